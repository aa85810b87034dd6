/- The statement BlockReads: the walk. -/
import Derived.Test.YtegjocpjmfaigaaSd
set_option linter.unusedSimpArgs false
set_option linter.unusedVariables false
namespace Go.Proofs.Ytegjocpjmfaigaa
open Go.En

/-- a cell of an owned slice of one-cell values -/
theorem _root_.Go.En.St.cellr {w0 w : World} {S0 : Nat → Prop} {L : List Res} {v : Value} {E n k : Nat} {xs : List Value} (hS : St w0 S0 w L) (i : Nat) (hi : L[i]? = some (row v E 1 n xs)) (hk : k < n) :
    ∃ b cap rest, v = .slice (some ⟨b, 0, none⟩) n cap ∧ n ≤ cap ∧ Blk w b (xs ++ rest) E ∧ xs.length = n ∧ (xs ++ rest)[0 + k * 1]? = xs[k]? := by
  obtain ⟨a, m, c, hv⟩ := hS.rowb i hi (by omega)
  have hl := (hS.ok i _ hi).len
  rcases hS.ok i _ hi with ⟨hv', _⟩ | ⟨bw, capw, restw, hv', hcap, hxl, hl', hB⟩
  · rw [hv] at hv'; cases hv'
  · refine ⟨bw, capw, restw, hv', hcap, hB, by omega, ?_⟩
    rw [Nat.zero_add, Nat.mul_one, List.getElem?_append_left (by omega)]
/-- a device that is up and not armed -/
def Dev.calm (D : Dev) : Prop := D.down = false ∧ ¬ 0 < D.fall.a
theorem write_calm {D : Dev} (h : D.calm) (i : Int) (bs : List UInt8) : (D.write i bs).1.calm := by
  by_cases hin : (0 ≤ i ∧ i < (D.cells.length : Int)) ∧ bs.length ≤ 128
  · rw [write_ok h.1 h.2 hin]; exact h
  · rw [write_no h.1 hin]; exact h
theorem sts_set (l : List (List UInt8)) (i : Nat) (s : List UInt8) : (sts l).set i (sv s) = sts (l.set i s) := by simp [sts, List.map_set]
theorem sts_len (l : List (List UInt8)) : (sts l).length = l.length := by simp [sts]
theorem sts_get {l : List (List UInt8)} {i : Nat} {s : List UInt8} (h : l[i]? = some s) : (sts l)[i]? = some (sv s) := by simp [sts, h]
theorem sts_one (l : List (List UInt8)) : (sts l).all (·.oneCell') = true := by
  rw [List.all_eq_true]
  intro v hv
  simp only [sts, List.mem_map] at hv
  obtain ⟨_, _, rfl⟩ := hv
  rfl
theorem spl_set {l : List Value} {i : Nat} (v : Value) (h : i < l.length) : spl l i [v] = l.set i v := by
  rw [List.set_eq_take_append_cons_drop, if_pos h]
  simp [spl]
theorem opsR_to {w0 w : World} {L : List Res} {E : TypeId} {v : Value} {ops : List Opd} (hv : OpsR E v ops w0) (hS : St w0 (fun _ => False) w L) : OpsR E v ops w :=
  ⟨hS.ro (r := rdR v E 6 ops.length (opsF ops)) hv.1 fun x hx => ⟨hv.1.lt x hx, fun h => h⟩, fun o ho => by
    obtain ⟨E', hb⟩ := hv.2 o ho
    exact ⟨E', hS.ro (r := rdR o.v E' 1 o.bs.length (bys o.bs)) hb fun x hx => ⟨hb.lt x hx, fun h => h⟩⟩⟩
theorem nowait_all {D : Dev} (hd : D.down = false) (hw : D.waits = []) : D.all = D.cells := by
  rw [← boot_all D]
  exact all_eq rfl hw hd
section
variable {w w0 : World} {S0 S : Nat → Prop} {K : Value → World → Prop} {E : TypeId} {L : List Res}
set_option maxRecDepth 100000 in
theorem l5 {bl : Int} {v : Value} {ops : List Opd} (h0 : 0 ≤ bl ∧ bl ≤ 255) (hv : OpsR E v ops w0) (h : ∀ w', Fr w0 (fun _ => False) w' → K (.bool true) w') : CK Try.prog 5 [.int .u8 bl, v] w0 K := by
  have hS := St.nil w0 (fun _ => False)
  have hfin : ∀ {w' : World} {L : List Res}, St w0 (fun _ => False) w' L → K (.bool true) w' := fun hS => h _ hS.fr
  obtain ⟨N, hN1, hN2, hN⟩ := blocks_of h0
  obtain ⟨a, c, rfl⟩ := Rd.form hv.1
  refine call_k Try.func5 k5 Try.ntmps5 (Nat.le_of_ble_eq_true rfl) ?_
  (repeat (first | refine g_sq ?_ | refine g_rg ?_ | refine g_r0 ?_ | refine g_ok rfl rfl ?_ | refine g_no rfl ?_ | refine g_no0 rfl ?_ | refine g_bk ?_ | refine g_b ?_ | refine g_sk ?_ | refine g_cT rfl ?_ | refine g_cF rfl ?_ | refine g_x rfl ?_ | refine g_lb ?_))
  refine g_cl rfl rfl (c22 hS fun w hS => ?_)
  (repeat (first | refine g_sq ?_ | refine g_rg ?_ | refine g_r0 ?_ | refine g_ok rfl rfl ?_ | refine g_no rfl ?_ | refine g_no0 rfl ?_ | refine g_bk ?_ | refine g_b ?_ | refine g_sk ?_ | refine g_cT rfl ?_ | refine g_cF rfl ?_ | refine g_x rfl ?_ | refine g_lb ?_))
  refine g_rq rfl rfl (by decide) ?_
  rw [hN]
  refine g_rq rfl rfl (in64 (by simp only [arv]; omega)) ?_
  rw [show arv BinOp.add 1 ((N : Int) - 1) = (N : Int) by simp only [arv]; omega]
  (repeat (first | refine g_sq ?_ | refine g_rg ?_ | refine g_r0 ?_ | refine g_ok rfl rfl ?_ | refine g_no rfl ?_ | refine g_no0 rfl ?_ | refine g_bk ?_ | refine g_b ?_ | refine g_sk ?_ | refine g_cT rfl ?_ | refine g_cF rfl ?_ | refine g_x rfl ?_ | refine g_lb ?_))
  refine g_cl rfl rfl (c18 hS (fun hn => absurd ⟨by omega, by omega⟩ hn) (fun hn w S b hS => ?_))
  have hS : St w0 (fun _ => False) w [DevR S b (Dev.new N)] := hS
  (repeat (first | refine g_sq ?_ | refine g_rg ?_ | refine g_r0 ?_ | refine g_ok rfl rfl ?_ | refine g_no rfl ?_ | refine g_no0 rfl ?_ | refine g_bk ?_ | refine g_b ?_ | refine g_sk ?_ | refine g_cT rfl ?_ | refine g_cF rfl ?_ | refine g_x rfl ?_ | refine g_lb ?_))
  have hvw : OpsR E (.slice a ops.length c) ops w := opsR_to hv hS
  refine g_cl rfl rfl (l17 hvw (fun hg => ?_) (fun hg => ?_))
  · (repeat (first | refine g_sq ?_ | refine g_rg ?_ | refine g_r0 ?_ | refine g_ok rfl rfl ?_ | refine g_no rfl ?_ | refine g_no0 rfl ?_ | refine g_bk ?_ | refine g_b ?_ | refine g_sk ?_ | refine g_cT rfl ?_ | refine g_cF rfl ?_ | refine g_x rfl ?_ | refine g_lb ?_))
    exact g_ret (q_1 rfl (hfin hS))
  (repeat (first | refine g_sq ?_ | refine g_rg ?_ | refine g_r0 ?_ | refine g_ok rfl rfl ?_ | refine g_no rfl ?_ | refine g_no0 rfl ?_ | refine g_bk ?_ | refine g_b ?_ | refine g_sk ?_ | refine g_cT rfl ?_ | refine g_cF rfl ?_ | refine g_x rfl ?_ | refine g_lb ?_))
  have hl0 : (Dev.new N).cells.length = N := List.length_replicate
  refine g_cl rfl rfl (c25 hS (by omega) fun w S1 vn hS => ?_)
  (repeat (first | refine g_sq ?_ | refine g_rg ?_ | refine g_r0 ?_ | refine g_ok rfl rfl ?_ | refine g_no rfl ?_ | refine g_no0 rfl ?_ | refine g_bk ?_ | refine g_b ?_ | refine g_sk ?_ | refine g_cT rfl ?_ | refine g_cF rfl ?_ | refine g_x rfl ?_ | refine g_lb ?_))
  refine g_cl rfl rfl (c25 hS (by omega) fun w S2 vs hS => ?_)
  (repeat (first | refine g_sq ?_ | refine g_rg ?_ | refine g_r0 ?_ | refine g_ok rfl rfl ?_ | refine g_no rfl ?_ | refine g_no0 rfl ?_ | refine g_bk ?_ | refine g_b ?_ | refine g_sk ?_ | refine g_cT rfl ?_ | refine g_cF rfl ?_ | refine g_x rfl ?_ | refine g_lb ?_))
  rw [hl0] at hS
  have hS := hS.sel [0, 2, 1] rfl rfl
  obtain ⟨an, cn, rfl⟩ := hS.rlen 1 rfl
  refine g_lp (ι := Nat × Value) (fun x => [(1, .slice a ops.length c), (5, .bool true), (7, dp b), (9, .slice an N cn), (10, x.2), (43, .int .i64 ops.length), (44, .int .i64 x.1)])
    (fun x w => x.1 ≤ ops.length ∧ ∃ S D, D.cells.length = N ∧ D.calm ∧ D.waits.length ≤ x.1 ∧ St w0 (fun _ => False) w [DevR S b D, row (.slice an N cn) 9 1 N (sts D.all), row x.2 9 1 N (sts D.cells)]) (fun x => ops.length - x.1) (0, vs) ⟨rfl, rfl, rfl, rfl, rfl, rfl, rfl, trivial⟩
    ⟨Nat.zero_le _, S2, Dev.new N, hl0, ⟨rfl, fun h => absurd h (Int.lt_irrefl 0)⟩, Nat.le_refl _, by rw [← new_all]; exact hS⟩ ?_
  clear hS
  rintro ⟨k, vs⟩ w ⟨hk, S, D, hDl, hcm, hDw, hS⟩
  simp only at hk hDw hS
  have h120 := hg.1
  (repeat (first | refine g_sq ?_ | refine g_rg ?_ | refine g_r0 ?_ | refine g_ok rfl rfl ?_ | refine g_no rfl ?_ | refine g_no0 rfl ?_ | refine g_bk ?_ | refine g_b ?_ | refine g_sk ?_ | refine g_cT rfl ?_ | refine g_cF rfl ?_ | refine g_x rfl ?_ | refine g_lb ?_))
  refine g_cd rfl (fun hq => ?_) (fun hq => ?_)
  all_goals simp only [cmv, decide_eq_true_eq, decide_eq_false_iff_not] at hq
  · -- an operation
    obtain ⟨o, bo, off, cap, l, av, cv, ho, hmem, he, hov, hll, hl6, hget, hro⟩ := op_at hv (k := k) (by omega)
    cases he
    have h300 := hg.2 o hmem
    (repeat (first | refine g_sq ?_ | refine g_rg ?_ | refine g_r0 ?_ | refine g_ok rfl rfl ?_ | refine g_no rfl ?_ | refine g_no0 rfl ?_ | refine g_bk ?_ | refine g_b ?_ | refine g_sk ?_ | refine g_cT rfl ?_ | refine g_cF rfl ?_ | refine g_x rfl ?_ | refine g_lb ?_))
    refine g_rq rfl rfl ⟨by omega, by omega⟩ ?_
    (repeat (first | refine g_sq ?_ | refine g_rg ?_ | refine g_r0 ?_ | refine g_ok rfl rfl ?_ | refine g_no rfl ?_ | refine g_no0 rfl ?_ | refine g_bk ?_ | refine g_b ?_ | refine g_sk ?_ | refine g_cT rfl ?_ | refine g_cF rfl ?_ | refine g_x rfl ?_ | refine g_lb ?_))
    refine g_l1r (v := .int .i64 o.k) rfl rfl (hro hS).1 (hget 0 (by decide)) ?_
    refine g_atx (ι := Value) 2 (fun x => [(1, .slice (some ⟨bo, off, none⟩) ops.length c), (5, .bool true), (7, dp b), (9, .slice an N cn), (10, x), (43, .int .i64 ops.length), (44, .int .i64 k)])
      (fun x w => ∃ S D, D.cells.length = N ∧ D.calm ∧ D.waits.length ≤ k + 1 ∧ St w0 (fun _ => False) w [DevR S b D, row (.slice an N cn) 9 1 N (sts D.all), row x 9 1 N (sts D.cells)]) rfl ?_ ?_
    · (repeat (first | refine g_sq ?_ | refine g_rg ?_ | refine g_r0 ?_ | refine g_ok rfl rfl ?_ | refine g_no rfl ?_ | refine g_no0 rfl ?_ | refine g_bk ?_ | refine g_b ?_ | refine g_sk ?_ | refine g_cT rfl ?_ | refine g_cF rfl ?_ | refine g_x rfl ?_ | refine g_lb ?_))
      refine g_cd rfl (fun hz => ?_) (fun hz => ?_)
      all_goals simp only [cmv, decide_eq_true_eq, decide_eq_false_iff_not] at hz
      · -- a write
        (repeat (first | refine g_sq ?_ | refine g_rg ?_ | refine g_r0 ?_ | refine g_ok rfl rfl ?_ | refine g_no rfl ?_ | refine g_no0 rfl ?_ | refine g_bk ?_ | refine g_b ?_ | refine g_sk ?_ | refine g_cT rfl ?_ | refine g_cF rfl ?_ | refine g_x rfl ?_ | refine g_lb ?_))
        refine g_dr mixed ?_
        have hS := hS.drew
        (repeat (first | refine d_ok rfl rfl rfl ?_ | refine d_no rfl rfl ?_))
        refine d_rq rfl rfl rfl ⟨by omega, by omega⟩ ?_
        (repeat (first | refine d_ok rfl rfl rfl ?_ | refine d_no rfl rfl ?_))
        refine d_l1r (v := .int .i64 o.a) rfl rfl rfl (hro hS).1 (hget 1 (by decide)) ?_
        (repeat (first | refine d_ok rfl rfl rfl ?_ | refine d_no rfl rfl ?_))
        refine d_rq rfl rfl rfl ⟨by omega, by omega⟩ ?_
        (repeat (first | refine d_ok rfl rfl rfl ?_ | refine d_no rfl rfl ?_))
        refine d_l1r (v := o.v) rfl rfl rfl (hro hS).1 (hget 2 (by decide)) ?_
        obtain ⟨hB, ⟨E', hbo⟩, hdis⟩ := hro hS
        refine d_cl rfl rfl rfl (c23 hS hbo (fun x hx => hdis 0 _ rfl x hx) (by omega) fun w S1 hS => ⟨rc_0, ?_⟩)
        have hcm' := write_calm hcm o.a o.bs
        by_cases hin : (0 ≤ o.a ∧ o.a < (D.cells.length : Int)) ∧ o.bs.length ≤ 128
        · have ew := write_ok hcm.1 hcm.2 hin
          have hal : (D.write o.a o.bs).1.all = D.all.set o.a.toNat (pad o.bs) := by
            rw [← wr1_all hcm.1 hin.1 o.bs, ew]; exact all_eq rfl rfl rfl
          have hcl : (D.write o.a o.bs).1.cells = D.cells := by rw [ew]; rfl
          have hwl : (D.write o.a o.bs).1.waits.length = D.waits.length + 1 := by rw [ew]; simp [Dev.wr1]
          have e2 : (D.write o.a o.bs).2 = 0 := by rw [ew]
          rw [e2]
          generalize (D.write o.a o.bs).1 = D1 at hS hcm' hal hcl hwl
          (repeat (first | refine d_ok rfl rfl rfl ?_ | refine d_no rfl rfl ?_))
          refine d_fin ?_
          (repeat (first | refine g_sq ?_ | refine g_rg ?_ | refine g_r0 ?_ | refine g_ok rfl rfl ?_ | refine g_no rfl ?_ | refine g_no0 rfl ?_ | refine g_bk ?_ | refine g_b ?_ | refine g_sk ?_ | refine g_cT rfl ?_ | refine g_cF rfl ?_ | refine g_x rfl ?_ | refine g_lb ?_))
          obtain ⟨b1, cap1, rest1, hv1, h1c, h2c, hS⟩ := hS.open_row 1 rfl (hS.rowb 1 rfl (by omega))
          cases hv1
          refine g_dr mixed ?_
          have hS := hS.drew
          (repeat (first | refine d_ok rfl rfl rfl ?_ | refine d_no rfl rfl ?_))
          refine d_rq rfl rfl rfl ⟨by omega, by omega⟩ ?_
          (repeat (first | refine d_ok rfl rfl rfl ?_ | refine d_no rfl rfl ?_))
          refine d_l1r (v := .int .i64 o.a) rfl rfl rfl (hro hS).1 (hget 1 (by decide)) ?_
          (repeat (first | refine d_ok rfl rfl rfl ?_ | refine d_no rfl rfl ?_))
          refine d_rq rfl rfl rfl ⟨by omega, by omega⟩ ?_
          (repeat (first | refine d_ok rfl rfl rfl ?_ | refine d_no rfl rfl ?_))
          refine d_l1r (v := o.v) rfl rfl rfl (hro hS).1 (hget 2 (by decide)) ?_
          obtain ⟨E', hbo⟩ := (hro hS).2.1
          refine d_qt rfl rfl rfl (qt_bsR rfl hbo) ?_
          refine d_cl rfl rfl rfl (c26 hS (by omega) fun w hS => ⟨rc_1r rfl rfl rfl rfl (hro hS).1 (hget 1 (by decide)) rc_0, ?_⟩)
          (repeat (first | refine d_ok rfl rfl rfl ?_ | refine d_no rfl rfl ?_))
          refine d_rq rfl rfl rfl ⟨by omega, by omega⟩ ?_
          refine d_e0 rfl rfl ?_
          have hxl : o.a.toNat < (sts D.all).length := by rw [sts_len, D.all_len]; omega
          refine ef_st hS 1 rfl rfl rfl rfl (by
            show 0 + o.a.toNat * 1 + 1 ≤ (sts D.all ++ rest1).length
            rw [List.length_append]; omega) rfl fun w hS => ⟨rc_0, ?_⟩
          have hS := hS.ceq (l' := sts D1.all ++ rest1) 1 rfl (by
            show spl (sts D.all ++ rest1) (0 + o.a.toNat * 1) [sv (pad o.bs)] = _
            rw [Nat.zero_add, Nat.mul_one, spl_set _ (by rw [List.length_append]; omega), List.set_append_left _ _ hxl, sts_set, hal])
          have hS := hS.close_row (sz := 1) (n := N) (cap := cn) 1 rfl h1c (by rw [sts_len, Dev.all_len, hcl, hDl, Nat.mul_one]) (List.prefix_append _ _) (by rw [← h2c]; simp [sts_len, Dev.all_len, hcl])
          refine d_fin ?_
          (repeat (first | refine g_sq ?_ | refine g_rg ?_ | refine g_r0 ?_ | refine g_ok rfl rfl ?_ | refine g_no rfl ?_ | refine g_no0 rfl ?_ | refine g_bk ?_ | refine g_b ?_ | refine g_sk ?_ | refine g_cT rfl ?_ | refine g_cF rfl ?_ | refine g_x rfl ?_ | refine g_lb ?_))
          exact g_jx vs ⟨rfl, rfl, rfl, rfl, rfl, rfl, rfl, trivial⟩ ⟨S1, D1, by rw [hcl]; exact hDl, hcm', by omega, by rw [hcl]; exact hS⟩
        · have ew := write_no hcm.1 hin
          rw [ew] at hS ⊢
          (repeat (first | refine d_ok rfl rfl rfl ?_ | refine d_no rfl rfl ?_))
          refine d_fin ?_
          (repeat (first | refine g_sq ?_ | refine g_rg ?_ | refine g_r0 ?_ | refine g_ok rfl rfl ?_ | refine g_no rfl ?_ | refine g_no0 rfl ?_ | refine g_bk ?_ | refine g_b ?_ | refine g_sk ?_ | refine g_cT rfl ?_ | refine g_cF rfl ?_ | refine g_x rfl ?_ | refine g_lb ?_))
          exact g_jx vs ⟨rfl, rfl, rfl, rfl, rfl, rfl, rfl, trivial⟩ ⟨S1, D, hDl, hcm, by omega, hS⟩
      · (repeat (first | refine g_sq ?_ | refine g_rg ?_ | refine g_r0 ?_ | refine g_ok rfl rfl ?_ | refine g_no rfl ?_ | refine g_no0 rfl ?_ | refine g_bk ?_ | refine g_b ?_ | refine g_sk ?_ | refine g_cT rfl ?_ | refine g_cF rfl ?_ | refine g_x rfl ?_ | refine g_lb ?_))
        refine g_cd rfl (fun hz => ?_) (fun hz => ?_)
        all_goals simp only [cmv, decide_eq_true_eq, decide_eq_false_iff_not] at hz
        · -- a sync
          obtain ⟨hwf, _⟩ := DevR.blk hS
          have es := sync_ok hcm.1 hcm.2
          have hc1 : D.sync.1.cells = D.all := by rw [es]; exact putAll_all hwf hcm.1
          have hc2 : D.sync.1.waits = [] := by rw [es]; rfl
          have hc3 : D.sync.1.calm := by rw [es]; exact hcm
          have hc4 : D.sync.2 = 0 := by rw [es]
          have hal : D.sync.1.all = D.all := by rw [nowait_all hc3.1 hc2, hc1]
          (repeat (first | refine g_sq ?_ | refine g_rg ?_ | refine g_r0 ?_ | refine g_ok rfl rfl ?_ | refine g_no rfl ?_ | refine g_no0 rfl ?_ | refine g_bk ?_ | refine g_b ?_ | refine g_sk ?_ | refine g_cT rfl ?_ | refine g_cF rfl ?_ | refine g_x rfl ?_ | refine g_lb ?_))
          refine g_cl rfl rfl (c24 hS fun w S1 hS => ?_)
          rw [hc4]
          generalize D.sync.1 = D1 at hS hc1 hc2 hc3 hal
          (repeat (first | refine g_sq ?_ | refine g_rg ?_ | refine g_r0 ?_ | refine g_ok rfl rfl ?_ | refine g_no rfl ?_ | refine g_no0 rfl ?_ | refine g_bk ?_ | refine g_b ?_ | refine g_sk ?_ | refine g_cT rfl ?_ | refine g_cF rfl ?_ | refine g_x rfl ?_ | refine g_lb ?_))
          refine g_cl rfl rfl (d31 hS ?_)
          rw [hc2]
          (repeat (first | refine g_sq ?_ | refine g_rg ?_ | refine g_r0 ?_ | refine g_ok rfl rfl ?_ | refine g_no rfl ?_ | refine g_no0 rfl ?_ | refine g_bk ?_ | refine g_b ?_ | refine g_sk ?_ | refine g_cT rfl ?_ | refine g_cF rfl ?_ | refine g_x rfl ?_ | refine g_lb ?_))
          refine g_ef rfl (ef_bl (rs := []) hS rfl fun g w hS => ?_)
          have hS := hS.close_row (sz := 1) (n := 0) (cap := 0) (xs := []) 3 rfl (Nat.le_refl _) rfl (List.prefix_refl _) rfl
          (repeat (first | refine g_sq ?_ | refine g_rg ?_ | refine g_r0 ?_ | refine g_ok rfl rfl ?_ | refine g_no rfl ?_ | refine g_no0 rfl ?_ | refine g_bk ?_ | refine g_b ?_ | refine g_sk ?_ | refine g_cT rfl ?_ | refine g_cF rfl ?_ | refine g_x rfl ?_ | refine g_lb ?_))
          refine g_ef rfl (ef_ap (n := 0) (m := N) (xs := []) hS 3 rfl rfl rfl (.inl ⟨9, Ow.rd (hS.ok 1 _ rfl)⟩) (sts_one _) (by omega) (by omega) fun v1 w hS => ?_)
          rw [Nat.zero_add, List.nil_append] at hS
          (repeat (first | refine g_sq ?_ | refine g_rg ?_ | refine g_r0 ?_ | refine g_ok rfl rfl ?_ | refine g_no rfl ?_ | refine g_no0 rfl ?_ | refine g_bk ?_ | refine g_b ?_ | refine g_sk ?_ | refine g_cT rfl ?_ | refine g_cF rfl ?_ | refine g_x rfl ?_ | refine g_lb ?_))
          exact g_jx v1 ⟨rfl, rfl, rfl, rfl, rfl, rfl, rfl, trivial⟩ ⟨S1, D1, by rw [hc1, D.all_len]; exact hDl, hc3, by rw [hc2]; exact Nat.zero_le _, by rw [hc1, hal]; exact hS.sel [0, 1, 3] rfl rfl⟩
        · (repeat (first | refine g_sq ?_ | refine g_rg ?_ | refine g_r0 ?_ | refine g_ok rfl rfl ?_ | refine g_no rfl ?_ | refine g_no0 rfl ?_ | refine g_bk ?_ | refine g_b ?_ | refine g_sk ?_ | refine g_cT rfl ?_ | refine g_cF rfl ?_ | refine g_x rfl ?_ | refine g_lb ?_))
          exact g_jx vs ⟨rfl, rfl, rfl, rfl, rfl, rfl, rfl, trivial⟩ ⟨S, D, hDl, hcm, by omega, hS⟩
    · clear hS hDw hcm hDl
      rintro vs T w hT ⟨S, D, hDl, hcm, hDw, hS⟩
      refine g_wkc hT ?_
      (repeat (first | refine g_sq ?_ | refine g_rg ?_ | refine g_r0 ?_ | refine g_ok rfl rfl ?_ | refine g_no rfl ?_ | refine g_no0 rfl ?_ | refine g_bk ?_ | refine g_b ?_ | refine g_sk ?_ | refine g_cT rfl ?_ | refine g_cF rfl ?_ | refine g_x rfl ?_ | refine g_lb ?_))
      refine g_cl rfl rfl (c25 hS (by omega) fun w S1 vg hS => ?_)
      obtain ⟨ag, cg, rfl⟩ := hS.rlen 1 rfl
      (repeat (first | refine g_sq ?_ | refine g_rg ?_ | refine g_r0 ?_ | refine g_ok rfl rfl ?_ | refine g_no rfl ?_ | refine g_no0 rfl ?_ | refine g_bk ?_ | refine g_b ?_ | refine g_sk ?_ | refine g_cT rfl ?_ | refine g_cF rfl ?_ | refine g_x rfl ?_ | refine g_lb ?_))
      rw [hDl] at hS ⊢
      refine g_lp (ι := Nat) (fun i => [(1, .slice (some ⟨bo, off, none⟩) ops.length c), (5, .bool true), (7, dp b), (9, .slice an N cn), (10, vs), (12, .slice ag N cg), (43, .int .i64 ops.length), (44, .int .i64 k), (97, .int .i64 N), (98, .int .i64 i)])
        (fun i w => i ≤ N ∧ St w0 (fun _ => False) w [DevR S1 b D, row (.slice ag N cg) 9 1 N (sts D.all), row (.slice an N cn) 9 1 N (sts D.all), row vs 9 1 N (sts D.cells)]) (fun i => N - i) 0 ⟨rfl, rfl, rfl, rfl, rfl, rfl, rfl, rfl, rfl, rfl, trivial⟩ ⟨Nat.zero_le _, hS⟩ ?_
      clear hS
      rintro i w ⟨hi, hS⟩
      (repeat (first | refine g_sq ?_ | refine g_rg ?_ | refine g_r0 ?_ | refine g_ok rfl rfl ?_ | refine g_no rfl ?_ | refine g_no0 rfl ?_ | refine g_bk ?_ | refine g_b ?_ | refine g_sk ?_ | refine g_cT rfl ?_ | refine g_cF rfl ?_ | refine g_x rfl ?_ | refine g_lb ?_))
      refine g_cd rfl (fun hc => ?_) (fun hc => ?_)
      all_goals simp only [cmv, decide_eq_true_eq, decide_eq_false_iff_not] at hc
      · have hx : D.all[i]? = some (D.rd i) := all_get hcm.1 (by omega)
        obtain ⟨b1, cap1, rest1, he1, _, hB1, _, hg1⟩ := hS.cellr (k := i) 1 rfl (by omega)
        obtain ⟨b2, cap2, rest2, he2, _, hB2, _, hg2⟩ := hS.cellr (k := i) 2 rfl (by omega)
        cases he1; cases he2
        rw [sts_get hx] at hg1 hg2
        (repeat (first | refine g_sq ?_ | refine g_rg ?_ | refine g_r0 ?_ | refine g_ok rfl rfl ?_ | refine g_no rfl ?_ | refine g_no0 rfl ?_ | refine g_bk ?_ | refine g_b ?_ | refine g_sk ?_ | refine g_cT rfl ?_ | refine g_cF rfl ?_ | refine g_x rfl ?_ | refine g_lb ?_))
        refine g_dr mixed ?_
        have hS := hS.drew
        (repeat (first | refine d_ok rfl rfl rfl ?_ | refine d_no rfl rfl ?_))
        refine d_rq rfl rfl rfl ⟨by omega, by omega⟩ ?_
        refine d_l1 rfl rfl rfl hB1 hg1 ?_
        (repeat (first | refine d_ok rfl rfl rfl ?_ | refine d_no rfl rfl ?_))
        refine d_rq rfl rfl rfl ⟨by omega, by omega⟩ ?_
        refine d_l1 rfl rfl rfl hB2 hg2 ?_
        refine d_ok (v := .bool false) rfl rfl (congrArg (fun x => R3.ok (.bool (!x))) (decide_eq_true rfl)) ?_
        (repeat (first | refine d_ok rfl rfl rfl ?_ | refine d_no rfl rfl ?_))
        refine d_fin ?_
        (repeat (first | refine g_sq ?_ | refine g_rg ?_ | refine g_r0 ?_ | refine g_ok rfl rfl ?_ | refine g_no rfl ?_ | refine g_no0 rfl ?_ | refine g_bk ?_ | refine g_b ?_ | refine g_sk ?_ | refine g_cT rfl ?_ | refine g_cF rfl ?_ | refine g_x rfl ?_ | refine g_lb ?_))
        refine g_rq rfl rfl (in64 (by simp only [arv]; omega)) ?_
        (repeat (first | refine g_sq ?_ | refine g_rg ?_ | refine g_r0 ?_ | refine g_ok rfl rfl ?_ | refine g_no rfl ?_ | refine g_no0 rfl ?_ | refine g_bk ?_ | refine g_b ?_ | refine g_sk ?_ | refine g_cT rfl ?_ | refine g_cF rfl ?_ | refine g_x rfl ?_ | refine g_lb ?_))
        exact g_l (i + 1) ⟨rfl, rfl, rfl, rfl, rfl, rfl, rfl, rfl, rfl, rfl, trivial⟩ ⟨by omega, hS⟩ (by omega)
      · (repeat (first | refine g_sq ?_ | refine g_rg ?_ | refine g_r0 ?_ | refine g_ok rfl rfl ?_ | refine g_no rfl ?_ | refine g_no0 rfl ?_ | refine g_bk ?_ | refine g_b ?_ | refine g_sk ?_ | refine g_cT rfl ?_ | refine g_cF rfl ?_ | refine g_x rfl ?_ | refine g_lb ?_))
        refine g_rq rfl rfl (in64 (by simp only [arv]; omega)) ?_
        (repeat (first | refine g_sq ?_ | refine g_rg ?_ | refine g_r0 ?_ | refine g_ok rfl rfl ?_ | refine g_no rfl ?_ | refine g_no0 rfl ?_ | refine g_bk ?_ | refine g_b ?_ | refine g_sk ?_ | refine g_cT rfl ?_ | refine g_cF rfl ?_ | refine g_x rfl ?_ | refine g_lb ?_))
        exact g_l (k + 1, vs) ⟨rfl, rfl, rfl, rfl, rfl, rfl, rfl, trivial⟩ ⟨by simp only; omega, S1, D, hDl, hcm, hDw, hS.sel [0, 2, 3] rfl rfl⟩ (by simp only; omega)
  · -- the end
    (repeat (first | refine g_sq ?_ | refine g_rg ?_ | refine g_r0 ?_ | refine g_ok rfl rfl ?_ | refine g_no rfl ?_ | refine g_no0 rfl ?_ | refine g_bk ?_ | refine g_b ?_ | refine g_sk ?_ | refine g_cT rfl ?_ | refine g_cF rfl ?_ | refine g_x rfl ?_ | refine g_lb ?_))
    refine g_cl rfl rfl (c29 hS fun w S1 hS => ?_)
    (repeat (first | refine g_sq ?_ | refine g_rg ?_ | refine g_r0 ?_ | refine g_ok rfl rfl ?_ | refine g_no rfl ?_ | refine g_no0 rfl ?_ | refine g_bk ?_ | refine g_b ?_ | refine g_sk ?_ | refine g_cT rfl ?_ | refine g_cF rfl ?_ | refine g_x rfl ?_ | refine g_lb ?_))
    refine g_cl rfl rfl (d28 hS ?_)
    have hb1 : D.boot.cells.length = N := hDl
    have hb2 : D.boot.all = D.cells := boot_all D
    (repeat (first | refine g_sq ?_ | refine g_rg ?_ | refine g_r0 ?_ | refine g_ok rfl rfl ?_ | refine g_no rfl ?_ | refine g_no0 rfl ?_ | refine g_bk ?_ | refine g_b ?_ | refine g_sk ?_ | refine g_cT rfl ?_ | refine g_cF rfl ?_ | refine g_x rfl ?_ | refine g_lb ?_))
    refine g_cl rfl rfl (c25 hS (by omega) fun w S2 vg hS => ?_)
    obtain ⟨ag, cg, rfl⟩ := hS.rlen 1 rfl
    obtain ⟨az, cs, rfl⟩ := hS.rlen 3 rfl
    (repeat (first | refine g_sq ?_ | refine g_rg ?_ | refine g_r0 ?_ | refine g_ok rfl rfl ?_ | refine g_no rfl ?_ | refine g_no0 rfl ?_ | refine g_bk ?_ | refine g_b ?_ | refine g_sk ?_ | refine g_cT rfl ?_ | refine g_cF rfl ?_ | refine g_x rfl ?_ | refine g_lb ?_))
    rw [hb1, hb2] at hS
    rw [hb1]
    refine g_lp (ι := Nat) (fun i => [(5, .bool true), (10, .slice az N cs), (14, .slice ag N cg), (123, .int .i64 N), (124, .int .i64 i)])
      (fun i w => i ≤ N ∧ St w0 (fun _ => False) w [DevR S2 b D.boot, row (.slice ag N cg) 9 1 N (sts D.cells), row (.slice an N cn) 9 1 N (sts D.all), row (.slice az N cs) 9 1 N (sts D.cells)]) (fun i => N - i) 0 ⟨rfl, rfl, rfl, rfl, rfl, trivial⟩ ⟨Nat.zero_le _, hS⟩ ?_
    clear hS
    rintro i w ⟨hi, hS⟩
    (repeat (first | refine g_sq ?_ | refine g_rg ?_ | refine g_r0 ?_ | refine g_ok rfl rfl ?_ | refine g_no rfl ?_ | refine g_no0 rfl ?_ | refine g_bk ?_ | refine g_b ?_ | refine g_sk ?_ | refine g_cT rfl ?_ | refine g_cF rfl ?_ | refine g_x rfl ?_ | refine g_lb ?_))
    refine g_cd rfl (fun hc => ?_) (fun hc => ?_)
    all_goals simp only [cmv, decide_eq_true_eq, decide_eq_false_iff_not] at hc
    · have hx : D.cells[i]? = some (D.cells[i]'(by omega)) := List.getElem?_eq_getElem _
      obtain ⟨b1, cap1, rest1, he1, _, hB1, _, hg1⟩ := hS.cellr (k := i) 1 rfl (by omega)
      obtain ⟨b2, cap2, rest2, he2, _, hB2, _, hg2⟩ := hS.cellr (k := i) 3 rfl (by omega)
      cases he1; cases he2
      rw [sts_get hx] at hg1 hg2
      (repeat (first | refine g_sq ?_ | refine g_rg ?_ | refine g_r0 ?_ | refine g_ok rfl rfl ?_ | refine g_no rfl ?_ | refine g_no0 rfl ?_ | refine g_bk ?_ | refine g_b ?_ | refine g_sk ?_ | refine g_cT rfl ?_ | refine g_cF rfl ?_ | refine g_x rfl ?_ | refine g_lb ?_))
      refine g_dr mixed ?_
      have hS := hS.drew
      (repeat (first | refine d_ok rfl rfl rfl ?_ | refine d_no rfl rfl ?_))
      refine d_rq rfl rfl rfl ⟨by omega, by omega⟩ ?_
      refine d_l1 rfl rfl rfl hB1 hg1 ?_
      (repeat (first | refine d_ok rfl rfl rfl ?_ | refine d_no rfl rfl ?_))
      refine d_rq rfl rfl rfl ⟨by omega, by omega⟩ ?_
      refine d_l1 rfl rfl rfl hB2 hg2 ?_
      refine d_ok (v := .bool false) rfl rfl (congrArg (fun x => R3.ok (.bool (!x))) (decide_eq_true rfl)) ?_
      (repeat (first | refine d_ok rfl rfl rfl ?_ | refine d_no rfl rfl ?_))
      refine d_fin ?_
      (repeat (first | refine g_sq ?_ | refine g_rg ?_ | refine g_r0 ?_ | refine g_ok rfl rfl ?_ | refine g_no rfl ?_ | refine g_no0 rfl ?_ | refine g_bk ?_ | refine g_b ?_ | refine g_sk ?_ | refine g_cT rfl ?_ | refine g_cF rfl ?_ | refine g_x rfl ?_ | refine g_lb ?_))
      refine g_rq rfl rfl (in64 (by simp only [arv]; omega)) ?_
      (repeat (first | refine g_sq ?_ | refine g_rg ?_ | refine g_r0 ?_ | refine g_ok rfl rfl ?_ | refine g_no rfl ?_ | refine g_no0 rfl ?_ | refine g_bk ?_ | refine g_b ?_ | refine g_sk ?_ | refine g_cT rfl ?_ | refine g_cF rfl ?_ | refine g_x rfl ?_ | refine g_lb ?_))
      exact g_l (i + 1) ⟨rfl, rfl, rfl, rfl, rfl, trivial⟩ ⟨by omega, hS⟩ (by omega)
    · (repeat (first | refine g_sq ?_ | refine g_rg ?_ | refine g_r0 ?_ | refine g_ok rfl rfl ?_ | refine g_no rfl ?_ | refine g_no0 rfl ?_ | refine g_bk ?_ | refine g_b ?_ | refine g_sk ?_ | refine g_cT rfl ?_ | refine g_cF rfl ?_ | refine g_x rfl ?_ | refine g_lb ?_))
      exact g_ret (q_1 rfl (hfin hS))
end
end Go.Proofs.Ytegjocpjmfaigaa
