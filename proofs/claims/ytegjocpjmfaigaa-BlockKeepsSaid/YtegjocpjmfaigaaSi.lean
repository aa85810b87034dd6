/- The statement BlockKeeps: the walk (printed by gen_sh.py). -/
import Derived.Test.YtegjocpjmfaigaaSh
set_option linter.unusedSimpArgs false
set_option linter.unusedVariables false
namespace Go.Proofs.Ytegjocpjmfaigaa
open Go.En

section
variable {w w0 : World} {S0 S : Nat → Prop} {K : Value → World → Prop} {E E2 : TypeId} {L : List Res}
set_option maxRecDepth 100000 in
set_option maxHeartbeats 1000000 in
theorem l4 {bl : Int} {v v2 : Value} {ops ops2 : List Opd} {f : Fal} (h0 : 0 ≤ bl ∧ bl ≤ 255) (hv : OpsR E v ops w0) (hv2 : OpsR E2 v2 ops2 w0) (h : ∀ w', Fr w0 (fun _ => False) w' → K (.bool true) w') : CK Try.prog 4 [.int .u8 bl, v, v2, falV f] w0 K := by
  have hS := St.nil w0 (fun _ => False)
  have hfin : ∀ {w' : World} {L : List Res}, St w0 (fun _ => False) w' L → K (.bool true) w' := fun hS => h _ hS.fr
  obtain ⟨N, hN1, hN2, hN⟩ := blocks_of h0
  obtain ⟨a, c, rfl⟩ := Rd.form hv.1
  obtain ⟨a2, c2, rfl⟩ := Rd.form hv2.1
  refine call_k Try.func4 k4 Try.ntmps4 (Nat.le_of_ble_eq_true rfl) ?_
  (repeat (first | refine g_sq ?_ | refine g_rg ?_ | refine g_r0 ?_ | refine g_ok rfl rfl ?_ | refine g_no rfl ?_ | refine g_no0 rfl ?_ | refine g_bk ?_ | refine g_b ?_ | refine g_sk ?_ | refine g_cT rfl ?_ | refine g_cF rfl ?_ | refine g_x rfl ?_ | refine g_lb ?_))
  refine g_ef rfl (ef_bx hS rfl fun b7 w hS => ?_)
  have hS : St w0 (fun _ => False) w [cel b7 (falV f).cells.toList 37] := hS
  (repeat (first | refine g_sq ?_ | refine g_rg ?_ | refine g_r0 ?_ | refine g_ok rfl rfl ?_ | refine g_no rfl ?_ | refine g_no0 rfl ?_ | refine g_bk ?_ | refine g_b ?_ | refine g_sk ?_ | refine g_cT rfl ?_ | refine g_cF rfl ?_ | refine g_x rfl ?_ | refine g_lb ?_))
  refine g_cl rfl rfl (c22 hS fun w hS => ?_)
  (repeat (first | refine g_sq ?_ | refine g_rg ?_ | refine g_r0 ?_ | refine g_ok rfl rfl ?_ | refine g_no rfl ?_ | refine g_no0 rfl ?_ | refine g_bk ?_ | refine g_b ?_ | refine g_sk ?_ | refine g_cT rfl ?_ | refine g_cF rfl ?_ | refine g_x rfl ?_ | refine g_lb ?_))
  refine g_rq rfl rfl (by decide) ?_
  rw [hN]
  refine g_rq rfl rfl (in64 (by simp only [arv]; omega)) ?_
  rw [show arv BinOp.add 1 ((N : Int) - 1) = (N : Int) by simp only [arv]; omega]
  (repeat (first | refine g_sq ?_ | refine g_rg ?_ | refine g_r0 ?_ | refine g_ok rfl rfl ?_ | refine g_no rfl ?_ | refine g_no0 rfl ?_ | refine g_bk ?_ | refine g_b ?_ | refine g_sk ?_ | refine g_cT rfl ?_ | refine g_cF rfl ?_ | refine g_x rfl ?_ | refine g_lb ?_))
  refine g_cl rfl rfl (c18 hS (fun hn => absurd ⟨by omega, by omega⟩ hn) (fun hn w S b hS => ?_))
  have hS : St w0 (fun _ => False) w [cel b7 (falV f).cells.toList 37, DevR S b (Dev.new N)] := hS
  have hS := hS.sel [1, 0] rfl rfl
  (repeat (first | refine g_sq ?_ | refine g_rg ?_ | refine g_r0 ?_ | refine g_ok rfl rfl ?_ | refine g_no rfl ?_ | refine g_no0 rfl ?_ | refine g_bk ?_ | refine g_b ?_ | refine g_sk ?_ | refine g_cT rfl ?_ | refine g_cF rfl ?_ | refine g_x rfl ?_ | refine g_lb ?_))
  have hvw : OpsR E (.slice a ops.length c) ops w := opsR_to hv hS
  have hvw2 : OpsR E2 (.slice a2 ops2.length c2) ops2 w := opsR_to hv2 hS
  refine g_cl rfl rfl (l17 hvw (fun hg => ?_) (fun hg => ?_))
  · (repeat (first | refine g_sq ?_ | refine g_rg ?_ | refine g_r0 ?_ | refine g_ok rfl rfl ?_ | refine g_no rfl ?_ | refine g_no0 rfl ?_ | refine g_bk ?_ | refine g_b ?_ | refine g_sk ?_ | refine g_cT rfl ?_ | refine g_cF rfl ?_ | refine g_x rfl ?_ | refine g_lb ?_))
    exact g_ret (q_1 rfl (hfin hS))
  (repeat (first | refine g_sq ?_ | refine g_rg ?_ | refine g_r0 ?_ | refine g_ok rfl rfl ?_ | refine g_no rfl ?_ | refine g_no0 rfl ?_ | refine g_bk ?_ | refine g_b ?_ | refine g_sk ?_ | refine g_cT rfl ?_ | refine g_cF rfl ?_ | refine g_x rfl ?_ | refine g_lb ?_))
  refine g_cl rfl rfl (l17 hvw2 (fun hg2 => ?_) (fun hg2 => ?_))
  · (repeat (first | refine g_sq ?_ | refine g_rg ?_ | refine g_r0 ?_ | refine g_ok rfl rfl ?_ | refine g_no rfl ?_ | refine g_no0 rfl ?_ | refine g_bk ?_ | refine g_b ?_ | refine g_sk ?_ | refine g_cT rfl ?_ | refine g_cF rfl ?_ | refine g_x rfl ?_ | refine g_lb ?_))
    exact g_ret (q_1 rfl (hfin hS))
  (repeat (first | refine g_sq ?_ | refine g_rg ?_ | refine g_r0 ?_ | refine g_ok rfl rfl ?_ | refine g_no rfl ?_ | refine g_no0 rfl ?_ | refine g_bk ?_ | refine g_b ?_ | refine g_sk ?_ | refine g_cT rfl ?_ | refine g_cF rfl ?_ | refine g_x rfl ?_ | refine g_lb ?_))
  generalize hq : cmv BinOp.gtr (ops2.length : Int) 30 = q
  cases q
  all_goals simp only [cmv, decide_eq_true_eq, decide_eq_false_iff_not] at hq
  rotate_left
  · (repeat (first | refine g_sq ?_ | refine g_rg ?_ | refine g_r0 ?_ | refine g_ok rfl rfl ?_ | refine g_no rfl ?_ | refine g_no0 rfl ?_ | refine g_bk ?_ | refine g_b ?_ | refine g_sk ?_ | refine g_cT rfl ?_ | refine g_cF rfl ?_ | refine g_x rfl ?_ | refine g_lb ?_))
    exact g_ret (q_1 rfl (hfin hS))
  (repeat (first | refine g_sq ?_ | refine g_rg ?_ | refine g_r0 ?_ | refine g_ok rfl rfl ?_ | refine g_no rfl ?_ | refine g_no0 rfl ?_ | refine g_bk ?_ | refine g_b ?_ | refine g_sk ?_ | refine g_cT rfl ?_ | refine g_cF rfl ?_ | refine g_x rfl ?_ | refine g_lb ?_))
  have hl0 : (Dev.new N).cells.length = N := List.length_replicate
  have h120 := hg.1
  refine g_lp (ι := Nat) (fun k => [(1, .slice a ops.length c), (2, .slice a2 ops2.length c2), (7, dp b7), (9, .bool true), (10, dp b), (51, .int .i64 ops.length), (52, .int .i64 k)])
    (fun k w => k ≤ ops.length ∧ ∃ S D, D.cells.length = N ∧ D.calm ∧ D.waits.length ≤ k ∧ St w0 (fun _ => False) w [DevR S b D, cel b7 (falV f).cells.toList 37]) (fun k => ops.length - k) 0 ⟨rfl, rfl, rfl, rfl, rfl, rfl, rfl, trivial⟩
    ⟨Nat.zero_le _, S, Dev.new N, hl0, ⟨rfl, fun h => absurd h (Int.lt_irrefl 0)⟩, Nat.le_refl _, hS⟩ ?_
  clear hS hvw hvw2
  rintro k w ⟨hk, S, D, hDl, hcm, hDw, hS⟩
  (repeat (first | refine g_sq ?_ | refine g_rg ?_ | refine g_r0 ?_ | refine g_ok rfl rfl ?_ | refine g_no rfl ?_ | refine g_no0 rfl ?_ | refine g_bk ?_ | refine g_b ?_ | refine g_sk ?_ | refine g_cT rfl ?_ | refine g_cF rfl ?_ | refine g_x rfl ?_ | refine g_lb ?_))
  refine g_cd rfl (fun hq => ?_) (fun hq => ?_)
  all_goals simp only [cmv, decide_eq_true_eq, decide_eq_false_iff_not] at hq
  · -- an operation ahead
    obtain ⟨o, bo, off, cap, l, av, cv, ho, hmem, he, hov, hll, hl6, hget, hro⟩ := op_at hv (k := k) (by omega)
    cases he
    have h300 := hg.2 o hmem
    (repeat (first | refine g_sq ?_ | refine g_rg ?_ | refine g_r0 ?_ | refine g_ok rfl rfl ?_ | refine g_no rfl ?_ | refine g_no0 rfl ?_ | refine g_bk ?_ | refine g_b ?_ | refine g_sk ?_ | refine g_cT rfl ?_ | refine g_cF rfl ?_ | refine g_x rfl ?_ | refine g_lb ?_))
    refine g_rq rfl rfl ⟨by omega, by omega⟩ ?_
    (repeat (first | refine g_sq ?_ | refine g_rg ?_ | refine g_r0 ?_ | refine g_ok rfl rfl ?_ | refine g_no rfl ?_ | refine g_no0 rfl ?_ | refine g_bk ?_ | refine g_b ?_ | refine g_sk ?_ | refine g_cT rfl ?_ | refine g_cF rfl ?_ | refine g_x rfl ?_ | refine g_lb ?_))
    refine g_l1r (v := .int .i64 o.k) rfl rfl (hro hS).1 (hget 0 (by decide)) ?_
    (repeat (first | refine g_sq ?_ | refine g_rg ?_ | refine g_r0 ?_ | refine g_ok rfl rfl ?_ | refine g_no rfl ?_ | refine g_no0 rfl ?_ | refine g_bk ?_ | refine g_b ?_ | refine g_sk ?_ | refine g_cT rfl ?_ | refine g_cF rfl ?_ | refine g_x rfl ?_ | refine g_lb ?_))
    refine g_cd rfl (fun hz => ?_) (fun hz => ?_)
    all_goals simp only [cmv, decide_eq_true_eq, decide_eq_false_iff_not] at hz
    · (repeat (first | refine g_sq ?_ | refine g_rg ?_ | refine g_r0 ?_ | refine g_ok rfl rfl ?_ | refine g_no rfl ?_ | refine g_no0 rfl ?_ | refine g_bk ?_ | refine g_b ?_ | refine g_sk ?_ | refine g_cT rfl ?_ | refine g_cF rfl ?_ | refine g_x rfl ?_ | refine g_lb ?_))
      refine g_dr mixed ?_
      have hS := hS.drew
      (repeat (first | refine d_ok rfl rfl rfl ?_ | refine d_no rfl rfl ?_))
      refine d_rq rfl rfl rfl ⟨by omega, by omega⟩ ?_
      (repeat (first | refine d_ok rfl rfl rfl ?_ | refine d_no rfl rfl ?_))
      refine d_l1r (v := .int .i64 o.a) rfl rfl rfl (hro hS).1 (hget 1 (by decide)) ?_
      (repeat (first | refine d_ok rfl rfl rfl ?_ | refine d_no rfl rfl ?_))
      refine d_rq rfl rfl rfl ⟨by omega, by omega⟩ ?_
      (repeat (first | refine d_ok rfl rfl rfl ?_ | refine d_no rfl rfl ?_))
      refine d_l1r (v := o.v) rfl rfl rfl (hro hS).1 (hget 2 (by decide)) ?_
      obtain ⟨hB, ⟨E', hbo⟩, hdis⟩ := hro hS
      refine d_cl rfl rfl rfl (c23 hS hbo (fun x hx => hdis 0 _ rfl x hx) (by omega) fun w S1 hS => ⟨rc_0, ?_⟩)
      (repeat (first | refine d_ok rfl rfl rfl ?_ | refine d_no rfl rfl ?_))
      refine d_fin ?_
      (repeat (first | refine g_sq ?_ | refine g_rg ?_ | refine g_r0 ?_ | refine g_ok rfl rfl ?_ | refine g_no rfl ?_ | refine g_no0 rfl ?_ | refine g_bk ?_ | refine g_b ?_ | refine g_sk ?_ | refine g_cT rfl ?_ | refine g_cF rfl ?_ | refine g_x rfl ?_ | refine g_lb ?_))
      refine g_rq rfl rfl (in64 (by simp only [arv]; omega)) ?_
      (repeat (first | refine g_sq ?_ | refine g_rg ?_ | refine g_r0 ?_ | refine g_ok rfl rfl ?_ | refine g_no rfl ?_ | refine g_no0 rfl ?_ | refine g_bk ?_ | refine g_b ?_ | refine g_sk ?_ | refine g_cT rfl ?_ | refine g_cF rfl ?_ | refine g_x rfl ?_ | refine g_lb ?_))
      have hf := write_fit D o.a o.bs
      exact g_l (k + 1) ⟨rfl, rfl, rfl, rfl, rfl, rfl, rfl, trivial⟩ ⟨by omega, S1, _, hf.1.trans hDl, write_calm hcm o.a o.bs, by have := hf.2; omega, hS⟩ (by omega)
    · (repeat (first | refine g_sq ?_ | refine g_rg ?_ | refine g_r0 ?_ | refine g_ok rfl rfl ?_ | refine g_no rfl ?_ | refine g_no0 rfl ?_ | refine g_bk ?_ | refine g_b ?_ | refine g_sk ?_ | refine g_cT rfl ?_ | refine g_cF rfl ?_ | refine g_x rfl ?_ | refine g_lb ?_))
      refine g_cd rfl (fun hz => ?_) (fun hz => ?_)
      all_goals simp only [cmv, decide_eq_true_eq, decide_eq_false_iff_not] at hz
      · (repeat (first | refine g_sq ?_ | refine g_rg ?_ | refine g_r0 ?_ | refine g_ok rfl rfl ?_ | refine g_no rfl ?_ | refine g_no0 rfl ?_ | refine g_bk ?_ | refine g_b ?_ | refine g_sk ?_ | refine g_cT rfl ?_ | refine g_cF rfl ?_ | refine g_x rfl ?_ | refine g_lb ?_))
        refine g_cl rfl rfl (c24 hS fun w S1 hS => ?_)
        have es := sync_ok hcm.1 hcm.2
        have hf := sync_fit D
        have hc3 : D.sync.1.calm := by rw [es]; exact hcm
        have hc2 : D.sync.1.waits = [] := by rw [es]; rfl
        (repeat (first | refine g_sq ?_ | refine g_rg ?_ | refine g_r0 ?_ | refine g_ok rfl rfl ?_ | refine g_no rfl ?_ | refine g_no0 rfl ?_ | refine g_bk ?_ | refine g_b ?_ | refine g_sk ?_ | refine g_cT rfl ?_ | refine g_cF rfl ?_ | refine g_x rfl ?_ | refine g_lb ?_))
        refine g_rq rfl rfl (in64 (by simp only [arv]; omega)) ?_
        (repeat (first | refine g_sq ?_ | refine g_rg ?_ | refine g_r0 ?_ | refine g_ok rfl rfl ?_ | refine g_no rfl ?_ | refine g_no0 rfl ?_ | refine g_bk ?_ | refine g_b ?_ | refine g_sk ?_ | refine g_cT rfl ?_ | refine g_cF rfl ?_ | refine g_x rfl ?_ | refine g_lb ?_))
        exact g_l (k + 1) ⟨rfl, rfl, rfl, rfl, rfl, rfl, rfl, trivial⟩ ⟨by omega, S1, _, hf.1.trans hDl, hc3, by rw [hc2]; exact Nat.zero_le _, hS⟩ (by omega)
      · (repeat (first | refine g_sq ?_ | refine g_rg ?_ | refine g_r0 ?_ | refine g_ok rfl rfl ?_ | refine g_no rfl ?_ | refine g_no0 rfl ?_ | refine g_bk ?_ | refine g_b ?_ | refine g_sk ?_ | refine g_cT rfl ?_ | refine g_cF rfl ?_ | refine g_x rfl ?_ | refine g_lb ?_))
        refine g_rq rfl rfl (in64 (by simp only [arv]; omega)) ?_
        (repeat (first | refine g_sq ?_ | refine g_rg ?_ | refine g_r0 ?_ | refine g_ok rfl rfl ?_ | refine g_no rfl ?_ | refine g_no0 rfl ?_ | refine g_bk ?_ | refine g_b ?_ | refine g_sk ?_ | refine g_cT rfl ?_ | refine g_cF rfl ?_ | refine g_x rfl ?_ | refine g_lb ?_))
        exact g_l (k + 1) ⟨rfl, rfl, rfl, rfl, rfl, rfl, rfl, trivial⟩ ⟨by omega, S, D, hDl, hcm, by omega, hS⟩ (by omega)
  -- the sync
  (repeat (first | refine g_sq ?_ | refine g_rg ?_ | refine g_r0 ?_ | refine g_ok rfl rfl ?_ | refine g_no rfl ?_ | refine g_no0 rfl ?_ | refine g_bk ?_ | refine g_b ?_ | refine g_sk ?_ | refine g_cT rfl ?_ | refine g_cF rfl ?_ | refine g_x rfl ?_ | refine g_lb ?_))
  refine g_cl rfl rfl (c24 hS fun w S1 hS => ?_)
  have es := sync_ok hcm.1 hcm.2
  have hf := sync_fit D
  have hc3 : D.sync.1.calm := by rw [es]; exact hcm
  have hc2 : D.sync.1.waits = [] := by rw [es]; rfl
  have hc4 : D.sync.2 = 0 := by rw [es]
  have hcN : D.sync.1.cells.length = N := hf.1.trans hDl
  rw [hc4]
  clear es hf hcm hDl hDw hc4
  generalize D.sync.1 = D1 at *
  (repeat (first | refine g_sq ?_ | refine g_rg ?_ | refine g_r0 ?_ | refine g_ok rfl rfl ?_ | refine g_no rfl ?_ | refine g_no0 rfl ?_ | refine g_bk ?_ | refine g_b ?_ | refine g_sk ?_ | refine g_cT rfl ?_ | refine g_cF rfl ?_ | refine g_x rfl ?_ | refine g_lb ?_))
  refine g_cl rfl rfl (c25 hS (by omega) fun w S2 vc hS => ?_)
  obtain ⟨ac, cc, rfl⟩ := hS.rlen 1 rfl
  rw [hcN] at hS ⊢
  refine g_ef rfl (ef_bl (rs := [.slice ac N cc]) hS rfl fun g1 w hS => ?_)
  refine g_ef rfl (ef_bl (rs := []) hS rfl fun g2 w hS => ?_)
  refine g_ef rfl (ef_bl (rs := []) hS rfl fun g3 w hS => ?_)
  (repeat (first | refine g_sq ?_ | refine g_rg ?_ | refine g_r0 ?_ | refine g_ok rfl rfl ?_ | refine g_no rfl ?_ | refine g_no0 rfl ?_ | refine g_bk ?_ | refine g_b ?_ | refine g_sk ?_ | refine g_cT rfl ?_ | refine g_cF rfl ?_ | refine g_x rfl ?_ | refine g_lb ?_))
  have hS := hS.close_row (sz := 1) (n := 1) (cap := 1) (xs := [.slice ac N cc]) 3 rfl (Nat.le_refl _) rfl (List.prefix_refl _) rfl
  have hS := hS.close_row (sz := 1) (n := 0) (cap := 0) (xs := []) 4 rfl (Nat.le_refl _) rfl (List.prefix_refl _) rfl
  have hS := hS.close_row (sz := 1) (n := 0) (cap := 0) (xs := []) 5 rfl (Nat.le_refl _) rfl (List.prefix_refl _) rfl
  have hS := plS_nil (N := N) hS
  have hS := plS_add hS 6 1 rfl rfl (by decide)
  have hI : KeepI b b7 N D1.cells f w0 (.slice (some ⟨g1, 0, none⟩) 1 1) (.slice (some ⟨g2, 0, none⟩) 0 0) (.slice (some ⟨g3, 0, none⟩) 0 0) 0 w := by
    refine ⟨S2, D1, [(.slice ac N cc, D1.all)], rfl, hc3, by rw [hc2]; rfl, rfl, fun j z hj => ?_, ?_⟩
    · cases j with
      | zero => simp at hj; subst hj; rw [hc2, List.take_nil]; exact nowait_all hc3.1 hc2
      | succ j => simp at hj
    · rw [hc2]
      exact hS.sel [0, 3, 4, 5, 6, 2] rfl rfl
  clear hS
  have h0c : D1.cells.length = N := hcN
  generalize D1.cells = cs0 at *
  clear hc3 hc2 hcN
  refine g_lp (ι := Nat × Nat × Value × Value × Value) (fun x => [(2, .slice a2 ops2.length c2), (7, dp b7), (9, .bool true), (10, dp b), (13, x.2.2.1), (14, x.2.2.2.1), (15, x.2.2.2.2), (88, .int .i64 ops2.length), (89, .int .i64 x.1)])
    (fun x w => x.1 ≤ ops2.length ∧ x.2.1 ≤ x.1 ∧ KeepI b b7 N cs0 f w0 x.2.2.1 x.2.2.2.1 x.2.2.2.2 x.2.1 w) (fun x => ops2.length - x.1) (0, 0, _, _, _) ⟨rfl, rfl, rfl, rfl, rfl, rfl, rfl, rfl, rfl, trivial⟩
    ⟨Nat.zero_le _, Nat.le_refl _, hI⟩ ?_
  clear hI
  rintro ⟨k, m, vst, vwh, vtx⟩ w ⟨hk, hmk, S, D, Z, hDc, hcm, hm, hZl, hZ, hS⟩
  simp only at hk hmk hm hZl hS
  have hDl : D.cells.length = N := by rw [hDc]; exact h0c
  (repeat (first | refine g_sq ?_ | refine g_rg ?_ | refine g_r0 ?_ | refine g_ok rfl rfl ?_ | refine g_no rfl ?_ | refine g_no0 rfl ?_ | refine g_bk ?_ | refine g_b ?_ | refine g_sk ?_ | refine g_cT rfl ?_ | refine g_cF rfl ?_ | refine g_x rfl ?_ | refine g_lb ?_))
  refine g_cd rfl (fun hq => ?_) (fun hq => ?_)
  all_goals simp only [cmv, decide_eq_true_eq, decide_eq_false_iff_not] at hq
  · -- a write since
    obtain ⟨o, bo, off, cap, l, av, cv, ho, hmem, he, hov, hll, hl6, hget, hro⟩ := op_at hv2 (k := k) (by omega)
    cases he
    have h300 := hg2.2 o hmem
    (repeat (first | refine g_sq ?_ | refine g_rg ?_ | refine g_r0 ?_ | refine g_ok rfl rfl ?_ | refine g_no rfl ?_ | refine g_no0 rfl ?_ | refine g_bk ?_ | refine g_b ?_ | refine g_sk ?_ | refine g_cT rfl ?_ | refine g_cF rfl ?_ | refine g_x rfl ?_ | refine g_lb ?_))
    refine g_dr mixed ?_
    have hS := hS.drew
    (repeat (first | refine d_ok rfl rfl rfl ?_ | refine d_no rfl rfl ?_))
    refine d_rq rfl rfl rfl ⟨by omega, by omega⟩ ?_
    (repeat (first | refine d_ok rfl rfl rfl ?_ | refine d_no rfl rfl ?_))
    refine d_l1r (v := .int .i64 o.a) rfl rfl rfl (hro hS).1 (hget 1 (by decide)) ?_
    (repeat (first | refine d_ok rfl rfl rfl ?_ | refine d_no rfl rfl ?_))
    refine d_rq rfl rfl rfl ⟨by omega, by omega⟩ ?_
    (repeat (first | refine d_ok rfl rfl rfl ?_ | refine d_no rfl rfl ?_))
    refine d_l1r (v := o.v) rfl rfl rfl (hro hS).1 (hget 2 (by decide)) ?_
    obtain ⟨hB, ⟨E', hbo⟩, hdis⟩ := hro hS
    refine d_cl rfl rfl rfl (c23 hS hbo (fun x hx => hdis 0 _ rfl x hx) (by omega) fun w S1 hS => ⟨rc_0, ?_⟩)
    by_cases hin : (0 ≤ o.a ∧ o.a < (D.cells.length : Int)) ∧ o.bs.length ≤ 128
    · have e2 : (D.write o.a o.bs).2 = 0 := by rw [write_ok hcm.1 hcm.2 hin]
      have hcN : (D.write o.a o.bs).1.cells.length = N := (write_fit D o.a o.bs).1.trans hDl
      rw [e2]
      (repeat (first | refine d_ok rfl rfl rfl ?_ | refine d_no rfl rfl ?_))
      refine d_fin ?_
      (repeat (first | refine g_sq ?_ | refine g_rg ?_ | refine g_r0 ?_ | refine g_ok rfl rfl ?_ | refine g_no rfl ?_ | refine g_no0 rfl ?_ | refine g_bk ?_ | refine g_b ?_ | refine g_sk ?_ | refine g_cT rfl ?_ | refine g_cF rfl ?_ | refine g_x rfl ?_ | refine g_lb ?_))
      refine g_dr mixed ?_
      have hS := hS.drew
      (repeat (first | refine d_ok rfl rfl rfl ?_ | refine d_no rfl rfl ?_))
      refine d_rq rfl rfl rfl ⟨by omega, by omega⟩ ?_
      (repeat (first | refine d_ok rfl rfl rfl ?_ | refine d_no rfl rfl ?_))
      refine d_l1r (v := .int .i64 o.a) rfl rfl rfl (hro hS).1 (hget 1 (by decide)) ?_
      (repeat (first | refine d_ok rfl rfl rfl ?_ | refine d_no rfl rfl ?_))
      refine d_rq rfl rfl rfl ⟨by omega, by omega⟩ ?_
      (repeat (first | refine d_ok rfl rfl rfl ?_ | refine d_no rfl rfl ?_))
      refine d_l1r (v := o.v) rfl rfl rfl (hro hS).1 (hget 2 (by decide)) ?_
      refine d_qt rfl rfl rfl (qt_bsR rfl (hro hS).2.1.choose_spec) ?_
      refine d_a2 ?_ ?_
      · refine d_cl rfl rfl rfl (c25 hS (by omega) fun w S2 vc hS => ⟨(rc_1r rfl rfl rfl rfl (hro hS).1 (hget 1 (by decide)) (rc_1r rfl rfl rfl rfl (hro hS).1 (hget 2 (by decide)) (rc_qt rfl rfl rfl rfl (qt_bsR rfl (hro hS).2.1.choose_spec) rc_0))), ?_⟩)
        rw [hcN] at hS
        obtain ⟨ac, cc, rfl⟩ := hS.rlen 1 rfl
        have hS := hS.sel [0, 2, 3, 4, 5, 6, 1] rfl rfl
        refine d_a2 ?_ ?_
        · refine d_e rfl rfl ?_
          refine ef_bl (rs := [.slice ac N cc]) hS rfl fun g3 w hS => ⟨(rc_1r rfl rfl rfl rfl (hro hS).1 (hget 1 (by decide)) (rc_1r rfl rfl rfl rfl (hro hS).1 (hget 2 (by decide)) (rc_qt rfl rfl rfl rfl (qt_bsR rfl (hro hS).2.1.choose_spec) rc_0))), ?_⟩
          refine d_a2 ?_ ?_
          · refine d_e rfl rfl ?_
            refine ef_ap (n := m + 1) (m := 1) (ys := [.slice ac N cc]) hS 1 rfl rfl rfl (.inl ⟨44, .inr ⟨g3, 0, 1, _, rfl, Nat.le_refl _, Nat.le_refl _, rfl, (hS.b 7 rfl).r⟩⟩) rfl (by omega) (by omega) fun vst1 w hS => ⟨(rc_1r rfl rfl rfl rfl (hro hS).1 (hget 1 (by decide)) (rc_1r rfl rfl rfl rfl (hro hS).1 (hget 2 (by decide)) (rc_qt rfl rfl rfl rfl (qt_bsR rfl (hro hS).2.1.choose_spec) rc_0))), ?_⟩
            refine d_e rfl rfl ?_
            refine ef_bl (rs := [.int .i64 o.a]) hS rfl fun g11 w hS => ⟨(rc_1r rfl rfl rfl rfl (hro hS).1 (hget 2 (by decide)) (rc_qt rfl rfl rfl rfl (qt_bsR rfl (hro hS).2.1.choose_spec) rc_0)), ?_⟩
            refine d_e rfl rfl ?_
            refine ef_ap (n := m) (m := 1) (ys := [.int .i64 o.a]) hS 2 rfl rfl rfl (.inl ⟨3, .inr ⟨g11, 0, 1, _, rfl, Nat.le_refl _, Nat.le_refl _, rfl, (hS.b 8 rfl).r⟩⟩) rfl (by omega) (by omega) fun vwh1 w hS => ⟨(rc_1r rfl rfl rfl rfl (hro hS).1 (hget 2 (by decide)) (rc_qt rfl rfl rfl rfl (qt_bsR rfl (hro hS).2.1.choose_spec) rc_0)), ?_⟩
            refine d_cl rfl rfl rfl (c26 hS (by omega) fun w hS => ⟨rc_0, ?_⟩)
            refine d_e rfl rfl ?_
            refine ef_bl (rs := [sv (pad o.bs)]) hS rfl fun g21 w hS => ⟨rc_0, ?_⟩
            refine d_e rfl rfl ?_
            refine ef_ap (n := m) (m := 1) (ys := [sv (pad o.bs)]) hS 3 rfl rfl rfl (.inl ⟨9, .inr ⟨g21, 0, 1, _, rfl, Nat.le_refl _, Nat.le_refl _, rfl, (hS.b 9 rfl).r⟩⟩) rfl (by omega) (by omega) fun vtx1 w hS => ⟨rc_0, ?_⟩
            refine d_e rfl rfl ?_
            refine ef_qt ((pev_ok rfl).2 _) ⟨rc_0, ?_⟩
            refine d_e rfl rfl ?_
            refine ef_qt ((pev_ok rfl).2 _) ⟨rc_0, ?_⟩
            refine d_e rfl rfl ?_
            refine ef_qt ((pev_ok rfl).2 _) ⟨rc_0, ?_⟩
            refine d_fin ?_
            (repeat (first | refine g_sq ?_ | refine g_rg ?_ | refine g_r0 ?_ | refine g_ok rfl rfl ?_ | refine g_no rfl ?_ | refine g_no0 rfl ?_ | refine g_bk ?_ | refine g_b ?_ | refine g_sk ?_ | refine g_cT rfl ?_ | refine g_cF rfl ?_ | refine g_x rfl ?_ | refine g_lb ?_))
            refine g_rq rfl rfl (in64 (by simp only [arv]; omega)) ?_
            (repeat (first | refine g_sq ?_ | refine g_rg ?_ | refine g_r0 ?_ | refine g_ok rfl rfl ?_ | refine g_no rfl ?_ | refine g_no0 rfl ?_ | refine g_bk ?_ | refine g_b ?_ | refine g_sk ?_ | refine g_cT rfl ?_ | refine g_cF rfl ?_ | refine g_x rfl ?_ | refine g_lb ?_))
            exact g_l (k + 1, m + 1, vst1, vwh1, vtx1) ⟨rfl, rfl, rfl, rfl, rfl, rfl, rfl, rfl, rfl, trivial⟩ ⟨by simp only; omega, by simp only; omega, keep_step hDc h0c hcm hm hZl hZ hin (hS.sel [0, 1, 2, 3, 4, 5, 6] rfl rfl)⟩ (by simp only; omega)
          refine d_a1 ?_
          refine d_e rfl rfl ?_
          refine ef_bl (rs := [.int .i64 o.a]) hS rfl fun g11 w hS => ⟨(rc_1r rfl rfl rfl rfl (hro hS).1 (hget 2 (by decide)) (rc_qt rfl rfl rfl rfl (qt_bsR rfl (hro hS).2.1.choose_spec) rc_0)), ?_⟩
          refine d_e rfl rfl ?_
          refine ef_ap (n := m + 1) (m := 1) (ys := [.slice ac N cc]) hS 1 rfl rfl rfl (.inl ⟨44, .inr ⟨g3, 0, 1, _, rfl, Nat.le_refl _, Nat.le_refl _, rfl, (hS.b 7 rfl).r⟩⟩) rfl (by omega) (by omega) fun vst1 w hS => ⟨(rc_1r rfl rfl rfl rfl (hro hS).1 (hget 2 (by decide)) (rc_qt rfl rfl rfl rfl (qt_bsR rfl (hro hS).2.1.choose_spec) rc_0)), ?_⟩
          refine d_e rfl rfl ?_
          refine ef_ap (n := m) (m := 1) (ys := [.int .i64 o.a]) hS 2 rfl rfl rfl (.inl ⟨3, .inr ⟨g11, 0, 1, _, rfl, Nat.le_refl _, Nat.le_refl _, rfl, (hS.b 8 rfl).r⟩⟩) rfl (by omega) (by omega) fun vwh1 w hS => ⟨(rc_1r rfl rfl rfl rfl (hro hS).1 (hget 2 (by decide)) (rc_qt rfl rfl rfl rfl (qt_bsR rfl (hro hS).2.1.choose_spec) rc_0)), ?_⟩
          refine d_cl rfl rfl rfl (c26 hS (by omega) fun w hS => ⟨rc_0, ?_⟩)
          refine d_e rfl rfl ?_
          refine ef_bl (rs := [sv (pad o.bs)]) hS rfl fun g21 w hS => ⟨rc_0, ?_⟩
          refine d_e rfl rfl ?_
          refine ef_ap (n := m) (m := 1) (ys := [sv (pad o.bs)]) hS 3 rfl rfl rfl (.inl ⟨9, .inr ⟨g21, 0, 1, _, rfl, Nat.le_refl _, Nat.le_refl _, rfl, (hS.b 9 rfl).r⟩⟩) rfl (by omega) (by omega) fun vtx1 w hS => ⟨rc_0, ?_⟩
          refine d_e rfl rfl ?_
          refine ef_qt ((pev_ok rfl).2 _) ⟨rc_0, ?_⟩
          refine d_e rfl rfl ?_
          refine ef_qt ((pev_ok rfl).2 _) ⟨rc_0, ?_⟩
          refine d_e rfl rfl ?_
          refine ef_qt ((pev_ok rfl).2 _) ⟨rc_0, ?_⟩
          refine d_fin ?_
          (repeat (first | refine g_sq ?_ | refine g_rg ?_ | refine g_r0 ?_ | refine g_ok rfl rfl ?_ | refine g_no rfl ?_ | refine g_no0 rfl ?_ | refine g_bk ?_ | refine g_b ?_ | refine g_sk ?_ | refine g_cT rfl ?_ | refine g_cF rfl ?_ | refine g_x rfl ?_ | refine g_lb ?_))
          refine g_rq rfl rfl (in64 (by simp only [arv]; omega)) ?_
          (repeat (first | refine g_sq ?_ | refine g_rg ?_ | refine g_r0 ?_ | refine g_ok rfl rfl ?_ | refine g_no rfl ?_ | refine g_no0 rfl ?_ | refine g_bk ?_ | refine g_b ?_ | refine g_sk ?_ | refine g_cT rfl ?_ | refine g_cF rfl ?_ | refine g_x rfl ?_ | refine g_lb ?_))
          exact g_l (k + 1, m + 1, vst1, vwh1, vtx1) ⟨rfl, rfl, rfl, rfl, rfl, rfl, rfl, rfl, rfl, trivial⟩ ⟨by simp only; omega, by simp only; omega, keep_step hDc h0c hcm hm hZl hZ hin (hS.sel [0, 1, 2, 3, 4, 5, 6] rfl rfl)⟩ (by simp only; omega)
        refine d_a1 ?_
        refine d_e rfl rfl ?_
        refine ef_bl (rs := [.int .i64 o.a]) hS rfl fun g11 w hS => ⟨(rc_1r rfl rfl rfl rfl (hro hS).1 (hget 2 (by decide)) (rc_qt rfl rfl rfl rfl (qt_bsR rfl (hro hS).2.1.choose_spec) rc_0)), ?_⟩
        refine d_e rfl rfl ?_
        refine ef_bl (rs := [.slice ac N cc]) hS rfl fun g3 w hS => ⟨(rc_1r rfl rfl rfl rfl (hro hS).1 (hget 2 (by decide)) (rc_qt rfl rfl rfl rfl (qt_bsR rfl (hro hS).2.1.choose_spec) rc_0)), ?_⟩
        refine d_e rfl rfl ?_
        refine ef_ap (n := m + 1) (m := 1) (ys := [.slice ac N cc]) hS 1 rfl rfl rfl (.inl ⟨44, .inr ⟨g3, 0, 1, _, rfl, Nat.le_refl _, Nat.le_refl _, rfl, (hS.b 8 rfl).r⟩⟩) rfl (by omega) (by omega) fun vst1 w hS => ⟨(rc_1r rfl rfl rfl rfl (hro hS).1 (hget 2 (by decide)) (rc_qt rfl rfl rfl rfl (qt_bsR rfl (hro hS).2.1.choose_spec) rc_0)), ?_⟩
        refine d_e rfl rfl ?_
        refine ef_ap (n := m) (m := 1) (ys := [.int .i64 o.a]) hS 2 rfl rfl rfl (.inl ⟨3, .inr ⟨g11, 0, 1, _, rfl, Nat.le_refl _, Nat.le_refl _, rfl, (hS.b 7 rfl).r⟩⟩) rfl (by omega) (by omega) fun vwh1 w hS => ⟨(rc_1r rfl rfl rfl rfl (hro hS).1 (hget 2 (by decide)) (rc_qt rfl rfl rfl rfl (qt_bsR rfl (hro hS).2.1.choose_spec) rc_0)), ?_⟩
        refine d_cl rfl rfl rfl (c26 hS (by omega) fun w hS => ⟨rc_0, ?_⟩)
        refine d_e rfl rfl ?_
        refine ef_bl (rs := [sv (pad o.bs)]) hS rfl fun g21 w hS => ⟨rc_0, ?_⟩
        refine d_e rfl rfl ?_
        refine ef_ap (n := m) (m := 1) (ys := [sv (pad o.bs)]) hS 3 rfl rfl rfl (.inl ⟨9, .inr ⟨g21, 0, 1, _, rfl, Nat.le_refl _, Nat.le_refl _, rfl, (hS.b 9 rfl).r⟩⟩) rfl (by omega) (by omega) fun vtx1 w hS => ⟨rc_0, ?_⟩
        refine d_e rfl rfl ?_
        refine ef_qt ((pev_ok rfl).2 _) ⟨rc_0, ?_⟩
        refine d_e rfl rfl ?_
        refine ef_qt ((pev_ok rfl).2 _) ⟨rc_0, ?_⟩
        refine d_e rfl rfl ?_
        refine ef_qt ((pev_ok rfl).2 _) ⟨rc_0, ?_⟩
        refine d_fin ?_
        (repeat (first | refine g_sq ?_ | refine g_rg ?_ | refine g_r0 ?_ | refine g_ok rfl rfl ?_ | refine g_no rfl ?_ | refine g_no0 rfl ?_ | refine g_bk ?_ | refine g_b ?_ | refine g_sk ?_ | refine g_cT rfl ?_ | refine g_cF rfl ?_ | refine g_x rfl ?_ | refine g_lb ?_))
        refine g_rq rfl rfl (in64 (by simp only [arv]; omega)) ?_
        (repeat (first | refine g_sq ?_ | refine g_rg ?_ | refine g_r0 ?_ | refine g_ok rfl rfl ?_ | refine g_no rfl ?_ | refine g_no0 rfl ?_ | refine g_bk ?_ | refine g_b ?_ | refine g_sk ?_ | refine g_cT rfl ?_ | refine g_cF rfl ?_ | refine g_x rfl ?_ | refine g_lb ?_))
        exact g_l (k + 1, m + 1, vst1, vwh1, vtx1) ⟨rfl, rfl, rfl, rfl, rfl, rfl, rfl, rfl, rfl, trivial⟩ ⟨by simp only; omega, by simp only; omega, keep_step hDc h0c hcm hm hZl hZ hin (hS.sel [0, 1, 2, 3, 4, 5, 6] rfl rfl)⟩ (by simp only; omega)
      refine d_a1 ?_
      refine d_e rfl rfl ?_
      refine ef_bl (rs := [.int .i64 o.a]) hS rfl fun g11 w hS => ⟨(rc_1r rfl rfl rfl rfl (hro hS).1 (hget 2 (by decide)) (rc_qt rfl rfl rfl rfl (qt_bsR rfl (hro hS).2.1.choose_spec) rc_0)), ?_⟩
      refine d_cl rfl rfl rfl (c25 hS (by omega) fun w S2 vc hS => ⟨(rc_1r rfl rfl rfl rfl (hro hS).1 (hget 2 (by decide)) (rc_qt rfl rfl rfl rfl (qt_bsR rfl (hro hS).2.1.choose_spec) rc_0)), ?_⟩)
      rw [hcN] at hS
      obtain ⟨ac, cc, rfl⟩ := hS.rlen 1 rfl
      have hS := hS.sel [0, 2, 3, 4, 5, 6, 7, 1] rfl rfl
      refine d_e rfl rfl ?_
      refine ef_bl (rs := [.slice ac N cc]) hS rfl fun g3 w hS => ⟨(rc_1r rfl rfl rfl rfl (hro hS).1 (hget 2 (by decide)) (rc_qt rfl rfl rfl rfl (qt_bsR rfl (hro hS).2.1.choose_spec) rc_0)), ?_⟩
      refine d_e rfl rfl ?_
      refine ef_ap (n := m + 1) (m := 1) (ys := [.slice ac N cc]) hS 1 rfl rfl rfl (.inl ⟨44, .inr ⟨g3, 0, 1, _, rfl, Nat.le_refl _, Nat.le_refl _, rfl, (hS.b 8 rfl).r⟩⟩) rfl (by omega) (by omega) fun vst1 w hS => ⟨(rc_1r rfl rfl rfl rfl (hro hS).1 (hget 2 (by decide)) (rc_qt rfl rfl rfl rfl (qt_bsR rfl (hro hS).2.1.choose_spec) rc_0)), ?_⟩
      refine d_e rfl rfl ?_
      refine ef_ap (n := m) (m := 1) (ys := [.int .i64 o.a]) hS 2 rfl rfl rfl (.inl ⟨3, .inr ⟨g11, 0, 1, _, rfl, Nat.le_refl _, Nat.le_refl _, rfl, (hS.b 6 rfl).r⟩⟩) rfl (by omega) (by omega) fun vwh1 w hS => ⟨(rc_1r rfl rfl rfl rfl (hro hS).1 (hget 2 (by decide)) (rc_qt rfl rfl rfl rfl (qt_bsR rfl (hro hS).2.1.choose_spec) rc_0)), ?_⟩
      refine d_cl rfl rfl rfl (c26 hS (by omega) fun w hS => ⟨rc_0, ?_⟩)
      refine d_e rfl rfl ?_
      refine ef_bl (rs := [sv (pad o.bs)]) hS rfl fun g21 w hS => ⟨rc_0, ?_⟩
      refine d_e rfl rfl ?_
      refine ef_ap (n := m) (m := 1) (ys := [sv (pad o.bs)]) hS 3 rfl rfl rfl (.inl ⟨9, .inr ⟨g21, 0, 1, _, rfl, Nat.le_refl _, Nat.le_refl _, rfl, (hS.b 9 rfl).r⟩⟩) rfl (by omega) (by omega) fun vtx1 w hS => ⟨rc_0, ?_⟩
      refine d_e rfl rfl ?_
      refine ef_qt ((pev_ok rfl).2 _) ⟨rc_0, ?_⟩
      refine d_e rfl rfl ?_
      refine ef_qt ((pev_ok rfl).2 _) ⟨rc_0, ?_⟩
      refine d_e rfl rfl ?_
      refine ef_qt ((pev_ok rfl).2 _) ⟨rc_0, ?_⟩
      refine d_fin ?_
      (repeat (first | refine g_sq ?_ | refine g_rg ?_ | refine g_r0 ?_ | refine g_ok rfl rfl ?_ | refine g_no rfl ?_ | refine g_no0 rfl ?_ | refine g_bk ?_ | refine g_b ?_ | refine g_sk ?_ | refine g_cT rfl ?_ | refine g_cF rfl ?_ | refine g_x rfl ?_ | refine g_lb ?_))
      refine g_rq rfl rfl (in64 (by simp only [arv]; omega)) ?_
      (repeat (first | refine g_sq ?_ | refine g_rg ?_ | refine g_r0 ?_ | refine g_ok rfl rfl ?_ | refine g_no rfl ?_ | refine g_no0 rfl ?_ | refine g_bk ?_ | refine g_b ?_ | refine g_sk ?_ | refine g_cT rfl ?_ | refine g_cF rfl ?_ | refine g_x rfl ?_ | refine g_lb ?_))
      exact g_l (k + 1, m + 1, vst1, vwh1, vtx1) ⟨rfl, rfl, rfl, rfl, rfl, rfl, rfl, rfl, rfl, trivial⟩ ⟨by simp only; omega, by simp only; omega, keep_step hDc h0c hcm hm hZl hZ hin (hS.sel [0, 1, 2, 3, 4, 5, 7] rfl rfl)⟩ (by simp only; omega)
    · have e2 : D.write o.a o.bs = (D, 140) := write_no hcm.1 hin
      rw [e2] at hS ⊢
      (repeat (first | refine d_ok rfl rfl rfl ?_ | refine d_no rfl rfl ?_))
      refine d_fin ?_
      (repeat (first | refine g_sq ?_ | refine g_rg ?_ | refine g_r0 ?_ | refine g_ok rfl rfl ?_ | refine g_no rfl ?_ | refine g_no0 rfl ?_ | refine g_bk ?_ | refine g_b ?_ | refine g_sk ?_ | refine g_cT rfl ?_ | refine g_cF rfl ?_ | refine g_x rfl ?_ | refine g_lb ?_))
      refine g_rq rfl rfl (in64 (by simp only [arv]; omega)) ?_
      (repeat (first | refine g_sq ?_ | refine g_rg ?_ | refine g_r0 ?_ | refine g_ok rfl rfl ?_ | refine g_no rfl ?_ | refine g_no0 rfl ?_ | refine g_bk ?_ | refine g_b ?_ | refine g_sk ?_ | refine g_cT rfl ?_ | refine g_cF rfl ?_ | refine g_x rfl ?_ | refine g_lb ?_))
      exact g_l (k + 1, m, vst, vwh, vtx) ⟨rfl, rfl, rfl, rfl, rfl, rfl, rfl, rfl, rfl, trivial⟩ ⟨by simp only; omega, by simp only; omega, S1, D, Z, hDc, hcm, hm, hZl, hZ, hS⟩ (by simp only; omega)
  -- the crash
  have hwf := (DevR.blk hS).1
  obtain ⟨j0, hj0, hT⟩ := crash_torn hwf f
  have hcr : (D.crash f).boot.all = crashC f 0 D.waits D.cells := boot_all _
  have hcl : (D.crash f).boot.cells.length = N := (crashC_len _ _ _ _).trans hDl
  (repeat (first | refine g_sq ?_ | refine g_rg ?_ | refine g_r0 ?_ | refine g_ok rfl rfl ?_ | refine g_no rfl ?_ | refine g_no0 rfl ?_ | refine g_bk ?_ | refine g_b ?_ | refine g_sk ?_ | refine g_cT rfl ?_ | refine g_cF rfl ?_ | refine g_x rfl ?_ | refine g_lb ?_))
  refine g_lm rfl rfl (hS.b 5 rfl) (Nat.le_of_ble_eq_true rfl) ?_
  refine g_cl rfl rfl (c27 (f := f) hS fun w S1 hS => ?_)
  rw [hcm.1] at hS ⊢
  have hS : St w0 (fun _ => False) w [DevR S1 b (D.crash f), row vst 44 1 (m + 1) (Z.map (·.1)), row vwh 3 1 m (D.waits.map fun x => .int .i64 x.1), row vtx 9 1 m (sts (D.waits.map (·.2))), plS N Z, cel b7 (falV f).cells.toList 37] := hS
  (repeat (first | refine g_sq ?_ | refine g_rg ?_ | refine g_r0 ?_ | refine g_ok rfl rfl ?_ | refine g_no rfl ?_ | refine g_no0 rfl ?_ | refine g_bk ?_ | refine g_b ?_ | refine g_sk ?_ | refine g_cT rfl ?_ | refine g_cF rfl ?_ | refine g_x rfl ?_ | refine g_lb ?_))
  refine g_cl rfl rfl (d28 hS ?_)
  (repeat (first | refine g_sq ?_ | refine g_rg ?_ | refine g_r0 ?_ | refine g_ok rfl rfl ?_ | refine g_no rfl ?_ | refine g_no0 rfl ?_ | refine g_bk ?_ | refine g_b ?_ | refine g_sk ?_ | refine g_cT rfl ?_ | refine g_cF rfl ?_ | refine g_x rfl ?_ | refine g_lb ?_))
  refine g_cl rfl rfl (c29 hS fun w S2 hS => ?_)
  (repeat (first | refine g_sq ?_ | refine g_rg ?_ | refine g_r0 ?_ | refine g_ok rfl rfl ?_ | refine g_no rfl ?_ | refine g_no0 rfl ?_ | refine g_bk ?_ | refine g_b ?_ | refine g_sk ?_ | refine g_cT rfl ?_ | refine g_cF rfl ?_ | refine g_x rfl ?_ | refine g_lb ?_))
  refine g_cl rfl rfl (c25 hS (by omega) fun w S3 vg hS => ?_)
  rw [hcl, hcr] at hS
  obtain ⟨ag, cg, rfl⟩ := hS.rlen 1 rfl
  obtain ⟨ast, cst, rfl⟩ := hS.rlen 2 rfl
  (repeat (first | refine g_sq ?_ | refine g_rg ?_ | refine g_r0 ?_ | refine g_ok rfl rfl ?_ | refine g_no rfl ?_ | refine g_no0 rfl ?_ | refine g_bk ?_ | refine g_b ?_ | refine g_sk ?_ | refine g_cT rfl ?_ | refine g_cF rfl ?_ | refine g_x rfl ?_ | refine g_lb ?_))
  refine g_ef rfl (ef_bl (rs := [.int .i64 (-1)]) hS rfl fun g1 w hS => ?_)
  refine g_ef rfl (ef_ap (n := m) (m := 1) (ys := [.int .i64 (-1)]) hS 3 rfl rfl rfl (.inl ⟨3, .inr ⟨g1, 0, 1, _, rfl, Nat.le_refl _, Nat.le_refl _, rfl, (hS.b 7 rfl).r⟩⟩) rfl (by omega) (by omega) fun vwh1 w hS => ?_)
  (repeat (first | refine g_sq ?_ | refine g_rg ?_ | refine g_r0 ?_ | refine g_ok rfl rfl ?_ | refine g_no rfl ?_ | refine g_no0 rfl ?_ | refine g_bk ?_ | refine g_b ?_ | refine g_sk ?_ | refine g_cT rfl ?_ | refine g_cF rfl ?_ | refine g_x rfl ?_ | refine g_lb ?_))
  refine g_ef rfl (ef_bl (rs := [sv []]) hS rfl fun g2 w hS => ?_)
  refine g_ef rfl (ef_ap (n := m) (m := 1) (ys := [sv []]) hS 4 rfl rfl rfl (.inl ⟨9, .inr ⟨g2, 0, 1, _, rfl, Nat.le_refl _, Nat.le_refl _, rfl, (hS.b 8 rfl).r⟩⟩) rfl (by omega) (by omega) fun vtx1 w hS => ?_)
  obtain ⟨awh, cwh, rfl⟩ := hS.rlen 3 rfl
  obtain ⟨atx, ctx, rfl⟩ := hS.rlen 4 rfl
  have hS : St w0 (fun _ => False) w [row (.slice ag N cg) 9 1 N (sts (crashC f 0 D.waits D.cells)), row (.slice ast (m + 1) cst) 44 1 (m + 1) (Z.map (·.1)), row (.slice awh (m + 1) cwh) 3 1 (m + 1) ((D.waits.map fun x => .int .i64 x.1) ++ [.int .i64 (-1)]), row (.slice atx (m + 1) ctx) 9 1 (m + 1) (sts (D.waits.map (·.2)) ++ [sv []]), plS N Z] := hS.sel [1, 2, 3, 4, 5] rfl rfl
  (repeat (first | refine g_sq ?_ | refine g_rg ?_ | refine g_r0 ?_ | refine g_ok rfl rfl ?_ | refine g_no rfl ?_ | refine g_no0 rfl ?_ | refine g_bk ?_ | refine g_b ?_ | refine g_sk ?_ | refine g_cT rfl ?_ | refine g_cF rfl ?_ | refine g_x rfl ?_ | refine g_lb ?_))
  refine g_lp (ι := Nat) (fun j => [(9, .bool true), (13, .slice ast (m + 1) cst), (14, .slice awh (m + 1) cwh), (15, .slice atx (m + 1) ctx), (17, .slice ag N cg), (151, .int .i64 ((m + 1 : Nat) : Int)), (152, .int .i64 j)])
    (fun j w => j ≤ j0 ∧ St w0 (fun _ => False) w [row (.slice ag N cg) 9 1 N (sts (crashC f 0 D.waits D.cells)), row (.slice ast (m + 1) cst) 44 1 (m + 1) (Z.map (·.1)), row (.slice awh (m + 1) cwh) 3 1 (m + 1) ((D.waits.map fun x => .int .i64 x.1) ++ [.int .i64 (-1)]), row (.slice atx (m + 1) ctx) 9 1 (m + 1) (sts (D.waits.map (·.2)) ++ [sv []]), plS N Z]) (fun j => m + 1 - j) 0 ⟨rfl, rfl, rfl, rfl, rfl, rfl, rfl, trivial⟩ ⟨Nat.zero_le _, hS⟩ ?_
  clear hS
  rintro j w ⟨hj, hS⟩
  have hjm : j < m + 1 := by omega
  (repeat (first | refine g_sq ?_ | refine g_rg ?_ | refine g_r0 ?_ | refine g_ok rfl rfl ?_ | refine g_no rfl ?_ | refine g_no0 rfl ?_ | refine g_bk ?_ | refine g_b ?_ | refine g_sk ?_ | refine g_cT rfl ?_ | refine g_cF rfl ?_ | refine g_x rfl ?_ | refine g_lb ?_))
  refine g_cd rfl (fun hq => ?_) (fun hq => ?_)
  all_goals simp only [cmv, decide_eq_true_eq, decide_eq_false_iff_not] at hq
  · obtain ⟨z, hz⟩ : ∃ z, Z[j]? = some z := ⟨_, List.getElem?_eq_getElem (by omega)⟩
    obtain ⟨az, cz, ez⟩ := Rd.form (hS.ok 4 _ rfl z (List.mem_of_getElem? hz))
    obtain ⟨b1, k1, r1, e1, _, hB1, _, hg1⟩ := hS.cellr (k := j) 1 rfl hjm
    obtain ⟨b2, k2, r2, e2, _, hB2, _, hg2⟩ := hS.cellr (k := j) 2 rfl hjm
    obtain ⟨b3, k3, r3, e3, _, hB3, _, hg3⟩ := hS.cellr (k := j) 3 rfl hjm
    cases e1; cases e2; cases e3
    have x1 : (Z.map Prod.fst)[j]? = some (.slice az N cz) := by rw [List.getElem?_map, hz, ← ez]; rfl
    have x2 : ((D.waits.map fun x => Value.int .i64 x.1) ++ [.int .i64 (-1)])[j]? = some (.int .i64 ((D.waits.map Prod.fst ++ [-1]).getD j 0)) := by
      have : ((D.waits.map fun x => Value.int .i64 x.1) ++ [.int .i64 (-1)]) = (D.waits.map Prod.fst ++ [-1]).map (Value.int .i64) := by simp
      rw [this, List.getElem?_map, List.getD_eq_getElem?_getD, List.getElem?_eq_getElem (by simp; omega)]; rfl
    have x3 : (sts (D.waits.map (·.2)) ++ [sv []])[j]? = some (sv ((D.waits.map Prod.snd ++ [[]]).getD j [])) := by
      have : (sts (D.waits.map (·.2)) ++ [sv []]) = (D.waits.map Prod.snd ++ [[]]).map sv := by simp [sts]
      rw [this, List.getElem?_map, List.getD_eq_getElem?_getD, List.getElem?_eq_getElem (by simp; omega)]; rfl
    rw [x1] at hg1; rw [x2] at hg2; rw [x3] at hg3
    have hzv := hZ j z hz
    have hwh : ((D.waits.map Prod.fst ++ [-1]).getD j 0) < (N : Int) ∧ (0 ≤ ((D.waits.map Prod.fst ++ [-1]).getD j 0) → ((D.waits.map Prod.snd ++ [[]]).getD j []).length = 128) := by
      by_cases hlt : j < D.waits.length
      · have hx : D.waits[j]? = some D.waits[j] := List.getElem?_eq_getElem hlt
        have hxw := hwf.2.2.1 _ (List.getElem_mem hlt)
        generalize D.waits[j] = x at hx hxw
        rw [List.getD_eq_getElem?_getD, List.getElem?_append_left (by simpa using hlt), List.getElem?_map, hx, List.getD_eq_getElem?_getD, List.getElem?_append_left (by simpa using hlt), List.getElem?_map, hx]
        exact ⟨by show x.1 < _; omega, fun _ => hxw.1⟩
      · have e : j = D.waits.length := by omega
        rw [List.getD_eq_getElem?_getD, List.getElem?_append_right (by simp; omega), e]
        simp
        omega
    generalize hwd : (D.waits.map Prod.fst ++ [-1]).getD j 0 = wh at hg2 hwh
    generalize htd : (D.waits.map Prod.snd ++ [[]]).getD j [] = tx at hg3 hwh
    (repeat (first | refine g_sq ?_ | refine g_rg ?_ | refine g_r0 ?_ | refine g_ok rfl rfl ?_ | refine g_no rfl ?_ | refine g_no0 rfl ?_ | refine g_bk ?_ | refine g_b ?_ | refine g_sk ?_ | refine g_cT rfl ?_ | refine g_cF rfl ?_ | refine g_x rfl ?_ | refine g_lb ?_))
    refine g_dr mixed ?_
    have hS := hS.drew
    (repeat (first | refine d_ok rfl rfl rfl ?_ | refine d_no rfl rfl ?_))
    refine d_rq rfl rfl rfl ⟨by omega, by omega⟩ ?_
    refine d_l1 rfl rfl rfl hB1 hg1 ?_
    (repeat (first | refine d_ok rfl rfl rfl ?_ | refine d_no rfl rfl ?_))
    refine d_rq rfl rfl rfl ⟨by omega, by omega⟩ ?_
    refine d_l1 rfl rfl rfl hB2 hg2 ?_
    (repeat (first | refine d_ok rfl rfl rfl ?_ | refine d_no rfl rfl ?_))
    refine d_rq rfl rfl rfl ⟨by omega, by omega⟩ ?_
    refine d_l1 rfl rfl rfl hB3 hg3 ?_
    have hrz := hS.ok 4 _ rfl z (List.mem_of_getElem? hz)
    rw [ez] at hrz
    refine d_cl rfl rfl rfl (c30 hS (Ow.rd (hS.ok 0 _ rfl)) hrz (by omega) (by rw [hzv]; exact putAll_mem _ _ (hDc ▸ hwf.2.1) fun x hx => by rw [← hDc]; exact hwf.2.2.1 x (List.mem_of_mem_take hx)) hwh.1 hwh.2 fun t w hS ht => ⟨rc_0, ?_⟩)
    refine d_fin ?_
    cases t
    · (repeat (first | refine g_sq ?_ | refine g_rg ?_ | refine g_r0 ?_ | refine g_ok rfl rfl ?_ | refine g_no rfl ?_ | refine g_no0 rfl ?_ | refine g_bk ?_ | refine g_b ?_ | refine g_sk ?_ | refine g_cT rfl ?_ | refine g_cF rfl ?_ | refine g_x rfl ?_ | refine g_lb ?_))
      refine g_rq rfl rfl (in64 (by simp only [arv]; omega)) ?_
      (repeat (first | refine g_sq ?_ | refine g_rg ?_ | refine g_r0 ?_ | refine g_ok rfl rfl ?_ | refine g_no rfl ?_ | refine g_no0 rfl ?_ | refine g_bk ?_ | refine g_b ?_ | refine g_sk ?_ | refine g_cT rfl ?_ | refine g_cF rfl ?_ | refine g_x rfl ?_ | refine g_lb ?_))
      refine g_l (j + 1) ⟨rfl, rfl, rfl, rfl, rfl, rfl, rfl, trivial⟩ ⟨?_, hS⟩ (by omega)
      rcases Nat.lt_or_ge j j0 with h | h
      · omega
      · have e : j = j0 := by omega
        subst e
        rw [hwd, htd] at hT
        rw [hzv, ← hDc] at ht
        exact absurd (ht hT) (by decide)
    · (repeat (first | refine g_sq ?_ | refine g_rg ?_ | refine g_r0 ?_ | refine g_ok rfl rfl ?_ | refine g_no rfl ?_ | refine g_no0 rfl ?_ | refine g_bk ?_ | refine g_b ?_ | refine g_sk ?_ | refine g_cT rfl ?_ | refine g_cF rfl ?_ | refine g_x rfl ?_ | refine g_lb ?_))
      exact g_ret (q_1 rfl (hfin hS))
  · omega
end
end Go.Proofs.Ytegjocpjmfaigaa
