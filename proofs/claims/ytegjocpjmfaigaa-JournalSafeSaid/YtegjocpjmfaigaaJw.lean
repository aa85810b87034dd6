/- The statement JournalSafe: the walk. -/
import Derived.Test.YtegjocpjmfaigaaJv
import Derived.Test.YtegjocpjmfaigaaMe
set_option linter.unusedSimpArgs false
set_option linter.unusedVariables false
namespace Go.Proofs.Ytegjocpjmfaigaa
open Go.En

/-- what is done to a journal -/
structure Opj where
  k : Int
  a : Int
  v : Value
  bs : List UInt8
  n : Int
  f : Fal
def opvj (o : Opj) : List Value := [.int .i64 o.k, .int .i64 o.a, o.v, .int .i64 o.n, .int .i64 o.f.a, .int .i64 o.f.k, .int .i64 o.f.t]
def opsFj (ops : List Opj) : List Value := (ops.map opvj).flatten
def OpsJ (E : TypeId) (v : Value) (ops : List Opj) (w : World) : Prop := Rd v E 7 ops.length (opsFj ops) w ∧ ∀ o, o ∈ ops → Ext w (o.v, o.bs)
theorem opsFj_get {ops : List Opj} {k : Nat} {o : Opj} (ho : ops[k]? = some o) {l : List Value} {off n : Nat} (hx : (l.drop off).take (n * 7) = opsFj ops) (hn : n = ops.length) : List.take 7 (List.drop (off + k * 7) l) = opvj o := by
  have hlt := (List.getElem?_eq_some_iff.1 ho).1
  have hf := flat_get (ls := ops.map opvj) (k := 7) (i := k) (fun l hl => by simp only [List.mem_map] at hl; obtain ⟨x, _, rfl⟩ := hl; rfl) (by simpa using hlt) []
  have ho' := (List.getElem?_eq_some_iff.1 ho).2
  rw [List.append_nil, show (ops.map opvj).flatten = opsFj ops from rfl, ← hx, List.drop_take, List.take_take, List.drop_drop] at hf
  rw [Nat.min_eq_left (by omega)] at hf
  rw [hf]
  simp [ho']
def GoodJ (ops : List Opj) : Prop := ops.length ≤ 60 ∧ ∀ o, o ∈ ops → o.bs.length ≤ 1000
section
variable {w w0 : World} {S0 S S1 : Nat → Prop} {K : Value → World → Prop} {E : TypeId} {L : List Res}
theorem opj_at {k : Nat} {v : Value} {ops : List Opj} (hv : OpsJ E v ops w0) (hlt : k < ops.length) : ∃ (o : Opj) (b off cap : Nat) (l : List Value) (av : Option Addr) (cv : Nat), ops[k]? = some o ∧ o ∈ ops ∧ v = .slice (some ⟨b, off, none⟩) ops.length cap ∧ o.v = .slice av o.bs.length cv ∧ Ext w0 (o.v, o.bs) ∧
    off + k * 7 + 7 ≤ l.length ∧ (∀ j, j < 7 → l[off + k * 7 + j]? = (opvj o)[j]?) ∧ List.take 3 (List.drop (off + k * 7 + 4) l) = (falV o.f).cells.toList ∧ List.take 7 (List.drop (off + k * 7) l) = opvj o ∧
    ∀ {w : World} {L : List Res}, St w0 (fun _ => False) w L → Blr w b l E := by
  have ho : ops[k]? = some ops[k] := List.getElem?_eq_getElem hlt
  have hmem : ops[k] ∈ ops := List.getElem_mem hlt
  generalize ops[k] = o at ho hmem
  obtain ⟨b, off, cap, l, hv', hn, hl, hx, hB⟩ := Rd.block hv.1 (by omega)
  have hxt := hv.2 o hmem
  obtain ⟨E', hbo⟩ := hxt
  obtain ⟨av, cv, ev⟩ := Rd.form hbo
  have h7 := opsFj_get ho hx rfl
  refine ⟨o, b, off, cap, l, av, cv, ho, hmem, hv', ev, ⟨E', hbo⟩, by omega, fun j hj => ?_, ?_, h7, fun {w L} hS => ?_⟩
  · rw [← h7, List.getElem?_take_of_lt hj, List.getElem?_drop]
  · have : List.take 3 (List.drop 4 (List.take 7 (List.drop (off + k * 7) l))) = List.take 3 (List.drop (off + k * 7 + 4) l) := by
      rw [List.drop_take, List.take_take, List.drop_drop]
      rfl
    rw [← this, h7]
    rfl
  · refine hB.same (hS.fr.kept b (hv.1.lt b ?_) (fun h => h))
    rw [hv']
    exact ⟨rfl, by omega⟩
theorem OpsJ.to {v : Value} {ops : List Opj} (hv : OpsJ E v ops w0) (hS : St w0 (fun _ => False) w L) : OpsJ E v ops w :=
  ⟨hS.ro (r := rdR v E 7 ops.length (opsFj ops)) hv.1 fun x hx => ⟨hv.1.lt x hx, fun h => h⟩, fun o ho => (hv.2 o ho).rd hS⟩
theorem l50 {v : Value} {ops : List Opj} (hv : OpsJ E v ops w) (h1 : ¬ GoodJ ops → K (.int .i64 1) w) (h0 : GoodJ ops → K (.int .i64 0) w) : CK Try.prog 50 [v] w K := by
  have hr' := hv.1
  obtain ⟨a, c, rfl⟩ := Rd.form hr'
  refine call_k Try.func50 k50 Try.ntmps50 (Nat.le_of_ble_eq_true rfl) ?_
  (repeat (first | refine g_sq ?_ | refine g_rg ?_ | refine g_r0 ?_ | refine g_ok rfl rfl ?_ | refine g_no rfl ?_ | refine g_no0 rfl ?_ | refine g_bk ?_ | refine g_b ?_ | refine g_sk ?_ | refine g_cT rfl ?_ | refine g_cF rfl ?_ | refine g_x rfl ?_ | refine g_lb ?_))
  refine g_cd rfl (fun hc => ?_) (fun hc => ?_)
  all_goals simp only [cmv, decide_eq_true_eq, decide_eq_false_iff_not] at hc
  · (repeat (first | refine g_sq ?_ | refine g_rg ?_ | refine g_r0 ?_ | refine g_ok rfl rfl ?_ | refine g_no rfl ?_ | refine g_no0 rfl ?_ | refine g_bk ?_ | refine g_b ?_ | refine g_sk ?_ | refine g_cT rfl ?_ | refine g_cF rfl ?_ | refine g_x rfl ?_ | refine g_lb ?_))
    exact g_ret (q_1 rfl (h1 fun hg => by have := hg.1; omega))
  · (repeat (first | refine g_sq ?_ | refine g_rg ?_ | refine g_r0 ?_ | refine g_ok rfl rfl ?_ | refine g_no rfl ?_ | refine g_no0 rfl ?_ | refine g_bk ?_ | refine g_b ?_ | refine g_sk ?_ | refine g_cT rfl ?_ | refine g_cF rfl ?_ | refine g_x rfl ?_ | refine g_lb ?_))
    refine g_lp (ι := Nat) (fun k => [(0, .slice a ops.length c), (8, .int .i64 ops.length), (9, .int .i64 k)])
      (fun k w' => k ≤ ops.length ∧ (∀ j o, j < k → ops[j]? = some o → o.bs.length ≤ 1000) ∧ w = w') (fun k => ops.length - k) 0 ⟨rfl, rfl, rfl, trivial⟩ ⟨Nat.zero_le _, fun j o hj => absurd hj (Nat.not_lt_zero j), rfl⟩ ?_
    rintro k _ ⟨hk, hgo, rfl⟩
    (repeat (first | refine g_sq ?_ | refine g_rg ?_ | refine g_r0 ?_ | refine g_ok rfl rfl ?_ | refine g_no rfl ?_ | refine g_no0 rfl ?_ | refine g_bk ?_ | refine g_b ?_ | refine g_sk ?_ | refine g_cT rfl ?_ | refine g_cF rfl ?_ | refine g_x rfl ?_ | refine g_lb ?_))
    refine g_cd rfl (fun hq => ?_) (fun hq => ?_)
    all_goals simp only [cmv, decide_eq_true_eq, decide_eq_false_iff_not] at hq
    · obtain ⟨o, bo, off, cap, l, av, cv, ho, hmem, he, hov, hxt, hll, hget, hf3, hl7, hB⟩ := opj_at hv (k := k) (by omega)
      cases he
      have hov2 : o.v = .slice av o.bs.length cv := hov
      (repeat (first | refine g_sq ?_ | refine g_rg ?_ | refine g_r0 ?_ | refine g_ok rfl rfl ?_ | refine g_no rfl ?_ | refine g_no0 rfl ?_ | refine g_bk ?_ | refine g_b ?_ | refine g_sk ?_ | refine g_cT rfl ?_ | refine g_cF rfl ?_ | refine g_x rfl ?_ | refine g_lb ?_))
      refine g_rq rfl rfl ⟨by omega, by omega⟩ ?_
      (repeat (first | refine g_sq ?_ | refine g_rg ?_ | refine g_r0 ?_ | refine g_ok rfl rfl ?_ | refine g_no rfl ?_ | refine g_no0 rfl ?_ | refine g_bk ?_ | refine g_b ?_ | refine g_sk ?_ | refine g_cT rfl ?_ | refine g_cF rfl ?_ | refine g_x rfl ?_ | refine g_lb ?_))
      refine g_l1r (v := .slice av o.bs.length cv) rfl rfl (hB (St.nil w _)) (by
        show l[off + k * 7 + 2]? = _
        rw [hget 2 (by decide), ← hov2]; rfl) ?_
      (repeat (first | refine g_sq ?_ | refine g_rg ?_ | refine g_r0 ?_ | refine g_ok rfl rfl ?_ | refine g_no rfl ?_ | refine g_no0 rfl ?_ | refine g_bk ?_ | refine g_b ?_ | refine g_sk ?_ | refine g_cT rfl ?_ | refine g_cF rfl ?_ | refine g_x rfl ?_ | refine g_lb ?_))
      refine g_cd rfl (fun hz => ?_) (fun hz => ?_)
      all_goals simp only [cmv, decide_eq_true_eq, decide_eq_false_iff_not] at hz
      · (repeat (first | refine g_sq ?_ | refine g_rg ?_ | refine g_r0 ?_ | refine g_ok rfl rfl ?_ | refine g_no rfl ?_ | refine g_no0 rfl ?_ | refine g_bk ?_ | refine g_b ?_ | refine g_sk ?_ | refine g_cT rfl ?_ | refine g_cF rfl ?_ | refine g_x rfl ?_ | refine g_lb ?_))
        exact g_ret (q_1 rfl (h1 fun hg => by have := hg.2 o hmem; omega))
      · (repeat (first | refine g_sq ?_ | refine g_rg ?_ | refine g_r0 ?_ | refine g_ok rfl rfl ?_ | refine g_no rfl ?_ | refine g_no0 rfl ?_ | refine g_bk ?_ | refine g_b ?_ | refine g_sk ?_ | refine g_cT rfl ?_ | refine g_cF rfl ?_ | refine g_x rfl ?_ | refine g_lb ?_))
        refine g_rq rfl rfl (in64 (by simp only [arv]; omega)) ?_
        (repeat (first | refine g_sq ?_ | refine g_rg ?_ | refine g_r0 ?_ | refine g_ok rfl rfl ?_ | refine g_no rfl ?_ | refine g_no0 rfl ?_ | refine g_bk ?_ | refine g_b ?_ | refine g_sk ?_ | refine g_cT rfl ?_ | refine g_cF rfl ?_ | refine g_x rfl ?_ | refine g_lb ?_))
        refine g_l (k + 1) ⟨rfl, rfl, rfl, trivial⟩ ⟨by omega, fun j o' hj ho' => ?_, rfl⟩ (by omega)
        by_cases e : j = k
        · subst e; rw [ho] at ho'; cases ho'; omega
        · exact hgo j o' (by omega) ho'
    · (repeat (first | refine g_sq ?_ | refine g_rg ?_ | refine g_r0 ?_ | refine g_ok rfl rfl ?_ | refine g_no rfl ?_ | refine g_no0 rfl ?_ | refine g_bk ?_ | refine g_b ?_ | refine g_sk ?_ | refine g_cT rfl ?_ | refine g_cF rfl ?_ | refine g_x rfl ?_ | refine g_lb ?_))
      refine g_ret (q_1 rfl (h0 ⟨by omega, fun o ho => ?_⟩))
      obtain ⟨j, hj, e⟩ := List.getElem_of_mem ho
      exact hgo j o (by omega) (by rw [List.getElem?_eq_getElem hj, e])
/-- what is held between what is done -/
def SafeI (d N : Nat) (w0 : World) (jb : Nat) (vh : Value) (H : List (List UInt8)) (w : World) : Prop :=
  (∀ b ∈ H, b.length ≤ 1000) ∧ ∃ (S S1 : Nat → Prop) (D : Dev) (Z : BZ), D.down = false ∧ D.waits = [] ∧ D.cells.length = N ∧ SafeC H D.cells ∧ Z.map Prod.snd = H ∧ (∀ p ∈ Z, Ext w0 p) ∧
    St w0 (fun _ => False) w [JouR S jb d 0 N ⟨grps 1 H, H.length + 1, false⟩, DevR S1 d D, row vh 35 1 Z.length (Z.map Prod.fst)]
set_option maxRecDepth 100000 in
set_option maxHeartbeats 1000000 in
theorem l10 {bl : Int} {v : Value} {ops : List Opj} (h0 : 0 ≤ bl ∧ bl ≤ 255) (hv : OpsJ E v ops w0) (h : ∀ w', Fr w0 (fun _ => False) w' → K (.bool true) w') : CK Try.prog 10 [.int .u8 bl, v] w0 K := by
  have hS := St.nil w0 (fun _ => False)
  have hfin : ∀ {w' : World} {L : List Res}, St w0 (fun _ => False) w' L → K (.bool true) w' := fun hS => h _ hS.fr
  obtain ⟨N, hN1, hN2, hN⟩ := blocks19 h0
  have hmx : maxN = 4611686018427387904 := rfl
  obtain ⟨a, c, rfl⟩ := Rd.form hv.1
  refine call_k Try.func10 k10 Try.ntmps10 (Nat.le_of_ble_eq_true rfl) ?_
  (repeat (first | refine g_sq ?_ | refine g_rg ?_ | refine g_r0 ?_ | refine g_ok rfl rfl ?_ | refine g_no rfl ?_ | refine g_no0 rfl ?_ | refine g_bk ?_ | refine g_b ?_ | refine g_sk ?_ | refine g_cT rfl ?_ | refine g_cF rfl ?_ | refine g_x rfl ?_ | refine g_lb ?_))
  refine g_cl rfl rfl (c38 hS fun w hS => ?_)
  (repeat (first | refine g_sq ?_ | refine g_rg ?_ | refine g_r0 ?_ | refine g_ok rfl rfl ?_ | refine g_no rfl ?_ | refine g_no0 rfl ?_ | refine g_bk ?_ | refine g_b ?_ | refine g_sk ?_ | refine g_cT rfl ?_ | refine g_cF rfl ?_ | refine g_x rfl ?_ | refine g_lb ?_))
  refine g_rq rfl rfl (by decide) ?_
  rw [hN]
  refine g_rq rfl rfl (in64 (by simp only [arv]; omega)) ?_
  rw [show arv BinOp.add 2 ((N : Int) - 2) = (N : Int) by simp only [arv]; omega]
  (repeat (first | refine g_sq ?_ | refine g_rg ?_ | refine g_r0 ?_ | refine g_ok rfl rfl ?_ | refine g_no rfl ?_ | refine g_no0 rfl ?_ | refine g_bk ?_ | refine g_b ?_ | refine g_sk ?_ | refine g_cT rfl ?_ | refine g_cF rfl ?_ | refine g_x rfl ?_ | refine g_lb ?_))
  refine g_cl rfl rfl (c18 hS (fun hn => absurd ⟨by omega, by omega⟩ hn) (fun hn w S1 d hS => ?_))
  have hS : St w0 (fun _ => False) w [DevR S1 d (Dev.new N)] := hS
  have hl0 : (Dev.new N).cells.length = N := List.length_replicate
  (repeat (first | refine g_sq ?_ | refine g_rg ?_ | refine g_r0 ?_ | refine g_ok rfl rfl ?_ | refine g_no rfl ?_ | refine g_no0 rfl ?_ | refine g_bk ?_ | refine g_b ?_ | refine g_sk ?_ | refine g_cT rfl ?_ | refine g_cF rfl ?_ | refine g_x rfl ?_ | refine g_lb ?_))
  refine g_cl rfl rfl (l50 (OpsJ.to hv hS) (fun hg => ?_) (fun hg => ?_))
  · (repeat (first | refine g_sq ?_ | refine g_rg ?_ | refine g_r0 ?_ | refine g_ok rfl rfl ?_ | refine g_no rfl ?_ | refine g_no0 rfl ?_ | refine g_bk ?_ | refine g_b ?_ | refine g_sk ?_ | refine g_cT rfl ?_ | refine g_cF rfl ?_ | refine g_x rfl ?_ | refine g_lb ?_))
    exact g_ret (q_1 rfl (hfin hS))
  have h60 := hg.1
  have hbad : ∀ {D : Dev}, D.cells.length = N → ¬ badA D 0 (N : Int) := fun h => by unfold badA; rw [h]; omega
  (repeat (first | refine g_sq ?_ | refine g_rg ?_ | refine g_r0 ?_ | refine g_ok rfl rfl ?_ | refine g_no rfl ?_ | refine g_no0 rfl ?_ | refine g_bk ?_ | refine g_b ?_ | refine g_sk ?_ | refine g_cT rfl ?_ | refine g_cF rfl ?_ | refine g_x rfl ?_ | refine g_lb ?_))
  refine g_cl rfl rfl (c39 (fr := 0) (bk := (N : Int)) (by omega) hS (fun hb => absurd hb (hbad hl0)) (fun _ hd => absurd hd (by simp [Dev.new])) (fun _ _ w S S1 jb hS => ?_))
  rw [show (0 : Int).toNat = 0 from rfl, Int.toNat_natCast, open_new (Nat.le_refl _)] at hS
  have hS := hS.nilrow 35 1
  have hC0 : SafeC [] (Dev.new N).cells := ⟨(Dev.new N).cells, rfl, fun b hb => by
    have : b = List.replicate 128 0 := List.eq_of_mem_replicate hb
    rw [this]; exact loose_zero⟩
  (repeat (first | refine g_sq ?_ | refine g_rg ?_ | refine g_r0 ?_ | refine g_ok rfl rfl ?_ | refine g_no rfl ?_ | refine g_no0 rfl ?_ | refine g_bk ?_ | refine g_b ?_ | refine g_sk ?_ | refine g_cT rfl ?_ | refine g_cF rfl ?_ | refine g_x rfl ?_ | refine g_lb ?_))
  refine g_lp (ι := Nat × Value × Nat × List (List UInt8)) (fun x => [(1, .slice a ops.length c), (5, .bool true), (6, .int .i64 N), (7, dp d), (9, dp x.2.2.1), (11, x.2.1), (50, .int .i64 ops.length), (51, .int .i64 x.1)])
    (fun x w => x.1 ≤ ops.length ∧ x.2.2.2.length ≤ x.1 ∧ SafeI d N w0 x.2.2.1 x.2.1 x.2.2.2 w) (fun x => ops.length - x.1) (0, .slice none 0 0, jb, []) ⟨rfl, rfl, rfl, rfl, rfl, rfl, rfl, rfl, trivial⟩
    ⟨Nat.zero_le _, Nat.le_refl _, (fun b hb => nomatch hb), S, S1, Dev.new N, [], rfl, rfl, hl0, hC0, rfl, (fun p hp => nomatch hp), hS⟩ ?_
  clear hS hC0
  rintro ⟨k, vh, jb, H⟩ w ⟨hk, hHk, hHb, S, S1, D, Z, hDd, hDw, hDl, hC, hZH, hext, hS⟩
  simp only at hk hHk hHb hC hZH hS
  have hZl : Z.length = H.length := by rw [← hZH, List.length_map]
  obtain ⟨ah, ch, rfl⟩ := hS.rlen 2 rfl
  (repeat (first | refine g_sq ?_ | refine g_rg ?_ | refine g_r0 ?_ | refine g_ok rfl rfl ?_ | refine g_no rfl ?_ | refine g_no0 rfl ?_ | refine g_bk ?_ | refine g_b ?_ | refine g_sk ?_ | refine g_cT rfl ?_ | refine g_cF rfl ?_ | refine g_x rfl ?_ | refine g_lb ?_))
  refine g_cd rfl (fun hq => ?_) (fun hq => ?_)
  all_goals simp only [cmv, decide_eq_true_eq, decide_eq_false_iff_not] at hq
  · obtain ⟨o, bo, off, cap, l, av, cv, ho, hmem, he, hov, hxt, hll, hget, hf3, hl7, hB⟩ := opj_at hv (k := k) (by omega)
    cases he
    have h1000 := hg.2 o hmem
    have hx2 : l[off + k * 7 + 2]? = some (.slice av o.bs.length cv) := by rw [hget 2 (by decide), ← hov]; rfl
    rw [hov] at hxt
    (repeat (first | refine g_sq ?_ | refine g_rg ?_ | refine g_r0 ?_ | refine g_ok rfl rfl ?_ | refine g_no rfl ?_ | refine g_no0 rfl ?_ | refine g_bk ?_ | refine g_b ?_ | refine g_sk ?_ | refine g_cT rfl ?_ | refine g_cF rfl ?_ | refine g_x rfl ?_ | refine g_lb ?_))
    refine g_rq rfl rfl ⟨by omega, by omega⟩ ?_
    (repeat (first | refine g_sq ?_ | refine g_rg ?_ | refine g_r0 ?_ | refine g_ok rfl rfl ?_ | refine g_no rfl ?_ | refine g_no0 rfl ?_ | refine g_bk ?_ | refine g_b ?_ | refine g_sk ?_ | refine g_cT rfl ?_ | refine g_cF rfl ?_ | refine g_x rfl ?_ | refine g_lb ?_))
    refine g_l1r (v := .int .i64 o.k) rfl rfl (hB hS) (hget 0 (by decide)) ?_
    (repeat (first | refine g_sq ?_ | refine g_rg ?_ | refine g_r0 ?_ | refine g_ok rfl rfl ?_ | refine g_no rfl ?_ | refine g_no0 rfl ?_ | refine g_bk ?_ | refine g_b ?_ | refine g_sk ?_ | refine g_cT rfl ?_ | refine g_cF rfl ?_ | refine g_x rfl ?_ | refine g_lb ?_))
    refine g_cd rfl (fun hz => ?_) (fun hz => ?_)
    all_goals simp only [cmv, decide_eq_true_eq, decide_eq_false_iff_not] at hz
    · -- a group is appended
      (repeat (first | refine g_sq ?_ | refine g_rg ?_ | refine g_r0 ?_ | refine g_ok rfl rfl ?_ | refine g_no rfl ?_ | refine g_no0 rfl ?_ | refine g_bk ?_ | refine g_b ?_ | refine g_sk ?_ | refine g_cT rfl ?_ | refine g_cF rfl ?_ | refine g_x rfl ?_ | refine g_lb ?_))
      refine g_cl rfl rfl (d28 (hS.sel [1] rfl rfl) ?_)
      rw [hDd]
      (repeat (first | refine g_sq ?_ | refine g_rg ?_ | refine g_r0 ?_ | refine g_ok rfl rfl ?_ | refine g_no rfl ?_ | refine g_no0 rfl ?_ | refine g_bk ?_ | refine g_b ?_ | refine g_sk ?_ | refine g_cT rfl ?_ | refine g_cF rfl ?_ | refine g_x rfl ?_ | refine g_lb ?_))
      refine g_rq rfl rfl ⟨by omega, by omega⟩ ?_
      (repeat (first | refine g_sq ?_ | refine g_rg ?_ | refine g_r0 ?_ | refine g_ok rfl rfl ?_ | refine g_no rfl ?_ | refine g_no0 rfl ?_ | refine g_bk ?_ | refine g_b ?_ | refine g_sk ?_ | refine g_cT rfl ?_ | refine g_cF rfl ?_ | refine g_x rfl ?_ | refine g_lb ?_))
      refine g_l1r rfl rfl (hB hS) hx2 ?_
      obtain ⟨E2, hu⟩ := hxt.rd hS
      have hwf := (DevR.blk (hS.sel [1] rfl rfl)).1
      have hus : usedOf (grps 1 H) ≤ N := (JouR.blk hS).1.1
      refine g_cl rfl rfl (c42 (bs := o.bs) (by omega) (by rw [hDw]; decide) hu (fun x hx => ⟨hxt.dis hS 0 rfl x hx, hxt.dis hS 1 rfl x hx⟩) hS fun w S S1 hS => ?_)
      have hH2b : ∀ b ∈ H ++ [o.bs], b.length ≤ 1000 := fun b hb => by
        rcases List.mem_append.1 hb with hb | hb
        · exact hHb b hb
        · simp at hb; subst hb; exact h1000
      have hlen2 : (H ++ [o.bs]).length = H.length + 1 := by simp
      have hext2 : ∀ p ∈ Z ++ [(Value.slice av o.bs.length cv, o.bs)], Ext w0 p := fun p hp => by
        rcases List.mem_append.1 hp with hp | hp
        · exact hext p hp
        · simp at hp; subst hp; exact hxt
      have hZ2 : (Z ++ [(Value.slice av o.bs.length cv, o.bs)]).map Prod.snd = H ++ [o.bs] := by rw [List.map_append, hZH]; rfl
      have z1 : (Z ++ [(Value.slice av o.bs.length cv, o.bs)]).length = Z.length + 1 := by simp
      have z2 : (Z ++ [(Value.slice av o.bs.length cv, o.bs)]).map Prod.fst = Z.map Prod.fst ++ [.slice av o.bs.length cv] := by simp
      rcases append_safe (b := o.bs) hDd hDw hwf hC hDl (by omega) (by omega) hus with ea | ⟨D', ea, k1, k2, k3, k4⟩ | ⟨D', J', ea, k1, k2, k3, k4⟩
      · -- refused
        rw [ea] at hS ⊢
        (repeat (first | refine g_sq ?_ | refine g_rg ?_ | refine g_r0 ?_ | refine g_ok rfl rfl ?_ | refine g_no rfl ?_ | refine g_no0 rfl ?_ | refine g_bk ?_ | refine g_b ?_ | refine g_sk ?_ | refine g_cT rfl ?_ | refine g_cF rfl ?_ | refine g_x rfl ?_ | refine g_lb ?_))
        refine g_rq rfl rfl (in64 (by simp only [arv]; omega)) ?_
        (repeat (first | refine g_sq ?_ | refine g_rg ?_ | refine g_r0 ?_ | refine g_ok rfl rfl ?_ | refine g_no rfl ?_ | refine g_no0 rfl ?_ | refine g_bk ?_ | refine g_b ?_ | refine g_sk ?_ | refine g_cT rfl ?_ | refine g_cF rfl ?_ | refine g_x rfl ?_ | refine g_lb ?_))
        exact g_l (k + 1, .slice ah Z.length ch, jb, H) ⟨rfl, rfl, rfl, rfl, rfl, rfl, rfl, rfl, trivial⟩ ⟨by simp only; omega, by simp only; omega, hHb, S, S1, D, Z, hDd, hDw, hDl, hC, hZH, hext, hS⟩ (by simp only; omega)
      · -- appended
        rw [ea] at hS ⊢
        simp only at hS
        (repeat (first | refine g_sq ?_ | refine g_rg ?_ | refine g_r0 ?_ | refine g_ok rfl rfl ?_ | refine g_no rfl ?_ | refine g_no0 rfl ?_ | refine g_bk ?_ | refine g_b ?_ | refine g_sk ?_ | refine g_cT rfl ?_ | refine g_cF rfl ?_ | refine g_x rfl ?_ | refine g_lb ?_))
        refine g_rq rfl rfl ⟨by omega, by omega⟩ ?_
        (repeat (first | refine g_sq ?_ | refine g_rg ?_ | refine g_r0 ?_ | refine g_ok rfl rfl ?_ | refine g_no rfl ?_ | refine g_no0 rfl ?_ | refine g_bk ?_ | refine g_b ?_ | refine g_sk ?_ | refine g_cT rfl ?_ | refine g_cF rfl ?_ | refine g_x rfl ?_ | refine g_lb ?_))
        refine g_l1r rfl rfl (hB hS) hx2 ?_
        refine g_ef rfl (ef_bl (rs := [.slice av o.bs.length cv]) hS rfl fun g w hS => ?_)
        refine g_ef rfl (ef_ap (n := Z.length) (m := 1) (ys := [.slice av o.bs.length cv]) hS 2 rfl rfl rfl (.inl ⟨35, .inr ⟨g, 0, 1, _, rfl, Nat.le_refl _, Nat.le_refl _, rfl, (hS.b 3 rfl).r⟩⟩) rfl (by omega) (by omega) fun vh1 w hS => ?_)
        (repeat (first | refine g_sq ?_ | refine g_rg ?_ | refine g_r0 ?_ | refine g_ok rfl rfl ?_ | refine g_no rfl ?_ | refine g_no0 rfl ?_ | refine g_bk ?_ | refine g_b ?_ | refine g_sk ?_ | refine g_cT rfl ?_ | refine g_cF rfl ?_ | refine g_x rfl ?_ | refine g_lb ?_))
        refine g_rq rfl rfl (in64 (by simp only [arv]; omega)) ?_
        (repeat (first | refine g_sq ?_ | refine g_rg ?_ | refine g_r0 ?_ | refine g_ok rfl rfl ?_ | refine g_no rfl ?_ | refine g_no0 rfl ?_ | refine g_bk ?_ | refine g_b ?_ | refine g_sk ?_ | refine g_cT rfl ?_ | refine g_cF rfl ?_ | refine g_x rfl ?_ | refine g_lb ?_))
        refine g_l (k + 1, vh1, jb, H ++ [o.bs]) ⟨rfl, rfl, rfl, rfl, rfl, rfl, rfl, rfl, trivial⟩ ⟨by simp only; omega, by simp only; omega, hH2b, S, S1, D', _, k1, k2, k3, k4, hZ2, hext2, ?_⟩ (by simp only; omega)
        rw [z1, z2]
        exact hS.sel [0, 1, 2] rfl rfl
      · -- a crash
        rw [ea] at hS ⊢
        simp only at hS
        have hS := hS.sel [1, 2] rfl rfl
        (repeat (first | refine g_sq ?_ | refine g_rg ?_ | refine g_r0 ?_ | refine g_ok rfl rfl ?_ | refine g_no rfl ?_ | refine g_no0 rfl ?_ | refine g_bk ?_ | refine g_b ?_ | refine g_sk ?_ | refine g_cT rfl ?_ | refine g_cF rfl ?_ | refine g_x rfl ?_ | refine g_lb ?_))
        refine g_cl rfl rfl (c29 hS fun w S1 hS => ?_)
        have hbl : D'.boot.cells.length = N := k3
        (repeat (first | refine g_sq ?_ | refine g_rg ?_ | refine g_r0 ?_ | refine g_ok rfl rfl ?_ | refine g_no rfl ?_ | refine g_no0 rfl ?_ | refine g_bk ?_ | refine g_b ?_ | refine g_sk ?_ | refine g_cT rfl ?_ | refine g_cF rfl ?_ | refine g_x rfl ?_ | refine g_lb ?_))
        refine g_cl rfl rfl (c39 (fr := 0) (bk := (N : Int)) (by omega) hS (fun hb => absurd hb (hbad hbl)) (fun _ hd => absurd hd (by simp [Dev.boot])) (fun _ _ w S S1 jk hS => ?_))
        rw [show (0 : Int).toNat = 0 from rfl, Int.toNat_natCast] at hS
        rcases k4 with k4 | k4
        · -- it is not there
          rw [safe_open (D := D'.boot) k4 rfl rfl hbl (by omega) hHb] at hS
          (repeat (first | refine g_sq ?_ | refine g_rg ?_ | refine g_r0 ?_ | refine g_ok rfl rfl ?_ | refine g_no rfl ?_ | refine g_no0 rfl ?_ | refine g_bk ?_ | refine g_b ?_ | refine g_sk ?_ | refine g_cT rfl ?_ | refine g_cF rfl ?_ | refine g_x rfl ?_ | refine g_lb ?_))
          refine g_cl rfl rfl (c47 hS fun w S S2 vg hS => ?_)
          obtain ⟨ag, cg, rfl⟩ := (BsR.rdl hS 1 rfl).form
          have hgl : ((grps 1 H).map Grp.b).length = H.length := by rw [grps_b]
          rw [hgl]
          (repeat (first | refine g_sq ?_ | refine g_rg ?_ | refine g_r0 ?_ | refine g_ok rfl rfl ?_ | refine g_no rfl ?_ | refine g_no0 rfl ?_ | refine g_bk ?_ | refine g_b ?_ | refine g_sk ?_ | refine g_cT rfl ?_ | refine g_cF rfl ?_ | refine g_x rfl ?_ | refine g_lb ?_))
          refine g_dr mixed ?_
          have hS := hS.drew
          rw [hZl]
          (repeat (first | refine d_ok rfl rfl rfl ?_ | refine d_no rfl rfl ?_))
          refine d_rq rfl rfl rfl (in64 (by simp only [arv]; omega)) ?_
          (repeat (first | refine d_ok rfl rfl rfl ?_ | refine d_no rfl rfl ?_))
          have hcm : cmv BinOp.eql (H.length : Int) (arv BinOp.add (H.length : Int) 1) = false := by
            have : ¬ (H.length : Int) = arv BinOp.add (H.length : Int) 1 := by simp only [arv]; omega
            simpa only [cmv, decide_eq_false_iff_not] using this
          rw [hcm]
          (repeat (first | refine d_ok rfl rfl rfl ?_ | refine d_no rfl rfl ?_))
          refine d_fin ?_
          (repeat (first | refine g_sq ?_ | refine g_rg ?_ | refine g_r0 ?_ | refine g_ok rfl rfl ?_ | refine g_no rfl ?_ | refine g_no0 rfl ?_ | refine g_bk ?_ | refine g_b ?_ | refine g_sk ?_ | refine g_cT rfl ?_ | refine g_cF rfl ?_ | refine g_x rfl ?_ | refine g_lb ?_))
          have hr1 := BsR.rdl hS 1 rfl
          have hr2 := rdl_row hS 3 rfl hext
          rw [hZl, hZH] at hr2
          refine g_cl rfl rfl (c46 (by rw [hgl] at hr1; exact hr1) hr2 (by show ((grps 1 H).map Grp.b).length ≤ _; rw [hgl]; omega) hS fun w hS => ?_)
          rw [decide_eq_true (grps_b 1 H)]
          (repeat (first | refine g_sq ?_ | refine g_rg ?_ | refine g_r0 ?_ | refine g_ok rfl rfl ?_ | refine g_no rfl ?_ | refine g_no0 rfl ?_ | refine g_bk ?_ | refine g_b ?_ | refine g_sk ?_ | refine g_cT rfl ?_ | refine g_cF rfl ?_ | refine g_x rfl ?_ | refine g_lb ?_))
          refine g_rq rfl rfl (in64 (by simp only [arv]; omega)) ?_
          (repeat (first | refine g_sq ?_ | refine g_rg ?_ | refine g_r0 ?_ | refine g_ok rfl rfl ?_ | refine g_no rfl ?_ | refine g_no0 rfl ?_ | refine g_bk ?_ | refine g_b ?_ | refine g_sk ?_ | refine g_cT rfl ?_ | refine g_cF rfl ?_ | refine g_x rfl ?_ | refine g_lb ?_))
          refine g_l (k + 1, .slice ah H.length ch, jk, H) ⟨rfl, rfl, rfl, rfl, rfl, rfl, rfl, rfl, trivial⟩ ⟨by simp only; omega, by simp only; omega, hHb, S, S1, D'.boot, Z, rfl, rfl, hbl, k4, hZH, hext, ?_⟩ (by simp only; omega)
          have hS := hS.sel [0, 2, 3] rfl rfl
          rw [hZl] at hS ⊢
          exact hS
        · -- it is there
          rw [safe_open (D := D'.boot) k4 rfl rfl hbl (by omega) hH2b] at hS
          (repeat (first | refine g_sq ?_ | refine g_rg ?_ | refine g_r0 ?_ | refine g_ok rfl rfl ?_ | refine g_no rfl ?_ | refine g_no0 rfl ?_ | refine g_bk ?_ | refine g_b ?_ | refine g_sk ?_ | refine g_cT rfl ?_ | refine g_cF rfl ?_ | refine g_x rfl ?_ | refine g_lb ?_))
          refine g_cl rfl rfl (c47 hS fun w S S2 vg hS => ?_)
          have hgl : ((grps 1 (H ++ [o.bs])).map Grp.b).length = H.length + 1 := by rw [grps_b, hlen2]
          obtain ⟨ag, cg, rfl⟩ := (BsR.rdl hS 1 rfl).form
          rw [hgl]
          (repeat (first | refine g_sq ?_ | refine g_rg ?_ | refine g_r0 ?_ | refine g_ok rfl rfl ?_ | refine g_no rfl ?_ | refine g_no0 rfl ?_ | refine g_bk ?_ | refine g_b ?_ | refine g_sk ?_ | refine g_cT rfl ?_ | refine g_cF rfl ?_ | refine g_x rfl ?_ | refine g_lb ?_))
          refine g_dr mixed ?_
          have hS := hS.drew
          have hr1 := BsR.rdl hS 1 rfl
          have hgk : ((grps 1 (H ++ [o.bs])).map Grp.b)[H.length]? = some o.bs := by rw [grps_b, List.getElem?_append_right (Nat.le_refl _), Nat.sub_self]; rfl
          obtain ⟨bg, og, kg, lg, ug, Eg, Fg, eg, hBg, hxg, hrg⟩ := hr1.get hgk
          obtain ⟨E3, hu3⟩ := hxt.rd hS
          rw [hZl]
          (repeat (first | refine d_ok rfl rfl rfl ?_ | refine d_no rfl rfl ?_))
          refine d_rq rfl rfl rfl (in64 (by simp only [arv]; omega)) ?_
          rw [show arv BinOp.add (H.length : Int) 1 = ((H.length + 1 : Nat) : Int) by simp only [arv]; omega]
          (repeat (first | refine d_ok rfl rfl rfl ?_ | refine d_no rfl rfl ?_))
          rw [cmv_self ((H.length + 1 : Nat) : Int)]
          cases eg
          (repeat (first | refine d_ok rfl rfl rfl ?_ | refine d_no rfl rfl ?_))
          refine d_rq rfl rfl rfl ⟨by omega, by omega⟩ ?_
          refine d_l1r rfl rfl rfl hBg hxg ?_
          refine d_qt rfl rfl rfl (qt_bsR rfl hrg) ?_
          (repeat (first | refine d_ok rfl rfl rfl ?_ | refine d_no rfl rfl ?_))
          refine d_rq rfl rfl rfl ⟨by omega, by omega⟩ ?_
          (repeat (first | refine d_ok rfl rfl rfl ?_ | refine d_no rfl rfl ?_))
          refine d_l1r rfl rfl rfl (hB hS) hx2 ?_
          refine d_qt rfl rfl rfl (qt_bsR rfl hu3) ?_
          refine d_ok (v := .bool true) rfl rfl (congrArg (fun x => R3.ok (.bool x)) (decide_eq_true rfl)) ?_
          (repeat (first | refine d_ok rfl rfl rfl ?_ | refine d_no rfl rfl ?_))
          refine d_fin ?_
          (repeat (first | refine g_sq ?_ | refine g_rg ?_ | refine g_r0 ?_ | refine g_ok rfl rfl ?_ | refine g_no rfl ?_ | refine g_no0 rfl ?_ | refine g_bk ?_ | refine g_b ?_ | refine g_sk ?_ | refine g_cT rfl ?_ | refine g_cF rfl ?_ | refine g_x rfl ?_ | refine g_lb ?_))
          refine g_rq rfl rfl ⟨by omega, by omega⟩ ?_
          (repeat (first | refine g_sq ?_ | refine g_rg ?_ | refine g_r0 ?_ | refine g_ok rfl rfl ?_ | refine g_no rfl ?_ | refine g_no0 rfl ?_ | refine g_bk ?_ | refine g_b ?_ | refine g_sk ?_ | refine g_cT rfl ?_ | refine g_cF rfl ?_ | refine g_x rfl ?_ | refine g_lb ?_))
          refine g_l1r rfl rfl (hB hS) hx2 ?_
          refine g_ef rfl (ef_bl (rs := [.slice av o.bs.length cv]) hS rfl fun g w hS => ?_)
          refine g_ef rfl (ef_ap (n := Z.length) (m := 1) (ys := [.slice av o.bs.length cv]) hS 3 rfl (by rw [hZl]; rfl) rfl (.inl ⟨35, .inr ⟨g, 0, 1, _, rfl, Nat.le_refl _, Nat.le_refl _, rfl, (hS.b 4 rfl).r⟩⟩) rfl (by omega) (by omega) fun vh1 w hS => ?_)
          rw [← z1, ← z2] at hS
          (repeat (first | refine g_sq ?_ | refine g_rg ?_ | refine g_r0 ?_ | refine g_ok rfl rfl ?_ | refine g_no rfl ?_ | refine g_no0 rfl ?_ | refine g_bk ?_ | refine g_b ?_ | refine g_sk ?_ | refine g_cT rfl ?_ | refine g_cF rfl ?_ | refine g_x rfl ?_ | refine g_lb ?_))
          have hr1 := BsR.rdl hS 1 rfl
          have hr2 := rdl_row hS 3 rfl hext2
          rw [hZ2] at hr2
          refine g_cl rfl rfl (c46 (by rw [hgl] at hr1; exact hr1) hr2 (by show ((grps 1 (H ++ [o.bs])).map Grp.b).length ≤ _; rw [hgl]; omega) hS fun w hS => ?_)
          rw [decide_eq_true (grps_b 1 (H ++ [o.bs]))]
          (repeat (first | refine g_sq ?_ | refine g_rg ?_ | refine g_r0 ?_ | refine g_ok rfl rfl ?_ | refine g_no rfl ?_ | refine g_no0 rfl ?_ | refine g_bk ?_ | refine g_b ?_ | refine g_sk ?_ | refine g_cT rfl ?_ | refine g_cF rfl ?_ | refine g_x rfl ?_ | refine g_lb ?_))
          refine g_rq rfl rfl (in64 (by simp only [arv]; omega)) ?_
          (repeat (first | refine g_sq ?_ | refine g_rg ?_ | refine g_r0 ?_ | refine g_ok rfl rfl ?_ | refine g_no rfl ?_ | refine g_no0 rfl ?_ | refine g_bk ?_ | refine g_b ?_ | refine g_sk ?_ | refine g_cT rfl ?_ | refine g_cF rfl ?_ | refine g_x rfl ?_ | refine g_lb ?_))
          exact g_l (k + 1, vh1, jk, H ++ [o.bs]) ⟨rfl, rfl, rfl, rfl, rfl, rfl, rfl, rfl, trivial⟩ ⟨by simp only; omega, by simp only; omega, hH2b, S, S1, D'.boot, _, rfl, rfl, hbl, k4, hZ2, hext2, hS.sel [0, 2, 3] rfl rfl⟩ (by simp only; omega)
    · (repeat (first | refine g_sq ?_ | refine g_rg ?_ | refine g_r0 ?_ | refine g_ok rfl rfl ?_ | refine g_no rfl ?_ | refine g_no0 rfl ?_ | refine g_bk ?_ | refine g_b ?_ | refine g_sk ?_ | refine g_cT rfl ?_ | refine g_cF rfl ?_ | refine g_x rfl ?_ | refine g_lb ?_))
      refine g_cd rfl (fun hz2 => ?_) (fun hz2 => ?_)
      all_goals simp only [cmv, decide_eq_true_eq, decide_eq_false_iff_not] at hz2
      · -- it is armed
        (repeat (first | refine g_sq ?_ | refine g_rg ?_ | refine g_r0 ?_ | refine g_ok rfl rfl ?_ | refine g_no rfl ?_ | refine g_no0 rfl ?_ | refine g_bk ?_ | refine g_b ?_ | refine g_sk ?_ | refine g_cT rfl ?_ | refine g_cF rfl ?_ | refine g_x rfl ?_ | refine g_lb ?_))
        refine g_rq rfl rfl ⟨by omega, by omega⟩ ?_
        (repeat (first | refine g_sq ?_ | refine g_rg ?_ | refine g_r0 ?_ | refine g_ok rfl rfl ?_ | refine g_no rfl ?_ | refine g_no0 rfl ?_ | refine g_bk ?_ | refine g_b ?_ | refine g_sk ?_ | refine g_cT rfl ?_ | refine g_cF rfl ?_ | refine g_x rfl ?_ | refine g_lb ?_))
        refine g_lmr rfl rfl (hB hS) (by show off + k * 7 + 4 + 3 ≤ _; omega) ?_
        rw [show List.take 3 (List.drop (off + (k : Int).toNat * 7 + 4) l) = (falV o.f).cells.toList from hf3]
        have hS := hS.sel [1, 0, 2] rfl rfl
        refine g_cl rfl rfl (c32 (f := o.f) hS fun w S1 hS => ?_)
        rw [hDd] at hS
        have hS : St w0 (fun _ => False) w [DevR S1 d (D.arm o.f), JouR S jb d 0 N ⟨grps 1 H, H.length + 1, false⟩, row (.slice ah Z.length ch) 35 1 Z.length (Z.map Prod.fst)] := hS
        (repeat (first | refine g_sq ?_ | refine g_rg ?_ | refine g_r0 ?_ | refine g_ok rfl rfl ?_ | refine g_no rfl ?_ | refine g_no0 rfl ?_ | refine g_bk ?_ | refine g_b ?_ | refine g_sk ?_ | refine g_cT rfl ?_ | refine g_cF rfl ?_ | refine g_x rfl ?_ | refine g_lb ?_))
        refine g_rq rfl rfl (in64 (by simp only [arv]; omega)) ?_
        (repeat (first | refine g_sq ?_ | refine g_rg ?_ | refine g_r0 ?_ | refine g_ok rfl rfl ?_ | refine g_no rfl ?_ | refine g_no0 rfl ?_ | refine g_bk ?_ | refine g_b ?_ | refine g_sk ?_ | refine g_cT rfl ?_ | refine g_cF rfl ?_ | refine g_x rfl ?_ | refine g_lb ?_))
        exact g_l (k + 1, .slice ah Z.length ch, jb, H) ⟨rfl, rfl, rfl, rfl, rfl, rfl, rfl, rfl, trivial⟩ ⟨by simp only; omega, by simp only; omega, hHb, S, S1, D.arm o.f, Z, hDd, hDw, hDl, hC, hZH, hext, hS.sel [1, 0, 2] rfl rfl⟩ (by simp only; omega)
      · (repeat (first | refine g_sq ?_ | refine g_rg ?_ | refine g_r0 ?_ | refine g_ok rfl rfl ?_ | refine g_no rfl ?_ | refine g_no0 rfl ?_ | refine g_bk ?_ | refine g_b ?_ | refine g_sk ?_ | refine g_cT rfl ?_ | refine g_cF rfl ?_ | refine g_x rfl ?_ | refine g_lb ?_))
        refine g_cd rfl (fun hz3 => ?_) (fun hz3 => ?_)
        all_goals simp only [cmv, decide_eq_true_eq, decide_eq_false_iff_not] at hz3
        · -- it crashes, and is booted
          (repeat (first | refine g_sq ?_ | refine g_rg ?_ | refine g_r0 ?_ | refine g_ok rfl rfl ?_ | refine g_no rfl ?_ | refine g_no0 rfl ?_ | refine g_bk ?_ | refine g_b ?_ | refine g_sk ?_ | refine g_cT rfl ?_ | refine g_cF rfl ?_ | refine g_x rfl ?_ | refine g_lb ?_))
          refine g_rq rfl rfl ⟨by omega, by omega⟩ ?_
          (repeat (first | refine g_sq ?_ | refine g_rg ?_ | refine g_r0 ?_ | refine g_ok rfl rfl ?_ | refine g_no rfl ?_ | refine g_no0 rfl ?_ | refine g_bk ?_ | refine g_b ?_ | refine g_sk ?_ | refine g_cT rfl ?_ | refine g_cF rfl ?_ | refine g_x rfl ?_ | refine g_lb ?_))
          refine g_lmr rfl rfl (hB hS) (by show off + k * 7 + 4 + 3 ≤ _; omega) ?_
          rw [show List.take 3 (List.drop (off + (k : Int).toNat * 7 + 4) l) = (falV o.f).cells.toList from hf3]
          have hS := hS.sel [1, 2] rfl rfl
          refine g_cl rfl rfl (c27 (f := o.f) hS fun w S1 hS => ?_)
          rw [hDd] at hS
          have hS : St w0 (fun _ => False) w [DevR S1 d (D.crash o.f), row (.slice ah Z.length ch) 35 1 Z.length (Z.map Prod.fst)] := hS
          (repeat (first | refine g_sq ?_ | refine g_rg ?_ | refine g_r0 ?_ | refine g_ok rfl rfl ?_ | refine g_no rfl ?_ | refine g_no0 rfl ?_ | refine g_bk ?_ | refine g_b ?_ | refine g_sk ?_ | refine g_cT rfl ?_ | refine g_cF rfl ?_ | refine g_x rfl ?_ | refine g_lb ?_))
          refine g_cl rfl rfl (c29 hS fun w S1 hS => ?_)
          have hcc : (D.crash o.f).boot.cells = D.cells := by
            show crashC o.f 0 D.waits D.cells = D.cells
            rw [hDw]; rfl
          have hbl : (D.crash o.f).boot.cells.length = N := by rw [hcc]; exact hDl
          have hC2 : SafeC H (D.crash o.f).boot.cells := by rw [hcc]; exact hC
          (repeat (first | refine g_sq ?_ | refine g_rg ?_ | refine g_r0 ?_ | refine g_ok rfl rfl ?_ | refine g_no rfl ?_ | refine g_no0 rfl ?_ | refine g_bk ?_ | refine g_b ?_ | refine g_sk ?_ | refine g_cT rfl ?_ | refine g_cF rfl ?_ | refine g_x rfl ?_ | refine g_lb ?_))
          refine g_cl rfl rfl (c39 (fr := 0) (bk := (N : Int)) (by omega) hS (fun hb => absurd hb (hbad hbl)) (fun _ hd => absurd hd (by simp [Dev.boot])) (fun _ _ w S S1 jk hS => ?_))
          rw [show (0 : Int).toNat = 0 from rfl, Int.toNat_natCast, safe_open (D := (D.crash o.f).boot) hC2 rfl rfl hbl (by omega) hHb] at hS
          have hgl : ((grps 1 H).map Grp.b).length = H.length := by rw [grps_b]
          (repeat (first | refine g_sq ?_ | refine g_rg ?_ | refine g_r0 ?_ | refine g_ok rfl rfl ?_ | refine g_no rfl ?_ | refine g_no0 rfl ?_ | refine g_bk ?_ | refine g_b ?_ | refine g_sk ?_ | refine g_cT rfl ?_ | refine g_cF rfl ?_ | refine g_x rfl ?_ | refine g_lb ?_))
          refine g_cl rfl rfl (c47 hS fun w S S2 vg hS => ?_)
          (repeat (first | refine g_sq ?_ | refine g_rg ?_ | refine g_r0 ?_ | refine g_ok rfl rfl ?_ | refine g_no rfl ?_ | refine g_no0 rfl ?_ | refine g_bk ?_ | refine g_b ?_ | refine g_sk ?_ | refine g_cT rfl ?_ | refine g_cF rfl ?_ | refine g_x rfl ?_ | refine g_lb ?_))
          have hr1 := BsR.rdl hS 1 rfl
          have hr2 := rdl_row hS 3 rfl hext
          rw [hZH] at hr2
          refine g_cl rfl rfl (c46 hr1 hr2 (by show ((grps 1 H).map Grp.b).length ≤ _; rw [hgl]; omega) hS fun w hS => ?_)
          rw [decide_eq_true (grps_b 1 H)]
          (repeat (first | refine g_sq ?_ | refine g_rg ?_ | refine g_r0 ?_ | refine g_ok rfl rfl ?_ | refine g_no rfl ?_ | refine g_no0 rfl ?_ | refine g_bk ?_ | refine g_b ?_ | refine g_sk ?_ | refine g_cT rfl ?_ | refine g_cF rfl ?_ | refine g_x rfl ?_ | refine g_lb ?_))
          refine g_rq rfl rfl (in64 (by simp only [arv]; omega)) ?_
          (repeat (first | refine g_sq ?_ | refine g_rg ?_ | refine g_r0 ?_ | refine g_ok rfl rfl ?_ | refine g_no rfl ?_ | refine g_no0 rfl ?_ | refine g_bk ?_ | refine g_b ?_ | refine g_sk ?_ | refine g_cT rfl ?_ | refine g_cF rfl ?_ | refine g_x rfl ?_ | refine g_lb ?_))
          exact g_l (k + 1, .slice ah Z.length ch, jk, H) ⟨rfl, rfl, rfl, rfl, rfl, rfl, rfl, rfl, trivial⟩ ⟨by simp only; omega, by simp only; omega, hHb, S, S1, _, Z, rfl, rfl, hbl, hC2, hZH, hext, hS.sel [0, 2, 3] rfl rfl⟩ (by simp only; omega)
        · (repeat (first | refine g_sq ?_ | refine g_rg ?_ | refine g_r0 ?_ | refine g_ok rfl rfl ?_ | refine g_no rfl ?_ | refine g_no0 rfl ?_ | refine g_bk ?_ | refine g_b ?_ | refine g_sk ?_ | refine g_cT rfl ?_ | refine g_cF rfl ?_ | refine g_x rfl ?_ | refine g_lb ?_))
          refine g_rq rfl rfl (in64 (by simp only [arv]; omega)) ?_
          (repeat (first | refine g_sq ?_ | refine g_rg ?_ | refine g_r0 ?_ | refine g_ok rfl rfl ?_ | refine g_no rfl ?_ | refine g_no0 rfl ?_ | refine g_bk ?_ | refine g_b ?_ | refine g_sk ?_ | refine g_cT rfl ?_ | refine g_cF rfl ?_ | refine g_x rfl ?_ | refine g_lb ?_))
          exact g_l (k + 1, .slice ah Z.length ch, jb, H) ⟨rfl, rfl, rfl, rfl, rfl, rfl, rfl, rfl, trivial⟩ ⟨by simp only; omega, by simp only; omega, hHb, S, S1, D, Z, hDd, hDw, hDl, hC, hZH, hext, hS⟩ (by simp only; omega)
  · -- the end
    have hgl : ((grps 1 H).map Grp.b).length = H.length := by rw [grps_b]
    have hus : usedOf (grps 1 H) ≤ N := (JouR.blk hS).1.1
    (repeat (first | refine g_sq ?_ | refine g_rg ?_ | refine g_r0 ?_ | refine g_ok rfl rfl ?_ | refine g_no rfl ?_ | refine g_no0 rfl ?_ | refine g_bk ?_ | refine g_b ?_ | refine g_sk ?_ | refine g_cT rfl ?_ | refine g_cF rfl ?_ | refine g_x rfl ?_ | refine g_lb ?_))
    refine g_cl rfl rfl (c47 hS fun w S S2 vg hS => ?_)
    (repeat (first | refine g_sq ?_ | refine g_rg ?_ | refine g_r0 ?_ | refine g_ok rfl rfl ?_ | refine g_no rfl ?_ | refine g_no0 rfl ?_ | refine g_bk ?_ | refine g_b ?_ | refine g_sk ?_ | refine g_cT rfl ?_ | refine g_cF rfl ?_ | refine g_x rfl ?_ | refine g_lb ?_))
    have hr1 := BsR.rdl hS 1 rfl
    have hr2 := rdl_row hS 3 rfl hext
    rw [hZH] at hr2
    refine g_cl rfl rfl (c46 hr1 hr2 (by show ((grps 1 H).map Grp.b).length ≤ _; rw [hgl]; omega) hS fun w hS => ?_)
    rw [decide_eq_true (grps_b 1 H)]
    (repeat (first | refine g_sq ?_ | refine g_rg ?_ | refine g_r0 ?_ | refine g_ok rfl rfl ?_ | refine g_no rfl ?_ | refine g_no0 rfl ?_ | refine g_bk ?_ | refine g_b ?_ | refine g_sk ?_ | refine g_cT rfl ?_ | refine g_cF rfl ?_ | refine g_x rfl ?_ | refine g_lb ?_))
    refine g_cl rfl rfl (c44 hS fun w S hS => ?_)
    rw [show (⟨grps 1 H, H.length + 1, false⟩ : Jou).last = lastOf (grps 1 H) from rfl, grps_last1, hZl]
    (repeat (first | refine g_sq ?_ | refine g_rg ?_ | refine g_r0 ?_ | refine g_ok rfl rfl ?_ | refine g_no rfl ?_ | refine g_no0 rfl ?_ | refine g_bk ?_ | refine g_b ?_ | refine g_sk ?_ | refine g_cT rfl ?_ | refine g_cF rfl ?_ | refine g_x rfl ?_ | refine g_lb ?_))
    rw [show cmv BinOp.leq (H.length : Int) (H.length : Int) = true by simp [cmv]]
    (repeat (first | refine g_sq ?_ | refine g_rg ?_ | refine g_r0 ?_ | refine g_ok rfl rfl ?_ | refine g_no rfl ?_ | refine g_no0 rfl ?_ | refine g_bk ?_ | refine g_b ?_ | refine g_sk ?_ | refine g_cT rfl ?_ | refine g_cF rfl ?_ | refine g_x rfl ?_ | refine g_lb ?_))
    refine g_cl rfl rfl (c43 hS fun w S hS => ?_)
    (repeat (first | refine g_sq ?_ | refine g_rg ?_ | refine g_r0 ?_ | refine g_ok rfl rfl ?_ | refine g_no rfl ?_ | refine g_no0 rfl ?_ | refine g_bk ?_ | refine g_b ?_ | refine g_sk ?_ | refine g_cT rfl ?_ | refine g_cF rfl ?_ | refine g_x rfl ?_ | refine g_lb ?_))
    refine g_cl rfl rfl (c41 hS fun w S hS => ?_)
    rw [show (⟨grps 1 H, H.length + 1, false⟩ : Jou).used = usedOf (grps 1 H) from rfl]
    refine g_rq rfl rfl (in64 (by simp only [arv]; omega)) ?_
    rw [show arv BinOp.add (usedOf (grps 1 H) : Int) ((N - usedOf (grps 1 H) : Nat) : Int) = (N : Int) by simp only [arv]; omega]
    (repeat (first | refine g_sq ?_ | refine g_rg ?_ | refine g_r0 ?_ | refine g_ok rfl rfl ?_ | refine g_no rfl ?_ | refine g_no0 rfl ?_ | refine g_bk ?_ | refine g_b ?_ | refine g_sk ?_ | refine g_cT rfl ?_ | refine g_cF rfl ?_ | refine g_x rfl ?_ | refine g_lb ?_))
    rw [cmv_self (N : Int)]
    (repeat (first | refine g_sq ?_ | refine g_rg ?_ | refine g_r0 ?_ | refine g_ok rfl rfl ?_ | refine g_no rfl ?_ | refine g_no0 rfl ?_ | refine g_bk ?_ | refine g_b ?_ | refine g_sk ?_ | refine g_cT rfl ?_ | refine g_cF rfl ?_ | refine g_x rfl ?_ | refine g_lb ?_))
    exact g_ret (q_1 rfl (hfin hS))
end
end Go.Proofs.Ytegjocpjmfaigaa
