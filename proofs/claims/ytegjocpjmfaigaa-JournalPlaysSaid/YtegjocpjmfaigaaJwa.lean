/- What is done to a journal. -/
import Derived.Test.YtegjocpjmfaigaaJo
import Derived.Test.YtegjocpjmfaigaaMe
set_option linter.unusedSimpArgs false
set_option linter.unusedVariables false
namespace Go.Proofs.Ytegjocpjmfaigaa
open Go.En

/-- what is done to a journal -/
structure Opj where
  k : Int
  a : Int
  v : Value
  bs : List UInt8
  n : Int
  f : Fal
def opvj (o : Opj) : List Value := [.int .i64 o.k, .int .i64 o.a, o.v, .int .i64 o.n, .int .i64 o.f.a, .int .i64 o.f.k, .int .i64 o.f.t]
def opsFj (ops : List Opj) : List Value := (ops.map opvj).flatten
def OpsJ (E : TypeId) (v : Value) (ops : List Opj) (w : World) : Prop := Rd v E 7 ops.length (opsFj ops) w ∧ ∀ o, o ∈ ops → Ext w (o.v, o.bs)
theorem opsFj_get {ops : List Opj} {k : Nat} {o : Opj} (ho : ops[k]? = some o) {l : List Value} {off n : Nat} (hx : (l.drop off).take (n * 7) = opsFj ops) (hn : n = ops.length) : List.take 7 (List.drop (off + k * 7) l) = opvj o := by
  have hlt := (List.getElem?_eq_some_iff.1 ho).1
  have hf := flat_get (ls := ops.map opvj) (k := 7) (i := k) (fun l hl => by simp only [List.mem_map] at hl; obtain ⟨x, _, rfl⟩ := hl; rfl) (by simpa using hlt) []
  have ho' := (List.getElem?_eq_some_iff.1 ho).2
  rw [List.append_nil, show (ops.map opvj).flatten = opsFj ops from rfl, ← hx, List.drop_take, List.take_take, List.drop_drop] at hf
  rw [Nat.min_eq_left (by omega)] at hf
  rw [hf]
  simp [ho']
def GoodJ (ops : List Opj) : Prop := ops.length ≤ 60 ∧ ∀ o, o ∈ ops → o.bs.length ≤ 1000
section
variable {w w0 : World} {S0 S S1 : Nat → Prop} {K : Value → World → Prop} {E : TypeId} {L : List Res}
theorem opj_at {k : Nat} {v : Value} {ops : List Opj} (hv : OpsJ E v ops w0) (hlt : k < ops.length) : ∃ (o : Opj) (b off cap : Nat) (l : List Value) (av : Option Addr) (cv : Nat), ops[k]? = some o ∧ o ∈ ops ∧ v = .slice (some ⟨b, off, none⟩) ops.length cap ∧ o.v = .slice av o.bs.length cv ∧ Ext w0 (o.v, o.bs) ∧
    off + k * 7 + 7 ≤ l.length ∧ (∀ j, j < 7 → l[off + k * 7 + j]? = (opvj o)[j]?) ∧ List.take 3 (List.drop (off + k * 7 + 4) l) = (falV o.f).cells.toList ∧ List.take 7 (List.drop (off + k * 7) l) = opvj o ∧
    ∀ {w : World} {L : List Res}, St w0 (fun _ => False) w L → Blr w b l E := by
  have ho : ops[k]? = some ops[k] := List.getElem?_eq_getElem hlt
  have hmem : ops[k] ∈ ops := List.getElem_mem hlt
  generalize ops[k] = o at ho hmem
  obtain ⟨b, off, cap, l, hv', hn, hl, hx, hB⟩ := Rd.block hv.1 (by omega)
  have hxt := hv.2 o hmem
  obtain ⟨E', hbo⟩ := hxt
  obtain ⟨av, cv, ev⟩ := Rd.form hbo
  have h7 := opsFj_get ho hx rfl
  refine ⟨o, b, off, cap, l, av, cv, ho, hmem, hv', ev, ⟨E', hbo⟩, by omega, fun j hj => ?_, ?_, h7, fun {w L} hS => ?_⟩
  · rw [← h7, List.getElem?_take_of_lt hj, List.getElem?_drop]
  · have : List.take 3 (List.drop 4 (List.take 7 (List.drop (off + k * 7) l))) = List.take 3 (List.drop (off + k * 7 + 4) l) := by
      rw [List.drop_take, List.take_take, List.drop_drop]
      rfl
    rw [← this, h7]
    rfl
  · refine hB.same (hS.fr.kept b (hv.1.lt b ?_) (fun h => h))
    rw [hv']
    exact ⟨rfl, by omega⟩
theorem OpsJ.to {v : Value} {ops : List Opj} (hv : OpsJ E v ops w0) (hS : St w0 (fun _ => False) w L) : OpsJ E v ops w :=
  ⟨hS.ro (r := rdR v E 7 ops.length (opsFj ops)) hv.1 fun x hx => ⟨hv.1.lt x hx, fun h => h⟩, fun o ho => (hv.2 o ho).rd hS⟩
theorem l50 {v : Value} {ops : List Opj} (hv : OpsJ E v ops w) (h1 : ¬ GoodJ ops → K (.int .i64 1) w) (h0 : GoodJ ops → K (.int .i64 0) w) : CK Try.prog 50 [v] w K := by
  have hr' := hv.1
  obtain ⟨a, c, rfl⟩ := Rd.form hr'
  refine call_k Try.func50 k50 Try.ntmps50 (Nat.le_of_ble_eq_true rfl) ?_
  (repeat (first | refine g_sq ?_ | refine g_rg ?_ | refine g_r0 ?_ | refine g_ok rfl rfl ?_ | refine g_no rfl ?_ | refine g_no0 rfl ?_ | refine g_bk ?_ | refine g_b ?_ | refine g_sk ?_ | refine g_cT rfl ?_ | refine g_cF rfl ?_ | refine g_x rfl ?_ | refine g_lb ?_))
  refine g_cd rfl (fun hc => ?_) (fun hc => ?_)
  all_goals simp only [cmv, decide_eq_true_eq, decide_eq_false_iff_not] at hc
  · (repeat (first | refine g_sq ?_ | refine g_rg ?_ | refine g_r0 ?_ | refine g_ok rfl rfl ?_ | refine g_no rfl ?_ | refine g_no0 rfl ?_ | refine g_bk ?_ | refine g_b ?_ | refine g_sk ?_ | refine g_cT rfl ?_ | refine g_cF rfl ?_ | refine g_x rfl ?_ | refine g_lb ?_))
    exact g_ret (q_1 rfl (h1 fun hg => by have := hg.1; omega))
  · (repeat (first | refine g_sq ?_ | refine g_rg ?_ | refine g_r0 ?_ | refine g_ok rfl rfl ?_ | refine g_no rfl ?_ | refine g_no0 rfl ?_ | refine g_bk ?_ | refine g_b ?_ | refine g_sk ?_ | refine g_cT rfl ?_ | refine g_cF rfl ?_ | refine g_x rfl ?_ | refine g_lb ?_))
    refine g_lp (ι := Nat) (fun k => [(0, .slice a ops.length c), (8, .int .i64 ops.length), (9, .int .i64 k)])
      (fun k w' => k ≤ ops.length ∧ (∀ j o, j < k → ops[j]? = some o → o.bs.length ≤ 1000) ∧ w = w') (fun k => ops.length - k) 0 ⟨rfl, rfl, rfl, trivial⟩ ⟨Nat.zero_le _, fun j o hj => absurd hj (Nat.not_lt_zero j), rfl⟩ ?_
    rintro k _ ⟨hk, hgo, rfl⟩
    (repeat (first | refine g_sq ?_ | refine g_rg ?_ | refine g_r0 ?_ | refine g_ok rfl rfl ?_ | refine g_no rfl ?_ | refine g_no0 rfl ?_ | refine g_bk ?_ | refine g_b ?_ | refine g_sk ?_ | refine g_cT rfl ?_ | refine g_cF rfl ?_ | refine g_x rfl ?_ | refine g_lb ?_))
    refine g_cd rfl (fun hq => ?_) (fun hq => ?_)
    all_goals simp only [cmv, decide_eq_true_eq, decide_eq_false_iff_not] at hq
    · obtain ⟨o, bo, off, cap, l, av, cv, ho, hmem, he, hov, hxt, hll, hget, hf3, hl7, hB⟩ := opj_at hv (k := k) (by omega)
      cases he
      have hov2 : o.v = .slice av o.bs.length cv := hov
      (repeat (first | refine g_sq ?_ | refine g_rg ?_ | refine g_r0 ?_ | refine g_ok rfl rfl ?_ | refine g_no rfl ?_ | refine g_no0 rfl ?_ | refine g_bk ?_ | refine g_b ?_ | refine g_sk ?_ | refine g_cT rfl ?_ | refine g_cF rfl ?_ | refine g_x rfl ?_ | refine g_lb ?_))
      refine g_rq rfl rfl ⟨by omega, by omega⟩ ?_
      (repeat (first | refine g_sq ?_ | refine g_rg ?_ | refine g_r0 ?_ | refine g_ok rfl rfl ?_ | refine g_no rfl ?_ | refine g_no0 rfl ?_ | refine g_bk ?_ | refine g_b ?_ | refine g_sk ?_ | refine g_cT rfl ?_ | refine g_cF rfl ?_ | refine g_x rfl ?_ | refine g_lb ?_))
      refine g_l1r (v := .slice av o.bs.length cv) rfl rfl (hB (St.nil w _)) (by
        show l[off + k * 7 + 2]? = _
        rw [hget 2 (by decide), ← hov2]; rfl) ?_
      (repeat (first | refine g_sq ?_ | refine g_rg ?_ | refine g_r0 ?_ | refine g_ok rfl rfl ?_ | refine g_no rfl ?_ | refine g_no0 rfl ?_ | refine g_bk ?_ | refine g_b ?_ | refine g_sk ?_ | refine g_cT rfl ?_ | refine g_cF rfl ?_ | refine g_x rfl ?_ | refine g_lb ?_))
      refine g_cd rfl (fun hz => ?_) (fun hz => ?_)
      all_goals simp only [cmv, decide_eq_true_eq, decide_eq_false_iff_not] at hz
      · (repeat (first | refine g_sq ?_ | refine g_rg ?_ | refine g_r0 ?_ | refine g_ok rfl rfl ?_ | refine g_no rfl ?_ | refine g_no0 rfl ?_ | refine g_bk ?_ | refine g_b ?_ | refine g_sk ?_ | refine g_cT rfl ?_ | refine g_cF rfl ?_ | refine g_x rfl ?_ | refine g_lb ?_))
        exact g_ret (q_1 rfl (h1 fun hg => by have := hg.2 o hmem; omega))
      · (repeat (first | refine g_sq ?_ | refine g_rg ?_ | refine g_r0 ?_ | refine g_ok rfl rfl ?_ | refine g_no rfl ?_ | refine g_no0 rfl ?_ | refine g_bk ?_ | refine g_b ?_ | refine g_sk ?_ | refine g_cT rfl ?_ | refine g_cF rfl ?_ | refine g_x rfl ?_ | refine g_lb ?_))
        refine g_rq rfl rfl (in64 (by simp only [arv]; omega)) ?_
        (repeat (first | refine g_sq ?_ | refine g_rg ?_ | refine g_r0 ?_ | refine g_ok rfl rfl ?_ | refine g_no rfl ?_ | refine g_no0 rfl ?_ | refine g_bk ?_ | refine g_b ?_ | refine g_sk ?_ | refine g_cT rfl ?_ | refine g_cF rfl ?_ | refine g_x rfl ?_ | refine g_lb ?_))
        refine g_l (k + 1) ⟨rfl, rfl, rfl, trivial⟩ ⟨by omega, fun j o' hj ho' => ?_, rfl⟩ (by omega)
        by_cases e : j = k
        · subst e; rw [ho] at ho'; cases ho'; omega
        · exact hgo j o' (by omega) ho'
    · (repeat (first | refine g_sq ?_ | refine g_rg ?_ | refine g_r0 ?_ | refine g_ok rfl rfl ?_ | refine g_no rfl ?_ | refine g_no0 rfl ?_ | refine g_bk ?_ | refine g_b ?_ | refine g_sk ?_ | refine g_cT rfl ?_ | refine g_cF rfl ?_ | refine g_x rfl ?_ | refine g_lb ?_))
      refine g_ret (q_1 rfl (h0 ⟨by omega, fun o ho => ?_⟩))
      obtain ⟨j, hj, e⟩ := List.getElem_of_mem ho
      exact hgo j o (by omega) (by rw [List.getElem?_eq_getElem hj, e])
end
end Go.Proofs.Ytegjocpjmfaigaa
