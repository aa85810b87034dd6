/- The statement BlockPlays: the walk. -/
import Derived.Test.YtegjocpjmfaigaaLb
set_option linter.unusedSimpArgs false
set_option linter.unusedVariables false
namespace Go.Proofs.Ytegjocpjmfaigaa
open Go.En

def opsF (ops : List Opd) : List Value := (ops.map opv).flatten
/-- a slice of operations, as it lies in memory -/
def OpsR (E : TypeId) (v : Value) (ops : List Opd) (w : World) : Prop := Rd v E 6 ops.length (opsF ops) w ∧ ∀ o, o ∈ ops → ∃ E', Rd o.v E' 1 o.bs.length (bys o.bs) w
theorem opsF_len (ops : List Opd) : (opsF ops).length = ops.length * 6 := by
  rw [opsF, flat_len (k := 6) (fun l hl => by simp only [List.mem_map] at hl; obtain ⟨x, _, rfl⟩ := hl; rfl), List.length_map]
theorem take_opv (o : Opd) : List.take 6 (opv o) = opv o := rfl
/-- an operation, read from its slice -/
theorem opsF_get {ops : List Opd} {k : Nat} {o : Opd} (ho : ops[k]? = some o) {l : List Value} {off n : Nat} (hx : (l.drop off).take (n * 6) = opsF ops) (hn : n = ops.length) : List.take 6 (List.drop (off + k * 6) l) = opv o := by
  have hlt := (List.getElem?_eq_some_iff.1 ho).1
  have hf := flat_get (ls := ops.map opv) (k := 6) (i := k) (fun l hl => by simp only [List.mem_map] at hl; obtain ⟨x, _, rfl⟩ := hl; rfl) (by simpa using hlt) []
  have ho' := (List.getElem?_eq_some_iff.1 ho).2
  rw [List.append_nil, show (ops.map opv).flatten = opsF ops from rfl, ← hx, List.drop_take, List.take_take, List.drop_drop] at hf
  rw [Nat.min_eq_left (by omega)] at hf
  rw [hf]
  simp [ho']
theorem opv_get {ops : List Opd} {k j : Nat} {o : Opd} (ho : ops[k]? = some o) {l : List Value} {off n : Nat} (hx : (l.drop off).take (n * 6) = opsF ops) (hn : n = ops.length) (hj : j < 6) : l[off + k * 6 + j]? = (opv o)[j]? := by
  rw [← opsF_get ho hx hn, List.getElem?_take_of_lt hj, List.getElem?_drop]

section
variable {w w0 : World} {S0 S S' : Nat → Prop} {K : Value → World → Prop} {E : TypeId} {L : List Res}
def Good (ops : List Opd) : Prop := ops.length ≤ 120 ∧ ∀ o, o ∈ ops → o.bs.length ≤ 300
theorem l17 {v : Value} {ops : List Opd} (hv : OpsR E v ops w) (h1 : ¬ Good ops → K (.int .i64 1) w) (h0 : Good ops → K (.int .i64 0) w) : CK Try.prog 17 [v] w K := by
  obtain ⟨hr, hb⟩ := hv
  have hr' := hr
  obtain ⟨a, c, rfl⟩ := Rd.form hr
  refine call_k Try.func17 k17 Try.ntmps17 (Nat.le_of_ble_eq_true rfl) ?_
  (repeat (first | refine g_sq ?_ | refine g_rg ?_ | refine g_r0 ?_ | refine g_ok rfl rfl ?_ | refine g_no rfl ?_ | refine g_no0 rfl ?_ | refine g_bk ?_ | refine g_b ?_ | refine g_sk ?_ | refine g_cT rfl ?_ | refine g_cF rfl ?_ | refine g_x rfl ?_ | refine g_lb ?_))
  refine g_cd rfl (fun hc => ?_) (fun hc => ?_)
  all_goals simp only [cmv, decide_eq_true_eq, decide_eq_false_iff_not] at hc
  · (repeat (first | refine g_sq ?_ | refine g_rg ?_ | refine g_r0 ?_ | refine g_ok rfl rfl ?_ | refine g_no rfl ?_ | refine g_no0 rfl ?_ | refine g_bk ?_ | refine g_b ?_ | refine g_sk ?_ | refine g_cT rfl ?_ | refine g_cF rfl ?_ | refine g_x rfl ?_ | refine g_lb ?_))
    exact g_ret (q_1 rfl (h1 fun hg => by have := hg.1; omega))
  · (repeat (first | refine g_sq ?_ | refine g_rg ?_ | refine g_r0 ?_ | refine g_ok rfl rfl ?_ | refine g_no rfl ?_ | refine g_no0 rfl ?_ | refine g_bk ?_ | refine g_b ?_ | refine g_sk ?_ | refine g_cT rfl ?_ | refine g_cF rfl ?_ | refine g_x rfl ?_ | refine g_lb ?_))
    refine g_lp (ι := Nat) (fun k => [(0, .slice a ops.length c), (8, .int .i64 ops.length), (9, .int .i64 k)])
      (fun k w' => k ≤ ops.length ∧ (∀ j o, j < k → ops[j]? = some o → o.bs.length ≤ 300) ∧ w = w') (fun k => ops.length - k) 0 ⟨rfl, rfl, rfl, trivial⟩ ⟨Nat.zero_le _, fun j o hj => absurd hj (Nat.not_lt_zero j), rfl⟩ ?_
    rintro k _ ⟨hk, hgo, rfl⟩
    (repeat (first | refine g_sq ?_ | refine g_rg ?_ | refine g_r0 ?_ | refine g_ok rfl rfl ?_ | refine g_no rfl ?_ | refine g_no0 rfl ?_ | refine g_bk ?_ | refine g_b ?_ | refine g_sk ?_ | refine g_cT rfl ?_ | refine g_cF rfl ?_ | refine g_x rfl ?_ | refine g_lb ?_))
    refine g_cd rfl (fun hq => ?_) (fun hq => ?_)
    all_goals simp only [cmv, decide_eq_true_eq, decide_eq_false_iff_not] at hq
    · have hlt : k < ops.length := by omega
      have ho : ops[k]? = some ops[k] := List.getElem?_eq_getElem hlt
      have hmem : ops[k] ∈ ops := List.getElem_mem hlt
      generalize ops[k] = o at ho hmem
      obtain ⟨b, off, cap, l, hv, hn, hl, hx, hB⟩ := Rd.block hr (by omega)
      cases hv
      obtain ⟨E', hbo⟩ := hb o hmem
      obtain ⟨av, cv, ev⟩ := Rd.form hbo
      (repeat (first | refine g_sq ?_ | refine g_rg ?_ | refine g_r0 ?_ | refine g_ok rfl rfl ?_ | refine g_no rfl ?_ | refine g_no0 rfl ?_ | refine g_bk ?_ | refine g_b ?_ | refine g_sk ?_ | refine g_cT rfl ?_ | refine g_cF rfl ?_ | refine g_x rfl ?_ | refine g_lb ?_))
      refine g_rq rfl rfl ⟨by omega, by omega⟩ ?_
      (repeat (first | refine g_sq ?_ | refine g_rg ?_ | refine g_r0 ?_ | refine g_ok rfl rfl ?_ | refine g_no rfl ?_ | refine g_no0 rfl ?_ | refine g_bk ?_ | refine g_b ?_ | refine g_sk ?_ | refine g_cT rfl ?_ | refine g_cF rfl ?_ | refine g_x rfl ?_ | refine g_lb ?_))
      refine g_l1r (v := .slice av o.bs.length cv) rfl rfl hB (by
        show l[off + k * 6 + 2]? = _
        rw [opv_get ho hx rfl (by decide), ← ev]; rfl) ?_
      (repeat (first | refine g_sq ?_ | refine g_rg ?_ | refine g_r0 ?_ | refine g_ok rfl rfl ?_ | refine g_no rfl ?_ | refine g_no0 rfl ?_ | refine g_bk ?_ | refine g_b ?_ | refine g_sk ?_ | refine g_cT rfl ?_ | refine g_cF rfl ?_ | refine g_x rfl ?_ | refine g_lb ?_))
      refine g_cd rfl (fun hz => ?_) (fun hz => ?_)
      all_goals simp only [cmv, decide_eq_true_eq, decide_eq_false_iff_not] at hz
      · (repeat (first | refine g_sq ?_ | refine g_rg ?_ | refine g_r0 ?_ | refine g_ok rfl rfl ?_ | refine g_no rfl ?_ | refine g_no0 rfl ?_ | refine g_bk ?_ | refine g_b ?_ | refine g_sk ?_ | refine g_cT rfl ?_ | refine g_cF rfl ?_ | refine g_x rfl ?_ | refine g_lb ?_))
        exact g_ret (q_1 rfl (h1 fun hg => by have := hg.2 o hmem; omega))
      · (repeat (first | refine g_sq ?_ | refine g_rg ?_ | refine g_r0 ?_ | refine g_ok rfl rfl ?_ | refine g_no rfl ?_ | refine g_no0 rfl ?_ | refine g_bk ?_ | refine g_b ?_ | refine g_sk ?_ | refine g_cT rfl ?_ | refine g_cF rfl ?_ | refine g_x rfl ?_ | refine g_lb ?_))
        refine g_rq rfl rfl (in64 (by simp only [arv]; omega)) ?_
        (repeat (first | refine g_sq ?_ | refine g_rg ?_ | refine g_r0 ?_ | refine g_ok rfl rfl ?_ | refine g_no rfl ?_ | refine g_no0 rfl ?_ | refine g_bk ?_ | refine g_b ?_ | refine g_sk ?_ | refine g_cT rfl ?_ | refine g_cF rfl ?_ | refine g_x rfl ?_ | refine g_lb ?_))
        refine g_l (k + 1) ⟨rfl, rfl, rfl, trivial⟩ ⟨by omega, fun j o' hj ho' => ?_, rfl⟩ (by omega)
        by_cases e : j = k
        · subst e; rw [ho] at ho'; cases ho'; omega
        · exact hgo j o' (by omega) ho'
    · (repeat (first | refine g_sq ?_ | refine g_rg ?_ | refine g_r0 ?_ | refine g_ok rfl rfl ?_ | refine g_no rfl ?_ | refine g_no0 rfl ?_ | refine g_bk ?_ | refine g_b ?_ | refine g_sk ?_ | refine g_cT rfl ?_ | refine g_cF rfl ?_ | refine g_x rfl ?_ | refine g_lb ?_))
      refine g_ret (q_1 rfl (h0 ⟨by omega, fun o ho => ?_⟩))
      obtain ⟨j, hj, e⟩ := List.getElem_of_mem ho
      exact hgo j o (by omega) (by rw [List.getElem?_eq_getElem hj, e])

set_option maxRecDepth 100000 in
theorem l3 {n : Int} {v : Value} {ops : List Opd} (hv : OpsR E v ops w0) (h : ∀ w', Fr w0 (fun _ => False) w' → K (.bool true) w') : CK Try.prog 3 [.int .i64 n, v] w0 K := by
  have hS := St.nil w0 (fun _ => False)
  have hfin : ∀ {w' : World} {L : List Res}, St w0 (fun _ => False) w' L → K (.bool true) w' := fun hS => h _ hS.fr
  obtain ⟨a, c, rfl⟩ := Rd.form hv.1
  refine call_k Try.func3 k3 Try.ntmps3 (Nat.le_of_ble_eq_true rfl) ?_
  (repeat (first | refine g_sq ?_ | refine g_rg ?_ | refine g_r0 ?_ | refine g_ok rfl rfl ?_ | refine g_no rfl ?_ | refine g_no0 rfl ?_ | refine g_bk ?_ | refine g_b ?_ | refine g_sk ?_ | refine g_cT rfl ?_ | refine g_cF rfl ?_ | refine g_x rfl ?_ | refine g_lb ?_))
  refine g_cl rfl rfl (l17 hv (fun hg => ?_) (fun hg => ?_))
  · (repeat (first | refine g_sq ?_ | refine g_rg ?_ | refine g_r0 ?_ | refine g_ok rfl rfl ?_ | refine g_no rfl ?_ | refine g_no0 rfl ?_ | refine g_bk ?_ | refine g_b ?_ | refine g_sk ?_ | refine g_cT rfl ?_ | refine g_cF rfl ?_ | refine g_x rfl ?_ | refine g_lb ?_))
    exact g_ret (q_1 rfl (hfin hS))
  · (repeat (first | refine g_sq ?_ | refine g_rg ?_ | refine g_r0 ?_ | refine g_ok rfl rfl ?_ | refine g_no rfl ?_ | refine g_no0 rfl ?_ | refine g_bk ?_ | refine g_b ?_ | refine g_sk ?_ | refine g_cT rfl ?_ | refine g_cF rfl ?_ | refine g_x rfl ?_ | refine g_lb ?_))
    generalize hg1 : cmv BinOp.gtr n 20 = g1
    cases g1
    all_goals simp only [cmv, decide_eq_true_eq, decide_eq_false_iff_not] at hg1
    · (repeat (first | refine g_sq ?_ | refine g_rg ?_ | refine g_r0 ?_ | refine g_ok rfl rfl ?_ | refine g_no rfl ?_ | refine g_no0 rfl ?_ | refine g_bk ?_ | refine g_b ?_ | refine g_sk ?_ | refine g_cT rfl ?_ | refine g_cF rfl ?_ | refine g_x rfl ?_ | refine g_lb ?_))
      refine g_cl rfl rfl (c18 hS (fun hn => ?_) (fun hn w S b hS => ?_))
      · (repeat (first | refine g_sq ?_ | refine g_rg ?_ | refine g_r0 ?_ | refine g_ok rfl rfl ?_ | refine g_no rfl ?_ | refine g_no0 rfl ?_ | refine g_bk ?_ | refine g_b ?_ | refine g_sk ?_ | refine g_cT rfl ?_ | refine g_cF rfl ?_ | refine g_x rfl ?_ | refine g_lb ?_))
        refine g_cl rfl rfl (rc19 hS (fun hn => ?_) (fun hn' => absurd hn' hn))
        (repeat (first | refine g_sq ?_ | refine g_rg ?_ | refine g_r0 ?_ | refine g_ok rfl rfl ?_ | refine g_no rfl ?_ | refine g_no0 rfl ?_ | refine g_bk ?_ | refine g_b ?_ | refine g_sk ?_ | refine g_cT rfl ?_ | refine g_cF rfl ?_ | refine g_x rfl ?_ | refine g_lb ?_))
        exact g_ret (q_1 rfl (hfin hS))
      · (repeat (first | refine g_sq ?_ | refine g_rg ?_ | refine g_r0 ?_ | refine g_ok rfl rfl ?_ | refine g_no rfl ?_ | refine g_no0 rfl ?_ | refine g_bk ?_ | refine g_b ?_ | refine g_sk ?_ | refine g_cT rfl ?_ | refine g_cF rfl ?_ | refine g_x rfl ?_ | refine g_lb ?_))
        refine g_cl rfl rfl (rc19 hS (fun hn' => absurd hn hn') (fun hn w S' b' hS => ?_))
        (repeat (first | refine g_sq ?_ | refine g_rg ?_ | refine g_r0 ?_ | refine g_ok rfl rfl ?_ | refine g_no rfl ?_ | refine g_no0 rfl ?_ | refine g_bk ?_ | refine g_b ?_ | refine g_sk ?_ | refine g_cT rfl ?_ | refine g_cF rfl ?_ | refine g_x rfl ?_ | refine g_lb ?_))
        refine g_ef rfl (ef_bx hS rfl fun p w hS => ?_)
        have hS := hS.sel [2, 0, 1] rfl rfl
        have hcl : (Dev.new n.toNat).cells.length = n.toNat := List.length_replicate
        (repeat (first | refine g_sq ?_ | refine g_rg ?_ | refine g_r0 ?_ | refine g_ok rfl rfl ?_ | refine g_no rfl ?_ | refine g_no0 rfl ?_ | refine g_bk ?_ | refine g_b ?_ | refine g_sk ?_ | refine g_cT rfl ?_ | refine g_cF rfl ?_ | refine g_x rfl ?_ | refine g_lb ?_))
        refine g_atx (ι := Unit) 2 (fun _ => [(0, .int .i64 n), (9, dp p)])
          (fun _ w => ∃ d r S S' D, D.cells.length = n.toNat ∧ D.waits.length ≤ 120 ∧ St w0 (fun _ => False) w [cel p [dp d, dp r] 33, DevR S d D, RefR S' r D]) rfl ?_ ?_
        · refine g_lp (ι := Nat) (fun k => [(0, .int .i64 n), (1, .slice a ops.length c), (9, dp p), (50, .int .i64 ops.length), (51, .int .i64 k)])
            (fun k w => k ≤ ops.length ∧ ∃ d r S S' D, D.cells.length = n.toNat ∧ D.waits.length ≤ k ∧ St w0 (fun _ => False) w [cel p [dp d, dp r] 33, DevR S d D, RefR S' r D]) (fun k => ops.length - k) 0 ⟨rfl, rfl, rfl, rfl, rfl, trivial⟩ ⟨Nat.zero_le _, _, _, _, _, _, hcl, Nat.le_refl _, hS⟩ ?_
          clear hS
          rintro k w ⟨hk, d, r, S, S', D, hDc, hDw, hS⟩
          have h120 := hg.1
          (repeat (first | refine g_sq ?_ | refine g_rg ?_ | refine g_r0 ?_ | refine g_ok rfl rfl ?_ | refine g_no rfl ?_ | refine g_no0 rfl ?_ | refine g_bk ?_ | refine g_b ?_ | refine g_sk ?_ | refine g_cT rfl ?_ | refine g_cF rfl ?_ | refine g_x rfl ?_ | refine g_lb ?_))
          refine g_cd rfl (fun hq => ?_) (fun hq => ?_)
          all_goals simp only [cmv, decide_eq_true_eq, decide_eq_false_iff_not] at hq
          · have hlt : k < ops.length := by omega
            have ho : ops[k]? = some ops[k] := List.getElem?_eq_getElem hlt
            have hmem : ops[k] ∈ ops := List.getElem_mem hlt
            generalize ops[k] = o at ho hmem
            have h300 := hg.2 o hmem
            obtain ⟨E', hbo⟩ := hv.2 o hmem
            have hrw : Rd (.slice a ops.length c) E 6 ops.length (opsF ops) w := hS.ro (r := rdR (.slice a ops.length c) E 6 ops.length (opsF ops)) hv.1 fun x hx => ⟨hv.1.lt x hx, fun h => h⟩
            obtain ⟨bl, off, cap, l, he, hn', hl, hx, hB⟩ := Rd.block hrw (by omega)
            cases he
            (repeat (first | refine g_sq ?_ | refine g_rg ?_ | refine g_r0 ?_ | refine g_ok rfl rfl ?_ | refine g_no rfl ?_ | refine g_no0 rfl ?_ | refine g_bk ?_ | refine g_b ?_ | refine g_sk ?_ | refine g_cT rfl ?_ | refine g_cF rfl ?_ | refine g_x rfl ?_ | refine g_lb ?_))
            refine g_rq rfl rfl ⟨by omega, by omega⟩ ?_
            refine g_lmr rfl rfl hB (by show off + k * 6 + 6 ≤ l.length; omega) ?_
            rw [show ((k : Int).toNat) = k from rfl, opsF_get ho hx rfl]
            refine g_cl rfl rfl (l20 (by omega) (by omega) hbo (by omega) hS fun w d r S S' D' hf hS => ?_)
            (repeat (first | refine g_sq ?_ | refine g_rg ?_ | refine g_r0 ?_ | refine g_ok rfl rfl ?_ | refine g_no rfl ?_ | refine g_no0 rfl ?_ | refine g_bk ?_ | refine g_b ?_ | refine g_sk ?_ | refine g_cT rfl ?_ | refine g_cF rfl ?_ | refine g_x rfl ?_ | refine g_lb ?_))
            refine g_cl rfl rfl (l21 (B := []) hS fun w hS => ?_)
            (repeat (first | refine g_sq ?_ | refine g_rg ?_ | refine g_r0 ?_ | refine g_ok rfl rfl ?_ | refine g_no rfl ?_ | refine g_no0 rfl ?_ | refine g_bk ?_ | refine g_b ?_ | refine g_sk ?_ | refine g_cT rfl ?_ | refine g_cF rfl ?_ | refine g_x rfl ?_ | refine g_lb ?_))
            refine g_rq rfl rfl (in64 (by simp only [arv]; omega)) ?_
            (repeat (first | refine g_sq ?_ | refine g_rg ?_ | refine g_r0 ?_ | refine g_ok rfl rfl ?_ | refine g_no rfl ?_ | refine g_no0 rfl ?_ | refine g_bk ?_ | refine g_b ?_ | refine g_sk ?_ | refine g_cT rfl ?_ | refine g_cF rfl ?_ | refine g_x rfl ?_ | refine g_lb ?_))
            exact g_l (k + 1) ⟨rfl, rfl, rfl, rfl, rfl, trivial⟩ ⟨by omega, _, _, _, _, _, hf.1.trans hDc, by have := hf.2; omega, hS⟩ (by omega)
          · (repeat (first | refine g_sq ?_ | refine g_rg ?_ | refine g_r0 ?_ | refine g_ok rfl rfl ?_ | refine g_no rfl ?_ | refine g_no0 rfl ?_ | refine g_bk ?_ | refine g_b ?_ | refine g_sk ?_ | refine g_cT rfl ?_ | refine g_cF rfl ?_ | refine g_x rfl ?_ | refine g_lb ?_))
            exact g_jx () ⟨rfl, rfl, trivial⟩ ⟨_, _, _, _, _, hDc, by omega, hS⟩
        · clear hS
          rintro _ T w hT ⟨d, r, S, S', D, hDc, hDw, hS⟩
          refine g_wkc hT ?_
          (repeat (first | refine g_sq ?_ | refine g_rg ?_ | refine g_r0 ?_ | refine g_ok rfl rfl ?_ | refine g_no rfl ?_ | refine g_no0 rfl ?_ | refine g_bk ?_ | refine g_b ?_ | refine g_sk ?_ | refine g_cT rfl ?_ | refine g_cF rfl ?_ | refine g_x rfl ?_ | refine g_lb ?_))
          refine g_cl rfl rfl (l20 (o := ⟨5, 0, .slice none 0 0, [], ⟨0, 0, 0⟩⟩) (E := 5) (by omega) (by omega) (.inl ⟨⟨none, rfl⟩, rfl, rfl⟩) (Nat.zero_le _) hS fun w d r S S' D' hf hS => ?_)
          (repeat (first | refine g_sq ?_ | refine g_rg ?_ | refine g_r0 ?_ | refine g_ok rfl rfl ?_ | refine g_no rfl ?_ | refine g_no0 rfl ?_ | refine g_bk ?_ | refine g_b ?_ | refine g_sk ?_ | refine g_cT rfl ?_ | refine g_cF rfl ?_ | refine g_x rfl ?_ | refine g_lb ?_))
          refine g_cl rfl rfl (l21 (B := []) hS fun w hS => ?_)
          (repeat (first | refine g_sq ?_ | refine g_rg ?_ | refine g_r0 ?_ | refine g_ok rfl rfl ?_ | refine g_no rfl ?_ | refine g_no0 rfl ?_ | refine g_bk ?_ | refine g_b ?_ | refine g_sk ?_ | refine g_cT rfl ?_ | refine g_cF rfl ?_ | refine g_x rfl ?_ | refine g_lb ?_))
          refine g_lp (ι := Nat) (fun k => [(9, dp p), (76, .int .i64 n), (77, .int .i64 k)])
            (fun k w => (k : Int) ≤ n ∧ ∃ d r S S' D, D.cells.length = n.toNat ∧ D.waits.length ≤ 200 + k ∧ St w0 (fun _ => False) w [cel p [dp d, dp r] 33, DevR S d D, RefR S' r D]) (fun k => n.toNat - k) 0 ⟨rfl, rfl, rfl, trivial⟩ ⟨by omega, _, _, _, _, _, hf.1.trans hDc, by have := hf.2; omega, hS⟩ ?_
          clear hS
          rintro k w ⟨hk, d, r, S, S', D, hDc, hDw, hS⟩
          (repeat (first | refine g_sq ?_ | refine g_rg ?_ | refine g_r0 ?_ | refine g_ok rfl rfl ?_ | refine g_no rfl ?_ | refine g_no0 rfl ?_ | refine g_bk ?_ | refine g_b ?_ | refine g_sk ?_ | refine g_cT rfl ?_ | refine g_cF rfl ?_ | refine g_x rfl ?_ | refine g_lb ?_))
          refine g_cd rfl (fun hq => ?_) (fun hq => ?_)
          all_goals simp only [cmv, decide_eq_true_eq, decide_eq_false_iff_not] at hq
          · (repeat (first | refine g_sq ?_ | refine g_rg ?_ | refine g_r0 ?_ | refine g_ok rfl rfl ?_ | refine g_no rfl ?_ | refine g_no0 rfl ?_ | refine g_bk ?_ | refine g_b ?_ | refine g_sk ?_ | refine g_cT rfl ?_ | refine g_cF rfl ?_ | refine g_x rfl ?_ | refine g_lb ?_))
            refine g_cl rfl rfl (l20 (o := ⟨2, k, .slice none 0 0, [], ⟨0, 0, 0⟩⟩) (E := 5) (by omega) (by omega) (.inl ⟨⟨none, rfl⟩, rfl, rfl⟩) (Nat.zero_le _) hS fun w d r S S' D' hf hS => ?_)
            (repeat (first | refine g_sq ?_ | refine g_rg ?_ | refine g_r0 ?_ | refine g_ok rfl rfl ?_ | refine g_no rfl ?_ | refine g_no0 rfl ?_ | refine g_bk ?_ | refine g_b ?_ | refine g_sk ?_ | refine g_cT rfl ?_ | refine g_cF rfl ?_ | refine g_x rfl ?_ | refine g_lb ?_))
            refine g_rq rfl rfl (in64 (by simp only [arv]; omega)) ?_
            (repeat (first | refine g_sq ?_ | refine g_rg ?_ | refine g_r0 ?_ | refine g_ok rfl rfl ?_ | refine g_no rfl ?_ | refine g_no0 rfl ?_ | refine g_bk ?_ | refine g_b ?_ | refine g_sk ?_ | refine g_cT rfl ?_ | refine g_cF rfl ?_ | refine g_x rfl ?_ | refine g_lb ?_))
            exact g_l (k + 1) ⟨rfl, rfl, rfl, trivial⟩ ⟨by omega, _, _, _, _, _, hf.1.trans hDc, by have := hf.2; omega, hS⟩ (by omega)
          · (repeat (first | refine g_sq ?_ | refine g_rg ?_ | refine g_r0 ?_ | refine g_ok rfl rfl ?_ | refine g_no rfl ?_ | refine g_no0 rfl ?_ | refine g_bk ?_ | refine g_b ?_ | refine g_sk ?_ | refine g_cT rfl ?_ | refine g_cF rfl ?_ | refine g_x rfl ?_ | refine g_lb ?_))
            exact g_ret (q_1 rfl (hfin hS))
    · (repeat (first | refine g_sq ?_ | refine g_rg ?_ | refine g_r0 ?_ | refine g_ok rfl rfl ?_ | refine g_no rfl ?_ | refine g_no0 rfl ?_ | refine g_bk ?_ | refine g_b ?_ | refine g_sk ?_ | refine g_cT rfl ?_ | refine g_cF rfl ?_ | refine g_x rfl ?_ | refine g_lb ?_))
      refine g_cd rfl (fun hz => ?_) (fun hz => ?_)
      all_goals simp only [cmv, decide_eq_true_eq, decide_eq_false_iff_not] at hz
      · (repeat (first | refine g_sq ?_ | refine g_rg ?_ | refine g_r0 ?_ | refine g_ok rfl rfl ?_ | refine g_no rfl ?_ | refine g_no0 rfl ?_ | refine g_bk ?_ | refine g_b ?_ | refine g_sk ?_ | refine g_cT rfl ?_ | refine g_cF rfl ?_ | refine g_x rfl ?_ | refine g_lb ?_))
        exact g_ret (q_1 rfl (hfin hS))
      · (repeat (first | refine g_sq ?_ | refine g_rg ?_ | refine g_r0 ?_ | refine g_ok rfl rfl ?_ | refine g_no rfl ?_ | refine g_no0 rfl ?_ | refine g_bk ?_ | refine g_b ?_ | refine g_sk ?_ | refine g_cT rfl ?_ | refine g_cF rfl ?_ | refine g_x rfl ?_ | refine g_lb ?_))
        refine g_cl rfl rfl (c18 hS (fun hn => ?_) (fun hn w S b hS => ?_))
        · (repeat (first | refine g_sq ?_ | refine g_rg ?_ | refine g_r0 ?_ | refine g_ok rfl rfl ?_ | refine g_no rfl ?_ | refine g_no0 rfl ?_ | refine g_bk ?_ | refine g_b ?_ | refine g_sk ?_ | refine g_cT rfl ?_ | refine g_cF rfl ?_ | refine g_x rfl ?_ | refine g_lb ?_))
          refine g_cl rfl rfl (rc19 hS (fun hn => ?_) (fun hn' => absurd hn' hn))
          (repeat (first | refine g_sq ?_ | refine g_rg ?_ | refine g_r0 ?_ | refine g_ok rfl rfl ?_ | refine g_no rfl ?_ | refine g_no0 rfl ?_ | refine g_bk ?_ | refine g_b ?_ | refine g_sk ?_ | refine g_cT rfl ?_ | refine g_cF rfl ?_ | refine g_x rfl ?_ | refine g_lb ?_))
          exact g_ret (q_1 rfl (hfin hS))
        · omega
end
end Go.Proofs.Ytegjocpjmfaigaa
