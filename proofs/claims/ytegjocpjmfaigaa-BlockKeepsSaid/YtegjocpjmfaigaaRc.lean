/- The document's device: it is armed, read. -/
import Derived.Test.YtegjocpjmfaigaaRb
set_option linter.unusedSimpArgs false
set_option linter.unusedVariables false
namespace Go.Proofs.Ytegjocpjmfaigaa
open Go.En

theorem lw_get {W : List (Int × Value × List UInt8)} {k : Nat} {y : Int × Value × List UInt8} (rest : List Value) (hy : W[k]? = some y) : (lw W ++ rest)[k * 2]? = some (.int .i64 y.1) ∧ (lw W ++ rest)[k * 2 + 1]? = some y.2.1 := by
  have hlt := (List.getElem?_eq_some_iff.1 hy).1
  have hf := flat_get (ls := W.map fun x => [Value.int .i64 x.1, x.2.1]) (k := 2) (i := k) (fun l hl => by simp only [List.mem_map] at hl; obtain ⟨x, _, rfl⟩ := hl; rfl) (by simpa using hlt) rest
  have hW := (List.getElem?_eq_some_iff.1 hy).2
  simp only [List.getElem_map, hW] at hf
  have g : ∀ j, j < 2 → (lw W ++ rest)[k * 2 + j]? = [Value.int .i64 y.1, y.2.1][j]? := by
    intro j hj
    rw [← hf, List.getElem?_take_of_lt hj, List.getElem?_drop]
    rfl
  exact ⟨g 0 (by decide), g 1 (by decide)⟩
theorem cA_get {A : List (Value × List UInt8)} {i : Nat} {p : Value × List UInt8} (rest : List Value) (hp : A[i]? = some p) : (A.map (·.1) ++ rest)[i * 1]? = some p.1 := by
  have hlt := (List.getElem?_eq_some_iff.1 hp).1
  rw [Nat.mul_one, List.getElem?_append_left (by simpa using hlt), List.getElem?_map, hp]
  rfl
/-- which row is read -/
def RI.pk (x : RI) (i : Int) (k : Nat) : Value × List UInt8 := (x.W.take k).foldl (fun c y => if y.1 = i then y.2 else c) (x.A.getD i.toNat (.nilFunc, []))
theorem RI.pk_step {x : RI} {i : Int} {k : Nat} {y : Int × Value × List UInt8} (hy : x.W[k]? = some y) : x.pk i (k + 1) = if y.1 = i then y.2 else x.pk i k := by
  unfold RI.pk
  rw [List.take_add_one, hy, List.foldl_append]
  rfl
theorem RI.pk_ok {x : RI} {D : Dev} (hx : x.fits D) {i : Int} (hi : 0 ≤ i ∧ i < D.cells.length) : ∀ k, x.pk i k ∈ x.A ++ x.W.map (·.2) ∧ (x.pk i k).2 = D.rdK i k
  | 0 => by
    have hlt : i.toNat < x.A.length := by rw [hx.cl]; omega
    have e : x.pk i 0 = x.A[i.toNat] := by
      show x.A.getD i.toNat _ = _
      rw [List.getD_eq_getElem?_getD, List.getElem?_eq_getElem hlt]; rfl
    rw [e]
    refine ⟨List.mem_append_left _ (List.getElem_mem hlt), ?_⟩
    show _ = D.cells.getD i.toNat []
    rw [← hx.2.1, List.getD_eq_getElem?_getD, List.getElem?_map, List.getElem?_eq_getElem hlt]
    rfl
  | k + 1 => by
    have ih := RI.pk_ok hx hi k
    by_cases h : k < x.W.length
    · have hy : x.W[k]? = some x.W[k] := List.getElem?_eq_getElem h
      have hd : D.waits[k]? = some (x.W[k].1, x.W[k].2.2) := by rw [← hx.2.2, List.getElem?_map, hy]; rfl
      rw [RI.pk_step hy, Dev.rdK_step hd]
      split
      · exact ⟨List.mem_append_right _ (List.mem_map.2 ⟨_, List.getElem_mem h, rfl⟩), rfl⟩
      · exact ih
    · have e1 : x.pk i (k + 1) = x.pk i k := by unfold RI.pk; rw [List.take_of_length_le (by omega), List.take_of_length_le (by omega)]
      have hwl := hx.wl
      have e2 : D.rdK i (k + 1) = D.rdK i k := by unfold Dev.rdK; rw [List.take_of_length_le (by omega), List.take_of_length_le (by omega)]
      rw [e1, e2]; exact ih

section
variable {w w0 : World} {S0 S : Nat → Prop} {K : Value → World → Prop} {b : Nat} {D : Dev} {B L : List Res}
theorem rb74 {f : Fal} (hS : St w0 S0 w [RefR S b D]) (h : ∀ w' S', St w0 S0 w' [RefR S' b (if D.down then D else D.arm f)] → K (.int .i64 (if D.down then 141 else 0)) w') : CK Try.prog 74 [dp b, falV f] w K := by
  refine call_k Try.func74 k74 Try.ntmps74 (Nat.le_of_ble_eq_true rfl) ?_
  (repeat (first | refine g_sq ?_ | refine g_rg ?_ | refine g_r0 ?_ | refine g_ok rfl rfl ?_ | refine g_no rfl ?_ | refine g_no0 rfl ?_ | refine g_bk ?_ | refine g_b ?_ | refine g_sk ?_ | refine g_cT rfl ?_ | refine g_cF rfl ?_ | refine g_x rfl ?_ | refine g_lb ?_))
  refine g_ef rfl (ef_bx hS rfl fun b3 w hS => ?_)
  obtain ⟨x, hw, hS⟩ := RefR.opn (B := [_]) hS
  (repeat (first | refine g_sq ?_ | refine g_rg ?_ | refine g_r0 ?_ | refine g_ok rfl rfl ?_ | refine g_no rfl ?_ | refine g_no0 rfl ?_ | refine g_bk ?_ | refine g_b ?_ | refine g_sk ?_ | refine g_cT rfl ?_ | refine g_cF rfl ?_ | refine g_x rfl ?_ | refine g_lb ?_))
  refine g_l1 rfl rfl (hS.b  0 rfl) rfl ?_
  (repeat (first | refine g_sq ?_ | refine g_rg ?_ | refine g_r0 ?_ | refine g_ok rfl rfl ?_ | refine g_no rfl ?_ | refine g_no0 rfl ?_ | refine g_bk ?_ | refine g_b ?_ | refine g_sk ?_ | refine g_cT rfl ?_ | refine g_cF rfl ?_ | refine g_x rfl ?_ | refine g_lb ?_))
  generalize hd : D.down = dn
  rw [hd] at h
  cases dn
  · simp only [Bool.false_eq_true, if_false] at h ⊢
    (repeat (first | refine g_sq ?_ | refine g_rg ?_ | refine g_r0 ?_ | refine g_ok rfl rfl ?_ | refine g_no rfl ?_ | refine g_no0 rfl ?_ | refine g_bk ?_ | refine g_b ?_ | refine g_sk ?_ | refine g_cT rfl ?_ | refine g_cF rfl ?_ | refine g_x rfl ?_ | refine g_lb ?_))
    refine g_lm rfl rfl (hS.b 4 rfl) (Nat.le_of_ble_eq_true rfl) ?_
    (repeat (first | refine g_sq ?_ | refine g_rg ?_ | refine g_r0 ?_ | refine g_ok rfl rfl ?_ | refine g_no rfl ?_ | refine g_no0 rfl ?_ | refine g_bk ?_ | refine g_b ?_ | refine g_sk ?_ | refine g_cT rfl ?_ | refine g_cF rfl ?_ | refine g_x rfl ?_ | refine g_lb ?_))
    refine g_ef0 rfl (ef_st hS 0 rfl rfl rfl rfl (Nat.le_of_ble_eq_true rfl) rfl fun w hS => ?_)
    (repeat (first | refine g_sq ?_ | refine g_rg ?_ | refine g_r0 ?_ | refine g_ok rfl rfl ?_ | refine g_no rfl ?_ | refine g_no0 rfl ?_ | refine g_bk ?_ | refine g_b ?_ | refine g_sk ?_ | refine g_cT rfl ?_ | refine g_cF rfl ?_ | refine g_x rfl ?_ | refine g_lb ?_))
    refine g_ef0 rfl (ef_st hS 0 rfl rfl rfl rfl (Nat.le_of_ble_eq_true rfl) rfl fun w hS => ?_)
    (repeat (first | refine g_sq ?_ | refine g_rg ?_ | refine g_r0 ?_ | refine g_ok rfl rfl ?_ | refine g_no rfl ?_ | refine g_no0 rfl ?_ | refine g_bk ?_ | refine g_b ?_ | refine g_sk ?_ | refine g_cT rfl ?_ | refine g_cF rfl ?_ | refine g_x rfl ?_ | refine g_lb ?_))
    refine g_ret (q_1 rfl ?_)
    obtain ⟨S', hS⟩ := RefR.cls (x := x) (D := D.arm f) (B := [_]) (b := b) hw hS
    exact h _ _ (hS.sel [0] rfl rfl)
  · simp only [if_true] at h ⊢
    (repeat (first | refine g_sq ?_ | refine g_rg ?_ | refine g_r0 ?_ | refine g_ok rfl rfl ?_ | refine g_no rfl ?_ | refine g_no0 rfl ?_ | refine g_bk ?_ | refine g_b ?_ | refine g_sk ?_ | refine g_cT rfl ?_ | refine g_cF rfl ?_ | refine g_x rfl ?_ | refine g_lb ?_))
    obtain ⟨S', hS⟩ := RefR.cls (x := x) (D := D) (B := [_]) (b := b) hw hS
    exact g_ret (q_1 rfl (h _ _ (hS.sel [0] rfl rfl)))
theorem rc74 {f : Fal} (hS : St w0 S0 w (RefR S b D :: B)) (h : ∀ w' S', St w0 S0 w' (RefR S' b (if D.down then D else D.arm f) :: B) → K (.int .i64 (if D.down then 141 else 0)) w') : CK Try.prog 74 [dp b, falV f] w K := CK.ref hS rb74 h

theorem rc73 {i : Int} (hS : St w0 S0 w (RefR S b D :: B)) (h1 : D.down = true → K (.tuple ⟨[.slice none 0 0, .int .i64 141]⟩) w) (h2 : D.down = false → ¬ (0 ≤ i ∧ i < D.cells.length) → K (.tuple ⟨[.slice none 0 0, .int .i64 140]⟩) w)
    (h3 : D.down = false → (0 ≤ i ∧ i < D.cells.length) → ∀ v, Rd v 5 1 128 (bys (D.rd i)) w → K (.tuple ⟨[v, .int .i64 0]⟩) w) : CK Try.prog 73 [dp b, .int .i64 i] w K := by
  obtain ⟨x, hx, hS⟩ := RefR.opn hS
  obtain ⟨vC, vL, A, W⟩ := x
  obtain ⟨aC, cC, rfl⟩ : ∃ aC cC, vC = .slice aC A.length cC := hS.rlen 1 rfl
  obtain ⟨aL, cL, rfl⟩ : ∃ aL cL, vL = .slice aL W.length cL := hS.rlen 2 rfl
  have hcl : A.length = D.cells.length := hx.cl
  have hwl : W.length = D.waits.length := hx.wl
  refine call_k Try.func73 k73 Try.ntmps73 (Nat.le_of_ble_eq_true rfl) ?_
  (repeat (first | refine g_sq ?_ | refine g_rg ?_ | refine g_r0 ?_ | refine g_ok rfl rfl ?_ | refine g_no rfl ?_ | refine g_no0 rfl ?_ | refine g_bk ?_ | refine g_b ?_ | refine g_sk ?_ | refine g_cT rfl ?_ | refine g_cF rfl ?_ | refine g_x rfl ?_ | refine g_lb ?_))
  refine g_l1 rfl rfl (hS.b  0 rfl) rfl ?_
  (repeat (first | refine g_sq ?_ | refine g_rg ?_ | refine g_r0 ?_ | refine g_ok rfl rfl ?_ | refine g_no rfl ?_ | refine g_no0 rfl ?_ | refine g_bk ?_ | refine g_b ?_ | refine g_sk ?_ | refine g_cT rfl ?_ | refine g_cF rfl ?_ | refine g_x rfl ?_ | refine g_lb ?_))
  generalize hd : D.down = dn at h1 h2 h3
  cases dn
  · (repeat (first | refine g_sq ?_ | refine g_rg ?_ | refine g_r0 ?_ | refine g_ok rfl rfl ?_ | refine g_no rfl ?_ | refine g_no0 rfl ?_ | refine g_bk ?_ | refine g_b ?_ | refine g_sk ?_ | refine g_cT rfl ?_ | refine g_cF rfl ?_ | refine g_x rfl ?_ | refine g_lb ?_))
    generalize hg : cmv BinOp.lss i 0 = g
    cases g
    all_goals simp only [cmv, decide_eq_true_eq, decide_eq_false_iff_not] at hg
    · (repeat (first | refine g_sq ?_ | refine g_rg ?_ | refine g_r0 ?_ | refine g_ok rfl rfl ?_ | refine g_no rfl ?_ | refine g_no0 rfl ?_ | refine g_bk ?_ | refine g_b ?_ | refine g_sk ?_ | refine g_cT rfl ?_ | refine g_cF rfl ?_ | refine g_x rfl ?_ | refine g_lb ?_))
      refine g_l1 rfl rfl (hS.b  0 rfl) rfl ?_
      (repeat (first | refine g_sq ?_ | refine g_rg ?_ | refine g_r0 ?_ | refine g_ok rfl rfl ?_ | refine g_no rfl ?_ | refine g_no0 rfl ?_ | refine g_bk ?_ | refine g_b ?_ | refine g_sk ?_ | refine g_cT rfl ?_ | refine g_cF rfl ?_ | refine g_x rfl ?_ | refine g_lb ?_))
      refine g_cd rfl (fun hq => ?_) (fun hq => ?_)
      all_goals simp only [cmv, decide_eq_true_eq, decide_eq_false_iff_not] at hq
      · (repeat (first | refine g_sq ?_ | refine g_rg ?_ | refine g_r0 ?_ | refine g_ok rfl rfl ?_ | refine g_no rfl ?_ | refine g_no0 rfl ?_ | refine g_bk ?_ | refine g_b ?_ | refine g_sk ?_ | refine g_cT rfl ?_ | refine g_cF rfl ?_ | refine g_x rfl ?_ | refine g_lb ?_))
        exact g_ret (q_2 rfl rfl (h2 rfl (by omega)))
      · have hin : 0 ≤ i ∧ i < D.cells.length := by omega
        have hlt : i.toNat < A.length := by omega
        have hpk := RI.pk_ok hx hin
        (repeat (first | refine g_sq ?_ | refine g_rg ?_ | refine g_r0 ?_ | refine g_ok rfl rfl ?_ | refine g_no rfl ?_ | refine g_no0 rfl ?_ | refine g_bk ?_ | refine g_b ?_ | refine g_sk ?_ | refine g_cT rfl ?_ | refine g_cF rfl ?_ | refine g_x rfl ?_ | refine g_lb ?_))
        refine g_l1 rfl rfl (hS.b  0 rfl) rfl ?_
        (repeat (first | refine g_sq ?_ | refine g_rg ?_ | refine g_r0 ?_ | refine g_ok rfl rfl ?_ | refine g_no rfl ?_ | refine g_no0 rfl ?_ | refine g_bk ?_ | refine g_b ?_ | refine g_sk ?_ | refine g_cT rfl ?_ | refine g_cF rfl ?_ | refine g_x rfl ?_ | refine g_lb ?_))
        rcases hS.ok 1 _ rfl with ⟨_, hv, _⟩ | ⟨bC, capC, restC, hv, hcapC, hxlC, hlC, hBC⟩
        · have : A.length = 0 := hv
          omega
        cases hv
        refine g_rq rfl rfl ⟨hin.1, by omega⟩ ?_
        refine g_l1 (v := (RI.pk ⟨.slice (some ⟨bC, 0, none⟩) A.length cC, .slice aL W.length cL, A, W⟩ i 0).1) rfl rfl hBC ?_ ?_
        · show (A.map (·.1) ++ restC)[0 + i.toNat * 1]? = some (A.getD i.toNat (.nilFunc, [])).1
          rw [Nat.zero_add, cA_get restC (List.getElem?_eq_getElem hlt), List.getD_eq_getElem?_getD, List.getElem?_eq_getElem hlt]
          rfl
        (repeat (first | refine g_sq ?_ | refine g_rg ?_ | refine g_r0 ?_ | refine g_ok rfl rfl ?_ | refine g_no rfl ?_ | refine g_no0 rfl ?_ | refine g_bk ?_ | refine g_b ?_ | refine g_sk ?_ | refine g_cT rfl ?_ | refine g_cF rfl ?_ | refine g_x rfl ?_ | refine g_lb ?_))
        refine g_lp (ι := Nat) (fun k => [(0, dp b), (1, .int .i64 i), (6, (RI.pk ⟨.slice (some ⟨bC, 0, none⟩) A.length cC, .slice aL W.length cL, A, W⟩ i k).1), (7, .int .i64 k)])
          (fun k w' => k ≤ W.length ∧ w = w') (fun k => W.length - k) 0 ⟨rfl, rfl, rfl, rfl, trivial⟩ ⟨Nat.zero_le _, rfl⟩ ?_
        rintro k _ ⟨hk, rfl⟩
        (repeat (first | refine g_sq ?_ | refine g_rg ?_ | refine g_r0 ?_ | refine g_ok rfl rfl ?_ | refine g_no rfl ?_ | refine g_no0 rfl ?_ | refine g_bk ?_ | refine g_b ?_ | refine g_sk ?_ | refine g_cT rfl ?_ | refine g_cF rfl ?_ | refine g_x rfl ?_ | refine g_lb ?_))
        refine g_l1 rfl rfl (hS.b  0 rfl) rfl ?_
        (repeat (first | refine g_sq ?_ | refine g_rg ?_ | refine g_r0 ?_ | refine g_ok rfl rfl ?_ | refine g_no rfl ?_ | refine g_no0 rfl ?_ | refine g_bk ?_ | refine g_b ?_ | refine g_sk ?_ | refine g_cT rfl ?_ | refine g_cF rfl ?_ | refine g_x rfl ?_ | refine g_lb ?_))
        refine g_cd rfl (fun hc => ?_) (fun hc => ?_)
        all_goals simp only [cmv, decide_eq_true_eq, decide_eq_false_iff_not] at hc
        · have hltk : k < W.length := by omega
          have hy : W[k]? = some W[k] := List.getElem?_eq_getElem hltk
          have hst := RI.pk_step (x := ⟨.slice (some ⟨bC, 0, none⟩) A.length cC, .slice aL W.length cL, A, W⟩) (i := i) hy
          generalize W[k] = y at hy hst
          have hwn := hx.1.2.2.2
          rcases hS.ok 2 _ rfl with ⟨_, hv, _⟩ | ⟨bL, capL, restL, hv, hcapL, hxlL, hlL, hBL⟩
          · have : W.length = 0 := hv
            omega
          cases hv
          obtain ⟨g1, g2⟩ := lw_get restL hy
          (repeat (first | refine g_sq ?_ | refine g_rg ?_ | refine g_r0 ?_ | refine g_ok rfl rfl ?_ | refine g_no rfl ?_ | refine g_no0 rfl ?_ | refine g_bk ?_ | refine g_b ?_ | refine g_sk ?_ | refine g_cT rfl ?_ | refine g_cF rfl ?_ | refine g_x rfl ?_ | refine g_lb ?_))
          refine g_l1 rfl rfl (hS.b  0 rfl) rfl ?_
          (repeat (first | refine g_sq ?_ | refine g_rg ?_ | refine g_r0 ?_ | refine g_ok rfl rfl ?_ | refine g_no rfl ?_ | refine g_no0 rfl ?_ | refine g_bk ?_ | refine g_b ?_ | refine g_sk ?_ | refine g_cT rfl ?_ | refine g_cF rfl ?_ | refine g_x rfl ?_ | refine g_lb ?_))
          refine g_rq rfl rfl ⟨by omega, by omega⟩ ?_
          (repeat (first | refine g_sq ?_ | refine g_rg ?_ | refine g_r0 ?_ | refine g_ok rfl rfl ?_ | refine g_no rfl ?_ | refine g_no0 rfl ?_ | refine g_bk ?_ | refine g_b ?_ | refine g_sk ?_ | refine g_cT rfl ?_ | refine g_cF rfl ?_ | refine g_x rfl ?_ | refine g_lb ?_))
          refine g_l1 (v := .int .i64 y.1) rfl rfl hBL (by rw [Nat.zero_add, Nat.add_zero]; exact g1) ?_
          (repeat (first | refine g_sq ?_ | refine g_rg ?_ | refine g_r0 ?_ | refine g_ok rfl rfl ?_ | refine g_no rfl ?_ | refine g_no0 rfl ?_ | refine g_bk ?_ | refine g_b ?_ | refine g_sk ?_ | refine g_cT rfl ?_ | refine g_cF rfl ?_ | refine g_x rfl ?_ | refine g_lb ?_))
          refine g_at 1 [(0, dp b), (1, .int .i64 i), (6, (RI.pk ⟨.slice (some ⟨bC, 0, none⟩) A.length cC, .slice (some ⟨bL, 0, none⟩) W.length cL, A, W⟩ i (k + 1)).1), (7, .int .i64 k)] (fun w' => w = w') rfl ?_ ?_
          · refine g_cd rfl (fun hq => ?_) (fun hq => ?_)
            all_goals simp only [cmv, decide_eq_true_eq, decide_eq_false_iff_not] at hq
            · rw [if_pos hq] at hst
              (repeat (first | refine g_sq ?_ | refine g_rg ?_ | refine g_r0 ?_ | refine g_ok rfl rfl ?_ | refine g_no rfl ?_ | refine g_no0 rfl ?_ | refine g_bk ?_ | refine g_b ?_ | refine g_sk ?_ | refine g_cT rfl ?_ | refine g_cF rfl ?_ | refine g_x rfl ?_ | refine g_lb ?_))
              refine g_l1 rfl rfl (hS.b  0 rfl) rfl ?_
              (repeat (first | refine g_sq ?_ | refine g_rg ?_ | refine g_r0 ?_ | refine g_ok rfl rfl ?_ | refine g_no rfl ?_ | refine g_no0 rfl ?_ | refine g_bk ?_ | refine g_b ?_ | refine g_sk ?_ | refine g_cT rfl ?_ | refine g_cF rfl ?_ | refine g_x rfl ?_ | refine g_lb ?_))
              refine g_rq rfl rfl ⟨by omega, by omega⟩ ?_
              (repeat (first | refine g_sq ?_ | refine g_rg ?_ | refine g_r0 ?_ | refine g_ok rfl rfl ?_ | refine g_no rfl ?_ | refine g_no0 rfl ?_ | refine g_bk ?_ | refine g_b ?_ | refine g_sk ?_ | refine g_cT rfl ?_ | refine g_cF rfl ?_ | refine g_x rfl ?_ | refine g_lb ?_))
              refine g_l1 (v := y.2.1) rfl rfl hBL (by rw [Nat.zero_add]; exact g2) ?_
              (repeat (first | refine g_sq ?_ | refine g_rg ?_ | refine g_r0 ?_ | refine g_ok rfl rfl ?_ | refine g_no rfl ?_ | refine g_no0 rfl ?_ | refine g_bk ?_ | refine g_b ?_ | refine g_sk ?_ | refine g_cT rfl ?_ | refine g_cF rfl ?_ | refine g_x rfl ?_ | refine g_lb ?_))
              refine g_j ⟨rfl, rfl, ?_, rfl, trivial⟩ rfl
              rw [hst]; rfl
            · rw [if_neg hq] at hst
              refine g_sk (g_j ⟨rfl, rfl, ?_, rfl, trivial⟩ rfl)
              rw [hst]; rfl
          · rintro T _ hT rfl
            refine g_b (g_wkc hT ?_)
            (repeat (first | refine g_sq ?_ | refine g_rg ?_ | refine g_r0 ?_ | refine g_ok rfl rfl ?_ | refine g_no rfl ?_ | refine g_no0 rfl ?_ | refine g_bk ?_ | refine g_b ?_ | refine g_sk ?_ | refine g_cT rfl ?_ | refine g_cF rfl ?_ | refine g_x rfl ?_ | refine g_lb ?_))
            refine g_rq rfl rfl (in64 (by simp only [arv]; omega)) ?_
            (repeat (first | refine g_sq ?_ | refine g_rg ?_ | refine g_r0 ?_ | refine g_ok rfl rfl ?_ | refine g_no rfl ?_ | refine g_no0 rfl ?_ | refine g_bk ?_ | refine g_b ?_ | refine g_sk ?_ | refine g_cT rfl ?_ | refine g_cF rfl ?_ | refine g_x rfl ?_ | refine g_lb ?_))
            exact g_l (k + 1) ⟨rfl, rfl, rfl, rfl, trivial⟩ ⟨by omega, rfl⟩ (by omega)
        · have : k = W.length := by omega
          subst this
          (repeat (first | refine g_sq ?_ | refine g_rg ?_ | refine g_r0 ?_ | refine g_ok rfl rfl ?_ | refine g_no rfl ?_ | refine g_no0 rfl ?_ | refine g_bk ?_ | refine g_b ?_ | refine g_sk ?_ | refine g_cT rfl ?_ | refine g_cF rfl ?_ | refine g_x rfl ?_ | refine g_lb ?_))
          refine g_ret (q_2 rfl rfl (h3 rfl hin _ ?_))
          have hk := hpk W.length
          have hr : Rd _ 5 1 _ _ w := hS.ok 3 _ rfl _ hk.1
          have e : (RI.pk ⟨.slice (some ⟨bC, 0, none⟩) A.length cC, .slice aL W.length cL, A, W⟩ i W.length).2 = D.rd i := by
            rw [hk.2, Dev.rdK, hwl, List.take_length]; rfl
          have hl : (D.rd i).length = 128 := by
            have := Dev.rdK_len hx.1 hin D.waits.length
            rw [Dev.rdK, List.take_length] at this
            exact this
          rw [e, hl] at hr
          exact hr
    · (repeat (first | refine g_sq ?_ | refine g_rg ?_ | refine g_r0 ?_ | refine g_ok rfl rfl ?_ | refine g_no rfl ?_ | refine g_no0 rfl ?_ | refine g_bk ?_ | refine g_b ?_ | refine g_sk ?_ | refine g_cT rfl ?_ | refine g_cF rfl ?_ | refine g_x rfl ?_ | refine g_lb ?_))
      exact g_ret (q_2 rfl rfl (h2 rfl (by omega)))
  · (repeat (first | refine g_sq ?_ | refine g_rg ?_ | refine g_r0 ?_ | refine g_ok rfl rfl ?_ | refine g_no rfl ?_ | refine g_no0 rfl ?_ | refine g_bk ?_ | refine g_b ?_ | refine g_sk ?_ | refine g_cT rfl ?_ | refine g_cF rfl ?_ | refine g_x rfl ?_ | refine g_lb ?_))
    exact g_ret (q_2 rfl rfl (h1 rfl))
end
end Go.Proofs.Ytegjocpjmfaigaa
