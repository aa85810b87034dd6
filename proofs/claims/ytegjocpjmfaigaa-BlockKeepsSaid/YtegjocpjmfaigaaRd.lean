/- The document's device: it falls. -/
import Derived.Test.YtegjocpjmfaigaaRc
set_option linter.unusedSimpArgs false
set_option linter.unusedVariables false
namespace Go.Proofs.Ytegjocpjmfaigaa
open Go.En

/-- the document's way: over all writes -/
def fallC (f : Fal) : Nat → List (Int × List UInt8) → List (List UInt8) → List (List UInt8)
  | _, [], cs => cs
  | i, x :: xs, cs => fallC f (i + 1) xs (putB cs x (mny f i).toNat)
theorem putB_0 {cs : List (List UInt8)} {x : Int × List UInt8} : putB cs x 0 = cs := by
  rw [putB, List.take_zero, List.nil_append, List.drop_zero]
  apply List.ext_getElem?
  intro j
  by_cases e : x.1.toNat = j
  · subst e
    by_cases h : x.1.toNat < cs.length
    · rw [List.getElem?_set_self h, List.getD_eq_getElem?_getD, List.getElem?_eq_getElem h]; rfl
    · rw [List.getElem?_eq_none (by simpa using h), List.getElem?_eq_none (by simpa using h)]
  · rw [List.getElem?_set_ne e]
theorem mny_0 {f : Fal} {i : Nat} (h : mny f i = 0) (j : Nat) (hj : i ≤ j) : mny f j = 0 := by
  by_cases e : i = j
  · subst e; exact h
  · unfold mny at h ⊢
    split at h
    · omega
    · rw [if_neg (by omega), if_neg (by omega)]
theorem fallC_0 {f : Fal} : ∀ (ws : List (Int × List UInt8)) (i : Nat) (cs : List (List UInt8)), mny f i = 0 → fallC f i ws cs = cs
  | [], i, cs, _ => rfl
  | x :: xs, i, cs, h => by
    rw [fallC, h, show (0 : Int).toNat = 0 from rfl, putB_0]
    exact fallC_0 xs (i + 1) cs (mny_0 h _ (by omega))
theorem fall_crash {f : Fal} : ∀ (ws : List (Int × List UInt8)) (i : Nat) (cs : List (List UInt8)), fallC f i ws cs = crashC f i ws cs
  | [], i, cs => rfl
  | x :: xs, i, cs => by
    by_cases h : mny f i = 0
    · rw [fallC_0 _ _ _ h, crashC, if_pos h]
    · rw [fallC, crashC, if_neg h, fall_crash xs]
theorem fall_app (f : Fal) : ∀ (xs ys : List (Int × List UInt8)) (i : Nat) (cs : List (List UInt8)), fallC f i (xs ++ ys) cs = fallC f (i + xs.length) ys (fallC f i xs cs)
  | [], ys, i, cs => rfl
  | x :: xs, ys, i, cs => by
    simp only [List.cons_append, fallC, List.length_cons]
    rw [fall_app f xs ys (i + 1)]
    congr 1
    omega
theorem fall_step {f : Fal} {ws : List (Int × List UInt8)} {cs : List (List UInt8)} {k : Nat} {x : Int × List UInt8} (hx : ws[k]? = some x) : fallC f 0 (ws.take (k + 1)) cs = putB (fallC f 0 (ws.take k) cs) x (mny f k).toNat := by
  have hlt := (List.getElem?_eq_some_iff.1 hx).1
  have hl : (ws.take k).length = k := by rw [List.length_take]; omega
  rw [List.take_add_one, hx, fall_app f _ _ 0 cs, hl]
  simp [fallC]
def mn1 (f : Fal) (k : Nat) : Int := if (k : Int) < f.k then 128 else if (k : Int) = 0 ∨ (k : Int) = f.k then f.t else 0
def mn2 (f : Fal) (k : Nat) : Int := if mn1 f k < 0 ∨ ((k : Int) > f.k ∧ (k : Int) > 0) then 0 else mn1 f k
theorem mn3 (f : Fal) (k : Nat) : mny f k = if mn2 f k > 128 then 128 else mn2 f k := by
  unfold mny mn2 mn1
  repeat' split
  all_goals omega

section
variable {w w0 : World} {S0 S : Nat → Prop} {K : Value → World → Prop} {b : Nat} {D : Dev} {B L : List Res}
theorem rb104 {f : Fal} (hS : St w0 S0 w [RefR S b D]) (h : ∀ w' S', St w0 S0 w' [RefR S' b (D.crash f)] → K (.tuple ⟨[]⟩) w') : CK Try.prog 104 [dp b, falV f] w K := by
  refine call_k Try.func104 k104 Try.ntmps104 (Nat.le_of_ble_eq_true rfl) ?_
  (repeat (first | refine g_sq ?_ | refine g_rg ?_ | refine g_r0 ?_ | refine g_ok rfl rfl ?_ | refine g_no rfl ?_ | refine g_no0 rfl ?_ | refine g_bk ?_ | refine g_b ?_ | refine g_sk ?_ | refine g_cT rfl ?_ | refine g_cF rfl ?_ | refine g_x rfl ?_ | refine g_lb ?_))
  refine g_ef rfl (ef_bx hS rfl fun b3 w hS => ?_)
  obtain ⟨x, hx, hS⟩ := RefR.opn (B := [_]) hS
  obtain ⟨vC, vL, A0, W⟩ := x
  have hcl : A0.length = D.cells.length := hx.cl
  have hwl : W.length = D.waits.length := hx.wl
  have hwn := hx.1.2.2.2
  have hc0 := List.length_pos_iff.2 hx.1.1
  obtain ⟨aC, mC, cC, rfl⟩ := hS.rowb 1 rfl (by show 0 < A0.length; omega)
  obtain ⟨aL, cL, rfl⟩ : ∃ aL cL, vL = .slice aL W.length cL := hS.rlen 2 rfl
  (repeat (first | refine g_sq ?_ | refine g_rg ?_ | refine g_r0 ?_ | refine g_ok rfl rfl ?_ | refine g_no rfl ?_ | refine g_no0 rfl ?_ | refine g_bk ?_ | refine g_b ?_ | refine g_sk ?_ | refine g_cT rfl ?_ | refine g_cF rfl ?_ | refine g_x rfl ?_ | refine g_lb ?_))
  have inv : ∀ (k : Nat), St w0 S0 w [cel b (RefC (.slice (some aC) mC cC) (.slice aL W.length cL) D) 57, row (.slice (some aC) mC cC) 35 1 A0.length (A0.map (·.1)), row (.slice aL W.length cL) 147 2 W.length (lw W), pool (A0 ++ W.map (·.2)), cel b3 (falV f).cells.toList 37] := fun _ => hS
  clear inv
  refine g_at 2 [(0, dp b)] (fun w => ∃ A, A.length = D.cells.length ∧ A.map (·.2) = fallC f 0 D.waits D.cells ∧ St w0 S0 w [cel b (RefC (.slice (some aC) mC cC) (.slice aL W.length cL) D) 57, row (.slice (some aC) mC cC) 35 1 A.length (A.map (·.1)), row (.slice aL W.length cL) 147 2 W.length (lw W), pool (A ++ W.map (·.2)), cel b3 (falV f).cells.toList 37]) rfl ?_ ?_
  · refine g_lp (ι := Nat) (fun k => [(0, dp b), (3, dp b3), (4, .int .i64 k)])
      (fun k w => k ≤ W.length ∧ ∃ A, A.length = D.cells.length ∧ A.map (·.2) = fallC f 0 (D.waits.take k) D.cells ∧ St w0 S0 w [cel b (RefC (.slice (some aC) mC cC) (.slice aL W.length cL) D) 57, row (.slice (some aC) mC cC) 35 1 A.length (A.map (·.1)), row (.slice aL W.length cL) 147 2 W.length (lw W), pool (A ++ W.map (·.2)), cel b3 (falV f).cells.toList 37]) (fun k => W.length - k) 0 ⟨rfl, rfl, rfl, trivial⟩ ⟨Nat.zero_le _, A0, hcl, by rw [List.take_zero]; exact hx.2.1, hS⟩ ?_
    clear hS
    rintro k w ⟨hk, A, hA, hAc, hS⟩
    (repeat (first | refine g_sq ?_ | refine g_rg ?_ | refine g_r0 ?_ | refine g_ok rfl rfl ?_ | refine g_no rfl ?_ | refine g_no0 rfl ?_ | refine g_bk ?_ | refine g_b ?_ | refine g_sk ?_ | refine g_cT rfl ?_ | refine g_cF rfl ?_ | refine g_x rfl ?_ | refine g_lb ?_))
    refine g_l1 rfl rfl (hS.b  0 rfl) rfl ?_
    (repeat (first | refine g_sq ?_ | refine g_rg ?_ | refine g_r0 ?_ | refine g_ok rfl rfl ?_ | refine g_no rfl ?_ | refine g_no0 rfl ?_ | refine g_bk ?_ | refine g_b ?_ | refine g_sk ?_ | refine g_cT rfl ?_ | refine g_cF rfl ?_ | refine g_x rfl ?_ | refine g_lb ?_))
    refine g_cd rfl (fun hc => ?_) (fun hc => ?_)
    all_goals simp only [cmv, decide_eq_true_eq, decide_eq_false_iff_not] at hc
    · have hltk : k < W.length := by omega
      have hy : W[k]? = some W[k] := List.getElem?_eq_getElem hltk
      generalize W[k] = y at hy
      have hyd : D.waits[k]? = some (y.1, y.2.2) := by rw [← hx.2.2, List.getElem?_map, hy]; rfl
      have hyw := hx.1.2.2.1 _ (List.mem_of_getElem? hyd)
      rcases hS.ok 2 _ rfl with ⟨_, hv, _⟩ | ⟨bL, capL, restL, hv, hcapL, hxlL, hlL, hBL⟩
      · have : W.length = 0 := hv
        omega
      cases hv
      clear hBL
      refine g_sk ?_
      refine g_sq ?_
      refine g_bk ?_
      refine g_sq ?_
      refine g_rg ?_
      (first | refine g_sq ?_ | refine g_rg ?_ | refine g_r0 ?_ | refine g_ok rfl rfl ?_ | refine g_no rfl ?_ | refine g_no0 rfl ?_ | refine g_bk ?_ | refine g_b ?_ | refine g_sk ?_ | refine g_cT rfl ?_ | refine g_cF rfl ?_ | refine g_x rfl ?_ | refine g_lb ?_)
      refine g_r0 ?_
      refine g_sq ?_
      refine g_at 1 [(0, dp b), (3, dp b3), (4, .int .i64 k), (5, .int .i64 (mn1 f k))] (fun w' => w = w') rfl ?_ ?_
      · (repeat (first | refine g_sq ?_ | refine g_rg ?_ | refine g_r0 ?_ | refine g_ok rfl rfl ?_ | refine g_no rfl ?_ | refine g_no0 rfl ?_ | refine g_bk ?_ | refine g_b ?_ | refine g_sk ?_ | refine g_cT rfl ?_ | refine g_cF rfl ?_ | refine g_x rfl ?_ | refine g_lb ?_))
        refine g_l1 rfl rfl (hS.b  4 rfl) rfl ?_
        (repeat (first | refine g_sq ?_ | refine g_rg ?_ | refine g_r0 ?_ | refine g_ok rfl rfl ?_ | refine g_no rfl ?_ | refine g_no0 rfl ?_ | refine g_bk ?_ | refine g_b ?_ | refine g_sk ?_ | refine g_cT rfl ?_ | refine g_cF rfl ?_ | refine g_x rfl ?_ | refine g_lb ?_))
        refine g_cd rfl (fun h1 => ?_) (fun h1 => ?_)
        all_goals simp only [cmv, decide_eq_true_eq, decide_eq_false_iff_not] at h1
        · (repeat (first | refine g_sq ?_ | refine g_rg ?_ | refine g_r0 ?_ | refine g_ok rfl rfl ?_ | refine g_no rfl ?_ | refine g_no0 rfl ?_ | refine g_bk ?_ | refine g_b ?_ | refine g_sk ?_ | refine g_cT rfl ?_ | refine g_cF rfl ?_ | refine g_x rfl ?_ | refine g_lb ?_))
          refine g_j ⟨rfl, rfl, rfl, ?_, trivial⟩ rfl
          simp only [mn1, if_pos h1]; rfl
        · (repeat (first | refine g_sq ?_ | refine g_rg ?_ | refine g_r0 ?_ | refine g_ok rfl rfl ?_ | refine g_no rfl ?_ | refine g_no0 rfl ?_ | refine g_bk ?_ | refine g_b ?_ | refine g_sk ?_ | refine g_cT rfl ?_ | refine g_cF rfl ?_ | refine g_x rfl ?_ | refine g_lb ?_))
          generalize hg : cmv BinOp.eql k 0 = g
          cases g
          all_goals simp only [cmv, decide_eq_true_eq, decide_eq_false_iff_not] at hg
          · (repeat (first | refine g_sq ?_ | refine g_rg ?_ | refine g_r0 ?_ | refine g_ok rfl rfl ?_ | refine g_no rfl ?_ | refine g_no0 rfl ?_ | refine g_bk ?_ | refine g_b ?_ | refine g_sk ?_ | refine g_cT rfl ?_ | refine g_cF rfl ?_ | refine g_x rfl ?_ | refine g_lb ?_))
            refine g_l1 rfl rfl (hS.b  4 rfl) rfl ?_
            (repeat (first | refine g_sq ?_ | refine g_rg ?_ | refine g_r0 ?_ | refine g_ok rfl rfl ?_ | refine g_no rfl ?_ | refine g_no0 rfl ?_ | refine g_bk ?_ | refine g_b ?_ | refine g_sk ?_ | refine g_cT rfl ?_ | refine g_cF rfl ?_ | refine g_x rfl ?_ | refine g_lb ?_))
            refine g_cd rfl (fun h2 => ?_) (fun h2 => ?_)
            all_goals simp only [cmv, decide_eq_true_eq, decide_eq_false_iff_not] at h2
            · (repeat (first | refine g_sq ?_ | refine g_rg ?_ | refine g_r0 ?_ | refine g_ok rfl rfl ?_ | refine g_no rfl ?_ | refine g_no0 rfl ?_ | refine g_bk ?_ | refine g_b ?_ | refine g_sk ?_ | refine g_cT rfl ?_ | refine g_cF rfl ?_ | refine g_x rfl ?_ | refine g_lb ?_))
              refine g_l1 rfl rfl (hS.b  4 rfl) rfl ?_
              (repeat (first | refine g_sq ?_ | refine g_rg ?_ | refine g_r0 ?_ | refine g_ok rfl rfl ?_ | refine g_no rfl ?_ | refine g_no0 rfl ?_ | refine g_bk ?_ | refine g_b ?_ | refine g_sk ?_ | refine g_cT rfl ?_ | refine g_cF rfl ?_ | refine g_x rfl ?_ | refine g_lb ?_))
              refine g_j ⟨rfl, rfl, rfl, ?_, trivial⟩ rfl
              simp only [mn1, if_neg h1, if_pos (Or.inr h2)]; rfl
            · (repeat (first | refine g_sq ?_ | refine g_rg ?_ | refine g_r0 ?_ | refine g_ok rfl rfl ?_ | refine g_no rfl ?_ | refine g_no0 rfl ?_ | refine g_bk ?_ | refine g_b ?_ | refine g_sk ?_ | refine g_cT rfl ?_ | refine g_cF rfl ?_ | refine g_x rfl ?_ | refine g_lb ?_))
              refine g_j ⟨rfl, rfl, rfl, ?_, trivial⟩ rfl
              have : ¬ ((k : Int) = 0 ∨ (k : Int) = f.k) := by omega
              simp only [mn1, if_neg h1, if_neg this]; rfl
          · (repeat (first | refine g_sq ?_ | refine g_rg ?_ | refine g_r0 ?_ | refine g_ok rfl rfl ?_ | refine g_no rfl ?_ | refine g_no0 rfl ?_ | refine g_bk ?_ | refine g_b ?_ | refine g_sk ?_ | refine g_cT rfl ?_ | refine g_cF rfl ?_ | refine g_x rfl ?_ | refine g_lb ?_))
            refine g_l1 rfl rfl (hS.b  4 rfl) rfl ?_
            (repeat (first | refine g_sq ?_ | refine g_rg ?_ | refine g_r0 ?_ | refine g_ok rfl rfl ?_ | refine g_no rfl ?_ | refine g_no0 rfl ?_ | refine g_bk ?_ | refine g_b ?_ | refine g_sk ?_ | refine g_cT rfl ?_ | refine g_cF rfl ?_ | refine g_x rfl ?_ | refine g_lb ?_))
            refine g_j ⟨rfl, rfl, rfl, ?_, trivial⟩ rfl
            simp only [mn1, if_neg h1, if_pos (Or.inl hg)]; rfl
      · rintro T _ hT rfl
        refine g_wkc hT ?_
        refine g_sq ?_
        refine g_at 1 [(0, dp b), (3, dp b3), (4, .int .i64 k), (5, .int .i64 (mn2 f k))] (fun w' => w = w') rfl ?_ ?_
        · (repeat (first | refine g_sq ?_ | refine g_rg ?_ | refine g_r0 ?_ | refine g_ok rfl rfl ?_ | refine g_no rfl ?_ | refine g_no0 rfl ?_ | refine g_bk ?_ | refine g_b ?_ | refine g_sk ?_ | refine g_cT rfl ?_ | refine g_cF rfl ?_ | refine g_x rfl ?_ | refine g_lb ?_))
          generalize hg : cmv BinOp.lss (mn1 f k) 0 = g
          cases g
          all_goals simp only [cmv, decide_eq_true_eq, decide_eq_false_iff_not] at hg
          · (repeat (first | refine g_sq ?_ | refine g_rg ?_ | refine g_r0 ?_ | refine g_ok rfl rfl ?_ | refine g_no rfl ?_ | refine g_no0 rfl ?_ | refine g_bk ?_ | refine g_b ?_ | refine g_sk ?_ | refine g_cT rfl ?_ | refine g_cF rfl ?_ | refine g_x rfl ?_ | refine g_lb ?_))
            refine g_l1 rfl rfl (hS.b  4 rfl) rfl ?_
            (repeat (first | refine g_sq ?_ | refine g_rg ?_ | refine g_r0 ?_ | refine g_ok rfl rfl ?_ | refine g_no rfl ?_ | refine g_no0 rfl ?_ | refine g_bk ?_ | refine g_b ?_ | refine g_sk ?_ | refine g_cT rfl ?_ | refine g_cF rfl ?_ | refine g_x rfl ?_ | refine g_lb ?_))
            generalize hg2 : cmv BinOp.gtr k f.k = g2
            cases g2
            all_goals simp only [cmv, decide_eq_true_eq, decide_eq_false_iff_not] at hg2
            · (repeat (first | refine g_sq ?_ | refine g_rg ?_ | refine g_r0 ?_ | refine g_ok rfl rfl ?_ | refine g_no rfl ?_ | refine g_no0 rfl ?_ | refine g_bk ?_ | refine g_b ?_ | refine g_sk ?_ | refine g_cT rfl ?_ | refine g_cF rfl ?_ | refine g_x rfl ?_ | refine g_lb ?_))
              refine g_j ⟨rfl, rfl, rfl, ?_, trivial⟩ rfl
              have : ¬ (mn1 f k < 0 ∨ ((k : Int) > f.k ∧ (k : Int) > 0)) := by omega
              simp only [mn2, if_neg this]; rfl
            · (repeat (first | refine g_sq ?_ | refine g_rg ?_ | refine g_r0 ?_ | refine g_ok rfl rfl ?_ | refine g_no rfl ?_ | refine g_no0 rfl ?_ | refine g_bk ?_ | refine g_b ?_ | refine g_sk ?_ | refine g_cT rfl ?_ | refine g_cF rfl ?_ | refine g_x rfl ?_ | refine g_lb ?_))
              refine g_cd rfl (fun h2 => ?_) (fun h2 => ?_)
              all_goals simp only [cmv, decide_eq_true_eq, decide_eq_false_iff_not] at h2
              · (repeat (first | refine g_sq ?_ | refine g_rg ?_ | refine g_r0 ?_ | refine g_ok rfl rfl ?_ | refine g_no rfl ?_ | refine g_no0 rfl ?_ | refine g_bk ?_ | refine g_b ?_ | refine g_sk ?_ | refine g_cT rfl ?_ | refine g_cF rfl ?_ | refine g_x rfl ?_ | refine g_lb ?_))
                refine g_j ⟨rfl, rfl, rfl, ?_, trivial⟩ rfl
                have : mn1 f k < 0 ∨ ((k : Int) > f.k ∧ (k : Int) > 0) := by omega
                simp only [mn2, if_pos this]; rfl
              · (repeat (first | refine g_sq ?_ | refine g_rg ?_ | refine g_r0 ?_ | refine g_ok rfl rfl ?_ | refine g_no rfl ?_ | refine g_no0 rfl ?_ | refine g_bk ?_ | refine g_b ?_ | refine g_sk ?_ | refine g_cT rfl ?_ | refine g_cF rfl ?_ | refine g_x rfl ?_ | refine g_lb ?_))
                refine g_j ⟨rfl, rfl, rfl, ?_, trivial⟩ rfl
                have : ¬ (mn1 f k < 0 ∨ ((k : Int) > f.k ∧ (k : Int) > 0)) := by omega
                simp only [mn2, if_neg this]; rfl
          · (repeat (first | refine g_sq ?_ | refine g_rg ?_ | refine g_r0 ?_ | refine g_ok rfl rfl ?_ | refine g_no rfl ?_ | refine g_no0 rfl ?_ | refine g_bk ?_ | refine g_b ?_ | refine g_sk ?_ | refine g_cT rfl ?_ | refine g_cF rfl ?_ | refine g_x rfl ?_ | refine g_lb ?_))
            refine g_j ⟨rfl, rfl, rfl, ?_, trivial⟩ rfl
            simp only [mn2, if_pos (Or.inl hg)]; rfl
        rintro T _ hT rfl
        refine g_wkc hT ?_
        refine g_sq ?_
        refine g_at 1 [(0, dp b), (3, dp b3), (4, .int .i64 k), (5, .int .i64 (mny f k))] (fun w' => w = w') rfl ?_ ?_
        · (repeat (first | refine g_sq ?_ | refine g_rg ?_ | refine g_r0 ?_ | refine g_ok rfl rfl ?_ | refine g_no rfl ?_ | refine g_no0 rfl ?_ | refine g_bk ?_ | refine g_b ?_ | refine g_sk ?_ | refine g_cT rfl ?_ | refine g_cF rfl ?_ | refine g_x rfl ?_ | refine g_lb ?_))
          refine g_cd rfl (fun h2 => ?_) (fun h2 => ?_)
          all_goals simp only [cmv, decide_eq_true_eq, decide_eq_false_iff_not] at h2
          · (repeat (first | refine g_sq ?_ | refine g_rg ?_ | refine g_r0 ?_ | refine g_ok rfl rfl ?_ | refine g_no rfl ?_ | refine g_no0 rfl ?_ | refine g_bk ?_ | refine g_b ?_ | refine g_sk ?_ | refine g_cT rfl ?_ | refine g_cF rfl ?_ | refine g_x rfl ?_ | refine g_lb ?_))
            refine g_j ⟨rfl, rfl, rfl, ?_, trivial⟩ rfl
            rw [mn3, if_pos h2]; rfl
          · (repeat (first | refine g_sq ?_ | refine g_rg ?_ | refine g_r0 ?_ | refine g_ok rfl rfl ?_ | refine g_no rfl ?_ | refine g_no0 rfl ?_ | refine g_bk ?_ | refine g_b ?_ | refine g_sk ?_ | refine g_cT rfl ?_ | refine g_cF rfl ?_ | refine g_x rfl ?_ | refine g_lb ?_))
            refine g_j ⟨rfl, rfl, rfl, ?_, trivial⟩ rfl
            rw [mn3, if_neg h2]; rfl
        rintro T _ hT rfl
        refine g_wkc hT ?_
        obtain ⟨g1, g2⟩ := lw_get restL hy
        have hlt : y.1.toNat < A.length := by have := hyw.2; simp only at this; omega
        have hm := mny_le f k
        obtain ⟨p, hp⟩ : ∃ p, A[y.1.toNat]? = some p := ⟨_, List.getElem?_eq_getElem hlt⟩
        have hpl : (A.map (·.2))[y.1.toNat]? = some p.2 := by rw [List.getElem?_map, hp]; rfl
        have hpm : p.2.length = 128 := by
          rw [hAc, fall_crash] at hpl
          exact crashC_mem f _ _ _ hx.1.2.1 (fun z hz => hx.1.2.2.1 z (List.mem_of_mem_take hz)) _ (List.mem_of_getElem? hpl)
        have hrp : Rd p.1 5 1 128 (bys p.2) w := by
          have := hS.ok 3 _ rfl p (List.mem_append_left _ (List.mem_of_getElem? hp))
          rwa [hpm] at this
        have hry : Rd y.2.1 5 1 128 (bys y.2.2) w := by
          have := hS.ok 3 _ rfl y.2 (List.mem_append_right _ (List.mem_map.2 ⟨y, List.mem_of_getElem? hy, rfl⟩))
          rwa [hyw.1] at this
        rcases hS.ok 2 _ rfl with ⟨_, hv, _⟩ | ⟨_, _, restL, hv, _, _, _, hBL⟩
        · have : W.length = 0 := hv
          omega
        cases hv
        obtain ⟨g1, g2⟩ := lw_get restL hy
        rcases hS.ok 1 _ rfl with ⟨hv, _⟩ | ⟨bC, capC, restC, hv, hcapC, hxlC, hlC, hBC⟩
        · cases hv
        cases hv
        have hcg := cA_get restC hp
        (repeat (first | refine g_sq ?_ | refine g_rg ?_ | refine g_r0 ?_ | refine g_ok rfl rfl ?_ | refine g_no rfl ?_ | refine g_no0 rfl ?_ | refine g_bk ?_ | refine g_b ?_ | refine g_sk ?_ | refine g_cT rfl ?_ | refine g_cF rfl ?_ | refine g_x rfl ?_ | refine g_lb ?_))
        refine g_l1 rfl rfl (hS.b  0 rfl) rfl ?_
        (repeat (first | refine g_sq ?_ | refine g_rg ?_ | refine g_r0 ?_ | refine g_ok rfl rfl ?_ | refine g_no rfl ?_ | refine g_no0 rfl ?_ | refine g_bk ?_ | refine g_b ?_ | refine g_sk ?_ | refine g_cT rfl ?_ | refine g_cF rfl ?_ | refine g_x rfl ?_ | refine g_lb ?_))
        refine g_rq rfl rfl ⟨by omega, by omega⟩ ?_
        (repeat (first | refine g_sq ?_ | refine g_rg ?_ | refine g_r0 ?_ | refine g_ok rfl rfl ?_ | refine g_no rfl ?_ | refine g_no0 rfl ?_ | refine g_bk ?_ | refine g_b ?_ | refine g_sk ?_ | refine g_cT rfl ?_ | refine g_cF rfl ?_ | refine g_x rfl ?_ | refine g_lb ?_))
        refine g_l1 (v := .int .i64 y.1) rfl rfl hBL (by rw [Nat.zero_add, Nat.add_zero]; exact g1) ?_
        (repeat (first | refine g_sq ?_ | refine g_rg ?_ | refine g_r0 ?_ | refine g_ok rfl rfl ?_ | refine g_no rfl ?_ | refine g_no0 rfl ?_ | refine g_bk ?_ | refine g_b ?_ | refine g_sk ?_ | refine g_cT rfl ?_ | refine g_cF rfl ?_ | refine g_x rfl ?_ | refine g_lb ?_))
        refine g_dr mixed ?_
        have hS := hS.drew
        have hBL : Blk w.drew bL (lw W ++ restL) 147 := hBL
        have hBC : Blk w.drew bC (A.map (·.1) ++ restC) 35 := hBC
        (repeat (first | refine d_ok rfl rfl rfl ?_ | refine d_no rfl rfl ?_))
        refine d_l1 rfl rfl rfl (hS.b 0 rfl) rfl ?_
        (repeat (first | refine d_ok rfl rfl rfl ?_ | refine d_no rfl rfl ?_))
        refine d_l1 rfl rfl rfl (hS.b 0 rfl) rfl ?_
        (repeat (first | refine d_ok rfl rfl rfl ?_ | refine d_no rfl rfl ?_))
        refine d_rq rfl rfl rfl ⟨by omega, by omega⟩ ?_
        (repeat (first | refine d_ok rfl rfl rfl ?_ | refine d_no rfl rfl ?_))
        refine d_l1 (v := y.2.1) rfl rfl rfl hBL (by rw [Nat.zero_add]; exact g2) ?_
        (repeat (first | refine d_ok rfl rfl rfl ?_ | refine d_no rfl rfl ?_))
        refine d_l1 rfl rfl rfl (hS.b 0 rfl) rfl ?_
        (repeat (first | refine d_ok rfl rfl rfl ?_ | refine d_no rfl rfl ?_))
        refine d_rq rfl rfl rfl ⟨hyw.2.1, by have := hyw.2; simp only at this; omega⟩ ?_
        refine d_l1 (v := p.1) rfl rfl rfl hBC (by rw [Nat.zero_add]; exact hcg) ?_
        (repeat (first | refine d_ok rfl rfl rfl ?_ | refine d_no rfl rfl ?_))
        refine d_cl rfl rfl rfl (b120 hry hrp hm fun v' w1 h' => ?_)
        have hS := hS.call0.2 w1 _ h'
        refine ⟨rc_1 rfl rfl rfl rfl (hS.b 0 rfl) rfl rc_0, ?_⟩
        refine d_rq rfl rfl rfl ⟨hyw.2.1, by have := hyw.2; simp only at this; omega⟩ ?_
        have hv' : ∃ a' m' c', v' = .slice (some a') m' c' := hS.rowb 5 rfl (by decide)
        obtain ⟨a', m', c', rfl⟩ := hv'
        obtain ⟨_, capC', restC', hv, h1C, h2C, hS⟩ := hS.open_row 1 rfl ⟨_, _, _, rfl⟩
        cases hv
        refine d_e0 rfl rfl ?_
        refine ef_st hS 1 rfl rfl rfl rfl (by simp only [Nat.zero_add, List.length_append, List.length_map]; omega) rfl fun w1 hS => ⟨rc_0, ?_⟩
        refine d_fin ?_
        have hnb : (y.2.2.take (mny f k).toNat ++ p.2.drop (mny f k).toNat).length = 128 := by
          have := hyw.1
          simp only at this
          simp only [List.length_append, List.length_take, List.length_drop, this, hpm]
          omega
        have hset : spl (A.map (·.1) ++ restC') (0 + y.1.toNat * 1) [.slice (some a') m' c'] = (A.set y.1.toNat (.slice (some a') m' c', y.2.2.take (mny f k).toNat ++ p.2.drop (mny f k).toNat)).map (·.1) ++ restC' := by
          rw [List.map_set, Nat.zero_add, Nat.mul_one, ← List.set_append_left _ _ (by simpa using hlt)]
          rw [List.set_eq_take_append_cons_drop, if_pos (by simp; omega)]
          simp [spl]
        have hS := hS.ceq 1 rfl hset
        have hS := hS.close_row (sz := 1) (n := A.length) (cap := cC) 1 rfl h1C (by simp) (List.prefix_append _ _) (by rw [← h2C]; simp)
        rw [← hnb] at hS
        have hS := hS.pool_add 3 5 rfl rfl (by decide)
        have hS := hS.pool_sub (M' := A.set y.1.toNat (.slice (some a') m' c', y.2.2.take (mny f k).toNat ++ p.2.drop (mny f k).toNat) ++ W.map (·.2)) 3 rfl (fun q hq => by
          rcases List.mem_append.1 hq with hq | hq
          · rcases List.mem_or_eq_of_mem_set hq with hq | hq
            · exact List.mem_append_left _ (List.mem_append_left _ hq)
            · subst hq; simp
          · exact List.mem_append_left _ (List.mem_append_right _ hq))
        (repeat (first | refine g_sq ?_ | refine g_rg ?_ | refine g_r0 ?_ | refine g_ok rfl rfl ?_ | refine g_no rfl ?_ | refine g_no0 rfl ?_ | refine g_bk ?_ | refine g_b ?_ | refine g_sk ?_ | refine g_cT rfl ?_ | refine g_cF rfl ?_ | refine g_x rfl ?_ | refine g_lb ?_))
        refine g_rq rfl rfl (in64 (by simp only [arv]; omega)) ?_
        (repeat (first | refine g_sq ?_ | refine g_rg ?_ | refine g_r0 ?_ | refine g_ok rfl rfl ?_ | refine g_no rfl ?_ | refine g_no0 rfl ?_ | refine g_bk ?_ | refine g_b ?_ | refine g_sk ?_ | refine g_cT rfl ?_ | refine g_cF rfl ?_ | refine g_x rfl ?_ | refine g_lb ?_))
        refine g_l (k + 1) ⟨rfl, rfl, rfl, trivial⟩ ⟨by omega, A.set y.1.toNat (.slice (some a') m' c', y.2.2.take (mny f k).toNat ++ p.2.drop (mny f k).toNat), by simpa using hA, ?_, ?_⟩ (by omega)
        · rw [fall_step hyd, List.map_set, ← hAc, putB, List.getD_eq_getElem?_getD, hpl]
          rfl
        · rw [List.length_set]
          exact hS.sel [0, 1, 2, 3, 4] rfl rfl
    · have : k = W.length := by omega
      subst this
      rw [hwl, List.take_length] at hAc
      (repeat (first | refine g_sq ?_ | refine g_rg ?_ | refine g_r0 ?_ | refine g_ok rfl rfl ?_ | refine g_no rfl ?_ | refine g_no0 rfl ?_ | refine g_bk ?_ | refine g_b ?_ | refine g_sk ?_ | refine g_cT rfl ?_ | refine g_cF rfl ?_ | refine g_x rfl ?_ | refine g_lb ?_))
      exact g_j ⟨rfl, trivial⟩ ⟨A, hA, hAc, hS⟩
  · rintro T w hT ⟨A, hA, hAc, hS⟩
    refine g_wkc hT ?_
    (repeat (first | refine g_sq ?_ | refine g_rg ?_ | refine g_r0 ?_ | refine g_ok rfl rfl ?_ | refine g_no rfl ?_ | refine g_no0 rfl ?_ | refine g_bk ?_ | refine g_b ?_ | refine g_sk ?_ | refine g_cT rfl ?_ | refine g_cF rfl ?_ | refine g_x rfl ?_ | refine g_lb ?_))
    refine g_ef0 rfl (ef_st hS 0 rfl rfl rfl rfl (Nat.le_of_ble_eq_true rfl) rfl fun w hS => ?_)
    (repeat (first | refine g_sq ?_ | refine g_rg ?_ | refine g_r0 ?_ | refine g_ok rfl rfl ?_ | refine g_no rfl ?_ | refine g_no0 rfl ?_ | refine g_bk ?_ | refine g_b ?_ | refine g_sk ?_ | refine g_cT rfl ?_ | refine g_cF rfl ?_ | refine g_x rfl ?_ | refine g_lb ?_))
    refine g_ef0 rfl (ef_st hS 0 rfl rfl rfl rfl (Nat.le_of_ble_eq_true rfl) rfl fun w hS => ?_)
    (repeat (first | refine g_sq ?_ | refine g_rg ?_ | refine g_r0 ?_ | refine g_ok rfl rfl ?_ | refine g_no rfl ?_ | refine g_no0 rfl ?_ | refine g_bk ?_ | refine g_b ?_ | refine g_sk ?_ | refine g_cT rfl ?_ | refine g_cF rfl ?_ | refine g_x rfl ?_ | refine g_lb ?_))
    refine g_ef0 rfl (ef_st hS 0 rfl rfl rfl rfl (Nat.le_of_ble_eq_true rfl) rfl fun w hS => ?_)
    refine g_r0 (q_n ?_)
    have hS := (hS.pool_sub (M' := A ++ []) 3 rfl (fun p hp => List.mem_append_left _ (by simpa using hp))).nilrow 147 2
    have hS := hS.sel [0, 1, 5, 3] rfl rfl
    obtain ⟨S', hS⟩ := RefR.cls (x := ⟨.slice (some aC) mC cC, .slice none 0 0, A, []⟩) (D := D.crash f) (B := []) (b := b) ⟨hx.1.crash f, by rw [hAc, fall_crash]; rfl, rfl⟩ hS
    exact h _ _ hS
end
end Go.Proofs.Ytegjocpjmfaigaa
