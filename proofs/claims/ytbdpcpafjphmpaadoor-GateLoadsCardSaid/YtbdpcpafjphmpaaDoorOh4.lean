/- The document's layer 4: bytes, parts. -/
import Derived.Test.YtbdpcpafjphmpaaDoorNa4
import Derived.Test.YtbdpcpafjphmpaaDoorEnX
import Derived.Test.YtbdpcpafjphmpaaDoorEnR
import Derived.Test.YtbdpcpafjphmpaaDoorOa1
import Derived.Lib.IndexLaws
set_option linter.unusedSimpArgs false
set_option linter.unusedVariables false
namespace Go.Proofs.YtbdpcpafjphmpaaDoor
open Go.En

theorem sv_ext (s : Bs) (a b : Nat) : (.string ((⟨s.toArray⟩ : ByteArray).extract a b) : Value) = sv ((s.drop a).take (b - a)) := by
  rw [← sv_of]
  congr 1
  have := Lib.extract_toList (⟨s.toArray⟩ : ByteArray) a b
  simp only [ByteArray.data_extract] at this ⊢
  simp

theorem ib_app : ∀ (s t : Bs) (c : UInt8), c ∉ s → Lib.indexByte (s ++ c :: t) c = s.length
  | [], t, c, _ => by simp [Lib.indexByte]
  | x :: s, t, c, h => by
    have h1 : ¬ c = x := fun e => h (by rw [e]; exact List.mem_cons_self)
    have ih := ib_app s t c (fun hm => h (List.mem_cons_of_mem _ hm))
    rw [List.cons_append]
    unfold Lib.indexByte
    rw [if_neg (by simpa using fun e => h1 e.symm), ih, if_neg (by simp)]
    simp
theorem ib_none : ∀ (s : Bs) (c : UInt8), c ∉ s → Lib.indexByte s c = -1
  | [], c, _ => rfl
  | x :: s, c, h => by
    have h1 : ¬ c = x := fun e => h (by rw [e]; exact List.mem_cons_self)
    have ih := ib_none s c (fun hm => h (List.mem_cons_of_mem _ hm))
    unfold Lib.indexByte
    rw [if_neg (by simpa using fun e => h1 e.symm), ih]
    rfl
theorem may_n : ∀ n : Fin 256, may (UInt8.ofNat n.val) = (decide (33 ≤ n.val) && (decide (n.val ≤ 126) && (decide (n.val ≠ 126) && (decide (n.val ≠ 94) && (decide (n.val ≠ 58) && (decide (n.val ≠ 63) && (decide (n.val ≠ 42) && (decide (n.val ≠ 91) && decide (n.val ≠ 92))))))))) := by decide +kernel
theorem may_c (c : UInt8) : may c = (decide (33 ≤ c.toNat) && (decide (c.toNat ≤ 126) && (decide (c.toNat ≠ 126) && (decide (c.toNat ≠ 94) && (decide (c.toNat ≠ 58) && (decide (c.toNat ≠ 63) && (decide (c.toNat ≠ 42) && (decide (c.toNat ≠ 91) && decide (c.toNat ≠ 92))))))))) := by
  have := may_n ⟨c.toNat, c.toNat_lt⟩
  have e0 : UInt8.ofNat c.toNat = c := by simp
  dsimp only at this
  rw [e0] at this
  exact this
theorem idx_none {s : Bs} {c : UInt8} (h : c ∉ s) : Lib.index s [c] = -1 := by rw [Lib.index_one, ib_none s c h]
theorem prt_eq (s : Bs) : prt s = Lib.splitK [47] 0 (s.count 47) s := by
  unfold prt
  rw [Lib.splitB_data]
  congr 1
  have h1 : Lib.countB (⟨s.toArray⟩ : ByteArray) ⟨#[47]⟩ = Lib.count s [47] := rfl
  rw [h1, Lib.count_one]
theorem prt_one {s : Bs} (h : (47 : UInt8) ∉ s) : prt s = [s] := by
  rw [prt_eq, List.count_eq_zero.2 h]
  rfl
theorem prt_cons {a : Bs} (b : Bs) (h : (47 : UInt8) ∉ a) : prt (a ++ 47 :: b) = a :: prt b := by
  rw [prt_eq, prt_eq, List.count_append, List.count_eq_zero.2 h, List.count_cons_self, Nat.zero_add]
  have hi : Lib.index (a ++ 47 :: b) [47] = (a.length : Int) := by rw [Lib.index_one, ib_app a b 47 h]
  rw [Lib.splitK, hi, if_neg (by simp)]
  simp
theorem cont2 (a b : UInt8) : ∀ s : Bs, 0 ≤ Lib.index s [a, b] ↔ ∃ i, s[i]? = some a ∧ s[i + 1]? = some b
  | [] => by
    constructor
    · intro h
      have e : Lib.index [] [a, b] = -1 := rfl
      rw [e] at h
      exact absurd h (by decide)
    · rintro ⟨i, h, _⟩
      simp at h
  | x :: l => by
    have ih := cont2 a b l
    have hge := Lib.index_ge l [a, b]
    have e : ([a, b] : Bs).isPrefixOf (x :: l) = (a == x && ([b] : Bs).isPrefixOf l) := rfl
    unfold Lib.index
    rw [e]
    by_cases hp : (a == x && ([b] : Bs).isPrefixOf l) = true
    · rw [if_pos hp]
      refine ⟨fun _ => ⟨0, ?_⟩, fun _ => Int.le_refl _⟩
      simp only [Bool.and_eq_true, beq_iff_eq] at hp
      obtain ⟨rfl, hp⟩ := hp
      refine ⟨rfl, ?_⟩
      match l, hp with
      | y :: l, hp =>
        have : (b == y) = true := by simpa [List.isPrefixOf] using hp
        rw [beq_iff_eq] at this
        rw [this]
        rfl
    · rw [if_neg hp]
      have key : (∃ i, (x :: l)[i]? = some a ∧ (x :: l)[i + 1]? = some b) ↔ ∃ i, l[i]? = some a ∧ l[i + 1]? = some b := by
        constructor
        · rintro ⟨i, h1, h2⟩
          cases i with
          | zero =>
            exfalso
            apply hp
            simp only [List.getElem?_cons_zero, Option.some.injEq] at h1
            simp only [List.getElem?_cons_succ] at h2
            subst h1
            match l, h2 with
            | y :: l, h2 =>
              simp only [Nat.zero_add, List.getElem?_cons_zero, Option.some.injEq] at h2
              subst h2
              simp [List.isPrefixOf]
          | succ i => exact ⟨i, by simpa using h1, by simpa using h2⟩
        · rintro ⟨i, h1, h2⟩
          exact ⟨i + 1, by simpa using h1, by simpa using h2⟩
      rw [key, ← ih]
      by_cases h1 : (Lib.index l [a, b] == -1) = true
      · rw [if_pos h1]
        rw [beq_iff_eq] at h1
        rw [h1]
      · rw [if_neg h1]
        have h1 : Lib.index l [a, b] ≠ -1 := fun e => h1 (by rw [e]; rfl)
        constructor <;> intro h <;> omega
theorem brkF_none {s : Bs} : ∀ (n k : Nat), (∀ i, k ≤ i → i < k + n → rul i s = false) → brkF s n k = 0
  | 0, _, _ => rfl
  | n + 1, k, h => by
    unfold brkF
    rw [if_neg (by rw [h k (Nat.le_refl _) (by omega)]; decide)]
    exact brkF_none n (k + 1) fun i hi hij => h i (by omega) (by omega)
theorem brk_at {s : Bs} (j : Nat) (hj : j < 8) (h : ∀ i, i < j → rul i s = false) (h1 : rul j s = true) : brk s = j + 1 := by
  have := brkF_at s 8 0 j hj (fun i _ hi => h i (by omega)) (by rw [Nat.zero_add]; exact h1)
  rw [Nat.zero_add] at this
  exact this
theorem brk_no8 {s : Bs} (h : ∀ i, i < 8 → rul i s = false) : brk s = 0 := brkF_none 8 0 fun i _ hi => h i (by omega)
section
variable {w w0 : World} {S0 : Nat → Prop} {L B : List Res} {K : Value → World → Prop} {s : Bs} {E0 E1 : Nat}
theorem r_may {c : UInt8} (h : K (.bool (may c)) w) : CK Tryd.prog 32 [.int .u8 (c.toNat : Int)] w K := by
  have hc := c.toNat_lt
  rw [may_c] at h
  refine call_k Tryd.func32 k32 Tryd.ntmps32 (Nat.le_of_ble_eq_true rfl) ?_
  (repeat (first | refine g_sq ?_ | refine g_rg ?_ | refine g_r0 ?_ | refine g_ok rfl rfl ?_ | refine g_no rfl ?_ | refine g_no0 rfl ?_ | refine g_bk ?_ | refine g_b ?_ | refine g_sk ?_ | refine g_cT rfl ?_ | refine g_cF rfl ?_ | refine g_x rfl ?_ | refine g_lb ?_))
  (generalize q1 : cmv _ _ _ = q; cases q <;> simp only [cmv, arv, Bool.not_eq_true', Bool.not_eq_false', decide_eq_true_eq, decide_eq_false_iff_not] at q1 <;> first | (exfalso; omega) | skip)
  rotate_left
  · rw [decide_eq_false (by omega)] at h
    (repeat (first | refine g_sq ?_ | refine g_rg ?_ | refine g_r0 ?_ | refine g_ok rfl rfl ?_ | refine g_no rfl ?_ | refine g_no0 rfl ?_ | refine g_bk ?_ | refine g_b ?_ | refine g_sk ?_ | refine g_cT rfl ?_ | refine g_cF rfl ?_ | refine g_x rfl ?_ | refine g_lb ?_))
    exact g_ret (q_1 rfl h)
  (repeat (first | refine g_sq ?_ | refine g_rg ?_ | refine g_r0 ?_ | refine g_ok rfl rfl ?_ | refine g_no rfl ?_ | refine g_no0 rfl ?_ | refine g_bk ?_ | refine g_b ?_ | refine g_sk ?_ | refine g_cT rfl ?_ | refine g_cF rfl ?_ | refine g_x rfl ?_ | refine g_lb ?_))
  (generalize q2 : cmv _ _ _ = q; cases q <;> simp only [cmv, arv, Bool.not_eq_true', Bool.not_eq_false', decide_eq_true_eq, decide_eq_false_iff_not] at q2 <;> first | (exfalso; omega) | skip)
  rotate_left
  · rw [decide_eq_false (show ¬ c.toNat ≤ 126 by omega), Bool.false_and, Bool.and_false] at h
    (repeat (first | refine g_sq ?_ | refine g_rg ?_ | refine g_r0 ?_ | refine g_ok rfl rfl ?_ | refine g_no rfl ?_ | refine g_no0 rfl ?_ | refine g_bk ?_ | refine g_b ?_ | refine g_sk ?_ | refine g_cT rfl ?_ | refine g_cF rfl ?_ | refine g_x rfl ?_ | refine g_lb ?_))
    exact g_ret (q_1 rfl h)
  rw [decide_eq_true (show 33 ≤ c.toNat by omega), decide_eq_true (show c.toNat ≤ 126 by omega), Bool.true_and, Bool.true_and] at h
  (repeat (first | refine g_sq ?_ | refine g_rg ?_ | refine g_r0 ?_ | refine g_ok rfl rfl ?_ | refine g_no rfl ?_ | refine g_no0 rfl ?_ | refine g_bk ?_ | refine g_b ?_ | refine g_sk ?_ | refine g_cT rfl ?_ | refine g_cF rfl ?_ | refine g_x rfl ?_ | refine g_lb ?_))
  (generalize q3 : cmv _ _ _ = q; cases q <;> simp only [cmv, arv, Bool.not_eq_true', Bool.not_eq_false', decide_eq_true_eq, decide_eq_false_iff_not] at q3 <;> first | (exfalso; omega) | skip)
  · rw [decide_eq_false (show ¬ c.toNat ≠ 126 by omega)] at h
    (repeat (first | refine g_sq ?_ | refine g_rg ?_ | refine g_r0 ?_ | refine g_ok rfl rfl ?_ | refine g_no rfl ?_ | refine g_no0 rfl ?_ | refine g_bk ?_ | refine g_b ?_ | refine g_sk ?_ | refine g_cT rfl ?_ | refine g_cF rfl ?_ | refine g_x rfl ?_ | refine g_lb ?_))
    exact g_ret (q_1 rfl h)
  rw [decide_eq_true (show c.toNat ≠ 126 by omega), Bool.true_and] at h
  (repeat (first | refine g_sq ?_ | refine g_rg ?_ | refine g_r0 ?_ | refine g_ok rfl rfl ?_ | refine g_no rfl ?_ | refine g_no0 rfl ?_ | refine g_bk ?_ | refine g_b ?_ | refine g_sk ?_ | refine g_cT rfl ?_ | refine g_cF rfl ?_ | refine g_x rfl ?_ | refine g_lb ?_))
  (generalize q4 : cmv _ _ _ = q; cases q <;> simp only [cmv, arv, Bool.not_eq_true', Bool.not_eq_false', decide_eq_true_eq, decide_eq_false_iff_not] at q4 <;> first | (exfalso; omega) | skip)
  · rw [decide_eq_false (show ¬ c.toNat ≠ 94 by omega)] at h
    (repeat (first | refine g_sq ?_ | refine g_rg ?_ | refine g_r0 ?_ | refine g_ok rfl rfl ?_ | refine g_no rfl ?_ | refine g_no0 rfl ?_ | refine g_bk ?_ | refine g_b ?_ | refine g_sk ?_ | refine g_cT rfl ?_ | refine g_cF rfl ?_ | refine g_x rfl ?_ | refine g_lb ?_))
    exact g_ret (q_1 rfl h)
  rw [decide_eq_true (show c.toNat ≠ 94 by omega), Bool.true_and] at h
  (repeat (first | refine g_sq ?_ | refine g_rg ?_ | refine g_r0 ?_ | refine g_ok rfl rfl ?_ | refine g_no rfl ?_ | refine g_no0 rfl ?_ | refine g_bk ?_ | refine g_b ?_ | refine g_sk ?_ | refine g_cT rfl ?_ | refine g_cF rfl ?_ | refine g_x rfl ?_ | refine g_lb ?_))
  (generalize q5 : cmv _ _ _ = q; cases q <;> simp only [cmv, arv, Bool.not_eq_true', Bool.not_eq_false', decide_eq_true_eq, decide_eq_false_iff_not] at q5 <;> first | (exfalso; omega) | skip)
  · rw [decide_eq_false (show ¬ c.toNat ≠ 58 by omega)] at h
    (repeat (first | refine g_sq ?_ | refine g_rg ?_ | refine g_r0 ?_ | refine g_ok rfl rfl ?_ | refine g_no rfl ?_ | refine g_no0 rfl ?_ | refine g_bk ?_ | refine g_b ?_ | refine g_sk ?_ | refine g_cT rfl ?_ | refine g_cF rfl ?_ | refine g_x rfl ?_ | refine g_lb ?_))
    exact g_ret (q_1 rfl h)
  rw [decide_eq_true (show c.toNat ≠ 58 by omega), Bool.true_and] at h
  (repeat (first | refine g_sq ?_ | refine g_rg ?_ | refine g_r0 ?_ | refine g_ok rfl rfl ?_ | refine g_no rfl ?_ | refine g_no0 rfl ?_ | refine g_bk ?_ | refine g_b ?_ | refine g_sk ?_ | refine g_cT rfl ?_ | refine g_cF rfl ?_ | refine g_x rfl ?_ | refine g_lb ?_))
  (generalize q6 : cmv _ _ _ = q; cases q <;> simp only [cmv, arv, Bool.not_eq_true', Bool.not_eq_false', decide_eq_true_eq, decide_eq_false_iff_not] at q6 <;> first | (exfalso; omega) | skip)
  · rw [decide_eq_false (show ¬ c.toNat ≠ 63 by omega)] at h
    (repeat (first | refine g_sq ?_ | refine g_rg ?_ | refine g_r0 ?_ | refine g_ok rfl rfl ?_ | refine g_no rfl ?_ | refine g_no0 rfl ?_ | refine g_bk ?_ | refine g_b ?_ | refine g_sk ?_ | refine g_cT rfl ?_ | refine g_cF rfl ?_ | refine g_x rfl ?_ | refine g_lb ?_))
    exact g_ret (q_1 rfl h)
  rw [decide_eq_true (show c.toNat ≠ 63 by omega), Bool.true_and] at h
  (repeat (first | refine g_sq ?_ | refine g_rg ?_ | refine g_r0 ?_ | refine g_ok rfl rfl ?_ | refine g_no rfl ?_ | refine g_no0 rfl ?_ | refine g_bk ?_ | refine g_b ?_ | refine g_sk ?_ | refine g_cT rfl ?_ | refine g_cF rfl ?_ | refine g_x rfl ?_ | refine g_lb ?_))
  (generalize q7 : cmv _ _ _ = q; cases q <;> simp only [cmv, arv, Bool.not_eq_true', Bool.not_eq_false', decide_eq_true_eq, decide_eq_false_iff_not] at q7 <;> first | (exfalso; omega) | skip)
  · rw [decide_eq_false (show ¬ c.toNat ≠ 42 by omega)] at h
    (repeat (first | refine g_sq ?_ | refine g_rg ?_ | refine g_r0 ?_ | refine g_ok rfl rfl ?_ | refine g_no rfl ?_ | refine g_no0 rfl ?_ | refine g_bk ?_ | refine g_b ?_ | refine g_sk ?_ | refine g_cT rfl ?_ | refine g_cF rfl ?_ | refine g_x rfl ?_ | refine g_lb ?_))
    exact g_ret (q_1 rfl h)
  rw [decide_eq_true (show c.toNat ≠ 42 by omega), Bool.true_and] at h
  (repeat (first | refine g_sq ?_ | refine g_rg ?_ | refine g_r0 ?_ | refine g_ok rfl rfl ?_ | refine g_no rfl ?_ | refine g_no0 rfl ?_ | refine g_bk ?_ | refine g_b ?_ | refine g_sk ?_ | refine g_cT rfl ?_ | refine g_cF rfl ?_ | refine g_x rfl ?_ | refine g_lb ?_))
  (generalize q8 : cmv _ _ _ = q; cases q <;> simp only [cmv, arv, Bool.not_eq_true', Bool.not_eq_false', decide_eq_true_eq, decide_eq_false_iff_not] at q8 <;> first | (exfalso; omega) | skip)
  · rw [decide_eq_false (show ¬ c.toNat ≠ 91 by omega)] at h
    (repeat (first | refine g_sq ?_ | refine g_rg ?_ | refine g_r0 ?_ | refine g_ok rfl rfl ?_ | refine g_no rfl ?_ | refine g_no0 rfl ?_ | refine g_bk ?_ | refine g_b ?_ | refine g_sk ?_ | refine g_cT rfl ?_ | refine g_cF rfl ?_ | refine g_x rfl ?_ | refine g_lb ?_))
    exact g_ret (q_1 rfl h)
  rw [decide_eq_true (show c.toNat ≠ 91 by omega), Bool.true_and] at h
  (repeat (first | refine g_sq ?_ | refine g_rg ?_ | refine g_r0 ?_ | refine g_ok rfl rfl ?_ | refine g_no rfl ?_ | refine g_no0 rfl ?_ | refine g_bk ?_ | refine g_b ?_ | refine g_sk ?_ | refine g_cT rfl ?_ | refine g_cF rfl ?_ | refine g_x rfl ?_ | refine g_lb ?_))
  (generalize q9 : cmv _ _ _ = q; cases q <;> simp only [cmv, arv, Bool.not_eq_true', Bool.not_eq_false', decide_eq_true_eq, decide_eq_false_iff_not] at q9 <;> first | (exfalso; omega) | skip)
  · rw [decide_eq_false (show ¬ c.toNat ≠ 92 by omega)] at h
    (repeat (first | refine g_sq ?_ | refine g_rg ?_ | refine g_r0 ?_ | refine g_ok rfl rfl ?_ | refine g_no rfl ?_ | refine g_no0 rfl ?_ | refine g_bk ?_ | refine g_b ?_ | refine g_sk ?_ | refine g_cT rfl ?_ | refine g_cF rfl ?_ | refine g_x rfl ?_ | refine g_lb ?_))
    exact g_ret (q_1 rfl h)
  rw [decide_eq_true (show c.toNat ≠ 92 by omega)] at h
  (repeat (first | refine g_sq ?_ | refine g_rg ?_ | refine g_r0 ?_ | refine g_ok rfl rfl ?_ | refine g_no rfl ?_ | refine g_no0 rfl ?_ | refine g_bk ?_ | refine g_b ?_ | refine g_sk ?_ | refine g_cT rfl ?_ | refine g_cF rfl ?_ | refine g_x rfl ?_ | refine g_lb ?_))
  exact g_ret (q_1 rfl h)
/-- parts, gone through: those that were told, and where the next one begins -/
def ptI (s : Bs) (k f : Nat) (out : List Bs) : Prop := (k ≤ s.length → prt s = out ++ prt (s.drop f) ∧ f ≤ k ∧ (47 : UInt8) ∉ (s.drop f).take (k - f)) ∧ (s.length < k → out = prt s) ∧ out.length ≤ k
theorem ptI_0 (s : Bs) : ptI s 0 0 [] := ⟨fun _ => ⟨by simp, Nat.le_refl _, by simp⟩, fun h => by omega, Nat.le_refl _⟩
theorem ptI_go {s : Bs} {k f : Nat} {out : List Bs} (h : ptI s k f out) (hk : k < s.length) (hc : s[k] ≠ 47) : ptI s (k + 1) f out := by
  obtain ⟨h1, h2, h3⟩ := h.1 (by omega)
  refine ⟨fun _ => ⟨h1, by omega, ?_⟩, fun h => by omega, by have := h.2.2; omega⟩
  have hk2 : k - f < (s.drop f).length := by rw [List.length_drop]; omega
  rw [show k + 1 - f = (k - f) + 1 by omega, List.take_succ_eq_append_getElem hk2, List.mem_append, List.mem_singleton]
  rintro (h | h)
  · exact h3 h
  · rw [List.getElem_drop] at h
    have : s[f + (k - f)]'(by omega) = s[k] := by congr 1; omega
    rw [this] at h
    exact hc h.symm
theorem ptI_cut {s : Bs} {k f : Nat} {out : List Bs} (h : ptI s k f out) (hk : k < s.length) (hc : s[k] = 47) : ptI s (k + 1) (k + 1) (out ++ [(s.drop f).take (k - f)]) := by
  obtain ⟨h1, h2, h3⟩ := h.1 (by omega)
  refine ⟨fun _ => ⟨?_, Nat.le_refl _, by simp⟩, fun h => by omega, by rw [List.length_append, List.length_singleton]; have := h.2.2; omega⟩
  have hk2 : k - f < (s.drop f).length := by rw [List.length_drop]; omega
  have e : s.drop f = (s.drop f).take (k - f) ++ 47 :: s.drop (k + 1) := by
    conv => lhs; rw [← List.take_append_drop (k - f) (s.drop f), List.drop_eq_getElem_cons hk2, List.getElem_drop, List.drop_drop]
    have e1 : s[f + (k - f)]'(by omega) = 47 := by rw [← hc]; congr 1; omega
    rw [e1, show f + (k - f + 1) = k + 1 by omega]
  rw [h1, List.append_assoc]
  congr 1
  conv => lhs; rw [e]
  rw [prt_cons _ h3]
  rfl
theorem ptI_end {s : Bs} {f : Nat} {out : List Bs} (h : ptI s s.length f out) : ptI s (s.length + 1) (s.length + 1) (out ++ [(s.drop f).take (s.length - f)]) := by
  obtain ⟨h1, h2, h3⟩ := h.1 (Nat.le_refl _)
  have e : (s.drop f).take (s.length - f) = s.drop f := List.take_of_length_le (by rw [List.length_drop]; exact Nat.le_refl _)
  rw [e] at h3 ⊢
  refine ⟨fun h => by omega, fun _ => ?_, by rw [List.length_append, List.length_singleton]; have := h.2.2; omega⟩
  rw [h1, prt_one h3]
set_option maxHeartbeats 1000000 in
theorem r_parts (hs : s.length ≤ 4294967280) (h : ∀ v' w', St w (fun _ => False) w' [row v' 9 1 (prt s).length ((prt s).map sv)] → K v' w') : CK Tryd.prog 33 [sv s] w K := by
  have hS := St.nil w (fun _ => False)
  have esz : (⟨s.toArray⟩ : ByteArray).size = s.length := by rw [Lib.size_eq]
  refine call_k Tryd.func33 k33 Tryd.ntmps33 (Nat.le_of_ble_eq_true rfl) ?_
  (repeat (first | refine g_sq ?_ | refine g_rg ?_ | refine g_r0 ?_ | refine g_ok rfl rfl ?_ | refine g_no rfl ?_ | refine g_no0 rfl ?_ | refine g_bk ?_ | refine g_b ?_ | refine g_sk ?_ | refine g_cT rfl ?_ | refine g_cF rfl ?_ | refine g_x rfl ?_ | refine g_lb ?_))
  refine g_lp (ι := Nat × Nat × Value × List Bs) (fun x => [(0, sv s), (3, x.2.2.1), (4, .int .i64 x.2.1), (5, .int .i64 x.1)]) (fun x w' => x.1 ≤ s.length + 1 ∧ ptI s x.1 x.2.1 x.2.2.2 ∧ St w (fun _ => False) w' [row x.2.2.1 9 1 x.2.2.2.length (x.2.2.2.map sv)]) (fun x => s.length + 1 - x.1) (0, 0, .slice none 0 0, [])
    ⟨rfl, rfl, rfl, rfl, trivial⟩ ⟨Nat.zero_le _, ptI_0 s, hS.nilrow 9 1⟩ ?_
  clear hS
  rintro ⟨k, f, vo, out⟩ w1 ⟨hk, hI, hS⟩
  dsimp only at hk hI hS ⊢
  (repeat (first | refine g_sq ?_ | refine g_rg ?_ | refine g_r0 ?_ | refine g_ok rfl rfl ?_ | refine g_no rfl ?_ | refine g_no0 rfl ?_ | refine g_bk ?_ | refine g_b ?_ | refine g_sk ?_ | refine g_cT rfl ?_ | refine g_cF rfl ?_ | refine g_x rfl ?_ | refine g_lb ?_))
  rw [esz]
  (refine g_cd rfl (fun hc => ?_) (fun hc => ?_) <;> simp only [cmv, arv, Bool.not_eq_true', Bool.not_eq_false', decide_eq_true_eq, decide_eq_false_iff_not] at hc)
  · have hks : k ≤ s.length := by omega
    obtain ⟨_, hfk, _⟩ := hI.1 hks
    have hol := hI.2.2
    (repeat (first | refine g_sq ?_ | refine g_rg ?_ | refine g_r0 ?_ | refine g_ok rfl rfl ?_ | refine g_no rfl ?_ | refine g_no0 rfl ?_ | refine g_bk ?_ | refine g_b ?_ | refine g_sk ?_ | refine g_cT rfl ?_ | refine g_cF rfl ?_ | refine g_x rfl ?_ | refine g_lb ?_))
    rw [esz]
    by_cases hend : k = s.length
    · subst hend
      rw [show cmv BinOp.eql (s.length : Int) (s.length : Int) = true from cmv_self _]
      (repeat (first | refine g_sq ?_ | refine g_rg ?_ | refine g_r0 ?_ | refine g_ok rfl rfl ?_ | refine g_no rfl ?_ | refine g_no0 rfl ?_ | refine g_bk ?_ | refine g_b ?_ | refine g_sk ?_ | refine g_cT rfl ?_ | refine g_cF rfl ?_ | refine g_x rfl ?_ | refine g_lb ?_))
      have hnx := ptI_end hI
      refine g_rq rfl rfl ⟨by omega, by omega, by rw [esz]; omega⟩ ?_
      rw [Int.toNat_natCast, Int.toNat_natCast, sv_ext]
      generalize (s.drop f).take (s.length - f) = p at hnx
      refine g_ef rfl (ef_bl (rs := [sv p]) hS rfl fun g w1 hS => ?_)
      refine g_ef rfl (ef_ap (bytes := 16) (n := out.length) (m := 1) (ys := [sv p]) hS 0 rfl rfl rfl (.inl ⟨9, .inr ⟨g, 0, 1, _, rfl, Nat.le_refl _, Nat.le_refl _, rfl, (hS.b 1 rfl).r⟩⟩) rfl (by omega) (by omega) fun v1 w1 hS => ?_)
      have e1 : out.map sv ++ [sv p] = (out ++ [p]).map sv := by simp
      have e2 : out.length + 1 = (out ++ [p]).length := by simp
      rw [e1, e2] at hS
      (repeat (first | refine g_sq ?_ | refine g_rg ?_ | refine g_r0 ?_ | refine g_ok rfl rfl ?_ | refine g_no rfl ?_ | refine g_no0 rfl ?_ | refine g_bk ?_ | refine g_b ?_ | refine g_sk ?_ | refine g_cT rfl ?_ | refine g_cF rfl ?_ | refine g_x rfl ?_ | refine g_lb ?_))
      refine g_rq rfl rfl (in64 (by simp only [arv]; omega)) ?_
      (repeat (first | refine g_sq ?_ | refine g_rg ?_ | refine g_r0 ?_ | refine g_ok rfl rfl ?_ | refine g_no rfl ?_ | refine g_no0 rfl ?_ | refine g_bk ?_ | refine g_b ?_ | refine g_sk ?_ | refine g_cT rfl ?_ | refine g_cF rfl ?_ | refine g_x rfl ?_ | refine g_lb ?_))
      refine g_rq rfl rfl (in64 (by simp only [arv]; omega)) ?_
      (repeat (first | refine g_sq ?_ | refine g_rg ?_ | refine g_r0 ?_ | refine g_ok rfl rfl ?_ | refine g_no rfl ?_ | refine g_no0 rfl ?_ | refine g_bk ?_ | refine g_b ?_ | refine g_sk ?_ | refine g_cT rfl ?_ | refine g_cF rfl ?_ | refine g_x rfl ?_ | refine g_lb ?_))
      exact g_l (s.length + 1, s.length + 1, v1, out ++ [p]) ⟨rfl, rfl, rfl, rfl, trivial⟩ ⟨Nat.le_refl _, hnx, hS.sel [0] rfl rfl⟩ (by simp only; omega)
    · have hlt : k < s.length := by omega
      rw [show cmv BinOp.eql (k : Int) (s.length : Int) = false by simp only [cmv, decide_eq_false_iff_not]; omega]
      (repeat (first | refine g_sq ?_ | refine g_rg ?_ | refine g_r0 ?_ | refine g_ok rfl rfl ?_ | refine g_no rfl ?_ | refine g_no0 rfl ?_ | refine g_bk ?_ | refine g_b ?_ | refine g_sk ?_ | refine g_cT rfl ?_ | refine g_cF rfl ?_ | refine g_x rfl ?_ | refine g_lb ?_))
      refine g_rq rfl rfl ⟨by omega, by show (k : Int) < (s.length : Int); omega⟩ ?_
      have hgd : (⟨s.toArray⟩ : ByteArray).data.toList.getD (k : Int).toNat 0 = s[k] := by
        rw [Int.toNat_natCast]
        show s.getD k 0 = s[k]
        rw [List.getD_eq_getElem?_getD, List.getElem?_eq_getElem hlt]
        rfl
      rw [hgd]
      (repeat (first | refine g_sq ?_ | refine g_rg ?_ | refine g_r0 ?_ | refine g_ok rfl rfl ?_ | refine g_no rfl ?_ | refine g_no0 rfl ?_ | refine g_bk ?_ | refine g_b ?_ | refine g_sk ?_ | refine g_cT rfl ?_ | refine g_cF rfl ?_ | refine g_x rfl ?_ | refine g_lb ?_))
      by_cases hc47 : s[k] = 47
      · rw [hc47, show cmv BinOp.eql (((47 : UInt8).toNat : Nat) : Int) 47 = true from rfl]
        (repeat (first | refine g_sq ?_ | refine g_rg ?_ | refine g_r0 ?_ | refine g_ok rfl rfl ?_ | refine g_no rfl ?_ | refine g_no0 rfl ?_ | refine g_bk ?_ | refine g_b ?_ | refine g_sk ?_ | refine g_cT rfl ?_ | refine g_cF rfl ?_ | refine g_x rfl ?_ | refine g_lb ?_))
        have hnx := ptI_cut hI hlt hc47
        refine g_rq rfl rfl ⟨by omega, by omega, by rw [esz]; omega⟩ ?_
        rw [Int.toNat_natCast, Int.toNat_natCast, sv_ext]
        generalize (s.drop f).take (k - f) = p at hnx
        refine g_ef rfl (ef_bl (rs := [sv p]) hS rfl fun g w1 hS => ?_)
        refine g_ef rfl (ef_ap (bytes := 16) (n := out.length) (m := 1) (ys := [sv p]) hS 0 rfl rfl rfl (.inl ⟨9, .inr ⟨g, 0, 1, _, rfl, Nat.le_refl _, Nat.le_refl _, rfl, (hS.b 1 rfl).r⟩⟩) rfl (by omega) (by omega) fun v1 w1 hS => ?_)
        have e1 : out.map sv ++ [sv p] = (out ++ [p]).map sv := by simp
        have e2 : out.length + 1 = (out ++ [p]).length := by simp
        rw [e1, e2] at hS
        (repeat (first | refine g_sq ?_ | refine g_rg ?_ | refine g_r0 ?_ | refine g_ok rfl rfl ?_ | refine g_no rfl ?_ | refine g_no0 rfl ?_ | refine g_bk ?_ | refine g_b ?_ | refine g_sk ?_ | refine g_cT rfl ?_ | refine g_cF rfl ?_ | refine g_x rfl ?_ | refine g_lb ?_))
        refine g_rq rfl rfl (in64 (by simp only [arv]; omega)) ?_
        (repeat (first | refine g_sq ?_ | refine g_rg ?_ | refine g_r0 ?_ | refine g_ok rfl rfl ?_ | refine g_no rfl ?_ | refine g_no0 rfl ?_ | refine g_bk ?_ | refine g_b ?_ | refine g_sk ?_ | refine g_cT rfl ?_ | refine g_cF rfl ?_ | refine g_x rfl ?_ | refine g_lb ?_))
        refine g_rq rfl rfl (in64 (by simp only [arv]; omega)) ?_
        (repeat (first | refine g_sq ?_ | refine g_rg ?_ | refine g_r0 ?_ | refine g_ok rfl rfl ?_ | refine g_no rfl ?_ | refine g_no0 rfl ?_ | refine g_bk ?_ | refine g_b ?_ | refine g_sk ?_ | refine g_cT rfl ?_ | refine g_cF rfl ?_ | refine g_x rfl ?_ | refine g_lb ?_))
        exact g_l (k + 1, k + 1, v1, out ++ [p]) ⟨rfl, rfl, rfl, rfl, trivial⟩ ⟨by simp only; omega, hnx, hS.sel [0] rfl rfl⟩ (by simp only; omega)
      · have hcf : cmv BinOp.eql ((s[k].toNat : Nat) : Int) 47 = false := by
          simp only [cmv, decide_eq_false_iff_not]
          intro e
          apply hc47
          have : s[k].toNat = 47 := by omega
          exact UInt8.toNat_inj.1 this
        rw [hcf]
        (repeat (first | refine g_sq ?_ | refine g_rg ?_ | refine g_r0 ?_ | refine g_ok rfl rfl ?_ | refine g_no rfl ?_ | refine g_no0 rfl ?_ | refine g_bk ?_ | refine g_b ?_ | refine g_sk ?_ | refine g_cT rfl ?_ | refine g_cF rfl ?_ | refine g_x rfl ?_ | refine g_lb ?_))
        refine g_rq rfl rfl (in64 (by simp only [arv]; omega)) ?_
        (repeat (first | refine g_sq ?_ | refine g_rg ?_ | refine g_r0 ?_ | refine g_ok rfl rfl ?_ | refine g_no rfl ?_ | refine g_no0 rfl ?_ | refine g_bk ?_ | refine g_b ?_ | refine g_sk ?_ | refine g_cT rfl ?_ | refine g_cF rfl ?_ | refine g_x rfl ?_ | refine g_lb ?_))
        exact g_l (k + 1, f, vo, out) ⟨rfl, rfl, rfl, rfl, trivial⟩ ⟨by simp only; omega, ptI_go hI hlt hc47, hS⟩ (by simp only; omega)
  · have ek : k = s.length + 1 := by omega
    subst ek
    have e := hI.2.1 (by omega)
    subst e
    (repeat (first | refine g_sq ?_ | refine g_rg ?_ | refine g_r0 ?_ | refine g_ok rfl rfl ?_ | refine g_no rfl ?_ | refine g_no0 rfl ?_ | refine g_bk ?_ | refine g_b ?_ | refine g_sk ?_ | refine g_cT rfl ?_ | refine g_cF rfl ?_ | refine g_x rfl ?_ | refine g_lb ?_))
    exact g_ret (q_1 rfl (h _ _ hS))
end
end Go.Proofs.YtbdpcpafjphmpaaDoor
