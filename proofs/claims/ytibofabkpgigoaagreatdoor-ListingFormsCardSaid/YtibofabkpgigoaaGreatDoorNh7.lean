/- The document's layer 4: bytes, parts. -/
import Derived.Test.YtibofabkpgigoaaGreatDoorNh3
import Derived.Test.YtibofabkpgigoaaGreatDoorEnX
import Derived.Test.YtibofabkpgigoaaGreatDoorNd4
import Derived.Test.YtibofabkpgigoaaGreatDoorNb6
import Derived.Test.YtibofabkpgigoaaGreatDoorNf2
set_option linter.unusedSimpArgs false
set_option linter.unusedVariables false
namespace Go.Proofs.YtibofabkpgigoaaGreatDoor
open Go.En

theorem may_n : ∀ n : Fin 256, may (UInt8.ofNat n.val) = (decide (33 ≤ n.val) && (decide (n.val ≤ 126) && (decide (n.val ≠ 126) && (decide (n.val ≠ 94) && (decide (n.val ≠ 58) && (decide (n.val ≠ 63) && (decide (n.val ≠ 42) && (decide (n.val ≠ 91) && decide (n.val ≠ 92))))))))) := by decide +kernel
theorem may_c (c : UInt8) : may c = (decide (33 ≤ c.toNat) && (decide (c.toNat ≤ 126) && (decide (c.toNat ≠ 126) && (decide (c.toNat ≠ 94) && (decide (c.toNat ≠ 58) && (decide (c.toNat ≠ 63) && (decide (c.toNat ≠ 42) && (decide (c.toNat ≠ 91) && decide (c.toNat ≠ 92))))))))) := by
  have := may_n ⟨c.toNat, c.toNat_lt⟩
  have e0 : UInt8.ofNat c.toNat = c := by simp
  dsimp only at this
  rw [e0] at this
  exact this
theorem idx_none {s : Bs} {c : UInt8} (h : c ∉ s) : Lib.index s [c] = -1 := by rw [Lib.index_one, ib_none s c h]
theorem prt_eq (s : Bs) : prt s = Lib.splitK [47] 0 (s.count 47) s := by
  unfold prt
  rw [Lib.splitB_data]
  congr 1
  have h1 : Lib.countB (⟨s.toArray⟩ : ByteArray) ⟨#[47]⟩ = Lib.count s [47] := rfl
  rw [h1, Lib.count_one]
theorem prt_one {s : Bs} (h : (47 : UInt8) ∉ s) : prt s = [s] := by
  rw [prt_eq, List.count_eq_zero.2 h]
  rfl
theorem prt_cons {a : Bs} (b : Bs) (h : (47 : UInt8) ∉ a) : prt (a ++ 47 :: b) = a :: prt b := by
  rw [prt_eq, prt_eq, List.count_append, List.count_eq_zero.2 h, List.count_cons_self, Nat.zero_add]
  have hi : Lib.index (a ++ 47 :: b) [47] = (a.length : Int) := by rw [Lib.index_one, ib_app a b 47 h]
  rw [Lib.splitK, hi, if_neg (by simp)]
  simp
theorem cont2 (a b : UInt8) : ∀ s : Bs, 0 ≤ Lib.index s [a, b] ↔ ∃ i, s[i]? = some a ∧ s[i + 1]? = some b
  | [] => by
    constructor
    · intro h
      have e : Lib.index [] [a, b] = -1 := rfl
      rw [e] at h
      exact absurd h (by decide)
    · rintro ⟨i, h, _⟩
      simp at h
  | x :: l => by
    have ih := cont2 a b l
    have hge := Lib.index_ge l [a, b]
    have e : ([a, b] : Bs).isPrefixOf (x :: l) = (a == x && ([b] : Bs).isPrefixOf l) := rfl
    unfold Lib.index
    rw [e]
    by_cases hp : (a == x && ([b] : Bs).isPrefixOf l) = true
    · rw [if_pos hp]
      refine ⟨fun _ => ⟨0, ?_⟩, fun _ => Int.le_refl _⟩
      simp only [Bool.and_eq_true, beq_iff_eq] at hp
      obtain ⟨rfl, hp⟩ := hp
      refine ⟨rfl, ?_⟩
      match l, hp with
      | y :: l, hp =>
        have : (b == y) = true := by simpa [List.isPrefixOf] using hp
        rw [beq_iff_eq] at this
        rw [this]
        rfl
    · rw [if_neg hp]
      have key : (∃ i, (x :: l)[i]? = some a ∧ (x :: l)[i + 1]? = some b) ↔ ∃ i, l[i]? = some a ∧ l[i + 1]? = some b := by
        constructor
        · rintro ⟨i, h1, h2⟩
          cases i with
          | zero =>
            exfalso
            apply hp
            simp only [List.getElem?_cons_zero, Option.some.injEq] at h1
            simp only [List.getElem?_cons_succ] at h2
            subst h1
            match l, h2 with
            | y :: l, h2 =>
              simp only [Nat.zero_add, List.getElem?_cons_zero, Option.some.injEq] at h2
              subst h2
              simp [List.isPrefixOf]
          | succ i => exact ⟨i, by simpa using h1, by simpa using h2⟩
        · rintro ⟨i, h1, h2⟩
          exact ⟨i + 1, by simpa using h1, by simpa using h2⟩
      rw [key, ← ih]
      by_cases h1 : (Lib.index l [a, b] == -1) = true
      · rw [if_pos h1]
        rw [beq_iff_eq] at h1
        rw [h1]
      · rw [if_neg h1]
        have h1 : Lib.index l [a, b] ≠ -1 := fun e => h1 (by rw [e]; rfl)
        constructor <;> intro h <;> omega
theorem brkF_none {s : Bs} : ∀ (n k : Nat), (∀ i, k ≤ i → i < k + n → rul i s = false) → brkF s n k = 0
  | 0, _, _ => rfl
  | n + 1, k, h => by
    unfold brkF
    rw [if_neg (by rw [h k (Nat.le_refl _) (by omega)]; decide)]
    exact brkF_none n (k + 1) fun i hi hij => h i (by omega) (by omega)
theorem brk_at {s : Bs} (j : Nat) (hj : j < 8) (h : ∀ i, i < j → rul i s = false) (h1 : rul j s = true) : brk s = j + 1 := by
  have := brkF_at s 8 0 j hj (fun i _ hi => h i (by omega)) (by rw [Nat.zero_add]; exact h1)
  rw [Nat.zero_add] at this
  exact this
theorem brk_no8 {s : Bs} (h : ∀ i, i < 8 → rul i s = false) : brk s = 0 := brkF_none 8 0 fun i _ hi => h i (by omega)
section
variable {w w0 : World} {S0 : Nat → Prop} {L B : List Res} {K : Value → World → Prop} {s : Bs} {E0 E1 : Nat}
theorem r_may {c : UInt8} (h : K (.bool (may c)) w) : CK Tryz.prog 152 [.int .u8 (c.toNat : Int)] w K := by
  have hc := c.toNat_lt
  rw [may_c] at h
  refine call_k Tryz.func152 k152 Tryz.ntmps152 (Nat.le_of_ble_eq_true rfl) ?_
  (repeat (first | refine g_sq ?_ | refine g_rg ?_ | refine g_r0 ?_ | refine g_ok rfl rfl ?_ | refine g_no rfl ?_ | refine g_no0 rfl ?_ | refine g_bk ?_ | refine g_b ?_ | refine g_sk ?_ | refine g_cT rfl ?_ | refine g_cF rfl ?_ | refine g_x rfl ?_ | refine g_lb ?_))
  (generalize q1 : cmv _ _ _ = q; cases q <;> simp only [cmv, arv, Bool.not_eq_true', Bool.not_eq_false', decide_eq_true_eq, decide_eq_false_iff_not] at q1 <;> first | (exfalso; omega) | skip)
  rotate_left
  · rw [decide_eq_false (by omega)] at h
    (repeat (first | refine g_sq ?_ | refine g_rg ?_ | refine g_r0 ?_ | refine g_ok rfl rfl ?_ | refine g_no rfl ?_ | refine g_no0 rfl ?_ | refine g_bk ?_ | refine g_b ?_ | refine g_sk ?_ | refine g_cT rfl ?_ | refine g_cF rfl ?_ | refine g_x rfl ?_ | refine g_lb ?_))
    exact g_ret (q_1 rfl h)
  (repeat (first | refine g_sq ?_ | refine g_rg ?_ | refine g_r0 ?_ | refine g_ok rfl rfl ?_ | refine g_no rfl ?_ | refine g_no0 rfl ?_ | refine g_bk ?_ | refine g_b ?_ | refine g_sk ?_ | refine g_cT rfl ?_ | refine g_cF rfl ?_ | refine g_x rfl ?_ | refine g_lb ?_))
  (generalize q2 : cmv _ _ _ = q; cases q <;> simp only [cmv, arv, Bool.not_eq_true', Bool.not_eq_false', decide_eq_true_eq, decide_eq_false_iff_not] at q2 <;> first | (exfalso; omega) | skip)
  rotate_left
  · rw [decide_eq_false (show ¬ c.toNat ≤ 126 by omega), Bool.false_and, Bool.and_false] at h
    (repeat (first | refine g_sq ?_ | refine g_rg ?_ | refine g_r0 ?_ | refine g_ok rfl rfl ?_ | refine g_no rfl ?_ | refine g_no0 rfl ?_ | refine g_bk ?_ | refine g_b ?_ | refine g_sk ?_ | refine g_cT rfl ?_ | refine g_cF rfl ?_ | refine g_x rfl ?_ | refine g_lb ?_))
    exact g_ret (q_1 rfl h)
  rw [decide_eq_true (show 33 ≤ c.toNat by omega), decide_eq_true (show c.toNat ≤ 126 by omega), Bool.true_and, Bool.true_and] at h
  (repeat (first | refine g_sq ?_ | refine g_rg ?_ | refine g_r0 ?_ | refine g_ok rfl rfl ?_ | refine g_no rfl ?_ | refine g_no0 rfl ?_ | refine g_bk ?_ | refine g_b ?_ | refine g_sk ?_ | refine g_cT rfl ?_ | refine g_cF rfl ?_ | refine g_x rfl ?_ | refine g_lb ?_))
  (generalize q3 : cmv _ _ _ = q; cases q <;> simp only [cmv, arv, Bool.not_eq_true', Bool.not_eq_false', decide_eq_true_eq, decide_eq_false_iff_not] at q3 <;> first | (exfalso; omega) | skip)
  · rw [decide_eq_false (show ¬ c.toNat ≠ 126 by omega)] at h
    (repeat (first | refine g_sq ?_ | refine g_rg ?_ | refine g_r0 ?_ | refine g_ok rfl rfl ?_ | refine g_no rfl ?_ | refine g_no0 rfl ?_ | refine g_bk ?_ | refine g_b ?_ | refine g_sk ?_ | refine g_cT rfl ?_ | refine g_cF rfl ?_ | refine g_x rfl ?_ | refine g_lb ?_))
    exact g_ret (q_1 rfl h)
  rw [decide_eq_true (show c.toNat ≠ 126 by omega), Bool.true_and] at h
  (repeat (first | refine g_sq ?_ | refine g_rg ?_ | refine g_r0 ?_ | refine g_ok rfl rfl ?_ | refine g_no rfl ?_ | refine g_no0 rfl ?_ | refine g_bk ?_ | refine g_b ?_ | refine g_sk ?_ | refine g_cT rfl ?_ | refine g_cF rfl ?_ | refine g_x rfl ?_ | refine g_lb ?_))
  (generalize q4 : cmv _ _ _ = q; cases q <;> simp only [cmv, arv, Bool.not_eq_true', Bool.not_eq_false', decide_eq_true_eq, decide_eq_false_iff_not] at q4 <;> first | (exfalso; omega) | skip)
  · rw [decide_eq_false (show ¬ c.toNat ≠ 94 by omega)] at h
    (repeat (first | refine g_sq ?_ | refine g_rg ?_ | refine g_r0 ?_ | refine g_ok rfl rfl ?_ | refine g_no rfl ?_ | refine g_no0 rfl ?_ | refine g_bk ?_ | refine g_b ?_ | refine g_sk ?_ | refine g_cT rfl ?_ | refine g_cF rfl ?_ | refine g_x rfl ?_ | refine g_lb ?_))
    exact g_ret (q_1 rfl h)
  rw [decide_eq_true (show c.toNat ≠ 94 by omega), Bool.true_and] at h
  (repeat (first | refine g_sq ?_ | refine g_rg ?_ | refine g_r0 ?_ | refine g_ok rfl rfl ?_ | refine g_no rfl ?_ | refine g_no0 rfl ?_ | refine g_bk ?_ | refine g_b ?_ | refine g_sk ?_ | refine g_cT rfl ?_ | refine g_cF rfl ?_ | refine g_x rfl ?_ | refine g_lb ?_))
  (generalize q5 : cmv _ _ _ = q; cases q <;> simp only [cmv, arv, Bool.not_eq_true', Bool.not_eq_false', decide_eq_true_eq, decide_eq_false_iff_not] at q5 <;> first | (exfalso; omega) | skip)
  · rw [decide_eq_false (show ¬ c.toNat ≠ 58 by omega)] at h
    (repeat (first | refine g_sq ?_ | refine g_rg ?_ | refine g_r0 ?_ | refine g_ok rfl rfl ?_ | refine g_no rfl ?_ | refine g_no0 rfl ?_ | refine g_bk ?_ | refine g_b ?_ | refine g_sk ?_ | refine g_cT rfl ?_ | refine g_cF rfl ?_ | refine g_x rfl ?_ | refine g_lb ?_))
    exact g_ret (q_1 rfl h)
  rw [decide_eq_true (show c.toNat ≠ 58 by omega), Bool.true_and] at h
  (repeat (first | refine g_sq ?_ | refine g_rg ?_ | refine g_r0 ?_ | refine g_ok rfl rfl ?_ | refine g_no rfl ?_ | refine g_no0 rfl ?_ | refine g_bk ?_ | refine g_b ?_ | refine g_sk ?_ | refine g_cT rfl ?_ | refine g_cF rfl ?_ | refine g_x rfl ?_ | refine g_lb ?_))
  (generalize q6 : cmv _ _ _ = q; cases q <;> simp only [cmv, arv, Bool.not_eq_true', Bool.not_eq_false', decide_eq_true_eq, decide_eq_false_iff_not] at q6 <;> first | (exfalso; omega) | skip)
  · rw [decide_eq_false (show ¬ c.toNat ≠ 63 by omega)] at h
    (repeat (first | refine g_sq ?_ | refine g_rg ?_ | refine g_r0 ?_ | refine g_ok rfl rfl ?_ | refine g_no rfl ?_ | refine g_no0 rfl ?_ | refine g_bk ?_ | refine g_b ?_ | refine g_sk ?_ | refine g_cT rfl ?_ | refine g_cF rfl ?_ | refine g_x rfl ?_ | refine g_lb ?_))
    exact g_ret (q_1 rfl h)
  rw [decide_eq_true (show c.toNat ≠ 63 by omega), Bool.true_and] at h
  (repeat (first | refine g_sq ?_ | refine g_rg ?_ | refine g_r0 ?_ | refine g_ok rfl rfl ?_ | refine g_no rfl ?_ | refine g_no0 rfl ?_ | refine g_bk ?_ | refine g_b ?_ | refine g_sk ?_ | refine g_cT rfl ?_ | refine g_cF rfl ?_ | refine g_x rfl ?_ | refine g_lb ?_))
  (generalize q7 : cmv _ _ _ = q; cases q <;> simp only [cmv, arv, Bool.not_eq_true', Bool.not_eq_false', decide_eq_true_eq, decide_eq_false_iff_not] at q7 <;> first | (exfalso; omega) | skip)
  · rw [decide_eq_false (show ¬ c.toNat ≠ 42 by omega)] at h
    (repeat (first | refine g_sq ?_ | refine g_rg ?_ | refine g_r0 ?_ | refine g_ok rfl rfl ?_ | refine g_no rfl ?_ | refine g_no0 rfl ?_ | refine g_bk ?_ | refine g_b ?_ | refine g_sk ?_ | refine g_cT rfl ?_ | refine g_cF rfl ?_ | refine g_x rfl ?_ | refine g_lb ?_))
    exact g_ret (q_1 rfl h)
  rw [decide_eq_true (show c.toNat ≠ 42 by omega), Bool.true_and] at h
  (repeat (first | refine g_sq ?_ | refine g_rg ?_ | refine g_r0 ?_ | refine g_ok rfl rfl ?_ | refine g_no rfl ?_ | refine g_no0 rfl ?_ | refine g_bk ?_ | refine g_b ?_ | refine g_sk ?_ | refine g_cT rfl ?_ | refine g_cF rfl ?_ | refine g_x rfl ?_ | refine g_lb ?_))
  (generalize q8 : cmv _ _ _ = q; cases q <;> simp only [cmv, arv, Bool.not_eq_true', Bool.not_eq_false', decide_eq_true_eq, decide_eq_false_iff_not] at q8 <;> first | (exfalso; omega) | skip)
  · rw [decide_eq_false (show ¬ c.toNat ≠ 91 by omega)] at h
    (repeat (first | refine g_sq ?_ | refine g_rg ?_ | refine g_r0 ?_ | refine g_ok rfl rfl ?_ | refine g_no rfl ?_ | refine g_no0 rfl ?_ | refine g_bk ?_ | refine g_b ?_ | refine g_sk ?_ | refine g_cT rfl ?_ | refine g_cF rfl ?_ | refine g_x rfl ?_ | refine g_lb ?_))
    exact g_ret (q_1 rfl h)
  rw [decide_eq_true (show c.toNat ≠ 91 by omega), Bool.true_and] at h
  (repeat (first | refine g_sq ?_ | refine g_rg ?_ | refine g_r0 ?_ | refine g_ok rfl rfl ?_ | refine g_no rfl ?_ | refine g_no0 rfl ?_ | refine g_bk ?_ | refine g_b ?_ | refine g_sk ?_ | refine g_cT rfl ?_ | refine g_cF rfl ?_ | refine g_x rfl ?_ | refine g_lb ?_))
  (generalize q9 : cmv _ _ _ = q; cases q <;> simp only [cmv, arv, Bool.not_eq_true', Bool.not_eq_false', decide_eq_true_eq, decide_eq_false_iff_not] at q9 <;> first | (exfalso; omega) | skip)
  · rw [decide_eq_false (show ¬ c.toNat ≠ 92 by omega)] at h
    (repeat (first | refine g_sq ?_ | refine g_rg ?_ | refine g_r0 ?_ | refine g_ok rfl rfl ?_ | refine g_no rfl ?_ | refine g_no0 rfl ?_ | refine g_bk ?_ | refine g_b ?_ | refine g_sk ?_ | refine g_cT rfl ?_ | refine g_cF rfl ?_ | refine g_x rfl ?_ | refine g_lb ?_))
    exact g_ret (q_1 rfl h)
  rw [decide_eq_true (show c.toNat ≠ 92 by omega)] at h
  (repeat (first | refine g_sq ?_ | refine g_rg ?_ | refine g_r0 ?_ | refine g_ok rfl rfl ?_ | refine g_no rfl ?_ | refine g_no0 rfl ?_ | refine g_bk ?_ | refine g_b ?_ | refine g_sk ?_ | refine g_cT rfl ?_ | refine g_cF rfl ?_ | refine g_x rfl ?_ | refine g_lb ?_))
  exact g_ret (q_1 rfl h)
/-- parts, gone through: those that were told, and where the next one begins -/
def ptI (s : Bs) (k f : Nat) (out : List Bs) : Prop := (k ≤ s.length → prt s = out ++ prt (s.drop f) ∧ f ≤ k ∧ (47 : UInt8) ∉ (s.drop f).take (k - f)) ∧ (s.length < k → out = prt s) ∧ out.length ≤ k
theorem ptI_0 (s : Bs) : ptI s 0 0 [] := ⟨fun _ => ⟨by simp, Nat.le_refl _, by simp⟩, fun h => by omega, Nat.le_refl _⟩
theorem ptI_go {s : Bs} {k f : Nat} {out : List Bs} (h : ptI s k f out) (hk : k < s.length) (hc : s[k] ≠ 47) : ptI s (k + 1) f out := by
  obtain ⟨h1, h2, h3⟩ := h.1 (by omega)
  refine ⟨fun _ => ⟨h1, by omega, ?_⟩, fun h => by omega, by have := h.2.2; omega⟩
  have hk2 : k - f < (s.drop f).length := by rw [List.length_drop]; omega
  rw [show k + 1 - f = (k - f) + 1 by omega, List.take_succ_eq_append_getElem hk2, List.mem_append, List.mem_singleton]
  rintro (h | h)
  · exact h3 h
  · rw [List.getElem_drop] at h
    have : s[f + (k - f)]'(by omega) = s[k] := by congr 1; omega
    rw [this] at h
    exact hc h.symm
theorem ptI_cut {s : Bs} {k f : Nat} {out : List Bs} (h : ptI s k f out) (hk : k < s.length) (hc : s[k] = 47) : ptI s (k + 1) (k + 1) (out ++ [(s.drop f).take (k - f)]) := by
  obtain ⟨h1, h2, h3⟩ := h.1 (by omega)
  refine ⟨fun _ => ⟨?_, Nat.le_refl _, by simp⟩, fun h => by omega, by rw [List.length_append, List.length_singleton]; have := h.2.2; omega⟩
  have hk2 : k - f < (s.drop f).length := by rw [List.length_drop]; omega
  have e : s.drop f = (s.drop f).take (k - f) ++ 47 :: s.drop (k + 1) := by
    conv => lhs; rw [← List.take_append_drop (k - f) (s.drop f), List.drop_eq_getElem_cons hk2, List.getElem_drop, List.drop_drop]
    have e1 : s[f + (k - f)]'(by omega) = 47 := by rw [← hc]; congr 1; omega
    rw [e1, show f + (k - f + 1) = k + 1 by omega]
  rw [h1, List.append_assoc]
  congr 1
  conv => lhs; rw [e]
  rw [prt_cons _ h3]
  rfl
theorem ptI_end {s : Bs} {f : Nat} {out : List Bs} (h : ptI s s.length f out) : ptI s (s.length + 1) (s.length + 1) (out ++ [(s.drop f).take (s.length - f)]) := by
  obtain ⟨h1, h2, h3⟩ := h.1 (Nat.le_refl _)
  have e : (s.drop f).take (s.length - f) = s.drop f := List.take_of_length_le (by rw [List.length_drop]; exact Nat.le_refl _)
  rw [e] at h3 ⊢
  refine ⟨fun h => by omega, fun _ => ?_, by rw [List.length_append, List.length_singleton]; have := h.2.2; omega⟩
  rw [h1, prt_one h3]
set_option maxHeartbeats 1000000 in
theorem r_parts (hs : s.length ≤ 4294967280) (h : ∀ v' w', St w (fun _ => False) w' [row v' 9 1 (prt s).length ((prt s).map sv)] → K v' w') : CK Tryz.prog 153 [sv s] w K := by
  have hS := St.nil w (fun _ => False)
  have esz : (⟨s.toArray⟩ : ByteArray).size = s.length := by rw [Lib.size_eq]
  refine call_k Tryz.func153 k153 Tryz.ntmps153 (Nat.le_of_ble_eq_true rfl) ?_
  (repeat (first | refine g_sq ?_ | refine g_rg ?_ | refine g_r0 ?_ | refine g_ok rfl rfl ?_ | refine g_no rfl ?_ | refine g_no0 rfl ?_ | refine g_bk ?_ | refine g_b ?_ | refine g_sk ?_ | refine g_cT rfl ?_ | refine g_cF rfl ?_ | refine g_x rfl ?_ | refine g_lb ?_))
  refine g_lp (ι := Nat × Nat × Value × List Bs) (fun x => [(0, sv s), (3, x.2.2.1), (4, .int .i64 x.2.1), (5, .int .i64 x.1)]) (fun x w' => x.1 ≤ s.length + 1 ∧ ptI s x.1 x.2.1 x.2.2.2 ∧ St w (fun _ => False) w' [row x.2.2.1 9 1 x.2.2.2.length (x.2.2.2.map sv)]) (fun x => s.length + 1 - x.1) (0, 0, .slice none 0 0, [])
    ⟨rfl, rfl, rfl, rfl, trivial⟩ ⟨Nat.zero_le _, ptI_0 s, hS.nilrow 9 1⟩ ?_
  clear hS
  rintro ⟨k, f, vo, out⟩ w1 ⟨hk, hI, hS⟩
  dsimp only at hk hI hS ⊢
  (repeat (first | refine g_sq ?_ | refine g_rg ?_ | refine g_r0 ?_ | refine g_ok rfl rfl ?_ | refine g_no rfl ?_ | refine g_no0 rfl ?_ | refine g_bk ?_ | refine g_b ?_ | refine g_sk ?_ | refine g_cT rfl ?_ | refine g_cF rfl ?_ | refine g_x rfl ?_ | refine g_lb ?_))
  rw [esz]
  (refine g_cd rfl (fun hc => ?_) (fun hc => ?_) <;> simp only [cmv, arv, Bool.not_eq_true', Bool.not_eq_false', decide_eq_true_eq, decide_eq_false_iff_not] at hc)
  · have hks : k ≤ s.length := by omega
    obtain ⟨_, hfk, _⟩ := hI.1 hks
    have hol := hI.2.2
    (repeat (first | refine g_sq ?_ | refine g_rg ?_ | refine g_r0 ?_ | refine g_ok rfl rfl ?_ | refine g_no rfl ?_ | refine g_no0 rfl ?_ | refine g_bk ?_ | refine g_b ?_ | refine g_sk ?_ | refine g_cT rfl ?_ | refine g_cF rfl ?_ | refine g_x rfl ?_ | refine g_lb ?_))
    rw [esz]
    by_cases hend : k = s.length
    · subst hend
      rw [show cmv BinOp.eql (s.length : Int) (s.length : Int) = true from cmv_self _]
      (repeat (first | refine g_sq ?_ | refine g_rg ?_ | refine g_r0 ?_ | refine g_ok rfl rfl ?_ | refine g_no rfl ?_ | refine g_no0 rfl ?_ | refine g_bk ?_ | refine g_b ?_ | refine g_sk ?_ | refine g_cT rfl ?_ | refine g_cF rfl ?_ | refine g_x rfl ?_ | refine g_lb ?_))
      have hnx := ptI_end hI
      refine g_rq rfl rfl ⟨by omega, by omega, by rw [esz]; omega⟩ ?_
      rw [Int.toNat_natCast, Int.toNat_natCast, sv_ext]
      generalize (s.drop f).take (s.length - f) = p at hnx
      refine g_ef rfl (ef_bl (rs := [sv p]) hS rfl fun g w1 hS => ?_)
      refine g_ef rfl (ef_ap (bytes := 16) (n := out.length) (m := 1) (ys := [sv p]) hS 0 rfl rfl rfl (.inl ⟨9, .inr ⟨g, 0, 1, _, rfl, Nat.le_refl _, Nat.le_refl _, rfl, (hS.b 1 rfl).r⟩⟩) rfl (by omega) (by omega) fun v1 w1 hS => ?_)
      have e1 : out.map sv ++ [sv p] = (out ++ [p]).map sv := by simp
      have e2 : out.length + 1 = (out ++ [p]).length := by simp
      rw [e1, e2] at hS
      (repeat (first | refine g_sq ?_ | refine g_rg ?_ | refine g_r0 ?_ | refine g_ok rfl rfl ?_ | refine g_no rfl ?_ | refine g_no0 rfl ?_ | refine g_bk ?_ | refine g_b ?_ | refine g_sk ?_ | refine g_cT rfl ?_ | refine g_cF rfl ?_ | refine g_x rfl ?_ | refine g_lb ?_))
      refine g_rq rfl rfl (in64 (by simp only [arv]; omega)) ?_
      (repeat (first | refine g_sq ?_ | refine g_rg ?_ | refine g_r0 ?_ | refine g_ok rfl rfl ?_ | refine g_no rfl ?_ | refine g_no0 rfl ?_ | refine g_bk ?_ | refine g_b ?_ | refine g_sk ?_ | refine g_cT rfl ?_ | refine g_cF rfl ?_ | refine g_x rfl ?_ | refine g_lb ?_))
      refine g_rq rfl rfl (in64 (by simp only [arv]; omega)) ?_
      (repeat (first | refine g_sq ?_ | refine g_rg ?_ | refine g_r0 ?_ | refine g_ok rfl rfl ?_ | refine g_no rfl ?_ | refine g_no0 rfl ?_ | refine g_bk ?_ | refine g_b ?_ | refine g_sk ?_ | refine g_cT rfl ?_ | refine g_cF rfl ?_ | refine g_x rfl ?_ | refine g_lb ?_))
      exact g_l (s.length + 1, s.length + 1, v1, out ++ [p]) ⟨rfl, rfl, rfl, rfl, trivial⟩ ⟨Nat.le_refl _, hnx, hS.sel [0] rfl rfl⟩ (by simp only; omega)
    · have hlt : k < s.length := by omega
      rw [show cmv BinOp.eql (k : Int) (s.length : Int) = false by simp only [cmv, decide_eq_false_iff_not]; omega]
      (repeat (first | refine g_sq ?_ | refine g_rg ?_ | refine g_r0 ?_ | refine g_ok rfl rfl ?_ | refine g_no rfl ?_ | refine g_no0 rfl ?_ | refine g_bk ?_ | refine g_b ?_ | refine g_sk ?_ | refine g_cT rfl ?_ | refine g_cF rfl ?_ | refine g_x rfl ?_ | refine g_lb ?_))
      refine g_rq rfl rfl ⟨by omega, by show (k : Int) < (s.length : Int); omega⟩ ?_
      have hgd : (⟨s.toArray⟩ : ByteArray).data.toList.getD (k : Int).toNat 0 = s[k] := by
        rw [Int.toNat_natCast]
        show s.getD k 0 = s[k]
        rw [List.getD_eq_getElem?_getD, List.getElem?_eq_getElem hlt]
        rfl
      rw [hgd]
      (repeat (first | refine g_sq ?_ | refine g_rg ?_ | refine g_r0 ?_ | refine g_ok rfl rfl ?_ | refine g_no rfl ?_ | refine g_no0 rfl ?_ | refine g_bk ?_ | refine g_b ?_ | refine g_sk ?_ | refine g_cT rfl ?_ | refine g_cF rfl ?_ | refine g_x rfl ?_ | refine g_lb ?_))
      by_cases hc47 : s[k] = 47
      · rw [hc47, show cmv BinOp.eql (((47 : UInt8).toNat : Nat) : Int) 47 = true from rfl]
        (repeat (first | refine g_sq ?_ | refine g_rg ?_ | refine g_r0 ?_ | refine g_ok rfl rfl ?_ | refine g_no rfl ?_ | refine g_no0 rfl ?_ | refine g_bk ?_ | refine g_b ?_ | refine g_sk ?_ | refine g_cT rfl ?_ | refine g_cF rfl ?_ | refine g_x rfl ?_ | refine g_lb ?_))
        have hnx := ptI_cut hI hlt hc47
        refine g_rq rfl rfl ⟨by omega, by omega, by rw [esz]; omega⟩ ?_
        rw [Int.toNat_natCast, Int.toNat_natCast, sv_ext]
        generalize (s.drop f).take (k - f) = p at hnx
        refine g_ef rfl (ef_bl (rs := [sv p]) hS rfl fun g w1 hS => ?_)
        refine g_ef rfl (ef_ap (bytes := 16) (n := out.length) (m := 1) (ys := [sv p]) hS 0 rfl rfl rfl (.inl ⟨9, .inr ⟨g, 0, 1, _, rfl, Nat.le_refl _, Nat.le_refl _, rfl, (hS.b 1 rfl).r⟩⟩) rfl (by omega) (by omega) fun v1 w1 hS => ?_)
        have e1 : out.map sv ++ [sv p] = (out ++ [p]).map sv := by simp
        have e2 : out.length + 1 = (out ++ [p]).length := by simp
        rw [e1, e2] at hS
        (repeat (first | refine g_sq ?_ | refine g_rg ?_ | refine g_r0 ?_ | refine g_ok rfl rfl ?_ | refine g_no rfl ?_ | refine g_no0 rfl ?_ | refine g_bk ?_ | refine g_b ?_ | refine g_sk ?_ | refine g_cT rfl ?_ | refine g_cF rfl ?_ | refine g_x rfl ?_ | refine g_lb ?_))
        refine g_rq rfl rfl (in64 (by simp only [arv]; omega)) ?_
        (repeat (first | refine g_sq ?_ | refine g_rg ?_ | refine g_r0 ?_ | refine g_ok rfl rfl ?_ | refine g_no rfl ?_ | refine g_no0 rfl ?_ | refine g_bk ?_ | refine g_b ?_ | refine g_sk ?_ | refine g_cT rfl ?_ | refine g_cF rfl ?_ | refine g_x rfl ?_ | refine g_lb ?_))
        refine g_rq rfl rfl (in64 (by simp only [arv]; omega)) ?_
        (repeat (first | refine g_sq ?_ | refine g_rg ?_ | refine g_r0 ?_ | refine g_ok rfl rfl ?_ | refine g_no rfl ?_ | refine g_no0 rfl ?_ | refine g_bk ?_ | refine g_b ?_ | refine g_sk ?_ | refine g_cT rfl ?_ | refine g_cF rfl ?_ | refine g_x rfl ?_ | refine g_lb ?_))
        exact g_l (k + 1, k + 1, v1, out ++ [p]) ⟨rfl, rfl, rfl, rfl, trivial⟩ ⟨by simp only; omega, hnx, hS.sel [0] rfl rfl⟩ (by simp only; omega)
      · have hcf : cmv BinOp.eql ((s[k].toNat : Nat) : Int) 47 = false := by
          simp only [cmv, decide_eq_false_iff_not]
          intro e
          apply hc47
          have : s[k].toNat = 47 := by omega
          exact UInt8.toNat_inj.1 this
        rw [hcf]
        (repeat (first | refine g_sq ?_ | refine g_rg ?_ | refine g_r0 ?_ | refine g_ok rfl rfl ?_ | refine g_no rfl ?_ | refine g_no0 rfl ?_ | refine g_bk ?_ | refine g_b ?_ | refine g_sk ?_ | refine g_cT rfl ?_ | refine g_cF rfl ?_ | refine g_x rfl ?_ | refine g_lb ?_))
        refine g_rq rfl rfl (in64 (by simp only [arv]; omega)) ?_
        (repeat (first | refine g_sq ?_ | refine g_rg ?_ | refine g_r0 ?_ | refine g_ok rfl rfl ?_ | refine g_no rfl ?_ | refine g_no0 rfl ?_ | refine g_bk ?_ | refine g_b ?_ | refine g_sk ?_ | refine g_cT rfl ?_ | refine g_cF rfl ?_ | refine g_x rfl ?_ | refine g_lb ?_))
        exact g_l (k + 1, f, vo, out) ⟨rfl, rfl, rfl, rfl, trivial⟩ ⟨by simp only; omega, ptI_go hI hlt hc47, hS⟩ (by simp only; omega)
  · have ek : k = s.length + 1 := by omega
    subst ek
    have e := hI.2.1 (by omega)
    subst e
    (repeat (first | refine g_sq ?_ | refine g_rg ?_ | refine g_r0 ?_ | refine g_ok rfl rfl ?_ | refine g_no rfl ?_ | refine g_no0 rfl ?_ | refine g_bk ?_ | refine g_b ?_ | refine g_sk ?_ | refine g_cT rfl ?_ | refine g_cF rfl ?_ | refine g_x rfl ?_ | refine g_lb ?_))
    exact g_ret (q_1 rfl (h _ _ hS))
end
end Go.Proofs.YtibofabkpgigoaaGreatDoor
namespace Go.Proofs.YtibofabkpgigoaaGreatDoor
open Go.En

theorem gd_at {s : Bs} {k : Nat} (h : k < s.length) : (⟨s.toArray⟩ : ByteArray).data.toList.getD (k : Int).toNat 0 = s[k] := by
  rw [Int.toNat_natCast]
  show s.getD k 0 = s[k]
  rw [List.getD_eq_getElem?_getD, List.getElem?_eq_getElem h]
  rfl
theorem rd_x' {l xs : List Value} {off n k : Nat} (hx : (l.drop off).take (n * 1) = xs) (hn : xs.length = n) (hk : k < xs.length) : l[off + k * 1]? = some xs[k] := by
  have h1 := congrArg (fun l : List Value => l[k]?) hx
  simp only [List.getElem?_take, List.getElem?_drop] at h1
  rw [if_pos (by omega), List.getElem?_eq_getElem hk] at h1
  rw [Nat.mul_one]
  exact h1
theorem ceq_c {c : UInt8} {n : Nat} (hn : n < 256) : cmv BinOp.eql ((c.toNat : Nat) : Int) (n : Int) = decide (c = UInt8.ofNat n) := by
  simp only [cmv]
  rw [decide_eq_decide]
  constructor
  · intro h
    refine UInt8.toNat_inj.1 ?_
    rw [UInt8.toNat_ofNat']
    omega
  · intro h
    rw [h, UInt8.toNat_ofNat']
    omega
theorem lock_suf (p : Bs) : ([46, 108, 111, 99, 107] : Bs).isSuffixOf p = true ↔ 5 ≤ p.length ∧ p.drop (p.length - 5) = [46, 108, 111, 99, 107] := by
  rw [List.isSuffixOf_iff_suffix, List.suffix_iff_eq_drop]
  constructor
  · intro h
    refine ⟨?_, h.symm⟩
    have := congrArg List.length h
    simp at this
    omega
  · rintro ⟨_, h⟩
    exact h.symm
theorem dot_suf {s : Bs} (h : 0 < s.length) : ([46] : Bs).isSuffixOf s = true ↔ s[s.length - 1] = 46 := by
  rw [List.isSuffixOf_iff_suffix, List.suffix_iff_eq_drop]
  have e : s.drop (s.length - 1) = [s[s.length - 1]] := by
    rw [List.drop_eq_getElem_cons (by omega), List.drop_eq_nil_of_le (by omega)]
  show [46] = s.drop (s.length - 1) ↔ _
  rw [e]
  constructor
  · intro h
    exact (List.cons.inj h).1.symm
  · intro h
    rw [h]
theorem dot_pre {p : Bs} (h : 0 < p.length) : ([46] : Bs).isPrefixOf p = true ↔ p[0] = 46 := by
  match p, h with
  | x :: p, _ =>
    simp [List.isPrefixOf]
    exact eq_comm
section
variable {w w0 : World} {S0 : Nat → Prop} {L B : List Res} {K : Value → World → Prop} {s : Bs} {E0 E1 : Nat}
set_option maxHeartbeats 8000000 in
theorem r_Breaks (h : ∀ w', St w (fun _ => False) w' [] → K (.int .i64 (brk s)) w') : CK Tryz.prog 145 [sv s] w K := by
  have hS := St.nil w (fun _ => False)
  have esz : (⟨s.toArray⟩ : ByteArray).size = s.length := by rw [Lib.size_eq]
  have hsl : ((⟨s.toArray⟩ : ByteArray).data.toList.length : Int) = s.length := rfl
  have stop : ∀ j, j < 8 → (∀ i, i < j → rul i s = false) → rul j s = true → ∀ w', St w (fun _ => False) w' [] → K (.int .i64 ((j : Int) + 1)) w' := fun j hj h0 h1 w' hS => by
    have hb := brk_at j hj h0 h1
    rw [hb] at h
    exact h w' hS
  refine call_k Tryz.func145 k145 Tryz.ntmps145 (Nat.le_of_ble_eq_true rfl) ?_
  (repeat (first | refine g_sq ?_ | refine g_rg ?_ | refine g_r0 ?_ | refine g_ok rfl rfl ?_ | refine g_no rfl ?_ | refine g_no0 rfl ?_ | refine g_bk ?_ | refine g_b ?_ | refine g_sk ?_ | refine g_cT rfl ?_ | refine g_cF rfl ?_ | refine g_x rfl ?_ | refine g_lb ?_))
  rw [esz]
  (generalize q1 : cmv _ _ _ = q; cases q <;> simp only [cmv, arv, Bool.not_eq_true', Bool.not_eq_false', decide_eq_true_eq, decide_eq_false_iff_not] at q1 <;> first | (exfalso; omega) | skip)
  rotate_left
  · have e0 : s = [] := List.eq_nil_of_length_eq_zero (by omega)
    (repeat (first | refine g_sq ?_ | refine g_rg ?_ | refine g_r0 ?_ | refine g_ok rfl rfl ?_ | refine g_no rfl ?_ | refine g_no0 rfl ?_ | refine g_bk ?_ | refine g_b ?_ | refine g_sk ?_ | refine g_cT rfl ?_ | refine g_cF rfl ?_ | refine g_x rfl ?_ | refine g_lb ?_))
    exact g_ret (q_1 rfl (stop 0 (by decide) (fun i hi => absurd hi (Nat.not_lt_zero i)) (by simp [rul, e0]) _ hS))
  (repeat (first | refine g_sq ?_ | refine g_rg ?_ | refine g_r0 ?_ | refine g_ok rfl rfl ?_ | refine g_no rfl ?_ | refine g_no0 rfl ?_ | refine g_bk ?_ | refine g_b ?_ | refine g_sk ?_ | refine g_cT rfl ?_ | refine g_cF rfl ?_ | refine g_x rfl ?_ | refine g_lb ?_))
  rw [esz]
  (generalize q2 : cmv _ _ _ = q; cases q <;> simp only [cmv, arv, Bool.not_eq_true', Bool.not_eq_false', decide_eq_true_eq, decide_eq_false_iff_not] at q2 <;> first | (exfalso; omega) | skip)
  rotate_left
  · (repeat (first | refine g_sq ?_ | refine g_rg ?_ | refine g_r0 ?_ | refine g_ok rfl rfl ?_ | refine g_no rfl ?_ | refine g_no0 rfl ?_ | refine g_bk ?_ | refine g_b ?_ | refine g_sk ?_ | refine g_cT rfl ?_ | refine g_cF rfl ?_ | refine g_x rfl ?_ | refine g_lb ?_))
    exact g_ret (q_1 rfl (stop 0 (by decide) (fun i hi => absurd hi (Nat.not_lt_zero i)) (by simp [rul]; right; omega) _ hS))
  have r0 : rul 0 s = false := by
    simp only [rul, Bool.or_eq_false_iff, decide_eq_false_iff_not]
    exact ⟨fun e => by rw [e] at q1; simp at q1, by omega⟩
  (repeat (first | refine g_sq ?_ | refine g_rg ?_ | refine g_r0 ?_ | refine g_ok rfl rfl ?_ | refine g_no rfl ?_ | refine g_no0 rfl ?_ | refine g_bk ?_ | refine g_b ?_ | refine g_sk ?_ | refine g_cT rfl ?_ | refine g_cF rfl ?_ | refine g_x rfl ?_ | refine g_lb ?_))
  refine g_lp (ι := Nat) (fun k => [(0, sv s), (3, .int .i64 k)]) (fun k w' => k ≤ s.length ∧ (∀ j (hj : j < s.length), j < k → may s[j] = true) ∧ St w (fun _ => False) w' []) (fun k => s.length - k) 0 ⟨rfl, rfl, trivial⟩ ⟨Nat.zero_le _, fun j _ h => absurd h (Nat.not_lt_zero j), hS⟩ ?_
  clear hS
  rintro k w1 ⟨hk, hP, hS⟩
  (repeat (first | refine g_sq ?_ | refine g_rg ?_ | refine g_r0 ?_ | refine g_ok rfl rfl ?_ | refine g_no rfl ?_ | refine g_no0 rfl ?_ | refine g_bk ?_ | refine g_b ?_ | refine g_sk ?_ | refine g_cT rfl ?_ | refine g_cF rfl ?_ | refine g_x rfl ?_ | refine g_lb ?_))
  rw [esz]
  (refine g_cd rfl (fun hlt => ?_) (fun hlt => ?_) <;> simp only [cmv, arv, Bool.not_eq_true', Bool.not_eq_false', decide_eq_true_eq, decide_eq_false_iff_not] at hlt)
  · have hlt : k < s.length := by omega
    (repeat (first | refine g_sq ?_ | refine g_rg ?_ | refine g_r0 ?_ | refine g_ok rfl rfl ?_ | refine g_no rfl ?_ | refine g_no0 rfl ?_ | refine g_bk ?_ | refine g_b ?_ | refine g_sk ?_ | refine g_cT rfl ?_ | refine g_cF rfl ?_ | refine g_x rfl ?_ | refine g_lb ?_))
    refine g_rq rfl rfl ⟨by omega, by omega⟩ ?_
    rw [gd_at hlt]
    refine g_cl rfl rfl (r_may ?_)
    (repeat (first | refine g_sq ?_ | refine g_rg ?_ | refine g_r0 ?_ | refine g_ok rfl rfl ?_ | refine g_no rfl ?_ | refine g_no0 rfl ?_ | refine g_bk ?_ | refine g_b ?_ | refine g_sk ?_ | refine g_cT rfl ?_ | refine g_cF rfl ?_ | refine g_x rfl ?_ | refine g_lb ?_))
    cases hm : may s[k]
    · (repeat (first | refine g_sq ?_ | refine g_rg ?_ | refine g_r0 ?_ | refine g_ok rfl rfl ?_ | refine g_no rfl ?_ | refine g_no0 rfl ?_ | refine g_bk ?_ | refine g_b ?_ | refine g_sk ?_ | refine g_cT rfl ?_ | refine g_cF rfl ?_ | refine g_x rfl ?_ | refine g_lb ?_))
      refine g_ret (q_1 rfl (stop 1 (by decide) (fun i hi => ?_) ?_ _ hS))
      · have : i = 0 := by omega
        subst this; exact r0
      · simp only [rul, List.any_eq_true]
        exact ⟨s[k], List.getElem_mem _, by rw [hm]; rfl⟩
    · (repeat (first | refine g_sq ?_ | refine g_rg ?_ | refine g_r0 ?_ | refine g_ok rfl rfl ?_ | refine g_no rfl ?_ | refine g_no0 rfl ?_ | refine g_bk ?_ | refine g_b ?_ | refine g_sk ?_ | refine g_cT rfl ?_ | refine g_cF rfl ?_ | refine g_x rfl ?_ | refine g_lb ?_))
      refine g_rq rfl rfl (in64 (by simp only [arv]; omega)) ?_
      (repeat (first | refine g_sq ?_ | refine g_rg ?_ | refine g_r0 ?_ | refine g_ok rfl rfl ?_ | refine g_no rfl ?_ | refine g_no0 rfl ?_ | refine g_bk ?_ | refine g_b ?_ | refine g_sk ?_ | refine g_cT rfl ?_ | refine g_cF rfl ?_ | refine g_x rfl ?_ | refine g_lb ?_))
      refine g_l (k + 1) ⟨rfl, rfl, trivial⟩ ⟨by omega, fun j hj hjk => ?_, hS⟩ (by omega)
      by_cases e : j = k
      · subst e; exact hm
      · exact hP j hj (by omega)
  have r1 : rul 1 s = false := by
    simp only [rul]
    rw [List.any_eq_false]
    intro x hx
    obtain ⟨j, hj, rfl⟩ := List.getElem_of_mem hx
    rw [hP j hj (by omega)]
    decide
  have R1 : ∀ i, i < 2 → rul i s = false := fun i hi => by
    rcases i with _ | _ | i
    · exact r0
    · exact r1
    · omega
  (repeat (first | refine g_sq ?_ | refine g_rg ?_ | refine g_r0 ?_ | refine g_ok rfl rfl ?_ | refine g_no rfl ?_ | refine g_no0 rfl ?_ | refine g_bk ?_ | refine g_b ?_ | refine g_sk ?_ | refine g_cT rfl ?_ | refine g_cF rfl ?_ | refine g_x rfl ?_ | refine g_lb ?_))
  refine g_cl rfl rfl (r_parts (by omega) fun vp w1 h' => ?_)
  replace hS := hS.call0.2 _ _ h'
  replace hS : St w (fun _ => False) w1 [row vp 9 1 (prt s).length ((prt s).map sv)] := hS
  clear h' hP hk hlt
  have hpm : ((prt s).map sv).length = (prt s).length := List.length_map ..
  have hpl : (prt s).length ≤ 4294967280 := by
    have := Lib.countB_le ⟨#[47]⟩ (by decide) _ (⟨s.toArray⟩ : ByteArray) (Nat.le_refl _)
    have h2 : (prt s).length = Lib.countB ⟨s.toArray⟩ ⟨#[47]⟩ + 1 := by
      rw [prt, List.length_map]
      exact Lib.splitB_all _ (by decide) _ _ _ rfl
    omega
  obtain ⟨a, c, rfl⟩ := hS.rlen 0 rfl
  (repeat (first | refine g_sq ?_ | refine g_rg ?_ | refine g_r0 ?_ | refine g_ok rfl rfl ?_ | refine g_no rfl ?_ | refine g_no0 rfl ?_ | refine g_bk ?_ | refine g_b ?_ | refine g_sk ?_ | refine g_cT rfl ?_ | refine g_cF rfl ?_ | refine g_x rfl ?_ | refine g_lb ?_))
  refine g_lp (ι := Nat) (fun k => [(0, sv s), (5, .slice a (prt s).length c), (6, .int .i64 k)]) (fun k w' => k ≤ (prt s).length ∧ (∀ j (hj : j < (prt s).length), j < k → (prt s)[j] ≠ []) ∧ St w (fun _ => False) w' [row (.slice a (prt s).length c) 9 1 (prt s).length ((prt s).map sv)]) (fun k => (prt s).length - k) 0 ⟨rfl, rfl, rfl, trivial⟩ ⟨Nat.zero_le _, fun j _ h => absurd h (Nat.not_lt_zero j), hS⟩ ?_
  clear hS
  rintro k w1 ⟨hk, hP, hS⟩
  (repeat (first | refine g_sq ?_ | refine g_rg ?_ | refine g_r0 ?_ | refine g_ok rfl rfl ?_ | refine g_no rfl ?_ | refine g_no0 rfl ?_ | refine g_bk ?_ | refine g_b ?_ | refine g_sk ?_ | refine g_cT rfl ?_ | refine g_cF rfl ?_ | refine g_x rfl ?_ | refine g_lb ?_))
  (refine g_cd rfl (fun hlt => ?_) (fun hlt => ?_) <;> simp only [cmv, arv, Bool.not_eq_true', Bool.not_eq_false', decide_eq_true_eq, decide_eq_false_iff_not] at hlt)
  · have hlt : k < (prt s).length := by omega
    obtain ⟨b, off, cap, l, e1, hcap, hl, hx, hb⟩ := Rd.block (Ow.rd (hS.ok 0 _ rfl)) (by omega)
    cases e1
    (repeat (first | refine g_sq ?_ | refine g_rg ?_ | refine g_r0 ?_ | refine g_ok rfl rfl ?_ | refine g_no rfl ?_ | refine g_no0 rfl ?_ | refine g_bk ?_ | refine g_b ?_ | refine g_sk ?_ | refine g_cT rfl ?_ | refine g_cF rfl ?_ | refine g_x rfl ?_ | refine g_lb ?_))
    refine g_rq rfl rfl ⟨by omega, by omega⟩ ?_
    refine g_l1r rfl rfl hb (by rw [Int.toNat_natCast]; exact rd_x' hx hpm (by rw [hpm]; exact hlt)) ?_
    rw [List.getElem_map]
    (repeat (first | refine g_sq ?_ | refine g_rg ?_ | refine g_r0 ?_ | refine g_ok rfl rfl ?_ | refine g_no rfl ?_ | refine g_no0 rfl ?_ | refine g_bk ?_ | refine g_b ?_ | refine g_sk ?_ | refine g_cT rfl ?_ | refine g_cF rfl ?_ | refine g_x rfl ?_ | refine g_lb ?_))
    generalize hq : decide ((⟨(prt s)[k].toArray⟩ : ByteArray).data.toList = (⟨#[]⟩ : ByteArray).data.toList) = q
    have hq2 : decide ((prt s)[k] = []) = q := hq
    cases q
    · (repeat (first | refine g_sq ?_ | refine g_rg ?_ | refine g_r0 ?_ | refine g_ok rfl rfl ?_ | refine g_no rfl ?_ | refine g_no0 rfl ?_ | refine g_bk ?_ | refine g_b ?_ | refine g_sk ?_ | refine g_cT rfl ?_ | refine g_cF rfl ?_ | refine g_x rfl ?_ | refine g_lb ?_))
      refine g_rq rfl rfl (in64 (by simp only [arv]; omega)) ?_
      (repeat (first | refine g_sq ?_ | refine g_rg ?_ | refine g_r0 ?_ | refine g_ok rfl rfl ?_ | refine g_no rfl ?_ | refine g_no0 rfl ?_ | refine g_bk ?_ | refine g_b ?_ | refine g_sk ?_ | refine g_cT rfl ?_ | refine g_cF rfl ?_ | refine g_x rfl ?_ | refine g_lb ?_))
      refine g_l (k + 1) ⟨rfl, rfl, rfl, trivial⟩ ⟨by omega, fun j hj hjk => ?_, hS⟩ (by omega)
      by_cases e : j = k
      · subst e; exact of_decide_eq_false hq2
      · exact hP j hj (by omega)
    · (repeat (first | refine g_sq ?_ | refine g_rg ?_ | refine g_r0 ?_ | refine g_ok rfl rfl ?_ | refine g_no rfl ?_ | refine g_no0 rfl ?_ | refine g_bk ?_ | refine g_b ?_ | refine g_sk ?_ | refine g_cT rfl ?_ | refine g_cF rfl ?_ | refine g_x rfl ?_ | refine g_lb ?_))
      refine g_ret (q_1 rfl (stop 2 (by decide) R1 ?_ _ (hS.sel [] rfl rfl)))
      simp only [rul, List.any_eq_true]
      exact ⟨(prt s)[k], List.getElem_mem _, hq2⟩
  have hne : ∀ p ∈ prt s, p ≠ [] := fun p hp => by
    obtain ⟨j, hj, rfl⟩ := List.getElem_of_mem hp
    exact hP j hj (by omega)
  have r2 : rul 2 s = false := by
    simp only [rul]
    rw [List.any_eq_false]
    intro p hp
    rw [decide_eq_false (hne p hp)]
    decide
  have R2 : ∀ i, i < 3 → rul i s = false := fun i hi => by
    by_cases e : i = 2
    · subst e; exact r2
    · exact R1 i (by omega)
  clear hP hk hlt
  (repeat (first | refine g_sq ?_ | refine g_rg ?_ | refine g_r0 ?_ | refine g_ok rfl rfl ?_ | refine g_no rfl ?_ | refine g_no0 rfl ?_ | refine g_bk ?_ | refine g_b ?_ | refine g_sk ?_ | refine g_cT rfl ?_ | refine g_cF rfl ?_ | refine g_x rfl ?_ | refine g_lb ?_))
  refine g_lp (ι := Nat) (fun k => [(0, sv s), (5, .slice a (prt s).length c), (7, .int .i64 k)]) (fun k w' => k ≤ (prt s).length ∧ (∀ j (hj : j < (prt s).length), j < k → ([46] : Bs).isPrefixOf (prt s)[j] = false) ∧ St w (fun _ => False) w' [row (.slice a (prt s).length c) 9 1 (prt s).length ((prt s).map sv)]) (fun k => (prt s).length - k) 0 ⟨rfl, rfl, rfl, trivial⟩ ⟨Nat.zero_le _, fun j _ h => absurd h (Nat.not_lt_zero j), hS⟩ ?_
  clear hS
  rintro k w1 ⟨hk, hP, hS⟩
  (repeat (first | refine g_sq ?_ | refine g_rg ?_ | refine g_r0 ?_ | refine g_ok rfl rfl ?_ | refine g_no rfl ?_ | refine g_no0 rfl ?_ | refine g_bk ?_ | refine g_b ?_ | refine g_sk ?_ | refine g_cT rfl ?_ | refine g_cF rfl ?_ | refine g_x rfl ?_ | refine g_lb ?_))
  (refine g_cd rfl (fun hlt => ?_) (fun hlt => ?_) <;> simp only [cmv, arv, Bool.not_eq_true', Bool.not_eq_false', decide_eq_true_eq, decide_eq_false_iff_not] at hlt)
  · have hlt : k < (prt s).length := by omega
    have hpk : 0 < (prt s)[k].length := List.length_pos_iff.2 (hne _ (List.getElem_mem hlt))
    obtain ⟨b, off, cap, l, e1, hcap, hl, hx, hb⟩ := Rd.block (Ow.rd (hS.ok 0 _ rfl)) (by omega)
    cases e1
    (repeat (first | refine g_sq ?_ | refine g_rg ?_ | refine g_r0 ?_ | refine g_ok rfl rfl ?_ | refine g_no rfl ?_ | refine g_no0 rfl ?_ | refine g_bk ?_ | refine g_b ?_ | refine g_sk ?_ | refine g_cT rfl ?_ | refine g_cF rfl ?_ | refine g_x rfl ?_ | refine g_lb ?_))
    refine g_rq rfl rfl ⟨by omega, by omega⟩ ?_
    refine g_l1r rfl rfl hb (by rw [Int.toNat_natCast]; exact rd_x' hx hpm (by rw [hpm]; exact hlt)) ?_
    rw [List.getElem_map]
    (repeat (first | refine g_sq ?_ | refine g_rg ?_ | refine g_r0 ?_ | refine g_ok rfl rfl ?_ | refine g_no rfl ?_ | refine g_no0 rfl ?_ | refine g_bk ?_ | refine g_b ?_ | refine g_sk ?_ | refine g_cT rfl ?_ | refine g_cF rfl ?_ | refine g_x rfl ?_ | refine g_lb ?_))
    refine g_rq rfl rfl ⟨by omega, by show ((0 : Nat) : Int) < ((prt s)[k].length : Int); omega⟩ ?_
    rw [show (0 : Int) = ((0 : Nat) : Int) from rfl, gd_at hpk]
    (repeat (first | refine g_sq ?_ | refine g_rg ?_ | refine g_r0 ?_ | refine g_ok rfl rfl ?_ | refine g_no rfl ?_ | refine g_no0 rfl ?_ | refine g_bk ?_ | refine g_b ?_ | refine g_sk ?_ | refine g_cT rfl ?_ | refine g_cF rfl ?_ | refine g_x rfl ?_ | refine g_lb ?_))
    rw [show (46 : Int) = ((46 : Nat) : Int) from rfl, ceq_c (by decide)]
    cases hq : decide ((prt s)[k][0] = UInt8.ofNat 46)
    · have hq2 := of_decide_eq_false hq
      (repeat (first | refine g_sq ?_ | refine g_rg ?_ | refine g_r0 ?_ | refine g_ok rfl rfl ?_ | refine g_no rfl ?_ | refine g_no0 rfl ?_ | refine g_bk ?_ | refine g_b ?_ | refine g_sk ?_ | refine g_cT rfl ?_ | refine g_cF rfl ?_ | refine g_x rfl ?_ | refine g_lb ?_))
      refine g_rq rfl rfl (in64 (by simp only [arv]; omega)) ?_
      (repeat (first | refine g_sq ?_ | refine g_rg ?_ | refine g_r0 ?_ | refine g_ok rfl rfl ?_ | refine g_no rfl ?_ | refine g_no0 rfl ?_ | refine g_bk ?_ | refine g_b ?_ | refine g_sk ?_ | refine g_cT rfl ?_ | refine g_cF rfl ?_ | refine g_x rfl ?_ | refine g_lb ?_))
      refine g_l (k + 1) ⟨rfl, rfl, rfl, trivial⟩ ⟨by omega, fun j hj hjk => ?_, hS⟩ (by omega)
      by_cases e : j = k
      · subst e
        cases hp : ([46] : Bs).isPrefixOf (prt s)[j]
        · rfl
        · exact absurd ((dot_pre hpk).1 hp) hq2
      · exact hP j hj (by omega)
    · (repeat (first | refine g_sq ?_ | refine g_rg ?_ | refine g_r0 ?_ | refine g_ok rfl rfl ?_ | refine g_no rfl ?_ | refine g_no0 rfl ?_ | refine g_bk ?_ | refine g_b ?_ | refine g_sk ?_ | refine g_cT rfl ?_ | refine g_cF rfl ?_ | refine g_x rfl ?_ | refine g_lb ?_))
      refine g_ret (q_1 rfl (stop 3 (by decide) R2 ?_ _ (hS.sel [] rfl rfl)))
      simp only [rul, List.any_eq_true]
      exact ⟨(prt s)[k], List.getElem_mem _, (dot_pre hpk).2 (of_decide_eq_true hq)⟩
  have r3 : rul 3 s = false := by
    simp only [rul]
    rw [List.any_eq_false]
    intro p hp
    obtain ⟨j, hj, rfl⟩ := List.getElem_of_mem hp
    rw [hP j hj (by omega)]
    decide
  have R3 : ∀ i, i < 4 → rul i s = false := fun i hi => by
    by_cases e : i = 3
    · subst e; exact r3
    · exact R2 i (by omega)
  clear hP hk hlt
  (repeat (first | refine g_sq ?_ | refine g_rg ?_ | refine g_r0 ?_ | refine g_ok rfl rfl ?_ | refine g_no rfl ?_ | refine g_no0 rfl ?_ | refine g_bk ?_ | refine g_b ?_ | refine g_sk ?_ | refine g_cT rfl ?_ | refine g_cF rfl ?_ | refine g_x rfl ?_ | refine g_lb ?_))
  refine g_lp (ι := Nat) (fun k => [(0, sv s), (5, .slice a (prt s).length c), (8, .int .i64 ((k : Nat) + 1 : Nat))]) (fun k w' => k + 1 ≤ s.length ∧ (∀ j (hj : j + 1 < s.length), j < k → ¬ (s[j] = 46 ∧ s[j + 1] = 46)) ∧ St w (fun _ => False) w' [row (.slice a (prt s).length c) 9 1 (prt s).length ((prt s).map sv)]) (fun k => s.length - k) 0 ⟨rfl, rfl, rfl, trivial⟩ ⟨by omega, fun j _ h => absurd h (Nat.not_lt_zero j), hS⟩ ?_
  clear hS
  rintro k w1 ⟨hk, hP, hS⟩
  (repeat (first | refine g_sq ?_ | refine g_rg ?_ | refine g_r0 ?_ | refine g_ok rfl rfl ?_ | refine g_no rfl ?_ | refine g_no0 rfl ?_ | refine g_bk ?_ | refine g_b ?_ | refine g_sk ?_ | refine g_cT rfl ?_ | refine g_cF rfl ?_ | refine g_x rfl ?_ | refine g_lb ?_))
  rw [esz]
  (refine g_cd rfl (fun hlt => ?_) (fun hlt => ?_) <;> simp only [cmv, arv, Bool.not_eq_true', Bool.not_eq_false', decide_eq_true_eq, decide_eq_false_iff_not] at hlt)
  · have hlt : k + 1 < s.length := by omega
    have em : (arv BinOp.sub ((k + 1 : Nat) : Int) 1) = ((k : Nat) : Int) := by simp only [arv]; omega
    have next : ¬ (s[k] = 46 ∧ s[k + 1] = 46) → ∀ j (hj : j + 1 < s.length), j < k + 1 → ¬ (s[j] = 46 ∧ s[j + 1] = 46) := fun h0 j hj hjk => by
      by_cases e : j = k
      · subst e; exact h0
      · exact hP j hj (by omega)
    (repeat (first | refine g_sq ?_ | refine g_rg ?_ | refine g_r0 ?_ | refine g_ok rfl rfl ?_ | refine g_no rfl ?_ | refine g_no0 rfl ?_ | refine g_bk ?_ | refine g_b ?_ | refine g_sk ?_ | refine g_cT rfl ?_ | refine g_cF rfl ?_ | refine g_x rfl ?_ | refine g_lb ?_))
    refine g_rq rfl rfl ⟨by omega, by rw [hsl]; omega⟩ ?_
    rw [gd_at hlt]
    (repeat (first | refine g_sq ?_ | refine g_rg ?_ | refine g_r0 ?_ | refine g_ok rfl rfl ?_ | refine g_no rfl ?_ | refine g_no0 rfl ?_ | refine g_bk ?_ | refine g_b ?_ | refine g_sk ?_ | refine g_cT rfl ?_ | refine g_cF rfl ?_ | refine g_x rfl ?_ | refine g_lb ?_))
    rw [show (46 : Int) = ((46 : Nat) : Int) from rfl, ceq_c (by decide)]
    cases hq : decide (s[k + 1] = UInt8.ofNat 46)
    · have hq2 := of_decide_eq_false hq
      (repeat (first | refine g_sq ?_ | refine g_rg ?_ | refine g_r0 ?_ | refine g_ok rfl rfl ?_ | refine g_no rfl ?_ | refine g_no0 rfl ?_ | refine g_bk ?_ | refine g_b ?_ | refine g_sk ?_ | refine g_cT rfl ?_ | refine g_cF rfl ?_ | refine g_x rfl ?_ | refine g_lb ?_))
      refine g_rq rfl rfl (in64 (by simp only [arv]; omega)) ?_
      (repeat (first | refine g_sq ?_ | refine g_rg ?_ | refine g_r0 ?_ | refine g_ok rfl rfl ?_ | refine g_no rfl ?_ | refine g_no0 rfl ?_ | refine g_bk ?_ | refine g_b ?_ | refine g_sk ?_ | refine g_cT rfl ?_ | refine g_cF rfl ?_ | refine g_x rfl ?_ | refine g_lb ?_))
      exact g_l (k + 1) ⟨rfl, rfl, by show some (Value.int .i64 _) = some (Value.int .i64 _); congr 2, trivial⟩ ⟨by omega, next (fun h => hq2 h.2), hS⟩ (by omega)
    · have hq2 := of_decide_eq_true hq
      (repeat (first | refine g_sq ?_ | refine g_rg ?_ | refine g_r0 ?_ | refine g_ok rfl rfl ?_ | refine g_no rfl ?_ | refine g_no0 rfl ?_ | refine g_bk ?_ | refine g_b ?_ | refine g_sk ?_ | refine g_cT rfl ?_ | refine g_cF rfl ?_ | refine g_x rfl ?_ | refine g_lb ?_))
      refine g_rq rfl rfl (in64 (by rw [em]; omega)) ?_
      rw [em]
      refine g_rq rfl rfl ⟨by omega, by rw [hsl]; omega⟩ ?_
      rw [gd_at (show k < s.length by omega)]
      (repeat (first | refine g_sq ?_ | refine g_rg ?_ | refine g_r0 ?_ | refine g_ok rfl rfl ?_ | refine g_no rfl ?_ | refine g_no0 rfl ?_ | refine g_bk ?_ | refine g_b ?_ | refine g_sk ?_ | refine g_cT rfl ?_ | refine g_cF rfl ?_ | refine g_x rfl ?_ | refine g_lb ?_))
      rw [ceq_c (by decide)]
      cases hq3 : decide (s[k] = UInt8.ofNat 46)
      · have hq4 := of_decide_eq_false hq3
        (repeat (first | refine g_sq ?_ | refine g_rg ?_ | refine g_r0 ?_ | refine g_ok rfl rfl ?_ | refine g_no rfl ?_ | refine g_no0 rfl ?_ | refine g_bk ?_ | refine g_b ?_ | refine g_sk ?_ | refine g_cT rfl ?_ | refine g_cF rfl ?_ | refine g_x rfl ?_ | refine g_lb ?_))
        refine g_rq rfl rfl (in64 (by simp only [arv]; omega)) ?_
        (repeat (first | refine g_sq ?_ | refine g_rg ?_ | refine g_r0 ?_ | refine g_ok rfl rfl ?_ | refine g_no rfl ?_ | refine g_no0 rfl ?_ | refine g_bk ?_ | refine g_b ?_ | refine g_sk ?_ | refine g_cT rfl ?_ | refine g_cF rfl ?_ | refine g_x rfl ?_ | refine g_lb ?_))
        exact g_l (k + 1) ⟨rfl, rfl, by show some (Value.int .i64 _) = some (Value.int .i64 _); congr 2, trivial⟩ ⟨by omega, next (fun h => hq4 h.1), hS⟩ (by omega)
      · (repeat (first | refine g_sq ?_ | refine g_rg ?_ | refine g_r0 ?_ | refine g_ok rfl rfl ?_ | refine g_no rfl ?_ | refine g_no0 rfl ?_ | refine g_bk ?_ | refine g_b ?_ | refine g_sk ?_ | refine g_cT rfl ?_ | refine g_cF rfl ?_ | refine g_x rfl ?_ | refine g_lb ?_))
        refine g_ret (q_1 rfl (stop 4 (by decide) R3 ?_ _ (hS.sel [] rfl rfl)))
        simp only [rul]
        unfold Lib.contains
        rw [decide_eq_true_eq, cont2]
        refine ⟨k, ?_, ?_⟩
        · rw [List.getElem?_eq_getElem (by omega)]
          exact congrArg some (of_decide_eq_true hq3)
        · rw [List.getElem?_eq_getElem hlt]
          exact congrArg some hq2
  have r4 : rul 4 s = false := by
    simp only [rul]
    unfold Lib.contains
    rw [decide_eq_false_iff_not, cont2]
    rintro ⟨i, h1, h2⟩
    have hi := (List.getElem?_eq_some_iff.1 h2).1
    exact hP i hi (by omega) ⟨(List.getElem?_eq_some_iff.1 h1).2, (List.getElem?_eq_some_iff.1 h2).2⟩
  have R4 : ∀ i, i < 5 → rul i s = false := fun i hi => by
    by_cases e : i = 4
    · subst e; exact r4
    · exact R3 i (by omega)
  clear hP hk hlt
  (repeat (first | refine g_sq ?_ | refine g_rg ?_ | refine g_r0 ?_ | refine g_ok rfl rfl ?_ | refine g_no rfl ?_ | refine g_no0 rfl ?_ | refine g_bk ?_ | refine g_b ?_ | refine g_sk ?_ | refine g_cT rfl ?_ | refine g_cF rfl ?_ | refine g_x rfl ?_ | refine g_lb ?_))
  refine g_lp (ι := Nat) (fun k => [(0, sv s), (5, .slice a (prt s).length c), (9, .int .i64 k)]) (fun k w' => k ≤ (prt s).length ∧ (∀ j (hj : j < (prt s).length), j < k → ([46, 108, 111, 99, 107] : Bs).isSuffixOf (prt s)[j] = false) ∧ St w (fun _ => False) w' [row (.slice a (prt s).length c) 9 1 (prt s).length ((prt s).map sv)]) (fun k => (prt s).length - k) 0 ⟨rfl, rfl, rfl, trivial⟩ ⟨Nat.zero_le _, fun j _ h => absurd h (Nat.not_lt_zero j), hS⟩ ?_
  clear hS
  rintro k w1 ⟨hk, hP, hS⟩
  (repeat (first | refine g_sq ?_ | refine g_rg ?_ | refine g_r0 ?_ | refine g_ok rfl rfl ?_ | refine g_no rfl ?_ | refine g_no0 rfl ?_ | refine g_bk ?_ | refine g_b ?_ | refine g_sk ?_ | refine g_cT rfl ?_ | refine g_cF rfl ?_ | refine g_x rfl ?_ | refine g_lb ?_))
  (refine g_cd rfl (fun hlt => ?_) (fun hlt => ?_) <;> simp only [cmv, arv, Bool.not_eq_true', Bool.not_eq_false', decide_eq_true_eq, decide_eq_false_iff_not] at hlt)
  · have hlt : k < (prt s).length := by omega
    obtain ⟨b, off, cap, l, e1, hcap, hl, hx, hb⟩ := Rd.block (Ow.rd (hS.ok 0 _ rfl)) (by omega)
    cases e1
    have eszp : (⟨(prt s)[k].toArray⟩ : ByteArray).size = (prt s)[k].length := by rw [Lib.size_eq]
    have hpl : (prt s)[k].length ≤ s.length := prt_le (List.getElem_mem hlt)
    have next : ([46, 108, 111, 99, 107] : Bs).isSuffixOf (prt s)[k] = false → ∀ j (hj : j < (prt s).length), j < k + 1 → ([46, 108, 111, 99, 107] : Bs).isSuffixOf (prt s)[j] = false := fun h0 j hj hjk => by
      by_cases e : j = k
      · subst e; exact h0
      · exact hP j hj (by omega)
    (repeat (first | refine g_sq ?_ | refine g_rg ?_ | refine g_r0 ?_ | refine g_ok rfl rfl ?_ | refine g_no rfl ?_ | refine g_no0 rfl ?_ | refine g_bk ?_ | refine g_b ?_ | refine g_sk ?_ | refine g_cT rfl ?_ | refine g_cF rfl ?_ | refine g_x rfl ?_ | refine g_lb ?_))
    refine g_rq rfl rfl ⟨by omega, by omega⟩ ?_
    refine g_l1r rfl rfl hb (by rw [Int.toNat_natCast]; exact rd_x' hx hpm (by rw [hpm]; exact hlt)) ?_
    rw [List.getElem_map]
    (repeat (first | refine g_sq ?_ | refine g_rg ?_ | refine g_r0 ?_ | refine g_ok rfl rfl ?_ | refine g_no rfl ?_ | refine g_no0 rfl ?_ | refine g_bk ?_ | refine g_b ?_ | refine g_sk ?_ | refine g_cT rfl ?_ | refine g_cF rfl ?_ | refine g_x rfl ?_ | refine g_lb ?_))
    rw [eszp]
    (generalize q3 : cmv _ _ _ = q; cases q <;> simp only [cmv, arv, Bool.not_eq_true', Bool.not_eq_false', decide_eq_true_eq, decide_eq_false_iff_not] at q3 <;> first | (exfalso; omega) | skip)
    · (repeat (first | refine g_sq ?_ | refine g_rg ?_ | refine g_r0 ?_ | refine g_ok rfl rfl ?_ | refine g_no rfl ?_ | refine g_no0 rfl ?_ | refine g_bk ?_ | refine g_b ?_ | refine g_sk ?_ | refine g_cT rfl ?_ | refine g_cF rfl ?_ | refine g_x rfl ?_ | refine g_lb ?_))
      refine g_rq rfl rfl (in64 (by simp only [arv]; omega)) ?_
      (repeat (first | refine g_sq ?_ | refine g_rg ?_ | refine g_r0 ?_ | refine g_ok rfl rfl ?_ | refine g_no rfl ?_ | refine g_no0 rfl ?_ | refine g_bk ?_ | refine g_b ?_ | refine g_sk ?_ | refine g_cT rfl ?_ | refine g_cF rfl ?_ | refine g_x rfl ?_ | refine g_lb ?_))
      refine g_l (k + 1) ⟨rfl, rfl, rfl, trivial⟩ ⟨by omega, next ?_, hS⟩ (by omega)
      cases hp : ([46, 108, 111, 99, 107] : Bs).isSuffixOf (prt s)[k]
      · rfl
      · have := ((lock_suf _).1 hp).1
        omega
    · (repeat (first | refine g_sq ?_ | refine g_rg ?_ | refine g_r0 ?_ | refine g_ok rfl rfl ?_ | refine g_no rfl ?_ | refine g_no0 rfl ?_ | refine g_bk ?_ | refine g_b ?_ | refine g_sk ?_ | refine g_cT rfl ?_ | refine g_cF rfl ?_ | refine g_x rfl ?_ | refine g_lb ?_))
      refine g_rq rfl rfl ⟨by omega, by omega⟩ ?_
      refine g_l1r rfl rfl hb (by rw [Int.toNat_natCast]; exact rd_x' hx hpm (by rw [hpm]; exact hlt)) ?_
      rw [List.getElem_map]
      (repeat (first | refine g_sq ?_ | refine g_rg ?_ | refine g_r0 ?_ | refine g_ok rfl rfl ?_ | refine g_no rfl ?_ | refine g_no0 rfl ?_ | refine g_bk ?_ | refine g_b ?_ | refine g_sk ?_ | refine g_cT rfl ?_ | refine g_cF rfl ?_ | refine g_x rfl ?_ | refine g_lb ?_))
      refine g_rq rfl rfl (in64 (by simp only [arv]; omega)) ?_
      have em : (arv BinOp.sub ((prt s)[k].length : Int) 5).toNat = (prt s)[k].length - 5 := by simp only [arv]; omega
      refine g_rq rfl rfl ⟨by simp only [arv]; omega, by rw [eszp]; simp only [arv]; omega, by rw [eszp]; omega⟩ ?_
      rw [em, eszp, Int.toNat_natCast]
      have ex : (⟨(prt s)[k].toArray⟩ : ByteArray).extract ((prt s)[k].length - 5) (prt s)[k].length = ⟨((prt s)[k].drop ((prt s)[k].length - 5)).toArray⟩ := by
        have := sv_ext (prt s)[k] ((prt s)[k].length - 5) (prt s)[k].length
        rw [List.take_of_length_le (by rw [List.length_drop]; omega)] at this
        exact Value.string.inj this
      rw [ex]
      (repeat (first | refine g_sq ?_ | refine g_rg ?_ | refine g_r0 ?_ | refine g_ok rfl rfl ?_ | refine g_no rfl ?_ | refine g_no0 rfl ?_ | refine g_bk ?_ | refine g_b ?_ | refine g_sk ?_ | refine g_cT rfl ?_ | refine g_cF rfl ?_ | refine g_x rfl ?_ | refine g_lb ?_))
      generalize hq : decide ((⟨((prt s)[k].drop ((prt s)[k].length - 5)).toArray⟩ : ByteArray).data.toList = (⟨#[46, 108, 111, 99, 107]⟩ : ByteArray).data.toList) = q
      have hq2 : decide ((prt s)[k].drop ((prt s)[k].length - 5) = [46, 108, 111, 99, 107]) = q := hq
      cases q
      · (repeat (first | refine g_sq ?_ | refine g_rg ?_ | refine g_r0 ?_ | refine g_ok rfl rfl ?_ | refine g_no rfl ?_ | refine g_no0 rfl ?_ | refine g_bk ?_ | refine g_b ?_ | refine g_sk ?_ | refine g_cT rfl ?_ | refine g_cF rfl ?_ | refine g_x rfl ?_ | refine g_lb ?_))
        refine g_rq rfl rfl (in64 (by simp only [arv]; omega)) ?_
        (repeat (first | refine g_sq ?_ | refine g_rg ?_ | refine g_r0 ?_ | refine g_ok rfl rfl ?_ | refine g_no rfl ?_ | refine g_no0 rfl ?_ | refine g_bk ?_ | refine g_b ?_ | refine g_sk ?_ | refine g_cT rfl ?_ | refine g_cF rfl ?_ | refine g_x rfl ?_ | refine g_lb ?_))
        refine g_l (k + 1) ⟨rfl, rfl, rfl, trivial⟩ ⟨by omega, next ?_, hS⟩ (by omega)
        cases hp : ([46, 108, 111, 99, 107] : Bs).isSuffixOf (prt s)[k]
        · rfl
        · exact absurd ((lock_suf _).1 hp).2 (of_decide_eq_false hq2)
      · (repeat (first | refine g_sq ?_ | refine g_rg ?_ | refine g_r0 ?_ | refine g_ok rfl rfl ?_ | refine g_no rfl ?_ | refine g_no0 rfl ?_ | refine g_bk ?_ | refine g_b ?_ | refine g_sk ?_ | refine g_cT rfl ?_ | refine g_cF rfl ?_ | refine g_x rfl ?_ | refine g_lb ?_))
        refine g_ret (q_1 rfl (stop 5 (by decide) R4 ?_ _ (hS.sel [] rfl rfl)))
        simp only [rul, List.any_eq_true]
        exact ⟨(prt s)[k], List.getElem_mem _, (lock_suf _).2 ⟨by omega, of_decide_eq_true hq2⟩⟩
  have r5 : rul 5 s = false := by
    simp only [rul]
    rw [List.any_eq_false]
    intro p hp
    obtain ⟨j, hj, rfl⟩ := List.getElem_of_mem hp
    rw [hP j hj (by omega)]
    decide
  have R5 : ∀ i, i < 6 → rul i s = false := fun i hi => by
    by_cases e : i = 5
    · subst e; exact r5
    · exact R4 i (by omega)
  clear hP hk hlt
  have hs0 : 0 < s.length := by omega
  (repeat (first | refine g_sq ?_ | refine g_rg ?_ | refine g_r0 ?_ | refine g_ok rfl rfl ?_ | refine g_no rfl ?_ | refine g_no0 rfl ?_ | refine g_bk ?_ | refine g_b ?_ | refine g_sk ?_ | refine g_cT rfl ?_ | refine g_cF rfl ?_ | refine g_x rfl ?_ | refine g_lb ?_))
  rw [esz]
  have em : (arv BinOp.sub (s.length : Int) 1) = ((s.length - 1 : Nat) : Int) := by simp only [arv]; omega
  refine g_rq rfl rfl (in64 (by rw [em]; omega)) ?_
  rw [em]
  refine g_rq rfl rfl ⟨by omega, by rw [hsl]; omega⟩ ?_
  rw [gd_at (show s.length - 1 < s.length by omega)]
  (repeat (first | refine g_sq ?_ | refine g_rg ?_ | refine g_r0 ?_ | refine g_ok rfl rfl ?_ | refine g_no rfl ?_ | refine g_no0 rfl ?_ | refine g_bk ?_ | refine g_b ?_ | refine g_sk ?_ | refine g_cT rfl ?_ | refine g_cF rfl ?_ | refine g_x rfl ?_ | refine g_lb ?_))
  rw [show (46 : Int) = ((46 : Nat) : Int) from rfl, ceq_c (by decide)]
  cases hq : decide (s[s.length - 1] = UInt8.ofNat 46)
  rotate_left
  · (repeat (first | refine g_sq ?_ | refine g_rg ?_ | refine g_r0 ?_ | refine g_ok rfl rfl ?_ | refine g_no rfl ?_ | refine g_no0 rfl ?_ | refine g_bk ?_ | refine g_b ?_ | refine g_sk ?_ | refine g_cT rfl ?_ | refine g_cF rfl ?_ | refine g_x rfl ?_ | refine g_lb ?_))
    refine g_ret (q_1 rfl (stop 6 (by decide) R5 ?_ _ (hS.sel [] rfl rfl)))
    simp only [rul]
    exact (dot_suf hs0).2 (of_decide_eq_true hq)
  have r6 : rul 6 s = false := by
    simp only [rul]
    cases hp : ([46] : Bs).isSuffixOf s
    · rfl
    · exact absurd ((dot_suf hs0).1 hp) (of_decide_eq_false hq)
  have R6 : ∀ i, i < 7 → rul i s = false := fun i hi => by
    by_cases e : i = 6
    · subst e; exact r6
    · exact R5 i (by omega)
  (repeat (first | refine g_sq ?_ | refine g_rg ?_ | refine g_r0 ?_ | refine g_ok rfl rfl ?_ | refine g_no rfl ?_ | refine g_no0 rfl ?_ | refine g_bk ?_ | refine g_b ?_ | refine g_sk ?_ | refine g_cT rfl ?_ | refine g_cF rfl ?_ | refine g_x rfl ?_ | refine g_lb ?_))
  refine g_lp (ι := Nat) (fun k => [(0, sv s), (11, .int .i64 ((k : Nat) + 1 : Nat))]) (fun k w' => k + 1 ≤ s.length ∧ (∀ j (hj : j + 1 < s.length), j < k → ¬ (s[j] = 64 ∧ s[j + 1] = 123)) ∧ St w (fun _ => False) w' []) (fun k => s.length - k) 0 ⟨rfl, rfl, trivial⟩ ⟨by omega, fun j _ h => absurd h (Nat.not_lt_zero j), hS.sel [] rfl rfl⟩ ?_
  clear hS
  rintro k w1 ⟨hk, hP, hS⟩
  (repeat (first | refine g_sq ?_ | refine g_rg ?_ | refine g_r0 ?_ | refine g_ok rfl rfl ?_ | refine g_no rfl ?_ | refine g_no0 rfl ?_ | refine g_bk ?_ | refine g_b ?_ | refine g_sk ?_ | refine g_cT rfl ?_ | refine g_cF rfl ?_ | refine g_x rfl ?_ | refine g_lb ?_))
  rw [esz]
  (refine g_cd rfl (fun hlt => ?_) (fun hlt => ?_) <;> simp only [cmv, arv, Bool.not_eq_true', Bool.not_eq_false', decide_eq_true_eq, decide_eq_false_iff_not] at hlt)
  · have hlt : k + 1 < s.length := by omega
    have em : (arv BinOp.sub ((k + 1 : Nat) : Int) 1) = ((k : Nat) : Int) := by simp only [arv]; omega
    have next : ¬ (s[k] = 64 ∧ s[k + 1] = 123) → ∀ j (hj : j + 1 < s.length), j < k + 1 → ¬ (s[j] = 64 ∧ s[j + 1] = 123) := fun h0 j hj hjk => by
      by_cases e : j = k
      · subst e; exact h0
      · exact hP j hj (by omega)
    (repeat (first | refine g_sq ?_ | refine g_rg ?_ | refine g_r0 ?_ | refine g_ok rfl rfl ?_ | refine g_no rfl ?_ | refine g_no0 rfl ?_ | refine g_bk ?_ | refine g_b ?_ | refine g_sk ?_ | refine g_cT rfl ?_ | refine g_cF rfl ?_ | refine g_x rfl ?_ | refine g_lb ?_))
    refine g_rq rfl rfl ⟨by omega, by rw [hsl]; omega⟩ ?_
    rw [gd_at hlt]
    (repeat (first | refine g_sq ?_ | refine g_rg ?_ | refine g_r0 ?_ | refine g_ok rfl rfl ?_ | refine g_no rfl ?_ | refine g_no0 rfl ?_ | refine g_bk ?_ | refine g_b ?_ | refine g_sk ?_ | refine g_cT rfl ?_ | refine g_cF rfl ?_ | refine g_x rfl ?_ | refine g_lb ?_))
    rw [show (123 : Int) = ((123 : Nat) : Int) from rfl, ceq_c (by decide)]
    cases hq : decide (s[k + 1] = UInt8.ofNat 123)
    · have hq2 := of_decide_eq_false hq
      (repeat (first | refine g_sq ?_ | refine g_rg ?_ | refine g_r0 ?_ | refine g_ok rfl rfl ?_ | refine g_no rfl ?_ | refine g_no0 rfl ?_ | refine g_bk ?_ | refine g_b ?_ | refine g_sk ?_ | refine g_cT rfl ?_ | refine g_cF rfl ?_ | refine g_x rfl ?_ | refine g_lb ?_))
      refine g_rq rfl rfl (in64 (by simp only [arv]; omega)) ?_
      (repeat (first | refine g_sq ?_ | refine g_rg ?_ | refine g_r0 ?_ | refine g_ok rfl rfl ?_ | refine g_no rfl ?_ | refine g_no0 rfl ?_ | refine g_bk ?_ | refine g_b ?_ | refine g_sk ?_ | refine g_cT rfl ?_ | refine g_cF rfl ?_ | refine g_x rfl ?_ | refine g_lb ?_))
      exact g_l (k + 1) ⟨rfl, by show some (Value.int .i64 _) = some (Value.int .i64 _); congr 2, trivial⟩ ⟨by omega, next (fun h => hq2 h.2), hS⟩ (by omega)
    · have hq2 := of_decide_eq_true hq
      (repeat (first | refine g_sq ?_ | refine g_rg ?_ | refine g_r0 ?_ | refine g_ok rfl rfl ?_ | refine g_no rfl ?_ | refine g_no0 rfl ?_ | refine g_bk ?_ | refine g_b ?_ | refine g_sk ?_ | refine g_cT rfl ?_ | refine g_cF rfl ?_ | refine g_x rfl ?_ | refine g_lb ?_))
      refine g_rq rfl rfl (in64 (by rw [em]; omega)) ?_
      rw [em]
      refine g_rq rfl rfl ⟨by omega, by rw [hsl]; omega⟩ ?_
      rw [gd_at (show k < s.length by omega)]
      (repeat (first | refine g_sq ?_ | refine g_rg ?_ | refine g_r0 ?_ | refine g_ok rfl rfl ?_ | refine g_no rfl ?_ | refine g_no0 rfl ?_ | refine g_bk ?_ | refine g_b ?_ | refine g_sk ?_ | refine g_cT rfl ?_ | refine g_cF rfl ?_ | refine g_x rfl ?_ | refine g_lb ?_))
      rw [show (64 : Int) = ((64 : Nat) : Int) from rfl, ceq_c (by decide)]
      cases hq3 : decide (s[k] = UInt8.ofNat 64)
      · have hq4 := of_decide_eq_false hq3
        (repeat (first | refine g_sq ?_ | refine g_rg ?_ | refine g_r0 ?_ | refine g_ok rfl rfl ?_ | refine g_no rfl ?_ | refine g_no0 rfl ?_ | refine g_bk ?_ | refine g_b ?_ | refine g_sk ?_ | refine g_cT rfl ?_ | refine g_cF rfl ?_ | refine g_x rfl ?_ | refine g_lb ?_))
        refine g_rq rfl rfl (in64 (by simp only [arv]; omega)) ?_
        (repeat (first | refine g_sq ?_ | refine g_rg ?_ | refine g_r0 ?_ | refine g_ok rfl rfl ?_ | refine g_no rfl ?_ | refine g_no0 rfl ?_ | refine g_bk ?_ | refine g_b ?_ | refine g_sk ?_ | refine g_cT rfl ?_ | refine g_cF rfl ?_ | refine g_x rfl ?_ | refine g_lb ?_))
        exact g_l (k + 1) ⟨rfl, by show some (Value.int .i64 _) = some (Value.int .i64 _); congr 2, trivial⟩ ⟨by omega, next (fun h => hq4 h.1), hS⟩ (by omega)
      · (repeat (first | refine g_sq ?_ | refine g_rg ?_ | refine g_r0 ?_ | refine g_ok rfl rfl ?_ | refine g_no rfl ?_ | refine g_no0 rfl ?_ | refine g_bk ?_ | refine g_b ?_ | refine g_sk ?_ | refine g_cT rfl ?_ | refine g_cF rfl ?_ | refine g_x rfl ?_ | refine g_lb ?_))
        refine g_ret (q_1 rfl (stop 7 (by decide) R6 ?_ _ hS))
        simp only [rul]
        unfold Lib.contains
        rw [decide_eq_true_eq, cont2]
        refine ⟨k, ?_, ?_⟩
        · rw [List.getElem?_eq_getElem (by omega)]
          exact congrArg some (of_decide_eq_true hq3)
        · rw [List.getElem?_eq_getElem hlt]
          exact congrArg some hq2
  have r7 : rul 7 s = false := by
    simp only [rul]
    unfold Lib.contains
    rw [decide_eq_false_iff_not, cont2]
    rintro ⟨i, h1, h2⟩
    have hi := (List.getElem?_eq_some_iff.1 h2).1
    exact hP i hi (by omega) ⟨(List.getElem?_eq_some_iff.1 h1).2, (List.getElem?_eq_some_iff.1 h2).2⟩
  have e0 : brk s = 0 := brk_no8 fun i hi => by
    by_cases e : i = 7
    · subst e; exact r7
    · exact R6 i (by omega)
  rw [e0] at h
  (repeat (first | refine g_sq ?_ | refine g_rg ?_ | refine g_r0 ?_ | refine g_ok rfl rfl ?_ | refine g_no rfl ?_ | refine g_no0 rfl ?_ | refine g_bk ?_ | refine g_b ?_ | refine g_sk ?_ | refine g_cT rfl ?_ | refine g_cF rfl ?_ | refine g_x rfl ?_ | refine g_lb ?_))
  exact g_ret (q_1 rfl (h _ hS))
theorem r_Check4 (h : ∀ w', St w (fun _ => False) w' [] → K (.int .i64 (nmE s)) w') : CK Tryz.prog 124 [sv s] w K := by
  refine call_k Tryz.func124 k124 Tryz.ntmps124 (Nat.le_of_ble_eq_true rfl) ?_
  (repeat (first | refine g_sq ?_ | refine g_rg ?_ | refine g_r0 ?_ | refine g_ok rfl rfl ?_ | refine g_no rfl ?_ | refine g_no0 rfl ?_ | refine g_bk ?_ | refine g_b ?_ | refine g_sk ?_ | refine g_cT rfl ?_ | refine g_cF rfl ?_ | refine g_x rfl ?_ | refine g_lb ?_))
  refine g_cl rfl rfl (r_Breaks fun w1 hS => ?_)
  (repeat (first | refine g_sq ?_ | refine g_rg ?_ | refine g_r0 ?_ | refine g_ok rfl rfl ?_ | refine g_no rfl ?_ | refine g_no0 rfl ?_ | refine g_bk ?_ | refine g_b ?_ | refine g_sk ?_ | refine g_cT rfl ?_ | refine g_cF rfl ?_ | refine g_x rfl ?_ | refine g_lb ?_))
  by_cases e : brk s = 0
  · rw [show nmE s = 0 by unfold nmE; rw [if_pos e]] at h
    rw [e]
    (repeat (first | refine g_sq ?_ | refine g_rg ?_ | refine g_r0 ?_ | refine g_ok rfl rfl ?_ | refine g_no rfl ?_ | refine g_no0 rfl ?_ | refine g_bk ?_ | refine g_b ?_ | refine g_sk ?_ | refine g_cT rfl ?_ | refine g_cF rfl ?_ | refine g_x rfl ?_ | refine g_lb ?_))
    exact g_ret (q_1 rfl (h _ hS))
  · have e1 : nmE s = 40 := by unfold nmE; rw [if_neg e]
    rw [e1] at h
    rw [show cmv BinOp.gtr (brk s : Int) 0 = true by simp only [cmv, decide_eq_true_eq]; omega]
    (repeat (first | refine g_sq ?_ | refine g_rg ?_ | refine g_r0 ?_ | refine g_ok rfl rfl ?_ | refine g_no rfl ?_ | refine g_no0 rfl ?_ | refine g_bk ?_ | refine g_b ?_ | refine g_sk ?_ | refine g_cT rfl ?_ | refine g_cF rfl ?_ | refine g_x rfl ?_ | refine g_lb ?_))
    exact g_ret (q_1 rfl (h _ hS))
end
end Go.Proofs.YtibofabkpgigoaaGreatDoor
namespace Go.Proofs.YtibofabkpgigoaaGreatDoor
open Go.En

/-- where the first mark stands in what lies from a place on -/
def atv (s : Bs) (f : Nat) : Int := if 0 ≤ Lib.indexByte (s.drop f) 126 then f + Lib.indexByte (s.drop f) 126 else -1
theorem atv_end (s : Bs) : atv s s.length = -1 := by
  unfold atv
  rw [List.drop_length]
  rfl
theorem atv_0 (s : Bs) : atv s 0 = Lib.indexByte s 126 := by
  unfold atv
  rw [List.drop_zero]
  have := Lib.indexByte_ge s 126
  split <;> omega
theorem ibx_cons (x c : UInt8) (l : Bs) : Lib.indexByte (x :: l) c = if x = c then 0 else if Lib.indexByte l c = -1 then -1 else Lib.indexByte l c + 1 := by
  conv => lhs; unfold Lib.indexByte
  simp only [beq_iff_eq]
theorem atv_hit {s : Bs} {f : Nat} (h : f < s.length) (hc : s[f] = 126) : atv s f = f := by
  unfold atv
  rw [List.drop_eq_getElem_cons h, hc, ibx_cons, if_pos rfl, if_pos (Int.le_refl 0), Int.add_zero]
theorem atv_miss {s : Bs} {f : Nat} (h : f < s.length) (hc : s[f] ≠ 126) : atv s f = atv s (f + 1) := by
  unfold atv
  have hge := Lib.indexByte_ge (s.drop (f + 1)) 126
  rw [List.drop_eq_getElem_cons h, ibx_cons, if_neg hc]
  by_cases e : Lib.indexByte (s.drop (f + 1)) 126 = -1
  · rw [if_pos e, e]
    rfl
  · rw [if_neg e, if_pos (by omega), if_pos (by omega)]
    omega
theorem q_c4' {P : Program} {a ty n b off t t1 t2 : Nat} {l : List Value} {E : TypeId} {T : TT} {w : World} {K : Value → World → Prop} {u u1 u2 : Value} (hu1 : lk T t1 = some u1) (ht : lk T a = some (.pointer (some ⟨b, off, none⟩))) (h1 : rdAs P ty (some n) = true) (hb : Blk w b l E) (hn : off + n ≤ l.length) (hu2 : lk T t2 = some u2) (hu : lk T t = some u) (h : K (.tuple ⟨[u1, .agg ⟨(l.drop off).take n⟩, u2, u]⟩) w) : QF P [.tmp t1, .cell a ty, .tmp t2, .tmp t] K .ret T [] w := q_c4 hu1 ht h1 hb hn hu2 hu h
section
variable {w w0 : World} {S0 : Nat → Prop} {L B : List Res} {K : Value → World → Prop} {s : Bs} {E0 E1 : Nat}
set_option maxHeartbeats 2000000 in
theorem r_Split (h : ∀ w', St w (fun _ => False) w' [] → K (.tuple ⟨[sv (spN s).1, .agg ⟨bys (spN s).2.1⟩, .bool (spN s).2.2.1, .int .i64 (spN s).2.2.2]⟩) w') (hs : s.length ≤ 4294967280) : CK Tryz.prog 76 [sv s] w K := by
  have hS := St.nil w (fun _ => False)
  have esz : (⟨s.toArray⟩ : ByteArray).size = s.length := by rw [Lib.size_eq]
  have hsl : ((⟨s.toArray⟩ : ByteArray).data.toList.length : Int) = s.length := rfl
  have l0 : (bys zid).length = 32 := by rw [bys_length, zid_len]
  have hcut : Lib.cut s [126] = if 0 ≤ Lib.indexByte s 126 then (s.take (Lib.indexByte s 126).toNat, s.drop ((Lib.indexByte s 126).toNat + 1), true) else (s, [], false) := by
    unfold Lib.cut
    rw [Lib.index_one]
    rfl
  refine call_k Tryz.func76 k76 Tryz.ntmps76 (Nat.le_of_ble_eq_true rfl) ?_
  (repeat (first | refine g_sq ?_ | refine g_rg ?_ | refine g_r0 ?_ | refine g_ok rfl rfl ?_ | refine g_no rfl ?_ | refine g_no0 rfl ?_ | refine g_bk ?_ | refine g_b ?_ | refine g_sk ?_ | refine g_cT rfl ?_ | refine g_cF rfl ?_ | refine g_x rfl ?_ | refine g_lb ?_))
  refine g_ef rfl (ef_al hS fun b3 w1 hS => ?_)
  replace hS : St w (fun _ => False) w1 [cel b3 (bys zid) 35] := hS
  (repeat (first | refine g_sq ?_ | refine g_rg ?_ | refine g_r0 ?_ | refine g_ok rfl rfl ?_ | refine g_no rfl ?_ | refine g_no0 rfl ?_ | refine g_bk ?_ | refine g_b ?_ | refine g_sk ?_ | refine g_cT rfl ?_ | refine g_cF rfl ?_ | refine g_x rfl ?_ | refine g_lb ?_))
  rw [esz]
  refine g_rq rfl rfl (in64 (by simp only [arv]; omega)) ?_
  (repeat (first | refine g_sq ?_ | refine g_rg ?_ | refine g_r0 ?_ | refine g_ok rfl rfl ?_ | refine g_no rfl ?_ | refine g_no0 rfl ?_ | refine g_bk ?_ | refine g_b ?_ | refine g_sk ?_ | refine g_cT rfl ?_ | refine g_cF rfl ?_ | refine g_x rfl ?_ | refine g_lb ?_))
  refine g_lp (ι := Nat) (fun k => [(0, sv s), (3, dp b3), (6, .int .i64 (atv s (s.length - k))), (7, .int .i64 ((s.length : Int) - 1 - (k : Int)))]) (fun k w' => k ≤ s.length ∧ St w (fun _ => False) w' [cel b3 (bys zid) 35]) (fun k => s.length - k) 0
    ⟨rfl, rfl, by rw [Nat.sub_zero, atv_end]; rfl, by show some (Value.int .i64 _) = some (Value.int .i64 _); congr 2; simp only [arv]; omega, trivial⟩ ⟨Nat.zero_le _, hS⟩ ?_
  clear hS
  rintro k w1 ⟨hk, hS⟩
  (repeat (first | refine g_sq ?_ | refine g_rg ?_ | refine g_r0 ?_ | refine g_ok rfl rfl ?_ | refine g_no rfl ?_ | refine g_no0 rfl ?_ | refine g_bk ?_ | refine g_b ?_ | refine g_sk ?_ | refine g_cT rfl ?_ | refine g_cF rfl ?_ | refine g_x rfl ?_ | refine g_lb ?_))
  (refine g_cd rfl (fun hlt => ?_) (fun hlt => ?_) <;> simp only [cmv, arv, Bool.not_eq_true', Bool.not_eq_false', decide_eq_true_eq, decide_eq_false_iff_not] at hlt)
  · have hlt : k < s.length := by omega
    have ei : ((s.length : Int) - 1 - (k : Int)) = ((s.length - (k + 1) : Nat) : Int) := by omega
    rw [ei]
    have hi : s.length - (k + 1) < s.length := by omega
    have es : s.length - (k + 1) + 1 = s.length - k := by omega
    (repeat (first | refine g_sq ?_ | refine g_rg ?_ | refine g_r0 ?_ | refine g_ok rfl rfl ?_ | refine g_no rfl ?_ | refine g_no0 rfl ?_ | refine g_bk ?_ | refine g_b ?_ | refine g_sk ?_ | refine g_cT rfl ?_ | refine g_cF rfl ?_ | refine g_x rfl ?_ | refine g_lb ?_))
    refine g_rq rfl rfl ⟨by omega, by omega⟩ ?_
    rw [gd_at hi]
    (repeat (first | refine g_sq ?_ | refine g_rg ?_ | refine g_r0 ?_ | refine g_ok rfl rfl ?_ | refine g_no rfl ?_ | refine g_no0 rfl ?_ | refine g_bk ?_ | refine g_b ?_ | refine g_sk ?_ | refine g_cT rfl ?_ | refine g_cF rfl ?_ | refine g_x rfl ?_ | refine g_lb ?_))
    rw [show (126 : Int) = ((126 : Nat) : Int) from rfl, ceq_c (by decide)]
    cases hq : decide (s[s.length - (k + 1)] = UInt8.ofNat 126)
    · have hq2 := of_decide_eq_false hq
      (repeat (first | refine g_sq ?_ | refine g_rg ?_ | refine g_r0 ?_ | refine g_ok rfl rfl ?_ | refine g_no rfl ?_ | refine g_no0 rfl ?_ | refine g_bk ?_ | refine g_b ?_ | refine g_sk ?_ | refine g_cT rfl ?_ | refine g_cF rfl ?_ | refine g_x rfl ?_ | refine g_lb ?_))
      refine g_rq rfl rfl (in64 (by simp only [arv]; omega)) ?_
      (repeat (first | refine g_sq ?_ | refine g_rg ?_ | refine g_r0 ?_ | refine g_ok rfl rfl ?_ | refine g_no rfl ?_ | refine g_no0 rfl ?_ | refine g_bk ?_ | refine g_b ?_ | refine g_sk ?_ | refine g_cT rfl ?_ | refine g_cF rfl ?_ | refine g_x rfl ?_ | refine g_lb ?_))
      refine g_l (k + 1) ⟨rfl, rfl, ?_, ?_, trivial⟩ ⟨by omega, hS⟩ (by omega)
      · rw [atv_miss hi hq2, es]
        rfl
      · show some (Value.int .i64 _) = some (Value.int .i64 _)
        congr 2
        simp only [arv]
        omega
    · have hq2 := of_decide_eq_true hq
      (repeat (first | refine g_sq ?_ | refine g_rg ?_ | refine g_r0 ?_ | refine g_ok rfl rfl ?_ | refine g_no rfl ?_ | refine g_no0 rfl ?_ | refine g_bk ?_ | refine g_b ?_ | refine g_sk ?_ | refine g_cT rfl ?_ | refine g_cF rfl ?_ | refine g_x rfl ?_ | refine g_lb ?_))
      refine g_rq rfl rfl (in64 (by simp only [arv]; omega)) ?_
      (repeat (first | refine g_sq ?_ | refine g_rg ?_ | refine g_r0 ?_ | refine g_ok rfl rfl ?_ | refine g_no rfl ?_ | refine g_no0 rfl ?_ | refine g_bk ?_ | refine g_b ?_ | refine g_sk ?_ | refine g_cT rfl ?_ | refine g_cF rfl ?_ | refine g_x rfl ?_ | refine g_lb ?_))
      refine g_l (k + 1) ⟨rfl, rfl, ?_, ?_, trivial⟩ ⟨by omega, hS⟩ (by omega)
      · rw [atv_hit hi hq2]
        rfl
      · show some (Value.int .i64 _) = some (Value.int .i64 _)
        congr 2
        simp only [arv]
        omega
  have ek : s.length - k = 0 := by omega
  rw [ek, atv_0]
  clear ek hlt hk
  have err : nmE (Lib.cut s [126]).1 ≠ 0 ∨ ((Lib.cut s [126]).2.2 = true ∧ unhE (Lib.cut s [126]).2.1 ≠ 0) → spN s = ([], zid, false, 40) := fun h1 => by
    unfold spN
    rw [if_pos h1.symm]
  have fine : nmE (Lib.cut s [126]).1 = 0 → ((Lib.cut s [126]).2.2 = true → unhE (Lib.cut s [126]).2.1 = 0) → spN s = ((Lib.cut s [126]).1, if (Lib.cut s [126]).2.2 = true then unhV (Lib.cut s [126]).2.1 else zid, (Lib.cut s [126]).2.2, 0) := fun h1 h2 => by
    unfold spN
    rw [if_neg]
    rintro (⟨h3, h4⟩ | h3)
    · exact h4 (h2 h3)
    · exact h3 h1
  have nm40 : ∀ t : Bs, nmE t ≠ 0 → nmE t = 40 := fun t h1 => by
    unfold nmE at h1 ⊢
    split
    · rename_i h2; rw [if_pos h2] at h1; exact absurd rfl h1
    · rfl
  have hge := Lib.indexByte_ge s 126
  by_cases hj : 0 ≤ Lib.indexByte s 126
  · rw [if_pos hj] at hcut
    have hjl := ibx_lt hj
    obtain ⟨j, hje⟩ := Int.eq_ofNat_of_zero_le hj
    rw [hje] at hcut hjl ⊢
    rw [Int.toNat_natCast] at hcut hjl
    have ej : (arv BinOp.add ((j : Nat) : Int) 1).toNat = j + 1 := by simp only [arv]; omega
    have x1 : (⟨s.toArray⟩ : ByteArray).extract (j + 1) s.length = ⟨(s.drop (j + 1)).toArray⟩ := by
      have := sv_ext s (j + 1) s.length
      rw [List.take_of_length_le (by rw [List.length_drop]; omega)] at this
      exact Value.string.inj this
    have x2 : (⟨s.toArray⟩ : ByteArray).extract 0 j = ⟨(s.take j).toArray⟩ := by
      have := sv_ext s 0 j
      rw [List.drop_zero, Nat.sub_zero] at this
      exact Value.string.inj this
    (repeat (first | refine g_sq ?_ | refine g_rg ?_ | refine g_r0 ?_ | refine g_ok rfl rfl ?_ | refine g_no rfl ?_ | refine g_no0 rfl ?_ | refine g_bk ?_ | refine g_b ?_ | refine g_sk ?_ | refine g_cT rfl ?_ | refine g_cF rfl ?_ | refine g_x rfl ?_ | refine g_lb ?_))
    rw [show cmv BinOp.lss ((j : Nat) : Int) 0 = false by simp only [cmv, decide_eq_false_iff_not]; omega]
    (repeat (first | refine g_sq ?_ | refine g_rg ?_ | refine g_r0 ?_ | refine g_ok rfl rfl ?_ | refine g_no rfl ?_ | refine g_no0 rfl ?_ | refine g_bk ?_ | refine g_b ?_ | refine g_sk ?_ | refine g_cT rfl ?_ | refine g_cF rfl ?_ | refine g_x rfl ?_ | refine g_lb ?_))
    refine g_rq rfl rfl (in64 (by simp only [arv]; omega)) ?_
    refine g_rq rfl rfl ⟨by simp only [arv]; omega, by rw [esz]; simp only [arv]; omega, by rw [esz]; omega⟩ ?_
    rw [ej, esz, Int.toNat_natCast, x1]
    refine g_cl rfl rfl (r_Parse (s := s.drop (j + 1)) fun w1 h' => ?_)
    replace hS := hS.call0.2 _ _ h'
    rw [List.append_nil] at hS
    have l1 : (bys (unhV (s.drop (j + 1)))).length = 32 := by rw [bys_length, unhV_len]
    (repeat (first | refine g_sq ?_ | refine g_rg ?_ | refine g_r0 ?_ | refine g_ok rfl rfl ?_ | refine g_no rfl ?_ | refine g_no0 rfl ?_ | refine g_bk ?_ | refine g_b ?_ | refine g_sk ?_ | refine g_cT rfl ?_ | refine g_cF rfl ?_ | refine g_x rfl ?_ | refine g_lb ?_))
    refine g_ef rfl (ef_al hS fun b8 w1 hS => ?_)
    replace hS : St w (fun _ => False) w1 [cel b3 (bys zid) 35, cel b8 (bys zid) 35] := hS
    refine g_ef0 rfl (ef_st hS 1 rfl rfl rfl l1 (Nat.le_of_eq l0.symm) (bys_one _) fun w1 hS => ?_)
    replace hS := hS.ceq (l' := bys (unhV (s.drop (j + 1)))) 1 rfl (spl_full _ _ (l1.trans l0.symm))
    (repeat (first | refine g_sq ?_ | refine g_rg ?_ | refine g_r0 ?_ | refine g_ok rfl rfl ?_ | refine g_no rfl ?_ | refine g_no0 rfl ?_ | refine g_bk ?_ | refine g_b ?_ | refine g_sk ?_ | refine g_cT rfl ?_ | refine g_cF rfl ?_ | refine g_x rfl ?_ | refine g_lb ?_))
    by_cases hE : unhE (s.drop (j + 1)) = 0
    · rw [hE]
      (repeat (first | refine g_sq ?_ | refine g_rg ?_ | refine g_r0 ?_ | refine g_ok rfl rfl ?_ | refine g_no rfl ?_ | refine g_no0 rfl ?_ | refine g_bk ?_ | refine g_b ?_ | refine g_sk ?_ | refine g_cT rfl ?_ | refine g_cF rfl ?_ | refine g_x rfl ?_ | refine g_lb ?_))
      refine g_rq rfl rfl ⟨by omega, by omega, by rw [esz]; omega⟩ ?_
      rw [show ((0 : Nat) : Int).toNat = 0 from rfl, Int.toNat_natCast, x2]
      refine g_cl rfl rfl (r_Check4 (s := s.take j) fun w1 h' => ?_)
      replace hS := hS.call0.2 _ _ h'
      rw [List.append_nil] at hS
      by_cases hN : nmE (s.take j) = 0
      · rw [fine (by rw [hcut]; exact hN) (fun _ => by rw [hcut]; exact hE), hcut] at h
        rw [hN]
        (repeat (first | refine g_sq ?_ | refine g_rg ?_ | refine g_r0 ?_ | refine g_ok rfl rfl ?_ | refine g_no rfl ?_ | refine g_no0 rfl ?_ | refine g_bk ?_ | refine g_b ?_ | refine g_sk ?_ | refine g_cT rfl ?_ | refine g_cF rfl ?_ | refine g_x rfl ?_ | refine g_lb ?_))
        refine g_dr mixed ?_
        replace hS := hS.drew
        (repeat (first | refine d_ok rfl rfl rfl ?_ | refine d_no rfl rfl ?_))
        refine d_rq rfl rfl rfl ⟨by omega, by omega, by rw [esz]; omega⟩ ?_
        rw [show ((0 : Nat) : Int).toNat = 0 from rfl, Int.toNat_natCast, x2]
        refine d_lm rfl rfl rfl (hS.b 1 rfl) (Nat.le_of_eq l1.symm) ?_
        rw [List.drop_zero, List.take_of_length_le (Nat.le_of_eq l1)]
        (repeat (first | refine d_ok rfl rfl rfl ?_ | refine d_no rfl rfl ?_))
        refine d_e0 rfl rfl ?_
        refine ef_st hS 0 rfl rfl rfl l1 (Nat.le_of_eq l0.symm) (bys_one _) fun w1 hS => ⟨rc_0, ?_⟩
        replace hS := hS.ceq (l' := bys (unhV (s.drop (j + 1)))) 0 rfl (spl_full _ _ (l1.trans l0.symm))
        (repeat (first | refine d_ok rfl rfl rfl ?_ | refine d_no rfl rfl ?_))
        refine d_fin ?_
        (repeat (first | refine g_sq ?_ | refine g_rg ?_ | refine g_r0 ?_ | refine g_ok rfl rfl ?_ | refine g_no rfl ?_ | refine g_no0 rfl ?_ | refine g_bk ?_ | refine g_b ?_ | refine g_sk ?_ | refine g_cT rfl ?_ | refine g_cF rfl ?_ | refine g_x rfl ?_ | refine g_lb ?_))
        refine g_ret (q_c4' (n := 32) rfl rfl (by kernel_rfl) (hS.b 0 rfl) (Nat.le_of_eq l1.symm) rfl rfl ?_)
        rw [List.drop_zero, List.take_of_length_le (Nat.le_of_eq l1)]
        exact h _ (hS.sel [] rfl rfl)
      · rw [err (.inl (by rw [hcut]; exact hN))] at h
        rw [nm40 _ hN]
        (repeat (first | refine g_sq ?_ | refine g_rg ?_ | refine g_r0 ?_ | refine g_ok rfl rfl ?_ | refine g_no rfl ?_ | refine g_no0 rfl ?_ | refine g_bk ?_ | refine g_b ?_ | refine g_sk ?_ | refine g_cT rfl ?_ | refine g_cF rfl ?_ | refine g_x rfl ?_ | refine g_lb ?_))
        refine g_ef0 rfl (ef_st (u := .agg ⟨bys zid⟩) hS 0 rfl rfl rfl l0 (Nat.le_of_eq l0.symm) (by decide) fun w1 hS => ?_)
        replace hS := hS.ceq (l' := bys zid) 0 rfl (spl_full _ _ rfl)
        (repeat (first | refine g_sq ?_ | refine g_rg ?_ | refine g_r0 ?_ | refine g_ok rfl rfl ?_ | refine g_no rfl ?_ | refine g_no0 rfl ?_ | refine g_bk ?_ | refine g_b ?_ | refine g_sk ?_ | refine g_cT rfl ?_ | refine g_cF rfl ?_ | refine g_x rfl ?_ | refine g_lb ?_))
        refine g_ret (q_c4' (n := 32) rfl rfl (by kernel_rfl) (hS.b 0 rfl) (Nat.le_of_eq l0.symm) rfl rfl ?_)
        exact h _ (hS.sel [] rfl rfl)
    · have hE2 : unhE (s.drop (j + 1)) = 30 := by
        unfold unhE at hE ⊢
        split
        · rename_i h2; rw [if_pos h2] at hE; exact absurd rfl hE
        · rfl
      rw [err (.inr (by rw [hcut]; exact ⟨rfl, hE⟩))] at h
      rw [hE2]
      (repeat (first | refine g_sq ?_ | refine g_rg ?_ | refine g_r0 ?_ | refine g_ok rfl rfl ?_ | refine g_no rfl ?_ | refine g_no0 rfl ?_ | refine g_bk ?_ | refine g_b ?_ | refine g_sk ?_ | refine g_cT rfl ?_ | refine g_cF rfl ?_ | refine g_x rfl ?_ | refine g_lb ?_))
      refine g_ef0 rfl (ef_st (u := .agg ⟨bys zid⟩) hS 0 rfl rfl rfl l0 (Nat.le_of_eq l0.symm) (by decide) fun w1 hS => ?_)
      replace hS := hS.ceq (l' := bys zid) 0 rfl (spl_full _ _ rfl)
      (repeat (first | refine g_sq ?_ | refine g_rg ?_ | refine g_r0 ?_ | refine g_ok rfl rfl ?_ | refine g_no rfl ?_ | refine g_no0 rfl ?_ | refine g_bk ?_ | refine g_b ?_ | refine g_sk ?_ | refine g_cT rfl ?_ | refine g_cF rfl ?_ | refine g_x rfl ?_ | refine g_lb ?_))
      refine g_ret (q_c4' (n := 32) rfl rfl (by kernel_rfl) (hS.b 0 rfl) (Nat.le_of_eq l0.symm) rfl rfl ?_)
      exact h _ (hS.sel [] rfl rfl)
  · rw [if_neg hj] at hcut
    have hm1 : Lib.indexByte s 126 = -1 := by omega
    rw [hm1]
    (repeat (first | refine g_sq ?_ | refine g_rg ?_ | refine g_r0 ?_ | refine g_ok rfl rfl ?_ | refine g_no rfl ?_ | refine g_no0 rfl ?_ | refine g_bk ?_ | refine g_b ?_ | refine g_sk ?_ | refine g_cT rfl ?_ | refine g_cF rfl ?_ | refine g_x rfl ?_ | refine g_lb ?_))
    refine g_cl rfl rfl (r_Check4 (s := s) fun w1 h' => ?_)
    replace hS := hS.call0.2 _ _ h'
    rw [List.append_nil] at hS
    by_cases hN : nmE s = 0
    · rw [fine (by rw [hcut]; exact hN) (fun h1 => by rw [hcut] at h1; cases h1), hcut] at h
      rw [hN]
      (repeat (first | refine g_sq ?_ | refine g_rg ?_ | refine g_r0 ?_ | refine g_ok rfl rfl ?_ | refine g_no rfl ?_ | refine g_no0 rfl ?_ | refine g_bk ?_ | refine g_b ?_ | refine g_sk ?_ | refine g_cT rfl ?_ | refine g_cF rfl ?_ | refine g_x rfl ?_ | refine g_lb ?_))
      refine g_ef0 rfl (ef_st (u := .agg ⟨bys zid⟩) hS 0 rfl rfl rfl l0 (Nat.le_of_eq l0.symm) (by decide) fun w1 hS => ?_)
      replace hS := hS.ceq (l' := bys zid) 0 rfl (spl_full _ _ rfl)
      (repeat (first | refine g_sq ?_ | refine g_rg ?_ | refine g_r0 ?_ | refine g_ok rfl rfl ?_ | refine g_no rfl ?_ | refine g_no0 rfl ?_ | refine g_bk ?_ | refine g_b ?_ | refine g_sk ?_ | refine g_cT rfl ?_ | refine g_cF rfl ?_ | refine g_x rfl ?_ | refine g_lb ?_))
      refine g_ret (q_c4' (n := 32) rfl rfl (by kernel_rfl) (hS.b 0 rfl) (Nat.le_of_eq l0.symm) rfl rfl ?_)
      exact h _ (hS.sel [] rfl rfl)
    · rw [err (.inl (by rw [hcut]; exact hN))] at h
      rw [nm40 _ hN]
      (repeat (first | refine g_sq ?_ | refine g_rg ?_ | refine g_r0 ?_ | refine g_ok rfl rfl ?_ | refine g_no rfl ?_ | refine g_no0 rfl ?_ | refine g_bk ?_ | refine g_b ?_ | refine g_sk ?_ | refine g_cT rfl ?_ | refine g_cF rfl ?_ | refine g_x rfl ?_ | refine g_lb ?_))
      refine g_ef0 rfl (ef_st (u := .agg ⟨bys zid⟩) hS 0 rfl rfl rfl l0 (Nat.le_of_eq l0.symm) (by decide) fun w1 hS => ?_)
      replace hS := hS.ceq (l' := bys zid) 0 rfl (spl_full _ _ rfl)
      (repeat (first | refine g_sq ?_ | refine g_rg ?_ | refine g_r0 ?_ | refine g_ok rfl rfl ?_ | refine g_no rfl ?_ | refine g_no0 rfl ?_ | refine g_bk ?_ | refine g_b ?_ | refine g_sk ?_ | refine g_cT rfl ?_ | refine g_cF rfl ?_ | refine g_x rfl ?_ | refine g_lb ?_))
      refine g_ret (q_c4' (n := 32) rfl rfl (by kernel_rfl) (hS.b 0 rfl) (Nat.le_of_eq l0.symm) rfl rfl ?_)
      exact h _ (hS.sel [] rfl rfl)
/-- a listed name and tip, by the document -/
def oneR (x : Li) : Bs × Bool × Int := if (ent x).2.2 = true then ((ent x).1, (ent x).2.1, 0) else ([], false, 200)
theorem r_one {x : Li} (hx : x.1.length ≤ 4294967280) (h : ∀ w', St w (fun _ => False) w' [] → K (.tuple ⟨[sv (oneR x).1, .bool (oneR x).2.1, .int .i64 (oneR x).2.2]⟩) w') : CK Tryz.prog 57 [.agg ⟨lc x⟩] w K := by
  have hS := St.nil w (fun _ => False)
  have l0 : (bys zid).length = 32 := by rw [bys_length, zid_len]
  have l1 : (bys (spN x.1).2.1).length = 32 := by rw [bys_length, spN_len]
  have l2 : (bys x.2.1).length = 32 := ic_len x.2
  have d2 : ((lc x).drop (0 + 1)).take 32 = bys x.2.1 := by
    show (bys x.2.1).take 32 = _
    rw [List.take_of_length_le (Nat.le_of_eq l2)]
  refine call_k Tryz.func57 k57 Tryz.ntmps57 (Nat.le_of_ble_eq_true rfl) ?_
  (repeat (first | refine g_sq ?_ | refine g_rg ?_ | refine g_r0 ?_ | refine g_ok rfl rfl ?_ | refine g_no rfl ?_ | refine g_no0 rfl ?_ | refine g_bk ?_ | refine g_b ?_ | refine g_sk ?_ | refine g_cT rfl ?_ | refine g_cF rfl ?_ | refine g_x rfl ?_ | refine g_lb ?_))
  refine g_ef rfl (ef_bx hS rfl fun b1 w1 hS => ?_)
  replace hS : St w (fun _ => False) w1 [cel b1 (lc x) 41] := hS
  (repeat (first | refine g_sq ?_ | refine g_rg ?_ | refine g_r0 ?_ | refine g_ok rfl rfl ?_ | refine g_no rfl ?_ | refine g_no0 rfl ?_ | refine g_bk ?_ | refine g_b ?_ | refine g_sk ?_ | refine g_cT rfl ?_ | refine g_cF rfl ?_ | refine g_x rfl ?_ | refine g_lb ?_))
  refine g_l1 rfl rfl (hS.b  0 rfl) rfl ?_
  refine g_cl rfl rfl (r_Split (s := x.1) (fun w1 h' => ?_) hx)
  replace hS := hS.call0.2 _ _ h'
  rw [List.append_nil] at hS
  (repeat (first | refine g_sq ?_ | refine g_rg ?_ | refine g_r0 ?_ | refine g_ok rfl rfl ?_ | refine g_no rfl ?_ | refine g_no0 rfl ?_ | refine g_bk ?_ | refine g_b ?_ | refine g_sk ?_ | refine g_cT rfl ?_ | refine g_cF rfl ?_ | refine g_x rfl ?_ | refine g_lb ?_))
  refine g_ef rfl (ef_al hS fun b6 w1 hS => ?_)
  replace hS : St w (fun _ => False) w1 [cel b1 (lc x) 41, cel b6 (bys zid) 35] := hS
  (repeat (first | refine g_sq ?_ | refine g_rg ?_ | refine g_r0 ?_ | refine g_ok rfl rfl ?_ | refine g_no rfl ?_ | refine g_no0 rfl ?_ | refine g_bk ?_ | refine g_b ?_ | refine g_sk ?_ | refine g_cT rfl ?_ | refine g_cF rfl ?_ | refine g_x rfl ?_ | refine g_lb ?_))
  refine g_ef0 rfl (ef_st (u := .agg ⟨bys (spN x.1).2.1⟩) hS 1 rfl rfl rfl l1 (Nat.le_of_eq l0.symm) (bys_one _) fun w1 hS => ?_)
  replace hS := hS.ceq (l' := bys (spN x.1).2.1) 1 rfl (spl_full _ _ (l1.trans l0.symm))
  (repeat (first | refine g_sq ?_ | refine g_rg ?_ | refine g_r0 ?_ | refine g_ok rfl rfl ?_ | refine g_no rfl ?_ | refine g_no0 rfl ?_ | refine g_bk ?_ | refine g_b ?_ | refine g_sk ?_ | refine g_cT rfl ?_ | refine g_cF rfl ?_ | refine g_x rfl ?_ | refine g_lb ?_))
  have hent : ent x = ((spN x.1).1, (spN x.1).2.2.1, decide ((spN x.1).2.2.2 = 0) && (!(spN x.1).2.2.1 || decide ((spN x.1).2.1 = x.2.1))) := rfl
  by_cases he : (spN x.1).2.2.2 = 0
  · rw [show cmv BinOp.neq (spN x.1).2.2.2 0 = false by simp [cmv, he]]
    rw [he, decide_eq_true rfl, Bool.true_and] at hent
    cases hc : (spN x.1).2.2.1
    · rw [hc] at hent
      have ho : oneR x = ((spN x.1).1, false, 0) := by unfold oneR; rw [hent]; rfl
      rw [ho] at h
      (repeat (first | refine g_sq ?_ | refine g_rg ?_ | refine g_r0 ?_ | refine g_ok rfl rfl ?_ | refine g_no rfl ?_ | refine g_no0 rfl ?_ | refine g_bk ?_ | refine g_b ?_ | refine g_sk ?_ | refine g_cT rfl ?_ | refine g_cF rfl ?_ | refine g_x rfl ?_ | refine g_lb ?_))
      exact g_ret (q_3 rfl rfl rfl (h _ (hS.sel [] rfl rfl)))
    · rw [hc] at hent
      (repeat (first | refine g_sq ?_ | refine g_rg ?_ | refine g_r0 ?_ | refine g_ok rfl rfl ?_ | refine g_no rfl ?_ | refine g_no0 rfl ?_ | refine g_bk ?_ | refine g_b ?_ | refine g_sk ?_ | refine g_cT rfl ?_ | refine g_cF rfl ?_ | refine g_x rfl ?_ | refine g_lb ?_))
      refine g_lm rfl rfl (hS.b 1 rfl) (Nat.le_of_eq l1.symm) ?_
      (repeat (first | refine g_sq ?_ | refine g_rg ?_ | refine g_r0 ?_ | refine g_ok rfl rfl ?_ | refine g_no rfl ?_ | refine g_no0 rfl ?_ | refine g_bk ?_ | refine g_b ?_ | refine g_sk ?_ | refine g_cT rfl ?_ | refine g_cF rfl ?_ | refine g_x rfl ?_ | refine g_lb ?_))
      refine g_lm rfl rfl (hS.b 0 rfl) (by rw [lc_len]; decide) ?_
      rw [List.drop_zero, List.take_of_length_le (Nat.le_of_eq l1), d2]
      refine g_aq (spN x.1).2.1 x.2.1 rfl rfl rfl (spN_len _) x.2.2 ?_
      cases hq : decide ((spN x.1).2.1 = x.2.1)
      · rw [show aqv .neq (spN x.1).2.1 x.2.1 = true by simp only [aqv]; rw [hq]; rfl]
        rw [hq] at hent
        have ho : oneR x = ([], false, 200) := by unfold oneR; rw [hent]; rfl
        rw [ho] at h
        (repeat (first | refine g_sq ?_ | refine g_rg ?_ | refine g_r0 ?_ | refine g_ok rfl rfl ?_ | refine g_no rfl ?_ | refine g_no0 rfl ?_ | refine g_bk ?_ | refine g_b ?_ | refine g_sk ?_ | refine g_cT rfl ?_ | refine g_cF rfl ?_ | refine g_x rfl ?_ | refine g_lb ?_))
        exact g_ret (q_3 rfl rfl rfl (h _ (hS.sel [] rfl rfl)))
      · rw [show aqv .neq (spN x.1).2.1 x.2.1 = false by simp only [aqv]; rw [hq]; rfl]
        rw [hq] at hent
        have ho : oneR x = ((spN x.1).1, true, 0) := by unfold oneR; rw [hent]; rfl
        rw [ho] at h
        (repeat (first | refine g_sq ?_ | refine g_rg ?_ | refine g_r0 ?_ | refine g_ok rfl rfl ?_ | refine g_no rfl ?_ | refine g_no0 rfl ?_ | refine g_bk ?_ | refine g_b ?_ | refine g_sk ?_ | refine g_cT rfl ?_ | refine g_cF rfl ?_ | refine g_x rfl ?_ | refine g_lb ?_))
        exact g_ret (q_3 rfl rfl rfl (h _ (hS.sel [] rfl rfl)))
  · rw [show cmv BinOp.neq (spN x.1).2.2.2 0 = true by simp [cmv, he]]
    rw [decide_eq_false he, Bool.false_and] at hent
    have ho : oneR x = ([], false, 200) := by unfold oneR; rw [hent]; rfl
    rw [ho] at h
    cases hc : (spN x.1).2.2.1
    · (repeat (first | refine g_sq ?_ | refine g_rg ?_ | refine g_r0 ?_ | refine g_ok rfl rfl ?_ | refine g_no rfl ?_ | refine g_no0 rfl ?_ | refine g_bk ?_ | refine g_b ?_ | refine g_sk ?_ | refine g_cT rfl ?_ | refine g_cF rfl ?_ | refine g_x rfl ?_ | refine g_lb ?_))
      exact g_ret (q_3 rfl rfl rfl (h _ (hS.sel [] rfl rfl)))
    · (repeat (first | refine g_sq ?_ | refine g_rg ?_ | refine g_r0 ?_ | refine g_ok rfl rfl ?_ | refine g_no rfl ?_ | refine g_no0 rfl ?_ | refine g_bk ?_ | refine g_b ?_ | refine g_sk ?_ | refine g_cT rfl ?_ | refine g_cF rfl ?_ | refine g_x rfl ?_ | refine g_lb ?_))
      exact g_ret (q_3 rfl rfl rfl (h _ (hS.sel [] rfl rfl)))
end
end Go.Proofs.YtibofabkpgigoaaGreatDoor
namespace Go.Proofs.YtibofabkpgigoaaGreatDoor
open Go.En

theorem nbr_trans {x y z : Li} (h : nbr x y) (k : nbr y z) : nbr x z := by
  refine ⟨ble_trans h.1 k.1, fun e => ?_⟩
  have h1 := h.1
  rw [e] at h1
  exact k.2 (ble_anti k.1 h1).symm.symm
theorem take_nbr {d : List Li} {k : Nat} (hp : (d.take k).Pairwise nbr) (hk : k < d.length) (h : ∀ h0 : 0 < k, nbr (d[k - 1]'(by omega)) d[k]) : (d.take (k + 1)).Pairwise nbr := by
  rw [List.take_succ_eq_append_getElem hk, List.pairwise_append]
  refine ⟨hp, List.pairwise_singleton _ _, fun x hx y hy => ?_⟩
  rw [List.mem_singleton.1 hy]
  obtain ⟨i, hi, rfl⟩ := List.mem_take_iff_getElem.1 hx
  have h0 : 0 < k := by omega
  by_cases e : i = k - 1
  · subst e; exact h h0
  · refine nbr_trans ?_ (h h0)
    have h1 := List.pairwise_iff_getElem.1 hp i (k - 1) (by rw [List.length_take]; omega) (by rw [List.length_take]; omega) (by omega)
    rw [List.getElem_take, List.getElem_take] at h1
    exact h1
theorem nbr_lt (x y : Li) : nbr x y ↔ Lib.compareBytes x.1 y.1 < 0 := by
  unfold nbr ble
  rw [decide_eq_true_eq]
  constructor
  · rintro ⟨h1, h2⟩
    have : Lib.compareBytes x.1 y.1 ≠ 0 := fun e => h2 (cb_zero e)
    omega
  · intro h
    refine ⟨by omega, fun e => ?_⟩
    rw [e, cb_self] at h
    omega
theorem chk_of {d : List Li} (h1 : d.Pairwise nbr) (h2 : ∀ x ∈ d, (ent x).2.2 = true) (h3 : ∀ x ∈ d, ∀ y ∈ d, (ent x).1 = (ent y).1 → (ent x).2.1 = (ent y).2.1) : chk d = true := by
  unfold chk
  simp only [Bool.and_eq_true, List.all_eq_true, Bool.or_eq_true, Bool.not_eq_true', decide_eq_true_eq]
  refine ⟨h1, h2, fun x hx => ?_⟩
  cases hc : (ent x).2.1
  · exact .inl rfl
  · refine .inr fun y hy => ?_
    by_cases e : (ent y).1 = (ent x).1
    · left
      rw [h3 y hy x hx e, hc]
    · exact .inr e
theorem chk_conf2 {d : List Li} (h : chk d = true) {x y : Li} (hx : x ∈ d) (hy : y ∈ d) (e : (ent x).1 = (ent y).1) : (ent x).2.1 = (ent y).2.1 := by
  unfold chk at h
  simp only [Bool.and_eq_true, List.all_eq_true, Bool.or_eq_true, Bool.not_eq_true', decide_eq_true_eq] at h
  have h3 := h.2.2
  have key : ∀ x ∈ d, ∀ y ∈ d, (ent x).1 = (ent y).1 → (ent x).2.1 = true → (ent y).2.1 = true := fun x hx y hy e hc => by
    rcases h3 x hx with h4 | h4
    · rw [hc] at h4; cases h4
    · rcases h4 y hy with h5 | h5
      · exact h5
      · exact absurd e.symm h5
  cases h1 : (ent x).2.1
  · cases h2 : (ent y).2.1
    · rfl
    · rw [key y hy x hx e.symm h2] at h1; cases h1
  · exact (key x hx y hy e h1).symm
theorem oneR_ok {x : Li} (h : (ent x).2.2 = true) : oneR x = ((ent x).1, (ent x).2.1, 0) := by unfold oneR; rw [if_pos h]
theorem oneR_no {x : Li} (h : (ent x).2.2 = false) : oneR x = ([], false, 200) := by unfold oneR; rw [if_neg (by rw [h]; decide)]
theorem rd_at0 {l : List Value} {off n c : Nat} {d : List Li} (h : (l.drop off).take (n * 33) = fl lc d) (hn : d.length = n) {i : Nat} (hi : i < d.length) : l[off + i * 33]? = some (sv d[i].1) := by
  have h1 := rd_at lc_len h hn hi
  have h2 := congrArg (fun l : List Value => l[0]?) h1
  simp only [List.getElem?_take, List.getElem?_drop] at h2
  rw [if_pos (by decide)] at h2
  exact h2
section
variable {w w0 : World} {S0 : Nat → Prop} {L B : List Res} {K : Value → World → Prop} {s : Bs} {E0 E1 : Nat}
set_option maxHeartbeats 4000000 in
theorem r_Check20 {d : List Li} {v : Value} {n : Nat} (hd : d.length = n) (hn : n < 2000000) (hlen : ∀ x ∈ d, x.1.length < 4294967281) (hr : Rd v E0 33 n (fl lc d) w) (h : ∀ w', St w (fun _ => False) w' [] → K (.int .i64 (eE d)) w') : CK Tryz.prog 26 [v] w K := by
  have hS := St.nil w (fun _ => False)
  have hrr : ∀ {L : List Res} (w' : World), St w (fun _ => False) w' L → Rd v E0 33 n (fl lc d) w' := fun w' hS => hr.same fun b hb => hS.fr.kept b (hr.lt b hb) (fun h => h)
  have bad : chk d = false → ∀ w', St w (fun _ => False) w' [] → K (.int .i64 200) w' := fun e w' hS => by
    have e1 : eE d = 200 := by unfold eE; rw [if_neg (by rw [e]; decide)]
    rw [e1] at h
    exact h w' hS
  obtain ⟨a, c, rfl⟩ := hr.form
  refine call_k Tryz.func26 k26 Tryz.ntmps26 (Nat.le_of_ble_eq_true rfl) ?_
  (repeat (first | refine g_sq ?_ | refine g_rg ?_ | refine g_r0 ?_ | refine g_ok rfl rfl ?_ | refine g_no rfl ?_ | refine g_no0 rfl ?_ | refine g_bk ?_ | refine g_b ?_ | refine g_sk ?_ | refine g_cT rfl ?_ | refine g_cF rfl ?_ | refine g_x rfl ?_ | refine g_lb ?_))
  refine g_lp (ι := Nat) (fun k => [(0, .slice a n c), (3, .int .i64 k)]) (fun k w' => k ≤ n ∧ (d.take k).Pairwise nbr ∧ (∀ j (hj : j < d.length), j < k → (ent d[j]).2.2 = true) ∧ (∀ i j (hi : i < d.length) (hj : j < d.length), i < k → j < k → (ent d[i]).1 = (ent d[j]).1 → (ent d[i]).2.1 = (ent d[j]).2.1) ∧ St w (fun _ => False) w' []) (fun k => n - k) 0
    ⟨rfl, rfl, trivial⟩ ⟨Nat.zero_le _, List.Pairwise.nil, fun j _ h => absurd h (Nat.not_lt_zero j), fun i j _ _ h => absurd h (Nat.not_lt_zero i), hS⟩ ?_
  clear hS
  rintro k w1 ⟨hk, hA, hB, hC, hS⟩
  (repeat (first | refine g_sq ?_ | refine g_rg ?_ | refine g_r0 ?_ | refine g_ok rfl rfl ?_ | refine g_no rfl ?_ | refine g_no0 rfl ?_ | refine g_bk ?_ | refine g_b ?_ | refine g_sk ?_ | refine g_cT rfl ?_ | refine g_cF rfl ?_ | refine g_x rfl ?_ | refine g_lb ?_))
  (refine g_cd rfl (fun hlt => ?_) (fun hlt => ?_) <;> simp only [cmv, arv, Bool.not_eq_true', Bool.not_eq_false', decide_eq_true_eq, decide_eq_false_iff_not] at hlt)
  · have hlt : k < d.length := by omega
    obtain ⟨b, off, cap, l, e1, hcap, hl, hx, hb⟩ := Rd.block (hrr _ hS) (by omega)
    cases e1
    have hbd : off + k * 33 + 33 ≤ l.length := by have : (k + 1) * 33 ≤ c * 33 := Nat.mul_le_mul_right 33 (by omega); omega
    (repeat (first | refine g_sq ?_ | refine g_rg ?_ | refine g_r0 ?_ | refine g_ok rfl rfl ?_ | refine g_no rfl ?_ | refine g_no0 rfl ?_ | refine g_bk ?_ | refine g_b ?_ | refine g_sk ?_ | refine g_cT rfl ?_ | refine g_cF rfl ?_ | refine g_x rfl ?_ | refine g_lb ?_))
    refine g_rq rfl rfl ⟨by omega, by omega⟩ ?_
    refine g_lmr rfl rfl hb (by rw [Int.toNat_natCast]; exact hbd) ?_
    rw [Int.toNat_natCast, rd_at lc_len hx hd hlt]
    refine g_cl rfl rfl (r_one (x := d[k]) (by have := hlen _ (List.getElem_mem hlt); omega) fun w1 h' => ?_)
    replace hS := hS.call0.2 _ _ h'
    rw [List.append_nil] at hS
    cases hik : (ent d[k]).2.2
    · rw [oneR_no hik]
      (repeat (first | refine g_sq ?_ | refine g_rg ?_ | refine g_r0 ?_ | refine g_ok rfl rfl ?_ | refine g_no rfl ?_ | refine g_no0 rfl ?_ | refine g_bk ?_ | refine g_b ?_ | refine g_sk ?_ | refine g_cT rfl ?_ | refine g_cF rfl ?_ | refine g_x rfl ?_ | refine g_lb ?_))
      refine g_dr mixed ?_
      replace hS := hS.drew
      (repeat (first | refine d_ok rfl rfl rfl ?_ | refine d_no rfl rfl ?_))
      refine d_fin ?_
      (repeat (first | refine g_sq ?_ | refine g_rg ?_ | refine g_r0 ?_ | refine g_ok rfl rfl ?_ | refine g_no rfl ?_ | refine g_no0 rfl ?_ | refine g_bk ?_ | refine g_b ?_ | refine g_sk ?_ | refine g_cT rfl ?_ | refine g_cF rfl ?_ | refine g_x rfl ?_ | refine g_lb ?_))
      exact g_ret (q_1 rfl (bad (bad_is hlt hik) _ hS))
    · rw [oneR_ok hik]
      (repeat (first | refine g_sq ?_ | refine g_rg ?_ | refine g_r0 ?_ | refine g_ok rfl rfl ?_ | refine g_no rfl ?_ | refine g_no0 rfl ?_ | refine g_bk ?_ | refine g_b ?_ | refine g_sk ?_ | refine g_cT rfl ?_ | refine g_cF rfl ?_ | refine g_x rfl ?_ | refine g_lb ?_))
      refine g_atx (ι := Unit) 2 (fun _ => [(0, .slice (some ⟨b, off, none⟩) n c), (3, .int .i64 k), (4, sv (ent d[k]).1), (5, .bool (ent d[k]).2.1)]) (fun _ w' => (∀ h0 : 0 < k, nbr (d[k - 1]'(by omega)) d[k]) ∧ St w (fun _ => False) w' []) rfl ?_ ?_
      · refine g_dr mixed ?_
        replace hS := hS.drew
        (repeat (first | refine d_ok rfl rfl rfl ?_ | refine d_no rfl rfl ?_))
        (generalize q1 : cmv _ _ _ = q; cases q <;> simp only [cmv, arv, Bool.not_eq_true', Bool.not_eq_false', decide_eq_true_eq, decide_eq_false_iff_not] at q1 <;> first | (exfalso; omega) | skip)
        · (repeat (first | refine d_ok rfl rfl rfl ?_ | refine d_no rfl rfl ?_))
          refine d_fin ?_
          (repeat (first | refine g_sq ?_ | refine g_rg ?_ | refine g_r0 ?_ | refine g_ok rfl rfl ?_ | refine g_no rfl ?_ | refine g_no0 rfl ?_ | refine g_bk ?_ | refine g_b ?_ | refine g_sk ?_ | refine g_cT rfl ?_ | refine g_cF rfl ?_ | refine g_x rfl ?_ | refine g_lb ?_))
          exact g_jx () ⟨rfl, rfl, rfl, rfl, trivial⟩ ⟨fun h0 => by omega, hS⟩
        · obtain ⟨b3, off3, cap3, l3, e3, hcap3, hl3, hx3, hb3⟩ := Rd.block (hrr _ hS) (by omega)
          cases e3
          have ek1 : (arv BinOp.sub (k : Int) 1) = ((k - 1 : Nat) : Int) := by simp only [arv]; omega
          (repeat (first | refine d_ok rfl rfl rfl ?_ | refine d_no rfl rfl ?_))
          refine d_rq rfl rfl rfl (in64 (by rw [ek1]; omega)) ?_
          rw [ek1]
          refine d_rq rfl rfl rfl ⟨by omega, by omega⟩ ?_
          (repeat (first | refine d_ok rfl rfl rfl ?_ | refine d_no rfl rfl ?_))
          refine d_l1r rfl rfl rfl hb3 (by rw [Int.toNat_natCast]; exact rd_at0 (c := c) hx3 hd (show k - 1 < d.length by omega)) ?_
          (repeat (first | refine d_ok rfl rfl rfl ?_ | refine d_no rfl rfl ?_))
          refine d_rq rfl rfl rfl ⟨by omega, by omega⟩ ?_
          (repeat (first | refine d_ok rfl rfl rfl ?_ | refine d_no rfl rfl ?_))
          refine d_l1r rfl rfl rfl hb3 (by rw [Int.toNat_natCast]; exact rd_at0 (c := c) hx3 hd hlt) ?_
          (repeat (first | refine d_ok rfl rfl rfl ?_ | refine d_no rfl rfl ?_))
          refine d_fin ?_
          have hsc : scv .geq (⟨(d[k - 1]'(by omega)).1.toArray⟩ : ByteArray).data.toList (⟨d[k].1.toArray⟩ : ByteArray).data.toList = !decide (Lib.compareBytes (d[k - 1]'(by omega)).1 d[k].1 < 0) := by
            show (!Op.bytesLess _ _) = _
            rw [bless_eq]
          rw [hsc]
          by_cases hlc : Lib.compareBytes (d[k - 1]'(by omega)).1 d[k].1 < 0
          · rw [decide_eq_true hlc]
            (repeat (first | refine g_sq ?_ | refine g_rg ?_ | refine g_r0 ?_ | refine g_ok rfl rfl ?_ | refine g_no rfl ?_ | refine g_no0 rfl ?_ | refine g_bk ?_ | refine g_b ?_ | refine g_sk ?_ | refine g_cT rfl ?_ | refine g_cF rfl ?_ | refine g_x rfl ?_ | refine g_lb ?_))
            exact g_jx () ⟨rfl, rfl, rfl, rfl, trivial⟩ ⟨fun _ => (nbr_lt _ _).2 hlc, hS⟩
          · rw [decide_eq_false hlc]
            (repeat (first | refine g_sq ?_ | refine g_rg ?_ | refine g_r0 ?_ | refine g_ok rfl rfl ?_ | refine g_no rfl ?_ | refine g_no0 rfl ?_ | refine g_bk ?_ | refine g_b ?_ | refine g_sk ?_ | refine g_cT rfl ?_ | refine g_cF rfl ?_ | refine g_x rfl ?_ | refine g_lb ?_))
            refine g_ret (q_1 rfl (bad ?_ _ hS))
            cases hq : chk d
            · rfl
            · have := List.pairwise_iff_getElem.1 (chk_nbr hq) (k - 1) k (by omega) hlt (by omega)
              exact absurd ((nbr_lt _ _).1 this) hlc
      · clear hS
        rintro _ T w1 hT ⟨hN, hS⟩
        refine g_wkc hT ?_
        (repeat (first | refine g_sq ?_ | refine g_rg ?_ | refine g_r0 ?_ | refine g_ok rfl rfl ?_ | refine g_no rfl ?_ | refine g_no0 rfl ?_ | refine g_bk ?_ | refine g_b ?_ | refine g_sk ?_ | refine g_cT rfl ?_ | refine g_cF rfl ?_ | refine g_x rfl ?_ | refine g_lb ?_))
        refine g_lp (ι := Nat) (fun i => [(0, .slice (some ⟨b, off, none⟩) n c), (3, .int .i64 k), (4, sv (ent d[k]).1), (5, .bool (ent d[k]).2.1), (7, .int .i64 i)]) (fun i w' => i ≤ k ∧ (∀ j (hj : j < d.length), j < i → (ent d[j]).1 = (ent d[k]).1 → (ent d[j]).2.1 = (ent d[k]).2.1) ∧ St w (fun _ => False) w' []) (fun i => k - i) 0
          ⟨rfl, rfl, rfl, rfl, rfl, trivial⟩ ⟨Nat.zero_le _, fun j _ h => absurd h (Nat.not_lt_zero j), hS⟩ ?_
        clear hS
        rintro i w1 ⟨hi, hE, hS⟩
        (repeat (first | refine g_sq ?_ | refine g_rg ?_ | refine g_r0 ?_ | refine g_ok rfl rfl ?_ | refine g_no rfl ?_ | refine g_no0 rfl ?_ | refine g_bk ?_ | refine g_b ?_ | refine g_sk ?_ | refine g_cT rfl ?_ | refine g_cF rfl ?_ | refine g_x rfl ?_ | refine g_lb ?_))
        (refine g_cd rfl (fun hli => ?_) (fun hli => ?_) <;> simp only [cmv, arv, Bool.not_eq_true', Bool.not_eq_false', decide_eq_true_eq, decide_eq_false_iff_not] at hli)
        · have hli : i < d.length := by omega
          obtain ⟨b3, off3, cap3, l3, e3, hcap3, hl3, hx3, hb3⟩ := Rd.block (hrr _ hS) (by omega)
          cases e3
          have hbd3 : off + i * 33 + 33 ≤ l3.length := by have : (i + 1) * 33 ≤ c * 33 := Nat.mul_le_mul_right 33 (by omega); omega
          (repeat (first | refine g_sq ?_ | refine g_rg ?_ | refine g_r0 ?_ | refine g_ok rfl rfl ?_ | refine g_no rfl ?_ | refine g_no0 rfl ?_ | refine g_bk ?_ | refine g_b ?_ | refine g_sk ?_ | refine g_cT rfl ?_ | refine g_cF rfl ?_ | refine g_x rfl ?_ | refine g_lb ?_))
          refine g_rq rfl rfl ⟨by omega, by omega⟩ ?_
          refine g_lmr rfl rfl hb3 (by rw [Int.toNat_natCast]; exact hbd3) ?_
          rw [Int.toNat_natCast, rd_at lc_len hx3 hd hli]
          refine g_cl rfl rfl (r_one (x := d[i]) (by have := hlen _ (List.getElem_mem hli); omega) fun w1 h' => ?_)
          replace hS := hS.call0.2 _ _ h'
          rw [List.append_nil] at hS
          rw [oneR_ok (hB i hli (by omega))]
          (repeat (first | refine g_sq ?_ | refine g_rg ?_ | refine g_r0 ?_ | refine g_ok rfl rfl ?_ | refine g_no rfl ?_ | refine g_no0 rfl ?_ | refine g_bk ?_ | refine g_b ?_ | refine g_sk ?_ | refine g_cT rfl ?_ | refine g_cF rfl ?_ | refine g_x rfl ?_ | refine g_lb ?_))
          have next : ((ent d[i]).1 = (ent d[k]).1 → (ent d[i]).2.1 = (ent d[k]).2.1) → ∀ j (hj : j < d.length), j < i + 1 → (ent d[j]).1 = (ent d[k]).1 → (ent d[j]).2.1 = (ent d[k]).2.1 := fun h0 j hj hji => by
            by_cases e : j = i
            · subst e; exact h0
            · exact hE j hj (by omega)
          generalize hq : decide ((⟨(ent d[i]).1.toArray⟩ : ByteArray).data.toList = (⟨(ent d[k]).1.toArray⟩ : ByteArray).data.toList) = q
          have hq2 : decide ((ent d[i]).1 = (ent d[k]).1) = q := hq
          cases q
          · (repeat (first | refine g_sq ?_ | refine g_rg ?_ | refine g_r0 ?_ | refine g_ok rfl rfl ?_ | refine g_no rfl ?_ | refine g_no0 rfl ?_ | refine g_bk ?_ | refine g_b ?_ | refine g_sk ?_ | refine g_cT rfl ?_ | refine g_cF rfl ?_ | refine g_x rfl ?_ | refine g_lb ?_))
            refine g_rq rfl rfl (in64 (by simp only [arv]; omega)) ?_
            (repeat (first | refine g_sq ?_ | refine g_rg ?_ | refine g_r0 ?_ | refine g_ok rfl rfl ?_ | refine g_no rfl ?_ | refine g_no0 rfl ?_ | refine g_bk ?_ | refine g_b ?_ | refine g_sk ?_ | refine g_cT rfl ?_ | refine g_cF rfl ?_ | refine g_x rfl ?_ | refine g_lb ?_))
            exact g_l (i + 1) ⟨rfl, rfl, rfl, rfl, rfl, trivial⟩ ⟨by omega, next (fun e => absurd e (of_decide_eq_false hq2)), hS⟩ (by omega)
          · have hre := of_decide_eq_true hq2
            by_cases hcf : (ent d[i]).2.1 = (ent d[k]).2.1
            · (repeat (first | refine g_sq ?_ | refine g_rg ?_ | refine g_r0 ?_ | refine g_ok rfl rfl ?_ | refine g_no rfl ?_ | refine g_no0 rfl ?_ | refine g_bk ?_ | refine g_b ?_ | refine g_sk ?_ | refine g_cT rfl ?_ | refine g_cF rfl ?_ | refine g_x rfl ?_ | refine g_lb ?_))
              rw [show (!((ent d[k]).2.1 == (ent d[i]).2.1)) = false by rw [hcf]; simp]
              (repeat (first | refine g_sq ?_ | refine g_rg ?_ | refine g_r0 ?_ | refine g_ok rfl rfl ?_ | refine g_no rfl ?_ | refine g_no0 rfl ?_ | refine g_bk ?_ | refine g_b ?_ | refine g_sk ?_ | refine g_cT rfl ?_ | refine g_cF rfl ?_ | refine g_x rfl ?_ | refine g_lb ?_))
              refine g_rq rfl rfl (in64 (by simp only [arv]; omega)) ?_
              (repeat (first | refine g_sq ?_ | refine g_rg ?_ | refine g_r0 ?_ | refine g_ok rfl rfl ?_ | refine g_no rfl ?_ | refine g_no0 rfl ?_ | refine g_bk ?_ | refine g_b ?_ | refine g_sk ?_ | refine g_cT rfl ?_ | refine g_cF rfl ?_ | refine g_x rfl ?_ | refine g_lb ?_))
              exact g_l (i + 1) ⟨rfl, rfl, rfl, rfl, rfl, trivial⟩ ⟨by omega, next (fun _ => hcf), hS⟩ (by omega)
            · (repeat (first | refine g_sq ?_ | refine g_rg ?_ | refine g_r0 ?_ | refine g_ok rfl rfl ?_ | refine g_no rfl ?_ | refine g_no0 rfl ?_ | refine g_bk ?_ | refine g_b ?_ | refine g_sk ?_ | refine g_cT rfl ?_ | refine g_cF rfl ?_ | refine g_x rfl ?_ | refine g_lb ?_))
              rw [show (!((ent d[k]).2.1 == (ent d[i]).2.1)) = true by
                cases h1 : (ent d[k]).2.1 <;> cases h2 : (ent d[i]).2.1 <;> simp_all]
              (repeat (first | refine g_sq ?_ | refine g_rg ?_ | refine g_r0 ?_ | refine g_ok rfl rfl ?_ | refine g_no rfl ?_ | refine g_no0 rfl ?_ | refine g_bk ?_ | refine g_b ?_ | refine g_sk ?_ | refine g_cT rfl ?_ | refine g_cF rfl ?_ | refine g_x rfl ?_ | refine g_lb ?_))
              refine g_ret (q_1 rfl (bad ?_ _ hS))
              cases hq : chk d
              · rfl
              · exact absurd (chk_conf2 hq (List.getElem_mem hli) (List.getElem_mem hlt) hre) hcf
        · (repeat (first | refine g_sq ?_ | refine g_rg ?_ | refine g_r0 ?_ | refine g_ok rfl rfl ?_ | refine g_no rfl ?_ | refine g_no0 rfl ?_ | refine g_bk ?_ | refine g_b ?_ | refine g_sk ?_ | refine g_cT rfl ?_ | refine g_cF rfl ?_ | refine g_x rfl ?_ | refine g_lb ?_))
          refine g_rq rfl rfl (in64 (by simp only [arv]; omega)) ?_
          (repeat (first | refine g_sq ?_ | refine g_rg ?_ | refine g_r0 ?_ | refine g_ok rfl rfl ?_ | refine g_no rfl ?_ | refine g_no0 rfl ?_ | refine g_bk ?_ | refine g_b ?_ | refine g_sk ?_ | refine g_cT rfl ?_ | refine g_cF rfl ?_ | refine g_x rfl ?_ | refine g_lb ?_))
          refine g_l (k + 1) ⟨rfl, rfl, trivial⟩ ⟨by omega, take_nbr hA hlt hN, fun j hj hjk => ?_, fun i2 j2 hi2 hj2 hik2 hjk2 e => ?_, hS⟩ (by omega)
          · by_cases e : j = k
            · subst e; exact hik
            · exact hB j hj (by omega)
          · by_cases e1 : i2 = k
            · by_cases e2 : j2 = k
              · subst e1; subst e2; rfl
              · subst e1
                exact (hE j2 hj2 (by omega) e.symm).symm
            · by_cases e2 : j2 = k
              · subst e2
                exact hE i2 hi2 (by omega) e
              · exact hC i2 j2 hi2 hj2 (by omega) (by omega) e
  · have ek : k = n := by omega
    subst ek
    rw [List.take_of_length_le (by omega)] at hA
    have hck : chk d = true := chk_of hA (fun x hx => by
      obtain ⟨j, hj, rfl⟩ := List.getElem_of_mem hx
      exact hB j hj (by omega)) fun x hx y hy e => by
      obtain ⟨i, hi, rfl⟩ := List.getElem_of_mem hx
      obtain ⟨j, hj, rfl⟩ := List.getElem_of_mem hy
      exact hC i j hi hj (by omega) (by omega) e
    have e1 : eE d = 0 := by unfold eE; rw [if_pos hck]
    rw [e1] at h
    (repeat (first | refine g_sq ?_ | refine g_rg ?_ | refine g_r0 ?_ | refine g_ok rfl rfl ?_ | refine g_no rfl ?_ | refine g_no0 rfl ?_ | refine g_bk ?_ | refine g_b ?_ | refine g_sk ?_ | refine g_cT rfl ?_ | refine g_cF rfl ?_ | refine g_x rfl ?_ | refine g_lb ?_))
    exact g_ret (q_1 rfl (h _ hS))
end
end Go.Proofs.YtibofabkpgigoaaGreatDoor
