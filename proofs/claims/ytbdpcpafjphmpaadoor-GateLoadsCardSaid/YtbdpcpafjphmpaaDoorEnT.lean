/- Plain laws: the order of bytes, sorted lists, what is left where equal ones stand side by side. -/
import Derived.Test.YtbdpcpafjphmpaaDoorEnS
set_option linter.unusedSimpArgs false
set_option linter.unusedVariables false
namespace Go.En
open Go.Sort Go.Proofs

theorem cb_neg : ∀ a b : List UInt8, Lib.compareBytes b a = - Lib.compareBytes a b
  | [], [] => rfl
  | [], _ :: _ => rfl
  | _ :: _, [] => rfl
  | x :: a, y :: b => by
    have := cb_neg a b
    unfold Lib.compareBytes
    by_cases h1 : x < y
    · have h2 : ¬ y < x := by rw [UInt8.lt_iff_toNat_lt] at h1 ⊢; omega
      rw [if_pos h1, if_neg h2, if_pos h1]; rfl
    · by_cases h2 : y < x
      · rw [if_neg h1, if_pos h2, if_pos h2, if_neg h1]
      · rw [if_neg h1, if_neg h2, if_neg h2, if_neg h1, this]
theorem cb_self (a : List UInt8) : Lib.compareBytes a a = 0 := by have := cb_neg a a; omega
theorem cb_zero : ∀ {a b : List UInt8}, Lib.compareBytes a b = 0 → a = b
  | [], [], _ => rfl
  | [], _ :: _, h => by simp [Lib.compareBytes] at h
  | _ :: _, [], h => by simp [Lib.compareBytes] at h
  | x :: a, y :: b, h => by
    unfold Lib.compareBytes at h
    by_cases h1 : x < y
    · rw [if_pos h1] at h; omega
    · by_cases h2 : y < x
      · rw [if_neg h1, if_pos h2] at h; omega
      · rw [if_neg h1, if_neg h2] at h
        rw [cb_zero h]
        have : x = y := by
          rw [UInt8.lt_iff_toNat_lt] at h1 h2
          exact UInt8.toNat_inj.1 (by omega)
        rw [this]
theorem cb_trans : ∀ {a b c : List UInt8}, Lib.compareBytes a b ≤ 0 → Lib.compareBytes b c ≤ 0 → Lib.compareBytes a c ≤ 0
  | [], _, [], _, _ => by simp [Lib.compareBytes]
  | [], _, _ :: _, _, _ => by simp [Lib.compareBytes]
  | _ :: _, [], _, h, _ => by simp [Lib.compareBytes] at h
  | _ :: _, _ :: _, [], _, h => by simp [Lib.compareBytes] at h
  | x :: a, y :: b, z :: c, h, k => by
    have ih := @cb_trans a b c
    unfold Lib.compareBytes at h k ⊢
    simp only [UInt8.lt_iff_toNat_lt] at h k ⊢
    repeat' split at h
    all_goals repeat' split at k
    all_goals repeat' split
    all_goals first | omega | skip
theorem cb_three (a b : List UInt8) : Lib.compareBytes a b = -1 ∨ Lib.compareBytes a b = 0 ∨ Lib.compareBytes a b = 1 := by
  induction a generalizing b with
  | nil => cases b <;> simp [Lib.compareBytes]
  | cons x a ih =>
    cases b with
    | nil => simp [Lib.compareBytes]
    | cons y b =>
      unfold Lib.compareBytes
      split
      · exact .inl rfl
      · split
        · exact .inr (.inr rfl)
        · exact ih b
theorem bless_eq : ∀ a b : List UInt8, Op.bytesLess a b = decide (Lib.compareBytes a b < 0)
  | [], [] => by simp [Op.bytesLess, Lib.compareBytes]
  | [], _ :: _ => by simp [Op.bytesLess, Lib.compareBytes]
  | _ :: _, [] => by simp [Op.bytesLess, Lib.compareBytes]
  | x :: a, y :: b => by
    have := bless_eq a b
    unfold Op.bytesLess Lib.compareBytes
    by_cases h1 : x < y
    · simp [h1]
    · by_cases h2 : y < x
      · have : ¬ x = y := by rintro rfl; exact h1 h2
        simp [h1, h2, this]
      · have e : x = y := by
          rw [UInt8.lt_iff_toNat_lt] at h1 h2
          exact UInt8.toNat_inj.1 (by omega)
        subst e
        simp [this]
/-- a word stands ahead of another one, or is it -/
def ble (a b : List UInt8) : Bool := decide (Lib.compareBytes a b ≤ 0)
theorem ble_trans {a b c : List UInt8} (h : ble a b = true) (k : ble b c = true) : ble a c = true := by
  unfold ble at *
  rw [decide_eq_true_eq] at *
  exact cb_trans h k
theorem ble_total (a b : List UInt8) : (ble a b || ble b a) = true := by
  unfold ble
  have := cb_neg a b
  simp only [Bool.or_eq_true, decide_eq_true_eq]
  omega
theorem ble_anti {a b : List UInt8} (h : ble a b = true) (k : ble b a = true) : a = b := by
  unfold ble at *
  rw [decide_eq_true_eq] at *
  have := cb_neg a b
  exact cb_zero (by omega)
section
variable {α : Type} (key : α → List UInt8)
theorem swo_key : SWO (ltOf fun x y : α => Lib.compareBytes (key x) (key y)) := by
  have hn := fun x y : α => cb_neg (key x) (key y)
  have ht := fun x y z : α => @cb_trans (key x) (key y) (key z)
  unfold ltOf
  refine ⟨fun x => ?_, fun x y z h k => ?_, fun x y z h k => ?_⟩
  · simp [cb_self]
  · simp only [decide_eq_true_eq] at *
    have h1 := ht x y z (by omega) (by omega)
    have h2 := hn x y; have h3 := hn y z; have h4 := hn x z
    have h5 := ht y z x (by omega)
    omega
  · simp only [decide_eq_false_iff_not] at *
    have h2 := hn x y; have h3 := hn y z; have h4 := hn x z
    have h5 := ht z y x (by omega) (by omega)
    omega
theorem lt_ble (x y : α) : ltOf (fun x y : α => Lib.compareBytes (key x) (key y)) y x = false ↔ ble (key x) (key y) = true := by
  unfold ltOf ble
  have := cb_neg (key x) (key y)
  simp only [decide_eq_false_iff_not, decide_eq_true_eq]
  omega
/-- sorted by a key -/
def srt (l : List α) : List α := l.mergeSort fun x y => ble (key x) (key y)
theorem srt_perm (l : List α) : (srt key l).Perm l := List.mergeSort_perm _ _
theorem srt_sorted (l : List α) : (srt key l).Pairwise fun x y => ble (key x) (key y) = true := by
  refine List.pairwise_mergeSort ?_ ?_ l
  · exact fun a b c => ble_trans
  · exact fun a b => ble_total _ _
theorem srt_len (l : List α) : (srt key l).length = l.length := (srt_perm key l).length_eq
theorem srt_unique (hi : ∀ x y, key x = key y → x = y) {l d : List α} (hp : d.Perm l) (hs : d.Pairwise fun x y => ble (key x) (key y) = true) : d = srt key l :=
  List.Perm.eq_of_pairwise (fun a b _ _ h k => hi _ _ (ble_anti h k)) hs (srt_sorted key l) (hp.trans (srt_perm key l).symm)
/-- one stands ahead of the other one, and they are unlike -/
def lts (x y : α) : Prop := ble (key x) (key y) = true ∧ x ≠ y
theorem lts_unique (hi : ∀ x y, key x = key y → x = y) {l m : List α} (hl : l.Pairwise (lts key)) (hm : m.Pairwise (lts key)) (h : ∀ x, x ∈ l ↔ x ∈ m) : l = m := by
  have nd : ∀ {l : List α}, l.Pairwise (lts key) → l.Nodup := fun h => h.imp fun h => h.2
  have hp : l.Perm m := (List.perm_ext_iff_of_nodup (nd hl) (nd hm)).2 h
  exact List.Perm.eq_of_pairwise (le := fun x y => ble (key x) (key y) = true) (fun a b _ _ h k => hi _ _ (ble_anti h k)) (hl.imp fun h => h.1) (hm.imp fun h => h.1) hp
variable [DecidableEq α]
/-- what is left of the first elements where equal ones stand side by side -/
def ddn (s : List α) : Nat → List α
  | 0 => []
  | p + 1 => if p = 0 ∨ s[p]? ≠ s[p - 1]? then ddn s p ++ (s[p]?).toList else ddn s p
theorem mem_ddn (s : List α) (x : α) : ∀ p, x ∈ ddn s p ↔ x ∈ s.take p
  | 0 => by simp [ddn]
  | p + 1 => by
    have ih := mem_ddn s x p
    have e : s.take (p + 1) = s.take p ++ (s[p]?).toList := by
      by_cases h : p < s.length
      · rw [List.take_succ_eq_append_getElem h, List.getElem?_eq_getElem h]; rfl
      · rw [List.getElem?_eq_none (by omega), List.take_of_length_le (by omega), List.take_of_length_le (by omega)]; simp
    have ed : ddn s (p + 1) = if p = 0 ∨ s[p]? ≠ s[p - 1]? then ddn s p ++ (s[p]?).toList else ddn s p := rfl
    rw [e, List.mem_append, ← ih, ed]
    split
    · rw [List.mem_append]
    · rename_i h
      constructor
      · exact .inl
      · rintro (h1 | h1)
        · exact h1
        · refine ih.2 ?_
          have h0 : p ≠ 0 := fun h0 => h (.inl h0)
          have h2 : s[p]? = s[p - 1]? := by
            by_cases h2 : s[p]? = s[p - 1]?
            · exact h2
            · exact absurd (.inr h2) h
          rw [h2] at h1
          have h3 : s[p - 1]? = some x := by simpa using h1
          have : (s.take p)[p - 1]? = some x := by rw [List.getElem?_take, if_pos (by omega), h3]
          exact List.mem_of_getElem? this
theorem ddn_sorted (hi : ∀ x y, key x = key y → x = y) {s : List α} (hs : s.Pairwise fun x y => ble (key x) (key y) = true) : ∀ p, (ddn s p).Pairwise (lts key)
  | 0 => by simp [ddn]
  | p + 1 => by
    have ih := ddn_sorted hi hs p
    unfold ddn
    split
    · rename_i h
      rw [List.pairwise_append]
      refine ⟨ih, ?_, ?_⟩
      · cases s[p]? <;> simp
      · intro x hx y hy
        have hy : s[p]? = some y := by simpa using hy
        have hp : p < s.length := by
          by_cases hp : p < s.length
          · exact hp
          · rw [List.getElem?_eq_none (by omega)] at hy; cases hy
        rw [List.getElem?_eq_getElem hp] at hy
        cases hy
        have hx := (mem_ddn s x p).1 hx
        obtain ⟨i, hi1, rfl⟩ := List.getElem_of_mem hx
        rw [List.length_take] at hi1
        rw [List.getElem_take]
        have hpw := List.pairwise_iff_getElem.1 hs
        refine ⟨hpw i p (by omega) hp (by omega), fun e => ?_⟩
        rcases h with h | h
        · omega
        · refine h ?_
          rw [List.getElem?_eq_getElem hp, List.getElem?_eq_getElem (by omega)]
          by_cases hip : i = p - 1
          · subst hip; rw [e]
          · have h1 := hpw i (p - 1) (by omega) (by omega) (by omega)
            have h2 := hpw (p - 1) p (by omega) (by omega) (by omega)
            rw [e] at h1
            rw [hi _ _ (ble_anti h2 h1)]
    · exact ih
theorem ddn_le (s : List α) : ∀ p, (ddn s p).length ≤ p
  | 0 => Nat.le_refl _
  | p + 1 => by
    have := ddn_le s p
    unfold ddn
    split
    · rw [List.length_append]
      cases s[p]? <;> simp <;> omega
    · omega
/-- the set of some -/
def kset (l : List α) : List α := ddn (srt key l) l.length
theorem mem_kset (l : List α) (x : α) : x ∈ kset key l ↔ x ∈ l := by
  unfold kset
  rw [mem_ddn, ← srt_len key l, List.take_length]
  exact (srt_perm key l).mem_iff
theorem kset_sorted (hi : ∀ x y, key x = key y → x = y) (l : List α) : (kset key l).Pairwise (lts key) := ddn_sorted key hi (srt_sorted key l) _
theorem kset_len (l : List α) : (kset key l).length ≤ l.length := ddn_le _ _
theorem kset_ext (hi : ∀ x y, key x = key y → x = y) {l m : List α} (h : ∀ x, x ∈ l ↔ x ∈ m) : kset key l = kset key m :=
  lts_unique key hi (kset_sorted key hi l) (kset_sorted key hi m) fun x => by rw [mem_kset, mem_kset, h]
theorem kset_self (hi : ∀ x y, key x = key y → x = y) {l : List α} (h : l.Pairwise (lts key)) : kset key l = l :=
  lts_unique key hi (kset_sorted key hi l) h fun x => mem_kset key l x
end
section
variable {α : Type} {enc : α → List Value} {k : Nat}
theorem rd_at (hk : ∀ x, (enc x).length = k) {l : List Value} {off n : Nat} {d : List α} (h : (l.drop off).take (n * k) = fl enc d) (hn : d.length = n) {i : Nat} (hi : i < d.length) : (l.drop (off + i * k)).take k = enc d[i] := by
  have h1 := fl_at hk d i _ (List.getElem?_eq_getElem hi)
  rw [← h, List.drop_take, List.take_take, List.drop_drop] at h1
  rw [← h1]
  congr 1
  have : (i + 1) * k ≤ n * k := Nat.mul_le_mul_right k (by omega)
  rw [Nat.add_mul, Nat.one_mul] at this
  omega
theorem sorted_unique {key : α → List UInt8} {l d : List α} (hi : ∀ x y, x ∈ l → y ∈ l → key x = key y → x = y) (hp : d.Perm l) (hd : d.Pairwise fun x y => ble (key x) (key y) = true) (hl : l.Pairwise fun x y => ble (key x) (key y) = true) : d = l :=
  List.Perm.eq_of_pairwise (fun a b ha hb h k => hi _ _ (hp.mem_iff.1 ha) hb (ble_anti h k)) hd hl hp
end
theorem cb_app (s : List UInt8) (a b : List UInt8) : Lib.compareBytes (s ++ a) (s ++ b) = Lib.compareBytes a b := by
  induction s with
  | nil => rfl
  | cons x s ih =>
    rw [List.cons_append, List.cons_append]
    show (if x < x then (-1 : Int) else if x < x then 1 else Lib.compareBytes (s ++ a) (s ++ b)) = _
    rw [if_neg (by rw [UInt8.lt_iff_toNat_lt]; omega), if_neg (by rw [UInt8.lt_iff_toNat_lt]; omega), ih]
end Go.En
