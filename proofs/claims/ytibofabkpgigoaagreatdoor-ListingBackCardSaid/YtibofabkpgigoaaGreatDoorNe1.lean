/- Lines of a text; plain. -/
import Derived.Test.YtibofabkpgigoaaGreatDoorNa7
import Derived.Lib.IndexLaws
set_option linter.unusedSimpArgs false
set_option linter.unusedVariables false
namespace Go.Proofs.YtibofabkpgigoaaGreatDoor
open Go.En

/-- a text's first line, and the rest -/
def hd1 (s : Bs) : Bs × Bs := if 0 ≤ Lib.indexByte s 10 then (s.take ((Lib.indexByte s 10).toNat + 1), s.drop ((Lib.indexByte s 10).toNat + 1)) else (s, [])
theorem ibx_lt {s : Bs} {c : UInt8} (h : 0 ≤ Lib.indexByte s c) : (Lib.indexByte s c).toNat < s.length := by
  have := ib_lt s c
  omega
theorem hd1_lt {s : Bs} (h : s ≠ []) : (hd1 s).2.length < s.length := by
  have : 0 < s.length := List.length_pos_iff.2 h
  unfold hd1
  split
  · show (s.drop _).length < _
    rw [List.length_drop]; omega
  · exact this
theorem hd1_le (s : Bs) : (hd1 s).1.length ≤ s.length := by
  unfold hd1
  split
  · show (s.take _).length ≤ _
    rw [List.length_take]; omega
  · exact Nat.le_refl _
def lnsF : Nat → Bs → List Bs
  | 0, _ => []
  | n + 1, s => if s = [] then [] else (hd1 s).1 :: lnsF n (hd1 s).2
/-- a text's lines -/
def lns (s : Bs) : List Bs := lnsF s.length s
theorem lnsF_ext : ∀ (n m : Nat) (s : Bs), s.length ≤ n → s.length ≤ m → lnsF n s = lnsF m s
  | 0, 0, _, _, _ => rfl
  | 0, m + 1, s, h, _ => by
    have : s = [] := List.eq_nil_of_length_eq_zero (by omega)
    subst this
    rfl
  | n + 1, 0, s, _, h => by
    have : s = [] := List.eq_nil_of_length_eq_zero (by omega)
    subst this
    rfl
  | n + 1, m + 1, s, h1, h2 => by
    unfold lnsF
    by_cases e : s = []
    · rw [if_pos e, if_pos e]
    · have := hd1_lt e
      rw [if_neg e, if_neg e, lnsF_ext n m _ (by omega) (by omega)]
theorem lns_nil : lns [] = [] := rfl
theorem lns_cons {s : Bs} (h : s ≠ []) : lns s = (hd1 s).1 :: lns (hd1 s).2 := by
  have hl := hd1_lt h
  have e : lns s = lnsF (s.length - 1 + 1) s := lnsF_ext _ _ _ (Nat.le_refl _) (by omega)
  rw [e]
  unfold lnsF
  rw [if_neg h]
  congr 1
  exact lnsF_ext _ _ _ (by omega) (Nat.le_refl _)
end Go.Proofs.YtibofabkpgigoaaGreatDoor
