/- A text's listing: listing.Parse. -/
import Derived.Test.YtibofabkpgigoaaGreatDoorNe6
set_option linter.unusedSimpArgs false
set_option linter.unusedVariables false
namespace Go.Proofs.YtibofabkpgigoaaGreatDoor
open Go.En

theorem lnsF_len : ∀ (n : Nat) (s : Bs), (lnsF n s).length ≤ s.length
  | 0, _ => Nat.zero_le _
  | n + 1, s => by
    unfold lnsF
    split
    · exact Nat.zero_le _
    · rename_i h
      have := lnsF_len n (hd1 s).2
      have := hd1_lt h
      rw [List.length_cons]
      omega
theorem ln1_len (x : Li) : (ln1 x).length = 66 + x.1.length := by
  unfold ln1
  simp only [List.length_append, List.length_cons, hex_len, x.2.2, List.length_nil]
  omega
theorem flen_bd {m : Nat} : ∀ d : List Li, (∀ x ∈ d, x.1.length ≤ m) → (d.map ln1).flatten.length ≤ d.length * (66 + m)
  | [], _ => by simp
  | x :: d, h => by
    have := flen_bd d fun y hy => h y (List.mem_cons_of_mem _ hy)
    have := h x List.mem_cons_self
    rw [List.map_cons, List.flatten_cons, List.length_append, ln1_len, List.length_cons, Nat.add_mul]
    omega
theorem prs1_len {l : Bs} {x : Li} (h : prs1 l = some x) : x.1.length ≤ l.length := by
  unfold prs1 at h
  split at h
  · cases h
    exact Nat.le_trans (cut_len _ _).1 (trim_len _ _)
  · cases h
theorem prs1_ok {l : Bs} {ct : Bs × Bs × Bool} (hct : Lib.cut (Lib.trimSuffix l [10]) [32] = ct) (hE : unhE ct.1 = 0) : prs1 l = some (ct.2.1, ⟨unhV ct.1, unhV_len _⟩) := by
  subst hct
  unfold prs1
  rw [if_pos hE]
theorem prs1_no {l : Bs} {ct : Bs × Bs × Bool} (hct : Lib.cut (Lib.trimSuffix l [10]) [32] = ct) (hE : unhE ct.1 ≠ 0) : prs1 l = none := by
  subst hct
  unfold prs1
  rw [if_neg hE]
/-- where the reading stands: what was read, and what is left -/
def psI (s : Bs) (r : Bs) (acc : List Li) : Prop := prsL (lns s) = (prsL (lns r)).map (acc ++ ·) ∧ (∀ x ∈ acc, x.1.length ≤ s.length) ∧ acc.length + r.length ≤ s.length ∧ r.length ≤ s.length
theorem psI_0 (s : Bs) : psI s s [] := by
  refine ⟨?_, ?_, ?_, Nat.le_refl _⟩
  · cases prsL (lns s) <;> rfl
  · intro x hx
    cases hx
  · rw [List.length_nil, Nat.zero_add]
    exact Nat.le_refl _
theorem prsL_some {l : Bs} {r : List Bs} {x : Li} (h : prs1 l = some x) : prsL (l :: r) = (prsL r).map (x :: ·) := by
  rw [prsL, h]
  cases prsL r <;> rfl
theorem prsL_none {l : Bs} {r : List Bs} (h : prs1 l = none) : prsL (l :: r) = none := by rw [prsL, h]
theorem psI_step {s r : Bs} {acc : List Li} {x : Li} (h : psI s r acc) (hr : r ≠ []) (hx : prs1 (hd1 r).1 = some x) : psI s (hd1 r).2 (acc ++ [x]) := by
  obtain ⟨h1, h2, h3, h4⟩ := h
  have hlt := hd1_lt hr
  refine ⟨?_, ?_, ?_, by omega⟩
  · rw [h1, lns_cons hr, prsL_some hx]
    cases prsL (lns (hd1 r).2) with
    | none => rfl
    | some m => simp
  · intro y hy
    rcases List.mem_append.1 hy with hy | hy
    · exact h2 y hy
    · rw [List.mem_singleton.1 hy]
      have := prs1_len hx
      have := hd1_le r
      omega
  · rw [List.length_append, List.length_singleton]
    omega
theorem psI_bad {s r : Bs} {acc : List Li} (h : psI s r acc) (hr : r ≠ []) (hx : prs1 (hd1 r).1 = none) : prs s = none := by
  have h1 := h.1
  rw [lns_cons hr] at h1
  rw [prsL_none hx] at h1
  have h2 : prsL (lns s) = none := h1
  unfold prs
  rw [h2]
theorem psI_end {s : Bs} {acc : List Li} (h : psI s [] acc) : prs s = if txt acc = s ∧ chk acc = true then some acc else none := by
  have h1 := h.1
  rw [lns_nil] at h1
  have h2 : prsL (lns s) = some acc := by rw [h1]; simp [prsL]
  unfold prs
  rw [h2]
end Go.Proofs.YtibofabkpgigoaaGreatDoor
