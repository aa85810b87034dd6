/- Slices of what comes in, with what their data say of the elements; of no program. -/
import Derived.Test.YtibofabkpgigoaaGreatDoorEnR
set_option linter.unusedSimpArgs false
set_option linter.unusedVariables false
namespace Go.En
open Go.ChangeShapes Go.WideShapes Go.Deep
section
variable {H : Type} {enc : TypeId × Value → H} {W : World} {P : Program}
theorem slice_ofD {α : Type} {enc' : α → List Value} {R : α → DataW H → Prop} {T e sz : Nat} {v : Value} {d : DataW H} {p : List MemPlace} (hT : P.underlying T = some (.slice e)) (hc : P.cellsOf e = sz) (h0 : 0 < sz) (o0 : α) (he : ∀ o, (enc' o).length = sz)
    (hel : ∀ {fuel : Nat} {cs : List Value} {x : DataW H × List MemPlace}, DataW.trod enc P W 0 (fun _ => true) true fuel e cs = some x → ∃ o, cs = enc' o ∧ R o x.1)
    (hv : ∃ a n c, v = .slice a n c) (h : DataW.Trod enc P W 0 (fun _ => true) true T v d p) : ∃ E n os, os.length = n ∧ n ≤ 9223372036854775807 ∧ Rd v E sz n (fl enc' os) W ∧ ((d = .nil ∧ os = []) ∨ ∃ Ds sp, d = .slice Ds sp ∧ Ds.length = n ∧ ∀ o ∈ os, ∃ x ∈ Ds, R o x) := by
  obtain ⟨fuel, h⟩ := h
  obtain ⟨a0, n0, c0, rfl⟩ := hv
  rcases open_slice hT h with ⟨hcs, hx⟩ | ⟨a, len, cap, m, n, D, Pl, hcs, _, hl, hmx, hm, hx, hi⟩
  · cases hcs
    cases hx
    exact ⟨0, 0, [], rfl, by decide, .inl ⟨⟨none, rfl⟩, rfl, rfl⟩, .inl ⟨rfl, rfl⟩⟩
  · cases hcs
    have hm : m = c0 := by simpa using hm
    rw [hm] at hi
    rw [hc] at hi
    have hex : ∀ i : Nat, ∃ o : α, i < c0 → (∀ j, j < sz → W.cell? (a.add (i * sz + j)) = (enc' o)[j]?) ∧ R o (D i) := by
      intro i
      by_cases hlt : i < c0
      · obtain ⟨cs', hc, ht⟩ := hi i hlt
        obtain ⟨o, rfl, hr⟩ := hel ht
        obtain ⟨_, _, hg⟩ := World.cells?_some hc
        exact ⟨o, fun _ => ⟨cells_at hg, hr⟩⟩
      · exact ⟨o0, fun h => absurd h hlt⟩
    obtain ⟨os, hos⟩ := Classical.axiomOfChoice hex
    obtain ⟨E, hr⟩ := rd_of (W := W) (a := a) (sz := sz) h0 hl (fun i => enc' (os i)) (fun i _ => he _) (fun i hi j hj => (hos i hi).1 j hj)
    simp only [Prod.mk.injEq] at hx
    refine ⟨E, n0, (List.range n0).map os, by rw [List.length_map, List.length_range], ?_, ?_, .inr ⟨_, _, hx.1, by rw [List.length_map, List.length_range], fun o ho => ?_⟩⟩
    · unfold maxLen at hmx
      omega
    · have e : fl enc' ((List.range n0).map os) = ((List.range n0).map fun i => enc' (os i)).flatten := by
        rw [fl, List.map_map]
        rfl
      rw [e]
      exact hr
    · simp only [List.mem_map, List.mem_range] at ho
      obtain ⟨i, hi, rfl⟩ := ho
      exact ⟨D i, List.mem_map.2 ⟨i, List.mem_range.2 hi, rfl⟩, (hos i (by omega)).2⟩
end
end Go.En
