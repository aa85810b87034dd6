/- Lists of bytes, read as the walk wants them. -/
import Derived.Test.YtegjocpjmfaigaaLd
import Derived.Test.YtegjocpjmfaigaaJh
set_option linter.unusedSimpArgs false
set_option linter.unusedVariables false
namespace Go.Proofs.Ytegjocpjmfaigaa
open Go.En Go.ChangeShapes Go.WideShapes Go.Deep
section
variable {H : Type} {enc : TypeId × Value → H} {W : World}
theorem bss_of {v : Value} {d : DataW H} {p : List MemPlace} (hv : ∃ a n c, v = .slice a n c) (h : DataW.Trod enc Try.prog W 0 (fun _ => true) true 54 v d p) : ∃ M, RdL v M W := by
  obtain ⟨fuel, h⟩ := h
  obtain ⟨a0, n0, c0, rfl⟩ := hv
  have c35 : Try.prog.cellsOf 35 = 1 := by kernel_rfl
  rcases open_slice Try.underlying54 h with ⟨hcs, _⟩ | ⟨a, len, cap, m, n, D, Pl, hcs, _, hl, _, hm, _, hi⟩
  · cases hcs
    exact ⟨[], 0, [], rfl, .inl ⟨⟨none, rfl⟩, rfl, rfl⟩, fun o ho => nomatch ho⟩
  · cases hcs
    have hm : m = c0 := by simpa using hm
    rw [hm] at hi
    rw [c35] at hi
    have hex : ∀ i : Nat, ∃ o : Value × List UInt8, i < c0 → (∀ j, j < 1 → W.cell? (a.add (i * 1 + j)) = [o.1][j]?) ∧ ∃ E, Rd o.1 E 1 o.2.length (bys o.2) W := by
      intro i
      by_cases hlt : i < c0
      · obtain ⟨cs', hc, ht⟩ := hi i hlt
        obtain ⟨hlen, _, hg⟩ := World.cells?_some hc
        obtain ⟨x, rfl⟩ : ∃ x, cs' = [x] := by
          match cs', hlen with
          | [x], _ => exact ⟨x, rfl⟩
        obtain ⟨E, bs, hr⟩ := rd_bytes ht
        refine ⟨(x, bs), fun _ => ⟨fun j hj => ?_, E, hr⟩⟩
        rw [← Go.Deep.add_add]
        exact hg j hj
      · exact ⟨(.nilFunc, []), fun h => absurd h hlt⟩
    obtain ⟨os, hos⟩ := Classical.axiomOfChoice hex
    obtain ⟨E, hr⟩ := rd_of (W := W) (a := a) (sz := 1) (by decide) hl (fun i => [(os i).1]) (fun i _ => rfl) (fun i hi j hj => (hos i hi).1 j hj)
    refine ⟨((List.range n0).map os).map Prod.snd, E, (List.range n0).map os, rfl, ?_, fun o ho => ?_⟩
    · have e : ((List.range n0).map os).map Prod.fst = ((List.range n0).map fun i => [(os i).1]).flatten := by
        rw [List.map_map, ← List.flatMap_def, ← List.map_eq_flatMap]
        rfl
      rw [e, List.length_map, List.length_range]
      exact hr
    · simp only [List.mem_map, List.mem_range] at ho
      obtain ⟨i, hi, rfl⟩ := ho
      exact (hos i (by omega)).2
end
end Go.Proofs.Ytegjocpjmfaigaa
