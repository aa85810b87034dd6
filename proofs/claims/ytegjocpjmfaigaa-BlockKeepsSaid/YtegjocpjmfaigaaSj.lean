/- A fall, read as the walk wants it. -/
import Derived.Test.YtegjocpjmfaigaaLd
set_option linter.unusedSimpArgs false
set_option linter.unusedVariables false
namespace Go.Proofs.Ytegjocpjmfaigaa
open Go.En Go.ChangeShapes Go.WideShapes Go.Deep
section
variable {H : Type} {enc : TypeId × Value → H} {W : World}
set_option maxRecDepth 100000 in
theorem fal_of {r : Reach} {b0 : Nat} {v : Value} {d : DataW H} {p : List MemPlace} (hval : Value.okWide Try.prog W r b0 37 v) (h : DataW.Trod enc Try.prog W 0 (fun _ => true) true 37 v d p) : ∃ f : Fal, v = falV f := by
  unfold Value.okWide at hval
  simp only [Try.underlying37] at hval
  obtain ⟨cs, rfl, hsz, _⟩ := hval
  have c3 : Try.prog.cellsOf 3 = 1 := by kernel_rfl
  have c37 : Try.prog.cellsOf 37 = 3 := by kernel_rfl
  rw [c37] at hsz
  obtain ⟨fuel, h⟩ := h
  obtain ⟨v3, v4, v5, hl⟩ := three (l := cs.toList) (by simpa using hsz)
  have e : (Value.agg cs).cells.toList = [v3, v4, v5] := hl
  rw [e] at h
  obtain ⟨zs, m, _, _, _, hzl, hg⟩ := DataW.trod_struct Try.underlying37 h
  have g0 : DataW.trod enc Try.prog W 0 (fun _ => true) true m 3 (List.take (Try.prog.cellsOf 3) (List.drop 0 [v3, v4, v5])) = zs[0]? := hg 0 _ rfl
  have g1 : DataW.trod enc Try.prog W 0 (fun _ => true) true m 3 (List.take (Try.prog.cellsOf 3) (List.drop 1 [v3, v4, v5])) = zs[1]? := hg 1 _ rfl
  have g2 : DataW.trod enc Try.prog W 0 (fun _ => true) true m 3 (List.take (Try.prog.cellsOf 3) (List.drop 2 [v3, v4, v5])) = zs[2]? := hg 2 _ rfl
  have ht : ∀ i, i < 3 → (zs[i]?).isSome = true := fun i hi => by
    have : i < zs.length := by rw [hzl]; exact hi
    simp [this]
  rw [c3] at g0 g1 g2
  obtain ⟨fa, f0⟩ := int_of Try.underlying3 g0 (ht 0 (by decide))
  obtain ⟨fk, f1⟩ := int_of Try.underlying3 g1 (ht 1 (by decide))
  obtain ⟨ft, f2⟩ := int_of Try.underlying3 g2 (ht 2 (by decide))
  cases f0; cases f1; cases f2
  refine ⟨⟨fa, fk, ft⟩, ?_⟩
  cases cs
  simp only at hl
  rw [hl]; rfl
end
end Go.Proofs.Ytegjocpjmfaigaa
