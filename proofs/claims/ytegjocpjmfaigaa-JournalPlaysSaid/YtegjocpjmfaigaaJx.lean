/- What is done to a journal, read as the walk wants it. -/
import Derived.Test.YtegjocpjmfaigaaLd
import Derived.Test.YtegjocpjmfaigaaJwa
set_option linter.unusedSimpArgs false
set_option linter.unusedVariables false
namespace Go.Proofs.Ytegjocpjmfaigaa
open Go.En Go.ChangeShapes Go.WideShapes Go.Deep
section
variable {H : Type} {enc : TypeId × Value → H} {W : World}
theorem seven {α : Type} {l : List α} (h : l.length = 7) : ∃ a b c d e f g, l = [a, b, c, d, e, f, g] := by
  match l, h with
  | [a, b, c, d, e, f, g], _ => exact ⟨a, b, c, d, e, f, g, rfl⟩
set_option maxRecDepth 100000 in
theorem opj_of {fuel : Nat} {cs : List Value} {x : DataW H × List MemPlace} (h : DataW.trod enc Try.prog W 0 (fun _ => true) true fuel 81 cs = some x) : ∃ o : Opj, cs = opvj o ∧ Ext W (o.v, o.bs) := by
  obtain ⟨xs, n, _, _, hlen, hxl, hf⟩ := DataW.trod_struct Try.underlying81 h
  have c81 : Try.prog.cellsOf 81 = 7 := by kernel_rfl
  have c3 : Try.prog.cellsOf 3 = 1 := by kernel_rfl
  have c2 : Try.prog.cellsOf 2 = 1 := by kernel_rfl
  have c35 : Try.prog.cellsOf 35 = 1 := by kernel_rfl
  have c37 : Try.prog.cellsOf 37 = 3 := by kernel_rfl
  rw [c81] at hlen
  obtain ⟨v0, v1, v2, v6, v3, v4, v5, rfl⟩ := seven hlen
  have h0 : DataW.trod enc Try.prog W 0 (fun _ => true) true n 3 (List.take (Try.prog.cellsOf 3) (List.drop 0 [v0, v1, v2, v6, v3, v4, v5])) = xs[0]? := hf 0 _ rfl
  have h1 : DataW.trod enc Try.prog W 0 (fun _ => true) true n 3 (List.take (Try.prog.cellsOf 3) (List.drop 1 [v0, v1, v2, v6, v3, v4, v5])) = xs[1]? := hf 1 _ rfl
  have h2 : DataW.trod enc Try.prog W 0 (fun _ => true) true n 35 (List.take (Try.prog.cellsOf 35) (List.drop 2 [v0, v1, v2, v6, v3, v4, v5])) = xs[2]? := hf 2 _ rfl
  have h6 : DataW.trod enc Try.prog W 0 (fun _ => true) true n 2 (List.take (Try.prog.cellsOf 2) (List.drop 3 [v0, v1, v2, v6, v3, v4, v5])) = xs[3]? := hf 3 _ rfl
  have h3 : DataW.trod enc Try.prog W 0 (fun _ => true) true n 37 (List.take (Try.prog.cellsOf 37) (List.drop 4 [v0, v1, v2, v6, v3, v4, v5])) = xs[4]? := hf 4 _ rfl
  have hs : ∀ i, i < 5 → (xs[i]?).isSome = true := fun i hi => by
    have : i < xs.length := by rw [hxl]; exact hi
    simp [this]
  rw [c3] at h0 h1
  rw [c35] at h2
  rw [c2] at h6
  rw [c37] at h3
  obtain ⟨k, e0⟩ := int_of Try.underlying3 h0 (hs 0 (by decide))
  obtain ⟨a, e1⟩ := int_of Try.underlying3 h1 (hs 1 (by decide))
  obtain ⟨nn, e6⟩ := int_of Try.underlying2 h6 (hs 3 (by decide))
  obtain ⟨y2, hy2⟩ := Option.isSome_iff_exists.1 (hs 2 (by decide))
  obtain ⟨y3, hy3⟩ := Option.isSome_iff_exists.1 (hs 4 (by decide))
  rw [hy2] at h2
  rw [hy3] at h3
  obtain ⟨E, bs, hr⟩ := rd_bytes (v := v2) h2
  obtain ⟨zs, m, _, _, _, hzl, hg⟩ := DataW.trod_struct Try.underlying37 h3
  have g0 : DataW.trod enc Try.prog W 0 (fun _ => true) true m 3 (List.take (Try.prog.cellsOf 3) (List.drop 0 [v3, v4, v5])) = zs[0]? := hg 0 _ rfl
  have g1 : DataW.trod enc Try.prog W 0 (fun _ => true) true m 3 (List.take (Try.prog.cellsOf 3) (List.drop 1 [v3, v4, v5])) = zs[1]? := hg 1 _ rfl
  have g2 : DataW.trod enc Try.prog W 0 (fun _ => true) true m 3 (List.take (Try.prog.cellsOf 3) (List.drop 2 [v3, v4, v5])) = zs[2]? := hg 2 _ rfl
  have ht : ∀ i, i < 3 → (zs[i]?).isSome = true := fun i hi => by
    have : i < zs.length := by rw [hzl]; exact hi
    simp [this]
  rw [c3] at g0 g1 g2
  obtain ⟨fa, f0⟩ := int_of Try.underlying3 g0 (ht 0 (by decide))
  obtain ⟨fk, f1⟩ := int_of Try.underlying3 g1 (ht 1 (by decide))
  obtain ⟨ft, f2⟩ := int_of Try.underlying3 g2 (ht 2 (by decide))
  cases e0; cases e1; cases e6; cases f0; cases f1; cases f2
  exact ⟨⟨k, a, v2, bs, nn, ⟨fa, fk, ft⟩⟩, rfl, E, hr⟩
theorem opsj_of {v : Value} {d : DataW H} {p : List MemPlace} (hv : ∃ a n c, v = .slice a n c) (h : DataW.Trod enc Try.prog W 0 (fun _ => true) true 78 v d p) : ∃ E ops, OpsJ E v ops W := by
  obtain ⟨fuel, h⟩ := h
  obtain ⟨a0, n0, c0, rfl⟩ := hv
  have c81 : Try.prog.cellsOf 81 = 7 := by kernel_rfl
  rcases open_slice Try.underlying78 h with ⟨hcs, _⟩ | ⟨a, len, cap, m, n, D, Pl, hcs, _, hl, _, hm, _, hi⟩
  · cases hcs
    exact ⟨0, [], .inl ⟨⟨none, rfl⟩, rfl, rfl⟩, fun o ho => nomatch ho⟩
  · cases hcs
    have hm : m = c0 := by simpa using hm
    rw [hm] at hi
    rw [c81] at hi
    have hex : ∀ i : Nat, ∃ o : Opj, i < c0 → (∀ j, j < 7 → W.cell? (a.add (i * 7 + j)) = (opvj o)[j]?) ∧ Ext W (o.v, o.bs) := by
      intro i
      by_cases hlt : i < c0
      · obtain ⟨cs', hc, ht⟩ := hi i hlt
        obtain ⟨o, rfl, hr⟩ := opj_of ht
        obtain ⟨_, _, hg⟩ := World.cells?_some hc
        refine ⟨o, fun _ => ⟨fun j hj => ?_, hr⟩⟩
        rw [← Go.Deep.add_add]
        exact hg j hj
      · exact ⟨⟨0, 0, .nilFunc, [], 0, ⟨0, 0, 0⟩⟩, fun h => absurd h hlt⟩
    obtain ⟨os, hos⟩ := Classical.axiomOfChoice hex
    obtain ⟨E, hr⟩ := rd_of (W := W) (a := a) (sz := 7) (by decide) hl (fun i => opvj (os i)) (fun i _ => rfl) (fun i hi j hj => (hos i hi).1 j hj)
    refine ⟨E, (List.range n0).map os, ?_, fun o ho => ?_⟩
    · have e : opsFj ((List.range n0).map os) = ((List.range n0).map fun i => opvj (os i)).flatten := by
        rw [opsFj, List.map_map]
        rfl
      rw [e, List.length_map, List.length_range]
      exact hr
    · simp only [List.mem_map, List.mem_range] at ho
      obtain ⟨i, hi, rfl⟩ := ho
      exact (hos i (by omega)).2
end
end Go.Proofs.Ytegjocpjmfaigaa
