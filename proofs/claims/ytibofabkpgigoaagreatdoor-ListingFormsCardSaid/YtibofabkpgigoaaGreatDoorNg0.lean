/- What comes in: ids, lists of names. -/
import Derived.Test.YtibofabkpgigoaaGreatDoorNa9
import Derived.Test.YtibofabkpgigoaaGreatDoorNb2
import Derived.Test.YtibofabkpgigoaaGreatDoorEnR
set_option linter.unusedSimpArgs false
set_option linter.unusedVariables false
namespace Go.Proofs.YtibofabkpgigoaaGreatDoor
open Go.En Go.ChangeShapes Go.WideShapes Go.Deep

section
variable {H : Type} {enc : TypeId × Value → H} {W : World}
theorem id_of {fuel : Nat} {cs : List Value} {x : DataW H × List MemPlace} (h : DataW.trod enc Tryz.prog W 0 (fun _ => true) true fuel 35 cs = some x) : ∃ o : Id, cs = ic o ∧ True := by
  obtain ⟨bs, hl, rfl⟩ := bytes_of Tryz.underlying35 Tryz.underlying5 (by kernel_rfl) (by kernel_rfl) h
  exact ⟨⟨bs, hl⟩, rfl, trivial⟩
theorem str_of {fuel : Nat} {cs : List Value} {x : DataW H × List MemPlace} (h : DataW.trod enc Tryz.prog W 0 (fun _ => true) true fuel 9 cs = some x) : ∃ s : Bs, cs = [sv s] ∧ True := by
  obtain ⟨s, rfl, _⟩ := DataW.trod_string Tryz.underlying9 h
  exact ⟨s.data.toList, by rw [sv_of], trivial⟩
set_option maxRecDepth 100000 in
theorem li_of {fuel : Nat} {cs : List Value} {x : DataW H × List MemPlace} (h : DataW.trod enc Tryz.prog W 0 (fun _ => true) true fuel 41 cs = some x) : ∃ o : Li, cs = lc o ∧ True := by
  obtain ⟨xs, n, _, _, hlen, hxl, hf⟩ := DataW.trod_struct Tryz.underlying41 h
  have c41 : Tryz.prog.cellsOf 41 = 33 := by kernel_rfl
  have c9 : Tryz.prog.cellsOf 9 = 1 := by kernel_rfl
  have c35 : Tryz.prog.cellsOf 35 = 32 := by kernel_rfl
  rw [c41] at hlen
  have h0 : DataW.trod enc Tryz.prog W 0 (fun _ => true) true n 9 (List.take (Tryz.prog.cellsOf 9) (List.drop 0 cs)) = xs[0]? := hf 0 _ rfl
  have h1 : DataW.trod enc Tryz.prog W 0 (fun _ => true) true n 35 (List.take (Tryz.prog.cellsOf 35) (List.drop 1 cs)) = xs[1]? := hf 1 _ rfl
  have hx : xs.length = 2 := hxl
  rw [List.getElem?_eq_getElem (by omega)] at h0 h1
  rw [c9] at h0
  rw [c35] at h1
  obtain ⟨s, hs, _⟩ := str_of h0
  obtain ⟨o, ho, _⟩ := id_of h1
  refine ⟨(s, o), ?_, trivial⟩
  have e : cs = (cs.drop 0).take 1 ++ (cs.drop 1).take 32 := by
    rw [List.drop_zero]
    have e1 : (cs.drop 1).take 32 = cs.drop 1 := List.take_of_length_le (by rw [List.length_drop]; omega)
    rw [e1, List.take_append_drop]
  rw [e, hs, ho]
  rfl
theorem ids_of {v : Value} {d : DataW H} {p : List MemPlace} (hv : ∃ a n c, v = .slice a n c) (h : DataW.Trod enc Tryz.prog W 0 (fun _ => true) true 32 v d p) : ∃ E n ids, ids.length = n ∧ n ≤ 9223372036854775807 ∧ Rd v E 32 n (fl ic ids) W := by
  obtain ⟨E, n, os, h1, h2, h3, _⟩ := slice_of (R := fun _ => True) Tryz.underlying32 (by kernel_rfl) (by decide) ⟨zid, zid_len⟩ ic_len id_of hv h
  exact ⟨E, n, os, h1, h2, h3⟩
theorem lis_of {v : Value} {d : DataW H} {p : List MemPlace} (hv : ∃ a n c, v = .slice a n c) (h : DataW.Trod enc Tryz.prog W 0 (fun _ => true) true 22 v d p) : ∃ E n ids, ids.length = n ∧ n ≤ 9223372036854775807 ∧ Rd v E 33 n (fl lc ids) W := by
  obtain ⟨E, n, os, h1, h2, h3, _⟩ := slice_of (R := fun _ => True) Tryz.underlying22 (by kernel_rfl) (by decide) default lc_len li_of hv h
  exact ⟨E, n, os, h1, h2, h3⟩
theorem gl_of (h : W.ShapedOpen Tryz.prog) : Gl W :=
  Go.Proofs.cell_of_shapedOpen_int (zero := #[.int .i64 0]) (t := 3) h (of_decide_eq_true (by kernel_rfl)) (by kernel_rfl) rfl (by kernel_rfl) (by kernel_rfl) Tryz.underlying3
end
end Go.Proofs.YtibofabkpgigoaaGreatDoor
