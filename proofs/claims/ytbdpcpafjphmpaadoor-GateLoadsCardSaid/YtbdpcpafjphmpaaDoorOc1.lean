/- What comes in: records. -/
import Derived.Test.YtbdpcpafjphmpaaDoorOa2
import Derived.Test.YtbdpcpafjphmpaaDoorOb3
import Derived.Test.YtbdpcpafjphmpaaDoorEnR
set_option linter.unusedSimpArgs false
set_option linter.unusedVariables false
namespace Go.Proofs.YtbdpcpafjphmpaaDoor
open Go.En Go.ChangeShapes Go.WideShapes Go.Deep

theorem rng_i64 {n : Int} (h : (Lit.int .i64 n).wf = true) : -9223372036854775808 ≤ n ∧ n ≤ 9223372036854775807 := by
  simp only [Lit.wf, Bool.and_eq_true, decide_eq_true_eq] at h
  have h1 : IntKind.i64.min = -9223372036854775808 := by decide
  have h2 : IntKind.i64.max = 9223372036854775807 := by decide
  rw [h1, h2] at h
  exact h
theorem rng_u32 {n : Int} (h : (Lit.int .u32 n).wf = true) : 0 ≤ n ∧ n < 4294967296 := by
  simp only [Lit.wf, Bool.and_eq_true, decide_eq_true_eq] at h
  have h1 : IntKind.u32.min = 0 := by decide
  have h2 : IntKind.u32.max = 4294967295 := by decide
  rw [h1, h2] at h
  omega
theorem toN32 {k : Int} (h : 0 ≤ k) (h' : k < 4294967296) : k.toNat < 4294967296 := by
  have := Int.toNat_of_nonneg h
  omega
section
variable {H : Type} {enc : TypeId × Value → H} {W : World}
/-- an array of uint32 -/
theorem u4_of {fuel t n : Nat} {cs : List Value} {x : DataW H × List MemPlace} (ht : Tryd.prog.underlying t = some (.array n 25)) (hct : Tryd.prog.cellsOf t = n) (h : DataW.trod enc Tryd.prog W 0 (fun _ => true) true fuel t cs = some x) :
    ∃ l : List Nat, l.length = n ∧ (∀ y ∈ l, y < 4294967296) ∧ cs = u4 l := by
  obtain ⟨xs, m, _, _, hcl, hxl, hi⟩ := DataW.trod_array ht h
  have hc : Tryd.prog.cellsOf 25 = 1 := by kernel_rfl
  rw [hct] at hcl
  have hget : ∀ i (hi : i < cs.length), ∃ k : Int, cs[i] = .int .u32 k ∧ 0 ≤ k ∧ k < 4294967296 := by
    intro i hl
    have h1 := hi i (by omega)
    have h2 : i < xs.length := by omega
    rw [List.getElem?_eq_getElem h2] at h1
    obtain ⟨k, hk, _, hw⟩ := DataW.trod_int Tryd.underlying25 h1
    rw [hc, Nat.mul_one] at hk
    refine ⟨k, ?_, rng_u32 hw⟩
    have h3 := congrArg (fun l : List Value => l[0]?) hk
    simp only [List.getElem?_take, List.getElem?_drop, Nat.add_zero] at h3
    rw [if_pos (by omega), List.getElem?_eq_getElem hl] at h3
    simpa using h3
  refine ⟨cs.map fun v => match v with | .int _ k => k.toNat | _ => 0, by rw [List.length_map, hcl], fun y hy => ?_, ?_⟩
  · obtain ⟨v, hv, rfl⟩ := List.mem_map.1 hy
    obtain ⟨i, hi', rfl⟩ := List.mem_iff_getElem.1 hv
    obtain ⟨k, hk, k0, k1⟩ := hget i hi'
    rw [hk]
    have e : (match Value.int .u32 k with | .int _ k => k.toNat | _ => 0) = k.toNat := rfl
    rw [e]
    exact toN32 k0 k1
  · refine List.ext_getElem (by simp [u4]) fun i h1 h2 => ?_
    obtain ⟨k, hk, k0, k1⟩ := hget i h1
    simp only [u4, List.getElem_map, hk]
    rw [Int.toNat_of_nonneg k0]
theorem dot_of {fuel : Nat} {cs : List Value} {x : DataW H × List MemPlace} (h : DataW.trod enc Tryd.prog W 0 (fun _ => true) true fuel 24 cs = some x) :
    ∃ a b : Int, cs = dc a b ∧ (-9223372036854775808 ≤ a ∧ a ≤ 9223372036854775807) ∧ (-9223372036854775808 ≤ b ∧ b ≤ 9223372036854775807) := by
  obtain ⟨xs, n, _, _, hlen, hxl, hf⟩ := DataW.trod_struct Tryd.underlying24 h
  have c2 : Tryd.prog.cellsOf 24 = 2 := by kernel_rfl
  have c1 : Tryd.prog.cellsOf 3 = 1 := by kernel_rfl
  rw [c2] at hlen
  have h0 : DataW.trod enc Tryd.prog W 0 (fun _ => true) true n 3 (List.take (Tryd.prog.cellsOf 3) (List.drop 0 cs)) = xs[0]? := hf 0 _ rfl
  have h1 : DataW.trod enc Tryd.prog W 0 (fun _ => true) true n 3 (List.take (Tryd.prog.cellsOf 3) (List.drop 1 cs)) = xs[1]? := hf 1 _ rfl
  have hx : xs.length = 2 := hxl
  rw [List.getElem?_eq_getElem (by omega)] at h0 h1
  rw [c1] at h0 h1
  obtain ⟨a, ha, _, wa⟩ := DataW.trod_int Tryd.underlying3 h0
  obtain ⟨b, hb, _, wb⟩ := DataW.trod_int Tryd.underlying3 h1
  refine ⟨a, b, ?_, rng_i64 wa, rng_i64 wb⟩
  have e : cs = (cs.drop 0).take 1 ++ (cs.drop 1).take 1 := by
    rw [List.drop_zero, List.take_of_length_le (l := cs.drop 1) (by rw [List.length_drop]; omega), List.take_append_drop]
  rw [e, ha, hb]
  rfl
set_option maxRecDepth 100000 in
theorem rec_of {fuel : Nat} {cs : List Value} {x : DataW H × List MemPlace} (h : DataW.trod enc Tryd.prog W 0 (fun _ => true) true fuel 31 cs = some x) : ∃ o : Rec, cs = rc o ∧ True := by
  obtain ⟨xs, n, _, _, hlen, hxl, hf⟩ := DataW.trod_struct Tryd.underlying31 h
  have c52 : Tryd.prog.cellsOf 31 = 52 := by kernel_rfl
  have cd : Tryd.prog.cellsOf 24 = 2 := by kernel_rfl
  have cx : Tryd.prog.cellsOf 27 = 16 := by kernel_rfl
  have cst : Tryd.prog.cellsOf 9 = 1 := by kernel_rfl
  have cb : Tryd.prog.cellsOf 4 = 1 := by kernel_rfl
  have ci : Tryd.prog.cellsOf 29 = 32 := by kernel_rfl
  rw [c52] at hlen
  have h0 : DataW.trod enc Tryd.prog W 0 (fun _ => true) true n 24 (List.take (Tryd.prog.cellsOf 24) (List.drop 0 cs)) = xs[0]? := hf 0 _ rfl
  have h1 : DataW.trod enc Tryd.prog W 0 (fun _ => true) true n 27 (List.take (Tryd.prog.cellsOf 27) (List.drop 2 cs)) = xs[1]? := hf 1 _ rfl
  have h2 : DataW.trod enc Tryd.prog W 0 (fun _ => true) true n 9 (List.take (Tryd.prog.cellsOf 9) (List.drop 18 cs)) = xs[2]? := hf 2 _ rfl
  have h3 : DataW.trod enc Tryd.prog W 0 (fun _ => true) true n 4 (List.take (Tryd.prog.cellsOf 4) (List.drop 19 cs)) = xs[3]? := hf 3 _ rfl
  have h4 : DataW.trod enc Tryd.prog W 0 (fun _ => true) true n 29 (List.take (Tryd.prog.cellsOf 29) (List.drop 20 cs)) = xs[4]? := hf 4 _ rfl
  have hx : xs.length = 5 := hxl
  rw [List.getElem?_eq_getElem (by omega)] at h0 h1 h2 h3 h4
  rw [cd] at h0
  rw [cx] at h1
  rw [cst] at h2
  rw [cb] at h3
  rw [ci] at h4
  obtain ⟨a, b, e0, ba, bb⟩ := dot_of h0
  obtain ⟨l, ll, lb, e1⟩ := u4_of Tryd.underlying27 cx h1
  obtain ⟨s, e2, _⟩ := DataW.trod_string Tryd.underlying9 h2
  obtain ⟨q, e3, _⟩ := DataW.trod_bool Tryd.underlying4 h3
  obtain ⟨t, tl, e4⟩ := bytes_of Tryd.underlying29 Tryd.underlying5 (by kernel_rfl) (by kernel_rfl) h4
  refine ⟨⟨a, b, l, s.data.toList, q, t, ll, tl, lb, ba, bb⟩, ?_, trivial⟩
  have k : ∀ (i m : Nat), cs.drop i = (cs.drop i).take m ++ cs.drop (i + m) := fun i m => by rw [← List.drop_drop, List.take_append_drop]
  have e : cs = (cs.drop 0).take 2 ++ ((cs.drop 2).take 16 ++ ((cs.drop 18).take 1 ++ ((cs.drop 19).take 1 ++ (cs.drop 20).take 32))) := by
    have e5 : (cs.drop 20).take 32 = cs.drop 20 := List.take_of_length_le (by rw [List.length_drop]; omega)
    rw [e5, ← k 19 1, ← k 18 1, ← k 2 16, ← k 0 2, List.drop_zero]
  rw [e, e0, e1, e2, e3, e4]
  show _ = rc _
  unfold rc
  simp only [sv_of]
  rfl
theorem recs_of {v : Value} {d : DataW H} {p : List MemPlace} (hv : ∃ a n c, v = .slice a n c) (h : DataW.Trod enc Tryd.prog W 0 (fun _ => true) true 22 v d p) : ∃ E n os, os.length = n ∧ n ≤ 9223372036854775807 ∧ Rd v E 52 n (fl rc os) W := by
  obtain ⟨E, n, os, h1, h2, h3, _⟩ := slice_of (R := fun _ => True) Tryd.underlying22 (by kernel_rfl) (by decide) default rc_len rec_of hv h
  exact ⟨E, n, os, h1, h2, h3⟩
theorem gl_of (h : W.ShapedOpen Tryd.prog) : Gl W :=
  Go.Proofs.cell_of_shapedOpen_int (zero := #[.int .i64 0]) (t := 3) h (of_decide_eq_true (by kernel_rfl)) (by kernel_rfl) rfl (by kernel_rfl) (by kernel_rfl) Tryd.underlying3
end
end Go.Proofs.YtbdpcpafjphmpaaDoor
