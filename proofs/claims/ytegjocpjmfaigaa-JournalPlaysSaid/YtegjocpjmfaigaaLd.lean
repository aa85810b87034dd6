/- What came in, read as the walk wants it. -/
import Derived.Test.YtegjocpjmfaigaaLz
import Derived.Deep.Slices
import Derived.ChangeSlices
import Derived.ChangeArms
import Derived.Below
import Derived.Carry
set_option linter.unusedSimpArgs false
set_option linter.unusedVariables false
namespace Go.Proofs.Ytegjocpjmfaigaa
open Go.En Go.ChangeShapes Go.WideShapes Go.Deep

/-- A slice whose cells are there reads as these cells. -/
theorem rd_of {W : World} {a : Addr} {len cap sz : Nat} (hsz : 0 < sz) (hl : len ≤ cap) (cs : Nat → List Value) (h1 : ∀ i, i < cap → (cs i).length = sz) (h : ∀ i, i < cap → ∀ j, j < sz → W.cell? (a.add (i * sz + j)) = (cs i)[j]?) :
    ∃ E, Rd (.slice (some a) len cap) E sz len ((List.range len).map cs).flatten W := by
  by_cases h0 : cap = 0
  · subst h0
    have : len = 0 := by omega
    subst this
    exact ⟨0, .inl ⟨⟨_, rfl⟩, rfl, rfl⟩⟩
  · have hc := h 0 (by omega) 0 hsz
    have hp0 : 0 < (cs 0).length := by rw [h1 0 (by omega)]; exact hsz
    have hv : (cs 0)[0]? = some (cs 0)[0] := List.getElem?_eq_getElem hp0
    rw [hv] at hc
    have hsp : a.spot = none := by simpa [Addr.add] using World.cell?_spot hc
    obtain ⟨b, off, spot⟩ := a
    simp only at hsp
    subst hsp
    have hcell : ∀ i, i < cap → ∀ j, j < sz → W.cell? ⟨b, off + (i * sz + j), none⟩ = (cs i)[j]? := fun i hi j hj => by
      have := h i hi j hj
      rwa [En.add_plain] at this
    have hb : ∃ c E fr, W.heap[b]? = some (.cells c E fr) := by
      have h2 := hcell 0 (by omega) 0 hsz
      rw [hv] at h2
      unfold World.cell? at h2
      split at h2
      · rename_i c E fr hh; exact ⟨c, E, fr, hh⟩
      · cases h2
    obtain ⟨⟨l⟩, E, fr, hh⟩ := hb
    have hget : ∀ i, i < cap → ∀ j, j < sz → l[off + (i * sz + j)]? = (cs i)[j]? := fun i hi j hj => by
      have := hcell i hi j hj
      simpa [World.cell?, hh] using this
    have hlen : off + cap * sz ≤ l.length := by
      have h2 := hget (cap - 1) (by omega) (sz - 1) (by omega)
      have hv2 : (cs (cap - 1))[sz - 1]? = some ((cs (cap - 1))[sz - 1]'(by rw [h1 _ (by omega)]; omega)) := List.getElem?_eq_getElem _
      rw [hv2] at h2
      have h3 := (List.getElem?_eq_some_iff.1 h2).1
      have h4 : (cap - 1) * sz + sz = cap * sz := by rw [← Nat.succ_mul]; congr 1; omega
      omega
    refine ⟨E, .inr ⟨b, off, cap, l, rfl, hl, hlen, ?_, ⟨fr, hh⟩⟩⟩
    have hfl : ∀ x ∈ (List.range len).map cs, x.length = sz := fun x hx => by
      simp only [List.mem_map, List.mem_range] at hx
      obtain ⟨i, hi, rfl⟩ := hx
      exact h1 i (by omega)
    have hll : ((List.range len).map cs).flatten.length = len * sz := by rw [flat_len hfl]; simp
    apply List.ext_getElem?
    intro k
    by_cases hk : k < len * sz
    · rw [List.getElem?_take_of_lt hk, List.getElem?_drop]
      have hi : k / sz < len := Nat.div_lt_of_lt_mul (by rwa [Nat.mul_comm] at hk)
      have hj : k % sz < sz := Nat.mod_lt _ hsz
      have hk' : k / sz * sz + k % sz = k := Nat.div_add_mod' k sz
      have hg := flat_get (ls := (List.range len).map cs) (k := sz) (i := k / sz) hfl (by simpa using hi) []
      rw [List.append_nil] at hg
      have h5 := hget (k / sz) (by omega) (k % sz) hj
      rw [hk'] at h5
      rw [h5]
      have h6 : (((List.range len).map cs).flatten)[k / sz * sz + k % sz]? = (List.take sz (List.drop (k / sz * sz) ((List.range len).map cs).flatten))[k % sz]? := by
        rw [List.getElem?_take_of_lt hj, List.getElem?_drop]
      rw [hk'] at h6
      rw [h6, hg]
      simp
    · rw [List.getElem?_eq_none (by simp; omega), List.getElem?_eq_none (by omega)]
section
variable {H : Type} {enc : TypeId × Value → H} {W : World}
theorem u8_rng {n : Int} (h : (Lit.int .u8 n).wf = true) : 0 ≤ n ∧ n ≤ 255 := by
  simp only [Lit.wf, Bool.and_eq_true, decide_eq_true_eq] at h
  have h1 : IntKind.u8.min = 0 := by decide
  have h2 : IntKind.u8.max = 255 := by decide
  rw [h1, h2] at h
  exact h
theorem rd_bytes {fuel : Nat} {v : Value} {x : DataW H × List MemPlace} (h : DataW.trod enc Try.prog W 0 (fun _ => true) true fuel 35 [v] = some x) : ∃ E bs, Rd v E 1 bs.length (bys bs) W := by
  rcases open_ints Try.underlying35 Try.underlying5 (by kernel_rfl) h with ⟨hcs, _⟩ | ⟨a, len, cap, zs, hcs, _, hl, _, hz, _, hcell, hwz⟩
  · cases hcs
    exact ⟨0, [], .inl ⟨⟨none, rfl⟩, rfl, rfl⟩⟩
  · cases hcs
    have hz : zs.length = cap := by simpa using hz
    obtain ⟨E, hr⟩ := rd_of (W := W) (a := a) (sz := 1) (by decide) hl (fun i => [.int .u8 (zs.getD i 0)]) (fun i _ => rfl) (fun i hi j hj => by
      have : j = 0 := by omega
      subst this
      rw [Nat.mul_one, Nat.add_zero, hcell i (by omega)]
      rfl)
    refine ⟨E, (zs.take len).map fun n => UInt8.ofNat n.toNat, ?_⟩
    have hlen : ((zs.take len).map fun n => UInt8.ofNat n.toNat).length = len := by simp; omega
    rw [hlen]
    have e : ((List.range len).map fun i => [Value.int .u8 (zs.getD i 0)]).flatten = bys ((zs.take len).map fun n => UInt8.ofNat n.toNat) := by
      rw [← List.flatMap_def, ← List.map_eq_flatMap]
      apply List.ext_getElem?
      intro k
      by_cases hk : k < len
      · have hkz : k < zs.length := by omega
        simp [bys, hk, hkz]
        have := u8_rng (hwz _ (List.getElem_mem hkz))
        omega
      · simp [bys, hk]
        omega
    rw [← e]
    exact hr
theorem int_of {fuel t : Nat} {k : IntKind} {cs : List Value} {x : Option (DataW H × List MemPlace)} (ht : Try.prog.underlying t = some (.int k)) (h : DataW.trod enc Try.prog W 0 (fun _ => true) true fuel t cs = x) (hx : x.isSome = true) : ∃ n, cs = [.int k n] := by
  obtain ⟨y, hy⟩ := Option.isSome_iff_exists.1 hx
  rw [hy] at h
  obtain ⟨n, hn, _⟩ := DataW.trod_int ht h
  exact ⟨n, hn⟩
theorem six {α : Type} {l : List α} (h : l.length = 6) : ∃ a b c d e f, l = [a, b, c, d, e, f] := by
  match l, h with
  | [a, b, c, d, e, f], _ => exact ⟨a, b, c, d, e, f, rfl⟩
theorem three {α : Type} {l : List α} (h : l.length = 3) : ∃ a b c, l = [a, b, c] := by
  match l, h with
  | [a, b, c], _ => exact ⟨a, b, c, rfl⟩
set_option maxRecDepth 100000 in
theorem op_of {fuel : Nat} {cs : List Value} {x : DataW H × List MemPlace} (h : DataW.trod enc Try.prog W 0 (fun _ => true) true fuel 39 cs = some x) : ∃ o : Opd, cs = opv o ∧ ∃ E, Rd o.v E 1 o.bs.length (bys o.bs) W := by
  obtain ⟨xs, n, _, _, hlen, hxl, hf⟩ := DataW.trod_struct Try.underlying39 h
  have c39 : Try.prog.cellsOf 39 = 6 := by kernel_rfl
  have c3 : Try.prog.cellsOf 3 = 1 := by kernel_rfl
  have c35 : Try.prog.cellsOf 35 = 1 := by kernel_rfl
  have c37 : Try.prog.cellsOf 37 = 3 := by kernel_rfl
  rw [c39] at hlen
  obtain ⟨v0, v1, v2, v3, v4, v5, rfl⟩ := six hlen
  have h0 : DataW.trod enc Try.prog W 0 (fun _ => true) true n 3 (List.take (Try.prog.cellsOf 3) (List.drop 0 [v0, v1, v2, v3, v4, v5])) = xs[0]? := hf 0 _ rfl
  have h1 : DataW.trod enc Try.prog W 0 (fun _ => true) true n 3 (List.take (Try.prog.cellsOf 3) (List.drop 1 [v0, v1, v2, v3, v4, v5])) = xs[1]? := hf 1 _ rfl
  have h2 : DataW.trod enc Try.prog W 0 (fun _ => true) true n 35 (List.take (Try.prog.cellsOf 35) (List.drop 2 [v0, v1, v2, v3, v4, v5])) = xs[2]? := hf 2 _ rfl
  have h3 : DataW.trod enc Try.prog W 0 (fun _ => true) true n 37 (List.take (Try.prog.cellsOf 37) (List.drop 3 [v0, v1, v2, v3, v4, v5])) = xs[3]? := hf 3 _ rfl
  have hs : ∀ i, i < 4 → (xs[i]?).isSome = true := fun i hi => by
    have : i < xs.length := by rw [hxl]; exact hi
    simp [this]
  rw [c3] at h0 h1
  rw [c35] at h2
  rw [c37] at h3
  obtain ⟨k, e0⟩ := int_of Try.underlying3 h0 (hs 0 (by decide))
  obtain ⟨a, e1⟩ := int_of Try.underlying3 h1 (hs 1 (by decide))
  obtain ⟨y2, hy2⟩ := Option.isSome_iff_exists.1 (hs 2 (by decide))
  obtain ⟨y3, hy3⟩ := Option.isSome_iff_exists.1 (hs 3 (by decide))
  rw [hy2] at h2
  rw [hy3] at h3
  obtain ⟨E, bs, hr⟩ := rd_bytes (v := v2) h2
  obtain ⟨zs, m, _, _, _, hzl, hg⟩ := DataW.trod_struct Try.underlying37 h3
  have g0 : DataW.trod enc Try.prog W 0 (fun _ => true) true m 3 (List.take (Try.prog.cellsOf 3) (List.drop 0 [v3, v4, v5])) = zs[0]? := hg 0 _ rfl
  have g1 : DataW.trod enc Try.prog W 0 (fun _ => true) true m 3 (List.take (Try.prog.cellsOf 3) (List.drop 1 [v3, v4, v5])) = zs[1]? := hg 1 _ rfl
  have g2 : DataW.trod enc Try.prog W 0 (fun _ => true) true m 3 (List.take (Try.prog.cellsOf 3) (List.drop 2 [v3, v4, v5])) = zs[2]? := hg 2 _ rfl
  have ht : ∀ i, i < 3 → (zs[i]?).isSome = true := fun i hi => by
    have : i < zs.length := by rw [hzl]; exact hi
    simp [this]
  rw [c3] at g0 g1 g2
  obtain ⟨fa, f0⟩ := int_of Try.underlying3 g0 (ht 0 (by decide))
  obtain ⟨fk, f1⟩ := int_of Try.underlying3 g1 (ht 1 (by decide))
  obtain ⟨ft, f2⟩ := int_of Try.underlying3 g2 (ht 2 (by decide))
  cases e0; cases e1; cases f0; cases f1; cases f2
  exact ⟨⟨k, a, v2, bs, ⟨fa, fk, ft⟩⟩, rfl, E, hr⟩
theorem ops_of {v : Value} {d : DataW H} {p : List MemPlace} (hv : ∃ a n c, v = .slice a n c) (h : DataW.Trod enc Try.prog W 0 (fun _ => true) true 22 v d p) : ∃ E ops, OpsR E v ops W := by
  obtain ⟨fuel, h⟩ := h
  obtain ⟨a0, n0, c0, rfl⟩ := hv
  have c39 : Try.prog.cellsOf 39 = 6 := by kernel_rfl
  rcases open_slice Try.underlying22 h with ⟨hcs, _⟩ | ⟨a, len, cap, m, n, D, Pl, hcs, _, hl, _, hm, _, hi⟩
  · cases hcs
    exact ⟨0, [], .inl ⟨⟨none, rfl⟩, rfl, rfl⟩, fun o ho => nomatch ho⟩
  · cases hcs
    have hm : m = c0 := by simpa using hm
    rw [hm] at hi
    rw [c39] at hi
    have hex : ∀ i : Nat, ∃ o : Opd, i < c0 → (∀ j, j < 6 → W.cell? (a.add (i * 6 + j)) = (opv o)[j]?) ∧ ∃ E, Rd o.v E 1 o.bs.length (bys o.bs) W := by
      intro i
      by_cases hlt : i < c0
      · obtain ⟨cs', hc, ht⟩ := hi i hlt
        obtain ⟨o, rfl, hr⟩ := op_of ht
        obtain ⟨_, _, hg⟩ := World.cells?_some hc
        refine ⟨o, fun _ => ⟨fun j hj => ?_, hr⟩⟩
        rw [← Go.Deep.add_add]
        exact hg j hj
      · exact ⟨⟨0, 0, .nilFunc, [], ⟨0, 0, 0⟩⟩, fun h => absurd h hlt⟩
    obtain ⟨os, hos⟩ := Classical.axiomOfChoice hex
    obtain ⟨E, hr⟩ := rd_of (W := W) (a := a) (sz := 6) (by decide) hl (fun i => opv (os i)) (fun i _ => rfl) (fun i hi j hj => (hos i hi).1 j hj)
    refine ⟨E, (List.range n0).map os, ?_, fun o ho => ?_⟩
    · have e : opsF ((List.range n0).map os) = ((List.range n0).map fun i => opv (os i)).flatten := by
        rw [opsF, List.map_map]
        rfl
      rw [e, List.length_map, List.length_range]
      exact hr
    · simp only [List.mem_map, List.mem_range] at ho
      obtain ⟨i, hi, rfl⟩ := ho
      exact (hos i (by omega)).2
theorem below_of {w w' : World} (h : Fr w (fun _ => False) w') : Go.RowKit.Below w.heap.size w w' := ⟨h.os, h.tape, h.out, h.size, fun k hk => h.kept k hk fun h => h⟩
end
end Go.Proofs.Ytegjocpjmfaigaa
