/- What comes in, read as the walks want it; of no program. -/
import Derived.Test.YtbdpcpafjphmpaaDoorEnS
import Derived.Deep.Slices
import Derived.ChangeSlices
import Derived.ChangeArms
import Derived.OpenShut
import Derived.Below
import Derived.Carry
import Derived.ChangeMaps5
set_option linter.unusedSimpArgs false
set_option linter.unusedVariables false
namespace Go.En
open Go.ChangeShapes Go.WideShapes Go.Deep

/-- A slice whose cells are there reads as these cells. -/
theorem rd_of {W : World} {a : Addr} {len cap sz : Nat} (hsz : 0 < sz) (hl : len ≤ cap) (cs : Nat → List Value) (h1 : ∀ i, i < cap → (cs i).length = sz) (h : ∀ i, i < cap → ∀ j, j < sz → W.cell? (a.add (i * sz + j)) = (cs i)[j]?) :
    ∃ E, Rd (.slice (some a) len cap) E sz len ((List.range len).map cs).flatten W := by
  by_cases h0 : cap = 0
  · subst h0
    have : len = 0 := by omega
    subst this
    exact ⟨0, .inl ⟨⟨_, rfl⟩, rfl, rfl⟩⟩
  · have hc := h 0 (by omega) 0 hsz
    have hp0 : 0 < (cs 0).length := by rw [h1 0 (by omega)]; exact hsz
    have hv : (cs 0)[0]? = some (cs 0)[0] := List.getElem?_eq_getElem hp0
    rw [hv] at hc
    have hsp : a.spot = none := by simpa [Addr.add] using World.cell?_spot hc
    obtain ⟨b, off, spot⟩ := a
    simp only at hsp
    subst hsp
    have hcell : ∀ i, i < cap → ∀ j, j < sz → W.cell? ⟨b, off + (i * sz + j), none⟩ = (cs i)[j]? := fun i hi j hj => by
      have := h i hi j hj
      rwa [En.add_plain] at this
    have hb : ∃ c E fr, W.heap[b]? = some (.cells c E fr) := by
      have h2 := hcell 0 (by omega) 0 hsz
      rw [hv] at h2
      unfold World.cell? at h2
      split at h2
      · rename_i c E fr hh; exact ⟨c, E, fr, hh⟩
      · cases h2
    obtain ⟨⟨l⟩, E, fr, hh⟩ := hb
    have hget : ∀ i, i < cap → ∀ j, j < sz → l[off + (i * sz + j)]? = (cs i)[j]? := fun i hi j hj => by
      have := hcell i hi j hj
      simpa [World.cell?, hh] using this
    have hlen : off + cap * sz ≤ l.length := by
      have h2 := hget (cap - 1) (by omega) (sz - 1) (by omega)
      have hv2 : (cs (cap - 1))[sz - 1]? = some ((cs (cap - 1))[sz - 1]'(by rw [h1 _ (by omega)]; omega)) := List.getElem?_eq_getElem _
      rw [hv2] at h2
      have h3 := (List.getElem?_eq_some_iff.1 h2).1
      have h4 : (cap - 1) * sz + sz = cap * sz := by rw [← Nat.succ_mul]; congr 1; omega
      omega
    refine ⟨E, .inr ⟨b, off, cap, l, rfl, hl, hlen, ?_, ⟨fr, hh⟩⟩⟩
    have hfl : ∀ x ∈ (List.range len).map cs, x.length = sz := fun x hx => by
      simp only [List.mem_map, List.mem_range] at hx
      obtain ⟨i, hi, rfl⟩ := hx
      exact h1 i (by omega)
    have hll : ((List.range len).map cs).flatten.length = len * sz := by rw [flat_len hfl]; simp
    apply List.ext_getElem?
    intro k
    by_cases hk : k < len * sz
    · rw [List.getElem?_take_of_lt hk, List.getElem?_drop]
      have hi : k / sz < len := Nat.div_lt_of_lt_mul (by rwa [Nat.mul_comm] at hk)
      have hj : k % sz < sz := Nat.mod_lt _ hsz
      have hk' : k / sz * sz + k % sz = k := Nat.div_add_mod' k sz
      have hg := flat_get (ls := (List.range len).map cs) (k := sz) (i := k / sz) hfl (by simpa using hi) []
      rw [List.append_nil] at hg
      have h5 := hget (k / sz) (by omega) (k % sz) hj
      rw [hk'] at h5
      rw [h5]
      have h6 : (((List.range len).map cs).flatten)[k / sz * sz + k % sz]? = (List.take sz (List.drop (k / sz * sz) ((List.range len).map cs).flatten))[k % sz]? := by
        rw [List.getElem?_take_of_lt hj, List.getElem?_drop]
      rw [hk'] at h6
      rw [h6, hg]
      simp
    · rw [List.getElem?_eq_none (by simp; omega), List.getElem?_eq_none (by omega)]
section
variable {H : Type} {enc : TypeId × Value → H} {W : World} {P : Program}
theorem cells_at {a : Addr} {sz k : Nat} {cs : List Value} (hg : ∀ j, j < sz → W.cell? ((a.add k).add j) = cs[j]?) : ∀ j, j < sz → W.cell? (a.add (k + j)) = cs[j]? := fun j hj => by
  rw [← Go.Deep.add_add]
  exact hg j hj
/-- a slice of whatever elements -/
theorem slice_of {α : Type} {enc' : α → List Value} {R : α → Prop} {T e sz : Nat} {v : Value} {d : DataW H} {p : List MemPlace} (hT : P.underlying T = some (.slice e)) (hc : P.cellsOf e = sz) (h0 : 0 < sz) (o0 : α) (he : ∀ o, (enc' o).length = sz)
    (hel : ∀ {fuel : Nat} {cs : List Value} {x : DataW H × List MemPlace}, DataW.trod enc P W 0 (fun _ => true) true fuel e cs = some x → ∃ o, cs = enc' o ∧ R o)
    (hv : ∃ a n c, v = .slice a n c) (h : DataW.Trod enc P W 0 (fun _ => true) true T v d p) : ∃ E n os, os.length = n ∧ n ≤ 9223372036854775807 ∧ Rd v E sz n (fl enc' os) W ∧ ∀ o ∈ os, R o := by
  obtain ⟨fuel, h⟩ := h
  obtain ⟨a0, n0, c0, rfl⟩ := hv
  rcases open_slice hT h with ⟨hcs, _⟩ | ⟨a, len, cap, m, n, D, Pl, hcs, _, hl, hmx, hm, _, hi⟩
  · cases hcs
    exact ⟨0, 0, [], rfl, by decide, .inl ⟨⟨none, rfl⟩, rfl, rfl⟩, fun o ho => nomatch ho⟩
  · cases hcs
    have hm : m = c0 := by simpa using hm
    rw [hm] at hi
    rw [hc] at hi
    have hex : ∀ i : Nat, ∃ o : α, i < c0 → (∀ j, j < sz → W.cell? (a.add (i * sz + j)) = (enc' o)[j]?) ∧ R o := by
      intro i
      by_cases hlt : i < c0
      · obtain ⟨cs', hc, ht⟩ := hi i hlt
        obtain ⟨o, rfl, hr⟩ := hel ht
        obtain ⟨_, _, hg⟩ := World.cells?_some hc
        exact ⟨o, fun _ => ⟨cells_at hg, hr⟩⟩
      · exact ⟨o0, fun h => absurd h hlt⟩
    obtain ⟨os, hos⟩ := Classical.axiomOfChoice hex
    obtain ⟨E, hr⟩ := rd_of (W := W) (a := a) (sz := sz) h0 hl (fun i => enc' (os i)) (fun i _ => he _) (fun i hi j hj => (hos i hi).1 j hj)
    refine ⟨E, n0, (List.range n0).map os, by rw [List.length_map, List.length_range], ?_, ?_, fun o ho => ?_⟩
    · unfold maxLen at hmx
      omega
    · have e : fl enc' ((List.range n0).map os) = ((List.range n0).map fun i => enc' (os i)).flatten := by
        rw [fl, List.map_map]
        rfl
      rw [e]
      exact hr
    · simp only [List.mem_map, List.mem_range] at ho
      obtain ⟨i, hi, rfl⟩ := ho
      exact (hos i (by omega)).2
theorem int_of {fuel t : Nat} {k : IntKind} {cs : List Value} {x : Option (DataW H × List MemPlace)} (ht : P.underlying t = some (.int k)) (h : DataW.trod enc P W 0 (fun _ => true) true fuel t cs = x) (hx : x.isSome = true) : ∃ n, cs = [.int k n] := by
  obtain ⟨y, hy⟩ := Option.isSome_iff_exists.1 hx
  rw [hy] at h
  obtain ⟨n, hn, _⟩ := DataW.trod_int ht h
  exact ⟨n, hn⟩
theorem u8_rng {n : Int} (h : (Lit.int .u8 n).wf = true) : 0 ≤ n ∧ n ≤ 255 := by
  simp only [Lit.wf, Bool.and_eq_true, decide_eq_true_eq] at h
  have h1 : IntKind.u8.min = 0 := by decide
  have h2 : IntKind.u8.max = 255 := by decide
  rw [h1, h2] at h
  exact h
/-- an array of bytes -/
theorem bytes_of {fuel t e n : Nat} {cs : List Value} {x : DataW H × List MemPlace} (ht : P.underlying t = some (.array n e)) (he : P.underlying e = some (.int .u8)) (hc : P.cellsOf e = 1) (hct : P.cellsOf t = n) (h : DataW.trod enc P W 0 (fun _ => true) true fuel t cs = some x) :
    ∃ bs : List UInt8, bs.length = n ∧ cs = bys bs := by
  obtain ⟨xs, m, _, _, hcl, hxl, hi⟩ := DataW.trod_array ht h
  rw [hct] at hcl
  have hget : ∀ i (hi : i < cs.length), ∃ k : Int, cs[i] = .int .u8 k ∧ 0 ≤ k ∧ k ≤ 255 := by
    intro i hl
    have h1 := hi i (by omega)
    have h2 : i < xs.length := by omega
    rw [List.getElem?_eq_getElem h2] at h1
    obtain ⟨k, hk, _, hw⟩ := DataW.trod_int he h1
    rw [hc, Nat.mul_one] at hk
    refine ⟨k, ?_, u8_rng hw⟩
    have h3 := congrArg (fun l : List Value => l[0]?) hk
    simp only [List.getElem?_take, List.getElem?_drop, Nat.add_zero] at h3
    rw [if_pos (by omega), List.getElem?_eq_getElem hl] at h3
    simpa using h3
  refine ⟨cs.map fun v => match v with | .int _ k => UInt8.ofNat k.toNat | _ => 0, by rw [List.length_map, hcl], ?_⟩
  refine List.ext_getElem (by simp [bys]) fun i h1 h2 => ?_
  obtain ⟨k, hk, k0, k1⟩ := hget i h1
  simp only [bys, List.getElem_map, hk]
  congr 1
  simp
  omega
theorem below_of {w w' : World} (h : Fr w (fun _ => False) w') : Go.RowKit.Below w.heap.size w w' := ⟨h.os, h.tape, h.out, h.size, fun k hk => h.kept k hk fun h => h⟩
end
end Go.En
