/- Rows of strings, sorted and made single. -/
import Derived.Test.YtibofabkpgigoaaGreatDoorNb9
set_option linter.unusedSimpArgs false
set_option linter.unusedVariables false
namespace Go.Proofs.YtibofabkpgigoaaGreatDoor
open Go.En Go.Sort

theorem lt_cb : ∀ a b : Bs, a < b ↔ Lib.compareBytes a b < 0
  | [], [] => by simp [Lib.compareBytes]
  | [], _ :: _ => by simp [Lib.compareBytes]
  | _ :: _, [] => by simp [Lib.compareBytes]
  | x :: a, y :: b => by
    have ih := lt_cb a b
    rw [List.cons_lt_cons_iff, ih]
    show _ ↔ (if x < y then (-1 : Int) else if y < x then 1 else Lib.compareBytes a b) < 0
    by_cases h1 : x < y
    · simp [h1]
    · by_cases h2 : y < x
      · have : ¬ x = y := by rintro rfl; exact h1 h2
        simp [h1, h2, this]
      · have e : x = y := by
          rw [UInt8.lt_iff_toNat_lt] at h1 h2
          exact UInt8.toNat_inj.1 (by omega)
        subst e
        simp
theorem le_ble (a b : Bs) : decide (a ≤ b) = ble a b := by
  unfold ble
  refine decide_eq_decide.2 ?_
  have h2 := cb_neg a b
  rw [← List.not_lt, lt_cb b a]
  omega
theorem srt_str (l : List Bs) : (l.mergeSort fun x y => decide (x ≤ y)) = srt (fun s : Bs => s) l := by
  unfold srt
  congr 1
  funext x y
  exact le_ble x y
theorem compact_ddn (l : List Bs) : ∀ p, p ≤ l.length → Lib.compactUpTo l.toArray p = ddn l p
  | 0, _ => rfl
  | p + 1, h => by
    have ih := compact_ddn l p (by omega)
    unfold Lib.compactUpTo at ih ⊢
    unfold ddn
    rw [List.range_succ, List.filter_append, List.map_append, ih]
    have hp : l.toArray[p]! = l[p] := by simp [show p < l.length by omega]
    have e0 : l[p]? = some l[p] := List.getElem?_eq_getElem (by omega)
    have hk : Lib.keeps l.toArray p = decide (p = 0 ∨ l[p]? ≠ l[p - 1]?) := by
      unfold Lib.keeps
      refine decide_eq_decide.2 ?_
      by_cases h0 : p = 0
      · simp [h0]
      · have hq : l.toArray[p - 1]! = l[p - 1] := by simp [show p - 1 < l.length by omega]
        rw [hp, hq, e0, List.getElem?_eq_getElem (by omega)]
        simp [h0]
    by_cases hc : p = 0 ∨ l[p]? ≠ l[p - 1]?
    · rw [if_pos hc, List.filter_cons_of_pos (by rw [hk]; exact decide_eq_true hc), e0]
      simp only [List.filter_nil, List.map_cons, List.map_nil, Option.toList_some, hp]
    · rw [if_neg hc, List.filter_cons_of_neg (by rw [hk, decide_eq_false hc]; decide)]
      simp
section
variable {w w0 : World} {S0 : Nat → Prop} {L : List Res} {K : Value → World → Prop}
theorem svs_len (d : List Bs) : (d.map sv).length = d.length := List.length_map _
/-- A world in which a row of strings holds others. -/
theorem putS_St {i b cap E n m : Nat} {rest : List Value} {d d' : List Bs} {os : Array Obj} (hS : St w0 S0 w L) (hi : L[i]? = some (row (.slice (some ⟨b, 0, none⟩) n cap) E 1 n (d.map sv)))
    (hn : n ≤ cap) (hd : d.length = n) (hl : (d.map sv ++ rest).length = cap * 1) (hb : Blk w b (d.map sv ++ rest) E) (hd' : d'.length = n) :
    St w0 S0 (grow (putRow encStr (Sort.ahead w m) b 0 d'.toArray) os) (L.set i (row (.slice (some ⟨b, 0, none⟩) n cap) E 1 n (d'.map sv))) := by
  have e1 : putCells encStr 0 d'.toArray ⟨d.map sv ++ rest⟩ = ⟨d'.map sv ++ rest⟩ := by
    refine Array.ext_getElem? fun j => ?_
    unfold putCells
    rw [Array.getElem?_mapIdx]
    simp only [List.getElem?_toArray, List.size_toArray, Nat.zero_add, Nat.sub_zero, Nat.zero_le, true_and]
    by_cases hj : j < n
    · rw [List.getElem?_append_left (by rw [svs_len]; omega), List.getElem?_append_left (by rw [svs_len]; omega), List.getElem?_map, List.getElem?_map, List.getElem?_eq_getElem (by omega), List.getElem?_eq_getElem (by omega)]
      simp only [Option.map_some]
      rw [if_pos (by omega)]
      congr 1
      simp [show j < d'.length by omega, encStr, sv]
    · rw [List.getElem?_append_right (by rw [svs_len]; omega), List.getElem?_append_right (by rw [svs_len]; omega), svs_len, svs_len, hd, hd']
      cases rest[j - n]? with
      | none => rfl
      | some x => rw [Option.map_some, if_neg (by omega)]
  obtain ⟨fr, hh, hf⟩ := hb
  have hlt : b < w.heap.size := (Array.getElem?_eq_some_iff.1 hh).1
  have ehb : (grow (putRow encStr (Sort.ahead w m) b 0 d'.toArray) os).heap[b]? = some (.cells ⟨d'.map sv ++ rest⟩ E fr) := by
    show (w.heap.modify b _ ++ os)[b]? = _
    rw [Array.getElem?_append_left (by rw [Array.size_modify]; exact hlt), Array.getElem?_modify, if_pos rfl, hh]
    show some (Obj.cells (putCells encStr 0 _ ⟨d.map sv ++ rest⟩) E fr) = _
    rw [e1]
  have hlen : (d'.map sv ++ rest).length = (d.map sv ++ rest).length := by
    rw [List.length_append, List.length_append, svs_len, svs_len, hd, hd']
  refine hS.turn hi ⟨?_, ?_, rfl, rfl, rfl, ?_⟩ (fun b' h => .inl h) ?_ ?_
  · show w.heap.size ≤ (w.heap.modify b _ ++ os).size
    rw [Array.size_append, Array.size_modify]; omega
  · intro b' hb' hn'
    show (w.heap.modify b _ ++ os)[b']? = _
    rw [Array.getElem?_append_left (by rw [Array.size_modify]; exact hb'), Array.getElem?_modify, if_neg]
    rintro rfl
    exact hn' rfl
  · show w.drawn ≤ w.drawn + m
    omega
  · rintro b' h
    have h : b' = b := h
    subst h
    exact (Array.getElem?_eq_some_iff.1 ehb).1
  · refine .inr ⟨b, cap, rest, rfl, hn, ?_, by rw [hlen, hl], fr, ehb, ?_⟩
    · rw [svs_len, hd', Nat.mul_one]
    · rw [hlen]; exact hf
theorem holds_str {b E : Nat} {rest : List Value} (d : List Bs) (hb : Blk w b (d.map sv ++ rest) E) : Holds encStr w b 0 d.toArray := by
  intro j hj
  simp only [List.size_toArray] at hj
  have hc : (d.map sv ++ rest)[j]? = some (encStr d.toArray[j]!) := by
    rw [List.getElem?_append_left (by rw [svs_len]; exact hj), List.getElem?_map, List.getElem?_eq_getElem hj]
    simp [hj, encStr, sv]
  rw [Nat.zero_add]
  exact ⟨(hb.r.cell j).trans hc, hb.free (by rw [List.length_append, svs_len]; omega)⟩
end
end Go.Proofs.YtibofabkpgigoaaGreatDoor
