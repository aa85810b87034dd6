/- slices.SortFunc at structs, as a contract of the engine's. -/
import Derived.Test.YtbdpcpafjphmpaaDoorEnP
import Derived.Shelf.SlSortCmp.WholeK
set_option linter.unusedSimpArgs false
set_option linter.unusedVariables false
namespace Go.En
open Go.Proofs Go.Shelf Go.Lib Go.Sort

def fl {α : Type} (enc : α → List Value) (d : List α) : List Value := (d.map enc).flatten
section
variable {α : Type} {enc : α → List Value} {k : Nat}
theorem fl_cons (x : α) (d : List α) : fl enc (x :: d) = enc x ++ fl enc d := by simp [fl]
theorem fl_app (d e : List α) : fl enc (d ++ e) = fl enc d ++ fl enc e := by simp [fl]
theorem fl_len (hk : ∀ x, (enc x).length = k) : ∀ d : List α, (fl enc d).length = d.length * k
  | [] => by simp [fl]
  | x :: d => by rw [fl_cons, List.length_append, hk, fl_len hk d, List.length_cons, Nat.add_mul, Nat.one_mul, Nat.add_comm]
theorem fl_drop (hk : ∀ x, (enc x).length = k) : ∀ (i : Nat) (d : List α), (fl enc d).drop (i * k) = fl enc (d.drop i)
  | 0, d => by simp
  | i + 1, [] => by simp [fl]
  | i + 1, x :: d => by
    rw [fl_cons, List.drop_succ_cons, ← fl_drop hk i d, Nat.add_mul, Nat.one_mul, Nat.add_comm, ← List.drop_drop]
    rw [show (enc x ++ fl enc d).drop k = fl enc d by rw [← hk x, List.drop_left]]
theorem fl_take (hk : ∀ x, (enc x).length = k) : ∀ (i : Nat) (d : List α), (fl enc d).take (i * k) = fl enc (d.take i)
  | 0, d => by simp [fl]
  | i + 1, [] => by simp [fl]
  | i + 1, x :: d => by
    rw [fl_cons, List.take_succ_cons, fl_cons, ← fl_take hk i d, Nat.add_mul, Nat.one_mul, Nat.add_comm]
    rw [← hk x, List.take_length_add_append]
theorem fl_at (hk : ∀ x, (enc x).length = k) (d : List α) (i : Nat) (x : α) (hx : d[i]? = some x) : ((fl enc d).drop (i * k)).take k = enc x := by
  have hl : i < d.length := by
    by_cases h : i < d.length
    · exact h
    · rw [List.getElem?_eq_none (by omega)] at hx; cases hx
  rw [fl_drop hk, List.drop_eq_getElem_cons hl, fl_cons, ← hk x]
  rw [List.getElem?_eq_getElem hl] at hx
  cases hx
  rw [List.take_left]
theorem fl_one (h1 : ∀ x, ∀ v ∈ enc x, v.oneCell' = true) (d : List α) : (fl enc d).all (·.oneCell') = true := by
  rw [List.all_eq_true]
  intro v hv
  unfold fl at hv
  obtain ⟨l, hl, hv⟩ := List.mem_flatten.1 hv
  obtain ⟨x, _, rfl⟩ := List.mem_map.1 hl
  exact h1 x v hv
theorem fl_get (hk : ∀ x, (enc x).length = k) : ∀ (d : List α) (t : Nat), t < d.length * k → ∀ x, d[t / k]? = some x → (fl enc d)[t]? = (enc x)[t % k]?
  | [], t, h, x, hx => by simp at h
  | y :: d, t, h, x, hx => by
    have hk0 : 0 < k := by rcases Nat.eq_zero_or_pos k with rfl | h0 <;> simp_all
    rw [fl_cons]
    by_cases ht : t < k
    · rw [Nat.div_eq_of_lt ht] at hx
      rw [Nat.mod_eq_of_lt ht, List.getElem?_append_left (by rw [hk]; exact ht)]
      simp at hx
      rw [hx]
    · obtain ⟨s, rfl⟩ : ∃ s, t = s + k := ⟨t - k, by omega⟩
      rw [Nat.add_div_right _ hk0] at hx
      rw [List.getElem?_append_right (by rw [hk]; omega), hk, Nat.add_sub_cancel, Nat.add_mod_right]
      refine fl_get hk d s ?_ x ?_
      · rw [List.length_cons, Nat.add_mul, Nat.one_mul] at h; omega
      · simpa using hx
variable [Inhabited α]
theorem flatK_fl (hk : ∀ x, (enc x).length = k) (d : Array α) : Go.Sort.flatK enc k d = (fl enc d.toList).toArray := by
  refine ext_get! ?_ fun t ht => ?_
  · rw [size_flatK]
    show d.size * k = (fl enc d.toList).length
    rw [fl_len hk]
    rfl
  · rw [size_flatK] at ht
    rw [get_flatK enc k d t ht]
    have hk0 : 0 < k := by rcases Nat.eq_zero_or_pos k with rfl | h0 <;> simp_all
    have hd : t / k < d.size := by rwa [Nat.div_lt_iff_lt_mul hk0]
    have hm : t % k < (enc d[t / k]!).length := by rw [hk]; exact Nat.mod_lt _ hk0
    have := fl_get hk d.toList t (by simpa using ht) d[t / k]! (by simp [hd])
    have e : (fl enc d.toList).toArray[t]! = (fl enc d.toList)[t]?.getD default := by rw [List.getElem!_toArray, List.getElem!_eq_getElem?_getD]
    rw [e, this, List.getElem?_eq_getElem hm, Option.getD_some]
    exact getElem!_pos (enc d[t / k]!) (t % k) hm
end
theorem fr_grow {W W' : World} (h : Fr W (fun _ => False) W') : ∃ q os, W' = grow (W.drewN q) os := by
  refine ⟨W'.drawn - W.drawn, W'.heap.extract W.heap.size, ?_⟩
  have hd := h.dr
  have e1 : W'.heap = W.heap ++ W'.heap.extract W.heap.size := by
    refine Array.ext_getElem? fun i => ?_
    by_cases hi : i < W.heap.size
    · rw [Array.getElem?_append_left hi]
      exact h.kept i hi (fun h => h)
    · rw [Array.getElem?_append_right (by omega)]
      have := h.size
      simp only [Array.getElem?_extract]
      split
      · congr 1; omega
      · rw [Array.getElem?_eq_none (by omega)]
  obtain ⟨hp, tp, dn, os, out⟩ := W'
  simp only at e1 hd
  have e2 := h.os; have e3 := h.out; have e4 := h.tape
  simp only at e2 e3 e4
  subst e2 e3 e4
  unfold grow
  have e5 : W.drawn + (dn - W.drawn) = dn := by omega
  rw [World.mk.injEq]
  exact ⟨e1, rfl, e5.symm, rfl, rfl⟩
section
variable {α : Type} [Inhabited α] {enc : α → List Value} {k : Nat} {w w0 : World} {S0 : Nat → Prop} {L : List Res} {K : Value → World → Prop} {P : Program} {ρ : Ren}
theorem holds_blk {b E : Nat} {rest : List Value} (hk : ∀ x, (enc x).length = k) (d : List α) (hb : Blk w b (fl enc d ++ rest) E) : HoldsK enc k w b 0 d.toArray := by
  unfold HoldsK
  rw [flatK_fl hk]
  intro j hj
  simp only [List.size_toArray] at hj
  have hc : (fl enc d ++ rest)[j]? = some (fl enc d).toArray[j]! := by
    rw [List.getElem?_append_left hj, List.getElem?_eq_getElem hj]
    simp [hj]
  rw [Nat.zero_add]
  exact ⟨(hb.r.cell j).trans hc, hb.free (by rw [List.length_append]; omega)⟩
/-- A world of the sort's. -/
theorem sortW_St {i b cap E n m : Nat} {rest : List Value} {d d' : List α} {os : Array Obj} (hk : ∀ x, (enc x).length = k) (hS : St w0 S0 w L) (hi : L[i]? = some (row (.slice (some ⟨b, 0, none⟩) n cap) E k n (fl enc d)))
    (hn : n ≤ cap) (hd : d.length = n) (hl : (fl enc d ++ rest).length = cap * k) (hb : Blk w b (fl enc d ++ rest) E) (hd' : d'.length = n) :
    St w0 S0 (sortWorldK enc k w b 0 m d'.toArray os) (L.set i (row (.slice (some ⟨b, 0, none⟩) n cap) E k n (fl enc d'))) := by
  have e1 : ∀ c : List Value, c = fl enc d ++ rest → putCells id 0 (Go.Sort.flatK enc k d'.toArray) ⟨c⟩ = ⟨fl enc d' ++ rest⟩ := by
    rintro _ rfl
    rw [flatK_fl hk]
    have l1 := fl_len hk d
    have l2 := fl_len hk d'
    rw [hd] at l1; rw [hd'] at l2
    refine Array.ext_getElem? fun j => ?_
    unfold putCells
    rw [Array.getElem?_mapIdx]
    simp only [List.getElem?_toArray, List.size_toArray, Nat.zero_add, Nat.sub_zero, Nat.zero_le, true_and, id]
    by_cases hj : j < (fl enc d').length
    · rw [List.getElem?_append_left hj, List.getElem?_append_left (by omega), List.getElem?_eq_getElem (by omega), List.getElem?_eq_getElem hj, Option.map_some, if_pos hj]
      congr 1
      simp [hj]
    · rw [List.getElem?_append_right (by omega), List.getElem?_append_right (by omega), l1, l2]
      cases rest[j - n * k]? with
      | none => rfl
      | some x => rw [Option.map_some, if_neg (by omega)]
  obtain ⟨fr, hh, hf⟩ := hb
  have hlt : b < w.heap.size := (Array.getElem?_eq_some_iff.1 hh).1
  have ehb : (sortWorldK enc k w b 0 m d'.toArray os).heap[b]? = some (.cells ⟨fl enc d' ++ rest⟩ E fr) := by
    show (w.heap.modify b _ ++ os)[b]? = _
    rw [Array.getElem?_append_left (by rw [Array.size_modify]; exact hlt), Array.getElem?_modify, if_pos rfl, hh]
    show some (Obj.cells (putCells id 0 _ ⟨fl enc d ++ rest⟩) E fr) = _
    rw [e1 _ rfl]
  have hlen : (fl enc d' ++ rest).length = (fl enc d ++ rest).length := by
    rw [List.length_append, List.length_append, fl_len hk, fl_len hk, hd, hd']
  refine hS.turn hi ⟨?_, ?_, rfl, rfl, rfl, ?_⟩ (fun b' h => .inl h) ?_ ?_
  · show w.heap.size ≤ (w.heap.modify b _ ++ os).size
    rw [Array.size_append, Array.size_modify]; omega
  · intro b' hb' hn'
    show (w.heap.modify b _ ++ os)[b']? = _
    rw [Array.getElem?_append_left (by rw [Array.size_modify]; exact hb'), Array.getElem?_modify, if_neg]
    rintro rfl
    exact hn' rfl
  · show w.drawn ≤ w.drawn + m
    omega
  · rintro b' h
    have h : b' = b := h
    subst h
    exact (Array.getElem?_eq_some_iff.1 ehb).1
  · refine .inr ⟨b, cap, rest, rfl, hn, ?_, by rw [hlen, hl], fr, ehb, ?_⟩
    · rw [fl_len hk, hd']
    · rw [hlen]; exact hf
theorem ck_sortF (M : SlLaysF0.n6 P ρ) (aE : ∀ w, (isAgg (ρ.t 24)).run P w = .ok true w) (zE : ∀ w, (Go.sizeOf (ρ.t 24)).run P w = .ok k w) (hk : ∀ x, (enc x).length = k) (h1 : ∀ x, ∀ v ∈ enc x, v.oneCell' = true) (cf : α → α → Int) (hO : SWO (ltOf cf)) {g : Nat}
    (eg : ∀ args w, (callFunc g args).run P w = .ok (.enter g args) w) (hcmp : ∀ (W : World) (x y : α) (K : Value → World → Prop), (∀ w', St W (fun _ => False) w' [] → K (.int .i64 (cf x y)) w') → CK P g [.agg ⟨enc x⟩, .agg ⟨enc y⟩] W K)
    {i b cap E n : Nat} {d : List α} (hS : St w0 S0 w L) (hi : L[i]? = some (row (.slice (some ⟨b, 0, none⟩) n cap) E k n (fl enc d))) (hd : d.length = n) (hn : n < 4611686018427387904)
    (h : ∀ d' w', d'.Perm d → d'.Pairwise (fun x y => ltOf cf y x = false) → St w0 S0 w' (L.set i (row (.slice (some ⟨b, 0, none⟩) n cap) E k n (fl enc d'))) → K (.tuple ⟨[]⟩) w') :
    CK P (ρ.f 6) [.slice (some ⟨b, 0, none⟩) n cap, .func (.func g) ⟨[]⟩ ⟨[]⟩] w K := by
  rcases hS.ok i _ hi with ⟨h0, _⟩ | ⟨b0, cap0, rest, e0, hnc, hx, hl, hb⟩
  · cases h0
  · cases e0
    have hlay : CmpLays P g #[] enc k cf b 0 d.toArray.size w := fun m os dk hdk x y => by
      have hc := hcmp (sortWorldK enc k w b 0 m dk os) x y (fun v w' => v = .int .i64 (cf x y) ∧ ∃ q os', w' = grow ((sortWorldK enc k w b 0 m dk os).drewN q) os') fun w' hS => ⟨rfl, fr_grow hS.fr⟩
      refine Calls.mono hc ?_
      rintro e w' ⟨v, rfl, rfl, hw⟩
      exact ⟨rfl, hw⟩
    subst hd
    have := AnyQ.slices_SortFunc M k aE zE enc hk h1 cf hO g #[] b 0 cap d.toArray w eg hlay (holds_blk hk d hb) hb.lt (by simpa using hn)
    refine this.mono ?_
    rintro e w' ⟨rfl, d', m, os, hp, hs, rfl⟩
    refine ⟨_, rfl, ?_⟩
    have hd' : d'.toList.length = d.length := by have := hp.1; simpa using this
    refine h d'.toList _ ?_ ?_ (sortW_St hk hS hi hnc rfl hl hb hd')
    · have := hp.2.2
      rw [List.size_toArray, Array.extract_eq_self_of_le (by simp [hp.1]), Array.extract_eq_self_of_le (by simp)] at this
      exact this
    · rw [List.pairwise_iff_getElem]
      intro p q hp1 hq1 hpq
      have := hs p q (Nat.zero_le _) hpq (by rw [List.size_toArray, ← hd']; exact hq1)
      rw [Array.length_toList] at hp1 hq1
      rwa [getElem!_pos d' p hp1, getElem!_pos d' q hq1] at this
end
end Go.En
