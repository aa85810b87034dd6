/- Blocks of memory, resources (an assertion and the blocks that it speaks of), and the state of a walk: which resources are held, what else is as it was. -/
import Derived.WalkKit
import Derived.CallsIn
import Derived.OrdersIn
import Derived.RangeFuncIn
import Derived.RangeFuncLeaves
set_option linter.unusedSimpArgs false
set_option linter.unusedVariables false
namespace Go.En

/-- Block b holds the cells l, of element type E; none of them is frozen. -/
def Blk (w : World) (b : Nat) (l : List Value) (E : TypeId) : Prop :=
  ∃ fr : Nat × Nat, w.heap[b]? = some (.cells ⟨l⟩ E fr) ∧ (fr.1 = fr.2 ∨ l.length ≤ fr.1)

/-- Block b holds the cells l; of marks no word. -/
def Blr (w : World) (b : Nat) (l : List Value) (E : TypeId) : Prop := ∃ fr : Nat × Nat, w.heap[b]? = some (.cells ⟨l⟩ E fr)
theorem Blk.r {w : World} {b : Nat} {l : List Value} {E : TypeId} (h : Blk w b l E) : Blr w b l E := let ⟨fr, h, _⟩ := h; ⟨fr, h⟩
theorem Blr.lt {w : World} {b : Nat} {l : List Value} {E : TypeId} (h : Blr w b l E) : b < w.heap.size := by
  obtain ⟨fr, h⟩ := h
  exact (Array.getElem?_eq_some_iff.1 h).1
theorem Blr.same {w w' : World} {b : Nat} {l : List Value} {E : TypeId} (h : Blr w b l E) (e : w'.heap[b]? = w.heap[b]?) : Blr w' b l E := by
  obtain ⟨fr, h⟩ := h
  exact ⟨fr, e.trans h⟩
theorem Blr.cell {w : World} {b : Nat} {l : List Value} {E : TypeId} (h : Blr w b l E) (i : Nat) : w.cell? ⟨b, i, none⟩ = l[i]? := by
  obtain ⟨fr, h⟩ := h
  simp [World.cell?, h]
theorem Blk.lt {w : World} {b : Nat} {l : List Value} {E : TypeId} (h : Blk w b l E) : b < w.heap.size := by
  obtain ⟨fr, h, _⟩ := h
  exact (Array.getElem?_eq_some_iff.1 h).1
theorem Blk.same {w w' : World} {b : Nat} {l : List Value} {E : TypeId} (h : Blk w b l E) (e : w'.heap[b]? = w.heap[b]?) : Blk w' b l E := by
  obtain ⟨fr, h, k⟩ := h
  exact ⟨fr, e.trans h, k⟩
theorem Blk.cell {w : World} {b : Nat} {l : List Value} {E : TypeId} (h : Blk w b l E) (i : Nat) : w.cell? ⟨b, i, none⟩ = l[i]? := by
  obtain ⟨fr, h, _⟩ := h
  simp [World.cell?, h]
theorem Blk.free {w : World} {b : Nat} {l : List Value} {E : TypeId} (h : Blk w b l E) {i : Nat} (hi : i < l.length) : w.frozen? ⟨b, i, none⟩ = false := by
  obtain ⟨⟨lo, hi'⟩, h, k⟩ := h
  simp [World.frozen?, h]
  simp at k
  omega
theorem Blk.inj {w : World} {b : Nat} {l l' : List Value} {E E' : TypeId} (h : Blk w b l E) (h' : Blk w b l' E') : l = l' ∧ E = E' := by
  obtain ⟨fr, h, _⟩ := h
  obtain ⟨fr', h', _⟩ := h'
  rw [h] at h'
  simp at h'
  exact ⟨h'.1, h'.2.1⟩

def oset (l : List Value) : Obj → Obj
  | .cells _ e f => .cells ⟨l⟩ e f
  | o => o
/-- The world with other cells in block b. -/
def setB (w : World) (b : Nat) (l : List Value) : World := { w with heap := w.heap.modify b (oset l) }

theorem setB_other {w : World} {b c : Nat} {l : List Value} (h : c ≠ b) : (setB w b l).heap[c]? = w.heap[c]? := by
  simp only [setB, Array.getElem?_modify]
  rw [if_neg (fun e => h e.symm)]
theorem setB_size {w : World} {b : Nat} {l : List Value} : (setB w b l).heap.size = w.heap.size := by simp [setB]
theorem Blk.set {w : World} {b : Nat} {l l' : List Value} {E : TypeId} (h : Blk w b l E) (hl : l'.length = l.length) : Blk (setB w b l') b l' E := by
  obtain ⟨fr, h, k⟩ := h
  refine ⟨fr, ?_, by rw [hl]; exact k⟩
  simp only [setB, Array.getElem?_modify, if_true, h, Option.map_some, oset]
theorem Blk.alloc {w : World} (l : List Value) (E : TypeId) : Blk (w.alloc (.cells ⟨l⟩ E)) w.heap.size l E :=
  ⟨(0, 0), by show (w.heap.push _)[w.heap.size]? = _; simp, .inl rfl⟩
theorem alloc_other {w : World} {o : Obj} {c : Nat} (h : c < w.heap.size) : (w.alloc o).heap[c]? = w.heap[c]? := by
  show (w.heap.push o)[c]? = w.heap[c]?
  rw [Array.getElem?_push, if_neg (Nat.ne_of_lt h)]
theorem alloc_size {w : World} {o : Obj} : (w.alloc o).heap.size = w.heap.size + 1 := by
  show (w.heap.push o).size = _
  simp

/-- A resource: an assertion on the world, and the blocks that it speaks of. -/
structure Res where
  ids : Nat → Prop
  ok : World → Prop
  st : ∀ w w', (∀ b, ids b → w'.heap[b]? = w.heap[b]?) → ok w → ok w'

def cel (b : Nat) (l : List Value) (E : TypeId) : Res :=
  ⟨fun x => x = b, fun w => Blk w b l E, fun _ _ h k => k.same (h b rfl)⟩
/-- a block that is no cells -/
def obj (b : Nat) (o : Obj) : Res :=
  ⟨fun x => x = b, fun w => w.heap[b]? = some o, fun _ _ h k => (h b rfl).trans k⟩
def emp : Res := ⟨fun _ => False, fun _ => True, fun _ _ _ _ => trivial⟩

/-- all but for the blocks S0 is as it was in w0. -/
structure Fr (w0 : World) (S0 : Nat → Prop) (w : World) : Prop where
  size : w0.heap.size ≤ w.heap.size
  kept : ∀ b, b < w0.heap.size → ¬ S0 b → w.heap[b]? = w0.heap[b]?
  os : w.os = w0.os
  out : w.output = w0.output
  tape : w.tape = w0.tape

theorem Fr.refl (w : World) (S : Nat → Prop) : Fr w S w := ⟨Nat.le_refl _, fun _ _ _ => rfl, rfl, rfl, rfl⟩
theorem Fr.trans {w0 w1 w2 : World} {S : Nat → Prop} {S1 : Nat → Prop} (h : Fr w0 S w1) (k : Fr w1 S1 w2) (hs : ∀ b, S1 b → S b ∨ w0.heap.size ≤ b) : Fr w0 S w2 :=
  ⟨Nat.le_trans h.size k.size, fun b hb hn => (k.kept b (Nat.lt_of_lt_of_le hb h.size) (fun hc => (hs b hc).elim hn (fun h' => by omega))).trans (h.kept b hb hn), k.os.trans h.os, k.out.trans h.out, k.tape.trans h.tape⟩

def Dis (r s : Res) : Prop := ∀ b, r.ids b → ¬ s.ids b

/-- What is held: the resources L, of blocks of S0 or of new ones; all else is as it was in w0. -/
structure St (w0 : World) (S0 : Nat → Prop) (w : World) (L : List Res) : Prop where
  ok : ∀ (i : Nat) (r : Res), L[i]? = some r → r.ok w
  bd : ∀ (i : Nat) (r : Res), L[i]? = some r → ∀ b, r.ids b → b < w.heap.size
  src : ∀ (i : Nat) (r : Res), L[i]? = some r → ∀ b, r.ids b → S0 b ∨ w0.heap.size ≤ b
  dis : ∀ (i j : Nat) (r s : Res), L[i]? = some r → L[j]? = some s → i ≠ j → Dis r s
  fr : Fr w0 S0 w

def foot (L : List Res) (b : Nat) : Prop := ∃ (i : Nat) (r : Res), L[i]? = some r ∧ r.ids b

section
variable {w0 w w' : World} {S0 : Nat → Prop} {L : List Res}

theorem St.b (h : St w0 S0 w L) {b : Nat} {l : List Value} {E : TypeId} (i : Nat) (hi : L[i]? = some (cel b l E)) : Blk w b l E := h.ok i _ hi
theorem St.nil (w0 : World) (S0 : Nat → Prop) : St w0 S0 w0 [] :=
  ⟨fun _ _ h => (by simp at h), fun _ _ h => (by simp at h), fun _ _ h => (by simp at h), fun _ _ _ _ h => (by simp at h), Fr.refl _ _⟩

/-- the same heap -/
theorem St.heap (h : St w0 S0 w L) (e : w'.heap = w.heap) (ho : w'.os = w.os) (hu : w'.output = w.output) (ht : w'.tape = w.tape) : St w0 S0 w' L :=
  ⟨fun i r hi => r.st w w' (fun b _ => by rw [e]) (h.ok i r hi), fun i r hi b hb => by rw [e]; exact h.bd i r hi b hb, h.src, h.dis,
   ⟨by rw [e]; exact h.fr.size, fun b hb hn => by rw [e]; exact h.fr.kept b hb hn, ho.trans h.fr.os, hu.trans h.fr.out, ht.trans h.fr.tape⟩⟩

/-- One resource turns, the others lie as they lay. -/
theorem St.turn (h : St w0 S0 w L) {i : Nat} {r r' : Res} (hi : L[i]? = some r) (hk : Fr w r.ids w') (hids : ∀ b, r'.ids b → r.ids b ∨ w.heap.size ≤ b)
    (hbd : ∀ b, r'.ids b → b < w'.heap.size) (hok : r'.ok w') : St w0 S0 w' (L.set i r') := by
  have hlt : i < L.length := (List.getElem?_eq_some_iff.1 hi).1
  have get : ∀ j s, (L.set i r')[j]? = some s → (j = i ∧ s = r') ∨ (j ≠ i ∧ L[j]? = some s) := by
    intro j s hj
    by_cases e : j = i
    · subst e; rw [List.getElem?_set_self hlt] at hj; exact .inl ⟨rfl, (Option.some.inj hj).symm⟩
    · rw [List.getElem?_set_ne (fun h => e h.symm)] at hj; exact .inr ⟨e, hj⟩
  have keep : ∀ j s, j ≠ i → L[j]? = some s → ∀ b, s.ids b → w'.heap[b]? = w.heap[b]? := fun j s hj hs b hb =>
    hk.kept b (h.bd j s hs b hb) (fun hr => h.dis j i s r hs hi hj b hb hr)
  refine ⟨?_, ?_, ?_, ?_, h.fr.trans hk (fun b hb => h.src i r hi b hb)⟩
  · intro j s hj
    rcases get j s hj with ⟨_, rfl⟩ | ⟨hne, hs⟩
    · exact hok
    · exact s.st w w' (keep j s hne hs) (h.ok j s hs)
  · intro j s hj b hb
    rcases get j s hj with ⟨_, rfl⟩ | ⟨hne, hs⟩
    · exact hbd b hb
    · exact Nat.lt_of_lt_of_le (h.bd j s hs b hb) hk.size
  · intro j s hj b hb
    rcases get j s hj with ⟨_, rfl⟩ | ⟨hne, hs⟩
    · rcases hids b hb with h1 | h1
      · exact h.src i r hi b h1
      · exact .inr (Nat.le_trans h.fr.size h1)
    · exact h.src j s hs b hb
  · intro j k s t hj ht hne b hb hb'
    rcases get j s hj with ⟨ej, es⟩ | ⟨hj', hs⟩ <;> rcases get k t ht with ⟨ek, et⟩ | ⟨hk', hs'⟩
    · exact hne (ej.trans ek.symm)
    · rw [es] at hb
      rcases hids b hb with h1 | h1
      · exact h.dis i k r t hi hs' (fun e => hk' e.symm) b h1 hb'
      · have := h.bd k t hs' b hb'; omega
    · rw [et] at hb'
      rcases hids b hb' with h1 | h1
      · exact h.dis j i s r hs hi hj' b hb h1
      · have := h.bd j s hs b hb; omega
    · exact h.dis j k s t hs hs' hne b hb hb'

/-- A new resource, of new blocks. -/
theorem St.new (h : St w0 S0 w L) {r : Res} (hk : Fr w (fun _ => False) w') (hids : ∀ b, r.ids b → w.heap.size ≤ b) (hbd : ∀ b, r.ids b → b < w'.heap.size) (hok : r.ok w') : St w0 S0 w' (L ++ [r]) := by
  have get : ∀ j s, (L ++ [r])[j]? = some s → (j = L.length ∧ s = r) ∨ (j < L.length ∧ L[j]? = some s) := by
    intro j s hj
    by_cases e : j < L.length
    · rw [List.getElem?_append_left e] at hj; exact .inr ⟨e, hj⟩
    · rw [List.getElem?_append_right (by omega)] at hj
      have : j - L.length = 0 := by
        rcases Nat.eq_zero_or_pos (j - L.length) with h0 | h0
        · exact h0
        · rw [List.getElem?_eq_none (by simp; omega)] at hj; cases hj
      rw [this] at hj
      simp at hj
      exact .inl ⟨by omega, hj.symm⟩
  have keep : ∀ (j : Nat) (s : Res), L[j]? = some s → ∀ b, s.ids b → w'.heap[b]? = w.heap[b]? := fun j s hs b hb => hk.kept b (h.bd j s hs b hb) (fun h => h)
  refine ⟨?_, ?_, ?_, ?_, h.fr.trans hk (fun b hb => hb.elim)⟩
  · intro j s hj
    rcases get j s hj with ⟨_, rfl⟩ | ⟨_, hs⟩
    · exact hok
    · exact s.st w w' (keep j s hs) (h.ok j s hs)
  · intro j s hj b hb
    rcases get j s hj with ⟨_, rfl⟩ | ⟨_, hs⟩
    · exact hbd b hb
    · exact Nat.lt_of_lt_of_le (h.bd j s hs b hb) hk.size
  · intro j s hj b hb
    rcases get j s hj with ⟨_, rfl⟩ | ⟨_, hs⟩
    · exact .inr (Nat.le_trans h.fr.size (hids b hb))
    · exact h.src j s hs b hb
  · intro j k s t hj ht hne b hb hb'
    rcases get j s hj with ⟨ej, es⟩ | ⟨_, hs⟩ <;> rcases get k t ht with ⟨ek, et⟩ | ⟨_, hs'⟩
    · exact hne (ej.trans ek.symm)
    · rw [es] at hb; have := h.bd k t hs' b hb'; have := hids b hb; omega
    · rw [et] at hb'; have := h.bd j s hs b hb; have := hids b hb'; omega
    · exact h.dis j k s t hs hs' hne b hb hb'

theorem fr_setB (w : World) (b : Nat) (l : List Value) : Fr w (fun x => x = b) (setB w b l) :=
  ⟨by rw [setB_size]; exact Nat.le_refl _, fun _ _ hn => setB_other hn, rfl, rfl, rfl⟩
theorem fr_alloc (w : World) (o : Obj) (S : Nat → Prop) : Fr w S (w.alloc o) :=
  ⟨by rw [alloc_size]; omega, fun _ hb _ => alloc_other hb, rfl, rfl, rfl⟩

/-- A store into a block that is held. -/
theorem St.set (h : St w0 S0 w L) {b : Nat} {l : List Value} {E : TypeId} (i : Nat) (hi : L[i]? = some (cel b l E)) (l' : List Value) (hl : l'.length = l.length) : St w0 S0 (setB w b l') (L.set i (cel b l' E)) :=
  h.turn hi (fr_setB w b l') (fun _ hb => .inl hb) (fun x hb => by rw [setB_size]; exact h.bd i _ hi x hb) ((h.b i hi).set hl)
/-- A new block. -/
theorem St.alloc (h : St w0 S0 w L) (l : List Value) (E : TypeId) : St w0 S0 (w.alloc (.cells ⟨l⟩ E)) (L ++ [cel w.heap.size l E]) :=
  h.new (fr_alloc w _ _) (fun b hb => by have : b = w.heap.size := hb; omega) (fun b hb => by have : b = w.heap.size := hb; rw [alloc_size]; omega) (Blk.alloc l E)

/-- What is not held, and lay there from the first, is as it was. -/
theorem St.ro (h : St w0 S0 w L) {r : Res} (hr : r.ok w0) (hd : ∀ b, r.ids b → b < w0.heap.size ∧ ¬ S0 b) : r.ok w :=
  r.st w0 w (fun b hb => h.fr.kept b (hd b hb).1 (hd b hb).2) hr

/-- Which resources are kept: a list of places. -/
theorem St.pick (h : St w0 S0 w L) (is : List Nat) (L' : List Res) (hL : ∀ (k : Nat) (r : Res), L'[k]? = some r → ∃ i : Nat, is[k]? = some i ∧ L[i]? = some r) (hn : is.Nodup) : St w0 S0 w L' := by
  refine ⟨?_, ?_, ?_, ?_, h.fr⟩
  · intro k r hk; obtain ⟨i, _, hi⟩ := hL k r hk; exact h.ok i r hi
  · intro k r hk; obtain ⟨i, _, hi⟩ := hL k r hk; exact h.bd i r hi
  · intro k r hk; obtain ⟨i, _, hi⟩ := hL k r hk; exact h.src i r hi
  · intro k k' r s hk hk' hne
    obtain ⟨i, e, hi⟩ := hL k r hk
    obtain ⟨j, e', hj⟩ := hL k' s hk'
    refine h.dis i j r s hi hj (fun eij => hne ?_)
    subst eij
    have h1 := (List.getElem?_eq_some_iff.1 e).1
    exact (List.getElem?_inj h1 hn).1 (e.trans e'.symm)

end
end Go.En
