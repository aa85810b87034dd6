/- EnH -/
import Derived.WalkKit
import Derived.CallsIn
import Derived.OrdersIn
import Derived.RangeFuncIn
import Derived.RangeFuncLeaves
set_option linter.unusedSimpArgs false
set_option linter.unusedVariables false
namespace Go.En
def Blk (w : World) (b : Nat) (l : List Value) (E : TypeId) : Prop :=
 ∃ fr : Nat × Nat, w.heap[b]? = some (.cells ⟨l⟩ E fr) ∧ (fr.1 = fr.2 ∨ l.length ≤ fr.1)
def Blr (w : World) (b : Nat) (l : List Value) (E : TypeId) : Prop := ∃ fr : Nat × Nat, w.heap[b]? = some (.cells ⟨l⟩ E fr)
theorem Blk.r {w : World} {b : Nat} {l : List Value} {E : TypeId} (h : Blk w b l E) : Blr w b l E := let ⟨fr, h, _⟩ := h; ⟨fr, h⟩
theorem Blr.lt {w : World} {b : Nat} {l : List Value} {E : TypeId} (h : Blr w b l E) : b < w.heap.size := by
 obtain ⟨fr, h⟩ := h
 exact (Array.getElem?_eq_some_iff.1 h).1
theorem Blr.same {w w' : World} {b : Nat} {l : List Value} {E : TypeId} (h : Blr w b l E) (e : w'.heap[b]? = w.heap[b]?) : Blr w' b l E := by
 obtain ⟨fr, h⟩ := h
 exact ⟨fr, e.trans h⟩
theorem Blr.cell {w : World} {b : Nat} {l : List Value} {E : TypeId} (h : Blr w b l E) (i : Nat) : w.cell? ⟨b, i, none⟩ = l[i]? := by
 obtain ⟨fr, h⟩ := h
 simp [World.cell?, h]
theorem Blk.lt {w : World} {b : Nat} {l : List Value} {E : TypeId} (h : Blk w b l E) : b < w.heap.size := by
 obtain ⟨fr, h, _⟩ := h
 exact (Array.getElem?_eq_some_iff.1 h).1
theorem Blk.same {w w' : World} {b : Nat} {l : List Value} {E : TypeId} (h : Blk w b l E) (e : w'.heap[b]? = w.heap[b]?) : Blk w' b l E := by
 obtain ⟨fr, h, k⟩ := h
 exact ⟨fr, e.trans h, k⟩
theorem Blk.cell {w : World} {b : Nat} {l : List Value} {E : TypeId} (h : Blk w b l E) (i : Nat) : w.cell? ⟨b, i, none⟩ = l[i]? := by
 obtain ⟨fr, h, _⟩ := h
 simp [World.cell?, h]
theorem Blk.free {w : World} {b : Nat} {l : List Value} {E : TypeId} (h : Blk w b l E) {i : Nat} (hi : i < l.length) : w.frozen? ⟨b, i, none⟩ = false := by
 obtain ⟨⟨lo, hi'⟩, h, k⟩ := h
 simp [World.frozen?, h]
 simp at k
 omega
theorem Blk.inj {w : World} {b : Nat} {l l' : List Value} {E E' : TypeId} (h : Blk w b l E) (h' : Blk w b l' E') : l = l' ∧ E = E' := by
 obtain ⟨fr, h, _⟩ := h
 obtain ⟨fr', h', _⟩ := h'
 rw [h] at h'
 simp at h'
 exact ⟨h'.1, h'.2.1⟩
def oset (l : List Value) : Obj → Obj
 | .cells _ e f => .cells ⟨l⟩ e f
 | o => o
def setB (w : World) (b : Nat) (l : List Value) : World := { w with heap := w.heap.modify b (oset l) }
theorem setB_other {w : World} {b c : Nat} {l : List Value} (h : c ≠ b) : (setB w b l).heap[c]? = w.heap[c]? := by
 simp only [setB, Array.getElem?_modify]
 rw [if_neg (fun e => h e.symm)]
theorem setB_size {w : World} {b : Nat} {l : List Value} : (setB w b l).heap.size = w.heap.size := by simp [setB]
theorem Blk.set {w : World} {b : Nat} {l l' : List Value} {E : TypeId} (h : Blk w b l E) (hl : l'.length = l.length) : Blk (setB w b l') b l' E := by
 obtain ⟨fr, h, k⟩ := h
 refine ⟨fr, ?_, by rw [hl]; exact k⟩
 simp only [setB, Array.getElem?_modify, if_true, h, Option.map_some, oset]
theorem Blk.alloc {w : World} (l : List Value) (E : TypeId) : Blk (w.alloc (.cells ⟨l⟩ E)) w.heap.size l E :=
 ⟨(0, 0), by show (w.heap.push _)[w.heap.size]? = _; simp, .inl rfl⟩
theorem alloc_other {w : World} {o : Obj} {c : Nat} (h : c < w.heap.size) : (w.alloc o).heap[c]? = w.heap[c]? := by
 show (w.heap.push o)[c]? = w.heap[c]?
 rw [Array.getElem?_push, if_neg (Nat.ne_of_lt h)]
theorem alloc_size {w : World} {o : Obj} : (w.alloc o).heap.size = w.heap.size + 1 := by
 show (w.heap.push o).size = _
 simp
structure Res where
 ids : Nat → Prop
 ok : World → Prop
 st : ∀ w w', (∀ b, ids b → w'.heap[b]? = w.heap[b]?) → ok w → ok w'
def cel (b : Nat) (l : List Value) (E : TypeId) : Res :=
 ⟨fun x => x = b, fun w => Blk w b l E, fun _ _ h k => k.same (h b rfl)⟩
def obj (b : Nat) (o : Obj) : Res :=
 ⟨fun x => x = b, fun w => w.heap[b]? = some o, fun _ _ h k => (h b rfl).trans k⟩
def emp : Res := ⟨fun _ => False, fun _ => True, fun _ _ _ _ => trivial⟩
structure Fr (w0 : World) (S0 : Nat → Prop) (w : World) : Prop where
 size : w0.heap.size ≤ w.heap.size
 kept : ∀ b, b < w0.heap.size → ¬ S0 b → w.heap[b]? = w0.heap[b]?
 os : w.os = w0.os
 out : w.output = w0.output
 tape : w.tape = w0.tape
 dr : w0.drawn ≤ w.drawn
theorem Fr.refl (w : World) (S : Nat → Prop) : Fr w S w := ⟨Nat.le_refl _, fun _ _ _ => rfl, rfl, rfl, rfl, Nat.le_refl _⟩
theorem Fr.trans {w0 w1 w2 : World} {S : Nat → Prop} {S1 : Nat → Prop} (h : Fr w0 S w1) (k : Fr w1 S1 w2) (hs : ∀ b, S1 b → S b ∨ w0.heap.size ≤ b) : Fr w0 S w2 :=
 ⟨Nat.le_trans h.size k.size, fun b hb hn => (k.kept b (Nat.lt_of_lt_of_le hb h.size) (fun hc => (hs b hc).elim hn (fun h' => by omega))).trans (h.kept b hb hn), k.os.trans h.os, k.out.trans h.out, k.tape.trans h.tape, Nat.le_trans h.dr k.dr⟩
def Dis (r s : Res) : Prop := ∀ b, r.ids b → ¬ s.ids b
structure St (w0 : World) (S0 : Nat → Prop) (w : World) (L : List Res) : Prop where
 ok : ∀ (i : Nat) (r : Res), L[i]? = some r → r.ok w
 bd : ∀ (i : Nat) (r : Res), L[i]? = some r → ∀ b, r.ids b → b < w.heap.size
 src : ∀ (i : Nat) (r : Res), L[i]? = some r → ∀ b, r.ids b → S0 b ∨ w0.heap.size ≤ b
 dis : ∀ (i j : Nat) (r s : Res), L[i]? = some r → L[j]? = some s → i ≠ j → Dis r s
 fr : Fr w0 S0 w
def foot (L : List Res) (b : Nat) : Prop := ∃ (i : Nat) (r : Res), L[i]? = some r ∧ r.ids b
section
variable {w0 w w' : World} {S0 : Nat → Prop} {L : List Res}
theorem St.b (h : St w0 S0 w L) {b : Nat} {l : List Value} {E : TypeId} (i : Nat) (hi : L[i]? = some (cel b l E)) : Blk w b l E := h.ok i _ hi
theorem St.nil (w0 : World) (S0 : Nat → Prop) : St w0 S0 w0 [] :=
 ⟨fun _ _ h => (by simp at h), fun _ _ h => (by simp at h), fun _ _ h => (by simp at h), fun _ _ _ _ h => (by simp at h), Fr.refl _ _⟩
theorem St.heap (h : St w0 S0 w L) (e : w'.heap = w.heap) (ho : w'.os = w.os) (hu : w'.output = w.output) (ht : w'.tape = w.tape) (hd : w.drawn ≤ w'.drawn) : St w0 S0 w' L :=
 ⟨fun i r hi => r.st w w' (fun b _ => by rw [e]) (h.ok i r hi), fun i r hi b hb => by rw [e]; exact h.bd i r hi b hb, h.src, h.dis,
  ⟨by rw [e]; exact h.fr.size, fun b hb hn => by rw [e]; exact h.fr.kept b hb hn, ho.trans h.fr.os, hu.trans h.fr.out, ht.trans h.fr.tape, Nat.le_trans h.fr.dr hd⟩⟩
theorem St.turn (h : St w0 S0 w L) {i : Nat} {r r' : Res} (hi : L[i]? = some r) (hk : Fr w r.ids w') (hids : ∀ b, r'.ids b → r.ids b ∨ w.heap.size ≤ b)
  (hbd : ∀ b, r'.ids b → b < w'.heap.size) (hok : r'.ok w') : St w0 S0 w' (L.set i r') := by
 have hlt : i < L.length := (List.getElem?_eq_some_iff.1 hi).1
 have get : ∀ j s, (L.set i r')[j]? = some s → (j = i ∧ s = r') ∨ (j ≠ i ∧ L[j]? = some s) := by
  intro j s hj
  by_cases e : j = i
  ·subst e; rw [List.getElem?_set_self hlt] at hj; exact .inl ⟨rfl, (Option.some.inj hj).symm⟩
  ·rw [List.getElem?_set_ne (fun h => e h.symm)] at hj; exact .inr ⟨e, hj⟩
 have keep : ∀ j s, j ≠ i → L[j]? = some s → ∀ b, s.ids b → w'.heap[b]? = w.heap[b]? := fun j s hj hs b hb =>
  hk.kept b (h.bd j s hs b hb) (fun hr => h.dis j i s r hs hi hj b hb hr)
 refine ⟨?_, ?_, ?_, ?_, h.fr.trans hk (fun b hb => h.src i r hi b hb)⟩
 ·intro j s hj
  rcases get j s hj with ⟨_, rfl⟩ | ⟨hne, hs⟩
  ·exact hok
  ·exact s.st w w' (keep j s hne hs) (h.ok j s hs)
 ·intro j s hj b hb
  rcases get j s hj with ⟨_, rfl⟩ | ⟨hne, hs⟩
  ·exact hbd b hb
  ·exact Nat.lt_of_lt_of_le (h.bd j s hs b hb) hk.size
 ·intro j s hj b hb
  rcases get j s hj with ⟨_, rfl⟩ | ⟨hne, hs⟩
  ·rcases hids b hb with h1 | h1
   ·exact h.src i r hi b h1
   ·exact .inr (Nat.le_trans h.fr.size h1)
  ·exact h.src j s hs b hb
 ·intro j k s t hj ht hne b hb hb'
  rcases get j s hj with ⟨ej, es⟩ | ⟨hj', hs⟩ <;> rcases get k t ht with ⟨ek, et⟩ | ⟨hk', hs'⟩
  ·exact hne (ej.trans ek.symm)
  ·rw [es] at hb
   rcases hids b hb with h1 | h1
   ·exact h.dis i k r t hi hs' (fun e => hk' e.symm) b h1 hb'
   ·have := h.bd k t hs' b hb'; omega
  ·rw [et] at hb'
   rcases hids b hb' with h1 | h1
   ·exact h.dis j i s r hs hi hj' b hb h1
   ·have := h.bd j s hs b hb; omega
  ·exact h.dis j k s t hs hs' hne b hb hb'
theorem St.new (h : St w0 S0 w L) {r : Res} (hk : Fr w (fun _ => False) w') (hids : ∀ b, r.ids b → w.heap.size ≤ b) (hbd : ∀ b, r.ids b → b < w'.heap.size) (hok : r.ok w') : St w0 S0 w' (L ++ [r]) := by
 have get : ∀ j s, (L ++ [r])[j]? = some s → (j = L.length ∧ s = r) ∨ (j < L.length ∧ L[j]? = some s) := by
  intro j s hj
  by_cases e : j < L.length
  ·rw [List.getElem?_append_left e] at hj; exact .inr ⟨e, hj⟩
  ·rw [List.getElem?_append_right (by omega)] at hj
   have : j - L.length = 0 := by
    rcases Nat.eq_zero_or_pos (j - L.length) with h0 | h0
    ·exact h0
    ·rw [List.getElem?_eq_none (by simp; omega)] at hj; cases hj
   rw [this] at hj
   simp at hj
   exact .inl ⟨by omega, hj.symm⟩
 have keep : ∀ (j : Nat) (s : Res), L[j]? = some s → ∀ b, s.ids b → w'.heap[b]? = w.heap[b]? := fun j s hs b hb => hk.kept b (h.bd j s hs b hb) (fun h => h)
 refine ⟨?_, ?_, ?_, ?_, h.fr.trans hk (fun b hb => hb.elim)⟩
 ·intro j s hj
  rcases get j s hj with ⟨_, rfl⟩ | ⟨_, hs⟩
  ·exact hok
  ·exact s.st w w' (keep j s hs) (h.ok j s hs)
 ·intro j s hj b hb
  rcases get j s hj with ⟨_, rfl⟩ | ⟨_, hs⟩
  ·exact hbd b hb
  ·exact Nat.lt_of_lt_of_le (h.bd j s hs b hb) hk.size
 ·intro j s hj b hb
  rcases get j s hj with ⟨_, rfl⟩ | ⟨_, hs⟩
  ·exact .inr (Nat.le_trans h.fr.size (hids b hb))
  ·exact h.src j s hs b hb
 ·intro j k s t hj ht hne b hb hb'
  rcases get j s hj with ⟨ej, es⟩ | ⟨_, hs⟩ <;> rcases get k t ht with ⟨ek, et⟩ | ⟨_, hs'⟩
  ·exact hne (ej.trans ek.symm)
  ·rw [es] at hb; have := h.bd k t hs' b hb'; have := hids b hb; omega
  ·rw [et] at hb'; have := h.bd j s hs b hb; have := hids b hb'; omega
  ·exact h.dis j k s t hs hs' hne b hb hb'
theorem fr_setB (w : World) (b : Nat) (l : List Value) : Fr w (fun x => x = b) (setB w b l) :=
 ⟨by rw [setB_size]; exact Nat.le_refl _, fun _ _ hn => setB_other hn, rfl, rfl, rfl, Nat.le_refl _⟩
theorem fr_alloc (w : World) (o : Obj) (S : Nat → Prop) : Fr w S (w.alloc o) :=
 ⟨by rw [alloc_size]; omega, fun _ hb _ => alloc_other hb, rfl, rfl, rfl, Nat.le_refl _⟩
theorem St.set (h : St w0 S0 w L) {b : Nat} {l : List Value} {E : TypeId} (i : Nat) (hi : L[i]? = some (cel b l E)) (l' : List Value) (hl : l'.length = l.length) : St w0 S0 (setB w b l') (L.set i (cel b l' E)) :=
 h.turn hi (fr_setB w b l') (fun _ hb => .inl hb) (fun x hb => by rw [setB_size]; exact h.bd i _ hi x hb) ((h.b i hi).set hl)
theorem St.alloc (h : St w0 S0 w L) (l : List Value) (E : TypeId) : St w0 S0 (w.alloc (.cells ⟨l⟩ E)) (L ++ [cel w.heap.size l E]) :=
 h.new (fr_alloc w _ _) (fun b hb => by have : b = w.heap.size := hb; omega) (fun b hb => by have : b = w.heap.size := hb; rw [alloc_size]; omega) (Blk.alloc l E)
theorem St.pick (h : St w0 S0 w L) (is : List Nat) (L' : List Res) (hL : ∀ (k : Nat) (r : Res), L'[k]? = some r → ∃ i : Nat, is[k]? = some i ∧ L[i]? = some r) (hn : is.Nodup) : St w0 S0 w L' := by
 refine ⟨?_, ?_, ?_, ?_, h.fr⟩
 ·intro k r hk; obtain ⟨i, _, hi⟩ := hL k r hk; exact h.ok i r hi
 ·intro k r hk; obtain ⟨i, _, hi⟩ := hL k r hk; exact h.bd i r hi
 ·intro k r hk; obtain ⟨i, _, hi⟩ := hL k r hk; exact h.src i r hi
 ·intro k k' r s hk hk' hne
  obtain ⟨i, e, hi⟩ := hL k r hk
  obtain ⟨j, e', hj⟩ := hL k' s hk'
  refine h.dis i j r s hi hj (fun eij => hne ?_)
  subst eij
  have h1 := (List.getElem?_eq_some_iff.1 e).1
  exact (List.getElem?_inj h1 hn).1 (e.trans e'.symm)
end
abbrev TT := List (Nat × Value)
def lk : TT → Nat → Option Value
 | [], _ => none
 | (a, v) :: T, t => match Nat.beq a t with | true => some v | false => lk T t
def ev (T : TT) : Operand → Option Value
 | .tmp t => lk T t
 | .const v => some v
 | .global g => some (.pointer (some ⟨g, 0, none⟩))
 | .func f => some (.func (.func f) #[] #[])
def veq : Value → Value → Bool
 | .bool a, .bool b => a == b
 | .int k a, .int j b => decide (k = j) && decide (a = b)
 | .string a, .string b => decide (a = b)
 | .pointer a, .pointer b => decide (a = b)
 | .slice a m n, .slice b k l => decide (a = b) && decide (m = k) && decide (n = l)
 | .map a, .map b => decide (a = b)
 | .nilFunc, .nilFunc => true
 | .nilIface, .nilIface => true
 | _, _ => false
theorem veq_eq {a b : Value} (h : veq a b = true) : a = b := by
 unfold veq at h
 split at h <;> simp_all
def veqs : List Value → List Value → Bool
 | [], [] => true
 | a :: l, b :: m => veq a b && veqs l m
 | _, _ => false
theorem veqs_eq : ∀ {l m : List Value}, veqs l m = true → l = m
 | [], [], _ => rfl
 | a :: l, b :: m, h => by simp [veqs] at h; rw [veq_eq h.1, veqs_eq h.2]
 | [], _ :: _, h => by simp [veqs] at h
 | _ :: _, [], h => by simp [veqs] at h
def oeq : Operand → Operand → Bool
 | .tmp a, .tmp b => decide (a = b)
 | .const a, .const b => veq a b
 | .global a, .global b => decide (a = b)
 | .func a, .func b => decide (a = b)
 | _, _ => false
theorem oeq_eq {a b : Operand} (h : oeq a b = true) : a = b := by
 cases a <;> cases b <;> simp [oeq] at h <;> first | rw [h] | rw [veq_eq h]
def oeqs : List Operand → List Operand → Bool
 | [], [] => true
 | a :: l, b :: m => oeq a b && oeqs l m
 | _, _ => false
theorem oeqs_eq : ∀ {l m : List Operand}, oeqs l m = true → l = m
 | [], [], _ => rfl
 | a :: l, b :: m, h => by simp [oeqs] at h; rw [oeq_eq h.1, oeqs_eq h.2]
 | [], _ :: _, h => by simp [oeqs] at h
 | _ :: _, [], h => by simp [oeqs] at h
def oopt : Option Operand → Option Operand → Bool
 | none, none => true
 | some a, some b => oeq a b
 | _, _ => false
theorem oopt_eq {a b : Option Operand} (h : oopt a b = true) : a = b := by
 cases a <;> cases b <;> simp [oopt] at h
 ·rfl
 ·rw [oeq_eq h]
abbrev ZZ := List (Nat × Value)
def zx : ZZ → List Value
 | [] => []
 | (n, v) :: r => List.replicate n v ++ zx r
inductive CKd where
 | i (k : IntKind)
 | s
 | b
def ceq : CKd → CKd → Bool
 | .i j, .i k => decide (j = k)
 | .s, .s => true
 | .b, .b => true
 | _, _ => false
def ceqs : List CKd → List CKd → Bool
 | [], [] => true
 | x :: l, y :: m => ceq x y && ceqs l m
 | _, _ => false
inductive MK where
 | mv (x : Operand)
 | pk (c a b : Operand)
 | nc (x : Operand)
 | fa (x : Operand) (off : Nat)
 | fl (x : Operand) (off : Nat) (n : Option Nat)
 | ias (x i : Operand) (sz : Nat)
 | iaa (x i : Operand) (len sz : Nat)
 | ixa (x i : Operand) (len sz : Nat) (n : Option Nat)
 | ixs (x i : Operand)
 | ex (x : Operand) (i : Nat)
 | nt (x : Operand)
 | ar (op : BinOp) (k : IntKind) (x y : Operand) (exact : Bool)
 | dv (op : BinOp) (k : IntKind) (x y : Operand)
 | bt (op : BinOp) (k : IntKind) (x y : Operand)
 | sh (op : BinOp) (k : IntKind) (x y : Operand)
 | cm (op : BinOp) (x y : Operand)
 | se (op : BinOp) (x y : Operand)
 | sa (x y : Operand)
 | be (op : BinOp) (x y : Operand)
 | pn (op : BinOp) (x : Operand)
 | sn (op : BinOp) (x : Operand)
 | mf (f : Nat) (first captured : List Operand)
 | mi (t : TypeId) (x : Operand)
 | ss (x : Operand) (lo hi : Option Operand)
 | sl (x : Operand) (lo hi mx : Option Operand) (sz : Nat)
 | sp (x : Operand) (lo hi : Option Operand) (n sz : Nat)
 | ln (str : Bool) (x : Operand)
 | la (n : Nat) (x : Operand)
 | mm (isMax : Bool) (x y : Operand)
 | ci (k : IntKind) (x : Operand)
 | cs (x : Operand)
 | bd (z : ZZ) (parts : List (Nat × Nat × Operand))
 | ld (x : Operand) (n : Option Nat)
 | bs (x : Operand)
 | al (z : ZZ) (E : TypeId)
 | bx (E : TypeId) (x : Operand)
 | st (x v : Operand) (n : Nat)
 | bl (E : TypeId) (sz : Nat) (xs : List Operand)
 | ms (E : TypeId) (sz bytes : Nat) (z : ZZ) (len cap : Operand)
 | ap (E : TypeId) (sz bytes : Nat) (z : ZZ) (x y : Operand)
 | cp (sz : Nat) (x y : Operand)
 | sb (E : TypeId) (x : Operand)
 | cl (f : FuncId) (args : List Operand)
 | cv (x : Operand) (args : List Operand)
 | un (k : IntKind) (x : Operand)
 | aq (op : BinOp) (n : Nat) (x y : Operand)
 | mb (x : Operand)
 | apz (E : TypeId) (sz bytes : Nat) (z : ZZ) (x : Operand) (n : Nat)
 | sc (op : BinOp) (x y : Operand)
 | rs (x : Operand)
 | eqd (op : BinOp) (ks : List CKd) (x y : Operand)
 | rg (x : Operand)
 | nx (x : Operand)
 | clr (sz : Nat) (z : ZZ) (x : Operand)
 | mkm
 | mup (kt : TypeId) (m k v : Operand)
 | mlk (kt : TypeId) (ag : Bool) (z : ZZ) (ok : Bool) (m k : Operand)
 | mdl (kt : TypeId) (m k : Operand)
 | mln (m : Operand)
 | mrg (m : Operand)
 | mnx (x : Operand)
 | men (x : Operand)
 | mpn (op : BinOp) (x : Operand)
 | xl (f : FuncId) (args : List Operand)
 | iv (x : Operand) (m : String) (args : List Operand)
 | ta (t : TypeId) (ag : Bool) (z : ZZ) (x : Operand)
 | df (x : Operand) (args : List Operand)
 | me (kt : TypeId) (ag : Bool) (z : ZZ) (m k : Operand)
 | es (m s v : Operand)
 | any
def MK.ops : MK → List Operand
 | .iv x _ args | .df x args => x :: args
 | .ta _ _ _ x => [x]
 | .me _ _ _ m k => [m, k]
 | .es m s v => [m, s, v]
 | .rs x | .rg x | .nx x | .clr _ _ x | .mln x | .mrg x | .mnx x | .men x | .mpn _ x => [x]
 | .sc _ x y | .eqd _ _ x y => [x, y]
 | .mkm | .any => []
 | .xl f args => .func f :: args
 | .mup _ m k v => [m, k, v]
 | .mlk _ _ _ _ m k | .mdl _ m k => [m, k]
 | .mv x | .nc x | .fa x _ | .fl x _ _ | .ex x _ | .nt x | .pn _ x | .sn _ x | .mi _ x | .ln _ x | .la _ x | .ci _ x | .cs x | .ld x _ | .bs x | .bx _ x | .sb _ x | .un _ x | .mb x => [x]
 | .pk c a b => [c, a, b]
 | .ias x i _ | .iaa x i _ _ | .ixa x i _ _ _ | .ixs x i | .ar _ _ x i _ | .dv _ _ x i | .bt _ _ x i | .sh _ _ x i | .cm _ x i | .se _ x i | .sa x i | .be _ x i | .mm _ x i
 | .st x i _ | .ms _ _ _ _ x i | .ap _ _ _ _ x i | .cp _ x i | .aq _ _ x i => [x, i]
 | .apz _ _ _ _ x n => [x, .const (.int .i64 n)]
 | .mf _ a b => a ++ b
 | .ss x lo hi => [x] ++ lo.toList ++ hi.toList
 | .sl x lo hi mx _ => [x] ++ lo.toList ++ hi.toList ++ mx.toList
 | .sp x lo hi _ _ => [x] ++ lo.toList ++ hi.toList
 | .bd _ ps => ps.map (·.2.2)
 | .al _ _ => []
 | .bl _ _ xs => xs
 | .cl _ args => args
 | .cv x args => x :: args
section
variable (P : Program)
def isI (t : TypeId) (k : IntKind) : Bool := match P.underlying t with | some (.int k') => decide (k' = k) | _ => false
def isAg (t : TypeId) : Option Bool := match P.underlying t with | some (.struct _) | some (.array ..) => some true | some _ => some false | none => none
def rdAs (t : TypeId) (n : Option Nat) : Bool := match isAg P t, n, P.info? t with
 | some true, some n, some i => decide (i.size = n)
 | some false, none, _ => true
 | _, _, _ => false
def hasSize (t : TypeId) (n : Nat) : Bool := match P.info? t with | some i => decide (i.size = n) | none => false
def zeroIs (t : TypeId) (z : ZZ) : Bool := match P.info? t with | some i => (match i.zero with | some v => veqs v.cells.toList (zx z) | none => false) | none => false
def bytesAre (t : TypeId) (n : Nat) : Bool := match P.info? t with | some i => decide (i.bytes = n) | none => false
def isB (c : Call) (b : Builtin) : Bool := match c.callee with | .builtin b' => decide (b' = b) | _ => false
def plc (t : TypeId) (i : Nat) : Option (Nat × Nat) := match P.underlying t with
 | some (.struct fs) => (fs[i]?).map fun f => (f.offset, P.cellsOf f.type)
 | some (.array _ e) => some (i * P.cellsOf e, P.cellsOf e)
 | _ => none
def chkParts (t : TypeId) : List (Nat × Operand) → List (Nat × Nat × Operand) → Bool
 | [], [] => true
 | (i, x) :: ps, (off, sz, y) :: qs => decide (plc P t i = some (off, sz)) && oeq x y && chkParts t ps qs
 | _, _ => false
def flF (g : TypeId → Option (List CKd)) : Nat → List Field → Option (List CKd)
 | _, [] => some []
 | off, f :: fs => (g f.type).bind fun l => if decide (f.offset = off) && !(f.name == "_") && hasSize P f.type l.length then (flF g (off + l.length) fs).map (l ++ ·) else none
def flatK : Nat → TypeId → Option (List CKd)
 | 0, _ => none
 | d + 1, t => match P.underlying t with
  | some (.int k) => some [.i k]
  | some .string => some [.s]
  | some .bool => some [.b]
  | some (.array n e) => (flatK d e).bind fun l => if hasSize P e l.length then some (List.replicate n l).flatten else none
  | some (.struct fs) => if P.stoodInHeld t then none else flF P (flatK d) 0 fs.toList
  | _ => none
def isMap (t kt : TypeId) : Bool := match P.underlying t with | some (.map k _) => decide (k = kt) | _ => false
def chkO (o : Op) (_ty : TypeId) (m : MK) : Bool :=
 match m, o with
 | .mv x, .move y => oeq x y
 | .mv x, .assign y => oeq x y
 | .pk c a b, .pick c' a' b' => oeq c c' && oeq a a' && oeq b b'
 | .nc x, .nilCheck y => oeq x y
 | .fa x off, .fieldAddr s y f => oeq x y && (match P.underlying s with | some (.struct fs) => (match fs[f]? with | some fd => decide (fd.offset = off) && (match P.info? fd.type with | some i => decide (i.size ≠ 0) | none => false) | none => false) | _ => false)
 | .fl x off n, .field s y f => oeq x y && (match P.underlying s with | some (.struct fs) => (match fs[f]? with | some fd => decide (fd.offset = off) && rdAs P fd.type n | none => false) | _ => false)
 | .ias x i sz, .indexAddr t y j => oeq x y && oeq i j && (match P.underlying t with | some (.slice e) => hasSize P e sz | _ => false)
 | .iaa x i len sz, .indexAddr t y j => oeq x y && oeq i j && (match P.underlying t with | some (.array l e) => decide (l = len) && hasSize P e sz | _ => false)
 | .ixa x i len sz n, .index t y j => oeq x y && oeq i j && (match P.underlying t with | some (.array l e) => decide (l = len) && hasSize P e sz && rdAs P e n | _ => false)
 | .ixs x i, .index t y j => oeq x y && oeq i j && (match P.underlying t with | some .string => true | _ => false)
 | .ex x i, .extract y j => oeq x y && decide (i = j)
 | .nt x, .unOp .not _ y => oeq x y
 | .ar op k x y _, .binOp op' t x' y' _ => decide (op = op') && oeq x x' && oeq y y' && (op matches .add | .sub | .mul) && isI P t k
 | .dv op k x y, .binOp op' t x' y' _ => decide (op = op') && oeq x x' && oeq y y' && (op matches .quo | .rem) && isI P t k
 | .bt op k x y, .binOp op' t x' y' _ => decide (op = op') && oeq x x' && oeq y y' && (op matches .and | .or | .xor | .andNot) && isI P t k
 | .sh op k x y, .binOp op' t x' y' _ => decide (op = op') && oeq x x' && oeq y y' && (op matches .shl | .shr) && isI P t k
 | .cm op x y, .binOp op' _ x' y' _ => decide (op = op') && oeq x x' && oeq y y' && (op matches .eql | .neq | .lss | .leq | .gtr | .geq)
 | .se op x y, .binOp op' _ x' y' _ => decide (op = op') && oeq x x' && oeq y y' && (op matches .eql | .neq)
 | .sa x y, .binOp .add _ x' y' _ => oeq x x' && oeq y y'
 | .be op x y, .binOp op' t x' y' _ => decide (op = op') && oeq x x' && oeq y y' && (op matches .eql | .neq) && (match P.underlying t with | some .bool => true | _ => false)
 | .pn op x, .binOp op' t x' y' _ => decide (op = op') && (op matches .eql | .neq) && oeq x x' && oeq y' (.const (.pointer none)) && (match P.underlying t with | some (.pointer _) => true | _ => false)
 | .sn op x, .binOp op' t x' y' _ => decide (op = op') && (op matches .eql | .neq) && oeq x x' && oeq y' (.const (.slice none 0 0)) && (match P.underlying t with | some (.slice _) => true | _ => false)
 | .mf f a b, .makeFunc (.func g) a' b' => decide (f = g) && oeqs a a'.toList && oeqs b b'.toList
 | .mi t x, .makeInterface t' y => decide (t = t') && oeq x y && (match P.underlying t with | some (.interface _) => false | some _ => true | none => false)
 | .ss x lo hi, .slice t y l h none => oeq x y && oopt lo l && oopt hi h && (match P.underlying t with | some .string => true | _ => false)
 | .sl x lo hi mx sz, .slice t y l h m => oeq x y && oopt lo l && oopt hi h && oopt mx m && (mx.isNone || hi.isSome) && (match P.underlying t with | some (.slice e) => hasSize P e sz | _ => false)
 | .sp x lo hi n sz, .slice t y l h none => oeq x y && oopt lo l && oopt hi h && (match P.underlying t with | some (.array k e) => decide (k = n) && hasSize P e sz | _ => false)
 | .ln b x, .call c => isB c .len && oeqs [x] c.args.toList && (match c.argTypes[0]? with | some t => (match P.underlying t with | some .string => b | some (.slice _) => !b | _ => false) | none => false)
 | .la n x, .call c => isB c .len && oeqs [x] c.args.toList && (match c.argTypes[0]? with | some t => (match P.underlying t with | some (.array k _) => decide (k = n) | _ => false) | none => false)
 | .mm b x y, .call c => (if b then isB c .max else isB c .min) && oeqs [x, y] c.args.toList
 | .ci k x, .convert s d y => oeq x y && isI P d k && (P.underlying s).isSome
 | .cs x, .convert s d y => oeq x y && (P.underlying s).isSome && (match P.underlying d with | some .string => true | _ => false)
 | .bd z ps, .build t qs => zeroIs P t z && chkParts P t qs.toList ps && (match P.underlying t with | some (.struct fs) => fs.toList.all fun f => (P.info? f.type).isSome | some (.array _ e) => (P.info? e).isSome | _ => false)
 | .ld x n, .load t y => oeq x y && rdAs P t n
 | .bs x, .convert s d y => oeq x y && (match P.underlying s, P.underlying d with | some (.slice e), some .string => (match P.underlying e with | some (.int .u8) => true | _ => false) | _, _ => false)
 | .al z E, .alloc E' => decide (E = E') && zeroIs P E z
 | .bx E x, .box E' y => decide (E = E') && oeq x y
 | .st x v n, .store t y u => oeq x y && oeq v u && hasSize P t n
 | .bl E sz xs, .buildSlice t l qs => decide (l = xs.length) && oeqs xs (qs.toList.map (·.2)) && decide (qs.toList.map (·.1) = List.range xs.length) && decide (xs.length * sz ≤ 2 ^ 24) && (match P.underlying t with | some (.slice e) => decide (e = E) && hasSize P e sz && (match P.info? e with | some i => i.zero.isSome | none => false) | _ => false)
 | .ms E sz bytes z l c, .makeSlice t l' c' => oeq l l' && oeq c c' && (match P.underlying t with | some (.slice e) => decide (e = E) && hasSize P e sz && bytesAre P e bytes && zeroIs P e z && decide ((zx z).length = sz) | _ => false)
 | .ap E sz bytes z x y, .call c => isB c .append && oeqs [x, y] c.args.toList && (match c.argTypes[0]? with | some t => (match P.underlying t with | some (.slice e) => decide (e = E) && hasSize P e sz && bytesAre P e bytes && zeroIs P e z && decide ((zx z).length = sz) | _ => false) | none => false) && (match c.argTypes[1]? with | some u => (match P.underlying u with | some (.slice _) | some .string => true | _ => false) | none => false)
 | .apz E sz bytes z x n, .call c => isB c .append && oeqs [x, .const (.int .i64 n)] c.args.toList && (match c.argTypes[0]? with | some t => (match P.underlying t with | some (.slice e) => decide (e = E) && hasSize P e sz && bytesAre P e bytes && zeroIs P e z && decide ((zx z).length = sz) | _ => false) | none => false) && (match c.argTypes[1]? with | some u => (match P.underlying u with | some (.int _) => true | _ => false) | none => false)
 | .cp sz x y, .call c => isB c .copy && oeqs [x, y] c.args.toList && (match c.argTypes[0]? with | some t => (match P.underlying t with | some (.slice e) => hasSize P e sz | _ => false) | none => false)
 | .sb E x, .convert s d y => oeq x y && (match P.underlying s with | some .string => true | _ => false) && (match P.underlying d with | some (.slice e) => decide (e = E) && (match P.underlying e with | some (.int .u8) => true | _ => false) | _ => false)
 | .cl f args, .call c => (match c.callee with | .value (.func g) => decide (f = g) && oeqs args c.args.toList && (match P.funcs[f]? with | some fn => fn.body.isSome && !(fn.name == "runtime.NumGoroutine") | none => false) | _ => false)
 | .un k x, .unOp .xor t y => oeq x y && isI P t k
 | .aq op n x y, .binOp op' t x' y' _ => decide (op = op') && oeq x x' && oeq y y' && (op matches .eql | .neq) && !(P.eqGuardType P.depth t) && (match P.underlying t with | some (.array k e) => decide (k = n) && hasSize P e 1 && (match P.underlying e with | some (.int .u8) => true | _ => false) | _ => false)
 | .mb x, .convert s d y => oeq x y && decide (s = d) && (match P.underlying s with | some (.slice e) => (match P.underlying e with | some (.int .u8) => true | _ => false) | _ => false)
 | .sc op x y, .binOp op' _ x' y' _ => decide (op = op') && oeq x x' && oeq y y' && (op matches .lss | .leq | .gtr | .geq)
 | .rs x, .convert s d y => oeq x y && (match P.underlying s, P.underlying d with | some (.int _), some .string => true | _, _ => false)
 | .eqd op ks x y, .binOp op' t x' y' _ => decide (op = op') && oeq x x' && oeq y y' && (op matches .eql | .neq) && !(P.eqGuardType P.depth t) && (match P.underlying t with | some (.struct _) | some (.array ..) => true | _ => false) && (match flatK P 30 t with | some l => ceqs l ks | none => false)
 | .rg x, .range t y => oeq x y && (match P.underlying t with | some .string => true | _ => false)
 | .nx x, .next y true => oeq x y
 | .clr sz z x, .call c => isB c .clear && oeqs [x] c.args.toList && (match c.argTypes[0]? with | some t => (match P.underlying t with | some (.slice e) => hasSize P e sz && zeroIs P e z && decide ((zx z).length = sz) | _ => false) | none => false)
 | .mkm, .makeMap _ none => true
 | .mup kt m k v, .mapUpdate t m' k' v' => oeq m m' && oeq k k' && oeq v v' && isMap P t kt
 | .mlk kt ag z ok m k, .lookup t m' k' ok' => oeq m m' && oeq k k' && decide (ok = ok') && (match P.underlying t with | some (.map k e) => decide (k = kt) && zeroIs P e z && (match P.info? e with | some i => (match i.zero with | some (.agg _) => ag | some v => !ag && veqs [v] (zx z) | none => false) | none => false) | _ => false)
 | .mdl kt m k, .call c => isB c .delete && oeqs [m, k] c.args.toList && (match c.argTypes[0]? with | some t => isMap P t kt | none => false)
 | .mln m, .call c => isB c .len && oeqs [m] c.args.toList && (match c.argTypes[0]? with | some t => (match P.underlying t with | some (.map ..) => true | _ => false) | none => false)
 | .mrg m, .range t y => oeq m y && (match P.underlying t with | some (.map ..) => true | _ => false)
 | .mnx x, .next y false => oeq x y
 | .men x, .entry y => oeq x y
 | .mpn op x, .binOp op' t x' y' _ => decide (op = op') && (op matches .eql | .neq) && oeq x x' && oeq y' (.const (.map none)) && (match P.underlying t with | some (.map ..) => true | _ => false)
 | .cv x args, .call c => (match c.callee with | .value (.tmp t) => oeq x (.tmp t) && oeqs args c.args.toList | _ => false)
 | .xl f args, .call c => (match c.callee with | .value (.func g) => decide (f = g) && oeqs args c.args.toList && (match P.funcs[f]? with | some fn => fn.body.isNone && !(fn.name == "runtime.NumGoroutine") | none => false) | _ => false)
 | .iv x m args, .call c => (match c.callee with | .invoke y n => oeq x y && m == n && oeqs args c.args.toList | _ => false)
 | .ta t ag z x, .typeAssert y _ t' ok => ok && oeq x y && decide (t = t') && (match P.underlying t with | some (.interface _) => false | some _ => true | none => false) && zeroIs P t z && (match P.info? t with | some i => (match i.zero with | some (.agg _) => ag | some v => !ag && veqs [v] (zx z) | none => false) | none => false)
 | .df x args, .defer c => (match c.callee with | .value (.tmp t) => oeq x (.tmp t) && oeqs args c.args.toList | _ => false)
 | .me kt ag z m k, .mapEntry t m' k' => oeq m m' && oeq k k' && (match P.underlying t with | some (.map k e) => decide (k = kt) && zeroIs P e z && (match P.info? e with | some i => (match i.zero with | some (.agg _) => ag | some v => !ag && veqs [v] (zx z) | none => false) | none => false) | _ => false)
 | .es m s v, .entryStore _ m' s' v' => oeq m m' && oeq s s' && oeq v v'
 | .any, .defer _ => false
 | .any, _ => true
 | _, _ => false
end
def kn : IntKind → Nat
 | .i8 => 0 | .i16 => 1 | .i32 => 2 | .i64 => 3 | .u8 => 4 | .u16 => 5 | .u32 => 6 | .u64 => 7
def keq (j k : IntKind) : Bool := Nat.beq (kn j) (kn k)
theorem keq_eq {j k : IntKind} (h : keq j k = true) : j = k := by
 have := Nat.eq_of_beq_eq_true h
 cases j <;> cases k <;> first | rfl | simp [kn] at this
def evi (T : TT) (k : IntKind) (x : Operand) : Option Int := match ev T x with
 | some (.int j n) => (match keq j k with | true => some n | false => none)
 | _ => none
theorem evi_ev {T : TT} {k : IntKind} {x : Operand} {n : Int} (h : evi T k x = some n) : ev T x = some (.int k n) := by
 unfold evi at h
 split at h
 ·rename_i j m he
  split at h
  ·rename_i hk; simp at h; subst h; rw [he, keq_eq hk]
  ·cases h
 ·cases h
inductive R3 where
 | bad
 | ok (v : Value)
 | rq (c : Prop) (v : Value)
def arv (op : BinOp) (x y : Int) : Int := match op with | .add => x + y | .sub => x - y | _ => x * y
def cmv (op : BinOp) (x y : Int) : Bool := match op with
 | .eql => decide (x = y) | .neq => !decide (x = y) | .lss => decide (x < y) | .leq => decide (x ≤ y) | .gtr => decide (y < x) | _ => decide (y ≤ x)
def inK (k : IntKind) (n : Int) : Prop := k.min ≤ n ∧ n ≤ k.max
def nilv (op : BinOp) (a : Option Addr) : Bool := match op with | .eql => a.isNone | _ => !a.isNone
def bnd (T : TT) (d : Nat) : Option Operand → Option Int
 | none => some d
 | some x => match ev T x with | some (.int _ n) => some n | _ => none
def btv (op : BinOp) (k : IntKind) (x y : Int) : Int :=
 k.wrap (match op with
  | .and => (BitVec.ofInt k.bits x &&& BitVec.ofInt k.bits y).toNat
  | .or => (BitVec.ofInt k.bits x ||| BitVec.ofInt k.bits y).toNat
  | .xor => (BitVec.ofInt k.bits x ^^^ BitVec.ofInt k.bits y).toNat
  | _ => (BitVec.ofInt k.bits x &&& ~~~ BitVec.ofInt k.bits y).toNat : Nat)
def scv (op : BinOp) (a b : List UInt8) : Bool := match op with
 | .lss => Op.bytesLess a b
 | .leq => Op.bytesLess a b || decide (a = b)
 | .gtr => !(Op.bytesLess a b || decide (a = b))
 | _ => !Op.bytesLess a b
def shv (op : BinOp) (k : IntKind) (x y : Int) : Int := match op with
 | .shl => k.wrap (x * 2 ^ (min y.toNat k.bits))
 | _ => x.fdiv (2 ^ (min y.toNat k.bits))
def evs (T : TT) : List Operand → Option (List Value)
 | [] => some []
 | x :: l => match ev T x, evs T l with | some v, some r => some (v :: r) | _, _ => none
def spl (l : List Value) (off : Nat) (vs : List Value) : List Value := l.take off ++ vs ++ l.drop (off + vs.length)
def fillP (T : TT) : List (Nat × Nat × Operand) → List Value → Option (List Value)
 | [], l => some l
 | (off, sz, x) :: ps, l => match ev T x with
  | some v => match Nat.beq v.cells.toList.length sz, Nat.ble (off + v.cells.toList.length) l.length with
   | true, true => fillP T ps (spl l off v.cells.toList)
   | _, _ => none
  | none => none
def slo (lo : Option Operand) (o m l sz : Nat) : Nat := match lo with
 | none => o
 | some _ => if m = l then o else o + l * sz
def pev (T : TT) : MK → R3
 | .mv x => match ev T x with | some v => .ok v | none => .bad
 | .pk c a b => match ev T c with
  | some (.bool true) => (match ev T a with | some v => .ok v | none => .bad)
  | some (.bool false) => (match ev T b with | some v => .ok v | none => .bad)
  | _ => .bad
 | .nc x => match ev T x with | some (.pointer (some a)) => .ok (.pointer (some a)) | _ => .bad
 | .fa x off => match ev T x with | some (.pointer (some ⟨b, o, none⟩)) => .ok (.pointer (some ⟨b, o + off, none⟩)) | _ => .bad
 | .fl x off n => match ev T x, n with
  | some (.agg ⟨l⟩), none => (match l[off]? with | some v => .ok v | none => .bad)
  | some (.agg ⟨l⟩), some k => .ok (.agg ⟨(l.drop off).take k⟩)
  | _, _ => .bad
 | .ias x i sz => match ev T x, ev T i with
  | some (.slice (some ⟨b, o, none⟩) len _), some (.int _ j) => .rq (0 ≤ j ∧ j < (len : Int)) (.pointer (some ⟨b, o + j.toNat * sz, none⟩))
  | _, _ => .bad
 | .iaa x i len sz => match ev T x, ev T i with
  | some (.pointer (some ⟨b, o, none⟩)), some (.int _ j) => .rq (0 ≤ j ∧ j < (len : Int)) (.pointer (some ⟨b, o + j.toNat * sz, none⟩))
  | _, _ => .bad
 | .ixa x i len sz n => match ev T x, ev T i, n with
  | some (.agg ⟨l⟩), some (.int _ j), some k => .rq (0 ≤ j ∧ j < (len : Int)) (.agg ⟨(l.drop (j.toNat * sz)).take k⟩)
  | some (.agg ⟨l⟩), some (.int _ j), none => .rq (0 ≤ j ∧ j < (len : Int) ∧ j.toNat * sz < l.length) (l.getD (j.toNat * sz) undef)
  | _, _, _ => .bad
 | .ixs x i => match ev T x, ev T i with
  | some (.string s), some (.int _ j) => .rq (0 ≤ j ∧ j < (s.data.toList.length : Int)) (.int .u8 (s.data.toList.getD j.toNat 0).toNat)
  | _, _ => .bad
 | .ex x i => match ev T x with | some (.tuple ⟨l⟩) => (match l[i]? with | some v => .ok v | none => .bad) | _ => .bad
 | .nt x => match ev T x with | some (.bool b) => .ok (.bool !b) | _ => .bad
 | .ar op k x y exact => match evi T k x, evi T k y, exact with
  | some a, some b, true => .rq (inK k (arv op a b)) (.int k (arv op a b))
  | some a, some b, false => .ok (.int k (k.wrap (arv op a b)))
  | _, _, _ => .bad
 | .dv op k x y => match evi T k x, evi T k y, op with
  | some a, some b, .quo => .rq (b ≠ 0) (.int k (k.wrap (a.tdiv b)))
  | some a, some b, .rem => .rq (b ≠ 0) (.int k (a.tmod b))
  | _, _, _ => .bad
 | .bt op k x y => match evi T k x, evi T k y with
  | some a, some b => .ok (.int k (btv op k a b))
  | _, _ => .bad
 | .sh op k x y => match evi T k x, ev T y with
  | some a, some (.int _ b) => .rq (0 ≤ b) (.int k (shv op k a b))
  | _, _ => .bad
 | .cm op x y => match ev T x, ev T y with
  | some (.int k a), some (.int j b) => (match keq k j with | true => .ok (.bool (cmv op a b)) | false => .bad)
  | _, _ => .bad
 | .se op x y => match ev T x, ev T y, op with
  | some (.string a), some (.string b), .eql => .ok (.bool (decide (a.data.toList = b.data.toList)))
  | some (.string a), some (.string b), .neq => .ok (.bool (!decide (a.data.toList = b.data.toList)))
  | _, _, _ => .bad
 | .sa x y => match ev T x, ev T y with
  | some (.string a), some (.string b) => .rq (a.size + b.size ≤ 9223372036854775807) (.string (a ++ b))
  | _, _ => .bad
 | .be op x y => match ev T x, ev T y, op with
  | some (.bool a), some (.bool b), .eql => .ok (.bool (a == b))
  | some (.bool a), some (.bool b), .neq => .ok (.bool (!(a == b)))
  | _, _, _ => .bad
 | .pn op x => match ev T x with
  | some (.pointer a) => .ok (.bool (nilv op a))
  | _ => .bad
 | .sn op x => match ev T x with
  | some (.slice a _ _) => .ok (.bool (nilv op a))
  | _ => .bad
 | .mf f a b => match evs T a, evs T b with | some l, some m => .ok (.func (.func f) ⟨l⟩ ⟨m⟩) | _, _ => .bad
 | .mi t x => match ev T x with | some v => .ok (.iface t v) | none => .bad
 | .ss x lo hi => match ev T x with
  | some (.string s) => (match bnd T 0 lo, bnd T s.size hi with
   | some l, some h => .rq (0 ≤ l ∧ l ≤ h ∧ h ≤ (s.size : Int)) (.string (s.extract l.toNat h.toNat))
   | _, _ => .bad)
  | _ => .bad
 | .sl x lo hi mx sz => match ev T x with
  | some (.slice (some ⟨b, o, none⟩) len cap) => (match bnd T 0 lo, bnd T len hi, bnd T cap mx with
   | some l, some h, some m => .rq (0 ≤ l ∧ l ≤ h ∧ h ≤ m ∧ m ≤ (cap : Int)) (.slice (some ⟨b, slo lo o m.toNat l.toNat sz, none⟩) (h.toNat - l.toNat) (m.toNat - l.toNat))
   | _, _, _ => .bad)
  | some (.slice none len cap) => (match bnd T 0 lo, bnd T len hi, bnd T cap mx with
   | some l, some h, some m => .rq (0 ≤ l ∧ l ≤ h ∧ h ≤ m ∧ m ≤ (cap : Int)) (.slice none (h.toNat - l.toNat) (m.toNat - l.toNat))
   | _, _, _ => .bad)
  | _ => .bad
 | .sp x lo hi n sz => match ev T x with
  | some (.pointer (some ⟨b, o, none⟩)) => (match bnd T 0 lo, bnd T n hi with
   | some l, some h => .rq (0 ≤ l ∧ l ≤ h ∧ h ≤ (n : Int)) (.slice (some ⟨b, slo lo o n l.toNat sz, none⟩) (h.toNat - l.toNat) (n - l.toNat))
   | _, _ => .bad)
  | _ => .bad
 | .ln b x => match ev T x, b with
  | some (.slice _ n _), false => .ok (.int .i64 n)
  | some (.string s), true => .ok (.int .i64 s.size)
  | _, _ => .bad
 | .la n x => match ev T x with | some _ => .ok (.int .i64 n) | none => .bad
 | .mm b x y => match ev T x, ev T y, b with
  | some (.int k a), some (.int _ c), true => .ok (.int k (max a c))
  | some (.int k a), some (.int _ c), false => .ok (.int k (min a c))
  | _, _, _ => .bad
 | .ci k x => match ev T x with | some (.int _ n) => .ok (.int k (k.wrap n)) | _ => .bad
 | .cs x => match ev T x with | some (.string s) => .ok (.string s) | _ => .bad
 | .sc op x y => match ev T x, ev T y with
  | some (.string a), some (.string b) => .ok (.bool (scv op a.data.toList b.data.toList))
  | _, _ => .bad
 | .rs x => match ev T x with | some (.int _ n) => .ok (.string (Utf8.encode n)) | _ => .bad
 | .mpn op x => match ev T x with
  | some (.map a) => .ok (.bool (match op with | .eql => a.isNone | _ => !a.isNone))
  | _ => .bad
 | .un k x => match evi T k x with | some a => .ok (.int k (btv .xor k (if k.signed then -1 else k.max) a)) | none => .bad
 | .bd z ps => match fillP T ps (zx z) with | some l => .ok (.agg ⟨l⟩) | none => .bad
 | _ => .bad
def Ag (T : TT) (xs : List Operand) (ρ : Operand → Value) : Prop := (∀ v, ρ (.const v) = v) ∧ ∀ x ∈ xs, ∀ v, ev T x = some v → ρ x = v
def Qt (P : Program) (m : MK) (T : TT) (w : World) (v : Value) : Prop :=
 ∀ (o : Oper) (ρ : Operand → Value), chkO P o.op o.type m = true → Ag T m.ops ρ → (execOp ρ o).run P w = .ok (.value v) w
variable {P : Program} {T : TT} {w : World}
theorem add_plain (b o n : Nat) : (⟨b, o, none⟩ : Addr).add n = ⟨b, o + n, none⟩ := by unfold Addr.add; split <;> simp_all
theorem hasSize_info {t : TypeId} {n : Nat} (h : hasSize P t n = true) : ∃ i, P.info? t = some i ∧ i.size = n := by
 unfold hasSize at h
 split at h
 ·rename_i i hi; exact ⟨i, hi, by simpa using h⟩
 ·simp at h
theorem run_size {t : TypeId} {n : Nat} (h : hasSize P t n = true) (w : World) : (sizeOf t).run P w = .ok n w := by
 obtain ⟨i, hi, rfl⟩ := hasSize_info h
 simp [sizeOf, typeInfo, hi]
theorem run_isAgg {t : TypeId} {b : Bool} (h : isAg P t = some b) (w : World) : (isAgg t).run P w = .ok b w := by
 unfold isAg at h
 unfold isAgg
 split at h
 ·rename_i hu; rw [Sem.run_bind, run_underlying hu w]; simp at h; subst h; rfl
 ·rename_i hu; rw [Sem.run_bind, run_underlying hu w]; simp at h; subst h; rfl
 ·rename_i d h1 h2 hu
  rw [Sem.run_bind, run_underlying hu w]
  simp at h; subst h
  cases d <;> first | rfl | exact (h1 _ rfl).elim | exact (h2 _ _ rfl).elim
 ·simp at h
theorem rdAs_one {t : TypeId} (h : rdAs P t none = true) : isAg P t = some false := by
 unfold rdAs at h; split at h <;> simp_all
theorem rdAs_many {t : TypeId} {n : Nat} (h : rdAs P t (some n) = true) : isAg P t = some true ∧ hasSize P t n = true := by
 unfold rdAs at h
 cases ha : isAg P t with
 | none => simp [ha] at h
 | some b =>
  cases b with
  | false => simp [ha] at h
  | true =>
   cases hi : P.info? t with
   | none => simp [ha, hi] at h
   | some i => exact ⟨rfl, by simp [hasSize, hi]; simpa [ha, hi] using h⟩
theorem run_part_one {t : TypeId} {cs : List Value} {off : Nat} {v : Value} (h : rdAs P t none = true) (hv : cs[off]? = some v) (w : World) : (part t ⟨cs⟩ off).run P w = .ok v w := by
 simp only [part, Sem.run_bind, run_isAgg (rdAs_one h) w, Result.andThen_ok]
 simp [hv]
theorem run_part_many {t : TypeId} {cs : List Value} {off n : Nat} (h : rdAs P t (some n) = true) (w : World) : (part t ⟨cs⟩ off).run P w = .ok (.agg ⟨(cs.drop off).take n⟩) w := by
 obtain ⟨h1, h2⟩ := rdAs_many h
 simp only [part, Sem.run_bind, run_isAgg h1 w, Result.andThen_ok, if_true, run_size h2 w]
 simp
theorem qt_mv {x : Operand} {v : Value} (hx : ev T x = some v) : Qt P (.mv x) T w v := by
 rintro ⟨dst, op, ty, pos, after, guard⟩ ρ hc ha
 cases op <;> simp only [chkO, Bool.false_eq_true] at hc <;>
  (have e := oeq_eq hc; subst e; simp [execOp, ha.2 _ (by simp [MK.ops]) _ hx])
theorem qt_pkt {c a b : Operand} {v : Value} (hx : ev T c = some (.bool true)) (ha' : ev T a = some v) : Qt P (.pk c a b) T w v := by
 rintro ⟨dst, op, ty, pos, after, guard⟩ ρ hc ha
 cases op <;> simp only [chkO, Bool.false_eq_true, Bool.and_eq_true] at hc
 obtain ⟨⟨e1, e2⟩, e3⟩ := hc
 have e1 := oeq_eq e1; have e2 := oeq_eq e2; have e3 := oeq_eq e3
 subst e1 e2 e3
 simp [execOp, ha.2 _ (by simp [MK.ops]) _ hx, ha.2 _ (by simp [MK.ops]) _ ha', asBool]
theorem qt_pkf {c a b : Operand} {v : Value} (hx : ev T c = some (.bool false)) (ha' : ev T b = some v) : Qt P (.pk c a b) T w v := by
 rintro ⟨dst, op, ty, pos, after, guard⟩ ρ hc ha
 cases op <;> simp only [chkO, Bool.false_eq_true, Bool.and_eq_true] at hc
 obtain ⟨⟨e1, e2⟩, e3⟩ := hc
 have e1 := oeq_eq e1; have e2 := oeq_eq e2; have e3 := oeq_eq e3
 subst e1 e2 e3
 simp [execOp, ha.2 _ (by simp [MK.ops]) _ hx, ha.2 _ (by simp [MK.ops]) _ ha', asBool]
theorem qt_nc {x : Operand} {a : Addr} (hx : ev T x = some (.pointer (some a))) : Qt P (.nc x) T w (.pointer (some a)) := by
 rintro ⟨dst, op, ty, pos, after, guard⟩ ρ hc ha
 cases op <;> simp only [chkO, Bool.false_eq_true] at hc
 have e := oeq_eq hc; subst e
 simp [execOp, ha.2 _ (by simp [MK.ops]) _ hx]
theorem qt_fa {x : Operand} {b o off : Nat} (hx : ev T x = some (.pointer (some ⟨b, o, none⟩))) : Qt P (.fa x off) T w (.pointer (some ⟨b, o + off, none⟩)) := by
 rintro ⟨dst, op, ty, pos, after, guard⟩ ρ hc ha
 cases op <;> simp only [chkO, Bool.false_eq_true, Bool.and_eq_true] at hc
 obtain ⟨e, hc⟩ := hc
 have e := oeq_eq e; subst e
 split at hc
 ·rename_i fs hu
  split at hc
  ·rename_i fd hf
   simp only [Bool.and_eq_true, decide_eq_true_eq] at hc
   obtain ⟨rfl, hc⟩ := hc
   split at hc
   ·rename_i i hi
    have hsz : (sizeOf fd.type).run P w = .ok i.size w := by simp [sizeOf, typeInfo, hi]
    simp only [decide_eq_true_eq] at hc
    simp [execOp, ha.2 _ (by simp [MK.ops]) _ hx, Instr.fieldAt, Sem.run_bind, run_underlying hu w, hf, Instr.sureAddr, fieldPlace, hsz, hc, add_plain]
   ·simp at hc
  ·simp at hc
 ·simp at hc
theorem qt_fl1 {x : Operand} {l : List Value} {off : Nat} {v : Value} (hx : ev T x = some (.agg ⟨l⟩)) (hv : l[off]? = some v) : Qt P (.fl x off none) T w v := by
 rintro ⟨dst, op, ty, pos, after, guard⟩ ρ hc ha
 cases op <;> simp only [chkO, Bool.false_eq_true, Bool.and_eq_true] at hc
 obtain ⟨e, hc⟩ := hc
 have e := oeq_eq e; subst e
 split at hc
 ·rename_i fs hu
  split at hc
  ·rename_i fd hf
   simp only [Bool.and_eq_true, decide_eq_true_eq] at hc
   obtain ⟨rfl, hc⟩ := hc
   simp [execOp, ha.2 _ (by simp [MK.ops]) _ hx, Instr.field, Sem.run_bind, run_underlying hu w, hf, asAgg, run_part_one hc hv w]
  ·simp at hc
 ·simp at hc
theorem qt_flm {x : Operand} {l : List Value} {off n : Nat} (hx : ev T x = some (.agg ⟨l⟩)) : Qt P (.fl x off (some n)) T w (.agg ⟨(l.drop off).take n⟩) := by
 rintro ⟨dst, op, ty, pos, after, guard⟩ ρ hc ha
 cases op <;> simp only [chkO, Bool.false_eq_true, Bool.and_eq_true] at hc
 obtain ⟨e, hc⟩ := hc
 have e := oeq_eq e; subst e
 split at hc
 ·rename_i fs hu
  split at hc
  ·rename_i fd hf
   simp only [Bool.and_eq_true, decide_eq_true_eq] at hc
   obtain ⟨rfl, hc⟩ := hc
   simp [execOp, ha.2 _ (by simp [MK.ops]) _ hx, Instr.field, Sem.run_bind, run_underlying hu w, hf, asAgg, run_part_many hc w]
  ·simp at hc
 ·simp at hc
theorem qt_ias {x i : Operand} {b o len cap sz : Nat} {k : IntKind} {j : Int} (hx : ev T x = some (.slice (some ⟨b, o, none⟩) len cap)) (hi : ev T i = some (.int k j)) (h : 0 ≤ j ∧ j < (len : Int)) :
  Qt P (.ias x i sz) T w (.pointer (some ⟨b, o + j.toNat * sz, none⟩)) := by
 rintro ⟨dst, op, ty, pos, after, guard⟩ ρ hc ha
 cases op <;> simp only [chkO, Bool.false_eq_true, Bool.and_eq_true] at hc
 obtain ⟨⟨e1, e2⟩, hc⟩ := hc
 have e1 := oeq_eq e1; have e2 := oeq_eq e2; subst e1 e2
 split at hc
 ·rename_i e hu
  simp [execOp, ha.2 _ (by simp [MK.ops]) _ hx, ha.2 _ (by simp [MK.ops]) _ hi, Instr.indexAt, asIntOf, Sem.run_bind, run_underlying hu w, h, run_size hc w, add_plain]
 ·simp at hc
theorem qt_iaa {x i : Operand} {b o len sz : Nat} {k : IntKind} {j : Int} (hx : ev T x = some (.pointer (some ⟨b, o, none⟩))) (hi : ev T i = some (.int k j)) (h : 0 ≤ j ∧ j < (len : Int)) :
  Qt P (.iaa x i len sz) T w (.pointer (some ⟨b, o + j.toNat * sz, none⟩)) := by
 rintro ⟨dst, op, ty, pos, after, guard⟩ ρ hc ha
 cases op <;> simp only [chkO, Bool.false_eq_true, Bool.and_eq_true] at hc
 obtain ⟨⟨e1, e2⟩, hc⟩ := hc
 have e1 := oeq_eq e1; have e2 := oeq_eq e2; subst e1 e2
 split at hc
 ·rename_i l e hu
  simp only [Bool.and_eq_true, decide_eq_true_eq] at hc
  obtain ⟨rfl, hc⟩ := hc
  simp [execOp, ha.2 _ (by simp [MK.ops]) _ hx, ha.2 _ (by simp [MK.ops]) _ hi, Instr.indexAt, asIntOf, Instr.sureAddr, Sem.run_bind, run_underlying hu w, h, run_size hc w, add_plain]
 ·simp at hc
theorem qt_ixa1 {x i : Operand} {l : List Value} {len sz : Nat} {k : IntKind} {j : Int} {v : Value} (hx : ev T x = some (.agg ⟨l⟩)) (hi : ev T i = some (.int k j)) (h : 0 ≤ j ∧ j < (len : Int)) (hv : l[j.toNat * sz]? = some v) :
  Qt P (.ixa x i len sz none) T w v := by
 rintro ⟨dst, op, ty, pos, after, guard⟩ ρ hc ha
 cases op <;> simp only [chkO, Bool.false_eq_true, Bool.and_eq_true] at hc
 obtain ⟨⟨e1, e2⟩, hc⟩ := hc
 have e1 := oeq_eq e1; have e2 := oeq_eq e2; subst e1 e2
 split at hc
 ·rename_i l e hu
  simp only [Bool.and_eq_true, decide_eq_true_eq] at hc
  obtain ⟨⟨rfl, hc⟩, hc'⟩ := hc
  simp [execOp, ha.2 _ (by simp [MK.ops]) _ hx, ha.2 _ (by simp [MK.ops]) _ hi, Instr.index, asIntOf, Sem.run_bind, run_underlying hu w, h, run_size hc w, run_part_one hc' hv w]
 ·simp at hc
theorem qt_ixam {x i : Operand} {l : List Value} {len sz n : Nat} {k : IntKind} {j : Int} (hx : ev T x = some (.agg ⟨l⟩)) (hi : ev T i = some (.int k j)) (h : 0 ≤ j ∧ j < (len : Int)) :
  Qt P (.ixa x i len sz (some n)) T w (.agg ⟨(l.drop (j.toNat * sz)).take n⟩) := by
 rintro ⟨dst, op, ty, pos, after, guard⟩ ρ hc ha
 cases op <;> simp only [chkO, Bool.false_eq_true, Bool.and_eq_true] at hc
 obtain ⟨⟨e1, e2⟩, hc⟩ := hc
 have e1 := oeq_eq e1; have e2 := oeq_eq e2; subst e1 e2
 split at hc
 ·rename_i l e hu
  simp only [Bool.and_eq_true, decide_eq_true_eq] at hc
  obtain ⟨⟨rfl, hc⟩, hc'⟩ := hc
  simp [execOp, ha.2 _ (by simp [MK.ops]) _ hx, ha.2 _ (by simp [MK.ops]) _ hi, Instr.index, asIntOf, Sem.run_bind, run_underlying hu w, h, run_size hc w, run_part_many hc' w]
 ·simp at hc
theorem qt_ixs {x i : Operand} {s : ByteArray} {k : IntKind} {j : Int} (hx : ev T x = some (.string s)) (hi : ev T i = some (.int k j)) (h : 0 ≤ j ∧ j < (s.data.toList.length : Int)) :
  Qt P (.ixs x i) T w (.int .u8 (s.data.toList.getD j.toNat 0).toNat) := by
 rintro ⟨dst, op, ty, pos, after, guard⟩ ρ hc ha
 cases op <;> simp only [chkO, Bool.false_eq_true, Bool.and_eq_true] at hc
 obtain ⟨⟨e1, e2⟩, hc⟩ := hc
 have e1 := oeq_eq e1; have e2 := oeq_eq e2; subst e1 e2
 split at hc
 ·rename_i hu
  have hlt : j.toNat < s.data.size := by have := h.2; rw [Array.length_toList] at this; omega
  have hg : s[j.toNat]? = some (s.data.toList.getD j.toNat 0) := by
   rw [getElem?_pos s j.toNat hlt]
   simp [List.getD, ByteArray.getElem_eq_getElem_data, Array.getElem?_eq_getElem hlt]
  simp only [execOp, ha.2 _ (by simp [MK.ops]) _ hx, ha.2 _ (by simp [MK.ops]) _ hi, Instr.index, asIntOf, Sem.run_bind, Sem.run_pure, Result.andThen_ok, run_underlying hu w, h.1, if_true, hg]
 ·simp at hc
theorem qt_ex {x : Operand} {l : List Value} {i : Nat} {v : Value} (hx : ev T x = some (.tuple ⟨l⟩)) (hv : l[i]? = some v) : Qt P (.ex x i) T w v := by
 rintro ⟨dst, op, ty, pos, after, guard⟩ ρ hc ha
 cases op <;> simp only [chkO, Bool.false_eq_true, Bool.and_eq_true, decide_eq_true_eq] at hc
 obtain ⟨e, rfl⟩ := hc
 have e := oeq_eq e; subst e
 simp [execOp, ha.2 _ (by simp [MK.ops]) _ hx, Instr.extract, hv]
theorem qt_nt {x : Operand} {b : Bool} (hx : ev T x = some (.bool b)) : Qt P (.nt x) T w (.bool !b) := by
 rintro ⟨dst, op, ty, pos, after, guard⟩ ρ hc ha
 cases op <;> simp only [chkO, Bool.false_eq_true] at hc
 rename_i uop t y
 cases uop <;> simp only [Bool.false_eq_true] at hc
 have e := oeq_eq hc; subst e
 simp [execOp, ha.2 _ (by simp [MK.ops]) _ hx, Op.unary]
theorem isI_u {t : TypeId} {k : IntKind} (h : isI P t k = true) : P.underlying t = some (.int k) := by
 unfold isI at h
 split at h
 ·rename_i k' hu; simp only [decide_eq_true_eq] at h; rw [hu, h]
 ·simp at h
theorem guard_int (op : BinOp) (t : TypeId) (x y : Operand) (k j : IntKind) (a b : Int) (w : World) : (eqGuard op t x y (.int k a) (.int j b)).run P w = .ok () w := by
 unfold eqGuard
 cases op <;> rfl
theorem qt_ar {op : BinOp} {k j j' : IntKind} {x y : Operand} {e : Bool} {a b : Int} (hx : ev T x = some (.int j a)) (hy : ev T y = some (.int j' b)) (hj : j = k) (hj' : j' = k) :
  Qt P (.ar op k x y e) T w (.int k (k.wrap (arv op a b))) := by
 rintro ⟨dst, o, ty, pos, after, guard⟩ ρ hc ha
 cases o <;> simp only [chkO, Bool.false_eq_true, Bool.and_eq_true, decide_eq_true_eq] at hc
 obtain ⟨⟨⟨⟨rfl, e1⟩, e2⟩, hop⟩, hi⟩ := hc
 have e1 := oeq_eq e1; have e2 := oeq_eq e2; subst e1 e2 hj hj'
 simp only [execOp, ha.2 _ (by simp [MK.ops]) _ hx, ha.2 _ (by simp [MK.ops]) _ hy, Sem.run_bind, guard_int, Result.andThen_ok]
 cases op <;> simp at hop <;> simp [binOp, Op.intArith, arv]
theorem wrap_in {k : IntKind} {n : Int} (h : inK k n) : k.wrap n = n := by
 obtain ⟨h1, h2⟩ := h
 cases k <;> simp [IntKind.wrap, IntKind.min, IntKind.max, IntKind.bits, IntKind.signed] at * <;> omega
theorem qt_dvq {k j j' : IntKind} {x y : Operand} {a b : Int} (hx : ev T x = some (.int j a)) (hy : ev T y = some (.int j' b)) (hj : j = k) (hj' : j' = k) (hb : b ≠ 0) :
  Qt P (.dv .quo k x y) T w (.int k (k.wrap (a.tdiv b))) := by
 rintro ⟨dst, o, ty, pos, after, guard⟩ ρ hc ha
 cases o <;> simp only [chkO, Bool.false_eq_true, Bool.and_eq_true, decide_eq_true_eq] at hc
 obtain ⟨⟨⟨⟨rfl, e1⟩, e2⟩, hop⟩, hi⟩ := hc
 have e1 := oeq_eq e1; have e2 := oeq_eq e2; subst e1 e2 hj hj'
 simp only [execOp, ha.2 _ (by simp [MK.ops]) _ hx, ha.2 _ (by simp [MK.ops]) _ hy, Sem.run_bind, guard_int, Result.andThen_ok]
 simp [binOp, Op.intDiv, hb]
theorem qt_dvr {k j j' : IntKind} {x y : Operand} {a b : Int} (hx : ev T x = some (.int j a)) (hy : ev T y = some (.int j' b)) (hj : j = k) (hj' : j' = k) (hb : b ≠ 0) :
  Qt P (.dv .rem k x y) T w (.int k (a.tmod b)) := by
 rintro ⟨dst, o, ty, pos, after, guard⟩ ρ hc ha
 cases o <;> simp only [chkO, Bool.false_eq_true, Bool.and_eq_true, decide_eq_true_eq] at hc
 obtain ⟨⟨⟨⟨rfl, e1⟩, e2⟩, hop⟩, hi⟩ := hc
 have e1 := oeq_eq e1; have e2 := oeq_eq e2; subst e1 e2 hj hj'
 simp only [execOp, ha.2 _ (by simp [MK.ops]) _ hx, ha.2 _ (by simp [MK.ops]) _ hy, Sem.run_bind, guard_int, Result.andThen_ok]
 simp [binOp, Op.intDiv, hb]
theorem qt_bt {op : BinOp} {k j j' : IntKind} {x y : Operand} {a b : Int} (hx : ev T x = some (.int j a)) (hy : ev T y = some (.int j' b)) (hj : j = k) (hj' : j' = k) :
  Qt P (.bt op k x y) T w (.int k (btv op k a b)) := by
 rintro ⟨dst, o, ty, pos, after, guard⟩ ρ hc ha
 cases o <;> simp only [chkO, Bool.false_eq_true, Bool.and_eq_true, decide_eq_true_eq] at hc
 obtain ⟨⟨⟨⟨rfl, e1⟩, e2⟩, hop⟩, hi⟩ := hc
 have e1 := oeq_eq e1; have e2 := oeq_eq e2; subst e1 e2 hj hj'
 simp only [execOp, ha.2 _ (by simp [MK.ops]) _ hx, ha.2 _ (by simp [MK.ops]) _ hy, Sem.run_bind, guard_int, Result.andThen_ok]
 cases op <;> simp at hop <;> simp [binOp, Op.intBits, btv]
theorem qt_un {k j : IntKind} {x : Operand} {a : Int} (hx : ev T x = some (.int j a)) (hj : j = k) :
  Qt P (.un k x) T w (.int k (btv .xor k (if k.signed then -1 else k.max) a)) := by
 rintro ⟨dst, o, ty, pos, after, guard⟩ ρ hc ha
 cases o <;> try (simp [chkO] at hc; done)
 rename_i op t x'
 cases op <;> simp only [chkO, Bool.false_eq_true, Bool.and_eq_true] at hc
 obtain ⟨e1, hu⟩ := hc
 have e1 := oeq_eq e1; subst e1 hj
 simp only [execOp, ha.2 _ (by simp [MK.ops]) _ hx]
 rfl
theorem qt_sh {op : BinOp} {k j j' : IntKind} {x y : Operand} {a b : Int} (hx : ev T x = some (.int j a)) (hy : ev T y = some (.int j' b)) (hj : j = k) (hb : 0 ≤ b) :
  Qt P (.sh op k x y) T w (.int k (shv op k a b)) := by
 rintro ⟨dst, o, ty, pos, after, guard⟩ ρ hc ha
 cases o <;> simp only [chkO, Bool.false_eq_true, Bool.and_eq_true, decide_eq_true_eq] at hc
 obtain ⟨⟨⟨⟨rfl, e1⟩, e2⟩, hop⟩, hi⟩ := hc
 have e1 := oeq_eq e1; have e2 := oeq_eq e2; subst e1 e2 hj
 have hb' : ¬ b < 0 := by omega
 simp only [execOp, ha.2 _ (by simp [MK.ops]) _ hx, ha.2 _ (by simp [MK.ops]) _ hy, Sem.run_bind, guard_int, Result.andThen_ok]
 cases op <;> simp at hop <;> simp [binOp, Op.shift, shv, hb']
theorem qt_cm {op : BinOp} {k j : IntKind} {x y : Operand} {a b : Int} (hx : ev T x = some (.int k a)) (hy : ev T y = some (.int j b)) (hj : k = j) :
  Qt P (.cm op x y) T w (.bool (cmv op a b)) := by
 rintro ⟨dst, o, ty, pos, after, guard⟩ ρ hc ha
 cases o <;> simp only [chkO, Bool.false_eq_true, Bool.and_eq_true, decide_eq_true_eq] at hc
 obtain ⟨⟨⟨rfl, e1⟩, e2⟩, hop⟩ := hc
 have e1 := oeq_eq e1; have e2 := oeq_eq e2; subst e1 e2 hj
 simp only [execOp, ha.2 _ (by simp [MK.ops]) _ hx, ha.2 _ (by simp [MK.ops]) _ hy, Sem.run_bind, guard_int, Result.andThen_ok]
 cases op <;> simp at hop <;> simp [binOp, Op.intCmp, cmv] <;> rw [Bool.eq_iff_iff] <;> simp
theorem toList_data (s : ByteArray) : s.toList = s.data.toList := by
 have h : ∀ (n i : Nat) (r : List UInt8), s.size - i = n → ByteArray.toList.loop s i r = r.reverse ++ s.data.toList.drop i := by
  intro n
  induction n with
  | zero =>
   intro i r hn
   unfold ByteArray.toList.loop
   have : ¬ i < s.size := by omega
   rw [if_neg this]
   have hl : s.data.toList.length ≤ i := by rw [Array.length_toList]; show s.size ≤ i; omega
   rw [List.drop_eq_nil_of_le hl, List.append_nil]
  | succ n ih =>
   intro i r hn
   unfold ByteArray.toList.loop
   have hlt : i < s.size := by omega
   rw [if_pos hlt, ih _ _ (by omega)]
   have hl : i < s.data.toList.length := by rw [Array.length_toList]; exact hlt
   rw [List.drop_eq_getElem_cons hl]
   have : s.get! i = s.data.toList[i] := by simp [ByteArray.get!]; exact getElem!_pos s.data i hlt
   simp [this]
 unfold ByteArray.toList
 rw [h _ 0 [] rfl]
 simp
theorem guard_str (op : BinOp) (t : TypeId) (x y : Operand) (a b : ByteArray) (w : World) : (eqGuard op t x y (.string a) (.string b)).run P w = .ok () w := by
 unfold eqGuard
 cases op <;> rfl
theorem beq_dec (a b : List UInt8) : (a == b) = decide (a = b) := by rw [Bool.eq_iff_iff]; simp
theorem qt_see {x y : Operand} {a b : ByteArray} (hx : ev T x = some (.string a)) (hy : ev T y = some (.string b)) :
  Qt P (.se .eql x y) T w (.bool (decide (a.data.toList = b.data.toList))) := by
 rintro ⟨dst, o, ty, pos, after, guard⟩ ρ hc ha
 cases o <;> simp only [chkO, Bool.false_eq_true, Bool.and_eq_true, decide_eq_true_eq] at hc
 obtain ⟨⟨⟨rfl, e1⟩, e2⟩, hop⟩ := hc
 have e1 := oeq_eq e1; have e2 := oeq_eq e2; subst e1 e2
 simp only [execOp, ha.2 _ (by simp [MK.ops]) _ hx, ha.2 _ (by simp [MK.ops]) _ hy, Sem.run_bind, guard_str, Result.andThen_ok]
 simp only [binOp, Op.stringOp, toList_data, Sem.run_pure, Result.andThen_ok, beq_dec]
theorem qt_sen {x y : Operand} {a b : ByteArray} (hx : ev T x = some (.string a)) (hy : ev T y = some (.string b)) :
  Qt P (.se .neq x y) T w (.bool (!decide (a.data.toList = b.data.toList))) := by
 rintro ⟨dst, o, ty, pos, after, guard⟩ ρ hc ha
 cases o <;> simp only [chkO, Bool.false_eq_true, Bool.and_eq_true, decide_eq_true_eq] at hc
 obtain ⟨⟨⟨rfl, e1⟩, e2⟩, hop⟩ := hc
 have e1 := oeq_eq e1; have e2 := oeq_eq e2; subst e1 e2
 simp only [execOp, ha.2 _ (by simp [MK.ops]) _ hx, ha.2 _ (by simp [MK.ops]) _ hy, Sem.run_bind, guard_str, Result.andThen_ok]
 simp only [binOp, Op.stringOp, toList_data, Sem.run_pure, Result.andThen_ok, beq_dec]
theorem qt_sc {op : BinOp} {x y : Operand} {a b : ByteArray} (hx : ev T x = some (.string a)) (hy : ev T y = some (.string b)) :
  Qt P (.sc op x y) T w (.bool (scv op a.data.toList b.data.toList)) := by
 rintro ⟨dst, o, ty, pos, after, guard⟩ ρ hc ha
 cases o <;> simp only [chkO, Bool.false_eq_true, Bool.and_eq_true, decide_eq_true_eq] at hc
 obtain ⟨⟨⟨rfl, e1⟩, e2⟩, hop⟩ := hc
 have e1 := oeq_eq e1; have e2 := oeq_eq e2; subst e1 e2
 simp only [execOp, ha.2 _ (by simp [MK.ops]) _ hx, ha.2 _ (by simp [MK.ops]) _ hy, Sem.run_bind, guard_str, Result.andThen_ok]
 cases op <;> simp at hop <;> simp only [binOp, Op.stringOp, toList_data, Sem.run_pure, Result.andThen_ok, beq_dec, scv]
theorem qt_rs {x : Operand} {k : IntKind} {n : Int} (hx : ev T x = some (.int k n)) : Qt P (.rs x) T w (.string (Utf8.encode n)) := by
 rintro ⟨dst, op, ty, pos, after, guard⟩ ρ hc ha
 cases op <;> simp only [chkO, Bool.false_eq_true, Bool.and_eq_true] at hc
 obtain ⟨e1, hc⟩ := hc
 have e1 := oeq_eq e1; subst e1
 split at hc
 ·rename_i hs hd
  simp only [execOp, ha.2 _ (by simp [MK.ops]) _ hx, Sem.run_bind, convert, run_underlying hs, run_underlying hd, Conv.intToString, Result.andThen_ok, Sem.run_pure]
 ·simp at hc
theorem eq_map (d : Nat) {t k e : TypeId} (h : P.underlying t = some (.map k e)) (a : Option Nat) (w : World) : (Op.equalIn (d + 1) t (.map a) (.map none)).run P w = .ok a.isNone w := by
 simp only [Op.equalIn, Sem.run_bind, run_underlying h w, Result.andThen_ok]; cases a <;> rfl
theorem qt_mpn {op : BinOp} {x : Operand} {a : Option Nat} (hx : ev T x = some (.map a)) : Qt P (.mpn op x) T w (.bool (match op with | .eql => a.isNone | _ => !a.isNone)) := by
 rintro ⟨dst, o, ty, pos, after, guard⟩ ρ hc ha
 cases o <;> try (simp [chkO] at hc; done)
 rename_i op' t x' y' t'
 simp only [chkO, Bool.and_eq_true, decide_eq_true_eq] at hc
 obtain ⟨⟨⟨⟨rfl, hop⟩, e1⟩, e2⟩, hu⟩ := hc
 have e1 := oeq_eq e1; have e2 := oeq_eq e2; subst e1 e2
 split at hu
 ·rename_i k e hu'
  have he : ∀ w : World, (Op.equal t (.map a) (.map none)).run P w = .ok a.isNone w := fun w => by
   exact eq_map 9999 hu' a w
  cases op <;> simp only [Bool.false_eq_true] at hop
  ·have hg : (eqGuard .eql t x (.const (.map none)) (.map a) (.map none)).run P w = .ok () w := rfl
   have hb : (binOp .eql t (.map a) (.map none)).run P w = .ok (.bool a.isNone) w := by
    show (do pure (.bool (← Op.equal t (.map a) (.map none))) : Sem Value).run P w = _
    rw [Sem.run_bind, he]; rfl
   simp only [execOp, ha.2 _ (by simp [MK.ops]) _ hx, ha.1, Sem.run_bind, hg, hb, Result.andThen_ok]
   rfl
  ·have hg : (eqGuard .neq t x (.const (.map none)) (.map a) (.map none)).run P w = .ok () w := rfl
   have hb : (binOp .neq t (.map a) (.map none)).run P w = .ok (.bool (!a.isNone)) w := by
    show (do pure (.bool (!(← Op.equal t (.map a) (.map none)))) : Sem Value).run P w = _
    rw [Sem.run_bind, he]; rfl
   simp only [execOp, ha.2 _ (by simp [MK.ops]) _ hx, ha.1, Sem.run_bind, hg, hb, Result.andThen_ok]
   rfl
 ·simp at hu
theorem qt_sa {x y : Operand} {a b : ByteArray} (hx : ev T x = some (.string a)) (hy : ev T y = some (.string b)) (h : a.size + b.size ≤ 9223372036854775807) :
  Qt P (.sa x y) T w (.string (a ++ b)) := by
 rintro ⟨dst, o, ty, pos, after, guard⟩ ρ hc ha
 cases o <;> simp only [chkO, Bool.false_eq_true] at hc
 rename_i op t x' y' t'
 cases op <;> simp only [Bool.false_eq_true, Bool.and_eq_true] at hc
 obtain ⟨e1, e2⟩ := hc
 have e1 := oeq_eq e1; have e2 := oeq_eq e2; subst e1 e2
 have hn : ¬ ((a.size + b.size : Nat) : Int) > IntKind.i64.max := by
  simp only [IntKind.max, IntKind.signed, IntKind.bits]
  simp
  omega
 simp only [execOp, ha.2 _ (by simp [MK.ops]) _ hx, ha.2 _ (by simp [MK.ops]) _ hy, Sem.run_bind, guard_str, Result.andThen_ok]
 simp only [binOp, Op.stringOp, if_neg hn, Sem.run_pure, Result.andThen_ok]
theorem eq_bool (d : Nat) {t : TypeId} (h : P.underlying t = some .bool) (a b : Bool) (w : World) : (Op.equalIn (d + 1) t (.bool a) (.bool b)).run P w = .ok (a == b) w := by
 simp only [Op.equalIn, Sem.run_bind, run_underlying h w, Result.andThen_ok]; rfl
theorem eq_ptr (d : Nat) {t e : TypeId} (h : P.underlying t = some (.pointer e)) (a : Option Addr) (w : World) : (Op.equalIn (d + 1) t (.pointer a) (.pointer none)).run P w = .ok a.isNone w := by
 simp only [Op.equalIn, Sem.run_bind, run_underlying h w, Result.andThen_ok]; cases a <;> rfl
theorem eq_slc (d : Nat) {t e : TypeId} (h : P.underlying t = some (.slice e)) (a : Option Addr) (m n : Nat) (w : World) : (Op.equalIn (d + 1) t (.slice a m n) (.slice none 0 0)).run P w = .ok a.isNone w := by
 simp only [Op.equalIn, Sem.run_bind, run_underlying h w, Result.andThen_ok]; cases a <;> rfl
theorem qt_bee {x y : Operand} {a b : Bool} (hx : ev T x = some (.bool a)) (hy : ev T y = some (.bool b)) : Qt P (.be .eql x y) T w (.bool (a == b)) := by
 rintro ⟨dst, o, ty, pos, after, guard⟩ ρ hc ha
 cases o <;> simp only [chkO, Bool.false_eq_true, Bool.and_eq_true, decide_eq_true_eq] at hc
 rename_i op t x' y' t'
 obtain ⟨⟨⟨⟨rfl, e1⟩, e2⟩, hop⟩, hu⟩ := hc
 have e1 := oeq_eq e1; have e2 := oeq_eq e2; subst e1 e2
 split at hu
 ·rename_i hu'
  have hg : (eqGuard .eql t x y (.bool a) (.bool b)).run P w = .ok () w := rfl
  have hb : (binOp .eql t (.bool a) (.bool b)).run P w = .ok (.bool (a == b)) w := by
   show (do pure (.bool (← Op.equal t (.bool a) (.bool b))) : Sem Value).run P w = _
   rw [Sem.run_bind, show Op.equal t (.bool a) (.bool b) = Op.equalIn (9999 + 1) t (.bool a) (.bool b) from rfl, eq_bool _ hu']; rfl
  simp only [execOp, ha.2 _ (by simp [MK.ops]) _ hx, ha.2 _ (by simp [MK.ops]) _ hy, Sem.run_bind, hg, hb, Result.andThen_ok]
  rfl
 ·simp at hu
theorem qt_ben {x y : Operand} {a b : Bool} (hx : ev T x = some (.bool a)) (hy : ev T y = some (.bool b)) : Qt P (.be .neq x y) T w (.bool (!(a == b))) := by
 rintro ⟨dst, o, ty, pos, after, guard⟩ ρ hc ha
 cases o <;> simp only [chkO, Bool.false_eq_true, Bool.and_eq_true, decide_eq_true_eq] at hc
 rename_i op t x' y' t'
 obtain ⟨⟨⟨⟨rfl, e1⟩, e2⟩, hop⟩, hu⟩ := hc
 have e1 := oeq_eq e1; have e2 := oeq_eq e2; subst e1 e2
 split at hu
 ·rename_i hu'
  have hg : (eqGuard .neq t x y (.bool a) (.bool b)).run P w = .ok () w := rfl
  have hb : (binOp .neq t (.bool a) (.bool b)).run P w = .ok (.bool (!(a == b))) w := by
   show (do pure (.bool (!(← Op.equal t (.bool a) (.bool b)))) : Sem Value).run P w = _
   rw [Sem.run_bind, show Op.equal t (.bool a) (.bool b) = Op.equalIn (9999 + 1) t (.bool a) (.bool b) from rfl, eq_bool _ hu']; rfl
  simp only [execOp, ha.2 _ (by simp [MK.ops]) _ hx, ha.2 _ (by simp [MK.ops]) _ hy, Sem.run_bind, hg, hb, Result.andThen_ok]
  rfl
 ·simp at hu
variable {P : Program} {T : TT} {w : World}
theorem qt_pn {op : BinOp} {x : Operand} {a : Option Addr} (hx : ev T x = some (.pointer a)) : Qt P (.pn op x) T w (.bool (nilv op a)) := by
 rintro ⟨dst, o, ty, pos, after, guard⟩ ρ hc ha
 cases o <;> simp only [chkO, Bool.false_eq_true, Bool.and_eq_true, decide_eq_true_eq] at hc
 rename_i op' t x' y' t'
 obtain ⟨⟨⟨⟨rfl, hop⟩, e1⟩, e2⟩, hu⟩ := hc
 have e1 := oeq_eq e1; have e2 := oeq_eq e2; subst e1 e2
 split at hu
 ·rename_i e hu'
  cases op <;> simp only [Bool.false_eq_true] at hop
  ·have hg : (eqGuard .eql t x (.const (.pointer none)) (.pointer a) (.pointer none)).run P w = .ok () w := rfl
   have hb : (binOp .eql t (.pointer a) (.pointer none)).run P w = .ok (.bool a.isNone) w := by
    show (do pure (.bool (← Op.equal t (.pointer a) (.pointer none))) : Sem Value).run P w = _
    rw [Sem.run_bind, show Op.equal t (.pointer a) (.pointer none) = Op.equalIn (9999 + 1) t (.pointer a) (.pointer none) from rfl, eq_ptr _ hu']; rfl
   simp only [execOp, ha.2 _ (by simp [MK.ops]) _ hx, ha.1, Sem.run_bind, hg, hb, Result.andThen_ok]
   rfl
  ·have hg : (eqGuard .neq t x (.const (.pointer none)) (.pointer a) (.pointer none)).run P w = .ok () w := rfl
   have hb : (binOp .neq t (.pointer a) (.pointer none)).run P w = .ok (.bool (!a.isNone)) w := by
    show (do pure (.bool (!(← Op.equal t (.pointer a) (.pointer none)))) : Sem Value).run P w = _
    rw [Sem.run_bind, show Op.equal t (.pointer a) (.pointer none) = Op.equalIn (9999 + 1) t (.pointer a) (.pointer none) from rfl, eq_ptr _ hu']; rfl
   simp only [execOp, ha.2 _ (by simp [MK.ops]) _ hx, ha.1, Sem.run_bind, hg, hb, Result.andThen_ok]
   rfl
 ·simp at hu
theorem qt_sn {op : BinOp} {x : Operand} {a : Option Addr} {m n : Nat} (hx : ev T x = some (.slice a m n)) : Qt P (.sn op x) T w (.bool (nilv op a)) := by
 rintro ⟨dst, o, ty, pos, after, guard⟩ ρ hc ha
 cases o <;> simp only [chkO, Bool.false_eq_true, Bool.and_eq_true, decide_eq_true_eq] at hc
 rename_i op' t x' y' t'
 obtain ⟨⟨⟨⟨rfl, hop⟩, e1⟩, e2⟩, hu⟩ := hc
 have e1 := oeq_eq e1; have e2 := oeq_eq e2; subst e1 e2
 split at hu
 ·rename_i e hu'
  cases op <;> simp only [Bool.false_eq_true] at hop
  ·have hg : (eqGuard .eql t x (.const (.slice none 0 0)) (.slice a m n) (.slice none 0 0)).run P w = .ok () w := rfl
   have hb : (binOp .eql t (.slice a m n) (.slice none 0 0)).run P w = .ok (.bool a.isNone) w := by
    show (do pure (.bool (← Op.equal t (.slice a m n) (.slice none 0 0))) : Sem Value).run P w = _
    rw [Sem.run_bind, show Op.equal t (.slice a m n) (.slice none 0 0) = Op.equalIn (9999 + 1) t (.slice a m n) (.slice none 0 0) from rfl, eq_slc _ hu']; rfl
   simp only [execOp, ha.2 _ (by simp [MK.ops]) _ hx, ha.1, Sem.run_bind, hg, hb, Result.andThen_ok]
   rfl
  ·have hg : (eqGuard .neq t x (.const (.slice none 0 0)) (.slice a m n) (.slice none 0 0)).run P w = .ok () w := rfl
   have hb : (binOp .neq t (.slice a m n) (.slice none 0 0)).run P w = .ok (.bool (!a.isNone)) w := by
    show (do pure (.bool (!(← Op.equal t (.slice a m n) (.slice none 0 0)))) : Sem Value).run P w = _
    rw [Sem.run_bind, show Op.equal t (.slice a m n) (.slice none 0 0) = Op.equalIn (9999 + 1) t (.slice a m n) (.slice none 0 0) from rfl, eq_slc _ hu']; rfl
   simp only [execOp, ha.2 _ (by simp [MK.ops]) _ hx, ha.1, Sem.run_bind, hg, hb, Result.andThen_ok]
   rfl
 ·simp at hu
theorem evs_map {ρ : Operand → Value} : ∀ {l : List Operand} {vs : List Value}, (∀ x ∈ l, ∀ v, ev T x = some v → ρ x = v) → evs T l = some vs → l.map ρ = vs
 | [], vs, _, h => by simp [evs] at h; simp [h]
 | x :: l, vs, ha, h => by
  unfold evs at h
  split at h
  ·rename_i v r hv hr
   simp at h; subst h
   simp [ha x (by simp) v hv, evs_map (fun y hy => ha y (by simp [hy])) hr]
  ·simp at h
theorem map_arr (ρ : Operand → Value) (a : Array Operand) : a.map ρ = ⟨a.toList.map ρ⟩ := by
 apply Array.ext'
 simp
theorem qt_mf {f : Nat} {a b : List Operand} {l m : List Value} (hx : evs T a = some l) (hy : evs T b = some m) : Qt P (.mf f a b) T w (.func (.func f) ⟨l⟩ ⟨m⟩) := by
 rintro ⟨dst, o, ty, pos, after, guard⟩ ρ hc ha
 cases o <;> simp only [chkO, Bool.false_eq_true] at hc
 rename_i fn a' b'
 cases fn <;> simp only [Bool.false_eq_true, Bool.and_eq_true, decide_eq_true_eq] at hc
 obtain ⟨⟨rfl, e1⟩, e2⟩ := hc
 have e1 := oeqs_eq e1; have e2 := oeqs_eq e2
 simp only [execOp, Instr.makeFunc, map_arr, ← e1, ← e2, evs_map (fun x hx => ha.2 x (by simp [MK.ops, hx])) hx, evs_map (fun x hx => ha.2 x (by simp [MK.ops, hx])) hy]
 rfl
theorem qt_mi {t : TypeId} {x : Operand} {v : Value} (hx : ev T x = some v) : Qt P (.mi t x) T w (.iface t v) := by
 rintro ⟨dst, o, ty, pos, after, guard⟩ ρ hc ha
 cases o <;> simp only [chkO, Bool.false_eq_true, Bool.and_eq_true, decide_eq_true_eq] at hc
 obtain ⟨⟨rfl, e1⟩, hu⟩ := hc
 have e1 := oeq_eq e1; subst e1
 split at hu
 ·simp at hu
 ·rename_i d hd hu'
  simp only [execOp, Instr.makeInterface, ha.2 _ (by simp [MK.ops]) _ hx, Sem.run_bind, run_underlying hu' w, Result.andThen_ok]
  cases d <;> first | rfl | exact (hd _ rfl).elim
 ·simp at hu
theorem map_opt {ρ : Operand → Value} {d : Nat} {x : Option Operand} {n : Int} (h : bnd T d x = some n) (ha : ∀ y ∈ x.toList, ∀ v, ev T y = some v → ρ y = v) :
  (x = none ∧ n = d) ∨ ∃ k, x.map ρ = some (.int k n) := by
 cases x with
 | none => simp [bnd] at h; exact .inl ⟨rfl, h.symm⟩
 | some y =>
  unfold bnd at h
  simp only at h
  split at h
  ·rename_i k m hy
   simp at h; subst h
   exact .inr ⟨k, by simp [ha y (by simp) _ hy]⟩
  ·simp at h
theorem run_bound {k : IntKind} {n : Int} {y : Nat} {c : BoundsCode} (h : 0 ≤ n ∧ n ≤ (y : Int)) (w : World) : (Instr.sliceBound (.int k n) y c).run P w = .ok n.toNat w := by
 simp [Instr.sliceBound, asIntOf, h]
theorem run_bounds2 {s : Bool} {len cap : Nat} {lo hi : Option Value} {l h : Int} (hl : (lo = none ∧ l = 0) ∨ ∃ k, lo = some (.int k l)) (hh : (hi = none ∧ h = len) ∨ ∃ k, hi = some (.int k h))
  (b : 0 ≤ l ∧ l ≤ h ∧ h ≤ (cap : Int)) (w : World) : (Instr.sliceBounds s len cap lo hi none).run P w = .ok (l.toNat, h.toNat, cap) w := by
 obtain ⟨b1, b2, b3⟩ := b
 have eh : ((h.toNat : Nat) : Int) = h := Int.toNat_of_nonneg (by omega)
 rcases hl with ⟨rfl, rfl⟩ | ⟨k, rfl⟩ <;> rcases hh with ⟨rfl, rfl⟩ | ⟨k', rfl⟩
 ·simp [Instr.sliceBounds]
 ·simp only [Instr.sliceBounds, Sem.run_bind, Sem.run_pure, Result.andThen_ok, run_bound (P := P) (k := k') (n := h) (y := cap) ⟨by omega, by omega⟩ w]
  simp
 ·simp only [Instr.sliceBounds, Sem.run_bind, Sem.run_pure, Result.andThen_ok, run_bound (P := P) (k := k) (n := l) (y := len) ⟨by omega, by omega⟩ w]
  simp
 ·simp only [Instr.sliceBounds, Sem.run_bind, Sem.run_pure, Result.andThen_ok, run_bound (P := P) (k := k') (n := h) (y := cap) ⟨by omega, by omega⟩ w, run_bound (P := P) (k := k) (n := l) (y := h.toNat) ⟨by omega, by omega⟩ w]
theorem run_bounds3 {len cap : Nat} {lo hi : Option Value} {k2 k3 : IntKind} {l h m : Int} (hl : (lo = none ∧ l = 0) ∨ ∃ k, lo = some (.int k l)) (hh : hi = some (.int k2 h))
  (b : 0 ≤ l ∧ l ≤ h ∧ h ≤ m ∧ m ≤ (cap : Int)) (w : World) : (Instr.sliceBounds true len cap lo hi (some (.int k3 m))).run P w = .ok (l.toNat, h.toNat, m.toNat) w := by
 obtain ⟨b1, b2, b3, b4⟩ := b
 have eh : ((h.toNat : Nat) : Int) = h := Int.toNat_of_nonneg (by omega)
 have em : ((m.toNat : Nat) : Int) = m := Int.toNat_of_nonneg (by omega)
 subst hh
 rcases hl with ⟨rfl, rfl⟩ | ⟨k, rfl⟩
 ·simp only [Instr.sliceBounds, Sem.run_bind, Sem.run_pure, Result.andThen_ok, run_bound (P := P) (k := k3) (n := m) (y := cap) ⟨by omega, by omega⟩ w, run_bound (P := P) (k := k2) (n := h) (y := m.toNat) ⟨by omega, by omega⟩ w]
  simp
 ·simp only [Instr.sliceBounds, Sem.run_bind, Sem.run_pure, Result.andThen_ok, run_bound (P := P) (k := k3) (n := m) (y := cap) ⟨by omega, by omega⟩ w, run_bound (P := P) (k := k2) (n := h) (y := m.toNat) ⟨by omega, by omega⟩ w, run_bound (P := P) (k := k) (n := l) (y := h.toNat) ⟨by omega, by omega⟩ w]
theorem qt_ss {x : Operand} {lo hi : Option Operand} {s : ByteArray} {l h : Int} (hx : ev T x = some (.string s)) (hl : bnd T 0 lo = some l) (hh : bnd T s.size hi = some h) (b : 0 ≤ l ∧ l ≤ h ∧ h ≤ (s.size : Int)) :
  Qt P (.ss x lo hi) T w (.string (s.extract l.toNat h.toNat)) := by
 rintro ⟨dst, o, ty, pos, after, guard⟩ ρ hc ha
 cases o <;> simp only [chkO, Bool.false_eq_true] at hc
 rename_i t x' lo' hi' mx'
 cases mx' <;> simp only [Bool.false_eq_true, Bool.and_eq_true] at hc
 obtain ⟨⟨⟨e1, e2⟩, e3⟩, hu⟩ := hc
 have e1 := oeq_eq e1; have e2 := oopt_eq e2; have e3 := oopt_eq e3; subst e1 e2 e3
 split at hu
 ·rename_i hu'
  have kl := map_opt hl (fun y hy => ha.2 y (by simp only [MK.ops, List.mem_append]; exact .inl (.inr hy)))
  have kh := map_opt hh (fun y hy => ha.2 y (by simp only [MK.ops, List.mem_append]; exact .inr hy))
  have kl' : (lo.map ρ = none ∧ l = 0) ∨ ∃ k, lo.map ρ = some (.int k l) := kl.imp (fun h => ⟨by rw [h.1]; rfl, by simpa using h.2⟩) id
  have kh' : (hi.map ρ = none ∧ h = s.size) ∨ ∃ k, hi.map ρ = some (.int k h) := kh.imp (fun h => ⟨by rw [h.1]; rfl, h.2⟩) id
  simp only [execOp, ha.2 _ (by simp [MK.ops]) _ hx, Instr.sliceAt, Instr.slice, Sem.run_bind, run_underlying hu' w, Result.andThen_ok, Option.map_none, Option.isSome_none, Bool.false_eq_true, if_false, run_bounds2 kl' kh' b w]
  rfl
 ·simp at hu
theorem qt_sl {x : Operand} {lo hi mx : Option Operand} {a : Option Addr} {len cap sz : Nat} {l h m : Int} {a' : Option Addr} (hx : ev T x = some (.slice a len cap)) (hl : bnd T 0 lo = some l) (hh : bnd T len hi = some h) (hm : bnd T cap mx = some m)
  (b : 0 ≤ l ∧ l ≤ h ∧ h ≤ m ∧ m ≤ (cap : Int)) (ha' : a' = match a with | none => none | some ⟨b, o, sp⟩ => some (if m.toNat = l.toNat then ⟨b, o, sp⟩ else (⟨b, o, sp⟩ : Addr).add (l.toNat * sz))) :
  Qt P (.sl x lo hi mx sz) T w (.slice a' (h.toNat - l.toNat) (m.toNat - l.toNat)) := by
 rintro ⟨dst, o, ty, pos, after, guard⟩ ρ hc ha
 cases o <;> simp only [chkO, Bool.false_eq_true, Bool.and_eq_true] at hc
 rename_i t x' lo' hi' mx'
 obtain ⟨⟨⟨⟨⟨e1, e2⟩, e3⟩, e4⟩, e5⟩, hu⟩ := hc
 have e1 := oeq_eq e1; have e2 := oopt_eq e2; have e3 := oopt_eq e3; have e4 := oopt_eq e4; subst e1 e2 e3 e4
 split at hu
 ·rename_i e hu'
  have kl := map_opt hl (fun y hy => ha.2 y (by simp only [MK.ops, List.mem_append]; exact .inl (.inl (.inr hy))))
  have kh := map_opt hh (fun y hy => ha.2 y (by simp only [MK.ops, List.mem_append]; exact .inl (.inr hy)))
  have km := map_opt hm (fun y hy => ha.2 y (by simp only [MK.ops, List.mem_append]; exact .inr hy))
  have kl' : (lo.map ρ = none ∧ l = 0) ∨ ∃ k, lo.map ρ = some (.int k l) := kl.imp (fun h => ⟨by rw [h.1]; rfl, by simpa using h.2⟩) id
  have kh' : (hi.map ρ = none ∧ h = len) ∨ ∃ k, hi.map ρ = some (.int k h) := kh.imp (fun h => ⟨by rw [h.1]; rfl, h.2⟩) id
  have hb : (Instr.sliceBounds true len cap (lo.map ρ) (hi.map ρ) (mx.map ρ)).run P w = .ok (l.toNat, h.toNat, m.toNat) w := by
   rcases km with ⟨rfl, rfl⟩ | ⟨k3, e⟩
   ·rw [Option.map_none, run_bounds2 kl' kh' ⟨b.1, b.2.1, b.2.2.1⟩ w]; simp
   ·rw [e]
    rcases kh' with ⟨hn, _⟩ | ⟨k2, hh2⟩
    ·have : mx.isSome = true := by cases mx <;> simp at e ⊢
     have h2 : hi.isSome = false := by cases hi <;> simp at hn ⊢
     simp [h2] at e5
     rw [e5] at this; simp at this
    ·exact run_bounds3 kl' hh2 b w
  simp only [execOp, ha.2 _ (by simp [MK.ops]) _ hx, Instr.sliceAt, Instr.slice, Sem.run_bind, run_underlying hu' w, Result.andThen_ok, hb, run_size hu w, Sem.run_pure]
  subst ha'
  cases a with
  | none => simp
  | some ad => simp only [Option.map_some]; congr 3; split <;> rfl
 ·simp at hu
theorem qt_sp {x : Operand} {lo hi : Option Operand} {b o n sz : Nat} {l h : Int} (hx : ev T x = some (.pointer (some ⟨b, o, none⟩))) (hl : bnd T 0 lo = some l) (hh : bnd T n hi = some h) (bb : 0 ≤ l ∧ l ≤ h ∧ h ≤ (n : Int)) :
  Qt P (.sp x lo hi n sz) T w (.slice (some ⟨b, slo lo o n l.toNat sz, none⟩) (h.toNat - l.toNat) (n - l.toNat)) := by
 rintro ⟨dst, op, ty, pos, after, guard⟩ ρ hc ha
 cases op <;> simp only [chkO, Bool.false_eq_true] at hc
 rename_i t x' lo' hi' mx'
 cases mx' <;> simp only [Bool.false_eq_true, Bool.and_eq_true] at hc
 obtain ⟨⟨⟨e1, e2⟩, e3⟩, hu⟩ := hc
 have e1 := oeq_eq e1; have e2 := oopt_eq e2; have e3 := oopt_eq e3; subst e1 e2 e3
 split at hu
 ·rename_i k e hu'
  simp only [Bool.and_eq_true, decide_eq_true_eq] at hu
  obtain ⟨rfl, hu⟩ := hu
  have kl := map_opt hl (fun y hy => ha.2 y (by simp only [MK.ops, List.mem_append]; exact .inl (.inr hy)))
  have kh := map_opt hh (fun y hy => ha.2 y (by simp only [MK.ops, List.mem_append]; exact .inr hy))
  have kl' : (lo.map ρ = none ∧ l = 0) ∨ ∃ k, lo.map ρ = some (.int k l) := kl.imp (fun h => ⟨by rw [h.1]; rfl, by simpa using h.2⟩) id
  have kh' : (hi.map ρ = none ∧ h = k) ∨ ∃ k, hi.map ρ = some (.int k h) := kh.imp (fun h => ⟨by rw [h.1]; rfl, h.2⟩) id
  simp only [execOp, ha.2 _ (by simp [MK.ops]) _ hx, Instr.sliceAt, Instr.sureAddr, Sem.run_bind, run_underlying hu' w, Result.andThen_ok, Option.map_none, run_bounds2 kl' kh' bb w, run_size hu w, Sem.run_pure]
  have : (if k = l.toNat then (⟨b, o, none⟩ : Addr) else (⟨b, o, none⟩ : Addr).add (l.toNat * sz)) = ⟨b, slo lo o k l.toNat sz, none⟩ := by
   unfold slo
   rcases kl with ⟨rfl, e⟩ | ⟨kk, e⟩
   ·have : l.toNat = 0 := by rw [e]; rfl
    simp [this, Addr.add]
   ·cases lo with
    | none => simp at e
    | some y => simp only; split <;> simp [add_plain]
  rw [this]
 ·simp at hu
theorem isB_eq {c : Call} {b : Builtin} (h : isB c b = true) : c.callee = .builtin b := by
 unfold isB at h
 split at h
 ·rename_i b' e; simp only [decide_eq_true_eq] at h; rw [e, h]
 ·simp at h
theorem run_builtin {c : Call} {b : Builtin} (h : isB c b = true) (ρ : Operand → Value) (o : Oper) (ho : o.op = .call c) :
  ∃ cs, ∀ w, (execOp ρ o).run P w = (builtin b c.argTypes o.type cs ⟨c.args.toList.map ρ⟩).run P w := by
 refine ⟨c.args.map fun | .const _ => true | _ => false, fun w => ?_⟩
 simp only [execOp, ho, resolve, isB_eq h, Sem.run_bind, Sem.run_pure, Result.andThen_ok, invoke, map_arr]
 rfl
theorem qt_ln1 {x : Operand} {a : Option Addr} {n c : Nat} (hx : ev T x = some (.slice a n c)) : Qt P (.ln false x) T w (.int .i64 n) := by
 rintro ⟨dst, op, ty, pos, after, guard⟩ ρ hc ha
 cases op <;> simp only [chkO, Bool.false_eq_true, Bool.and_eq_true] at hc
 rename_i c
 obtain ⟨⟨h1, h2⟩, hc⟩ := hc
 obtain ⟨cs, hr⟩ := run_builtin (P := P) h1 ρ ⟨dst, .call c, ty, pos, after, guard⟩ rfl
 have h2 := oeqs_eq h2
 rw [hr, ← h2]
 split at hc
 ·rename_i t ht
  split at hc
  ·simp at hc
  ·rename_i hu'
   simp [builtin, Builtin.len_, ht, Sem.run_bind, run_underlying hu' w, ha.2 _ (by simp [MK.ops]) _ hx, goInt]
  ·simp at hc
 ·simp at hc
theorem qt_ln2 {x : Operand} {s : ByteArray} (hx : ev T x = some (.string s)) : Qt P (.ln true x) T w (.int .i64 s.size) := by
 rintro ⟨dst, op, ty, pos, after, guard⟩ ρ hc ha
 cases op <;> simp only [chkO, Bool.false_eq_true, Bool.and_eq_true] at hc
 rename_i c
 obtain ⟨⟨h1, h2⟩, hc⟩ := hc
 obtain ⟨cs, hr⟩ := run_builtin (P := P) h1 ρ ⟨dst, .call c, ty, pos, after, guard⟩ rfl
 have h2 := oeqs_eq h2
 rw [hr, ← h2]
 split at hc
 ·rename_i t ht
  split at hc
  ·rename_i hu'
   simp [builtin, Builtin.len_, ht, Sem.run_bind, run_underlying hu' w, ha.2 _ (by simp [MK.ops]) _ hx, goInt]
  ·simp at hc
  ·simp at hc
 ·simp at hc
theorem qt_la {x : Operand} {n : Nat} {v : Value} (_hx : ev T x = some v) : Qt P (.la n x) T w (.int .i64 n) := by
 rintro ⟨dst, op, ty, pos, after, guard⟩ ρ hc ha
 cases op <;> simp only [chkO, Bool.false_eq_true, Bool.and_eq_true] at hc
 rename_i c
 obtain ⟨⟨h1, h2⟩, hc⟩ := hc
 obtain ⟨cs, hr⟩ := run_builtin (P := P) h1 ρ ⟨dst, .call c, ty, pos, after, guard⟩ rfl
 have h2 := oeqs_eq h2
 rw [hr, ← h2]
 split at hc
 ·rename_i t ht
  split at hc
  ·rename_i k e hu'
   simp only [decide_eq_true_eq] at hc; subst hc
   simp [builtin, Builtin.len_, ht, Sem.run_bind, run_underlying hu' w, goInt]
  ·simp at hc
 ·simp at hc
theorem qt_mx {x y : Operand} {k j : IntKind} {a c : Int} (hx : ev T x = some (.int k a)) (hy : ev T y = some (.int j c)) : Qt P (.mm true x y) T w (.int k (max a c)) := by
 rintro ⟨dst, op, ty, pos, after, guard⟩ ρ hc ha
 cases op <;> simp only [chkO, Bool.false_eq_true, Bool.and_eq_true, if_true] at hc
 rename_i cc
 obtain ⟨h1, h2⟩ := hc
 obtain ⟨cs, hr⟩ := run_builtin (P := P) h1 ρ ⟨dst, .call cc, ty, pos, after, guard⟩ rfl
 have h2 := oeqs_eq h2
 rw [hr, ← h2]
 have e : max a c = if c > a then c else a := by rw [Int.max_def]; split <;> split <;> omega
 simp [builtin, Builtin.max_, Builtin.max2, ha.2 _ (by simp [MK.ops]) _ hx, ha.2 _ (by simp [MK.ops]) _ hy, e]
theorem qt_mn {x y : Operand} {k j : IntKind} {a c : Int} (hx : ev T x = some (.int k a)) (hy : ev T y = some (.int j c)) : Qt P (.mm false x y) T w (.int k (min a c)) := by
 rintro ⟨dst, op, ty, pos, after, guard⟩ ρ hc ha
 cases op <;> simp only [chkO, Bool.false_eq_true, Bool.and_eq_true, if_false] at hc
 rename_i cc
 obtain ⟨h1, h2⟩ := hc
 obtain ⟨cs, hr⟩ := run_builtin (P := P) h1 ρ ⟨dst, .call cc, ty, pos, after, guard⟩ rfl
 have h2 := oeqs_eq h2
 rw [hr, ← h2]
 have e : min a c = if c < a then c else a := by rw [Int.min_def]; split <;> split <;> omega
 simp [builtin, Builtin.min_, Builtin.min2, ha.2 _ (by simp [MK.ops]) _ hx, ha.2 _ (by simp [MK.ops]) _ hy, e]
theorem some_u {t : TypeId} (h : (P.underlying t).isSome = true) : ∃ d, P.underlying t = some d := Option.isSome_iff_exists.1 h
theorem qt_ci {x : Operand} {k j : IntKind} {a : Int} (hx : ev T x = some (.int j a)) : Qt P (.ci k x) T w (.int k (k.wrap a)) := by
 rintro ⟨dst, op, ty, pos, after, guard⟩ ρ hc ha
 cases op <;> simp only [chkO, Bool.false_eq_true, Bool.and_eq_true] at hc
 obtain ⟨⟨e1, h2⟩, h3⟩ := hc
 have e1 := oeq_eq e1; subst e1
 obtain ⟨d, hd⟩ := some_u h3
 simp only [execOp, ha.2 _ (by simp [MK.ops]) _ hx, convert, Sem.run_bind, run_underlying hd w, run_underlying (isI_u h2) w, Result.andThen_ok]
 cases d <;> rfl
theorem qt_cs {x : Operand} {s : ByteArray} (hx : ev T x = some (.string s)) : Qt P (.cs x) T w (.string s) := by
 rintro ⟨dst, op, ty, pos, after, guard⟩ ρ hc ha
 cases op <;> simp only [chkO, Bool.false_eq_true, Bool.and_eq_true] at hc
 obtain ⟨⟨e1, h2⟩, h3⟩ := hc
 have e1 := oeq_eq e1; subst e1
 obtain ⟨d, hd⟩ := some_u h2
 split at h3
 ·rename_i hu
  simp only [execOp, ha.2 _ (by simp [MK.ops]) _ hx, convert, Sem.run_bind, run_underlying hd w, run_underlying hu w, Result.andThen_ok]
  cases d <;> rfl
 ·simp at h3
theorem zeroIs_run {t : TypeId} {z : ZZ} (h : zeroIs P t z = true) (w : World) : ∃ v, (zeroValue t).run P w = .ok v w ∧ v.cells.toList = zx z := by
 unfold zeroIs at h
 split at h
 ·rename_i i hi
  split at h
  ·rename_i v hv
   exact ⟨v, by simp [zeroValue, typeInfo, hi, hv], veqs_eq h⟩
  ·simp at h
 ·simp at h
theorem run_load1 {t : TypeId} {b off : Nat} {l : List Value} {E : TypeId} {v : Value} (h : rdAs P t none = true) (hb : Blr w b l E) (hv : l[off]? = some v) : (loadVar t ⟨b, off, none⟩).run P w = .ok v w := by
 simp only [loadVar, Sem.run_bind, run_isAgg (rdAs_one h) w, Result.andThen_ok, Bool.false_eq_true, if_false]
 simp [load, Sem.run, hb.cell, hv]
theorem run_cells {b off n : Nat} {l : List Value} {E : TypeId} (hb : Blr w b l E) (hn : off + n ≤ l.length) : (loadCells ⟨b, off, none⟩ n).run P w = .ok ⟨(l.drop off).take n⟩ w := by
 have hl : ((l.drop off).take n).length = n := by simp; omega
 have := run_loadCells_list (P := P) w ⟨b, off, none⟩ ((l.drop off).take n) (fun j v hj => by
  rw [add_plain, hb.cell]
  rw [List.getElem?_take] at hj
  split at hj
  ·rwa [List.getElem?_drop] at hj
  ·simp at hj)
 rw [hl] at this
 exact this
theorem run_loadm {t : TypeId} {b off n : Nat} {l : List Value} {E : TypeId} (h : rdAs P t (some n) = true) (hb : Blr w b l E) (hn : off + n ≤ l.length) : (loadVar t ⟨b, off, none⟩).run P w = .ok (.agg ⟨(l.drop off).take n⟩) w := by
 obtain ⟨h1, h2⟩ := rdAs_many h
 simp only [loadVar, Sem.run_bind, run_isAgg h1 w, Result.andThen_ok, if_true, run_size h2 w, run_cells hb hn]
 rfl
theorem qt_ld1r {x : Operand} {b off : Nat} {l : List Value} {E : TypeId} {v : Value} (hx : ev T x = some (.pointer (some ⟨b, off, none⟩))) (hb : Blr w b l E) (hv : l[off]? = some v) : Qt P (.ld x none) T w v := by
 rintro ⟨dst, op, ty, pos, after, guard⟩ ρ hc ha
 cases op <;> simp only [chkO, Bool.false_eq_true, Bool.and_eq_true] at hc
 obtain ⟨e1, h2⟩ := hc
 have e1 := oeq_eq e1; subst e1
 simp only [execOp, ha.2 _ (by simp [MK.ops]) _ hx, Instr.loadAt, Instr.sureAddr, Sem.run_bind, Sem.run_pure, Result.andThen_ok, run_load1 h2 hb hv]
theorem qt_ldmr {x : Operand} {b off n : Nat} {l : List Value} {E : TypeId} (hx : ev T x = some (.pointer (some ⟨b, off, none⟩))) (hb : Blr w b l E) (hn : off + n ≤ l.length) : Qt P (.ld x (some n)) T w (.agg ⟨(l.drop off).take n⟩) := by
 rintro ⟨dst, op, ty, pos, after, guard⟩ ρ hc ha
 cases op <;> simp only [chkO, Bool.false_eq_true, Bool.and_eq_true] at hc
 obtain ⟨e1, h2⟩ := hc
 have e1 := oeq_eq e1; subst e1
 simp only [execOp, ha.2 _ (by simp [MK.ops]) _ hx, Instr.loadAt, Instr.sureAddr, Sem.run_bind, Sem.run_pure, Result.andThen_ok, run_loadm h2 hb hn]
theorem qt_ld1 {x : Operand} {b off : Nat} {l : List Value} {E : TypeId} {v : Value} (hx : ev T x = some (.pointer (some ⟨b, off, none⟩))) (hb : Blk w b l E) (hv : l[off]? = some v) : Qt P (.ld x none) T w v := qt_ld1r hx hb.r hv
theorem qt_ldm {x : Operand} {b off n : Nat} {l : List Value} {E : TypeId} (hx : ev T x = some (.pointer (some ⟨b, off, none⟩))) (hb : Blk w b l E) (hn : off + n ≤ l.length) : Qt P (.ld x (some n)) T w (.agg ⟨(l.drop off).take n⟩) := qt_ldmr hx hb.r hn
abbrev FW (r : Option Nat) : Fence := { Fence.wide with round := r }
theorem about_true {r : Option Nat} {P : Program} {o : Oper} {w : World} {ρ : Operand → Value} : ∀ f, o.about P w ρ = some f → (FW r).fn f := fun _ _ => trivial
def Ef (P : Program) (r : Option Nat) (m : MK) (T : TT) (w : World) (K : Value → World → Prop) : Prop :=
 ∀ (o : Oper) (a : Act) (next : Act → World → Prop) (Q : Exit → Act → World → Prop), chkO P o.op o.type m = true → Ag T m.ops a.eval →
  (∀ v w', K v w' → next (a.put o.dst v) w') → o.wpIn (FW r) 0 P a w next Q
variable {P : Program} {r : Option Nat} {T : TT} {w w0 : World} {S0 : Nat → Prop} {L : List Res} {K : Value → World → Prop}
def MK.nd : MK → Bool
 | .df .. => false
 | _ => true
theorem chk_nd {o : Op} {ty : TypeId} {m : MK} (h : chkO P o ty m = true) (hm : m.nd = true := by rfl) : ∀ c, o ≠ .defer c := by
 intro c e
 subst e
 cases m <;> simp [chkO, MK.nd] at h hm
theorem ex_nd {o : Oper} {ρ : Operand → Value} {w w' : World} {n : Next} (h : (execOp ρ o).run P w = .ok n w') (hn : ∀ d, n ≠ .defer d) : ∀ c, o.op ≠ .defer c := by
 intro c e
 unfold execOp at h
 rw [e] at h
 simp only [Sem.run_bind] at h
 cases hr : (resolve ρ c o.type).run P w with
 | ok d w2 => rw [hr] at h; simp [Result.andThen] at h; exact hn d h.1.symm
 | halt x w2 => rw [hr] at h; simp [Result.andThen] at h
theorem ef_run {m : MK} (h : ∀ (o : Oper) (ρ : Operand → Value), chkO P o.op o.type m = true → Ag T m.ops ρ → ∃ v w', (execOp ρ o).run P w = .ok (.value v) w' ∧ K v w') : Ef P r m T w K := by
 intro o a next Q hc ha hn
 obtain ⟨v, w', hr, hk⟩ := h o a.eval hc ha
 refine ⟨about_true, ?_⟩
 rw [Oper.semAt_eq _ _ _ (ex_nd hr nofun), hr]
 exact hn _ _ hk
theorem ef_skip {m : MK} (h : ∀ (o : Oper) (ρ : Operand → Value), chkO P o.op o.type m = true → Ag T m.ops ρ → ∃ w', (execOp ρ o).run P w = .ok .skip w' ∧ K undef w') : Ef P r m T w K := by
 intro o a next Q hc ha hn
 obtain ⟨w', hr, hk⟩ := h o a.eval hc ha
 refine ⟨about_true, ?_⟩
 rw [Oper.semAt_eq _ _ _ (ex_nd hr nofun), hr]
 exact hn _ _ hk
theorem ef_qt {m : MK} {v : Value} (h : Qt P m T w v) (hk : K v w) : Ef P r m T w K := ef_run fun o ρ hc ha => ⟨v, w, h o ρ hc ha, hk⟩
def bys (bs : List UInt8) : List Value := bs.map fun b => .int .u8 (b.toNat : Int)
@[simp] theorem bys_length (bs : List UInt8) : (bys bs).length = bs.length := by simp [bys]
theorem bys_append (a b : List UInt8) : bys (a ++ b) = bys a ++ bys b := by simp [bys]
theorem qt_bs {x : Operand} {b off n c : Nat} {l : List Value} {E : TypeId} {bs : List UInt8} (hx : ev T x = some (.slice (some ⟨b, off, none⟩) n c)) (hb : Blr w b l E) (hn : off + n ≤ l.length) (hl : (l.drop off).take n = bys bs) :
  Qt P (.bs x) T w (.string ⟨bs.toArray⟩) := by
 rintro ⟨dst, op, ty, pos, after, guard⟩ ρ hc ha
 cases op <;> simp only [chkO, Bool.false_eq_true, Bool.and_eq_true] at hc
 obtain ⟨e1, hc⟩ := hc
 have e1 := oeq_eq e1; subst e1
 split at hc
 ·rename_i e hs hd
  split at hc
  ·rename_i he
   have hld : (loadCells ⟨b, off, none⟩ n).run P w = .ok ((bs.map fun b => (b.toNat : Int)).map (Value.int .u8)).toArray w := by
    rw [run_cells hb hn, hl]; simp [bys]
   simp only [execOp, ha.2 _ (by simp [MK.ops]) _ hx, Sem.run_bind, run_convert_bytes_string w _ _ _ _ _ _ hs he hd, run_bytesToString w _ _ _ _ hld, Result.andThen_ok]
   simp only [foldl_push_byteCells]
   simp
  ·simp at hc
 ·simp at hc
theorem qt_bs0 {x : Operand} {a : Option Addr} {c : Nat} (hx : ev T x = some (.slice a 0 c)) : Qt P (.bs x) T w (.string ⟨([] : List UInt8).toArray⟩) := by
 rintro ⟨dst, op, ty, pos, after, guard⟩ ρ hc ha
 cases op <;> simp only [chkO, Bool.false_eq_true, Bool.and_eq_true] at hc
 obtain ⟨e1, hc⟩ := hc
 have e1 := oeq_eq e1; subst e1
 split at hc
 ·rename_i e hs hd
  split at hc
  ·rename_i he
   simp only [execOp, ha.2 _ (by simp [MK.ops]) _ hx, Sem.run_bind, run_convert_bytes_string w _ _ _ _ _ _ hs he hd, Conv.bytesToString]
   cases a <;> rfl
  ·simp at hc
 ·simp at hc
theorem ef_al {z : ZZ} {E : TypeId} (hS : St w0 S0 w L) (h : ∀ b w', St w0 S0 w' (L ++ [cel b (zx z) E]) → K (.pointer (some ⟨b, 0, none⟩)) w') : Ef P r (.al z E) T w K := by
 refine ef_run ?_
 rintro ⟨dst, op, ty, pos, after, guard⟩ ρ hc ha
 cases op <;> simp only [chkO, Bool.false_eq_true, Bool.and_eq_true, decide_eq_true_eq] at hc
 obtain ⟨rfl, hz⟩ := hc
 obtain ⟨v, hv, hl⟩ := zeroIs_run hz w
 refine ⟨_, w.alloc (.cells ⟨zx z⟩ E), ?_, h _ _ (hS.alloc (zx z) E)⟩
 have e : v.cells = ⟨zx z⟩ := by rw [← hl]
 simp only [execOp, Instr.alloc, Sem.run_bind, hv, Result.andThen_ok, newVar, newRow, run_newObj, Sem.run_pure, e]
 rfl
theorem ef_bx {x : Operand} {E : TypeId} {v : Value} (hS : St w0 S0 w L) (hx : ev T x = some v) (h : ∀ b w', St w0 S0 w' (L ++ [cel b v.cells.toList E]) → K (.pointer (some ⟨b, 0, none⟩)) w') : Ef P r (.bx E x) T w K := by
 refine ef_run ?_
 rintro ⟨dst, op, ty, pos, after, guard⟩ ρ hc ha
 cases op <;> simp only [chkO, Bool.false_eq_true, Bool.and_eq_true, decide_eq_true_eq] at hc
 obtain ⟨rfl, e1⟩ := hc
 have e1 := oeq_eq e1; subst e1
 refine ⟨_, w.alloc (.cells ⟨v.cells.toList⟩ E), ?_, h _ _ (hS.alloc v.cells.toList E)⟩
 simp only [execOp, Instr.box, ha.2 _ (by simp [MK.ops]) _ hx, Sem.run_bind, Result.andThen_ok, newVar, newRow, run_newObj, Sem.run_pure]
 rfl
theorem spl_length {l vs : List Value} {off : Nat} (h : off + vs.length ≤ l.length) : (spl l off vs).length = l.length := by simp [spl]; omega
theorem setB_self {w : World} {b : Nat} {l : List Value} {E : TypeId} (h : Blk w b l E) : setB w b l = w := by
 obtain ⟨fr, h, _⟩ := h
 have hh : w.heap.modify b (oset l) = w.heap := by
  apply Array.ext
  ·simp
  ·intro i h1 h2
   simp only [Array.getElem_modify]
   split
   ·rename_i e; subst e
    have := (Array.getElem?_eq_some_iff.1 h).2
    rw [this]; rfl
   ·rfl
 unfold setB
 rw [hh]
theorem oset_oset (l l' : List Value) (o : Obj) : oset l' (oset l o) = oset l' o := by cases o <;> rfl
theorem setB_setB (w : World) (b : Nat) (l l' : List Value) : setB (setB w b l) b l' = setB w b l' := by
 unfold setB
 congr 1
 apply Array.ext
 ·simp
 ·intro i h1 h2
  simp only [Array.getElem_modify]
  split <;> simp [oset_oset]
theorem spl_step (l vs : List Value) (k : Nat) (v : Value) (h : k + (vs.length + 1) ≤ l.length) : spl (l.set k v) (k + 1) vs = spl l k (v :: vs) := by
 unfold spl
 have h1 : (l.set k v).take (k + 1) = l.take k ++ [v] := by
  rw [List.take_succ_eq_append_getElem (by simp; omega), List.take_set_of_le (Nat.le_refl _)]
  simp
 rw [h1, List.drop_set_of_lt (by omega)]
 simp
 omega
theorem run_store1 {b i : Nat} {l : List Value} {E : TypeId} {v : Value} (hb : Blk w b l E) (hi : i < l.length) (hv : v.oneCell' = true) : (store ⟨b, i, none⟩ v).run P w = .ok () (setB w b (l.set i v)) := by
 have hc : w.cell? ⟨b, i, none⟩ = some l[i] := by rw [hb.cell]; simp [hi]
 have hf := hb.free hi
 have e : w.setCell ⟨b, i, none⟩ v = setB w b (l.set i v) := by
  obtain ⟨fr, h, _⟩ := hb
  unfold World.setCell setB
  congr 1
  apply Array.ext
  ·simp
  ·intro j h1 h2
   simp only [Array.getElem_modify]
   split
   ·rename_i e; subst e
    have := (Array.getElem?_eq_some_iff.1 h).2
    rw [this]
    simp [oset]
   ·rfl
 rw [← e, run_store P w ⟨b, i, none⟩ v .plain hv]
 simp [hc, hf]
theorem run_stores {b off : Nat} {E : TypeId} : ∀ (vs : List Value) (i : Nat) (l : List Value) (w : World), Blk w b l E → off + i + vs.length ≤ l.length → vs.all (·.oneCell') = true →
  (storeCells ⟨b, off, none⟩ vs i).run P w = .ok () (setB w b (spl l (off + i) vs))
 | [], i, l, w, hb, _, _ => by simp [storeCells, spl, setB_self hb]
 | v :: vs, i, l, w, hb, hl, hv => by
  simp only [List.all_cons, Bool.and_eq_true] at hv
  simp only [List.length_cons] at hl
  have h1 := run_store1 (P := P) (v := v) hb (show off + i < l.length by omega) hv.1
  have h2 := run_stores (off := off) vs (i + 1) (l.set (off + i) v) (setB w b (l.set (off + i) v)) (hb.set (by simp)) (by simp; omega) hv.2
  simp only [storeCells, Sem.run_bind, add_plain, h1, Result.andThen_ok, h2, setB_setB]
  rw [show off + (i + 1) = off + i + 1 from by omega, spl_step _ _ _ _ (by omega)]
theorem ef_st {x v : Operand} {n b off : Nat} {l : List Value} {E : TypeId} {u : Value} (hS : St w0 S0 w L) (i : Nat) (hi : L[i]? = some (cel b l E)) (hx : ev T x = some (.pointer (some ⟨b, off, none⟩))) (hv : ev T v = some u)
  (hn : u.cells.toList.length = n) (hl : off + n ≤ l.length) (h1 : u.cells.toList.all (·.oneCell') = true) (h : ∀ w', St w0 S0 w' (L.set i (cel b (spl l off u.cells.toList) E)) → K undef w') : Ef P r (.st x v n) T w K := by
 refine ef_skip ?_
 rintro ⟨dst, op, ty, pos, after, guard⟩ ρ hc ha
 cases op <;> simp only [chkO, Bool.false_eq_true, Bool.and_eq_true] at hc
 obtain ⟨⟨e1, e2⟩, hs⟩ := hc
 have e1 := oeq_eq e1; have e2 := oeq_eq e2; subst e1 e2
 subst hn
 refine ⟨_, ?_, h _ (hS.set i hi (spl l off u.cells.toList) (spl_length hl))⟩
 have hr := run_stores (P := P) (off := off) u.cells.toList 0 l w (hS.b i hi) (by omega) h1
 simp only [execOp, ha.2 _ (by simp [MK.ops]) _ hx, ha.2 _ (by simp [MK.ops]) _ hv, Instr.storeAt, storeVar, Instr.sureAddr, Sem.run_bind, Sem.run_pure, Result.andThen_ok, run_size hs w, Sem.run_ite]
 rw [if_neg (by simp)]
 simp only [Result.andThen_ok, hr, Nat.add_zero]
def evcs (T : TT) (sz : Nat) : List Operand → Option (List Value)
 | [] => some []
 | x :: l => match ev T x, evcs T sz l with
  | some v, some r => match Nat.beq v.cells.toList.length sz with | true => some (v.cells.toList ++ r) | false => none
  | _, _ => none
theorem foldl_set (vs : List Value) (off : Nat) : ∀ (k : Nat) (l : Array Value), off + k + vs.length ≤ l.size →
  ((vs.zipIdx k).foldl (fun (cs : Array Value) (p : Value × Nat) => cs.setIfInBounds (off + p.2) p.1) l).toList = spl l.toList (off + k) vs := by
 induction vs with
 | nil => intro k l _; simp [spl]
 | cons v vs ih =>
  intro k l hl
  simp only [List.length_cons] at hl
  simp only [List.zipIdx_cons, List.foldl_cons]
  rw [ih (k + 1) _ (by simp; omega)]
  rw [Array.toList_setIfInBounds, show off + (k + 1) = off + k + 1 from by omega, spl_step _ _ _ _ (by simp; omega)]
theorem foldl_set' (vs : Array Value) (off : Nat) (l : Array Value) (h : off + vs.size ≤ l.size) :
  (vs.zipIdx.foldl (fun (cs : Array Value) (p : Value × Nat) => cs.setIfInBounds (off + p.2) p.1) l).toList = spl l.toList off vs.toList := by
 have := foldl_set vs.toList off 0 l (by simpa using h)
 rw [Nat.add_zero] at this
 rw [← this]
 congr 1
 rw [← Array.foldl_toList]
 simp
theorem fill_row {ρ : Operand → Value} {sz : Nat} : ∀ (xs : List Operand) (k : Nat) (rs : List Value) (cs : Array Value), (∀ x ∈ xs, ∀ v, ev T x = some v → ρ x = v) → evcs T sz xs = some rs → k * sz + rs.length ≤ cs.size →
  ∃ out, Instr.fill (fun i => some (i * sz, sz)) cs ((xs.zipIdx k).map fun p => (p.2, ρ p.1)) = some out ∧ out.toList = spl cs.toList (k * sz) rs
 | [], k, rs, cs, _, h, _ => by simp [evcs] at h; subst h; exact ⟨cs, rfl, by simp [spl]⟩
 | x :: xs, k, rs, cs, ha, h, hl => by
  unfold evcs at h
  split at h
  ·rename_i v r hv hr
   split at h
   ·rename_i hsz
    have hsz : v.cells.toList.length = sz := Nat.eq_of_beq_eq_true hsz
    simp at h; subst h
    simp only [List.length_append, hsz] at hl
    have e := ha x (by simp) v hv
    have hvs : v.cells.size = sz := by simpa using hsz
    have hf := foldl_set' v.cells (k * sz) cs (by omega)
    obtain ⟨out, ho, hl2⟩ := fill_row xs (k + 1) r (v.cells.zipIdx.foldl (fun (cs : Array Value) (p : Value × Nat) => cs.setIfInBounds (k * sz + p.2) p.1) cs) (fun y hy => ha y (by simp [hy])) hr (by
     rw [← Array.length_toList, hf, spl_length (by simp; omega)]; simp; rw [Nat.succ_mul]; omega)
    refine ⟨out, ?_, ?_⟩
    ·simp only [List.zipIdx_cons, List.map_cons, Instr.fill, e]
     rw [if_neg (by simp [hvs]; omega)]
     exact ho
    ·rw [hl2, hf]
     unfold spl
     have h1 : v.cells.toList.length = sz := hsz
     rw [Nat.succ_mul]
     simp only [List.take_append, List.length_take, List.length_append, h1, Array.length_toList]
     rw [show min (k * sz) cs.size = k * sz from by omega]
     rw [List.take_of_length_le (by simp; omega), List.take_of_length_le (l := v.cells.toList) (by omega), show k * sz + sz - (k * sz + sz) = 0 from by omega]
     simp only [List.take_zero, List.append_nil]
     rw [List.drop_append, List.drop_append, List.drop_eq_nil_of_le (by simp; omega), List.drop_eq_nil_of_le (as := v.cells.toList) (by simp; omega)]
     simp only [List.nil_append, List.length_append, List.length_take, Array.length_toList, h1, List.append_assoc, List.drop_drop]
     congr 3
     congr 1
     omega
   ·simp at h
  ·simp at h
theorem evcs_len {sz : Nat} : ∀ {xs : List Operand} {rs : List Value}, evcs T sz xs = some rs → rs.length = xs.length * sz
 | [], rs, h => by simp [evcs] at h; subst h; simp
 | x :: xs, rs, h => by
  unfold evcs at h
  split at h
  ·rename_i v r hv hr
   split at h
   ·rename_i hsz
    have hsz : v.cells.toList.length = sz := Nat.eq_of_beq_eq_true hsz
    simp at h; subst h
    rw [List.length_append, hsz, evcs_len hr, List.length_cons, Nat.succ_mul]; omega
   ·simp at h
  ·simp at h
theorem zip_range {ρ : Operand → Value} (xs : List Operand) (qs : List (Nat × Operand)) (h1 : xs = qs.map (·.2)) (h2 : qs.map (·.1) = List.range xs.length) :
  (qs.map fun p => (p.1, ρ p.2)) = ((xs.zipIdx 0).map fun p => (p.2, ρ p.1)) := by
 apply List.ext_getElem?
 intro j
 have a1 := congrArg (·[j]?) h1
 have a2 := congrArg (·[j]?) h2
 simp only [List.getElem?_map] at a1 a2
 simp only [List.getElem?_map, List.getElem?_zipIdx, a1]
 cases hq : qs[j]? with
 | none => simp
 | some q =>
  simp only [hq, Option.map_some] at a2 ⊢
  by_cases hj : j < xs.length
  ·rw [List.getElem?_range hj] at a2; simp at a2; simp [a2]
  ·rw [List.getElem?_eq_none (by simp; omega)] at a2; simp at a2
theorem ef_bl {E : TypeId} {sz : Nat} {xs : List Operand} {rs : List Value} (hS : St w0 S0 w L) (hx : evcs T sz xs = some rs)
  (h : ∀ b w', St w0 S0 w' (L ++ [cel b rs E]) → K (.slice (some ⟨b, 0, none⟩) xs.length xs.length) w') : Ef P r (.bl E sz xs) T w K := by
 refine ef_run ?_
 rintro ⟨dst, op, ty, pos, after, guard⟩ ρ hc ha
 cases op <;> simp only [chkO, Bool.false_eq_true, Bool.and_eq_true, decide_eq_true_eq] at hc
 rename_i t l qs
 obtain ⟨⟨⟨⟨rfl, e1⟩, e2⟩, hle⟩, hc⟩ := hc
 have e1 := oeqs_eq e1
 split at hc
 ·rename_i e hu
  simp only [Bool.and_eq_true, decide_eq_true_eq] at hc
  obtain ⟨⟨rfl, hs⟩, hz⟩ := hc
  split at hz
  ·rename_i i hi
   obtain ⟨z, hz⟩ := Option.isSome_iff_exists.1 hz
   have hmap : (qs.map fun x => (x.1, ρ x.2)).toList = ((xs.zipIdx 0).map fun p => (p.2, ρ p.1)) := by
    rw [Array.toList_map, zip_range (ρ := ρ) xs qs.toList e1 e2]
   have hlen := evcs_len hx
   have key : ∀ zero : Array Value, ∃ out, Instr.fill (fun i => some (i * sz, sz)) ((Array.range (xs.length * sz)).map (zero[· % zero.size]!)) ((xs.zipIdx 0).map fun p => (p.2, ρ p.1)) = some out ∧ out = ⟨rs⟩ := by
    intro zero
    obtain ⟨out, ho, hl⟩ := fill_row (ρ := ρ) xs 0 rs ((Array.range (xs.length * sz)).map (zero[· % zero.size]!)) (fun x hx' => ha.2 x hx') hx (by simp; omega)
    refine ⟨out, ho, ?_⟩
    apply Array.ext'
    rw [hl]
    simp [spl]
    omega
   refine ⟨_, w.alloc (.cells ⟨rs⟩ e), ?_, h _ _ (hS.alloc rs e)⟩
   by_cases h0 : xs.length * sz = 0
   ·obtain ⟨out, ho, hr⟩ := key #[]
    simp only [execOp, Instr.buildSlice, hmap, Sem.run_bind, run_underlying hu w, Result.andThen_ok, run_size hs w, Sem.run_ite]
    rw [if_neg (by omega), if_pos h0]
    simp only [Sem.run_pure, Result.andThen_ok, ho, hr, newRow, Sem.run_bind, run_newObj]
    rfl
   ·obtain ⟨out, ho, hr⟩ := key z.cells
    have hzv : (zeroValue e).run P w = .ok z w := by simp [zeroValue, typeInfo, hi, hz]
    simp only [execOp, Instr.buildSlice, hmap, Sem.run_bind, run_underlying hu w, Result.andThen_ok, run_size hs w, Sem.run_ite]
    rw [if_neg (by omega), if_neg h0]
    simp only [Sem.run_bind, hzv, Sem.run_pure, Result.andThen_ok, ho, hr, newRow, run_newObj]
    rfl
  ·simp at hz
 ·simp at hc
def rep (n : Nat) (z : ZZ) : List Value := (List.replicate n (zx z)).flatten
theorem rep_length (n : Nat) (z : ZZ) : (rep n z).length = n * (zx z).length := by simp [rep]
theorem mod_cells (z : List Value) : ∀ (n : Nat), (Array.range (n * z.length)).toList.map (fun i => (⟨z⟩ : Array Value)[i % (⟨z⟩ : Array Value).size]!) = (List.replicate n z).flatten := by
 intro n
 apply List.ext_getElem?
 intro j
 by_cases hz : z.length = 0
 ·have : z = [] := List.length_eq_zero_iff.1 hz
  subst this; simp
 ·simp only [List.getElem?_map, Array.toList_range]
  by_cases hj : j < n * z.length
  ·rw [List.getElem?_range hj]
   have hm : j % z.length < z.length := Nat.mod_lt _ (by omega)
   have key : ∀ (n j : Nat), j < n * z.length → (List.replicate n z).flatten[j]? = z[j % z.length]? := by
    intro n
    induction n with
    | zero => intro j hj; simp at hj
    | succ n ih =>
     intro j hj
     rw [List.replicate_succ, List.flatten_cons]
     by_cases h : j < z.length
     ·rw [List.getElem?_append_left h, Nat.mod_eq_of_lt h]
     ·rw [List.getElem?_append_right (by omega), ih _ (by rw [Nat.succ_mul] at hj; omega)]
      congr 1
      rw [← Nat.mod_eq_sub_mod (by omega)]
   rw [key n j hj]
   simp only [Option.map_some, List.size_toArray]
   rw [List.getElem?_eq_getElem hm]
   simp [getElem!_pos, hm]
  ·rw [List.getElem?_eq_none (by simp; omega), List.getElem?_eq_none (by simp; omega)]
   rfl
theorem run_zeros {z : Array Value} {zz : ZZ} (h : z.toList = zx zz) (n : Nat) : Builtin.zeroCells z n = ⟨rep n zz⟩ := by
 apply Array.ext'
 obtain ⟨z⟩ := z
 simp only at h
 subst h
 have := mod_cells (zx zz) n
 simp only [Builtin.zeroCells, Array.toList_map]
 exact this
variable {P : Program} {r : Option Nat} {T : TT} {w w0 : World} {S0 : Nat → Prop} {L : List Res} {K : Value → World → Prop}
def vo : Value → Nat → Prop
 | .slice (some a) _ _, b => b = a.block
 | _, _ => False
def vb : Value → Nat → Prop
 | .slice (some a) _ c, b => b = a.block ∧ c ≠ 0
 | _, _ => False
def Rd (v : Value) (E sz : Nat) (n : Nat) (xs : List Value) (w : World) : Prop :=
 ((∃ a, v = .slice a 0 0) ∧ n = 0 ∧ xs = []) ∨ ∃ b off cap l, v = .slice (some ⟨b, off, none⟩) n cap ∧ n ≤ cap ∧ off + cap * sz ≤ l.length ∧ (l.drop off).take (n * sz) = xs ∧ Blr w b l E
theorem Rd.len {v : Value} {E sz n : Nat} {xs : List Value} (h : Rd v E sz n xs w) : xs.length = n * sz := by
 rcases h with ⟨_, rfl, rfl⟩ | ⟨b, off, cap, l, _, hn, hl, rfl, _⟩
 ·simp
 ·have := Nat.mul_le_mul_right sz hn
  simp; omega
theorem Rd.same {v : Value} {E sz n : Nat} {xs : List Value} {w' : World} (h : Rd v E sz n xs w) (hs : ∀ b, vb v b → w'.heap[b]? = w.heap[b]?) : Rd v E sz n xs w' := by
 rcases h with h | ⟨b, off, cap, l, rfl, hn, hl, hx, hb⟩
 ·exact .inl h
 ·by_cases hc : cap = 0
  ·subst hc
   have : n = 0 := by omega
   subst this
   exact .inl ⟨⟨_, rfl⟩, rfl, by rw [← hx]; simp⟩
  ·exact .inr ⟨b, off, cap, l, rfl, hn, hl, hx, hb.same (hs b ⟨rfl, hc⟩)⟩
theorem Rd.lt {v : Value} {E sz n : Nat} {xs : List Value} (h : Rd v E sz n xs w) : ∀ b, vb v b → b < w.heap.size := by
 rcases h with ⟨⟨a, rfl⟩, _⟩ | ⟨b, off, cap, l, rfl, hn, hl, hx, hb⟩
 ·intro b hb
  cases a with
  | none => exact hb.elim
  | some a => exact absurd rfl hb.2
 ·intro b' hb'; have : b' = b := hb'.1; subst this; exact hb.lt
def Ow (v : Value) (E sz : Nat) (n : Nat) (xs : List Value) (w : World) : Prop :=
 (v = .slice none 0 0 ∧ n = 0 ∧ xs = []) ∨ ∃ b cap rest, v = .slice (some ⟨b, 0, none⟩) n cap ∧ n ≤ cap ∧ xs.length = n * sz ∧ (xs ++ rest).length = cap * sz ∧ Blk w b (xs ++ rest) E
theorem Ow.rd {v : Value} {E sz n : Nat} {xs : List Value} (h : Ow v E sz n xs w) : Rd v E sz n xs w := by
 rcases h with h | ⟨b, cap, rest, rfl, hn, hx, hl, hb⟩
 ·exact .inl ⟨⟨none, h.1⟩, h.2⟩
 ·exact .inr ⟨b, 0, cap, xs ++ rest, rfl, hn, by omega, by rw [List.drop_zero, ← hx, List.take_left], hb.r⟩
theorem Ow.len {v : Value} {E sz n : Nat} {xs : List Value} (h : Ow v E sz n xs w) : xs.length = n * sz := h.rd.len
theorem Ow.same {v : Value} {E sz n : Nat} {xs : List Value} {w' : World} (h : Ow v E sz n xs w) (hs : ∀ b, vo v b → w'.heap[b]? = w.heap[b]?) : Ow v E sz n xs w' := by
 rcases h with h | ⟨b, cap, rest, rfl, hn, hx, hl, hb⟩
 ·exact .inl h
 ·exact .inr ⟨b, cap, rest, rfl, hn, hx, hl, hb.same (hs b rfl)⟩
def row (v : Value) (E sz n : Nat) (xs : List Value) : Res := ⟨vo v, fun w => Ow v E sz n xs w, fun _ _ h k => k.same h⟩
theorem Fr.drew (w : World) (S : Nat → Prop) : Fr w S w.drew := ⟨Nat.le_refl _, fun _ _ _ => rfl, rfl, rfl, rfl, Nat.le_succ _⟩
theorem drew_alloc (w : World) (o : Obj) (S : Nat → Prop) : Fr w S (w.drew.alloc o) := ⟨by rw [alloc_size]; exact Nat.le_succ _, fun _ hb _ => alloc_other hb, rfl, rfl, rfl, Nat.le_succ _⟩
def News (v : Value) (sz n : Nat) (xs : List Value) (w : World) : Prop :=
 (∃ E, Rd v E sz n xs w) ∨ ∃ s : ByteArray, v = .string s ∧ sz = 1 ∧ n = s.data.toList.length ∧ xs = bys s.data.toList
theorem News.lenOf {v : Value} {sz n : Nat} {xs : List Value} (h : News v sz n xs w) : ∀ w, (Builtin.lenOf v).run P w = .ok n w := by
 rcases h with ⟨E, ⟨⟨a, rfl⟩, rfl, rfl⟩ | ⟨b, off, cap, l, rfl, hn, hl, rfl, hb⟩⟩ | ⟨s, rfl, rfl, rfl, rfl⟩
 ·intro w; rfl
 ·intro w; rfl
 ·intro w; simp [Builtin.lenOf]
theorem News.first {v : Value} {sz n : Nat} {xs : List Value} (h : News v sz n xs w) {w' : World} (hw : w'.heap = w.heap) : (Builtin.firstCells sz n v).run P w' = .ok ⟨xs⟩ w' := by
 rcases h with ⟨E, ⟨⟨a, rfl⟩, rfl, rfl⟩ | ⟨b, off, cap, l, rfl, hn, hl, rfl, hb⟩⟩ | ⟨s, rfl, rfl, rfl, rfl⟩
 ·cases a <;> simp [Builtin.firstCells, loadCells, loadCellsFrom]
 ·have := Nat.mul_le_mul_right sz hn
  have hb' : Blr w' b l E := hb.same (by rw [hw])
  exact run_cells (P := P) (n := n * sz) hb' (by omega)
 ·simp only [Builtin.firstCells, Sem.run_pure]
  congr 1
  apply Array.ext'
  have : s.extract 0 s.data.toList.length = s := by
   have : s.data.toList.length = s.size := by rw [Array.length_toList]; rfl
   rw [this]; simp
  rw [this]
  simp [bys]
theorem News.len {v : Value} {sz n : Nat} {xs : List Value} (h : News v sz n xs w) : xs.length = n * sz := by
 rcases h with ⟨E, h⟩ | ⟨s, _, rfl, rfl, rfl⟩
 ·exact h.len
 ·simp
theorem run_append_in {t u ty E : TypeId} {sz : Nat} (ht : P.underlying t = some (.slice E)) (hu : ∃ d, P.underlying u = some d ∧ (∀ k, d ≠ .int k)) (hs : hasSize P E sz = true) {b n m c : Nat} {x : Value} {xs ys rest : List Value}
  (hx : xs.length = n * sz) (hl : (xs ++ rest).length = c * sz) (hb : Blk w b (xs ++ rest) E) (hy : News x sz m ys w) (h1 : ys.all (·.oneCell') = true) (hc : n + m ≤ c) :
  (Builtin.append_ #[t, u] ty #[.slice (some ⟨b, 0, none⟩) n c, x]).run P w = .ok (.slice (some ⟨b, 0, none⟩) (n + m) c) (setB w b (xs ++ ys ++ rest.drop (m * sz))) := by
 obtain ⟨d, hu, hd⟩ := hu
 have hbeq : (d matches .int _) = false := by cases d <;> first | rfl | exact absurd rfl (hd _)
 have hm := Nat.mul_le_mul_right sz hc
 rw [Nat.add_mul] at hm
 have hst := run_stores (P := P) (off := n * sz) (b := b) (E := E) ys 0 (xs ++ rest) w hb (by rw [hy.len]; omega) h1
 have e : spl (xs ++ rest) (n * sz + 0) ys = xs ++ ys ++ rest.drop (m * sz) := by
  unfold spl
  rw [Nat.add_zero, hy.len, ← hx, List.take_left, ← List.drop_drop, List.drop_left]
 rw [e] at hst
 simp only [Builtin.append_, List.getElem?_toArray, List.getElem?_cons_zero, List.getElem?_cons_succ, Sem.run_bind, run_underlying ht w, run_underlying hu w, Result.andThen_ok, run_size hs w, Sem.run_pure, hbeq, Bool.false_eq_true, if_false, hy.lenOf w, Sem.run_ite]
 rw [if_pos hc]
 simp only [Bool.not_false, if_true, Sem.run_bind, hy.first (P := P) rfl, Result.andThen_ok, add_plain, Nat.zero_add, hst, Sem.run_pure]
theorem run_append_gr {t u ty E : TypeId} {sz bytes : Nat} {z : ZZ} (ht : P.underlying t = some (.slice E)) (hu : ∃ d, P.underlying u = some d ∧ (∀ k, d ≠ .int k)) (hs : hasSize P E sz = true) (hby : bytesAre P E bytes = true) (hz : zeroIs P E z = true) {a : Option Addr} {n m c : Nat} {x : Value} {xs ys : List Value}
  (hx : ∀ w', w'.heap = w.heap → (Builtin.firstCells sz n (.slice a n c)).run P w' = .ok ⟨xs⟩ w') (hy : News x sz m ys w) (hc : c < n + m) (hfit : (n + m) * bytes ≤ 140737488355328) (h63 : n + m ≤ 9223372036854775807) :
  ∃ cap, n + m ≤ cap ∧ (Builtin.append_ #[t, u] ty #[.slice a n c, x]).run P w = .ok (.slice (some ⟨w.heap.size, 0, none⟩) (n + m) cap) (w.drew.alloc (.cells ⟨xs ++ ys ++ rep (cap - (n + m)) z⟩ E)) := by
 obtain ⟨d, hu, hd⟩ := hu
 have hbeq : (d matches .int _) = false := by cases d <;> first | rfl | exact absurd rfl (hd _)
 obtain ⟨i, hi, hsz⟩ := hasSize_info hs
 have hbb : i.bytes = bytes := by simp [bytesAre, hi] at hby; exact hby
 simp only [zeroIs, hi] at hz
 split at hz
 ·rename_i zv hzv
  have hzz := veqs_eq hz
  have hzr : ∀ w, (zeroValue E).run P w = .ok zv w := fun w => by simp [zeroValue, typeInfo, hi, hzv]
  have hti : ∀ w, (typeInfo E).run P w = .ok i w := fun w => by simp [typeInfo, hi]
  have hf := growslice_fits hc hfit
  have h48 : ¬ (2 ^ 48 < Builtin.nextslicecap (n + m) c * i.bytes) := by rw [hbb]; omega
  have h63' : ¬ (((n + m : Nat) : Int) > IntKind.i64.max ∧ (False ∨ i.bytes = 0)) := by
   rw [IntKind.max_i64]; omega
  refine ⟨(Question.appendCap (n + m) c E).cut (w.tape w.drawn (.appendCap (n + m) c E)), by simp [Question.cut], ?_⟩
  have hch : (choose (.appendCap (n + m) c E)).run P w = .ok ((Question.appendCap (n + m) c E).cut (w.tape w.drawn (.appendCap (n + m) c E))) w.drew := by
   simp [choose, Sem.run, Question.forced]
  generalize (Question.appendCap (n + m) c E).cut (w.tape w.drawn (.appendCap (n + m) c E)) = cap at hch ⊢
  have h63'' : ¬ (((n + m : Nat) : Int) > IntKind.i64.max ∧ i.bytes = 0) := by
   rw [IntKind.max_i64]; omega
  simp only [Builtin.append_, List.getElem?_toArray, List.getElem?_cons_zero, List.getElem?_cons_succ, Sem.run_bind, run_underlying ht w, run_underlying hu w, Result.andThen_ok, run_size hs w, Sem.run_pure, hbeq, Bool.false_eq_true, if_false, hy.lenOf w, Sem.run_ite]
  rw [if_neg (by omega)]
  simp only [Bool.not_false, if_true, Sem.run_bind, hti, Result.andThen_ok, Sem.run_ite, false_or]
  rw [if_neg h63'', if_neg h48]
  simp only [Sem.run_pure, Result.andThen_ok, hch, run_askRoom, hx w.drew rfl, hy.first (P := P) (w' := w.drew) rfl, hzr, run_zeros hzz, newRow, Sem.run_bind, run_newObj]
  congr 2
  congr 2
  apply Array.ext'
  simp
 ·simp at hz
theorem run_append_00 {t u ty E : TypeId} {sz : Nat} (ht : P.underlying t = some (.slice E)) (hu : ∃ d, P.underlying u = some d ∧ (∀ k, d ≠ .int k)) (hs : hasSize P E sz = true) {x : Value} {ys : List Value} (hy : News x sz 0 ys w) :
  (Builtin.append_ #[t, u] ty #[.slice none 0 0, x]).run P w = .ok (.slice none 0 0) w := by
 obtain ⟨d, hu, hd⟩ := hu
 simp only [Builtin.append_, List.getElem?_toArray, List.getElem?_cons_zero, List.getElem?_cons_succ, Sem.run_bind, run_underlying ht w, run_underlying hu w, Result.andThen_ok, run_size hs w, Sem.run_pure, Bool.false_eq_true, if_false, hy.lenOf w, Sem.run_ite]
 rw [if_pos (Nat.le_refl _)]
 simp only [Bool.not_false, if_true, hy.first (P := P) rfl, Result.andThen_ok]
theorem ef_ap {E : TypeId} {sz bytes : Nat} {z : ZZ} {x y : Operand} {v u : Value} {n m : Nat} {xs ys : List Value} (hS : St w0 S0 w L) (i : Nat) (hi : L[i]? = some (row v E sz n xs)) (hx : ev T x = some v) (hy : ev T y = some u) (hu : News u sz m ys w)
  (h1 : ys.all (·.oneCell') = true) (hfit : (n + m) * bytes ≤ 140737488355328) (h63 : n + m ≤ 9223372036854775807)
  (h : ∀ v' w', St w0 S0 w' (L.set i (row v' E sz (n + m) (xs ++ ys))) → K v' w') : Ef P r (.ap E sz bytes z x y) T w K := by
 refine ef_run ?_
 rintro ⟨dst, op, ty, pos, after, guard⟩ ρ hc ha
 cases op <;> simp only [chkO, Bool.false_eq_true, Bool.and_eq_true] at hc
 rename_i c
 obtain ⟨⟨⟨hb, he⟩, hc⟩, hd⟩ := hc
 obtain ⟨cs, hr⟩ := run_builtin (P := P) hb ρ ⟨dst, .call c, ty, pos, after, guard⟩ rfl
 have he := oeqs_eq he
 simp only [hr, ← he, List.map_cons, List.map_nil, ha.2 _ (by simp [MK.ops]) _ hx, ha.2 _ (by simp [MK.ops]) _ hy]
 split at hc
 ·rename_i t ht
  split at hc
  ·rename_i e hu'
   simp only [Bool.and_eq_true, decide_eq_true_eq] at hc
   obtain ⟨⟨⟨⟨rfl, hs⟩, hby⟩, hz⟩, hzl⟩ := hc
   split at hd
   ·rename_i t2 ht2
    have hd' : ∃ d, P.underlying t2 = some d ∧ (∀ k, d ≠ .int k) := by
     split at hd
     ·rename_i e2 h2; exact ⟨_, h2, fun k e => by cases e⟩
     ·rename_i h2; exact ⟨_, h2, fun k e => by cases e⟩
     ·simp at hd
    have hty : ∀ vs : Array Value, (Builtin.append_ c.argTypes ty vs).run P w = (Builtin.append_ #[t, t2] ty vs).run P w := by
     intro vs
     simp only [Builtin.append_, ht, ht2]
     rfl
    simp only [builtin, Sem.run_bind, hty]
    have ho : Ow v e sz n xs w := hS.ok i _ hi
    have hln := hu.len
    rcases ho with ⟨rfl, rfl, rfl⟩ | ⟨b, cap, rest, rfl, hn, hxl, hl, hblk⟩
    ·by_cases hm : m = 0
     ·subst hm
      have hys : ys = [] := List.length_eq_zero_iff.1 (by simpa using hln)
      subst hys
      refine ⟨.slice none 0 0, w, ?_, h _ _ ?_⟩
      ·rw [run_append_00 (P := P) (w := w) (ty := ty) hu' hd' hs hu]; rfl
      ·have hset : L.set i (row (.slice none 0 0) e sz (0 + 0) ([] ++ [])) = L := by
        apply List.ext_getElem?
        intro j
        by_cases e' : j = i
        ·subst e'; rw [List.getElem?_set_self (List.getElem?_eq_some_iff.1 hi).1, hi]; rfl
        ·rw [List.getElem?_set_ne (fun e2 => e' e2.symm)]
       rw [hset]; exact hS
     ·obtain ⟨cap, hcap, hrun⟩ := run_append_gr (P := P) (w := w) (ty := ty) (a := none) (n := 0) (m := m) (c := 0) (x := u) (xs := []) (ys := ys) hu' hd' hs hby hz (fun w' _ => rfl) hu (by omega) hfit h63
      refine ⟨_, _, by rw [hrun]; rfl, h _ _ ?_⟩
      refine hS.turn hi (drew_alloc w _ _) (fun b hb => .inr (by have : b = w.heap.size := hb; omega)) (fun b hb => by have : b = w.heap.size := hb; rw [alloc_size]; show _ < w.heap.size + 1; omega) ?_
      refine .inr ⟨w.heap.size, cap, rep (cap - (0 + m)) z, rfl, hcap, by simp [hln], ?_, ?_⟩
      ·simp only [List.length_append, List.nil_append, hln, rep_length, hzl, Nat.zero_add]
       rw [← Nat.add_mul]; congr 1; omega
      ·exact Blk.alloc (w := w.drew) _ _
    ·by_cases hc' : n + m ≤ cap
     ·have hrun := run_append_in (P := P) (w := w) (ty := ty) hu' hd' hs hxl hl hblk hu h1 hc'
      have hm := Nat.mul_le_mul_right sz hc'
      rw [Nat.add_mul] at hm
      have hlen : (xs ++ ys ++ rest.drop (m * sz)).length = (xs ++ rest).length := by
       simp only [List.length_append, List.length_drop] at hl ⊢
       omega
      refine ⟨_, _, by rw [hrun]; rfl, h _ _ ?_⟩
      refine hS.turn hi (fr_setB w b _) (fun b' hb' => .inl hb') (fun b' hb' => by have : b' = b := hb'; subst this; rw [setB_size]; exact hblk.lt) ?_
      exact .inr ⟨b, cap, rest.drop (m * sz), rfl, hc', by rw [List.length_append, hxl, hln, Nat.add_mul], by rw [hlen, hl], hblk.set hlen⟩
     ·obtain ⟨cap', hcap, hrun⟩ := run_append_gr (P := P) (w := w) (ty := ty) (a := some ⟨b, 0, none⟩) (n := n) (m := m) (c := cap) (x := u) (xs := xs) (ys := ys) hu' hd' hs hby hz
       (fun w' hw' => by
        have hb' : Blk w' b (xs ++ rest) e := hblk.same (by rw [hw'])
        have := run_cells (P := P) (n := n * sz) hb'.r (off := 0) (by simp; omega)
        rw [List.drop_zero, ← hxl, List.take_left, hxl] at this
        exact this) hu (by omega) hfit h63
      refine ⟨_, _, by rw [hrun]; rfl, h _ _ ?_⟩
      refine hS.turn hi (drew_alloc w _ _) (fun b hb => .inr (by have : b = w.heap.size := hb; omega)) (fun b hb => by have : b = w.heap.size := hb; rw [alloc_size]; show _ < w.heap.size + 1; omega) ?_
      refine .inr ⟨w.heap.size, cap', rep (cap' - (n + m)) z, rfl, hcap, by rw [List.length_append, hxl, hln, Nat.add_mul], ?_, ?_⟩
      ·simp only [List.length_append, hln, hxl, rep_length, hzl]
       rw [← Nat.add_mul, ← Nat.add_mul]; congr 1; omega
      ·exact Blk.alloc (w := w.drew) _ _
   ·simp at hd
  ·simp at hc
 ·simp at hc
variable {P : Program} {r : Option Nat} {T : TT} {w w0 : World} {S0 : Nat → Prop} {L : List Res} {K : Value → World → Prop}
theorem News.take {v : Value} {sz m : Nat} {xs : List Value} (h : News v sz m xs w) {k : Nat} (hk : k ≤ m) : (Builtin.firstCells sz k v).run P w = .ok ⟨xs.take (k * sz)⟩ w := by
 rcases h with ⟨E, ⟨⟨a, rfl⟩, rfl, rfl⟩ | ⟨b, off, cap, l, rfl, hn, hl, rfl, hb⟩⟩ | ⟨s, rfl, rfl, rfl, rfl⟩
 ·have : k = 0 := by omega
  subst this
  cases a <;> simp [Builtin.firstCells, loadCells, loadCellsFrom]
 ·have h1 := Nat.mul_le_mul_right sz hn
  have h2 := Nat.mul_le_mul_right sz hk
  have := run_cells (P := P) (n := k * sz) hb (off := off) (by omega)
  rw [List.take_take, Nat.min_eq_left h2]
  exact this
 ·simp only [Builtin.firstCells, Sem.run_pure]
  congr 1
  apply Array.ext'
  have h3 : k ≤ s.size := by rw [Array.length_toList] at hk; exact hk
  simp [bys, ByteArray.data_extract, List.map_take]
theorem St.open_row (hS : St w0 S0 w L) {v : Value} {E sz n : Nat} {xs : List Value} (i : Nat) (hi : L[i]? = some (row v E sz n xs)) (hv : ∃ a m c, v = .slice (some a) m c) :
  ∃ b cap rest, v = .slice (some ⟨b, 0, none⟩) n cap ∧ n ≤ cap ∧ (xs ++ rest).length = cap * sz ∧ St w0 S0 w (L.set i (cel b (xs ++ rest) E)) := by
 obtain ⟨a, m, c, rfl⟩ := hv
 rcases hS.ok i _ hi with ⟨h, _⟩ | ⟨b, cap, rest, h, hn, hx, hl, hb⟩
 ·cases h
 ·cases h
  refine ⟨b, _, rest, rfl, hn, hl, hS.turn hi (Fr.refl _ _) (fun b' hb' => .inl hb') (fun b' hb' => by have : b' = b := hb'; subst this; exact hb.lt) hb⟩
theorem St.close_row (hS : St w0 S0 w L) {b E sz n cap : Nat} {l xs : List Value} (i : Nat) (hi : L[i]? = some (cel b l E)) (hn : n ≤ cap) (hx : xs.length = n * sz) (hp : xs <+: l) (hl : l.length = cap * sz) :
  St w0 S0 w (L.set i (row (.slice (some ⟨b, 0, none⟩) n cap) E sz n xs)) := by
 obtain ⟨rest, rfl⟩ := hp
 exact hS.turn hi (Fr.refl _ _) (fun b' hb' => .inl hb') (fun b' hb' => by have : b' = b := hb'; subst this; exact (hS.b i hi).lt) (.inr ⟨b, cap, rest, rfl, hn, hx, hl, hS.b i hi⟩)
theorem ef_cl {f : FuncId} {args : List Operand} {vs : List Value} (hx : evs T args = some vs) (h : Calls P f ⟨vs⟩ w fun e w' => ∃ v, e = .returned v ∧ K v w') : Ef P r (.cl f args) T w K := by
 rintro ⟨dst, op, ty, pos, after, guard⟩ a next Q hc ha hn
 refine ⟨about_true, ?_⟩
 rw [Oper.semAt_eq _ _ _ (chk_nd hc)]
 cases op <;> simp only [chkO, Bool.false_eq_true] at hc
 rename_i c
 split at hc
 ·rename_i g hg
  simp only [Bool.and_eq_true, decide_eq_true_eq] at hc
  obtain ⟨⟨rfl, he⟩, hc⟩ := hc
  have he := oeqs_eq he
  split at hc
  ·rename_i fn hf
   simp only [Bool.and_eq_true, Bool.not_eq_true'] at hc
   have hval : a.eval (.func f) = .func (.func f) #[] #[] := rfl
   have hargs : c.args.map a.eval = ⟨vs⟩ := by
    rw [map_arr, ← he, evs_map (fun x hx => ha.2 x (by simp [MK.ops]; exact hx)) hx]
   have hrun : (execOp a.eval ⟨dst, .call c, ty, pos, after, guard⟩).run P w = .ok (.enter f ⟨vs⟩) w := by
    have hb : fn.body.isNone = false := by cases hfb : fn.body <;> simp [hfb] at hc ⊢
    simp only [execOp, resolve, hg, Sem.run_bind, Sem.run_pure, Deferred.ofValue, hval, hargs, invoke, callFunc, run_program, Result.andThen_ok, hf, hc.2, hb, Bool.false_eq_true, if_false]
    simp
   rw [hrun]
   refine ⟨fun h => by simp [FW, Fence.wide] at h, ?_⟩
   refine (callsIn_wide (n := 0 - 1)).2 (Calls.mono h ?_)
   rintro e w' ⟨v, rfl, hk⟩
   exact hn v w' hk
  ·simp at hc
 ·simp at hc
theorem ef_cv {x : Operand} {f : FuncId} {first cap : List Value} {args : List Operand} {vs : List Value} (hv : ev T x = some (.func (.func f) ⟨first⟩ ⟨cap⟩)) (hx : evs T args = some vs) (hf : ∀ (args : Array Value) (w : World), (callFunc f args).run P w = .ok (.enter f args) w)
  (h : Calls P f ⟨first ++ vs ++ cap⟩ w fun e w' => ∃ v, e = .returned v ∧ K v w') : Ef P r (.cv x args) T w K := by
 rintro ⟨dst, op, ty, pos, after, guard⟩ a next Q hc ha hn
 refine ⟨about_true, ?_⟩
 rw [Oper.semAt_eq _ _ _ (chk_nd hc)]
 cases op <;> simp only [chkO, Bool.false_eq_true] at hc
 rename_i c
 split at hc
 ·rename_i g hg
  simp only [Bool.and_eq_true] at hc
  obtain ⟨e1, he⟩ := hc
  have e1 := oeq_eq e1
  have he := oeqs_eq he
  have hval : a.eval (.tmp g) = .func (.func f) ⟨first⟩ ⟨cap⟩ := by rw [← e1]; exact ha.2 _ (by simp [MK.ops]) _ hv
  have hargs : c.args.map a.eval = ⟨vs⟩ := by
   rw [map_arr, ← he, evs_map (fun x hx => ha.2 x (by simp [MK.ops]; exact .inr hx)) hx]
  have hrun : (execOp a.eval ⟨dst, .call c, ty, pos, after, guard⟩).run P w = .ok (.enter f ⟨first ++ vs ++ cap⟩) w := by
   simp only [execOp, resolve, hg, Sem.run_bind, Sem.run_pure, Deferred.ofValue, hval, hargs, invoke, Result.andThen_ok, hf]
   simp
  rw [hrun]
  refine ⟨fun h => by simp [FW, Fence.wide] at h, ?_⟩
  refine (callsIn_wide (n := 0 - 1)).2 (Calls.mono h ?_)
  rintro e w' ⟨v, rfl, hk⟩
  exact hn v w' hk
 ·simp at hc
theorem callFunc_of {f : FuncId} {fn : Func} {c : Code} (hf : P.funcs[f]? = some fn) (hb : fn.body = some c) (hn : (fn.name == "runtime.NumGoroutine") = false) (args : Array Value) (w : World) : (callFunc f args).run P w = .ok (.enter f args) w := by
 simp only [callFunc, Sem.run_bind, run_program, Result.andThen_ok, hf, hn, hb, Bool.false_eq_true, if_false, Option.isNone_some, Sem.run_pure]
structure MOp where
 d : Option Nat
 g : Option (Nat × Bool)
 k : MK
inductive DT where
 | fin
 | q (i : Nat) (t : DT)
 | e (i : Nat) (rc : List Nat) (t : DT)
 | alt (ts : List DT)
inductive MC where
 | sk
 | rt
 | xt (id : Nat)
 | sq (a b : MC)
 | rg (l : List MOp)
 | dr (l : List MOp) (pm : List Nat) (t : DT)
 | cd (x : Operand) (a b : MC)
 | bk (id : Nat) (c : MC)
 | lp (c : MC)
 | sc (c : MC)
 | lb (l : Nat)
 | gt
 | rf (x : Operand) (ps : List Nat) (a b : MC)
def geq (ops : Array Oper) (g : Option (Nat × Bool)) (h : Option (Nat × Bool)) : Bool := match g, h with
 | none, none => true
 | some (j, b), some (t, c) => (match ops[j]? with | some o => (match o.dst with | some d => decide (d = t) | none => false) | none => false) && decide (b = c)
 | _, _ => false
def chkOp (P : Program) (ops : Array Oper) (o : Oper) (m : MOp) : Bool :=
 decide (o.dst = m.d) && geq ops o.guard m.g && chkO P o.op o.type m.k
def chkOps (P : Program) (ops : Array Oper) : List Oper → List MOp → Bool
 | [], [] => true
 | o :: os, m :: ms => chkOp P ops o m && chkOps P ops os ms
 | _, _ => false
structure Tm (T : TT) (D : List Deferred) (N : Nat) (a : Act) : Prop where
 ds : a.defers = D
 sz : a.tmps.size = N
 get : ∀ t v, lk T t = some v → a.tmps[t]? = some v
theorem Tm.ag {T : TT} {D : List Deferred} {N : Nat} {a : Act} (h : Tm T D N a) (xs : List Operand) : Ag T xs a.eval := by
 refine ⟨fun _ => rfl, fun x _ v hx => ?_⟩
 cases x with
 | tmp t =>
  have := h.get t v hx
  simp only [Act.eval, Array.getD_eq_getD_getElem?, this, Option.getD_some]
 | const c => simp [ev] at hx; exact hx
 | global g => simp [ev] at hx; exact hx
 | func f => simp [ev] at hx; exact hx
def putT (d : Option Nat) (v : Value) (T : TT) : TT := match d with
 | some t => (t, v) :: T
 | none => T
def dOk (d : Option Nat) (N : Nat) : Prop := ∀ t, d = some t → t < N
theorem Tm.put {T : TT} {D : List Deferred} {N : Nat} {a : Act} (h : Tm T D N a) {d : Option Nat} (v : Value) (hd : dOk d N) : Tm (putT d v T) D N (a.put d v) := by
 cases d with
 | none => exact h
 | some t =>
  refine ⟨h.ds, by simp [Act.put, h.sz], fun s u hs => ?_⟩
  simp only [putT, lk] at hs
  simp only [Act.put]
  cases e : Nat.beq t s with
  | true =>
   have := Nat.eq_of_beq_eq_true e; subst this
   rw [e] at hs; simp at hs; subst hs
   simp [h.sz, hd t rfl]
  | false =>
   have hne : t ≠ s := fun h => by subst h; simp at e
   rw [e] at hs; simp only at hs
   rw [Array.getElem?_setIfInBounds_ne hne]
   exact h.get s u hs
structure Env where
 P : Program
 r : Option Nat
 N : Nat
abbrev QX := Exit → TT → List Deferred → World → Prop
def LQ (N : Nat) (Q : QX) : Exit → Act → World → Prop := fun e a w => ∃ T D, Tm T D N a ∧ Q e T D w
def RL (E : Env) (l : List MOp) (T : TT) (D : List Deferred) (w : World) (Q : QX) : Prop :=
 ∀ (ops : Array Oper) (k : Nat) (a : Act), (∀ j, j < l.length → ∃ o m, ops[k + j]? = some o ∧ l[j]? = some m ∧ chkOp E.P ops o m = true) → (∀ (j : Nat) (m : MOp), l[j]? = some m → dOk m.d E.N) → Tm T D E.N a →
  wpOpsIn (FW E.r) 0 E.P ops (LQ E.N Q) (List.range' k l.length) a w
def allD (p : MOp → Bool) : MC → Bool
 | .rg l => l.all p
 | .dr l _ _ => l.all p
 | .sq a b => allD p a && allD p b
 | .cd _ a b => allD p a && allD p b
 | .bk _ c => allD p c
 | .lp c => allD p c
 | .sc c => allD p c
 | .rf _ ps a b => ps.all (fun t => p ⟨some t, none, .mv (.const .nilFunc)⟩) && allD p a && allD p b
 | _ => true
/-! ### what is checked of a region that draws -/
def MOp.sees (m : MOp) : List Nat := (m.k.ops.filterMap fun | .tmp t => some t | _ => none) ++ (match m.g with | some (t, _) => [t] | none => [])
def MK.plain : MK → Bool
 | .sc .. | .rs _ | .mpn .. | .un .. | .mv _ | .pk .. | .nc _ | .fa .. | .fl .. | .ias .. | .iaa .. | .ixa .. | .ixs .. | .ex .. | .nt _ | .ar .. | .dv .. | .bt .. | .sh .. | .cm .. | .se .. | .sa .. | .be .. | .pn .. | .sn .. | .mf .. | .mi .. | .ss .. | .sl .. | .sp .. | .ln .. | .la .. | .mm .. | .ci .. | .cs _ | .bd .. => true
 | _ => false
def pr (pm : List Nat) (j i : Nat) : Bool := (pm.getD j 0).testBit i
def edges (ops : Array Oper) (i : Nat) : List Nat := match ops[i]? with
 | some o => (o.after.toList.filter (Region.binds .any ·)).map (·.on)
 | none => []
def chkE (ops : Array Oper) (pm : List Nat) : Bool :=
 (List.range ops.size).all fun i => (edges ops i).all (decide <| · < i) && (List.range ops.size).all fun k => !pr pm i k || (edges ops i).any fun e => e == k || pr pm e k
def dstIs (l : List MOp) (i : Nat) (t : Nat) : Bool := match l[i]? with | some m => decide (m.d = some t) | none => false
def seesB (l : List MOp) (i : Nat) (t : Nat) : Bool := match l[i]? with | some m => m.sees.contains t | none => true
def plainB (l : List MOp) (i : Nat) : Bool := match l[i]? with | some m => m.k.plain | none => false
def feeds (l : List MOp) (j i : Nat) : Bool := match l[j]? with | some m => (match m.d with | some t => seesB l i t | none => false) | none => true
def sameD (l : List MOp) (i j : Nat) : Bool := match l[i]?, l[j]? with | some m, some m' => m.d.isSome && decide (m.d = m'.d) | _, _ => true
def shutB (l : List MOp) (pm C Ed A : List Nat) : Bool :=
 (List.range l.length).all fun j => C.contains j || Ed.contains j || A.contains j || (List.range l.length).any fun i => pr pm j i && !C.contains i && !Ed.contains i
def turnB (l : List MOp) (pm C Ed : List Nat) (e : Nat) (rc : List Nat) : Bool :=
 decide (e < l.length) && !C.contains e && !Ed.contains e &&
 C.all fun j => (!feeds l j e || pr pm e j) && (pr pm e j || Ed.any (pr pm · j) || (!feeds l e j && !sameD l e j && (plainB l j || rc.contains j)))
mutual
def chkT (l : List MOp) (pm : List Nat) : DT → List Nat → List Nat → Bool
 | .fin, C, Ed => shutB l pm C Ed []
 | .q i t, C, Ed => decide (i < l.length) && !C.contains i && !Ed.contains i && !feeds l i i && (C.all fun j => (!feeds l j i || pr pm i j) && !feeds l i j && !sameD l i j) && chkT l pm t (i :: C) Ed
 | .e i rc t, C, Ed => shutB l pm C Ed [i] && turnB l pm C Ed i rc && chkT l pm t C (i :: Ed)
 | .alt ts, C, Ed => !ts.isEmpty && shutB l pm C Ed (roots ts) && chkTs l pm ts C Ed
def chkTs (l : List MOp) (pm : List Nat) : List DT → List Nat → List Nat → Bool
 | [], _, _ => true
 | .e i rc t :: ts, C, Ed => turnB l pm C Ed i rc && chkT l pm t C (i :: Ed) && chkTs l pm ts C Ed
 | _ :: _, _, _ => false
def roots : List DT → List Nat
 | [] => []
 | .e i _ _ :: ts => i :: roots ts
 | _ :: ts => roots ts
end
def chkD (ops : Array Oper) (l : List MOp) (pm : List Nat) (t : DT) : Bool := chkE ops pm && chkT l pm t [] []
def chkC (P : Program) : Code → MC → Bool
 | .skip, .sk => true
 | .ret, .rt => true
 | .exit i, .xt j => decide (i = j)
 | .seq a b, .sq x y => chkC P a x && chkC P b y
 | .region _ ops false, .rg l => chkOps P ops ops.toList l
 | .region _ ops true, .dr l pm t => chkOps P ops ops.toList l && chkD ops l pm t
 | .cond c a b, .cd x u v => oeq c x && chkC P a u && chkC P b v
 | .block i c, .bk j u => decide (i = j) && chkC P c u
 | .loop c, .lp u => chkC P c u
 | .scope c, .sc u => chkC P c u
 | .label i, .lb j => decide (i = j)
 | .goto _, .gt => true
 | .rangeFunc g ps a b, .rf x qs u v => oeq g x && decide (ps.toList = qs) && chkC P a u && chkC P b v
 | _, _ => false
abbrev MOp.t (d n : Nat) : MOp := ⟨some d, none, .mv (.tmp n)⟩
abbrev MOp.c (d : Nat) (v : Value) : MOp := ⟨some d, none, .mv (.const v)⟩
abbrev MOp.o (d : Nat) (k : MK) : MOp := ⟨some d, none, k⟩
abbrev MOp.q (d n : Nat) (b : Bool) (k : MK) : MOp := ⟨some d, some (n, b), k⟩
abbrev MOp.e (k : MK) : MOp := ⟨none, none, k⟩
end Go.En
