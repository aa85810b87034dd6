/- EnS EnT Na8 Sf Na9 Nb1 Nb2 Qa6 Qa7 -/
import Derived.Test.YtocofjmknnckhaaGreatDoorPk4
import Derived.Shelf.SlSortCmp.WholeK
import Derived.Shelf.Spec.SlicesGrow
import Derived.Shelf.SlSortCmp.NoneTotal
import Derived.Test.YtocofjmknnckhaaGreatDoorProg
import Derived.Test.YtocofjmknnckhaaGreatDoorChecked
import Derived.KernelRfl
set_option linter.unusedSimpArgs false
set_option linter.unusedVariables false
namespace Go.En
open Go.Proofs Go.Shelf Go.Lib Go.Sort
def fl {α : Type} (enc : α → List Value) (d : List α) : List Value := (d.map enc).flatten
section
variable {α : Type} {enc : α → List Value} {k : Nat}
theorem fl_cons (x : α) (d : List α) : fl enc (x :: d) = enc x ++ fl enc d := by simp [fl]
theorem fl_app (d e : List α) : fl enc (d ++ e) = fl enc d ++ fl enc e := by simp [fl]
theorem fl_len (hk : ∀ x, (enc x).length = k) : ∀ d : List α, (fl enc d).length = d.length * k
 | [] => by simp [fl]
 | x :: d => by rw [fl_cons, List.length_append, hk, fl_len hk d, List.length_cons, Nat.add_mul, Nat.one_mul, Nat.add_comm]
theorem fl_drop (hk : ∀ x, (enc x).length = k) : ∀ (i : Nat) (d : List α), (fl enc d).drop (i * k) = fl enc (d.drop i)
 | 0, d => by simp
 | i + 1, [] => by simp [fl]
 | i + 1, x :: d => by
  rw [fl_cons, List.drop_succ_cons, ← fl_drop hk i d, Nat.add_mul, Nat.one_mul, Nat.add_comm, ← List.drop_drop]
  rw [show (enc x ++ fl enc d).drop k = fl enc d by rw [← hk x, List.drop_left]]
theorem fl_take (hk : ∀ x, (enc x).length = k) : ∀ (i : Nat) (d : List α), (fl enc d).take (i * k) = fl enc (d.take i)
 | 0, d => by simp [fl]
 | i + 1, [] => by simp [fl]
 | i + 1, x :: d => by
  rw [fl_cons, List.take_succ_cons, fl_cons, ← fl_take hk i d, Nat.add_mul, Nat.one_mul, Nat.add_comm]
  rw [← hk x, List.take_length_add_append]
theorem fl_at (hk : ∀ x, (enc x).length = k) (d : List α) (i : Nat) (x : α) (hx : d[i]? = some x) : ((fl enc d).drop (i * k)).take k = enc x := by
 have hl : i < d.length := by
  by_cases h : i < d.length
  ·exact h
  ·rw [List.getElem?_eq_none (by omega)] at hx; cases hx
 rw [fl_drop hk, List.drop_eq_getElem_cons hl, fl_cons, ← hk x]
 rw [List.getElem?_eq_getElem hl] at hx
 cases hx
 rw [List.take_left]
theorem fl_one (h1 : ∀ x, ∀ v ∈ enc x, v.oneCell' = true) (d : List α) : (fl enc d).all (·.oneCell') = true := by
 rw [List.all_eq_true]
 intro v hv
 unfold fl at hv
 obtain ⟨l, hl, hv⟩ := List.mem_flatten.1 hv
 obtain ⟨x, _, rfl⟩ := List.mem_map.1 hl
 exact h1 x v hv
theorem fl_get (hk : ∀ x, (enc x).length = k) : ∀ (d : List α) (t : Nat), t < d.length * k → ∀ x, d[t / k]? = some x → (fl enc d)[t]? = (enc x)[t % k]?
 | [], t, h, x, hx => by simp at h
 | y :: d, t, h, x, hx => by
  have hk0 : 0 < k := by rcases Nat.eq_zero_or_pos k with rfl | h0 <;> simp_all
  rw [fl_cons]
  by_cases ht : t < k
  ·rw [Nat.div_eq_of_lt ht] at hx
   rw [Nat.mod_eq_of_lt ht, List.getElem?_append_left (by rw [hk]; exact ht)]
   simp at hx
   rw [hx]
  ·obtain ⟨s, rfl⟩ : ∃ s, t = s + k := ⟨t - k, by omega⟩
   rw [Nat.add_div_right _ hk0] at hx
   rw [List.getElem?_append_right (by rw [hk]; omega), hk, Nat.add_sub_cancel, Nat.add_mod_right]
   refine fl_get hk d s ?_ x ?_
   ·rw [List.length_cons, Nat.add_mul, Nat.one_mul] at h; omega
   ·simpa using hx
variable [Inhabited α]
theorem flatK_fl (hk : ∀ x, (enc x).length = k) (d : Array α) : Go.Sort.flatK enc k d = (fl enc d.toList).toArray := by
 refine ext_get! ?_ fun t ht => ?_
 ·rw [size_flatK]
  show d.size * k = (fl enc d.toList).length
  rw [fl_len hk]
  rfl
 ·rw [size_flatK] at ht
  rw [get_flatK enc k d t ht]
  have hk0 : 0 < k := by rcases Nat.eq_zero_or_pos k with rfl | h0 <;> simp_all
  have hd : t / k < d.size := by rwa [Nat.div_lt_iff_lt_mul hk0]
  have hm : t % k < (enc d[t / k]!).length := by rw [hk]; exact Nat.mod_lt _ hk0
  have := fl_get hk d.toList t (by simpa using ht) d[t / k]! (by simp [hd])
  have e : (fl enc d.toList).toArray[t]! = (fl enc d.toList)[t]?.getD default := by rw [List.getElem!_toArray, List.getElem!_eq_getElem?_getD]
  rw [e, this, List.getElem?_eq_getElem hm, Option.getD_some]
  exact getElem!_pos (enc d[t / k]!) (t % k) hm
end
theorem fr_grow {W W' : World} (h : Fr W (fun _ => False) W') : ∃ q os, W' = grow (W.drewN q) os := by
 refine ⟨W'.drawn - W.drawn, W'.heap.extract W.heap.size, ?_⟩
 have hd := h.dr
 have e1 : W'.heap = W.heap ++ W'.heap.extract W.heap.size := by
  refine Array.ext_getElem? fun i => ?_
  by_cases hi : i < W.heap.size
  ·rw [Array.getElem?_append_left hi]
   exact h.kept i hi (fun h => h)
  ·rw [Array.getElem?_append_right (by omega)]
   have := h.size
   simp only [Array.getElem?_extract]
   split
   ·congr 1; omega
   ·rw [Array.getElem?_eq_none (by omega)]
 obtain ⟨hp, tp, dn, os, out⟩ := W'
 simp only at e1 hd
 have e2 := h.os; have e3 := h.out; have e4 := h.tape
 simp only at e2 e3 e4
 subst e2 e3 e4
 unfold grow
 have e5 : W.drawn + (dn - W.drawn) = dn := by omega
 rw [World.mk.injEq]
 exact ⟨e1, rfl, e5.symm, rfl, rfl⟩
section
variable {α : Type} [Inhabited α] {enc : α → List Value} {k : Nat} {w w0 : World} {S0 : Nat → Prop} {L : List Res} {K : Value → World → Prop} {P : Program} {ρ : Ren}
theorem holds_blk {b E : Nat} {rest : List Value} (hk : ∀ x, (enc x).length = k) (d : List α) (hb : Blk w b (fl enc d ++ rest) E) : HoldsK enc k w b 0 d.toArray := by
 unfold HoldsK
 rw [flatK_fl hk]
 intro j hj
 simp only [List.size_toArray] at hj
 have hc : (fl enc d ++ rest)[j]? = some (fl enc d).toArray[j]! := by
  rw [List.getElem?_append_left hj, List.getElem?_eq_getElem hj]
  simp [hj]
 rw [Nat.zero_add]
 exact ⟨(hb.r.cell j).trans hc, hb.free (by rw [List.length_append]; omega)⟩
theorem sortW_St {i b cap E n m : Nat} {rest : List Value} {d d' : List α} {os : Array Obj} (hk : ∀ x, (enc x).length = k) (hS : St w0 S0 w L) (hi : L[i]? = some (row (.slice (some ⟨b, 0, none⟩) n cap) E k n (fl enc d)))
  (hn : n ≤ cap) (hd : d.length = n) (hl : (fl enc d ++ rest).length = cap * k) (hb : Blk w b (fl enc d ++ rest) E) (hd' : d'.length = n) :
  St w0 S0 (sortWorldK enc k w b 0 m d'.toArray os) (L.set i (row (.slice (some ⟨b, 0, none⟩) n cap) E k n (fl enc d'))) := by
 have e1 : ∀ c : List Value, c = fl enc d ++ rest → putCells id 0 (Go.Sort.flatK enc k d'.toArray) ⟨c⟩ = ⟨fl enc d' ++ rest⟩ := by
  rintro _ rfl
  rw [flatK_fl hk]
  have l1 := fl_len hk d
  have l2 := fl_len hk d'
  rw [hd] at l1; rw [hd'] at l2
  refine Array.ext_getElem? fun j => ?_
  unfold putCells
  rw [Array.getElem?_mapIdx]
  simp only [List.getElem?_toArray, List.size_toArray, Nat.zero_add, Nat.sub_zero, Nat.zero_le, true_and, id]
  by_cases hj : j < (fl enc d').length
  ·rw [List.getElem?_append_left hj, List.getElem?_append_left (by omega), List.getElem?_eq_getElem (by omega), List.getElem?_eq_getElem hj, Option.map_some, if_pos hj]
   congr 1
   simp [hj]
  ·rw [List.getElem?_append_right (by omega), List.getElem?_append_right (by omega), l1, l2]
   cases rest[j - n * k]? with
   | none => rfl
   | some x => rw [Option.map_some, if_neg (by omega)]
 obtain ⟨fr, hh, hf⟩ := hb
 have hlt : b < w.heap.size := (Array.getElem?_eq_some_iff.1 hh).1
 have ehb : (sortWorldK enc k w b 0 m d'.toArray os).heap[b]? = some (.cells ⟨fl enc d' ++ rest⟩ E fr) := by
  show (w.heap.modify b _ ++ os)[b]? = _
  rw [Array.getElem?_append_left (by rw [Array.size_modify]; exact hlt), Array.getElem?_modify, if_pos rfl, hh]
  show some (Obj.cells (putCells id 0 _ ⟨fl enc d ++ rest⟩) E fr) = _
  rw [e1 _ rfl]
 have hlen : (fl enc d' ++ rest).length = (fl enc d ++ rest).length := by
  rw [List.length_append, List.length_append, fl_len hk, fl_len hk, hd, hd']
 refine hS.turn hi ⟨?_, ?_, rfl, rfl, rfl, ?_⟩ (fun b' h => .inl h) ?_ ?_
 ·show w.heap.size ≤ (w.heap.modify b _ ++ os).size
  rw [Array.size_append, Array.size_modify]; omega
 ·intro b' hb' hn'
  show (w.heap.modify b _ ++ os)[b']? = _
  rw [Array.getElem?_append_left (by rw [Array.size_modify]; exact hb'), Array.getElem?_modify, if_neg]
  rintro rfl
  exact hn' rfl
 ·show w.drawn ≤ w.drawn + m
  omega
 ·rintro b' h
  have h : b' = b := h
  subst h
  exact (Array.getElem?_eq_some_iff.1 ehb).1
 ·refine .inr ⟨b, cap, rest, rfl, hn, ?_, by rw [hlen, hl], fr, ehb, ?_⟩
  ·rw [fl_len hk, hd']
  ·rw [hlen]; exact hf
theorem ck_sortF (M : SlLaysF0.n6 P ρ) (aE : ∀ w, (isAgg (ρ.t 24)).run P w = .ok true w) (zE : ∀ w, (Go.sizeOf (ρ.t 24)).run P w = .ok k w) (hk : ∀ x, (enc x).length = k) (h1 : ∀ x, ∀ v ∈ enc x, v.oneCell' = true) (cf : α → α → Int) (hO : SWO (ltOf cf)) {g : Nat}
  (eg : ∀ args w, (callFunc g args).run P w = .ok (.enter g args) w) (hcmp : ∀ (W : World) (x y : α) (K : Value → World → Prop), (∀ w', St W (fun _ => False) w' [] → K (.int .i64 (cf x y)) w') → CK P g [.agg ⟨enc x⟩, .agg ⟨enc y⟩] W K)
  {i b cap E n : Nat} {d : List α} (hS : St w0 S0 w L) (hi : L[i]? = some (row (.slice (some ⟨b, 0, none⟩) n cap) E k n (fl enc d))) (hd : d.length = n) (hn : n < 4611686018427387904)
  (h : ∀ d' w', d'.Perm d → d'.Pairwise (fun x y => ltOf cf y x = false) → St w0 S0 w' (L.set i (row (.slice (some ⟨b, 0, none⟩) n cap) E k n (fl enc d'))) → K (.tuple ⟨[]⟩) w') :
  CK P (ρ.f 6) [.slice (some ⟨b, 0, none⟩) n cap, .func (.func g) ⟨[]⟩ ⟨[]⟩] w K := by
 rcases hS.ok i _ hi with ⟨h0, _⟩ | ⟨b0, cap0, rest, e0, hnc, hx, hl, hb⟩
 ·cases h0
 ·cases e0
  have hlay : CmpLays P g #[] enc k cf b 0 d.toArray.size w := fun m os dk hdk x y => by
   have hc := hcmp (sortWorldK enc k w b 0 m dk os) x y (fun v w' => v = .int .i64 (cf x y) ∧ ∃ q os', w' = grow ((sortWorldK enc k w b 0 m dk os).drewN q) os') fun w' hS => ⟨rfl, fr_grow hS.fr⟩
   refine Calls.mono hc ?_
   rintro e w' ⟨v, rfl, rfl, hw⟩
   exact ⟨rfl, hw⟩
  subst hd
  have := AnyQ.slices_SortFunc M k aE zE enc hk h1 cf hO g #[] b 0 cap d.toArray w eg hlay (holds_blk hk d hb) hb.lt (by simpa using hn)
  refine this.mono ?_
  rintro e w' ⟨rfl, d', m, os, hp, hs, rfl⟩
  refine ⟨_, rfl, ?_⟩
  have hd' : d'.toList.length = d.length := by have := hp.1; simpa using this
  refine h d'.toList _ ?_ ?_ (sortW_St hk hS hi hnc rfl hl hb hd')
  ·have := hp.2.2
   rw [List.size_toArray, Array.extract_eq_self_of_le (by simp [hp.1]), Array.extract_eq_self_of_le (by simp)] at this
   exact this
  ·rw [List.pairwise_iff_getElem]
   intro p q hp1 hq1 hpq
   have := hs p q (Nat.zero_le _) hpq (by rw [List.size_toArray, ← hd']; exact hq1)
   rw [Array.length_toList] at hp1 hq1
   rwa [getElem!_pos d' p hp1, getElem!_pos d' q hq1] at this
end
open Go.Sort Go.Proofs
theorem cb_neg : ∀ a b : List UInt8, Lib.compareBytes b a = - Lib.compareBytes a b
 | [], [] => rfl
 | [], _ :: _ => rfl
 | _ :: _, [] => rfl
 | x :: a, y :: b => by
  have := cb_neg a b
  unfold Lib.compareBytes
  by_cases h1 : x < y
  ·have h2 : ¬ y < x := by rw [UInt8.lt_iff_toNat_lt] at h1 ⊢; omega
   rw [if_pos h1, if_neg h2, if_pos h1]; rfl
  ·by_cases h2 : y < x
   ·rw [if_neg h1, if_pos h2, if_pos h2, if_neg h1]
   ·rw [if_neg h1, if_neg h2, if_neg h2, if_neg h1, this]
theorem cb_self (a : List UInt8) : Lib.compareBytes a a = 0 := by have := cb_neg a a; omega
theorem cb_zero : ∀ {a b : List UInt8}, Lib.compareBytes a b = 0 → a = b
 | [], [], _ => rfl
 | [], _ :: _, h => by simp [Lib.compareBytes] at h
 | _ :: _, [], h => by simp [Lib.compareBytes] at h
 | x :: a, y :: b, h => by
  unfold Lib.compareBytes at h
  by_cases h1 : x < y
  ·rw [if_pos h1] at h; omega
  ·by_cases h2 : y < x
   ·rw [if_neg h1, if_pos h2] at h; omega
   ·rw [if_neg h1, if_neg h2] at h
    rw [cb_zero h]
    have : x = y := by
     rw [UInt8.lt_iff_toNat_lt] at h1 h2
     exact UInt8.toNat_inj.1 (by omega)
    rw [this]
theorem cb_trans : ∀ {a b c : List UInt8}, Lib.compareBytes a b ≤ 0 → Lib.compareBytes b c ≤ 0 → Lib.compareBytes a c ≤ 0
 | [], _, [], _, _ => by simp [Lib.compareBytes]
 | [], _, _ :: _, _, _ => by simp [Lib.compareBytes]
 | _ :: _, [], _, h, _ => by simp [Lib.compareBytes] at h
 | _ :: _, _ :: _, [], _, h => by simp [Lib.compareBytes] at h
 | x :: a, y :: b, z :: c, h, k => by
  have ih := @cb_trans a b c
  unfold Lib.compareBytes at h k ⊢
  simp only [UInt8.lt_iff_toNat_lt] at h k ⊢
  repeat' split at h
  all_goals repeat' split at k
  all_goals repeat' split
  all_goals first | omega | skip
theorem cb_three (a b : List UInt8) : Lib.compareBytes a b = -1 ∨ Lib.compareBytes a b = 0 ∨ Lib.compareBytes a b = 1 := by
 induction a generalizing b with
 | nil => cases b <;> simp [Lib.compareBytes]
 | cons x a ih =>
  cases b with
  | nil => simp [Lib.compareBytes]
  | cons y b =>
   unfold Lib.compareBytes
   split
   ·exact .inl rfl
   ·split
    ·exact .inr (.inr rfl)
    ·exact ih b
theorem bless_eq : ∀ a b : List UInt8, Op.bytesLess a b = decide (Lib.compareBytes a b < 0)
 | [], [] => by simp [Op.bytesLess, Lib.compareBytes]
 | [], _ :: _ => by simp [Op.bytesLess, Lib.compareBytes]
 | _ :: _, [] => by simp [Op.bytesLess, Lib.compareBytes]
 | x :: a, y :: b => by
  have := bless_eq a b
  unfold Op.bytesLess Lib.compareBytes
  by_cases h1 : x < y
  ·simp [h1]
  ·by_cases h2 : y < x
   ·have : ¬ x = y := by rintro rfl; exact h1 h2
    simp [h1, h2, this]
   ·have e : x = y := by
     rw [UInt8.lt_iff_toNat_lt] at h1 h2
     exact UInt8.toNat_inj.1 (by omega)
    subst e
    simp [this]
def ble (a b : List UInt8) : Bool := decide (Lib.compareBytes a b ≤ 0)
theorem ble_trans {a b c : List UInt8} (h : ble a b = true) (k : ble b c = true) : ble a c = true := by
 unfold ble at *
 rw [decide_eq_true_eq] at *
 exact cb_trans h k
theorem ble_total (a b : List UInt8) : (ble a b || ble b a) = true := by
 unfold ble
 have := cb_neg a b
 simp only [Bool.or_eq_true, decide_eq_true_eq]
 omega
theorem ble_anti {a b : List UInt8} (h : ble a b = true) (k : ble b a = true) : a = b := by
 unfold ble at *
 rw [decide_eq_true_eq] at *
 have := cb_neg a b
 exact cb_zero (by omega)
section
variable {α : Type} (key : α → List UInt8)
theorem swo_key : SWO (ltOf fun x y : α => Lib.compareBytes (key x) (key y)) := by
 have hn := fun x y : α => cb_neg (key x) (key y)
 have ht := fun x y z : α => @cb_trans (key x) (key y) (key z)
 unfold ltOf
 refine ⟨fun x => ?_, fun x y z h k => ?_, fun x y z h k => ?_⟩
 ·simp [cb_self]
 ·simp only [decide_eq_true_eq] at *
  have h1 := ht x y z (by omega) (by omega)
  have h2 := hn x y; have h3 := hn y z; have h4 := hn x z
  have h5 := ht y z x (by omega)
  omega
 ·simp only [decide_eq_false_iff_not] at *
  have h2 := hn x y; have h3 := hn y z; have h4 := hn x z
  have h5 := ht z y x (by omega) (by omega)
  omega
theorem lt_ble (x y : α) : ltOf (fun x y : α => Lib.compareBytes (key x) (key y)) y x = false ↔ ble (key x) (key y) = true := by
 unfold ltOf ble
 have := cb_neg (key x) (key y)
 simp only [decide_eq_false_iff_not, decide_eq_true_eq]
 omega
def srt (l : List α) : List α := l.mergeSort fun x y => ble (key x) (key y)
theorem srt_perm (l : List α) : (srt key l).Perm l := List.mergeSort_perm _ _
theorem srt_sorted (l : List α) : (srt key l).Pairwise fun x y => ble (key x) (key y) = true := by
 refine List.pairwise_mergeSort ?_ ?_ l
 ·exact fun a b c => ble_trans
 ·exact fun a b => ble_total _ _
theorem srt_len (l : List α) : (srt key l).length = l.length := (srt_perm key l).length_eq
theorem srt_unique (hi : ∀ x y, key x = key y → x = y) {l d : List α} (hp : d.Perm l) (hs : d.Pairwise fun x y => ble (key x) (key y) = true) : d = srt key l :=
 List.Perm.eq_of_pairwise (fun a b _ _ h k => hi _ _ (ble_anti h k)) hs (srt_sorted key l) (hp.trans (srt_perm key l).symm)
def lts (x y : α) : Prop := ble (key x) (key y) = true ∧ x ≠ y
theorem lts_unique (hi : ∀ x y, key x = key y → x = y) {l m : List α} (hl : l.Pairwise (lts key)) (hm : m.Pairwise (lts key)) (h : ∀ x, x ∈ l ↔ x ∈ m) : l = m := by
 have nd : ∀ {l : List α}, l.Pairwise (lts key) → l.Nodup := fun h => h.imp fun h => h.2
 have hp : l.Perm m := (List.perm_ext_iff_of_nodup (nd hl) (nd hm)).2 h
 exact List.Perm.eq_of_pairwise (le := fun x y => ble (key x) (key y) = true) (fun a b _ _ h k => hi _ _ (ble_anti h k)) (hl.imp fun h => h.1) (hm.imp fun h => h.1) hp
variable [DecidableEq α]
def ddn (s : List α) : Nat → List α
 | 0 => []
 | p + 1 => if p = 0 ∨ s[p]? ≠ s[p - 1]? then ddn s p ++ (s[p]?).toList else ddn s p
theorem mem_ddn (s : List α) (x : α) : ∀ p, x ∈ ddn s p ↔ x ∈ s.take p
 | 0 => by simp [ddn]
 | p + 1 => by
  have ih := mem_ddn s x p
  have e : s.take (p + 1) = s.take p ++ (s[p]?).toList := by
   by_cases h : p < s.length
   ·rw [List.take_succ_eq_append_getElem h, List.getElem?_eq_getElem h]; rfl
   ·rw [List.getElem?_eq_none (by omega), List.take_of_length_le (by omega), List.take_of_length_le (by omega)]; simp
  have ed : ddn s (p + 1) = if p = 0 ∨ s[p]? ≠ s[p - 1]? then ddn s p ++ (s[p]?).toList else ddn s p := rfl
  rw [e, List.mem_append, ← ih, ed]
  split
  ·rw [List.mem_append]
  ·rename_i h
   constructor
   ·exact .inl
   ·rintro (h1 | h1)
    ·exact h1
    ·refine ih.2 ?_
     have h0 : p ≠ 0 := fun h0 => h (.inl h0)
     have h2 : s[p]? = s[p - 1]? := by
      by_cases h2 : s[p]? = s[p - 1]?
      ·exact h2
      ·exact absurd (.inr h2) h
     rw [h2] at h1
     have h3 : s[p - 1]? = some x := by simpa using h1
     have : (s.take p)[p - 1]? = some x := by rw [List.getElem?_take, if_pos (by omega), h3]
     exact List.mem_of_getElem? this
theorem ddn_sorted (hi : ∀ x y, key x = key y → x = y) {s : List α} (hs : s.Pairwise fun x y => ble (key x) (key y) = true) : ∀ p, (ddn s p).Pairwise (lts key)
 | 0 => by simp [ddn]
 | p + 1 => by
  have ih := ddn_sorted hi hs p
  unfold ddn
  split
  ·rename_i h
   rw [List.pairwise_append]
   refine ⟨ih, ?_, ?_⟩
   ·cases s[p]? <;> simp
   ·intro x hx y hy
    have hy : s[p]? = some y := by simpa using hy
    have hp : p < s.length := by
     by_cases hp : p < s.length
     ·exact hp
     ·rw [List.getElem?_eq_none (by omega)] at hy; cases hy
    rw [List.getElem?_eq_getElem hp] at hy
    cases hy
    have hx := (mem_ddn s x p).1 hx
    obtain ⟨i, hi1, rfl⟩ := List.getElem_of_mem hx
    rw [List.length_take] at hi1
    rw [List.getElem_take]
    have hpw := List.pairwise_iff_getElem.1 hs
    refine ⟨hpw i p (by omega) hp (by omega), fun e => ?_⟩
    rcases h with h | h
    ·omega
    ·refine h ?_
     rw [List.getElem?_eq_getElem hp, List.getElem?_eq_getElem (by omega)]
     by_cases hip : i = p - 1
     ·subst hip; rw [e]
     ·have h1 := hpw i (p - 1) (by omega) (by omega) (by omega)
      have h2 := hpw (p - 1) p (by omega) (by omega) (by omega)
      rw [e] at h1
      rw [hi _ _ (ble_anti h2 h1)]
  ·exact ih
theorem ddn_le (s : List α) : ∀ p, (ddn s p).length ≤ p
 | 0 => Nat.le_refl _
 | p + 1 => by
  have := ddn_le s p
  unfold ddn
  split
  ·rw [List.length_append]
   cases s[p]? <;> simp <;> omega
  ·omega
def kset (l : List α) : List α := ddn (srt key l) l.length
theorem mem_kset (l : List α) (x : α) : x ∈ kset key l ↔ x ∈ l := by
 unfold kset
 rw [mem_ddn, ← srt_len key l, List.take_length]
 exact (srt_perm key l).mem_iff
theorem kset_sorted (hi : ∀ x y, key x = key y → x = y) (l : List α) : (kset key l).Pairwise (lts key) := ddn_sorted key hi (srt_sorted key l) _
theorem kset_len (l : List α) : (kset key l).length ≤ l.length := ddn_le _ _
end
section
variable {α : Type} {enc : α → List Value} {k : Nat}
theorem rd_at (hk : ∀ x, (enc x).length = k) {l : List Value} {off n : Nat} {d : List α} (h : (l.drop off).take (n * k) = fl enc d) (hn : d.length = n) {i : Nat} (hi : i < d.length) : (l.drop (off + i * k)).take k = enc d[i] := by
 have h1 := fl_at hk d i _ (List.getElem?_eq_getElem hi)
 rw [← h, List.drop_take, List.take_take, List.drop_drop] at h1
 rw [← h1]
 congr 1
 have : (i + 1) * k ≤ n * k := Nat.mul_le_mul_right k (by omega)
 rw [Nat.add_mul, Nat.one_mul] at this
 omega
theorem sorted_unique {key : α → List UInt8} {l d : List α} (hi : ∀ x y, x ∈ l → y ∈ l → key x = key y → x = y) (hp : d.Perm l) (hd : d.Pairwise fun x y => ble (key x) (key y) = true) (hl : l.Pairwise fun x y => ble (key x) (key y) = true) : d = l :=
 List.Perm.eq_of_pairwise (fun a b ha hb h k => hi _ _ (hp.mem_iff.1 ha) hb (ble_anti h k)) hd hl hp
end
theorem cb_app (s : List UInt8) (a b : List UInt8) : Lib.compareBytes (s ++ a) (s ++ b) = Lib.compareBytes a b := by
 induction s with
 | nil => rfl
 | cons x s ih =>
  rw [List.cons_append, List.cons_append]
  show (if x < x then (-1 : Int) else if x < x then 1 else Lib.compareBytes (s ++ a) (s ++ b)) = _
  rw [if_neg (by rw [UInt8.lt_iff_toNat_lt]; omega), if_neg (by rw [UInt8.lt_iff_toNat_lt]; omega), ih]
end Go.En
namespace Go.Proofs.YtocofjmknnckhaaGreatDoor
open Go.En
abbrev Id := {b : Bs // b.length = 32}
instance : Inhabited Id := ⟨⟨zid, zid_len⟩⟩
def ic (x : Id) : List Value := bys x.1
theorem ic_len (x : Id) : (ic x).length = 32 := by rw [ic, bys_length, x.2]
theorem ic_one (x : Id) : ∀ v ∈ ic x, v.oneCell' = true := fun v hv => by
 have := bys_one x.1
 rw [List.all_eq_true] at this
 exact this v hv
section
variable {w w0 : World} {S0 : Nat → Prop} {L B : List Res} {K : Value → World → Prop} {s : Bs}
theorem fl_set (d : List Id) (rest : List Value) (i : Nat) (x : Id) (h : i < d.length) : spl (fl ic d ++ rest) (i * 32) (ic x) = fl ic (d.set i x) ++ rest := by
 have e1 : fl ic d ++ rest = fl ic (d.take i) ++ (ic (d[i]) ++ (fl ic (d.drop (i + 1)) ++ rest)) := by
  conv => lhs; rw [← List.take_append_drop i d, List.drop_eq_getElem_cons h, fl_app, fl_cons]
  simp
 have e2 : fl ic (d.set i x) ++ rest = fl ic (d.take i) ++ (ic x ++ (fl ic (d.drop (i + 1)) ++ rest)) := by
  rw [List.set_eq_take_append_cons_drop, if_pos h, fl_app, fl_cons]
  simp
 rw [e1, e2]
 have l1 : (fl ic (d.take i)).length = i * 32 := by rw [fl_len ic_len, List.length_take, Nat.min_eq_left (by omega)]
 have := spl_app (fl ic (d.take i)) (ic d[i]) (fl ic (d.drop (i + 1)) ++ rest) (ic x) (by rw [ic_len, ic_len]; exact Nat.le_refl _)
 rw [l1] at this
 rw [this, List.drop_of_length_le (by rw [ic_len, ic_len]; exact Nat.le_refl _), List.append_nil]
theorem fl_atr (d : List Id) (rest : List Value) (i : Nat) (h : i < d.length) : ((fl ic d ++ rest).drop (i * 32)).take 32 = ic d[i] := by
 have l1 := fl_len ic_len d
 rw [List.drop_append_of_le_length (by rw [l1]; omega), List.take_append_of_le_length (by rw [List.length_drop, l1]; omega)]
 exact fl_at ic_len d i _ (List.getElem?_eq_getElem h)
set_option maxRecDepth 100000 in
theorem b_Compact {v : Value} {n : Nat} {d : List Id} (hd : d.length = n) (hn : n < 2000000) (hS : St w0 S0 w [row v 46 32 n (fl ic d)])
  (h : ∀ v' n' w', (ddn d n).length = n' → St w0 S0 w' [row v' 46 32 n' (fl ic (ddn d n))] → K v' w') : CK Tryz.prog 39 [v] w K := by
 obtain ⟨a, c, rfl⟩ := hS.rlen 0 rfl
 refine call_k Tryz.func39 k39 Tryz.ntmps39 (Nat.le_of_ble_eq_true rfl) ?_
 refine gW ?_
 (refine g_cd rfl (fun hc => ?_) (fun hc => ?_) <;> simp only [cmv, arv, Bool.not_eq_true', Bool.not_eq_false', decide_eq_true_eq, decide_eq_false_iff_not] at hc)
 ·refine gW ?_
  have e : ddn d n = d := by
   have : n < 2 := by omega
   match d, n, hd, this with
   | [], 0, _, _ => rfl
   | [x], 1, _, _ => rfl
  rw [e] at h
  exact g_ret (q_1 rfl (h _ _ _ hd hS))
 ·have h2 : 2 ≤ n := by omega
  have hT := hS
  clear hS
  obtain ⟨b, cap, rest, e, hnc, hlc, hS⟩ := hT.open_row 0 rfl (hT.rowb 0 rfl (by omega))
  clear hT
  cases e
  replace hS : St w0 S0 w [cel b (fl ic d ++ rest) 46] := hS
  have hfl := fl_len ic_len d
  refine gW ?_
  refine g_lp (ι := Nat) (fun k => [(0, .slice (some ⟨b, 0, none⟩) n c), (3, .int .i64 k)]) (fun k w' => 1 ≤ k ∧ k ≤ n ∧ ddn d k = d.take k ∧ St w0 S0 w' [cel b (fl ic d ++ rest) 46]) (fun k => n - k) 1 ⟨rfl, rfl, trivial⟩ ⟨Nat.le_refl _, by omega, ?_, hS⟩ ?_
  ·cases d with
   | nil => simp at hd; omega
   | cons x d => simp [ddn]
  clear hS
  rintro k w1 ⟨hk1, hk, hdk, hS⟩
  refine gW ?_
  (refine g_cd rfl (fun hlt => ?_) (fun hlt => ?_) <;> simp only [cmv, arv, Bool.not_eq_true', Bool.not_eq_false', decide_eq_true_eq, decide_eq_false_iff_not] at hlt)
  ·have hlt : k < n := by omega
   refine gW ?_
   refine g_dr mixed ?_
   have hS := hS.drew
   refine gD ?_
   refine d_rq rfl rfl rfl ⟨by omega, by omega⟩ ?_
   refine d_lm rfl rfl rfl (hS.b 0 rfl) (by rw [List.length_append, hfl, hd]; omega) ?_
   rw [Int.toNat_natCast, Nat.zero_add, fl_atr d rest k (by omega)]
   refine gD ?_
   refine d_rq rfl rfl rfl (in64 (by simp only [arv]; omega)) ?_
   rw [show arv BinOp.sub (k : Int) 1 = ((k - 1 : Nat) : Int) by simp only [arv]; omega]
   refine d_rq rfl rfl rfl ⟨by omega, by omega⟩ ?_
   refine d_lm rfl rfl rfl (hS.b 0 rfl) (by rw [List.length_append, hfl, hd]; omega) ?_
   rw [Int.toNat_natCast, Nat.zero_add, fl_atr d rest (k - 1) (by omega)]
   refine d_qt rfl rfl rfl (qt_aq (a := d[k].1) (b := d[k - 1].1) rfl rfl d[k].2 d[k - 1].2) ?_
   refine d_fin ?_
   refine g_cd rfl (fun hc => ?_) (fun hc => ?_)
   ·have he : d[k] = d[k - 1] := by
     have : d[k].1 = d[k - 1].1 := by simpa [aqv] using hc
     exact Subtype.ext this
    have hslo : ∀ x : Operand, slo (some x) 0 ((c : Int)).toNat ((k : Int)).toNat 32 = k * 32 := fun x => by
     simp only [slo, Int.toNat_natCast]
     rw [if_neg (by omega)]
     omega
    refine gW ?_
    refine g_rq rfl rfl ⟨by omega, by omega, by omega, by omega⟩ ?_
    rw [hslo]
    simp only [Int.toNat_natCast]
    refine gW ?_
    refine g_lp (ι := Nat × Nat × List Id) (fun x => [(0, .slice (some ⟨b, 0, none⟩) n c), (3, .int .i64 x.2.1), (4, .slice (some ⟨b, k * 32, none⟩) (n - k) (c - k)), (5, .int .i64 x.1)])
     (fun x w' => 1 ≤ x.1 ∧ k + x.1 ≤ n ∧ x.2.2.length = n ∧ x.2.1 + 1 ≤ k + x.1 ∧ x.2.2.take x.2.1 = ddn d (k + x.1) ∧ x.2.2.drop (k + x.1 - 1) = d.drop (k + x.1 - 1) ∧ St w0 S0 w' [cel b (fl ic x.2.2 ++ rest) 46]) (fun x => n - x.1) (1, k, d) ⟨rfl, rfl, rfl, rfl, trivial⟩ ⟨Nat.le_refl _, by omega, hd, Nat.le_refl _, ?_, rfl, hS⟩ ?_
    ·show d.take k = ddn d (k + 1)
     unfold ddn
     rw [if_neg, hdk]
     rintro (h0 | h0)
     ·omega
     ·exact h0 (by rw [List.getElem?_eq_getElem (by omega), List.getElem?_eq_getElem (by omega), he])
    clear hS
    rintro ⟨j, q, cur⟩ w1 ⟨hj1, hj, hcl, hq, hct, hcd, hS⟩
    dsimp only at hj1 hj hcl hq hct hcd hS ⊢
    have hcf := fl_len ic_len cur
    refine gW ?_
    (refine g_cd rfl (fun hlj => ?_) (fun hlj => ?_) <;> simp only [cmv, arv, Bool.not_eq_true', Bool.not_eq_false', decide_eq_true_eq, decide_eq_false_iff_not] at hlj)
    ·have hlj : k + j < n := by omega
     have hde : ∀ x (h1 : k + j - 1 ≤ x) (h2 : x < n), cur[x]'(by omega) = d[x]'(by omega) := fun x h1 h2 => by
      have e1 : (cur.drop (k + j - 1))[x - (k + j - 1)]? = (d.drop (k + j - 1))[x - (k + j - 1)]? := by rw [hcd]
      rw [List.getElem?_drop, List.getElem?_drop, show k + j - 1 + (x - (k + j - 1)) = x by omega, List.getElem?_eq_getElem (by omega), List.getElem?_eq_getElem (by omega)] at e1
      exact Option.some.inj e1
     refine gW ?_
     refine g_dr mixed ?_
     have hS := hS.drew
     refine gD ?_
     refine d_rq rfl rfl rfl ⟨by omega, by omega⟩ ?_
     refine d_lm rfl rfl rfl (hS.b 0 rfl) (by rw [List.length_append, hcf, hcl]; omega) ?_
     rw [Int.toNat_natCast, show k * 32 + j * 32 = (k + j) * 32 by omega, fl_atr cur rest (k + j) (by omega), hde (k + j) (by omega) hlj]
     refine gD ?_
     refine d_rq rfl rfl rfl (in64 (by simp only [arv]; omega)) ?_
     rw [show arv BinOp.sub (j : Int) 1 = ((j - 1 : Nat) : Int) by simp only [arv]; omega]
     refine d_rq rfl rfl rfl ⟨by omega, by omega⟩ ?_
     refine d_lm rfl rfl rfl (hS.b 0 rfl) (by rw [List.length_append, hcf, hcl]; omega) ?_
     rw [Int.toNat_natCast, show k * 32 + (j - 1) * 32 = (k + j - 1) * 32 by omega, fl_atr cur rest (k + j - 1) (by omega), hde (k + j - 1) (by omega) (by omega)]
     refine d_qt rfl rfl rfl (qt_aq (a := d[k + j].1) (b := d[k + j - 1].1) rfl rfl d[k + j].2 d[k + j - 1].2) ?_
     refine d_fin ?_
     refine g_cd rfl (fun hc => ?_) (fun hc => ?_)
     ·have hne : d[k + j] ≠ d[k + j - 1] := by
       intro e
       rw [e] at hc
       simp [aqv] at hc
      refine gW ?_
      refine g_rq rfl rfl ⟨by omega, by omega⟩ ?_
      refine g_lm rfl rfl (hS.b 0 rfl) (by rw [List.length_append, hcf, hcl]; omega) ?_
      rw [Int.toNat_natCast, show k * 32 + j * 32 = (k + j) * 32 by omega, fl_atr cur rest (k + j) (by omega), hde (k + j) (by omega) hlj]
      refine g_rq rfl rfl ⟨by omega, by omega⟩ ?_
      rw [Int.toNat_natCast, Nat.zero_add]
      refine g_ef0 rfl (ef_st hS 0 rfl rfl rfl (ic_len _) (by rw [List.length_append, hcf, hcl]; omega) (bys_one _) fun w1 hS => ?_)
      have hS := hS.ceq (l' := fl ic (cur.set q d[k + j]) ++ rest) 0 rfl (fl_set cur rest q _ (by omega))
      refine gW ?_
      refine g_rq rfl rfl (in64 (by simp only [arv]; omega)) ?_
      refine gW ?_
      refine g_rq rfl rfl (in64 (by simp only [arv]; omega)) ?_
      refine gW ?_
      refine g_l (j + 1, q + 1, cur.set q d[k + j]) ⟨rfl, rfl, rfl, rfl, trivial⟩ ⟨by simp only; omega, by simp only; omega, by simp only [List.length_set]; exact hcl, by simp only; omega, ?_, ?_, hS⟩ (by simp only; omega)
      ·show (cur.set q d[k + j]).take (q + 1) = ddn d (k + j + 1)
       unfold ddn
       rw [if_pos (.inr (by rw [List.getElem?_eq_getElem (by omega), List.getElem?_eq_getElem (by omega)]; simpa using hne)), ← hct, List.getElem?_eq_getElem (by omega)]
       rw [List.take_succ_eq_append_getElem (by rw [List.length_set]; omega), List.getElem_set_self, List.take_set_of_le (Nat.le_refl _)]
       rfl
      ·show (cur.set q d[k + j]).drop (k + j + 1 - 1) = d.drop (k + j + 1 - 1)
       rw [List.drop_set_of_lt (by omega)]
       have := congrArg (List.drop 1) hcd
       rw [List.drop_drop, List.drop_drop] at this
       rwa [show k + j - 1 + 1 = k + j + 1 - 1 by omega] at this
     ·have he2 : d[k + j] = d[k + j - 1] := by
       have : d[k + j].1 = d[k + j - 1].1 := by simpa [aqv] using hc
       exact Subtype.ext this
      refine gW ?_
      refine g_rq rfl rfl (in64 (by simp only [arv]; omega)) ?_
      refine gW ?_
      refine g_l (j + 1, q, cur) ⟨rfl, rfl, rfl, rfl, trivial⟩ ⟨by simp only; omega, by simp only; omega, hcl, by simp only; omega, ?_, ?_, hS⟩ (by simp only; omega)
      ·show cur.take q = ddn d (k + j + 1)
       unfold ddn
       rw [if_neg, hct]
       rintro (h0 | h0)
       ·omega
       ·exact h0 (by rw [List.getElem?_eq_getElem (by omega), List.getElem?_eq_getElem (by omega), he2])
      ·show cur.drop (k + j + 1 - 1) = d.drop (k + j + 1 - 1)
       have := congrArg (List.drop 1) hcd
       rw [List.drop_drop, List.drop_drop] at this
       rwa [show k + j - 1 + 1 = k + j + 1 - 1 by omega] at this
    ·have hjn : k + j = n := by omega
     have hslo2 : ∀ x : Operand, slo (some x) 0 ((c : Int)).toNat ((q : Int)).toNat 32 = q * 32 := fun x => by
      simp only [slo, Int.toNat_natCast]
      rw [if_neg (by omega)]
      omega
     refine gW ?_
     refine g_rq rfl rfl ⟨by omega, by omega, by omega, by omega⟩ ?_
     rw [hslo2]
     simp only [Int.toNat_natCast]
     refine g_ef0 rfl (ef_clr hS 0 rfl rfl (by rw [List.length_append, hcf, hcl]; omega) (by decide) fun w1 hS => ?_)
     have hdq : ddn d n = cur.take q := by rw [hct, hjn]
     have hql : (ddn d n).length = q := by rw [hdq, List.length_take, Nat.min_eq_left (by omega)]
     refine gW ?_
     refine g_qt rfl (qt_slh (h := q) rfl (fun h => by cases h) rfl (by omega) hnc) ?_
     refine gW ?_
     have hrl : (rep (n - q) [(32, Value.int .u8 0)]).length = (n - q) * 32 := by rw [rep_length]; rfl
     refine g_ret (q_1 rfl (h _ _ _ hql (hS.close_row (n := q) 0 rfl (by omega) (by rw [fl_len ic_len, hql]) ?_ ?_)))
     ·have e1 : (fl ic cur ++ rest).take (q * 32) = fl ic (ddn d n) := by
       rw [List.take_append_of_le_length (by rw [hcf, hcl]; omega), fl_take ic_len, hdq]
      refine ⟨rep (n - q) [(32, Value.int .u8 0)] ++ (fl ic cur ++ rest).drop (q * 32 + (rep (n - q) [(32, Value.int .u8 0)]).length), ?_⟩
      rw [← e1]
      simp [spl]
     ·refine (spl_length ?_).trans ?_
      ·rw [hrl, List.length_append, hcf, hcl]; omega
      ·rw [List.length_append, hcf, hcl]
       rw [List.length_append, hfl, hd] at hlc
       exact hlc
   ·have he : d[k] ≠ d[k - 1] := by
     intro e
     rw [e] at hc
     simp [aqv] at hc
    refine gW ?_
    refine g_rq rfl rfl (in64 (by simp only [arv]; omega)) ?_
    refine gW ?_
    refine g_l (k + 1) ⟨rfl, rfl, trivial⟩ ⟨by omega, by omega, ?_, hS⟩ (by omega)
    unfold ddn
    rw [if_pos (.inr (by rw [List.getElem?_eq_getElem (by omega), List.getElem?_eq_getElem (by omega)]; simpa using he)), hdk, List.getElem?_eq_getElem (by omega), List.take_succ_eq_append_getElem (by omega)]
    rfl
  ·have e : k = n := by omega
   subst e
   have e : ddn d k = d := by rw [hdk, List.take_of_length_le (by omega)]
   rw [e] at h
   refine gW ?_
   exact g_ret (q_1 rfl (h _ _ _ hd (hS.close_row 0 rfl hnc (by rw [hfl, hd]) (List.prefix_append _ _) hlc)))
end
end Go.Proofs.YtocofjmknnckhaaGreatDoor
namespace Go.Proofs
open Go.Shelf
def Tryz.sortId_ren : Go.Shelf.Ren := ⟨fun | 6 => 37 | 15 => 42 | 14 => 62 | 28 => 72 | 29 => 73 | 20 => 124 | 21 => 125 | 22 => 126 | 23 => 127 | 24 => 128 | 25 => 129 | 26 => 130 | 27 => 131 | 46 => 166 | 47 => 134 | 48 => 135 | 49 => 167 | 50 => 168 | 57 => 182 | n => n, fun | 22 => 23 | 24 => 46 | 25 => 90 | 3 => 3 | 39 => 93 | 0 => 0 | 53 => 107 | 55 => 137 | 4 => 4 | 46 => 129 | 45 => 128 | 50 => 133 | 5 => 5 | 9 => 9 | 66 => 205 | 70 => 209 | 76 => 243 | 77 => 244 | n => n, fun | n => n⟩
theorem Tryz.sortId : Go.Proofs.SlLaysF0.n6 Tryz.prog Tryz.sortId_ren := {
 mixed := by kernel_rfl
 f6 := ⟨Tryz.f37.name, by decide, Tryz.func37.trans (congrArg some (by kernel_rfl))⟩
 f14 := ⟨Tryz.f62.name, by decide, Tryz.func62.trans (congrArg some (by kernel_rfl))⟩
 f15 := Tryz.func42.trans (congrArg some (by kernel_rfl))
 f20 := ⟨Tryz.f124.name, by decide, Tryz.func124.trans (congrArg some (by kernel_rfl))⟩
 f21 := ⟨Tryz.f125.name, by decide, Tryz.func125.trans (congrArg some (by kernel_rfl))⟩
 f22 := ⟨Tryz.f126.name, by decide, Tryz.func126.trans (congrArg some (by kernel_rfl))⟩
 f23 := ⟨Tryz.f127.name, by decide, Tryz.func127.trans (congrArg some (by kernel_rfl))⟩
 f24 := ⟨Tryz.f128.name, by decide, Tryz.func128.trans (congrArg some (by kernel_rfl))⟩
 f25 := ⟨Tryz.f129.name, by decide, Tryz.func129.trans (congrArg some (by kernel_rfl))⟩
 f26 := ⟨Tryz.f130.name, by decide, Tryz.func130.trans (congrArg some (by kernel_rfl))⟩
 f27 := ⟨Tryz.f131.name, by decide, Tryz.func131.trans (congrArg some (by kernel_rfl))⟩
 f28 := Tryz.func72.trans (congrArg some (by kernel_rfl))
 f29 := Tryz.func73.trans (congrArg some (by kernel_rfl))
 f46 := ⟨Tryz.f166.name, by decide, Tryz.func166.trans (congrArg some (by kernel_rfl))⟩
 f47 := Tryz.func134.trans (congrArg some (by kernel_rfl))
 f48 := Tryz.func135.trans (congrArg some (by kernel_rfl))
 f49 := ⟨Tryz.f167.name, by decide, Tryz.func167.trans (congrArg some (by kernel_rfl))⟩
 f50 := ⟨Tryz.f168.name, by decide, Tryz.func168.trans (congrArg some (by kernel_rfl))⟩
 f57 := ⟨Tryz.f182.name, by decide, Tryz.func182.trans (congrArg some (by kernel_rfl))⟩
 t0 := Tryz.underlying0
 a0 := Tryz.isAgg0
 z0 := Tryz.sizeOf0
 v0 := Tryz.zeroValue0
 t3 := Tryz.underlying3
 a3 := Tryz.isAgg3
 z3 := Tryz.sizeOf3
 v3 := Tryz.zeroValue3
 t4 := Tryz.underlying4
 a4 := Tryz.isAgg4
 z4 := Tryz.sizeOf4
 v4 := Tryz.zeroValue4
 t5 := Tryz.underlying5
 a5 := Tryz.isAgg5
 z5 := Tryz.sizeOf5
 v5 := Tryz.zeroValue5
 t9 := Tryz.underlying9
 a9 := Tryz.isAgg9
 z9 := Tryz.sizeOf9
 v9 := Tryz.zeroValue9
 t22 := Tryz.underlying23
 a22 := Tryz.isAgg23
 z22 := Tryz.sizeOf23
 v22 := Tryz.zeroValue23
 t25 := Tryz.underlying90
 a25 := Tryz.isAgg90
 z25 := Tryz.sizeOf90
 v25 := Tryz.zeroValue90
 t39 := Tryz.underlying93
 a39 := Tryz.isAgg93
 z39 := Tryz.sizeOf93
 v39 := Tryz.zeroValue93
 t45 := Tryz.underlying128
 a45 := Tryz.isAgg128
 z45 := Tryz.sizeOf128
 v45 := Tryz.zeroValue128
 t46 := Tryz.underlying129
 a46 := Tryz.isAgg129
 z46 := Tryz.sizeOf129
 v46 := Tryz.zeroValue129
 t50 := Tryz.underlying133
 a50 := Tryz.isAgg133
 z50 := Tryz.sizeOf133
 v50 := Tryz.zeroValue133
 t53 := Tryz.underlying107
 a53 := Tryz.isAgg107
 z53 := Tryz.sizeOf107
 v53 := Tryz.zeroValue107
 t55 := Tryz.underlying137
 a55 := Tryz.isAgg137
 z55 := Tryz.sizeOf137
 v55 := Tryz.zeroValue137
 t66 := Tryz.underlying205
 a66 := Tryz.isAgg205
 z66 := Tryz.sizeOf205
 v66 := Tryz.zeroValue205
 t70 := Tryz.underlying209
 a70 := Tryz.isAgg209
 z70 := Tryz.sizeOf209
 v70 := Tryz.zeroValue209
 t76 := Tryz.underlying243
 a76 := Tryz.isAgg243
 z76 := Tryz.sizeOf243
 v76 := Tryz.zeroValue243
 t77 := Tryz.underlying244
 a77 := Tryz.isAgg244
 z77 := Tryz.sizeOf244
 v77 := Tryz.zeroValue244 }
def Tryz.sortLi_ren : Go.Shelf.Ren := ⟨fun | 6 => 19 | 15 => 42 | 14 => 41 | 28 => 72 | 29 => 73 | 20 => 64 | 21 => 65 | 22 => 66 | 23 => 67 | 24 => 68 | 25 => 69 | 26 => 70 | 27 => 71 | 46 => 133 | 47 => 134 | 48 => 135 | 49 => 136 | 50 => 137 | 57 => 169 | n => n, fun | 22 => 29 | 24 => 56 | 25 => 58 | 3 => 3 | 39 => 93 | 0 => 0 | 53 => 107 | 55 => 137 | 4 => 4 | 46 => 129 | 45 => 128 | 50 => 133 | 5 => 5 | 9 => 9 | 66 => 205 | 70 => 209 | 76 => 243 | 77 => 244 | n => n, fun | n => n⟩
theorem Tryz.sortLi : Go.Proofs.SlLaysF0.n6 Tryz.prog Tryz.sortLi_ren := {
 mixed := by kernel_rfl
 f6 := ⟨Tryz.f19.name, by decide, Tryz.func19.trans (congrArg some (by kernel_rfl))⟩
 f14 := ⟨Tryz.f41.name, by decide, Tryz.func41.trans (congrArg some (by kernel_rfl))⟩
 f15 := Tryz.func42.trans (congrArg some (by kernel_rfl))
 f20 := ⟨Tryz.f64.name, by decide, Tryz.func64.trans (congrArg some (by kernel_rfl))⟩
 f21 := ⟨Tryz.f65.name, by decide, Tryz.func65.trans (congrArg some (by kernel_rfl))⟩
 f22 := ⟨Tryz.f66.name, by decide, Tryz.func66.trans (congrArg some (by kernel_rfl))⟩
 f23 := ⟨Tryz.f67.name, by decide, Tryz.func67.trans (congrArg some (by kernel_rfl))⟩
 f24 := ⟨Tryz.f68.name, by decide, Tryz.func68.trans (congrArg some (by kernel_rfl))⟩
 f25 := ⟨Tryz.f69.name, by decide, Tryz.func69.trans (congrArg some (by kernel_rfl))⟩
 f26 := ⟨Tryz.f70.name, by decide, Tryz.func70.trans (congrArg some (by kernel_rfl))⟩
 f27 := ⟨Tryz.f71.name, by decide, Tryz.func71.trans (congrArg some (by kernel_rfl))⟩
 f28 := Tryz.func72.trans (congrArg some (by kernel_rfl))
 f29 := Tryz.func73.trans (congrArg some (by kernel_rfl))
 f46 := ⟨Tryz.f133.name, by decide, Tryz.func133.trans (congrArg some (by kernel_rfl))⟩
 f47 := Tryz.func134.trans (congrArg some (by kernel_rfl))
 f48 := Tryz.func135.trans (congrArg some (by kernel_rfl))
 f49 := ⟨Tryz.f136.name, by decide, Tryz.func136.trans (congrArg some (by kernel_rfl))⟩
 f50 := ⟨Tryz.f137.name, by decide, Tryz.func137.trans (congrArg some (by kernel_rfl))⟩
 f57 := ⟨Tryz.f169.name, by decide, Tryz.func169.trans (congrArg some (by kernel_rfl))⟩
 t0 := Tryz.underlying0
 a0 := Tryz.isAgg0
 z0 := Tryz.sizeOf0
 v0 := Tryz.zeroValue0
 t3 := Tryz.underlying3
 a3 := Tryz.isAgg3
 z3 := Tryz.sizeOf3
 v3 := Tryz.zeroValue3
 t4 := Tryz.underlying4
 a4 := Tryz.isAgg4
 z4 := Tryz.sizeOf4
 v4 := Tryz.zeroValue4
 t5 := Tryz.underlying5
 a5 := Tryz.isAgg5
 z5 := Tryz.sizeOf5
 v5 := Tryz.zeroValue5
 t9 := Tryz.underlying9
 a9 := Tryz.isAgg9
 z9 := Tryz.sizeOf9
 v9 := Tryz.zeroValue9
 t22 := Tryz.underlying29
 a22 := Tryz.isAgg29
 z22 := Tryz.sizeOf29
 v22 := Tryz.zeroValue29
 t25 := Tryz.underlying58
 a25 := Tryz.isAgg58
 z25 := Tryz.sizeOf58
 v25 := Tryz.zeroValue58
 t39 := Tryz.underlying93
 a39 := Tryz.isAgg93
 z39 := Tryz.sizeOf93
 v39 := Tryz.zeroValue93
 t45 := Tryz.underlying128
 a45 := Tryz.isAgg128
 z45 := Tryz.sizeOf128
 v45 := Tryz.zeroValue128
 t46 := Tryz.underlying129
 a46 := Tryz.isAgg129
 z46 := Tryz.sizeOf129
 v46 := Tryz.zeroValue129
 t50 := Tryz.underlying133
 a50 := Tryz.isAgg133
 z50 := Tryz.sizeOf133
 v50 := Tryz.zeroValue133
 t53 := Tryz.underlying107
 a53 := Tryz.isAgg107
 z53 := Tryz.sizeOf107
 v53 := Tryz.zeroValue107
 t55 := Tryz.underlying137
 a55 := Tryz.isAgg137
 z55 := Tryz.sizeOf137
 v55 := Tryz.zeroValue137
 t66 := Tryz.underlying205
 a66 := Tryz.isAgg205
 z66 := Tryz.sizeOf205
 v66 := Tryz.zeroValue205
 t70 := Tryz.underlying209
 a70 := Tryz.isAgg209
 z70 := Tryz.sizeOf209
 v70 := Tryz.zeroValue209
 t76 := Tryz.underlying243
 a76 := Tryz.isAgg243
 z76 := Tryz.sizeOf243
 v76 := Tryz.zeroValue243
 t77 := Tryz.underlying244
 a77 := Tryz.isAgg244
 z77 := Tryz.sizeOf244
 v77 := Tryz.zeroValue244 }
end Go.Proofs
namespace Go.Proofs.YtocofjmknnckhaaGreatDoor
open Go.En
def iset (l : List Id) : List Id := kset (fun x : Id => x.1) l
theorem id_inj (x y : Id) (h : x.1 = y.1) : x = y := Subtype.ext h
section
variable {w w0 : World} {S0 : Nat → Prop} {L B : List Res} {K : Value → World → Prop} {s : Bs} {E0 E1 : Nat}
theorem b_CloneI {v : Value} {n : Nat} {d : List Id} (hd : d.length = n) (hn : n < 2000000) (hr : Rd v E0 32 n (fl ic d) w) (h : ∀ v' w', St w (fun _ => False) w' [row v' 46 32 n (fl ic d)] → K v' w') : CK Tryz.prog 36 [v] w K := by
 have hS := St.nil w (fun _ => False)
 obtain ⟨a, c, rfl⟩ := hr.form
 refine call_k Tryz.func36 k36 Tryz.ntmps36 (Nat.le_of_ble_eq_true rfl) ?_
 refine gW ?_
 refine g_cd rfl (fun hc => ?_) (fun hc => ?_)
 ·have e : a = none := by cases a <;> simp_all [nilv]
  subst e
  have e0 : n = 0 ∧ fl ic d = [] := by
   rcases hr with ⟨⟨a, h1⟩, h2, h3⟩ | ⟨b, off, cap, l, h1, _⟩
   ·exact ⟨h2, h3⟩
   ·cases h1
  rw [e0.2, e0.1] at h
  refine gW ?_
  exact g_ret (q_1 rfl (h _ _ (hS.nilrow 46 32)))
 ·refine gW ?_
  refine g_ef rfl (ef_bl hS rfl fun b w1 hS => ?_)
  have hS := hS.conv (r' := row (.slice (some ⟨b, 0, none⟩) 0 0) 46 32 0 []) 0 rfl (fun b' h => h) (.inr ⟨b, 0, [], rfl, Nat.le_refl _, rfl, rfl, hS.b 0 rfl⟩)
  refine gW ?_
  refine g_ef rfl (ef_ap (n := 0) (m := n) hS 0 rfl rfl rfl (.inl ⟨_, hr.same fun b' hb' => hS.fr.kept b' ?_ (fun h => h)⟩) (fl_one ic_one d) (by omega) (by omega) fun v1 w1 hS => ?_)
  ·exact hr.lt b' hb'
  ·rw [Nat.zero_add, List.nil_append] at hS
   refine gW ?_
   exact g_ret (q_1 rfl (h _ _ hS))
theorem b_SortI {v : Value} {n : Nat} {d : List Id} (hd : d.length = n) (hn : n < 2000000) (hS : St w0 S0 w [row v 46 32 n (fl ic d)]) (h : ∀ w', St w0 S0 w' [row v 46 32 n (fl ic (srt (fun x : Id => x.1) d))] → K (.tuple ⟨[]⟩) w') : CK Tryz.prog 37 [v, .func (.func 38) ⟨[]⟩ ⟨[]⟩] w K := by
 rcases hS.ok 0 _ rfl with ⟨rfl, rfl, h3⟩ | ⟨b, cap, rest, rfl, _⟩
 ·have e : d = [] := List.eq_nil_of_length_eq_zero hd
  subst e
  refine (AnyF.slices_SortFunc_none Tryz.sortId none 0 (.func (.func 38) ⟨[]⟩ ⟨[]⟩) w).mono ?_
  rintro e w' ⟨rfl, rfl⟩
  refine ⟨_, rfl, h _ ?_⟩
  have : srt (fun x : Id => x.1) [] = [] := List.eq_nil_of_length_eq_zero (srt_len _ [])
  rw [this]
  exact hS
 ·refine ck_sortF (i := 0) Tryz.sortId Tryz.isAgg46 Tryz.sizeOf46 ic_len ic_one (fun x y : Id => Lib.compareBytes x.1 y.1) (swo_key fun x : Id => x.1) (enters_of Tryz.func38 (by kernel_rfl) rfl) (fun W x y K h => b_Compare x.2 y.2 h) hS rfl hd (by omega) fun d' w' hp hs hS => ?_
  have e : d' = srt (fun x : Id => x.1) d := srt_unique _ id_inj hp (hs.imp fun h => (lt_ble (fun x : Id => x.1) _ _).1 h)
  rw [e] at hS
  exact h _ hS
theorem b_Set {v : Value} {n : Nat} {d : List Id} (hd : d.length = n) (hn : n < 2000000) (hr : Rd v E0 32 n (fl ic d) w) (h : ∀ v' w', St w (fun _ => False) w' [row v' 46 32 (iset d).length (fl ic (iset d))] → K v' w') : CK Tryz.prog 17 [v] w K := by
 refine call_k Tryz.func17 k17 Tryz.ntmps17 (Nat.le_of_ble_eq_true rfl) ?_
 refine gW ?_
 refine g_cl rfl rfl (b_CloneI hd hn hr fun v1 w1 hS => ?_)
 refine gW ?_
 refine g_cl rfl rfl (b_SortI hd hn hS fun w1 hS => ?_)
 refine gW ?_
 refine g_cl rfl rfl (b_Compact (by rw [srt_len, hd]) hn hS fun v2 n2 w1 hn2 hS => ?_)
 refine gW ?_
 refine g_ret (q_1 rfl (h _ _ ?_))
 have e : iset d = ddn (srt (fun x : Id => x.1) d) n := by rw [← hd]; rfl
 rw [e, hn2]
 exact hS
end
def m20 : MC := .sq (.rg [.o 2 (.bx 56 (.tmp 0)), .o 3 (.bx 56 (.tmp 1)), .c 4 (.int .i64 0)]) (.sq (.rg [.o 5 (.fa (.tmp 2) 0), .o 6 (.ld (.tmp 5) none), .o 7 (.fa (.tmp 3) 0), .o 8 (.ld (.tmp 7) none), .o 9 (.cl 43 [.tmp 6, .tmp 8]), .t 4 9]) (.rt))
theorem k20 : Tryz.f20.body.any (fun c => chkC Tryz.prog c m20 && allD (dlt 10) m20) = true := by kernel_rfl
def m6 : MC := .sq (.rg [.c 4 (.slice none 0 0), .c 5 (.int .i64 0)]) (.sq (.sq (.rg [.t 12 0, .o 13 (.cl 16 [.tmp 12]), .t 6 13]) (.sq (.rg [.t 14 6, .o 15 (.cm .neq (.tmp 14) (.const (.int .i64 0)))]) (.cd (.tmp 15) (.sq (.rg [.t 16 6, .c 4 (.slice none 0 0), .t 5 16]) (.rt)) (.sk)))) (.sq (.rg [.t 17 1, .o 18 (.cl 17 [.tmp 17]), .t 7 18]) (.sq (.rg [.c 8 (.slice none 0 0)]) (.sq (.sq (.rg [.t 19 7, .o 20 (.ln false (.tmp 19)), .c 21 (.int .i64 0)]) (.bk 0 (.lp (.sq (.rg [.o 22 (.cm .lss (.tmp 21) (.tmp 20))]) (.sq (.cd (.tmp 22) (.sk) (.xt 0)) (.sq (.bk 1 (.sq (.rg [.o 23 (.ias (.tmp 19) (.tmp 21) 32), .o 24 (.ld (.tmp 23) (some 32)), .o 10 (.al [(32, .int .u8 0)] 46), .e (.st (.tmp 10) (.tmp 24) 32)]) (.sq (.rg [.t 25 0, .t 11 25]) (.sq (.sq (.rg [.t 26 7, .o 27 (.ln false (.tmp 26)), .o 28 (.cm .gtr (.tmp 27) (.const (.int .i64 1)))]) (.cd (.tmp 28) (.rg [.t 30 0, .o 31 (.ld (.tmp 10) (some 32)), .o 32 (.cl 18 [.tmp 30, .tmp 31]), .t 29 32, .o 33 (.ex (.tmp 29) 0), .o 34 (.ex (.tmp 29) 1), .t 11 33]) (.sk))) (.rg [.t 35 8, .t 36 11, .o 37 (.ld (.tmp 10) (some 32)), .o 38 (.bd [(1, .string ⟨#[]⟩), (32, .int .u8 0)] [(0, 1, .tmp 36), (1, 32, .tmp 37)]), .o 39 (.bl 56 33 [.tmp 38]), .o 40 (.ap 56 33 48 [(1, .string ⟨#[]⟩), (32, .int .u8 0)] (.tmp 35) (.tmp 39)), .t 8 40]))))) (.rg [.o 41 (.ar .add .i64 (.tmp 21) (.const (.int .i64 1)) true), .t 21 41]))))))) (.sq (.rg [.t 42 8, .o 43 (.cl 19 [.tmp 42, .func 20])]) (.sq (.rg [.t 44 8, .t 4 44, .c 5 (.int .i64 0)]) (.rt)))))))
theorem k6 : Tryz.f6.body.any (fun c => chkC Tryz.prog c m6 && allD (dlt 45) m6) = true := by kernel_rfl
def m9 : MC := .sq (.rg [.c 4 (.slice none 0 0)]) (.sq (.rg [.t 5 0, .t 6 1, .o 7 (.cl 25 [.tmp 5, .tmp 6]), .o 8 (.cl 17 [.tmp 7]), .t 4 8]) (.rt))
theorem k9 : Tryz.f9.body.any (fun c => chkC Tryz.prog c m9 && allD (dlt 9) m9) = true := by kernel_rfl
def m43 : MC := .sq (.rg [.c 4 (.int .i64 0)]) (.sq (.rg [.t 7 0, .o 8 (.cl 74 [.tmp 7]), .t 5 8]) (.sq (.rg [.t 9 1, .o 10 (.cl 74 [.tmp 9]), .t 6 10]) (.sq (.sq (.rg [.t 11 5]) (.cd (.tmp 11) (.sq (.sq (.rg [.t 12 6]) (.cd (.tmp 12) (.sq (.rg [.c 4 (.int .i64 0)]) (.rt)) (.sk))) (.sq (.rg [.c 4 (.int .i64 (-1))]) (.rt))) (.sk))) (.sq (.sq (.rg [.t 13 6]) (.cd (.tmp 13) (.sq (.rg [.c 4 (.int .i64 1)]) (.rt)) (.sk))) (.sq (.sq (.rg [.t 14 0, .t 15 1, .o 16 (.sc .lss (.tmp 14) (.tmp 15))]) (.cd (.tmp 16) (.sq (.rg [.c 4 (.int .i64 (-1))]) (.rt)) (.sk))) (.sq (.sq (.rg [.t 17 0, .t 18 1, .o 19 (.sc .gtr (.tmp 17) (.tmp 18))]) (.cd (.tmp 19) (.sq (.rg [.c 4 (.int .i64 1)]) (.rt)) (.sk))) (.sq (.rg [.c 4 (.int .i64 0)]) (.rt))))))))
theorem k43 : Tryz.f43.body.any (fun c => chkC Tryz.prog c m43 && allD (dlt 20) m43) = true := by kernel_rfl
def m74 : MC := .sq (.rg [.c 2 (.bool false)]) (.sq (.rg [.t 3 0, .t 4 0, .o 5 (.se .neq (.tmp 3) (.tmp 4)), .t 2 5]) (.rt))
theorem k74 : Tryz.f74.body.any (fun c => chkC Tryz.prog c m74 && allD (dlt 6) m74) = true := by kernel_rfl
abbrev Li := Bs × Id
def lc (x : Li) : List Value := sv x.1 :: bys x.2.1
theorem lc_len (x : Li) : (lc x).length = 33 := by rw [lc, List.length_cons, bys_length, x.2.2]
theorem lc_one (x : Li) : ∀ v ∈ lc x, v.oneCell' = true := fun v hv => by
 rcases List.mem_cons.1 hv with rfl | hv
 ·rfl
 ·exact ic_one x.2 v hv
section
variable {w w0 : World} {S0 : Nat → Prop} {L B : List Res} {K : Value → World → Prop} {s : Bs}
theorem fill_li {T : TT} {a b : Operand} (x : Li) (ha : ev T a = some (sv x.1)) (hb : ev T b = some (.agg ⟨bys x.2.1⟩)) : fillP T [(0, 1, a), (1, 32, b)] (zx [(1, .string ⟨#[]⟩), (32, .int .u8 0)]) = some (lc x) := by
 have l1 : (bys x.2.1).length = 32 := by rw [bys_length, x.2.2]
 have e1 : Nat.beq (bys x.2.1).length 32 = true := by rw [l1]; rfl
 have e2 : Nat.ble (1 + (bys x.2.1).length) 33 = true := by rw [l1]; rfl
 unfold fillP
 rw [ha]
 show (match Nat.beq 1 1, Nat.ble (0 + 1) 33 with | true, true => fillP T [(1, 32, b)] _ | _, _ => none) = _
 show fillP T [(1, 32, b)] (sv x.1 :: List.replicate 32 (.int .u8 0)) = _
 unfold fillP
 rw [hb]
 show (match Nat.beq (bys x.2.1).length 32, Nat.ble (1 + (bys x.2.1).length) 33 with | true, true => fillP T [] _ | _, _ => none) = _
 rw [e1, e2]
 show some (spl (sv x.1 :: List.replicate 32 (.int .u8 0)) 1 (bys x.2.1)) = _
 simp [spl, lc, x.2.2]
theorem evcs_1 {T : TT} {a : Operand} {sz : Nat} {cs : List Value} (ha : ev T a = some (.agg ⟨cs⟩)) (hl : cs.length = sz) : evcs T sz [a] = some cs := by
 subst hl
 have e : Nat.beq cs.length cs.length = true := Nat.beq_refl _
 unfold evcs evcs
 rw [ha]
 show (match Nat.beq cs.length cs.length with | true => some (cs ++ []) | false => none) = _
 rw [e, List.append_nil]
theorem b_isNaN (h : K (.bool false) w) : CK Tryz.prog 74 [sv s] w K := by
 refine call_k Tryz.func74 k74 Tryz.ntmps74 (Nat.le_of_ble_eq_true rfl) ?_
 refine gW ?_
 refine g_ret (q_1 rfl ?_)
 rw [decide_eq_true rfl]
 exact h
theorem b_cmpS {a b : Bs} (h : K (.int .i64 (Lib.compareBytes a b)) w) : CK Tryz.prog 43 [sv a, sv b] w K := by
 refine call_k Tryz.func43 k43 Tryz.ntmps43 (Nat.le_of_ble_eq_true rfl) ?_
 refine gW ?_
 refine g_cl rfl rfl (b_isNaN ?_)
 refine gW ?_
 refine g_cl rfl rfl (b_isNaN ?_)
 refine gW ?_
 have h3 := cb_three a b
 have hbl := bless_eq a b
 have hz : decide (a = b) = decide (Lib.compareBytes a b = 0) := decide_eq_decide.2 ⟨fun e => by rw [e, cb_self], cb_zero⟩
 refine g_cd rfl (fun hc => ?_) (fun hc => ?_)
 ·refine gW ?_
  have hc : Op.bytesLess a b = true := hc
  rw [hbl, decide_eq_true_eq] at hc
  have : Lib.compareBytes a b = -1 := by omega
  rw [this] at h
  exact g_ret (q_1 rfl h)
 ·refine gW ?_
  have hc : Op.bytesLess a b = false := hc
  rw [hbl, decide_eq_false_iff_not] at hc
  refine g_cd rfl (fun hd => ?_) (fun hd => ?_)
  ·refine gW ?_
   have hd : (!(Op.bytesLess a b || decide (a = b))) = true := hd
   rw [hbl, hz] at hd
   simp only [Bool.not_eq_true', Bool.or_eq_false_iff, decide_eq_false_iff_not] at hd
   have : Lib.compareBytes a b = 1 := by omega
   rw [this] at h
   exact g_ret (q_1 rfl h)
  ·refine gW ?_
   have hd : (!(Op.bytesLess a b || decide (a = b))) = false := hd
   rw [hbl, hz] at hd
   simp only [Bool.not_eq_false', Bool.or_eq_true, decide_eq_true_eq] at hd
   have : Lib.compareBytes a b = 0 := by omega
   rw [this] at h
   exact g_ret (q_1 rfl h)
theorem b_byName {x y : Li} (h : ∀ w', St w (fun _ => False) w' [] → K (.int .i64 (Lib.compareBytes x.1 y.1)) w') : CK Tryz.prog 20 [.agg ⟨lc x⟩, .agg ⟨lc y⟩] w K := by
 have hS := St.nil w (fun _ => False)
 refine call_k Tryz.func20 k20 Tryz.ntmps20 (Nat.le_of_ble_eq_true rfl) ?_
 refine gW ?_
 refine g_ef rfl (ef_bx hS rfl fun b1 w1 hS => ?_)
 refine gW ?_
 refine g_ef rfl (ef_bx hS rfl fun b2 w1 hS => ?_)
 have hS : St w (fun _ => False) w1 [cel b1 (lc x) 56, cel b2 (lc y) 56] := hS
 refine gW ?_
 refine g_l1 rfl rfl (hS.b  0 rfl) rfl ?_
 refine gW ?_
 refine g_l1 rfl rfl (hS.b  1 rfl) rfl ?_
 refine g_cl rfl rfl (b_cmpS ?_)
 refine gW ?_
 exact g_ret (q_1 rfl (h _ (hS.sel [] rfl rfl)))
theorem b_SortL {v : Value} {n : Nat} {d : List Li} (hd : d.length = n) (hn : n < 2000000) (hS : St w0 S0 w [row v 56 33 n (fl lc d)])
  (h : ∀ d' w', d'.Perm d → d'.Pairwise (fun x y => ble x.1 y.1 = true) → St w0 S0 w' [row v 56 33 n (fl lc d')] → K (.tuple ⟨[]⟩) w') : CK Tryz.prog 19 [v, .func (.func 20) ⟨[]⟩ ⟨[]⟩] w K := by
 rcases hS.ok 0 _ rfl with ⟨rfl, rfl, h3⟩ | ⟨b, cap, rest, rfl, _⟩
 ·have e : d = [] := List.eq_nil_of_length_eq_zero hd
  subst e
  refine (AnyF.slices_SortFunc_none Tryz.sortLi none 0 (.func (.func 20) ⟨[]⟩ ⟨[]⟩) w).mono ?_
  rintro e w' ⟨rfl, rfl⟩
  exact ⟨_, rfl, h _ _ List.Perm.nil List.Pairwise.nil hS⟩
 ·refine ck_sortF (i := 0) Tryz.sortLi Tryz.isAgg56 Tryz.sizeOf56 lc_len lc_one (fun x y : Li => Lib.compareBytes x.1 y.1) (swo_key fun x : Li => x.1) (enters_of Tryz.func20 (by kernel_rfl) rfl) (fun W x y K h => b_byName h) hS rfl hd (by omega) fun d' w' hp hs hS => ?_
  exact h _ _ hp (hs.imp fun h => (lt_ble (fun x : Li => x.1) _ _).1 h) hS
end
theorem shr64 {N i : Nat} (hi : i < 8) : IntKind.u8.wrap (shv .shr .u64 (N : Int) ((56 - 8 * i : Nat) : Int)) = ((UInt8.ofNat (N / 2 ^ (56 - 8 * i))).toNat : Int) := by
 have hs : shv .shr .u64 (N : Int) ((56 - 8 * i : Nat) : Int) = ((N / 2 ^ (56 - 8 * i) : Nat) : Int) := by
  show (N : Int).fdiv (2 ^ (min ((56 - 8 * i : Nat) : Int).toNat IntKind.u64.bits)) = _
  have e : min ((56 - 8 * i : Nat) : Int).toNat IntKind.u64.bits = 56 - 8 * i := by
   have : IntKind.u64.bits = 64 := rfl
   rw [this]; omega
  rw [e, Int.fdiv_eq_ediv_of_nonneg _ (Int.le_of_lt (Int.pow_pos (by decide)))]
  push_cast
  rfl
 rw [hs, IntKind.wrap_u8, UInt8.toNat_ofNat']
 generalize N / 2 ^ (56 - 8 * i) = x
 show (x : Int) % 256 = ((x % 256 : Nat) : Int)
 omega
theorem long64 {n : Nat} (h : n < 1000000000) : IntKind.u64.wrap (arv .mul (IntKind.u64.wrap (n : Int)) 8) = ((8 * n : Nat) : Int) := by
 have e1 : IntKind.u64.wrap (n : Int) = (n : Int) := wrap_in (k := .u64) ⟨by show (0 : Int) ≤ _; omega, by show _ ≤ (18446744073709551615 : Int); omega⟩
 rw [e1]
 show IntKind.u64.wrap ((n : Int) * 8) = _
 rw [show (n : Int) * 8 = ((8 * n : Nat) : Int) by omega]
 exact wrap_in (k := .u64) ⟨by show (0 : Int) ≤ _; omega, by show _ ≤ (18446744073709551615 : Int); omega⟩
theorem spl_mid (p z f : Bs) (h : f.length ≤ z.length) : spl (bys (p ++ z)) p.length (bys f) = bys (p ++ f ++ z.drop f.length) := by
 have := spl_app (bys p) (bys z) [] (bys f) (by rw [bys_length, bys_length]; exact h)
 rw [List.append_nil, bys_length, bys_length] at this
 rw [bys_append, this, List.append_nil, bys_append, bys_append, bys_drop, List.append_assoc]
def fmt (l : List U) (i : Nat) : Bs := (l.take i).flatMap four ++ List.replicate (32 - 4 * i) 0
theorem fmt_len {l : List U} (h : l.length = 8) {i : Nat} (hi : i ≤ 8) : (fmt l i).length = 32 := by
 unfold fmt
 rw [List.length_append, fm4_len, List.length_take, List.length_replicate]
 omega
theorem fmt_step {l : List U} (h : l.length = 8) {i : Nat} (hi : i < 8) : spl (bys (fmt l i)) (4 * i) (bys (four (l.getD i 0))) = bys (fmt l (i + 1)) := by
 have e : ((l.take i).flatMap four).length = 4 * i := by rw [fm4_len, List.length_take]; omega
 have := spl_mid ((l.take i).flatMap four) (List.replicate (32 - 4 * i) 0) (four (l.getD i 0)) (by rw [four_len, List.length_replicate]; omega)
 rw [e] at this
 unfold fmt
 rw [this, List.take_succ_eq_append_getElem (by omega), List.flatMap_append, four_len, List.drop_replicate, List.getD_eq_getElem?_getD, List.getElem?_eq_getElem (by omega)]
 simp only [List.flatMap_cons, List.flatMap_nil, List.append_nil, Option.getD_some]
 rw [show 32 - 4 * i - 4 = 32 - 4 * (i + 1) by omega]
theorem zeros_bys (n : Nat) : rep n [(1, .int .u8 0)] = bys (List.replicate n 0) := by rw [rep_byte, bys_rep]
section
variable {w w0 : World} {S0 : Nat → Prop} {L B : List Res} {K : Value → World → Prop} {s : Bs} {E0 E1 : Nat}
theorem row_pl {v : Value} {E sz n : Nat} {xs : List Value} (h : Ow v E sz n xs w) : Pl v := by
 rcases h with ⟨e, _⟩ | ⟨b, cap, rest, e, _⟩
 ·rw [e]; intro y o s n c e; cases e
 ·rw [e]; intro y o s n c e; cases e
theorem b_CloneB {v : Value} {n : Nat} {l : Bs} (hl : l.length = n) (hn : n < 100000000000) (hr : Rd v E0 1 n (bys l) w) (h : ∀ v' w', St w (fun _ => False) w' [row v' 5 1 n (bys l)] → K v' w') : CK Tryz.prog 103 [v] w K := by
 have hS := St.nil w (fun _ => False)
 obtain ⟨a, c, rfl⟩ := hr.form
 refine call_k Tryz.func103 k103 Tryz.ntmps103 (Nat.le_of_ble_eq_true rfl) ?_
 cases a with
 | none =>
  have h0 : n = 0 := by
   rcases hr with ⟨_, h0, _⟩ | ⟨b, off, cap, l, e, _⟩
   ·exact h0
   ·cases e
  subst h0
  have e : l = [] := List.eq_nil_of_length_eq_zero hl
  subst e
  refine gW ?_
  exact g_ret (q_1 rfl (h _ _ (hS.nilrow 5 1)))
 | some ad =>
  refine gW ?_
  refine g_ef rfl (ef_bl (rs := []) hS rfl fun bO w1 hS => ?_)
  replace hS : St w (fun _ => False) w1 [cel bO [] 5] := hS
  replace hS : St w (fun _ => False) w1 [row (.slice (some ⟨bO, 0, none⟩) 0 0) 5 1 0 []] := hS.close_row (n := 0) (cap := 0) (sz := 1) (xs := []) 0 rfl (Nat.le_refl _) rfl (List.prefix_refl _) rfl
  refine gW ?_
  refine g_ef rfl (ef_ap (n := 0) (m := n) (ys := bys l) hS 0 rfl rfl rfl (.inl ⟨_, hr.same fun b hb => hS.fr.kept b (hr.lt b hb) (fun h => h)⟩) (bys_one _) (by omega) (by omega) fun v1 w1 hS => ?_)
  rw [Nat.zero_add, List.nil_append] at hS
  refine gW ?_
  exact g_ret (q_1 rfl (h _ _ hS))
set_option maxHeartbeats 2000000 in
theorem b_Sum {all : Bs} {bg : Bool} {st : List U} {v : Value} {r : Nat} (hgl : ∀ {L : List Res} {w' : World}, St w0 S0 w' L → Tb w') (hpl : Pl v) (hst : st.length = 8) (hbg : bg = true → st = stO all) (hb0 : bg = false → all = [])
  (hlen : all.length < 900000000) (hS : St w0 S0 w (RunR r bg st v all)) (h : ∀ w', St w0 S0 w' (RunR r bg st v all) → K (.agg ⟨bys (sha all)⟩) w') : CK Tryz.prog 55 [dp r] w K := by
 have ll : (lfO all).length ≤ all.length := by unfold lfO; rw [List.length_drop]; omega
 refine call_k Tryz.func55 k55 Tryz.ntmps55 (Nat.le_of_ble_eq_true rfl) ?_
 refine gW ?_
 refine g_ef rfl (ef_al hS fun b2 w1 hS => ?_)
 refine gW ?_
 refine g_ef rfl (ef_al hS fun b3 w1 hS => ?_)
 replace hS : St w0 S0 w1 (RunR r bg st v all ++ [cel b2 (bys (List.replicate 32 0)) 46, cel b3 (runC false (List.replicate 8 0) (.slice none 0 0) 0) 110]) := hS
 refine gW ?_
 refine g_lm rfl rfl (hS.b 0 rfl) (Nat.le_of_eq (by rw [run_len hst])) ?_
 rw [List.drop_zero, List.take_of_length_le (Nat.le_of_eq (run_len hst))]
 refine g_ef0 rfl (ef_st hS 3 rfl rfl rfl (run_len hst) (by rw [run_len rfl]; decide) (List.all_eq_true.2 fun x hx => ?_) fun w1 hS => ?_)
 ·have hx : x ∈ runC bg st v all.length := hx
  unfold runC at hx
  simp only [List.mem_cons, List.mem_append, List.not_mem_nil, or_false] at hx
  rcases hx with rfl | hx | rfl | rfl
  ·rfl
  ·exact List.all_eq_true.1 (ws_one st) x hx
  ·obtain ⟨a, c, rfl⟩ := (hS.ok 1 _ rfl : Rd _ _ _ _ _ _).form
   rfl
  ·rfl
 replace hS := hS.ceq (l' := runC bg st v all.length) 3 rfl (spl_full _ _ (by show (runC bg st v all.length).length = _; rw [run_len hst, run_len rfl]))
 refine gW ?_
 refine g_l1 rfl rfl (hS.b 0 rfl) (run_9 hst) ?_
 refine g_cl rfl rfl (b_CloneB rfl (by omega) (hS.ok 1 _ rfl) fun v9 w1 h' => ?_)
 replace hS := hS.call0.2 _ _ h'
 clear h'
 replace hS : St w0 S0 w1 (RunR r bg st v all ++ [cel b2 (bys (List.replicate 32 0)) 46, cel b3 (runC bg st v all.length) 110, row v9 5 1 (lfO all).length (bys (lfO all))]) := hS
 have hp9 : Pl v9 := row_pl (hS.ok 4 _ rfl)
 obtain ⟨a9, c9, rfl⟩ := hS.rlen 4 rfl
 refine gW ?_
 refine g_ef0 rfl (ef_st hS 3 rfl rfl rfl rfl (by rw [run_len hst]; decide) rfl fun w1 hS => ?_)
 replace hS := hS.ceq (l' := runC bg st (.slice a9 (lfO all).length c9) all.length) 3 rfl (run_s9 hst)
 replace hS := hS.conv (r' := rdR (.slice a9 (lfO all).length c9) 5 1 (lfO all).length (bys (lfO all))) 4 rfl (fun b hb => vb_vo hb) (Ow.rd (hS.ok 4 _ rfl))
 replace hS : St w0 S0 w1 (RunR r bg st v all ++ [cel b2 (bys (List.replicate 32 0)) 46, cel b3 (runC bg st (.slice a9 (lfO all).length c9) all.length) 110, rdR (.slice a9 (lfO all).length c9) 5 1 (lfO all).length (bys (lfO all))]) := hS
 generalize Value.slice a9 (lfO all).length c9 = v9 at hS hp9
 refine gW ?_
 refine g_l1 rfl rfl (hS.b 3 rfl) (run_10 hst) ?_
 refine gW ?_
 rw [long64 (by omega)]
 refine g_l1 rfl rfl (hS.b 3 rfl) (run_10 hst) ?_
 refine g_rq rfl rfl (by decide) ?_
 rw [show (all.length : Int).tmod 64 = ((all.length % 64 : Nat) : Int) by rw [Int.tmod_eq_emod_of_nonneg (by omega)]; omega]
 refine g_rq rfl rfl (in64 (by simp only [arv]; omega)) ?_
 rw [show arv .sub 119 ((all.length % 64 : Nat) : Int) = ((119 - all.length % 64 : Nat) : Int) by simp only [arv]; omega]
 refine g_rq rfl rfl (by decide) ?_
 rw [show ((119 - all.length % 64 : Nat) : Int).tmod 64 = (((119 - all.length % 64) % 64 : Nat) : Int) by rw [Int.tmod_eq_emod_of_nonneg (by omega)]; omega]
 refine g_rq rfl rfl (in64 (by simp only [arv]; omega)) ?_
 rw [show arv .add 1 (((119 - all.length % 64) % 64 : Nat) : Int) = ((1 + (119 - all.length % 64) % 64 : Nat) : Int) by simp only [arv]; omega]
 generalize hz : (119 - all.length % 64) % 64 = z
 refine g_ef rfl (ef_ms hS rfl rfl (by omega) (Int.le_refl _) (by omega) (by omega) fun b5 w1 hS => ?_)
 rw [Int.toNat_natCast] at hS ⊢
 rw [zeros_bys] at hS
 refine gW ?_
 refine g_rq rfl rfl ⟨by decide, by omega⟩ ?_
 refine g_ef0 rfl (ef_st hS 5 rfl rfl rfl rfl (by rw [bys_length, List.length_replicate]; show 0 + 0 * 1 + 1 ≤ _; omega) rfl fun w1 hS => ?_)
 have e128 : spl (bys (List.replicate (1 + z) 0)) (0 + (0 : Int).toNat * 1) (Value.int .u8 128).cells.toList = bys (128 :: List.replicate z 0) := by
  rw [Nat.add_comm 1 z, List.replicate_succ]
  rfl
 replace hS := hS.ceq (l' := bys (128 :: List.replicate z 0)) 5 rfl e128
 replace hS := hS.close_row (n := 1 + z) (cap := 1 + z) (sz := 1) (xs := bys (128 :: List.replicate z 0)) 5 rfl (Nat.le_refl _) (by rw [bys_length, List.length_cons, List.length_replicate]; omega) (List.prefix_refl _) (by rw [bys_length, List.length_cons, List.length_replicate]; omega)
 replace hS : St w0 S0 w1 (RunR r bg st v all ++ [cel b2 (bys (List.replicate 32 0)) 46, cel b3 (runC bg st v9 all.length) 110, rdR v9 5 1 (lfO all).length (bys (lfO all)), row (.slice (some ⟨b5, 0, none⟩) (1 + z) (1 + z)) 5 1 (1 + z) (bys (128 :: List.replicate z 0))]) := hS
 have tl : ∀ i, i ≤ 8 → (128 :: List.replicate z 0 ++ (len8 all.length).take i).length = 1 + z + i := fun i hi => by
  rw [List.length_append, List.length_cons, List.length_replicate, List.length_take, len8_len]
  omega
 refine gW ?_
 refine g_atx (ι := Value) 2 (fun v5 => [(2, dp b2), (3, dp b3), (5, v5)]) (fun v5 w' => St w0 S0 w' (RunR r bg st v all ++ [cel b2 (bys (List.replicate 32 0)) 46, cel b3 (runC bg st v9 all.length) 110, rdR v9 5 1 (lfO all).length (bys (lfO all)), row v5 5 1 (tail all.length).length (bys (tail all.length))])) rfl ?_ ?_
 ·refine g_lp (ι := Nat × Value) (fun x => [(2, dp b2), (3, dp b3), (4, .int .u64 ((8 * all.length : Nat) : Int)), (5, x.2), (6, .int .i64 (56 - 8 * (x.1 : Int)))])
   (fun x w' => x.1 ≤ 8 ∧ St w0 S0 w' (RunR r bg st v all ++ [cel b2 (bys (List.replicate 32 0)) 46, cel b3 (runC bg st v9 all.length) 110, rdR v9 5 1 (lfO all).length (bys (lfO all)), row x.2 5 1 (1 + z + x.1) (bys (128 :: List.replicate z 0 ++ (len8 all.length).take x.1))])) (fun x => 8 - x.1) (0, _)
   ⟨rfl, rfl, rfl, rfl, rfl, trivial⟩ ⟨Nat.zero_le _, by simpa using hS⟩ ?_
  clear hS
  rintro ⟨i, v5⟩ w1 ⟨hi, hS⟩
  dsimp only at hi hS ⊢
  refine gW ?_
  (refine g_cd rfl (fun hc => ?_) (fun hc => ?_) <;> simp only [cmv, arv, Bool.not_eq_true', Bool.not_eq_false', decide_eq_true_eq, decide_eq_false_iff_not] at hc)
  ·have hi8 : i < 8 := by omega
   rw [show (56 : Int) - 8 * (i : Int) = ((56 - 8 * i : Nat) : Int) by omega]
   refine gW ?_
   refine g_rq rfl rfl (by omega) ?_
   refine gW ?_
   rw [shr64 hi8]
   refine g_ef rfl (ef_bl (rs := [.int .u8 ((UInt8.ofNat (8 * all.length / 2 ^ (56 - 8 * i))).toNat : Int)]) hS rfl fun b7 w1 hS => ?_)
   refine g_ef rfl (ef_ap (n := 1 + z + i) (m := 1) (ys := [.int .u8 ((UInt8.ofNat (8 * all.length / 2 ^ (56 - 8 * i))).toNat : Int)]) hS 5 rfl rfl rfl (.inl ⟨5, .inr ⟨b7, 0, 1, _, rfl, Nat.le_refl _, Nat.le_refl _, rfl, (hS.b 6 rfl).r⟩⟩) rfl (by omega) (by omega) fun v6 w1 hS => ?_)
   have est : bys (128 :: List.replicate z 0 ++ (len8 all.length).take i) ++ [.int .u8 ((UInt8.ofNat (8 * all.length / 2 ^ (56 - 8 * i))).toNat : Int)] = bys (128 :: List.replicate z 0 ++ (len8 all.length).take (i + 1)) := by
    rw [List.take_succ_eq_append_getElem (by rw [len8_len]; exact hi8), ← List.append_assoc, bys_append (_ ++ _)]
    congr 1
    simp [len8, bys]
   rw [est] at hS
   refine gW ?_
   refine g_rq rfl rfl (in64 (by simp only [arv]; omega)) ?_
   rw [show arv .sub ((56 - 8 * i : Nat) : Int) 8 = 56 - 8 * (((i + 1 : Nat)) : Int) by simp only [arv]; omega]
   refine gW ?_
   exact g_l (i + 1, v6) ⟨rfl, rfl, rfl, rfl, rfl, trivial⟩ ⟨by simp only; omega, hS.sel [0, 1, 2, 3, 4, 5] rfl rfl⟩ (by simp only; omega)
  ·have e : i = 8 := by omega
   subst e
   rw [List.take_of_length_le (by rw [len8_len]; omega)] at hS
   have et : 128 :: List.replicate z 0 ++ len8 all.length = tail all.length := by unfold tail; rw [hz]
   have etl : 1 + z + 8 = (tail all.length).length := by rw [tail_len, hz]; omega
   rw [et, etl] at hS
   refine gW ?_
   exact g_jx v5 ⟨rfl, rfl, rfl, trivial⟩ hS
 clear hS
 rintro v5 T w1 hT hS
 refine g_wkc hT ?_
 have htl : (tail all.length).length < 100 := by rw [tail_len]; omega
 have htl0 : 0 < (tail all.length).length := by rw [tail_len]; omega
 replace hS : St w0 S0 w1 (RunR b3 bg st v9 all ++ [cel r (runC bg st v all.length) 110, rdR v 5 1 (lfO all).length (bys (lfO all)), cel b2 (bys (List.replicate 32 0)) 46, row v5 5 1 (tail all.length).length (bys (tail all.length))]) := hS.sel [3, 4, 0, 1, 2, 5] rfl rfl
 have hF := hS.frame
 have hR5 : Rd v5 5 1 (tail all.length).length (bys (tail all.length)) w1 := Ow.rd (hS.ok 5 _ rfl)
 refine gW ?_
 refine g_cl rfl rfl (b_Add (E0 := 5) (w0 := w1) (S0 := En.foot (RunR b3 bg st v9 all)) (bs := tail all.length) (fun {L w'} h' => hgl (hF.2 _ _ h')) hp9 hst hbg hb0 rfl htl0 (by omega) (fun {L} w' h' => ?_) hF.1 fun v' w2 _ h' => ?_)
 ·exact Ow.rd ((hF.2 _ _ h').ok (L.length + 3) _ (by rw [List.getElem?_append_right (by omega), Nat.add_sub_cancel_left]; rfl))
 replace hS := hF.2 _ _ h'
 clear h' hR5
 have esh : sha all = (stO (all ++ tail all.length)).flatMap four := rfl
 have hs8 := stO_len (all ++ tail all.length)
 generalize hA : all ++ tail all.length = A at hS esh hs8
 refine gW ?_
 refine g_ef rfl (ef_al hS fun b7 w1 hS => ?_)
 replace hS : St w0 S0 w1 (RunR b3 true (stO A) v' A ++ [cel r (runC bg st v all.length) 110, rdR v 5 1 (lfO all).length (bys (lfO all)), cel b2 (bys (List.replicate 32 0)) 46, row v5 5 1 (tail all.length).length (bys (tail all.length)), cel b7 (bys (fmt (stO A) 0)) 46]) := hS
 refine gW ?_
 refine g_lm rfl rfl (hS.b 0 rfl) (by rw [run_len hs8]; decide) ?_
 rw [run_1 hs8]
 refine gW ?_
 refine g_atx (ι := Unit) 2 (fun _ => [(2, dp b2), (7, dp b7)]) (fun _ w' => St w0 S0 w' (RunR r bg st v all ++ [cel b2 (bys (List.replicate 32 0)) 46, cel b7 (bys (sha all)) 46])) rfl ?_ ?_
 ·refine g_lp (ι := Nat) (fun i => [(2, dp b2), (7, dp b7), (48, .agg ⟨ws (stO A)⟩), (49, .int .i64 i)]) (fun i w' => i ≤ 8 ∧ St w0 S0 w' (RunR r bg st v all ++ [cel b2 (bys (List.replicate 32 0)) 46, cel b7 (bys (fmt (stO A) i)) 46])) (fun i => 8 - i) 0 ⟨rfl, rfl, rfl, rfl, trivial⟩ ⟨Nat.zero_le _, hS.sel [2, 3, 4, 6] rfl rfl⟩ ?_
  clear hS
  rintro i w1 ⟨hi, hS⟩
  refine gW ?_
  (refine g_cd rfl (fun hc => ?_) (fun hc => ?_) <;> simp only [cmv, arv, Bool.not_eq_true', Bool.not_eq_false', decide_eq_true_eq, decide_eq_false_iff_not] at hc)
  ·have hi8 : i < 8 := by omega
   refine gW ?_
   refine g_qt rfl (qt_ixa1 (v := w4 ((stO A).getD i 0)) rfl rfl ⟨by omega, by omega⟩ (by rw [Int.toNat_natCast, Nat.mul_one]; exact ws_get (by omega))) ?_
   generalize hX : (stO A).getD i 0 = X
   refine gW ?_
   refine g_rq rfl rfl (in64 (by simp only [arv]; omega)) ?_
   rw [show arv .mul 4 (i : Int) = ((4 * i : Nat) : Int) by simp only [arv]; omega]
   refine g_rq rfl rfl ⟨by omega, by omega, by omega⟩ ?_
   refine gW ?_
   refine g_rq rfl rfl (by decide) ?_
   rw [uR24]
   refine gW ?_
   refine g_rq rfl rfl (by decide) ?_
   rw [uR16]
   refine gW ?_
   refine g_rq rfl rfl (by decide) ?_
   rw [uR8]
   refine gW ?_
   rw [uC, uC, uC, uC]
   refine g_ef rfl (ef_bl (rs := bys (four X)) hS rfl fun b9 w1 hS => ?_)
   rw [Int.toNat_natCast]
   refine g_ef rfl (ef_cp (m := 4) (ys := bys (four X)) hS 3 rfl rfl rfl (.inl ⟨5, .inr ⟨b9, 0, 4, _, rfl, Nat.le_refl _, Nat.le_refl _, rfl, (hS.b 4 rfl).r⟩⟩) (by rw [bys_length, fmt_len hs8 hi]; simp only [slo]; split <;> omega) (bys_one _) fun w1 hS => ?_)
   replace hS := hS.ceq (l' := bys (fmt (stO A) (i + 1))) 3 rfl (by
    have e3 : min 4 (((32 : Nat) : Int).toNat - 4 * i) * 1 = 4 := by rw [Int.toNat_natCast]; omega
    rw [← fmt_step hs8 hi8, hX, e3]
    have e2 : slo (some (Operand.tmp 54)) 0 32 (4 * i) 1 = 4 * i := by simp only [slo]; rw [if_neg (by omega)]; omega
    rw [e2]
    rfl)
   refine gW ?_
   refine g_rq rfl rfl (in64 (by simp only [arv]; omega)) ?_
   refine gW ?_
   exact g_l (i + 1) ⟨rfl, rfl, rfl, rfl, trivial⟩ ⟨by omega, hS.sel [0, 1, 2, 3] rfl rfl⟩ (by omega)
  ·have e : i = 8 := by omega
   subst e
   have ef : fmt (stO A) 8 = sha all := by
    unfold fmt
    rw [List.take_of_length_le (by omega), esh]
    simp
   rw [ef] at hS
   refine gW ?_
   exact g_jx () ⟨rfl, rfl, trivial⟩ hS
 clear hS
 rintro _ T w1 hT hS
 refine g_wkc hT ?_
 have l32 : (bys (sha all)).length = 32 := by rw [bys_length, sha_len]
 refine gW ?_
 refine g_lm rfl rfl (hS.b 3 rfl) (Nat.le_of_eq (by rw [l32])) ?_
 rw [List.drop_zero, List.take_of_length_le (Nat.le_of_eq l32)]
 refine g_ef0 rfl (ef_st hS 2 rfl rfl rfl l32 (by rw [bys_length, List.length_replicate]; decide) (bys_one _) fun w1 hS => ?_)
 replace hS := hS.ceq (l' := bys (sha all)) 2 rfl (spl_full _ _ (by show (bys (sha all)).length = _; rw [l32, bys_length, List.length_replicate]))
 refine gW ?_
 refine g_ret (q_c1 (n := 32) rfl (by kernel_rfl) (hS.b 2 rfl) (Nat.le_of_eq (by rw [l32])) ?_)
 rw [List.drop_zero, List.take_of_length_le (Nat.le_of_eq l32)]
 exact h _ (hS.sel [0, 1] rfl rfl)
theorem b_Of {bs : Bs} {g : Nat} {u : Value} {m E2 : Nat} (ht : Tb w) (hm : bs.length = m) (hm0 : 0 < m) (hlen : m < 900000000) (hg : Blr w g [u] E2) (hu : Rd u E0 1 m (bys bs) w)
  (h : ∀ w', St w (fun _ => False) w' [] → K (.agg ⟨bys (sha bs)⟩) w') : CK Tryz.prog 29 [.slice (some ⟨g, 0, none⟩) 1 1] w K := by
 have hS := St.nil w (fun _ => False)
 have l32 : (bys (sha bs)).length = 32 := by rw [bys_length, sha_len]
 obtain ⟨au, cu, rfl⟩ := hu.form
 refine call_k Tryz.func29 k29 Tryz.ntmps29 (Nat.le_of_ble_eq_true rfl) ?_
 refine gW ?_
 refine g_ef rfl (ef_al hS fun b2 w1 hS => ?_)
 refine gW ?_
 refine g_ef rfl (ef_al hS fun b3 w1 hS => ?_)
 replace hS := hS.nilrow 5 1
 replace hS := hS.conv (r' := rdR (.slice none 0 0) 5 1 (lfO []).length (bys (lfO []))) 2 rfl (fun b hb => (show False from hb).elim) (Ow.rd (hS.ok 2 _ rfl))
 replace hS : St w (fun _ => False) w1 (RunR b3 false (List.replicate 8 0) (.slice none 0 0) [] ++ [cel b2 (bys (List.replicate 32 0)) 46]) := hS.sel [1, 2, 0] rfl rfl
 refine gW ?_
 refine g_atx (ι := Value) 2 (fun _ => [(2, dp b2), (3, dp b3)]) (fun v w' => Pl v ∧ St w (fun _ => False) w' (RunR b3 true (stO bs) v bs ++ [cel b2 (bys (List.replicate 32 0)) 46])) rfl ?_ ?_
 ·refine g_lp (ι := Bool × Value) (fun x => [(2, dp b2), (3, dp b3), (6, .slice (some ⟨g, 0, none⟩) 1 1), (7, .int .i64 1), (8, .int .i64 (cond x.1 1 0))]) (fun x w' => Pl x.2 ∧ St w (fun _ => False) w' (RunR b3 x.1 (cond x.1 (stO bs) (List.replicate 8 0)) x.2 (cond x.1 bs []) ++ [cel b2 (bys (List.replicate 32 0)) 46])) (fun x => cond x.1 0 1) (false, .slice none 0 0)
   ⟨rfl, rfl, rfl, rfl, rfl, trivial⟩ ⟨(by intro y o s n c e; cases e), hS⟩ ?_
  clear hS
  rintro ⟨q, v⟩ w1 ⟨hp, hS⟩
  dsimp only at hp hS ⊢
  cases q with
  | false =>
   have hF := hS.frame (A := RunR b3 false (List.replicate 8 0) v []) (B := [cel b2 (bys (List.replicate 32 0)) 46])
   refine gW ?_
   refine g_rq rfl rfl ⟨by show (0 : Int) ≤ 0; decide, by show (0 : Int) < 1; decide⟩ ?_
   refine g_l1r rfl rfl (hg.same (hS.fr.kept g hg.lt fun h => h)) (v := .slice au m cu) rfl ?_
   refine gW ?_
   refine g_cl rfl rfl (b_Add (E0 := E0) (bg := false) (st := List.replicate 8 0) (all := []) (bs := bs) (w0 := w1) (S0 := En.foot (RunR b3 false (List.replicate 8 0) v [])) (fun {L w'} h' => ht.in (hF.2 _ _ h')) hp rfl nofun (fun _ => rfl) hm hm0 (by simp; omega) (fun {L} w' h' => hu.same fun b hb => (hF.2 _ _ h').fr.kept b (hu.lt b hb) (fun h => h)) hF.1 fun v' w2 hp' h' => ?_)
   replace hS := hF.2 _ _ h'
   rw [List.nil_append] at hS
   refine gW ?_
   refine g_rq rfl rfl (in64 (by show -9223372036854775808 ≤ (1 : Int) ∧ (1 : Int) ≤ _; decide)) ?_
   refine gW ?_
   exact g_l (true, v') ⟨rfl, rfl, rfl, rfl, rfl, trivial⟩ ⟨hp', hS⟩ (Nat.lt_succ_self 0)
  | true =>
   refine gW ?_
   exact g_jx v ⟨rfl, rfl, trivial⟩ ⟨hp, hS⟩
 clear hS
 rintro v T w1 hT ⟨hp, hS⟩
 refine g_wkc hT ?_
 have hF := hS.frame (A := RunR b3 true (stO bs) v bs) (B := [cel b2 (bys (List.replicate 32 0)) 46])
 refine gW ?_
 refine g_cl rfl rfl (b_Sum (bg := true) (w0 := w1) (S0 := En.foot (RunR b3 true (stO bs) v bs)) (fun {L w'} h' => ht.in (hF.2 _ _ h')) hp (stO_len bs) (fun _ => rfl) nofun (by omega) hF.1 fun w2 h' => ?_)
 replace hS := hF.2 _ _ h'
 refine g_ef0 rfl (ef_st hS 2 rfl rfl rfl l32 (by rw [bys_length, List.length_replicate]; decide) (bys_one _) fun w1 hS => ?_)
 replace hS := hS.ceq (l' := bys (sha bs)) 2 rfl (spl_full _ _ (by show (bys (sha bs)).length = _; rw [l32, bys_length, List.length_replicate]))
 refine gW ?_
 refine g_ret (q_c1 (n := 32) rfl (by kernel_rfl) (hS.b 2 rfl) (Nat.le_of_eq (by rw [l32])) ?_)
 rw [List.drop_zero, List.take_of_length_le (Nat.le_of_eq l32)]
 exact h _ (hS.sel [] rfl rfl)
end
theorem uK24 (x : U) : IntKind.u32.wrap (arv .mul (x.toNat : Int) 16777216) = ((sl x 24).toNat : Int) := uK x 24
theorem uK16 (x : U) : IntKind.u32.wrap (arv .mul (x.toNat : Int) 65536) = ((sl x 16).toNat : Int) := uK x 16
theorem uK8 (x : U) : IntKind.u32.wrap (arv .mul (x.toNat : Int) 256) = ((sl x 8).toNat : Int) := uK x 8
theorem word_add (a b c d : UInt8) : sl a.toUInt32 24 + sl b.toUInt32 16 + sl c.toUInt32 8 + d.toUInt32 = sl a.toUInt32 24 ||| sl b.toUInt32 16 ||| sl c.toUInt32 8 ||| d.toUInt32 := by
 apply UInt32.toNat_inj.1
 have ha := a.toNat_lt
 have hb := b.toNat_lt
 have hc := c.toNat_lt
 have hd := d.toNat_lt
 simp only [UInt32.toNat_add, UInt32.toNat_or, sl, UInt32.toNat_ofNat', UInt8.toNat_toUInt32]
 generalize a.toNat = a at *
 generalize b.toNat = b at *
 generalize c.toNat = c at *
 generalize d.toNat = d at *
 have e1 : a * 2 ^ 24 % 2 ^ 32 = 2 ^ 24 * a := by rw [Nat.mod_eq_of_lt (by omega), Nat.mul_comm]
 have e2 : b * 2 ^ 16 % 2 ^ 32 = 2 ^ 16 * b := by rw [Nat.mod_eq_of_lt (by omega), Nat.mul_comm]
 have e3 : c * 2 ^ 8 % 2 ^ 32 = 2 ^ 8 * c := by rw [Nat.mod_eq_of_lt (by omega), Nat.mul_comm]
 rw [e1, e2, e3, ← Nat.two_pow_add_eq_or_of_lt (i := 24) (b := 2 ^ 16 * b) (by omega) a, show 2 ^ 24 * a + 2 ^ 16 * b = 2 ^ 16 * (2 ^ 8 * a + b) by omega, ← Nat.two_pow_add_eq_or_of_lt (i := 16) (b := 2 ^ 8 * c) (by omega), show 2 ^ 16 * (2 ^ 8 * a + b) + 2 ^ 8 * c = 2 ^ 8 * (2 ^ 8 * (2 ^ 8 * a + b) + c) by omega, ← Nat.two_pow_add_eq_or_of_lt (i := 8) (b := d) (by omega)]
 omega
theorem rdU {l : List Value} {off n : Nat} {s : List U} (hx : (l.drop off).take (n * 1) = ws s) {i : Nat} (hi : i < s.length) : l[off + i * 1]? = some (w4 (s.getD i 0)) := by
 have h1 := congrArg (fun l : List Value => l[i]?) hx
 simp only [List.getElem?_take, List.getElem?_drop] at h1
 have hn : i < n * 1 := by
  have := congrArg List.length hx
  rw [ws_len, List.length_take] at this
  omega
 rw [if_pos hn, ws_get hi] at h1
 rw [Nat.mul_one]
 exact h1
theorem rdB {l : List Value} {off n : Nat} {s : Bs} (hx : (l.drop off).take (n * 1) = bys s) {i : Nat} (hi : i < s.length) : l[off + i * 1]? = some (.int .u8 ((s.getD i 0).toNat : Int)) := by
 have h1 := congrArg (fun l : List Value => l[i]?) hx
 simp only [List.getElem?_take, List.getElem?_drop] at h1
 have hn : i < n * 1 := by
  have := congrArg List.length hx
  rw [bys_length, List.length_take] at this
  omega
 have h2 := bys_gd hi
 rw [Nat.zero_add, Nat.mul_one] at h2
 rw [if_pos hn, h2] at h1
 rw [Nat.mul_one]
 exact h1
theorem rr' (x : U) (k : Nat) : sr x k ||| sl x (32 - k) = rr x k := by unfold rr; exact UInt32.or_comm _ _
theorem ws_zeros (n : Nat) : rep n [(1, .int .u32 0)] = ws (List.replicate n 0) := by rw [rep_byte, ws_zero]
section
variable {E : Env} {ks : List KI} {T : TT} {D : List Deferred} {w : World} {Q : QX} {l : List MOp} {s i : Nat} {g : Option (Nat × Bool)} {x : Operand} {a : U} {t : DT}
theorem pvM (h : ev T x = some (w4 a)) : pev T (.ar .sub .u32 (.const (.int .u32 4294967295)) x false) = .ok (w4 (~~~a)) := by
 unfold pev
 simp only [evi_w h]
 exact congrArg (fun n => R3.ok (.int .u32 n)) (uM a)
theorem d_uM (hl : l[i]? = some ⟨some s, g, .ar .sub .u32 (.const (.int .u32 4294967295)) x false⟩) (hg : gv T ⟨some s, g, .ar .sub .u32 (.const (.int .u32 4294967295)) x false⟩ = some true) (h : ev T x = some (w4 a)) (hG : G E (.d l t :: ks) ((s, w4 (~~~a)) :: T) D w Q) : G E (.d l (.q i t) :: ks) T D w Q := d_ok hl hg (pvM h) hG
end
theorem mix8 {s : List U} (hs : s.length = 8) (x : Bs) (t : List U) (ht : rnds s x 64 = t) : mixd s x = [s.getD 0 0 + t.getD 0 0, s.getD 1 0 + t.getD 1 0, s.getD 2 0 + t.getD 2 0, s.getD 3 0 + t.getD 3 0, s.getD 4 0 + t.getD 4 0, s.getD 5 0 + t.getD 5 0, s.getD 6 0 + t.getD 6 0, s.getD 7 0 + t.getD 7 0] := by
 have lt := rnds_len hs x 64
 unfold mixd
 rw [ht] at lt ⊢
 obtain ⟨a, b, c, d, e, f, g, i, rfl⟩ := eight hs
 obtain ⟨a', b', c', d', e', f', g', i', rfl⟩ := eight lt
 simp [UInt32.add_comm]
section
variable {w w0 : World} {S0 : Nat → Prop} {L B : List Res} {K : Value → World → Prop} {s : Bs} {E0 E1 E2 : Nat}
theorem r_right {x : U} (k : Fin 32) (hk : 0 < k.val) (h : K (w4 (rr x k.val)) w) : CK Tryz.prog 112 [w4 x, .int .u64 (k.val : Int)] w K := by
 have e1 : IntKind.u64.wrap (arv .sub 32 (k.val : Int)) = ((32 - k.val : Nat) : Int) := by
  have := k.isLt
  have e : arv .sub 32 (k.val : Int) = ((32 - k.val : Nat) : Int) := by simp only [arv]; omega
  rw [e]
  exact wrap_in (k := .u64) ⟨by show (0 : Int) ≤ _; omega, by show _ ≤ (18446744073709551615 : Int); omega⟩
 refine call_k Tryz.func112 k112 Tryz.ntmps112 (Nat.le_of_ble_eq_true rfl) ?_
 refine gW ?_
 refine g_rq rfl rfl (by omega) ?_
 refine gW ?_
 rw [e1]
 refine g_rq rfl rfl (by omega) ?_
 refine gW ?_
 rw [uS x _ (by omega), uR x _ (by omega), uO, rr']
 exact g_ret (q_1 rfl h)
set_option maxHeartbeats 2000000 in
theorem r_turn {st : List U} {x : Bs} {vs vx vk : Value} (hs : st.length = 8) (hx : x.length = 64) (hrs : Rd vs E0 1 8 (ws st) w) (hrx : Rd vx E1 1 64 (bys x) w) (hrk : Rd vk E2 1 64 (ws KF) w)
  (h : ∀ v' w', St w (fun _ => False) w' [row v' 107 1 8 (ws (mixd st x))] → K v' w') : CK Tryz.prog 60 [vs, vx, vk] w K := by
 have hS := St.nil w (fun _ => False)
 obtain ⟨bs, os, cs, ls, rfl, hcs, hls, hxs, hbs⟩ := hrs.block (by decide)
 obtain ⟨bx, ox, cx, lx, rfl, hcx, hlx, hxx, hbx⟩ := hrx.block (by decide)
 obtain ⟨bk, ok, ck, lk, rfl, hck, hlk, hxk, hbk⟩ := hrk.block (by decide)
 have Bs' : ∀ {L : List Res} {w' : World}, St w (fun _ => False) w' L → Blr w' bs ls E0 := fun hS => hbs.same (hS.fr.kept _ hbs.lt fun h => h)
 have Bx' : ∀ {L : List Res} {w' : World}, St w (fun _ => False) w' L → Blr w' bx lx E1 := fun hS => hbx.same (hS.fr.kept _ hbx.lt fun h => h)
 have Bk' : ∀ {L : List Res} {w' : World}, St w (fun _ => False) w' L → Blr w' bk lk E2 := fun hS => hbk.same (hS.fr.kept _ hbk.lt fun h => h)
 refine call_k Tryz.func60 k60 Tryz.ntmps60 (Nat.le_of_ble_eq_true rfl) ?_
 refine gW ?_
 refine g_ef rfl (ef_ms hS rfl rfl (by decide) (by decide) (by decide) (by decide) fun b7 w1 hS => ?_)
 replace hS : St w (fun _ => False) w1 [cel b7 (ws (wk x 0)) 107] := hS.ceq 0 rfl (ws_zeros 64)
 refine gW ?_
 refine g_atx (ι := Unit) 2 (fun _ => [(0, .slice (some ⟨bs, os, none⟩) 8 cs), (2, .slice (some ⟨bk, ok, none⟩) 64 ck), (7, .slice (some ⟨b7, 0, none⟩) 64 64)]) (fun _ w' => St w (fun _ => False) w' [cel b7 (ws (wk x 16)) 107]) rfl ?_ ?_
 ·refine g_lp (ι := Nat) (fun k => [(0, .slice (some ⟨bs, os, none⟩) 8 cs), (1, .slice (some ⟨bx, ox, none⟩) 64 cx), (2, .slice (some ⟨bk, ok, none⟩) 64 ck), (7, .slice (some ⟨b7, 0, none⟩) 64 64), (8, .int .i64 k)]) (fun k w' => k ≤ 16 ∧ St w (fun _ => False) w' [cel b7 (ws (wk x k)) 107]) (fun k => 16 - k) 0 ⟨rfl, rfl, rfl, rfl, rfl, trivial⟩ ⟨Nat.zero_le _, hS⟩ ?_
  clear hS
  rintro k w1 ⟨hk, hS⟩
  refine gW ?_
  (refine g_cd rfl (fun hc => ?_) (fun hc => ?_) <;> simp only [cmv, arv, Bool.not_eq_true', Bool.not_eq_false', decide_eq_true_eq, decide_eq_false_iff_not] at hc)
  ·have hk16 : k < 16 := by omega
   refine gW ?_
   refine g_dr mixed ?_
   replace hS := hS.drew
   refine gD ?_
   refine d_rq rfl rfl rfl (in64 (by simp only [arv]; omega)) ?_
   rw [show arv .mul 4 (k : Int) = ((4 * k : Nat) : Int) by simp only [arv]; omega]
   refine d_rq rfl rfl rfl ⟨by omega, by omega⟩ ?_
   refine d_l1r rfl rfl rfl (Bx' hS) (by rw [Int.toNat_natCast]; exact rdB hxx (by omega)) ?_
   refine gD ?_
   refine d_rq rfl rfl rfl (in64 (by simp only [arv]; omega)) ?_
   rw [show arv .mul 4 (k : Int) = ((4 * k : Nat) : Int) by simp only [arv]; omega]
   refine d_rq rfl rfl rfl (in64 (by simp only [arv]; omega)) ?_
   rw [show arv .add ((4 * k : Nat) : Int) 1 = ((4 * k + 1 : Nat) : Int) by simp only [arv]; omega]
   refine d_rq rfl rfl rfl ⟨by omega, by omega⟩ ?_
   refine d_l1r rfl rfl rfl (Bx' hS) (by rw [Int.toNat_natCast]; exact rdB hxx (by omega)) ?_
   refine gD ?_
   refine d_rq rfl rfl rfl (in64 (by simp only [arv]; omega)) ?_
   rw [show arv .mul 4 (k : Int) = ((4 * k : Nat) : Int) by simp only [arv]; omega]
   refine d_rq rfl rfl rfl (in64 (by simp only [arv]; omega)) ?_
   rw [show arv .add ((4 * k : Nat) : Int) 2 = ((4 * k + 2 : Nat) : Int) by simp only [arv]; omega]
   refine d_rq rfl rfl rfl ⟨by omega, by omega⟩ ?_
   refine d_l1r rfl rfl rfl (Bx' hS) (by rw [Int.toNat_natCast]; exact rdB hxx (by omega)) ?_
   refine gD ?_
   refine d_rq rfl rfl rfl (in64 (by simp only [arv]; omega)) ?_
   rw [show arv .mul 4 (k : Int) = ((4 * k : Nat) : Int) by simp only [arv]; omega]
   refine d_rq rfl rfl rfl (in64 (by simp only [arv]; omega)) ?_
   rw [show arv .add ((4 * k : Nat) : Int) 3 = ((4 * k + 3 : Nat) : Int) by simp only [arv]; omega]
   refine d_rq rfl rfl rfl ⟨by omega, by omega⟩ ?_
   refine d_l1r rfl rfl rfl (Bx' hS) (by rw [Int.toNat_natCast]; exact rdB hxx (by omega)) ?_
   refine gD ?_
   refine d_rq rfl rfl rfl ⟨by omega, by omega⟩ ?_
   refine d_e0 rfl rfl ?_
   refine ef_st hS 0 rfl rfl rfl rfl (by rw [ws_len, wk_len x (by omega), Int.toNat_natCast]; show 0 + k * 1 + 1 ≤ 64; omega) rfl fun w1 hS => ⟨rc_0, ?_⟩
   rw [Int.toNat_natCast] at hS
   replace hS := hS.ceq (l' := ws (wk x (k + 1))) 0 rfl (by
    rw [← wk_set x (show k < 64 by omega), ← ws_set _ _ _ (by rw [wk_len x (by omega)]; omega), sch_at x (by omega), if_pos hk16]
    unfold word
    rw [← word_add]
    simp only [uB, uK24, uK16, uK8, uP]
    rfl)
   refine d_fin ?_
   refine gW ?_
   refine g_rq rfl rfl (in64 (by simp only [arv]; omega)) ?_
   refine gW ?_
   exact g_l (k + 1) ⟨rfl, rfl, rfl, rfl, rfl, trivial⟩ ⟨by omega, hS⟩ (by omega)
  ·have e : k = 16 := by omega
   subst e
   refine gW ?_
   exact g_jx () ⟨rfl, rfl, rfl, trivial⟩ hS
 clear hS
 rintro _ T w1 hT hS
 refine g_wkc hT ?_
 refine gW ?_
 refine g_atx (ι := Unit) 2 (fun _ => [(0, .slice (some ⟨bs, os, none⟩) 8 cs), (2, .slice (some ⟨bk, ok, none⟩) 64 ck), (7, .slice (some ⟨b7, 0, none⟩) 64 64)]) (fun _ w' => St w (fun _ => False) w' [cel b7 (ws (wk x 64)) 107]) rfl ?_ ?_
 ·refine g_lp (ι := Nat) (fun k => [(0, .slice (some ⟨bs, os, none⟩) 8 cs), (2, .slice (some ⟨bk, ok, none⟩) 64 ck), (7, .slice (some ⟨b7, 0, none⟩) 64 64), (9, .int .i64 k)]) (fun k w' => 16 ≤ k ∧ k ≤ 64 ∧ St w (fun _ => False) w' [cel b7 (ws (wk x k)) 107]) (fun k => 64 - k) 16 ⟨rfl, rfl, rfl, rfl, trivial⟩ ⟨Nat.le_refl _, by omega, hS⟩ ?_
  clear hS
  rintro k w1 ⟨h16, hk, hS⟩
  refine gW ?_
  (refine g_cd rfl (fun hc => ?_) (fun hc => ?_) <;> simp only [cmv, arv, Bool.not_eq_true', Bool.not_eq_false', decide_eq_true_eq, decide_eq_false_iff_not] at hc)
  ·have hk64 : k < 64 := by omega
   have wl : (wk x k).length = 64 := wk_len x hk
   refine gW ?_
   refine g_dr mixed ?_
   replace hS := hS.drew
   refine gD ?_
   refine d_rq rfl rfl rfl (in64 (by simp only [arv]; omega)) ?_
   rw [show arv .sub (k : Int) 15 = ((k - 15 : Nat) : Int) by simp only [arv]; omega]
   refine d_rq rfl rfl rfl ⟨by omega, by omega⟩ ?_
   refine d_l1 rfl rfl rfl (hS.b 0 rfl) (ws_gd (i := k - 15) (by omega)) ?_
   refine gD ?_
   refine d_rq rfl rfl rfl (in64 (by simp only [arv]; omega)) ?_
   rw [show arv .sub (k : Int) 15 = ((k - 15 : Nat) : Int) by simp only [arv]; omega]
   refine d_rq rfl rfl rfl ⟨by omega, by omega⟩ ?_
   refine d_l1 rfl rfl rfl (hS.b 0 rfl) (ws_gd (i := k - 15) (by omega)) ?_
   refine gD ?_
   refine d_rq rfl rfl rfl (in64 (by simp only [arv]; omega)) ?_
   rw [show arv .sub (k : Int) 15 = ((k - 15 : Nat) : Int) by simp only [arv]; omega]
   refine d_rq rfl rfl rfl ⟨by omega, by omega⟩ ?_
   refine d_l1 rfl rfl rfl (hS.b 0 rfl) (ws_gd (i := k - 15) (by omega)) ?_
   refine d_rq rfl rfl rfl (by decide) ?_
   refine d_cl rfl rfl rfl (r_right 7 (by decide) ⟨rc_1 rfl rfl rfl rfl (hS.b 0 rfl) (ws_gd (i := k - 15) (by omega)) (rc_1 rfl rfl rfl rfl (hS.b 0 rfl) (ws_gd (i := k - 15) (by omega)) rc_0), ?_⟩)
   refine d_cl rfl rfl rfl (r_right 18 (by decide) ⟨rc_1 rfl rfl rfl rfl (hS.b 0 rfl) (ws_gd (i := k - 15) (by omega)) rc_0, ?_⟩)
   rw [uR3]
   refine gD ?_
   refine d_fin ?_
   refine gW ?_
   refine g_dr mixed ?_
   replace hS := hS.drew
   refine gD ?_
   refine d_rq rfl rfl rfl (in64 (by simp only [arv]; omega)) ?_
   rw [show arv .sub (k : Int) 2 = ((k - 2 : Nat) : Int) by simp only [arv]; omega]
   refine d_rq rfl rfl rfl ⟨by omega, by omega⟩ ?_
   refine d_l1 rfl rfl rfl (hS.b 0 rfl) (ws_gd (i := k - 2) (by omega)) ?_
   refine gD ?_
   refine d_rq rfl rfl rfl (in64 (by simp only [arv]; omega)) ?_
   rw [show arv .sub (k : Int) 2 = ((k - 2 : Nat) : Int) by simp only [arv]; omega]
   refine d_rq rfl rfl rfl ⟨by omega, by omega⟩ ?_
   refine d_l1 rfl rfl rfl (hS.b 0 rfl) (ws_gd (i := k - 2) (by omega)) ?_
   refine gD ?_
   refine d_rq rfl rfl rfl (in64 (by simp only [arv]; omega)) ?_
   rw [show arv .sub (k : Int) 2 = ((k - 2 : Nat) : Int) by simp only [arv]; omega]
   refine d_rq rfl rfl rfl ⟨by omega, by omega⟩ ?_
   refine d_l1 rfl rfl rfl (hS.b 0 rfl) (ws_gd (i := k - 2) (by omega)) ?_
   refine d_rq rfl rfl rfl (by decide) ?_
   refine d_cl rfl rfl rfl (r_right 17 (by decide) ⟨rc_1 rfl rfl rfl rfl (hS.b 0 rfl) (ws_gd (i := k - 2) (by omega)) (rc_1 rfl rfl rfl rfl (hS.b 0 rfl) (ws_gd (i := k - 2) (by omega)) rc_0), ?_⟩)
   refine d_cl rfl rfl rfl (r_right 19 (by decide) ⟨rc_1 rfl rfl rfl rfl (hS.b 0 rfl) (ws_gd (i := k - 2) (by omega)) rc_0, ?_⟩)
   rw [uR10]
   refine gD ?_
   refine d_fin ?_
   refine gW ?_
   refine g_dr mixed ?_
   replace hS := hS.drew
   refine gD ?_
   refine d_rq rfl rfl rfl (in64 (by simp only [arv]; omega)) ?_
   rw [show arv .sub (k : Int) 16 = ((k - 16 : Nat) : Int) by simp only [arv]; omega]
   refine d_rq rfl rfl rfl ⟨by omega, by omega⟩ ?_
   refine d_l1 rfl rfl rfl (hS.b 0 rfl) (ws_gd (i := k - 16) (by omega)) ?_
   refine gD ?_
   refine d_rq rfl rfl rfl (in64 (by simp only [arv]; omega)) ?_
   rw [show arv .sub (k : Int) 7 = ((k - 7 : Nat) : Int) by simp only [arv]; omega]
   refine d_rq rfl rfl rfl ⟨by omega, by omega⟩ ?_
   refine d_l1 rfl rfl rfl (hS.b 0 rfl) (ws_gd (i := k - 7) (by omega)) ?_
   refine gD ?_
   refine d_rq rfl rfl rfl ⟨by omega, by omega⟩ ?_
   refine d_e0 rfl rfl ?_
   refine ef_st hS 0 rfl rfl rfl rfl (by rw [ws_len, wl, Int.toNat_natCast]; show 0 + k * 1 + 1 ≤ 64; omega) rfl fun w1 hS => ⟨rc_0, ?_⟩
   rw [Int.toNat_natCast] at hS
   replace hS := hS.ceq (l' := ws (wk x (k + 1))) 0 rfl (by
    rw [← wk_set x hk64, ← ws_set _ _ _ (by omega), sch_at x hk64, if_neg (by omega)]
    unfold nw g0 g1
    rw [← wk_get x (show k - 16 < k by omega), ← wk_get x (show k - 15 < k by omega), ← wk_get x (show k - 7 < k by omega), ← wk_get x (show k - 2 < k by omega)]
    simp only [w4, uX, uP]
    rfl)
   refine d_fin ?_
   refine gW ?_
   refine g_rq rfl rfl (in64 (by simp only [arv]; omega)) ?_
   refine gW ?_
   exact g_l (k + 1) ⟨rfl, rfl, rfl, rfl, trivial⟩ ⟨by omega, by omega, hS⟩ (by omega)
  ·have e : k = 64 := by omega
   subst e
   refine gW ?_
   exact g_jx () ⟨rfl, rfl, rfl, trivial⟩ hS
 clear hS
 rintro _ T w1 hT hS
 refine g_wkc hT ?_
 refine gW ?_
 refine g_dr mixed ?_
 replace hS := hS.drew
 refine gD ?_
 refine d_rq rfl rfl rfl ⟨by decide, by decide⟩ ?_
 refine d_l1r rfl rfl rfl (Bs' hS) (rdU (i := 0) hxs (by omega)) ?_
 refine gD ?_
 refine d_rq rfl rfl rfl ⟨by decide, by decide⟩ ?_
 refine d_l1r rfl rfl rfl (Bs' hS) (rdU (i := 1) hxs (by omega)) ?_
 refine gD ?_
 refine d_rq rfl rfl rfl ⟨by decide, by decide⟩ ?_
 refine d_l1r rfl rfl rfl (Bs' hS) (rdU (i := 2) hxs (by omega)) ?_
 refine gD ?_
 refine d_rq rfl rfl rfl ⟨by decide, by decide⟩ ?_
 refine d_l1r rfl rfl rfl (Bs' hS) (rdU (i := 3) hxs (by omega)) ?_
 refine gD ?_
 refine d_fin ?_
 refine gW ?_
 refine g_dr mixed ?_
 replace hS := hS.drew
 refine gD ?_
 refine d_rq rfl rfl rfl ⟨by decide, by decide⟩ ?_
 refine d_l1r rfl rfl rfl (Bs' hS) (rdU (i := 4) hxs (by omega)) ?_
 refine gD ?_
 refine d_rq rfl rfl rfl ⟨by decide, by decide⟩ ?_
 refine d_l1r rfl rfl rfl (Bs' hS) (rdU (i := 5) hxs (by omega)) ?_
 refine gD ?_
 refine d_rq rfl rfl rfl ⟨by decide, by decide⟩ ?_
 refine d_l1r rfl rfl rfl (Bs' hS) (rdU (i := 6) hxs (by omega)) ?_
 refine gD ?_
 refine d_rq rfl rfl rfl ⟨by decide, by decide⟩ ?_
 refine d_l1r rfl rfl rfl (Bs' hS) (rdU (i := 7) hxs (by omega)) ?_
 refine gD ?_
 refine d_fin ?_
 refine gW ?_
 have e64 : wk x 64 = sch x 64 := by unfold wk; rw [Nat.sub_self]; exact List.append_nil _
 rw [e64] at hS
 refine g_atx (ι := Unit) 2 (fun _ => [(0, .slice (some ⟨bs, os, none⟩) 8 cs), (12, w4 ((rnds st x 64).getD 0 0)), (13, w4 ((rnds st x 64).getD 1 0)), (14, w4 ((rnds st x 64).getD 2 0)), (15, w4 ((rnds st x 64).getD 3 0)), (16, w4 ((rnds st x 64).getD 4 0)), (17, w4 ((rnds st x 64).getD 5 0)), (18, w4 ((rnds st x 64).getD 6 0)), (19, w4 ((rnds st x 64).getD 7 0))]) (fun _ w' => St w (fun _ => False) w' []) rfl ?_ ?_
 ·refine g_lp (ι := Nat) (fun k => [(0, .slice (some ⟨bs, os, none⟩) 8 cs), (2, .slice (some ⟨bk, ok, none⟩) 64 ck), (7, .slice (some ⟨b7, 0, none⟩) 64 64), (12, w4 ((rnds st x k).getD 0 0)), (13, w4 ((rnds st x k).getD 1 0)), (14, w4 ((rnds st x k).getD 2 0)), (15, w4 ((rnds st x k).getD 3 0)), (16, w4 ((rnds st x k).getD 4 0)), (17, w4 ((rnds st x k).getD 5 0)), (18, w4 ((rnds st x k).getD 6 0)), (19, w4 ((rnds st x k).getD 7 0)), (20, .int .i64 k)]) (fun k w' => k ≤ 64 ∧ St w (fun _ => False) w' [cel b7 (ws (sch x 64)) 107]) (fun k => 64 - k) 0 ⟨rfl, rfl, rfl, rfl, rfl, rfl, rfl, rfl, rfl, rfl, rfl, rfl, trivial⟩ ⟨Nat.zero_le _, hS⟩ ?_
  clear hS
  rintro k w1 ⟨hk, hS⟩
  have ern : rnds st x (k + 1) = rnd (rnds st x k) (KF.getD k 0) ((sch x 64).getD k 0) := rfl
  generalize htt : rnds st x k = t at ern
  have sl64 : (sch x 64).length = 64 := sch_len x 64
  generalize hWW : (sch x 64).getD k 0 = ww at ern
  refine gW ?_
  (refine g_cd rfl (fun hc => ?_) (fun hc => ?_) <;> simp only [cmv, arv, Bool.not_eq_true', Bool.not_eq_false', decide_eq_true_eq, decide_eq_false_iff_not] at hc)
  ·have hk64 : k < 64 := by omega
   refine gW ?_
   refine g_dr mixed ?_
   replace hS := hS.drew
   (repeat (first | refine d_mv rfl rfl rfl ?_ | refine d_uX rfl rfl rfl rfl ?_ | refine d_uP rfl rfl rfl rfl ?_ | refine d_uA rfl rfl rfl rfl ?_ | refine d_uN rfl rfl rfl ?_))
   refine d_uM rfl rfl rfl ?_
   (repeat (first | refine d_mv rfl rfl rfl ?_ | refine d_uX rfl rfl rfl rfl ?_ | refine d_uP rfl rfl rfl rfl ?_ | refine d_uA rfl rfl rfl rfl ?_ | refine d_uN rfl rfl rfl ?_))
   refine d_rq rfl rfl rfl ⟨by omega, by omega⟩ ?_
   refine d_l1r rfl rfl rfl (Bk' hS) (by rw [Int.toNat_natCast]; exact rdU (i := k) hxk (by rw [KF_len]; omega)) ?_
   (repeat (first | refine d_mv rfl rfl rfl ?_ | refine d_uX rfl rfl rfl rfl ?_ | refine d_uP rfl rfl rfl rfl ?_ | refine d_uA rfl rfl rfl rfl ?_ | refine d_uN rfl rfl rfl ?_))
   refine d_rq rfl rfl rfl ⟨by omega, by omega⟩ ?_
   refine d_l1 rfl rfl rfl (hS.b 0 rfl) (ws_gd (i := k) (by omega)) ?_
   rw [hWW]
   refine d_cl rfl rfl rfl (r_right 6 (by decide) ⟨rc_1r rfl rfl rfl rfl (Bk' hS) (by rw [Int.toNat_natCast]; exact rdU (i := k) hxk (by rw [KF_len]; omega)) (rc_1 rfl rfl rfl rfl (hS.b 0 rfl) (by rw [← hWW]; exact ws_gd (i := k) (by omega)) rc_0), ?_⟩)
   refine d_cl rfl rfl rfl (r_right 11 (by decide) ⟨rc_1r rfl rfl rfl rfl (Bk' hS) (by rw [Int.toNat_natCast]; exact rdU (i := k) hxk (by rw [KF_len]; omega)) (rc_1 rfl rfl rfl rfl (hS.b 0 rfl) (by rw [← hWW]; exact ws_gd (i := k) (by omega)) rc_0), ?_⟩)
   (repeat (first | refine d_mv rfl rfl rfl ?_ | refine d_uX rfl rfl rfl rfl ?_ | refine d_uP rfl rfl rfl rfl ?_ | refine d_uA rfl rfl rfl rfl ?_ | refine d_uN rfl rfl rfl ?_))
   refine d_cl rfl rfl rfl (r_right 25 (by decide) ⟨rc_1r rfl rfl rfl rfl (Bk' hS) (by rw [Int.toNat_natCast]; exact rdU (i := k) hxk (by rw [KF_len]; omega)) (rc_1 rfl rfl rfl rfl (hS.b 0 rfl) (by rw [← hWW]; exact ws_gd (i := k) (by omega)) rc_0), ?_⟩)
   (repeat (first | refine d_mv rfl rfl rfl ?_ | refine d_uX rfl rfl rfl rfl ?_ | refine d_uP rfl rfl rfl rfl ?_ | refine d_uA rfl rfl rfl rfl ?_ | refine d_uN rfl rfl rfl ?_))
   refine d_fin ?_
   (repeat (first | refine g_mv rfl rfl ?_ | refine g_uX rfl rfl rfl ?_ | refine g_uP rfl rfl rfl ?_ | refine g_uA rfl rfl rfl ?_ | refine g_uO rfl rfl rfl ?_ | refine g_uN rfl rfl ?_ | refine g_sq ?_ | refine g_rg ?_ | refine g_r0 ?_ | refine g_bk ?_ | refine g_b ?_))
   refine g_cl rfl rfl (r_right 2 (by decide) ?_)
   (repeat (first | refine g_mv rfl rfl ?_ | refine g_uX rfl rfl rfl ?_ | refine g_uP rfl rfl rfl ?_ | refine g_uA rfl rfl rfl ?_ | refine g_uO rfl rfl rfl ?_ | refine g_uN rfl rfl ?_ | refine g_sq ?_ | refine g_rg ?_ | refine g_r0 ?_ | refine g_bk ?_ | refine g_b ?_))
   refine g_cl rfl rfl (r_right 13 (by decide) ?_)
   (repeat (first | refine g_mv rfl rfl ?_ | refine g_uX rfl rfl rfl ?_ | refine g_uP rfl rfl rfl ?_ | refine g_uA rfl rfl rfl ?_ | refine g_uO rfl rfl rfl ?_ | refine g_uN rfl rfl ?_ | refine g_sq ?_ | refine g_rg ?_ | refine g_r0 ?_ | refine g_bk ?_ | refine g_b ?_))
   refine g_cl rfl rfl (r_right 22 (by decide) ?_)
   (repeat (first | refine g_mv rfl rfl ?_ | refine g_uX rfl rfl rfl ?_ | refine g_uP rfl rfl rfl ?_ | refine g_uA rfl rfl rfl ?_ | refine g_uO rfl rfl rfl ?_ | refine g_uN rfl rfl ?_ | refine g_sq ?_ | refine g_rg ?_ | refine g_r0 ?_ | refine g_bk ?_ | refine g_b ?_))
   refine g_rq rfl rfl (in64 (by simp only [arv]; omega)) ?_
   (repeat (first | refine g_mv rfl rfl ?_ | refine g_uX rfl rfl rfl ?_ | refine g_uP rfl rfl rfl ?_ | refine g_uA rfl rfl rfl ?_ | refine g_uO rfl rfl rfl ?_ | refine g_uN rfl rfl ?_ | refine g_sq ?_ | refine g_rg ?_ | refine g_r0 ?_ | refine g_bk ?_ | refine g_b ?_))
   exact g_l (k + 1) ⟨rfl, rfl, rfl, by rw [ern]; rfl, by rw [ern]; rfl, by rw [ern]; rfl, by rw [ern]; rfl, by rw [ern]; rfl, by rw [ern]; rfl, by rw [ern]; rfl, by rw [ern]; rfl, rfl, trivial⟩ ⟨by omega, hS⟩ (by omega)
  ·have e : k = 64 := by omega
   subst e
   refine gW ?_
   subst htt
   exact g_jx () ⟨rfl, rfl, rfl, rfl, rfl, rfl, rfl, rfl, rfl, trivial⟩ (hS.sel [] rfl rfl)
 clear hS
 rintro _ T w1 hT hS
 refine g_wkc hT ?_
 generalize ht : rnds st x 64 = t
 refine gW ?_
 refine g_dr mixed ?_
 replace hS := hS.drew
 (repeat (first | refine d_mv rfl rfl rfl ?_ | refine d_uX rfl rfl rfl rfl ?_ | refine d_uP rfl rfl rfl rfl ?_ | refine d_uA rfl rfl rfl rfl ?_ | refine d_uN rfl rfl rfl ?_))
 refine d_rq rfl rfl rfl ⟨by decide, by decide⟩ ?_
 refine d_l1r rfl rfl rfl (Bs' hS) (rdU (i := 0) hxs (by omega)) ?_
 (repeat (first | refine d_mv rfl rfl rfl ?_ | refine d_uX rfl rfl rfl rfl ?_ | refine d_uP rfl rfl rfl rfl ?_ | refine d_uA rfl rfl rfl rfl ?_ | refine d_uN rfl rfl rfl ?_))
 refine d_rq rfl rfl rfl ⟨by decide, by decide⟩ ?_
 refine d_l1r rfl rfl rfl (Bs' hS) (rdU (i := 1) hxs (by omega)) ?_
 (repeat (first | refine d_mv rfl rfl rfl ?_ | refine d_uX rfl rfl rfl rfl ?_ | refine d_uP rfl rfl rfl rfl ?_ | refine d_uA rfl rfl rfl rfl ?_ | refine d_uN rfl rfl rfl ?_))
 refine d_rq rfl rfl rfl ⟨by decide, by decide⟩ ?_
 refine d_l1r rfl rfl rfl (Bs' hS) (rdU (i := 2) hxs (by omega)) ?_
 (repeat (first | refine d_mv rfl rfl rfl ?_ | refine d_uX rfl rfl rfl rfl ?_ | refine d_uP rfl rfl rfl rfl ?_ | refine d_uA rfl rfl rfl rfl ?_ | refine d_uN rfl rfl rfl ?_))
 refine d_rq rfl rfl rfl ⟨by decide, by decide⟩ ?_
 refine d_l1r rfl rfl rfl (Bs' hS) (rdU (i := 3) hxs (by omega)) ?_
 (repeat (first | refine d_mv rfl rfl rfl ?_ | refine d_uX rfl rfl rfl rfl ?_ | refine d_uP rfl rfl rfl rfl ?_ | refine d_uA rfl rfl rfl rfl ?_ | refine d_uN rfl rfl rfl ?_))
 refine d_rq rfl rfl rfl ⟨by decide, by decide⟩ ?_
 refine d_l1r rfl rfl rfl (Bs' hS) (rdU (i := 4) hxs (by omega)) ?_
 (repeat (first | refine d_mv rfl rfl rfl ?_ | refine d_uX rfl rfl rfl rfl ?_ | refine d_uP rfl rfl rfl rfl ?_ | refine d_uA rfl rfl rfl rfl ?_ | refine d_uN rfl rfl rfl ?_))
 refine d_rq rfl rfl rfl ⟨by decide, by decide⟩ ?_
 refine d_l1r rfl rfl rfl (Bs' hS) (rdU (i := 5) hxs (by omega)) ?_
 (repeat (first | refine d_mv rfl rfl rfl ?_ | refine d_uX rfl rfl rfl rfl ?_ | refine d_uP rfl rfl rfl rfl ?_ | refine d_uA rfl rfl rfl rfl ?_ | refine d_uN rfl rfl rfl ?_))
 refine d_rq rfl rfl rfl ⟨by decide, by decide⟩ ?_
 refine d_l1r rfl rfl rfl (Bs' hS) (rdU (i := 6) hxs (by omega)) ?_
 (repeat (first | refine d_mv rfl rfl rfl ?_ | refine d_uX rfl rfl rfl rfl ?_ | refine d_uP rfl rfl rfl rfl ?_ | refine d_uA rfl rfl rfl rfl ?_ | refine d_uN rfl rfl rfl ?_))
 refine d_rq rfl rfl rfl ⟨by decide, by decide⟩ ?_
 refine d_l1r rfl rfl rfl (Bs' hS) (rdU (i := 7) hxs (by omega)) ?_
 (repeat (first | refine d_mv rfl rfl rfl ?_ | refine d_uX rfl rfl rfl rfl ?_ | refine d_uP rfl rfl rfl rfl ?_ | refine d_uA rfl rfl rfl rfl ?_ | refine d_uN rfl rfl rfl ?_))
 refine d_e rfl rfl ?_
 refine ef_bl (rs := ws [st.getD 0 0 + t.getD 0 0, st.getD 1 0 + t.getD 1 0, st.getD 2 0 + t.getD 2 0, st.getD 3 0 + t.getD 3 0, st.getD 4 0 + t.getD 4 0, st.getD 5 0 + t.getD 5 0, st.getD 6 0 + t.getD 6 0, st.getD 7 0 + t.getD 7 0]) hS rfl fun bR w1 hS => ⟨rc_0, ?_⟩
 rw [← mix8 hs x t ht] at hS
 (repeat (first | refine d_mv rfl rfl rfl ?_ | refine d_uX rfl rfl rfl rfl ?_ | refine d_uP rfl rfl rfl rfl ?_ | refine d_uA rfl rfl rfl rfl ?_ | refine d_uN rfl rfl rfl ?_))
 refine d_fin ?_
 have hml : (ws (mixd st x)).length = 8 := by rw [ws_len, mixd_len hs]
 replace hS := hS.close_row (n := 8) (cap := 8) (sz := 1) (xs := ws (mixd st x)) 0 rfl (Nat.le_refl _) hml (List.prefix_refl _) hml
 exact g_ret (q_1 rfl (h _ _ hS))
end
end Go.Proofs.YtocofjmknnckhaaGreatDoor
