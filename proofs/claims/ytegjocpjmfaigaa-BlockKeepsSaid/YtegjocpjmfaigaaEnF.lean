/- Append, copy, text to bytes, calls. -/
import Derived.Test.YtegjocpjmfaigaaEnE
set_option linter.unusedSimpArgs false
set_option linter.unusedVariables false
namespace Go.En
variable {P : Program} {r : Option Nat} {T : TT} {w w0 : World} {S0 : Nat → Prop} {L : List Res} {K : Value → World → Prop}

/-- the block of a slice -/
def vo : Value → Nat → Prop
  | .slice (some a) _ _, b => b = a.block
  | _, _ => False
/-- the block of a slice that has room -/
def vb : Value → Nat → Prop
  | .slice (some a) _ c, b => b = a.block ∧ c ≠ 0
  | _, _ => False
theorem vb_vo {v : Value} {b : Nat} (h : vb v b) : vo v b := by
  cases v with
  | slice a n c => cases a with
    | none => exact h
    | some a => exact h.1
  | _ => exact h

/-- A slice value reads as the cells xs, n elements. -/
def Rd (v : Value) (E sz : Nat) (n : Nat) (xs : List Value) (w : World) : Prop :=
  ((∃ a, v = .slice a 0 0) ∧ n = 0 ∧ xs = []) ∨ ∃ b off cap l, v = .slice (some ⟨b, off, none⟩) n cap ∧ n ≤ cap ∧ off + cap * sz ≤ l.length ∧ (l.drop off).take (n * sz) = xs ∧ Blr w b l E

theorem Rd.len {v : Value} {E sz n : Nat} {xs : List Value} (h : Rd v E sz n xs w) : xs.length = n * sz := by
  rcases h with ⟨_, rfl, rfl⟩ | ⟨b, off, cap, l, _, hn, hl, rfl, _⟩
  · simp
  · have := Nat.mul_le_mul_right sz hn
    simp; omega
theorem Rd.same {v : Value} {E sz n : Nat} {xs : List Value} {w' : World} (h : Rd v E sz n xs w) (hs : ∀ b, vb v b → w'.heap[b]? = w.heap[b]?) : Rd v E sz n xs w' := by
  rcases h with h | ⟨b, off, cap, l, rfl, hn, hl, hx, hb⟩
  · exact .inl h
  · by_cases hc : cap = 0
    · subst hc
      have : n = 0 := by omega
      subst this
      exact .inl ⟨⟨_, rfl⟩, rfl, by rw [← hx]; simp⟩
    · exact .inr ⟨b, off, cap, l, rfl, hn, hl, hx, hb.same (hs b ⟨rfl, hc⟩)⟩
theorem Rd.lt {v : Value} {E sz n : Nat} {xs : List Value} (h : Rd v E sz n xs w) : ∀ b, vb v b → b < w.heap.size := by
  rcases h with ⟨⟨a, rfl⟩, _⟩ | ⟨b, off, cap, l, rfl, hn, hl, hx, hb⟩
  · intro b hb
    cases a with
    | none => exact hb.elim
    | some a => exact absurd rfl hb.2
  · intro b' hb'; have : b' = b := hb'.1; subst this; exact hb.lt
/-- read-only -/
def rdR (v : Value) (E sz n : Nat) (xs : List Value) : Res := ⟨vb v, fun w => Rd v E sz n xs w, fun _ _ h k => k.same h⟩

/-- A slice that is held, from the head of its block: the cells xs, n elements, and what lies behind them up to its capacity. -/
def Ow (v : Value) (E sz : Nat) (n : Nat) (xs : List Value) (w : World) : Prop :=
  (v = .slice none 0 0 ∧ n = 0 ∧ xs = []) ∨ ∃ b cap rest, v = .slice (some ⟨b, 0, none⟩) n cap ∧ n ≤ cap ∧ xs.length = n * sz ∧ (xs ++ rest).length = cap * sz ∧ Blk w b (xs ++ rest) E
theorem Ow.rd {v : Value} {E sz n : Nat} {xs : List Value} (h : Ow v E sz n xs w) : Rd v E sz n xs w := by
  rcases h with h | ⟨b, cap, rest, rfl, hn, hx, hl, hb⟩
  · exact .inl ⟨⟨none, h.1⟩, h.2⟩
  · exact .inr ⟨b, 0, cap, xs ++ rest, rfl, hn, by omega, by rw [List.drop_zero, ← hx, List.take_left], hb.r⟩
theorem Ow.len {v : Value} {E sz n : Nat} {xs : List Value} (h : Ow v E sz n xs w) : xs.length = n * sz := h.rd.len
theorem Ow.same {v : Value} {E sz n : Nat} {xs : List Value} {w' : World} (h : Ow v E sz n xs w) (hs : ∀ b, vo v b → w'.heap[b]? = w.heap[b]?) : Ow v E sz n xs w' := by
  rcases h with h | ⟨b, cap, rest, rfl, hn, hx, hl, hb⟩
  · exact .inl h
  · exact .inr ⟨b, cap, rest, rfl, hn, hx, hl, hb.same (hs b rfl)⟩
def row (v : Value) (E sz n : Nat) (xs : List Value) : Res := ⟨vo v, fun w => Ow v E sz n xs w, fun _ _ h k => k.same h⟩

theorem Fr.drew (w : World) (S : Nat → Prop) : Fr w S w.drew := ⟨Nat.le_refl _, fun _ _ _ => rfl, rfl, rfl, rfl⟩
theorem drew_alloc (w : World) (o : Obj) (S : Nat → Prop) : Fr w S (w.drew.alloc o) := ⟨by rw [alloc_size]; exact Nat.le_succ _, fun _ hb _ => alloc_other hb, rfl, rfl, rfl⟩

/-- what append reads of its second operand -/
def News (v : Value) (sz n : Nat) (xs : List Value) (w : World) : Prop :=
  (∃ E, Rd v E sz n xs w) ∨ ∃ s : ByteArray, v = .string s ∧ sz = 1 ∧ n = s.data.toList.length ∧ xs = bys s.data.toList
theorem News.lenOf {v : Value} {sz n : Nat} {xs : List Value} (h : News v sz n xs w) : ∀ w, (Builtin.lenOf v).run P w = .ok n w := by
  rcases h with ⟨E, ⟨⟨a, rfl⟩, rfl, rfl⟩ | ⟨b, off, cap, l, rfl, hn, hl, rfl, hb⟩⟩ | ⟨s, rfl, rfl, rfl, rfl⟩
  · intro w; rfl
  · intro w; rfl
  · intro w; simp [Builtin.lenOf]
theorem News.first {v : Value} {sz n : Nat} {xs : List Value} (h : News v sz n xs w) {w' : World} (hw : w'.heap = w.heap) : (Builtin.firstCells sz n v).run P w' = .ok ⟨xs⟩ w' := by
  rcases h with ⟨E, ⟨⟨a, rfl⟩, rfl, rfl⟩ | ⟨b, off, cap, l, rfl, hn, hl, rfl, hb⟩⟩ | ⟨s, rfl, rfl, rfl, rfl⟩
  · cases a <;> simp [Builtin.firstCells, loadCells, loadCellsFrom]
  · have := Nat.mul_le_mul_right sz hn
    have hb' : Blr w' b l E := hb.same (by rw [hw])
    exact run_cells (P := P) (n := n * sz) hb' (by omega)
  · simp only [Builtin.firstCells, Sem.run_pure]
    congr 1
    apply Array.ext'
    have : s.extract 0 s.data.toList.length = s := by
      have : s.data.toList.length = s.size := by rw [Array.length_toList]; rfl
      rw [this]; simp
    rw [this]
    simp [bys]
theorem News.len {v : Value} {sz n : Nat} {xs : List Value} (h : News v sz n xs w) : xs.length = n * sz := by
  rcases h with ⟨E, h⟩ | ⟨s, _, rfl, rfl, rfl⟩
  · exact h.len
  · simp

theorem run_append_in {t u ty E : TypeId} {sz : Nat} (ht : P.underlying t = some (.slice E)) (hu : ∃ d, P.underlying u = some d ∧ (∀ k, d ≠ .int k)) (hs : hasSize P E sz = true) {b n m c : Nat} {x : Value} {xs ys rest : List Value}
    (hx : xs.length = n * sz) (hl : (xs ++ rest).length = c * sz) (hb : Blk w b (xs ++ rest) E) (hy : News x sz m ys w) (h1 : ys.all (·.oneCell') = true) (hc : n + m ≤ c) :
    (Builtin.append_ #[t, u] ty #[.slice (some ⟨b, 0, none⟩) n c, x]).run P w = .ok (.slice (some ⟨b, 0, none⟩) (n + m) c) (setB w b (xs ++ ys ++ rest.drop (m * sz))) := by
  obtain ⟨d, hu, hd⟩ := hu
  have hbeq : (d matches .int _) = false := by cases d <;> first | rfl | exact absurd rfl (hd _)
  have hm := Nat.mul_le_mul_right sz hc
  rw [Nat.add_mul] at hm
  have hst := run_stores (P := P) (off := n * sz) (b := b) (E := E) ys 0 (xs ++ rest) w hb (by rw [hy.len]; omega) h1
  have e : spl (xs ++ rest) (n * sz + 0) ys = xs ++ ys ++ rest.drop (m * sz) := by
    unfold spl
    rw [Nat.add_zero, hy.len, ← hx, List.take_left, ← List.drop_drop, List.drop_left]
  rw [e] at hst
  simp only [Builtin.append_, List.getElem?_toArray, List.getElem?_cons_zero, List.getElem?_cons_succ, Sem.run_bind, run_underlying ht w, run_underlying hu w, Result.andThen_ok, run_size hs w, Sem.run_pure, hbeq, Bool.false_eq_true, if_false, hy.lenOf w, Sem.run_ite]
  rw [if_pos hc]
  simp only [Bool.not_false, if_true, Sem.run_bind, hy.first (P := P) rfl, Result.andThen_ok, add_plain, Nat.zero_add, hst, Sem.run_pure]

theorem run_append_gr {t u ty E : TypeId} {sz bytes : Nat} {z : ZZ} (ht : P.underlying t = some (.slice E)) (hu : ∃ d, P.underlying u = some d ∧ (∀ k, d ≠ .int k)) (hs : hasSize P E sz = true) (hby : bytesAre P E bytes = true) (hz : zeroIs P E z = true) {a : Option Addr} {n m c : Nat} {x : Value} {xs ys : List Value}
    (hx : ∀ w', w'.heap = w.heap → (Builtin.firstCells sz n (.slice a n c)).run P w' = .ok ⟨xs⟩ w') (hy : News x sz m ys w) (hc : c < n + m) (hfit : (n + m) * bytes ≤ 140737488355328) (h63 : n + m ≤ 9223372036854775807) :
    ∃ cap, n + m ≤ cap ∧ (Builtin.append_ #[t, u] ty #[.slice a n c, x]).run P w = .ok (.slice (some ⟨w.heap.size, 0, none⟩) (n + m) cap) (w.drew.alloc (.cells ⟨xs ++ ys ++ rep (cap - (n + m)) z⟩ E)) := by
  obtain ⟨d, hu, hd⟩ := hu
  have hbeq : (d matches .int _) = false := by cases d <;> first | rfl | exact absurd rfl (hd _)
  obtain ⟨i, hi, hsz⟩ := hasSize_info hs
  have hbb : i.bytes = bytes := by simp [bytesAre, hi] at hby; exact hby
  simp only [zeroIs, hi] at hz
  split at hz
  · rename_i zv hzv
    have hzz := veqs_eq hz
    have hzr : ∀ w, (zeroValue E).run P w = .ok zv w := fun w => by simp [zeroValue, typeInfo, hi, hzv]
    have hti : ∀ w, (typeInfo E).run P w = .ok i w := fun w => by simp [typeInfo, hi]
    have hf := growslice_fits hc hfit
    have h48 : ¬ (2 ^ 48 < Builtin.nextslicecap (n + m) c * i.bytes) := by rw [hbb]; omega
    have h63' : ¬ (((n + m : Nat) : Int) > IntKind.i64.max ∧ (False ∨ i.bytes = 0)) := by
      rw [IntKind.max_i64]; omega
    refine ⟨(Question.appendCap (n + m) c E).cut (w.tape w.drawn (.appendCap (n + m) c E)), by simp [Question.cut], ?_⟩
    have hch : (choose (.appendCap (n + m) c E)).run P w = .ok ((Question.appendCap (n + m) c E).cut (w.tape w.drawn (.appendCap (n + m) c E))) w.drew := by
      simp [choose, Sem.run, Question.forced]
    generalize (Question.appendCap (n + m) c E).cut (w.tape w.drawn (.appendCap (n + m) c E)) = cap at hch ⊢
    have h63'' : ¬ (((n + m : Nat) : Int) > IntKind.i64.max ∧ i.bytes = 0) := by
      rw [IntKind.max_i64]; omega
    simp only [Builtin.append_, List.getElem?_toArray, List.getElem?_cons_zero, List.getElem?_cons_succ, Sem.run_bind, run_underlying ht w, run_underlying hu w, Result.andThen_ok, run_size hs w, Sem.run_pure, hbeq, Bool.false_eq_true, if_false, hy.lenOf w, Sem.run_ite]
    rw [if_neg (by omega)]
    simp only [Bool.not_false, if_true, Sem.run_bind, hti, Result.andThen_ok, Sem.run_ite, false_or]
    rw [if_neg h63'', if_neg h48]
    simp only [Sem.run_pure, Result.andThen_ok, hch, run_askRoom, hx w.drew rfl, hy.first (P := P) (w' := w.drew) rfl, hzr, run_zeros hzz, newRow, Sem.run_bind, run_newObj]
    congr 2
    congr 2
    apply Array.ext'
    simp
  · simp at hz

theorem run_append_00 {t u ty E : TypeId} {sz : Nat} (ht : P.underlying t = some (.slice E)) (hu : ∃ d, P.underlying u = some d ∧ (∀ k, d ≠ .int k)) (hs : hasSize P E sz = true) {x : Value} {ys : List Value} (hy : News x sz 0 ys w) :
    (Builtin.append_ #[t, u] ty #[.slice none 0 0, x]).run P w = .ok (.slice none 0 0) w := by
  obtain ⟨d, hu, hd⟩ := hu
  simp only [Builtin.append_, List.getElem?_toArray, List.getElem?_cons_zero, List.getElem?_cons_succ, Sem.run_bind, run_underlying ht w, run_underlying hu w, Result.andThen_ok, run_size hs w, Sem.run_pure, Bool.false_eq_true, if_false, hy.lenOf w, Sem.run_ite]
  rw [if_pos (Nat.le_refl _)]
  simp only [Bool.not_false, if_true, hy.first (P := P) rfl, Result.andThen_ok]

/-- APPEND TO A SLICE THAT IS HELD. -/
theorem ef_ap {E : TypeId} {sz bytes : Nat} {z : ZZ} {x y : Operand} {v u : Value} {n m : Nat} {xs ys : List Value} (hS : St w0 S0 w L) (i : Nat) (hi : L[i]? = some (row v E sz n xs)) (hx : ev T x = some v) (hy : ev T y = some u) (hu : News u sz m ys w)
    (h1 : ys.all (·.oneCell') = true) (hfit : (n + m) * bytes ≤ 140737488355328) (h63 : n + m ≤ 9223372036854775807)
    (h : ∀ v' w', St w0 S0 w' (L.set i (row v' E sz (n + m) (xs ++ ys))) → K v' w') : Ef P r (.ap E sz bytes z x y) T w K := by
  refine ef_run ?_
  rintro ⟨dst, op, ty, pos, after, guard⟩ ρ hc ha
  cases op <;> simp only [chkO, Bool.false_eq_true, Bool.and_eq_true] at hc
  rename_i c
  obtain ⟨⟨⟨hb, he⟩, hc⟩, hd⟩ := hc
  obtain ⟨cs, hr⟩ := run_builtin (P := P) hb ρ ⟨dst, .call c, ty, pos, after, guard⟩ rfl
  have he := oeqs_eq he
  simp only [hr, ← he, List.map_cons, List.map_nil, ha.2 _ (by simp [MK.ops]) _ hx, ha.2 _ (by simp [MK.ops]) _ hy]
  split at hc
  · rename_i t ht
    split at hc
    · rename_i e hu'
      simp only [Bool.and_eq_true, decide_eq_true_eq] at hc
      obtain ⟨⟨⟨⟨rfl, hs⟩, hby⟩, hz⟩, hzl⟩ := hc
      split at hd
      · rename_i t2 ht2
        have hd' : ∃ d, P.underlying t2 = some d ∧ (∀ k, d ≠ .int k) := by
          split at hd
          · rename_i e2 h2; exact ⟨_, h2, fun k e => by cases e⟩
          · rename_i h2; exact ⟨_, h2, fun k e => by cases e⟩
          · simp at hd
        have hty : ∀ vs : Array Value, (Builtin.append_ c.argTypes ty vs).run P w = (Builtin.append_ #[t, t2] ty vs).run P w := by
          intro vs
          simp only [Builtin.append_, ht, ht2]
          rfl
        simp only [builtin, Sem.run_bind, hty]
        have ho : Ow v e sz n xs w := hS.ok i _ hi
        have hln := hu.len
        rcases ho with ⟨rfl, rfl, rfl⟩ | ⟨b, cap, rest, rfl, hn, hxl, hl, hblk⟩
        · by_cases hm : m = 0
          · subst hm
            have hys : ys = [] := List.length_eq_zero_iff.1 (by simpa using hln)
            subst hys
            refine ⟨.slice none 0 0, w, ?_, h _ _ ?_⟩
            · rw [run_append_00 (P := P) (w := w) (ty := ty) hu' hd' hs hu]; rfl
            · have hset : L.set i (row (.slice none 0 0) e sz (0 + 0) ([] ++ [])) = L := by
                apply List.ext_getElem?
                intro j
                by_cases e' : j = i
                · subst e'; rw [List.getElem?_set_self (List.getElem?_eq_some_iff.1 hi).1, hi]; rfl
                · rw [List.getElem?_set_ne (fun e2 => e' e2.symm)]
              rw [hset]; exact hS
          · obtain ⟨cap, hcap, hrun⟩ := run_append_gr (P := P) (w := w) (ty := ty) (a := none) (n := 0) (m := m) (c := 0) (x := u) (xs := []) (ys := ys) hu' hd' hs hby hz (fun w' _ => rfl) hu (by omega) hfit h63
            refine ⟨_, _, by rw [hrun]; rfl, h _ _ ?_⟩
            refine hS.turn hi (drew_alloc w _ _) (fun b hb => .inr (by have : b = w.heap.size := hb; omega)) (fun b hb => by have : b = w.heap.size := hb; rw [alloc_size]; show _ < w.heap.size + 1; omega) ?_
            refine .inr ⟨w.heap.size, cap, rep (cap - (0 + m)) z, rfl, hcap, by simp [hln], ?_, ?_⟩
            · simp only [List.length_append, List.nil_append, hln, rep_length, hzl, Nat.zero_add]
              rw [← Nat.add_mul]; congr 1; omega
            · exact Blk.alloc (w := w.drew) _ _
        · by_cases hc' : n + m ≤ cap
          · have hrun := run_append_in (P := P) (w := w) (ty := ty) hu' hd' hs hxl hl hblk hu h1 hc'
            have hm := Nat.mul_le_mul_right sz hc'
            rw [Nat.add_mul] at hm
            have hlen : (xs ++ ys ++ rest.drop (m * sz)).length = (xs ++ rest).length := by
              simp only [List.length_append, List.length_drop] at hl ⊢
              omega
            refine ⟨_, _, by rw [hrun]; rfl, h _ _ ?_⟩
            refine hS.turn hi (fr_setB w b _) (fun b' hb' => .inl hb') (fun b' hb' => by have : b' = b := hb'; subst this; rw [setB_size]; exact hblk.lt) ?_
            exact .inr ⟨b, cap, rest.drop (m * sz), rfl, hc', by rw [List.length_append, hxl, hln, Nat.add_mul], by rw [hlen, hl], hblk.set hlen⟩
          · obtain ⟨cap', hcap, hrun⟩ := run_append_gr (P := P) (w := w) (ty := ty) (a := some ⟨b, 0, none⟩) (n := n) (m := m) (c := cap) (x := u) (xs := xs) (ys := ys) hu' hd' hs hby hz
              (fun w' hw' => by
                have hb' : Blk w' b (xs ++ rest) e := hblk.same (by rw [hw'])
                have := run_cells (P := P) (n := n * sz) hb'.r (off := 0) (by simp; omega)
                rw [List.drop_zero, ← hxl, List.take_left, hxl] at this
                exact this) hu (by omega) hfit h63
            refine ⟨_, _, by rw [hrun]; rfl, h _ _ ?_⟩
            refine hS.turn hi (drew_alloc w _ _) (fun b hb => .inr (by have : b = w.heap.size := hb; omega)) (fun b hb => by have : b = w.heap.size := hb; rw [alloc_size]; show _ < w.heap.size + 1; omega) ?_
            refine .inr ⟨w.heap.size, cap', rep (cap' - (n + m)) z, rfl, hcap, by rw [List.length_append, hxl, hln, Nat.add_mul], ?_, ?_⟩
            · simp only [List.length_append, hln, hxl, rep_length, hzl]
              rw [← Nat.add_mul, ← Nat.add_mul]; congr 1; omega
            · exact Blk.alloc (w := w.drew) _ _
      · simp at hd
    · simp at hc
  · simp at hc

end Go.En
