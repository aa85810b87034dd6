/- Operations that turn the world: what is asked of each, and what it leaves. -/
import Derived.Test.YtegjocpjmfaigaaEnD
set_option linter.unusedSimpArgs false
set_option linter.unusedVariables false
namespace Go.En

abbrev FW (r : Option Nat) : Fence := { Fence.wide with round := r }

theorem about_true {r : Option Nat} {P : Program} {o : Oper} {w : World} {ρ : Operand → Value} : ∀ f, o.about P w ρ = some f → (FW r).fn f := fun _ _ => trivial

/-- An operation, whatever it does: behind it K holds of what it yields and of the world. -/
def Ef (P : Program) (r : Option Nat) (m : MK) (T : TT) (w : World) (K : Value → World → Prop) : Prop :=
  ∀ (o : Oper) (a : Act) (next : Act → World → Prop) (Q : Exit → Act → World → Prop), chkO P o.op o.type m = true → Ag T m.ops a.eval →
    (∀ v w', K v w' → next (a.put o.dst v) w') → o.wpIn (FW r) 0 P a w next Q

variable {P : Program} {r : Option Nat} {T : TT} {w w0 : World} {S0 : Nat → Prop} {L : List Res} {K : Value → World → Prop}

theorem chk_nd {o : Op} {ty : TypeId} {m : MK} (h : chkO P o ty m = true) : ∀ c, o ≠ .defer c := by
  intro c e
  subst e
  cases m <;> simp [chkO] at h

theorem ef_run {m : MK} (h : ∀ (o : Oper) (ρ : Operand → Value), chkO P o.op o.type m = true → Ag T m.ops ρ → ∃ v w', (execOp ρ o).run P w = .ok (.value v) w' ∧ K v w') : Ef P r m T w K := by
  intro o a next Q hc ha hn
  obtain ⟨v, w', hr, hk⟩ := h o a.eval hc ha
  refine ⟨about_true, ?_⟩
  rw [Oper.semAt_eq _ _ _ (chk_nd hc), hr]
  exact hn _ _ hk
theorem ef_skip {m : MK} (h : ∀ (o : Oper) (ρ : Operand → Value), chkO P o.op o.type m = true → Ag T m.ops ρ → ∃ w', (execOp ρ o).run P w = .ok .skip w' ∧ K undef w') : Ef P r m T w K := by
  intro o a next Q hc ha hn
  obtain ⟨w', hr, hk⟩ := h o a.eval hc ha
  refine ⟨about_true, ?_⟩
  rw [Oper.semAt_eq _ _ _ (chk_nd hc), hr]
  exact hn _ _ hk
theorem ef_qt {m : MK} {v : Value} (h : Qt P m T w v) (hk : K v w) : Ef P r m T w K := ef_run fun o ρ hc ha => ⟨v, w, h o ρ hc ha, hk⟩

/-- bytes as cells -/
def bys (bs : List UInt8) : List Value := bs.map fun b => .int .u8 (b.toNat : Int)
@[simp] theorem bys_length (bs : List UInt8) : (bys bs).length = bs.length := by simp [bys]
theorem bys_append (a b : List UInt8) : bys (a ++ b) = bys a ++ bys b := by simp [bys]

theorem qt_bs {x : Operand} {b off n c : Nat} {l : List Value} {E : TypeId} {bs : List UInt8} (hx : ev T x = some (.slice (some ⟨b, off, none⟩) n c)) (hb : Blr w b l E) (hn : off + n ≤ l.length) (hl : (l.drop off).take n = bys bs) :
    Qt P (.bs x) T w (.string ⟨bs.toArray⟩) := by
  rintro ⟨dst, op, ty, pos, after, guard⟩ ρ hc ha
  cases op <;> simp only [chkO, Bool.false_eq_true, Bool.and_eq_true] at hc
  obtain ⟨e1, hc⟩ := hc
  have e1 := oeq_eq e1; subst e1
  split at hc
  · rename_i e hs hd
    split at hc
    · rename_i he
      have hld : (loadCells ⟨b, off, none⟩ n).run P w = .ok ((bs.map fun b => (b.toNat : Int)).map (Value.int .u8)).toArray w := by
        rw [run_cells hb hn, hl]; simp [bys]
      simp only [execOp, ha.2 _ (by simp [MK.ops]) _ hx, Sem.run_bind, run_convert_bytes_string w _ _ _ _ _ _ hs he hd, run_bytesToString w _ _ _ _ hld, Result.andThen_ok]
      simp only [foldl_push_byteCells]
      simp
    · simp at hc
  · simp at hc
theorem qt_bs0 {x : Operand} {a : Option Addr} {c : Nat} (hx : ev T x = some (.slice a 0 c)) : Qt P (.bs x) T w (.string ⟨([] : List UInt8).toArray⟩) := by
  rintro ⟨dst, op, ty, pos, after, guard⟩ ρ hc ha
  cases op <;> simp only [chkO, Bool.false_eq_true, Bool.and_eq_true] at hc
  obtain ⟨e1, hc⟩ := hc
  have e1 := oeq_eq e1; subst e1
  split at hc
  · rename_i e hs hd
    split at hc
    · rename_i he
      simp only [execOp, ha.2 _ (by simp [MK.ops]) _ hx, Sem.run_bind, run_convert_bytes_string w _ _ _ _ _ _ hs he hd, Conv.bytesToString]
      cases a <;> rfl
    · simp at hc
  · simp at hc

theorem alloc_eq (w : World) (o : Obj) : ({ w with heap := w.heap.push o } : World) = w.alloc o := rfl
theorem ef_al {z : ZZ} {E : TypeId} (hS : St w0 S0 w L) (h : ∀ b w', St w0 S0 w' (L ++ [cel b (zx z) E]) → K (.pointer (some ⟨b, 0, none⟩)) w') : Ef P r (.al z E) T w K := by
  refine ef_run ?_
  rintro ⟨dst, op, ty, pos, after, guard⟩ ρ hc ha
  cases op <;> simp only [chkO, Bool.false_eq_true, Bool.and_eq_true, decide_eq_true_eq] at hc
  obtain ⟨rfl, hz⟩ := hc
  obtain ⟨v, hv, hl⟩ := zeroIs_run hz w
  refine ⟨_, w.alloc (.cells ⟨zx z⟩ E), ?_, h _ _ (hS.alloc (zx z) E)⟩
  have e : v.cells = ⟨zx z⟩ := by rw [← hl]
  simp only [execOp, Instr.alloc, Sem.run_bind, hv, Result.andThen_ok, newVar, newRow, run_newObj, Sem.run_pure, e]
  rfl
theorem ef_bx {x : Operand} {E : TypeId} {v : Value} (hS : St w0 S0 w L) (hx : ev T x = some v) (h : ∀ b w', St w0 S0 w' (L ++ [cel b v.cells.toList E]) → K (.pointer (some ⟨b, 0, none⟩)) w') : Ef P r (.bx E x) T w K := by
  refine ef_run ?_
  rintro ⟨dst, op, ty, pos, after, guard⟩ ρ hc ha
  cases op <;> simp only [chkO, Bool.false_eq_true, Bool.and_eq_true, decide_eq_true_eq] at hc
  obtain ⟨rfl, e1⟩ := hc
  have e1 := oeq_eq e1; subst e1
  refine ⟨_, w.alloc (.cells ⟨v.cells.toList⟩ E), ?_, h _ _ (hS.alloc v.cells.toList E)⟩
  simp only [execOp, Instr.box, ha.2 _ (by simp [MK.ops]) _ hx, Sem.run_bind, Result.andThen_ok, newVar, newRow, run_newObj, Sem.run_pure]
  rfl

theorem spl_length {l vs : List Value} {off : Nat} (h : off + vs.length ≤ l.length) : (spl l off vs).length = l.length := by simp [spl]; omega
theorem spl_get_in {l vs : List Value} {off j : Nat} (h : off + vs.length ≤ l.length) (hj : j < vs.length) : (spl l off vs)[off + j]? = vs[j]? := by
  unfold spl
  rw [List.append_assoc, List.getElem?_append_right (by simp; omega), List.getElem?_append_left (by simp; omega)]
  congr 1; simp; omega
theorem setB_self {w : World} {b : Nat} {l : List Value} {E : TypeId} (h : Blk w b l E) : setB w b l = w := by
  obtain ⟨fr, h, _⟩ := h
  have hh : w.heap.modify b (oset l) = w.heap := by
    apply Array.ext
    · simp
    · intro i h1 h2
      simp only [Array.getElem_modify]
      split
      · rename_i e; subst e
        have := (Array.getElem?_eq_some_iff.1 h).2
        rw [this]; rfl
      · rfl
  unfold setB
  rw [hh]
theorem oset_oset (l l' : List Value) (o : Obj) : oset l' (oset l o) = oset l' o := by cases o <;> rfl
theorem setB_setB (w : World) (b : Nat) (l l' : List Value) : setB (setB w b l) b l' = setB w b l' := by
  unfold setB
  congr 1
  apply Array.ext
  · simp
  · intro i h1 h2
    simp only [Array.getElem_modify]
    split <;> simp [oset_oset]
theorem spl_step (l vs : List Value) (k : Nat) (v : Value) (h : k + (vs.length + 1) ≤ l.length) : spl (l.set k v) (k + 1) vs = spl l k (v :: vs) := by
  unfold spl
  have h1 : (l.set k v).take (k + 1) = l.take k ++ [v] := by
    rw [List.take_succ_eq_append_getElem (by simp; omega), List.take_set_of_le (Nat.le_refl _)]
    simp
  rw [h1, List.drop_set_of_lt (by omega)]
  simp
  omega
theorem run_store1 {b i : Nat} {l : List Value} {E : TypeId} {v : Value} (hb : Blk w b l E) (hi : i < l.length) (hv : v.oneCell' = true) : (store ⟨b, i, none⟩ v).run P w = .ok () (setB w b (l.set i v)) := by
  have hc : w.cell? ⟨b, i, none⟩ = some l[i] := by rw [hb.cell]; simp [hi]
  have hf := hb.free hi
  have e : w.setCell ⟨b, i, none⟩ v = setB w b (l.set i v) := by
    obtain ⟨fr, h, _⟩ := hb
    unfold World.setCell setB
    congr 1
    apply Array.ext
    · simp
    · intro j h1 h2
      simp only [Array.getElem_modify]
      split
      · rename_i e; subst e
        have := (Array.getElem?_eq_some_iff.1 h).2
        rw [this]
        simp [oset]
      · rfl
  rw [← e, run_store P w ⟨b, i, none⟩ v .plain hv]
  simp [hc, hf]
theorem run_stores {b off : Nat} {E : TypeId} : ∀ (vs : List Value) (i : Nat) (l : List Value) (w : World), Blk w b l E → off + i + vs.length ≤ l.length → vs.all (·.oneCell') = true →
    (storeCells ⟨b, off, none⟩ vs i).run P w = .ok () (setB w b (spl l (off + i) vs))
  | [], i, l, w, hb, _, _ => by simp [storeCells, spl, setB_self hb]
  | v :: vs, i, l, w, hb, hl, hv => by
    simp only [List.all_cons, Bool.and_eq_true] at hv
    simp only [List.length_cons] at hl
    have h1 := run_store1 (P := P) (v := v) hb (show off + i < l.length by omega) hv.1
    have h2 := run_stores (off := off) vs (i + 1) (l.set (off + i) v) (setB w b (l.set (off + i) v)) (hb.set (by simp)) (by simp; omega) hv.2
    simp only [storeCells, Sem.run_bind, add_plain, h1, Result.andThen_ok, h2, setB_setB]
    rw [show off + (i + 1) = off + i + 1 from by omega, spl_step _ _ _ _ (by omega)]

theorem ef_st {x v : Operand} {n b off : Nat} {l : List Value} {E : TypeId} {u : Value} (hS : St w0 S0 w L) (i : Nat) (hi : L[i]? = some (cel b l E)) (hx : ev T x = some (.pointer (some ⟨b, off, none⟩))) (hv : ev T v = some u)
    (hn : u.cells.toList.length = n) (hl : off + n ≤ l.length) (h1 : u.cells.toList.all (·.oneCell') = true) (h : ∀ w', St w0 S0 w' (L.set i (cel b (spl l off u.cells.toList) E)) → K undef w') : Ef P r (.st x v n) T w K := by
  refine ef_skip ?_
  rintro ⟨dst, op, ty, pos, after, guard⟩ ρ hc ha
  cases op <;> simp only [chkO, Bool.false_eq_true, Bool.and_eq_true] at hc
  obtain ⟨⟨e1, e2⟩, hs⟩ := hc
  have e1 := oeq_eq e1; have e2 := oeq_eq e2; subst e1 e2
  subst hn
  refine ⟨_, ?_, h _ (hS.set i hi (spl l off u.cells.toList) (spl_length hl))⟩
  have hr := run_stores (P := P) (off := off) u.cells.toList 0 l w (hS.b i hi) (by omega) h1
  simp only [execOp, ha.2 _ (by simp [MK.ops]) _ hx, ha.2 _ (by simp [MK.ops]) _ hv, Instr.storeAt, storeVar, Instr.sureAddr, Sem.run_bind, Sem.run_pure, Result.andThen_ok, run_size hs w, Sem.run_ite]
  rw [if_neg (by simp)]
  simp only [Result.andThen_ok, hr, Nat.add_zero]

/-- elements put together -/
def evcs (T : TT) (sz : Nat) : List Operand → Option (List Value)
  | [] => some []
  | x :: l => match ev T x, evcs T sz l with
    | some v, some r => match Nat.beq v.cells.toList.length sz with | true => some (v.cells.toList ++ r) | false => none
    | _, _ => none

theorem foldl_set (vs : List Value) (off : Nat) : ∀ (k : Nat) (l : Array Value), off + k + vs.length ≤ l.size →
    ((vs.zipIdx k).foldl (fun (cs : Array Value) (p : Value × Nat) => cs.setIfInBounds (off + p.2) p.1) l).toList = spl l.toList (off + k) vs := by
  induction vs with
  | nil => intro k l _; simp [spl]
  | cons v vs ih =>
    intro k l hl
    simp only [List.length_cons] at hl
    simp only [List.zipIdx_cons, List.foldl_cons]
    rw [ih (k + 1) _ (by simp; omega)]
    rw [Array.toList_setIfInBounds, show off + (k + 1) = off + k + 1 from by omega, spl_step _ _ _ _ (by simp; omega)]
theorem foldl_set' (vs : Array Value) (off : Nat) (l : Array Value) (h : off + vs.size ≤ l.size) :
    (vs.zipIdx.foldl (fun (cs : Array Value) (p : Value × Nat) => cs.setIfInBounds (off + p.2) p.1) l).toList = spl l.toList off vs.toList := by
  have := foldl_set vs.toList off 0 l (by simpa using h)
  rw [Nat.add_zero] at this
  rw [← this]
  congr 1
  rw [← Array.foldl_toList]
  simp

theorem fill_row {ρ : Operand → Value} {sz : Nat} : ∀ (xs : List Operand) (k : Nat) (rs : List Value) (cs : Array Value), (∀ x ∈ xs, ∀ v, ev T x = some v → ρ x = v) → evcs T sz xs = some rs → k * sz + rs.length ≤ cs.size →
    ∃ out, Instr.fill (fun i => some (i * sz, sz)) cs ((xs.zipIdx k).map fun p => (p.2, ρ p.1)) = some out ∧ out.toList = spl cs.toList (k * sz) rs
  | [], k, rs, cs, _, h, _ => by simp [evcs] at h; subst h; exact ⟨cs, rfl, by simp [spl]⟩
  | x :: xs, k, rs, cs, ha, h, hl => by
    unfold evcs at h
    split at h
    · rename_i v r hv hr
      split at h
      · rename_i hsz
        have hsz : v.cells.toList.length = sz := Nat.eq_of_beq_eq_true hsz
        simp at h; subst h
        simp only [List.length_append, hsz] at hl
        have e := ha x (by simp) v hv
        have hvs : v.cells.size = sz := by simpa using hsz
        have hf := foldl_set' v.cells (k * sz) cs (by omega)
        obtain ⟨out, ho, hl2⟩ := fill_row xs (k + 1) r (v.cells.zipIdx.foldl (fun (cs : Array Value) (p : Value × Nat) => cs.setIfInBounds (k * sz + p.2) p.1) cs) (fun y hy => ha y (by simp [hy])) hr (by
          rw [← Array.length_toList, hf, spl_length (by simp; omega)]; simp; rw [Nat.succ_mul]; omega)
        refine ⟨out, ?_, ?_⟩
        · simp only [List.zipIdx_cons, List.map_cons, Instr.fill, e]
          rw [if_neg (by simp [hvs]; omega)]
          exact ho
        · rw [hl2, hf]
          unfold spl
          have h1 : v.cells.toList.length = sz := hsz
          rw [Nat.succ_mul]
          simp only [List.take_append, List.length_take, List.length_append, h1, Array.length_toList]
          rw [show min (k * sz) cs.size = k * sz from by omega]
          rw [List.take_of_length_le (by simp; omega), List.take_of_length_le (l := v.cells.toList) (by omega), show k * sz + sz - (k * sz + sz) = 0 from by omega]
          simp only [List.take_zero, List.append_nil]
          rw [List.drop_append, List.drop_append, List.drop_eq_nil_of_le (by simp; omega), List.drop_eq_nil_of_le (as := v.cells.toList) (by simp; omega)]
          simp only [List.nil_append, List.length_append, List.length_take, Array.length_toList, h1, List.append_assoc, List.drop_drop]
          congr 3
          congr 1
          omega
      · simp at h
    · simp at h

theorem evcs_len {sz : Nat} : ∀ {xs : List Operand} {rs : List Value}, evcs T sz xs = some rs → rs.length = xs.length * sz
  | [], rs, h => by simp [evcs] at h; subst h; simp
  | x :: xs, rs, h => by
    unfold evcs at h
    split at h
    · rename_i v r hv hr
      split at h
      · rename_i hsz
        have hsz : v.cells.toList.length = sz := Nat.eq_of_beq_eq_true hsz
        simp at h; subst h
        rw [List.length_append, hsz, evcs_len hr, List.length_cons, Nat.succ_mul]; omega
      · simp at h
    · simp at h
theorem zip_range {ρ : Operand → Value} (xs : List Operand) (qs : List (Nat × Operand)) (h1 : xs = qs.map (·.2)) (h2 : qs.map (·.1) = List.range xs.length) :
    (qs.map fun p => (p.1, ρ p.2)) = ((xs.zipIdx 0).map fun p => (p.2, ρ p.1)) := by
  apply List.ext_getElem?
  intro j
  have a1 := congrArg (·[j]?) h1
  have a2 := congrArg (·[j]?) h2
  simp only [List.getElem?_map] at a1 a2
  simp only [List.getElem?_map, List.getElem?_zipIdx, a1]
  cases hq : qs[j]? with
  | none => simp
  | some q =>
    simp only [hq, Option.map_some] at a2 ⊢
    by_cases hj : j < xs.length
    · rw [List.getElem?_range hj] at a2; simp at a2; simp [a2]
    · rw [List.getElem?_eq_none (by simp; omega)] at a2; simp at a2
theorem ef_bl {E : TypeId} {sz : Nat} {xs : List Operand} {rs : List Value} (hS : St w0 S0 w L) (hx : evcs T sz xs = some rs)
    (h : ∀ b w', St w0 S0 w' (L ++ [cel b rs E]) → K (.slice (some ⟨b, 0, none⟩) xs.length xs.length) w') : Ef P r (.bl E sz xs) T w K := by
  refine ef_run ?_
  rintro ⟨dst, op, ty, pos, after, guard⟩ ρ hc ha
  cases op <;> simp only [chkO, Bool.false_eq_true, Bool.and_eq_true, decide_eq_true_eq] at hc
  rename_i t l qs
  obtain ⟨⟨⟨⟨rfl, e1⟩, e2⟩, hle⟩, hc⟩ := hc
  have e1 := oeqs_eq e1
  split at hc
  · rename_i e hu
    simp only [Bool.and_eq_true, decide_eq_true_eq] at hc
    obtain ⟨⟨rfl, hs⟩, hz⟩ := hc
    split at hz
    · rename_i i hi
      obtain ⟨z, hz⟩ := Option.isSome_iff_exists.1 hz
      have hmap : (qs.map fun x => (x.1, ρ x.2)).toList = ((xs.zipIdx 0).map fun p => (p.2, ρ p.1)) := by
        rw [Array.toList_map, zip_range (ρ := ρ) xs qs.toList e1 e2]
      have hlen := evcs_len hx
      have key : ∀ zero : Array Value, ∃ out, Instr.fill (fun i => some (i * sz, sz)) ((Array.range (xs.length * sz)).map (zero[· % zero.size]!)) ((xs.zipIdx 0).map fun p => (p.2, ρ p.1)) = some out ∧ out = ⟨rs⟩ := by
        intro zero
        obtain ⟨out, ho, hl⟩ := fill_row (ρ := ρ) xs 0 rs ((Array.range (xs.length * sz)).map (zero[· % zero.size]!)) (fun x hx' => ha.2 x hx') hx (by simp; omega)
        refine ⟨out, ho, ?_⟩
        apply Array.ext'
        rw [hl]
        simp [spl]
        omega
      refine ⟨_, w.alloc (.cells ⟨rs⟩ e), ?_, h _ _ (hS.alloc rs e)⟩
      by_cases h0 : xs.length * sz = 0
      · obtain ⟨out, ho, hr⟩ := key #[]
        simp only [execOp, Instr.buildSlice, hmap, Sem.run_bind, run_underlying hu w, Result.andThen_ok, run_size hs w, Sem.run_ite]
        rw [if_neg (by omega), if_pos h0]
        simp only [Sem.run_pure, Result.andThen_ok, ho, hr, newRow, Sem.run_bind, run_newObj]
        rfl
      · obtain ⟨out, ho, hr⟩ := key z.cells
        have hzv : (zeroValue e).run P w = .ok z w := by simp [zeroValue, typeInfo, hi, hz]
        simp only [execOp, Instr.buildSlice, hmap, Sem.run_bind, run_underlying hu w, Result.andThen_ok, run_size hs w, Sem.run_ite]
        rw [if_neg (by omega), if_neg h0]
        simp only [Sem.run_bind, hzv, Sem.run_pure, Result.andThen_ok, ho, hr, newRow, run_newObj]
        rfl
    · simp at hz
  · simp at hc

/-- so many zero elements -/
def rep (n : Nat) (z : ZZ) : List Value := (List.replicate n (zx z)).flatten
theorem rep_length (n : Nat) (z : ZZ) : (rep n z).length = n * (zx z).length := by simp [rep]
theorem rep_byte (n : Nat) (v : Value) : rep n [(1, v)] = List.replicate n v := by
  simp [rep, zx]
theorem mod_cells (z : List Value) : ∀ (n : Nat), (Array.range (n * z.length)).toList.map (fun i => (⟨z⟩ : Array Value)[i % (⟨z⟩ : Array Value).size]!) = (List.replicate n z).flatten := by
  intro n
  apply List.ext_getElem?
  intro j
  by_cases hz : z.length = 0
  · have : z = [] := List.length_eq_zero_iff.1 hz
    subst this; simp
  · simp only [List.getElem?_map, Array.toList_range]
    by_cases hj : j < n * z.length
    · rw [List.getElem?_range hj]
      have hm : j % z.length < z.length := Nat.mod_lt _ (by omega)
      have key : ∀ (n j : Nat), j < n * z.length → (List.replicate n z).flatten[j]? = z[j % z.length]? := by
        intro n
        induction n with
        | zero => intro j hj; simp at hj
        | succ n ih =>
          intro j hj
          rw [List.replicate_succ, List.flatten_cons]
          by_cases h : j < z.length
          · rw [List.getElem?_append_left h, Nat.mod_eq_of_lt h]
          · rw [List.getElem?_append_right (by omega), ih _ (by rw [Nat.succ_mul] at hj; omega)]
            congr 1
            rw [← Nat.mod_eq_sub_mod (by omega)]
      rw [key n j hj]
      simp only [Option.map_some, List.size_toArray]
      rw [List.getElem?_eq_getElem hm]
      simp [getElem!_pos, hm]
    · rw [List.getElem?_eq_none (by simp; omega), List.getElem?_eq_none (by simp; omega)]
      rfl
theorem run_zeros {z : Array Value} {zz : ZZ} (h : z.toList = zx zz) (n : Nat) : Builtin.zeroCells z n = ⟨rep n zz⟩ := by
  apply Array.ext'
  obtain ⟨z⟩ := z
  simp only at h
  subst h
  have := mod_cells (zx zz) n
  simp only [Builtin.zeroCells, Array.toList_map]
  exact this
theorem run_made {z : Array Value} {zz : ZZ} (h : z.toList = zx zz) (n : Nat) : madeCells z (n * (zx zz).length) = ⟨rep n zz⟩ := by
  apply Array.ext'
  obtain ⟨z⟩ := z
  simp only at h
  subst h
  have := mod_cells (zx zz) n
  simp only [madeCells, Array.toList_map]
  exact this
theorem ef_ms {E : TypeId} {sz bytes : Nat} {z : ZZ} {x y : Operand} {k j : IntKind} {n c : Int} (hS : St w0 S0 w L) (hx : ev T x = some (.int k n)) (hy : ev T y = some (.int j c)) (h0 : 0 ≤ n) (h1 : n ≤ c) (h2 : (bytes : Int) * c ≤ 281474976710656) (h3 : c ≤ 9223372036854775807)
    (h : ∀ b w', St w0 S0 w' (L ++ [cel b (rep c.toNat z) E]) → K (.slice (some ⟨b, 0, none⟩) n.toNat c.toNat) w') : Ef P r (.ms E sz bytes z x y) T w K := by
  refine ef_run ?_
  rintro ⟨dst, op, ty, pos, after, guard⟩ ρ hc ha
  cases op <;> simp only [chkO, Bool.false_eq_true, Bool.and_eq_true, decide_eq_true_eq] at hc
  obtain ⟨⟨e1, e2⟩, hc⟩ := hc
  have e1 := oeq_eq e1; have e2 := oeq_eq e2; subst e1 e2
  split at hc
  · rename_i e hu
    simp only [Bool.and_eq_true, decide_eq_true_eq] at hc
    obtain ⟨⟨⟨⟨rfl, hs⟩, hb⟩, hz⟩, hl⟩ := hc
    obtain ⟨i, hi, hsz⟩ := hasSize_info hs
    have hbb : i.bytes = bytes := by simp [bytesAre, hi] at hb; exact hb
    simp only [zeroIs, hi] at hz
    split at hz
    · rename_i zv hzv
      have hzz := veqs_eq hz
      have hr := run_make (P := P) w _ e i zv hu hi hzv k j n c h0 h1 (by rw [hbb]; exact h2) h3
      rw [hsz, ← hl, run_made hzz] at hr
      refine ⟨_, w.alloc (.cells ⟨rep c.toNat z⟩ e), ?_, h _ _ (hS.alloc (rep c.toNat z) e)⟩
      simp only [execOp, ha.2 _ (by simp [MK.ops]) _ hx, ha.2 _ (by simp [MK.ops]) _ hy, Sem.run_bind, hr, Result.andThen_ok, Sem.run_pure]
    · simp at hz
  · simp at hc

end Go.En
