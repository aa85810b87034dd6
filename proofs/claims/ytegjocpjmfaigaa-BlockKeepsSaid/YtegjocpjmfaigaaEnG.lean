/- Copy, text to bytes, calls; a row taken as cells and back. -/
import Derived.Test.YtegjocpjmfaigaaEnF
set_option linter.unusedSimpArgs false
set_option linter.unusedVariables false
namespace Go.En
variable {P : Program} {r : Option Nat} {T : TT} {w w0 : World} {S0 : Nat → Prop} {L : List Res} {K : Value → World → Prop}

theorem News.take {v : Value} {sz m : Nat} {xs : List Value} (h : News v sz m xs w) {k : Nat} (hk : k ≤ m) : (Builtin.firstCells sz k v).run P w = .ok ⟨xs.take (k * sz)⟩ w := by
  rcases h with ⟨E, ⟨⟨a, rfl⟩, rfl, rfl⟩ | ⟨b, off, cap, l, rfl, hn, hl, rfl, hb⟩⟩ | ⟨s, rfl, rfl, rfl, rfl⟩
  · have : k = 0 := by omega
    subst this
    cases a <;> simp [Builtin.firstCells, loadCells, loadCellsFrom]
  · have h1 := Nat.mul_le_mul_right sz hn
    have h2 := Nat.mul_le_mul_right sz hk
    have := run_cells (P := P) (n := k * sz) hb (off := off) (by omega)
    rw [List.take_take, Nat.min_eq_left h2]
    exact this
  · simp only [Builtin.firstCells, Sem.run_pure]
    congr 1
    apply Array.ext'
    have h3 : k ≤ s.size := by rw [Array.length_toList] at hk; exact hk
    simp [bys, ByteArray.data_extract, List.map_take]

theorem News.same_of {v : Value} {sz m : Nat} {xs : List Value} {w' : World} (h : News v sz m xs w) (hs : ∀ b, vb v b → w'.heap[b]? = w.heap[b]?) : News v sz m xs w' := by
  rcases h with ⟨E, h⟩ | h
  · exact .inl ⟨E, h.same hs⟩
  · exact .inr h

/-- COPY INTO A BLOCK THAT IS HELD. -/
theorem ef_cp {sz : Nat} {x y : Operand} {b off n c m : Nat} {l : List Value} {E : TypeId} {u : Value} {ys : List Value} (hS : St w0 S0 w L) (i : Nat) (hi : L[i]? = some (cel b l E)) (hx : ev T x = some (.slice (some ⟨b, off, none⟩) n c)) (hy : ev T y = some u)
    (hu : News u sz m ys w) (hl : off + n * sz ≤ l.length) (h1 : ys.all (·.oneCell') = true) (h : ∀ w', St w0 S0 w' (L.set i (cel b (spl l off (ys.take (min m n * sz))) E)) → K (.int .i64 (min m n : Nat)) w') : Ef P r (.cp sz x y) T w K := by
  refine ef_run ?_
  rintro ⟨dst, op, ty, pos, after, guard⟩ ρ hc ha
  cases op <;> simp only [chkO, Bool.false_eq_true, Bool.and_eq_true] at hc
  rename_i c
  obtain ⟨⟨hb, he⟩, hc⟩ := hc
  obtain ⟨cs, hr⟩ := run_builtin (P := P) hb ρ ⟨dst, .call c, ty, pos, after, guard⟩ rfl
  have he := oeqs_eq he
  simp only [hr, ← he, List.map_cons, List.map_nil, ha.2 _ (by simp [MK.ops]) _ hx, ha.2 _ (by simp [MK.ops]) _ hy]
  split at hc
  · rename_i t ht
    split at hc
    · rename_i e hu'
      have hk : min m n ≤ m := Nat.min_le_left _ _
      have hk2 : min m n ≤ n := Nat.min_le_right _ _
      have g1 := Nat.mul_le_mul_right sz hk
      have g2 := Nat.mul_le_mul_right sz hk2
      have hlen : (ys.take (min m n * sz)).length = min m n * sz := by rw [List.length_take, hu.len]; omega
      have hst := run_stores (P := P) (off := off) (b := b) (E := E) (ys.take (min m n * sz)) 0 l w (hS.b i hi) (by rw [hlen]; omega) (by
        rw [List.all_eq_true] at h1 ⊢
        exact fun v hv => h1 v (List.mem_of_mem_take hv))
      have ht2 : c.argTypes.size ≠ 0 := by
        intro e0
        have : c.argTypes[0]? = none := Array.getElem?_eq_none (by omega)
        rw [this] at ht; cases ht
      refine ⟨_, _, ?_, h _ (hS.set i hi _ (spl_length (by rw [hlen]; omega)))⟩
      have hfc := hu.take (P := P) hk
      simp only [builtin, Sem.run_bind, Builtin.copy_, ht, List.getElem?_toArray, List.getElem?_cons_zero, List.getElem?_cons_succ, run_underlying hu' w, Result.andThen_ok, hu.lenOf w, run_size hc w, show Nat.min m n = min m n from rfl, hfc, hst, Nat.add_zero, Sem.run_pure, goInt]
    · simp at hc
  · simp at hc

theorem ef_sb {E : TypeId} {x : Operand} {s : ByteArray} (hS : St w0 S0 w L) (hx : ev T x = some (.string s)) (h : ∀ v w', St w0 S0 w' (L ++ [row v E 1 s.data.toList.length (bys s.data.toList)]) → (∃ a n c, v = .slice (some a) n c) → K v w') : Ef P r (.sb E x) T w K := by
  refine ef_run ?_
  rintro ⟨dst, op, ty, pos, after, guard⟩ ρ hc ha
  cases op <;> simp only [chkO, Bool.false_eq_true, Bool.and_eq_true] at hc
  rename_i src dstT y
  obtain ⟨⟨e1, h2⟩, h3⟩ := hc
  have e1 := oeq_eq e1; subst e1
  split at h2
  · rename_i hs
    split at h3
    · rename_i e hu
      simp only [Bool.and_eq_true, decide_eq_true_eq] at h3
      obtain ⟨rfl, h3⟩ := h3
      split at h3
      · rename_i he
        have hcap : s.size ≤ grownCap w s.size 0 e := grownCap_ge w _ _ _
        have hr := run_bytes_of_string (P := P) w src dstT e s hs hu he
        generalize grownCap w s.size 0 e = cap at hcap hr
        have hsz : s.data.toList.length = s.size := by rw [Array.length_toList]; rfl
        have hrow : bytesRow s cap = ⟨bys s.data.toList ++ List.replicate (cap - s.size) (.int .u8 0)⟩ := by
          apply Array.ext'
          simp [bytesRow, bys]
        rw [hrow] at hr
        refine ⟨_, _, by simp only [execOp, ha.2 _ (by simp [MK.ops]) _ hx, Sem.run_bind, hr, Result.andThen_ok, Sem.run_pure]; rfl, h _ _ ?_ ⟨_, _, _, rfl⟩⟩
        refine hS.new (drew_alloc w _ _) (fun b hb => by have : b = w.heap.size := hb; omega) (fun b hb => by have : b = w.heap.size := hb; rw [alloc_size]; show _ < w.heap.size + 1; omega) ?_
        refine .inr ⟨w.heap.size, cap, List.replicate (cap - s.size) (.int .u8 0), by rw [hsz], by omega, by simp, by simp; omega, ?_⟩
        refine ⟨_, by show (w.heap.push _)[w.heap.size]? = _; simp; rfl, .inr ?_⟩
        simp
      · simp at h3
    · simp at h3
  · simp at h2

/-- A row that is held, taken as a block of cells. -/
theorem St.open_row (hS : St w0 S0 w L) {v : Value} {E sz n : Nat} {xs : List Value} (i : Nat) (hi : L[i]? = some (row v E sz n xs)) (hv : ∃ a m c, v = .slice (some a) m c) :
    ∃ b cap rest, v = .slice (some ⟨b, 0, none⟩) n cap ∧ n ≤ cap ∧ (xs ++ rest).length = cap * sz ∧ St w0 S0 w (L.set i (cel b (xs ++ rest) E)) := by
  obtain ⟨a, m, c, rfl⟩ := hv
  rcases hS.ok i _ hi with ⟨h, _⟩ | ⟨b, cap, rest, h, hn, hx, hl, hb⟩
  · cases h
  · cases h
    refine ⟨b, _, rest, rfl, hn, hl, hS.turn hi (Fr.refl _ _) (fun b' hb' => .inl hb') (fun b' hb' => by have : b' = b := hb'; subst this; exact hb.lt) hb⟩
theorem St.close_row (hS : St w0 S0 w L) {b E sz n cap : Nat} {l xs : List Value} (i : Nat) (hi : L[i]? = some (cel b l E)) (hn : n ≤ cap) (hx : xs.length = n * sz) (hp : xs <+: l) (hl : l.length = cap * sz) :
    St w0 S0 w (L.set i (row (.slice (some ⟨b, 0, none⟩) n cap) E sz n xs)) := by
  obtain ⟨rest, rfl⟩ := hp
  exact hS.turn hi (Fr.refl _ _) (fun b' hb' => .inl hb') (fun b' hb' => by have : b' = b := hb'; subst this; exact (hS.b i hi).lt) (.inr ⟨b, cap, rest, rfl, hn, hx, hl, hS.b i hi⟩)

/-- A CALL OF A NAMED FUNCTION. -/
theorem ef_cl {f : FuncId} {args : List Operand} {vs : List Value} (hx : evs T args = some vs) (h : Calls P f ⟨vs⟩ w fun e w' => ∃ v, e = .returned v ∧ K v w') : Ef P r (.cl f args) T w K := by
  rintro ⟨dst, op, ty, pos, after, guard⟩ a next Q hc ha hn
  refine ⟨about_true, ?_⟩
  rw [Oper.semAt_eq _ _ _ (chk_nd hc)]
  cases op <;> simp only [chkO, Bool.false_eq_true] at hc
  rename_i c
  split at hc
  · rename_i g hg
    simp only [Bool.and_eq_true, decide_eq_true_eq] at hc
    obtain ⟨⟨rfl, he⟩, hc⟩ := hc
    have he := oeqs_eq he
    split at hc
    · rename_i fn hf
      simp only [Bool.and_eq_true, Bool.not_eq_true'] at hc
      have hval : a.eval (.func f) = .func (.func f) #[] #[] := rfl
      have hargs : c.args.map a.eval = ⟨vs⟩ := by
        rw [map_arr, ← he, evs_map (fun x hx => ha.2 x (by simp [MK.ops]; exact hx)) hx]
      have hrun : (execOp a.eval ⟨dst, .call c, ty, pos, after, guard⟩).run P w = .ok (.enter f ⟨vs⟩) w := by
        have hb : fn.body.isNone = false := by cases hfb : fn.body <;> simp [hfb] at hc ⊢
        simp only [execOp, resolve, hg, Sem.run_bind, Sem.run_pure, Deferred.ofValue, hval, hargs, invoke, callFunc, run_program, Result.andThen_ok, hf, hc.2, hb, Bool.false_eq_true, if_false]
        simp
      rw [hrun]
      refine ⟨fun h => by simp [FW, Fence.wide] at h, ?_⟩
      refine (callsIn_wide (n := 0 - 1)).2 (Calls.mono h ?_)
      rintro e w' ⟨v, rfl, hk⟩
      exact hn v w' hk
    · simp at hc
  · simp at hc

/-- A CALL OF A FUNCTION VALUE. -/
theorem ef_cv {x : Operand} {f : FuncId} {first cap : List Value} {args : List Operand} {vs : List Value} (hv : ev T x = some (.func (.func f) ⟨first⟩ ⟨cap⟩)) (hx : evs T args = some vs) (hf : ∀ (args : Array Value) (w : World), (callFunc f args).run P w = .ok (.enter f args) w)
    (h : Calls P f ⟨first ++ vs ++ cap⟩ w fun e w' => ∃ v, e = .returned v ∧ K v w') : Ef P r (.cv x args) T w K := by
  rintro ⟨dst, op, ty, pos, after, guard⟩ a next Q hc ha hn
  refine ⟨about_true, ?_⟩
  rw [Oper.semAt_eq _ _ _ (chk_nd hc)]
  cases op <;> simp only [chkO, Bool.false_eq_true] at hc
  rename_i c
  split at hc
  · rename_i g hg
    simp only [Bool.and_eq_true] at hc
    obtain ⟨e1, he⟩ := hc
    have e1 := oeq_eq e1
    have he := oeqs_eq he
    have hval : a.eval (.tmp g) = .func (.func f) ⟨first⟩ ⟨cap⟩ := by rw [← e1]; exact ha.2 _ (by simp [MK.ops]) _ hv
    have hargs : c.args.map a.eval = ⟨vs⟩ := by
      rw [map_arr, ← he, evs_map (fun x hx => ha.2 x (by simp [MK.ops]; exact .inr hx)) hx]
    have hrun : (execOp a.eval ⟨dst, .call c, ty, pos, after, guard⟩).run P w = .ok (.enter f ⟨first ++ vs ++ cap⟩) w := by
      simp only [execOp, resolve, hg, Sem.run_bind, Sem.run_pure, Deferred.ofValue, hval, hargs, invoke, Result.andThen_ok, hf]
      simp
    rw [hrun]
    refine ⟨fun h => by simp [FW, Fence.wide] at h, ?_⟩
    refine (callsIn_wide (n := 0 - 1)).2 (Calls.mono h ?_)
    rintro e w' ⟨v, rfl, hk⟩
    exact hn v w' hk
  · simp at hc
theorem callFunc_of {f : FuncId} {fn : Func} {c : Code} (hf : P.funcs[f]? = some fn) (hb : fn.body = some c) (hn : (fn.name == "runtime.NumGoroutine") = false) (args : Array Value) (w : World) : (callFunc f args).run P w = .ok (.enter f args) w := by
  simp only [callFunc, Sem.run_bind, run_program, Result.andThen_ok, hf, hn, hb, Bool.false_eq_true, if_false, Option.isNone_some, Sem.run_pure]

end Go.En
