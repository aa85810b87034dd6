/- Noughts are appended. -/
import Derived.Test.YtegjocpjmfaigaaEnQ
set_option linter.unusedSimpArgs false
set_option linter.unusedVariables false
namespace Go.En
variable {P : Program} {r : Option Nat} {T : TT} {w w0 : World} {S0 : Nat → Prop} {L : List Res} {K : Value → World → Prop}

theorem run_append_zin {t u ty E : TypeId} {sz bytes : Nat} {z : ZZ} {kk : IntKind} (ht : P.underlying t = some (.slice E)) (hu : P.underlying u = some (.int kk)) (hs : hasSize P E sz = true) (hby : bytesAre P E bytes = true) (hz : zeroIs P E z = true) {b n m c : Nat} {xs rest : List Value}
    (hx : xs.length = n * sz) (hl : (xs ++ rest).length = c * sz) (hb : Blk w b (xs ++ rest) E) (hzl : (zx z).length = sz) (h1 : (rep m z).all (·.oneCell') = true) (hm0 : 0 < m * sz) (hfit : (n + m) * bytes ≤ 140737488355328) (h63 : n + m ≤ 9223372036854775807) (hc : n + m ≤ c) :
    (Builtin.append_ #[t, u] ty #[.slice (some ⟨b, 0, none⟩) n c, .int .i64 m]).run P w = .ok (.slice (some ⟨b, 0, none⟩) (n + m) c) (setB w b (xs ++ rep m z ++ rest.drop (m * sz))) := by
  obtain ⟨i, hi, hsz⟩ := hasSize_info hs
  have hbb : i.bytes = bytes := by simp [bytesAre, hi] at hby; exact hby
  simp only [zeroIs, hi] at hz
  split at hz
  · rename_i zv hzv
    have hzz := veqs_eq hz
    have hzr : ∀ w, (zeroValue E).run P w = .ok zv w := fun w => by simp [zeroValue, typeInfo, hi, hzv]
    have hti : ∀ w, (typeInfo E).run P w = .ok i w := fun w => by simp [typeInfo, hi]
    have hm := Nat.mul_le_mul_right sz hc
    rw [Nat.add_mul] at hm
    have hrl : (rep m z).length = m * sz := by rw [rep_length, hzl]
    have hst := run_stores (P := P) (off := n * sz) (b := b) (E := E) (rep m z) 0 (xs ++ rest) w hb (by rw [hrl]; omega) h1
    have e : spl (xs ++ rest) (n * sz + 0) (rep m z) = xs ++ rep m z ++ rest.drop (m * sz) := by
      unfold spl
      rw [Nat.add_zero, hrl, ← hx, List.take_left, ← List.drop_drop, List.drop_left]
    rw [e] at hst
    have hw : IntKind.i64.wrap (m : Int) = (m : Int) := wrap_in (k := .i64) (in64 (by omega))
    have hai : ∀ w : World, (asInt (Value.int .i64 (m : Int))).run P w = .ok (m : Int) w := fun w => by simp [asInt, asIntOf]
    have h48 : ¬ ((m : Int) * (i.bytes : Int) > 2 ^ 48) := by
      rw [hbb]
      have : m * bytes ≤ (n + m) * bytes := Nat.mul_le_mul_right _ (by omega)
      have h2 : ((m * bytes : Nat) : Int) ≤ 140737488355328 := by omega
      push_cast at h2
      omega
    simp only [Builtin.append_, List.getElem?_toArray, List.getElem?_cons_zero, List.getElem?_cons_succ, Sem.run_bind, run_underlying ht w, run_underlying hu w, Result.andThen_ok, run_size hs w, Sem.run_pure, hai, if_true, Sem.run_ite, hw, hti]
    rw [if_neg (by omega), if_neg h48]
    simp only [Sem.run_pure, Result.andThen_ok, Int.toNat_natCast]
    rw [if_pos hc]
    simp only [Bool.not_true, Bool.false_eq_true, if_false]
    rw [if_neg (by omega)]
    simp only [Sem.run_bind, hzr, Result.andThen_ok, run_zeros hzz, Sem.run_pure, add_plain, Nat.zero_add, hst]
  · simp at hz
theorem run_append_zgr {t u ty E : TypeId} {sz bytes : Nat} {z : ZZ} {kk : IntKind} (ht : P.underlying t = some (.slice E)) (hu : P.underlying u = some (.int kk)) (hs : hasSize P E sz = true) (hby : bytesAre P E bytes = true) (hz : zeroIs P E z = true) {a : Option Addr} {n m c : Nat} {xs : List Value}
    (hx : ∀ w', w'.heap = w.heap → (Builtin.firstCells sz n (.slice a n c)).run P w' = .ok ⟨xs⟩ w') (hm0 : 0 < m * sz) (hc : c < n + m) (hfit : (n + m) * bytes ≤ 140737488355328) (h63 : n + m ≤ 9223372036854775807) :
    ∃ cap, n + m ≤ cap ∧ (Builtin.append_ #[t, u] ty #[.slice a n c, .int .i64 m]).run P w = .ok (.slice (some ⟨w.heap.size, 0, none⟩) (n + m) cap) (w.drew.alloc (.cells ⟨xs ++ rep m z ++ rep (cap - (n + m)) z⟩ E)) := by
  obtain ⟨i, hi, hsz⟩ := hasSize_info hs
  have hbb : i.bytes = bytes := by simp [bytesAre, hi] at hby; exact hby
  simp only [zeroIs, hi] at hz
  split at hz
  · rename_i zv hzv
    have hzz := veqs_eq hz
    have hzr : ∀ w, (zeroValue E).run P w = .ok zv w := fun w => by simp [zeroValue, typeInfo, hi, hzv]
    have hti : ∀ w, (typeInfo E).run P w = .ok i w := fun w => by simp [typeInfo, hi]
    have hf := growslice_fits hc hfit
    have h48 : ¬ (2 ^ 48 < Builtin.nextslicecap (n + m) c * i.bytes) := by rw [hbb]; omega
    refine ⟨(Question.appendCap (n + m) c E).cut (w.tape w.drawn (.appendCap (n + m) c E)), by simp [Question.cut], ?_⟩
    have hch : (choose (.appendCap (n + m) c E)).run P w = .ok ((Question.appendCap (n + m) c E).cut (w.tape w.drawn (.appendCap (n + m) c E))) w.drew := by
      simp [choose, Sem.run, Question.forced]
    generalize (Question.appendCap (n + m) c E).cut (w.tape w.drawn (.appendCap (n + m) c E)) = cap at hch ⊢
    have h63'' : ¬ (((n + m : Nat) : Int) > IntKind.i64.max) := by
      rw [IntKind.max_i64]; omega
    have hw : IntKind.i64.wrap (m : Int) = (m : Int) := wrap_in (k := .i64) (in64 (by omega))
    have hai : ∀ w : World, (asInt (Value.int .i64 (m : Int))).run P w = .ok (m : Int) w := fun w => by simp [asInt, asIntOf]
    have h48b : ¬ ((m : Int) * (i.bytes : Int) > 2 ^ 48) := by
      rw [hbb]
      have : m * bytes ≤ (n + m) * bytes := Nat.mul_le_mul_right _ (by omega)
      have h2 : ((m * bytes : Nat) : Int) ≤ 140737488355328 := by omega
      push_cast at h2
      omega
    simp only [Builtin.append_, List.getElem?_toArray, List.getElem?_cons_zero, List.getElem?_cons_succ, Sem.run_bind, run_underlying ht w, run_underlying hu w, Result.andThen_ok, run_size hs w, Sem.run_pure, hai, if_true, Sem.run_ite, hw, hti]
    rw [if_neg (by omega), if_neg h48b]
    simp only [Sem.run_pure, Result.andThen_ok, Int.toNat_natCast]
    rw [if_neg (by omega)]
    simp only [true_or, and_true]
    rw [if_neg h63'', if_neg h48]
    have hne : ¬ m * sz = 0 := by omega
    simp only [Sem.run_pure, Result.andThen_ok, hch, run_askRoom, hx w.drew rfl, Bool.not_true, Bool.false_eq_true, if_false, hne, hzr, run_zeros hzz, newRow, Sem.run_bind, run_newObj]
    congr 2
    congr 2
    apply Array.ext'
    simp
  · simp at hz
/-- NOUGHTS ARE APPENDED TO A SLICE THAT IS HELD. -/
theorem ef_apz {E : TypeId} {sz bytes : Nat} {z : ZZ} {x : Operand} {v : Value} {n m : Nat} {xs : List Value} (hS : St w0 S0 w L) (i : Nat) (hi : L[i]? = some (row v E sz n xs)) (hx : ev T x = some v)
    (h1 : (rep m z).all (·.oneCell') = true) (hn : 0 < n) (hm0 : 0 < m * sz) (hfit : (n + m) * bytes ≤ 140737488355328) (h63 : n + m ≤ 9223372036854775807)
    (h : ∀ v' w', St w0 S0 w' (L.set i (row v' E sz (n + m) (xs ++ rep m z))) → K v' w') : Ef P r (.apz E sz bytes z x m) T w K := by
  refine ef_run ?_
  rintro ⟨dst, op, ty, pos, after, guard⟩ ρ hc ha
  cases op <;> simp only [chkO, Bool.false_eq_true, Bool.and_eq_true] at hc
  rename_i c
  obtain ⟨⟨⟨hb, he⟩, hc⟩, hd⟩ := hc
  obtain ⟨cs, hr⟩ := run_builtin (P := P) hb ρ ⟨dst, .call c, ty, pos, after, guard⟩ rfl
  have he := oeqs_eq he
  simp only [hr, ← he, List.map_cons, List.map_nil, ha.2 _ (by simp [MK.ops]) _ hx, ha.2 (.const (.int .i64 m)) (by simp [MK.ops]) (.int .i64 m) rfl]
  split at hc
  · rename_i t ht
    split at hc
    · rename_i e hu'
      simp only [Bool.and_eq_true, decide_eq_true_eq] at hc
      obtain ⟨⟨⟨⟨rfl, hs⟩, hby⟩, hz⟩, hzl⟩ := hc
      split at hd
      · rename_i t2 ht2
        obtain ⟨kk, hk⟩ : ∃ kk, P.underlying t2 = some (.int kk) := by
          split at hd
          · rename_i k2 h2; exact ⟨_, h2⟩
          · simp at hd
        have hty : ∀ vs : Array Value, (Builtin.append_ c.argTypes ty vs).run P w = (Builtin.append_ #[t, t2] ty vs).run P w := by
          intro vs
          simp only [Builtin.append_, ht, ht2]
          rfl
        simp only [builtin, Sem.run_bind, hty]
        have ho : Ow v e sz n xs w := hS.ok i _ hi
        have hln : (rep m z).length = m * sz := by rw [rep_length, hzl]
        rcases ho with ⟨rfl, rfl, rfl⟩ | ⟨b, cap, rest, rfl, hn, hxl, hl, hblk⟩
        · omega
        · by_cases hc' : n + m ≤ cap
          · have hrun := run_append_zin (P := P) (w := w) (ty := ty) hu' hk hs hby hz hxl hl hblk hzl h1 hm0 hfit h63 hc'
            have hm := Nat.mul_le_mul_right sz hc'
            rw [Nat.add_mul] at hm
            have hlen : (xs ++ rep m z ++ rest.drop (m * sz)).length = (xs ++ rest).length := by
              simp only [List.length_append, List.length_drop] at hl ⊢
              omega
            refine ⟨_, _, by rw [hrun]; rfl, h _ _ ?_⟩
            refine hS.turn hi (fr_setB w b _) (fun b' hb' => .inl hb') (fun b' hb' => by have : b' = b := hb'; subst this; rw [setB_size]; exact hblk.lt) ?_
            exact .inr ⟨b, cap, rest.drop (m * sz), rfl, hc', by rw [List.length_append, hxl, hln, Nat.add_mul], by rw [hlen, hl], hblk.set hlen⟩
          · obtain ⟨cap', hcap, hrun⟩ := run_append_zgr (P := P) (w := w) (ty := ty) (a := some ⟨b, 0, none⟩) (n := n) (m := m) (c := cap) (xs := xs) hu' hk hs hby hz
              (fun w' hw' => by
                have hb' : Blk w' b (xs ++ rest) e := hblk.same (by rw [hw'])
                have := run_cells (P := P) (n := n * sz) hb'.r (off := 0) (by simp; omega)
                rw [List.drop_zero, ← hxl, List.take_left, hxl] at this
                exact this) hm0 (by omega) hfit h63
            refine ⟨_, _, by rw [hrun]; rfl, h _ _ ?_⟩
            refine hS.turn hi (drew_alloc w _ _) (fun b hb => .inr (by have : b = w.heap.size := hb; omega)) (fun b hb => by have : b = w.heap.size := hb; rw [alloc_size]; show _ < w.heap.size + 1; omega) ?_
            refine .inr ⟨w.heap.size, cap', rep (cap' - (n + m)) z, rfl, hcap, by rw [List.length_append, hxl, hln, Nat.add_mul], ?_, ?_⟩
            · simp only [List.length_append, hln, hxl, rep_length, hzl]
              rw [← Nat.add_mul, ← Nat.add_mul]; congr 1; omega
            · exact Blk.alloc (w := w.drew) _ _
      · simp at hd
    · simp at hc
  · simp at hc
end Go.En
