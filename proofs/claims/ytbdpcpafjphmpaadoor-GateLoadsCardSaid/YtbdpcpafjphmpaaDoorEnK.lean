/- Maps: keys that are structs; ranges over maps. -/
import Derived.Test.YtbdpcpafjphmpaaDoorEnP
import Derived.DeepKeys3
import Derived.Maps.RangeRun
set_option linter.unusedSimpArgs false
set_option linter.unusedVariables false
namespace Go.En
section
variable {P : Program} {r : Option Nat} {T : TT} {w w0 : World} {S0 : Nat → Prop} {L : List Res} {K : Value → World → Prop}
def keyK (P : Program) (kt : TypeId) (v : Value) : Prop := ∃ l, keyOf P kt v = some l
theorem kl_deep {kt : TypeId} {m : Nat} (hm : m + 1 ≤ 10000) (hk : P.keyTypeAt m kt = true) (ht : P.tiled m kt = true) (hwide : (match P.underlying kt with | some (.array _ _) | some (.struct _) => true | _ => false) = true) : KL P kt (keyK P kt) where
  check w em v hv := by
    obtain ⟨l, hl⟩ := hv
    exact (deep_law hm hk ht hwide).check w em hl
  find w x hx es hes := by
    obtain ⟨l, hl⟩ := hx
    exact (deep_law hm hk ht hwide).find w hl es hes
  stays w v hv := by
    obtain ⟨l, hl⟩ := hv
    exact (deep_law hm hk ht hwide).stays w hl
theorem ef_mrg {m : Operand} {bm c : Nat} {es : Array MapEntry} (hS : St w0 S0 w L) (hb : w.heap[bm]? = some (.map es c)) (hm : ev T m = some (.map (some bm)))
    (h : ∀ b w', St w0 S0 w' (L ++ [obj b (.mapIter (some bm) c #[] c)]) → K (.pointer (some ⟨b, 0, none⟩)) w') : Ef P r (.mrg m) T w K := by
  refine ef_run ?_
  rintro ⟨dst, op, ty, pos, after, guard⟩ ρ hc ha
  cases op <;> simp only [chkO, Bool.false_eq_true, Bool.and_eq_true] at hc
  obtain ⟨e1, hu⟩ := hc
  have e1 := oeq_eq e1; subst e1
  split at hu
  · rename_i k e hu'
    refine ⟨_, w.alloc (.mapIter (some bm) c #[] c), ?_, h _ _ (hS.newObj _)⟩
    simp only [execOp, Instr.range, ha.2 _ (by simp [MK.ops]) _ hm, Sem.run_bind, run_underlying hu' w, Result.andThen_ok, run_getO hb rfl, Sem.run_pure, run_newObj]
    rfl
  · cases hu
theorem ef_mrg0 {m : Operand} (hS : St w0 S0 w L) (hm : ev T m = some (.map none))
    (h : ∀ b w', St w0 S0 w' (L ++ [obj b (.mapIter none 0 #[] 0)]) → K (.pointer (some ⟨b, 0, none⟩)) w') : Ef P r (.mrg m) T w K := by
  refine ef_run ?_
  rintro ⟨dst, op, ty, pos, after, guard⟩ ρ hc ha
  cases op <;> simp only [chkO, Bool.false_eq_true, Bool.and_eq_true] at hc
  obtain ⟨e1, hu⟩ := hc
  have e1 := oeq_eq e1; subst e1
  split at hu
  · rename_i k e hu'
    refine ⟨_, w.alloc (.mapIter none 0 #[] 0), ?_, h _ _ (hS.newObj _)⟩
    simp only [execOp, Instr.range, ha.2 _ (by simp [MK.ops]) _ hm, Sem.run_bind, run_underlying hu' w, Result.andThen_ok, Sem.run_pure, run_newObj]
    rfl
  · cases hu
theorem ef_mnx {x : Operand} {bi bm since c0 clock : Nat} {seen : Array Nat} {es : Array MapEntry} (hS : St w0 S0 w L) (i : Nat) (hi : L[i]? = some (obj bi (.mapIter (some bm) since seen c0))) (hx : ev T x = some (.pointer (some ⟨bi, 0, none⟩)))
    (hb : w.heap[bm]? = some (.map es clock)) (hold : ∀ x ∈ es.toList, x.born < since) (hsc : since ≤ c0)
    (h1 : (leftOf es seen).size = 0 → K (.tuple ⟨[.bool false]⟩) w)
    (h2 : ∀ e ∈ (leftOf es seen).toList, ∀ w', St w0 S0 w' (L.set i (obj bi (.mapIter (some bm) since (seen.push e.born) clock))) → K (.tuple ⟨[.bool true, e.key, e.val]⟩) w') : Ef P r (.mnx x) T w K := by
  have hr : w.heap[bi]? = some (.mapIter (some bm) since seen c0) := hS.ok i _ hi
  refine ef_run ?_
  rintro ⟨dst, op, ty, pos, after, guard⟩ ρ hc ha
  cases op <;> try (simp [chkO] at hc; done)
  rename_i y q
  cases q
  · simp only [chkO] at hc
    have e1 := oeq_eq hc; subst e1
    rcases run_next_at (P := P) w ty bi bm since c0 seen es clock hr hb hold hsc with ⟨h0, hn⟩ | ⟨e, he, w1, hw1, hn⟩
    · refine ⟨_, w, ?_, h1 h0⟩
      simp only [execOp, ha.2 _ (by simp [MK.ops]) _ hx, Sem.run_bind]
      rw [hn]
      rfl
    · have key : ∃ w', (Instr.next (.pointer (some ⟨bi, 0, none⟩)) false ty).run P w = .ok (.tuple #[.bool true, e.key, e.val]) w' ∧ St w0 S0 w' (L.set i (obj bi (.mapIter (some bm) since (seen.push e.born) clock))) := by
        refine ⟨_, hn, ?_⟩
        rcases hw1 with rfl | rfl
        · exact hS.putO i hi _
        · exact hS.drew.putO i hi _
      obtain ⟨w', hn', hS'⟩ := key
      refine ⟨_, w', ?_, h2 e he w' hS'⟩
      simp only [execOp, ha.2 _ (by simp [MK.ops]) _ hx, Sem.run_bind]
      rw [hn']
      rfl
  · simp [chkO] at hc
theorem ef_mnx0 {x : Operand} {bi since c0 : Nat} {seen : Array Nat} (hS : St w0 S0 w L) (i : Nat) (hi : L[i]? = some (obj bi (.mapIter none since seen c0))) (hx : ev T x = some (.pointer (some ⟨bi, 0, none⟩)))
    (h1 : K (.tuple ⟨[.bool false]⟩) w) : Ef P r (.mnx x) T w K := by
  have hr : w.heap[bi]? = some (.mapIter none since seen c0) := hS.ok i _ hi
  refine ef_run ?_
  rintro ⟨dst, op, ty, pos, after, guard⟩ ρ hc ha
  cases op <;> try (simp [chkO] at hc; done)
  rename_i y q
  cases q
  · simp only [chkO] at hc
    have e1 := oeq_eq hc; subst e1
    refine ⟨_, w, ?_, h1⟩
    simp only [execOp, ha.2 _ (by simp [MK.ops]) _ hx, Instr.next, Sem.run_bind, run_getO hr rfl, Result.andThen_ok]
    rfl
  · simp [chkO] at hc
theorem qt_men {x : Operand} {bi bm since clock : Nat} {seen : Array Nat} {es : Array MapEntry} {e : MapEntry} (hx : ev T x = some (.pointer (some ⟨bi, 0, none⟩)))
    (hr : w.heap[bi]? = some (.mapIter (some bm) since (seen.push e.born) clock)) (hb : w.heap[bm]? = some (.map es clock)) (he : e ∈ es.toList) (hn : (es.toList.map (·.born)).Nodup) : Qt P (.men x) T w (.tuple ⟨[e.key, e.val]⟩) := by
  rintro ⟨dst, op, ty, pos, after, guard⟩ ρ hc ha
  cases op <;> try (simp [chkO] at hc; done)
  simp only [chkO] at hc
  have e1 := oeq_eq hc; subst e1
  simp only [execOp, ha.2 _ (by simp [MK.ops]) _ hx, Sem.run_bind]
  rw [run_entry_at w bi bm since seen es clock e hr hb he hn]
  rfl
theorem ef_mlk0 {kt : TypeId} {okp : Value → Prop} (KW : KL P kt okp) {ag ok : Bool} {z : ZZ} {m k : Operand} {key : Value} (hm : ev T m = some (.map none)) (hk : ev T k = some key)
    (hok : okp key) (h1 : K (lkv ok (zv ag z) false) w) : Ef P r (.mlk kt ag z ok m k) T w K := by
  refine ef_run ?_
  rintro ⟨dst, op, ty, pos, after, guard⟩ ρ hc ha
  cases op <;> simp only [chkO, Bool.false_eq_true, Bool.and_eq_true, decide_eq_true_eq] at hc
  obtain ⟨⟨⟨e1, e2⟩, rfl⟩, hu⟩ := hc
  have e1 := oeq_eq e1; have e2 := oeq_eq e2; subst e1 e2
  split at hu
  · rename_i k' e' hu'
    simp only [Bool.and_eq_true, decide_eq_true_eq] at hu
    obtain ⟨⟨rfl, hz⟩, hi⟩ := hu
    have hzv : (zeroValue e').run P w = .ok (zv ag z) w := by
      unfold zeroIs at hz
      split at hi
      · rename_i i hi'
        rw [hi'] at hz
        simp only at hz
        split at hi
        · rename_i cs hcs
          rw [hcs] at hz
          simp only at hz
          have := veqs_eq hz
          subst hi
          have : cs = ⟨zx z⟩ := by
            obtain ⟨l⟩ := cs
            simp [Value.cells] at this
            rw [this]
          simp [zeroValue, typeInfo, hi', hcs, zv, this]
        · rename_i v hv1 hv
          simp only [Bool.and_eq_true, Bool.not_eq_true'] at hi
          obtain ⟨rfl, hi⟩ := hi
          have := veqs_eq hi
          simp [zeroValue, typeInfo, hi', hv, zv, ← this]
        · cases hi
      · cases hi
    have hf : (Instr.findKey k' key []).run P w = .ok none w := by
      rcases KW.find w hok [] (fun _ h => nomatch h) with ⟨hf, _⟩ | ⟨j, e, _, hj, _⟩
      · exact hf
      · simp at hj
    refine ⟨_, w, ?_, h1⟩
    simp only [execOp, Instr.lookup, ha.2 _ (by simp [MK.ops]) _ hm, ha.2 _ (by simp [MK.ops]) _ hk, Sem.run_bind, run_underlying hu' w, Result.andThen_ok, Sem.run_pure, KW.check w _ hok, hf, hzv]
    cases ok <;> rfl
  · simp at hu
end
end Go.En
