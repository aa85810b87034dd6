/- Ranges over functions; arrays of bytes compared; a constant's bytes. -/
import Derived.Test.YtegjocpjmfaigaaEnN
import Derived.ChangeKeysEq
set_option linter.unusedSimpArgs false
set_option linter.unusedVariables false
namespace Go.En
open Go

/-- A call of a loop's yield, and what it comes to. -/
def Yd (P : Program) (l : Nat) (vs : List Value) (w : World) (K : Value → World → Prop) : Prop :=
  ∃ f tmps assign body, (Instr.yield l ⟨vs⟩).run P w = .ok (.round l f tmps assign body) w ∧ RoundIn Fence.wide 0 P l f tmps assign body w (fun e w' => ∃ v, e = .returned v ∧ K v w')
theorem Yd.mono {P : Program} {l : Nat} {vs : List Value} {w : World} {K K' : Value → World → Prop} (h : Yd P l vs w K) (hk : ∀ v w', K v w' → K' v w') : Yd P l vs w K' := by
  obtain ⟨f, tmps, a, b, h1, h2⟩ := h
  exact ⟨f, tmps, a, b, h1, h2.mono fun _ _ ⟨v, e, k⟩ => ⟨v, e, hk _ _ k⟩⟩

section
variable {P : Program} {r : Option Nat} {T : TT} {w w0 : World} {S0 : Nat → Prop} {L : List Res} {K : Value → World → Prop}
theorem ef_yd {x : Operand} {l : Nat} {args : List Operand} {vs : List Value} (hv : ev T x = some (.func (.yield l) ⟨[]⟩ ⟨[]⟩)) (hx : evs T args = some vs) (h : Yd P l vs w K) : Ef P r (.cv x args) T w K := by
  rintro ⟨dst, op, ty, pos, after, guard⟩ a next Q hc ha hn
  refine ⟨about_true, ?_⟩
  rw [Oper.semAt_eq _ _ _ (chk_nd hc)]
  cases op <;> simp only [chkO, Bool.false_eq_true] at hc
  rename_i c
  split at hc
  · rename_i g hg
    simp only [Bool.and_eq_true] at hc
    obtain ⟨e1, he⟩ := hc
    have e1 := oeq_eq e1
    have he := oeqs_eq he
    have hval : a.eval (.tmp g) = .func (.yield l) ⟨[]⟩ ⟨[]⟩ := by rw [← e1]; exact ha.2 _ (by simp [MK.ops]) _ hv
    have hargs : c.args.map a.eval = ⟨vs⟩ := by
      rw [map_arr, ← he, evs_map (fun x hx => ha.2 x (by simp [MK.ops]; exact .inr hx)) hx]
    obtain ⟨f, tmps, as, bd, h1, h2⟩ := h
    have hrun : (execOp a.eval ⟨dst, .call c, ty, pos, after, guard⟩).run P w = .ok (.round l f tmps as bd) w := by
      simp only [execOp, resolve, hg, Sem.run_bind, Sem.run_pure, Deferred.ofValue, hval, hargs, invoke, Result.andThen_ok]
      simpa using h1
    rw [hrun]
    refine ⟨fun h => by simp [FW, Fence.wide] at h, ?_⟩
    have h3 : RoundIn (FW r) (0 - 1) P l f tmps as bd w _ := h2
    refine h3.mono ?_
    rintro e w' ⟨v, rfl, hk⟩
    exact hn v w' hk
  · simp at hc

def putA : List Nat → List Value → TT → TT
  | t :: ts, v :: vs, T => putA ts vs ((t, v) :: T)
  | _, _, T => T
theorem putA_get {N : Nat} : ∀ (ps : List Nat) (vs : List Value) (T : TT) (tmps : Array Value), tmps.size = N → (∀ t ∈ ps, t < N) → (∀ t x, lk T t = some x → tmps[t]? = some x) →
    (((ps.zip vs).foldl (fun tmps p => tmps.setIfInBounds p.1 p.2) tmps).size = N ∧ ∀ t x, lk (putA ps vs T) t = some x → ((ps.zip vs).foldl (fun tmps p => tmps.setIfInBounds p.1 p.2) tmps)[t]? = some x)
  | [], _, T, tmps, hs, _, hT => ⟨by simpa using hs, by simpa [putA] using hT⟩
  | t :: ts, [], T, tmps, hs, _, hT => ⟨by simpa using hs, by simpa [putA] using hT⟩
  | t :: ts, v :: vs, T, tmps, hs, hp, hT => by
    simp only [List.zip_cons_cons, List.foldl_cons, putA]
    refine putA_get ts vs _ _ (by simpa using hs) (fun s h => hp s (by simp [h])) ?_
    intro s x hx
    simp only [lk] at hx
    split at hx
    · rename_i e; have := Nat.eq_of_beq_eq_true e; subst this; cases hx
      simp [hs, hp t (by simp)]
    · rename_i e
      rw [Array.getElem?_setIfInBounds_ne (fun h => by subst h; simp at e)]
      exact hT s x hx

/-- The record of a loop over a function. -/
def lpR (P : Program) (l N : Nat) (T : TT) (ps : List Nat) (u v : MC) (st : LoopState) (pd : Option Code) : Res :=
  ⟨fun b => b = l, fun w => ∃ r : Loop, w.heap[l]? = some (.loop r) ∧ r.state = st ∧ r.pending = pd ∧ r.params = ⟨ps⟩ ∧ (chkC P r.assign u = true ∧ chkC P r.body v = true ∧ allD (dlt N) u = true ∧ allD (dlt N) v = true) ∧ (∀ t ∈ ps, t < N) ∧ r.tmps.size = N ∧ (∀ t x, lk T t = some x → r.tmps[t]? = some x),
   fun _ _ h ⟨r, k⟩ => ⟨r, (h l rfl).trans k.1, k.2⟩⟩

theorem fr_putObj (w : World) (b : Nat) (o : Obj) : Fr w (fun x => x = b) (w.putObj b o) :=
  ⟨by simp, fun c _ hn => World.putObj_heap_other hn, rfl, rfl, rfl⟩
theorem St.putL (h : St w0 S0 w L) {l N : Nat} {ps : List Nat} {u v : MC} {st st' : LoopState} {pd pd' : Option Code} (i : Nat) (hi : L[i]? = some (lpR P l N T ps u v st pd)) :
    ∃ r : Loop, w.heap[l]? = some (.loop r) ∧ r.state = st ∧ r.pending = pd ∧ St w0 S0 (w.putObj l (.loop { r with state := st', pending := pd' })) (L.set i (lpR P l N T ps u v st' pd')) := by
  obtain ⟨r, h1, h2, h3, h4⟩ := h.ok i _ hi
  have hlt : l < w.heap.size := (Array.getElem?_eq_some_iff.1 h1).1
  refine ⟨r, h1, h2, h3, h.turn hi (fr_putObj w l _) (fun _ hb => .inl hb) (fun b hb => by have : b = l := hb; subst this; simpa using hlt) ?_⟩
  exact ⟨_, World.putObj_heap_same hlt, rfl, rfl, h4⟩

/-- how a round is left -/
def RQ (P : Program) (l N : Nat) (T : TT) (ps : List Nat) (u v : MC) (w0 : World) (S0 : Nat → Prop) (i : Nat) (K : Value → World → Prop) : QX := fun e _ _ w =>
  ∃ L pd, St w0 S0 w L ∧ L[i]? = some (lpR P l N T ps u v .busy pd) ∧ match e with
    | .normal => ∀ w1, St w0 S0 w1 (L.set i (lpR P l N T ps u v .ready none)) → K (.bool true) w1
    | .exit id => ∀ w1, St w0 S0 w1 (L.set i (lpR P l N T ps u v .done (some (.exit id)))) → K (.bool false) w1
    | .ret => ∀ w1, St w0 S0 w1 (L.set i (lpR P l N T ps u v .done (some .ret))) → K (.bool false) w1
    | _ => False

theorem yd_of {l N : Nat} {ps : List Nat} {u v : MC} {pd : Option Code} {vs : List Value} (hS : St w0 S0 w L) (i : Nat) (hi : L[i]? = some (lpR P l N T ps u v .ready pd)) (ha : vs.length = ps.length)
    (h : G ⟨P, some l, N⟩ [.c u] (putA ps vs T) [] w fun e T' D' w' => e = .normal ∧ ∃ L' pd', St w0 S0 w' L' ∧ L'[i]? = some (lpR P l N T ps u v .ready pd') ∧
      ∀ w1, St w0 S0 w1 (L'.set i (lpR P l N T ps u v .busy pd')) → G ⟨P, some l, N⟩ [.c v] T' D' w1 (RQ P l N T ps u v w0 S0 i K)) : Yd P l vs w K := by
  obtain ⟨r, h1, h2, h3, h4, ⟨c1, c2, d1, d2⟩, h5, h6, h7⟩ := hS.ok i _ hi
  have hy := run_yield (P := P) (args := ⟨vs⟩) h1 (by rw [h4]; simpa using ha)
  refine ⟨_, _, _, _, hy, roundIn_of_wpIn trivial ?_⟩
  have hz : ((r.params.zip ⟨vs⟩).foldl (fun tmps (t, a) => tmps.setIfInBounds t a) r.tmps) = (ps.zip vs).foldl (fun tmps p => tmps.setIfInBounds p.1 p.2) r.tmps := by
    rw [h4, ← Array.foldl_toList]
    simp
  rw [hz]
  obtain ⟨q1, q2⟩ := putA_get ps vs T r.tmps h6 h5 h7
  refine wpIn_mono (h d1 r.assign _ c1 d1 ⟨rfl, q1, q2⟩) ?_
  rintro e a' w' ⟨T', D', ha', rfl, L', pd', hS', hi', hb⟩
  obtain ⟨r', e1, e2, e3, hS2⟩ := hS'.putL (st' := .busy) (pd' := pd') i hi'
  refine ⟨_, run_beginRound e1 e2, ?_⟩
  obtain ⟨r2, k1, _, _, _, ⟨_, _, _, _⟩, _⟩ := hS'.ok i _ hi'
  have hG := hb _ hS2 d2 r.body a' c2 d2 ha'
  have hpd : ({ r' with state := .busy, pending := pd' } : Loop) = { r' with state := .busy } := by rw [← e3]
  rw [hpd] at hG
  refine wpIn_mono hG ?_
  rintro e a2 w2 ⟨T2, D2, ha2, L2, pd2, hS3, hi3, hk⟩
  cases e with
  | normal =>
    obtain ⟨r3, f1, f2, f3, hS4⟩ := hS3.putL (st' := .ready) (pd' := none) i hi3
    exact ⟨_, _, run_endRound none f1, _, rfl, hk _ (by simpa using hS4)⟩
  | ret =>
    obtain ⟨r3, f1, f2, f3, hS4⟩ := hS3.putL (st' := .done) (pd' := some .ret) i hi3
    exact ⟨_, _, run_endRound (some .ret) f1, _, rfl, hk _ (by simpa using hS4)⟩
  | exit id =>
    obtain ⟨r3, f1, f2, f3, hS4⟩ := hS3.putL (st' := .done) (pd' := some (.exit id)) i hi3
    exact ⟨_, _, run_endRound (some (.exit id)) f1, _, rfl, hk _ (by simpa using hS4)⟩
  | goto l => exact hk.elim
  | panic c => exact hk.elim
  | outgrown => exact hk.elim

/-- how a loop over a function goes on -/
def JP (P : Program) (N : Nat) (ks : List KI) (T : TT) (D : List Deferred) (w : World) (Q : QX) : Option Code → Prop
  | none => G ⟨P, none, N⟩ ks T D w Q
  | some (.exit j) => kq ⟨P, none, N⟩ ks Q (.exit j) T D w
  | some .ret => kq ⟨P, none, N⟩ ks Q .ret T D w
  | _ => False
theorem g_rf {N : Nat} {ks : List KI} {D : List Deferred} {Q : QX} {x : Operand} {ps : List Nat} {u v : MC} {f : FuncId} {first cap : List Value} (hS : St w0 S0 w L) (hx : ev T x = some (.func (.func f) ⟨first⟩ ⟨cap⟩)) (hf : ∀ (args : Array Value) (w : World), (callFunc f args).run P w = .ok (.enter f args) w)
    (h : ∀ l dB w1, St w0 S0 w1 (L ++ [obj dB (.deferred (some [])), lpR P l N T ps u v .ready none]) →
      CK P f (first ++ [.func (.yield l) ⟨[]⟩ ⟨[]⟩] ++ cap) w1 fun _ w2 => ∃ L2 i st pd, St w0 S0 w2 L2 ∧ L2[i]? = some (lpR P l N T ps u v st pd) ∧ st ≠ .busy ∧
        ∀ w3, St w0 S0 w3 (L2.set i (lpR P l N T ps u v .exhausted pd)) → JP P N ks T (⟨.collected dB, #[]⟩ :: D) w3 Q pd) :
    G ⟨P, none, N⟩ (.c (.rf x ps u v) :: ks) T D w Q := by
  intro hd c a hc _ ha
  simp only [allD, Bool.and_eq_true] at hd
  cases c <;> try (simp [chkC] at hc; done)
  rename_i g qs as bd
  simp only [chkC, Bool.and_eq_true, decide_eq_true_eq] at hc
  obtain ⟨⟨⟨e1, e2⟩, c1⟩, c2⟩ := hc
  have e1 := oeq_eq e1; subst e1
  have eqs : qs = ⟨ps⟩ := by rw [← e2]
  subst eqs
  have hev : a.eval g = .func (.func f) ⟨first⟩ ⟨cap⟩ := (ha.ag [g]).2 g (by simp) _ hx
  refine wpIn_rangeFunc fun fn _ => ?_
  generalize hw1 : w.alloc (.deferred (some [])) = w1
  have hz1 : w1.heap.size = w.heap.size + 1 := by rw [← hw1, alloc_size]
  have hS1 : St w0 S0 w1 (L ++ [obj w.heap.size (.deferred (some []))]) := by
    rw [← hw1]
    exact hS.new (fr_alloc w _ _) (fun b hb => by have : b = w.heap.size := hb; omega) (fun b hb => by have : b = w.heap.size := hb; rw [alloc_size]; omega) (World.alloc_heap_new w _)
  generalize hR : ({ state := .ready, pending := none, fn, tmps := a.tmps, params := ⟨ps⟩, assign := as, body := bd, defers := w.heap.size } : Loop) = R
  have hS2 : St w0 S0 (w1.alloc (.loop R)) ((L ++ [obj w.heap.size (.deferred (some []))]) ++ [lpR P (w.heap.size + 1) N T ps u v .ready none]) := by
    refine hS1.new (fr_alloc _ _ _) (fun b hb => by have : b = w.heap.size + 1 := hb; omega) (fun b hb => by have : b = w.heap.size + 1 := hb; rw [alloc_size]; omega) ?_
    refine ⟨R, ?_, by rw [← hR], by rw [← hR], by rw [← hR], by rw [← hR]; exact ⟨c1, c2, hd.1.2, hd.2⟩, ?_, by rw [← hR]; exact ha.sz, by rw [← hR]; exact ha.get⟩
    · have := World.alloc_heap_new w1 (.loop R)
      rw [hz1] at this
      exact this
    · intro t ht
      have := List.all_eq_true.1 hd.1.1 t ht
      simpa [dlt] using this
  have hck := h (w.heap.size + 1) w.heap.size _ (by simpa using hS2)
  have hent := run_enterLoop_outer (P := P) (w := w) fn a.tmps ⟨ps⟩ as bd
  rw [hw1, hR] at hent
  refine ⟨w.heap.size + 1, _, w1.alloc (.loop R), ⟨.fn (.func f) ⟨cap⟩, ⟨first⟩ ++ #[.func (.yield (w.heap.size + 1)) #[] #[]]⟩, w1.alloc (.loop R), f, ⟨first ++ [.func (.yield (w.heap.size + 1)) ⟨[]⟩ ⟨[]⟩] ++ cap⟩, w1.alloc (.loop R), hent, ?_, fun _ _ => trivial, ?_, fun h => by simp [FW, Fence.wide] at h, ?_⟩
  · have h2 : (#[Operand.const (.func (.yield (w.heap.size + 1)) #[] #[])] : Array Operand).map a.eval = #[.func (.yield (w.heap.size + 1)) #[] #[]] := by simp [Act.eval]
    simp only [resolve, Sem.run_bind, Sem.run_pure, Deferred.ofValue, hev, Result.andThen_ok, h2]
  · simp only [invoke, hf]
    simp
  · refine (callsIn_wide (n := 0 - 1)).2 (Calls.mono hck ?_)
    rintro e w2 ⟨vv, rfl, L2, i, st, pd, hS3, hi3, hst, hj⟩
    obtain ⟨r3, f1, f2, f3, hS4⟩ := hS3.putL (st' := .exhausted) (pd' := pd) i hi3
    have he := run_endLoop (P := P) f1 (by rw [f2]; exact hst)
    have hpd : ({ r3 with state := .exhausted, pending := pd } : Loop) = { r3 with state := .exhausted } := by rw [← f3]
    rw [hpd] at hS4
    refine ⟨_, _, he, ?_⟩
    have hj := hj _ hS4
    generalize w2.putObj (w.heap.size + 1) _ = w4 at hj ⊢
    rw [f3]
    have hTm : Tm T (⟨.collected w.heap.size, #[]⟩ :: D) N { a with defers := [{ target := .collected w.heap.size, args := #[] }] ++ a.defers } := ⟨by simp [ha.ds], ha.sz, ha.get⟩
    match pd, hj with
    | none, hj => exact ⟨T, _, hTm, hj⟩
    | some (.exit j), hj => exact wpIn_exit ⟨T, _, hTm, hj⟩
    | some .ret, hj => exact wpIn_ret ⟨T, _, hTm, hj⟩

/-! ### arrays of bytes compared -/
theorem items_bys {e : TypeId} (he : P.underlying e = some (.int .u8)) (h1 : hasSize P e 1 = true) (d : Nat) (a b : List UInt8) (hl : a.length = b.length) : ∀ (n k : Nat), k + n = a.length →
    (Op.eqItems (d + 1) e 1 ⟨bys a⟩ ⟨bys b⟩ (List.range' k n)).run P w = .ok (decide (a.drop k = b.drop k)) w := by
  intro n
  induction n with
  | zero => intro k hk; simp [Op.eqItems, List.drop_eq_nil_of_le (show a.length ≤ k by omega), List.drop_eq_nil_of_le (show b.length ≤ k by omega)]
  | succ n ih =>
    intro k hk
    have ka : k < a.length := by omega
    have kb : k < b.length := by omega
    have hr : rdAs P e none = true := by
      obtain ⟨i, hi, _⟩ := hasSize_info h1
      simp [rdAs, isAg, he]
    have pa : (part e ⟨bys a⟩ (k * 1)).run P w = .ok (.int .u8 ((a[k]).toNat : Int)) w := run_part_one hr (by simp [bys, ka]) w
    have pb : (part e ⟨bys b⟩ (k * 1)).run P w = .ok (.int .u8 ((b[k]).toNat : Int)) w := run_part_one hr (by simp [bys, kb]) w
    have pe : (Op.equalIn (d + 1) e (.int .u8 ((a[k]).toNat : Int)) (.int .u8 ((b[k]).toNat : Int))).run P w = .ok (decide (a[k] = b[k])) w := by
      simp only [Op.equalIn, Sem.run_bind, run_underlying he w, Result.andThen_ok, if_true, Sem.run_pure]
      congr 1
      rw [Bool.eq_iff_iff]
      simp only [beq_iff_eq, decide_eq_true_eq]
      constructor
      · intro h; exact UInt8.toNat_inj.1 (by omega)
      · intro h; rw [h]
    rw [List.range'_succ]
    simp only [Op.eqItems, Sem.run_bind, pa, pb, pe, Result.andThen_ok]
    rw [List.drop_eq_getElem_cons ka, List.drop_eq_getElem_cons kb]
    by_cases hq : a[k] = b[k]
    · have h2 := ih (k + 1) (by omega)
      rw [hq, decide_eq_true (rfl : b[k] = b[k])]
      simp only [Bool.not_true, Bool.false_eq_true, if_false, h2]
      congr 1
      rw [Bool.eq_iff_iff, decide_eq_true_eq, decide_eq_true_eq]
      exact ⟨fun h => by rw [h], fun h => (List.cons.inj h).2⟩
    · rw [decide_eq_false hq]
      simp only [Bool.not_false, if_true, Sem.run_pure]
      congr 1
      rw [Bool.eq_iff_iff, decide_eq_true_eq]
      exact ⟨(fun h => nomatch h), (fun h => absurd (List.cons.inj h).1 hq)⟩
def aqv (op : BinOp) (a b : List UInt8) : Bool := match op with | .eql => decide (a = b) | _ => !decide (a = b)
theorem qt_aq {op : BinOp} {n : Nat} {x y : Operand} {a b : List UInt8} (hx : ev T x = some (.agg ⟨bys a⟩)) (hy : ev T y = some (.agg ⟨bys b⟩)) (ha' : a.length = n) (hb' : b.length = n) :
    Qt P (.aq op n x y) T w (.bool (aqv op a b)) := by
  rintro ⟨dst, o, ty, pos, after, guard⟩ ρ hc ha
  cases o <;> try (simp [chkO] at hc; done)
  rename_i op' t x' y' t'
  simp only [chkO, Bool.and_eq_true, decide_eq_true_eq, Bool.not_eq_true'] at hc
  obtain ⟨⟨⟨⟨⟨rfl, e1⟩, e2⟩, hop⟩, hgt⟩, hu⟩ := hc
  have e1 := oeq_eq e1; have e2 := oeq_eq e2; subst e1 e2
  split at hu
  · rename_i k e hu'
    simp only [Bool.and_eq_true, decide_eq_true_eq] at hu
    obtain ⟨⟨rfl, hs⟩, he⟩ := hu
    split at he
    · rename_i he'
      obtain ⟨i, hi, hsz⟩ := hasSize_info hs
      have hco : P.cellsOf e = 1 := by simp [Program.cellsOf, hi, hsz]
      have heq : (Op.equal t (.agg ⟨bys a⟩) (.agg ⟨bys b⟩)).run P w = .ok (decide (a = b)) w := by
        show (Op.equalIn (9998 + 1 + 1) t _ _).run P w = _
        rw [run_equalIn_array w (9998 + 1) _ _ hu' hi, hco, List.range_eq_range']
        have := items_bys (P := P) (w := w) he' hs 9998 a b (by omega) k 0 (by omega)
        simpa using this
      have hg : (eqGuard op t x y (.agg ⟨bys a⟩) (.agg ⟨bys b⟩)).run P w = .ok () w := by
        simp only [eqGuard, Sem.run_bind, run_program, Result.andThen_ok, hgt, Bool.not_false, Bool.not_true, Bool.false_eq_true, if_true, if_false, Sem.run_pure]
        try (split <;> simp only [Sem.run_bind, run_program, Result.andThen_ok, hgt, Bool.not_false, Bool.not_true, Bool.false_eq_true, if_true, if_false, Sem.run_pure])
      cases op <;> simp at hop
      · have hb : (binOp .eql t (.agg ⟨bys a⟩) (.agg ⟨bys b⟩)).run P w = .ok (.bool (decide (a = b))) w := by
          show (do pure (.bool (← Op.equal t _ _)) : Sem Value).run P w = _
          rw [Sem.run_bind, heq]; rfl
        simp only [execOp, ha.2 _ (by simp [MK.ops]) _ hx, ha.2 _ (by simp [MK.ops]) _ hy, Sem.run_bind, hg, hb, Result.andThen_ok]
        rfl
      · have hb : (binOp .neq t (.agg ⟨bys a⟩) (.agg ⟨bys b⟩)).run P w = .ok (.bool (!decide (a = b))) w := by
          show (do pure (.bool (!(← Op.equal t _ _))) : Sem Value).run P w = _
          rw [Sem.run_bind, heq]; rfl
        simp only [execOp, ha.2 _ (by simp [MK.ops]) _ hx, ha.2 _ (by simp [MK.ops]) _ hy, Sem.run_bind, hg, hb, Result.andThen_ok]
        rfl
    · simp at he
  · simp at hu

theorem g_aq {E : Env} {ks : List KI} {D : List Deferred} {Q : QX} {l : List MOp} {t : Nat} {g : Option (Nat × Bool)} {op : BinOp} {n : Nat} {x y : Operand} (a b : List UInt8) (hg : gv T ⟨some t, g, .aq op n x y⟩ = some true) (hx : ev T x = some (.agg ⟨bys a⟩)) (hy : ev T y = some (.agg ⟨bys b⟩)) (ha : a.length = n) (hb : b.length = n)
    (h : G E (.r l :: ks) ((t, .bool (aqv op a b)) :: T) D w Q) : G E (.r (⟨some t, g, .aq op n x y⟩ :: l) :: ks) T D w Q := g_qt hg (qt_aq hx hy ha hb) h

/-! ### a constant's bytes -/
theorem St.freeze (hS : St w0 S0 w L) {b : Nat} {l : List Value} {E : TypeId} (i : Nat) (hi : L[i]? = some (cel b l E)) (k : Nat) (hk : l.length ≤ k) : St w0 S0 (w.freeze ⟨b, k, none⟩ 1) L := by
  have hb := hS.b i hi
  have heq : L.set i (cel b l E) = L := by
    apply List.ext_getElem?
    intro j
    by_cases e : j = i
    · subst e; rw [List.getElem?_set_self (List.getElem?_eq_some_iff.1 hi).1, hi]
    · rw [List.getElem?_set_ne (fun h => e h.symm)]
  rw [← heq]
  have hsz : (w.freeze ⟨b, k, none⟩ 1).heap.size = w.heap.size := by simp [World.freeze]
  refine hS.turn hi ⟨by rw [hsz]; exact Nat.le_refl _, fun c _ hn => ?_, rfl, rfl, rfl⟩ (fun _ hb => .inl hb) (fun c hc => by rw [hsz]; exact hS.bd i _ hi c hc) ?_
  · have : b ≠ c := fun e => hn e.symm
    simp [World.freeze, Array.getElem?_modify, this]
  · obtain ⟨⟨lo, hi'⟩, h1, h2⟩ := hb
    refine ⟨if lo == hi' then (k, k + 1) else (min lo k, max hi' (k + 1)), ?_, ?_⟩
    · simp [World.freeze, Array.getElem?_modify, h1]
    · split
      · exact .inr hk
      · rename_i hne
        simp at hne h2
        refine .inr ?_
        simp
        omega
theorem ef_mb {x : Operand} {b off n c : Nat} {l : List Value} {E : TypeId} (hS : St w0 S0 w L) (i : Nat) (hi : L[i]? = some (cel b l E)) (hx : ev T x = some (.slice (some ⟨b, off, none⟩) n c)) (h : ∀ w', St w0 S0 w' L → K (.slice (some ⟨b, off, none⟩) n c) w') : Ef P r (.mb x) T w K := by
  refine ef_run ?_
  rintro ⟨dst, op, ty, pos, after, guard⟩ ρ hc ha
  cases op <;> simp only [chkO, Bool.false_eq_true, Bool.and_eq_true, decide_eq_true_eq] at hc
  rename_i s d y
  obtain ⟨⟨e1, rfl⟩, hu⟩ := hc
  have e1 := oeq_eq e1; subst e1
  split at hu
  · rename_i e hu'
    split at hu
    · rename_i he
      obtain ⟨fr, hb, _⟩ := hS.b i hi
      have hsh : w.shape? b = some (E, l.length) := by
        unfold World.shape?
        rw [hb]
        simp
      refine ⟨_, w.freeze ⟨b, l.length, none⟩ 1, ?_, h _ (hS.freeze i hi l.length (Nat.le_refl _))⟩
      simp only [execOp, ha.2 _ (by simp [MK.ops]) _ hx, Sem.run_bind]
      simp [convert, run_underlying hu', run_underlying he, markStringish, hsh]
    · simp at hu
  · simp at hu
end
end Go.En
