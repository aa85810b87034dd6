/- Loops; a function from its body. -/
import Derived.Test.YtegjocpjmfaigaaEnL
import Derived.RangeFuncRecord
set_option linter.unusedSimpArgs false
set_option linter.unusedVariables false
namespace Go.En

theorem wpIn_loop_g {F : Fence} {n : Nat} {P : Program} {Q : Exit → Act → World → Prop} {a : Act} {w : World} {c : Code} {ι : Type} (I : ι → Act → World → Prop) (μ : ι → Nat) (x0 : ι) (h0 : I x0 a w)
    (round : ∀ x a w, I x a w → c.wpIn F n P (Exit.then (fun a' w' => ∃ y, I y a' w' ∧ μ y < μ x) Q) a w) : (Code.loop c).wpIn F n P Q a w := by
  intro b k cs hro hb hr
  have key : ∀ j x a w, μ x = j → I x a w →
      ∃ e a' w', Q e a' w' ∧ ArrivesIn (Machine.fenced P F) P (lone (b.atR a (.code c :: .inLoop c :: k)) cs w) b k cs e a' w' := by
    intro j
    induction j using Nat.strongRecOn with
    | _ j ih =>
      intro x a w hn hI
      obtain ⟨e, a₁, w₁, hq, harr⟩ := round x a w hI b (.inLoop c :: k) cs hro hb hr
      cases e with
      | normal =>
        obtain ⟨y, hI₁, hlt⟩ := hq
        obtain ⟨e₂, a₂, w₂, hq₂, harr₂⟩ := ih (μ y) (hn ▸ hlt) y a₁ w₁ rfl hI₁
        exact ⟨e₂, a₂, w₂, hq₂, .of_steps (StepsIn.trans harr (.one (fenced_calm hb hr rfl) stepR_inLoop)) harr₂⟩
      | exit id => exact ⟨_, a₁, w₁, hq, .pass (x := .inLoop c) rfl (fun _ _ => .inl (by simp)) harr⟩
      | goto l => exact ⟨_, a₁, w₁, hq, .pass (x := .inLoop c) rfl (fun _ _ => .inl (by simp)) harr⟩
      | ret => exact ⟨_, a₁, w₁, hq, .pass (x := .inLoop c) rfl (fun _ _ => .inl (by simp)) harr⟩
      | panic ch => exact ⟨_, a₁, w₁, hq, .pass (x := .inLoop c) rfl (fun _ _ => .inl (by simp)) harr⟩
      | outgrown => exact ⟨_, a₁, w₁, hq, .pass (x := .inLoop c) rfl (fun _ _ => .inl (by simp)) harr⟩
  obtain ⟨e, a', w', hq, harr⟩ := key _ x0 a w rfl h0
  exact ⟨e, a', w', hq, .of_steps (.one (fenced_calm hb hr rfl) stepR_loop) harr⟩

section
variable {E : Env} {ks : List KI} {T : TT} {D : List Deferred} {w : World} {Q : QX}
/-- what a round has to come to -/
def LJ {ι : Type} (Tf : ι → TT) (I : ι → World → Prop) (μ : ι → Nat) (D : List Deferred) (x : ι) : TT → List Deferred → World → Prop :=
  fun T' D' w' => D' = D ∧ ∃ y, SubL (Tf y) T' ∧ I y w' ∧ μ y < μ x
/-- A LOOP: which slots are carried round, what holds of them, what falls. -/
theorem g_lp {ι : Type} {u : MC} (Tf : ι → TT) (I : ι → World → Prop) (μ : ι → Nat) (x0 : ι) (hT : SubL (Tf x0) T) (h0 : I x0 w)
    (round : ∀ x w, I x w → G E (.c u :: .l (LJ Tf I μ D x) :: ks) (Tf x) D w Q) : G E (.c (.lp u) :: ks) T D w Q := by
  intro hd c a hc _ ha
  simp only [allD] at hd
  cases c <;> simp [chkC] at hc
  refine wpIn_loop_g (fun x a w => Tm (Tf x) D E.N a ∧ I x w) μ x0 ⟨ha.sub hT.sub, h0⟩ ?_
  rintro x a w ⟨ha, hI⟩
  refine wpIn_mono (round x w hI hd _ a hc hd ha) ?_
  rintro e a' w' ⟨T', D', ha', hq⟩
  cases e with
  | normal =>
    obtain ⟨rfl, y, hs, hI', hμ⟩ := hq
    exact ⟨y, ⟨ha'.sub hs.sub, hI'⟩, hμ⟩
  | _ => exact ⟨T', D', ha', hq⟩
theorem g_l {ι : Type} {Tf : ι → TT} {I : ι → World → Prop} {μ : ι → Nat} {x : ι} (y : ι) (hs : SubL (Tf y) T) (hI : I y w) (hμ : μ y < μ x) : G E (.l (LJ Tf I μ D x) :: ks) T D w Q := ⟨rfl, y, hs, hI, hμ⟩
end

/-! ### a function -/
def rvs (P : Program) (T : TT) (w : World) : List ResultVar → List Value → Prop
  | [], vs => vs = []
  | .tmp t :: rs, vs => ∃ v r, lk T t = some v ∧ rvs P T w rs r ∧ vs = v :: r
  | .cell a ty :: rs, vs => ∃ ad v r, lk T a = some (.pointer (some ad)) ∧ (loadVar ty ad).run P w = .ok v w ∧ rvs P T w rs r ∧ vs = v :: r
def one (vs : List Value) : Value := match vs with
  | [v] => v
  | vs => .tuple ⟨vs⟩
def rsem (tmps : Array Value) (r : ResultVar) : Sem Value := match r with
  | .tmp t => pure (tmps.getD t undef)
  | .cell a t => do loadVar t (← asAddr (tmps.getD a undef))
theorem rvs_run {P : Program} {fn : Func} {T : TT} {w : World} {tmps : Array Value} (ha : ∀ t v, lk T t = some v → tmps[t]? = some v) {vs : List Value} (h : rvs P T w fn.results.toList vs) : (results fn tmps).run P w = .ok (one vs) w := by
  have key : ∀ (rs : List ResultVar) (vs : List Value), rvs P T w rs vs → (rs.mapM (rsem tmps)).run P w = .ok vs w := by
    intro rs
    induction rs with
    | nil => intro vs h; simp only [rvs] at h; subst h; simp
    | cons r rs ih =>
      intro vs h
      cases r with
      | tmp t =>
        obtain ⟨v, r, h1, h2, rfl⟩ := h
        simp only [List.mapM_cons, rsem, Sem.run_bind, Sem.run_pure, Result.andThen_ok, ih r h2, Array.getD_eq_getD_getElem?, ha t v h1, Option.getD_some]
      | cell a ty =>
        obtain ⟨ad, v, r, h1, h2, h3, rfl⟩ := h
        simp only [List.mapM_cons, rsem, Sem.run_bind, Sem.run_pure, Result.andThen_ok, ih r h3, Array.getD_eq_getD_getElem?, ha a _ h1, Option.getD_some, asAddr, h2]
  have hr := key fn.results.toList vs h
  have hm : ∀ f : ResultVar → Sem Value, (∀ x, f x = rsem tmps x) → fn.results.mapM f = fn.results.mapM (rsem tmps) := fun f h => by rw [funext h]
  unfold results
  rw [Sem.run_bind, hm _ (by intro x; cases x <;> rfl), ← Array.toArray_toList (xs := fn.results), List.mapM_toArray, Sem.run_map, hr]
  simp only [Result.andThen_ok, Sem.run_pure]
  congr 1
  match vs with
  | [] => rfl
  | [v] => rfl
  | _ :: _ :: _ => rfl

/-- behind the body: the blocks of ranges over functions are shut, then the results are read -/
def Lv (P : Program) (rs : List ResultVar) (T : TT) (K : Value → World → Prop) : List Deferred → World → Prop
  | [], w => ∃ vs, rvs P T w rs vs ∧ K (one vs) w
  | d :: ds, w => ∃ r, d.target = .collected r ∧ w.heap[r]? = some (.deferred (some [])) ∧ Lv P rs T K ds (w.putObj r (.deferred none))
def QF (P : Program) (rs : List ResultVar) (K : Value → World → Prop) : QX := fun e T D w => match e with
  | .normal | .ret => Lv P rs T K D w
  | _ => False
def argT : Nat → List Value → TT
  | _, [] => []
  | k, v :: vs => (k, v) :: argT (k + 1) vs
theorem argT_get : ∀ (vs : List Value) (k t : Nat) (v : Value), lk (argT k vs) t = some v → k ≤ t ∧ vs[t - k]? = some v
  | [], _, _, _, h => by cases h
  | u :: vs, k, t, v, h => by
    simp only [argT, lk] at h
    split at h
    · rename_i e; have := Nat.eq_of_beq_eq_true e; subst this; cases h; simp
    · obtain ⟨h1, h2⟩ := argT_get vs (k + 1) t v h
      refine ⟨by omega, ?_⟩
      rw [show t - k = (t - (k + 1)) + 1 from by omega]
      simpa using h2

/-- A FUNCTION's CALL, out of its body. -/
theorem call_of {P : Program} {f : FuncId} {fn : Func} {c : Code} {m : MC} {N : Nat} {args : List Value} {w : World} {K : Value → World → Prop} (hf : P.funcs[f]? = some fn) (hb : fn.body = some c) (hN : fn.ntmps = N) (hc : chkC P c m = true) (hd : allD (dlt N) m = true) (ha : args.length ≤ N)
    (h : G ⟨P, none, N⟩ [.c m] (argT 0 args) [] w (QF P fn.results.toList K)) : Calls P f ⟨args⟩ w fun e w' => ∃ v, e = .returned v ∧ K v w' := by
  refine (callsIn_wide (n := 0)).1 (callsIn_of_wp_marks hf hb trivial ?_)
  have hT : Tm (argT 0 args) [] N { tmps := ⟨args⟩ ++ Array.replicate (fn.ntmps - (⟨args⟩ : Array Value).size) undef, defers := [] } := by
    refine ⟨rfl, by simp [hN]; omega, fun t v hv => ?_⟩
    obtain ⟨_, h2⟩ := argT_get args 0 t v hv
    have hlt : t < args.length := by simpa using (List.getElem?_eq_some_iff.1 h2).1
    rw [Array.getElem?_append_left (by simpa using hlt)]
    simpa using h2
  have hG := h hd c _ hc hd hT
  refine wpIn_mono hG ?_
  have lv : ∀ (D : List Deferred) (T : TT) (w' : World) (tmps : Array Value), (∀ t v, lk T t = some v → tmps[t]? = some v) → Lv P fn.results.toList T K D w' → LeavesInM Fence.wide 0 P fn tmps (fun e w' => ∃ v, e = .returned v ∧ K v w') D .returning w' := by
    intro D
    induction D with
    | nil =>
      intro T w' tmps hs hv
      obtain ⟨vs, h1, h2⟩ := hv
      exact ⟨one vs, rvs_run hs h1, one vs, rfl, h2⟩
    | cons d ds ih =>
      intro T w' tmps hs hv
      obtain ⟨r, h1, h2, h3⟩ := hv
      exact ⟨by simp, .inl ⟨r, _, h1, run_takeDeferred h2, ih T _ tmps hs h3⟩⟩
  rintro e a' w' ⟨T', D', ha', hq⟩
  have hl : a'.defers = D' := ha'.ds
  cases e with
  | normal => simp only [bodyPostM]; rw [hl]; exact lv D' T' w' a'.tmps ha'.get hq
  | ret => simp only [bodyPostM]; rw [hl]; exact lv D' T' w' a'.tmps ha'.get hq
  | _ => exact hq.elim

section
variable {P : Program} {T : TT} {w : World} {K : Value → World → Prop}
theorem q_0 (h : K (.tuple ⟨[]⟩) w) : QF P [] K .ret T [] w := ⟨[], rfl, h⟩
theorem q_n (h : K (.tuple ⟨[]⟩) w) : QF P [] K .normal T [] w := ⟨[], rfl, h⟩
theorem q_1 {t : Nat} {v : Value} (ht : lk T t = some v) (h : K v w) : QF P [.tmp t] K .ret T [] w := ⟨[v], ⟨v, [], ht, rfl, rfl⟩, h⟩
theorem q_2 {t s : Nat} {v u : Value} (ht : lk T t = some v) (hs : lk T s = some u) (h : K (.tuple ⟨[v, u]⟩) w) : QF P [.tmp t, .tmp s] K .ret T [] w := ⟨[v, u], ⟨v, [u], ht, ⟨u, [], hs, rfl, rfl⟩, rfl⟩, h⟩
theorem q_3 {t s r : Nat} {v u x : Value} (ht : lk T t = some v) (hs : lk T s = some u) (hr : lk T r = some x) (h : K (.tuple ⟨[v, u, x]⟩) w) : QF P [.tmp t, .tmp s, .tmp r] K .ret T [] w :=
  ⟨[v, u, x], ⟨v, [u, x], ht, ⟨u, [x], hs, ⟨x, [], hr, rfl, rfl⟩, rfl⟩, rfl⟩, h⟩
end
end Go.En
