/- A region that draws its order: what is shown of the one order in which it was taken apart holds of every order. -/
import Derived.Test.YtegjocpjmfaigaaEnH
set_option linter.unusedSimpArgs false
set_option linter.unusedVariables false
namespace Go.En

/-- a guard: is the operation carried out? -/
def gv (T : TT) (m : MOp) : Option Bool := match m.g with
  | none => some true
  | some (t, b) => match lk T t with | some (.bool c) => some (c == b) | some (.tuple _) => some false | _ => none

/-- a quiet operation yields v (in whatever world, where it reads none) -/
def QV (P : Program) (m : MK) (T : TT) (w : World) (v : Value) : Prop := (m.plain = true ∧ ∀ w, Qt P m T w v) ∨ (m.plain = false ∧ Qt P m T w v)
theorem QV.qt {P : Program} {m : MK} {T : TT} {w : World} {v : Value} (h : QV P m T w v) : Qt P m T w v := h.elim (fun h => h.2 w) (fun h => h.2)
def PK (E : Env) (m : MOp) (T : TT) (w : World) (v : Value) : Prop := (gv T m = some true ∧ QV E.P m.k T w v) ∨ (gv T m = some false ∧ v = undef)
/-- a turning operation -/
def ES (E : Env) (m : MOp) (T : TT) (w : World) (K : Value → World → Prop) : Prop := (gv T m = some true ∧ Ef E.P E.r m.k T w K) ∨ (gv T m = some false ∧ K undef w)

mutual
def DRun (E : Env) (l : List MOp) : DT → TT → World → (TT → World → Prop) → Prop
  | .fin, T, w, K => K T w
  | .q i t, T, w, K => ∃ m v, l[i]? = some m ∧ m.d.isSome = true ∧ PK E m T w v ∧ DRun E l t (putT m.d v T) w K
  | .e i rc t, T, w, K => ∃ m, l[i]? = some m ∧ ES E m T w fun v w' => (∀ j ∈ rc, ∃ mj vj, l[j]? = some mj ∧ (∀ d, mj.d = some d → lk T d = some vj) ∧ PK E mj (putT m.d v T) w' vj) ∧ DRun E l t (putT m.d v T) w' K
  | .alt ts, T, w, K => DRuns E l ts T w K
def DRuns (E : Env) (l : List MOp) : List DT → TT → World → (TT → World → Prop) → Prop
  | [], _, _, _ => True
  | t :: ts, T, w, K => DRun E l t T w K ∧ DRuns E l ts T w K
end

/-- two lists of slots say the same of what is looked at -/
theorem Ag.of_same {T T' : TT} {xs : List Operand} {ρ : Operand → Value} (h : Ag T' xs ρ) (hs : ∀ t, (.tmp t) ∈ xs → lk T t = lk T' t) : Ag T xs ρ := by
  refine ⟨h.1, fun x hx v hv => h.2 x hx v ?_⟩
  cases x with
  | tmp t => simp only [ev] at hv ⊢; rw [← hs t hx]; exact hv
  | _ => exact hv
theorem Qt.of_same {P : Program} {m : MK} {T T' : TT} {w : World} {v : Value} (h : Qt P m T w v) (hs : ∀ t, (.tmp t) ∈ m.ops → lk T t = lk T' t) : Qt P m T' w v :=
  fun o ρ hc ha => h o ρ hc (ha.of_same hs)
theorem QV.of_same {P : Program} {m : MK} {T T' : TT} {w : World} {v : Value} (h : QV P m T w v) (hs : ∀ t, (.tmp t) ∈ m.ops → lk T t = lk T' t) : QV P m T' w v :=
  h.imp (fun h => ⟨h.1, fun w => (h.2 w).of_same hs⟩) (fun h => ⟨h.1, h.2.of_same hs⟩)
theorem sees_op {m : MOp} {t : Nat} (h : (.tmp t) ∈ m.k.ops) : t ∈ m.sees := by
  unfold MOp.sees
  exact List.mem_append.2 (.inl (List.mem_filterMap.2 ⟨_, h, rfl⟩))
theorem sees_g {m : MOp} {t : Nat} {b : Bool} (h : m.g = some (t, b)) : t ∈ m.sees := by
  unfold MOp.sees
  rw [h]; simp
theorem PK.of_same {E : Env} {m : MOp} {T T' : TT} {w : World} {v : Value} (h : PK E m T w v) (hs : ∀ t ∈ m.sees, lk T t = lk T' t) : PK E m T' w v := by
  have hg : gv T' m = gv T m := by
    unfold gv
    cases hm : m.g with
    | none => rfl
    | some p => obtain ⟨t, b⟩ := p; simp only; rw [hs t (sees_g hm)]
  rcases h with ⟨h1, h2⟩ | ⟨h1, h2⟩
  · exact .inl ⟨hg.trans h1, h2.of_same fun t ht => hs t (sees_op ht)⟩
  · exact .inr ⟨hg.trans h1, h2⟩
/-- another world, where none is read -/
theorem PK.world {E : Env} {m : MOp} {T : TT} {w w' : World} {v : Value} (h : PK E m T w v) (hp : m.k.plain = true) : PK E m T w' v := by
  rcases h with ⟨h1, h2⟩ | h
  · refine .inl ⟨h1, ?_⟩
    rcases h2 with h2 | ⟨h2, _⟩
    · exact .inl h2
    · rw [hp] at h2; cases h2
  · exact .inr h
theorem lk_put {d : Option Nat} {v : Value} {T : TT} {t : Nat} (h : d ≠ some t) : lk (putT d v T) t = lk T t := by
  cases d with
  | none => rfl
  | some s =>
    have hne : s ≠ t := fun e => h (by rw [e])
    simp only [putT, lk]
    cases e : Nat.beq s t with
    | true => exact absurd (Nat.eq_of_beq_eq_true e) hne
    | false => rfl
theorem lk_put_same {t : Nat} {v : Value} {T : TT} : lk (putT (some t) v T) t = some v := by simp [putT, lk]

/-! ### the operations, as they lie -/
theorem chkOps_get {P : Program} {ops : Array Oper} : ∀ {os : List Oper} {l : List MOp}, chkOps P ops os l = true → os.length = l.length ∧ ∀ (j : Nat) (o : Oper), os[j]? = some o → ∃ m, l[j]? = some m ∧ chkOp P ops o m = true
  | [], [], _ => ⟨rfl, fun j o h => by simp at h⟩
  | o :: os, m :: ms, h => by
    simp only [chkOps, Bool.and_eq_true] at h
    obtain ⟨h1, h2⟩ := chkOps_get h.2
    refine ⟨by simp [h1], fun j o' hj => ?_⟩
    cases j with
    | zero => simp at hj; subst hj; exact ⟨m, rfl, h.1⟩
    | succ j => simp only [List.getElem?_cons_succ] at hj ⊢; exact h2 j o' hj
  | [], _ :: _, h => by simp [chkOps] at h
  | _ :: _, [], h => by simp [chkOps] at h
theorem chkOp_parts {P : Program} {ops : Array Oper} {o : Oper} {m : MOp} (h : chkOp P ops o m = true) : o.dst = m.d ∧ geq ops o.guard m.g = true ∧ chkO P o.op o.type m.k = true := by
  simp only [chkOp, Bool.and_eq_true, decide_eq_true_eq] at h
  exact ⟨h.1.1, h.1.2, h.2⟩
/-- an operation is carried out just where its guard says so -/
theorem wanted_of {ops : Array Oper} {o : Oper} {m : MOp} {T : TT} {a : Act} {b : Bool} (hg : geq ops o.guard m.g = true) (hv : gv T m = some b) (ha : ∀ t b, m.g = some (t, b) → ∀ v, lk T t = some v → a.tmps[t]? = some v) :
    Region.wanted o (yielded ops a.tmps) = b := by
  unfold gv at hv
  cases hm : m.g with
  | none =>
    rw [hm] at hg hv
    simp at hv; subst hv
    cases ho : o.guard with
    | none => simp [Region.wanted, ho]
    | some p => simp [geq, ho] at hg
  | some p =>
    obtain ⟨t, c⟩ := p
    rw [hm] at hg hv
    cases ho : o.guard with
    | none => simp [geq, ho] at hg
    | some q =>
      obtain ⟨j, c'⟩ := q
      simp only [geq, ho, Bool.and_eq_true, decide_eq_true_eq] at hg
      obtain ⟨hg1, rfl⟩ := hg
      split at hg1
      · rename_i o' ho'
        split at hg1
        · rename_i d hd
          simp only [decide_eq_true_eq] at hg1
          subst hg1
          simp only at hv
          split at hv
          · rename_i x hx
            have := ha d c' hm _ hx
            simp at hv
            simp only [Region.wanted, ho, yielded, ho', Option.bind_some, hd, this]
            rw [← hv]
            cases x <;> cases c' <;> rfl
          · rename_i x hx
            have := ha d c' hm _ hx
            simp at hv
            simp only [Region.wanted, ho, yielded, ho', Option.bind_some, hd, this]
            rw [hv]
            cases c' <;> rfl
          · simp at hv
        · simp at hg1
      · simp at hg1

theorem about_tr {r : Option Nat} {P : Program} {o : Oper} {w : World} {ρ : Operand → Value} : ∀ f, o.about P w ρ = some f → (FW r).fn f := fun _ _ => trivial

/-- one operation, on slots that agree where it looks -/
theorem op_es {E : Env} {ops : Array Oper} {i : Nat} {o : Oper} {m : MOp} {T : TT} {a : Act} {w : World} {K : Value → World → Prop} {next : Act → World → Prop} {Q : Exit → Act → World → Prop} (ho : ops[i]? = some o) (hc : chkOp E.P ops o m = true)
    (hes : ES E m T w K) (hag : Ag T m.k.ops a.eval) (hgd : ∀ t b, m.g = some (t, b) → ∀ v, lk T t = some v → a.tmps[t]? = some v) (hn : ∀ v w', K v w' → next (a.put m.d v) w') :
    wpOpIn (FW E.r) 0 E.P ops Q i next a w := by
  obtain ⟨hd, hg, hk⟩ := chkOp_parts hc
  unfold wpOpIn
  rw [ho]
  simp only
  rcases hes with ⟨h1, h2⟩ | ⟨h1, h2⟩
  · rw [wanted_of hg h1 hgd, if_pos rfl]
    exact h2 o a next Q hk hag (fun v w' h => by rw [hd]; exact hn v w' h)
  · rw [wanted_of hg h1 hgd]
    refine ⟨about_tr, ?_⟩
    rw [hd]
    exact hn _ _ h2
theorem PK.es {E : Env} {m : MOp} {T : TT} {w : World} {v : Value} {K : Value → World → Prop} (h : PK E m T w v) (hk : K v w) : ES E m T w K := by
  rcases h with ⟨h1, h2⟩ | ⟨h1, rfl⟩
  · exact .inl ⟨h1, ef_qt h2.qt hk⟩
  · exact .inr ⟨h1, hk⟩

/-! ### every order -/
section
variable {E : Env} {ops : Array Oper} {l : List MOp} {pm : List Nat}

structure Iv (E : Env) (ops : Array Oper) (l : List MOp) (pm : List Nat) (C Ed : List Nat) (T : TT) (D : List Deferred) (w : World) (listed : Array Bool) (a : Act) : Prop where
  lz : listed.size = ops.size
  sub : ∀ i : Nat, listed[i]? = some true → i ∈ C ∨ i ∈ Ed
  eds : ∀ e ∈ Ed, listed[e]? = some true
  clo : ∀ i : Nat, listed[i]? = some true → ∀ e ∈ edges ops i, listed[e]? = some true
  ads : a.defers = D
  asz : a.tmps.size = E.N
  agr : ∀ t v, lk T t = some v → (∀ j ∈ C, listed[j]? ≠ some true → dstIs l j t = false) → a.tmps[t]? = some v
  cc : ∀ i ∈ C, ∀ j ∈ C, feeds l j i = true → pr pm i j = true
  pen : ∀ j ∈ C, listed[j]? ≠ some true → ∃ m v, l[j]? = some m ∧ (∀ d, m.d = some d → lk T d = some v) ∧ PK E m T w v

theorem edges_lt (h : chkE ops pm = true) {i e : Nat} (hi : i < ops.size) (he : e ∈ edges ops i) : e < i := by
  simp only [chkE, List.all_eq_true, List.mem_range, Bool.and_eq_true, decide_eq_true_eq] at h
  exact (h i hi).1 e he
theorem pr_step (h : chkE ops pm = true) {i k : Nat} (hi : i < ops.size) (hk : k < ops.size) (hp : pr pm i k = true) : ∃ e ∈ edges ops i, e = k ∨ pr pm e k = true := by
  simp only [chkE, List.all_eq_true, List.mem_range, Bool.and_eq_true, Bool.or_eq_true, Bool.not_eq_true', List.any_eq_true, beq_iff_eq] at h
  rcases (h i hi).2 k hk with h1 | h1
  · rw [hp] at h1; cases h1
  · exact h1
theorem lt_of_true {listed : Array Bool} {i : Nat} (h : listed[i]? = some true) : i < listed.size := (Array.getElem?_eq_some_iff.1 h).1
/-- what lies ahead of a listed one is listed -/
theorem pr_listed (h : chkE ops pm = true) {listed : Array Bool} (hz : listed.size = ops.size) (hclo : ∀ i : Nat, listed[i]? = some true → ∀ e ∈ edges ops i, listed[e]? = some true) :
    ∀ (i : Nat), listed[i]? = some true → ∀ k, k < ops.size → pr pm i k = true → listed[k]? = some true := by
  intro i
  induction i using Nat.strongRecOn with
  | ind i ih =>
    intro hi k hk hp
    have hlt : i < ops.size := by rw [← hz]; exact lt_of_true hi
    obtain ⟨e, he, h1⟩ := pr_step h hlt hk hp
    have hle := hclo i hi e he
    rcases h1 with rfl | h1
    · exact hle
    · exact ih e (edges_lt h hlt he) hle k hk h1
theorem pr_ready (h : chkE ops pm = true) {listed : Array Bool} (hz : listed.size = ops.size) (hclo : ∀ i : Nat, listed[i]? = some true → ∀ e ∈ edges ops i, listed[e]? = some true) {i : Nat} (hi : i < ops.size)
    (hr : ∀ e ∈ edges ops i, listed[e]? = some true) {k : Nat} (hk : k < ops.size) (hp : pr pm i k = true) : listed[k]? = some true := by
  obtain ⟨e, he, h1⟩ := pr_step h hi hk hp
  rcases h1 with rfl | h1
  · exact hr _ he
  · exact pr_listed h hz hclo e (hr e he) k hk h1
theorem ready_iff {listed : Array Bool} (hz : listed.size = ops.size) {i : Nat} : i ∈ Region.ready .any ops listed ↔ i < ops.size ∧ listed[i]? ≠ some true ∧ ∀ e ∈ edges ops i, listed[e]? = some true := by
  unfold Region.ready
  simp only [List.mem_filter, List.mem_range, Bool.and_eq_true, Bool.not_eq_true']
  constructor
  · rintro ⟨hi, h1, h2⟩
    have ho : ops[i]? = some ops[i] := Array.getElem?_eq_getElem hi
    rw [ho] at h2
    simp only [Option.map_some, Option.getD_some] at h2
    refine ⟨hi, ?_, ?_⟩
    · intro hc; simp [Array.getD_eq_getD_getElem?, hc] at h1
    · intro e he
      simp only [edges, ho, List.mem_map, List.mem_filter] at he
      obtain ⟨ed, ⟨hm, hb⟩, rfl⟩ := he
      rw [Array.all_eq_true'] at h2
      have := h2 ed (by simpa using hm)
      simp only [hb, Bool.not_true, Bool.false_or] at this
      simp only [Array.getD_eq_getD_getElem?] at this
      cases hx : listed[ed.on]? with
      | none => simp [hx] at this
      | some b => simp [hx] at this; rw [this]
  · rintro ⟨hi, h1, h2⟩
    have ho : ops[i]? = some ops[i] := Array.getElem?_eq_getElem hi
    refine ⟨hi, ?_, ?_⟩
    · have hl : i < listed.size := by omega
      simp only [Array.getD_eq_getD_getElem?, Array.getElem?_eq_getElem hl] at h1 ⊢
      cases hb : listed[i] with
      | true => rw [hb] at h1; exact absurd rfl h1
      | false => rfl
    · rw [ho]
      simp only [Option.map_some, Option.getD_some]
      rw [Array.all_eq_true']
      intro ed hm
      cases hb : Region.binds .any ed with
      | false => simp
      | true =>
        have := h2 ed.on (by simp only [edges, ho, List.mem_map, List.mem_filter]; exact ⟨ed, ⟨by simpa using hm, hb⟩, rfl⟩)
        simp [Array.getD_eq_getD_getElem?, this]
/-- nothing can come up: all are listed -/
theorem all_listed (h : chkE ops pm = true) {listed : Array Bool} (hz : listed.size = ops.size) (hr : Region.ready .any ops listed = []) : ∀ i, i < ops.size → listed[i]? = some true := by
  intro i
  induction i using Nat.strongRecOn with
  | ind i ih =>
    intro hi
    by_cases hl : listed[i]? = some true
    · exact hl
    · have : i ∈ Region.ready .any ops listed := (ready_iff hz).2 ⟨hi, hl, fun e he => by
        have := edges_lt h hi he
        exact ih e this (by omega)⟩
      rw [hr] at this; cases this
end
end Go.En
