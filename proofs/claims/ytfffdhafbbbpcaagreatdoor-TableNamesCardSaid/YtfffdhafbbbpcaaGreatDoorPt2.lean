/- EnQ -/
import Derived.Test.YtfffdhafbbbpcaaGreatDoorPt1
import Derived.Scope
import Derived.RangeFuncRecord
import Derived.ChangeKeysEq
set_option linter.unusedSimpArgs false
set_option linter.unusedVariables false
namespace Go.En
def gv (T : TT) (m : MOp) : Option Bool := match m.g with
 | none => some true
 | some (t, b) => match lk T t with | some (.bool c) => some (c == b) | some (.tuple _) => some false | _ => none
def QV (P : Program) (m : MK) (T : TT) (w : World) (v : Value) : Prop := (m.plain = true ∧ ∀ w, Qt P m T w v) ∨ (m.plain = false ∧ Qt P m T w v)
theorem QV.qt {P : Program} {m : MK} {T : TT} {w : World} {v : Value} (h : QV P m T w v) : Qt P m T w v := h.elim (fun h => h.2 w) (fun h => h.2)
def PK (E : Env) (m : MOp) (T : TT) (w : World) (v : Value) : Prop := (gv T m = some true ∧ QV E.P m.k T w v) ∨ (gv T m = some false ∧ v = undef)
def ES (E : Env) (m : MOp) (T : TT) (w : World) (K : Value → World → Prop) : Prop := (gv T m = some true ∧ Ef E.P E.r m.k T w K) ∨ (gv T m = some false ∧ K undef w)
mutual
def DRun (E : Env) (l : List MOp) : DT → TT → World → (TT → World → Prop) → Prop
 | .fin, T, w, K => K T w
 | .q i t, T, w, K => ∃ m v, l[i]? = some m ∧ m.d.isSome = true ∧ PK E m T w v ∧ DRun E l t (putT m.d v T) w K
 | .e i rc t, T, w, K => ∃ m, l[i]? = some m ∧ ES E m T w fun v w' => (∀ j ∈ rc, ∃ mj vj, l[j]? = some mj ∧ (∀ d, mj.d = some d → lk T d = some vj) ∧ PK E mj (putT m.d v T) w' vj) ∧ DRun E l t (putT m.d v T) w' K
 | .alt ts, T, w, K => DRuns E l ts T w K
def DRuns (E : Env) (l : List MOp) : List DT → TT → World → (TT → World → Prop) → Prop
 | [], _, _, _ => True
 | t :: ts, T, w, K => DRun E l t T w K ∧ DRuns E l ts T w K
end
theorem Ag.of_same {T T' : TT} {xs : List Operand} {ρ : Operand → Value} (h : Ag T' xs ρ) (hs : ∀ t, (.tmp t) ∈ xs → lk T t = lk T' t) : Ag T xs ρ := by
 refine ⟨h.1, fun x hx v hv => h.2 x hx v ?_⟩
 cases x with
 | tmp t => simp only [ev] at hv ⊢; rw [← hs t hx]; exact hv
 | _ => exact hv
theorem Qt.of_same {P : Program} {m : MK} {T T' : TT} {w : World} {v : Value} (h : Qt P m T w v) (hs : ∀ t, (.tmp t) ∈ m.ops → lk T t = lk T' t) : Qt P m T' w v :=
 fun o ρ hc ha => h o ρ hc (ha.of_same hs)
theorem QV.of_same {P : Program} {m : MK} {T T' : TT} {w : World} {v : Value} (h : QV P m T w v) (hs : ∀ t, (.tmp t) ∈ m.ops → lk T t = lk T' t) : QV P m T' w v :=
 h.imp (fun h => ⟨h.1, fun w => (h.2 w).of_same hs⟩) (fun h => ⟨h.1, h.2.of_same hs⟩)
theorem sees_op {m : MOp} {t : Nat} (h : (.tmp t) ∈ m.k.ops) : t ∈ m.sees := by
 unfold MOp.sees
 exact List.mem_append.2 (.inl (List.mem_filterMap.2 ⟨_, h, rfl⟩))
theorem sees_g {m : MOp} {t : Nat} {b : Bool} (h : m.g = some (t, b)) : t ∈ m.sees := by
 unfold MOp.sees
 rw [h]; simp
theorem PK.of_same {E : Env} {m : MOp} {T T' : TT} {w : World} {v : Value} (h : PK E m T w v) (hs : ∀ t ∈ m.sees, lk T t = lk T' t) : PK E m T' w v := by
 have hg : gv T' m = gv T m := by
  unfold gv
  cases hm : m.g with
  | none => rfl
  | some p => obtain ⟨t, b⟩ := p; simp only; rw [hs t (sees_g hm)]
 rcases h with ⟨h1, h2⟩ | ⟨h1, h2⟩
 ·exact .inl ⟨hg.trans h1, h2.of_same fun t ht => hs t (sees_op ht)⟩
 ·exact .inr ⟨hg.trans h1, h2⟩
theorem PK.world {E : Env} {m : MOp} {T : TT} {w w' : World} {v : Value} (h : PK E m T w v) (hp : m.k.plain = true) : PK E m T w' v := by
 rcases h with ⟨h1, h2⟩ | h
 ·refine .inl ⟨h1, ?_⟩
  rcases h2 with h2 | ⟨h2, _⟩
  ·exact .inl h2
  ·rw [hp] at h2; cases h2
 ·exact .inr h
theorem lk_put {d : Option Nat} {v : Value} {T : TT} {t : Nat} (h : d ≠ some t) : lk (putT d v T) t = lk T t := by
 cases d with
 | none => rfl
 | some s =>
  have hne : s ≠ t := fun e => h (by rw [e])
  simp only [putT, lk]
  cases e : Nat.beq s t with
  | true => exact absurd (Nat.eq_of_beq_eq_true e) hne
  | false => rfl
theorem lk_put_same {t : Nat} {v : Value} {T : TT} : lk (putT (some t) v T) t = some v := by simp [putT, lk]
/-! ### the operations, as they lie -/
theorem chkOps_get {P : Program} {ops : Array Oper} : ∀ {os : List Oper} {l : List MOp}, chkOps P ops os l = true → os.length = l.length ∧ ∀ (j : Nat) (o : Oper), os[j]? = some o → ∃ m, l[j]? = some m ∧ chkOp P ops o m = true
 | [], [], _ => ⟨rfl, fun j o h => by simp at h⟩
 | o :: os, m :: ms, h => by
  simp only [chkOps, Bool.and_eq_true] at h
  obtain ⟨h1, h2⟩ := chkOps_get h.2
  refine ⟨by simp [h1], fun j o' hj => ?_⟩
  cases j with
  | zero => simp at hj; subst hj; exact ⟨m, rfl, h.1⟩
  | succ j => simp only [List.getElem?_cons_succ] at hj ⊢; exact h2 j o' hj
 | [], _ :: _, h => by simp [chkOps] at h
 | _ :: _, [], h => by simp [chkOps] at h
theorem chkOp_parts {P : Program} {ops : Array Oper} {o : Oper} {m : MOp} (h : chkOp P ops o m = true) : o.dst = m.d ∧ geq ops o.guard m.g = true ∧ chkO P o.op o.type m.k = true := by
 simp only [chkOp, Bool.and_eq_true, decide_eq_true_eq] at h
 exact ⟨h.1.1, h.1.2, h.2⟩
theorem wanted_of {ops : Array Oper} {o : Oper} {m : MOp} {T : TT} {a : Act} {b : Bool} (hg : geq ops o.guard m.g = true) (hv : gv T m = some b) (ha : ∀ t b, m.g = some (t, b) → ∀ v, lk T t = some v → a.tmps[t]? = some v) :
  Region.wanted o (yielded ops a.tmps) = b := by
 unfold gv at hv
 cases hm : m.g with
 | none =>
  rw [hm] at hg hv
  simp at hv; subst hv
  cases ho : o.guard with
  | none => simp [Region.wanted, ho]
  | some p => simp [geq, ho] at hg
 | some p =>
  obtain ⟨t, c⟩ := p
  rw [hm] at hg hv
  cases ho : o.guard with
  | none => simp [geq, ho] at hg
  | some q =>
   obtain ⟨j, c'⟩ := q
   simp only [geq, ho, Bool.and_eq_true, decide_eq_true_eq] at hg
   obtain ⟨hg1, rfl⟩ := hg
   split at hg1
   ·rename_i o' ho'
    split at hg1
    ·rename_i d hd
     simp only [decide_eq_true_eq] at hg1
     subst hg1
     simp only at hv
     split at hv
     ·rename_i x hx
      have := ha d c' hm _ hx
      simp at hv
      simp only [Region.wanted, ho, yielded, ho', Option.bind_some, hd, this]
      rw [← hv]
      cases x <;> cases c' <;> rfl
     ·rename_i x hx
      have := ha d c' hm _ hx
      simp at hv
      simp only [Region.wanted, ho, yielded, ho', Option.bind_some, hd, this]
      rw [hv]
      cases c' <;> rfl
     ·simp at hv
    ·simp at hg1
   ·simp at hg1
theorem about_tr {r : Option Nat} {P : Program} {o : Oper} {w : World} {ρ : Operand → Value} : ∀ f, o.about P w ρ = some f → (FW r).fn f := fun _ _ => trivial
theorem op_es {E : Env} {ops : Array Oper} {i : Nat} {o : Oper} {m : MOp} {T : TT} {a : Act} {w : World} {K : Value → World → Prop} {next : Act → World → Prop} {Q : Exit → Act → World → Prop} (ho : ops[i]? = some o) (hc : chkOp E.P ops o m = true)
  (hes : ES E m T w K) (hag : Ag T m.k.ops a.eval) (hgd : ∀ t b, m.g = some (t, b) → ∀ v, lk T t = some v → a.tmps[t]? = some v) (hn : ∀ v w', K v w' → next (a.put m.d v) w') :
  wpOpIn (FW E.r) 0 E.P ops Q i next a w := by
 obtain ⟨hd, hg, hk⟩ := chkOp_parts hc
 unfold wpOpIn
 rw [ho]
 simp only
 rcases hes with ⟨h1, h2⟩ | ⟨h1, h2⟩
 ·rw [wanted_of hg h1 hgd, if_pos rfl]
  exact h2 o a next Q hk hag (fun v w' h => by rw [hd]; exact hn v w' h)
 ·rw [wanted_of hg h1 hgd]
  refine ⟨about_tr, ?_⟩
  rw [hd]
  exact hn _ _ h2
theorem PK.es {E : Env} {m : MOp} {T : TT} {w : World} {v : Value} {K : Value → World → Prop} (h : PK E m T w v) (hk : K v w) : ES E m T w K := by
 rcases h with ⟨h1, h2⟩ | ⟨h1, rfl⟩
 ·exact .inl ⟨h1, ef_qt h2.qt hk⟩
 ·exact .inr ⟨h1, hk⟩
/-! ### every order -/
section
variable {E : Env} {ops : Array Oper} {l : List MOp} {pm : List Nat}
structure Iv (E : Env) (ops : Array Oper) (l : List MOp) (pm : List Nat) (C Ed : List Nat) (T : TT) (D : List Deferred) (w : World) (listed : Array Bool) (a : Act) : Prop where
 lz : listed.size = ops.size
 sub : ∀ i : Nat, listed[i]? = some true → i ∈ C ∨ i ∈ Ed
 eds : ∀ e ∈ Ed, listed[e]? = some true
 clo : ∀ i : Nat, listed[i]? = some true → ∀ e ∈ edges ops i, listed[e]? = some true
 ads : a.defers = D
 asz : a.tmps.size = E.N
 agr : ∀ t v, lk T t = some v → (∀ j ∈ C, listed[j]? ≠ some true → dstIs l j t = false) → a.tmps[t]? = some v
 cc : ∀ i ∈ C, ∀ j ∈ C, feeds l j i = true → pr pm i j = true
 pen : ∀ j ∈ C, listed[j]? ≠ some true → ∃ m v, l[j]? = some m ∧ (∀ d, m.d = some d → lk T d = some v) ∧ PK E m T w v
theorem edges_lt (h : chkE ops pm = true) {i e : Nat} (hi : i < ops.size) (he : e ∈ edges ops i) : e < i := by
 simp only [chkE, List.all_eq_true, List.mem_range, Bool.and_eq_true, decide_eq_true_eq] at h
 exact (h i hi).1 e he
theorem pr_step (h : chkE ops pm = true) {i k : Nat} (hi : i < ops.size) (hk : k < ops.size) (hp : pr pm i k = true) : ∃ e ∈ edges ops i, e = k ∨ pr pm e k = true := by
 simp only [chkE, List.all_eq_true, List.mem_range, Bool.and_eq_true, Bool.or_eq_true, Bool.not_eq_true', List.any_eq_true, beq_iff_eq] at h
 rcases (h i hi).2 k hk with h1 | h1
 ·rw [hp] at h1; cases h1
 ·exact h1
theorem lt_of_true {listed : Array Bool} {i : Nat} (h : listed[i]? = some true) : i < listed.size := (Array.getElem?_eq_some_iff.1 h).1
theorem pr_listed (h : chkE ops pm = true) {listed : Array Bool} (hz : listed.size = ops.size) (hclo : ∀ i : Nat, listed[i]? = some true → ∀ e ∈ edges ops i, listed[e]? = some true) :
  ∀ (i : Nat), listed[i]? = some true → ∀ k, k < ops.size → pr pm i k = true → listed[k]? = some true := by
 intro i
 induction i using Nat.strongRecOn with
 | ind i ih =>
  intro hi k hk hp
  have hlt : i < ops.size := by rw [← hz]; exact lt_of_true hi
  obtain ⟨e, he, h1⟩ := pr_step h hlt hk hp
  have hle := hclo i hi e he
  rcases h1 with rfl | h1
  ·exact hle
  ·exact ih e (edges_lt h hlt he) hle k hk h1
theorem pr_ready (h : chkE ops pm = true) {listed : Array Bool} (hz : listed.size = ops.size) (hclo : ∀ i : Nat, listed[i]? = some true → ∀ e ∈ edges ops i, listed[e]? = some true) {i : Nat} (hi : i < ops.size)
  (hr : ∀ e ∈ edges ops i, listed[e]? = some true) {k : Nat} (hk : k < ops.size) (hp : pr pm i k = true) : listed[k]? = some true := by
 obtain ⟨e, he, h1⟩ := pr_step h hi hk hp
 rcases h1 with rfl | h1
 ·exact hr _ he
 ·exact pr_listed h hz hclo e (hr e he) k hk h1
theorem ready_iff {listed : Array Bool} (hz : listed.size = ops.size) {i : Nat} : i ∈ Region.ready .any ops listed ↔ i < ops.size ∧ listed[i]? ≠ some true ∧ ∀ e ∈ edges ops i, listed[e]? = some true := by
 unfold Region.ready
 simp only [List.mem_filter, List.mem_range, Bool.and_eq_true, Bool.not_eq_true']
 constructor
 ·rintro ⟨hi, h1, h2⟩
  have ho : ops[i]? = some ops[i] := Array.getElem?_eq_getElem hi
  rw [ho] at h2
  simp only [Option.map_some, Option.getD_some] at h2
  refine ⟨hi, ?_, ?_⟩
  ·intro hc; simp [Array.getD_eq_getD_getElem?, hc] at h1
  ·intro e he
   simp only [edges, ho, List.mem_map, List.mem_filter] at he
   obtain ⟨ed, ⟨hm, hb⟩, rfl⟩ := he
   rw [Array.all_eq_true'] at h2
   have := h2 ed (by simpa using hm)
   simp only [hb, Bool.not_true, Bool.false_or] at this
   simp only [Array.getD_eq_getD_getElem?] at this
   cases hx : listed[ed.on]? with
   | none => simp [hx] at this
   | some b => simp [hx] at this; rw [this]
 ·rintro ⟨hi, h1, h2⟩
  have ho : ops[i]? = some ops[i] := Array.getElem?_eq_getElem hi
  refine ⟨hi, ?_, ?_⟩
  ·have hl : i < listed.size := by omega
   simp only [Array.getD_eq_getD_getElem?, Array.getElem?_eq_getElem hl] at h1 ⊢
   cases hb : listed[i] with
   | true => rw [hb] at h1; exact absurd rfl h1
   | false => rfl
  ·rw [ho]
   simp only [Option.map_some, Option.getD_some]
   rw [Array.all_eq_true']
   intro ed hm
   cases hb : Region.binds .any ed with
   | false => simp
   | true =>
    have := h2 ed.on (by simp only [edges, ho, List.mem_map, List.mem_filter]; exact ⟨ed, ⟨by simpa using hm, hb⟩, rfl⟩)
    simp [Array.getD_eq_getD_getElem?, this]
theorem all_listed (h : chkE ops pm = true) {listed : Array Bool} (hz : listed.size = ops.size) (hr : Region.ready .any ops listed = []) : ∀ i, i < ops.size → listed[i]? = some true := by
 intro i
 induction i using Nat.strongRecOn with
 | ind i ih =>
  intro hi
  by_cases hl : listed[i]? = some true
  ·exact hl
  ·have : i ∈ Region.ready .any ops listed := (ready_iff hz).2 ⟨hi, hl, fun e he => by
    have := edges_lt h hi he
    exact ih e this (by omega)⟩
   rw [hr] at this; cases this
end
section
variable {E : Env} {ops : Array Oper} {l : List MOp} {pm : List Nat}
theorem feeds_of {i j : Nat} {mi mj : MOp} {t : Nat} (hi : l[i]? = some mi) (hj : l[j]? = some mj) (hd : mj.d = some t) (ht : t ∈ mi.sees) : feeds l j i = true := by
 simp [feeds, hj, hd, seesB, hi, ht]
theorem dst_of {j : Nat} {mj : MOp} {t : Nat} (hj : l[j]? = some mj) (h : mj.d = some t) : dstIs l j t = true := by simp [dstIs, hj, h]
theorem dst_not {j : Nat} {mj : MOp} {t : Nat} (hj : l[j]? = some mj) (h : mj.d ≠ some t) : dstIs l j t = false := by simp [dstIs, hj, h]
theorem Iv.ag {C Ed : List Nat} {T : TT} {D : List Deferred} {w : World} {listed : Array Bool} {a : Act} (hE : chkE ops pm = true) (hl : l.length = ops.size) (h : Iv E ops l pm C Ed T D w listed a) {i : Nat} {m : MOp} (hm : l[i]? = some m)
  (hr : ∀ e ∈ edges ops i, listed[e]? = some true) (hc : ∀ j ∈ C, feeds l j i = true → pr pm i j = true) :
  Ag T m.k.ops a.eval ∧ ∀ t b, m.g = some (t, b) → ∀ v, lk T t = some v → a.tmps[t]? = some v := by
 have hi : i < ops.size := by rw [← hl]; exact (List.getElem?_eq_some_iff.1 hm).1
 have key : ∀ t ∈ m.sees, ∀ v, lk T t = some v → a.tmps[t]? = some v := by
  intro t ht v hv
  refine h.agr t v hv fun j hj hnl => ?_
  cases hd : dstIs l j t with
  | false => rfl
  | true =>
   exfalso
   unfold dstIs at hd
   split at hd
   ·rename_i mj hmj
    simp only [decide_eq_true_eq] at hd
    have hp := hc j hj (feeds_of hm hmj hd ht)
    have hjlt : j < ops.size := by rw [← hl]; exact (List.getElem?_eq_some_iff.1 hmj).1
    exact hnl (pr_ready hE h.lz h.clo hi hr hjlt hp)
   ·cases hd
 refine ⟨⟨fun _ => rfl, fun x hx v hv => ?_⟩, fun t b hg v hv => key t (sees_g hg) v hv⟩
 cases x with
 | tmp t =>
  have := key t (sees_op hx) v hv
  simp only [Act.eval, Array.getD_eq_getD_getElem?, this, Option.getD_some]
 | const c => simp [ev] at hv; exact hv
 | global g => simp [ev] at hv; exact hv
 | func f => simp [ev] at hv; exact hv
theorem set_true {listed : Array Bool} {i j : Nat} (hi : i < listed.size) : (listed.setIfInBounds i true)[j]? = some true ↔ j = i ∨ listed[j]? = some true := by
 rw [Array.getElem?_setIfInBounds]
 by_cases e : i = j
 ·subst e; simp [hi]
 ·simp only [e, if_false]
  exact ⟨.inr, fun h => h.elim (fun h => absurd h.symm e) id⟩
theorem put_get {a : Act} {d : Option Nat} {v : Value} {t : Nat} {u : Value} (h : a.tmps[t]? = some u) (hd : d ≠ some t) : (a.put d v).tmps[t]? = some u := by
 cases d with
 | none => exact h
 | some s =>
  simp only [Act.put]
  rw [Array.getElem?_setIfInBounds_ne (fun e => hd (by rw [e]))]
  exact h
theorem put_same {a : Act} {t : Nat} {v : Value} (h : t < a.tmps.size) : (a.put (some t) v).tmps[t]? = some v := by simp [Act.put, h]
theorem put_ds {a : Act} {d : Option Nat} {v : Value} : (a.put d v).defers = a.defers ∧ (a.put d v).tmps.size = a.tmps.size := by cases d <;> simp [Act.put]
theorem Iv.quiet {C Ed : List Nat} {T : TT} {D : List Deferred} {w : World} {listed : Array Bool} {a : Act} (hl : l.length = ops.size) (hdk : ∀ (j : Nat) (m : MOp), l[j]? = some m → dOk m.d E.N)
  (h : Iv E ops l pm C Ed T D w listed a) {i : Nat} {m : MOp} {v : Value} (hm : l[i]? = some m) (hi : i ∈ C) (hr : ∀ e ∈ edges ops i, listed[e]? = some true) (hv : ∀ d, m.d = some d → lk T d = some v) :
  Iv E ops l pm C Ed T D w (listed.setIfInBounds i true) (a.put m.d v) := by
 have hlt : i < listed.size := by rw [h.lz, ← hl]; exact (List.getElem?_eq_some_iff.1 hm).1
 refine ⟨by simp [h.lz], ?_, ?_, ?_, put_ds.1.trans h.ads, put_ds.2.trans h.asz, ?_, h.cc, ?_⟩
 ·intro j hj
  rcases (set_true hlt).1 hj with rfl | hj
  ·exact .inl hi
  ·exact h.sub j hj
 ·exact fun e he => (set_true hlt).2 (.inr (h.eds e he))
 ·intro j hj e he
  rcases (set_true hlt).1 hj with rfl | hj
  ·exact (set_true hlt).2 (.inr (hr e he))
  ·exact (set_true hlt).2 (.inr (h.clo j hj e he))
 ·intro t u ht hp
  by_cases hd : m.d = some t
  ·have hvv := hv t hd
   rw [ht] at hvv
   cases hvv
   rw [hd]
   exact put_same (by rw [h.asz]; exact hdk i m hm t hd)
  ·refine put_get (h.agr t u ht fun j hj hnl => ?_) hd
   by_cases e : j = i
   ·subst e; exact dst_not hm hd
   ·exact hp j hj (fun hc => ((set_true hlt).1 hc).elim e hnl)
 ·intro j hj hnl
  exact h.pen j hj (fun hc => hnl ((set_true hlt).2 (.inr hc)))
def left (listed : Array Bool) : Nat := (listed.toList.filter (! ·)).length
theorem left_list : ∀ (xs : List Bool) (i : Nat), i < xs.length → xs[i]? ≠ some true → ((xs.set i true).filter (! ·)).length + 1 = (xs.filter (! ·)).length
 | [], i, hi, _ => by simp at hi
 | true :: xs, 0, _, h => absurd rfl h
 | false :: xs, 0, _, _ => rfl
 | x :: xs, i + 1, hi, h => by
  have := left_list xs i (by simpa using hi) (by simpa using h)
  simp only [List.set_cons_succ, List.filter_cons]
  cases x <;> simp at this ⊢ <;> omega
theorem left_set {listed : Array Bool} {i : Nat} (hi : i < listed.size) (h : listed[i]? ≠ some true) : left (listed.setIfInBounds i true) + 1 = left listed := by
 have := left_list listed.toList i (by simpa using hi) (by simpa using h)
 unfold left
 rw [Array.toList_setIfInBounds]
 exact this
theorem left_zero {listed : Array Bool} (h : left listed = 0) : ∀ i, i < listed.size → listed[i]? = some true := by
 intro i hi
 rw [Array.getElem?_eq_getElem hi]
 congr 1
 cases hb : listed[i] with
 | true => rfl
 | false =>
  have : listed[i] ∈ listed.toList.filter (! ·) := by
   refine List.mem_filter.2 ⟨?_, by simp [hb]⟩
   rw [Array.mem_toList_iff]
   exact Array.getElem_mem hi
  unfold left at h
  rw [List.length_eq_zero_iff.1 h] at this
  cases this
structure Alt (E : Env) (ops : Array Oper) (l : List MOp) (pm C Ed : List Nat) (T : TT) (D : List Deferred) (w : World) (Q : Exit → Act → World → Prop) (e : Nat) : Prop where
 st : ∃ rc, turnB l pm C Ed e rc = true ∧ ∃ m, l[e]? = some m ∧ ES E m T w fun v w' => (∀ j ∈ rc, ∃ mj vj, l[j]? = some mj ∧ (∀ d, mj.d = some d → lk T d = some vj) ∧ PK E mj (putT m.d v T) w' vj) ∧
  ∀ fuel listed a, left listed ≤ fuel → Iv E ops l pm C (e :: Ed) (putT m.d v T) D w' listed a → wpAnyIn (FW E.r) 0 E.P .any ops Q fuel listed a w'
theorem stop {C Ed A : List Nat} {T : TT} {D : List Deferred} {w : World} {Q : Exit → Act → World → Prop} (hE : chkE ops pm = true) (hl : l.length = ops.size) (hop : ∀ (j : Nat) (o : Oper), ops[j]? = some o → ∃ m, l[j]? = some m ∧ chkOp E.P ops o m = true)
  (hdk : ∀ (j : Nat) (m : MOp), l[j]? = some m → dOk m.d E.N) (hshut : shutB l pm C Ed A = true) (hA : ∀ e ∈ A, Alt E ops l pm C Ed T D w Q e) (hfin : A = [] → ∀ a, Tm T D E.N a → Q .normal a w) :
  ∀ fuel listed a, left listed ≤ fuel → Iv E ops l pm C Ed T D w listed a → wpAnyIn (FW E.r) 0 E.P .any ops Q fuel listed a w := by
 have hmem : ∀ {listed : Array Bool} {a : Act}, Iv E ops l pm C Ed T D w listed a → ∀ i ∈ Region.ready .any ops listed, i ∈ C ∨ i ∈ A := by
  intro listed a h i hi
  obtain ⟨hlt, hnl, hr⟩ := (ready_iff h.lz).1 hi
  simp only [shutB, List.all_eq_true, List.mem_range, Bool.or_eq_true, List.contains_iff_mem, List.any_eq_true, Bool.and_eq_true, Bool.not_eq_true'] at hshut
  rcases hshut i (by omega) with ((h1 | h1) | h1) | ⟨k, hk, ⟨h1, h2⟩, h3⟩
  ·exact .inl h1
  ·exact absurd (h.eds i h1) hnl
  ·exact .inr h1
  ·exfalso
   have hkl := pr_ready hE h.lz h.clo hlt hr (by omega) h1
   rcases h.sub k hkl with h4 | h4
   ·rw [List.contains_iff_mem.2 h4] at h2; cases h2
   ·rw [List.contains_iff_mem.2 h4] at h3; cases h3
 have hend : ∀ {listed : Array Bool} {a : Act}, Iv E ops l pm C Ed T D w listed a → Region.ready .any ops listed = [] → Q .normal a w := by
  intro listed a h hr
  have hall := all_listed hE h.lz hr
  have hnil : A = [] := by
   cases hA' : A with
   | nil => rfl
   | cons e A' =>
    exfalso
    obtain ⟨rc, ht, m, hm, _⟩ := (hA e (by rw [hA']; simp)).st
    simp only [turnB, Bool.and_eq_true, decide_eq_true_eq, Bool.not_eq_true'] at ht
    obtain ⟨⟨⟨h1, h2⟩, h3⟩, _⟩ := ht
    rcases h.sub e (hall e (by omega)) with h4 | h4
    ·rw [List.contains_iff_mem.2 h4] at h2; cases h2
    ·rw [List.contains_iff_mem.2 h4] at h3; cases h3
  refine hfin hnil a ⟨h.ads, h.asz, fun t v ht => h.agr t v ht fun j hj hnl => ?_⟩
  by_cases hjl : j < ops.size
  ·exact absurd (hall j hjl) hnl
  ·simp [dstIs, List.getElem?_eq_none (show l.length ≤ j by omega)]
 intro fuel
 induction fuel with
 | zero =>
  intro listed a hf h
  have hz := left_zero (Nat.le_zero.1 hf)
  have hr : Region.ready .any ops listed = [] := by
   cases hrd : Region.ready .any ops listed with
   | nil => rfl
   | cons i _ =>
    exfalso
    have : i ∈ Region.ready .any ops listed := by rw [hrd]; simp
    obtain ⟨hlt, hnl, _⟩ := (ready_iff h.lz).1 this
    exact hnl (hz i (by rw [h.lz]; exact hlt))
  exact ⟨hr, hend h hr⟩
 | succ fuel ih =>
  intro listed a hf h
  refine ⟨hend h, fun i hi => ?_⟩
  obtain ⟨hlt, hnl, hr⟩ := (ready_iff h.lz).1 hi
  have hls : i < listed.size := by rw [h.lz]; exact hlt
  have hleft := left_set hls hnl
  have ho : ops[i]? = some ops[i] := Array.getElem?_eq_getElem hlt
  obtain ⟨m, hm, hc⟩ := hop i _ ho
  rcases hmem h i hi with hC | hA'
  ·obtain ⟨m', v, hm', hv, hpk⟩ := h.pen i hC hnl
   rw [hm] at hm'; cases hm'
   obtain ⟨hag, hgd⟩ := h.ag hE hl hm hr (fun j hj hf => h.cc i hC j hj hf)
   exact op_es ho hc (hpk.es (K := fun u w' => u = v ∧ w' = w) ⟨rfl, rfl⟩) hag hgd (fun u w' ⟨hu, hw⟩ => by
    subst hu hw
    exact ih _ _ (by omega) (h.quiet hl hdk hm hC hr hv))
  ·obtain ⟨rc, ht, m', hm', hes⟩ := (hA i hA').st
   rw [hm] at hm'; cases hm'
   simp only [turnB, Bool.and_eq_true, decide_eq_true_eq, Bool.not_eq_true', List.all_eq_true, Bool.or_eq_true, List.any_eq_true, List.contains_iff_mem] at ht
   obtain ⟨⟨⟨_, hnC⟩, _⟩, hall⟩ := ht
   obtain ⟨hag, hgd⟩ := h.ag hE hl hm hr (fun j hj hf => by
    rcases (hall j hj).1 with h1 | h1
    ·rw [hf] at h1; cases h1
    ·exact h1)
   refine op_es ho hc hes hag hgd ?_
   rintro v w' ⟨hrc, hk⟩
   refine hk _ _ _ (by omega) ?_
   have hpend : ∀ j ∈ C, (listed.setIfInBounds i true)[j]? ≠ some true → feeds l i j = false ∧ sameD l i j = false ∧ (plainB l j = true ∨ j ∈ rc) := by
    intro j hj hnj
    have hnj' : listed[j]? ≠ some true := fun hc => hnj ((set_true hls).2 (.inr hc))
    rcases (hall j hj).2 with h1 | ⟨⟨h1, h2⟩, h3⟩
    ·exfalso
     have hjl : j < ops.size := by
      obtain ⟨mj, _, hmj, _⟩ := h.pen j hj hnj'
      rw [← hl]; exact (List.getElem?_eq_some_iff.1 hmj).1
     rcases h1 with h1 | ⟨e, he, h1⟩
     ·exact hnj' (pr_ready hE h.lz h.clo hlt hr hjl h1)
     ·exact hnj' (pr_listed hE h.lz h.clo e (h.eds e he) j hjl h1)
    ·exact ⟨h1, h2, h3⟩
   have hsee : ∀ j mj, l[j]? = some mj → feeds l i j = false → ∀ t ∈ mj.sees, lk T t = lk (putT m.d v T) t := by
    intro j mj hmj hf t ht
    symm
    refine lk_put fun hd => ?_
    rw [feeds_of hmj hm hd ht] at hf; cases hf
   refine ⟨by simp [h.lz], ?_, ?_, ?_, put_ds.1.trans h.ads, put_ds.2.trans h.asz, ?_, h.cc, ?_⟩
   ·intro j hj
    rcases (set_true hls).1 hj with rfl | hj
    ·exact .inr (by simp)
    ·exact (h.sub j hj).imp id (fun h => by simp [h])
   ·intro e he
    rcases List.mem_cons.1 he with rfl | he
    ·exact (set_true hls).2 (.inl rfl)
    ·exact (set_true hls).2 (.inr (h.eds e he))
   ·intro j hj e he
    rcases (set_true hls).1 hj with rfl | hj
    ·exact (set_true hls).2 (.inr (hr e he))
    ·exact (set_true hls).2 (.inr (h.clo j hj e he))
   ·intro t u ht hp
    by_cases hd : m.d = some t
    ·rw [hd, lk_put_same] at ht
     cases ht
     rw [hd]
     exact put_same (by rw [h.asz]; exact hdk i m hm t hd)
    ·rw [lk_put hd] at ht
     refine put_get (h.agr t u ht fun j hj hnj => ?_) hd
     refine hp j hj fun hc => ?_
     rcases (set_true hls).1 hc with rfl | hc
     ·rw [List.contains_iff_mem.2 hj] at hnC; cases hnC
     ·exact hnj hc
   ·intro j hj hnj
    have hnj' : listed[j]? ≠ some true := fun hc => hnj ((set_true hls).2 (.inr hc))
    obtain ⟨mj, vj, hmj, hvj, hpk⟩ := h.pen j hj hnj'
    obtain ⟨hf, hs, hp⟩ := hpend j hj hnj
    have hdj : ∀ d, mj.d = some d → m.d ≠ some d := by
     intro d hd hd'
     simp [sameD, hm, hmj, hd, hd'] at hs
    rcases hp with hp | hp
    ·have hpl : mj.k.plain = true := by simpa [plainB, hmj] using hp
     exact ⟨mj, vj, hmj, fun d hd => by rw [lk_put (hdj d hd)]; exact hvj d hd, (hpk.of_same (hsee j mj hmj hf)).world hpl⟩
    ·obtain ⟨mj', vj', hmj', hvj', hpk'⟩ := hrc j hp
     rw [hmj] at hmj'; cases hmj'
     exact ⟨mj, vj', hmj, fun d hd => by rw [lk_put (hdj d hd)]; exact hvj' d hd, hpk'⟩
theorem draw_sound {D : List Deferred} {Q : Exit → Act → World → Prop} {K : TT → World → Prop} (hE : chkE ops pm = true) (hl : l.length = ops.size) (hop : ∀ (j : Nat) (o : Oper), ops[j]? = some o → ∃ m, l[j]? = some m ∧ chkOp E.P ops o m = true)
  (hdk : ∀ (j : Nat) (m : MOp), l[j]? = some m → dOk m.d E.N) (hK : ∀ T w a, K T w → Tm T D E.N a → Q .normal a w) :
  ∀ (t : DT) (C Ed : List Nat) (T : TT) (w : World), chkT l pm t C Ed = true → DRun E l t T w K → ∀ fuel listed a, left listed ≤ fuel → Iv E ops l pm C Ed T D w listed a → wpAnyIn (FW E.r) 0 E.P .any ops Q fuel listed a w
 | .fin, C, Ed, T, w, hc, hd => by
  simp only [chkT] at hc
  simp only [DRun] at hd
  exact stop (A := []) hE hl hop hdk hc (fun e he => by cases he) (fun _ a ha => hK T w a hd ha)
 | .q i t, C, Ed, T, w, hc, hd => by
  simp only [chkT, Bool.and_eq_true, decide_eq_true_eq, Bool.not_eq_true', List.all_eq_true, Bool.or_eq_true] at hc
  obtain ⟨⟨⟨⟨⟨hlt, hnC⟩, hnE⟩, hself⟩, hall⟩, hc⟩ := hc
  simp only [DRun] at hd
  obtain ⟨m, v, hm, hsome, hpk, hd⟩ := hd
  obtain ⟨d, hdd⟩ := Option.isSome_iff_exists.1 hsome
  have ih := draw_sound hE hl hop hdk hK t (i :: C) Ed (putT m.d v T) w hc hd
  intro fuel listed a hf h
  have hi : i ∉ C := fun h => by rw [List.contains_iff_mem.2 h] at hnC; cases hnC
  have hie : i ∉ Ed := fun h => by rw [List.contains_iff_mem.2 h] at hnE; cases hnE
  have hnl : listed[i]? ≠ some true := fun hc => (h.sub i hc).elim hi hie
  refine ih fuel listed a hf ⟨h.lz, fun j hj => (h.sub j hj).imp (fun h => by simp [h]) id, h.eds, h.clo, h.ads, h.asz, ?_, ?_, ?_⟩
  ·intro t' u ht hp
   have h1 := hp i (by simp) hnl
   have hne : m.d ≠ some t' := by
    intro e
    rw [dst_of hm e] at h1; cases h1
   rw [lk_put hne] at ht
   exact h.agr t' u ht fun j hj hnj => hp j (by simp [hj]) hnj
  ·intro j hj k hk hf
   rcases List.mem_cons.1 hj with ej | hj'
   ·rcases List.mem_cons.1 hk with ek | hk'
    ·rw [ej, ek] at hf; rw [hself] at hf; cases hf
    ·rw [ej] at hf ⊢
     rcases ((hall k hk').1).1 with h1 | h1
     ·rw [hf] at h1; cases h1
     ·exact h1
   ·rcases List.mem_cons.1 hk with ek | hk'
    ·rw [ek] at hf; rw [((hall j hj').1).2] at hf; cases hf
    ·exact h.cc j hj' k hk' hf
  ·intro j hj hnj
   rcases List.mem_cons.1 hj with rfl | hj
   ·refine ⟨m, v, hm, fun d' hd' => by rw [hd']; exact lk_put_same, hpk.of_same fun t' ht' => ?_⟩
    symm
    refine lk_put fun e => ?_
    rw [feeds_of hm hm e ht'] at hself; cases hself
   ·obtain ⟨mj, vj, hmj, hvj, hpkj⟩ := h.pen j hj hnj
    have h2 := (hall j hj).1.2
    have h3 := (hall j hj).2
    refine ⟨mj, vj, hmj, fun d' hd' => ?_, hpkj.of_same fun t' ht' => ?_⟩
    ·rw [lk_put]
     ·exact hvj d' hd'
     ·intro e
      simp [sameD, hm, hmj, e, hd'] at h3
    ·symm
     refine lk_put fun e => ?_
     rw [feeds_of hmj hm e ht'] at h2; cases h2
 | .e i rc t, C, Ed, T, w, hc, hd => by
  simp only [chkT, Bool.and_eq_true] at hc
  obtain ⟨⟨hs, ht⟩, hc⟩ := hc
  simp only [DRun] at hd
  obtain ⟨m, hm, hes⟩ := hd
  refine stop (A := [i]) hE hl hop hdk hs (fun e he => ?_) (fun h => by cases h)
  have : e = i := by simpa using he
  subst this
  refine ⟨rc, ht, m, hm, ?_⟩
  refine hes.imp (fun h => ⟨h.1, ?_⟩) (fun h => ⟨h.1, h.2.1, ?_⟩)
  ·intro o a next Q' hk hag hn
   exact h.2 o a next Q' hk hag fun v w' ⟨h1, h2⟩ => hn v w' ⟨h1, draw_sound hE hl hop hdk hK t C (e :: Ed) _ w' hc h2⟩
  ·exact draw_sound hE hl hop hdk hK t C (e :: Ed) _ w hc h.2.2
 | .alt ts, C, Ed, T, w, hc, hd => by
  simp only [chkT, Bool.and_eq_true] at hc
  simp only [DRun] at hd
  refine stop (A := roots ts) hE hl hop hdk hc.1.2 (fun e he => draws_sound hE hl hop hdk hK ts C Ed T w hc.2 hd e he) (fun h a ha => ?_)
  cases ts with
  | nil => have := hc.1.1; simp at this
  | cons t ts =>
   have hc2 := hc.2
   cases t <;> simp [chkTs, roots] at hc2 h
where draws_sound {D : List Deferred} {Q : Exit → Act → World → Prop} {K : TT → World → Prop} (hE : chkE ops pm = true) (hl : l.length = ops.size) (hop : ∀ (j : Nat) (o : Oper), ops[j]? = some o → ∃ m, l[j]? = some m ∧ chkOp E.P ops o m = true)
  (hdk : ∀ (j : Nat) (m : MOp), l[j]? = some m → dOk m.d E.N) (hK : ∀ T w a, K T w → Tm T D E.N a → Q .normal a w) :
  ∀ (ts : List DT) (C Ed : List Nat) (T : TT) (w : World), chkTs l pm ts C Ed = true → DRuns E l ts T w K → ∀ e ∈ roots ts, Alt E ops l pm C Ed T D w Q e
 | [], _, _, _, _, _, _ => fun e he => by cases he
 | .e i rc t :: ts, C, Ed, T, w, hc, hd => by
  simp only [chkTs, Bool.and_eq_true] at hc
  simp only [DRuns, DRun] at hd
  intro e he
  simp only [roots, List.mem_cons] at he
  rcases he with rfl | he
  ·obtain ⟨m, hm, hes⟩ := hd.1
   refine ⟨rc, hc.1.1, m, hm, ?_⟩
   refine hes.imp (fun h => ⟨h.1, ?_⟩) (fun h => ⟨h.1, h.2.1, ?_⟩)
   ·intro o a next Q' hk hag hn
    exact h.2 o a next Q' hk hag fun v w' ⟨h1, h2⟩ => hn v w' ⟨h1, draw_sound hE hl hop hdk hK t C (e :: Ed) _ w' hc.1.2 h2⟩
   ·exact draw_sound hE hl hop hdk hK t C (e :: Ed) _ w hc.1.2 h.2.2
  ·exact draws_sound hE hl hop hdk hK ts C Ed T w hc.2 hd.2 e he
 | .fin :: _, _, _, _, _, hc, _ => by simp [chkTs] at hc
 | .q .. :: _, _, _, _, _, hc, _ => by simp [chkTs] at hc
 | .alt _ :: _, _, _, _, _, hc, _ => by simp [chkTs] at hc
end
variable {P : Program} {T : TT}
theorem places_run (fs : List Field) (w : World) : (∀ f ∈ fs, (P.info? f.type).isSome = true) → (fs.mapM fun f => (do pure (f.offset, ← sizeOf f.type) : Sem (Nat × Nat))).run P w = .ok (fs.map fun f => (f.offset, P.cellsOf f.type)) w := by
 induction fs with
 | nil => intro _; simp
 | cons f fs ih =>
  intro h
  obtain ⟨i, hi⟩ := Option.isSome_iff_exists.1 (h f (by simp))
  have hs : (sizeOf f.type).run P w = .ok (P.cellsOf f.type) w := by simp [sizeOf, typeInfo, hi, Program.cellsOf]
  simp only [List.mapM_cons, Sem.run_bind, hs, Result.andThen_ok, Sem.run_pure, ih (fun g hg => h g (by simp [hg])), List.map_cons]
theorem fill_sound {t : TypeId} {ρ : Operand → Value} : ∀ (qs : List (Nat × Nat × Operand)) (ps : List (Nat × Operand)) (l out : List Value),
  (∀ x ∈ qs.map (·.2.2), ∀ v, ev T x = some v → ρ x = v) → chkParts P t ps qs = true →
  fillP T qs l = some out → ∃ o, Instr.fill (plc P t) ⟨l⟩ (ps.map fun p => (p.1, ρ p.2)) = some o ∧ o = ⟨out⟩
 | [], [], l, out, _, _, h => by simp [fillP] at h; subst h; exact ⟨_, rfl, rfl⟩
 | (off, sz, x) :: qs, (i, y) :: ps, l, out, ha, hc, h => by
  simp only [chkParts, Bool.and_eq_true, decide_eq_true_eq] at hc
  obtain ⟨⟨h1, h2⟩, hc⟩ := hc
  have h2 := oeq_eq h2
  subst h2
  unfold fillP at h
  split at h
  ·rename_i v hv
   split at h
   ·rename_i e1 e2
    have e1 := Nat.eq_of_beq_eq_true e1
    have e2 := Nat.le_of_ble_eq_true e2
    have ev' := ha y (by simp) v hv
    have hsz : v.cells.size = sz := by simpa using e1
    have e2' : off + v.cells.size ≤ l.length := by simpa using e2
    have hf := foldl_set' v.cells off ⟨l⟩ (by simpa using e2')
    obtain ⟨o, ho, ho2⟩ := fill_sound qs ps _ out (fun q hq => ha q (by simp only [List.map_cons, List.mem_cons]; exact .inr hq)) hc h
    refine ⟨o, ?_, ho2⟩
    simp only [List.map_cons, Instr.fill, h1, ev']
    rw [if_neg (by simp only [List.size_toArray, Bool.or_eq_true, decide_eq_true_eq]; omega)]
    rw [← ho]
    congr 1
    apply Array.ext'
    exact hf
   ·simp at h
  ·simp at h
 | [], _ :: _, _, _, _, h, _ => by simp [chkParts] at h
 | _ :: _, [], _, _, _, h, _ => by simp [chkParts] at h
theorem qt_bd {z : ZZ} {ps : List (Nat × Nat × Operand)} {out : List Value} (hf : fillP T ps (zx z) = some out) (w : World) : Qt P (.bd z ps) T w (.agg ⟨out⟩) := by
 rintro ⟨dst, op, ty, pos, after, guard⟩ ρ hc ha
 cases op <;> simp only [chkO, Bool.false_eq_true, Bool.and_eq_true] at hc
 rename_i t qs
 obtain ⟨⟨hz, hp⟩, hc⟩ := hc
 obtain ⟨zv, hzr, hzl⟩ := zeroIs_run (P := P) hz w
 obtain ⟨o, ho, rfl⟩ := fill_sound (P := P) (t := t) (ρ := ρ) ps qs.toList (zx z) out (fun x hx v hv => ha.2 x (by simp only [MK.ops]; exact hx) v hv) hp hf
 have hzc : zv.cells = ⟨zx z⟩ := by rw [← hzl]
 have hmap : (qs.map fun x => (x.1, ρ x.2)).toList = qs.toList.map fun p => (p.1, ρ p.2) := by rw [Array.toList_map]
 split at hc
 ·rename_i fs hu
  have hpl : plc P t = fun i => (fs[i]?).map fun f => (f.offset, P.cellsOf f.type) := by funext i; simp [plc, hu]
  have hpr : (fs.mapM fun f => (do pure (f.offset, ← sizeOf f.type) : Sem (Nat × Nat))).run P w = .ok (fs.map fun f => (f.offset, P.cellsOf f.type)) w := by
   rw [← Array.toArray_toList (xs := fs), List.mapM_toArray, Sem.run_map, places_run fs.toList w (fun f hf => List.all_eq_true.1 hc f hf)]
   simp only [Result.andThen_ok]
   congr 1
   apply Array.ext'
   simp
  have hpl' : (fun i => (fs.map fun f => (f.offset, P.cellsOf f.type))[i]?) = plc P t := by rw [hpl]; funext i; simp
  simp only [execOp, Instr.build, Sem.run_bind, hzr, Result.andThen_ok, run_underlying hu w, hpr, hmap, hzc]
  rw [hpl', ho]
  rfl
 ·rename_i n e hu
  obtain ⟨i, hi⟩ := Option.isSome_iff_exists.1 hc
  have hs : (sizeOf e).run P w = .ok (P.cellsOf e) w := by simp [sizeOf, typeInfo, hi, Program.cellsOf]
  have hpl : plc P t = fun i => some (i * P.cellsOf e, P.cellsOf e) := by funext i; simp [plc, hu]
  simp only [execOp, Instr.build, Sem.run_bind, hzr, Result.andThen_ok, run_underlying hu w, hs, hmap, hzc]
  rw [← hpl, ho]
  rfl
 ·simp at hc
theorem slo_eq {T : TT} {lo : Option Operand} {l : Int} (hl : bnd T 0 lo = some l) (b o m sz : Nat) : (if m = l.toNat then (⟨b, o, none⟩ : Addr) else (⟨b, o, none⟩ : Addr).add (l.toNat * sz)) = ⟨b, slo lo o m l.toNat sz, none⟩ := by
 cases lo with
 | none => simp [bnd] at hl; subst hl; simp [slo, Addr.add]
 | some y => simp only [slo]; split <;> simp [add_plain]
def Snd (P : Program) (m : MK) (T : TT) : R3 → Prop
 | .bad => True
 | .ok v => m.plain = true ∧ ∀ w, Qt P m T w v
 | .rq c v => c → m.plain = true ∧ ∀ w, Qt P m T w v
theorem pev_snd (m : MK) : Snd P m T (pev T m) := by
 cases m <;> unfold pev <;> simp only
 case mv x => split <;> first | exact trivial | (rename_i v hv; exact ⟨rfl, fun w => qt_mv hv⟩)
 case pk c a b =>
  split
  ·rename_i hc; split <;> first | exact trivial | (rename_i hv; exact ⟨rfl, fun w => qt_pkt hc hv⟩)
  ·rename_i hc; split <;> first | exact trivial | (rename_i hv; exact ⟨rfl, fun w => qt_pkf hc hv⟩)
  ·exact trivial
 case nc x => split <;> first | exact trivial | (rename_i hv; exact ⟨rfl, fun w => qt_nc hv⟩)
 case fa x off => split <;> first | exact trivial | (rename_i hv; exact ⟨rfl, fun w => qt_fa hv⟩)
 case fl x off n =>
  split
  ·rename_i hv; split <;> first | exact trivial | (rename_i hl; exact ⟨rfl, fun w => qt_fl1 hv hl⟩)
  ·rename_i hv; exact ⟨rfl, fun w => qt_flm hv⟩
  ·exact trivial
 case ias x i sz => split <;> first | exact trivial | (rename_i h1 h2; exact fun h => ⟨rfl, fun w => qt_ias h1 h2 h⟩)
 case iaa x i len sz => split <;> first | exact trivial | (rename_i h1 h2; exact fun h => ⟨rfl, fun w => qt_iaa h1 h2 h⟩)
 case ixa x i len sz n =>
  split
  ·rename_i h1 h2; exact fun h => ⟨rfl, fun w => qt_ixam h1 h2 h⟩
  ·rename_i l _ j h1 h2
   intro h
   refine ⟨rfl, fun w => qt_ixa1 h1 h2 ⟨h.1, h.2.1⟩ ?_⟩
   simp [List.getElem?_eq_getElem h.2.2]
  ·exact trivial
 case ixs x i => split <;> first | exact trivial | (rename_i h1 h2; exact fun h => ⟨rfl, fun w => qt_ixs h1 h2 h⟩)
 case ex x i =>
  split
  ·rename_i h1; split <;> first | exact trivial | (rename_i h2; exact ⟨rfl, fun w => qt_ex h1 h2⟩)
  ·exact trivial
 case nt x => split <;> first | exact trivial | (rename_i h1; exact ⟨rfl, fun w => qt_nt h1⟩)
 case ar op k x y e =>
  split
  ·rename_i h1 h2
   intro h
   refine ⟨rfl, fun w => ?_⟩
   have := qt_ar (P := P) (w := w) (op := op) (e := true) (evi_ev h1) (evi_ev h2) rfl rfl
   rw [wrap_in h] at this
   exact this
  ·rename_i h1 h2; exact ⟨rfl, fun w => qt_ar (evi_ev h1) (evi_ev h2) rfl rfl⟩
  ·exact trivial
 case dv op k x y =>
  split
  ·rename_i h1 h2; exact fun h => ⟨rfl, fun w => qt_dvq (evi_ev h1) (evi_ev h2) rfl rfl h⟩
  ·rename_i h1 h2; exact fun h => ⟨rfl, fun w => qt_dvr (evi_ev h1) (evi_ev h2) rfl rfl h⟩
  ·exact trivial
 case bt op k x y => split <;> first | exact trivial | (rename_i h1 h2; exact ⟨rfl, fun w => qt_bt (evi_ev h1) (evi_ev h2) rfl rfl⟩)
 case sh op k x y => split <;> first | exact trivial | (rename_i h1 h2; exact fun h => ⟨rfl, fun w => qt_sh (evi_ev h1) h2 rfl h⟩)
 case cm op x y =>
  split
  ·rename_i h1 h2; split <;> first | exact trivial | (rename_i h3; exact ⟨rfl, fun w => qt_cm h1 h2 (keq_eq h3)⟩)
  ·exact trivial
 case se op x y =>
  split
  ·rename_i h1 h2; exact ⟨rfl, fun w => qt_see h1 h2⟩
  ·rename_i h1 h2; exact ⟨rfl, fun w => qt_sen h1 h2⟩
  ·exact trivial
 case sa x y => split <;> first | exact trivial | (rename_i h1 h2; exact fun h => ⟨rfl, fun w => qt_sa h1 h2 h⟩)
 case be op x y =>
  split
  ·rename_i h1 h2; exact ⟨rfl, fun w => qt_bee h1 h2⟩
  ·rename_i h1 h2; exact ⟨rfl, fun w => qt_ben h1 h2⟩
  ·exact trivial
 case pn op x => split <;> first | exact trivial | (rename_i h1; exact ⟨rfl, fun w => qt_pn h1⟩)
 case sn op x => split <;> first | exact trivial | (rename_i h1; exact ⟨rfl, fun w => qt_sn h1⟩)
 case mf f a b => split <;> first | exact trivial | (rename_i h1 h2; exact ⟨rfl, fun w => qt_mf h1 h2⟩)
 case mi t x => split <;> first | exact trivial | (rename_i h1; exact ⟨rfl, fun w => qt_mi h1⟩)
 case ss x lo hi =>
  split
  ·rename_i h1; split <;> first | exact trivial | (rename_i h2 h3; exact fun h => ⟨rfl, fun w => qt_ss h1 h2 h3 h⟩)
  ·exact trivial
 case sl x lo hi mx sz =>
  split
  ·rename_i b o len cap h1
   split
   ·rename_i l h m h2 h3 h4
    intro hc
    refine ⟨rfl, fun w => qt_sl h1 h2 h3 h4 hc ?_⟩
    simp only
    rw [slo_eq h2]
   ·exact trivial
  ·rename_i h1
   split
   ·rename_i h2 h3 h4; exact fun hc => ⟨rfl, fun w => qt_sl h1 h2 h3 h4 hc rfl⟩
   ·exact trivial
  ·exact trivial
 case sp x lo hi n sz =>
  split
  ·rename_i h1
   split
   ·rename_i h2 h3; exact fun hc => ⟨rfl, fun w => qt_sp h1 h2 h3 hc⟩
   ·exact trivial
  ·exact trivial
 case ln b x =>
  split
  ·rename_i h1; exact ⟨rfl, fun w => qt_ln1 h1⟩
  ·rename_i h1; exact ⟨rfl, fun w => qt_ln2 h1⟩
  ·exact trivial
 case la n x => split <;> first | exact trivial | (rename_i h1; exact ⟨rfl, fun w => qt_la h1⟩)
 case mm b x y =>
  split
  ·rename_i h1 h2; exact ⟨rfl, fun w => qt_mx h1 h2⟩
  ·rename_i h1 h2; exact ⟨rfl, fun w => qt_mn h1 h2⟩
  ·exact trivial
 case ci k x => split <;> first | exact trivial | (rename_i h1; exact ⟨rfl, fun w => qt_ci h1⟩)
 case cs x => split <;> first | exact trivial | (rename_i h1; exact ⟨rfl, fun w => qt_cs h1⟩)
 case sc op x y => split <;> first | exact trivial | (rename_i h1 h2; exact ⟨rfl, fun w => qt_sc h1 h2⟩)
 case rs x => split <;> first | exact trivial | (rename_i h1; exact ⟨rfl, fun w => qt_rs h1⟩)
 case mpn op x => split <;> first | exact trivial | (rename_i h1; exact ⟨rfl, fun w => qt_mpn h1⟩)
 case un k x => split <;> first | exact trivial | (rename_i h1; exact ⟨rfl, fun w => qt_un (evi_ev h1) rfl⟩)
 case bd z ps => split <;> first | exact trivial | (rename_i h1; exact ⟨rfl, fun w => qt_bd h1 w⟩)
 all_goals exact trivial
theorem pev_ok {m : MK} {v : Value} (h : pev T m = .ok v) : m.plain = true ∧ ∀ w, Qt P m T w v := by have := pev_snd (P := P) (T := T) m; rw [h] at this; exact this
theorem pev_rq {m : MK} {c : Prop} {v : Value} (h : pev T m = .rq c v) (hc : c) : m.plain = true ∧ ∀ w, Qt P m T w v := by have := pev_snd (P := P) (T := T) m; rw [h] at this; exact this hc
def dlt (N : Nat) (m : MOp) : Bool := match m.d with | some t => decide (t < N) | none => true
theorem dlt_ok {N : Nat} {m : MOp} (h : dlt N m = true) : dOk m.d N := by
 intro t ht
 simp [dlt, ht] at h
 exact h
def Rz (E : Env) (m : MC) (T : TT) (D : List Deferred) (w : World) (Q : QX) : Prop :=
 ∀ (c : Code) (a : Act), chkC E.P c m = true → allD (dlt E.N) m = true → Tm T D E.N a → c.wpIn (FW E.r) 0 E.P (LQ E.N Q) a w
inductive KI where
 | c (m : MC)
 | r (l : List MOp)
 | b (id : Nat)
 | d (l : List MOp) (t : DT)
 | l (J : TT → List Deferred → World → Prop)
 | s
def kq (E : Env) : List KI → QX → QX
 | [], Q => Q
 | .c m :: ks, Q => fun e T D w => match e with | .normal => allD (dlt E.N) m = true → Rz E m T D w (kq E ks Q) | e => kq E ks Q e T D w
 | .r l :: ks, Q => fun e T D w => match e with | .normal => l.all (dlt E.N) = true → RL E l T D w (kq E ks Q) | e => kq E ks Q e T D w
 | .b id :: ks, Q => fun e T D w => match e with | .exit j => (if j = id then kq E ks Q .normal T D w else kq E ks Q (.exit j) T D w) | e => kq E ks Q e T D w
 | .d l t :: ks, Q => fun e T D w => match e with | .normal => DRun E l t T w (fun T w => kq E ks Q .normal T D w) | e => kq E ks Q e T D w
 | .l J :: ks, Q => fun e T D w => match e with | .normal => J T D w | e => kq E ks Q e T D w
 | .s :: ks, Q => fun e T D w => match e with | .goto _ => False | e => kq E ks Q e T D w
def G (E : Env) (ks : List KI) (T : TT) (D : List Deferred) (w : World) (Q : QX) : Prop := kq E ks Q .normal T D w
section
variable {E : Env} {ks : List KI} {T : TT} {D : List Deferred} {w : World} {Q : QX}
theorem g_sk (h : G E ks T D w Q) : G E (.c .sk :: ks) T D w Q := by
 intro _ c a hc _ ha
 cases c <;> simp [chkC] at hc
 exact wpIn_skip ⟨T, D, ha, h⟩
theorem g_rt (h : kq E ks Q .ret T D w) : G E (.c .rt :: ks) T D w Q := by
 intro _ c a hc _ ha
 cases c <;> simp [chkC] at hc
 exact wpIn_ret ⟨T, D, ha, h⟩
theorem g_xt {i : Nat} (h : kq E ks Q (.exit i) T D w) : G E (.c (.xt i) :: ks) T D w Q := by
 intro _ c a hc _ ha
 cases c <;> simp [chkC] at hc
 subst hc
 exact wpIn_exit ⟨T, D, ha, h⟩
theorem g_lb {i : Nat} (h : G E ks T D w Q) : G E (.c (.lb i) :: ks) T D w Q := by
 intro _ c a hc _ ha
 cases c <;> simp [chkC] at hc
 subst hc
 exact wpIn_label ⟨T, D, ha, h⟩
theorem g_sq {x y : MC} (h : G E (.c x :: .c y :: ks) T D w Q) : G E (.c (.sq x y) :: ks) T D w Q := by
 intro hd c a hc _ ha
 simp only [allD, Bool.and_eq_true] at hd
 cases c <;> simp [chkC] at hc
 rename_i c1 c2
 refine wpIn_seq ?_
 refine wpIn_mono (h hd.1 c1 a hc.1 hd.1 ha) ?_
 rintro e a' w' ⟨T', D', ha', hq⟩
 cases e with
 | normal => exact hq hd.2 c2 a' hc.2 hd.2 ha'
 | _ => exact ⟨T', D', ha', hq⟩
theorem g_cd {x : Operand} {u v : MC} {t : Bool} (hx : ev T x = some (.bool t)) (h1 : t = true → G E (.c u :: ks) T D w Q) (h2 : t = false → G E (.c v :: ks) T D w Q) : G E (.c (.cd x u v) :: ks) T D w Q := by
 intro hd c a hc _ ha
 simp only [allD, Bool.and_eq_true] at hd
 cases c <;> simp [chkC] at hc
 rename_i o c1 c2
 obtain ⟨⟨e1, hc1⟩, hc2⟩ := hc
 have e1 := oeq_eq e1; subst e1
 have hev : a.eval o = .bool t := (ha.ag [o]).2 o (by simp) _ hx
 cases t with
 | true => exact wpIn_cond_true hev (h1 rfl hd.1 c1 a hc1 hd.1 ha)
 | false => exact wpIn_cond_false hev (h2 rfl hd.2 c2 a hc2 hd.2 ha)
theorem g_cT {x : Operand} {u v : MC} (hx : ev T x = some (.bool true)) (h : G E (.c u :: ks) T D w Q) : G E (.c (.cd x u v) :: ks) T D w Q := g_cd hx (fun _ => h) (fun h => by cases h)
theorem g_cF {x : Operand} {u v : MC} (hx : ev T x = some (.bool false)) (h : G E (.c v :: ks) T D w Q) : G E (.c (.cd x u v) :: ks) T D w Q := g_cd hx (fun h => by cases h) (fun _ => h)
theorem g_bk {i : Nat} {u : MC} (h : G E (.c u :: .b i :: ks) T D w Q) : G E (.c (.bk i u) :: ks) T D w Q := by
 intro hd c a hc _ ha
 simp only [allD] at hd
 cases c <;> simp [chkC] at hc
 obtain ⟨rfl, hc⟩ := hc
 refine wpIn_block ?_
 refine wpIn_mono (h hd _ a hc hd ha) ?_
 rintro e a' w' ⟨T', D', ha', hq⟩
 cases e with
 | exit j =>
  simp only [Exit.inBlock]
  simp only [kq] at hq
  split <;> rename_i hj
  ·rw [if_pos hj] at hq; exact ⟨T', D', ha', hq⟩
  ·rw [if_neg hj] at hq; exact ⟨T', D', ha', hq⟩
 | _ => exact ⟨T', D', ha', hq⟩
theorem g_b {i : Nat} (h : G E ks T D w Q) : G E (.b i :: ks) T D w Q := h
theorem g_sc {u : MC} (hr : E.r = none) (h : G E (.c u :: .s :: ks) T D w Q) : G E (.c (.sc u) :: ks) T D w Q := by
 intro hd c a hc _ ha
 simp only [allD] at hd
 cases c <;> simp [chkC] at hc
 have e : FW E.r = Fence.wide := by rw [hr]; rfl
 rw [e]
 refine (wpIn_wide (n := 0)).2 (wp_scope_straight ((wpIn_wide (n := 0)).1 ?_))
 rw [← e]
 refine wpIn_mono (h hd _ a hc hd ha) ?_
 rintro e a' w' ⟨T', D', ha', hq⟩
 cases e with
 | goto l => exact hq.elim
 | _ => exact ⟨T', D', ha', hq⟩
/-! ### ways out -/
theorem k_ret {ks : List KI} (h : Q .ret T D w) : kq E ks Q .ret T D w := by
 induction ks with
 | nil => exact h
 | cons k ks ih => cases k <;> exact ih
def kx : List KI → Nat → Option (List KI)
 | [], _ => none
 | .b j :: ks, i => (match Nat.beq i j with | true => some ks | false => kx ks i)
 | _ :: ks, i => kx ks i
theorem k_xt {i : Nat} {ks' ks : List KI} (h : kx ks i = some ks') (g : G E ks' T D w Q) : kq E ks Q (.exit i) T D w := by
 induction ks with
 | nil => cases h
 | cons k ks ih =>
  cases k with
  | b j =>
   simp only [kx] at h
   simp only [kq]
   split at h
   ·rename_i e
    have e := Nat.eq_of_beq_eq_true e
    rw [if_pos e]
    cases h
    exact g
   ·rename_i e
    rw [if_neg (fun h => by subst h; simp at e)]
    exact ih h
  | _ => exact ih h
theorem k_xo {i : Nat} {ks : List KI} (h : kx ks i = none) (g : Q (.exit i) T D w) : kq E ks Q (.exit i) T D w := by
 induction ks with
 | nil => exact g
 | cons k ks ih =>
  cases k with
  | b j =>
   simp only [kx] at h
   simp only [kq]
   split at h
   ·cases h
   ·rename_i e
    rw [if_neg (fun h => by subst h; simp at e)]
    exact ih h
  | _ => exact ih h
theorem g_ret (h : Q .ret T D w) : G E (.c .rt :: ks) T D w Q := g_rt (k_ret h)
theorem g_x {i : Nat} {ks' : List KI} (hk : kx ks i = some ks') (h : G E ks' T D w Q) : G E (.c (.xt i) :: ks) T D w Q := g_xt (k_xt hk h)
/-! ### fewer slots -/
def Sub (T' T : TT) : Prop := ∀ t v, lk T' t = some v → lk T t = some v
theorem Tm.sub {T T' : TT} {D : List Deferred} {N : Nat} {a : Act} (h : Tm T D N a) (hs : Sub T' T) : Tm T' D N a := ⟨h.ds, h.sz, fun t v hv => h.get t v (hs t v hv)⟩
def SubL : TT → TT → Prop
 | [], _ => True
 | (t, v) :: r, T => lk T t = some v ∧ SubL r T
theorem SubL.sub : ∀ {T' T : TT}, SubL T' T → Sub T' T
 | [], _, _ => fun t v h => by cases h
 | (s, u) :: r, T, ⟨h1, h2⟩ => fun t v h => by
  simp only [lk] at h
  split at h
  ·rename_i e; have := Nat.eq_of_beq_eq_true e; subst this; cases h; exact h1
  ·exact SubL.sub h2 t v h
theorem evs_sub {T' T : TT} (hs : Sub T' T) (x : Operand) (v : Value) (h : ev T' x = some v) : ev T x = some v := by
 cases x with
 | tmp t => exact hs t v h
 | _ => exact h
theorem Ag.sub {T' T : TT} {xs : List Operand} {ρ : Operand → Value} (h : Ag T xs ρ) (hs : Sub T' T) : Ag T' xs ρ := ⟨h.1, fun x hx v hv => h.2 x hx v (evs_sub hs x v hv)⟩
theorem g_wkc {u : MC} {T' : TT} (hs : SubL T' T) (h : G E (.c u :: ks) T' D w Q) : G E (.c u :: ks) T D w Q :=
 fun hd c a hc hd' ha => h hd c a hc hd' (ha.sub hs.sub)
/-! ### operations one behind the other -/
theorem g_rg {l : List MOp} (h : G E (.r l :: ks) T D w Q) : G E (.c (.rg l) :: ks) T D w Q := by
 intro hd c a hc _ ha
 simp only [allD] at hd
 cases c <;> try (simp [chkC] at hc; done)
 rename_i id ops dr
 cases dr <;> simp only [chkC, Bool.false_eq_true] at hc
 obtain ⟨hlen, hg⟩ := chkOps_get hc
 refine wpIn_region ?_
 rw [List.range_eq_range', show ops.size = l.length from by rw [← hlen]; simp]
 refine h hd ops 0 a (fun j hj => ?_) (fun j m hm => dlt_ok (List.all_eq_true.1 hd m (List.mem_of_getElem? hm))) ha
 have hjo : j < ops.toList.length := by omega
 obtain ⟨m, hm, hcm⟩ := hg j _ (List.getElem?_eq_getElem hjo)
 refine ⟨_, m, ?_, hm, hcm⟩
 rw [Nat.zero_add]
 simp at hjo
 simp [hjo]
theorem g_r0 (h : G E ks T D w Q) : G E (.r [] :: ks) T D w Q := fun _ _ _ a _ _ ha => ⟨T, D, ha, h⟩
theorem g_es {l : List MOp} {m : MOp} (h : ES E m T w fun v w' => G E (.r l :: ks) (putT m.d v T) D w' Q) : G E (.r (m :: l) :: ks) T D w Q := by
 intro hd ops k a hm hk ha
 simp only [List.all_cons, Bool.and_eq_true] at hd
 obtain ⟨o, m', ho, hm', hc⟩ := hm 0 (by simp)
 simp at hm'
 subst hm'
 rw [List.length_cons, List.range'_succ, wpOpsIn_cons]
 refine op_es ho hc h (ha.ag _) (fun t b _ v hv => ha.get t v hv) (fun v w' hg => ?_)
 refine hg hd.2 ops (k + 1) _ (fun j hj => ?_) (fun j m hm => hk (j + 1) m hm) (ha.put v (dlt_ok hd.1))
 obtain ⟨o, m, h1, h2, h3⟩ := hm (j + 1) (by simp; omega)
 exact ⟨o, m, by rw [show k + 1 + j = k + (j + 1) from by omega]; exact h1, by simpa using h2, h3⟩
theorem g_ok {l : List MOp} {t : Nat} {g : Option (Nat × Bool)} {k : MK} {v : Value} (hg : gv T ⟨some t, g, k⟩ = some true) (hp : pev T k = .ok v) (h : G E (.r l :: ks) ((t, v) :: T) D w Q) : G E (.r (⟨some t, g, k⟩ :: l) :: ks) T D w Q :=
 g_es (.inl ⟨hg, ef_qt ((pev_ok hp).2 w) h⟩)
theorem g_rq {l : List MOp} {t : Nat} {g : Option (Nat × Bool)} {k : MK} {v : Value} {c : Prop} (hg : gv T ⟨some t, g, k⟩ = some true) (hp : pev T k = .rq c v) (hc : c) (h : G E (.r l :: ks) ((t, v) :: T) D w Q) : G E (.r (⟨some t, g, k⟩ :: l) :: ks) T D w Q :=
 g_es (.inl ⟨hg, ef_qt ((pev_rq hp hc).2 w) h⟩)
theorem g_qt {l : List MOp} {t : Nat} {g : Option (Nat × Bool)} {k : MK} {v : Value} (hg : gv T ⟨some t, g, k⟩ = some true) (hp : Qt E.P k T w v) (h : G E (.r l :: ks) ((t, v) :: T) D w Q) : G E (.r (⟨some t, g, k⟩ :: l) :: ks) T D w Q :=
 g_es (.inl ⟨hg, ef_qt hp h⟩)
theorem g_no {l : List MOp} {t : Nat} {g : Option (Nat × Bool)} {k : MK} (hg : gv T ⟨some t, g, k⟩ = some false) (h : G E (.r l :: ks) ((t, undef) :: T) D w Q) : G E (.r (⟨some t, g, k⟩ :: l) :: ks) T D w Q :=
 g_es (.inr ⟨hg, h⟩)
theorem g_no0 {l : List MOp} {g : Option (Nat × Bool)} {k : MK} (hg : gv T ⟨none, g, k⟩ = some false) (h : G E (.r l :: ks) T D w Q) : G E (.r (⟨none, g, k⟩ :: l) :: ks) T D w Q :=
 g_es (.inr ⟨hg, h⟩)
theorem g_ef {l : List MOp} {t : Nat} {g : Option (Nat × Bool)} {k : MK} (hg : gv T ⟨some t, g, k⟩ = some true) (h : Ef E.P E.r k T w fun v w' => G E (.r l :: ks) ((t, v) :: T) D w' Q) : G E (.r (⟨some t, g, k⟩ :: l) :: ks) T D w Q :=
 g_es (.inl ⟨hg, h⟩)
theorem g_ef0 {l : List MOp} {g : Option (Nat × Bool)} {k : MK} (hg : gv T ⟨none, g, k⟩ = some true) (h : Ef E.P E.r k T w fun _ w' => G E (.r l :: ks) T D w' Q) : G E (.r (⟨none, g, k⟩ :: l) :: ks) T D w Q :=
 g_es (.inl ⟨hg, h⟩)
/-! ### a region that draws its order -/
theorem g_dr {l : List MOp} {pm : List Nat} {t : DT} (hm : E.P.follows .mixedOrders = true) (h : G E (.d l t :: ks) T D w.drew Q) : G E (.c (.dr l pm t) :: ks) T D w Q := by
 intro hd c a hc _ ha
 simp only [allD] at hd
 cases c <;> try (simp [chkC] at hc; done)
 rename_i id ops dr
 cases dr <;> simp only [chkC, Bool.false_eq_true, Bool.and_eq_true, chkD] at hc
 obtain ⟨hc, hE, hT⟩ := hc
 obtain ⟨hlen, hg⟩ := chkOps_get hc
 have hl : l.length = ops.size := by rw [← hlen]; simp
 refine wpIn_region_any hm ?_
 have hz : left (Array.replicate ops.size false) ≤ ops.size := by
  unfold left
  refine Nat.le_trans (List.length_filter_le _ _) (by simp)
 refine draw_sound (E := E) (D := D) (K := fun T w => kq E ks Q .normal T D w) hE hl (fun j o ho => ?_) (fun j m hm => dlt_ok (List.all_eq_true.1 hd m (List.mem_of_getElem? hm))) (fun T w a hk ha => ⟨T, D, ha, hk⟩) t [] [] T w.drew hT h ops.size _ a hz ?_
 ·have := hg j o (by simpa using ho)
  exact this
 ·refine ⟨by simp, fun i hi => ?_, (fun e he => by cases he), fun i hi => ?_, ha.ds, ha.sz, fun t v hv _ => ha.get t v hv, (fun i hi => by cases hi), (fun j hj => by cases hj)⟩
  ·exfalso
   have := (Array.getElem?_eq_some_iff.1 hi).2
   simp at this
  ·exfalso
   have := (Array.getElem?_eq_some_iff.1 hi).2
   simp at this
theorem d_fin {l : List MOp} (h : G E ks T D w Q) : G E (.d l .fin :: ks) T D w Q := h
theorem d_ok {l : List MOp} {i s : Nat} {g : Option (Nat × Bool)} {k : MK} {v : Value} {t : DT} (hl : l[i]? = some ⟨some s, g, k⟩) (hg : gv T ⟨some s, g, k⟩ = some true) (hp : pev T k = .ok v) (h : G E (.d l t :: ks) ((s, v) :: T) D w Q) : G E (.d l (.q i t) :: ks) T D w Q :=
 ⟨_, v, hl, rfl, .inl ⟨hg, .inl (pev_ok hp)⟩, h⟩
theorem d_rq {l : List MOp} {i s : Nat} {g : Option (Nat × Bool)} {k : MK} {v : Value} {c : Prop} {t : DT} (hl : l[i]? = some ⟨some s, g, k⟩) (hg : gv T ⟨some s, g, k⟩ = some true) (hp : pev T k = .rq c v) (hc : c) (h : G E (.d l t :: ks) ((s, v) :: T) D w Q) : G E (.d l (.q i t) :: ks) T D w Q :=
 ⟨_, v, hl, rfl, .inl ⟨hg, .inl (pev_rq hp hc)⟩, h⟩
theorem d_qt {l : List MOp} {i s : Nat} {g : Option (Nat × Bool)} {k : MK} {v : Value} {t : DT} (hl : l[i]? = some ⟨some s, g, k⟩) (hg : gv T ⟨some s, g, k⟩ = some true) (hn : k.plain = false) (hp : Qt E.P k T w v) (h : G E (.d l t :: ks) ((s, v) :: T) D w Q) : G E (.d l (.q i t) :: ks) T D w Q :=
 ⟨_, v, hl, rfl, .inl ⟨hg, .inr ⟨hn, hp⟩⟩, h⟩
theorem d_no {l : List MOp} {i s : Nat} {g : Option (Nat × Bool)} {k : MK} {t : DT} (hl : l[i]? = some ⟨some s, g, k⟩) (hg : gv T ⟨some s, g, k⟩ = some false) (h : G E (.d l t :: ks) ((s, undef) :: T) D w Q) : G E (.d l (.q i t) :: ks) T D w Q :=
 ⟨_, undef, hl, rfl, .inr ⟨hg, rfl⟩, h⟩
def RC (E : Env) (l : List MOp) : List Nat → TT → TT → World → Prop
 | [], _, _, _ => True
 | j :: rc, T, T', w => (∃ mj vj, l[j]? = some mj ∧ (∀ d, mj.d = some d → lk T d = some vj) ∧ PK E mj T' w vj) ∧ RC E l rc T T' w
theorem RC.all {l : List MOp} : ∀ {rc : List Nat} {T T' : TT} {w : World}, RC E l rc T T' w → ∀ j ∈ rc, ∃ mj vj, l[j]? = some mj ∧ (∀ d, mj.d = some d → lk T d = some vj) ∧ PK E mj T' w vj
 | [], _, _, _, _, j, hj => by cases hj
 | k :: rc, _, _, _, ⟨h1, h2⟩, j, hj => by
  rcases List.mem_cons.1 hj with e | hj
  ·subst e; exact h1
  ·exact h2.all j hj
theorem d_e {l : List MOp} {i s : Nat} {g : Option (Nat × Bool)} {k : MK} {rc : List Nat} {t : DT} (hl : l[i]? = some ⟨some s, g, k⟩) (hg : gv T ⟨some s, g, k⟩ = some true)
  (h : Ef E.P E.r k T w fun v w' => RC E l rc T ((s, v) :: T) w' ∧ G E (.d l t :: ks) ((s, v) :: T) D w' Q) : G E (.d l (.e i rc t) :: ks) T D w Q :=
 ⟨_, hl, .inl ⟨hg, fun o a next Q' hk hag hn => h o a next Q' hk hag fun v w' ⟨h1, h2⟩ => hn v w' ⟨h1.all, h2⟩⟩⟩
theorem d_e0 {l : List MOp} {i : Nat} {g : Option (Nat × Bool)} {k : MK} {rc : List Nat} {t : DT} (hl : l[i]? = some ⟨none, g, k⟩) (hg : gv T ⟨none, g, k⟩ = some true)
  (h : Ef E.P E.r k T w fun _ w' => RC E l rc T T w' ∧ G E (.d l t :: ks) T D w' Q) : G E (.d l (.e i rc t) :: ks) T D w Q :=
 ⟨_, hl, .inl ⟨hg, fun o a next Q' hk hag hn => h o a next Q' hk hag fun v w' ⟨h1, h2⟩ => hn v w' ⟨h1.all, h2⟩⟩⟩
theorem d_en {l : List MOp} {i s : Nat} {g : Option (Nat × Bool)} {k : MK} {rc : List Nat} {t : DT} (hl : l[i]? = some ⟨some s, g, k⟩) (hg : gv T ⟨some s, g, k⟩ = some false) (hrc : RC E l rc T ((s, undef) :: T) w)
  (h : G E (.d l t :: ks) ((s, undef) :: T) D w Q) : G E (.d l (.e i rc t) :: ks) T D w Q :=
 ⟨_, hl, .inr ⟨hg, hrc.all, h⟩⟩
theorem d_a1 {l : List MOp} {t : DT} (h : G E (.d l t :: ks) T D w Q) : G E (.d l (.alt [t]) :: ks) T D w Q := ⟨h, trivial⟩
theorem d_a2 {l : List MOp} {t u : DT} {ts : List DT} (h1 : G E (.d l t :: ks) T D w Q) (h2 : G E (.d l (.alt (u :: ts)) :: ks) T D w Q) : G E (.d l (.alt (t :: u :: ts)) :: ks) T D w Q := ⟨h1, h2⟩
theorem rc_qt {l : List MOp} {j d : Nat} {g : Option (Nat × Bool)} {k : MK} {v : Value} {rc : List Nat} {T' : TT} (hl : l[j]? = some ⟨some d, g, k⟩) (hv : lk T d = some v) (hg : gv T' ⟨some d, g, k⟩ = some true) (hn : k.plain = false) (hp : Qt E.P k T' w v) (h : RC E l rc T T' w) : RC E l (j :: rc) T T' w :=
 ⟨⟨_, v, hl, fun d' hd' => by cases hd'; exact hv, .inl ⟨hg, .inr ⟨hn, hp⟩⟩⟩, h⟩
end
theorem wpIn_loop_g {F : Fence} {n : Nat} {P : Program} {Q : Exit → Act → World → Prop} {a : Act} {w : World} {c : Code} {ι : Type} (I : ι → Act → World → Prop) (μ : ι → Nat) (x0 : ι) (h0 : I x0 a w)
  (round : ∀ x a w, I x a w → c.wpIn F n P (Exit.then (fun a' w' => ∃ y, I y a' w' ∧ μ y < μ x) Q) a w) : (Code.loop c).wpIn F n P Q a w := by
 intro b k cs hro hb hr
 have key : ∀ j x a w, μ x = j → I x a w →
   ∃ e a' w', Q e a' w' ∧ ArrivesIn (Machine.fenced P F) P (lone (b.atR a (.code c :: .inLoop c :: k)) cs w) b k cs e a' w' := by
  intro j
  induction j using Nat.strongRecOn with
  | _ j ih =>
   intro x a w hn hI
   obtain ⟨e, a₁, w₁, hq, harr⟩ := round x a w hI b (.inLoop c :: k) cs hro hb hr
   cases e with
   | normal =>
    obtain ⟨y, hI₁, hlt⟩ := hq
    obtain ⟨e₂, a₂, w₂, hq₂, harr₂⟩ := ih (μ y) (hn ▸ hlt) y a₁ w₁ rfl hI₁
    exact ⟨e₂, a₂, w₂, hq₂, .of_steps (StepsIn.trans harr (.one (fenced_calm hb hr rfl) stepR_inLoop)) harr₂⟩
   | exit id => exact ⟨_, a₁, w₁, hq, .pass (x := .inLoop c) rfl (fun _ _ => .inl (by simp)) harr⟩
   | goto l => exact ⟨_, a₁, w₁, hq, .pass (x := .inLoop c) rfl (fun _ _ => .inl (by simp)) harr⟩
   | ret => exact ⟨_, a₁, w₁, hq, .pass (x := .inLoop c) rfl (fun _ _ => .inl (by simp)) harr⟩
   | panic ch => exact ⟨_, a₁, w₁, hq, .pass (x := .inLoop c) rfl (fun _ _ => .inl (by simp)) harr⟩
   | outgrown => exact ⟨_, a₁, w₁, hq, .pass (x := .inLoop c) rfl (fun _ _ => .inl (by simp)) harr⟩
 obtain ⟨e, a', w', hq, harr⟩ := key _ x0 a w rfl h0
 exact ⟨e, a', w', hq, .of_steps (.one (fenced_calm hb hr rfl) stepR_loop) harr⟩
section
variable {E : Env} {ks : List KI} {T : TT} {D : List Deferred} {w : World} {Q : QX}
def LJ {ι : Type} (Tf : ι → TT) (I : ι → World → Prop) (μ : ι → Nat) (D : List Deferred) (x : ι) : TT → List Deferred → World → Prop :=
 fun T' D' w' => D' = D ∧ ∃ y, SubL (Tf y) T' ∧ I y w' ∧ μ y < μ x
theorem g_lp {ι : Type} {u : MC} (Tf : ι → TT) (I : ι → World → Prop) (μ : ι → Nat) (x0 : ι) (hT : SubL (Tf x0) T) (h0 : I x0 w)
  (round : ∀ x w, I x w → G E (.c u :: .l (LJ Tf I μ D x) :: ks) (Tf x) D w Q) : G E (.c (.lp u) :: ks) T D w Q := by
 intro hd c a hc _ ha
 simp only [allD] at hd
 cases c <;> simp [chkC] at hc
 refine wpIn_loop_g (fun x a w => Tm (Tf x) D E.N a ∧ I x w) μ x0 ⟨ha.sub hT.sub, h0⟩ ?_
 rintro x a w ⟨ha, hI⟩
 refine wpIn_mono (round x w hI hd _ a hc hd ha) ?_
 rintro e a' w' ⟨T', D', ha', hq⟩
 cases e with
 | normal =>
  obtain ⟨rfl, y, hs, hI', hμ⟩ := hq
  exact ⟨y, ⟨ha'.sub hs.sub, hI'⟩, hμ⟩
 | _ => exact ⟨T', D', ha', hq⟩
theorem g_l {ι : Type} {Tf : ι → TT} {I : ι → World → Prop} {μ : ι → Nat} {x : ι} (y : ι) (hs : SubL (Tf y) T) (hI : I y w) (hμ : μ y < μ x) : G E (.l (LJ Tf I μ D x) :: ks) T D w Q := ⟨rfl, y, hs, hI, hμ⟩
end
/-! ### a function -/
def rvs (P : Program) (T : TT) (w : World) : List ResultVar → List Value → Prop
 | [], vs => vs = []
 | .tmp t :: rs, vs => ∃ v r, lk T t = some v ∧ rvs P T w rs r ∧ vs = v :: r
 | .cell a ty :: rs, vs => ∃ ad v r, lk T a = some (.pointer (some ad)) ∧ (loadVar ty ad).run P w = .ok v w ∧ rvs P T w rs r ∧ vs = v :: r
def one (vs : List Value) : Value := match vs with
 | [v] => v
 | vs => .tuple ⟨vs⟩
def rsem (tmps : Array Value) (r : ResultVar) : Sem Value := match r with
 | .tmp t => pure (tmps.getD t undef)
 | .cell a t => do loadVar t (← asAddr (tmps.getD a undef))
theorem rvs_run {P : Program} {fn : Func} {T : TT} {w : World} {tmps : Array Value} (ha : ∀ t v, lk T t = some v → tmps[t]? = some v) {vs : List Value} (h : rvs P T w fn.results.toList vs) : (results fn tmps).run P w = .ok (one vs) w := by
 have key : ∀ (rs : List ResultVar) (vs : List Value), rvs P T w rs vs → (rs.mapM (rsem tmps)).run P w = .ok vs w := by
  intro rs
  induction rs with
  | nil => intro vs h; simp only [rvs] at h; subst h; simp
  | cons r rs ih =>
   intro vs h
   cases r with
   | tmp t =>
    obtain ⟨v, r, h1, h2, rfl⟩ := h
    simp only [List.mapM_cons, rsem, Sem.run_bind, Sem.run_pure, Result.andThen_ok, ih r h2, Array.getD_eq_getD_getElem?, ha t v h1, Option.getD_some]
   | cell a ty =>
    obtain ⟨ad, v, r, h1, h2, h3, rfl⟩ := h
    simp only [List.mapM_cons, rsem, Sem.run_bind, Sem.run_pure, Result.andThen_ok, ih r h3, Array.getD_eq_getD_getElem?, ha a _ h1, Option.getD_some, asAddr, h2]
 have hr := key fn.results.toList vs h
 have hm : ∀ f : ResultVar → Sem Value, (∀ x, f x = rsem tmps x) → fn.results.mapM f = fn.results.mapM (rsem tmps) := fun f h => by rw [funext h]
 unfold results
 rw [Sem.run_bind, hm _ (by intro x; cases x <;> rfl), ← Array.toArray_toList (xs := fn.results), List.mapM_toArray, Sem.run_map, hr]
 simp only [Result.andThen_ok, Sem.run_pure]
 congr 1
 match vs with
 | [] => rfl
 | [v] => rfl
 | _ :: _ :: _ => rfl
def CKD (P : Program) (f : FuncId) (args : Array Value) (w : World) (K : World → Prop) : Prop :=
 (∀ w, (callFunc f args).run P w = .ok (.enter f args) w) ∧ CallsDIn Fence.wide 0 P f args .returning w fun e u w' => (∃ v, e = .returned v) ∧ u = .returning ∧ K w'
def Lv (P : Program) (rs : List ResultVar) (T : TT) (K : Value → World → Prop) : List Deferred → World → Prop
 | [], w => ∃ vs, rvs P T w rs vs ∧ K (one vs) w
 | d :: ds, w => (∃ r, d.target = .collected r ∧ w.heap[r]? = some (.deferred (some [])) ∧ Lv P rs T K ds (w.putObj r (.deferred none))) ∨
  ∃ f cap, d.target = .fn (.func f) cap ∧ CKD P f (d.args ++ cap) w fun w' => Lv P rs T K ds w'
def QF (P : Program) (rs : List ResultVar) (K : Value → World → Prop) : QX := fun e T D w => match e with
 | .normal | .ret => Lv P rs T K D w
 | _ => False
def argT : Nat → List Value → TT
 | _, [] => []
 | k, v :: vs => (k, v) :: argT (k + 1) vs
theorem argT_get : ∀ (vs : List Value) (k t : Nat) (v : Value), lk (argT k vs) t = some v → k ≤ t ∧ vs[t - k]? = some v
 | [], _, _, _, h => by cases h
 | u :: vs, k, t, v, h => by
  simp only [argT, lk] at h
  split at h
  ·rename_i e; have := Nat.eq_of_beq_eq_true e; subst this; cases h; simp
  ·obtain ⟨h1, h2⟩ := argT_get vs (k + 1) t v h
   refine ⟨by omega, ?_⟩
   rw [show t - k = (t - (k + 1)) + 1 from by omega]
   simpa using h2
theorem call_of {P : Program} {f : FuncId} {fn : Func} {c : Code} {m : MC} {N : Nat} {args : List Value} {w : World} {K : Value → World → Prop} (hf : P.funcs[f]? = some fn) (hb : fn.body = some c) (hN : fn.ntmps = N) (hc : chkC P c m = true) (hd : allD (dlt N) m = true) (ha : args.length ≤ N)
  (h : G ⟨P, none, N⟩ [.c m] (argT 0 args) [] w (QF P fn.results.toList K)) : Calls P f ⟨args⟩ w fun e w' => ∃ v, e = .returned v ∧ K v w' := by
 refine (callsIn_wide (n := 0)).1 (callsIn_of_wp_marks hf hb trivial ?_)
 have hT : Tm (argT 0 args) [] N { tmps := ⟨args⟩ ++ Array.replicate (fn.ntmps - (⟨args⟩ : Array Value).size) undef, defers := [] } := by
  refine ⟨rfl, by simp [hN]; omega, fun t v hv => ?_⟩
  obtain ⟨_, h2⟩ := argT_get args 0 t v hv
  have hlt : t < args.length := by simpa using (List.getElem?_eq_some_iff.1 h2).1
  rw [Array.getElem?_append_left (by simpa using hlt)]
  simpa using h2
 have hG := h hd c _ hc hd hT
 refine wpIn_mono hG ?_
 have lv : ∀ (D : List Deferred) (T : TT) (w' : World) (tmps : Array Value), (∀ t v, lk T t = some v → tmps[t]? = some v) → Lv P fn.results.toList T K D w' → LeavesInM Fence.wide 0 P fn tmps (fun e w' => ∃ v, e = .returned v ∧ K v w') D .returning w' := by
  intro D
  induction D with
  | nil =>
   intro T w' tmps hs hv
   obtain ⟨vs, h1, h2⟩ := hv
   exact ⟨one vs, rvs_run hs h1, one vs, rfl, h2⟩
  | cons d ds ih =>
   intro T w' tmps hs hv
   rcases hv with ⟨r, h1, h2, h3⟩ | ⟨g, cap, h1, h2, h3⟩
   ·exact ⟨by simp, .inl ⟨r, _, h1, run_takeDeferred h2, ih T _ tmps hs h3⟩⟩
   ·refine ⟨by simp, .inr ⟨fun h => by simp [Fence.wide] at h, .func g, cap, g, d.args ++ cap, h1, ?_, fun _ _ => trivial, ?_⟩⟩
    ·rw [h1]; exact h2 w'
    ·refine CallsDIn.mono h3 ?_
     rintro e u w2 ⟨⟨v, rfl⟩, rfl, hl⟩
     exact ih T _ tmps hs hl
 rintro e a' w' ⟨T', D', ha', hq⟩
 have hl : a'.defers = D' := ha'.ds
 cases e with
 | normal => simp only [bodyPostM]; rw [hl]; exact lv D' T' w' a'.tmps ha'.get hq
 | ret => simp only [bodyPostM]; rw [hl]; exact lv D' T' w' a'.tmps ha'.get hq
 | _ => exact hq.elim
section
variable {P : Program} {T : TT} {w : World} {K : Value → World → Prop}
theorem q_0 (h : K (.tuple ⟨[]⟩) w) : QF P [] K .ret T [] w := ⟨[], rfl, h⟩
theorem q_n (h : K (.tuple ⟨[]⟩) w) : QF P [] K .normal T [] w := ⟨[], rfl, h⟩
theorem q_1 {t : Nat} {v : Value} (ht : lk T t = some v) (h : K v w) : QF P [.tmp t] K .ret T [] w := ⟨[v], ⟨v, [], ht, rfl, rfl⟩, h⟩
theorem q_2 {t s : Nat} {v u : Value} (ht : lk T t = some v) (hs : lk T s = some u) (h : K (.tuple ⟨[v, u]⟩) w) : QF P [.tmp t, .tmp s] K .ret T [] w := ⟨[v, u], ⟨v, [u], ht, ⟨u, [], hs, rfl, rfl⟩, rfl⟩, h⟩
theorem q_3 {t s r : Nat} {v u x : Value} (ht : lk T t = some v) (hs : lk T s = some u) (hr : lk T r = some x) (h : K (.tuple ⟨[v, u, x]⟩) w) : QF P [.tmp t, .tmp s, .tmp r] K .ret T [] w :=
 ⟨[v, u, x], ⟨v, [u, x], ht, ⟨u, [x], hs, ⟨x, [], hr, rfl, rfl⟩, rfl⟩, rfl⟩, h⟩
end
theorem call_k {P : Program} {f : FuncId} {fn : Func} {m : MC} {N : Nat} {args : List Value} {w : World} {K : Value → World → Prop} (hf : P.funcs[f]? = some fn) (hk : fn.body.any (fun c => chkC P c m && allD (dlt N) m) = true) (hN : fn.ntmps = N) (ha : args.length ≤ N)
  (h : G ⟨P, none, N⟩ [.c m] (argT 0 args) [] w (QF P fn.results.toList K)) : Calls P f ⟨args⟩ w fun e w' => ∃ v, e = .returned v ∧ K v w' := by
 cases hb : fn.body with
 | none => rw [hb] at hk; simp at hk
 | some c =>
  rw [hb] at hk
  simp only [Option.any_some, Bool.and_eq_true] at hk
  exact call_of hf hb hN hk.1 hk.2 ha h
def CK (P : Program) (f : FuncId) (args : List Value) (w : World) (K : Value → World → Prop) : Prop := Calls P f ⟨args⟩ w fun e w' => ∃ v, e = .returned v ∧ K v w'
theorem CK.mono {P : Program} {f : FuncId} {args : List Value} {w : World} {K K' : Value → World → Prop} (h : CK P f args w K) (hk : ∀ v w', K v w' → K' v w') : CK P f args w K' :=
 Calls.mono h fun _ _ ⟨v, e, k⟩ => ⟨v, e, hk _ _ k⟩
section
variable {E : Env} {ks : List KI} {T : TT} {D : List Deferred} {w : World} {Q : QX}
theorem g_cl {l : List MOp} {t : Nat} {g : Option (Nat × Bool)} {f : FuncId} {args : List Operand} {vs : List Value} (hg : gv T ⟨some t, g, .cl f args⟩ = some true) (hx : evs T args = some vs) (h : CK E.P f vs w fun v w' => G E (.r l :: ks) ((t, v) :: T) D w' Q) :
  G E (.r (⟨some t, g, .cl f args⟩ :: l) :: ks) T D w Q := g_ef hg (ef_cl hx h)
theorem d_cl {l : List MOp} {i s : Nat} {g : Option (Nat × Bool)} {f : FuncId} {args : List Operand} {vs : List Value} {rc : List Nat} {t : DT} (hl : l[i]? = some ⟨some s, g, .cl f args⟩) (hg : gv T ⟨some s, g, .cl f args⟩ = some true) (hx : evs T args = some vs)
  (h : CK E.P f vs w fun v w' => RC E l rc T ((s, v) :: T) w' ∧ G E (.d l t :: ks) ((s, v) :: T) D w' Q) : G E (.d l (.e i rc t) :: ks) T D w Q := d_e hl hg (ef_cl hx h)
theorem g_l1 {l : List MOp} {t : Nat} {g : Option (Nat × Bool)} {x : Operand} {b off : Nat} {cs : List Value} {ty : TypeId} {v : Value} (hg : gv T ⟨some t, g, .ld x none⟩ = some true) (hx : ev T x = some (.pointer (some ⟨b, off, none⟩))) (hb : Blk w b cs ty) (hv : cs[off]? = some v)
  (h : G E (.r l :: ks) ((t, v) :: T) D w Q) : G E (.r (⟨some t, g, .ld x none⟩ :: l) :: ks) T D w Q := g_qt hg (qt_ld1 hx hb hv) h
theorem g_lm {l : List MOp} {t n : Nat} {g : Option (Nat × Bool)} {x : Operand} {b off : Nat} {cs : List Value} {ty : TypeId} (hg : gv T ⟨some t, g, .ld x (some n)⟩ = some true) (hx : ev T x = some (.pointer (some ⟨b, off, none⟩))) (hb : Blk w b cs ty) (hn : off + n ≤ cs.length)
  (h : G E (.r l :: ks) ((t, .agg ⟨(cs.drop off).take n⟩) :: T) D w Q) : G E (.r (⟨some t, g, .ld x (some n)⟩ :: l) :: ks) T D w Q := g_qt hg (qt_ldm hx hb hn) h
theorem g_l1r {l : List MOp} {t : Nat} {g : Option (Nat × Bool)} {x : Operand} {b off : Nat} {cs : List Value} {ty : TypeId} {v : Value} (hg : gv T ⟨some t, g, .ld x none⟩ = some true) (hx : ev T x = some (.pointer (some ⟨b, off, none⟩))) (hb : Blr w b cs ty) (hv : cs[off]? = some v)
  (h : G E (.r l :: ks) ((t, v) :: T) D w Q) : G E (.r (⟨some t, g, .ld x none⟩ :: l) :: ks) T D w Q := g_qt hg (qt_ld1r hx hb hv) h
theorem g_lmr {l : List MOp} {t n : Nat} {g : Option (Nat × Bool)} {x : Operand} {b off : Nat} {cs : List Value} {ty : TypeId} (hg : gv T ⟨some t, g, .ld x (some n)⟩ = some true) (hx : ev T x = some (.pointer (some ⟨b, off, none⟩))) (hb : Blr w b cs ty) (hn : off + n ≤ cs.length)
  (h : G E (.r l :: ks) ((t, .agg ⟨(cs.drop off).take n⟩) :: T) D w Q) : G E (.r (⟨some t, g, .ld x (some n)⟩ :: l) :: ks) T D w Q := g_qt hg (qt_ldmr hx hb hn) h
theorem d_l1 {l : List MOp} {i s : Nat} {g : Option (Nat × Bool)} {x : Operand} {b off : Nat} {cs : List Value} {ty : TypeId} {v : Value} {t : DT} (hl : l[i]? = some ⟨some s, g, .ld x none⟩) (hg : gv T ⟨some s, g, .ld x none⟩ = some true) (hx : ev T x = some (.pointer (some ⟨b, off, none⟩))) (hb : Blk w b cs ty) (hv : cs[off]? = some v)
  (h : G E (.d l t :: ks) ((s, v) :: T) D w Q) : G E (.d l (.q i t) :: ks) T D w Q := d_qt hl hg rfl (qt_ld1 hx hb hv) h
theorem d_lm {l : List MOp} {i s n : Nat} {g : Option (Nat × Bool)} {x : Operand} {b off : Nat} {cs : List Value} {ty : TypeId} {t : DT} (hl : l[i]? = some ⟨some s, g, .ld x (some n)⟩) (hg : gv T ⟨some s, g, .ld x (some n)⟩ = some true) (hx : ev T x = some (.pointer (some ⟨b, off, none⟩))) (hb : Blk w b cs ty) (hn : off + n ≤ cs.length)
  (h : G E (.d l t :: ks) ((s, .agg ⟨(cs.drop off).take n⟩) :: T) D w Q) : G E (.d l (.q i t) :: ks) T D w Q := d_qt hl hg rfl (qt_ldm hx hb hn) h
theorem rc_1 {l : List MOp} {j d : Nat} {g : Option (Nat × Bool)} {x : Operand} {b off : Nat} {cs : List Value} {ty : TypeId} {v : Value} {rc : List Nat} {T' : TT} (hl : l[j]? = some ⟨some d, g, .ld x none⟩) (hv : lk T d = some v) (hg : gv T' ⟨some d, g, .ld x none⟩ = some true) (hx : ev T' x = some (.pointer (some ⟨b, off, none⟩))) (hb : Blk w b cs ty) (hc : cs[off]? = some v)
  (h : RC E l rc T T' w) : RC E l (j :: rc) T T' w := rc_qt hl hv hg rfl (qt_ld1 hx hb hc) h
theorem rc_m {l : List MOp} {j d n : Nat} {g : Option (Nat × Bool)} {x : Operand} {b off : Nat} {cs : List Value} {ty : TypeId} {rc : List Nat} {T' : TT} {u : List Value} (hl : l[j]? = some ⟨some d, g, .ld x (some n)⟩) (hv : lk T d = some (.agg ⟨u⟩)) (hg : gv T' ⟨some d, g, .ld x (some n)⟩ = some true) (hx : ev T' x = some (.pointer (some ⟨b, off, none⟩))) (hb : Blk w b cs ty) (hn : off + n ≤ cs.length) (hu : (cs.drop off).take n = u)
  (h : RC E l rc T T' w) : RC E l (j :: rc) T T' w := rc_qt hl hv hg rfl (hu ▸ qt_ldm hx hb hn) h
theorem rc_0 {l : List MOp} {T' : TT} : RC E l [] T T' w := trivial
end
/-! ### resources -/
def Res.and (r s : Res) : Res := ⟨fun b => r.ids b ∨ s.ids b, fun w => r.ok w ∧ s.ok w ∧ Dis r s, fun w w' h ⟨h1, h2, h3⟩ => ⟨r.st w w' (fun b hb => h b (.inl hb)) h1, s.st w w' (fun b hb => h b (.inr hb)) h2, h3⟩⟩
def Ex {α : Type} (S : Nat → Prop) (F : α → Res) : Res := ⟨S, fun w => ∃ x, (F x).ok w ∧ ∀ b, (F x).ids b → S b, fun w w' h ⟨x, h1, h2⟩ => ⟨x, (F x).st w w' (fun b hb => h b (h2 b hb)) h1, h2⟩⟩
def Res.when (p : Prop) (r : Res) : Res := ⟨r.ids, fun w => p ∧ r.ok w, fun w w' h ⟨h1, h2⟩ => ⟨h1, r.st w w' h h2⟩⟩
section
variable {w0 w w' : World} {S0 : Nat → Prop} {L : List Res}
theorem St.conv (h : St w0 S0 w L) {r r' : Res} (i : Nat) (hi : L[i]? = some r) (hids : ∀ b, r'.ids b → r.ids b) (hok : r'.ok w) : St w0 S0 w (L.set i r') :=
 h.turn hi (Fr.refl _ _) (fun b hb => .inl (hids b hb)) (fun b hb => h.bd i r hi b (hids b hb)) hok
theorem St.ex (h : St w0 S0 w L) {α : Type} {S : Nat → Prop} {F : α → Res} (i : Nat) (hi : L[i]? = some (Ex S F)) : ∃ x, St w0 S0 w (L.set i (F x)) := by
 obtain ⟨x, h1, h2⟩ := h.ok i _ hi
 exact ⟨x, h.conv i hi h2 h1⟩
theorem St.cond (h : St w0 S0 w L) {p : Prop} {r : Res} (i : Nat) (hi : L[i]? = some (r.when p)) : p ∧ St w0 S0 w (L.set i r) :=
 ⟨(h.ok i _ hi).1, h.conv i hi (fun _ hb => hb) (h.ok i _ hi).2⟩
theorem St.split (h : St w0 S0 w L) {r s : Res} (i : Nat) (hi : L[i]? = some (r.and s)) : St w0 S0 w (L.set i r ++ [s]) := by
 obtain ⟨h1, h2, h3⟩ := h.ok i _ hi
 have hlt : i < L.length := (List.getElem?_eq_some_iff.1 hi).1
 have get : ∀ (j : Nat) (t : Res), (L.set i r ++ [s])[j]? = some t → (j = L.length ∧ t = s) ∨ (j = i ∧ t = r) ∨ (j ≠ i ∧ j < L.length ∧ L[j]? = some t) := by
  intro j t hj
  by_cases e : j < L.length
  ·rw [List.getElem?_append_left (by simpa using e)] at hj
   by_cases e' : j = i
   ·subst e'; rw [List.getElem?_set_self e] at hj; exact .inr (.inl ⟨rfl, (Option.some.inj hj).symm⟩)
   ·rw [List.getElem?_set_ne (fun h => e' h.symm)] at hj; exact .inr (.inr ⟨e', e, hj⟩)
  ·rw [List.getElem?_append_right (by simp; omega)] at hj
   simp only [List.length_set] at hj
   have : j - L.length = 0 := by
    rcases Nat.eq_zero_or_pos (j - L.length) with h0 | h0
    ·exact h0
    ·rw [List.getElem?_eq_none (by simp; omega)] at hj; cases hj
   rw [this] at hj
   simp at hj
   exact .inl ⟨by omega, hj.symm⟩
 have old : ∀ (j : Nat) (t : Res), (L.set i r ++ [s])[j]? = some t → ∃ (k : Nat) (u : Res), L[k]? = some u ∧ ∀ b, t.ids b → u.ids b := by
  intro j t hj
  rcases get j t hj with ⟨_, rfl⟩ | ⟨_, rfl⟩ | ⟨_, _, h⟩
  ·exact ⟨i, _, hi, fun b hb => .inr hb⟩
  ·exact ⟨i, _, hi, fun b hb => .inl hb⟩
  ·exact ⟨j, t, h, fun b hb => hb⟩
 refine ⟨?_, ?_, ?_, ?_, h.fr⟩
 ·intro j t hj
  rcases get j t hj with ⟨_, rfl⟩ | ⟨_, rfl⟩ | ⟨_, _, h'⟩
  ·exact h2
  ·exact h1
  ·exact h.ok j t h'
 ·intro j t hj b hb
  obtain ⟨k, u, hk, hu⟩ := old j t hj
  exact h.bd k u hk b (hu b hb)
 ·intro j t hj b hb
  obtain ⟨k, u, hk, hu⟩ := old j t hj
  exact h.src k u hk b (hu b hb)
 ·intro j k t u hj hk hne b hb hb'
  rcases get j t hj with ⟨ej, rfl⟩ | ⟨ej, rfl⟩ | ⟨ej, ejl, hj'⟩ <;> rcases get k u hk with ⟨ek, rfl⟩ | ⟨ek, rfl⟩ | ⟨ek, ekl, hk'⟩
  ·exact hne (ej.trans ek.symm)
  ·exact h3 b hb' hb
  ·exact h.dis k i _ _ hk' hi ek b hb' (.inr hb)
  ·exact h3 b hb hb'
  ·exact hne (ej.trans ek.symm)
  ·exact h.dis k i _ _ hk' hi ek b hb' (.inl hb)
  ·exact h.dis j i _ _ hj' hi ej b hb (.inr hb')
  ·exact h.dis j i _ _ hj' hi ej b hb (.inl hb')
  ·exact h.dis j k _ _ hj' hk' hne b hb hb'
theorem St.merge (h : St w0 S0 w L) {r s : Res} (i j : Nat) (hi : L[i]? = some r) (hj : L[j]? = some s) (hij : i ≠ j) : St w0 S0 w ((L.set j emp).set i (r.and s)) := by
 have hli : i < L.length := (List.getElem?_eq_some_iff.1 hi).1
 have hlj : j < L.length := (List.getElem?_eq_some_iff.1 hj).1
 have get : ∀ (k : Nat) (t : Res), ((L.set j emp).set i (r.and s))[k]? = some t → (k = i ∧ t = r.and s) ∨ t = emp ∨ (k ≠ i ∧ k ≠ j ∧ L[k]? = some t) := by
  intro k t hk
  by_cases e : k = i
  ·subst e; rw [List.getElem?_set_self (by simpa using hli)] at hk; exact .inl ⟨rfl, (Option.some.inj hk).symm⟩
  ·rw [List.getElem?_set_ne (fun h => e h.symm)] at hk
   by_cases e' : k = j
   ·subst e'; rw [List.getElem?_set_self hlj] at hk; exact .inr (.inl (Option.some.inj hk).symm)
   ·rw [List.getElem?_set_ne (fun h => e' h.symm)] at hk; exact .inr (.inr ⟨e, e', hk⟩)
 refine ⟨?_, ?_, ?_, ?_, h.fr⟩
 ·intro k t hk
  rcases get k t hk with ⟨_, rfl⟩ | rfl | ⟨_, _, h'⟩
  ·exact ⟨h.ok i r hi, h.ok j s hj, h.dis i j r s hi hj hij⟩
  ·trivial
  ·exact h.ok k t h'
 ·intro k t hk b hb
  rcases get k t hk with ⟨_, rfl⟩ | rfl | ⟨_, _, h'⟩
  ·exact hb.elim (h.bd i r hi b) (h.bd j s hj b)
  ·exact hb.elim
  ·exact h.bd k t h' b hb
 ·intro k t hk b hb
  rcases get k t hk with ⟨_, rfl⟩ | rfl | ⟨_, _, h'⟩
  ·exact hb.elim (h.src i r hi b) (h.src j s hj b)
  ·exact hb.elim
  ·exact h.src k t h' b hb
 ·intro k m t u hk hm hne b hb hb'
  rcases get k t hk with ⟨ek, rfl⟩ | rfl | ⟨ek, ek', hk'⟩ <;> rcases get m u hm with ⟨em, rfl⟩ | rfl | ⟨em, em', hm'⟩
  ·exact hne (ek.trans em.symm)
  ·exact hb'.elim
  ·rcases hb with hb | hb
   ·exact h.dis m i _ _ hm' hi em b hb' hb
   ·exact h.dis m j _ _ hm' hj em' b hb' hb
  ·exact hb.elim
  ·exact hb.elim
  ·exact hb.elim
  ·rcases hb' with hb' | hb'
   ·exact h.dis k i _ _ hk' hi ek b hb hb'
   ·exact h.dis k j _ _ hk' hj ek' b hb hb'
  ·exact hb'.elim
  ·exact h.dis k m _ _ hk' hm' hne b hb hb'
theorem St.call0 (h : St w0 S0 w L) : St w (fun _ => False) w [] ∧ ∀ w' news, St w (fun _ => False) w' news → St w0 S0 w' (L ++ news) := by
 refine ⟨St.nil w _, fun w' news hn => ?_⟩
 have get : ∀ (j : Nat) (t : Res), (L ++ news)[j]? = some t → (j < L.length ∧ L[j]? = some t) ∨ (L.length ≤ j ∧ news[j - L.length]? = some t) := by
  intro j t hj
  by_cases e : j < L.length
  ·rw [List.getElem?_append_left e] at hj; exact .inl ⟨e, hj⟩
  ·rw [List.getElem?_append_right (by omega)] at hj; exact .inr ⟨by omega, hj⟩
 have newid : ∀ (j : Nat) (t : Res), news[j]? = some t → ∀ b, t.ids b → w.heap.size ≤ b := fun j t hj b hb => (hn.src j t hj b hb).elim (fun h => h.elim) id
 refine ⟨?_, ?_, ?_, ?_, h.fr.trans hn.fr (fun _ hb => hb.elim)⟩
 ·intro j t hj
  rcases get j t hj with ⟨_, h'⟩ | ⟨_, h'⟩
  ·exact t.st w w' (fun b hb => hn.fr.kept b (h.bd j t h' b hb) (fun h => h)) (h.ok j t h')
  ·exact hn.ok _ t h'
 ·intro j t hj b hb
  rcases get j t hj with ⟨_, h'⟩ | ⟨_, h'⟩
  ·exact Nat.lt_of_lt_of_le (h.bd j t h' b hb) hn.fr.size
  ·exact hn.bd _ t h' b hb
 ·intro j t hj b hb
  rcases get j t hj with ⟨_, h'⟩ | ⟨_, h'⟩
  ·exact h.src j t h' b hb
  ·exact .inr (Nat.le_trans h.fr.size (newid _ t h' b hb))
 ·intro j k t u hj hk hne b hb hb'
  rcases get j t hj with ⟨_, h1⟩ | ⟨ej, h1⟩ <;> rcases get k u hk with ⟨_, h2⟩ | ⟨ek, h2⟩
  ·exact h.dis j k t u h1 h2 hne b hb hb'
  ·have := h.bd j t h1 b hb; have := newid _ u h2 b hb'; omega
  ·have := h.bd k u h2 b hb'; have := newid _ t h1 b hb; omega
  ·exact hn.dis _ _ t u h1 h2 (by omega) b hb hb'
theorem St.drew (h : St w0 S0 w L) : St w0 S0 w.drew L := h.heap rfl rfl rfl rfl (Nat.le_succ _)
end
open Go
def Yd (P : Program) (l : Nat) (vs : List Value) (w : World) (K : Value → World → Prop) : Prop :=
 ∃ f tmps assign body, (Instr.yield l ⟨vs⟩).run P w = .ok (.round l f tmps assign body) w ∧ RoundIn Fence.wide 0 P l f tmps assign body w (fun e w' => ∃ v, e = .returned v ∧ K v w')
theorem Yd.mono {P : Program} {l : Nat} {vs : List Value} {w : World} {K K' : Value → World → Prop} (h : Yd P l vs w K) (hk : ∀ v w', K v w' → K' v w') : Yd P l vs w K' := by
 obtain ⟨f, tmps, a, b, h1, h2⟩ := h
 exact ⟨f, tmps, a, b, h1, h2.mono fun _ _ ⟨v, e, k⟩ => ⟨v, e, hk _ _ k⟩⟩
section
variable {P : Program} {r : Option Nat} {T : TT} {w w0 : World} {S0 : Nat → Prop} {L : List Res} {K : Value → World → Prop}
theorem ef_yd {x : Operand} {l : Nat} {args : List Operand} {vs : List Value} (hv : ev T x = some (.func (.yield l) ⟨[]⟩ ⟨[]⟩)) (hx : evs T args = some vs) (h : Yd P l vs w K) : Ef P r (.cv x args) T w K := by
 rintro ⟨dst, op, ty, pos, after, guard⟩ a next Q hc ha hn
 refine ⟨about_true, ?_⟩
 rw [Oper.semAt_eq _ _ _ (chk_nd hc)]
 cases op <;> simp only [chkO, Bool.false_eq_true] at hc
 rename_i c
 split at hc
 ·rename_i g hg
  simp only [Bool.and_eq_true] at hc
  obtain ⟨e1, he⟩ := hc
  have e1 := oeq_eq e1
  have he := oeqs_eq he
  have hval : a.eval (.tmp g) = .func (.yield l) ⟨[]⟩ ⟨[]⟩ := by rw [← e1]; exact ha.2 _ (by simp [MK.ops]) _ hv
  have hargs : c.args.map a.eval = ⟨vs⟩ := by
   rw [map_arr, ← he, evs_map (fun x hx => ha.2 x (by simp [MK.ops]; exact .inr hx)) hx]
  obtain ⟨f, tmps, as, bd, h1, h2⟩ := h
  have hrun : (execOp a.eval ⟨dst, .call c, ty, pos, after, guard⟩).run P w = .ok (.round l f tmps as bd) w := by
   simp only [execOp, resolve, hg, Sem.run_bind, Sem.run_pure, Deferred.ofValue, hval, hargs, invoke, Result.andThen_ok]
   simpa using h1
  rw [hrun]
  refine ⟨fun h => by simp [FW, Fence.wide] at h, ?_⟩
  have h3 : RoundIn (FW r) (0 - 1) P l f tmps as bd w _ := h2
  refine h3.mono ?_
  rintro e w' ⟨v, rfl, hk⟩
  exact hn v w' hk
 ·simp at hc
def putA : List Nat → List Value → TT → TT
 | t :: ts, v :: vs, T => putA ts vs ((t, v) :: T)
 | _, _, T => T
theorem putA_get {N : Nat} : ∀ (ps : List Nat) (vs : List Value) (T : TT) (tmps : Array Value), tmps.size = N → (∀ t ∈ ps, t < N) → (∀ t x, lk T t = some x → tmps[t]? = some x) →
  (((ps.zip vs).foldl (fun tmps p => tmps.setIfInBounds p.1 p.2) tmps).size = N ∧ ∀ t x, lk (putA ps vs T) t = some x → ((ps.zip vs).foldl (fun tmps p => tmps.setIfInBounds p.1 p.2) tmps)[t]? = some x)
 | [], _, T, tmps, hs, _, hT => ⟨by simpa using hs, by simpa [putA] using hT⟩
 | t :: ts, [], T, tmps, hs, _, hT => ⟨by simpa using hs, by simpa [putA] using hT⟩
 | t :: ts, v :: vs, T, tmps, hs, hp, hT => by
  simp only [List.zip_cons_cons, List.foldl_cons, putA]
  refine putA_get ts vs _ _ (by simpa using hs) (fun s h => hp s (by simp [h])) ?_
  intro s x hx
  simp only [lk] at hx
  split at hx
  ·rename_i e; have := Nat.eq_of_beq_eq_true e; subst this; cases hx
   simp [hs, hp t (by simp)]
  ·rename_i e
   rw [Array.getElem?_setIfInBounds_ne (fun h => by subst h; simp at e)]
   exact hT s x hx
def lpR (P : Program) (l N : Nat) (T : TT) (ps : List Nat) (u v : MC) (st : LoopState) (pd : Option Code) : Res :=
 ⟨fun b => b = l, fun w => ∃ r : Loop, w.heap[l]? = some (.loop r) ∧ r.state = st ∧ r.pending = pd ∧ r.params = ⟨ps⟩ ∧ (chkC P r.assign u = true ∧ chkC P r.body v = true ∧ allD (dlt N) u = true ∧ allD (dlt N) v = true) ∧ (∀ t ∈ ps, t < N) ∧ r.tmps.size = N ∧ (∀ t x, lk T t = some x → r.tmps[t]? = some x),
  fun _ _ h ⟨r, k⟩ => ⟨r, (h l rfl).trans k.1, k.2⟩⟩
theorem fr_putObj (w : World) (b : Nat) (o : Obj) : Fr w (fun x => x = b) (w.putObj b o) :=
 ⟨by simp, fun c _ hn => World.putObj_heap_other hn, rfl, rfl, rfl, Nat.le_refl _⟩
theorem St.putL (h : St w0 S0 w L) {l N : Nat} {ps : List Nat} {u v : MC} {st st' : LoopState} {pd pd' : Option Code} (i : Nat) (hi : L[i]? = some (lpR P l N T ps u v st pd)) :
  ∃ r : Loop, w.heap[l]? = some (.loop r) ∧ r.state = st ∧ r.pending = pd ∧ St w0 S0 (w.putObj l (.loop { r with state := st', pending := pd' })) (L.set i (lpR P l N T ps u v st' pd')) := by
 obtain ⟨r, h1, h2, h3, h4⟩ := h.ok i _ hi
 have hlt : l < w.heap.size := (Array.getElem?_eq_some_iff.1 h1).1
 refine ⟨r, h1, h2, h3, h.turn hi (fr_putObj w l _) (fun _ hb => .inl hb) (fun b hb => by have : b = l := hb; subst this; simpa using hlt) ?_⟩
 exact ⟨_, World.putObj_heap_same hlt, rfl, rfl, h4⟩
def RQ (P : Program) (l N : Nat) (T : TT) (ps : List Nat) (u v : MC) (w0 : World) (S0 : Nat → Prop) (i : Nat) (K : Value → World → Prop) : QX := fun e _ _ w =>
 ∃ L pd, St w0 S0 w L ∧ L[i]? = some (lpR P l N T ps u v .busy pd) ∧ match e with
  | .normal => ∀ w1, St w0 S0 w1 (L.set i (lpR P l N T ps u v .ready none)) → K (.bool true) w1
  | .exit id => ∀ w1, St w0 S0 w1 (L.set i (lpR P l N T ps u v .done (some (.exit id)))) → K (.bool false) w1
  | .ret => ∀ w1, St w0 S0 w1 (L.set i (lpR P l N T ps u v .done (some .ret))) → K (.bool false) w1
  | _ => False
theorem yd_of {l N : Nat} {ps : List Nat} {u v : MC} {pd : Option Code} {vs : List Value} (hS : St w0 S0 w L) (i : Nat) (hi : L[i]? = some (lpR P l N T ps u v .ready pd)) (ha : vs.length = ps.length)
  (h : G ⟨P, some l, N⟩ [.c u] (putA ps vs T) [] w fun e T' D' w' => e = .normal ∧ ∃ L' pd', St w0 S0 w' L' ∧ L'[i]? = some (lpR P l N T ps u v .ready pd') ∧
   ∀ w1, St w0 S0 w1 (L'.set i (lpR P l N T ps u v .busy pd')) → G ⟨P, some l, N⟩ [.c v] T' D' w1 (RQ P l N T ps u v w0 S0 i K)) : Yd P l vs w K := by
 obtain ⟨r, h1, h2, h3, h4, ⟨c1, c2, d1, d2⟩, h5, h6, h7⟩ := hS.ok i _ hi
 have hy := run_yield (P := P) (args := ⟨vs⟩) h1 (by rw [h4]; simpa using ha)
 refine ⟨_, _, _, _, hy, roundIn_of_wpIn trivial ?_⟩
 have hz : ((r.params.zip ⟨vs⟩).foldl (fun tmps (t, a) => tmps.setIfInBounds t a) r.tmps) = (ps.zip vs).foldl (fun tmps p => tmps.setIfInBounds p.1 p.2) r.tmps := by
  rw [h4, ← Array.foldl_toList]
  simp
 rw [hz]
 obtain ⟨q1, q2⟩ := putA_get ps vs T r.tmps h6 h5 h7
 refine wpIn_mono (h d1 r.assign _ c1 d1 ⟨rfl, q1, q2⟩) ?_
 rintro e a' w' ⟨T', D', ha', rfl, L', pd', hS', hi', hb⟩
 obtain ⟨r', e1, e2, e3, hS2⟩ := hS'.putL (st' := .busy) (pd' := pd') i hi'
 refine ⟨_, run_beginRound e1 e2, ?_⟩
 obtain ⟨r2, k1, _, _, _, ⟨_, _, _, _⟩, _⟩ := hS'.ok i _ hi'
 have hG := hb _ hS2 d2 r.body a' c2 d2 ha'
 have hpd : ({ r' with state := .busy, pending := pd' } : Loop) = { r' with state := .busy } := by rw [← e3]
 rw [hpd] at hG
 refine wpIn_mono hG ?_
 rintro e a2 w2 ⟨T2, D2, ha2, L2, pd2, hS3, hi3, hk⟩
 cases e with
 | normal =>
  obtain ⟨r3, f1, f2, f3, hS4⟩ := hS3.putL (st' := .ready) (pd' := none) i hi3
  exact ⟨_, _, run_endRound none f1, _, rfl, hk _ (by simpa using hS4)⟩
 | ret =>
  obtain ⟨r3, f1, f2, f3, hS4⟩ := hS3.putL (st' := .done) (pd' := some .ret) i hi3
  exact ⟨_, _, run_endRound (some .ret) f1, _, rfl, hk _ (by simpa using hS4)⟩
 | exit id =>
  obtain ⟨r3, f1, f2, f3, hS4⟩ := hS3.putL (st' := .done) (pd' := some (.exit id)) i hi3
  exact ⟨_, _, run_endRound (some (.exit id)) f1, _, rfl, hk _ (by simpa using hS4)⟩
 | goto l => exact hk.elim
 | panic c => exact hk.elim
 | outgrown => exact hk.elim
def JP (P : Program) (N : Nat) (ks : List KI) (T : TT) (D : List Deferred) (w : World) (Q : QX) : Option Code → Prop
 | none => G ⟨P, none, N⟩ ks T D w Q
 | some (.exit j) => kq ⟨P, none, N⟩ ks Q (.exit j) T D w
 | some .ret => kq ⟨P, none, N⟩ ks Q .ret T D w
 | _ => False
theorem g_rf {N : Nat} {ks : List KI} {D : List Deferred} {Q : QX} {x : Operand} {ps : List Nat} {u v : MC} {f : FuncId} {first cap : List Value} (hS : St w0 S0 w L) (hx : ev T x = some (.func (.func f) ⟨first⟩ ⟨cap⟩)) (hf : ∀ (args : Array Value) (w : World), (callFunc f args).run P w = .ok (.enter f args) w)
  (h : ∀ l dB w1, St w0 S0 w1 (L ++ [obj dB (.deferred (some [])), lpR P l N T ps u v .ready none]) →
   CK P f (first ++ [.func (.yield l) ⟨[]⟩ ⟨[]⟩] ++ cap) w1 fun _ w2 => ∃ L2 i st pd, St w0 S0 w2 L2 ∧ L2[i]? = some (lpR P l N T ps u v st pd) ∧ st ≠ .busy ∧
    ∀ w3, St w0 S0 w3 (L2.set i (lpR P l N T ps u v .exhausted pd)) → JP P N ks T (⟨.collected dB, #[]⟩ :: D) w3 Q pd) :
  G ⟨P, none, N⟩ (.c (.rf x ps u v) :: ks) T D w Q := by
 intro hd c a hc _ ha
 simp only [allD, Bool.and_eq_true] at hd
 cases c <;> try (simp [chkC] at hc; done)
 rename_i g qs as bd
 simp only [chkC, Bool.and_eq_true, decide_eq_true_eq] at hc
 obtain ⟨⟨⟨e1, e2⟩, c1⟩, c2⟩ := hc
 have e1 := oeq_eq e1; subst e1
 have eqs : qs = ⟨ps⟩ := by rw [← e2]
 subst eqs
 have hev : a.eval g = .func (.func f) ⟨first⟩ ⟨cap⟩ := (ha.ag [g]).2 g (by simp) _ hx
 refine wpIn_rangeFunc fun fn _ => ?_
 generalize hw1 : w.alloc (.deferred (some [])) = w1
 have hz1 : w1.heap.size = w.heap.size + 1 := by rw [← hw1, alloc_size]
 have hS1 : St w0 S0 w1 (L ++ [obj w.heap.size (.deferred (some []))]) := by
  rw [← hw1]
  exact hS.new (fr_alloc w _ _) (fun b hb => by have : b = w.heap.size := hb; omega) (fun b hb => by have : b = w.heap.size := hb; rw [alloc_size]; omega) (World.alloc_heap_new w _)
 generalize hR : ({ state := .ready, pending := none, fn, tmps := a.tmps, params := ⟨ps⟩, assign := as, body := bd, defers := w.heap.size } : Loop) = R
 have hS2 : St w0 S0 (w1.alloc (.loop R)) ((L ++ [obj w.heap.size (.deferred (some []))]) ++ [lpR P (w.heap.size + 1) N T ps u v .ready none]) := by
  refine hS1.new (fr_alloc _ _ _) (fun b hb => by have : b = w.heap.size + 1 := hb; omega) (fun b hb => by have : b = w.heap.size + 1 := hb; rw [alloc_size]; omega) ?_
  refine ⟨R, ?_, by rw [← hR], by rw [← hR], by rw [← hR], by rw [← hR]; exact ⟨c1, c2, hd.1.2, hd.2⟩, ?_, by rw [← hR]; exact ha.sz, by rw [← hR]; exact ha.get⟩
  ·have := World.alloc_heap_new w1 (.loop R)
   rw [hz1] at this
   exact this
  ·intro t ht
   have := List.all_eq_true.1 hd.1.1 t ht
   simpa [dlt] using this
 have hck := h (w.heap.size + 1) w.heap.size _ (by simpa using hS2)
 have hent := run_enterLoop_outer (P := P) (w := w) fn a.tmps ⟨ps⟩ as bd
 rw [hw1, hR] at hent
 refine ⟨w.heap.size + 1, _, w1.alloc (.loop R), ⟨.fn (.func f) ⟨cap⟩, ⟨first⟩ ++ #[.func (.yield (w.heap.size + 1)) #[] #[]]⟩, w1.alloc (.loop R), f, ⟨first ++ [.func (.yield (w.heap.size + 1)) ⟨[]⟩ ⟨[]⟩] ++ cap⟩, w1.alloc (.loop R), hent, ?_, fun _ _ => trivial, ?_, fun h => by simp [FW, Fence.wide] at h, ?_⟩
 ·have h2 : (#[Operand.const (.func (.yield (w.heap.size + 1)) #[] #[])] : Array Operand).map a.eval = #[.func (.yield (w.heap.size + 1)) #[] #[]] := by simp [Act.eval]
  simp only [resolve, Sem.run_bind, Sem.run_pure, Deferred.ofValue, hev, Result.andThen_ok, h2]
 ·simp only [invoke, hf]
  simp
 ·refine (callsIn_wide (n := 0 - 1)).2 (Calls.mono hck ?_)
  rintro e w2 ⟨vv, rfl, L2, i, st, pd, hS3, hi3, hst, hj⟩
  obtain ⟨r3, f1, f2, f3, hS4⟩ := hS3.putL (st' := .exhausted) (pd' := pd) i hi3
  have he := run_endLoop (P := P) f1 (by rw [f2]; exact hst)
  have hpd : ({ r3 with state := .exhausted, pending := pd } : Loop) = { r3 with state := .exhausted } := by rw [← f3]
  rw [hpd] at hS4
  refine ⟨_, _, he, ?_⟩
  have hj := hj _ hS4
  generalize w2.putObj (w.heap.size + 1) _ = w4 at hj ⊢
  rw [f3]
  have hTm : Tm T (⟨.collected w.heap.size, #[]⟩ :: D) N { a with defers := [{ target := .collected w.heap.size, args := #[] }] ++ a.defers } := ⟨by simp [ha.ds], ha.sz, ha.get⟩
  match pd, hj with
  | none, hj => exact ⟨T, _, hTm, hj⟩
  | some (.exit j), hj => exact wpIn_exit ⟨T, _, hTm, hj⟩
  | some .ret, hj => exact wpIn_ret ⟨T, _, hTm, hj⟩
/-! ### arrays of bytes compared -/
theorem items_bys {e : TypeId} (he : P.underlying e = some (.int .u8)) (h1 : hasSize P e 1 = true) (d : Nat) (a b : List UInt8) (hl : a.length = b.length) : ∀ (n k : Nat), k + n = a.length →
  (Op.eqItems (d + 1) e 1 ⟨bys a⟩ ⟨bys b⟩ (List.range' k n)).run P w = .ok (decide (a.drop k = b.drop k)) w := by
 intro n
 induction n with
 | zero => intro k hk; simp [Op.eqItems, List.drop_eq_nil_of_le (show a.length ≤ k by omega), List.drop_eq_nil_of_le (show b.length ≤ k by omega)]
 | succ n ih =>
  intro k hk
  have ka : k < a.length := by omega
  have kb : k < b.length := by omega
  have hr : rdAs P e none = true := by
   obtain ⟨i, hi, _⟩ := hasSize_info h1
   simp [rdAs, isAg, he]
  have pa : (part e ⟨bys a⟩ (k * 1)).run P w = .ok (.int .u8 ((a[k]).toNat : Int)) w := run_part_one hr (by simp [bys, ka]) w
  have pb : (part e ⟨bys b⟩ (k * 1)).run P w = .ok (.int .u8 ((b[k]).toNat : Int)) w := run_part_one hr (by simp [bys, kb]) w
  have pe : (Op.equalIn (d + 1) e (.int .u8 ((a[k]).toNat : Int)) (.int .u8 ((b[k]).toNat : Int))).run P w = .ok (decide (a[k] = b[k])) w := by
   simp only [Op.equalIn, Sem.run_bind, run_underlying he w, Result.andThen_ok, if_true, Sem.run_pure]
   congr 1
   rw [Bool.eq_iff_iff]
   simp only [beq_iff_eq, decide_eq_true_eq]
   constructor
   ·intro h; exact UInt8.toNat_inj.1 (by omega)
   ·intro h; rw [h]
  rw [List.range'_succ]
  simp only [Op.eqItems, Sem.run_bind, pa, pb, pe, Result.andThen_ok]
  rw [List.drop_eq_getElem_cons ka, List.drop_eq_getElem_cons kb]
  by_cases hq : a[k] = b[k]
  ·have h2 := ih (k + 1) (by omega)
   rw [hq, decide_eq_true (rfl : b[k] = b[k])]
   simp only [Bool.not_true, Bool.false_eq_true, if_false, h2]
   congr 1
   rw [Bool.eq_iff_iff, decide_eq_true_eq, decide_eq_true_eq]
   exact ⟨fun h => by rw [h], fun h => (List.cons.inj h).2⟩
  ·rw [decide_eq_false hq]
   simp only [Bool.not_false, if_true, Sem.run_pure]
   congr 1
   rw [Bool.eq_iff_iff, decide_eq_true_eq]
   exact ⟨(fun h => nomatch h), (fun h => absurd (List.cons.inj h).1 hq)⟩
def aqv (op : BinOp) (a b : List UInt8) : Bool := match op with | .eql => decide (a = b) | _ => !decide (a = b)
theorem qt_aq {op : BinOp} {n : Nat} {x y : Operand} {a b : List UInt8} (hx : ev T x = some (.agg ⟨bys a⟩)) (hy : ev T y = some (.agg ⟨bys b⟩)) (ha' : a.length = n) (hb' : b.length = n) :
  Qt P (.aq op n x y) T w (.bool (aqv op a b)) := by
 rintro ⟨dst, o, ty, pos, after, guard⟩ ρ hc ha
 cases o <;> try (simp [chkO] at hc; done)
 rename_i op' t x' y' t'
 simp only [chkO, Bool.and_eq_true, decide_eq_true_eq, Bool.not_eq_true'] at hc
 obtain ⟨⟨⟨⟨⟨rfl, e1⟩, e2⟩, hop⟩, hgt⟩, hu⟩ := hc
 have e1 := oeq_eq e1; have e2 := oeq_eq e2; subst e1 e2
 split at hu
 ·rename_i k e hu'
  simp only [Bool.and_eq_true, decide_eq_true_eq] at hu
  obtain ⟨⟨rfl, hs⟩, he⟩ := hu
  split at he
  ·rename_i he'
   obtain ⟨i, hi, hsz⟩ := hasSize_info hs
   have hco : P.cellsOf e = 1 := by simp [Program.cellsOf, hi, hsz]
   have heq : (Op.equal t (.agg ⟨bys a⟩) (.agg ⟨bys b⟩)).run P w = .ok (decide (a = b)) w := by
    show (Op.equalIn (9998 + 1 + 1) t _ _).run P w = _
    rw [run_equalIn_array w (9998 + 1) _ _ hu' hi, hco, List.range_eq_range']
    have := items_bys (P := P) (w := w) he' hs 9998 a b (by omega) k 0 (by omega)
    simpa using this
   have hg : (eqGuard op t x y (.agg ⟨bys a⟩) (.agg ⟨bys b⟩)).run P w = .ok () w := by
    simp only [eqGuard, Sem.run_bind, run_program, Result.andThen_ok, hgt, Bool.not_false, Bool.not_true, Bool.false_eq_true, if_true, if_false, Sem.run_pure]
    try (split <;> simp only [Sem.run_bind, run_program, Result.andThen_ok, hgt, Bool.not_false, Bool.not_true, Bool.false_eq_true, if_true, if_false, Sem.run_pure])
   cases op <;> simp at hop
   ·have hb : (binOp .eql t (.agg ⟨bys a⟩) (.agg ⟨bys b⟩)).run P w = .ok (.bool (decide (a = b))) w := by
     show (do pure (.bool (← Op.equal t _ _)) : Sem Value).run P w = _
     rw [Sem.run_bind, heq]; rfl
    simp only [execOp, ha.2 _ (by simp [MK.ops]) _ hx, ha.2 _ (by simp [MK.ops]) _ hy, Sem.run_bind, hg, hb, Result.andThen_ok]
    rfl
   ·have hb : (binOp .neq t (.agg ⟨bys a⟩) (.agg ⟨bys b⟩)).run P w = .ok (.bool (!decide (a = b))) w := by
     show (do pure (.bool (!(← Op.equal t _ _))) : Sem Value).run P w = _
     rw [Sem.run_bind, heq]; rfl
    simp only [execOp, ha.2 _ (by simp [MK.ops]) _ hx, ha.2 _ (by simp [MK.ops]) _ hy, Sem.run_bind, hg, hb, Result.andThen_ok]
    rfl
  ·simp at he
 ·simp at hu
theorem g_aq {E : Env} {ks : List KI} {D : List Deferred} {Q : QX} {l : List MOp} {t : Nat} {g : Option (Nat × Bool)} {op : BinOp} {n : Nat} {x y : Operand} (a b : List UInt8) (hg : gv T ⟨some t, g, .aq op n x y⟩ = some true) (hx : ev T x = some (.agg ⟨bys a⟩)) (hy : ev T y = some (.agg ⟨bys b⟩)) (ha : a.length = n) (hb : b.length = n)
  (h : G E (.r l :: ks) ((t, .bool (aqv op a b)) :: T) D w Q) : G E (.r (⟨some t, g, .aq op n x y⟩ :: l) :: ks) T D w Q := g_qt hg (qt_aq hx hy ha hb) h
/-! ### a constant's bytes -/
theorem St.freeze (hS : St w0 S0 w L) {b : Nat} {l : List Value} {E : TypeId} (i : Nat) (hi : L[i]? = some (cel b l E)) (k : Nat) (hk : l.length ≤ k) : St w0 S0 (w.freeze ⟨b, k, none⟩ 1) L := by
 have hb := hS.b i hi
 have heq : L.set i (cel b l E) = L := by
  apply List.ext_getElem?
  intro j
  by_cases e : j = i
  ·subst e; rw [List.getElem?_set_self (List.getElem?_eq_some_iff.1 hi).1, hi]
  ·rw [List.getElem?_set_ne (fun h => e h.symm)]
 rw [← heq]
 have hsz : (w.freeze ⟨b, k, none⟩ 1).heap.size = w.heap.size := by simp [World.freeze]
 refine hS.turn hi ⟨by rw [hsz]; exact Nat.le_refl _, fun c _ hn => ?_, rfl, rfl, rfl, Nat.le_of_eq rfl⟩ (fun _ hb => .inl hb) (fun c hc => by rw [hsz]; exact hS.bd i _ hi c hc) ?_
 ·have : b ≠ c := fun e => hn e.symm
  simp [World.freeze, Array.getElem?_modify, this]
 ·obtain ⟨⟨lo, hi'⟩, h1, h2⟩ := hb
  refine ⟨if lo == hi' then (k, k + 1) else (min lo k, max hi' (k + 1)), ?_, ?_⟩
  ·simp [World.freeze, Array.getElem?_modify, h1]
  ·split
   ·exact .inr hk
   ·rename_i hne
    simp at hne h2
    refine .inr ?_
    simp
    omega
theorem ef_mb {x : Operand} {b off n c : Nat} {l : List Value} {E : TypeId} (hS : St w0 S0 w L) (i : Nat) (hi : L[i]? = some (cel b l E)) (hx : ev T x = some (.slice (some ⟨b, off, none⟩) n c)) (h : ∀ w', St w0 S0 w' L → K (.slice (some ⟨b, off, none⟩) n c) w') : Ef P r (.mb x) T w K := by
 refine ef_run ?_
 rintro ⟨dst, op, ty, pos, after, guard⟩ ρ hc ha
 cases op <;> simp only [chkO, Bool.false_eq_true, Bool.and_eq_true, decide_eq_true_eq] at hc
 rename_i s d y
 obtain ⟨⟨e1, rfl⟩, hu⟩ := hc
 have e1 := oeq_eq e1; subst e1
 split at hu
 ·rename_i e hu'
  split at hu
  ·rename_i he
   obtain ⟨fr, hb, _⟩ := hS.b i hi
   have hsh : w.shape? b = some (E, l.length) := by
    unfold World.shape?
    rw [hb]
    simp
   refine ⟨_, w.freeze ⟨b, l.length, none⟩ 1, ?_, h _ (hS.freeze i hi l.length (Nat.le_refl _))⟩
   simp only [execOp, ha.2 _ (by simp [MK.ops]) _ hx, Sem.run_bind]
   simp [convert, run_underlying hu', run_underlying he, markStringish, hsh]
  ·simp at hu
 ·simp at hu
end
section
variable {P : Program} {r : Option Nat} {T : TT} {w w0 : World} {S0 : Nat → Prop} {L : List Res} {K : Value → World → Prop}
theorem Rd.first {a : Option Addr} {n c E sz : Nat} {xs : List Value} (h : Rd (.slice a n c) E sz n xs w) {w' : World} (hw : w'.heap = w.heap) : (Builtin.firstCells sz n (.slice a n c)).run P w' = .ok ⟨xs⟩ w' :=
 News.first (.inl ⟨E, h⟩) hw
def sel (L : List Res) : List Nat → Option (List Res)
 | [] => some []
 | i :: is => match L[i]?, sel L is with | some r, some R => some (r :: R) | _, _ => none
theorem sel_get {L : List Res} : ∀ {is : List Nat} {R : List Res}, sel L is = some R → ∀ (k : Nat) (r : Res), R[k]? = some r → ∃ i : Nat, is[k]? = some i ∧ L[i]? = some r
 | [], R, h, k, r, hk => by simp [sel] at h; subst h; simp at hk
 | i :: is, R, h, k, r, hk => by
  simp only [sel] at h
  split at h
  ·rename_i r0 R0 h1 h2
   cases h
   cases k with
   | zero => simp at hk; subst hk; exact ⟨i, rfl, h1⟩
   | succ k => exact sel_get h2 k r (by simpa using hk)
  ·cases h
def nodB : List Nat → Bool
 | [] => true
 | i :: is => !(is.any (Nat.beq i)) && nodB is
theorem nodB_ok : ∀ {is : List Nat}, nodB is = true → is.Nodup
 | [], _ => List.nodup_nil
 | i :: is, h => by
  simp only [nodB, Bool.and_eq_true, Bool.not_eq_true'] at h
  refine List.nodup_cons.2 ⟨fun hm => ?_, nodB_ok h.2⟩
  have : is.any (Nat.beq i) = true := List.any_eq_true.2 ⟨i, hm, Nat.beq_refl i⟩
  rw [this] at h; cases h.1
theorem St.sel (hS : St w0 S0 w L) (is : List Nat) {R : List Res} (h : En.sel L is = some R) (hn : nodB is = true) : St w0 S0 w R := hS.pick is R (sel_get h) (nodB_ok hn)
theorem St.sub {A L' : List Res} (hs : L'.Sublist L) : St w0 S0 w (A ++ L) → St w0 S0 w (A ++ L') := by
 induction hs generalizing A with
 | slnil => exact id
 | cons a _ ih =>
  rename_i l1 l2 _
  intro h
  refine ih ?_
  have get : ∀ (j : Nat) (t : Res), (A ++ l2)[j]? = some t → (A ++ a :: l2)[if j < A.length then j else j + 1]? = some t := by
   intro j t hj
   split
   ·rename_i e; rw [List.getElem?_append_left e] at hj ⊢; exact hj
   ·rename_i e
    rw [List.getElem?_append_right (by omega)] at hj ⊢
    rw [show j + 1 - A.length = (j - A.length) + 1 from by omega, List.getElem?_cons_succ]; exact hj
  refine ⟨?_, ?_, ?_, ?_, h.fr⟩
  ·intro j t hj; exact h.ok _ t (get j t hj)
  ·intro j t hj; exact h.bd _ t (get j t hj)
  ·intro j t hj; exact h.src _ t (get j t hj)
  ·intro j k t u hj hk hne; exact h.dis _ _ t u (get j t hj) (get k u hk) (by split <;> split <;> omega)
 | cons_cons a _ ih =>
  intro h
  have := ih (A := A ++ [a]) (by simpa using h)
  simpa using this
theorem St.frame {A B : List Res} (h : St w0 S0 w (A ++ B)) : St w (foot A) w A ∧ ∀ w' A', St w (foot A) w' A' → St w0 S0 w' (A' ++ B) := by
 have ga : ∀ (j : Nat) (t : Res), A[j]? = some t → (A ++ B)[j]? = some t := fun j t hj => by rw [List.getElem?_append_left (List.getElem?_eq_some_iff.1 hj).1]; exact hj
 have gb : ∀ (j : Nat) (t : Res), B[j]? = some t → (A ++ B)[A.length + j]? = some t := fun j t hj => by rw [List.getElem?_append_right (by omega), Nat.add_sub_cancel_left]; exact hj
 refine ⟨⟨fun j t hj => h.ok j t (ga j t hj), fun j t hj => h.bd j t (ga j t hj), fun j t hj b hb => .inl ⟨j, t, hj, hb⟩, fun j k t u hj hk hne => h.dis j k t u (ga j t hj) (ga k u hk) hne, Fr.refl _ _⟩, ?_⟩
 intro w' A' hn
 have get : ∀ (j : Nat) (t : Res), (A' ++ B)[j]? = some t → (j < A'.length ∧ A'[j]? = some t) ∨ (A'.length ≤ j ∧ B[j - A'.length]? = some t) := by
  intro j t hj
  by_cases e : j < A'.length
  ·rw [List.getElem?_append_left e] at hj; exact .inl ⟨e, hj⟩
  ·rw [List.getElem?_append_right (by omega)] at hj; exact .inr ⟨by omega, hj⟩
 have apart : ∀ (j k : Nat) (t u : Res), A'[j]? = some t → B[k]? = some u → Dis t u := by
  intro j k t u hj hk b hb hb'
  rcases hn.src j t hj b hb with ⟨i, r, hi, hr⟩ | h2
  ·have hi' := (List.getElem?_eq_some_iff.1 hi).1
   exact h.dis i (A.length + k) r u (ga i r hi) (gb k u hk) (by omega) b hr hb'
  ·have := h.bd _ u (gb k u hk) b hb'; omega
 have keep : ∀ (k : Nat) (u : Res), B[k]? = some u → ∀ b, u.ids b → w'.heap[b]? = w.heap[b]? := by
  intro k u hk b hb
  refine hn.fr.kept b (h.bd _ u (gb k u hk) b hb) ?_
  rintro ⟨i, r, hi, hr⟩
  have hi' := (List.getElem?_eq_some_iff.1 hi).1
  exact h.dis i (A.length + k) r u (ga i r hi) (gb k u hk) (by omega) b hr hb
 refine ⟨?_, ?_, ?_, ?_, h.fr.trans hn.fr (fun b ⟨i, r, hi, hr⟩ => h.src i r (ga i r hi) b hr)⟩
 ·intro j t hj
  rcases get j t hj with ⟨_, h'⟩ | ⟨_, h'⟩
  ·exact hn.ok j t h'
  ·exact t.st w w' (keep _ t h') (h.ok _ t (gb _ t h'))
 ·intro j t hj b hb
  rcases get j t hj with ⟨_, h'⟩ | ⟨_, h'⟩
  ·exact hn.bd j t h' b hb
  ·exact Nat.lt_of_lt_of_le (h.bd _ t (gb _ t h') b hb) hn.fr.size
 ·intro j t hj b hb
  rcases get j t hj with ⟨_, h'⟩ | ⟨_, h'⟩
  ·rcases hn.src j t h' b hb with ⟨i, r, hi, hr⟩ | h2
   ·exact h.src i r (ga i r hi) b hr
   ·exact .inr (Nat.le_trans h.fr.size h2)
  ·exact h.src _ t (gb _ t h') b hb
 ·intro j k t u hj hk hne
  rcases get j t hj with ⟨_, g1⟩ | ⟨ej, g1⟩ <;> rcases get k u hk with ⟨_, g2⟩ | ⟨ek, g2⟩
  ·exact hn.dis j k t u g1 g2 hne
  ·exact apart j _ t u g1 g2
  ·exact fun b hb hb' => apart k _ u t g2 g1 b hb' hb
  ·exact h.dis _ _ t u (gb _ t g1) (gb _ u g2) (by omega)
theorem CK.frame {A B : List Res} {f : FuncId} {args : List Value} {post : Value → World → List Res → Prop} (hS : St w0 S0 w (A ++ B))
  (base : ∀ {w0 : World} {S0 : Nat → Prop}, St w0 S0 w A → CK P f args w fun v w' => ∃ A', St w0 S0 w' A' ∧ post v w' A') :
  CK P f args w fun v w' => ∃ A', St w0 S0 w' (A' ++ B) ∧ post v w' A' :=
 (base hS.frame.1).mono fun v w' ⟨A', h1, h2⟩ => ⟨A', hS.frame.2 w' A' h1, h2⟩
theorem CK.fr {A B A' : List Res} {f : FuncId} {args : List Value} {v : Value} (hS : St w0 S0 w (A ++ B)) (base : ∀ {w0 : World} {S0 : Nat → Prop} {K : Value → World → Prop}, St w0 S0 w A → (∀ w', St w0 S0 w' A' → K v w') → CK P f args w K)
  (h : ∀ w', St w0 S0 w' (A' ++ B) → K v w') : CK P f args w K := base hS.frame.1 fun w' h' => h w' (hS.frame.2 w' A' h')
end
theorem op_monoQ {F : Fence} {n : Nat} {P : Program} {o : Oper} {a : Act} {w : World} {K K' : Act → World → Prop} {Q Q' : Exit → Act → World → Prop} (h : ∀ a w, K a w → K' a w) (hq : ∀ e a w, Q e a w → Q' e a w)
  (hh : o.wpIn F n P a w K Q) : o.wpIn F n P a w K' Q' := by
 unfold Oper.wpIn at *
 refine ⟨hh.1, ?_⟩
 have hh := hh.2
 have hl : LetsOut Q → LetsOut Q' := fun ⟨a, w, h⟩ => ⟨a, w, hq _ _ _ h⟩
 generalize (o.semAt F.round a.eval).run P w = r at *
 cases r with
 | ok x w' =>
  cases x <;> simp only [Oper.uponIn] at hh ⊢ <;>
   first
    | exact h _ _ hh
    | exact ⟨hh.1, CallsIn.mono hh.2 (fun e w'' he => by cases e <;> first | exact h _ _ he | exact hq _ _ _ he | exact hl he)⟩
    | exact ⟨hh.1, RowsIn.mono hh.2 (fun _ _ he => h _ _ he)⟩
    | exact ⟨hh.1, RoundIn.mono hh.2 (fun e w'' he => by cases e <;> first | exact h _ _ he | exact hq _ _ _ he | exact hl he)⟩
 | halt x w' => cases x <;> simp only [Oper.uponIn] at hh ⊢ <;> first | exact hh | exact hq _ _ _ hh | exact hl hh
theorem ops_monoQ {F : Fence} {n : Nat} {P : Program} {ops : Array Oper} {Q Q' : Exit → Act → World → Prop} (hq : ∀ e a w, Q e a w → Q' e a w) : ∀ (is : List Nat) (a : Act) (w : World), wpOpsIn F n P ops Q is a w → wpOpsIn F n P ops Q' is a w
 | [], a, w, h => hq _ _ _ h
 | i :: is, a, w, h => by
  simp only [wpOpsIn] at h ⊢
  split
  ·rename_i ho; simp only [ho] at h; exact ops_monoQ hq is _ _ h
  ·rename_i o ho
   simp only [ho] at h
   split
   ·rename_i hw; simp only [hw, if_true] at h; exact op_monoQ (fun a w => ops_monoQ hq is a w) hq h
   ·rename_i hw; simp only [hw] at h; exact ⟨h.1, ops_monoQ hq is _ _ h.2⟩
section
variable {E : Env} {ks : List KI} {T : TT} {D : List Deferred} {w : World} {Q : QX}
def CJ (T' : TT) (D : List Deferred) (I : World → Prop) : TT → List Deferred → World → Prop := fun T1 D1 w1 => D1 = D ∧ SubL T' T1 ∧ I w1
def insA (k : KI) : Nat → List KI → List KI
 | 0, ks => k :: ks
 | n + 1, a :: ks => a :: insA k n ks
 | _ + 1, [] => [k]
def noD : Nat → List KI → Bool
 | 0, _ => true
 | _ + 1, [] => false
 | _ + 1, .d .. :: _ => false
 | n + 1, _ :: ks => noD n ks
theorem LQ.mono {N : Nat} {Q Q' : QX} (h : ∀ e T D w, Q e T D w → Q' e T D w) : ∀ e a w, LQ N Q e a w → LQ N Q' e a w := fun _ _ _ ⟨T, D, ha, hq⟩ => ⟨T, D, ha, h _ _ _ _ hq⟩
theorem kq_ins {J : TT → List Deferred → World → Prop} : ∀ (n : Nat) (ks : List KI), noD n ks = true → (∀ T D w, J T D w → kq E (ks.drop n) Q .normal T D w) → ∀ e T D w, kq E (insA (.l J) n ks) Q e T D w → kq E ks Q e T D w
 | 0, ks, _, hJ, e, T, D, w, h => by
  cases e with
  | normal => exact hJ T D w h
  | _ => exact h
 | n + 1, [], hn, _, _, _, _, _, _ => by cases hn
 | n + 1, k :: ks, hn, hJ, e, T, D, w, h => by
  have ih := fun hn => kq_ins n ks hn hJ
  cases k with
  | d l t => cases hn
  | c m =>
   have ih := ih hn
   cases e with
   | normal => exact fun hd c a hc hd' ha => wpIn_mono (h hd c a hc hd' ha) (LQ.mono ih)
   | _ => exact ih _ _ _ _ h
  | r l =>
   have ih := ih hn
   cases e with
   | normal => exact fun hd ops k a h1 h2 ha => ops_monoQ (LQ.mono ih) _ _ _ (h hd ops k a h1 h2 ha)
   | _ => exact ih _ _ _ _ h
  | b id =>
   have ih := ih hn
   cases e with
   | exit j =>
    simp only [insA, kq] at h ⊢
    split
    ·rename_i e; rw [if_pos e] at h; exact ih _ _ _ _ h
    ·rename_i e; rw [if_neg e] at h; exact ih _ _ _ _ h
   | _ => exact ih _ _ _ _ h
  | l J' =>
   have ih := ih hn
   cases e with
   | normal => exact h
   | _ => exact ih _ _ _ _ h
  | s =>
   have ih := ih hn
   cases e with
   | goto l => exact h
   | _ => exact ih _ _ _ _ h
theorem g_at (n : Nat) (T' : TT) (I : World → Prop) (hn : noD n ks = true) (h1 : G E (insA (.l (CJ T' D I)) n ks) T D w Q) (h2 : ∀ T w, SubL T' T → I w → G E (ks.drop n) T D w Q) : G E ks T D w Q :=
 kq_ins n ks hn (fun T1 D1 w1 ⟨hD, hs, hI⟩ => hD ▸ h2 T1 w1 hs hI) _ _ _ _ h1
theorem g_atd (n : Nat) (T' : TT) (I : List Deferred → World → Prop) (hn : noD n ks = true) (h1 : G E (insA (.l (fun T1 D1 w1 => SubL T' T1 ∧ I D1 w1)) n ks) T D w Q) (h2 : ∀ T D w, SubL T' T → I D w → G E (ks.drop n) T D w Q) : G E ks T D w Q :=
 kq_ins n ks hn (fun T1 D1 w1 ⟨hs, hI⟩ => h2 T1 D1 w1 hs hI) _ _ _ _ h1
theorem g_jd {T' : TT} {I : List Deferred → World → Prop} (hs : SubL T' T) (hI : I D w) : G E (.l (fun T1 D1 w1 => SubL T' T1 ∧ I D1 w1) :: ks) T D w Q := ⟨hs, hI⟩
theorem g_j {T' : TT} {I : World → Prop} (hs : SubL T' T) (hI : I w) : G E (.l (CJ T' D I) :: ks) T D w Q := ⟨rfl, hs, hI⟩
end
theorem in64 {n : Int} (h : -9223372036854775808 ≤ n ∧ n ≤ 9223372036854775807) : inK .i64 n := by
 constructor
 ·show IntKind.i64.min ≤ n
  have : IntKind.i64.min = -9223372036854775808 := by decide
  omega
 ·have : IntKind.i64.max = 9223372036854775807 := by decide
  omega
theorem flat_len {ls : List (List Value)} {k : Nat} (h : ∀ l ∈ ls, l.length = k) : ls.flatten.length = ls.length * k := by
 induction ls with
 | nil => simp
 | cons l ls ih => simp only [List.flatten_cons, List.length_append, List.length_cons, h l (by simp), ih (fun m hm => h m (by simp [hm])), Nat.succ_mul]; omega
theorem flat_split {ls : List (List Value)} {i : Nat} (hi : i < ls.length) : ls.flatten = (ls.take i).flatten ++ (ls[i] ++ (ls.drop (i + 1)).flatten) := by
 have : ls = ls.take i ++ (ls[i] :: ls.drop (i + 1)) := by rw [← List.drop_eq_getElem_cons hi, List.take_append_drop]
 rw [← List.flatten_cons, ← List.flatten_append, ← this]
theorem take_len {ls : List (List Value)} {k i : Nat} (h : ∀ l ∈ ls, l.length = k) (hi : i ≤ ls.length) : (ls.take i).flatten.length = i * k := by
 rw [flat_len (k := k) (fun l hl => h l (List.mem_of_mem_take hl)), List.length_take, Nat.min_eq_left hi]
theorem flat_get {ls : List (List Value)} {k i : Nat} (h : ∀ l ∈ ls, l.length = k) (hi : i < ls.length) (rest : List Value) : ((ls.flatten ++ rest).drop (i * k)).take k = ls[i] := by
 rw [flat_split hi, List.append_assoc, ← take_len h (Nat.le_of_lt hi), List.drop_left, List.append_assoc, ← h ls[i] (by simp), List.take_left]
theorem spl_app (a b c vs : List Value) (h : vs.length ≤ b.length) : spl (a ++ (b ++ c)) a.length vs = a ++ ((vs ++ b.drop vs.length) ++ c) := by
 unfold spl
 rw [List.take_left, ← List.drop_drop, List.drop_left, List.drop_append_of_le_length h]
 simp
theorem one_ints {l : List Value} (h : ∀ v ∈ l, ∃ k n, v = .int k n) : l.all (·.oneCell') = true := by
 rw [List.all_eq_true]
 intro v hv
 obtain ⟨k, n, rfl⟩ := h v hv
 rfl
theorem bys_one (bs : List UInt8) : (bys bs).all (·.oneCell') = true := one_ints fun v hv => by
 simp only [bys, List.mem_map] at hv
 obtain ⟨b, _, rfl⟩ := hv
 exact ⟨_, _, rfl⟩
section
variable {w w0 : World} {S0 : Nat → Prop} {L : List Res} {r0 : Res}
theorem St.rowb (hS : St w0 S0 w L) {v : Value} {E sz n : Nat} {xs : List Value} (i : Nat) (hi : L[i]? = some (row v E sz n xs)) (hn : 0 < n) : ∃ a m c, v = .slice (some a) m c := by
 rcases hS.ok i _ hi with ⟨_, rfl, _⟩ | ⟨b, cap, rest, rfl, _⟩
 ·omega
 ·exact ⟨_, _, _, rfl⟩
theorem St.rlen (hS : St w0 S0 w L) {v : Value} {E sz n : Nat} {xs : List Value} (i : Nat) (hi : L[i]? = some (row v E sz n xs)) : ∃ a c, v = .slice a n c := by
 rcases hS.ok i _ hi with ⟨rfl, rfl, _⟩ | ⟨b, cap, rest, rfl, _⟩
 ·exact ⟨_, _, rfl⟩
 ·exact ⟨_, _, rfl⟩
theorem _root_.Go.En.Ow.le {a : Option Addr} {n c E sz : Nat} {xs : List Value} (h : Ow (.slice a n c) E sz n xs w) : n ≤ c ∧ (∀ {x o v}, a = some ⟨x, o, some v⟩ → False) := by
 rcases h with ⟨h, rfl, rfl⟩ | ⟨b, cap, rest, h, hn, _⟩
 ·cases h; exact ⟨Nat.le_refl _, fun h => nomatch h⟩
 ·cases h; exact ⟨hn, fun h => nomatch h⟩
theorem St.nilrow (hS : St w0 S0 w L) (E sz : Nat) : St w0 S0 w (L ++ [row (.slice none 0 0) E sz 0 []]) :=
 hS.new (Fr.refl _ _) (fun _ h => h.elim) (fun _ h => h.elim) (.inl ⟨rfl, rfl, rfl⟩)
theorem q_dn {P : Program} {rs : List ResultVar} {K : Value → World → Prop} {T : TT} {D : List Deferred} {dB : Nat} (hS : St w0 S0 w L) (i : Nat) (hi : L[i]? = some (obj dB (.deferred (some []))))
  (h : ∀ w', St w0 S0 w' (L.set i (obj dB (.deferred none))) → QF P rs K .normal T D w') : QF P rs K .normal T (⟨.collected dB, #[]⟩ :: D) w := by
 have hb := hS.ok i _ hi
 have hlt : dB < w.heap.size := (Array.getElem?_eq_some_iff.1 hb).1
 refine .inl ⟨dB, rfl, hb, h _ (hS.turn hi (fr_putObj w dB _) (fun _ hb => .inl hb) (fun b hb => ?_) (World.putObj_heap_same hlt))⟩
 have : b = dB := hb
 subst this
 simpa using hlt
theorem q_dr {P : Program} {rs : List ResultVar} {K : Value → World → Prop} {T : TT} {D : List Deferred} {dB : Nat} (hS : St w0 S0 w L) (i : Nat) (hi : L[i]? = some (obj dB (.deferred (some []))))
  (h : ∀ w', St w0 S0 w' (L.set i (obj dB (.deferred none))) → QF P rs K .ret T D w') : QF P rs K .ret T (⟨.collected dB, #[]⟩ :: D) w := q_dn hS i hi h
theorem St.ceq (hS : St w0 S0 w L) {b : Nat} {l l' : List Value} {E : TypeId} (i : Nat) (hi : L[i]? = some (cel b l E)) (he : l = l') : St w0 S0 w (L.set i (cel b l' E)) :=
 hS.conv i hi (fun _ h => h) (he ▸ hS.ok i _ hi)
theorem St.front (hS : St w0 S0 w (L ++ [r0])) : St w0 S0 w (r0 :: L) := by
 refine hS.pick (L.length :: List.range L.length) (r0 :: L) ?_ ?_
 ·intro k r hk
  cases k with
  | zero => simp at hk; subst hk; exact ⟨L.length, rfl, by simp⟩
  | succ k =>
   have hk : L[k]? = some r := by simpa using hk
   have hlt := (List.getElem?_eq_some_iff.1 hk).1
   exact ⟨k, by simp [hlt], by rw [List.getElem?_append_left hlt]; exact hk⟩
 ·refine List.nodup_cons.2 ⟨by simp, List.nodup_range⟩
theorem St.tail (hS : St w0 S0 w (r0 :: L)) : St w0 S0 w L := St.sub (A := []) (List.sublist_cons_self r0 L) hS
end
theorem gW {P Q : Prop} (hq : Q) (h : Q → P := by intro h; (repeat (first | refine g_sq ?_ | refine g_rg ?_ | refine g_r0 ?_ | refine g_ok rfl rfl ?_ | refine g_no rfl ?_ | refine g_no0 rfl ?_ | refine g_bk ?_ | refine g_b ?_ | refine g_sk ?_ | refine g_cT rfl ?_ | refine g_cF rfl ?_ | refine g_x rfl ?_ | refine g_lb ?_)); exact h) : P := h hq
theorem gD {P Q : Prop} (hq : Q) (h : Q → P := by intro h; (repeat (first | refine d_ok rfl rfl rfl ?_ | refine d_no rfl rfl ?_)); exact h) : P := h hq
end Go.En
