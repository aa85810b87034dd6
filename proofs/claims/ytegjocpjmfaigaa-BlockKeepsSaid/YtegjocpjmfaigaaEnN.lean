/- Resources put together and taken apart; what a called function is handed. -/
import Derived.Test.YtegjocpjmfaigaaEnM
set_option linter.unusedSimpArgs false
set_option linter.unusedVariables false
namespace Go.En

theorem call_k {P : Program} {f : FuncId} {fn : Func} {m : MC} {N : Nat} {args : List Value} {w : World} {K : Value → World → Prop} (hf : P.funcs[f]? = some fn) (hk : fn.body.any (fun c => chkC P c m && allD (dlt N) m) = true) (hN : fn.ntmps = N) (ha : args.length ≤ N)
    (h : G ⟨P, none, N⟩ [.c m] (argT 0 args) [] w (QF P fn.results.toList K)) : Calls P f ⟨args⟩ w fun e w' => ∃ v, e = .returned v ∧ K v w' := by
  cases hb : fn.body with
  | none => rw [hb] at hk; simp at hk
  | some c =>
    rw [hb] at hk
    simp only [Option.any_some, Bool.and_eq_true] at hk
    exact call_of hf hb hN hk.1 hk.2 ha h

/-- What a call comes to. -/
def CK (P : Program) (f : FuncId) (args : List Value) (w : World) (K : Value → World → Prop) : Prop := Calls P f ⟨args⟩ w fun e w' => ∃ v, e = .returned v ∧ K v w'
theorem CK.mono {P : Program} {f : FuncId} {args : List Value} {w : World} {K K' : Value → World → Prop} (h : CK P f args w K) (hk : ∀ v w', K v w' → K' v w') : CK P f args w K' :=
  Calls.mono h fun _ _ ⟨v, e, k⟩ => ⟨v, e, hk _ _ k⟩

section
variable {E : Env} {ks : List KI} {T : TT} {D : List Deferred} {w : World} {Q : QX}
theorem g_cl {l : List MOp} {t : Nat} {g : Option (Nat × Bool)} {f : FuncId} {args : List Operand} {vs : List Value} (hg : gv T ⟨some t, g, .cl f args⟩ = some true) (hx : evs T args = some vs) (h : CK E.P f vs w fun v w' => G E (.r l :: ks) ((t, v) :: T) D w' Q) :
    G E (.r (⟨some t, g, .cl f args⟩ :: l) :: ks) T D w Q := g_ef hg (ef_cl hx h)
theorem g_cl0 {l : List MOp} {g : Option (Nat × Bool)} {f : FuncId} {args : List Operand} {vs : List Value} (hg : gv T ⟨none, g, .cl f args⟩ = some true) (hx : evs T args = some vs) (h : CK E.P f vs w fun _ w' => G E (.r l :: ks) T D w' Q) :
    G E (.r (⟨none, g, .cl f args⟩ :: l) :: ks) T D w Q := g_ef0 hg (ef_cl hx h)
theorem d_cl {l : List MOp} {i s : Nat} {g : Option (Nat × Bool)} {f : FuncId} {args : List Operand} {vs : List Value} {rc : List Nat} {t : DT} (hl : l[i]? = some ⟨some s, g, .cl f args⟩) (hg : gv T ⟨some s, g, .cl f args⟩ = some true) (hx : evs T args = some vs)
    (h : CK E.P f vs w fun v w' => RC E l rc T ((s, v) :: T) w' ∧ G E (.d l t :: ks) ((s, v) :: T) D w' Q) : G E (.d l (.e i rc t) :: ks) T D w Q := d_e hl hg (ef_cl hx h)
theorem d_cl0 {l : List MOp} {i : Nat} {g : Option (Nat × Bool)} {f : FuncId} {args : List Operand} {vs : List Value} {rc : List Nat} {t : DT} (hl : l[i]? = some ⟨none, g, .cl f args⟩) (hg : gv T ⟨none, g, .cl f args⟩ = some true) (hx : evs T args = some vs)
    (h : CK E.P f vs w fun _ w' => RC E l rc T T w' ∧ G E (.d l t :: ks) T D w' Q) : G E (.d l (.e i rc t) :: ks) T D w Q := d_e0 hl hg (ef_cl hx h)
theorem g_l1 {l : List MOp} {t : Nat} {g : Option (Nat × Bool)} {x : Operand} {b off : Nat} {cs : List Value} {ty : TypeId} {v : Value} (hg : gv T ⟨some t, g, .ld x none⟩ = some true) (hx : ev T x = some (.pointer (some ⟨b, off, none⟩))) (hb : Blk w b cs ty) (hv : cs[off]? = some v)
    (h : G E (.r l :: ks) ((t, v) :: T) D w Q) : G E (.r (⟨some t, g, .ld x none⟩ :: l) :: ks) T D w Q := g_qt hg (qt_ld1 hx hb hv) h
theorem g_lm {l : List MOp} {t n : Nat} {g : Option (Nat × Bool)} {x : Operand} {b off : Nat} {cs : List Value} {ty : TypeId} (hg : gv T ⟨some t, g, .ld x (some n)⟩ = some true) (hx : ev T x = some (.pointer (some ⟨b, off, none⟩))) (hb : Blk w b cs ty) (hn : off + n ≤ cs.length)
    (h : G E (.r l :: ks) ((t, .agg ⟨(cs.drop off).take n⟩) :: T) D w Q) : G E (.r (⟨some t, g, .ld x (some n)⟩ :: l) :: ks) T D w Q := g_qt hg (qt_ldm hx hb hn) h
theorem g_l1r {l : List MOp} {t : Nat} {g : Option (Nat × Bool)} {x : Operand} {b off : Nat} {cs : List Value} {ty : TypeId} {v : Value} (hg : gv T ⟨some t, g, .ld x none⟩ = some true) (hx : ev T x = some (.pointer (some ⟨b, off, none⟩))) (hb : Blr w b cs ty) (hv : cs[off]? = some v)
    (h : G E (.r l :: ks) ((t, v) :: T) D w Q) : G E (.r (⟨some t, g, .ld x none⟩ :: l) :: ks) T D w Q := g_qt hg (qt_ld1r hx hb hv) h
theorem g_lmr {l : List MOp} {t n : Nat} {g : Option (Nat × Bool)} {x : Operand} {b off : Nat} {cs : List Value} {ty : TypeId} (hg : gv T ⟨some t, g, .ld x (some n)⟩ = some true) (hx : ev T x = some (.pointer (some ⟨b, off, none⟩))) (hb : Blr w b cs ty) (hn : off + n ≤ cs.length)
    (h : G E (.r l :: ks) ((t, .agg ⟨(cs.drop off).take n⟩) :: T) D w Q) : G E (.r (⟨some t, g, .ld x (some n)⟩ :: l) :: ks) T D w Q := g_qt hg (qt_ldmr hx hb hn) h
theorem d_l1 {l : List MOp} {i s : Nat} {g : Option (Nat × Bool)} {x : Operand} {b off : Nat} {cs : List Value} {ty : TypeId} {v : Value} {t : DT} (hl : l[i]? = some ⟨some s, g, .ld x none⟩) (hg : gv T ⟨some s, g, .ld x none⟩ = some true) (hx : ev T x = some (.pointer (some ⟨b, off, none⟩))) (hb : Blk w b cs ty) (hv : cs[off]? = some v)
    (h : G E (.d l t :: ks) ((s, v) :: T) D w Q) : G E (.d l (.q i t) :: ks) T D w Q := d_qt hl hg rfl (qt_ld1 hx hb hv) h
theorem d_lm {l : List MOp} {i s n : Nat} {g : Option (Nat × Bool)} {x : Operand} {b off : Nat} {cs : List Value} {ty : TypeId} {t : DT} (hl : l[i]? = some ⟨some s, g, .ld x (some n)⟩) (hg : gv T ⟨some s, g, .ld x (some n)⟩ = some true) (hx : ev T x = some (.pointer (some ⟨b, off, none⟩))) (hb : Blk w b cs ty) (hn : off + n ≤ cs.length)
    (h : G E (.d l t :: ks) ((s, .agg ⟨(cs.drop off).take n⟩) :: T) D w Q) : G E (.d l (.q i t) :: ks) T D w Q := d_qt hl hg rfl (qt_ldm hx hb hn) h
theorem rc_1 {l : List MOp} {j d : Nat} {g : Option (Nat × Bool)} {x : Operand} {b off : Nat} {cs : List Value} {ty : TypeId} {v : Value} {rc : List Nat} {T' : TT} (hl : l[j]? = some ⟨some d, g, .ld x none⟩) (hv : lk T d = some v) (hg : gv T' ⟨some d, g, .ld x none⟩ = some true) (hx : ev T' x = some (.pointer (some ⟨b, off, none⟩))) (hb : Blk w b cs ty) (hc : cs[off]? = some v)
    (h : RC E l rc T T' w) : RC E l (j :: rc) T T' w := rc_qt hl hv hg rfl (qt_ld1 hx hb hc) h
theorem rc_m {l : List MOp} {j d n : Nat} {g : Option (Nat × Bool)} {x : Operand} {b off : Nat} {cs : List Value} {ty : TypeId} {rc : List Nat} {T' : TT} {u : List Value} (hl : l[j]? = some ⟨some d, g, .ld x (some n)⟩) (hv : lk T d = some (.agg ⟨u⟩)) (hg : gv T' ⟨some d, g, .ld x (some n)⟩ = some true) (hx : ev T' x = some (.pointer (some ⟨b, off, none⟩))) (hb : Blk w b cs ty) (hn : off + n ≤ cs.length) (hu : (cs.drop off).take n = u)
    (h : RC E l rc T T' w) : RC E l (j :: rc) T T' w := rc_qt hl hv hg rfl (hu ▸ qt_ldm hx hb hn) h
theorem rc_0 {l : List MOp} {T' : TT} : RC E l [] T T' w := trivial
end

/-! ### resources -/
/-- two resources side by side -/
def Res.and (r s : Res) : Res := ⟨fun b => r.ids b ∨ s.ids b, fun w => r.ok w ∧ s.ok w ∧ Dis r s, fun w w' h ⟨h1, h2, h3⟩ => ⟨r.st w w' (fun b hb => h b (.inl hb)) h1, s.st w w' (fun b hb => h b (.inr hb)) h2, h3⟩⟩
/-- a resource of which something is not told -/
def Ex {α : Type} (S : Nat → Prop) (F : α → Res) : Res := ⟨S, fun w => ∃ x, (F x).ok w ∧ ∀ b, (F x).ids b → S b, fun w w' h ⟨x, h1, h2⟩ => ⟨x, (F x).st w w' (fun b hb => h b (h2 b hb)) h1, h2⟩⟩
/-- a resource under a condition -/
def Res.when (p : Prop) (r : Res) : Res := ⟨r.ids, fun w => p ∧ r.ok w, fun w w' h ⟨h1, h2⟩ => ⟨h1, r.st w w' h h2⟩⟩

section
variable {w0 w w' : World} {S0 : Nat → Prop} {L : List Res}
theorem St.conv (h : St w0 S0 w L) {r r' : Res} (i : Nat) (hi : L[i]? = some r) (hids : ∀ b, r'.ids b → r.ids b) (hok : r'.ok w) : St w0 S0 w (L.set i r') :=
  h.turn hi (Fr.refl _ _) (fun b hb => .inl (hids b hb)) (fun b hb => h.bd i r hi b (hids b hb)) hok
theorem St.ex (h : St w0 S0 w L) {α : Type} {S : Nat → Prop} {F : α → Res} (i : Nat) (hi : L[i]? = some (Ex S F)) : ∃ x, St w0 S0 w (L.set i (F x)) := by
  obtain ⟨x, h1, h2⟩ := h.ok i _ hi
  exact ⟨x, h.conv i hi h2 h1⟩
theorem St.toEx (h : St w0 S0 w L) {α : Type} {F : α → Res} {x : α} (i : Nat) (hi : L[i]? = some (F x)) : ∃ S, St w0 S0 w (L.set i (Ex S F)) :=
  ⟨(F x).ids, h.conv (r' := Ex (F x).ids F) i hi (fun _ hb => hb) ⟨x, h.ok i _ hi, fun _ hb => hb⟩⟩
theorem St.cond (h : St w0 S0 w L) {p : Prop} {r : Res} (i : Nat) (hi : L[i]? = some (r.when p)) : p ∧ St w0 S0 w (L.set i r) :=
  ⟨(h.ok i _ hi).1, h.conv i hi (fun _ hb => hb) (h.ok i _ hi).2⟩
theorem St.toWhen (h : St w0 S0 w L) {p : Prop} {r : Res} (i : Nat) (hi : L[i]? = some r) (hp : p) : St w0 S0 w (L.set i (r.when p)) :=
  h.conv (r' := r.when p) i hi (fun _ hb => hb) ⟨hp, h.ok i _ hi⟩
/-- taken apart: the second part goes to the end -/
theorem St.split (h : St w0 S0 w L) {r s : Res} (i : Nat) (hi : L[i]? = some (r.and s)) : St w0 S0 w (L.set i r ++ [s]) := by
  obtain ⟨h1, h2, h3⟩ := h.ok i _ hi
  have hlt : i < L.length := (List.getElem?_eq_some_iff.1 hi).1
  have get : ∀ (j : Nat) (t : Res), (L.set i r ++ [s])[j]? = some t → (j = L.length ∧ t = s) ∨ (j = i ∧ t = r) ∨ (j ≠ i ∧ j < L.length ∧ L[j]? = some t) := by
    intro j t hj
    by_cases e : j < L.length
    · rw [List.getElem?_append_left (by simpa using e)] at hj
      by_cases e' : j = i
      · subst e'; rw [List.getElem?_set_self e] at hj; exact .inr (.inl ⟨rfl, (Option.some.inj hj).symm⟩)
      · rw [List.getElem?_set_ne (fun h => e' h.symm)] at hj; exact .inr (.inr ⟨e', e, hj⟩)
    · rw [List.getElem?_append_right (by simp; omega)] at hj
      simp only [List.length_set] at hj
      have : j - L.length = 0 := by
        rcases Nat.eq_zero_or_pos (j - L.length) with h0 | h0
        · exact h0
        · rw [List.getElem?_eq_none (by simp; omega)] at hj; cases hj
      rw [this] at hj
      simp at hj
      exact .inl ⟨by omega, hj.symm⟩
  have old : ∀ (j : Nat) (t : Res), (L.set i r ++ [s])[j]? = some t → ∃ (k : Nat) (u : Res), L[k]? = some u ∧ ∀ b, t.ids b → u.ids b := by
    intro j t hj
    rcases get j t hj with ⟨_, rfl⟩ | ⟨_, rfl⟩ | ⟨_, _, h⟩
    · exact ⟨i, _, hi, fun b hb => .inr hb⟩
    · exact ⟨i, _, hi, fun b hb => .inl hb⟩
    · exact ⟨j, t, h, fun b hb => hb⟩
  refine ⟨?_, ?_, ?_, ?_, h.fr⟩
  · intro j t hj
    rcases get j t hj with ⟨_, rfl⟩ | ⟨_, rfl⟩ | ⟨_, _, h'⟩
    · exact h2
    · exact h1
    · exact h.ok j t h'
  · intro j t hj b hb
    obtain ⟨k, u, hk, hu⟩ := old j t hj
    exact h.bd k u hk b (hu b hb)
  · intro j t hj b hb
    obtain ⟨k, u, hk, hu⟩ := old j t hj
    exact h.src k u hk b (hu b hb)
  · intro j k t u hj hk hne b hb hb'
    rcases get j t hj with ⟨ej, rfl⟩ | ⟨ej, rfl⟩ | ⟨ej, ejl, hj'⟩ <;> rcases get k u hk with ⟨ek, rfl⟩ | ⟨ek, rfl⟩ | ⟨ek, ekl, hk'⟩
    · exact hne (ej.trans ek.symm)
    · exact h3 b hb' hb
    · exact h.dis k i _ _ hk' hi ek b hb' (.inr hb)
    · exact h3 b hb hb'
    · exact hne (ej.trans ek.symm)
    · exact h.dis k i _ _ hk' hi ek b hb' (.inl hb)
    · exact h.dis j i _ _ hj' hi ej b hb (.inr hb')
    · exact h.dis j i _ _ hj' hi ej b hb (.inl hb')
    · exact h.dis j k _ _ hj' hk' hne b hb hb'
/-- put together: at the second's place nothing is left -/
theorem St.merge (h : St w0 S0 w L) {r s : Res} (i j : Nat) (hi : L[i]? = some r) (hj : L[j]? = some s) (hij : i ≠ j) : St w0 S0 w ((L.set j emp).set i (r.and s)) := by
  have hli : i < L.length := (List.getElem?_eq_some_iff.1 hi).1
  have hlj : j < L.length := (List.getElem?_eq_some_iff.1 hj).1
  have get : ∀ (k : Nat) (t : Res), ((L.set j emp).set i (r.and s))[k]? = some t → (k = i ∧ t = r.and s) ∨ t = emp ∨ (k ≠ i ∧ k ≠ j ∧ L[k]? = some t) := by
    intro k t hk
    by_cases e : k = i
    · subst e; rw [List.getElem?_set_self (by simpa using hli)] at hk; exact .inl ⟨rfl, (Option.some.inj hk).symm⟩
    · rw [List.getElem?_set_ne (fun h => e h.symm)] at hk
      by_cases e' : k = j
      · subst e'; rw [List.getElem?_set_self hlj] at hk; exact .inr (.inl (Option.some.inj hk).symm)
      · rw [List.getElem?_set_ne (fun h => e' h.symm)] at hk; exact .inr (.inr ⟨e, e', hk⟩)
  refine ⟨?_, ?_, ?_, ?_, h.fr⟩
  · intro k t hk
    rcases get k t hk with ⟨_, rfl⟩ | rfl | ⟨_, _, h'⟩
    · exact ⟨h.ok i r hi, h.ok j s hj, h.dis i j r s hi hj hij⟩
    · trivial
    · exact h.ok k t h'
  · intro k t hk b hb
    rcases get k t hk with ⟨_, rfl⟩ | rfl | ⟨_, _, h'⟩
    · exact hb.elim (h.bd i r hi b) (h.bd j s hj b)
    · exact hb.elim
    · exact h.bd k t h' b hb
  · intro k t hk b hb
    rcases get k t hk with ⟨_, rfl⟩ | rfl | ⟨_, _, h'⟩
    · exact hb.elim (h.src i r hi b) (h.src j s hj b)
    · exact hb.elim
    · exact h.src k t h' b hb
  · intro k m t u hk hm hne b hb hb'
    rcases get k t hk with ⟨ek, rfl⟩ | rfl | ⟨ek, ek', hk'⟩ <;> rcases get m u hm with ⟨em, rfl⟩ | rfl | ⟨em, em', hm'⟩
    · exact hne (ek.trans em.symm)
    · exact hb'.elim
    · rcases hb with hb | hb
      · exact h.dis m i _ _ hm' hi em b hb' hb
      · exact h.dis m j _ _ hm' hj em' b hb' hb
    · exact hb.elim
    · exact hb.elim
    · exact hb.elim
    · rcases hb' with hb' | hb'
      · exact h.dis k i _ _ hk' hi ek b hb hb'
      · exact h.dis k j _ _ hk' hj ek' b hb hb'
    · exact hb'.elim
    · exact h.dis k m _ _ hk' hm' hne b hb hb'

/-- a called function that is handed nothing -/
theorem St.call0 (h : St w0 S0 w L) : St w (fun _ => False) w [] ∧ ∀ w' news, St w (fun _ => False) w' news → St w0 S0 w' (L ++ news) := by
  refine ⟨St.nil w _, fun w' news hn => ?_⟩
  have get : ∀ (j : Nat) (t : Res), (L ++ news)[j]? = some t → (j < L.length ∧ L[j]? = some t) ∨ (L.length ≤ j ∧ news[j - L.length]? = some t) := by
    intro j t hj
    by_cases e : j < L.length
    · rw [List.getElem?_append_left e] at hj; exact .inl ⟨e, hj⟩
    · rw [List.getElem?_append_right (by omega)] at hj; exact .inr ⟨by omega, hj⟩
  have newid : ∀ (j : Nat) (t : Res), news[j]? = some t → ∀ b, t.ids b → w.heap.size ≤ b := fun j t hj b hb => (hn.src j t hj b hb).elim (fun h => h.elim) id
  refine ⟨?_, ?_, ?_, ?_, h.fr.trans hn.fr (fun _ hb => hb.elim)⟩
  · intro j t hj
    rcases get j t hj with ⟨_, h'⟩ | ⟨_, h'⟩
    · exact t.st w w' (fun b hb => hn.fr.kept b (h.bd j t h' b hb) (fun h => h)) (h.ok j t h')
    · exact hn.ok _ t h'
  · intro j t hj b hb
    rcases get j t hj with ⟨_, h'⟩ | ⟨_, h'⟩
    · exact Nat.lt_of_lt_of_le (h.bd j t h' b hb) hn.fr.size
    · exact hn.bd _ t h' b hb
  · intro j t hj b hb
    rcases get j t hj with ⟨_, h'⟩ | ⟨_, h'⟩
    · exact h.src j t h' b hb
    · exact .inr (Nat.le_trans h.fr.size (newid _ t h' b hb))
  · intro j k t u hj hk hne b hb hb'
    rcases get j t hj with ⟨_, h1⟩ | ⟨ej, h1⟩ <;> rcases get k u hk with ⟨_, h2⟩ | ⟨ek, h2⟩
    · exact h.dis j k t u h1 h2 hne b hb hb'
    · have := h.bd j t h1 b hb; have := newid _ u h2 b hb'; omega
    · have := h.bd k u h2 b hb'; have := newid _ t h1 b hb; omega
    · exact hn.dis _ _ t u h1 h2 (by omega) b hb hb'
/-- a called function that is handed one resource, gives it back turned, and new ones -/
theorem St.call1 (h : St w0 S0 w L) {r : Res} (i : Nat) (hi : L[i]? = some r) : St w r.ids w [r] ∧ ∀ w' r' news, St w r.ids w' (r' :: news) → St w0 S0 w' (L.set i r' ++ news) := by
  constructor
  · refine ⟨?_, ?_, ?_, ?_, Fr.refl _ _⟩
    · intro j t hj; cases j with
      | zero => simp at hj; subst hj; exact h.ok i r hi
      | succ j => simp at hj
    · intro j t hj; cases j with
      | zero => simp at hj; subst hj; exact h.bd i r hi
      | succ j => simp at hj
    · intro j t hj b hb; cases j with
      | zero => simp at hj; subst hj; exact .inl hb
      | succ j => simp at hj
    · intro j k t u hj hk hne; cases j <;> cases k <;> simp at hj hk hne
  · intro w' r' news hn
    have h1 : St w0 S0 w' (L.set i r') := h.turn hi hn.fr (fun b hb => hn.src 0 r' rfl b hb) (fun b hb => hn.bd 0 r' rfl b hb) (hn.ok 0 r' rfl)
    have newid : ∀ (j : Nat) (t : Res), news[j]? = some t → ∀ b, t.ids b → r.ids b ∨ w.heap.size ≤ b := fun j t hj b hb => hn.src (j + 1) t (by simpa using hj) b hb
    have get : ∀ (j : Nat) (t : Res), (L.set i r' ++ news)[j]? = some t → (j < L.length ∧ (L.set i r')[j]? = some t) ∨ (L.length ≤ j ∧ news[j - L.length]? = some t) := by
      intro j t hj
      by_cases e : j < L.length
      · rw [List.getElem?_append_left (by simpa using e)] at hj; exact .inl ⟨e, hj⟩
      · rw [List.getElem?_append_right (by simp; omega)] at hj; exact .inr ⟨by omega, by simpa using hj⟩
    have hlt : i < L.length := (List.getElem?_eq_some_iff.1 hi).1
    have cross : ∀ (j k : Nat) (t u : Res), (L.set i r')[j]? = some t → news[k]? = some u → Dis t u := by
      intro j k t u hj hk b hb hb'
      by_cases e : j = i
      · subst e
        rw [List.getElem?_set_self hlt] at hj
        cases hj
        exact hn.dis 0 (k + 1) _ u rfl (by simpa using hk) (by simp) b hb hb'
      · rw [List.getElem?_set_ne (fun h => e h.symm)] at hj
        rcases newid k u hk b hb' with h2 | h2
        · exact h.dis j i t r hj hi e b hb h2
        · have := h.bd j t hj b hb; omega
    refine ⟨?_, ?_, ?_, ?_, h1.fr⟩
    · intro j t hj
      rcases get j t hj with ⟨_, h'⟩ | ⟨_, h'⟩
      · exact h1.ok j t h'
      · exact hn.ok (_ + 1) t (by simpa using h')
    · intro j t hj b hb
      rcases get j t hj with ⟨_, h'⟩ | ⟨_, h'⟩
      · exact h1.bd j t h' b hb
      · exact hn.bd (_ + 1) t (by simpa using h') b hb
    · intro j t hj b hb
      rcases get j t hj with ⟨_, h'⟩ | ⟨_, h'⟩
      · exact h1.src j t h' b hb
      · rcases newid _ t h' b hb with h2 | h2
        · exact h.src i r hi b h2
        · exact .inr (Nat.le_trans h.fr.size h2)
    · intro j k t u hj hk hne b hb hb'
      rcases get j t hj with ⟨_, g1⟩ | ⟨ej, g1⟩ <;> rcases get k u hk with ⟨_, g2⟩ | ⟨ek, g2⟩
      · exact h1.dis j k t u g1 g2 hne b hb hb'
      · exact cross j _ t u g1 g2 b hb hb'
      · exact cross k _ u t g2 g1 b hb' hb
      · exact hn.dis (_ + 1) (_ + 1) t u (by simpa using g1) (by simpa using g2) (by omega) b hb hb'
theorem St.drew (h : St w0 S0 w L) : St w0 S0 w.drew L := h.heap rfl rfl rfl rfl
end
end Go.En
