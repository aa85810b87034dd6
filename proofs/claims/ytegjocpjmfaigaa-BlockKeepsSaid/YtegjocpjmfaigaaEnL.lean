/- The walk's rules. -/
import Derived.Test.YtegjocpjmfaigaaEnK
import Derived.Scope
set_option linter.unusedSimpArgs false
set_option linter.unusedVariables false
namespace Go.En

def dlt (N : Nat) (m : MOp) : Bool := match m.d with | some t => decide (t < N) | none => true
theorem dlt_ok {N : Nat} {m : MOp} (h : dlt N m = true) : dOk m.d N := by
  intro t ht
  simp [dlt, ht] at h
  exact h

/-- Resolved code, whatever code it stands for. -/
def Rz (E : Env) (m : MC) (T : TT) (D : List Deferred) (w : World) (Q : QX) : Prop :=
  ∀ (c : Code) (a : Act), chkC E.P c m = true → allD (dlt E.N) m = true → Tm T D E.N a → c.wpIn (FW E.r) 0 E.P (LQ E.N Q) a w

inductive KI where
  | c (m : MC)
  | r (l : List MOp)
  | b (id : Nat)
  | d (l : List MOp) (t : DT)
  | l (J : TT → List Deferred → World → Prop)
  | s

def kq (E : Env) : List KI → QX → QX
  | [], Q => Q
  | .c m :: ks, Q => fun e T D w => match e with | .normal => allD (dlt E.N) m = true → Rz E m T D w (kq E ks Q) | e => kq E ks Q e T D w
  | .r l :: ks, Q => fun e T D w => match e with | .normal => l.all (dlt E.N) = true → RL E l T D w (kq E ks Q) | e => kq E ks Q e T D w
  | .b id :: ks, Q => fun e T D w => match e with | .exit j => (if j = id then kq E ks Q .normal T D w else kq E ks Q (.exit j) T D w) | e => kq E ks Q e T D w
  | .d l t :: ks, Q => fun e T D w => match e with | .normal => DRun E l t T w (fun T w => kq E ks Q .normal T D w) | e => kq E ks Q e T D w
  | .l J :: ks, Q => fun e T D w => match e with | .normal => J T D w | e => kq E ks Q e T D w
  | .s :: ks, Q => fun e T D w => match e with | .goto _ => False | e => kq E ks Q e T D w

/-- WHAT IS STILL TO BE DONE, from these slots in this world. -/
def G (E : Env) (ks : List KI) (T : TT) (D : List Deferred) (w : World) (Q : QX) : Prop := kq E ks Q .normal T D w

section
variable {E : Env} {ks : List KI} {T : TT} {D : List Deferred} {w : World} {Q : QX}

theorem g_sk (h : G E ks T D w Q) : G E (.c .sk :: ks) T D w Q := by
  intro _ c a hc _ ha
  cases c <;> simp [chkC] at hc
  exact wpIn_skip ⟨T, D, ha, h⟩
theorem g_rt (h : kq E ks Q .ret T D w) : G E (.c .rt :: ks) T D w Q := by
  intro _ c a hc _ ha
  cases c <;> simp [chkC] at hc
  exact wpIn_ret ⟨T, D, ha, h⟩
theorem g_xt {i : Nat} (h : kq E ks Q (.exit i) T D w) : G E (.c (.xt i) :: ks) T D w Q := by
  intro _ c a hc _ ha
  cases c <;> simp [chkC] at hc
  subst hc
  exact wpIn_exit ⟨T, D, ha, h⟩
theorem g_lb {i : Nat} (h : G E ks T D w Q) : G E (.c (.lb i) :: ks) T D w Q := by
  intro _ c a hc _ ha
  cases c <;> simp [chkC] at hc
  subst hc
  exact wpIn_label ⟨T, D, ha, h⟩
theorem g_sq {x y : MC} (h : G E (.c x :: .c y :: ks) T D w Q) : G E (.c (.sq x y) :: ks) T D w Q := by
  intro hd c a hc _ ha
  simp only [allD, Bool.and_eq_true] at hd
  cases c <;> simp [chkC] at hc
  rename_i c1 c2
  refine wpIn_seq ?_
  refine wpIn_mono (h hd.1 c1 a hc.1 hd.1 ha) ?_
  rintro e a' w' ⟨T', D', ha', hq⟩
  cases e with
  | normal => exact hq hd.2 c2 a' hc.2 hd.2 ha'
  | _ => exact ⟨T', D', ha', hq⟩
theorem g_cd {x : Operand} {u v : MC} {t : Bool} (hx : ev T x = some (.bool t)) (h1 : t = true → G E (.c u :: ks) T D w Q) (h2 : t = false → G E (.c v :: ks) T D w Q) : G E (.c (.cd x u v) :: ks) T D w Q := by
  intro hd c a hc _ ha
  simp only [allD, Bool.and_eq_true] at hd
  cases c <;> simp [chkC] at hc
  rename_i o c1 c2
  obtain ⟨⟨e1, hc1⟩, hc2⟩ := hc
  have e1 := oeq_eq e1; subst e1
  have hev : a.eval o = .bool t := (ha.ag [o]).2 o (by simp) _ hx
  cases t with
  | true => exact wpIn_cond_true hev (h1 rfl hd.1 c1 a hc1 hd.1 ha)
  | false => exact wpIn_cond_false hev (h2 rfl hd.2 c2 a hc2 hd.2 ha)
theorem g_cT {x : Operand} {u v : MC} (hx : ev T x = some (.bool true)) (h : G E (.c u :: ks) T D w Q) : G E (.c (.cd x u v) :: ks) T D w Q := g_cd hx (fun _ => h) (fun h => by cases h)
theorem g_cF {x : Operand} {u v : MC} (hx : ev T x = some (.bool false)) (h : G E (.c v :: ks) T D w Q) : G E (.c (.cd x u v) :: ks) T D w Q := g_cd hx (fun h => by cases h) (fun _ => h)
theorem g_bk {i : Nat} {u : MC} (h : G E (.c u :: .b i :: ks) T D w Q) : G E (.c (.bk i u) :: ks) T D w Q := by
  intro hd c a hc _ ha
  simp only [allD] at hd
  cases c <;> simp [chkC] at hc
  obtain ⟨rfl, hc⟩ := hc
  refine wpIn_block ?_
  refine wpIn_mono (h hd _ a hc hd ha) ?_
  rintro e a' w' ⟨T', D', ha', hq⟩
  cases e with
  | exit j =>
    simp only [Exit.inBlock]
    simp only [kq] at hq
    split <;> rename_i hj
    · rw [if_pos hj] at hq; exact ⟨T', D', ha', hq⟩
    · rw [if_neg hj] at hq; exact ⟨T', D', ha', hq⟩
  | _ => exact ⟨T', D', ha', hq⟩
theorem g_b {i : Nat} (h : G E ks T D w Q) : G E (.b i :: ks) T D w Q := h
theorem g_sc {u : MC} (hr : E.r = none) (h : G E (.c u :: .s :: ks) T D w Q) : G E (.c (.sc u) :: ks) T D w Q := by
  intro hd c a hc _ ha
  simp only [allD] at hd
  cases c <;> simp [chkC] at hc
  have e : FW E.r = Fence.wide := by rw [hr]; rfl
  rw [e]
  refine (wpIn_wide (n := 0)).2 (wp_scope_straight ((wpIn_wide (n := 0)).1 ?_))
  rw [← e]
  refine wpIn_mono (h hd _ a hc hd ha) ?_
  rintro e a' w' ⟨T', D', ha', hq⟩
  cases e with
  | goto l => exact hq.elim
  | _ => exact ⟨T', D', ha', hq⟩
theorem g_s (h : G E ks T D w Q) : G E (.s :: ks) T D w Q := h

/-! ### ways out -/
theorem k_ret {ks : List KI} (h : Q .ret T D w) : kq E ks Q .ret T D w := by
  induction ks with
  | nil => exact h
  | cons k ks ih => cases k <;> exact ih
/-- where an exit leads -/
def kx : List KI → Nat → Option (List KI)
  | [], _ => none
  | .b j :: ks, i => (match Nat.beq i j with | true => some ks | false => kx ks i)
  | _ :: ks, i => kx ks i
theorem k_xt {i : Nat} {ks' ks : List KI} (h : kx ks i = some ks') (g : G E ks' T D w Q) : kq E ks Q (.exit i) T D w := by
  induction ks with
  | nil => cases h
  | cons k ks ih =>
    cases k with
    | b j =>
      simp only [kx] at h
      simp only [kq]
      split at h
      · rename_i e
        have e := Nat.eq_of_beq_eq_true e
        rw [if_pos e]
        cases h
        exact g
      · rename_i e
        rw [if_neg (fun h => by subst h; simp at e)]
        exact ih h
    | _ => exact ih h
theorem k_xo {i : Nat} {ks : List KI} (h : kx ks i = none) (g : Q (.exit i) T D w) : kq E ks Q (.exit i) T D w := by
  induction ks with
  | nil => exact g
  | cons k ks ih =>
    cases k with
    | b j =>
      simp only [kx] at h
      simp only [kq]
      split at h
      · cases h
      · rename_i e
        rw [if_neg (fun h => by subst h; simp at e)]
        exact ih h
    | _ => exact ih h
theorem g_ret (h : Q .ret T D w) : G E (.c .rt :: ks) T D w Q := g_rt (k_ret h)
theorem g_x {i : Nat} {ks' : List KI} (hk : kx ks i = some ks') (h : G E ks' T D w Q) : G E (.c (.xt i) :: ks) T D w Q := g_xt (k_xt hk h)

/-! ### fewer slots -/
def Sub (T' T : TT) : Prop := ∀ t v, lk T' t = some v → lk T t = some v
theorem Tm.sub {T T' : TT} {D : List Deferred} {N : Nat} {a : Act} (h : Tm T D N a) (hs : Sub T' T) : Tm T' D N a := ⟨h.ds, h.sz, fun t v hv => h.get t v (hs t v hv)⟩
def SubL : TT → TT → Prop
  | [], _ => True
  | (t, v) :: r, T => lk T t = some v ∧ SubL r T
theorem SubL.sub : ∀ {T' T : TT}, SubL T' T → Sub T' T
  | [], _, _ => fun t v h => by cases h
  | (s, u) :: r, T, ⟨h1, h2⟩ => fun t v h => by
    simp only [lk] at h
    split at h
    · rename_i e; have := Nat.eq_of_beq_eq_true e; subst this; cases h; exact h1
    · exact SubL.sub h2 t v h
theorem evs_sub {T' T : TT} (hs : Sub T' T) (x : Operand) (v : Value) (h : ev T' x = some v) : ev T x = some v := by
  cases x with
  | tmp t => exact hs t v h
  | _ => exact h
theorem Ag.sub {T' T : TT} {xs : List Operand} {ρ : Operand → Value} (h : Ag T xs ρ) (hs : Sub T' T) : Ag T' xs ρ := ⟨h.1, fun x hx v hv => h.2 x hx v (evs_sub hs x v hv)⟩
theorem g_wkc {u : MC} {T' : TT} (hs : SubL T' T) (h : G E (.c u :: ks) T' D w Q) : G E (.c u :: ks) T D w Q :=
  fun hd c a hc hd' ha => h hd c a hc hd' (ha.sub hs.sub)
theorem g_wkr {l : List MOp} {T' : TT} (hs : SubL T' T) (h : G E (.r l :: ks) T' D w Q) : G E (.r l :: ks) T D w Q :=
  fun hd ops k a hm hk ha => h hd ops k a hm hk (ha.sub hs.sub)

/-! ### operations one behind the other -/
theorem g_rg {l : List MOp} (h : G E (.r l :: ks) T D w Q) : G E (.c (.rg l) :: ks) T D w Q := by
  intro hd c a hc _ ha
  simp only [allD] at hd
  cases c <;> try (simp [chkC] at hc; done)
  rename_i id ops dr
  cases dr <;> simp only [chkC, Bool.false_eq_true] at hc
  obtain ⟨hlen, hg⟩ := chkOps_get hc
  refine wpIn_region ?_
  rw [List.range_eq_range', show ops.size = l.length from by rw [← hlen]; simp]
  refine h hd ops 0 a (fun j hj => ?_) (fun j m hm => dlt_ok (List.all_eq_true.1 hd m (List.mem_of_getElem? hm))) ha
  have hjo : j < ops.toList.length := by omega
  obtain ⟨m, hm, hcm⟩ := hg j _ (List.getElem?_eq_getElem hjo)
  refine ⟨_, m, ?_, hm, hcm⟩
  rw [Nat.zero_add]
  simp at hjo
  simp [hjo]
theorem g_r0 (h : G E ks T D w Q) : G E (.r [] :: ks) T D w Q := fun _ _ _ a _ _ ha => ⟨T, D, ha, h⟩
theorem g_es {l : List MOp} {m : MOp} (h : ES E m T w fun v w' => G E (.r l :: ks) (putT m.d v T) D w' Q) : G E (.r (m :: l) :: ks) T D w Q := by
  intro hd ops k a hm hk ha
  simp only [List.all_cons, Bool.and_eq_true] at hd
  obtain ⟨o, m', ho, hm', hc⟩ := hm 0 (by simp)
  simp at hm'
  subst hm'
  rw [List.length_cons, List.range'_succ, wpOpsIn_cons]
  refine op_es ho hc h (ha.ag _) (fun t b _ v hv => ha.get t v hv) (fun v w' hg => ?_)
  refine hg hd.2 ops (k + 1) _ (fun j hj => ?_) (fun j m hm => hk (j + 1) m hm) (ha.put v (dlt_ok hd.1))
  obtain ⟨o, m, h1, h2, h3⟩ := hm (j + 1) (by simp; omega)
  exact ⟨o, m, by rw [show k + 1 + j = k + (j + 1) from by omega]; exact h1, by simpa using h2, h3⟩
theorem g_ok {l : List MOp} {t : Nat} {g : Option (Nat × Bool)} {k : MK} {v : Value} (hg : gv T ⟨some t, g, k⟩ = some true) (hp : pev T k = .ok v) (h : G E (.r l :: ks) ((t, v) :: T) D w Q) : G E (.r (⟨some t, g, k⟩ :: l) :: ks) T D w Q :=
  g_es (.inl ⟨hg, ef_qt ((pev_ok hp).2 w) h⟩)
theorem g_rq {l : List MOp} {t : Nat} {g : Option (Nat × Bool)} {k : MK} {v : Value} {c : Prop} (hg : gv T ⟨some t, g, k⟩ = some true) (hp : pev T k = .rq c v) (hc : c) (h : G E (.r l :: ks) ((t, v) :: T) D w Q) : G E (.r (⟨some t, g, k⟩ :: l) :: ks) T D w Q :=
  g_es (.inl ⟨hg, ef_qt ((pev_rq hp hc).2 w) h⟩)
theorem g_qt {l : List MOp} {t : Nat} {g : Option (Nat × Bool)} {k : MK} {v : Value} (hg : gv T ⟨some t, g, k⟩ = some true) (hp : Qt E.P k T w v) (h : G E (.r l :: ks) ((t, v) :: T) D w Q) : G E (.r (⟨some t, g, k⟩ :: l) :: ks) T D w Q :=
  g_es (.inl ⟨hg, ef_qt hp h⟩)
theorem g_no {l : List MOp} {t : Nat} {g : Option (Nat × Bool)} {k : MK} (hg : gv T ⟨some t, g, k⟩ = some false) (h : G E (.r l :: ks) ((t, undef) :: T) D w Q) : G E (.r (⟨some t, g, k⟩ :: l) :: ks) T D w Q :=
  g_es (.inr ⟨hg, h⟩)
theorem g_no0 {l : List MOp} {g : Option (Nat × Bool)} {k : MK} (hg : gv T ⟨none, g, k⟩ = some false) (h : G E (.r l :: ks) T D w Q) : G E (.r (⟨none, g, k⟩ :: l) :: ks) T D w Q :=
  g_es (.inr ⟨hg, h⟩)
theorem g_ef {l : List MOp} {t : Nat} {g : Option (Nat × Bool)} {k : MK} (hg : gv T ⟨some t, g, k⟩ = some true) (h : Ef E.P E.r k T w fun v w' => G E (.r l :: ks) ((t, v) :: T) D w' Q) : G E (.r (⟨some t, g, k⟩ :: l) :: ks) T D w Q :=
  g_es (.inl ⟨hg, h⟩)
theorem g_ef0 {l : List MOp} {g : Option (Nat × Bool)} {k : MK} (hg : gv T ⟨none, g, k⟩ = some true) (h : Ef E.P E.r k T w fun _ w' => G E (.r l :: ks) T D w' Q) : G E (.r (⟨none, g, k⟩ :: l) :: ks) T D w Q :=
  g_es (.inl ⟨hg, h⟩)
/-- a truth value, known -/
theorem g_sp {l : List MOp} {t : Nat} {b : Bool} (hb : lk T t = some (.bool b)) (h : ∀ c, b = c → G E (.r l :: ks) ((t, .bool c) :: T) D w Q) : G E (.r l :: ks) T D w Q := by
  intro hd ops k a hm hk ha
  refine h b rfl hd ops k a hm hk ⟨ha.ds, ha.sz, fun s u hs => ?_⟩
  simp only [lk] at hs
  split at hs
  · rename_i e; have := Nat.eq_of_beq_eq_true e; subst this; cases hs; exact ha.get t _ hb
  · exact ha.get s u hs

/-! ### a region that draws its order -/
theorem g_dr {l : List MOp} {pm : List Nat} {t : DT} (hm : E.P.follows .mixedOrders = true) (h : G E (.d l t :: ks) T D w.drew Q) : G E (.c (.dr l pm t) :: ks) T D w Q := by
  intro hd c a hc _ ha
  simp only [allD] at hd
  cases c <;> try (simp [chkC] at hc; done)
  rename_i id ops dr
  cases dr <;> simp only [chkC, Bool.false_eq_true, Bool.and_eq_true, chkD] at hc
  obtain ⟨hc, hE, hT⟩ := hc
  obtain ⟨hlen, hg⟩ := chkOps_get hc
  have hl : l.length = ops.size := by rw [← hlen]; simp
  refine wpIn_region_any hm ?_
  have hz : left (Array.replicate ops.size false) ≤ ops.size := by
    unfold left
    refine Nat.le_trans (List.length_filter_le _ _) (by simp)
  refine draw_sound (E := E) (D := D) (K := fun T w => kq E ks Q .normal T D w) hE hl (fun j o ho => ?_) (fun j m hm => dlt_ok (List.all_eq_true.1 hd m (List.mem_of_getElem? hm))) (fun T w a hk ha => ⟨T, D, ha, hk⟩) t [] [] T w.drew hT h ops.size _ a hz ?_
  · have := hg j o (by simpa using ho)
    exact this
  · refine ⟨by simp, fun i hi => ?_, (fun e he => by cases he), fun i hi => ?_, ha.ds, ha.sz, fun t v hv _ => ha.get t v hv, (fun i hi => by cases hi), (fun j hj => by cases hj)⟩
    · exfalso
      have := (Array.getElem?_eq_some_iff.1 hi).2
      simp at this
    · exfalso
      have := (Array.getElem?_eq_some_iff.1 hi).2
      simp at this
theorem d_fin {l : List MOp} (h : G E ks T D w Q) : G E (.d l .fin :: ks) T D w Q := h
theorem d_ok {l : List MOp} {i s : Nat} {g : Option (Nat × Bool)} {k : MK} {v : Value} {t : DT} (hl : l[i]? = some ⟨some s, g, k⟩) (hg : gv T ⟨some s, g, k⟩ = some true) (hp : pev T k = .ok v) (h : G E (.d l t :: ks) ((s, v) :: T) D w Q) : G E (.d l (.q i t) :: ks) T D w Q :=
  ⟨_, v, hl, rfl, .inl ⟨hg, .inl (pev_ok hp)⟩, h⟩
theorem d_rq {l : List MOp} {i s : Nat} {g : Option (Nat × Bool)} {k : MK} {v : Value} {c : Prop} {t : DT} (hl : l[i]? = some ⟨some s, g, k⟩) (hg : gv T ⟨some s, g, k⟩ = some true) (hp : pev T k = .rq c v) (hc : c) (h : G E (.d l t :: ks) ((s, v) :: T) D w Q) : G E (.d l (.q i t) :: ks) T D w Q :=
  ⟨_, v, hl, rfl, .inl ⟨hg, .inl (pev_rq hp hc)⟩, h⟩
theorem d_qt {l : List MOp} {i s : Nat} {g : Option (Nat × Bool)} {k : MK} {v : Value} {t : DT} (hl : l[i]? = some ⟨some s, g, k⟩) (hg : gv T ⟨some s, g, k⟩ = some true) (hn : k.plain = false) (hp : Qt E.P k T w v) (h : G E (.d l t :: ks) ((s, v) :: T) D w Q) : G E (.d l (.q i t) :: ks) T D w Q :=
  ⟨_, v, hl, rfl, .inl ⟨hg, .inr ⟨hn, hp⟩⟩, h⟩
theorem d_no {l : List MOp} {i s : Nat} {g : Option (Nat × Bool)} {k : MK} {t : DT} (hl : l[i]? = some ⟨some s, g, k⟩) (hg : gv T ⟨some s, g, k⟩ = some false) (h : G E (.d l t :: ks) ((s, undef) :: T) D w Q) : G E (.d l (.q i t) :: ks) T D w Q :=
  ⟨_, undef, hl, rfl, .inr ⟨hg, rfl⟩, h⟩
/-- the quiet ones that are read again -/
def RC (E : Env) (l : List MOp) : List Nat → TT → TT → World → Prop
  | [], _, _, _ => True
  | j :: rc, T, T', w => (∃ mj vj, l[j]? = some mj ∧ (∀ d, mj.d = some d → lk T d = some vj) ∧ PK E mj T' w vj) ∧ RC E l rc T T' w
theorem RC.all {l : List MOp} : ∀ {rc : List Nat} {T T' : TT} {w : World}, RC E l rc T T' w → ∀ j ∈ rc, ∃ mj vj, l[j]? = some mj ∧ (∀ d, mj.d = some d → lk T d = some vj) ∧ PK E mj T' w vj
  | [], _, _, _, _, j, hj => by cases hj
  | k :: rc, _, _, _, ⟨h1, h2⟩, j, hj => by
    rcases List.mem_cons.1 hj with e | hj
    · subst e; exact h1
    · exact h2.all j hj
theorem d_e {l : List MOp} {i s : Nat} {g : Option (Nat × Bool)} {k : MK} {rc : List Nat} {t : DT} (hl : l[i]? = some ⟨some s, g, k⟩) (hg : gv T ⟨some s, g, k⟩ = some true)
    (h : Ef E.P E.r k T w fun v w' => RC E l rc T ((s, v) :: T) w' ∧ G E (.d l t :: ks) ((s, v) :: T) D w' Q) : G E (.d l (.e i rc t) :: ks) T D w Q :=
  ⟨_, hl, .inl ⟨hg, fun o a next Q' hk hag hn => h o a next Q' hk hag fun v w' ⟨h1, h2⟩ => hn v w' ⟨h1.all, h2⟩⟩⟩
theorem d_e0 {l : List MOp} {i : Nat} {g : Option (Nat × Bool)} {k : MK} {rc : List Nat} {t : DT} (hl : l[i]? = some ⟨none, g, k⟩) (hg : gv T ⟨none, g, k⟩ = some true)
    (h : Ef E.P E.r k T w fun _ w' => RC E l rc T T w' ∧ G E (.d l t :: ks) T D w' Q) : G E (.d l (.e i rc t) :: ks) T D w Q :=
  ⟨_, hl, .inl ⟨hg, fun o a next Q' hk hag hn => h o a next Q' hk hag fun v w' ⟨h1, h2⟩ => hn v w' ⟨h1.all, h2⟩⟩⟩
theorem d_en {l : List MOp} {i s : Nat} {g : Option (Nat × Bool)} {k : MK} {rc : List Nat} {t : DT} (hl : l[i]? = some ⟨some s, g, k⟩) (hg : gv T ⟨some s, g, k⟩ = some false) (hrc : RC E l rc T ((s, undef) :: T) w)
    (h : G E (.d l t :: ks) ((s, undef) :: T) D w Q) : G E (.d l (.e i rc t) :: ks) T D w Q :=
  ⟨_, hl, .inr ⟨hg, hrc.all, h⟩⟩
theorem d_a1 {l : List MOp} {t : DT} (h : G E (.d l t :: ks) T D w Q) : G E (.d l (.alt [t]) :: ks) T D w Q := ⟨h, trivial⟩
theorem d_a2 {l : List MOp} {t u : DT} {ts : List DT} (h1 : G E (.d l t :: ks) T D w Q) (h2 : G E (.d l (.alt (u :: ts)) :: ks) T D w Q) : G E (.d l (.alt (t :: u :: ts)) :: ks) T D w Q := ⟨h1, h2⟩
theorem rc_qt {l : List MOp} {j d : Nat} {g : Option (Nat × Bool)} {k : MK} {v : Value} {rc : List Nat} {T' : TT} (hl : l[j]? = some ⟨some d, g, k⟩) (hv : lk T d = some v) (hg : gv T' ⟨some d, g, k⟩ = some true) (hn : k.plain = false) (hp : Qt E.P k T' w v) (h : RC E l rc T T' w) : RC E l (j :: rc) T T' w :=
  ⟨⟨_, v, hl, fun d' hd' => by cases hd'; exact hv, .inl ⟨hg, .inr ⟨hn, hp⟩⟩⟩, h⟩
theorem rc_no {l : List MOp} {j d : Nat} {g : Option (Nat × Bool)} {k : MK} {rc : List Nat} {T' : TT} (hl : l[j]? = some ⟨some d, g, k⟩) (hv : lk T d = some undef) (hg : gv T' ⟨some d, g, k⟩ = some false) (h : RC E l rc T T' w) : RC E l (j :: rc) T T' w :=
  ⟨⟨_, undef, hl, fun d' hd' => by cases hd'; exact hv, .inr ⟨hg, rfl⟩⟩, h⟩
end
end Go.En
