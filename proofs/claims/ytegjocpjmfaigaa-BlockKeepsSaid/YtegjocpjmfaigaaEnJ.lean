/- Every order of a region that draws. -/
import Derived.Test.YtegjocpjmfaigaaEnI
set_option linter.unusedSimpArgs false
set_option linter.unusedVariables false
namespace Go.En
section
variable {E : Env} {ops : Array Oper} {l : List MOp} {pm : List Nat}

theorem feeds_of {i j : Nat} {mi mj : MOp} {t : Nat} (hi : l[i]? = some mi) (hj : l[j]? = some mj) (hd : mj.d = some t) (ht : t ∈ mi.sees) : feeds l j i = true := by
  simp [feeds, hj, hd, seesB, hi, ht]
theorem dst_of {j : Nat} {mj : MOp} {t : Nat} (hj : l[j]? = some mj) (h : mj.d = some t) : dstIs l j t = true := by simp [dstIs, hj, h]
theorem dst_not {j : Nat} {mj : MOp} {t : Nat} (hj : l[j]? = some mj) (h : mj.d ≠ some t) : dstIs l j t = false := by simp [dstIs, hj, h]

/-- what an operation that comes up looks at is known -/
theorem Iv.ag {C Ed : List Nat} {T : TT} {D : List Deferred} {w : World} {listed : Array Bool} {a : Act} (hE : chkE ops pm = true) (hl : l.length = ops.size) (h : Iv E ops l pm C Ed T D w listed a) {i : Nat} {m : MOp} (hm : l[i]? = some m)
    (hr : ∀ e ∈ edges ops i, listed[e]? = some true) (hc : ∀ j ∈ C, feeds l j i = true → pr pm i j = true) :
    Ag T m.k.ops a.eval ∧ ∀ t b, m.g = some (t, b) → ∀ v, lk T t = some v → a.tmps[t]? = some v := by
  have hi : i < ops.size := by rw [← hl]; exact (List.getElem?_eq_some_iff.1 hm).1
  have key : ∀ t ∈ m.sees, ∀ v, lk T t = some v → a.tmps[t]? = some v := by
    intro t ht v hv
    refine h.agr t v hv fun j hj hnl => ?_
    cases hd : dstIs l j t with
    | false => rfl
    | true =>
      exfalso
      unfold dstIs at hd
      split at hd
      · rename_i mj hmj
        simp only [decide_eq_true_eq] at hd
        have hp := hc j hj (feeds_of hm hmj hd ht)
        have hjlt : j < ops.size := by rw [← hl]; exact (List.getElem?_eq_some_iff.1 hmj).1
        exact hnl (pr_ready hE h.lz h.clo hi hr hjlt hp)
      · cases hd
  refine ⟨⟨fun _ => rfl, fun x hx v hv => ?_⟩, fun t b hg v hv => key t (sees_g hg) v hv⟩
  cases x with
  | tmp t =>
    have := key t (sees_op hx) v hv
    simp only [Act.eval, Array.getD_eq_getD_getElem?, this, Option.getD_some]
  | const c => simp [ev] at hv; exact hv
  | global g => simp [ev] at hv; exact hv
  | func f => simp [ev] at hv; exact hv

theorem set_true {listed : Array Bool} {i j : Nat} (hi : i < listed.size) : (listed.setIfInBounds i true)[j]? = some true ↔ j = i ∨ listed[j]? = some true := by
  rw [Array.getElem?_setIfInBounds]
  by_cases e : i = j
  · subst e; simp [hi]
  · simp only [e, if_false]
    exact ⟨.inr, fun h => h.elim (fun h => absurd h.symm e) id⟩
theorem put_get {a : Act} {d : Option Nat} {v : Value} {t : Nat} {u : Value} (h : a.tmps[t]? = some u) (hd : d ≠ some t) : (a.put d v).tmps[t]? = some u := by
  cases d with
  | none => exact h
  | some s =>
    simp only [Act.put]
    rw [Array.getElem?_setIfInBounds_ne (fun e => hd (by rw [e]))]
    exact h
theorem put_same {a : Act} {t : Nat} {v : Value} (h : t < a.tmps.size) : (a.put (some t) v).tmps[t]? = some v := by simp [Act.put, h]
theorem put_ds {a : Act} {d : Option Nat} {v : Value} : (a.put d v).defers = a.defers ∧ (a.put d v).tmps.size = a.tmps.size := by cases d <;> simp [Act.put]

/-- a quiet one that is still to come, comes -/
theorem Iv.quiet {C Ed : List Nat} {T : TT} {D : List Deferred} {w : World} {listed : Array Bool} {a : Act} (hl : l.length = ops.size) (hdk : ∀ (j : Nat) (m : MOp), l[j]? = some m → dOk m.d E.N)
    (h : Iv E ops l pm C Ed T D w listed a) {i : Nat} {m : MOp} {v : Value} (hm : l[i]? = some m) (hi : i ∈ C) (hr : ∀ e ∈ edges ops i, listed[e]? = some true) (hv : ∀ d, m.d = some d → lk T d = some v) :
    Iv E ops l pm C Ed T D w (listed.setIfInBounds i true) (a.put m.d v) := by
  have hlt : i < listed.size := by rw [h.lz, ← hl]; exact (List.getElem?_eq_some_iff.1 hm).1
  refine ⟨by simp [h.lz], ?_, ?_, ?_, put_ds.1.trans h.ads, put_ds.2.trans h.asz, ?_, h.cc, ?_⟩
  · intro j hj
    rcases (set_true hlt).1 hj with rfl | hj
    · exact .inl hi
    · exact h.sub j hj
  · exact fun e he => (set_true hlt).2 (.inr (h.eds e he))
  · intro j hj e he
    rcases (set_true hlt).1 hj with rfl | hj
    · exact (set_true hlt).2 (.inr (hr e he))
    · exact (set_true hlt).2 (.inr (h.clo j hj e he))
  · intro t u ht hp
    by_cases hd : m.d = some t
    · have hvv := hv t hd
      rw [ht] at hvv
      cases hvv
      rw [hd]
      exact put_same (by rw [h.asz]; exact hdk i m hm t hd)
    · refine put_get (h.agr t u ht fun j hj hnl => ?_) hd
      by_cases e : j = i
      · subst e; exact dst_not hm hd
      · exact hp j hj (fun hc => ((set_true hlt).1 hc).elim e hnl)
  · intro j hj hnl
    exact h.pen j hj (fun hc => hnl ((set_true hlt).2 (.inr hc)))

/-- how many are still to come -/
def left (listed : Array Bool) : Nat := (listed.toList.filter (! ·)).length
theorem left_list : ∀ (xs : List Bool) (i : Nat), i < xs.length → xs[i]? ≠ some true → ((xs.set i true).filter (! ·)).length + 1 = (xs.filter (! ·)).length
  | [], i, hi, _ => by simp at hi
  | true :: xs, 0, _, h => absurd rfl h
  | false :: xs, 0, _, _ => rfl
  | x :: xs, i + 1, hi, h => by
    have := left_list xs i (by simpa using hi) (by simpa using h)
    simp only [List.set_cons_succ, List.filter_cons]
    cases x <;> simp at this ⊢ <;> omega
theorem left_set {listed : Array Bool} {i : Nat} (hi : i < listed.size) (h : listed[i]? ≠ some true) : left (listed.setIfInBounds i true) + 1 = left listed := by
  have := left_list listed.toList i (by simpa using hi) (by simpa using h)
  unfold left
  rw [Array.toList_setIfInBounds]
  exact this
theorem left_zero {listed : Array Bool} (h : left listed = 0) : ∀ i, i < listed.size → listed[i]? = some true := by
  intro i hi
  rw [Array.getElem?_eq_getElem hi]
  congr 1
  cases hb : listed[i] with
  | true => rfl
  | false =>
    have : listed[i] ∈ listed.toList.filter (! ·) := by
      refine List.mem_filter.2 ⟨?_, by simp [hb]⟩
      rw [Array.mem_toList_iff]
      exact Array.getElem_mem hi
    unfold left at h
    rw [List.length_eq_zero_iff.1 h] at this
    cases this

/-- THE TURNING ONES THAT MAY COME NEXT, each with what holds behind it. -/
structure Alt (E : Env) (ops : Array Oper) (l : List MOp) (pm C Ed : List Nat) (T : TT) (D : List Deferred) (w : World) (Q : Exit → Act → World → Prop) (e : Nat) : Prop where
  st : ∃ rc, turnB l pm C Ed e rc = true ∧ ∃ m, l[e]? = some m ∧ ES E m T w fun v w' => (∀ j ∈ rc, ∃ mj vj, l[j]? = some mj ∧ (∀ d, mj.d = some d → lk T d = some vj) ∧ PK E mj (putT m.d v T) w' vj) ∧
    ∀ fuel listed a, left listed ≤ fuel → Iv E ops l pm C (e :: Ed) (putT m.d v T) D w' listed a → wpAnyIn (FW E.r) 0 E.P .any ops Q fuel listed a w'

theorem stop {C Ed A : List Nat} {T : TT} {D : List Deferred} {w : World} {Q : Exit → Act → World → Prop} (hE : chkE ops pm = true) (hl : l.length = ops.size) (hop : ∀ (j : Nat) (o : Oper), ops[j]? = some o → ∃ m, l[j]? = some m ∧ chkOp E.P ops o m = true)
    (hdk : ∀ (j : Nat) (m : MOp), l[j]? = some m → dOk m.d E.N) (hshut : shutB l pm C Ed A = true) (hA : ∀ e ∈ A, Alt E ops l pm C Ed T D w Q e) (hfin : A = [] → ∀ a, Tm T D E.N a → Q .normal a w) :
    ∀ fuel listed a, left listed ≤ fuel → Iv E ops l pm C Ed T D w listed a → wpAnyIn (FW E.r) 0 E.P .any ops Q fuel listed a w := by
  have hmem : ∀ {listed : Array Bool} {a : Act}, Iv E ops l pm C Ed T D w listed a → ∀ i ∈ Region.ready .any ops listed, i ∈ C ∨ i ∈ A := by
    intro listed a h i hi
    obtain ⟨hlt, hnl, hr⟩ := (ready_iff h.lz).1 hi
    simp only [shutB, List.all_eq_true, List.mem_range, Bool.or_eq_true, List.contains_iff_mem, List.any_eq_true, Bool.and_eq_true, Bool.not_eq_true'] at hshut
    rcases hshut i (by omega) with ((h1 | h1) | h1) | ⟨k, hk, ⟨h1, h2⟩, h3⟩
    · exact .inl h1
    · exact absurd (h.eds i h1) hnl
    · exact .inr h1
    · exfalso
      have hkl := pr_ready hE h.lz h.clo hlt hr (by omega) h1
      rcases h.sub k hkl with h4 | h4
      · rw [List.contains_iff_mem.2 h4] at h2; cases h2
      · rw [List.contains_iff_mem.2 h4] at h3; cases h3
  have hend : ∀ {listed : Array Bool} {a : Act}, Iv E ops l pm C Ed T D w listed a → Region.ready .any ops listed = [] → Q .normal a w := by
    intro listed a h hr
    have hall := all_listed hE h.lz hr
    have hnil : A = [] := by
      cases hA' : A with
      | nil => rfl
      | cons e A' =>
        exfalso
        obtain ⟨rc, ht, m, hm, _⟩ := (hA e (by rw [hA']; simp)).st
        simp only [turnB, Bool.and_eq_true, decide_eq_true_eq, Bool.not_eq_true'] at ht
        obtain ⟨⟨⟨h1, h2⟩, h3⟩, _⟩ := ht
        rcases h.sub e (hall e (by omega)) with h4 | h4
        · rw [List.contains_iff_mem.2 h4] at h2; cases h2
        · rw [List.contains_iff_mem.2 h4] at h3; cases h3
    refine hfin hnil a ⟨h.ads, h.asz, fun t v ht => h.agr t v ht fun j hj hnl => ?_⟩
    by_cases hjl : j < ops.size
    · exact absurd (hall j hjl) hnl
    · simp [dstIs, List.getElem?_eq_none (show l.length ≤ j by omega)]
  intro fuel
  induction fuel with
  | zero =>
    intro listed a hf h
    have hz := left_zero (Nat.le_zero.1 hf)
    have hr : Region.ready .any ops listed = [] := by
      cases hrd : Region.ready .any ops listed with
      | nil => rfl
      | cons i _ =>
        exfalso
        have : i ∈ Region.ready .any ops listed := by rw [hrd]; simp
        obtain ⟨hlt, hnl, _⟩ := (ready_iff h.lz).1 this
        exact hnl (hz i (by rw [h.lz]; exact hlt))
    exact ⟨hr, hend h hr⟩
  | succ fuel ih =>
    intro listed a hf h
    refine ⟨hend h, fun i hi => ?_⟩
    obtain ⟨hlt, hnl, hr⟩ := (ready_iff h.lz).1 hi
    have hls : i < listed.size := by rw [h.lz]; exact hlt
    have hleft := left_set hls hnl
    have ho : ops[i]? = some ops[i] := Array.getElem?_eq_getElem hlt
    obtain ⟨m, hm, hc⟩ := hop i _ ho
    rcases hmem h i hi with hC | hA'
    · obtain ⟨m', v, hm', hv, hpk⟩ := h.pen i hC hnl
      rw [hm] at hm'; cases hm'
      obtain ⟨hag, hgd⟩ := h.ag hE hl hm hr (fun j hj hf => h.cc i hC j hj hf)
      exact op_es ho hc (hpk.es (K := fun u w' => u = v ∧ w' = w) ⟨rfl, rfl⟩) hag hgd (fun u w' ⟨hu, hw⟩ => by
        subst hu hw
        exact ih _ _ (by omega) (h.quiet hl hdk hm hC hr hv))
    · obtain ⟨rc, ht, m', hm', hes⟩ := (hA i hA').st
      rw [hm] at hm'; cases hm'
      simp only [turnB, Bool.and_eq_true, decide_eq_true_eq, Bool.not_eq_true', List.all_eq_true, Bool.or_eq_true, List.any_eq_true, List.contains_iff_mem] at ht
      obtain ⟨⟨⟨_, hnC⟩, _⟩, hall⟩ := ht
      obtain ⟨hag, hgd⟩ := h.ag hE hl hm hr (fun j hj hf => by
        rcases (hall j hj).1 with h1 | h1
        · rw [hf] at h1; cases h1
        · exact h1)
      refine op_es ho hc hes hag hgd ?_
      rintro v w' ⟨hrc, hk⟩
      refine hk _ _ _ (by omega) ?_
      have hpend : ∀ j ∈ C, (listed.setIfInBounds i true)[j]? ≠ some true → feeds l i j = false ∧ sameD l i j = false ∧ (plainB l j = true ∨ j ∈ rc) := by
        intro j hj hnj
        have hnj' : listed[j]? ≠ some true := fun hc => hnj ((set_true hls).2 (.inr hc))
        rcases (hall j hj).2 with h1 | ⟨⟨h1, h2⟩, h3⟩
        · exfalso
          have hjl : j < ops.size := by
            obtain ⟨mj, _, hmj, _⟩ := h.pen j hj hnj'
            rw [← hl]; exact (List.getElem?_eq_some_iff.1 hmj).1
          rcases h1 with h1 | ⟨e, he, h1⟩
          · exact hnj' (pr_ready hE h.lz h.clo hlt hr hjl h1)
          · exact hnj' (pr_listed hE h.lz h.clo e (h.eds e he) j hjl h1)
        · exact ⟨h1, h2, h3⟩
      have hsee : ∀ j mj, l[j]? = some mj → feeds l i j = false → ∀ t ∈ mj.sees, lk T t = lk (putT m.d v T) t := by
        intro j mj hmj hf t ht
        symm
        refine lk_put fun hd => ?_
        rw [feeds_of hmj hm hd ht] at hf; cases hf
      refine ⟨by simp [h.lz], ?_, ?_, ?_, put_ds.1.trans h.ads, put_ds.2.trans h.asz, ?_, h.cc, ?_⟩
      · intro j hj
        rcases (set_true hls).1 hj with rfl | hj
        · exact .inr (by simp)
        · exact (h.sub j hj).imp id (fun h => by simp [h])
      · intro e he
        rcases List.mem_cons.1 he with rfl | he
        · exact (set_true hls).2 (.inl rfl)
        · exact (set_true hls).2 (.inr (h.eds e he))
      · intro j hj e he
        rcases (set_true hls).1 hj with rfl | hj
        · exact (set_true hls).2 (.inr (hr e he))
        · exact (set_true hls).2 (.inr (h.clo j hj e he))
      · intro t u ht hp
        by_cases hd : m.d = some t
        · rw [hd, lk_put_same] at ht
          cases ht
          rw [hd]
          exact put_same (by rw [h.asz]; exact hdk i m hm t hd)
        · rw [lk_put hd] at ht
          refine put_get (h.agr t u ht fun j hj hnj => ?_) hd
          refine hp j hj fun hc => ?_
          rcases (set_true hls).1 hc with rfl | hc
          · rw [List.contains_iff_mem.2 hj] at hnC; cases hnC
          · exact hnj hc
      · intro j hj hnj
        have hnj' : listed[j]? ≠ some true := fun hc => hnj ((set_true hls).2 (.inr hc))
        obtain ⟨mj, vj, hmj, hvj, hpk⟩ := h.pen j hj hnj'
        obtain ⟨hf, hs, hp⟩ := hpend j hj hnj
        have hdj : ∀ d, mj.d = some d → m.d ≠ some d := by
          intro d hd hd'
          simp [sameD, hm, hmj, hd, hd'] at hs
        rcases hp with hp | hp
        · have hpl : mj.k.plain = true := by simpa [plainB, hmj] using hp
          exact ⟨mj, vj, hmj, fun d hd => by rw [lk_put (hdj d hd)]; exact hvj d hd, (hpk.of_same (hsee j mj hmj hf)).world hpl⟩
        · obtain ⟨mj', vj', hmj', hvj', hpk'⟩ := hrc j hp
          rw [hmj] at hmj'; cases hmj'
          exact ⟨mj, vj', hmj, fun d hd => by rw [lk_put (hdj d hd)]; exact hvj' d hd, hpk'⟩

/-- WHAT IS SHOWN OF A REGION TAKEN APART HOLDS OF EVERY ORDER. -/
theorem draw_sound {D : List Deferred} {Q : Exit → Act → World → Prop} {K : TT → World → Prop} (hE : chkE ops pm = true) (hl : l.length = ops.size) (hop : ∀ (j : Nat) (o : Oper), ops[j]? = some o → ∃ m, l[j]? = some m ∧ chkOp E.P ops o m = true)
    (hdk : ∀ (j : Nat) (m : MOp), l[j]? = some m → dOk m.d E.N) (hK : ∀ T w a, K T w → Tm T D E.N a → Q .normal a w) :
    ∀ (t : DT) (C Ed : List Nat) (T : TT) (w : World), chkT l pm t C Ed = true → DRun E l t T w K → ∀ fuel listed a, left listed ≤ fuel → Iv E ops l pm C Ed T D w listed a → wpAnyIn (FW E.r) 0 E.P .any ops Q fuel listed a w
  | .fin, C, Ed, T, w, hc, hd => by
    simp only [chkT] at hc
    simp only [DRun] at hd
    exact stop (A := []) hE hl hop hdk hc (fun e he => by cases he) (fun _ a ha => hK T w a hd ha)
  | .q i t, C, Ed, T, w, hc, hd => by
    simp only [chkT, Bool.and_eq_true, decide_eq_true_eq, Bool.not_eq_true', List.all_eq_true, Bool.or_eq_true] at hc
    obtain ⟨⟨⟨⟨⟨hlt, hnC⟩, hnE⟩, hself⟩, hall⟩, hc⟩ := hc
    simp only [DRun] at hd
    obtain ⟨m, v, hm, hsome, hpk, hd⟩ := hd
    obtain ⟨d, hdd⟩ := Option.isSome_iff_exists.1 hsome
    have ih := draw_sound hE hl hop hdk hK t (i :: C) Ed (putT m.d v T) w hc hd
    intro fuel listed a hf h
    have hi : i ∉ C := fun h => by rw [List.contains_iff_mem.2 h] at hnC; cases hnC
    have hie : i ∉ Ed := fun h => by rw [List.contains_iff_mem.2 h] at hnE; cases hnE
    have hnl : listed[i]? ≠ some true := fun hc => (h.sub i hc).elim hi hie
    refine ih fuel listed a hf ⟨h.lz, fun j hj => (h.sub j hj).imp (fun h => by simp [h]) id, h.eds, h.clo, h.ads, h.asz, ?_, ?_, ?_⟩
    · intro t' u ht hp
      have h1 := hp i (by simp) hnl
      have hne : m.d ≠ some t' := by
        intro e
        rw [dst_of hm e] at h1; cases h1
      rw [lk_put hne] at ht
      exact h.agr t' u ht fun j hj hnj => hp j (by simp [hj]) hnj
    · intro j hj k hk hf
      rcases List.mem_cons.1 hj with ej | hj'
      · rcases List.mem_cons.1 hk with ek | hk'
        · rw [ej, ek] at hf; rw [hself] at hf; cases hf
        · rw [ej] at hf ⊢
          rcases ((hall k hk').1).1 with h1 | h1
          · rw [hf] at h1; cases h1
          · exact h1
      · rcases List.mem_cons.1 hk with ek | hk'
        · rw [ek] at hf; rw [((hall j hj').1).2] at hf; cases hf
        · exact h.cc j hj' k hk' hf
    · intro j hj hnj
      rcases List.mem_cons.1 hj with rfl | hj
      · refine ⟨m, v, hm, fun d' hd' => by rw [hd']; exact lk_put_same, hpk.of_same fun t' ht' => ?_⟩
        symm
        refine lk_put fun e => ?_
        rw [feeds_of hm hm e ht'] at hself; cases hself
      · obtain ⟨mj, vj, hmj, hvj, hpkj⟩ := h.pen j hj hnj
        have h2 := (hall j hj).1.2
        have h3 := (hall j hj).2
        refine ⟨mj, vj, hmj, fun d' hd' => ?_, hpkj.of_same fun t' ht' => ?_⟩
        · rw [lk_put]
          · exact hvj d' hd'
          · intro e
            simp [sameD, hm, hmj, e, hd'] at h3
        · symm
          refine lk_put fun e => ?_
          rw [feeds_of hmj hm e ht'] at h2; cases h2
  | .e i rc t, C, Ed, T, w, hc, hd => by
    simp only [chkT, Bool.and_eq_true] at hc
    obtain ⟨⟨hs, ht⟩, hc⟩ := hc
    simp only [DRun] at hd
    obtain ⟨m, hm, hes⟩ := hd
    refine stop (A := [i]) hE hl hop hdk hs (fun e he => ?_) (fun h => by cases h)
    have : e = i := by simpa using he
    subst this
    refine ⟨rc, ht, m, hm, ?_⟩
    refine hes.imp (fun h => ⟨h.1, ?_⟩) (fun h => ⟨h.1, h.2.1, ?_⟩)
    · intro o a next Q' hk hag hn
      exact h.2 o a next Q' hk hag fun v w' ⟨h1, h2⟩ => hn v w' ⟨h1, draw_sound hE hl hop hdk hK t C (e :: Ed) _ w' hc h2⟩
    · exact draw_sound hE hl hop hdk hK t C (e :: Ed) _ w hc h.2.2
  | .alt ts, C, Ed, T, w, hc, hd => by
    simp only [chkT, Bool.and_eq_true] at hc
    simp only [DRun] at hd
    refine stop (A := roots ts) hE hl hop hdk hc.1.2 (fun e he => draws_sound hE hl hop hdk hK ts C Ed T w hc.2 hd e he) (fun h a ha => ?_)
    cases ts with
    | nil => have := hc.1.1; simp at this
    | cons t ts =>
      have hc2 := hc.2
      cases t <;> simp [chkTs, roots] at hc2 h
where draws_sound {D : List Deferred} {Q : Exit → Act → World → Prop} {K : TT → World → Prop} (hE : chkE ops pm = true) (hl : l.length = ops.size) (hop : ∀ (j : Nat) (o : Oper), ops[j]? = some o → ∃ m, l[j]? = some m ∧ chkOp E.P ops o m = true)
    (hdk : ∀ (j : Nat) (m : MOp), l[j]? = some m → dOk m.d E.N) (hK : ∀ T w a, K T w → Tm T D E.N a → Q .normal a w) :
    ∀ (ts : List DT) (C Ed : List Nat) (T : TT) (w : World), chkTs l pm ts C Ed = true → DRuns E l ts T w K → ∀ e ∈ roots ts, Alt E ops l pm C Ed T D w Q e
  | [], _, _, _, _, _, _ => fun e he => by cases he
  | .e i rc t :: ts, C, Ed, T, w, hc, hd => by
    simp only [chkTs, Bool.and_eq_true] at hc
    simp only [DRuns, DRun] at hd
    intro e he
    simp only [roots, List.mem_cons] at he
    rcases he with rfl | he
    · obtain ⟨m, hm, hes⟩ := hd.1
      refine ⟨rc, hc.1.1, m, hm, ?_⟩
      refine hes.imp (fun h => ⟨h.1, ?_⟩) (fun h => ⟨h.1, h.2.1, ?_⟩)
      · intro o a next Q' hk hag hn
        exact h.2 o a next Q' hk hag fun v w' ⟨h1, h2⟩ => hn v w' ⟨h1, draw_sound hE hl hop hdk hK t C (e :: Ed) _ w' hc.1.2 h2⟩
      · exact draw_sound hE hl hop hdk hK t C (e :: Ed) _ w hc.1.2 h.2.2
    · exact draws_sound hE hl hop hdk hK ts C Ed T w hc.2 hd.2 e he
  | .fin :: _, _, _, _, _, hc, _ => by simp [chkTs] at hc
  | .q .. :: _, _, _, _, _, hc, _ => by simp [chkTs] at hc
  | .alt _ :: _, _, _, _, _, hc, _ => by simp [chkTs] at hc
end
end Go.En
