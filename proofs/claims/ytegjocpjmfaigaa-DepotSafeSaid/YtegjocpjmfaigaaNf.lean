/- The depot: plain laws. -/
import Derived.Test.YtegjocpjmfaigaaNe
set_option linter.unusedSimpArgs false
set_option linter.unusedVariables false
namespace Go.Proofs.Ytegjocpjmfaigaa
open Go.En

def seg (cs : List (List UInt8)) (t : Bool) (n : Nat) : List (List UInt8) := (cs.drop (frm t n)).take n
theorem area_seg {D : Dev} {fr n : Nat} (hd : D.down = false) (hw : D.waits = []) (h : fr + n ≤ D.cells.length) : area D fr n = (D.cells.drop fr).take n := by
  rw [← nowait_all hd hw, ← area_all hd]
  refine List.ext_getElem? fun k => ?_
  by_cases hk : k < n
  · rw [area_get D hk, List.getElem?_take_of_lt hk, List.getElem?_drop, area_get D (by omega), Nat.zero_add]
  · rw [List.getElem?_eq_none (by rw [area_len]; omega), List.getElem?_eq_none (by rw [List.length_take]; omega)]
theorem seg_len {cs : List (List UInt8)} {t : Bool} {n : Nat} (h : 2 * n ≤ cs.length) : (seg cs t n).length = n := by
  unfold seg frm
  rw [List.length_take, List.length_drop]
  cases t <;> simp <;> omega
theorem seg_mid {A M C : List (List UInt8)} {t : Bool} {n : Nat} (hA : A.length = frm t n) (hM : M.length = n) : seg (A ++ (M ++ C)) t n = M := by
  unfold seg
  rw [List.drop_left' hA, List.take_left' hM]
theorem seg_off {A M M' C : List (List UInt8)} {t : Bool} {n : Nat} (hA : A.length = frm t n) (hM : M.length = n) (hM' : M'.length = n) : seg (A ++ (M ++ C)) (!t) n = seg (A ++ (M' ++ C)) (!t) n := by
  cases t
  · have : A = [] := List.eq_nil_of_length_eq_zero hA
    subst this
    show (List.drop n (M ++ C)).take n = (List.drop n (M' ++ C)).take n
    rw [List.drop_left' hM, List.drop_left' hM']
  · have hA : A.length = n := hA
    show List.take n (A ++ (M ++ C)) = List.take n (A ++ (M' ++ C))
    rw [List.take_left' hA, List.take_left' hA]
theorem seg_cut {cs : List (List UInt8)} {t : Bool} {n : Nat} (h : 2 * n ≤ cs.length) : cs = cs.take (frm t n) ++ (seg cs t n ++ cs.drop (frm t n + n)) ∧ (cs.take (frm t n)).length = frm t n := by
  constructor
  · unfold seg
    rw [← List.drop_drop, List.take_append_drop, List.take_append_drop]
  · rw [List.length_take]
    unfold frm
    cases t <;> simp <;> omega
/-- an area has these groups, and behind them all is loose; the other one is as it was -/
def Sg (κ : Nat) (t : Bool) (n : Nat) (l : List Grp) (cs cs' : List (List UInt8)) : Prop := cs'.length = cs.length ∧ seg cs' (!t) n = seg cs (!t) n ∧ ∃ R, seg cs' t n = gsb l ++ R ∧ ∀ b ∈ R, Lo κ b
theorem seg_append {κ n : Nat} {t : Bool} {J : Jou} {D : Dev} {b : List UInt8} (hk : 1 ≤ κ) (hd : D.down = false) (hwt : D.waits = []) (hw : D.wf) (hsh : J.shut = false) (hs : ∃ R, seg D.cells t n = gsb J.l ++ R ∧ ∀ b ∈ R, Lo κ b) (hN : 2 * n ≤ D.cells.length) (hfit : J.used + blk b.length ≤ n) (hg : J.next < 256) (hm : n ≤ 4096) :
    (∃ D', J.append (frm t n) n D b = (⟨J.l ++ [⟨J.next, b⟩], J.next + 1, false⟩, D', 0) ∧ D'.down = false ∧ D'.waits = [] ∧ Sg κ t n (J.l ++ [⟨J.next, b⟩]) D.cells D'.cells) ∨
    (∃ D', J.append (frm t n) n D b = ({ J with shut := true }, D', 141) ∧ D'.down = true ∧ D'.waits = [] ∧ (Sg κ t n J.l D.cells D'.cells ∨ Sg κ t n (J.l ++ [⟨J.next, b⟩]) D.cells D'.cells)) := by
  obtain ⟨R, hR, hL⟩ := hs
  obtain ⟨hc, hA⟩ := seg_cut (t := t) hN
  have hsl := seg_len (t := t) hN
  have hju : J.used = usedOf J.l := rfl
  have hgl := gsb_len J.l
  have hRl : usedOf J.l + R.length = n := by rw [← hgl, ← List.length_append, ← hR, hsl]
  generalize D.cells.take (frm t n) = A at hc hA
  generalize D.cells.drop (frm t n + n) = C at hc
  rw [hR] at hc
  have hT : Tl κ (A ++ gsb J.l) C (n - J.used) D.cells := ⟨R, by rw [hc]; simp, by omega, hL⟩
  have ht : ∀ {cs}, Tl κ (A ++ gsb J.l) C (n - J.used) cs → Sg κ t n J.l D.cells cs := fun {cs} h => by
    obtain ⟨R', e, hl', hL'⟩ := h
    have e : cs = A ++ ((gsb J.l ++ R') ++ C) := by rw [e]; simp
    have hM : (gsb J.l ++ R).length = n := by rw [List.length_append, hgl]; omega
    have hM' : (gsb J.l ++ R').length = n := by rw [List.length_append, hgl]; omega
    refine ⟨by rw [e, hc]; simp only [List.length_append]; omega, ?_, R', by rw [e, seg_mid hA hM'], hL'⟩
    rw [e, hc]
    exact seg_off hA hM' hM
  have hkp : ∀ {cs}, Kp κ (A ++ gsb J.l) C ⟨J.next, b⟩ (n - J.used) cs → Sg κ t n (J.l ++ [⟨J.next, b⟩]) D.cells cs := fun {cs} h => by
    obtain ⟨R', e, hl', hL'⟩ := h
    have eg : gsb (J.l ++ [⟨J.next, b⟩]) = gsb J.l ++ gblocks ⟨J.next, b⟩ := by rw [gsb_app]; simp [gsb]
    have e : cs = A ++ ((gsb (J.l ++ [⟨J.next, b⟩]) ++ R') ++ C) := by rw [e, eg]; simp
    have hM : (gsb J.l ++ R).length = n := by rw [List.length_append, hgl]; omega
    have hM' : (gsb (J.l ++ [⟨J.next, b⟩]) ++ R').length = n := by rw [eg]; simp only [List.length_append] at hl' ⊢; omega
    refine ⟨by rw [e, hc]; simp only [List.length_append] at hM hM' ⊢; omega, ?_, R', by rw [e, seg_mid hA hM'], hL'⟩
    rw [e, hc]
    exact seg_off hA hM' hM
  rcases append_area (κ := κ) (A := A ++ gsb J.l) (C := C) (n := n - J.used) (m := n) (u := frm t n) (b := b) hk hd hwt hw hsh (by rw [List.length_append, hA, hgl, hju]) hT (by omega) (by omega) hg hm with ⟨D', h1, h2, h3, _, h5⟩ | ⟨D', h1, h2, h3, _, h5⟩
  · exact .inl ⟨D', h1, h2, h3, hkp h5⟩
  · exact .inr ⟨D', h1, h2, h3, h5.imp ht hkp⟩
def firstOf (l : List Grp) : Nat := match l with | [] => 0 | g :: _ => g.n
theorem rise_mem : ∀ (l : List Grp) (m : Nat), Rise m l → ∀ g ∈ l, m < g.n ∧ g.n ≤ lastOf l
  | [], _, _, g, h => nomatch h
  | x :: l, m, hr, g, h => by
    have e : lastOf (x :: l) = if l = [] then x.n else lastOf l := by
      cases l with
      | nil => rfl
      | cons y l => simp [lastOf]
    have ih := rise_mem l x.n hr.2
    have hxl : x.n ≤ lastOf (x :: l) := by
      rw [e]
      split
      · exact Nat.le_refl _
      · rename_i hne
        obtain ⟨y, l, rfl⟩ := List.exists_cons_of_ne_nil hne
        have := ih y List.mem_cons_self
        omega
    rcases List.mem_cons.1 h with rfl | h
    · exact ⟨hr.1, hxl⟩
    · have := ih g h
      have hne : l ≠ [] := fun e => by rw [e] at h; cases h
      rw [e, if_neg hne]
      exact ⟨Nat.lt_trans hr.1 this.1, this.2⟩
theorem first_mem {l : List Grp} (h : l ≠ []) (hr : Rise 0 l) : 1 ≤ firstOf l ∧ firstOf l ≤ lastOf l := by
  obtain ⟨x, l, rfl⟩ := List.exists_cons_of_ne_nil h
  exact rise_mem _ _ hr x List.mem_cons_self
theorem rise_app : ∀ (l : List Grp) (m : Nat) (g : Grp), Rise m l → (l = [] → m < g.n) → lastOf l < g.n → Rise m (l ++ [g])
  | [], m, g, _, h, _ => ⟨h rfl, trivial⟩
  | x :: l, m, g, hr, _, hl => by
    refine ⟨hr.1, rise_app l x.n g hr.2 (fun e => ?_) ?_⟩
    · subst e; exact hl
    · cases l with
      | nil => exact Nat.lt_of_le_of_lt (Nat.zero_le _) hl
      | cons y l => simpa [lastOf] using hl
theorem first_app {l : List Grp} (h : l ≠ []) (g : Grp) : firstOf (l ++ [g]) = firstOf l := by
  obtain ⟨x, l, rfl⟩ := List.exists_cons_of_ne_nil h
  rfl
theorem opn_num (L : List (List UInt8)) : ∀ (f at_ : Nat) (acc : List Grp), (∀ g ∈ acc, g.n ≤ great L) → ∀ g ∈ opn L f at_ acc, g.n ≤ great L
  | 0, _, acc, h => h
  | f + 1, at_, acc, h => by
    rw [opn]
    cases hs : stand (L.drop at_) [] 0 with
    | none => exact h
    | some g =>
      simp only
      split
      · exact h
      · refine opn_num L f _ _ fun x hx => ?_
        rcases List.mem_append.1 hx with hx | hx
        · exact h x hx
        · simp at hx
          subst hx
          obtain ⟨b, hb, hn, _⟩ := stand_num _ _ _ _ hs
          rw [← hn]
          exact great_ge (List.mem_of_mem_drop hb)
theorem opened_first (L : List (List UInt8)) : firstOf (opened L) ≤ great L := by
  have h : ∀ g ∈ opened L, g.n ≤ great L := opn_num L _ 0 [] (fun g hg => nomatch hg)
  cases e : opened L with
  | nil => exact Nat.zero_le _
  | cons g l => exact h g (by rw [e]; exact List.mem_cons_self)
theorem last_ne {l : List Grp} (h : l ≠ []) : ∃ g ∈ l, g.n = lastOf l := by
  refine ⟨l.getLast h, List.getLast_mem h, ?_⟩
  unfold lastOf
  rw [List.getLast?_eq_some_getLast h]
/-- what is on the device: the area v has the groups l, and nothing else stands -/
structure Dk (cs : List (List UInt8)) (N : Nat) (v : Bool) (l : List Grp) : Prop where
  len : cs.length = N
  sg : ∃ R, seg cs v (N / 2) = gsb l ++ R ∧ ∀ b ∈ R, Lo (lastOf l + 1) b
  ot : ∀ b ∈ seg cs (!v) (N / 2), Lo (max 1 (firstOf l)) b
  rs : Rise 0 l
  sz : ∀ g ∈ l, g.b.length ≤ 1000
  em : l = [] → v = false
/-- what a depot is then -/
structure PI (P : Dep) (N : Nat) (v : Bool) (l : List Grp) : Prop where
  sh : P.shut = false
  bk : P.bk = N / 2
  ar : P.area = if l = [] then 0 else if v then 2 else 1
  lv : P.j v = ⟨l, lastOf l + 1, false⟩
  os : (P.j !v).shut = false
  on : (P.j !v).next ≤ lastOf l + 1
section
variable {P : Dep} {D : Dev} {N : Nat} {v : Bool} {l : List Grp} {b : List UInt8} {cs : List (List UInt8)}
theorem PI.liv (h : PI P N v l) (he : l = [] → v = false) : P.liv = v := by
  unfold Dep.liv
  rw [h.ar]
  by_cases hl : l = []
  · rw [if_pos hl, he hl]; rfl
  · rw [if_neg hl]; cases v <;> rfl
theorem Dk.used (h : Dk cs N v l) : usedOf l ≤ N / 2 := by
  obtain ⟨R, e, _⟩ := h.sg
  have := congrArg List.length e
  rw [seg_len (by rw [h.len]; omega), List.length_append, gsb_len] at this
  omega
/-- all blocks of an area with groups are loose for what comes next -/
theorem gsb_lo {R : List (List UInt8)} (hr : Rise 0 l) (hl : lastOf l < 255) (hR : ∀ b ∈ R, Lo (lastOf l + 1) b) : ∀ b ∈ gsb l ++ R, Lo (lastOf l + 1) b := by
  intro b hb
  rcases List.mem_append.1 hb with hb | hb
  · simp only [gsb, List.mem_flatten, List.mem_map] at hb
    obtain ⟨_, ⟨g, hg, rfl⟩, hb⟩ := hb
    have hm := rise_mem l 0 hr g hg
    rcases List.mem_append.1 hb with hb | hb
    · exact lo_loose (loose_dblocks _ _ (Nat.le_refl _) b hb) (by omega)
    · simp at hb; subst hb
      exact lo_ended _ (by omega) (by omega)
  · exact hR b hb
theorem depot_open (hD : Dk D.cells N v l) (hd : D.down = false) (hwt : D.waits = []) (hN : 4 ≤ N) (hk : lastOf l < 255) : PI (openP D) N v l := by
  have hmx : maxN = 4611686018427387904 := rfl
  have hlen := hD.len
  have h2 : 2 * (N / 2) ≤ D.cells.length := by omega
  have hfr : ∀ t, frm t (N / 2) + N / 2 ≤ D.cells.length := fun t => by cases t <;> simp only [frm] <;> simp <;> omega
  have har : ∀ t, area D (frm t (N / 2)) (N / 2) = seg D.cells t (N / 2) := fun t => area_seg hd hwt (hfr t)
  obtain ⟨R, hR, hL⟩ := hD.sg
  have hg : ∀ g ∈ l, (1 ≤ g.n ∧ g.n ≤ maxN) ∧ g.b.length < 4294967296 := fun g hg => by
    have := rise_mem l 0 hD.rs g hg
    have := hD.sz g hg
    exact ⟨⟨by omega, by omega⟩, by omega⟩
  have hv : openJ D (frm v (N / 2)) (N / 2) = ⟨l, lastOf l + 1, false⟩ := by
    have ho : opened (gsb l ++ R) = l := opened_parse hg hD.rs fun g hgs => by
      obtain ⟨b, hb, hn, _⟩ := stand_num _ _ _ _ hgs
      have := numd_lo (hL b hb)
      omega
    have hgr : great (gsb l ++ R) = lastOf l := by
      apply Nat.le_antisymm
      · refine great_mem fun b hb => ?_
        have := numd_lo (gsb_lo hD.rs hk hL b hb)
        omega
      · by_cases hl : l = []
        · rw [hl]; exact Nat.zero_le _
        · obtain ⟨g, hgm, hgn⟩ := last_ne hl
          have hmem : endedB g.n g.b ∈ gsb l ++ R := by
            refine List.mem_append_left _ ?_
            simp only [gsb, List.mem_flatten, List.mem_map]
            exact ⟨_, ⟨g, hgm, rfl⟩, List.mem_append_right _ (List.mem_singleton.2 rfl)⟩
          have := great_ge hmem
          rw [numd_ended _ (hg g hgm).1.1 (hg g hgm).1.2] at this
          omega
    unfold openJ
    rw [har, hR, ho, hgr]
  have hgo : great (seg D.cells (!v) (N / 2)) < max 1 (firstOf l) := great_lo (by omega) hD.ot
  have hon : (openJ D (frm (!v) (N / 2)) (N / 2)).next ≤ lastOf l + 1 := by
    unfold openJ
    rw [har]
    show great _ + 1 ≤ _
    by_cases hl : l = []
    · rw [hl] at hgo ⊢
      have : firstOf ([] : List Grp) = 0 := rfl
      omega
    · have := first_mem hl hD.rs; omega
  have hof : (openJ D (frm (!v) (N / 2)) (N / 2)).first < max 1 (firstOf l) := by
    have e : (openJ D (frm (!v) (N / 2)) (N / 2)).first = firstOf (opened (seg D.cells (!v) (N / 2))) := by
      unfold openJ
      rw [har]
      rfl
    rw [e]
    exact Nat.lt_of_le_of_lt (opened_first _) hgo
  have hvf : (openJ D (frm v (N / 2)) (N / 2)).first = firstOf l := by rw [hv]; rfl
  refine ⟨rfl, by show D.cells.length / 2 = _; rw [hlen], ?_, by show openJ D (frm v (D.cells.length / 2)) (D.cells.length / 2) = _; rw [hlen]; exact hv, rfl, by show (openJ D (frm (!v) (D.cells.length / 2)) (D.cells.length / 2)).next ≤ _; rw [hlen]; exact hon⟩
  show (if (openJ D 0 (D.cells.length / 2)).first < (openJ D (D.cells.length / 2) (D.cells.length / 2)).first then 2 else if 0 < (openJ D 0 (D.cells.length / 2)).first then 1 else 0) = _
  rw [hlen]
  cases v with
  | false =>
    have hof : (openJ D (N / 2) (N / 2)).first < max 1 (firstOf l) := hof
    have hvf : (openJ D 0 (N / 2)).first = firstOf l := hvf
    by_cases hl : l = []
    · rw [if_pos hl]
      rw [hl] at hof hvf
      have : firstOf ([] : List Grp) = 0 := rfl
      rw [if_neg (by omega), if_neg (by omega)]
    · have := first_mem hl hD.rs
      rw [if_neg hl, if_neg (by omega), if_pos (by omega)]
      rfl
  | true =>
    have hof : (openJ D 0 (N / 2)).first < max 1 (firstOf l) := hof
    have hvf : (openJ D (N / 2) (N / 2)).first = firstOf l := hvf
    have hl : l ≠ [] := fun e => by have := hD.em e; cases this
    have := first_mem hl hD.rs
    rw [if_neg hl, if_pos (by omega)]
    rfl
theorem PI.top (h : PI P N v l) : P.top = lastOf l + 1 := by
  have h1 : (P.j v).next = lastOf l + 1 := by rw [h.lv]
  have h2 := h.on
  unfold Dep.top
  cases v
  · have h1 : (P.j false).next = lastOf l + 1 := h1
    have h2 : (P.j true).next ≤ lastOf l + 1 := h2
    omega
  · have h1 : (P.j true).next = lastOf l + 1 := h1
    have h2 : (P.j false).next ≤ lastOf l + 1 := h2
    omega
theorem app_ne (l : List Grp) (g : Grp) : l ++ [g] ≠ [] := by simp
/-- an entry is appended, or it is not, or a crash comes -/
theorem depot_append (hP : PI P N v l) (hD : Dk D.cells N v l) (hd : D.down = false) (hwt : D.waits = []) (hw : D.wf) (hb : b.length ≤ 1000) (hN : 4 ≤ N ∧ N ≤ 4096) (hk : lastOf l < 255) :
    (l = [] ∧ P.append D b = (P, D, 161)) ∨
    (l ≠ [] ∧ N / 2 < usedOf l + blk b.length ∧ ∃ P', P.append D b = (P', D, 150) ∧ PI P' N v l) ∨
    (l ≠ [] ∧ usedOf l + blk b.length ≤ N / 2 ∧ ∃ P' D', P.append D b = (P', D', 0) ∧ D'.down = false ∧ D'.waits = [] ∧ PI P' N v (l ++ [⟨lastOf l + 1, b⟩]) ∧ Dk D'.cells N v (l ++ [⟨lastOf l + 1, b⟩])) ∨
    (l ≠ [] ∧ usedOf l + blk b.length ≤ N / 2 ∧ ∃ P' D', P.append D b = (P', D', 141) ∧ D'.down = true ∧ D'.waits = [] ∧ (Dk D'.cells N v l ∨ Dk D'.cells N v (l ++ [⟨lastOf l + 1, b⟩]))) := by
  have hliv := hP.liv hD.em
  have hlen := hD.len
  by_cases hl : l = []
  · refine .inl ⟨hl, ?_⟩
    unfold Dep.append
    rw [if_neg (by rw [hP.sh]; simp), if_pos (by rw [hP.ar, if_pos hl])]
  have ha : P.area ≠ 0 := by rw [hP.ar, if_neg hl]; split <;> decide
  have e0 : ∀ r, (⟨l, lastOf l + 1, false⟩ : Jou).append (frm v (N / 2)) (N / 2) D b = r → P.append D b = ({ P.put v r.1 with shut := decide (r.2.2 = 141) }, r.2.1, r.2.2) := fun r hr => by
    unfold Dep.append
    rw [if_neg (by rw [hP.sh]; simp), if_neg ha, hliv, hP.bk, hP.lv, hr]
  have pio : ∀ (l' : List Grp), l' ≠ [] → lastOf l ≤ lastOf l' → PI { P.put v ⟨l', lastOf l' + 1, false⟩ with shut := false } N v l' := fun l' hl' hle => by
    refine ⟨rfl, hP.bk, ?_, Dep.put_same _ _ _, ?_, ?_⟩
    · show P.area = _
      rw [hP.ar, if_neg hl, if_neg hl']
    · show ((P.put v _).j !v).shut = false
      rw [Dep.put_other]
      exact hP.os
    · show ((P.put v _).j !v).next ≤ _
      rw [Dep.put_other]
      have := hP.on
      omega
  have hu := hD.used
  have hju : (⟨l, lastOf l + 1, false⟩ : Jou).used = usedOf l := rfl
  by_cases hfit : usedOf l + blk b.length ≤ N / 2
  · have hlast : lastOf (l ++ [⟨lastOf l + 1, b⟩]) = lastOf l + 1 := lastOf_app _ _
    have hdk : ∀ {cs}, Sg (lastOf l + 1) v (N / 2) (l ++ [⟨lastOf l + 1, b⟩]) D.cells cs → Dk cs N v (l ++ [⟨lastOf l + 1, b⟩]) := fun {cs} h => by
      obtain ⟨h1, h2, R, h3, h4⟩ := h
      refine ⟨h1.trans hlen, ⟨R, h3, fun x hx => (h4 x hx).mono (by rw [hlast]; omega)⟩, ?_, rise_app l 0 _ hD.rs (fun e => absurd e hl) (Nat.lt_succ_self _), ?_, fun e => absurd e (app_ne _ _)⟩
      · rw [h2, first_app hl]
        exact hD.ot
      · intro g hg
        rcases List.mem_append.1 hg with hg | hg
        · exact hD.sz g hg
        · simp at hg; subst hg; exact hb
    have hdl : ∀ {cs}, Sg (lastOf l + 1) v (N / 2) l D.cells cs → Dk cs N v l := fun {cs} h => by
      obtain ⟨h1, h2, R, h3, h4⟩ := h
      exact ⟨h1.trans hlen, ⟨R, h3, h4⟩, by rw [h2]; exact hD.ot, hD.rs, hD.sz, hD.em⟩
    rcases seg_append (J := ⟨l, lastOf l + 1, false⟩) (b := b) (by omega) hd hwt hw rfl hD.sg (by omega) hfit (by show lastOf l + 1 < 256; omega) (by omega) with ⟨D', h1, h2, h3, h4⟩ | ⟨D', h1, h2, h3, h4⟩
    · refine .inr (.inr (.inl ⟨hl, hfit, _, D', e0 _ h1, h2, h3, ?_, hdk h4⟩))
      have := pio (l ++ [⟨lastOf l + 1, b⟩]) (app_ne _ _) (by rw [hlast]; omega)
      rw [hlast] at this
      exact this
    · exact .inr (.inr (.inr ⟨hl, hfit, _, D', e0 _ h1, h2, h3, h4.imp hdl hdk⟩))
  · refine .inr (.inl ⟨hl, by omega, _, e0 _ (append_full rfl (by rw [hju]; omega)), ?_⟩)
    exact pio l hl (Nat.le_refl _)
/-- where the next snapshot goes -/
def goal (v : Bool) (l : List Grp) : Bool := if l = [] then false else !v
theorem PI.tgt (h : PI P N v l) : P.tgt = goal v l := by
  unfold Dep.tgt goal
  rw [h.ar]
  by_cases hl : l = []
  · rw [if_pos hl, if_pos hl]; rfl
  · rw [if_neg hl, if_neg hl]; cases v <;> rfl
/-- a snapshot is written, or it is not, or a crash comes -/
theorem depot_compact (hP : PI P N v l) (hD : Dk D.cells N v l) (hd : D.down = false) (hwt : D.waits = []) (hw : D.wf) (hb : b.length ≤ 1000) (hN : 4 ≤ N ∧ N ≤ 4096) (hk : lastOf l < 255) :
    (N / 2 < blk b.length ∧ P.compact D b = (P, D, 150)) ∨
    (blk b.length ≤ N / 2 ∧ ∃ P' D', P.compact D b = (P', D', 0) ∧ D'.down = false ∧ D'.waits = [] ∧ PI P' N (goal v l) [⟨lastOf l + 1, b⟩] ∧ Dk D'.cells N (goal v l) [⟨lastOf l + 1, b⟩]) ∨
    (blk b.length ≤ N / 2 ∧ ∃ P' D', P.compact D b = (P', D', 141) ∧ D'.down = true ∧ D'.waits = [] ∧ (Dk D'.cells N v l ∨ Dk D'.cells N (goal v l) [⟨lastOf l + 1, b⟩])) := by
  have hmx : maxN = 4611686018427387904 := rfl
  have hlen := hD.len
  have htgt := hP.tgt
  have hblk : blk b.length ≤ 10 := by unfold blk; omega
  have hnd : needs [b.length] = blk b.length := by simp [needs]; omega
  have htop := hP.top
  by_cases hfit : blk b.length ≤ N / 2
  · have hsz : ∀ g ∈ [(⟨lastOf l + 1, b⟩ : Grp)], g.b.length ≤ 1000 := fun g hg => by simp at hg; subst hg; exact hb
    have e0 : ∀ r, ((P.j (goal v l)).begin (lastOf l + 1)).append (frm (goal v l) (N / 2)) (N / 2) D b = r → P.compact D b = if r.2.2 ≠ 0 then ({ P.put (goal v l) r.1 with shut := decide (r.2.2 = 141) }, r.2.1, r.2.2) else ({ P.put (goal v l) r.1 with area := if goal v l then 2 else 1 }, r.2.1, 0) := fun r hr => by
      unfold Dep.compact
      rw [if_neg (by rw [hP.sh]; simp), if_neg (by rw [hnd, hP.bk]; omega), htop, if_neg (by omega), htgt, hP.bk, hr]
    have hsh : ((P.j (goal v l)).begin (lastOf l + 1)).shut = false := by
      show (P.j (goal v l)).shut = false
      unfold goal
      split
      · rename_i hl
        have hv := hD.em hl
        subst hv
        rw [hP.lv]
      · exact hP.os
    have hjl : ((P.j (goal v l)).begin (lastOf l + 1)).l = [] := rfl
    -- the area that it goes to
    have hκ : ∃ κ, 1 ≤ κ ∧ κ ≤ lastOf l + 1 ∧ (κ = if l = [] then 1 else max 1 (firstOf l)) ∧ ∀ x ∈ seg D.cells (goal v l) (N / 2), Lo κ x := by
      refine ⟨_, ?_, ?_, rfl, ?_⟩
      · split <;> omega
      · split
        · omega
        · rename_i hl; have := first_mem hl hD.rs; omega
      · unfold goal
        by_cases hl : l = []
        · rw [if_pos hl, if_pos hl, ← hD.em hl]
          obtain ⟨R, h1, h2⟩ := hD.sg
          rw [hl] at h1 h2
          intro x hx
          rw [h1] at hx
          exact h2 x hx
        · rw [if_neg hl, if_neg hl]
          exact hD.ot
    obtain ⟨κ, hk1, hk2, hk3, hκ⟩ := hκ
    -- the other one is loose for what comes
    have hoth : ∀ x ∈ seg D.cells (!goal v l) (N / 2), Lo (lastOf l + 1) x := by
      unfold goal
      by_cases hl : l = []
      · rw [if_pos hl]
        have := hD.ot
        rw [hD.em hl] at this
        intro x hx
        exact (this x hx).mono (by rw [hl]; decide)
      · rw [if_neg hl, Bool.not_not]
        obtain ⟨R, h1, h2⟩ := hD.sg
        rw [h1]
        exact gsb_lo hD.rs hk h2
    have hdk : ∀ {cs}, Sg κ (goal v l) (N / 2) [⟨lastOf l + 1, b⟩] D.cells cs → Dk cs N (goal v l) [⟨lastOf l + 1, b⟩] := fun {cs} h => by
      obtain ⟨h1, h2, R, h3, h4⟩ := h
      refine ⟨h1.trans hlen, ⟨R, h3, fun x hx => (h4 x hx).mono (by show κ ≤ lastOf l + 1 + 1; omega)⟩, ?_, ⟨by show 0 < lastOf l + 1; omega, trivial⟩, hsz, fun e => nomatch e⟩
      rw [h2]
      intro x hx
      exact (hoth x hx).mono (by show lastOf l + 1 ≤ max 1 (lastOf l + 1); omega)
    have hdl : ∀ {cs}, Sg κ (goal v l) (N / 2) [] D.cells cs → Dk cs N v l := fun {cs} h => by
      obtain ⟨h1, h2, R, h3, h4⟩ := h
      have h3 : seg cs (goal v l) (N / 2) = R := h3
      by_cases hl : l = []
      · have hg : goal v l = v := by unfold goal; rw [if_pos hl, hD.em hl]
        rw [hg] at h2 h3
        refine ⟨h1.trans hlen, ⟨R, by rw [h3, hl]; rfl, ?_⟩, by rw [h2]; exact hD.ot, hD.rs, hD.sz, hD.em⟩
        intro x hx
        exact (h4 x hx).mono hk2
      · have hg : goal v l = !v := by unfold goal; rw [if_neg hl]
        rw [hg] at h2 h3
        rw [Bool.not_not] at h2
        refine ⟨h1.trans hlen, by rw [h2]; exact hD.sg, ?_, hD.rs, hD.sz, hD.em⟩
        rw [h3]
        rw [if_neg hl] at hk3
        rw [← hk3]
        exact h4
    rcases seg_append (κ := κ) (t := goal v l) (n := N / 2) (J := (P.j (goal v l)).begin (lastOf l + 1)) (b := b) hk1 hd hwt hw hsh ⟨_, by rw [hjl]; rfl, hκ⟩ (by omega) (by show 0 + _ ≤ _; omega) (by show lastOf l + 1 < 256; omega) (by omega) with ⟨D', h1, h2, h3, h4⟩ | ⟨D', h1, h2, h3, h4⟩
    · have e1 := e0 _ h1
      rw [if_neg (by simp)] at e1
      refine .inr (.inl ⟨hfit, _, D', e1, h2, h3, ?_, hdk h4⟩)
      refine ⟨hP.sh, hP.bk, by rw [if_neg (show ¬ [(⟨lastOf l + 1, b⟩ : Grp)] = [] by simp)], Dep.put_same _ _ _, ?_, ?_⟩
      · show ((P.put (goal v l) _).j !(goal v l)).shut = false
        rw [Dep.put_other]
        unfold goal
        split
        · rename_i hl; have := hP.os; rw [hD.em hl] at this; exact this
        · rw [Bool.not_not, hP.lv]
      · show ((P.put (goal v l) _).j !(goal v l)).next ≤ lastOf l + 1 + 1
        rw [Dep.put_other]
        unfold goal
        split
        · rename_i hl; have := hP.on; rw [hD.em hl] at this; omega
        · rw [Bool.not_not, hP.lv]; show lastOf l + 1 ≤ _; omega
    · have e1 := e0 _ h1
      rw [if_pos (by simp)] at e1
      exact .inr (.inr ⟨hfit, _, D', e1, h2, h3, h4.imp hdl hdk⟩)
  · refine .inl ⟨by omega, ?_⟩
    unfold Dep.compact
    rw [if_neg (by rw [hP.sh]; simp), if_pos (by rw [hnd, hP.bk]; omega)]
end
end Go.Proofs.Ytegjocpjmfaigaa
