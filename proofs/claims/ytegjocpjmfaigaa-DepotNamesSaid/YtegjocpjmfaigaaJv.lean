/- The journal behind a crash: a group is there, or it is not. -/
import Derived.Test.YtegjocpjmfaigaaJt
set_option linter.unusedSimpArgs false
set_option linter.unusedVariables false
namespace Go.Proofs.Ytegjocpjmfaigaa
open Go.En

theorem putB_mid {X R : List (List UInt8)} {o e : List UInt8} {p m : Nat} (hp : X.length = p) : putB (X ++ o :: R) ((p : Int), e) m = X ++ (e.take m ++ o.drop m) :: R := by
  subst hp
  unfold putB
  simp only [Int.toNat_natCast]
  rw [List.set_append_right _ _ (Nat.le_refl _), Nat.sub_self, List.set_cons_zero, List.getD_eq_getElem?_getD, List.getElem?_append_right (Nat.le_refl _), Nat.sub_self]
  rfl
/-- behind these blocks a group stands, and nothing more -/
def Kept (A : List (List UInt8)) (g : Grp) (n : Nat) (cs : List (List UInt8)) : Prop := ∃ R, cs = A ++ gblocks g ++ R ∧ (A ++ gblocks g ++ R).length = A.length + n ∧ ∀ b ∈ R, Loose b
theorem commit_crash {A R : List (List UInt8)} {o : List UInt8} {g : Grp} {p : Nat} (hp : (A ++ dblocks g.b).length = p) (hn : g.n < 256) (hA : ∀ b ∈ dblocks g.b ++ o :: R, Loose b) (f : Fal) :
    Tail A ((dblocks g.b).length + 1 + R.length) (crashC f 0 [((p : Int), endedB g.n g.b)] (A ++ dblocks g.b ++ o :: R)) ∨ Kept A g ((dblocks g.b).length + 1 + R.length) (crashC f 0 [((p : Int), endedB g.n g.b)] (A ++ dblocks g.b ++ o :: R)) := by
  have hm := mny_le f 0
  rw [crashC]
  split
  · refine .inl ⟨dblocks g.b ++ o :: R, by rw [List.append_assoc], by simp; omega, hA⟩
  · rw [putB_mid hp]
    have ho : Loose o := hA o (List.mem_append_right _ List.mem_cons_self)
    rcases ended_mix hn g.b ho (m := (mny f 0).toNat) (by omega) with h | h
    · refine .inl ⟨dblocks g.b ++ ((endedB g.n g.b).take (mny f 0).toNat ++ o.drop (mny f 0).toNat) :: R, ?_, by simp; omega, fun b hb => ?_⟩
      · show A ++ dblocks g.b ++ _ :: R = _
        rw [List.append_assoc]
      · rcases List.mem_append.1 hb with hb | hb
        · exact hA b (List.mem_append_left _ hb)
        · rcases List.mem_cons.1 hb with rfl | hb
          · exact h
          · exact hA b (List.mem_append_right _ (List.mem_cons_of_mem _ hb))
    · refine .inr ⟨R, ?_, by simp [gblocks]; omega, fun b hb => hA b (List.mem_append_right _ (List.mem_cons_of_mem _ hb))⟩
      show A ++ dblocks g.b ++ _ :: R = _
      rw [h, gblocks]
      simp
theorem jwrite_safe {A : List (List UInt8)} {n : Nat} {D : Dev} {g : Grp} (hd : D.down = false) (hwt : D.waits = []) (hw : D.wf) (hT : Tail A n D.cells) (hfit : g.many ≤ n) (hg : g.n < 256) (hm : g.many < 1152921504) :
    (∃ D', jwrite D A.length g = (D', 0) ∧ D'.down = false ∧ D'.waits = [] ∧ D'.wf ∧ Kept A g n D'.cells) ∨
    (∃ D', jwrite D A.length g = (D', 141) ∧ D'.down = true ∧ D'.waits = [] ∧ D'.wf ∧ (Tail A n D'.cells ∨ Kept A g n D'.cells)) := by
  have hdl : (dblocks g.b).length + 1 = g.many := dblocks_len g.b.length g.b (Nat.le_refl _)
  have hD : DataI A n D := ⟨hd, hT, fun x hx => by rw [hwt] at hx; cases hx⟩
  rcases jdata_safe g.b.length g.b D A.length (Nat.le_refl _) hD hw (Nat.le_refl _) (by omega) (by rw [hwt]; simp; omega) with ⟨D1, h1, h2, h3, h4⟩ | ⟨D1, k, h1, h2, h3⟩
  · have hs5 := sync_wf h3
    rcases sync_cases h2.1 with ⟨s, q, es⟩ | ⟨s, es⟩
    · -- synced
      have hs1 : D1.sync.1.cells = D1.all := by rw [es]; exact putAll_all h3 h2.1
      have hs2 : D1.sync.1.waits = [] := by rw [es]; rfl
      have hs3 : D1.sync.1.down = false := by rw [es]; exact h2.1
      have hs4 : D1.sync.2 = 0 := by rw [es]
      obtain ⟨R, hcR, hRl, hRL⟩ := hT
      have hall : D1.all = A ++ (dblocks g.b ++ R.drop (dblocks g.b).length) := by
        rw [h4, nowait_all hd hwt, hcR, putL_at rfl]
      have hne : (dblocks g.b).length < R.length := by omega
      have hdr : R.drop (dblocks g.b).length = R[(dblocks g.b).length] :: R.drop ((dblocks g.b).length + 1) := List.drop_eq_getElem_cons hne
      have hLo : Loose R[(dblocks g.b).length] := hRL _ (List.getElem_mem _)
      have hLd : ∀ (m : Nat) (r : List UInt8), r.length ≤ m → ∀ b ∈ dblocks r, Loose b := by
        intro m
        induction m with
        | zero =>
          intro r hr b hb
          have : r = [] := List.eq_nil_of_length_eq_zero (by omega)
          subst this
          rw [dblocks_nil] at hb
          cases hb
        | succ m ih =>
          intro r hr b hb
          by_cases h : r = []
          · subst h; rw [dblocks_nil] at hb; cases hb
          · have hp : 0 < r.length := List.length_pos_iff.2 h
            rw [dblocks_cons h] at hb
            rcases List.mem_cons.1 hb with rfl | hb
            · exact loose_data r
            · exact ih (r.drop 119) (by rw [List.length_drop]; omega) b hb
      rw [hdr] at hall
      have hL3 : ∀ b ∈ R.drop ((dblocks g.b).length + 1), Loose b := fun b hb => hRL b (List.mem_of_mem_drop hb)
      have hl3 : (R.drop ((dblocks g.b).length + 1)).length = n - g.many := by rw [List.length_drop]; omega
      generalize R[(dblocks g.b).length] = o at hall hLo
      generalize R.drop ((dblocks g.b).length + 1) = R3 at hall hL3 hl3
      have hAll : ∀ b ∈ dblocks g.b ++ o :: R3, Loose b := fun b hb => by
        rcases List.mem_append.1 hb with hb | hb
        · exact hLd _ _ (Nat.le_refl _) b hb
        · rcases List.mem_cons.1 hb with rfl | hb
          · exact hLo
          · exact hL3 b hb
      have hn3 : (dblocks g.b).length + 1 + R3.length = n := by omega
      have hcc : D1.sync.1.cells = A ++ dblocks g.b ++ o :: R3 := by rw [hs1, hall, List.append_assoc]
      have hpl : (A ++ dblocks g.b).length = A.length + (dblocks g.b).length := List.length_append
      have hlc : D1.sync.1.cells.length = A.length + n := by rw [hcc]; simp; omega
      have hel := endedB_len g.n g.b
      have hin : (0 ≤ ((A.length + (dblocks g.b).length : Nat) : Int) ∧ ((A.length + (dblocks g.b).length : Nat) : Int) < D1.sync.1.cells.length) ∧ (endedB g.n g.b).length ≤ 128 := ⟨by rw [hlc]; omega, by rw [hel]; exact Nat.le_refl _⟩
      have hpad : pad (endedB g.n g.b) = endedB g.n g.b := by rw [pad, hel]; simp
      have hww := write_wf hs5 (by rw [hs2]; decide) ((A.length + (dblocks g.b).length : Nat) : Int) (endedB g.n g.b)
      have ecm : ∀ f, Tail A n (crashC f 0 [(((A.length + (dblocks g.b).length : Nat) : Int), endedB g.n g.b)] D1.sync.1.cells) ∨ Kept A g n (crashC f 0 [(((A.length + (dblocks g.b).length : Nat) : Int), endedB g.n g.b)] D1.sync.1.cells) := fun f => by
        have := commit_crash (p := A.length + (dblocks g.b).length) hpl hg hAll f
        rw [hn3] at this
        rw [hcc]
        exact this
      have hwr1 : (D1.sync.1.wr1 ((A.length + (dblocks g.b).length : Nat) : Int) (endedB g.n g.b)).waits = [(((A.length + (dblocks g.b).length : Nat) : Int), endedB g.n g.b)] := by
        show D1.sync.1.waits ++ [(_, pad _)] = _
        rw [hs2, hpad]
        rfl
      have e0 : ∀ c : Dev × Int, c = D1.sync.1.write ((A.length + (dblocks g.b).length : Nat) : Int) (endedB g.n g.b) → jwrite D A.length g = if c.2 ≠ 0 then c else c.1.sync := fun c hc => by
        unfold jwrite
        rw [h1]
        simp only
        rw [if_neg (by simp), if_neg (by rw [hs4]; simp), ← hc]
      rcases write_cases hs3 hin with ⟨s2, q2, ew⟩ | ⟨s2, ew⟩
      · -- the commit block waits
        have e1 := e0 _ ew.symm
        rw [if_neg (by simp)] at e1
        simp only at e1
        rw [ew] at hww
        simp only at hww
        generalize hD3 : ({ D1.sync.1.wr1 ((A.length + (dblocks g.b).length : Nat) : Int) (endedB g.n g.b) with since := s2, many := q2 } : Dev) = D3 at e1 hww
        have hd3 : D3.down = false := by rw [← hD3]; exact hs3
        have hw3 : D3.waits = [(((A.length + (dblocks g.b).length : Nat) : Int), endedB g.n g.b)] := by rw [← hD3]; exact hwr1
        have hc3 : D3.cells = D1.sync.1.cells := by rw [← hD3]; rfl
        have hsw := sync_wf hww
        rcases sync_cases hd3 with ⟨s3, q3, et⟩ | ⟨s3, et⟩
        · refine .inl ⟨_, e1.trans et, hd3, rfl, by rw [et] at hsw; exact hsw, ?_⟩
          show Kept A g n (putAll D3.cells D3.waits)
          rw [hw3, hc3, hcc]
          show Kept A g n (putB _ _ 128)
          rw [putB_mid hpl, List.take_of_length_le (by omega), List.drop_of_length_le (by rw [hLo.1]; exact Nat.le_refl _), List.append_nil]
          exact ⟨R3, by simp [gblocks], by simp [gblocks]; omega, hL3⟩
        · refine .inr ⟨_, e1.trans et, rfl, rfl, by rw [et] at hsw; exact hsw, ?_⟩
          show Tail A n (crashC _ 0 D3.waits D3.cells) ∨ Kept A g n (crashC _ 0 D3.waits D3.cells)
          rw [hw3, hc3]
          exact ecm _
      · have e1 := e0 _ ew.symm
        rw [if_pos (by simp)] at e1
        rw [ew] at hww
        refine .inr ⟨_, e1, rfl, rfl, hww, ?_⟩
        show Tail A n (crashC _ 0 (D1.sync.1.wr1 _ _).waits D1.sync.1.cells) ∨ Kept A g n (crashC _ 0 (D1.sync.1.wr1 _ _).waits D1.sync.1.cells)
        rw [hwr1]
        exact ecm _
    · have hl := lost_of (D := { D1 with since := s }) h2 D1.fall
      refine .inr ⟨D1.sync.1, ?_, by rw [es]; exact hl.1, by rw [es]; exact hl.2.1, hs5, .inl (by rw [es]; exact hl.2.2)⟩
      unfold jwrite
      rw [h1]
      simp only
      rw [if_neg (by simp), if_pos (by rw [es]; simp), es]
  · refine .inr ⟨D1, ?_, h2.1, h2.2.1, h3, .inl h2.2.2⟩
    unfold jwrite
    rw [h1]
    simp
/-- a group is appended, or it is not, or a crash comes: then it is there, or it is not -/
theorem append_safe {H : List (List UInt8)} {D : Dev} {N : Nat} {b : List UInt8} (hd : D.down = false) (hwt : D.waits = []) (hw : D.wf) (hC : SafeC H D.cells) (hl : D.cells.length = N) (hN : N ≤ 4096) (hH : H.length < 200) (hu : usedOf (grps 1 H) ≤ N) :
    ((⟨grps 1 H, H.length + 1, false⟩ : Jou).append 0 N D b = (⟨grps 1 H, H.length + 1, false⟩, D, 150)) ∨
    (∃ D', (⟨grps 1 H, H.length + 1, false⟩ : Jou).append 0 N D b = (⟨grps 1 (H ++ [b]), (H ++ [b]).length + 1, false⟩, D', 0) ∧ D'.down = false ∧ D'.waits = [] ∧ D'.cells.length = N ∧ SafeC (H ++ [b]) D'.cells) ∨
    (∃ D' J', (⟨grps 1 H, H.length + 1, false⟩ : Jou).append 0 N D b = (J', D', 141) ∧ D'.down = true ∧ D'.waits = [] ∧ D'.cells.length = N ∧ (SafeC H D'.cells ∨ SafeC (H ++ [b]) D'.cells)) := by
  obtain ⟨rest, hc, hL⟩ := hC
  have hju : (⟨grps 1 H, H.length + 1, false⟩ : Jou).used = usedOf (grps 1 H) := rfl
  have hmx : maxN = 4611686018427387904 := rfl
  by_cases hfit : blk b.length ≤ N - usedOf (grps 1 H)
  · have hgl := gsb_len (grps 1 H)
    have hrl : usedOf (grps 1 H) + rest.length = N := by rw [← hl, hc, List.length_append, hgl]
    have hT : Tail (gsb (grps 1 H)) (N - usedOf (grps 1 H)) D.cells := ⟨rest, hc, by omega, hL⟩
    have hmany : (⟨H.length + 1, b⟩ : Grp).many = blk b.length := rfl
    have e0 : ∀ r : Dev × Int, jwrite D (0 + usedOf (grps 1 H)) ⟨H.length + 1, b⟩ = r → (⟨grps 1 H, H.length + 1, false⟩ : Jou).append 0 N D b = if r.2 ≠ 0 then ({ (⟨grps 1 H, H.length + 1, false⟩ : Jou) with shut := true }, r.1, r.2) else (⟨grps 1 H ++ [⟨H.length + 1, b⟩], H.length + 1 + 1, false⟩, r.1, 0) := fun r hr => by
      unfold Jou.append
      rw [hju, if_neg (by simp), if_neg (by simp only; omega), hr]
    have hk : ∀ {cs}, Kept (gsb (grps 1 H)) ⟨H.length + 1, b⟩ (N - usedOf (grps 1 H)) cs → SafeC (H ++ [b]) cs ∧ cs.length = N := fun {cs} h => by
      obtain ⟨R, e, hlen, hR⟩ := h
      refine ⟨⟨R, ?_, hR⟩, by rw [e, hlen, hgl]; omega⟩
      rw [e, grps_app, gsb_app, Nat.add_comm]
      simp [gsb]
    have ht : ∀ {cs}, Tail (gsb (grps 1 H)) (N - usedOf (grps 1 H)) cs → SafeC H cs ∧ cs.length = N := fun {cs} h => ⟨by obtain ⟨R, e, _, hR⟩ := h; exact ⟨R, e, hR⟩, by rw [h.len, hgl]; omega⟩
    have hj := jwrite_safe (g := ⟨H.length + 1, b⟩) hd hwt hw hT (by rw [hmany]; exact hfit) (by show H.length + 1 < 256; omega) (by rw [hmany]; omega)
    rw [hgl] at hj
    rcases hj with ⟨D', h1, h2, h3, h4, h5⟩ | ⟨D', h1, h2, h3, h4, h5⟩
    · have e1 := e0 (D', 0) (by rw [Nat.zero_add]; exact h1)
      rw [if_neg (by simp)] at e1
      refine .inr (.inl ⟨D', ?_, h2, h3, (hk h5).2, (hk h5).1⟩)
      rw [e1, grps_app, Nat.add_comm 1, List.length_append]
      rfl
    · have e1 := e0 (D', 141) (by rw [Nat.zero_add]; exact h1)
      rw [if_pos (by simp)] at e1
      refine .inr (.inr ⟨D', _, e1, h2, h3, ?_, ?_⟩)
      · rcases h5 with h | h
        · exact (ht h).2
        · exact (hk h).2
      · rcases h5 with h | h
        · exact .inl (ht h).1
        · exact .inr (hk h).1
  · exact .inl (append_full rfl hfit)
end Go.Proofs.Ytegjocpjmfaigaa
