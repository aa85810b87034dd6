/- An area behind a crash: the plain law. -/
import Derived.Test.YtegjocpjmfaigaaNd
import Derived.Test.YtegjocpjmfaigaaJv
set_option linter.unusedSimpArgs false
set_option linter.unusedVariables false
namespace Go.Proofs.Ytegjocpjmfaigaa
open Go.En

/-- a block of which at most commit blocks of lesser numbers stand -/
def Lo (κ : Nat) (b : List UInt8) : Prop := b.length = 128 ∧ ∃ t, t < κ ∧ t < 256 ∧ b.drop 120 = lowB t
theorem lowB_0 : lowB 0 = List.replicate 8 0 := by decide +kernel
theorem lo_loose {κ : Nat} {b : List UInt8} (h : Loose b) (hk : 1 ≤ κ) : Lo κ b := ⟨h.1, 0, hk, by decide, by rw [h.2, lowB_0]⟩
theorem Lo.mono {κ κ' : Nat} {b : List UInt8} (h : Lo κ b) (hk : κ ≤ κ') : Lo κ' b := by
  obtain ⟨h1, t, h2, h3, h4⟩ := h
  exact ⟨h1, t, Nat.lt_of_lt_of_le h2 hk, h3, h4⟩
theorem lo_ended {κ n : Nat} (g : List UInt8) (h : n < κ) (hn : n < 256) : Lo κ (endedB n g) := ⟨endedB_len n g, n, h, hn, ended_120 n g⟩
theorem lowB_drop {t m : Nat} (ht : t < 256) (hm : 120 < m) : (lowB t).drop (m - 120) = List.replicate (128 - m) 0 := by
  rw [lowB_small ht]
  obtain ⟨j, hj⟩ : ∃ j, m - 120 = j + 1 := ⟨m - 121, by omega⟩
  rw [hj, List.drop_succ_cons, List.drop_replicate]
  congr 1
  omega
theorem lo_mix {κ : Nat} {x o : List UInt8} (hx : Loose x) (ho : Lo κ o) {m : Nat} (hm : m ≤ 128) : Lo κ (x.take m ++ o.drop m) := by
  obtain ⟨o1, t, ht, ht2, o2⟩ := ho
  by_cases h : m ≤ 120
  · refine ⟨by rw [List.length_append, List.length_take, List.length_drop, hx.1]; omega, t, ht, ht2, ?_⟩
    rw [List.drop_append, List.length_take, hx.1, List.drop_of_length_le (by rw [List.length_take]; omega), List.nil_append, List.drop_drop, show m + (120 - min m 128) = 120 by omega, o2]
  · have e : o.drop m = (List.replicate 128 0 : List UInt8).drop m := by
      rw [show o.drop m = (o.drop 120).drop (m - 120) by rw [List.drop_drop, show 120 + (m - 120) = m by omega], o2, lowB_drop ht2 (by omega), List.drop_replicate]
    rw [e]
    exact lo_loose (loose_mix hx loose_zero hm) (by omega)
/-- a commit block that is torn is none, or is there -/
theorem lo_torn {κ n : Nat} (hn : n < 256) (g : List UInt8) {o : List UInt8} (ho : Lo κ o) {m : Nat} (hm : m ≤ 128) : Lo κ ((endedB n g).take m ++ o.drop m) ∨ (endedB n g).take m ++ o.drop m = endedB n g := by
  obtain ⟨o1, t, ht, ht2, o2⟩ := ho
  have x1 := endedB_len n g
  have x2 := ended_120 n g
  generalize endedB n g = x at x1 x2 ⊢
  by_cases h : m ≤ 120
  · left
    refine ⟨by rw [List.length_append, List.length_take, List.length_drop]; omega, t, ht, ht2, ?_⟩
    rw [List.drop_append, List.length_take, x1, List.drop_of_length_le (by rw [List.length_take]; omega), List.nil_append, List.drop_drop, show m + (120 - min m 128) = 120 by omega, o2]
  · right
    have e1 : o.drop m = List.replicate (128 - m) 0 := by
      rw [show o.drop m = (o.drop 120).drop (m - 120) by rw [List.drop_drop, show 120 + (m - 120) = m by omega], o2, lowB_drop ht2 (by omega)]
    have e2 : x.drop m = List.replicate (128 - m) 0 := by
      rw [show x.drop m = (x.drop 120).drop (m - 120) by rw [List.drop_drop, show 120 + (m - 120) = m by omega], x2, lowB_drop hn (by omega)]
    rw [e1, ← e2, List.take_append_drop]
theorem numd_lo {κ : Nat} {b : List UInt8} (h : Lo κ b) : numd b < κ := by
  obtain ⟨_, t, ht, ht2, h2⟩ := h
  unfold numd
  split
  · omega
  · rw [h2, numB_low (Nat.lt_trans ht2 (by decide))]
    split
    · omega
    · rename_i hh
      omega
theorem great_lo {κ : Nat} {l : List (List UInt8)} (hk : 1 ≤ κ) (h : ∀ b ∈ l, Lo κ b) : great l < κ := by
  have := great_mem (l := l) (n := κ - 1) fun b hb => by have := numd_lo (h b hb); omega
  omega
/-- behind A and ahead of C lie n blocks, all loose -/
def Tl (κ : Nat) (A C : List (List UInt8)) (n : Nat) (cs : List (List UInt8)) : Prop := ∃ R, cs = A ++ (R ++ C) ∧ R.length = n ∧ ∀ b ∈ R, Lo κ b
/-- behind A and ahead of C lies a group, behind it all are loose -/
def Kp (κ : Nat) (A C : List (List UInt8)) (g : Grp) (n : Nat) (cs : List (List UInt8)) : Prop := ∃ R, cs = A ++ (gblocks g ++ R ++ C) ∧ (gblocks g ++ R).length = n ∧ ∀ b ∈ R, Lo κ b
section
variable {κ : Nat} {A C : List (List UInt8)} {n : Nat}
theorem Tl.len {cs : List (List UInt8)} (h : Tl κ A C n cs) : cs.length = A.length + n + C.length := by
  obtain ⟨R, rfl, hR, _⟩ := h
  simp only [List.length_append, hR]; omega
theorem tl_put {cs : List (List UInt8)} {m : Nat} {x : Int × List UInt8} (h : Tl κ A C n cs) (hp : (A.length : Int) ≤ x.1 ∧ x.1 < A.length + n) (hx : Loose x.2) (hm : m ≤ 128) : Tl κ A C n (putB cs x m) := by
  obtain ⟨R, rfl, hR, hL⟩ := h
  refine ⟨R.set (x.1.toNat - A.length) (x.2.take m ++ (R.getD (x.1.toNat - A.length) []).drop m), ?_, by rw [List.length_set]; exact hR, fun b hb => ?_⟩
  · unfold putB
    rw [List.set_append_right _ _ (by omega), List.set_append_left _ _ (by omega), List.getD_eq_getElem?_getD, List.getElem?_append_right (by omega), List.getElem?_append_left (by omega), ← List.getD_eq_getElem?_getD]
  · rcases List.mem_or_eq_of_mem_set hb with h | h
    · exact hL b h
    · rw [h]
      refine lo_mix hx ?_ hm
      rw [List.getD_eq_getElem?_getD, List.getElem?_eq_getElem (by omega)]
      exact hL _ (List.getElem_mem _)
theorem tl_crash (f : Fal) : ∀ (ws : List (Int × List UInt8)) (i : Nat) (cs : List (List UInt8)), Tl κ A C n cs → (∀ x ∈ ws, ((A.length : Int) ≤ x.1 ∧ x.1 < A.length + n) ∧ Loose x.2) → Tl κ A C n (crashC f i ws cs)
  | [], _, _, h, _ => h
  | x :: ws, i, cs, h, hw => by
    have hx := hw x List.mem_cons_self
    have hm := mny_le f i
    rw [crashC]
    split
    · exact h
    · exact tl_crash f ws (i + 1) _ (tl_put h hx.1 hx.2 (by omega)) (fun y hy => hw y (List.mem_cons_of_mem _ hy))
/-- while data blocks are written -/
def DatI (κ : Nat) (A C : List (List UInt8)) (n : Nat) (D : Dev) : Prop := D.down = false ∧ Tl κ A C n D.cells ∧ ∀ x ∈ D.waits, ((A.length : Int) ≤ x.1 ∧ x.1 < A.length + n) ∧ Loose x.2
/-- down, and all are loose -/
def Los (κ : Nat) (A C : List (List UInt8)) (n : Nat) (D : Dev) : Prop := D.down = true ∧ D.waits = [] ∧ Tl κ A C n D.cells
theorem los_of {D : Dev} (h : DatI κ A C n D) (f : Fal) : Los κ A C n (D.crash f) := ⟨rfl, rfl, tl_crash f _ _ _ h.2.1 h.2.2⟩
theorem jdata_area : ∀ (m : Nat) (rest : List UInt8) (D : Dev) (i : Nat), rest.length ≤ m → DatI κ A C n D → D.wf → A.length ≤ i → i + (dblocks rest).length ≤ A.length + n → D.waits.length + (dblocks rest).length < 1152921504 →
    (∃ D', jdata D i rest = (D', 0, i + (dblocks rest).length) ∧ DatI κ A C n D' ∧ D'.wf ∧ D'.all = putL D.all i (dblocks rest)) ∨ (∃ D' k, jdata D i rest = (D', 141, k) ∧ Los κ A C n D' ∧ D'.wf)
  | m, rest, D, i, hm, hD, hw, hAi, hi, hwt => by
    have hcl := hD.2.1.len
    by_cases h : rest = []
    · subst h
      rw [jdata, dif_pos rfl, dblocks_nil, putL_nil]
      exact .inl ⟨D, rfl, hD, hw, rfl⟩
    · have hp : 0 < rest.length := List.length_pos_iff.2 h
      cases m with
      | zero => omega
      | succ m =>
        rw [dblocks_cons h] at hi hwt ⊢
        simp only [List.length_cons] at hi hwt ⊢
        have hlen : (1 :: rest.take 119).length ≤ 128 := by rw [List.length_cons, List.length_take]; omega
        have hin : (0 ≤ (i : Int) ∧ (i : Int) < D.cells.length) ∧ (1 :: rest.take 119).length ≤ 128 := ⟨by omega, hlen⟩
        have hwf := write_wf hw (by omega) (i : Int) (1 :: rest.take 119)
        have hD1 : DatI κ A C n (D.wr1 (i : Int) (1 :: rest.take 119)) := ⟨hD.1, hD.2.1, fun x hx => by
          rcases List.mem_append.1 hx with hx | hx
          · exact hD.2.2 x hx
          · simp at hx; subst hx; exact ⟨⟨by simp only; omega, by simp only; omega⟩, loose_data rest⟩⟩
        rcases write_cases hD.1 hin with ⟨s, q, e⟩ | ⟨s, e⟩
        · have hal : (D.write (i : Int) (1 :: rest.take 119)).1.all = D.all.set i (pad (1 :: rest.take 119)) := by
            rw [show D.all.set i (pad (1 :: rest.take 119)) = (D.wr1 (i : Int) (1 :: rest.take 119)).all by rw [wr1_all hD.1 hin.1]; rfl, e]
            exact all_eq rfl rfl rfl
          have hD2 : DatI κ A C n (D.write (i : Int) (1 :: rest.take 119)).1 := by rw [e]; exact hD1
          have hwl := (write_fit D (i : Int) (1 :: rest.take 119)).2
          have e2 : (D.write (i : Int) (1 :: rest.take 119)).2 = 0 := by rw [e]
          have hj : jdata D i rest = jdata (D.write (i : Int) (1 :: rest.take 119)).1 (i + 1) (rest.drop 119) := by
            rw [jdata, dif_neg h, if_neg (by rw [e2]; simp)]
          rw [hj]
          rcases jdata_area m (rest.drop 119) (D.write (i : Int) (1 :: rest.take 119)).1 (i + 1) (by rw [List.length_drop]; omega) hD2 hwf (by omega) (by omega) (by omega) with ⟨D', h1, h2, h3, h4⟩ | ⟨D', k, h1, h2, h3⟩
          · refine .inl ⟨D', ?_, h2, h3, ?_⟩
            · rw [h1]
              congr 2
              omega
            · rw [h4, hal, putL_step (by rw [Dev.all_len]; omega)]
          · exact .inr ⟨D', k, h1, h2, h3⟩
        · refine .inr ⟨(D.write (i : Int) (1 :: rest.take 119)).1, i, ?_, ?_, hwf⟩
          · rw [jdata, dif_neg h, if_pos (by rw [e]; simp), e]
          · rw [e]
            exact los_of (D := { D.wr1 (i : Int) (1 :: rest.take 119) with since := s }) hD1 _
theorem commit_area {R : List (List UInt8)} {o : List UInt8} {g : Grp} {p : Nat} (hp : (A ++ dblocks g.b).length = p) (hn : g.n < 256) (hA : ∀ b ∈ dblocks g.b ++ o :: R, Lo κ b) (f : Fal) :
    Tl κ A C ((dblocks g.b).length + 1 + R.length) (crashC f 0 [((p : Int), endedB g.n g.b)] (A ++ dblocks g.b ++ o :: (R ++ C))) ∨ Kp κ A C g ((dblocks g.b).length + 1 + R.length) (crashC f 0 [((p : Int), endedB g.n g.b)] (A ++ dblocks g.b ++ o :: (R ++ C))) := by
  have hm := mny_le f 0
  rw [crashC]
  split
  · refine .inl ⟨dblocks g.b ++ o :: R, by simp, by simp; omega, hA⟩
  · rw [putB_mid hp]
    have ho : Lo κ o := hA o (List.mem_append_right _ List.mem_cons_self)
    rcases lo_torn hn g.b ho (m := (mny f 0).toNat) (by omega) with h | h
    · refine .inl ⟨dblocks g.b ++ ((endedB g.n g.b).take (mny f 0).toNat ++ o.drop (mny f 0).toNat) :: R, ?_, by simp; omega, fun b hb => ?_⟩
      · show A ++ dblocks g.b ++ _ :: (R ++ C) = _
        simp
      · rcases List.mem_append.1 hb with hb | hb
        · exact hA b (List.mem_append_left _ hb)
        · rcases List.mem_cons.1 hb with rfl | hb
          · exact h
          · exact hA b (List.mem_append_right _ (List.mem_cons_of_mem _ hb))
    · refine .inr ⟨R, ?_, by simp [gblocks]; omega, fun b hb => hA b (List.mem_append_right _ (List.mem_cons_of_mem _ hb))⟩
      show A ++ dblocks g.b ++ _ :: (R ++ C) = _
      rw [h, gblocks]
      simp
theorem loose_dblocks : ∀ (m : Nat) (r : List UInt8), r.length ≤ m → ∀ b ∈ dblocks r, Loose b := by
  intro m
  induction m with
  | zero =>
    intro r hr b hb
    have : r = [] := List.eq_nil_of_length_eq_zero (by omega)
    subst this
    rw [dblocks_nil] at hb
    cases hb
  | succ m ih =>
    intro r hr b hb
    by_cases h : r = []
    · subst h; rw [dblocks_nil] at hb; cases hb
    · have hp : 0 < r.length := List.length_pos_iff.2 h
      rw [dblocks_cons h] at hb
      rcases List.mem_cons.1 hb with rfl | hb
      · exact loose_data r
      · exact ih (r.drop 119) (by rw [List.length_drop]; omega) b hb
theorem jwrite_area {D : Dev} {g : Grp} (hk : 1 ≤ κ) (hd : D.down = false) (hwt : D.waits = []) (hw : D.wf) (hT : Tl κ A C n D.cells) (hfit : g.many ≤ n) (hg : g.n < 256) (hm : g.many < 1152921504) :
    (∃ D', jwrite D A.length g = (D', 0) ∧ D'.down = false ∧ D'.waits = [] ∧ D'.wf ∧ Kp κ A C g n D'.cells) ∨
    (∃ D', jwrite D A.length g = (D', 141) ∧ D'.down = true ∧ D'.waits = [] ∧ D'.wf ∧ (Tl κ A C n D'.cells ∨ Kp κ A C g n D'.cells)) := by
  have hdl : (dblocks g.b).length + 1 = g.many := dblocks_len g.b.length g.b (Nat.le_refl _)
  have hD : DatI κ A C n D := ⟨hd, hT, fun x hx => by rw [hwt] at hx; cases hx⟩
  rcases jdata_area g.b.length g.b D A.length (Nat.le_refl _) hD hw (Nat.le_refl _) (by omega) (by rw [hwt]; simp; omega) with ⟨D1, h1, h2, h3, h4⟩ | ⟨D1, k, h1, h2, h3⟩
  · have hs5 := sync_wf h3
    rcases sync_cases h2.1 with ⟨s, q, es⟩ | ⟨s, es⟩
    · -- synced
      have hs1 : D1.sync.1.cells = D1.all := by rw [es]; exact putAll_all h3 h2.1
      have hs2 : D1.sync.1.waits = [] := by rw [es]; rfl
      have hs3 : D1.sync.1.down = false := by rw [es]; exact h2.1
      have hs4 : D1.sync.2 = 0 := by rw [es]
      obtain ⟨R, hcR, hRl, hRL⟩ := hT
      have hall : D1.all = A ++ (dblocks g.b ++ (R.drop (dblocks g.b).length ++ C)) := by
        rw [h4, nowait_all hd hwt, hcR, putL_at rfl, List.drop_append_of_le_length (by omega)]
      have hne : (dblocks g.b).length < R.length := by omega
      have hdr : R.drop (dblocks g.b).length = R[(dblocks g.b).length] :: R.drop ((dblocks g.b).length + 1) := List.drop_eq_getElem_cons hne
      have hLo : Lo κ R[(dblocks g.b).length] := hRL _ (List.getElem_mem _)
      rw [hdr] at hall
      have hL3 : ∀ b ∈ R.drop ((dblocks g.b).length + 1), Lo κ b := fun b hb => hRL b (List.mem_of_mem_drop hb)
      have hl3 : (R.drop ((dblocks g.b).length + 1)).length = n - g.many := by rw [List.length_drop]; omega
      generalize R[(dblocks g.b).length] = o at hall hLo
      generalize R.drop ((dblocks g.b).length + 1) = R3 at hall hL3 hl3
      have hAll : ∀ b ∈ dblocks g.b ++ o :: R3, Lo κ b := fun b hb => by
        rcases List.mem_append.1 hb with hb | hb
        · exact lo_loose (loose_dblocks _ _ (Nat.le_refl _) b hb) hk
        · rcases List.mem_cons.1 hb with rfl | hb
          · exact hLo
          · exact hL3 b hb
      have hn3 : (dblocks g.b).length + 1 + R3.length = n := by omega
      have hcc : D1.sync.1.cells = A ++ dblocks g.b ++ o :: (R3 ++ C) := by rw [hs1, hall]; simp
      have hpl : (A ++ dblocks g.b).length = A.length + (dblocks g.b).length := List.length_append
      have hlc : D1.sync.1.cells.length = A.length + n + C.length := by rw [hcc]; simp; omega
      have hel := endedB_len g.n g.b
      have hin : (0 ≤ ((A.length + (dblocks g.b).length : Nat) : Int) ∧ ((A.length + (dblocks g.b).length : Nat) : Int) < D1.sync.1.cells.length) ∧ (endedB g.n g.b).length ≤ 128 := ⟨by rw [hlc]; omega, by rw [hel]; exact Nat.le_refl _⟩
      have hpad : pad (endedB g.n g.b) = endedB g.n g.b := by rw [pad, hel]; simp
      have hww := write_wf hs5 (by rw [hs2]; decide) ((A.length + (dblocks g.b).length : Nat) : Int) (endedB g.n g.b)
      have ecm : ∀ f, Tl κ A C n (crashC f 0 [(((A.length + (dblocks g.b).length : Nat) : Int), endedB g.n g.b)] D1.sync.1.cells) ∨ Kp κ A C g n (crashC f 0 [(((A.length + (dblocks g.b).length : Nat) : Int), endedB g.n g.b)] D1.sync.1.cells) := fun f => by
        have := commit_area (C := C) (p := A.length + (dblocks g.b).length) hpl hg hAll f
        rw [hn3] at this
        rw [hcc]
        exact this
      have hwr1 : (D1.sync.1.wr1 ((A.length + (dblocks g.b).length : Nat) : Int) (endedB g.n g.b)).waits = [(((A.length + (dblocks g.b).length : Nat) : Int), endedB g.n g.b)] := by
        show D1.sync.1.waits ++ [(_, pad _)] = _
        rw [hs2, hpad]
        rfl
      have e0 : ∀ c : Dev × Int, c = D1.sync.1.write ((A.length + (dblocks g.b).length : Nat) : Int) (endedB g.n g.b) → jwrite D A.length g = if c.2 ≠ 0 then c else c.1.sync := fun c hc => by
        unfold jwrite
        rw [h1]
        simp only
        rw [if_neg (by simp), if_neg (by rw [hs4]; simp), ← hc]
      rcases write_cases hs3 hin with ⟨s2, q2, ew⟩ | ⟨s2, ew⟩
      · -- the commit block waits
        have e1 := e0 _ ew.symm
        rw [if_neg (by simp)] at e1
        simp only at e1
        rw [ew] at hww
        simp only at hww
        generalize hD3 : ({ D1.sync.1.wr1 ((A.length + (dblocks g.b).length : Nat) : Int) (endedB g.n g.b) with since := s2, many := q2 } : Dev) = D3 at e1 hww
        have hd3 : D3.down = false := by rw [← hD3]; exact hs3
        have hw3 : D3.waits = [(((A.length + (dblocks g.b).length : Nat) : Int), endedB g.n g.b)] := by rw [← hD3]; exact hwr1
        have hc3 : D3.cells = D1.sync.1.cells := by rw [← hD3]; rfl
        have hsw := sync_wf hww
        rcases sync_cases hd3 with ⟨s3, q3, et⟩ | ⟨s3, et⟩
        · refine .inl ⟨_, e1.trans et, hd3, rfl, by rw [et] at hsw; exact hsw, ?_⟩
          show Kp κ A C g n (putAll D3.cells D3.waits)
          rw [hw3, hc3, hcc]
          show Kp κ A C g n (putB _ _ 128)
          rw [putB_mid hpl, List.take_of_length_le (by omega), List.drop_of_length_le (by rw [hLo.1]; exact Nat.le_refl _), List.append_nil]
          exact ⟨R3, by simp [gblocks], by simp [gblocks]; omega, hL3⟩
        · refine .inr ⟨_, e1.trans et, rfl, rfl, by rw [et] at hsw; exact hsw, ?_⟩
          show Tl κ A C n (crashC _ 0 D3.waits D3.cells) ∨ Kp κ A C g n (crashC _ 0 D3.waits D3.cells)
          rw [hw3, hc3]
          exact ecm _
      · have e1 := e0 _ ew.symm
        rw [if_pos (by simp)] at e1
        rw [ew] at hww
        refine .inr ⟨_, e1, rfl, rfl, hww, ?_⟩
        show Tl κ A C n (crashC _ 0 (D1.sync.1.wr1 _ _).waits D1.sync.1.cells) ∨ Kp κ A C g n (crashC _ 0 (D1.sync.1.wr1 _ _).waits D1.sync.1.cells)
        rw [hwr1]
        exact ecm _
    · have hl := los_of (D := { D1 with since := s }) h2 D1.fall
      refine .inr ⟨D1.sync.1, ?_, by rw [es]; exact hl.1, by rw [es]; exact hl.2.1, hs5, .inl (by rw [es]; exact hl.2.2)⟩
      unfold jwrite
      rw [h1]
      simp only
      rw [if_neg (by simp), if_pos (by rw [es]; simp), es]
  · refine .inr ⟨D1, ?_, h2.1, h2.2.1, h3, .inl h2.2.2⟩
    unfold jwrite
    rw [h1]
    simp
/-- a group is appended, or it is not, or a crash comes: then it is there, or it is not -/
theorem append_area {m : Nat} {J : Jou} {D : Dev} {b : List UInt8} {u : Nat} (hk : 1 ≤ κ) (hd : D.down = false) (hwt : D.waits = []) (hw : D.wf) (hsh : J.shut = false) (hu : u + J.used = A.length) (hT : Tl κ A C n D.cells) (hfit : blk b.length ≤ n) (hn : n + J.used = m) (hg : J.next < 256) (hm : m ≤ 4096) :
    (∃ D', J.append u m D b = (⟨J.l ++ [⟨J.next, b⟩], J.next + 1, false⟩, D', 0) ∧ D'.down = false ∧ D'.waits = [] ∧ D'.wf ∧ Kp κ A C ⟨J.next, b⟩ n D'.cells) ∨
    (∃ D', J.append u m D b = ({ J with shut := true }, D', 141) ∧ D'.down = true ∧ D'.waits = [] ∧ D'.wf ∧ (Tl κ A C n D'.cells ∨ Kp κ A C ⟨J.next, b⟩ n D'.cells)) := by
  have hmx : maxN = 4611686018427387904 := rfl
  have hmany : (⟨J.next, b⟩ : Grp).many = blk b.length := rfl
  have e0 : ∀ r : Dev × Int, jwrite D A.length ⟨J.next, b⟩ = r → J.append u m D b = if r.2 ≠ 0 then ({ J with shut := true }, r.1, r.2) else (⟨J.l ++ [⟨J.next, b⟩], J.next + 1, J.shut⟩, r.1, 0) := fun r hr => by
    unfold Jou.append
    rw [if_neg (by simp [hsh]), if_neg (by omega), hu, hr]
  rcases jwrite_area (g := ⟨J.next, b⟩) hk hd hwt hw hT (by rw [hmany]; exact hfit) hg (by rw [hmany]; omega) with ⟨D', h1, h2, h3, h4, h5⟩ | ⟨D', h1, h2, h3, h4, h5⟩
  · have e1 := e0 _ h1
    rw [if_neg (by simp), hsh] at e1
    exact .inl ⟨D', e1, h2, h3, h4, h5⟩
  · have e1 := e0 _ h1
    rw [if_pos (by simp)] at e1
    exact .inr ⟨D', e1, h2, h3, h4, h5⟩
end
end Go.Proofs.Ytegjocpjmfaigaa
