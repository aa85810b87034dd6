/- The journal behind a crash: the plain law. -/
import Derived.Test.YtegjocpjmfaigaaJs
set_option linter.unusedSimpArgs false
set_option linter.unusedVariables false
namespace Go.Proofs.Ytegjocpjmfaigaa
open Go.En

/-- a block that is no commit block that stands -/
def Loose (b : List UInt8) : Prop := b.length = 128 ∧ b.drop 120 = List.replicate 8 0
theorem loose_zero : Loose (List.replicate 128 0) := ⟨by simp, by decide +kernel⟩
theorem loose_data (c : List UInt8) : Loose (pad (1 :: c.take 119)) := by
  have hl : (1 :: c.take 119).length ≤ 120 := by rw [List.length_cons, List.length_take]; omega
  refine ⟨pad_len (by omega), ?_⟩
  unfold pad
  rw [List.drop_append, List.drop_of_length_le hl, List.nil_append, List.drop_replicate]
  congr 1
  omega
theorem loose_mix {x o : List UInt8} (hx : Loose x) (ho : Loose o) {m : Nat} (hm : m ≤ 128) : Loose (x.take m ++ o.drop m) := by
  obtain ⟨x1, x2⟩ := hx
  obtain ⟨o1, o2⟩ := ho
  refine ⟨by rw [List.length_append, List.length_take, List.length_drop]; omega, ?_⟩
  rw [List.drop_append, List.length_take, x1]
  by_cases h : m ≤ 120
  · rw [List.drop_of_length_le (by rw [List.length_take]; omega), List.nil_append, List.drop_drop, show m + (120 - min m 128) = 120 by omega, o2]
  · rw [show 120 - min m 128 = 0 by omega, List.drop_zero, List.drop_take, x2, List.take_replicate, show o.drop m = (o.drop 120).drop (m - 120) by rw [List.drop_drop, show 120 + (m - 120) = m by omega], o2, List.drop_replicate, List.replicate_append_replicate]
    congr 1
    omega
theorem lowB_small {n : Nat} (h : n < 256) : lowB n = UInt8.ofNat n :: List.replicate 7 0 := by
  have e : ∀ k, 1 ≤ k → n / 256 ^ k = 0 := fun k hk => Nat.div_eq_of_lt (Nat.lt_of_lt_of_le h (by
    calc 256 = 256 ^ 1 := rfl
      _ ≤ 256 ^ k := Nat.pow_le_pow_right (by decide) hk))
  have : lowB n = [UInt8.ofNat (n / 256 ^ 0), UInt8.ofNat (n / 256 ^ 1), UInt8.ofNat (n / 256 ^ 2), UInt8.ofNat (n / 256 ^ 3), UInt8.ofNat (n / 256 ^ 4), UInt8.ofNat (n / 256 ^ 5), UInt8.ofNat (n / 256 ^ 6), UInt8.ofNat (n / 256 ^ 7)] := rfl
  rw [this, e 1 (by decide), e 2 (by decide), e 3 (by decide), e 4 (by decide), e 5 (by decide), e 6 (by decide), e 7 (by decide), Nat.pow_zero, Nat.div_one]
  rfl
/-- a commit block that is torn is none, or is there -/
theorem ended_mix {n : Nat} (hn : n < 256) (g : List UInt8) {o : List UInt8} (ho : Loose o) {m : Nat} (hm : m ≤ 128) : Loose ((endedB n g).take m ++ o.drop m) ∨ (endedB n g).take m ++ o.drop m = endedB n g := by
  obtain ⟨o1, o2⟩ := ho
  have x1 := endedB_len n g
  have x2 := ended_120 n g
  generalize endedB n g = x at x1 x2 ⊢
  by_cases h : m ≤ 120
  · left
    refine ⟨by rw [List.length_append, List.length_take, List.length_drop]; omega, ?_⟩
    rw [List.drop_append, List.length_take, x1, List.drop_of_length_le (by rw [List.length_take]; omega), List.nil_append, List.drop_drop, show m + (120 - min m 128) = 120 by omega, o2]
  · right
    have e1 : o.drop m = List.replicate (128 - m) 0 := by
      rw [show o.drop m = (o.drop 120).drop (m - 120) by rw [List.drop_drop, show 120 + (m - 120) = m by omega], o2, List.drop_replicate]
      congr 1
      omega
    have e2 : x.drop m = List.replicate (128 - m) 0 := by
      rw [show x.drop m = (x.drop 120).drop (m - 120) by rw [List.drop_drop, show 120 + (m - 120) = m by omega], x2, lowB_small hn]
      obtain ⟨j, hj⟩ : ∃ j, m - 120 = j + 1 := ⟨m - 121, by omega⟩
      rw [hj, List.drop_succ_cons, List.drop_replicate]
      congr 1
      omega
    rw [e1, ← e2, List.take_append_drop]
theorem numd_loose {b : List UInt8} (h : Loose b) : numd b = 0 := by
  unfold numd
  split
  · rfl
  · rw [h.2, if_pos]
    have : numB (List.replicate 8 0) = 0 := by decide +kernel
    rw [this]
    omega
theorem stand_loose {l : List (List UInt8)} (h : ∀ b ∈ l, Loose b) : stand l [] 0 = none := by
  cases hs : stand l [] 0 with
  | none => rfl
  | some g =>
    obtain ⟨b, hb, hn, _⟩ := stand_num _ _ _ _ hs
    have h1 := (stand_ok _ _ _ _ (Nat.zero_le _) (fun b hb => (h b hb).1) hs).2.1.1
    rw [numd_loose (h b hb)] at hn
    omega
/-- what a journal's blocks are -/
def SafeC (H : List (List UInt8)) (cs : List (List UInt8)) : Prop := ∃ rest, cs = gsb (grps 1 H) ++ rest ∧ ∀ b ∈ rest, Loose b
theorem safe_open {H : List (List UInt8)} {D : Dev} {N : Nat} (h : SafeC H D.cells) (hd : D.down = false) (hw : D.waits = []) (hl : D.cells.length = N) (hm : H.length ≤ 1000) (hb : ∀ b ∈ H, b.length ≤ 1000) : openJ D 0 N = ⟨grps 1 H, H.length + 1, false⟩ := by
  obtain ⟨rest, h1, h2⟩ := h
  have hmx : maxN = 4611686018427387904 := rfl
  have hg : ∀ g ∈ grps 1 H, (1 ≤ g.n ∧ g.n ≤ maxN) ∧ g.b.length < 4294967296 := fun g hg => by
    obtain ⟨k1, k2, k3⟩ := grps_mem hg
    have := hb _ k3
    exact ⟨⟨by omega, by omega⟩, by omega⟩
  have ha : area D 0 N = gsb (grps 1 H) ++ rest := by rw [← hl, area_all hd, nowait_all hd hw, h1]
  have ho : opened (gsb (grps 1 H) ++ rest) = grps 1 H := opened_parse hg (rise_grps 1 H 0 (by omega)) fun g hgs => by rw [stand_loose h2] at hgs; cases hgs
  have hgr : great (gsb (grps 1 H) ++ rest) = H.length := by
    apply Nat.le_antisymm
    · refine great_mem fun b hb => ?_
      rcases List.mem_append.1 hb with hb | hb
      · simp only [gsb, List.mem_flatten, List.mem_map] at hb
        obtain ⟨_, ⟨g, hgm, rfl⟩, hb⟩ := hb
        have k := grps_mem hgm
        have := numd_gblocks (hg g hgm).1.1 (hg g hgm).1.2 hb
        omega
      · rw [numd_loose (h2 b hb)]; exact Nat.zero_le _
    · by_cases hH : H.length = 0
      · omega
      · have hlast : (⟨1 + (H.length - 1), H[H.length - 1]⟩ : Grp) ∈ grps 1 H := by
          simp only [grps, List.mem_mapIdx]
          exact ⟨H.length - 1, by omega, rfl⟩
        have hmem : endedB (1 + (H.length - 1)) H[H.length - 1] ∈ gsb (grps 1 H) ++ rest := by
          refine List.mem_append_left _ ?_
          simp only [gsb, List.mem_flatten, List.mem_map]
          exact ⟨_, ⟨_, hlast, rfl⟩, List.mem_append_right _ (List.mem_singleton.2 rfl)⟩
        have := great_ge hmem
        rw [numd_ended _ (by omega) (by omega)] at this
        omega
  unfold openJ
  rw [ha, ho, hgr]

/-! what an operation comes to, whatever is armed -/
theorem write_cases {D : Dev} (hd : D.down = false) {i : Int} {bs : List UInt8} (h : (0 ≤ i ∧ i < D.cells.length) ∧ bs.length ≤ 128) :
    (∃ s m, D.write i bs = ({ D.wr1 i bs with since := s, many := m }, 0)) ∨ (∃ s, D.write i bs = (Dev.crash { D.wr1 i bs with since := s } D.fall, 141)) := by
  unfold Dev.write
  rw [if_neg (by simp [hd]), if_pos h]
  unfold Dev.oper
  split
  · exact .inr ⟨_, rfl⟩
  · exact .inl ⟨_, _, rfl⟩
theorem sync_cases {D : Dev} (hd : D.down = false) : (∃ s m, D.sync = (Dev.sync1 { D with since := s, many := m }, 0)) ∨ (∃ s, D.sync = (Dev.crash { D with since := s } D.fall, 141)) := by
  unfold Dev.sync
  rw [if_neg (by simp [hd])]
  unfold Dev.oper
  by_cases h : 0 < D.fall.a ∧ inc D.since = D.fall.a
  · rw [if_pos h]
    exact .inr ⟨_, rfl⟩
  · rw [if_neg h]
    exact .inl ⟨_, _, rfl⟩
/-- behind these blocks all are loose -/
def Tail (A : List (List UInt8)) (n : Nat) (cs : List (List UInt8)) : Prop := ∃ R, cs = A ++ R ∧ R.length = n ∧ ∀ b ∈ R, Loose b
theorem tail_put {A cs : List (List UInt8)} {n m : Nat} {x : Int × List UInt8} (h : Tail A n cs) (hp : (A.length : Int) ≤ x.1 ∧ x.1 < A.length + n) (hx : Loose x.2) (hm : m ≤ 128) : Tail A n (putB cs x m) := by
  obtain ⟨R, rfl, hR, hL⟩ := h
  refine ⟨R.set (x.1.toNat - A.length) (x.2.take m ++ (R.getD (x.1.toNat - A.length) []).drop m), ?_, by rw [List.length_set]; exact hR, fun b hb => ?_⟩
  · unfold putB
    rw [List.set_append_right _ _ (by omega), List.getD_eq_getElem?_getD, List.getElem?_append_right (by omega), ← List.getD_eq_getElem?_getD]
  · rcases List.mem_or_eq_of_mem_set hb with h | h
    · exact hL b h
    · rw [h]
      refine loose_mix hx ?_ hm
      rw [List.getD_eq_getElem?_getD, List.getElem?_eq_getElem (by omega)]
      exact hL _ (List.getElem_mem _)
theorem tail_crash {A : List (List UInt8)} {n : Nat} (f : Fal) : ∀ (ws : List (Int × List UInt8)) (i : Nat) (cs : List (List UInt8)), Tail A n cs → (∀ x ∈ ws, ((A.length : Int) ≤ x.1 ∧ x.1 < A.length + n) ∧ Loose x.2) → Tail A n (crashC f i ws cs)
  | [], _, _, h, _ => h
  | x :: ws, i, cs, h, hw => by
    have hx := hw x List.mem_cons_self
    have hm := mny_le f i
    rw [crashC]
    split
    · exact h
    · exact tail_crash f ws (i + 1) _ (tail_put h hx.1 hx.2 (by omega)) (fun y hy => hw y (List.mem_cons_of_mem _ hy))
/-- while data blocks are written -/
def DataI (A : List (List UInt8)) (n : Nat) (D : Dev) : Prop := D.down = false ∧ Tail A n D.cells ∧ ∀ x ∈ D.waits, ((A.length : Int) ≤ x.1 ∧ x.1 < A.length + n) ∧ Loose x.2
/-- down, and nothing stands behind these blocks -/
def Lost (A : List (List UInt8)) (n : Nat) (D : Dev) : Prop := D.down = true ∧ D.waits = [] ∧ Tail A n D.cells
theorem lost_of {A : List (List UInt8)} {n : Nat} {D : Dev} (h : DataI A n D) (f : Fal) : Lost A n (D.crash f) := ⟨rfl, rfl, tail_crash f _ _ _ h.2.1 h.2.2⟩
theorem Tail.len {A cs : List (List UInt8)} {n : Nat} (h : Tail A n cs) : cs.length = A.length + n := by
  obtain ⟨R, rfl, hR, _⟩ := h
  rw [List.length_append, hR]
theorem jdata_safe {A : List (List UInt8)} {n : Nat} : ∀ (m : Nat) (rest : List UInt8) (D : Dev) (i : Nat), rest.length ≤ m → DataI A n D → D.wf → A.length ≤ i → i + (dblocks rest).length ≤ A.length + n → D.waits.length + (dblocks rest).length < 1152921504 →
    (∃ D', jdata D i rest = (D', 0, i + (dblocks rest).length) ∧ DataI A n D' ∧ D'.wf ∧ D'.all = putL D.all i (dblocks rest)) ∨ (∃ D' k, jdata D i rest = (D', 141, k) ∧ Lost A n D' ∧ D'.wf)
  | m, rest, D, i, hm, hD, hw, hAi, hi, hwt => by
    have hcl := hD.2.1.len
    by_cases h : rest = []
    · subst h
      rw [jdata, dif_pos rfl, dblocks_nil, putL_nil]
      exact .inl ⟨D, rfl, hD, hw, rfl⟩
    · have hp : 0 < rest.length := List.length_pos_iff.2 h
      cases m with
      | zero => omega
      | succ m =>
        rw [dblocks_cons h] at hi hwt ⊢
        simp only [List.length_cons] at hi hwt ⊢
        have hlen : (1 :: rest.take 119).length ≤ 128 := by rw [List.length_cons, List.length_take]; omega
        have hin : (0 ≤ (i : Int) ∧ (i : Int) < D.cells.length) ∧ (1 :: rest.take 119).length ≤ 128 := ⟨by omega, hlen⟩
        have hwf := write_wf hw (by omega) (i : Int) (1 :: rest.take 119)
        have hD1 : DataI A n (D.wr1 (i : Int) (1 :: rest.take 119)) := ⟨hD.1, hD.2.1, fun x hx => by
          rcases List.mem_append.1 hx with hx | hx
          · exact hD.2.2 x hx
          · simp at hx; subst hx; exact ⟨⟨by simp only; omega, by simp only; omega⟩, loose_data rest⟩⟩
        rcases write_cases hD.1 hin with ⟨s, q, e⟩ | ⟨s, e⟩
        · have hal : (D.write (i : Int) (1 :: rest.take 119)).1.all = D.all.set i (pad (1 :: rest.take 119)) := by
            rw [show D.all.set i (pad (1 :: rest.take 119)) = (D.wr1 (i : Int) (1 :: rest.take 119)).all by rw [wr1_all hD.1 hin.1]; rfl, e]
            exact all_eq rfl rfl rfl
          have hD2 : DataI A n (D.write (i : Int) (1 :: rest.take 119)).1 := by rw [e]; exact hD1
          have hwl := (write_fit D (i : Int) (1 :: rest.take 119)).2
          have e2 : (D.write (i : Int) (1 :: rest.take 119)).2 = 0 := by rw [e]
          have hj : jdata D i rest = jdata (D.write (i : Int) (1 :: rest.take 119)).1 (i + 1) (rest.drop 119) := by
            rw [jdata, dif_neg h, if_neg (by rw [e2]; simp)]
          rw [hj]
          rcases jdata_safe m (rest.drop 119) (D.write (i : Int) (1 :: rest.take 119)).1 (i + 1) (by rw [List.length_drop]; omega) hD2 hwf (by omega) (by omega) (by omega) with ⟨D', h1, h2, h3, h4⟩ | ⟨D', k, h1, h2, h3⟩
          · refine .inl ⟨D', ?_, h2, h3, ?_⟩
            · rw [h1]
              congr 2
              omega
            · rw [h4, hal, putL_step (by rw [Dev.all_len]; omega)]
          · exact .inr ⟨D', k, h1, h2, h3⟩
        · refine .inr ⟨(D.write (i : Int) (1 :: rest.take 119)).1, i, ?_, ?_, hwf⟩
          · rw [jdata, dif_neg h, if_pos (by rw [e]; simp), e]
          · rw [e]
            exact lost_of (D := { D.wr1 (i : Int) (1 :: rest.take 119) with since := s }) hD1 _
end Go.Proofs.Ytegjocpjmfaigaa
