/- The journal: what was written is read back. -/
import Derived.Test.YtegjocpjmfaigaaJo
set_option linter.unusedSimpArgs false
set_option linter.unusedVariables false
namespace Go.Proofs.Ytegjocpjmfaigaa
open Go.En

theorem numB_range (n : Nat) : ∀ m : Nat, numB ((List.range m).map fun i => UInt8.ofNat (n / 256 ^ i)) = n % 256 ^ m
  | 0 => by simp [numB, Nat.mod_one]
  | m + 1 => by
    rw [List.range_succ, List.map_append, numB_app, numB_range n m, List.length_map, List.length_range, Nat.pow_succ, Nat.mod_mul]
    simp [numB]
theorem numB_low {n : Nat} (h : n < 256 ^ 8) : numB (lowB n) = n := by
  rw [lowB, numB_range, Nat.mod_eq_of_lt h]
theorem numB_low4 {n : Nat} (h : n < 4294967296) : numB ((lowB n).take 4) = n := by
  have : (lowB n).take 4 = (List.range 4).map fun i => UInt8.ofNat (n / 256 ^ i) := rfl
  rw [this, numB_range, Nat.mod_eq_of_lt h]
theorem ended_1 (n : Nat) (b : List UInt8) : ((endedB n b).drop 1).take 8 = lowB n := by
  have l8 := lowB_len n
  rw [endedB, List.singleton_append, List.drop_succ_cons, List.drop_zero, List.take_left' l8]
theorem ended_9 (n : Nat) (b : List UInt8) : ((endedB n b).drop 9).take 4 = (lowB b.length).take 4 := by
  have l8 := lowB_len n
  have l4 : ((lowB b.length).take 4).length = 4 := by rw [List.length_take, lowB_len]; rfl
  rw [endedB, List.singleton_append, List.drop_succ_cons, List.drop_left' l8, List.take_left' l4]
theorem ended_120 (n : Nat) (b : List UInt8) : (endedB n b).drop 120 = lowB n := by
  have l8 := lowB_len n
  have l4 : ∀ k, ((lowB k).take 4).length = 4 := fun k => by rw [List.length_take, lowB_len]; rfl
  have e : endedB n b = ([2] ++ lowB n ++ (lowB b.length).take 4 ++ (lowB (crcN b)).take 4 ++ List.replicate 103 0) ++ lowB n := by
    simp only [endedB, List.append_assoc, List.append_nil]
  rw [e, List.drop_left']
  simp only [List.length_append, l8, l4, List.length_replicate]
  rfl
theorem ended_head (n : Nat) (b : List UInt8) : (endedB n b).head? = some 2 := rfl
theorem numd_ended {n : Nat} (b : List UInt8) (h1 : 1 ≤ n) (h2 : n ≤ maxN) : numd (endedB n b) = n := by
  have hn : n < 256 ^ 8 := by unfold maxN at h2; omega
  unfold numd
  rw [ended_head, if_neg (by simp), ended_1, ended_120, numB_low hn, if_neg (by omega)]
theorem numd_data (c : List UInt8) : numd (pad (1 :: c)) = 0 := by
  unfold numd
  have : (pad (1 :: c)).head? = some 1 := rfl
  rw [this, if_pos (by decide)]

/-- what data blocks hold -/
def dpad (rest : List UInt8) : List UInt8 := if h : rest = [] then [] else (rest.take 119 ++ List.replicate (119 - rest.length) 0) ++ dpad (rest.drop 119)
termination_by rest.length
decreasing_by
  have : 0 < rest.length := List.length_pos_iff.2 h
  simp only [List.length_drop]
  omega
theorem dpad_nil : dpad [] = [] := by rw [dpad, dif_pos rfl]
theorem dpad_cons {rest : List UInt8} (h : rest ≠ []) : dpad rest = (rest.take 119 ++ List.replicate (119 - rest.length) 0) ++ dpad (rest.drop 119) := by rw [dpad, dif_neg h]
theorem dpad_len : ∀ (n : Nat) (r : List UInt8), r.length ≤ n → (dpad r).length = 119 * (dblocks r).length ∧ (dpad r).take r.length = r
  | n, r, hn => by
    by_cases h : r = []
    · subst h; rw [dpad_nil, dblocks_nil]; exact ⟨rfl, rfl⟩
    · have hp : 0 < r.length := List.length_pos_iff.2 h
      cases n with
      | zero => omega
      | succ n =>
        obtain ⟨h1, h2⟩ := dpad_len n (r.drop 119) (by rw [List.length_drop]; omega)
        rw [dpad_cons h, dblocks_cons h]
        constructor
        · rw [List.length_append, h1, List.length_append, List.length_take, List.length_replicate, List.length_cons]; omega
        · by_cases hl : r.length ≤ 119
          · rw [List.take_append_of_le_length (by rw [List.length_append, List.length_take, List.length_replicate]; omega), List.take_append_of_le_length (by rw [List.length_take]; omega), List.take_take]
            exact List.take_of_length_le (by omega)
          · have e : 119 - r.length = 0 := by omega
            rw [e, List.replicate_zero, List.append_nil, List.take_append, List.length_take, show min 119 r.length = 119 by omega, List.take_take, show min r.length 119 = 119 by omega]
            rw [List.length_drop] at h2
            rw [h2, List.take_append_drop]
theorem data_mid (r : List UInt8) : ((pad (1 :: r.take 119)).drop 1).take 119 = r.take 119 ++ List.replicate (119 - r.length) 0 := by
  unfold pad
  rw [List.cons_append, List.drop_succ_cons, List.drop_zero, List.take_append, List.take_of_length_le (by rw [List.length_take]; omega), List.take_replicate]
  congr 2
  rw [List.length_cons, List.length_take]
  omega
theorem stand_data : ∀ (n : Nat) (r : List UInt8) (tl : List (List UInt8)) (inn : List UInt8) (k : Nat), r.length ≤ n → stand (dblocks r ++ tl) inn k = stand tl (inn ++ dpad r) (k + (dblocks r).length)
  | n, r, tl, inn, k, hn => by
    by_cases h : r = []
    · subst h; rw [dblocks_nil, dpad_nil, List.append_nil]; rfl
    · have hp : 0 < r.length := List.length_pos_iff.2 h
      cases n with
      | zero => omega
      | succ n =>
        rw [dblocks_cons h, List.cons_append, stand_cons, if_pos (show (pad (1 :: r.take 119)).head? = some 1 from rfl), data_mid, stand_data n (r.drop 119) tl _ (k + 1) (by rw [List.length_drop]; omega), dpad_cons h, List.length_cons, List.append_assoc]
        congr 1
        omega
theorem stand_grp {g : Grp} (h1 : 1 ≤ g.n ∧ g.n ≤ maxN) (h2 : g.b.length < 4294967296) (tl : List (List UInt8)) : stand (gblocks g ++ tl) [] 0 = some g := by
  have hn : g.n < 256 ^ 8 := by have := h1.2; unfold maxN at this; omega
  obtain ⟨d1, d2⟩ := dpad_len g.b.length g.b (Nat.le_refl _)
  have hl := dblocks_len g.b.length g.b (Nat.le_refl _)
  rw [gblocks, List.append_assoc, stand_data _ _ _ _ _ (Nat.le_refl _), List.singleton_append, List.nil_append, Nat.zero_add, stand_cons, ended_head, if_neg (by decide), if_neg (by simp), ended_1, ended_9, numB_low hn, numB_low4 h2, d2, if_neg ?_, if_pos rfl]
  have : g.b.length ≤ (dpad g.b).length := by
    have := congrArg List.length d2
    rw [List.length_take] at this
    omega
  omega
/-- what stands has its number in a block -/
theorem stand_num : ∀ (l : List (List UInt8)) (inn : List UInt8) (k : Nat) (g : Grp), stand l inn k = some g → ∃ b ∈ l, numd b = g.n ∧ b = endedB g.n g.b
  | [], _, _, _, h => by simp [stand] at h
  | b :: r, inn, k, g, h => by
    rw [stand_cons] at h
    split at h
    · obtain ⟨c, hc, e⟩ := stand_num r _ _ g h
      exact ⟨c, List.mem_cons_of_mem _ hc, e⟩
    · split at h
      · cases h
      · split at h
        · cases h
        · rename_i hn
          split at h
          · rename_i he
            cases h
            refine ⟨b, List.mem_cons_self, ?_, he⟩
            rw [he]
            simp only
            rw [← he]
            conv => lhs; rw [he]
            exact numd_ended _ (by omega) (by omega)
          · cases h
def gsb (l : List Grp) : List (List UInt8) := (l.map gblocks).flatten
theorem gsb_len (l : List Grp) : (gsb l).length = usedOf l := by
  simp only [gsb, usedOf, List.length_flatten, List.map_map]
  congr 1
  exact List.map_congr_left fun g _ => gblocks_len g
theorem gsb_app (a b : List Grp) : gsb (a ++ b) = gsb a ++ gsb b := by simp [gsb]
/-- numbers rise -/
def Rise : Nat → List Grp → Prop
  | _, [] => True
  | n, g :: l => n < g.n ∧ Rise g.n l
theorem lastOf_app (a : List Grp) (g : Grp) : lastOf (a ++ [g]) = g.n := by simp [lastOf]
theorem opn_parse {rest : List (List UInt8)} : ∀ (rem acc : List Grp) (f : Nat), rem.length < f → (∀ g ∈ rem, (1 ≤ g.n ∧ g.n ≤ maxN) ∧ g.b.length < 4294967296) → Rise (lastOf acc) rem → (∀ g, stand rest [] 0 = some g → g.n ≤ lastOf (acc ++ rem)) →
    opn (gsb (acc ++ rem) ++ rest) f (usedOf acc) acc = acc ++ rem
  | [], acc, f, hf, _, _, hr => by
    cases f with
    | zero => cases hf
    | succ f =>
      rw [List.append_nil] at hr ⊢
      rw [opn, ← gsb_len acc, List.drop_left' rfl]
      cases hs : stand rest [] 0 with
      | none => rfl
      | some g => simp only; rw [if_pos (hr g hs)]
  | g :: rem, acc, f, hf, hg, hR, hr => by
    cases f with
    | zero => cases hf
    | succ f =>
      have hg0 := hg g List.mem_cons_self
      have e1 : gsb (acc ++ g :: rem) ++ rest = gsb acc ++ (gblocks g ++ (gsb rem ++ rest)) := by
        rw [gsb_app, show gsb (g :: rem) = gblocks g ++ gsb rem by simp [gsb]]
        simp
      have e2 : (gsb (acc ++ g :: rem) ++ rest).drop (usedOf acc) = gblocks g ++ (gsb rem ++ rest) := by rw [e1, ← gsb_len acc, List.drop_left' rfl]
      rw [opn, e2, stand_grp hg0.1 hg0.2]
      simp only
      rw [if_neg (by have := hR.1; omega)]
      have e3 : usedOf acc + g.many = usedOf (acc ++ [g]) := by rw [usedOf_app]; simp [usedOf]
      have e4 : acc ++ g :: rem = (acc ++ [g]) ++ rem := by simp
      rw [e3, e4]
      rw [e4] at hr
      exact opn_parse rem (acc ++ [g]) f (by simp at hf; omega) (fun x hx => hg x (List.mem_cons_of_mem _ hx)) (by rw [lastOf_app]; exact hR.2) hr
theorem opened_parse {l : List Grp} {rest : List (List UInt8)} (hg : ∀ g ∈ l, (1 ≤ g.n ∧ g.n ≤ maxN) ∧ g.b.length < 4294967296) (hR : Rise 0 l) (hr : ∀ g, stand rest [] 0 = some g → g.n ≤ lastOf l) : opened (gsb l ++ rest) = l := by
  have hl := usedOf_len l
  have := opn_parse (rest := rest) l [] ((gsb l ++ rest).length + 1) (by rw [List.length_append, gsb_len]; omega) hg hR hr
  exact this
theorem rise_grps (s : Nat) : ∀ (H : List (List UInt8)) (n : Nat), n < s → Rise n (grps s H) := by
  have key : ∀ (H : List (List UInt8)) (n s : Nat), n < s → Rise n (grps s H) := by
    intro H
    induction H with
    | nil => intro n s _; exact trivial
    | cons b H ih =>
      intro n s hn
      have e : grps s (b :: H) = ⟨s, b⟩ :: grps (s + 1) H := by
        simp only [grps, List.mapIdx_cons]
        congr 1
        apply List.mapIdx_eq_mapIdx_iff.2
        intro i hi
        simp only [Grp.mk.injEq, and_true]
        omega
      rw [e]
      exact ⟨hn, ih s (s + 1) (by omega)⟩
  exact fun H n hn => key H n s hn
theorem grps_mem {s : Nat} {H : List (List UInt8)} {g : Grp} (h : g ∈ grps s H) : s ≤ g.n ∧ g.n < s + H.length ∧ g.b ∈ H := by
  simp only [grps, List.mem_mapIdx] at h
  obtain ⟨i, hi, rfl⟩ := h
  exact ⟨by show s ≤ s + i; omega, by show s + i < _; omega, List.getElem_mem hi⟩
theorem great_mem {l : List (List UInt8)} {n : Nat} (h : ∀ b ∈ l, numd b ≤ n) : great l ≤ n := by
  have : ∀ (l : List (List UInt8)) (m : Nat), m ≤ n → (∀ b ∈ l, numd b ≤ n) → l.foldl (fun n b => max n (numd b)) m ≤ n := by
    intro l
    induction l with
    | nil => intro m hm _; exact hm
    | cons b l ih => intro m hm hb; exact ih _ (by have := hb b List.mem_cons_self; show max m (numd b) ≤ n; omega) (fun c hc => hb c (List.mem_cons_of_mem _ hc))
  exact this l 0 (Nat.zero_le _) h
theorem great_ge {l : List (List UInt8)} {b : List UInt8} (h : b ∈ l) : numd b ≤ great l := by
  have mono : ∀ (l : List (List UInt8)) (m : Nat), m ≤ l.foldl (fun n b => max n (numd b)) m := by
    intro l
    induction l with
    | nil => intro m; exact Nat.le_refl _
    | cons b l ih => intro m; exact Nat.le_trans (Nat.le_max_left m (numd b)) (ih _)
  have : ∀ (l : List (List UInt8)) (m : Nat), b ∈ l → numd b ≤ l.foldl (fun n b => max n (numd b)) m := by
    intro l
    induction l with
    | nil => intro m h; cases h
    | cons c l ih =>
      intro m h
      rcases List.mem_cons.1 h with rfl | h
      · exact Nat.le_trans (Nat.le_max_right m (numd b)) (mono _ _)
      · exact ih _ h
  exact this l 0 h
theorem numd_dblocks : ∀ (n : Nat) (r : List UInt8), r.length ≤ n → ∀ b ∈ dblocks r, numd b = 0
  | n, r, hn, b, hb => by
    by_cases h : r = []
    · subst h; rw [dblocks_nil] at hb; cases hb
    · have hp : 0 < r.length := List.length_pos_iff.2 h
      cases n with
      | zero => omega
      | succ n =>
        rw [dblocks_cons h] at hb
        rcases List.mem_cons.1 hb with rfl | hb
        · exact numd_data _
        · exact numd_dblocks n (r.drop 119) (by rw [List.length_drop]; omega) b hb
theorem numd_gblocks {g : Grp} (h1 : 1 ≤ g.n) (h2 : g.n ≤ maxN) {b : List UInt8} (hb : b ∈ gblocks g) : numd b ≤ g.n := by
  rcases List.mem_append.1 hb with hb | hb
  · rw [numd_dblocks _ _ (Nat.le_refl _) b hb]; exact Nat.zero_le _
  · simp at hb; subst hb; rw [numd_ended _ h1 h2]; exact Nat.le_refl _
/-- all blocks are the area -/
theorem area_all {D : Dev} (hd : D.down = false) : area D 0 D.cells.length = D.all := by
  unfold area Dev.all
  rw [hd]
  simp
end Go.Proofs.Ytegjocpjmfaigaa
