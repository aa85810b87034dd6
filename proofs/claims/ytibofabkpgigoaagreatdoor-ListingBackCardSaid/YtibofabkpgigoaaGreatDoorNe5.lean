/- A listing's text, and back: plain laws. -/
import Derived.Test.YtibofabkpgigoaaGreatDoorNd5
import Derived.Test.YtibofabkpgigoaaGreatDoorNe1
set_option linter.unusedSimpArgs false
set_option linter.unusedVariables false
namespace Go.Proofs.YtibofabkpgigoaaGreatDoor
open Go.En

theorem hd1_line {l : Bs} (t : Bs) (h : (10 : UInt8) ∉ l) : hd1 (l ++ 10 :: t) = (l ++ [10], t) := by
  unfold hd1
  rw [ib_app l t 10 h, if_pos (by omega)]
  rw [Int.toNat_natCast]
  rw [show l ++ 10 :: t = (l ++ [10]) ++ t by simp]
  rw [List.take_left' (by simp), List.drop_left' (by simp)]
theorem lns_line {l : Bs} (t : Bs) (h : (10 : UInt8) ∉ l) : lns (l ++ [10] ++ t) = (l ++ [10]) :: lns t := by
  have e : l ++ [10] ++ t = l ++ 10 :: t := by simp
  rw [e, lns_cons (by simp), hd1_line t h]
/-- a line of a listing's text -/
def ln1 (x : Li) : Bs := hex x.2.1 ++ 32 :: x.1 ++ [10]
/-- a listing's text -/
def txt (d : List Li) : Bs := if chk d = true then (d.map ln1).flatten else []
def prs1 (l : Bs) : Option Li :=
  if unhE (Lib.cut (Lib.trimSuffix l [10]) [32]).1 = 0 then some ((Lib.cut (Lib.trimSuffix l [10]) [32]).2.1, ⟨unhV (Lib.cut (Lib.trimSuffix l [10]) [32]).1, unhV_len _⟩) else none
def prsL : List Bs → Option (List Li)
  | [] => some []
  | l :: r => match prs1 l, prsL r with
    | some x, some m => some (x :: m)
    | _, _ => none
/-- a text's listing -/
def prs (s : Bs) : Option (List Li) := match prsL (lns s) with
  | some d => if txt d = s ∧ chk d = true then some d else none
  | none => none
theorem prs_ok {s : Bs} {d : List Li} (h : prs s = some d) : txt d = s ∧ chk d = true := by
  unfold prs at h
  split at h
  · split at h
    · cases h; assumption
    · cases h
  · cases h
theorem cut_hit' (s t : Bs) (c : UInt8) (h : c ∉ s) : Lib.cut (s ++ c :: t) [c] = (s, t, true) := by
  unfold Lib.cut
  rw [Lib.index_one, ib_app s t c h, if_pos (by omega)]
  simp
theorem cut_true {s : Bs} {c : UInt8} (h : (Lib.cut s [c]).2.2 = true) : s = (Lib.cut s [c]).1 ++ c :: (Lib.cut s [c]).2.1 := by
  unfold Lib.cut at h ⊢
  rw [Lib.index_one] at h ⊢
  by_cases e : 0 ≤ Lib.indexByte s c
  · rw [if_pos e]
    have hl := ibx_lt e
    obtain ⟨h1, _⟩ := Lib.indexByte_some (l := s) (c := c) (o := (Lib.indexByte s c).toNat) (by omega)
    rw [List.getElem?_eq_getElem hl] at h1
    have h2 := Option.some.inj h1
    show s = s.take _ ++ c :: s.drop _
    rw [← h2]
    have h3 : s.drop ((Lib.indexByte s c).toNat + [s[(Lib.indexByte s c).toNat]].length) = s.drop ((Lib.indexByte s c).toNat + 1) := rfl
    have h4 := List.drop_eq_getElem_cons hl
    have h5 := List.take_append_drop (Lib.indexByte s c).toNat s
    rw [h4] at h5
    rw [h2] at h5 ⊢
    exact h5.symm
  · rw [if_neg e] at h
    cases h
theorem cut_false {s : Bs} {c : UInt8} (h : (Lib.cut s [c]).2.2 = false) : (Lib.cut s [c]).1 = s := by
  unfold Lib.cut at h ⊢
  split at h
  · cases h
  · rename_i e
    rw [if_neg e]
theorem cut_len (s p : Bs) : (Lib.cut s p).2.1.length ≤ s.length ∧ (Lib.cut s p).1.length ≤ s.length := by
  unfold Lib.cut
  split
  · constructor
    · show (s.drop _).length ≤ _
      rw [List.length_drop]; omega
    · show (s.take _).length ≤ _
      rw [List.length_take]; omega
  · exact ⟨Nat.zero_le _, Nat.le_refl _⟩
theorem trim_len (s p : Bs) : (Lib.trimSuffix s p).length ≤ s.length := by
  unfold Lib.trimSuffix
  split
  · rw [List.length_take]; omega
  · exact Nat.le_refl _
theorem trim_line (l : Bs) : Lib.trimSuffix (l ++ [10]) [10] = l := by
  unfold Lib.trimSuffix
  have : Lib.hasSuffix (l ++ [10]) [10] = true := by
    unfold Lib.hasSuffix
    rw [List.isSuffixOf_iff_suffix]
    exact List.suffix_append _ _
  rw [if_pos this]
  simp
theorem dig_isD {i : Nat} : isD (dig.getD i 0) = true ∨ dig.getD i 0 = 0 := by
  by_cases h : i < 16
  · exact .inl (dgv_dig h).2
  · right
    rw [List.getD_eq_getElem?_getD, List.getElem?_eq_none (by show dig.length ≤ i; have : dig.length = 16 := rfl; omega)]
    rfl
theorem hex_isD (id : Bs) : ∀ x ∈ hex id, isD x = true := by
  intro x hx
  unfold hex at hx
  obtain ⟨l, hl, hx⟩ := List.mem_flatten.1 hx
  obtain ⟨c, _, rfl⟩ := List.mem_map.1 hl
  have hb := c.toNat_lt
  have hx : x ∈ [dig.getD (c.toNat / 16) 0, dig.getD (c.toNat % 16) 0] := hx
  rcases List.mem_cons.1 hx with rfl | hx
  · exact (dgv_dig (by omega)).2
  · rw [List.mem_singleton.1 hx]
    exact (dgv_dig (by omega)).2
theorem hex_no {c : UInt8} (h : isD c = false) (id : Bs) : c ∉ hex id := fun hm => by
  rw [hex_isD id c hm] at h
  cases h
theorem brk_may {s : Bs} (h : brk s = 0) : ∀ c ∈ s, may c = true := by
  have h1 := brkF_0 s 8 0 h 1 (by omega) (by omega)
  simp only [rul] at h1
  rw [List.any_eq_false] at h1
  intro c hc
  have := h1 c hc
  simpa using this
theorem ent_no10 {x : Li} (h : (ent x).2.2 = true) : (10 : UInt8) ∉ x.1 := by
  unfold ent at h
  simp only [Bool.and_eq_true, decide_eq_true_eq] at h
  have h0 := h.1
  unfold spN at h0
  split at h0
  · simp at h0
  · rename_i hn
    have hn : ¬ ((Lib.cut x.1 [126]).2.2 = true ∧ unhE (Lib.cut x.1 [126]).2.1 ≠ 0) ∧ nmE (Lib.cut x.1 [126]).1 = 0 := by
      constructor
      · exact fun h => hn (.inl h)
      · exact Decidable.byContradiction fun h => hn (.inr h)
    have hb : brk (Lib.cut x.1 [126]).1 = 0 := by
      have := hn.2
      unfold nmE at this
      split at this
      · assumption
      · cases this
    have hm := brk_may hb
    have h1 : (10 : UInt8) ∉ (Lib.cut x.1 [126]).1 := fun hc => by
      have := hm 10 hc
      revert this
      decide
    cases hc : (Lib.cut x.1 [126]).2.2
    · rw [cut_false hc] at h1
      exact h1
    · have hu : unhE (Lib.cut x.1 [126]).2.1 = 0 := Decidable.byContradiction fun h => hn.1 ⟨hc, h⟩
      have hs := cut_true hc
      have h2 : (10 : UInt8) ∉ (Lib.cut x.1 [126]).2.1 := by
        have hs : (unhex (Lib.cut x.1 [126]).2.1).isSome = true := by
          unfold unhE at hu
          split at hu
          · assumption
          · cases hu
        unfold unhex at hs
        split at hs
        · rename_i hu
          intro hm
          have := List.all_eq_true.1 hu.2 10 hm
          revert this
          decide
        · cases hs
      rw [hs]
      intro hm
      rcases List.mem_append.1 hm with hm | hm
      · exact h1 hm
      · rcases List.mem_cons.1 hm with hm | hm
        · revert hm; decide
        · exact h2 hm
theorem prs1_ln1 {x : Li} (h : (10 : UInt8) ∉ x.1) : prs1 (ln1 x) = some x := by
  have e : Lib.cut (Lib.trimSuffix (ln1 x) [10]) [32] = (hex x.2.1, x.1, true) := by
    unfold ln1
    rw [trim_line, cut_hit' _ _ 32 (hex_no (by decide) _)]
  unfold prs1
  rw [if_pos (by rw [e]; exact unhE_hex x.2)]
  congr 1
  refine Prod.ext (congrArg (fun c => c.2.1) e) (Subtype.ext ?_)
  show unhV _ = _
  rw [e]
  exact unhV_hex x.2
theorem lns_txt : ∀ (d : List Li), (∀ x ∈ d, (10 : UInt8) ∉ x.1) → lns (d.map ln1).flatten = d.map ln1
  | [], _ => rfl
  | x :: d, h => by
    have ih := lns_txt d fun y hy => h y (List.mem_cons_of_mem _ hy)
    rw [List.map_cons, List.flatten_cons]
    have e : ln1 x = (hex x.2.1 ++ 32 :: x.1) ++ [10] := by unfold ln1; simp
    rw [e, lns_line _ fun hm => ?_, ih]
    rcases List.mem_append.1 hm with hm | hm
    · exact hex_no (by decide) _ hm
    · rcases List.mem_cons.1 hm with hm | hm
      · revert hm; decide
      · exact h x List.mem_cons_self hm
theorem prsL_txt : ∀ (d : List Li), (∀ x ∈ d, (10 : UInt8) ∉ x.1) → prsL (d.map ln1) = some d
  | [], _ => rfl
  | x :: d, h => by
    rw [List.map_cons]
    unfold prsL
    rw [prs1_ln1 (h x List.mem_cons_self), prsL_txt d fun y hy => h y (List.mem_cons_of_mem _ hy)]
theorem chk_ent {d : List Li} (h : chk d = true) : ∀ x ∈ d, (ent x).2.2 = true := by
  unfold chk at h
  simp only [Bool.and_eq_true, List.all_eq_true] at h
  exact h.2.1
/-- a listing is read from its text as it was -/
theorem prs_txt {d : List Li} (h : chk d = true) : prs (txt d) = some d := by
  have e : txt d = (d.map ln1).flatten := by unfold txt; rw [if_pos h]
  have hn : ∀ x ∈ d, (10 : UInt8) ∉ x.1 := fun x hx => ent_no10 (chk_ent h x hx)
  unfold prs
  rw [show lns (txt d) = d.map ln1 by rw [e]; exact lns_txt d hn, prsL_txt d hn]
  show (if txt d = txt d ∧ chk d = true then some d else none) = _
  rw [if_pos ⟨rfl, h⟩]
end Go.Proofs.YtibofabkpgigoaaGreatDoor
