/- A listing's text, and back: plain laws. -/
import Derived.Test.YtibofabkpgigoaaGreatDoorNd5
import Derived.Test.YtibofabkpgigoaaGreatDoorNe4
import Derived.Test.YtibofabkpgigoaaGreatDoorNb6
import Derived.Test.YtibofabkpgigoaaGreatDoorNd6
set_option linter.unusedSimpArgs false
set_option linter.unusedVariables false
namespace Go.Proofs.YtibofabkpgigoaaGreatDoor
open Go.En

theorem hd1_line {l : Bs} (t : Bs) (h : (10 : UInt8) ∉ l) : hd1 (l ++ 10 :: t) = (l ++ [10], t) := by
  unfold hd1
  rw [ib_app l t 10 h, if_pos (by omega)]
  rw [Int.toNat_natCast]
  rw [show l ++ 10 :: t = (l ++ [10]) ++ t by simp]
  rw [List.take_left' (by simp), List.drop_left' (by simp)]
theorem lns_line {l : Bs} (t : Bs) (h : (10 : UInt8) ∉ l) : lns (l ++ [10] ++ t) = (l ++ [10]) :: lns t := by
  have e : l ++ [10] ++ t = l ++ 10 :: t := by simp
  rw [e, lns_cons (by simp), hd1_line t h]
/-- a line of a listing's text -/
def ln1 (x : Li) : Bs := hex x.2.1 ++ 32 :: x.1 ++ [10]
/-- a listing's text -/
def txt (d : List Li) : Bs := if chk d = true then (d.map ln1).flatten else []
def prs1 (l : Bs) : Option Li :=
  if unhE (Lib.cut (Lib.trimSuffix l [10]) [32]).1 = 0 then some ((Lib.cut (Lib.trimSuffix l [10]) [32]).2.1, ⟨unhV (Lib.cut (Lib.trimSuffix l [10]) [32]).1, unhV_len _⟩) else none
def prsL : List Bs → Option (List Li)
  | [] => some []
  | l :: r => match prs1 l, prsL r with
    | some x, some m => some (x :: m)
    | _, _ => none
/-- a text's listing -/
def prs (s : Bs) : Option (List Li) := match prsL (lns s) with
  | some d => if txt d = s ∧ chk d = true then some d else none
  | none => none
theorem prs_ok {s : Bs} {d : List Li} (h : prs s = some d) : txt d = s ∧ chk d = true := by
  unfold prs at h
  split at h
  · split at h
    · cases h; assumption
    · cases h
  · cases h
theorem cut_hit' (s t : Bs) (c : UInt8) (h : c ∉ s) : Lib.cut (s ++ c :: t) [c] = (s, t, true) := by
  unfold Lib.cut
  rw [Lib.index_one, ib_app s t c h, if_pos (by omega)]
  simp
theorem cut_true {s : Bs} {c : UInt8} (h : (Lib.cut s [c]).2.2 = true) : s = (Lib.cut s [c]).1 ++ c :: (Lib.cut s [c]).2.1 := by
  unfold Lib.cut at h ⊢
  rw [Lib.index_one] at h ⊢
  by_cases e : 0 ≤ Lib.indexByte s c
  · rw [if_pos e]
    have hl := ibx_lt e
    obtain ⟨h1, _⟩ := Lib.indexByte_some (l := s) (c := c) (o := (Lib.indexByte s c).toNat) (by omega)
    rw [List.getElem?_eq_getElem hl] at h1
    have h2 := Option.some.inj h1
    show s = s.take _ ++ c :: s.drop _
    rw [← h2]
    have h3 : s.drop ((Lib.indexByte s c).toNat + [s[(Lib.indexByte s c).toNat]].length) = s.drop ((Lib.indexByte s c).toNat + 1) := rfl
    have h4 := List.drop_eq_getElem_cons hl
    have h5 := List.take_append_drop (Lib.indexByte s c).toNat s
    rw [h4] at h5
    rw [h2] at h5 ⊢
    exact h5.symm
  · rw [if_neg e] at h
    cases h
theorem cut_false {s : Bs} {c : UInt8} (h : (Lib.cut s [c]).2.2 = false) : (Lib.cut s [c]).1 = s := by
  unfold Lib.cut at h ⊢
  split at h
  · cases h
  · rename_i e
    rw [if_neg e]
theorem cut_len (s p : Bs) : (Lib.cut s p).2.1.length ≤ s.length ∧ (Lib.cut s p).1.length ≤ s.length := by
  unfold Lib.cut
  split
  · constructor
    · show (s.drop _).length ≤ _
      rw [List.length_drop]; omega
    · show (s.take _).length ≤ _
      rw [List.length_take]; omega
  · exact ⟨Nat.zero_le _, Nat.le_refl _⟩
theorem trim_len (s p : Bs) : (Lib.trimSuffix s p).length ≤ s.length := by
  unfold Lib.trimSuffix
  split
  · rw [List.length_take]; omega
  · exact Nat.le_refl _
theorem trim_line (l : Bs) : Lib.trimSuffix (l ++ [10]) [10] = l := by
  unfold Lib.trimSuffix
  have : Lib.hasSuffix (l ++ [10]) [10] = true := by
    unfold Lib.hasSuffix
    rw [List.isSuffixOf_iff_suffix]
    exact List.suffix_append _ _
  rw [if_pos this]
  simp
theorem dig_isD {i : Nat} : isD (dig.getD i 0) = true ∨ dig.getD i 0 = 0 := by
  by_cases h : i < 16
  · exact .inl (dgv_dig h).2
  · right
    rw [List.getD_eq_getElem?_getD, List.getElem?_eq_none (by show dig.length ≤ i; have : dig.length = 16 := rfl; omega)]
    rfl
theorem hex_isD (id : Bs) : ∀ x ∈ hex id, isD x = true := by
  intro x hx
  unfold hex at hx
  obtain ⟨l, hl, hx⟩ := List.mem_flatten.1 hx
  obtain ⟨c, _, rfl⟩ := List.mem_map.1 hl
  have hb := c.toNat_lt
  have hx : x ∈ [dig.getD (c.toNat / 16) 0, dig.getD (c.toNat % 16) 0] := hx
  rcases List.mem_cons.1 hx with rfl | hx
  · exact (dgv_dig (by omega)).2
  · rw [List.mem_singleton.1 hx]
    exact (dgv_dig (by omega)).2
theorem hex_no {c : UInt8} (h : isD c = false) (id : Bs) : c ∉ hex id := fun hm => by
  rw [hex_isD id c hm] at h
  cases h
theorem brk_may {s : Bs} (h : brk s = 0) : ∀ c ∈ s, may c = true := by
  have h1 := brkF_0 s 8 0 h 1 (by omega) (by omega)
  simp only [rul] at h1
  rw [List.any_eq_false] at h1
  intro c hc
  have := h1 c hc
  simpa using this
theorem ent_no10 {x : Li} (h : (ent x).2.2 = true) : (10 : UInt8) ∉ x.1 := by
  unfold ent at h
  simp only [Bool.and_eq_true, decide_eq_true_eq] at h
  have h0 := h.1
  unfold spN at h0
  split at h0
  · simp at h0
  · rename_i hn
    have hn : ¬ ((Lib.cut x.1 [126]).2.2 = true ∧ unhE (Lib.cut x.1 [126]).2.1 ≠ 0) ∧ nmE (Lib.cut x.1 [126]).1 = 0 := by
      constructor
      · exact fun h => hn (.inl h)
      · exact Decidable.byContradiction fun h => hn (.inr h)
    have hb : brk (Lib.cut x.1 [126]).1 = 0 := by
      have := hn.2
      unfold nmE at this
      split at this
      · assumption
      · cases this
    have hm := brk_may hb
    have h1 : (10 : UInt8) ∉ (Lib.cut x.1 [126]).1 := fun hc => by
      have := hm 10 hc
      revert this
      decide
    cases hc : (Lib.cut x.1 [126]).2.2
    · rw [cut_false hc] at h1
      exact h1
    · have hu : unhE (Lib.cut x.1 [126]).2.1 = 0 := Decidable.byContradiction fun h => hn.1 ⟨hc, h⟩
      have hs := cut_true hc
      have h2 : (10 : UInt8) ∉ (Lib.cut x.1 [126]).2.1 := by
        have hs : (unhex (Lib.cut x.1 [126]).2.1).isSome = true := by
          unfold unhE at hu
          split at hu
          · assumption
          · cases hu
        unfold unhex at hs
        split at hs
        · rename_i hu
          intro hm
          have := List.all_eq_true.1 hu.2 10 hm
          revert this
          decide
        · cases hs
      rw [hs]
      intro hm
      rcases List.mem_append.1 hm with hm | hm
      · exact h1 hm
      · rcases List.mem_cons.1 hm with hm | hm
        · revert hm; decide
        · exact h2 hm
theorem prs1_ln1 {x : Li} (h : (10 : UInt8) ∉ x.1) : prs1 (ln1 x) = some x := by
  have e : Lib.cut (Lib.trimSuffix (ln1 x) [10]) [32] = (hex x.2.1, x.1, true) := by
    unfold ln1
    rw [trim_line, cut_hit' _ _ 32 (hex_no (by decide) _)]
  unfold prs1
  rw [if_pos (by rw [e]; exact unhE_hex x.2)]
  congr 1
  refine Prod.ext (congrArg (fun c => c.2.1) e) (Subtype.ext ?_)
  show unhV _ = _
  rw [e]
  exact unhV_hex x.2
theorem lns_txt : ∀ (d : List Li), (∀ x ∈ d, (10 : UInt8) ∉ x.1) → lns (d.map ln1).flatten = d.map ln1
  | [], _ => rfl
  | x :: d, h => by
    have ih := lns_txt d fun y hy => h y (List.mem_cons_of_mem _ hy)
    rw [List.map_cons, List.flatten_cons]
    have e : ln1 x = (hex x.2.1 ++ 32 :: x.1) ++ [10] := by unfold ln1; simp
    rw [e, lns_line _ fun hm => ?_, ih]
    rcases List.mem_append.1 hm with hm | hm
    · exact hex_no (by decide) _ hm
    · rcases List.mem_cons.1 hm with hm | hm
      · revert hm; decide
      · exact h x List.mem_cons_self hm
theorem prsL_txt : ∀ (d : List Li), (∀ x ∈ d, (10 : UInt8) ∉ x.1) → prsL (d.map ln1) = some d
  | [], _ => rfl
  | x :: d, h => by
    rw [List.map_cons]
    unfold prsL
    rw [prs1_ln1 (h x List.mem_cons_self), prsL_txt d fun y hy => h y (List.mem_cons_of_mem _ hy)]
theorem chk_ent {d : List Li} (h : chk d = true) : ∀ x ∈ d, (ent x).2.2 = true := by
  unfold chk at h
  simp only [Bool.and_eq_true, List.all_eq_true] at h
  exact h.2.1
/-- a listing is read from its text as it was -/
theorem prs_txt {d : List Li} (h : chk d = true) : prs (txt d) = some d := by
  have e : txt d = (d.map ln1).flatten := by unfold txt; rw [if_pos h]
  have hn : ∀ x ∈ d, (10 : UInt8) ∉ x.1 := fun x hx => ent_no10 (chk_ent h x hx)
  unfold prs
  rw [show lns (txt d) = d.map ln1 by rw [e]; exact lns_txt d hn, prsL_txt d hn]
  show (if txt d = txt d ∧ chk d = true then some d else none) = _
  rw [if_pos ⟨rfl, h⟩]
end Go.Proofs.YtibofabkpgigoaaGreatDoor
namespace Go.Proofs.YtibofabkpgigoaaGreatDoor
open Go.En

section
variable {w w0 : World} {S0 : Nat → Prop} {L B : List Res} {K : Value → World → Prop} {s : Bs} {E0 E1 : Nat}
theorem flen_le (d : List Li) (k : Nat) : ((d.take k).map ln1).flatten.length ≤ (d.map ln1).flatten.length := by
  have := congrArg List.length (congrArg List.flatten (congrArg (List.map ln1) (List.take_append_drop k d)))
  rw [List.map_append, List.flatten_append, List.length_append] at this
  omega
set_option maxHeartbeats 4000000 in
theorem b_TextL {d : List Li} {v : Value} {n : Nat} (hd : d.length = n) (hn : n < 2000000) (hlen : ∀ x ∈ d, x.1.length < 4294967281) (htot : (d.map ln1).flatten.length < 4294967281) (hg : Gl w) (hr : Rd v E0 33 n (fl lc d) w)
    (h : ∀ w', St w (fun _ => False) w' [] → K (sv (txt d)) w') : CK Tryz.prog 11 [v] w K := by
  have hS := St.nil w (fun _ => False)
  have hrr : ∀ {L : List Res} (w' : World), St w (fun _ => False) w' L → Rd v E0 33 n (fl lc d) w' := fun w' hS => hr.same fun b hb => hS.fr.kept b (hr.lt b hb) (fun h => h)
  obtain ⟨a, c, rfl⟩ := hr.form
  refine call_k Tryz.func11 k11 Tryz.ntmps11 (Nat.le_of_ble_eq_true rfl) ?_
  (repeat (first | refine g_sq ?_ | refine g_rg ?_ | refine g_r0 ?_ | refine g_ok rfl rfl ?_ | refine g_no rfl ?_ | refine g_no0 rfl ?_ | refine g_bk ?_ | refine g_b ?_ | refine g_sk ?_ | refine g_cT rfl ?_ | refine g_cF rfl ?_ | refine g_x rfl ?_ | refine g_lb ?_))
  refine g_cl rfl rfl (b_CheckL hd hn hlen hg hr fun w1 hS => ?_)
  cases hck : chk d
  · have e1 : eE d = 200 := by unfold eE; rw [if_neg (by rw [hck]; decide)]
    have e2 : txt d = [] := by unfold txt; rw [if_neg (by rw [hck]; decide)]
    rw [e1]
    rw [e2] at h
    (repeat (first | refine g_sq ?_ | refine g_rg ?_ | refine g_r0 ?_ | refine g_ok rfl rfl ?_ | refine g_no rfl ?_ | refine g_no0 rfl ?_ | refine g_bk ?_ | refine g_b ?_ | refine g_sk ?_ | refine g_cT rfl ?_ | refine g_cF rfl ?_ | refine g_x rfl ?_ | refine g_lb ?_))
    exact g_ret (q_1 rfl (h _ hS))
  · have e1 : eE d = 0 := by unfold eE; rw [if_pos hck]
    have e2 : txt d = (d.map ln1).flatten := by unfold txt; rw [if_pos hck]
    rw [e1]
    rw [e2] at h
    (repeat (first | refine g_sq ?_ | refine g_rg ?_ | refine g_r0 ?_ | refine g_ok rfl rfl ?_ | refine g_no rfl ?_ | refine g_no0 rfl ?_ | refine g_bk ?_ | refine g_b ?_ | refine g_sk ?_ | refine g_cT rfl ?_ | refine g_cF rfl ?_ | refine g_x rfl ?_ | refine g_lb ?_))
    refine g_ef rfl (ef_al hS fun b3 w1 hS => ?_)
    replace hS := hS.nilrow 5 1
    (repeat (first | refine g_sq ?_ | refine g_rg ?_ | refine g_r0 ?_ | refine g_ok rfl rfl ?_ | refine g_no rfl ?_ | refine g_no0 rfl ?_ | refine g_bk ?_ | refine g_b ?_ | refine g_sk ?_ | refine g_cT rfl ?_ | refine g_cF rfl ?_ | refine g_x rfl ?_ | refine g_lb ?_))
    refine g_lp (ι := Nat × Value × Value) (fun x => [(0, .slice a n c), (3, dp b3), (9, .slice a n c), (10, .int .i64 n), (11, .int .i64 x.1)])
      (fun x w' => x.1 ≤ n ∧ (x.2.1 = .pointer none ∨ x.2.1 = dp b3) ∧ (((d.take x.1).map ln1).flatten = [] → x.2.2 = .slice none 0 0) ∧
        St w (fun _ => False) w' [cel b3 [x.2.1, x.2.2] 78, row x.2.2 5 1 ((d.take x.1).map ln1).flatten.length (bys ((d.take x.1).map ln1).flatten)]) (fun x => n - x.1) (0, .pointer none, .slice none 0 0)
      ⟨rfl, rfl, rfl, rfl, rfl, trivial⟩ ⟨Nat.zero_le _, .inl rfl, fun _ => rfl, hS⟩ ?_
    clear hS
    rintro ⟨k, p, vb⟩ w1 ⟨hk, hp, hnil, hS⟩
    dsimp only at hk hp hnil hS ⊢
    (repeat (first | refine g_sq ?_ | refine g_rg ?_ | refine g_r0 ?_ | refine g_ok rfl rfl ?_ | refine g_no rfl ?_ | refine g_no0 rfl ?_ | refine g_bk ?_ | refine g_b ?_ | refine g_sk ?_ | refine g_cT rfl ?_ | refine g_cF rfl ?_ | refine g_x rfl ?_ | refine g_lb ?_))
    (refine g_cd rfl (fun hlt => ?_) (fun hlt => ?_) <;> simp only [cmv, arv, Bool.not_eq_true', Bool.not_eq_false', decide_eq_true_eq, decide_eq_false_iff_not] at hlt)
    · have hlt : k < n := by omega
      obtain ⟨b, off, cap, l, e1, hcap, hl, hx, hb⟩ := Rd.block (hrr _ hS) (by omega)
      cases e1
      (repeat (first | refine g_sq ?_ | refine g_rg ?_ | refine g_r0 ?_ | refine g_ok rfl rfl ?_ | refine g_no rfl ?_ | refine g_no0 rfl ?_ | refine g_bk ?_ | refine g_b ?_ | refine g_sk ?_ | refine g_cT rfl ?_ | refine g_cF rfl ?_ | refine g_x rfl ?_ | refine g_lb ?_))
      refine g_rq rfl rfl ⟨by omega, by omega⟩ ?_
      have hbd : off + k * 33 + 33 ≤ l.length := by have : (k + 1) * 33 ≤ c * 33 := Nat.mul_le_mul_right 33 (by omega); omega
      refine g_lmr rfl rfl hb hbd ?_
      rw [Int.toNat_natCast, rd_at lc_len hx hd (show k < d.length by omega)]
      have hst : ((d.take (k + 1)).map ln1).flatten = ((d.take k).map ln1).flatten ++ ln1 (d[k]'(by omega)) := by
        rw [List.take_succ_eq_append_getElem (by omega), List.map_append, List.flatten_append]
        simp
      have hle := flen_le d (k + 1)
      generalize hX : d[k]'(by omega) = X at hst
      have hXl := hlen X (by rw [← hX]; exact List.getElem_mem _)
      rw [hst, List.length_append] at hle
      have hx1 : (ln1 X).length = 64 + 1 + X.1.length + 1 := by
        unfold ln1
        simp only [List.length_append, List.length_cons, hex_len, X.2.2, List.length_nil]
        omega
      refine g_ef rfl (ef_al hS fun b5 w1 hS => ?_)
      have lz : (zx [(1, .string ⟨#[]⟩), (32, .int .u8 0)]).length = 33 := by decide
      refine g_ef0 rfl (ef_st hS 2 rfl rfl rfl (lc_len _) (by rw [lz]; decide) (List.all_eq_true.2 (lc_one _)) fun w1 hS => ?_)
      replace hS := hS.ceq (l' := lc X) 2 rfl (spl_full _ _ (by show (lc X).length = _; rw [lc_len, lz]))
      replace hS : St w (fun _ => False) w1 [cel b3 [p, vb] 78, row vb 5 1 ((d.take k).map ln1).flatten.length (bys ((d.take k).map ln1).flatten), cel b5 (lc X) 41] := hS
      (repeat (first | refine g_sq ?_ | refine g_rg ?_ | refine g_r0 ?_ | refine g_ok rfl rfl ?_ | refine g_no rfl ?_ | refine g_no0 rfl ?_ | refine g_bk ?_ | refine g_b ?_ | refine g_sk ?_ | refine g_cT rfl ?_ | refine g_cF rfl ?_ | refine g_x rfl ?_ | refine g_lb ?_))
      refine g_dr mixed ?_
      replace hS := hS.drew
      have l2 : (bys X.2.1).length = 32 := ic_len X.2
      have d2 : ((lc X).drop 1).take 32 = bys X.2.1 := by
        show (bys X.2.1).take 32 = _
        rw [List.take_of_length_le (Nat.le_of_eq l2)]
      (repeat (first | refine d_ok rfl rfl rfl ?_ | refine d_no rfl rfl ?_))
      refine d_lm rfl rfl rfl (hS.b 2 rfl) (by rw [lc_len]; decide) ?_
      rw [show ((lc X).drop (0 + 1)).take 32 = bys X.2.1 from d2]
      (repeat (first | refine d_ok rfl rfl rfl ?_ | refine d_no rfl rfl ?_))
      refine d_l1 rfl rfl rfl (hS.b 2 rfl) rfl ?_
      refine d_cl rfl rfl rfl (b_Text X.2.2 fun w1 h' => ?_)
      replace hS := hS.call0.2 _ _ h'
      rw [List.append_nil] at hS
      refine ⟨rc_1 rfl rfl rfl rfl (hS.b 2 rfl) rfl rc_0, ?_⟩
      refine d_rq rfl rfl rfl (by simp [Lib.size_eq, hex_len, X.2.2]) ?_
      refine d_rq rfl rfl rfl (by simp [Lib.size_eq, hex_len, X.2.2]; omega) ?_
      refine d_rq rfl rfl rfl (by simp [Lib.size_eq, hex_len, X.2.2]; omega) ?_
      have es : (.string ((⟨(hex X.2.1).toArray⟩ : ByteArray) ++ ⟨#[32]⟩ ++ ⟨X.1.toArray⟩ ++ ⟨#[10]⟩) : Value) = sv (ln1 X) := by
        rw [← sv_of]
        congr 1
        simp [ln1]
      have hF := St.frame (A := [cel b3 [p, vb] 78, row vb 5 1 ((d.take k).map ln1).flatten.length (bys ((d.take k).map ln1).flatten)]) (B := [cel b5 (lc X) 41]) hS
      refine d_cl (vs := [dp b3, sv (ln1 X)]) rfl rfl (by rw [← es]; rfl) (b_WS hp (by omega) hF.1 fun v' w1 h' => ?_)
      replace hS := hF.2 _ _ h'
      refine ⟨rc_0, ?_⟩
      refine d_fin ?_
      (repeat (first | refine g_sq ?_ | refine g_rg ?_ | refine g_r0 ?_ | refine g_ok rfl rfl ?_ | refine g_no rfl ?_ | refine g_no0 rfl ?_ | refine g_bk ?_ | refine g_b ?_ | refine g_sk ?_ | refine g_cT rfl ?_ | refine g_cF rfl ?_ | refine g_x rfl ?_ | refine g_lb ?_))
      refine g_rq rfl rfl (in64 (by simp only [arv]; omega)) ?_
      (repeat (first | refine g_sq ?_ | refine g_rg ?_ | refine g_r0 ?_ | refine g_ok rfl rfl ?_ | refine g_no rfl ?_ | refine g_no0 rfl ?_ | refine g_bk ?_ | refine g_b ?_ | refine g_sk ?_ | refine g_cT rfl ?_ | refine g_cF rfl ?_ | refine g_x rfl ?_ | refine g_lb ?_))
      refine g_l (k + 1, dp b3, v') ⟨rfl, rfl, rfl, rfl, rfl, trivial⟩ ⟨by simp only; omega, .inr rfl, fun e => ?_, ?_⟩ (by simp only; omega)
      · have := congrArg List.length e
        dsimp only at this
        rw [hst, List.length_append, hx1] at this
        simp at this
      · dsimp only
        rw [hst, List.length_append]
        exact hS.sel [0, 1] rfl rfl
    · have ek : k = n := by omega
      subst ek
      rw [List.take_of_length_le (by omega)] at hS hnil
      (repeat (first | refine g_sq ?_ | refine g_rg ?_ | refine g_r0 ?_ | refine g_ok rfl rfl ?_ | refine g_no rfl ?_ | refine g_no0 rfl ?_ | refine g_bk ?_ | refine g_b ?_ | refine g_sk ?_ | refine g_cT rfl ?_ | refine g_cF rfl ?_ | refine g_x rfl ?_ | refine g_lb ?_))
      refine g_cl rfl rfl (b_BS hnil (by omega) hS fun w1 hS => ?_)
      (repeat (first | refine g_sq ?_ | refine g_rg ?_ | refine g_r0 ?_ | refine g_ok rfl rfl ?_ | refine g_no rfl ?_ | refine g_no0 rfl ?_ | refine g_bk ?_ | refine g_b ?_ | refine g_sk ?_ | refine g_cT rfl ?_ | refine g_cF rfl ?_ | refine g_x rfl ?_ | refine g_lb ?_))
      exact g_ret (q_1 rfl (h _ hS))
end
end Go.Proofs.YtibofabkpgigoaaGreatDoor
namespace Go.Proofs.YtibofabkpgigoaaGreatDoor
open Go.En

theorem lnsF_len : ∀ (n : Nat) (s : Bs), (lnsF n s).length ≤ s.length
  | 0, _ => Nat.zero_le _
  | n + 1, s => by
    unfold lnsF
    split
    · exact Nat.zero_le _
    · rename_i h
      have := lnsF_len n (hd1 s).2
      have := hd1_lt h
      rw [List.length_cons]
      omega
theorem ln1_len (x : Li) : (ln1 x).length = 66 + x.1.length := by
  unfold ln1
  simp only [List.length_append, List.length_cons, hex_len, x.2.2, List.length_nil]
  omega
theorem flen_bd {m : Nat} : ∀ d : List Li, (∀ x ∈ d, x.1.length ≤ m) → (d.map ln1).flatten.length ≤ d.length * (66 + m)
  | [], _ => by simp
  | x :: d, h => by
    have := flen_bd d fun y hy => h y (List.mem_cons_of_mem _ hy)
    have := h x List.mem_cons_self
    rw [List.map_cons, List.flatten_cons, List.length_append, ln1_len, List.length_cons, Nat.add_mul]
    omega
theorem prs1_len {l : Bs} {x : Li} (h : prs1 l = some x) : x.1.length ≤ l.length := by
  unfold prs1 at h
  split at h
  · cases h
    exact Nat.le_trans (cut_len _ _).1 (trim_len _ _)
  · cases h
theorem prs1_ok {l : Bs} {ct : Bs × Bs × Bool} (hct : Lib.cut (Lib.trimSuffix l [10]) [32] = ct) (hE : unhE ct.1 = 0) : prs1 l = some (ct.2.1, ⟨unhV ct.1, unhV_len _⟩) := by
  subst hct
  unfold prs1
  rw [if_pos hE]
theorem prs1_no {l : Bs} {ct : Bs × Bs × Bool} (hct : Lib.cut (Lib.trimSuffix l [10]) [32] = ct) (hE : unhE ct.1 ≠ 0) : prs1 l = none := by
  subst hct
  unfold prs1
  rw [if_neg hE]
/-- where the reading stands: what was read, and what is left -/
def psI (s : Bs) (r : Bs) (acc : List Li) : Prop := prsL (lns s) = (prsL (lns r)).map (acc ++ ·) ∧ (∀ x ∈ acc, x.1.length ≤ s.length) ∧ acc.length + r.length ≤ s.length ∧ r.length ≤ s.length
theorem psI_0 (s : Bs) : psI s s [] := by
  refine ⟨?_, ?_, ?_, Nat.le_refl _⟩
  · cases prsL (lns s) <;> rfl
  · intro x hx
    cases hx
  · rw [List.length_nil, Nat.zero_add]
    exact Nat.le_refl _
theorem prsL_some {l : Bs} {r : List Bs} {x : Li} (h : prs1 l = some x) : prsL (l :: r) = (prsL r).map (x :: ·) := by
  rw [prsL, h]
  cases prsL r <;> rfl
theorem prsL_none {l : Bs} {r : List Bs} (h : prs1 l = none) : prsL (l :: r) = none := by rw [prsL, h]
theorem psI_step {s r : Bs} {acc : List Li} {x : Li} (h : psI s r acc) (hr : r ≠ []) (hx : prs1 (hd1 r).1 = some x) : psI s (hd1 r).2 (acc ++ [x]) := by
  obtain ⟨h1, h2, h3, h4⟩ := h
  have hlt := hd1_lt hr
  refine ⟨?_, ?_, ?_, by omega⟩
  · rw [h1, lns_cons hr, prsL_some hx]
    cases prsL (lns (hd1 r).2) with
    | none => rfl
    | some m => simp
  · intro y hy
    rcases List.mem_append.1 hy with hy | hy
    · exact h2 y hy
    · rw [List.mem_singleton.1 hy]
      have := prs1_len hx
      have := hd1_le r
      omega
  · rw [List.length_append, List.length_singleton]
    omega
theorem psI_bad {s r : Bs} {acc : List Li} (h : psI s r acc) (hr : r ≠ []) (hx : prs1 (hd1 r).1 = none) : prs s = none := by
  have h1 := h.1
  rw [lns_cons hr] at h1
  rw [prsL_none hx] at h1
  have h2 : prsL (lns s) = none := h1
  unfold prs
  rw [h2]
theorem psI_end {s : Bs} {acc : List Li} (h : psI s [] acc) : prs s = if txt acc = s ∧ chk acc = true then some acc else none := by
  have h1 := h.1
  rw [lns_nil] at h1
  have h2 : prsL (lns s) = some acc := by rw [h1]; simp [prsL]
  unfold prs
  rw [h2]
end Go.Proofs.YtibofabkpgigoaaGreatDoor
namespace Go.Proofs.YtibofabkpgigoaaGreatDoor
open Go.En

theorem q_cc {P : Program} {a b ta tb ba bb : Nat} {la lb : List Value} {Ea Eb : TypeId} {T : TT} {w : World} {K : Value → World → Prop} {u v : Value} (ht : lk T a = some (dp ba)) (h1 : rdAs P ta none = true) (hb : Blk w ba la Ea) (hv : la[0]? = some v) (ht2 : lk T b = some (dp bb)) (h2 : rdAs P tb none = true) (hb2 : Blk w bb lb Eb) (hu : lb[0]? = some u) (h : K (.tuple ⟨[v, u]⟩) w) : QF P [.cell a ta, .cell b tb] K .ret T [] w :=
  ⟨[_, _], ⟨_, _, [u], ht, run_load1 h1 hb.r hv, ⟨_, _, [], ht2, run_load1 h2 hb2.r hu, rfl, rfl⟩, rfl⟩, h⟩
/-- the error of a text that is to be a listing's -/
def psE (s : Bs) : Int := if (prs s).isSome then 0 else 200
def psL (s : Bs) : List Li := (prs s).getD []
section
variable {w w0 : World} {S0 : Nat → Prop} {L B : List Res} {K : Value → World → Prop} {s : Bs}
set_option maxHeartbeats 4000000 in
theorem b_ParseL (hs : s.length ≤ 60000) (hg : Gl w) (h : ∀ v' w', St w (fun _ => False) w' [row v' 41 33 (psL s).length (fl lc (psL s))] → K (.tuple ⟨[v', .int .i64 (psE s)]⟩) w') : CK Tryz.prog 10 [sv s] w K := by
  have hS := St.nil w (fun _ => False)
  have bad : prs s = none → ∀ w', St w (fun _ => False) w' [] → K (.tuple ⟨[.slice none 0 0, .int .i64 200]⟩) w' := fun e w' hS => by
    have e1 : psE s = 200 := by unfold psE; rw [e]; rfl
    have e2 : psL s = [] := by unfold psL; rw [e]; rfl
    rw [e1, e2] at h
    exact h _ _ (hS.nilrow 41 33)
  refine call_k Tryz.func10 k10 Tryz.ntmps10 (Nat.le_of_ble_eq_true rfl) ?_
  (repeat (first | refine g_sq ?_ | refine g_rg ?_ | refine g_r0 ?_ | refine g_ok rfl rfl ?_ | refine g_no rfl ?_ | refine g_no0 rfl ?_ | refine g_bk ?_ | refine g_b ?_ | refine g_sk ?_ | refine g_cT rfl ?_ | refine g_cF rfl ?_ | refine g_x rfl ?_ | refine g_lb ?_))
  refine g_ef rfl (ef_al hS fun b2 w1 hS => ?_)
  refine g_ef rfl (ef_al hS fun b3 w1 hS => ?_)
  (repeat (first | refine g_sq ?_ | refine g_rg ?_ | refine g_r0 ?_ | refine g_ok rfl rfl ?_ | refine g_no rfl ?_ | refine g_no0 rfl ?_ | refine g_bk ?_ | refine g_b ?_ | refine g_sk ?_ | refine g_cT rfl ?_ | refine g_cF rfl ?_ | refine g_x rfl ?_ | refine g_lb ?_))
  refine g_ef rfl (ef_al hS fun b4 w1 hS => ?_)
  replace hS := hS.nilrow 41 33
  (repeat (first | refine g_sq ?_ | refine g_rg ?_ | refine g_r0 ?_ | refine g_ok rfl rfl ?_ | refine g_no rfl ?_ | refine g_no0 rfl ?_ | refine g_bk ?_ | refine g_b ?_ | refine g_sk ?_ | refine g_cT rfl ?_ | refine g_cF rfl ?_ | refine g_x rfl ?_ | refine g_lb ?_))
  refine g_cl rfl rfl (b_Lines fun bL w1 h' => ?_)
  replace hS := hS.call0.2 _ _ h'
  replace hS : St w (fun _ => False) w1 [cel b2 [.slice none 0 0] 22, cel b3 [.int .i64 0] 25, cel b4 [.slice none 0 0] 22, row (.slice none 0 0) 41 33 0 [], cel bL [sv s] 9] := hS
  clear h'
  refine g_r0 ?_
  refine g_atd 1 [(0, sv s), (2, dp b2), (3, dp b3), (4, dp b4)] (fun D1 w' => ∃ dB, D1 = [⟨.collected dB, #[]⟩] ∧ ∃ a1 c1 acc, psI s [] acc ∧
    St w (fun _ => False) w' [cel b2 [.slice none 0 0] 22, cel b3 [.int .i64 0] 25, cel b4 [.slice a1 acc.length c1] 22, row (.slice a1 acc.length c1) 41 33 acc.length (fl lc acc), obj dB (.deferred (some []))]) rfl ?_ ?_
  · (repeat (first | refine g_sq ?_ | refine g_rg ?_ | refine g_r0 ?_ | refine g_ok rfl rfl ?_ | refine g_no rfl ?_ | refine g_no0 rfl ?_ | refine g_bk ?_ | refine g_b ?_ | refine g_sk ?_ | refine g_cT rfl ?_ | refine g_cF rfl ?_ | refine g_x rfl ?_ | refine g_lb ?_))
    refine g_wkc (T' := [(12, .func (.func 62) ⟨[]⟩ ⟨[dp bL]⟩), (0, sv s), (2, dp b2), (3, dp b3), (4, dp b4)]) ⟨rfl, rfl, rfl, rfl, rfl, trivial⟩ ?_
    refine g_rf (cap := [dp bL]) (first := []) hS rfl (callFunc_of Tryz.func62 rfl rfl) fun l dB w2 hS => ?_
    refine d_Lines (ι := Option Addr × Nat × List Li) (Ls := fun r σ => [cel b2 [.slice none 0 0] 22, cel b3 [.int .i64 0] 25, cel b4 [.slice σ.1 σ.2.2.length σ.2.1] 22, row (.slice σ.1 σ.2.2.length σ.2.1) 41 33 σ.2.2.length (fl lc σ.2.2), cel bL [sv r] 9, obj dB (.deferred (some [])), _])
      (Inv := fun r σ => psI s r σ.2.2) (i := 4) (by omega) (fun r σ => rfl) (fun r r' σ => rfl) (σ0 := (none, 0, [])) (psI_0 s) hS ?_ ?_
    · clear hS
      rintro r hr ⟨a1, c1, acc⟩ w2 hrl hI hS
      dsimp only at hI hS
      refine yd_of hS 6 rfl rfl ?_
      have hle := hd1_le r
      have hil := hI.2.2.1
      have hrp : 0 < r.length := List.length_pos_iff.2 hr
      (repeat (first | refine g_sq ?_ | refine g_rg ?_ | refine g_r0 ?_ | refine g_ok rfl rfl ?_ | refine g_no rfl ?_ | refine g_no0 rfl ?_ | refine g_bk ?_ | refine g_b ?_ | refine g_sk ?_ | refine g_cT rfl ?_ | refine g_cF rfl ?_ | refine g_x rfl ?_ | refine g_lb ?_))
      refine ⟨rfl, _, _, hS, rfl, fun w2 hS => ?_⟩
      (repeat (first | refine g_sq ?_ | refine g_rg ?_ | refine g_r0 ?_ | refine g_ok rfl rfl ?_ | refine g_no rfl ?_ | refine g_no0 rfl ?_ | refine g_bk ?_ | refine g_b ?_ | refine g_sk ?_ | refine g_cT rfl ?_ | refine g_cF rfl ?_ | refine g_x rfl ?_ | refine g_lb ?_))
      refine g_cl rfl rfl (c_TrimSuffix (p := [10]) (by omega) ?_)
      have htl := trim_len (hd1 r).1 [10]
      refine g_cl rfl rfl (c_Cut (p := [32]) (hg.in hS) (by omega) hS fun w2 hS => ?_)
      generalize hct : Lib.cut (Lib.trimSuffix (hd1 r).1 [10]) [32] = ct
      (repeat (first | refine g_sq ?_ | refine g_rg ?_ | refine g_r0 ?_ | refine g_ok rfl rfl ?_ | refine g_no rfl ?_ | refine g_no0 rfl ?_ | refine g_bk ?_ | refine g_b ?_ | refine g_sk ?_ | refine g_cT rfl ?_ | refine g_cF rfl ?_ | refine g_x rfl ?_ | refine g_lb ?_))
      refine g_cl rfl rfl (b_Parse fun w2 h' => ?_)
      replace hS := hS.call0.2 _ _ h'
      rw [List.append_nil] at hS
      (repeat (first | refine g_sq ?_ | refine g_rg ?_ | refine g_r0 ?_ | refine g_ok rfl rfl ?_ | refine g_no rfl ?_ | refine g_no0 rfl ?_ | refine g_bk ?_ | refine g_b ?_ | refine g_sk ?_ | refine g_cT rfl ?_ | refine g_cF rfl ?_ | refine g_x rfl ?_ | refine g_lb ?_))
      have l0 : (bys zid).length = 32 := by rw [bys_length, zid_len]
      have l1 : (bys (unhV ct.1)).length = 32 := by rw [bys_length, unhV_len]
      refine g_ef rfl (ef_al hS fun b9 w2 hS => ?_)
      refine g_ef0 rfl (ef_st hS 7 rfl rfl rfl l1 (Nat.le_of_eq l0.symm) (bys_one _) fun w2 hS => ?_)
      replace hS := hS.ceq (l' := bys (unhV ct.1)) 7 rfl (spl_full _ _ (l1.trans l0.symm))
      (repeat (first | refine g_sq ?_ | refine g_rg ?_ | refine g_r0 ?_ | refine g_ok rfl rfl ?_ | refine g_no rfl ?_ | refine g_no0 rfl ?_ | refine g_bk ?_ | refine g_b ?_ | refine g_sk ?_ | refine g_cT rfl ?_ | refine g_cF rfl ?_ | refine g_x rfl ?_ | refine g_lb ?_))
      by_cases hE : unhE ct.1 = 0
      · have hp : prs1 (hd1 r).1 = some (ct.2.1, ⟨unhV ct.1, unhV_len _⟩) := prs1_ok hct hE
        have hst := psI_step hI hr hp
        rw [hE]
        (repeat (first | refine g_sq ?_ | refine g_rg ?_ | refine g_r0 ?_ | refine g_ok rfl rfl ?_ | refine g_no rfl ?_ | refine g_no0 rfl ?_ | refine g_bk ?_ | refine g_b ?_ | refine g_sk ?_ | refine g_cT rfl ?_ | refine g_cF rfl ?_ | refine g_x rfl ?_ | refine g_lb ?_))
        refine g_l1 rfl rfl (hS.b  2 rfl) rfl ?_
        (repeat (first | refine g_sq ?_ | refine g_rg ?_ | refine g_r0 ?_ | refine g_ok rfl rfl ?_ | refine g_no rfl ?_ | refine g_no0 rfl ?_ | refine g_bk ?_ | refine g_b ?_ | refine g_sk ?_ | refine g_cT rfl ?_ | refine g_cF rfl ?_ | refine g_x rfl ?_ | refine g_lb ?_))
        refine g_lm rfl rfl (hS.b 7 rfl) (Nat.le_of_eq l1.symm) ?_
        rw [List.drop_zero, List.take_of_length_le (Nat.le_of_eq l1)]
        refine g_ok rfl (pev_bd (fill_li (ct.2.1, ⟨unhV ct.1, unhV_len _⟩) rfl rfl)) ?_
        generalize ((ct.2.1, ⟨unhV ct.1, unhV_len _⟩) : Li) = X at hst
        refine g_ef rfl (ef_bl (rs := lc X) hS (evcs_1 rfl (lc_len _)) fun g w2 hS => ?_)
        refine g_ef rfl (ef_ap (n := acc.length) (m := 1) hS 3 rfl rfl rfl (.inl ⟨41, .inr ⟨g, 0, 1, _, rfl, Nat.le_refl _, Nat.le_of_eq (by rw [lc_len]), by rw [List.drop_zero, List.take_of_length_le (Nat.le_of_eq (lc_len _))], (hS.b 8 rfl).r⟩⟩) (List.all_eq_true.2 (lc_one X)) (by omega) (by omega) fun v1 w2 hS => ?_)
        obtain ⟨a2, c2, rfl⟩ := hS.rlen 3 rfl
        refine g_ef0 rfl (ef_st hS 2 rfl rfl rfl rfl (Nat.le_of_ble_eq_true rfl) rfl fun w2 hS => ?_)
        (repeat (first | refine g_sq ?_ | refine g_rg ?_ | refine g_r0 ?_ | refine g_ok rfl rfl ?_ | refine g_no rfl ?_ | refine g_no0 rfl ?_ | refine g_bk ?_ | refine g_b ?_ | refine g_sk ?_ | refine g_cT rfl ?_ | refine g_cF rfl ?_ | refine g_x rfl ?_ | refine g_lb ?_))
        have ets : fl lc acc ++ lc X = fl lc (acc ++ [X]) := by rw [fl_app]; simp [fl]
        have etl : acc.length + 1 = (acc ++ [X]).length := by simp
        rw [ets, etl] at hS
        exact ⟨_, _, hS.sel [0, 1, 2, 3, 4, 5, 6] rfl rfl, rfl, fun w2 hS => .inl ⟨rfl, (a2, c2, acc ++ [X]), hst, hS⟩⟩
      · have hp : prs1 (hd1 r).1 = none := prs1_no hct hE
        have hbad := bad (psI_bad hI hr hp)
        have hE2 : unhE ct.1 = 30 := by
          unfold unhE at hE ⊢
          split
          · rename_i h; rw [if_pos h] at hE; exact absurd rfl hE
          · rfl
        rw [hE2]
        (repeat (first | refine g_sq ?_ | refine g_rg ?_ | refine g_r0 ?_ | refine g_ok rfl rfl ?_ | refine g_no rfl ?_ | refine g_no0 rfl ?_ | refine g_bk ?_ | refine g_b ?_ | refine g_sk ?_ | refine g_cT rfl ?_ | refine g_cF rfl ?_ | refine g_x rfl ?_ | refine g_lb ?_))
        refine g_ef0 rfl (ef_st hS 0 rfl rfl rfl rfl (Nat.le_of_ble_eq_true rfl) rfl fun w2 hS => ?_)
        (repeat (first | refine g_sq ?_ | refine g_rg ?_ | refine g_r0 ?_ | refine g_ok rfl rfl ?_ | refine g_no rfl ?_ | refine g_no0 rfl ?_ | refine g_bk ?_ | refine g_b ?_ | refine g_sk ?_ | refine g_cT rfl ?_ | refine g_cF rfl ?_ | refine g_x rfl ?_ | refine g_lb ?_))
        refine g_ef0 rfl (ef_st hS 1 rfl rfl rfl rfl (Nat.le_of_ble_eq_true rfl) rfl fun w2 hS => ?_)
        (repeat (first | refine g_sq ?_ | refine g_rg ?_ | refine g_r0 ?_ | refine g_ok rfl rfl ?_ | refine g_no rfl ?_ | refine g_no0 rfl ?_ | refine g_bk ?_ | refine g_b ?_ | refine g_sk ?_ | refine g_cT rfl ?_ | refine g_cF rfl ?_ | refine g_x rfl ?_ | refine g_lb ?_))
        refine g_ret ⟨_, _, hS.sel [0, 1, 2, 3, 4, 5, 6] rfl rfl, rfl, fun w2 hS => .inr ⟨rfl, _, 6, _, _, hS, rfl, (fun h => nomatch h), fun w3 hS => ?_⟩⟩
        refine k_ret (q_dr hS 5 rfl fun w hS => ?_)
        exact q_cc rfl (by kernel_rfl) (hS.b 0 rfl) rfl rfl (by kernel_rfl) (hS.b 1 rfl) rfl (hbad _ (hS.sel [] rfl rfl))
    · clear hS
      rintro ⟨a1, c1, acc⟩ w2 hI hS
      dsimp only at hI hS
      refine ⟨_, 6, _, _, hS, rfl, (fun h => nomatch h), fun w2 hS => ?_⟩
      exact g_b (g_jd ⟨rfl, rfl, rfl, rfl, trivial⟩ ⟨dB, rfl, a1, c1, acc, hI, hS.sel [0, 1, 2, 3, 5] rfl rfl⟩)
  · clear hS
    rintro T D1 w1 hT ⟨dB, rfl, a1, c1, acc, hI, hS⟩
    have hend := psI_end hI
    have hal := hI.2.2.1
    rw [List.length_nil] at hal
    have hnl : ∀ x ∈ acc, x.1.length < 4294967281 := fun x hx => by have := hI.2.1 x hx; omega
    have htot : (acc.map ln1).flatten.length < 4294967281 := by
      have h1 := flen_bd acc (m := 60000) fun x hx => by have := hI.2.1 x hx; omega
      have h2 : acc.length * (66 + 60000) ≤ 60000 * (66 + 60000) := Nat.mul_le_mul_right _ (by omega)
      omega
    refine g_wkc hT ?_
    (repeat (first | refine g_sq ?_ | refine g_rg ?_ | refine g_r0 ?_ | refine g_ok rfl rfl ?_ | refine g_no rfl ?_ | refine g_no0 rfl ?_ | refine g_bk ?_ | refine g_b ?_ | refine g_sk ?_ | refine g_cT rfl ?_ | refine g_cF rfl ?_ | refine g_x rfl ?_ | refine g_lb ?_))
    refine g_l1 rfl rfl (hS.b  2 rfl) rfl ?_
    refine g_cl rfl rfl (b_TextL (d := acc) rfl (by omega) hnl htot (hg.in hS) (Ow.rd (hS.ok 3 _ rfl)) fun w1 h' => ?_)
    replace hS := hS.call0.2 _ _ h'
    rw [List.append_nil] at hS
    (repeat (first | refine g_sq ?_ | refine g_rg ?_ | refine g_r0 ?_ | refine g_ok rfl rfl ?_ | refine g_no rfl ?_ | refine g_no0 rfl ?_ | refine g_bk ?_ | refine g_b ?_ | refine g_sk ?_ | refine g_cT rfl ?_ | refine g_cF rfl ?_ | refine g_x rfl ?_ | refine g_lb ?_))
    generalize hq : decide ((⟨(txt acc).toArray⟩ : ByteArray).data.toList = (⟨s.toArray⟩ : ByteArray).data.toList) = q
    have hq2 : decide (txt acc = s) = q := hq
    cases q
    · have hq3 := of_decide_eq_false hq2
      rw [if_neg (fun h => hq3 h.1)] at hend
      (repeat (first | refine g_sq ?_ | refine g_rg ?_ | refine g_r0 ?_ | refine g_ok rfl rfl ?_ | refine g_no rfl ?_ | refine g_no0 rfl ?_ | refine g_bk ?_ | refine g_b ?_ | refine g_sk ?_ | refine g_cT rfl ?_ | refine g_cF rfl ?_ | refine g_x rfl ?_ | refine g_lb ?_))
      refine g_ef0 rfl (ef_st hS 0 rfl rfl rfl rfl (Nat.le_of_ble_eq_true rfl) rfl fun w2 hS => ?_)
      (repeat (first | refine g_sq ?_ | refine g_rg ?_ | refine g_r0 ?_ | refine g_ok rfl rfl ?_ | refine g_no rfl ?_ | refine g_no0 rfl ?_ | refine g_bk ?_ | refine g_b ?_ | refine g_sk ?_ | refine g_cT rfl ?_ | refine g_cF rfl ?_ | refine g_x rfl ?_ | refine g_lb ?_))
      refine g_ef0 rfl (ef_st hS 1 rfl rfl rfl rfl (Nat.le_of_ble_eq_true rfl) rfl fun w2 hS => ?_)
      (repeat (first | refine g_sq ?_ | refine g_rg ?_ | refine g_r0 ?_ | refine g_ok rfl rfl ?_ | refine g_no rfl ?_ | refine g_no0 rfl ?_ | refine g_bk ?_ | refine g_b ?_ | refine g_sk ?_ | refine g_cT rfl ?_ | refine g_cF rfl ?_ | refine g_x rfl ?_ | refine g_lb ?_))
      refine g_ret (q_dr hS 4 rfl fun w hS => ?_)
      exact q_cc rfl (by kernel_rfl) (hS.b 0 rfl) rfl rfl (by kernel_rfl) (hS.b 1 rfl) rfl (bad hend _ (hS.sel [] rfl rfl))
    · have hq3 := of_decide_eq_true hq2
      (repeat (first | refine g_sq ?_ | refine g_rg ?_ | refine g_r0 ?_ | refine g_ok rfl rfl ?_ | refine g_no rfl ?_ | refine g_no0 rfl ?_ | refine g_bk ?_ | refine g_b ?_ | refine g_sk ?_ | refine g_cT rfl ?_ | refine g_cF rfl ?_ | refine g_x rfl ?_ | refine g_lb ?_))
      refine g_l1 rfl rfl (hS.b  2 rfl) rfl ?_
      refine g_cl rfl rfl (b_CheckL (d := acc) rfl (by omega) hnl (hg.in hS) (Ow.rd (hS.ok 3 _ rfl)) fun w1 h' => ?_)
      replace hS := hS.call0.2 _ _ h'
      rw [List.append_nil] at hS
      cases hck : chk acc
      · have e1 : eE acc = 200 := by unfold eE; rw [if_neg (by rw [hck]; decide)]
        rw [if_neg (fun h => by rw [hck] at h; cases h.2)] at hend
        rw [e1]
        (repeat (first | refine g_sq ?_ | refine g_rg ?_ | refine g_r0 ?_ | refine g_ok rfl rfl ?_ | refine g_no rfl ?_ | refine g_no0 rfl ?_ | refine g_bk ?_ | refine g_b ?_ | refine g_sk ?_ | refine g_cT rfl ?_ | refine g_cF rfl ?_ | refine g_x rfl ?_ | refine g_lb ?_))
        refine g_ef0 rfl (ef_st hS 0 rfl rfl rfl rfl (Nat.le_of_ble_eq_true rfl) rfl fun w2 hS => ?_)
        (repeat (first | refine g_sq ?_ | refine g_rg ?_ | refine g_r0 ?_ | refine g_ok rfl rfl ?_ | refine g_no rfl ?_ | refine g_no0 rfl ?_ | refine g_bk ?_ | refine g_b ?_ | refine g_sk ?_ | refine g_cT rfl ?_ | refine g_cF rfl ?_ | refine g_x rfl ?_ | refine g_lb ?_))
        refine g_ef0 rfl (ef_st hS 1 rfl rfl rfl rfl (Nat.le_of_ble_eq_true rfl) rfl fun w2 hS => ?_)
        (repeat (first | refine g_sq ?_ | refine g_rg ?_ | refine g_r0 ?_ | refine g_ok rfl rfl ?_ | refine g_no rfl ?_ | refine g_no0 rfl ?_ | refine g_bk ?_ | refine g_b ?_ | refine g_sk ?_ | refine g_cT rfl ?_ | refine g_cF rfl ?_ | refine g_x rfl ?_ | refine g_lb ?_))
        refine g_ret (q_dr hS 4 rfl fun w hS => ?_)
        exact q_cc rfl (by kernel_rfl) (hS.b 0 rfl) rfl rfl (by kernel_rfl) (hS.b 1 rfl) rfl (bad hend _ (hS.sel [] rfl rfl))
      · have e1 : eE acc = 0 := by unfold eE; rw [if_pos hck]
        rw [if_pos ⟨hq3, hck⟩] at hend
        have e2 : psE s = 0 := by unfold psE; rw [hend]; rfl
        have e3 : psL s = acc := by unfold psL; rw [hend]; rfl
        rw [e2, e3] at h
        rw [e1]
        (repeat (first | refine g_sq ?_ | refine g_rg ?_ | refine g_r0 ?_ | refine g_ok rfl rfl ?_ | refine g_no rfl ?_ | refine g_no0 rfl ?_ | refine g_bk ?_ | refine g_b ?_ | refine g_sk ?_ | refine g_cT rfl ?_ | refine g_cF rfl ?_ | refine g_x rfl ?_ | refine g_lb ?_))
        refine g_l1 rfl rfl (hS.b  2 rfl) rfl ?_
        refine g_ef0 rfl (ef_st hS 0 rfl rfl rfl rfl (Nat.le_of_ble_eq_true rfl) rfl fun w2 hS => ?_)
        (repeat (first | refine g_sq ?_ | refine g_rg ?_ | refine g_r0 ?_ | refine g_ok rfl rfl ?_ | refine g_no rfl ?_ | refine g_no0 rfl ?_ | refine g_bk ?_ | refine g_b ?_ | refine g_sk ?_ | refine g_cT rfl ?_ | refine g_cF rfl ?_ | refine g_x rfl ?_ | refine g_lb ?_))
        refine g_ef0 rfl (ef_st hS 1 rfl rfl rfl rfl (Nat.le_of_ble_eq_true rfl) rfl fun w2 hS => ?_)
        (repeat (first | refine g_sq ?_ | refine g_rg ?_ | refine g_r0 ?_ | refine g_ok rfl rfl ?_ | refine g_no rfl ?_ | refine g_no0 rfl ?_ | refine g_bk ?_ | refine g_b ?_ | refine g_sk ?_ | refine g_cT rfl ?_ | refine g_cF rfl ?_ | refine g_x rfl ?_ | refine g_lb ?_))
        refine g_ret (q_dr hS 4 rfl fun w hS => ?_)
        exact q_cc rfl (by kernel_rfl) (hS.b 0 rfl) rfl rfl (by kernel_rfl) (hS.b 1 rfl) rfl (h _ _ (hS.sel [3] rfl rfl))
end
end Go.Proofs.YtibofabkpgigoaaGreatDoor
namespace Go.Proofs.YtibofabkpgigoaaGreatDoor
open Go.En

theorem lnsF_mem : ∀ (n : Nat) (s l : Bs), l ∈ lnsF n s → l.length ≤ s.length
  | 0, _, _, h => by cases h
  | n + 1, s, l, h => by
    unfold lnsF at h
    split at h
    · cases h
    · rename_i hs
      rcases List.mem_cons.1 h with rfl | h
      · exact hd1_le s
      · have := lnsF_mem n _ l h
        have := hd1_lt hs
        omega
theorem prsL_bd : ∀ (ls : List Bs) (m : List Li), prsL ls = some m → m.length = ls.length ∧ ∀ x ∈ m, ∃ l ∈ ls, x.1.length ≤ l.length
  | [], m, h => by
    rw [prsL] at h
    cases h
    exact ⟨rfl, fun x hx => by cases hx⟩
  | l :: r, m, h => by
    cases hp : prs1 l with
    | none => rw [prsL_none hp] at h; cases h
    | some x =>
      rw [prsL_some hp] at h
      obtain ⟨m', hm', rfl⟩ := Option.map_eq_some_iff.1 h
      obtain ⟨h1, h2⟩ := prsL_bd r m' hm'
      refine ⟨by rw [List.length_cons, List.length_cons, h1], fun y hy => ?_⟩
      rcases List.mem_cons.1 hy with rfl | hy
      · exact ⟨l, List.mem_cons_self, prs1_len hp⟩
      · obtain ⟨l', hl', h3⟩ := h2 y hy
        exact ⟨l', List.mem_cons_of_mem _ hl', h3⟩
theorem prs_bd {s : Bs} {m : List Li} (h : prs s = some m) : m.length ≤ s.length ∧ ∀ x ∈ m, x.1.length ≤ s.length := by
  unfold prs at h
  split at h
  · rename_i d hd
    split at h
    · cases h
      obtain ⟨h1, h2⟩ := prsL_bd _ _ hd
      refine ⟨by rw [h1]; exact lnsF_len _ _, fun x hx => ?_⟩
      obtain ⟨l, hl, h3⟩ := h2 x hx
      exact Nat.le_trans h3 (lnsF_mem _ _ l hl)
    · cases h
  · cases h
theorem grt_no {d : List Li} (h : ¬ grt d = true) : d.length ≤ 60 ∧ ∀ x ∈ d, x.1.length ≤ 300 := by
  unfold grt at h
  simp only [Bool.or_eq_true, decide_eq_true_eq, List.any_eq_true, not_or, not_exists, not_and] at h
  exact ⟨by omega, fun x hx => by have := h.2 x hx; omega⟩
theorem txt_bd {d : List Li} {n m : Nat} (h1 : d.length ≤ n) (h2 : ∀ x ∈ d, x.1.length ≤ m) : (d.map ln1).flatten.length ≤ n * (66 + m) :=
  Nat.le_trans (flen_bd d h2) (Nat.mul_le_mul_right _ h1)
theorem txt_le (d : List Li) : (txt d).length ≤ (d.map ln1).flatten.length := by
  unfold txt
  split
  · exact Nat.le_refl _
  · exact Nat.zero_le _
section
variable {w w0 : World} {S0 : Nat → Prop} {L B : List Res} {K : Value → World → Prop} {s : Bs} {E0 E1 : Nat}
set_option maxHeartbeats 4000000 in
theorem b_Back {v : Value} {n : Nat} {d : List Li} (hd : d.length = n) (hn : n ≤ 9223372036854775807) (hg : Gl w) (hr : Rd v E0 33 n (fl lc d) w) (h : ∀ w', St w (fun _ => False) w' [] → K (.bool true) w') : CK Tryz.prog 3 [v, sv s] w K := by
  have hS := St.nil w (fun _ => False)
  have hrr : ∀ {L : List Res} (w' : World), St w (fun _ => False) w' L → Rd v E0 33 n (fl lc d) w' := fun w' hS => hr.same fun b hb => hS.fr.kept b (hr.lt b hb) (fun h => h)
  obtain ⟨a, c, rfl⟩ := hr.form
  refine call_k Tryz.func3 k3 Tryz.ntmps3 (Nat.le_of_ble_eq_true rfl) ?_
  (repeat (first | refine g_sq ?_ | refine g_rg ?_ | refine g_r0 ?_ | refine g_ok rfl rfl ?_ | refine g_no rfl ?_ | refine g_no0 rfl ?_ | refine g_bk ?_ | refine g_b ?_ | refine g_sk ?_ | refine g_cT rfl ?_ | refine g_cF rfl ?_ | refine g_x rfl ?_ | refine g_lb ?_))
  refine g_cl rfl rfl (b_alive hg fun w1 hS => ?_)
  (repeat (first | refine g_sq ?_ | refine g_rg ?_ | refine g_r0 ?_ | refine g_ok rfl rfl ?_ | refine g_no rfl ?_ | refine g_no0 rfl ?_ | refine g_bk ?_ | refine g_b ?_ | refine g_sk ?_ | refine g_cT rfl ?_ | refine g_cF rfl ?_ | refine g_x rfl ?_ | refine g_lb ?_))
  refine g_cl rfl rfl (r_Great hd hn (hrr _ hS) ?_)
  by_cases hgr : grt d = true
  · rw [if_pos hgr]
    (repeat (first | refine g_sq ?_ | refine g_rg ?_ | refine g_r0 ?_ | refine g_ok rfl rfl ?_ | refine g_no rfl ?_ | refine g_no0 rfl ?_ | refine g_bk ?_ | refine g_b ?_ | refine g_sk ?_ | refine g_cT rfl ?_ | refine g_cF rfl ?_ | refine g_x rfl ?_ | refine g_lb ?_))
    exact g_ret (q_1 rfl (h _ hS))
  rw [if_neg hgr]
  obtain ⟨hn60, hx300⟩ := grt_no hgr
  (repeat (first | refine g_sq ?_ | refine g_rg ?_ | refine g_r0 ?_ | refine g_ok rfl rfl ?_ | refine g_no rfl ?_ | refine g_no0 rfl ?_ | refine g_bk ?_ | refine g_b ?_ | refine g_sk ?_ | refine g_cT rfl ?_ | refine g_cF rfl ?_ | refine g_x rfl ?_ | refine g_lb ?_))
  generalize hq1 : cmv BinOp.gtr _ 8000 = q1
  cases q1
  rotate_left
  · (repeat (first | refine g_sq ?_ | refine g_rg ?_ | refine g_r0 ?_ | refine g_ok rfl rfl ?_ | refine g_no rfl ?_ | refine g_no0 rfl ?_ | refine g_bk ?_ | refine g_b ?_ | refine g_sk ?_ | refine g_cT rfl ?_ | refine g_cF rfl ?_ | refine g_x rfl ?_ | refine g_lb ?_))
    exact g_ret (q_1 rfl (h _ hS))
  (simp only [cmv, arv, Bool.not_eq_true', Bool.not_eq_false', decide_eq_true_eq, decide_eq_false_iff_not] at hq1)
  have hs : s.length ≤ 8000 := by
    rw [Lib.size_eq] at hq1
    have : (⟨s.toArray⟩ : ByteArray).data.toList.length = s.length := rfl
    omega
  have hlen : ∀ x ∈ d, x.1.length < 4294967281 := fun x hx => by have := hx300 x hx; omega
  have htb := txt_bd hn60 hx300
  have htl := txt_le d
  (repeat (first | refine g_sq ?_ | refine g_rg ?_ | refine g_r0 ?_ | refine g_ok rfl rfl ?_ | refine g_no rfl ?_ | refine g_no0 rfl ?_ | refine g_bk ?_ | refine g_b ?_ | refine g_sk ?_ | refine g_cT rfl ?_ | refine g_cF rfl ?_ | refine g_x rfl ?_ | refine g_lb ?_))
  refine g_cl rfl rfl (b_CheckL hd (by omega) hlen (hg.in hS) (hrr _ hS) fun w1 h' => ?_)
  replace hS := hS.call0.2 _ _ h'
  rw [List.append_nil] at hS
  refine g_at 2 [(0, .slice a n c), (1, sv s), (5, .bool true)] (fun w' => St w (fun _ => False) w' []) rfl ?_ ?_
  · cases hck : chk d
    · have e1 : eE d = 200 := by unfold eE; rw [if_neg (by rw [hck]; decide)]
      rw [e1]
      (repeat (first | refine g_sq ?_ | refine g_rg ?_ | refine g_r0 ?_ | refine g_ok rfl rfl ?_ | refine g_no rfl ?_ | refine g_no0 rfl ?_ | refine g_bk ?_ | refine g_b ?_ | refine g_sk ?_ | refine g_cT rfl ?_ | refine g_cF rfl ?_ | refine g_x rfl ?_ | refine g_lb ?_))
      exact g_j ⟨rfl, rfl, rfl, trivial⟩ hS
    · have e1 : eE d = 0 := by unfold eE; rw [if_pos hck]
      have e2 : psE (txt d) = 0 := by unfold psE; rw [prs_txt hck]; rfl
      have e3 : psL (txt d) = d := by unfold psL; rw [prs_txt hck]; rfl
      rw [e1]
      (repeat (first | refine g_sq ?_ | refine g_rg ?_ | refine g_r0 ?_ | refine g_ok rfl rfl ?_ | refine g_no rfl ?_ | refine g_no0 rfl ?_ | refine g_bk ?_ | refine g_b ?_ | refine g_sk ?_ | refine g_cT rfl ?_ | refine g_cF rfl ?_ | refine g_x rfl ?_ | refine g_lb ?_))
      refine g_cl rfl rfl (b_TextL hd (by omega) hlen (by omega) (hg.in hS) (hrr _ hS) fun w1 h' => ?_)
      replace hS := hS.call0.2 _ _ h'
      rw [List.append_nil] at hS
      (repeat (first | refine g_sq ?_ | refine g_rg ?_ | refine g_r0 ?_ | refine g_ok rfl rfl ?_ | refine g_no rfl ?_ | refine g_no0 rfl ?_ | refine g_bk ?_ | refine g_b ?_ | refine g_sk ?_ | refine g_cT rfl ?_ | refine g_cF rfl ?_ | refine g_x rfl ?_ | refine g_lb ?_))
      refine g_cl rfl rfl (b_ParseL (s := txt d) (by omega) (hg.in hS) fun v1 w1 h' => ?_)
      replace hS := hS.call0.2 _ _ h'
      rw [e2]
      rw [e3] at hS
      replace hS : St w (fun _ => False) w1 [row v1 41 33 d.length (fl lc d)] := hS
      obtain ⟨a1, c1, rfl⟩ := hS.rlen 0 rfl
      (repeat (first | refine g_sq ?_ | refine g_rg ?_ | refine g_r0 ?_ | refine g_ok rfl rfl ?_ | refine g_no rfl ?_ | refine g_no0 rfl ?_ | refine g_bk ?_ | refine g_b ?_ | refine g_sk ?_ | refine g_cT rfl ?_ | refine g_cF rfl ?_ | refine g_x rfl ?_ | refine g_lb ?_))
      refine g_cl rfl rfl (b_SameL (d := d) (e := d) rfl hd (by omega) (by omega) (Ow.rd (hS.ok 0 _ rfl)) (hrr _ hS) fun w1 h' => ?_)
      replace hS := hS.call0.2 _ _ h'
      rw [List.append_nil] at hS
      rw [decide_eq_true rfl]
      (repeat (first | refine g_sq ?_ | refine g_rg ?_ | refine g_r0 ?_ | refine g_ok rfl rfl ?_ | refine g_no rfl ?_ | refine g_no0 rfl ?_ | refine g_bk ?_ | refine g_b ?_ | refine g_sk ?_ | refine g_cT rfl ?_ | refine g_cF rfl ?_ | refine g_x rfl ?_ | refine g_lb ?_))
      exact g_j ⟨rfl, rfl, rfl, trivial⟩ (hS.sel [] rfl rfl)
  · clear hS
    intro T w1 hT hS
    refine g_wkc hT ?_
    (repeat (first | refine g_sq ?_ | refine g_rg ?_ | refine g_r0 ?_ | refine g_ok rfl rfl ?_ | refine g_no rfl ?_ | refine g_no0 rfl ?_ | refine g_bk ?_ | refine g_b ?_ | refine g_sk ?_ | refine g_cT rfl ?_ | refine g_cF rfl ?_ | refine g_x rfl ?_ | refine g_lb ?_))
    refine g_cl rfl rfl (b_ParseL (s := s) (by omega) (hg.in hS) fun v1 w1 h' => ?_)
    replace hS := hS.call0.2 _ _ h'
    replace hS : St w (fun _ => False) w1 [row v1 41 33 (psL s).length (fl lc (psL s))] := hS
    obtain ⟨a1, c1, rfl⟩ := hS.rlen 0 rfl
    cases hp : prs s with
    | none =>
      have e2 : psE s = 200 := by unfold psE; rw [hp]; rfl
      have e3 : psL s = [] := by unfold psL; rw [hp]; rfl
      rw [e2, e3]
      (repeat (first | refine g_sq ?_ | refine g_rg ?_ | refine g_r0 ?_ | refine g_ok rfl rfl ?_ | refine g_no rfl ?_ | refine g_no0 rfl ?_ | refine g_bk ?_ | refine g_b ?_ | refine g_sk ?_ | refine g_cT rfl ?_ | refine g_cF rfl ?_ | refine g_x rfl ?_ | refine g_lb ?_))
      exact g_ret (q_1 rfl (h _ (hS.sel [] rfl rfl)))
    | some m =>
      have e2 : psE s = 0 := by unfold psE; rw [hp]; rfl
      have e3 : psL s = m := by unfold psL; rw [hp]; rfl
      obtain ⟨hm1, hm2⟩ := prs_bd hp
      obtain ⟨hm3, hm4⟩ := prs_ok hp
      have hml : ∀ x ∈ m, x.1.length < 4294967281 := fun x hx => by have := hm2 x hx; omega
      have hmt := txt_bd (d := m) (n := 8000) (m := 8000) (by omega) fun x hx => by have := hm2 x hx; omega
      rw [e3] at hS
      rw [e2, e3]
      (repeat (first | refine g_sq ?_ | refine g_rg ?_ | refine g_r0 ?_ | refine g_ok rfl rfl ?_ | refine g_no rfl ?_ | refine g_no0 rfl ?_ | refine g_bk ?_ | refine g_b ?_ | refine g_sk ?_ | refine g_cT rfl ?_ | refine g_cF rfl ?_ | refine g_x rfl ?_ | refine g_lb ?_))
      refine g_cl rfl rfl (b_TextL (d := m) rfl (by omega) hml (by omega) (hg.in hS) (Ow.rd (hS.ok 0 _ rfl)) fun w1 h' => ?_)
      replace hS := hS.call0.2 _ _ h'
      rw [List.append_nil] at hS
      rw [hm3]
      (repeat (first | refine g_sq ?_ | refine g_rg ?_ | refine g_r0 ?_ | refine g_ok rfl rfl ?_ | refine g_no rfl ?_ | refine g_no0 rfl ?_ | refine g_bk ?_ | refine g_b ?_ | refine g_sk ?_ | refine g_cT rfl ?_ | refine g_cF rfl ?_ | refine g_x rfl ?_ | refine g_lb ?_))
      rw [show decide ((⟨s.toArray⟩ : ByteArray).data.toList = (⟨s.toArray⟩ : ByteArray).data.toList) = true from decide_eq_true rfl]
      (repeat (first | refine g_sq ?_ | refine g_rg ?_ | refine g_r0 ?_ | refine g_ok rfl rfl ?_ | refine g_no rfl ?_ | refine g_no0 rfl ?_ | refine g_bk ?_ | refine g_b ?_ | refine g_sk ?_ | refine g_cT rfl ?_ | refine g_cF rfl ?_ | refine g_x rfl ?_ | refine g_lb ?_))
      refine g_cl rfl rfl (b_CheckL (d := m) rfl (by omega) hml (hg.in hS) (Ow.rd (hS.ok 0 _ rfl)) fun w1 h' => ?_)
      replace hS := hS.call0.2 _ _ h'
      rw [List.append_nil] at hS
      have e4 : eE m = 0 := by unfold eE; rw [if_pos hm4]
      rw [e4]
      (repeat (first | refine g_sq ?_ | refine g_rg ?_ | refine g_r0 ?_ | refine g_ok rfl rfl ?_ | refine g_no rfl ?_ | refine g_no0 rfl ?_ | refine g_bk ?_ | refine g_b ?_ | refine g_sk ?_ | refine g_cT rfl ?_ | refine g_cF rfl ?_ | refine g_x rfl ?_ | refine g_lb ?_))
      exact g_ret (q_1 rfl (h _ (hS.sel [] rfl rfl)))
theorem b_BackL (hg : Gl w) {v : Value} {n : Nat} {d : List Li} (hd : d.length = n) (hn : n ≤ 9223372036854775807) (hr : Rd v E0 33 n (fl lc d) w) (h : ∀ w', St w (fun _ => False) w' [] → K (.bool true) w') : CK Tryz.prog 3 [v, sv s] w K := b_Back hd hn hg hr h
end
end Go.Proofs.YtibofabkpgigoaaGreatDoor
