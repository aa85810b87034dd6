/- The journal reads its area: a block, its number, the greatest number. -/
import Derived.Test.YtegjocpjmfaigaaJh
set_option linter.unusedSimpArgs false
set_option linter.unusedVariables false
namespace Go.Proofs.Ytegjocpjmfaigaa
open Go.En

theorem rd_len {D : Dev} (hw : D.wf) {i : Int} (hi : 0 ≤ i ∧ i < D.cells.length) : (D.rd i).length = 128 := by
  have := Dev.rdK_len hw hi D.waits.length
  unfold Dev.rdK at this
  rw [List.take_length] at this
  exact this
/-- the area's blocks, as they are read -/
def area (D : Dev) (fr bk : Nat) : List (List UInt8) := (List.range bk).map fun k => D.rd ((fr + k : Nat) : Int)
theorem area_len (D : Dev) (fr bk : Nat) : (area D fr bk).length = bk := by simp [area]
theorem area_get (D : Dev) {fr bk k : Nat} (h : k < bk) : (area D fr bk)[k]? = some (D.rd ((fr + k : Nat) : Int)) := by simp [area, h]
def numd (bs : List UInt8) : Nat :=
  if bs.head? ≠ some 2 then 0 else
    if numB ((bs.drop 1).take 8) ≠ numB (bs.drop 120) ∨ numB ((bs.drop 1).take 8) < 1 ∨ maxN < numB ((bs.drop 1).take 8) then 0 else numB ((bs.drop 1).take 8)
def great (l : List (List UInt8)) : Nat := l.foldl (fun n b => max n (numd b)) 0
theorem numd_le (bs : List UInt8) : numd bs ≤ maxN := by
  unfold numd
  split
  · exact Nat.zero_le _
  · split <;> omega
theorem great_le (l : List (List UInt8)) : great l ≤ maxN := by
  have : ∀ (l : List (List UInt8)) (n : Nat), n ≤ maxN → l.foldl (fun n b => max n (numd b)) n ≤ maxN := by
    intro l
    induction l with
    | nil => intro n hn; exact hn
    | cons b l ih => intro n hn; exact ih _ (by have := numd_le b; show max n (numd b) ≤ maxN; omega)
  exact this l 0 (Nat.zero_le _)
/-- what a journal's device is while it is read -/
def Fine (D : Dev) (fr bk : Nat) : Prop := D.down = false ∧ fr + bk ≤ D.cells.length
section
variable {w w0 : World} {S0 S S1 : Nat → Prop} {K : Value → World → Prop} {jb d fr bk : Nat} {J : Jou} {D : Dev} {B L : List Res} {vl v : Value} {Z : GZ}
/-- a slice of a slice -/
theorem Rd.mid {b off n cap E i j : Nat} {x : Operand} {xs : List Value} (h : Rd (.slice (some ⟨b, off, none⟩) n cap) E 1 n xs w) (hi : i ≤ j) (hj : j ≤ n) : Rd (.slice (some ⟨b, slo (some x) off cap i 1, none⟩) (j - i) (cap - i)) E 1 (j - i) ((xs.drop i).take (j - i)) w :=
  Rd.take (Rd.drop h (by omega)) (by omega)
theorem c115 {i : Nat} (hF : Fine D fr bk) (hS : St w0 S0 w (JouR S jb d fr bk J :: DevR S1 d D :: B)) (h1 : bk ≤ i → K (.slice none 0 0) w)
    (h2 : i < bk → ∀ w' S S1 v', St w0 S0 w' (JouR S jb d fr bk J :: DevR S1 d D :: row v' 5 1 128 (bys (D.rd ((fr + i : Nat) : Int))) :: B) → K v' w') : CK Try.prog 115 [dp jb, .int .i64 i] w K := by
  obtain ⟨hw, hb4, hf4, vl, hB⟩ := JouR.blk hS
  refine call_k Try.func115 k115 Try.ntmps115 (Nat.le_of_ble_eq_true rfl) ?_
  (repeat (first | refine g_sq ?_ | refine g_rg ?_ | refine g_r0 ?_ | refine g_ok rfl rfl ?_ | refine g_no rfl ?_ | refine g_no0 rfl ?_ | refine g_bk ?_ | refine g_b ?_ | refine g_sk ?_ | refine g_cT rfl ?_ | refine g_cF rfl ?_ | refine g_x rfl ?_ | refine g_lb ?_))
  refine g_l1 rfl rfl hB rfl ?_
  (repeat (first | refine g_sq ?_ | refine g_rg ?_ | refine g_r0 ?_ | refine g_ok rfl rfl ?_ | refine g_no rfl ?_ | refine g_no0 rfl ?_ | refine g_bk ?_ | refine g_b ?_ | refine g_sk ?_ | refine g_cT rfl ?_ | refine g_cF rfl ?_ | refine g_x rfl ?_ | refine g_lb ?_))
  refine g_cd rfl (fun hc => ?_) (fun hc => ?_)
  all_goals simp only [cmv, decide_eq_true_eq, decide_eq_false_iff_not] at hc
  · (repeat (first | refine g_sq ?_ | refine g_rg ?_ | refine g_r0 ?_ | refine g_ok rfl rfl ?_ | refine g_no rfl ?_ | refine g_no0 rfl ?_ | refine g_bk ?_ | refine g_b ?_ | refine g_sk ?_ | refine g_cT rfl ?_ | refine g_cF rfl ?_ | refine g_x rfl ?_ | refine g_lb ?_))
    exact g_ret (q_1 rfl (h1 (by omega)))
  · (repeat (first | refine g_sq ?_ | refine g_rg ?_ | refine g_r0 ?_ | refine g_ok rfl rfl ?_ | refine g_no rfl ?_ | refine g_no0 rfl ?_ | refine g_bk ?_ | refine g_b ?_ | refine g_sk ?_ | refine g_cT rfl ?_ | refine g_cF rfl ?_ | refine g_x rfl ?_ | refine g_lb ?_))
    refine g_dr mixed ?_
    have hS := hS.drew
    obtain ⟨_, _, _, vl, hB⟩ := JouR.blk hS
    (repeat (first | refine d_ok rfl rfl rfl ?_ | refine d_no rfl rfl ?_))
    refine d_l1 rfl rfl rfl hB rfl ?_
    (repeat (first | refine d_ok rfl rfl rfl ?_ | refine d_no rfl rfl ?_))
    refine d_l1 rfl rfl rfl hB rfl ?_
    (repeat (first | refine d_ok rfl rfl rfl ?_ | refine d_no rfl rfl ?_))
    refine d_rq rfl rfl rfl (in64 (by simp only [arv]; omega)) ?_
    rw [show arv BinOp.add (fr : Int) (i : Int) = ((fr + i : Nat) : Int) by simp only [arv]; omega]
    have hS := hS.selB (A := [_, _]) (B := B) [1, 0] rfl rfl
    have hcl := hF.2
    refine d_cl rfl rfl rfl (c33 hS (fun hd => absurd (hF.1.symm.trans hd) (by decide)) (fun hd hi => absurd ⟨by omega, by omega⟩ hi) (fun hd hi w' S1 v' hS => ⟨rc_0, ?_⟩))
    have hS := hS.selB (A := [_, _, _]) (B := B) [2, 0, 1] rfl rfl
    (repeat (first | refine d_ok rfl rfl rfl ?_ | refine d_no rfl rfl ?_))
    refine d_fin ?_
    (repeat (first | refine g_sq ?_ | refine g_rg ?_ | refine g_r0 ?_ | refine g_ok rfl rfl ?_ | refine g_no rfl ?_ | refine g_no0 rfl ?_ | refine g_bk ?_ | refine g_b ?_ | refine g_sk ?_ | refine g_cT rfl ?_ | refine g_cF rfl ?_ | refine g_x rfl ?_ | refine g_lb ?_))
    exact g_ret (q_1 rfl (h2 (by omega) _ _ _ _ hS))
theorem c114 {bs : List UInt8} (hl : bs.length = 128) (hr : Rd v 5 1 128 (bys bs) w) (h : K (.int .i64 (numd bs)) w) : CK Try.prog 114 [v] w K := by
  obtain ⟨b, off, cap, l, rfl, hcap, hll, hx, hB⟩ := Rd.block hr (by decide)
  obtain ⟨c, r, hbs⟩ : ∃ c r, bs = c :: r := by
    cases bs with
    | nil => cases hl
    | cons c r => exact ⟨c, r, rfl⟩
  have h0 : l[off]? = some (.int .u8 (c.toNat : Int)) := by
    have : (List.take (128 * 1) (List.drop off l))[0]? = (bys bs)[0]? := by rw [hx]
    rw [List.getElem?_take_of_lt (by decide), List.getElem?_drop, hbs] at this
    simpa [bys] using this
  have hh : bs.head? = some c := by rw [hbs]; rfl
  have r1 := Rd.mid (x := .const (.int .i64 1)) (i := 1) (j := 9) hr (by decide) (by decide)
  have r2 := Rd.drop (x := .const (.int .i64 120)) (k := 120) hr (by decide)
  rw [bys_drop, bys_take] at r1
  rw [bys_drop] at r2
  have hnl := numB_lt ((bs.drop 1).take 8)
  have hnl8 : ((bs.drop 1).take 8).length = 8 := by rw [List.length_take, List.length_drop]; omega
  rw [hnl8] at hnl
  unfold numd at h
  rw [hh] at h
  refine call_k Try.func114 k114 Try.ntmps114 (Nat.le_of_ble_eq_true rfl) ?_
  (repeat (first | refine g_sq ?_ | refine g_rg ?_ | refine g_r0 ?_ | refine g_ok rfl rfl ?_ | refine g_no rfl ?_ | refine g_no0 rfl ?_ | refine g_bk ?_ | refine g_b ?_ | refine g_sk ?_ | refine g_cT rfl ?_ | refine g_cF rfl ?_ | refine g_x rfl ?_ | refine g_lb ?_))
  refine g_rq rfl rfl ⟨by decide, by decide⟩ ?_
  refine g_l1r rfl rfl hB h0 ?_
  (repeat (first | refine g_sq ?_ | refine g_rg ?_ | refine g_r0 ?_ | refine g_ok rfl rfl ?_ | refine g_no rfl ?_ | refine g_no0 rfl ?_ | refine g_bk ?_ | refine g_b ?_ | refine g_sk ?_ | refine g_cT rfl ?_ | refine g_cF rfl ?_ | refine g_x rfl ?_ | refine g_lb ?_))
  refine g_cd rfl (fun hc => ?_) (fun hc => ?_)
  all_goals simp only [cmv, Bool.not_eq_true', Bool.not_eq_false', decide_eq_true_eq, decide_eq_false_iff_not] at hc
  · rw [if_pos (fun e => hc (by cases e; rfl))] at h
    (repeat (first | refine g_sq ?_ | refine g_rg ?_ | refine g_r0 ?_ | refine g_ok rfl rfl ?_ | refine g_no rfl ?_ | refine g_no0 rfl ?_ | refine g_bk ?_ | refine g_b ?_ | refine g_sk ?_ | refine g_cT rfl ?_ | refine g_cF rfl ?_ | refine g_x rfl ?_ | refine g_lb ?_))
    exact g_ret (q_1 rfl h)
  · have hc2 : c = 2 := by
      have : c.toNat = 2 := by omega
      exact UInt8.toNat.inj this
    rw [if_neg (by simp [hc2])] at h
    (repeat (first | refine g_sq ?_ | refine g_rg ?_ | refine g_r0 ?_ | refine g_ok rfl rfl ?_ | refine g_no rfl ?_ | refine g_no0 rfl ?_ | refine g_bk ?_ | refine g_b ?_ | refine g_sk ?_ | refine g_cT rfl ?_ | refine g_cF rfl ?_ | refine g_x rfl ?_ | refine g_lb ?_))
    refine g_rq rfl rfl ⟨by decide, by decide, by omega, by omega⟩ ?_
    refine g_cl rfl rfl (c127 r1 (by decide) ?_)
    (repeat (first | refine g_sq ?_ | refine g_rg ?_ | refine g_r0 ?_ | refine g_ok rfl rfl ?_ | refine g_no rfl ?_ | refine g_no0 rfl ?_ | refine g_bk ?_ | refine g_b ?_ | refine g_sk ?_ | refine g_cT rfl ?_ | refine g_cF rfl ?_ | refine g_x rfl ?_ | refine g_lb ?_))
    refine g_rq rfl rfl ⟨by decide, by omega, by omega, by omega⟩ ?_
    refine g_cl rfl rfl (c127 r2 (by decide) ?_)
    generalize numB ((bs.drop 1).take 8) = n at h hnl ⊢
    generalize numB (bs.drop 120) = m at h ⊢
    have hmax : maxN = 4611686018427387904 := rfl
    (repeat (first | refine g_sq ?_ | refine g_rg ?_ | refine g_r0 ?_ | refine g_ok rfl rfl ?_ | refine g_no rfl ?_ | refine g_no0 rfl ?_ | refine g_bk ?_ | refine g_b ?_ | refine g_sk ?_ | refine g_cT rfl ?_ | refine g_cF rfl ?_ | refine g_x rfl ?_ | refine g_lb ?_))
    generalize hq : cmv BinOp.neq (n : Int) (m : Int) = q
    cases q
    all_goals simp only [cmv, Bool.not_eq_true', Bool.not_eq_false', decide_eq_true_eq, decide_eq_false_iff_not] at hq
    · (repeat (first | refine g_sq ?_ | refine g_rg ?_ | refine g_r0 ?_ | refine g_ok rfl rfl ?_ | refine g_no rfl ?_ | refine g_no0 rfl ?_ | refine g_bk ?_ | refine g_b ?_ | refine g_sk ?_ | refine g_cT rfl ?_ | refine g_cF rfl ?_ | refine g_x rfl ?_ | refine g_lb ?_))
      generalize hq2 : cmv BinOp.lss (n : Int) 1 = q2
      cases q2
      all_goals simp only [cmv, decide_eq_true_eq, decide_eq_false_iff_not] at hq2
      · (repeat (first | refine g_sq ?_ | refine g_rg ?_ | refine g_r0 ?_ | refine g_ok rfl rfl ?_ | refine g_no rfl ?_ | refine g_no0 rfl ?_ | refine g_bk ?_ | refine g_b ?_ | refine g_sk ?_ | refine g_cT rfl ?_ | refine g_cF rfl ?_ | refine g_x rfl ?_ | refine g_lb ?_))
        refine g_cd rfl (fun hz => ?_) (fun hz => ?_)
        all_goals simp only [cmv, decide_eq_true_eq, decide_eq_false_iff_not] at hz
        · rw [if_pos (by omega)] at h
          (repeat (first | refine g_sq ?_ | refine g_rg ?_ | refine g_r0 ?_ | refine g_ok rfl rfl ?_ | refine g_no rfl ?_ | refine g_no0 rfl ?_ | refine g_bk ?_ | refine g_b ?_ | refine g_sk ?_ | refine g_cT rfl ?_ | refine g_cF rfl ?_ | refine g_x rfl ?_ | refine g_lb ?_))
          exact g_ret (q_1 rfl h)
        · rw [if_neg (by omega)] at h
          (repeat (first | refine g_sq ?_ | refine g_rg ?_ | refine g_r0 ?_ | refine g_ok rfl rfl ?_ | refine g_no rfl ?_ | refine g_no0 rfl ?_ | refine g_bk ?_ | refine g_b ?_ | refine g_sk ?_ | refine g_cT rfl ?_ | refine g_cF rfl ?_ | refine g_x rfl ?_ | refine g_lb ?_))
          rw [wrap_in (k := .i64) (in64 (by omega))]
          exact g_ret (q_1 rfl h)
      · rw [if_pos (by omega)] at h
        (repeat (first | refine g_sq ?_ | refine g_rg ?_ | refine g_r0 ?_ | refine g_ok rfl rfl ?_ | refine g_no rfl ?_ | refine g_no0 rfl ?_ | refine g_bk ?_ | refine g_b ?_ | refine g_sk ?_ | refine g_cT rfl ?_ | refine g_cF rfl ?_ | refine g_x rfl ?_ | refine g_lb ?_))
        exact g_ret (q_1 rfl h)
    · rw [if_pos (by omega)] at h
      (repeat (first | refine g_sq ?_ | refine g_rg ?_ | refine g_r0 ?_ | refine g_ok rfl rfl ?_ | refine g_no rfl ?_ | refine g_no0 rfl ?_ | refine g_bk ?_ | refine g_b ?_ | refine g_sk ?_ | refine g_cT rfl ?_ | refine g_cF rfl ?_ | refine g_x rfl ?_ | refine g_lb ?_))
      exact g_ret (q_1 rfl h)
theorem c90 (hF : Fine D fr bk) (hS : St w0 S0 w (JouR S jb d fr bk J :: DevR S1 d D :: B)) (h : ∀ w' S S1, St w0 S0 w' (JouR S jb d fr bk J :: DevR S1 d D :: B) → K (.int .i64 (great (area D fr bk))) w') : CK Try.prog 90 [dp jb] w K := by
  obtain ⟨hw, hb4, hf4, vl, hB⟩ := JouR.blk hS
  refine call_k Try.func90 k90 Try.ntmps90 (Nat.le_of_ble_eq_true rfl) ?_
  (repeat (first | refine g_sq ?_ | refine g_rg ?_ | refine g_r0 ?_ | refine g_ok rfl rfl ?_ | refine g_no rfl ?_ | refine g_no0 rfl ?_ | refine g_bk ?_ | refine g_b ?_ | refine g_sk ?_ | refine g_cT rfl ?_ | refine g_cF rfl ?_ | refine g_x rfl ?_ | refine g_lb ?_))
  refine g_l1 rfl rfl hB rfl ?_
  (repeat (first | refine g_sq ?_ | refine g_rg ?_ | refine g_r0 ?_ | refine g_ok rfl rfl ?_ | refine g_no rfl ?_ | refine g_no0 rfl ?_ | refine g_bk ?_ | refine g_b ?_ | refine g_sk ?_ | refine g_cT rfl ?_ | refine g_cF rfl ?_ | refine g_x rfl ?_ | refine g_lb ?_))
  refine g_lp (ι := Nat) (fun k => [(0, dp jb), (3, .int .i64 (great ((area D fr bk).take k))), (8, .int .i64 bk), (9, .int .i64 k)]) (fun k w => k ≤ bk ∧ ∃ S S1, St w0 S0 w (JouR S jb d fr bk J :: DevR S1 d D :: B)) (fun k => bk - k) 0 ⟨rfl, rfl, rfl, rfl, trivial⟩ ⟨Nat.zero_le _, S, S1, hS⟩ ?_
  clear hS hB
  rintro k w ⟨hk, S, S1, hS⟩
  (repeat (first | refine g_sq ?_ | refine g_rg ?_ | refine g_r0 ?_ | refine g_ok rfl rfl ?_ | refine g_no rfl ?_ | refine g_no0 rfl ?_ | refine g_bk ?_ | refine g_b ?_ | refine g_sk ?_ | refine g_cT rfl ?_ | refine g_cF rfl ?_ | refine g_x rfl ?_ | refine g_lb ?_))
  refine g_cd rfl (fun hc => ?_) (fun hc => ?_)
  all_goals simp only [cmv, decide_eq_true_eq, decide_eq_false_iff_not] at hc
  · (repeat (first | refine g_sq ?_ | refine g_rg ?_ | refine g_r0 ?_ | refine g_ok rfl rfl ?_ | refine g_no rfl ?_ | refine g_no0 rfl ?_ | refine g_bk ?_ | refine g_b ?_ | refine g_sk ?_ | refine g_cT rfl ?_ | refine g_cF rfl ?_ | refine g_x rfl ?_ | refine g_lb ?_))
    refine g_cl rfl rfl (c115 hF hS (fun h => by omega) (fun hkb w S S1 v' hS => ?_))
    have hS2 := hS.selB (A := [_, _, _]) (B := B) [1, 0, 2] rfl rfl
    have hwf := (DevR.blk hS2).1
    have hlen := rd_len hwf (i := ((fr + k : Nat) : Int)) ⟨by omega, by have := hF.2; omega⟩
    refine g_cl rfl rfl (c114 hlen (Ow.rd (hS.ok 2 _ rfl)) ?_)
    have hmx : max (great ((area D fr bk).take k) : Int) (numd (D.rd ((fr + k : Nat) : Int)) : Int) = ((great ((area D fr bk).take (k + 1)) : Nat) : Int) := by
      have hal := area_len D fr bk
      have hg := area_get D (fr := fr) hkb
      have hg2 := (List.getElem?_eq_some_iff.1 hg).2
      rw [List.take_succ_eq_append_getElem (by omega), hg2, great, great, List.foldl_append]
      simp only [List.foldl_cons, List.foldl_nil]
      omega
    (repeat (first | refine g_sq ?_ | refine g_rg ?_ | refine g_r0 ?_ | refine g_ok rfl rfl ?_ | refine g_no rfl ?_ | refine g_no0 rfl ?_ | refine g_bk ?_ | refine g_b ?_ | refine g_sk ?_ | refine g_cT rfl ?_ | refine g_cF rfl ?_ | refine g_x rfl ?_ | refine g_lb ?_))
    rw [hmx]
    refine g_rq rfl rfl (in64 (by simp only [arv]; omega)) ?_
    (repeat (first | refine g_sq ?_ | refine g_rg ?_ | refine g_r0 ?_ | refine g_ok rfl rfl ?_ | refine g_no rfl ?_ | refine g_no0 rfl ?_ | refine g_bk ?_ | refine g_b ?_ | refine g_sk ?_ | refine g_cT rfl ?_ | refine g_cF rfl ?_ | refine g_x rfl ?_ | refine g_lb ?_))
    exact g_l (k + 1) ⟨rfl, rfl, rfl, rfl, trivial⟩ ⟨by omega, S, S1, St.sub (A := [_, _]) (List.sublist_cons_self _ _) hS⟩ (by omega)
  · have e : (area D fr bk).take k = area D fr bk := List.take_of_length_le (by rw [area_len]; omega)
    rw [e]
    (repeat (first | refine g_sq ?_ | refine g_rg ?_ | refine g_r0 ?_ | refine g_ok rfl rfl ?_ | refine g_no rfl ?_ | refine g_no0 rfl ?_ | refine g_bk ?_ | refine g_b ?_ | refine g_sk ?_ | refine g_cT rfl ?_ | refine g_cF rfl ?_ | refine g_x rfl ?_ | refine g_lb ?_))
    exact g_ret (q_1 rfl (h _ _ _ hS))
end
end Go.Proofs.Ytegjocpjmfaigaa
