/- The document's journal: the group that stands at a block of a device's copy. -/
import Derived.Test.YtegjocpjmfaigaaOc
set_option linter.unusedSimpArgs false
set_option linter.unusedVariables false
namespace Go.Proofs.Ytegjocpjmfaigaa
open Go.En

section
variable {w w0 : World} {S0 S S1 : Nat → Prop} {K : Value → World → Prop} {jb d fr bk : Nat} {J : Jou} {D : Dev} {B L : List Res} {vl v : Value} {Z : GZ}
/-- the blocks of an area, of a list of blocks -/
def arr (cs : List (List UInt8)) (fr bk : Nat) : List (List UInt8) := (cs.drop fr).take bk
theorem arr_len {cs : List (List UInt8)} {fr bk : Nat} (h : fr + bk ≤ cs.length) : (arr cs fr bk).length = bk := by
  unfold arr; rw [List.length_take, List.length_drop]; omega
theorem arr_get {cs : List (List UInt8)} {fr bk k : Nat} (h : k < bk) : (arr cs fr bk)[k]? = cs[fr + k]? := by
  unfold arr; rw [List.getElem?_take_of_lt h, List.getElem?_drop]
theorem numd_0 {bs : List UInt8} (h : numd bs < 1) (inn : List UInt8) (k : Nat) : (if bs.head? ≠ some 2 then none else
      if numB ((bs.drop 1).take 8) < 1 ∨ maxN < numB ((bs.drop 1).take 8) ∨ inn.length < numB ((bs.drop 9).take 4) ∨ blk (numB ((bs.drop 9).take 4)) ≠ k + 1 then none else
        if bs = endedB (numB ((bs.drop 1).take 8)) (inn.take (numB ((bs.drop 9).take 4))) then some (⟨numB ((bs.drop 1).take 8), inn.take (numB ((bs.drop 9).take 4))⟩ : Grp) else none) = none := by
  unfold numd at h
  by_cases h2 : bs.head? ≠ some 2
  · rw [if_pos h2]
  · rw [if_neg h2] at h ⊢
    split
    · rfl
    · rename_i hb
      split
      · rename_i he
        exfalso
        have e1 := ended_1 (numB ((bs.drop 1).take 8)) (inn.take (numB ((bs.drop 9).take 4)))
        have e2 := ended_120 (numB ((bs.drop 1).take 8)) (inn.take (numB ((bs.drop 9).take 4)))
        rw [← he] at e1 e2
        have e3 := congrArg numB (e1.trans e2.symm)
        rw [if_neg (by omega)] at h
        omega
      · rfl
theorem numd_1 {bs : List UInt8} (h : ¬ numd bs < 1) : bs.head? = some 2 ∧ numB ((bs.drop 1).take 8) = numd bs ∧ numd bs ≤ maxN := by
  refine ⟨?_, ?_, numd_le bs⟩
  · by_cases h2 : bs.head? = some 2
    · exact h2
    · unfold numd at h; rw [if_pos h2] at h; omega
  · unfold numd at h ⊢
    split at h
    · omega
    · split at h
      · omega
      · rename_i h1 h2
        rw [if_neg h1, if_neg h2]
set_option maxRecDepth 100000 in
theorem c117 {i b2 : Nat} {vC vL : Value} {D2 : Dev} {A M : List (Value × List UInt8)} (hA : ∀ p ∈ A, p ∈ M) (hAl : ∀ p ∈ A, p.2.length = 128) (hF : fr + bk ≤ A.length) (hA4 : A.length ≤ 4096) (hi : i < bk)
    (hS : St w0 S0 w (RjoR S jb b2 fr bk J :: cel b2 (RefC vC vL D2) 57 :: row vC 35 1 A.length (A.map (·.1)) :: pool M :: B))
    (h1 : stand ((arr (A.map (·.2)) fr bk).drop i) [] 0 = none → ∀ w' l, l.length = 3 → l.all (·.oneCell') = true → St w0 S0 w' (RjoR S jb b2 fr bk J :: cel b2 (RefC vC vL D2) 57 :: row vC 35 1 A.length (A.map (·.1)) :: pool M :: B) → K (.tuple ⟨[.agg ⟨l⟩, .bool false]⟩) w')
    (h2 : ∀ g, stand ((arr (A.map (·.2)) fr bk).drop i) [] 0 = some g → ∀ w' v', St w0 S0 w' (RjoR S jb b2 fr bk J :: cel b2 (RefC vC vL D2) 57 :: row vC 35 1 A.length (A.map (·.1)) :: pool M :: row v' 5 1 g.b.length (bys g.b) :: B) → K (.tuple ⟨[.agg ⟨gv1 (g, v')⟩, .bool true]⟩) w') : CK Try.prog 117 [dp jb, .int .i64 i] w K := by
  have hmax : maxN = 4611686018427387904 := rfl
  obtain ⟨hw, hb4, hf4, _, _⟩ := RjoR.blk hS
  obtain ⟨aC, cC, rfl⟩ := hS.rlen 2 rfl
  have hal := arr_len (cs := A.map (·.2)) (fr := fr) (bk := bk) (by rw [List.length_map]; exact hF)
  refine call_k Try.func117 k117 Try.ntmps117 (Nat.le_of_ble_eq_true rfl) ?_
  (repeat (first | refine g_sq ?_ | refine g_rg ?_ | refine g_r0 ?_ | refine g_ok rfl rfl ?_ | refine g_no rfl ?_ | refine g_no0 rfl ?_ | refine g_bk ?_ | refine g_b ?_ | refine g_sk ?_ | refine g_cT rfl ?_ | refine g_cF rfl ?_ | refine g_x rfl ?_ | refine g_lb ?_))
  refine g_ef rfl (ef_al hS fun b4 w hS => ?_)
  have hS := hS.front
  have hS := (hS.nilrow 5 1).front
  have hS : St w0 S0 w (row (.slice none 0 0) 5 1 0 (bys []) :: cel b4 [.int .i64 0, .slice none 0 0, .int .i64 0] 171 :: RjoR S jb b2 fr bk J :: cel b2 (RefC (.slice aC A.length cC) vL D2) 57 :: row (.slice aC A.length cC) 35 1 A.length (A.map (·.1)) :: pool M :: B) := hS
  have hS := hS.selB (A := [_, _, _, _, _, _]) (B := B) [2, 3, 4, 5, 0, 1] rfl rfl
  (repeat (first | refine g_sq ?_ | refine g_rg ?_ | refine g_r0 ?_ | refine g_ok rfl rfl ?_ | refine g_no rfl ?_ | refine g_no0 rfl ?_ | refine g_bk ?_ | refine g_b ?_ | refine g_sk ?_ | refine g_cT rfl ?_ | refine g_cF rfl ?_ | refine g_x rfl ?_ | refine g_lb ?_))
  refine g_atx (ι := Nat × Value × List UInt8) 2 (fun x => [(0, dp jb), (1, .int .i64 i), (4, dp b4), (6, x.2.1), (7, .int .i64 ((i + x.1 : Nat) : Int))])
    (fun x w => x.1 ≤ bk - i ∧ x.2.2.length = 119 * x.1 ∧ stand ((arr (A.map (·.2)) fr bk).drop i) [] 0 = stand ((arr (A.map (·.2)) fr bk).drop (i + x.1)) x.2.2 x.1 ∧ (i + x.1 < bk → ∀ c r, (arr (A.map (·.2)) fr bk)[i + x.1]? = some (c :: r) → c ≠ 1) ∧
      St w0 S0 w (RjoR S jb b2 fr bk J :: cel b2 (RefC (.slice aC A.length cC) vL D2) 57 :: row (.slice aC A.length cC) 35 1 A.length (A.map (·.1)) :: pool M :: row x.2.1 5 1 x.2.2.length (bys x.2.2) :: cel b4 [.int .i64 0, .slice none 0 0, .int .i64 0] 171 :: B)) rfl ?_ ?_
  · refine g_lp (ι := Nat × Value × List UInt8) (fun x => [(0, dp jb), (1, .int .i64 i), (4, dp b4), (6, x.2.1), (7, .int .i64 ((i + x.1 : Nat) : Int))])
      (fun x w => x.1 ≤ bk - i ∧ x.2.2.length = 119 * x.1 ∧ stand ((arr (A.map (·.2)) fr bk).drop i) [] 0 = stand ((arr (A.map (·.2)) fr bk).drop (i + x.1)) x.2.2 x.1 ∧
        St w0 S0 w (RjoR S jb b2 fr bk J :: cel b2 (RefC (.slice aC A.length cC) vL D2) 57 :: row (.slice aC A.length cC) 35 1 A.length (A.map (·.1)) :: pool M :: row x.2.1 5 1 x.2.2.length (bys x.2.2) :: cel b4 [.int .i64 0, .slice none 0 0, .int .i64 0] 171 :: B)) (fun x => bk - x.1) (0, .slice none 0 0, [])
      ⟨rfl, rfl, rfl, rfl, rfl, trivial⟩ ⟨Nat.zero_le _, rfl, rfl, hS⟩ ?_
    clear hS
    rintro ⟨k, vin, inn⟩ w ⟨hk, hil, hst, hS⟩
    simp only at hk hil hst hS
    (repeat (first | refine g_sq ?_ | refine g_rg ?_ | refine g_r0 ?_ | refine g_ok rfl rfl ?_ | refine g_no rfl ?_ | refine g_no0 rfl ?_ | refine g_bk ?_ | refine g_b ?_ | refine g_sk ?_ | refine g_cT rfl ?_ | refine g_cF rfl ?_ | refine g_x rfl ?_ | refine g_lb ?_))
    refine g_dr mixed ?_
    have hS := hS.drew
    obtain ⟨_, _, _, vl, hB⟩ := RjoR.blk hS
    (repeat (first | refine d_ok rfl rfl rfl ?_ | refine d_no rfl rfl ?_))
    refine d_l1 rfl rfl rfl hB rfl ?_
    (repeat (first | refine d_ok rfl rfl rfl ?_ | refine d_no rfl rfl ?_))
    generalize hq : cmv BinOp.lss ((i + k : Nat) : Int) (bk : Int) = q
    cases q
    all_goals simp only [cmv, decide_eq_true_eq, decide_eq_false_iff_not] at hq
    · (repeat (first | refine d_ok rfl rfl rfl ?_ | refine d_no rfl rfl ?_))
      refine d_fin ?_
      (repeat (first | refine g_sq ?_ | refine g_rg ?_ | refine g_r0 ?_ | refine g_ok rfl rfl ?_ | refine g_no rfl ?_ | refine g_no0 rfl ?_ | refine g_bk ?_ | refine g_b ?_ | refine g_sk ?_ | refine g_cT rfl ?_ | refine g_cF rfl ?_ | refine g_x rfl ?_ | refine g_lb ?_))
      exact g_jx (k, vin, inn) ⟨rfl, rfl, rfl, rfl, rfl, trivial⟩ ⟨hk, hil, hst, fun h => absurd h (by omega), hS⟩
    have hlt : i + k < bk := by omega
    have hlA : fr + (i + k) < A.length := by omega
    have hp : A[fr + (i + k)]? = some A[fr + (i + k)] := List.getElem?_eq_getElem hlA
    have hpm : A[fr + (i + k)] ∈ A := List.getElem_mem hlA
    generalize A[fr + (i + k)] = p at hp hpm
    have hr := hS.ok 3 _ rfl p (hA p hpm)
    have hlen := hAl p hpm
    have hag : (arr (A.map (·.2)) fr bk)[i + k]? = some p.2 := by rw [arr_get hlt, List.getElem?_map, hp]; rfl
    have hdr : (arr (A.map (·.2)) fr bk).drop (i + k) = p.2 :: (arr (A.map (·.2)) fr bk).drop (i + k + 1) := by
      have hl2 := (List.getElem?_eq_some_iff.1 hag).1
      rw [List.drop_eq_getElem_cons hl2, (List.getElem?_eq_some_iff.1 hag).2]
    rw [hlen] at hr
    obtain ⟨c, r, hbs⟩ := head_of hlen
    have hh : p.2.head? = some c := by rw [hbs]; rfl
    obtain ⟨b8, o8, c8, l8, hv8, hcap, hll, hx, hBp⟩ := Rd.block hr (by decide)
    have h0 := byte0 hbs hx
    obtain ⟨bC, capC, restC, hvC, hcC, hBC, hlC⟩ := row_blk hS 2 rfl (by omega)
    cases hvC
    have hcell := cA_get restC hp
    rw [hv8] at hcell
    (repeat (first | refine d_ok rfl rfl rfl ?_ | refine d_no rfl rfl ?_))
    refine d_l1 rfl rfl rfl hB rfl ?_
    (repeat (first | refine d_ok rfl rfl rfl ?_ | refine d_no rfl rfl ?_))
    refine d_l1 rfl rfl rfl (hS.b 1 rfl) rfl ?_
    (repeat (first | refine d_ok rfl rfl rfl ?_ | refine d_no rfl rfl ?_))
    refine d_l1 rfl rfl rfl hB rfl ?_
    (repeat (first | refine d_ok rfl rfl rfl ?_ | refine d_no rfl rfl ?_))
    refine d_rq rfl rfl rfl (in64 (by simp only [arv]; omega)) ?_
    rw [show arv BinOp.add (fr : Int) ((i + k : Nat) : Int) = ((fr + (i + k) : Nat) : Int) by simp only [arv]; omega]
    refine d_rq rfl rfl rfl ⟨by omega, by omega⟩ ?_
    refine d_l1 rfl rfl rfl hBC (by rw [Nat.zero_add, Int.toNat_natCast]; exact hcell) ?_
    refine d_rq rfl rfl rfl ⟨by decide, by decide⟩ ?_
    refine d_l1r rfl rfl rfl hBp h0 ?_
    (repeat (first | refine d_ok rfl rfl rfl ?_ | refine d_no rfl rfl ?_))
    refine d_fin ?_
    refine g_cd rfl (fun hc => ?_) (fun hc => ?_)
    all_goals simp only [cmv, decide_eq_true_eq, decide_eq_false_iff_not] at hc
    · have hc1 : c = 1 := UInt8.toNat.inj (by show c.toNat = 1; omega)
      rw [hdr, stand_cons, if_pos (by rw [hh, hc1])] at hst
      (repeat (first | refine g_sq ?_ | refine g_rg ?_ | refine g_r0 ?_ | refine g_ok rfl rfl ?_ | refine g_no rfl ?_ | refine g_no0 rfl ?_ | refine g_bk ?_ | refine g_b ?_ | refine g_sk ?_ | refine g_cT rfl ?_ | refine g_cF rfl ?_ | refine g_x rfl ?_ | refine g_lb ?_))
      refine g_dr mixed ?_
      have hS := hS.drew
      obtain ⟨_, _, _, vl, hB⟩ := RjoR.blk hS
      have hr := hS.ok 3 _ rfl p (hA p hpm)
      rw [hlen, hv8] at hr
      obtain ⟨bC, capC, restC, hvC, hcC, hBC, hlC⟩ := row_blk hS 2 rfl (by omega)
      cases hvC
      have hcell := cA_get restC hp
      rw [hv8] at hcell
      have rm := Rd.mid (x := .const (.int .i64 1)) (i := 1) (j := 120) hr (by decide) (by decide)
      rw [bys_drop, bys_take] at rm
      have hml : ((p.2.drop 1).take 119).length = 119 := by rw [List.length_take, List.length_drop]; omega
      (repeat (first | refine d_ok rfl rfl rfl ?_ | refine d_no rfl rfl ?_))
      refine d_l1 rfl rfl rfl hB rfl ?_
      (repeat (first | refine d_ok rfl rfl rfl ?_ | refine d_no rfl rfl ?_))
      refine d_l1 rfl rfl rfl (hS.b 1 rfl) rfl ?_
      (repeat (first | refine d_ok rfl rfl rfl ?_ | refine d_no rfl rfl ?_))
      refine d_l1 rfl rfl rfl hB rfl ?_
      (repeat (first | refine d_ok rfl rfl rfl ?_ | refine d_no rfl rfl ?_))
      refine d_rq rfl rfl rfl (in64 (by simp only [arv]; omega)) ?_
      rw [show arv BinOp.add (fr : Int) ((i + k : Nat) : Int) = ((fr + (i + k) : Nat) : Int) by simp only [arv]; omega]
      refine d_rq rfl rfl rfl ⟨by omega, by omega⟩ ?_
      refine d_l1 rfl rfl rfl hBC (by rw [Nat.zero_add, Int.toNat_natCast]; exact hcell) ?_
      refine d_rq rfl rfl rfl ⟨by decide, by decide, by omega, by omega⟩ ?_
      refine d_e rfl rfl ?_
      refine ef_ap (n := inn.length) (m := 119) (ys := bys ((p.2.drop 1).take 119)) hS 4 rfl rfl rfl (.inl ⟨5, rm⟩) (bys_one _) (by omega) (by omega) fun vin1 w hS => ⟨rc_0, ?_⟩
      refine d_e rfl rfl ?_
      refine ef_qt ((pev_ok rfl).2 _) ⟨rc_0, ?_⟩
      have e1 : inn.length + 119 = (inn ++ (p.2.drop 1).take 119).length := by rw [List.length_append, hml]
      rw [← bys_append, e1] at hS
      refine d_fin ?_
      (repeat (first | refine g_sq ?_ | refine g_rg ?_ | refine g_r0 ?_ | refine g_ok rfl rfl ?_ | refine g_no rfl ?_ | refine g_no0 rfl ?_ | refine g_bk ?_ | refine g_b ?_ | refine g_sk ?_ | refine g_cT rfl ?_ | refine g_cF rfl ?_ | refine g_x rfl ?_ | refine g_lb ?_))
      refine g_rq rfl rfl (in64 (by simp only [arv]; omega)) ?_
      rw [show arv BinOp.add ((i + k : Nat) : Int) 1 = ((i + (k + 1) : Nat) : Int) by simp only [arv]; omega]
      (repeat (first | refine g_sq ?_ | refine g_rg ?_ | refine g_r0 ?_ | refine g_ok rfl rfl ?_ | refine g_no rfl ?_ | refine g_no0 rfl ?_ | refine g_bk ?_ | refine g_b ?_ | refine g_sk ?_ | refine g_cT rfl ?_ | refine g_cF rfl ?_ | refine g_x rfl ?_ | refine g_lb ?_))
      exact g_l (k + 1, vin1, inn ++ (p.2.drop 1).take 119) ⟨rfl, rfl, rfl, rfl, rfl, trivial⟩ ⟨by simp only; omega, by simp only [List.length_append, hml]; omega, hst, hS⟩ (by simp only; omega)
    · (repeat (first | refine g_sq ?_ | refine g_rg ?_ | refine g_r0 ?_ | refine g_ok rfl rfl ?_ | refine g_no rfl ?_ | refine g_no0 rfl ?_ | refine g_bk ?_ | refine g_b ?_ | refine g_sk ?_ | refine g_cT rfl ?_ | refine g_cF rfl ?_ | refine g_x rfl ?_ | refine g_lb ?_))
      refine g_jx (k, vin, inn) ⟨rfl, rfl, rfl, rfl, rfl, trivial⟩ ⟨hk, hil, hst, fun _ c' r' he hc' => ?_, hS⟩
      simp only at he
      rw [hag, hbs] at he
      cases he
      subst hc'
      exact hc rfl
  clear hS
  rintro ⟨k, vin, inn⟩ T w hT ⟨hk, hil, hst, hno, hS⟩
  simp only at hk hil hst hno hS hT
  refine g_wkc hT ?_
  obtain ⟨_, _, _, vl, hB⟩ := RjoR.blk hS
  (repeat (first | refine g_sq ?_ | refine g_rg ?_ | refine g_r0 ?_ | refine g_ok rfl rfl ?_ | refine g_no rfl ?_ | refine g_no0 rfl ?_ | refine g_bk ?_ | refine g_b ?_ | refine g_sk ?_ | refine g_cT rfl ?_ | refine g_cF rfl ?_ | refine g_x rfl ?_ | refine g_lb ?_))
  refine g_l1 rfl rfl hB rfl ?_
  (repeat (first | refine g_sq ?_ | refine g_rg ?_ | refine g_r0 ?_ | refine g_ok rfl rfl ?_ | refine g_no rfl ?_ | refine g_no0 rfl ?_ | refine g_bk ?_ | refine g_b ?_ | refine g_sk ?_ | refine g_cT rfl ?_ | refine g_cF rfl ?_ | refine g_x rfl ?_ | refine g_lb ?_))
  refine g_cd rfl (fun hc => ?_) (fun hc => ?_)
  all_goals simp only [cmv, decide_eq_true_eq, decide_eq_false_iff_not] at hc
  · have hnil : (arr (A.map (·.2)) fr bk).drop (i + k) = [] := List.drop_eq_nil_of_le (by rw [hal]; omega)
    rw [hnil] at hst
    (repeat (first | refine g_sq ?_ | refine g_rg ?_ | refine g_r0 ?_ | refine g_ok rfl rfl ?_ | refine g_no rfl ?_ | refine g_no0 rfl ?_ | refine g_bk ?_ | refine g_b ?_ | refine g_sk ?_ | refine g_cT rfl ?_ | refine g_cF rfl ?_ | refine g_x rfl ?_ | refine g_lb ?_))
    refine g_ef0 rfl (ef_st hS 5 rfl rfl rfl rfl (Nat.le_of_ble_eq_true rfl) rfl fun w hS => ?_)
    (repeat (first | refine g_sq ?_ | refine g_rg ?_ | refine g_r0 ?_ | refine g_ok rfl rfl ?_ | refine g_no rfl ?_ | refine g_no0 rfl ?_ | refine g_bk ?_ | refine g_b ?_ | refine g_sk ?_ | refine g_cT rfl ?_ | refine g_cF rfl ?_ | refine g_x rfl ?_ | refine g_lb ?_))
    refine g_ret (q_c2 (n := 3) rfl rfl (hS.b 5 rfl) (Nat.le_of_ble_eq_true rfl) rfl (h1 hst _ _ rfl rfl ?_))
    exact hS.selB (A := [_, _, _, _, _, _]) (B := B) [0, 1, 2, 3] rfl rfl
  have hlt : i + k < bk := by omega
  have hlA : fr + (i + k) < A.length := by omega
  have hp : A[fr + (i + k)]? = some A[fr + (i + k)] := List.getElem?_eq_getElem hlA
  have hpm : A[fr + (i + k)] ∈ A := List.getElem_mem hlA
  generalize A[fr + (i + k)] = p at hp hpm
  have hr := hS.ok 3 _ rfl p (hA p hpm)
  have hlen := hAl p hpm
  have hag : (arr (A.map (·.2)) fr bk)[i + k]? = some p.2 := by rw [arr_get hlt, List.getElem?_map, hp]; rfl
  have hdr : (arr (A.map (·.2)) fr bk).drop (i + k) = p.2 :: (arr (A.map (·.2)) fr bk).drop (i + k + 1) := by
    have hl2 := (List.getElem?_eq_some_iff.1 hag).1
    rw [List.drop_eq_getElem_cons hl2, (List.getElem?_eq_some_iff.1 hag).2]
  rw [hlen] at hr
  obtain ⟨c, r, hbs⟩ := head_of hlen
  have hh : p.2.head? = some c := by rw [hbs]; rfl
  have hc1 : c ≠ 1 := hno hlt c r (by rw [hag, hbs])
  rw [hdr, stand_cons, if_neg (fun e => hc1 (by rw [hh] at e; cases e; rfl))] at hst
  obtain ⟨b8, o8, c8, l8, hv8, hcap, hll, hx, hBp⟩ := Rd.block hr (by decide)
  obtain ⟨bC, capC, restC, hvC, hcC, hBC, hlC⟩ := row_blk hS 2 rfl (by omega)
  cases hvC
  (repeat (first | refine g_sq ?_ | refine g_rg ?_ | refine g_r0 ?_ | refine g_ok rfl rfl ?_ | refine g_no rfl ?_ | refine g_no0 rfl ?_ | refine g_bk ?_ | refine g_b ?_ | refine g_sk ?_ | refine g_cT rfl ?_ | refine g_cF rfl ?_ | refine g_x rfl ?_ | refine g_lb ?_))
  refine g_dr mixed ?_
  have hS := hS.drew
  obtain ⟨_, _, _, vl, hB⟩ := RjoR.blk hS
  obtain ⟨bC, capC, restC, hvC, hcC, hBC, hlC⟩ := row_blk hS 2 rfl (by omega)
  cases hvC
  have hcell := cA_get restC hp
  rw [hv8] at hcell
  have hr : Rd p.1 5 1 128 (bys p.2) _ := hr.same fun _ _ => rfl
  rw [hv8] at hr
  (repeat (first | refine d_ok rfl rfl rfl ?_ | refine d_no rfl rfl ?_))
  refine d_l1 rfl rfl rfl hB rfl ?_
  (repeat (first | refine d_ok rfl rfl rfl ?_ | refine d_no rfl rfl ?_))
  refine d_l1 rfl rfl rfl (hS.b 1 rfl) rfl ?_
  (repeat (first | refine d_ok rfl rfl rfl ?_ | refine d_no rfl rfl ?_))
  refine d_l1 rfl rfl rfl hB rfl ?_
  (repeat (first | refine d_ok rfl rfl rfl ?_ | refine d_no rfl rfl ?_))
  refine d_rq rfl rfl rfl (in64 (by simp only [arv]; omega)) ?_
  rw [show arv BinOp.add (fr : Int) ((i + k : Nat) : Int) = ((fr + (i + k) : Nat) : Int) by simp only [arv]; omega]
  refine d_rq rfl rfl rfl ⟨by omega, by omega⟩ ?_
  refine d_l1 rfl rfl rfl hBC (by rw [Nat.zero_add, Int.toNat_natCast]; exact hcell) ?_
  (repeat (first | refine d_ok rfl rfl rfl ?_ | refine d_no rfl rfl ?_))
  refine d_fin ?_
  generalize hbb : p.2 = bs at hr hst hlen hbs hag
  have key := hS
  clear hx hBp hll
  (repeat (first | refine g_sq ?_ | refine g_rg ?_ | refine g_r0 ?_ | refine g_ok rfl rfl ?_ | refine g_no rfl ?_ | refine g_no0 rfl ?_ | refine g_bk ?_ | refine g_b ?_ | refine g_sk ?_ | refine g_cT rfl ?_ | refine g_cF rfl ?_ | refine g_x rfl ?_ | refine g_lb ?_))
  refine g_cl rfl rfl (c118 hlen hr hS fun w hS => ?_)
  have hr := hS.ok 3 _ rfl p (hA p hpm)
  rw [hbb, hlen, hv8] at hr
  have r2 := Rd.mid (x := .const (.int .i64 9)) (i := 9) (j := 13) hr (by decide) (by decide)
  rw [bys_drop, bys_take] at r2
  have hnl := numB_lt ((bs.drop 1).take 8)
  rw [show ((bs.drop 1).take 8).length = 8 by rw [List.length_take, List.length_drop]; omega] at hnl
  have hll4 := numB_lt ((bs.drop 9).take 4)
  rw [show ((bs.drop 9).take 4).length = 4 by rw [List.length_take, List.length_drop]; omega] at hll4
  have hhi : hiN ((bs.drop 9).take 4) = (numB ((bs.drop 9).take 4) : Int) := by unfold hiN; rw [if_neg (by omega)]
  (repeat (first | refine g_sq ?_ | refine g_rg ?_ | refine g_r0 ?_ | refine g_ok rfl rfl ?_ | refine g_no rfl ?_ | refine g_no0 rfl ?_ | refine g_bk ?_ | refine g_b ?_ | refine g_sk ?_ | refine g_cT rfl ?_ | refine g_cF rfl ?_ | refine g_x rfl ?_ | refine g_lb ?_))
  refine g_rq rfl rfl ⟨by decide, by decide, by omega, by omega⟩ ?_
  refine g_cl rfl rfl (c132 r2 (by decide) ?_)
  rw [show ((bs.drop 9).take (13 - 9)) = (bs.drop 9).take 4 from rfl, hhi]
  obtain ⟨ai, ci, rfl⟩ := hS.rlen 4 rfl
  have stop : ∀ {w' : World}, St w0 S0 w' (RjoR S jb b2 fr bk J :: cel b2 (RefC (.slice (some ⟨bC, 0, none⟩) A.length cC) vL D2) 57 :: row (.slice (some ⟨bC, 0, none⟩) A.length cC) 35 1 A.length (A.map (·.1)) :: pool M :: row (.slice ai inn.length ci) 5 1 inn.length (bys inn) :: cel b4 [.int .i64 0, .slice none 0 0, .int .i64 0] 171 :: B) →
    stand ((arr (A.map (·.2)) fr bk).drop i) [] 0 = none → K (.tuple ⟨[.agg ⟨[.int .i64 0, .slice none 0 0, .int .i64 0]⟩, .bool false]⟩) w' := fun hS hbad =>
    h1 hbad _ _ rfl rfl (hS.selB (A := [_, _, _, _, _, _]) (B := B) [0, 1, 2, 3] rfl rfl)
  (repeat (first | refine g_sq ?_ | refine g_rg ?_ | refine g_r0 ?_ | refine g_ok rfl rfl ?_ | refine g_no rfl ?_ | refine g_no0 rfl ?_ | refine g_bk ?_ | refine g_b ?_ | refine g_sk ?_ | refine g_cT rfl ?_ | refine g_cF rfl ?_ | refine g_x rfl ?_ | refine g_lb ?_))
  generalize hq1 : cmv BinOp.lss (numd bs : Int) 1 = q1
  cases q1
  all_goals simp only [cmv, decide_eq_true_eq, decide_eq_false_iff_not] at hq1
  rotate_left
  · rw [numd_0 (by omega)] at hst
    (repeat (first | refine g_sq ?_ | refine g_rg ?_ | refine g_r0 ?_ | refine g_ok rfl rfl ?_ | refine g_no rfl ?_ | refine g_no0 rfl ?_ | refine g_bk ?_ | refine g_b ?_ | refine g_sk ?_ | refine g_cT rfl ?_ | refine g_cF rfl ?_ | refine g_x rfl ?_ | refine g_lb ?_))
    refine g_ef0 rfl (ef_st hS 5 rfl rfl rfl rfl (Nat.le_of_ble_eq_true rfl) rfl fun w hS => ?_)
    (repeat (first | refine g_sq ?_ | refine g_rg ?_ | refine g_r0 ?_ | refine g_ok rfl rfl ?_ | refine g_no rfl ?_ | refine g_no0 rfl ?_ | refine g_bk ?_ | refine g_b ?_ | refine g_sk ?_ | refine g_cT rfl ?_ | refine g_cF rfl ?_ | refine g_x rfl ?_ | refine g_lb ?_))
    exact g_ret (q_c2 (n := 3) rfl rfl (hS.b 5 rfl) (Nat.le_of_ble_eq_true rfl) rfl (stop hS hst))
  obtain ⟨hh2, hn1, hnm⟩ := numd_1 (bs := bs) (by omega)
  rw [hn1, if_neg (by simp [hh2])] at hst
  generalize numd bs = n at hst hq1 hn1 hnm ⊢
  generalize numB ((bs.drop 9).take 4) = long at hst hll4 hhi ⊢
  (repeat (first | refine g_sq ?_ | refine g_rg ?_ | refine g_r0 ?_ | refine g_ok rfl rfl ?_ | refine g_no rfl ?_ | refine g_no0 rfl ?_ | refine g_bk ?_ | refine g_b ?_ | refine g_sk ?_ | refine g_cT rfl ?_ | refine g_cF rfl ?_ | refine g_x rfl ?_ | refine g_lb ?_))
  generalize hq2 : cmv BinOp.gtr (long : Int) (inn.length : Int) = q2
  cases q2
  all_goals simp only [cmv, decide_eq_true_eq, decide_eq_false_iff_not] at hq2
  rotate_left
  · rw [if_pos (.inr (.inr (.inl (by omega))))] at hst
    (repeat (first | refine g_sq ?_ | refine g_rg ?_ | refine g_r0 ?_ | refine g_ok rfl rfl ?_ | refine g_no rfl ?_ | refine g_no0 rfl ?_ | refine g_bk ?_ | refine g_b ?_ | refine g_sk ?_ | refine g_cT rfl ?_ | refine g_cF rfl ?_ | refine g_x rfl ?_ | refine g_lb ?_))
    refine g_ef0 rfl (ef_st hS 5 rfl rfl rfl rfl (Nat.le_of_ble_eq_true rfl) rfl fun w hS => ?_)
    (repeat (first | refine g_sq ?_ | refine g_rg ?_ | refine g_r0 ?_ | refine g_ok rfl rfl ?_ | refine g_no rfl ?_ | refine g_no0 rfl ?_ | refine g_bk ?_ | refine g_b ?_ | refine g_sk ?_ | refine g_cT rfl ?_ | refine g_cF rfl ?_ | refine g_x rfl ?_ | refine g_lb ?_))
    exact g_ret (q_c2 (n := 3) rfl rfl (hS.b 5 rfl) (Nat.le_of_ble_eq_true rfl) rfl (stop hS hst))
  have hle := Ow.le (hS.ok 4 _ rfl)
  have htl : (inn.take long).length = long := by rw [List.length_take]; omega
  (repeat (first | refine g_sq ?_ | refine g_rg ?_ | refine g_r0 ?_ | refine g_ok rfl rfl ?_ | refine g_no rfl ?_ | refine g_no0 rfl ?_ | refine g_bk ?_ | refine g_b ?_ | refine g_sk ?_ | refine g_cT rfl ?_ | refine g_cF rfl ?_ | refine g_x rfl ?_ | refine g_lb ?_))
  refine g_qt rfl (qt_slh (h := long) (k := .i64) rfl hle.2 rfl (by omega) hle.1) ?_
  (repeat (first | refine g_sq ?_ | refine g_rg ?_ | refine g_r0 ?_ | refine g_ok rfl rfl ?_ | refine g_no rfl ?_ | refine g_no0 rfl ?_ | refine g_bk ?_ | refine g_b ?_ | refine g_sk ?_ | refine g_cT rfl ?_ | refine g_cF rfl ?_ | refine g_x rfl ?_ | refine g_lb ?_))
  refine g_rq rfl rfl (in64 (by simp only [arv]; omega)) ?_
  (repeat (first | refine g_sq ?_ | refine g_rg ?_ | refine g_r0 ?_ | refine g_ok rfl rfl ?_ | refine g_no rfl ?_ | refine g_no0 rfl ?_ | refine g_bk ?_ | refine g_b ?_ | refine g_sk ?_ | refine g_cT rfl ?_ | refine g_cF rfl ?_ | refine g_x rfl ?_ | refine g_lb ?_))
  refine g_rq rfl rfl (in64 (by simp only [arv]; omega)) ?_
  rw [show arv BinOp.sub (arv BinOp.add ((i + k : Nat) : Int) 1) (i : Int) = ((k + 1 : Nat) : Int) by simp only [arv]; omega]
  (repeat (first | refine g_sq ?_ | refine g_rg ?_ | refine g_r0 ?_ | refine g_ok rfl rfl ?_ | refine g_no rfl ?_ | refine g_no0 rfl ?_ | refine g_bk ?_ | refine g_b ?_ | refine g_sk ?_ | refine g_cT rfl ?_ | refine g_cF rfl ?_ | refine g_x rfl ?_ | refine g_lb ?_))
  refine g_ef rfl (ef_al hS fun b11 w hS => ?_)
  have hS := hS.front
  refine g_ef0 rfl (ef_st hS 0 rfl rfl rfl rfl (Nat.le_of_ble_eq_true rfl) rfl fun w hS => ?_)
  have hS : St w0 S0 w (cel b11 [.int .i64 (n : Int), .slice ai long ci, .int .i64 ((k + 1 : Nat) : Int)] 171 :: RjoR S jb b2 fr bk J :: cel b2 (RefC (.slice (some ⟨bC, 0, none⟩) A.length cC) vL D2) 57 :: row (.slice (some ⟨bC, 0, none⟩) A.length cC) 35 1 A.length (A.map (·.1)) :: pool M :: row (.slice ai inn.length ci) 5 1 inn.length (bys inn) :: cel b4 [.int .i64 0, .slice none 0 0, .int .i64 0] 171 :: B) := hS
  have hS := row_head (m := long) hS 5 rfl (by omega)
  rw [bys_take] at hS
  have hrp : ∀ {w' : World} {L' : List Res}, St w0 S0 w' L' → L'[4]? = some (pool M) → Rd (.slice (some ⟨b8, o8, none⟩) 128 c8) 5 1 128 (bys bs) w' := fun hS h4 => by
    have := hS.ok 4 _ h4 p (hA p hpm)
    rw [hbb, hlen, hv8] at this
    exact this
  (repeat (first | refine g_sq ?_ | refine g_rg ?_ | refine g_r0 ?_ | refine g_ok rfl rfl ?_ | refine g_no rfl ?_ | refine g_no0 rfl ?_ | refine g_bk ?_ | refine g_b ?_ | refine g_sk ?_ | refine g_cT rfl ?_ | refine g_cF rfl ?_ | refine g_x rfl ?_ | refine g_lb ?_))
  refine g_dr mixed ?_
  have hS := hS.drew
  (repeat (first | refine d_ok rfl rfl rfl ?_ | refine d_no rfl rfl ?_))
  refine d_l1 rfl rfl rfl (hS.b 0 rfl) rfl ?_
  refine d_cl rfl rfl rfl (c51 (by omega) ⟨rc_1 rfl rfl rfl rfl (hS.b 0 rfl) rfl rc_0, ?_⟩)
  (repeat (first | refine d_ok rfl rfl rfl ?_ | refine d_no rfl rfl ?_))
  generalize hq3 : cmv BinOp.neq (blk long : Int) ((k + 1 : Nat) : Int) = q3
  cases q3
  all_goals simp only [cmv, Bool.not_eq_true', Bool.not_eq_false', decide_eq_true_eq, decide_eq_false_iff_not] at hq3
  rotate_left
  · rw [if_pos (.inr (.inr (.inr (by omega))))] at hst
    (repeat (first | refine d_ok rfl rfl rfl ?_ | refine d_no rfl rfl ?_))
    refine d_en rfl rfl (rc_no rfl rfl rfl rc_0) ?_
    (repeat (first | refine d_ok rfl rfl rfl ?_ | refine d_no rfl rfl ?_))
    refine d_fin ?_
    (repeat (first | refine g_sq ?_ | refine g_rg ?_ | refine g_r0 ?_ | refine g_ok rfl rfl ?_ | refine g_no rfl ?_ | refine g_no0 rfl ?_ | refine g_bk ?_ | refine g_b ?_ | refine g_sk ?_ | refine g_cT rfl ?_ | refine g_cF rfl ?_ | refine g_x rfl ?_ | refine g_lb ?_))
    refine g_ef0 rfl (ef_st hS 6 rfl rfl rfl rfl (Nat.le_of_ble_eq_true rfl) rfl fun w hS => ?_)
    (repeat (first | refine g_sq ?_ | refine g_rg ?_ | refine g_r0 ?_ | refine g_ok rfl rfl ?_ | refine g_no rfl ?_ | refine g_no0 rfl ?_ | refine g_bk ?_ | refine g_b ?_ | refine g_sk ?_ | refine g_cT rfl ?_ | refine g_cF rfl ?_ | refine g_x rfl ?_ | refine g_lb ?_))
    refine g_ret (q_c2 (n := 3) rfl rfl (hS.b 6 rfl) (Nat.le_of_ble_eq_true rfl) rfl (h1 hst _ _ rfl rfl ?_))
    exact hS.selB (A := [_, _, _, _, _, _, _]) (B := B) [1, 2, 3, 4] rfl rfl
  rw [if_neg (by omega)] at hst
  (repeat (first | refine d_ok rfl rfl rfl ?_ | refine d_no rfl rfl ?_))
  refine d_l1 rfl rfl rfl (hS.b 0 rfl) rfl ?_
  (repeat (first | refine d_ok rfl rfl rfl ?_ | refine d_no rfl rfl ?_))
  refine d_qt rfl rfl rfl (qt_bsR rfl (hrp hS rfl)) ?_
  refine d_cl rfl rfl rfl (c133 (n := n) (m := long) (bs := inn.take long) (by omega) (Ow.rd (hS.ok 5 _ rfl)) (by omega) hS fun v' w hS => ?_)
  have hS := hS.front
  have hS := hS.selB (A := [_, _, _, _, _, _, _, _]) (B := B) [1, 2, 3, 4, 5, 6, 7, 0] rfl rfl
  refine ⟨rc_qt rfl rfl rfl rfl (qt_bsR rfl (hrp hS rfl)) rc_0, ?_⟩
  refine d_qt rfl rfl rfl (qt_bsR rfl (Ow.rd (hS.ok 7 _ rfl))) ?_
  (repeat (first | refine d_ok rfl rfl rfl ?_ | refine d_no rfl rfl ?_))
  refine d_fin ?_
  have hS2 := hS.selB (A := [_, _, _, _, _, _, _, _]) (B := B) [1, 2, 3, 4, 5] rfl rfl
  refine g_cd rfl (fun hy => ?_) (fun hy => ?_)
  · have hy : ¬ endedB n (inn.take long) = bs := by simpa using hy
    rw [if_neg (fun e => hy e.symm)] at hst
    (repeat (first | refine g_sq ?_ | refine g_rg ?_ | refine g_r0 ?_ | refine g_ok rfl rfl ?_ | refine g_no rfl ?_ | refine g_no0 rfl ?_ | refine g_bk ?_ | refine g_b ?_ | refine g_sk ?_ | refine g_cT rfl ?_ | refine g_cF rfl ?_ | refine g_x rfl ?_ | refine g_lb ?_))
    refine g_ef0 rfl (ef_st hS 6 rfl rfl rfl rfl (Nat.le_of_ble_eq_true rfl) rfl fun w hS => ?_)
    (repeat (first | refine g_sq ?_ | refine g_rg ?_ | refine g_r0 ?_ | refine g_ok rfl rfl ?_ | refine g_no rfl ?_ | refine g_no0 rfl ?_ | refine g_bk ?_ | refine g_b ?_ | refine g_sk ?_ | refine g_cT rfl ?_ | refine g_cF rfl ?_ | refine g_x rfl ?_ | refine g_lb ?_))
    refine g_ret (q_c2 (n := 3) rfl rfl (hS.b 6 rfl) (Nat.le_of_ble_eq_true rfl) rfl (h1 hst _ _ rfl rfl ?_))
    exact hS.selB (A := [_, _, _, _, _, _, _, _]) (B := B) [1, 2, 3, 4] rfl rfl
  · have hy : endedB n (inn.take long) = bs := by simpa using hy
    rw [if_pos hy.symm] at hst
    (repeat (first | refine g_sq ?_ | refine g_rg ?_ | refine g_r0 ?_ | refine g_ok rfl rfl ?_ | refine g_no rfl ?_ | refine g_no0 rfl ?_ | refine g_bk ?_ | refine g_b ?_ | refine g_sk ?_ | refine g_cT rfl ?_ | refine g_cF rfl ?_ | refine g_x rfl ?_ | refine g_lb ?_))
    refine g_lm rfl rfl (hS.b 0 rfl) (Nat.le_of_ble_eq_true rfl) ?_
    refine g_ef0 rfl (ef_st hS 6 rfl rfl rfl rfl (Nat.le_of_ble_eq_true rfl) rfl fun w hS => ?_)
    have hS2 := hS.selB (A := [_, _, _, _, _, _, _, _]) (B := B) [1, 2, 3, 4, 5] rfl rfl
    have hm : (⟨n, inn.take long⟩ : Grp).many = k + 1 := by show blk (inn.take long).length = k + 1; rw [htl]; omega
    have h2 := h2 ⟨n, inn.take long⟩ hst w (.slice ai long ci) (by rw [htl]; exact hS2)
    have e1 : gv1 ((⟨n, inn.take long⟩ : Grp), Value.slice ai long ci) = [.int .i64 (n : Int), .slice ai long ci, .int .i64 ((k + 1 : Nat) : Int)] := by
      show [Value.int .i64 (n : Int), .slice ai long ci, .int .i64 (((⟨n, inn.take long⟩ : Grp).many : Nat) : Int)] = _
      rw [hm]
    rw [e1] at h2
    (repeat (first | refine g_sq ?_ | refine g_rg ?_ | refine g_r0 ?_ | refine g_ok rfl rfl ?_ | refine g_no rfl ?_ | refine g_no0 rfl ?_ | refine g_bk ?_ | refine g_b ?_ | refine g_sk ?_ | refine g_cT rfl ?_ | refine g_cF rfl ?_ | refine g_x rfl ?_ | refine g_lb ?_))
    exact g_ret (q_c2 (n := 3) rfl rfl (hS.b 6 rfl) (Nat.le_of_ble_eq_true rfl) rfl h2)
end
end Go.Proofs.Ytegjocpjmfaigaa
