/- Sets of ids. -/
import Derived.Test.YtibofabkpgigoaaGreatDoorNa7
import Derived.Test.YtibofabkpgigoaaGreatDoorEnT
set_option linter.unusedSimpArgs false
set_option linter.unusedVariables false
namespace Go.Proofs.YtibofabkpgigoaaGreatDoor
open Go.En

abbrev Id := {b : Bs // b.length = 32}
instance : Inhabited Id := ⟨⟨zid, zid_len⟩⟩
/-- an id's cells -/
def ic (x : Id) : List Value := bys x.1
theorem ic_len (x : Id) : (ic x).length = 32 := by rw [ic, bys_length, x.2]
theorem ic_one (x : Id) : ∀ v ∈ ic x, v.oneCell' = true := fun v hv => by
  have := bys_one x.1
  rw [List.all_eq_true] at this
  exact this v hv
section
variable {w w0 : World} {S0 : Nat → Prop} {L B : List Res} {K : Value → World → Prop} {s : Bs}
theorem fl_set (d : List Id) (rest : List Value) (i : Nat) (x : Id) (h : i < d.length) : spl (fl ic d ++ rest) (i * 32) (ic x) = fl ic (d.set i x) ++ rest := by
  have e1 : fl ic d ++ rest = fl ic (d.take i) ++ (ic (d[i]) ++ (fl ic (d.drop (i + 1)) ++ rest)) := by
    conv => lhs; rw [← List.take_append_drop i d, List.drop_eq_getElem_cons h, fl_app, fl_cons]
    simp
  have e2 : fl ic (d.set i x) ++ rest = fl ic (d.take i) ++ (ic x ++ (fl ic (d.drop (i + 1)) ++ rest)) := by
    rw [List.set_eq_take_append_cons_drop, if_pos h, fl_app, fl_cons]
    simp
  rw [e1, e2]
  have l1 : (fl ic (d.take i)).length = i * 32 := by rw [fl_len ic_len, List.length_take, Nat.min_eq_left (by omega)]
  have := spl_app (fl ic (d.take i)) (ic d[i]) (fl ic (d.drop (i + 1)) ++ rest) (ic x) (by rw [ic_len, ic_len]; exact Nat.le_refl _)
  rw [l1] at this
  rw [this, List.drop_of_length_le (by rw [ic_len, ic_len]; exact Nat.le_refl _), List.append_nil]
theorem fl_atr (d : List Id) (rest : List Value) (i : Nat) (h : i < d.length) : ((fl ic d ++ rest).drop (i * 32)).take 32 = ic d[i] := by
  have l1 := fl_len ic_len d
  rw [List.drop_append_of_le_length (by rw [l1]; omega), List.take_append_of_le_length (by rw [List.length_drop, l1]; omega)]
  exact fl_at ic_len d i _ (List.getElem?_eq_getElem h)
set_option maxRecDepth 100000 in
theorem b_Compact {v : Value} {n : Nat} {d : List Id} (hd : d.length = n) (hn : n < 2000000) (hS : St w0 S0 w [row v 35 32 n (fl ic d)])
    (h : ∀ v' n' w', (ddn d n).length = n' → St w0 S0 w' [row v' 35 32 n' (fl ic (ddn d n))] → K v' w') : CK Tryz.prog 49 [v] w K := by
  obtain ⟨a, c, rfl⟩ := hS.rlen 0 rfl
  refine call_k Tryz.func49 k49 Tryz.ntmps49 (Nat.le_of_ble_eq_true rfl) ?_
  (repeat (first | refine g_sq ?_ | refine g_rg ?_ | refine g_r0 ?_ | refine g_ok rfl rfl ?_ | refine g_no rfl ?_ | refine g_no0 rfl ?_ | refine g_bk ?_ | refine g_b ?_ | refine g_sk ?_ | refine g_cT rfl ?_ | refine g_cF rfl ?_ | refine g_x rfl ?_ | refine g_lb ?_))
  (refine g_cd rfl (fun hc => ?_) (fun hc => ?_) <;> simp only [cmv, arv, Bool.not_eq_true', Bool.not_eq_false', decide_eq_true_eq, decide_eq_false_iff_not] at hc)
  · (repeat (first | refine g_sq ?_ | refine g_rg ?_ | refine g_r0 ?_ | refine g_ok rfl rfl ?_ | refine g_no rfl ?_ | refine g_no0 rfl ?_ | refine g_bk ?_ | refine g_b ?_ | refine g_sk ?_ | refine g_cT rfl ?_ | refine g_cF rfl ?_ | refine g_x rfl ?_ | refine g_lb ?_))
    have e : ddn d n = d := by
      have : n < 2 := by omega
      match d, n, hd, this with
      | [], 0, _, _ => rfl
      | [x], 1, _, _ => rfl
    rw [e] at h
    exact g_ret (q_1 rfl (h _ _ _ hd hS))
  · have h2 : 2 ≤ n := by omega
    have hT := hS
    clear hS
    obtain ⟨b, cap, rest, e, hnc, hlc, hS⟩ := hT.open_row 0 rfl (hT.rowb 0 rfl (by omega))
    clear hT
    cases e
    replace hS : St w0 S0 w [cel b (fl ic d ++ rest) 35] := hS
    have hfl := fl_len ic_len d
    (repeat (first | refine g_sq ?_ | refine g_rg ?_ | refine g_r0 ?_ | refine g_ok rfl rfl ?_ | refine g_no rfl ?_ | refine g_no0 rfl ?_ | refine g_bk ?_ | refine g_b ?_ | refine g_sk ?_ | refine g_cT rfl ?_ | refine g_cF rfl ?_ | refine g_x rfl ?_ | refine g_lb ?_))
    refine g_lp (ι := Nat) (fun k => [(0, .slice (some ⟨b, 0, none⟩) n c), (3, .int .i64 k)]) (fun k w' => 1 ≤ k ∧ k ≤ n ∧ ddn d k = d.take k ∧ St w0 S0 w' [cel b (fl ic d ++ rest) 35]) (fun k => n - k) 1 ⟨rfl, rfl, trivial⟩ ⟨Nat.le_refl _, by omega, ?_, hS⟩ ?_
    · cases d with
      | nil => simp at hd; omega
      | cons x d => simp [ddn]
    clear hS
    rintro k w1 ⟨hk1, hk, hdk, hS⟩
    (repeat (first | refine g_sq ?_ | refine g_rg ?_ | refine g_r0 ?_ | refine g_ok rfl rfl ?_ | refine g_no rfl ?_ | refine g_no0 rfl ?_ | refine g_bk ?_ | refine g_b ?_ | refine g_sk ?_ | refine g_cT rfl ?_ | refine g_cF rfl ?_ | refine g_x rfl ?_ | refine g_lb ?_))
    (refine g_cd rfl (fun hlt => ?_) (fun hlt => ?_) <;> simp only [cmv, arv, Bool.not_eq_true', Bool.not_eq_false', decide_eq_true_eq, decide_eq_false_iff_not] at hlt)
    · have hlt : k < n := by omega
      (repeat (first | refine g_sq ?_ | refine g_rg ?_ | refine g_r0 ?_ | refine g_ok rfl rfl ?_ | refine g_no rfl ?_ | refine g_no0 rfl ?_ | refine g_bk ?_ | refine g_b ?_ | refine g_sk ?_ | refine g_cT rfl ?_ | refine g_cF rfl ?_ | refine g_x rfl ?_ | refine g_lb ?_))
      refine g_dr mixed ?_
      have hS := hS.drew
      (repeat (first | refine d_ok rfl rfl rfl ?_ | refine d_no rfl rfl ?_))
      refine d_rq rfl rfl rfl ⟨by omega, by omega⟩ ?_
      refine d_lm rfl rfl rfl (hS.b 0 rfl) (by rw [List.length_append, hfl, hd]; omega) ?_
      rw [Int.toNat_natCast, Nat.zero_add, fl_atr d rest k (by omega)]
      (repeat (first | refine d_ok rfl rfl rfl ?_ | refine d_no rfl rfl ?_))
      refine d_rq rfl rfl rfl (in64 (by simp only [arv]; omega)) ?_
      rw [show arv BinOp.sub (k : Int) 1 = ((k - 1 : Nat) : Int) by simp only [arv]; omega]
      refine d_rq rfl rfl rfl ⟨by omega, by omega⟩ ?_
      refine d_lm rfl rfl rfl (hS.b 0 rfl) (by rw [List.length_append, hfl, hd]; omega) ?_
      rw [Int.toNat_natCast, Nat.zero_add, fl_atr d rest (k - 1) (by omega)]
      refine d_qt rfl rfl rfl (qt_aq (a := d[k].1) (b := d[k - 1].1) rfl rfl d[k].2 d[k - 1].2) ?_
      refine d_fin ?_
      refine g_cd rfl (fun hc => ?_) (fun hc => ?_)
      · have he : d[k] = d[k - 1] := by
          have : d[k].1 = d[k - 1].1 := by simpa [aqv] using hc
          exact Subtype.ext this
        have hslo : ∀ x : Operand, slo (some x) 0 ((c : Int)).toNat ((k : Int)).toNat 32 = k * 32 := fun x => by
          simp only [slo, Int.toNat_natCast]
          rw [if_neg (by omega)]
          omega
        (repeat (first | refine g_sq ?_ | refine g_rg ?_ | refine g_r0 ?_ | refine g_ok rfl rfl ?_ | refine g_no rfl ?_ | refine g_no0 rfl ?_ | refine g_bk ?_ | refine g_b ?_ | refine g_sk ?_ | refine g_cT rfl ?_ | refine g_cF rfl ?_ | refine g_x rfl ?_ | refine g_lb ?_))
        refine g_rq rfl rfl ⟨by omega, by omega, by omega, by omega⟩ ?_
        rw [hslo]
        simp only [Int.toNat_natCast]
        (repeat (first | refine g_sq ?_ | refine g_rg ?_ | refine g_r0 ?_ | refine g_ok rfl rfl ?_ | refine g_no rfl ?_ | refine g_no0 rfl ?_ | refine g_bk ?_ | refine g_b ?_ | refine g_sk ?_ | refine g_cT rfl ?_ | refine g_cF rfl ?_ | refine g_x rfl ?_ | refine g_lb ?_))
        refine g_lp (ι := Nat × Nat × List Id) (fun x => [(0, .slice (some ⟨b, 0, none⟩) n c), (3, .int .i64 x.2.1), (4, .slice (some ⟨b, k * 32, none⟩) (n - k) (c - k)), (5, .int .i64 x.1)])
          (fun x w' => 1 ≤ x.1 ∧ k + x.1 ≤ n ∧ x.2.2.length = n ∧ x.2.1 + 1 ≤ k + x.1 ∧ x.2.2.take x.2.1 = ddn d (k + x.1) ∧ x.2.2.drop (k + x.1 - 1) = d.drop (k + x.1 - 1) ∧ St w0 S0 w' [cel b (fl ic x.2.2 ++ rest) 35]) (fun x => n - x.1) (1, k, d) ⟨rfl, rfl, rfl, rfl, trivial⟩ ⟨Nat.le_refl _, by omega, hd, Nat.le_refl _, ?_, rfl, hS⟩ ?_
        · show d.take k = ddn d (k + 1)
          unfold ddn
          rw [if_neg, hdk]
          rintro (h0 | h0)
          · omega
          · exact h0 (by rw [List.getElem?_eq_getElem (by omega), List.getElem?_eq_getElem (by omega), he])
        clear hS
        rintro ⟨j, q, cur⟩ w1 ⟨hj1, hj, hcl, hq, hct, hcd, hS⟩
        dsimp only at hj1 hj hcl hq hct hcd hS ⊢
        have hcf := fl_len ic_len cur
        (repeat (first | refine g_sq ?_ | refine g_rg ?_ | refine g_r0 ?_ | refine g_ok rfl rfl ?_ | refine g_no rfl ?_ | refine g_no0 rfl ?_ | refine g_bk ?_ | refine g_b ?_ | refine g_sk ?_ | refine g_cT rfl ?_ | refine g_cF rfl ?_ | refine g_x rfl ?_ | refine g_lb ?_))
        (refine g_cd rfl (fun hlj => ?_) (fun hlj => ?_) <;> simp only [cmv, arv, Bool.not_eq_true', Bool.not_eq_false', decide_eq_true_eq, decide_eq_false_iff_not] at hlj)
        · have hlj : k + j < n := by omega
          have hde : ∀ x (h1 : k + j - 1 ≤ x) (h2 : x < n), cur[x]'(by omega) = d[x]'(by omega) := fun x h1 h2 => by
            have e1 : (cur.drop (k + j - 1))[x - (k + j - 1)]? = (d.drop (k + j - 1))[x - (k + j - 1)]? := by rw [hcd]
            rw [List.getElem?_drop, List.getElem?_drop, show k + j - 1 + (x - (k + j - 1)) = x by omega, List.getElem?_eq_getElem (by omega), List.getElem?_eq_getElem (by omega)] at e1
            exact Option.some.inj e1
          (repeat (first | refine g_sq ?_ | refine g_rg ?_ | refine g_r0 ?_ | refine g_ok rfl rfl ?_ | refine g_no rfl ?_ | refine g_no0 rfl ?_ | refine g_bk ?_ | refine g_b ?_ | refine g_sk ?_ | refine g_cT rfl ?_ | refine g_cF rfl ?_ | refine g_x rfl ?_ | refine g_lb ?_))
          refine g_dr mixed ?_
          have hS := hS.drew
          (repeat (first | refine d_ok rfl rfl rfl ?_ | refine d_no rfl rfl ?_))
          refine d_rq rfl rfl rfl ⟨by omega, by omega⟩ ?_
          refine d_lm rfl rfl rfl (hS.b 0 rfl) (by rw [List.length_append, hcf, hcl]; omega) ?_
          rw [Int.toNat_natCast, show k * 32 + j * 32 = (k + j) * 32 by omega, fl_atr cur rest (k + j) (by omega), hde (k + j) (by omega) hlj]
          (repeat (first | refine d_ok rfl rfl rfl ?_ | refine d_no rfl rfl ?_))
          refine d_rq rfl rfl rfl (in64 (by simp only [arv]; omega)) ?_
          rw [show arv BinOp.sub (j : Int) 1 = ((j - 1 : Nat) : Int) by simp only [arv]; omega]
          refine d_rq rfl rfl rfl ⟨by omega, by omega⟩ ?_
          refine d_lm rfl rfl rfl (hS.b 0 rfl) (by rw [List.length_append, hcf, hcl]; omega) ?_
          rw [Int.toNat_natCast, show k * 32 + (j - 1) * 32 = (k + j - 1) * 32 by omega, fl_atr cur rest (k + j - 1) (by omega), hde (k + j - 1) (by omega) (by omega)]
          refine d_qt rfl rfl rfl (qt_aq (a := d[k + j].1) (b := d[k + j - 1].1) rfl rfl d[k + j].2 d[k + j - 1].2) ?_
          refine d_fin ?_
          refine g_cd rfl (fun hc => ?_) (fun hc => ?_)
          · have hne : d[k + j] ≠ d[k + j - 1] := by
              intro e
              rw [e] at hc
              simp [aqv] at hc
            (repeat (first | refine g_sq ?_ | refine g_rg ?_ | refine g_r0 ?_ | refine g_ok rfl rfl ?_ | refine g_no rfl ?_ | refine g_no0 rfl ?_ | refine g_bk ?_ | refine g_b ?_ | refine g_sk ?_ | refine g_cT rfl ?_ | refine g_cF rfl ?_ | refine g_x rfl ?_ | refine g_lb ?_))
            refine g_rq rfl rfl ⟨by omega, by omega⟩ ?_
            refine g_lm rfl rfl (hS.b 0 rfl) (by rw [List.length_append, hcf, hcl]; omega) ?_
            rw [Int.toNat_natCast, show k * 32 + j * 32 = (k + j) * 32 by omega, fl_atr cur rest (k + j) (by omega), hde (k + j) (by omega) hlj]
            refine g_rq rfl rfl ⟨by omega, by omega⟩ ?_
            rw [Int.toNat_natCast, Nat.zero_add]
            refine g_ef0 rfl (ef_st hS 0 rfl rfl rfl (ic_len _) (by rw [List.length_append, hcf, hcl]; omega) (bys_one _) fun w1 hS => ?_)
            have hS := hS.ceq (l' := fl ic (cur.set q d[k + j]) ++ rest) 0 rfl (fl_set cur rest q _ (by omega))
            (repeat (first | refine g_sq ?_ | refine g_rg ?_ | refine g_r0 ?_ | refine g_ok rfl rfl ?_ | refine g_no rfl ?_ | refine g_no0 rfl ?_ | refine g_bk ?_ | refine g_b ?_ | refine g_sk ?_ | refine g_cT rfl ?_ | refine g_cF rfl ?_ | refine g_x rfl ?_ | refine g_lb ?_))
            refine g_rq rfl rfl (in64 (by simp only [arv]; omega)) ?_
            (repeat (first | refine g_sq ?_ | refine g_rg ?_ | refine g_r0 ?_ | refine g_ok rfl rfl ?_ | refine g_no rfl ?_ | refine g_no0 rfl ?_ | refine g_bk ?_ | refine g_b ?_ | refine g_sk ?_ | refine g_cT rfl ?_ | refine g_cF rfl ?_ | refine g_x rfl ?_ | refine g_lb ?_))
            refine g_rq rfl rfl (in64 (by simp only [arv]; omega)) ?_
            (repeat (first | refine g_sq ?_ | refine g_rg ?_ | refine g_r0 ?_ | refine g_ok rfl rfl ?_ | refine g_no rfl ?_ | refine g_no0 rfl ?_ | refine g_bk ?_ | refine g_b ?_ | refine g_sk ?_ | refine g_cT rfl ?_ | refine g_cF rfl ?_ | refine g_x rfl ?_ | refine g_lb ?_))
            refine g_l (j + 1, q + 1, cur.set q d[k + j]) ⟨rfl, rfl, rfl, rfl, trivial⟩ ⟨by simp only; omega, by simp only; omega, by simp only [List.length_set]; exact hcl, by simp only; omega, ?_, ?_, hS⟩ (by simp only; omega)
            · show (cur.set q d[k + j]).take (q + 1) = ddn d (k + j + 1)
              unfold ddn
              rw [if_pos (.inr (by rw [List.getElem?_eq_getElem (by omega), List.getElem?_eq_getElem (by omega)]; simpa using hne)), ← hct, List.getElem?_eq_getElem (by omega)]
              rw [List.take_succ_eq_append_getElem (by rw [List.length_set]; omega), List.getElem_set_self, List.take_set_of_le (Nat.le_refl _)]
              rfl
            · show (cur.set q d[k + j]).drop (k + j + 1 - 1) = d.drop (k + j + 1 - 1)
              rw [List.drop_set_of_lt (by omega)]
              have := congrArg (List.drop 1) hcd
              rw [List.drop_drop, List.drop_drop] at this
              rwa [show k + j - 1 + 1 = k + j + 1 - 1 by omega] at this
          · have he2 : d[k + j] = d[k + j - 1] := by
              have : d[k + j].1 = d[k + j - 1].1 := by simpa [aqv] using hc
              exact Subtype.ext this
            (repeat (first | refine g_sq ?_ | refine g_rg ?_ | refine g_r0 ?_ | refine g_ok rfl rfl ?_ | refine g_no rfl ?_ | refine g_no0 rfl ?_ | refine g_bk ?_ | refine g_b ?_ | refine g_sk ?_ | refine g_cT rfl ?_ | refine g_cF rfl ?_ | refine g_x rfl ?_ | refine g_lb ?_))
            refine g_rq rfl rfl (in64 (by simp only [arv]; omega)) ?_
            (repeat (first | refine g_sq ?_ | refine g_rg ?_ | refine g_r0 ?_ | refine g_ok rfl rfl ?_ | refine g_no rfl ?_ | refine g_no0 rfl ?_ | refine g_bk ?_ | refine g_b ?_ | refine g_sk ?_ | refine g_cT rfl ?_ | refine g_cF rfl ?_ | refine g_x rfl ?_ | refine g_lb ?_))
            refine g_l (j + 1, q, cur) ⟨rfl, rfl, rfl, rfl, trivial⟩ ⟨by simp only; omega, by simp only; omega, hcl, by simp only; omega, ?_, ?_, hS⟩ (by simp only; omega)
            · show cur.take q = ddn d (k + j + 1)
              unfold ddn
              rw [if_neg, hct]
              rintro (h0 | h0)
              · omega
              · exact h0 (by rw [List.getElem?_eq_getElem (by omega), List.getElem?_eq_getElem (by omega), he2])
            · show cur.drop (k + j + 1 - 1) = d.drop (k + j + 1 - 1)
              have := congrArg (List.drop 1) hcd
              rw [List.drop_drop, List.drop_drop] at this
              rwa [show k + j - 1 + 1 = k + j + 1 - 1 by omega] at this
        · have hjn : k + j = n := by omega
          have hslo2 : ∀ x : Operand, slo (some x) 0 ((c : Int)).toNat ((q : Int)).toNat 32 = q * 32 := fun x => by
            simp only [slo, Int.toNat_natCast]
            rw [if_neg (by omega)]
            omega
          (repeat (first | refine g_sq ?_ | refine g_rg ?_ | refine g_r0 ?_ | refine g_ok rfl rfl ?_ | refine g_no rfl ?_ | refine g_no0 rfl ?_ | refine g_bk ?_ | refine g_b ?_ | refine g_sk ?_ | refine g_cT rfl ?_ | refine g_cF rfl ?_ | refine g_x rfl ?_ | refine g_lb ?_))
          refine g_rq rfl rfl ⟨by omega, by omega, by omega, by omega⟩ ?_
          rw [hslo2]
          simp only [Int.toNat_natCast]
          refine g_ef0 rfl (ef_clr hS 0 rfl rfl (by rw [List.length_append, hcf, hcl]; omega) (by decide) fun w1 hS => ?_)
          have hdq : ddn d n = cur.take q := by rw [hct, hjn]
          have hql : (ddn d n).length = q := by rw [hdq, List.length_take, Nat.min_eq_left (by omega)]
          (repeat (first | refine g_sq ?_ | refine g_rg ?_ | refine g_r0 ?_ | refine g_ok rfl rfl ?_ | refine g_no rfl ?_ | refine g_no0 rfl ?_ | refine g_bk ?_ | refine g_b ?_ | refine g_sk ?_ | refine g_cT rfl ?_ | refine g_cF rfl ?_ | refine g_x rfl ?_ | refine g_lb ?_))
          refine g_qt rfl (qt_slh (h := q) rfl (fun h => by cases h) rfl (by omega) hnc) ?_
          (repeat (first | refine g_sq ?_ | refine g_rg ?_ | refine g_r0 ?_ | refine g_ok rfl rfl ?_ | refine g_no rfl ?_ | refine g_no0 rfl ?_ | refine g_bk ?_ | refine g_b ?_ | refine g_sk ?_ | refine g_cT rfl ?_ | refine g_cF rfl ?_ | refine g_x rfl ?_ | refine g_lb ?_))
          have hrl : (rep (n - q) [(32, Value.int .u8 0)]).length = (n - q) * 32 := by rw [rep_length]; rfl
          refine g_ret (q_1 rfl (h _ _ _ hql (hS.close_row (n := q) 0 rfl (by omega) (by rw [fl_len ic_len, hql]) ?_ ?_)))
          · have e1 : (fl ic cur ++ rest).take (q * 32) = fl ic (ddn d n) := by
              rw [List.take_append_of_le_length (by rw [hcf, hcl]; omega), fl_take ic_len, hdq]
            refine ⟨rep (n - q) [(32, Value.int .u8 0)] ++ (fl ic cur ++ rest).drop (q * 32 + (rep (n - q) [(32, Value.int .u8 0)]).length), ?_⟩
            rw [← e1]
            simp [spl]
          · refine (spl_length ?_).trans ?_
            · rw [hrl, List.length_append, hcf, hcl]; omega
            · rw [List.length_append, hcf, hcl]
              rw [List.length_append, hfl, hd] at hlc
              exact hlc
      · have he : d[k] ≠ d[k - 1] := by
          intro e
          rw [e] at hc
          simp [aqv] at hc
        (repeat (first | refine g_sq ?_ | refine g_rg ?_ | refine g_r0 ?_ | refine g_ok rfl rfl ?_ | refine g_no rfl ?_ | refine g_no0 rfl ?_ | refine g_bk ?_ | refine g_b ?_ | refine g_sk ?_ | refine g_cT rfl ?_ | refine g_cF rfl ?_ | refine g_x rfl ?_ | refine g_lb ?_))
        refine g_rq rfl rfl (in64 (by simp only [arv]; omega)) ?_
        (repeat (first | refine g_sq ?_ | refine g_rg ?_ | refine g_r0 ?_ | refine g_ok rfl rfl ?_ | refine g_no rfl ?_ | refine g_no0 rfl ?_ | refine g_bk ?_ | refine g_b ?_ | refine g_sk ?_ | refine g_cT rfl ?_ | refine g_cF rfl ?_ | refine g_x rfl ?_ | refine g_lb ?_))
        refine g_l (k + 1) ⟨rfl, rfl, trivial⟩ ⟨by omega, by omega, ?_, hS⟩ (by omega)
        unfold ddn
        rw [if_pos (.inr (by rw [List.getElem?_eq_getElem (by omega), List.getElem?_eq_getElem (by omega)]; simpa using he)), hdk, List.getElem?_eq_getElem (by omega), List.take_succ_eq_append_getElem (by omega)]
        rfl
    · have e : k = n := by omega
      subst e
      have e : ddn d k = d := by rw [hdk, List.take_of_length_le (by omega)]
      rw [e] at h
      (repeat (first | refine g_sq ?_ | refine g_rg ?_ | refine g_r0 ?_ | refine g_ok rfl rfl ?_ | refine g_no rfl ?_ | refine g_no0 rfl ?_ | refine g_bk ?_ | refine g_b ?_ | refine g_sk ?_ | refine g_cT rfl ?_ | refine g_cF rfl ?_ | refine g_x rfl ?_ | refine g_lb ?_))
      exact g_ret (q_1 rfl (h _ _ _ hd (hS.close_row 0 rfl hnc (by rw [hfl, hd]) (List.prefix_append _ _) hlc)))
end
end Go.Proofs.YtibofabkpgigoaaGreatDoor
