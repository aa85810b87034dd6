/- The document's device: writes. -/
import Derived.Test.YtegjocpjmfaigaaRe
set_option linter.unusedSimpArgs false
set_option linter.unusedVariables false
namespace Go.Proofs.Ytegjocpjmfaigaa
open Go.En

section
variable {w w0 : World} {S0 S : Nat → Prop} {K : Value → World → Prop} {b : Nat} {D : Dev} {B L : List Res}
theorem lw_app (W : List (Int × Value × List UInt8)) (y : Int × Value × List UInt8) : lw (W ++ [y]) = lw W ++ [.int .i64 y.1, y.2.1] := by simp [lw]
set_option maxRecDepth 100000 in
theorem rb71 {i : Int} {v : Value} {E n : Nat} {bs : List UInt8} (hS : St w S0 w [RefR S b D]) (hb : Rd v E 1 n (bys bs) w) (hd : ∀ x, vb v x → ¬ S0 x) (hn : D.waits.length + 1 < 1152921504)
    (h : ∀ w' S', St w S0 w' [RefR S' b (D.write i bs).1] → K (.int .i64 (D.write i bs).2) w') : CK Try.prog 71 [dp b, .int .i64 i, v] w K := by
  have hlen : bs.length = n := by have := hb.len; simpa using this
  obtain ⟨av, cv, rfl⟩ := Rd.form hb
  refine call_k Try.func71 k71 Try.ntmps71 (Nat.le_of_ble_eq_true rfl) ?_
  obtain ⟨hwf, aC, cC, aL, cL, hB⟩ := RefR.blk hS
  (repeat (first | refine g_sq ?_ | refine g_rg ?_ | refine g_r0 ?_ | refine g_ok rfl rfl ?_ | refine g_no rfl ?_ | refine g_no0 rfl ?_ | refine g_bk ?_ | refine g_b ?_ | refine g_sk ?_ | refine g_cT rfl ?_ | refine g_cF rfl ?_ | refine g_x rfl ?_ | refine g_lb ?_))
  refine g_l1 rfl rfl hB rfl ?_
  (repeat (first | refine g_sq ?_ | refine g_rg ?_ | refine g_r0 ?_ | refine g_ok rfl rfl ?_ | refine g_no rfl ?_ | refine g_no0 rfl ?_ | refine g_bk ?_ | refine g_b ?_ | refine g_sk ?_ | refine g_cT rfl ?_ | refine g_cF rfl ?_ | refine g_x rfl ?_ | refine g_lb ?_))
  generalize hdn : D.down = dn
  cases dn
  · (repeat (first | refine g_sq ?_ | refine g_rg ?_ | refine g_r0 ?_ | refine g_ok rfl rfl ?_ | refine g_no rfl ?_ | refine g_no0 rfl ?_ | refine g_bk ?_ | refine g_b ?_ | refine g_sk ?_ | refine g_cT rfl ?_ | refine g_cF rfl ?_ | refine g_x rfl ?_ | refine g_lb ?_))
    have bad : ¬ ((0 ≤ i ∧ i < D.cells.length) ∧ bs.length ≤ 128) → D.write i bs = (D, 140) := fun hq => by simp [Dev.write, hdn, hq]
    generalize hg : cmv BinOp.lss i 0 = g
    cases g
    all_goals simp only [cmv, decide_eq_true_eq, decide_eq_false_iff_not] at hg
    · (repeat (first | refine g_sq ?_ | refine g_rg ?_ | refine g_r0 ?_ | refine g_ok rfl rfl ?_ | refine g_no rfl ?_ | refine g_no0 rfl ?_ | refine g_bk ?_ | refine g_b ?_ | refine g_sk ?_ | refine g_cT rfl ?_ | refine g_cF rfl ?_ | refine g_x rfl ?_ | refine g_lb ?_))
      refine g_l1 rfl rfl hB rfl ?_
      (repeat (first | refine g_sq ?_ | refine g_rg ?_ | refine g_r0 ?_ | refine g_ok rfl rfl ?_ | refine g_no rfl ?_ | refine g_no0 rfl ?_ | refine g_bk ?_ | refine g_b ?_ | refine g_sk ?_ | refine g_cT rfl ?_ | refine g_cF rfl ?_ | refine g_x rfl ?_ | refine g_lb ?_))
      generalize hg2 : cmv BinOp.geq i D.cells.length = g2
      cases g2
      all_goals simp only [cmv, decide_eq_true_eq, decide_eq_false_iff_not] at hg2
      · (repeat (first | refine g_sq ?_ | refine g_rg ?_ | refine g_r0 ?_ | refine g_ok rfl rfl ?_ | refine g_no rfl ?_ | refine g_no0 rfl ?_ | refine g_bk ?_ | refine g_b ?_ | refine g_sk ?_ | refine g_cT rfl ?_ | refine g_cF rfl ?_ | refine g_x rfl ?_ | refine g_lb ?_))
        refine g_cd rfl (fun hq => ?_) (fun hq => ?_)
        all_goals simp only [cmv, decide_eq_true_eq, decide_eq_false_iff_not] at hq
        · rw [bad (by omega)] at h
          (repeat (first | refine g_sq ?_ | refine g_rg ?_ | refine g_r0 ?_ | refine g_ok rfl rfl ?_ | refine g_no rfl ?_ | refine g_no0 rfl ?_ | refine g_bk ?_ | refine g_b ?_ | refine g_sk ?_ | refine g_cT rfl ?_ | refine g_cF rfl ?_ | refine g_x rfl ?_ | refine g_lb ?_))
          exact g_ret (q_1 rfl (h _ _ hS))
        · have hin : 0 ≤ i ∧ i < D.cells.length := by omega
          have hb128 : bs.length ≤ 128 := by omega
          have e : D.write i bs = (D.wr1 i bs).oper := by simp [Dev.write, hdn, hin, hb128]
          rw [e] at h
          clear hB
          (repeat (first | refine g_sq ?_ | refine g_rg ?_ | refine g_r0 ?_ | refine g_ok rfl rfl ?_ | refine g_no rfl ?_ | refine g_no0 rfl ?_ | refine g_bk ?_ | refine g_b ?_ | refine g_sk ?_ | refine g_cT rfl ?_ | refine g_cF rfl ?_ | refine g_x rfl ?_ | refine g_lb ?_))
          refine g_cl rfl rfl (b70 hb (bys_one _) (by omega) fun v1 w1 h' => ?_)
          have hS := hS.call0.2 w1 _ h'
          (repeat (first | refine g_sq ?_ | refine g_rg ?_ | refine g_r0 ?_ | refine g_ok rfl rfl ?_ | refine g_no rfl ?_ | refine g_no0 rfl ?_ | refine g_bk ?_ | refine g_b ?_ | refine g_sk ?_ | refine g_cT rfl ?_ | refine g_cF rfl ?_ | refine g_x rfl ?_ | refine g_lb ?_))
          refine g_lp (ι := Nat × Value) (fun p => [(0, dp b), (1, .int .i64 i), (7, p.2)])
            (fun p w1 => n ≤ p.1 ∧ p.1 ≤ 128 ∧ St w S0 w1 [RefR S b D, row p.2 5 1 p.1 (bys (bs ++ List.replicate (p.1 - n) 0))]) (fun p => 128 - p.1) (n, v1) ⟨rfl, rfl, rfl, trivial⟩ ⟨Nat.le_refl _, by omega, by rw [Nat.sub_self, List.replicate_zero, List.append_nil]; exact hS⟩ ?_
          clear hS
          rintro ⟨k, vk⟩ w1 ⟨hk1, hk2, hS⟩
          simp only at hk1 hk2
          obtain ⟨ak, ck, e7⟩ : ∃ ak ck, vk = .slice ak k ck := hS.rlen 1 rfl
          subst e7
          (repeat (first | refine g_sq ?_ | refine g_rg ?_ | refine g_r0 ?_ | refine g_ok rfl rfl ?_ | refine g_no rfl ?_ | refine g_no0 rfl ?_ | refine g_bk ?_ | refine g_b ?_ | refine g_sk ?_ | refine g_cT rfl ?_ | refine g_cF rfl ?_ | refine g_x rfl ?_ | refine g_lb ?_))
          refine g_cd rfl (fun hc => ?_) (fun hc => ?_)
          all_goals simp only [cmv, decide_eq_true_eq, decide_eq_false_iff_not] at hc
          · (repeat (first | refine g_sq ?_ | refine g_rg ?_ | refine g_r0 ?_ | refine g_ok rfl rfl ?_ | refine g_no rfl ?_ | refine g_no0 rfl ?_ | refine g_bk ?_ | refine g_b ?_ | refine g_sk ?_ | refine g_cT rfl ?_ | refine g_cF rfl ?_ | refine g_x rfl ?_ | refine g_lb ?_))
            refine g_ef rfl (ef_bl (rs := [.int .u8 0]) hS rfl fun g w1 hS => ?_)
            refine g_ef rfl (ef_ap (n := k) (m := 1) (ys := [.int .u8 0]) hS 1 rfl rfl rfl (.inl ⟨5, .inr ⟨g, 0, 1, _, rfl, Nat.le_refl _, Nat.le_refl _, rfl, (hS.b 2 rfl).r⟩⟩) rfl (by omega) (by omega) fun v' w1 hS => ?_)
            (repeat (first | refine g_sq ?_ | refine g_rg ?_ | refine g_r0 ?_ | refine g_ok rfl rfl ?_ | refine g_no rfl ?_ | refine g_no0 rfl ?_ | refine g_bk ?_ | refine g_b ?_ | refine g_sk ?_ | refine g_cT rfl ?_ | refine g_cF rfl ?_ | refine g_x rfl ?_ | refine g_lb ?_))
            refine g_l (k + 1, v') ⟨rfl, rfl, rfl, trivial⟩ ⟨by simp only; omega, by simp only; omega, ?_⟩ (by simp only; omega)
            have e8 : bys (bs ++ List.replicate (k - n) 0) ++ [.int .u8 0] = bys (bs ++ List.replicate (k + 1 - n) 0) := by
              rw [show k + 1 - n = (k - n) + 1 by omega, List.replicate_succ', bys_append, bys_append, bys_append, List.append_assoc]
              rfl
            simp only at hS ⊢
            rw [← e8]
            exact hS.sel [0, 1] rfl rfl
          · have e9 : k = 128 := by omega
            subst e9
            have hpad : bs ++ List.replicate (128 - n) 0 = pad bs := by rw [pad, hlen]
            simp only at hS
            rw [hpad] at hS
            have hpl := pad_len hb128
            obtain ⟨x, hx, hS⟩ := RefR.opn (B := [_]) hS
            obtain ⟨vC, vL, A, W⟩ := x
            have hwl : W.length = D.waits.length := hx.wl
            obtain ⟨aL, cL, rfl⟩ : ∃ aL cL, vL = .slice aL W.length cL := hS.rlen 2 rfl
            have hw' := hwf.wr1 hin hb128 hn
            have fin : ∀ {w' a' m' c' B'}, St w S0 w' (cel b (RefC vC (.slice a' m' c') D) 57 :: row vC 35 1 A.length (A.map (·.1)) :: row (.slice a' m' c') 147 2 (W.length + 1) (lw W ++ [.int .i64 i, .slice ak 128 ck]) :: pool (A ++ W.map (·.2) ++ [(.slice ak 128 ck, pad bs)]) :: B') → CK Try.prog 103 [dp b] w' fun v w1 => ∃ S', St w S0 w1 [RefR S' b (D.wr1 i bs).oper.1] ∧ v = .int .i64 (D.wr1 i bs).oper.2 := by
              intro w' a' m' c' B' hS
              have hS := hS.pool_sub (M' := A ++ (W ++ [((i, Value.slice ak 128 ck, pad bs) : Int × Value × List UInt8)]).map (·.2)) 3 rfl (fun q hq => by simpa [or_assoc] using hq)
              have el : (W ++ [((i, Value.slice ak 128 ck, pad bs) : Int × Value × List UInt8)]).length = W.length + 1 := by simp
              have ew := lw_app W (i, .slice ak 128 ck, pad bs)
              simp only at ew
              rw [← el, ← ew] at hS
              obtain ⟨S', hS⟩ := RefR.cls (x := ⟨vC, .slice a' m' c', A, W ++ [(i, Value.slice ak 128 ck, pad bs)]⟩) (D := D.wr1 i bs) (b := b) ⟨hw', hx.2.1, by
                have := hx.2.2
                simp only at this
                simp [Dev.wr1, this]⟩ hS
              exact rc103 hS fun w1 S1 hS => ⟨S1, hS.sel [0] rfl rfl, rfl⟩
            have hS := hS.pool_add (bs := pad bs) (v := .slice ak 128 ck) 3 4 rfl (by rw [hpl]; rfl) (by decide)
            (repeat (first | refine g_sq ?_ | refine g_rg ?_ | refine g_r0 ?_ | refine g_ok rfl rfl ?_ | refine g_no rfl ?_ | refine g_no0 rfl ?_ | refine g_bk ?_ | refine g_b ?_ | refine g_sk ?_ | refine g_cT rfl ?_ | refine g_cF rfl ?_ | refine g_x rfl ?_ | refine g_lb ?_))
            refine g_l1 rfl rfl (hS.b  0 rfl) rfl ?_
            (repeat (first | refine g_sq ?_ | refine g_rg ?_ | refine g_r0 ?_ | refine g_ok rfl rfl ?_ | refine g_no rfl ?_ | refine g_no0 rfl ?_ | refine g_bk ?_ | refine g_b ?_ | refine g_sk ?_ | refine g_cT rfl ?_ | refine g_cF rfl ?_ | refine g_x rfl ?_ | refine g_lb ?_))
            refine g_ef rfl (ef_bl (rs := [.int .i64 i, .slice ak 128 ck]) hS rfl fun g w1 hS => ?_)
            refine g_ef rfl (ef_ap (n := W.length) (m := 1) (ys := [.int .i64 i, .slice ak 128 ck]) hS 2 rfl rfl rfl (.inl ⟨147, .inr ⟨g, 0, 1, _, rfl, Nat.le_refl _, Nat.le_refl _, rfl, (hS.b 5 rfl).r⟩⟩) rfl (by omega) (by omega) fun v' w1 hS => ?_)
            obtain ⟨a', c', rfl⟩ := hS.rlen 2 rfl
            (repeat (first | refine g_sq ?_ | refine g_rg ?_ | refine g_r0 ?_ | refine g_ok rfl rfl ?_ | refine g_no rfl ?_ | refine g_no0 rfl ?_ | refine g_bk ?_ | refine g_b ?_ | refine g_sk ?_ | refine g_cT rfl ?_ | refine g_cF rfl ?_ | refine g_x rfl ?_ | refine g_lb ?_))
            refine g_ef0 rfl (ef_st hS 0 rfl rfl rfl rfl (Nat.le_of_ble_eq_true rfl) rfl fun w1 hS => ?_)
            (repeat (first | refine g_sq ?_ | refine g_rg ?_ | refine g_r0 ?_ | refine g_ok rfl rfl ?_ | refine g_no rfl ?_ | refine g_no0 rfl ?_ | refine g_bk ?_ | refine g_b ?_ | refine g_sk ?_ | refine g_cT rfl ?_ | refine g_cF rfl ?_ | refine g_x rfl ?_ | refine g_lb ?_))
            refine g_cl rfl rfl ((fin (hS.sel [0, 1, 2, 3] rfl rfl)).mono ?_)
            rintro v w1 ⟨S', hS, rfl⟩
            (repeat (first | refine g_sq ?_ | refine g_rg ?_ | refine g_r0 ?_ | refine g_ok rfl rfl ?_ | refine g_no rfl ?_ | refine g_no0 rfl ?_ | refine g_bk ?_ | refine g_b ?_ | refine g_sk ?_ | refine g_cT rfl ?_ | refine g_cF rfl ?_ | refine g_x rfl ?_ | refine g_lb ?_))
            exact g_ret (q_1 rfl (h _ _ hS))
      · rw [bad (by omega)] at h
        (repeat (first | refine g_sq ?_ | refine g_rg ?_ | refine g_r0 ?_ | refine g_ok rfl rfl ?_ | refine g_no rfl ?_ | refine g_no0 rfl ?_ | refine g_bk ?_ | refine g_b ?_ | refine g_sk ?_ | refine g_cT rfl ?_ | refine g_cF rfl ?_ | refine g_x rfl ?_ | refine g_lb ?_))
        exact g_ret (q_1 rfl (h _ _ hS))
    · rw [bad (by omega)] at h
      (repeat (first | refine g_sq ?_ | refine g_rg ?_ | refine g_r0 ?_ | refine g_ok rfl rfl ?_ | refine g_no rfl ?_ | refine g_no0 rfl ?_ | refine g_bk ?_ | refine g_b ?_ | refine g_sk ?_ | refine g_cT rfl ?_ | refine g_cF rfl ?_ | refine g_x rfl ?_ | refine g_lb ?_))
      exact g_ret (q_1 rfl (h _ _ hS))
  · have e : D.write i bs = (D, 141) := by simp [Dev.write, hdn]
    rw [e] at h
    (repeat (first | refine g_sq ?_ | refine g_rg ?_ | refine g_r0 ?_ | refine g_ok rfl rfl ?_ | refine g_no rfl ?_ | refine g_no0 rfl ?_ | refine g_bk ?_ | refine g_b ?_ | refine g_sk ?_ | refine g_cT rfl ?_ | refine g_cF rfl ?_ | refine g_x rfl ?_ | refine g_lb ?_))
    exact g_ret (q_1 rfl (h _ _ hS))
theorem rc71 {i : Int} {v : Value} {E n : Nat} {bs : List UInt8} (hS : St w0 S0 w (RefR S b D :: B)) (hb : Rd v E 1 n (bys bs) w) (hd : ∀ x, vb v x → ¬ S x) (hn : D.waits.length + 1 < 1152921504)
    (h : ∀ w' S', St w0 S0 w' (RefR S' b (D.write i bs).1 :: B) → K (.int .i64 (D.write i bs).2) w') : CK Try.prog 71 [dp b, .int .i64 i, v] w K := by
  have hf := St.frame (A := [RefR S b D]) (B := B) hS
  refine rb71 hf.1 hb (fun x hx => ?_) hn fun w' S' h' => h w' S' (hf.2 w' _ h')
  rintro ⟨j, r, hj, hr⟩
  cases j with
  | zero => simp at hj; subst hj; exact hd x hx hr
  | succ j => simp at hj
end
end Go.Proofs.Ytegjocpjmfaigaa
