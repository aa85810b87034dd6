/- May a record be? By the program. -/
import Derived.Test.YtbdpcpafjphmpaaDoorOa3
set_option linter.unusedSimpArgs false
set_option linter.unusedVariables false
namespace Go.Proofs.YtbdpcpafjphmpaaDoor
open Go.En

theorem dotE_no {a b : Int} (h : dotB a b = false) : dotE a b = 50 := by unfold dotE; rw [if_neg (by rw [h]; decide)]
theorem dotE_ok {a b : Int} (h : dotB a b = true) : dotE a b = 0 := by unfold dotE; rw [if_pos h]
theorem dotB_in {a b : Int} (h : dotB a b = true) : 0 ≤ a ∧ a ≤ 15 ∧ 1 ≤ b ∧ b ≤ 4294967295 := of_decide_eq_true h
theorem recE_no {r : Rec} (h : recB r = false) : recE r = 120 := by unfold recE; rw [if_neg (by rw [h]; decide)]
theorem recE_ok {r : Rec} (h : recB r = true) : recE r = 0 := by unfold recE; rw [if_pos h]
theorem nm_cases (s : Bs) : nmE s = 0 ∨ nmE s = 40 := by unfold nmE; split <;> simp
theorem cmv_no {a b : Int} (h : a = b) : cmv BinOp.neq a b = false := by
  show (!decide (a = b)) = false
  rw [decide_eq_true h]
  rfl
theorem cmv_ye {a b : Int} (h : ¬ a = b) : cmv BinOp.neq a b = true := by
  show (!decide (a = b)) = true
  rw [decide_eq_false h]
  rfl
section
variable {w w0 : World} {S0 : Nat → Prop} {L B : List Res} {K : Value → World → Prop} {s : Bs} {E0 E1 : Nat}
set_option maxHeartbeats 4000000 in
theorem b_recCheck {r : Rec} (hg : Gl w) (h : ∀ w', St w (fun _ => False) w' [] → K (.int .i64 (recE r)) w') : CK Tryd.prog 16 [.agg ⟨rc r⟩] w K := by
  have hS := St.nil w (fun _ => False)
  have bad : recB r = false → ∀ {L : List Res} w', St w (fun _ => False) w' L → K (.int .i64 120) w' := fun e {L} w' hS => by
    rw [recE_no e] at h
    exact h _ (hS.sel [] rfl rfl)
  refine call_k Tryd.func16 k16 Tryd.ntmps16 (Nat.le_of_ble_eq_true rfl) ?_
  (repeat (first | refine g_sq ?_ | refine g_rg ?_ | refine g_r0 ?_ | refine g_ok rfl rfl ?_ | refine g_no rfl ?_ | refine g_no0 rfl ?_ | refine g_bk ?_ | refine g_b ?_ | refine g_sk ?_ | refine g_cT rfl ?_ | refine g_cF rfl ?_ | refine g_x rfl ?_ | refine g_lb ?_))
  refine g_ef rfl (ef_bx hS rfl fun b1 w1 hS => ?_)
  replace hS : St w (fun _ => False) w1 [cel b1 (rc r) 31] := hS
  (repeat (first | refine g_sq ?_ | refine g_rg ?_ | refine g_r0 ?_ | refine g_ok rfl rfl ?_ | refine g_no rfl ?_ | refine g_no0 rfl ?_ | refine g_bk ?_ | refine g_b ?_ | refine g_sk ?_ | refine g_cT rfl ?_ | refine g_cF rfl ?_ | refine g_x rfl ?_ | refine g_lb ?_))
  refine g_dr mixed ?_
  replace hS := hS.drew
  (repeat (first | refine d_ok rfl rfl rfl ?_ | refine d_no rfl rfl ?_))
  refine d_lm rfl rfl rfl (hS.b 0 rfl) (by rw [rc_len]; decide) ?_
  rw [rc_dot]
  refine d_cl rfl rfl rfl (b_dotCheck fun w1 h' => ?_)
  replace hS := hS.call0.2 _ _ h'
  rw [List.append_nil] at hS
  clear h'
  refine ⟨rc_0, ?_⟩
  cases hd : dotB r.site r.cnt
  · have e1 : recB r = false := by unfold recB; rw [hd]; rfl
    rw [dotE_no hd]
    (repeat (first | refine d_ok rfl rfl rfl ?_ | refine d_no rfl rfl ?_))
    refine d_en rfl rfl rc_0 ?_
    (repeat (first | refine d_ok rfl rfl rfl ?_ | refine d_no rfl rfl ?_))
    refine d_fin ?_
    (repeat (first | refine g_sq ?_ | refine g_rg ?_ | refine g_r0 ?_ | refine g_ok rfl rfl ?_ | refine g_no rfl ?_ | refine g_no0 rfl ?_ | refine g_bk ?_ | refine g_b ?_ | refine g_sk ?_ | refine g_cT rfl ?_ | refine g_cF rfl ?_ | refine g_x rfl ?_ | refine g_lb ?_))
    exact g_ret (q_1 rfl (bad e1 _ hS))
  · rw [dotE_ok hd]
    obtain ⟨s0, s15, c1, c2⟩ := dotB_in hd
    obtain ⟨n, hn⟩ := Int.eq_ofNat_of_zero_le s0
    have hk : n < r.ctx.length := by rw [r.l16]; omega
    have hcx : r.ctx.getD r.site.toNat 0 = r.ctx[n] := by
      rw [hn, Int.toNat_natCast, List.getD_eq_getElem?_getD, List.getElem?_eq_getElem hk]
      rfl
    have hc32 := r.b32 _ (List.getElem_mem hk)
    have hB : recB r = (decide ((r.ctx[n] : Int) + 1 = r.cnt) && (decide (nmE r.ref = 0) && (r.has || decide (r.tip = zip)))) := by
      unfold recB
      rw [hd, hcx, Bool.true_and]
    generalize hX : r.ctx[n] = X at hB hc32
    (repeat (first | refine d_ok rfl rfl rfl ?_ | refine d_no rfl rfl ?_))
    refine d_l1 rfl rfl rfl (hS.b 0 rfl) (v := .int .i64 r.site) rfl ?_
    (repeat (first | refine d_ok rfl rfl rfl ?_ | refine d_no rfl rfl ?_))
    refine d_rq rfl rfl rfl ⟨by omega, by omega⟩ ?_
    refine d_l1 rfl rfl rfl (hS.b 0 rfl) (v := .int .u32 (X : Int)) (by rw [hn, ← hX]; exact rc_ctx r hk) ?_
    (repeat (first | refine d_ok rfl rfl rfl ?_ | refine d_no rfl rfl ?_))
    refine d_l1 rfl rfl rfl (hS.b 0 rfl) (v := .int .i64 r.cnt) rfl ?_
    (repeat (first | refine d_ok rfl rfl rfl ?_ | refine d_no rfl rfl ?_))
    refine d_rq rfl rfl rfl (in64 (by simp only [arv]; omega)) ?_
    rw [show IntKind.i64.wrap (X : Int) = (X : Int) from wrap_in (in64 (by omega))]
    (repeat (first | refine d_ok rfl rfl rfl ?_ | refine d_no rfl rfl ?_))
    by_cases hq : (X : Int) + 1 = r.cnt
    · rw [show cmv BinOp.neq (X : Int) (arv BinOp.sub r.cnt 1) = false from cmv_no (show (X : Int) = r.cnt - 1 by omega)]
      rw [decide_eq_true hq, Bool.true_and] at hB
      (repeat (first | refine d_ok rfl rfl rfl ?_ | refine d_no rfl rfl ?_))
      refine d_l1 rfl rfl rfl (hS.b 0 rfl) (v := sv r.ref) (rc_18 r) ?_
      refine d_cl rfl rfl rfl (c_Check (hg.in hS) hS fun w1 hS => ⟨rc_0, ?_⟩)
      rcases nm_cases r.ref with hN | hN
      · rw [decide_eq_true hN, Bool.true_and] at hB
        rw [hN]
        (repeat (first | refine d_ok rfl rfl rfl ?_ | refine d_no rfl rfl ?_))
        refine d_l1 rfl rfl rfl (hS.b 0 rfl) (v := .bool r.has) (rc_19 r) ?_
        cases hh : r.has
        · rw [hh, Bool.false_or] at hB
          (repeat (first | refine d_ok rfl rfl rfl ?_ | refine d_no rfl rfl ?_))
          refine d_lm rfl rfl rfl (hS.b 0 rfl) (by rw [rc_len]; decide) ?_
          rw [rc_20]
          (repeat (first | refine d_ok rfl rfl rfl ?_ | refine d_no rfl rfl ?_))
          refine d_qt rfl rfl rfl (qt_aq (a := r.tip) (b := zip) rfl rfl r.l32 (by decide)) ?_
          cases hz : decide (r.tip = zip)
          · rw [hz] at hB
            rw [show aqv .neq r.tip zip = true by simp only [aqv]; rw [hz]; rfl]
            (repeat (first | refine d_ok rfl rfl rfl ?_ | refine d_no rfl rfl ?_))
            refine d_fin ?_
            (repeat (first | refine g_sq ?_ | refine g_rg ?_ | refine g_r0 ?_ | refine g_ok rfl rfl ?_ | refine g_no rfl ?_ | refine g_no0 rfl ?_ | refine g_bk ?_ | refine g_b ?_ | refine g_sk ?_ | refine g_cT rfl ?_ | refine g_cF rfl ?_ | refine g_x rfl ?_ | refine g_lb ?_))
            exact g_ret (q_1 rfl (bad hB _ hS))
          · rw [hz] at hB
            rw [show aqv .neq r.tip zip = false by simp only [aqv]; rw [hz]; rfl]
            rw [recE_ok hB] at h
            (repeat (first | refine d_ok rfl rfl rfl ?_ | refine d_no rfl rfl ?_))
            refine d_fin ?_
            (repeat (first | refine g_sq ?_ | refine g_rg ?_ | refine g_r0 ?_ | refine g_ok rfl rfl ?_ | refine g_no rfl ?_ | refine g_no0 rfl ?_ | refine g_bk ?_ | refine g_b ?_ | refine g_sk ?_ | refine g_cT rfl ?_ | refine g_cF rfl ?_ | refine g_x rfl ?_ | refine g_lb ?_))
            exact g_ret (q_1 rfl (h _ (hS.sel [] rfl rfl)))
        · rw [hh, Bool.true_or] at hB
          rw [recE_ok hB] at h
          (repeat (first | refine d_ok rfl rfl rfl ?_ | refine d_no rfl rfl ?_))
          refine d_fin ?_
          (repeat (first | refine g_sq ?_ | refine g_rg ?_ | refine g_r0 ?_ | refine g_ok rfl rfl ?_ | refine g_no rfl ?_ | refine g_no0 rfl ?_ | refine g_bk ?_ | refine g_b ?_ | refine g_sk ?_ | refine g_cT rfl ?_ | refine g_cF rfl ?_ | refine g_x rfl ?_ | refine g_lb ?_))
          exact g_ret (q_1 rfl (h _ (hS.sel [] rfl rfl)))
      · rw [decide_eq_false (by omega), Bool.false_and] at hB
        rw [hN]
        (repeat (first | refine d_ok rfl rfl rfl ?_ | refine d_no rfl rfl ?_))
        refine d_fin ?_
        (repeat (first | refine g_sq ?_ | refine g_rg ?_ | refine g_r0 ?_ | refine g_ok rfl rfl ?_ | refine g_no rfl ?_ | refine g_no0 rfl ?_ | refine g_bk ?_ | refine g_b ?_ | refine g_sk ?_ | refine g_cT rfl ?_ | refine g_cF rfl ?_ | refine g_x rfl ?_ | refine g_lb ?_))
        exact g_ret (q_1 rfl (bad hB _ hS))
    · rw [show cmv BinOp.neq (X : Int) (arv BinOp.sub r.cnt 1) = true from cmv_ye (show ¬ (X : Int) = r.cnt - 1 by omega)]
      rw [decide_eq_false hq, Bool.false_and] at hB
      (repeat (first | refine d_ok rfl rfl rfl ?_ | refine d_no rfl rfl ?_))
      refine d_en rfl rfl rc_0 ?_
      (repeat (first | refine d_ok rfl rfl rfl ?_ | refine d_no rfl rfl ?_))
      refine d_fin ?_
      (repeat (first | refine g_sq ?_ | refine g_rg ?_ | refine g_r0 ?_ | refine g_ok rfl rfl ?_ | refine g_no rfl ?_ | refine g_no0 rfl ?_ | refine g_bk ?_ | refine g_b ?_ | refine g_sk ?_ | refine g_cT rfl ?_ | refine g_cF rfl ?_ | refine g_x rfl ?_ | refine g_lb ?_))
      exact g_ret (q_1 rfl (bad hB _ hS))
end
end Go.Proofs.YtbdpcpafjphmpaaDoor
