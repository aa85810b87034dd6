/- Walks of the device: operations, crashes, boots, arms. -/
import Derived.Test.YtegjocpjmfaigaaWe
set_option linter.unusedSimpArgs false
set_option linter.unusedVariables false
namespace Go.Proofs.Ytegjocpjmfaigaa
open Go.En

def Dev.crash (D : Dev) (f : Fal) : Dev := { D with cells := crashC f 0 D.waits D.cells, waits := [], down := true, fall := ⟨0, 0, 0⟩ }
def inc (n : Int) : Int := IntKind.i64.wrap (n + 1)
/-- one operation more -/
def Dev.oper (D : Dev) : Dev × Int := if 0 < D.fall.a ∧ inc D.since = D.fall.a then (Dev.crash { D with since := inc D.since } D.fall, 141) else ({ D with since := inc D.since, many := inc D.many }, 0)
theorem Dev.wf.crash {D : Dev} (h : D.wf) (f : Fal) : (D.crash f).wf :=
  ⟨fun e => h.1 (List.length_eq_zero_iff.1 (by rw [← crashC_len f D.waits 0 D.cells]; exact List.length_eq_zero_iff.2 e)), crashC_mem f _ _ _ h.2.1 (fun x hx => h.2.2.1 x hx), (fun x hx => nomatch hx), Nat.lt_of_le_of_lt (Nat.zero_le _) h.2.2.2⟩

section
variable {w w0 : World} {S0 S : Nat → Prop} {K : Value → World → Prop} {b : Nat} {D : Dev} {B : List Res}
theorem b84 {f : Fal} (hS : St w0 S0 w [DevR S b D]) (h : ∀ w' S', St w0 S0 w' [DevR S' b (D.crash f)] → K (.tuple ⟨[]⟩) w') : CK Try.prog 84 [dp b, falV f] w K := by
  obtain ⟨hw, bc, cap, rest, a, c, h1, h2, hS⟩ := DevR.opn hS
  refine d84 hw.2.1 hw.2.2.1 (Nat.lt_trans hw.2.2.2 (by decide)) hS fun w' hS => ?_
  have hl : (crashC f 0 D.waits D.cells).length = D.cells.length := crashC_len f _ _ _
  have hw' := hw.crash f
  obtain ⟨S', hS⟩ := DevR.cls' (D := D.crash f) (cap := cap) (rest := rest) (bc := bc) (b := b) (B := []) hw' (by rw [show (D.crash f).cells.length = D.cells.length from hl]; exact h1)
    (by rw [← h2, List.length_append, List.length_append, fc_len hw'.2.1, fc_len hw.2.1, show (D.crash f).cells.length = D.cells.length from hl]) (by
      have e : (D.crash f).cells.length = D.cells.length := hl
      rw [e]
      exact hS)
  exact h _ _ hS

theorem c84 {f : Fal} (hS : St w0 S0 w (DevR S b D :: B)) (h : ∀ w' S', St w0 S0 w' (DevR S' b (D.crash f) :: B) → K (.tuple ⟨[]⟩) w') : CK Try.prog 84 [dp b, falV f] w K := CK.dev hS b84 h
theorem b81 (hS : St w0 S0 w [DevR S b D]) (h : ∀ w' S', St w0 S0 w' [DevR S' b D.oper.1] → K (.int .i64 D.oper.2) w') : CK Try.prog 81 [dp b] w K := by
  obtain ⟨hw, bc, cap, rest, a, c, h1, h2, hS⟩ := DevR.opn hS
  refine call_k Try.func81 k81 Try.ntmps81 (Nat.le_of_ble_eq_true rfl) ?_
  (repeat (first | refine g_sq ?_ | refine g_rg ?_ | refine g_r0 ?_ | refine g_ok rfl rfl ?_ | refine g_no rfl ?_ | refine g_no0 rfl ?_ | refine g_bk ?_ | refine g_b ?_ | refine g_sk ?_ | refine g_cT rfl ?_ | refine g_cF rfl ?_ | refine g_x rfl ?_ | refine g_lb ?_))
  refine g_l1 rfl rfl (hS.b  0 rfl) rfl ?_
  (repeat (first | refine g_sq ?_ | refine g_rg ?_ | refine g_r0 ?_ | refine g_ok rfl rfl ?_ | refine g_no rfl ?_ | refine g_no0 rfl ?_ | refine g_bk ?_ | refine g_b ?_ | refine g_sk ?_ | refine g_cT rfl ?_ | refine g_cF rfl ?_ | refine g_x rfl ?_ | refine g_lb ?_))
  refine g_ef0 rfl (ef_st hS 0 rfl rfl rfl rfl (Nat.le_of_ble_eq_true rfl) rfl fun w hS => ?_)
  (repeat (first | refine g_sq ?_ | refine g_rg ?_ | refine g_r0 ?_ | refine g_ok rfl rfl ?_ | refine g_no rfl ?_ | refine g_no0 rfl ?_ | refine g_bk ?_ | refine g_b ?_ | refine g_sk ?_ | refine g_cT rfl ?_ | refine g_cF rfl ?_ | refine g_x rfl ?_ | refine g_lb ?_))
  refine g_dr mixed ?_
  have hS := hS.drew
  have hS : St _ _ _ [cel b (DevC (.slice (some ⟨bc, 0, none⟩) D.cells.length cap) (.slice a D.waits.length c) { D with since := inc D.since }) 65, cel bc (fc D.cells ++ rest) 122, row (.slice a D.waits.length c) 124 129 D.waits.length (fw D.waits)] := hS
  (repeat (first | refine d_ok rfl rfl rfl ?_ | refine d_no rfl rfl ?_))
  refine d_l1 rfl rfl rfl (hS.b 0 rfl) rfl ?_
  (repeat (first | refine d_ok rfl rfl rfl ?_ | refine d_no rfl rfl ?_))
  generalize hg : cmv BinOp.gtr D.fall.a 0 = g
  have e0 : ¬ (0 < D.fall.a ∧ inc D.since = D.fall.a) → D.oper = ({ D with since := inc D.since, many := inc D.many }, 0) := fun h => by simp only [Dev.oper, if_neg h]
  have e1 : (0 < D.fall.a ∧ inc D.since = D.fall.a) → D.oper = (Dev.crash { D with since := inc D.since } D.fall, 141) := fun h => by simp only [Dev.oper, if_pos h]
  have fin : ∀ {w'}, St w0 S0 w' [cel b (DevC (.slice (some ⟨bc, 0, none⟩) D.cells.length cap) (.slice a D.waits.length c) { D with since := inc D.since, many := inc D.many }) 65, cel bc (fc D.cells ++ rest) 122, row (.slice a D.waits.length c) 124 129 D.waits.length (fw D.waits)] → ¬ (0 < D.fall.a ∧ inc D.since = D.fall.a) → K (.int .i64 0) w' := by
    intro w' hS hn
    obtain ⟨S', hS⟩ := DevR.cls' (D := { D with since := inc D.since, many := inc D.many }) (cap := cap) (rest := rest) (bc := bc) (b := b) (B := []) hw h1 h2 hS
    rw [e0 hn] at h
    exact h _ _ hS
  cases g
  · have hn : ¬ (0 < D.fall.a ∧ inc D.since = D.fall.a) := by simp only [cmv, decide_eq_false_iff_not] at hg; omega
    (repeat (first | refine d_ok rfl rfl rfl ?_ | refine d_no rfl rfl ?_))
    refine d_fin ?_
    (repeat (first | refine g_sq ?_ | refine g_rg ?_ | refine g_r0 ?_ | refine g_ok rfl rfl ?_ | refine g_no rfl ?_ | refine g_no0 rfl ?_ | refine g_bk ?_ | refine g_b ?_ | refine g_sk ?_ | refine g_cT rfl ?_ | refine g_cF rfl ?_ | refine g_x rfl ?_ | refine g_lb ?_))
    refine g_l1 rfl rfl (hS.b  0 rfl) rfl ?_
    (repeat (first | refine g_sq ?_ | refine g_rg ?_ | refine g_r0 ?_ | refine g_ok rfl rfl ?_ | refine g_no rfl ?_ | refine g_no0 rfl ?_ | refine g_bk ?_ | refine g_b ?_ | refine g_sk ?_ | refine g_cT rfl ?_ | refine g_cF rfl ?_ | refine g_x rfl ?_ | refine g_lb ?_))
    refine g_ef0 rfl (ef_st hS 0 rfl rfl rfl rfl (Nat.le_of_ble_eq_true rfl) rfl fun w hS => ?_)
    (repeat (first | refine g_sq ?_ | refine g_rg ?_ | refine g_r0 ?_ | refine g_ok rfl rfl ?_ | refine g_no rfl ?_ | refine g_no0 rfl ?_ | refine g_bk ?_ | refine g_b ?_ | refine g_sk ?_ | refine g_cT rfl ?_ | refine g_cF rfl ?_ | refine g_x rfl ?_ | refine g_lb ?_))
    exact g_ret (q_1 rfl (fin hS hn))
  · (repeat (first | refine d_ok rfl rfl rfl ?_ | refine d_no rfl rfl ?_))
    refine d_l1 rfl rfl rfl (hS.b 0 rfl) rfl ?_
    (repeat (first | refine d_ok rfl rfl rfl ?_ | refine d_no rfl rfl ?_))
    refine d_l1 rfl rfl rfl (hS.b 0 rfl) rfl ?_
    (repeat (first | refine d_ok rfl rfl rfl ?_ | refine d_no rfl rfl ?_))
    refine d_fin ?_
    refine g_cd rfl (fun hc => ?_) (fun hc => ?_)
    · have hn : 0 < D.fall.a ∧ inc D.since = D.fall.a := by simp only [cmv, decide_eq_true_eq] at hg hc; exact ⟨hg, hc⟩
      rw [e1 hn] at h
      (repeat (first | refine g_sq ?_ | refine g_rg ?_ | refine g_r0 ?_ | refine g_ok rfl rfl ?_ | refine g_no rfl ?_ | refine g_no0 rfl ?_ | refine g_bk ?_ | refine g_b ?_ | refine g_sk ?_ | refine g_cT rfl ?_ | refine g_cF rfl ?_ | refine g_x rfl ?_ | refine g_lb ?_))
      refine g_lm rfl rfl (hS.b 0 rfl) (Nat.le_of_ble_eq_true rfl) ?_
      (repeat (first | refine g_sq ?_ | refine g_rg ?_ | refine g_r0 ?_ | refine g_ok rfl rfl ?_ | refine g_no rfl ?_ | refine g_no0 rfl ?_ | refine g_bk ?_ | refine g_b ?_ | refine g_sk ?_ | refine g_cT rfl ?_ | refine g_cF rfl ?_ | refine g_x rfl ?_ | refine g_lb ?_))
      obtain ⟨S', hS⟩ := DevR.cls' (D := { D with since := inc D.since }) (cap := cap) (rest := rest) (bc := bc) (b := b) (B := []) hw h1 h2 hS
      refine g_cl rfl rfl (c84 (f := D.fall) hS fun w S' hS => ?_)
      (repeat (first | refine g_sq ?_ | refine g_rg ?_ | refine g_r0 ?_ | refine g_ok rfl rfl ?_ | refine g_no rfl ?_ | refine g_no0 rfl ?_ | refine g_bk ?_ | refine g_b ?_ | refine g_sk ?_ | refine g_cT rfl ?_ | refine g_cF rfl ?_ | refine g_x rfl ?_ | refine g_lb ?_))
      exact g_ret (q_1 rfl (h _ _ hS))
    · have hn : ¬ (0 < D.fall.a ∧ inc D.since = D.fall.a) := by simp only [cmv, decide_eq_true_eq, decide_eq_false_iff_not] at hg hc; exact fun h => hc h.2
      (repeat (first | refine g_sq ?_ | refine g_rg ?_ | refine g_r0 ?_ | refine g_ok rfl rfl ?_ | refine g_no rfl ?_ | refine g_no0 rfl ?_ | refine g_bk ?_ | refine g_b ?_ | refine g_sk ?_ | refine g_cT rfl ?_ | refine g_cF rfl ?_ | refine g_x rfl ?_ | refine g_lb ?_))
      refine g_l1 rfl rfl (hS.b  0 rfl) rfl ?_
      (repeat (first | refine g_sq ?_ | refine g_rg ?_ | refine g_r0 ?_ | refine g_ok rfl rfl ?_ | refine g_no rfl ?_ | refine g_no0 rfl ?_ | refine g_bk ?_ | refine g_b ?_ | refine g_sk ?_ | refine g_cT rfl ?_ | refine g_cF rfl ?_ | refine g_x rfl ?_ | refine g_lb ?_))
      refine g_ef0 rfl (ef_st hS 0 rfl rfl rfl rfl (Nat.le_of_ble_eq_true rfl) rfl fun w hS => ?_)
      (repeat (first | refine g_sq ?_ | refine g_rg ?_ | refine g_r0 ?_ | refine g_ok rfl rfl ?_ | refine g_no rfl ?_ | refine g_no0 rfl ?_ | refine g_bk ?_ | refine g_b ?_ | refine g_sk ?_ | refine g_cT rfl ?_ | refine g_cF rfl ?_ | refine g_x rfl ?_ | refine g_lb ?_))
      exact g_ret (q_1 rfl (fin hS hn))
theorem c81 (hS : St w0 S0 w (DevR S b D :: B)) (h : ∀ w' S', St w0 S0 w' (DevR S' b D.oper.1 :: B) → K (.int .i64 D.oper.2) w') : CK Try.prog 81 [dp b] w K := CK.dev hS b81 h
end
end Go.Proofs.Ytegjocpjmfaigaa
