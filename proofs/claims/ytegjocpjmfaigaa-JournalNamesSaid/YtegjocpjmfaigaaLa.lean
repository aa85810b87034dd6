/- The statements of the device: both devices say the same. -/
import Derived.Test.YtegjocpjmfaigaaRg
set_option linter.unusedSimpArgs false
set_option linter.unusedVariables false
namespace Go.Proofs.Ytegjocpjmfaigaa
open Go.En

theorem cmv_self (a : Int) : cmv BinOp.eql a a = true := by simp [cmv]
section
variable {w w0 : World} {S0 S S' : Nat → Prop} {K : Value → World → Prop} {p d r : Nat} {D : Dev} {B L : List Res}
theorem l21 (hS : St w0 S0 w (cel p [dp d, dp r] 33 :: DevR S d D :: RefR S' r D :: B)) (h : ∀ w', St w0 S0 w' (cel p [dp d, dp r] 33 :: DevR S d D :: RefR S' r D :: B) → K (.bool true) w') : CK Try.prog 21 [dp p] w K := by
  refine call_k Try.func21 k21 Try.ntmps21 (Nat.le_of_ble_eq_true rfl) ?_
  (repeat (first | refine g_sq ?_ | refine g_rg ?_ | refine g_r0 ?_ | refine g_ok rfl rfl ?_ | refine g_no rfl ?_ | refine g_no0 rfl ?_ | refine g_bk ?_ | refine g_b ?_ | refine g_sk ?_ | refine g_cT rfl ?_ | refine g_cF rfl ?_ | refine g_x rfl ?_ | refine g_lb ?_))
  refine g_dr mixed ?_
  have hS := hS.drew
  obtain ⟨_, aC, cC, aL, cL, hB⟩ := RefR.blk hS.tail.tail
  (repeat (first | refine d_ok rfl rfl rfl ?_ | refine d_no rfl rfl ?_))
  refine d_l1 rfl rfl rfl (hS.b 0 rfl) rfl ?_
  (repeat (first | refine d_ok rfl rfl rfl ?_ | refine d_no rfl rfl ?_))
  refine d_l1 rfl rfl rfl (hS.b 0 rfl) rfl ?_
  (repeat (first | refine d_ok rfl rfl rfl ?_ | refine d_no rfl rfl ?_))
  refine d_l1 rfl rfl rfl hB rfl ?_
  (repeat (first | refine d_ok rfl rfl rfl ?_ | refine d_no rfl rfl ?_))
  refine d_cl rfl rfl rfl (d28 hS.tail ⟨rc_1 rfl rfl rfl rfl (hS.b 0 rfl) rfl (rc_1 rfl rfl rfl rfl hB rfl rc_0), ?_⟩)
  refine d_ok (v := .bool true) rfl rfl (congrArg (fun x => R3.ok (.bool x)) (beq_self_eq_true (!D.down))) ?_
  (repeat (first | refine d_ok rfl rfl rfl ?_ | refine d_no rfl rfl ?_))
  refine d_l1 rfl rfl rfl (hS.b 0 rfl) rfl ?_
  (repeat (first | refine d_ok rfl rfl rfl ?_ | refine d_no rfl rfl ?_))
  refine d_l1 rfl rfl rfl (hS.b 0 rfl) rfl ?_
  (repeat (first | refine d_ok rfl rfl rfl ?_ | refine d_no rfl rfl ?_))
  refine d_l1 rfl rfl rfl hB rfl ?_
  (repeat (first | refine d_ok rfl rfl rfl ?_ | refine d_no rfl rfl ?_))
  refine d_cl rfl rfl rfl (d36 hS.tail ⟨rc_1 rfl rfl rfl rfl (hS.b 0 rfl) rfl (rc_1 rfl rfl rfl rfl hB rfl rc_0), ?_⟩)
  refine d_ok (v := .bool true) rfl rfl (congrArg (fun x => R3.ok (.bool x)) (cmv_self _)) ?_
  (repeat (first | refine d_ok rfl rfl rfl ?_ | refine d_no rfl rfl ?_))
  refine d_l1 rfl rfl rfl (hS.b 0 rfl) rfl ?_
  (repeat (first | refine d_ok rfl rfl rfl ?_ | refine d_no rfl rfl ?_))
  refine d_l1 rfl rfl rfl (hS.b 0 rfl) rfl ?_
  (repeat (first | refine d_ok rfl rfl rfl ?_ | refine d_no rfl rfl ?_))
  refine d_l1 rfl rfl rfl hB rfl ?_
  (repeat (first | refine d_ok rfl rfl rfl ?_ | refine d_no rfl rfl ?_))
  refine d_cl rfl rfl rfl (d31 hS.tail ⟨rc_1 rfl rfl rfl rfl (hS.b 0 rfl) rfl (rc_1 rfl rfl rfl rfl hB rfl rc_0), ?_⟩)
  refine d_ok (v := .bool true) rfl rfl (congrArg (fun x => R3.ok (.bool x)) (cmv_self _)) ?_
  (repeat (first | refine d_ok rfl rfl rfl ?_ | refine d_no rfl rfl ?_))
  refine d_l1 rfl rfl rfl (hS.b 0 rfl) rfl ?_
  (repeat (first | refine d_ok rfl rfl rfl ?_ | refine d_no rfl rfl ?_))
  refine d_l1 rfl rfl rfl (hS.b 0 rfl) rfl ?_
  (repeat (first | refine d_ok rfl rfl rfl ?_ | refine d_no rfl rfl ?_))
  refine d_l1 rfl rfl rfl hB rfl ?_
  refine d_cl rfl rfl rfl (d34 hS.tail ⟨rc_1 rfl rfl rfl rfl (hS.b 0 rfl) rfl (rc_1 rfl rfl rfl rfl hB rfl rc_0), ?_⟩)
  refine d_ok (v := .bool true) rfl rfl (congrArg (fun x => R3.ok (.bool x)) (cmv_self _)) ?_
  (repeat (first | refine d_ok rfl rfl rfl ?_ | refine d_no rfl rfl ?_))
  refine d_fin ?_
  exact g_ret (q_1 rfl (h _ hS))
end
end Go.Proofs.Ytegjocpjmfaigaa
