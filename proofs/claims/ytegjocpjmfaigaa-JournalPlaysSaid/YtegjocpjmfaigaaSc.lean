/- The chapter's first examples hold. -/
import Derived.Test.YtegjocpjmfaigaaSb
set_option linter.unusedSimpArgs false
set_option linter.unusedVariables false
namespace Go.Proofs.Ytegjocpjmfaigaa
open Go.En

def a0 : Dev := Dev.new 2
def a1 : Dev := (a0.write 0 [97, 98]).1
def a2 : Dev := if a1.down then a1 else a1.crash ⟨0, 0, 1⟩
theorem a_w : (a0.write 0 [97, 98]).2 = 0 := by decide +kernel
theorem a_1 : a1.down = false ∧ ((0 : Int) ≤ 0 ∧ (0 : Int) < a1.cells.length) ∧ a1.rd 0 = pad [97, 98] := by decide +kernel
theorem a_2 : a1.waits.length = 1 := by decide +kernel
theorem a_3 : (if a1.down then (141 : Int) else 0) = 0 := by decide +kernel
theorem a_4 : a2.boot.down = false ∧ ((0 : Int) ≤ 0 ∧ (0 : Int) < a2.boot.cells.length) ∧ a2.boot.rd 0 = pad [97] := by decide +kernel
theorem a_5 : a2.boot.down = false ∧ ((0 : Int) ≤ 1 ∧ (1 : Int) < a2.boot.cells.length) ∧ a2.boot.rd 1 = pad [] := by decide +kernel
section
variable {w w0 : World} {S0 S : Nat → Prop} {K : Value → World → Prop} {L : List Res}
theorem b22 (h : ∀ w', St w (fun _ => False) w' [] → K (.bool true) w') : CK Try.prog 22 [] w K := by
  refine call_k Try.func22 k22 Try.ntmps22 (Nat.le_of_ble_eq_true rfl) ?_
  (repeat (first | refine g_sq ?_ | refine g_rg ?_ | refine g_r0 ?_ | refine g_ok rfl rfl ?_ | refine g_no rfl ?_ | refine g_no0 rfl ?_ | refine g_bk ?_ | refine g_b ?_ | refine g_sk ?_ | refine g_cT rfl ?_ | refine g_cF rfl ?_ | refine g_x rfl ?_ | refine g_lb ?_))
  refine g_cl rfl rfl (c18 (St.nil w (fun _ => False)) (fun hn => absurd ⟨by decide, by decide⟩ hn) (fun _ w1 S1 b hS => ?_))
  have hS : St w (fun _ => False) w1 [DevR S1 b a0] := hS
  (repeat (first | refine g_sq ?_ | refine g_rg ?_ | refine g_r0 ?_ | refine g_ok rfl rfl ?_ | refine g_no rfl ?_ | refine g_no0 rfl ?_ | refine g_bk ?_ | refine g_b ?_ | refine g_sk ?_ | refine g_cT rfl ?_ | refine g_cF rfl ?_ | refine g_x rfl ?_ | refine g_lb ?_))
  refine g_ef rfl (ef_bl hS rfl fun g w1 hS => ?_)
  refine g_ef rfl (ef_mb hS 1 rfl rfl fun w1 hS => ?_)
  (repeat (first | refine g_sq ?_ | refine g_rg ?_ | refine g_r0 ?_ | refine g_ok rfl rfl ?_ | refine g_no rfl ?_ | refine g_no0 rfl ?_ | refine g_bk ?_ | refine g_b ?_ | refine g_sk ?_ | refine g_cT rfl ?_ | refine g_cF rfl ?_ | refine g_x rfl ?_ | refine g_lb ?_))
  refine g_cl rfl rfl (c23 (bs := [97, 98]) (E := 5) (n := 2) hS (.inr ⟨g, 0, 2, _, rfl, Nat.le_refl _, Nat.le_refl _, rfl, (hS.b 1 rfl).r⟩) (fun x hx hs => hS.dis 0 1 _ _ rfl rfl (by decide) x hs (vb_vo hx)) (by decide) fun w1 S2 hS => ?_)
  rw [a_w]
  have hS : St w (fun _ => False) w1 [DevR S2 b a1] := hS.sel [0] rfl rfl
  (repeat (first | refine g_sq ?_ | refine g_rg ?_ | refine g_r0 ?_ | refine g_ok rfl rfl ?_ | refine g_no rfl ?_ | refine g_no0 rfl ?_ | refine g_bk ?_ | refine g_b ?_ | refine g_sk ?_ | refine g_cT rfl ?_ | refine g_cF rfl ?_ | refine g_x rfl ?_ | refine g_lb ?_))
  refine g_cl rfl rfl (c35 (s := [97, 98]) hS (by decide) fun w1 S3 hS => ?_)
  rw [decide_eq_true a_1]
  (repeat (first | refine g_sq ?_ | refine g_rg ?_ | refine g_r0 ?_ | refine g_ok rfl rfl ?_ | refine g_no rfl ?_ | refine g_no0 rfl ?_ | refine g_bk ?_ | refine g_b ?_ | refine g_sk ?_ | refine g_cT rfl ?_ | refine g_cF rfl ?_ | refine g_x rfl ?_ | refine g_lb ?_))
  refine g_cl rfl rfl (d31 hS ?_)
  rw [a_2]
  (repeat (first | refine g_sq ?_ | refine g_rg ?_ | refine g_r0 ?_ | refine g_ok rfl rfl ?_ | refine g_no rfl ?_ | refine g_no0 rfl ?_ | refine g_bk ?_ | refine g_b ?_ | refine g_sk ?_ | refine g_cT rfl ?_ | refine g_cF rfl ?_ | refine g_x rfl ?_ | refine g_lb ?_))
  refine g_cl rfl rfl (c27 (f := ⟨0, 0, 1⟩) hS fun w1 S4 hS => ?_)
  rw [a_3]
  have hS : St w (fun _ => False) w1 [DevR S4 b a2] := hS
  (repeat (first | refine g_sq ?_ | refine g_rg ?_ | refine g_r0 ?_ | refine g_ok rfl rfl ?_ | refine g_no rfl ?_ | refine g_no0 rfl ?_ | refine g_bk ?_ | refine g_b ?_ | refine g_sk ?_ | refine g_cT rfl ?_ | refine g_cF rfl ?_ | refine g_x rfl ?_ | refine g_lb ?_))
  refine g_cl rfl rfl (c29 hS fun w1 S5 hS => ?_)
  (repeat (first | refine g_sq ?_ | refine g_rg ?_ | refine g_r0 ?_ | refine g_ok rfl rfl ?_ | refine g_no rfl ?_ | refine g_no0 rfl ?_ | refine g_bk ?_ | refine g_b ?_ | refine g_sk ?_ | refine g_cT rfl ?_ | refine g_cF rfl ?_ | refine g_x rfl ?_ | refine g_lb ?_))
  refine g_cl rfl rfl (c35 (s := [97]) hS (by decide) fun w1 S6 hS => ?_)
  rw [decide_eq_true a_4]
  (repeat (first | refine g_sq ?_ | refine g_rg ?_ | refine g_r0 ?_ | refine g_ok rfl rfl ?_ | refine g_no rfl ?_ | refine g_no0 rfl ?_ | refine g_bk ?_ | refine g_b ?_ | refine g_sk ?_ | refine g_cT rfl ?_ | refine g_cF rfl ?_ | refine g_x rfl ?_ | refine g_lb ?_))
  refine g_cl rfl rfl (c35 (s := []) hS (by decide) fun w1 S7 hS => ?_)
  rw [decide_eq_true a_5]
  (repeat (first | refine g_sq ?_ | refine g_rg ?_ | refine g_r0 ?_ | refine g_ok rfl rfl ?_ | refine g_no rfl ?_ | refine g_no0 rfl ?_ | refine g_bk ?_ | refine g_b ?_ | refine g_sk ?_ | refine g_cT rfl ?_ | refine g_cF rfl ?_ | refine g_x rfl ?_ | refine g_lb ?_))
  exact g_ret (q_1 rfl (h _ (hS.sel [] rfl rfl)))
theorem c22 (hS : St w0 S0 w L) (h : ∀ w', St w0 S0 w' L → K (.bool true) w') : CK Try.prog 22 [] w K :=
  b22 fun w' h' => h w' (by simpa using hS.call0.2 w' _ h')
end
end Go.Proofs.Ytegjocpjmfaigaa
