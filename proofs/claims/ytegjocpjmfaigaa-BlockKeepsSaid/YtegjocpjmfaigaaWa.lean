/- Walks of the device. -/
import Derived.Test.YtegjocpjmfaigaaEnP
import Derived.Test.YtegjocpjmfaigaaMa
set_option linter.unusedSimpArgs false
set_option linter.unusedVariables false
namespace Go.Proofs.Ytegjocpjmfaigaa
open Go.En

structure Fal where
  a : Int
  k : Int
  t : Int
/-- A device: its blocks, the writes that wait, whether it is down, operations, the fall, operations since it was armed. -/
structure Dev where
  cells : List (List UInt8)
  waits : List (Int × List UInt8)
  down : Bool
  many : Int
  fall : Fal
  since : Int
def fc (l : List (List UInt8)) : List Value := (l.map bys).flatten
def wv (x : Int × List UInt8) : List Value := .int .i64 x.1 :: bys x.2
def fw (l : List (Int × List UInt8)) : List Value := (l.map wv).flatten
def DevC (vc vw : Value) (D : Dev) : List Value := [vc, vw, .bool D.down, .int .i64 D.many, .int .i64 D.fall.a, .int .i64 D.fall.k, .int .i64 D.fall.t, .int .i64 D.since]
def dp (b : Nat) : Value := .pointer (some ⟨b, 0, none⟩)

section
variable {w : World} {K : Value → World → Prop} {b n c : Nat} {a : Option Addr} {vc vw : Value} {D : Dev}
theorem d85 (hB : Blk w b (DevC (.slice a n c) vw D) 65) (h : K (.bool (decide (n = 0))) w) : CK Try.prog 85 [dp b] w K := by
  refine call_k Try.func85 k85 Try.ntmps85 (Nat.le_of_ble_eq_true rfl) ?_
  (repeat (first | refine g_sq ?_ | refine g_rg ?_ | refine g_r0 ?_ | refine g_ok rfl rfl ?_ | refine g_no rfl ?_ | refine g_no0 rfl ?_ | refine g_bk ?_ | refine g_b ?_ | refine g_sk ?_ | refine g_cT rfl ?_ | refine g_cF rfl ?_ | refine g_x rfl ?_ | refine g_lb ?_))
  refine g_l1 rfl rfl hB rfl ?_
  (repeat (first | refine g_sq ?_ | refine g_rg ?_ | refine g_r0 ?_ | refine g_ok rfl rfl ?_ | refine g_no rfl ?_ | refine g_no0 rfl ?_ | refine g_bk ?_ | refine g_b ?_ | refine g_sk ?_ | refine g_cT rfl ?_ | refine g_cF rfl ?_ | refine g_x rfl ?_ | refine g_lb ?_))
  refine g_ret (q_1 rfl ?_)
  have : cmv BinOp.eql (n : Int) 0 = decide (n = 0) := by simp only [cmv]; rw [Bool.eq_iff_iff]; simp
  rw [this]; exact h
theorem d78 (hB : Blk w b (DevC (.slice a (n + 1) c) vw D) 65) (h : K (.int .i64 (if D.down then 141 else 0)) w) : CK Try.prog 78 [dp b] w K := by
  refine call_k Try.func78 k78 Try.ntmps78 (Nat.le_of_ble_eq_true rfl) ?_
  (repeat (first | refine g_sq ?_ | refine g_rg ?_ | refine g_r0 ?_ | refine g_ok rfl rfl ?_ | refine g_no rfl ?_ | refine g_no0 rfl ?_ | refine g_bk ?_ | refine g_b ?_ | refine g_sk ?_ | refine g_cT rfl ?_ | refine g_cF rfl ?_ | refine g_x rfl ?_ | refine g_lb ?_))
  refine g_cl rfl rfl (d85 hB ?_)
  (repeat (first | refine g_sq ?_ | refine g_rg ?_ | refine g_r0 ?_ | refine g_ok rfl rfl ?_ | refine g_no rfl ?_ | refine g_no0 rfl ?_ | refine g_bk ?_ | refine g_b ?_ | refine g_sk ?_ | refine g_cT rfl ?_ | refine g_cF rfl ?_ | refine g_x rfl ?_ | refine g_lb ?_))
  refine g_l1 rfl rfl hB rfl ?_
  (repeat (first | refine g_sq ?_ | refine g_rg ?_ | refine g_r0 ?_ | refine g_ok rfl rfl ?_ | refine g_no rfl ?_ | refine g_no0 rfl ?_ | refine g_bk ?_ | refine g_b ?_ | refine g_sk ?_ | refine g_cT rfl ?_ | refine g_cF rfl ?_ | refine g_x rfl ?_ | refine g_lb ?_))
  refine g_cd rfl (fun hc => ?_) (fun hc => ?_)
  · (repeat (first | refine g_sq ?_ | refine g_rg ?_ | refine g_r0 ?_ | refine g_ok rfl rfl ?_ | refine g_no rfl ?_ | refine g_no0 rfl ?_ | refine g_bk ?_ | refine g_b ?_ | refine g_sk ?_ | refine g_cT rfl ?_ | refine g_cF rfl ?_ | refine g_x rfl ?_ | refine g_lb ?_))
    refine g_ret (q_1 rfl ?_)
    rw [hc] at h; exact h
  · (repeat (first | refine g_sq ?_ | refine g_rg ?_ | refine g_r0 ?_ | refine g_ok rfl rfl ?_ | refine g_no rfl ?_ | refine g_no0 rfl ?_ | refine g_bk ?_ | refine g_b ?_ | refine g_sk ?_ | refine g_cT rfl ?_ | refine g_cF rfl ?_ | refine g_x rfl ?_ | refine g_lb ?_))
    refine g_ret (q_1 rfl ?_)
    rw [hc] at h; exact h
theorem d79 {i : Int} (hB : Blk w b (DevC (.slice a n c) vw D) 65) (h : K (.bool (decide (0 ≤ i ∧ i < (n : Int)))) w) : CK Try.prog 79 [dp b, .int .i64 i] w K := by
  refine call_k Try.func79 k79 Try.ntmps79 (Nat.le_of_ble_eq_true rfl) ?_
  (repeat (first | refine g_sq ?_ | refine g_rg ?_ | refine g_r0 ?_ | refine g_ok rfl rfl ?_ | refine g_no rfl ?_ | refine g_no0 rfl ?_ | refine g_bk ?_ | refine g_b ?_ | refine g_sk ?_ | refine g_cT rfl ?_ | refine g_cF rfl ?_ | refine g_x rfl ?_ | refine g_lb ?_))
  refine g_sp (t := 7) rfl fun s hs => ?_
  simp only [cmv] at hs
  cases s
  · (repeat (first | refine g_sq ?_ | refine g_rg ?_ | refine g_r0 ?_ | refine g_ok rfl rfl ?_ | refine g_no rfl ?_ | refine g_no0 rfl ?_ | refine g_bk ?_ | refine g_b ?_ | refine g_sk ?_ | refine g_cT rfl ?_ | refine g_cF rfl ?_ | refine g_x rfl ?_ | refine g_lb ?_))
    refine g_ret (q_1 rfl ?_)
    have e : decide (0 ≤ i ∧ i < (n : Int)) = false := by simp only [decide_eq_false_iff_not] at hs ⊢; omega
    rw [e] at h; exact h
  · (repeat (first | refine g_sq ?_ | refine g_rg ?_ | refine g_r0 ?_ | refine g_ok rfl rfl ?_ | refine g_no rfl ?_ | refine g_no0 rfl ?_ | refine g_bk ?_ | refine g_b ?_ | refine g_sk ?_ | refine g_cT rfl ?_ | refine g_cF rfl ?_ | refine g_x rfl ?_ | refine g_lb ?_))
    refine g_l1 rfl rfl hB rfl ?_
    (repeat (first | refine g_sq ?_ | refine g_rg ?_ | refine g_r0 ?_ | refine g_ok rfl rfl ?_ | refine g_no rfl ?_ | refine g_no0 rfl ?_ | refine g_bk ?_ | refine g_b ?_ | refine g_sk ?_ | refine g_cT rfl ?_ | refine g_cF rfl ?_ | refine g_x rfl ?_ | refine g_lb ?_))
    refine g_ret (q_1 rfl ?_)
    have e : decide (0 ≤ i ∧ i < (n : Int)) = decide (i < (n : Int)) := by simp only [decide_eq_true_eq] at hs; simp [hs]
    rw [e] at h; exact h
end
end Go.Proofs.Ytegjocpjmfaigaa
