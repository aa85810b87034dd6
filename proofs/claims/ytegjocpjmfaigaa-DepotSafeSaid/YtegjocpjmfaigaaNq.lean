/- DepotSafe: what was appended and compacted with OK is there behind any crash, and of the one in which it crashes all is there, or what was there before. It holds of every input: no condition. -/
import Derived.Test.YtegjocpjmfaigaaLd
import Derived.Test.YtegjocpjmfaigaaNm
import Derived.Test.YtegjocpjmfaigaaNi
import Derived.Test.YtegjocpjmfaigaaRows
import Derived.WalkKit
import Derived.ProofKit
import Derived.OpenShut
import Derived.ChangeOld
set_option linter.unusedSimpArgs false
set_option linter.unusedVariables false
namespace Go.Proofs.Ytegjocpjmfaigaa
open Go.ChangeShapes Go.WideShapes Go.ChangeAt Go.RowKit

theorem depotSafe_own : ownKnob Try.prog.godebug = none := by kernel_rfl
theorem depotSafe_laid : laidOutB Try.prog = true := by kernel_rfl
set_option maxRecDepth 100000 in
theorem depotSafe_lifted (os : Os) (started : os.Started) (H : Type) (enc : TypeId × Value → H) :
    ReturnsInHanded {} Try.checked os 16 .any (Rows.depotSafeSpec.pre6 enc Try.prog Try.f16 Rows.depotSafeRow.domain false) (Rows.depotSafeSpec.post enc Try.prog Try.f16 false true false false) := by
  refine returnsInHanded_of_change (C := Try.checked) depotSafe_own started (by kernel_rfl) Try.func16
    (ChangeSpec.witness6 (enc := enc) (C := Try.checked) false ⟨#[], #[.int .u8 0, .slice none 0 0], []⟩ 8 (by kernel_rfl) (by kernel_rfl) (by kernel_rfl) (by kernel_rfl)) ?_
  intro W base args ds gs before hval0 hW hcnd _
  have hval : ∀ (j : Nat) t v, Try.f16.params[j]? = some t → args[j]? = some v → Value.okWide Try.prog W .any base t v := hval0
  have hW' := hW
  obtain ⟨p, q, hA0, hV, rfl, hfz, hnd⟩ := hW
  have hA : DataW.TrodAll enc Try.prog W 0 (fun _ => true) true Try.f16.params.toList args.toList ds p := hA0
  rw [Try.params16] at hA hval
  obtain ⟨v0, vs0, d0, ds0, p0, q0, hargs, rfl, rfl, h0, r0⟩ := trodAll_cons hA
  obtain ⟨v1, vs1, d1, ds1, p1, q1, rfl, rfl, rfl, h1, r1⟩ := trodAll_cons r0
  obtain ⟨rfl, rfl, rfl⟩ := trodAll_nil r1
  obtain rfl : args = #[v0, v1] := by cases args; simp_all
  obtain ⟨rfl, rfl⟩ := trodVars_none hV
  obtain ⟨a0, rfl, rfl, rfl, w0⟩ := open_int Try.underlying5 (hval 0 5 v0 rfl rfl) h0
  have k1 := h1
  have lt1 : ∀ x ∈ p1, x.block < W.heap.size := by obtain ⟨m, hm⟩ := k1; exact DataW.trod_lt m _ _ _ hm
  obtain ⟨a1, len1, cap1, rfl⟩ := okWide_slice Try.underlying95 (hval 1 95 v1 rfl rfl)
  obtain ⟨E1, ops1, hops1⟩ := opsp_of ⟨_, _, _, rfl⟩ h1
  clear hA0 hval0
  have hcall : En.CK Try.prog 16 [.int .u8 a0, .slice a1 len1 cap1] W (fun v w' => v = .bool true ∧ En.Fr W (fun _ => False) w') := l16 (u8_rng w0) hops1 fun w' hf => ⟨rfl, hf⟩
  refine Calls.mono hcall ?_
  rintro e W' ⟨v, rfl, rfl, hfr⟩
  have bel := below_of hfr
  exact ⟨_, rfl, _, _, _, [], _, [], hW', trodAll_mk1 (shut_bool Try.underlying4 _), (trodAll_cons_mk (shut_int Try.underlying5 w0) (trodAll_cons_mk (Below.trod depotSafe_laid (by kernel_rfl) (of_decide_eq_true (by kernel_rfl)) k1 bel lt1) trodAll_mk0)), rfl, bel.frame _, fun h => by cases h⟩

theorem depotSafe_over : Rows.depotSafeRow.holds Try.pinned (OpenSpec.ofChange Rows.depotSafeSpec) :=
  OpenClaim.holds_of_wide 16 Try.f16 rfl rfl rfl rfl rfl rfl rfl ⟨rfl, rfl, rfl, rfl, rfl⟩ rfl rfl rfl rfl rfl (by kernel_rfl) Try.func16 (by kernel_rfl)
    (of_decide_eq_true (by kernel_rfl)) (by unfold Func.isWrapper; first | (rw [if_pos (by decide +kernel)]; kernel_rfl) | (rw [if_neg (by decide +kernel)]; exact ⟨rfl, rfl⟩))
    (fun os started H enc _ => depotSafe_lifted os started H enc)

theorem depotSafe_holds : Rows.DepotSafeSaid := depotSafe_over
#print axioms depotSafe_holds
end Go.Proofs.Ytegjocpjmfaigaa
