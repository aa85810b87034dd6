/- DepotNames: errors have their numbers, and the examples of the chapter hold. It holds of every input: no condition. -/
import Derived.Test.YtegjocpjmfaigaaLd
import Derived.Test.YtegjocpjmfaigaaNo
import Derived.Test.YtegjocpjmfaigaaRows
import Derived.WalkKit
import Derived.ProofKit
import Derived.OpenShut
import Derived.ChangeOld
set_option linter.unusedSimpArgs false
set_option linter.unusedVariables false
namespace Go.Proofs.Ytegjocpjmfaigaa
open Go.ChangeShapes Go.WideShapes Go.ChangeAt Go.RowKit

theorem depotNames_own : ownKnob Try.prog.godebug = none := by kernel_rfl
theorem depotNames_laid : laidOutB Try.prog = true := by kernel_rfl
set_option maxRecDepth 100000 in
theorem depotNames_lifted (os : Os) (started : os.Started) (H : Type) (enc : TypeId × Value → H) :
    ReturnsInHanded {} Try.checked os 15 .any (Rows.depotNamesSpec.pre6 enc Try.prog Try.f15 Rows.depotNamesRow.domain false) (Rows.depotNamesSpec.post enc Try.prog Try.f15 false true false false) := by
  refine returnsInHanded_of_change (C := Try.checked) depotNames_own started (by kernel_rfl) Try.func15
    (ChangeSpec.witness6 (enc := enc) (C := Try.checked) false ⟨#[], #[], []⟩ 8 (by kernel_rfl) (by kernel_rfl) (by kernel_rfl) (by kernel_rfl)) ?_
  intro W base args ds gs before hval0 hW hcnd _
  have hval : ∀ (j : Nat) t v, Try.f15.params[j]? = some t → args[j]? = some v → Value.okWide Try.prog W .any base t v := hval0
  have hW' := hW
  obtain ⟨p, q, hA0, hV, rfl, hfz, hnd⟩ := hW
  have hA : DataW.TrodAll enc Try.prog W 0 (fun _ => true) true Try.f15.params.toList args.toList ds p := hA0
  rw [Try.params15] at hA hval
  obtain ⟨hargs, rfl, rfl⟩ := trodAll_nil hA
  obtain rfl : args = #[] := by cases args; simp_all
  obtain ⟨rfl, rfl⟩ := trodVars_none hV
  clear hA0 hval0
  have hcall : En.CK Try.prog 15 [] W (fun v w' => v = .bool true ∧ En.Fr W (fun _ => False) w') := l15  fun w' hf => ⟨rfl, hf⟩
  refine Calls.mono hcall ?_
  rintro e W' ⟨v, rfl, rfl, hfr⟩
  have bel := below_of hfr
  exact ⟨_, rfl, _, _, _, [], _, [], hW', trodAll_mk1 (shut_bool Try.underlying4 _), trodAll_mk0, rfl, bel.frame _, fun h => by cases h⟩

theorem depotNames_over : Rows.depotNamesRow.holds Try.pinned (OpenSpec.ofChange Rows.depotNamesSpec) :=
  OpenClaim.holds_of_wide 15 Try.f15 rfl rfl rfl rfl rfl rfl rfl ⟨rfl, rfl, rfl, rfl, rfl⟩ rfl rfl rfl rfl rfl (by kernel_rfl) Try.func15 (by kernel_rfl)
    (of_decide_eq_true (by kernel_rfl)) (by unfold Func.isWrapper; first | (rw [if_pos (by decide +kernel)]; kernel_rfl) | (rw [if_neg (by decide +kernel)]; exact ⟨rfl, rfl⟩))
    (fun os started H enc _ => depotNames_lifted os started H enc)

theorem depotNames_holds : Rows.DepotNamesSaid := depotNames_over
#print axioms depotNames_holds
end Go.Proofs.Ytegjocpjmfaigaa
