/- The sum's inner step: the kit's walk. -/
import Derived.Test.YtegjocpjmfaigaaChecked
import Derived.Test.YtegjocpjmfaigaaEnQ
import Derived.WalkKit
set_option linter.unusedSimpArgs false
set_option linter.unusedVariables false
namespace Go.Proofs.Ytegjocpjmfaigaa
open Go.En
/-- a bit more of the register -/
def st143 (n : Int) : Int := bits BinOp.xor IntKind.u32 (n / 2) (bits BinOp.and IntKind.u32 3988292384 (-bits BinOp.and IntKind.u32 n 1 % 4294967296))
theorem w143 (n : Int) (w : World) : Calls Try.prog 143 #[.int .u32 n] w fun e w' => e = .returned (.int .u32 (st143 n)) ∧ w' = w := by
  go_enter Try.func143, Try.ntmps143
  go_wp2
  go_ret
  exact ⟨rfl, rfl⟩
theorem c143 {n : Int} {w : World} {K : Value → World → Prop} (h : K (.int .u32 (st143 n)) w) : CK Try.prog 143 [.int .u32 n] w K :=
  (w143 n w).mono fun e w' ⟨he, hw⟩ => ⟨_, he, hw ▸ h⟩
end Go.Proofs.Ytegjocpjmfaigaa
