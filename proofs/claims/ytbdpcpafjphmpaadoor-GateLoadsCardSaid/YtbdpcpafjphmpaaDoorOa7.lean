/- Dots are keys of a map. -/
import Derived.Test.YtbdpcpafjphmpaaDoorOa6
import Derived.Test.YtbdpcpafjphmpaaDoorEnK
set_option linter.unusedSimpArgs false
set_option linter.unusedVariables false
namespace Go.Proofs.YtbdpcpafjphmpaaDoor
open Go.En

theorem kl_dot : KL Tryd.prog 24 (keyK Tryd.prog 24) := kl_deep (m := 3) (by decide) (by kernel_rfl) (by kernel_rfl) (by kernel_rfl)
theorem dot_key {a b : Int} (ha : (Lit.int .i64 a).wf = true) (hb : (Lit.int .i64 b).wf = true) : keyK Tryd.prog 24 (.agg ⟨dc a b⟩) := by
  refine ⟨.string (keyBytes [.int .i64 a, .int .i64 b]), ?_⟩
  unfold keyOf
  rw [Tryd.underlying24]
  dsimp only
  rw [if_pos (by kernel_rfl)]
  have hm : Tryd.prog.types.size = (Tryd.prog.types.size - 1) + 1 := by kernel_rfl
  rw [hm]
  unfold Program.keyLits
  rw [Tryd.underlying24]
  dsimp only
  unfold Program.keyLits
  have h2 : Tryd.prog.cellsOf 24 = 2 := by kernel_rfl
  have h1 : Tryd.prog.cellsOf 3 = 1 := by kernel_rfl
  simp [dc, Value.cells, Tryd.underlying3, ha, hb, h1, h2]
end Go.Proofs.YtbdpcpafjphmpaaDoor
