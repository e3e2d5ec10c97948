/- The function turn of the package sha turns a word to the right, run by the evaluator at each of its ten numbers; no condition. -/
import Derived.Test.YtjilbigenfhieaaGreatDoorEvb
import Derived.Test.YtjilbigenfhieaaGreatDoorProg
import Derived.KernelRfl
namespace Go.Ev
open Go Go.Ab Go.Proofs
set_option maxRecDepth 1000000
theorem turns_run : ∀ n, n ∈ turns → ∀ x, ∃ st1, runX Tryz.prog noCtr 100 252 [.one (.v (.int .u32 (.ofNat x))), .one (.v (.int .i64 (.ofNat n)))] = some (.one (.v (.int .u32 (.ofNat (rotE x n)))), st1) := by
  intro n hn x
  simp only [turns, List.mem_cons, List.not_mem_nil, or_false] at hn
  rcases hn with rfl | rfl | rfl | rfl | rfl | rfl | rfl | rfl | rfl | rfl <;> exact ⟨⟨.leaf, 0⟩, by kernel_rfl⟩
end Go.Ev
