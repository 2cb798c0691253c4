/- BaseNils in the interpreter: nothing looks at the arguments, so one run by the kernel serves them all. -/
import Derived.Test.YtmgnkabpglgblaaGreatEnv
import Derived.KernelRfl
namespace AM
open Go Go.Proofs
def isTrue : Option (Res × Mem) → Bool
  | some (.out (.ret (.bool true)) _, _) => true
  | _ => false
theorem isTrue_spec {x : Option (Res × Mem)} (h : isTrue x = true) : ∃ did m, x = some (.out (.ret (.bool true)) did, m) := by
  unfold isTrue at h
  split at h
  · exact ⟨_, _, rfl⟩
  · simp at h
theorem Bn.ok (k n : Int) (s : ByteArray) : isTrue (runK Tryz.env 2000 (.call 6 [.int .i64 k, .str s, .int .i64 n] none) ⟨.leaf, 0⟩) = true := by kernel_rfl
theorem Bn.runs (k n : Int) (s : ByteArray) : ∃ did m, run Tryz.env 2000 (.call 6 [.int .i64 k, .str s, .int .i64 n] none) ⟨.leaf, 0⟩ = some (.out (.ret (.bool true)) did, m) := by
  rw [← runK_eq]
  exact isTrue_spec (Bn.ok k n s)
end AM
