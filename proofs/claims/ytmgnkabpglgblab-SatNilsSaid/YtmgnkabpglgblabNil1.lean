/- SatNils in the interpreter: each literal that is there, and all that aren't. -/
import Derived.Test.YtmgnkabpglgblabNil0
namespace AM
open Go Go.Proofs
theorem Nil.near : ([(0, 0), (1, -1), (1, 0), (1, 1), (2, -2), (2, -1), (2, 0), (2, 1), (2, 2), (3, -3), (3, -2), (3, -1), (3, 0), (3, 1), (3, 2), (3, 3), (4, -4), (4, -3), (4, -2), (4, -1), (4, 0), (4, 1), (4, 2), (4, 3), (4, 4)].all fun (p : Int × Int) => Nil.ok p.1 p.2) = true := by kernel_rfl
theorem Nil.above0 (k : Nat) : Nil.ok 0 (Int.ofNat (k + 1)) = true := by kernel_rfl
theorem Nil.above1 (k : Nat) : Nil.ok 1 (Int.ofNat (k + 2)) = true := by kernel_rfl
theorem Nil.above2 (k : Nat) : Nil.ok 2 (Int.ofNat (k + 3)) = true := by kernel_rfl
theorem Nil.above3 (k : Nat) : Nil.ok 3 (Int.ofNat (k + 4)) = true := by kernel_rfl
theorem Nil.above4 (k : Nat) : Nil.ok 4 (Int.ofNat (k + 5)) = true := by kernel_rfl
theorem Nil.below0 (k : Nat) : Nil.ok 0 (Int.negSucc k) = true := by kernel_rfl
theorem Nil.below1 (k : Nat) : Nil.ok 1 (Int.negSucc (k + 1)) = true := by kernel_rfl
theorem Nil.below2 (k : Nat) : Nil.ok 2 (Int.negSucc (k + 2)) = true := by kernel_rfl
theorem Nil.below3 (k : Nat) : Nil.ok 3 (Int.negSucc (k + 3)) = true := by kernel_rfl
theorem Nil.below4 (k : Nat) : Nil.ok 4 (Int.negSucc (k + 4)) = true := by kernel_rfl
end AM
