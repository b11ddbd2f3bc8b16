/- Two states are equal where all their numbers are: what the walk asks of the last eight. -/
import Derived.Test.YtfdkmkblhicbfaaD
import Derived.ChangeKeysEq
namespace Go.Proofs.Ytfdkmkblhicbfaa
set_option linter.all false
open Go.RowKit

theorem cells22 : Try.prog.cellsOf 22 = 1 := by kernel_rfl
theorem part0 (S : Nat → BitVec 64) (W : World) : (part 22 ((stC S).extract 23 31) 0).run Try.prog W = .ok (.int .u64 (U (S 23))) W := by kernel_rfl
theorem part1 (S : Nat → BitVec 64) (W : World) : (part 22 ((stC S).extract 23 31) 1).run Try.prog W = .ok (.int .u64 (U (S 24))) W := by kernel_rfl
theorem part2 (S : Nat → BitVec 64) (W : World) : (part 22 ((stC S).extract 23 31) 2).run Try.prog W = .ok (.int .u64 (U (S 25))) W := by kernel_rfl
theorem part3 (S : Nat → BitVec 64) (W : World) : (part 22 ((stC S).extract 23 31) 3).run Try.prog W = .ok (.int .u64 (U (S 26))) W := by kernel_rfl
theorem part4 (S : Nat → BitVec 64) (W : World) : (part 22 ((stC S).extract 23 31) 4).run Try.prog W = .ok (.int .u64 (U (S 27))) W := by kernel_rfl
theorem part5 (S : Nat → BitVec 64) (W : World) : (part 22 ((stC S).extract 23 31) 5).run Try.prog W = .ok (.int .u64 (U (S 28))) W := by kernel_rfl
theorem part6 (S : Nat → BitVec 64) (W : World) : (part 22 ((stC S).extract 23 31) 6).run Try.prog W = .ok (.int .u64 (U (S 29))) W := by kernel_rfl
theorem part7 (S : Nat → BitVec 64) (W : World) : (part 22 ((stC S).extract 23 31) 7).run Try.prog W = .ok (.int .u64 (U (S 30))) W := by kernel_rfl
theorem info22 : ∃ i, Try.prog.info? 22 = some i := by
  cases h : Try.prog.info? 22 with
  | some i => exact ⟨i, rfl⟩
  | none => exact absurd (show (Try.prog.info? 22).isSome = true by kernel_rfl) (by rw [h]; simp)
theorem eq_arr (S : Nat → BitVec 64) (W : World) : (Op.equalIn 9999 23 (.agg ((stC S).extract 23 31)) (.agg ((stC S).extract 23 31))).run Try.prog W = .ok true W := by
  obtain ⟨i, hi⟩ := info22
  rw [run_equalIn_array W 9998 _ _ Try.underlying23 hi, cells22]
  have e : ∀ n : Int, (Op.equalIn 9998 22 (.int .u64 n) (.int .u64 n)).run Try.prog W = .ok true W := fun n => by
    rw [run_equalIn_int W 9997 22 .u64 .u64 n n Try.underlying22]; simp
  simp only [show List.range 8 = [0, 1, 2, 3, 4, 5, 6, 7] from rfl, Op.eqItems, Nat.mul_one, Sem.run_bind, part0, part1, part2, part3, part4, part5, part6, part7, Result.andThen_ok, e, Bool.not_true, Bool.false_eq_true, if_false, Sem.run_pure]
end Go.Proofs.Ytfdkmkblhicbfaa
