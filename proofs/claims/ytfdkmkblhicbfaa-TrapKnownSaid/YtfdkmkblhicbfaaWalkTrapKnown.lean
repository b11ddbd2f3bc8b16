/- The walk of the closed law TrapKnown, as its row wants it. -/
import Derived.Test.YtfdkmkblhicbfaaP
namespace Go.Proofs.Ytfdkmkblhicbfaa
set_option linter.all false
open Go.RowKit
theorem walk_TrapKnown (w : World) : Calls Try.prog 9 #[] w fun e w' => e = .returned (.bool true) ∧ Below w.heap.size w w' := by
  refine (law_TrapKnown w).mono ?_
  rintro e w' ⟨rfl, hb⟩
  exact ⟨rfl, hb.below (Nat.le_refl _) (by simp)⟩
end Go.Proofs.Ytfdkmkblhicbfaa
