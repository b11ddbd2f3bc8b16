/- The walk of the closed law ClintKnown, as its row wants it. -/
import Derived.Test.YtefhcadlakakbaaH
namespace Go.Proofs.Ytefhcadlakakbaa
set_option linter.all false
open Go.RowKit
theorem walk_ClintKnown (w : World) : Calls Try.prog 4 #[] w fun e w' => e = .returned (.bool true) ∧ Below w.heap.size w w' := by
  refine (law_ClintKnown w).mono ?_
  rintro e w' ⟨rfl, hb⟩
  exact ⟨rfl, hb.below (Nat.le_refl _) (by simp)⟩
end Go.Proofs.Ytefhcadlakakbaa
