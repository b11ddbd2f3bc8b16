/- The walk of the closed law AluKnown, call by call, along its true way. -/
import Derived.Test.YtfjdbiinkonhhaaPAx5
import Derived.Test.YtfjdbiinkonhhaaHOps
namespace Go.Proofs.Ytfjdbiinkonhhaa.PA
open Go.RowKit Go.Proofs.YtfjdbiinkonhhaaW.PrintWords
set_option linter.all false

def isOk (op a b want : Int) : Bool := match almonrylaw02_is.f op a b want with | some true => true | _ => false
theorem is_lit (op a b want : Int) (w : World) (h : isOk op a b want = true) : Calls Try.prog 20 #[.int .u8 op, .int .u64 a, .int .u64 b, .int .u64 want] w fun e w' => e = .returned (.bool true) ∧ Fr [] w w' := by
  have h1 : almonrylaw02_is.f op a b want = some true := by
    unfold isOk at h
    split at h
    · assumption
    · cases h
  refine (almonrylaw02_is.calls op a b want true w h1).mono ?_
  rintro e w' ⟨rfl, hb⟩
  exact ⟨rfl, fr_of_below hb⟩
theorem works_lit (w : World) : Calls Try.prog 14 #[] w fun e w' => e = .returned (.bool true) ∧ Fr [] w w' := by
  refine (almonrylaw02_works.calls 12 true w (by decide +kernel)).mono ?_
  rintro e w' ⟨rfl, hb⟩
  exact ⟨rfl, fr_of_below hb⟩
theorem fr_of_drawn {W w' : World} (h : Drawn0 W w') : Fr [] W w' := fr_of_below h.below
theorem c12_24 (w : World) : Calls Try.prog 12 #[.int .u8 24] w fun e w' => e = .returned (.tuple #[.int .u8 35, .bool true]) ∧ Fr [] w w' := by
  refine (alu_Reg.calls 24 35 true w (by decide +kernel)).mono ?_
  rintro e w' ⟨rfl, hb⟩; exact ⟨rfl, fr_of_below hb⟩
theorem c12_1 (w : World) : Calls Try.prog 12 #[.int .u8 1] w fun e w' => e = .returned (.tuple #[.int .u8 0, .bool false]) ∧ Fr [] w w' := by
  refine (alu_Reg.calls 1 0 false w (by decide +kernel)).mono ?_
  rintro e w' ⟨rfl, hb⟩; exact ⟨rfl, fr_of_below hb⟩
theorem c12_255 (w : World) : Calls Try.prog 12 #[.int .u8 255] w fun e w' => e = .returned (.tuple #[.int .u8 0, .bool false]) ∧ Fr [] w w' := by
  refine (alu_Reg.calls 255 0 false w (by decide +kernel)).mono ?_
  rintro e w' ⟨rfl, hb⟩; exact ⟨rfl, fr_of_below hb⟩
theorem c10_13 (w : World) : Calls Try.prog 10 #[.int .u8 13, .int .u64 1, .int .u64 2] w fun e w' => e = .returned (.tuple #[.int .u64 0, .bool false]) ∧ Fr [] w w' := by
  refine (alu_Do.calls 13 1 2 0 false w (by decide +kernel)).mono ?_
  rintro e w' ⟨rfl, hb⟩; exact ⟨rfl, fr_of_below hb⟩
theorem c15_9 (w : World) : Calls Try.prog 15 #[.int .u8 9, .int .u64 18446744073709551615, .int .u64 0] w fun e w' => e = .returned (.tuple #[.bool false, .bool true]) ∧ Fr [] w w' := by
  refine (alu_Branch.calls 12 9 18446744073709551615 0 false true w (by decide +kernel)).mono ?_
  rintro e w' ⟨rfl, hb⟩; exact ⟨rfl, fr_of_drawn hb⟩
theorem c15_31 (w : World) : Calls Try.prog 15 #[.int .u8 31, .int .u64 0, .int .u64 0] w fun e w' => e = .returned (.tuple #[.bool false, .bool false]) ∧ Fr [] w w' := by
  refine (alu_Branch.calls 12 31 0 0 false false w (by decide +kernel)).mono ?_
  rintro e w' ⟨rfl, hb⟩; exact ⟨rfl, fr_of_drawn hb⟩
theorem c15_8 (w : World) : Calls Try.prog 15 #[.int .u8 8, .int .u64 7, .int .u64 7] w fun e w' => e = .returned (.tuple #[.bool true, .bool true]) ∧ Fr [] w w' := by
  refine (alu_Branch.calls 12 8 7 7 true true w (by decide +kernel)).mono ?_
  rintro e w' ⟨rfl, hb⟩; exact ⟨rfl, fr_of_drawn hb⟩

set_option maxRecDepth 100000 in
set_option maxHeartbeats 8000000 in
theorem law_AluKnown (w : World) : Calls Try.prog 9 #[] w fun e w' => e = .returned (.bool true) ∧ Below w.heap.size w w' := by
  have hF := Fr.refl [] w
  go_enter Try.func9, Try.ntmps9
  go_wp2_with ((first | (go_at_call 14; ((with_reducible refine (works_lit _).mono ?_))) | (go_at_call 20; ((with_reducible refine (is_lit _ _ _ _ _ (by decide +kernel)).mono ?_))) | (go_at_call 12; (first | (with_reducible refine (c12_24 _).mono ?_) | (with_reducible refine (c12_1 _).mono ?_) | (with_reducible refine (c12_255 _).mono ?_))) | (go_at_call 10; ((with_reducible refine (c10_13 _).mono ?_))) | (go_at_call 15; (first | (with_reducible refine (c15_9 _).mono ?_) | (with_reducible refine (c15_31 _).mono ?_) | (with_reducible refine (c15_8 _).mono ?_)))); rintro e w1 ⟨rfl, hd⟩; replace hF := hF.trans hd; clear hd)
  go_ret
  exact ⟨rfl, below_of_fr hF⟩
end Go.Proofs.Ytfjdbiinkonhhaa.PA
