-- Written by a program of this project, on the kit's print
import Derived.Test.YtfjdbiinkonhhaaPAx0
import Derived.Test.YtfjdbiinkonhhaaPAx5
namespace Go.Proofs.Ytfjdbiinkonhhaa.PA
set_option linter.all false
open Go.RowKit Go.Proofs.YtfjdbiinkonhhaaW.PrintWords Go.Proofs.YtfjdbiinkonhhaaW.PrintLast Go.Proofs.YtfjdbiinkonhhaaW.PrintMore
attribute [local go_sem] max2_int min2_int max_two min_two max_three min_three max_four min_four   -- for this text's walks alone
set_option linter.unusedVariables false
set_option linter.unusedSimpArgs false

/-! ### almonrylaw02_nearer: function 18 -/
def almonrylaw02_nearer.f (a0 : Int) (a1 : Int) : Option (Bool) := if a0 ≥ 9223372036854775808 then (if a1 ≥ 9223372036854775808 then (some (decide ((IntKind.u64.wrap (-a0)) < (IntKind.u64.wrap (-a1))))) else (some (decide ((IntKind.u64.wrap (-a0)) < a1)))) else (if a1 ≥ 9223372036854775808 then (some (decide (a0 < (IntKind.u64.wrap (-a1))))) else (some (decide (a0 < a1))))
set_option maxHeartbeats 8000000 in
set_option maxRecDepth 100000 in
theorem almonrylaw02_nearer.calls (a0 : Int) (a1 : Int) (r : Bool) (w : World) (h : almonrylaw02_nearer.f a0 a1 = some r) :
    Calls Try.prog 18 #[.int .u64 a0, .int .u64 a1] w fun e w' => e = .returned (.bool r) ∧ Drawn0 w w' := by
  have H : (if a0 ≥ 9223372036854775808 then (if a1 ≥ 9223372036854775808 then (some (decide ((IntKind.u64.wrap (-a0)) < (IntKind.u64.wrap (-a1))))) else (some (decide ((IntKind.u64.wrap (-a0)) < a1)))) else (if a1 ≥ 9223372036854775808 then (some (decide (a0 < (IntKind.u64.wrap (-a1))))) else (some (decide (a0 < a1))))) = some r := h
  clear h
  by_cases c3 : a0 ≥ 9223372036854775808
  · rw [if_pos c3] at H
    have c3b0 : decide (9223372036854775808 ≤ a0) = true := decide_eq_true c3
    clear c3
    by_cases c4 : a1 ≥ 9223372036854775808
    · rw [if_pos c4] at H
      have c4b0 : decide (9223372036854775808 ≤ a1) = true := decide_eq_true c4
      clear c4
      obtain rfl := Option.some.inj H
      go_enter Try.func18, Try.ntmps18
      go_wp2
      go_ret
      exact ⟨by first | rfl | (simp; done) | (simp [*]; done), by repeat (first | exact Drawn0.refl _ | apply Drawn0.step)⟩
    · rw [if_neg c4] at H
      have c4b0 : decide (9223372036854775808 ≤ a1) = false := decide_eq_false c4
      clear c4
      obtain rfl := Option.some.inj H
      go_enter Try.func18, Try.ntmps18
      go_wp2
      go_ret
      exact ⟨by first | rfl | (simp; done) | (simp [*]; done), by repeat (first | exact Drawn0.refl _ | apply Drawn0.step)⟩
  · rw [if_neg c3] at H
    have c3b0 : decide (9223372036854775808 ≤ a0) = false := decide_eq_false c3
    clear c3
    by_cases c5 : a1 ≥ 9223372036854775808
    · rw [if_pos c5] at H
      have c5b0 : decide (9223372036854775808 ≤ a1) = true := decide_eq_true c5
      clear c5
      obtain rfl := Option.some.inj H
      go_enter Try.func18, Try.ntmps18
      go_wp2
      go_ret
      exact ⟨by first | rfl | (simp; done) | (simp [*]; done), by repeat (first | exact Drawn0.refl _ | apply Drawn0.step)⟩
    · rw [if_neg c5] at H
      have c5b0 : decide (9223372036854775808 ≤ a1) = false := decide_eq_false c5
      clear c5
      obtain rfl := Option.some.inj H
      go_enter Try.func18, Try.ntmps18
      go_wp2
      go_ret
      exact ⟨by first | rfl | (simp; done) | (simp [*]; done), by repeat (first | exact Drawn0.refl _ | apply Drawn0.step)⟩

/-! ### almonrylaw02_sameSign: function 19 -/
def almonrylaw02_sameSign.f (a0 : Int) (a1 : Int) : Option (Bool) := if a0 = 0 then (some true) else (some ((decide (a0 ≥ 9223372036854775808)) == (decide (a1 ≥ 9223372036854775808))))
set_option maxHeartbeats 8000000 in
set_option maxRecDepth 100000 in
theorem almonrylaw02_sameSign.calls (a0 : Int) (a1 : Int) (r : Bool) (w : World) (h : almonrylaw02_sameSign.f a0 a1 = some r) :
    Calls Try.prog 19 #[.int .u64 a0, .int .u64 a1] w fun e w' => e = .returned (.bool r) ∧ Drawn0 w w' := by
  have H : (if a0 = 0 then (some true) else (some ((decide (a0 ≥ 9223372036854775808)) == (decide (a1 ≥ 9223372036854775808))))) = some r := h
  clear h
  by_cases c3 : a0 = 0
  · rw [if_pos c3] at H
    have c3b0 : (a0 == 0) = true := beq_iff_eq.mpr c3
    have c3b1 : (a0 != 0) = false := bne_eq_false_iff_eq.mpr c3
    clear c3
    obtain rfl := Option.some.inj H
    go_enter Try.func19, Try.ntmps19
    go_wp2
    go_ret
    exact ⟨by first | rfl | (simp; done) | (simp [*]; done), by repeat (first | exact Drawn0.refl _ | apply Drawn0.step)⟩
  · rw [if_neg c3] at H
    have c3b0 : (a0 == 0) = false := beq_eq_false_iff_ne.mpr c3
    have c3b1 : (a0 != 0) = true := bne_iff_ne.mpr c3
    obtain rfl := Option.some.inj H
    go_enter Try.func19, Try.ntmps19
    go_wp2
    go_ret
    exact ⟨by first | rfl | (simp; done) | (simp [*]; done), by repeat (first | exact Drawn0.refl _ | apply Drawn0.step)⟩

end Go.Proofs.Ytfjdbiinkonhhaa.PA
