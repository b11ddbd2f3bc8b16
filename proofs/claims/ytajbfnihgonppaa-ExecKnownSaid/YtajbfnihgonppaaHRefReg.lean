/- Contract of the reference's: which register operation answers as an operation does. -/
import Derived.Test.YtajbfnihgonppaaHReg
namespace Go.Proofs.Ytajbfnihgonppaa.PA
open Go.RowKit
set_option linter.all false
def almonryref02_Reg.f (a0 : Int) : Option (Int × Bool) :=
  if (31 ≤ a0 ∧ a0 < 41) ∨ (45 ≤ a0 ∧ a0 < 50) ∨ (54 ≤ a0 ∧ a0 ≤ 66) then some (a0, true) else if regIs a0 = true then some (regV a0, true) else some (0, false)
set_option maxRecDepth 100000 in
set_option maxHeartbeats 2000000 in
theorem refReg_r0 (a0 : Int) (w : World) (h0 : 31 ≤ a0) (h1 : a0 ≤ 40) : Calls Try.prog 27 #[.int .u8 a0] w fun e w' => e = .returned (.tuple #[.int .u8 a0, .bool true]) ∧ Below w.heap.size w w' := by
  have g22 : decide (22 ≤ a0) = true := decide_eq_true (by omega)
  have g31 : decide (31 ≤ a0) = true := decide_eq_true (by omega)
  have g41 : decide (41 ≤ a0) = false := decide_eq_false (by omega)
  have g45 : decide (45 ≤ a0) = false := decide_eq_false (by omega)
  have g54 : decide (54 ≤ a0) = false := decide_eq_false (by omega)
  have l31 : decide (a0 < 31) = false := decide_eq_false (by omega)
  have l41 : decide (a0 < 41) = true := decide_eq_true (by omega)
  have l45 : decide (a0 < 45) = true := decide_eq_true (by omega)
  have l50 : decide (a0 < 50) = true := decide_eq_true (by omega)
  have m66 : decide (a0 ≤ 66) = true := decide_eq_true (by omega)
  go_enter Try.func27, Try.ntmps27
  go_wp2
  go_ret2
  exact ⟨rfl, below_of_fr (by first | exact Fr.refl _ _ | exact (((Fr.refl _ _).alloc _).alloc _))⟩
set_option maxRecDepth 100000 in
set_option maxHeartbeats 2000000 in
theorem refReg_r1 (a0 : Int) (w : World) (h0 : 45 ≤ a0) (h1 : a0 ≤ 49) : Calls Try.prog 27 #[.int .u8 a0] w fun e w' => e = .returned (.tuple #[.int .u8 a0, .bool true]) ∧ Below w.heap.size w w' := by
  have g22 : decide (22 ≤ a0) = true := decide_eq_true (by omega)
  have g31 : decide (31 ≤ a0) = true := decide_eq_true (by omega)
  have g41 : decide (41 ≤ a0) = true := decide_eq_true (by omega)
  have g45 : decide (45 ≤ a0) = true := decide_eq_true (by omega)
  have g54 : decide (54 ≤ a0) = false := decide_eq_false (by omega)
  have l31 : decide (a0 < 31) = false := decide_eq_false (by omega)
  have l41 : decide (a0 < 41) = false := decide_eq_false (by omega)
  have l45 : decide (a0 < 45) = false := decide_eq_false (by omega)
  have l50 : decide (a0 < 50) = true := decide_eq_true (by omega)
  have m66 : decide (a0 ≤ 66) = true := decide_eq_true (by omega)
  go_enter Try.func27, Try.ntmps27
  go_wp2
  go_ret2
  exact ⟨rfl, below_of_fr (by first | exact Fr.refl _ _ | exact (((Fr.refl _ _).alloc _).alloc _))⟩
set_option maxRecDepth 100000 in
set_option maxHeartbeats 2000000 in
theorem refReg_r2 (a0 : Int) (w : World) (h0 : 54 ≤ a0) (h1 : a0 ≤ 66) : Calls Try.prog 27 #[.int .u8 a0] w fun e w' => e = .returned (.tuple #[.int .u8 a0, .bool true]) ∧ Below w.heap.size w w' := by
  have g22 : decide (22 ≤ a0) = true := decide_eq_true (by omega)
  have g31 : decide (31 ≤ a0) = true := decide_eq_true (by omega)
  have g41 : decide (41 ≤ a0) = true := decide_eq_true (by omega)
  have g45 : decide (45 ≤ a0) = true := decide_eq_true (by omega)
  have g54 : decide (54 ≤ a0) = true := decide_eq_true (by omega)
  have l31 : decide (a0 < 31) = false := decide_eq_false (by omega)
  have l41 : decide (a0 < 41) = false := decide_eq_false (by omega)
  have l45 : decide (a0 < 45) = false := decide_eq_false (by omega)
  have l50 : decide (a0 < 50) = false := decide_eq_false (by omega)
  have m66 : decide (a0 ≤ 66) = true := decide_eq_true (by omega)
  go_enter Try.func27, Try.ntmps27
  go_wp2
  go_ret2
  exact ⟨rfl, below_of_fr (by first | exact Fr.refl _ _ | exact (((Fr.refl _ _).alloc _).alloc _))⟩
set_option maxRecDepth 100000 in
set_option maxHeartbeats 2000000 in
theorem refReg_r3 (a0 : Int) (w : World) (h1 : a0 ≤ 21) : Calls Try.prog 27 #[.int .u8 a0] w fun e w' => e = .returned (.tuple #[.int .u8 0, .bool false]) ∧ Below w.heap.size w w' := by
  have g22 : decide (22 ≤ a0) = false := decide_eq_false (by omega)
  have g31 : decide (31 ≤ a0) = false := decide_eq_false (by omega)
  have g41 : decide (41 ≤ a0) = false := decide_eq_false (by omega)
  have g45 : decide (45 ≤ a0) = false := decide_eq_false (by omega)
  have g54 : decide (54 ≤ a0) = false := decide_eq_false (by omega)
  have l31 : decide (a0 < 31) = true := decide_eq_true (by omega)
  have l41 : decide (a0 < 41) = true := decide_eq_true (by omega)
  have l45 : decide (a0 < 45) = true := decide_eq_true (by omega)
  have l50 : decide (a0 < 50) = true := decide_eq_true (by omega)
  have m66 : decide (a0 ≤ 66) = true := decide_eq_true (by omega)
  go_enter Try.func27, Try.ntmps27
  go_wp2
  go_ret2
  exact ⟨rfl, below_of_fr (by first | exact Fr.refl _ _ | exact (((Fr.refl _ _).alloc _).alloc _))⟩
set_option maxRecDepth 100000 in
set_option maxHeartbeats 2000000 in
theorem refReg_r4 (a0 : Int) (w : World) (h0 : 50 ≤ a0) (h1 : a0 ≤ 53) : Calls Try.prog 27 #[.int .u8 a0] w fun e w' => e = .returned (.tuple #[.int .u8 0, .bool false]) ∧ Below w.heap.size w w' := by
  have g22 : decide (22 ≤ a0) = true := decide_eq_true (by omega)
  have g31 : decide (31 ≤ a0) = true := decide_eq_true (by omega)
  have g41 : decide (41 ≤ a0) = true := decide_eq_true (by omega)
  have g45 : decide (45 ≤ a0) = true := decide_eq_true (by omega)
  have g54 : decide (54 ≤ a0) = false := decide_eq_false (by omega)
  have l31 : decide (a0 < 31) = false := decide_eq_false (by omega)
  have l41 : decide (a0 < 41) = false := decide_eq_false (by omega)
  have l45 : decide (a0 < 45) = false := decide_eq_false (by omega)
  have l50 : decide (a0 < 50) = false := decide_eq_false (by omega)
  have m66 : decide (a0 ≤ 66) = true := decide_eq_true (by omega)
  go_enter Try.func27, Try.ntmps27
  go_wp2
  go_ret2
  exact ⟨rfl, below_of_fr (by first | exact Fr.refl _ _ | exact (((Fr.refl _ _).alloc _).alloc _))⟩
set_option maxRecDepth 100000 in
set_option maxHeartbeats 2000000 in
theorem refReg_r5 (a0 : Int) (w : World) (h0 : 67 ≤ a0) : Calls Try.prog 27 #[.int .u8 a0] w fun e w' => e = .returned (.tuple #[.int .u8 0, .bool false]) ∧ Below w.heap.size w w' := by
  have g22 : decide (22 ≤ a0) = true := decide_eq_true (by omega)
  have g31 : decide (31 ≤ a0) = true := decide_eq_true (by omega)
  have g41 : decide (41 ≤ a0) = true := decide_eq_true (by omega)
  have g45 : decide (45 ≤ a0) = true := decide_eq_true (by omega)
  have g54 : decide (54 ≤ a0) = true := decide_eq_true (by omega)
  have l31 : decide (a0 < 31) = false := decide_eq_false (by omega)
  have l41 : decide (a0 < 41) = false := decide_eq_false (by omega)
  have l45 : decide (a0 < 45) = false := decide_eq_false (by omega)
  have l50 : decide (a0 < 50) = false := decide_eq_false (by omega)
  have m66 : decide (a0 ≤ 66) = false := decide_eq_false (by omega)
  go_enter Try.func27, Try.ntmps27
  go_wp2
  go_ret2
  exact ⟨rfl, below_of_fr (by first | exact Fr.refl _ _ | exact (((Fr.refl _ _).alloc _).alloc _))⟩
set_option maxRecDepth 100000 in
set_option maxHeartbeats 2000000 in
theorem refReg_22 (w : World) : Calls Try.prog 27 #[.int .u8 22] w fun e w' => e = .returned (.tuple #[.int .u8 31, .bool true]) ∧ Below w.heap.size w w' := by
  go_enter Try.func27, Try.ntmps27
  go_wp2
  go_ret2
  exact ⟨rfl, below_of_fr (by first | exact ((Fr.refl _ _).alloc _) | exact (((Fr.refl _ _).alloc _).alloc _))⟩
set_option maxRecDepth 100000 in
set_option maxHeartbeats 2000000 in
theorem refReg_23 (w : World) : Calls Try.prog 27 #[.int .u8 23] w fun e w' => e = .returned (.tuple #[.int .u8 34, .bool true]) ∧ Below w.heap.size w w' := by
  go_enter Try.func27, Try.ntmps27
  go_wp2
  go_ret2
  exact ⟨rfl, below_of_fr (by first | exact ((Fr.refl _ _).alloc _) | exact (((Fr.refl _ _).alloc _).alloc _))⟩
set_option maxRecDepth 100000 in
set_option maxHeartbeats 2000000 in
theorem refReg_24 (w : World) : Calls Try.prog 27 #[.int .u8 24] w fun e w' => e = .returned (.tuple #[.int .u8 35, .bool true]) ∧ Below w.heap.size w w' := by
  go_enter Try.func27, Try.ntmps27
  go_wp2
  go_ret2
  exact ⟨rfl, below_of_fr (by first | exact ((Fr.refl _ _).alloc _) | exact (((Fr.refl _ _).alloc _).alloc _))⟩
set_option maxRecDepth 100000 in
set_option maxHeartbeats 2000000 in
theorem refReg_25 (w : World) : Calls Try.prog 27 #[.int .u8 25] w fun e w' => e = .returned (.tuple #[.int .u8 36, .bool true]) ∧ Below w.heap.size w w' := by
  go_enter Try.func27, Try.ntmps27
  go_wp2
  go_ret2
  exact ⟨rfl, below_of_fr (by first | exact ((Fr.refl _ _).alloc _) | exact (((Fr.refl _ _).alloc _).alloc _))⟩
set_option maxRecDepth 100000 in
set_option maxHeartbeats 2000000 in
theorem refReg_26 (w : World) : Calls Try.prog 27 #[.int .u8 26] w fun e w' => e = .returned (.tuple #[.int .u8 39, .bool true]) ∧ Below w.heap.size w w' := by
  go_enter Try.func27, Try.ntmps27
  go_wp2
  go_ret2
  exact ⟨rfl, below_of_fr (by first | exact ((Fr.refl _ _).alloc _) | exact (((Fr.refl _ _).alloc _).alloc _))⟩
set_option maxRecDepth 100000 in
set_option maxHeartbeats 2000000 in
theorem refReg_27 (w : World) : Calls Try.prog 27 #[.int .u8 27] w fun e w' => e = .returned (.tuple #[.int .u8 40, .bool true]) ∧ Below w.heap.size w w' := by
  go_enter Try.func27, Try.ntmps27
  go_wp2
  go_ret2
  exact ⟨rfl, below_of_fr (by first | exact ((Fr.refl _ _).alloc _) | exact (((Fr.refl _ _).alloc _).alloc _))⟩
set_option maxRecDepth 100000 in
set_option maxHeartbeats 2000000 in
theorem refReg_28 (w : World) : Calls Try.prog 27 #[.int .u8 28] w fun e w' => e = .returned (.tuple #[.int .u8 33, .bool true]) ∧ Below w.heap.size w w' := by
  go_enter Try.func27, Try.ntmps27
  go_wp2
  go_ret2
  exact ⟨rfl, below_of_fr (by first | exact ((Fr.refl _ _).alloc _) | exact (((Fr.refl _ _).alloc _).alloc _))⟩
set_option maxRecDepth 100000 in
set_option maxHeartbeats 2000000 in
theorem refReg_29 (w : World) : Calls Try.prog 27 #[.int .u8 29] w fun e w' => e = .returned (.tuple #[.int .u8 37, .bool true]) ∧ Below w.heap.size w w' := by
  go_enter Try.func27, Try.ntmps27
  go_wp2
  go_ret2
  exact ⟨rfl, below_of_fr (by first | exact ((Fr.refl _ _).alloc _) | exact (((Fr.refl _ _).alloc _).alloc _))⟩
set_option maxRecDepth 100000 in
set_option maxHeartbeats 2000000 in
theorem refReg_30 (w : World) : Calls Try.prog 27 #[.int .u8 30] w fun e w' => e = .returned (.tuple #[.int .u8 38, .bool true]) ∧ Below w.heap.size w w' := by
  go_enter Try.func27, Try.ntmps27
  go_wp2
  go_ret2
  exact ⟨rfl, below_of_fr (by first | exact ((Fr.refl _ _).alloc _) | exact (((Fr.refl _ _).alloc _).alloc _))⟩
set_option maxRecDepth 100000 in
set_option maxHeartbeats 2000000 in
theorem refReg_41 (w : World) : Calls Try.prog 27 #[.int .u8 41] w fun e w' => e = .returned (.tuple #[.int .u8 45, .bool true]) ∧ Below w.heap.size w w' := by
  go_enter Try.func27, Try.ntmps27
  go_wp2
  go_ret2
  exact ⟨rfl, below_of_fr (by first | exact ((Fr.refl _ _).alloc _) | exact (((Fr.refl _ _).alloc _).alloc _))⟩
set_option maxRecDepth 100000 in
set_option maxHeartbeats 2000000 in
theorem refReg_42 (w : World) : Calls Try.prog 27 #[.int .u8 42] w fun e w' => e = .returned (.tuple #[.int .u8 47, .bool true]) ∧ Below w.heap.size w w' := by
  go_enter Try.func27, Try.ntmps27
  go_wp2
  go_ret2
  exact ⟨rfl, below_of_fr (by first | exact ((Fr.refl _ _).alloc _) | exact (((Fr.refl _ _).alloc _).alloc _))⟩
set_option maxRecDepth 100000 in
set_option maxHeartbeats 2000000 in
theorem refReg_43 (w : World) : Calls Try.prog 27 #[.int .u8 43] w fun e w' => e = .returned (.tuple #[.int .u8 48, .bool true]) ∧ Below w.heap.size w w' := by
  go_enter Try.func27, Try.ntmps27
  go_wp2
  go_ret2
  exact ⟨rfl, below_of_fr (by first | exact ((Fr.refl _ _).alloc _) | exact (((Fr.refl _ _).alloc _).alloc _))⟩
set_option maxRecDepth 100000 in
set_option maxHeartbeats 2000000 in
theorem refReg_44 (w : World) : Calls Try.prog 27 #[.int .u8 44] w fun e w' => e = .returned (.tuple #[.int .u8 49, .bool true]) ∧ Below w.heap.size w w' := by
  go_enter Try.func27, Try.ntmps27
  go_wp2
  go_ret2
  exact ⟨rfl, below_of_fr (by first | exact ((Fr.refl _ _).alloc _) | exact (((Fr.refl _ _).alloc _).alloc _))⟩
theorem almonryref02_Reg.calls (a0 : Int) (r1 : Int) (r2 : Bool) (w : World) (h : almonryref02_Reg.f a0 = some (r1, r2)) : Calls Try.prog 27 #[.int .u8 a0] w fun e w' => e = .returned (.tuple #[.int .u8 r1, .bool r2]) ∧ Below w.heap.size w w' := by
  unfold almonryref02_Reg.f at h
  by_cases hs : (31 ≤ a0 ∧ a0 < 41) ∨ (45 ≤ a0 ∧ a0 < 50) ∨ (54 ≤ a0 ∧ a0 ≤ 66)
  · rw [if_pos hs] at h
    cases h
    rcases hs with ⟨h0, h1⟩ | ⟨h0, h1⟩ | ⟨h0, h1⟩
    · exact refReg_r0 a0 w h0 (by omega)
    · exact refReg_r1 a0 w h0 (by omega)
    · exact refReg_r2 a0 w h0 (by omega)
  · rw [if_neg hs] at h
    by_cases ht : regIs a0 = true
    · rw [if_pos ht] at h
      cases h
      have : a0 = 22 ∨ a0 = 23 ∨ a0 = 24 ∨ a0 = 25 ∨ a0 = 26 ∨ a0 = 27 ∨ a0 = 28 ∨ a0 = 29 ∨ a0 = 30 ∨ a0 = 41 ∨ a0 = 42 ∨ a0 = 43 ∨ a0 = 44 := by simpa [regIs, or_assoc] using ht
      rcases this with rfl | rfl | rfl | rfl | rfl | rfl | rfl | rfl | rfl | rfl | rfl | rfl | rfl
      · exact refReg_22 w
      · exact refReg_23 w
      · exact refReg_24 w
      · exact refReg_25 w
      · exact refReg_26 w
      · exact refReg_27 w
      · exact refReg_28 w
      · exact refReg_29 w
      · exact refReg_30 w
      · exact refReg_41 w
      · exact refReg_42 w
      · exact refReg_43 w
      · exact refReg_44 w
    · rw [if_neg ht] at h
      cases h
      have hn : ¬ (a0 = 22 ∨ a0 = 23 ∨ a0 = 24 ∨ a0 = 25 ∨ a0 = 26 ∨ a0 = 27 ∨ a0 = 28 ∨ a0 = 29 ∨ a0 = 30 ∨ a0 = 41 ∨ a0 = 42 ∨ a0 = 43 ∨ a0 = 44) := fun e => ht (by simpa [regIs, or_assoc] using e)
      rcases (by omega : a0 ≤ 21 ∨ (50 ≤ a0 ∧ a0 ≤ 53) ∨ 67 ≤ a0) with h0 | ⟨h0, h1⟩ | h0
      · exact refReg_r3 a0 w h0
      · exact refReg_r4 a0 w h0 h1
      · exact refReg_r5 a0 w h0
end Go.Proofs.Ytajbfnihgonppaa.PA
