/- Contract of the width of an operation. -/
import Derived.Test.YtogdifjdlkpehaaK3
import Derived.Test.YtogdifjdlkpehaaK2
import Derived.Deep.Cut
namespace Go.Proofs.Ytogdifjdlkpehaa.PA
open Go.RowKit Go.Proofs.YtogdifjdlkpehaaW.PrintWords Go.Proofs.YtogdifjdlkpehaaW.PrintLast Go.Proofs.YtogdifjdlkpehaaW.PrintMore
set_option linter.all false
theorem fr_of_below {W w' : World} (h : Below W.heap.size W w') : Fr [] W w' := ⟨h.os, h.tape, h.output, h.size, fun k hk _ => h.block k hk⟩
theorem below_of_fr {W w' : World} (h : Fr [] W w') : Below W.heap.size W w' := h.below (Nat.le_refl _) (by simp)
theorem fr_drawn {w w' : World} (h : Drawn0 w w') : Fr [] w w' := by obtain ⟨n, rfl⟩ := h; exact (Fr.refl _ _).drewN n
def inst_Width.f (a0 : Int) : Option Int := if 0 ≤ a0 ∧ a0 < 256 then some (if a0 = 11 then 1 else if a0 = 12 then 2 else if a0 = 13 then 4 else if a0 = 14 then 8 else if a0 = 15 then 1 else if a0 = 16 then 2 else if a0 = 17 then 4 else if a0 = 18 then 1 else if a0 = 19 then 2 else if a0 = 20 then 4 else if a0 = 21 then 8 else if 67 ≤ a0 ∧ a0 < 78 then 4 else if 78 ≤ a0 ∧ a0 < 89 then 8 else 0) else none
theorem class_all : ∀ n : Fin 256, ∃ c : Fin 9, inst_Class.f 4 (n.val : Int) = some (c.val : Int) ∧ (c.val = 1 ↔ 11 ≤ n.val ∧ n.val ≤ 17) ∧ (c.val = 2 ↔ 18 ≤ n.val ∧ n.val ≤ 21) ∧ (c.val = 5 ↔ 67 ≤ n.val ∧ n.val ≤ 88) := by decide +kernel
set_option maxRecDepth 100000 in
set_option maxHeartbeats 4000000 in
theorem width_11 (w : World) : Calls Try.prog 17 #[.int .u8 11] w fun e w' => e = .returned (.int .i64 1) ∧ Below w.heap.size w w' := by
  have hc := hid fun w => inst_Class.calls 4 11 1 w rfl
  go_enter Try.func17, Try.ntmps17
  go_wp2_with (go_at_call 16; refine (hc.out _).mono ?_; rintro e w1 ⟨rfl, ⟨m, rfl⟩⟩)
  go_ret
  exact ⟨rfl, below_of_fr (((Fr.refl _ _).alloc _).drewN _)⟩
set_option maxRecDepth 100000 in
set_option maxHeartbeats 4000000 in
theorem width_12 (w : World) : Calls Try.prog 17 #[.int .u8 12] w fun e w' => e = .returned (.int .i64 2) ∧ Below w.heap.size w w' := by
  have hc := hid fun w => inst_Class.calls 4 12 1 w rfl
  go_enter Try.func17, Try.ntmps17
  go_wp2_with (go_at_call 16; refine (hc.out _).mono ?_; rintro e w1 ⟨rfl, ⟨m, rfl⟩⟩)
  go_ret
  exact ⟨rfl, below_of_fr (((Fr.refl _ _).alloc _).drewN _)⟩
set_option maxRecDepth 100000 in
set_option maxHeartbeats 4000000 in
theorem width_13 (w : World) : Calls Try.prog 17 #[.int .u8 13] w fun e w' => e = .returned (.int .i64 4) ∧ Below w.heap.size w w' := by
  have hc := hid fun w => inst_Class.calls 4 13 1 w rfl
  go_enter Try.func17, Try.ntmps17
  go_wp2_with (go_at_call 16; refine (hc.out _).mono ?_; rintro e w1 ⟨rfl, ⟨m, rfl⟩⟩)
  go_ret
  exact ⟨rfl, below_of_fr (((Fr.refl _ _).alloc _).drewN _)⟩
set_option maxRecDepth 100000 in
set_option maxHeartbeats 4000000 in
theorem width_14 (w : World) : Calls Try.prog 17 #[.int .u8 14] w fun e w' => e = .returned (.int .i64 8) ∧ Below w.heap.size w w' := by
  have hc := hid fun w => inst_Class.calls 4 14 1 w rfl
  go_enter Try.func17, Try.ntmps17
  go_wp2_with (go_at_call 16; refine (hc.out _).mono ?_; rintro e w1 ⟨rfl, ⟨m, rfl⟩⟩)
  go_ret
  exact ⟨rfl, below_of_fr (((Fr.refl _ _).alloc _).drewN _)⟩
set_option maxRecDepth 100000 in
set_option maxHeartbeats 4000000 in
theorem width_15 (w : World) : Calls Try.prog 17 #[.int .u8 15] w fun e w' => e = .returned (.int .i64 1) ∧ Below w.heap.size w w' := by
  have hc := hid fun w => inst_Class.calls 4 15 1 w rfl
  go_enter Try.func17, Try.ntmps17
  go_wp2_with (go_at_call 16; refine (hc.out _).mono ?_; rintro e w1 ⟨rfl, ⟨m, rfl⟩⟩)
  go_ret
  exact ⟨rfl, below_of_fr (((Fr.refl _ _).alloc _).drewN _)⟩
set_option maxRecDepth 100000 in
set_option maxHeartbeats 4000000 in
theorem width_16 (w : World) : Calls Try.prog 17 #[.int .u8 16] w fun e w' => e = .returned (.int .i64 2) ∧ Below w.heap.size w w' := by
  have hc := hid fun w => inst_Class.calls 4 16 1 w rfl
  go_enter Try.func17, Try.ntmps17
  go_wp2_with (go_at_call 16; refine (hc.out _).mono ?_; rintro e w1 ⟨rfl, ⟨m, rfl⟩⟩)
  go_ret
  exact ⟨rfl, below_of_fr (((Fr.refl _ _).alloc _).drewN _)⟩
set_option maxRecDepth 100000 in
set_option maxHeartbeats 4000000 in
theorem width_17 (w : World) : Calls Try.prog 17 #[.int .u8 17] w fun e w' => e = .returned (.int .i64 4) ∧ Below w.heap.size w w' := by
  have hc := hid fun w => inst_Class.calls 4 17 1 w rfl
  go_enter Try.func17, Try.ntmps17
  go_wp2_with (go_at_call 16; refine (hc.out _).mono ?_; rintro e w1 ⟨rfl, ⟨m, rfl⟩⟩)
  go_ret
  exact ⟨rfl, below_of_fr (((Fr.refl _ _).alloc _).drewN _)⟩
set_option maxRecDepth 100000 in
set_option maxHeartbeats 4000000 in
theorem width_18 (w : World) : Calls Try.prog 17 #[.int .u8 18] w fun e w' => e = .returned (.int .i64 1) ∧ Below w.heap.size w w' := by
  have hc := hid fun w => inst_Class.calls 4 18 2 w rfl
  go_enter Try.func17, Try.ntmps17
  go_wp2_with (go_at_call 16; refine (hc.out _).mono ?_; rintro e w1 ⟨rfl, ⟨m, rfl⟩⟩)
  go_ret
  exact ⟨rfl, below_of_fr (((Fr.refl _ _).alloc _).drewN _)⟩
set_option maxRecDepth 100000 in
set_option maxHeartbeats 4000000 in
theorem width_19 (w : World) : Calls Try.prog 17 #[.int .u8 19] w fun e w' => e = .returned (.int .i64 2) ∧ Below w.heap.size w w' := by
  have hc := hid fun w => inst_Class.calls 4 19 2 w rfl
  go_enter Try.func17, Try.ntmps17
  go_wp2_with (go_at_call 16; refine (hc.out _).mono ?_; rintro e w1 ⟨rfl, ⟨m, rfl⟩⟩)
  go_ret
  exact ⟨rfl, below_of_fr (((Fr.refl _ _).alloc _).drewN _)⟩
set_option maxRecDepth 100000 in
set_option maxHeartbeats 4000000 in
theorem width_20 (w : World) : Calls Try.prog 17 #[.int .u8 20] w fun e w' => e = .returned (.int .i64 4) ∧ Below w.heap.size w w' := by
  have hc := hid fun w => inst_Class.calls 4 20 2 w rfl
  go_enter Try.func17, Try.ntmps17
  go_wp2_with (go_at_call 16; refine (hc.out _).mono ?_; rintro e w1 ⟨rfl, ⟨m, rfl⟩⟩)
  go_ret
  exact ⟨rfl, below_of_fr (((Fr.refl _ _).alloc _).drewN _)⟩
set_option maxRecDepth 100000 in
set_option maxHeartbeats 4000000 in
theorem width_21 (w : World) : Calls Try.prog 17 #[.int .u8 21] w fun e w' => e = .returned (.int .i64 8) ∧ Below w.heap.size w w' := by
  have hc := hid fun w => inst_Class.calls 4 21 2 w rfl
  go_enter Try.func17, Try.ntmps17
  go_wp2_with (go_at_call 16; refine (hc.out _).mono ?_; rintro e w1 ⟨rfl, ⟨m, rfl⟩⟩)
  go_ret
  exact ⟨rfl, below_of_fr (((Fr.refl _ _).alloc _).drewN _)⟩
set_option maxRecDepth 100000 in
set_option maxHeartbeats 4000000 in
theorem width_5 (a0 : Int) (w : World) (h : inst_Class.f 4 a0 = some 5) (hlt : decide (78 ≤ a0) = false) : Calls Try.prog 17 #[.int .u8 a0] w fun e w' => e = .returned (.int .i64 4) ∧ Below w.heap.size w w' := by
  have hc := hid fun w => inst_Class.calls 4 a0 5 w h
  clear h
  go_enter Try.func17, Try.ntmps17
  go_wp2_with (go_at_call 16; refine (hc.out _).mono ?_; rintro e w1 ⟨rfl, ⟨m, rfl⟩⟩)
  go_ret
  exact ⟨rfl, below_of_fr (((Fr.refl _ _).alloc _).drewN _)⟩
set_option maxRecDepth 100000 in
set_option maxHeartbeats 4000000 in
theorem width_5b (a0 : Int) (w : World) (h : inst_Class.f 4 a0 = some 5) (hlt : decide (78 ≤ a0) = true) : Calls Try.prog 17 #[.int .u8 a0] w fun e w' => e = .returned (.int .i64 8) ∧ Below w.heap.size w w' := by
  have hc := hid fun w => inst_Class.calls 4 a0 5 w h
  clear h
  go_enter Try.func17, Try.ntmps17
  go_wp2_with (go_at_call 16; refine (hc.out _).mono ?_; rintro e w1 ⟨rfl, ⟨m, rfl⟩⟩)
  go_ret
  exact ⟨rfl, below_of_fr (((Fr.refl _ _).alloc _).drewN _)⟩
set_option maxRecDepth 100000 in
set_option maxHeartbeats 4000000 in
theorem width_0 (a0 c : Int) (w : World) (h : inst_Class.f 4 a0 = some c) (h1 : (c == 1) = false) (h2 : (c == 2) = false) (h5 : (c == 5) = false) : Calls Try.prog 17 #[.int .u8 a0] w fun e w' => e = .returned (.int .i64 0) ∧ Below w.heap.size w w' := by
  have hc := hid fun w => inst_Class.calls 4 a0 c w h
  clear h
  go_enter Try.func17, Try.ntmps17
  go_wp2_with (go_at_call 16; refine (hc.out _).mono ?_; rintro e w1 ⟨rfl, ⟨m, rfl⟩⟩)
  go_ret
  exact ⟨rfl, below_of_fr (((Fr.refl _ _).alloc _).drewN _)⟩
theorem inst_Width.calls (a0 : Int) (r : Int) (w : World) (h : inst_Width.f a0 = some r) : Calls Try.prog 17 #[.int .u8 a0] w fun e w' => e = .returned (.int .i64 r) ∧ Below w.heap.size w w' := by
  unfold inst_Width.f at h
  by_cases hb : 0 ≤ a0 ∧ a0 < 256
  · rw [if_pos hb] at h
    obtain ⟨n, hn⟩ : ∃ n : Fin 256, (n.val : Int) = a0 := ⟨⟨a0.toNat, by omega⟩, by simp; omega⟩
    obtain ⟨c, hc, c1, c2, c5⟩ := class_all n
    rw [hn] at hc
    by_cases e : a0 = 11 ∨ a0 = 12 ∨ a0 = 13 ∨ a0 = 14 ∨ a0 = 15 ∨ a0 = 16 ∨ a0 = 17 ∨ a0 = 18 ∨ a0 = 19 ∨ a0 = 20 ∨ a0 = 21
    · rcases e with rfl | rfl | rfl | rfl | rfl | rfl | rfl | rfl | rfl | rfl | rfl
      · cases h; exact width_11 w
      · cases h; exact width_12 w
      · cases h; exact width_13 w
      · cases h; exact width_14 w
      · cases h; exact width_15 w
      · cases h; exact width_16 w
      · cases h; exact width_17 w
      · cases h; exact width_18 w
      · cases h; exact width_19 w
      · cases h; exact width_20 w
      · cases h; exact width_21 w
    · simp only [not_or] at e
      obtain ⟨e11, e12, e13, e14, e15, e16, e17, e18, e19, e20, e21⟩ := e
      simp only [e11, e12, e13, e14, e15, e16, e17, e18, e19, e20, e21, if_false] at h
      by_cases h5 : 67 ≤ a0 ∧ a0 ≤ 88
      · have hc5 : c.val = 5 := c5.2 (by omega)
        rw [show ((c.val : Nat) : Int) = 5 by omega] at hc
        by_cases h78 : a0 < 78
        · rw [if_pos (by omega)] at h
          cases h
          exact width_5 a0 w hc (decide_eq_false (by omega))
        · rw [if_neg (by omega), if_pos (by omega)] at h
          cases h
          exact width_5b a0 w hc (decide_eq_true (by omega))
      · rw [if_neg (by omega), if_neg (by omega)] at h
        cases h
        have n1 : c.val ≠ 1 := fun e => by have := c1.1 e; omega
        have n2 : c.val ≠ 2 := fun e => by have := c2.1 e; omega
        have n5 : c.val ≠ 5 := fun e => by have := c5.1 e; omega
        exact width_0 a0 c.val w hc (beq_eq_false_iff_ne.2 (by omega)) (beq_eq_false_iff_ne.2 (by omega)) (beq_eq_false_iff_ne.2 (by omega))
  · rw [if_neg hb] at h; cases h
end Go.Proofs.Ytogdifjdlkpehaa.PA
