/- Contracts of the helpers of the laws of package trap: the chapter's state, what is pending of it, some of the chapter's answers. -/
import Derived.Test.YtfdkmkblhicbfaaF
namespace Go.Proofs.Ytfdkmkblhicbfaa
set_option linter.all false
open Go.RowKit

def givenS : Nat → BitVec 64 := fun i => if i = 2 then 2730#64 else if i = 3 then 34#64 else if i = 4 then 128#64 else 0#64

set_option maxRecDepth 100000 in
set_option maxHeartbeats 1000000 in
theorem given_any (w : World) : Calls Try.prog 23 #[] w fun e w' => e = .returned (.agg (stC givenS)) ∧ Fr [] w w' := by
  go_enter Try.func23, Try.ntmps23
  go_wp2_with (refine wpList_store_whole rfl 25 _ _ rfl w.heap.size rfl (stC givenS) rfl 25 _ (blk_new _ _) rfl (by kernel_rfl) (oneCell_stC _) ?_; intro w5 h5 hfr5)
  exact ⟨rfl, _, results_c rfl rfl h5 Try.underlying25 rfl (by kernel_rfl), rfl, ((Fr.refl _ _).alloc _).step hfr5 (fun j hj => .inr (by simp at hj; omega))⟩

def pendsB (s : Nat → BitVec 64) (m want : Int) : Bool := ((((firstB (openB s (rm m))).getD 0 : Nat) : Int) == want) && ((firstB (openB s (rm m))).isSome == (want != 0))

set_option maxHeartbeats 1000000 in
theorem pends_any (s : Nat → BitVec 64) (m want : Int) (w : World) (h0 : 0 ≤ m) : Calls Try.prog 24 #[.agg (stC s), .int .u8 m, .int .u8 want] w fun e w' => e = .returned (.bool (pendsB s m want)) ∧ Fr [] w w' := by
  have e : pendsB s m want = (((((firstB (openB s (rm m))).getD 0 : Nat) : Int) == want) && ((firstB (openB s (rm m))).isSome == (want != 0))) := rfl
  rw [e]
  clear e
  have hc := fun w => pendingOf_any s m w h0
  generalize firstB (openB s (rm m)) = o at hc ⊢
  have Hc := hid hc
  clear hc
  cases h : (((o.getD 0 : Nat) : Int) == want)
  all_goals
    go_enter Try.func24, Try.ntmps24
    go_wp2_with (first | (refine wpList_load_row rfl 25 _ rfl w.heap.size rfl 25 (stC s) (0, 0) _ (blk_new _ _) Try.underlying25 rfl (by kernel_rfl) ?_) | (go_at_call 10; refine (Hc.out _).mono ?_; rintro e w' ⟨rfl, hfr⟩))
    go_ret
    exact ⟨rfl, ((Fr.refl _ _).alloc _).trans hfr⟩

def sM : Nat → BitVec 64 := fun i => if i = 7 then 32768#64 else 0#64
def eM : Nat → BitVec 64 := stE sM 0 4097#64 8#64 false 0#64

theorem enterW (w : World) : Calls Try.prog 15 #[.agg (stC sM), .int .u8 0, .int .u64 4097, .agg #[.int .u8 8, .bool false, .int .u64 0]] w fun e w' => e = .returned (.tuple #[.agg (stC eM), .int .u8 3, .int .u64 32768]) ∧ Fr [] w w' :=
  enter_any sM 0 4097#64 8#64 0#64 false w (by decide) (by decide)
theorem pendsW7 (w : World) : Calls Try.prog 24 #[.agg (stC givenS), .int .u8 0, .int .u8 7] w fun e w' => e = .returned (.bool true) ∧ Fr [] w w' := by
  have h := pends_any givenS 0 7 w (by decide)
  rwa [show pendsB givenS 0 7 = true by decide +kernel] at h
theorem pendsW0 (w : World) : Calls Try.prog 24 #[.agg (stC givenS), .int .u8 3, .int .u8 0] w fun e w' => e = .returned (.bool true) ∧ Fr [] w w' := by
  have h := pends_any givenS 3 0 w (by decide)
  rwa [show pendsB givenS 3 0 = true by decide +kernel] at h
theorem awakeW (w : World) : Calls Try.prog 12 #[.agg (stC givenS)] w fun e w' => e = .returned (.bool true) ∧ Fr [] w w' := by
  have h := awakep_any givenS w
  rwa [show ((U (pend givenS)) != 0) = true by decide +kernel] at h

set_option maxRecDepth 100000 in
set_option maxHeartbeats 2000000 in
theorem works_any (w : World) : Calls Try.prog 14 #[] w fun e w' => e = .returned (.bool true) ∧ Fr [] w w' := by
  have e8 : U (eM 8) = 4096 := by decide +kernel
  have e9 : U (eM 9) = 8 := by decide +kernel
  have e1 : U (eM 1) = 0 := by decide +kernel
  go_enter Try.func14, Try.ntmps14
  go_wp2_with (first | (go_at_call 15; refine (enterW _).mono ?_; rintro e w1 ⟨rfl, hfr1⟩) | (refine wpList_store_whole rfl 25 _ _ rfl w1.heap.size rfl (stC eM) rfl 25 _ (blk_new _ _) rfl (by kernel_rfl) (oneCell_stC _) ?_; intro w2 hB hfr2))
  have hF : Fr [] w w2 := (hfr1.alloc _).step hfr2 (fun j hj => .inr (by have := hfr1.size; simp at hj; omega))
  clear hfr2 hfr1
  go_wp2_with ((first | (go_at_call 23; ((with_reducible refine (given_any _).mono ?_))) | (go_at_call 24; ((with_reducible refine (pendsW7 _).mono ?_))) | (go_at_call 24; ((with_reducible refine (pendsW0 _).mono ?_))) | (go_at_call 12; ((with_reducible refine (awakeW _).mono ?_)))); rintro e w3 ⟨rfl, hfr3⟩; replace hF := hF.trans hfr3; replace hB := hfr3.keeps hB (by simp); have hc := blk_cell hB; clear hfr3)
  go_ret
  exact ⟨rfl, hF⟩
end Go.Proofs.Ytfdkmkblhicbfaa
