/- What an access of a timer is of, whatever the place and the width. -/
import Derived.Test.YtefhcadlakakbaaB1
import Derived.Test.YtefhcadlakakbaaB2
import Derived.Test.YtefhcadlakakbaaB4
import Derived.Test.YtefhcadlakakbaaB8
import Derived.BigGuard
import Derived.Deep.DeepCutAuto
namespace Go.Proofs.Ytefhcadlakakbaa
open Go.RowKit Go.Shelf
set_option linter.all false

theorem fr_of_below {W w' : World} (h : Below W.heap.size W w') : Fr [] W w' := ⟨h.os, h.tape, h.output, h.size, fun k hk _ => h.block k hk⟩
def maskW (wd : Int) : Int := if wd = 1 then 255 else if wd = 2 then 65535 else if wd = 4 then 4294967295 else 18446744073709551615
def okA (off wd : Int) : Bool := (wd == 1 || wd == 2 || wd == 4 || wd == 8) && (off % wd == 0)
/-- which register an access is of -/
def acc (off wd : Int) : Option Nat := if okA off wd = true then fh off wd else none
def accC (b : Nat) (off wd : Int) : Array Value := match acc off wd with | some k => fC b off (maskW wd) k | none => zC

set_option maxRecDepth 100000 in
set_option maxHeartbeats 1000000 in
theorem at_wide (p : Option Addr) (off wd : Int) (w : World) (d1 : (wd != 1) = true) (d2 : (wd != 2) = true) (d4 : (wd != 4) = true) (d8 : (wd != 8) = true) :
    Calls Try.prog 20 #[.pointer p, .int .u64 off, .int .i64 wd] w fun e W' => e = .returned (.tuple #[.agg zC, .bool false]) ∧ Fr [] w W' := by
  go_enter Try.func20, Try.ntmps20
  go_wp2
  refine bodyPost_ret (v := .tuple #[.agg zC, .bool false]) (by simp [results, Try.results20, go_sem, zC]) rfl ⟨rfl, ?_⟩
  exact (((((Fr.refl _ _).alloc _).alloc _).alloc _).alloc _)
set_option maxRecDepth 100000 in
set_option maxHeartbeats 1000000 in
theorem at_bad2 (p : Option Addr) (off : Int) (w : World) (o0 : 0 ≤ off) (hm : (off % 2 != 0) = true) :
    Calls Try.prog 20 #[.pointer p, .int .u64 off, .int .i64 2] w fun e W' => e = .returned (.tuple #[.agg zC, .bool false]) ∧ Fr [] w W' := by
  go_enter Try.func20, Try.ntmps20
  go_wp2
  refine bodyPost_ret (v := .tuple #[.agg zC, .bool false]) (by simp [results, Try.results20, go_sem, zC]) rfl ⟨rfl, ?_⟩
  exact (((((Fr.refl _ _).alloc _).alloc _).alloc _).alloc _)
set_option maxRecDepth 100000 in
set_option maxHeartbeats 1000000 in
theorem at_bad4 (p : Option Addr) (off : Int) (w : World) (o0 : 0 ≤ off) (hm : (off % 4 != 0) = true) :
    Calls Try.prog 20 #[.pointer p, .int .u64 off, .int .i64 4] w fun e W' => e = .returned (.tuple #[.agg zC, .bool false]) ∧ Fr [] w W' := by
  go_enter Try.func20, Try.ntmps20
  go_wp2
  refine bodyPost_ret (v := .tuple #[.agg zC, .bool false]) (by simp [results, Try.results20, go_sem, zC]) rfl ⟨rfl, ?_⟩
  exact (((((Fr.refl _ _).alloc _).alloc _).alloc _).alloc _)
set_option maxRecDepth 100000 in
set_option maxHeartbeats 1000000 in
theorem at_bad8 (p : Option Addr) (off : Int) (w : World) (o0 : 0 ≤ off) (hm : (off % 8 != 0) = true) :
    Calls Try.prog 20 #[.pointer p, .int .u64 off, .int .i64 8] w fun e W' => e = .returned (.tuple #[.agg zC, .bool false]) ∧ Fr [] w W' := by
  go_enter Try.func20, Try.ntmps20
  go_wp2
  refine bodyPost_ret (v := .tuple #[.agg zC, .bool false]) (by simp [results, Try.results20, go_sem, zC]) rfl ⟨rfl, ?_⟩
  exact (((((Fr.refl _ _).alloc _).alloc _).alloc _).alloc _)

theorem at_any (b : Nat) (off wd : Int) (w : World) (o0 : 0 ≤ off) (o1 : off < 18446744073709551616) :
    Calls Try.prog 20 #[.pointer (some ⟨b, 0, none⟩), .int .u64 off, .int .i64 wd] w fun e W' => e = .returned (.tuple #[.agg (accC b off wd), .bool (acc off wd).isSome]) ∧ Fr [] w W' := by
  by_cases h1 : wd = 1
  · subst h1
    have ho : okA off 1 = true := by unfold okA; simp
    have ha : acc off 1 = fh off 1 := by unfold acc; rw [if_pos ho]
    have hc : accC b off 1 = resC b off 1 255 := by unfold accC resC; rw [ha]; rfl
    rw [ha, hc]
    exact (callsIn_wide.1 (at_1 Fence.wide 6 trivial trivial trivial rfl (by omega) b off w o0 o1 (by simp))).mono (by rintro e w' ⟨rfl, hb⟩; exact ⟨rfl, fr_of_below hb⟩)
  by_cases h2 : wd = 2
  · subst h2
    by_cases hm : off % 2 = 0
    · have ho : okA off 2 = true := by unfold okA; simp [hm]
      have ha : acc off 2 = fh off 2 := by unfold acc; rw [if_pos ho]
      have hc : accC b off 2 = resC b off 2 65535 := by unfold accC resC; rw [ha]; rfl
      rw [ha, hc]
      exact (callsIn_wide.1 (at_2 Fence.wide 6 trivial trivial trivial rfl (by omega) b off w o0 o1 (by simp [hm]))).mono (by rintro e w' ⟨rfl, hb⟩; exact ⟨rfl, fr_of_below hb⟩)
    · have ho : ¬ okA off 2 = true := by unfold okA; simp [hm]
      have ha : acc off 2 = none := by unfold acc; rw [if_neg ho]
      have hc : accC b off 2 = zC := by unfold accC; rw [ha]
      rw [ha, hc]
      exact at_bad2 _ off w o0 (by simp [hm])
  by_cases h4 : wd = 4
  · subst h4
    by_cases hm : off % 4 = 0
    · have ho : okA off 4 = true := by unfold okA; simp [hm]
      have ha : acc off 4 = fh off 4 := by unfold acc; rw [if_pos ho]
      have hc : accC b off 4 = resC b off 4 4294967295 := by unfold accC resC; rw [ha]; rfl
      rw [ha, hc]
      exact (callsIn_wide.1 (at_4 Fence.wide 6 trivial trivial trivial rfl (by omega) b off w o0 o1 (by simp [hm]))).mono (by rintro e w' ⟨rfl, hb⟩; exact ⟨rfl, fr_of_below hb⟩)
    · have ho : ¬ okA off 4 = true := by unfold okA; simp [hm]
      have ha : acc off 4 = none := by unfold acc; rw [if_neg ho]
      have hc : accC b off 4 = zC := by unfold accC; rw [ha]
      rw [ha, hc]
      exact at_bad4 _ off w o0 (by simp [hm])
  by_cases h8 : wd = 8
  · subst h8
    by_cases hm : off % 8 = 0
    · have ho : okA off 8 = true := by unfold okA; simp [hm]
      have ha : acc off 8 = fh off 8 := by unfold acc; rw [if_pos ho]
      have hc : accC b off 8 = resC b off 8 18446744073709551615 := by unfold accC resC; rw [ha]; rfl
      rw [ha, hc]
      exact (callsIn_wide.1 (at_8 Fence.wide 6 trivial trivial trivial rfl (by omega) b off w o0 o1 (by simp [hm]))).mono (by rintro e w' ⟨rfl, hb⟩; exact ⟨rfl, fr_of_below hb⟩)
    · have ho : ¬ okA off 8 = true := by unfold okA; simp [hm]
      have ha : acc off 8 = none := by unfold acc; rw [if_neg ho]
      have hc : accC b off 8 = zC := by unfold accC; rw [ha]
      rw [ha, hc]
      exact at_bad8 _ off w o0 (by simp [hm])
  · have ho : ¬ okA off wd = true := by unfold okA; simp [h1, h2, h4, h8]
    have ha : acc off wd = none := by unfold acc; rw [if_neg ho]
    have hc : accC b off wd = zC := by unfold accC; rw [ha]
    rw [ha, hc]
    exact at_wide _ off wd w (by simp [h1]) (by simp [h2]) (by simp [h4]) (by simp [h8])
end Go.Proofs.Ytefhcadlakakbaa
