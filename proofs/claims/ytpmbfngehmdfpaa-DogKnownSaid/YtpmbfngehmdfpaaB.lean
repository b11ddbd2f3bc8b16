/- Contracts of the watchdog that look at its registers: the map of the registers, and what an access tells. -/
import Derived.Test.YtpmbfngehmdfpaaA
import Derived.Test.YtpmbfngehmdfpaaBase
import Derived.Recover
namespace Go.Proofs.Ytpmbfngehmdfpaa
open Go.RowKit

theorem zero22 (w : World) : (zeroValue 22).run Try.prog w = .ok (.int .u32 0) w := by kernel_rfl

set_option maxHeartbeats 400000 in
theorem registers_some (b : Nat) (l c : Int) (w : World) (hb : b < w.heap.size) (h : w.cell? ⟨b, 0, none⟩ = some (.int .u32 l)) (h1 : w.cell? ⟨b, 1, none⟩ = some (.int .u32 c)) :
    Calls Try.prog 24 #[.pointer (some ⟨b, 0, none⟩)] w fun e w' => e = .returned (.map (some w.heap.size)) ∧ w.alloc (litMap .u64 [(0, .int .u32 0), (8, .int .u32 ((l - c) % 4294967296)), (16, .int .u32 l)]) = w' := by
  have hmm := run_makeMap_lit (P := Try.prog) .u64
  have hins0 := run_insert_lit0 (P := Try.prog) Try.underlying46 Try.underlying27
  have hins := run_insert_lit (P := Try.prog) Try.underlying46 Try.underlying27
  go_enter Try.func24, Try.ntmps24
  go_wp2
  go_ret
  exact ⟨rfl, rfl⟩

set_option maxHeartbeats 400000 in
theorem registers_nil (w : World) :
    Calls Try.prog 24 #[.pointer none] w fun e w' => e = .returned (.map (some w.heap.size)) ∧ w.alloc (litMap .u64 [(0, .int .u32 0), (8, .int .u32 0), (16, .int .u32 0)]) = w' := by
  have hmm := run_makeMap_lit (P := Try.prog) .u64
  have hins0 := run_insert_lit0 (P := Try.prog) Try.underlying46 Try.underlying27
  have hins := run_insert_lit (P := Try.prog) Try.underlying46 Try.underlying27
  go_enter Try.func24, Try.ntmps24
  go_wp2
  go_ret
  exact ⟨rfl, rfl⟩

/-- what a register tells -/
def reg (l c : Int) (off : Int) : Int := if off = 8 then (l - c) % 4294967296 else if off = 16 then l else 0
def isreg (off width : Int) : Bool := (width == 4 || width == 8) && (off == 0 || off == 8 || off == 16)
def atv (l c off width : Int) : Int := if isreg off width = true then reg l c off else 0

theorem lk_any (x : Int) (w : World) (l : List (Int × Value)) : Sem.run Try.prog (Instr.lookup 46 (.map (some w.heap.size)) (.int .u64 x) true) (w.alloc (litMap .u64 l)) = .ok (.tuple #[(lookIn x l).getD (.int .u32 0), .bool (lookIn x l).isSome]) (w.alloc (litMap .u64 l)) := by
  simpa using run_lookup_lit (P := Try.prog) Try.underlying46 Try.underlying27 zero22 (blk_new w (litMap .u64 l)) x true

theorem ret_vb {a b : Int} {x y : Bool} (h : a = b) (k : x = y) : Ending.returned (.tuple #[.int .u64 a, .bool x]) = .returned (.tuple #[.int .u64 b, .bool y]) := by rw [h, k]

set_option maxHeartbeats 1000000 in
theorem at_some (b : Nat) (l c off width : Int) (w : World) (hl : 0 ≤ l) (hl2 : l < 4294967296) (hb : b < w.heap.size) (h : w.cell? ⟨b, 0, none⟩ = some (.int .u32 l)) (h1 : w.cell? ⟨b, 1, none⟩ = some (.int .u32 c)) :
    Calls Try.prog 21 #[.pointer (some ⟨b, 0, none⟩), .int .u64 off, .int .i64 width] w fun e w' => e = .returned (.tuple #[.int .u64 (atv l c off width), .bool (isreg off width)]) ∧ w.alloc (litMap .u64 [(0, .int .u32 0), (8, .int .u32 ((l - c) % 4294967296)), (16, .int .u32 l)]) = w' := by
  have hlk := lk_any
  by_cases e0 : off = 0
  · subst e0
    by_cases h4 : width = 4
    · subst h4
      go_enter Try.func21, Try.ntmps21
      go_wp2_with (go_at_call 24; refine (registers_some b l c _ hb h h1).mono ?_; rintro e w' ⟨rfl, rfl⟩)
      go_ret2
      exact ⟨ret_vb rfl rfl, rfl⟩
    by_cases h8 : width = 8
    · subst h8
      go_enter Try.func21, Try.ntmps21
      go_wp2_with (go_at_call 24; refine (registers_some b l c _ hb h h1).mono ?_; rintro e w' ⟨rfl, rfl⟩)
      go_ret2
      exact ⟨ret_vb rfl rfl, rfl⟩
    · have n4 : (width != 4) = true := by simpa using h4
      have n8 : (width != 8) = true := by simpa using h8
      go_enter Try.func21, Try.ntmps21
      go_wp2_with (go_at_call 24; refine (registers_some b l c _ hb h h1).mono ?_; rintro e w' ⟨rfl, rfl⟩)
      go_ret2
      exact ⟨ret_vb (by simp [atv, isreg, h4, h8]) (by simp [isreg, h4, h8]), rfl⟩
  by_cases e8 : off = 8
  · subst e8
    by_cases h4 : width = 4
    · subst h4
      go_enter Try.func21, Try.ntmps21
      go_wp2_with (go_at_call 24; refine (registers_some b l c _ hb h h1).mono ?_; rintro e w' ⟨rfl, rfl⟩)
      go_ret2
      exact ⟨ret_vb (by simp [atv, isreg, reg]) rfl, rfl⟩
    by_cases h8 : width = 8
    · subst h8
      go_enter Try.func21, Try.ntmps21
      go_wp2_with (go_at_call 24; refine (registers_some b l c _ hb h h1).mono ?_; rintro e w' ⟨rfl, rfl⟩)
      go_ret2
      exact ⟨ret_vb (by simp [atv, isreg, reg]) rfl, rfl⟩
    · have n4 : (width != 4) = true := by simpa using h4
      have n8 : (width != 8) = true := by simpa using h8
      go_enter Try.func21, Try.ntmps21
      go_wp2_with (go_at_call 24; refine (registers_some b l c _ hb h h1).mono ?_; rintro e w' ⟨rfl, rfl⟩)
      go_ret2
      exact ⟨ret_vb (by simp [atv, isreg, h4, h8]) (by simp [isreg, h4, h8]), rfl⟩
  by_cases e16 : off = 16
  · subst e16
    by_cases h4 : width = 4
    · subst h4
      go_enter Try.func21, Try.ntmps21
      go_wp2_with (go_at_call 24; refine (registers_some b l c _ hb h h1).mono ?_; rintro e w' ⟨rfl, rfl⟩)
      go_ret2
      exact ⟨ret_vb (by simp [atv, isreg, reg]) rfl, rfl⟩
    by_cases h8 : width = 8
    · subst h8
      go_enter Try.func21, Try.ntmps21
      go_wp2_with (go_at_call 24; refine (registers_some b l c _ hb h h1).mono ?_; rintro e w' ⟨rfl, rfl⟩)
      go_ret2
      exact ⟨ret_vb (by simp [atv, isreg, reg]) rfl, rfl⟩
    · have n4 : (width != 4) = true := by simpa using h4
      have n8 : (width != 8) = true := by simpa using h8
      go_enter Try.func21, Try.ntmps21
      go_wp2_with (go_at_call 24; refine (registers_some b l c _ hb h h1).mono ?_; rintro e w' ⟨rfl, rfl⟩)
      go_ret2
      exact ⟨ret_vb (by simp [atv, isreg, h4, h8]) (by simp [isreg, h4, h8]), rfl⟩
  · go_enter Try.func21, Try.ntmps21
    go_wp2_with (go_at_call 24; refine (registers_some b l c _ hb h h1).mono ?_; rintro e w' ⟨rfl, rfl⟩)
    go_ret2
    exact ⟨ret_vb (by simp [atv, isreg, e0, e8, e16]) (by simp [isreg, e0, e8, e16]), rfl⟩

set_option maxHeartbeats 1000000 in
theorem at_nil (off width : Int) (w : World) :
    Calls Try.prog 21 #[.pointer none, .int .u64 off, .int .i64 width] w fun e w' => e = .returned (.tuple #[.int .u64 0, .bool false]) ∧ w.alloc (litMap .u64 [(0, .int .u32 0), (8, .int .u32 0), (16, .int .u32 0)]) = w' := by
  have hlk := lk_any
  by_cases e0 : off = 0
  · subst e0
    go_enter Try.func21, Try.ntmps21
    go_wp2_with (go_at_call 24; refine (registers_nil _).mono ?_; rintro e w' ⟨rfl, rfl⟩)
    go_ret2
    exact ⟨ret_vb rfl rfl, rfl⟩
  by_cases e8 : off = 8
  · subst e8
    go_enter Try.func21, Try.ntmps21
    go_wp2_with (go_at_call 24; refine (registers_nil _).mono ?_; rintro e w' ⟨rfl, rfl⟩)
    go_ret2
    exact ⟨ret_vb rfl rfl, rfl⟩
  by_cases e16 : off = 16
  · subst e16
    go_enter Try.func21, Try.ntmps21
    go_wp2_with (go_at_call 24; refine (registers_nil _).mono ?_; rintro e w' ⟨rfl, rfl⟩)
    go_ret2
    exact ⟨ret_vb rfl rfl, rfl⟩
  · go_enter Try.func21, Try.ntmps21
    go_wp2_with (go_at_call 24; refine (registers_nil _).mono ?_; rintro e w' ⟨rfl, rfl⟩)
    go_ret2
    exact ⟨ret_vb rfl rfl, rfl⟩
end Go.Proofs.Ytpmbfngehmdfpaa
