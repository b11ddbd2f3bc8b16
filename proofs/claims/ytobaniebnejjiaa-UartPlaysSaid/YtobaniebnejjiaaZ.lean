/- A serial line and the reference's side by side. -/
import Derived.Test.YtobaniebnejjiaaY
namespace Go.Proofs.Ytobaniebnejjiaa.U
open Go.RowKit
set_option linter.all false
set_option maxRecDepth 100000 in
set_option maxHeartbeats 4000000 in
theorem both_0 (g h : Nat) (what off v width b : Int) (x : Int) (ok : Bool) (Q1 Q2 : World → Prop) (w : World) (k0 : 0 ≤ what) (k1 : what < 256) (v0 : 0 ≤ v) (v1 : v < 18446744073709551616) (hbv : v % 256 = b) (hm : what % 9 = 0)
    (h1 : Hid (∀ w1, w1 = w.alloc (.cells #[.int .u8 what, .int .u64 off, .int .u64 v, .int .i64 width] 28) → Calls Try.prog 11 #[.pointer (some ⟨g, 0, none⟩), .int .u64 off, .int .i64 width] w1 fun e w' => e = .returned (.tuple #[.int .u64 x, .bool ok]) ∧ w'.heap[w.heap.size]? = some (.cells #[.int .u8 what, .int .u64 off, .int .u64 v, .int .i64 width] 28) ∧ Q1 w'))
    (h2 : Hid (∀ w1, Q1 w1 → Calls Try.prog 30 #[.pointer (some ⟨h, 0, none⟩), .int .u64 off, .int .i64 width] w1 fun e w' => e = .returned (.tuple #[.int .u64 x, .bool ok]) ∧ Q2 w')) : Calls Try.prog 19 #[.pointer (some ⟨g, 0, none⟩), .pointer (some ⟨h, 0, none⟩), .agg #[.int .u8 what, .int .u64 off, .int .u64 v, .int .i64 width]] w fun e w' => e = .returned (.bool true) ∧ Q2 w' := by
  have hw : IntKind.u8.wrap v = b := by rw [← hbv]; rfl
  have q1 : (x == x) = true := beq_self_eq_true _
  have q2 : (ok == ok) = true := beq_self_eq_true _
  go_enter Try.func19, Try.ntmps19
  go_wp2_with (first | (go_at_call 11; (with_reducible refine (h1.out _ rfl).mono ?_); rintro e w1 ⟨rfl, hB, hq⟩; have x1 : w1.cell? ⟨w.heap.size, 1, none⟩ = some (.int .u64 off) := (blk_cell hB 1).trans rfl; have x2 : w1.cell? ⟨w.heap.size, 2, none⟩ = some (.int .u64 v) := (blk_cell hB 2).trans rfl; have x3 : w1.cell? ⟨w.heap.size, 3, none⟩ = some (.int .i64 width) := (blk_cell hB 3).trans rfl; clear hB; replace hq := hid hq) | (go_at_call 30; (with_reducible refine (h2.out _ hq.out).mono ?_); rintro e w2 ⟨rfl, hq2⟩))
  go_ret
  exact ⟨rfl, hq2⟩
set_option maxRecDepth 100000 in
set_option maxHeartbeats 4000000 in
theorem both_1 (g h : Nat) (what off v width b : Int) (x : Int) (ok : Bool) (Q1 Q2 : World → Prop) (w : World) (k0 : 0 ≤ what) (k1 : what < 256) (v0 : 0 ≤ v) (v1 : v < 18446744073709551616) (hbv : v % 256 = b) (hm : what % 9 = 1)
    (h1 : Hid (∀ w1, w1 = w.alloc (.cells #[.int .u8 what, .int .u64 off, .int .u64 v, .int .i64 width] 28) → Calls Try.prog 11 #[.pointer (some ⟨g, 0, none⟩), .int .u64 off, .int .i64 width] w1 fun e w' => e = .returned (.tuple #[.int .u64 x, .bool ok]) ∧ w'.heap[w.heap.size]? = some (.cells #[.int .u8 what, .int .u64 off, .int .u64 v, .int .i64 width] 28) ∧ Q1 w'))
    (h2 : Hid (∀ w1, Q1 w1 → Calls Try.prog 30 #[.pointer (some ⟨h, 0, none⟩), .int .u64 off, .int .i64 width] w1 fun e w' => e = .returned (.tuple #[.int .u64 x, .bool ok]) ∧ Q2 w')) : Calls Try.prog 19 #[.pointer (some ⟨g, 0, none⟩), .pointer (some ⟨h, 0, none⟩), .agg #[.int .u8 what, .int .u64 off, .int .u64 v, .int .i64 width]] w fun e w' => e = .returned (.bool true) ∧ Q2 w' := by
  have hw : IntKind.u8.wrap v = b := by rw [← hbv]; rfl
  have q1 : (x == x) = true := beq_self_eq_true _
  have q2 : (ok == ok) = true := beq_self_eq_true _
  go_enter Try.func19, Try.ntmps19
  go_wp2_with (first | (go_at_call 11; (with_reducible refine (h1.out _ rfl).mono ?_); rintro e w1 ⟨rfl, hB, hq⟩; have x1 : w1.cell? ⟨w.heap.size, 1, none⟩ = some (.int .u64 off) := (blk_cell hB 1).trans rfl; have x2 : w1.cell? ⟨w.heap.size, 2, none⟩ = some (.int .u64 v) := (blk_cell hB 2).trans rfl; have x3 : w1.cell? ⟨w.heap.size, 3, none⟩ = some (.int .i64 width) := (blk_cell hB 3).trans rfl; clear hB; replace hq := hid hq) | (go_at_call 30; (with_reducible refine (h2.out _ hq.out).mono ?_); rintro e w2 ⟨rfl, hq2⟩))
  go_ret
  exact ⟨rfl, hq2⟩
set_option maxRecDepth 100000 in
set_option maxHeartbeats 4000000 in
theorem both_2 (g h : Nat) (what off v width b : Int) (x : Int) (ok : Bool) (Q1 Q2 : World → Prop) (w : World) (k0 : 0 ≤ what) (k1 : what < 256) (v0 : 0 ≤ v) (v1 : v < 18446744073709551616) (hbv : v % 256 = b) (hm : what % 9 = 2)
    (h1 : Hid (∀ w1, w1 = w.alloc (.cells #[.int .u8 what, .int .u64 off, .int .u64 v, .int .i64 width] 28) → Calls Try.prog 11 #[.pointer (some ⟨g, 0, none⟩), .int .u64 off, .int .i64 width] w1 fun e w' => e = .returned (.tuple #[.int .u64 x, .bool ok]) ∧ w'.heap[w.heap.size]? = some (.cells #[.int .u8 what, .int .u64 off, .int .u64 v, .int .i64 width] 28) ∧ Q1 w'))
    (h2 : Hid (∀ w1, Q1 w1 → Calls Try.prog 30 #[.pointer (some ⟨h, 0, none⟩), .int .u64 off, .int .i64 width] w1 fun e w' => e = .returned (.tuple #[.int .u64 x, .bool ok]) ∧ Q2 w')) : Calls Try.prog 19 #[.pointer (some ⟨g, 0, none⟩), .pointer (some ⟨h, 0, none⟩), .agg #[.int .u8 what, .int .u64 off, .int .u64 v, .int .i64 width]] w fun e w' => e = .returned (.bool true) ∧ Q2 w' := by
  have hw : IntKind.u8.wrap v = b := by rw [← hbv]; rfl
  have q1 : (x == x) = true := beq_self_eq_true _
  have q2 : (ok == ok) = true := beq_self_eq_true _
  go_enter Try.func19, Try.ntmps19
  go_wp2_with (first | (go_at_call 11; (with_reducible refine (h1.out _ rfl).mono ?_); rintro e w1 ⟨rfl, hB, hq⟩; have x1 : w1.cell? ⟨w.heap.size, 1, none⟩ = some (.int .u64 off) := (blk_cell hB 1).trans rfl; have x2 : w1.cell? ⟨w.heap.size, 2, none⟩ = some (.int .u64 v) := (blk_cell hB 2).trans rfl; have x3 : w1.cell? ⟨w.heap.size, 3, none⟩ = some (.int .i64 width) := (blk_cell hB 3).trans rfl; clear hB; replace hq := hid hq) | (go_at_call 30; (with_reducible refine (h2.out _ hq.out).mono ?_); rintro e w2 ⟨rfl, hq2⟩))
  go_ret
  exact ⟨rfl, hq2⟩
set_option maxRecDepth 100000 in
set_option maxHeartbeats 4000000 in
theorem both_3 (g h : Nat) (what off v width b : Int) (ok : Bool) (Q1 Q2 : World → Prop) (w : World) (k0 : 0 ≤ what) (k1 : what < 256) (v0 : 0 ≤ v) (v1 : v < 18446744073709551616) (hbv : v % 256 = b) (hm : what % 9 = 3)
    (h1 : Hid (∀ w1, w1 = w.alloc (.cells #[.int .u8 what, .int .u64 off, .int .u64 v, .int .i64 width] 28) → Calls Try.prog 12 #[.pointer (some ⟨g, 0, none⟩), .int .u64 off, .int .i64 width, .int .u64 v] w1 fun e w' => e = .returned (.bool ok) ∧ w'.heap[w.heap.size]? = some (.cells #[.int .u8 what, .int .u64 off, .int .u64 v, .int .i64 width] 28) ∧ Q1 w'))
    (h2 : Hid (∀ w1, Q1 w1 → Calls Try.prog 31 #[.pointer (some ⟨h, 0, none⟩), .int .u64 off, .int .i64 width, .int .u64 v] w1 fun e w' => e = .returned (.bool ok) ∧ Q2 w')) : Calls Try.prog 19 #[.pointer (some ⟨g, 0, none⟩), .pointer (some ⟨h, 0, none⟩), .agg #[.int .u8 what, .int .u64 off, .int .u64 v, .int .i64 width]] w fun e w' => e = .returned (.bool true) ∧ Q2 w' := by
  have hw : IntKind.u8.wrap v = b := by rw [← hbv]; rfl
  have q2 : (ok == ok) = true := beq_self_eq_true _
  go_enter Try.func19, Try.ntmps19
  go_wp2_with (first | (go_at_call 12; (with_reducible refine (h1.out _ rfl).mono ?_); rintro e w1 ⟨rfl, hB, hq⟩; have x1 : w1.cell? ⟨w.heap.size, 1, none⟩ = some (.int .u64 off) := (blk_cell hB 1).trans rfl; have x2 : w1.cell? ⟨w.heap.size, 2, none⟩ = some (.int .u64 v) := (blk_cell hB 2).trans rfl; have x3 : w1.cell? ⟨w.heap.size, 3, none⟩ = some (.int .i64 width) := (blk_cell hB 3).trans rfl; clear hB; replace hq := hid hq) | (go_at_call 31; (with_reducible refine (h2.out _ hq.out).mono ?_); rintro e w2 ⟨rfl, hq2⟩))
  go_ret
  exact ⟨rfl, hq2⟩
set_option maxRecDepth 100000 in
set_option maxHeartbeats 4000000 in
theorem both_4 (g h : Nat) (what off v width b : Int) (ok : Bool) (Q1 Q2 : World → Prop) (w : World) (k0 : 0 ≤ what) (k1 : what < 256) (v0 : 0 ≤ v) (v1 : v < 18446744073709551616) (hbv : v % 256 = b) (hm : what % 9 = 4)
    (h1 : Hid (∀ w1, w1 = w.alloc (.cells #[.int .u8 what, .int .u64 off, .int .u64 v, .int .i64 width] 28) → Calls Try.prog 12 #[.pointer (some ⟨g, 0, none⟩), .int .u64 off, .int .i64 width, .int .u64 v] w1 fun e w' => e = .returned (.bool ok) ∧ w'.heap[w.heap.size]? = some (.cells #[.int .u8 what, .int .u64 off, .int .u64 v, .int .i64 width] 28) ∧ Q1 w'))
    (h2 : Hid (∀ w1, Q1 w1 → Calls Try.prog 31 #[.pointer (some ⟨h, 0, none⟩), .int .u64 off, .int .i64 width, .int .u64 v] w1 fun e w' => e = .returned (.bool ok) ∧ Q2 w')) : Calls Try.prog 19 #[.pointer (some ⟨g, 0, none⟩), .pointer (some ⟨h, 0, none⟩), .agg #[.int .u8 what, .int .u64 off, .int .u64 v, .int .i64 width]] w fun e w' => e = .returned (.bool true) ∧ Q2 w' := by
  have hw : IntKind.u8.wrap v = b := by rw [← hbv]; rfl
  have q2 : (ok == ok) = true := beq_self_eq_true _
  go_enter Try.func19, Try.ntmps19
  go_wp2_with (first | (go_at_call 12; (with_reducible refine (h1.out _ rfl).mono ?_); rintro e w1 ⟨rfl, hB, hq⟩; have x1 : w1.cell? ⟨w.heap.size, 1, none⟩ = some (.int .u64 off) := (blk_cell hB 1).trans rfl; have x2 : w1.cell? ⟨w.heap.size, 2, none⟩ = some (.int .u64 v) := (blk_cell hB 2).trans rfl; have x3 : w1.cell? ⟨w.heap.size, 3, none⟩ = some (.int .i64 width) := (blk_cell hB 3).trans rfl; clear hB; replace hq := hid hq) | (go_at_call 31; (with_reducible refine (h2.out _ hq.out).mono ?_); rintro e w2 ⟨rfl, hq2⟩))
  go_ret
  exact ⟨rfl, hq2⟩
set_option maxRecDepth 100000 in
set_option maxHeartbeats 4000000 in
theorem both_5 (g h : Nat) (what off v width b : Int) (ok : Bool) (Q1 Q2 : World → Prop) (w : World) (k0 : 0 ≤ what) (k1 : what < 256) (v0 : 0 ≤ v) (v1 : v < 18446744073709551616) (hbv : v % 256 = b) (hm : what % 9 = 5)
    (h1 : Hid (∀ w1, w1 = w.alloc (.cells #[.int .u8 what, .int .u64 off, .int .u64 v, .int .i64 width] 28) → Calls Try.prog 12 #[.pointer (some ⟨g, 0, none⟩), .int .u64 off, .int .i64 width, .int .u64 v] w1 fun e w' => e = .returned (.bool ok) ∧ w'.heap[w.heap.size]? = some (.cells #[.int .u8 what, .int .u64 off, .int .u64 v, .int .i64 width] 28) ∧ Q1 w'))
    (h2 : Hid (∀ w1, Q1 w1 → Calls Try.prog 31 #[.pointer (some ⟨h, 0, none⟩), .int .u64 off, .int .i64 width, .int .u64 v] w1 fun e w' => e = .returned (.bool ok) ∧ Q2 w')) : Calls Try.prog 19 #[.pointer (some ⟨g, 0, none⟩), .pointer (some ⟨h, 0, none⟩), .agg #[.int .u8 what, .int .u64 off, .int .u64 v, .int .i64 width]] w fun e w' => e = .returned (.bool true) ∧ Q2 w' := by
  have hw : IntKind.u8.wrap v = b := by rw [← hbv]; rfl
  have q2 : (ok == ok) = true := beq_self_eq_true _
  go_enter Try.func19, Try.ntmps19
  go_wp2_with (first | (go_at_call 12; (with_reducible refine (h1.out _ rfl).mono ?_); rintro e w1 ⟨rfl, hB, hq⟩; have x1 : w1.cell? ⟨w.heap.size, 1, none⟩ = some (.int .u64 off) := (blk_cell hB 1).trans rfl; have x2 : w1.cell? ⟨w.heap.size, 2, none⟩ = some (.int .u64 v) := (blk_cell hB 2).trans rfl; have x3 : w1.cell? ⟨w.heap.size, 3, none⟩ = some (.int .i64 width) := (blk_cell hB 3).trans rfl; clear hB; replace hq := hid hq) | (go_at_call 31; (with_reducible refine (h2.out _ hq.out).mono ?_); rintro e w2 ⟨rfl, hq2⟩))
  go_ret
  exact ⟨rfl, hq2⟩
set_option maxRecDepth 100000 in
set_option maxHeartbeats 4000000 in
theorem both_6 (g h : Nat) (what off v width b : Int) (ok : Bool) (Q1 Q2 : World → Prop) (w : World) (k0 : 0 ≤ what) (k1 : what < 256) (v0 : 0 ≤ v) (v1 : v < 18446744073709551616) (hbv : v % 256 = b) (hm : what % 9 = 6)
    (h1 : Hid (∀ w1, w1 = w.alloc (.cells #[.int .u8 what, .int .u64 off, .int .u64 v, .int .i64 width] 28) → Calls Try.prog 13 #[.pointer (some ⟨g, 0, none⟩), .int .u8 b] w1 fun e w' => e = .returned (.bool ok) ∧ w'.heap[w.heap.size]? = some (.cells #[.int .u8 what, .int .u64 off, .int .u64 v, .int .i64 width] 28) ∧ Q1 w'))
    (h2 : Hid (∀ w1, Q1 w1 → Calls Try.prog 32 #[.pointer (some ⟨h, 0, none⟩), .int .u8 b] w1 fun e w' => e = .returned (.bool ok) ∧ Q2 w')) : Calls Try.prog 19 #[.pointer (some ⟨g, 0, none⟩), .pointer (some ⟨h, 0, none⟩), .agg #[.int .u8 what, .int .u64 off, .int .u64 v, .int .i64 width]] w fun e w' => e = .returned (.bool true) ∧ Q2 w' := by
  have hw : IntKind.u8.wrap v = b := by rw [← hbv]; rfl
  have q2 : (ok == ok) = true := beq_self_eq_true _
  go_enter Try.func19, Try.ntmps19
  go_wp2_with (first | (go_at_call 13; (with_reducible refine (h1.out _ rfl).mono ?_); rintro e w1 ⟨rfl, hB, hq⟩; have x1 : w1.cell? ⟨w.heap.size, 1, none⟩ = some (.int .u64 off) := (blk_cell hB 1).trans rfl; have x2 : w1.cell? ⟨w.heap.size, 2, none⟩ = some (.int .u64 v) := (blk_cell hB 2).trans rfl; have x3 : w1.cell? ⟨w.heap.size, 3, none⟩ = some (.int .i64 width) := (blk_cell hB 3).trans rfl; clear hB; replace hq := hid hq) | (go_at_call 32; (with_reducible refine (h2.out _ hq.out).mono ?_); rintro e w2 ⟨rfl, hq2⟩))
  go_ret
  exact ⟨rfl, hq2⟩
set_option maxRecDepth 100000 in
set_option maxHeartbeats 4000000 in
theorem both_7 (g h : Nat) (what off v width b : Int) (ok : Bool) (Q1 Q2 : World → Prop) (w : World) (k0 : 0 ≤ what) (k1 : what < 256) (v0 : 0 ≤ v) (v1 : v < 18446744073709551616) (hbv : v % 256 = b) (hm : what % 9 = 7)
    (h1 : Hid (∀ w1, w1 = w.alloc (.cells #[.int .u8 what, .int .u64 off, .int .u64 v, .int .i64 width] 28) → Calls Try.prog 13 #[.pointer (some ⟨g, 0, none⟩), .int .u8 b] w1 fun e w' => e = .returned (.bool ok) ∧ w'.heap[w.heap.size]? = some (.cells #[.int .u8 what, .int .u64 off, .int .u64 v, .int .i64 width] 28) ∧ Q1 w'))
    (h2 : Hid (∀ w1, Q1 w1 → Calls Try.prog 32 #[.pointer (some ⟨h, 0, none⟩), .int .u8 b] w1 fun e w' => e = .returned (.bool ok) ∧ Q2 w')) : Calls Try.prog 19 #[.pointer (some ⟨g, 0, none⟩), .pointer (some ⟨h, 0, none⟩), .agg #[.int .u8 what, .int .u64 off, .int .u64 v, .int .i64 width]] w fun e w' => e = .returned (.bool true) ∧ Q2 w' := by
  have hw : IntKind.u8.wrap v = b := by rw [← hbv]; rfl
  have q2 : (ok == ok) = true := beq_self_eq_true _
  go_enter Try.func19, Try.ntmps19
  go_wp2_with (first | (go_at_call 13; (with_reducible refine (h1.out _ rfl).mono ?_); rintro e w1 ⟨rfl, hB, hq⟩; have x1 : w1.cell? ⟨w.heap.size, 1, none⟩ = some (.int .u64 off) := (blk_cell hB 1).trans rfl; have x2 : w1.cell? ⟨w.heap.size, 2, none⟩ = some (.int .u64 v) := (blk_cell hB 2).trans rfl; have x3 : w1.cell? ⟨w.heap.size, 3, none⟩ = some (.int .i64 width) := (blk_cell hB 3).trans rfl; clear hB; replace hq := hid hq) | (go_at_call 32; (with_reducible refine (h2.out _ hq.out).mono ?_); rintro e w2 ⟨rfl, hq2⟩))
  go_ret
  exact ⟨rfl, hq2⟩
set_option maxRecDepth 100000 in
set_option maxHeartbeats 4000000 in
theorem both_8 (g h : Nat) (what off v width b : Int) (s : ByteArray) (Q1 Q2 : World → Prop) (w : World) (k0 : 0 ≤ what) (k1 : what < 256) (v0 : 0 ≤ v) (v1 : v < 18446744073709551616) (hbv : v % 256 = b) (hm : what % 9 = 8)
    (h1 : Hid (∀ w1, w1 = w.alloc (.cells #[.int .u8 what, .int .u64 off, .int .u64 v, .int .i64 width] 28) → Calls Try.prog 14 #[.pointer (some ⟨g, 0, none⟩)] w1 fun e w' => e = .returned (.string s) ∧ w'.heap[w.heap.size]? = some (.cells #[.int .u8 what, .int .u64 off, .int .u64 v, .int .i64 width] 28) ∧ Q1 w'))
    (h2 : Hid (∀ w1, Q1 w1 → Calls Try.prog 22 #[.pointer (some ⟨h, 0, none⟩)] w1 fun e w' => e = .returned (.string s) ∧ Q2 w')) : Calls Try.prog 19 #[.pointer (some ⟨g, 0, none⟩), .pointer (some ⟨h, 0, none⟩), .agg #[.int .u8 what, .int .u64 off, .int .u64 v, .int .i64 width]] w fun e w' => e = .returned (.bool true) ∧ Q2 w' := by
  have hw : IntKind.u8.wrap v = b := by rw [← hbv]; rfl
  have q2 : (s.toList == s.toList) = true := beq_self_eq_true _
  go_enter Try.func19, Try.ntmps19
  go_wp2_with (first | (go_at_call 14; (with_reducible refine (h1.out _ rfl).mono ?_); rintro e w1 ⟨rfl, hB, hq⟩; have x1 : w1.cell? ⟨w.heap.size, 1, none⟩ = some (.int .u64 off) := (blk_cell hB 1).trans rfl; have x2 : w1.cell? ⟨w.heap.size, 2, none⟩ = some (.int .u64 v) := (blk_cell hB 2).trans rfl; have x3 : w1.cell? ⟨w.heap.size, 3, none⟩ = some (.int .i64 width) := (blk_cell hB 3).trans rfl; clear hB; replace hq := hid hq) | (go_at_call 22; (with_reducible refine (h2.out _ hq.out).mono ?_); rintro e w2 ⟨rfl, hq2⟩))
  go_ret
  exact ⟨rfl, hq2⟩
theorem Lines.sub {w0 w : World} {X Y : List Nat} {n : Nat} {g : Nat → Nat} {u : Nat → St} (h : Lines w0 w X n g u) (hY : ∀ y ∈ Y, y ∈ X) : Lines w0 w Y n g u := by
  obtain ⟨T, h1, h2, h3, h4⟩ := h
  exact ⟨T, fun i hi => ⟨(h1 i hi).1, (h1 i hi).2.1, fun k hk hm => (h1 i hi).2.2 k hk (hY k hm)⟩, h2, fun x hx => h3 x (hY x hx), h4⟩
/-- a line at g and the reference's at h, in the same state -/
def Pair (w0 w : World) (g h : Nat) (u : St) : Prop := Lines w0 w [h] 1 (fun _ => g) (fun _ => u) ∧ w.heap[h]? = some (.cells (clR u) 42) ∧ w0.heap.size ≤ h
theorem Pair.fr {w0 w : World} {g h : Nat} {u : St} (p : Pair w0 w g h u) : Fr [] w0 w := Lines.fr p.1
theorem Pair.grow {w0 w w' : World} {g h : Nat} {u : St} (p : Pair w0 w g h u) (hf : Fr [] w w') : Pair w0 w' g h u := ⟨Lines.grow p.1 hf, hf.keeps p.2.1 (by simp), p.2.2⟩
theorem const_of {w0 w : World} {X : List Nat} {g : Nat} {u u' : St} (h : Lines w0 w X 1 (fun _ => g) (updS (fun _ => u) 0 u')) : Lines w0 w X 1 (fun _ => g) (fun _ => u') := lines_congr h fun i hi => by
  obtain rfl : i = 0 := by omega
  exact ⟨rfl, rfl⟩
/-- one operation of both, behind a block B that stays -/
theorem pair_op {w0 w : World} {g h : Nat} {u u' : St} {f rf : FuncId} {args rargs : Array Value} {r : Value} {o : Obj} (p : Pair w0 w g h u)
    (c1 : ∀ (w1 : World) (X : List Nat), Lines w0 w1 X 1 (fun _ => g) (fun _ => u) → Calls Try.prog f args w1 fun e w' => e = .returned r ∧ LP w0 w1 w' X 1 (fun _ => g) (updS (fun _ => u) 0 u'))
    (c2 : ∀ (w1 : World), w1.heap[h]? = some (.cells (clR u) 42) → Calls Try.prog rf rargs w1 fun e w' => e = .returned r ∧ w'.heap[h]? = some (.cells (clR u') 42) ∧ Fr [h] w1 w') :
    ∃ Q1 : World → Prop, (∀ w1, w1 = w.alloc o → Calls Try.prog f args w1 fun e w' => e = .returned r ∧ w'.heap[w.heap.size]? = some o ∧ Q1 w') ∧ ∀ w1, Q1 w1 → Calls Try.prog rf rargs w1 fun e w' => e = .returned r ∧ Pair w0 w' g h u' := by
  obtain ⟨p1, p2, p3⟩ := p
  refine ⟨fun w1 => Lines w0 w1 [w.heap.size, h] 1 (fun _ => g) (fun _ => u') ∧ w1.heap[h]? = some (.cells (clR u) 42), fun w1 e => ?_, fun w1 ⟨q1, q2⟩ => ?_⟩
  · subst e
    refine (c1 _ _ (Lines.other p1 o)).mono fun e w' ⟨a, b, c⟩ => ⟨a, ?_, const_of b, ?_⟩
    · rw [c _ (by simp)]; exact blk_new _ _
    · rw [c _ (by simp)]; exact blk_alloc p2 _
  · exact (c2 w1 q2).mono fun e w' ⟨a, b, c⟩ => ⟨a, Lines.sub (Lines.step q1 c fun k hk => by rw [List.mem_singleton.1 hk]; exact ⟨by simp, p3⟩) (by simp), b, p3⟩
theorem both_any {w0 w : World} {g h : Nat} {u : St} (p : Pair w0 w g h u) (hu : u.OK) {what off v width : Int} (k0 : 0 ≤ what) (k1 : what < 256) (h0 : 0 ≤ off) (h1 : off < 18446744073709551616) (v0 : 0 ≤ v) (v1 : v < 18446744073709551616) (hsl : u.sent.length ≤ 1000000) :
    Calls Try.prog 19 #[.pointer (some ⟨g, 0, none⟩), .pointer (some ⟨h, 0, none⟩), .agg #[.int .u8 what, .int .u64 off, .int .u64 v, .int .i64 width]] w fun e w' => e = .returned (.bool true) ∧ Pair w0 w' g h (u.act what off v width) := by
  have hbyte : Byte (v % 256) := by unfold Byte; omega
  have hcase : what % 9 = 0 ∨ what % 9 = 1 ∨ what % 9 = 2 ∨ what % 9 = 3 ∨ what % 9 = 4 ∨ what % 9 = 5 ∨ what % 9 = 6 ∨ what % 9 = 7 ∨ what % 9 = 8 := by omega
  unfold St.act
  rcases hcase with hm | hm | hm | hm | hm | hm | hm | hm | hm
  · rw [if_pos (by omega)]
    obtain ⟨Q1, a1, a2⟩ := pair_op (o := .cells #[.int .u8 what, .int .u64 off, .int .u64 v, .int .i64 width] 28) p (fun w1 X hL => ls_Read hL (i := 0) (gi := g) (by decide) rfl hu width h0 h1) (fun w1 hb => rRead_any h hu h0 w1 hb)
    exact both_0 g h what off v width (v % 256) _ _ Q1 _ w k0 k1 v0 v1 rfl hm (hid a1) (hid a2)
  · rw [if_pos (by omega)]
    obtain ⟨Q1, a1, a2⟩ := pair_op (o := .cells #[.int .u8 what, .int .u64 off, .int .u64 v, .int .i64 width] 28) p (fun w1 X hL => ls_Read hL (i := 0) (gi := g) (by decide) rfl hu width h0 h1) (fun w1 hb => rRead_any h hu h0 w1 hb)
    exact both_1 g h what off v width (v % 256) _ _ Q1 _ w k0 k1 v0 v1 rfl hm (hid a1) (hid a2)
  · rw [if_pos (by omega)]
    obtain ⟨Q1, a1, a2⟩ := pair_op (o := .cells #[.int .u8 what, .int .u64 off, .int .u64 v, .int .i64 width] 28) p (fun w1 X hL => ls_Read hL (i := 0) (gi := g) (by decide) rfl hu width h0 h1) (fun w1 hb => rRead_any h hu h0 w1 hb)
    exact both_2 g h what off v width (v % 256) _ _ Q1 _ w k0 k1 v0 v1 rfl hm (hid a1) (hid a2)
  · rw [if_neg (by omega), if_pos (by omega)]
    obtain ⟨Q1, a1, a2⟩ := pair_op (o := .cells #[.int .u8 what, .int .u64 off, .int .u64 v, .int .i64 width] 28) p (fun w1 X hL => ls_Write hL (i := 0) (gi := g) (by decide) rfl hu width h0 h1 v0 v1 hsl) (fun w1 hb => rWrite_any h hu h0 v0 v1 hsl w1 hb)
    exact both_3 g h what off v width (v % 256) _ Q1 _ w k0 k1 v0 v1 rfl hm (hid a1) (hid a2)
  · rw [if_neg (by omega), if_pos (by omega)]
    obtain ⟨Q1, a1, a2⟩ := pair_op (o := .cells #[.int .u8 what, .int .u64 off, .int .u64 v, .int .i64 width] 28) p (fun w1 X hL => ls_Write hL (i := 0) (gi := g) (by decide) rfl hu width h0 h1 v0 v1 hsl) (fun w1 hb => rWrite_any h hu h0 v0 v1 hsl w1 hb)
    exact both_4 g h what off v width (v % 256) _ Q1 _ w k0 k1 v0 v1 rfl hm (hid a1) (hid a2)
  · rw [if_neg (by omega), if_pos (by omega)]
    obtain ⟨Q1, a1, a2⟩ := pair_op (o := .cells #[.int .u8 what, .int .u64 off, .int .u64 v, .int .i64 width] 28) p (fun w1 X hL => ls_Write hL (i := 0) (gi := g) (by decide) rfl hu width h0 h1 v0 v1 hsl) (fun w1 hb => rWrite_any h hu h0 v0 v1 hsl w1 hb)
    exact both_5 g h what off v width (v % 256) _ Q1 _ w k0 k1 v0 v1 rfl hm (hid a1) (hid a2)
  · rw [if_neg (by omega), if_neg (by omega), if_pos (by omega)]
    obtain ⟨Q1, a1, a2⟩ := pair_op (o := .cells #[.int .u8 what, .int .u64 off, .int .u64 v, .int .i64 width] 28) p (fun w1 X hL => ls_Input hL (i := 0) (gi := g) (by decide) rfl hu hbyte) (fun w1 hb => rInput_any h hu (v % 256) w1 hb)
    exact both_6 g h what off v width (v % 256) _ Q1 _ w k0 k1 v0 v1 rfl hm (hid a1) (hid a2)
  · rw [if_neg (by omega), if_neg (by omega), if_pos (by omega)]
    obtain ⟨Q1, a1, a2⟩ := pair_op (o := .cells #[.int .u8 what, .int .u64 off, .int .u64 v, .int .i64 width] 28) p (fun w1 X hL => ls_Input hL (i := 0) (gi := g) (by decide) rfl hu hbyte) (fun w1 hb => rInput_any h hu (v % 256) w1 hb)
    exact both_7 g h what off v width (v % 256) _ Q1 _ w k0 k1 v0 v1 rfl hm (hid a1) (hid a2)
  · rw [if_neg (by omega), if_neg (by omega), if_neg (by omega)]
    obtain ⟨Q1, a1, a2⟩ := pair_op (o := .cells #[.int .u8 what, .int .u64 off, .int .u64 v, .int .i64 width] 28) p (fun w1 X hL => ls_Take hL (i := 0) (gi := g) (by decide) rfl hu) (fun w1 hb => rtake_any h u w1 hb)
    exact both_8 g h what off v width (v % 256) _ Q1 _ w k0 k1 v0 v1 rfl hm (hid a1) (hid a2)
end Go.Proofs.Ytobaniebnejjiaa.U
