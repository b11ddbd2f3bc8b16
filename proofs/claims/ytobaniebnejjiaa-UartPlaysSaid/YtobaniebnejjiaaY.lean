/- The reference's serial line: Input, Write, Dump, whole. -/
import Derived.Test.YtobaniebnejjiaaV
namespace Go.Proofs.Ytobaniebnejjiaa.U
open Go.RowKit
set_option linter.all false
theorem rInput_any (h : Nat) {u : St} (hu : u.OK) (b : Int) (w : World) (hb : w.heap[h]? = some (.cells (clR u) 42)) : Calls Try.prog 32 #[.pointer (some ⟨h, 0, none⟩), .int .u8 b] w fun e w' => e = .returned (.bool (u.Input b).1) ∧ w'.heap[h]? = some (.cells (clR (u.Input b).2) 42) ∧ Fr [h] w w' := by
  have hs := hu.short
  unfold St.Input
  by_cases hf : 16 ≤ u.q.length
  · rw [if_pos hf]
    exact rinput_full h u b (strOfNums u.q) w hb rfl (by rw [strOfNums_size]; omega)
  · rw [if_neg hf]
    exact rinput_more h u b w hb (by rw [strOfNums_size]; omega) (by omega)
set_option maxRecDepth 100000 in
set_option maxHeartbeats 4000000 in
theorem rwrite_0t (h : Nat) (u : St) (v b : Int) (w : World) (v0 : 0 ≤ v) (v1 : v < 18446744073709551616) (hv : v % 256 = b) (hx : Byte b) (hb : w.heap[h]? = some (.cells (clR u) 42)) (hlat : 128 ≤ u.lcr) : Calls Try.prog 31 #[.pointer (some ⟨h, 0, none⟩), .int .u64 0, .int .i64 1, .int .u64 v] w fun e w' => e = .returned (.bool true) ∧ w'.heap[h]? = some (.cells (clR { u with dll := b }) 42) ∧ Fr [h] w w' := by
  have hb0 : 0 ≤ b := hx.1
  have hb1 : b < 256 := hx.2
  have hw : IntKind.i64.wrap b = b := w64 (by omega) (by omega)
  have hw8 : IntKind.u8.wrap b = b := by rw [IntKind.wrap_u8]; omega
  have q2 : b.tdiv 2 = b / 2 := Int.tdiv_eq_ediv_of_nonneg hb0
  have m2 : (b / 2).tmod 2 = b / 2 % 2 := Int.tmod_eq_emod_of_nonneg (by omega)
  have m1 : b.tmod 2 = b % 2 := Int.tmod_eq_emod_of_nonneg hb0
  have m16 : b.tmod 16 = b % 16 := Int.tmod_eq_emod_of_nonneg hb0
  have m32 : b.tmod 32 = b % 32 := Int.tmod_eq_emod_of_nonneg hb0
  have k2 : IntKind.i64.wrap (b / 2) = b / 2 := w64 (by omega) (by omega)
  have c1 : w.cell? ⟨h, 1, none⟩ = some (.int .i64 u.lcr) := (blk_cell hb 1).trans rfl
  have c4 : w.cell? ⟨h, 4, none⟩ = some (.int .i64 u.dll) := (blk_cell hb 4).trans rfl
  have f4 : w.frozen? ⟨h, 4, none⟩ = false := blk_free hb 4
  have HB := hid hb
  clear hb
  go_enter Try.func31, Try.ntmps31
  go_wp2
  go_ret
  first
    | exact ⟨rfl, blk_set HB.out 4 _, (Fr.refl _ _).setCell (.inl (by simp)) _⟩
set_option maxRecDepth 100000 in
set_option maxHeartbeats 4000000 in
theorem rwrite_1t (h : Nat) (u : St) (v b : Int) (w : World) (v0 : 0 ≤ v) (v1 : v < 18446744073709551616) (hv : v % 256 = b) (hx : Byte b) (hb : w.heap[h]? = some (.cells (clR u) 42)) (hlat : 128 ≤ u.lcr) : Calls Try.prog 31 #[.pointer (some ⟨h, 0, none⟩), .int .u64 1, .int .i64 1, .int .u64 v] w fun e w' => e = .returned (.bool true) ∧ w'.heap[h]? = some (.cells (clR { u with dlm := b }) 42) ∧ Fr [h] w w' := by
  have hb0 : 0 ≤ b := hx.1
  have hb1 : b < 256 := hx.2
  have hw : IntKind.i64.wrap b = b := w64 (by omega) (by omega)
  have hw8 : IntKind.u8.wrap b = b := by rw [IntKind.wrap_u8]; omega
  have q2 : b.tdiv 2 = b / 2 := Int.tdiv_eq_ediv_of_nonneg hb0
  have m2 : (b / 2).tmod 2 = b / 2 % 2 := Int.tmod_eq_emod_of_nonneg (by omega)
  have m1 : b.tmod 2 = b % 2 := Int.tmod_eq_emod_of_nonneg hb0
  have m16 : b.tmod 16 = b % 16 := Int.tmod_eq_emod_of_nonneg hb0
  have m32 : b.tmod 32 = b % 32 := Int.tmod_eq_emod_of_nonneg hb0
  have k2 : IntKind.i64.wrap (b / 2) = b / 2 := w64 (by omega) (by omega)
  have c1 : w.cell? ⟨h, 1, none⟩ = some (.int .i64 u.lcr) := (blk_cell hb 1).trans rfl
  have c5 : w.cell? ⟨h, 5, none⟩ = some (.int .i64 u.dlm) := (blk_cell hb 5).trans rfl
  have f5 : w.frozen? ⟨h, 5, none⟩ = false := blk_free hb 5
  have HB := hid hb
  clear hb
  go_enter Try.func31, Try.ntmps31
  go_wp2
  go_ret
  first
    | exact ⟨rfl, blk_set HB.out 5 _, (Fr.refl _ _).setCell (.inl (by simp)) _⟩
set_option maxRecDepth 100000 in
set_option maxHeartbeats 4000000 in
theorem rwrite_3 (h : Nat) (u : St) (v b : Int) (w : World) (v0 : 0 ≤ v) (v1 : v < 18446744073709551616) (hv : v % 256 = b) (hx : Byte b) (hb : w.heap[h]? = some (.cells (clR u) 42))  : Calls Try.prog 31 #[.pointer (some ⟨h, 0, none⟩), .int .u64 3, .int .i64 1, .int .u64 v] w fun e w' => e = .returned (.bool true) ∧ w'.heap[h]? = some (.cells (clR { u with lcr := b }) 42) ∧ Fr [h] w w' := by
  have hb0 : 0 ≤ b := hx.1
  have hb1 : b < 256 := hx.2
  have hw : IntKind.i64.wrap b = b := w64 (by omega) (by omega)
  have hw8 : IntKind.u8.wrap b = b := by rw [IntKind.wrap_u8]; omega
  have q2 : b.tdiv 2 = b / 2 := Int.tdiv_eq_ediv_of_nonneg hb0
  have m2 : (b / 2).tmod 2 = b / 2 % 2 := Int.tmod_eq_emod_of_nonneg (by omega)
  have m1 : b.tmod 2 = b % 2 := Int.tmod_eq_emod_of_nonneg hb0
  have m16 : b.tmod 16 = b % 16 := Int.tmod_eq_emod_of_nonneg hb0
  have m32 : b.tmod 32 = b % 32 := Int.tmod_eq_emod_of_nonneg hb0
  have k2 : IntKind.i64.wrap (b / 2) = b / 2 := w64 (by omega) (by omega)
  have c1 : w.cell? ⟨h, 1, none⟩ = some (.int .i64 u.lcr) := (blk_cell hb 1).trans rfl
  have f1 : w.frozen? ⟨h, 1, none⟩ = false := blk_free hb 1
  have HB := hid hb
  clear hb
  go_enter Try.func31, Try.ntmps31
  go_wp2
  go_ret
  first
    | exact ⟨rfl, blk_set HB.out 1 _, (Fr.refl _ _).setCell (.inl (by simp)) _⟩
set_option maxRecDepth 100000 in
set_option maxHeartbeats 4000000 in
theorem rwrite_4 (h : Nat) (u : St) (v b : Int) (w : World) (v0 : 0 ≤ v) (v1 : v < 18446744073709551616) (hv : v % 256 = b) (hx : Byte b) (hb : w.heap[h]? = some (.cells (clR u) 42))  : Calls Try.prog 31 #[.pointer (some ⟨h, 0, none⟩), .int .u64 4, .int .i64 1, .int .u64 v] w fun e w' => e = .returned (.bool true) ∧ w'.heap[h]? = some (.cells (clR { u with mcr := b % 32 }) 42) ∧ Fr [h] w w' := by
  have hb0 : 0 ≤ b := hx.1
  have hb1 : b < 256 := hx.2
  have hw : IntKind.i64.wrap b = b := w64 (by omega) (by omega)
  have hw8 : IntKind.u8.wrap b = b := by rw [IntKind.wrap_u8]; omega
  have q2 : b.tdiv 2 = b / 2 := Int.tdiv_eq_ediv_of_nonneg hb0
  have m2 : (b / 2).tmod 2 = b / 2 % 2 := Int.tmod_eq_emod_of_nonneg (by omega)
  have m1 : b.tmod 2 = b % 2 := Int.tmod_eq_emod_of_nonneg hb0
  have m16 : b.tmod 16 = b % 16 := Int.tmod_eq_emod_of_nonneg hb0
  have m32 : b.tmod 32 = b % 32 := Int.tmod_eq_emod_of_nonneg hb0
  have k2 : IntKind.i64.wrap (b / 2) = b / 2 := w64 (by omega) (by omega)
  have c2 : w.cell? ⟨h, 2, none⟩ = some (.int .i64 u.mcr) := (blk_cell hb 2).trans rfl
  have f2 : w.frozen? ⟨h, 2, none⟩ = false := blk_free hb 2
  have HB := hid hb
  clear hb
  go_enter Try.func31, Try.ntmps31
  go_wp2
  go_ret
  first
    | exact ⟨rfl, blk_set HB.out 2 _, (Fr.refl _ _).setCell (.inl (by simp)) _⟩
set_option maxRecDepth 100000 in
set_option maxHeartbeats 4000000 in
theorem rwrite_7 (h : Nat) (u : St) (v b : Int) (w : World) (v0 : 0 ≤ v) (v1 : v < 18446744073709551616) (hv : v % 256 = b) (hx : Byte b) (hb : w.heap[h]? = some (.cells (clR u) 42))  : Calls Try.prog 31 #[.pointer (some ⟨h, 0, none⟩), .int .u64 7, .int .i64 1, .int .u64 v] w fun e w' => e = .returned (.bool true) ∧ w'.heap[h]? = some (.cells (clR { u with scr := b }) 42) ∧ Fr [h] w w' := by
  have hb0 : 0 ≤ b := hx.1
  have hb1 : b < 256 := hx.2
  have hw : IntKind.i64.wrap b = b := w64 (by omega) (by omega)
  have hw8 : IntKind.u8.wrap b = b := by rw [IntKind.wrap_u8]; omega
  have q2 : b.tdiv 2 = b / 2 := Int.tdiv_eq_ediv_of_nonneg hb0
  have m2 : (b / 2).tmod 2 = b / 2 % 2 := Int.tmod_eq_emod_of_nonneg (by omega)
  have m1 : b.tmod 2 = b % 2 := Int.tmod_eq_emod_of_nonneg hb0
  have m16 : b.tmod 16 = b % 16 := Int.tmod_eq_emod_of_nonneg hb0
  have m32 : b.tmod 32 = b % 32 := Int.tmod_eq_emod_of_nonneg hb0
  have k2 : IntKind.i64.wrap (b / 2) = b / 2 := w64 (by omega) (by omega)
  have c3 : w.cell? ⟨h, 3, none⟩ = some (.int .i64 u.scr) := (blk_cell hb 3).trans rfl
  have f3 : w.frozen? ⟨h, 3, none⟩ = false := blk_free hb 3
  have HB := hid hb
  clear hb
  go_enter Try.func31, Try.ntmps31
  go_wp2
  go_ret
  first
    | exact ⟨rfl, blk_set HB.out 3 _, (Fr.refl _ _).setCell (.inl (by simp)) _⟩
set_option maxRecDepth 100000 in
set_option maxHeartbeats 4000000 in
theorem rwrite_5 (h : Nat) (u : St) (v b : Int) (w : World) (v0 : 0 ≤ v) (v1 : v < 18446744073709551616) (hv : v % 256 = b) (hx : Byte b) (hb : w.heap[h]? = some (.cells (clR u) 42))  : Calls Try.prog 31 #[.pointer (some ⟨h, 0, none⟩), .int .u64 5, .int .i64 1, .int .u64 v] w fun e w' => e = .returned (.bool true) ∧ w = w' := by
  have hb0 : 0 ≤ b := hx.1
  have hb1 : b < 256 := hx.2
  have hw : IntKind.i64.wrap b = b := w64 (by omega) (by omega)
  have hw8 : IntKind.u8.wrap b = b := by rw [IntKind.wrap_u8]; omega
  have q2 : b.tdiv 2 = b / 2 := Int.tdiv_eq_ediv_of_nonneg hb0
  have m2 : (b / 2).tmod 2 = b / 2 % 2 := Int.tmod_eq_emod_of_nonneg (by omega)
  have m1 : b.tmod 2 = b % 2 := Int.tmod_eq_emod_of_nonneg hb0
  have m16 : b.tmod 16 = b % 16 := Int.tmod_eq_emod_of_nonneg hb0
  have m32 : b.tmod 32 = b % 32 := Int.tmod_eq_emod_of_nonneg hb0
  have k2 : IntKind.i64.wrap (b / 2) = b / 2 := w64 (by omega) (by omega)
  have HB := hid hb
  clear hb
  go_enter Try.func31, Try.ntmps31
  go_wp2
  go_ret
  first
    | exact ⟨rfl, rfl⟩
set_option maxRecDepth 100000 in
set_option maxHeartbeats 4000000 in
theorem rwrite_6 (h : Nat) (u : St) (v b : Int) (w : World) (v0 : 0 ≤ v) (v1 : v < 18446744073709551616) (hv : v % 256 = b) (hx : Byte b) (hb : w.heap[h]? = some (.cells (clR u) 42))  : Calls Try.prog 31 #[.pointer (some ⟨h, 0, none⟩), .int .u64 6, .int .i64 1, .int .u64 v] w fun e w' => e = .returned (.bool true) ∧ w = w' := by
  have hb0 : 0 ≤ b := hx.1
  have hb1 : b < 256 := hx.2
  have hw : IntKind.i64.wrap b = b := w64 (by omega) (by omega)
  have hw8 : IntKind.u8.wrap b = b := by rw [IntKind.wrap_u8]; omega
  have q2 : b.tdiv 2 = b / 2 := Int.tdiv_eq_ediv_of_nonneg hb0
  have m2 : (b / 2).tmod 2 = b / 2 % 2 := Int.tmod_eq_emod_of_nonneg (by omega)
  have m1 : b.tmod 2 = b % 2 := Int.tmod_eq_emod_of_nonneg hb0
  have m16 : b.tmod 16 = b % 16 := Int.tmod_eq_emod_of_nonneg hb0
  have m32 : b.tmod 32 = b % 32 := Int.tmod_eq_emod_of_nonneg hb0
  have k2 : IntKind.i64.wrap (b / 2) = b / 2 := w64 (by omega) (by omega)
  have HB := hid hb
  clear hb
  go_enter Try.func31, Try.ntmps31
  go_wp2
  go_ret
  first
    | exact ⟨rfl, rfl⟩
set_option maxRecDepth 100000 in
set_option maxHeartbeats 4000000 in
theorem rwrite_1f (h : Nat) (u : St) (v b : Int) (w : World) (v0 : 0 ≤ v) (v1 : v < 18446744073709551616) (hv : v % 256 = b) (hx : Byte b) (hb : w.heap[h]? = some (.cells (clR u) 42)) (hlat : ¬ 128 ≤ u.lcr) (e1 e2 d : Bool) (hi : Byte u.ier) (t1 : (b / 2 % 2 == 1) = e1) (t2 : (u.ier / 2 % 2 == 0) = e2) (hd : e1 = false ∧ d = u.dn ∨ e1 = true ∧ e2 = false ∧ d = u.dn ∨ e1 = true ∧ e2 = true ∧ d = true) : Calls Try.prog 31 #[.pointer (some ⟨h, 0, none⟩), .int .u64 1, .int .i64 1, .int .u64 v] w fun e w' => e = .returned (.bool true) ∧ w'.heap[h]? = some (.cells (clR { u with ier := b % 16, dn := d }) 42) ∧ Fr [h] w w' := by
  have hb0 : 0 ≤ b := hx.1
  have hb1 : b < 256 := hx.2
  have hw : IntKind.i64.wrap b = b := w64 (by omega) (by omega)
  have hw8 : IntKind.u8.wrap b = b := by rw [IntKind.wrap_u8]; omega
  have q2 : b.tdiv 2 = b / 2 := Int.tdiv_eq_ediv_of_nonneg hb0
  have m2 : (b / 2).tmod 2 = b / 2 % 2 := Int.tmod_eq_emod_of_nonneg (by omega)
  have m1 : b.tmod 2 = b % 2 := Int.tmod_eq_emod_of_nonneg hb0
  have m16 : b.tmod 16 = b % 16 := Int.tmod_eq_emod_of_nonneg hb0
  have m32 : b.tmod 32 = b % 32 := Int.tmod_eq_emod_of_nonneg hb0
  have k2 : IntKind.i64.wrap (b / 2) = b / 2 := w64 (by omega) (by omega)
  obtain ⟨sent, q, ier, lcr, mcr, scr, dll, dlm, en, ov, dn⟩ := u
  simp only at hlat hi t2 hd
  have i0 : 0 ≤ ier := hi.1
  have i1 : ier < 256 := hi.2
  have r2 : ier.tdiv 2 = ier / 2 := Int.tdiv_eq_ediv_of_nonneg i0
  have n2 : (ier / 2).tmod 2 = ier / 2 % 2 := Int.tmod_eq_emod_of_nonneg (by omega)
  have l2 : IntKind.i64.wrap (ier / 2) = ier / 2 := w64 (by omega) (by omega)
  have c0 : w.cell? ⟨h, 0, none⟩ = some (.int .i64 ier) := (blk_cell hb 0).trans rfl
  have c1 : w.cell? ⟨h, 1, none⟩ = some (.int .i64 lcr) := (blk_cell hb 1).trans rfl
  have c8 : w.cell? ⟨h, 8, none⟩ = some (.bool dn) := (blk_cell hb 8).trans rfl
  have f0 : w.frozen? ⟨h, 0, none⟩ = false := blk_free hb 0
  have f8 : w.frozen? ⟨h, 8, none⟩ = false := blk_free hb 8
  have HB := hid hb
  clear hb
  rcases hd with ⟨rfl, rfl⟩ | ⟨rfl, rfl, rfl⟩ | ⟨rfl, rfl, rfl⟩
  all_goals
    go_enter Try.func31, Try.ntmps31
    go_wp2
    go_ret
    first
      | exact ⟨rfl, blk_set HB.out 0 _, (Fr.refl _ _).setCell (.inl (by simp)) _⟩
      | exact ⟨rfl, blk_set (blk_set HB.out 8 _) 0 _, ((Fr.refl _ _).setCell (.inl (by simp)) _).setCell (.inl (by simp)) _⟩
set_option maxRecDepth 100000 in
set_option maxHeartbeats 4000000 in
theorem rwrite_2 (h : Nat) (u : St) (v b : Int) (w : World) (v0 : 0 ≤ v) (v1 : v < 18446744073709551616) (hv : v % 256 = b) (hx : Byte b) (hb : w.heap[h]? = some (.cells (clR u) 42)) (e1 e2 : Bool) (t1 : (b % 2 == 1) = e1) (t2 : (b / 2 % 2 == 1) = e2) : Calls Try.prog 31 #[.pointer (some ⟨h, 0, none⟩), .int .u64 2, .int .i64 1, .int .u64 v] w fun e w' => e = .returned (.bool true) ∧ w'.heap[h]? = some (.cells (clR { u with en := e1, q := if e2 = true then [] else u.q }) 42) ∧ Fr [h] w w' := by
  have hb0 : 0 ≤ b := hx.1
  have hb1 : b < 256 := hx.2
  have hw : IntKind.i64.wrap b = b := w64 (by omega) (by omega)
  have hw8 : IntKind.u8.wrap b = b := by rw [IntKind.wrap_u8]; omega
  have q2 : b.tdiv 2 = b / 2 := Int.tdiv_eq_ediv_of_nonneg hb0
  have m2 : (b / 2).tmod 2 = b / 2 % 2 := Int.tmod_eq_emod_of_nonneg (by omega)
  have m1 : b.tmod 2 = b % 2 := Int.tmod_eq_emod_of_nonneg hb0
  have m16 : b.tmod 16 = b % 16 := Int.tmod_eq_emod_of_nonneg hb0
  have m32 : b.tmod 32 = b % 32 := Int.tmod_eq_emod_of_nonneg hb0
  have k2 : IntKind.i64.wrap (b / 2) = b / 2 := w64 (by omega) (by omega)
  have c6 : w.cell? ⟨h, 6, none⟩ = some (.bool u.en) := (blk_cell hb 6).trans rfl
  have c9 : w.cell? ⟨h, 9, none⟩ = some (.string (strOfNums u.q)) := (blk_cell hb 9).trans rfl
  have f6 : w.frozen? ⟨h, 6, none⟩ = false := blk_free hb 6
  have f9 : w.frozen? ⟨h, 9, none⟩ = false := blk_free hb 9
  have HB := hid hb
  clear hb
  cases e2
  all_goals
    go_enter Try.func31, Try.ntmps31
    go_wp2
    go_ret
    first
      | exact ⟨rfl, blk_set HB.out 6 _, (Fr.refl _ _).setCell (.inl (by simp)) _⟩
      | exact ⟨rfl, blk_set (blk_set HB.out 6 _) 9 _, ((Fr.refl _ _).setCell (.inl (by simp)) _).setCell (.inl (by simp)) _⟩
set_option maxRecDepth 100000 in
set_option maxHeartbeats 4000000 in
theorem rwrite_0f (h : Nat) (u : St) (v b : Int) (w : World) (v0 : 0 ≤ v) (v1 : v < 18446744073709551616) (hv : v % 256 = b) (hx : Byte b) (hb : w.heap[h]? = some (.cells (clR u) 42)) (hlat : ¬ 128 ≤ u.lcr) (hlen : u.sent.length ≤ 4000000) : Calls Try.prog 31 #[.pointer (some ⟨h, 0, none⟩), .int .u64 0, .int .i64 1, .int .u64 v] w fun e w' => e = .returned (.bool true) ∧ w'.heap[h]? = some (.cells (clR (u.send b)) 42) ∧ Fr [h] w w' := by
  have hb0 : 0 ≤ b := hx.1
  have hb1 : b < 256 := hx.2
  have hw : IntKind.i64.wrap b = b := w64 (by omega) (by omega)
  have hw8 : IntKind.u8.wrap b = b := by rw [IntKind.wrap_u8]; omega
  have q2 : b.tdiv 2 = b / 2 := Int.tdiv_eq_ediv_of_nonneg hb0
  have m2 : (b / 2).tmod 2 = b / 2 % 2 := Int.tmod_eq_emod_of_nonneg (by omega)
  have m1 : b.tmod 2 = b % 2 := Int.tmod_eq_emod_of_nonneg hb0
  have m16 : b.tmod 16 = b % 16 := Int.tmod_eq_emod_of_nonneg hb0
  have m32 : b.tmod 32 = b % 32 := Int.tmod_eq_emod_of_nonneg hb0
  have k2 : IntKind.i64.wrap (b / 2) = b / 2 := w64 (by omega) (by omega)
  have c1 : w.cell? ⟨h, 1, none⟩ = some (.int .i64 u.lcr) := (blk_cell hb 1).trans rfl
  have c10 : w.cell? ⟨h, 10, none⟩ = some (.string (strOfNums u.sent)) := (blk_cell hb 10).trans rfl
  have HB := hid hb
  clear hb
  go_enter Try.func31, Try.ntmps31
  go_upto_region 8 with fail
  (try simp only [Act.put, List.setIfInBounds_toArray, List.set_cons_zero, List.set_cons_succ])
  refine wp_region_HT (S := fun W' => W'.heap[h]? = some (.cells (clR u) 42) ∧ Fr [] w W') 12 (by kernel_rfl) (by kernel_rfl) ⟨HB.out, (Fr.refl [] w).drew⟩ (fun hHeld => ?_)
  refine HT_take (i := 0) rfl (by kernel_rfl) (by decide) (by kernel_rfl) (by kernel_rfl) (fun _ _ _ h => h) (yieldsIf_of (.pointer (some ⟨h, 0, none⟩)) (by rfl) (fun w' hS => by go_simp)) hHeld ?_
  simp only [Act.put, List.setIfInBounds_toArray, List.set_cons_zero, List.set_cons_succ]
  refine HT_take (i := 1) rfl (by kernel_rfl) (by decide) (by kernel_rfl) (by kernel_rfl) (fun _ _ _ h => h) (yieldsIf_of (.pointer (some ⟨h, 0, none⟩)) (by rfl) (fun w' hS => by go_simp)) hHeld ?_
  simp only [Act.put, List.setIfInBounds_toArray, List.set_cons_zero, List.set_cons_succ]
  refine HT_take (i := 2) rfl (by kernel_rfl) (by decide) (by kernel_rfl) (by kernel_rfl) (fun _ _ _ h => h) (yieldsIf_of (.pointer (some ⟨h, 0, none⟩)) (by rfl) (fun w' hS => by go_simp)) hHeld ?_
  simp only [Act.put, List.setIfInBounds_toArray, List.set_cons_zero, List.set_cons_succ]
  refine HT_take (i := 3) rfl (by kernel_rfl) (by decide) (by kernel_rfl) (by kernel_rfl) (fun _ _ _ h => h) (yieldsIf_of (.pointer (some ⟨h, 10, none⟩)) (by rfl) (fun w' hS => by go_simp)) hHeld ?_
  simp only [Act.put, List.setIfInBounds_toArray, List.set_cons_zero, List.set_cons_succ]
  refine HT_take (i := 4) rfl (by kernel_rfl) (by decide) (by kernel_rfl) (by kernel_rfl) (fun _ _ _ h => h) (yieldsIf_of (.string (strOfNums u.sent)) (by rfl) (fun w' hS => by have hc := (blk_cell hS.1 10).trans (show (clR u)[10]? = some (.string (strOfNums u.sent)) from rfl); go_simp)) hHeld ?_
  simp only [Act.put, List.setIfInBounds_toArray, List.set_cons_zero, List.set_cons_succ]
  refine HT_take (i := 5) rfl (by kernel_rfl) (by decide) (by kernel_rfl) (by kernel_rfl) (fun _ _ _ h => h) (yieldsIf_of (.int .i64 b) (by rfl) (fun w' hS => by go_simp)) hHeld ?_
  simp only [Act.put, List.setIfInBounds_toArray, List.set_cons_zero, List.set_cons_succ]
  refine HT_take (i := 6) rfl (by kernel_rfl) (by decide) (by kernel_rfl) (by kernel_rfl) (fun _ _ _ h => h) (yieldsIf_of (.int .u8 b) (by rfl) (fun w' hS => by go_simp)) hHeld ?_
  simp only [Act.put, List.setIfInBounds_toArray, List.set_cons_zero, List.set_cons_succ]
  refine HT_one (i := 7) rfl (by decide) (by kernel_rfl) (fun K hK => ?_)
  go_simp
  refine hK.out _ _ ⟨blk_alloc hHeld.1 _, hHeld.2.alloc _⟩ (fun hHeld => ?_)
  clear hK K
  refine HT_one (i := 8) rfl (by decide) (by kernel_rfl) (fun K hK => ?_)
  rw [if_pos (by rfl)]
  refine wp_conv _ rfl [b] w.heap.size rfl (show (w.alloc (.cells #[.int .u8 b] 5)).drew.heap[w.heap.size]? = _ from blk_new w _) ?_
  simp only [Act.put]
  refine hK.out _ _ hHeld (fun hHeld => ?_)
  clear hK K
  simp only [Act.put, List.setIfInBounds_toArray, List.set_cons_zero, List.set_cons_succ]
  have hadd := run_add_str u.sent [b] hlen (by simp)
  refine HT_take (i := 9) rfl (by kernel_rfl) (by decide) (by kernel_rfl) (by kernel_rfl) (fun _ _ _ h => h) (yieldsIf_of (.string (strOfNums (u.sent ++ [b]))) (by rfl) (fun w' hS => by go_simp)) hHeld ?_
  simp only [Act.put, List.setIfInBounds_toArray, List.set_cons_zero, List.set_cons_succ]
  refine HT_take (i := 10) rfl (by kernel_rfl) (by decide) (by kernel_rfl) (by kernel_rfl) (fun _ _ _ h => h) (yieldsIf_of (.pointer (some ⟨h, 0, none⟩)) (by rfl) (fun w' hS => by go_simp)) hHeld ?_
  simp only [Act.put, List.setIfInBounds_toArray, List.set_cons_zero, List.set_cons_succ]
  refine HT_take (i := 11) rfl (by kernel_rfl) (by decide) (by kernel_rfl) (by kernel_rfl) (fun _ _ _ h => h) (yieldsIf_of (.pointer (some ⟨h, 10, none⟩)) (by rfl) (fun w' hS => by go_simp)) hHeld ?_
  simp only [Act.put, List.setIfInBounds_toArray, List.set_cons_zero, List.set_cons_succ]
  refine HT_done (by kernel_rfl) ?_
  have hbW := hHeld.1
  have hfW := hHeld.2
  have c' := (blk_cell hbW 10).trans (show (clR u)[10]? = some (.string (strOfNums u.sent)) from rfl)
  have f' := blk_free hbW 10
  have c8' := (blk_cell hbW 8).trans (show (clR u)[8]? = some (.bool u.dn) from rfl)
  have f8' := blk_free hbW 8
  have HH := hid hHeld
  clear hHeld hbW hfW hadd c1 c10
  simp only [List.drop_succ_cons, List.drop_zero]
  generalize (w.alloc (.cells #[.int .u8 b] 5)).drew = W at *
  go_wp2
  go_ret
  exact ⟨rfl, blk_set (blk_set HH.out.1 10 _) 8 _, ((HH.out.2.weaken (by simp)).setCell (.inl (by simp)) _).setCell (.inl (by simp)) _⟩
set_option maxRecDepth 100000 in
set_option maxHeartbeats 4000000 in
theorem rwrite_n1 (h : Nat) (off width v : Int) (w : World) (ho : 7 < off) : Calls Try.prog 31 #[.pointer (some ⟨h, 0, none⟩), .int .u64 off, .int .i64 width, .int .u64 v] w fun e w' => e = .returned (.bool false) ∧ w = w' := by
  go_enter Try.func31, Try.ntmps31
  go_wp2
  go_ret
  exact ⟨rfl, rfl⟩
set_option maxRecDepth 100000 in
set_option maxHeartbeats 4000000 in
theorem rwrite_n2 (h : Nat) (off width v : Int) (w : World) (ho : ¬ 7 < off) (hw : (width != 1) = true) : Calls Try.prog 31 #[.pointer (some ⟨h, 0, none⟩), .int .u64 off, .int .i64 width, .int .u64 v] w fun e w' => e = .returned (.bool false) ∧ w = w' := by
  go_enter Try.func31, Try.ntmps31
  go_wp2
  go_ret
  exact ⟨rfl, rfl⟩
theorem rWrite_any (h : Nat) {u : St} (hu : u.OK) {off width v : Int} (h0 : 0 ≤ off) (v0 : 0 ≤ v) (v1 : v < 18446744073709551616) (hlen : u.sent.length ≤ 1000000) (w : World) (hb : w.heap[h]? = some (.cells (clR u) 42)) : Calls Try.prog 31 #[.pointer (some ⟨h, 0, none⟩), .int .u64 off, .int .i64 width, .int .u64 v] w fun e w' => e = .returned (.bool (u.Write off width v).1) ∧ w'.heap[h]? = some (.cells (clR (u.Write off width v).2) 42) ∧ Fr [h] w w' := by
  have hx : Byte (v % 256) := by unfold Byte; omega
  unfold St.Write
  by_cases hm : may off width = true
  · rw [if_pos hm]
    unfold may at hm
    simp only [Bool.and_eq_true, decide_eq_true_eq, beq_iff_eq] at hm
    obtain ⟨h8, rfl⟩ := hm
    have same : Calls Try.prog 31 #[.pointer (some ⟨h, 0, none⟩), .int .u64 off, .int .i64 1, .int .u64 v] w (fun e w' => e = .returned (.bool true) ∧ w = w') → Calls Try.prog 31 #[.pointer (some ⟨h, 0, none⟩), .int .u64 off, .int .i64 1, .int .u64 v] w (fun e w' => e = .returned (.bool true) ∧ w'.heap[h]? = some (.cells (clR u) 42) ∧ Fr [h] w w') := fun hc => hc.mono fun e w' ⟨a, b⟩ => by subst b; exact ⟨a, hb, Fr.refl _ _⟩
    have hcase : off = 0 ∨ off = 1 ∨ off = 2 ∨ off = 3 ∨ off = 4 ∨ off = 5 ∨ off = 6 ∨ off = 7 := by omega
    have hlt : u.lat = decide (128 ≤ u.lcr) := rfl
    rcases hcase with rfl | rfl | rfl | rfl | rfl | rfl | rfl | rfl
    · show Calls Try.prog 31 #[.pointer (some ⟨h, 0, none⟩), .int .u64 0, .int .i64 1, .int .u64 v] w fun e w' => e = .returned (.bool true) ∧ w'.heap[h]? = some (.cells (clR (if u.lat = true then { u with dll := v % 256 } else u.send (v % 256))) 42) ∧ Fr [h] w w'
      by_cases hl : 128 ≤ u.lcr
      · rw [hlt, decide_eq_true hl, if_pos rfl]; exact rwrite_0t h u v _ w v0 v1 rfl hx hb hl
      · rw [hlt, decide_eq_false hl, if_neg (by decide)]; exact rwrite_0f h u v _ w v0 v1 rfl hx hb hl (by omega)
    · show Calls Try.prog 31 #[.pointer (some ⟨h, 0, none⟩), .int .u64 1, .int .i64 1, .int .u64 v] w fun e w' => e = .returned (.bool true) ∧ w'.heap[h]? = some (.cells (clR (if u.lat = true then { u with dlm := v % 256 } else u.allow (v % 256))) 42) ∧ Fr [h] w w'
      by_cases hl : 128 ≤ u.lcr
      · rw [hlt, decide_eq_true hl, if_pos rfl]; exact rwrite_1t h u v _ w v0 v1 rfl hx hb hl
      · rw [hlt, decide_eq_false hl, if_neg (by decide)]
        refine rwrite_1f h u v _ w v0 v1 rfl hx hb hl _ _ _ hu.ier rfl rfl ?_
        have hcm : (u.ier / 2 % 2 == 0) = !(u.ier / 2 % 2 == 1) := by
          have := hu.ier.1
          have h2 : u.ier / 2 % 2 = 0 ∨ u.ier / 2 % 2 = 1 := by omega
          rcases h2 with e | e <;> rw [e] <;> rfl
        rw [hcm]
        cases (v % 256 / 2 % 2 == 1) <;> cases (u.ier / 2 % 2 == 1) <;> simp
    · exact rwrite_2 h u v _ w v0 v1 rfl hx hb _ _ rfl rfl
    · exact rwrite_3 h u v _ w v0 v1 rfl hx hb
    · exact rwrite_4 h u v _ w v0 v1 rfl hx hb
    · exact same (rwrite_5 h u v _ w v0 v1 rfl hx hb)
    · exact same (rwrite_6 h u v _ w v0 v1 rfl hx hb)
    · exact rwrite_7 h u v _ w v0 v1 rfl hx hb
  · rw [if_neg hm]
    have key : Calls Try.prog 31 #[.pointer (some ⟨h, 0, none⟩), .int .u64 off, .int .i64 width, .int .u64 v] w fun e w' => e = .returned (.bool false) ∧ w = w' := by
      by_cases ho : 7 < off
      · exact rwrite_n1 h off width v w ho
      · refine rwrite_n2 h off width v w ho ?_
        unfold may at hm
        have h8 : off < 8 := by omega
        simp only [decide_eq_true h8, Bool.true_and] at hm
        simpa [bne] using hm
    exact key.mono fun e w' ⟨a, b⟩ => by subst b; exact ⟨a, hb, Fr.refl _ _⟩
set_option maxRecDepth 100000 in
set_option maxHeartbeats 4000000 in
theorem rdump_any (h : Nat) {u : St} (hu : u.OK) (w : World) (hb : w.heap[h]? = some (.cells (clR u) 42)) : Calls Try.prog 21 #[.pointer (some ⟨h, 0, none⟩)] w fun e w' => e = .returned (.string (strOfNums u.Dump)) ∧ Fr [] w w' := by
  have HB := hid hb
  have hD : Hid (u.Dump = headD u ++ u.q) := rfl
  have hlq := hu.short
  have hw0 : IntKind.u8.wrap u.ier = u.ier := by have := hu.ier; unfold Byte at this; rw [IntKind.wrap_u8]; omega
  have hw1 : IntKind.u8.wrap u.lcr = u.lcr := by have := hu.lcr; unfold Byte at this; rw [IntKind.wrap_u8]; omega
  have hw2 : IntKind.u8.wrap u.mcr = u.mcr := by have := hu.mcr; unfold Byte at this; rw [IntKind.wrap_u8]; omega
  have hw3 : IntKind.u8.wrap u.scr = u.scr := by have := hu.scr; unfold Byte at this; rw [IntKind.wrap_u8]; omega
  have hw4 : IntKind.u8.wrap u.dll = u.dll := by have := hu.dll; unfold Byte at this; rw [IntKind.wrap_u8]; omega
  have hw5 : IntKind.u8.wrap u.dlm = u.dlm := by have := hu.dlm; unfold Byte at this; rw [IntKind.wrap_u8]; omega
  clear hb
  go_enter Try.func21, Try.ntmps21
  go_upto_region 1 with fail
  (try simp only [Act.put, List.setIfInBounds_toArray, List.set_cons_zero, List.set_cons_succ])
  refine wp_region_HT (S := fun W' => W'.heap[h]? = some (.cells (clR u) 42) ∧ Fr [] w W') 52 (by kernel_rfl) (by kernel_rfl) ⟨HB.out, (Fr.refl [] w).drew⟩ (fun hHeld => ?_)
  refine HT_take (i := 0) rfl (by kernel_rfl) (by decide) (by kernel_rfl) (by kernel_rfl) (fun _ _ _ h => h) (yieldsIf_of (.pointer (some ⟨h, 0, none⟩)) (by rfl) (fun w' hS => by go_simp)) hHeld ?_
  simp only [Act.put, List.setIfInBounds_toArray, List.set_cons_zero, List.set_cons_succ]
  refine HT_take (i := 1) rfl (by kernel_rfl) (by decide) (by kernel_rfl) (by kernel_rfl) (fun _ _ _ h => h) (yieldsIf_of (.pointer (some ⟨h, 0, none⟩)) (by rfl) (fun w' hS => by go_simp)) hHeld ?_
  simp only [Act.put, List.setIfInBounds_toArray, List.set_cons_zero, List.set_cons_succ]
  refine HT_take (i := 2) rfl (by kernel_rfl) (by decide) (by kernel_rfl) (by kernel_rfl) (fun _ _ _ h => h) (yieldsIf_of (.pointer (some ⟨h, 0, none⟩)) (by rfl) (fun w' hS => by go_simp)) hHeld ?_
  simp only [Act.put, List.setIfInBounds_toArray, List.set_cons_zero, List.set_cons_succ]
  refine HT_take (i := 3) rfl (by kernel_rfl) (by decide) (by kernel_rfl) (by kernel_rfl) (fun _ _ _ h => h) (yieldsIf_of (.int .i64 u.ier) (by rfl) (fun w' hS => by have hc := (blk_cell hS.1 0).trans (show (clR u)[0]? = some (.int .i64 u.ier) from rfl); go_simp)) hHeld ?_
  simp only [Act.put, List.setIfInBounds_toArray, List.set_cons_zero, List.set_cons_succ]
  refine HT_take (i := 4) rfl (by kernel_rfl) (by decide) (by kernel_rfl) (by kernel_rfl) (fun _ _ _ h => h) (yieldsIf_of (.int .u8 u.ier) (by rfl) (fun w' hS => by go_simp)) hHeld ?_
  simp only [Act.put, List.setIfInBounds_toArray, List.set_cons_zero, List.set_cons_succ]
  refine HT_take (i := 5) rfl (by kernel_rfl) (by decide) (by kernel_rfl) (by kernel_rfl) (fun _ _ _ h => h) (yieldsIf_of (.pointer (some ⟨h, 0, none⟩)) (by rfl) (fun w' hS => by go_simp)) hHeld ?_
  simp only [Act.put, List.setIfInBounds_toArray, List.set_cons_zero, List.set_cons_succ]
  refine HT_take (i := 6) rfl (by kernel_rfl) (by decide) (by kernel_rfl) (by kernel_rfl) (fun _ _ _ h => h) (yieldsIf_of (.pointer (some ⟨h, 0, none⟩)) (by rfl) (fun w' hS => by go_simp)) hHeld ?_
  simp only [Act.put, List.setIfInBounds_toArray, List.set_cons_zero, List.set_cons_succ]
  refine HT_take (i := 7) rfl (by kernel_rfl) (by decide) (by kernel_rfl) (by kernel_rfl) (fun _ _ _ h => h) (yieldsIf_of (.pointer (some ⟨h, 6, none⟩)) (by rfl) (fun w' hS => by go_simp)) hHeld ?_
  simp only [Act.put, List.setIfInBounds_toArray, List.set_cons_zero, List.set_cons_succ]
  refine HT_take (i := 8) rfl (by kernel_rfl) (by decide) (by kernel_rfl) (by kernel_rfl) (fun _ _ _ h => h) (yieldsIf_of (.bool u.en) (by rfl) (fun w' hS => by have hc := (blk_cell hS.1 6).trans (show (clR u)[6]? = some (.bool u.en) from rfl); go_simp)) hHeld ?_
  simp only [Act.put, List.setIfInBounds_toArray, List.set_cons_zero, List.set_cons_succ]
  refine HT_take (i := 10) rfl (by kernel_rfl) (by decide) (by kernel_rfl) (by kernel_rfl) (fun _ _ _ h => h) (yieldsIf_of (.pointer (some ⟨h, 0, none⟩)) (by rfl) (fun w' hS => by go_simp)) hHeld ?_
  simp only [Act.put, List.setIfInBounds_toArray, List.set_cons_zero, List.set_cons_succ]
  refine HT_take (i := 11) rfl (by kernel_rfl) (by decide) (by kernel_rfl) (by kernel_rfl) (fun _ _ _ h => h) (yieldsIf_of (.pointer (some ⟨h, 0, none⟩)) (by rfl) (fun w' hS => by go_simp)) hHeld ?_
  simp only [Act.put, List.setIfInBounds_toArray, List.set_cons_zero, List.set_cons_succ]
  refine HT_take (i := 12) rfl (by kernel_rfl) (by decide) (by kernel_rfl) (by kernel_rfl) (fun _ _ _ h => h) (yieldsIf_of (.pointer (some ⟨h, 1, none⟩)) (by rfl) (fun w' hS => by go_simp)) hHeld ?_
  simp only [Act.put, List.setIfInBounds_toArray, List.set_cons_zero, List.set_cons_succ]
  refine HT_take (i := 13) rfl (by kernel_rfl) (by decide) (by kernel_rfl) (by kernel_rfl) (fun _ _ _ h => h) (yieldsIf_of (.int .i64 u.lcr) (by rfl) (fun w' hS => by have hc := (blk_cell hS.1 1).trans (show (clR u)[1]? = some (.int .i64 u.lcr) from rfl); go_simp)) hHeld ?_
  simp only [Act.put, List.setIfInBounds_toArray, List.set_cons_zero, List.set_cons_succ]
  refine HT_take (i := 14) rfl (by kernel_rfl) (by decide) (by kernel_rfl) (by kernel_rfl) (fun _ _ _ h => h) (yieldsIf_of (.int .u8 u.lcr) (by rfl) (fun w' hS => by go_simp)) hHeld ?_
  simp only [Act.put, List.setIfInBounds_toArray, List.set_cons_zero, List.set_cons_succ]
  refine HT_take (i := 15) rfl (by kernel_rfl) (by decide) (by kernel_rfl) (by kernel_rfl) (fun _ _ _ h => h) (yieldsIf_of (.pointer (some ⟨h, 0, none⟩)) (by rfl) (fun w' hS => by go_simp)) hHeld ?_
  simp only [Act.put, List.setIfInBounds_toArray, List.set_cons_zero, List.set_cons_succ]
  refine HT_take (i := 16) rfl (by kernel_rfl) (by decide) (by kernel_rfl) (by kernel_rfl) (fun _ _ _ h => h) (yieldsIf_of (.pointer (some ⟨h, 0, none⟩)) (by rfl) (fun w' hS => by go_simp)) hHeld ?_
  simp only [Act.put, List.setIfInBounds_toArray, List.set_cons_zero, List.set_cons_succ]
  refine HT_take (i := 17) rfl (by kernel_rfl) (by decide) (by kernel_rfl) (by kernel_rfl) (fun _ _ _ h => h) (yieldsIf_of (.pointer (some ⟨h, 2, none⟩)) (by rfl) (fun w' hS => by go_simp)) hHeld ?_
  simp only [Act.put, List.setIfInBounds_toArray, List.set_cons_zero, List.set_cons_succ]
  refine HT_take (i := 18) rfl (by kernel_rfl) (by decide) (by kernel_rfl) (by kernel_rfl) (fun _ _ _ h => h) (yieldsIf_of (.int .i64 u.mcr) (by rfl) (fun w' hS => by have hc := (blk_cell hS.1 2).trans (show (clR u)[2]? = some (.int .i64 u.mcr) from rfl); go_simp)) hHeld ?_
  simp only [Act.put, List.setIfInBounds_toArray, List.set_cons_zero, List.set_cons_succ]
  refine HT_take (i := 19) rfl (by kernel_rfl) (by decide) (by kernel_rfl) (by kernel_rfl) (fun _ _ _ h => h) (yieldsIf_of (.int .u8 u.mcr) (by rfl) (fun w' hS => by go_simp)) hHeld ?_
  simp only [Act.put, List.setIfInBounds_toArray, List.set_cons_zero, List.set_cons_succ]
  refine HT_take (i := 20) rfl (by kernel_rfl) (by decide) (by kernel_rfl) (by kernel_rfl) (fun _ _ _ h => h) (yieldsIf_of (.pointer (some ⟨h, 0, none⟩)) (by rfl) (fun w' hS => by go_simp)) hHeld ?_
  simp only [Act.put, List.setIfInBounds_toArray, List.set_cons_zero, List.set_cons_succ]
  refine HT_take (i := 21) rfl (by kernel_rfl) (by decide) (by kernel_rfl) (by kernel_rfl) (fun _ _ _ h => h) (yieldsIf_of (.pointer (some ⟨h, 0, none⟩)) (by rfl) (fun w' hS => by go_simp)) hHeld ?_
  simp only [Act.put, List.setIfInBounds_toArray, List.set_cons_zero, List.set_cons_succ]
  refine HT_take (i := 22) rfl (by kernel_rfl) (by decide) (by kernel_rfl) (by kernel_rfl) (fun _ _ _ h => h) (yieldsIf_of (.pointer (some ⟨h, 3, none⟩)) (by rfl) (fun w' hS => by go_simp)) hHeld ?_
  simp only [Act.put, List.setIfInBounds_toArray, List.set_cons_zero, List.set_cons_succ]
  refine HT_take (i := 23) rfl (by kernel_rfl) (by decide) (by kernel_rfl) (by kernel_rfl) (fun _ _ _ h => h) (yieldsIf_of (.int .i64 u.scr) (by rfl) (fun w' hS => by have hc := (blk_cell hS.1 3).trans (show (clR u)[3]? = some (.int .i64 u.scr) from rfl); go_simp)) hHeld ?_
  simp only [Act.put, List.setIfInBounds_toArray, List.set_cons_zero, List.set_cons_succ]
  refine HT_take (i := 24) rfl (by kernel_rfl) (by decide) (by kernel_rfl) (by kernel_rfl) (fun _ _ _ h => h) (yieldsIf_of (.int .u8 u.scr) (by rfl) (fun w' hS => by go_simp)) hHeld ?_
  simp only [Act.put, List.setIfInBounds_toArray, List.set_cons_zero, List.set_cons_succ]
  refine HT_take (i := 25) rfl (by kernel_rfl) (by decide) (by kernel_rfl) (by kernel_rfl) (fun _ _ _ h => h) (yieldsIf_of (.pointer (some ⟨h, 0, none⟩)) (by rfl) (fun w' hS => by go_simp)) hHeld ?_
  simp only [Act.put, List.setIfInBounds_toArray, List.set_cons_zero, List.set_cons_succ]
  refine HT_take (i := 26) rfl (by kernel_rfl) (by decide) (by kernel_rfl) (by kernel_rfl) (fun _ _ _ h => h) (yieldsIf_of (.pointer (some ⟨h, 0, none⟩)) (by rfl) (fun w' hS => by go_simp)) hHeld ?_
  simp only [Act.put, List.setIfInBounds_toArray, List.set_cons_zero, List.set_cons_succ]
  refine HT_take (i := 27) rfl (by kernel_rfl) (by decide) (by kernel_rfl) (by kernel_rfl) (fun _ _ _ h => h) (yieldsIf_of (.pointer (some ⟨h, 4, none⟩)) (by rfl) (fun w' hS => by go_simp)) hHeld ?_
  simp only [Act.put, List.setIfInBounds_toArray, List.set_cons_zero, List.set_cons_succ]
  refine HT_take (i := 28) rfl (by kernel_rfl) (by decide) (by kernel_rfl) (by kernel_rfl) (fun _ _ _ h => h) (yieldsIf_of (.int .i64 u.dll) (by rfl) (fun w' hS => by have hc := (blk_cell hS.1 4).trans (show (clR u)[4]? = some (.int .i64 u.dll) from rfl); go_simp)) hHeld ?_
  simp only [Act.put, List.setIfInBounds_toArray, List.set_cons_zero, List.set_cons_succ]
  refine HT_take (i := 29) rfl (by kernel_rfl) (by decide) (by kernel_rfl) (by kernel_rfl) (fun _ _ _ h => h) (yieldsIf_of (.int .u8 u.dll) (by rfl) (fun w' hS => by go_simp)) hHeld ?_
  simp only [Act.put, List.setIfInBounds_toArray, List.set_cons_zero, List.set_cons_succ]
  refine HT_take (i := 30) rfl (by kernel_rfl) (by decide) (by kernel_rfl) (by kernel_rfl) (fun _ _ _ h => h) (yieldsIf_of (.pointer (some ⟨h, 0, none⟩)) (by rfl) (fun w' hS => by go_simp)) hHeld ?_
  simp only [Act.put, List.setIfInBounds_toArray, List.set_cons_zero, List.set_cons_succ]
  refine HT_take (i := 31) rfl (by kernel_rfl) (by decide) (by kernel_rfl) (by kernel_rfl) (fun _ _ _ h => h) (yieldsIf_of (.pointer (some ⟨h, 0, none⟩)) (by rfl) (fun w' hS => by go_simp)) hHeld ?_
  simp only [Act.put, List.setIfInBounds_toArray, List.set_cons_zero, List.set_cons_succ]
  refine HT_take (i := 32) rfl (by kernel_rfl) (by decide) (by kernel_rfl) (by kernel_rfl) (fun _ _ _ h => h) (yieldsIf_of (.pointer (some ⟨h, 5, none⟩)) (by rfl) (fun w' hS => by go_simp)) hHeld ?_
  simp only [Act.put, List.setIfInBounds_toArray, List.set_cons_zero, List.set_cons_succ]
  refine HT_take (i := 33) rfl (by kernel_rfl) (by decide) (by kernel_rfl) (by kernel_rfl) (fun _ _ _ h => h) (yieldsIf_of (.int .i64 u.dlm) (by rfl) (fun w' hS => by have hc := (blk_cell hS.1 5).trans (show (clR u)[5]? = some (.int .i64 u.dlm) from rfl); go_simp)) hHeld ?_
  simp only [Act.put, List.setIfInBounds_toArray, List.set_cons_zero, List.set_cons_succ]
  refine HT_take (i := 34) rfl (by kernel_rfl) (by decide) (by kernel_rfl) (by kernel_rfl) (fun _ _ _ h => h) (yieldsIf_of (.int .u8 u.dlm) (by rfl) (fun w' hS => by go_simp)) hHeld ?_
  simp only [Act.put, List.setIfInBounds_toArray, List.set_cons_zero, List.set_cons_succ]
  refine HT_take (i := 35) rfl (by kernel_rfl) (by decide) (by kernel_rfl) (by kernel_rfl) (fun _ _ _ h => h) (yieldsIf_of (.pointer (some ⟨h, 0, none⟩)) (by rfl) (fun w' hS => by go_simp)) hHeld ?_
  simp only [Act.put, List.setIfInBounds_toArray, List.set_cons_zero, List.set_cons_succ]
  refine HT_take (i := 36) rfl (by kernel_rfl) (by decide) (by kernel_rfl) (by kernel_rfl) (fun _ _ _ h => h) (yieldsIf_of (.pointer (some ⟨h, 0, none⟩)) (by rfl) (fun w' hS => by go_simp)) hHeld ?_
  simp only [Act.put, List.setIfInBounds_toArray, List.set_cons_zero, List.set_cons_succ]
  refine HT_take (i := 37) rfl (by kernel_rfl) (by decide) (by kernel_rfl) (by kernel_rfl) (fun _ _ _ h => h) (yieldsIf_of (.pointer (some ⟨h, 7, none⟩)) (by rfl) (fun w' hS => by go_simp)) hHeld ?_
  simp only [Act.put, List.setIfInBounds_toArray, List.set_cons_zero, List.set_cons_succ]
  refine HT_take (i := 38) rfl (by kernel_rfl) (by decide) (by kernel_rfl) (by kernel_rfl) (fun _ _ _ h => h) (yieldsIf_of (.bool u.ov) (by rfl) (fun w' hS => by have hc := (blk_cell hS.1 7).trans (show (clR u)[7]? = some (.bool u.ov) from rfl); go_simp)) hHeld ?_
  simp only [Act.put, List.setIfInBounds_toArray, List.set_cons_zero, List.set_cons_succ]
  refine HT_take (i := 40) rfl (by kernel_rfl) (by decide) (by kernel_rfl) (by kernel_rfl) (fun _ _ _ h => h) (yieldsIf_of (.pointer (some ⟨h, 0, none⟩)) (by rfl) (fun w' hS => by go_simp)) hHeld ?_
  simp only [Act.put, List.setIfInBounds_toArray, List.set_cons_zero, List.set_cons_succ]
  refine HT_take (i := 41) rfl (by kernel_rfl) (by decide) (by kernel_rfl) (by kernel_rfl) (fun _ _ _ h => h) (yieldsIf_of (.pointer (some ⟨h, 0, none⟩)) (by rfl) (fun w' hS => by go_simp)) hHeld ?_
  simp only [Act.put, List.setIfInBounds_toArray, List.set_cons_zero, List.set_cons_succ]
  refine HT_take (i := 42) rfl (by kernel_rfl) (by decide) (by kernel_rfl) (by kernel_rfl) (fun _ _ _ h => h) (yieldsIf_of (.pointer (some ⟨h, 8, none⟩)) (by rfl) (fun w' hS => by go_simp)) hHeld ?_
  simp only [Act.put, List.setIfInBounds_toArray, List.set_cons_zero, List.set_cons_succ]
  refine HT_take (i := 43) rfl (by kernel_rfl) (by decide) (by kernel_rfl) (by kernel_rfl) (fun _ _ _ h => h) (yieldsIf_of (.bool u.dn) (by rfl) (fun w' hS => by have hc := (blk_cell hS.1 8).trans (show (clR u)[8]? = some (.bool u.dn) from rfl); go_simp)) hHeld ?_
  simp only [Act.put, List.setIfInBounds_toArray, List.set_cons_zero, List.set_cons_succ]
  refine HT_take (i := 47) rfl (by kernel_rfl) (by decide) (by kernel_rfl) (by kernel_rfl) (fun _ _ _ h => h) (yieldsIf_of (.pointer (some ⟨h, 0, none⟩)) (by rfl) (fun w' hS => by go_simp)) hHeld ?_
  simp only [Act.put, List.setIfInBounds_toArray, List.set_cons_zero, List.set_cons_succ]
  refine HT_take (i := 48) rfl (by kernel_rfl) (by decide) (by kernel_rfl) (by kernel_rfl) (fun _ _ _ h => h) (yieldsIf_of (.pointer (some ⟨h, 0, none⟩)) (by rfl) (fun w' hS => by go_simp)) hHeld ?_
  simp only [Act.put, List.setIfInBounds_toArray, List.set_cons_zero, List.set_cons_succ]
  refine HT_take (i := 49) rfl (by kernel_rfl) (by decide) (by kernel_rfl) (by kernel_rfl) (fun _ _ _ h => h) (yieldsIf_of (.pointer (some ⟨h, 9, none⟩)) (by rfl) (fun w' hS => by go_simp)) hHeld ?_
  simp only [Act.put, List.setIfInBounds_toArray, List.set_cons_zero, List.set_cons_succ]
  refine HT_take (i := 50) rfl (by kernel_rfl) (by decide) (by kernel_rfl) (by kernel_rfl) (fun _ _ _ h => h) (yieldsIf_of (.string (strOfNums u.q)) (by rfl) (fun w' hS => by have hc := (blk_cell hS.1 9).trans (show (clR u)[9]? = some (.string (strOfNums u.q)) from rfl); go_simp)) hHeld ?_
  simp only [Act.put, List.setIfInBounds_toArray, List.set_cons_zero, List.set_cons_succ]
  refine HT_one (i := 9) rfl (by decide) (by kernel_rfl) (fun K hK => ?_)
  go_simp
  go_at_call 34
  refine (rone_any u.en _).mono ?_
  rintro e w4 ⟨rfl, rfl⟩
  go_simp
  refine hK.out _ _ hHeld (fun hHeld => ?_)
  clear hK K
  refine HT_one (i := 39) rfl (by decide) (by kernel_rfl) (fun K hK => ?_)
  go_simp
  go_at_call 34
  refine (rone_any u.ov _).mono ?_
  rintro e w4 ⟨rfl, rfl⟩
  go_simp
  refine hK.out _ _ hHeld (fun hHeld => ?_)
  clear hK K
  refine HT_one (i := 44) rfl (by decide) (by kernel_rfl) (fun K hK => ?_)
  go_simp
  go_at_call 34
  refine (rone_any u.dn _).mono ?_
  rintro e w4 ⟨rfl, rfl⟩
  go_simp
  refine hK.out _ _ hHeld (fun hHeld => ?_)
  clear hK K
  refine HT_one (i := 45) rfl (by decide) (by kernel_rfl) (fun K hK => ?_)
  go_simp
  refine hK.out _ _ ⟨blk_alloc hHeld.1 _, hHeld.2.alloc _⟩ (fun hHeld => ?_)
  clear hK K
  refine HT_one (i := 46) rfl (by decide) (by kernel_rfl) (fun K hK => ?_)
  rw [if_pos (by rfl)]
  refine wp_conv _ rfl (headD u) w.heap.size rfl (show (w.alloc (.cells #[.int .u8 u.ier, .int .u8 (b1 u.en), .int .u8 u.lcr, .int .u8 u.mcr, .int .u8 u.scr, .int .u8 u.dll, .int .u8 u.dlm, .int .u8 (b1 u.ov), .int .u8 (b1 u.dn)] 5)).drew.heap[w.heap.size]? = _ from blk_new w _) ?_
  simp only [Act.put]
  refine hK.out _ _ hHeld (fun hHeld => ?_)
  clear hK K
  simp only [Act.put, List.setIfInBounds_toArray, List.set_cons_zero, List.set_cons_succ]
  have hadd := run_add_str (headD u) u.q (show 9 ≤ 4000000 by decide) (by omega)
  refine HT_take (i := 51) rfl (by kernel_rfl) (by decide) (by kernel_rfl) (by kernel_rfl) (fun _ _ _ h => h) (yieldsIf_of (.string (strOfNums (headD u ++ u.q))) (by rfl) (fun w' hS => by go_simp)) hHeld ?_
  simp only [Act.put, List.setIfInBounds_toArray, List.set_cons_zero, List.set_cons_succ]
  refine HT_done (by kernel_rfl) ?_
  have HH := hid hHeld
  clear hHeld hadd
  simp only [List.drop_succ_cons, List.drop_zero]
  go_wp2
  go_ret
  refine ⟨?_, HH.out.2⟩
  rw [hD.out]
  rfl
end Go.Proofs.Ytobaniebnejjiaa.U
