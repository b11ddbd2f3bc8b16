/- Contracts of Addr and Do: way by way. -/
import Derived.Test.YtajbfnihgonppaaE1
namespace Go.Proofs.Ytajbfnihgonppaa.PA
open Go.RowKit Go.Proofs.Ytajbfnihgonppaa.Plain
set_option linter.all false
theorem fr_cell {w w' : World} (h : Fr [] w w') {a : Addr} {v : Value} (hc : w.cell? a = some v) : w'.cell? a = some v := Ext.same_cell ⟨w', h⟩ hc
set_option maxRecDepth 100000 in
set_option maxHeartbeats 4000000 in
theorem addr_l (g : Nat) (op rd r1 r2 im cs sz  a : Int) (w : World) (b0 : 0 ≤ op ∧ op < 256) (b2 : 0 ≤ r1 ∧ r1 < 256) (b3 : 0 ≤ r2 ∧ r2 < 256) (b4 : -9223372036854775808 ≤ im) (b4b : im ≤ 9223372036854775807) (b6 : 0 ≤ sz) (b6b : sz < 256) (h3 : Hid (∀ w, Calls Try.prog 11 #[.int .u8 op] w fun e w' => e = .returned (.int .u8 1) ∧ Fr [] w w')) (h1 : Hid (∀ w1, Fr [] w w1 → Calls Try.prog 12 #[.pointer (some ⟨g, 0, none⟩), .int .u8 r1] w1 fun e w' => e = .returned (.int .u64 a) ∧ w1 = w'))  :
    Calls Try.prog 15 #[.pointer (some ⟨g, 0, none⟩), .agg (IC (op, rd, r1, r2, im, cs, sz))] w fun e w' => e = .returned (.tuple #[.int .u64 (IntKind.u64.wrap (a + IntKind.u64.wrap im)), .bool true]) ∧ Fr [] w w' := by
  go_enter Try.func15, Try.ntmps15
  go_upto_region 1 with fail
  refine world_at' (fun W => W.heap[w.heap.size]? = some (.cells (IC (op, rd, r1, r2, im, cs, sz)) 27) ∧ Fr [] w W) ⟨blk_new _ _, (Fr.refl [] w).alloc _⟩ ?_
  rintro W ⟨hZ, hF⟩
  have HF := hid hF
  have y0 : ∀ n : Ext W, n.w.cell? ⟨w.heap.size, 0, none⟩ = some (.int .u8 op) := fun n => Ext.cell n hZ 0
  have y2 : ∀ n : Ext W, n.w.cell? ⟨w.heap.size, 2, none⟩ = some (.int .u8 r1) := fun n => Ext.cell n hZ 2
  have y3 : ∀ n : Ext W, n.w.cell? ⟨w.heap.size, 3, none⟩ = some (.int .u8 r2) := fun n => Ext.cell n hZ 3
  have y4 : ∀ n : Ext W, n.w.cell? ⟨w.heap.size, 4, none⟩ = some (.int .i64 im) := fun n => Ext.cell n hZ 4
  have y6 : ∀ n : Ext W, n.w.cell? ⟨w.heap.size, 6, none⟩ = some (.int .u8 sz) := fun n => Ext.cell n hZ 6
  have HZ := hid hZ
  clear hF hZ
  have hne := ext_ne W
  have x0 := y0 ⟨W, Fr.refl _ _⟩
  simp only [Ext.w] at x0
  go_upto_region 4 with (go_at_call 11; (with_reducible refine (h3.out _).mono ?_); rintro e w1 ⟨rfl, hd⟩)
  refine world_at' (fun W' => Fr [] W W') hd ?_
  clear x0 hd
  rintro W2 hd
  have HD := hid hd
  have u2 : ∀ n : Ext W2, n.w.cell? ⟨w.heap.size, 2, none⟩ = some (.int .u8 r1) := fun n => y2 ⟨n.w, hd.trans n.fr⟩
  have u4 : ∀ n : Ext W2, n.w.cell? ⟨w.heap.size, 4, none⟩ = some (.int .i64 im) := fun n => y4 ⟨n.w, hd.trans n.fr⟩
  clear y0 y2 y3 y4 y6 hd hne
  have hne := ext_ne W2
  have c1 : Hid (∀ n : Ext W2, Calls Try.prog 12 #[.pointer (some ⟨g, 0, none⟩), .int .u8 r1] n.w fun e w'' => e = .returned (.int .u64 a) ∧ ∃ m : Ext W2, w'' = m.w) := fun n => Ext.same n (h1.out _ ((HF.out.trans HD.out).trans n.fr))
  clear h1 h3
  refine wp_region_ext (by kernel_rfl) (by kernel_rfl) ?_
  repeat (go_big_quiet_step (first | (go_at_call 12; with_reducible exact c1.out _)))
  refine wpQuiet_nil ?_
  intro w' hw'
  obtain ⟨m1, rfl⟩ := hw'
  go_wp2
  go_ret2
  exact ⟨rfl, (HF.out.trans HD.out).trans m1.fr⟩
set_option maxRecDepth 100000 in
set_option maxHeartbeats 4000000 in
theorem addr_s (g : Nat) (op rd r1 r2 im cs sz  a : Int) (w : World) (b0 : 0 ≤ op ∧ op < 256) (b2 : 0 ≤ r1 ∧ r1 < 256) (b3 : 0 ≤ r2 ∧ r2 < 256) (b4 : -9223372036854775808 ≤ im) (b4b : im ≤ 9223372036854775807) (b6 : 0 ≤ sz) (b6b : sz < 256) (h3 : Hid (∀ w, Calls Try.prog 11 #[.int .u8 op] w fun e w' => e = .returned (.int .u8 2) ∧ Fr [] w w')) (h1 : Hid (∀ w1, Fr [] w w1 → Calls Try.prog 12 #[.pointer (some ⟨g, 0, none⟩), .int .u8 r1] w1 fun e w' => e = .returned (.int .u64 a) ∧ w1 = w'))  :
    Calls Try.prog 15 #[.pointer (some ⟨g, 0, none⟩), .agg (IC (op, rd, r1, r2, im, cs, sz))] w fun e w' => e = .returned (.tuple #[.int .u64 (IntKind.u64.wrap (a + IntKind.u64.wrap im)), .bool true]) ∧ Fr [] w w' := by
  go_enter Try.func15, Try.ntmps15
  go_upto_region 1 with fail
  refine world_at' (fun W => W.heap[w.heap.size]? = some (.cells (IC (op, rd, r1, r2, im, cs, sz)) 27) ∧ Fr [] w W) ⟨blk_new _ _, (Fr.refl [] w).alloc _⟩ ?_
  rintro W ⟨hZ, hF⟩
  have HF := hid hF
  have y0 : ∀ n : Ext W, n.w.cell? ⟨w.heap.size, 0, none⟩ = some (.int .u8 op) := fun n => Ext.cell n hZ 0
  have y2 : ∀ n : Ext W, n.w.cell? ⟨w.heap.size, 2, none⟩ = some (.int .u8 r1) := fun n => Ext.cell n hZ 2
  have y3 : ∀ n : Ext W, n.w.cell? ⟨w.heap.size, 3, none⟩ = some (.int .u8 r2) := fun n => Ext.cell n hZ 3
  have y4 : ∀ n : Ext W, n.w.cell? ⟨w.heap.size, 4, none⟩ = some (.int .i64 im) := fun n => Ext.cell n hZ 4
  have y6 : ∀ n : Ext W, n.w.cell? ⟨w.heap.size, 6, none⟩ = some (.int .u8 sz) := fun n => Ext.cell n hZ 6
  have HZ := hid hZ
  clear hF hZ
  have hne := ext_ne W
  have x0 := y0 ⟨W, Fr.refl _ _⟩
  simp only [Ext.w] at x0
  go_upto_region 4 with (go_at_call 11; (with_reducible refine (h3.out _).mono ?_); rintro e w1 ⟨rfl, hd⟩)
  refine world_at' (fun W' => Fr [] W W') hd ?_
  clear x0 hd
  rintro W2 hd
  have HD := hid hd
  have u2 : ∀ n : Ext W2, n.w.cell? ⟨w.heap.size, 2, none⟩ = some (.int .u8 r1) := fun n => y2 ⟨n.w, hd.trans n.fr⟩
  have u4 : ∀ n : Ext W2, n.w.cell? ⟨w.heap.size, 4, none⟩ = some (.int .i64 im) := fun n => y4 ⟨n.w, hd.trans n.fr⟩
  clear y0 y2 y3 y4 y6 hd hne
  have hne := ext_ne W2
  have c1 : Hid (∀ n : Ext W2, Calls Try.prog 12 #[.pointer (some ⟨g, 0, none⟩), .int .u8 r1] n.w fun e w'' => e = .returned (.int .u64 a) ∧ ∃ m : Ext W2, w'' = m.w) := fun n => Ext.same n (h1.out _ ((HF.out.trans HD.out).trans n.fr))
  clear h1 h3
  refine wp_region_ext (by kernel_rfl) (by kernel_rfl) ?_
  repeat (go_big_quiet_step (first | (go_at_call 12; with_reducible exact c1.out _)))
  refine wpQuiet_nil ?_
  intro w' hw'
  obtain ⟨m1, rfl⟩ := hw'
  go_wp2
  go_ret2
  exact ⟨rfl, (HF.out.trans HD.out).trans m1.fr⟩
set_option maxRecDepth 100000 in
set_option maxHeartbeats 4000000 in
theorem addr_a (g : Nat) (op rd r1 r2 im cs sz  a : Int) (w : World) (b0 : 0 ≤ op ∧ op < 256) (b2 : 0 ≤ r1 ∧ r1 < 256) (b3 : 0 ≤ r2 ∧ r2 < 256) (b4 : -9223372036854775808 ≤ im) (b4b : im ≤ 9223372036854775807) (b6 : 0 ≤ sz) (b6b : sz < 256) (h3 : Hid (∀ w, Calls Try.prog 11 #[.int .u8 op] w fun e w' => e = .returned (.int .u8 5) ∧ Fr [] w w')) (h1 : Hid (∀ w1, Fr [] w w1 → Calls Try.prog 12 #[.pointer (some ⟨g, 0, none⟩), .int .u8 r1] w1 fun e w' => e = .returned (.int .u64 a) ∧ w1 = w'))  :
    Calls Try.prog 15 #[.pointer (some ⟨g, 0, none⟩), .agg (IC (op, rd, r1, r2, im, cs, sz))] w fun e w' => e = .returned (.tuple #[.int .u64 a, .bool true]) ∧ Fr [] w w' := by
  go_enter Try.func15, Try.ntmps15
  go_upto_region 1 with fail
  refine world_at' (fun W => W.heap[w.heap.size]? = some (.cells (IC (op, rd, r1, r2, im, cs, sz)) 27) ∧ Fr [] w W) ⟨blk_new _ _, (Fr.refl [] w).alloc _⟩ ?_
  rintro W ⟨hZ, hF⟩
  have HF := hid hF
  have y0 : ∀ n : Ext W, n.w.cell? ⟨w.heap.size, 0, none⟩ = some (.int .u8 op) := fun n => Ext.cell n hZ 0
  have y2 : ∀ n : Ext W, n.w.cell? ⟨w.heap.size, 2, none⟩ = some (.int .u8 r1) := fun n => Ext.cell n hZ 2
  have y3 : ∀ n : Ext W, n.w.cell? ⟨w.heap.size, 3, none⟩ = some (.int .u8 r2) := fun n => Ext.cell n hZ 3
  have y4 : ∀ n : Ext W, n.w.cell? ⟨w.heap.size, 4, none⟩ = some (.int .i64 im) := fun n => Ext.cell n hZ 4
  have y6 : ∀ n : Ext W, n.w.cell? ⟨w.heap.size, 6, none⟩ = some (.int .u8 sz) := fun n => Ext.cell n hZ 6
  have HZ := hid hZ
  clear hF hZ
  have hne := ext_ne W
  have x0 := y0 ⟨W, Fr.refl _ _⟩
  simp only [Ext.w] at x0
  go_wp2_with (first | (go_at_call 11; (with_reducible refine (h3.out _).mono ?_); rintro e w1 ⟨rfl, hd⟩; have z2 : w1.cell? ⟨w.heap.size, 2, none⟩ = some (.int .u8 r1) := y2 ⟨w1, hd⟩) | (go_at_call 12; (with_reducible refine (h1.out _ (HF.out.trans hd)).mono ?_); rintro e w' ⟨rfl, rfl⟩))
  go_ret2
  exact ⟨rfl, HF.out.trans hd⟩
set_option maxRecDepth 100000 in
set_option maxHeartbeats 4000000 in
theorem addr_o (g : Nat) (op rd r1 r2 im cs sz c  : Int) (w : World) (b0 : 0 ≤ op ∧ op < 256) (b2 : 0 ≤ r1 ∧ r1 < 256) (b3 : 0 ≤ r2 ∧ r2 < 256) (b4 : -9223372036854775808 ≤ im) (b4b : im ≤ 9223372036854775807) (b6 : 0 ≤ sz) (b6b : sz < 256) (h3 : Hid (∀ w, Calls Try.prog 11 #[.int .u8 op] w fun e w' => e = .returned (.int .u8 c) ∧ Fr [] w w'))  (t1 : (c == 1) = false) (t2 : (c == 2) = false) (t3 : (c == 5) = false) :
    Calls Try.prog 15 #[.pointer (some ⟨g, 0, none⟩), .agg (IC (op, rd, r1, r2, im, cs, sz))] w fun e w' => e = .returned (.tuple #[.int .u64 0, .bool false]) ∧ Fr [] w w' := by
  go_enter Try.func15, Try.ntmps15
  go_upto_region 1 with fail
  refine world_at' (fun W => W.heap[w.heap.size]? = some (.cells (IC (op, rd, r1, r2, im, cs, sz)) 27) ∧ Fr [] w W) ⟨blk_new _ _, (Fr.refl [] w).alloc _⟩ ?_
  rintro W ⟨hZ, hF⟩
  have HF := hid hF
  have y0 : ∀ n : Ext W, n.w.cell? ⟨w.heap.size, 0, none⟩ = some (.int .u8 op) := fun n => Ext.cell n hZ 0
  have y2 : ∀ n : Ext W, n.w.cell? ⟨w.heap.size, 2, none⟩ = some (.int .u8 r1) := fun n => Ext.cell n hZ 2
  have y3 : ∀ n : Ext W, n.w.cell? ⟨w.heap.size, 3, none⟩ = some (.int .u8 r2) := fun n => Ext.cell n hZ 3
  have y4 : ∀ n : Ext W, n.w.cell? ⟨w.heap.size, 4, none⟩ = some (.int .i64 im) := fun n => Ext.cell n hZ 4
  have y6 : ∀ n : Ext W, n.w.cell? ⟨w.heap.size, 6, none⟩ = some (.int .u8 sz) := fun n => Ext.cell n hZ 6
  have HZ := hid hZ
  clear hF hZ
  have hne := ext_ne W
  have x0 := y0 ⟨W, Fr.refl _ _⟩
  simp only [Ext.w] at x0
  go_wp2_with (go_at_call 11; (with_reducible refine (h3.out _).mono ?_); rintro e w1 ⟨rfl, hd⟩)
  go_ret2
  exact ⟨rfl, HF.out.trans hd⟩
set_option maxRecDepth 100000 in
set_option maxHeartbeats 4000000 in
theorem xd_jalr (g : Nat) (pc rd r1 r2 im cs sz a : Int) (s' : Nat → Int) (w : World) (p0 : 0 ≤ pc) (p1 : pc < 18446744073709551616) (b2 : 0 ≤ r1 ∧ r1 < 256) (b3 : 0 ≤ r2 ∧ r2 < 256) (b4 : -9223372036854775808 ≤ im) (b4b : im ≤ 9223372036854775807) (b6 : 0 ≤ sz) (b6b : sz < 256) (b1 : 0 ≤ rd ∧ rd < 256) (h1 : Hid (∀ w1, Fr [] w w1 → Calls Try.prog 12 #[.pointer (some ⟨g, 0, none⟩), .int .u8 r1] w1 fun e w' => e = .returned (.int .u64 a) ∧ w1 = w')) (h2 : Hid (∀ w1, Fr [] w w1 → Calls Try.prog 13 #[.pointer (some ⟨g, 0, none⟩), .int .u8 rd, .int .u64 (IntKind.u64.wrap (pc + sz))] w1 fun e w' => e = .returned (.tuple #[]) ∧ w'.heap[g]? = some (.cells (regC s') 24) ∧ Fr [g] w1 w')) :
    Calls Try.prog 9 #[.pointer (some ⟨g, 0, none⟩), .int .u64 pc, .agg (IC (4, rd, r1, r2, im, cs, sz))] w fun e w' => e = .returned (.tuple #[.int .u64 (bits .andNot .u64 (IntKind.u64.wrap (a + IntKind.u64.wrap im)) 1), .bool true]) ∧ w'.heap[g]? = some (.cells (regC s') 24) ∧ Fr [g] w w' := by
  go_enter Try.func9, Try.ntmps9
  go_upto_region 1 with fail
  refine world_at' (fun W => W.heap[w.heap.size]? = some (.cells (IC (4, rd, r1, r2, im, cs, sz)) 27) ∧ Fr [] w W) ⟨blk_new _ _, (Fr.refl [] w).alloc _⟩ ?_
  rintro W ⟨hZ, hF⟩
  have HF := hid hF
  have y0 : ∀ n : Ext W, n.w.cell? ⟨w.heap.size, 0, none⟩ = some (.int .u8 4) := fun n => Ext.cell n hZ 0
  have y2 : ∀ n : Ext W, n.w.cell? ⟨w.heap.size, 2, none⟩ = some (.int .u8 r1) := fun n => Ext.cell n hZ 2
  have y3 : ∀ n : Ext W, n.w.cell? ⟨w.heap.size, 3, none⟩ = some (.int .u8 r2) := fun n => Ext.cell n hZ 3
  have y4 : ∀ n : Ext W, n.w.cell? ⟨w.heap.size, 4, none⟩ = some (.int .i64 im) := fun n => Ext.cell n hZ 4
  have y6 : ∀ n : Ext W, n.w.cell? ⟨w.heap.size, 6, none⟩ = some (.int .u8 sz) := fun n => Ext.cell n hZ 6
  have HZ := hid hZ
  clear hF hZ
  have hne := ext_ne W
  have y1 : W.cell? ⟨w.heap.size, 1, none⟩ = some (.int .u8 rd) := by rw [blk_cell HZ.out]; rfl
  have x0 := y0 ⟨W, Fr.refl _ _⟩
  have x2 := y2 ⟨W, Fr.refl _ _⟩
  have x4 := y4 ⟨W, Fr.refl _ _⟩
  have x6 := y6 ⟨W, Fr.refl _ _⟩
  simp only [Ext.w] at x0 x2 x4 x6
  clear y0 y2 y3 y4 y6 hne
  go_wp2_with (first | (go_at_call 12; (with_reducible refine (h1.out _ HF.out).mono ?_); rintro e w' ⟨rfl, rfl⟩) | (go_at_call 13; (with_reducible refine (h2.out _ HF.out).mono ?_); rintro e w1 ⟨rfl, hb, hd⟩))
  go_ret2
  exact ⟨rfl, hb, (HF.out.weaken (by simp)).trans hd⟩
set_option maxRecDepth 100000 in
set_option maxHeartbeats 4000000 in
theorem xd_jal (g : Nat) (pc rd r1 r2 im cs sz  : Int) (s' : Nat → Int) (w : World) (p0 : 0 ≤ pc) (p1 : pc < 18446744073709551616) (b2 : 0 ≤ r1 ∧ r1 < 256) (b3 : 0 ≤ r2 ∧ r2 < 256) (b4 : -9223372036854775808 ≤ im) (b4b : im ≤ 9223372036854775807) (b6 : 0 ≤ sz) (b6b : sz < 256) (b1 : 0 ≤ rd ∧ rd < 256)  (h2 : Hid (∀ w1, Fr [] w w1 → Calls Try.prog 13 #[.pointer (some ⟨g, 0, none⟩), .int .u8 rd, .int .u64 (IntKind.u64.wrap (pc + sz))] w1 fun e w' => e = .returned (.tuple #[]) ∧ w'.heap[g]? = some (.cells (regC s') 24) ∧ Fr [g] w1 w')) :
    Calls Try.prog 9 #[.pointer (some ⟨g, 0, none⟩), .int .u64 pc, .agg (IC (3, rd, r1, r2, im, cs, sz))] w fun e w' => e = .returned (.tuple #[.int .u64 (IntKind.u64.wrap (pc + IntKind.u64.wrap im)), .bool true]) ∧ w'.heap[g]? = some (.cells (regC s') 24) ∧ Fr [g] w w' := by
  go_enter Try.func9, Try.ntmps9
  go_upto_region 1 with fail
  refine world_at' (fun W => W.heap[w.heap.size]? = some (.cells (IC (3, rd, r1, r2, im, cs, sz)) 27) ∧ Fr [] w W) ⟨blk_new _ _, (Fr.refl [] w).alloc _⟩ ?_
  rintro W ⟨hZ, hF⟩
  have HF := hid hF
  have y0 : ∀ n : Ext W, n.w.cell? ⟨w.heap.size, 0, none⟩ = some (.int .u8 3) := fun n => Ext.cell n hZ 0
  have y2 : ∀ n : Ext W, n.w.cell? ⟨w.heap.size, 2, none⟩ = some (.int .u8 r1) := fun n => Ext.cell n hZ 2
  have y3 : ∀ n : Ext W, n.w.cell? ⟨w.heap.size, 3, none⟩ = some (.int .u8 r2) := fun n => Ext.cell n hZ 3
  have y4 : ∀ n : Ext W, n.w.cell? ⟨w.heap.size, 4, none⟩ = some (.int .i64 im) := fun n => Ext.cell n hZ 4
  have y6 : ∀ n : Ext W, n.w.cell? ⟨w.heap.size, 6, none⟩ = some (.int .u8 sz) := fun n => Ext.cell n hZ 6
  have HZ := hid hZ
  clear hF hZ
  have hne := ext_ne W
  have y1 : W.cell? ⟨w.heap.size, 1, none⟩ = some (.int .u8 rd) := by rw [blk_cell HZ.out]; rfl
  have x0 := y0 ⟨W, Fr.refl _ _⟩
  have x2 := y2 ⟨W, Fr.refl _ _⟩
  have x4 := y4 ⟨W, Fr.refl _ _⟩
  have x6 := y6 ⟨W, Fr.refl _ _⟩
  simp only [Ext.w] at x0 x2 x4 x6
  clear y0 y2 y3 y4 y6 hne
  go_wp2_with (first | (go_at_call 13; (with_reducible refine (h2.out _ HF.out).mono ?_); rintro e w1 ⟨rfl, hb, hd⟩))
  go_ret2
  exact ⟨rfl, hb, (HF.out.weaken (by simp)).trans hd⟩
set_option maxRecDepth 100000 in
set_option maxHeartbeats 4000000 in
theorem xd_auipc (g : Nat) (pc rd r1 r2 im cs sz  : Int) (s' : Nat → Int) (w : World) (p0 : 0 ≤ pc) (p1 : pc < 18446744073709551616) (b2 : 0 ≤ r1 ∧ r1 < 256) (b3 : 0 ≤ r2 ∧ r2 < 256) (b4 : -9223372036854775808 ≤ im) (b4b : im ≤ 9223372036854775807) (b6 : 0 ≤ sz) (b6b : sz < 256) (b1 : 0 ≤ rd ∧ rd < 256)  (h2 : Hid (∀ w1, Fr [] w w1 → Calls Try.prog 13 #[.pointer (some ⟨g, 0, none⟩), .int .u8 rd, .int .u64 (IntKind.u64.wrap (IntKind.u64.wrap im + pc))] w1 fun e w' => e = .returned (.tuple #[]) ∧ w'.heap[g]? = some (.cells (regC s') 24) ∧ Fr [g] w1 w')) :
    Calls Try.prog 9 #[.pointer (some ⟨g, 0, none⟩), .int .u64 pc, .agg (IC (2, rd, r1, r2, im, cs, sz))] w fun e w' => e = .returned (.tuple #[.int .u64 (IntKind.u64.wrap (pc + sz)), .bool true]) ∧ w'.heap[g]? = some (.cells (regC s') 24) ∧ Fr [g] w w' := by
  go_enter Try.func9, Try.ntmps9
  go_upto_region 1 with fail
  refine world_at' (fun W => W.heap[w.heap.size]? = some (.cells (IC (2, rd, r1, r2, im, cs, sz)) 27) ∧ Fr [] w W) ⟨blk_new _ _, (Fr.refl [] w).alloc _⟩ ?_
  rintro W ⟨hZ, hF⟩
  have HF := hid hF
  have y0 : ∀ n : Ext W, n.w.cell? ⟨w.heap.size, 0, none⟩ = some (.int .u8 2) := fun n => Ext.cell n hZ 0
  have y2 : ∀ n : Ext W, n.w.cell? ⟨w.heap.size, 2, none⟩ = some (.int .u8 r1) := fun n => Ext.cell n hZ 2
  have y3 : ∀ n : Ext W, n.w.cell? ⟨w.heap.size, 3, none⟩ = some (.int .u8 r2) := fun n => Ext.cell n hZ 3
  have y4 : ∀ n : Ext W, n.w.cell? ⟨w.heap.size, 4, none⟩ = some (.int .i64 im) := fun n => Ext.cell n hZ 4
  have y6 : ∀ n : Ext W, n.w.cell? ⟨w.heap.size, 6, none⟩ = some (.int .u8 sz) := fun n => Ext.cell n hZ 6
  have HZ := hid hZ
  clear hF hZ
  have hne := ext_ne W
  have y1 : W.cell? ⟨w.heap.size, 1, none⟩ = some (.int .u8 rd) := by rw [blk_cell HZ.out]; rfl
  have x0 := y0 ⟨W, Fr.refl _ _⟩
  have x2 := y2 ⟨W, Fr.refl _ _⟩
  have x4 := y4 ⟨W, Fr.refl _ _⟩
  have x6 := y6 ⟨W, Fr.refl _ _⟩
  simp only [Ext.w] at x0 x2 x4 x6
  clear y0 y2 y3 y4 y6 hne
  go_wp2_with (first | (go_at_call 13; (with_reducible refine (h2.out _ HF.out).mono ?_); rintro e w1 ⟨rfl, hb, hd⟩))
  go_ret2
  exact ⟨rfl, hb, (HF.out.weaken (by simp)).trans hd⟩
set_option maxRecDepth 100000 in
set_option maxHeartbeats 4000000 in
theorem xd_lui (g : Nat) (pc rd r1 r2 im cs sz  : Int) (s' : Nat → Int) (w : World) (p0 : 0 ≤ pc) (p1 : pc < 18446744073709551616) (b2 : 0 ≤ r1 ∧ r1 < 256) (b3 : 0 ≤ r2 ∧ r2 < 256) (b4 : -9223372036854775808 ≤ im) (b4b : im ≤ 9223372036854775807) (b6 : 0 ≤ sz) (b6b : sz < 256) (b1 : 0 ≤ rd ∧ rd < 256)  (h2 : Hid (∀ w1, Fr [] w w1 → Calls Try.prog 13 #[.pointer (some ⟨g, 0, none⟩), .int .u8 rd, .int .u64 (IntKind.u64.wrap im)] w1 fun e w' => e = .returned (.tuple #[]) ∧ w'.heap[g]? = some (.cells (regC s') 24) ∧ Fr [g] w1 w')) :
    Calls Try.prog 9 #[.pointer (some ⟨g, 0, none⟩), .int .u64 pc, .agg (IC (1, rd, r1, r2, im, cs, sz))] w fun e w' => e = .returned (.tuple #[.int .u64 (IntKind.u64.wrap (pc + sz)), .bool true]) ∧ w'.heap[g]? = some (.cells (regC s') 24) ∧ Fr [g] w w' := by
  go_enter Try.func9, Try.ntmps9
  go_upto_region 1 with fail
  refine world_at' (fun W => W.heap[w.heap.size]? = some (.cells (IC (1, rd, r1, r2, im, cs, sz)) 27) ∧ Fr [] w W) ⟨blk_new _ _, (Fr.refl [] w).alloc _⟩ ?_
  rintro W ⟨hZ, hF⟩
  have HF := hid hF
  have y0 : ∀ n : Ext W, n.w.cell? ⟨w.heap.size, 0, none⟩ = some (.int .u8 1) := fun n => Ext.cell n hZ 0
  have y2 : ∀ n : Ext W, n.w.cell? ⟨w.heap.size, 2, none⟩ = some (.int .u8 r1) := fun n => Ext.cell n hZ 2
  have y3 : ∀ n : Ext W, n.w.cell? ⟨w.heap.size, 3, none⟩ = some (.int .u8 r2) := fun n => Ext.cell n hZ 3
  have y4 : ∀ n : Ext W, n.w.cell? ⟨w.heap.size, 4, none⟩ = some (.int .i64 im) := fun n => Ext.cell n hZ 4
  have y6 : ∀ n : Ext W, n.w.cell? ⟨w.heap.size, 6, none⟩ = some (.int .u8 sz) := fun n => Ext.cell n hZ 6
  have HZ := hid hZ
  clear hF hZ
  have hne := ext_ne W
  have y1 : W.cell? ⟨w.heap.size, 1, none⟩ = some (.int .u8 rd) := by rw [blk_cell HZ.out]; rfl
  have x0 := y0 ⟨W, Fr.refl _ _⟩
  have x2 := y2 ⟨W, Fr.refl _ _⟩
  have x4 := y4 ⟨W, Fr.refl _ _⟩
  have x6 := y6 ⟨W, Fr.refl _ _⟩
  simp only [Ext.w] at x0 x2 x4 x6
  clear y0 y2 y3 y4 y6 hne
  go_wp2_with (first | (go_at_call 13; (with_reducible refine (h2.out _ HF.out).mono ?_); rintro e w1 ⟨rfl, hb, hd⟩))
  go_ret2
  exact ⟨rfl, hb, (HF.out.weaken (by simp)).trans hd⟩
set_option maxRecDepth 100000 in
set_option maxHeartbeats 4000000 in
theorem xd_br (g : Nat) (pc op rd r1 r2 im cs sz nx : Int) (s' : Nat → Int) (w : World) (p0 : 0 ≤ pc) (p1 : pc < 18446744073709551616) (b0 : 0 ≤ op ∧ op < 256) (b2 : 0 ≤ r1 ∧ r1 < 256) (b3 : 0 ≤ r2 ∧ r2 < 256) (b4 : -9223372036854775808 ≤ im) (b4b : im ≤ 9223372036854775807) (b6 : 0 ≤ sz) (b6b : sz < 256) (b1 : 0 ≤ rd ∧ rd < 256) (t1 : (op == 1) = false) (t2 : (op == 2) = false) (t3 : (op == 3) = false) (t4 : (op == 4) = false) (h3 : Hid (∀ w, Calls Try.prog 11 #[.int .u8 op] w fun e w' => e = .returned (.int .u8 3) ∧ Fr [] w w'))  (h4 : Hid (∀ w1, Fr [] w w1 → Calls Try.prog 22 #[.pointer (some ⟨g, 0, none⟩), .int .u64 pc, .agg (IC (op, rd, r1, r2, im, cs, sz))] w1 fun e w' => e = .returned (.int .u64 nx) ∧ Fr [] w1 w')) :
    Calls Try.prog 9 #[.pointer (some ⟨g, 0, none⟩), .int .u64 pc, .agg (IC (op, rd, r1, r2, im, cs, sz))] w fun e w' => e = .returned (.tuple #[.int .u64 (nx), .bool true]) ∧ Fr [] w w' := by
  go_enter Try.func9, Try.ntmps9
  go_upto_region 1 with fail
  refine world_at' (fun W => W.heap[w.heap.size]? = some (.cells (IC (op, rd, r1, r2, im, cs, sz)) 27) ∧ Fr [] w W) ⟨blk_new _ _, (Fr.refl [] w).alloc _⟩ ?_
  rintro W ⟨hZ, hF⟩
  have HF := hid hF
  have y0 : ∀ n : Ext W, n.w.cell? ⟨w.heap.size, 0, none⟩ = some (.int .u8 op) := fun n => Ext.cell n hZ 0
  have y2 : ∀ n : Ext W, n.w.cell? ⟨w.heap.size, 2, none⟩ = some (.int .u8 r1) := fun n => Ext.cell n hZ 2
  have y3 : ∀ n : Ext W, n.w.cell? ⟨w.heap.size, 3, none⟩ = some (.int .u8 r2) := fun n => Ext.cell n hZ 3
  have y4 : ∀ n : Ext W, n.w.cell? ⟨w.heap.size, 4, none⟩ = some (.int .i64 im) := fun n => Ext.cell n hZ 4
  have y6 : ∀ n : Ext W, n.w.cell? ⟨w.heap.size, 6, none⟩ = some (.int .u8 sz) := fun n => Ext.cell n hZ 6
  have HZ := hid hZ
  clear hF hZ
  have hne := ext_ne W
  have y1 : ∀ n : Ext W, n.w.cell? ⟨w.heap.size, 1, none⟩ = some (.int .u8 rd) := fun n => Ext.cell n HZ.out 1
  have x0 := y0 ⟨W, Fr.refl _ _⟩
  have x4 := y4 ⟨W, Fr.refl _ _⟩
  have x6 := y6 ⟨W, Fr.refl _ _⟩
  simp only [Ext.w] at x0 x4 x6
  have hK := Fr.refl [] W
  clear y0 y2 y3 y4 y6 hne
  replace y1 := hid y1
  go_wp2_with (first | (go_at_call 11; (with_reducible refine (h3.out _).mono ?_); rintro e w1 ⟨rfl, hd⟩; replace hK := hK.trans hd; clear hd) | (refine wpList_load_row_g (by rfl) 27 _ (by rfl) w.heap.size (by rfl) 27 (IC (op, rd, r1, r2, im, cs, sz)) (0, 0) _ (hK.keeps HZ.out (by simp)) Try.underlying27 rfl (sizeI' _) ?_) | (go_at_call 22; (with_reducible refine (h4.out _ (HF.out.trans hK)).mono ?_); rintro e w2 ⟨rfl, hd⟩; replace hK := hK.trans hd; clear hd))
  go_ret2
  exact ⟨rfl, HF.out.trans hK⟩
set_option maxRecDepth 100000 in
set_option maxHeartbeats 4000000 in
theorem xd_no (g : Nat) (pc op rd r1 r2 im cs sz c v : Int) (s' : Nat → Int) (w : World) (p0 : 0 ≤ pc) (p1 : pc < 18446744073709551616) (b0 : 0 ≤ op ∧ op < 256) (b2 : 0 ≤ r1 ∧ r1 < 256) (b3 : 0 ≤ r2 ∧ r2 < 256) (b4 : -9223372036854775808 ≤ im) (b4b : im ≤ 9223372036854775807) (b6 : 0 ≤ sz) (b6b : sz < 256) (b1 : 0 ≤ rd ∧ rd < 256) (t1 : (op == 1) = false) (t2 : (op == 2) = false) (t3 : (op == 3) = false) (t4 : (op == 4) = false) (h3 : Hid (∀ w, Calls Try.prog 11 #[.int .u8 op] w fun e w' => e = .returned (.int .u8 c) ∧ Fr [] w w')) (t5 : (c == 3) = false) (h4 : Hid (∀ w1, Fr [] w w1 → Calls Try.prog 23 #[.pointer (some ⟨g, 0, none⟩), .agg (IC (op, rd, r1, r2, im, cs, sz))] w1 fun e w' => e = .returned (.tuple #[.int .u64 v, .bool false]) ∧ Fr [] w1 w')) :
    Calls Try.prog 9 #[.pointer (some ⟨g, 0, none⟩), .int .u64 pc, .agg (IC (op, rd, r1, r2, im, cs, sz))] w fun e w' => e = .returned (.tuple #[.int .u64 (pc), .bool false]) ∧ Fr [] w w' := by
  go_enter Try.func9, Try.ntmps9
  go_upto_region 1 with fail
  refine world_at' (fun W => W.heap[w.heap.size]? = some (.cells (IC (op, rd, r1, r2, im, cs, sz)) 27) ∧ Fr [] w W) ⟨blk_new _ _, (Fr.refl [] w).alloc _⟩ ?_
  rintro W ⟨hZ, hF⟩
  have HF := hid hF
  have y0 : ∀ n : Ext W, n.w.cell? ⟨w.heap.size, 0, none⟩ = some (.int .u8 op) := fun n => Ext.cell n hZ 0
  have y2 : ∀ n : Ext W, n.w.cell? ⟨w.heap.size, 2, none⟩ = some (.int .u8 r1) := fun n => Ext.cell n hZ 2
  have y3 : ∀ n : Ext W, n.w.cell? ⟨w.heap.size, 3, none⟩ = some (.int .u8 r2) := fun n => Ext.cell n hZ 3
  have y4 : ∀ n : Ext W, n.w.cell? ⟨w.heap.size, 4, none⟩ = some (.int .i64 im) := fun n => Ext.cell n hZ 4
  have y6 : ∀ n : Ext W, n.w.cell? ⟨w.heap.size, 6, none⟩ = some (.int .u8 sz) := fun n => Ext.cell n hZ 6
  have HZ := hid hZ
  clear hF hZ
  have hne := ext_ne W
  have y1 : ∀ n : Ext W, n.w.cell? ⟨w.heap.size, 1, none⟩ = some (.int .u8 rd) := fun n => Ext.cell n HZ.out 1
  have x0 := y0 ⟨W, Fr.refl _ _⟩
  have x4 := y4 ⟨W, Fr.refl _ _⟩
  have x6 := y6 ⟨W, Fr.refl _ _⟩
  simp only [Ext.w] at x0 x4 x6
  have hK := Fr.refl [] W
  clear y0 y2 y3 y4 y6 hne
  replace y1 := hid y1
  go_wp2_with (first | (go_at_call 11; (with_reducible refine (h3.out _).mono ?_); rintro e w1 ⟨rfl, hd⟩; replace hK := hK.trans hd; clear hd) | (refine wpList_load_row_g (by rfl) 27 _ (by rfl) w.heap.size (by rfl) 27 (IC (op, rd, r1, r2, im, cs, sz)) (0, 0) _ (hK.keeps HZ.out (by simp)) Try.underlying27 rfl (sizeI' _) ?_) | (go_at_call 23; (with_reducible refine (h4.out _ (HF.out.trans hK)).mono ?_); rintro e w2 ⟨rfl, hd⟩; replace hK := hK.trans hd; clear hd))
  go_ret2
  exact ⟨rfl, HF.out.trans hK⟩
set_option maxRecDepth 100000 in
set_option maxHeartbeats 4000000 in
theorem xd_ar (g : Nat) (pc op rd r1 r2 im cs sz c v : Int) (s' : Nat → Int) (w : World) (p0 : 0 ≤ pc) (p1 : pc < 18446744073709551616) (b0 : 0 ≤ op ∧ op < 256) (b2 : 0 ≤ r1 ∧ r1 < 256) (b3 : 0 ≤ r2 ∧ r2 < 256) (b4 : -9223372036854775808 ≤ im) (b4b : im ≤ 9223372036854775807) (b6 : 0 ≤ sz) (b6b : sz < 256) (b1 : 0 ≤ rd ∧ rd < 256) (t1 : (op == 1) = false) (t2 : (op == 2) = false) (t3 : (op == 3) = false) (t4 : (op == 4) = false) (h3 : Hid (∀ w, Calls Try.prog 11 #[.int .u8 op] w fun e w' => e = .returned (.int .u8 c) ∧ Fr [] w w')) (t5 : (c == 3) = false) (h4 : Hid (∀ w1, Fr [] w w1 → Calls Try.prog 23 #[.pointer (some ⟨g, 0, none⟩), .agg (IC (op, rd, r1, r2, im, cs, sz))] w1 fun e w' => e = .returned (.tuple #[.int .u64 v, .bool true]) ∧ Fr [] w1 w')) (h2 : Hid (∀ w1, Fr [] w w1 → Calls Try.prog 13 #[.pointer (some ⟨g, 0, none⟩), .int .u8 rd, .int .u64 (v)] w1 fun e w' => e = .returned (.tuple #[]) ∧ w'.heap[g]? = some (.cells (regC s') 24) ∧ Fr [g] w1 w')) :
    Calls Try.prog 9 #[.pointer (some ⟨g, 0, none⟩), .int .u64 pc, .agg (IC (op, rd, r1, r2, im, cs, sz))] w fun e w' => e = .returned (.tuple #[.int .u64 (IntKind.u64.wrap (pc + sz)), .bool true]) ∧ w'.heap[g]? = some (.cells (regC s') 24) ∧ Fr [g] w w' := by
  go_enter Try.func9, Try.ntmps9
  go_upto_region 1 with fail
  refine world_at' (fun W => W.heap[w.heap.size]? = some (.cells (IC (op, rd, r1, r2, im, cs, sz)) 27) ∧ Fr [] w W) ⟨blk_new _ _, (Fr.refl [] w).alloc _⟩ ?_
  rintro W ⟨hZ, hF⟩
  have HF := hid hF
  have y0 : ∀ n : Ext W, n.w.cell? ⟨w.heap.size, 0, none⟩ = some (.int .u8 op) := fun n => Ext.cell n hZ 0
  have y2 : ∀ n : Ext W, n.w.cell? ⟨w.heap.size, 2, none⟩ = some (.int .u8 r1) := fun n => Ext.cell n hZ 2
  have y3 : ∀ n : Ext W, n.w.cell? ⟨w.heap.size, 3, none⟩ = some (.int .u8 r2) := fun n => Ext.cell n hZ 3
  have y4 : ∀ n : Ext W, n.w.cell? ⟨w.heap.size, 4, none⟩ = some (.int .i64 im) := fun n => Ext.cell n hZ 4
  have y6 : ∀ n : Ext W, n.w.cell? ⟨w.heap.size, 6, none⟩ = some (.int .u8 sz) := fun n => Ext.cell n hZ 6
  have HZ := hid hZ
  clear hF hZ
  have hne := ext_ne W
  have y1 : ∀ n : Ext W, n.w.cell? ⟨w.heap.size, 1, none⟩ = some (.int .u8 rd) := fun n => Ext.cell n HZ.out 1
  have x0 := y0 ⟨W, Fr.refl _ _⟩
  have x4 := y4 ⟨W, Fr.refl _ _⟩
  have x6 := y6 ⟨W, Fr.refl _ _⟩
  simp only [Ext.w] at x0 x4 x6
  have hK := Fr.refl [] W
  clear y0 y2 y3 y4 y6 hne
  replace y1 := hid y1
  go_wp2_with (first | (go_at_call 11; (with_reducible refine (h3.out _).mono ?_); rintro e w1 ⟨rfl, hd⟩; replace hK := hK.trans hd; clear hd) | (refine wpList_load_row_g (by rfl) 27 _ (by rfl) w.heap.size (by rfl) 27 (IC (op, rd, r1, r2, im, cs, sz)) (0, 0) _ (hK.keeps HZ.out (by simp)) Try.underlying27 rfl (sizeI' _) ?_) | (go_at_call 23; (with_reducible refine (h4.out _ (HF.out.trans hK)).mono ?_); rintro e w2 ⟨rfl, hd⟩; replace hK := hK.trans hd; clear hd; have x1 : w2.cell? ⟨w.heap.size, 1, none⟩ = some (.int .u8 rd) := y1.out ⟨w2, hK⟩) | (go_at_call 13; (with_reducible refine (h2.out _ (HF.out.trans hK)).mono ?_); rintro e w3 ⟨rfl, hb, hd⟩))
  go_ret2
  exact ⟨rfl, hb, ((HF.out.trans hK).weaken (by simp)).trans hd⟩
end Go.Proofs.Ytajbfnihgonppaa.PA
