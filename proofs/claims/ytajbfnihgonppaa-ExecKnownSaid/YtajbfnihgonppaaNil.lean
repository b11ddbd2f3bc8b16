/- What arith and Do do at no registers. -/
import Derived.Test.YtajbfnihgonppaaE6
namespace Go.Proofs.Ytajbfnihgonppaa.PA
open Go.RowKit Go.Proofs.Ytajbfnihgonppaa.Plain
set_option linter.all false
set_option maxRecDepth 100000 in
set_option maxHeartbeats 4000000 in
theorem arith_nil (op rd r1 r2 im cs sz a b b' v ro : Int) (kn k : Bool) (w : World) (b0 : 0 ≤ op ∧ op < 256) (b2 : 0 ≤ r1 ∧ r1 < 256) (b3 : 0 ≤ r2 ∧ r2 < 256) (b4 : -9223372036854775808 ≤ im) (b4b : im ≤ 9223372036854775807) (b6 : 0 ≤ sz) (b6b : sz < 256) (h1 : Hid (∀ w1, Fr [] w w1 → Calls Try.prog 12 #[.pointer none, .int .u8 r1] w1 fun e w' => e = .returned (.int .u64 a) ∧ w1 = w')) (h2 : Hid (∀ w1, Fr [] w w1 → Calls Try.prog 12 #[.pointer none, .int .u8 r2] w1 fun e w' => e = .returned (.int .u64 b) ∧ w1 = w')) (h3 : Hid (∀ w, Calls Try.prog 30 #[.int .u8 op] w fun e w' => e = .returned (.tuple #[.int .u8 ro, .bool kn]) ∧ Fr [] w w')) (h4 : Hid (∀ w, Calls Try.prog 31 #[.int .u8 op, .int .u64 a, .int .u64 b'] w fun e w' => e = .returned (.tuple #[.int .u64 v, .bool k]) ∧ Fr [] w w'))
    (hp : Hid (kn = true ∧ (ro != op) = true ∧ b' = IntKind.u64.wrap im ∨ kn = true ∧ (ro != op) = false ∧ b' = b ∨ kn = false ∧ b' = b)) :
    Calls Try.prog 23 #[.pointer none, .agg (IC (op, rd, r1, r2, im, cs, sz))] w fun e w' => e = .returned (.tuple #[.int .u64 v, .bool k]) ∧ Fr [] w w' := by
  go_enter Try.func23, Try.ntmps23
  go_upto_region 1 with fail
  refine world_at' (fun W => W.heap[w.heap.size]? = some (.cells (IC (op, rd, r1, r2, im, cs, sz)) 27) ∧ Fr [] w W) ⟨blk_new _ _, (Fr.refl [] w).alloc _⟩ ?_
  rintro W ⟨hZ, hF⟩
  have HF := hid hF
  have y0 : ∀ n : Ext W, n.w.cell? ⟨w.heap.size, 0, none⟩ = some (.int .u8 op) := fun n => Ext.cell n hZ 0
  have y2 : ∀ n : Ext W, n.w.cell? ⟨w.heap.size, 2, none⟩ = some (.int .u8 r1) := fun n => Ext.cell n hZ 2
  have y3 : ∀ n : Ext W, n.w.cell? ⟨w.heap.size, 3, none⟩ = some (.int .u8 r2) := fun n => Ext.cell n hZ 3
  have y4 : ∀ n : Ext W, n.w.cell? ⟨w.heap.size, 4, none⟩ = some (.int .i64 im) := fun n => Ext.cell n hZ 4
  have y6 : ∀ n : Ext W, n.w.cell? ⟨w.heap.size, 6, none⟩ = some (.int .u8 sz) := fun n => Ext.cell n hZ 6
  have HZ := hid hZ
  clear hF hZ
  have hne := ext_ne W
  have x0 := y0 ⟨W, Fr.refl _ _⟩
  have x3 := y3 ⟨W, Fr.refl _ _⟩
  have x4 := y4 ⟨W, Fr.refl _ _⟩
  simp only [Ext.w] at x0 x3 x4
  rcases hp.out with ⟨rfl, q1, rfl⟩ | ⟨rfl, q1, rfl⟩ | ⟨rfl, rfl⟩
  all_goals
    clear hp
    go_upto_region 5 with (first | (go_at_call 12; (with_reducible refine (h2.out _ HF.out).mono ?_); rintro e w' ⟨rfl, rfl⟩) | (go_at_call 30; (with_reducible refine (h3.out _).mono ?_); rintro e w1 ⟨rfl, hd⟩; have z0 : w1.cell? ⟨w.heap.size, 0, none⟩ = some (.int .u8 op) := y0 ⟨w1, hd⟩; have z4 : w1.cell? ⟨w.heap.size, 4, none⟩ = some (.int .i64 im) := y4 ⟨w1, hd⟩))
    refine world_at' (fun W' => Fr [] W W') hd ?_
    clear x0 x3 x4 z0 z4 hd
    rintro W2 hd
    have HD := hid hd
    have u0 : ∀ n : Ext W2, n.w.cell? ⟨w.heap.size, 0, none⟩ = some (.int .u8 op) := fun n => y0 ⟨n.w, hd.trans n.fr⟩
    have u2 : ∀ n : Ext W2, n.w.cell? ⟨w.heap.size, 2, none⟩ = some (.int .u8 r1) := fun n => y2 ⟨n.w, hd.trans n.fr⟩
    clear y0 y2 y3 y4 y6 hd hne
    have hne := ext_ne W2
    have c1 : Hid (∀ n : Ext W2, Calls Try.prog 12 #[.pointer none, .int .u8 r1] n.w fun e w'' => e = .returned (.int .u64 a) ∧ ∃ m : Ext W2, w'' = m.w) := fun n => Ext.same n (h1.out _ ((HF.out.trans HD.out).trans n.fr))
    have c2 : Hid (∀ n : Ext W2, Calls Try.prog 31 #[.int .u8 op, .int .u64 a, .int .u64 _] n.w fun e w'' => e = .returned (.tuple #[.int .u64 v, .bool k]) ∧ ∃ m : Ext W2, w'' = m.w) := fun n => Ext.call n (h4.out _)
    clear h1 h2 h3 h4
    refine wp_region_ext (by kernel_rfl) (by kernel_rfl) ?_
    repeat (go_big_quiet_step (first | (go_at_call 12; with_reducible exact c1.out _) | (go_at_call 31; exact c2.out _)))
    refine wpQuiet_nil ?_
    intro w' hw'
    obtain ⟨m1, rfl⟩ := hw'
    go_wp2
    go_ret2
    exact ⟨rfl, (HF.out.trans HD.out).trans m1.fr⟩
set_option maxRecDepth 100000 in
set_option maxHeartbeats 4000000 in
theorem xd_ar_nil (pc op rd r1 r2 im cs sz c v : Int) (w : World) (p0 : 0 ≤ pc) (p1 : pc < 18446744073709551616) (b0 : 0 ≤ op ∧ op < 256) (b2 : 0 ≤ r1 ∧ r1 < 256) (b3 : 0 ≤ r2 ∧ r2 < 256) (b4 : -9223372036854775808 ≤ im) (b4b : im ≤ 9223372036854775807) (b6 : 0 ≤ sz) (b6b : sz < 256) (b1 : 0 ≤ rd ∧ rd < 256) (t1 : (op == 1) = false) (t2 : (op == 2) = false) (t3 : (op == 3) = false) (t4 : (op == 4) = false) (h3 : Hid (∀ w, Calls Try.prog 11 #[.int .u8 op] w fun e w' => e = .returned (.int .u8 c) ∧ Fr [] w w')) (t5 : (c == 3) = false) (h4 : Hid (∀ w1, Fr [] w w1 → Calls Try.prog 23 #[.pointer none, .agg (IC (op, rd, r1, r2, im, cs, sz))] w1 fun e w' => e = .returned (.tuple #[.int .u64 v, .bool true]) ∧ Fr [] w1 w')) (h2 : Hid (∀ w1, Fr [] w w1 → Calls Try.prog 13 #[.pointer none, .int .u8 rd, .int .u64 (v)] w1 fun e w' => e = .returned (.tuple #[]) ∧ w1 = w')) :
    Calls Try.prog 9 #[.pointer none, .int .u64 pc, .agg (IC (op, rd, r1, r2, im, cs, sz))] w fun e w' => e = .returned (.tuple #[.int .u64 (IntKind.u64.wrap (pc + sz)), .bool true]) ∧ Fr [] w w' := by
  go_enter Try.func9, Try.ntmps9
  go_upto_region 1 with fail
  refine world_at' (fun W => W.heap[w.heap.size]? = some (.cells (IC (op, rd, r1, r2, im, cs, sz)) 27) ∧ Fr [] w W) ⟨blk_new _ _, (Fr.refl [] w).alloc _⟩ ?_
  rintro W ⟨hZ, hF⟩
  have HF := hid hF
  have y0 : ∀ n : Ext W, n.w.cell? ⟨w.heap.size, 0, none⟩ = some (.int .u8 op) := fun n => Ext.cell n hZ 0
  have y2 : ∀ n : Ext W, n.w.cell? ⟨w.heap.size, 2, none⟩ = some (.int .u8 r1) := fun n => Ext.cell n hZ 2
  have y3 : ∀ n : Ext W, n.w.cell? ⟨w.heap.size, 3, none⟩ = some (.int .u8 r2) := fun n => Ext.cell n hZ 3
  have y4 : ∀ n : Ext W, n.w.cell? ⟨w.heap.size, 4, none⟩ = some (.int .i64 im) := fun n => Ext.cell n hZ 4
  have y6 : ∀ n : Ext W, n.w.cell? ⟨w.heap.size, 6, none⟩ = some (.int .u8 sz) := fun n => Ext.cell n hZ 6
  have HZ := hid hZ
  clear hF hZ
  have hne := ext_ne W
  have y1 : ∀ n : Ext W, n.w.cell? ⟨w.heap.size, 1, none⟩ = some (.int .u8 rd) := fun n => Ext.cell n HZ.out 1
  have x0 := y0 ⟨W, Fr.refl _ _⟩
  have x4 := y4 ⟨W, Fr.refl _ _⟩
  have x6 := y6 ⟨W, Fr.refl _ _⟩
  simp only [Ext.w] at x0 x4 x6
  have hK := Fr.refl [] W
  clear y0 y2 y3 y4 y6 hne
  replace y1 := hid y1
  go_wp2_with (first | (go_at_call 11; (with_reducible refine (h3.out _).mono ?_); rintro e w1 ⟨rfl, hd⟩; replace hK := hK.trans hd; clear hd) | (refine wpList_load_row_g (by rfl) 27 _ (by rfl) w.heap.size (by rfl) 27 (IC (op, rd, r1, r2, im, cs, sz)) (0, 0) _ (hK.keeps HZ.out (by simp)) Try.underlying27 rfl (sizeI' _) ?_) | (go_at_call 23; (with_reducible refine (h4.out _ (HF.out.trans hK)).mono ?_); rintro e w2 ⟨rfl, hd⟩; replace hK := hK.trans hd; clear hd; have x1 : w2.cell? ⟨w.heap.size, 1, none⟩ = some (.int .u8 rd) := y1.out ⟨w2, hK⟩) | (go_at_call 13; (with_reducible refine (h2.out _ (HF.out.trans hK)).mono ?_); rintro e w3 ⟨rfl, rfl⟩))
  go_ret2
  exact ⟨rfl, HF.out.trans hK⟩

theorem nil_lit : valT 22 0 5 = (5, true) ∧ regT 22 = (31, true) ∧ classT 22 = 0 := by decide +kernel
theorem do_nil (w : World) : Calls Try.prog 9 #[.pointer none, .int .u64 4, .agg #[.int .u8 22, .int .u8 1, .int .u8 0, .int .u8 0, .int .i64 5, .int .u16 0, .int .u8 4]] w fun e w' => e = .returned (.tuple #[.int .u64 8, .bool true]) ∧ Fr [] w w' := by
  have h := xd_ar_nil 4 22 1 0 0 5 0 4 0 5 w (by decide) (by decide) (by decide) (by decide) (by decide) (by decide) (by decide) (by decide) (by decide) (by decide) rfl rfl rfl rfl
    (hid fun w => by have := c_class (op := 22) (by decide) w; rw [nil_lit.2.2] at this; exact this) rfl
    (hid fun w1 _ => arith_nil 22 1 0 0 5 0 4 0 0 5 5 31 true true w1 (by decide) (by decide) (by decide) (by decide) (by decide) (by decide) (by decide)
      (hid fun w2 _ => get_nil 0 w2) (hid fun w2 _ => get_nil 0 w2)
      (hid fun w => by have := c_reg (op := 22) (by decide) w; rw [nil_lit.2.1] at this; exact this)
      (hid fun w => by have := c_do (op := 22) (a := 0) (b := 5) (by decide) (by unfold N64; omega) (by unfold N64; omega) w; rw [nil_lit.1] at this; exact this)
      (hid (.inl ⟨rfl, rfl, rfl⟩)))
    (hid fun w1 _ => set_nil 1 5 w1)
  exact h
end Go.Proofs.Ytajbfnihgonppaa.PA
