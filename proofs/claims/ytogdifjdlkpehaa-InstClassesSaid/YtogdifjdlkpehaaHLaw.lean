/- Contracts of what the statements ask of parcels: is, illegal, awake, on the ways on which they answer yes. -/
import Derived.Test.YtogdifjdlkpehaaHDec
import Derived.Test.YtogdifjdlkpehaaHChk
import Derived.Test.YtogdifjdlkpehaaHWidth
import Derived.Test.YtogdifjdlkpehaaK3
import Derived.Deep.Cut
import Derived.BigGuard
namespace Go.Proofs.Ytogdifjdlkpehaa.PA
open Go.RowKit Go.Proofs.YtogdifjdlkpehaaW.PrintWords Go.Proofs.YtogdifjdlkpehaaW.PrintLast Go.Proofs.YtogdifjdlkpehaaW.PrintMore
set_option linter.all false
theorem eqg_IC (op : BinOp) (A B : Operand) (x y : T7) (w : World) : (eqGuard op 25 A B (.agg (IC x)) (.agg (IC y))).run Try.prog w = .ok () w := by
  unfold IC
  go_simp
theorem eql_IC (x y : T7) (w : World) : (binOp .eql 25 (.agg (IC x)) (.agg (IC y))).run Try.prog w = .ok (.bool (decide (x = y))) w := by
  unfold IC
  go_simp
  obtain ⟨x0, x1, x2, x3, x4, x5, x6⟩ := x
  obtain ⟨y0, y1, y2, y3, y4, y5, y6⟩ := y
  simp only [Prod.mk.injEq]
  repeat' split
  all_goals simp [*]
theorem eql_same (x : T7) (w : World) : (binOp .eql 25 (.agg (IC x)) (.agg (IC x))).run Try.prog w = .ok (.bool true) w := by
  rw [eql_IC]; simp
attribute [local go_sem ↓] eqg_IC eql_same eql_IC
set_option maxRecDepth 100000 in
set_option maxHeartbeats 4000000 in
theorem is_yes (p op rd r1 r2 im cs sz : Int) (w : World) (h1 : Hid (∀ w, Calls Try.prog 9 #[.int .u32 p] w fun e w' => e = .returned (.agg (IC (op, rd, r1, r2, im, cs, 4))) ∧ Fr [] w w')) (h2 : Hid (∀ w, Calls Try.prog 12 #[.agg (IC (op, rd, r1, r2, im, cs, 4))] w fun e w' => e = .returned (.int .i64 0) ∧ Fr [] w w')) :
    Calls Try.prog 14 #[.int .u32 p, .agg #[.int .u8 op, .int .u8 rd, .int .u8 r1, .int .u8 r2, .int .i64 im, .int .u16 cs, .int .u8 sz]] w fun e w' => e = .returned (.bool true) ∧ Fr [] w w' := by
  go_enter Try.func14, Try.ntmps14
  go_upto_region 2 with fail
  refine world_atF (fun W => W.heap[w.heap.size]? = some (.cells (IC (op, rd, r1, r2, im, cs, 4)) 25) ∧ Fr [] w W) ⟨blk_new _ _, (Fr.refl [] w).alloc _⟩ ?_
  rintro W ⟨hZ, hF⟩
  have HF := hid hF
  have HZ := hid hZ
  clear hF hZ
  have hne := ext_ne W
  generalize (op, rd, r1, r2, im, cs, (4 : Int)) = X at *
  have c1 : Hid (∀ n : Ext W, Calls Try.prog 9 #[.int .u32 p] n.w fun e w'' => e = .returned (.agg (IC X)) ∧ ∃ m : Ext W, w'' = m.w) := fun n => Ext.call n (h1.out _)
  have c2 : Hid (∀ n : Ext W, Calls Try.prog 12 #[.agg (IC X)] n.w fun e w'' => e = .returned (.int .i64 0) ∧ ∃ m : Ext W, w'' = m.w) := fun n => Ext.call n (h2.out _)
  clear h1 h2
  refine wp_region_ext (by kernel_rfl) (by kernel_rfl) ?_
  repeat (first | (go_big_quiet_want; refine quiet_row 25 _ rfl w.heap.size rfl 25 (IC X) (0, 0) _ (fun w' hw' => by obtain ⟨n, rfl⟩ := hw'; exact n.blk HZ.out) Try.underlying25 rfl (sizeI' _) ?_; go_simp; go_big_quiet_on) | go_big_quiet_step (first | (go_at_call 9; exact c1.out _) | (go_at_call 12; exact c2.out _)))
  refine wpQuiet_nil ?_
  intro w' hw'
  obtain ⟨m1, rfl⟩ := hw'
  go_wp2
  go_ret
  exact ⟨rfl, HF.out.trans m1.fr⟩
theorem ic_lit (a b c d e f g : Int) : (.agg (IC (a, b, c, d, e, f, g)) : Value) = .agg #[.int .u8 a, .int .u8 b, .int .u8 c, .int .u8 d, .int .i64 e, .int .u16 f, .int .u8 g] := rfl
set_option maxRecDepth 100000 in
set_option maxHeartbeats 4000000 in
theorem illegal_w (p : Int) (w : World) (hp : 0 ≤ p ∧ p < 4294967296) (h1 : Hid (∀ w, Calls Try.prog 9 #[.int .u32 p] w fun e w' => e = .returned (.agg #[.int .u8 0, .int .u8 0, .int .u8 0, .int .u8 0, .int .i64 p, .int .u16 0, .int .u8 4]) ∧ Fr [] w w')) :
    Calls Try.prog 15 #[.int .u32 p] w fun e w' => e = .returned (.bool true) ∧ Fr [] w w' := by
  obtain ⟨p0, p1⟩ := hp
  go_enter Try.func15, Try.ntmps15
  go_wp2_with (go_at_call 9; (with_reducible refine (h1.out _).mono ?_); rintro e w1 ⟨rfl, hd⟩)
  go_ret
  exact ⟨rfl, hd⟩
theorem illegal_yes {p : Int} (hp : P32 p) (h : decT p = ill p) (w : World) : Calls Try.prog 15 #[.int .u32 p] w fun e w' => e = .returned (.bool true) ∧ Fr [] w w' :=
  illegal_w p w hp (hid fun w => by have := dec_any hp w; rw [h] at this; exact this)
theorem is_lit (p op rd r1 r2 im cs : Int) (hp : P32 p) (ho : 0 ≤ op ∧ op < 256) (h : decT p = (op, rd, r1, r2, im, cs, 4)) (hc : chkT (op, rd, r1, r2, im, cs, 4) = 0) (w : World) :
    Calls Try.prog 14 #[.int .u32 p, .agg #[.int .u8 op, .int .u8 rd, .int .u8 r1, .int .u8 r2, .int .i64 im, .int .u16 cs, .int .u8 0]] w fun e w' => e = .returned (.bool true) ∧ Fr [] w w' :=
  is_yes p op rd r1 r2 im cs 0 w (hid fun w => by have := dec_any hp w; rw [h] at this; exact this) (hid fun w => by have := chk_any (x := (op, rd, r1, r2, im, cs, 4)) ho w; rw [hc] at this; exact this)
set_option maxRecDepth 100000 in
set_option maxHeartbeats 4000000 in
theorem awake_w (w : World) (h1 : Hid (∀ w, Calls Try.prog 14 #[.int .u32 5243027, .agg #[.int .u8 22, .int .u8 1, .int .u8 0, .int .u8 0, .int .i64 5, .int .u16 0, .int .u8 0]] w fun e w' => e = .returned (.bool true) ∧ Fr [] w w'))
    (h2 : Hid (∀ w, Calls Try.prog 14 #[.int .u32 4263550691, .agg #[.int .u8 6, .int .u8 0, .int .u8 1, .int .u8 2, .int .i64 (-4), .int .u16 0, .int .u8 0]] w fun e w' => e = .returned (.bool true) ∧ Fr [] w w')) (h3 : Hid (∀ w, Calls Try.prog 15 #[.int .u32 0] w fun e w' => e = .returned (.bool true) ∧ Fr [] w w'))
    (h4 : Hid (∀ w, Calls Try.prog 16 #[.int .u8 81] w fun e w' => e = .returned (.int .u8 5) ∧ Fr [] w w')) (h5 : Hid (∀ w, Calls Try.prog 17 #[.int .u8 16] w fun e w' => e = .returned (.int .i64 2) ∧ Fr [] w w')) : Calls Try.prog 11 #[] w fun e w' => e = .returned (.bool true) ∧ Fr [] w w' := by
  go_enter Try.func11, Try.ntmps11
  go_wp2_with (first | (go_at_call 14; (with_reducible refine (h1.out _).mono ?_); rintro e w1 ⟨rfl, hd1⟩) | (go_at_call 14; (with_reducible refine (h2.out _).mono ?_); rintro e w2 ⟨rfl, hd2⟩) | (go_at_call 15; (with_reducible refine (h3.out _).mono ?_); rintro e w3 ⟨rfl, hd3⟩) | (go_at_call 16; (with_reducible refine (h4.out _).mono ?_); rintro e w4 ⟨rfl, hd4⟩) | (go_at_call 17; (with_reducible refine (h5.out _).mono ?_); rintro e w5 ⟨rfl, hd5⟩))
  go_ret
  exact ⟨rfl, (((hd1.trans hd2).trans hd3).trans hd4).trans hd5⟩
theorem awake_any (w : World) : Calls Try.prog 11 #[] w fun e w' => e = .returned (.bool true) ∧ Fr [] w w' :=
  awake_w w (hid fun w => is_lit 5243027 22 1 0 0 5 0 (by unfold P32; omega) (by omega) (by decide +kernel) (by decide +kernel) w)
    (hid fun w => is_lit 4263550691 6 0 1 2 (-4) 0 (by unfold P32; omega) (by omega) (by decide +kernel) (by decide +kernel) w)
    (hid fun w => illegal_yes (p := 0) (by unfold P32; omega) (by decide +kernel) w)
    (hid fun w => (c_class (op := 81) (by omega) w).mono fun _ _ ⟨h1, n, h2⟩ => ⟨h1, by subst h2; exact (Fr.refl _ _).drewN n⟩)
    (hid fun w => (inst_Width.calls 16 2 w (by decide +kernel)).mono fun _ _ ⟨h1, h2⟩ => ⟨h1, fr_of_below h2⟩)
end Go.Proofs.Ytogdifjdlkpehaa.PA
