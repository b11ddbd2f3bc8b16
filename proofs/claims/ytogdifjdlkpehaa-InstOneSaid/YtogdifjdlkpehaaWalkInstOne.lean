/- The law InstOne: its walk. -/
import Derived.Test.YtogdifjdlkpehaaHLaw
import Derived.Test.YtogdifjdlkpehaaImg
import Derived.Test.YtogdifjdlkpehaaK3
namespace Go.Proofs.Ytogdifjdlkpehaa.PA
open Go.RowKit
set_option linter.all false
theorem fr_cell {w w' : World} (h : Fr [] w w') {a : Addr} {v : Value} (hc : w.cell? a = some v) : w'.cell? a = some v := Ext.same_cell ⟨w', h⟩ hc
set_option maxRecDepth 100000 in
set_option maxHeartbeats 4000000 in
theorem one_nil (p  : Int) (w : World) (h1 : Hid (∀ w, Calls Try.prog 9 #[.int .u32 p] w fun e w' => e = .returned (.agg (IC (0, 0, 0, 0, p, 0, 4))) ∧ Fr [] w w')) (h4 : Hid (∀ w, Calls Try.prog 16 #[.int .u8 0] w fun e w' => e = .returned (.int .u8 8) ∧ Fr [] w w')) (h5 : Hid (∀ w, Calls Try.prog 15 #[.int .u32 p] w fun e w' => e = .returned (.bool true) ∧ Fr [] w w')) (h6 : Hid (∀ w, Calls Try.prog 12 #[.agg (IC (0, 0, 0, 0, p, 0, 4))] w fun e w' => e = .returned (.int .i64 3) ∧ Fr [] w w')) (h7 : Hid (∀ w, Calls Try.prog 11 #[] w fun e w' => e = .returned (.bool true) ∧ Fr [] w w'))  : Calls Try.prog 6 #[.int .u32 p] w fun e w' => e = .returned (.bool true) ∧ Fr [] w w' := by
  go_enter Try.func6, Try.ntmps6
  go_upto_region 2 with (first | (go_at_call 9; (with_reducible refine (h1.out _).mono ?_); rintro e w1 ⟨rfl, hd1⟩) | (refine wpList_store_whole rfl 25 _ _ rfl w1.heap.size rfl (IC (0, 0, 0, 0, p, 0, 4)) rfl 25 _ (blk_new _ _) rfl (sizeI' _) (IC_one _) ?_; intro w2 hB hfr2))
  refine world_atF (fun W => W.heap[w1.heap.size]? = some (.cells (IC (0, 0, 0, 0, p, 0, 4)) 25) ∧ Fr [] w W) ⟨hB, (hd1.alloc _).step hfr2 (fun j hj => .inr (by rw [List.mem_singleton.1 hj]; exact hd1.size))⟩ ?_
  clear hB hfr2
  rintro W ⟨hB, hF⟩
  generalize w1.heap.size = A at *
  clear hd1
  have HF := hid hF
  have HB := hid hB
  have x0 : W.cell? ⟨A, 0, none⟩ = some (.int .u8 (0)) := by rw [blk_cell hB]; rfl
  have x1 : W.cell? ⟨A, 1, none⟩ = some (.int .u8 (0)) := by rw [blk_cell hB]; rfl
  have x2 : W.cell? ⟨A, 2, none⟩ = some (.int .u8 (0)) := by rw [blk_cell hB]; rfl
  have x3 : W.cell? ⟨A, 3, none⟩ = some (.int .u8 (0)) := by rw [blk_cell hB]; rfl
  have x4 : W.cell? ⟨A, 4, none⟩ = some (.int .i64 (p)) := by rw [blk_cell hB]; rfl
  have x5 : W.cell? ⟨A, 5, none⟩ = some (.int .u16 (0)) := by rw [blk_cell hB]; rfl
  have x6 : W.cell? ⟨A, 6, none⟩ = some (.int .u8 (4)) := by rw [blk_cell hB]; rfl
  clear hB hF
  (try simp only [Act.put, List.setIfInBounds_toArray, List.set_cons_zero, List.set_cons_succ])
  go_wp2_with (first | ((go_at_call 16; (with_reducible refine (h4.out _).mono ?_); rintro e w4 ⟨rfl, hd4⟩; have x0 := fr_cell hd4 x0)) | (go_at_call 15; (with_reducible refine (h5.out _).mono ?_); rintro e w5 ⟨rfl, hd5⟩) | (go_at_call 12; (with_reducible refine (h6.out _).mono ?_); rintro e w6 ⟨rfl, hd6⟩) | (go_at_call 11; (with_reducible refine (h7.out _).mono ?_); rintro e w7 ⟨rfl, hd7⟩) | (refine wpList_load_row_g (by rfl) 25 _ (by rfl) A (by rfl) 25 (IC (0, 0, 0, 0, p, 0, 4)) (0, 0) _ (hd5.keeps (hd4.keeps HB.out (by simp)) (by simp)) Try.underlying25 rfl (sizeI' _) ?_))
  go_ret
  exact ⟨rfl, (((HF.out.trans hd4).trans hd5).trans hd6).trans hd7⟩
set_option maxRecDepth 100000 in
set_option maxHeartbeats 4000000 in
theorem one_b (p op rd r1 r2 im cs : Int) (w : World) (h1 : Hid (∀ w, Calls Try.prog 9 #[.int .u32 p] w fun e w' => e = .returned (.agg (IC (op, rd, r1, r2, im, cs, 4))) ∧ Fr [] w w')) (h4 : Hid (∀ w, Calls Try.prog 16 #[.int .u8 op] w fun e w' => e = .returned (.int .u8 3) ∧ Fr [] w w')) (h6 : Hid (∀ w, Calls Try.prog 12 #[.agg (IC (op, rd, r1, r2, im, cs, 4))] w fun e w' => e = .returned (.int .i64 0) ∧ Fr [] w w')) (h7 : Hid (∀ w, Calls Try.prog 11 #[] w fun e w' => e = .returned (.bool true) ∧ Fr [] w w')) (q0 : decide (99 ≤ op) = false) (q1 : decide (31 < rd) = false) (q2 : decide (31 < r1) = false) (q3 : decide (31 < r2) = false) (q4 : decide (4095 < cs) = false) (q5 : (op == 0) = false) (q6 : (p % 4 == 3) = true) (q7 : decide (-2147483648 ≤ im) = true) (q8 : decide (im < 2147483648) = true) (q9 : 0 ≤ p) (q10 : (im.tmod 2 == 0) = true) : Calls Try.prog 6 #[.int .u32 p] w fun e w' => e = .returned (.bool true) ∧ Fr [] w w' := by
  go_enter Try.func6, Try.ntmps6
  go_upto_region 2 with (first | (go_at_call 9; (with_reducible refine (h1.out _).mono ?_); rintro e w1 ⟨rfl, hd1⟩) | (refine wpList_store_whole rfl 25 _ _ rfl w1.heap.size rfl (IC (op, rd, r1, r2, im, cs, 4)) rfl 25 _ (blk_new _ _) rfl (sizeI' _) (IC_one _) ?_; intro w2 hB hfr2))
  refine world_atF (fun W => W.heap[w1.heap.size]? = some (.cells (IC (op, rd, r1, r2, im, cs, 4)) 25) ∧ Fr [] w W) ⟨hB, (hd1.alloc _).step hfr2 (fun j hj => .inr (by rw [List.mem_singleton.1 hj]; exact hd1.size))⟩ ?_
  clear hB hfr2
  rintro W ⟨hB, hF⟩
  generalize w1.heap.size = A at *
  clear hd1
  have HF := hid hF
  have HB := hid hB
  have x0 : W.cell? ⟨A, 0, none⟩ = some (.int .u8 (op)) := by rw [blk_cell hB]; rfl
  have x1 : W.cell? ⟨A, 1, none⟩ = some (.int .u8 (rd)) := by rw [blk_cell hB]; rfl
  have x2 : W.cell? ⟨A, 2, none⟩ = some (.int .u8 (r1)) := by rw [blk_cell hB]; rfl
  have x3 : W.cell? ⟨A, 3, none⟩ = some (.int .u8 (r2)) := by rw [blk_cell hB]; rfl
  have x4 : W.cell? ⟨A, 4, none⟩ = some (.int .i64 (im)) := by rw [blk_cell hB]; rfl
  have x5 : W.cell? ⟨A, 5, none⟩ = some (.int .u16 (cs)) := by rw [blk_cell hB]; rfl
  have x6 : W.cell? ⟨A, 6, none⟩ = some (.int .u8 (4)) := by rw [blk_cell hB]; rfl
  clear hB hF
  (try simp only [Act.put, List.setIfInBounds_toArray, List.set_cons_zero, List.set_cons_succ])
  go_upto_region 5 with (go_at_call 16; (with_reducible refine (h4.out _).mono ?_); rintro e w4 ⟨rfl, hd4⟩)
  refine world_atF (fun W' => W'.heap[A]? = some (.cells (IC (op, rd, r1, r2, im, cs, 4)) 25) ∧ Fr [] w W') ⟨hd4.keeps HB.out (by simp), HF.out.trans hd4⟩ ?_
  clear x0 x1 x2 x3 x4 x5 x6 hd4 HF HB
  rintro W4 ⟨hB, hF⟩
  have HF := hid hF
  have HB := hid hB
  have x0 : W4.cell? ⟨A, 0, none⟩ = some (.int .u8 (op)) := by rw [blk_cell hB]; rfl
  have x1 : W4.cell? ⟨A, 1, none⟩ = some (.int .u8 (rd)) := by rw [blk_cell hB]; rfl
  have x2 : W4.cell? ⟨A, 2, none⟩ = some (.int .u8 (r1)) := by rw [blk_cell hB]; rfl
  have x3 : W4.cell? ⟨A, 3, none⟩ = some (.int .u8 (r2)) := by rw [blk_cell hB]; rfl
  have x4 : W4.cell? ⟨A, 4, none⟩ = some (.int .i64 (im)) := by rw [blk_cell hB]; rfl
  have x5 : W4.cell? ⟨A, 5, none⟩ = some (.int .u16 (cs)) := by rw [blk_cell hB]; rfl
  have x6 : W4.cell? ⟨A, 6, none⟩ = some (.int .u8 (4)) := by rw [blk_cell hB]; rfl
  clear hB hF
  go_upto_region 8 with fail
  go_wp2_with (first | (refine wpList_load_row_g (by rfl) 25 _ (by rfl) A (by rfl) 25 (IC (op, rd, r1, r2, im, cs, 4)) (0, 0) _ HB.out Try.underlying25 rfl (sizeI' _) ?_) | ((go_at_call 12; (with_reducible refine (h6.out _).mono ?_); rintro e w6 ⟨rfl, hd6⟩; have x4 := fr_cell hd6 x4)) | (go_at_call 11; (with_reducible refine (h7.out _).mono ?_); rintro e w7 ⟨rfl, hd7⟩))
  go_ret
  exact ⟨rfl, ((HF.out.trans hd6).trans hd7)⟩
set_option maxRecDepth 100000 in
set_option maxHeartbeats 4000000 in
theorem one_j (p rd r1 r2 im cs c : Int) (w : World) (h1 : Hid (∀ w, Calls Try.prog 9 #[.int .u32 p] w fun e w' => e = .returned (.agg (IC (3, rd, r1, r2, im, cs, 4))) ∧ Fr [] w w')) (h4 : Hid (∀ w, Calls Try.prog 16 #[.int .u8 3] w fun e w' => e = .returned (.int .u8 c) ∧ Fr [] w w')) (h6 : Hid (∀ w, Calls Try.prog 12 #[.agg (IC (3, rd, r1, r2, im, cs, 4))] w fun e w' => e = .returned (.int .i64 0) ∧ Fr [] w w')) (h7 : Hid (∀ w, Calls Try.prog 11 #[] w fun e w' => e = .returned (.bool true) ∧ Fr [] w w')) (q1 : decide (31 < rd) = false) (q2 : decide (31 < r1) = false) (q3 : decide (31 < r2) = false) (q4 : decide (4095 < cs) = false) (q6 : (p % 4 == 3) = true) (q7 : decide (-2147483648 ≤ im) = true) (q8 : decide (im < 2147483648) = true) (q9 : 0 ≤ p) (q11 : (c == 3) = false) (q12 : (c != 8) = true) (q10 : (im.tmod 2 == 0) = true) : Calls Try.prog 6 #[.int .u32 p] w fun e w' => e = .returned (.bool true) ∧ Fr [] w w' := by
  go_enter Try.func6, Try.ntmps6
  go_upto_region 2 with (first | (go_at_call 9; (with_reducible refine (h1.out _).mono ?_); rintro e w1 ⟨rfl, hd1⟩) | (refine wpList_store_whole rfl 25 _ _ rfl w1.heap.size rfl (IC (3, rd, r1, r2, im, cs, 4)) rfl 25 _ (blk_new _ _) rfl (sizeI' _) (IC_one _) ?_; intro w2 hB hfr2))
  refine world_atF (fun W => W.heap[w1.heap.size]? = some (.cells (IC (3, rd, r1, r2, im, cs, 4)) 25) ∧ Fr [] w W) ⟨hB, (hd1.alloc _).step hfr2 (fun j hj => .inr (by rw [List.mem_singleton.1 hj]; exact hd1.size))⟩ ?_
  clear hB hfr2
  rintro W ⟨hB, hF⟩
  generalize w1.heap.size = A at *
  clear hd1
  have HF := hid hF
  have HB := hid hB
  have x0 : W.cell? ⟨A, 0, none⟩ = some (.int .u8 (3)) := by rw [blk_cell hB]; rfl
  have x1 : W.cell? ⟨A, 1, none⟩ = some (.int .u8 (rd)) := by rw [blk_cell hB]; rfl
  have x2 : W.cell? ⟨A, 2, none⟩ = some (.int .u8 (r1)) := by rw [blk_cell hB]; rfl
  have x3 : W.cell? ⟨A, 3, none⟩ = some (.int .u8 (r2)) := by rw [blk_cell hB]; rfl
  have x4 : W.cell? ⟨A, 4, none⟩ = some (.int .i64 (im)) := by rw [blk_cell hB]; rfl
  have x5 : W.cell? ⟨A, 5, none⟩ = some (.int .u16 (cs)) := by rw [blk_cell hB]; rfl
  have x6 : W.cell? ⟨A, 6, none⟩ = some (.int .u8 (4)) := by rw [blk_cell hB]; rfl
  clear hB hF
  (try simp only [Act.put, List.setIfInBounds_toArray, List.set_cons_zero, List.set_cons_succ])
  go_upto_region 5 with (go_at_call 16; (with_reducible refine (h4.out _).mono ?_); rintro e w4 ⟨rfl, hd4⟩)
  refine world_atF (fun W' => W'.heap[A]? = some (.cells (IC (3, rd, r1, r2, im, cs, 4)) 25) ∧ Fr [] w W') ⟨hd4.keeps HB.out (by simp), HF.out.trans hd4⟩ ?_
  clear x0 x1 x2 x3 x4 x5 x6 hd4 HF HB
  rintro W4 ⟨hB, hF⟩
  have HF := hid hF
  have HB := hid hB
  have x0 : W4.cell? ⟨A, 0, none⟩ = some (.int .u8 (3)) := by rw [blk_cell hB]; rfl
  have x1 : W4.cell? ⟨A, 1, none⟩ = some (.int .u8 (rd)) := by rw [blk_cell hB]; rfl
  have x2 : W4.cell? ⟨A, 2, none⟩ = some (.int .u8 (r1)) := by rw [blk_cell hB]; rfl
  have x3 : W4.cell? ⟨A, 3, none⟩ = some (.int .u8 (r2)) := by rw [blk_cell hB]; rfl
  have x4 : W4.cell? ⟨A, 4, none⟩ = some (.int .i64 (im)) := by rw [blk_cell hB]; rfl
  have x5 : W4.cell? ⟨A, 5, none⟩ = some (.int .u16 (cs)) := by rw [blk_cell hB]; rfl
  have x6 : W4.cell? ⟨A, 6, none⟩ = some (.int .u8 (4)) := by rw [blk_cell hB]; rfl
  clear hB hF
  go_upto_region 8 with fail
  go_wp2_with (first | (refine wpList_load_row_g (by rfl) 25 _ (by rfl) A (by rfl) 25 (IC (3, rd, r1, r2, im, cs, 4)) (0, 0) _ HB.out Try.underlying25 rfl (sizeI' _) ?_) | ((go_at_call 12; (with_reducible refine (h6.out _).mono ?_); rintro e w6 ⟨rfl, hd6⟩; have x4 := fr_cell hd6 x4)) | (go_at_call 11; (with_reducible refine (h7.out _).mono ?_); rintro e w7 ⟨rfl, hd7⟩))
  go_ret
  exact ⟨rfl, ((HF.out.trans hd6).trans hd7)⟩
set_option maxRecDepth 100000 in
set_option maxHeartbeats 4000000 in
theorem one_o (p op rd r1 r2 im cs c : Int) (w : World) (h1 : Hid (∀ w, Calls Try.prog 9 #[.int .u32 p] w fun e w' => e = .returned (.agg (IC (op, rd, r1, r2, im, cs, 4))) ∧ Fr [] w w')) (h4 : Hid (∀ w, Calls Try.prog 16 #[.int .u8 op] w fun e w' => e = .returned (.int .u8 c) ∧ Fr [] w w')) (h6 : Hid (∀ w, Calls Try.prog 12 #[.agg (IC (op, rd, r1, r2, im, cs, 4))] w fun e w' => e = .returned (.int .i64 0) ∧ Fr [] w w')) (h7 : Hid (∀ w, Calls Try.prog 11 #[] w fun e w' => e = .returned (.bool true) ∧ Fr [] w w')) (q0 : decide (99 ≤ op) = false) (q1 : decide (31 < rd) = false) (q2 : decide (31 < r1) = false) (q3 : decide (31 < r2) = false) (q4 : decide (4095 < cs) = false) (q5 : (op == 0) = false) (q6 : (p % 4 == 3) = true) (q7 : decide (-2147483648 ≤ im) = true) (q8 : decide (im < 2147483648) = true) (q9 : 0 ≤ p) (q11 : (c == 3) = false) (q12 : (c != 8) = true) (q13 : (op == 3) = false) : Calls Try.prog 6 #[.int .u32 p] w fun e w' => e = .returned (.bool true) ∧ Fr [] w w' := by
  go_enter Try.func6, Try.ntmps6
  go_upto_region 2 with (first | (go_at_call 9; (with_reducible refine (h1.out _).mono ?_); rintro e w1 ⟨rfl, hd1⟩) | (refine wpList_store_whole rfl 25 _ _ rfl w1.heap.size rfl (IC (op, rd, r1, r2, im, cs, 4)) rfl 25 _ (blk_new _ _) rfl (sizeI' _) (IC_one _) ?_; intro w2 hB hfr2))
  refine world_atF (fun W => W.heap[w1.heap.size]? = some (.cells (IC (op, rd, r1, r2, im, cs, 4)) 25) ∧ Fr [] w W) ⟨hB, (hd1.alloc _).step hfr2 (fun j hj => .inr (by rw [List.mem_singleton.1 hj]; exact hd1.size))⟩ ?_
  clear hB hfr2
  rintro W ⟨hB, hF⟩
  generalize w1.heap.size = A at *
  clear hd1
  have HF := hid hF
  have HB := hid hB
  have x0 : W.cell? ⟨A, 0, none⟩ = some (.int .u8 (op)) := by rw [blk_cell hB]; rfl
  have x1 : W.cell? ⟨A, 1, none⟩ = some (.int .u8 (rd)) := by rw [blk_cell hB]; rfl
  have x2 : W.cell? ⟨A, 2, none⟩ = some (.int .u8 (r1)) := by rw [blk_cell hB]; rfl
  have x3 : W.cell? ⟨A, 3, none⟩ = some (.int .u8 (r2)) := by rw [blk_cell hB]; rfl
  have x4 : W.cell? ⟨A, 4, none⟩ = some (.int .i64 (im)) := by rw [blk_cell hB]; rfl
  have x5 : W.cell? ⟨A, 5, none⟩ = some (.int .u16 (cs)) := by rw [blk_cell hB]; rfl
  have x6 : W.cell? ⟨A, 6, none⟩ = some (.int .u8 (4)) := by rw [blk_cell hB]; rfl
  clear hB hF
  (try simp only [Act.put, List.setIfInBounds_toArray, List.set_cons_zero, List.set_cons_succ])
  go_upto_region 5 with (go_at_call 16; (with_reducible refine (h4.out _).mono ?_); rintro e w4 ⟨rfl, hd4⟩)
  refine world_atF (fun W' => W'.heap[A]? = some (.cells (IC (op, rd, r1, r2, im, cs, 4)) 25) ∧ Fr [] w W') ⟨hd4.keeps HB.out (by simp), HF.out.trans hd4⟩ ?_
  clear x0 x1 x2 x3 x4 x5 x6 hd4 HF HB
  rintro W4 ⟨hB, hF⟩
  have HF := hid hF
  have HB := hid hB
  have x0 : W4.cell? ⟨A, 0, none⟩ = some (.int .u8 (op)) := by rw [blk_cell hB]; rfl
  have x1 : W4.cell? ⟨A, 1, none⟩ = some (.int .u8 (rd)) := by rw [blk_cell hB]; rfl
  have x2 : W4.cell? ⟨A, 2, none⟩ = some (.int .u8 (r1)) := by rw [blk_cell hB]; rfl
  have x3 : W4.cell? ⟨A, 3, none⟩ = some (.int .u8 (r2)) := by rw [blk_cell hB]; rfl
  have x4 : W4.cell? ⟨A, 4, none⟩ = some (.int .i64 (im)) := by rw [blk_cell hB]; rfl
  have x5 : W4.cell? ⟨A, 5, none⟩ = some (.int .u16 (cs)) := by rw [blk_cell hB]; rfl
  have x6 : W4.cell? ⟨A, 6, none⟩ = some (.int .u8 (4)) := by rw [blk_cell hB]; rfl
  clear hB hF
  go_upto_region 8 with fail
  go_wp2_with (first | (refine wpList_load_row_g (by rfl) 25 _ (by rfl) A (by rfl) 25 (IC (op, rd, r1, r2, im, cs, 4)) (0, 0) _ HB.out Try.underlying25 rfl (sizeI' _) ?_) | ((go_at_call 12; (with_reducible refine (h6.out _).mono ?_); rintro e w6 ⟨rfl, hd6⟩; have x4 := fr_cell hd6 x4)) | (go_at_call 11; (with_reducible refine (h7.out _).mono ?_); rintro e w7 ⟨rfl, hd7⟩))
  go_ret
  exact ⟨rfl, ((HF.out.trans hd6).trans hd7)⟩
theorem one_tab : ∀ r ∈ rowsL, r.1 ≠ 0 ∧ r.2.2.2 % 4 = 3 ∧ (classT r.1 = 3 → r.2.1 = 5) ∧ (r.1 = 3 → r.2.1 = 7) := by decide +kernel
theorem dec_im {k : Int} (hk : 0 ≤ k ∧ k ≤ 11) {x : T7} (h : formOK k x) : (0 ≤ x.2.1 ∧ x.2.1 < 32) ∧ (0 ≤ x.2.2.1 ∧ x.2.2.1 < 32) ∧ (0 ≤ x.2.2.2.1 ∧ x.2.2.2.1 < 32) ∧ (-2147483648 ≤ x.2.2.2.2.1 ∧ x.2.2.2.2.1 < 2147483648) ∧ (0 ≤ x.2.2.2.2.2.1 ∧ x.2.2.2.2.2.1 < 4096) ∧ x.2.2.2.2.2.2 = 4 ∧ (k = 5 ∨ k = 7 → x.2.2.2.2.1 % 2 = 0) := by
  rcases k12 hk with rfl | rfl | rfl | rfl | rfl | rfl | rfl | rfl | rfl | rfl | rfl | rfl <;> simp [formOK] at h <;> simp <;> omega
theorem row_w7 {r : R4} (hr : r ∈ rowsL) {x : T7} (h : rowOK r x) : W7 x := by
  have h1 := dec_im (forms_ok r hr) h.2.1
  have h2 := tbl_ok r hr
  unfold tblOK at h2
  simp only [Bool.and_eq_true, decide_eq_true_iff] at h2
  have h3 := h.1
  unfold W7
  omega
theorem ill_chk (p : Int) : chkT (ill p) = 3 := by
  unfold chkT ill
  exact if_pos (.inl rfl)
theorem one_any {p : Int} (hp : P32 p) (w : World) : Calls Try.prog 6 #[.int .u32 p] w fun e w' => e = .returned (.bool true) ∧ Fr [] w w' := by
  have hd := fun w => dec_any hp w
  have ha := hid fun w => awake_any w
  rcases dec_row hp with ⟨h, -⟩ | ⟨r, -, hr, hm, h, hok⟩
  · rw [h] at hd
    refine one_nil p w (hid hd) (hid fun w => ?_) (hid fun w => illegal_yes hp h w) (hid fun w => ?_) ha
    · exact (c_class (op := 0) (by omega) w).mono fun _ _ ⟨h1, n, h2⟩ => ⟨h1, by subst h2; exact (Fr.refl _ _).drewN n⟩
    · have := chk_any (x := ill p) ⟨Int.le_refl _, show (0 : Int) < 256 by omega⟩ w
      rw [ill_chk] at this
      exact this
  · have hw := row_w7 hr hok
    have hi := dec_im (forms_ok r hr) hok.2.1
    have ht := one_tab r hr
    have htb := tbl_ok r hr
    have hc := fun w => chk_any (x := decT p) hw.1 w
    rw [(chk_row hw hr hok.1).2 hok] at hc
    have ho := hok.1
    have hcl := fun w => c_class (op := (decT p).1) hw.1 w
    have hmod : p % 4 = 3 := by
      unfold meetsF at hm
      simp only [Bool.and_eq_true, decide_eq_true_iff] at hm
      omega
    clear h hok hm
    generalize decT p = x at *
    obtain ⟨op, rd, r1, r2, im, cs, sz⟩ := x
    simp only at ho hi hcl
    obtain ⟨a1, a2, a3, a4, a5, rfl, a7⟩ := hi
    unfold tblOK at htb
    simp only [Bool.and_eq_true, decide_eq_true_iff] at htb
    obtain ⟨⟨⟨⟨⟨b1, b3⟩, b2⟩, -⟩, -⟩, -⟩ := htb
    rw [← ho] at ht b1 b2 b3
    obtain ⟨c1, c2, c3, c4⟩ := ht
    have hcl' : Hid (∀ w, Calls Try.prog 16 #[.int .u8 op] w fun e w' => e = .returned (.int .u8 (classT op)) ∧ Fr [] w w') := fun w => (hcl w).mono fun _ _ ⟨h1, n, h2⟩ => ⟨h1, by subst h2; exact (Fr.refl _ _).drewN n⟩
    have q0 : decide (99 ≤ op) = false := decide_eq_false (by omega)
    have q1 : decide (31 < rd) = false := decide_eq_false (by omega)
    have q2 : decide (31 < r1) = false := decide_eq_false (by omega)
    have q3 : decide (31 < r2) = false := decide_eq_false (by omega)
    have q4 : decide (4095 < cs) = false := decide_eq_false (by omega)
    have q5 : (op == 0) = false := by simpa using c1
    have q6 : (p % 4 == 3) = true := by simpa using hmod
    have q7 : decide (-2147483648 ≤ im) = true := decide_eq_true (by omega)
    have q8 : decide (im < 2147483648) = true := decide_eq_true (by omega)
    by_cases e3 : classT op = 3
    · have q10 : (im.tmod 2 == 0) = true := by rw [beq_iff_eq]; exact (tmod_2 im).2 (a7 (.inl (c3 e3)))
      rw [e3] at hcl'
      exact one_b p op rd r1 r2 im cs w (hid hd) hcl' (hid hc) ha q0 q1 q2 q3 q4 q5 q6 q7 q8 hp.1 q10
    · have q11 : (classT op == 3) = false := by simpa using e3
      by_cases e4 : op = 3
      · have q10 : (im.tmod 2 == 0) = true := by rw [beq_iff_eq]; exact (tmod_2 im).2 (a7 (.inr (c4 e4)))
        subst e4
        exact one_j p rd r1 r2 im cs _ w (hid hd) hcl' (hid hc) ha q1 q2 q3 q4 q6 q7 q8 hp.1 q11 b2 q10
      · exact one_o p op rd r1 r2 im cs _ w (hid hd) hcl' (hid hc) ha q0 q1 q2 q3 q4 q5 q6 q7 q8 hp.1 q11 b2 (by simpa using e4)
end Go.Proofs.Ytogdifjdlkpehaa.PA
namespace Go.Proofs.Ytogdifjdlkpehaa
open PA Go.RowKit
theorem walk_InstOne (a0 : Int) (w : World) (w0 : (Lit.int .u32 a0).wf = true) :
    Calls Try.prog 6 #[.int .u32 a0] w fun e w' => e = .returned (.bool true) ∧ Below w.heap.size w w' :=
  (one_any (by have : 0 ≤ a0 ∧ a0 < 4294967296 := by have h2 : IntKind.u32.min = 0 := rfl; have h3 : IntKind.u32.max = 4294967295 := rfl; simp [Lit.wf] at w0; omega
               exact this) w).mono fun _ _ ⟨h1, h2⟩ => ⟨h1, below_of_fr'' h2⟩
end Go.Proofs.Ytogdifjdlkpehaa
