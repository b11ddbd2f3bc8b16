/- Contracts of the reference's Do and Addr. -/
import Derived.Test.YtajbfnihgonppaaE3
import Derived.Test.YtajbfnihgonppaaHRefReg
import Derived.Test.YtajbfnihgonppaaHQuot
import Derived.Test.YtajbfnihgonppaaPAx4
namespace Go.Proofs.Ytajbfnihgonppaa.PA
open Go.RowKit Go.Proofs.Ytajbfnihgonppaa.Plain Go.Proofs.YtajbfnihgonppaaW.PrintWords Go.Proofs.YtajbfnihgonppaaW.PrintLast Go.Proofs.YtajbfnihgonppaaW.PrintMore
set_option linter.all false
theorem cr_branch {op a b : Int} (ha : N64 a) (hb : N64 b) (w : World) : Calls Try.prog 26 #[.int .u8 op, .int .u64 a, .int .u64 b] w fun e w' => e = .returned (.tuple #[.bool (brT op a b), .bool (inR op 5 10)]) ∧ Fr [] w w' :=
  (almonryref02_Branch.calls op a b _ _ w (br_ev ha hb).2).mono fun _ _ ⟨h1, h2⟩ => ⟨h1, fr_drawn' h2⟩
theorem cr_reg {op : Int} (h : 0 ≤ op ∧ op < 256) (w : World) : Calls Try.prog 27 #[.int .u8 op] w fun e w' => e = .returned (.tuple #[.int .u8 (regT op).1, .bool (regT op).2]) ∧ Fr [] w w' :=
  (almonryref02_Reg.calls op _ _ w (reg_ev h).2).mono fun _ _ ⟨h1, h2⟩ => ⟨h1, fr_of_below h2⟩
theorem cr_do {op a b : Int} (h : 0 ≤ op ∧ op < 256) (ha : N64 a) (hb : N64 b) (w : World) : Calls Try.prog 28 #[.int .u8 op, .int .u64 a, .int .u64 b] w fun e w' => e = .returned (.tuple #[.int .u64 (valT op a b).1, .bool (valT op a b).2]) ∧ Fr [] w w' :=
  (almonryref02_Do.calls 100 op a b _ _ w (do_ev h ha hb).2).mono fun _ _ ⟨h1, h2⟩ => ⟨h1, fr_of_below h2⟩
set_option maxRecDepth 100000 in
set_option maxHeartbeats 4000000 in
theorem rd_lui (s s' : Nat → Int) (pc rd r1 r2 im cs sz a b  : Int) (w : World) (p0 : 0 ≤ pc) (p1 : pc < 18446744073709551616) (b2 : 0 ≤ r1 ∧ r1 < 256) (b3 : 0 ≤ r2 ∧ r2 < 256) (b4 : -9223372036854775808 ≤ im) (b4b : im ≤ 9223372036854775807) (b6 : 0 ≤ sz) (b6b : sz < 256) (b1 : 0 ≤ rd ∧ rd < 256) (a0 : 0 ≤ a) (a1 : a < 18446744073709551616) (h1 : Hid (∀ w, Calls Try.prog 17 #[.agg (regC s), .int .u8 r1] w fun e w' => e = .returned (.int .u64 a) ∧ Fr [] w w')) (h2 : Hid (∀ w, Calls Try.prog 17 #[.agg (regC s), .int .u8 r2] w fun e w' => e = .returned (.int .u64 b) ∧ Fr [] w w')) (h9 : Hid (∀ w, Calls Try.prog 25 #[.agg (regC s), .int .u8 rd, .int .u64 (IntKind.u64.wrap im)] w fun e w' => e = .returned (.agg (regC s')) ∧ Fr [] w w'))  :
    Calls Try.prog 14 #[.agg (regC s), .int .u64 pc, .agg (IC (1, rd, r1, r2, im, cs, sz))] w fun e w' => e = .returned (.tuple #[.agg (regC s'), .int .u64 (IntKind.u64.wrap (pc + sz)), .bool true]) ∧ Fr [] w w' := by
  go_enter Try.func14, Try.ntmps14
  go_upto_region 1 with fail
  refine world_at' (fun W => W.heap[w.heap.size]? = some (.cells (regC s) 39) ∧ W.heap[w.heap.size + 1]? = some (.cells (IC (1, rd, r1, r2, im, cs, sz)) 27) ∧ W.heap[w.heap.size + 2]? = some (.cells (regC fun _ => 0) 39) ∧ Fr [] w W) ⟨blk_alloc (blk_alloc (blk_new _ _) _) _, blk_alloc (blk_new' (n := w.heap.size + 1) (by simp) _) _, by rw [zeroR]; exact blk_new' (n := w.heap.size + 2) (by simp) _, (((Fr.refl [] w).alloc _).alloc _).alloc _⟩ ?_
  rintro W ⟨hS, hZ, hR, hF⟩
  have HF := hid hF
  have HS := hid hS
  have HR := hid hR
  have y0 : ∀ n : Ext W, n.w.cell? ⟨w.heap.size + 1, 0, none⟩ = some (.int .u8 1) := fun n => Ext.cell n hZ 0
  have y2 : ∀ n : Ext W, n.w.cell? ⟨w.heap.size + 1, 2, none⟩ = some (.int .u8 r1) := fun n => Ext.cell n hZ 2
  have y3 : ∀ n : Ext W, n.w.cell? ⟨w.heap.size + 1, 3, none⟩ = some (.int .u8 r2) := fun n => Ext.cell n hZ 3
  have y4 : ∀ n : Ext W, n.w.cell? ⟨w.heap.size + 1, 4, none⟩ = some (.int .i64 im) := fun n => Ext.cell n hZ 4
  have y6 : ∀ n : Ext W, n.w.cell? ⟨w.heap.size + 1, 6, none⟩ = some (.int .u8 sz) := fun n => Ext.cell n hZ 6
  have Y0 : Hid (∀ w1, Fr [] W w1 → w1.cell? ⟨w.heap.size + 1, 0, none⟩ = some (.int .u8 1)) := hid fun w1 h => y0 ⟨w1, h⟩
  have Y1 : Hid (∀ w1, Fr [] W w1 → w1.cell? ⟨w.heap.size + 1, 1, none⟩ = some (.int .u8 rd)) := hid fun w1 h => by rw [blk_cell (h.keeps hZ (by simp))]; rfl
  clear hF hZ hS hR
  have hne := ext_ne W
  have c1 : Hid (∀ n : Ext W, Calls Try.prog 17 #[.agg (regC s), .int .u8 r1] n.w fun e w'' => e = .returned (.int .u64 a) ∧ ∃ m : Ext W, w'' = m.w) := fun n => Ext.call n (h1.out _)
  have c2 : Hid (∀ n : Ext W, Calls Try.prog 17 #[.agg (regC s), .int .u8 r2] n.w fun e w'' => e = .returned (.int .u64 b) ∧ ∃ m : Ext W, w'' = m.w) := fun n => Ext.call n (h2.out _)
  clear h1 h2
  refine wp_region_ext (by kernel_rfl) (by kernel_rfl) ?_
  repeat (first | (go_big_quiet_want; refine quiet_row 39 _ rfl w.heap.size rfl 39 (regC s) (0, 0) _ (fun w' hw' => by obtain ⟨n, rfl⟩ := hw'; exact n.blk HS.out) Try.underlying39 rfl (size_r _) ?_; go_simp; go_big_quiet_on) | go_big_quiet_step (first | (go_at_call 17; with_reducible exact c1.out _) | (go_at_call 17; with_reducible exact c2.out _)))
  refine wpQuiet_nil ?_
  intro w' hw'
  obtain ⟨m1, rfl⟩ := hw'
  have hK := m1.fr
  generalize m1.w = W1 at *
  have x0 : W1.cell? ⟨w.heap.size + 1, 0, none⟩ = some (.int .u8 1) := Y0.out _ hK
  have x1 := Y1.out _ hK
  clear y0 y2 y3 y4 y6 c1 c2 hne m1
  go_wp2_with (first | (go_at_call 25; (with_reducible refine (h9.out _).mono ?_); rintro e w8 ⟨rfl, hd⟩; replace hK := hK.trans hd; clear hd; have x0 := Y0.out _ hK; have x1 := Y1.out _ hK) | (refine wpList_load_row_g (by rfl) 39 _ (by rfl) w.heap.size (by rfl) 39 (regC s) (0, 0) _ (hK.keeps HS.out (by simp)) Try.underlying39 rfl (size_r _) ?_) | (refine wpList_store_whole rfl 39 _ _ rfl (w.heap.size + 1 + 1) rfl (regC s') rfl 39 _ (hK.keeps HR.out (by simp)) (by rw [regC_size, regC_size]) (size_r _) (regC_one _) ?_; intro w9 h9' hfr9))
  exact ⟨rfl, _, results_ctt rfl rfl h9' Try.underlying39 rfl (size_r _), rfl, (HF.out.trans hK).step hfr9 (fun j hj => .inr (by rw [List.mem_singleton.1 hj]; omega))⟩
set_option maxRecDepth 100000 in
set_option maxHeartbeats 4000000 in
theorem rd_auipc (s s' : Nat → Int) (pc rd r1 r2 im cs sz a b  : Int) (w : World) (p0 : 0 ≤ pc) (p1 : pc < 18446744073709551616) (b2 : 0 ≤ r1 ∧ r1 < 256) (b3 : 0 ≤ r2 ∧ r2 < 256) (b4 : -9223372036854775808 ≤ im) (b4b : im ≤ 9223372036854775807) (b6 : 0 ≤ sz) (b6b : sz < 256) (b1 : 0 ≤ rd ∧ rd < 256) (a0 : 0 ≤ a) (a1 : a < 18446744073709551616) (h1 : Hid (∀ w, Calls Try.prog 17 #[.agg (regC s), .int .u8 r1] w fun e w' => e = .returned (.int .u64 a) ∧ Fr [] w w')) (h2 : Hid (∀ w, Calls Try.prog 17 #[.agg (regC s), .int .u8 r2] w fun e w' => e = .returned (.int .u64 b) ∧ Fr [] w w')) (h9 : Hid (∀ w, Calls Try.prog 25 #[.agg (regC s), .int .u8 rd, .int .u64 (IntKind.u64.wrap (pc + IntKind.u64.wrap im))] w fun e w' => e = .returned (.agg (regC s')) ∧ Fr [] w w'))  :
    Calls Try.prog 14 #[.agg (regC s), .int .u64 pc, .agg (IC (2, rd, r1, r2, im, cs, sz))] w fun e w' => e = .returned (.tuple #[.agg (regC s'), .int .u64 (IntKind.u64.wrap (pc + sz)), .bool true]) ∧ Fr [] w w' := by
  go_enter Try.func14, Try.ntmps14
  go_upto_region 1 with fail
  refine world_at' (fun W => W.heap[w.heap.size]? = some (.cells (regC s) 39) ∧ W.heap[w.heap.size + 1]? = some (.cells (IC (2, rd, r1, r2, im, cs, sz)) 27) ∧ W.heap[w.heap.size + 2]? = some (.cells (regC fun _ => 0) 39) ∧ Fr [] w W) ⟨blk_alloc (blk_alloc (blk_new _ _) _) _, blk_alloc (blk_new' (n := w.heap.size + 1) (by simp) _) _, by rw [zeroR]; exact blk_new' (n := w.heap.size + 2) (by simp) _, (((Fr.refl [] w).alloc _).alloc _).alloc _⟩ ?_
  rintro W ⟨hS, hZ, hR, hF⟩
  have HF := hid hF
  have HS := hid hS
  have HR := hid hR
  have y0 : ∀ n : Ext W, n.w.cell? ⟨w.heap.size + 1, 0, none⟩ = some (.int .u8 2) := fun n => Ext.cell n hZ 0
  have y2 : ∀ n : Ext W, n.w.cell? ⟨w.heap.size + 1, 2, none⟩ = some (.int .u8 r1) := fun n => Ext.cell n hZ 2
  have y3 : ∀ n : Ext W, n.w.cell? ⟨w.heap.size + 1, 3, none⟩ = some (.int .u8 r2) := fun n => Ext.cell n hZ 3
  have y4 : ∀ n : Ext W, n.w.cell? ⟨w.heap.size + 1, 4, none⟩ = some (.int .i64 im) := fun n => Ext.cell n hZ 4
  have y6 : ∀ n : Ext W, n.w.cell? ⟨w.heap.size + 1, 6, none⟩ = some (.int .u8 sz) := fun n => Ext.cell n hZ 6
  have Y0 : Hid (∀ w1, Fr [] W w1 → w1.cell? ⟨w.heap.size + 1, 0, none⟩ = some (.int .u8 2)) := hid fun w1 h => y0 ⟨w1, h⟩
  have Y1 : Hid (∀ w1, Fr [] W w1 → w1.cell? ⟨w.heap.size + 1, 1, none⟩ = some (.int .u8 rd)) := hid fun w1 h => by rw [blk_cell (h.keeps hZ (by simp))]; rfl
  clear hF hZ hS hR
  have hne := ext_ne W
  have c1 : Hid (∀ n : Ext W, Calls Try.prog 17 #[.agg (regC s), .int .u8 r1] n.w fun e w'' => e = .returned (.int .u64 a) ∧ ∃ m : Ext W, w'' = m.w) := fun n => Ext.call n (h1.out _)
  have c2 : Hid (∀ n : Ext W, Calls Try.prog 17 #[.agg (regC s), .int .u8 r2] n.w fun e w'' => e = .returned (.int .u64 b) ∧ ∃ m : Ext W, w'' = m.w) := fun n => Ext.call n (h2.out _)
  clear h1 h2
  refine wp_region_ext (by kernel_rfl) (by kernel_rfl) ?_
  repeat (first | (go_big_quiet_want; refine quiet_row 39 _ rfl w.heap.size rfl 39 (regC s) (0, 0) _ (fun w' hw' => by obtain ⟨n, rfl⟩ := hw'; exact n.blk HS.out) Try.underlying39 rfl (size_r _) ?_; go_simp; go_big_quiet_on) | go_big_quiet_step (first | (go_at_call 17; with_reducible exact c1.out _) | (go_at_call 17; with_reducible exact c2.out _)))
  refine wpQuiet_nil ?_
  intro w' hw'
  obtain ⟨m1, rfl⟩ := hw'
  have hK := m1.fr
  generalize m1.w = W1 at *
  have x0 : W1.cell? ⟨w.heap.size + 1, 0, none⟩ = some (.int .u8 2) := Y0.out _ hK
  have x1 := Y1.out _ hK
  clear y0 y2 y3 y4 y6 c1 c2 hne m1
  go_wp2_with (first | (go_at_call 25; (with_reducible refine (h9.out _).mono ?_); rintro e w8 ⟨rfl, hd⟩; replace hK := hK.trans hd; clear hd; have x0 := Y0.out _ hK; have x1 := Y1.out _ hK) | (refine wpList_load_row_g (by rfl) 39 _ (by rfl) w.heap.size (by rfl) 39 (regC s) (0, 0) _ (hK.keeps HS.out (by simp)) Try.underlying39 rfl (size_r _) ?_) | (refine wpList_store_whole rfl 39 _ _ rfl (w.heap.size + 1 + 1) rfl (regC s') rfl 39 _ (hK.keeps HR.out (by simp)) (by rw [regC_size, regC_size]) (size_r _) (regC_one _) ?_; intro w9 h9' hfr9))
  exact ⟨rfl, _, results_ctt rfl rfl h9' Try.underlying39 rfl (size_r _), rfl, (HF.out.trans hK).step hfr9 (fun j hj => .inr (by rw [List.mem_singleton.1 hj]; omega))⟩
set_option maxRecDepth 100000 in
set_option maxHeartbeats 4000000 in
theorem rd_jal (s s' : Nat → Int) (pc rd r1 r2 im cs sz a b  : Int) (w : World) (p0 : 0 ≤ pc) (p1 : pc < 18446744073709551616) (b2 : 0 ≤ r1 ∧ r1 < 256) (b3 : 0 ≤ r2 ∧ r2 < 256) (b4 : -9223372036854775808 ≤ im) (b4b : im ≤ 9223372036854775807) (b6 : 0 ≤ sz) (b6b : sz < 256) (b1 : 0 ≤ rd ∧ rd < 256) (a0 : 0 ≤ a) (a1 : a < 18446744073709551616) (h1 : Hid (∀ w, Calls Try.prog 17 #[.agg (regC s), .int .u8 r1] w fun e w' => e = .returned (.int .u64 a) ∧ Fr [] w w')) (h2 : Hid (∀ w, Calls Try.prog 17 #[.agg (regC s), .int .u8 r2] w fun e w' => e = .returned (.int .u64 b) ∧ Fr [] w w')) (h9 : Hid (∀ w, Calls Try.prog 25 #[.agg (regC s), .int .u8 rd, .int .u64 (IntKind.u64.wrap (pc + sz))] w fun e w' => e = .returned (.agg (regC s')) ∧ Fr [] w w'))  :
    Calls Try.prog 14 #[.agg (regC s), .int .u64 pc, .agg (IC (3, rd, r1, r2, im, cs, sz))] w fun e w' => e = .returned (.tuple #[.agg (regC s'), .int .u64 (IntKind.u64.wrap (pc + IntKind.u64.wrap im)), .bool true]) ∧ Fr [] w w' := by
  go_enter Try.func14, Try.ntmps14
  go_upto_region 1 with fail
  refine world_at' (fun W => W.heap[w.heap.size]? = some (.cells (regC s) 39) ∧ W.heap[w.heap.size + 1]? = some (.cells (IC (3, rd, r1, r2, im, cs, sz)) 27) ∧ W.heap[w.heap.size + 2]? = some (.cells (regC fun _ => 0) 39) ∧ Fr [] w W) ⟨blk_alloc (blk_alloc (blk_new _ _) _) _, blk_alloc (blk_new' (n := w.heap.size + 1) (by simp) _) _, by rw [zeroR]; exact blk_new' (n := w.heap.size + 2) (by simp) _, (((Fr.refl [] w).alloc _).alloc _).alloc _⟩ ?_
  rintro W ⟨hS, hZ, hR, hF⟩
  have HF := hid hF
  have HS := hid hS
  have HR := hid hR
  have y0 : ∀ n : Ext W, n.w.cell? ⟨w.heap.size + 1, 0, none⟩ = some (.int .u8 3) := fun n => Ext.cell n hZ 0
  have y2 : ∀ n : Ext W, n.w.cell? ⟨w.heap.size + 1, 2, none⟩ = some (.int .u8 r1) := fun n => Ext.cell n hZ 2
  have y3 : ∀ n : Ext W, n.w.cell? ⟨w.heap.size + 1, 3, none⟩ = some (.int .u8 r2) := fun n => Ext.cell n hZ 3
  have y4 : ∀ n : Ext W, n.w.cell? ⟨w.heap.size + 1, 4, none⟩ = some (.int .i64 im) := fun n => Ext.cell n hZ 4
  have y6 : ∀ n : Ext W, n.w.cell? ⟨w.heap.size + 1, 6, none⟩ = some (.int .u8 sz) := fun n => Ext.cell n hZ 6
  have Y0 : Hid (∀ w1, Fr [] W w1 → w1.cell? ⟨w.heap.size + 1, 0, none⟩ = some (.int .u8 3)) := hid fun w1 h => y0 ⟨w1, h⟩
  have Y1 : Hid (∀ w1, Fr [] W w1 → w1.cell? ⟨w.heap.size + 1, 1, none⟩ = some (.int .u8 rd)) := hid fun w1 h => by rw [blk_cell (h.keeps hZ (by simp))]; rfl
  clear hF hZ hS hR
  have hne := ext_ne W
  have c1 : Hid (∀ n : Ext W, Calls Try.prog 17 #[.agg (regC s), .int .u8 r1] n.w fun e w'' => e = .returned (.int .u64 a) ∧ ∃ m : Ext W, w'' = m.w) := fun n => Ext.call n (h1.out _)
  have c2 : Hid (∀ n : Ext W, Calls Try.prog 17 #[.agg (regC s), .int .u8 r2] n.w fun e w'' => e = .returned (.int .u64 b) ∧ ∃ m : Ext W, w'' = m.w) := fun n => Ext.call n (h2.out _)
  clear h1 h2
  refine wp_region_ext (by kernel_rfl) (by kernel_rfl) ?_
  repeat (first | (go_big_quiet_want; refine quiet_row 39 _ rfl w.heap.size rfl 39 (regC s) (0, 0) _ (fun w' hw' => by obtain ⟨n, rfl⟩ := hw'; exact n.blk HS.out) Try.underlying39 rfl (size_r _) ?_; go_simp; go_big_quiet_on) | go_big_quiet_step (first | (go_at_call 17; with_reducible exact c1.out _) | (go_at_call 17; with_reducible exact c2.out _)))
  refine wpQuiet_nil ?_
  intro w' hw'
  obtain ⟨m1, rfl⟩ := hw'
  have hK := m1.fr
  generalize m1.w = W1 at *
  have x0 : W1.cell? ⟨w.heap.size + 1, 0, none⟩ = some (.int .u8 3) := Y0.out _ hK
  have x1 := Y1.out _ hK
  clear y0 y2 y3 y4 y6 c1 c2 hne m1
  go_wp2_with (first | (go_at_call 25; (with_reducible refine (h9.out _).mono ?_); rintro e w8 ⟨rfl, hd⟩; replace hK := hK.trans hd; clear hd; have x0 := Y0.out _ hK; have x1 := Y1.out _ hK) | (refine wpList_load_row_g (by rfl) 39 _ (by rfl) w.heap.size (by rfl) 39 (regC s) (0, 0) _ (hK.keeps HS.out (by simp)) Try.underlying39 rfl (size_r _) ?_) | (refine wpList_store_whole rfl 39 _ _ rfl (w.heap.size + 1 + 1) rfl (regC s') rfl 39 _ (hK.keeps HR.out (by simp)) (by rw [regC_size, regC_size]) (size_r _) (regC_one _) ?_; intro w9 h9' hfr9))
  exact ⟨rfl, _, results_ctt rfl rfl h9' Try.underlying39 rfl (size_r _), rfl, (HF.out.trans hK).step hfr9 (fun j hj => .inr (by rw [List.mem_singleton.1 hj]; omega))⟩
set_option maxRecDepth 100000 in
set_option maxHeartbeats 4000000 in
theorem rd_jalr (s s' : Nat → Int) (pc rd r1 r2 im cs sz a b  : Int) (w : World) (p0 : 0 ≤ pc) (p1 : pc < 18446744073709551616) (b2 : 0 ≤ r1 ∧ r1 < 256) (b3 : 0 ≤ r2 ∧ r2 < 256) (b4 : -9223372036854775808 ≤ im) (b4b : im ≤ 9223372036854775807) (b6 : 0 ≤ sz) (b6b : sz < 256) (b1 : 0 ≤ rd ∧ rd < 256) (a0 : 0 ≤ a) (a1 : a < 18446744073709551616) (h1 : Hid (∀ w, Calls Try.prog 17 #[.agg (regC s), .int .u8 r1] w fun e w' => e = .returned (.int .u64 a) ∧ Fr [] w w')) (h2 : Hid (∀ w, Calls Try.prog 17 #[.agg (regC s), .int .u8 r2] w fun e w' => e = .returned (.int .u64 b) ∧ Fr [] w w')) (h9 : Hid (∀ w, Calls Try.prog 25 #[.agg (regC s), .int .u8 rd, .int .u64 (IntKind.u64.wrap (pc + sz))] w fun e w' => e = .returned (.agg (regC s')) ∧ Fr [] w w'))  :
    Calls Try.prog 14 #[.agg (regC s), .int .u64 pc, .agg (IC (4, rd, r1, r2, im, cs, sz))] w fun e w' => e = .returned (.tuple #[.agg (regC s'), .int .u64 (IntKind.u64.wrap (IntKind.u64.wrap ((IntKind.u64.wrap (a + IntKind.u64.wrap im)).tdiv 2) * 2)), .bool true]) ∧ Fr [] w w' := by
  go_enter Try.func14, Try.ntmps14
  go_upto_region 1 with fail
  refine world_at' (fun W => W.heap[w.heap.size]? = some (.cells (regC s) 39) ∧ W.heap[w.heap.size + 1]? = some (.cells (IC (4, rd, r1, r2, im, cs, sz)) 27) ∧ W.heap[w.heap.size + 2]? = some (.cells (regC fun _ => 0) 39) ∧ Fr [] w W) ⟨blk_alloc (blk_alloc (blk_new _ _) _) _, blk_alloc (blk_new' (n := w.heap.size + 1) (by simp) _) _, by rw [zeroR]; exact blk_new' (n := w.heap.size + 2) (by simp) _, (((Fr.refl [] w).alloc _).alloc _).alloc _⟩ ?_
  rintro W ⟨hS, hZ, hR, hF⟩
  have HF := hid hF
  have HS := hid hS
  have HR := hid hR
  have y0 : ∀ n : Ext W, n.w.cell? ⟨w.heap.size + 1, 0, none⟩ = some (.int .u8 4) := fun n => Ext.cell n hZ 0
  have y2 : ∀ n : Ext W, n.w.cell? ⟨w.heap.size + 1, 2, none⟩ = some (.int .u8 r1) := fun n => Ext.cell n hZ 2
  have y3 : ∀ n : Ext W, n.w.cell? ⟨w.heap.size + 1, 3, none⟩ = some (.int .u8 r2) := fun n => Ext.cell n hZ 3
  have y4 : ∀ n : Ext W, n.w.cell? ⟨w.heap.size + 1, 4, none⟩ = some (.int .i64 im) := fun n => Ext.cell n hZ 4
  have y6 : ∀ n : Ext W, n.w.cell? ⟨w.heap.size + 1, 6, none⟩ = some (.int .u8 sz) := fun n => Ext.cell n hZ 6
  have Y0 : Hid (∀ w1, Fr [] W w1 → w1.cell? ⟨w.heap.size + 1, 0, none⟩ = some (.int .u8 4)) := hid fun w1 h => y0 ⟨w1, h⟩
  have Y1 : Hid (∀ w1, Fr [] W w1 → w1.cell? ⟨w.heap.size + 1, 1, none⟩ = some (.int .u8 rd)) := hid fun w1 h => by rw [blk_cell (h.keeps hZ (by simp))]; rfl
  clear hF hZ hS hR
  have hne := ext_ne W
  have c1 : Hid (∀ n : Ext W, Calls Try.prog 17 #[.agg (regC s), .int .u8 r1] n.w fun e w'' => e = .returned (.int .u64 a) ∧ ∃ m : Ext W, w'' = m.w) := fun n => Ext.call n (h1.out _)
  have c2 : Hid (∀ n : Ext W, Calls Try.prog 17 #[.agg (regC s), .int .u8 r2] n.w fun e w'' => e = .returned (.int .u64 b) ∧ ∃ m : Ext W, w'' = m.w) := fun n => Ext.call n (h2.out _)
  clear h1 h2
  refine wp_region_ext (by kernel_rfl) (by kernel_rfl) ?_
  repeat (first | (go_big_quiet_want; refine quiet_row 39 _ rfl w.heap.size rfl 39 (regC s) (0, 0) _ (fun w' hw' => by obtain ⟨n, rfl⟩ := hw'; exact n.blk HS.out) Try.underlying39 rfl (size_r _) ?_; go_simp; go_big_quiet_on) | go_big_quiet_step (first | (go_at_call 17; with_reducible exact c1.out _) | (go_at_call 17; with_reducible exact c2.out _)))
  refine wpQuiet_nil ?_
  intro w' hw'
  obtain ⟨m1, rfl⟩ := hw'
  have hK := m1.fr
  generalize m1.w = W1 at *
  have x0 : W1.cell? ⟨w.heap.size + 1, 0, none⟩ = some (.int .u8 4) := Y0.out _ hK
  have x1 := Y1.out _ hK
  clear y0 y2 y3 y4 y6 c1 c2 hne m1
  go_wp2_with (first | (go_at_call 25; (with_reducible refine (h9.out _).mono ?_); rintro e w8 ⟨rfl, hd⟩; replace hK := hK.trans hd; clear hd; have x0 := Y0.out _ hK; have x1 := Y1.out _ hK) | (refine wpList_load_row_g (by rfl) 39 _ (by rfl) w.heap.size (by rfl) 39 (regC s) (0, 0) _ (hK.keeps HS.out (by simp)) Try.underlying39 rfl (size_r _) ?_) | (refine wpList_store_whole rfl 39 _ _ rfl (w.heap.size + 1 + 1) rfl (regC s') rfl 39 _ (hK.keeps HR.out (by simp)) (by rw [regC_size, regC_size]) (size_r _) (regC_one _) ?_; intro w9 h9' hfr9))
  exact ⟨rfl, _, results_ctt rfl rfl h9' Try.underlying39 rfl (size_r _), rfl, (HF.out.trans hK).step hfr9 (fun j hj => .inr (by rw [List.mem_singleton.1 hj]; omega))⟩
set_option maxRecDepth 100000 in
set_option maxHeartbeats 4000000 in
theorem rd_brt (s s' : Nat → Int) (pc rd r1 r2 im cs sz a b op : Int) (w : World) (p0 : 0 ≤ pc) (p1 : pc < 18446744073709551616) (b0 : 0 ≤ op ∧ op < 256) (b2 : 0 ≤ r1 ∧ r1 < 256) (b3 : 0 ≤ r2 ∧ r2 < 256) (b4 : -9223372036854775808 ≤ im) (b4b : im ≤ 9223372036854775807) (b6 : 0 ≤ sz) (b6b : sz < 256) (b1 : 0 ≤ rd ∧ rd < 256) (a0 : 0 ≤ a) (a1 : a < 18446744073709551616) (h1 : Hid (∀ w, Calls Try.prog 17 #[.agg (regC s), .int .u8 r1] w fun e w' => e = .returned (.int .u64 a) ∧ Fr [] w w')) (h2 : Hid (∀ w, Calls Try.prog 17 #[.agg (regC s), .int .u8 r2] w fun e w' => e = .returned (.int .u64 b) ∧ Fr [] w w')) (h3 : Hid (∀ w, Calls Try.prog 26 #[.int .u8 op, .int .u64 a, .int .u64 b] w fun e w' => e = .returned (.tuple #[.bool true, .bool true]) ∧ Fr [] w w')) (t1 : (op == 1) = false) (t2 : (op == 2) = false) (t3 : (op == 3) = false) (t4 : (op == 4) = false) :
    Calls Try.prog 14 #[.agg (regC s), .int .u64 pc, .agg (IC (op, rd, r1, r2, im, cs, sz))] w fun e w' => e = .returned (.tuple #[.agg (regC s), .int .u64 (IntKind.u64.wrap (pc + IntKind.u64.wrap im)), .bool true]) ∧ Fr [] w w' := by
  go_enter Try.func14, Try.ntmps14
  go_upto_region 1 with fail
  refine world_at' (fun W => W.heap[w.heap.size]? = some (.cells (regC s) 39) ∧ W.heap[w.heap.size + 1]? = some (.cells (IC (op, rd, r1, r2, im, cs, sz)) 27) ∧ W.heap[w.heap.size + 2]? = some (.cells (regC fun _ => 0) 39) ∧ Fr [] w W) ⟨blk_alloc (blk_alloc (blk_new _ _) _) _, blk_alloc (blk_new' (n := w.heap.size + 1) (by simp) _) _, by rw [zeroR]; exact blk_new' (n := w.heap.size + 2) (by simp) _, (((Fr.refl [] w).alloc _).alloc _).alloc _⟩ ?_
  rintro W ⟨hS, hZ, hR, hF⟩
  have HF := hid hF
  have HS := hid hS
  have HR := hid hR
  have y0 : ∀ n : Ext W, n.w.cell? ⟨w.heap.size + 1, 0, none⟩ = some (.int .u8 op) := fun n => Ext.cell n hZ 0
  have y2 : ∀ n : Ext W, n.w.cell? ⟨w.heap.size + 1, 2, none⟩ = some (.int .u8 r1) := fun n => Ext.cell n hZ 2
  have y3 : ∀ n : Ext W, n.w.cell? ⟨w.heap.size + 1, 3, none⟩ = some (.int .u8 r2) := fun n => Ext.cell n hZ 3
  have y4 : ∀ n : Ext W, n.w.cell? ⟨w.heap.size + 1, 4, none⟩ = some (.int .i64 im) := fun n => Ext.cell n hZ 4
  have y6 : ∀ n : Ext W, n.w.cell? ⟨w.heap.size + 1, 6, none⟩ = some (.int .u8 sz) := fun n => Ext.cell n hZ 6
  have Y0 : Hid (∀ w1, Fr [] W w1 → w1.cell? ⟨w.heap.size + 1, 0, none⟩ = some (.int .u8 op)) := hid fun w1 h => y0 ⟨w1, h⟩
  have Y1 : Hid (∀ w1, Fr [] W w1 → w1.cell? ⟨w.heap.size + 1, 1, none⟩ = some (.int .u8 rd)) := hid fun w1 h => by rw [blk_cell (h.keeps hZ (by simp))]; rfl
  clear hF hZ hS hR
  have hne := ext_ne W
  have c1 : Hid (∀ n : Ext W, Calls Try.prog 17 #[.agg (regC s), .int .u8 r1] n.w fun e w'' => e = .returned (.int .u64 a) ∧ ∃ m : Ext W, w'' = m.w) := fun n => Ext.call n (h1.out _)
  have c2 : Hid (∀ n : Ext W, Calls Try.prog 17 #[.agg (regC s), .int .u8 r2] n.w fun e w'' => e = .returned (.int .u64 b) ∧ ∃ m : Ext W, w'' = m.w) := fun n => Ext.call n (h2.out _)
  clear h1 h2
  refine wp_region_ext (by kernel_rfl) (by kernel_rfl) ?_
  repeat (first | (go_big_quiet_want; refine quiet_row 39 _ rfl w.heap.size rfl 39 (regC s) (0, 0) _ (fun w' hw' => by obtain ⟨n, rfl⟩ := hw'; exact n.blk HS.out) Try.underlying39 rfl (size_r _) ?_; go_simp; go_big_quiet_on) | go_big_quiet_step (first | (go_at_call 17; with_reducible exact c1.out _) | (go_at_call 17; with_reducible exact c2.out _)))
  refine wpQuiet_nil ?_
  intro w' hw'
  obtain ⟨m1, rfl⟩ := hw'
  have hK := m1.fr
  generalize m1.w = W1 at *
  have x0 : W1.cell? ⟨w.heap.size + 1, 0, none⟩ = some (.int .u8 op) := Y0.out _ hK
  have x1 := Y1.out _ hK
  clear y0 y2 y3 y4 y6 c1 c2 hne m1
  go_wp2_with (first | (go_at_call 26; (with_reducible refine (h3.out _).mono ?_); rintro e w8 ⟨rfl, hd⟩; replace hK := hK.trans hd; clear hd; have x0 := Y0.out _ hK; have x1 := Y1.out _ hK) | (refine wpList_load_row_g (by rfl) 39 _ (by rfl) w.heap.size (by rfl) 39 (regC s) (0, 0) _ (hK.keeps HS.out (by simp)) Try.underlying39 rfl (size_r _) ?_) | (refine wpList_store_whole rfl 39 _ _ rfl (w.heap.size + 1 + 1) rfl (regC s) rfl 39 _ (hK.keeps HR.out (by simp)) (by rw [regC_size, regC_size]) (size_r _) (regC_one _) ?_; intro w9 h9' hfr9))
  exact ⟨rfl, _, results_ctt rfl rfl h9' Try.underlying39 rfl (size_r _), rfl, (HF.out.trans hK).step hfr9 (fun j hj => .inr (by rw [List.mem_singleton.1 hj]; omega))⟩
set_option maxRecDepth 100000 in
set_option maxHeartbeats 4000000 in
theorem rd_brf (s s' : Nat → Int) (pc rd r1 r2 im cs sz a b op : Int) (w : World) (p0 : 0 ≤ pc) (p1 : pc < 18446744073709551616) (b0 : 0 ≤ op ∧ op < 256) (b2 : 0 ≤ r1 ∧ r1 < 256) (b3 : 0 ≤ r2 ∧ r2 < 256) (b4 : -9223372036854775808 ≤ im) (b4b : im ≤ 9223372036854775807) (b6 : 0 ≤ sz) (b6b : sz < 256) (b1 : 0 ≤ rd ∧ rd < 256) (a0 : 0 ≤ a) (a1 : a < 18446744073709551616) (h1 : Hid (∀ w, Calls Try.prog 17 #[.agg (regC s), .int .u8 r1] w fun e w' => e = .returned (.int .u64 a) ∧ Fr [] w w')) (h2 : Hid (∀ w, Calls Try.prog 17 #[.agg (regC s), .int .u8 r2] w fun e w' => e = .returned (.int .u64 b) ∧ Fr [] w w')) (h3 : Hid (∀ w, Calls Try.prog 26 #[.int .u8 op, .int .u64 a, .int .u64 b] w fun e w' => e = .returned (.tuple #[.bool false, .bool true]) ∧ Fr [] w w')) (t1 : (op == 1) = false) (t2 : (op == 2) = false) (t3 : (op == 3) = false) (t4 : (op == 4) = false) :
    Calls Try.prog 14 #[.agg (regC s), .int .u64 pc, .agg (IC (op, rd, r1, r2, im, cs, sz))] w fun e w' => e = .returned (.tuple #[.agg (regC s), .int .u64 (IntKind.u64.wrap (pc + sz)), .bool true]) ∧ Fr [] w w' := by
  go_enter Try.func14, Try.ntmps14
  go_upto_region 1 with fail
  refine world_at' (fun W => W.heap[w.heap.size]? = some (.cells (regC s) 39) ∧ W.heap[w.heap.size + 1]? = some (.cells (IC (op, rd, r1, r2, im, cs, sz)) 27) ∧ W.heap[w.heap.size + 2]? = some (.cells (regC fun _ => 0) 39) ∧ Fr [] w W) ⟨blk_alloc (blk_alloc (blk_new _ _) _) _, blk_alloc (blk_new' (n := w.heap.size + 1) (by simp) _) _, by rw [zeroR]; exact blk_new' (n := w.heap.size + 2) (by simp) _, (((Fr.refl [] w).alloc _).alloc _).alloc _⟩ ?_
  rintro W ⟨hS, hZ, hR, hF⟩
  have HF := hid hF
  have HS := hid hS
  have HR := hid hR
  have y0 : ∀ n : Ext W, n.w.cell? ⟨w.heap.size + 1, 0, none⟩ = some (.int .u8 op) := fun n => Ext.cell n hZ 0
  have y2 : ∀ n : Ext W, n.w.cell? ⟨w.heap.size + 1, 2, none⟩ = some (.int .u8 r1) := fun n => Ext.cell n hZ 2
  have y3 : ∀ n : Ext W, n.w.cell? ⟨w.heap.size + 1, 3, none⟩ = some (.int .u8 r2) := fun n => Ext.cell n hZ 3
  have y4 : ∀ n : Ext W, n.w.cell? ⟨w.heap.size + 1, 4, none⟩ = some (.int .i64 im) := fun n => Ext.cell n hZ 4
  have y6 : ∀ n : Ext W, n.w.cell? ⟨w.heap.size + 1, 6, none⟩ = some (.int .u8 sz) := fun n => Ext.cell n hZ 6
  have Y0 : Hid (∀ w1, Fr [] W w1 → w1.cell? ⟨w.heap.size + 1, 0, none⟩ = some (.int .u8 op)) := hid fun w1 h => y0 ⟨w1, h⟩
  have Y1 : Hid (∀ w1, Fr [] W w1 → w1.cell? ⟨w.heap.size + 1, 1, none⟩ = some (.int .u8 rd)) := hid fun w1 h => by rw [blk_cell (h.keeps hZ (by simp))]; rfl
  clear hF hZ hS hR
  have hne := ext_ne W
  have c1 : Hid (∀ n : Ext W, Calls Try.prog 17 #[.agg (regC s), .int .u8 r1] n.w fun e w'' => e = .returned (.int .u64 a) ∧ ∃ m : Ext W, w'' = m.w) := fun n => Ext.call n (h1.out _)
  have c2 : Hid (∀ n : Ext W, Calls Try.prog 17 #[.agg (regC s), .int .u8 r2] n.w fun e w'' => e = .returned (.int .u64 b) ∧ ∃ m : Ext W, w'' = m.w) := fun n => Ext.call n (h2.out _)
  clear h1 h2
  refine wp_region_ext (by kernel_rfl) (by kernel_rfl) ?_
  repeat (first | (go_big_quiet_want; refine quiet_row 39 _ rfl w.heap.size rfl 39 (regC s) (0, 0) _ (fun w' hw' => by obtain ⟨n, rfl⟩ := hw'; exact n.blk HS.out) Try.underlying39 rfl (size_r _) ?_; go_simp; go_big_quiet_on) | go_big_quiet_step (first | (go_at_call 17; with_reducible exact c1.out _) | (go_at_call 17; with_reducible exact c2.out _)))
  refine wpQuiet_nil ?_
  intro w' hw'
  obtain ⟨m1, rfl⟩ := hw'
  have hK := m1.fr
  generalize m1.w = W1 at *
  have x0 : W1.cell? ⟨w.heap.size + 1, 0, none⟩ = some (.int .u8 op) := Y0.out _ hK
  have x1 := Y1.out _ hK
  clear y0 y2 y3 y4 y6 c1 c2 hne m1
  go_wp2_with (first | (go_at_call 26; (with_reducible refine (h3.out _).mono ?_); rintro e w8 ⟨rfl, hd⟩; replace hK := hK.trans hd; clear hd; have x0 := Y0.out _ hK; have x1 := Y1.out _ hK) | (refine wpList_load_row_g (by rfl) 39 _ (by rfl) w.heap.size (by rfl) 39 (regC s) (0, 0) _ (hK.keeps HS.out (by simp)) Try.underlying39 rfl (size_r _) ?_) | (refine wpList_store_whole rfl 39 _ _ rfl (w.heap.size + 1 + 1) rfl (regC s) rfl 39 _ (hK.keeps HR.out (by simp)) (by rw [regC_size, regC_size]) (size_r _) (regC_one _) ?_; intro w9 h9' hfr9))
  exact ⟨rfl, _, results_ctt rfl rfl h9' Try.underlying39 rfl (size_r _), rfl, (HF.out.trans hK).step hfr9 (fun j hj => .inr (by rw [List.mem_singleton.1 hj]; omega))⟩
set_option maxRecDepth 100000 in
set_option maxHeartbeats 4000000 in
theorem rd_ar1t (s s' : Nat → Int) (pc rd r1 r2 im cs sz a b op ro v : Int) (tk kn : Bool) (w : World) (p0 : 0 ≤ pc) (p1 : pc < 18446744073709551616) (b0 : 0 ≤ op ∧ op < 256) (b2 : 0 ≤ r1 ∧ r1 < 256) (b3 : 0 ≤ r2 ∧ r2 < 256) (b4 : -9223372036854775808 ≤ im) (b4b : im ≤ 9223372036854775807) (b6 : 0 ≤ sz) (b6b : sz < 256) (b1 : 0 ≤ rd ∧ rd < 256) (a0 : 0 ≤ a) (a1 : a < 18446744073709551616) (h1 : Hid (∀ w, Calls Try.prog 17 #[.agg (regC s), .int .u8 r1] w fun e w' => e = .returned (.int .u64 a) ∧ Fr [] w w')) (h2 : Hid (∀ w, Calls Try.prog 17 #[.agg (regC s), .int .u8 r2] w fun e w' => e = .returned (.int .u64 b) ∧ Fr [] w w')) (h3 : Hid (∀ w, Calls Try.prog 26 #[.int .u8 op, .int .u64 a, .int .u64 b] w fun e w' => e = .returned (.tuple #[.bool tk, .bool false]) ∧ Fr [] w w')) (h4 : Hid (∀ w, Calls Try.prog 27 #[.int .u8 op] w fun e w' => e = .returned (.tuple #[.int .u8 ro, .bool kn]) ∧ Fr [] w w')) (h5 : Hid (∀ w, Calls Try.prog 28 #[.int .u8 op, .int .u64 a, .int .u64 (IntKind.u64.wrap im)] w fun e w' => e = .returned (.tuple #[.int .u64 v, .bool true]) ∧ Fr [] w w')) (h9 : Hid (∀ w, Calls Try.prog 25 #[.agg (regC s), .int .u8 rd, .int .u64 (v)] w fun e w' => e = .returned (.agg (regC s')) ∧ Fr [] w w')) (t1 : (op == 1) = false) (t2 : (op == 2) = false) (t3 : (op == 3) = false) (t4 : (op == 4) = false) (t5 : (ro != op) = true) :
    Calls Try.prog 14 #[.agg (regC s), .int .u64 pc, .agg (IC (op, rd, r1, r2, im, cs, sz))] w fun e w' => e = .returned (.tuple #[.agg (regC s'), .int .u64 (IntKind.u64.wrap (pc + sz)), .bool true]) ∧ Fr [] w w' := by
  go_enter Try.func14, Try.ntmps14
  go_upto_region 1 with fail
  refine world_at' (fun W => W.heap[w.heap.size]? = some (.cells (regC s) 39) ∧ W.heap[w.heap.size + 1]? = some (.cells (IC (op, rd, r1, r2, im, cs, sz)) 27) ∧ W.heap[w.heap.size + 2]? = some (.cells (regC fun _ => 0) 39) ∧ Fr [] w W) ⟨blk_alloc (blk_alloc (blk_new _ _) _) _, blk_alloc (blk_new' (n := w.heap.size + 1) (by simp) _) _, by rw [zeroR]; exact blk_new' (n := w.heap.size + 2) (by simp) _, (((Fr.refl [] w).alloc _).alloc _).alloc _⟩ ?_
  rintro W ⟨hS, hZ, hR, hF⟩
  have HF := hid hF
  have HS := hid hS
  have HR := hid hR
  have y0 : ∀ n : Ext W, n.w.cell? ⟨w.heap.size + 1, 0, none⟩ = some (.int .u8 op) := fun n => Ext.cell n hZ 0
  have y2 : ∀ n : Ext W, n.w.cell? ⟨w.heap.size + 1, 2, none⟩ = some (.int .u8 r1) := fun n => Ext.cell n hZ 2
  have y3 : ∀ n : Ext W, n.w.cell? ⟨w.heap.size + 1, 3, none⟩ = some (.int .u8 r2) := fun n => Ext.cell n hZ 3
  have y4 : ∀ n : Ext W, n.w.cell? ⟨w.heap.size + 1, 4, none⟩ = some (.int .i64 im) := fun n => Ext.cell n hZ 4
  have y6 : ∀ n : Ext W, n.w.cell? ⟨w.heap.size + 1, 6, none⟩ = some (.int .u8 sz) := fun n => Ext.cell n hZ 6
  have Y0 : Hid (∀ w1, Fr [] W w1 → w1.cell? ⟨w.heap.size + 1, 0, none⟩ = some (.int .u8 op)) := hid fun w1 h => y0 ⟨w1, h⟩
  have Y1 : Hid (∀ w1, Fr [] W w1 → w1.cell? ⟨w.heap.size + 1, 1, none⟩ = some (.int .u8 rd)) := hid fun w1 h => by rw [blk_cell (h.keeps hZ (by simp))]; rfl
  clear hF hZ hS hR
  have hne := ext_ne W
  have c1 : Hid (∀ n : Ext W, Calls Try.prog 17 #[.agg (regC s), .int .u8 r1] n.w fun e w'' => e = .returned (.int .u64 a) ∧ ∃ m : Ext W, w'' = m.w) := fun n => Ext.call n (h1.out _)
  have c2 : Hid (∀ n : Ext W, Calls Try.prog 17 #[.agg (regC s), .int .u8 r2] n.w fun e w'' => e = .returned (.int .u64 b) ∧ ∃ m : Ext W, w'' = m.w) := fun n => Ext.call n (h2.out _)
  clear h1 h2
  refine wp_region_ext (by kernel_rfl) (by kernel_rfl) ?_
  repeat (first | (go_big_quiet_want; refine quiet_row 39 _ rfl w.heap.size rfl 39 (regC s) (0, 0) _ (fun w' hw' => by obtain ⟨n, rfl⟩ := hw'; exact n.blk HS.out) Try.underlying39 rfl (size_r _) ?_; go_simp; go_big_quiet_on) | go_big_quiet_step (first | (go_at_call 17; with_reducible exact c1.out _) | (go_at_call 17; with_reducible exact c2.out _)))
  refine wpQuiet_nil ?_
  intro w' hw'
  obtain ⟨m1, rfl⟩ := hw'
  have hK := m1.fr
  generalize m1.w = W1 at *
  have x0 : W1.cell? ⟨w.heap.size + 1, 0, none⟩ = some (.int .u8 op) := Y0.out _ hK
  have x1 := Y1.out _ hK
  clear y0 y2 y3 y4 y6 c1 c2 hne m1
  go_wp2_with (first | (go_at_call 26; (with_reducible refine (h3.out _).mono ?_); rintro e w8 ⟨rfl, hd⟩; replace hK := hK.trans hd; clear hd; have x0 := Y0.out _ hK; have x1 := Y1.out _ hK) | (go_at_call 27; (with_reducible refine (h4.out _).mono ?_); rintro e w8 ⟨rfl, hd⟩; replace hK := hK.trans hd; clear hd; have x0 := Y0.out _ hK; have x1 := Y1.out _ hK) | (go_at_call 28; (with_reducible refine (h5.out _).mono ?_); rintro e w8 ⟨rfl, hd⟩; replace hK := hK.trans hd; clear hd; have x0 := Y0.out _ hK; have x1 := Y1.out _ hK) | (go_at_call 25; (with_reducible refine (h9.out _).mono ?_); rintro e w8 ⟨rfl, hd⟩; replace hK := hK.trans hd; clear hd; have x0 := Y0.out _ hK; have x1 := Y1.out _ hK) | (refine wpList_load_row_g (by rfl) 39 _ (by rfl) w.heap.size (by rfl) 39 (regC s) (0, 0) _ (hK.keeps HS.out (by simp)) Try.underlying39 rfl (size_r _) ?_) | (refine wpList_store_whole rfl 39 _ _ rfl (w.heap.size + 1 + 1) rfl (regC s') rfl 39 _ (hK.keeps HR.out (by simp)) (by rw [regC_size, regC_size]) (size_r _) (regC_one _) ?_; intro w9 h9' hfr9))
  exact ⟨rfl, _, results_ctt rfl rfl h9' Try.underlying39 rfl (size_r _), rfl, (HF.out.trans hK).step hfr9 (fun j hj => .inr (by rw [List.mem_singleton.1 hj]; omega))⟩
set_option maxRecDepth 100000 in
set_option maxHeartbeats 4000000 in
theorem rd_ar1f (s s' : Nat → Int) (pc rd r1 r2 im cs sz a b op ro v : Int) (tk kn : Bool) (w : World) (p0 : 0 ≤ pc) (p1 : pc < 18446744073709551616) (b0 : 0 ≤ op ∧ op < 256) (b2 : 0 ≤ r1 ∧ r1 < 256) (b3 : 0 ≤ r2 ∧ r2 < 256) (b4 : -9223372036854775808 ≤ im) (b4b : im ≤ 9223372036854775807) (b6 : 0 ≤ sz) (b6b : sz < 256) (b1 : 0 ≤ rd ∧ rd < 256) (a0 : 0 ≤ a) (a1 : a < 18446744073709551616) (h1 : Hid (∀ w, Calls Try.prog 17 #[.agg (regC s), .int .u8 r1] w fun e w' => e = .returned (.int .u64 a) ∧ Fr [] w w')) (h2 : Hid (∀ w, Calls Try.prog 17 #[.agg (regC s), .int .u8 r2] w fun e w' => e = .returned (.int .u64 b) ∧ Fr [] w w')) (h3 : Hid (∀ w, Calls Try.prog 26 #[.int .u8 op, .int .u64 a, .int .u64 b] w fun e w' => e = .returned (.tuple #[.bool tk, .bool false]) ∧ Fr [] w w')) (h4 : Hid (∀ w, Calls Try.prog 27 #[.int .u8 op] w fun e w' => e = .returned (.tuple #[.int .u8 ro, .bool kn]) ∧ Fr [] w w')) (h5 : Hid (∀ w, Calls Try.prog 28 #[.int .u8 op, .int .u64 a, .int .u64 (IntKind.u64.wrap im)] w fun e w' => e = .returned (.tuple #[.int .u64 v, .bool false]) ∧ Fr [] w w')) (t1 : (op == 1) = false) (t2 : (op == 2) = false) (t3 : (op == 3) = false) (t4 : (op == 4) = false) (t5 : (ro != op) = true) :
    Calls Try.prog 14 #[.agg (regC s), .int .u64 pc, .agg (IC (op, rd, r1, r2, im, cs, sz))] w fun e w' => e = .returned (.tuple #[.agg (regC s), .int .u64 (pc), .bool false]) ∧ Fr [] w w' := by
  go_enter Try.func14, Try.ntmps14
  go_upto_region 1 with fail
  refine world_at' (fun W => W.heap[w.heap.size]? = some (.cells (regC s) 39) ∧ W.heap[w.heap.size + 1]? = some (.cells (IC (op, rd, r1, r2, im, cs, sz)) 27) ∧ W.heap[w.heap.size + 2]? = some (.cells (regC fun _ => 0) 39) ∧ Fr [] w W) ⟨blk_alloc (blk_alloc (blk_new _ _) _) _, blk_alloc (blk_new' (n := w.heap.size + 1) (by simp) _) _, by rw [zeroR]; exact blk_new' (n := w.heap.size + 2) (by simp) _, (((Fr.refl [] w).alloc _).alloc _).alloc _⟩ ?_
  rintro W ⟨hS, hZ, hR, hF⟩
  have HF := hid hF
  have HS := hid hS
  have HR := hid hR
  have y0 : ∀ n : Ext W, n.w.cell? ⟨w.heap.size + 1, 0, none⟩ = some (.int .u8 op) := fun n => Ext.cell n hZ 0
  have y2 : ∀ n : Ext W, n.w.cell? ⟨w.heap.size + 1, 2, none⟩ = some (.int .u8 r1) := fun n => Ext.cell n hZ 2
  have y3 : ∀ n : Ext W, n.w.cell? ⟨w.heap.size + 1, 3, none⟩ = some (.int .u8 r2) := fun n => Ext.cell n hZ 3
  have y4 : ∀ n : Ext W, n.w.cell? ⟨w.heap.size + 1, 4, none⟩ = some (.int .i64 im) := fun n => Ext.cell n hZ 4
  have y6 : ∀ n : Ext W, n.w.cell? ⟨w.heap.size + 1, 6, none⟩ = some (.int .u8 sz) := fun n => Ext.cell n hZ 6
  have Y0 : Hid (∀ w1, Fr [] W w1 → w1.cell? ⟨w.heap.size + 1, 0, none⟩ = some (.int .u8 op)) := hid fun w1 h => y0 ⟨w1, h⟩
  have Y1 : Hid (∀ w1, Fr [] W w1 → w1.cell? ⟨w.heap.size + 1, 1, none⟩ = some (.int .u8 rd)) := hid fun w1 h => by rw [blk_cell (h.keeps hZ (by simp))]; rfl
  clear hF hZ hS hR
  have hne := ext_ne W
  have c1 : Hid (∀ n : Ext W, Calls Try.prog 17 #[.agg (regC s), .int .u8 r1] n.w fun e w'' => e = .returned (.int .u64 a) ∧ ∃ m : Ext W, w'' = m.w) := fun n => Ext.call n (h1.out _)
  have c2 : Hid (∀ n : Ext W, Calls Try.prog 17 #[.agg (regC s), .int .u8 r2] n.w fun e w'' => e = .returned (.int .u64 b) ∧ ∃ m : Ext W, w'' = m.w) := fun n => Ext.call n (h2.out _)
  clear h1 h2
  refine wp_region_ext (by kernel_rfl) (by kernel_rfl) ?_
  repeat (first | (go_big_quiet_want; refine quiet_row 39 _ rfl w.heap.size rfl 39 (regC s) (0, 0) _ (fun w' hw' => by obtain ⟨n, rfl⟩ := hw'; exact n.blk HS.out) Try.underlying39 rfl (size_r _) ?_; go_simp; go_big_quiet_on) | go_big_quiet_step (first | (go_at_call 17; with_reducible exact c1.out _) | (go_at_call 17; with_reducible exact c2.out _)))
  refine wpQuiet_nil ?_
  intro w' hw'
  obtain ⟨m1, rfl⟩ := hw'
  have hK := m1.fr
  generalize m1.w = W1 at *
  have x0 : W1.cell? ⟨w.heap.size + 1, 0, none⟩ = some (.int .u8 op) := Y0.out _ hK
  have x1 := Y1.out _ hK
  clear y0 y2 y3 y4 y6 c1 c2 hne m1
  go_wp2_with (first | (go_at_call 26; (with_reducible refine (h3.out _).mono ?_); rintro e w8 ⟨rfl, hd⟩; replace hK := hK.trans hd; clear hd; have x0 := Y0.out _ hK; have x1 := Y1.out _ hK) | (go_at_call 27; (with_reducible refine (h4.out _).mono ?_); rintro e w8 ⟨rfl, hd⟩; replace hK := hK.trans hd; clear hd; have x0 := Y0.out _ hK; have x1 := Y1.out _ hK) | (go_at_call 28; (with_reducible refine (h5.out _).mono ?_); rintro e w8 ⟨rfl, hd⟩; replace hK := hK.trans hd; clear hd; have x0 := Y0.out _ hK; have x1 := Y1.out _ hK) | (refine wpList_load_row_g (by rfl) 39 _ (by rfl) w.heap.size (by rfl) 39 (regC s) (0, 0) _ (hK.keeps HS.out (by simp)) Try.underlying39 rfl (size_r _) ?_) | (refine wpList_store_whole rfl 39 _ _ rfl (w.heap.size + 1 + 1) rfl (regC s) rfl 39 _ (hK.keeps HR.out (by simp)) (by rw [regC_size, regC_size]) (size_r _) (regC_one _) ?_; intro w9 h9' hfr9))
  exact ⟨rfl, _, results_ctt rfl rfl h9' Try.underlying39 rfl (size_r _), rfl, (HF.out.trans hK).step hfr9 (fun j hj => .inr (by rw [List.mem_singleton.1 hj]; omega))⟩
set_option maxRecDepth 100000 in
set_option maxHeartbeats 4000000 in
theorem rd_ar0t (s s' : Nat → Int) (pc rd r1 r2 im cs sz a b op ro v : Int) (tk kn : Bool) (w : World) (p0 : 0 ≤ pc) (p1 : pc < 18446744073709551616) (b0 : 0 ≤ op ∧ op < 256) (b2 : 0 ≤ r1 ∧ r1 < 256) (b3 : 0 ≤ r2 ∧ r2 < 256) (b4 : -9223372036854775808 ≤ im) (b4b : im ≤ 9223372036854775807) (b6 : 0 ≤ sz) (b6b : sz < 256) (b1 : 0 ≤ rd ∧ rd < 256) (a0 : 0 ≤ a) (a1 : a < 18446744073709551616) (h1 : Hid (∀ w, Calls Try.prog 17 #[.agg (regC s), .int .u8 r1] w fun e w' => e = .returned (.int .u64 a) ∧ Fr [] w w')) (h2 : Hid (∀ w, Calls Try.prog 17 #[.agg (regC s), .int .u8 r2] w fun e w' => e = .returned (.int .u64 b) ∧ Fr [] w w')) (h3 : Hid (∀ w, Calls Try.prog 26 #[.int .u8 op, .int .u64 a, .int .u64 b] w fun e w' => e = .returned (.tuple #[.bool tk, .bool false]) ∧ Fr [] w w')) (h4 : Hid (∀ w, Calls Try.prog 27 #[.int .u8 op] w fun e w' => e = .returned (.tuple #[.int .u8 ro, .bool kn]) ∧ Fr [] w w')) (h5 : Hid (∀ w, Calls Try.prog 28 #[.int .u8 op, .int .u64 a, .int .u64 (b)] w fun e w' => e = .returned (.tuple #[.int .u64 v, .bool true]) ∧ Fr [] w w')) (h9 : Hid (∀ w, Calls Try.prog 25 #[.agg (regC s), .int .u8 rd, .int .u64 (v)] w fun e w' => e = .returned (.agg (regC s')) ∧ Fr [] w w')) (t1 : (op == 1) = false) (t2 : (op == 2) = false) (t3 : (op == 3) = false) (t4 : (op == 4) = false) (t5 : (ro != op) = false) :
    Calls Try.prog 14 #[.agg (regC s), .int .u64 pc, .agg (IC (op, rd, r1, r2, im, cs, sz))] w fun e w' => e = .returned (.tuple #[.agg (regC s'), .int .u64 (IntKind.u64.wrap (pc + sz)), .bool true]) ∧ Fr [] w w' := by
  go_enter Try.func14, Try.ntmps14
  go_upto_region 1 with fail
  refine world_at' (fun W => W.heap[w.heap.size]? = some (.cells (regC s) 39) ∧ W.heap[w.heap.size + 1]? = some (.cells (IC (op, rd, r1, r2, im, cs, sz)) 27) ∧ W.heap[w.heap.size + 2]? = some (.cells (regC fun _ => 0) 39) ∧ Fr [] w W) ⟨blk_alloc (blk_alloc (blk_new _ _) _) _, blk_alloc (blk_new' (n := w.heap.size + 1) (by simp) _) _, by rw [zeroR]; exact blk_new' (n := w.heap.size + 2) (by simp) _, (((Fr.refl [] w).alloc _).alloc _).alloc _⟩ ?_
  rintro W ⟨hS, hZ, hR, hF⟩
  have HF := hid hF
  have HS := hid hS
  have HR := hid hR
  have y0 : ∀ n : Ext W, n.w.cell? ⟨w.heap.size + 1, 0, none⟩ = some (.int .u8 op) := fun n => Ext.cell n hZ 0
  have y2 : ∀ n : Ext W, n.w.cell? ⟨w.heap.size + 1, 2, none⟩ = some (.int .u8 r1) := fun n => Ext.cell n hZ 2
  have y3 : ∀ n : Ext W, n.w.cell? ⟨w.heap.size + 1, 3, none⟩ = some (.int .u8 r2) := fun n => Ext.cell n hZ 3
  have y4 : ∀ n : Ext W, n.w.cell? ⟨w.heap.size + 1, 4, none⟩ = some (.int .i64 im) := fun n => Ext.cell n hZ 4
  have y6 : ∀ n : Ext W, n.w.cell? ⟨w.heap.size + 1, 6, none⟩ = some (.int .u8 sz) := fun n => Ext.cell n hZ 6
  have Y0 : Hid (∀ w1, Fr [] W w1 → w1.cell? ⟨w.heap.size + 1, 0, none⟩ = some (.int .u8 op)) := hid fun w1 h => y0 ⟨w1, h⟩
  have Y1 : Hid (∀ w1, Fr [] W w1 → w1.cell? ⟨w.heap.size + 1, 1, none⟩ = some (.int .u8 rd)) := hid fun w1 h => by rw [blk_cell (h.keeps hZ (by simp))]; rfl
  clear hF hZ hS hR
  have hne := ext_ne W
  have c1 : Hid (∀ n : Ext W, Calls Try.prog 17 #[.agg (regC s), .int .u8 r1] n.w fun e w'' => e = .returned (.int .u64 a) ∧ ∃ m : Ext W, w'' = m.w) := fun n => Ext.call n (h1.out _)
  have c2 : Hid (∀ n : Ext W, Calls Try.prog 17 #[.agg (regC s), .int .u8 r2] n.w fun e w'' => e = .returned (.int .u64 b) ∧ ∃ m : Ext W, w'' = m.w) := fun n => Ext.call n (h2.out _)
  clear h1 h2
  refine wp_region_ext (by kernel_rfl) (by kernel_rfl) ?_
  repeat (first | (go_big_quiet_want; refine quiet_row 39 _ rfl w.heap.size rfl 39 (regC s) (0, 0) _ (fun w' hw' => by obtain ⟨n, rfl⟩ := hw'; exact n.blk HS.out) Try.underlying39 rfl (size_r _) ?_; go_simp; go_big_quiet_on) | go_big_quiet_step (first | (go_at_call 17; with_reducible exact c1.out _) | (go_at_call 17; with_reducible exact c2.out _)))
  refine wpQuiet_nil ?_
  intro w' hw'
  obtain ⟨m1, rfl⟩ := hw'
  have hK := m1.fr
  generalize m1.w = W1 at *
  have x0 : W1.cell? ⟨w.heap.size + 1, 0, none⟩ = some (.int .u8 op) := Y0.out _ hK
  have x1 := Y1.out _ hK
  clear y0 y2 y3 y4 y6 c1 c2 hne m1
  go_wp2_with (first | (go_at_call 26; (with_reducible refine (h3.out _).mono ?_); rintro e w8 ⟨rfl, hd⟩; replace hK := hK.trans hd; clear hd; have x0 := Y0.out _ hK; have x1 := Y1.out _ hK) | (go_at_call 27; (with_reducible refine (h4.out _).mono ?_); rintro e w8 ⟨rfl, hd⟩; replace hK := hK.trans hd; clear hd; have x0 := Y0.out _ hK; have x1 := Y1.out _ hK) | (go_at_call 28; (with_reducible refine (h5.out _).mono ?_); rintro e w8 ⟨rfl, hd⟩; replace hK := hK.trans hd; clear hd; have x0 := Y0.out _ hK; have x1 := Y1.out _ hK) | (go_at_call 25; (with_reducible refine (h9.out _).mono ?_); rintro e w8 ⟨rfl, hd⟩; replace hK := hK.trans hd; clear hd; have x0 := Y0.out _ hK; have x1 := Y1.out _ hK) | (refine wpList_load_row_g (by rfl) 39 _ (by rfl) w.heap.size (by rfl) 39 (regC s) (0, 0) _ (hK.keeps HS.out (by simp)) Try.underlying39 rfl (size_r _) ?_) | (refine wpList_store_whole rfl 39 _ _ rfl (w.heap.size + 1 + 1) rfl (regC s') rfl 39 _ (hK.keeps HR.out (by simp)) (by rw [regC_size, regC_size]) (size_r _) (regC_one _) ?_; intro w9 h9' hfr9))
  exact ⟨rfl, _, results_ctt rfl rfl h9' Try.underlying39 rfl (size_r _), rfl, (HF.out.trans hK).step hfr9 (fun j hj => .inr (by rw [List.mem_singleton.1 hj]; omega))⟩
set_option maxRecDepth 100000 in
set_option maxHeartbeats 4000000 in
theorem rd_ar0f (s s' : Nat → Int) (pc rd r1 r2 im cs sz a b op ro v : Int) (tk kn : Bool) (w : World) (p0 : 0 ≤ pc) (p1 : pc < 18446744073709551616) (b0 : 0 ≤ op ∧ op < 256) (b2 : 0 ≤ r1 ∧ r1 < 256) (b3 : 0 ≤ r2 ∧ r2 < 256) (b4 : -9223372036854775808 ≤ im) (b4b : im ≤ 9223372036854775807) (b6 : 0 ≤ sz) (b6b : sz < 256) (b1 : 0 ≤ rd ∧ rd < 256) (a0 : 0 ≤ a) (a1 : a < 18446744073709551616) (h1 : Hid (∀ w, Calls Try.prog 17 #[.agg (regC s), .int .u8 r1] w fun e w' => e = .returned (.int .u64 a) ∧ Fr [] w w')) (h2 : Hid (∀ w, Calls Try.prog 17 #[.agg (regC s), .int .u8 r2] w fun e w' => e = .returned (.int .u64 b) ∧ Fr [] w w')) (h3 : Hid (∀ w, Calls Try.prog 26 #[.int .u8 op, .int .u64 a, .int .u64 b] w fun e w' => e = .returned (.tuple #[.bool tk, .bool false]) ∧ Fr [] w w')) (h4 : Hid (∀ w, Calls Try.prog 27 #[.int .u8 op] w fun e w' => e = .returned (.tuple #[.int .u8 ro, .bool kn]) ∧ Fr [] w w')) (h5 : Hid (∀ w, Calls Try.prog 28 #[.int .u8 op, .int .u64 a, .int .u64 (b)] w fun e w' => e = .returned (.tuple #[.int .u64 v, .bool false]) ∧ Fr [] w w')) (t1 : (op == 1) = false) (t2 : (op == 2) = false) (t3 : (op == 3) = false) (t4 : (op == 4) = false) (t5 : (ro != op) = false) :
    Calls Try.prog 14 #[.agg (regC s), .int .u64 pc, .agg (IC (op, rd, r1, r2, im, cs, sz))] w fun e w' => e = .returned (.tuple #[.agg (regC s), .int .u64 (pc), .bool false]) ∧ Fr [] w w' := by
  go_enter Try.func14, Try.ntmps14
  go_upto_region 1 with fail
  refine world_at' (fun W => W.heap[w.heap.size]? = some (.cells (regC s) 39) ∧ W.heap[w.heap.size + 1]? = some (.cells (IC (op, rd, r1, r2, im, cs, sz)) 27) ∧ W.heap[w.heap.size + 2]? = some (.cells (regC fun _ => 0) 39) ∧ Fr [] w W) ⟨blk_alloc (blk_alloc (blk_new _ _) _) _, blk_alloc (blk_new' (n := w.heap.size + 1) (by simp) _) _, by rw [zeroR]; exact blk_new' (n := w.heap.size + 2) (by simp) _, (((Fr.refl [] w).alloc _).alloc _).alloc _⟩ ?_
  rintro W ⟨hS, hZ, hR, hF⟩
  have HF := hid hF
  have HS := hid hS
  have HR := hid hR
  have y0 : ∀ n : Ext W, n.w.cell? ⟨w.heap.size + 1, 0, none⟩ = some (.int .u8 op) := fun n => Ext.cell n hZ 0
  have y2 : ∀ n : Ext W, n.w.cell? ⟨w.heap.size + 1, 2, none⟩ = some (.int .u8 r1) := fun n => Ext.cell n hZ 2
  have y3 : ∀ n : Ext W, n.w.cell? ⟨w.heap.size + 1, 3, none⟩ = some (.int .u8 r2) := fun n => Ext.cell n hZ 3
  have y4 : ∀ n : Ext W, n.w.cell? ⟨w.heap.size + 1, 4, none⟩ = some (.int .i64 im) := fun n => Ext.cell n hZ 4
  have y6 : ∀ n : Ext W, n.w.cell? ⟨w.heap.size + 1, 6, none⟩ = some (.int .u8 sz) := fun n => Ext.cell n hZ 6
  have Y0 : Hid (∀ w1, Fr [] W w1 → w1.cell? ⟨w.heap.size + 1, 0, none⟩ = some (.int .u8 op)) := hid fun w1 h => y0 ⟨w1, h⟩
  have Y1 : Hid (∀ w1, Fr [] W w1 → w1.cell? ⟨w.heap.size + 1, 1, none⟩ = some (.int .u8 rd)) := hid fun w1 h => by rw [blk_cell (h.keeps hZ (by simp))]; rfl
  clear hF hZ hS hR
  have hne := ext_ne W
  have c1 : Hid (∀ n : Ext W, Calls Try.prog 17 #[.agg (regC s), .int .u8 r1] n.w fun e w'' => e = .returned (.int .u64 a) ∧ ∃ m : Ext W, w'' = m.w) := fun n => Ext.call n (h1.out _)
  have c2 : Hid (∀ n : Ext W, Calls Try.prog 17 #[.agg (regC s), .int .u8 r2] n.w fun e w'' => e = .returned (.int .u64 b) ∧ ∃ m : Ext W, w'' = m.w) := fun n => Ext.call n (h2.out _)
  clear h1 h2
  refine wp_region_ext (by kernel_rfl) (by kernel_rfl) ?_
  repeat (first | (go_big_quiet_want; refine quiet_row 39 _ rfl w.heap.size rfl 39 (regC s) (0, 0) _ (fun w' hw' => by obtain ⟨n, rfl⟩ := hw'; exact n.blk HS.out) Try.underlying39 rfl (size_r _) ?_; go_simp; go_big_quiet_on) | go_big_quiet_step (first | (go_at_call 17; with_reducible exact c1.out _) | (go_at_call 17; with_reducible exact c2.out _)))
  refine wpQuiet_nil ?_
  intro w' hw'
  obtain ⟨m1, rfl⟩ := hw'
  have hK := m1.fr
  generalize m1.w = W1 at *
  have x0 : W1.cell? ⟨w.heap.size + 1, 0, none⟩ = some (.int .u8 op) := Y0.out _ hK
  have x1 := Y1.out _ hK
  clear y0 y2 y3 y4 y6 c1 c2 hne m1
  go_wp2_with (first | (go_at_call 26; (with_reducible refine (h3.out _).mono ?_); rintro e w8 ⟨rfl, hd⟩; replace hK := hK.trans hd; clear hd; have x0 := Y0.out _ hK; have x1 := Y1.out _ hK) | (go_at_call 27; (with_reducible refine (h4.out _).mono ?_); rintro e w8 ⟨rfl, hd⟩; replace hK := hK.trans hd; clear hd; have x0 := Y0.out _ hK; have x1 := Y1.out _ hK) | (go_at_call 28; (with_reducible refine (h5.out _).mono ?_); rintro e w8 ⟨rfl, hd⟩; replace hK := hK.trans hd; clear hd; have x0 := Y0.out _ hK; have x1 := Y1.out _ hK) | (refine wpList_load_row_g (by rfl) 39 _ (by rfl) w.heap.size (by rfl) 39 (regC s) (0, 0) _ (hK.keeps HS.out (by simp)) Try.underlying39 rfl (size_r _) ?_) | (refine wpList_store_whole rfl 39 _ _ rfl (w.heap.size + 1 + 1) rfl (regC s) rfl 39 _ (hK.keeps HR.out (by simp)) (by rw [regC_size, regC_size]) (size_r _) (regC_one _) ?_; intro w9 h9' hfr9))
  exact ⟨rfl, _, results_ctt rfl rfl h9' Try.underlying39 rfl (size_r _), rfl, (HF.out.trans hK).step hfr9 (fun j hj => .inr (by rw [List.mem_singleton.1 hj]; omega))⟩
set_option maxRecDepth 100000 in
set_option maxHeartbeats 4000000 in
theorem ra_m (s : Nat → Int) (op rd r1 r2 im cs sz a : Int) (w : World) (b0 : 0 ≤ op ∧ op < 256) (b2 : 0 ≤ r1 ∧ r1 < 256) (b3 : 0 ≤ r2 ∧ r2 < 256) (b4 : -9223372036854775808 ≤ im) (b4b : im ≤ 9223372036854775807) (b6 : 0 ≤ sz) (b6b : sz < 256) (h1 : Hid (∀ w, Calls Try.prog 17 #[.agg (regC s), .int .u8 r1] w fun e w' => e = .returned (.int .u64 a) ∧ Fr [] w w')) (t1 : decide (11 ≤ op) = true) (t2 : decide (op ≤ 21) = true) :
    Calls Try.prog 16 #[.agg (regC s), .agg (IC (op, rd, r1, r2, im, cs, sz))] w fun e w' => e = .returned (.tuple #[.int .u64 (IntKind.u64.wrap (a + IntKind.u64.wrap im)), .bool true]) ∧ Fr [] w w' := by
  go_enter Try.func16, Try.ntmps16
  go_upto_region 1 with fail
  refine world_at' (fun W => W.heap[w.heap.size]? = some (.cells (regC s) 39) ∧ W.heap[w.heap.size + 1]? = some (.cells (IC (op, rd, r1, r2, im, cs, sz)) 27) ∧ Fr [] w W) ⟨blk_alloc (blk_new _ _) _, blk_new' (n := w.heap.size + 1) (by simp) _, ((Fr.refl [] w).alloc _).alloc _⟩ ?_
  rintro W ⟨hS, hZ, hF⟩
  have HF := hid hF
  have HS := hid hS
  have x0 : W.cell? ⟨w.heap.size + 1, 0, none⟩ = some (.int .u8 op) := by rw [blk_cell hZ]; rfl
  have x2 : W.cell? ⟨w.heap.size + 1, 2, none⟩ = some (.int .u8 r1) := by rw [blk_cell hZ]; rfl
  have x4 : W.cell? ⟨w.heap.size + 1, 4, none⟩ = some (.int .i64 im) := by rw [blk_cell hZ]; rfl
  have y2 : ∀ n : Ext W, n.w.cell? ⟨w.heap.size + 1, 2, none⟩ = some (.int .u8 r1) := fun n => Ext.cell n hZ 2
  have y4 : ∀ n : Ext W, n.w.cell? ⟨w.heap.size + 1, 4, none⟩ = some (.int .i64 im) := fun n => Ext.cell n hZ 4
  have hne := ext_ne W
  clear hF hS hZ
  go_upto_region 2 with fail
  have c1 : Hid (∀ n : Ext W, Calls Try.prog 17 #[.agg (regC s), .int .u8 r1] n.w fun e w'' => e = .returned (.int .u64 a) ∧ ∃ m : Ext W, w'' = m.w) := fun n => Ext.call n (h1.out _)
  refine wp_region_ext (by kernel_rfl) (by kernel_rfl) ?_
  repeat (first | (go_big_quiet_want; refine quiet_row 39 _ rfl w.heap.size rfl 39 (regC s) (0, 0) _ (fun w' hw' => by obtain ⟨n, rfl⟩ := hw'; exact n.blk HS.out) Try.underlying39 rfl (size_r _) ?_; go_simp; go_big_quiet_on) | go_big_quiet_step ((go_at_call 17; with_reducible exact c1.out _)))
  refine wpQuiet_nil ?_
  intro w' hw'
  obtain ⟨m1, rfl⟩ := hw'
  go_wp2
  go_ret2
  exact ⟨rfl, HF.out.trans m1.fr⟩
set_option maxRecDepth 100000 in
set_option maxHeartbeats 4000000 in
theorem ra_a (s : Nat → Int) (op rd r1 r2 im cs sz a : Int) (w : World) (b0 : 0 ≤ op ∧ op < 256) (b2 : 0 ≤ r1 ∧ r1 < 256) (b3 : 0 ≤ r2 ∧ r2 < 256) (b4 : -9223372036854775808 ≤ im) (b4b : im ≤ 9223372036854775807) (b6 : 0 ≤ sz) (b6b : sz < 256) (h1 : Hid (∀ w, Calls Try.prog 17 #[.agg (regC s), .int .u8 r1] w fun e w' => e = .returned (.int .u64 a) ∧ Fr [] w w')) (t1 : decide (11 ≤ op) = true) (t2 : decide (op ≤ 21) = false) (t3 : decide (67 ≤ op) = true) (t4 : decide (op ≤ 88) = true) :
    Calls Try.prog 16 #[.agg (regC s), .agg (IC (op, rd, r1, r2, im, cs, sz))] w fun e w' => e = .returned (.tuple #[.int .u64 a, .bool true]) ∧ Fr [] w w' := by
  go_enter Try.func16, Try.ntmps16
  go_upto_region 1 with fail
  refine world_at' (fun W => W.heap[w.heap.size]? = some (.cells (regC s) 39) ∧ W.heap[w.heap.size + 1]? = some (.cells (IC (op, rd, r1, r2, im, cs, sz)) 27) ∧ Fr [] w W) ⟨blk_alloc (blk_new _ _) _, blk_new' (n := w.heap.size + 1) (by simp) _, ((Fr.refl [] w).alloc _).alloc _⟩ ?_
  rintro W ⟨hS, hZ, hF⟩
  have HF := hid hF
  have HS := hid hS
  have x0 : W.cell? ⟨w.heap.size + 1, 0, none⟩ = some (.int .u8 op) := by rw [blk_cell hZ]; rfl
  have x2 : W.cell? ⟨w.heap.size + 1, 2, none⟩ = some (.int .u8 r1) := by rw [blk_cell hZ]; rfl
  have x4 : W.cell? ⟨w.heap.size + 1, 4, none⟩ = some (.int .i64 im) := by rw [blk_cell hZ]; rfl
  clear hF hS hZ
  go_wp2_with (first | (refine wpList_load_row_g (by rfl) 39 _ (by rfl) w.heap.size (by rfl) 39 (regC s) (0, 0) _ HS.out Try.underlying39 rfl (size_r _) ?_) | (go_at_call 17; (with_reducible refine (h1.out _).mono ?_); rintro e w1 ⟨rfl, hd⟩))
  go_ret2
  exact ⟨rfl, HF.out.trans hd⟩
set_option maxRecDepth 100000 in
set_option maxHeartbeats 4000000 in
theorem ra_o1 (s : Nat → Int) (op rd r1 r2 im cs sz  : Int) (w : World) (b0 : 0 ≤ op ∧ op < 256) (b2 : 0 ≤ r1 ∧ r1 < 256) (b3 : 0 ≤ r2 ∧ r2 < 256) (b4 : -9223372036854775808 ≤ im) (b4b : im ≤ 9223372036854775807) (b6 : 0 ≤ sz) (b6b : sz < 256)  (t1 : decide (11 ≤ op) = false) (t3 : decide (67 ≤ op) = false) :
    Calls Try.prog 16 #[.agg (regC s), .agg (IC (op, rd, r1, r2, im, cs, sz))] w fun e w' => e = .returned (.tuple #[.int .u64 0, .bool false]) ∧ Fr [] w w' := by
  go_enter Try.func16, Try.ntmps16
  go_upto_region 1 with fail
  refine world_at' (fun W => W.heap[w.heap.size]? = some (.cells (regC s) 39) ∧ W.heap[w.heap.size + 1]? = some (.cells (IC (op, rd, r1, r2, im, cs, sz)) 27) ∧ Fr [] w W) ⟨blk_alloc (blk_new _ _) _, blk_new' (n := w.heap.size + 1) (by simp) _, ((Fr.refl [] w).alloc _).alloc _⟩ ?_
  rintro W ⟨hS, hZ, hF⟩
  have HF := hid hF
  have HS := hid hS
  have x0 : W.cell? ⟨w.heap.size + 1, 0, none⟩ = some (.int .u8 op) := by rw [blk_cell hZ]; rfl
  have x2 : W.cell? ⟨w.heap.size + 1, 2, none⟩ = some (.int .u8 r1) := by rw [blk_cell hZ]; rfl
  have x4 : W.cell? ⟨w.heap.size + 1, 4, none⟩ = some (.int .i64 im) := by rw [blk_cell hZ]; rfl
  clear hF hS hZ
  go_wp2_with (first | (refine wpList_load_row_g (by rfl) 39 _ (by rfl) w.heap.size (by rfl) 39 (regC s) (0, 0) _ HS.out Try.underlying39 rfl (size_r _) ?_) )
  go_ret2
  exact ⟨rfl, HF.out⟩
set_option maxRecDepth 100000 in
set_option maxHeartbeats 4000000 in
theorem ra_o2 (s : Nat → Int) (op rd r1 r2 im cs sz  : Int) (w : World) (b0 : 0 ≤ op ∧ op < 256) (b2 : 0 ≤ r1 ∧ r1 < 256) (b3 : 0 ≤ r2 ∧ r2 < 256) (b4 : -9223372036854775808 ≤ im) (b4b : im ≤ 9223372036854775807) (b6 : 0 ≤ sz) (b6b : sz < 256)  (t1 : decide (11 ≤ op) = true) (t2 : decide (op ≤ 21) = false) (t3 : decide (67 ≤ op) = false) :
    Calls Try.prog 16 #[.agg (regC s), .agg (IC (op, rd, r1, r2, im, cs, sz))] w fun e w' => e = .returned (.tuple #[.int .u64 0, .bool false]) ∧ Fr [] w w' := by
  go_enter Try.func16, Try.ntmps16
  go_upto_region 1 with fail
  refine world_at' (fun W => W.heap[w.heap.size]? = some (.cells (regC s) 39) ∧ W.heap[w.heap.size + 1]? = some (.cells (IC (op, rd, r1, r2, im, cs, sz)) 27) ∧ Fr [] w W) ⟨blk_alloc (blk_new _ _) _, blk_new' (n := w.heap.size + 1) (by simp) _, ((Fr.refl [] w).alloc _).alloc _⟩ ?_
  rintro W ⟨hS, hZ, hF⟩
  have HF := hid hF
  have HS := hid hS
  have x0 : W.cell? ⟨w.heap.size + 1, 0, none⟩ = some (.int .u8 op) := by rw [blk_cell hZ]; rfl
  have x2 : W.cell? ⟨w.heap.size + 1, 2, none⟩ = some (.int .u8 r1) := by rw [blk_cell hZ]; rfl
  have x4 : W.cell? ⟨w.heap.size + 1, 4, none⟩ = some (.int .i64 im) := by rw [blk_cell hZ]; rfl
  clear hF hS hZ
  go_wp2_with (first | (refine wpList_load_row_g (by rfl) 39 _ (by rfl) w.heap.size (by rfl) 39 (regC s) (0, 0) _ HS.out Try.underlying39 rfl (size_r _) ?_) )
  go_ret2
  exact ⟨rfl, HF.out⟩
set_option maxRecDepth 100000 in
set_option maxHeartbeats 4000000 in
theorem ra_o3 (s : Nat → Int) (op rd r1 r2 im cs sz  : Int) (w : World) (b0 : 0 ≤ op ∧ op < 256) (b2 : 0 ≤ r1 ∧ r1 < 256) (b3 : 0 ≤ r2 ∧ r2 < 256) (b4 : -9223372036854775808 ≤ im) (b4b : im ≤ 9223372036854775807) (b6 : 0 ≤ sz) (b6b : sz < 256)  (t1 : decide (11 ≤ op) = true) (t2 : decide (op ≤ 21) = false) (t3 : decide (67 ≤ op) = true) (t4 : decide (op ≤ 88) = false) :
    Calls Try.prog 16 #[.agg (regC s), .agg (IC (op, rd, r1, r2, im, cs, sz))] w fun e w' => e = .returned (.tuple #[.int .u64 0, .bool false]) ∧ Fr [] w w' := by
  go_enter Try.func16, Try.ntmps16
  go_upto_region 1 with fail
  refine world_at' (fun W => W.heap[w.heap.size]? = some (.cells (regC s) 39) ∧ W.heap[w.heap.size + 1]? = some (.cells (IC (op, rd, r1, r2, im, cs, sz)) 27) ∧ Fr [] w W) ⟨blk_alloc (blk_new _ _) _, blk_new' (n := w.heap.size + 1) (by simp) _, ((Fr.refl [] w).alloc _).alloc _⟩ ?_
  rintro W ⟨hS, hZ, hF⟩
  have HF := hid hF
  have HS := hid hS
  have x0 : W.cell? ⟨w.heap.size + 1, 0, none⟩ = some (.int .u8 op) := by rw [blk_cell hZ]; rfl
  have x2 : W.cell? ⟨w.heap.size + 1, 2, none⟩ = some (.int .u8 r1) := by rw [blk_cell hZ]; rfl
  have x4 : W.cell? ⟨w.heap.size + 1, 4, none⟩ = some (.int .i64 im) := by rw [blk_cell hZ]; rfl
  clear hF hS hZ
  go_wp2_with (first | (refine wpList_load_row_g (by rfl) 39 _ (by rfl) w.heap.size (by rfl) 39 (regC s) (0, 0) _ HS.out Try.underlying39 rfl (size_r _) ?_) )
  go_ret2
  exact ⟨rfl, HF.out⟩
end Go.Proofs.Ytajbfnihgonppaa.PA
