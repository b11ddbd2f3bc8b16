/- The law ExecLinks: its walk. -/
import Derived.Test.YtajbfnihgonppaaE6
namespace Go.Proofs.Ytajbfnihgonppaa.PA
open Go.RowKit Go.Proofs.Ytajbfnihgonppaa.Plain
set_option linter.all false
attribute [local go_sem ↓] eqg_24 eql_24
set_option maxRecDepth 100000 in
set_option maxHeartbeats 4000000 in
theorem links_3z (s S : Nat → Int) (pc dst v1 op rd r1 r2 im cs sz s1 : Int) (w : World) (p0 : 0 ≤ pc) (p1 : pc < 18446744073709551616) (b0 : 0 ≤ op ∧ op < 256) (b2 : 0 ≤ r1 ∧ r1 < 256) (b3 : 0 ≤ r2 ∧ r2 < 256) (b4 : -9223372036854775808 ≤ im) (b4b : im ≤ 9223372036854775807) (b6 : 0 ≤ sz) (b6b : sz < 256) (b1 : 0 ≤ rd ∧ rd < 256)
    (e0 : 3 + op % 2 = 3) (e6 : 2 + sz % 2 * 2 = s1) (hto : dst = IntKind.u64.wrap (pc + IntKind.u64.wrap im))
    (hz : (rd % 32 == 0) = true)
    (h1 : Hid (∀ g w, w.heap[g]? = some (.cells (regC s) 24) → Calls Try.prog 9 #[.pointer (some ⟨g, 0, none⟩), .int .u64 pc, .agg (IC (3, rd, r1, r2, im, cs, s1))] w fun e w' => e = .returned (.tuple #[.int .u64 dst, .bool true]) ∧ w'.heap[g]? = some (.cells (regC s) 24) ∧ Fr [g] w w'))
    (h2 : Hid (∀ g w, w.heap[g]? = some (.cells (regC s) 24) → Calls Try.prog 12 #[.pointer (some ⟨g, 0, none⟩), .int .u8 r1] w fun e w' => e = .returned (.int .u64 v1) ∧ w = w'))
    (h7 : Hid (∀ w, Calls Try.prog 10 #[] w fun e w' => e = .returned (.bool true) ∧ Fr [] w w')) : Calls Try.prog 4 #[.agg (regC s), .int .u64 pc, .agg (IC (op, rd, r1, r2, im, cs, sz))] w fun e w' => e = .returned (.bool true) ∧ Fr [] w w' := by
  have q6 : 0 ≤ s1 ∧ s1 < 256 := by omega
  go_enter Try.func4, Try.ntmps4
  go_upto_region 1 with fail
  refine world_at' (fun W => W.heap[w.heap.size]? = some (.cells (regC s) 24) ∧ W.heap[w.heap.size + 1]? = some (.cells (IC (op, rd, r1, r2, im, cs, sz)) 27) ∧ W.heap.size = w.heap.size + 2 ∧ Fr [] w W) ⟨blk_alloc (blk_new _ _) _, blk_new' (n := w.heap.size + 1) (by simp) _, by simp, ((Fr.refl [] w).alloc _).alloc _⟩ ?_
  rintro W ⟨hR, hX, hs, hF⟩
  have HR := hid hR
  have f0 := blk_free hX 0
  have x0 : W.cell? ⟨w.heap.size + 1, 0, none⟩ = some (.int .u8 op) := by rw [blk_cell hX]; rfl
  have f6 := blk_free hX 6
  have x6 : W.cell? ⟨w.heap.size + 1, 6, none⟩ = some (.int .u8 sz) := by rw [blk_cell hX]; rfl
  have HX := hid hX
  have HF := hid hF
  have HS := hid hs
  have HT := hid hto
  have Hz := hid hz
  clear hR hX hF hs hto hz
  go_upto_region 3 with fail
  refine world_at' (fun W => W.heap[w.heap.size]? = some (.cells (regC s) 24) ∧ W.heap[w.heap.size + 1]? = some (.cells (IC (3, rd, r1, r2, im, cs, s1)) 27) ∧ W.heap.size = w.heap.size + 2 ∧ Fr [] w W) ⟨by rw [blk_set_other _ (by simp), blk_set_other _ (by simp)]; exact HR.out, blk_set (blk_set HX.out 0 _) 6 _, by simpa using HS.out, (HF.out.setCell (.inr (by simp)) _).setCell (.inr (by simp)) _⟩ ?_
  clear f0 x0 f6 x6 HR HX HF HS
  rintro W1 ⟨hR, hX, hs, hF⟩
  have HR := hid hR
  have HX := hid hX
  have HF := hid hF
  have HS := hid hs
  clear hR hX hs hF
  go_upto_region 4 with (first | (refine wpList_load_row_g (by rfl) 24 _ (by rfl) (w.heap.size) (by rfl) 24 (regC s) (0, 0) _ HR.out Try.underlying24 rfl (size_x _) ?_) | (refine wpList_store_whole rfl 24 _ _ rfl W1.heap.size rfl (regC s) rfl 24 _ (by rw [← zeroX]; exact blk_new _ _) (by rw [regC_size, regC_size]) (size_x _) (regC_one _) ?_; intro w2 hB hfr2))
  refine world_at' (fun W' => W'.heap[w.heap.size]? = some (.cells (regC s) 24) ∧ W'.heap[w.heap.size + 1]? = some (.cells (IC (3, rd, r1, r2, im, cs, s1)) 27) ∧ W'.heap[W1.heap.size]? = some (.cells (regC s) 24) ∧ Fr [] w W') ⟨hfr2.keeps (blk_alloc HR.out _) (by have := HS.out; simp; omega), hfr2.keeps (blk_alloc HX.out _) (by have := HS.out; simp; omega), hB, (HF.out.alloc _).step hfr2 (fun j hj => .inr (by rw [List.mem_singleton.1 hj]; exact HF.out.size))⟩ ?_
  clear hB hfr2 HR HX HF
  rintro W2 ⟨hR, hX, hB, hF⟩
  have hs := HS.out
  generalize W1.heap.size = g at *
  clear HS
  have HR := hid hR
  have HX := hid hX
  have HB := hid hB
  have HF := hid hF
  have HS := hid hs
  clear hR hX hB hF hs
  go_upto_region 5 with (first | (refine wpList_load_row_g (by rfl) 27 _ (by rfl) (w.heap.size + 1) (by rfl) 27 (IC (3, rd, r1, r2, im, cs, s1)) (0, 0) _ HX.out Try.underlying27 rfl (sizeI' _) ?_) | (go_at_call 9; (with_reducible refine (h1.out _ _ HB.out).mono ?_); rintro e w3 ⟨rfl, hB, hd⟩))
  refine world_at' (fun W' => W'.heap[w.heap.size]? = some (.cells (regC s) 24) ∧ W'.heap[w.heap.size + 1]? = some (.cells (IC (3, rd, r1, r2, im, cs, s1)) 27) ∧ W'.heap[g]? = some (.cells (regC s) 24) ∧ Fr [] w W') ⟨hd.keeps HR.out (by have := HS.out; simp; omega), hd.keeps HX.out (by have := HS.out; simp; omega), hB, HF.out.step hd (fun j hj => .inr (by rw [List.mem_singleton.1 hj]; have := HS.out; omega))⟩ ?_
  clear hB hd HR HX HF HB h1
  rintro W3 ⟨hR, hX, hB, hF⟩
  have HR := hid hR
  have HB := hid hB
  have HF := hid hF
  have HX := hid hX
  have hto := HT.out
  clear hR hB hF
  have y0 : ∀ n : Ext W3, n.w.cell? ⟨w.heap.size + 1, 0, none⟩ = some (.int .u8 3) := fun n => Ext.cell n hX 0
  have y1 : ∀ n : Ext W3, n.w.cell? ⟨w.heap.size + 1, 1, none⟩ = some (.int .u8 rd) := fun n => Ext.cell n hX 1
  have y2 : ∀ n : Ext W3, n.w.cell? ⟨w.heap.size + 1, 2, none⟩ = some (.int .u8 r1) := fun n => Ext.cell n hX 2
  have y4 : ∀ n : Ext W3, n.w.cell? ⟨w.heap.size + 1, 4, none⟩ = some (.int .i64 im) := fun n => Ext.cell n hX 4
  have y6 : ∀ n : Ext W3, n.w.cell? ⟨w.heap.size + 1, 6, none⟩ = some (.int .u8 s1) := fun n => Ext.cell n hX 6
  clear hX
  have x0 : W3.cell? ⟨w.heap.size + 1, 0, none⟩ = some (.int .u8 3) := y0 ⟨W3, Fr.refl _ _⟩
  have hne := ext_ne W3
  clear h2
  refine wp_region_ext (by kernel_rfl) (by kernel_rfl) ?_
  repeat (go_big_quiet_step (first | (go_at_call 12; with_reducible exact c9.out _)))
  refine wpQuiet_nil ?_
  intro w' hw'
  obtain ⟨m1, rfl⟩ := hw'
  have hz := Hz.out
  clear hto
  have x1 : m1.w.cell? ⟨w.heap.size + 1, 1, none⟩ = some (.int .u8 rd) := y1 m1
  have x6 : m1.w.cell? ⟨w.heap.size + 1, 6, none⟩ = some (.int .u8 s1) := y6 m1
  have hR := m1.blk HR.out
  have hB := m1.blk HB.out
  have hF := HF.out.trans m1.fr
  have hX := m1.blk HX.out
  generalize m1.w = W4 at *
  clear HR HB HF HX y0 y1 y2 y4 y6 x0 hne
  have HR := hid hR
  have HB := hid hB
  have HF := hid hF
  have HX := hid hX
  clear hR hB hF hX
  have hK := Fr.refl [] W4
  go_wp2_with (first | (refine wpList_load_row_g (by rfl) 24 _ (by rfl) (w.heap.size) (by rfl) 24 (regC s) (0, 0) _ HR.out Try.underlying24 rfl (size_x _) ?_) | (refine wpList_load_row_g (by rfl) 24 _ (by rfl) (g) (by rfl) 24 (regC s) (0, 0) _ HB.out Try.underlying24 rfl (size_x _) ?_) | (go_at_call 10; (with_reducible refine (h7.out _).mono ?_); rintro e w6 ⟨rfl, hd⟩; replace hK := hK.trans hd; clear hd))
  go_ret
  exact ⟨rfl, HF.out.trans hK⟩
set_option maxRecDepth 100000 in
set_option maxHeartbeats 4000000 in
theorem links_3n (s S : Nat → Int) (pc dst v1 op rd r1 r2 im cs sz s1 : Int) (w : World) (p0 : 0 ≤ pc) (p1 : pc < 18446744073709551616) (b0 : 0 ≤ op ∧ op < 256) (b2 : 0 ≤ r1 ∧ r1 < 256) (b3 : 0 ≤ r2 ∧ r2 < 256) (b4 : -9223372036854775808 ≤ im) (b4b : im ≤ 9223372036854775807) (b6 : 0 ≤ sz) (b6b : sz < 256) (b1 : 0 ≤ rd ∧ rd < 256)
    (e0 : 3 + op % 2 = 3) (e6 : 2 + sz % 2 * 2 = s1) (hto : dst = IntKind.u64.wrap (pc + IntKind.u64.wrap im))
    (hz : (rd % 32 == 0) = false)
    (h1 : Hid (∀ g w, w.heap[g]? = some (.cells (regC s) 24) → Calls Try.prog 9 #[.pointer (some ⟨g, 0, none⟩), .int .u64 pc, .agg (IC (3, rd, r1, r2, im, cs, s1))] w fun e w' => e = .returned (.tuple #[.int .u64 dst, .bool true]) ∧ w'.heap[g]? = some (.cells (regC S) 24) ∧ Fr [g] w w'))
    (h2 : Hid (∀ g w, w.heap[g]? = some (.cells (regC s) 24) → Calls Try.prog 12 #[.pointer (some ⟨g, 0, none⟩), .int .u8 r1] w fun e w' => e = .returned (.int .u64 v1) ∧ w = w'))
    (h4 : Hid (∀ g w, w.heap[g]? = some (.cells (regC S) 24) → Calls Try.prog 9 #[.pointer (some ⟨g, 0, none⟩), .int .u64 dst, .agg #[.int .u8 4, .int .u8 0, .int .u8 rd, .int .u8 0, .int .i64 0, .int .u16 0, .int .u8 4]] w fun e w' => e = .returned (.tuple #[.int .u64 (bits .andNot .u64 (IntKind.u64.wrap (pc + s1)) 1), .bool true]) ∧ Fr [g] w w'))
    (h7 : Hid (∀ w, Calls Try.prog 10 #[] w fun e w' => e = .returned (.bool true) ∧ Fr [] w w')) : Calls Try.prog 4 #[.agg (regC s), .int .u64 pc, .agg (IC (op, rd, r1, r2, im, cs, sz))] w fun e w' => e = .returned (.bool true) ∧ Fr [] w w' := by
  have q6 : 0 ≤ s1 ∧ s1 < 256 := by omega
  go_enter Try.func4, Try.ntmps4
  go_upto_region 1 with fail
  refine world_at' (fun W => W.heap[w.heap.size]? = some (.cells (regC s) 24) ∧ W.heap[w.heap.size + 1]? = some (.cells (IC (op, rd, r1, r2, im, cs, sz)) 27) ∧ W.heap.size = w.heap.size + 2 ∧ Fr [] w W) ⟨blk_alloc (blk_new _ _) _, blk_new' (n := w.heap.size + 1) (by simp) _, by simp, ((Fr.refl [] w).alloc _).alloc _⟩ ?_
  rintro W ⟨hR, hX, hs, hF⟩
  have HR := hid hR
  have f0 := blk_free hX 0
  have x0 : W.cell? ⟨w.heap.size + 1, 0, none⟩ = some (.int .u8 op) := by rw [blk_cell hX]; rfl
  have f6 := blk_free hX 6
  have x6 : W.cell? ⟨w.heap.size + 1, 6, none⟩ = some (.int .u8 sz) := by rw [blk_cell hX]; rfl
  have HX := hid hX
  have HF := hid hF
  have HS := hid hs
  have HT := hid hto
  have Hz := hid hz
  clear hR hX hF hs hto hz
  go_upto_region 3 with fail
  refine world_at' (fun W => W.heap[w.heap.size]? = some (.cells (regC s) 24) ∧ W.heap[w.heap.size + 1]? = some (.cells (IC (3, rd, r1, r2, im, cs, s1)) 27) ∧ W.heap.size = w.heap.size + 2 ∧ Fr [] w W) ⟨by rw [blk_set_other _ (by simp), blk_set_other _ (by simp)]; exact HR.out, blk_set (blk_set HX.out 0 _) 6 _, by simpa using HS.out, (HF.out.setCell (.inr (by simp)) _).setCell (.inr (by simp)) _⟩ ?_
  clear f0 x0 f6 x6 HR HX HF HS
  rintro W1 ⟨hR, hX, hs, hF⟩
  have HR := hid hR
  have HX := hid hX
  have HF := hid hF
  have HS := hid hs
  clear hR hX hs hF
  go_upto_region 4 with (first | (refine wpList_load_row_g (by rfl) 24 _ (by rfl) (w.heap.size) (by rfl) 24 (regC s) (0, 0) _ HR.out Try.underlying24 rfl (size_x _) ?_) | (refine wpList_store_whole rfl 24 _ _ rfl W1.heap.size rfl (regC s) rfl 24 _ (by rw [← zeroX]; exact blk_new _ _) (by rw [regC_size, regC_size]) (size_x _) (regC_one _) ?_; intro w2 hB hfr2))
  refine world_at' (fun W' => W'.heap[w.heap.size]? = some (.cells (regC s) 24) ∧ W'.heap[w.heap.size + 1]? = some (.cells (IC (3, rd, r1, r2, im, cs, s1)) 27) ∧ W'.heap[W1.heap.size]? = some (.cells (regC s) 24) ∧ Fr [] w W') ⟨hfr2.keeps (blk_alloc HR.out _) (by have := HS.out; simp; omega), hfr2.keeps (blk_alloc HX.out _) (by have := HS.out; simp; omega), hB, (HF.out.alloc _).step hfr2 (fun j hj => .inr (by rw [List.mem_singleton.1 hj]; exact HF.out.size))⟩ ?_
  clear hB hfr2 HR HX HF
  rintro W2 ⟨hR, hX, hB, hF⟩
  have hs := HS.out
  generalize W1.heap.size = g at *
  clear HS
  have HR := hid hR
  have HX := hid hX
  have HB := hid hB
  have HF := hid hF
  have HS := hid hs
  clear hR hX hB hF hs
  go_upto_region 5 with (first | (refine wpList_load_row_g (by rfl) 27 _ (by rfl) (w.heap.size + 1) (by rfl) 27 (IC (3, rd, r1, r2, im, cs, s1)) (0, 0) _ HX.out Try.underlying27 rfl (sizeI' _) ?_) | (go_at_call 9; (with_reducible refine (h1.out _ _ HB.out).mono ?_); rintro e w3 ⟨rfl, hB, hd⟩))
  refine world_at' (fun W' => W'.heap[w.heap.size]? = some (.cells (regC s) 24) ∧ W'.heap[w.heap.size + 1]? = some (.cells (IC (3, rd, r1, r2, im, cs, s1)) 27) ∧ W'.heap[g]? = some (.cells (regC S) 24) ∧ Fr [] w W') ⟨hd.keeps HR.out (by have := HS.out; simp; omega), hd.keeps HX.out (by have := HS.out; simp; omega), hB, HF.out.step hd (fun j hj => .inr (by rw [List.mem_singleton.1 hj]; have := HS.out; omega))⟩ ?_
  clear hB hd HR HX HF HB h1
  rintro W3 ⟨hR, hX, hB, hF⟩
  have HR := hid hR
  have HB := hid hB
  have HF := hid hF
  have HX := hid hX
  have hto := HT.out
  clear hR hB hF
  have y0 : ∀ n : Ext W3, n.w.cell? ⟨w.heap.size + 1, 0, none⟩ = some (.int .u8 3) := fun n => Ext.cell n hX 0
  have y1 : ∀ n : Ext W3, n.w.cell? ⟨w.heap.size + 1, 1, none⟩ = some (.int .u8 rd) := fun n => Ext.cell n hX 1
  have y2 : ∀ n : Ext W3, n.w.cell? ⟨w.heap.size + 1, 2, none⟩ = some (.int .u8 r1) := fun n => Ext.cell n hX 2
  have y4 : ∀ n : Ext W3, n.w.cell? ⟨w.heap.size + 1, 4, none⟩ = some (.int .i64 im) := fun n => Ext.cell n hX 4
  have y6 : ∀ n : Ext W3, n.w.cell? ⟨w.heap.size + 1, 6, none⟩ = some (.int .u8 s1) := fun n => Ext.cell n hX 6
  clear hX
  have x0 : W3.cell? ⟨w.heap.size + 1, 0, none⟩ = some (.int .u8 3) := y0 ⟨W3, Fr.refl _ _⟩
  have hne := ext_ne W3
  clear h2
  refine wp_region_ext (by kernel_rfl) (by kernel_rfl) ?_
  repeat (go_big_quiet_step (first | (go_at_call 12; with_reducible exact c9.out _)))
  refine wpQuiet_nil ?_
  intro w' hw'
  obtain ⟨m1, rfl⟩ := hw'
  have hz := Hz.out
  clear hto
  have x1 : m1.w.cell? ⟨w.heap.size + 1, 1, none⟩ = some (.int .u8 rd) := y1 m1
  have x6 : m1.w.cell? ⟨w.heap.size + 1, 6, none⟩ = some (.int .u8 s1) := y6 m1
  have hR := m1.blk HR.out
  have hB := m1.blk HB.out
  have hF := HF.out.trans m1.fr
  have hX := m1.blk HX.out
  generalize m1.w = W4 at *
  clear HR HB HF HX y0 y1 y2 y4 y6 x0 hne
  have HR := hid hR
  have HB := hid hB
  have HF := hid hF
  have HX := hid hX
  clear hR hB hF hX
  have hK := hid (HF.out)
  go_upto_region 10 with (go_at_call 9; (with_reducible refine (h4.out _ _ HB.out).mono ?_); rintro e w5 ⟨rfl, hd⟩)
  have z6 : w5.cell? ⟨w.heap.size + 1, 6, none⟩ = some (.int .u8 s1) := by rw [blk_cell (hd.keeps HX.out (by have := HS.out; simp; omega))]; rfl
  have hF5 := hid (HF.out.step hd (fun j hj => .inr (by rw [List.mem_singleton.1 hj]; have := HS.out; omega)))
  clear hd HR HB HX hK
  go_wp2_with ((go_at_call 10; (with_reducible refine (h7.out _).mono ?_); rintro e w6 ⟨rfl, hd⟩))
  go_ret
  exact ⟨rfl, hF5.out.trans hd⟩
set_option maxRecDepth 100000 in
set_option maxHeartbeats 4000000 in
theorem links_4z (s S : Nat → Int) (pc dst v1 op rd r1 r2 im cs sz s1 : Int) (w : World) (p0 : 0 ≤ pc) (p1 : pc < 18446744073709551616) (b0 : 0 ≤ op ∧ op < 256) (b2 : 0 ≤ r1 ∧ r1 < 256) (b3 : 0 ≤ r2 ∧ r2 < 256) (b4 : -9223372036854775808 ≤ im) (b4b : im ≤ 9223372036854775807) (b6 : 0 ≤ sz) (b6b : sz < 256) (b1 : 0 ≤ rd ∧ rd < 256)
    (e0 : 3 + op % 2 = 4) (e6 : 2 + sz % 2 * 2 = s1) (hto : dst = bits .andNot .u64 (IntKind.u64.wrap (v1 + IntKind.u64.wrap im)) 1)
    (hz : (rd % 32 == 0) = true)
    (h1 : Hid (∀ g w, w.heap[g]? = some (.cells (regC s) 24) → Calls Try.prog 9 #[.pointer (some ⟨g, 0, none⟩), .int .u64 pc, .agg (IC (4, rd, r1, r2, im, cs, s1))] w fun e w' => e = .returned (.tuple #[.int .u64 dst, .bool true]) ∧ w'.heap[g]? = some (.cells (regC s) 24) ∧ Fr [g] w w'))
    (h2 : Hid (∀ g w, w.heap[g]? = some (.cells (regC s) 24) → Calls Try.prog 12 #[.pointer (some ⟨g, 0, none⟩), .int .u8 r1] w fun e w' => e = .returned (.int .u64 v1) ∧ w = w'))
    (h7 : Hid (∀ w, Calls Try.prog 10 #[] w fun e w' => e = .returned (.bool true) ∧ Fr [] w w')) : Calls Try.prog 4 #[.agg (regC s), .int .u64 pc, .agg (IC (op, rd, r1, r2, im, cs, sz))] w fun e w' => e = .returned (.bool true) ∧ Fr [] w w' := by
  have q6 : 0 ≤ s1 ∧ s1 < 256 := by omega
  go_enter Try.func4, Try.ntmps4
  go_upto_region 1 with fail
  refine world_at' (fun W => W.heap[w.heap.size]? = some (.cells (regC s) 24) ∧ W.heap[w.heap.size + 1]? = some (.cells (IC (op, rd, r1, r2, im, cs, sz)) 27) ∧ W.heap.size = w.heap.size + 2 ∧ Fr [] w W) ⟨blk_alloc (blk_new _ _) _, blk_new' (n := w.heap.size + 1) (by simp) _, by simp, ((Fr.refl [] w).alloc _).alloc _⟩ ?_
  rintro W ⟨hR, hX, hs, hF⟩
  have HR := hid hR
  have f0 := blk_free hX 0
  have x0 : W.cell? ⟨w.heap.size + 1, 0, none⟩ = some (.int .u8 op) := by rw [blk_cell hX]; rfl
  have f6 := blk_free hX 6
  have x6 : W.cell? ⟨w.heap.size + 1, 6, none⟩ = some (.int .u8 sz) := by rw [blk_cell hX]; rfl
  have HX := hid hX
  have HF := hid hF
  have HS := hid hs
  have HT := hid hto
  have Hz := hid hz
  clear hR hX hF hs hto hz
  go_upto_region 3 with fail
  refine world_at' (fun W => W.heap[w.heap.size]? = some (.cells (regC s) 24) ∧ W.heap[w.heap.size + 1]? = some (.cells (IC (4, rd, r1, r2, im, cs, s1)) 27) ∧ W.heap.size = w.heap.size + 2 ∧ Fr [] w W) ⟨by rw [blk_set_other _ (by simp), blk_set_other _ (by simp)]; exact HR.out, blk_set (blk_set HX.out 0 _) 6 _, by simpa using HS.out, (HF.out.setCell (.inr (by simp)) _).setCell (.inr (by simp)) _⟩ ?_
  clear f0 x0 f6 x6 HR HX HF HS
  rintro W1 ⟨hR, hX, hs, hF⟩
  have HR := hid hR
  have HX := hid hX
  have HF := hid hF
  have HS := hid hs
  clear hR hX hs hF
  go_upto_region 4 with (first | (refine wpList_load_row_g (by rfl) 24 _ (by rfl) (w.heap.size) (by rfl) 24 (regC s) (0, 0) _ HR.out Try.underlying24 rfl (size_x _) ?_) | (refine wpList_store_whole rfl 24 _ _ rfl W1.heap.size rfl (regC s) rfl 24 _ (by rw [← zeroX]; exact blk_new _ _) (by rw [regC_size, regC_size]) (size_x _) (regC_one _) ?_; intro w2 hB hfr2))
  refine world_at' (fun W' => W'.heap[w.heap.size]? = some (.cells (regC s) 24) ∧ W'.heap[w.heap.size + 1]? = some (.cells (IC (4, rd, r1, r2, im, cs, s1)) 27) ∧ W'.heap[W1.heap.size]? = some (.cells (regC s) 24) ∧ Fr [] w W') ⟨hfr2.keeps (blk_alloc HR.out _) (by have := HS.out; simp; omega), hfr2.keeps (blk_alloc HX.out _) (by have := HS.out; simp; omega), hB, (HF.out.alloc _).step hfr2 (fun j hj => .inr (by rw [List.mem_singleton.1 hj]; exact HF.out.size))⟩ ?_
  clear hB hfr2 HR HX HF
  rintro W2 ⟨hR, hX, hB, hF⟩
  have hs := HS.out
  generalize W1.heap.size = g at *
  clear HS
  have HR := hid hR
  have HX := hid hX
  have HB := hid hB
  have HF := hid hF
  have HS := hid hs
  clear hR hX hB hF hs
  go_upto_region 5 with (first | (refine wpList_load_row_g (by rfl) 27 _ (by rfl) (w.heap.size + 1) (by rfl) 27 (IC (4, rd, r1, r2, im, cs, s1)) (0, 0) _ HX.out Try.underlying27 rfl (sizeI' _) ?_) | (go_at_call 9; (with_reducible refine (h1.out _ _ HB.out).mono ?_); rintro e w3 ⟨rfl, hB, hd⟩))
  refine world_at' (fun W' => W'.heap[w.heap.size]? = some (.cells (regC s) 24) ∧ W'.heap[w.heap.size + 1]? = some (.cells (IC (4, rd, r1, r2, im, cs, s1)) 27) ∧ W'.heap[g]? = some (.cells (regC s) 24) ∧ Fr [] w W') ⟨hd.keeps HR.out (by have := HS.out; simp; omega), hd.keeps HX.out (by have := HS.out; simp; omega), hB, HF.out.step hd (fun j hj => .inr (by rw [List.mem_singleton.1 hj]; have := HS.out; omega))⟩ ?_
  clear hB hd HR HX HF HB h1
  rintro W3 ⟨hR, hX, hB, hF⟩
  have HR := hid hR
  have HB := hid hB
  have HF := hid hF
  have HX := hid hX
  have hto := HT.out
  clear hR hB hF
  have y0 : ∀ n : Ext W3, n.w.cell? ⟨w.heap.size + 1, 0, none⟩ = some (.int .u8 4) := fun n => Ext.cell n hX 0
  have y1 : ∀ n : Ext W3, n.w.cell? ⟨w.heap.size + 1, 1, none⟩ = some (.int .u8 rd) := fun n => Ext.cell n hX 1
  have y2 : ∀ n : Ext W3, n.w.cell? ⟨w.heap.size + 1, 2, none⟩ = some (.int .u8 r1) := fun n => Ext.cell n hX 2
  have y4 : ∀ n : Ext W3, n.w.cell? ⟨w.heap.size + 1, 4, none⟩ = some (.int .i64 im) := fun n => Ext.cell n hX 4
  have y6 : ∀ n : Ext W3, n.w.cell? ⟨w.heap.size + 1, 6, none⟩ = some (.int .u8 s1) := fun n => Ext.cell n hX 6
  clear hX
  have x0 : W3.cell? ⟨w.heap.size + 1, 0, none⟩ = some (.int .u8 4) := y0 ⟨W3, Fr.refl _ _⟩
  have hne := ext_ne W3
  have c2 : Hid (∀ m : Ext W3, Calls Try.prog 12 #[.pointer (some ⟨w.heap.size, 0, none⟩), .int .u8 r1] m.w fun e w'' => e = .returned (.int .u64 v1) ∧ ∃ m : Ext W3, w'' = m.w) := fun m => Ext.same m (h2.out _ _ (m.blk HR.out))
  clear h2
  refine wp_region_ext (by kernel_rfl) (by kernel_rfl) ?_
  repeat (go_big_quiet_step (first | (go_at_call 12; with_reducible exact c2.out _)))
  refine wpQuiet_nil ?_
  intro w' hw'
  obtain ⟨m1, rfl⟩ := hw'
  have hz := Hz.out
  clear hto
  have x1 : m1.w.cell? ⟨w.heap.size + 1, 1, none⟩ = some (.int .u8 rd) := y1 m1
  have x6 : m1.w.cell? ⟨w.heap.size + 1, 6, none⟩ = some (.int .u8 s1) := y6 m1
  have hR := m1.blk HR.out
  have hB := m1.blk HB.out
  have hF := HF.out.trans m1.fr
  have hX := m1.blk HX.out
  generalize m1.w = W4 at *
  clear HR HB HF HX y0 y1 y2 y4 y6 x0 hne
  have HR := hid hR
  have HB := hid hB
  have HF := hid hF
  have HX := hid hX
  clear hR hB hF hX
  have hK := Fr.refl [] W4
  go_wp2_with (first | (refine wpList_load_row_g (by rfl) 24 _ (by rfl) (w.heap.size) (by rfl) 24 (regC s) (0, 0) _ HR.out Try.underlying24 rfl (size_x _) ?_) | (refine wpList_load_row_g (by rfl) 24 _ (by rfl) (g) (by rfl) 24 (regC s) (0, 0) _ HB.out Try.underlying24 rfl (size_x _) ?_) | (go_at_call 10; (with_reducible refine (h7.out _).mono ?_); rintro e w6 ⟨rfl, hd⟩; replace hK := hK.trans hd; clear hd))
  go_ret
  exact ⟨rfl, HF.out.trans hK⟩
set_option maxRecDepth 100000 in
set_option maxHeartbeats 4000000 in
theorem links_4n (s S : Nat → Int) (pc dst v1 op rd r1 r2 im cs sz s1 : Int) (w : World) (p0 : 0 ≤ pc) (p1 : pc < 18446744073709551616) (b0 : 0 ≤ op ∧ op < 256) (b2 : 0 ≤ r1 ∧ r1 < 256) (b3 : 0 ≤ r2 ∧ r2 < 256) (b4 : -9223372036854775808 ≤ im) (b4b : im ≤ 9223372036854775807) (b6 : 0 ≤ sz) (b6b : sz < 256) (b1 : 0 ≤ rd ∧ rd < 256)
    (e0 : 3 + op % 2 = 4) (e6 : 2 + sz % 2 * 2 = s1) (hto : dst = bits .andNot .u64 (IntKind.u64.wrap (v1 + IntKind.u64.wrap im)) 1)
    (hz : (rd % 32 == 0) = false)
    (h1 : Hid (∀ g w, w.heap[g]? = some (.cells (regC s) 24) → Calls Try.prog 9 #[.pointer (some ⟨g, 0, none⟩), .int .u64 pc, .agg (IC (4, rd, r1, r2, im, cs, s1))] w fun e w' => e = .returned (.tuple #[.int .u64 dst, .bool true]) ∧ w'.heap[g]? = some (.cells (regC S) 24) ∧ Fr [g] w w'))
    (h2 : Hid (∀ g w, w.heap[g]? = some (.cells (regC s) 24) → Calls Try.prog 12 #[.pointer (some ⟨g, 0, none⟩), .int .u8 r1] w fun e w' => e = .returned (.int .u64 v1) ∧ w = w'))
    (h4 : Hid (∀ g w, w.heap[g]? = some (.cells (regC S) 24) → Calls Try.prog 9 #[.pointer (some ⟨g, 0, none⟩), .int .u64 dst, .agg #[.int .u8 4, .int .u8 0, .int .u8 rd, .int .u8 0, .int .i64 0, .int .u16 0, .int .u8 4]] w fun e w' => e = .returned (.tuple #[.int .u64 (bits .andNot .u64 (IntKind.u64.wrap (pc + s1)) 1), .bool true]) ∧ Fr [g] w w'))
    (h7 : Hid (∀ w, Calls Try.prog 10 #[] w fun e w' => e = .returned (.bool true) ∧ Fr [] w w')) : Calls Try.prog 4 #[.agg (regC s), .int .u64 pc, .agg (IC (op, rd, r1, r2, im, cs, sz))] w fun e w' => e = .returned (.bool true) ∧ Fr [] w w' := by
  have q6 : 0 ≤ s1 ∧ s1 < 256 := by omega
  go_enter Try.func4, Try.ntmps4
  go_upto_region 1 with fail
  refine world_at' (fun W => W.heap[w.heap.size]? = some (.cells (regC s) 24) ∧ W.heap[w.heap.size + 1]? = some (.cells (IC (op, rd, r1, r2, im, cs, sz)) 27) ∧ W.heap.size = w.heap.size + 2 ∧ Fr [] w W) ⟨blk_alloc (blk_new _ _) _, blk_new' (n := w.heap.size + 1) (by simp) _, by simp, ((Fr.refl [] w).alloc _).alloc _⟩ ?_
  rintro W ⟨hR, hX, hs, hF⟩
  have HR := hid hR
  have f0 := blk_free hX 0
  have x0 : W.cell? ⟨w.heap.size + 1, 0, none⟩ = some (.int .u8 op) := by rw [blk_cell hX]; rfl
  have f6 := blk_free hX 6
  have x6 : W.cell? ⟨w.heap.size + 1, 6, none⟩ = some (.int .u8 sz) := by rw [blk_cell hX]; rfl
  have HX := hid hX
  have HF := hid hF
  have HS := hid hs
  have HT := hid hto
  have Hz := hid hz
  clear hR hX hF hs hto hz
  go_upto_region 3 with fail
  refine world_at' (fun W => W.heap[w.heap.size]? = some (.cells (regC s) 24) ∧ W.heap[w.heap.size + 1]? = some (.cells (IC (4, rd, r1, r2, im, cs, s1)) 27) ∧ W.heap.size = w.heap.size + 2 ∧ Fr [] w W) ⟨by rw [blk_set_other _ (by simp), blk_set_other _ (by simp)]; exact HR.out, blk_set (blk_set HX.out 0 _) 6 _, by simpa using HS.out, (HF.out.setCell (.inr (by simp)) _).setCell (.inr (by simp)) _⟩ ?_
  clear f0 x0 f6 x6 HR HX HF HS
  rintro W1 ⟨hR, hX, hs, hF⟩
  have HR := hid hR
  have HX := hid hX
  have HF := hid hF
  have HS := hid hs
  clear hR hX hs hF
  go_upto_region 4 with (first | (refine wpList_load_row_g (by rfl) 24 _ (by rfl) (w.heap.size) (by rfl) 24 (regC s) (0, 0) _ HR.out Try.underlying24 rfl (size_x _) ?_) | (refine wpList_store_whole rfl 24 _ _ rfl W1.heap.size rfl (regC s) rfl 24 _ (by rw [← zeroX]; exact blk_new _ _) (by rw [regC_size, regC_size]) (size_x _) (regC_one _) ?_; intro w2 hB hfr2))
  refine world_at' (fun W' => W'.heap[w.heap.size]? = some (.cells (regC s) 24) ∧ W'.heap[w.heap.size + 1]? = some (.cells (IC (4, rd, r1, r2, im, cs, s1)) 27) ∧ W'.heap[W1.heap.size]? = some (.cells (regC s) 24) ∧ Fr [] w W') ⟨hfr2.keeps (blk_alloc HR.out _) (by have := HS.out; simp; omega), hfr2.keeps (blk_alloc HX.out _) (by have := HS.out; simp; omega), hB, (HF.out.alloc _).step hfr2 (fun j hj => .inr (by rw [List.mem_singleton.1 hj]; exact HF.out.size))⟩ ?_
  clear hB hfr2 HR HX HF
  rintro W2 ⟨hR, hX, hB, hF⟩
  have hs := HS.out
  generalize W1.heap.size = g at *
  clear HS
  have HR := hid hR
  have HX := hid hX
  have HB := hid hB
  have HF := hid hF
  have HS := hid hs
  clear hR hX hB hF hs
  go_upto_region 5 with (first | (refine wpList_load_row_g (by rfl) 27 _ (by rfl) (w.heap.size + 1) (by rfl) 27 (IC (4, rd, r1, r2, im, cs, s1)) (0, 0) _ HX.out Try.underlying27 rfl (sizeI' _) ?_) | (go_at_call 9; (with_reducible refine (h1.out _ _ HB.out).mono ?_); rintro e w3 ⟨rfl, hB, hd⟩))
  refine world_at' (fun W' => W'.heap[w.heap.size]? = some (.cells (regC s) 24) ∧ W'.heap[w.heap.size + 1]? = some (.cells (IC (4, rd, r1, r2, im, cs, s1)) 27) ∧ W'.heap[g]? = some (.cells (regC S) 24) ∧ Fr [] w W') ⟨hd.keeps HR.out (by have := HS.out; simp; omega), hd.keeps HX.out (by have := HS.out; simp; omega), hB, HF.out.step hd (fun j hj => .inr (by rw [List.mem_singleton.1 hj]; have := HS.out; omega))⟩ ?_
  clear hB hd HR HX HF HB h1
  rintro W3 ⟨hR, hX, hB, hF⟩
  have HR := hid hR
  have HB := hid hB
  have HF := hid hF
  have HX := hid hX
  have hto := HT.out
  clear hR hB hF
  have y0 : ∀ n : Ext W3, n.w.cell? ⟨w.heap.size + 1, 0, none⟩ = some (.int .u8 4) := fun n => Ext.cell n hX 0
  have y1 : ∀ n : Ext W3, n.w.cell? ⟨w.heap.size + 1, 1, none⟩ = some (.int .u8 rd) := fun n => Ext.cell n hX 1
  have y2 : ∀ n : Ext W3, n.w.cell? ⟨w.heap.size + 1, 2, none⟩ = some (.int .u8 r1) := fun n => Ext.cell n hX 2
  have y4 : ∀ n : Ext W3, n.w.cell? ⟨w.heap.size + 1, 4, none⟩ = some (.int .i64 im) := fun n => Ext.cell n hX 4
  have y6 : ∀ n : Ext W3, n.w.cell? ⟨w.heap.size + 1, 6, none⟩ = some (.int .u8 s1) := fun n => Ext.cell n hX 6
  clear hX
  have x0 : W3.cell? ⟨w.heap.size + 1, 0, none⟩ = some (.int .u8 4) := y0 ⟨W3, Fr.refl _ _⟩
  have hne := ext_ne W3
  have c2 : Hid (∀ m : Ext W3, Calls Try.prog 12 #[.pointer (some ⟨w.heap.size, 0, none⟩), .int .u8 r1] m.w fun e w'' => e = .returned (.int .u64 v1) ∧ ∃ m : Ext W3, w'' = m.w) := fun m => Ext.same m (h2.out _ _ (m.blk HR.out))
  clear h2
  refine wp_region_ext (by kernel_rfl) (by kernel_rfl) ?_
  repeat (go_big_quiet_step (first | (go_at_call 12; with_reducible exact c2.out _)))
  refine wpQuiet_nil ?_
  intro w' hw'
  obtain ⟨m1, rfl⟩ := hw'
  have hz := Hz.out
  clear hto
  have x1 : m1.w.cell? ⟨w.heap.size + 1, 1, none⟩ = some (.int .u8 rd) := y1 m1
  have x6 : m1.w.cell? ⟨w.heap.size + 1, 6, none⟩ = some (.int .u8 s1) := y6 m1
  have hR := m1.blk HR.out
  have hB := m1.blk HB.out
  have hF := HF.out.trans m1.fr
  have hX := m1.blk HX.out
  generalize m1.w = W4 at *
  clear HR HB HF HX y0 y1 y2 y4 y6 x0 hne
  have HR := hid hR
  have HB := hid hB
  have HF := hid hF
  have HX := hid hX
  clear hR hB hF hX
  have hK := hid (HF.out)
  go_upto_region 10 with (go_at_call 9; (with_reducible refine (h4.out _ _ HB.out).mono ?_); rintro e w5 ⟨rfl, hd⟩)
  have z6 : w5.cell? ⟨w.heap.size + 1, 6, none⟩ = some (.int .u8 s1) := by rw [blk_cell (hd.keeps HX.out (by have := HS.out; simp; omega))]; rfl
  have hF5 := hid (HF.out.step hd (fun j hj => .inr (by rw [List.mem_singleton.1 hj]; have := HS.out; omega)))
  clear hd HR HB HX hK
  go_wp2_with ((go_at_call 10; (with_reducible refine (h7.out _).mono ?_); rintro e w6 ⟨rfl, hd⟩))
  go_ret
  exact ⟨rfl, hF5.out.trans hd⟩
theorem upd_same (s : Nat → Int) (i : Nat) (v : Int) : upd s i v i = v := if_pos rfl
theorem get_set_eq (s : Nat → Int) (n v : Int) (h : n % 32 ≠ 0) : getT (setT s n v) n = v := by
  unfold getT setT
  rw [if_neg h, if_neg h, upd_same]
theorem set_zero (s : Nat → Int) (n v : Int) (h : n % 32 = 0) : setT s n v = s := by unfold setT; rw [if_pos h]
theorem wrap_id {a : Int} (h : N64 a) : IntKind.u64.wrap a = a := by rw [IntKind.wrap_u64]; unfold N64 at h; omega
theorem links_any {s : Nat → Int} (hs : RegsOK s) {pc : Int} (hp : N64 pc) {x : T7} (hx : W7 x) (w : World) : Calls Try.prog 4 #[.agg (regC s), .int .u64 pc, .agg (IC x)] w fun e w' => e = .returned (.bool true) ∧ Fr [] w w' := by
  obtain ⟨op, rd, r1, r2, im, cs, sz⟩ := x
  have hx' := hx
  obtain ⟨b0, b1, b2, b3, b4, b5, b6⟩ := hx
  simp only at b0 b1 b2 b3 b4 b5 b6
  obtain ⟨o, ho⟩ : ∃ o, 3 + op % 2 = o := ⟨_, rfl⟩
  obtain ⟨s1, hs1⟩ : ∃ s1, 2 + sz % 2 * 2 = s1 := ⟨_, rfl⟩
  have hx1 : W7 (o, rd, r1, r2, im, cs, s1) := by unfold W7; simp only; omega
  have hdo := fun g w hb => do_any g hs hp hx1 w hb
  have nnx : N64 (nextT pc (o, rd, r1, r2, im, cs, s1)) := wrap_N _
  have hget := fun g w hb => get_any g s w b2 hb
  have haw := hid fun w => awake_any w
  have ho2 : o = 3 ∨ o = 4 := by omega
  have key : ∀ (dst v : Int), N64 v → N64 dst → rd % 32 ≠ 0 → RegsOK (setT s rd v) → ∀ g w, w.heap[g]? = some (.cells (regC (setT s rd v)) 24) → Calls Try.prog 9 #[.pointer (some ⟨g, 0, none⟩), .int .u64 dst, .agg (IC (4, 0, rd, 0, 0, 0, 4))] w fun e w' => e = .returned (.tuple #[.int .u64 (bits .andNot .u64 v 1), .bool true]) ∧ Fr [g] w w' := by
    intro dst v hv hto hz hok g w hb
    have := do_any g hok hto (x := (4, 0, rd, 0, 0, 0, 4)) (by unfold W7; simp only; omega) w hb
    refine this.mono ?_
    rintro e w' ⟨h1, -, h3⟩
    refine ⟨?_, h3⟩
    rw [h1]
    unfold doT
    rw [if_pos rfl]
    simp only [get_set_eq s rd v hz, immU, show IntKind.u64.wrap 0 = 0 from rfl, Int.add_zero, wrap_id hv]
  have ok : ∀ v, N64 v → RegsOK (setT s rd v) := by
    intro v hv i
    unfold setT
    split
    · exact hs i
    · unfold upd; split
      · exact hv
      · exact hs i
  by_cases hz : rd % 32 = 0
  · rcases ho2 with rfl | rfl
    · refine links_3z s s pc _ (getT s r1) op rd r1 r2 im cs sz s1 w hp.1 hp.2 b0 b2 b3 b4.1 b4.2 b6.1 b6.2 b1 ho hs1 rfl (by simpa using hz) (hid fun g w hb => ?_) (hid hget) haw
      have := hdo g w hb
      unfold doT at this
      rw [if_neg (show ¬ (3 : Int) = 4 by decide), if_pos rfl, set_zero _ _ _ hz] at this
      exact this
    · refine links_4z s s pc _ (getT s r1) op rd r1 r2 im cs sz s1 w hp.1 hp.2 b0 b2 b3 b4.1 b4.2 b6.1 b6.2 b1 ho hs1 rfl (by simpa using hz) (hid fun g w hb => ?_) (hid hget) haw
      have := hdo g w hb
      unfold doT at this
      rw [if_pos rfl, set_zero _ _ _ hz] at this
      exact this
  · rcases ho2 with rfl | rfl
    · refine links_3n s (setT s rd (nextT pc (3, rd, r1, r2, im, cs, s1))) pc _ (getT s r1) op rd r1 r2 im cs sz s1 w hp.1 hp.2 b0 b2 b3 b4.1 b4.2 b6.1 b6.2 b1 ho hs1 rfl (by simpa using hz) (hid fun g w hb => ?_) (hid hget) (hid (key _ _ nnx (wrap_N _) hz (ok _ nnx))) haw
      have := hdo g w hb
      unfold doT at this
      rw [if_neg (show ¬ (3 : Int) = 4 by decide), if_pos rfl] at this
      exact this
    · refine links_4n s (setT s rd (nextT pc (4, rd, r1, r2, im, cs, s1))) pc _ (getT s r1) op rd r1 r2 im cs sz s1 w hp.1 hp.2 b0 b2 b3 b4.1 b4.2 b6.1 b6.2 b1 ho hs1 rfl (by simpa using hz) (hid fun g w hb => ?_) (hid hget) (hid (key _ _ nnx (by rw [u64_bits']; unfold N64; omega) hz (ok _ nnx))) haw
      have := hdo g w hb
      unfold doT at this
      rw [if_pos rfl] at this
      exact this
end Go.Proofs.Ytajbfnihgonppaa.PA
namespace Go.Proofs.Ytajbfnihgonppaa
open PA Plain Go.RowKit
theorem regs_of_list (l : List Int) (h : ∀ v ∈ l, N64 v) : RegsOK (fun i => l.getD i 0) := by
  intro i
  show N64 (l.getD i 0)
  rw [List.getD_eq_getElem?_getD]
  cases e : l[i]? with
  | none => unfold N64; simp
  | some v => exact h v (List.mem_of_getElem? e)
theorem wf_b (k : IntKind) {a : Int} (h : (Lit.int k a).wf = true) : k.min ≤ a ∧ a ≤ k.max := by simp [Lit.wf] at h; exact h

set_option linter.unusedVariables false in
theorem walk_ExecLinks (a0_0 : Int) (a0_1 : Int) (a0_2 : Int) (a0_3 : Int) (a0_4 : Int) (a0_5 : Int) (a0_6 : Int) (a0_7 : Int) (a0_8 : Int) (a0_9 : Int) (a0_10 : Int) (a0_11 : Int) (a0_12 : Int) (a0_13 : Int) (a0_14 : Int) (a0_15 : Int) (a0_16 : Int) (a0_17 : Int) (a0_18 : Int) (a0_19 : Int) (a0_20 : Int) (a0_21 : Int) (a0_22 : Int) (a0_23 : Int) (a0_24 : Int) (a0_25 : Int) (a0_26 : Int) (a0_27 : Int) (a0_28 : Int) (a0_29 : Int) (a0_30 : Int) (a0_31 : Int) (a1 : Int) (a2_0 : Int) (a2_1 : Int) (a2_2 : Int) (a2_3 : Int) (a2_4 : Int) (a2_5 : Int) (a2_6 : Int) (w : World) (w0_0 : (Lit.int .u64 a0_0).wf = true) (w0_1 : (Lit.int .u64 a0_1).wf = true) (w0_2 : (Lit.int .u64 a0_2).wf = true) (w0_3 : (Lit.int .u64 a0_3).wf = true) (w0_4 : (Lit.int .u64 a0_4).wf = true) (w0_5 : (Lit.int .u64 a0_5).wf = true) (w0_6 : (Lit.int .u64 a0_6).wf = true) (w0_7 : (Lit.int .u64 a0_7).wf = true) (w0_8 : (Lit.int .u64 a0_8).wf = true) (w0_9 : (Lit.int .u64 a0_9).wf = true) (w0_10 : (Lit.int .u64 a0_10).wf = true) (w0_11 : (Lit.int .u64 a0_11).wf = true) (w0_12 : (Lit.int .u64 a0_12).wf = true) (w0_13 : (Lit.int .u64 a0_13).wf = true) (w0_14 : (Lit.int .u64 a0_14).wf = true) (w0_15 : (Lit.int .u64 a0_15).wf = true) (w0_16 : (Lit.int .u64 a0_16).wf = true) (w0_17 : (Lit.int .u64 a0_17).wf = true) (w0_18 : (Lit.int .u64 a0_18).wf = true) (w0_19 : (Lit.int .u64 a0_19).wf = true) (w0_20 : (Lit.int .u64 a0_20).wf = true) (w0_21 : (Lit.int .u64 a0_21).wf = true) (w0_22 : (Lit.int .u64 a0_22).wf = true) (w0_23 : (Lit.int .u64 a0_23).wf = true) (w0_24 : (Lit.int .u64 a0_24).wf = true) (w0_25 : (Lit.int .u64 a0_25).wf = true) (w0_26 : (Lit.int .u64 a0_26).wf = true) (w0_27 : (Lit.int .u64 a0_27).wf = true) (w0_28 : (Lit.int .u64 a0_28).wf = true) (w0_29 : (Lit.int .u64 a0_29).wf = true) (w0_30 : (Lit.int .u64 a0_30).wf = true) (w0_31 : (Lit.int .u64 a0_31).wf = true) (w1 : (Lit.int .u64 a1).wf = true) (w2_0 : (Lit.int .u8 a2_0).wf = true) (w2_1 : (Lit.int .u8 a2_1).wf = true) (w2_2 : (Lit.int .u8 a2_2).wf = true) (w2_3 : (Lit.int .u8 a2_3).wf = true) (w2_4 : (Lit.int .i64 a2_4).wf = true) (w2_5 : (Lit.int .u16 a2_5).wf = true) (w2_6 : (Lit.int .u8 a2_6).wf = true) :
    Calls Try.prog 4 #[.agg #[.int .u64 a0_0, .int .u64 a0_1, .int .u64 a0_2, .int .u64 a0_3, .int .u64 a0_4, .int .u64 a0_5, .int .u64 a0_6, .int .u64 a0_7, .int .u64 a0_8, .int .u64 a0_9, .int .u64 a0_10, .int .u64 a0_11, .int .u64 a0_12, .int .u64 a0_13, .int .u64 a0_14, .int .u64 a0_15, .int .u64 a0_16, .int .u64 a0_17, .int .u64 a0_18, .int .u64 a0_19, .int .u64 a0_20, .int .u64 a0_21, .int .u64 a0_22, .int .u64 a0_23, .int .u64 a0_24, .int .u64 a0_25, .int .u64 a0_26, .int .u64 a0_27, .int .u64 a0_28, .int .u64 a0_29, .int .u64 a0_30, .int .u64 a0_31], .int .u64 a1, .agg #[.int .u8 a2_0, .int .u8 a2_1, .int .u8 a2_2, .int .u8 a2_3, .int .i64 a2_4, .int .u16 a2_5, .int .u8 a2_6]] w fun e w' => e = .returned (.bool true) ∧ Below w.heap.size w w' := by
  have hs : RegsOK (fun i => ([a0_0, a0_1, a0_2, a0_3, a0_4, a0_5, a0_6, a0_7, a0_8, a0_9, a0_10, a0_11, a0_12, a0_13, a0_14, a0_15, a0_16, a0_17, a0_18, a0_19, a0_20, a0_21, a0_22, a0_23, a0_24, a0_25, a0_26, a0_27, a0_28, a0_29, a0_30, a0_31] : List Int).getD i 0) := regs_of_list _ (by
    intro v hv
    simp only [List.mem_cons, List.not_mem_nil, or_false] at hv
    rcases hv with rfl | rfl | rfl | rfl | rfl | rfl | rfl | rfl | rfl | rfl | rfl | rfl | rfl | rfl | rfl | rfl | rfl | rfl | rfl | rfl | rfl | rfl | rfl | rfl | rfl | rfl | rfl | rfl | rfl | rfl | rfl | rfl
    · exact N64.of w0_0
    · exact N64.of w0_1
    · exact N64.of w0_2
    · exact N64.of w0_3
    · exact N64.of w0_4
    · exact N64.of w0_5
    · exact N64.of w0_6
    · exact N64.of w0_7
    · exact N64.of w0_8
    · exact N64.of w0_9
    · exact N64.of w0_10
    · exact N64.of w0_11
    · exact N64.of w0_12
    · exact N64.of w0_13
    · exact N64.of w0_14
    · exact N64.of w0_15
    · exact N64.of w0_16
    · exact N64.of w0_17
    · exact N64.of w0_18
    · exact N64.of w0_19
    · exact N64.of w0_20
    · exact N64.of w0_21
    · exact N64.of w0_22
    · exact N64.of w0_23
    · exact N64.of w0_24
    · exact N64.of w0_25
    · exact N64.of w0_26
    · exact N64.of w0_27
    · exact N64.of w0_28
    · exact N64.of w0_29
    · exact N64.of w0_30
    · exact N64.of w0_31
    )
  have hx : W7 (a2_0, a2_1, a2_2, a2_3, a2_4, a2_5, a2_6) := by
    have m8 : IntKind.u8.min = 0 ∧ IntKind.u8.max = 255 := ⟨rfl, rfl⟩
    have m16 : IntKind.u16.min = 0 ∧ IntKind.u16.max = 65535 := ⟨rfl, rfl⟩
    have m64 : IntKind.i64.min = -9223372036854775808 ∧ IntKind.i64.max = 9223372036854775807 := ⟨rfl, rfl⟩
    have h0 := wf_b _ w2_0
    have h1 := wf_b _ w2_1
    have h2 := wf_b _ w2_2
    have h3 := wf_b _ w2_3
    have h4 := wf_b _ w2_4
    have h5 := wf_b _ w2_5
    have h6 := wf_b _ w2_6
    unfold W7
    simp only
    omega
  exact (links_any hs (N64.of w1) hx w).mono fun _ _ ⟨h1, h2⟩ => ⟨h1, below_of_fr h2⟩
end Go.Proofs.Ytajbfnihgonppaa
