/- The law ExecDoes: its walk. -/
import Derived.Test.YtajbfnihgonppaaE6
namespace Go.Proofs.Ytajbfnihgonppaa.PA
open Go.RowKit Go.Proofs.Ytajbfnihgonppaa.Plain
set_option linter.all false
attribute [local go_sem ↓] eqg_39 neq_39 eqg_24 eql_24
set_option maxRecDepth 100000 in
set_option maxHeartbeats 4000000 in
theorem lawDoes_w (s S : Nat → Int) (x : T7) (pc nx ad : Int) (ok is_ : Bool) (w : World)
    (h1 : Hid (∀ g w, w.heap[g]? = some (.cells (regC s) 24) → Calls Try.prog 9 #[.pointer (some ⟨g, 0, none⟩), .int .u64 pc, .agg (IC x)] w fun e w' => e = .returned (.tuple #[.int .u64 nx, .bool ok]) ∧ w'.heap[g]? = some (.cells (regC S) 24) ∧ Fr [g] w w'))
    (h2 : Hid (∀ w, Calls Try.prog 14 #[.agg (regC s), .int .u64 pc, .agg (IC x)] w fun e w' => e = .returned (.tuple #[.agg (regC S), .int .u64 nx, .bool ok]) ∧ Fr [] w w'))
    (h3 : Hid (∀ g w, w.heap[g]? = some (.cells (regC s) 24) → Calls Try.prog 15 #[.pointer (some ⟨g, 0, none⟩), .agg (IC x)] w fun e w' => e = .returned (.tuple #[.int .u64 ad, .bool is_]) ∧ Fr [] w w'))
    (h4 : Hid (∀ w, Calls Try.prog 16 #[.agg (regC s), .agg (IC x)] w fun e w' => e = .returned (.tuple #[.int .u64 ad, .bool is_]) ∧ Fr [] w w'))
    (h5 : Hid (∀ (n : Int) g w, 0 ≤ n ∧ n < 256 → w.heap[g]? = some (.cells (regC S) 24) → Calls Try.prog 12 #[.pointer (some ⟨g, 0, none⟩), .int .u8 n] w fun e w' => e = .returned (.int .u64 (getT S n)) ∧ w = w'))
    (h6 : Hid (∀ (n : Int) w, 0 ≤ n ∧ n < 256 → Calls Try.prog 17 #[.agg (regC S), .int .u8 n] w fun e w' => e = .returned (.int .u64 (getT S n)) ∧ Fr [] w w'))
    (h7 : Hid (∀ w, Calls Try.prog 10 #[] w fun e w' => e = .returned (.bool true) ∧ Fr [] w w')) : Calls Try.prog 5 #[.agg (regC s), .int .u64 pc, .agg (IC x)] w fun e w' => e = .returned (.bool true) ∧ Fr [] w w' := by
  go_enter Try.func5, Try.ntmps5
  go_upto_region 1 with fail
  refine world_at' (fun W => W.heap[w.heap.size]? = some (.cells (regC s) 24) ∧ W.heap[w.heap.size + 1]? = some (.cells (IC x) 27) ∧ W.heap.size = w.heap.size + 2 ∧ Fr [] w W) ⟨blk_alloc (blk_new _ _) _, blk_new' (n := w.heap.size + 1) (by simp) _, by simp, ((Fr.refl [] w).alloc _).alloc _⟩ ?_
  rintro W ⟨hR, hX, hs, hF⟩
  have HR := hid hR
  have HX := hid hX
  have HF := hid hF
  have HS := hid hs
  clear hR hX hF hs
  go_upto_region 2 with (first | (refine wpList_load_row_g (by rfl) 24 _ (by rfl) (w.heap.size) (by rfl) 24 (regC s) (0, 0) _ HR.out Try.underlying24 rfl (size_x _) ?_) | (refine wpList_store_whole rfl 24 _ _ rfl W.heap.size rfl (regC s) rfl 24 _ (by rw [← zeroX]; exact blk_new _ _) (by rw [regC_size, regC_size]) (size_x _) (regC_one _) ?_; intro w2 hB hfr2))
  refine world_at' (fun W' => W'.heap[w.heap.size]? = some (.cells (regC s) 24) ∧ W'.heap[w.heap.size + 1]? = some (.cells (IC x) 27) ∧ W'.heap[W.heap.size]? = some (.cells (regC s) 24) ∧ Fr [] w W') ⟨hfr2.keeps (blk_alloc HR.out _) (by have := HS.out; simp; omega), hfr2.keeps (blk_alloc HX.out _) (by have := HS.out; simp; omega), hB, (HF.out.alloc _).step hfr2 (fun j hj => .inr (by rw [List.mem_singleton.1 hj]; exact HF.out.size))⟩ ?_
  clear hB hfr2 HR HX HF
  rintro W2 ⟨hR, hX, hB, hF⟩
  have hs := HS.out
  generalize W.heap.size = g at *
  clear HS
  have HR := hid hR
  have HX := hid hX
  have HB := hid hB
  have HF := hid hF
  have HS := hid hs
  clear hR hX hB hF hs
  go_upto_region 3 with (first | (refine wpList_load_row_g (by rfl) 27 _ (by rfl) (w.heap.size + 1) (by rfl) 27 (IC x) (0, 0) _ HX.out Try.underlying27 rfl (sizeI' _) ?_) | (go_at_call 9; (with_reducible refine (h1.out _ _ HB.out).mono ?_); rintro e w3 ⟨rfl, hB, hd⟩))
  refine world_at' (fun W' => W'.heap[w.heap.size]? = some (.cells (regC s) 24) ∧ W'.heap[w.heap.size + 1]? = some (.cells (IC x) 27) ∧ W'.heap[g]? = some (.cells (regC S) 24) ∧ Fr [] w W') ⟨hd.keeps HR.out (by have := HS.out; simp; omega), hd.keeps HX.out (by have := HS.out; simp; omega), hB, HF.out.step hd (fun j hj => .inr (by rw [List.mem_singleton.1 hj]; have := HS.out; omega))⟩ ?_
  clear hB hd HR HX HF HB
  rintro W3 ⟨hR, hX, hB, hF⟩
  have HR := hid hR
  have HX := hid hX
  have HB := hid hB
  have HF := hid hF
  clear hR hX hB hF
  go_upto_region 4 with (first | (refine wpList_load_row_g (by rfl) 24 _ (by rfl) (w.heap.size) (by rfl) 24 (regC s) (0, 0) _ HR.out Try.underlying24 rfl (size_x _) ?_) | (refine wpList_load_row_g (by rfl) 27 _ (by rfl) (w.heap.size + 1) (by rfl) 27 (IC x) (0, 0) _ HX.out Try.underlying27 rfl (sizeI' _) ?_) | (go_at_call 14; (with_reducible refine (h2.out _).mono ?_); rintro e w4 ⟨rfl, hd⟩) | (refine wpList_store_whole rfl 39 _ _ rfl w4.heap.size rfl (regC S) rfl 39 _ (by rw [← zeroX]; exact blk_new _ _) (by rw [regC_size, regC_size]) (size_r _) (regC_one _) ?_; intro w5 hT hfr5))
  have hlt : g < W3.heap.size := lt_block HB.out
  have hne : g ≠ w4.heap.size ∧ w.heap.size ≠ w4.heap.size ∧ w.heap.size + 1 ≠ w4.heap.size := by have := hd.size; have := HS.out; omega
  refine world_at' (fun W' => W'.heap[w.heap.size]? = some (.cells (regC s) 24) ∧ W'.heap[w.heap.size + 1]? = some (.cells (IC x) 27) ∧ W'.heap[g]? = some (.cells (regC S) 24) ∧ W'.heap[w4.heap.size]? = some (.cells (regC S) 39) ∧ Fr [] w W') ⟨hfr5.keeps (blk_alloc (hd.keeps HR.out (by simp)) _) (by simpa using hne.2.1), hfr5.keeps (blk_alloc (hd.keeps HX.out (by simp)) _) (by simpa using hne.2.2), hfr5.keeps (blk_alloc (hd.keeps HB.out (by simp)) _) (by simpa using hne.1), hT, ((HF.out.trans hd).alloc _).step hfr5 (fun j hj => .inr (by rw [List.mem_singleton.1 hj]; have := hd.size; have := HF.out.size; omega))⟩ ?_
  clear hT hfr5 hd HR HX HF HB hlt hne
  rintro W5 ⟨hR, hX, hB, hT, hF⟩
  generalize w4.heap.size = A at *
  have HR := hid hR
  have HX := hid hX
  have HB := hid hB
  have HT := hid hT
  have HF := hid hF
  clear hR hX hB hF hT
  have hK := Fr.refl [] W5
  go_upto_region 8 with (first | (refine wpList_load_row_g (by rfl) 24 _ (by rfl) (w.heap.size) (by rfl) 24 (regC s) (0, 0) _ (hK.keeps HR.out (by simp)) Try.underlying24 rfl (size_x _) ?_) | (refine wpList_load_row_g (by rfl) 27 _ (by rfl) (w.heap.size + 1) (by rfl) 27 (IC x) (0, 0) _ (hK.keeps HX.out (by simp)) Try.underlying27 rfl (sizeI' _) ?_) | (refine wpList_load_row_g (by rfl) 24 _ (by rfl) (g) (by rfl) 24 (regC S) (0, 0) _ (hK.keeps HB.out (by simp)) Try.underlying24 rfl (size_x _) ?_) | (refine wpList_load_row_g (by rfl) 39 _ (by rfl) (A) (by rfl) 39 (regC S) (0, 0) _ (hK.keeps HT.out (by simp)) Try.underlying39 rfl (size_r _) ?_) | (go_at_call 15; (with_reducible refine (h3.out _ _ (hK.keeps HR.out (by simp))).mono ?_); rintro e w6 ⟨rfl, hd⟩; replace hK := hK.trans hd; clear hd) | (go_at_call 16; (with_reducible refine (h4.out _).mono ?_); rintro e w6 ⟨rfl, hd⟩; replace hK := hK.trans hd; clear hd))
  have HK := hid hK
  clear hK
  go_upto_region 9 with fail
  go_loopw [17] (fun i wr => ∃ n : Int, 0 ≤ n ∧ n ≤ 262 ∧ i = .int .i64 n ∧ Hid (wr.heap[g]? = some (.cells (regC S) 24)) ∧ Hid (wr.heap[A]? = some (.cells (regC S) 39)) ∧ Hid (Fr [] w wr)) (fun i _ => 262 - (intOf i).toNat)
  case atStart => exact ⟨0, by decide, by decide, rfl, HK.out.keeps HB.out (by simp), HK.out.keeps HT.out (by simp), HF.out.trans HK.out⟩
  case round =>
    clear HK HB HT HF
    obtain ⟨n, hn0, hn1, rfl, hB, hT, hF⟩ := hrel
    by_cases hlt : n < 256
    · go_upto_region 11 with fail
      have hne := ext_ne wr
      have c1 : Hid (∀ m : Ext wr, Calls Try.prog 12 #[.pointer (some ⟨g, 0, none⟩), .int .u8 n] m.w fun e w'' => e = .returned (.int .u64 (getT S n)) ∧ ∃ m : Ext wr, w'' = m.w) := fun m => Ext.same m (h5.out _ _ _ ⟨hn0, hlt⟩ (m.blk hB.out))
      have c2 : Hid (∀ m : Ext wr, Calls Try.prog 17 #[.agg (regC S), .int .u8 n] m.w fun e w'' => e = .returned (.int .u64 (getT S n)) ∧ ∃ m : Ext wr, w'' = m.w) := fun m => Ext.call m (h6.out _ _ ⟨hn0, hlt⟩)
      refine wp_region_ext (by kernel_rfl) (by kernel_rfl) ?_
      repeat (first | (go_big_quiet_want; refine quiet_row 39 _ rfl A rfl 39 (regC S) (0, 0) _ (fun w' hw' => by obtain ⟨n, rfl⟩ := hw'; exact n.blk hT.out) Try.underlying39 rfl (size_r _) ?_; go_simp; go_big_quiet_on) | go_big_quiet_step (first | (go_at_call 12; with_reducible exact c1.out _) | (go_at_call 17; with_reducible exact c2.out _)))
      refine wpQuiet_nil ?_
      intro w' hw'
      obtain ⟨m1, rfl⟩ := hw'
      go_wp2
      go_roundw
      case rel => exact ⟨n + 7, by omega, by omega, rfl, m1.blk hB.out, m1.blk hT.out, hF.out.trans m1.fr⟩
      case measure => simp [intOf]; omega
    · go_wp2_with (go_at_call 10; (with_reducible refine (h7.out _).mono ?_); rintro e w6 ⟨rfl, hd⟩)
      go_ret
      exact ⟨rfl, hF.out.trans hd⟩
theorem lawDoes_any {s : Nat → Int} (hs : RegsOK s) {pc : Int} (hp : N64 pc) {x : T7} (hx : W7 x) (w : World) : Calls Try.prog 5 #[.agg (regC s), .int .u64 pc, .agg (IC x)] w fun e w' => e = .returned (.bool true) ∧ Fr [] w w' :=
  lawDoes_w s (doT s pc x).1 x pc (doT s pc x).2.1 (addrT s x).1 (doT s pc x).2.2 (addrT s x).2 w (hid fun g w hb => do_any g hs hp hx w hb) (hid fun w => rdo_any hs hp hx w) (hid fun g w hb => addr_any g hx w hb) (hid fun w => raddr_any hx w)
    (hid fun n g w hn hb => get_any g _ w hn hb) (hid fun n w hn => rget_any _ w hn) (hid fun w => awake_any w)
end Go.Proofs.Ytajbfnihgonppaa.PA
namespace Go.Proofs.Ytajbfnihgonppaa
open PA Plain Go.RowKit
theorem regs_of_list (l : List Int) (h : ∀ v ∈ l, N64 v) : RegsOK (fun i => l.getD i 0) := by
  intro i
  show N64 (l.getD i 0)
  rw [List.getD_eq_getElem?_getD]
  cases e : l[i]? with
  | none => unfold N64; simp
  | some v => exact h v (List.mem_of_getElem? e)
theorem wf_b (k : IntKind) {a : Int} (h : (Lit.int k a).wf = true) : k.min ≤ a ∧ a ≤ k.max := by simp [Lit.wf] at h; exact h

set_option linter.unusedVariables false in
theorem walk_ExecDoes (a0_0 : Int) (a0_1 : Int) (a0_2 : Int) (a0_3 : Int) (a0_4 : Int) (a0_5 : Int) (a0_6 : Int) (a0_7 : Int) (a0_8 : Int) (a0_9 : Int) (a0_10 : Int) (a0_11 : Int) (a0_12 : Int) (a0_13 : Int) (a0_14 : Int) (a0_15 : Int) (a0_16 : Int) (a0_17 : Int) (a0_18 : Int) (a0_19 : Int) (a0_20 : Int) (a0_21 : Int) (a0_22 : Int) (a0_23 : Int) (a0_24 : Int) (a0_25 : Int) (a0_26 : Int) (a0_27 : Int) (a0_28 : Int) (a0_29 : Int) (a0_30 : Int) (a0_31 : Int) (a1 : Int) (a2_0 : Int) (a2_1 : Int) (a2_2 : Int) (a2_3 : Int) (a2_4 : Int) (a2_5 : Int) (a2_6 : Int) (w : World) (w0_0 : (Lit.int .u64 a0_0).wf = true) (w0_1 : (Lit.int .u64 a0_1).wf = true) (w0_2 : (Lit.int .u64 a0_2).wf = true) (w0_3 : (Lit.int .u64 a0_3).wf = true) (w0_4 : (Lit.int .u64 a0_4).wf = true) (w0_5 : (Lit.int .u64 a0_5).wf = true) (w0_6 : (Lit.int .u64 a0_6).wf = true) (w0_7 : (Lit.int .u64 a0_7).wf = true) (w0_8 : (Lit.int .u64 a0_8).wf = true) (w0_9 : (Lit.int .u64 a0_9).wf = true) (w0_10 : (Lit.int .u64 a0_10).wf = true) (w0_11 : (Lit.int .u64 a0_11).wf = true) (w0_12 : (Lit.int .u64 a0_12).wf = true) (w0_13 : (Lit.int .u64 a0_13).wf = true) (w0_14 : (Lit.int .u64 a0_14).wf = true) (w0_15 : (Lit.int .u64 a0_15).wf = true) (w0_16 : (Lit.int .u64 a0_16).wf = true) (w0_17 : (Lit.int .u64 a0_17).wf = true) (w0_18 : (Lit.int .u64 a0_18).wf = true) (w0_19 : (Lit.int .u64 a0_19).wf = true) (w0_20 : (Lit.int .u64 a0_20).wf = true) (w0_21 : (Lit.int .u64 a0_21).wf = true) (w0_22 : (Lit.int .u64 a0_22).wf = true) (w0_23 : (Lit.int .u64 a0_23).wf = true) (w0_24 : (Lit.int .u64 a0_24).wf = true) (w0_25 : (Lit.int .u64 a0_25).wf = true) (w0_26 : (Lit.int .u64 a0_26).wf = true) (w0_27 : (Lit.int .u64 a0_27).wf = true) (w0_28 : (Lit.int .u64 a0_28).wf = true) (w0_29 : (Lit.int .u64 a0_29).wf = true) (w0_30 : (Lit.int .u64 a0_30).wf = true) (w0_31 : (Lit.int .u64 a0_31).wf = true) (w1 : (Lit.int .u64 a1).wf = true) (w2_0 : (Lit.int .u8 a2_0).wf = true) (w2_1 : (Lit.int .u8 a2_1).wf = true) (w2_2 : (Lit.int .u8 a2_2).wf = true) (w2_3 : (Lit.int .u8 a2_3).wf = true) (w2_4 : (Lit.int .i64 a2_4).wf = true) (w2_5 : (Lit.int .u16 a2_5).wf = true) (w2_6 : (Lit.int .u8 a2_6).wf = true) :
    Calls Try.prog 5 #[.agg #[.int .u64 a0_0, .int .u64 a0_1, .int .u64 a0_2, .int .u64 a0_3, .int .u64 a0_4, .int .u64 a0_5, .int .u64 a0_6, .int .u64 a0_7, .int .u64 a0_8, .int .u64 a0_9, .int .u64 a0_10, .int .u64 a0_11, .int .u64 a0_12, .int .u64 a0_13, .int .u64 a0_14, .int .u64 a0_15, .int .u64 a0_16, .int .u64 a0_17, .int .u64 a0_18, .int .u64 a0_19, .int .u64 a0_20, .int .u64 a0_21, .int .u64 a0_22, .int .u64 a0_23, .int .u64 a0_24, .int .u64 a0_25, .int .u64 a0_26, .int .u64 a0_27, .int .u64 a0_28, .int .u64 a0_29, .int .u64 a0_30, .int .u64 a0_31], .int .u64 a1, .agg #[.int .u8 a2_0, .int .u8 a2_1, .int .u8 a2_2, .int .u8 a2_3, .int .i64 a2_4, .int .u16 a2_5, .int .u8 a2_6]] w fun e w' => e = .returned (.bool true) ∧ Below w.heap.size w w' := by
  have hs : RegsOK (fun i => ([a0_0, a0_1, a0_2, a0_3, a0_4, a0_5, a0_6, a0_7, a0_8, a0_9, a0_10, a0_11, a0_12, a0_13, a0_14, a0_15, a0_16, a0_17, a0_18, a0_19, a0_20, a0_21, a0_22, a0_23, a0_24, a0_25, a0_26, a0_27, a0_28, a0_29, a0_30, a0_31] : List Int).getD i 0) := regs_of_list _ (by
    intro v hv
    simp only [List.mem_cons, List.not_mem_nil, or_false] at hv
    rcases hv with rfl | rfl | rfl | rfl | rfl | rfl | rfl | rfl | rfl | rfl | rfl | rfl | rfl | rfl | rfl | rfl | rfl | rfl | rfl | rfl | rfl | rfl | rfl | rfl | rfl | rfl | rfl | rfl | rfl | rfl | rfl | rfl
    · exact N64.of w0_0
    · exact N64.of w0_1
    · exact N64.of w0_2
    · exact N64.of w0_3
    · exact N64.of w0_4
    · exact N64.of w0_5
    · exact N64.of w0_6
    · exact N64.of w0_7
    · exact N64.of w0_8
    · exact N64.of w0_9
    · exact N64.of w0_10
    · exact N64.of w0_11
    · exact N64.of w0_12
    · exact N64.of w0_13
    · exact N64.of w0_14
    · exact N64.of w0_15
    · exact N64.of w0_16
    · exact N64.of w0_17
    · exact N64.of w0_18
    · exact N64.of w0_19
    · exact N64.of w0_20
    · exact N64.of w0_21
    · exact N64.of w0_22
    · exact N64.of w0_23
    · exact N64.of w0_24
    · exact N64.of w0_25
    · exact N64.of w0_26
    · exact N64.of w0_27
    · exact N64.of w0_28
    · exact N64.of w0_29
    · exact N64.of w0_30
    · exact N64.of w0_31
    )
  have hx : W7 (a2_0, a2_1, a2_2, a2_3, a2_4, a2_5, a2_6) := by
    have m8 : IntKind.u8.min = 0 ∧ IntKind.u8.max = 255 := ⟨rfl, rfl⟩
    have m16 : IntKind.u16.min = 0 ∧ IntKind.u16.max = 65535 := ⟨rfl, rfl⟩
    have m64 : IntKind.i64.min = -9223372036854775808 ∧ IntKind.i64.max = 9223372036854775807 := ⟨rfl, rfl⟩
    have h0 := wf_b _ w2_0
    have h1 := wf_b _ w2_1
    have h2 := wf_b _ w2_2
    have h3 := wf_b _ w2_3
    have h4 := wf_b _ w2_4
    have h5 := wf_b _ w2_5
    have h6 := wf_b _ w2_6
    unfold W7
    simp only
    omega
  exact (lawDoes_any hs (N64.of w1) hx w).mono fun _ _ ⟨h1, h2⟩ => ⟨h1, below_of_fr h2⟩
end Go.Proofs.Ytajbfnihgonppaa
