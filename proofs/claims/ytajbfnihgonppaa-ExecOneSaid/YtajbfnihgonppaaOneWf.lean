/- The law ExecOne: its walk, one way (f). -/
import Derived.Test.YtajbfnihgonppaaOneB
namespace Go.Proofs.Ytajbfnihgonppaa.PA
open Go.RowKit Go.Proofs.Ytajbfnihgonppaa.Plain
set_option linter.all false
attribute [local go_sem ↓] eqg_24 eql_24
set_option maxRecDepth 100000 in
set_option maxHeartbeats 4000000 in
theorem one_f (s S s2 O1 O2 O3 : Nat → Int) (pc nx op rd r1 r2 im cs sz a b v : Int) (w : World) (p0 : 0 ≤ pc) (p1 : pc < 18446744073709551616) (b0 : 0 ≤ op ∧ op < 256) (b2 : 0 ≤ r1 ∧ r1 < 256) (b3 : 0 ≤ r2 ∧ r2 < 256) (b4 : -9223372036854775808 ≤ im) (b4b : im ≤ 9223372036854775807) (b6 : 0 ≤ sz) (b6b : sz < 256) (b1 : 0 ≤ rd ∧ rd < 256) (h1 : Hid (∀ g w, w.heap[g]? = some (.cells (regC s) 24) → Calls Try.prog 9 #[.pointer (some ⟨g, 0, none⟩), .int .u64 pc, .agg (IC (op, rd, r1, r2, im, cs, sz))] w fun e w' => e = .returned (.tuple #[.int .u64 pc, .bool false]) ∧ w'.heap[g]? = some (.cells (regC s) 24) ∧ Fr [g] w w')) (h7 : Hid (∀ w, Calls Try.prog 10 #[] w fun e w' => e = .returned (.bool true) ∧ Fr [] w w')) :
    Calls Try.prog 3 #[.agg (regC s), .int .u64 pc, .agg (OC (op, rd, r1, r2, im, cs, sz) s2)] w fun e w' => e = .returned (.bool true) ∧ Fr [] w w' := by
  go_enter Try.func3, Try.ntmps3
  go_upto_region 1 with fail
  refine world_at' (fun W => W.heap[w.heap.size]? = some (.cells (regC s) 24) ∧ W.heap[w.heap.size + 1]? = some (.cells (OC (op, rd, r1, r2, im, cs, sz) s2) 29) ∧ W.heap.size = w.heap.size + 2 ∧ Fr [] w W) ⟨blk_alloc (blk_new _ _) _, blk_new' (n := w.heap.size + 1) (by simp) _, by simp, ((Fr.refl [] w).alloc _).alloc _⟩ ?_
  rintro W ⟨hR, hX, hs, hF⟩
  have HR := hid hR
  have HX := hid hX
  have HF := hid hF
  have HS := hid hs
  clear hR hX hF hs
  go_upto_region 2 with (first | (refine wpList_load_midA (by rfl) 27 _ (by rfl) (w.heap.size + 1) 0 (by rfl) (IC (op, rd, r1, r2, im, cs, sz)) _ (range_i HX.out) Try.underlying27 rfl (sizeI' _) ?_) | (refine wpList_store_whole rfl 27 _ _ rfl W.heap.size rfl (IC (op, rd, r1, r2, im, cs, sz)) rfl 27 _ (blk_new _ _) rfl (sizeI' _) (IC_one _) ?_; intro w2 hJ hfr2))
  refine world_at' (fun W' => W'.heap[w.heap.size]? = some (.cells (regC s) 24) ∧ W'.heap[w.heap.size + 1]? = some (.cells (OC (op, rd, r1, r2, im, cs, sz) s2) 29) ∧ W'.heap[W.heap.size]? = some (.cells (IC (op, rd, r1, r2, im, cs, sz)) 27) ∧ Fr [] w W') ⟨hfr2.keeps (blk_alloc HR.out _) (by have := HS.out; simp; omega), hfr2.keeps (blk_alloc HX.out _) (by have := HS.out; simp; omega), hJ, (HF.out.alloc _).step hfr2 (fun j hj => .inr (by rw [List.mem_singleton.1 hj]; exact HF.out.size))⟩ ?_
  clear hJ hfr2 HR HX HF
  rintro W2 ⟨hR, hX, hJ, hF⟩
  have hs := HS.out
  generalize W.heap.size = J at *
  clear HS
  have HR := hid hR
  have HX := hid hX
  have HJ := hid hJ
  have HF := hid hF
  have HS := hid hs
  clear hR hX hJ hF hs
  (try simp only [Act.put, List.setIfInBounds_toArray, List.set_cons_zero, List.set_cons_succ])
  go_cut [8, 9] (fun u8 u9 wc => ∃ A B : Nat, u8 = .pointer (some ⟨A, 0, none⟩) ∧ u9 = .pointer (some ⟨B, 0, none⟩) ∧ wc.heap[A]? = some (.cells (regC s) 24) ∧ wc.heap[B]? = some (.cells (regC s2) 24) ∧ W2.heap.size ≤ A ∧ W2.heap.size ≤ B ∧ A ≠ B ∧ Fr [] W2 wc)
  case first =>
    refine wp_region_held_drew (S := fun W' => W'.heap[w.heap.size]? = some (.cells (regC s) 24) ∧ W'.heap[w.heap.size + 1]? = some (.cells (OC (op, rd, r1, r2, im, cs, sz) s2) 29) ∧ Fr [] W2 W') (by kernel_rfl) ⟨HR.out, HX.out, (Fr.refl [] W2).drew⟩ (fun hHeld => ?_)
    refine wpAnyH_take (i := 0) rfl (by kernel_rfl) (by kernel_rfl) (by kernel_rfl) (fun _ _ _ h => h) (yieldsIf_row (by rfl) 24 _ rfl w.heap.size rfl 24 (regC s) (0, 0) _ (fun w' h => h.1) Try.underlying24 rfl (size_x _)) hHeld ?_
    simp only [Act.put, List.setIfInBounds_toArray, List.set_cons_zero, List.set_cons_succ]
    refine wpAnyH_take (i := 1) rfl (by kernel_rfl) (by kernel_rfl) (by kernel_rfl) (fun _ _ _ h => h) (yieldsIf_of (.pointer (some ⟨w.heap.size + 1, 7, none⟩)) (by rfl) (fun _ _ => by go_simp)) hHeld ?_
    simp only [Act.put, List.setIfInBounds_toArray, List.set_cons_zero, List.set_cons_succ]
    refine wpAnyH_take (i := 2) rfl (by kernel_rfl) (by kernel_rfl) (by kernel_rfl) (fun _ _ _ h => h) (yieldsIf_mid (by rfl) 24 _ rfl (w.heap.size + 1) 7 rfl (regC s2) _ (fun w' h => range_r h.2.1) Try.underlying24 rfl (size_x _)) hHeld ?_
    simp only [Act.put, List.setIfInBounds_toArray, List.set_cons_zero, List.set_cons_succ]
    refine wpAnyH_ready (rs := [3, 4]) (by kernel_rfl) (by simp) ?_
    have hl1 := lt_block HR.out
    have hl2 := lt_block HX.out
    refine AllReadyH.cons rfl (fun K hK => ?_) (AllReadyH.cons rfl (fun K hK => ?_) AllReadyH.nil)
    · go_simp
      refine hK.out _ _ ⟨blk_alloc hHeld.1 _, blk_alloc hHeld.2.1 _, hHeld.2.2.alloc _⟩ (fun hHeld => ?_)
      clear hK K
      refine wpAnyH_ready (rs := [4]) (by kernel_rfl) (by simp) ?_
      refine AllReadyH.cons rfl (fun K hK => ?_) AllReadyH.nil
      go_simp
      refine hK.out _ _ ⟨blk_alloc hHeld.1 _, blk_alloc hHeld.2.1 _, hHeld.2.2.alloc _⟩ (fun hHeld => ?_)
      clear hK K
      refine wpAnyH_ready (rs := [5]) (by kernel_rfl) (by simp) ?_
      refine AllReadyH.cons rfl (fun K hK => ?_) AllReadyH.nil
      rw [if_pos (by rfl)]
      refine wp_store_whole 24 _ _ rfl (W2.heap.size) rfl (regC s) rfl 24 _ (blk_alloc (blk_new _ _) _) (by rw [regC_size]; rfl) (size_x _) (regC_one _) (fun w5 h5 hfr5 => ?_)
      simp only [Act.put]
      refine hK.out _ _ ⟨hfr5.keeps hHeld.1 (by simp; omega), hfr5.keeps hHeld.2.1 (by simp; omega), hHeld.2.2.step hfr5 (fun j hj => .inr (by rw [List.mem_singleton.1 hj]; omega))⟩ (fun hHeld => ?_)
      clear hK K
      refine wpAnyH_ready (rs := [6]) (by kernel_rfl) (by simp) ?_
      refine AllReadyH.cons rfl (fun K hK => ?_) AllReadyH.nil
      rw [if_pos (by rfl)]
      refine wp_store_whole 24 _ _ rfl (W2.heap.size + 1) rfl (regC s2) rfl 24 _ (hfr5.keeps (blk_new' (by simp) _) (by simp)) (by rw [regC_size]; rfl) (size_x _) (regC_one _) (fun w6 h6 hfr6 => ?_)
      simp only [Act.put]
      refine hK.out _ _ ⟨hfr6.keeps hHeld.1 (by simp; omega), hfr6.keeps hHeld.2.1 (by simp; omega), hHeld.2.2.step hfr6 (fun j hj => .inr (by rw [List.mem_singleton.1 hj]; omega))⟩ (fun hHeld => ?_)
      clear hK K
      refine wpAnyH_done (by kernel_rfl) ?_ _
      go_wp2
      go_meet
      case rel => exact ⟨W2.heap.size, W2.heap.size + 1, rfl, rfl, hfr6.keeps h5 (by simp), h6, by omega, by omega, by omega, hHeld.2.2⟩
    · go_simp
      refine hK.out _ _ ⟨blk_alloc hHeld.1 _, blk_alloc hHeld.2.1 _, hHeld.2.2.alloc _⟩ (fun hHeld => ?_)
      clear hK K
      refine wpAnyH_ready (rs := [3]) (by kernel_rfl) (by simp) ?_
      refine AllReadyH.cons rfl (fun K hK => ?_) AllReadyH.nil
      go_simp
      refine hK.out _ _ ⟨blk_alloc hHeld.1 _, blk_alloc hHeld.2.1 _, hHeld.2.2.alloc _⟩ (fun hHeld => ?_)
      clear hK K
      refine wpAnyH_ready (rs := [5]) (by kernel_rfl) (by simp) ?_
      refine AllReadyH.cons rfl (fun K hK => ?_) AllReadyH.nil
      rw [if_pos (by rfl)]
      refine wp_store_whole 24 _ _ rfl (W2.heap.size + 1) rfl (regC s) rfl 24 _ (blk_new' (by simp) _) (by rw [regC_size]; rfl) (size_x _) (regC_one _) (fun w5 h5 hfr5 => ?_)
      simp only [Act.put]
      refine hK.out _ _ ⟨hfr5.keeps hHeld.1 (by simp; omega), hfr5.keeps hHeld.2.1 (by simp; omega), hHeld.2.2.step hfr5 (fun j hj => .inr (by rw [List.mem_singleton.1 hj]; omega))⟩ (fun hHeld => ?_)
      clear hK K
      refine wpAnyH_ready (rs := [6]) (by kernel_rfl) (by simp) ?_
      refine AllReadyH.cons rfl (fun K hK => ?_) AllReadyH.nil
      rw [if_pos (by rfl)]
      refine wp_store_whole 24 _ _ rfl (W2.heap.size) rfl (regC s2) rfl 24 _ (hfr5.keeps (blk_alloc (blk_new _ _) _) (by simp)) (by rw [regC_size]; rfl) (size_x _) (regC_one _) (fun w6 h6 hfr6 => ?_)
      simp only [Act.put]
      refine hK.out _ _ ⟨hfr6.keeps hHeld.1 (by simp; omega), hfr6.keeps hHeld.2.1 (by simp; omega), hHeld.2.2.step hfr6 (fun j hj => .inr (by rw [List.mem_singleton.1 hj]; omega))⟩ (fun hHeld => ?_)
      clear hK K
      refine wpAnyH_done (by kernel_rfl) ?_ _
      go_wp2
      go_meet
      case rel => exact ⟨W2.heap.size + 1, W2.heap.size, rfl, rfl, hfr6.keeps h5 (by simp), h6, by omega, by omega, by omega, hHeld.2.2⟩
  obtain ⟨A, B, rfl, rfl, hA', hu2, hAle, hBle, hne, hF1⟩ := hcut
  have hlt : w.heap.size + 2 ≤ J ∧ J < W2.heap.size := ⟨by have := HS.out; omega, lt_block HJ.out⟩
  have hL : w.heap.size + 2 ≤ J ∧ J < A ∧ J < B ∧ A ≠ B := ⟨hlt.1, by omega, by omega, hne⟩
  have hR := hF1.keeps HR.out (by simp)
  have hJ := hF1.keeps HJ.out (by simp)
  have hA := hA'
  have hB := hu2
  have hF := HF.out.trans hF1
  clear hA' hu2 hF1 hAle hBle hne hlt HR HX HJ HF HS
  have HR := hid hR
  have HJ := hid hJ
  have HA := hid hA
  have HB := hid hB
  have HF := hid hF
  have HL := hid hL
  clear hR hJ hA hB hF hL
  (try simp only [Act.put, List.setIfInBounds_toArray, List.set_cons_zero, List.set_cons_succ])
  go_upto_region 4 with (first | (refine wpList_load_row_g (by rfl) 27 _ (by rfl) (J) (by rfl) 27 (IC (op, rd, r1, r2, im, cs, sz)) (0, 0) _ HJ.out Try.underlying27 rfl (sizeI' _) ?_) | (go_at_call 9; (with_reducible refine (h1.out _ _ HA.out).mono ?_); rintro e w3 ⟨rfl, hA, hd⟩))
  refine world_at' (fun W => W.heap[w.heap.size]? = some (.cells (regC s) 24) ∧ W.heap[J]? = some (.cells (IC (op, rd, r1, r2, im, cs, sz)) 27) ∧ W.heap[A]? = some (.cells (regC s) 24) ∧ W.heap[B]? = some (.cells (regC s2) 24) ∧ Fr [] w W) ⟨hd.keeps HR.out (by have := HL.out; simp; omega), hd.keeps HJ.out (by have := HL.out; simp; omega), hA, hd.keeps HB.out (by have := HL.out; simp; omega), HF.out.step hd (fun j hj => .inr (by rw [List.mem_singleton.1 hj]; have := HL.out; omega))⟩ ?_
  clear hA hd HR HJ HA HB HF h1
  rintro W4 ⟨hR, hJ, hA, hB, hF⟩
  have x0 : W4.cell? ⟨J, 0, none⟩ = some (.int .u8 op) := by rw [blk_cell hJ]; rfl
  have x4 : W4.cell? ⟨J, 4, none⟩ = some (.int .i64 im) := by rw [blk_cell hJ]; rfl
  have x6 : W4.cell? ⟨J, 6, none⟩ = some (.int .u8 sz) := by rw [blk_cell hJ]; rfl
  have HR := hid hR
  have HJ := hid hJ
  have HA := hid hA
  have HB := hid hB
  have HF := hid hF
  clear hR hJ hA hB hF
  clear x0 x4 x6
  have hK := Fr.refl [] W4
  go_wp2_with (first | (refine wpList_load_row_g (by rfl) 24 _ (by rfl) (w.heap.size) (by rfl) 24 (regC s) (0, 0) _ HR.out Try.underlying24 rfl (size_x _) ?_) | (refine wpList_load_row_g (by rfl) 24 _ (by rfl) (A) (by rfl) 24 (regC s) (0, 0) _ HA.out Try.underlying24 rfl (size_x _) ?_) | (go_at_call 10; (with_reducible refine (h7.out _).mono ?_); rintro e w6 ⟨rfl, hd⟩; replace hK := hK.trans hd; clear hd))
  go_ret
  exact ⟨rfl, HF.out.trans hK⟩
end Go.Proofs.Ytajbfnihgonppaa.PA
