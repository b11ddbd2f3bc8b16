/- The law ExecOne: its walk, one way (4). -/
import Derived.Test.YtajbfnihgonppaaOneB
namespace Go.Proofs.Ytajbfnihgonppaa.PA
open Go.RowKit Go.Proofs.Ytajbfnihgonppaa.Plain
set_option linter.all false
attribute [local go_sem ↓] eqg_24 eql_24
set_option maxRecDepth 100000 in
set_option maxHeartbeats 4000000 in
theorem one_4 (s S s2 O1 O2 O3 : Nat → Int) (pc nx op rd r1 r2 im cs sz a b v : Int) (w : World) (p0 : 0 ≤ pc) (p1 : pc < 18446744073709551616) (b0 : 0 ≤ op ∧ op < 256) (b2 : 0 ≤ r1 ∧ r1 < 256) (b3 : 0 ≤ r2 ∧ r2 < 256) (b4 : -9223372036854775808 ≤ im) (b4b : im ≤ 9223372036854775807) (b6 : 0 ≤ sz) (b6b : sz < 256) (b1 : 0 ≤ rd ∧ rd < 256) (h1 : Hid (∀ g w, w.heap[g]? = some (.cells (regC s) 24) → Calls Try.prog 9 #[.pointer (some ⟨g, 0, none⟩), .int .u64 pc, .agg (IC (op, rd, r1, r2, im, cs, sz))] w fun e w' => e = .returned (.tuple #[.int .u64 nx, .bool true]) ∧ w'.heap[g]? = some (.cells (regC S) 24) ∧ Fr [g] w w')) (h7 : Hid (∀ w, Calls Try.prog 10 #[] w fun e w' => e = .returned (.bool true) ∧ Fr [] w w')) (h2 : Hid (∀ w, Calls Try.prog 11 #[.int .u8 op] w fun e w' => e = .returned (.int .u8 4) ∧ Fr [] w w'))
    (h3 : Hid (∀ g w, w.heap[g]? = some (.cells (regC S) 24) → Calls Try.prog 12 #[.pointer (some ⟨g, 0, none⟩), .int .u8 0] w fun e w' => e = .returned (.int .u64 0) ∧ w = w'))
    (h4 : Hid (∀ g w, w.heap[g]? = some (.cells (regC s) 24) → Calls Try.prog 12 #[.pointer (some ⟨g, 0, none⟩), .int .u8 r1] w fun e w' => e = .returned (.int .u64 a) ∧ w = w'))
    (h5 : Hid (∀ g w, w.heap[g]? = some (.cells (regC s) 24) → Calls Try.prog 12 #[.pointer (some ⟨g, 0, none⟩), .int .u8 r2] w fun e w' => e = .returned (.int .u64 b) ∧ w = w'))
    (h6 : Hid (∀ g w, w.heap[g]? = some (.cells (regC s2) 24) → Calls Try.prog 13 #[.pointer (some ⟨g, 0, none⟩), .int .u8 r1, .int .u64 a] w fun e w' => e = .returned (.tuple #[]) ∧ w'.heap[g]? = some (.cells (regC O1) 24) ∧ Fr [g] w w'))
    (h8 : Hid (∀ g w, w.heap[g]? = some (.cells (regC O1) 24) → Calls Try.prog 13 #[.pointer (some ⟨g, 0, none⟩), .int .u8 r2, .int .u64 b] w fun e w' => e = .returned (.tuple #[]) ∧ w'.heap[g]? = some (.cells (regC O2) 24) ∧ Fr [g] w w'))
    (h9 : Hid (∀ g w, w.heap[g]? = some (.cells (regC O2) 24) → Calls Try.prog 9 #[.pointer (some ⟨g, 0, none⟩), .int .u64 pc, .agg (IC (op, rd, r1, r2, im, cs, sz))] w fun e w' => e = .returned (.tuple #[.int .u64 nx, .bool true]) ∧ w'.heap[g]? = some (.cells (regC O3) 24) ∧ Fr [g] w w'))
    (h10 : Hid (∀ g w, w.heap[g]? = some (.cells (regC O3) 24) → Calls Try.prog 12 #[.pointer (some ⟨g, 0, none⟩), .int .u8 rd] w fun e w' => e = .returned (.int .u64 v) ∧ w = w'))
    (h11 : Hid (∀ g w, w.heap[g]? = some (.cells (regC S) 24) → Calls Try.prog 12 #[.pointer (some ⟨g, 0, none⟩), .int .u8 rd] w fun e w' => e = .returned (.int .u64 v) ∧ w = w'))
    (hS : Hid (∀ n : Int, 0 ≤ n → n < 32 → n ≠ rd % 32 → S n.toNat = s n.toNat)) (hS0 : Hid (S 0 = s 0)) :
    Calls Try.prog 3 #[.agg (regC s), .int .u64 pc, .agg (OC (op, rd, r1, r2, im, cs, sz) s2)] w fun e w' => e = .returned (.bool true) ∧ Fr [] w w' := by
  go_enter Try.func3, Try.ntmps3
  go_upto_region 1 with fail
  refine world_at' (fun W => W.heap[w.heap.size]? = some (.cells (regC s) 24) ∧ W.heap[w.heap.size + 1]? = some (.cells (OC (op, rd, r1, r2, im, cs, sz) s2) 29) ∧ W.heap.size = w.heap.size + 2 ∧ Fr [] w W) ⟨blk_alloc (blk_new _ _) _, blk_new' (n := w.heap.size + 1) (by simp) _, by simp, ((Fr.refl [] w).alloc _).alloc _⟩ ?_
  rintro W ⟨hR, hX, hs, hF⟩
  have HR := hid hR
  have HX := hid hX
  have HF := hid hF
  have HS := hid hs
  clear hR hX hF hs
  go_upto_region 2 with (first | (refine wpList_load_midA (by rfl) 27 _ (by rfl) (w.heap.size + 1) 0 (by rfl) (IC (op, rd, r1, r2, im, cs, sz)) _ (range_i HX.out) Try.underlying27 rfl (sizeI' _) ?_) | (refine wpList_store_whole rfl 27 _ _ rfl W.heap.size rfl (IC (op, rd, r1, r2, im, cs, sz)) rfl 27 _ (blk_new _ _) rfl (sizeI' _) (IC_one _) ?_; intro w2 hJ hfr2))
  refine world_at' (fun W' => W'.heap[w.heap.size]? = some (.cells (regC s) 24) ∧ W'.heap[w.heap.size + 1]? = some (.cells (OC (op, rd, r1, r2, im, cs, sz) s2) 29) ∧ W'.heap[W.heap.size]? = some (.cells (IC (op, rd, r1, r2, im, cs, sz)) 27) ∧ Fr [] w W') ⟨hfr2.keeps (blk_alloc HR.out _) (by have := HS.out; simp; omega), hfr2.keeps (blk_alloc HX.out _) (by have := HS.out; simp; omega), hJ, (HF.out.alloc _).step hfr2 (fun j hj => .inr (by rw [List.mem_singleton.1 hj]; exact HF.out.size))⟩ ?_
  clear hJ hfr2 HR HX HF
  rintro W2 ⟨hR, hX, hJ, hF⟩
  have hs := HS.out
  generalize W.heap.size = J at *
  clear HS
  have HR := hid hR
  have HX := hid hX
  have HJ := hid hJ
  have HF := hid hF
  have HS := hid hs
  clear hR hX hJ hF hs
  (try simp only [Act.put, List.setIfInBounds_toArray, List.set_cons_zero, List.set_cons_succ])
  go_cut [8, 9] (fun u8 u9 wc => ∃ A B : Nat, u8 = .pointer (some ⟨A, 0, none⟩) ∧ u9 = .pointer (some ⟨B, 0, none⟩) ∧ wc.heap[A]? = some (.cells (regC s) 24) ∧ wc.heap[B]? = some (.cells (regC s2) 24) ∧ W2.heap.size ≤ A ∧ W2.heap.size ≤ B ∧ A ≠ B ∧ Fr [] W2 wc)
  case first =>
    refine wp_region_held_drew (S := fun W' => W'.heap[w.heap.size]? = some (.cells (regC s) 24) ∧ W'.heap[w.heap.size + 1]? = some (.cells (OC (op, rd, r1, r2, im, cs, sz) s2) 29) ∧ Fr [] W2 W') (by kernel_rfl) ⟨HR.out, HX.out, (Fr.refl [] W2).drew⟩ (fun hHeld => ?_)
    refine wpAnyH_take (i := 0) rfl (by kernel_rfl) (by kernel_rfl) (by kernel_rfl) (fun _ _ _ h => h) (yieldsIf_row (by rfl) 24 _ rfl w.heap.size rfl 24 (regC s) (0, 0) _ (fun w' h => h.1) Try.underlying24 rfl (size_x _)) hHeld ?_
    simp only [Act.put, List.setIfInBounds_toArray, List.set_cons_zero, List.set_cons_succ]
    refine wpAnyH_take (i := 1) rfl (by kernel_rfl) (by kernel_rfl) (by kernel_rfl) (fun _ _ _ h => h) (yieldsIf_of (.pointer (some ⟨w.heap.size + 1, 7, none⟩)) (by rfl) (fun _ _ => by go_simp)) hHeld ?_
    simp only [Act.put, List.setIfInBounds_toArray, List.set_cons_zero, List.set_cons_succ]
    refine wpAnyH_take (i := 2) rfl (by kernel_rfl) (by kernel_rfl) (by kernel_rfl) (fun _ _ _ h => h) (yieldsIf_mid (by rfl) 24 _ rfl (w.heap.size + 1) 7 rfl (regC s2) _ (fun w' h => range_r h.2.1) Try.underlying24 rfl (size_x _)) hHeld ?_
    simp only [Act.put, List.setIfInBounds_toArray, List.set_cons_zero, List.set_cons_succ]
    refine wpAnyH_ready (rs := [3, 4]) (by kernel_rfl) (by simp) ?_
    have hl1 := lt_block HR.out
    have hl2 := lt_block HX.out
    refine AllReadyH.cons rfl (fun K hK => ?_) (AllReadyH.cons rfl (fun K hK => ?_) AllReadyH.nil)
    · go_simp
      refine hK.out _ _ ⟨blk_alloc hHeld.1 _, blk_alloc hHeld.2.1 _, hHeld.2.2.alloc _⟩ (fun hHeld => ?_)
      clear hK K
      refine wpAnyH_ready (rs := [4]) (by kernel_rfl) (by simp) ?_
      refine AllReadyH.cons rfl (fun K hK => ?_) AllReadyH.nil
      go_simp
      refine hK.out _ _ ⟨blk_alloc hHeld.1 _, blk_alloc hHeld.2.1 _, hHeld.2.2.alloc _⟩ (fun hHeld => ?_)
      clear hK K
      refine wpAnyH_ready (rs := [5]) (by kernel_rfl) (by simp) ?_
      refine AllReadyH.cons rfl (fun K hK => ?_) AllReadyH.nil
      rw [if_pos (by rfl)]
      refine wp_store_whole 24 _ _ rfl (W2.heap.size) rfl (regC s) rfl 24 _ (blk_alloc (blk_new _ _) _) (by rw [regC_size]; rfl) (size_x _) (regC_one _) (fun w5 h5 hfr5 => ?_)
      simp only [Act.put]
      refine hK.out _ _ ⟨hfr5.keeps hHeld.1 (by simp; omega), hfr5.keeps hHeld.2.1 (by simp; omega), hHeld.2.2.step hfr5 (fun j hj => .inr (by rw [List.mem_singleton.1 hj]; omega))⟩ (fun hHeld => ?_)
      clear hK K
      refine wpAnyH_ready (rs := [6]) (by kernel_rfl) (by simp) ?_
      refine AllReadyH.cons rfl (fun K hK => ?_) AllReadyH.nil
      rw [if_pos (by rfl)]
      refine wp_store_whole 24 _ _ rfl (W2.heap.size + 1) rfl (regC s2) rfl 24 _ (hfr5.keeps (blk_new' (by simp) _) (by simp)) (by rw [regC_size]; rfl) (size_x _) (regC_one _) (fun w6 h6 hfr6 => ?_)
      simp only [Act.put]
      refine hK.out _ _ ⟨hfr6.keeps hHeld.1 (by simp; omega), hfr6.keeps hHeld.2.1 (by simp; omega), hHeld.2.2.step hfr6 (fun j hj => .inr (by rw [List.mem_singleton.1 hj]; omega))⟩ (fun hHeld => ?_)
      clear hK K
      refine wpAnyH_done (by kernel_rfl) ?_ _
      go_wp2
      go_meet
      case rel => exact ⟨W2.heap.size, W2.heap.size + 1, rfl, rfl, hfr6.keeps h5 (by simp), h6, by omega, by omega, by omega, hHeld.2.2⟩
    · go_simp
      refine hK.out _ _ ⟨blk_alloc hHeld.1 _, blk_alloc hHeld.2.1 _, hHeld.2.2.alloc _⟩ (fun hHeld => ?_)
      clear hK K
      refine wpAnyH_ready (rs := [3]) (by kernel_rfl) (by simp) ?_
      refine AllReadyH.cons rfl (fun K hK => ?_) AllReadyH.nil
      go_simp
      refine hK.out _ _ ⟨blk_alloc hHeld.1 _, blk_alloc hHeld.2.1 _, hHeld.2.2.alloc _⟩ (fun hHeld => ?_)
      clear hK K
      refine wpAnyH_ready (rs := [5]) (by kernel_rfl) (by simp) ?_
      refine AllReadyH.cons rfl (fun K hK => ?_) AllReadyH.nil
      rw [if_pos (by rfl)]
      refine wp_store_whole 24 _ _ rfl (W2.heap.size + 1) rfl (regC s) rfl 24 _ (blk_new' (by simp) _) (by rw [regC_size]; rfl) (size_x _) (regC_one _) (fun w5 h5 hfr5 => ?_)
      simp only [Act.put]
      refine hK.out _ _ ⟨hfr5.keeps hHeld.1 (by simp; omega), hfr5.keeps hHeld.2.1 (by simp; omega), hHeld.2.2.step hfr5 (fun j hj => .inr (by rw [List.mem_singleton.1 hj]; omega))⟩ (fun hHeld => ?_)
      clear hK K
      refine wpAnyH_ready (rs := [6]) (by kernel_rfl) (by simp) ?_
      refine AllReadyH.cons rfl (fun K hK => ?_) AllReadyH.nil
      rw [if_pos (by rfl)]
      refine wp_store_whole 24 _ _ rfl (W2.heap.size) rfl (regC s2) rfl 24 _ (hfr5.keeps (blk_alloc (blk_new _ _) _) (by simp)) (by rw [regC_size]; rfl) (size_x _) (regC_one _) (fun w6 h6 hfr6 => ?_)
      simp only [Act.put]
      refine hK.out _ _ ⟨hfr6.keeps hHeld.1 (by simp; omega), hfr6.keeps hHeld.2.1 (by simp; omega), hHeld.2.2.step hfr6 (fun j hj => .inr (by rw [List.mem_singleton.1 hj]; omega))⟩ (fun hHeld => ?_)
      clear hK K
      refine wpAnyH_done (by kernel_rfl) ?_ _
      go_wp2
      go_meet
      case rel => exact ⟨W2.heap.size + 1, W2.heap.size, rfl, rfl, hfr6.keeps h5 (by simp), h6, by omega, by omega, by omega, hHeld.2.2⟩
  obtain ⟨A, B, rfl, rfl, hA', hu2, hAle, hBle, hne, hF1⟩ := hcut
  have hlt : w.heap.size + 2 ≤ J ∧ J < W2.heap.size := ⟨by have := HS.out; omega, lt_block HJ.out⟩
  have hL : w.heap.size + 2 ≤ J ∧ J < A ∧ J < B ∧ A ≠ B := ⟨hlt.1, by omega, by omega, hne⟩
  have hR := hF1.keeps HR.out (by simp)
  have hJ := hF1.keeps HJ.out (by simp)
  have hA := hA'
  have hB := hu2
  have hF := HF.out.trans hF1
  clear hA' hu2 hF1 hAle hBle hne hlt HR HX HJ HF HS
  have HR := hid hR
  have HJ := hid hJ
  have HA := hid hA
  have HB := hid hB
  have HF := hid hF
  have HL := hid hL
  clear hR hJ hA hB hF hL
  (try simp only [Act.put, List.setIfInBounds_toArray, List.set_cons_zero, List.set_cons_succ])
  go_upto_region 4 with (first | (refine wpList_load_row_g (by rfl) 27 _ (by rfl) (J) (by rfl) 27 (IC (op, rd, r1, r2, im, cs, sz)) (0, 0) _ HJ.out Try.underlying27 rfl (sizeI' _) ?_) | (go_at_call 9; (with_reducible refine (h1.out _ _ HA.out).mono ?_); rintro e w3 ⟨rfl, hA, hd⟩))
  refine world_at' (fun W => W.heap[w.heap.size]? = some (.cells (regC s) 24) ∧ W.heap[J]? = some (.cells (IC (op, rd, r1, r2, im, cs, sz)) 27) ∧ W.heap[A]? = some (.cells (regC S) 24) ∧ W.heap[B]? = some (.cells (regC s2) 24) ∧ Fr [] w W) ⟨hd.keeps HR.out (by have := HL.out; simp; omega), hd.keeps HJ.out (by have := HL.out; simp; omega), hA, hd.keeps HB.out (by have := HL.out; simp; omega), HF.out.step hd (fun j hj => .inr (by rw [List.mem_singleton.1 hj]; have := HL.out; omega))⟩ ?_
  clear hA hd HR HJ HA HB HF h1
  rintro W4 ⟨hR, hJ, hA, hB, hF⟩
  have x0 : W4.cell? ⟨J, 0, none⟩ = some (.int .u8 op) := by rw [blk_cell hJ]; rfl
  have x4 : W4.cell? ⟨J, 4, none⟩ = some (.int .i64 im) := by rw [blk_cell hJ]; rfl
  have x6 : W4.cell? ⟨J, 6, none⟩ = some (.int .u8 sz) := by rw [blk_cell hJ]; rfl
  have HR := hid hR
  have HJ := hid hJ
  have HA := hid hA
  have HB := hid hB
  have HF := hid hF
  clear hR hJ hA hB hF
  go_upto_region 7 with (go_at_call 11; (with_reducible refine (h2.out _).mono ?_); rintro e w5 ⟨rfl, hd⟩)
  refine world_at' (fun W => W.heap[w.heap.size]? = some (.cells (regC s) 24) ∧ W.heap[J]? = some (.cells (IC (op, rd, r1, r2, im, cs, sz)) 27) ∧ W.heap[A]? = some (.cells (regC S) 24) ∧ W.heap[B]? = some (.cells (regC s2) 24) ∧ Fr [] w W) ⟨hd.keeps HR.out (by simp), hd.keeps HJ.out (by simp), hd.keeps HA.out (by simp), hd.keeps HB.out (by simp), HF.out.trans hd⟩ ?_
  clear hd HR HJ HA HB HF h2 x0 x4 x6
  rintro W5 ⟨hR, hJ, hA, hB, hF⟩
  have x4 : W5.cell? ⟨J, 4, none⟩ = some (.int .i64 im) := by rw [blk_cell hJ]; rfl
  have x6 : W5.cell? ⟨J, 6, none⟩ = some (.int .u8 sz) := by rw [blk_cell hJ]; rfl
  have HR := hid hR
  have HJ := hid hJ
  have HA := hid hA
  have HB := hid hB
  have HF := hid hF
  clear hR hJ hA hB hF
  go_cut [87] (fun u wc => u = .bool false ∧ W5 = wc)
  case first =>
    go_wp2
    go_meet
    case rel => exact ⟨rfl, rfl⟩
  obtain ⟨rfl, rfl⟩ := hcut
  clear x4 x6
  go_upto_region 10 with fail
  go_loopw [13] (fun i wr => ∃ n : Int, 0 ≤ n ∧ n ≤ 32 ∧ i = .int .i64 n ∧ Hid (wr.heap[w.heap.size]? = some (.cells (regC s) 24)) ∧ Hid (wr.heap[J]? = some (.cells (IC (op, rd, r1, r2, im, cs, sz)) 27)) ∧ Hid (wr.heap[A]? = some (.cells (regC S) 24)) ∧ Hid (wr.heap[B]? = some (.cells (regC s2) 24)) ∧ Hid (Fr [] w wr)) (fun i _ => 32 - (intOf i).toNat)
  case atStart => exact ⟨0, by decide, by decide, rfl, HR, HJ, HA, HB, HF⟩
  case round =>
    clear HR HJ HA HB HF
    obtain ⟨n, hn0, hn1, rfl, hR, hJ, hA, hB, hF⟩ := hrel
    by_cases hlt : n < 32
    · obtain ⟨u, hu⟩ : ∃ u, s n.toNat = u := ⟨_, rfl⟩
      have hq : (u != u) = false := bne_self_eq_false ..
      have yR : ∀ m : Ext wr, m.w.cell? ⟨w.heap.size, n.toNat, none⟩ = some (.int .u64 u) := fun m => by rw [blk_cell (m.blk hR.out), regC_get s (by omega), hu]
      have y1 : ∀ m : Ext wr, m.w.cell? ⟨J, 1, none⟩ = some (.int .u8 rd) := fun m => by rw [blk_cell (m.blk hJ.out)]; rfl
      have hne := ext_ne wr
      have key : ∀ bb : Bool, (n != rd % 32) = bb → (bb = false ∨ ∀ m : Ext wr, m.w.cell? ⟨A, n.toNat, none⟩ = some (.int .u64 u)) := by
        intro bb hbb
        by_cases hnn : n = rd % 32
        · left; rw [← hbb]; simp [hnn]
        · exact .inr (fun m => by rw [blk_cell (m.blk hA.out), regC_get S (by omega), hS.out n hn0 hlt hnn, hu])
      obtain ⟨bb, hbb⟩ : ∃ bb, (n != rd % 32) = bb := ⟨_, rfl⟩
      have yA := key bb hbb
      clear key hu
      go_upto_region 12 with fail
      cases bb
      · clear yA
        refine wp_region_ext (by kernel_rfl) (by kernel_rfl) ?_
        repeat (go_big_quiet_step (fail))
        refine wpQuiet_nil ?_
        intro w' hw'
        obtain ⟨m1, rfl⟩ := hw'
        have hR := hid (m1.blk hR.out)
        have hJ := hid (m1.blk hJ.out)
        have hA := hid (m1.blk hA.out)
        have hB := hid (m1.blk hB.out)
        have hF := hid (hF.out.trans m1.fr)
        clear yR y1 
        go_wp2
        go_roundw
        case rel => exact ⟨n + 1, by omega, by omega, rfl, hR, hJ, hA, hB, hF⟩
        case measure => simp [intOf]; omega
      · replace yA := yA.resolve_left (by decide)
        refine wp_region_ext (by kernel_rfl) (by kernel_rfl) ?_
        repeat (go_big_quiet_step (fail))
        refine wpQuiet_nil ?_
        intro w' hw'
        obtain ⟨m1, rfl⟩ := hw'
        have hR := hid (m1.blk hR.out)
        have hJ := hid (m1.blk hJ.out)
        have hA := hid (m1.blk hA.out)
        have hB := hid (m1.blk hB.out)
        have hF := hid (hF.out.trans m1.fr)
        clear yR y1 
        go_wp2
        go_roundw
        case rel => exact ⟨n + 1, by omega, by omega, rfl, hR, hJ, hA, hB, hF⟩
        case measure => simp [intOf]; omega
    · have q0 : wr.cell? ⟨A, 0, none⟩ = some (.int .u64 (s 0)) := by rw [blk_cell hA.out, regC_get S (by decide), hS0.out]
      have q1 : wr.cell? ⟨w.heap.size, 0, none⟩ = some (.int .u64 (s 0)) := by rw [blk_cell hR.out, regC_get s (by decide)]
      have HR := hR
      have HJ := hJ
      have HA := hA
      have HB := hB
      have HF := hF
      clear hR hJ hA hB hF
      go_upto_region 14 with fail
      generalize s 0 = s00 at q0 q1
      have hq : (s00 != s00) = false := bne_self_eq_false ..
      go_upto_region 16 with (go_at_call 12; (with_reducible refine (h3.out _ _ HA.out).mono ?_); rintro e w6 ⟨rfl, rfl⟩)
      clear q0 q1 hq h3
      refine world_at' (fun W => W.heap[w.heap.size]? = some (.cells (regC s) 24) ∧ W.heap[J]? = some (.cells (IC (op, rd, r1, r2, im, cs, sz)) 27) ∧ W.heap[A]? = some (.cells (regC S) 24) ∧ W.heap[B]? = some (.cells (regC s2) 24) ∧ Fr [] w W) ⟨HR.out, HJ.out, HA.out, HB.out, HF.out⟩ ?_
      clear HR HJ HA HB HF
      rintro W6 ⟨hR, hJ, hA, hB, hF⟩
      have y2 : ∀ m : Ext W6, m.w.cell? ⟨J, 2, none⟩ = some (.int .u8 r1) := fun m => by rw [blk_cell (m.blk hJ)]; rfl
      have c16 : Hid (∀ m : Ext W6, Calls Try.prog 12 #[.pointer (some ⟨w.heap.size, 0, none⟩), .int .u8 r1] m.w fun e w'' => e = .returned (.int .u64 a) ∧ ∃ m : Ext W6, w'' = m.w) := fun m => Ext.same m (h4.out _ _ (m.blk hR))
      have HR := hid hR
      have HJ := hid hJ
      have HA := hid hA
      have HB := hid hB
      have HF := hid hF
      clear hR hJ hA hB hF h4
      have hne := ext_ne W6
      refine wp_region_ext_tail 5 (by kernel_rfl) (by kernel_rfl) ?_
      simp only [List.take_succ_cons, List.take_zero, List.drop_succ_cons, List.drop_zero]
      repeat (go_big_quiet_step (first | (go_at_call 12; with_reducible exact c16.out _)))
      refine wpQuiet_nil ?_
      intro w' hw'
      obtain ⟨m1, rfl⟩ := hw'
      have hR := m1.blk HR.out
      have hJ := m1.blk HJ.out
      have hA := m1.blk HA.out
      have hB := m1.blk HB.out
      have hF := HF.out.trans m1.fr
      generalize m1.w = V1 at *
      clear HR HJ HA HB HF y2 c16 hne
      have HR := hid hR
      have HJ := hid hJ
      have HA := hid hA
      have HB := hid hB
      have HF := hid hF
      clear hR hJ hA hB hF
      go_upto_region 17 with (go_at_call 13; (with_reducible refine (h6.out _ _ HB.out).mono ?_); rintro e w9 ⟨rfl, hB, hd⟩)
      replace HR := hid (hd.keeps HR.out (by have := HL.out; simp; omega))
      replace HJ := hid (hd.keeps HJ.out (by have := HL.out; simp; omega))
      replace HA := hid (hd.keeps HA.out (by have := HL.out; simp; omega))
      replace HF := hid (HF.out.step hd (fun j hj => .inr (by rw [List.mem_singleton.1 hj]; have := HL.out; omega)))
      clear HB hd
      have HB := hid hB
      clear hB h6
      refine world_at' (fun W => W.heap[w.heap.size]? = some (.cells (regC s) 24) ∧ W.heap[J]? = some (.cells (IC (op, rd, r1, r2, im, cs, sz)) 27) ∧ W.heap[A]? = some (.cells (regC S) 24) ∧ W.heap[B]? = some (.cells (regC O1) 24) ∧ Fr [] w W) ⟨HR.out, HJ.out, HA.out, HB.out, HF.out⟩ ?_
      clear HR HJ HA HB HF
      rintro W7 ⟨hR, hJ, hA, hB, hF⟩
      have y3 : ∀ m : Ext W7, m.w.cell? ⟨J, 3, none⟩ = some (.int .u8 r2) := fun m => by rw [blk_cell (m.blk hJ)]; rfl
      have c17 : Hid (∀ m : Ext W7, Calls Try.prog 12 #[.pointer (some ⟨w.heap.size, 0, none⟩), .int .u8 r2] m.w fun e w'' => e = .returned (.int .u64 b) ∧ ∃ m : Ext W7, w'' = m.w) := fun m => Ext.same m (h5.out _ _ (m.blk hR))
      have HR := hid hR
      have HJ := hid hJ
      have HA := hid hA
      have HB := hid hB
      have HF := hid hF
      clear hR hJ hA hB hF h5
      have hne := ext_ne W7
      refine wp_region_ext_tail 5 (by kernel_rfl) (by kernel_rfl) ?_
      simp only [List.take_succ_cons, List.take_zero, List.drop_succ_cons, List.drop_zero]
      repeat (go_big_quiet_step (first | (go_at_call 12; with_reducible exact c17.out _)))
      refine wpQuiet_nil ?_
      intro w' hw'
      obtain ⟨m1, rfl⟩ := hw'
      have hR := m1.blk HR.out
      have hJ := m1.blk HJ.out
      have hA := m1.blk HA.out
      have hB := m1.blk HB.out
      have hF := HF.out.trans m1.fr
      generalize m1.w = V1 at *
      clear HR HJ HA HB HF y3 c17 hne
      have HR := hid hR
      have HJ := hid hJ
      have HA := hid hA
      have HB := hid hB
      have HF := hid hF
      clear hR hJ hA hB hF
      go_upto_region 18 with (go_at_call 13; (with_reducible refine (h8.out _ _ HB.out).mono ?_); rintro e w9 ⟨rfl, hB, hd⟩)
      replace HR := hid (hd.keeps HR.out (by have := HL.out; simp; omega))
      replace HJ := hid (hd.keeps HJ.out (by have := HL.out; simp; omega))
      replace HA := hid (hd.keeps HA.out (by have := HL.out; simp; omega))
      replace HF := hid (HF.out.step hd (fun j hj => .inr (by rw [List.mem_singleton.1 hj]; have := HL.out; omega)))
      clear HB hd
      have HB := hid hB
      clear hB h8
      refine world_at' (fun W => W.heap[w.heap.size]? = some (.cells (regC s) 24) ∧ W.heap[J]? = some (.cells (IC (op, rd, r1, r2, im, cs, sz)) 27) ∧ W.heap[A]? = some (.cells (regC S) 24) ∧ W.heap[B]? = some (.cells (regC O2) 24) ∧ Fr [] w W) ⟨HR.out, HJ.out, HA.out, HB.out, HF.out⟩ ?_
      clear HR HJ HA HB HF
      rintro W8 ⟨hR, hJ, hA, hB, hF⟩
      have HJ := hid hJ
      have HA := hid hA
      have HB := hid hB
      have HF := hid hF
      clear hR hJ hA hB hF
      go_upto_region 19 with (first | (refine wpList_load_row_g (by rfl) 27 _ (by rfl) (J) (by rfl) 27 (IC (op, rd, r1, r2, im, cs, sz)) (0, 0) _ HJ.out Try.underlying27 rfl (sizeI' _) ?_) | (go_at_call 9; (with_reducible refine (h9.out _ _ HB.out).mono ?_); rintro e w9 ⟨rfl, hB, hd⟩))
      have hJ := hd.keeps HJ.out (by have := HL.out; simp; omega)
      have hA := hd.keeps HA.out (by have := HL.out; simp; omega)
      have hF := HF.out.step hd (fun j hj => .inr (by rw [List.mem_singleton.1 hj]; have := HL.out; omega))
      clear HJ HA HB HF hd h9
      have y1 : ∀ m : Ext w9, m.w.cell? ⟨J, 1, none⟩ = some (.int .u8 rd) := fun m => by rw [blk_cell (m.blk hJ)]; rfl
      have c1 : Hid (∀ m : Ext w9, Calls Try.prog 12 #[.pointer (some ⟨B, 0, none⟩), .int .u8 rd] m.w fun e w'' => e = .returned (.int .u64 v) ∧ ∃ m : Ext w9, w'' = m.w) := fun m => Ext.same m (h10.out _ _ (m.blk hB))
      have c2 : Hid (∀ m : Ext w9, Calls Try.prog 12 #[.pointer (some ⟨A, 0, none⟩), .int .u8 rd] m.w fun e w'' => e = .returned (.int .u64 v) ∧ ∃ m : Ext w9, w'' = m.w) := fun m => Ext.same m (h11.out _ _ (m.blk hA))
      have c3 : Hid (∀ m : Ext w9, Calls Try.prog 10 #[] m.w fun e w'' => e = .returned (.bool true) ∧ ∃ m : Ext w9, w'' = m.w) := fun m => Ext.call m (h7.out _)
      have HF := hid hF
      clear hJ hA hB hF h10 h11 h7
      have hne := ext_ne w9
      have hq : (v == v) = true := beq_self_eq_true ..
      have hq2 : (nx == nx) = true := beq_self_eq_true ..
      refine wp_region_ext (by kernel_rfl) (by kernel_rfl) ?_
      repeat (go_big_quiet_step (first | (go_at_call 12; with_reducible exact c1.out _) | (go_at_call 12; with_reducible exact c2.out _) | (go_at_call 10; with_reducible exact c3.out _)))
      refine wpQuiet_nil ?_
      intro w' hw'
      obtain ⟨m1, rfl⟩ := hw'
      go_wp2
      go_ret
      exact ⟨rfl, HF.out.trans m1.fr⟩
end Go.Proofs.Ytajbfnihgonppaa.PA
