/- Contract of inst.Decode. -/
import Derived.Test.YtogdifjdlkpehaaHDec4
import Derived.Deep.Cut
import Derived.BigGuard
namespace Go.Proofs.Ytogdifjdlkpehaa.PA
open Go.RowKit Go.Proofs.YtogdifjdlkpehaaW.PrintWords Go.Proofs.YtogdifjdlkpehaaW.PrintLast Go.Proofs.YtogdifjdlkpehaaW.PrintMore
set_option linter.all false
set_option maxRecDepth 100000 in
set_option maxHeartbeats 4000000 in
theorem dec_lui (p : Int) (X : T7) (w : World) (h1 : Hid (∀ w, Calls Try.prog 19 #[.int .u32 p, .int .i64 0, .int .i64 6] w fun e w' => e = .returned (.int .u32 55) ∧ ∃ n, w' = w.drewN n)) (h3 : Hid (∀ w, Calls Try.prog 20 #[.int .u32 p, .int .u8 1] w fun e w' => e = .returned (.agg (IC X)) ∧ Fr [] w w')) : Calls Try.prog 9 #[.int .u32 p] w fun e w' => e = .returned (.agg (IC X)) ∧ Fr [] w w' := by
  go_enter Try.func9, Try.ntmps9
  go_upto_region 5 with fail
  refine world_atF (fun W => W.heap[w.heap.size]? = some (.cells (IC (0, 0, 0, 0, 0, 0, 0)) 25) ∧ W.heap[w.heap.size + 1]? = some (opsO [5, 6, 0, 0, 7, 8, 9, 10] 42) ∧ W.heap[w.heap.size + 2]? = some (opsO [11, 12, 13, 14, 15, 16, 17] 43) ∧ W.heap[w.heap.size + 3]? = some (opsO [18, 19, 20, 21] 44) ∧ Fr [] w W) ⟨blk_alloc (blk_alloc (blk_alloc (blk_new _ _) _) _) _, blk_alloc (blk_alloc (blk_new' (n := w.heap.size + 1) (by simp) _) _) _, blk_alloc (blk_new' (n := w.heap.size + 2) (by simp) _) _, blk_new' (n := w.heap.size + 3) (by simp) _, ((((Fr.refl [] w).alloc _).alloc _).alloc _).alloc _⟩ ?_
  rintro W ⟨hZ, hL1, hL2, hL3, hF⟩
  have HZ := hid hZ
  have HL1 := hid hL1
  have HL2 := hid hL2
  have HL3 := hid hL3
  have HF := hid hF
  clear hZ hL1 hL2 hL3 hF
  go_wp2_with (first | (go_at_call 19; (with_reducible refine (h1.out _).mono ?_); rintro e w' ⟨rfl, nn, rfl⟩) | (go_at_call 20; (with_reducible refine (h3.out _).mono ?_); rintro e w1 ⟨rfl, hd⟩) | (refine wpList_store_whole rfl 25 _ _ rfl (w.heap.size) rfl (IC X) rfl 25 _ (hd.keeps (show (World.drewN _ _).heap[w.heap.size]? = _ from HZ.out) (by simp)) rfl (sizeI' _) (IC_one _) ?_; intro w2 h2 hfr2))
  exact ⟨rfl, _, results_c rfl rfl h2 Try.underlying25 rfl (sizeI' _), rfl, (HF.out.drewN _ |>.trans hd).step hfr2 (fun j hj => .inr (by rw [List.mem_singleton.1 hj]; omega))⟩
set_option maxRecDepth 100000 in
set_option maxHeartbeats 4000000 in
theorem dec_auipc (p : Int) (X : T7) (w : World) (h1 : Hid (∀ w, Calls Try.prog 19 #[.int .u32 p, .int .i64 0, .int .i64 6] w fun e w' => e = .returned (.int .u32 23) ∧ ∃ n, w' = w.drewN n)) (h3 : Hid (∀ w, Calls Try.prog 20 #[.int .u32 p, .int .u8 2] w fun e w' => e = .returned (.agg (IC X)) ∧ Fr [] w w')) : Calls Try.prog 9 #[.int .u32 p] w fun e w' => e = .returned (.agg (IC X)) ∧ Fr [] w w' := by
  go_enter Try.func9, Try.ntmps9
  go_upto_region 5 with fail
  refine world_atF (fun W => W.heap[w.heap.size]? = some (.cells (IC (0, 0, 0, 0, 0, 0, 0)) 25) ∧ W.heap[w.heap.size + 1]? = some (opsO [5, 6, 0, 0, 7, 8, 9, 10] 42) ∧ W.heap[w.heap.size + 2]? = some (opsO [11, 12, 13, 14, 15, 16, 17] 43) ∧ W.heap[w.heap.size + 3]? = some (opsO [18, 19, 20, 21] 44) ∧ Fr [] w W) ⟨blk_alloc (blk_alloc (blk_alloc (blk_new _ _) _) _) _, blk_alloc (blk_alloc (blk_new' (n := w.heap.size + 1) (by simp) _) _) _, blk_alloc (blk_new' (n := w.heap.size + 2) (by simp) _) _, blk_new' (n := w.heap.size + 3) (by simp) _, ((((Fr.refl [] w).alloc _).alloc _).alloc _).alloc _⟩ ?_
  rintro W ⟨hZ, hL1, hL2, hL3, hF⟩
  have HZ := hid hZ
  have HL1 := hid hL1
  have HL2 := hid hL2
  have HL3 := hid hL3
  have HF := hid hF
  clear hZ hL1 hL2 hL3 hF
  go_wp2_with (first | (go_at_call 19; (with_reducible refine (h1.out _).mono ?_); rintro e w' ⟨rfl, nn, rfl⟩) | (go_at_call 20; (with_reducible refine (h3.out _).mono ?_); rintro e w1 ⟨rfl, hd⟩) | (refine wpList_store_whole rfl 25 _ _ rfl (w.heap.size) rfl (IC X) rfl 25 _ (hd.keeps (show (World.drewN _ _).heap[w.heap.size]? = _ from HZ.out) (by simp)) rfl (sizeI' _) (IC_one _) ?_; intro w2 h2 hfr2))
  exact ⟨rfl, _, results_c rfl rfl h2 Try.underlying25 rfl (sizeI' _), rfl, (HF.out.drewN _ |>.trans hd).step hfr2 (fun j hj => .inr (by rw [List.mem_singleton.1 hj]; omega))⟩
set_option maxRecDepth 100000 in
set_option maxHeartbeats 4000000 in
theorem dec_imm (p : Int) (X : T7) (w : World) (h1 : Hid (∀ w, Calls Try.prog 19 #[.int .u32 p, .int .i64 0, .int .i64 6] w fun e w' => e = .returned (.int .u32 19) ∧ ∃ n, w' = w.drewN n)) (h3 : Hid (∀ w, Calls Try.prog 28 #[.int .u32 p] w fun e w' => e = .returned (.agg (IC X)) ∧ Fr [] w w')) : Calls Try.prog 9 #[.int .u32 p] w fun e w' => e = .returned (.agg (IC X)) ∧ Fr [] w w' := by
  go_enter Try.func9, Try.ntmps9
  go_upto_region 5 with fail
  refine world_atF (fun W => W.heap[w.heap.size]? = some (.cells (IC (0, 0, 0, 0, 0, 0, 0)) 25) ∧ W.heap[w.heap.size + 1]? = some (opsO [5, 6, 0, 0, 7, 8, 9, 10] 42) ∧ W.heap[w.heap.size + 2]? = some (opsO [11, 12, 13, 14, 15, 16, 17] 43) ∧ W.heap[w.heap.size + 3]? = some (opsO [18, 19, 20, 21] 44) ∧ Fr [] w W) ⟨blk_alloc (blk_alloc (blk_alloc (blk_new _ _) _) _) _, blk_alloc (blk_alloc (blk_new' (n := w.heap.size + 1) (by simp) _) _) _, blk_alloc (blk_new' (n := w.heap.size + 2) (by simp) _) _, blk_new' (n := w.heap.size + 3) (by simp) _, ((((Fr.refl [] w).alloc _).alloc _).alloc _).alloc _⟩ ?_
  rintro W ⟨hZ, hL1, hL2, hL3, hF⟩
  have HZ := hid hZ
  have HL1 := hid hL1
  have HL2 := hid hL2
  have HL3 := hid hL3
  have HF := hid hF
  clear hZ hL1 hL2 hL3 hF
  go_wp2_with (first | (go_at_call 19; (with_reducible refine (h1.out _).mono ?_); rintro e w' ⟨rfl, nn, rfl⟩) | (go_at_call 28; (with_reducible refine (h3.out _).mono ?_); rintro e w1 ⟨rfl, hd⟩) | (refine wpList_store_whole rfl 25 _ _ rfl (w.heap.size) rfl (IC X) rfl 25 _ (hd.keeps (show (World.drewN _ _).heap[w.heap.size]? = _ from HZ.out) (by simp)) rfl (sizeI' _) (IC_one _) ?_; intro w2 h2 hfr2))
  exact ⟨rfl, _, results_c rfl rfl h2 Try.underlying25 rfl (sizeI' _), rfl, (HF.out.drewN _ |>.trans hd).step hfr2 (fun j hj => .inr (by rw [List.mem_singleton.1 hj]; omega))⟩
set_option maxRecDepth 100000 in
set_option maxHeartbeats 4000000 in
theorem dec_immW (p : Int) (X : T7) (w : World) (h1 : Hid (∀ w, Calls Try.prog 19 #[.int .u32 p, .int .i64 0, .int .i64 6] w fun e w' => e = .returned (.int .u32 27) ∧ ∃ n, w' = w.drewN n)) (h3 : Hid (∀ w, Calls Try.prog 29 #[.int .u32 p] w fun e w' => e = .returned (.agg (IC X)) ∧ Fr [] w w')) : Calls Try.prog 9 #[.int .u32 p] w fun e w' => e = .returned (.agg (IC X)) ∧ Fr [] w w' := by
  go_enter Try.func9, Try.ntmps9
  go_upto_region 5 with fail
  refine world_atF (fun W => W.heap[w.heap.size]? = some (.cells (IC (0, 0, 0, 0, 0, 0, 0)) 25) ∧ W.heap[w.heap.size + 1]? = some (opsO [5, 6, 0, 0, 7, 8, 9, 10] 42) ∧ W.heap[w.heap.size + 2]? = some (opsO [11, 12, 13, 14, 15, 16, 17] 43) ∧ W.heap[w.heap.size + 3]? = some (opsO [18, 19, 20, 21] 44) ∧ Fr [] w W) ⟨blk_alloc (blk_alloc (blk_alloc (blk_new _ _) _) _) _, blk_alloc (blk_alloc (blk_new' (n := w.heap.size + 1) (by simp) _) _) _, blk_alloc (blk_new' (n := w.heap.size + 2) (by simp) _) _, blk_new' (n := w.heap.size + 3) (by simp) _, ((((Fr.refl [] w).alloc _).alloc _).alloc _).alloc _⟩ ?_
  rintro W ⟨hZ, hL1, hL2, hL3, hF⟩
  have HZ := hid hZ
  have HL1 := hid hL1
  have HL2 := hid hL2
  have HL3 := hid hL3
  have HF := hid hF
  clear hZ hL1 hL2 hL3 hF
  go_wp2_with (first | (go_at_call 19; (with_reducible refine (h1.out _).mono ?_); rintro e w' ⟨rfl, nn, rfl⟩) | (go_at_call 29; (with_reducible refine (h3.out _).mono ?_); rintro e w1 ⟨rfl, hd⟩) | (refine wpList_store_whole rfl 25 _ _ rfl (w.heap.size) rfl (IC X) rfl 25 _ (hd.keeps (show (World.drewN _ _).heap[w.heap.size]? = _ from HZ.out) (by simp)) rfl (sizeI' _) (IC_one _) ?_; intro w2 h2 hfr2))
  exact ⟨rfl, _, results_c rfl rfl h2 Try.underlying25 rfl (sizeI' _), rfl, (HF.out.drewN _ |>.trans hd).step hfr2 (fun j hj => .inr (by rw [List.mem_singleton.1 hj]; omega))⟩
set_option maxRecDepth 100000 in
set_option maxHeartbeats 4000000 in
theorem dec_reg (p : Int) (X : T7) (w : World) (h1 : Hid (∀ w, Calls Try.prog 19 #[.int .u32 p, .int .i64 0, .int .i64 6] w fun e w' => e = .returned (.int .u32 51) ∧ ∃ n, w' = w.drewN n)) (h3 : Hid (∀ w, Calls Try.prog 30 #[.int .u32 p] w fun e w' => e = .returned (.agg (IC X)) ∧ Fr [] w w')) : Calls Try.prog 9 #[.int .u32 p] w fun e w' => e = .returned (.agg (IC X)) ∧ Fr [] w w' := by
  go_enter Try.func9, Try.ntmps9
  go_upto_region 5 with fail
  refine world_atF (fun W => W.heap[w.heap.size]? = some (.cells (IC (0, 0, 0, 0, 0, 0, 0)) 25) ∧ W.heap[w.heap.size + 1]? = some (opsO [5, 6, 0, 0, 7, 8, 9, 10] 42) ∧ W.heap[w.heap.size + 2]? = some (opsO [11, 12, 13, 14, 15, 16, 17] 43) ∧ W.heap[w.heap.size + 3]? = some (opsO [18, 19, 20, 21] 44) ∧ Fr [] w W) ⟨blk_alloc (blk_alloc (blk_alloc (blk_new _ _) _) _) _, blk_alloc (blk_alloc (blk_new' (n := w.heap.size + 1) (by simp) _) _) _, blk_alloc (blk_new' (n := w.heap.size + 2) (by simp) _) _, blk_new' (n := w.heap.size + 3) (by simp) _, ((((Fr.refl [] w).alloc _).alloc _).alloc _).alloc _⟩ ?_
  rintro W ⟨hZ, hL1, hL2, hL3, hF⟩
  have HZ := hid hZ
  have HL1 := hid hL1
  have HL2 := hid hL2
  have HL3 := hid hL3
  have HF := hid hF
  clear hZ hL1 hL2 hL3 hF
  go_wp2_with (first | (go_at_call 19; (with_reducible refine (h1.out _).mono ?_); rintro e w' ⟨rfl, nn, rfl⟩) | (go_at_call 30; (with_reducible refine (h3.out _).mono ?_); rintro e w1 ⟨rfl, hd⟩) | (refine wpList_store_whole rfl 25 _ _ rfl (w.heap.size) rfl (IC X) rfl 25 _ (hd.keeps (show (World.drewN _ _).heap[w.heap.size]? = _ from HZ.out) (by simp)) rfl (sizeI' _) (IC_one _) ?_; intro w2 h2 hfr2))
  exact ⟨rfl, _, results_c rfl rfl h2 Try.underlying25 rfl (sizeI' _), rfl, (HF.out.drewN _ |>.trans hd).step hfr2 (fun j hj => .inr (by rw [List.mem_singleton.1 hj]; omega))⟩
set_option maxRecDepth 100000 in
set_option maxHeartbeats 4000000 in
theorem dec_regW (p : Int) (X : T7) (w : World) (h1 : Hid (∀ w, Calls Try.prog 19 #[.int .u32 p, .int .i64 0, .int .i64 6] w fun e w' => e = .returned (.int .u32 59) ∧ ∃ n, w' = w.drewN n)) (h3 : Hid (∀ w, Calls Try.prog 31 #[.int .u32 p] w fun e w' => e = .returned (.agg (IC X)) ∧ Fr [] w w')) : Calls Try.prog 9 #[.int .u32 p] w fun e w' => e = .returned (.agg (IC X)) ∧ Fr [] w w' := by
  go_enter Try.func9, Try.ntmps9
  go_upto_region 5 with fail
  refine world_atF (fun W => W.heap[w.heap.size]? = some (.cells (IC (0, 0, 0, 0, 0, 0, 0)) 25) ∧ W.heap[w.heap.size + 1]? = some (opsO [5, 6, 0, 0, 7, 8, 9, 10] 42) ∧ W.heap[w.heap.size + 2]? = some (opsO [11, 12, 13, 14, 15, 16, 17] 43) ∧ W.heap[w.heap.size + 3]? = some (opsO [18, 19, 20, 21] 44) ∧ Fr [] w W) ⟨blk_alloc (blk_alloc (blk_alloc (blk_new _ _) _) _) _, blk_alloc (blk_alloc (blk_new' (n := w.heap.size + 1) (by simp) _) _) _, blk_alloc (blk_new' (n := w.heap.size + 2) (by simp) _) _, blk_new' (n := w.heap.size + 3) (by simp) _, ((((Fr.refl [] w).alloc _).alloc _).alloc _).alloc _⟩ ?_
  rintro W ⟨hZ, hL1, hL2, hL3, hF⟩
  have HZ := hid hZ
  have HL1 := hid hL1
  have HL2 := hid hL2
  have HL3 := hid hL3
  have HF := hid hF
  clear hZ hL1 hL2 hL3 hF
  go_wp2_with (first | (go_at_call 19; (with_reducible refine (h1.out _).mono ?_); rintro e w' ⟨rfl, nn, rfl⟩) | (go_at_call 31; (with_reducible refine (h3.out _).mono ?_); rintro e w1 ⟨rfl, hd⟩) | (refine wpList_store_whole rfl 25 _ _ rfl (w.heap.size) rfl (IC X) rfl 25 _ (hd.keeps (show (World.drewN _ _).heap[w.heap.size]? = _ from HZ.out) (by simp)) rfl (sizeI' _) (IC_one _) ?_; intro w2 h2 hfr2))
  exact ⟨rfl, _, results_c rfl rfl h2 Try.underlying25 rfl (sizeI' _), rfl, (HF.out.drewN _ |>.trans hd).step hfr2 (fun j hj => .inr (by rw [List.mem_singleton.1 hj]; omega))⟩
set_option maxRecDepth 100000 in
set_option maxHeartbeats 4000000 in
theorem dec_amo (p : Int) (X : T7) (w : World) (h1 : Hid (∀ w, Calls Try.prog 19 #[.int .u32 p, .int .i64 0, .int .i64 6] w fun e w' => e = .returned (.int .u32 47) ∧ ∃ n, w' = w.drewN n)) (h3 : Hid (∀ w, Calls Try.prog 33 #[.int .u32 p] w fun e w' => e = .returned (.agg (IC X)) ∧ Fr [] w w')) : Calls Try.prog 9 #[.int .u32 p] w fun e w' => e = .returned (.agg (IC X)) ∧ Fr [] w w' := by
  go_enter Try.func9, Try.ntmps9
  go_upto_region 5 with fail
  refine world_atF (fun W => W.heap[w.heap.size]? = some (.cells (IC (0, 0, 0, 0, 0, 0, 0)) 25) ∧ W.heap[w.heap.size + 1]? = some (opsO [5, 6, 0, 0, 7, 8, 9, 10] 42) ∧ W.heap[w.heap.size + 2]? = some (opsO [11, 12, 13, 14, 15, 16, 17] 43) ∧ W.heap[w.heap.size + 3]? = some (opsO [18, 19, 20, 21] 44) ∧ Fr [] w W) ⟨blk_alloc (blk_alloc (blk_alloc (blk_new _ _) _) _) _, blk_alloc (blk_alloc (blk_new' (n := w.heap.size + 1) (by simp) _) _) _, blk_alloc (blk_new' (n := w.heap.size + 2) (by simp) _) _, blk_new' (n := w.heap.size + 3) (by simp) _, ((((Fr.refl [] w).alloc _).alloc _).alloc _).alloc _⟩ ?_
  rintro W ⟨hZ, hL1, hL2, hL3, hF⟩
  have HZ := hid hZ
  have HL1 := hid hL1
  have HL2 := hid hL2
  have HL3 := hid hL3
  have HF := hid hF
  clear hZ hL1 hL2 hL3 hF
  go_wp2_with (first | (go_at_call 19; (with_reducible refine (h1.out _).mono ?_); rintro e w' ⟨rfl, nn, rfl⟩) | (go_at_call 33; (with_reducible refine (h3.out _).mono ?_); rintro e w1 ⟨rfl, hd⟩) | (refine wpList_store_whole rfl 25 _ _ rfl (w.heap.size) rfl (IC X) rfl 25 _ (hd.keeps (show (World.drewN _ _).heap[w.heap.size]? = _ from HZ.out) (by simp)) rfl (sizeI' _) (IC_one _) ?_; intro w2 h2 hfr2))
  exact ⟨rfl, _, results_c rfl rfl h2 Try.underlying25 rfl (sizeI' _), rfl, (HF.out.drewN _ |>.trans hd).step hfr2 (fun j hj => .inr (by rw [List.mem_singleton.1 hj]; omega))⟩
set_option maxRecDepth 100000 in
set_option maxHeartbeats 4000000 in
theorem dec_sys (p : Int) (X : T7) (w : World) (h1 : Hid (∀ w, Calls Try.prog 19 #[.int .u32 p, .int .i64 0, .int .i64 6] w fun e w' => e = .returned (.int .u32 115) ∧ ∃ n, w' = w.drewN n)) (h3 : Hid (∀ w, Calls Try.prog 34 #[.int .u32 p] w fun e w' => e = .returned (.agg (IC X)) ∧ Fr [] w w')) : Calls Try.prog 9 #[.int .u32 p] w fun e w' => e = .returned (.agg (IC X)) ∧ Fr [] w w' := by
  go_enter Try.func9, Try.ntmps9
  go_upto_region 5 with fail
  refine world_atF (fun W => W.heap[w.heap.size]? = some (.cells (IC (0, 0, 0, 0, 0, 0, 0)) 25) ∧ W.heap[w.heap.size + 1]? = some (opsO [5, 6, 0, 0, 7, 8, 9, 10] 42) ∧ W.heap[w.heap.size + 2]? = some (opsO [11, 12, 13, 14, 15, 16, 17] 43) ∧ W.heap[w.heap.size + 3]? = some (opsO [18, 19, 20, 21] 44) ∧ Fr [] w W) ⟨blk_alloc (blk_alloc (blk_alloc (blk_new _ _) _) _) _, blk_alloc (blk_alloc (blk_new' (n := w.heap.size + 1) (by simp) _) _) _, blk_alloc (blk_new' (n := w.heap.size + 2) (by simp) _) _, blk_new' (n := w.heap.size + 3) (by simp) _, ((((Fr.refl [] w).alloc _).alloc _).alloc _).alloc _⟩ ?_
  rintro W ⟨hZ, hL1, hL2, hL3, hF⟩
  have HZ := hid hZ
  have HL1 := hid hL1
  have HL2 := hid hL2
  have HL3 := hid hL3
  have HF := hid hF
  clear hZ hL1 hL2 hL3 hF
  go_wp2_with (first | (go_at_call 19; (with_reducible refine (h1.out _).mono ?_); rintro e w' ⟨rfl, nn, rfl⟩) | (go_at_call 34; (with_reducible refine (h3.out _).mono ?_); rintro e w1 ⟨rfl, hd⟩) | (refine wpList_store_whole rfl 25 _ _ rfl (w.heap.size) rfl (IC X) rfl 25 _ (hd.keeps (show (World.drewN _ _).heap[w.heap.size]? = _ from HZ.out) (by simp)) rfl (sizeI' _) (IC_one _) ?_; intro w2 h2 hfr2))
  exact ⟨rfl, _, results_c rfl rfl h2 Try.underlying25 rfl (sizeI' _), rfl, (HF.out.drewN _ |>.trans hd).step hfr2 (fun j hj => .inr (by rw [List.mem_singleton.1 hj]; omega))⟩
set_option maxRecDepth 100000 in
set_option maxHeartbeats 4000000 in
theorem dec_none (p b : Int) (X : T7) (w : World) (h1 : Hid (∀ w, Calls Try.prog 19 #[.int .u32 p, .int .i64 0, .int .i64 6] w fun e w' => e = .returned (.int .u32 b) ∧ ∃ n, w' = w.drewN n)) (t55 : (b == 55) = false) (t23 : (b == 23) = false) (t111 : (b == 111) = false) (t103 : (b == 103) = false) (t99 : (b == 99) = false) (t3 : (b == 3) = false) (t35 : (b == 35) = false) (t19 : (b == 19) = false) (t27 : (b == 27) = false) (t51 : (b == 51) = false) (t59 : (b == 59) = false) (t15 : (b == 15) = false) (t47 : (b == 47) = false) (t115 : (b == 115) = false) (h3 : Hid (∀ w, Calls Try.prog 35 #[.int .u32 p] w fun e w' => e = .returned (.agg (IC X)) ∧ Fr [] w w')) : Calls Try.prog 9 #[.int .u32 p] w fun e w' => e = .returned (.agg (IC X)) ∧ Fr [] w w' := by
  go_enter Try.func9, Try.ntmps9
  go_upto_region 5 with fail
  refine world_atF (fun W => W.heap[w.heap.size]? = some (.cells (IC (0, 0, 0, 0, 0, 0, 0)) 25) ∧ W.heap[w.heap.size + 1]? = some (opsO [5, 6, 0, 0, 7, 8, 9, 10] 42) ∧ W.heap[w.heap.size + 2]? = some (opsO [11, 12, 13, 14, 15, 16, 17] 43) ∧ W.heap[w.heap.size + 3]? = some (opsO [18, 19, 20, 21] 44) ∧ Fr [] w W) ⟨blk_alloc (blk_alloc (blk_alloc (blk_new _ _) _) _) _, blk_alloc (blk_alloc (blk_new' (n := w.heap.size + 1) (by simp) _) _) _, blk_alloc (blk_new' (n := w.heap.size + 2) (by simp) _) _, blk_new' (n := w.heap.size + 3) (by simp) _, ((((Fr.refl [] w).alloc _).alloc _).alloc _).alloc _⟩ ?_
  rintro W ⟨hZ, hL1, hL2, hL3, hF⟩
  have HZ := hid hZ
  have HL1 := hid hL1
  have HL2 := hid hL2
  have HL3 := hid hL3
  have HF := hid hF
  clear hZ hL1 hL2 hL3 hF
  go_wp2_with (first | (go_at_call 19; (with_reducible refine (h1.out _).mono ?_); rintro e w' ⟨rfl, nn, rfl⟩) | (go_at_call 35; (with_reducible refine (h3.out _).mono ?_); rintro e w1 ⟨rfl, hd⟩) | (refine wpList_store_whole rfl 25 _ _ rfl (w.heap.size) rfl (IC X) rfl 25 _ (hd.keeps (show (World.drewN _ _).heap[w.heap.size]? = _ from HZ.out) (by simp)) rfl (sizeI' _) (IC_one _) ?_; intro w2 h2 hfr2))
  exact ⟨rfl, _, results_c rfl rfl h2 Try.underlying25 rfl (sizeI' _), rfl, (HF.out.drewN _ |>.trans hd).step hfr2 (fun j hj => .inr (by rw [List.mem_singleton.1 hj]; omega))⟩
theorem picks_f2 {p : Int} (n : Int) (h0 : 0 ≤ n) (g : Nat) (l : List Int) (hl : l.length = 2) (ty : TypeId) (w : World) (hp : P32 p) (hb : w.heap[g]? = some (opsO l ty)) (hF : ∀ op w, Calls Try.prog 32 #[.int .u8 op] w fun e w' => e = .returned (.agg (IC (fillT p op 10))) ∧ Fr [] w w') :
    Calls Try.prog 23 #[.int .u32 p, .slice (some ⟨g, 0, none⟩) 2 2, .int .u32 n, .func (.func 32) #[] #[]] w fun e w' => e = .returned (.agg (IC (pickT l n (fun op => fillT p op 10) p))) ∧ Fr [] w w' := by
  by_cases hn : n < 2
  · obtain ⟨op, hop⟩ : ∃ op, l[n.toNat]? = some op := ⟨l[n.toNat]'(by omega), by simp⟩
    have hc := opsO_cell hb hop
    have hg := lt_block hb
    by_cases h : op = 0
    · subst h
      have e : pickT l n (fun op => fillT p op 10) p = ilT p := by unfold pickT; rw [hop, ilT_is hp]; rfl
      rw [e]
      exact pick_f2_nil p n g w h0 hn (decide_eq_false (by omega)) hg hc
    · have e : pickT l n (fun op => fillT p op 10) p = fillT p op 10 := by unfold pickT; rw [hop]; exact if_neg h
      rw [e]
      exact pick_f2_yes p n op g _ w h0 hn (decide_eq_false (by omega)) hg hc (by simpa using h) (hid fun w' _ => hF op w')
  · have e : pickT l n (fun op => fillT p op 10) p = ilT p := by unfold pickT; rw [List.getElem?_eq_none (by omega), ilT_is hp]
    rw [e]
    exact pick_f2_no p n g w (decide_eq_true (by omega))
set_option maxRecDepth 100000 in
set_option maxHeartbeats 4000000 in
theorem dec1_w (p op : Int) (X : T7) (hX : fillT p op 10 = X) (w : World) : Calls Try.prog 32 #[.int .u8 op] w fun e w' => e = .returned (.agg (IC X)) ∧ Fr [] w w' := by
  have hX' : X = (op, 0, 0, 0, 0, 0, 4) := hX.symm
  clear hX
  subst hX'
  go_enter Try.func32, Try.ntmps32
  go_wp2_with (refine wpList_store_whole rfl 25 _ _ rfl (w.heap.size) rfl (IC (op, 0, 0, 0, 0, 0, 4)) rfl 25 _ (blk_new _ _) rfl (sizeI' _) (IC_one _) ?_; intro w2 h2 hfr2)
  exact ⟨rfl, _, results_c rfl rfl h2 Try.underlying25 rfl (sizeI' _), rfl, ((Fr.refl [] w).alloc _).step hfr2 (fun j hj => .inr (by rw [List.mem_singleton.1 hj]; omega))⟩
set_option maxRecDepth 100000 in
set_option maxHeartbeats 4000000 in
theorem dec_jalr (p a : Int) (X : T7) (w : World) (h1 : Hid (∀ w, Calls Try.prog 19 #[.int .u32 p, .int .i64 0, .int .i64 6] w fun e w' => e = .returned (.int .u32 103) ∧ ∃ n, w' = w.drewN n)) (h2 : Hid (∀ w, Calls Try.prog 24 #[.int .u32 p] w fun e w' => e = .returned (.int .u32 a) ∧ ∃ n, w' = w.drewN n))
    (h3 : Hid (∀ g w, w.heap[g]? = some (opsO [4] 5) → Calls Try.prog 23 #[.int .u32 p, .slice (some ⟨g, 0, none⟩) 1 1, .int .u32 a, .func (.func 25) #[.int .u32 p] #[]] w fun e w' => e = .returned (.agg (IC X)) ∧ Fr [] w w')) : Calls Try.prog 9 #[.int .u32 p] w fun e w' => e = .returned (.agg (IC X)) ∧ Fr [] w w' := by
  go_enter Try.func9, Try.ntmps9
  go_upto_region 5 with fail
  refine world_atF (fun W => W.heap[w.heap.size]? = some (.cells (IC (0, 0, 0, 0, 0, 0, 0)) 25) ∧ W.heap[w.heap.size + 1]? = some (opsO [5, 6, 0, 0, 7, 8, 9, 10] 42) ∧ W.heap[w.heap.size + 2]? = some (opsO [11, 12, 13, 14, 15, 16, 17] 43) ∧ W.heap[w.heap.size + 3]? = some (opsO [18, 19, 20, 21] 44) ∧ Fr [] w W) ⟨blk_alloc (blk_alloc (blk_alloc (blk_new _ _) _) _) _, blk_alloc (blk_alloc (blk_new' (n := w.heap.size + 1) (by simp) _) _) _, blk_alloc (blk_new' (n := w.heap.size + 2) (by simp) _) _, blk_new' (n := w.heap.size + 3) (by simp) _, ((((Fr.refl [] w).alloc _).alloc _).alloc _).alloc _⟩ ?_
  rintro W ⟨hZ, hL1, hL2, hL3, hF⟩
  have HZ := hid hZ
  have HL1 := hid hL1
  have HL2 := hid hL2
  have HL3 := hid hL3
  have HF := hid hF
  clear hZ hL1 hL2 hL3 hF
  have hlt := lt_block HZ.out
  go_wp2_with (first | (go_at_call 19; (with_reducible refine (h1.out _).mono ?_); rintro e w' ⟨rfl, nn, rfl⟩) | (go_at_call 24; (with_reducible refine (h2.out _).mono ?_); rintro e w' ⟨rfl, nn, rfl⟩) | (go_at_call 23; (with_reducible refine (h3.out _ _ (show (World.drewN _ _).heap[_]? = _ from blk_new _ _)).mono ?_); rintro e w1 ⟨rfl, hd⟩) | (refine wpList_store_whole rfl 25 _ _ rfl (w.heap.size) rfl (IC X) rfl 25 _ (hd.keeps (show (World.drewN _ _).heap[w.heap.size]? = _ from blk_alloc (show (World.drewN _ _).heap[w.heap.size]? = _ from HZ.out) _) (by simp)) rfl (sizeI' _) (IC_one _) ?_; intro w2 h2 hfr2))
  exact ⟨rfl, _, results_c rfl rfl h2 Try.underlying25 rfl (sizeI' _), rfl, ((((HF.out.drewN _).alloc _).drewN _) |>.trans hd).step hfr2 (fun j hj => .inr (by rw [List.mem_singleton.1 hj]; omega))⟩
set_option maxRecDepth 100000 in
set_option maxHeartbeats 4000000 in
theorem dec_fence (p a : Int) (X : T7) (w : World) (h1 : Hid (∀ w, Calls Try.prog 19 #[.int .u32 p, .int .i64 0, .int .i64 6] w fun e w' => e = .returned (.int .u32 15) ∧ ∃ n, w' = w.drewN n)) (h2 : Hid (∀ w, Calls Try.prog 24 #[.int .u32 p] w fun e w' => e = .returned (.int .u32 a) ∧ ∃ n, w' = w.drewN n))
    (h3 : Hid (∀ g w, w.heap[g]? = some (opsO [50, 51] 5) → Calls Try.prog 23 #[.int .u32 p, .slice (some ⟨g, 0, none⟩) 2 2, .int .u32 a, .func (.func 32) #[] #[]] w fun e w' => e = .returned (.agg (IC X)) ∧ Fr [] w w')) : Calls Try.prog 9 #[.int .u32 p] w fun e w' => e = .returned (.agg (IC X)) ∧ Fr [] w w' := by
  go_enter Try.func9, Try.ntmps9
  go_upto_region 5 with fail
  refine world_atF (fun W => W.heap[w.heap.size]? = some (.cells (IC (0, 0, 0, 0, 0, 0, 0)) 25) ∧ W.heap[w.heap.size + 1]? = some (opsO [5, 6, 0, 0, 7, 8, 9, 10] 42) ∧ W.heap[w.heap.size + 2]? = some (opsO [11, 12, 13, 14, 15, 16, 17] 43) ∧ W.heap[w.heap.size + 3]? = some (opsO [18, 19, 20, 21] 44) ∧ Fr [] w W) ⟨blk_alloc (blk_alloc (blk_alloc (blk_new _ _) _) _) _, blk_alloc (blk_alloc (blk_new' (n := w.heap.size + 1) (by simp) _) _) _, blk_alloc (blk_new' (n := w.heap.size + 2) (by simp) _) _, blk_new' (n := w.heap.size + 3) (by simp) _, ((((Fr.refl [] w).alloc _).alloc _).alloc _).alloc _⟩ ?_
  rintro W ⟨hZ, hL1, hL2, hL3, hF⟩
  have HZ := hid hZ
  have HL1 := hid hL1
  have HL2 := hid hL2
  have HL3 := hid hL3
  have HF := hid hF
  clear hZ hL1 hL2 hL3 hF
  have hlt := lt_block HZ.out
  go_wp2_with (first | (go_at_call 19; (with_reducible refine (h1.out _).mono ?_); rintro e w' ⟨rfl, nn, rfl⟩) | (go_at_call 24; (with_reducible refine (h2.out _).mono ?_); rintro e w' ⟨rfl, nn, rfl⟩) | (go_at_call 23; (with_reducible refine (h3.out _ _ (show (World.drewN _ _).heap[_]? = _ from blk_new _ _)).mono ?_); rintro e w1 ⟨rfl, hd⟩) | (refine wpList_store_whole rfl 25 _ _ rfl (w.heap.size) rfl (IC X) rfl 25 _ (hd.keeps (show (World.drewN _ _).heap[w.heap.size]? = _ from blk_alloc (show (World.drewN _ _).heap[w.heap.size]? = _ from HZ.out) _) (by simp)) rfl (sizeI' _) (IC_one _) ?_; intro w2 h2 hfr2))
  exact ⟨rfl, _, results_c rfl rfl h2 Try.underlying25 rfl (sizeI' _), rfl, ((((HF.out.drewN _).alloc _).drewN _) |>.trans hd).step hfr2 (fun j hj => .inr (by rw [List.mem_singleton.1 hj]; omega))⟩
set_option maxRecDepth 100000 in
set_option maxHeartbeats 4000000 in
theorem dec_branch (p a : Int) (X : T7) (w : World) (h1 : Hid (∀ w, Calls Try.prog 19 #[.int .u32 p, .int .i64 0, .int .i64 6] w fun e w' => e = .returned (.int .u32 99) ∧ ∃ n, w' = w.drewN n)) (h2 : Hid (∀ w, Calls Try.prog 24 #[.int .u32 p] w fun e w' => e = .returned (.int .u32 a) ∧ ∃ n, w' = w.drewN n))
    (h3 : Hid (∀ g w, w.heap[g]? = some (opsO [5, 6, 0, 0, 7, 8, 9, 10] 42) → Calls Try.prog 23 #[.int .u32 p, .slice (some ⟨g, 0, none⟩) 8 8, .int .u32 a, .func (.func 26) #[.int .u32 p] #[]] w fun e w' => e = .returned (.agg (IC X)) ∧ Fr [] w w')) : Calls Try.prog 9 #[.int .u32 p] w fun e w' => e = .returned (.agg (IC X)) ∧ Fr [] w w' := by
  go_enter Try.func9, Try.ntmps9
  go_upto_region 5 with fail
  refine world_atF (fun W => W.heap[w.heap.size]? = some (.cells (IC (0, 0, 0, 0, 0, 0, 0)) 25) ∧ W.heap[w.heap.size + 1]? = some (opsO [5, 6, 0, 0, 7, 8, 9, 10] 42) ∧ W.heap[w.heap.size + 2]? = some (opsO [11, 12, 13, 14, 15, 16, 17] 43) ∧ W.heap[w.heap.size + 3]? = some (opsO [18, 19, 20, 21] 44) ∧ Fr [] w W) ⟨blk_alloc (blk_alloc (blk_alloc (blk_new _ _) _) _) _, blk_alloc (blk_alloc (blk_new' (n := w.heap.size + 1) (by simp) _) _) _, blk_alloc (blk_new' (n := w.heap.size + 2) (by simp) _) _, blk_new' (n := w.heap.size + 3) (by simp) _, ((((Fr.refl [] w).alloc _).alloc _).alloc _).alloc _⟩ ?_
  rintro W ⟨hZ, hL1, hL2, hL3, hF⟩
  have HZ := hid hZ
  have HL1 := hid hL1
  have HL2 := hid hL2
  have HL3 := hid hL3
  have HF := hid hF
  clear hZ hL1 hL2 hL3 hF
  go_upto_region 15 with (go_at_call 19; (with_reducible refine (h1.out _).mono ?_); rintro e w' ⟨rfl, nn, rfl⟩)
  refine world_atF (fun W => W.heap[w.heap.size]? = some (.cells (IC (0, 0, 0, 0, 0, 0, 0)) 25) ∧ W.heap[w.heap.size + 1]? = some (opsO [5, 6, 0, 0, 7, 8, 9, 10] 42) ∧ Fr [] w W) ⟨HZ.out, HL1.out, HF.out.drewN _⟩ ?_
  clear HZ HL1 HL2 HL3 HF
  rintro W2 ⟨hZ, hL, hF⟩
  have HZ := hid hZ
  have HL := hid hL
  have HF := hid hF
  clear hZ hL hF
  have c1 : Hid (∀ n : Ext W2, Calls Try.prog 24 #[.int .u32 p] n.w fun e w'' => e = .returned (.int .u32 a) ∧ ∃ m : Ext W2, w'' = m.w) := fun n => Ext.call n ((h2.out _).mono fun _ _ ⟨h1, k, h2⟩ => ⟨h1, by subst h2; exact (Fr.refl _ _).drewN _⟩)
  have c2 : Hid (∀ n : Ext W2, Calls Try.prog 23 #[.int .u32 p, .slice (some ⟨w.heap.size + 1, 0, none⟩) 8 8, .int .u32 a, .func (.func 26) #[.int .u32 p] #[]] n.w fun e w'' => e = .returned (.agg (IC X)) ∧ ∃ m : Ext W2, w'' = m.w) := fun n => Ext.call n (h3.out _ _ (n.blk HL.out))
  clear h1 h2 h3
  have hne := ext_ne W2
  refine wp_region_ext_tail 7 (by kernel_rfl) (by kernel_rfl) ?_
  simp only [List.take_succ_cons, List.take_zero, List.drop_succ_cons, List.drop_zero]
  repeat (go_big_quiet_step (first | (go_at_call 24; exact c1.out _) | (go_at_call 23; exact c2.out _)))
  refine wpQuiet_nil ?_
  intro w' hw'
  obtain ⟨m1, rfl⟩ := hw'
  have hZ1 := m1.blk HZ.out
  go_wp2_with (refine wpList_store_whole rfl 25 _ _ rfl (w.heap.size) rfl (IC X) rfl 25 _ hZ1 rfl (sizeI' _) (IC_one _) ?_; intro w2 h2 hfr2)
  exact ⟨rfl, _, results_c rfl rfl h2 Try.underlying25 rfl (sizeI' _), rfl, (HF.out.trans m1.fr).step hfr2 (fun j hj => .inr (by rw [List.mem_singleton.1 hj]; omega))⟩
set_option maxRecDepth 100000 in
set_option maxHeartbeats 4000000 in
theorem dec_load (p a : Int) (X : T7) (w : World) (h1 : Hid (∀ w, Calls Try.prog 19 #[.int .u32 p, .int .i64 0, .int .i64 6] w fun e w' => e = .returned (.int .u32 3) ∧ ∃ n, w' = w.drewN n)) (h2 : Hid (∀ w, Calls Try.prog 24 #[.int .u32 p] w fun e w' => e = .returned (.int .u32 a) ∧ ∃ n, w' = w.drewN n))
    (h3 : Hid (∀ g w, w.heap[g]? = some (opsO [11, 12, 13, 14, 15, 16, 17] 43) → Calls Try.prog 23 #[.int .u32 p, .slice (some ⟨g, 0, none⟩) 7 7, .int .u32 a, .func (.func 25) #[.int .u32 p] #[]] w fun e w' => e = .returned (.agg (IC X)) ∧ Fr [] w w')) : Calls Try.prog 9 #[.int .u32 p] w fun e w' => e = .returned (.agg (IC X)) ∧ Fr [] w w' := by
  go_enter Try.func9, Try.ntmps9
  go_upto_region 5 with fail
  refine world_atF (fun W => W.heap[w.heap.size]? = some (.cells (IC (0, 0, 0, 0, 0, 0, 0)) 25) ∧ W.heap[w.heap.size + 1]? = some (opsO [5, 6, 0, 0, 7, 8, 9, 10] 42) ∧ W.heap[w.heap.size + 2]? = some (opsO [11, 12, 13, 14, 15, 16, 17] 43) ∧ W.heap[w.heap.size + 3]? = some (opsO [18, 19, 20, 21] 44) ∧ Fr [] w W) ⟨blk_alloc (blk_alloc (blk_alloc (blk_new _ _) _) _) _, blk_alloc (blk_alloc (blk_new' (n := w.heap.size + 1) (by simp) _) _) _, blk_alloc (blk_new' (n := w.heap.size + 2) (by simp) _) _, blk_new' (n := w.heap.size + 3) (by simp) _, ((((Fr.refl [] w).alloc _).alloc _).alloc _).alloc _⟩ ?_
  rintro W ⟨hZ, hL1, hL2, hL3, hF⟩
  have HZ := hid hZ
  have HL1 := hid hL1
  have HL2 := hid hL2
  have HL3 := hid hL3
  have HF := hid hF
  clear hZ hL1 hL2 hL3 hF
  go_upto_region 17 with (go_at_call 19; (with_reducible refine (h1.out _).mono ?_); rintro e w' ⟨rfl, nn, rfl⟩)
  refine world_atF (fun W => W.heap[w.heap.size]? = some (.cells (IC (0, 0, 0, 0, 0, 0, 0)) 25) ∧ W.heap[w.heap.size + 1 + 1]? = some (opsO [11, 12, 13, 14, 15, 16, 17] 43) ∧ Fr [] w W) ⟨HZ.out, HL2.out, HF.out.drewN _⟩ ?_
  clear HZ HL1 HL2 HL3 HF
  rintro W2 ⟨hZ, hL, hF⟩
  have HZ := hid hZ
  have HL := hid hL
  have HF := hid hF
  clear hZ hL hF
  have c1 : Hid (∀ n : Ext W2, Calls Try.prog 24 #[.int .u32 p] n.w fun e w'' => e = .returned (.int .u32 a) ∧ ∃ m : Ext W2, w'' = m.w) := fun n => Ext.call n ((h2.out _).mono fun _ _ ⟨h1, k, h2⟩ => ⟨h1, by subst h2; exact (Fr.refl _ _).drewN _⟩)
  have c2 : Hid (∀ n : Ext W2, Calls Try.prog 23 #[.int .u32 p, .slice (some ⟨w.heap.size + 1 + 1, 0, none⟩) 7 7, .int .u32 a, .func (.func 25) #[.int .u32 p] #[]] n.w fun e w'' => e = .returned (.agg (IC X)) ∧ ∃ m : Ext W2, w'' = m.w) := fun n => Ext.call n (h3.out _ _ (n.blk HL.out))
  clear h1 h2 h3
  have hne := ext_ne W2
  refine wp_region_ext_tail 7 (by kernel_rfl) (by kernel_rfl) ?_
  simp only [List.take_succ_cons, List.take_zero, List.drop_succ_cons, List.drop_zero]
  repeat (go_big_quiet_step (first | (go_at_call 24; exact c1.out _) | (go_at_call 23; exact c2.out _)))
  refine wpQuiet_nil ?_
  intro w' hw'
  obtain ⟨m1, rfl⟩ := hw'
  have hZ1 := m1.blk HZ.out
  go_wp2_with (refine wpList_store_whole rfl 25 _ _ rfl (w.heap.size) rfl (IC X) rfl 25 _ hZ1 rfl (sizeI' _) (IC_one _) ?_; intro w2 h2 hfr2)
  exact ⟨rfl, _, results_c rfl rfl h2 Try.underlying25 rfl (sizeI' _), rfl, (HF.out.trans m1.fr).step hfr2 (fun j hj => .inr (by rw [List.mem_singleton.1 hj]; omega))⟩
set_option maxRecDepth 100000 in
set_option maxHeartbeats 4000000 in
theorem dec_store (p a : Int) (X : T7) (w : World) (h1 : Hid (∀ w, Calls Try.prog 19 #[.int .u32 p, .int .i64 0, .int .i64 6] w fun e w' => e = .returned (.int .u32 35) ∧ ∃ n, w' = w.drewN n)) (h2 : Hid (∀ w, Calls Try.prog 24 #[.int .u32 p] w fun e w' => e = .returned (.int .u32 a) ∧ ∃ n, w' = w.drewN n))
    (h3 : Hid (∀ g w, w.heap[g]? = some (opsO [18, 19, 20, 21] 44) → Calls Try.prog 23 #[.int .u32 p, .slice (some ⟨g, 0, none⟩) 4 4, .int .u32 a, .func (.func 27) #[.int .u32 p] #[]] w fun e w' => e = .returned (.agg (IC X)) ∧ Fr [] w w')) : Calls Try.prog 9 #[.int .u32 p] w fun e w' => e = .returned (.agg (IC X)) ∧ Fr [] w w' := by
  go_enter Try.func9, Try.ntmps9
  go_upto_region 5 with fail
  refine world_atF (fun W => W.heap[w.heap.size]? = some (.cells (IC (0, 0, 0, 0, 0, 0, 0)) 25) ∧ W.heap[w.heap.size + 1]? = some (opsO [5, 6, 0, 0, 7, 8, 9, 10] 42) ∧ W.heap[w.heap.size + 2]? = some (opsO [11, 12, 13, 14, 15, 16, 17] 43) ∧ W.heap[w.heap.size + 3]? = some (opsO [18, 19, 20, 21] 44) ∧ Fr [] w W) ⟨blk_alloc (blk_alloc (blk_alloc (blk_new _ _) _) _) _, blk_alloc (blk_alloc (blk_new' (n := w.heap.size + 1) (by simp) _) _) _, blk_alloc (blk_new' (n := w.heap.size + 2) (by simp) _) _, blk_new' (n := w.heap.size + 3) (by simp) _, ((((Fr.refl [] w).alloc _).alloc _).alloc _).alloc _⟩ ?_
  rintro W ⟨hZ, hL1, hL2, hL3, hF⟩
  have HZ := hid hZ
  have HL1 := hid hL1
  have HL2 := hid hL2
  have HL3 := hid hL3
  have HF := hid hF
  clear hZ hL1 hL2 hL3 hF
  go_upto_region 19 with (go_at_call 19; (with_reducible refine (h1.out _).mono ?_); rintro e w' ⟨rfl, nn, rfl⟩)
  refine world_atF (fun W => W.heap[w.heap.size]? = some (.cells (IC (0, 0, 0, 0, 0, 0, 0)) 25) ∧ W.heap[w.heap.size + 1 + 1 + 1]? = some (opsO [18, 19, 20, 21] 44) ∧ Fr [] w W) ⟨HZ.out, HL3.out, HF.out.drewN _⟩ ?_
  clear HZ HL1 HL2 HL3 HF
  rintro W2 ⟨hZ, hL, hF⟩
  have HZ := hid hZ
  have HL := hid hL
  have HF := hid hF
  clear hZ hL hF
  have c1 : Hid (∀ n : Ext W2, Calls Try.prog 24 #[.int .u32 p] n.w fun e w'' => e = .returned (.int .u32 a) ∧ ∃ m : Ext W2, w'' = m.w) := fun n => Ext.call n ((h2.out _).mono fun _ _ ⟨h1, k, h2⟩ => ⟨h1, by subst h2; exact (Fr.refl _ _).drewN _⟩)
  have c2 : Hid (∀ n : Ext W2, Calls Try.prog 23 #[.int .u32 p, .slice (some ⟨w.heap.size + 1 + 1 + 1, 0, none⟩) 4 4, .int .u32 a, .func (.func 27) #[.int .u32 p] #[]] n.w fun e w'' => e = .returned (.agg (IC X)) ∧ ∃ m : Ext W2, w'' = m.w) := fun n => Ext.call n (h3.out _ _ (n.blk HL.out))
  clear h1 h2 h3
  have hne := ext_ne W2
  refine wp_region_ext_tail 7 (by kernel_rfl) (by kernel_rfl) ?_
  simp only [List.take_succ_cons, List.take_zero, List.drop_succ_cons, List.drop_zero]
  repeat (go_big_quiet_step (first | (go_at_call 24; exact c1.out _) | (go_at_call 23; exact c2.out _)))
  refine wpQuiet_nil ?_
  intro w' hw'
  obtain ⟨m1, rfl⟩ := hw'
  have hZ1 := m1.blk HZ.out
  go_wp2_with (refine wpList_store_whole rfl 25 _ _ rfl (w.heap.size) rfl (IC X) rfl 25 _ hZ1 rfl (sizeI' _) (IC_one _) ?_; intro w2 h2 hfr2)
  exact ⟨rfl, _, results_c rfl rfl h2 Try.underlying25 rfl (sizeI' _), rfl, (HF.out.trans m1.fr).step hfr2 (fun j hj => .inr (by rw [List.mem_singleton.1 hj]; omega))⟩
set_option maxRecDepth 100000 in
set_option maxHeartbeats 4000000 in
theorem dec_jal (p rd v : Int) (w : World) (h1 : Hid (∀ w, Calls Try.prog 19 #[.int .u32 p, .int .i64 0, .int .i64 6] w fun e w' => e = .returned (.int .u32 111) ∧ ∃ n, w' = w.drewN n)) (h2 : Hid (∀ w, Calls Try.prog 21 #[.int .u32 p] w fun e w' => e = .returned (.int .u8 rd) ∧ ∃ n, w' = w.drewN n))
    (h3 : Hid (∀ g w, w.heap[g]? = some (.cells #[.int .i64 31, .int .i64 31, .int .i64 12, .int .i64 19, .int .i64 20, .int .i64 20, .int .i64 21, .int .i64 30] 50) → Calls Try.prog 22 #[.int .u32 p, .int .i64 1, .slice (some ⟨g, 0, none⟩) 4 4] w fun e w' => e = .returned (.int .i64 v) ∧ Fr [] w w')) : Calls Try.prog 9 #[.int .u32 p] w fun e w' => e = .returned (.agg (IC (3, rd, 0, 0, v, 0, 4))) ∧ Fr [] w w' := by
  go_enter Try.func9, Try.ntmps9
  go_upto_region 5 with fail
  refine world_atF (fun W => W.heap[w.heap.size]? = some (.cells (IC (0, 0, 0, 0, 0, 0, 0)) 25) ∧ W.heap[w.heap.size + 1]? = some (opsO [5, 6, 0, 0, 7, 8, 9, 10] 42) ∧ W.heap[w.heap.size + 2]? = some (opsO [11, 12, 13, 14, 15, 16, 17] 43) ∧ W.heap[w.heap.size + 3]? = some (opsO [18, 19, 20, 21] 44) ∧ Fr [] w W) ⟨blk_alloc (blk_alloc (blk_alloc (blk_new _ _) _) _) _, blk_alloc (blk_alloc (blk_new' (n := w.heap.size + 1) (by simp) _) _) _, blk_alloc (blk_new' (n := w.heap.size + 2) (by simp) _) _, blk_new' (n := w.heap.size + 3) (by simp) _, ((((Fr.refl [] w).alloc _).alloc _).alloc _).alloc _⟩ ?_
  rintro W ⟨hZ, hL1, hL2, hL3, hF⟩
  have HZ := hid hZ
  have HL1 := hid hL1
  have HL2 := hid hL2
  have HL3 := hid hL3
  have HF := hid hF
  clear hZ hL1 hL2 hL3 hF
  go_wp2_with (first | (go_at_call 19; (with_reducible refine (h1.out _).mono ?_); rintro e w' ⟨rfl, nn, rfl⟩) | (go_at_call 21; (with_reducible refine (h2.out _).mono ?_); rintro e w' ⟨rfl, nn, rfl⟩) | (go_at_call 22; (with_reducible refine (h3.out _ _ (blk_new' (n := W.heap.size) (by simp) _)).mono ?_); rintro e w1 ⟨rfl, hd⟩) | (refine wpList_store_whole rfl 25 _ _ rfl (w.heap.size) rfl (IC (3, rd, 0, 0, v, 0, 4)) rfl 25 _ (hd.keeps (blk_alloc (show (World.drewN _ _).heap[w.heap.size]? = _ from HZ.out) _) (by simp)) rfl (sizeI' _) (IC_one _) ?_; intro w2 h2 hfr2))
  exact ⟨rfl, _, results_c rfl rfl h2 Try.underlying25 rfl (sizeI' _), rfl, ((HF.out.drewN _).alloc _ |>.trans hd).step hfr2 (fun j hj => .inr (by rw [List.mem_singleton.1 hj]; omega))⟩
/-- the instruction of a parcel -/
def decT (p : Int) : T7 :=
  if p % 128 = 55 then fillT p 1 6 else if p % 128 = 23 then fillT p 2 6 else if p % 128 = 111 then (3, p / 128 % 32, 0, 0, jalV p, 0, 4)
  else if p % 128 = 103 then pickT [4] (p / 4096 % 8) (fun op => fillT p op 1) p
  else if p % 128 = 99 then pickT [5, 6, 0, 0, 7, 8, 9, 10] (p / 4096 % 8) (fun op => fillT p op 5) p
  else if p % 128 = 3 then pickT [11, 12, 13, 14, 15, 16, 17] (p / 4096 % 8) (fun op => fillT p op 1) p
  else if p % 128 = 35 then pickT [18, 19, 20, 21] (p / 4096 % 8) (fun op => fillT p op 4) p
  else if p % 128 = 19 then immT p else if p % 128 = 27 then immWT p
  else if p % 128 = 51 then by7T [31, 33, 34, 35, 36, 37, 39, 40] [54, 55, 56, 57, 58, 59, 60, 61] [32, 0, 0, 0, 0, 38] p
  else if p % 128 = 59 then by7T [45, 47, 0, 0, 0, 48] [62, 0, 0, 0, 63, 64, 65, 66] [46, 0, 0, 0, 0, 49] p
  else if p % 128 = 15 then pickT [50, 51] (p / 4096 % 8) (fun op => fillT p op 10) p
  else if p % 128 = 47 then amoT p else if p % 128 = 115 then sysT p else ill p
theorem dec_any {p : Int} (hp : P32 p) (w : World) : Calls Try.prog 9 #[.int .u32 p] w fun e w' => e = .returned (.agg (IC (decT p))) ∧ Fr [] w w' := by
  have h1 := hid fun w => c_bits_0_6 hp w
  have h2 := hid fun w => c_f3 hp w
  have h0 : 0 ≤ p / 4096 % 8 := by omega
  unfold decT
  generalize hb : p % 128 = b at *
  have hb' := hid hb
  clear hb
  by_cases e : b = 55
  · rw [if_pos e]; subst e; exact dec_lui p _ w h1 (hid fun w => c_upper hp 1 w)
  rw [if_neg e]
  by_cases e2 : b = 23
  · rw [if_pos e2]; subst e2; exact dec_auipc p _ w h1 (hid fun w => c_upper hp 2 w)
  rw [if_neg e2]
  by_cases e3 : b = 111
  · rw [if_pos e3]; subst e3; exact dec_jal p _ _ w h1 (hid fun w => c_rd hp w) (hid fun g w hb => c_jal hp g w hb)
  rw [if_neg e3]
  by_cases e4 : b = 103
  · rw [if_pos e4]; subst e4; exact dec_jalr p _ _ w h1 h2 (hid fun g w hb => picks_i1 hp _ h0 g _ rfl _ w hb)
  rw [if_neg e4]
  by_cases e5 : b = 99
  · rw [if_pos e5]; subst e5; exact dec_branch p _ _ w h1 h2 (hid fun g w hb => picks_b8 hp _ h0 g _ rfl _ w hb)
  rw [if_neg e5]
  by_cases e6 : b = 3
  · rw [if_pos e6]; subst e6; exact dec_load p _ _ w h1 h2 (hid fun g w hb => picks_i7 hp _ h0 g _ rfl _ w hb)
  rw [if_neg e6]
  by_cases e7 : b = 35
  · rw [if_pos e7]; subst e7; exact dec_store p _ _ w h1 h2 (hid fun g w hb => picks_s4 hp _ h0 g _ rfl _ w hb)
  rw [if_neg e7]
  by_cases e8 : b = 19
  · rw [if_pos e8]; subst e8; exact dec_imm p _ w h1 (hid fun w => imm_any hp w)
  rw [if_neg e8]
  by_cases e9 : b = 27
  · rw [if_pos e9]; subst e9; exact dec_immW p _ w h1 (hid fun w => immW_any hp w)
  rw [if_neg e9]
  by_cases e10 : b = 51
  · rw [if_pos e10]; subst e10; exact dec_reg p _ w h1 (hid fun w => reg_any hp w)
  rw [if_neg e10]
  by_cases e11 : b = 59
  · rw [if_pos e11]; subst e11; exact dec_regW p _ w h1 (hid fun w => regW_any hp w)
  rw [if_neg e11]
  by_cases e12 : b = 15
  · rw [if_pos e12]; subst e12; exact dec_fence p _ _ w h1 h2 (hid fun g w hb => picks_f2 _ h0 g _ rfl _ w hp hb (fun op w => dec1_w p op _ rfl w))
  rw [if_neg e12]
  by_cases e13 : b = 47
  · rw [if_pos e13]; subst e13; exact dec_amo p _ w h1 (hid fun w => amo_any hp w)
  rw [if_neg e13]
  by_cases e14 : b = 115
  · rw [if_pos e14]; subst e14; exact dec_sys p _ w h1 (hid fun w => system_any hp w)
  rw [if_neg e14]
  exact dec_none p b _ w h1 (by simpa using e) (by simpa using e2) (by simpa using e3) (by simpa using e4) (by simpa using e5) (by simpa using e6) (by simpa using e7) (by simpa using e8) (by simpa using e9) (by simpa using e10) (by simpa using e11) (by simpa using e12) (by simpa using e13) (by simpa using e14) (hid fun w => c_ill hp w)
end Go.Proofs.Ytogdifjdlkpehaa.PA
