/- Contracts of amo and system. -/
import Derived.Test.YtogdifjdlkpehaaHDec0
import Derived.Test.YtogdifjdlkpehaaK3
import Derived.Deep.Cut
import Derived.BigGuard
namespace Go.Proofs.Ytogdifjdlkpehaa.PA
open Go.RowKit Go.Proofs.YtogdifjdlkpehaaW.PrintWords Go.Proofs.YtogdifjdlkpehaaW.PrintLast Go.Proofs.YtogdifjdlkpehaaW.PrintMore
set_option linter.all false
def amoC : Array Value := ([70, 69, 67, 68, 71, 0, 0, 0, 73, 0, 0, 0, 72, 0, 0, 0, 74, 0, 0, 0, 75, 0, 0, 0, 76, 0, 0, 0, 77].map (Value.int .u8)).toArray
set_option maxRecDepth 100000 in
set_option maxHeartbeats 4000000 in
theorem amo_a (p b a o r2 rd r1 im cs sz : Int) (X : T7) (w : World) (h1 : Hid (∀ w, Calls Try.prog 24 #[.int .u32 p] w fun e w' => e = .returned (.int .u32 a) ∧ ∃ n, w' = w.drewN n)) (h2 : Hid (∀ w, Calls Try.prog 19 #[.int .u32 p, .int .i64 27, .int .i64 31] w fun e w' => e = .returned (.int .u32 b) ∧ ∃ n, w' = w.drewN n)) (t1 : (a != 2) = true) (t2 : (a != 3) = true)
    (h3 : Hid (∀ g w, w.heap[g]? = some (opsO [70, 69, 67, 68, 71, 0, 0, 0, 73, 0, 0, 0, 72, 0, 0, 0, 74, 0, 0, 0, 75, 0, 0, 0, 76, 0, 0, 0, 77] 73) → Calls Try.prog 23 #[.int .u32 p, .slice (some ⟨g, 0, none⟩) 29 29, .int .u32 b, .func (.func 49) #[.int .u32 p] #[]] w fun e w' => e = .returned (.agg (IC (o, rd, r1, r2, im, cs, sz))) ∧ Fr [] w w')) (h4 : Hid (∀ w, Calls Try.prog 35 #[.int .u32 p] w fun e w' => e = .returned (.agg (IC X)) ∧ Fr [] w w')) : Calls Try.prog 33 #[.int .u32 p] w fun e w' => e = .returned (.agg (IC X)) ∧ Fr [] w w' := by
  go_enter Try.func33, Try.ntmps33
  go_upto_region 1 with fail
  refine wp_region_list ?_
  refine wpList_buildTo rfl 73 _ rfl (some 5) rfl amoC (by kernel_rfl) ?_
  go_upto_region 2 with (refine wpList_store_whole rfl 73 _ _ rfl (w.heap.size + 1) rfl amoC rfl 73 _ (blk_new' (n := w.heap.size + 1) (by simp) _) (by kernel_rfl) (by kernel_rfl) (by kernel_rfl) ?_; intro w1 hw1 hfr1)
  refine world_atF (fun W => W.heap[w.heap.size]? = some (.cells (IC (0, 0, 0, 0, 0, 0, 0)) 25) ∧ W.heap[w.heap.size + 1]? = some (opsO [70, 69, 67, 68, 71, 0, 0, 0, 73, 0, 0, 0, 72, 0, 0, 0, 74, 0, 0, 0, 75, 0, 0, 0, 76, 0, 0, 0, 77] 73) ∧ Fr [] w W) ⟨hfr1.keeps (blk_alloc (blk_new _ _) _) (by simp), hw1, (((Fr.refl [] w).alloc _).alloc _).step hfr1 (fun j hj => .inr (by rw [List.mem_singleton.1 hj]; omega))⟩ ?_
  clear hw1 hfr1
  rintro W ⟨hZ, hL, hF⟩
  simp only [Act.put]
  have HZ := hid hZ
  have HL := hid hL
  have HF := hid hF
  clear hZ hL hF
  refine wp_region_alloc 8 7 (by kernel_rfl) (by kernel_rfl) rfl _ rfl rfl (.cells (IC (0, 0, 0, 0, 0, 0, 0)) 25) (fun ρ w => by kernel_rfl) (by kernel_rfl) ?aF ?h ?ht
  case h =>
    intro w1 hw1 hne
    have c1 : Hid (∀ n : Ext w1, Calls Try.prog 19 #[.int .u32 p, .int .i64 27, .int .i64 31] n.w fun e w'' => e = .returned (.int .u32 b) ∧ ∃ m : Ext w1, w'' = m.w) := fun n => Ext.call n ((h2.out _).mono fun _ _ ⟨h1, k, h2⟩ => ⟨h1, by subst h2; exact (Fr.refl _ _).drewN _⟩)
    have c2 : Hid (∀ n : Ext w1, Calls Try.prog 23 #[.int .u32 p, .slice (some ⟨w.heap.size + 1, 0, none⟩) 29 29, .int .u32 b, .func (.func 49) #[.int .u32 p] #[]] n.w fun e w'' => e = .returned (.agg (IC (o, rd, r1, r2, im, cs, sz))) ∧ ∃ m : Ext w1, w'' = m.w) := fun n => Ext.call n (h3.out _ _ (n.blk (hw1.keeps HL.out (by simp))))
    simp only [List.take_succ_cons, List.take_zero]
    repeat (go_big_quiet_step (first | (go_at_call 19; exact c1.out _) | (go_at_call 23; exact c2.out _)))
    refine wpQuiet_nil ?_
    rfl
  intro A W1 hF1 hA1 hAle
  simp only [List.drop_succ_cons, List.drop_zero, Act.put]
  go_upto_region 3 with (refine wpList_store_whole rfl 25 _ _ rfl A rfl (IC (o, rd, r1, r2, im, cs, sz)) rfl 25 _ hA1 rfl (sizeI' _) (IC_one _) ?_; intro w2 h2 hfr2)
  have hlt : w.heap.size < A := Nat.lt_of_lt_of_le (lt_block HZ.out) hAle
  have HZ2 := hid (hfr2.keeps (hF1.keeps HZ.out (by simp)) (fun h => by rw [List.mem_singleton.1 h] at hlt; omega))
  have HF2 := hid ((HF.out.trans hF1).step hfr2 (fun j hj => .inr (by rw [List.mem_singleton.1 hj]; omega)))
  have HLT := hid hlt
  have HX := hid h2
  have hfz := blk_free h2 0
  have x0 : w2.cell? ⟨A, 0, none⟩ = some (.int .u8 (o)) := by rw [blk_cell h2]; rfl
  have x1 : w2.cell? ⟨A, 1, none⟩ = some (.int .u8 (rd)) := by rw [blk_cell h2]; rfl
  have x2 : w2.cell? ⟨A, 2, none⟩ = some (.int .u8 (r1)) := by rw [blk_cell h2]; rfl
  have x3 : w2.cell? ⟨A, 3, none⟩ = some (.int .u8 (r2)) := by rw [blk_cell h2]; rfl
  have x4 : w2.cell? ⟨A, 4, none⟩ = some (.int .i64 (im)) := by rw [blk_cell h2]; rfl
  have x5 : w2.cell? ⟨A, 5, none⟩ = some (.int .u16 (cs)) := by rw [blk_cell h2]; rfl
  have x6 : w2.cell? ⟨A, 6, none⟩ = some (.int .u8 (sz)) := by rw [blk_cell h2]; rfl
  clear hlt h2 hfr2 HZ HL HF hF1 hA1 hAle
  go_wp2_with (first | (go_at_call 24; (with_reducible refine (h1.out _).mono ?_); rintro e w' ⟨rfl, nn, rfl⟩) | (go_at_call 35; (with_reducible refine (h4.out _).mono ?_); rintro e w1 ⟨rfl, hd⟩) | (refine wpList_store_whole rfl 25 _ _ rfl (w.heap.size) rfl (IC X) rfl 25 _ (hd.keeps (show (World.drewN _ _).heap[w.heap.size]? = _ from HZ2.out) (by simp)) rfl (sizeI' _) (IC_one _) ?_; intro w2 h2 hfr2))
  exact ⟨rfl, _, results_c rfl rfl h2 Try.underlying25 rfl (sizeI' _), rfl, (HF2.out.drewN _ |>.trans hd).step hfr2 (fun j hj => .inr (by rw [List.mem_singleton.1 hj]; omega))⟩
set_option maxRecDepth 100000 in
set_option maxHeartbeats 4000000 in
theorem amo_b2 (p b r2 rd r1 im cs sz : Int) (X : T7) (w : World) (h1 : Hid (∀ w, Calls Try.prog 24 #[.int .u32 p] w fun e w' => e = .returned (.int .u32 2) ∧ ∃ n, w' = w.drewN n)) (h2 : Hid (∀ w, Calls Try.prog 19 #[.int .u32 p, .int .i64 27, .int .i64 31] w fun e w' => e = .returned (.int .u32 b) ∧ ∃ n, w' = w.drewN n)) (t1 : (r2 != 0) = true)
    (h3 : Hid (∀ g w, w.heap[g]? = some (opsO [70, 69, 67, 68, 71, 0, 0, 0, 73, 0, 0, 0, 72, 0, 0, 0, 74, 0, 0, 0, 75, 0, 0, 0, 76, 0, 0, 0, 77] 73) → Calls Try.prog 23 #[.int .u32 p, .slice (some ⟨g, 0, none⟩) 29 29, .int .u32 b, .func (.func 49) #[.int .u32 p] #[]] w fun e w' => e = .returned (.agg (IC (67, rd, r1, r2, im, cs, sz))) ∧ Fr [] w w')) (h4 : Hid (∀ w, Calls Try.prog 35 #[.int .u32 p] w fun e w' => e = .returned (.agg (IC X)) ∧ Fr [] w w')) : Calls Try.prog 33 #[.int .u32 p] w fun e w' => e = .returned (.agg (IC X)) ∧ Fr [] w w' := by
  go_enter Try.func33, Try.ntmps33
  go_upto_region 1 with fail
  refine wp_region_list ?_
  refine wpList_buildTo rfl 73 _ rfl (some 5) rfl amoC (by kernel_rfl) ?_
  go_upto_region 2 with (refine wpList_store_whole rfl 73 _ _ rfl (w.heap.size + 1) rfl amoC rfl 73 _ (blk_new' (n := w.heap.size + 1) (by simp) _) (by kernel_rfl) (by kernel_rfl) (by kernel_rfl) ?_; intro w1 hw1 hfr1)
  refine world_atF (fun W => W.heap[w.heap.size]? = some (.cells (IC (0, 0, 0, 0, 0, 0, 0)) 25) ∧ W.heap[w.heap.size + 1]? = some (opsO [70, 69, 67, 68, 71, 0, 0, 0, 73, 0, 0, 0, 72, 0, 0, 0, 74, 0, 0, 0, 75, 0, 0, 0, 76, 0, 0, 0, 77] 73) ∧ Fr [] w W) ⟨hfr1.keeps (blk_alloc (blk_new _ _) _) (by simp), hw1, (((Fr.refl [] w).alloc _).alloc _).step hfr1 (fun j hj => .inr (by rw [List.mem_singleton.1 hj]; omega))⟩ ?_
  clear hw1 hfr1
  rintro W ⟨hZ, hL, hF⟩
  simp only [Act.put]
  have HZ := hid hZ
  have HL := hid hL
  have HF := hid hF
  clear hZ hL hF
  refine wp_region_alloc 8 7 (by kernel_rfl) (by kernel_rfl) rfl _ rfl rfl (.cells (IC (0, 0, 0, 0, 0, 0, 0)) 25) (fun ρ w => by kernel_rfl) (by kernel_rfl) ?aF ?h ?ht
  case h =>
    intro w1 hw1 hne
    have c1 : Hid (∀ n : Ext w1, Calls Try.prog 19 #[.int .u32 p, .int .i64 27, .int .i64 31] n.w fun e w'' => e = .returned (.int .u32 b) ∧ ∃ m : Ext w1, w'' = m.w) := fun n => Ext.call n ((h2.out _).mono fun _ _ ⟨h1, k, h2⟩ => ⟨h1, by subst h2; exact (Fr.refl _ _).drewN _⟩)
    have c2 : Hid (∀ n : Ext w1, Calls Try.prog 23 #[.int .u32 p, .slice (some ⟨w.heap.size + 1, 0, none⟩) 29 29, .int .u32 b, .func (.func 49) #[.int .u32 p] #[]] n.w fun e w'' => e = .returned (.agg (IC (67, rd, r1, r2, im, cs, sz))) ∧ ∃ m : Ext w1, w'' = m.w) := fun n => Ext.call n (h3.out _ _ (n.blk (hw1.keeps HL.out (by simp))))
    simp only [List.take_succ_cons, List.take_zero]
    repeat (go_big_quiet_step (first | (go_at_call 19; exact c1.out _) | (go_at_call 23; exact c2.out _)))
    refine wpQuiet_nil ?_
    rfl
  intro A W1 hF1 hA1 hAle
  simp only [List.drop_succ_cons, List.drop_zero, Act.put]
  go_upto_region 3 with (refine wpList_store_whole rfl 25 _ _ rfl A rfl (IC (67, rd, r1, r2, im, cs, sz)) rfl 25 _ hA1 rfl (sizeI' _) (IC_one _) ?_; intro w2 h2 hfr2)
  have hlt : w.heap.size < A := Nat.lt_of_lt_of_le (lt_block HZ.out) hAle
  have HZ2 := hid (hfr2.keeps (hF1.keeps HZ.out (by simp)) (fun h => by rw [List.mem_singleton.1 h] at hlt; omega))
  have HF2 := hid ((HF.out.trans hF1).step hfr2 (fun j hj => .inr (by rw [List.mem_singleton.1 hj]; omega)))
  have HLT := hid hlt
  have HX := hid h2
  have hfz := blk_free h2 0
  have x0 : w2.cell? ⟨A, 0, none⟩ = some (.int .u8 (67)) := by rw [blk_cell h2]; rfl
  have x1 : w2.cell? ⟨A, 1, none⟩ = some (.int .u8 (rd)) := by rw [blk_cell h2]; rfl
  have x2 : w2.cell? ⟨A, 2, none⟩ = some (.int .u8 (r1)) := by rw [blk_cell h2]; rfl
  have x3 : w2.cell? ⟨A, 3, none⟩ = some (.int .u8 (r2)) := by rw [blk_cell h2]; rfl
  have x4 : w2.cell? ⟨A, 4, none⟩ = some (.int .i64 (im)) := by rw [blk_cell h2]; rfl
  have x5 : w2.cell? ⟨A, 5, none⟩ = some (.int .u16 (cs)) := by rw [blk_cell h2]; rfl
  have x6 : w2.cell? ⟨A, 6, none⟩ = some (.int .u8 (sz)) := by rw [blk_cell h2]; rfl
  clear hlt h2 hfr2 HZ HL HF hF1 hA1 hAle
  go_wp2_with (first | (go_at_call 24; (with_reducible refine (h1.out _).mono ?_); rintro e w' ⟨rfl, nn, rfl⟩) | (go_at_call 35; (with_reducible refine (h4.out _).mono ?_); rintro e w1 ⟨rfl, hd⟩) | (refine wpList_store_whole rfl 25 _ _ rfl (w.heap.size) rfl (IC X) rfl 25 _ (hd.keeps (show (World.drewN _ _).heap[w.heap.size]? = _ from HZ2.out) (by simp)) rfl (sizeI' _) (IC_one _) ?_; intro w2 h2 hfr2))
  exact ⟨rfl, _, results_c rfl rfl h2 Try.underlying25 rfl (sizeI' _), rfl, (HF2.out.drewN _ |>.trans hd).step hfr2 (fun j hj => .inr (by rw [List.mem_singleton.1 hj]; omega))⟩
set_option maxRecDepth 100000 in
set_option maxHeartbeats 4000000 in
theorem amo_b3 (p b r2 rd r1 im cs sz : Int) (X : T7) (w : World) (h1 : Hid (∀ w, Calls Try.prog 24 #[.int .u32 p] w fun e w' => e = .returned (.int .u32 3) ∧ ∃ n, w' = w.drewN n)) (h2 : Hid (∀ w, Calls Try.prog 19 #[.int .u32 p, .int .i64 27, .int .i64 31] w fun e w' => e = .returned (.int .u32 b) ∧ ∃ n, w' = w.drewN n)) (t1 : (r2 != 0) = true)
    (h3 : Hid (∀ g w, w.heap[g]? = some (opsO [70, 69, 67, 68, 71, 0, 0, 0, 73, 0, 0, 0, 72, 0, 0, 0, 74, 0, 0, 0, 75, 0, 0, 0, 76, 0, 0, 0, 77] 73) → Calls Try.prog 23 #[.int .u32 p, .slice (some ⟨g, 0, none⟩) 29 29, .int .u32 b, .func (.func 49) #[.int .u32 p] #[]] w fun e w' => e = .returned (.agg (IC (67, rd, r1, r2, im, cs, sz))) ∧ Fr [] w w')) (h4 : Hid (∀ w, Calls Try.prog 35 #[.int .u32 p] w fun e w' => e = .returned (.agg (IC X)) ∧ Fr [] w w')) : Calls Try.prog 33 #[.int .u32 p] w fun e w' => e = .returned (.agg (IC X)) ∧ Fr [] w w' := by
  go_enter Try.func33, Try.ntmps33
  go_upto_region 1 with fail
  refine wp_region_list ?_
  refine wpList_buildTo rfl 73 _ rfl (some 5) rfl amoC (by kernel_rfl) ?_
  go_upto_region 2 with (refine wpList_store_whole rfl 73 _ _ rfl (w.heap.size + 1) rfl amoC rfl 73 _ (blk_new' (n := w.heap.size + 1) (by simp) _) (by kernel_rfl) (by kernel_rfl) (by kernel_rfl) ?_; intro w1 hw1 hfr1)
  refine world_atF (fun W => W.heap[w.heap.size]? = some (.cells (IC (0, 0, 0, 0, 0, 0, 0)) 25) ∧ W.heap[w.heap.size + 1]? = some (opsO [70, 69, 67, 68, 71, 0, 0, 0, 73, 0, 0, 0, 72, 0, 0, 0, 74, 0, 0, 0, 75, 0, 0, 0, 76, 0, 0, 0, 77] 73) ∧ Fr [] w W) ⟨hfr1.keeps (blk_alloc (blk_new _ _) _) (by simp), hw1, (((Fr.refl [] w).alloc _).alloc _).step hfr1 (fun j hj => .inr (by rw [List.mem_singleton.1 hj]; omega))⟩ ?_
  clear hw1 hfr1
  rintro W ⟨hZ, hL, hF⟩
  simp only [Act.put]
  have HZ := hid hZ
  have HL := hid hL
  have HF := hid hF
  clear hZ hL hF
  refine wp_region_alloc 8 7 (by kernel_rfl) (by kernel_rfl) rfl _ rfl rfl (.cells (IC (0, 0, 0, 0, 0, 0, 0)) 25) (fun ρ w => by kernel_rfl) (by kernel_rfl) ?aF ?h ?ht
  case h =>
    intro w1 hw1 hne
    have c1 : Hid (∀ n : Ext w1, Calls Try.prog 19 #[.int .u32 p, .int .i64 27, .int .i64 31] n.w fun e w'' => e = .returned (.int .u32 b) ∧ ∃ m : Ext w1, w'' = m.w) := fun n => Ext.call n ((h2.out _).mono fun _ _ ⟨h1, k, h2⟩ => ⟨h1, by subst h2; exact (Fr.refl _ _).drewN _⟩)
    have c2 : Hid (∀ n : Ext w1, Calls Try.prog 23 #[.int .u32 p, .slice (some ⟨w.heap.size + 1, 0, none⟩) 29 29, .int .u32 b, .func (.func 49) #[.int .u32 p] #[]] n.w fun e w'' => e = .returned (.agg (IC (67, rd, r1, r2, im, cs, sz))) ∧ ∃ m : Ext w1, w'' = m.w) := fun n => Ext.call n (h3.out _ _ (n.blk (hw1.keeps HL.out (by simp))))
    simp only [List.take_succ_cons, List.take_zero]
    repeat (go_big_quiet_step (first | (go_at_call 19; exact c1.out _) | (go_at_call 23; exact c2.out _)))
    refine wpQuiet_nil ?_
    rfl
  intro A W1 hF1 hA1 hAle
  simp only [List.drop_succ_cons, List.drop_zero, Act.put]
  go_upto_region 3 with (refine wpList_store_whole rfl 25 _ _ rfl A rfl (IC (67, rd, r1, r2, im, cs, sz)) rfl 25 _ hA1 rfl (sizeI' _) (IC_one _) ?_; intro w2 h2 hfr2)
  have hlt : w.heap.size < A := Nat.lt_of_lt_of_le (lt_block HZ.out) hAle
  have HZ2 := hid (hfr2.keeps (hF1.keeps HZ.out (by simp)) (fun h => by rw [List.mem_singleton.1 h] at hlt; omega))
  have HF2 := hid ((HF.out.trans hF1).step hfr2 (fun j hj => .inr (by rw [List.mem_singleton.1 hj]; omega)))
  have HLT := hid hlt
  have HX := hid h2
  have hfz := blk_free h2 0
  have x0 : w2.cell? ⟨A, 0, none⟩ = some (.int .u8 (67)) := by rw [blk_cell h2]; rfl
  have x1 : w2.cell? ⟨A, 1, none⟩ = some (.int .u8 (rd)) := by rw [blk_cell h2]; rfl
  have x2 : w2.cell? ⟨A, 2, none⟩ = some (.int .u8 (r1)) := by rw [blk_cell h2]; rfl
  have x3 : w2.cell? ⟨A, 3, none⟩ = some (.int .u8 (r2)) := by rw [blk_cell h2]; rfl
  have x4 : w2.cell? ⟨A, 4, none⟩ = some (.int .i64 (im)) := by rw [blk_cell h2]; rfl
  have x5 : w2.cell? ⟨A, 5, none⟩ = some (.int .u16 (cs)) := by rw [blk_cell h2]; rfl
  have x6 : w2.cell? ⟨A, 6, none⟩ = some (.int .u8 (sz)) := by rw [blk_cell h2]; rfl
  clear hlt h2 hfr2 HZ HL HF hF1 hA1 hAle
  go_wp2_with (first | (go_at_call 24; (with_reducible refine (h1.out _).mono ?_); rintro e w' ⟨rfl, nn, rfl⟩) | (go_at_call 35; (with_reducible refine (h4.out _).mono ?_); rintro e w1 ⟨rfl, hd⟩) | (refine wpList_store_whole rfl 25 _ _ rfl (w.heap.size) rfl (IC X) rfl 25 _ (hd.keeps (show (World.drewN _ _).heap[w.heap.size]? = _ from HZ2.out) (by simp)) rfl (sizeI' _) (IC_one _) ?_; intro w2 h2 hfr2))
  exact ⟨rfl, _, results_c rfl rfl h2 Try.underlying25 rfl (sizeI' _), rfl, (HF2.out.drewN _ |>.trans hd).step hfr2 (fun j hj => .inr (by rw [List.mem_singleton.1 hj]; omega))⟩
set_option maxRecDepth 100000 in
set_option maxHeartbeats 4000000 in
theorem amo_c2 (p b o r2 rd r1 im cs sz : Int) (w : World) (h1 : Hid (∀ w, Calls Try.prog 24 #[.int .u32 p] w fun e w' => e = .returned (.int .u32 2) ∧ ∃ n, w' = w.drewN n)) (h2 : Hid (∀ w, Calls Try.prog 19 #[.int .u32 p, .int .i64 27, .int .i64 31] w fun e w' => e = .returned (.int .u32 b) ∧ ∃ n, w' = w.drewN n)) (t1 : (o == 67) = false)
    (h3 : Hid (∀ g w, w.heap[g]? = some (opsO [70, 69, 67, 68, 71, 0, 0, 0, 73, 0, 0, 0, 72, 0, 0, 0, 74, 0, 0, 0, 75, 0, 0, 0, 76, 0, 0, 0, 77] 73) → Calls Try.prog 23 #[.int .u32 p, .slice (some ⟨g, 0, none⟩) 29 29, .int .u32 b, .func (.func 49) #[.int .u32 p] #[]] w fun e w' => e = .returned (.agg (IC (o, rd, r1, r2, im, cs, sz))) ∧ Fr [] w w')) : Calls Try.prog 33 #[.int .u32 p] w fun e w' => e = .returned (.agg (IC (o, rd, r1, r2, im, cs, sz))) ∧ Fr [] w w' := by
  go_enter Try.func33, Try.ntmps33
  go_upto_region 1 with fail
  refine wp_region_list ?_
  refine wpList_buildTo rfl 73 _ rfl (some 5) rfl amoC (by kernel_rfl) ?_
  go_upto_region 2 with (refine wpList_store_whole rfl 73 _ _ rfl (w.heap.size + 1) rfl amoC rfl 73 _ (blk_new' (n := w.heap.size + 1) (by simp) _) (by kernel_rfl) (by kernel_rfl) (by kernel_rfl) ?_; intro w1 hw1 hfr1)
  refine world_atF (fun W => W.heap[w.heap.size]? = some (.cells (IC (0, 0, 0, 0, 0, 0, 0)) 25) ∧ W.heap[w.heap.size + 1]? = some (opsO [70, 69, 67, 68, 71, 0, 0, 0, 73, 0, 0, 0, 72, 0, 0, 0, 74, 0, 0, 0, 75, 0, 0, 0, 76, 0, 0, 0, 77] 73) ∧ Fr [] w W) ⟨hfr1.keeps (blk_alloc (blk_new _ _) _) (by simp), hw1, (((Fr.refl [] w).alloc _).alloc _).step hfr1 (fun j hj => .inr (by rw [List.mem_singleton.1 hj]; omega))⟩ ?_
  clear hw1 hfr1
  rintro W ⟨hZ, hL, hF⟩
  simp only [Act.put]
  have HZ := hid hZ
  have HL := hid hL
  have HF := hid hF
  clear hZ hL hF
  refine wp_region_alloc 8 7 (by kernel_rfl) (by kernel_rfl) rfl _ rfl rfl (.cells (IC (0, 0, 0, 0, 0, 0, 0)) 25) (fun ρ w => by kernel_rfl) (by kernel_rfl) ?aF ?h ?ht
  case h =>
    intro w1 hw1 hne
    have c1 : Hid (∀ n : Ext w1, Calls Try.prog 19 #[.int .u32 p, .int .i64 27, .int .i64 31] n.w fun e w'' => e = .returned (.int .u32 b) ∧ ∃ m : Ext w1, w'' = m.w) := fun n => Ext.call n ((h2.out _).mono fun _ _ ⟨h1, k, h2⟩ => ⟨h1, by subst h2; exact (Fr.refl _ _).drewN _⟩)
    have c2 : Hid (∀ n : Ext w1, Calls Try.prog 23 #[.int .u32 p, .slice (some ⟨w.heap.size + 1, 0, none⟩) 29 29, .int .u32 b, .func (.func 49) #[.int .u32 p] #[]] n.w fun e w'' => e = .returned (.agg (IC (o, rd, r1, r2, im, cs, sz))) ∧ ∃ m : Ext w1, w'' = m.w) := fun n => Ext.call n (h3.out _ _ (n.blk (hw1.keeps HL.out (by simp))))
    simp only [List.take_succ_cons, List.take_zero]
    repeat (go_big_quiet_step (first | (go_at_call 19; exact c1.out _) | (go_at_call 23; exact c2.out _)))
    refine wpQuiet_nil ?_
    rfl
  intro A W1 hF1 hA1 hAle
  simp only [List.drop_succ_cons, List.drop_zero, Act.put]
  go_upto_region 3 with (refine wpList_store_whole rfl 25 _ _ rfl A rfl (IC (o, rd, r1, r2, im, cs, sz)) rfl 25 _ hA1 rfl (sizeI' _) (IC_one _) ?_; intro w2 h2 hfr2)
  have hlt : w.heap.size < A := Nat.lt_of_lt_of_le (lt_block HZ.out) hAle
  have HZ2 := hid (hfr2.keeps (hF1.keeps HZ.out (by simp)) (fun h => by rw [List.mem_singleton.1 h] at hlt; omega))
  have HF2 := hid ((HF.out.trans hF1).step hfr2 (fun j hj => .inr (by rw [List.mem_singleton.1 hj]; omega)))
  have HLT := hid hlt
  have HX := hid h2
  have hfz := blk_free h2 0
  have x0 : w2.cell? ⟨A, 0, none⟩ = some (.int .u8 (o)) := by rw [blk_cell h2]; rfl
  have x1 : w2.cell? ⟨A, 1, none⟩ = some (.int .u8 (rd)) := by rw [blk_cell h2]; rfl
  have x2 : w2.cell? ⟨A, 2, none⟩ = some (.int .u8 (r1)) := by rw [blk_cell h2]; rfl
  have x3 : w2.cell? ⟨A, 3, none⟩ = some (.int .u8 (r2)) := by rw [blk_cell h2]; rfl
  have x4 : w2.cell? ⟨A, 4, none⟩ = some (.int .i64 (im)) := by rw [blk_cell h2]; rfl
  have x5 : w2.cell? ⟨A, 5, none⟩ = some (.int .u16 (cs)) := by rw [blk_cell h2]; rfl
  have x6 : w2.cell? ⟨A, 6, none⟩ = some (.int .u8 (sz)) := by rw [blk_cell h2]; rfl
  clear hlt h2 hfr2 HZ HL HF hF1 hA1 hAle
  go_wp2_with (first | (go_at_call 24; (with_reducible refine (h1.out _).mono ?_); rintro e w' ⟨rfl, nn, rfl⟩) | (refine wpList_store_whole rfl 25 _ _ rfl (w.heap.size) rfl (IC (o, rd, r1, r2, im, cs, sz)) rfl 25 _ (show (World.drewN _ _).heap[w.heap.size]? = _ from HZ2.out) rfl (sizeI' _) (IC_one _) ?_; intro w2 h2 hfr2))
  exact ⟨rfl, _, results_c rfl rfl h2 Try.underlying25 rfl (sizeI' _), rfl, (HF2.out.drewN _).step hfr2 (fun j hj => .inr (by rw [List.mem_singleton.1 hj]; omega))⟩
set_option maxRecDepth 100000 in
set_option maxHeartbeats 4000000 in
theorem amo_c2z (p b  rd r1 im cs sz : Int) (w : World) (h1 : Hid (∀ w, Calls Try.prog 24 #[.int .u32 p] w fun e w' => e = .returned (.int .u32 2) ∧ ∃ n, w' = w.drewN n)) (h2 : Hid (∀ w, Calls Try.prog 19 #[.int .u32 p, .int .i64 27, .int .i64 31] w fun e w' => e = .returned (.int .u32 b) ∧ ∃ n, w' = w.drewN n)) 
    (h3 : Hid (∀ g w, w.heap[g]? = some (opsO [70, 69, 67, 68, 71, 0, 0, 0, 73, 0, 0, 0, 72, 0, 0, 0, 74, 0, 0, 0, 75, 0, 0, 0, 76, 0, 0, 0, 77] 73) → Calls Try.prog 23 #[.int .u32 p, .slice (some ⟨g, 0, none⟩) 29 29, .int .u32 b, .func (.func 49) #[.int .u32 p] #[]] w fun e w' => e = .returned (.agg (IC (67, rd, r1, 0, im, cs, sz))) ∧ Fr [] w w')) : Calls Try.prog 33 #[.int .u32 p] w fun e w' => e = .returned (.agg (IC (67, rd, r1, 0, im, cs, sz))) ∧ Fr [] w w' := by
  go_enter Try.func33, Try.ntmps33
  go_upto_region 1 with fail
  refine wp_region_list ?_
  refine wpList_buildTo rfl 73 _ rfl (some 5) rfl amoC (by kernel_rfl) ?_
  go_upto_region 2 with (refine wpList_store_whole rfl 73 _ _ rfl (w.heap.size + 1) rfl amoC rfl 73 _ (blk_new' (n := w.heap.size + 1) (by simp) _) (by kernel_rfl) (by kernel_rfl) (by kernel_rfl) ?_; intro w1 hw1 hfr1)
  refine world_atF (fun W => W.heap[w.heap.size]? = some (.cells (IC (0, 0, 0, 0, 0, 0, 0)) 25) ∧ W.heap[w.heap.size + 1]? = some (opsO [70, 69, 67, 68, 71, 0, 0, 0, 73, 0, 0, 0, 72, 0, 0, 0, 74, 0, 0, 0, 75, 0, 0, 0, 76, 0, 0, 0, 77] 73) ∧ Fr [] w W) ⟨hfr1.keeps (blk_alloc (blk_new _ _) _) (by simp), hw1, (((Fr.refl [] w).alloc _).alloc _).step hfr1 (fun j hj => .inr (by rw [List.mem_singleton.1 hj]; omega))⟩ ?_
  clear hw1 hfr1
  rintro W ⟨hZ, hL, hF⟩
  simp only [Act.put]
  have HZ := hid hZ
  have HL := hid hL
  have HF := hid hF
  clear hZ hL hF
  refine wp_region_alloc 8 7 (by kernel_rfl) (by kernel_rfl) rfl _ rfl rfl (.cells (IC (0, 0, 0, 0, 0, 0, 0)) 25) (fun ρ w => by kernel_rfl) (by kernel_rfl) ?aF ?h ?ht
  case h =>
    intro w1 hw1 hne
    have c1 : Hid (∀ n : Ext w1, Calls Try.prog 19 #[.int .u32 p, .int .i64 27, .int .i64 31] n.w fun e w'' => e = .returned (.int .u32 b) ∧ ∃ m : Ext w1, w'' = m.w) := fun n => Ext.call n ((h2.out _).mono fun _ _ ⟨h1, k, h2⟩ => ⟨h1, by subst h2; exact (Fr.refl _ _).drewN _⟩)
    have c2 : Hid (∀ n : Ext w1, Calls Try.prog 23 #[.int .u32 p, .slice (some ⟨w.heap.size + 1, 0, none⟩) 29 29, .int .u32 b, .func (.func 49) #[.int .u32 p] #[]] n.w fun e w'' => e = .returned (.agg (IC (67, rd, r1, 0, im, cs, sz))) ∧ ∃ m : Ext w1, w'' = m.w) := fun n => Ext.call n (h3.out _ _ (n.blk (hw1.keeps HL.out (by simp))))
    simp only [List.take_succ_cons, List.take_zero]
    repeat (go_big_quiet_step (first | (go_at_call 19; exact c1.out _) | (go_at_call 23; exact c2.out _)))
    refine wpQuiet_nil ?_
    rfl
  intro A W1 hF1 hA1 hAle
  simp only [List.drop_succ_cons, List.drop_zero, Act.put]
  go_upto_region 3 with (refine wpList_store_whole rfl 25 _ _ rfl A rfl (IC (67, rd, r1, 0, im, cs, sz)) rfl 25 _ hA1 rfl (sizeI' _) (IC_one _) ?_; intro w2 h2 hfr2)
  have hlt : w.heap.size < A := Nat.lt_of_lt_of_le (lt_block HZ.out) hAle
  have HZ2 := hid (hfr2.keeps (hF1.keeps HZ.out (by simp)) (fun h => by rw [List.mem_singleton.1 h] at hlt; omega))
  have HF2 := hid ((HF.out.trans hF1).step hfr2 (fun j hj => .inr (by rw [List.mem_singleton.1 hj]; omega)))
  have HLT := hid hlt
  have HX := hid h2
  have hfz := blk_free h2 0
  have x0 : w2.cell? ⟨A, 0, none⟩ = some (.int .u8 (67)) := by rw [blk_cell h2]; rfl
  have x1 : w2.cell? ⟨A, 1, none⟩ = some (.int .u8 (rd)) := by rw [blk_cell h2]; rfl
  have x2 : w2.cell? ⟨A, 2, none⟩ = some (.int .u8 (r1)) := by rw [blk_cell h2]; rfl
  have x3 : w2.cell? ⟨A, 3, none⟩ = some (.int .u8 (0)) := by rw [blk_cell h2]; rfl
  have x4 : w2.cell? ⟨A, 4, none⟩ = some (.int .i64 (im)) := by rw [blk_cell h2]; rfl
  have x5 : w2.cell? ⟨A, 5, none⟩ = some (.int .u16 (cs)) := by rw [blk_cell h2]; rfl
  have x6 : w2.cell? ⟨A, 6, none⟩ = some (.int .u8 (sz)) := by rw [blk_cell h2]; rfl
  clear hlt h2 hfr2 HZ HL HF hF1 hA1 hAle
  go_wp2_with (first | (go_at_call 24; (with_reducible refine (h1.out _).mono ?_); rintro e w' ⟨rfl, nn, rfl⟩) | (refine wpList_store_whole rfl 25 _ _ rfl (w.heap.size) rfl (IC (67, rd, r1, 0, im, cs, sz)) rfl 25 _ (show (World.drewN _ _).heap[w.heap.size]? = _ from HZ2.out) rfl (sizeI' _) (IC_one _) ?_; intro w2 h2 hfr2))
  exact ⟨rfl, _, results_c rfl rfl h2 Try.underlying25 rfl (sizeI' _), rfl, (HF2.out.drewN _).step hfr2 (fun j hj => .inr (by rw [List.mem_singleton.1 hj]; omega))⟩
set_option maxRecDepth 100000 in
set_option maxHeartbeats 4000000 in
theorem amo_d3 (p b r2 rd r1 im cs sz : Int) (w : World) (h1 : Hid (∀ w, Calls Try.prog 24 #[.int .u32 p] w fun e w' => e = .returned (.int .u32 3) ∧ ∃ n, w' = w.drewN n)) (h2 : Hid (∀ w, Calls Try.prog 19 #[.int .u32 p, .int .i64 27, .int .i64 31] w fun e w' => e = .returned (.int .u32 b) ∧ ∃ n, w' = w.drewN n)) 
    (h3 : Hid (∀ g w, w.heap[g]? = some (opsO [70, 69, 67, 68, 71, 0, 0, 0, 73, 0, 0, 0, 72, 0, 0, 0, 74, 0, 0, 0, 75, 0, 0, 0, 76, 0, 0, 0, 77] 73) → Calls Try.prog 23 #[.int .u32 p, .slice (some ⟨g, 0, none⟩) 29 29, .int .u32 b, .func (.func 49) #[.int .u32 p] #[]] w fun e w' => e = .returned (.agg (IC (0, rd, r1, r2, im, cs, sz))) ∧ Fr [] w w')) : Calls Try.prog 33 #[.int .u32 p] w fun e w' => e = .returned (.agg (IC (0, rd, r1, r2, im, cs, sz))) ∧ Fr [] w w' := by
  go_enter Try.func33, Try.ntmps33
  go_upto_region 1 with fail
  refine wp_region_list ?_
  refine wpList_buildTo rfl 73 _ rfl (some 5) rfl amoC (by kernel_rfl) ?_
  go_upto_region 2 with (refine wpList_store_whole rfl 73 _ _ rfl (w.heap.size + 1) rfl amoC rfl 73 _ (blk_new' (n := w.heap.size + 1) (by simp) _) (by kernel_rfl) (by kernel_rfl) (by kernel_rfl) ?_; intro w1 hw1 hfr1)
  refine world_atF (fun W => W.heap[w.heap.size]? = some (.cells (IC (0, 0, 0, 0, 0, 0, 0)) 25) ∧ W.heap[w.heap.size + 1]? = some (opsO [70, 69, 67, 68, 71, 0, 0, 0, 73, 0, 0, 0, 72, 0, 0, 0, 74, 0, 0, 0, 75, 0, 0, 0, 76, 0, 0, 0, 77] 73) ∧ Fr [] w W) ⟨hfr1.keeps (blk_alloc (blk_new _ _) _) (by simp), hw1, (((Fr.refl [] w).alloc _).alloc _).step hfr1 (fun j hj => .inr (by rw [List.mem_singleton.1 hj]; omega))⟩ ?_
  clear hw1 hfr1
  rintro W ⟨hZ, hL, hF⟩
  simp only [Act.put]
  have HZ := hid hZ
  have HL := hid hL
  have HF := hid hF
  clear hZ hL hF
  refine wp_region_alloc 8 7 (by kernel_rfl) (by kernel_rfl) rfl _ rfl rfl (.cells (IC (0, 0, 0, 0, 0, 0, 0)) 25) (fun ρ w => by kernel_rfl) (by kernel_rfl) ?aF ?h ?ht
  case h =>
    intro w1 hw1 hne
    have c1 : Hid (∀ n : Ext w1, Calls Try.prog 19 #[.int .u32 p, .int .i64 27, .int .i64 31] n.w fun e w'' => e = .returned (.int .u32 b) ∧ ∃ m : Ext w1, w'' = m.w) := fun n => Ext.call n ((h2.out _).mono fun _ _ ⟨h1, k, h2⟩ => ⟨h1, by subst h2; exact (Fr.refl _ _).drewN _⟩)
    have c2 : Hid (∀ n : Ext w1, Calls Try.prog 23 #[.int .u32 p, .slice (some ⟨w.heap.size + 1, 0, none⟩) 29 29, .int .u32 b, .func (.func 49) #[.int .u32 p] #[]] n.w fun e w'' => e = .returned (.agg (IC (0, rd, r1, r2, im, cs, sz))) ∧ ∃ m : Ext w1, w'' = m.w) := fun n => Ext.call n (h3.out _ _ (n.blk (hw1.keeps HL.out (by simp))))
    simp only [List.take_succ_cons, List.take_zero]
    repeat (go_big_quiet_step (first | (go_at_call 19; exact c1.out _) | (go_at_call 23; exact c2.out _)))
    refine wpQuiet_nil ?_
    rfl
  intro A W1 hF1 hA1 hAle
  simp only [List.drop_succ_cons, List.drop_zero, Act.put]
  go_upto_region 3 with (refine wpList_store_whole rfl 25 _ _ rfl A rfl (IC (0, rd, r1, r2, im, cs, sz)) rfl 25 _ hA1 rfl (sizeI' _) (IC_one _) ?_; intro w2 h2 hfr2)
  have hlt : w.heap.size < A := Nat.lt_of_lt_of_le (lt_block HZ.out) hAle
  have HZ2 := hid (hfr2.keeps (hF1.keeps HZ.out (by simp)) (fun h => by rw [List.mem_singleton.1 h] at hlt; omega))
  have HF2 := hid ((HF.out.trans hF1).step hfr2 (fun j hj => .inr (by rw [List.mem_singleton.1 hj]; omega)))
  have HLT := hid hlt
  have HX := hid h2
  have hfz := blk_free h2 0
  have x0 : w2.cell? ⟨A, 0, none⟩ = some (.int .u8 (0)) := by rw [blk_cell h2]; rfl
  have x1 : w2.cell? ⟨A, 1, none⟩ = some (.int .u8 (rd)) := by rw [blk_cell h2]; rfl
  have x2 : w2.cell? ⟨A, 2, none⟩ = some (.int .u8 (r1)) := by rw [blk_cell h2]; rfl
  have x3 : w2.cell? ⟨A, 3, none⟩ = some (.int .u8 (r2)) := by rw [blk_cell h2]; rfl
  have x4 : w2.cell? ⟨A, 4, none⟩ = some (.int .i64 (im)) := by rw [blk_cell h2]; rfl
  have x5 : w2.cell? ⟨A, 5, none⟩ = some (.int .u16 (cs)) := by rw [blk_cell h2]; rfl
  have x6 : w2.cell? ⟨A, 6, none⟩ = some (.int .u8 (sz)) := by rw [blk_cell h2]; rfl
  clear hlt h2 hfr2 HZ HL HF hF1 hA1 hAle
  go_wp2_with (first | (go_at_call 24; (with_reducible refine (h1.out _).mono ?_); rintro e w' ⟨rfl, nn, rfl⟩) | (refine wpList_store_whole rfl 25 _ _ rfl (w.heap.size) rfl (IC (0, rd, r1, r2, im, cs, sz)) rfl 25 _ (show (World.drewN _ _).heap[w.heap.size]? = _ from HZ2.out) rfl (sizeI' _) (IC_one _) ?_; intro w2 h2 hfr2))
  exact ⟨rfl, _, results_c rfl rfl h2 Try.underlying25 rfl (sizeI' _), rfl, (HF2.out.drewN _).step hfr2 (fun j hj => .inr (by rw [List.mem_singleton.1 hj]; omega))⟩
set_option maxRecDepth 100000 in
set_option maxHeartbeats 4000000 in
theorem amo_e3 (p b o r2 rd r1 im cs sz : Int) (w : World) (h1 : Hid (∀ w, Calls Try.prog 24 #[.int .u32 p] w fun e w' => e = .returned (.int .u32 3) ∧ ∃ n, w' = w.drewN n)) (h2 : Hid (∀ w, Calls Try.prog 19 #[.int .u32 p, .int .i64 27, .int .i64 31] w fun e w' => e = .returned (.int .u32 b) ∧ ∃ n, w' = w.drewN n)) (t1 : (o == 67) = false) (t2 : (o != 0) = true) (t3 : (o + 11) % 256 = o + 11)
    (h3 : Hid (∀ g w, w.heap[g]? = some (opsO [70, 69, 67, 68, 71, 0, 0, 0, 73, 0, 0, 0, 72, 0, 0, 0, 74, 0, 0, 0, 75, 0, 0, 0, 76, 0, 0, 0, 77] 73) → Calls Try.prog 23 #[.int .u32 p, .slice (some ⟨g, 0, none⟩) 29 29, .int .u32 b, .func (.func 49) #[.int .u32 p] #[]] w fun e w' => e = .returned (.agg (IC (o, rd, r1, r2, im, cs, sz))) ∧ Fr [] w w')) : Calls Try.prog 33 #[.int .u32 p] w fun e w' => e = .returned (.agg (IC (o + 11, rd, r1, r2, im, cs, sz))) ∧ Fr [] w w' := by
  go_enter Try.func33, Try.ntmps33
  go_upto_region 1 with fail
  refine wp_region_list ?_
  refine wpList_buildTo rfl 73 _ rfl (some 5) rfl amoC (by kernel_rfl) ?_
  go_upto_region 2 with (refine wpList_store_whole rfl 73 _ _ rfl (w.heap.size + 1) rfl amoC rfl 73 _ (blk_new' (n := w.heap.size + 1) (by simp) _) (by kernel_rfl) (by kernel_rfl) (by kernel_rfl) ?_; intro w1 hw1 hfr1)
  refine world_atF (fun W => W.heap[w.heap.size]? = some (.cells (IC (0, 0, 0, 0, 0, 0, 0)) 25) ∧ W.heap[w.heap.size + 1]? = some (opsO [70, 69, 67, 68, 71, 0, 0, 0, 73, 0, 0, 0, 72, 0, 0, 0, 74, 0, 0, 0, 75, 0, 0, 0, 76, 0, 0, 0, 77] 73) ∧ Fr [] w W) ⟨hfr1.keeps (blk_alloc (blk_new _ _) _) (by simp), hw1, (((Fr.refl [] w).alloc _).alloc _).step hfr1 (fun j hj => .inr (by rw [List.mem_singleton.1 hj]; omega))⟩ ?_
  clear hw1 hfr1
  rintro W ⟨hZ, hL, hF⟩
  simp only [Act.put]
  have HZ := hid hZ
  have HL := hid hL
  have HF := hid hF
  clear hZ hL hF
  refine wp_region_alloc 8 7 (by kernel_rfl) (by kernel_rfl) rfl _ rfl rfl (.cells (IC (0, 0, 0, 0, 0, 0, 0)) 25) (fun ρ w => by kernel_rfl) (by kernel_rfl) ?aF ?h ?ht
  case h =>
    intro w1 hw1 hne
    have c1 : Hid (∀ n : Ext w1, Calls Try.prog 19 #[.int .u32 p, .int .i64 27, .int .i64 31] n.w fun e w'' => e = .returned (.int .u32 b) ∧ ∃ m : Ext w1, w'' = m.w) := fun n => Ext.call n ((h2.out _).mono fun _ _ ⟨h1, k, h2⟩ => ⟨h1, by subst h2; exact (Fr.refl _ _).drewN _⟩)
    have c2 : Hid (∀ n : Ext w1, Calls Try.prog 23 #[.int .u32 p, .slice (some ⟨w.heap.size + 1, 0, none⟩) 29 29, .int .u32 b, .func (.func 49) #[.int .u32 p] #[]] n.w fun e w'' => e = .returned (.agg (IC (o, rd, r1, r2, im, cs, sz))) ∧ ∃ m : Ext w1, w'' = m.w) := fun n => Ext.call n (h3.out _ _ (n.blk (hw1.keeps HL.out (by simp))))
    simp only [List.take_succ_cons, List.take_zero]
    repeat (go_big_quiet_step (first | (go_at_call 19; exact c1.out _) | (go_at_call 23; exact c2.out _)))
    refine wpQuiet_nil ?_
    rfl
  intro A W1 hF1 hA1 hAle
  simp only [List.drop_succ_cons, List.drop_zero, Act.put]
  go_upto_region 3 with (refine wpList_store_whole rfl 25 _ _ rfl A rfl (IC (o, rd, r1, r2, im, cs, sz)) rfl 25 _ hA1 rfl (sizeI' _) (IC_one _) ?_; intro w2 h2 hfr2)
  have hlt : w.heap.size < A := Nat.lt_of_lt_of_le (lt_block HZ.out) hAle
  have HZ2 := hid (hfr2.keeps (hF1.keeps HZ.out (by simp)) (fun h => by rw [List.mem_singleton.1 h] at hlt; omega))
  have HF2 := hid ((HF.out.trans hF1).step hfr2 (fun j hj => .inr (by rw [List.mem_singleton.1 hj]; omega)))
  have HLT := hid hlt
  have HX := hid h2
  have hfz := blk_free h2 0
  have x0 : w2.cell? ⟨A, 0, none⟩ = some (.int .u8 (o)) := by rw [blk_cell h2]; rfl
  have x1 : w2.cell? ⟨A, 1, none⟩ = some (.int .u8 (rd)) := by rw [blk_cell h2]; rfl
  have x2 : w2.cell? ⟨A, 2, none⟩ = some (.int .u8 (r1)) := by rw [blk_cell h2]; rfl
  have x3 : w2.cell? ⟨A, 3, none⟩ = some (.int .u8 (r2)) := by rw [blk_cell h2]; rfl
  have x4 : w2.cell? ⟨A, 4, none⟩ = some (.int .i64 (im)) := by rw [blk_cell h2]; rfl
  have x5 : w2.cell? ⟨A, 5, none⟩ = some (.int .u16 (cs)) := by rw [blk_cell h2]; rfl
  have x6 : w2.cell? ⟨A, 6, none⟩ = some (.int .u8 (sz)) := by rw [blk_cell h2]; rfl
  clear hlt h2 hfr2 HZ HL HF hF1 hA1 hAle
  go_upto_region 7 with (go_at_call 24; (with_reducible refine (h1.out _).mono ?_); rintro e w' ⟨rfl, nn, rfl⟩)
  refine world_atF (fun W => W.heap[w.heap.size]? = some (.cells (IC (0, 0, 0, 0, 0, 0, 0)) 25) ∧ W.heap[A]? = some (.cells (IC (o + 11, rd, r1, r2, im, cs, sz)) 25) ∧ Fr [] w W) ⟨?_, ?_, ?_⟩ ?_
  · rw [blk_set_other _ (by have := HLT.out; simp; omega)]; exact HZ2.out
  · exact blk_set (show (World.drewN _ _).heap[A]? = _ from HX.out) 0 _
  · exact (HF2.out.drewN _).setCell (.inr (by have := HLT.out; simp; omega)) _
  clear x0 x1 x2 x3 x4 x5 x6 hfz HZ2 HF2 HX
  rintro W3 ⟨hZ3, hX3, hF3⟩
  have x0 : W3.cell? ⟨A, 0, none⟩ = some (.int .u8 (o + 11)) := by rw [blk_cell hX3]; rfl
  have x1 : W3.cell? ⟨A, 1, none⟩ = some (.int .u8 (rd)) := by rw [blk_cell hX3]; rfl
  have x2 : W3.cell? ⟨A, 2, none⟩ = some (.int .u8 (r1)) := by rw [blk_cell hX3]; rfl
  have x3 : W3.cell? ⟨A, 3, none⟩ = some (.int .u8 (r2)) := by rw [blk_cell hX3]; rfl
  have x4 : W3.cell? ⟨A, 4, none⟩ = some (.int .i64 (im)) := by rw [blk_cell hX3]; rfl
  have x5 : W3.cell? ⟨A, 5, none⟩ = some (.int .u16 (cs)) := by rw [blk_cell hX3]; rfl
  have x6 : W3.cell? ⟨A, 6, none⟩ = some (.int .u8 (sz)) := by rw [blk_cell hX3]; rfl
  have HZ3 := hid hZ3
  have HF3 := hid hF3
  clear hZ3 hX3 hF3
  go_wp2_with (first | (refine wpList_store_whole rfl 25 _ _ rfl (w.heap.size) rfl (IC (o + 11, rd, r1, r2, im, cs, sz)) rfl 25 _ HZ3.out rfl (sizeI' _) (IC_one _) ?_; intro w2 h2 hfr2))
  exact ⟨rfl, _, results_c rfl rfl h2 Try.underlying25 rfl (sizeI' _), rfl, HF3.out.step hfr2 (fun j hj => .inr (by rw [List.mem_singleton.1 hj]; omega))⟩
set_option maxRecDepth 100000 in
set_option maxHeartbeats 4000000 in
theorem amo_e3z (p b  rd r1 im cs sz : Int) (w : World) (h1 : Hid (∀ w, Calls Try.prog 24 #[.int .u32 p] w fun e w' => e = .returned (.int .u32 3) ∧ ∃ n, w' = w.drewN n)) (h2 : Hid (∀ w, Calls Try.prog 19 #[.int .u32 p, .int .i64 27, .int .i64 31] w fun e w' => e = .returned (.int .u32 b) ∧ ∃ n, w' = w.drewN n)) 
    (h3 : Hid (∀ g w, w.heap[g]? = some (opsO [70, 69, 67, 68, 71, 0, 0, 0, 73, 0, 0, 0, 72, 0, 0, 0, 74, 0, 0, 0, 75, 0, 0, 0, 76, 0, 0, 0, 77] 73) → Calls Try.prog 23 #[.int .u32 p, .slice (some ⟨g, 0, none⟩) 29 29, .int .u32 b, .func (.func 49) #[.int .u32 p] #[]] w fun e w' => e = .returned (.agg (IC (67, rd, r1, 0, im, cs, sz))) ∧ Fr [] w w')) : Calls Try.prog 33 #[.int .u32 p] w fun e w' => e = .returned (.agg (IC (67 + 11, rd, r1, 0, im, cs, sz))) ∧ Fr [] w w' := by
  go_enter Try.func33, Try.ntmps33
  go_upto_region 1 with fail
  refine wp_region_list ?_
  refine wpList_buildTo rfl 73 _ rfl (some 5) rfl amoC (by kernel_rfl) ?_
  go_upto_region 2 with (refine wpList_store_whole rfl 73 _ _ rfl (w.heap.size + 1) rfl amoC rfl 73 _ (blk_new' (n := w.heap.size + 1) (by simp) _) (by kernel_rfl) (by kernel_rfl) (by kernel_rfl) ?_; intro w1 hw1 hfr1)
  refine world_atF (fun W => W.heap[w.heap.size]? = some (.cells (IC (0, 0, 0, 0, 0, 0, 0)) 25) ∧ W.heap[w.heap.size + 1]? = some (opsO [70, 69, 67, 68, 71, 0, 0, 0, 73, 0, 0, 0, 72, 0, 0, 0, 74, 0, 0, 0, 75, 0, 0, 0, 76, 0, 0, 0, 77] 73) ∧ Fr [] w W) ⟨hfr1.keeps (blk_alloc (blk_new _ _) _) (by simp), hw1, (((Fr.refl [] w).alloc _).alloc _).step hfr1 (fun j hj => .inr (by rw [List.mem_singleton.1 hj]; omega))⟩ ?_
  clear hw1 hfr1
  rintro W ⟨hZ, hL, hF⟩
  simp only [Act.put]
  have HZ := hid hZ
  have HL := hid hL
  have HF := hid hF
  clear hZ hL hF
  refine wp_region_alloc 8 7 (by kernel_rfl) (by kernel_rfl) rfl _ rfl rfl (.cells (IC (0, 0, 0, 0, 0, 0, 0)) 25) (fun ρ w => by kernel_rfl) (by kernel_rfl) ?aF ?h ?ht
  case h =>
    intro w1 hw1 hne
    have c1 : Hid (∀ n : Ext w1, Calls Try.prog 19 #[.int .u32 p, .int .i64 27, .int .i64 31] n.w fun e w'' => e = .returned (.int .u32 b) ∧ ∃ m : Ext w1, w'' = m.w) := fun n => Ext.call n ((h2.out _).mono fun _ _ ⟨h1, k, h2⟩ => ⟨h1, by subst h2; exact (Fr.refl _ _).drewN _⟩)
    have c2 : Hid (∀ n : Ext w1, Calls Try.prog 23 #[.int .u32 p, .slice (some ⟨w.heap.size + 1, 0, none⟩) 29 29, .int .u32 b, .func (.func 49) #[.int .u32 p] #[]] n.w fun e w'' => e = .returned (.agg (IC (67, rd, r1, 0, im, cs, sz))) ∧ ∃ m : Ext w1, w'' = m.w) := fun n => Ext.call n (h3.out _ _ (n.blk (hw1.keeps HL.out (by simp))))
    simp only [List.take_succ_cons, List.take_zero]
    repeat (go_big_quiet_step (first | (go_at_call 19; exact c1.out _) | (go_at_call 23; exact c2.out _)))
    refine wpQuiet_nil ?_
    rfl
  intro A W1 hF1 hA1 hAle
  simp only [List.drop_succ_cons, List.drop_zero, Act.put]
  go_upto_region 3 with (refine wpList_store_whole rfl 25 _ _ rfl A rfl (IC (67, rd, r1, 0, im, cs, sz)) rfl 25 _ hA1 rfl (sizeI' _) (IC_one _) ?_; intro w2 h2 hfr2)
  have hlt : w.heap.size < A := Nat.lt_of_lt_of_le (lt_block HZ.out) hAle
  have HZ2 := hid (hfr2.keeps (hF1.keeps HZ.out (by simp)) (fun h => by rw [List.mem_singleton.1 h] at hlt; omega))
  have HF2 := hid ((HF.out.trans hF1).step hfr2 (fun j hj => .inr (by rw [List.mem_singleton.1 hj]; omega)))
  have HLT := hid hlt
  have HX := hid h2
  have hfz := blk_free h2 0
  have x0 : w2.cell? ⟨A, 0, none⟩ = some (.int .u8 (67)) := by rw [blk_cell h2]; rfl
  have x1 : w2.cell? ⟨A, 1, none⟩ = some (.int .u8 (rd)) := by rw [blk_cell h2]; rfl
  have x2 : w2.cell? ⟨A, 2, none⟩ = some (.int .u8 (r1)) := by rw [blk_cell h2]; rfl
  have x3 : w2.cell? ⟨A, 3, none⟩ = some (.int .u8 (0)) := by rw [blk_cell h2]; rfl
  have x4 : w2.cell? ⟨A, 4, none⟩ = some (.int .i64 (im)) := by rw [blk_cell h2]; rfl
  have x5 : w2.cell? ⟨A, 5, none⟩ = some (.int .u16 (cs)) := by rw [blk_cell h2]; rfl
  have x6 : w2.cell? ⟨A, 6, none⟩ = some (.int .u8 (sz)) := by rw [blk_cell h2]; rfl
  clear hlt h2 hfr2 HZ HL HF hF1 hA1 hAle
  go_upto_region 7 with (go_at_call 24; (with_reducible refine (h1.out _).mono ?_); rintro e w' ⟨rfl, nn, rfl⟩)
  refine world_atF (fun W => W.heap[w.heap.size]? = some (.cells (IC (0, 0, 0, 0, 0, 0, 0)) 25) ∧ W.heap[A]? = some (.cells (IC (67 + 11, rd, r1, 0, im, cs, sz)) 25) ∧ Fr [] w W) ⟨?_, ?_, ?_⟩ ?_
  · rw [blk_set_other _ (by have := HLT.out; simp; omega)]; exact HZ2.out
  · exact blk_set (show (World.drewN _ _).heap[A]? = _ from HX.out) 0 _
  · exact (HF2.out.drewN _).setCell (.inr (by have := HLT.out; simp; omega)) _
  clear x0 x1 x2 x3 x4 x5 x6 hfz HZ2 HF2 HX
  rintro W3 ⟨hZ3, hX3, hF3⟩
  have x0 : W3.cell? ⟨A, 0, none⟩ = some (.int .u8 (67 + 11)) := by rw [blk_cell hX3]; rfl
  have x1 : W3.cell? ⟨A, 1, none⟩ = some (.int .u8 (rd)) := by rw [blk_cell hX3]; rfl
  have x2 : W3.cell? ⟨A, 2, none⟩ = some (.int .u8 (r1)) := by rw [blk_cell hX3]; rfl
  have x3 : W3.cell? ⟨A, 3, none⟩ = some (.int .u8 (0)) := by rw [blk_cell hX3]; rfl
  have x4 : W3.cell? ⟨A, 4, none⟩ = some (.int .i64 (im)) := by rw [blk_cell hX3]; rfl
  have x5 : W3.cell? ⟨A, 5, none⟩ = some (.int .u16 (cs)) := by rw [blk_cell hX3]; rfl
  have x6 : W3.cell? ⟨A, 6, none⟩ = some (.int .u8 (sz)) := by rw [blk_cell hX3]; rfl
  have HZ3 := hid hZ3
  have HF3 := hid hF3
  clear hZ3 hX3 hF3
  go_wp2_with (first | (refine wpList_store_whole rfl 25 _ _ rfl (w.heap.size) rfl (IC (67 + 11, rd, r1, 0, im, cs, sz)) rfl 25 _ HZ3.out rfl (sizeI' _) (IC_one _) ?_; intro w2 h2 hfr2))
  exact ⟨rfl, _, results_c rfl rfl h2 Try.underlying25 rfl (sizeI' _), rfl, HF3.out.step hfr2 (fun j hj => .inr (by rw [List.mem_singleton.1 hj]; omega))⟩
/-- atomics -/
def amoT (p : Int) : T7 :=
  let x := pickT [70, 69, 67, 68, 71, 0, 0, 0, 73, 0, 0, 0, 72, 0, 0, 0, 74, 0, 0, 0, 75, 0, 0, 0, 76, 0, 0, 0, 77] (p / 134217728 % 32) (fun op => fillT p op 0) p
  if p / 4096 % 8 = 2 ∨ p / 4096 % 8 = 3 then (if x.1 = 67 ∧ x.2.2.2.1 ≠ 0 then ill p else if p / 4096 % 8 = 3 ∧ x.1 ≠ 0 then (x.1 + 11, x.2) else x) else ill p
theorem amo_ops : ∀ op ∈ [70, 69, 67, 68, 71, 0, 0, 0, 73, 0, 0, 0, 72, 0, 0, 0, 74, 0, 0, 0, 75, 0, 0, 0, 76, 0, 0, 0, 77], (0 : Int) ≤ op ∧ op ≤ 77 := by decide
theorem amo_x (p : Int) : 0 ≤ (pickT [70, 69, 67, 68, 71, 0, 0, 0, 73, 0, 0, 0, 72, 0, 0, 0, 74, 0, 0, 0, 75, 0, 0, 0, 76, 0, 0, 0, 77] (p / 134217728 % 32) (fun op => fillT p op 0) p).1 ∧ (pickT [70, 69, 67, 68, 71, 0, 0, 0, 73, 0, 0, 0, 72, 0, 0, 0, 74, 0, 0, 0, 75, 0, 0, 0, 76, 0, 0, 0, 77] (p / 134217728 % 32) (fun op => fillT p op 0) p).1 ≤ 77 := by
  unfold pickT
  split
  · rename_i op hop
    have := amo_ops op (List.mem_of_getElem? hop)
    split
    · exact ⟨Int.le_refl _, show (0 : Int) ≤ 77 by decide⟩
    · exact this
  · exact ⟨Int.le_refl _, show (0 : Int) ≤ 77 by decide⟩
theorem amo_any {p : Int} (hp : P32 p) (w : World) : Calls Try.prog 33 #[.int .u32 p] w fun e w' => e = .returned (.agg (IC (amoT p))) ∧ Fr [] w w' := by
  have h1 := fun w => c_f3 hp w
  have h2 := fun w => c_bits_27_31 hp w
  have h3 := fun (g : Nat) (w : World) (hb : w.heap[g]? = some (opsO [70, 69, 67, 68, 71, 0, 0, 0, 73, 0, 0, 0, 72, 0, 0, 0, 74, 0, 0, 0, 75, 0, 0, 0, 76, 0, 0, 0, 77] 73)) => picks_r29 hp (p / 134217728 % 32) (by omega) g [70, 69, 67, 68, 71, 0, 0, 0, 73, 0, 0, 0, 72, 0, 0, 0, 74, 0, 0, 0, 75, 0, 0, 0, 76, 0, 0, 0, 77] rfl 73 w hb
  have hx := amo_x p
  unfold amoT
  generalize pickT [70, 69, 67, 68, 71, 0, 0, 0, 73, 0, 0, 0, 72, 0, 0, 0, 74, 0, 0, 0, 75, 0, 0, 0, 76, 0, 0, 0, 77] (p / 134217728 % 32) (fun op => fillT p op 0) p = x at *
  obtain ⟨o, rd, r1, r2, im, cs, sz⟩ := x
  simp only at hx ⊢
  generalize p / 4096 % 8 = a at *
  generalize p / 134217728 % 32 = b at *
  by_cases ha : a = 2 ∨ a = 3
  · rw [if_pos ha]
    by_cases hl : o = 67 ∧ r2 ≠ 0
    · rw [if_pos hl]
      obtain ⟨rfl, hr⟩ := hl
      rcases ha with rfl | rfl
      · exact amo_b2 p b r2 rd r1 im cs sz _ w (hid h1) (hid h2) (by simpa using hr) (hid h3) (hid fun w => c_ill hp w)
      · exact amo_b3 p b r2 rd r1 im cs sz _ w (hid h1) (hid h2) (by simpa using hr) (hid h3) (hid fun w => c_ill hp w)
    · rw [if_neg hl]
      rcases ha with rfl | rfl
      · rw [if_neg (by omega)]
        by_cases ho : o = 67
        · subst ho
          obtain rfl : r2 = 0 := Decidable.byContradiction fun h => hl ⟨rfl, h⟩
          exact amo_c2z p b rd r1 im cs sz w (hid h1) (hid h2) (hid h3)
        · exact amo_c2 p b o r2 rd r1 im cs sz w (hid h1) (hid h2) (by simpa using ho) (hid h3)
      · by_cases h0 : o = 0
        · subst h0
          rw [if_neg (by omega)]
          exact amo_d3 p b r2 rd r1 im cs sz w (hid h1) (hid h2) (hid h3)
        · rw [if_pos ⟨rfl, h0⟩]
          by_cases ho : o = 67
          · subst ho
            obtain rfl : r2 = 0 := Decidable.byContradiction fun h => hl ⟨rfl, h⟩
            exact amo_e3z p b rd r1 im cs sz w (hid h1) (hid h2) (hid h3)
          · exact amo_e3 p b o r2 rd r1 im cs sz w (hid h1) (hid h2) (by simpa using ho) (by simpa using h0) (by omega) (hid h3)
  · rw [if_neg ha]
    exact amo_a p b a o r2 rd r1 im cs sz _ w (hid h1) (hid h2) (by simp; omega) (by simp; omega) (hid h3) (hid fun w => c_ill hp w)
end Go.Proofs.Ytogdifjdlkpehaa.PA
