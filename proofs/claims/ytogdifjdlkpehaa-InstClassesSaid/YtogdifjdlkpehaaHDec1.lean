/- Contracts of imm, by7, reg, regW. -/
import Derived.Test.YtogdifjdlkpehaaHDec0
import Derived.Test.YtogdifjdlkpehaaK3
import Derived.Deep.Cut
import Derived.BigGuard
namespace Go.Proofs.Ytogdifjdlkpehaa.PA
open Go.RowKit Go.Proofs.YtogdifjdlkpehaaW.PrintWords Go.Proofs.YtogdifjdlkpehaaW.PrintLast Go.Proofs.YtogdifjdlkpehaaW.PrintMore
set_option linter.all false
set_option maxRecDepth 100000 in
set_option maxHeartbeats 4000000 in
theorem imm_a (p : Int) (X : T7) (w : World) (h1 : Hid (∀ w, Calls Try.prog 24 #[.int .u32 p] w fun e w' => e = .returned (.int .u32 1) ∧ ∃ n, w' = w.drewN n)) (h2 : Hid (∀ w, Calls Try.prog 45 #[.int .u32 p] w fun e w' => e = .returned (.int .u32 0) ∧ ∃ n, w' = w.drewN n))
    (h3 : Hid (∀ w, Calls Try.prog 46 #[.int .u32 p, .int .u8 28, .int .i64 25] w fun e w' => e = .returned (.agg (IC X)) ∧ Fr [] w w')) : Calls Try.prog 28 #[.int .u32 p] w fun e w' => e = .returned (.agg (IC X)) ∧ Fr [] w w' := by
  go_enter Try.func28, Try.ntmps28
  go_wp2_with (first | (go_at_call 24; (with_reducible refine (h1.out _).mono ?_); rintro e w' ⟨rfl, nn, rfl⟩) | (go_at_call 45; (with_reducible refine (h2.out _).mono ?_); rintro e w' ⟨rfl, nn, rfl⟩) | (go_at_call 46; (with_reducible refine (h3.out _).mono ?_); rintro e w1 ⟨rfl, hd⟩) | (refine wpList_store_whole rfl 25 _ _ rfl (w.heap.size) rfl (IC X) rfl 25 _ (hd.keeps (blk_alloc (blk_new _ _) _) (by simp)) rfl (sizeI' _) (IC_one _) ?_; intro w2 h2 hfr2))
  exact ⟨rfl, _, results_c rfl rfl h2 Try.underlying25 rfl (sizeI' _), rfl, ((((Fr.refl [] w).alloc _).alloc _).drewN _ |>.trans hd).step hfr2 (fun j hj => .inr (by rw [List.mem_singleton.1 hj]; omega))⟩
set_option maxRecDepth 100000 in
set_option maxHeartbeats 4000000 in
theorem imm_b (p : Int) (X : T7) (w : World) (h1 : Hid (∀ w, Calls Try.prog 24 #[.int .u32 p] w fun e w' => e = .returned (.int .u32 5) ∧ ∃ n, w' = w.drewN n)) (h2 : Hid (∀ w, Calls Try.prog 45 #[.int .u32 p] w fun e w' => e = .returned (.int .u32 0) ∧ ∃ n, w' = w.drewN n))
    (h3 : Hid (∀ w, Calls Try.prog 46 #[.int .u32 p, .int .u8 29, .int .i64 25] w fun e w' => e = .returned (.agg (IC X)) ∧ Fr [] w w')) : Calls Try.prog 28 #[.int .u32 p] w fun e w' => e = .returned (.agg (IC X)) ∧ Fr [] w w' := by
  go_enter Try.func28, Try.ntmps28
  go_wp2_with (first | (go_at_call 24; (with_reducible refine (h1.out _).mono ?_); rintro e w' ⟨rfl, nn, rfl⟩) | (go_at_call 45; (with_reducible refine (h2.out _).mono ?_); rintro e w' ⟨rfl, nn, rfl⟩) | (go_at_call 46; (with_reducible refine (h3.out _).mono ?_); rintro e w1 ⟨rfl, hd⟩) | (refine wpList_store_whole rfl 25 _ _ rfl (w.heap.size) rfl (IC X) rfl 25 _ (hd.keeps (blk_alloc (blk_new _ _) _) (by simp)) rfl (sizeI' _) (IC_one _) ?_; intro w2 h2 hfr2))
  exact ⟨rfl, _, results_c rfl rfl h2 Try.underlying25 rfl (sizeI' _), rfl, ((((Fr.refl [] w).alloc _).alloc _).drewN _ |>.trans hd).step hfr2 (fun j hj => .inr (by rw [List.mem_singleton.1 hj]; omega))⟩
set_option maxRecDepth 100000 in
set_option maxHeartbeats 4000000 in
theorem imm_c (p : Int) (X : T7) (w : World) (h1 : Hid (∀ w, Calls Try.prog 24 #[.int .u32 p] w fun e w' => e = .returned (.int .u32 5) ∧ ∃ n, w' = w.drewN n)) (h2 : Hid (∀ w, Calls Try.prog 45 #[.int .u32 p] w fun e w' => e = .returned (.int .u32 16) ∧ ∃ n, w' = w.drewN n))
    (h3 : Hid (∀ w, Calls Try.prog 46 #[.int .u32 p, .int .u8 30, .int .i64 25] w fun e w' => e = .returned (.agg (IC X)) ∧ Fr [] w w')) : Calls Try.prog 28 #[.int .u32 p] w fun e w' => e = .returned (.agg (IC X)) ∧ Fr [] w w' := by
  go_enter Try.func28, Try.ntmps28
  go_wp2_with (first | (go_at_call 24; (with_reducible refine (h1.out _).mono ?_); rintro e w' ⟨rfl, nn, rfl⟩) | (go_at_call 45; (with_reducible refine (h2.out _).mono ?_); rintro e w' ⟨rfl, nn, rfl⟩) | (go_at_call 46; (with_reducible refine (h3.out _).mono ?_); rintro e w1 ⟨rfl, hd⟩) | (refine wpList_store_whole rfl 25 _ _ rfl (w.heap.size) rfl (IC X) rfl 25 _ (hd.keeps (blk_alloc (blk_new _ _) _) (by simp)) rfl (sizeI' _) (IC_one _) ?_; intro w2 h2 hfr2))
  exact ⟨rfl, _, results_c rfl rfl h2 Try.underlying25 rfl (sizeI' _), rfl, ((((Fr.refl [] w).alloc _).alloc _).drewN _ |>.trans hd).step hfr2 (fun j hj => .inr (by rw [List.mem_singleton.1 hj]; omega))⟩
set_option maxRecDepth 100000 in
set_option maxHeartbeats 4000000 in
theorem imm_d (p a b : Int) (X : T7) (w : World) (h1 : Hid (∀ w, Calls Try.prog 24 #[.int .u32 p] w fun e w' => e = .returned (.int .u32 1) ∧ ∃ n, w' = w.drewN n)) (h2 : Hid (∀ w, Calls Try.prog 45 #[.int .u32 p] w fun e w' => e = .returned (.int .u32 b) ∧ ∃ n, w' = w.drewN n)) (t1 : (b == 0) = false)
    (h3 : Hid (∀ g w, w.heap[g]? = some (opsO [22, 0, 23, 24, 25, 0, 26, 27] 42) → Calls Try.prog 23 #[.int .u32 p, .slice (some ⟨g, 0, none⟩) 8 8, .int .u32 1, .func (.func 25) #[.int .u32 p] #[]] w fun e w' => e = .returned (.agg (IC X)) ∧ Fr [] w w')) : Calls Try.prog 28 #[.int .u32 p] w fun e w' => e = .returned (.agg (IC X)) ∧ Fr [] w w' := by
  go_enter Try.func28, Try.ntmps28
  go_upto_region 8 with (first | (go_at_call 24; (with_reducible refine (h1.out _).mono ?_); rintro e w' ⟨rfl, nn, rfl⟩) | (go_at_call 45; (with_reducible refine (h2.out _).mono ?_); rintro e w' ⟨rfl, nn, rfl⟩))
  refine world_atF (fun W => W.heap[w.heap.size]? = some (.cells (IC (0, 0, 0, 0, 0, 0, 0)) 25) ∧ W.heap[w.heap.size + 1]? = some (opsO [22, 0, 23, 24, 25, 0, 26, 27] 42) ∧ Fr [] w W) ⟨blk_alloc (blk_new _ _) _, blk_new' (n := w.heap.size + 1) (by simp) _, (((Fr.refl [] w).alloc _).alloc _).drewN _⟩ ?_
  rintro W ⟨hZ, hL, hF⟩
  have HZ := hid hZ
  have HL := hid hL
  have HF := hid hF
  clear hZ hL hF
  have c1 : Hid (∀ n : Ext W, Calls Try.prog 24 #[.int .u32 p] n.w fun e w'' => e = .returned (.int .u32 1) ∧ ∃ m : Ext W, w'' = m.w) := fun n => Ext.call n ((h1.out _).mono fun _ _ ⟨h1, k, h2⟩ => ⟨h1, by subst h2; exact (Fr.refl _ _).drewN _⟩)
  have c2 : Hid (∀ n : Ext W, Calls Try.prog 23 #[.int .u32 p, .slice (some ⟨w.heap.size + 1, 0, none⟩) 8 8, .int .u32 1, .func (.func 25) #[.int .u32 p] #[]] n.w fun e w'' => e = .returned (.agg (IC X)) ∧ ∃ m : Ext W, w'' = m.w) := fun n => Ext.call n (h3.out _ _ (n.blk HL.out))
  clear h1 h2 h3
  have hne := ext_ne W
  refine wp_region_ext_tail 7 (by kernel_rfl) (by kernel_rfl) ?_
  simp only [List.take_succ_cons, List.take_zero, List.drop_succ_cons, List.drop_zero]
  repeat (go_big_quiet_step (first | (go_at_call 24; exact c1.out _) | (go_at_call 23; exact c2.out _)))
  refine wpQuiet_nil ?_
  intro w' hw'
  obtain ⟨m1, rfl⟩ := hw'
  have hZ1 := m1.blk HZ.out
  go_wp2_with (refine wpList_store_whole rfl 25 _ _ rfl (w.heap.size) rfl (IC X) rfl 25 _ hZ1 rfl (sizeI' _) (IC_one _) ?_; intro w2 h2 hfr2)
  exact ⟨rfl, _, results_c rfl rfl h2 Try.underlying25 rfl (sizeI' _), rfl, (HF.out.trans m1.fr).step hfr2 (fun j hj => .inr (by rw [List.mem_singleton.1 hj]; omega))⟩
set_option maxRecDepth 100000 in
set_option maxHeartbeats 4000000 in
theorem imm_e (p a b : Int) (X : T7) (w : World) (h1 : Hid (∀ w, Calls Try.prog 24 #[.int .u32 p] w fun e w' => e = .returned (.int .u32 5) ∧ ∃ n, w' = w.drewN n)) (h2 : Hid (∀ w, Calls Try.prog 45 #[.int .u32 p] w fun e w' => e = .returned (.int .u32 b) ∧ ∃ n, w' = w.drewN n)) (t1 : (b == 0) = false) (t2 : (b == 16) = false)
    (h3 : Hid (∀ g w, w.heap[g]? = some (opsO [22, 0, 23, 24, 25, 0, 26, 27] 42) → Calls Try.prog 23 #[.int .u32 p, .slice (some ⟨g, 0, none⟩) 8 8, .int .u32 5, .func (.func 25) #[.int .u32 p] #[]] w fun e w' => e = .returned (.agg (IC X)) ∧ Fr [] w w')) : Calls Try.prog 28 #[.int .u32 p] w fun e w' => e = .returned (.agg (IC X)) ∧ Fr [] w w' := by
  go_enter Try.func28, Try.ntmps28
  go_upto_region 8 with (first | (go_at_call 24; (with_reducible refine (h1.out _).mono ?_); rintro e w' ⟨rfl, nn, rfl⟩) | (go_at_call 45; (with_reducible refine (h2.out _).mono ?_); rintro e w' ⟨rfl, nn, rfl⟩))
  refine world_atF (fun W => W.heap[w.heap.size]? = some (.cells (IC (0, 0, 0, 0, 0, 0, 0)) 25) ∧ W.heap[w.heap.size + 1]? = some (opsO [22, 0, 23, 24, 25, 0, 26, 27] 42) ∧ Fr [] w W) ⟨blk_alloc (blk_new _ _) _, blk_new' (n := w.heap.size + 1) (by simp) _, (((Fr.refl [] w).alloc _).alloc _).drewN _⟩ ?_
  rintro W ⟨hZ, hL, hF⟩
  have HZ := hid hZ
  have HL := hid hL
  have HF := hid hF
  clear hZ hL hF
  have c1 : Hid (∀ n : Ext W, Calls Try.prog 24 #[.int .u32 p] n.w fun e w'' => e = .returned (.int .u32 5) ∧ ∃ m : Ext W, w'' = m.w) := fun n => Ext.call n ((h1.out _).mono fun _ _ ⟨h1, k, h2⟩ => ⟨h1, by subst h2; exact (Fr.refl _ _).drewN _⟩)
  have c2 : Hid (∀ n : Ext W, Calls Try.prog 23 #[.int .u32 p, .slice (some ⟨w.heap.size + 1, 0, none⟩) 8 8, .int .u32 5, .func (.func 25) #[.int .u32 p] #[]] n.w fun e w'' => e = .returned (.agg (IC X)) ∧ ∃ m : Ext W, w'' = m.w) := fun n => Ext.call n (h3.out _ _ (n.blk HL.out))
  clear h1 h2 h3
  have hne := ext_ne W
  refine wp_region_ext_tail 7 (by kernel_rfl) (by kernel_rfl) ?_
  simp only [List.take_succ_cons, List.take_zero, List.drop_succ_cons, List.drop_zero]
  repeat (go_big_quiet_step (first | (go_at_call 24; exact c1.out _) | (go_at_call 23; exact c2.out _)))
  refine wpQuiet_nil ?_
  intro w' hw'
  obtain ⟨m1, rfl⟩ := hw'
  have hZ1 := m1.blk HZ.out
  go_wp2_with (refine wpList_store_whole rfl 25 _ _ rfl (w.heap.size) rfl (IC X) rfl 25 _ hZ1 rfl (sizeI' _) (IC_one _) ?_; intro w2 h2 hfr2)
  exact ⟨rfl, _, results_c rfl rfl h2 Try.underlying25 rfl (sizeI' _), rfl, (HF.out.trans m1.fr).step hfr2 (fun j hj => .inr (by rw [List.mem_singleton.1 hj]; omega))⟩
set_option maxRecDepth 100000 in
set_option maxHeartbeats 4000000 in
theorem imm_f (p a b : Int) (X : T7) (w : World) (h1 : Hid (∀ w, Calls Try.prog 24 #[.int .u32 p] w fun e w' => e = .returned (.int .u32 a) ∧ ∃ n, w' = w.drewN n)) (h2 : Hid (∀ w, Calls Try.prog 45 #[.int .u32 p] w fun e w' => e = .returned (.int .u32 b) ∧ ∃ n, w' = w.drewN n)) (t1 : (a == 1) = false) (t2 : (a == 5) = false)
    (h3 : Hid (∀ g w, w.heap[g]? = some (opsO [22, 0, 23, 24, 25, 0, 26, 27] 42) → Calls Try.prog 23 #[.int .u32 p, .slice (some ⟨g, 0, none⟩) 8 8, .int .u32 a, .func (.func 25) #[.int .u32 p] #[]] w fun e w' => e = .returned (.agg (IC X)) ∧ Fr [] w w')) : Calls Try.prog 28 #[.int .u32 p] w fun e w' => e = .returned (.agg (IC X)) ∧ Fr [] w w' := by
  go_enter Try.func28, Try.ntmps28
  go_upto_region 8 with (first | (go_at_call 24; (with_reducible refine (h1.out _).mono ?_); rintro e w' ⟨rfl, nn, rfl⟩) | (go_at_call 45; (with_reducible refine (h2.out _).mono ?_); rintro e w' ⟨rfl, nn, rfl⟩))
  refine world_atF (fun W => W.heap[w.heap.size]? = some (.cells (IC (0, 0, 0, 0, 0, 0, 0)) 25) ∧ W.heap[w.heap.size + 1]? = some (opsO [22, 0, 23, 24, 25, 0, 26, 27] 42) ∧ Fr [] w W) ⟨blk_alloc (blk_new _ _) _, blk_new' (n := w.heap.size + 1) (by simp) _, (((Fr.refl [] w).alloc _).alloc _).drewN _⟩ ?_
  rintro W ⟨hZ, hL, hF⟩
  have HZ := hid hZ
  have HL := hid hL
  have HF := hid hF
  clear hZ hL hF
  have c1 : Hid (∀ n : Ext W, Calls Try.prog 24 #[.int .u32 p] n.w fun e w'' => e = .returned (.int .u32 a) ∧ ∃ m : Ext W, w'' = m.w) := fun n => Ext.call n ((h1.out _).mono fun _ _ ⟨h1, k, h2⟩ => ⟨h1, by subst h2; exact (Fr.refl _ _).drewN _⟩)
  have c2 : Hid (∀ n : Ext W, Calls Try.prog 23 #[.int .u32 p, .slice (some ⟨w.heap.size + 1, 0, none⟩) 8 8, .int .u32 a, .func (.func 25) #[.int .u32 p] #[]] n.w fun e w'' => e = .returned (.agg (IC X)) ∧ ∃ m : Ext W, w'' = m.w) := fun n => Ext.call n (h3.out _ _ (n.blk HL.out))
  clear h1 h2 h3
  have hne := ext_ne W
  refine wp_region_ext_tail 7 (by kernel_rfl) (by kernel_rfl) ?_
  simp only [List.take_succ_cons, List.take_zero, List.drop_succ_cons, List.drop_zero]
  repeat (go_big_quiet_step (first | (go_at_call 24; exact c1.out _) | (go_at_call 23; exact c2.out _)))
  refine wpQuiet_nil ?_
  intro w' hw'
  obtain ⟨m1, rfl⟩ := hw'
  have hZ1 := m1.blk HZ.out
  go_wp2_with (refine wpList_store_whole rfl 25 _ _ rfl (w.heap.size) rfl (IC X) rfl 25 _ hZ1 rfl (sizeI' _) (IC_one _) ?_; intro w2 h2 hfr2)
  exact ⟨rfl, _, results_c rfl rfl h2 Try.underlying25 rfl (sizeI' _), rfl, (HF.out.trans m1.fr).step hfr2 (fun j hj => .inr (by rw [List.mem_singleton.1 hj]; omega))⟩
/-- operations with an immediate number -/
def immT (p : Int) : T7 := if p / 4096 % 8 = 1 ∧ p / 67108864 % 64 = 0 then fillT p 28 2 else if p / 4096 % 8 = 5 ∧ p / 67108864 % 64 = 0 then fillT p 29 2 else if p / 4096 % 8 = 5 ∧ p / 67108864 % 64 = 16 then fillT p 30 2 else pickT [22, 0, 23, 24, 25, 0, 26, 27] (p / 4096 % 8) (fun op => fillT p op 1) p
theorem imm_any {p : Int} (hp : P32 p) (w : World) : Calls Try.prog 28 #[.int .u32 p] w fun e w' => e = .returned (.agg (IC (immT p))) ∧ Fr [] w w' := by
  have h1 := fun w => c_f3 hp w
  have h2 := fun w => c_top hp w
  have h3 := fun (g : Nat) (w : World) (hb : w.heap[g]? = some (opsO [22, 0, 23, 24, 25, 0, 26, 27] 42)) => picks_i8 hp (p / 4096 % 8) (by omega) g [22, 0, 23, 24, 25, 0, 26, 27] rfl 42 w hb
  unfold immT
  generalize ha : p / 4096 % 8 = a at *
  generalize p / 67108864 % 64 = b at *
  by_cases e1 : a = 1
  · subst e1
    by_cases f1 : b = 0
    · subst f1
      rw [if_pos ⟨rfl, rfl⟩]
      exact imm_a p _ w (hid h1) (hid h2) (hid fun w => c_sh25 hp 28 w)
    · rw [if_neg (by omega), if_neg (by omega), if_neg (by omega)]
      exact imm_d p 1 b _ w (hid h1) (hid h2) (by simpa using f1) (hid h3)
  · by_cases e5 : a = 5
    · subst e5
      by_cases f1 : b = 0
      · subst f1
        rw [if_neg (by omega), if_pos ⟨rfl, rfl⟩]
        exact imm_b p _ w (hid h1) (hid h2) (hid fun w => c_sh25 hp 29 w)
      · by_cases f2 : b = 16
        · subst f2
          rw [if_neg (by omega), if_neg (by omega), if_pos ⟨rfl, rfl⟩]
          exact imm_c p _ w (hid h1) (hid h2) (hid fun w => c_sh25 hp 30 w)
        · rw [if_neg (by omega), if_neg (by omega), if_neg (by omega)]
          exact imm_e p 5 b _ w (hid h1) (hid h2) (by simpa using f1) (by simpa using f2) (hid h3)
    · rw [if_neg (by omega), if_neg (by omega), if_neg (by omega)]
      exact imm_f p a b _ w (hid h1) (hid h2) (by simpa using e1) (by simpa using e5) (hid h3)
set_option maxRecDepth 100000 in
set_option maxHeartbeats 4000000 in
theorem by7_0 (p a : Int) (g1 n1 g2 n2 g3 n3 : Nat) (X : T7) (w : World) (h1 : Hid (∀ w, Calls Try.prog 24 #[.int .u32 p] w fun e w' => e = .returned (.int .u32 a) ∧ ∃ n, w' = w.drewN n)) (h2 : Hid (∀ w, Calls Try.prog 47 #[.int .u32 p] w fun e w' => e = .returned (.int .u32 0) ∧ ∃ n, w' = w.drewN n))
    (h3 : Hid (∀ w1, Fr [] w w1 → Calls Try.prog 23 #[.int .u32 p, .slice (some ⟨g1, 0, none⟩) n1 n1, .int .u32 a, .func (.func 49) #[.int .u32 p] #[]] w1 fun e w' => e = .returned (.agg (IC X)) ∧ Fr [] w1 w')) : Calls Try.prog 48 #[.int .u32 p, .slice (some ⟨g1, 0, none⟩) n1 n1, .slice (some ⟨g2, 0, none⟩) n2 n2, .slice (some ⟨g3, 0, none⟩) n3 n3] w fun e w' => e = .returned (.agg (IC X)) ∧ Fr [] w w' := by
  go_enter Try.func48, Try.ntmps48
  go_wp2_with (first | (go_at_call 24; (with_reducible refine (h1.out _).mono ?_); rintro e w' ⟨rfl, nn, rfl⟩) | (go_at_call 47; (with_reducible refine (h2.out _).mono ?_); rintro e w' ⟨rfl, nn, rfl⟩) | (go_at_call 23; (with_reducible refine (h3.out _ (((Fr.refl [] w).alloc _).drewN _)).mono ?_); rintro e w1 ⟨rfl, hd⟩) | (refine wpList_store_whole rfl 25 _ _ rfl (w.heap.size) rfl (IC X) rfl 25 _ (hd.keeps (show (World.drewN _ _).heap[w.heap.size]? = _ from blk_new _ _) (by simp)) rfl (sizeI' _) (IC_one _) ?_; intro w2 h2 hfr2))
  exact ⟨rfl, _, results_c rfl rfl h2 Try.underlying25 rfl (sizeI' _), rfl, (((Fr.refl [] w).alloc _).drewN _ |>.trans hd).step hfr2 (fun j hj => .inr (by rw [List.mem_singleton.1 hj]; omega))⟩
set_option maxRecDepth 100000 in
set_option maxHeartbeats 4000000 in
theorem by7_1 (p a : Int) (g1 n1 g2 n2 g3 n3 : Nat) (X : T7) (w : World) (h1 : Hid (∀ w, Calls Try.prog 24 #[.int .u32 p] w fun e w' => e = .returned (.int .u32 a) ∧ ∃ n, w' = w.drewN n)) (h2 : Hid (∀ w, Calls Try.prog 47 #[.int .u32 p] w fun e w' => e = .returned (.int .u32 1) ∧ ∃ n, w' = w.drewN n))
    (h3 : Hid (∀ w1, Fr [] w w1 → Calls Try.prog 23 #[.int .u32 p, .slice (some ⟨g2, 0, none⟩) n2 n2, .int .u32 a, .func (.func 49) #[.int .u32 p] #[]] w1 fun e w' => e = .returned (.agg (IC X)) ∧ Fr [] w1 w')) : Calls Try.prog 48 #[.int .u32 p, .slice (some ⟨g1, 0, none⟩) n1 n1, .slice (some ⟨g2, 0, none⟩) n2 n2, .slice (some ⟨g3, 0, none⟩) n3 n3] w fun e w' => e = .returned (.agg (IC X)) ∧ Fr [] w w' := by
  go_enter Try.func48, Try.ntmps48
  go_wp2_with (first | (go_at_call 24; (with_reducible refine (h1.out _).mono ?_); rintro e w' ⟨rfl, nn, rfl⟩) | (go_at_call 47; (with_reducible refine (h2.out _).mono ?_); rintro e w' ⟨rfl, nn, rfl⟩) | (go_at_call 23; (with_reducible refine (h3.out _ (((Fr.refl [] w).alloc _).drewN _)).mono ?_); rintro e w1 ⟨rfl, hd⟩) | (refine wpList_store_whole rfl 25 _ _ rfl (w.heap.size) rfl (IC X) rfl 25 _ (hd.keeps (show (World.drewN _ _).heap[w.heap.size]? = _ from blk_new _ _) (by simp)) rfl (sizeI' _) (IC_one _) ?_; intro w2 h2 hfr2))
  exact ⟨rfl, _, results_c rfl rfl h2 Try.underlying25 rfl (sizeI' _), rfl, (((Fr.refl [] w).alloc _).drewN _ |>.trans hd).step hfr2 (fun j hj => .inr (by rw [List.mem_singleton.1 hj]; omega))⟩
set_option maxRecDepth 100000 in
set_option maxHeartbeats 4000000 in
theorem by7_32 (p a : Int) (g1 n1 g2 n2 g3 n3 : Nat) (X : T7) (w : World) (h1 : Hid (∀ w, Calls Try.prog 24 #[.int .u32 p] w fun e w' => e = .returned (.int .u32 a) ∧ ∃ n, w' = w.drewN n)) (h2 : Hid (∀ w, Calls Try.prog 47 #[.int .u32 p] w fun e w' => e = .returned (.int .u32 32) ∧ ∃ n, w' = w.drewN n))
    (h3 : Hid (∀ w1, Fr [] w w1 → Calls Try.prog 23 #[.int .u32 p, .slice (some ⟨g3, 0, none⟩) n3 n3, .int .u32 a, .func (.func 49) #[.int .u32 p] #[]] w1 fun e w' => e = .returned (.agg (IC X)) ∧ Fr [] w1 w')) : Calls Try.prog 48 #[.int .u32 p, .slice (some ⟨g1, 0, none⟩) n1 n1, .slice (some ⟨g2, 0, none⟩) n2 n2, .slice (some ⟨g3, 0, none⟩) n3 n3] w fun e w' => e = .returned (.agg (IC X)) ∧ Fr [] w w' := by
  go_enter Try.func48, Try.ntmps48
  go_wp2_with (first | (go_at_call 24; (with_reducible refine (h1.out _).mono ?_); rintro e w' ⟨rfl, nn, rfl⟩) | (go_at_call 47; (with_reducible refine (h2.out _).mono ?_); rintro e w' ⟨rfl, nn, rfl⟩) | (go_at_call 23; (with_reducible refine (h3.out _ (((Fr.refl [] w).alloc _).drewN _)).mono ?_); rintro e w1 ⟨rfl, hd⟩) | (refine wpList_store_whole rfl 25 _ _ rfl (w.heap.size) rfl (IC X) rfl 25 _ (hd.keeps (show (World.drewN _ _).heap[w.heap.size]? = _ from blk_new _ _) (by simp)) rfl (sizeI' _) (IC_one _) ?_; intro w2 h2 hfr2))
  exact ⟨rfl, _, results_c rfl rfl h2 Try.underlying25 rfl (sizeI' _), rfl, (((Fr.refl [] w).alloc _).drewN _ |>.trans hd).step hfr2 (fun j hj => .inr (by rw [List.mem_singleton.1 hj]; omega))⟩
set_option maxRecDepth 100000 in
set_option maxHeartbeats 4000000 in
theorem by7_o (p b : Int) (g1 n1 g2 n2 g3 n3 : Nat) (X : T7) (w : World) (h2 : Hid (∀ w, Calls Try.prog 47 #[.int .u32 p] w fun e w' => e = .returned (.int .u32 b) ∧ ∃ n, w' = w.drewN n)) (h3 : Hid (∀ w, Calls Try.prog 35 #[.int .u32 p] w fun e w' => e = .returned (.agg (IC X)) ∧ Fr [] w w')) (t0 : (b == 0) = false) (t1 : (b == 1) = false) (t2 : (b == 32) = false) : Calls Try.prog 48 #[.int .u32 p, .slice (some ⟨g1, 0, none⟩) n1 n1, .slice (some ⟨g2, 0, none⟩) n2 n2, .slice (some ⟨g3, 0, none⟩) n3 n3] w fun e w' => e = .returned (.agg (IC X)) ∧ Fr [] w w' := by
  go_enter Try.func48, Try.ntmps48
  go_wp2_with (first | (go_at_call 47; (with_reducible refine (h2.out _).mono ?_); rintro e w' ⟨rfl, nn, rfl⟩) | (go_at_call 35; (with_reducible refine (h3.out _).mono ?_); rintro e w1 ⟨rfl, hd⟩) | (refine wpList_store_whole rfl 25 _ _ rfl (w.heap.size) rfl (IC X) rfl 25 _ (hd.keeps (show (World.drewN _ _).heap[w.heap.size]? = _ from blk_new _ _) (by simp)) rfl (sizeI' _) (IC_one _) ?_; intro w2 h2 hfr2))
  exact ⟨rfl, _, results_c rfl rfl h2 Try.underlying25 rfl (sizeI' _), rfl, (((Fr.refl [] w).alloc _).drewN _ |>.trans hd).step hfr2 (fun j hj => .inr (by rw [List.mem_singleton.1 hj]; omega))⟩
/-- the list that f7 tells -/
def by7T (l1 l2 l3 : List Int) (p : Int) : T7 := if p / 33554432 % 128 = 0 then pickT l1 (p / 4096 % 8) (fun op => fillT p op 0) p else if p / 33554432 % 128 = 1 then pickT l2 (p / 4096 % 8) (fun op => fillT p op 0) p else if p / 33554432 % 128 = 32 then pickT l3 (p / 4096 % 8) (fun op => fillT p op 0) p else ill p
theorem by7_reg {p : Int} (hp : P32 p) (g1 g2 g3 : Nat) (w : World) (b1 : w.heap[g1]? = some (opsO [31, 33, 34, 35, 36, 37, 39, 40] 42)) (b2 : w.heap[g2]? = some (opsO [54, 55, 56, 57, 58, 59, 60, 61] 42)) (b3 : w.heap[g3]? = some (opsO [32, 0, 0, 0, 0, 38] 71)) :
    Calls Try.prog 48 #[.int .u32 p, .slice (some ⟨g1, 0, none⟩) 8 8, .slice (some ⟨g2, 0, none⟩) 8 8, .slice (some ⟨g3, 0, none⟩) 6 6] w fun e w' => e = .returned (.agg (IC (by7T [31, 33, 34, 35, 36, 37, 39, 40] [54, 55, 56, 57, 58, 59, 60, 61] [32, 0, 0, 0, 0, 38] p))) ∧ Fr [] w w' := by
  have h1 := fun w => c_f3 hp w
  have h2 := fun w => c_f7 hp w
  have q1 := fun w1 (h : Fr [] w w1) => picks_r8 hp (p / 4096 % 8) (by omega) g1 [31, 33, 34, 35, 36, 37, 39, 40] rfl 42 w1 (h.keeps b1 (by simp))
  have q2 := fun w1 (h : Fr [] w w1) => picks_r8 hp (p / 4096 % 8) (by omega) g2 [54, 55, 56, 57, 58, 59, 60, 61] rfl 42 w1 (h.keeps b2 (by simp))
  have q3 := fun w1 (h : Fr [] w w1) => picks_r6 hp (p / 4096 % 8) (by omega) g3 [32, 0, 0, 0, 0, 38] rfl 71 w1 (h.keeps b3 (by simp))
  unfold by7T
  generalize p / 4096 % 8 = a at *
  generalize p / 33554432 % 128 = b at *
  by_cases e0 : b = 0
  · subst e0; rw [if_pos rfl]
    exact by7_0 p a g1 8 g2 8 g3 6 _ w (hid h1) (hid h2) (hid q1)
  · by_cases e1 : b = 1
    · subst e1; rw [if_neg (by decide), if_pos rfl]
      exact by7_1 p a g1 8 g2 8 g3 6 _ w (hid h1) (hid h2) (hid q2)
    · by_cases e2 : b = 32
      · subst e2; rw [if_neg (by decide), if_neg (by decide), if_pos rfl]
        exact by7_32 p a g1 8 g2 8 g3 6 _ w (hid h1) (hid h2) (hid q3)
      · rw [if_neg e0, if_neg e1, if_neg e2]
        exact by7_o p b g1 8 g2 8 g3 6 _ w (hid h2) (hid fun w => c_ill hp w) (by simpa using e0) (by simpa using e1) (by simpa using e2)
theorem by7_regW {p : Int} (hp : P32 p) (g1 g2 g3 : Nat) (w : World) (b1 : w.heap[g1]? = some (opsO [45, 47, 0, 0, 0, 48] 71)) (b2 : w.heap[g2]? = some (opsO [62, 0, 0, 0, 63, 64, 65, 66] 42)) (b3 : w.heap[g3]? = some (opsO [46, 0, 0, 0, 0, 49] 71)) :
    Calls Try.prog 48 #[.int .u32 p, .slice (some ⟨g1, 0, none⟩) 6 6, .slice (some ⟨g2, 0, none⟩) 8 8, .slice (some ⟨g3, 0, none⟩) 6 6] w fun e w' => e = .returned (.agg (IC (by7T [45, 47, 0, 0, 0, 48] [62, 0, 0, 0, 63, 64, 65, 66] [46, 0, 0, 0, 0, 49] p))) ∧ Fr [] w w' := by
  have h1 := fun w => c_f3 hp w
  have h2 := fun w => c_f7 hp w
  have q1 := fun w1 (h : Fr [] w w1) => picks_r6 hp (p / 4096 % 8) (by omega) g1 [45, 47, 0, 0, 0, 48] rfl 71 w1 (h.keeps b1 (by simp))
  have q2 := fun w1 (h : Fr [] w w1) => picks_r8 hp (p / 4096 % 8) (by omega) g2 [62, 0, 0, 0, 63, 64, 65, 66] rfl 42 w1 (h.keeps b2 (by simp))
  have q3 := fun w1 (h : Fr [] w w1) => picks_r6 hp (p / 4096 % 8) (by omega) g3 [46, 0, 0, 0, 0, 49] rfl 71 w1 (h.keeps b3 (by simp))
  unfold by7T
  generalize p / 4096 % 8 = a at *
  generalize p / 33554432 % 128 = b at *
  by_cases e0 : b = 0
  · subst e0; rw [if_pos rfl]
    exact by7_0 p a g1 6 g2 8 g3 6 _ w (hid h1) (hid h2) (hid q1)
  · by_cases e1 : b = 1
    · subst e1; rw [if_neg (by decide), if_pos rfl]
      exact by7_1 p a g1 6 g2 8 g3 6 _ w (hid h1) (hid h2) (hid q2)
    · by_cases e2 : b = 32
      · subst e2; rw [if_neg (by decide), if_neg (by decide), if_pos rfl]
        exact by7_32 p a g1 6 g2 8 g3 6 _ w (hid h1) (hid h2) (hid q3)
      · rw [if_neg e0, if_neg e1, if_neg e2]
        exact by7_o p b g1 6 g2 8 g3 6 _ w (hid h2) (hid fun w => c_ill hp w) (by simpa using e0) (by simpa using e1) (by simpa using e2)
set_option maxRecDepth 100000 in
set_option maxHeartbeats 4000000 in
theorem reg_any {p : Int} (hp : P32 p) (w : World) : Calls Try.prog 30 #[.int .u32 p] w fun e w' => e = .returned (.agg (IC (by7T [31, 33, 34, 35, 36, 37, 39, 40] [54, 55, 56, 57, 58, 59, 60, 61] [32, 0, 0, 0, 0, 38] p))) ∧ Fr [] w w' := by
  have h3 := hid fun g1 g2 g3 w b1 b2 b3 => by7_reg hp g1 g2 g3 w b1 b2 b3
  generalize by7T [31, 33, 34, 35, 36, 37, 39, 40] [54, 55, 56, 57, 58, 59, 60, 61] [32, 0, 0, 0, 0, 38] p = X at h3 ⊢
  replace hp := hid hp
  go_enter Try.func30, Try.ntmps30
  go_upto_region 4 with fail
  refine world_atF (fun W => W.heap[w.heap.size]? = some (.cells (IC (0, 0, 0, 0, 0, 0, 0)) 25) ∧ W.heap[w.heap.size + 1]? = some (opsO [31, 33, 34, 35, 36, 37, 39, 40] 42) ∧ W.heap[w.heap.size + 2]? = some (opsO [54, 55, 56, 57, 58, 59, 60, 61] 42) ∧ W.heap[w.heap.size + 3]? = some (opsO [32, 0, 0, 0, 0, 38] 71) ∧ Fr [] w W) ⟨blk_alloc (blk_alloc (blk_alloc (blk_new _ _) _) _) _, blk_alloc (blk_alloc (blk_new' (n := w.heap.size + 1) (by simp) _) _) _, blk_alloc (blk_new' (n := w.heap.size + 2) (by simp) _) _, blk_new' (n := w.heap.size + 3) (by simp) _, ((((Fr.refl [] w).alloc _).alloc _).alloc _).alloc _⟩ ?_
  rintro W ⟨hZ, hL1, hL2, hL3, hF⟩
  have HZ := hid hZ
  have HF := hid hF
  have c2 : Hid (∀ n : Ext W, Calls Try.prog 48 #[.int .u32 p, .slice (some ⟨w.heap.size + 1, 0, none⟩) 8 8, .slice (some ⟨w.heap.size + 1 + 1, 0, none⟩) 8 8, .slice (some ⟨w.heap.size + 1 + 1 + 1, 0, none⟩) 6 6] n.w fun e w'' => e = .returned (.agg (IC X)) ∧ ∃ m : Ext W, w'' = m.w) := fun n => Ext.call n (h3.out _ _ _ _ (n.blk hL1) (n.blk hL2) (n.blk hL3))
  clear hZ hF hL1 hL2 hL3 h3
  have hne := ext_ne W
  refine wp_region_ext_tail 5 (by kernel_rfl) (by kernel_rfl) ?_
  simp only [List.take_succ_cons, List.take_zero, List.drop_succ_cons, List.drop_zero]
  repeat (go_big_quiet_step (first | (go_at_call 48; exact c2.out _)))
  refine wpQuiet_nil ?_
  intro w' hw'
  obtain ⟨m1, rfl⟩ := hw'
  have hZ1 := m1.blk HZ.out
  go_wp2_with (refine wpList_store_whole rfl 25 _ _ rfl (w.heap.size) rfl (IC X) rfl 25 _ hZ1 rfl (sizeI' _) (IC_one _) ?_; intro w2 h2 hfr2)
  exact ⟨rfl, _, results_c rfl rfl h2 Try.underlying25 rfl (sizeI' _), rfl, (HF.out.trans m1.fr).step hfr2 (fun j hj => .inr (by rw [List.mem_singleton.1 hj]; omega))⟩
set_option maxRecDepth 100000 in
set_option maxHeartbeats 4000000 in
theorem regW_any {p : Int} (hp : P32 p) (w : World) : Calls Try.prog 31 #[.int .u32 p] w fun e w' => e = .returned (.agg (IC (by7T [45, 47, 0, 0, 0, 48] [62, 0, 0, 0, 63, 64, 65, 66] [46, 0, 0, 0, 0, 49] p))) ∧ Fr [] w w' := by
  have h3 := hid fun g1 g2 g3 w b1 b2 b3 => by7_regW hp g1 g2 g3 w b1 b2 b3
  generalize by7T [45, 47, 0, 0, 0, 48] [62, 0, 0, 0, 63, 64, 65, 66] [46, 0, 0, 0, 0, 49] p = X at h3 ⊢
  replace hp := hid hp
  go_enter Try.func31, Try.ntmps31
  go_upto_region 4 with fail
  refine world_atF (fun W => W.heap[w.heap.size]? = some (.cells (IC (0, 0, 0, 0, 0, 0, 0)) 25) ∧ W.heap[w.heap.size + 1]? = some (opsO [45, 47, 0, 0, 0, 48] 71) ∧ W.heap[w.heap.size + 2]? = some (opsO [62, 0, 0, 0, 63, 64, 65, 66] 42) ∧ W.heap[w.heap.size + 3]? = some (opsO [46, 0, 0, 0, 0, 49] 71) ∧ Fr [] w W) ⟨blk_alloc (blk_alloc (blk_alloc (blk_new _ _) _) _) _, blk_alloc (blk_alloc (blk_new' (n := w.heap.size + 1) (by simp) _) _) _, blk_alloc (blk_new' (n := w.heap.size + 2) (by simp) _) _, blk_new' (n := w.heap.size + 3) (by simp) _, ((((Fr.refl [] w).alloc _).alloc _).alloc _).alloc _⟩ ?_
  rintro W ⟨hZ, hL1, hL2, hL3, hF⟩
  have HZ := hid hZ
  have HF := hid hF
  have c2 : Hid (∀ n : Ext W, Calls Try.prog 48 #[.int .u32 p, .slice (some ⟨w.heap.size + 1, 0, none⟩) 6 6, .slice (some ⟨w.heap.size + 1 + 1, 0, none⟩) 8 8, .slice (some ⟨w.heap.size + 1 + 1 + 1, 0, none⟩) 6 6] n.w fun e w'' => e = .returned (.agg (IC X)) ∧ ∃ m : Ext W, w'' = m.w) := fun n => Ext.call n (h3.out _ _ _ _ (n.blk hL1) (n.blk hL2) (n.blk hL3))
  clear hZ hF hL1 hL2 hL3 h3
  have hne := ext_ne W
  refine wp_region_ext_tail 5 (by kernel_rfl) (by kernel_rfl) ?_
  simp only [List.take_succ_cons, List.take_zero, List.drop_succ_cons, List.drop_zero]
  repeat (go_big_quiet_step (first | (go_at_call 48; exact c2.out _)))
  refine wpQuiet_nil ?_
  intro w' hw'
  obtain ⟨m1, rfl⟩ := hw'
  have hZ1 := m1.blk HZ.out
  go_wp2_with (refine wpList_store_whole rfl 25 _ _ rfl (w.heap.size) rfl (IC X) rfl 25 _ hZ1 rfl (sizeI' _) (IC_one _) ?_; intro w2 h2 hfr2)
  exact ⟨rfl, _, results_c rfl rfl h2 Try.underlying25 rfl (sizeI' _), rfl, (HF.out.trans m1.fr).step hfr2 (fun j hj => .inr (by rw [List.mem_singleton.1 hj]; omega))⟩
end Go.Proofs.Ytogdifjdlkpehaa.PA
