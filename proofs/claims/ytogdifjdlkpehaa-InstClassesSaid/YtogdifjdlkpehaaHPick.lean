/- Contracts of what stands at a place of a list of operations. -/
import Derived.Test.YtogdifjdlkpehaaK3
import Derived.Test.YtogdifjdlkpehaaHFill
import Derived.Test.YtogdifjdlkpehaaK2
import Derived.Deep.Cut
namespace Go.Proofs.Ytogdifjdlkpehaa.PA
open Go.RowKit Go.Proofs.YtogdifjdlkpehaaW.PrintWords Go.Proofs.YtogdifjdlkpehaaW.PrintLast Go.Proofs.YtogdifjdlkpehaaW.PrintMore
set_option linter.all false
theorem fr_of_below' {W w' : World} (h : Below W.heap.size W w') : Fr [] W w' := ⟨h.os, h.tape, h.output, h.size, fun k hk _ => h.block k hk⟩
def ilT (p : Int) : T7 := (0, 0, 0, 0, wrap64 p, 0, 4)
theorem il_any (p : Int) (w : World) : Calls Try.prog 35 #[.int .u32 p] w fun e w' => e = .returned (.agg (IC (ilT p))) ∧ Fr [] w w' :=
  (inst_parcel_illegal.calls p _ _ _ _ _ _ _ w rfl).mono fun _ _ ⟨h1, h2⟩ => ⟨h1, fr_of_below' h2⟩
set_option maxRecDepth 100000 in
set_option maxHeartbeats 4000000 in
theorem pick_i8_no (p n : Int) (g : Nat) (w : World) (hge : decide (8 ≤ n) = true) : Calls Try.prog 23 #[.int .u32 p, .slice (some ⟨g, 0, none⟩) 8 8, .int .u32 n, .func (.func 25) #[.int .u32 p] #[]] w fun e w' => e = .returned (.agg (IC (ilT p))) ∧ Fr [] w w' := by
  go_enter Try.func23, Try.ntmps23
  go_wp2_with (first | (go_at_call 35; refine (il_any p _).mono ?_; rintro e w1 ⟨rfl, hd⟩) | (refine wpList_store_whole rfl 25 _ _ rfl w.heap.size rfl (IC (ilT p)) rfl 25 _ (hd.keeps (blk_new _ _) (by simp)) rfl (sizeI' _) (IC_one _) ?_; intro w2 h2 hfr2))
  exact ⟨rfl, _, results_c rfl rfl h2 Try.underlying25 rfl (sizeI' _), rfl, (((Fr.refl _ _).alloc _).trans hd).step hfr2 (fun j hj => .inr (by simp at hj; omega))⟩
set_option maxRecDepth 100000 in
set_option maxHeartbeats 4000000 in
theorem pick_i8_nil (p n : Int) (g : Nat) (w : World) (h0 : 0 ≤ n) (hlt : n < 8) (hge : decide (8 ≤ n) = false) (hg : g < w.heap.size) (hcell : w.cell? ⟨g, n.toNat, none⟩ = some (.int .u8 0)) : Calls Try.prog 23 #[.int .u32 p, .slice (some ⟨g, 0, none⟩) 8 8, .int .u32 n, .func (.func 25) #[.int .u32 p] #[]] w fun e w' => e = .returned (.agg (IC (ilT p))) ∧ Fr [] w w' := by
  go_enter Try.func23, Try.ntmps23
  go_wp2_with (first | (go_at_call 35; refine (il_any p _).mono ?_; rintro e w1 ⟨rfl, hd⟩) | (refine wpList_store_whole rfl 25 _ _ rfl w.heap.size rfl (IC (ilT p)) rfl 25 _ (hd.keeps (blk_new _ _) (by simp)) rfl (sizeI' _) (IC_one _) ?_; intro w2 h2 hfr2))
  exact ⟨rfl, _, results_c rfl rfl h2 Try.underlying25 rfl (sizeI' _), rfl, (((Fr.refl _ _).alloc _).trans hd).step hfr2 (fun j hj => .inr (by simp at hj; omega))⟩
set_option maxRecDepth 100000 in
set_option maxHeartbeats 4000000 in
theorem pick_i8_yes (p n op : Int) (g : Nat) (X : T7) (w : World) (h0 : 0 ≤ n) (hlt : n < 8) (hge : decide (8 ≤ n) = false) (hg : g < w.heap.size) (hcell : w.cell? ⟨g, n.toNat, none⟩ = some (.int .u8 op)) (hop : (op == 0) = false)
    (hF : Hid (∀ w', Fr [] w w' → Calls Try.prog 25 #[.int .u32 p, .int .u8 op] w' fun e w'' => e = .returned (.agg (IC X)) ∧ Fr [] w' w'')) : Calls Try.prog 23 #[.int .u32 p, .slice (some ⟨g, 0, none⟩) 8 8, .int .u32 n, .func (.func 25) #[.int .u32 p] #[]] w fun e w' => e = .returned (.agg (IC X)) ∧ Fr [] w w' := by
  go_enter Try.func23, Try.ntmps23
  go_wp2_with (first | (go_at_call 25; refine (hF.out _ ((Fr.refl _ _).alloc _)).mono ?_; rintro e w1 ⟨rfl, hd⟩) | (refine wpList_store_whole rfl 25 _ _ rfl w.heap.size rfl (IC X) rfl 25 _ (hd.keeps (blk_new _ _) (by simp)) rfl (sizeI' _) (IC_one _) ?_; intro w2 h2 hfr2))
  exact ⟨rfl, _, results_c rfl rfl h2 Try.underlying25 rfl (sizeI' _), rfl, (((Fr.refl _ _).alloc _).trans hd).step hfr2 (fun j hj => .inr (by simp at hj; omega))⟩
set_option maxRecDepth 100000 in
set_option maxHeartbeats 4000000 in
theorem pick_i7_no (p n : Int) (g : Nat) (w : World) (hge : decide (7 ≤ n) = true) : Calls Try.prog 23 #[.int .u32 p, .slice (some ⟨g, 0, none⟩) 7 7, .int .u32 n, .func (.func 25) #[.int .u32 p] #[]] w fun e w' => e = .returned (.agg (IC (ilT p))) ∧ Fr [] w w' := by
  go_enter Try.func23, Try.ntmps23
  go_wp2_with (first | (go_at_call 35; refine (il_any p _).mono ?_; rintro e w1 ⟨rfl, hd⟩) | (refine wpList_store_whole rfl 25 _ _ rfl w.heap.size rfl (IC (ilT p)) rfl 25 _ (hd.keeps (blk_new _ _) (by simp)) rfl (sizeI' _) (IC_one _) ?_; intro w2 h2 hfr2))
  exact ⟨rfl, _, results_c rfl rfl h2 Try.underlying25 rfl (sizeI' _), rfl, (((Fr.refl _ _).alloc _).trans hd).step hfr2 (fun j hj => .inr (by simp at hj; omega))⟩
set_option maxRecDepth 100000 in
set_option maxHeartbeats 4000000 in
theorem pick_i7_nil (p n : Int) (g : Nat) (w : World) (h0 : 0 ≤ n) (hlt : n < 7) (hge : decide (7 ≤ n) = false) (hg : g < w.heap.size) (hcell : w.cell? ⟨g, n.toNat, none⟩ = some (.int .u8 0)) : Calls Try.prog 23 #[.int .u32 p, .slice (some ⟨g, 0, none⟩) 7 7, .int .u32 n, .func (.func 25) #[.int .u32 p] #[]] w fun e w' => e = .returned (.agg (IC (ilT p))) ∧ Fr [] w w' := by
  go_enter Try.func23, Try.ntmps23
  go_wp2_with (first | (go_at_call 35; refine (il_any p _).mono ?_; rintro e w1 ⟨rfl, hd⟩) | (refine wpList_store_whole rfl 25 _ _ rfl w.heap.size rfl (IC (ilT p)) rfl 25 _ (hd.keeps (blk_new _ _) (by simp)) rfl (sizeI' _) (IC_one _) ?_; intro w2 h2 hfr2))
  exact ⟨rfl, _, results_c rfl rfl h2 Try.underlying25 rfl (sizeI' _), rfl, (((Fr.refl _ _).alloc _).trans hd).step hfr2 (fun j hj => .inr (by simp at hj; omega))⟩
set_option maxRecDepth 100000 in
set_option maxHeartbeats 4000000 in
theorem pick_i7_yes (p n op : Int) (g : Nat) (X : T7) (w : World) (h0 : 0 ≤ n) (hlt : n < 7) (hge : decide (7 ≤ n) = false) (hg : g < w.heap.size) (hcell : w.cell? ⟨g, n.toNat, none⟩ = some (.int .u8 op)) (hop : (op == 0) = false)
    (hF : Hid (∀ w', Fr [] w w' → Calls Try.prog 25 #[.int .u32 p, .int .u8 op] w' fun e w'' => e = .returned (.agg (IC X)) ∧ Fr [] w' w'')) : Calls Try.prog 23 #[.int .u32 p, .slice (some ⟨g, 0, none⟩) 7 7, .int .u32 n, .func (.func 25) #[.int .u32 p] #[]] w fun e w' => e = .returned (.agg (IC X)) ∧ Fr [] w w' := by
  go_enter Try.func23, Try.ntmps23
  go_wp2_with (first | (go_at_call 25; refine (hF.out _ ((Fr.refl _ _).alloc _)).mono ?_; rintro e w1 ⟨rfl, hd⟩) | (refine wpList_store_whole rfl 25 _ _ rfl w.heap.size rfl (IC X) rfl 25 _ (hd.keeps (blk_new _ _) (by simp)) rfl (sizeI' _) (IC_one _) ?_; intro w2 h2 hfr2))
  exact ⟨rfl, _, results_c rfl rfl h2 Try.underlying25 rfl (sizeI' _), rfl, (((Fr.refl _ _).alloc _).trans hd).step hfr2 (fun j hj => .inr (by simp at hj; omega))⟩
set_option maxRecDepth 100000 in
set_option maxHeartbeats 4000000 in
theorem pick_i1_no (p n : Int) (g : Nat) (w : World) (hge : decide (1 ≤ n) = true) : Calls Try.prog 23 #[.int .u32 p, .slice (some ⟨g, 0, none⟩) 1 1, .int .u32 n, .func (.func 25) #[.int .u32 p] #[]] w fun e w' => e = .returned (.agg (IC (ilT p))) ∧ Fr [] w w' := by
  go_enter Try.func23, Try.ntmps23
  go_wp2_with (first | (go_at_call 35; refine (il_any p _).mono ?_; rintro e w1 ⟨rfl, hd⟩) | (refine wpList_store_whole rfl 25 _ _ rfl w.heap.size rfl (IC (ilT p)) rfl 25 _ (hd.keeps (blk_new _ _) (by simp)) rfl (sizeI' _) (IC_one _) ?_; intro w2 h2 hfr2))
  exact ⟨rfl, _, results_c rfl rfl h2 Try.underlying25 rfl (sizeI' _), rfl, (((Fr.refl _ _).alloc _).trans hd).step hfr2 (fun j hj => .inr (by simp at hj; omega))⟩
set_option maxRecDepth 100000 in
set_option maxHeartbeats 4000000 in
theorem pick_i1_nil (p n : Int) (g : Nat) (w : World) (h0 : 0 ≤ n) (hlt : n < 1) (hge : decide (1 ≤ n) = false) (hg : g < w.heap.size) (hcell : w.cell? ⟨g, n.toNat, none⟩ = some (.int .u8 0)) : Calls Try.prog 23 #[.int .u32 p, .slice (some ⟨g, 0, none⟩) 1 1, .int .u32 n, .func (.func 25) #[.int .u32 p] #[]] w fun e w' => e = .returned (.agg (IC (ilT p))) ∧ Fr [] w w' := by
  go_enter Try.func23, Try.ntmps23
  go_wp2_with (first | (go_at_call 35; refine (il_any p _).mono ?_; rintro e w1 ⟨rfl, hd⟩) | (refine wpList_store_whole rfl 25 _ _ rfl w.heap.size rfl (IC (ilT p)) rfl 25 _ (hd.keeps (blk_new _ _) (by simp)) rfl (sizeI' _) (IC_one _) ?_; intro w2 h2 hfr2))
  exact ⟨rfl, _, results_c rfl rfl h2 Try.underlying25 rfl (sizeI' _), rfl, (((Fr.refl _ _).alloc _).trans hd).step hfr2 (fun j hj => .inr (by simp at hj; omega))⟩
set_option maxRecDepth 100000 in
set_option maxHeartbeats 4000000 in
theorem pick_i1_yes (p n op : Int) (g : Nat) (X : T7) (w : World) (h0 : 0 ≤ n) (hlt : n < 1) (hge : decide (1 ≤ n) = false) (hg : g < w.heap.size) (hcell : w.cell? ⟨g, n.toNat, none⟩ = some (.int .u8 op)) (hop : (op == 0) = false)
    (hF : Hid (∀ w', Fr [] w w' → Calls Try.prog 25 #[.int .u32 p, .int .u8 op] w' fun e w'' => e = .returned (.agg (IC X)) ∧ Fr [] w' w'')) : Calls Try.prog 23 #[.int .u32 p, .slice (some ⟨g, 0, none⟩) 1 1, .int .u32 n, .func (.func 25) #[.int .u32 p] #[]] w fun e w' => e = .returned (.agg (IC X)) ∧ Fr [] w w' := by
  go_enter Try.func23, Try.ntmps23
  go_wp2_with (first | (go_at_call 25; refine (hF.out _ ((Fr.refl _ _).alloc _)).mono ?_; rintro e w1 ⟨rfl, hd⟩) | (refine wpList_store_whole rfl 25 _ _ rfl w.heap.size rfl (IC X) rfl 25 _ (hd.keeps (blk_new _ _) (by simp)) rfl (sizeI' _) (IC_one _) ?_; intro w2 h2 hfr2))
  exact ⟨rfl, _, results_c rfl rfl h2 Try.underlying25 rfl (sizeI' _), rfl, (((Fr.refl _ _).alloc _).trans hd).step hfr2 (fun j hj => .inr (by simp at hj; omega))⟩
set_option maxRecDepth 100000 in
set_option maxHeartbeats 4000000 in
theorem pick_b8_no (p n : Int) (g : Nat) (w : World) (hge : decide (8 ≤ n) = true) : Calls Try.prog 23 #[.int .u32 p, .slice (some ⟨g, 0, none⟩) 8 8, .int .u32 n, .func (.func 26) #[.int .u32 p] #[]] w fun e w' => e = .returned (.agg (IC (ilT p))) ∧ Fr [] w w' := by
  go_enter Try.func23, Try.ntmps23
  go_wp2_with (first | (go_at_call 35; refine (il_any p _).mono ?_; rintro e w1 ⟨rfl, hd⟩) | (refine wpList_store_whole rfl 25 _ _ rfl w.heap.size rfl (IC (ilT p)) rfl 25 _ (hd.keeps (blk_new _ _) (by simp)) rfl (sizeI' _) (IC_one _) ?_; intro w2 h2 hfr2))
  exact ⟨rfl, _, results_c rfl rfl h2 Try.underlying25 rfl (sizeI' _), rfl, (((Fr.refl _ _).alloc _).trans hd).step hfr2 (fun j hj => .inr (by simp at hj; omega))⟩
set_option maxRecDepth 100000 in
set_option maxHeartbeats 4000000 in
theorem pick_b8_nil (p n : Int) (g : Nat) (w : World) (h0 : 0 ≤ n) (hlt : n < 8) (hge : decide (8 ≤ n) = false) (hg : g < w.heap.size) (hcell : w.cell? ⟨g, n.toNat, none⟩ = some (.int .u8 0)) : Calls Try.prog 23 #[.int .u32 p, .slice (some ⟨g, 0, none⟩) 8 8, .int .u32 n, .func (.func 26) #[.int .u32 p] #[]] w fun e w' => e = .returned (.agg (IC (ilT p))) ∧ Fr [] w w' := by
  go_enter Try.func23, Try.ntmps23
  go_wp2_with (first | (go_at_call 35; refine (il_any p _).mono ?_; rintro e w1 ⟨rfl, hd⟩) | (refine wpList_store_whole rfl 25 _ _ rfl w.heap.size rfl (IC (ilT p)) rfl 25 _ (hd.keeps (blk_new _ _) (by simp)) rfl (sizeI' _) (IC_one _) ?_; intro w2 h2 hfr2))
  exact ⟨rfl, _, results_c rfl rfl h2 Try.underlying25 rfl (sizeI' _), rfl, (((Fr.refl _ _).alloc _).trans hd).step hfr2 (fun j hj => .inr (by simp at hj; omega))⟩
set_option maxRecDepth 100000 in
set_option maxHeartbeats 4000000 in
theorem pick_b8_yes (p n op : Int) (g : Nat) (X : T7) (w : World) (h0 : 0 ≤ n) (hlt : n < 8) (hge : decide (8 ≤ n) = false) (hg : g < w.heap.size) (hcell : w.cell? ⟨g, n.toNat, none⟩ = some (.int .u8 op)) (hop : (op == 0) = false)
    (hF : Hid (∀ w', Fr [] w w' → Calls Try.prog 26 #[.int .u32 p, .int .u8 op] w' fun e w'' => e = .returned (.agg (IC X)) ∧ Fr [] w' w'')) : Calls Try.prog 23 #[.int .u32 p, .slice (some ⟨g, 0, none⟩) 8 8, .int .u32 n, .func (.func 26) #[.int .u32 p] #[]] w fun e w' => e = .returned (.agg (IC X)) ∧ Fr [] w w' := by
  go_enter Try.func23, Try.ntmps23
  go_wp2_with (first | (go_at_call 26; refine (hF.out _ ((Fr.refl _ _).alloc _)).mono ?_; rintro e w1 ⟨rfl, hd⟩) | (refine wpList_store_whole rfl 25 _ _ rfl w.heap.size rfl (IC X) rfl 25 _ (hd.keeps (blk_new _ _) (by simp)) rfl (sizeI' _) (IC_one _) ?_; intro w2 h2 hfr2))
  exact ⟨rfl, _, results_c rfl rfl h2 Try.underlying25 rfl (sizeI' _), rfl, (((Fr.refl _ _).alloc _).trans hd).step hfr2 (fun j hj => .inr (by simp at hj; omega))⟩
set_option maxRecDepth 100000 in
set_option maxHeartbeats 4000000 in
theorem pick_s4_no (p n : Int) (g : Nat) (w : World) (hge : decide (4 ≤ n) = true) : Calls Try.prog 23 #[.int .u32 p, .slice (some ⟨g, 0, none⟩) 4 4, .int .u32 n, .func (.func 27) #[.int .u32 p] #[]] w fun e w' => e = .returned (.agg (IC (ilT p))) ∧ Fr [] w w' := by
  go_enter Try.func23, Try.ntmps23
  go_wp2_with (first | (go_at_call 35; refine (il_any p _).mono ?_; rintro e w1 ⟨rfl, hd⟩) | (refine wpList_store_whole rfl 25 _ _ rfl w.heap.size rfl (IC (ilT p)) rfl 25 _ (hd.keeps (blk_new _ _) (by simp)) rfl (sizeI' _) (IC_one _) ?_; intro w2 h2 hfr2))
  exact ⟨rfl, _, results_c rfl rfl h2 Try.underlying25 rfl (sizeI' _), rfl, (((Fr.refl _ _).alloc _).trans hd).step hfr2 (fun j hj => .inr (by simp at hj; omega))⟩
set_option maxRecDepth 100000 in
set_option maxHeartbeats 4000000 in
theorem pick_s4_nil (p n : Int) (g : Nat) (w : World) (h0 : 0 ≤ n) (hlt : n < 4) (hge : decide (4 ≤ n) = false) (hg : g < w.heap.size) (hcell : w.cell? ⟨g, n.toNat, none⟩ = some (.int .u8 0)) : Calls Try.prog 23 #[.int .u32 p, .slice (some ⟨g, 0, none⟩) 4 4, .int .u32 n, .func (.func 27) #[.int .u32 p] #[]] w fun e w' => e = .returned (.agg (IC (ilT p))) ∧ Fr [] w w' := by
  go_enter Try.func23, Try.ntmps23
  go_wp2_with (first | (go_at_call 35; refine (il_any p _).mono ?_; rintro e w1 ⟨rfl, hd⟩) | (refine wpList_store_whole rfl 25 _ _ rfl w.heap.size rfl (IC (ilT p)) rfl 25 _ (hd.keeps (blk_new _ _) (by simp)) rfl (sizeI' _) (IC_one _) ?_; intro w2 h2 hfr2))
  exact ⟨rfl, _, results_c rfl rfl h2 Try.underlying25 rfl (sizeI' _), rfl, (((Fr.refl _ _).alloc _).trans hd).step hfr2 (fun j hj => .inr (by simp at hj; omega))⟩
set_option maxRecDepth 100000 in
set_option maxHeartbeats 4000000 in
theorem pick_s4_yes (p n op : Int) (g : Nat) (X : T7) (w : World) (h0 : 0 ≤ n) (hlt : n < 4) (hge : decide (4 ≤ n) = false) (hg : g < w.heap.size) (hcell : w.cell? ⟨g, n.toNat, none⟩ = some (.int .u8 op)) (hop : (op == 0) = false)
    (hF : Hid (∀ w', Fr [] w w' → Calls Try.prog 27 #[.int .u32 p, .int .u8 op] w' fun e w'' => e = .returned (.agg (IC X)) ∧ Fr [] w' w'')) : Calls Try.prog 23 #[.int .u32 p, .slice (some ⟨g, 0, none⟩) 4 4, .int .u32 n, .func (.func 27) #[.int .u32 p] #[]] w fun e w' => e = .returned (.agg (IC X)) ∧ Fr [] w w' := by
  go_enter Try.func23, Try.ntmps23
  go_wp2_with (first | (go_at_call 27; refine (hF.out _ ((Fr.refl _ _).alloc _)).mono ?_; rintro e w1 ⟨rfl, hd⟩) | (refine wpList_store_whole rfl 25 _ _ rfl w.heap.size rfl (IC X) rfl 25 _ (hd.keeps (blk_new _ _) (by simp)) rfl (sizeI' _) (IC_one _) ?_; intro w2 h2 hfr2))
  exact ⟨rfl, _, results_c rfl rfl h2 Try.underlying25 rfl (sizeI' _), rfl, (((Fr.refl _ _).alloc _).trans hd).step hfr2 (fun j hj => .inr (by simp at hj; omega))⟩
set_option maxRecDepth 100000 in
set_option maxHeartbeats 4000000 in
theorem pick_r8_no (p n : Int) (g : Nat) (w : World) (hge : decide (8 ≤ n) = true) : Calls Try.prog 23 #[.int .u32 p, .slice (some ⟨g, 0, none⟩) 8 8, .int .u32 n, .func (.func 49) #[.int .u32 p] #[]] w fun e w' => e = .returned (.agg (IC (ilT p))) ∧ Fr [] w w' := by
  go_enter Try.func23, Try.ntmps23
  go_wp2_with (first | (go_at_call 35; refine (il_any p _).mono ?_; rintro e w1 ⟨rfl, hd⟩) | (refine wpList_store_whole rfl 25 _ _ rfl w.heap.size rfl (IC (ilT p)) rfl 25 _ (hd.keeps (blk_new _ _) (by simp)) rfl (sizeI' _) (IC_one _) ?_; intro w2 h2 hfr2))
  exact ⟨rfl, _, results_c rfl rfl h2 Try.underlying25 rfl (sizeI' _), rfl, (((Fr.refl _ _).alloc _).trans hd).step hfr2 (fun j hj => .inr (by simp at hj; omega))⟩
set_option maxRecDepth 100000 in
set_option maxHeartbeats 4000000 in
theorem pick_r8_nil (p n : Int) (g : Nat) (w : World) (h0 : 0 ≤ n) (hlt : n < 8) (hge : decide (8 ≤ n) = false) (hg : g < w.heap.size) (hcell : w.cell? ⟨g, n.toNat, none⟩ = some (.int .u8 0)) : Calls Try.prog 23 #[.int .u32 p, .slice (some ⟨g, 0, none⟩) 8 8, .int .u32 n, .func (.func 49) #[.int .u32 p] #[]] w fun e w' => e = .returned (.agg (IC (ilT p))) ∧ Fr [] w w' := by
  go_enter Try.func23, Try.ntmps23
  go_wp2_with (first | (go_at_call 35; refine (il_any p _).mono ?_; rintro e w1 ⟨rfl, hd⟩) | (refine wpList_store_whole rfl 25 _ _ rfl w.heap.size rfl (IC (ilT p)) rfl 25 _ (hd.keeps (blk_new _ _) (by simp)) rfl (sizeI' _) (IC_one _) ?_; intro w2 h2 hfr2))
  exact ⟨rfl, _, results_c rfl rfl h2 Try.underlying25 rfl (sizeI' _), rfl, (((Fr.refl _ _).alloc _).trans hd).step hfr2 (fun j hj => .inr (by simp at hj; omega))⟩
set_option maxRecDepth 100000 in
set_option maxHeartbeats 4000000 in
theorem pick_r8_yes (p n op : Int) (g : Nat) (X : T7) (w : World) (h0 : 0 ≤ n) (hlt : n < 8) (hge : decide (8 ≤ n) = false) (hg : g < w.heap.size) (hcell : w.cell? ⟨g, n.toNat, none⟩ = some (.int .u8 op)) (hop : (op == 0) = false)
    (hF : Hid (∀ w', Fr [] w w' → Calls Try.prog 49 #[.int .u32 p, .int .u8 op] w' fun e w'' => e = .returned (.agg (IC X)) ∧ Fr [] w' w'')) : Calls Try.prog 23 #[.int .u32 p, .slice (some ⟨g, 0, none⟩) 8 8, .int .u32 n, .func (.func 49) #[.int .u32 p] #[]] w fun e w' => e = .returned (.agg (IC X)) ∧ Fr [] w w' := by
  go_enter Try.func23, Try.ntmps23
  go_wp2_with (first | (go_at_call 49; refine (hF.out _ ((Fr.refl _ _).alloc _)).mono ?_; rintro e w1 ⟨rfl, hd⟩) | (refine wpList_store_whole rfl 25 _ _ rfl w.heap.size rfl (IC X) rfl 25 _ (hd.keeps (blk_new _ _) (by simp)) rfl (sizeI' _) (IC_one _) ?_; intro w2 h2 hfr2))
  exact ⟨rfl, _, results_c rfl rfl h2 Try.underlying25 rfl (sizeI' _), rfl, (((Fr.refl _ _).alloc _).trans hd).step hfr2 (fun j hj => .inr (by simp at hj; omega))⟩
set_option maxRecDepth 100000 in
set_option maxHeartbeats 4000000 in
theorem pick_r6_no (p n : Int) (g : Nat) (w : World) (hge : decide (6 ≤ n) = true) : Calls Try.prog 23 #[.int .u32 p, .slice (some ⟨g, 0, none⟩) 6 6, .int .u32 n, .func (.func 49) #[.int .u32 p] #[]] w fun e w' => e = .returned (.agg (IC (ilT p))) ∧ Fr [] w w' := by
  go_enter Try.func23, Try.ntmps23
  go_wp2_with (first | (go_at_call 35; refine (il_any p _).mono ?_; rintro e w1 ⟨rfl, hd⟩) | (refine wpList_store_whole rfl 25 _ _ rfl w.heap.size rfl (IC (ilT p)) rfl 25 _ (hd.keeps (blk_new _ _) (by simp)) rfl (sizeI' _) (IC_one _) ?_; intro w2 h2 hfr2))
  exact ⟨rfl, _, results_c rfl rfl h2 Try.underlying25 rfl (sizeI' _), rfl, (((Fr.refl _ _).alloc _).trans hd).step hfr2 (fun j hj => .inr (by simp at hj; omega))⟩
set_option maxRecDepth 100000 in
set_option maxHeartbeats 4000000 in
theorem pick_r6_nil (p n : Int) (g : Nat) (w : World) (h0 : 0 ≤ n) (hlt : n < 6) (hge : decide (6 ≤ n) = false) (hg : g < w.heap.size) (hcell : w.cell? ⟨g, n.toNat, none⟩ = some (.int .u8 0)) : Calls Try.prog 23 #[.int .u32 p, .slice (some ⟨g, 0, none⟩) 6 6, .int .u32 n, .func (.func 49) #[.int .u32 p] #[]] w fun e w' => e = .returned (.agg (IC (ilT p))) ∧ Fr [] w w' := by
  go_enter Try.func23, Try.ntmps23
  go_wp2_with (first | (go_at_call 35; refine (il_any p _).mono ?_; rintro e w1 ⟨rfl, hd⟩) | (refine wpList_store_whole rfl 25 _ _ rfl w.heap.size rfl (IC (ilT p)) rfl 25 _ (hd.keeps (blk_new _ _) (by simp)) rfl (sizeI' _) (IC_one _) ?_; intro w2 h2 hfr2))
  exact ⟨rfl, _, results_c rfl rfl h2 Try.underlying25 rfl (sizeI' _), rfl, (((Fr.refl _ _).alloc _).trans hd).step hfr2 (fun j hj => .inr (by simp at hj; omega))⟩
set_option maxRecDepth 100000 in
set_option maxHeartbeats 4000000 in
theorem pick_r6_yes (p n op : Int) (g : Nat) (X : T7) (w : World) (h0 : 0 ≤ n) (hlt : n < 6) (hge : decide (6 ≤ n) = false) (hg : g < w.heap.size) (hcell : w.cell? ⟨g, n.toNat, none⟩ = some (.int .u8 op)) (hop : (op == 0) = false)
    (hF : Hid (∀ w', Fr [] w w' → Calls Try.prog 49 #[.int .u32 p, .int .u8 op] w' fun e w'' => e = .returned (.agg (IC X)) ∧ Fr [] w' w'')) : Calls Try.prog 23 #[.int .u32 p, .slice (some ⟨g, 0, none⟩) 6 6, .int .u32 n, .func (.func 49) #[.int .u32 p] #[]] w fun e w' => e = .returned (.agg (IC X)) ∧ Fr [] w w' := by
  go_enter Try.func23, Try.ntmps23
  go_wp2_with (first | (go_at_call 49; refine (hF.out _ ((Fr.refl _ _).alloc _)).mono ?_; rintro e w1 ⟨rfl, hd⟩) | (refine wpList_store_whole rfl 25 _ _ rfl w.heap.size rfl (IC X) rfl 25 _ (hd.keeps (blk_new _ _) (by simp)) rfl (sizeI' _) (IC_one _) ?_; intro w2 h2 hfr2))
  exact ⟨rfl, _, results_c rfl rfl h2 Try.underlying25 rfl (sizeI' _), rfl, (((Fr.refl _ _).alloc _).trans hd).step hfr2 (fun j hj => .inr (by simp at hj; omega))⟩
set_option maxRecDepth 100000 in
set_option maxHeartbeats 4000000 in
theorem pick_r29_no (p n : Int) (g : Nat) (w : World) (hge : decide (29 ≤ n) = true) : Calls Try.prog 23 #[.int .u32 p, .slice (some ⟨g, 0, none⟩) 29 29, .int .u32 n, .func (.func 49) #[.int .u32 p] #[]] w fun e w' => e = .returned (.agg (IC (ilT p))) ∧ Fr [] w w' := by
  go_enter Try.func23, Try.ntmps23
  go_wp2_with (first | (go_at_call 35; refine (il_any p _).mono ?_; rintro e w1 ⟨rfl, hd⟩) | (refine wpList_store_whole rfl 25 _ _ rfl w.heap.size rfl (IC (ilT p)) rfl 25 _ (hd.keeps (blk_new _ _) (by simp)) rfl (sizeI' _) (IC_one _) ?_; intro w2 h2 hfr2))
  exact ⟨rfl, _, results_c rfl rfl h2 Try.underlying25 rfl (sizeI' _), rfl, (((Fr.refl _ _).alloc _).trans hd).step hfr2 (fun j hj => .inr (by simp at hj; omega))⟩
set_option maxRecDepth 100000 in
set_option maxHeartbeats 4000000 in
theorem pick_r29_nil (p n : Int) (g : Nat) (w : World) (h0 : 0 ≤ n) (hlt : n < 29) (hge : decide (29 ≤ n) = false) (hg : g < w.heap.size) (hcell : w.cell? ⟨g, n.toNat, none⟩ = some (.int .u8 0)) : Calls Try.prog 23 #[.int .u32 p, .slice (some ⟨g, 0, none⟩) 29 29, .int .u32 n, .func (.func 49) #[.int .u32 p] #[]] w fun e w' => e = .returned (.agg (IC (ilT p))) ∧ Fr [] w w' := by
  go_enter Try.func23, Try.ntmps23
  go_wp2_with (first | (go_at_call 35; refine (il_any p _).mono ?_; rintro e w1 ⟨rfl, hd⟩) | (refine wpList_store_whole rfl 25 _ _ rfl w.heap.size rfl (IC (ilT p)) rfl 25 _ (hd.keeps (blk_new _ _) (by simp)) rfl (sizeI' _) (IC_one _) ?_; intro w2 h2 hfr2))
  exact ⟨rfl, _, results_c rfl rfl h2 Try.underlying25 rfl (sizeI' _), rfl, (((Fr.refl _ _).alloc _).trans hd).step hfr2 (fun j hj => .inr (by simp at hj; omega))⟩
set_option maxRecDepth 100000 in
set_option maxHeartbeats 4000000 in
theorem pick_r29_yes (p n op : Int) (g : Nat) (X : T7) (w : World) (h0 : 0 ≤ n) (hlt : n < 29) (hge : decide (29 ≤ n) = false) (hg : g < w.heap.size) (hcell : w.cell? ⟨g, n.toNat, none⟩ = some (.int .u8 op)) (hop : (op == 0) = false)
    (hF : Hid (∀ w', Fr [] w w' → Calls Try.prog 49 #[.int .u32 p, .int .u8 op] w' fun e w'' => e = .returned (.agg (IC X)) ∧ Fr [] w' w'')) : Calls Try.prog 23 #[.int .u32 p, .slice (some ⟨g, 0, none⟩) 29 29, .int .u32 n, .func (.func 49) #[.int .u32 p] #[]] w fun e w' => e = .returned (.agg (IC X)) ∧ Fr [] w w' := by
  go_enter Try.func23, Try.ntmps23
  go_wp2_with (first | (go_at_call 49; refine (hF.out _ ((Fr.refl _ _).alloc _)).mono ?_; rintro e w1 ⟨rfl, hd⟩) | (refine wpList_store_whole rfl 25 _ _ rfl w.heap.size rfl (IC X) rfl 25 _ (hd.keeps (blk_new _ _) (by simp)) rfl (sizeI' _) (IC_one _) ?_; intro w2 h2 hfr2))
  exact ⟨rfl, _, results_c rfl rfl h2 Try.underlying25 rfl (sizeI' _), rfl, (((Fr.refl _ _).alloc _).trans hd).step hfr2 (fun j hj => .inr (by simp at hj; omega))⟩
set_option maxRecDepth 100000 in
set_option maxHeartbeats 4000000 in
theorem pick_f2_no (p n : Int) (g : Nat) (w : World) (hge : decide (2 ≤ n) = true) : Calls Try.prog 23 #[.int .u32 p, .slice (some ⟨g, 0, none⟩) 2 2, .int .u32 n, .func (.func 32) #[] #[]] w fun e w' => e = .returned (.agg (IC (ilT p))) ∧ Fr [] w w' := by
  go_enter Try.func23, Try.ntmps23
  go_wp2_with (first | (go_at_call 35; refine (il_any p _).mono ?_; rintro e w1 ⟨rfl, hd⟩) | (refine wpList_store_whole rfl 25 _ _ rfl w.heap.size rfl (IC (ilT p)) rfl 25 _ (hd.keeps (blk_new _ _) (by simp)) rfl (sizeI' _) (IC_one _) ?_; intro w2 h2 hfr2))
  exact ⟨rfl, _, results_c rfl rfl h2 Try.underlying25 rfl (sizeI' _), rfl, (((Fr.refl _ _).alloc _).trans hd).step hfr2 (fun j hj => .inr (by simp at hj; omega))⟩
set_option maxRecDepth 100000 in
set_option maxHeartbeats 4000000 in
theorem pick_f2_nil (p n : Int) (g : Nat) (w : World) (h0 : 0 ≤ n) (hlt : n < 2) (hge : decide (2 ≤ n) = false) (hg : g < w.heap.size) (hcell : w.cell? ⟨g, n.toNat, none⟩ = some (.int .u8 0)) : Calls Try.prog 23 #[.int .u32 p, .slice (some ⟨g, 0, none⟩) 2 2, .int .u32 n, .func (.func 32) #[] #[]] w fun e w' => e = .returned (.agg (IC (ilT p))) ∧ Fr [] w w' := by
  go_enter Try.func23, Try.ntmps23
  go_wp2_with (first | (go_at_call 35; refine (il_any p _).mono ?_; rintro e w1 ⟨rfl, hd⟩) | (refine wpList_store_whole rfl 25 _ _ rfl w.heap.size rfl (IC (ilT p)) rfl 25 _ (hd.keeps (blk_new _ _) (by simp)) rfl (sizeI' _) (IC_one _) ?_; intro w2 h2 hfr2))
  exact ⟨rfl, _, results_c rfl rfl h2 Try.underlying25 rfl (sizeI' _), rfl, (((Fr.refl _ _).alloc _).trans hd).step hfr2 (fun j hj => .inr (by simp at hj; omega))⟩
set_option maxRecDepth 100000 in
set_option maxHeartbeats 4000000 in
theorem pick_f2_yes (p n op : Int) (g : Nat) (X : T7) (w : World) (h0 : 0 ≤ n) (hlt : n < 2) (hge : decide (2 ≤ n) = false) (hg : g < w.heap.size) (hcell : w.cell? ⟨g, n.toNat, none⟩ = some (.int .u8 op)) (hop : (op == 0) = false)
    (hF : Hid (∀ w', Fr [] w w' → Calls Try.prog 32 #[.int .u8 op] w' fun e w'' => e = .returned (.agg (IC X)) ∧ Fr [] w' w'')) : Calls Try.prog 23 #[.int .u32 p, .slice (some ⟨g, 0, none⟩) 2 2, .int .u32 n, .func (.func 32) #[] #[]] w fun e w' => e = .returned (.agg (IC X)) ∧ Fr [] w w' := by
  go_enter Try.func23, Try.ntmps23
  go_wp2_with (first | (go_at_call 32; refine (hF.out _ ((Fr.refl _ _).alloc _)).mono ?_; rintro e w1 ⟨rfl, hd⟩) | (refine wpList_store_whole rfl 25 _ _ rfl w.heap.size rfl (IC X) rfl 25 _ (hd.keeps (blk_new _ _) (by simp)) rfl (sizeI' _) (IC_one _) ?_; intro w2 h2 hfr2))
  exact ⟨rfl, _, results_c rfl rfl h2 Try.underlying25 rfl (sizeI' _), rfl, (((Fr.refl _ _).alloc _).trans hd).step hfr2 (fun j hj => .inr (by simp at hj; omega))⟩
set_option maxRecDepth 100000 in
set_option maxHeartbeats 4000000 in
theorem pick_y8_no (p n : Int) (g : Nat) (bx : Nat) (w : World) (hge : decide (8 ≤ n) = true) : Calls Try.prog 23 #[.int .u32 p, .slice (some ⟨g, 0, none⟩) 8 8, .int .u32 n, .func (.func 50) #[] #[.pointer (some ⟨bx, 0, none⟩)]] w fun e w' => e = .returned (.agg (IC (ilT p))) ∧ Fr [] w w' := by
  go_enter Try.func23, Try.ntmps23
  go_wp2_with (first | (go_at_call 35; refine (il_any p _).mono ?_; rintro e w1 ⟨rfl, hd⟩) | (refine wpList_store_whole rfl 25 _ _ rfl w.heap.size rfl (IC (ilT p)) rfl 25 _ (hd.keeps (blk_new _ _) (by simp)) rfl (sizeI' _) (IC_one _) ?_; intro w2 h2 hfr2))
  exact ⟨rfl, _, results_c rfl rfl h2 Try.underlying25 rfl (sizeI' _), rfl, (((Fr.refl _ _).alloc _).trans hd).step hfr2 (fun j hj => .inr (by simp at hj; omega))⟩
set_option maxRecDepth 100000 in
set_option maxHeartbeats 4000000 in
theorem pick_y8_nil (p n : Int) (g : Nat) (bx : Nat) (w : World) (h0 : 0 ≤ n) (hlt : n < 8) (hge : decide (8 ≤ n) = false) (hg : g < w.heap.size) (hcell : w.cell? ⟨g, n.toNat, none⟩ = some (.int .u8 0)) : Calls Try.prog 23 #[.int .u32 p, .slice (some ⟨g, 0, none⟩) 8 8, .int .u32 n, .func (.func 50) #[] #[.pointer (some ⟨bx, 0, none⟩)]] w fun e w' => e = .returned (.agg (IC (ilT p))) ∧ Fr [] w w' := by
  go_enter Try.func23, Try.ntmps23
  go_wp2_with (first | (go_at_call 35; refine (il_any p _).mono ?_; rintro e w1 ⟨rfl, hd⟩) | (refine wpList_store_whole rfl 25 _ _ rfl w.heap.size rfl (IC (ilT p)) rfl 25 _ (hd.keeps (blk_new _ _) (by simp)) rfl (sizeI' _) (IC_one _) ?_; intro w2 h2 hfr2))
  exact ⟨rfl, _, results_c rfl rfl h2 Try.underlying25 rfl (sizeI' _), rfl, (((Fr.refl _ _).alloc _).trans hd).step hfr2 (fun j hj => .inr (by simp at hj; omega))⟩
set_option maxRecDepth 100000 in
set_option maxHeartbeats 4000000 in
theorem pick_y8_yes (p n op : Int) (g : Nat) (bx : Nat) (X : T7) (w : World) (h0 : 0 ≤ n) (hlt : n < 8) (hge : decide (8 ≤ n) = false) (hg : g < w.heap.size) (hcell : w.cell? ⟨g, n.toNat, none⟩ = some (.int .u8 op)) (hop : (op == 0) = false)
    (hF : Hid (∀ w', Fr [] w w' → Calls Try.prog 50 #[.int .u8 op, .pointer (some ⟨bx, 0, none⟩)] w' fun e w'' => e = .returned (.agg (IC X)) ∧ Fr [] w' w'')) : Calls Try.prog 23 #[.int .u32 p, .slice (some ⟨g, 0, none⟩) 8 8, .int .u32 n, .func (.func 50) #[] #[.pointer (some ⟨bx, 0, none⟩)]] w fun e w' => e = .returned (.agg (IC X)) ∧ Fr [] w w' := by
  go_enter Try.func23, Try.ntmps23
  go_wp2_with (first | (go_at_call 50; refine (hF.out _ ((Fr.refl _ _).alloc _)).mono ?_; rintro e w1 ⟨rfl, hd⟩) | (refine wpList_store_whole rfl 25 _ _ rfl w.heap.size rfl (IC X) rfl 25 _ (hd.keeps (blk_new _ _) (by simp)) rfl (sizeI' _) (IC_one _) ?_; intro w2 h2 hfr2))
  exact ⟨rfl, _, results_c rfl rfl h2 Try.underlying25 rfl (sizeI' _), rfl, (((Fr.refl _ _).alloc _).trans hd).step hfr2 (fun j hj => .inr (by simp at hj; omega))⟩
end Go.Proofs.Ytogdifjdlkpehaa.PA
