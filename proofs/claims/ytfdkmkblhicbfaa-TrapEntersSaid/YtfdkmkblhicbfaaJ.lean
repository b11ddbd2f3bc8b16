/- The law TrapEnters without its row: the state, mode and pc behind any trap, of the program and of its reference, are the same. -/
import Derived.Test.YtfdkmkblhicbfaaH
import Derived.Test.YtfdkmkblhicbfaaEq
namespace Go.Proofs.Ytfdkmkblhicbfaa
set_option linter.all false
open Go.RowKit

set_option maxRecDepth 100000 in
set_option maxHeartbeats 4000000 in
theorem law_TrapEnters (s : Nat → BitVec 64) (m : Int) (pc c tv : BitVec 64) (it : Bool) (w : World) (h0 : 0 ≤ m) (hc : U c < 256) :
    Calls Try.prog 4 #[.agg (stC s), .agg #[.int .u8 m, .int .u64 (U pc)], .agg #[.int .u8 (U c), .bool it, .int .u64 (U tv)]] w fun e w' => e = .returned (.bool true) ∧ Fr [] w w' := by
  have hp := hid fun w => enter_any s m pc c tv it w h0 hc
  have hq := hid fun w => refEnter_any s m pc c tv it w h0 hc
  generalize stE s (rm m) pc c it tv = S at hp hq
  generalize lvE s (rm m) c it = L at hp hq
  generalize wyE s (rm m) c it = Y at hp hq
  have hi31 : ∀ S, (Try.prog.info? 25).map (·.size) = some (stC S).size := size25'
  go_enter Try.func4, Try.ntmps4
  go_upto_region 1 with (fail)
  refine world_at (fun W => W.heap[w.heap.size]? = some (.cells (stC s) 25) ∧ W.heap[w.heap.size + 1]? = some (.cells #[.int .u8 m, .int .u64 (U pc)] 32) ∧ W.heap[w.heap.size + 1 + 1]? = some (.cells #[.int .u8 (U c), .bool it, .int .u64 (U tv)] 34) ∧ Fr [] w W) ⟨blk_alloc (blk_alloc (blk_new _ _) _) _, blk_alloc (blk_new' (by simp) _) _, blk_new' (by simp) _, (((Fr.refl _ _).alloc _).alloc _).alloc _⟩ ?_
  rintro W ⟨bS, bX, bT, hF⟩
  have cX := blk_cell bX
  have HS := hid bS
  have HX := hid bX
  have HT := hid bT
  clear bS bX bT
  go_upto_region 2 with (first | (refine wpList_load_row rfl 25 _ rfl w.heap.size rfl 25 (stC s) (0, 0) _ HS.out Try.underlying25 rfl (by kernel_rfl) ?_) | (refine wpList_load_row rfl 34 _ rfl (w.heap.size + 1 + 1) rfl 34 #[.int .u8 (U c), .bool it, .int .u64 (U tv)] (0, 0) _ HT.out Try.underlying34 rfl (by kernel_rfl) ?_) | (go_at_call 15; refine (hp.out _).mono ?_; rintro e w1 ⟨rfl, hd⟩) | (refine wpList_store_whole rfl 25 _ _ rfl w1.heap.size rfl (stC S) rfl 25 _ (blk_new _ _) rfl (hi31 S) (oneCell_stC _) ?_; intro w2 h2 hfr2))
  have hd2 : Fr [] W w2 := (hd.alloc _).step hfr2 (fun j hj => .inr (by have := hd.size; simp at hj; omega))
  have hlt : w.heap.size + 1 + 1 < w1.heap.size := Nat.lt_of_lt_of_le (lt_of_block HT.out) hd.size
  clear cX hfr2
  refine world_at (fun W' => W'.heap[w.heap.size]? = some (.cells (stC s) 25) ∧ W'.heap[w.heap.size + 1]? = some (.cells #[.int .u8 m, .int .u64 (U pc)] 32) ∧ W'.heap[w.heap.size + 1 + 1]? = some (.cells #[.int .u8 (U c), .bool it, .int .u64 (U tv)] 34) ∧ W'.heap[w1.heap.size]? = some (.cells (stC S) 25) ∧ Fr [] w W') ⟨hd2.keeps HS.out (by simp), hd2.keeps HX.out (by simp), hd2.keeps HT.out (by simp), h2, hF.trans hd2⟩ ?_
  clear hd hd2 h2 HS HX HT hF
  rintro W' ⟨bS, bX, bT, bA, hF⟩
  have cX := blk_cell bX
  have cT := blk_cell bT
  have HS := hid bS
  have HA := hid bA
  clear bS bX bT bA
  go_upto_region 3 with (first | (refine wpList_load_row rfl 25 _ rfl w.heap.size rfl 25 (stC s) (0, 0) _ HS.out Try.underlying25 rfl (by kernel_rfl) ?_) | (go_at_call 16; refine (hq.out _).mono ?_; rintro e w3 ⟨rfl, hd⟩) | (refine wpList_store_whole rfl 25 _ _ rfl w3.heap.size rfl (stC S) rfl 25 _ (blk_new _ _) rfl (hi31 S) (oneCell_stC _) ?_; intro w4 h4 hfr4))
  have hd2 : Fr [] W' w4 := (hd.alloc _).step hfr4 (fun j hj => .inr (by have := hd.size; simp at hj; omega))
  clear cX cT hfr4
  refine world_at (fun W => W.heap[w1.heap.size]? = some (.cells (stC S) 25) ∧ W.heap[w3.heap.size]? = some (.cells (stC S) 25) ∧ Fr [] w W) ⟨hd2.keeps HA.out (by simp), h4, hF.trans hd2⟩ ?_
  clear hd hd2 h4 HA HS hF
  rintro W2 ⟨bA, bB, hF⟩
  have HA := hid bA
  have HB := hid bB
  clear bA bB
  have heq := eq_arr S
  go_wp2_with (first | (refine wpList_load_row rfl 25 _ rfl w1.heap.size rfl 25 (stC S) (0, 0) _ HA.out Try.underlying25 rfl (hi31 S) ?_) | (refine wpList_load_row rfl 25 _ rfl w3.heap.size rfl 25 (stC S) (0, 0) _ HB.out Try.underlying25 rfl (hi31 S) ?_) | (go_at_call 14; refine (works_any _).mono ?_; rintro e w5 ⟨rfl, hd⟩))
  go_ret
  exact ⟨rfl, hF.trans hd⟩
end Go.Proofs.Ytfdkmkblhicbfaa
