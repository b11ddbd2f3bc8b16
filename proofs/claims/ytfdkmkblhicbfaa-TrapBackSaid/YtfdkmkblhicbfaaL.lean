/- The law TrapBack without its row: a trap that is left leads back. -/
import Derived.Test.YtfdkmkblhicbfaaK
namespace Go.Proofs.Ytfdkmkblhicbfaa
open Go.RowKit
set_option linter.all false

/-- a mode that there is, of any number -/
def lwM (m : Int) : Int := if m % 3 = 0 then 0 else if m % 3 = 1 then 1 else 3
theorem lower_ix (m : Int) (w : World) : (Instr.index 59 (.agg #[.int .u8 0, .int .u8 1, .int .u8 3]) (.int .u8 (m % 3))).run Try.prog w = .ok (.int .u8 (lwM m)) w := by
  unfold lwM
  rcases (by omega : m % 3 = 0 ∨ m % 3 = 1 ∨ m % 3 = 2) with h | h | h
  · rw [h]; kernel_rfl
  · rw [h]; kernel_rfl
  · rw [h]; kernel_rfl
set_option maxHeartbeats 400000 in
theorem lower_any (m : Int) (w : World) (h0 : 0 ≤ m) : Calls Try.prog 17 #[.int .u8 m] w fun e w' => e = .returned (.int .u8 (lwM m)) ∧ w = w' := by
  have hx := lower_ix m
  go_enter Try.func17, Try.ntmps17
  go_wp2
  go_ret
  exact ⟨rfl, rfl⟩

theorem bt {x : BitVec 64} {i j : Nat} (h : i = j) : x.getLsbD i = x.getLsbD j := by rw [h]

set_option maxRecDepth 100000 in
set_option maxHeartbeats 4000000 in
theorem back_0S (s : Nat → BitVec 64) (m : Int) (pc c tv : BitVec 64) (it : Bool) (w : World) (h0 : 0 ≤ m) (hc : U c < 256) (hl : lwM m = 0) (I O Wt : Nat → BitVec 64) (Y : Int)
    (hI : ∀ w, Calls Try.prog 15 #[.agg (stC (upd s 1 (s 1 &&& ~~~131072#64))), .int .u8 0, .int .u64 (U pc), .agg #[.int .u8 (U c), .bool it, .int .u64 (U tv)]] w fun e w' => e = .returned (.tuple #[.agg (stC I), .int .u8 1, .int .u64 Y]) ∧ Fr [] w w')
    (hO : ∀ w, Calls Try.prog 21 #[.agg (stC I), .int .u8 1] w fun e w' => e = .returned (.tuple #[.agg (stC O), .int .u8 0, .int .u64 (U (pc &&& ~~~1#64))]) ∧ Fr [] w w')
    (hW : O = upd (upd (upd (upd (upd s 1 (s 1 &&& ~~~131072#64)) 14 (I 14)) 15 (I 15)) 16 (I 16)) 1 ((upd s 1 (s 1 &&& ~~~131072#64)) 1 &&& ~~~256#64 ||| 32#64)) :
    Calls Try.prog 8 #[.agg (stC s), .agg #[.int .u8 m, .int .u64 (U pc)], .agg #[.int .u8 (U c), .bool it, .int .u64 (U tv)]] w fun e w' => e = .returned (.bool true) ∧ Fr [] w w' := by
  have HI := hid hI
  have HO := hid hO
  have HW := hid hW
  have Hl := hid (fun w => lower_any m w h0)
  clear hI hO hW
  go_enter Try.func8, Try.ntmps8
  go_upto_region 1 with (fail)
  refine world_at (fun W0 => W0.heap[w.heap.size]? = some (.cells (stC s) 25) ∧ W0.heap[w.heap.size + 1]? = some (.cells (#[.int .u8 m, .int .u64 (U pc)]) 32) ∧ W0.heap[w.heap.size + 1 + 1]? = some (.cells (#[.int .u8 (U c), .bool it, .int .u64 (U tv)]) 34) ∧ Fr [] w W0) ⟨(blk_alloc (blk_alloc (blk_new _ _) _) _), (blk_alloc (blk_new' (by simp) _) _), (blk_new' (by simp) _), ((((Fr.refl _ _).alloc _).alloc _).alloc _)⟩ ?_
  rintro W0 ⟨bS, bX, bT, hF⟩
  have HS := hid bS
  have HX := hid bX
  have HT := hid bT
  clear bS bX bT
  have cX := blk_cell HX.out
  have cS := blk_cell HS.out
  have fS := blk_free HS.out
  go_upto_region 4 with (go_at_call 17; refine (Hl.out _).mono ?_; rintro e w' ⟨rfl, rfl⟩; rw [hl])
  refine world_at (fun W1 => W1.heap[w.heap.size]? = some (.cells (stC (upd s 1 (s 1 &&& ~~~131072#64))) 25) ∧ W1.heap[w.heap.size + 1]? = some (.cells (#[.int .u8 m, .int .u64 (U pc)]) 32) ∧ W1.heap[w.heap.size + 1 + 1]? = some (.cells (#[.int .u8 (U c), .bool it, .int .u64 (U tv)]) 34) ∧ Fr [] w W1) ⟨st_set HS.out 1 _, blk_set_keep HX.out _ _ (by show _ ≠ w.heap.size; omega), blk_set_keep HT.out _ _ (by show _ ≠ w.heap.size; omega), hF.setCell (.inr (by simp)) _⟩ ?_
  clear HS HX HT hF cX cS fS
  rintro W1 ⟨bS, bX, bT, hF⟩
  have HS := hid bS
  have HX := hid bX
  have HT := hid bT
  clear bS bX bT
  have cX := blk_cell HX.out
  go_upto_region 5 with (first | (refine wpList_load_row_g (by rfl) 25 _ rfl (w.heap.size) rfl 25 (stC (upd s 1 (s 1 &&& ~~~131072#64))) (0, 0) _ HS.out Try.underlying25 rfl (size25' _) ?_) | (refine wpList_load_row_g (by rfl) 32 _ rfl (w.heap.size + 1) rfl 32 (#[.int .u8 m, .int .u64 (U pc)]) (0, 0) _ HX.out Try.underlying32 rfl (by kernel_rfl) ?_) | (refine wpList_load_row_g (by rfl) 34 _ rfl (w.heap.size + 1 + 1) rfl 34 (#[.int .u8 (U c), .bool it, .int .u64 (U tv)]) (0, 0) _ HT.out Try.underlying34 rfl (by kernel_rfl) ?_) | (go_at_call 15; refine (HI.out _).mono ?_; rintro e wa2 ⟨rfl, hd⟩) | (refine wpList_store_whole rfl 25 _ _ rfl wa2.heap.size rfl (stC I) rfl 25 _ (blk_new _ _) rfl (size25' _) (oneCell_stC _) ?_; intro wb2 h2 hfr2))
  have hd2 : Fr [] W1 wb2 := (hd.alloc _).step hfr2 (fun j hj => .inr (by have := hd.size; simp at hj; omega))
  clear hfr2
  refine world_at (fun W2 => W2.heap[w.heap.size]? = some (.cells (stC (upd s 1 (s 1 &&& ~~~131072#64))) 25) ∧ W2.heap[w.heap.size + 1]? = some (.cells (#[.int .u8 m, .int .u64 (U pc)]) 32) ∧ W2.heap[w.heap.size + 1 + 1]? = some (.cells (#[.int .u8 (U c), .bool it, .int .u64 (U tv)]) 34) ∧ W2.heap[wa2.heap.size]? = some (.cells (stC I) 25) ∧ Fr [] w W2) ⟨hd2.keeps HS.out (by simp), hd2.keeps HX.out (by simp), hd2.keeps HT.out (by simp), h2, hF.trans hd2⟩ ?_
  clear HS HX HT hF cX hd hd2 h2
  rintro W2 ⟨bS, bX, bT, bI, hF⟩
  have HS := hid bS
  have HX := hid bX
  have HT := hid bT
  have HI := hid bI
  clear bS bX bT bI
  go_upto_region 7 with (first | (refine wpList_load_row_g (by rfl) 25 _ rfl (w.heap.size) rfl 25 (stC (upd s 1 (s 1 &&& ~~~131072#64))) (0, 0) _ HS.out Try.underlying25 rfl (size25' _) ?_) | (refine wpList_load_row_g (by rfl) 32 _ rfl (w.heap.size + 1) rfl 32 (#[.int .u8 m, .int .u64 (U pc)]) (0, 0) _ HX.out Try.underlying32 rfl (by kernel_rfl) ?_) | (refine wpList_load_row_g (by rfl) 34 _ rfl (w.heap.size + 1 + 1) rfl 34 (#[.int .u8 (U c), .bool it, .int .u64 (U tv)]) (0, 0) _ HT.out Try.underlying34 rfl (by kernel_rfl) ?_) | (refine wpList_load_row_g (by rfl) 25 _ rfl (wa2.heap.size) rfl 25 (stC I) (0, 0) _ HI.out Try.underlying25 rfl (size25' _) ?_) | (go_at_call 21; refine (HO.out _).mono ?_; rintro e wa3 ⟨rfl, hd⟩) | (refine wpList_store_whole rfl 25 _ _ rfl wa3.heap.size rfl (stC O) rfl 25 _ (blk_new _ _) rfl (size25' _) (oneCell_stC _) ?_; intro wb3 h2 hfr2))
  have hd2 : Fr [] W2 wb3 := (hd.alloc _).step hfr2 (fun j hj => .inr (by have := hd.size; simp at hj; omega))
  clear hfr2
  refine world_at (fun W3 => W3.heap[w.heap.size]? = some (.cells (stC (upd s 1 (s 1 &&& ~~~131072#64))) 25) ∧ W3.heap[w.heap.size + 1]? = some (.cells (#[.int .u8 m, .int .u64 (U pc)]) 32) ∧ W3.heap[w.heap.size + 1 + 1]? = some (.cells (#[.int .u8 (U c), .bool it, .int .u64 (U tv)]) 34) ∧ W3.heap[wa2.heap.size]? = some (.cells (stC I) 25) ∧ W3.heap[wa3.heap.size]? = some (.cells (stC O) 25) ∧ Fr [] w W3) ⟨hd2.keeps HS.out (by simp), hd2.keeps HX.out (by simp), hd2.keeps HT.out (by simp), hd2.keeps HI.out (by simp), h2, hF.trans hd2⟩ ?_
  clear HS HX HT HI hF hd hd2 h2
  rintro W3 ⟨bS, bX, bT, bI, bO, hF⟩
  have HS := hid bS
  have HX := hid bX
  have HT := hid bT
  have HI := hid bI
  have HO := hid bO
  clear bS bX bT bI bO
  go_upto_region 8 with (first | (refine wpList_load_row_g (by rfl) 25 _ rfl (w.heap.size) rfl 25 (stC (upd s 1 (s 1 &&& ~~~131072#64))) (0, 0) _ HS.out Try.underlying25 rfl (size25' _) ?_) | (refine wpList_load_row_g (by rfl) 32 _ rfl (w.heap.size + 1) rfl 32 (#[.int .u8 m, .int .u64 (U pc)]) (0, 0) _ HX.out Try.underlying32 rfl (by kernel_rfl) ?_) | (refine wpList_load_row_g (by rfl) 34 _ rfl (w.heap.size + 1 + 1) rfl 34 (#[.int .u8 (U c), .bool it, .int .u64 (U tv)]) (0, 0) _ HT.out Try.underlying34 rfl (by kernel_rfl) ?_) | (refine wpList_load_row_g (by rfl) 25 _ rfl (wa2.heap.size) rfl 25 (stC I) (0, 0) _ HI.out Try.underlying25 rfl (size25' _) ?_) | (refine wpList_load_row_g (by rfl) 25 _ rfl (wa3.heap.size) rfl 25 (stC O) (0, 0) _ HO.out Try.underlying25 rfl (size25' _) ?_) | (refine wpList_store_whole rfl 25 _ _ rfl W3.heap.size rfl (stC (upd s 1 (s 1 &&& ~~~131072#64))) rfl 25 _ (blk_new _ _) rfl (size25' _) (oneCell_stC _) ?_; intro wk h2 hfr2))
  have hd2 : Fr [] W3 wk := ((Fr.refl _ _).alloc _).step hfr2 (fun j hj => .inr (by simp at hj; omega))
  clear hfr2
  have aS : w.heap.size < W3.heap.size := lt_of_block HS.out
  have aX : w.heap.size + 1 < W3.heap.size := lt_of_block HX.out
  have aT : w.heap.size + 1 + 1 < W3.heap.size := lt_of_block HT.out
  have aI : wa2.heap.size < W3.heap.size := lt_of_block HI.out
  have aO : wa3.heap.size < W3.heap.size := lt_of_block HO.out
  refine world_at (fun W4 => W4.heap[w.heap.size]? = some (.cells (stC (upd s 1 (s 1 &&& ~~~131072#64))) 25) ∧ W4.heap[w.heap.size + 1]? = some (.cells (#[.int .u8 m, .int .u64 (U pc)]) 32) ∧ W4.heap[w.heap.size + 1 + 1]? = some (.cells (#[.int .u8 (U c), .bool it, .int .u64 (U tv)]) 34) ∧ W4.heap[wa2.heap.size]? = some (.cells (stC I) 25) ∧ W4.heap[wa3.heap.size]? = some (.cells (stC O) 25) ∧ W4.heap[W3.heap.size]? = some (.cells (stC (upd s 1 (s 1 &&& ~~~131072#64))) 25) ∧ Fr [] w W4) ⟨hd2.keeps HS.out (by simp), hd2.keeps HX.out (by simp), hd2.keeps HT.out (by simp), hd2.keeps HI.out (by simp), hd2.keeps HO.out (by simp), h2, hF.trans hd2⟩ ?_
  clear HS HX HT HI HO hF hd2 h2
  rintro W4 ⟨bS, bX, bT, bI, bO, bK, hF⟩
  have HS := hid bS
  have HX := hid bX
  have HT := hid bT
  have HI := hid bI
  have HO := hid bO
  have HK := hid bK
  clear bS bX bT bI bO bK
  have cI := blk_cell HI.out
  have cK := blk_cell HK.out
  have cX := blk_cell HX.out
  have fK := blk_free HK.out
  go_upto_region 12 with (fail)
  refine world_at (fun W5 => W5.heap[w.heap.size]? = some (.cells (stC (upd s 1 (s 1 &&& ~~~131072#64))) 25) ∧ W5.heap[w.heap.size + 1]? = some (.cells (#[.int .u8 m, .int .u64 (U pc)]) 32) ∧ W5.heap[w.heap.size + 1 + 1]? = some (.cells (#[.int .u8 (U c), .bool it, .int .u64 (U tv)]) 34) ∧ W5.heap[wa2.heap.size]? = some (.cells (stC I) 25) ∧ W5.heap[wa3.heap.size]? = some (.cells (stC O) 25) ∧ W5.heap[W3.heap.size]? = some (.cells (stC O) 25) ∧ Fr [] w W5) ⟨(blk_set_keep (blk_set_keep (blk_set_keep (blk_set_keep HS.out _ _ (by show _ ≠ W3.heap.size; omega)) _ _ (by show _ ≠ W3.heap.size; omega)) _ _ (by show _ ≠ W3.heap.size; omega)) _ _ (by show _ ≠ W3.heap.size; omega)), (blk_set_keep (blk_set_keep (blk_set_keep (blk_set_keep HX.out _ _ (by show _ ≠ W3.heap.size; omega)) _ _ (by show _ ≠ W3.heap.size; omega)) _ _ (by show _ ≠ W3.heap.size; omega)) _ _ (by show _ ≠ W3.heap.size; omega)), (blk_set_keep (blk_set_keep (blk_set_keep (blk_set_keep HT.out _ _ (by show _ ≠ W3.heap.size; omega)) _ _ (by show _ ≠ W3.heap.size; omega)) _ _ (by show _ ≠ W3.heap.size; omega)) _ _ (by show _ ≠ W3.heap.size; omega)), (blk_set_keep (blk_set_keep (blk_set_keep (blk_set_keep HI.out _ _ (by show _ ≠ W3.heap.size; omega)) _ _ (by show _ ≠ W3.heap.size; omega)) _ _ (by show _ ≠ W3.heap.size; omega)) _ _ (by show _ ≠ W3.heap.size; omega)), (blk_set_keep (blk_set_keep (blk_set_keep (blk_set_keep HO.out _ _ (by show _ ≠ W3.heap.size; omega)) _ _ (by show _ ≠ W3.heap.size; omega)) _ _ (by show _ ≠ W3.heap.size; omega)) _ _ (by show _ ≠ W3.heap.size; omega)), cells_eq (st_set (st_set (st_set (st_set HK.out 14 _) 15 _) 16 _) 1 _) (by rw [HW.out]; rfl), ((((hF.setCell (.inr (by show w.heap.size ≤ W3.heap.size; omega)) _).setCell (.inr (by show w.heap.size ≤ W3.heap.size; omega)) _).setCell (.inr (by show w.heap.size ≤ W3.heap.size; omega)) _).setCell (.inr (by show w.heap.size ≤ W3.heap.size; omega)) _)⟩ ?_
  clear HS HX HT HI HO HK hF cI cK cX fK
  rintro W5 ⟨bS, bX, bT, bI, bO, bK, hF⟩
  have HS := hid bS
  have HX := hid bX
  have HT := hid bT
  have HI := hid bI
  have HO := hid bO
  have HK := hid bK
  clear bS bX bT bI bO bK
  have cX := blk_cell HX.out
  have hq := eq_arr O
  go_wp2_with (first | (refine wpList_load_row_g (by rfl) 25 _ rfl (w.heap.size) rfl 25 (stC (upd s 1 (s 1 &&& ~~~131072#64))) (0, 0) _ HS.out Try.underlying25 rfl (size25' _) ?_) | (refine wpList_load_row_g (by rfl) 32 _ rfl (w.heap.size + 1) rfl 32 (#[.int .u8 m, .int .u64 (U pc)]) (0, 0) _ HX.out Try.underlying32 rfl (by kernel_rfl) ?_) | (refine wpList_load_row_g (by rfl) 34 _ rfl (w.heap.size + 1 + 1) rfl 34 (#[.int .u8 (U c), .bool it, .int .u64 (U tv)]) (0, 0) _ HT.out Try.underlying34 rfl (by kernel_rfl) ?_) | (refine wpList_load_row_g (by rfl) 25 _ rfl (wa2.heap.size) rfl 25 (stC I) (0, 0) _ HI.out Try.underlying25 rfl (size25' _) ?_) | (refine wpList_load_row_g (by rfl) 25 _ rfl (wa3.heap.size) rfl 25 (stC O) (0, 0) _ HO.out Try.underlying25 rfl (size25' _) ?_) | (refine wpList_load_row_g (by rfl) 25 _ rfl (W3.heap.size) rfl 25 (stC O) (0, 0) _ HK.out Try.underlying25 rfl (size25' _) ?_) | (go_at_call 14; refine (works_any _).mono ?_; rintro e w9 ⟨rfl, hd⟩))
  go_ret
  exact ⟨rfl, hF.trans hd⟩

set_option maxRecDepth 100000 in
set_option maxHeartbeats 4000000 in
theorem back_0M (s : Nat → BitVec 64) (m : Int) (pc c tv : BitVec 64) (it : Bool) (w : World) (h0 : 0 ≤ m) (hc : U c < 256) (hl : lwM m = 0) (I O Wt : Nat → BitVec 64) (Y : Int)
    (hI : ∀ w, Calls Try.prog 15 #[.agg (stC (upd s 1 (s 1 &&& ~~~131072#64))), .int .u8 0, .int .u64 (U pc), .agg #[.int .u8 (U c), .bool it, .int .u64 (U tv)]] w fun e w' => e = .returned (.tuple #[.agg (stC I), .int .u8 3, .int .u64 Y]) ∧ Fr [] w w')
    (hO : ∀ w, Calls Try.prog 19 #[.agg (stC I)] w fun e w' => e = .returned (.tuple #[.agg (stC O), .int .u8 0, .int .u64 (U (pc &&& ~~~1#64))]) ∧ Fr [] w w')
    (hW : O = upd (upd (upd (upd (upd s 1 (s 1 &&& ~~~131072#64)) 8 (I 8)) 9 (I 9)) 10 (I 10)) 1 ((upd s 1 (s 1 &&& ~~~131072#64)) 1 &&& ~~~6144#64 ||| 128#64)) :
    Calls Try.prog 8 #[.agg (stC s), .agg #[.int .u8 m, .int .u64 (U pc)], .agg #[.int .u8 (U c), .bool it, .int .u64 (U tv)]] w fun e w' => e = .returned (.bool true) ∧ Fr [] w w' := by
  have HI := hid hI
  have HO := hid hO
  have HW := hid hW
  have Hl := hid (fun w => lower_any m w h0)
  clear hI hO hW
  go_enter Try.func8, Try.ntmps8
  go_upto_region 1 with (fail)
  refine world_at (fun W0 => W0.heap[w.heap.size]? = some (.cells (stC s) 25) ∧ W0.heap[w.heap.size + 1]? = some (.cells (#[.int .u8 m, .int .u64 (U pc)]) 32) ∧ W0.heap[w.heap.size + 1 + 1]? = some (.cells (#[.int .u8 (U c), .bool it, .int .u64 (U tv)]) 34) ∧ Fr [] w W0) ⟨(blk_alloc (blk_alloc (blk_new _ _) _) _), (blk_alloc (blk_new' (by simp) _) _), (blk_new' (by simp) _), ((((Fr.refl _ _).alloc _).alloc _).alloc _)⟩ ?_
  rintro W0 ⟨bS, bX, bT, hF⟩
  have HS := hid bS
  have HX := hid bX
  have HT := hid bT
  clear bS bX bT
  have cX := blk_cell HX.out
  have cS := blk_cell HS.out
  have fS := blk_free HS.out
  go_upto_region 4 with (go_at_call 17; refine (Hl.out _).mono ?_; rintro e w' ⟨rfl, rfl⟩; rw [hl])
  refine world_at (fun W1 => W1.heap[w.heap.size]? = some (.cells (stC (upd s 1 (s 1 &&& ~~~131072#64))) 25) ∧ W1.heap[w.heap.size + 1]? = some (.cells (#[.int .u8 m, .int .u64 (U pc)]) 32) ∧ W1.heap[w.heap.size + 1 + 1]? = some (.cells (#[.int .u8 (U c), .bool it, .int .u64 (U tv)]) 34) ∧ Fr [] w W1) ⟨st_set HS.out 1 _, blk_set_keep HX.out _ _ (by show _ ≠ w.heap.size; omega), blk_set_keep HT.out _ _ (by show _ ≠ w.heap.size; omega), hF.setCell (.inr (by simp)) _⟩ ?_
  clear HS HX HT hF cX cS fS
  rintro W1 ⟨bS, bX, bT, hF⟩
  have HS := hid bS
  have HX := hid bX
  have HT := hid bT
  clear bS bX bT
  have cX := blk_cell HX.out
  go_upto_region 5 with (first | (refine wpList_load_row_g (by rfl) 25 _ rfl (w.heap.size) rfl 25 (stC (upd s 1 (s 1 &&& ~~~131072#64))) (0, 0) _ HS.out Try.underlying25 rfl (size25' _) ?_) | (refine wpList_load_row_g (by rfl) 32 _ rfl (w.heap.size + 1) rfl 32 (#[.int .u8 m, .int .u64 (U pc)]) (0, 0) _ HX.out Try.underlying32 rfl (by kernel_rfl) ?_) | (refine wpList_load_row_g (by rfl) 34 _ rfl (w.heap.size + 1 + 1) rfl 34 (#[.int .u8 (U c), .bool it, .int .u64 (U tv)]) (0, 0) _ HT.out Try.underlying34 rfl (by kernel_rfl) ?_) | (go_at_call 15; refine (HI.out _).mono ?_; rintro e wa2 ⟨rfl, hd⟩) | (refine wpList_store_whole rfl 25 _ _ rfl wa2.heap.size rfl (stC I) rfl 25 _ (blk_new _ _) rfl (size25' _) (oneCell_stC _) ?_; intro wb2 h2 hfr2))
  have hd2 : Fr [] W1 wb2 := (hd.alloc _).step hfr2 (fun j hj => .inr (by have := hd.size; simp at hj; omega))
  clear hfr2
  refine world_at (fun W2 => W2.heap[w.heap.size]? = some (.cells (stC (upd s 1 (s 1 &&& ~~~131072#64))) 25) ∧ W2.heap[w.heap.size + 1]? = some (.cells (#[.int .u8 m, .int .u64 (U pc)]) 32) ∧ W2.heap[w.heap.size + 1 + 1]? = some (.cells (#[.int .u8 (U c), .bool it, .int .u64 (U tv)]) 34) ∧ W2.heap[wa2.heap.size]? = some (.cells (stC I) 25) ∧ Fr [] w W2) ⟨hd2.keeps HS.out (by simp), hd2.keeps HX.out (by simp), hd2.keeps HT.out (by simp), h2, hF.trans hd2⟩ ?_
  clear HS HX HT hF cX hd hd2 h2
  rintro W2 ⟨bS, bX, bT, bI, hF⟩
  have HS := hid bS
  have HX := hid bX
  have HT := hid bT
  have HI := hid bI
  clear bS bX bT bI
  go_upto_region 14 with (first | (refine wpList_load_row_g (by rfl) 25 _ rfl (w.heap.size) rfl 25 (stC (upd s 1 (s 1 &&& ~~~131072#64))) (0, 0) _ HS.out Try.underlying25 rfl (size25' _) ?_) | (refine wpList_load_row_g (by rfl) 32 _ rfl (w.heap.size + 1) rfl 32 (#[.int .u8 m, .int .u64 (U pc)]) (0, 0) _ HX.out Try.underlying32 rfl (by kernel_rfl) ?_) | (refine wpList_load_row_g (by rfl) 34 _ rfl (w.heap.size + 1 + 1) rfl 34 (#[.int .u8 (U c), .bool it, .int .u64 (U tv)]) (0, 0) _ HT.out Try.underlying34 rfl (by kernel_rfl) ?_) | (refine wpList_load_row_g (by rfl) 25 _ rfl (wa2.heap.size) rfl 25 (stC I) (0, 0) _ HI.out Try.underlying25 rfl (size25' _) ?_) | (go_at_call 19; refine (HO.out _).mono ?_; rintro e wa3 ⟨rfl, hd⟩) | (refine wpList_store_whole rfl 25 _ _ rfl wa3.heap.size rfl (stC O) rfl 25 _ (blk_new _ _) rfl (size25' _) (oneCell_stC _) ?_; intro wb3 h2 hfr2))
  have hd2 : Fr [] W2 wb3 := (hd.alloc _).step hfr2 (fun j hj => .inr (by have := hd.size; simp at hj; omega))
  clear hfr2
  refine world_at (fun W3 => W3.heap[w.heap.size]? = some (.cells (stC (upd s 1 (s 1 &&& ~~~131072#64))) 25) ∧ W3.heap[w.heap.size + 1]? = some (.cells (#[.int .u8 m, .int .u64 (U pc)]) 32) ∧ W3.heap[w.heap.size + 1 + 1]? = some (.cells (#[.int .u8 (U c), .bool it, .int .u64 (U tv)]) 34) ∧ W3.heap[wa2.heap.size]? = some (.cells (stC I) 25) ∧ W3.heap[wa3.heap.size]? = some (.cells (stC O) 25) ∧ Fr [] w W3) ⟨hd2.keeps HS.out (by simp), hd2.keeps HX.out (by simp), hd2.keeps HT.out (by simp), hd2.keeps HI.out (by simp), h2, hF.trans hd2⟩ ?_
  clear HS HX HT HI hF hd hd2 h2
  rintro W3 ⟨bS, bX, bT, bI, bO, hF⟩
  have HS := hid bS
  have HX := hid bX
  have HT := hid bT
  have HI := hid bI
  have HO := hid bO
  clear bS bX bT bI bO
  go_upto_region 15 with (first | (refine wpList_load_row_g (by rfl) 25 _ rfl (w.heap.size) rfl 25 (stC (upd s 1 (s 1 &&& ~~~131072#64))) (0, 0) _ HS.out Try.underlying25 rfl (size25' _) ?_) | (refine wpList_load_row_g (by rfl) 32 _ rfl (w.heap.size + 1) rfl 32 (#[.int .u8 m, .int .u64 (U pc)]) (0, 0) _ HX.out Try.underlying32 rfl (by kernel_rfl) ?_) | (refine wpList_load_row_g (by rfl) 34 _ rfl (w.heap.size + 1 + 1) rfl 34 (#[.int .u8 (U c), .bool it, .int .u64 (U tv)]) (0, 0) _ HT.out Try.underlying34 rfl (by kernel_rfl) ?_) | (refine wpList_load_row_g (by rfl) 25 _ rfl (wa2.heap.size) rfl 25 (stC I) (0, 0) _ HI.out Try.underlying25 rfl (size25' _) ?_) | (refine wpList_load_row_g (by rfl) 25 _ rfl (wa3.heap.size) rfl 25 (stC O) (0, 0) _ HO.out Try.underlying25 rfl (size25' _) ?_) | (refine wpList_store_whole rfl 25 _ _ rfl W3.heap.size rfl (stC (upd s 1 (s 1 &&& ~~~131072#64))) rfl 25 _ (blk_new _ _) rfl (size25' _) (oneCell_stC _) ?_; intro wk h2 hfr2))
  have hd2 : Fr [] W3 wk := ((Fr.refl _ _).alloc _).step hfr2 (fun j hj => .inr (by simp at hj; omega))
  clear hfr2
  have aS : w.heap.size < W3.heap.size := lt_of_block HS.out
  have aX : w.heap.size + 1 < W3.heap.size := lt_of_block HX.out
  have aT : w.heap.size + 1 + 1 < W3.heap.size := lt_of_block HT.out
  have aI : wa2.heap.size < W3.heap.size := lt_of_block HI.out
  have aO : wa3.heap.size < W3.heap.size := lt_of_block HO.out
  refine world_at (fun W4 => W4.heap[w.heap.size]? = some (.cells (stC (upd s 1 (s 1 &&& ~~~131072#64))) 25) ∧ W4.heap[w.heap.size + 1]? = some (.cells (#[.int .u8 m, .int .u64 (U pc)]) 32) ∧ W4.heap[w.heap.size + 1 + 1]? = some (.cells (#[.int .u8 (U c), .bool it, .int .u64 (U tv)]) 34) ∧ W4.heap[wa2.heap.size]? = some (.cells (stC I) 25) ∧ W4.heap[wa3.heap.size]? = some (.cells (stC O) 25) ∧ W4.heap[W3.heap.size]? = some (.cells (stC (upd s 1 (s 1 &&& ~~~131072#64))) 25) ∧ Fr [] w W4) ⟨hd2.keeps HS.out (by simp), hd2.keeps HX.out (by simp), hd2.keeps HT.out (by simp), hd2.keeps HI.out (by simp), hd2.keeps HO.out (by simp), h2, hF.trans hd2⟩ ?_
  clear HS HX HT HI HO hF hd2 h2
  rintro W4 ⟨bS, bX, bT, bI, bO, bK, hF⟩
  have HS := hid bS
  have HX := hid bX
  have HT := hid bT
  have HI := hid bI
  have HO := hid bO
  have HK := hid bK
  clear bS bX bT bI bO bK
  have cI := blk_cell HI.out
  have cK := blk_cell HK.out
  have cX := blk_cell HX.out
  have fK := blk_free HK.out
  go_upto_region 19 with (fail)
  refine world_at (fun W5 => W5.heap[w.heap.size]? = some (.cells (stC (upd s 1 (s 1 &&& ~~~131072#64))) 25) ∧ W5.heap[w.heap.size + 1]? = some (.cells (#[.int .u8 m, .int .u64 (U pc)]) 32) ∧ W5.heap[w.heap.size + 1 + 1]? = some (.cells (#[.int .u8 (U c), .bool it, .int .u64 (U tv)]) 34) ∧ W5.heap[wa2.heap.size]? = some (.cells (stC I) 25) ∧ W5.heap[wa3.heap.size]? = some (.cells (stC O) 25) ∧ W5.heap[W3.heap.size]? = some (.cells (stC O) 25) ∧ Fr [] w W5) ⟨(blk_set_keep (blk_set_keep (blk_set_keep (blk_set_keep HS.out _ _ (by show _ ≠ W3.heap.size; omega)) _ _ (by show _ ≠ W3.heap.size; omega)) _ _ (by show _ ≠ W3.heap.size; omega)) _ _ (by show _ ≠ W3.heap.size; omega)), (blk_set_keep (blk_set_keep (blk_set_keep (blk_set_keep HX.out _ _ (by show _ ≠ W3.heap.size; omega)) _ _ (by show _ ≠ W3.heap.size; omega)) _ _ (by show _ ≠ W3.heap.size; omega)) _ _ (by show _ ≠ W3.heap.size; omega)), (blk_set_keep (blk_set_keep (blk_set_keep (blk_set_keep HT.out _ _ (by show _ ≠ W3.heap.size; omega)) _ _ (by show _ ≠ W3.heap.size; omega)) _ _ (by show _ ≠ W3.heap.size; omega)) _ _ (by show _ ≠ W3.heap.size; omega)), (blk_set_keep (blk_set_keep (blk_set_keep (blk_set_keep HI.out _ _ (by show _ ≠ W3.heap.size; omega)) _ _ (by show _ ≠ W3.heap.size; omega)) _ _ (by show _ ≠ W3.heap.size; omega)) _ _ (by show _ ≠ W3.heap.size; omega)), (blk_set_keep (blk_set_keep (blk_set_keep (blk_set_keep HO.out _ _ (by show _ ≠ W3.heap.size; omega)) _ _ (by show _ ≠ W3.heap.size; omega)) _ _ (by show _ ≠ W3.heap.size; omega)) _ _ (by show _ ≠ W3.heap.size; omega)), cells_eq (st_set (st_set (st_set (st_set HK.out 8 _) 9 _) 10 _) 1 _) (by rw [HW.out]; rfl), ((((hF.setCell (.inr (by show w.heap.size ≤ W3.heap.size; omega)) _).setCell (.inr (by show w.heap.size ≤ W3.heap.size; omega)) _).setCell (.inr (by show w.heap.size ≤ W3.heap.size; omega)) _).setCell (.inr (by show w.heap.size ≤ W3.heap.size; omega)) _)⟩ ?_
  clear HS HX HT HI HO HK hF cI cK cX fK
  rintro W5 ⟨bS, bX, bT, bI, bO, bK, hF⟩
  have HS := hid bS
  have HX := hid bX
  have HT := hid bT
  have HI := hid bI
  have HO := hid bO
  have HK := hid bK
  clear bS bX bT bI bO bK
  have cX := blk_cell HX.out
  have hq := eq_arr O
  go_wp2_with (first | (refine wpList_load_row_g (by rfl) 25 _ rfl (w.heap.size) rfl 25 (stC (upd s 1 (s 1 &&& ~~~131072#64))) (0, 0) _ HS.out Try.underlying25 rfl (size25' _) ?_) | (refine wpList_load_row_g (by rfl) 32 _ rfl (w.heap.size + 1) rfl 32 (#[.int .u8 m, .int .u64 (U pc)]) (0, 0) _ HX.out Try.underlying32 rfl (by kernel_rfl) ?_) | (refine wpList_load_row_g (by rfl) 34 _ rfl (w.heap.size + 1 + 1) rfl 34 (#[.int .u8 (U c), .bool it, .int .u64 (U tv)]) (0, 0) _ HT.out Try.underlying34 rfl (by kernel_rfl) ?_) | (refine wpList_load_row_g (by rfl) 25 _ rfl (wa2.heap.size) rfl 25 (stC I) (0, 0) _ HI.out Try.underlying25 rfl (size25' _) ?_) | (refine wpList_load_row_g (by rfl) 25 _ rfl (wa3.heap.size) rfl 25 (stC O) (0, 0) _ HO.out Try.underlying25 rfl (size25' _) ?_) | (refine wpList_load_row_g (by rfl) 25 _ rfl (W3.heap.size) rfl 25 (stC O) (0, 0) _ HK.out Try.underlying25 rfl (size25' _) ?_) | (go_at_call 14; refine (works_any _).mono ?_; rintro e w9 ⟨rfl, hd⟩))
  go_ret
  exact ⟨rfl, hF.trans hd⟩

set_option maxRecDepth 100000 in
set_option maxHeartbeats 4000000 in
theorem back_1S (s : Nat → BitVec 64) (m : Int) (pc c tv : BitVec 64) (it : Bool) (w : World) (h0 : 0 ≤ m) (hc : U c < 256) (hl : lwM m = 1) (I O Wt : Nat → BitVec 64) (Y : Int)
    (hI : ∀ w, Calls Try.prog 15 #[.agg (stC (upd s 1 (s 1 &&& ~~~131072#64))), .int .u8 1, .int .u64 (U pc), .agg #[.int .u8 (U c), .bool it, .int .u64 (U tv)]] w fun e w' => e = .returned (.tuple #[.agg (stC I), .int .u8 1, .int .u64 Y]) ∧ Fr [] w w')
    (hO : ∀ w, Calls Try.prog 21 #[.agg (stC I), .int .u8 1] w fun e w' => e = .returned (.tuple #[.agg (stC O), .int .u8 1, .int .u64 (U (pc &&& ~~~1#64))]) ∧ Fr [] w w')
    (hW : O = upd (upd (upd (upd (upd s 1 (s 1 &&& ~~~131072#64)) 14 (I 14)) 15 (I 15)) 16 (I 16)) 1 ((upd s 1 (s 1 &&& ~~~131072#64)) 1 &&& ~~~256#64 ||| 32#64)) :
    Calls Try.prog 8 #[.agg (stC s), .agg #[.int .u8 m, .int .u64 (U pc)], .agg #[.int .u8 (U c), .bool it, .int .u64 (U tv)]] w fun e w' => e = .returned (.bool true) ∧ Fr [] w w' := by
  have HI := hid hI
  have HO := hid hO
  have HW := hid hW
  have Hl := hid (fun w => lower_any m w h0)
  clear hI hO hW
  go_enter Try.func8, Try.ntmps8
  go_upto_region 1 with (fail)
  refine world_at (fun W0 => W0.heap[w.heap.size]? = some (.cells (stC s) 25) ∧ W0.heap[w.heap.size + 1]? = some (.cells (#[.int .u8 m, .int .u64 (U pc)]) 32) ∧ W0.heap[w.heap.size + 1 + 1]? = some (.cells (#[.int .u8 (U c), .bool it, .int .u64 (U tv)]) 34) ∧ Fr [] w W0) ⟨(blk_alloc (blk_alloc (blk_new _ _) _) _), (blk_alloc (blk_new' (by simp) _) _), (blk_new' (by simp) _), ((((Fr.refl _ _).alloc _).alloc _).alloc _)⟩ ?_
  rintro W0 ⟨bS, bX, bT, hF⟩
  have HS := hid bS
  have HX := hid bX
  have HT := hid bT
  clear bS bX bT
  have cX := blk_cell HX.out
  have cS := blk_cell HS.out
  have fS := blk_free HS.out
  go_upto_region 4 with (go_at_call 17; refine (Hl.out _).mono ?_; rintro e w' ⟨rfl, rfl⟩; rw [hl])
  refine world_at (fun W1 => W1.heap[w.heap.size]? = some (.cells (stC (upd s 1 (s 1 &&& ~~~131072#64))) 25) ∧ W1.heap[w.heap.size + 1]? = some (.cells (#[.int .u8 m, .int .u64 (U pc)]) 32) ∧ W1.heap[w.heap.size + 1 + 1]? = some (.cells (#[.int .u8 (U c), .bool it, .int .u64 (U tv)]) 34) ∧ Fr [] w W1) ⟨st_set HS.out 1 _, blk_set_keep HX.out _ _ (by show _ ≠ w.heap.size; omega), blk_set_keep HT.out _ _ (by show _ ≠ w.heap.size; omega), hF.setCell (.inr (by simp)) _⟩ ?_
  clear HS HX HT hF cX cS fS
  rintro W1 ⟨bS, bX, bT, hF⟩
  have HS := hid bS
  have HX := hid bX
  have HT := hid bT
  clear bS bX bT
  have cX := blk_cell HX.out
  go_upto_region 5 with (first | (refine wpList_load_row_g (by rfl) 25 _ rfl (w.heap.size) rfl 25 (stC (upd s 1 (s 1 &&& ~~~131072#64))) (0, 0) _ HS.out Try.underlying25 rfl (size25' _) ?_) | (refine wpList_load_row_g (by rfl) 32 _ rfl (w.heap.size + 1) rfl 32 (#[.int .u8 m, .int .u64 (U pc)]) (0, 0) _ HX.out Try.underlying32 rfl (by kernel_rfl) ?_) | (refine wpList_load_row_g (by rfl) 34 _ rfl (w.heap.size + 1 + 1) rfl 34 (#[.int .u8 (U c), .bool it, .int .u64 (U tv)]) (0, 0) _ HT.out Try.underlying34 rfl (by kernel_rfl) ?_) | (go_at_call 15; refine (HI.out _).mono ?_; rintro e wa2 ⟨rfl, hd⟩) | (refine wpList_store_whole rfl 25 _ _ rfl wa2.heap.size rfl (stC I) rfl 25 _ (blk_new _ _) rfl (size25' _) (oneCell_stC _) ?_; intro wb2 h2 hfr2))
  have hd2 : Fr [] W1 wb2 := (hd.alloc _).step hfr2 (fun j hj => .inr (by have := hd.size; simp at hj; omega))
  clear hfr2
  refine world_at (fun W2 => W2.heap[w.heap.size]? = some (.cells (stC (upd s 1 (s 1 &&& ~~~131072#64))) 25) ∧ W2.heap[w.heap.size + 1]? = some (.cells (#[.int .u8 m, .int .u64 (U pc)]) 32) ∧ W2.heap[w.heap.size + 1 + 1]? = some (.cells (#[.int .u8 (U c), .bool it, .int .u64 (U tv)]) 34) ∧ W2.heap[wa2.heap.size]? = some (.cells (stC I) 25) ∧ Fr [] w W2) ⟨hd2.keeps HS.out (by simp), hd2.keeps HX.out (by simp), hd2.keeps HT.out (by simp), h2, hF.trans hd2⟩ ?_
  clear HS HX HT hF cX hd hd2 h2
  rintro W2 ⟨bS, bX, bT, bI, hF⟩
  have HS := hid bS
  have HX := hid bX
  have HT := hid bT
  have HI := hid bI
  clear bS bX bT bI
  go_upto_region 7 with (first | (refine wpList_load_row_g (by rfl) 25 _ rfl (w.heap.size) rfl 25 (stC (upd s 1 (s 1 &&& ~~~131072#64))) (0, 0) _ HS.out Try.underlying25 rfl (size25' _) ?_) | (refine wpList_load_row_g (by rfl) 32 _ rfl (w.heap.size + 1) rfl 32 (#[.int .u8 m, .int .u64 (U pc)]) (0, 0) _ HX.out Try.underlying32 rfl (by kernel_rfl) ?_) | (refine wpList_load_row_g (by rfl) 34 _ rfl (w.heap.size + 1 + 1) rfl 34 (#[.int .u8 (U c), .bool it, .int .u64 (U tv)]) (0, 0) _ HT.out Try.underlying34 rfl (by kernel_rfl) ?_) | (refine wpList_load_row_g (by rfl) 25 _ rfl (wa2.heap.size) rfl 25 (stC I) (0, 0) _ HI.out Try.underlying25 rfl (size25' _) ?_) | (go_at_call 21; refine (HO.out _).mono ?_; rintro e wa3 ⟨rfl, hd⟩) | (refine wpList_store_whole rfl 25 _ _ rfl wa3.heap.size rfl (stC O) rfl 25 _ (blk_new _ _) rfl (size25' _) (oneCell_stC _) ?_; intro wb3 h2 hfr2))
  have hd2 : Fr [] W2 wb3 := (hd.alloc _).step hfr2 (fun j hj => .inr (by have := hd.size; simp at hj; omega))
  clear hfr2
  refine world_at (fun W3 => W3.heap[w.heap.size]? = some (.cells (stC (upd s 1 (s 1 &&& ~~~131072#64))) 25) ∧ W3.heap[w.heap.size + 1]? = some (.cells (#[.int .u8 m, .int .u64 (U pc)]) 32) ∧ W3.heap[w.heap.size + 1 + 1]? = some (.cells (#[.int .u8 (U c), .bool it, .int .u64 (U tv)]) 34) ∧ W3.heap[wa2.heap.size]? = some (.cells (stC I) 25) ∧ W3.heap[wa3.heap.size]? = some (.cells (stC O) 25) ∧ Fr [] w W3) ⟨hd2.keeps HS.out (by simp), hd2.keeps HX.out (by simp), hd2.keeps HT.out (by simp), hd2.keeps HI.out (by simp), h2, hF.trans hd2⟩ ?_
  clear HS HX HT HI hF hd hd2 h2
  rintro W3 ⟨bS, bX, bT, bI, bO, hF⟩
  have HS := hid bS
  have HX := hid bX
  have HT := hid bT
  have HI := hid bI
  have HO := hid bO
  clear bS bX bT bI bO
  go_upto_region 8 with (first | (refine wpList_load_row_g (by rfl) 25 _ rfl (w.heap.size) rfl 25 (stC (upd s 1 (s 1 &&& ~~~131072#64))) (0, 0) _ HS.out Try.underlying25 rfl (size25' _) ?_) | (refine wpList_load_row_g (by rfl) 32 _ rfl (w.heap.size + 1) rfl 32 (#[.int .u8 m, .int .u64 (U pc)]) (0, 0) _ HX.out Try.underlying32 rfl (by kernel_rfl) ?_) | (refine wpList_load_row_g (by rfl) 34 _ rfl (w.heap.size + 1 + 1) rfl 34 (#[.int .u8 (U c), .bool it, .int .u64 (U tv)]) (0, 0) _ HT.out Try.underlying34 rfl (by kernel_rfl) ?_) | (refine wpList_load_row_g (by rfl) 25 _ rfl (wa2.heap.size) rfl 25 (stC I) (0, 0) _ HI.out Try.underlying25 rfl (size25' _) ?_) | (refine wpList_load_row_g (by rfl) 25 _ rfl (wa3.heap.size) rfl 25 (stC O) (0, 0) _ HO.out Try.underlying25 rfl (size25' _) ?_) | (refine wpList_store_whole rfl 25 _ _ rfl W3.heap.size rfl (stC (upd s 1 (s 1 &&& ~~~131072#64))) rfl 25 _ (blk_new _ _) rfl (size25' _) (oneCell_stC _) ?_; intro wk h2 hfr2))
  have hd2 : Fr [] W3 wk := ((Fr.refl _ _).alloc _).step hfr2 (fun j hj => .inr (by simp at hj; omega))
  clear hfr2
  have aS : w.heap.size < W3.heap.size := lt_of_block HS.out
  have aX : w.heap.size + 1 < W3.heap.size := lt_of_block HX.out
  have aT : w.heap.size + 1 + 1 < W3.heap.size := lt_of_block HT.out
  have aI : wa2.heap.size < W3.heap.size := lt_of_block HI.out
  have aO : wa3.heap.size < W3.heap.size := lt_of_block HO.out
  refine world_at (fun W4 => W4.heap[w.heap.size]? = some (.cells (stC (upd s 1 (s 1 &&& ~~~131072#64))) 25) ∧ W4.heap[w.heap.size + 1]? = some (.cells (#[.int .u8 m, .int .u64 (U pc)]) 32) ∧ W4.heap[w.heap.size + 1 + 1]? = some (.cells (#[.int .u8 (U c), .bool it, .int .u64 (U tv)]) 34) ∧ W4.heap[wa2.heap.size]? = some (.cells (stC I) 25) ∧ W4.heap[wa3.heap.size]? = some (.cells (stC O) 25) ∧ W4.heap[W3.heap.size]? = some (.cells (stC (upd s 1 (s 1 &&& ~~~131072#64))) 25) ∧ Fr [] w W4) ⟨hd2.keeps HS.out (by simp), hd2.keeps HX.out (by simp), hd2.keeps HT.out (by simp), hd2.keeps HI.out (by simp), hd2.keeps HO.out (by simp), h2, hF.trans hd2⟩ ?_
  clear HS HX HT HI HO hF hd2 h2
  rintro W4 ⟨bS, bX, bT, bI, bO, bK, hF⟩
  have HS := hid bS
  have HX := hid bX
  have HT := hid bT
  have HI := hid bI
  have HO := hid bO
  have HK := hid bK
  clear bS bX bT bI bO bK
  have cI := blk_cell HI.out
  have cK := blk_cell HK.out
  have cX := blk_cell HX.out
  have fK := blk_free HK.out
  go_upto_region 12 with (fail)
  refine world_at (fun W5 => W5.heap[w.heap.size]? = some (.cells (stC (upd s 1 (s 1 &&& ~~~131072#64))) 25) ∧ W5.heap[w.heap.size + 1]? = some (.cells (#[.int .u8 m, .int .u64 (U pc)]) 32) ∧ W5.heap[w.heap.size + 1 + 1]? = some (.cells (#[.int .u8 (U c), .bool it, .int .u64 (U tv)]) 34) ∧ W5.heap[wa2.heap.size]? = some (.cells (stC I) 25) ∧ W5.heap[wa3.heap.size]? = some (.cells (stC O) 25) ∧ W5.heap[W3.heap.size]? = some (.cells (stC O) 25) ∧ Fr [] w W5) ⟨(blk_set_keep (blk_set_keep (blk_set_keep (blk_set_keep HS.out _ _ (by show _ ≠ W3.heap.size; omega)) _ _ (by show _ ≠ W3.heap.size; omega)) _ _ (by show _ ≠ W3.heap.size; omega)) _ _ (by show _ ≠ W3.heap.size; omega)), (blk_set_keep (blk_set_keep (blk_set_keep (blk_set_keep HX.out _ _ (by show _ ≠ W3.heap.size; omega)) _ _ (by show _ ≠ W3.heap.size; omega)) _ _ (by show _ ≠ W3.heap.size; omega)) _ _ (by show _ ≠ W3.heap.size; omega)), (blk_set_keep (blk_set_keep (blk_set_keep (blk_set_keep HT.out _ _ (by show _ ≠ W3.heap.size; omega)) _ _ (by show _ ≠ W3.heap.size; omega)) _ _ (by show _ ≠ W3.heap.size; omega)) _ _ (by show _ ≠ W3.heap.size; omega)), (blk_set_keep (blk_set_keep (blk_set_keep (blk_set_keep HI.out _ _ (by show _ ≠ W3.heap.size; omega)) _ _ (by show _ ≠ W3.heap.size; omega)) _ _ (by show _ ≠ W3.heap.size; omega)) _ _ (by show _ ≠ W3.heap.size; omega)), (blk_set_keep (blk_set_keep (blk_set_keep (blk_set_keep HO.out _ _ (by show _ ≠ W3.heap.size; omega)) _ _ (by show _ ≠ W3.heap.size; omega)) _ _ (by show _ ≠ W3.heap.size; omega)) _ _ (by show _ ≠ W3.heap.size; omega)), cells_eq (st_set (st_set (st_set (st_set HK.out 14 _) 15 _) 16 _) 1 _) (by rw [HW.out]; rfl), ((((hF.setCell (.inr (by show w.heap.size ≤ W3.heap.size; omega)) _).setCell (.inr (by show w.heap.size ≤ W3.heap.size; omega)) _).setCell (.inr (by show w.heap.size ≤ W3.heap.size; omega)) _).setCell (.inr (by show w.heap.size ≤ W3.heap.size; omega)) _)⟩ ?_
  clear HS HX HT HI HO HK hF cI cK cX fK
  rintro W5 ⟨bS, bX, bT, bI, bO, bK, hF⟩
  have HS := hid bS
  have HX := hid bX
  have HT := hid bT
  have HI := hid bI
  have HO := hid bO
  have HK := hid bK
  clear bS bX bT bI bO bK
  have cX := blk_cell HX.out
  have hq := eq_arr O
  go_wp2_with (first | (refine wpList_load_row_g (by rfl) 25 _ rfl (w.heap.size) rfl 25 (stC (upd s 1 (s 1 &&& ~~~131072#64))) (0, 0) _ HS.out Try.underlying25 rfl (size25' _) ?_) | (refine wpList_load_row_g (by rfl) 32 _ rfl (w.heap.size + 1) rfl 32 (#[.int .u8 m, .int .u64 (U pc)]) (0, 0) _ HX.out Try.underlying32 rfl (by kernel_rfl) ?_) | (refine wpList_load_row_g (by rfl) 34 _ rfl (w.heap.size + 1 + 1) rfl 34 (#[.int .u8 (U c), .bool it, .int .u64 (U tv)]) (0, 0) _ HT.out Try.underlying34 rfl (by kernel_rfl) ?_) | (refine wpList_load_row_g (by rfl) 25 _ rfl (wa2.heap.size) rfl 25 (stC I) (0, 0) _ HI.out Try.underlying25 rfl (size25' _) ?_) | (refine wpList_load_row_g (by rfl) 25 _ rfl (wa3.heap.size) rfl 25 (stC O) (0, 0) _ HO.out Try.underlying25 rfl (size25' _) ?_) | (refine wpList_load_row_g (by rfl) 25 _ rfl (W3.heap.size) rfl 25 (stC O) (0, 0) _ HK.out Try.underlying25 rfl (size25' _) ?_) | (go_at_call 14; refine (works_any _).mono ?_; rintro e w9 ⟨rfl, hd⟩))
  go_ret
  exact ⟨rfl, hF.trans hd⟩

set_option maxRecDepth 100000 in
set_option maxHeartbeats 4000000 in
theorem back_1M (s : Nat → BitVec 64) (m : Int) (pc c tv : BitVec 64) (it : Bool) (w : World) (h0 : 0 ≤ m) (hc : U c < 256) (hl : lwM m = 1) (I O Wt : Nat → BitVec 64) (Y : Int)
    (hI : ∀ w, Calls Try.prog 15 #[.agg (stC (upd s 1 (s 1 &&& ~~~131072#64))), .int .u8 1, .int .u64 (U pc), .agg #[.int .u8 (U c), .bool it, .int .u64 (U tv)]] w fun e w' => e = .returned (.tuple #[.agg (stC I), .int .u8 3, .int .u64 Y]) ∧ Fr [] w w')
    (hO : ∀ w, Calls Try.prog 19 #[.agg (stC I)] w fun e w' => e = .returned (.tuple #[.agg (stC O), .int .u8 1, .int .u64 (U (pc &&& ~~~1#64))]) ∧ Fr [] w w')
    (hW : O = upd (upd (upd (upd (upd s 1 (s 1 &&& ~~~131072#64)) 8 (I 8)) 9 (I 9)) 10 (I 10)) 1 ((upd s 1 (s 1 &&& ~~~131072#64)) 1 &&& ~~~6144#64 ||| 128#64)) :
    Calls Try.prog 8 #[.agg (stC s), .agg #[.int .u8 m, .int .u64 (U pc)], .agg #[.int .u8 (U c), .bool it, .int .u64 (U tv)]] w fun e w' => e = .returned (.bool true) ∧ Fr [] w w' := by
  have HI := hid hI
  have HO := hid hO
  have HW := hid hW
  have Hl := hid (fun w => lower_any m w h0)
  clear hI hO hW
  go_enter Try.func8, Try.ntmps8
  go_upto_region 1 with (fail)
  refine world_at (fun W0 => W0.heap[w.heap.size]? = some (.cells (stC s) 25) ∧ W0.heap[w.heap.size + 1]? = some (.cells (#[.int .u8 m, .int .u64 (U pc)]) 32) ∧ W0.heap[w.heap.size + 1 + 1]? = some (.cells (#[.int .u8 (U c), .bool it, .int .u64 (U tv)]) 34) ∧ Fr [] w W0) ⟨(blk_alloc (blk_alloc (blk_new _ _) _) _), (blk_alloc (blk_new' (by simp) _) _), (blk_new' (by simp) _), ((((Fr.refl _ _).alloc _).alloc _).alloc _)⟩ ?_
  rintro W0 ⟨bS, bX, bT, hF⟩
  have HS := hid bS
  have HX := hid bX
  have HT := hid bT
  clear bS bX bT
  have cX := blk_cell HX.out
  have cS := blk_cell HS.out
  have fS := blk_free HS.out
  go_upto_region 4 with (go_at_call 17; refine (Hl.out _).mono ?_; rintro e w' ⟨rfl, rfl⟩; rw [hl])
  refine world_at (fun W1 => W1.heap[w.heap.size]? = some (.cells (stC (upd s 1 (s 1 &&& ~~~131072#64))) 25) ∧ W1.heap[w.heap.size + 1]? = some (.cells (#[.int .u8 m, .int .u64 (U pc)]) 32) ∧ W1.heap[w.heap.size + 1 + 1]? = some (.cells (#[.int .u8 (U c), .bool it, .int .u64 (U tv)]) 34) ∧ Fr [] w W1) ⟨st_set HS.out 1 _, blk_set_keep HX.out _ _ (by show _ ≠ w.heap.size; omega), blk_set_keep HT.out _ _ (by show _ ≠ w.heap.size; omega), hF.setCell (.inr (by simp)) _⟩ ?_
  clear HS HX HT hF cX cS fS
  rintro W1 ⟨bS, bX, bT, hF⟩
  have HS := hid bS
  have HX := hid bX
  have HT := hid bT
  clear bS bX bT
  have cX := blk_cell HX.out
  go_upto_region 5 with (first | (refine wpList_load_row_g (by rfl) 25 _ rfl (w.heap.size) rfl 25 (stC (upd s 1 (s 1 &&& ~~~131072#64))) (0, 0) _ HS.out Try.underlying25 rfl (size25' _) ?_) | (refine wpList_load_row_g (by rfl) 32 _ rfl (w.heap.size + 1) rfl 32 (#[.int .u8 m, .int .u64 (U pc)]) (0, 0) _ HX.out Try.underlying32 rfl (by kernel_rfl) ?_) | (refine wpList_load_row_g (by rfl) 34 _ rfl (w.heap.size + 1 + 1) rfl 34 (#[.int .u8 (U c), .bool it, .int .u64 (U tv)]) (0, 0) _ HT.out Try.underlying34 rfl (by kernel_rfl) ?_) | (go_at_call 15; refine (HI.out _).mono ?_; rintro e wa2 ⟨rfl, hd⟩) | (refine wpList_store_whole rfl 25 _ _ rfl wa2.heap.size rfl (stC I) rfl 25 _ (blk_new _ _) rfl (size25' _) (oneCell_stC _) ?_; intro wb2 h2 hfr2))
  have hd2 : Fr [] W1 wb2 := (hd.alloc _).step hfr2 (fun j hj => .inr (by have := hd.size; simp at hj; omega))
  clear hfr2
  refine world_at (fun W2 => W2.heap[w.heap.size]? = some (.cells (stC (upd s 1 (s 1 &&& ~~~131072#64))) 25) ∧ W2.heap[w.heap.size + 1]? = some (.cells (#[.int .u8 m, .int .u64 (U pc)]) 32) ∧ W2.heap[w.heap.size + 1 + 1]? = some (.cells (#[.int .u8 (U c), .bool it, .int .u64 (U tv)]) 34) ∧ W2.heap[wa2.heap.size]? = some (.cells (stC I) 25) ∧ Fr [] w W2) ⟨hd2.keeps HS.out (by simp), hd2.keeps HX.out (by simp), hd2.keeps HT.out (by simp), h2, hF.trans hd2⟩ ?_
  clear HS HX HT hF cX hd hd2 h2
  rintro W2 ⟨bS, bX, bT, bI, hF⟩
  have HS := hid bS
  have HX := hid bX
  have HT := hid bT
  have HI := hid bI
  clear bS bX bT bI
  go_upto_region 14 with (first | (refine wpList_load_row_g (by rfl) 25 _ rfl (w.heap.size) rfl 25 (stC (upd s 1 (s 1 &&& ~~~131072#64))) (0, 0) _ HS.out Try.underlying25 rfl (size25' _) ?_) | (refine wpList_load_row_g (by rfl) 32 _ rfl (w.heap.size + 1) rfl 32 (#[.int .u8 m, .int .u64 (U pc)]) (0, 0) _ HX.out Try.underlying32 rfl (by kernel_rfl) ?_) | (refine wpList_load_row_g (by rfl) 34 _ rfl (w.heap.size + 1 + 1) rfl 34 (#[.int .u8 (U c), .bool it, .int .u64 (U tv)]) (0, 0) _ HT.out Try.underlying34 rfl (by kernel_rfl) ?_) | (refine wpList_load_row_g (by rfl) 25 _ rfl (wa2.heap.size) rfl 25 (stC I) (0, 0) _ HI.out Try.underlying25 rfl (size25' _) ?_) | (go_at_call 19; refine (HO.out _).mono ?_; rintro e wa3 ⟨rfl, hd⟩) | (refine wpList_store_whole rfl 25 _ _ rfl wa3.heap.size rfl (stC O) rfl 25 _ (blk_new _ _) rfl (size25' _) (oneCell_stC _) ?_; intro wb3 h2 hfr2))
  have hd2 : Fr [] W2 wb3 := (hd.alloc _).step hfr2 (fun j hj => .inr (by have := hd.size; simp at hj; omega))
  clear hfr2
  refine world_at (fun W3 => W3.heap[w.heap.size]? = some (.cells (stC (upd s 1 (s 1 &&& ~~~131072#64))) 25) ∧ W3.heap[w.heap.size + 1]? = some (.cells (#[.int .u8 m, .int .u64 (U pc)]) 32) ∧ W3.heap[w.heap.size + 1 + 1]? = some (.cells (#[.int .u8 (U c), .bool it, .int .u64 (U tv)]) 34) ∧ W3.heap[wa2.heap.size]? = some (.cells (stC I) 25) ∧ W3.heap[wa3.heap.size]? = some (.cells (stC O) 25) ∧ Fr [] w W3) ⟨hd2.keeps HS.out (by simp), hd2.keeps HX.out (by simp), hd2.keeps HT.out (by simp), hd2.keeps HI.out (by simp), h2, hF.trans hd2⟩ ?_
  clear HS HX HT HI hF hd hd2 h2
  rintro W3 ⟨bS, bX, bT, bI, bO, hF⟩
  have HS := hid bS
  have HX := hid bX
  have HT := hid bT
  have HI := hid bI
  have HO := hid bO
  clear bS bX bT bI bO
  go_upto_region 15 with (first | (refine wpList_load_row_g (by rfl) 25 _ rfl (w.heap.size) rfl 25 (stC (upd s 1 (s 1 &&& ~~~131072#64))) (0, 0) _ HS.out Try.underlying25 rfl (size25' _) ?_) | (refine wpList_load_row_g (by rfl) 32 _ rfl (w.heap.size + 1) rfl 32 (#[.int .u8 m, .int .u64 (U pc)]) (0, 0) _ HX.out Try.underlying32 rfl (by kernel_rfl) ?_) | (refine wpList_load_row_g (by rfl) 34 _ rfl (w.heap.size + 1 + 1) rfl 34 (#[.int .u8 (U c), .bool it, .int .u64 (U tv)]) (0, 0) _ HT.out Try.underlying34 rfl (by kernel_rfl) ?_) | (refine wpList_load_row_g (by rfl) 25 _ rfl (wa2.heap.size) rfl 25 (stC I) (0, 0) _ HI.out Try.underlying25 rfl (size25' _) ?_) | (refine wpList_load_row_g (by rfl) 25 _ rfl (wa3.heap.size) rfl 25 (stC O) (0, 0) _ HO.out Try.underlying25 rfl (size25' _) ?_) | (refine wpList_store_whole rfl 25 _ _ rfl W3.heap.size rfl (stC (upd s 1 (s 1 &&& ~~~131072#64))) rfl 25 _ (blk_new _ _) rfl (size25' _) (oneCell_stC _) ?_; intro wk h2 hfr2))
  have hd2 : Fr [] W3 wk := ((Fr.refl _ _).alloc _).step hfr2 (fun j hj => .inr (by simp at hj; omega))
  clear hfr2
  have aS : w.heap.size < W3.heap.size := lt_of_block HS.out
  have aX : w.heap.size + 1 < W3.heap.size := lt_of_block HX.out
  have aT : w.heap.size + 1 + 1 < W3.heap.size := lt_of_block HT.out
  have aI : wa2.heap.size < W3.heap.size := lt_of_block HI.out
  have aO : wa3.heap.size < W3.heap.size := lt_of_block HO.out
  refine world_at (fun W4 => W4.heap[w.heap.size]? = some (.cells (stC (upd s 1 (s 1 &&& ~~~131072#64))) 25) ∧ W4.heap[w.heap.size + 1]? = some (.cells (#[.int .u8 m, .int .u64 (U pc)]) 32) ∧ W4.heap[w.heap.size + 1 + 1]? = some (.cells (#[.int .u8 (U c), .bool it, .int .u64 (U tv)]) 34) ∧ W4.heap[wa2.heap.size]? = some (.cells (stC I) 25) ∧ W4.heap[wa3.heap.size]? = some (.cells (stC O) 25) ∧ W4.heap[W3.heap.size]? = some (.cells (stC (upd s 1 (s 1 &&& ~~~131072#64))) 25) ∧ Fr [] w W4) ⟨hd2.keeps HS.out (by simp), hd2.keeps HX.out (by simp), hd2.keeps HT.out (by simp), hd2.keeps HI.out (by simp), hd2.keeps HO.out (by simp), h2, hF.trans hd2⟩ ?_
  clear HS HX HT HI HO hF hd2 h2
  rintro W4 ⟨bS, bX, bT, bI, bO, bK, hF⟩
  have HS := hid bS
  have HX := hid bX
  have HT := hid bT
  have HI := hid bI
  have HO := hid bO
  have HK := hid bK
  clear bS bX bT bI bO bK
  have cI := blk_cell HI.out
  have cK := blk_cell HK.out
  have cX := blk_cell HX.out
  have fK := blk_free HK.out
  go_upto_region 19 with (fail)
  refine world_at (fun W5 => W5.heap[w.heap.size]? = some (.cells (stC (upd s 1 (s 1 &&& ~~~131072#64))) 25) ∧ W5.heap[w.heap.size + 1]? = some (.cells (#[.int .u8 m, .int .u64 (U pc)]) 32) ∧ W5.heap[w.heap.size + 1 + 1]? = some (.cells (#[.int .u8 (U c), .bool it, .int .u64 (U tv)]) 34) ∧ W5.heap[wa2.heap.size]? = some (.cells (stC I) 25) ∧ W5.heap[wa3.heap.size]? = some (.cells (stC O) 25) ∧ W5.heap[W3.heap.size]? = some (.cells (stC O) 25) ∧ Fr [] w W5) ⟨(blk_set_keep (blk_set_keep (blk_set_keep (blk_set_keep HS.out _ _ (by show _ ≠ W3.heap.size; omega)) _ _ (by show _ ≠ W3.heap.size; omega)) _ _ (by show _ ≠ W3.heap.size; omega)) _ _ (by show _ ≠ W3.heap.size; omega)), (blk_set_keep (blk_set_keep (blk_set_keep (blk_set_keep HX.out _ _ (by show _ ≠ W3.heap.size; omega)) _ _ (by show _ ≠ W3.heap.size; omega)) _ _ (by show _ ≠ W3.heap.size; omega)) _ _ (by show _ ≠ W3.heap.size; omega)), (blk_set_keep (blk_set_keep (blk_set_keep (blk_set_keep HT.out _ _ (by show _ ≠ W3.heap.size; omega)) _ _ (by show _ ≠ W3.heap.size; omega)) _ _ (by show _ ≠ W3.heap.size; omega)) _ _ (by show _ ≠ W3.heap.size; omega)), (blk_set_keep (blk_set_keep (blk_set_keep (blk_set_keep HI.out _ _ (by show _ ≠ W3.heap.size; omega)) _ _ (by show _ ≠ W3.heap.size; omega)) _ _ (by show _ ≠ W3.heap.size; omega)) _ _ (by show _ ≠ W3.heap.size; omega)), (blk_set_keep (blk_set_keep (blk_set_keep (blk_set_keep HO.out _ _ (by show _ ≠ W3.heap.size; omega)) _ _ (by show _ ≠ W3.heap.size; omega)) _ _ (by show _ ≠ W3.heap.size; omega)) _ _ (by show _ ≠ W3.heap.size; omega)), cells_eq (st_set (st_set (st_set (st_set HK.out 8 _) 9 _) 10 _) 1 _) (by rw [HW.out]; rfl), ((((hF.setCell (.inr (by show w.heap.size ≤ W3.heap.size; omega)) _).setCell (.inr (by show w.heap.size ≤ W3.heap.size; omega)) _).setCell (.inr (by show w.heap.size ≤ W3.heap.size; omega)) _).setCell (.inr (by show w.heap.size ≤ W3.heap.size; omega)) _)⟩ ?_
  clear HS HX HT HI HO HK hF cI cK cX fK
  rintro W5 ⟨bS, bX, bT, bI, bO, bK, hF⟩
  have HS := hid bS
  have HX := hid bX
  have HT := hid bT
  have HI := hid bI
  have HO := hid bO
  have HK := hid bK
  clear bS bX bT bI bO bK
  have cX := blk_cell HX.out
  have hq := eq_arr O
  go_wp2_with (first | (refine wpList_load_row_g (by rfl) 25 _ rfl (w.heap.size) rfl 25 (stC (upd s 1 (s 1 &&& ~~~131072#64))) (0, 0) _ HS.out Try.underlying25 rfl (size25' _) ?_) | (refine wpList_load_row_g (by rfl) 32 _ rfl (w.heap.size + 1) rfl 32 (#[.int .u8 m, .int .u64 (U pc)]) (0, 0) _ HX.out Try.underlying32 rfl (by kernel_rfl) ?_) | (refine wpList_load_row_g (by rfl) 34 _ rfl (w.heap.size + 1 + 1) rfl 34 (#[.int .u8 (U c), .bool it, .int .u64 (U tv)]) (0, 0) _ HT.out Try.underlying34 rfl (by kernel_rfl) ?_) | (refine wpList_load_row_g (by rfl) 25 _ rfl (wa2.heap.size) rfl 25 (stC I) (0, 0) _ HI.out Try.underlying25 rfl (size25' _) ?_) | (refine wpList_load_row_g (by rfl) 25 _ rfl (wa3.heap.size) rfl 25 (stC O) (0, 0) _ HO.out Try.underlying25 rfl (size25' _) ?_) | (refine wpList_load_row_g (by rfl) 25 _ rfl (W3.heap.size) rfl 25 (stC O) (0, 0) _ HK.out Try.underlying25 rfl (size25' _) ?_) | (go_at_call 14; refine (works_any _).mono ?_; rintro e w9 ⟨rfl, hd⟩))
  go_ret
  exact ⟨rfl, hF.trans hd⟩

set_option maxRecDepth 100000 in
set_option maxHeartbeats 4000000 in
theorem back_3M (s : Nat → BitVec 64) (m : Int) (pc c tv : BitVec 64) (it : Bool) (w : World) (h0 : 0 ≤ m) (hc : U c < 256) (hl : lwM m = 3) (I O Wt : Nat → BitVec 64) (Y : Int)
    (hI : ∀ w, Calls Try.prog 15 #[.agg (stC s), .int .u8 3, .int .u64 (U pc), .agg #[.int .u8 (U c), .bool it, .int .u64 (U tv)]] w fun e w' => e = .returned (.tuple #[.agg (stC I), .int .u8 3, .int .u64 Y]) ∧ Fr [] w w')
    (hO : ∀ w, Calls Try.prog 19 #[.agg (stC I)] w fun e w' => e = .returned (.tuple #[.agg (stC O), .int .u8 3, .int .u64 (U (pc &&& ~~~1#64))]) ∧ Fr [] w w')
    (hW : O = upd (upd (upd (upd s 8 (I 8)) 9 (I 9)) 10 (I 10)) 1 (s 1 &&& ~~~6144#64 ||| 128#64)) :
    Calls Try.prog 8 #[.agg (stC s), .agg #[.int .u8 m, .int .u64 (U pc)], .agg #[.int .u8 (U c), .bool it, .int .u64 (U tv)]] w fun e w' => e = .returned (.bool true) ∧ Fr [] w w' := by
  have HI := hid hI
  have HO := hid hO
  have HW := hid hW
  have Hl := hid (fun w => lower_any m w h0)
  clear hI hO hW
  go_enter Try.func8, Try.ntmps8
  go_upto_region 1 with (fail)
  refine world_at (fun W0 => W0.heap[w.heap.size]? = some (.cells (stC s) 25) ∧ W0.heap[w.heap.size + 1]? = some (.cells (#[.int .u8 m, .int .u64 (U pc)]) 32) ∧ W0.heap[w.heap.size + 1 + 1]? = some (.cells (#[.int .u8 (U c), .bool it, .int .u64 (U tv)]) 34) ∧ Fr [] w W0) ⟨(blk_alloc (blk_alloc (blk_new _ _) _) _), (blk_alloc (blk_new' (by simp) _) _), (blk_new' (by simp) _), ((((Fr.refl _ _).alloc _).alloc _).alloc _)⟩ ?_
  rintro W0 ⟨bS, bX, bT, hF⟩
  have HS := hid bS
  have HX := hid bX
  have HT := hid bT
  clear bS bX bT
  have cX := blk_cell HX.out
  have cS := blk_cell HS.out
  go_upto_region 4 with (go_at_call 17; refine (Hl.out _).mono ?_; rintro e w' ⟨rfl, rfl⟩; rw [hl])
  refine world_at (fun W1 => W1.heap[w.heap.size]? = some (.cells (stC s) 25) ∧ W1.heap[w.heap.size + 1]? = some (.cells (#[.int .u8 m, .int .u64 (U pc)]) 32) ∧ W1.heap[w.heap.size + 1 + 1]? = some (.cells (#[.int .u8 (U c), .bool it, .int .u64 (U tv)]) 34) ∧ Fr [] w W1) ⟨HS.out, HX.out, HT.out, hF⟩ ?_
  clear HS HX HT hF cX cS
  rintro W1 ⟨bS, bX, bT, hF⟩
  have HS := hid bS
  have HX := hid bX
  have HT := hid bT
  clear bS bX bT
  have cX := blk_cell HX.out
  go_upto_region 5 with (first | (refine wpList_load_row_g (by rfl) 25 _ rfl (w.heap.size) rfl 25 (stC s) (0, 0) _ HS.out Try.underlying25 rfl (size25' _) ?_) | (refine wpList_load_row_g (by rfl) 32 _ rfl (w.heap.size + 1) rfl 32 (#[.int .u8 m, .int .u64 (U pc)]) (0, 0) _ HX.out Try.underlying32 rfl (by kernel_rfl) ?_) | (refine wpList_load_row_g (by rfl) 34 _ rfl (w.heap.size + 1 + 1) rfl 34 (#[.int .u8 (U c), .bool it, .int .u64 (U tv)]) (0, 0) _ HT.out Try.underlying34 rfl (by kernel_rfl) ?_) | (go_at_call 15; refine (HI.out _).mono ?_; rintro e wa2 ⟨rfl, hd⟩) | (refine wpList_store_whole rfl 25 _ _ rfl wa2.heap.size rfl (stC I) rfl 25 _ (blk_new _ _) rfl (size25' _) (oneCell_stC _) ?_; intro wb2 h2 hfr2))
  have hd2 : Fr [] W1 wb2 := (hd.alloc _).step hfr2 (fun j hj => .inr (by have := hd.size; simp at hj; omega))
  clear hfr2
  refine world_at (fun W2 => W2.heap[w.heap.size]? = some (.cells (stC s) 25) ∧ W2.heap[w.heap.size + 1]? = some (.cells (#[.int .u8 m, .int .u64 (U pc)]) 32) ∧ W2.heap[w.heap.size + 1 + 1]? = some (.cells (#[.int .u8 (U c), .bool it, .int .u64 (U tv)]) 34) ∧ W2.heap[wa2.heap.size]? = some (.cells (stC I) 25) ∧ Fr [] w W2) ⟨hd2.keeps HS.out (by simp), hd2.keeps HX.out (by simp), hd2.keeps HT.out (by simp), h2, hF.trans hd2⟩ ?_
  clear HS HX HT hF cX hd hd2 h2
  rintro W2 ⟨bS, bX, bT, bI, hF⟩
  have HS := hid bS
  have HX := hid bX
  have HT := hid bT
  have HI := hid bI
  clear bS bX bT bI
  go_upto_region 14 with (first | (refine wpList_load_row_g (by rfl) 25 _ rfl (w.heap.size) rfl 25 (stC s) (0, 0) _ HS.out Try.underlying25 rfl (size25' _) ?_) | (refine wpList_load_row_g (by rfl) 32 _ rfl (w.heap.size + 1) rfl 32 (#[.int .u8 m, .int .u64 (U pc)]) (0, 0) _ HX.out Try.underlying32 rfl (by kernel_rfl) ?_) | (refine wpList_load_row_g (by rfl) 34 _ rfl (w.heap.size + 1 + 1) rfl 34 (#[.int .u8 (U c), .bool it, .int .u64 (U tv)]) (0, 0) _ HT.out Try.underlying34 rfl (by kernel_rfl) ?_) | (refine wpList_load_row_g (by rfl) 25 _ rfl (wa2.heap.size) rfl 25 (stC I) (0, 0) _ HI.out Try.underlying25 rfl (size25' _) ?_) | (go_at_call 19; refine (HO.out _).mono ?_; rintro e wa3 ⟨rfl, hd⟩) | (refine wpList_store_whole rfl 25 _ _ rfl wa3.heap.size rfl (stC O) rfl 25 _ (blk_new _ _) rfl (size25' _) (oneCell_stC _) ?_; intro wb3 h2 hfr2))
  have hd2 : Fr [] W2 wb3 := (hd.alloc _).step hfr2 (fun j hj => .inr (by have := hd.size; simp at hj; omega))
  clear hfr2
  refine world_at (fun W3 => W3.heap[w.heap.size]? = some (.cells (stC s) 25) ∧ W3.heap[w.heap.size + 1]? = some (.cells (#[.int .u8 m, .int .u64 (U pc)]) 32) ∧ W3.heap[w.heap.size + 1 + 1]? = some (.cells (#[.int .u8 (U c), .bool it, .int .u64 (U tv)]) 34) ∧ W3.heap[wa2.heap.size]? = some (.cells (stC I) 25) ∧ W3.heap[wa3.heap.size]? = some (.cells (stC O) 25) ∧ Fr [] w W3) ⟨hd2.keeps HS.out (by simp), hd2.keeps HX.out (by simp), hd2.keeps HT.out (by simp), hd2.keeps HI.out (by simp), h2, hF.trans hd2⟩ ?_
  clear HS HX HT HI hF hd hd2 h2
  rintro W3 ⟨bS, bX, bT, bI, bO, hF⟩
  have HS := hid bS
  have HX := hid bX
  have HT := hid bT
  have HI := hid bI
  have HO := hid bO
  clear bS bX bT bI bO
  go_upto_region 15 with (first | (refine wpList_load_row_g (by rfl) 25 _ rfl (w.heap.size) rfl 25 (stC s) (0, 0) _ HS.out Try.underlying25 rfl (size25' _) ?_) | (refine wpList_load_row_g (by rfl) 32 _ rfl (w.heap.size + 1) rfl 32 (#[.int .u8 m, .int .u64 (U pc)]) (0, 0) _ HX.out Try.underlying32 rfl (by kernel_rfl) ?_) | (refine wpList_load_row_g (by rfl) 34 _ rfl (w.heap.size + 1 + 1) rfl 34 (#[.int .u8 (U c), .bool it, .int .u64 (U tv)]) (0, 0) _ HT.out Try.underlying34 rfl (by kernel_rfl) ?_) | (refine wpList_load_row_g (by rfl) 25 _ rfl (wa2.heap.size) rfl 25 (stC I) (0, 0) _ HI.out Try.underlying25 rfl (size25' _) ?_) | (refine wpList_load_row_g (by rfl) 25 _ rfl (wa3.heap.size) rfl 25 (stC O) (0, 0) _ HO.out Try.underlying25 rfl (size25' _) ?_) | (refine wpList_store_whole rfl 25 _ _ rfl W3.heap.size rfl (stC s) rfl 25 _ (blk_new _ _) rfl (size25' _) (oneCell_stC _) ?_; intro wk h2 hfr2))
  have hd2 : Fr [] W3 wk := ((Fr.refl _ _).alloc _).step hfr2 (fun j hj => .inr (by simp at hj; omega))
  clear hfr2
  have aS : w.heap.size < W3.heap.size := lt_of_block HS.out
  have aX : w.heap.size + 1 < W3.heap.size := lt_of_block HX.out
  have aT : w.heap.size + 1 + 1 < W3.heap.size := lt_of_block HT.out
  have aI : wa2.heap.size < W3.heap.size := lt_of_block HI.out
  have aO : wa3.heap.size < W3.heap.size := lt_of_block HO.out
  refine world_at (fun W4 => W4.heap[w.heap.size]? = some (.cells (stC s) 25) ∧ W4.heap[w.heap.size + 1]? = some (.cells (#[.int .u8 m, .int .u64 (U pc)]) 32) ∧ W4.heap[w.heap.size + 1 + 1]? = some (.cells (#[.int .u8 (U c), .bool it, .int .u64 (U tv)]) 34) ∧ W4.heap[wa2.heap.size]? = some (.cells (stC I) 25) ∧ W4.heap[wa3.heap.size]? = some (.cells (stC O) 25) ∧ W4.heap[W3.heap.size]? = some (.cells (stC s) 25) ∧ Fr [] w W4) ⟨hd2.keeps HS.out (by simp), hd2.keeps HX.out (by simp), hd2.keeps HT.out (by simp), hd2.keeps HI.out (by simp), hd2.keeps HO.out (by simp), h2, hF.trans hd2⟩ ?_
  clear HS HX HT HI HO hF hd2 h2
  rintro W4 ⟨bS, bX, bT, bI, bO, bK, hF⟩
  have HS := hid bS
  have HX := hid bX
  have HT := hid bT
  have HI := hid bI
  have HO := hid bO
  have HK := hid bK
  clear bS bX bT bI bO bK
  have cI := blk_cell HI.out
  have cK := blk_cell HK.out
  have cX := blk_cell HX.out
  have fK := blk_free HK.out
  go_upto_region 19 with (fail)
  refine world_at (fun W5 => W5.heap[w.heap.size]? = some (.cells (stC s) 25) ∧ W5.heap[w.heap.size + 1]? = some (.cells (#[.int .u8 m, .int .u64 (U pc)]) 32) ∧ W5.heap[w.heap.size + 1 + 1]? = some (.cells (#[.int .u8 (U c), .bool it, .int .u64 (U tv)]) 34) ∧ W5.heap[wa2.heap.size]? = some (.cells (stC I) 25) ∧ W5.heap[wa3.heap.size]? = some (.cells (stC O) 25) ∧ W5.heap[W3.heap.size]? = some (.cells (stC O) 25) ∧ Fr [] w W5) ⟨(blk_set_keep (blk_set_keep (blk_set_keep (blk_set_keep HS.out _ _ (by show _ ≠ W3.heap.size; omega)) _ _ (by show _ ≠ W3.heap.size; omega)) _ _ (by show _ ≠ W3.heap.size; omega)) _ _ (by show _ ≠ W3.heap.size; omega)), (blk_set_keep (blk_set_keep (blk_set_keep (blk_set_keep HX.out _ _ (by show _ ≠ W3.heap.size; omega)) _ _ (by show _ ≠ W3.heap.size; omega)) _ _ (by show _ ≠ W3.heap.size; omega)) _ _ (by show _ ≠ W3.heap.size; omega)), (blk_set_keep (blk_set_keep (blk_set_keep (blk_set_keep HT.out _ _ (by show _ ≠ W3.heap.size; omega)) _ _ (by show _ ≠ W3.heap.size; omega)) _ _ (by show _ ≠ W3.heap.size; omega)) _ _ (by show _ ≠ W3.heap.size; omega)), (blk_set_keep (blk_set_keep (blk_set_keep (blk_set_keep HI.out _ _ (by show _ ≠ W3.heap.size; omega)) _ _ (by show _ ≠ W3.heap.size; omega)) _ _ (by show _ ≠ W3.heap.size; omega)) _ _ (by show _ ≠ W3.heap.size; omega)), (blk_set_keep (blk_set_keep (blk_set_keep (blk_set_keep HO.out _ _ (by show _ ≠ W3.heap.size; omega)) _ _ (by show _ ≠ W3.heap.size; omega)) _ _ (by show _ ≠ W3.heap.size; omega)) _ _ (by show _ ≠ W3.heap.size; omega)), cells_eq (st_set (st_set (st_set (st_set HK.out 8 _) 9 _) 10 _) 1 _) (by rw [HW.out]; rfl), ((((hF.setCell (.inr (by show w.heap.size ≤ W3.heap.size; omega)) _).setCell (.inr (by show w.heap.size ≤ W3.heap.size; omega)) _).setCell (.inr (by show w.heap.size ≤ W3.heap.size; omega)) _).setCell (.inr (by show w.heap.size ≤ W3.heap.size; omega)) _)⟩ ?_
  clear HS HX HT HI HO HK hF cI cK cX fK
  rintro W5 ⟨bS, bX, bT, bI, bO, bK, hF⟩
  have HS := hid bS
  have HX := hid bX
  have HT := hid bT
  have HI := hid bI
  have HO := hid bO
  have HK := hid bK
  clear bS bX bT bI bO bK
  have cX := blk_cell HX.out
  have hq := eq_arr O
  go_wp2_with (first | (refine wpList_load_row_g (by rfl) 25 _ rfl (w.heap.size) rfl 25 (stC s) (0, 0) _ HS.out Try.underlying25 rfl (size25' _) ?_) | (refine wpList_load_row_g (by rfl) 32 _ rfl (w.heap.size + 1) rfl 32 (#[.int .u8 m, .int .u64 (U pc)]) (0, 0) _ HX.out Try.underlying32 rfl (by kernel_rfl) ?_) | (refine wpList_load_row_g (by rfl) 34 _ rfl (w.heap.size + 1 + 1) rfl 34 (#[.int .u8 (U c), .bool it, .int .u64 (U tv)]) (0, 0) _ HT.out Try.underlying34 rfl (by kernel_rfl) ?_) | (refine wpList_load_row_g (by rfl) 25 _ rfl (wa2.heap.size) rfl 25 (stC I) (0, 0) _ HI.out Try.underlying25 rfl (size25' _) ?_) | (refine wpList_load_row_g (by rfl) 25 _ rfl (wa3.heap.size) rfl 25 (stC O) (0, 0) _ HO.out Try.underlying25 rfl (size25' _) ?_) | (refine wpList_load_row_g (by rfl) 25 _ rfl (W3.heap.size) rfl 25 (stC O) (0, 0) _ HK.out Try.underlying25 rfl (size25' _) ?_) | (go_at_call 14; refine (works_any _).mono ?_; rintro e w9 ⟨rfl, hd⟩))
  go_ret
  exact ⟨rfl, hF.trans hd⟩
end Go.Proofs.Ytfdkmkblhicbfaa
