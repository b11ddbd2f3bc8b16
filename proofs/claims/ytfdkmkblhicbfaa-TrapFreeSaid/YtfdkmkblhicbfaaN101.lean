/- The law TrapFree without its row: one of its ways. -/
import Derived.Test.YtfdkmkblhicbfaaN
namespace Go.Proofs.Ytfdkmkblhicbfaa
open Go.RowKit
set_option linter.all false
set_option maxRecDepth 100000 in
set_option maxHeartbeats 4000000 in
theorem free_101 (s : Nat → BitVec 64) (k a : Int) (w : World) (h0 : 0 ≤ k) (ea : frC k = a) (a0 : 0 ≤ a) (a1 : a < 64) (h6 : tb (s 6) a.toNat = false) (his : tb ((s 3 ||| s 4) &&& s 2) a.toNat = true) (hf : tb (s 1) 3 = true)
    (p0 : ∀ w, Calls Try.prog 10 #[.agg (stC (onlyS s a.toNat)), .int .u8 0] w fun e w' => e = .returned (.tuple #[.int .u8 a, .bool true]) ∧ Fr [] w w')
    (p1 : ∀ w, Calls Try.prog 10 #[.agg (stC (onlyS s a.toNat)), .int .u8 1] w fun e w' => e = .returned (.tuple #[.int .u8 a, .bool true]) ∧ Fr [] w w')
    (p3 : ∀ w, Calls Try.prog 10 #[.agg (stC (onlyS s a.toNat)), .int .u8 3] w fun e w' => e = .returned (.tuple #[.int .u8 a, .bool true]) ∧ Fr [] w w')
    (pa : ∀ w, Calls Try.prog 12 #[.agg (stC (onlyS s a.toNat))] w fun e w' => e = .returned (.bool true) ∧ Fr [] w w') :
    Calls Try.prog 6 #[.agg (stC s), .int .u8 k] w fun e w' => e = .returned (.bool true) ∧ Fr [] w w' := by
  have P0 := hid p0
  have P1 := hid p1
  have P3 := hid p3
  have PA := hid pa
  have hx : ∀ w, (Instr.index 41 (.agg #[.int .u8 11, .int .u8 3, .int .u8 7, .int .u8 9, .int .u8 1, .int .u8 5]) (.int .u8 (k % 6))).run Try.prog w = .ok (.int .u8 a) w := fun w => by rw [← ea]; exact fr_ix k w
  have hs := fun (x : BitVec 64) n => bv_shr x n
  have hsh : IntKind.u64.wrap ((2 : Int) ^ a.toNat) = U (1#64 <<< a.toNat) := by
    have := bv_wshl 1#64 a.toNat
    rw [show U 1#64 = 1 from rfl, Int.one_mul] at this
    exact this
  have hb1 : ∀ (x : BitVec 64) n, (U ((x >>> n) &&& 1#64) == 1) = tb x n := bv_bit_eq
  have d8 : (bits .and .u64 (U (s 1) / 8) 1 == 1) = true := by
    have h2 : U (s 1) / (8 : Int) = U (s 1 >>> 3) := bv_shr (s 1) 3
    rw [h2, show bits .and .u64 (U (s 1 >>> 3)) 1 = U (s 1 >>> 3 &&& 1#64) from bv_and_l _ 1, bv_bit_eq]; exact hf
  clear hf
  have Ea := hid ea
  clear p0 p1 p3 pa ea
  go_enter Try.func6, Try.ntmps6
  go_upto_region 1 with (fail)
  refine world_at (fun W0 => W0.heap[w.heap.size]? = some (.cells (stC s) 25) ∧ Fr [] w W0) ⟨(blk_new _ _), ((Fr.refl _ _).alloc _)⟩ ?_
  rintro W0 ⟨bS, hF⟩
  have HS := hid bS
  clear bS
  have cS := blk_cell HS.out
  go_upto_region 5 with (first | (refine wpList_load_row_g (by rfl) 25 _ rfl (w.heap.size) rfl 25 (stC s) (0, 0) _ HS.out Try.underlying25 rfl (size25' _) ?_) | (refine wpList_store_whole rfl 25 _ _ rfl W0.heap.size rfl (stC s) rfl 25 _ (blk_new _ _) rfl (size25' _) (oneCell_stC _) ?_; intro wk h2 hfr2))
  have hd2 : Fr [] W0 wk := ((Fr.refl _ _).alloc _).step hfr2 (fun j hj => .inr (by simp at hj; omega))
  have aS : w.heap.size < W0.heap.size := lt_of_block HS.out
  clear hfr2
  refine world_at (fun W1 => W1.heap[w.heap.size]? = some (.cells (stC s) 25) ∧ W1.heap[W0.heap.size]? = some (.cells (stC s) 25) ∧ Fr [] w W1) ⟨hd2.keeps HS.out (by simp), h2, hF.trans hd2⟩ ?_
  clear HS hF cS hd2 h2
  rintro W1 ⟨bS, bK, hF⟩
  have HS := hid bS
  have HK := hid bK
  clear bS bK
  have cS := blk_cell HS.out
  have cK := blk_cell HK.out
  have fK := blk_free HK.out
  go_upto_region 6 with (fail)
  refine world_at (fun W2 => W2.heap[w.heap.size]? = some (.cells (stC s) 25) ∧ W2.heap[W0.heap.size]? = some (.cells (stC (onlyS s a.toNat)) 25) ∧ Fr [] w W2) ⟨blk_set_keep HS.out _ _ (by show _ ≠ W0.heap.size; omega), cells_eq (st_set HK.out 2 _) (by first | rfl | (unfold onlyS; rfl)), hF.setCell (.inr (by show w.heap.size ≤ W0.heap.size; omega)) _⟩ ?_
  clear HS HK hF cS cK fK
  rintro W2 ⟨bS, bK, hF⟩
  have HS := hid bS
  have HK := hid bK
  clear bS bK
  go_upto_region 9 with ((first | (refine wpList_load_row_g (by rfl) 25 _ rfl (w.heap.size) rfl 25 (stC s) (0, 0) _ HS.out Try.underlying25 rfl (size25' _) ?_) | (refine wpList_load_row_g (by rfl) 25 _ rfl (W0.heap.size) rfl 25 (stC (onlyS s a.toNat)) (0, 0) _ HK.out Try.underlying25 rfl (size25' _) ?_) | (((go_at_call 10; first | (with_reducible refine (P0.out _).mono ?_) | (with_reducible refine (P1.out _).mono ?_) | (with_reducible refine (P3.out _).mono ?_)); rintro e w9 ⟨rfl, hd⟩; replace hF := hF.trans hd; replace HS := hid (hd.keeps HS.out (by simp)); replace HK := hid (hd.keeps HK.out (by simp)); clear hd))))
  have cS := blk_cell HS.out
  go_wp2_with ((first | (refine wpList_load_row_g (by rfl) 25 _ rfl (w.heap.size) rfl 25 (stC s) (0, 0) _ HS.out Try.underlying25 rfl (size25' _) ?_) | (refine wpList_load_row_g (by rfl) 25 _ rfl (W0.heap.size) rfl 25 (stC (onlyS s a.toNat)) (0, 0) _ HK.out Try.underlying25 rfl (size25' _) ?_) | (((first | (go_at_call 12; refine (PA.out _).mono ?_) | (go_at_call 14; refine (works_any _).mono ?_)); rintro e w9 ⟨rfl, hd⟩; replace hF := hF.trans hd; clear hd))))
  go_ret
  exact ⟨rfl, hF⟩
end Go.Proofs.Ytfdkmkblhicbfaa
