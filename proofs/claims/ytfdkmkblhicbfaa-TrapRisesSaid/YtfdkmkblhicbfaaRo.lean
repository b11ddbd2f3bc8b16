/- The walk of the law TrapRises: one of its ways. -/
import Derived.Test.YtfdkmkblhicbfaaQ
import Derived.Test.YtfdkmkblhicbfaaRowG
import Derived.BigGuard
import Derived.Deep.DeepCutAuto
namespace Go.Proofs.Ytfdkmkblhicbfaa
open Go.RowKit
set_option linter.all false
set_option maxRecDepth 100000 in
set_option maxHeartbeats 8000000 in
theorem rise_o (s I0 I : Nat → BitVec 64) (m md lv ca c ag nx y0 y : Int) (pc tv : BitVec 64) (it aw mo ot bv : Bool) (w : World) (HL : Hid (∀ w, Calls Try.prog 17 #[.int .u8 m] w fun e w' => e = .returned (.int .u8 md) ∧ w = w'))
    (E1 : Hid (∀ w, Calls Try.prog 15 #[.agg (stC s), .int .u8 md, .int .u64 (U pc), .agg #[.int .u8 ca, .bool it, .int .u64 (U tv)]] w fun e w' => e = .returned (.tuple #[.agg (stC I0), .int .u8 lv, .int .u64 y0]) ∧ Fr [] w w'))
    (l1 : decide (lv < md) = false) (l2 : (lv == 0) = false)
    (cw : Hid (∀ w, Calls Try.prog 14 #[] w fun e w' => e = .returned (.bool true) ∧ Fr [] w w'))
    (P1 : Hid (∀ w, Calls Try.prog 10 #[.agg (stC s), .int .u8 md] w fun e w' => e = .returned (.tuple #[.int .u8 c, .bool true]) ∧ Fr [] w w'))
    (A1 : Hid (∀ w, Calls Try.prog 12 #[.agg (stC s)] w fun e w' => e = .returned (.bool true) ∧ Fr [] w w'))
    (E2 : Hid (∀ w, Calls Try.prog 15 #[.agg (stC s), .int .u8 md, .int .u64 (U pc), .agg #[.int .u8 c, .bool true, .int .u64 0]] w fun e w' => e = .returned (.tuple #[.agg (stC I), .int .u8 1, .int .u64 y]) ∧ Fr [] w w'))
    (a0 : 0 ≤ c) (a1 : c < 64) (h6 : tb (s 6) c.toNat = true) (his : tb ((s 3 ||| s 4) &&& s 2) c.toNat = true) (l3 : decide (1 < md) = false)
    (P2 : Hid (∀ w, Calls Try.prog 10 #[.agg (stC I), .int .u8 1] w fun e w' => e = .returned (.tuple #[.int .u8 ag, .bool mo]) ∧ Fr [] w w'))
    (P3 : Hid (∀ w, Calls Try.prog 10 #[.agg (stC (woS s c.toNat)), .int .u8 md] w fun e w' => e = .returned (.tuple #[.int .u8 nx, .bool ot]) ∧ Fr [] w w'))
    (n0 : 0 ≤ nx) (n1 : nx < 64)
    (g0 : 0 ≤ ag) (g1 : ag < 64) (hmo : Hid (mo = true → tb (I 6) ag.toNat = false))
    (BB : Hid (ot = true → ∀ w, Calls Try.prog 18 #[.int .u8 c, .int .u8 nx] w fun e w' => e = .returned (.bool true) ∧ Fr [] w w')) (hnx : Hid (ot = true → tb (s 6) nx.toNat = true)) :
    Calls Try.prog 5 #[.agg (stC s), .agg #[.int .u8 m, .int .u64 (U pc)], .agg #[.int .u8 ca, .bool it, .int .u64 (U tv)]] w fun e w' => e = .returned (.bool true) ∧ Fr [] w w' := by
  have hs := fun (x : BitVec 64) n => bv_shr x n
  have hsh : IntKind.u64.wrap ((2 : Int) ^ c.toNat) = U (1#64 <<< c.toNat) := by
    have := bv_wshl 1#64 c.toNat
    rw [show U 1#64 = 1 from rfl, Int.one_mul] at this
    exact this
  have hb1 : ∀ (x : BitVec 64) n, (U ((x >>> n) &&& 1#64) == 1) = tb x n := bv_bit_eq
  have hb2 : ∀ (x : BitVec 64) n, (U ((x >>> n) &&& 1#64) != 1) = !(tb x n) := fun x n => by rw [bne, hb1]
  go_enter Try.func5, Try.ntmps5
  go_upto_region 1 with (fail)
  refine world_at (fun W0 => W0.heap[w.heap.size]? = some (.cells (stC s) 25) ∧ W0.heap[w.heap.size + 1]? = some (.cells (#[.int .u8 m, .int .u64 (U pc)]) 32) ∧ W0.heap[w.heap.size + 1 + 1]? = some (.cells (#[.int .u8 ca, .bool it, .int .u64 (U tv)]) 34) ∧ Fr [] w W0) ⟨(blk_alloc (blk_alloc (blk_new _ _) _) _), (blk_alloc (blk_new' (by simp) _) _), (blk_new' (by simp) _), ((((Fr.refl _ _).alloc _).alloc _).alloc _)⟩ ?_
  rintro W0 ⟨bS, bX, bT, hF⟩
  have HS := hid bS
  have HX := hid bX
  have HT := hid bT
  clear bS bX bT
  have cX := blk_cell HX.out
  go_upto_region 2 with (go_at_call 17; ((with_reducible refine (HL.out _).mono ?_)); rintro e w' ⟨rfl, rfl⟩)
  go_upto_region 3 with (first | (refine wpList_load_row_g (by rfl) 25 _ rfl (w.heap.size) rfl 25 (stC s) (0, 0) _ HS.out Try.underlying25 rfl (size25' _) ?_) | (refine wpList_load_row_g (by rfl) 32 _ rfl (w.heap.size + 1) rfl 32 (#[.int .u8 m, .int .u64 (U pc)]) (0, 0) _ HX.out Try.underlying32 rfl (by kernel_rfl) ?_) | (refine wpList_load_row_g (by rfl) 34 _ rfl (w.heap.size + 1 + 1) rfl 34 (#[.int .u8 ca, .bool it, .int .u64 (U tv)]) (0, 0) _ HT.out Try.underlying34 rfl (by kernel_rfl) ?_) | (go_at_call 15; refine (E1.out _).mono ?_; rintro e wa1 ⟨rfl, hd⟩) | (refine wpList_store_whole rfl 25 _ _ rfl wa1.heap.size rfl (stC I0) rfl 25 _ (blk_new _ _) rfl (size25' _) (oneCell_stC _) ?_; intro wb1 h2 hfr2))
  have hd2 : Fr [] W0 wb1 := (hd.alloc _).step hfr2 (fun j hj => .inr (by have := hd.size; simp at hj; omega))
  clear hfr2
  refine world_at (fun W1 => W1.heap[w.heap.size]? = some (.cells (stC s) 25) ∧ W1.heap[w.heap.size + 1]? = some (.cells (#[.int .u8 m, .int .u64 (U pc)]) 32) ∧ W1.heap[w.heap.size + 1 + 1]? = some (.cells (#[.int .u8 ca, .bool it, .int .u64 (U tv)]) 34) ∧ W1.heap[wa1.heap.size]? = some (.cells (stC I0) 25) ∧ Fr [] w W1) ⟨hd2.keeps HS.out (by simp), hd2.keeps HX.out (by simp), hd2.keeps HT.out (by simp), h2, hF.trans hd2⟩ ?_
  clear HS HX HT hF cX hd hd2 h2
  rintro W1 ⟨bS, bX, bT, bJ, hF⟩
  have HS := hid bS
  have HX := hid bX
  have HT := hid bT
  have HJ := hid bJ
  clear bS bX bT bJ
  clear HJ HT
  go_upto_region 8 with (first | (refine wpList_load_row_g (by rfl) 25 _ rfl (w.heap.size) rfl 25 (stC s) (0, 0) _ HS.out Try.underlying25 rfl (size25' _) ?_) | (refine wpList_load_row_g (by rfl) 32 _ rfl (w.heap.size + 1) rfl 32 (#[.int .u8 m, .int .u64 (U pc)]) (0, 0) _ HX.out Try.underlying32 rfl (by kernel_rfl) ?_) | (go_at_call 10; ((with_reducible refine (P1.out _).mono ?_)); rintro e w9 ⟨rfl, hd⟩; replace hF := hF.trans hd; replace HS := hid (hd.keeps HS.out (by simp)); replace HX := hid (hd.keeps HX.out (by simp)); clear hd))
  refine world_at (fun W2 => W2.heap[w.heap.size]? = some (.cells (stC s) 25) ∧ W2.heap[w.heap.size + 1]? = some (.cells (#[.int .u8 m, .int .u64 (U pc)]) 32) ∧ Fr [] w W2) ⟨HS.out, HX.out, hF⟩ ?_
  clear HS HX hF
  rintro W2 ⟨bS, bX, hF⟩
  have HS := hid bS
  have HX := hid bX
  clear bS bX
  have cX := blk_cell HX.out
  go_upto_region 9 with (first | (refine wpList_load_row_g (by rfl) 25 _ rfl (w.heap.size) rfl 25 (stC s) (0, 0) _ HS.out Try.underlying25 rfl (size25' _) ?_) | (refine wpList_load_row_g (by rfl) 32 _ rfl (w.heap.size + 1) rfl 32 (#[.int .u8 m, .int .u64 (U pc)]) (0, 0) _ HX.out Try.underlying32 rfl (by kernel_rfl) ?_) | (go_at_call 15; refine (E2.out _).mono ?_; rintro e wa3 ⟨rfl, hd⟩) | (refine wpList_store_whole rfl 25 _ _ rfl wa3.heap.size rfl (stC I) rfl 25 _ (blk_new _ _) rfl (size25' _) (oneCell_stC _) ?_; intro wb3 h2 hfr2))
  have hd2 : Fr [] W2 wb3 := (hd.alloc _).step hfr2 (fun j hj => .inr (by have := hd.size; simp at hj; omega))
  clear hfr2
  refine world_at (fun W3 => W3.heap[w.heap.size]? = some (.cells (stC s) 25) ∧ W3.heap[w.heap.size + 1]? = some (.cells (#[.int .u8 m, .int .u64 (U pc)]) 32) ∧ W3.heap[wa3.heap.size]? = some (.cells (stC I) 25) ∧ Fr [] w W3) ⟨hd2.keeps HS.out (by simp), hd2.keeps HX.out (by simp), h2, hF.trans hd2⟩ ?_
  clear HS HX hF cX hd hd2 h2
  rintro W3 ⟨bS, bX, bI, hF⟩
  have HS := hid bS
  have HX := hid bX
  have HI := hid bI
  clear bS bX bI
  clear HX
  have cS := blk_cell HS.out
  go_upto_region 10 with fail
  go_cut [108] (fun v wc => v = .bool false ∧ wc.heap[w.heap.size]? = some (.cells (stC s) 25) ∧ wc.heap[wa3.heap.size]? = some (.cells (stC I) 25) ∧ Fr [] w wc)
  case first =>
    go_wp2_with (first | (refine wpList_load_row_g (by rfl) 25 _ rfl (w.heap.size) rfl 25 (stC s) (0, 0) _ HS.out Try.underlying25 rfl (size25' _) ?_) | (refine wpList_load_row_g (by rfl) 25 _ rfl (wa3.heap.size) rfl 25 (stC I) (0, 0) _ HI.out Try.underlying25 rfl (size25' _) ?_) | (go_at_call 12; ((with_reducible refine (A1.out _).mono ?_)); rintro e w9 ⟨rfl, hd⟩; replace hF := hF.trans hd; replace HS := hid (hd.keeps HS.out (by simp)); replace HI := hid (hd.keeps HI.out (by simp)); clear hd))
    go_meet
    case rel => exact ⟨rfl, HS.out, HI.out, hF⟩
  case rest =>
  clear HS HI hF cS
  obtain ⟨rfl, hS, hI, hF⟩ := hcut
  have HS := hid hS
  have HI := hid hI
  clear hS hI
  go_upto_region 13 with (first | (refine wpList_load_row_g (by rfl) 25 _ rfl (w.heap.size) rfl 25 (stC s) (0, 0) _ HS.out Try.underlying25 rfl (size25' _) ?_) | (refine wpList_load_row_g (by rfl) 25 _ rfl (wa3.heap.size) rfl 25 (stC I) (0, 0) _ HI.out Try.underlying25 rfl (size25' _) ?_) | (go_at_call 10; ((with_reducible refine (P2.out _).mono ?_)); rintro e w9 ⟨rfl, hd⟩; replace hF := hF.trans hd; replace HS := hid (hd.keeps HS.out (by simp)); replace HI := hid (hd.keeps HI.out (by simp)); clear hd))
  go_cut [129] (fun v wc => v = .bool false ∧ wc.heap[w.heap.size]? = some (.cells (stC s) 25) ∧ Fr [] w wc)
  case first =>
    have cI := blk_cell HI.out
    cases mo
    · go_wp2_with fail
      go_meet
      case rel => exact ⟨rfl, HS.out, hF⟩
    · have hg := hmo.out rfl
      go_wp2_with fail
      go_meet
      case rel => exact ⟨rfl, HS.out, hF⟩
  case rest =>
  clear HS HI hF
  obtain ⟨rfl, hS, hF⟩ := hcut
  have HS := hid hS
  clear hS
  go_upto_region 16 with (first | (refine wpList_load_row_g (by rfl) 25 _ rfl (w.heap.size) rfl 25 (stC s) (0, 0) _ HS.out Try.underlying25 rfl (size25' _) ?_) | (refine wpList_store_whole rfl 25 _ _ rfl wc.heap.size rfl (stC s) rfl 25 _ (blk_new _ _) rfl (size25' _) (oneCell_stC _) ?_; intro wk h2 hfr2))
  have hd2 : Fr [] wc wk := ((Fr.refl _ _).alloc _).step hfr2 (fun j hj => .inr (by simp at hj; omega))
  have aS : w.heap.size < wc.heap.size := lt_of_block HS.out
  have aw' : w.heap.size ≤ wc.heap.size := hF.size
  clear hfr2
  refine world_at (fun W4 => W4.heap[w.heap.size]? = some (.cells (stC s) 25) ∧ W4.heap[wc.heap.size]? = some (.cells (stC s) 25) ∧ Fr [] w W4) ⟨hd2.keeps HS.out (by simp), h2, hF.trans hd2⟩ ?_
  clear HS hF hd2 h2
  rintro W4 ⟨bS, bK, hF⟩
  have HS := hid bS
  have HK := hid bK
  clear bS bK
  have cS := blk_cell HS.out
  have cK := blk_cell HK.out
  have fK := blk_free HK.out
  go_upto_region 17 with fail
  refine world_at (fun W5 => W5.heap[w.heap.size]? = some (.cells (stC s) 25) ∧ W5.heap[wc.heap.size]? = some (.cells (stC (woS s c.toNat)) 25) ∧ Fr [] w W5) ⟨blk_set_keep HS.out _ _ (by dsimp only; omega), cells_eq (st_set HK.out 2 _) (by first | rfl | (unfold woS; rfl)), hF.setCell (.inr (by dsimp only; omega)) _⟩ ?_
  clear HS HK hF cS cK fK
  rintro W5 ⟨bS, bK, hF⟩
  have HS := hid bS
  have HK := hid bK
  clear bS bK
  go_upto_region 18 with (first | (refine wpList_load_row_g (by rfl) 25 _ rfl (w.heap.size) rfl 25 (stC s) (0, 0) _ HS.out Try.underlying25 rfl (size25' _) ?_) | (refine wpList_load_row_g (by rfl) 25 _ rfl (wc.heap.size) rfl 25 (stC (woS s c.toNat)) (0, 0) _ HK.out Try.underlying25 rfl (size25' _) ?_) | (go_at_call 10; ((with_reducible refine (P3.out _).mono ?_)); rintro e w9 ⟨rfl, hd⟩; replace hF := hF.trans hd; replace HS := hid (hd.keeps HS.out (by simp)); clear hd))
  have cS := blk_cell HS.out
  cases ot
  · go_wp2_with (go_at_call 14; ((with_reducible refine (cw.out _).mono ?_)); rintro e w9 ⟨rfl, hd⟩; replace hF := hF.trans hd; clear hd)
    go_ret
    exact ⟨rfl, hF⟩
  · have hx := hnx.out rfl
    replace BB := hid (BB.out rfl)
    go_wp2_with ((first | (go_at_call 14; ((with_reducible refine (cw.out _).mono ?_))) | (go_at_call 18; ((with_reducible refine (BB.out _).mono ?_)))); rintro e w9 ⟨rfl, hd⟩; replace hF := hF.trans hd; replace HS := hid (hd.keeps HS.out (by simp)); clear cS; have cS := blk_cell HS.out; clear hd)
    go_ret
    exact ⟨rfl, hF⟩
end Go.Proofs.Ytfdkmkblhicbfaa
