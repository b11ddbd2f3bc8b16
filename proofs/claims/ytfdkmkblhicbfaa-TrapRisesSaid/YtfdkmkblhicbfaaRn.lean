/- The walk of the law TrapRises: one of its ways. -/
import Derived.Test.YtfdkmkblhicbfaaQ
import Derived.Test.YtfdkmkblhicbfaaRowG
import Derived.BigGuard
import Derived.Deep.DeepCutAuto
namespace Go.Proofs.Ytfdkmkblhicbfaa
open Go.RowKit
set_option linter.all false
set_option maxRecDepth 100000 in
set_option maxHeartbeats 8000000 in
theorem rise_n (s I0 I : Nat → BitVec 64) (m md lv ca c ag nx y0 y : Int) (pc tv : BitVec 64) (it aw mo ot bv : Bool) (w : World) (HL : Hid (∀ w, Calls Try.prog 17 #[.int .u8 m] w fun e w' => e = .returned (.int .u8 md) ∧ w = w'))
    (E1 : Hid (∀ w, Calls Try.prog 15 #[.agg (stC s), .int .u8 md, .int .u64 (U pc), .agg #[.int .u8 ca, .bool it, .int .u64 (U tv)]] w fun e w' => e = .returned (.tuple #[.agg (stC I0), .int .u8 lv, .int .u64 y0]) ∧ Fr [] w w'))
    (l1 : decide (lv < md) = false) (l2 : (lv == 0) = false)
    (cw : Hid (∀ w, Calls Try.prog 14 #[] w fun e w' => e = .returned (.bool true) ∧ Fr [] w w'))
    (P1 : Hid (∀ w, Calls Try.prog 10 #[.agg (stC s), .int .u8 md] w fun e w' => e = .returned (.tuple #[.int .u8 0, .bool false]) ∧ Fr [] w w'))
    (A1 : Hid (∀ w, Calls Try.prog 12 #[.agg (stC s)] w fun e w' => e = .returned (.bool aw) ∧ Fr [] w w')) (hm : aw = true → (md != 0) = true) :
    Calls Try.prog 5 #[.agg (stC s), .agg #[.int .u8 m, .int .u64 (U pc)], .agg #[.int .u8 ca, .bool it, .int .u64 (U tv)]] w fun e w' => e = .returned (.bool true) ∧ Fr [] w w' := by
  go_enter Try.func5, Try.ntmps5
  go_upto_region 1 with (fail)
  refine world_at (fun W0 => W0.heap[w.heap.size]? = some (.cells (stC s) 25) ∧ W0.heap[w.heap.size + 1]? = some (.cells (#[.int .u8 m, .int .u64 (U pc)]) 32) ∧ W0.heap[w.heap.size + 1 + 1]? = some (.cells (#[.int .u8 ca, .bool it, .int .u64 (U tv)]) 34) ∧ Fr [] w W0) ⟨(blk_alloc (blk_alloc (blk_new _ _) _) _), (blk_alloc (blk_new' (by simp) _) _), (blk_new' (by simp) _), ((((Fr.refl _ _).alloc _).alloc _).alloc _)⟩ ?_
  rintro W0 ⟨bS, bX, bT, hF⟩
  have HS := hid bS
  have HX := hid bX
  have HT := hid bT
  clear bS bX bT
  have cX := blk_cell HX.out
  go_upto_region 2 with (go_at_call 17; ((with_reducible refine (HL.out _).mono ?_)); rintro e w' ⟨rfl, rfl⟩)
  go_upto_region 3 with (first | (refine wpList_load_row_g (by rfl) 25 _ rfl (w.heap.size) rfl 25 (stC s) (0, 0) _ HS.out Try.underlying25 rfl (size25' _) ?_) | (refine wpList_load_row_g (by rfl) 32 _ rfl (w.heap.size + 1) rfl 32 (#[.int .u8 m, .int .u64 (U pc)]) (0, 0) _ HX.out Try.underlying32 rfl (by kernel_rfl) ?_) | (refine wpList_load_row_g (by rfl) 34 _ rfl (w.heap.size + 1 + 1) rfl 34 (#[.int .u8 ca, .bool it, .int .u64 (U tv)]) (0, 0) _ HT.out Try.underlying34 rfl (by kernel_rfl) ?_) | (go_at_call 15; refine (E1.out _).mono ?_; rintro e wa1 ⟨rfl, hd⟩) | (refine wpList_store_whole rfl 25 _ _ rfl wa1.heap.size rfl (stC I0) rfl 25 _ (blk_new _ _) rfl (size25' _) (oneCell_stC _) ?_; intro wb1 h2 hfr2))
  have hd2 : Fr [] W0 wb1 := (hd.alloc _).step hfr2 (fun j hj => .inr (by have := hd.size; simp at hj; omega))
  clear hfr2
  refine world_at (fun W1 => W1.heap[w.heap.size]? = some (.cells (stC s) 25) ∧ W1.heap[w.heap.size + 1]? = some (.cells (#[.int .u8 m, .int .u64 (U pc)]) 32) ∧ W1.heap[w.heap.size + 1 + 1]? = some (.cells (#[.int .u8 ca, .bool it, .int .u64 (U tv)]) 34) ∧ W1.heap[wa1.heap.size]? = some (.cells (stC I0) 25) ∧ Fr [] w W1) ⟨hd2.keeps HS.out (by simp), hd2.keeps HX.out (by simp), hd2.keeps HT.out (by simp), h2, hF.trans hd2⟩ ?_
  clear HS HX HT hF cX hd hd2 h2
  rintro W1 ⟨bS, bX, bT, bJ, hF⟩
  have HS := hid bS
  have HX := hid bX
  have HT := hid bT
  have HJ := hid bJ
  clear bS bX bT bJ
  clear HJ HT
  go_upto_region 6 with (first | (refine wpList_load_row_g (by rfl) 25 _ rfl (w.heap.size) rfl 25 (stC s) (0, 0) _ HS.out Try.underlying25 rfl (size25' _) ?_) | (refine wpList_load_row_g (by rfl) 32 _ rfl (w.heap.size + 1) rfl 32 (#[.int .u8 m, .int .u64 (U pc)]) (0, 0) _ HX.out Try.underlying32 rfl (by kernel_rfl) ?_) | (go_at_call 10; ((with_reducible refine (P1.out _).mono ?_)); rintro e w9 ⟨rfl, hd⟩; replace hF := hF.trans hd; replace HS := hid (hd.keeps HS.out (by simp)); clear hd))
  cases aw
  · clear hm
    go_wp2_with (first | (refine wpList_load_row_g (by rfl) 25 _ rfl (w.heap.size) rfl 25 (stC s) (0, 0) _ HS.out Try.underlying25 rfl (size25' _) ?_) | (refine wpList_load_row_g (by rfl) 32 _ rfl (w.heap.size + 1) rfl 32 (#[.int .u8 m, .int .u64 (U pc)]) (0, 0) _ HX.out Try.underlying32 rfl (by kernel_rfl) ?_) | ((first | (go_at_call 12; ((with_reducible refine (A1.out _).mono ?_))) | (go_at_call 14; ((with_reducible refine (cw.out _).mono ?_)))); rintro e w9 ⟨rfl, hd⟩; replace hF := hF.trans hd; clear hd))
    go_ret
    exact ⟨rfl, hF⟩
  · replace hm := hm rfl
    go_wp2_with (first | (refine wpList_load_row_g (by rfl) 25 _ rfl (w.heap.size) rfl 25 (stC s) (0, 0) _ HS.out Try.underlying25 rfl (size25' _) ?_) | (refine wpList_load_row_g (by rfl) 32 _ rfl (w.heap.size + 1) rfl 32 (#[.int .u8 m, .int .u64 (U pc)]) (0, 0) _ HX.out Try.underlying32 rfl (by kernel_rfl) ?_) | ((first | (go_at_call 12; ((with_reducible refine (A1.out _).mono ?_))) | (go_at_call 14; ((with_reducible refine (cw.out _).mono ?_)))); rintro e w9 ⟨rfl, hd⟩; replace hF := hF.trans hd; clear hd))
    go_ret
    exact ⟨rfl, hF⟩
end Go.Proofs.Ytfdkmkblhicbfaa
