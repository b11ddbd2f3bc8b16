/- The law InstKnown: its walk. -/
import Derived.Test.YtogdifjdlkpehaaHLaw
import Derived.Test.YtogdifjdlkpehaaImg
namespace Go.Proofs.Ytogdifjdlkpehaa.PA
open Go.RowKit
set_option linter.all false
def isOk (p op rd r1 r2 im cs : Int) : Bool := decide (0 ≤ p ∧ p < 4294967296) && decide (0 ≤ op ∧ op < 256) && decide (decT p = (op, rd, r1, r2, im, cs, 4)) && decide (chkT (op, rd, r1, r2, im, cs, 4) = 0)
theorem is_ok (p op rd r1 r2 im cs : Int) (w : World) (h : isOk p op rd r1 r2 im cs = true) :
    Calls Try.prog 14 #[.int .u32 p, .agg #[.int .u8 op, .int .u8 rd, .int .u8 r1, .int .u8 r2, .int .i64 im, .int .u16 cs, .int .u8 0]] w fun e w' => e = .returned (.bool true) ∧ Fr [] w w' := by
  unfold isOk at h
  simp only [Bool.and_eq_true, decide_eq_true_iff] at h
  exact is_lit p op rd r1 r2 im cs h.1.1.1 h.1.1.2 h.1.2 h.2 w
theorem chk_lit (op rd r1 r2 im cs sz c : Int) (w : World) (h : (decide (0 ≤ op ∧ op < 256) && decide (chkT (op, rd, r1, r2, im, cs, sz) = c)) = true) :
    Calls Try.prog 12 #[.agg #[.int .u8 op, .int .u8 rd, .int .u8 r1, .int .u8 r2, .int .i64 im, .int .u16 cs, .int .u8 sz]] w fun e w' => e = .returned (.int .i64 c) ∧ Fr [] w w' := by
  simp only [Bool.and_eq_true, decide_eq_true_iff] at h
  have := chk_any (x := (op, rd, r1, r2, im, cs, sz)) h.1 w
  rw [h.2] at this
  exact this
theorem chk_ic (x : T7) (c : Int) (w : World) (h : (decide (0 ≤ x.1 ∧ x.1 < 256) && decide (chkT x = c)) = true) : Calls Try.prog 12 #[.agg (IC x)] w fun e w' => e = .returned (.int .i64 c) ∧ Fr [] w w' := by
  simp only [Bool.and_eq_true, decide_eq_true_iff] at h
  have := chk_any h.1 w
  rw [h.2] at this
  exact this
def badL : List Int := [18, 4294967295, 2097267, 304120051, 269820591, 8283, 28675, 16499, 8235]
theorem bad_all : (badL.all fun p => decide (0 ≤ p ∧ p < 4294967296) && decide (decT p = ill p)) = true := by decide +kernel
theorem bad_ill (p : Int) (h : p ∈ badL) : (0 ≤ p ∧ p < 4294967296) ∧ decT p = ill p := by
  have := List.all_eq_true.1 bad_all p h
  simp only [Bool.and_eq_true, decide_eq_true_iff] at this
  exact this
def badC : Array Value := (badL.map (Value.int .u32)).toArray
set_option maxRecDepth 100000 in
set_option maxHeartbeats 8000000 in
theorem known_w (w : World) : Calls Try.prog 5 #[] w fun e w' => e = .returned (.bool true) ∧ Fr [] w w' := by
  have hF := Fr.refl [] w
  go_enter Try.func5, Try.ntmps5
  go_upto_region 5 with (first | (go_at_call 11; (with_reducible refine (awake_any _).mono ?_); rintro e w1 ⟨rfl, hd⟩; replace hF := hF.trans hd; clear hd) | (go_at_call 14; (with_reducible refine (is_ok _ _ _ _ _ _ _ _ (by decide +kernel)).mono ?_); rintro e w1 ⟨rfl, hd⟩; replace hF := hF.trans hd; clear hd))
  have HF := hid hF
  clear hF
  go_upto_region 7 with fail
  go_loopw [2] (fun i wr => ∃ j : Nat, j ≤ 9 ∧ i = .int .i64 j ∧ Hid (wr.heap[w1.heap.size]? = some (.cells badC 22)) ∧ Hid (Fr [] w wr)) (fun i _ => 9 - (intOf i).toNat)
  case atStart => exact ⟨0, by decide, rfl, blk_new _ _, HF.out.alloc _⟩
  case round =>
    clear HF
    obtain ⟨j, hj, rfl, hB, hF⟩ := hrel
    by_cases hlt : j < 9
    · obtain ⟨p, hp⟩ : ∃ p, badL[j]? = some p := ⟨badL[j]'(show j < badL.length from hlt), List.getElem?_eq_getElem _⟩
      have c0 : wr.cell? ⟨w1.heap.size, j, none⟩ = some (.int .u32 p) := by
        rw [blk_cell hB.out]
        unfold badC
        simp [hp]
      obtain ⟨h1, h2⟩ := bad_ill p (List.mem_of_getElem? hp)
      have hil := hid fun w => illegal_yes h1 h2 w
      clear h1 h2
      replace hp := hid hp
      go_wp2_with (go_at_call 15; (with_reducible refine (hil.out _).mono ?_); rintro e w2 ⟨rfl, hd⟩)
      go_roundw
      case rel => exact ⟨j + 1, by omega, by go_num, hd.keeps hB.out (by simp), hF.out.trans hd⟩
      case measure => simp [intOf]; omega
    · obtain rfl : j = 9 := by omega
      have hF := hF.out
      clear hB
      go_upto_region 14 with fail
      refine world_atF (fun W => W.heap[wr.heap.size]? = some (.cells (IC (22, 1, 0, 0, 2048, 0, 4)) 25) ∧ W.heap[wr.heap.size + 1]? = some (.cells (IC (5, 0, 0, 0, 3, 0, 4)) 25) ∧ W.heap[wr.heap.size + 1 + 1]? = some (.cells (IC (31, 1, 0, 0, 0, 0, 2)) 25) ∧ Fr [] w W) ⟨blk_alloc (blk_alloc (blk_new _ _) _) _, blk_alloc (blk_new' (n := wr.heap.size + 1) (by simp) _) _, blk_new' (n := wr.heap.size + 1 + 1) (by simp) _, ((hF.alloc _).alloc _).alloc _⟩ ?_
      rintro W ⟨hX, hY, hZ, hF'⟩
      have HX := hid hX
      have HY := hid hY
      have HZ := hid hZ
      have HF := hid hF'
      clear hX hY hZ hF hF'
      have hK := Fr.refl [] W
      go_wp2_with (first | (go_at_call 12; (first | (with_reducible refine (chk_ic (22, 1, 0, 0, 2048, 0, 4) 3 _ (by decide +kernel)).mono ?_) | (with_reducible refine (chk_ic (5, 0, 0, 0, 3, 0, 4) 3 _ (by decide +kernel)).mono ?_) | (with_reducible refine (chk_ic (31, 1, 0, 0, 0, 0, 2) 3 _ (by decide +kernel)).mono ?_) | (with_reducible refine (chk_lit _ _ _ _ _ _ _ 3 _ (by decide +kernel)).mono ?_)); rintro e w2 ⟨rfl, hd⟩; replace hK := hK.trans hd; clear hd) | (go_at_call 11; (with_reducible refine (awake_any _).mono ?_); rintro e w2 ⟨rfl, hd⟩; replace hK := hK.trans hd; clear hd) | (refine wpList_load_row_g (by rfl) 25 _ (by rfl) wr.heap.size (by rfl) 25 (IC (22, 1, 0, 0, 2048, 0, 4)) (0, 0) _ (hK.keeps HX.out (by simp)) Try.underlying25 rfl (sizeI' _) ?_) | (refine wpList_load_row_g (by rfl) 25 _ (by rfl) (wr.heap.size + 1) (by rfl) 25 (IC (5, 0, 0, 0, 3, 0, 4)) (0, 0) _ (hK.keeps HY.out (by simp)) Try.underlying25 rfl (sizeI' _) ?_) | (refine wpList_load_row_g (by rfl) 25 _ (by rfl) (wr.heap.size + 1 + 1) (by rfl) 25 (IC (31, 1, 0, 0, 0, 0, 2)) (0, 0) _ (hK.keeps HZ.out (by simp)) Try.underlying25 rfl (sizeI' _) ?_))
      go_ret
      exact ⟨rfl, HF.out.trans hK⟩
end Go.Proofs.Ytogdifjdlkpehaa.PA
namespace Go.Proofs.Ytogdifjdlkpehaa
open PA Go.RowKit
theorem walk_InstKnown (w : World) : Calls Try.prog 5 #[] w fun e w' => e = .returned (.bool true) ∧ Below w.heap.size w w' :=
  (known_w w).mono fun _ _ ⟨h1, h2⟩ => ⟨h1, below_of_fr'' h2⟩
end Go.Proofs.Ytogdifjdlkpehaa
