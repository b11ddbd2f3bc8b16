/- The law TrapLeaves without its row: the ways back of the program and of its reference are the same. -/
import Derived.Test.YtfdkmkblhicbfaaH
import Derived.Test.YtfdkmkblhicbfaaEq
import Derived.Test.YtfdkmkblhicbfaaRowG
import Derived.Test.YtfdkmkblhicbfaaGm0
import Derived.Test.YtfdkmkblhicbfaaGm1
import Derived.Test.YtfdkmkblhicbfaaGm3
import Derived.Test.YtfdkmkblhicbfaaGs0
import Derived.Test.YtfdkmkblhicbfaaGs1
namespace Go.Proofs.Ytfdkmkblhicbfaa
set_option linter.all false
open Go.RowKit

def mrS (s : Nat → BitVec 64) : Nat → BitVec 64 := upd s 1 (mrM s (rm (U (mpp s))))
def srS (s : Nat → BitVec 64) : Nat → BitVec 64 := upd s 1 (srM s)
def srL (s : Nat → BitVec 64) : Int := if tb (s 1) 8 = true then 1 else 0
theorem mret_any (s : Nat → BitVec 64) (w : World) : Calls Try.prog 19 #[.agg (stC s)] w fun e w' => e = .returned (.tuple #[.agg (stC (mrS s)), .int .u8 (rm (U (mpp s))), .int .u64 (U (s 8))]) ∧ Fr [] w w' := by
  unfold mrS
  rcases rm_cases (U (mpp s)) (U_bd _).1 with h | h | h
  · have := mret_0 s w h (mrM s 0) rfl; rw [h]; exact this
  · have := mret_1 s w h (mrM s 1) rfl; rw [h]; exact this
  · have := mret_3 s w h (mrM s 3) rfl; rw [h]; exact this
theorem refMret_any (s : Nat → BitVec 64) (w : World) : Calls Try.prog 20 #[.agg (stC s)] w fun e w' => e = .returned (.tuple #[.agg (stC (mrS s)), .int .u8 (rm (U (mpp s))), .int .u64 (U (s 8))]) ∧ Fr [] w w' := by
  unfold mrS
  rcases rm_cases (U (mpp s)) (U_bd _).1 with h | h | h
  · have := refMret_0 s w h (mrM s 0) rfl; rw [h]; exact this
  · have := refMret_1 s w h (mrM s 1) rfl; rw [h]; exact this
  · have := refMret_3 s w h (mrM s 3) rfl; rw [h]; exact this
theorem sret_any (s : Nat → BitVec 64) (m : Int) (w : World) : Calls Try.prog 21 #[.agg (stC s), .int .u8 m] w fun e w' => e = .returned (.tuple #[.agg (stC (srS s)), .int .u8 (srL s), .int .u64 (U (s 14))]) ∧ Fr [] w w' := by
  unfold srS srL
  cases h : tb (s 1) 8
  · exact sret_0 s m w h (srM s) rfl
  · exact sret_1 s m w h (srM s) rfl
theorem refSret_any (s : Nat → BitVec 64) (w : World) : Calls Try.prog 22 #[.agg (stC s)] w fun e w' => e = .returned (.tuple #[.agg (stC (srS s)), .int .u8 (srL s), .int .u64 (U (s 14))]) ∧ Fr [] w w' := by
  unfold srS srL
  cases h : tb (s 1) 8
  · exact refSret_0 s w h (srM s) rfl
  · exact refSret_1 s w h (srM s) rfl

set_option maxRecDepth 100000 in
set_option maxHeartbeats 4000000 in
theorem law_TrapLeaves (s : Nat → BitVec 64) (m : Int) (w : World) (h0 : 0 ≤ m) :
    Calls Try.prog 7 #[.agg (stC s), .int .u8 m] w fun e w' => e = .returned (.bool true) ∧ Fr [] w w' := by
  have q1 := hid fun w => mret_any s w
  have q2 := hid fun w => refMret_any s w
  have q3 := hid fun w => sret_any s m w
  have q4 := hid fun w => refSret_any s w
  generalize mrS s = A at q1 q2
  generalize srS s = B at q3 q4
  generalize rm (U (mpp s)) = L at q1 q2
  generalize srL s = L' at q3 q4
  generalize U (s 8) = X at q1 q2
  generalize U (s 14) = Y at q3 q4
  go_enter Try.func7, Try.ntmps7
  go_upto_region 1 with (fail)
  refine world_at (fun W0 => W0.heap[w.heap.size]? = some (.cells (stC s) 25) ∧ Fr [] w W0) ⟨(blk_new _ _), ((Fr.refl _ _).alloc _)⟩ ?_
  rintro W0 ⟨bS, hF⟩
  have HS := hid bS
  clear bS
  go_upto_region 2 with (first | (refine wpList_load_row_g (by rfl) 25 _ rfl (w.heap.size) rfl 25 (stC s) (0, 0) _ HS.out Try.underlying25 rfl (size25' _) ?_) | (go_at_call 19; refine (q1.out _).mono ?_; rintro e wa1 ⟨rfl, hd⟩) | (refine wpList_store_whole rfl 25 _ _ rfl wa1.heap.size rfl (stC A) rfl 25 _ (blk_new _ _) rfl (size25' _) (oneCell_stC _) ?_; intro wb1 h2 hfr2))
  have hd2 : Fr [] W0 wb1 := (hd.alloc _).step hfr2 (fun j hj => .inr (by have := hd.size; simp at hj; omega))
  clear hfr2
  refine world_at (fun W1 => W1.heap[w.heap.size]? = some (.cells (stC s) 25) ∧ W1.heap[wa1.heap.size]? = some (.cells (stC A) 25) ∧ Fr [] w W1) ⟨hd2.keeps HS.out (by simp), h2, hF.trans hd2⟩ ?_
  clear HS hF hd hd2 h2
  rintro W1 ⟨bS, bA, hF⟩
  have HS := hid bS
  have HA := hid bA
  clear bS bA
  go_upto_region 3 with (first | (refine wpList_load_row_g (by rfl) 25 _ rfl (w.heap.size) rfl 25 (stC s) (0, 0) _ HS.out Try.underlying25 rfl (size25' _) ?_) | (refine wpList_load_row_g (by rfl) 25 _ rfl (wa1.heap.size) rfl 25 (stC A) (0, 0) _ HA.out Try.underlying25 rfl (size25' _) ?_) | (go_at_call 20; refine (q2.out _).mono ?_; rintro e wa2 ⟨rfl, hd⟩) | (refine wpList_store_whole rfl 25 _ _ rfl wa2.heap.size rfl (stC A) rfl 25 _ (blk_new _ _) rfl (size25' _) (oneCell_stC _) ?_; intro wb2 h2 hfr2))
  have hd2 : Fr [] W1 wb2 := (hd.alloc _).step hfr2 (fun j hj => .inr (by have := hd.size; simp at hj; omega))
  clear hfr2
  refine world_at (fun W2 => W2.heap[w.heap.size]? = some (.cells (stC s) 25) ∧ W2.heap[wa1.heap.size]? = some (.cells (stC A) 25) ∧ W2.heap[wa2.heap.size]? = some (.cells (stC A) 25) ∧ Fr [] w W2) ⟨hd2.keeps HS.out (by simp), hd2.keeps HA.out (by simp), h2, hF.trans hd2⟩ ?_
  clear HS HA hF hd hd2 h2
  rintro W2 ⟨bS, bA, bB, hF⟩
  have HS := hid bS
  have HA := hid bA
  have HB := hid bB
  clear bS bA bB
  go_upto_region 4 with (first | (refine wpList_load_row_g (by rfl) 25 _ rfl (w.heap.size) rfl 25 (stC s) (0, 0) _ HS.out Try.underlying25 rfl (size25' _) ?_) | (refine wpList_load_row_g (by rfl) 25 _ rfl (wa1.heap.size) rfl 25 (stC A) (0, 0) _ HA.out Try.underlying25 rfl (size25' _) ?_) | (refine wpList_load_row_g (by rfl) 25 _ rfl (wa2.heap.size) rfl 25 (stC A) (0, 0) _ HB.out Try.underlying25 rfl (size25' _) ?_) | (go_at_call 21; refine (q3.out _).mono ?_; rintro e wa3 ⟨rfl, hd⟩) | (refine wpList_store_whole rfl 25 _ _ rfl wa3.heap.size rfl (stC B) rfl 25 _ (blk_new _ _) rfl (size25' _) (oneCell_stC _) ?_; intro wb3 h2 hfr2))
  have hd2 : Fr [] W2 wb3 := (hd.alloc _).step hfr2 (fun j hj => .inr (by have := hd.size; simp at hj; omega))
  clear hfr2
  refine world_at (fun W3 => W3.heap[w.heap.size]? = some (.cells (stC s) 25) ∧ W3.heap[wa1.heap.size]? = some (.cells (stC A) 25) ∧ W3.heap[wa2.heap.size]? = some (.cells (stC A) 25) ∧ W3.heap[wa3.heap.size]? = some (.cells (stC B) 25) ∧ Fr [] w W3) ⟨hd2.keeps HS.out (by simp), hd2.keeps HA.out (by simp), hd2.keeps HB.out (by simp), h2, hF.trans hd2⟩ ?_
  clear HS HA HB hF hd hd2 h2
  rintro W3 ⟨bS, bA, bB, bC, hF⟩
  have HS := hid bS
  have HA := hid bA
  have HB := hid bB
  have HC := hid bC
  clear bS bA bB bC
  go_upto_region 5 with (first | (refine wpList_load_row_g (by rfl) 25 _ rfl (w.heap.size) rfl 25 (stC s) (0, 0) _ HS.out Try.underlying25 rfl (size25' _) ?_) | (refine wpList_load_row_g (by rfl) 25 _ rfl (wa1.heap.size) rfl 25 (stC A) (0, 0) _ HA.out Try.underlying25 rfl (size25' _) ?_) | (refine wpList_load_row_g (by rfl) 25 _ rfl (wa2.heap.size) rfl 25 (stC A) (0, 0) _ HB.out Try.underlying25 rfl (size25' _) ?_) | (refine wpList_load_row_g (by rfl) 25 _ rfl (wa3.heap.size) rfl 25 (stC B) (0, 0) _ HC.out Try.underlying25 rfl (size25' _) ?_) | (go_at_call 22; refine (q4.out _).mono ?_; rintro e wa4 ⟨rfl, hd⟩) | (refine wpList_store_whole rfl 25 _ _ rfl wa4.heap.size rfl (stC B) rfl 25 _ (blk_new _ _) rfl (size25' _) (oneCell_stC _) ?_; intro wb4 h2 hfr2))
  have hd2 : Fr [] W3 wb4 := (hd.alloc _).step hfr2 (fun j hj => .inr (by have := hd.size; simp at hj; omega))
  clear hfr2
  refine world_at (fun W4 => W4.heap[wa1.heap.size]? = some (.cells (stC A) 25) ∧ W4.heap[wa2.heap.size]? = some (.cells (stC A) 25) ∧ W4.heap[wa3.heap.size]? = some (.cells (stC B) 25) ∧ W4.heap[wa4.heap.size]? = some (.cells (stC B) 25) ∧ Fr [] w W4) ⟨hd2.keeps HA.out (by simp), hd2.keeps HB.out (by simp), hd2.keeps HC.out (by simp), h2, hF.trans hd2⟩ ?_
  clear HS HA HB HC hF hd hd2 h2
  rintro W4 ⟨bA, bB, bC, bD, hF⟩
  have HA := hid bA
  have HB := hid bB
  have HC := hid bC
  have HD := hid bD
  clear bA bB bC bD
  have hq1 := eq_arr A
  have hq2 := eq_arr B
  go_wp2_with (first | (refine wpList_load_row_g (by rfl) 25 _ rfl (wa1.heap.size) rfl 25 (stC A) (0, 0) _ HA.out Try.underlying25 rfl (size25' _) ?_) | (refine wpList_load_row_g (by rfl) 25 _ rfl (wa2.heap.size) rfl 25 (stC A) (0, 0) _ HB.out Try.underlying25 rfl (size25' _) ?_) | (refine wpList_load_row_g (by rfl) 25 _ rfl (wa3.heap.size) rfl 25 (stC B) (0, 0) _ HC.out Try.underlying25 rfl (size25' _) ?_) | (refine wpList_load_row_g (by rfl) 25 _ rfl (wa4.heap.size) rfl 25 (stC B) (0, 0) _ HD.out Try.underlying25 rfl (size25' _) ?_) | (go_at_call 14; refine (works_any _).mono ?_; rintro e w9 ⟨rfl, hd⟩))
  go_ret
  exact ⟨rfl, hF.trans hd⟩
end Go.Proofs.Ytfdkmkblhicbfaa
