/- The walk of the closed law DogKnown. -/
import Derived.Test.YtpmbfngehmdfpaaD
import Derived.Test.YtpmbfngehmdfpaaFlat
namespace Go.Proofs.Ytpmbfngehmdfpaa
open Go.RowKit

set_option maxHeartbeats 400000 in
theorem left_nil (w : World) : Calls Try.prog 11 #[.pointer none] w fun e w' => e = .returned (.int .u32 0) ∧ w = w' := by
  go_enter Try.func11, Try.ntmps11
  go_wp2
  go_ret
  exact ⟨rfl, rfl⟩

set_option maxRecDepth 100000 in
set_option maxHeartbeats 8000000 in
theorem walk_DogKnown (w : World) : Calls Try.prog 6 #[] w fun e w' => e = .returned (.bool true) ∧ Below w.heap.size w w' := by
  go_enter Try.func6, Try.ntmps6
  go_wp2_with (first | (go_at_call 8; refine (new_any _ _).mono ?_; rintro e w' ⟨rfl, rfl⟩))
  refine (awake_any _).mono ?_
  rintro e w0 ⟨rfl, hfr⟩
  have Hd0 := hid (hfr.keeps (b := w.heap.size) (o := dog 3 0) (blk_alloc (blk_new _ _) _) (by simp))
  have He0 := hid (hfr.keeps (b := w.heap.size + 1) (o := dog 0 0) (blk_new' (by simp) _) (by simp))
  have hB0 : Below w.heap.size w w0 := (((Below.refl _ _).alloc (Nat.le_refl _) _).alloc (by simp) _).trans (hfr.below (by simp; omega) (by simp))
  clear hfr
  go_wp2_with fail
  refine (ticks_yes w.heap.size w0.heap.size 3 0 2 [false, false] _ (by decide) (by have := lt_block Hd0.out; omega) (blk_alloc Hd0.out _) (blk_new _ _) rfl).mono ?_
  rintro e w1 ⟨rfl, hd, hfr⟩
  have Hd1 := hid hd
  have He1 := hid (hfr.keeps (blk_alloc He0.out _) (by simp))
  have hB1 : Below w.heap.size w w1 := (hB0.alloc hB0.size _).trans (hfr.below (by have := hB0.size; simp; omega) (by simp))
  clear hd hfr
  go_wp2_with fail
  refine (write_any w.heap.size 3 2 0 4 7 _ (by decide) (by decide) Hd1.out).mono ?_
  rintro e w2 ⟨rfl, hd, hfr⟩
  have Hd2 := hid (show _ = some (dog 3 0) from hd)
  have He2 := hid (hfr.keeps He1.out (by simp))
  have hB2 : Below w.heap.size w w2 := hB1.trans (hfr.below hB1.size (by simp))
  have i1 : isreg 0 4 = true := rfl
  rw [i1]
  clear hd hfr i1
  go_wp2_with fail
  refine (ticks_yes w.heap.size w2.heap.size 3 0 1 [false, false, true, false] _ (by decide) (by have := lt_block Hd2.out; omega) (blk_alloc Hd2.out _) (blk_new _ _) rfl).mono ?_
  rintro e w3 ⟨rfl, hd, hfr⟩
  have Hd3 := hid hd
  have He3 := hid (hfr.keeps (blk_alloc He2.out _) (by simp))
  have hB3 : Below w.heap.size w w3 := (hB2.alloc hB2.size _).trans (hfr.below (by have := hB2.size; simp; omega) (by simp))
  clear hd hfr
  go_wp2_with fail
  refine (write_any w.heap.size 3 1 0 2 7 _ (by decide) (by decide) Hd3.out).mono ?_
  rintro e w4 ⟨rfl, hd, hfr⟩
  have Hd4 := hid (show _ = some (dog 3 1) from hd)
  have He4 := hid (hfr.keeps He3.out (by simp))
  have hB4 : Below w.heap.size w w4 := hB3.trans (hfr.below hB3.size (by simp))
  have i1 : isreg 0 2 = false := rfl
  rw [i1]
  clear hd hfr i1
  go_wp2_with fail
  refine (write_any w.heap.size 3 1 4 4 7 _ (by decide) (by decide) Hd4.out).mono ?_
  rintro e w5 ⟨rfl, hd, hfr⟩
  have Hd5 := hid (show _ = some (dog 3 1) from hd)
  have He5 := hid (hfr.keeps He4.out (by simp))
  have hB5 : Below w.heap.size w w5 := hB4.trans (hfr.below hB4.size (by simp))
  have i1 : isreg 4 4 = false := rfl
  rw [i1]
  clear hd hfr i1
  go_wp2_with fail
  refine (write_any w.heap.size 3 1 8 4 7 _ (by decide) (by decide) Hd5.out).mono ?_
  rintro e w6 ⟨rfl, hd, hfr⟩
  have Hd6 := hid (show _ = some (dog 3 1) from hd)
  have He6 := hid (hfr.keeps He5.out (by simp))
  have hB6 : Below w.heap.size w w6 := hB5.trans (hfr.below hB5.size (by simp))
  have i1 : isreg 8 4 = true := rfl
  rw [i1]
  clear hd hfr i1
  go_wp2_with fail
  refine (left_any w.heap.size _ 3 1 Hd6.out).mono ?_
  rintro e w' ⟨rfl, rfl⟩
  go_wp2_with fail
  refine (ticks_yes (w.heap.size + 1) w6.heap.size 0 0 0 [false, false, false] _ (by decide) (by have := lt_block He6.out; omega) (blk_alloc He6.out _) (blk_new _ _) rfl).mono ?_
  rintro e w7 ⟨rfl, hd, hfr⟩
  have He7 := hid hd
  have Hd7 := hid (hfr.keeps (blk_alloc Hd6.out _) (by simp))
  have hB7 : Below w.heap.size w w7 := (hB6.alloc hB6.size _).trans (hfr.below (by have := hB6.size; simp; omega) (by simp))
  clear hd hfr
  go_wp2_with fail
  refine (read_any (w.heap.size + 1) 0 0 8 8 _ (by decide) (by decide) He7.out).mono ?_
  rintro e w8 ⟨rfl, hfr⟩
  have Hd8 := hid (hfr.keeps Hd7.out (by simp))
  have He8 := hid (hfr.keeps He7.out (by simp))
  have hB8 : Below w.heap.size w w8 := hB7.trans (hfr.below hB7.size (by simp))
  have i1 : isreg 8 8 = true := rfl
  have i2 : atv 0 0 8 8 = 0 := rfl
  rw [i1, i2]
  clear hfr i1 i2
  go_wp2_with fail
  refine (read_any (w.heap.size + 1) 0 0 16 4 _ (by decide) (by decide) He8.out).mono ?_
  rintro e w9 ⟨rfl, hfr⟩
  have Hd9 := hid (hfr.keeps Hd8.out (by simp))
  have He9 := hid (hfr.keeps He8.out (by simp))
  have hB9 : Below w.heap.size w w9 := hB8.trans (hfr.below hB8.size (by simp))
  have i1 : isreg 16 4 = true := rfl
  have i2 : atv 0 0 16 4 = 0 := rfl
  rw [i1, i2]
  clear hfr i1 i2
  go_wp2_with fail
  refine (read_any (w.heap.size + 1) 0 0 4 4 _ (by decide) (by decide) He9.out).mono ?_
  rintro e w10 ⟨rfl, hfr⟩
  have Hd10 := hid (hfr.keeps Hd9.out (by simp))
  have He10 := hid (hfr.keeps He9.out (by simp))
  have hB10 : Below w.heap.size w w10 := hB9.trans (hfr.below hB9.size (by simp))
  have i1 : isreg 4 4 = false := rfl
  have i2 : atv 0 0 4 4 = 0 := rfl
  rw [i1, i2]
  clear hfr i1 i2
  go_wp2_with fail
  refine (read_any (w.heap.size + 1) 0 0 0 2 _ (by decide) (by decide) He10.out).mono ?_
  rintro e w11 ⟨rfl, hfr⟩
  have Hd11 := hid (hfr.keeps Hd10.out (by simp))
  have He11 := hid (hfr.keeps He10.out (by simp))
  have hB11 : Below w.heap.size w w11 := hB10.trans (hfr.below hB10.size (by simp))
  have i1 : isreg 0 2 = false := rfl
  have i2 : atv 0 0 0 2 = 0 := rfl
  rw [i1, i2]
  clear hfr i1 i2
  go_wp2_with fail
  refine (read_any w.heap.size 3 1 8 4 _ (by decide) (by decide) Hd11.out).mono ?_
  rintro e w12 ⟨rfl, hfr⟩
  have Hd12 := hid (hfr.keeps Hd11.out (by simp))
  have He12 := hid (hfr.keeps He11.out (by simp))
  have hB12 : Below w.heap.size w w12 := hB11.trans (hfr.below hB11.size (by simp))
  have i1 : isreg 8 4 = true := rfl
  have i2 : atv 3 1 8 4 = 2 := rfl
  rw [i1, i2]
  clear hfr i1 i2
  go_wp2_with fail
  refine (read_any w.heap.size 3 1 16 8 _ (by decide) (by decide) Hd12.out).mono ?_
  rintro e w13 ⟨rfl, hfr⟩
  have Hd13 := hid (hfr.keeps Hd12.out (by simp))
  have He13 := hid (hfr.keeps He12.out (by simp))
  have hB13 : Below w.heap.size w w13 := hB12.trans (hfr.below hB12.size (by simp))
  have i1 : isreg 16 8 = true := rfl
  have i2 : atv 3 1 16 8 = 3 := rfl
  rw [i1, i2]
  clear hfr i1 i2
  go_wp2_with fail
  refine (reset_nil _).mono ?_
  rintro e w' ⟨rfl, rfl⟩
  go_wp2_with fail
  refine (read_nil _ _ _).mono ?_
  rintro e w14 ⟨rfl, hfr⟩
  have hB14 : Below w.heap.size w w14 := hB13.trans (hfr.below hB13.size (by simp))
  clear hfr
  go_wp2_with fail
  refine (write_nil _ _ _ _).mono ?_
  rintro e w15 ⟨rfl, hfr⟩
  have hB15 : Below w.heap.size w w15 := hB14.trans (hfr.below hB14.size (by simp))
  clear hfr
  go_wp2_with fail
  refine (tick_nil _).mono ?_
  rintro e w16 ⟨rfl, hfr⟩
  have hB16 : Below w.heap.size w w16 := hB15.trans (hfr.below hB15.size (by simp))
  clear hfr
  go_wp2_with (first | (go_at_call 11; refine (left_nil _).mono ?_; rintro e w' ⟨rfl, rfl⟩) | (go_at_call 19; refine (limit_nil _).mono ?_; rintro e w' ⟨rfl, rfl⟩))
  go_wp2_with fail
  refine (awake_any _).mono ?_
  rintro e w17 ⟨rfl, hfr⟩
  have hB17 : Below w.heap.size w w17 := hB16.trans (hfr.below hB16.size (by simp))
  clear hfr
  go_wp2
  go_ret
  exact ⟨rfl, hB17⟩
end Go.Proofs.Ytpmbfngehmdfpaa
