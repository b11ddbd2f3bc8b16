/- The law TrapRises, as its row wants it: over the numbers of the arguments. -/
import Derived.Test.YtfdkmkblhicbfaaS
namespace Go.Proofs.Ytfdkmkblhicbfaa
set_option linter.all false
open Go.RowKit
def mkS (l : List (BitVec 64)) : Nat → BitVec 64 := fun i => l.getD i 0#64
theorem u8_u64 {a : Int} (h : (Lit.int .u8 a).wf = true) : (Lit.int .u64 a).wf = true := by
  have := bounds_u8 h
  have h1 : (0 : Int) ≤ a := this.1
  have h2 : a ≤ 18446744073709551615 := by omega
  have e1 : IntKind.u64.min = 0 := by decide
  have e2 : IntKind.u64.max = 18446744073709551615 := by decide
  simp only [Lit.wf, e1, e2, h1, h2, decide_true, Bool.and_self]
theorem walk_TrapRises (a0_0 : Int) (a0_1 : Int) (a0_2 : Int) (a0_3 : Int) (a0_4 : Int) (a0_5 : Int) (a0_6 : Int) (a0_7 : Int) (a0_8 : Int) (a0_9 : Int) (a0_10 : Int) (a0_11 : Int) (a0_12 : Int) (a0_13 : Int) (a0_14 : Int) (a0_15 : Int) (a0_16 : Int) (a0_17 : Int) (a0_18 : Int) (a0_19 : Int) (a0_20 : Int) (a0_21 : Int) (a0_22 : Int) (a0_23 : Int) (a0_24 : Int) (a0_25 : Int) (a0_26 : Int) (a0_27 : Int) (a0_28 : Int) (a0_29 : Int) (a0_30 : Int) (a1_0 : Int) (a1_1 : Int) (a2_0 : Int) (a2_1 : Bool) (a2_2 : Int) (w : World) (w0_0 : (Lit.int .u64 a0_0).wf = true) (w0_1 : (Lit.int .u64 a0_1).wf = true) (w0_2 : (Lit.int .u64 a0_2).wf = true) (w0_3 : (Lit.int .u64 a0_3).wf = true) (w0_4 : (Lit.int .u64 a0_4).wf = true) (w0_5 : (Lit.int .u64 a0_5).wf = true) (w0_6 : (Lit.int .u64 a0_6).wf = true) (w0_7 : (Lit.int .u64 a0_7).wf = true) (w0_8 : (Lit.int .u64 a0_8).wf = true) (w0_9 : (Lit.int .u64 a0_9).wf = true) (w0_10 : (Lit.int .u64 a0_10).wf = true) (w0_11 : (Lit.int .u64 a0_11).wf = true) (w0_12 : (Lit.int .u64 a0_12).wf = true) (w0_13 : (Lit.int .u64 a0_13).wf = true) (w0_14 : (Lit.int .u64 a0_14).wf = true) (w0_15 : (Lit.int .u64 a0_15).wf = true) (w0_16 : (Lit.int .u64 a0_16).wf = true) (w0_17 : (Lit.int .u64 a0_17).wf = true) (w0_18 : (Lit.int .u64 a0_18).wf = true) (w0_19 : (Lit.int .u64 a0_19).wf = true) (w0_20 : (Lit.int .u64 a0_20).wf = true) (w0_21 : (Lit.int .u64 a0_21).wf = true) (w0_22 : (Lit.int .u64 a0_22).wf = true) (w0_23 : (Lit.int .u64 a0_23).wf = true) (w0_24 : (Lit.int .u64 a0_24).wf = true) (w0_25 : (Lit.int .u64 a0_25).wf = true) (w0_26 : (Lit.int .u64 a0_26).wf = true) (w0_27 : (Lit.int .u64 a0_27).wf = true) (w0_28 : (Lit.int .u64 a0_28).wf = true) (w0_29 : (Lit.int .u64 a0_29).wf = true) (w0_30 : (Lit.int .u64 a0_30).wf = true) (w1_0 : (Lit.int .u8 a1_0).wf = true) (w1_1 : (Lit.int .u64 a1_1).wf = true) (w2_0 : (Lit.int .u8 a2_0).wf = true) (w2_2 : (Lit.int .u64 a2_2).wf = true) :
    Calls Try.prog 5 #[.agg #[.int .u64 a0_0, .int .u64 a0_1, .int .u64 a0_2, .int .u64 a0_3, .int .u64 a0_4, .int .u64 a0_5, .int .u64 a0_6, .int .u64 a0_7, .int .u64 a0_8, .int .u64 a0_9, .int .u64 a0_10, .int .u64 a0_11, .int .u64 a0_12, .int .u64 a0_13, .int .u64 a0_14, .int .u64 a0_15, .int .u64 a0_16, .int .u64 a0_17, .int .u64 a0_18, .int .u64 a0_19, .int .u64 a0_20, .int .u64 a0_21, .int .u64 a0_22, .int .u64 a0_23, .int .u64 a0_24, .int .u64 a0_25, .int .u64 a0_26, .int .u64 a0_27, .int .u64 a0_28, .int .u64 a0_29, .int .u64 a0_30], .agg #[.int .u8 a1_0, .int .u64 a1_1], .agg #[.int .u8 a2_0, .bool a2_1, .int .u64 a2_2]] w fun e w' => e = .returned (.bool true) ∧ Below w.heap.size w w' := by
  obtain ⟨x0, rfl⟩ := bv_of_wf w0_0
  obtain ⟨x1, rfl⟩ := bv_of_wf w0_1
  obtain ⟨x2, rfl⟩ := bv_of_wf w0_2
  obtain ⟨x3, rfl⟩ := bv_of_wf w0_3
  obtain ⟨x4, rfl⟩ := bv_of_wf w0_4
  obtain ⟨x5, rfl⟩ := bv_of_wf w0_5
  obtain ⟨x6, rfl⟩ := bv_of_wf w0_6
  obtain ⟨x7, rfl⟩ := bv_of_wf w0_7
  obtain ⟨x8, rfl⟩ := bv_of_wf w0_8
  obtain ⟨x9, rfl⟩ := bv_of_wf w0_9
  obtain ⟨x10, rfl⟩ := bv_of_wf w0_10
  obtain ⟨x11, rfl⟩ := bv_of_wf w0_11
  obtain ⟨x12, rfl⟩ := bv_of_wf w0_12
  obtain ⟨x13, rfl⟩ := bv_of_wf w0_13
  obtain ⟨x14, rfl⟩ := bv_of_wf w0_14
  obtain ⟨x15, rfl⟩ := bv_of_wf w0_15
  obtain ⟨x16, rfl⟩ := bv_of_wf w0_16
  obtain ⟨x17, rfl⟩ := bv_of_wf w0_17
  obtain ⟨x18, rfl⟩ := bv_of_wf w0_18
  obtain ⟨x19, rfl⟩ := bv_of_wf w0_19
  obtain ⟨x20, rfl⟩ := bv_of_wf w0_20
  obtain ⟨x21, rfl⟩ := bv_of_wf w0_21
  obtain ⟨x22, rfl⟩ := bv_of_wf w0_22
  obtain ⟨x23, rfl⟩ := bv_of_wf w0_23
  obtain ⟨x24, rfl⟩ := bv_of_wf w0_24
  obtain ⟨x25, rfl⟩ := bv_of_wf w0_25
  obtain ⟨x26, rfl⟩ := bv_of_wf w0_26
  obtain ⟨x27, rfl⟩ := bv_of_wf w0_27
  obtain ⟨x28, rfl⟩ := bv_of_wf w0_28
  obtain ⟨x29, rfl⟩ := bv_of_wf w0_29
  obtain ⟨x30, rfl⟩ := bv_of_wf w0_30
  obtain ⟨pc, rfl⟩ := bv_of_wf w1_1
  obtain ⟨tv, rfl⟩ := bv_of_wf w2_2
  have h1 := bounds_u8 w1_0
  have h2 := bounds_u8 w2_0
  obtain ⟨c, rfl⟩ := bv_of_wf (a := a2_0) (u8_u64 w2_0)
  exact (law_TrapRises (mkS [x0, x1, x2, x3, x4, x5, x6, x7, x8, x9, x10, x11, x12, x13, x14, x15, x16, x17, x18, x19, x20, x21, x22, x23, x24, x25, x26, x27, x28, x29, x30]) a1_0 pc c tv a2_1 w h1.1 (by have := h2.2; omega)).mono fun _ _ ⟨h1, h2⟩ => ⟨h1, h2.below (Nat.le_refl _) (by simp)⟩
end Go.Proofs.Ytfdkmkblhicbfaa
