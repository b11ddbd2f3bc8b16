/- Contracts of package trap and of its reference: both ways back. -/
import Derived.Test.YtfdkmkblhicbfaaE
namespace Go.Proofs.Ytfdkmkblhicbfaa
set_option linter.all false
open Go.RowKit

theorem mask32_ne (x : BitVec 64) : (U (x &&& 32#64) != 0) = tb x 5 := bv_mask_ne x 5 (by decide)
theorem mask128_ne (x : BitVec 64) : (U (x &&& 128#64) != 0) = tb x 7 := bv_mask_ne x 7 (by decide)
theorem mask256_ne (x : BitVec 64) : (U (x &&& 256#64) != 0) = tb x 8 := bv_mask_ne x 8 (by decide)
/-- the mode that a way back from M leads to, as it is kept -/
def mpp (s : Nat → BitVec 64) : BitVec 64 := s 1 >>> 11 &&& 3#64
theorem mpp_lt (s : Nat → BitVec 64) : U (mpp s) < 4 := by
  unfold U mpp
  rw [BitVec.toNat_and]
  have : (s 1 >>> 11).toNat &&& 3 ≤ 3 := Nat.and_le_right
  show (((s 1 >>> 11).toNat &&& 3 : Nat) : Int) < 4
  omega
theorem mpp_and (s : Nat → BitVec 64) : bits .and .u64 (U (s 1) / (2048 : Int)) 3 = U (mpp s) := by
  have h : U (s 1) / (2048 : Int) = U (s 1 >>> 11) := bv_shr (s 1) 11
  rw [h]; exact bv_and_l _ 3
theorem mpp_rem (s : Nat → BitVec 64) : U (s 1) / (2048 : Int) % 4 = U (mpp s) := by
  have h : U (s 1) / (2048 : Int) = U (s 1 >>> 11) := bv_shr (s 1) 11
  rw [h]; exact rem4 _
theorem mpp_tmod (s : Nat → BitVec 64) : (U (s 1) / (2048 : Int)).tmod 4 = U (mpp s) := by
  rw [Int.tmod_eq_emod_of_nonneg (Int.ediv_nonneg (U_bd _).1 (by decide))]; exact mpp_rem s
def mrM (s : Nat → BitVec 64) (r : Int) : BitVec 64 := if r = 3 then (setB (s 1) 8#64 (tb (s 1) 7) &&& ~~~6144#64) ||| 128#64 else ((setB (s 1) 8#64 (tb (s 1) 7) &&& ~~~6144#64) ||| 128#64) &&& ~~~131072#64
def srM (s : Nat → BitVec 64) : BitVec 64 := (setB (s 1) 2#64 (tb (s 1) 5) &&& ~~~131328#64) ||| 32#64
theorem set8 (n : BitVec 64) (c : Bool) (w : World) : Calls Try.prog 33 #[.int .u64 (U n), .int .u64 8, .bool c] w fun e w' => e = .returned (.int .u64 (U (setB n 8#64 c))) ∧ w = w' := set_any n 8#64 c w
theorem set2 (n : BitVec 64) (c : Bool) (w : World) : Calls Try.prog 33 #[.int .u64 (U n), .int .u64 2, .bool c] w fun e w' => e = .returned (.int .u64 (U (setB n 2#64 c))) ∧ w = w' := set_any n 2#64 c w
theorem upd2 (s : Nat → BitVec 64) (x y : BitVec 64) : upd (upd s 1 x) 1 y = upd s 1 y := upd_upd s 1 x y
theorem mr_3 (x : BitVec 64) : setB (setB (setB (x) 128#64 true) 2048#64 false) 4096#64 false = ((x &&& ~~~6144#64) ||| 128#64) := by
  have key : ∀ i, i < 64 → ∀ b : Bool, (((b || (128#64).getLsbD i) && !(2048#64).getLsbD i) && !(4096#64).getLsbD i) = ((b && !(6144#64).getLsbD i) || (128#64).getLsbD i) := by decide
  apply bv_ext; intro i hi
  have := key i hi (x.getLsbD i)
  simp only [setB, if_true, Bool.false_eq_true, if_false, BitVec.getLsbD_and, BitVec.getLsbD_or, BitVec.getLsbD_not, hi, decide_true, Bool.true_and]
  exact this
theorem mr_1 (x : BitVec 64) : setB (setB (setB (setB (x) 128#64 true) 2048#64 false) 4096#64 false) 131072#64 false = (((x &&& ~~~6144#64) ||| 128#64) &&& ~~~131072#64) := by
  have key : ∀ i, i < 64 → ∀ b : Bool, ((((b || (128#64).getLsbD i) && !(2048#64).getLsbD i) && !(4096#64).getLsbD i) && !(131072#64).getLsbD i) = (((b && !(6144#64).getLsbD i) || (128#64).getLsbD i) && !(131072#64).getLsbD i) := by decide
  apply bv_ext; intro i hi
  have := key i hi (x.getLsbD i)
  simp only [setB, if_true, Bool.false_eq_true, if_false, BitVec.getLsbD_and, BitVec.getLsbD_or, BitVec.getLsbD_not, hi, decide_true, Bool.true_and]
  exact this
theorem sr_0 (x : BitVec 64) : setB (setB (setB (x) 32#64 true) 256#64 false) 131072#64 false = ((x &&& ~~~131328#64) ||| 32#64) := by
  have key : ∀ i, i < 64 → ∀ b : Bool, (((b || (32#64).getLsbD i) && !(256#64).getLsbD i) && !(131072#64).getLsbD i) = ((b && !(131328#64).getLsbD i) || (32#64).getLsbD i) := by decide
  apply bv_ext; intro i hi
  have := key i hi (x.getLsbD i)
  simp only [setB, if_true, Bool.false_eq_true, if_false, BitVec.getLsbD_and, BitVec.getLsbD_or, BitVec.getLsbD_not, hi, decide_true, Bool.true_and]
  exact this
end Go.Proofs.Ytfdkmkblhicbfaa
