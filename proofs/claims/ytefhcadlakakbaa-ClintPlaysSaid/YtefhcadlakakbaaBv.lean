/- Whole numbers of 64 bits as vectors of bits: what the walk's operations on them come to; no program stands in here. -/
import Derived.Test.YtefhcadlakakbaaFlat
namespace Go.Proofs.Ytefhcadlakakbaa
set_option linter.all false
open Go.RowKit

theorem u64_bits (op : BinOp) (a b : Int) : bits op .u64 a b = ((match op with
    | .and => BitVec.ofInt 64 a &&& BitVec.ofInt 64 b
    | .or => BitVec.ofInt 64 a ||| BitVec.ofInt 64 b
    | .xor => BitVec.ofInt 64 a ^^^ BitVec.ofInt 64 b
    | _ => BitVec.ofInt 64 a &&& ~~~BitVec.ofInt 64 b : BitVec 64).toNat : Int) := by
  unfold bits
  simp only [IntKind.bits]
  rw [IntKind.wrap_u64]
  exact Int.emod_eq_of_lt (by omega) (by omega)

theorem bv_of (x : BitVec 64) : BitVec.ofInt 64 (x.toNat : Int) = x := by
  apply BitVec.eq_of_toNat_eq
  rw [BitVec.toNat_ofInt]
  have := x.isLt
  omega
theorem bv_lit (n : Nat) : BitVec.ofInt 64 (OfNat.ofNat n : Int) = BitVec.ofNat 64 n := by
  apply BitVec.eq_of_toNat_eq
  rw [BitVec.toNat_ofInt, BitVec.toNat_ofNat]
  show ((n : Int) % ((2 ^ 64 : Nat) : Int)).toNat = _
  omega

/-- a number of 64 bits as the walk holds it; one of its bits. (Behind names: the walk's simp takes neither apart.) -/
def U (x : BitVec 64) : Int := (x.toNat : Int)
def tb (x : BitVec 64) (n : Nat) : Bool := x.getLsbD n

theorem U_bd (x : BitVec 64) : 0 ≤ U x ∧ U x < 18446744073709551616 := by unfold U; have := x.isLt; omega
theorem U_inj {x y : BitVec 64} (h : U x = U y) : x = y := by unfold U at h; exact BitVec.eq_of_toNat_eq (by omega)
theorem U_lit (n : Nat) (h : n < 18446744073709551616) : U (BitVec.ofNat 64 n) = (n : Int) := by unfold U; rw [BitVec.toNat_ofNat]; omega

@[go_sem] theorem bv_and (x y : BitVec 64) : bits .and .u64 (U x) (U y) = U (x &&& y) := by rw [u64_bits]; simp only [U, bv_of]
@[go_sem] theorem bv_and_l (x : BitVec 64) (n : Nat) : bits .and .u64 (U x) (no_index (OfNat.ofNat n)) = U (x &&& BitVec.ofNat 64 n) := by rw [u64_bits]; simp only [U, bv_of, bv_lit]
@[go_sem] theorem bv_or (x y : BitVec 64) : bits .or .u64 (U x) (U y) = U (x ||| y) := by rw [u64_bits]; simp only [U, bv_of]
@[go_sem] theorem bv_or_l (x : BitVec 64) (n : Nat) : bits .or .u64 (U x) (no_index (OfNat.ofNat n)) = U (x ||| BitVec.ofNat 64 n) := by rw [u64_bits]; simp only [U, bv_of, bv_lit]
@[go_sem] theorem bv_xor (x y : BitVec 64) : bits .xor .u64 (U x) (U y) = U (x ^^^ y) := by rw [u64_bits]; simp only [U, bv_of]
@[go_sem] theorem bv_xor_l (x : BitVec 64) (n : Nat) : bits .xor .u64 (U x) (no_index (OfNat.ofNat n)) = U (x ^^^ BitVec.ofNat 64 n) := by rw [u64_bits]; simp only [U, bv_of, bv_lit]
@[go_sem] theorem bv_andNot (x y : BitVec 64) : bits .andNot .u64 (U x) (U y) = U (x &&& ~~~y) := by rw [u64_bits]; simp only [U, bv_of]
@[go_sem] theorem bv_andNot_l (x : BitVec 64) (n : Nat) : bits .andNot .u64 (U x) (no_index (OfNat.ofNat n)) = U (x &&& ~~~BitVec.ofNat 64 n) := by rw [u64_bits]; simp only [U, bv_of, bv_lit]

/-- a shift to the right, as the walk writes it -/
theorem bv_shr (x : BitVec 64) (n : Nat) : U x / 2 ^ n = U (x >>> n) := by
  unfold U
  rw [BitVec.toNat_ushiftRight, Nat.shiftRight_eq_div_pow]
  simp
theorem bv_shr_min (x : BitVec 64) (n : Nat) : U x / 2 ^ min n 64 = U (x >>> n) := by
  rw [bv_shr]
  rcases Nat.lt_or_ge n 64 with h | h
  · rw [Nat.min_eq_left (by omega)]
  · rw [Nat.min_eq_right (by omega)]
    unfold U
    congr 1
    rw [BitVec.toNat_ushiftRight, BitVec.toNat_ushiftRight, Nat.shiftRight_eq_div_pow, Nat.shiftRight_eq_div_pow]
    have := x.isLt
    have h2 : (2 : Nat) ^ 64 ≤ 2 ^ n := Nat.pow_le_pow_right (by decide) h
    rw [Nat.div_eq_of_lt (by omega), Nat.div_eq_of_lt (by omega)]
/-- a shift to the left -/
theorem bv_shl (x : BitVec 64) (n : Nat) : (U x * 2 ^ n) % 18446744073709551616 = U (x <<< n) := by
  unfold U
  rw [BitVec.toNat_shiftLeft, Nat.shiftLeft_eq]
  have : ((x.toNat : Int) * 2 ^ n) = ((x.toNat * 2 ^ n : Nat) : Int) := by simp
  rw [this]
  omega
theorem bv_add (x y : BitVec 64) : (U x + U y) % 18446744073709551616 = U (x + y) := by
  unfold U
  rw [BitVec.toNat_add]
  omega
theorem bv_sub (x y : BitVec 64) : (U x - U y) % 18446744073709551616 = U (x - y) := by
  unfold U
  rw [BitVec.toNat_sub]
  have := x.isLt
  have := y.isLt
  omega

@[go_sem] theorem bv_wadd (x y : BitVec 64) : IntKind.u64.wrap (U x + U y) = U (x + y) := by rw [IntKind.wrap_u64]; exact bv_add x y
@[go_sem] theorem bv_wsub (x y : BitVec 64) : IntKind.u64.wrap (U x - U y) = U (x - y) := by rw [IntKind.wrap_u64]; exact bv_sub x y
theorem bv_wshl (x : BitVec 64) (n : Nat) : IntKind.u64.wrap (U x * 2 ^ n) = U (x <<< n) := by rw [IntKind.wrap_u64]; exact bv_shl x n

theorem bv_bit (x : BitVec 64) (n : Nat) : ((x >>> n) &&& 1#64).toNat = (x.getLsbD n).toNat := by
  rw [BitVec.toNat_and, BitVec.toNat_ushiftRight]
  show x.toNat >>> n &&& 1 = _
  rw [Nat.and_one_is_mod, Nat.shiftRight_eq_div_pow]
  show _ = (x.toNat.testBit n).toNat
  rw [Nat.testBit_eq_decide_div_mod_eq]
  rcases Nat.mod_two_eq_zero_or_one (x.toNat / 2 ^ n) with h | h <;> rw [h] <;> rfl

/-- a bit as it is asked for: other than 0, or 1 -/
theorem bv_bit_ne (x : BitVec 64) (n : Nat) : (U ((x >>> n) &&& 1#64) != 0) = tb x n := by
  unfold U tb
  rw [bv_bit]
  cases x.getLsbD n <;> rfl
theorem bv_bit_eq (x : BitVec 64) (n : Nat) : (U ((x >>> n) &&& 1#64) == 1) = tb x n := by
  unfold U tb
  rw [bv_bit]
  cases x.getLsbD n <;> rfl

/-- a bit under its mask -/
theorem bv_mask_ne (x : BitVec 64) (n : Nat) (hn : n < 64) : (U (x &&& BitVec.twoPow 64 n) != 0) = tb x n := by
  unfold U tb
  rw [BitVec.and_twoPow]
  cases h : x.getLsbD n
  · rfl
  · simp only [if_true]
    have : (BitVec.twoPow 64 n).toNat = 2 ^ n := by
      rw [BitVec.toNat_twoPow, Nat.mod_eq_of_lt (Nat.pow_lt_pow_right (by decide) hn)]
    rw [this]
    have : 0 < 2 ^ n := Nat.pow_pos (by decide)
    have h2 : ((2 ^ n : Nat) : Int) ≠ 0 := by omega
    simpa using h2

theorem bv_ext {x y : BitVec 64} (h : ∀ i, i < 64 → x.getLsbD i = y.getLsbD i) : x = y := BitVec.eq_of_getLsbD_eq h

theorem bv_ofInt {a : Int} (h0 : 0 ≤ a) (h1 : a < 18446744073709551616) : U (BitVec.ofInt 64 a) = a := by
  unfold U
  rw [BitVec.toNat_ofInt]
  omega

/-- a number of 64 bits as a vector -/
theorem bv_of_wf {a : Int} (h : (Lit.int .u64 a).wf = true) : ∃ x : BitVec 64, a = U x := by
  have := bounds_u64 h
  exact ⟨BitVec.ofInt 64 a, (bv_ofInt this.1 (by omega)).symm⟩

theorem U_eq_iff (x y : BitVec 64) : (U x == U y) = decide (x = y) := by
  by_cases h : x = y
  · subst h; simp
  · simp only [h, decide_false]
    have : U x ≠ U y := fun e => h (U_inj e)
    simpa using this
end Go.Proofs.Ytefhcadlakakbaa
