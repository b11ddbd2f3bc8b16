/- What the single operations of package alu answer, in whole numbers, and what branches do. -/
import Derived.Test.YtfjdbiinkonhhaaSpec
import Derived.Test.YtfjdbiinkonhhaaPAx5
namespace Go.Proofs.Ytfjdbiinkonhhaa.PA
open Go.RowKit Go.Proofs.Ytfjdbiinkonhhaa.Plain Go.Proofs.YtfjdbiinkonhhaaW.PrintWords Go.Proofs.YtfjdbiinkonhhaaW.PrintLast Go.Proofs.YtfjdbiinkonhhaaW.PrintMore
set_option linter.all false

theorem and_N {a b : Int} : N64 (bits .and .u64 a b) := by rw [bits64]; unfold N64; have := (BitVec.ofInt 64 a &&& BitVec.ofInt 64 b).isLt; simp only []; omega
theorem or_N {a b : Int} : N64 (bits .or .u64 a b) := by rw [bits64]; unfold N64; have := (BitVec.ofInt 64 a ||| BitVec.ofInt 64 b).isLt; simp only []; omega
theorem xor_N {a b : Int} : N64 (bits .xor .u64 a b) := by rw [bits64]; unfold N64; have := (BitVec.ofInt 64 a ^^^ BitVec.ofInt 64 b).isLt; simp only []; omega
theorem shl_m {a n : Int} (h0 : 0 ≤ n) (h1 : n < 64) : shl .u64 a n = a * 2 ^ n.toNat % 18446744073709551616 := by
  unfold shl
  rw [show min n.toNat IntKind.u64.bits = n.toNat by simp [IntKind.bits]; omega, wu]
theorem shr_m {a n : Int} (h1 : n < 64) : shr .u64 a n = a / 2 ^ n.toNat := by
  unfold shr
  rw [show min n.toNat IntKind.u64.bits = n.toNat by simp [IntKind.bits]; omega]
theorem shr_i {a n : Int} (h1 : n < 64) : shr .i64 a n = a / 2 ^ n.toNat := by
  unfold shr
  rw [show min n.toNat IntKind.i64.bits = n.toNat by simp [IntKind.bits]; omega]

def bi (c : Bool) : Int := if c = true then 1 else 0
theorem bi_t : bi true = 1 := rfl
theorem bi_f : bi false = 0 := rfl
theorem do31 (a b : Int) : almonrylaw02_do.f 31 a b = some ((a + b) % 18446744073709551616) := by
  unfold almonrylaw02_do.f alu_Do.f; rw [show alu_Reg.f 31 = some (31, true) from rfl]; simp [alu_number_add.f, wu]
theorem do32 (a b : Int) : almonrylaw02_do.f 32 a b = some ((a - b) % 18446744073709551616) := by
  unfold almonrylaw02_do.f alu_Do.f; rw [show alu_Reg.f 32 = some (32, true) from rfl]; simp [alu_number_sub.f, wu]
theorem do36 (a b : Int) : almonrylaw02_do.f 36 a b = some (bits .xor .u64 a b) := by
  unfold almonrylaw02_do.f alu_Do.f; rw [show alu_Reg.f 36 = some (36, true) from rfl]; simp [alu_number_xor.f]
theorem do39 (a b : Int) : almonrylaw02_do.f 39 a b = some (bits .or .u64 a b) := by
  unfold almonrylaw02_do.f alu_Do.f; rw [show alu_Reg.f 39 = some (39, true) from rfl]; simp [alu_number_or.f]
theorem do40 (a b : Int) : almonrylaw02_do.f 40 a b = some (bits .and .u64 a b) := by
  unfold almonrylaw02_do.f alu_Do.f; rw [show alu_Reg.f 40 = some (40, true) from rfl]; simp [alu_number_and.f]
theorem do33 {a b : Int} (hb : N64 b) : almonrylaw02_do.f 33 a b = some (a * 2 ^ (b % 64).toNat % 18446744073709551616) := by
  unfold almonrylaw02_do.f alu_Do.f; rw [show alu_Reg.f 33 = some (33, true) from rfl]
  have h : 0 ≤ b % 64 := by omega
  simp [alu_number_sll.f, alu_number_six.f, and63 hb, h, shl_m h (by omega : b % 64 < 64)]
theorem do37 {a b : Int} (hb : N64 b) : almonrylaw02_do.f 37 a b = some (a / 2 ^ (b % 64).toNat) := by
  unfold almonrylaw02_do.f alu_Do.f; rw [show alu_Reg.f 37 = some (37, true) from rfl]
  have h : 0 ≤ b % 64 := by omega
  simp [alu_number_srl.f, alu_number_six.f, and63 hb, h, shr_m (by omega : b % 64 < 64)]
theorem do38 {a b : Int} (ha : N64 a) (hb : N64 b) : almonrylaw02_do.f 38 a b = some (sg a / 2 ^ (b % 64).toNat % 18446744073709551616) := by
  unfold almonrylaw02_do.f alu_Do.f; rw [show alu_Reg.f 38 = some (38, true) from rfl]
  have h : 0 ≤ b % 64 := by omega
  simp [alu_number_sra.f, alu_number_signed.f, alu_number_six.f, and63 hb, h, shr_i (by omega : b % 64 < 64), wrap64_sg ha, wu]
theorem do34 {a b : Int} (ha : N64 a) (hb : N64 b) : almonrylaw02_do.f 34 a b = some (bi (decide (sg a < sg b))) := by
  unfold almonrylaw02_do.f alu_Do.f; rw [show alu_Reg.f 34 = some (34, true) from rfl]
  by_cases h : sg a < sg b <;> simp [alu_number_slt.f, alu_number_signed.f, alu_said.f, wrap64_sg ha, wrap64_sg hb, h, bi]
theorem do35 (a b : Int) : almonrylaw02_do.f 35 a b = some (bi (decide (a < b))) := by
  unfold almonrylaw02_do.f alu_Do.f; rw [show alu_Reg.f 35 = some (35, true) from rfl]
  by_cases h : a < b <;> simp [alu_number_sltu.f, alu_said.f, h, bi]

theorem br5 (a b : Int) : alu_Branch.f 12 5 a b = some (a == b, true) := by
  simp [alu_Branch.f, alu_Branch.j0]
theorem br6 (a b : Int) : alu_Branch.f 12 6 a b = some (a != b, true) := by
  simp [alu_Branch.f, alu_Branch.j0]
  cases hh : (a == b) <;> simp [bne, hh]
theorem br7 {a b : Int} (ha : N64 a) (hb : N64 b) : alu_Branch.f 12 7 a b = some (decide (sg a < sg b), true) := by
  by_cases h : sg a < sg b <;> simp [alu_Branch.f, alu_Branch.j0, alu_Branch.j1, alu_number_slt.f, alu_number_signed.f, alu_said.f, wrap64_sg ha, wrap64_sg hb, h]
theorem br8 {a b : Int} (ha : N64 a) (hb : N64 b) : alu_Branch.f 12 8 a b = some (decide (¬ sg a < sg b), true) := by
  by_cases h : sg a < sg b <;> simp [alu_Branch.f, alu_Branch.j0, alu_Branch.j1, alu_number_slt.f, alu_number_signed.f, alu_said.f, wrap64_sg ha, wrap64_sg hb, h]
theorem br9 (a b : Int) : alu_Branch.f 12 9 a b = some (decide (a < b), true) := by
  by_cases h : a < b <;> simp [alu_Branch.f, alu_Branch.j0, alu_Branch.j1, alu_number_sltu.f, alu_said.f, h]
theorem br10 (a b : Int) : alu_Branch.f 12 10 a b = some (decide (¬ a < b), true) := by
  by_cases h : a < b <;> simp [alu_Branch.f, alu_Branch.j0, alu_Branch.j1, alu_number_sltu.f, alu_said.f, h]

/-! the laws themselves -/
theorem sub_add {a : Int} (b : Int) (ha : N64 a) : ((a + b) % 18446744073709551616 - b) % 18446744073709551616 = a := by unfold N64 at ha; omega
theorem xor_back {a : Int} (b : Int) (ha : N64 a) : bits .xor .u64 (bits .xor .u64 a b) b = a := by
  rw [bits64, bits64]
  simp only []
  have h : BitVec.ofInt 64 (((BitVec.ofInt 64 a ^^^ BitVec.ofInt 64 b).toNat : Nat) : Int) = BitVec.ofInt 64 a ^^^ BitVec.ofInt 64 b := by
    apply BitVec.eq_of_toNat_eq
    rw [BitVec.toNat_ofInt]
    have := (BitVec.ofInt 64 a ^^^ BitVec.ofInt 64 b).isLt
    omega
  rw [h, BitVec.xor_assoc, BitVec.xor_self, BitVec.xor_zero, toNat_ofInt ha]
  unfold N64 at ha; omega
theorem and_or {a b : Int} (ha : N64 a) (hb : N64 b) : (bits .and .u64 a b + bits .or .u64 a b) % 18446744073709551616 = (a + b) % 18446744073709551616 := by
  rw [bits64, bits64]
  simp only []
  have ea := toNat_ofInt ha
  have eb := toNat_ofInt hb
  unfold N64 at ha hb
  have h : (BitVec.ofInt 64 a &&& BitVec.ofInt 64 b) + (BitVec.ofInt 64 a ||| BitVec.ofInt 64 b) = BitVec.ofInt 64 a + BitVec.ofInt 64 b := by
    generalize BitVec.ofInt 64 a = x
    generalize BitVec.ofInt 64 b = y
    have h1 : (x ^^^ y) + (x &&& y) = x ||| y := by
      rw [BitVec.add_eq_or_of_and_eq_zero]
      · apply BitVec.eq_of_getLsbD_eq; intro i hi; simp only [BitVec.getLsbD_or, BitVec.getLsbD_and, BitVec.getLsbD_xor]; cases x.getLsbD i <;> cases y.getLsbD i <;> rfl
      · apply BitVec.eq_of_getLsbD_eq; intro i hi; simp only [BitVec.getLsbD_and, BitVec.getLsbD_xor, BitVec.getLsbD_zero]; cases x.getLsbD i <;> cases y.getLsbD i <;> rfl
    have h2 : (x &&& y) + (x &&& ~~~ y) = x := by
      rw [BitVec.add_eq_or_of_and_eq_zero]
      · apply BitVec.eq_of_getLsbD_eq; intro i hi; simp only [BitVec.getLsbD_or, BitVec.getLsbD_and, BitVec.getLsbD_not]; cases x.getLsbD i <;> cases y.getLsbD i <;> simp [hi]
      · apply BitVec.eq_of_getLsbD_eq; intro i hi; simp only [BitVec.getLsbD_and, BitVec.getLsbD_not, BitVec.getLsbD_zero]; cases x.getLsbD i <;> cases y.getLsbD i <;> simp [hi]
    have h3 : y + (x &&& ~~~ y) = x ||| y := by
      rw [BitVec.add_eq_or_of_and_eq_zero]
      · apply BitVec.eq_of_getLsbD_eq; intro i hi; simp only [BitVec.getLsbD_or, BitVec.getLsbD_and, BitVec.getLsbD_not]; cases x.getLsbD i <;> cases y.getLsbD i <;> simp [hi]
      · apply BitVec.eq_of_getLsbD_eq; intro i hi; simp only [BitVec.getLsbD_and, BitVec.getLsbD_not, BitVec.getLsbD_zero]; cases x.getLsbD i <;> cases y.getLsbD i <;> simp [hi]
    rw [← h3, BitVec.add_comm y, ← BitVec.add_assoc, h2]
  have h' := congrArg BitVec.toNat h
  rw [BitVec.toNat_add, BitVec.toNat_add, ea, eb] at h'
  omega
theorem add_assoc_m (a b c : Int) : (a + (b + c) % 18446744073709551616) % 18446744073709551616 = ((a + b) % 18446744073709551616 + c) % 18446744073709551616 := by omega

theorem step_n {n : Int} (h0 : 0 ≤ n) (h1 : n < 63) : ((n + 1) % 64).toNat = (n % 64).toNat + 1 := by omega
theorem sll_step {a n : Int} (h0 : 0 ≤ n) (h1 : n < 63) : a * 2 ^ (n % 64).toNat % 18446744073709551616 * 2 ^ ((1 : Int) % 64).toNat % 18446744073709551616 = a * 2 ^ ((n + 1) % 64).toNat % 18446744073709551616 := by
  rw [step_n h0 h1, Int.pow_succ]
  show _ * 2 ^ 1 % _ = _
  rw [← Int.mul_assoc]
  generalize a * 2 ^ (n % 64).toNat = x
  omega
theorem srl_step {a n : Int} (h0 : 0 ≤ n) (h1 : n < 63) : a / 2 ^ (n % 64).toNat / 2 ^ ((1 : Int) % 64).toNat = a / 2 ^ ((n + 1) % 64).toNat := by
  rw [step_n h0 h1, Int.pow_succ]
  show _ / 2 ^ 1 = _
  have hp : (0 : Int) < 2 ^ (n % 64).toNat := Int.pow_pos (by decide)
  rw [← Int.ediv_ediv_of_nonneg (Int.le_of_lt hp)]
  rfl
theorem sg_div {a n : Int} (ha : N64 a) (n : Nat) : -9223372036854775808 ≤ sg a / 2 ^ n ∧ sg a / 2 ^ n ≤ 9223372036854775807 := by
  have hp : (0 : Int) < 2 ^ n := Int.pow_pos (by decide)
  have hb := sg_bd ha
  constructor
  · rcases Int.lt_or_le (sg a) 0 with h | h
    · have := Int.le_ediv_of_mul_le hp (a := -9223372036854775808) (b := sg a) (by
        have : (1 : Int) ≤ 2 ^ n := by omega
        have := Int.mul_le_mul_of_nonneg_left this (by decide : (0 : Int) ≤ 9223372036854775808)
        omega)
      exact this
    · have := Int.ediv_nonneg h (Int.le_of_lt hp); omega
  · rcases Int.lt_or_le (sg a) 0 with h | h
    · have := Int.ediv_neg_of_neg_of_pos h hp; omega
    · have := Int.ediv_le_self (2 ^ n) h; omega
theorem sra_step {a n : Int} (ha : N64 a) (h0 : 0 ≤ n) (h1 : n < 63) : sg (sg a / 2 ^ (n % 64).toNat % 18446744073709551616) / 2 ^ ((1 : Int) % 64).toNat % 18446744073709551616 = sg a / 2 ^ ((n + 1) % 64).toNat % 18446744073709551616 := by
  have hb := sg_div (n := n) ha (n % 64).toNat
  rw [sg_mod hb.1 hb.2, step_n h0 h1, Int.pow_succ]
  show _ / 2 ^ 1 % _ = _
  have hp : (0 : Int) < 2 ^ (n % 64).toNat := Int.pow_pos (by decide)
  rw [← Int.ediv_ediv_of_nonneg (Int.le_of_lt hp)]
  rfl
theorem sra_0 {a : Int} (ha : N64 a) : sg a / 2 ^ ((0 : Int) % 64).toNat % 18446744073709551616 = a := by
  show sg a / 2 ^ 0 % _ = _
  rw [Int.pow_zero, Int.ediv_one, sg_eq ha, w_id ha]
theorem sg_inj {a b : Int} (ha : N64 a) (hb : N64 b) (h : sg a = sg b) : a = b := by
  unfold N64 at ha hb; unfold sg at h; split at h <;> split at h <;> omega
end Go.Proofs.Ytfjdbiinkonhhaa.PA
