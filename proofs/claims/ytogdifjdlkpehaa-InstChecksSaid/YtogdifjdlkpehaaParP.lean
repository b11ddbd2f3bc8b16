/- The parcel of an instruction, and what it decodes to; the reference's Check by fields. -/
import Derived.Test.YtogdifjdlkpehaaImg
import Derived.Test.YtogdifjdlkpehaaHPar
namespace Go.Proofs.Ytogdifjdlkpehaa.PA
open Go.RowKit
set_option linter.all false
theorem or_nat (x y : Int) : bits .or .u32 x y = (((x % 4294967296).toNat ||| (y % 4294967296).toNat : Nat) : Int) := by
  rw [u32_bits]
  show (((BitVec.ofInt 32 x ||| BitVec.ofInt 32 y).toNat : Nat) : Int) = _
  rw [BitVec.toNat_or, BitVec.toNat_ofInt, BitVec.toNat_ofInt]
  rfl
theorem or_P32 (x y : Int) : P32 (bits .or .u32 x y) := by
  rw [u32_bits]
  show P32 (((BitVec.ofInt 32 x ||| BitVec.ofInt 32 y).toNat : Nat) : Int)
  have := (BitVec.ofInt 32 x ||| BitVec.ofInt 32 y).isLt
  unfold P32
  omega
theorem or_f {x y : Int} (hx : P32 x) (hy : P32 y) (k n : Nat) : bits .or .u32 x y / 2 ^ k % 2 ^ n = (((x / 2 ^ k % 2 ^ n).toNat ||| (y / 2 ^ k % 2 ^ n).toNat : Nat) : Int) := by
  unfold P32 at hx hy
  obtain ⟨u, rfl⟩ : ∃ u : Nat, x = (u : Int) := ⟨x.toNat, by omega⟩
  obtain ⟨v, rfl⟩ : ∃ v : Nat, y = (v : Int) := ⟨y.toNat, by omega⟩
  rw [or_nat, show ((u : Int) % 4294967296).toNat = u by omega, show ((v : Int) % 4294967296).toNat = v by omega]
  have e : ∀ m : Nat, ((m : Int) / 2 ^ k % 2 ^ n) = ((m / 2 ^ k % 2 ^ n : Nat) : Int) := fun m => by simp
  rw [e, e, e, Int.toNat_natCast, Int.toNat_natCast, Nat.or_div_two_pow, Nat.or_mod_two_pow]
theorem or_l {x y : Int} (hx : P32 x) (hy : P32 y) (k n : Nat) {v : Int} (h : x / 2 ^ k % 2 ^ n = v) (h0 : y / 2 ^ k % 2 ^ n = 0) : bits .or .u32 x y / 2 ^ k % 2 ^ n = v := by
  rw [or_f hx hy, h0, h]
  have : 0 ≤ v := by rw [← h]; exact Int.emod_nonneg _ (Int.ne_of_gt (Int.pow_pos (by decide)))
  simp; omega
theorem or_r {x y : Int} (hx : P32 x) (hy : P32 y) (k n : Nat) {v : Int} (h0 : x / 2 ^ k % 2 ^ n = 0) (h : y / 2 ^ k % 2 ^ n = v) : bits .or .u32 x y / 2 ^ k % 2 ^ n = v := by
  rw [or_f hx hy, h0, h]
  have : 0 ≤ v := by rw [← h]; exact Int.emod_nonneg _ (Int.ne_of_gt (Int.pow_pos (by decide)))
  simp; omega
theorem p_0 (rd : Int) (b_rd : 0 ≤ rd ∧ rd < 32) : P32 (rd * 128) := by unfold P32; omega
theorem p_1 (r1 : Int) (b_r1 : 0 ≤ r1 ∧ r1 < 32) : P32 (r1 * 32768) := by unfold P32; omega
theorem p_2 (r2 : Int) (b_r2 : 0 ≤ r2 ∧ r2 < 32) : P32 (r2 * 1048576) := by unfold P32; omega
theorem g_3 (rd : Int) (b_rd : 0 ≤ rd ∧ rd < 32) : (rd * 128) / 1 % 128 = 0 := by omega
theorem g_4 (r1 : Int) (b_r1 : 0 ≤ r1 ∧ r1 < 32) : (r1 * 32768) / 1 % 128 = 0 := by omega
theorem g_5 (r2 : Int) (b_r2 : 0 ≤ r2 ∧ r2 < 32) : (r2 * 1048576) / 1 % 128 = 0 := by omega
theorem g_6 (rd : Int) (b_rd : 0 ≤ rd ∧ rd < 32) : (rd * 128) / 4096 % 8 = 0 := by omega
theorem g_7 (r1 : Int) (b_r1 : 0 ≤ r1 ∧ r1 < 32) : (r1 * 32768) / 4096 % 8 = 0 := by omega
theorem g_8 (r2 : Int) (b_r2 : 0 ≤ r2 ∧ r2 < 32) : (r2 * 1048576) / 4096 % 8 = 0 := by omega
theorem g_9 (rd : Int) (b_rd : 0 ≤ rd ∧ rd < 32) : (rd * 128) / 33554432 % 128 = 0 := by omega
theorem g_10 (r1 : Int) (b_r1 : 0 ≤ r1 ∧ r1 < 32) : (r1 * 32768) / 33554432 % 128 = 0 := by omega
theorem g_11 (r2 : Int) (b_r2 : 0 ≤ r2 ∧ r2 < 32) : (r2 * 1048576) / 33554432 % 128 = 0 := by omega
theorem g_12 (rd : Int) (b_rd : 0 ≤ rd ∧ rd < 32) : (rd * 128) / 134217728 % 32 = 0 := by omega
theorem g_13 (r1 : Int) (b_r1 : 0 ≤ r1 ∧ r1 < 32) : (r1 * 32768) / 134217728 % 32 = 0 := by omega
theorem g_14 (r2 : Int) (b_r2 : 0 ≤ r2 ∧ r2 < 32) : (r2 * 1048576) / 134217728 % 32 = 0 := by omega
theorem g_15 (rd : Int) (b_rd : 0 ≤ rd ∧ rd < 32) : (rd * 128) / 128 % 32 = rd := by omega
theorem g_16 (r1 : Int) (b_r1 : 0 ≤ r1 ∧ r1 < 32) : (r1 * 32768) / 128 % 32 = 0 := by omega
theorem g_17 (r2 : Int) (b_r2 : 0 ≤ r2 ∧ r2 < 32) : (r2 * 1048576) / 128 % 32 = 0 := by omega
theorem g_18 (rd : Int) (b_rd : 0 ≤ rd ∧ rd < 32) : (rd * 128) / 32768 % 32 = 0 := by omega
theorem g_19 (r1 : Int) (b_r1 : 0 ≤ r1 ∧ r1 < 32) : (r1 * 32768) / 32768 % 32 = r1 := by omega
theorem g_20 (r2 : Int) (b_r2 : 0 ≤ r2 ∧ r2 < 32) : (r2 * 1048576) / 32768 % 32 = 0 := by omega
theorem g_21 (rd : Int) (b_rd : 0 ≤ rd ∧ rd < 32) : (rd * 128) / 1048576 % 32 = 0 := by omega
theorem g_22 (r1 : Int) (b_r1 : 0 ≤ r1 ∧ r1 < 32) : (r1 * 32768) / 1048576 % 32 = 0 := by omega
theorem g_23 (r2 : Int) (b_r2 : 0 ≤ r2 ∧ r2 < 32) : (r2 * 1048576) / 1048576 % 32 = r2 := by omega
theorem p_24 (im : Int)  : P32 (putT im 1 4096 1048576) := by unfold P32 putT; omega
theorem g_25 (im : Int)  : (putT im 1 4096 1048576) / 1 % 128 = 0 := by unfold putT; omega
theorem g_26 (im : Int)  : (putT im 1 4096 1048576) / 4096 % 8 = 0 := by unfold putT; omega
theorem g_27 (im : Int)  : (putT im 1 4096 1048576) / 128 % 32 = 0 := by unfold putT; omega
theorem g_28 (im : Int)  : (putT im 1 4096 1048576) / 32768 % 32 = 0 := by unfold putT; omega
theorem g_29 (rd : Int) (b_rd : 0 ≤ rd ∧ rd < 32) : (rd * 128) / 1048576 % 4096 = 0 := by omega
theorem g_30 (r1 : Int) (b_r1 : 0 ≤ r1 ∧ r1 < 32) : (r1 * 32768) / 1048576 % 4096 = 0 := by omega
theorem g_31 (im : Int)  : (putT im 1 4096 1048576) / 1048576 % 4096 = im / 1 % 4096 := by unfold putT; omega
theorem p_32 (im : Int)  : P32 (putT im 1 64 1048576) := by unfold P32 putT; omega
theorem g_33 (im : Int)  : (putT im 1 64 1048576) / 1 % 128 = 0 := by unfold putT; omega
theorem g_34 (im : Int)  : (putT im 1 64 1048576) / 4096 % 8 = 0 := by unfold putT; omega
theorem g_35 (rd : Int) (b_rd : 0 ≤ rd ∧ rd < 32) : (rd * 128) / 67108864 % 64 = 0 := by omega
theorem g_36 (r1 : Int) (b_r1 : 0 ≤ r1 ∧ r1 < 32) : (r1 * 32768) / 67108864 % 64 = 0 := by omega
theorem g_37 (im : Int)  : (putT im 1 64 1048576) / 67108864 % 64 = 0 := by unfold putT; omega
theorem g_38 (im : Int)  : (putT im 1 64 1048576) / 128 % 32 = 0 := by unfold putT; omega
theorem g_39 (im : Int)  : (putT im 1 64 1048576) / 32768 % 32 = 0 := by unfold putT; omega
theorem g_40 (rd : Int) (b_rd : 0 ≤ rd ∧ rd < 32) : (rd * 128) / 1048576 % 64 = 0 := by omega
theorem g_41 (r1 : Int) (b_r1 : 0 ≤ r1 ∧ r1 < 32) : (r1 * 32768) / 1048576 % 64 = 0 := by omega
theorem g_42 (im : Int)  : (putT im 1 64 1048576) / 1048576 % 64 = im / 1 % 64 := by unfold putT; omega
theorem p_43 (im : Int)  : P32 (putT im 1 32 1048576) := by unfold P32 putT; omega
theorem g_44 (im : Int)  : (putT im 1 32 1048576) / 1 % 128 = 0 := by unfold putT; omega
theorem g_45 (im : Int)  : (putT im 1 32 1048576) / 4096 % 8 = 0 := by unfold putT; omega
theorem g_46 (im : Int)  : (putT im 1 32 1048576) / 33554432 % 128 = 0 := by unfold putT; omega
theorem g_47 (im : Int)  : (putT im 1 32 1048576) / 128 % 32 = 0 := by unfold putT; omega
theorem g_48 (im : Int)  : (putT im 1 32 1048576) / 32768 % 32 = 0 := by unfold putT; omega
theorem g_49 (im : Int)  : (putT im 1 32 1048576) / 1048576 % 32 = im / 1 % 32 := by unfold putT; omega
theorem p_50 (im : Int)  : P32 (putT im 32 128 33554432) := by unfold P32 putT; omega
theorem p_51 (im : Int)  : P32 (putT im 1 32 128) := by unfold P32 putT; omega
theorem g_52 (im : Int)  : (putT im 32 128 33554432) / 1 % 128 = 0 := by unfold putT; omega
theorem g_53 (im : Int)  : (putT im 1 32 128) / 1 % 128 = 0 := by unfold putT; omega
theorem g_54 (im : Int)  : (putT im 32 128 33554432) / 4096 % 8 = 0 := by unfold putT; omega
theorem g_55 (im : Int)  : (putT im 1 32 128) / 4096 % 8 = 0 := by unfold putT; omega
theorem g_56 (im : Int)  : (putT im 32 128 33554432) / 32768 % 32 = 0 := by unfold putT; omega
theorem g_57 (im : Int)  : (putT im 1 32 128) / 32768 % 32 = 0 := by unfold putT; omega
theorem g_58 (im : Int)  : (putT im 32 128 33554432) / 1048576 % 32 = 0 := by unfold putT; omega
theorem g_59 (im : Int)  : (putT im 1 32 128) / 1048576 % 32 = 0 := by unfold putT; omega
theorem g_60 (im : Int)  : (putT im 32 128 33554432) / 33554432 % 128 = im / 32 % 128 := by unfold putT; omega
theorem g_61 (im : Int)  : (putT im 1 32 128) / 33554432 % 128 = 0 := by unfold putT; omega
theorem g_62 (im : Int)  : (putT im 32 128 33554432) / 128 % 32 = 0 := by unfold putT; omega
theorem g_63 (im : Int)  : (putT im 1 32 128) / 128 % 32 = im / 1 % 32 := by unfold putT; omega
theorem p_64 (im : Int)  : P32 (putT im 4096 2 2147483648) := by unfold P32 putT; omega
theorem p_65 (im : Int)  : P32 (putT im 2048 2 128) := by unfold P32 putT; omega
theorem p_66 (im : Int)  : P32 (putT im 32 64 33554432) := by unfold P32 putT; omega
theorem p_67 (im : Int)  : P32 (putT im 2 16 256) := by unfold P32 putT; omega
theorem g_68 (im : Int)  : (putT im 4096 2 2147483648) / 1 % 128 = 0 := by unfold putT; omega
theorem g_69 (im : Int)  : (putT im 2048 2 128) / 1 % 128 = 0 := by unfold putT; omega
theorem g_70 (im : Int)  : (putT im 32 64 33554432) / 1 % 128 = 0 := by unfold putT; omega
theorem g_71 (im : Int)  : (putT im 2 16 256) / 1 % 128 = 0 := by unfold putT; omega
theorem g_72 (im : Int)  : (putT im 4096 2 2147483648) / 4096 % 8 = 0 := by unfold putT; omega
theorem g_73 (im : Int)  : (putT im 2048 2 128) / 4096 % 8 = 0 := by unfold putT; omega
theorem g_74 (im : Int)  : (putT im 32 64 33554432) / 4096 % 8 = 0 := by unfold putT; omega
theorem g_75 (im : Int)  : (putT im 2 16 256) / 4096 % 8 = 0 := by unfold putT; omega
theorem g_76 (im : Int)  : (putT im 4096 2 2147483648) / 32768 % 32 = 0 := by unfold putT; omega
theorem g_77 (im : Int)  : (putT im 2048 2 128) / 32768 % 32 = 0 := by unfold putT; omega
theorem g_78 (im : Int)  : (putT im 32 64 33554432) / 32768 % 32 = 0 := by unfold putT; omega
theorem g_79 (im : Int)  : (putT im 2 16 256) / 32768 % 32 = 0 := by unfold putT; omega
theorem g_80 (im : Int)  : (putT im 4096 2 2147483648) / 1048576 % 32 = 0 := by unfold putT; omega
theorem g_81 (im : Int)  : (putT im 2048 2 128) / 1048576 % 32 = 0 := by unfold putT; omega
theorem g_82 (im : Int)  : (putT im 32 64 33554432) / 1048576 % 32 = 0 := by unfold putT; omega
theorem g_83 (im : Int)  : (putT im 2 16 256) / 1048576 % 32 = 0 := by unfold putT; omega
theorem g_84 (r1 : Int) (b_r1 : 0 ≤ r1 ∧ r1 < 32) : (r1 * 32768) / 2147483648 % 2 = 0 := by omega
theorem g_85 (r2 : Int) (b_r2 : 0 ≤ r2 ∧ r2 < 32) : (r2 * 1048576) / 2147483648 % 2 = 0 := by omega
theorem g_86 (im : Int)  : (putT im 4096 2 2147483648) / 2147483648 % 2 = im / 4096 % 2 := by unfold putT; omega
theorem g_87 (im : Int)  : (putT im 2048 2 128) / 2147483648 % 2 = 0 := by unfold putT; omega
theorem g_88 (im : Int)  : (putT im 32 64 33554432) / 2147483648 % 2 = 0 := by unfold putT; omega
theorem g_89 (im : Int)  : (putT im 2 16 256) / 2147483648 % 2 = 0 := by unfold putT; omega
theorem g_90 (r1 : Int) (b_r1 : 0 ≤ r1 ∧ r1 < 32) : (r1 * 32768) / 128 % 2 = 0 := by omega
theorem g_91 (r2 : Int) (b_r2 : 0 ≤ r2 ∧ r2 < 32) : (r2 * 1048576) / 128 % 2 = 0 := by omega
theorem g_92 (im : Int)  : (putT im 4096 2 2147483648) / 128 % 2 = 0 := by unfold putT; omega
theorem g_93 (im : Int)  : (putT im 2048 2 128) / 128 % 2 = im / 2048 % 2 := by unfold putT; omega
theorem g_94 (im : Int)  : (putT im 32 64 33554432) / 128 % 2 = 0 := by unfold putT; omega
theorem g_95 (im : Int)  : (putT im 2 16 256) / 128 % 2 = 0 := by unfold putT; omega
theorem g_96 (r1 : Int) (b_r1 : 0 ≤ r1 ∧ r1 < 32) : (r1 * 32768) / 33554432 % 64 = 0 := by omega
theorem g_97 (r2 : Int) (b_r2 : 0 ≤ r2 ∧ r2 < 32) : (r2 * 1048576) / 33554432 % 64 = 0 := by omega
theorem g_98 (im : Int)  : (putT im 4096 2 2147483648) / 33554432 % 64 = 0 := by unfold putT; omega
theorem g_99 (im : Int)  : (putT im 2048 2 128) / 33554432 % 64 = 0 := by unfold putT; omega
theorem g_100 (im : Int)  : (putT im 32 64 33554432) / 33554432 % 64 = im / 32 % 64 := by unfold putT; omega
theorem g_101 (im : Int)  : (putT im 2 16 256) / 33554432 % 64 = 0 := by unfold putT; omega
theorem g_102 (r1 : Int) (b_r1 : 0 ≤ r1 ∧ r1 < 32) : (r1 * 32768) / 256 % 16 = 0 := by omega
theorem g_103 (r2 : Int) (b_r2 : 0 ≤ r2 ∧ r2 < 32) : (r2 * 1048576) / 256 % 16 = 0 := by omega
theorem g_104 (im : Int)  : (putT im 4096 2 2147483648) / 256 % 16 = 0 := by unfold putT; omega
theorem g_105 (im : Int)  : (putT im 2048 2 128) / 256 % 16 = 0 := by unfold putT; omega
theorem g_106 (im : Int)  : (putT im 32 64 33554432) / 256 % 16 = 0 := by unfold putT; omega
theorem g_107 (im : Int)  : (putT im 2 16 256) / 256 % 16 = im / 2 % 16 := by unfold putT; omega
theorem p_108 (im : Int)  : P32 (putT im 4096 1048576 4096) := by unfold P32 putT; omega
theorem g_109 (im : Int)  : (putT im 4096 1048576 4096) / 1 % 128 = 0 := by unfold putT; omega
theorem g_110 (im : Int)  : (putT im 4096 1048576 4096) / 128 % 32 = 0 := by unfold putT; omega
theorem g_111 (rd : Int) (b_rd : 0 ≤ rd ∧ rd < 32) : (rd * 128) / 4096 % 1048576 = 0 := by omega
theorem g_112 (im : Int)  : (putT im 4096 1048576 4096) / 4096 % 1048576 = im / 4096 % 1048576 := by unfold putT; omega
theorem p_113 (im : Int)  : P32 (putT im 1048576 2 2147483648) := by unfold P32 putT; omega
theorem p_114 (im : Int)  : P32 (putT im 4096 256 4096) := by unfold P32 putT; omega
theorem p_115 (im : Int)  : P32 (putT im 2048 2 1048576) := by unfold P32 putT; omega
theorem p_116 (im : Int)  : P32 (putT im 2 1024 2097152) := by unfold P32 putT; omega
theorem g_117 (im : Int)  : (putT im 1048576 2 2147483648) / 1 % 128 = 0 := by unfold putT; omega
theorem g_118 (im : Int)  : (putT im 4096 256 4096) / 1 % 128 = 0 := by unfold putT; omega
theorem g_119 (im : Int)  : (putT im 2048 2 1048576) / 1 % 128 = 0 := by unfold putT; omega
theorem g_120 (im : Int)  : (putT im 2 1024 2097152) / 1 % 128 = 0 := by unfold putT; omega
theorem g_121 (im : Int)  : (putT im 1048576 2 2147483648) / 128 % 32 = 0 := by unfold putT; omega
theorem g_122 (im : Int)  : (putT im 4096 256 4096) / 128 % 32 = 0 := by unfold putT; omega
theorem g_123 (im : Int)  : (putT im 2048 2 1048576) / 128 % 32 = 0 := by unfold putT; omega
theorem g_124 (im : Int)  : (putT im 2 1024 2097152) / 128 % 32 = 0 := by unfold putT; omega
theorem g_125 (rd : Int) (b_rd : 0 ≤ rd ∧ rd < 32) : (rd * 128) / 2147483648 % 2 = 0 := by omega
theorem g_126 (im : Int)  : (putT im 1048576 2 2147483648) / 2147483648 % 2 = im / 1048576 % 2 := by unfold putT; omega
theorem g_127 (im : Int)  : (putT im 4096 256 4096) / 2147483648 % 2 = 0 := by unfold putT; omega
theorem g_128 (im : Int)  : (putT im 2048 2 1048576) / 2147483648 % 2 = 0 := by unfold putT; omega
theorem g_129 (im : Int)  : (putT im 2 1024 2097152) / 2147483648 % 2 = 0 := by unfold putT; omega
theorem g_130 (rd : Int) (b_rd : 0 ≤ rd ∧ rd < 32) : (rd * 128) / 4096 % 256 = 0 := by omega
theorem g_131 (im : Int)  : (putT im 1048576 2 2147483648) / 4096 % 256 = 0 := by unfold putT; omega
theorem g_132 (im : Int)  : (putT im 4096 256 4096) / 4096 % 256 = im / 4096 % 256 := by unfold putT; omega
theorem g_133 (im : Int)  : (putT im 2048 2 1048576) / 4096 % 256 = 0 := by unfold putT; omega
theorem g_134 (im : Int)  : (putT im 2 1024 2097152) / 4096 % 256 = 0 := by unfold putT; omega
theorem g_135 (rd : Int) (b_rd : 0 ≤ rd ∧ rd < 32) : (rd * 128) / 1048576 % 2 = 0 := by omega
theorem g_136 (im : Int)  : (putT im 1048576 2 2147483648) / 1048576 % 2 = 0 := by unfold putT; omega
theorem g_137 (im : Int)  : (putT im 4096 256 4096) / 1048576 % 2 = 0 := by unfold putT; omega
theorem g_138 (im : Int)  : (putT im 2048 2 1048576) / 1048576 % 2 = im / 2048 % 2 := by unfold putT; omega
theorem g_139 (im : Int)  : (putT im 2 1024 2097152) / 1048576 % 2 = 0 := by unfold putT; omega
theorem g_140 (rd : Int) (b_rd : 0 ≤ rd ∧ rd < 32) : (rd * 128) / 2097152 % 1024 = 0 := by omega
theorem g_141 (im : Int)  : (putT im 1048576 2 2147483648) / 2097152 % 1024 = 0 := by unfold putT; omega
theorem g_142 (im : Int)  : (putT im 4096 256 4096) / 2097152 % 1024 = 0 := by unfold putT; omega
theorem g_143 (im : Int)  : (putT im 2048 2 1048576) / 2097152 % 1024 = 0 := by unfold putT; omega
theorem g_144 (im : Int)  : (putT im 2 1024 2097152) / 2097152 % 1024 = im / 2 % 1024 := by unfold putT; omega
theorem p_145 (cs : Int) (b_cs : 0 ≤ cs ∧ cs < 4096) : P32 (cs * 1048576 % 4294967296) := by unfold P32; omega
theorem g_146 (cs : Int) (b_cs : 0 ≤ cs ∧ cs < 4096) : (cs * 1048576 % 4294967296) / 1 % 128 = 0 := by omega
theorem g_147 (cs : Int) (b_cs : 0 ≤ cs ∧ cs < 4096) : (cs * 1048576 % 4294967296) / 4096 % 8 = 0 := by omega
theorem g_148 (cs : Int) (b_cs : 0 ≤ cs ∧ cs < 4096) : (cs * 1048576 % 4294967296) / 128 % 32 = 0 := by omega
theorem g_149 (cs : Int) (b_cs : 0 ≤ cs ∧ cs < 4096) : (cs * 1048576 % 4294967296) / 32768 % 32 = 0 := by omega
theorem g_150 (cs : Int) (b_cs : 0 ≤ cs ∧ cs < 4096) : (cs * 1048576 % 4294967296) / 1048576 % 4096 = cs := by omega
theorem p_151 (im : Int)  : P32 (putT im 1 32 32768) := by unfold P32 putT; omega
theorem g_152 (im : Int)  : (putT im 1 32 32768) / 1 % 128 = 0 := by unfold putT; omega
theorem g_153 (im : Int)  : (putT im 1 32 32768) / 4096 % 8 = 0 := by unfold putT; omega
theorem g_154 (im : Int)  : (putT im 1 32 32768) / 128 % 32 = 0 := by unfold putT; omega
theorem g_155 (im : Int)  : (putT im 1 32 32768) / 32768 % 32 = im / 1 % 32 := by unfold putT; omega
theorem g_156 (im : Int)  : (putT im 1 32 32768) / 1048576 % 4096 = 0 := by unfold putT; omega
theorem parf_0 (a r1 r2 rd : Int) (ha : P32 a) (b_r1 : 0 ≤ r1 ∧ r1 < 32) (b_r2 : 0 ≤ r2 ∧ r2 < 32) (b_rd : 0 ≤ rd ∧ rd < 32) (z1 : (a) / 128 % 32 = 0) (z2 : (a) / 32768 % 32 = 0) (z3 : (a) / 1048576 % 32 = 0) : P32 (bits .or .u32 (bits .or .u32 (bits .or .u32 (a) (rd * 128)) (r1 * 32768)) (r2 * 1048576)) ∧ (bits .or .u32 (bits .or .u32 (bits .or .u32 (a) (rd * 128)) (r1 * 32768)) (r2 * 1048576)) / 1 % 128 = (a) / 1 % 128 ∧ (bits .or .u32 (bits .or .u32 (bits .or .u32 (a) (rd * 128)) (r1 * 32768)) (r2 * 1048576)) / 4096 % 8 = (a) / 4096 % 8 ∧ (bits .or .u32 (bits .or .u32 (bits .or .u32 (a) (rd * 128)) (r1 * 32768)) (r2 * 1048576)) / 33554432 % 128 = (a) / 33554432 % 128 ∧ (bits .or .u32 (bits .or .u32 (bits .or .u32 (a) (rd * 128)) (r1 * 32768)) (r2 * 1048576)) / 134217728 % 32 = (a) / 134217728 % 32 ∧ (bits .or .u32 (bits .or .u32 (bits .or .u32 (a) (rd * 128)) (r1 * 32768)) (r2 * 1048576)) / 128 % 32 = rd ∧ (bits .or .u32 (bits .or .u32 (bits .or .u32 (a) (rd * 128)) (r1 * 32768)) (r2 * 1048576)) / 32768 % 32 = r1 ∧ (bits .or .u32 (bits .or .u32 (bits .or .u32 (a) (rd * 128)) (r1 * 32768)) (r2 * 1048576)) / 1048576 % 32 = r2 := by
  have p0 : P32 (a) := ha
  have p1 : P32 (bits .or .u32 (a) (rd * 128)) := or_P32 _ _
  have p2 : P32 (bits .or .u32 (bits .or .u32 (a) (rd * 128)) (r1 * 32768)) := or_P32 _ _
  have p3 : P32 (bits .or .u32 (bits .or .u32 (bits .or .u32 (a) (rd * 128)) (r1 * 32768)) (r2 * 1048576)) := or_P32 _ _
  have c1 : P32 (rd * 128) := p_0 rd b_rd
  have c2 : P32 (r1 * 32768) := p_1 r1 b_r1
  have c3 : P32 (r2 * 1048576) := p_2 r2 b_r2
  have f0_0 : (a) / 1 % 128 = (a) / 1 % 128 := rfl
  have f0_1 : (bits .or .u32 (a) (rd * 128)) / 1 % 128 = (a) / 1 % 128 := or_l p0 c1 0 7 f0_0 (g_3 rd b_rd)
  have f0_2 : (bits .or .u32 (bits .or .u32 (a) (rd * 128)) (r1 * 32768)) / 1 % 128 = (a) / 1 % 128 := or_l p1 c2 0 7 f0_1 (g_4 r1 b_r1)
  have f0_3 : (bits .or .u32 (bits .or .u32 (bits .or .u32 (a) (rd * 128)) (r1 * 32768)) (r2 * 1048576)) / 1 % 128 = (a) / 1 % 128 := or_l p2 c3 0 7 f0_2 (g_5 r2 b_r2)
  have f1_0 : (a) / 4096 % 8 = (a) / 4096 % 8 := rfl
  have f1_1 : (bits .or .u32 (a) (rd * 128)) / 4096 % 8 = (a) / 4096 % 8 := or_l p0 c1 12 3 f1_0 (g_6 rd b_rd)
  have f1_2 : (bits .or .u32 (bits .or .u32 (a) (rd * 128)) (r1 * 32768)) / 4096 % 8 = (a) / 4096 % 8 := or_l p1 c2 12 3 f1_1 (g_7 r1 b_r1)
  have f1_3 : (bits .or .u32 (bits .or .u32 (bits .or .u32 (a) (rd * 128)) (r1 * 32768)) (r2 * 1048576)) / 4096 % 8 = (a) / 4096 % 8 := or_l p2 c3 12 3 f1_2 (g_8 r2 b_r2)
  have f2_0 : (a) / 33554432 % 128 = (a) / 33554432 % 128 := rfl
  have f2_1 : (bits .or .u32 (a) (rd * 128)) / 33554432 % 128 = (a) / 33554432 % 128 := or_l p0 c1 25 7 f2_0 (g_9 rd b_rd)
  have f2_2 : (bits .or .u32 (bits .or .u32 (a) (rd * 128)) (r1 * 32768)) / 33554432 % 128 = (a) / 33554432 % 128 := or_l p1 c2 25 7 f2_1 (g_10 r1 b_r1)
  have f2_3 : (bits .or .u32 (bits .or .u32 (bits .or .u32 (a) (rd * 128)) (r1 * 32768)) (r2 * 1048576)) / 33554432 % 128 = (a) / 33554432 % 128 := or_l p2 c3 25 7 f2_2 (g_11 r2 b_r2)
  have f3_0 : (a) / 134217728 % 32 = (a) / 134217728 % 32 := rfl
  have f3_1 : (bits .or .u32 (a) (rd * 128)) / 134217728 % 32 = (a) / 134217728 % 32 := or_l p0 c1 27 5 f3_0 (g_12 rd b_rd)
  have f3_2 : (bits .or .u32 (bits .or .u32 (a) (rd * 128)) (r1 * 32768)) / 134217728 % 32 = (a) / 134217728 % 32 := or_l p1 c2 27 5 f3_1 (g_13 r1 b_r1)
  have f3_3 : (bits .or .u32 (bits .or .u32 (bits .or .u32 (a) (rd * 128)) (r1 * 32768)) (r2 * 1048576)) / 134217728 % 32 = (a) / 134217728 % 32 := or_l p2 c3 27 5 f3_2 (g_14 r2 b_r2)
  have f4_0 : (a) / 128 % 32 = 0 := z1
  have f4_1 : (bits .or .u32 (a) (rd * 128)) / 128 % 32 = rd := or_r p0 c1 7 5 f4_0 (g_15 rd b_rd)
  have f4_2 : (bits .or .u32 (bits .or .u32 (a) (rd * 128)) (r1 * 32768)) / 128 % 32 = rd := or_l p1 c2 7 5 f4_1 (g_16 r1 b_r1)
  have f4_3 : (bits .or .u32 (bits .or .u32 (bits .or .u32 (a) (rd * 128)) (r1 * 32768)) (r2 * 1048576)) / 128 % 32 = rd := or_l p2 c3 7 5 f4_2 (g_17 r2 b_r2)
  have f5_0 : (a) / 32768 % 32 = 0 := z2
  have f5_1 : (bits .or .u32 (a) (rd * 128)) / 32768 % 32 = 0 := or_l p0 c1 15 5 f5_0 (g_18 rd b_rd)
  have f5_2 : (bits .or .u32 (bits .or .u32 (a) (rd * 128)) (r1 * 32768)) / 32768 % 32 = r1 := or_r p1 c2 15 5 f5_1 (g_19 r1 b_r1)
  have f5_3 : (bits .or .u32 (bits .or .u32 (bits .or .u32 (a) (rd * 128)) (r1 * 32768)) (r2 * 1048576)) / 32768 % 32 = r1 := or_l p2 c3 15 5 f5_2 (g_20 r2 b_r2)
  have f6_0 : (a) / 1048576 % 32 = 0 := z3
  have f6_1 : (bits .or .u32 (a) (rd * 128)) / 1048576 % 32 = 0 := or_l p0 c1 20 5 f6_0 (g_21 rd b_rd)
  have f6_2 : (bits .or .u32 (bits .or .u32 (a) (rd * 128)) (r1 * 32768)) / 1048576 % 32 = 0 := or_l p1 c2 20 5 f6_1 (g_22 r1 b_r1)
  have f6_3 : (bits .or .u32 (bits .or .u32 (bits .or .u32 (a) (rd * 128)) (r1 * 32768)) (r2 * 1048576)) / 1048576 % 32 = r2 := or_r p2 c3 20 5 f6_2 (g_23 r2 b_r2)
  exact ⟨p3, f0_3, f1_3, f2_3, f3_3, f4_3, f5_3, f6_3⟩
theorem parf_1 (a im r1 rd : Int) (ha : P32 a) (b_r1 : 0 ≤ r1 ∧ r1 < 32) (b_rd : 0 ≤ rd ∧ rd < 32) (z1 : (a) / 128 % 32 = 0) (z2 : (a) / 32768 % 32 = 0) (z3 : (a) / 1048576 % 4096 = 0) : P32 (bits .or .u32 (bits .or .u32 (bits .or .u32 (a) (rd * 128)) (r1 * 32768)) (putT im 1 4096 1048576)) ∧ (bits .or .u32 (bits .or .u32 (bits .or .u32 (a) (rd * 128)) (r1 * 32768)) (putT im 1 4096 1048576)) / 1 % 128 = (a) / 1 % 128 ∧ (bits .or .u32 (bits .or .u32 (bits .or .u32 (a) (rd * 128)) (r1 * 32768)) (putT im 1 4096 1048576)) / 4096 % 8 = (a) / 4096 % 8 ∧ (bits .or .u32 (bits .or .u32 (bits .or .u32 (a) (rd * 128)) (r1 * 32768)) (putT im 1 4096 1048576)) / 128 % 32 = rd ∧ (bits .or .u32 (bits .or .u32 (bits .or .u32 (a) (rd * 128)) (r1 * 32768)) (putT im 1 4096 1048576)) / 32768 % 32 = r1 ∧ (bits .or .u32 (bits .or .u32 (bits .or .u32 (a) (rd * 128)) (r1 * 32768)) (putT im 1 4096 1048576)) / 1048576 % 4096 = im / 1 % 4096 := by
  have p0 : P32 (a) := ha
  have p1 : P32 (bits .or .u32 (a) (rd * 128)) := or_P32 _ _
  have p2 : P32 (bits .or .u32 (bits .or .u32 (a) (rd * 128)) (r1 * 32768)) := or_P32 _ _
  have p3 : P32 (bits .or .u32 (bits .or .u32 (bits .or .u32 (a) (rd * 128)) (r1 * 32768)) (putT im 1 4096 1048576)) := or_P32 _ _
  have c1 : P32 (rd * 128) := p_0 rd b_rd
  have c2 : P32 (r1 * 32768) := p_1 r1 b_r1
  have c3 : P32 (putT im 1 4096 1048576) := p_24 im 
  have f0_0 : (a) / 1 % 128 = (a) / 1 % 128 := rfl
  have f0_1 : (bits .or .u32 (a) (rd * 128)) / 1 % 128 = (a) / 1 % 128 := or_l p0 c1 0 7 f0_0 (g_3 rd b_rd)
  have f0_2 : (bits .or .u32 (bits .or .u32 (a) (rd * 128)) (r1 * 32768)) / 1 % 128 = (a) / 1 % 128 := or_l p1 c2 0 7 f0_1 (g_4 r1 b_r1)
  have f0_3 : (bits .or .u32 (bits .or .u32 (bits .or .u32 (a) (rd * 128)) (r1 * 32768)) (putT im 1 4096 1048576)) / 1 % 128 = (a) / 1 % 128 := or_l p2 c3 0 7 f0_2 (g_25 im )
  have f1_0 : (a) / 4096 % 8 = (a) / 4096 % 8 := rfl
  have f1_1 : (bits .or .u32 (a) (rd * 128)) / 4096 % 8 = (a) / 4096 % 8 := or_l p0 c1 12 3 f1_0 (g_6 rd b_rd)
  have f1_2 : (bits .or .u32 (bits .or .u32 (a) (rd * 128)) (r1 * 32768)) / 4096 % 8 = (a) / 4096 % 8 := or_l p1 c2 12 3 f1_1 (g_7 r1 b_r1)
  have f1_3 : (bits .or .u32 (bits .or .u32 (bits .or .u32 (a) (rd * 128)) (r1 * 32768)) (putT im 1 4096 1048576)) / 4096 % 8 = (a) / 4096 % 8 := or_l p2 c3 12 3 f1_2 (g_26 im )
  have f2_0 : (a) / 128 % 32 = 0 := z1
  have f2_1 : (bits .or .u32 (a) (rd * 128)) / 128 % 32 = rd := or_r p0 c1 7 5 f2_0 (g_15 rd b_rd)
  have f2_2 : (bits .or .u32 (bits .or .u32 (a) (rd * 128)) (r1 * 32768)) / 128 % 32 = rd := or_l p1 c2 7 5 f2_1 (g_16 r1 b_r1)
  have f2_3 : (bits .or .u32 (bits .or .u32 (bits .or .u32 (a) (rd * 128)) (r1 * 32768)) (putT im 1 4096 1048576)) / 128 % 32 = rd := or_l p2 c3 7 5 f2_2 (g_27 im )
  have f3_0 : (a) / 32768 % 32 = 0 := z2
  have f3_1 : (bits .or .u32 (a) (rd * 128)) / 32768 % 32 = 0 := or_l p0 c1 15 5 f3_0 (g_18 rd b_rd)
  have f3_2 : (bits .or .u32 (bits .or .u32 (a) (rd * 128)) (r1 * 32768)) / 32768 % 32 = r1 := or_r p1 c2 15 5 f3_1 (g_19 r1 b_r1)
  have f3_3 : (bits .or .u32 (bits .or .u32 (bits .or .u32 (a) (rd * 128)) (r1 * 32768)) (putT im 1 4096 1048576)) / 32768 % 32 = r1 := or_l p2 c3 15 5 f3_2 (g_28 im )
  have f4_0 : (a) / 1048576 % 4096 = 0 := z3
  have f4_1 : (bits .or .u32 (a) (rd * 128)) / 1048576 % 4096 = 0 := or_l p0 c1 20 12 f4_0 (g_29 rd b_rd)
  have f4_2 : (bits .or .u32 (bits .or .u32 (a) (rd * 128)) (r1 * 32768)) / 1048576 % 4096 = 0 := or_l p1 c2 20 12 f4_1 (g_30 r1 b_r1)
  have f4_3 : (bits .or .u32 (bits .or .u32 (bits .or .u32 (a) (rd * 128)) (r1 * 32768)) (putT im 1 4096 1048576)) / 1048576 % 4096 = im / 1 % 4096 := or_r p2 c3 20 12 f4_2 (g_31 im )
  exact ⟨p3, f0_3, f1_3, f2_3, f3_3, f4_3⟩
theorem parf_2 (a im r1 rd : Int) (ha : P32 a) (b_r1 : 0 ≤ r1 ∧ r1 < 32) (b_rd : 0 ≤ rd ∧ rd < 32) (z1 : (a) / 128 % 32 = 0) (z2 : (a) / 32768 % 32 = 0) (z3 : (a) / 1048576 % 64 = 0) : P32 (bits .or .u32 (bits .or .u32 (bits .or .u32 (a) (rd * 128)) (r1 * 32768)) (putT im 1 64 1048576)) ∧ (bits .or .u32 (bits .or .u32 (bits .or .u32 (a) (rd * 128)) (r1 * 32768)) (putT im 1 64 1048576)) / 1 % 128 = (a) / 1 % 128 ∧ (bits .or .u32 (bits .or .u32 (bits .or .u32 (a) (rd * 128)) (r1 * 32768)) (putT im 1 64 1048576)) / 4096 % 8 = (a) / 4096 % 8 ∧ (bits .or .u32 (bits .or .u32 (bits .or .u32 (a) (rd * 128)) (r1 * 32768)) (putT im 1 64 1048576)) / 67108864 % 64 = (a) / 67108864 % 64 ∧ (bits .or .u32 (bits .or .u32 (bits .or .u32 (a) (rd * 128)) (r1 * 32768)) (putT im 1 64 1048576)) / 128 % 32 = rd ∧ (bits .or .u32 (bits .or .u32 (bits .or .u32 (a) (rd * 128)) (r1 * 32768)) (putT im 1 64 1048576)) / 32768 % 32 = r1 ∧ (bits .or .u32 (bits .or .u32 (bits .or .u32 (a) (rd * 128)) (r1 * 32768)) (putT im 1 64 1048576)) / 1048576 % 64 = im / 1 % 64 := by
  have p0 : P32 (a) := ha
  have p1 : P32 (bits .or .u32 (a) (rd * 128)) := or_P32 _ _
  have p2 : P32 (bits .or .u32 (bits .or .u32 (a) (rd * 128)) (r1 * 32768)) := or_P32 _ _
  have p3 : P32 (bits .or .u32 (bits .or .u32 (bits .or .u32 (a) (rd * 128)) (r1 * 32768)) (putT im 1 64 1048576)) := or_P32 _ _
  have c1 : P32 (rd * 128) := p_0 rd b_rd
  have c2 : P32 (r1 * 32768) := p_1 r1 b_r1
  have c3 : P32 (putT im 1 64 1048576) := p_32 im 
  have f0_0 : (a) / 1 % 128 = (a) / 1 % 128 := rfl
  have f0_1 : (bits .or .u32 (a) (rd * 128)) / 1 % 128 = (a) / 1 % 128 := or_l p0 c1 0 7 f0_0 (g_3 rd b_rd)
  have f0_2 : (bits .or .u32 (bits .or .u32 (a) (rd * 128)) (r1 * 32768)) / 1 % 128 = (a) / 1 % 128 := or_l p1 c2 0 7 f0_1 (g_4 r1 b_r1)
  have f0_3 : (bits .or .u32 (bits .or .u32 (bits .or .u32 (a) (rd * 128)) (r1 * 32768)) (putT im 1 64 1048576)) / 1 % 128 = (a) / 1 % 128 := or_l p2 c3 0 7 f0_2 (g_33 im )
  have f1_0 : (a) / 4096 % 8 = (a) / 4096 % 8 := rfl
  have f1_1 : (bits .or .u32 (a) (rd * 128)) / 4096 % 8 = (a) / 4096 % 8 := or_l p0 c1 12 3 f1_0 (g_6 rd b_rd)
  have f1_2 : (bits .or .u32 (bits .or .u32 (a) (rd * 128)) (r1 * 32768)) / 4096 % 8 = (a) / 4096 % 8 := or_l p1 c2 12 3 f1_1 (g_7 r1 b_r1)
  have f1_3 : (bits .or .u32 (bits .or .u32 (bits .or .u32 (a) (rd * 128)) (r1 * 32768)) (putT im 1 64 1048576)) / 4096 % 8 = (a) / 4096 % 8 := or_l p2 c3 12 3 f1_2 (g_34 im )
  have f2_0 : (a) / 67108864 % 64 = (a) / 67108864 % 64 := rfl
  have f2_1 : (bits .or .u32 (a) (rd * 128)) / 67108864 % 64 = (a) / 67108864 % 64 := or_l p0 c1 26 6 f2_0 (g_35 rd b_rd)
  have f2_2 : (bits .or .u32 (bits .or .u32 (a) (rd * 128)) (r1 * 32768)) / 67108864 % 64 = (a) / 67108864 % 64 := or_l p1 c2 26 6 f2_1 (g_36 r1 b_r1)
  have f2_3 : (bits .or .u32 (bits .or .u32 (bits .or .u32 (a) (rd * 128)) (r1 * 32768)) (putT im 1 64 1048576)) / 67108864 % 64 = (a) / 67108864 % 64 := or_l p2 c3 26 6 f2_2 (g_37 im )
  have f3_0 : (a) / 128 % 32 = 0 := z1
  have f3_1 : (bits .or .u32 (a) (rd * 128)) / 128 % 32 = rd := or_r p0 c1 7 5 f3_0 (g_15 rd b_rd)
  have f3_2 : (bits .or .u32 (bits .or .u32 (a) (rd * 128)) (r1 * 32768)) / 128 % 32 = rd := or_l p1 c2 7 5 f3_1 (g_16 r1 b_r1)
  have f3_3 : (bits .or .u32 (bits .or .u32 (bits .or .u32 (a) (rd * 128)) (r1 * 32768)) (putT im 1 64 1048576)) / 128 % 32 = rd := or_l p2 c3 7 5 f3_2 (g_38 im )
  have f4_0 : (a) / 32768 % 32 = 0 := z2
  have f4_1 : (bits .or .u32 (a) (rd * 128)) / 32768 % 32 = 0 := or_l p0 c1 15 5 f4_0 (g_18 rd b_rd)
  have f4_2 : (bits .or .u32 (bits .or .u32 (a) (rd * 128)) (r1 * 32768)) / 32768 % 32 = r1 := or_r p1 c2 15 5 f4_1 (g_19 r1 b_r1)
  have f4_3 : (bits .or .u32 (bits .or .u32 (bits .or .u32 (a) (rd * 128)) (r1 * 32768)) (putT im 1 64 1048576)) / 32768 % 32 = r1 := or_l p2 c3 15 5 f4_2 (g_39 im )
  have f5_0 : (a) / 1048576 % 64 = 0 := z3
  have f5_1 : (bits .or .u32 (a) (rd * 128)) / 1048576 % 64 = 0 := or_l p0 c1 20 6 f5_0 (g_40 rd b_rd)
  have f5_2 : (bits .or .u32 (bits .or .u32 (a) (rd * 128)) (r1 * 32768)) / 1048576 % 64 = 0 := or_l p1 c2 20 6 f5_1 (g_41 r1 b_r1)
  have f5_3 : (bits .or .u32 (bits .or .u32 (bits .or .u32 (a) (rd * 128)) (r1 * 32768)) (putT im 1 64 1048576)) / 1048576 % 64 = im / 1 % 64 := or_r p2 c3 20 6 f5_2 (g_42 im )
  exact ⟨p3, f0_3, f1_3, f2_3, f3_3, f4_3, f5_3⟩
theorem parf_3 (a im r1 rd : Int) (ha : P32 a) (b_r1 : 0 ≤ r1 ∧ r1 < 32) (b_rd : 0 ≤ rd ∧ rd < 32) (z1 : (a) / 128 % 32 = 0) (z2 : (a) / 32768 % 32 = 0) (z3 : (a) / 1048576 % 32 = 0) : P32 (bits .or .u32 (bits .or .u32 (bits .or .u32 (a) (rd * 128)) (r1 * 32768)) (putT im 1 32 1048576)) ∧ (bits .or .u32 (bits .or .u32 (bits .or .u32 (a) (rd * 128)) (r1 * 32768)) (putT im 1 32 1048576)) / 1 % 128 = (a) / 1 % 128 ∧ (bits .or .u32 (bits .or .u32 (bits .or .u32 (a) (rd * 128)) (r1 * 32768)) (putT im 1 32 1048576)) / 4096 % 8 = (a) / 4096 % 8 ∧ (bits .or .u32 (bits .or .u32 (bits .or .u32 (a) (rd * 128)) (r1 * 32768)) (putT im 1 32 1048576)) / 33554432 % 128 = (a) / 33554432 % 128 ∧ (bits .or .u32 (bits .or .u32 (bits .or .u32 (a) (rd * 128)) (r1 * 32768)) (putT im 1 32 1048576)) / 128 % 32 = rd ∧ (bits .or .u32 (bits .or .u32 (bits .or .u32 (a) (rd * 128)) (r1 * 32768)) (putT im 1 32 1048576)) / 32768 % 32 = r1 ∧ (bits .or .u32 (bits .or .u32 (bits .or .u32 (a) (rd * 128)) (r1 * 32768)) (putT im 1 32 1048576)) / 1048576 % 32 = im / 1 % 32 := by
  have p0 : P32 (a) := ha
  have p1 : P32 (bits .or .u32 (a) (rd * 128)) := or_P32 _ _
  have p2 : P32 (bits .or .u32 (bits .or .u32 (a) (rd * 128)) (r1 * 32768)) := or_P32 _ _
  have p3 : P32 (bits .or .u32 (bits .or .u32 (bits .or .u32 (a) (rd * 128)) (r1 * 32768)) (putT im 1 32 1048576)) := or_P32 _ _
  have c1 : P32 (rd * 128) := p_0 rd b_rd
  have c2 : P32 (r1 * 32768) := p_1 r1 b_r1
  have c3 : P32 (putT im 1 32 1048576) := p_43 im 
  have f0_0 : (a) / 1 % 128 = (a) / 1 % 128 := rfl
  have f0_1 : (bits .or .u32 (a) (rd * 128)) / 1 % 128 = (a) / 1 % 128 := or_l p0 c1 0 7 f0_0 (g_3 rd b_rd)
  have f0_2 : (bits .or .u32 (bits .or .u32 (a) (rd * 128)) (r1 * 32768)) / 1 % 128 = (a) / 1 % 128 := or_l p1 c2 0 7 f0_1 (g_4 r1 b_r1)
  have f0_3 : (bits .or .u32 (bits .or .u32 (bits .or .u32 (a) (rd * 128)) (r1 * 32768)) (putT im 1 32 1048576)) / 1 % 128 = (a) / 1 % 128 := or_l p2 c3 0 7 f0_2 (g_44 im )
  have f1_0 : (a) / 4096 % 8 = (a) / 4096 % 8 := rfl
  have f1_1 : (bits .or .u32 (a) (rd * 128)) / 4096 % 8 = (a) / 4096 % 8 := or_l p0 c1 12 3 f1_0 (g_6 rd b_rd)
  have f1_2 : (bits .or .u32 (bits .or .u32 (a) (rd * 128)) (r1 * 32768)) / 4096 % 8 = (a) / 4096 % 8 := or_l p1 c2 12 3 f1_1 (g_7 r1 b_r1)
  have f1_3 : (bits .or .u32 (bits .or .u32 (bits .or .u32 (a) (rd * 128)) (r1 * 32768)) (putT im 1 32 1048576)) / 4096 % 8 = (a) / 4096 % 8 := or_l p2 c3 12 3 f1_2 (g_45 im )
  have f2_0 : (a) / 33554432 % 128 = (a) / 33554432 % 128 := rfl
  have f2_1 : (bits .or .u32 (a) (rd * 128)) / 33554432 % 128 = (a) / 33554432 % 128 := or_l p0 c1 25 7 f2_0 (g_9 rd b_rd)
  have f2_2 : (bits .or .u32 (bits .or .u32 (a) (rd * 128)) (r1 * 32768)) / 33554432 % 128 = (a) / 33554432 % 128 := or_l p1 c2 25 7 f2_1 (g_10 r1 b_r1)
  have f2_3 : (bits .or .u32 (bits .or .u32 (bits .or .u32 (a) (rd * 128)) (r1 * 32768)) (putT im 1 32 1048576)) / 33554432 % 128 = (a) / 33554432 % 128 := or_l p2 c3 25 7 f2_2 (g_46 im )
  have f3_0 : (a) / 128 % 32 = 0 := z1
  have f3_1 : (bits .or .u32 (a) (rd * 128)) / 128 % 32 = rd := or_r p0 c1 7 5 f3_0 (g_15 rd b_rd)
  have f3_2 : (bits .or .u32 (bits .or .u32 (a) (rd * 128)) (r1 * 32768)) / 128 % 32 = rd := or_l p1 c2 7 5 f3_1 (g_16 r1 b_r1)
  have f3_3 : (bits .or .u32 (bits .or .u32 (bits .or .u32 (a) (rd * 128)) (r1 * 32768)) (putT im 1 32 1048576)) / 128 % 32 = rd := or_l p2 c3 7 5 f3_2 (g_47 im )
  have f4_0 : (a) / 32768 % 32 = 0 := z2
  have f4_1 : (bits .or .u32 (a) (rd * 128)) / 32768 % 32 = 0 := or_l p0 c1 15 5 f4_0 (g_18 rd b_rd)
  have f4_2 : (bits .or .u32 (bits .or .u32 (a) (rd * 128)) (r1 * 32768)) / 32768 % 32 = r1 := or_r p1 c2 15 5 f4_1 (g_19 r1 b_r1)
  have f4_3 : (bits .or .u32 (bits .or .u32 (bits .or .u32 (a) (rd * 128)) (r1 * 32768)) (putT im 1 32 1048576)) / 32768 % 32 = r1 := or_l p2 c3 15 5 f4_2 (g_48 im )
  have f5_0 : (a) / 1048576 % 32 = 0 := z3
  have f5_1 : (bits .or .u32 (a) (rd * 128)) / 1048576 % 32 = 0 := or_l p0 c1 20 5 f5_0 (g_21 rd b_rd)
  have f5_2 : (bits .or .u32 (bits .or .u32 (a) (rd * 128)) (r1 * 32768)) / 1048576 % 32 = 0 := or_l p1 c2 20 5 f5_1 (g_22 r1 b_r1)
  have f5_3 : (bits .or .u32 (bits .or .u32 (bits .or .u32 (a) (rd * 128)) (r1 * 32768)) (putT im 1 32 1048576)) / 1048576 % 32 = im / 1 % 32 := or_r p2 c3 20 5 f5_2 (g_49 im )
  exact ⟨p3, f0_3, f1_3, f2_3, f3_3, f4_3, f5_3⟩
theorem parf_4 (a im r1 r2 : Int) (ha : P32 a) (b_r1 : 0 ≤ r1 ∧ r1 < 32) (b_r2 : 0 ≤ r2 ∧ r2 < 32) (z1 : (a) / 32768 % 32 = 0) (z2 : (a) / 1048576 % 32 = 0) (z3 : (a) / 33554432 % 128 = 0) (z4 : (a) / 128 % 32 = 0) : P32 (bits .or .u32 (bits .or .u32 (bits .or .u32 (bits .or .u32 (a) (r1 * 32768)) (r2 * 1048576)) (putT im 32 128 33554432)) (putT im 1 32 128)) ∧ (bits .or .u32 (bits .or .u32 (bits .or .u32 (bits .or .u32 (a) (r1 * 32768)) (r2 * 1048576)) (putT im 32 128 33554432)) (putT im 1 32 128)) / 1 % 128 = (a) / 1 % 128 ∧ (bits .or .u32 (bits .or .u32 (bits .or .u32 (bits .or .u32 (a) (r1 * 32768)) (r2 * 1048576)) (putT im 32 128 33554432)) (putT im 1 32 128)) / 4096 % 8 = (a) / 4096 % 8 ∧ (bits .or .u32 (bits .or .u32 (bits .or .u32 (bits .or .u32 (a) (r1 * 32768)) (r2 * 1048576)) (putT im 32 128 33554432)) (putT im 1 32 128)) / 32768 % 32 = r1 ∧ (bits .or .u32 (bits .or .u32 (bits .or .u32 (bits .or .u32 (a) (r1 * 32768)) (r2 * 1048576)) (putT im 32 128 33554432)) (putT im 1 32 128)) / 1048576 % 32 = r2 ∧ (bits .or .u32 (bits .or .u32 (bits .or .u32 (bits .or .u32 (a) (r1 * 32768)) (r2 * 1048576)) (putT im 32 128 33554432)) (putT im 1 32 128)) / 33554432 % 128 = im / 32 % 128 ∧ (bits .or .u32 (bits .or .u32 (bits .or .u32 (bits .or .u32 (a) (r1 * 32768)) (r2 * 1048576)) (putT im 32 128 33554432)) (putT im 1 32 128)) / 128 % 32 = im / 1 % 32 := by
  have p0 : P32 (a) := ha
  have p1 : P32 (bits .or .u32 (a) (r1 * 32768)) := or_P32 _ _
  have p2 : P32 (bits .or .u32 (bits .or .u32 (a) (r1 * 32768)) (r2 * 1048576)) := or_P32 _ _
  have p3 : P32 (bits .or .u32 (bits .or .u32 (bits .or .u32 (a) (r1 * 32768)) (r2 * 1048576)) (putT im 32 128 33554432)) := or_P32 _ _
  have p4 : P32 (bits .or .u32 (bits .or .u32 (bits .or .u32 (bits .or .u32 (a) (r1 * 32768)) (r2 * 1048576)) (putT im 32 128 33554432)) (putT im 1 32 128)) := or_P32 _ _
  have c1 : P32 (r1 * 32768) := p_1 r1 b_r1
  have c2 : P32 (r2 * 1048576) := p_2 r2 b_r2
  have c3 : P32 (putT im 32 128 33554432) := p_50 im 
  have c4 : P32 (putT im 1 32 128) := p_51 im 
  have f0_0 : (a) / 1 % 128 = (a) / 1 % 128 := rfl
  have f0_1 : (bits .or .u32 (a) (r1 * 32768)) / 1 % 128 = (a) / 1 % 128 := or_l p0 c1 0 7 f0_0 (g_4 r1 b_r1)
  have f0_2 : (bits .or .u32 (bits .or .u32 (a) (r1 * 32768)) (r2 * 1048576)) / 1 % 128 = (a) / 1 % 128 := or_l p1 c2 0 7 f0_1 (g_5 r2 b_r2)
  have f0_3 : (bits .or .u32 (bits .or .u32 (bits .or .u32 (a) (r1 * 32768)) (r2 * 1048576)) (putT im 32 128 33554432)) / 1 % 128 = (a) / 1 % 128 := or_l p2 c3 0 7 f0_2 (g_52 im )
  have f0_4 : (bits .or .u32 (bits .or .u32 (bits .or .u32 (bits .or .u32 (a) (r1 * 32768)) (r2 * 1048576)) (putT im 32 128 33554432)) (putT im 1 32 128)) / 1 % 128 = (a) / 1 % 128 := or_l p3 c4 0 7 f0_3 (g_53 im )
  have f1_0 : (a) / 4096 % 8 = (a) / 4096 % 8 := rfl
  have f1_1 : (bits .or .u32 (a) (r1 * 32768)) / 4096 % 8 = (a) / 4096 % 8 := or_l p0 c1 12 3 f1_0 (g_7 r1 b_r1)
  have f1_2 : (bits .or .u32 (bits .or .u32 (a) (r1 * 32768)) (r2 * 1048576)) / 4096 % 8 = (a) / 4096 % 8 := or_l p1 c2 12 3 f1_1 (g_8 r2 b_r2)
  have f1_3 : (bits .or .u32 (bits .or .u32 (bits .or .u32 (a) (r1 * 32768)) (r2 * 1048576)) (putT im 32 128 33554432)) / 4096 % 8 = (a) / 4096 % 8 := or_l p2 c3 12 3 f1_2 (g_54 im )
  have f1_4 : (bits .or .u32 (bits .or .u32 (bits .or .u32 (bits .or .u32 (a) (r1 * 32768)) (r2 * 1048576)) (putT im 32 128 33554432)) (putT im 1 32 128)) / 4096 % 8 = (a) / 4096 % 8 := or_l p3 c4 12 3 f1_3 (g_55 im )
  have f2_0 : (a) / 32768 % 32 = 0 := z1
  have f2_1 : (bits .or .u32 (a) (r1 * 32768)) / 32768 % 32 = r1 := or_r p0 c1 15 5 f2_0 (g_19 r1 b_r1)
  have f2_2 : (bits .or .u32 (bits .or .u32 (a) (r1 * 32768)) (r2 * 1048576)) / 32768 % 32 = r1 := or_l p1 c2 15 5 f2_1 (g_20 r2 b_r2)
  have f2_3 : (bits .or .u32 (bits .or .u32 (bits .or .u32 (a) (r1 * 32768)) (r2 * 1048576)) (putT im 32 128 33554432)) / 32768 % 32 = r1 := or_l p2 c3 15 5 f2_2 (g_56 im )
  have f2_4 : (bits .or .u32 (bits .or .u32 (bits .or .u32 (bits .or .u32 (a) (r1 * 32768)) (r2 * 1048576)) (putT im 32 128 33554432)) (putT im 1 32 128)) / 32768 % 32 = r1 := or_l p3 c4 15 5 f2_3 (g_57 im )
  have f3_0 : (a) / 1048576 % 32 = 0 := z2
  have f3_1 : (bits .or .u32 (a) (r1 * 32768)) / 1048576 % 32 = 0 := or_l p0 c1 20 5 f3_0 (g_22 r1 b_r1)
  have f3_2 : (bits .or .u32 (bits .or .u32 (a) (r1 * 32768)) (r2 * 1048576)) / 1048576 % 32 = r2 := or_r p1 c2 20 5 f3_1 (g_23 r2 b_r2)
  have f3_3 : (bits .or .u32 (bits .or .u32 (bits .or .u32 (a) (r1 * 32768)) (r2 * 1048576)) (putT im 32 128 33554432)) / 1048576 % 32 = r2 := or_l p2 c3 20 5 f3_2 (g_58 im )
  have f3_4 : (bits .or .u32 (bits .or .u32 (bits .or .u32 (bits .or .u32 (a) (r1 * 32768)) (r2 * 1048576)) (putT im 32 128 33554432)) (putT im 1 32 128)) / 1048576 % 32 = r2 := or_l p3 c4 20 5 f3_3 (g_59 im )
  have f4_0 : (a) / 33554432 % 128 = 0 := z3
  have f4_1 : (bits .or .u32 (a) (r1 * 32768)) / 33554432 % 128 = 0 := or_l p0 c1 25 7 f4_0 (g_10 r1 b_r1)
  have f4_2 : (bits .or .u32 (bits .or .u32 (a) (r1 * 32768)) (r2 * 1048576)) / 33554432 % 128 = 0 := or_l p1 c2 25 7 f4_1 (g_11 r2 b_r2)
  have f4_3 : (bits .or .u32 (bits .or .u32 (bits .or .u32 (a) (r1 * 32768)) (r2 * 1048576)) (putT im 32 128 33554432)) / 33554432 % 128 = im / 32 % 128 := or_r p2 c3 25 7 f4_2 (g_60 im )
  have f4_4 : (bits .or .u32 (bits .or .u32 (bits .or .u32 (bits .or .u32 (a) (r1 * 32768)) (r2 * 1048576)) (putT im 32 128 33554432)) (putT im 1 32 128)) / 33554432 % 128 = im / 32 % 128 := or_l p3 c4 25 7 f4_3 (g_61 im )
  have f5_0 : (a) / 128 % 32 = 0 := z4
  have f5_1 : (bits .or .u32 (a) (r1 * 32768)) / 128 % 32 = 0 := or_l p0 c1 7 5 f5_0 (g_16 r1 b_r1)
  have f5_2 : (bits .or .u32 (bits .or .u32 (a) (r1 * 32768)) (r2 * 1048576)) / 128 % 32 = 0 := or_l p1 c2 7 5 f5_1 (g_17 r2 b_r2)
  have f5_3 : (bits .or .u32 (bits .or .u32 (bits .or .u32 (a) (r1 * 32768)) (r2 * 1048576)) (putT im 32 128 33554432)) / 128 % 32 = 0 := or_l p2 c3 7 5 f5_2 (g_62 im )
  have f5_4 : (bits .or .u32 (bits .or .u32 (bits .or .u32 (bits .or .u32 (a) (r1 * 32768)) (r2 * 1048576)) (putT im 32 128 33554432)) (putT im 1 32 128)) / 128 % 32 = im / 1 % 32 := or_r p3 c4 7 5 f5_3 (g_63 im )
  exact ⟨p4, f0_4, f1_4, f2_4, f3_4, f4_4, f5_4⟩
theorem parf_5 (a im r1 r2 : Int) (ha : P32 a) (b_r1 : 0 ≤ r1 ∧ r1 < 32) (b_r2 : 0 ≤ r2 ∧ r2 < 32) (z1 : (a) / 32768 % 32 = 0) (z2 : (a) / 1048576 % 32 = 0) (z3 : (a) / 2147483648 % 2 = 0) (z4 : (a) / 128 % 2 = 0) (z5 : (a) / 33554432 % 64 = 0) (z6 : (a) / 256 % 16 = 0) : P32 (bits .or .u32 (bits .or .u32 (bits .or .u32 (bits .or .u32 (bits .or .u32 (bits .or .u32 (a) (r1 * 32768)) (r2 * 1048576)) (putT im 4096 2 2147483648)) (putT im 2048 2 128)) (putT im 32 64 33554432)) (putT im 2 16 256)) ∧ (bits .or .u32 (bits .or .u32 (bits .or .u32 (bits .or .u32 (bits .or .u32 (bits .or .u32 (a) (r1 * 32768)) (r2 * 1048576)) (putT im 4096 2 2147483648)) (putT im 2048 2 128)) (putT im 32 64 33554432)) (putT im 2 16 256)) / 1 % 128 = (a) / 1 % 128 ∧ (bits .or .u32 (bits .or .u32 (bits .or .u32 (bits .or .u32 (bits .or .u32 (bits .or .u32 (a) (r1 * 32768)) (r2 * 1048576)) (putT im 4096 2 2147483648)) (putT im 2048 2 128)) (putT im 32 64 33554432)) (putT im 2 16 256)) / 4096 % 8 = (a) / 4096 % 8 ∧ (bits .or .u32 (bits .or .u32 (bits .or .u32 (bits .or .u32 (bits .or .u32 (bits .or .u32 (a) (r1 * 32768)) (r2 * 1048576)) (putT im 4096 2 2147483648)) (putT im 2048 2 128)) (putT im 32 64 33554432)) (putT im 2 16 256)) / 32768 % 32 = r1 ∧ (bits .or .u32 (bits .or .u32 (bits .or .u32 (bits .or .u32 (bits .or .u32 (bits .or .u32 (a) (r1 * 32768)) (r2 * 1048576)) (putT im 4096 2 2147483648)) (putT im 2048 2 128)) (putT im 32 64 33554432)) (putT im 2 16 256)) / 1048576 % 32 = r2 ∧ (bits .or .u32 (bits .or .u32 (bits .or .u32 (bits .or .u32 (bits .or .u32 (bits .or .u32 (a) (r1 * 32768)) (r2 * 1048576)) (putT im 4096 2 2147483648)) (putT im 2048 2 128)) (putT im 32 64 33554432)) (putT im 2 16 256)) / 2147483648 % 2 = im / 4096 % 2 ∧ (bits .or .u32 (bits .or .u32 (bits .or .u32 (bits .or .u32 (bits .or .u32 (bits .or .u32 (a) (r1 * 32768)) (r2 * 1048576)) (putT im 4096 2 2147483648)) (putT im 2048 2 128)) (putT im 32 64 33554432)) (putT im 2 16 256)) / 128 % 2 = im / 2048 % 2 ∧ (bits .or .u32 (bits .or .u32 (bits .or .u32 (bits .or .u32 (bits .or .u32 (bits .or .u32 (a) (r1 * 32768)) (r2 * 1048576)) (putT im 4096 2 2147483648)) (putT im 2048 2 128)) (putT im 32 64 33554432)) (putT im 2 16 256)) / 33554432 % 64 = im / 32 % 64 ∧ (bits .or .u32 (bits .or .u32 (bits .or .u32 (bits .or .u32 (bits .or .u32 (bits .or .u32 (a) (r1 * 32768)) (r2 * 1048576)) (putT im 4096 2 2147483648)) (putT im 2048 2 128)) (putT im 32 64 33554432)) (putT im 2 16 256)) / 256 % 16 = im / 2 % 16 := by
  have p0 : P32 (a) := ha
  have p1 : P32 (bits .or .u32 (a) (r1 * 32768)) := or_P32 _ _
  have p2 : P32 (bits .or .u32 (bits .or .u32 (a) (r1 * 32768)) (r2 * 1048576)) := or_P32 _ _
  have p3 : P32 (bits .or .u32 (bits .or .u32 (bits .or .u32 (a) (r1 * 32768)) (r2 * 1048576)) (putT im 4096 2 2147483648)) := or_P32 _ _
  have p4 : P32 (bits .or .u32 (bits .or .u32 (bits .or .u32 (bits .or .u32 (a) (r1 * 32768)) (r2 * 1048576)) (putT im 4096 2 2147483648)) (putT im 2048 2 128)) := or_P32 _ _
  have p5 : P32 (bits .or .u32 (bits .or .u32 (bits .or .u32 (bits .or .u32 (bits .or .u32 (a) (r1 * 32768)) (r2 * 1048576)) (putT im 4096 2 2147483648)) (putT im 2048 2 128)) (putT im 32 64 33554432)) := or_P32 _ _
  have p6 : P32 (bits .or .u32 (bits .or .u32 (bits .or .u32 (bits .or .u32 (bits .or .u32 (bits .or .u32 (a) (r1 * 32768)) (r2 * 1048576)) (putT im 4096 2 2147483648)) (putT im 2048 2 128)) (putT im 32 64 33554432)) (putT im 2 16 256)) := or_P32 _ _
  have c1 : P32 (r1 * 32768) := p_1 r1 b_r1
  have c2 : P32 (r2 * 1048576) := p_2 r2 b_r2
  have c3 : P32 (putT im 4096 2 2147483648) := p_64 im 
  have c4 : P32 (putT im 2048 2 128) := p_65 im 
  have c5 : P32 (putT im 32 64 33554432) := p_66 im 
  have c6 : P32 (putT im 2 16 256) := p_67 im 
  have f0_0 : (a) / 1 % 128 = (a) / 1 % 128 := rfl
  have f0_1 : (bits .or .u32 (a) (r1 * 32768)) / 1 % 128 = (a) / 1 % 128 := or_l p0 c1 0 7 f0_0 (g_4 r1 b_r1)
  have f0_2 : (bits .or .u32 (bits .or .u32 (a) (r1 * 32768)) (r2 * 1048576)) / 1 % 128 = (a) / 1 % 128 := or_l p1 c2 0 7 f0_1 (g_5 r2 b_r2)
  have f0_3 : (bits .or .u32 (bits .or .u32 (bits .or .u32 (a) (r1 * 32768)) (r2 * 1048576)) (putT im 4096 2 2147483648)) / 1 % 128 = (a) / 1 % 128 := or_l p2 c3 0 7 f0_2 (g_68 im )
  have f0_4 : (bits .or .u32 (bits .or .u32 (bits .or .u32 (bits .or .u32 (a) (r1 * 32768)) (r2 * 1048576)) (putT im 4096 2 2147483648)) (putT im 2048 2 128)) / 1 % 128 = (a) / 1 % 128 := or_l p3 c4 0 7 f0_3 (g_69 im )
  have f0_5 : (bits .or .u32 (bits .or .u32 (bits .or .u32 (bits .or .u32 (bits .or .u32 (a) (r1 * 32768)) (r2 * 1048576)) (putT im 4096 2 2147483648)) (putT im 2048 2 128)) (putT im 32 64 33554432)) / 1 % 128 = (a) / 1 % 128 := or_l p4 c5 0 7 f0_4 (g_70 im )
  have f0_6 : (bits .or .u32 (bits .or .u32 (bits .or .u32 (bits .or .u32 (bits .or .u32 (bits .or .u32 (a) (r1 * 32768)) (r2 * 1048576)) (putT im 4096 2 2147483648)) (putT im 2048 2 128)) (putT im 32 64 33554432)) (putT im 2 16 256)) / 1 % 128 = (a) / 1 % 128 := or_l p5 c6 0 7 f0_5 (g_71 im )
  have f1_0 : (a) / 4096 % 8 = (a) / 4096 % 8 := rfl
  have f1_1 : (bits .or .u32 (a) (r1 * 32768)) / 4096 % 8 = (a) / 4096 % 8 := or_l p0 c1 12 3 f1_0 (g_7 r1 b_r1)
  have f1_2 : (bits .or .u32 (bits .or .u32 (a) (r1 * 32768)) (r2 * 1048576)) / 4096 % 8 = (a) / 4096 % 8 := or_l p1 c2 12 3 f1_1 (g_8 r2 b_r2)
  have f1_3 : (bits .or .u32 (bits .or .u32 (bits .or .u32 (a) (r1 * 32768)) (r2 * 1048576)) (putT im 4096 2 2147483648)) / 4096 % 8 = (a) / 4096 % 8 := or_l p2 c3 12 3 f1_2 (g_72 im )
  have f1_4 : (bits .or .u32 (bits .or .u32 (bits .or .u32 (bits .or .u32 (a) (r1 * 32768)) (r2 * 1048576)) (putT im 4096 2 2147483648)) (putT im 2048 2 128)) / 4096 % 8 = (a) / 4096 % 8 := or_l p3 c4 12 3 f1_3 (g_73 im )
  have f1_5 : (bits .or .u32 (bits .or .u32 (bits .or .u32 (bits .or .u32 (bits .or .u32 (a) (r1 * 32768)) (r2 * 1048576)) (putT im 4096 2 2147483648)) (putT im 2048 2 128)) (putT im 32 64 33554432)) / 4096 % 8 = (a) / 4096 % 8 := or_l p4 c5 12 3 f1_4 (g_74 im )
  have f1_6 : (bits .or .u32 (bits .or .u32 (bits .or .u32 (bits .or .u32 (bits .or .u32 (bits .or .u32 (a) (r1 * 32768)) (r2 * 1048576)) (putT im 4096 2 2147483648)) (putT im 2048 2 128)) (putT im 32 64 33554432)) (putT im 2 16 256)) / 4096 % 8 = (a) / 4096 % 8 := or_l p5 c6 12 3 f1_5 (g_75 im )
  have f2_0 : (a) / 32768 % 32 = 0 := z1
  have f2_1 : (bits .or .u32 (a) (r1 * 32768)) / 32768 % 32 = r1 := or_r p0 c1 15 5 f2_0 (g_19 r1 b_r1)
  have f2_2 : (bits .or .u32 (bits .or .u32 (a) (r1 * 32768)) (r2 * 1048576)) / 32768 % 32 = r1 := or_l p1 c2 15 5 f2_1 (g_20 r2 b_r2)
  have f2_3 : (bits .or .u32 (bits .or .u32 (bits .or .u32 (a) (r1 * 32768)) (r2 * 1048576)) (putT im 4096 2 2147483648)) / 32768 % 32 = r1 := or_l p2 c3 15 5 f2_2 (g_76 im )
  have f2_4 : (bits .or .u32 (bits .or .u32 (bits .or .u32 (bits .or .u32 (a) (r1 * 32768)) (r2 * 1048576)) (putT im 4096 2 2147483648)) (putT im 2048 2 128)) / 32768 % 32 = r1 := or_l p3 c4 15 5 f2_3 (g_77 im )
  have f2_5 : (bits .or .u32 (bits .or .u32 (bits .or .u32 (bits .or .u32 (bits .or .u32 (a) (r1 * 32768)) (r2 * 1048576)) (putT im 4096 2 2147483648)) (putT im 2048 2 128)) (putT im 32 64 33554432)) / 32768 % 32 = r1 := or_l p4 c5 15 5 f2_4 (g_78 im )
  have f2_6 : (bits .or .u32 (bits .or .u32 (bits .or .u32 (bits .or .u32 (bits .or .u32 (bits .or .u32 (a) (r1 * 32768)) (r2 * 1048576)) (putT im 4096 2 2147483648)) (putT im 2048 2 128)) (putT im 32 64 33554432)) (putT im 2 16 256)) / 32768 % 32 = r1 := or_l p5 c6 15 5 f2_5 (g_79 im )
  have f3_0 : (a) / 1048576 % 32 = 0 := z2
  have f3_1 : (bits .or .u32 (a) (r1 * 32768)) / 1048576 % 32 = 0 := or_l p0 c1 20 5 f3_0 (g_22 r1 b_r1)
  have f3_2 : (bits .or .u32 (bits .or .u32 (a) (r1 * 32768)) (r2 * 1048576)) / 1048576 % 32 = r2 := or_r p1 c2 20 5 f3_1 (g_23 r2 b_r2)
  have f3_3 : (bits .or .u32 (bits .or .u32 (bits .or .u32 (a) (r1 * 32768)) (r2 * 1048576)) (putT im 4096 2 2147483648)) / 1048576 % 32 = r2 := or_l p2 c3 20 5 f3_2 (g_80 im )
  have f3_4 : (bits .or .u32 (bits .or .u32 (bits .or .u32 (bits .or .u32 (a) (r1 * 32768)) (r2 * 1048576)) (putT im 4096 2 2147483648)) (putT im 2048 2 128)) / 1048576 % 32 = r2 := or_l p3 c4 20 5 f3_3 (g_81 im )
  have f3_5 : (bits .or .u32 (bits .or .u32 (bits .or .u32 (bits .or .u32 (bits .or .u32 (a) (r1 * 32768)) (r2 * 1048576)) (putT im 4096 2 2147483648)) (putT im 2048 2 128)) (putT im 32 64 33554432)) / 1048576 % 32 = r2 := or_l p4 c5 20 5 f3_4 (g_82 im )
  have f3_6 : (bits .or .u32 (bits .or .u32 (bits .or .u32 (bits .or .u32 (bits .or .u32 (bits .or .u32 (a) (r1 * 32768)) (r2 * 1048576)) (putT im 4096 2 2147483648)) (putT im 2048 2 128)) (putT im 32 64 33554432)) (putT im 2 16 256)) / 1048576 % 32 = r2 := or_l p5 c6 20 5 f3_5 (g_83 im )
  have f4_0 : (a) / 2147483648 % 2 = 0 := z3
  have f4_1 : (bits .or .u32 (a) (r1 * 32768)) / 2147483648 % 2 = 0 := or_l p0 c1 31 1 f4_0 (g_84 r1 b_r1)
  have f4_2 : (bits .or .u32 (bits .or .u32 (a) (r1 * 32768)) (r2 * 1048576)) / 2147483648 % 2 = 0 := or_l p1 c2 31 1 f4_1 (g_85 r2 b_r2)
  have f4_3 : (bits .or .u32 (bits .or .u32 (bits .or .u32 (a) (r1 * 32768)) (r2 * 1048576)) (putT im 4096 2 2147483648)) / 2147483648 % 2 = im / 4096 % 2 := or_r p2 c3 31 1 f4_2 (g_86 im )
  have f4_4 : (bits .or .u32 (bits .or .u32 (bits .or .u32 (bits .or .u32 (a) (r1 * 32768)) (r2 * 1048576)) (putT im 4096 2 2147483648)) (putT im 2048 2 128)) / 2147483648 % 2 = im / 4096 % 2 := or_l p3 c4 31 1 f4_3 (g_87 im )
  have f4_5 : (bits .or .u32 (bits .or .u32 (bits .or .u32 (bits .or .u32 (bits .or .u32 (a) (r1 * 32768)) (r2 * 1048576)) (putT im 4096 2 2147483648)) (putT im 2048 2 128)) (putT im 32 64 33554432)) / 2147483648 % 2 = im / 4096 % 2 := or_l p4 c5 31 1 f4_4 (g_88 im )
  have f4_6 : (bits .or .u32 (bits .or .u32 (bits .or .u32 (bits .or .u32 (bits .or .u32 (bits .or .u32 (a) (r1 * 32768)) (r2 * 1048576)) (putT im 4096 2 2147483648)) (putT im 2048 2 128)) (putT im 32 64 33554432)) (putT im 2 16 256)) / 2147483648 % 2 = im / 4096 % 2 := or_l p5 c6 31 1 f4_5 (g_89 im )
  have f5_0 : (a) / 128 % 2 = 0 := z4
  have f5_1 : (bits .or .u32 (a) (r1 * 32768)) / 128 % 2 = 0 := or_l p0 c1 7 1 f5_0 (g_90 r1 b_r1)
  have f5_2 : (bits .or .u32 (bits .or .u32 (a) (r1 * 32768)) (r2 * 1048576)) / 128 % 2 = 0 := or_l p1 c2 7 1 f5_1 (g_91 r2 b_r2)
  have f5_3 : (bits .or .u32 (bits .or .u32 (bits .or .u32 (a) (r1 * 32768)) (r2 * 1048576)) (putT im 4096 2 2147483648)) / 128 % 2 = 0 := or_l p2 c3 7 1 f5_2 (g_92 im )
  have f5_4 : (bits .or .u32 (bits .or .u32 (bits .or .u32 (bits .or .u32 (a) (r1 * 32768)) (r2 * 1048576)) (putT im 4096 2 2147483648)) (putT im 2048 2 128)) / 128 % 2 = im / 2048 % 2 := or_r p3 c4 7 1 f5_3 (g_93 im )
  have f5_5 : (bits .or .u32 (bits .or .u32 (bits .or .u32 (bits .or .u32 (bits .or .u32 (a) (r1 * 32768)) (r2 * 1048576)) (putT im 4096 2 2147483648)) (putT im 2048 2 128)) (putT im 32 64 33554432)) / 128 % 2 = im / 2048 % 2 := or_l p4 c5 7 1 f5_4 (g_94 im )
  have f5_6 : (bits .or .u32 (bits .or .u32 (bits .or .u32 (bits .or .u32 (bits .or .u32 (bits .or .u32 (a) (r1 * 32768)) (r2 * 1048576)) (putT im 4096 2 2147483648)) (putT im 2048 2 128)) (putT im 32 64 33554432)) (putT im 2 16 256)) / 128 % 2 = im / 2048 % 2 := or_l p5 c6 7 1 f5_5 (g_95 im )
  have f6_0 : (a) / 33554432 % 64 = 0 := z5
  have f6_1 : (bits .or .u32 (a) (r1 * 32768)) / 33554432 % 64 = 0 := or_l p0 c1 25 6 f6_0 (g_96 r1 b_r1)
  have f6_2 : (bits .or .u32 (bits .or .u32 (a) (r1 * 32768)) (r2 * 1048576)) / 33554432 % 64 = 0 := or_l p1 c2 25 6 f6_1 (g_97 r2 b_r2)
  have f6_3 : (bits .or .u32 (bits .or .u32 (bits .or .u32 (a) (r1 * 32768)) (r2 * 1048576)) (putT im 4096 2 2147483648)) / 33554432 % 64 = 0 := or_l p2 c3 25 6 f6_2 (g_98 im )
  have f6_4 : (bits .or .u32 (bits .or .u32 (bits .or .u32 (bits .or .u32 (a) (r1 * 32768)) (r2 * 1048576)) (putT im 4096 2 2147483648)) (putT im 2048 2 128)) / 33554432 % 64 = 0 := or_l p3 c4 25 6 f6_3 (g_99 im )
  have f6_5 : (bits .or .u32 (bits .or .u32 (bits .or .u32 (bits .or .u32 (bits .or .u32 (a) (r1 * 32768)) (r2 * 1048576)) (putT im 4096 2 2147483648)) (putT im 2048 2 128)) (putT im 32 64 33554432)) / 33554432 % 64 = im / 32 % 64 := or_r p4 c5 25 6 f6_4 (g_100 im )
  have f6_6 : (bits .or .u32 (bits .or .u32 (bits .or .u32 (bits .or .u32 (bits .or .u32 (bits .or .u32 (a) (r1 * 32768)) (r2 * 1048576)) (putT im 4096 2 2147483648)) (putT im 2048 2 128)) (putT im 32 64 33554432)) (putT im 2 16 256)) / 33554432 % 64 = im / 32 % 64 := or_l p5 c6 25 6 f6_5 (g_101 im )
  have f7_0 : (a) / 256 % 16 = 0 := z6
  have f7_1 : (bits .or .u32 (a) (r1 * 32768)) / 256 % 16 = 0 := or_l p0 c1 8 4 f7_0 (g_102 r1 b_r1)
  have f7_2 : (bits .or .u32 (bits .or .u32 (a) (r1 * 32768)) (r2 * 1048576)) / 256 % 16 = 0 := or_l p1 c2 8 4 f7_1 (g_103 r2 b_r2)
  have f7_3 : (bits .or .u32 (bits .or .u32 (bits .or .u32 (a) (r1 * 32768)) (r2 * 1048576)) (putT im 4096 2 2147483648)) / 256 % 16 = 0 := or_l p2 c3 8 4 f7_2 (g_104 im )
  have f7_4 : (bits .or .u32 (bits .or .u32 (bits .or .u32 (bits .or .u32 (a) (r1 * 32768)) (r2 * 1048576)) (putT im 4096 2 2147483648)) (putT im 2048 2 128)) / 256 % 16 = 0 := or_l p3 c4 8 4 f7_3 (g_105 im )
  have f7_5 : (bits .or .u32 (bits .or .u32 (bits .or .u32 (bits .or .u32 (bits .or .u32 (a) (r1 * 32768)) (r2 * 1048576)) (putT im 4096 2 2147483648)) (putT im 2048 2 128)) (putT im 32 64 33554432)) / 256 % 16 = 0 := or_l p4 c5 8 4 f7_4 (g_106 im )
  have f7_6 : (bits .or .u32 (bits .or .u32 (bits .or .u32 (bits .or .u32 (bits .or .u32 (bits .or .u32 (a) (r1 * 32768)) (r2 * 1048576)) (putT im 4096 2 2147483648)) (putT im 2048 2 128)) (putT im 32 64 33554432)) (putT im 2 16 256)) / 256 % 16 = im / 2 % 16 := or_r p5 c6 8 4 f7_5 (g_107 im )
  exact ⟨p6, f0_6, f1_6, f2_6, f3_6, f4_6, f5_6, f6_6, f7_6⟩
theorem parf_6 (a im rd : Int) (ha : P32 a) (b_rd : 0 ≤ rd ∧ rd < 32) (z1 : (a) / 128 % 32 = 0) (z2 : (a) / 4096 % 1048576 = 0) : P32 (bits .or .u32 (bits .or .u32 (a) (rd * 128)) (putT im 4096 1048576 4096)) ∧ (bits .or .u32 (bits .or .u32 (a) (rd * 128)) (putT im 4096 1048576 4096)) / 1 % 128 = (a) / 1 % 128 ∧ (bits .or .u32 (bits .or .u32 (a) (rd * 128)) (putT im 4096 1048576 4096)) / 128 % 32 = rd ∧ (bits .or .u32 (bits .or .u32 (a) (rd * 128)) (putT im 4096 1048576 4096)) / 4096 % 1048576 = im / 4096 % 1048576 := by
  have p0 : P32 (a) := ha
  have p1 : P32 (bits .or .u32 (a) (rd * 128)) := or_P32 _ _
  have p2 : P32 (bits .or .u32 (bits .or .u32 (a) (rd * 128)) (putT im 4096 1048576 4096)) := or_P32 _ _
  have c1 : P32 (rd * 128) := p_0 rd b_rd
  have c2 : P32 (putT im 4096 1048576 4096) := p_108 im 
  have f0_0 : (a) / 1 % 128 = (a) / 1 % 128 := rfl
  have f0_1 : (bits .or .u32 (a) (rd * 128)) / 1 % 128 = (a) / 1 % 128 := or_l p0 c1 0 7 f0_0 (g_3 rd b_rd)
  have f0_2 : (bits .or .u32 (bits .or .u32 (a) (rd * 128)) (putT im 4096 1048576 4096)) / 1 % 128 = (a) / 1 % 128 := or_l p1 c2 0 7 f0_1 (g_109 im )
  have f1_0 : (a) / 128 % 32 = 0 := z1
  have f1_1 : (bits .or .u32 (a) (rd * 128)) / 128 % 32 = rd := or_r p0 c1 7 5 f1_0 (g_15 rd b_rd)
  have f1_2 : (bits .or .u32 (bits .or .u32 (a) (rd * 128)) (putT im 4096 1048576 4096)) / 128 % 32 = rd := or_l p1 c2 7 5 f1_1 (g_110 im )
  have f2_0 : (a) / 4096 % 1048576 = 0 := z2
  have f2_1 : (bits .or .u32 (a) (rd * 128)) / 4096 % 1048576 = 0 := or_l p0 c1 12 20 f2_0 (g_111 rd b_rd)
  have f2_2 : (bits .or .u32 (bits .or .u32 (a) (rd * 128)) (putT im 4096 1048576 4096)) / 4096 % 1048576 = im / 4096 % 1048576 := or_r p1 c2 12 20 f2_1 (g_112 im )
  exact ⟨p2, f0_2, f1_2, f2_2⟩
theorem parf_7 (a im rd : Int) (ha : P32 a) (b_rd : 0 ≤ rd ∧ rd < 32) (z1 : (a) / 128 % 32 = 0) (z2 : (a) / 2147483648 % 2 = 0) (z3 : (a) / 4096 % 256 = 0) (z4 : (a) / 1048576 % 2 = 0) (z5 : (a) / 2097152 % 1024 = 0) : P32 (bits .or .u32 (bits .or .u32 (bits .or .u32 (bits .or .u32 (bits .or .u32 (a) (rd * 128)) (putT im 1048576 2 2147483648)) (putT im 4096 256 4096)) (putT im 2048 2 1048576)) (putT im 2 1024 2097152)) ∧ (bits .or .u32 (bits .or .u32 (bits .or .u32 (bits .or .u32 (bits .or .u32 (a) (rd * 128)) (putT im 1048576 2 2147483648)) (putT im 4096 256 4096)) (putT im 2048 2 1048576)) (putT im 2 1024 2097152)) / 1 % 128 = (a) / 1 % 128 ∧ (bits .or .u32 (bits .or .u32 (bits .or .u32 (bits .or .u32 (bits .or .u32 (a) (rd * 128)) (putT im 1048576 2 2147483648)) (putT im 4096 256 4096)) (putT im 2048 2 1048576)) (putT im 2 1024 2097152)) / 128 % 32 = rd ∧ (bits .or .u32 (bits .or .u32 (bits .or .u32 (bits .or .u32 (bits .or .u32 (a) (rd * 128)) (putT im 1048576 2 2147483648)) (putT im 4096 256 4096)) (putT im 2048 2 1048576)) (putT im 2 1024 2097152)) / 2147483648 % 2 = im / 1048576 % 2 ∧ (bits .or .u32 (bits .or .u32 (bits .or .u32 (bits .or .u32 (bits .or .u32 (a) (rd * 128)) (putT im 1048576 2 2147483648)) (putT im 4096 256 4096)) (putT im 2048 2 1048576)) (putT im 2 1024 2097152)) / 4096 % 256 = im / 4096 % 256 ∧ (bits .or .u32 (bits .or .u32 (bits .or .u32 (bits .or .u32 (bits .or .u32 (a) (rd * 128)) (putT im 1048576 2 2147483648)) (putT im 4096 256 4096)) (putT im 2048 2 1048576)) (putT im 2 1024 2097152)) / 1048576 % 2 = im / 2048 % 2 ∧ (bits .or .u32 (bits .or .u32 (bits .or .u32 (bits .or .u32 (bits .or .u32 (a) (rd * 128)) (putT im 1048576 2 2147483648)) (putT im 4096 256 4096)) (putT im 2048 2 1048576)) (putT im 2 1024 2097152)) / 2097152 % 1024 = im / 2 % 1024 := by
  have p0 : P32 (a) := ha
  have p1 : P32 (bits .or .u32 (a) (rd * 128)) := or_P32 _ _
  have p2 : P32 (bits .or .u32 (bits .or .u32 (a) (rd * 128)) (putT im 1048576 2 2147483648)) := or_P32 _ _
  have p3 : P32 (bits .or .u32 (bits .or .u32 (bits .or .u32 (a) (rd * 128)) (putT im 1048576 2 2147483648)) (putT im 4096 256 4096)) := or_P32 _ _
  have p4 : P32 (bits .or .u32 (bits .or .u32 (bits .or .u32 (bits .or .u32 (a) (rd * 128)) (putT im 1048576 2 2147483648)) (putT im 4096 256 4096)) (putT im 2048 2 1048576)) := or_P32 _ _
  have p5 : P32 (bits .or .u32 (bits .or .u32 (bits .or .u32 (bits .or .u32 (bits .or .u32 (a) (rd * 128)) (putT im 1048576 2 2147483648)) (putT im 4096 256 4096)) (putT im 2048 2 1048576)) (putT im 2 1024 2097152)) := or_P32 _ _
  have c1 : P32 (rd * 128) := p_0 rd b_rd
  have c2 : P32 (putT im 1048576 2 2147483648) := p_113 im 
  have c3 : P32 (putT im 4096 256 4096) := p_114 im 
  have c4 : P32 (putT im 2048 2 1048576) := p_115 im 
  have c5 : P32 (putT im 2 1024 2097152) := p_116 im 
  have f0_0 : (a) / 1 % 128 = (a) / 1 % 128 := rfl
  have f0_1 : (bits .or .u32 (a) (rd * 128)) / 1 % 128 = (a) / 1 % 128 := or_l p0 c1 0 7 f0_0 (g_3 rd b_rd)
  have f0_2 : (bits .or .u32 (bits .or .u32 (a) (rd * 128)) (putT im 1048576 2 2147483648)) / 1 % 128 = (a) / 1 % 128 := or_l p1 c2 0 7 f0_1 (g_117 im )
  have f0_3 : (bits .or .u32 (bits .or .u32 (bits .or .u32 (a) (rd * 128)) (putT im 1048576 2 2147483648)) (putT im 4096 256 4096)) / 1 % 128 = (a) / 1 % 128 := or_l p2 c3 0 7 f0_2 (g_118 im )
  have f0_4 : (bits .or .u32 (bits .or .u32 (bits .or .u32 (bits .or .u32 (a) (rd * 128)) (putT im 1048576 2 2147483648)) (putT im 4096 256 4096)) (putT im 2048 2 1048576)) / 1 % 128 = (a) / 1 % 128 := or_l p3 c4 0 7 f0_3 (g_119 im )
  have f0_5 : (bits .or .u32 (bits .or .u32 (bits .or .u32 (bits .or .u32 (bits .or .u32 (a) (rd * 128)) (putT im 1048576 2 2147483648)) (putT im 4096 256 4096)) (putT im 2048 2 1048576)) (putT im 2 1024 2097152)) / 1 % 128 = (a) / 1 % 128 := or_l p4 c5 0 7 f0_4 (g_120 im )
  have f1_0 : (a) / 128 % 32 = 0 := z1
  have f1_1 : (bits .or .u32 (a) (rd * 128)) / 128 % 32 = rd := or_r p0 c1 7 5 f1_0 (g_15 rd b_rd)
  have f1_2 : (bits .or .u32 (bits .or .u32 (a) (rd * 128)) (putT im 1048576 2 2147483648)) / 128 % 32 = rd := or_l p1 c2 7 5 f1_1 (g_121 im )
  have f1_3 : (bits .or .u32 (bits .or .u32 (bits .or .u32 (a) (rd * 128)) (putT im 1048576 2 2147483648)) (putT im 4096 256 4096)) / 128 % 32 = rd := or_l p2 c3 7 5 f1_2 (g_122 im )
  have f1_4 : (bits .or .u32 (bits .or .u32 (bits .or .u32 (bits .or .u32 (a) (rd * 128)) (putT im 1048576 2 2147483648)) (putT im 4096 256 4096)) (putT im 2048 2 1048576)) / 128 % 32 = rd := or_l p3 c4 7 5 f1_3 (g_123 im )
  have f1_5 : (bits .or .u32 (bits .or .u32 (bits .or .u32 (bits .or .u32 (bits .or .u32 (a) (rd * 128)) (putT im 1048576 2 2147483648)) (putT im 4096 256 4096)) (putT im 2048 2 1048576)) (putT im 2 1024 2097152)) / 128 % 32 = rd := or_l p4 c5 7 5 f1_4 (g_124 im )
  have f2_0 : (a) / 2147483648 % 2 = 0 := z2
  have f2_1 : (bits .or .u32 (a) (rd * 128)) / 2147483648 % 2 = 0 := or_l p0 c1 31 1 f2_0 (g_125 rd b_rd)
  have f2_2 : (bits .or .u32 (bits .or .u32 (a) (rd * 128)) (putT im 1048576 2 2147483648)) / 2147483648 % 2 = im / 1048576 % 2 := or_r p1 c2 31 1 f2_1 (g_126 im )
  have f2_3 : (bits .or .u32 (bits .or .u32 (bits .or .u32 (a) (rd * 128)) (putT im 1048576 2 2147483648)) (putT im 4096 256 4096)) / 2147483648 % 2 = im / 1048576 % 2 := or_l p2 c3 31 1 f2_2 (g_127 im )
  have f2_4 : (bits .or .u32 (bits .or .u32 (bits .or .u32 (bits .or .u32 (a) (rd * 128)) (putT im 1048576 2 2147483648)) (putT im 4096 256 4096)) (putT im 2048 2 1048576)) / 2147483648 % 2 = im / 1048576 % 2 := or_l p3 c4 31 1 f2_3 (g_128 im )
  have f2_5 : (bits .or .u32 (bits .or .u32 (bits .or .u32 (bits .or .u32 (bits .or .u32 (a) (rd * 128)) (putT im 1048576 2 2147483648)) (putT im 4096 256 4096)) (putT im 2048 2 1048576)) (putT im 2 1024 2097152)) / 2147483648 % 2 = im / 1048576 % 2 := or_l p4 c5 31 1 f2_4 (g_129 im )
  have f3_0 : (a) / 4096 % 256 = 0 := z3
  have f3_1 : (bits .or .u32 (a) (rd * 128)) / 4096 % 256 = 0 := or_l p0 c1 12 8 f3_0 (g_130 rd b_rd)
  have f3_2 : (bits .or .u32 (bits .or .u32 (a) (rd * 128)) (putT im 1048576 2 2147483648)) / 4096 % 256 = 0 := or_l p1 c2 12 8 f3_1 (g_131 im )
  have f3_3 : (bits .or .u32 (bits .or .u32 (bits .or .u32 (a) (rd * 128)) (putT im 1048576 2 2147483648)) (putT im 4096 256 4096)) / 4096 % 256 = im / 4096 % 256 := or_r p2 c3 12 8 f3_2 (g_132 im )
  have f3_4 : (bits .or .u32 (bits .or .u32 (bits .or .u32 (bits .or .u32 (a) (rd * 128)) (putT im 1048576 2 2147483648)) (putT im 4096 256 4096)) (putT im 2048 2 1048576)) / 4096 % 256 = im / 4096 % 256 := or_l p3 c4 12 8 f3_3 (g_133 im )
  have f3_5 : (bits .or .u32 (bits .or .u32 (bits .or .u32 (bits .or .u32 (bits .or .u32 (a) (rd * 128)) (putT im 1048576 2 2147483648)) (putT im 4096 256 4096)) (putT im 2048 2 1048576)) (putT im 2 1024 2097152)) / 4096 % 256 = im / 4096 % 256 := or_l p4 c5 12 8 f3_4 (g_134 im )
  have f4_0 : (a) / 1048576 % 2 = 0 := z4
  have f4_1 : (bits .or .u32 (a) (rd * 128)) / 1048576 % 2 = 0 := or_l p0 c1 20 1 f4_0 (g_135 rd b_rd)
  have f4_2 : (bits .or .u32 (bits .or .u32 (a) (rd * 128)) (putT im 1048576 2 2147483648)) / 1048576 % 2 = 0 := or_l p1 c2 20 1 f4_1 (g_136 im )
  have f4_3 : (bits .or .u32 (bits .or .u32 (bits .or .u32 (a) (rd * 128)) (putT im 1048576 2 2147483648)) (putT im 4096 256 4096)) / 1048576 % 2 = 0 := or_l p2 c3 20 1 f4_2 (g_137 im )
  have f4_4 : (bits .or .u32 (bits .or .u32 (bits .or .u32 (bits .or .u32 (a) (rd * 128)) (putT im 1048576 2 2147483648)) (putT im 4096 256 4096)) (putT im 2048 2 1048576)) / 1048576 % 2 = im / 2048 % 2 := or_r p3 c4 20 1 f4_3 (g_138 im )
  have f4_5 : (bits .or .u32 (bits .or .u32 (bits .or .u32 (bits .or .u32 (bits .or .u32 (a) (rd * 128)) (putT im 1048576 2 2147483648)) (putT im 4096 256 4096)) (putT im 2048 2 1048576)) (putT im 2 1024 2097152)) / 1048576 % 2 = im / 2048 % 2 := or_l p4 c5 20 1 f4_4 (g_139 im )
  have f5_0 : (a) / 2097152 % 1024 = 0 := z5
  have f5_1 : (bits .or .u32 (a) (rd * 128)) / 2097152 % 1024 = 0 := or_l p0 c1 21 10 f5_0 (g_140 rd b_rd)
  have f5_2 : (bits .or .u32 (bits .or .u32 (a) (rd * 128)) (putT im 1048576 2 2147483648)) / 2097152 % 1024 = 0 := or_l p1 c2 21 10 f5_1 (g_141 im )
  have f5_3 : (bits .or .u32 (bits .or .u32 (bits .or .u32 (a) (rd * 128)) (putT im 1048576 2 2147483648)) (putT im 4096 256 4096)) / 2097152 % 1024 = 0 := or_l p2 c3 21 10 f5_2 (g_142 im )
  have f5_4 : (bits .or .u32 (bits .or .u32 (bits .or .u32 (bits .or .u32 (a) (rd * 128)) (putT im 1048576 2 2147483648)) (putT im 4096 256 4096)) (putT im 2048 2 1048576)) / 2097152 % 1024 = 0 := or_l p3 c4 21 10 f5_3 (g_143 im )
  have f5_5 : (bits .or .u32 (bits .or .u32 (bits .or .u32 (bits .or .u32 (bits .or .u32 (a) (rd * 128)) (putT im 1048576 2 2147483648)) (putT im 4096 256 4096)) (putT im 2048 2 1048576)) (putT im 2 1024 2097152)) / 2097152 % 1024 = im / 2 % 1024 := or_r p4 c5 21 10 f5_4 (g_144 im )
  exact ⟨p5, f0_5, f1_5, f2_5, f3_5, f4_5, f5_5⟩
theorem parf_8 (a cs r1 rd : Int) (ha : P32 a) (b_cs : 0 ≤ cs ∧ cs < 4096) (b_r1 : 0 ≤ r1 ∧ r1 < 32) (b_rd : 0 ≤ rd ∧ rd < 32) (z1 : (a) / 128 % 32 = 0) (z2 : (a) / 32768 % 32 = 0) (z3 : (a) / 1048576 % 4096 = 0) : P32 (bits .or .u32 (bits .or .u32 (bits .or .u32 (a) (rd * 128)) (r1 * 32768)) (cs * 1048576 % 4294967296)) ∧ (bits .or .u32 (bits .or .u32 (bits .or .u32 (a) (rd * 128)) (r1 * 32768)) (cs * 1048576 % 4294967296)) / 1 % 128 = (a) / 1 % 128 ∧ (bits .or .u32 (bits .or .u32 (bits .or .u32 (a) (rd * 128)) (r1 * 32768)) (cs * 1048576 % 4294967296)) / 4096 % 8 = (a) / 4096 % 8 ∧ (bits .or .u32 (bits .or .u32 (bits .or .u32 (a) (rd * 128)) (r1 * 32768)) (cs * 1048576 % 4294967296)) / 128 % 32 = rd ∧ (bits .or .u32 (bits .or .u32 (bits .or .u32 (a) (rd * 128)) (r1 * 32768)) (cs * 1048576 % 4294967296)) / 32768 % 32 = r1 ∧ (bits .or .u32 (bits .or .u32 (bits .or .u32 (a) (rd * 128)) (r1 * 32768)) (cs * 1048576 % 4294967296)) / 1048576 % 4096 = cs := by
  have p0 : P32 (a) := ha
  have p1 : P32 (bits .or .u32 (a) (rd * 128)) := or_P32 _ _
  have p2 : P32 (bits .or .u32 (bits .or .u32 (a) (rd * 128)) (r1 * 32768)) := or_P32 _ _
  have p3 : P32 (bits .or .u32 (bits .or .u32 (bits .or .u32 (a) (rd * 128)) (r1 * 32768)) (cs * 1048576 % 4294967296)) := or_P32 _ _
  have c1 : P32 (rd * 128) := p_0 rd b_rd
  have c2 : P32 (r1 * 32768) := p_1 r1 b_r1
  have c3 : P32 (cs * 1048576 % 4294967296) := p_145 cs b_cs
  have f0_0 : (a) / 1 % 128 = (a) / 1 % 128 := rfl
  have f0_1 : (bits .or .u32 (a) (rd * 128)) / 1 % 128 = (a) / 1 % 128 := or_l p0 c1 0 7 f0_0 (g_3 rd b_rd)
  have f0_2 : (bits .or .u32 (bits .or .u32 (a) (rd * 128)) (r1 * 32768)) / 1 % 128 = (a) / 1 % 128 := or_l p1 c2 0 7 f0_1 (g_4 r1 b_r1)
  have f0_3 : (bits .or .u32 (bits .or .u32 (bits .or .u32 (a) (rd * 128)) (r1 * 32768)) (cs * 1048576 % 4294967296)) / 1 % 128 = (a) / 1 % 128 := or_l p2 c3 0 7 f0_2 (g_146 cs b_cs)
  have f1_0 : (a) / 4096 % 8 = (a) / 4096 % 8 := rfl
  have f1_1 : (bits .or .u32 (a) (rd * 128)) / 4096 % 8 = (a) / 4096 % 8 := or_l p0 c1 12 3 f1_0 (g_6 rd b_rd)
  have f1_2 : (bits .or .u32 (bits .or .u32 (a) (rd * 128)) (r1 * 32768)) / 4096 % 8 = (a) / 4096 % 8 := or_l p1 c2 12 3 f1_1 (g_7 r1 b_r1)
  have f1_3 : (bits .or .u32 (bits .or .u32 (bits .or .u32 (a) (rd * 128)) (r1 * 32768)) (cs * 1048576 % 4294967296)) / 4096 % 8 = (a) / 4096 % 8 := or_l p2 c3 12 3 f1_2 (g_147 cs b_cs)
  have f2_0 : (a) / 128 % 32 = 0 := z1
  have f2_1 : (bits .or .u32 (a) (rd * 128)) / 128 % 32 = rd := or_r p0 c1 7 5 f2_0 (g_15 rd b_rd)
  have f2_2 : (bits .or .u32 (bits .or .u32 (a) (rd * 128)) (r1 * 32768)) / 128 % 32 = rd := or_l p1 c2 7 5 f2_1 (g_16 r1 b_r1)
  have f2_3 : (bits .or .u32 (bits .or .u32 (bits .or .u32 (a) (rd * 128)) (r1 * 32768)) (cs * 1048576 % 4294967296)) / 128 % 32 = rd := or_l p2 c3 7 5 f2_2 (g_148 cs b_cs)
  have f3_0 : (a) / 32768 % 32 = 0 := z2
  have f3_1 : (bits .or .u32 (a) (rd * 128)) / 32768 % 32 = 0 := or_l p0 c1 15 5 f3_0 (g_18 rd b_rd)
  have f3_2 : (bits .or .u32 (bits .or .u32 (a) (rd * 128)) (r1 * 32768)) / 32768 % 32 = r1 := or_r p1 c2 15 5 f3_1 (g_19 r1 b_r1)
  have f3_3 : (bits .or .u32 (bits .or .u32 (bits .or .u32 (a) (rd * 128)) (r1 * 32768)) (cs * 1048576 % 4294967296)) / 32768 % 32 = r1 := or_l p2 c3 15 5 f3_2 (g_149 cs b_cs)
  have f4_0 : (a) / 1048576 % 4096 = 0 := z3
  have f4_1 : (bits .or .u32 (a) (rd * 128)) / 1048576 % 4096 = 0 := or_l p0 c1 20 12 f4_0 (g_29 rd b_rd)
  have f4_2 : (bits .or .u32 (bits .or .u32 (a) (rd * 128)) (r1 * 32768)) / 1048576 % 4096 = 0 := or_l p1 c2 20 12 f4_1 (g_30 r1 b_r1)
  have f4_3 : (bits .or .u32 (bits .or .u32 (bits .or .u32 (a) (rd * 128)) (r1 * 32768)) (cs * 1048576 % 4294967296)) / 1048576 % 4096 = cs := or_r p2 c3 20 12 f4_2 (g_150 cs b_cs)
  exact ⟨p3, f0_3, f1_3, f2_3, f3_3, f4_3⟩
theorem parf_9 (a cs im rd : Int) (ha : P32 a) (b_cs : 0 ≤ cs ∧ cs < 4096) (b_rd : 0 ≤ rd ∧ rd < 32) (z1 : (a) / 128 % 32 = 0) (z2 : (a) / 32768 % 32 = 0) (z3 : (a) / 1048576 % 4096 = 0) : P32 (bits .or .u32 (bits .or .u32 (bits .or .u32 (a) (rd * 128)) (putT im 1 32 32768)) (cs * 1048576 % 4294967296)) ∧ (bits .or .u32 (bits .or .u32 (bits .or .u32 (a) (rd * 128)) (putT im 1 32 32768)) (cs * 1048576 % 4294967296)) / 1 % 128 = (a) / 1 % 128 ∧ (bits .or .u32 (bits .or .u32 (bits .or .u32 (a) (rd * 128)) (putT im 1 32 32768)) (cs * 1048576 % 4294967296)) / 4096 % 8 = (a) / 4096 % 8 ∧ (bits .or .u32 (bits .or .u32 (bits .or .u32 (a) (rd * 128)) (putT im 1 32 32768)) (cs * 1048576 % 4294967296)) / 128 % 32 = rd ∧ (bits .or .u32 (bits .or .u32 (bits .or .u32 (a) (rd * 128)) (putT im 1 32 32768)) (cs * 1048576 % 4294967296)) / 32768 % 32 = im / 1 % 32 ∧ (bits .or .u32 (bits .or .u32 (bits .or .u32 (a) (rd * 128)) (putT im 1 32 32768)) (cs * 1048576 % 4294967296)) / 1048576 % 4096 = cs := by
  have p0 : P32 (a) := ha
  have p1 : P32 (bits .or .u32 (a) (rd * 128)) := or_P32 _ _
  have p2 : P32 (bits .or .u32 (bits .or .u32 (a) (rd * 128)) (putT im 1 32 32768)) := or_P32 _ _
  have p3 : P32 (bits .or .u32 (bits .or .u32 (bits .or .u32 (a) (rd * 128)) (putT im 1 32 32768)) (cs * 1048576 % 4294967296)) := or_P32 _ _
  have c1 : P32 (rd * 128) := p_0 rd b_rd
  have c2 : P32 (putT im 1 32 32768) := p_151 im 
  have c3 : P32 (cs * 1048576 % 4294967296) := p_145 cs b_cs
  have f0_0 : (a) / 1 % 128 = (a) / 1 % 128 := rfl
  have f0_1 : (bits .or .u32 (a) (rd * 128)) / 1 % 128 = (a) / 1 % 128 := or_l p0 c1 0 7 f0_0 (g_3 rd b_rd)
  have f0_2 : (bits .or .u32 (bits .or .u32 (a) (rd * 128)) (putT im 1 32 32768)) / 1 % 128 = (a) / 1 % 128 := or_l p1 c2 0 7 f0_1 (g_152 im )
  have f0_3 : (bits .or .u32 (bits .or .u32 (bits .or .u32 (a) (rd * 128)) (putT im 1 32 32768)) (cs * 1048576 % 4294967296)) / 1 % 128 = (a) / 1 % 128 := or_l p2 c3 0 7 f0_2 (g_146 cs b_cs)
  have f1_0 : (a) / 4096 % 8 = (a) / 4096 % 8 := rfl
  have f1_1 : (bits .or .u32 (a) (rd * 128)) / 4096 % 8 = (a) / 4096 % 8 := or_l p0 c1 12 3 f1_0 (g_6 rd b_rd)
  have f1_2 : (bits .or .u32 (bits .or .u32 (a) (rd * 128)) (putT im 1 32 32768)) / 4096 % 8 = (a) / 4096 % 8 := or_l p1 c2 12 3 f1_1 (g_153 im )
  have f1_3 : (bits .or .u32 (bits .or .u32 (bits .or .u32 (a) (rd * 128)) (putT im 1 32 32768)) (cs * 1048576 % 4294967296)) / 4096 % 8 = (a) / 4096 % 8 := or_l p2 c3 12 3 f1_2 (g_147 cs b_cs)
  have f2_0 : (a) / 128 % 32 = 0 := z1
  have f2_1 : (bits .or .u32 (a) (rd * 128)) / 128 % 32 = rd := or_r p0 c1 7 5 f2_0 (g_15 rd b_rd)
  have f2_2 : (bits .or .u32 (bits .or .u32 (a) (rd * 128)) (putT im 1 32 32768)) / 128 % 32 = rd := or_l p1 c2 7 5 f2_1 (g_154 im )
  have f2_3 : (bits .or .u32 (bits .or .u32 (bits .or .u32 (a) (rd * 128)) (putT im 1 32 32768)) (cs * 1048576 % 4294967296)) / 128 % 32 = rd := or_l p2 c3 7 5 f2_2 (g_148 cs b_cs)
  have f3_0 : (a) / 32768 % 32 = 0 := z2
  have f3_1 : (bits .or .u32 (a) (rd * 128)) / 32768 % 32 = 0 := or_l p0 c1 15 5 f3_0 (g_18 rd b_rd)
  have f3_2 : (bits .or .u32 (bits .or .u32 (a) (rd * 128)) (putT im 1 32 32768)) / 32768 % 32 = im / 1 % 32 := or_r p1 c2 15 5 f3_1 (g_155 im )
  have f3_3 : (bits .or .u32 (bits .or .u32 (bits .or .u32 (a) (rd * 128)) (putT im 1 32 32768)) (cs * 1048576 % 4294967296)) / 32768 % 32 = im / 1 % 32 := or_l p2 c3 15 5 f3_2 (g_149 cs b_cs)
  have f4_0 : (a) / 1048576 % 4096 = 0 := z3
  have f4_1 : (bits .or .u32 (a) (rd * 128)) / 1048576 % 4096 = 0 := or_l p0 c1 20 12 f4_0 (g_29 rd b_rd)
  have f4_2 : (bits .or .u32 (bits .or .u32 (a) (rd * 128)) (putT im 1 32 32768)) / 1048576 % 4096 = 0 := or_l p1 c2 20 12 f4_1 (g_156 im )
  have f4_3 : (bits .or .u32 (bits .or .u32 (bits .or .u32 (a) (rd * 128)) (putT im 1 32 32768)) (cs * 1048576 % 4294967296)) / 1048576 % 4096 = cs := or_r p2 c3 20 12 f4_2 (g_150 cs b_cs)
  exact ⟨p3, f0_3, f1_3, f2_3, f3_3, f4_3⟩
theorem parf_11 (a r1 r2 rd : Int) (ha : P32 a) (b_r1 : 0 ≤ r1 ∧ r1 < 32) (b_r2 : 0 ≤ r2 ∧ r2 < 32) (b_rd : 0 ≤ rd ∧ rd < 32) (z1 : (a) / 128 % 32 = 0) (z2 : (a) / 32768 % 32 = 0) (z3 : (a) / 1048576 % 32 = 0) : P32 (bits .or .u32 (bits .or .u32 (bits .or .u32 (a) (rd * 128)) (r1 * 32768)) (r2 * 1048576)) ∧ (bits .or .u32 (bits .or .u32 (bits .or .u32 (a) (rd * 128)) (r1 * 32768)) (r2 * 1048576)) / 1 % 128 = (a) / 1 % 128 ∧ (bits .or .u32 (bits .or .u32 (bits .or .u32 (a) (rd * 128)) (r1 * 32768)) (r2 * 1048576)) / 4096 % 8 = (a) / 4096 % 8 ∧ (bits .or .u32 (bits .or .u32 (bits .or .u32 (a) (rd * 128)) (r1 * 32768)) (r2 * 1048576)) / 33554432 % 128 = (a) / 33554432 % 128 ∧ (bits .or .u32 (bits .or .u32 (bits .or .u32 (a) (rd * 128)) (r1 * 32768)) (r2 * 1048576)) / 128 % 32 = rd ∧ (bits .or .u32 (bits .or .u32 (bits .or .u32 (a) (rd * 128)) (r1 * 32768)) (r2 * 1048576)) / 32768 % 32 = r1 ∧ (bits .or .u32 (bits .or .u32 (bits .or .u32 (a) (rd * 128)) (r1 * 32768)) (r2 * 1048576)) / 1048576 % 32 = r2 := by
  have p0 : P32 (a) := ha
  have p1 : P32 (bits .or .u32 (a) (rd * 128)) := or_P32 _ _
  have p2 : P32 (bits .or .u32 (bits .or .u32 (a) (rd * 128)) (r1 * 32768)) := or_P32 _ _
  have p3 : P32 (bits .or .u32 (bits .or .u32 (bits .or .u32 (a) (rd * 128)) (r1 * 32768)) (r2 * 1048576)) := or_P32 _ _
  have c1 : P32 (rd * 128) := p_0 rd b_rd
  have c2 : P32 (r1 * 32768) := p_1 r1 b_r1
  have c3 : P32 (r2 * 1048576) := p_2 r2 b_r2
  have f0_0 : (a) / 1 % 128 = (a) / 1 % 128 := rfl
  have f0_1 : (bits .or .u32 (a) (rd * 128)) / 1 % 128 = (a) / 1 % 128 := or_l p0 c1 0 7 f0_0 (g_3 rd b_rd)
  have f0_2 : (bits .or .u32 (bits .or .u32 (a) (rd * 128)) (r1 * 32768)) / 1 % 128 = (a) / 1 % 128 := or_l p1 c2 0 7 f0_1 (g_4 r1 b_r1)
  have f0_3 : (bits .or .u32 (bits .or .u32 (bits .or .u32 (a) (rd * 128)) (r1 * 32768)) (r2 * 1048576)) / 1 % 128 = (a) / 1 % 128 := or_l p2 c3 0 7 f0_2 (g_5 r2 b_r2)
  have f1_0 : (a) / 4096 % 8 = (a) / 4096 % 8 := rfl
  have f1_1 : (bits .or .u32 (a) (rd * 128)) / 4096 % 8 = (a) / 4096 % 8 := or_l p0 c1 12 3 f1_0 (g_6 rd b_rd)
  have f1_2 : (bits .or .u32 (bits .or .u32 (a) (rd * 128)) (r1 * 32768)) / 4096 % 8 = (a) / 4096 % 8 := or_l p1 c2 12 3 f1_1 (g_7 r1 b_r1)
  have f1_3 : (bits .or .u32 (bits .or .u32 (bits .or .u32 (a) (rd * 128)) (r1 * 32768)) (r2 * 1048576)) / 4096 % 8 = (a) / 4096 % 8 := or_l p2 c3 12 3 f1_2 (g_8 r2 b_r2)
  have f2_0 : (a) / 33554432 % 128 = (a) / 33554432 % 128 := rfl
  have f2_1 : (bits .or .u32 (a) (rd * 128)) / 33554432 % 128 = (a) / 33554432 % 128 := or_l p0 c1 25 7 f2_0 (g_9 rd b_rd)
  have f2_2 : (bits .or .u32 (bits .or .u32 (a) (rd * 128)) (r1 * 32768)) / 33554432 % 128 = (a) / 33554432 % 128 := or_l p1 c2 25 7 f2_1 (g_10 r1 b_r1)
  have f2_3 : (bits .or .u32 (bits .or .u32 (bits .or .u32 (a) (rd * 128)) (r1 * 32768)) (r2 * 1048576)) / 33554432 % 128 = (a) / 33554432 % 128 := or_l p2 c3 25 7 f2_2 (g_11 r2 b_r2)
  have f3_0 : (a) / 128 % 32 = 0 := z1
  have f3_1 : (bits .or .u32 (a) (rd * 128)) / 128 % 32 = rd := or_r p0 c1 7 5 f3_0 (g_15 rd b_rd)
  have f3_2 : (bits .or .u32 (bits .or .u32 (a) (rd * 128)) (r1 * 32768)) / 128 % 32 = rd := or_l p1 c2 7 5 f3_1 (g_16 r1 b_r1)
  have f3_3 : (bits .or .u32 (bits .or .u32 (bits .or .u32 (a) (rd * 128)) (r1 * 32768)) (r2 * 1048576)) / 128 % 32 = rd := or_l p2 c3 7 5 f3_2 (g_17 r2 b_r2)
  have f4_0 : (a) / 32768 % 32 = 0 := z2
  have f4_1 : (bits .or .u32 (a) (rd * 128)) / 32768 % 32 = 0 := or_l p0 c1 15 5 f4_0 (g_18 rd b_rd)
  have f4_2 : (bits .or .u32 (bits .or .u32 (a) (rd * 128)) (r1 * 32768)) / 32768 % 32 = r1 := or_r p1 c2 15 5 f4_1 (g_19 r1 b_r1)
  have f4_3 : (bits .or .u32 (bits .or .u32 (bits .or .u32 (a) (rd * 128)) (r1 * 32768)) (r2 * 1048576)) / 32768 % 32 = r1 := or_l p2 c3 15 5 f4_2 (g_20 r2 b_r2)
  have f5_0 : (a) / 1048576 % 32 = 0 := z3
  have f5_1 : (bits .or .u32 (a) (rd * 128)) / 1048576 % 32 = 0 := or_l p0 c1 20 5 f5_0 (g_21 rd b_rd)
  have f5_2 : (bits .or .u32 (bits .or .u32 (a) (rd * 128)) (r1 * 32768)) / 1048576 % 32 = 0 := or_l p1 c2 20 5 f5_1 (g_22 r1 b_r1)
  have f5_3 : (bits .or .u32 (bits .or .u32 (bits .or .u32 (a) (rd * 128)) (r1 * 32768)) (r2 * 1048576)) / 1048576 % 32 = r2 := or_r p2 c3 20 5 f5_2 (g_23 r2 b_r2)
  exact ⟨p3, f0_3, f1_3, f2_3, f3_3, f4_3, f5_3⟩
/-- the parcel of an instruction, by its row -/
def parV (k a : Int) (x : T7) : Int :=
  if k = 0 then bits .or .u32 (bits .or .u32 (bits .or .u32 (a) (x.2.1 * 128)) (x.2.2.1 * 32768)) (x.2.2.2.1 * 1048576)
  else if k = 1 then bits .or .u32 (bits .or .u32 (bits .or .u32 (a) (x.2.1 * 128)) (x.2.2.1 * 32768)) (putT x.2.2.2.2.1 1 4096 1048576)
  else if k = 2 then bits .or .u32 (bits .or .u32 (bits .or .u32 (a) (x.2.1 * 128)) (x.2.2.1 * 32768)) (putT x.2.2.2.2.1 1 64 1048576)
  else if k = 3 then bits .or .u32 (bits .or .u32 (bits .or .u32 (a) (x.2.1 * 128)) (x.2.2.1 * 32768)) (putT x.2.2.2.2.1 1 32 1048576)
  else if k = 4 then bits .or .u32 (bits .or .u32 (bits .or .u32 (bits .or .u32 (a) (x.2.2.1 * 32768)) (x.2.2.2.1 * 1048576)) (putT x.2.2.2.2.1 32 128 33554432)) (putT x.2.2.2.2.1 1 32 128)
  else if k = 5 then bits .or .u32 (bits .or .u32 (bits .or .u32 (bits .or .u32 (bits .or .u32 (bits .or .u32 (a) (x.2.2.1 * 32768)) (x.2.2.2.1 * 1048576)) (putT x.2.2.2.2.1 4096 2 2147483648)) (putT x.2.2.2.2.1 2048 2 128)) (putT x.2.2.2.2.1 32 64 33554432)) (putT x.2.2.2.2.1 2 16 256)
  else if k = 6 then bits .or .u32 (bits .or .u32 (a) (x.2.1 * 128)) (putT x.2.2.2.2.1 4096 1048576 4096)
  else if k = 7 then bits .or .u32 (bits .or .u32 (bits .or .u32 (bits .or .u32 (bits .or .u32 (a) (x.2.1 * 128)) (putT x.2.2.2.2.1 1048576 2 2147483648)) (putT x.2.2.2.2.1 4096 256 4096)) (putT x.2.2.2.2.1 2048 2 1048576)) (putT x.2.2.2.2.1 2 1024 2097152)
  else if k = 8 then bits .or .u32 (bits .or .u32 (bits .or .u32 (a) (x.2.1 * 128)) (x.2.2.1 * 32768)) (x.2.2.2.2.2.1 * 1048576 % 4294967296)
  else if k = 9 then bits .or .u32 (bits .or .u32 (bits .or .u32 (a) (x.2.1 * 128)) (putT x.2.2.2.2.1 1 32 32768)) (x.2.2.2.2.2.1 * 1048576 % 4294967296)
  else if k = 11 then bits .or .u32 (bits .or .u32 (bits .or .u32 (a) (x.2.1 * 128)) (x.2.2.1 * 32768)) (x.2.2.2.1 * 1048576)
  else a
theorem rz_0 : ∀ r ∈ rowsL, r.2.1 = 0 → (0 ≤ r.2.2.2 ∧ r.2.2.2 < 4294967296) ∧ (r.2.2.1 = 4261441663 ∨ r.2.2.1 = 4160778367 ∨ r.2.2.1 = 4193284223) ∧ (r.2.2.2) / 128 % 32 = 0 ∧ (r.2.2.2) / 32768 % 32 = 0 ∧ (r.2.2.2) / 1048576 % 32 = 0 := by decide +kernel
theorem rz_1 : ∀ r ∈ rowsL, r.2.1 = 1 → (0 ≤ r.2.2.2 ∧ r.2.2.2 < 4294967296) ∧ (r.2.2.1 = 28799) ∧ (r.2.2.2) / 128 % 32 = 0 ∧ (r.2.2.2) / 32768 % 32 = 0 ∧ (r.2.2.2) / 1048576 % 4096 = 0 := by decide +kernel
theorem rz_2 : ∀ r ∈ rowsL, r.2.1 = 2 → (0 ≤ r.2.2.2 ∧ r.2.2.2 < 4294967296) ∧ (r.2.2.1 = 4227887231) ∧ (r.2.2.2) / 128 % 32 = 0 ∧ (r.2.2.2) / 32768 % 32 = 0 ∧ (r.2.2.2) / 1048576 % 64 = 0 := by decide +kernel
theorem rz_3 : ∀ r ∈ rowsL, r.2.1 = 3 → (0 ≤ r.2.2.2 ∧ r.2.2.2 < 4294967296) ∧ (r.2.2.1 = 4261441663) ∧ (r.2.2.2) / 128 % 32 = 0 ∧ (r.2.2.2) / 32768 % 32 = 0 ∧ (r.2.2.2) / 1048576 % 32 = 0 := by decide +kernel
theorem rz_4 : ∀ r ∈ rowsL, r.2.1 = 4 → (0 ≤ r.2.2.2 ∧ r.2.2.2 < 4294967296) ∧ (r.2.2.1 = 28799) ∧ (r.2.2.2) / 32768 % 32 = 0 ∧ (r.2.2.2) / 1048576 % 32 = 0 ∧ (r.2.2.2) / 33554432 % 128 = 0 ∧ (r.2.2.2) / 128 % 32 = 0 := by decide +kernel
theorem rz_5 : ∀ r ∈ rowsL, r.2.1 = 5 → (0 ≤ r.2.2.2 ∧ r.2.2.2 < 4294967296) ∧ (r.2.2.1 = 28799) ∧ (r.2.2.2) / 32768 % 32 = 0 ∧ (r.2.2.2) / 1048576 % 32 = 0 ∧ (r.2.2.2) / 2147483648 % 2 = 0 ∧ (r.2.2.2) / 128 % 2 = 0 ∧ (r.2.2.2) / 33554432 % 64 = 0 ∧ (r.2.2.2) / 256 % 16 = 0 := by decide +kernel
theorem rz_6 : ∀ r ∈ rowsL, r.2.1 = 6 → (0 ≤ r.2.2.2 ∧ r.2.2.2 < 4294967296) ∧ (r.2.2.1 = 127) ∧ (r.2.2.2) / 128 % 32 = 0 ∧ (r.2.2.2) / 4096 % 1048576 = 0 := by decide +kernel
theorem rz_7 : ∀ r ∈ rowsL, r.2.1 = 7 → (0 ≤ r.2.2.2 ∧ r.2.2.2 < 4294967296) ∧ (r.2.2.1 = 127) ∧ (r.2.2.2) / 128 % 32 = 0 ∧ (r.2.2.2) / 2147483648 % 2 = 0 ∧ (r.2.2.2) / 4096 % 256 = 0 ∧ (r.2.2.2) / 1048576 % 2 = 0 ∧ (r.2.2.2) / 2097152 % 1024 = 0 := by decide +kernel
theorem rz_8 : ∀ r ∈ rowsL, r.2.1 = 8 → (0 ≤ r.2.2.2 ∧ r.2.2.2 < 4294967296) ∧ (r.2.2.1 = 28799) ∧ (r.2.2.2) / 128 % 32 = 0 ∧ (r.2.2.2) / 32768 % 32 = 0 ∧ (r.2.2.2) / 1048576 % 4096 = 0 := by decide +kernel
theorem rz_9 : ∀ r ∈ rowsL, r.2.1 = 9 → (0 ≤ r.2.2.2 ∧ r.2.2.2 < 4294967296) ∧ (r.2.2.1 = 28799) ∧ (r.2.2.2) / 128 % 32 = 0 ∧ (r.2.2.2) / 32768 % 32 = 0 ∧ (r.2.2.2) / 1048576 % 4096 = 0 := by decide +kernel
theorem rz_11 : ∀ r ∈ rowsL, r.2.1 = 11 → (0 ≤ r.2.2.2 ∧ r.2.2.2 < 4294967296) ∧ (r.2.2.1 = 4261445631) ∧ (r.2.2.2) / 128 % 32 = 0 ∧ (r.2.2.2) / 32768 % 32 = 0 ∧ (r.2.2.2) / 1048576 % 32 = 0 := by decide +kernel
theorem rz_10 : ∀ r ∈ rowsL, r.2.1 = 10 → 0 ≤ r.2.2.2 ∧ r.2.2.2 < 4294967296 := by decide +kernel
def apartB (r s : R4) : Bool := decide (r = s) || decide ((r.2.2.1.toNat &&& s.2.2.1.toNat) &&& r.2.2.2.toNat ≠ (r.2.2.1.toNat &&& s.2.2.1.toNat) &&& s.2.2.2.toNat)
theorem rows_apart : (rowsL.all fun r => rowsL.all fun s => apartB r s) = true := by decide +kernel
theorem rows_u32 : ∀ r ∈ rowsL, (0 ≤ r.2.2.1 ∧ r.2.2.1 < 4294967296) ∧ (0 ≤ r.2.2.2 ∧ r.2.2.2 < 4294967296) := by decide +kernel
/-- one row at most meets a parcel -/
theorem meets_one {p : Int} (hp : P32 p) {r s : R4} (hr : r ∈ rowsL) (hs : s ∈ rowsL) (mr : meetsF p r = true) (ms : meetsF p s = true) : r = s := by
  have h := List.all_eq_true.1 (List.all_eq_true.1 rows_apart r hr) s hs
  unfold apartB at h
  simp only [Bool.or_eq_true, decide_eq_true_iff] at h
  rcases h with h | h
  · exact h
  · exfalso
    rw [← meets_is hp (List.all_eq_true.1 rows_okRow r hr)] at mr
    rw [← meets_is hp (List.all_eq_true.1 rows_okRow s hs)] at ms
    unfold meets at mr ms
    rw [beq_iff_eq, and_u32 hp (rows_u32 r hr).1] at mr
    rw [beq_iff_eq, and_u32 hp (rows_u32 s hs).1] at ms
    apply h
    rw [← mr, ← ms]
    simp only [Int.toNat_natCast]
    apply Nat.eq_of_testBit_eq
    intro i
    simp only [Nat.testBit_and]
    cases p.toNat.testBit i <;> cases r.2.2.1.toNat.testBit i <;> cases s.2.2.1.toNat.testBit i <;> rfl
theorem row_found {p : Int} (hp : P32 p) {r : R4} (hr : r ∈ rowsL) (mr : meetsF p r = true) : rowOf p = some r := by
  cases h : rowOf p with
  | none =>
    exfalso
    unfold rowOf at h
    rw [List.find?_eq_none] at h
    refine h r (List.mem_filter.2 ⟨hr, ?_⟩) mr
    unfold meetsF at mr
    simp only [Bool.and_eq_true, decide_eq_true_iff] at mr
    simp [mr.1]
  | some s =>
    obtain ⟨h1, h2⟩ := row_in h
    rw [meets_one hp hr h1 mr h2]
theorem dec_found {p : Int} (hp : P32 p) {r : R4} (hr : r ∈ rowsL) (mr : meetsF p r = true) : decT p = fillT p r.1 r.2.1 := by
  rw [← ref_dec hp, ref_rF hp, row_found hp hr mr, rF_some]
theorem f9_rows : ∀ r ∈ rowsL, r.2.2.1 = 4193284223 → lrB r.1 = true := by decide +kernel
theorem par_dec_0 (op m a rd r1 r2 im cs sz : Int) (hr : (op, 0, m, a) ∈ rowsL) (h : rowOK (op, 0, m, a) (op, rd, r1, r2, im, cs, sz)) : P32 (parV 0 a (op, rd, r1, r2, im, cs, sz)) ∧ decT (parV 0 a (op, rd, r1, r2, im, cs, sz)) = (op, rd, r1, r2, im, cs, sz) := by
  obtain ⟨-, hf, hl⟩ := h
  have hz := rz_0 _ hr rfl
  have hlr := lr_rows _ hr
  simp only at hz hl hlr
  simp [formOK] at hf
  obtain ⟨ha, hm, z1, z2, z3⟩ := hz
  obtain ⟨b1, b2, b3, b4, b5, rfl⟩ := hf
  obtain ⟨hP, f0, f1, f2, f3, f4, f5, f6⟩ := parf_0 a r1 r2 rd ha b2 b3 b1 z1 z2 z3
  have e : parV 0 a (op, rd, r1, r2, im, cs, 4) = bits .or .u32 (bits .or .u32 (bits .or .u32 (a) (rd * 128)) (r1 * 32768)) (r2 * 1048576) := rfl
  rw [e]
  generalize bits .or .u32 (bits .or .u32 (bits .or .u32 (a) (rd * 128)) (r1 * 32768)) (r2 * 1048576) = p at *
  simp only [Int.ediv_one] at f0 f1 f2 f3 f4 f5 f6
  have hmt : meetsF p (op, 0, m, a) = true := by
    unfold meetsF
    rcases hm with rfl | rfl | rfl
    · simp [f0, f1, f2, f3, f4, f5, f6]
    · simp [f0, f1, f2, f3, f4, f5, f6]
    · have hr2 : r2 = 0 := hl (f9_rows _ hr rfl)
      simp [f0, f1, f2, f3, f4, f5, f6, z3, hr2]
  refine ⟨hP, ?_⟩
  rw [dec_found hP hr hmt]
  show fillT p op 0 = _
  clear hmt hr hl hlr hm
  simp [fillT, sgn_12, sgn_20, f0, f1, f2, f3, f4, f5, f6]
  all_goals (first | (simp [b1, b4, b5]; done) | omega)
theorem par_dec_1 (op m a rd r1 r2 im cs sz : Int) (hr : (op, 1, m, a) ∈ rowsL) (h : rowOK (op, 1, m, a) (op, rd, r1, r2, im, cs, sz)) : P32 (parV 1 a (op, rd, r1, r2, im, cs, sz)) ∧ decT (parV 1 a (op, rd, r1, r2, im, cs, sz)) = (op, rd, r1, r2, im, cs, sz) := by
  obtain ⟨-, hf, hl⟩ := h
  have hz := rz_1 _ hr rfl
  have hlr := lr_rows _ hr
  simp only at hz hl hlr
  simp [formOK] at hf
  obtain ⟨ha, hm, z1, z2, z3⟩ := hz
  obtain ⟨b1, b2, b3, b4, b5, rfl⟩ := hf
  obtain ⟨hP, f0, f1, f2, f3, f4⟩ := parf_1 a im r1 rd ha b2 b1 z1 z2 z3
  have e : parV 1 a (op, rd, r1, r2, im, cs, 4) = bits .or .u32 (bits .or .u32 (bits .or .u32 (a) (rd * 128)) (r1 * 32768)) (putT im 1 4096 1048576) := rfl
  rw [e]
  generalize bits .or .u32 (bits .or .u32 (bits .or .u32 (a) (rd * 128)) (r1 * 32768)) (putT im 1 4096 1048576) = p at *
  simp only [Int.ediv_one] at f0 f1 f2 f3 f4
  have hmt : meetsF p (op, 1, m, a) = true := by
    unfold meetsF
    subst hm
    simp [f0, f1, f2, f3, f4]
  refine ⟨hP, ?_⟩
  rw [dec_found hP hr hmt]
  show fillT p op 1 = _
  clear hmt hr hl hlr hm
  simp [fillT, sgn_12, sgn_20, f0, f1, f2, f3, f4]
  all_goals (first | (simp [b1, b4, b5]; done) | omega)
theorem par_dec_2 (op m a rd r1 r2 im cs sz : Int) (hr : (op, 2, m, a) ∈ rowsL) (h : rowOK (op, 2, m, a) (op, rd, r1, r2, im, cs, sz)) : P32 (parV 2 a (op, rd, r1, r2, im, cs, sz)) ∧ decT (parV 2 a (op, rd, r1, r2, im, cs, sz)) = (op, rd, r1, r2, im, cs, sz) := by
  obtain ⟨-, hf, hl⟩ := h
  have hz := rz_2 _ hr rfl
  have hlr := lr_rows _ hr
  simp only at hz hl hlr
  simp [formOK] at hf
  obtain ⟨ha, hm, z1, z2, z3⟩ := hz
  obtain ⟨b1, b2, b3, b4, b5, rfl⟩ := hf
  obtain ⟨hP, f0, f1, f2, f3, f4, f5⟩ := parf_2 a im r1 rd ha b2 b1 z1 z2 z3
  have e : parV 2 a (op, rd, r1, r2, im, cs, 4) = bits .or .u32 (bits .or .u32 (bits .or .u32 (a) (rd * 128)) (r1 * 32768)) (putT im 1 64 1048576) := rfl
  rw [e]
  generalize bits .or .u32 (bits .or .u32 (bits .or .u32 (a) (rd * 128)) (r1 * 32768)) (putT im 1 64 1048576) = p at *
  simp only [Int.ediv_one] at f0 f1 f2 f3 f4 f5
  have hmt : meetsF p (op, 2, m, a) = true := by
    unfold meetsF
    subst hm
    simp [f0, f1, f2, f3, f4, f5]
  refine ⟨hP, ?_⟩
  rw [dec_found hP hr hmt]
  show fillT p op 2 = _
  clear hmt hr hl hlr hm
  simp [fillT, sgn_12, sgn_20, f0, f1, f2, f3, f4, f5]
  all_goals (first | (simp [b1, b4, b5]; done) | omega)
theorem par_dec_3 (op m a rd r1 r2 im cs sz : Int) (hr : (op, 3, m, a) ∈ rowsL) (h : rowOK (op, 3, m, a) (op, rd, r1, r2, im, cs, sz)) : P32 (parV 3 a (op, rd, r1, r2, im, cs, sz)) ∧ decT (parV 3 a (op, rd, r1, r2, im, cs, sz)) = (op, rd, r1, r2, im, cs, sz) := by
  obtain ⟨-, hf, hl⟩ := h
  have hz := rz_3 _ hr rfl
  have hlr := lr_rows _ hr
  simp only at hz hl hlr
  simp [formOK] at hf
  obtain ⟨ha, hm, z1, z2, z3⟩ := hz
  obtain ⟨b1, b2, b3, b4, b5, rfl⟩ := hf
  obtain ⟨hP, f0, f1, f2, f3, f4, f5⟩ := parf_3 a im r1 rd ha b2 b1 z1 z2 z3
  have e : parV 3 a (op, rd, r1, r2, im, cs, 4) = bits .or .u32 (bits .or .u32 (bits .or .u32 (a) (rd * 128)) (r1 * 32768)) (putT im 1 32 1048576) := rfl
  rw [e]
  generalize bits .or .u32 (bits .or .u32 (bits .or .u32 (a) (rd * 128)) (r1 * 32768)) (putT im 1 32 1048576) = p at *
  simp only [Int.ediv_one] at f0 f1 f2 f3 f4 f5
  have hmt : meetsF p (op, 3, m, a) = true := by
    unfold meetsF
    subst hm
    simp [f0, f1, f2, f3, f4, f5]
  refine ⟨hP, ?_⟩
  rw [dec_found hP hr hmt]
  show fillT p op 3 = _
  clear hmt hr hl hlr hm
  simp [fillT, sgn_12, sgn_20, f0, f1, f2, f3, f4, f5]
  all_goals (first | (simp [b1, b4, b5]; done) | omega)
theorem par_dec_4 (op m a rd r1 r2 im cs sz : Int) (hr : (op, 4, m, a) ∈ rowsL) (h : rowOK (op, 4, m, a) (op, rd, r1, r2, im, cs, sz)) : P32 (parV 4 a (op, rd, r1, r2, im, cs, sz)) ∧ decT (parV 4 a (op, rd, r1, r2, im, cs, sz)) = (op, rd, r1, r2, im, cs, sz) := by
  obtain ⟨-, hf, hl⟩ := h
  have hz := rz_4 _ hr rfl
  have hlr := lr_rows _ hr
  simp only at hz hl hlr
  simp [formOK] at hf
  obtain ⟨ha, hm, z1, z2, z3, z4⟩ := hz
  obtain ⟨b1, b2, b3, b4, b5, rfl⟩ := hf
  obtain ⟨hP, f0, f1, f2, f3, f4, f5⟩ := parf_4 a im r1 r2 ha b2 b3 z1 z2 z3 z4
  have e : parV 4 a (op, rd, r1, r2, im, cs, 4) = bits .or .u32 (bits .or .u32 (bits .or .u32 (bits .or .u32 (a) (r1 * 32768)) (r2 * 1048576)) (putT im 32 128 33554432)) (putT im 1 32 128) := rfl
  rw [e]
  generalize bits .or .u32 (bits .or .u32 (bits .or .u32 (bits .or .u32 (a) (r1 * 32768)) (r2 * 1048576)) (putT im 32 128 33554432)) (putT im 1 32 128) = p at *
  simp only [Int.ediv_one] at f0 f1 f2 f3 f4 f5
  have hmt : meetsF p (op, 4, m, a) = true := by
    unfold meetsF
    subst hm
    simp [f0, f1, f2, f3, f4, f5]
  refine ⟨hP, ?_⟩
  rw [dec_found hP hr hmt]
  show fillT p op 4 = _
  clear hmt hr hl hlr hm
  simp [fillT, sgn_12, sgn_20, f0, f1, f2, f3, f4, f5]
  all_goals (first | (simp [b1, b4, b5]; done) | omega)
theorem par_dec_5 (op m a rd r1 r2 im cs sz : Int) (hr : (op, 5, m, a) ∈ rowsL) (h : rowOK (op, 5, m, a) (op, rd, r1, r2, im, cs, sz)) : P32 (parV 5 a (op, rd, r1, r2, im, cs, sz)) ∧ decT (parV 5 a (op, rd, r1, r2, im, cs, sz)) = (op, rd, r1, r2, im, cs, sz) := by
  obtain ⟨-, hf, hl⟩ := h
  have hz := rz_5 _ hr rfl
  have hlr := lr_rows _ hr
  simp only at hz hl hlr
  simp [formOK] at hf
  obtain ⟨ha, hm, z1, z2, z3, z4, z5, z6⟩ := hz
  obtain ⟨b1, b2, b3, b4, b5, rfl⟩ := hf
  obtain ⟨hP, f0, f1, f2, f3, f4, f5, f6, f7⟩ := parf_5 a im r1 r2 ha b2 b3 z1 z2 z3 z4 z5 z6
  have e : parV 5 a (op, rd, r1, r2, im, cs, 4) = bits .or .u32 (bits .or .u32 (bits .or .u32 (bits .or .u32 (bits .or .u32 (bits .or .u32 (a) (r1 * 32768)) (r2 * 1048576)) (putT im 4096 2 2147483648)) (putT im 2048 2 128)) (putT im 32 64 33554432)) (putT im 2 16 256) := rfl
  rw [e]
  generalize bits .or .u32 (bits .or .u32 (bits .or .u32 (bits .or .u32 (bits .or .u32 (bits .or .u32 (a) (r1 * 32768)) (r2 * 1048576)) (putT im 4096 2 2147483648)) (putT im 2048 2 128)) (putT im 32 64 33554432)) (putT im 2 16 256) = p at *
  simp only [Int.ediv_one] at f0 f1 f2 f3 f4 f5 f6 f7
  have hmt : meetsF p (op, 5, m, a) = true := by
    unfold meetsF
    subst hm
    simp [f0, f1, f2, f3, f4, f5, f6, f7]
  refine ⟨hP, ?_⟩
  rw [dec_found hP hr hmt]
  show fillT p op 5 = _
  clear hmt hr hl hlr hm
  simp [fillT, sgn_12, sgn_20, f0, f1, f2, f3, f4, f5, f6, f7]
  all_goals (first | (simp [b1, b4, b5]; done) | omega)
theorem par_dec_6 (op m a rd r1 r2 im cs sz : Int) (hr : (op, 6, m, a) ∈ rowsL) (h : rowOK (op, 6, m, a) (op, rd, r1, r2, im, cs, sz)) : P32 (parV 6 a (op, rd, r1, r2, im, cs, sz)) ∧ decT (parV 6 a (op, rd, r1, r2, im, cs, sz)) = (op, rd, r1, r2, im, cs, sz) := by
  obtain ⟨-, hf, hl⟩ := h
  have hz := rz_6 _ hr rfl
  have hlr := lr_rows _ hr
  simp only at hz hl hlr
  simp [formOK] at hf
  obtain ⟨ha, hm, z1, z2⟩ := hz
  obtain ⟨b1, b2, b3, b4, b5, rfl⟩ := hf
  obtain ⟨hP, f0, f1, f2⟩ := parf_6 a im rd ha b1 z1 z2
  have e : parV 6 a (op, rd, r1, r2, im, cs, 4) = bits .or .u32 (bits .or .u32 (a) (rd * 128)) (putT im 4096 1048576 4096) := rfl
  rw [e]
  generalize bits .or .u32 (bits .or .u32 (a) (rd * 128)) (putT im 4096 1048576 4096) = p at *
  simp only [Int.ediv_one] at f0 f1 f2
  have hmt : meetsF p (op, 6, m, a) = true := by
    unfold meetsF
    subst hm
    simp [f0, f1, f2]
  refine ⟨hP, ?_⟩
  rw [dec_found hP hr hmt]
  show fillT p op 6 = _
  clear hmt hr hl hlr hm
  simp [fillT, sgn_12, sgn_20, f0, f1, f2]
  all_goals (first | (simp [b1, b4, b5]; done) | omega)
theorem par_dec_7 (op m a rd r1 r2 im cs sz : Int) (hr : (op, 7, m, a) ∈ rowsL) (h : rowOK (op, 7, m, a) (op, rd, r1, r2, im, cs, sz)) : P32 (parV 7 a (op, rd, r1, r2, im, cs, sz)) ∧ decT (parV 7 a (op, rd, r1, r2, im, cs, sz)) = (op, rd, r1, r2, im, cs, sz) := by
  obtain ⟨-, hf, hl⟩ := h
  have hz := rz_7 _ hr rfl
  have hlr := lr_rows _ hr
  simp only at hz hl hlr
  simp [formOK] at hf
  obtain ⟨ha, hm, z1, z2, z3, z4, z5⟩ := hz
  obtain ⟨b1, b2, b3, b4, b5, rfl⟩ := hf
  obtain ⟨hP, f0, f1, f2, f3, f4, f5⟩ := parf_7 a im rd ha b1 z1 z2 z3 z4 z5
  have e : parV 7 a (op, rd, r1, r2, im, cs, 4) = bits .or .u32 (bits .or .u32 (bits .or .u32 (bits .or .u32 (bits .or .u32 (a) (rd * 128)) (putT im 1048576 2 2147483648)) (putT im 4096 256 4096)) (putT im 2048 2 1048576)) (putT im 2 1024 2097152) := rfl
  rw [e]
  generalize bits .or .u32 (bits .or .u32 (bits .or .u32 (bits .or .u32 (bits .or .u32 (a) (rd * 128)) (putT im 1048576 2 2147483648)) (putT im 4096 256 4096)) (putT im 2048 2 1048576)) (putT im 2 1024 2097152) = p at *
  simp only [Int.ediv_one] at f0 f1 f2 f3 f4 f5
  have hmt : meetsF p (op, 7, m, a) = true := by
    unfold meetsF
    subst hm
    simp [f0, f1, f2, f3, f4, f5]
  refine ⟨hP, ?_⟩
  rw [dec_found hP hr hmt]
  show fillT p op 7 = _
  clear hmt hr hl hlr hm
  simp [fillT, sgn_12, sgn_20, f0, f1, f2, f3, f4, f5]
  all_goals (first | (simp [b1, b4, b5]; done) | omega)
theorem par_dec_8 (op m a rd r1 r2 im cs sz : Int) (hr : (op, 8, m, a) ∈ rowsL) (h : rowOK (op, 8, m, a) (op, rd, r1, r2, im, cs, sz)) : P32 (parV 8 a (op, rd, r1, r2, im, cs, sz)) ∧ decT (parV 8 a (op, rd, r1, r2, im, cs, sz)) = (op, rd, r1, r2, im, cs, sz) := by
  obtain ⟨-, hf, hl⟩ := h
  have hz := rz_8 _ hr rfl
  have hlr := lr_rows _ hr
  simp only at hz hl hlr
  simp [formOK] at hf
  obtain ⟨ha, hm, z1, z2, z3⟩ := hz
  obtain ⟨b1, b2, b3, b4, b5, rfl⟩ := hf
  obtain ⟨hP, f0, f1, f2, f3, f4⟩ := parf_8 a cs r1 rd ha b5 b2 b1 z1 z2 z3
  have e : parV 8 a (op, rd, r1, r2, im, cs, 4) = bits .or .u32 (bits .or .u32 (bits .or .u32 (a) (rd * 128)) (r1 * 32768)) (cs * 1048576 % 4294967296) := rfl
  rw [e]
  generalize bits .or .u32 (bits .or .u32 (bits .or .u32 (a) (rd * 128)) (r1 * 32768)) (cs * 1048576 % 4294967296) = p at *
  simp only [Int.ediv_one] at f0 f1 f2 f3 f4
  have hmt : meetsF p (op, 8, m, a) = true := by
    unfold meetsF
    subst hm
    simp [f0, f1, f2, f3, f4]
  refine ⟨hP, ?_⟩
  rw [dec_found hP hr hmt]
  show fillT p op 8 = _
  clear hmt hr hl hlr hm
  simp [fillT, sgn_12, sgn_20, f0, f1, f2, f3, f4]
  all_goals (first | (simp [b1, b4, b5]; done) | omega)
theorem par_dec_9 (op m a rd r1 r2 im cs sz : Int) (hr : (op, 9, m, a) ∈ rowsL) (h : rowOK (op, 9, m, a) (op, rd, r1, r2, im, cs, sz)) : P32 (parV 9 a (op, rd, r1, r2, im, cs, sz)) ∧ decT (parV 9 a (op, rd, r1, r2, im, cs, sz)) = (op, rd, r1, r2, im, cs, sz) := by
  obtain ⟨-, hf, hl⟩ := h
  have hz := rz_9 _ hr rfl
  have hlr := lr_rows _ hr
  simp only at hz hl hlr
  simp [formOK] at hf
  obtain ⟨ha, hm, z1, z2, z3⟩ := hz
  obtain ⟨b1, b2, b3, b4, b5, rfl⟩ := hf
  obtain ⟨hP, f0, f1, f2, f3, f4⟩ := parf_9 a cs im rd ha b5 b1 z1 z2 z3
  have e : parV 9 a (op, rd, r1, r2, im, cs, 4) = bits .or .u32 (bits .or .u32 (bits .or .u32 (a) (rd * 128)) (putT im 1 32 32768)) (cs * 1048576 % 4294967296) := rfl
  rw [e]
  generalize bits .or .u32 (bits .or .u32 (bits .or .u32 (a) (rd * 128)) (putT im 1 32 32768)) (cs * 1048576 % 4294967296) = p at *
  simp only [Int.ediv_one] at f0 f1 f2 f3 f4
  have hmt : meetsF p (op, 9, m, a) = true := by
    unfold meetsF
    subst hm
    simp [f0, f1, f2, f3, f4]
  refine ⟨hP, ?_⟩
  rw [dec_found hP hr hmt]
  show fillT p op 9 = _
  clear hmt hr hl hlr hm
  simp [fillT, sgn_12, sgn_20, f0, f1, f2, f3, f4]
  all_goals (first | (simp [b1, b4, b5]; done) | omega)
theorem par_dec_11 (op m a rd r1 r2 im cs sz : Int) (hr : (op, 11, m, a) ∈ rowsL) (h : rowOK (op, 11, m, a) (op, rd, r1, r2, im, cs, sz)) : P32 (parV 11 a (op, rd, r1, r2, im, cs, sz)) ∧ decT (parV 11 a (op, rd, r1, r2, im, cs, sz)) = (op, rd, r1, r2, im, cs, sz) := by
  obtain ⟨-, hf, hl⟩ := h
  have hz := rz_11 _ hr rfl
  have hlr := lr_rows _ hr
  simp only at hz hl hlr
  simp [formOK] at hf
  obtain ⟨ha, hm, z1, z2, z3⟩ := hz
  obtain ⟨b1, b2, b3, b4, b5, rfl⟩ := hf
  obtain ⟨hP, f0, f1, f2, f3, f4, f5⟩ := parf_11 a r1 r2 rd ha b2 b3 (by omega) z1 z2 z3
  have e : parV 11 a (op, rd, r1, r2, im, cs, 4) = bits .or .u32 (bits .or .u32 (bits .or .u32 (a) (rd * 128)) (r1 * 32768)) (r2 * 1048576) := rfl
  rw [e]
  generalize bits .or .u32 (bits .or .u32 (bits .or .u32 (a) (rd * 128)) (r1 * 32768)) (r2 * 1048576) = p at *
  simp only [Int.ediv_one] at f0 f1 f2 f3 f4 f5
  have hmt : meetsF p (op, 11, m, a) = true := by
    unfold meetsF
    subst hm
    simp [f0, f1, f2, f3, f4, f5, z1, b1]
  refine ⟨hP, ?_⟩
  rw [dec_found hP hr hmt]
  show fillT p op 11 = _
  clear hmt hr hl hlr hm
  simp [fillT, sgn_12, sgn_20, f0, f1, f2, f3, f4, f5]
  all_goals (first | (simp [b1, b4, b5]; done) | omega)
end Go.Proofs.Ytogdifjdlkpehaa.PA
