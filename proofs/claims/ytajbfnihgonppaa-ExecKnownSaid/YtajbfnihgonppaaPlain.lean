/- Whole numbers of 64 bits: the machine's words for them. No program stands in here. -/
import Derived.Test.YtajbfnihgonppaaK1
import Derived.Test.YtajbfnihgonppaaWWords
import Derived.OpenShut
namespace Go.Proofs.Ytajbfnihgonppaa.Plain
open Go.RowKit Go.Proofs.YtajbfnihgonppaaW.PrintWords Go.Proofs.YtajbfnihgonppaaW.PrintLast Go.Proofs.YtajbfnihgonppaaW.PrintMore
set_option linter.all false

/-- a number of 64 bits -/
def N64 (a : Int) : Prop := 0 ≤ a ∧ a < 18446744073709551616
theorem N64.of {a : Int} (h : (Lit.int .u64 a).wf = true) : N64 a := by have := bounds_u64 h; unfold N64; omega
/-- it as signed -/
def sg (a : Int) : Int := if a < 9223372036854775808 then a else a - 18446744073709551616
theorem wrap64_sg {a : Int} (h : N64 a) : wrap64 a = sg a := by unfold N64 at h; unfold wrap64 sg; split <;> omega
theorem wu (n : Int) : IntKind.u64.wrap n = n % 18446744073709551616 := IntKind.wrap_u64 n
theorem w_id {a : Int} (h : N64 a) : a % 18446744073709551616 = a := by unfold N64 at h; omega

theorem bits64 (op : BinOp) (a b : Int) : bits op .u64 a b = ((match op with
    | .and => BitVec.ofInt 64 a &&& BitVec.ofInt 64 b
    | .or => BitVec.ofInt 64 a ||| BitVec.ofInt 64 b
    | .xor => BitVec.ofInt 64 a ^^^ BitVec.ofInt 64 b
    | _ => BitVec.ofInt 64 a &&& ~~~BitVec.ofInt 64 b : BitVec 64).toNat : Int) := by
  unfold bits
  simp only [IntKind.bits]
  rw [IntKind.wrap_u64]
  exact Int.emod_eq_of_lt (by omega) (by omega)
theorem toNat_ofInt {a : Int} (h : N64 a) : (BitVec.ofInt 64 a).toNat = a.toNat := by
  unfold N64 at h; rw [BitVec.toNat_ofInt]; omega
theorem and_low {a : Int} (h : N64 a) (k : Nat) (hk : k < 64) : bits .and .u64 a (2 ^ k - 1) = a % 2 ^ k := by
  rw [bits64]
  show (((BitVec.ofInt 64 a &&& BitVec.ofInt 64 (2 ^ k - 1)).toNat : Nat) : Int) = _
  have hp : (0 : Int) < 2 ^ k := Int.pow_pos (by decide)
  have h2 : ((2 : Int) ^ k - 1) = ((2 ^ k - 1 : Nat) : Int) := by
    have : 0 < 2 ^ k := Nat.pow_pos (by decide)
    rw [Int.natCast_sub (by omega)]; simp
  have h3 : (2 : Nat) ^ k < 2 ^ 64 := Nat.pow_lt_pow_right (by decide) hk
  rw [BitVec.toNat_and, toNat_ofInt h, h2, BitVec.toNat_ofInt]
  have h4 : (((2 ^ k - 1 : Nat) : Int) % ((2 ^ 64 : Nat) : Int)).toNat = 2 ^ k - 1 := by omega
  rw [h4, Nat.and_two_pow_sub_one_eq_mod]
  unfold N64 at h
  have : a = (a.toNat : Int) := by omega
  rw [this]
  simp
theorem and32 {a : Int} (h : N64 a) : bits .and .u64 a 4294967295 = a % 4294967296 := and_low h 32 (by decide)
theorem and63 {a : Int} (h : N64 a) : bits .and .u64 a 63 = a % 64 := and_low h 6 (by decide)
theorem and31 {a : Int} (h : N64 a) : bits .and .u64 a 31 = a % 32 := and_low h 5 (by decide)
theorem and1 {a : Int} (h : N64 a) : bits .and .u64 a 1 = a % 2 := and_low h 1 (by decide)

theorem nat_of {a : Int} (h : N64 a) : ((a.toNat : Nat) : Int) = a ∧ a.toNat < 18446744073709551616 := by unfold N64 at h; omega
theorem xor_top {a : Int} (h : N64 a) : bits .xor .u64 a 9223372036854775808 = if a < 9223372036854775808 then a + 9223372036854775808 else a - 9223372036854775808 := by
  rw [bits64]
  show (((BitVec.ofInt 64 a ^^^ BitVec.ofInt 64 9223372036854775808).toNat : Nat) : Int) = _
  obtain ⟨e, hl⟩ := nat_of h
  rw [BitVec.toNat_xor, toNat_ofInt h, show (BitVec.ofInt 64 9223372036854775808).toNat = 2 ^ 63 from rfl]
  have h1 := Nat.xor_mod_two_pow (a := a.toNat) (b := 2 ^ 63) (n := 63)
  have h2 := Nat.xor_div_two_pow (a := a.toNat) (b := 2 ^ 63) (n := 63)
  rw [Nat.mod_self, Nat.xor_zero] at h1
  rw [Nat.div_self (by decide)] at h2
  generalize a.toNat ^^^ 2 ^ 63 = X at *
  by_cases hc : a.toNat < 2 ^ 63
  · rw [Nat.div_eq_of_lt hc, Nat.zero_xor] at h2
    rw [if_pos (by omega)]
    omega
  · have : a.toNat / 2 ^ 63 = 1 := by omega
    rw [this] at h2
    rw [show (1 ^^^ 1 : Nat) = 0 from rfl] at h2
    rw [if_neg (by omega)]
    omega
theorem xor_lt {a b : Int} (ha : N64 a) (hb : N64 b) : (bits .xor .u64 a 9223372036854775808 < bits .xor .u64 b 9223372036854775808) ↔ sg a < sg b := by
  rw [xor_top ha, xor_top hb]; unfold N64 at ha hb; unfold sg
  split <;> split <;> omega

theorem or_low {x y : Int} (k : Nat) (hk : k < 64) (hx : N64 x) (h : x % 2 ^ k = 0) (h0 : 0 ≤ y) (h1 : y < 2 ^ k) : bits .or .u64 x y = x + y := by
  rw [bits64]
  show (((BitVec.ofInt 64 x ||| BitVec.ofInt 64 y).toNat : Nat) : Int) = _
  have h2 : (2 : Nat) ^ k < 2 ^ 64 := Nat.pow_lt_pow_right (by decide) hk
  have h2' : ((2 ^ k : Nat) : Int) = 2 ^ k := by simp
  have hy : N64 y := by unfold N64; omega
  obtain ⟨e, _⟩ := nat_of hx
  obtain ⟨f, _⟩ := nat_of hy
  rw [BitVec.toNat_or, toNat_ofInt hx, toNat_ofInt hy]
  have h3 : x.toNat % 2 ^ k = 0 := by
    have : ((x.toNat % 2 ^ k : Nat) : Int) = 0 := by rw [Int.natCast_emod, h2', e, h]
    omega
  have h4 : 2 ^ k * (x.toNat / 2 ^ k) = x.toNat := Nat.mul_div_cancel' (Nat.dvd_of_mod_eq_zero h3)
  have h5 := Nat.two_pow_add_eq_or_of_lt (i := k) (b := y.toNat) (by omega) (x.toNat / 2 ^ k)
  rw [h4] at h5
  omega

/-- a product by its halves -/
theorem halves {a b : Int} (ha : N64 a) (hb : N64 b) : ∃ p q r s : Int, a / 4294967296 * (b / 4294967296) = p ∧ a / 4294967296 * (b % 4294967296) = q ∧ a % 4294967296 * (b / 4294967296) = r ∧ a % 4294967296 * (b % 4294967296) = s ∧
    0 ≤ p ∧ p ≤ 18446744065119617025 ∧ 0 ≤ q ∧ q ≤ 18446744065119617025 ∧ 0 ≤ r ∧ r ≤ 18446744065119617025 ∧ 0 ≤ s ∧ s ≤ 18446744065119617025 ∧ a * b = p * 18446744073709551616 + (q + r) * 4294967296 + s := by
  unfold N64 at ha hb
  have key : ∀ x y : Int, 0 ≤ x → x ≤ 4294967295 → 0 ≤ y → y ≤ 4294967295 → 0 ≤ x * y ∧ x * y ≤ 18446744065119617025 := fun x y h0 h1 h2 h3 => ⟨Int.mul_nonneg h0 h2, by
    have := Int.mul_le_mul h1 h3 h2 (by decide : (0 : Int) ≤ 4294967295)
    omega⟩
  obtain ⟨A, hA⟩ : ∃ A, a / 4294967296 = A := ⟨_, rfl⟩
  obtain ⟨B, hB⟩ : ∃ B, a % 4294967296 = B := ⟨_, rfl⟩
  obtain ⟨C, hC⟩ : ∃ C, b / 4294967296 = C := ⟨_, rfl⟩
  obtain ⟨D, hD⟩ : ∃ D, b % 4294967296 = D := ⟨_, rfl⟩
  have e1 : a = A * 4294967296 + B := by omega
  have e2 : b = C * 4294967296 + D := by omega
  rw [hA, hB, hC, hD]
  have k1 := key A C (by omega) (by omega) (by omega) (by omega)
  have k2 := key A D (by omega) (by omega) (by omega) (by omega)
  have k3 := key B C (by omega) (by omega) (by omega) (by omega)
  have k4 := key B D (by omega) (by omega) (by omega) (by omega)
  refine ⟨_, _, _, _, rfl, rfl, rfl, rfl, k1.1, k1.2, k2.1, k2.2, k3.1, k3.2, k4.1, k4.2, ?_⟩
  rw [e1, e2]
  grind

/-- a quotient, and what is left, towards 0 -/
theorem tquot (A B : Int) (hB : B ≠ 0) : A.tdiv B * B + A.tmod B = A ∧ (0 < B → -B < A.tmod B ∧ A.tmod B < B) ∧ (B < 0 → B < A.tmod B ∧ A.tmod B < -B) ∧ (0 ≤ A → 0 ≤ A.tmod B) ∧ (A ≤ 0 → A.tmod B ≤ 0) ∧ (A.tdiv B).natAbs ≤ A.natAbs ∧ ((A.tdiv B).natAbs = A.natAbs → A = 0 ∨ B.natAbs = 1) := by
  have e := Int.mul_tdiv_add_tmod A B
  have h1 : (A.tmod B).natAbs = A.natAbs % B.natAbs := Int.natAbs_tmod A B
  have h2 : (A.tdiv B).natAbs = A.natAbs / B.natAbs := Int.natAbs_tdiv A B
  have hm : A.natAbs % B.natAbs < B.natAbs := Nat.mod_lt _ (by omega)
  have hs1 : 0 ≤ A → 0 ≤ A.tmod B := fun h => Int.tmod_nonneg B h
  have hs2 : A ≤ 0 → A.tmod B ≤ 0 := fun h => by
    have h0 : 0 ≤ (-A).tmod B := Int.tmod_nonneg B (by omega)
    rw [Int.neg_tmod] at h0
    omega
  refine ⟨by rw [Int.mul_comm]; exact e, by omega, by omega, hs1, hs2, ?_, ?_⟩
  · rw [h2]; exact Nat.div_le_self _ _
  · intro h
    rw [h2] at h
    by_cases hA : A = 0
    · exact .inl hA
    · right
      rcases Nat.lt_or_ge 1 B.natAbs with h3 | h3
      · have := Nat.div_lt_self (n := A.natAbs) (k := B.natAbs) (by omega) h3
        omega
      · omega
theorem mod_mul {M x x' y y' : Int} (h : x % M = x' % M) (k : y % M = y' % M) : (x * y) % M = (x' * y') % M := by
  rw [Int.mul_emod, h, k, ← Int.mul_emod]
theorem mod_add {M x x' y y' : Int} (h : x % M = x' % M) (k : y % M = y' % M) : (x + y) % M = (x' + y') % M := by
  rw [Int.add_emod, h, k, ← Int.add_emod]
/-- the low word, signed -/
def sw (n : Int) : Int := wrap32 n
theorem sw_bd (n : Int) : -2147483648 ≤ sw n ∧ sw n ≤ 2147483647 := by unfold sw wrap32; omega
theorem sw_mod (n : Int) : (sw n) % 4294967296 = n % 4294967296 := by unfold sw wrap32; omega
theorem sw_id {n : Int} (h0 : -2147483648 ≤ n) (h1 : n ≤ 2147483647) : sw n = n := by unfold sw wrap32; omega
theorem sw_of_mod {n m : Int} (h : n % 4294967296 = m % 4294967296) : sw n = sw m := by unfold sw wrap32; omega
theorem word_wrap (n : Int) : wrap64 (wrap32 n) = sw n := by
  have := sw_bd n
  unfold sw at *
  unfold wrap64; omega
theorem sg_mod {n : Int} (h0 : -9223372036854775808 ≤ n) (h1 : n ≤ 9223372036854775807) : sg (n % 18446744073709551616) = n := by unfold sg; split <;> omega
theorem sg_bd {a : Int} (h : N64 a) : -9223372036854775808 ≤ sg a ∧ sg a ≤ 9223372036854775807 := by unfold N64 at h; unfold sg; split <;> omega
theorem sg_eq {a : Int} (h : N64 a) : sg a % 18446744073709551616 = a % 18446744073709551616 := by unfold N64 at h; unfold sg; split <;> omega
end Go.Proofs.Ytajbfnihgonppaa.Plain
