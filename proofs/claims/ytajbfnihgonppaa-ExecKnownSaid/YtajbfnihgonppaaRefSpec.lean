/- What the reference's operations answer, in whole numbers: the loops of products, quotients and shifts. -/
import Derived.Test.YtajbfnihgonppaaPAx1
import Derived.Test.YtajbfnihgonppaaPAx2
import Derived.Test.YtajbfnihgonppaaPAx3
import Derived.Test.YtajbfnihgonppaaPAx4
import Derived.Test.YtajbfnihgonppaaPAx5
import Derived.Test.YtajbfnihgonppaaHQuot
import Derived.Test.YtajbfnihgonppaaHRefReg
import Derived.Test.YtajbfnihgonppaaHDo
import Derived.Test.YtajbfnihgonppaaSpec
namespace Go.Proofs.Ytajbfnihgonppaa.PA
open Go.RowKit Go.Proofs.Ytajbfnihgonppaa.Plain Go.Proofs.YtajbfnihgonppaaW.PrintWords Go.Proofs.YtajbfnihgonppaaW.PrintLast Go.Proofs.YtajbfnihgonppaaW.PrintMore
set_option linter.all false

theorem and_top {a : Int} (h : N64 a) : bits .and .u64 a 9223372036854775808 = if a < 9223372036854775808 then 0 else 9223372036854775808 := by
  rw [bits64]
  show (((BitVec.ofInt 64 a &&& BitVec.ofInt 64 9223372036854775808).toNat : Nat) : Int) = _
  obtain ⟨e, hl⟩ := nat_of h
  rw [BitVec.toNat_and, toNat_ofInt h, show (BitVec.ofInt 64 9223372036854775808).toNat = 2 ^ 63 from rfl]
  have h1 := Nat.and_mod_two_pow (a := a.toNat) (b := 2 ^ 63) (n := 63)
  have h2 := Nat.and_div_two_pow (a := a.toNat) (b := 2 ^ 63) (n := 63)
  rw [Nat.mod_self, Nat.and_zero] at h1
  rw [Nat.div_self (by decide)] at h2
  generalize a.toNat &&& 2 ^ 63 = X at *
  by_cases hc : a.toNat < 2 ^ 63
  · rw [Nat.div_eq_of_lt hc, Nat.zero_and] at h2
    rw [if_pos (by omega)]
    omega
  · have : a.toNat / 2 ^ 63 = 1 := by omega
    rw [this] at h2
    rw [show (1 &&& 1 : Nat) = 1 from rfl] at h2
    rw [if_neg (by omega)]
    omega
theorem half_f {a : Int} (h : N64 a) : bits .or .u64 (a / 2) (bits .and .u64 a 9223372036854775808) = (sg a / 2) % 18446744073709551616 := by
  rw [and_top h]
  unfold N64 at h
  by_cases hc : a < 9223372036854775808
  · rw [if_pos hc]
    have := or_low (x := 0) (y := a / 2) 63 (by decide) (by unfold N64; omega) (by decide) (by omega) (by show _ < (9223372036854775808 : Int); omega)
    have hcomm : bits .or .u64 (a / 2) 0 = bits .or .u64 0 (a / 2) := by
      rw [bits64, bits64]
      show (((BitVec.ofInt 64 (a / 2) ||| BitVec.ofInt 64 0).toNat : Nat) : Int) = ((BitVec.ofInt 64 0 ||| BitVec.ofInt 64 (a / 2)).toNat : Nat)
      rw [BitVec.or_comm]
    rw [hcomm, this]
    unfold sg; rw [if_pos hc]; omega
  · rw [if_neg hc]
    have := or_low (x := 9223372036854775808) (y := a / 2) 63 (by decide) (by unfold N64; omega) (by decide) (by omega) (by show _ < (9223372036854775808 : Int); omega)
    have hcomm : bits .or .u64 (a / 2) 9223372036854775808 = bits .or .u64 9223372036854775808 (a / 2) := by
      rw [bits64, bits64]
      show (((BitVec.ofInt 64 (a / 2) ||| BitVec.ofInt 64 9223372036854775808).toNat : Nat) : Int) = ((BitVec.ofInt 64 9223372036854775808 ||| BitVec.ofInt 64 (a / 2)).toNat : Nat)
      rw [BitVec.or_comm]
    rw [hcomm, this]
    unfold sg; rw [if_neg hc]; omega
theorem right_l (n : Nat) : ∀ (k : Nat) (a : Int), N64 a → n < k → n < 64 → almonryref02_right.l0 k a n = some (sg a / 2 ^ n % 18446744073709551616) := by
  induction n with
  | zero =>
    intro k a ha hk _
    obtain ⟨k, rfl⟩ : ∃ m, k = m + 1 := ⟨k - 1, by omega⟩
    have := sg_eq ha
    rw [w_id ha] at this
    simp only [almonryref02_right.l0]
    simp [this]
  | succ n ih =>
    intro k a ha hk hn
    obtain ⟨k, rfl⟩ : ∃ m, k = m + 1 := ⟨k - 1, by omega⟩
    have hb := sg_bd ha
    have hN : N64 (sg a / 2 % 18446744073709551616) := by unfold N64; omega
    have hs : sg (sg a / 2 % 18446744073709551616) = sg a / 2 := sg_mod (by omega) (by omega)
    have hw : (((n + 1 : Nat) : Int) - 1) % 18446744073709551616 = (n : Int) := by omega
    have hp : ((n + 1 : Nat) : Int) > 0 := by omega
    simp only [almonryref02_right.l0]
    rw [if_pos hp, half_f ha, wu, hw, ih k _ hN (by omega) (by omega), hs, Int.pow_succ, Int.mul_comm (2 ^ n) 2, ← Int.ediv_ediv_of_nonneg (by decide)]
theorem right_f {k : Nat} {a n : Int} (ha : N64 a) (h0 : 0 ≤ n) (h1 : n < 64) (hk : 64 < k) : almonryref02_right.f k a n = some (sg a / 2 ^ n.toNat % 18446744073709551616) := by
  have := right_l n.toNat k a ha (by omega) (by omega)
  unfold almonryref02_right.f
  rwa [Int.toNat_of_nonneg h0] at this

theorem rWord_f {a : Int} (ha : N64 a) : almonryref02_Word.f a = some (sw a % 18446744073709551616) := by
  unfold almonryref02_Word.f
  rw [and32 ha]
  have h := or_low (x := 18446744069414584320) (y := a % 4294967296) 32 (by decide) (by unfold N64; omega) (by decide) (by omega) (by show _ < (4294967296 : Int); omega)
  have hcomm : bits .or .u64 (a % 4294967296) 18446744069414584320 = bits .or .u64 18446744069414584320 (a % 4294967296) := by
    rw [bits64, bits64]
    show (((BitVec.ofInt 64 (a % 4294967296) ||| BitVec.ofInt 64 18446744069414584320).toNat : Nat) : Int) = ((BitVec.ofInt 64 18446744069414584320 ||| BitVec.ofInt 64 (a % 4294967296)).toNat : Nat)
    rw [BitVec.or_comm]
  rw [hcomm, h]
  unfold N64 at ha
  unfold sw wrap32
  split
  · congr 1; omega
  · congr 1; omega
theorem rlow_f {a : Int} (ha : N64 a) : almonryref02_low.f a = some (a % 4294967296) := by unfold almonryref02_low.f; rw [and32 ha]
theorem rneg_f {a : Int} (ha : N64 a) : almonryref02_Negative.f a = some (decide (9223372036854775808 ≤ a)) := by
  unfold almonryref02_Negative.f
  unfold N64 at ha
  congr 1
  by_cases h : 9223372036854775808 ≤ a
  · have : a / 9223372036854775808 = 1 := by omega
    simp [this, h]
  · have : a / 9223372036854775808 = 0 := by omega
    simp [this, h]

theorem bit_f {b : Int} (hb : N64 b) (i : Nat) (hi : i < 64) : bits .and .u64 (shr .u64 b i) 1 = b / 2 ^ i % 2 := by
  unfold shr
  rw [show min ((i : Int)).toNat IntKind.u64.bits = i from by simp [IntKind.bits]; omega]
  have hp : (0 : Int) < 2 ^ i := Int.pow_pos (by decide)
  unfold N64 at hb
  have h1 := Int.ediv_nonneg hb.1 (Int.le_of_lt hp)
  have h2 := Int.ediv_le_self (2 ^ i) hb.1
  exact and1 (by unfold N64; omega)
theorem mod_two_pow (b : Int) (i : Nat) : b % 2 ^ (i + 1) = b % 2 ^ i + b / 2 ^ i % 2 * 2 ^ i := by
  have hp : (0 : Int) < 2 ^ i := Int.pow_pos (by decide)
  rw [Int.pow_succ]
  generalize (2 : Int) ^ i = P at *
  have h1 := Int.mul_ediv_add_emod b P
  have h2 := Int.mul_ediv_add_emod (b / P) 2
  have h3 := Int.emod_nonneg b (by omega : P ≠ 0)
  have h4 := Int.emod_lt_of_pos b hp
  have h5 : b = (b % P + b / P % 2 * P) + P * 2 * (b / P / 2) := by
    have : P * (2 * (b / P / 2) + b / P % 2) + b % P = b := by rw [h2]; exact h1
    grind
  have h6 : 0 ≤ b % P + b / P % 2 * P := by
    have : 0 ≤ b / P % 2 * P := Int.mul_nonneg (by omega) (by omega)
    omega
  have h7 : b % P + b / P % 2 * P < P * 2 := by
    rcases (by omega : b / P % 2 = 0 ∨ b / P % 2 = 1) with e | e <;> rw [e] <;> omega
  calc b % (P * 2) = ((b % P + b / P % 2 * P) + P * 2 * (b / P / 2)) % (P * 2) := by rw [← h5]
    _ = (b % P + b / P % 2 * P) % (P * 2) := Int.add_mul_emod_self_left ..
    _ = _ := Int.emod_eq_of_lt h6 h7

theorem add_step {M2 Y ah al : Int} (hM : M2 = 340282366920938463463374607431768211456) (nah : N64 ah) (nal : N64 al) (h : ah * 18446744073709551616 + al = Y % M2) :
    (ah * 2 % 18446744073709551616 + al / 9223372036854775808) * 18446744073709551616 + al * 2 % 18446744073709551616 = (2 * Y) % M2 ∧ N64 (ah * 2 % 18446744073709551616 + al / 9223372036854775808) ∧ N64 (al * 2 % 18446744073709551616) := by
  subst hM
  unfold N64 at *
  omega
theorem sum_step {M2 X Y oh ol ah al : Int} (hM : M2 = 340282366920938463463374607431768211456) (noh : N64 oh) (nol : N64 ol) (nah : N64 ah) (nal : N64 al) (ho : oh * 18446744073709551616 + ol = X) (hadd : ah * 18446744073709551616 + al = Y % M2) (h0 : 0 ≤ X + Y) (h1 : X + Y < M2) :
    ((ol + al) % 18446744073709551616 < ol → (((oh + ah) % 18446744073709551616 + 1) % 18446744073709551616) * 18446744073709551616 + (ol + al) % 18446744073709551616 = X + Y) ∧
    (¬ (ol + al) % 18446744073709551616 < ol → ((oh + ah) % 18446744073709551616 % 18446744073709551616) * 18446744073709551616 + (ol + al) % 18446744073709551616 = X + Y) := by
  subst hM
  unfold N64 at *
  constructor <;> intro h <;> omega
theorem product_l {a b : Int} (ha : N64 a) (hb : N64 b) (d : Nat) : ∀ (i k : Nat) (oh ol ah al : Int), i + d = 64 → d < k → N64 oh → N64 ol → N64 ah → N64 al → Hid (oh * 18446744073709551616 + ol = a * (b % 2 ^ i)) → Hid (ah * 18446744073709551616 + al = a * 2 ^ i % 340282366920938463463374607431768211456) →
    almonryref02_Product.l0 k b i oh ol ah al = some (a * b / 18446744073709551616, a * b % 18446744073709551616) := by
  induction d with
  | zero =>
    intro i k oh ol ah al hi hk noh nol nah nal ho hadd
    obtain ⟨k, rfl⟩ : ∃ m, k = m + 1 := ⟨k - 1, by omega⟩
    obtain rfl : i = 64 := by omega
    have ho := ho.out
    have : b % 2 ^ 64 = b := w_id hb
    rw [this] at ho
    rw [← ho]
    unfold N64 at noh nol
    have e1 : (oh * 18446744073709551616 + ol) / 18446744073709551616 = oh := by omega
    have e2 : (oh * 18446744073709551616 + ol) % 18446744073709551616 = ol := by omega
    simp only [almonryref02_Product.l0]
    rw [e1, e2]; simp
  | succ d ih =>
    intro i k oh ol ah al hi hk noh nol nah nal ho hadd
    obtain ⟨k, rfl⟩ : ∃ m, k = m + 1 := ⟨k - 1, by omega⟩
    have hlt : (i : Int) < 64 := by omega
    have hlt' : i < 64 := by omega
    have hid' : i + 1 + d = 64 := by omega
    have hk' : d < k := by omega
    have h0 : (0 : Int) ≤ i := by omega
    have hw : wrap64 ((i : Int) + 1) = ((i + 1 : Nat) : Int) := by unfold wrap64; omega
    have hadd' : bits .or .u64 (ah * 2 % 18446744073709551616) (al / 9223372036854775808) = ah * 2 % 18446744073709551616 + al / 9223372036854775808 := by
      unfold N64 at nal
      exact or_low 1 (by decide) (by unfold N64; omega) (by show _ % (2 : Int) = 0; omega) (by omega) (by show _ < (2 : Int); omega)
    have hm := hid (mod_two_pow b i)
    have hpw : a * 2 ^ (i + 1) = 2 * (a * 2 ^ i) := by rw [Int.pow_succ]; grind
    have hX : a * (b % 2 ^ (i + 1)) = a * (b % 2 ^ i) + b / 2 ^ i % 2 * (a * 2 ^ i) := by rw [hm.out]; grind
    have hbd : 0 ≤ a * (b % 2 ^ (i + 1)) ∧ a * (b % 2 ^ (i + 1)) < 340282366920938463463374607431768211456 := by
      clear hpw hX hadd' hw
      have hp : (0 : Int) < 2 ^ (i + 1) := Int.pow_pos (by decide)
      unfold N64 at ha hb
      have h1 := Int.emod_nonneg b (show (2 : Int) ^ (i + 1) ≠ 0 by omega)
      have h2 : b % 2 ^ (i + 1) ≤ b := by
        have h3 := Int.mul_ediv_add_emod b (2 ^ (i + 1))
        have h4 := Int.mul_nonneg (Int.le_of_lt hp) (Int.ediv_nonneg hb.1 (Int.le_of_lt hp))
        omega
      refine ⟨Int.mul_nonneg ha.1 h1, ?_⟩
      have h5 := Int.mul_le_mul (show a ≤ 18446744073709551615 by omega) (show b % 2 ^ (i + 1) ≤ 18446744073709551615 by omega) h1 (by omega)
      generalize a * (b % 2 ^ (i + 1)) = Z at h5 ⊢
      exact Int.lt_of_le_of_lt h5 (by decide)
    have hbit := bit_f hb i hlt'
    obtain ⟨hA, nA, nA2⟩ := add_step rfl nah nal hadd.out
    rw [← hpw] at hA
    have hA := hid hA
    simp only [almonryref02_Product.l0]
    rw [if_pos hlt, if_pos h0, hbit]
    simp only [wu, hw, hadd']
    have e01 : b / 2 ^ i % 2 = 0 ∨ b / 2 ^ i % 2 = 1 := by clear hX hbd hpw; omega
    rcases e01 with e | e
    · rw [e] at hX ⊢
      rw [if_neg (by decide)]
      exact ih (i + 1) k oh ol _ _ hid' hk' noh nol nA nA2 (by rw [hX, ho.out, Int.zero_mul, Int.add_zero]; exact rfl) hA
    · rw [e, Int.one_mul] at hX
      rw [e, if_pos rfl]
      rw [hX] at hbd
      obtain ⟨s1, s2⟩ := sum_step rfl noh nol nah nal ho.out hadd.out hbd.1 hbd.2
      have m1 : ∀ x : Int, N64 (x % 18446744073709551616) := fun x => by unfold N64; clear s1 s2 hX hbd hpw; omega
      split
      · rename_i hc
        exact ih (i + 1) k _ _ _ _ hid' hk' (m1 _) (m1 _) nA nA2 (by rw [hX]; exact s1 hc) hA
      · rename_i hc
        exact ih (i + 1) k _ _ _ _ hid' hk' (m1 _) (m1 _) nA nA2 (by rw [hX]; exact s2 hc) hA
theorem product_f {k : Nat} {a b : Int} (ha : N64 a) (hb : N64 b) (hk : 64 < k) : almonryref02_Product.f k a b = some (a * b / 18446744073709551616, a * b % 18446744073709551616) := by
  unfold almonryref02_Product.f
  refine product_l ha hb 64 0 k 0 0 0 a (by omega) hk (by unfold N64; omega) (by unfold N64; omega) (by unfold N64; omega) ha ?_ ?_
  · refine hid ?_
    have : b % 2 ^ 0 = 0 := by rw [Int.pow_zero]; omega
    rw [this]; omega
  · refine hid ?_
    rw [Int.pow_zero, Int.mul_one]
    unfold N64 at ha; omega

theorem quotient_l {a b : Int} (ha : N64 a) (hb : N64 b) (hz : 0 < b) (i : Nat) : ∀ (k : Nat) (Q q r : Int), i < k → i ≤ 64 → q = Q * 2 ^ i → 0 ≤ Q → 0 ≤ r → r < b → b * Q + r = a / 2 ^ i →
    almonryref02_Quotient.l0 k a b q r ((i : Int) - 1) = some (a / b, a % b) := by
  induction i with
  | zero =>
    intro k Q q r hk _ hq hQ hr0 hr1 he
    obtain ⟨k, rfl⟩ : ∃ m, k = m + 1 := ⟨k - 1, by omega⟩
    rw [Int.pow_zero, Int.mul_one] at hq
    rw [Int.pow_zero, Int.ediv_one] at he
    subst hq
    have h1 := Int.ediv_emod_unique hz (a := a) (r := r) (q := q)
    have h2 := h1.2 ⟨by omega, hr0, hr1⟩
    simp only [almonryref02_Quotient.l0]
    rw [h2.1, h2.2]; simp
  | succ i ih =>
    intro k Q q r hk hi hq hQ hr0 hr1 he
    obtain ⟨k, rfl⟩ : ∃ m, k = m + 1 := ⟨k - 1, by omega⟩
    have hp : (0 : Int) < 2 ^ i := Int.pow_pos (by decide)
    have ei : ((i + 1 : Nat) : Int) - 1 = (i : Int) := by omega
    have hw : wrap64 ((i : Int) - 1) = (i : Int) - 1 := by unfold wrap64; omega
    have h0 : (0 : Int) ≤ i := by omega
    have hbit := bit_f ha i (by omega)
    have hshl : shl .u64 1 (i : Int) = 2 ^ i := by
      unfold shl
      rw [show min ((i : Int)).toNat IntKind.u64.bits = i from by simp [IntKind.bits]; omega, Int.one_mul, wu]
      have : (2 : Int) ^ i < 2 ^ 64 := by
        have h2 : (2 : Nat) ^ i < 2 ^ 64 := Nat.pow_lt_pow_right (by decide) (by omega)
        have : ((2 ^ i : Nat) : Int) < ((2 ^ 64 : Nat) : Int) := by omega
        simpa using this
      have e64 : (2 : Int) ^ 64 = 18446744073709551616 := by decide
      omega
    have hhi : a / 2 ^ i = 2 * (a / 2 ^ (i + 1)) + a / 2 ^ i % 2 := by
      rw [Int.pow_succ, ← Int.ediv_ediv_of_nonneg (Int.le_of_lt hp)]; omega
    have hN : 0 ≤ a / 2 ^ i ∧ a / 2 ^ i ≤ a := ⟨Int.ediv_nonneg ha.1 (by omega), Int.ediv_le_self _ ha.1⟩
    have hor : bits .or .u64 (r * 2 % 18446744073709551616) (a / 2 ^ i % 2) = r * 2 % 18446744073709551616 + a / 2 ^ i % 2 :=
      or_low 1 (by decide) (by unfold N64; omega) (by show _ % (2 : Int) = 0; omega) (by omega) (by show _ < (2 : Int); omega)
    have hq0 : 0 ≤ q := by rw [hq]; exact Int.mul_nonneg hQ (Int.le_of_lt (Int.pow_pos (by decide)))
    have hqa : q ≤ a := by
      have h1 : Q ≤ a / 2 ^ (i + 1) := by
        have : Q ≤ b * Q := by
          have := Int.mul_le_mul_of_nonneg_right (show 1 ≤ b by omega) hQ
          omega
        omega
      have h2 : a / 2 ^ (i + 1) * 2 ^ (i + 1) ≤ a := Int.ediv_mul_le a (Int.ne_of_gt (Int.pow_pos (by decide)))
      have h3 := Int.mul_le_mul_of_nonneg_right h1 (Int.le_of_lt (Int.pow_pos (by decide) : (0 : Int) < 2 ^ (i + 1)))
      rw [hq]; omega
    have hqm : q % 2 ^ (i + 1) = 0 := by rw [hq]; exact Int.mul_emod_left ..
    have hqor : bits .or .u64 q (2 ^ i) = q + 2 ^ i := by
      unfold N64 at ha
      by_cases h63 : i + 1 < 64
      · exact or_low (i + 1) h63 (by unfold N64; omega) hqm (by omega) (by rw [Int.pow_succ]; omega)
      · obtain rfl : i = 63 := by omega
        have : q = 0 := by
          have e64 : (2 : Int) ^ (63 + 1) = 18446744073709551616 := by decide
          rw [e64] at hqm
          omega
        subst this
        decide
    simp only [almonryref02_Quotient.l0]
    rw [ei, hw, hbit, hshl]
    have hge : (i : Int) ≥ 0 := h0
    rw [if_pos hge, if_pos h0]
    simp only [wu, hor, hqor]
    unfold N64 at ha hb
    have hpow : Q * 2 ^ (i + 1) = 2 * Q * 2 ^ i := by rw [Int.pow_succ]; grind
    have hbQ : b * (2 * Q) = 2 * (b * Q) := by grind
    have hbQ1 : b * (2 * Q + 1) = 2 * (b * Q) + b := by grind
    have hq1 : q + 2 ^ i = (2 * Q + 1) * 2 ^ i := by rw [hq, hpow]; grind
    have hq2 : q = 2 * Q * 2 ^ i := by rw [hq, hpow]
    by_cases hov : r / 9223372036854775808 = 1
    · rw [if_pos hov]
      exact ih k (2 * Q + 1) _ _ (by omega) (by omega) hq1 (by omega) (by omega) (by omega) (by rw [hbQ1, hhi]; omega)
    · rw [if_neg hov]
      by_cases hc : r * 2 % 18446744073709551616 + a / 2 ^ i % 2 ≥ b
      · rw [if_pos hc]
        exact ih k (2 * Q + 1) _ _ (by omega) (by omega) hq1 (by omega) (by omega) (by omega) (by rw [hbQ1, hhi]; omega)
      · rw [if_neg hc]
        exact ih k (2 * Q) _ _ (by omega) (by omega) hq2 (by omega) (by omega) (by omega) (by rw [hbQ, hhi]; omega)
theorem quotient_f {k : Nat} {a b : Int} (ha : N64 a) (hb : N64 b) (hk : 64 < k) : almonryref02_Quotient.f k a b = some (qu a b, re a b) := by
  unfold almonryref02_Quotient.f qu re
  by_cases h : b = 0
  · simp [h]
  · rw [if_neg h, if_neg h, if_neg h]
    have hz : 0 < b := by unfold N64 at hb; omega
    refine quotient_l ha hb hz 64 k 0 0 0 hk (by omega) (by omega) (by omega) (by omega) hz ?_
    have : a / 2 ^ 64 = 0 := by
      have e64 : (2 : Int) ^ 64 = 18446744073709551616 := by decide
      unfold N64 at ha
      rw [e64]; omega
    rw [this]; omega
end Go.Proofs.Ytajbfnihgonppaa.PA
