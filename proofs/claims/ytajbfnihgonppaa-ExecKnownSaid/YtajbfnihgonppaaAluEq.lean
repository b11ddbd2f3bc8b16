/- What any operation answers of any two numbers, of the program and of its reference, is the same. Under no condition. -/
import Derived.Test.YtajbfnihgonppaaRefSpec
namespace Go.Proofs.Ytajbfnihgonppaa.Pure
open Go.RowKit Go.Proofs.Ytajbfnihgonppaa.PA Go.Proofs.Ytajbfnihgonppaa.Plain Go.Proofs.YtajbfnihgonppaaW.PrintWords Go.Proofs.YtajbfnihgonppaaW.PrintLast Go.Proofs.YtajbfnihgonppaaW.PrintMore
set_option linter.all false

theorem rsize_f {a : Int} (ha : N64 a) : almonryref02_size.f a = some (if a < 9223372036854775808 then a else 18446744073709551616 - a) := by
  unfold almonryref02_size.f
  rw [rneg_f ha]
  unfold N64 at ha
  simp only [Option.bind_some, wu, decide_eq_true_eq]
  by_cases h : a < 9223372036854775808
  · rw [if_pos h, if_neg (by omega)]
  · rw [if_neg h, if_pos (by omega)]; congr 1; omega
def SQ (a b : Int) : Int := if b = 0 then 18446744073709551615 else (sg a).tdiv (sg b) % 18446744073709551616
def SR (a b : Int) : Int := if b = 0 then a else (sg a).tmod (sg b) % 18446744073709551616
theorem rsigned_f {k : Nat} {a b : Int} (ha : N64 a) (hb : N64 b) (hk : 64 < k) : almonryref02_Signed.f k a b = some (SQ a b, SR a b) := by
  unfold almonryref02_Signed.f SQ SR
  by_cases hz : b = 0
  · simp [hz]
  rw [if_neg hz, if_neg hz, if_neg hz, rsize_f ha, rsize_f hb, rneg_f ha, rneg_f hb]
  have na := ha
  have nb := hb
  unfold N64 at ha hb
  have hsg : ∀ x : Int, sg x = if x < 9223372036854775808 then x else x - 18446744073709551616 := fun x => rfl
  have key : ∀ n m : Int, 0 ≤ n → n ≤ 9223372036854775808 → 0 < m → m ≤ 9223372036854775808 → 0 ≤ n / m ∧ n / m ≤ 9223372036854775808 ∧ 0 ≤ n % m ∧ n % m ≤ 9223372036854775808 ∧ N64 n ∧ N64 m ∧ qu n m = n / m ∧ re n m = n % m := fun n m h0 h1 h2 h3 => by
    have d1 := Int.ediv_nonneg h0 (Int.le_of_lt h2)
    have d2 := Int.ediv_le_self m h0
    have d3 := Int.emod_nonneg n (by omega : m ≠ 0)
    have d4 := Int.emod_lt_of_pos n h2
    refine ⟨d1, by omega, d3, by omega, by unfold N64; omega, by unfold N64; omega, ?_, ?_⟩
    · unfold qu; rw [if_neg (by omega)]
    · unfold re; rw [if_neg (by omega)]
  by_cases h1 : a < 9223372036854775808 <;> by_cases h2 : b < 9223372036854775808
  · obtain ⟨k1, k2, k3, k4, n1, n2, q1, r1⟩ := key a b (by omega) (by omega) (by omega) (by omega)
    have e1 : ¬ 9223372036854775808 ≤ a := by omega
    have e2 : ¬ 9223372036854775808 ≤ b := by omega
    simp only [h1, h2, if_true, Option.bind_some, quotient_f n1 n2 hk, e1, e2, hsg, q1, r1]
    rw [Int.tdiv_eq_ediv_of_nonneg ha.1, Int.tmod_eq_emod_of_nonneg ha.1]
    simp
    omega
  · obtain ⟨k1, k2, k3, k4, n1, n2, q1, r1⟩ := key a (18446744073709551616 - b) (by omega) (by omega) (by omega) (by omega)
    have e1 : ¬ 9223372036854775808 ≤ a := by omega
    have e2 : 9223372036854775808 ≤ b := by omega
    have e3 : b - 18446744073709551616 = -(18446744073709551616 - b) := by omega
    simp only [h1, h2, if_true, if_false, Option.bind_some, quotient_f n1 n2 hk, e1, e2, hsg, q1, r1]
    rw [e3, Int.tdiv_neg, Int.tmod_neg, Int.tdiv_eq_ediv_of_nonneg ha.1, Int.tmod_eq_emod_of_nonneg ha.1]
    simp [wu]
    omega
  · obtain ⟨k1, k2, k3, k4, n1, n2, q1, r1⟩ := key (18446744073709551616 - a) b (by omega) (by omega) (by omega) (by omega)
    have e1 : 9223372036854775808 ≤ a := by omega
    have e2 : ¬ 9223372036854775808 ≤ b := by omega
    have e3 : a - 18446744073709551616 = -(18446744073709551616 - a) := by omega
    have e4 : 0 ≤ 18446744073709551616 - a := by omega
    simp only [h1, h2, if_true, if_false, Option.bind_some, quotient_f n1 n2 hk, e1, e2, hsg, q1, r1]
    rw [e3, Int.neg_tdiv, Int.neg_tmod, Int.tdiv_eq_ediv_of_nonneg e4, Int.tmod_eq_emod_of_nonneg e4]
    simp [wu]
  · obtain ⟨k1, k2, k3, k4, n1, n2, q1, r1⟩ := key (18446744073709551616 - a) (18446744073709551616 - b) (by omega) (by omega) (by omega) (by omega)
    have e1 : 9223372036854775808 ≤ a := by omega
    have e2 : 9223372036854775808 ≤ b := by omega
    have e3 : a - 18446744073709551616 = -(18446744073709551616 - a) := by omega
    have e4 : 0 ≤ 18446744073709551616 - a := by omega
    have e5 : b - 18446744073709551616 = -(18446744073709551616 - b) := by omega
    simp only [h1, h2, if_true, if_false, Option.bind_some, quotient_f n1 n2 hk, e1, e2, hsg, q1, r1]
    rw [e3, e5, Int.neg_tdiv, Int.tdiv_neg, Int.neg_neg, Int.neg_tmod, Int.tmod_neg, Int.tdiv_eq_ediv_of_nonneg e4, Int.tmod_eq_emod_of_nonneg e4]
    simp [wu]
    omega
theorem SQ_N {a b : Int} (ha : N64 a) : N64 (SQ a b) ∧ N64 (SR a b) := by
  unfold SQ SR N64 at *
  by_cases h : b = 0
  · simp only [h, if_true]; omega
  · simp only [h, if_false]; omega

theorem divide_any (A B L : Int) (hL : 0 < L) (hL2 : L ≤ 9223372036854775808) (hB : B ≠ 0) : ∃ q, alu_divide.f A B (-L) = some (q, A.tmod B) ∧ ((q = wrap64 (A.tdiv B)) ∨ (A = -L ∧ q = -L ∧ A.tdiv B = L)) := by
  unfold alu_divide.f alu_how.f
  by_cases h : A = -L ∧ B = -1
  · obtain ⟨rfl, rfl⟩ := h
    refine ⟨-L, ?_, .inr ⟨rfl, rfl, by rw [Int.tdiv_neg, Int.tdiv_one]; omega⟩⟩
    have : wrap64 (-L) = -L := by unfold wrap64; omega
    simp [this]
  · refine ⟨wrap64 (A.tdiv B), ?_, .inl rfl⟩
    by_cases h1 : A = -L
    · have h2 : ¬ B = -1 := fun h2 => h ⟨h1, h2⟩
      simp [hB, h1, h2]
    · simp [hB, h1]
theorem wrap64_mod (n : Int) : wrap64 n % 18446744073709551616 = n % 18446744073709551616 := by unfold wrap64; omega
theorem sw_wrap (n : Int) : sw (wrap64 n) = sw n := sw_of_mod (by unfold wrap64; omega)
theorem sw_M (n : Int) : sw (n % 18446744073709551616) = sw n := sw_of_mod (by omega)

theorem pdiv {a b : Int} (ha : N64 a) (hb : N64 b) : alu_Do.f 58 a b = some (SQ a b, true) ∧ alu_Do.f 60 a b = some (SR a b, true) := by
  by_cases hz : b = 0
  · subst hz
    have h := div_f ha hb (q := -1) (r := sg a) (by rw [show sg 0 = 0 by decide]; exact divide_0 _ _)
    have e := sg_eq ha
    rw [w_id ha] at e
    rw [e] at h
    simpa [SQ, SR] using h
  · have hs : sg b ≠ 0 := by unfold N64 at hb; unfold sg; split <;> omega
    obtain ⟨q, h1, h2⟩ := divide_any (sg a) (sg b) 9223372036854775808 (by decide) (by decide) hs
    have h := div_f ha hb h1
    have e : q % 18446744073709551616 = (sg a).tdiv (sg b) % 18446744073709551616 := by
      rcases h2 with rfl | ⟨_, h3, h4⟩
      · exact wrap64_mod _
      · rw [h3, h4]; decide
    rw [e] at h
    simpa [SQ, SR, hz] using h
theorem word_N (a : Int) : N64 (sw a % 18446744073709551616) := by unfold N64; omega
theorem sg_word (a : Int) : sg (sw a % 18446744073709551616) = sw a := by have := sw_bd a; exact sg_mod (by omega) (by omega)
theorem pdivw (a b : Int) : alu_Do.f 63 a b = some (sw (SQ (sw a % 18446744073709551616) (sw b % 18446744073709551616)) % 18446744073709551616, true) ∧ alu_Do.f 65 a b = some (sw (SR (sw a % 18446744073709551616) (sw b % 18446744073709551616)) % 18446744073709551616, true) := by
  have hb := sw_bd b
  unfold SQ SR
  rw [sg_word, sg_word]
  by_cases hz : sw b = 0
  · have h := divw_f (a := a) (b := b) (q := -1) (r := sw a) (by rw [hz]; exact divide_0 _ _)
    have e : sw b % 18446744073709551616 = 0 := by omega
    rw [if_pos e, if_pos e, sw_M, show sw 18446744073709551615 = sw (-1) from sw_of_mod (by decide)]
    exact h
  · have e : ¬ sw b % 18446744073709551616 = 0 := by omega
    rw [if_neg e, if_neg e, sw_M, sw_M]
    obtain ⟨q, h1, h2⟩ := divide_any (sw a) (sw b) 2147483648 (by decide) (by decide) hz
    have h := divw_f h1
    have e : sw q = sw ((sw a).tdiv (sw b)) := by
      rcases h2 with rfl | ⟨_, h3, h4⟩
      · exact sw_wrap _
      · rw [h3, h4]; exact sw_of_mod (by decide)
    rw [e] at h
    exact h

def opsN : List Int := [31, 32, 36, 39, 40, 33, 37, 38, 34, 35, 45, 46, 47, 48, 49, 54, 55, 56, 57, 58, 59, 60, 61, 62, 63, 64, 65, 66]
theorem reg_all : ∀ n : Fin 256, alu_Reg.f (n.val : Int) = almonryref02_Reg.f (n.val : Int) ∧ (alu_Reg.f (n.val : Int) = some (0, false) ∨ ∃ r ∈ opsN, alu_Reg.f (n.val : Int) = some (r, true)) := by decide +kernel
theorem ops_own : ∀ r ∈ opsN, alu_Reg.f r = some (r, true) := by decide +kernel

theorem xor_sub {a b : Int} (ha : N64 a) (hb : N64 b) : bits .xor .u64 a b = (bits .or .u64 a b - bits .and .u64 a b) % 18446744073709551616 := by
  rw [bits64, bits64, bits64]
  show (((BitVec.ofInt 64 a ^^^ BitVec.ofInt 64 b).toNat : Nat) : Int) = ((((BitVec.ofInt 64 a ||| BitVec.ofInt 64 b).toNat : Nat) : Int) - ((BitVec.ofInt 64 a &&& BitVec.ofInt 64 b).toNat : Nat)) % 18446744073709551616
  generalize BitVec.ofInt 64 a = x
  generalize BitVec.ofInt 64 b = y
  have h : (x ^^^ y) + (x &&& y) = x ||| y := by
    rw [BitVec.add_eq_or_of_and_eq_zero]
    · apply BitVec.eq_of_getLsbD_eq; intro i hi; simp only [BitVec.getLsbD_or, BitVec.getLsbD_and, BitVec.getLsbD_xor]; cases x.getLsbD i <;> cases y.getLsbD i <;> rfl
    · apply BitVec.eq_of_getLsbD_eq; intro i hi; simp only [BitVec.getLsbD_and, BitVec.getLsbD_xor, BitVec.getLsbD_zero]; cases x.getLsbD i <;> cases y.getLsbD i <;> rfl
  rw [← h, BitVec.toNat_add]
  have h1 := (x ^^^ y).isLt
  have h2 := (x &&& y).isLt
  omega
theorem tmod_small {b : Int} (hb : N64 b) (n : Int) : Int.tmod b n = b % n := Int.tmod_eq_emod_of_nonneg hb.1
theorem shl_mod {a n : Int} (h0 : 0 ≤ n) (h1 : n < 64) : shl .u64 a n = a * 2 ^ n.toNat % 18446744073709551616 := by
  unfold shl
  rw [show min n.toNat IntKind.u64.bits = n.toNat by simp [IntKind.bits]; omega, wu]
theorem shr_mod {a n : Int} (h1 : n < 64) : shr .u64 a n = a / 2 ^ n.toNat := by
  unfold shr
  rw [show min n.toNat IntKind.u64.bits = n.toNat by simp [IntKind.bits]; omega]
theorem shr_i64 {a n : Int} (h1 : n < 64) : shr .i64 a n = a / 2 ^ n.toNat := by
  unfold shr
  rw [show min n.toNat IntKind.i64.bits = n.toNat by simp [IntKind.bits]; omega]
theorem shr_N {a n : Int} (ha : N64 a) (h1 : n < 64) : N64 (shr .u64 a n) := by
  rw [shr_mod h1]
  have hp : (0 : Int) < 2 ^ n.toNat := Int.pow_pos (by decide)
  have := Int.ediv_nonneg ha.1 (Int.le_of_lt hp)
  have := Int.ediv_le_self (2 ^ n.toNat) ha.1
  unfold N64 at *
  omega

/-- what the reference answers, of a register operation -/
def Rf (k : Nat) (r a b : Int) : Option Int := if r < 41 then almonryref02_whole.f k r a b else if r < 54 then almonryref02_word.f k r a b else if r < 58 then almonryref02_product.f k r a b else almonryref02_quotient.f k r a b
theorem rDo_f (k : Nat) (a0 r a b : Int) (h : almonryref02_Reg.f a0 = some (r, true)) : almonryref02_Do.f k a0 a b = (Rf k r a b).bind fun v => some (v, true) := by
  unfold almonryref02_Do.f Rf
  rw [h]
  simp only [Option.bind_some, if_true]
  split
  · rfl
  · split
    · rfl
    · split <;> rfl
theorem same (a b : Int) (ha : N64 a) (hb : N64 b) : ∀ r ∈ opsN, ∃ v, alu_Do.f r a b = some (v, true) ∧ Rf 100 r a b = some v := by
  have b6 : 0 ≤ b % 64 ∧ b % 64 < 64 := by omega
  have b5 : 0 ≤ b % 32 ∧ b % 32 < 32 := by omega
  have lowN : ∀ x : Int, N64 (x % 4294967296) := low_N
  have MN : ∀ x : Int, N64 (x % 18446744073709551616) := fun x => by unfold N64; omega
  have hless : almonryref02_Less.f a b = some (decide (sg a < sg b)) := by
    unfold almonryref02_Less.f
    simp only [xor_lt ha hb]
  intro r hr
  have own := ops_own r hr
  simp only [opsN, List.mem_cons, List.not_mem_nil, or_false] at hr
  rcases hr with rfl | rfl | rfl | rfl | rfl | rfl | rfl | rfl | rfl | rfl | rfl | rfl | rfl | rfl | rfl | rfl | rfl | rfl | rfl | rfl | rfl | rfl | rfl | rfl | rfl | rfl | rfl | rfl
  · exact ⟨IntKind.u64.wrap (a + b), by unfold alu_Do.f; rw [own]; simp [alu_number_add.f], by simp [Rf, almonryref02_whole.f]⟩
  · exact ⟨IntKind.u64.wrap (a - b), by unfold alu_Do.f; rw [own]; simp [alu_number_sub.f], by simp [Rf, almonryref02_whole.f]⟩
  · exact ⟨bits .xor .u64 a b, by unfold alu_Do.f; rw [own]; simp [alu_number_xor.f], by simp [Rf, almonryref02_whole.f, wu, ← xor_sub ha hb]⟩
  · exact ⟨bits .or .u64 a b, by unfold alu_Do.f; rw [own]; simp [alu_number_or.f], by simp [Rf, almonryref02_whole.f]⟩
  · exact ⟨bits .and .u64 a b, by unfold alu_Do.f; rw [own]; simp [alu_number_and.f], by simp [Rf, almonryref02_whole.f]⟩
  · exact ⟨shl .u64 a (b % 64), by unfold alu_Do.f; rw [own]; simp [alu_number_sll.f, alu_number_six.f, and63 hb, b6.1], by simp [Rf, almonryref02_whole.f, tmod_small hb, b6.1]⟩
  · exact ⟨shr .u64 a (b % 64), by unfold alu_Do.f; rw [own]; simp [alu_number_srl.f, alu_number_six.f, and63 hb, b6.1], by simp [Rf, almonryref02_whole.f, tmod_small hb, b6.1]⟩
  · refine ⟨sg a / 2 ^ (b % 64).toNat % 18446744073709551616, by unfold alu_Do.f; rw [own]; simp [alu_number_sra.f, alu_number_signed.f, wrap64_sg ha, alu_number_six.f, and63 hb, b6.1, wu, shr_i64 b6.2], ?_⟩
    simp only [Rf, almonryref02_whole.f, tmod_small hb]
    rw [right_f ha b6.1 b6.2 (by decide)]
    simp
  · refine ⟨if sg a < sg b then 1 else 0, ?_, ?_⟩
    · unfold alu_Do.f; rw [own]
      by_cases e : sg a < sg b <;> simp [alu_number_slt.f, alu_number_signed.f, alu_said.f, wrap64_sg ha, wrap64_sg hb, e]
    · by_cases e : sg a < sg b <;> simp [Rf, almonryref02_whole.f, hless, almonryref02_bit.f, e]
  · refine ⟨if a < b then 1 else 0, ?_, ?_⟩
    · unfold alu_Do.f; rw [own]
      by_cases e : a < b <;> simp [alu_number_sltu.f, alu_said.f, e]
    · by_cases e : a < b <;> simp [Rf, almonryref02_whole.f, almonryref02_bit.f, e]
  · refine ⟨sw (a + b) % 18446744073709551616, by unfold alu_Do.f; rw [own]; simp [alu_number_addw.f, word_f, wu, sw_M], ?_⟩
    have : sw ((a % 4294967296 + b % 4294967296) % 18446744073709551616) = sw (a + b) := sw_of_mod (by omega)
    simp [Rf, almonryref02_word.f, rlow_f ha, rlow_f hb, wu, rWord_f (MN _), this]
  · refine ⟨sw (a - b) % 18446744073709551616, by unfold alu_Do.f; rw [own]; simp [alu_number_subw.f, word_f, wu, sw_M], ?_⟩
    have : sw ((a % 4294967296 - b % 4294967296) % 18446744073709551616) = sw (a - b) := sw_of_mod (by omega)
    simp [Rf, almonryref02_word.f, rlow_f ha, rlow_f hb, wu, rWord_f (MN _), this]
  · refine ⟨sw (a * 2 ^ (b % 32).toNat) % 18446744073709551616, by unfold alu_Do.f; rw [own]; simp [alu_number_sllw.f, alu_number_five.f, and31 hb, b5.1, shl_mod b5.1 (show b % 32 < 64 by omega), word_f, sw_M], ?_⟩
    have : sw (a % 4294967296 * 2 ^ (b % 32).toNat % 18446744073709551616) = sw (a * 2 ^ (b % 32).toNat) := by
      rw [sw_M]
      exact sw_of_mod (mod_mul (by omega) rfl)
    simp only [Rf, almonryref02_word.f, rlow_f ha, tmod_small hb, Option.bind_some, shl_mod b5.1 (show b % 32 < 64 by omega), rWord_f (MN _), this, b5.1]
    simp
  · have hN := shr_N (low_N a) (show b % 32 < 64 by omega)
    refine ⟨sw (shr .u64 (a % 4294967296) (b % 32)) % 18446744073709551616, by unfold alu_Do.f; rw [own]; simp [alu_number_srlw.f, alu_number_small.f, alu_number_five.f, and31 hb, b5.1, word_f], ?_⟩
    simp only [Rf, almonryref02_word.f, rlow_f ha, tmod_small hb, Option.bind_some, rWord_f hN, b5.1]
    simp
  · refine ⟨sw a / 2 ^ (b % 32).toNat % 18446744073709551616, by unfold alu_Do.f; rw [own]; simp [alu_number_sraw.f, alu_number_signed.f, word_f, signed_word, alu_number_five.f, and31 hb, b5.1, wu, shr_i64 (show b % 32 < 64 by omega)], ?_⟩
    simp only [Rf, almonryref02_word.f, rWord_f ha, Option.bind_some, tmod_small hb, right_f (word_N a) b5.1 (show b % 32 < 64 by omega) (show 64 < 100 by decide), sg_word]
    simp
  · exact ⟨_, do54 a b, by simp [Rf, almonryref02_product.f, product_f ha hb (show 64 < 100 by decide)]⟩
  · refine ⟨_, do55 ha hb, ?_⟩
    have hge : ∀ x : Int, (9223372036854775808 ≤ x) ↔ ¬ x < 9223372036854775808 := fun x => by omega
    unfold hss hsu
    by_cases e : a < 9223372036854775808 <;> by_cases f : b < 9223372036854775808 <;> simp [Rf, almonryref02_product.f, product_f ha hb (show 64 < 100 by decide), almonryref02_product.j0, rneg_f ha, rneg_f hb, hge, e, f, wu]
  · refine ⟨_, do56 ha hb, ?_⟩
    have hge : ∀ x : Int, (9223372036854775808 ≤ x) ↔ ¬ x < 9223372036854775808 := fun x => by omega
    unfold hsu
    by_cases e : a < 9223372036854775808 <;> simp [Rf, almonryref02_product.f, product_f ha hb (show 64 < 100 by decide), almonryref02_product.j0, rneg_f ha, hge, e, wu]
  · refine ⟨_, do57 ha hb, ?_⟩
    simp [Rf, almonryref02_product.f, product_f ha hb (show 64 < 100 by decide), almonryref02_product.j0]
  all_goals
    have q1 := rsigned_f ha hb (show 64 < 100 by decide)
    have q2 := quotient_f ha hb (show 64 < 100 by decide)
    have q3 := rWord_f ha
    have q4 := rWord_f hb
    have q5 := rsigned_f (word_N a) (word_N b) (show 64 < 100 by decide)
    have q6 := rlow_f ha
    have q7 := rlow_f hb
    have q8 := quotient_f (low_N a) (low_N b) (show 64 < 100 by decide)
    have q9 := product_f ha hb (show 64 < 100 by decide)
    have qa := rWord_f (MN (a * b))
    have qb := rWord_f (SQ_N (b := sw b % 18446744073709551616) (word_N a)).1
    have qc := rWord_f (SQ_N (b := sw b % 18446744073709551616) (word_N a)).2
    have qd := rWord_f (qu_bd (low_N a) (low_N b)).1
    have qe := rWord_f (qu_bd (low_N a) (low_N b)).2
  · exact ⟨_, (pdiv ha hb).1, by simp [Rf, almonryref02_quotient.f, q1, q2, q3, q4, q5, q6, q7, q8, q9, qa, qb, qc, qd, qe]⟩
  · exact ⟨_, (divu_f ha hb).1, by simp [Rf, almonryref02_quotient.f, q1, q2, q3, q4, q5, q6, q7, q8, q9, qa, qb, qc, qd, qe]⟩
  · exact ⟨_, (pdiv ha hb).2, by simp [Rf, almonryref02_quotient.f, q1, q2, q3, q4, q5, q6, q7, q8, q9, qa, qb, qc, qd, qe]⟩
  · exact ⟨_, (divu_f ha hb).2, by simp [Rf, almonryref02_quotient.f, q1, q2, q3, q4, q5, q6, q7, q8, q9, qa, qb, qc, qd, qe]⟩
  · refine ⟨sw (a * b) % 18446744073709551616, by unfold alu_Do.f; rw [own]; simp [alu_number_mulw.f, word_f, wu, sw_M], by simp [Rf, almonryref02_quotient.f, q1, q2, q3, q4, q5, q6, q7, q8, q9, qa, qb, qc, qd, qe, sw_M]⟩
  · exact ⟨_, (pdivw a b).1, by simp [Rf, almonryref02_quotient.f, q1, q2, q3, q4, q5, q6, q7, q8, q9, qa, qb, qc, qd, qe]⟩
  · exact ⟨_, (divuw_f a b).1, by simp [Rf, almonryref02_quotient.f, q1, q2, q3, q4, q5, q6, q7, q8, q9, qa, qb, qc, qd, qe]⟩
  · exact ⟨_, (pdivw a b).2, by simp [Rf, almonryref02_quotient.f, q1, q2, q3, q4, q5, q6, q7, q8, q9, qa, qb, qc, qd, qe]⟩
  · exact ⟨_, (divuw_f a b).2, by simp [Rf, almonryref02_quotient.f, q1, q2, q3, q4, q5, q6, q7, q8, q9, qa, qb, qc, qd, qe]⟩

end Go.Proofs.Ytajbfnihgonppaa.Pure
