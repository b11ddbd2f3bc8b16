/- What the operations of package alu answer, in whole numbers. -/
import Derived.Test.YtajbfnihgonppaaPAx1
import Derived.Test.YtajbfnihgonppaaPAx2
import Derived.Test.YtajbfnihgonppaaPAx3
import Derived.Test.YtajbfnihgonppaaPAx4
import Derived.Test.YtajbfnihgonppaaPAx5
import Derived.Test.YtajbfnihgonppaaHQuot
import Derived.Test.YtajbfnihgonppaaHRefReg
import Derived.Test.YtajbfnihgonppaaHDo
import Derived.Test.YtajbfnihgonppaaPlain
namespace Go.Proofs.Ytajbfnihgonppaa.PA
open Go.RowKit Go.Proofs.Ytajbfnihgonppaa.Plain Go.Proofs.YtajbfnihgonppaaW.PrintWords Go.Proofs.YtajbfnihgonppaaW.PrintLast Go.Proofs.YtajbfnihgonppaaW.PrintMore
set_option linter.all false

theorem mul64_f {a b : Int} (ha : N64 a) (hb : N64 b) : bits_Mul64.f a b = some (a * b / 18446744073709551616, a * b % 18446744073709551616) := by
  obtain ⟨p, q, r, s, hp, hq, hr, hs, p0, p1, q0, q1, r0, r1, s0, s1, e⟩ := halves ha hb
  unfold bits_Mul64.f
  simp only [wu, and32 ha, and32 hb, hp, hq, hr, hs]
  have n1 : N64 ((q + s % 18446744073709551616 / 4294967296) % 18446744073709551616) := by unfold N64; omega
  have e1 : s % 18446744073709551616 = s := by omega
  have e2 : q % 18446744073709551616 = q := by omega
  have e3 : r % 18446744073709551616 = r := by omega
  have e4 : p % 18446744073709551616 = p := by omega
  simp only [e1, e2, e3, e4] at n1 ⊢
  rw [and32 n1]
  rw [e]
  congr 2
  omega

theorem mulhu_f {a b : Int} (ha : N64 a) (hb : N64 b) : alu_number_mulhu.f a b = some (a * b / 18446744073709551616) := by
  unfold alu_number_mulhu.f
  rw [mul64_f ha hb]; rfl
def hsu (a b : Int) : Int := if a < 9223372036854775808 then a * b / 18446744073709551616 else (a * b / 18446744073709551616 - b) % 18446744073709551616
def hss (a b : Int) : Int := if b < 9223372036854775808 then hsu a b else (hsu a b - a) % 18446744073709551616
theorem sg_neg {a : Int} (ha : N64 a) : sg a < 0 ↔ ¬ a < 9223372036854775808 := by unfold N64 at ha; unfold sg; split <;> omega
theorem mulhsu_f {a b : Int} (ha : N64 a) (hb : N64 b) : alu_number_mulhsu.f a b = some (hsu a b) := by
  simp only [alu_number_mulhsu.f, mulhu_f ha hb, alu_number_signed.f, Option.bind_some, wrap64_sg ha, wu, sg_neg ha]
  unfold hsu
  by_cases h : a < 9223372036854775808 <;> simp [h]
theorem mulh_f {a b : Int} (ha : N64 a) (hb : N64 b) : alu_number_mulh.f a b = some (hss a b) := by
  simp only [alu_number_mulh.f, mulhsu_f ha hb, alu_number_signed.f, Option.bind_some, wrap64_sg hb, wu, sg_neg hb]
  unfold hss
  by_cases h : b < 9223372036854775808 <;> simp [h]
theorem do54 (a b : Int) : alu_Do.f 54 a b = some (a * b % 18446744073709551616, true) := by
  unfold alu_Do.f; rw [show alu_Reg.f 54 = some (54, true) from rfl]; simp [alu_number_mul.f, wu]
theorem do55 {a b : Int} (ha : N64 a) (hb : N64 b) : alu_Do.f 55 a b = some (hss a b, true) := by
  unfold alu_Do.f; rw [show alu_Reg.f 55 = some (55, true) from rfl]; simp [mulh_f ha hb]
theorem do56 {a b : Int} (ha : N64 a) (hb : N64 b) : alu_Do.f 56 a b = some (hsu a b, true) := by
  unfold alu_Do.f; rw [show alu_Reg.f 56 = some (56, true) from rfl]; simp [mulhsu_f ha hb]
theorem do57 {a b : Int} (ha : N64 a) (hb : N64 b) : alu_Do.f 57 a b = some (a * b / 18446744073709551616, true) := by
  unfold alu_Do.f; rw [show alu_Reg.f 57 = some (57, true) from rfl]; simp [mulhu_f ha hb]

/-- what 'divide' answers, behind a divisor that is not 0 -/
def DivOf (L A B q r : Int) : Prop := ((q * B + r = A ∧ -L ≤ q ∧ q < L) ∨ (A = -L ∧ B = -1 ∧ q = -L ∧ r = 0)) ∧ (0 < B → -B < r ∧ r < B) ∧ (B < 0 → B < r ∧ r < -B) ∧ (0 ≤ A → 0 ≤ r) ∧ (A ≤ 0 → r ≤ 0)
theorem divide_f {L A B : Int} (hL0 : 0 < L) (hL : L ≤ 9223372036854775808) (hA0 : -L ≤ A) (hA1 : A < L) (hB : B ≠ 0) : ∃ q r, alu_divide.f A B (-L) = some (q, r) ∧ DivOf L A B q r := by
  obtain ⟨e, p1, p2, p3, p4, p5, p6⟩ := tquot A B hB
  by_cases h : A = -L ∧ B = -1
  · obtain ⟨rfl, rfl⟩ := h
    refine ⟨-L, 0, ?_, .inr ⟨rfl, rfl, rfl, rfl⟩, by omega, by omega, by omega, by omega⟩
    have : wrap64 (-L) = -L := by unfold wrap64; omega
    simp [alu_divide.f, alu_how.f, this]
  · have hq : -L ≤ A.tdiv B ∧ A.tdiv B < L := by
      rcases Int.lt_or_le (A.tdiv B) L with h1 | h1
      · omega
      · exfalso
        have h2 : (A.tdiv B).natAbs = A.natAbs := by omega
        have h3 : A = -L := by omega
        rcases p6 h2 with h4 | h4
        · omega
        · have h5 : B = 1 := by omega
          rw [h5, Int.tdiv_one] at h1
          omega
    have hw : wrap64 (A.tdiv B) = A.tdiv B := by unfold wrap64; omega
    refine ⟨A.tdiv B, A.tmod B, ?_, .inl ⟨e, hq⟩, p1, p2, p3, p4⟩
    unfold alu_divide.f alu_how.f
    by_cases h1 : A = -L
    · have h2 : ¬ B = -1 := fun h2 => h ⟨h1, h2⟩
      simp [hB, h1, h2] at hw ⊢
      exact hw
    · simp [hB, h1, hw]
theorem divide_0 (A L : Int) : alu_divide.f A 0 L = some (-1, A) := by simp [alu_divide.f, alu_how.f]

/-- the four signed operations, by what 'divide' answers -/
theorem div_f {a b q r : Int} (ha : N64 a) (hb : N64 b) (h : alu_divide.f (sg a) (sg b) (-9223372036854775808) = some (q, r)) : alu_Do.f 58 a b = some (q % 18446744073709551616, true) ∧ alu_Do.f 60 a b = some (r % 18446744073709551616, true) := by
  constructor
  · unfold alu_Do.f; rw [show alu_Reg.f 58 = some (58, true) from rfl]; simp [alu_number_div.f, alu_number_signed.f, wrap64_sg ha, wrap64_sg hb, h, wu]
  · unfold alu_Do.f; rw [show alu_Reg.f 60 = some (60, true) from rfl]; simp [alu_number_rem.f, alu_number_signed.f, wrap64_sg ha, wrap64_sg hb, h, wu]
theorem word_f (a : Int) : alu_number_word.f a = some (sw a % 18446744073709551616) := by
  unfold alu_number_word.f; rw [word_wrap, wu]
theorem signed_word (a : Int) : wrap64 (sw a % 18446744073709551616) = sw a := by
  have h := sw_bd a
  rw [wrap64_sg (by unfold N64; omega)]
  exact sg_mod (by omega) (by omega)
theorem divw_f {a b q r : Int} (h : alu_divide.f (sw a) (sw b) (-2147483648) = some (q, r)) : alu_Do.f 63 a b = some (sw q % 18446744073709551616, true) ∧ alu_Do.f 65 a b = some (sw r % 18446744073709551616, true) := by
  have e : ∀ n, sw (n % 18446744073709551616) = sw n := fun n => sw_of_mod (by omega)
  constructor
  · unfold alu_Do.f; rw [show alu_Reg.f 63 = some (63, true) from rfl]; simp [alu_number_divw.f, alu_number_signed.f, word_f, signed_word, h, wu, e]
  · unfold alu_Do.f; rw [show alu_Reg.f 65 = some (65, true) from rfl]; simp [alu_number_remw.f, alu_number_signed.f, word_f, signed_word, h, wu, e]
/-- the unsigned ones -/
def qu (a b : Int) : Int := if b = 0 then 18446744073709551615 else a / b
def re (a b : Int) : Int := if b = 0 then a else a % b
theorem qu_bd {a b : Int} (ha : N64 a) (hb : N64 b) : N64 (qu a b) ∧ N64 (re a b) := by
  unfold N64 qu re at *
  by_cases h : b = 0
  · simp only [h, if_true]; omega
  · simp only [h, if_false]
    have h1 := Int.ediv_nonneg ha.1 hb.1
    have h2 : a / b ≤ a := Int.ediv_le_self b ha.1
    have h3 := Int.emod_nonneg a h
    have h4 := Int.emod_lt_of_pos a (by omega : 0 < b)
    omega
theorem divideU_f {a b : Int} (ha : N64 a) (hb : N64 b) : alu_divideU.f a b = some (qu a b, re a b) := by
  unfold alu_divideU.f qu re
  by_cases h : b = 0
  · simp [h]
  · have h1 := (qu_bd ha hb).1
    unfold qu at h1
    rw [if_neg h] at h1
    unfold N64 at ha
    simp only [h, if_false, wu, Int.tdiv_eq_ediv_of_nonneg ha.1, Int.tmod_eq_emod_of_nonneg ha.1, w_id h1]
theorem divu_f {a b : Int} (ha : N64 a) (hb : N64 b) : alu_Do.f 59 a b = some (qu a b, true) ∧ alu_Do.f 61 a b = some (re a b, true) := by
  constructor
  · unfold alu_Do.f; rw [show alu_Reg.f 59 = some (59, true) from rfl]; simp [alu_number_divu.f, divideU_f ha hb]
  · unfold alu_Do.f; rw [show alu_Reg.f 61 = some (61, true) from rfl]; simp [alu_number_remu.f, divideU_f ha hb]
theorem low_N (a : Int) : N64 (a % 4294967296) := by unfold N64; omega
theorem divuw_f (a b : Int) : alu_Do.f 64 a b = some (sw (qu (a % 4294967296) (b % 4294967296)) % 18446744073709551616, true) ∧ alu_Do.f 66 a b = some (sw (re (a % 4294967296) (b % 4294967296)) % 18446744073709551616, true) := by
  constructor
  · unfold alu_Do.f; rw [show alu_Reg.f 64 = some (64, true) from rfl]; simp [alu_number_divuw.f, alu_number_small.f, alu_number_divu.f, divideU_f (low_N a) (low_N b), word_f]
  · unfold alu_Do.f; rw [show alu_Reg.f 66 = some (66, true) from rfl]; simp [alu_number_remuw.f, alu_number_small.f, alu_number_remu.f, divideU_f (low_N a) (low_N b), word_f]
end Go.Proofs.Ytajbfnihgonppaa.PA
