/- What is written of a timer's register is read of it: the plain law. -/
import Derived.Test.YtefhcadlakakbaaWalkClintWaits
namespace Go.Proofs.Ytefhcadlakakbaa
open Go.RowKit
set_option linter.all false

/-- a timer's numbers as they may be -/
def Good (R : Nat → Int) : Prop := (R 0 = 0 ∨ R 0 = 1) ∧ (0 ≤ R 1 ∧ R 1 < 18446744073709551616) ∧ (0 ≤ R 2 ∧ R 2 < 18446744073709551616)
theorem Good.bd {R : Nat → Int} (h : Good R) {k : Nat} (hk : k ≤ 2) : 0 ≤ R k ∧ R k < 18446744073709551616 := by
  have : k = 0 ∨ k = 1 ∨ k = 2 := by omega
  obtain ⟨h0, h1, h2⟩ := h
  rcases this with rfl | rfl | rfl
  · rcases h0 with h | h <;> rw [h] <;> decide
  · exact h1
  · exact h2
theorem wrV_bd (x sh M K v : Int) : 0 ≤ wrV x sh M K v ∧ wrV x sh M K v < 18446744073709551616 := by
  unfold wrV
  rw [u64_bits]
  simp only []
  generalize (BitVec.ofInt 64 _ &&& BitVec.ofInt 64 K) = z
  have := z.isLt
  omega
theorem wrV_one (x sh M v : Int) : wrV x sh M 1 v = 0 ∨ wrV x sh M 1 v = 1 := by
  unfold wrV
  rw [u64_bits]
  simp only []
  generalize BitVec.ofInt 64 (bits _ _ _ _) = z
  have h : (z &&& BitVec.ofInt 64 1).toNat = z.toNat % 2 := by
    rw [BitVec.toNat_and, show (BitVec.ofInt 64 1).toNat = 2 ^ 1 - 1 from rfl, Nat.and_two_pow_sub_one_eq_mod]
  rw [h]; omega
theorem Good.write {R : Nat → Int} (h : Good R) (off wd v : Int) : Good (wrR R off wd v) := by
  unfold wrR
  cases e : acc off wd with
  | none => exact h
  | some k =>
    obtain ⟨hk, _, _⟩ := acc_is (b := 0) e
    have : k = 0 ∨ k = 1 ∨ k = 2 := by omega
    obtain ⟨h0, h1, h2⟩ := h
    rcases this with rfl | rfl | rfl
    · exact ⟨by simpa using (show wrV (R 0) (8 * (off - bs 0)) (maskW wd) (kp 0) v = 0 ∨ wrV (R 0) (8 * (off - bs 0)) (maskW wd) (kp 0) v = 1 from wrV_one _ _ _ _), by simpa using h1, by simpa using h2⟩
    · exact ⟨by simpa using h0, by simpa using wrV_bd _ _ _ _ _, by simpa using h2⟩
    · exact ⟨by simpa using h0, by simpa using h1, by simpa using wrV_bd _ _ _ _ _⟩
theorem Good.tick {R : Nat → Int} (h : Good R) : Good (tkR R) := by
  obtain ⟨h0, h1, h2⟩ := h
  refine ⟨by simpa [tkR] using h0, by simpa [tkR] using h1, ?_⟩
  simp only [tkR, if_true]
  rw [IntKind.wrap_u64]; omega

theorem acc_width {off wd : Int} {k : Nat} (h : acc off wd = some k) : (wd = 1 ∨ wd = 2 ∨ wd = 4 ∨ wd = 8) ∧ off % wd = 0 := by
  unfold acc at h
  split at h
  · rename_i ho
    unfold okA at ho
    simp only [Bool.and_eq_true, Bool.or_eq_true, beq_iff_eq] at ho
    exact ⟨by omega, ho.2⟩
  · cases h
theorem and_mask {x : Int} (h0 : 0 ≤ x) (h1 : x < 18446744073709551616) {wd : Int} (hw : wd = 1 ∨ wd = 2 ∨ wd = 4 ∨ wd = 8) : bits .and .u64 x (maskW wd) = x % (maskW wd + 1) := by
  have key : ∀ n : Nat, n ≤ 64 → bits .and .u64 x (2 ^ n - 1) = x % 2 ^ n := by
    intro n hn
    rw [u64_bits]
    show (((BitVec.ofInt 64 x &&& BitVec.ofInt 64 (2 ^ n - 1)).toNat : Nat) : Int) = _
    have h2 : ((2 : Int) ^ n - 1) = ((2 ^ n - 1 : Nat) : Int) := by
      have : 0 < 2 ^ n := Nat.pow_pos (by decide)
      rw [Int.natCast_sub (by omega)]; simp
    have h3 : (2 : Nat) ^ n ≤ 2 ^ 64 := Nat.pow_le_pow_right (by decide) hn
    have h5 : (BitVec.ofInt 64 x).toNat = x.toNat := by rw [BitVec.toNat_ofInt]; omega
    rw [BitVec.toNat_and, h5, h2, BitVec.toNat_ofInt]
    have hp : 0 < 2 ^ n := Nat.pow_pos (by decide)
    have h4 : (((2 ^ n - 1 : Nat) : Int) % ((2 ^ 64 : Nat) : Int)).toNat = 2 ^ n - 1 := by omega
    rw [h4, Nat.and_two_pow_sub_one_eq_mod]
    have : x = (x.toNat : Int) := by omega
    rw [this]
    simp
  rcases hw with rfl | rfl | rfl | rfl
  · exact key 8 (by decide)
  · exact key 16 (by decide)
  · exact key 32 (by decide)
  · exact key 64 (by decide)
theorem rd_eq {R : Nat → Int} (hR : Good R) {off wd : Int} {k : Nat} (h : acc off wd = some k) : rdR R off wd = R k / 2 ^ (8 * (off - bs k)).toNat % (maskW wd + 1) := by
  obtain ⟨hk, _, _⟩ := acc_is (b := 0) h
  obtain ⟨b0, b1⟩ := hR.bd hk
  have hp : (0 : Int) < 2 ^ (8 * (off - bs k)).toNat := Int.pow_pos (by decide)
  have h1 := Int.ediv_nonneg b0 (Int.le_of_lt hp)
  have h2 := Int.ediv_le_self (2 ^ (8 * (off - bs k)).toNat) b0
  unfold rdR
  rw [h]
  exact and_mask h1 (by omega) (acc_width h).1

theorem hit1 (o : Int) (k : Nat) : hitB o 1 k = (decide (bs k ≤ o) && decide (o < bs k + sz k)) := by
  unfold hitB
  rw [Bool.eq_iff_iff]
  simp only [Bool.and_eq_true, decide_eq_true_eq]
  omega
/-- a byte of an access is an access -/
theorem acc_byte {off wd j : Int} {k : Nat} (h : acc off wd = some k) (j0 : 0 ≤ j) (j1 : j < wd) : acc (off + j) 1 = some k := by
  obtain ⟨hk, hh, _⟩ := acc_is (b := 0) h
  have hho : okA (off + j) 1 = true := by unfold okA; simp
  unfold acc
  rw [if_pos hho]
  have hs : bs k ≤ off ∧ off - bs k + wd ≤ sz k := by
    unfold hitB at hh
    simp only [Bool.and_eq_true, decide_eq_true_eq] at hh
    omega
  have : k = 0 ∨ k = 1 ∨ k = 2 := by omega
  have n0 : ∀ o : Int, 16384 ≤ o → hitB o 1 0 = false := fun o h => by
    rw [hit1, show bs 0 = 0 from rfl, show sz 0 = 4 from rfl]; simp; omega
  have n1 : ∀ o : Int, 49144 ≤ o → hitB o 1 1 = false := fun o h => by
    rw [hit1, show bs 1 = 16384 from rfl, show sz 1 = 8 from rfl]; simp; omega
  have hy : hitB (off + j) 1 k = true := by
    rw [hit1]; simp only [Bool.and_eq_true, decide_eq_true_eq]; omega
  unfold fh
  rcases this with rfl | rfl | rfl
  · rw [List.find?_cons, hy]
  · rw [show bs 1 = 16384 from rfl] at hs
    rw [List.find?_cons, n0 _ (by omega), List.find?_cons, hy]
  · rw [show bs 2 = 49144 from rfl] at hs
    rw [List.find?_cons, n0 _ (by omega), List.find?_cons, n1 _ (by omega), List.find?_cons, hy]

theorem mask_pow {wd : Int} (hw : wd = 1 ∨ wd = 2 ∨ wd = 4 ∨ wd = 8) : maskW wd + 1 = 2 ^ (8 * wd).toNat := by
  rcases hw with rfl | rfl | rfl | rfl <;> rfl
/-- a byte that is read is that of what is read -/
theorem rd_byte {R : Nat → Int} (hR : Good R) {off wd j : Int} {k : Nat} (h : acc off wd = some k) (j0 : 0 ≤ j) (j1 : j < wd) : rdR R (off + j) 1 = rdR R off wd / 2 ^ (8 * j).toNat % 256 := by
  obtain ⟨hk, hh, _⟩ := acc_is (b := 0) h
  have hs : bs k ≤ off := by
    unfold hitB at hh
    simp only [Bool.and_eq_true, decide_eq_true_eq] at hh
    omega
  obtain ⟨hw, _⟩ := acc_width h
  rw [rd_eq hR (acc_byte h j0 j1), rd_eq hR h, mask_pow hw]
  show _ % 256 = _
  have e : (8 * (off + j - bs k)).toNat = (8 * (off - bs k)).toNat + (8 * j).toNat := by omega
  have hp : (0 : Int) < 2 ^ (8 * (off - bs k)).toNat := Int.pow_pos (by decide)
  rw [e, Int.pow_add, ← Int.ediv_ediv_of_nonneg (Int.le_of_lt hp)]
  generalize R k / 2 ^ (8 * (off - bs k)).toNat = y
  have hj : ∃ n : Nat, j = n ∧ n < 8 := ⟨j.toNat, by omega, by omega⟩
  obtain ⟨n, rfl, hn⟩ := hj
  have : n = 0 ∨ n = 1 ∨ n = 2 ∨ n = 3 ∨ n = 4 ∨ n = 5 ∨ n = 6 ∨ n = 7 := by omega
  rcases hw with rfl | rfl | rfl | rfl <;> rcases this with rfl | rfl | rfl | rfl | rfl | rfl | rfl | rfl <;> first | omega | (exfalso; omega) | (simp; done) | (simp; omega)

/-- what is written is read: of registers that keep every bit -/
theorem wr_rd {x v sh : Int} {wd : Int} (hx0 : 0 ≤ x) (hx1 : x < 18446744073709551616) (v0 : 0 ≤ v) (v1 : v < 18446744073709551616) (hw : wd = 1 ∨ wd = 2 ∨ wd = 4 ∨ wd = 8) (s0 : 0 ≤ sh) (s1 : sh + 8 * wd ≤ 64) :
    wrV x sh (maskW wd) 18446744073709551615 v / 2 ^ sh.toNat % (maskW wd + 1) = v % (maskW wd + 1) := by
  obtain ⟨X, rfl⟩ := bv_of_int hx0 hx1
  obtain ⟨V, rfl⟩ := bv_of_int v0 v1
  have hM : (18446744073709551615 : Int) = U (BitVec.allOnes 64) := by decide
  obtain ⟨m, hm, hmb⟩ : ∃ m : BitVec 64, maskW wd = U m ∧ ∀ i, m.getLsbD i = decide (i < (8 * wd).toNat) := by
    rcases hw with rfl | rfl | rfl | rfl
    · exact ⟨255#64, by decide, fun i => by
        have : (255#64 : BitVec 64) = (BitVec.allOnes 8).setWidth 64 := by decide
        rw [this, BitVec.getLsbD_setWidth, BitVec.getLsbD_allOnes]; simp; omega⟩
    · exact ⟨65535#64, by decide, fun i => by
        have : (65535#64 : BitVec 64) = (BitVec.allOnes 16).setWidth 64 := by decide
        rw [this, BitVec.getLsbD_setWidth, BitVec.getLsbD_allOnes]; simp; omega⟩
    · exact ⟨4294967295#64, by decide, fun i => by
        have : (4294967295#64 : BitVec 64) = (BitVec.allOnes 32).setWidth 64 := by decide
        rw [this, BitVec.getLsbD_setWidth, BitVec.getLsbD_allOnes]; simp; omega⟩
    · exact ⟨18446744073709551615#64, by decide, fun i => by
        have : (18446744073709551615#64 : BitVec 64) = BitVec.allOnes 64 := by decide
        rw [this, BitVec.getLsbD_allOnes]; simp⟩
  have hb := U_bd (X)
  have e1 : wrV (U X) sh (maskW wd) 18446744073709551615 (U V) = U (((X &&& ~~~(m <<< sh.toNat)) ||| ((V &&& m) <<< sh.toNat)) &&& BitVec.allOnes 64) := by
    unfold wrV
    rw [hm, hM, bv_and, IntKind.wrap_u64, IntKind.wrap_u64, bv_shl, bv_shl, bv_andNot, bv_or, bv_and]
  have hW := wrV_bd (U X) sh (maskW wd) 18446744073709551615 (U V)
  rw [e1, bv_shr]
  rw [e1] at hW
  have q1 := and_mask (U_bd ((((X &&& ~~~(m <<< sh.toNat)) ||| ((V &&& m) <<< sh.toNat)) &&& BitVec.allOnes 64) >>> sh.toNat)).1 (U_bd _).2 hw
  have q2 := and_mask (U_bd V).1 (U_bd V).2 hw
  rw [← q1, ← q2, hm, bv_and, bv_and]
  congr 1
  apply BitVec.eq_of_getLsbD_eq
  intro i hi
  simp only [BitVec.getLsbD_and, BitVec.getLsbD_or, BitVec.getLsbD_ushiftRight, BitVec.getLsbD_shiftLeft, BitVec.getLsbD_not, BitVec.getLsbD_allOnes, hmb]
  by_cases h : i < (8 * wd).toNat
  · have h1 : sh.toNat + i < 64 := by omega
    have h2 : ¬ sh.toNat + i < sh.toNat := by omega
    have h3 : sh.toNat + i - sh.toNat = i := by omega
    simp [h, h1, h2, h3]
  · simp [h]
end Go.Proofs.Ytefhcadlakakbaa
