/- A parcel of which one bit is changed: what it decodes to. -/
import Derived.Test.YtogdifjdlkpehaaUniq
namespace Go.Proofs.Ytogdifjdlkpehaa.PA
open Go.RowKit
set_option linter.all false
theorem ops_one' : (rowsL.all fun r => rowsL.all fun s => decide (r.1 = s.1 → r = s)) = true := by decide +kernel
theorem op_row' {r s : R4} (hr : r ∈ rowsL) (hs : s ∈ rowsL) (h : r.1 = s.1) : r = s := by
  have := List.all_eq_true.1 (List.all_eq_true.1 ops_one' r hr) s hs
  exact of_decide_eq_true this h
/-- one bit changed -/
def flip (p : Int) (k : Nat) : Int := bits .xor .u32 p (2 ^ k % 4294967296)
theorem flip_nat {p : Int} (hp : P32 p) {k : Nat} (hk : k < 32) : flip p k = ((p.toNat ^^^ 2 ^ k : Nat) : Int) := by
  unfold flip
  rw [u32_bits]
  show (((BitVec.ofInt 32 p ^^^ BitVec.ofInt 32 (2 ^ k % 4294967296)).toNat : Nat) : Int) = _
  unfold P32 at hp
  have h0 : (BitVec.ofInt 32 p).toNat = p.toNat := by rw [BitVec.toNat_ofInt]; omega
  have h2 : (2 : Nat) ^ k < 2 ^ 32 := Nat.pow_lt_pow_right (by decide) hk
  have h3 : (2 : Int) ^ k = ((2 ^ k : Nat) : Int) := by simp
  have h1 : (BitVec.ofInt 32 (2 ^ k % 4294967296)).toNat = 2 ^ k := by
    rw [BitVec.toNat_ofInt, h3]
    generalize 2 ^ k = m at *
    omega
  rw [BitVec.toNat_xor, h0, h1]
theorem flip_P32 (p : Int) (k : Nat) : P32 (flip p k) := by
  unfold flip
  rw [u32_bits]
  show P32 (((BitVec.ofInt 32 p ^^^ BitVec.ofInt 32 (2 ^ k % 4294967296)).toNat : Nat) : Int)
  have := (BitVec.ofInt 32 p ^^^ BitVec.ofInt 32 (2 ^ k % 4294967296)).isLt
  unfold P32
  omega
theorem pow_f0 (k sh w : Nat) (h : k < sh ∨ sh + w ≤ k) : 2 ^ k / 2 ^ sh % 2 ^ w = 0 := by
  rcases h with h | h
  · rw [Nat.div_eq_of_lt (Nat.pow_lt_pow_right (by decide) h)]; simp
  · rw [Nat.pow_div (by omega) (by decide)]
    exact Nat.mod_eq_zero_of_dvd (Nat.pow_dvd_pow 2 (by omega))
theorem pow_f1 (k sh w : Nat) (h : sh ≤ k ∧ k < sh + w) : 2 ^ k / 2 ^ sh % 2 ^ w ≠ 0 := by
  rw [Nat.pow_div h.1 (by decide), Nat.mod_eq_of_lt (Nat.pow_lt_pow_right (by decide) (by omega))]
  exact Nat.ne_of_gt (Nat.pow_pos (by decide))
theorem flip_f {p : Int} (hp : P32 p) {k : Nat} (hk : k < 32) (sh w : Nat) : flip p k / 2 ^ sh % 2 ^ w = (((p.toNat / 2 ^ sh % 2 ^ w) ^^^ (2 ^ k / 2 ^ sh % 2 ^ w) : Nat) : Int) ∧ p / 2 ^ sh % 2 ^ w = ((p.toNat / 2 ^ sh % 2 ^ w : Nat) : Int) := by
  have h0 : p = (p.toNat : Int) := by unfold P32 at hp; omega
  have e : ∀ m : Nat, ((m : Int) / 2 ^ sh % 2 ^ w) = ((m / 2 ^ sh % 2 ^ w : Nat) : Int) := fun m => by simp
  refine ⟨?_, ?_⟩
  · rw [flip_nat hp hk, e, Nat.xor_div_two_pow, Nat.xor_mod_two_pow]
  · rw [h0, e, Int.toNat_natCast]
theorem flip_same {p : Int} (hp : P32 p) {k : Nat} (hk : k < 32) (sh w : Nat) (h : k < sh ∨ sh + w ≤ k) : flip p k / 2 ^ sh % 2 ^ w = p / 2 ^ sh % 2 ^ w := by
  obtain ⟨h1, h2⟩ := flip_f hp hk sh w
  rw [h1, h2, pow_f0 k sh w h, Nat.xor_zero]
theorem flip_other {p : Int} (hp : P32 p) {k : Nat} (hk : k < 32) (sh w : Nat) (h : sh ≤ k ∧ k < sh + w) (he : flip p k / 2 ^ sh % 2 ^ w = p / 2 ^ sh % 2 ^ w) : False := by
  obtain ⟨h1, h2⟩ := flip_f hp hk sh w
  rw [h1, h2] at he
  have he' := Int.ofNat.inj he
  have : 2 ^ k / 2 ^ sh % 2 ^ w = 0 := by
    have h3 : (p.toNat / 2 ^ sh % 2 ^ w) ^^^ ((p.toNat / 2 ^ sh % 2 ^ w) ^^^ (2 ^ k / 2 ^ sh % 2 ^ w)) = (p.toNat / 2 ^ sh % 2 ^ w) ^^^ (p.toNat / 2 ^ sh % 2 ^ w) := by rw [he']
    rw [← Nat.xor_assoc, Nat.xor_self, Nat.zero_xor] at h3
    exact h3
  exact pow_f1 k sh w h this
theorem sgn12_inj {a b : Int} (ha : 0 ≤ a ∧ a < 4096) (hb : 0 ≤ b ∧ b < 4096) (h : sgn 12 a = sgn 12 b) : a = b := by
  rw [sgn_12, sgn_12] at h; split at h <;> split at h <;> omega
theorem sgn20_inj {a b : Int} (ha : 0 ≤ a ∧ a < 1048576) (hb : 0 ≤ b ∧ b < 1048576) (h : sgn 20 a = sgn 20 b) : a = b := by
  rw [sgn_20, sgn_20] at h; split at h <;> split at h <;> omega
theorem rad5 {x3 x2 x1 x0 y3 y2 y1 y0 : Int} (a2 : 0 ≤ x2 ∧ x2 < 2) (a1 : 0 ≤ x1 ∧ x1 < 64) (a0 : 0 ≤ x0 ∧ x0 < 16) (b2 : 0 ≤ y2 ∧ y2 < 2) (b1 : 0 ≤ y1 ∧ y1 < 64) (b0 : 0 ≤ y0 ∧ y0 < 16) (h : x3 * 2048 + x2 * 1024 + x1 * 16 + x0 = y3 * 2048 + y2 * 1024 + y1 * 16 + y0) : x3 = y3 ∧ x2 = y2 ∧ x1 = y1 ∧ x0 = y0 := by omega
theorem rad7 {x3 x2 x1 x0 y3 y2 y1 y0 : Int} (a2 : 0 ≤ x2 ∧ x2 < 256) (a1 : 0 ≤ x1 ∧ x1 < 2) (a0 : 0 ≤ x0 ∧ x0 < 1024) (b2 : 0 ≤ y2 ∧ y2 < 256) (b1 : 0 ≤ y1 ∧ y1 < 2) (b0 : 0 ≤ y0 ∧ y0 < 1024) (h : x3 * 524288 + x2 * 2048 + x1 * 1024 + x0 = y3 * 524288 + y2 * 2048 + y1 * 1024 + y0) : x3 = y3 ∧ x2 = y2 ∧ x1 = y1 ∧ x0 = y0 := by omega
theorem ff_0 {p q : Int} (op : Int) (h : fillT p op 0 = fillT q op 0) : q / 128 % 32 = p / 128 % 32 ∧ q / 32768 % 32 = p / 32768 % 32 ∧ q / 1048576 % 32 = p / 1048576 % 32 := by
  simp [fillT] at h; omega
theorem ff_1 {p q : Int} (op : Int) (h : fillT p op 1 = fillT q op 1) : q / 128 % 32 = p / 128 % 32 ∧ q / 32768 % 32 = p / 32768 % 32 ∧ q / 1048576 % 4096 = p / 1048576 % 4096 := by
  simp [fillT] at h; have := sgn12_inj (by omega) (by omega) h.2.2; omega
theorem ff_2 {p q : Int} (op : Int) (h : fillT p op 2 = fillT q op 2) : q / 128 % 32 = p / 128 % 32 ∧ q / 32768 % 32 = p / 32768 % 32 ∧ q / 1048576 % 64 = p / 1048576 % 64 := by
  simp [fillT] at h; omega
theorem ff_3 {p q : Int} (op : Int) (h : fillT p op 3 = fillT q op 3) : q / 128 % 32 = p / 128 % 32 ∧ q / 32768 % 32 = p / 32768 % 32 ∧ q / 1048576 % 32 = p / 1048576 % 32 := by
  simp [fillT] at h; omega
theorem ff_4 {p q : Int} (op : Int) (h : fillT p op 4 = fillT q op 4) : q / 32768 % 32 = p / 32768 % 32 ∧ q / 1048576 % 32 = p / 1048576 % 32 ∧ q / 33554432 % 128 = p / 33554432 % 128 ∧ q / 128 % 32 = p / 128 % 32 := by
  simp [fillT] at h; have := sgn12_inj (by omega) (by omega) h.2.2; omega
theorem ff_5 {p q : Int} (op : Int) (h : fillT p op 5 = fillT q op 5) : q / 32768 % 32 = p / 32768 % 32 ∧ q / 1048576 % 32 = p / 1048576 % 32 ∧ q / 2147483648 % 2 = p / 2147483648 % 2 ∧ q / 128 % 2 = p / 128 % 2 ∧ q / 33554432 % 64 = p / 33554432 % 64 ∧ q / 256 % 16 = p / 256 % 16 := by
  simp [fillT] at h; have e := sgn12_inj (by omega) (by omega) (Int.eq_of_mul_eq_mul_right (by decide) h.2.2); have := rad5 (by omega) (by omega) (by omega) (by omega) (by omega) (by omega) e; obtain ⟨e1, e2, e3, e4⟩ := this; exact ⟨h.1.symm, h.2.1.symm, e1.symm, e2.symm, e3.symm, e4.symm⟩
theorem ff_6 {p q : Int} (op : Int) (h : fillT p op 6 = fillT q op 6) : q / 128 % 32 = p / 128 % 32 ∧ q / 4096 % 1048576 = p / 4096 % 1048576 := by
  simp [fillT] at h; have := sgn20_inj (by omega) (by omega) (Int.eq_of_mul_eq_mul_right (by decide) h.2); omega
theorem ff_7 {p q : Int} (op : Int) (h : fillT p op 7 = fillT q op 7) : q / 128 % 32 = p / 128 % 32 ∧ q / 2147483648 % 2 = p / 2147483648 % 2 ∧ q / 4096 % 256 = p / 4096 % 256 ∧ q / 1048576 % 2 = p / 1048576 % 2 ∧ q / 2097152 % 1024 = p / 2097152 % 1024 := by
  simp [fillT] at h; have e := sgn20_inj (by omega) (by omega) (Int.eq_of_mul_eq_mul_right (by decide) h.2); have := rad7 (by omega) (by omega) (by omega) (by omega) (by omega) (by omega) e; obtain ⟨e1, e2, e3, e4⟩ := this; exact ⟨h.1.symm, e1.symm, e2.symm, e3.symm, e4.symm⟩
theorem ff_8 {p q : Int} (op : Int) (h : fillT p op 8 = fillT q op 8) : q / 128 % 32 = p / 128 % 32 ∧ q / 32768 % 32 = p / 32768 % 32 ∧ q / 1048576 % 4096 = p / 1048576 % 4096 := by
  simp [fillT] at h; omega
theorem ff_9 {p q : Int} (op : Int) (h : fillT p op 9 = fillT q op 9) : q / 128 % 32 = p / 128 % 32 ∧ q / 32768 % 32 = p / 32768 % 32 ∧ q / 1048576 % 4096 = p / 1048576 % 4096 := by
  simp [fillT] at h; omega
theorem ff_11 {p q : Int} (op : Int) (h : fillT p op 11 = fillT q op 11) : q / 32768 % 32 = p / 32768 % 32 ∧ q / 1048576 % 32 = p / 1048576 % 32 := by
  simp [fillT] at h; omega
theorem mf_127 {p q op k a : Int} (h : meetsF p (op, k, 127, a) = true) (h2 : meetsF q (op, k, 127, a) = true) : q % 128 = p % 128 := by
  simp [meetsF] at h h2
  exact h2.trans h.symm
theorem mf_28799 {p q op k a : Int} (h : meetsF p (op, k, 28799, a) = true) (h2 : meetsF q (op, k, 28799, a) = true) : q % 128 = p % 128 ∧ q / 4096 % 8 = p / 4096 % 8 := by
  simp [meetsF] at h h2
  obtain ⟨a0, a1⟩ := h; obtain ⟨b0, b1⟩ := h2; exact ⟨b0.trans a0.symm, b1.trans a1.symm⟩
theorem mf_4227887231 {p q op k a : Int} (h : meetsF p (op, k, 4227887231, a) = true) (h2 : meetsF q (op, k, 4227887231, a) = true) : q % 128 = p % 128 ∧ q / 4096 % 8 = p / 4096 % 8 ∧ q / 67108864 % 64 = p / 67108864 % 64 := by
  simp [meetsF] at h h2
  obtain ⟨a0, a1, a2⟩ := h; obtain ⟨b0, b1, b2⟩ := h2; exact ⟨b0.trans a0.symm, b1.trans a1.symm, b2.trans a2.symm⟩
theorem mf_4261441663 {p q op k a : Int} (h : meetsF p (op, k, 4261441663, a) = true) (h2 : meetsF q (op, k, 4261441663, a) = true) : q % 128 = p % 128 ∧ q / 4096 % 8 = p / 4096 % 8 ∧ q / 33554432 % 128 = p / 33554432 % 128 := by
  simp [meetsF] at h h2
  obtain ⟨a0, a1, a2⟩ := h; obtain ⟨b0, b1, b2⟩ := h2; exact ⟨b0.trans a0.symm, b1.trans a1.symm, b2.trans a2.symm⟩
theorem mf_4261445631 {p q op k a : Int} (h : meetsF p (op, k, 4261445631, a) = true) (h2 : meetsF q (op, k, 4261445631, a) = true) : q % 128 = p % 128 ∧ q / 128 % 32 = p / 128 % 32 ∧ q / 4096 % 8 = p / 4096 % 8 ∧ q / 33554432 % 128 = p / 33554432 % 128 := by
  simp [meetsF] at h h2
  obtain ⟨a0, a1, a2, a3⟩ := h; obtain ⟨b0, b1, b2, b3⟩ := h2; exact ⟨b0.trans a0.symm, b1.trans a1.symm, b2.trans a2.symm, b3.trans a3.symm⟩
theorem mf_4160778367 {p q op k a : Int} (h : meetsF p (op, k, 4160778367, a) = true) (h2 : meetsF q (op, k, 4160778367, a) = true) : q % 128 = p % 128 ∧ q / 4096 % 8 = p / 4096 % 8 ∧ q / 134217728 % 32 = p / 134217728 % 32 := by
  simp [meetsF] at h h2
  obtain ⟨a0, a1, a2⟩ := h; obtain ⟨b0, b1, b2⟩ := h2; exact ⟨b0.trans a0.symm, b1.trans a1.symm, b2.trans a2.symm⟩
theorem mf_4193284223 {p q op k a : Int} (h : meetsF p (op, k, 4193284223, a) = true) (h2 : meetsF q (op, k, 4193284223, a) = true) : q % 128 = p % 128 ∧ q / 4096 % 8 = p / 4096 % 8 ∧ q / 1048576 % 32 = p / 1048576 % 32 ∧ q / 134217728 % 32 = p / 134217728 % 32 := by
  simp [meetsF] at h h2
  obtain ⟨a0, a1, a2, a3⟩ := h; obtain ⟨b0, b1, b2, b3⟩ := h2; exact ⟨b0.trans a0.symm, b1.trans a1.symm, b2.trans a2.symm, b3.trans a3.symm⟩
theorem mf_4294967295 {p q op k a : Int} (h : meetsF p (op, k, 4294967295, a) = true) (h2 : meetsF q (op, k, 4294967295, a) = true) : q = p := by
  simp [meetsF] at h h2
  exact h2.2.trans h.2.symm
def combos : List (Int × Int) := [(0, 4261441663), (0, 4160778367), (0, 4193284223), (1, 28799), (2, 4227887231), (3, 4261441663), (4, 28799), (5, 28799), (6, 127), (7, 127), (8, 28799), (9, 28799), (10, 28799), (10, 4294967295), (11, 4261445631)]
theorem row_combo : ∀ r ∈ rowsL, (r.2.1, r.2.2.1) ∈ combos := by decide +kernel
theorem diff_0_4261441663 {p : Int} (hp : P32 p) {k : Nat} (hk : k < 32) {op a : Int} (h : meetsF p (op, 0, 4261441663, a) = true) (h2 : meetsF (flip p k) (op, 0, 4261441663, a) = true) (he : fillT p op 0 = fillT (flip p k) op 0) : False := by
  have hc : (0 ≤ k ∧ k < 0 + 7) ∨ (12 ≤ k ∧ k < 12 + 3) ∨ (25 ≤ k ∧ k < 25 + 7) ∨ (7 ≤ k ∧ k < 7 + 5) ∨ (15 ≤ k ∧ k < 15 + 5) ∨ (20 ≤ k ∧ k < 20 + 5) := by omega
  obtain ⟨m0, m1, m2⟩ := mf_4261441663 h h2
  obtain ⟨f0, f1, f2⟩ := ff_0 op he
  rcases hc with hc | hc | hc | hc | hc | hc
  · exact flip_other hp hk 0 7 hc (by rw [Int.pow_zero, Int.ediv_one, Int.ediv_one]; exact m0)
  · exact flip_other hp hk 12 3 hc m1
  · exact flip_other hp hk 25 7 hc m2
  · exact flip_other hp hk 7 5 hc f0
  · exact flip_other hp hk 15 5 hc f1
  · exact flip_other hp hk 20 5 hc f2
theorem diff_0_4160778367 {p : Int} (hp : P32 p) {k : Nat} (hk : k < 32) {op a : Int} (n25 : k ≠ 25) (n26 : k ≠ 26) (h : meetsF p (op, 0, 4160778367, a) = true) (h2 : meetsF (flip p k) (op, 0, 4160778367, a) = true) (he : fillT p op 0 = fillT (flip p k) op 0) : False := by
  have hc : (0 ≤ k ∧ k < 0 + 7) ∨ (12 ≤ k ∧ k < 12 + 3) ∨ (27 ≤ k ∧ k < 27 + 5) ∨ (7 ≤ k ∧ k < 7 + 5) ∨ (15 ≤ k ∧ k < 15 + 5) ∨ (20 ≤ k ∧ k < 20 + 5) := by omega
  obtain ⟨m0, m1, m2⟩ := mf_4160778367 h h2
  obtain ⟨f0, f1, f2⟩ := ff_0 op he
  rcases hc with hc | hc | hc | hc | hc | hc
  · exact flip_other hp hk 0 7 hc (by rw [Int.pow_zero, Int.ediv_one, Int.ediv_one]; exact m0)
  · exact flip_other hp hk 12 3 hc m1
  · exact flip_other hp hk 27 5 hc m2
  · exact flip_other hp hk 7 5 hc f0
  · exact flip_other hp hk 15 5 hc f1
  · exact flip_other hp hk 20 5 hc f2
theorem diff_0_4193284223 {p : Int} (hp : P32 p) {k : Nat} (hk : k < 32) {op a : Int} (n25 : k ≠ 25) (n26 : k ≠ 26) (h : meetsF p (op, 0, 4193284223, a) = true) (h2 : meetsF (flip p k) (op, 0, 4193284223, a) = true) (he : fillT p op 0 = fillT (flip p k) op 0) : False := by
  have hc : (0 ≤ k ∧ k < 0 + 7) ∨ (12 ≤ k ∧ k < 12 + 3) ∨ (20 ≤ k ∧ k < 20 + 5) ∨ (27 ≤ k ∧ k < 27 + 5) ∨ (7 ≤ k ∧ k < 7 + 5) ∨ (15 ≤ k ∧ k < 15 + 5) ∨ (20 ≤ k ∧ k < 20 + 5) := by omega
  obtain ⟨m0, m1, m2, m3⟩ := mf_4193284223 h h2
  obtain ⟨f0, f1, f2⟩ := ff_0 op he
  rcases hc with hc | hc | hc | hc | hc | hc | hc
  · exact flip_other hp hk 0 7 hc (by rw [Int.pow_zero, Int.ediv_one, Int.ediv_one]; exact m0)
  · exact flip_other hp hk 12 3 hc m1
  · exact flip_other hp hk 20 5 hc m2
  · exact flip_other hp hk 27 5 hc m3
  · exact flip_other hp hk 7 5 hc f0
  · exact flip_other hp hk 15 5 hc f1
  · exact flip_other hp hk 20 5 hc f2
theorem diff_1_28799 {p : Int} (hp : P32 p) {k : Nat} (hk : k < 32) {op a : Int} (h : meetsF p (op, 1, 28799, a) = true) (h2 : meetsF (flip p k) (op, 1, 28799, a) = true) (he : fillT p op 1 = fillT (flip p k) op 1) : False := by
  have hc : (0 ≤ k ∧ k < 0 + 7) ∨ (12 ≤ k ∧ k < 12 + 3) ∨ (7 ≤ k ∧ k < 7 + 5) ∨ (15 ≤ k ∧ k < 15 + 5) ∨ (20 ≤ k ∧ k < 20 + 12) := by omega
  obtain ⟨m0, m1⟩ := mf_28799 h h2
  obtain ⟨f0, f1, f2⟩ := ff_1 op he
  rcases hc with hc | hc | hc | hc | hc
  · exact flip_other hp hk 0 7 hc (by rw [Int.pow_zero, Int.ediv_one, Int.ediv_one]; exact m0)
  · exact flip_other hp hk 12 3 hc m1
  · exact flip_other hp hk 7 5 hc f0
  · exact flip_other hp hk 15 5 hc f1
  · exact flip_other hp hk 20 12 hc f2
theorem diff_2_4227887231 {p : Int} (hp : P32 p) {k : Nat} (hk : k < 32) {op a : Int} (h : meetsF p (op, 2, 4227887231, a) = true) (h2 : meetsF (flip p k) (op, 2, 4227887231, a) = true) (he : fillT p op 2 = fillT (flip p k) op 2) : False := by
  have hc : (0 ≤ k ∧ k < 0 + 7) ∨ (12 ≤ k ∧ k < 12 + 3) ∨ (26 ≤ k ∧ k < 26 + 6) ∨ (7 ≤ k ∧ k < 7 + 5) ∨ (15 ≤ k ∧ k < 15 + 5) ∨ (20 ≤ k ∧ k < 20 + 6) := by omega
  obtain ⟨m0, m1, m2⟩ := mf_4227887231 h h2
  obtain ⟨f0, f1, f2⟩ := ff_2 op he
  rcases hc with hc | hc | hc | hc | hc | hc
  · exact flip_other hp hk 0 7 hc (by rw [Int.pow_zero, Int.ediv_one, Int.ediv_one]; exact m0)
  · exact flip_other hp hk 12 3 hc m1
  · exact flip_other hp hk 26 6 hc m2
  · exact flip_other hp hk 7 5 hc f0
  · exact flip_other hp hk 15 5 hc f1
  · exact flip_other hp hk 20 6 hc f2
theorem diff_3_4261441663 {p : Int} (hp : P32 p) {k : Nat} (hk : k < 32) {op a : Int} (h : meetsF p (op, 3, 4261441663, a) = true) (h2 : meetsF (flip p k) (op, 3, 4261441663, a) = true) (he : fillT p op 3 = fillT (flip p k) op 3) : False := by
  have hc : (0 ≤ k ∧ k < 0 + 7) ∨ (12 ≤ k ∧ k < 12 + 3) ∨ (25 ≤ k ∧ k < 25 + 7) ∨ (7 ≤ k ∧ k < 7 + 5) ∨ (15 ≤ k ∧ k < 15 + 5) ∨ (20 ≤ k ∧ k < 20 + 5) := by omega
  obtain ⟨m0, m1, m2⟩ := mf_4261441663 h h2
  obtain ⟨f0, f1, f2⟩ := ff_3 op he
  rcases hc with hc | hc | hc | hc | hc | hc
  · exact flip_other hp hk 0 7 hc (by rw [Int.pow_zero, Int.ediv_one, Int.ediv_one]; exact m0)
  · exact flip_other hp hk 12 3 hc m1
  · exact flip_other hp hk 25 7 hc m2
  · exact flip_other hp hk 7 5 hc f0
  · exact flip_other hp hk 15 5 hc f1
  · exact flip_other hp hk 20 5 hc f2
theorem diff_4_28799 {p : Int} (hp : P32 p) {k : Nat} (hk : k < 32) {op a : Int} (h : meetsF p (op, 4, 28799, a) = true) (h2 : meetsF (flip p k) (op, 4, 28799, a) = true) (he : fillT p op 4 = fillT (flip p k) op 4) : False := by
  have hc : (0 ≤ k ∧ k < 0 + 7) ∨ (12 ≤ k ∧ k < 12 + 3) ∨ (15 ≤ k ∧ k < 15 + 5) ∨ (20 ≤ k ∧ k < 20 + 5) ∨ (25 ≤ k ∧ k < 25 + 7) ∨ (7 ≤ k ∧ k < 7 + 5) := by omega
  obtain ⟨m0, m1⟩ := mf_28799 h h2
  obtain ⟨f0, f1, f2, f3⟩ := ff_4 op he
  rcases hc with hc | hc | hc | hc | hc | hc
  · exact flip_other hp hk 0 7 hc (by rw [Int.pow_zero, Int.ediv_one, Int.ediv_one]; exact m0)
  · exact flip_other hp hk 12 3 hc m1
  · exact flip_other hp hk 15 5 hc f0
  · exact flip_other hp hk 20 5 hc f1
  · exact flip_other hp hk 25 7 hc f2
  · exact flip_other hp hk 7 5 hc f3
theorem diff_5_28799 {p : Int} (hp : P32 p) {k : Nat} (hk : k < 32) {op a : Int} (h : meetsF p (op, 5, 28799, a) = true) (h2 : meetsF (flip p k) (op, 5, 28799, a) = true) (he : fillT p op 5 = fillT (flip p k) op 5) : False := by
  have hc : (0 ≤ k ∧ k < 0 + 7) ∨ (12 ≤ k ∧ k < 12 + 3) ∨ (15 ≤ k ∧ k < 15 + 5) ∨ (20 ≤ k ∧ k < 20 + 5) ∨ (31 ≤ k ∧ k < 31 + 1) ∨ (7 ≤ k ∧ k < 7 + 1) ∨ (25 ≤ k ∧ k < 25 + 6) ∨ (8 ≤ k ∧ k < 8 + 4) := by omega
  obtain ⟨m0, m1⟩ := mf_28799 h h2
  obtain ⟨f0, f1, f2, f3, f4, f5⟩ := ff_5 op he
  rcases hc with hc | hc | hc | hc | hc | hc | hc | hc
  · exact flip_other hp hk 0 7 hc (by rw [Int.pow_zero, Int.ediv_one, Int.ediv_one]; exact m0)
  · exact flip_other hp hk 12 3 hc m1
  · exact flip_other hp hk 15 5 hc f0
  · exact flip_other hp hk 20 5 hc f1
  · exact flip_other hp hk 31 1 hc f2
  · exact flip_other hp hk 7 1 hc f3
  · exact flip_other hp hk 25 6 hc f4
  · exact flip_other hp hk 8 4 hc f5
theorem diff_6_127 {p : Int} (hp : P32 p) {k : Nat} (hk : k < 32) {op a : Int} (h : meetsF p (op, 6, 127, a) = true) (h2 : meetsF (flip p k) (op, 6, 127, a) = true) (he : fillT p op 6 = fillT (flip p k) op 6) : False := by
  have hc : (0 ≤ k ∧ k < 0 + 7) ∨ (7 ≤ k ∧ k < 7 + 5) ∨ (12 ≤ k ∧ k < 12 + 20) := by omega
  obtain m0 := mf_127 h h2
  obtain ⟨f0, f1⟩ := ff_6 op he
  rcases hc with hc | hc | hc
  · exact flip_other hp hk 0 7 hc (by rw [Int.pow_zero, Int.ediv_one, Int.ediv_one]; exact m0)
  · exact flip_other hp hk 7 5 hc f0
  · exact flip_other hp hk 12 20 hc f1
theorem diff_7_127 {p : Int} (hp : P32 p) {k : Nat} (hk : k < 32) {op a : Int} (h : meetsF p (op, 7, 127, a) = true) (h2 : meetsF (flip p k) (op, 7, 127, a) = true) (he : fillT p op 7 = fillT (flip p k) op 7) : False := by
  have hc : (0 ≤ k ∧ k < 0 + 7) ∨ (7 ≤ k ∧ k < 7 + 5) ∨ (31 ≤ k ∧ k < 31 + 1) ∨ (12 ≤ k ∧ k < 12 + 8) ∨ (20 ≤ k ∧ k < 20 + 1) ∨ (21 ≤ k ∧ k < 21 + 10) := by omega
  obtain m0 := mf_127 h h2
  obtain ⟨f0, f1, f2, f3, f4⟩ := ff_7 op he
  rcases hc with hc | hc | hc | hc | hc | hc
  · exact flip_other hp hk 0 7 hc (by rw [Int.pow_zero, Int.ediv_one, Int.ediv_one]; exact m0)
  · exact flip_other hp hk 7 5 hc f0
  · exact flip_other hp hk 31 1 hc f1
  · exact flip_other hp hk 12 8 hc f2
  · exact flip_other hp hk 20 1 hc f3
  · exact flip_other hp hk 21 10 hc f4
theorem diff_8_28799 {p : Int} (hp : P32 p) {k : Nat} (hk : k < 32) {op a : Int} (h : meetsF p (op, 8, 28799, a) = true) (h2 : meetsF (flip p k) (op, 8, 28799, a) = true) (he : fillT p op 8 = fillT (flip p k) op 8) : False := by
  have hc : (0 ≤ k ∧ k < 0 + 7) ∨ (12 ≤ k ∧ k < 12 + 3) ∨ (7 ≤ k ∧ k < 7 + 5) ∨ (15 ≤ k ∧ k < 15 + 5) ∨ (20 ≤ k ∧ k < 20 + 12) := by omega
  obtain ⟨m0, m1⟩ := mf_28799 h h2
  obtain ⟨f0, f1, f2⟩ := ff_8 op he
  rcases hc with hc | hc | hc | hc | hc
  · exact flip_other hp hk 0 7 hc (by rw [Int.pow_zero, Int.ediv_one, Int.ediv_one]; exact m0)
  · exact flip_other hp hk 12 3 hc m1
  · exact flip_other hp hk 7 5 hc f0
  · exact flip_other hp hk 15 5 hc f1
  · exact flip_other hp hk 20 12 hc f2
theorem diff_9_28799 {p : Int} (hp : P32 p) {k : Nat} (hk : k < 32) {op a : Int} (h : meetsF p (op, 9, 28799, a) = true) (h2 : meetsF (flip p k) (op, 9, 28799, a) = true) (he : fillT p op 9 = fillT (flip p k) op 9) : False := by
  have hc : (0 ≤ k ∧ k < 0 + 7) ∨ (12 ≤ k ∧ k < 12 + 3) ∨ (7 ≤ k ∧ k < 7 + 5) ∨ (15 ≤ k ∧ k < 15 + 5) ∨ (20 ≤ k ∧ k < 20 + 12) := by omega
  obtain ⟨m0, m1⟩ := mf_28799 h h2
  obtain ⟨f0, f1, f2⟩ := ff_9 op he
  rcases hc with hc | hc | hc | hc | hc
  · exact flip_other hp hk 0 7 hc (by rw [Int.pow_zero, Int.ediv_one, Int.ediv_one]; exact m0)
  · exact flip_other hp hk 12 3 hc m1
  · exact flip_other hp hk 7 5 hc f0
  · exact flip_other hp hk 15 5 hc f1
  · exact flip_other hp hk 20 12 hc f2
theorem diff_10_28799 {p : Int} (hp : P32 p) {k : Nat} (hk : k < 32) {op a : Int} (n7 : k ≠ 7) (n8 : k ≠ 8) (n9 : k ≠ 9) (n10 : k ≠ 10) (n11 : k ≠ 11) (n15 : k ≠ 15) (n16 : k ≠ 16) (n17 : k ≠ 17) (n18 : k ≠ 18) (n19 : k ≠ 19) (n20 : k ≠ 20) (n21 : k ≠ 21) (n22 : k ≠ 22) (n23 : k ≠ 23) (n24 : k ≠ 24) (n25 : k ≠ 25) (n26 : k ≠ 26) (n27 : k ≠ 27) (n28 : k ≠ 28) (n29 : k ≠ 29) (n30 : k ≠ 30) (n31 : k ≠ 31) (h : meetsF p (op, 10, 28799, a) = true) (h2 : meetsF (flip p k) (op, 10, 28799, a) = true) (he : fillT p op 10 = fillT (flip p k) op 10) : False := by
  have hc : (0 ≤ k ∧ k < 0 + 7) ∨ (12 ≤ k ∧ k < 12 + 3) := by omega
  obtain ⟨m0, m1⟩ := mf_28799 h h2
  rcases hc with hc | hc
  · exact flip_other hp hk 0 7 hc (by rw [Int.pow_zero, Int.ediv_one, Int.ediv_one]; exact m0)
  · exact flip_other hp hk 12 3 hc m1
theorem diff_10_4294967295 {p : Int} (hp : P32 p) {k : Nat} (hk : k < 32) {op a : Int} (h : meetsF p (op, 10, 4294967295, a) = true) (h2 : meetsF (flip p k) (op, 10, 4294967295, a) = true) (he : fillT p op 10 = fillT (flip p k) op 10) : False := by
  have e := mf_4294967295 h h2
  exact flip_other hp hk 0 32 ⟨Nat.zero_le _, by omega⟩ (by rw [e])
theorem diff_11_4261445631 {p : Int} (hp : P32 p) {k : Nat} (hk : k < 32) {op a : Int} (h : meetsF p (op, 11, 4261445631, a) = true) (h2 : meetsF (flip p k) (op, 11, 4261445631, a) = true) (he : fillT p op 11 = fillT (flip p k) op 11) : False := by
  have hc : (0 ≤ k ∧ k < 0 + 7) ∨ (7 ≤ k ∧ k < 7 + 5) ∨ (12 ≤ k ∧ k < 12 + 3) ∨ (25 ≤ k ∧ k < 25 + 7) ∨ (15 ≤ k ∧ k < 15 + 5) ∨ (20 ≤ k ∧ k < 20 + 5) := by omega
  obtain ⟨m0, m1, m2, m3⟩ := mf_4261445631 h h2
  obtain ⟨f0, f1⟩ := ff_11 op he
  rcases hc with hc | hc | hc | hc | hc | hc
  · exact flip_other hp hk 0 7 hc (by rw [Int.pow_zero, Int.ediv_one, Int.ediv_one]; exact m0)
  · exact flip_other hp hk 7 5 hc m1
  · exact flip_other hp hk 12 3 hc m2
  · exact flip_other hp hk 25 7 hc m3
  · exact flip_other hp hk 15 5 hc f0
  · exact flip_other hp hk 20 5 hc f1
theorem fence_rows : ∀ r ∈ rowsL, (r.1 = 50 ∨ r.1 = 51 ↔ r.2.1 = 10 ∧ r.2.2.1 = 28799) := by decide +kernel
theorem atom_rows : ∀ r ∈ rowsL, (classT r.1 = 5 ↔ r.2.1 = 0 ∧ (r.2.2.1 = 4160778367 ∨ r.2.2.1 = 4193284223)) := by decide +kernel
/-- is a bit of no account? -/
def noneB (op k : Int) : Bool := ((op == 50 || op == 51) && ((decide (7 ≤ k) && decide (k ≤ 11)) || decide (15 ≤ k))) || (classT op == 5 && (k == 25 || k == 26))
theorem flip_ne {p : Int} (hp : P32 p) {k : Nat} (hk : k < 32) : flip p k ≠ p := fun h => flip_other hp hk 0 32 ⟨Nat.zero_le _, by omega⟩ (by rw [h])
theorem same_iff {p : Int} (hp : P32 p) {k : Nat} (hk : k < 32) : decide (decT p = decT (flip p k)) = noneB (decT p).1 k := by
  have hq := flip_P32 p k
  rcases dec_row hp with ⟨h0, -⟩ | ⟨r, -, hr, hm, h, hok⟩
  · -- none
    rw [h0]
    have e2 : noneB (ill p).1 k = false := rfl
    rw [e2]
    refine decide_eq_false fun he => ?_
    rcases dec_row hq with ⟨h1, -⟩ | ⟨r, -, hr, -, -, hok⟩
    · rw [h1] at he
      have : p = flip p k := congrArg (fun x : T7 => x.2.2.2.2.1) he
      exact flip_ne hp hk this.symm
    · rw [← he] at hok
      have h1 := hok.1
      have h2 := tbl_ok r hr
      unfold tblOK at h2
      simp only [Bool.and_eq_true, decide_eq_true_iff] at h2
      have : (ill p).1 = 0 := rfl
      omega
  · have ho := hok.1
    cases hv : noneB (decT p).1 k with
    | true =>
      refine decide_eq_true ?_
      unfold noneB at hv
      simp only [Bool.or_eq_true, Bool.and_eq_true, decide_eq_true_iff, beq_iff_eq] at hv
      rw [ho] at hv
      have hqm : meetsF (flip p k) r = true := by
        rcases hv with ⟨hf, hb⟩ | ⟨hc, hb⟩
        · obtain ⟨e1, e2⟩ := (fence_rows r hr).1 hf
          have a1 := flip_same hp hk 0 7 (by omega)
          have a2 := flip_same hp hk 12 3 (by omega)
          rw [Int.pow_zero, Int.ediv_one, Int.ediv_one] at a1
          have a1' : flip p k % 128 = p % 128 := a1
          have a2' : flip p k / 4096 % 8 = p / 4096 % 8 := a2
          unfold meetsF at hm ⊢
          rw [e2] at hm ⊢
          rw [a1', a2']
          exact hm
        · obtain ⟨e1, e2⟩ := (atom_rows r hr).1 hc
          have a1 := flip_same hp hk 0 7 (by omega)
          rw [Int.pow_zero, Int.ediv_one, Int.ediv_one] at a1
          have a1' : flip p k % 128 = p % 128 := a1
          have a2' : flip p k / 4096 % 8 = p / 4096 % 8 := flip_same hp hk 12 3 (by omega)
          have a3' : flip p k / 1048576 % 32 = p / 1048576 % 32 := flip_same hp hk 20 5 (by omega)
          have a4' : flip p k / 134217728 % 32 = p / 134217728 % 32 := flip_same hp hk 27 5 (by omega)
          unfold meetsF at hm ⊢
          rcases e2 with e2 | e2
          · rw [e2] at hm ⊢
            rw [a1', a2', a4']
            exact hm
          · rw [e2] at hm ⊢
            rw [a1', a2', a3', a4']
            exact hm
      rw [h, dec_found hq hr hqm]
      rcases hv with ⟨hf, hb⟩ | ⟨hc, hb⟩
      · rw [((fence_rows r hr).1 hf).1]; rfl
      · rw [((atom_rows r hr).1 hc).1]
        have a1' : flip p k / 128 % 32 = p / 128 % 32 := flip_same hp hk 7 5 (by omega)
        have a2' : flip p k / 32768 % 32 = p / 32768 % 32 := flip_same hp hk 15 5 (by omega)
        have a3' : flip p k / 1048576 % 32 = p / 1048576 % 32 := flip_same hp hk 20 5 (by omega)
        show (r.1, p / 128 % 32, p / 32768 % 32, p / 1048576 % 32, (0 : Int), (0 : Int), (4 : Int)) = (r.1, flip p k / 128 % 32, flip p k / 32768 % 32, flip p k / 1048576 % 32, 0, 0, 4)
        rw [a1', a2', a3']
    | false =>
      refine decide_eq_false fun he => ?_
      rw [ho] at hv
      -- the other parcel meets the same row
      rcases dec_row hq with ⟨h1, -⟩ | ⟨s, -, hs, hms, h1, hoks⟩
      · rw [h1] at he
        rw [he] at ho
        have h2 := tbl_ok r hr
        unfold tblOK at h2
        simp only [Bool.and_eq_true, decide_eq_true_iff] at h2
        have : (ill (flip p k)).1 = 0 := rfl
        omega
      · have hsr : s = r := op_row' hs hr (by rw [← hoks.1, ← he, ho])
        subst hsr
        rw [h, h1] at he
        have hcm := row_combo s hr
        have hfe := fence_rows s hr
        have hat := atom_rows s hr
        obtain ⟨op, kk, m, a⟩ := s
        simp only [combos, List.mem_cons, Prod.mk.injEq, List.not_mem_nil, or_false] at hcm
        simp only at hv hfe hat he
        unfold noneB at hv
        rcases hcm with ⟨rfl, rfl⟩ | ⟨rfl, rfl⟩ | ⟨rfl, rfl⟩ | ⟨rfl, rfl⟩ | ⟨rfl, rfl⟩ | ⟨rfl, rfl⟩ | ⟨rfl, rfl⟩ | ⟨rfl, rfl⟩ | ⟨rfl, rfl⟩ | ⟨rfl, rfl⟩ | ⟨rfl, rfl⟩ | ⟨rfl, rfl⟩ | ⟨rfl, rfl⟩ | ⟨rfl, rfl⟩ | ⟨rfl, rfl⟩
        · exact diff_0_4261441663 hp hk hm hms he
        · have hc := hat.2 (by simp)
          simp [hc] at hv
          exact diff_0_4160778367 hp hk (n25 := by omega) (n26 := by omega) hm hms he
        · have hc := hat.2 (by simp)
          simp [hc] at hv
          exact diff_0_4193284223 hp hk (n25 := by omega) (n26 := by omega) hm hms he
        · exact diff_1_28799 hp hk hm hms he
        · exact diff_2_4227887231 hp hk hm hms he
        · exact diff_3_4261441663 hp hk hm hms he
        · exact diff_4_28799 hp hk hm hms he
        · exact diff_5_28799 hp hk hm hms he
        · exact diff_6_127 hp hk hm hms he
        · exact diff_7_127 hp hk hm hms he
        · exact diff_8_28799 hp hk hm hms he
        · exact diff_9_28799 hp hk hm hms he
        · have hc := hfe.2 (by simp)
          have hc' : (op == 50 || op == 51) = true := by simpa using hc
          rw [hc'] at hv
          simp at hv
          exact diff_10_28799 hp hk (n7 := by omega) (n8 := by omega) (n9 := by omega) (n10 := by omega) (n11 := by omega) (n15 := by omega) (n16 := by omega) (n17 := by omega) (n18 := by omega) (n19 := by omega) (n20 := by omega) (n21 := by omega) (n22 := by omega) (n23 := by omega) (n24 := by omega) (n25 := by omega) (n26 := by omega) (n27 := by omega) (n28 := by omega) (n29 := by omega) (n30 := by omega) (n31 := by omega) hm hms he
        · exact diff_10_4294967295 hp hk hm hms he
        · exact diff_11_4261445631 hp hk hm hms he
end Go.Proofs.Ytogdifjdlkpehaa.PA
