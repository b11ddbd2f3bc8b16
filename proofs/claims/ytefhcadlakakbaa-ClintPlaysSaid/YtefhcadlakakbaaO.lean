/- The registers as numbers and as bytes: the plain law. -/
import Derived.Test.YtefhcadlakakbaaM
namespace Go.Proofs.Ytefhcadlakakbaa
open Go.RowKit
set_option linter.all false

theorem p256 (n : Nat) : (256 : Int) ^ n = 2 ^ (8 * n) := by rw [Int.pow_mul]; rfl
theorem p256_pos (n : Nat) : (0 : Int) < 256 ^ n := Int.pow_pos (by decide)
theorem mod_split (X : Int) (m : Int) (hm : 0 < m) : X % (256 * m) = X / 256 % m * 256 + X % 256 := by
  have h1 : X = 256 * (X / 256) + X % 256 := by omega
  have h2 : X / 256 = m * (X / 256 / m) + X / 256 % m := (Int.mul_ediv_add_emod _ _).symm
  have h3 := Int.emod_nonneg (X / 256) (Int.ne_of_gt hm)
  have h4 := Int.emod_lt_of_pos (X / 256) hm
  have h5 : X = (X / 256 % m * 256 + X % 256) + (256 * m) * (X / 256 / m) := by
    rw [Int.mul_assoc]; omega
  have h6 : (X / 256 % m * 256 + X % 256) % (256 * m) = X / 256 % m * 256 + X % 256 := Int.emod_eq_of_lt (by omega) (by omega)
  calc X % (256 * m) = ((X / 256 % m * 256 + X % 256) + (256 * m) * (X / 256 / m)) % (256 * m) := by rw [← h5]
    _ = _ := by rw [Int.add_mul_emod_self_left, h6]
theorem numb_eq (q : Nat → Int) : ∀ (n p : Nat) (X : Int), (∀ i, i < n → q (p + i) = X / 256 ^ i % 256) → numb q p n = X % 256 ^ n
  | 0, p, X, _ => by simp [numb]
  | n + 1, p, X, h => by
    have h0 := h 0 (by omega)
    have ih := numb_eq q n (p + 1) (X / 256) fun i hi => by
      have := h (i + 1) (by omega)
      rw [show p + 1 + i = p + (i + 1) by omega, this, Int.pow_succ, Int.mul_comm, ← Int.ediv_ediv_of_nonneg (by decide)]
    simp only [numb]
    rw [ih, show q p = X % 256 by simpa using h0, Int.pow_succ, Int.mul_comm (256 ^ n) 256, mod_split X _ (p256_pos n)]

/-- the bytes are those of the numbers -/
structure Rel (R q : Nat → Int) : Prop where
  good : Good R
  isB : IsB q
  eq : ∀ k, k ≤ 2 → ∀ j : Nat, (j : Int) < sz k → q (pb k + j) = R k / 256 ^ j % 256

theorem Rel.read {R q : Nat → Int} (h : Rel R q) (off wd : Int) : rfR q off wd = rdR R off wd := by
  cases e : acc off wd with
  | none => unfold rfR rdR; rw [e]
  | some k =>
    obtain ⟨hk, hw, hm, h1, h2, h3, h4, h5, h6⟩ := acc_hit e
    rw [rd_eq h.good e, mask_pow hw]
    have h0 : rfR q off wd = numb q (pb k + (off - bs k).toNat) wd.toNat := by unfold rfR; rw [e]
    rw [h0]
    have hs : (8 * (off - bs k)).toNat = 8 * (off - bs k).toNat := by omega
    have hn : (8 * wd).toNat = 8 * wd.toNat := by omega
    rw [hs, hn, ← p256, ← p256]
    refine numb_eq q _ _ _ fun i hi => ?_
    rw [Nat.add_assoc, h.eq k hk _ (by omega), Int.pow_add, ← Int.ediv_ediv_of_nonneg (Int.le_of_lt (p256_pos _))]

theorem byte_bits (Z : BitVec 64) (j : Nat) : U Z / 256 ^ j % 256 = U ((Z >>> (8 * j)) &&& 255#64) := by
  rw [p256, bv_shr]
  unfold U
  rw [BitVec.toNat_and, show (255#64).toNat = 2 ^ 8 - 1 from rfl, Nat.and_two_pow_sub_one_eq_mod]
  omega
theorem m255 (i : Nat) : (255#64).getLsbD i = decide (i < 8) := by
  have : (255#64 : BitVec 64) = (BitVec.allOnes 8).setWidth 64 := by decide
  rw [this, BitVec.getLsbD_setWidth, BitVec.getLsbD_allOnes]; simp; omega
theorem mask_bits {wd : Int} (hw : wd = 1 ∨ wd = 2 ∨ wd = 4 ∨ wd = 8) : ∃ m : BitVec 64, maskW wd = U m ∧ ∀ i, m.getLsbD i = decide (i < 8 * wd.toNat) := by
  rcases hw with rfl | rfl | rfl | rfl
  · exact ⟨255#64, by decide, fun i => by
      have : (255#64 : BitVec 64) = (BitVec.allOnes 8).setWidth 64 := by decide
      rw [this, BitVec.getLsbD_setWidth, BitVec.getLsbD_allOnes]; simp; omega⟩
  · exact ⟨65535#64, by decide, fun i => by
      have : (65535#64 : BitVec 64) = (BitVec.allOnes 16).setWidth 64 := by decide
      rw [this, BitVec.getLsbD_setWidth, BitVec.getLsbD_allOnes]; simp; omega⟩
  · exact ⟨4294967295#64, by decide, fun i => by
      have : (4294967295#64 : BitVec 64) = (BitVec.allOnes 32).setWidth 64 := by decide
      rw [this, BitVec.getLsbD_setWidth, BitVec.getLsbD_allOnes]; simp; omega⟩
  · exact ⟨18446744073709551615#64, by decide, fun i => by
      have : (18446744073709551615#64 : BitVec 64) = BitVec.allOnes 64 := by decide
      rw [this, BitVec.getLsbD_allOnes]; simp⟩

theorem byte_wr {x v : Int} {wd : Int} (s j : Nat) (hx0 : 0 ≤ x) (hx1 : x < 18446744073709551616) (v0 : 0 ≤ v) (v1 : v < 18446744073709551616) (hw : wd = 1 ∨ wd = 2 ∨ wd = 4 ∨ wd = 8) (hj : j < 8) :
    wrV x (8 * s) (maskW wd) 18446744073709551615 v / 256 ^ j % 256 = if s ≤ j ∧ j < s + wd.toNat then v / 256 ^ (j - s) % 256 else x / 256 ^ j % 256 := by
  obtain ⟨X, rfl⟩ := bv_of_int hx0 hx1
  obtain ⟨V, rfl⟩ := bv_of_int v0 v1
  have hM : (18446744073709551615 : Int) = U (BitVec.allOnes 64) := by decide
  obtain ⟨m, hm, hmb⟩ := mask_bits hw
  have e1 : wrV (U X) (8 * s) (maskW wd) 18446744073709551615 (U V) = U (((X &&& ~~~(m <<< (8 * s))) ||| ((V &&& m) <<< (8 * s))) &&& BitVec.allOnes 64) := by
    unfold wrV
    rw [show ((8 * (s : Int)).toNat) = 8 * s by omega, hm, hM, bv_and, IntKind.wrap_u64, IntKind.wrap_u64, bv_shl, bv_shl, bv_andNot, bv_or, bv_and]
  rw [e1, byte_bits, byte_bits, byte_bits]
  split
  · rename_i h
    congr 1
    apply BitVec.eq_of_getLsbD_eq
    intro i hi
    simp only [BitVec.getLsbD_and, BitVec.getLsbD_or, BitVec.getLsbD_ushiftRight, BitVec.getLsbD_shiftLeft, BitVec.getLsbD_not, BitVec.getLsbD_allOnes, hmb, m255]
    by_cases h8 : i < 8
    · have a1 : 8 * j + i < 64 := by omega
      have a2 : ¬ 8 * j + i < 8 * s := by omega
      have a3 : 8 * j + i - 8 * s = 8 * (j - s) + i := by omega
      have a4 : 8 * (j - s) + i < 8 * wd.toNat := by omega
      simp [h8, a1, a2, a3, a4]
    · simp [h8]
  · rename_i h
    congr 1
    apply BitVec.eq_of_getLsbD_eq
    intro i hi
    simp only [BitVec.getLsbD_and, BitVec.getLsbD_or, BitVec.getLsbD_ushiftRight, BitVec.getLsbD_shiftLeft, BitVec.getLsbD_not, BitVec.getLsbD_allOnes, hmb, m255]
    by_cases h8 : i < 8
    · have a1 : 8 * j + i < 64 := by omega
      by_cases a2 : 8 * j + i < 8 * s
      · simp [h8, a1, a2]
      · have a4 : ¬ 8 * j + i - 8 * s < 8 * wd.toNat := by omega
        simp [h8, a1, a2, a4]
    · simp [h8]

theorem one_bit (i : Nat) : (1#64).getLsbD i = decide (i = 0) := by
  have := BitVec.getLsbD_twoPow (w := 64) 0 i
  rw [show BitVec.twoPow 64 0 = 1#64 by decide] at this
  rw [this]
  by_cases hz : i = 0
  · subst hz; decide
  · have : ¬ 0 = i := fun h => hz h.symm
    simp [hz, this]
theorem mod2_bits (Z : BitVec 64) : U Z % 2 = U (Z &&& 1#64) := by
  unfold U
  rw [BitVec.toNat_and, show (1#64).toNat = 2 ^ 1 - 1 from rfl, Nat.and_two_pow_sub_one_eq_mod]
  omega
theorem wr_zero {x v : Int} {wd : Int} (s : Nat) (hx : x = 0 ∨ x = 1) (v0 : 0 ≤ v) (v1 : v < 18446744073709551616) (hw : wd = 1 ∨ wd = 2 ∨ wd = 4 ∨ wd = 8) :
    wrV x (8 * s) (maskW wd) 1 v = if s = 0 then v % 2 else x := by
  have hx2 : x = x % 2 := by omega
  obtain ⟨X, hX⟩ := bv_of_int (v := x) (by omega) (by omega)
  obtain ⟨V, rfl⟩ := bv_of_int v0 v1
  obtain ⟨m, hm, hmb⟩ := mask_bits hw
  have e1 : wrV x (8 * s) (maskW wd) 1 (U V) = U (((X &&& ~~~(m <<< (8 * s))) ||| ((V &&& m) <<< (8 * s))) &&& 1#64) := by
    unfold wrV
    rw [← hX, show ((8 * (s : Int)).toNat) = 8 * s by omega, hm, show (1 : Int) = U 1#64 from rfl, bv_and, IntKind.wrap_u64, IntKind.wrap_u64, bv_shl, bv_shl, bv_andNot, bv_or, bv_and]
  rw [e1]
  split
  · rename_i h
    subst h
    rw [mod2_bits]
    congr 1
    apply BitVec.eq_of_getLsbD_eq
    intro i hi
    simp only [BitVec.getLsbD_and, BitVec.getLsbD_or, BitVec.getLsbD_shiftLeft, BitVec.getLsbD_not, hmb, one_bit]
    by_cases hz : i = 0
    · subst hz
      have : 0 < wd.toNat := by omega
      simp [this]
    · simp [hz]
  · rename_i h
    rw [hx2, ← hX, mod2_bits]
    congr 1
    apply BitVec.eq_of_getLsbD_eq
    intro i hi
    simp only [BitVec.getLsbD_and, BitVec.getLsbD_or, BitVec.getLsbD_shiftLeft, BitVec.getLsbD_not, hmb, one_bit]
    by_cases hz : i = 0
    · subst hz
      have : 0 < 8 * s := by omega
      simp [this]
    · simp [hz]

theorem Rel.zero {R q : Nat → Int} (h : Rel R q) : q 0 = R 0 := by
  have := h.eq 0 (by decide) 0 (by decide)
  rw [show pb 0 + 0 = 0 from rfl] at this
  rw [this]
  rcases h.good.1 with e | e <;> rw [e] <;> rfl
theorem numb_zero (q : Nat → Int) (hB : IsB q) : numb q 0 4 % 2 = q 0 % 2 := by
  simp only [numb]; omega
theorem sz_le (k : Nat) : sz k ≤ 8 := by unfold sz; split <;> decide
theorem Rel.write {R q : Nat → Int} (h : Rel R q) (off wd : Int) {v : Int} (v0 : 0 ≤ v) (v1 : v < 18446744073709551616) : Rel (wrR R off wd v) (rfW q off wd v) := by
  cases e : acc off wd with
  | none =>
    have h1 : wrR R off wd v = R := by unfold wrR; rw [e]
    have h2 : rfW q off wd v = q := by unfold rfW; rw [e]
    rw [h1, h2]; exact h
  | some k =>
    obtain ⟨hk, hw, hm, h1, h2, h3, h4, h5, h6⟩ := acc_hit e
    obtain ⟨s, hs⟩ : ∃ s : Nat, off - bs k = s := ⟨(off - bs k).toNat, by omega⟩
    have hR : ∀ j, wrR R off wd v j = if j = k then wrV (R k) (8 * s) (maskW wd) (kp k) v else R j := fun j => by unfold wrR; rw [e, ← hs]
    have hq : rfW q off wd v = rfW1 q (pb k + s) wd.toNat v := by unfold rfW; rw [e]; simp only [hs, Int.toNat_natCast]
    have hB1 := putJ_isB h.isB (pb k + s) wd.toNat v
    rw [hq]
    refine ⟨h.good.write off wd v, putJ_isB hB1 _ _ _, ?_⟩
    have hz1 := numb_zero _ hB1
    have hz0 : ∀ i, putJ q (pb k + s) wd.toNat v i = if pb k + s ≤ i ∧ i < pb k + s + wd.toNat then v / 256 ^ (i - (pb k + s)) % 256 else q i := fun i => rfl
    intro k' hk' j hj
    have hsz := sz_le k
    have hsz' := sz_le k'
    rw [hR]
    -- the second put touches MSIP's bytes alone
    have hk3 : k = 0 ∨ k = 1 ∨ k = 2 := by omega
    have hk3' : k' = 0 ∨ k' = 1 ∨ k' = 2 := by omega
    by_cases h0 : k' = 0
    · subst h0
      rw [show sz 0 = 4 from rfl] at hj
      have e1 : rfW1 q (pb k + s) wd.toNat v (pb 0 + j) = (numb (putJ q (pb k + s) wd.toNat v) 0 4 % 2) / 256 ^ j % 256 := by
        unfold rfW1
        rw [show pb 0 + j = j from Nat.zero_add j]
        show (if 0 ≤ j ∧ j < 0 + 4 then _ else _) = _
        rw [if_pos (by omega), Nat.sub_zero]
      rw [e1, hz1]
      congr 2
      rw [hz0]
      by_cases hk0 : k = 0
      · subst hk0
        rw [if_pos rfl, show kp 0 = 1 from rfl, wr_zero s h.good.1 v0 v1 hw]
        by_cases hs0 : s = 0
        · subst hs0
          rw [if_pos rfl, if_pos (by rw [show pb 0 = 0 from rfl]; omega)]
          simp only [show pb 0 = 0 from rfl, Nat.zero_add, Nat.sub_self, Int.pow_zero, Int.ediv_one]
          omega
        · rw [if_neg hs0, if_neg (by rw [show pb 0 = 0 from rfl]; omega), h.zero]
          have := h.good.1; omega
      · have hp4 : 4 ≤ pb k := by unfold pb; rw [if_neg hk0]; split <;> omega
        rw [if_neg (show ¬ (pb k + s ≤ 0 ∧ 0 < pb k + s + wd.toNat) by omega), if_neg (show ¬ (0 = k) by omega), h.zero]
        have := h.good.1; omega
    · have hp4 : 4 ≤ pb k' := by unfold pb; rw [if_neg h0]; split <;> omega
      have e1 : rfW1 q (pb k + s) wd.toNat v (pb k' + j) = putJ q (pb k + s) wd.toNat v (pb k' + j) := by
        unfold rfW1
        show (if 0 ≤ pb k' + j ∧ pb k' + j < 0 + 4 then _ else _) = _
        rw [if_neg (by omega)]
      rw [e1, hz0]
      by_cases hkk : k' = k
      · subst hkk
        have hkp : kp k' = 18446744073709551615 := by unfold kp; rw [if_neg h0]
        rw [if_pos rfl, hkp, byte_wr s j (h.good.bd hk).1 (h.good.bd hk).2 v0 v1 hw (by omega)]
        by_cases hin : s ≤ j ∧ j < s + wd.toNat
        · rw [if_pos hin, if_pos (by omega), show pb k' + j - (pb k' + s) = j - s by omega]
        · rw [if_neg hin, if_neg (by omega), h.eq k' hk j hj]
      · rw [if_neg hkk, if_neg ?_, h.eq k' hk' j hj]
        rcases hk3 with rfl | rfl | rfl <;> rcases hk3' with rfl | rfl | rfl <;> first | (exfalso; omega) | skip
        all_goals simp only [show pb 0 = 0 from rfl, show pb 1 = 4 from rfl, show pb 2 = 12 from rfl, show sz 0 = 4 from rfl, show sz 1 = 8 from rfl, show sz 2 = 8 from rfl] at *
        all_goals omega
theorem Rel.numb2 {R q : Nat → Int} (h : Rel R q) : numb q 12 8 = R 2 := by
  rw [numb_eq q 8 12 (R 2) (fun i hi => h.eq 2 (by decide) i (by rw [show sz 2 = 8 from rfl]; omega))]
  have := h.good.2.2
  show R 2 % 18446744073709551616 = _
  omega
theorem Rel.numb1 {R q : Nat → Int} (h : Rel R q) : numb q 4 8 = R 1 := by
  rw [numb_eq q 8 4 (R 1) (fun i hi => h.eq 1 (by decide) i (by rw [show sz 1 = 8 from rfl]; omega))]
  have := h.good.2.1
  show R 1 % 18446744073709551616 = _
  omega
theorem Rel.tick {R q : Nat → Int} (h : Rel R q) : Rel (tkR R) (rfT q) := by
  refine ⟨h.good.tick, putJ_isB h.isB _ _ _, ?_⟩
  intro k hk j hj
  unfold rfT
  rw [h.numb2]
  have hz0 : ∀ i, putJ q 12 8 (IntKind.u64.wrap (R 2 + 1)) i = if 12 ≤ i ∧ i < 12 + 8 then (IntKind.u64.wrap (R 2 + 1)) / 256 ^ (i - 12) % 256 else q i := fun i => rfl
  rw [hz0]
  have hk3 : k = 0 ∨ k = 1 ∨ k = 2 := by omega
  rcases hk3 with rfl | rfl | rfl
  · rw [show sz 0 = 4 from rfl] at hj
    rw [if_neg (by rw [show pb 0 = 0 from rfl]; omega), h.eq 0 hk j hj]; rfl
  · rw [show sz 1 = 8 from rfl] at hj
    rw [if_neg (by rw [show pb 1 = 4 from rfl]; omega), h.eq 1 hk j hj]; rfl
  · rw [show sz 2 = 8 from rfl] at hj
    rw [if_pos (by rw [show pb 2 = 12 from rfl]; omega), show pb 2 + j - 12 = j by rw [show pb 2 = 12 from rfl]; omega]; rfl
theorem Rel.bits {R q : Nat → Int} (h : Rel R q) : rfB q = btV (R 0) (R 1) (R 2) := by
  unfold rfB btV
  rw [h.numb1, h.numb2, h.zero]
  rcases h.good.1 with e | e <;> rw [e] <;> rfl
theorem rel0 : Rel (st3 0 18446744073709551615 0) q0 := by
  refine ⟨⟨.inl rfl, by decide, by decide⟩, fun i => by unfold q0; split <;> decide, ?_⟩
  intro k hk j hj
  have hk3 : k = 0 ∨ k = 1 ∨ k = 2 := by omega
  have hj8 : j = 0 ∨ j = 1 ∨ j = 2 ∨ j = 3 ∨ j = 4 ∨ j = 5 ∨ j = 6 ∨ j = 7 := by have := sz_le k; omega
  rcases hk3 with rfl | rfl | rfl <;> rcases hj8 with rfl | rfl | rfl | rfl | rfl | rfl | rfl | rfl <;> first | decide | (exfalso; revert hj; decide)
end Go.Proofs.Ytefhcadlakakbaa
