/- The reference's Decode is the program's: which row meets a parcel, by its fields. -/
import Derived.Test.YtogdifjdlkpehaaHDec
import Derived.Test.YtogdifjdlkpehaaHRef
namespace Go.Proofs.Ytogdifjdlkpehaa.PA
open Go.RowKit
set_option linter.all false

theorem and_u32 {p m : Int} (hp : P32 p) (hm : P32 m) : bits .and .u32 p m = ((p.toNat &&& m.toNat : Nat) : Int) := by
  rw [u32_bits]
  show (((BitVec.ofInt 32 p &&& BitVec.ofInt 32 m).toNat : Nat) : Int) = _
  unfold P32 at hp hm
  have h0 : (BitVec.ofInt 32 p).toNat = p.toNat := by rw [BitVec.toNat_ofInt]; omega
  have h1 : (BitVec.ofInt 32 m).toNat = m.toNat := by rw [BitVec.toNat_ofInt]; omega
  rw [BitVec.toNat_and, h0, h1]
theorem and_split (x m k : Nat) : x &&& m = 2 ^ k * ((x / 2 ^ k) &&& (m / 2 ^ k)) + ((x % 2 ^ k) &&& (m % 2 ^ k)) := by
  rw [← Nat.and_div_two_pow, ← Nat.and_mod_two_pow, Nat.div_add_mod]
theorem and_all (x k : Nat) : x &&& (2 ^ k - 1) = x % 2 ^ k := Nat.and_two_pow_sub_one_eq_mod x k

/-- one of the masks: what is left of a number under it -/
theorem m_127 (n : Nat) : n &&& 127 = n % 128 := and_all n 7
theorem m_707f (n : Nat) : n &&& 28799 = n % 128 + n / 4096 % 8 * 4096 := by
  rw [and_split n 28799 12, show (28799 : Nat) / 2 ^ 12 = 2 ^ 3 - 1 from rfl, and_all, show (28799 : Nat) % 2 ^ 12 = 2 ^ 7 - 1 from rfl, and_all]
  omega
theorem m_fc (n : Nat) (h : n < 4294967296) : n &&& 4227887231 = n % 128 + n / 4096 % 8 * 4096 + n / 67108864 % 64 * 67108864 := by
  rw [and_split n 4227887231 26, show (4227887231 : Nat) / 2 ^ 26 = 2 ^ 6 - 1 from rfl, and_all, show (4227887231 : Nat) % 2 ^ 26 = 28799 from rfl, m_707f]
  omega
theorem m_fe (n : Nat) (h : n < 4294967296) : n &&& 4261441663 = n % 128 + n / 4096 % 8 * 4096 + n / 33554432 % 128 * 33554432 := by
  rw [and_split n 4261441663 25, show (4261441663 : Nat) / 2 ^ 25 = 2 ^ 7 - 1 from rfl, and_all, show (4261441663 : Nat) % 2 ^ 25 = 28799 from rfl, m_707f]
  omega
theorem m_fe7 (n : Nat) (h : n < 4294967296) : n &&& 4261445631 = n % 128 + n / 128 % 32 * 128 + n / 4096 % 8 * 4096 + n / 33554432 % 128 * 33554432 := by
  rw [and_split n 4261445631 25, show (4261445631 : Nat) / 2 ^ 25 = 2 ^ 7 - 1 from rfl, and_all, show (4261445631 : Nat) % 2 ^ 25 = 2 ^ 15 - 1 from rfl, and_all]
  omega
theorem m_ff (n : Nat) (h : n < 4294967296) : n &&& 4294967295 = n := by
  rw [show (4294967295 : Nat) = 2 ^ 32 - 1 from rfl, and_all]
  omega
theorem m_f8 (n : Nat) (h : n < 4294967296) : n &&& 4160778367 = n % 128 + n / 4096 % 8 * 4096 + n / 134217728 % 32 * 134217728 := by
  rw [and_split n 4160778367 27, show (4160778367 : Nat) / 2 ^ 27 = 2 ^ 5 - 1 from rfl, and_all, show (4160778367 : Nat) % 2 ^ 27 = 28799 from rfl, m_707f]
  omega
theorem m_f9 (n : Nat) (h : n < 4294967296) : n &&& 4193284223 = n % 128 + n / 4096 % 8 * 4096 + n / 1048576 % 32 * 1048576 + n / 134217728 % 32 * 134217728 := by
  rw [and_split n 4193284223 27, show (4193284223 : Nat) / 2 ^ 27 = 2 ^ 5 - 1 from rfl, and_all, show (4193284223 : Nat) % 2 ^ 27 = 32534655 from rfl,
    and_split _ 32534655 20, show (32534655 : Nat) / 2 ^ 20 = 2 ^ 5 - 1 from rfl, and_all, show (32534655 : Nat) % 2 ^ 20 = 28799 from rfl, m_707f]
  omega

theorem beq_of_iff {a b : Int} {q : Bool} (h : a = b ↔ q = true) : (a == b) = q := by
  rw [Bool.eq_iff_iff, beq_iff_eq]; exact h
theorem meets_7f {p : Int} (hp : P32 p) (o k a : Int) (ha : 0 ≤ a ∧ a < 128) : meets p (o, k, 127, a) = decide (p % 128 = a % 128) := by
  unfold meets
  refine beq_of_iff ?_
  rw [decide_eq_true_iff]
  show bits .and .u32 p 127 = a ↔ _
  rw [and_u32 hp (by unfold P32; omega), show ((127 : Int)).toNat = 127 from rfl, m_127]
  unfold P32 at hp
  omega
theorem meets_707f {p : Int} (hp : P32 p) (o k a : Int) (ha : 0 ≤ a ∧ a % 128 + a / 4096 % 8 * 4096 = a) : meets p (o, k, 28799, a) = decide (p % 128 = a % 128 ∧ p / 4096 % 8 = a / 4096 % 8) := by
  unfold meets
  refine beq_of_iff ?_
  rw [decide_eq_true_iff]
  show bits .and .u32 p 28799 = a ↔ _
  rw [and_u32 hp (by unfold P32; omega), show ((28799 : Int)).toNat = 28799 from rfl, m_707f]
  unfold P32 at hp
  omega
theorem meets_fc {p : Int} (hp : P32 p) (o k a : Int) (ha : 0 ≤ a ∧ a % 128 + a / 4096 % 8 * 4096 + a / 67108864 % 64 * 67108864 = a) : meets p (o, k, 4227887231, a) = decide (p % 128 = a % 128 ∧ p / 4096 % 8 = a / 4096 % 8 ∧ p / 67108864 % 64 = a / 67108864 % 64) := by
  unfold meets
  refine beq_of_iff ?_
  rw [decide_eq_true_iff]
  show bits .and .u32 p 4227887231 = a ↔ _
  rw [and_u32 hp (by unfold P32; omega), show ((4227887231 : Int)).toNat = 4227887231 from rfl, m_fc _ (by unfold P32 at hp; omega)]
  unfold P32 at hp
  omega
theorem meets_fe {p : Int} (hp : P32 p) (o k a : Int) (ha : 0 ≤ a ∧ a % 128 + a / 4096 % 8 * 4096 + a / 33554432 % 128 * 33554432 = a) : meets p (o, k, 4261441663, a) = decide (p % 128 = a % 128 ∧ p / 4096 % 8 = a / 4096 % 8 ∧ p / 33554432 % 128 = a / 33554432 % 128) := by
  unfold meets
  refine beq_of_iff ?_
  rw [decide_eq_true_iff]
  show bits .and .u32 p 4261441663 = a ↔ _
  rw [and_u32 hp (by unfold P32; omega), show ((4261441663 : Int)).toNat = 4261441663 from rfl, m_fe _ (by unfold P32 at hp; omega)]
  unfold P32 at hp
  omega
theorem meets_fe7 {p : Int} (hp : P32 p) (o k a : Int) (ha : 0 ≤ a ∧ a % 128 + a / 128 % 32 * 128 + a / 4096 % 8 * 4096 + a / 33554432 % 128 * 33554432 = a) : meets p (o, k, 4261445631, a) = decide (p % 128 = a % 128 ∧ p / 128 % 32 = a / 128 % 32 ∧ p / 4096 % 8 = a / 4096 % 8 ∧ p / 33554432 % 128 = a / 33554432 % 128) := by
  unfold meets
  refine beq_of_iff ?_
  rw [decide_eq_true_iff]
  show bits .and .u32 p 4261445631 = a ↔ _
  rw [and_u32 hp (by unfold P32; omega), show ((4261445631 : Int)).toNat = 4261445631 from rfl, m_fe7 _ (by unfold P32 at hp; omega)]
  unfold P32 at hp
  omega
theorem meets_ff {p : Int} (hp : P32 p) (o k a : Int) : meets p (o, k, 4294967295, a) = decide (p = a) := by
  unfold meets
  refine beq_of_iff ?_
  rw [decide_eq_true_iff]
  show bits .and .u32 p 4294967295 = a ↔ _
  rw [and_u32 hp (by unfold P32; omega), show ((4294967295 : Int)).toNat = 4294967295 from rfl, m_ff _ (by unfold P32 at hp; omega)]
  unfold P32 at hp
  omega
theorem meets_f8 {p : Int} (hp : P32 p) (o k a : Int) (ha : 0 ≤ a ∧ a % 128 + a / 4096 % 8 * 4096 + a / 134217728 % 32 * 134217728 = a) : meets p (o, k, 4160778367, a) = decide (p % 128 = a % 128 ∧ p / 4096 % 8 = a / 4096 % 8 ∧ p / 134217728 % 32 = a / 134217728 % 32) := by
  unfold meets
  refine beq_of_iff ?_
  rw [decide_eq_true_iff]
  show bits .and .u32 p 4160778367 = a ↔ _
  rw [and_u32 hp (by unfold P32; omega), show ((4160778367 : Int)).toNat = 4160778367 from rfl, m_f8 _ (by unfold P32 at hp; omega)]
  unfold P32 at hp
  omega
theorem meets_f9 {p : Int} (hp : P32 p) (o k a : Int) (ha : 0 ≤ a ∧ a % 128 + a / 4096 % 8 * 4096 + a / 1048576 % 32 * 1048576 + a / 134217728 % 32 * 134217728 = a) : meets p (o, k, 4193284223, a) = decide (p % 128 = a % 128 ∧ p / 4096 % 8 = a / 4096 % 8 ∧ p / 1048576 % 32 = a / 1048576 % 32 ∧ p / 134217728 % 32 = a / 134217728 % 32) := by
  unfold meets
  refine beq_of_iff ?_
  rw [decide_eq_true_iff]
  show bits .and .u32 p 4193284223 = a ↔ _
  rw [and_u32 hp (by unfold P32; omega), show ((4193284223 : Int)).toNat = 4193284223 from rfl, m_f9 _ (by unfold P32 at hp; omega)]
  have e : ((p.toNat % 128 + p.toNat / 4096 % 8 * 4096 + p.toNat / 1048576 % 32 * 1048576 + p.toNat / 134217728 % 32 * 134217728 : Nat) : Int) = p % 128 + p / 4096 % 8 * 4096 + p / 1048576 % 32 * 1048576 + p / 134217728 % 32 * 134217728 := by
    have h : ((p.toNat : Nat) : Int) = p := by unfold P32 at hp; omega
    simp only [Int.natCast_add, Int.natCast_mul, Int.natCast_emod, Int.natCast_ediv, h]
    rfl
  rw [e]
  obtain ⟨ha0, ha⟩ := ha
  have b0 : 0 ≤ p % 128 ∧ p % 128 < 128 := by omega
  have b1 : 0 ≤ p / 4096 % 8 ∧ p / 4096 % 8 < 8 := by omega
  have b2 : 0 ≤ p / 1048576 % 32 ∧ p / 1048576 % 32 < 32 := by omega
  have b3 : 0 ≤ p / 134217728 % 32 ∧ p / 134217728 % 32 < 32 := by omega
  have c0 : 0 ≤ a % 128 ∧ a % 128 < 128 := by omega
  have c1 : 0 ≤ a / 4096 % 8 ∧ a / 4096 % 8 < 8 := by omega
  have c2 : 0 ≤ a / 1048576 % 32 ∧ a / 1048576 % 32 < 32 := by omega
  have c3 : 0 ≤ a / 134217728 % 32 ∧ a / 134217728 % 32 < 32 := by omega
  clear e hp ha0
  generalize p % 128 = x0 at *
  generalize p / 4096 % 8 = x1 at *
  generalize p / 1048576 % 32 = x2 at *
  generalize p / 134217728 % 32 = x3 at *
  generalize a % 128 = y0 at *
  generalize a / 4096 % 8 = y1 at *
  generalize a / 1048576 % 32 = y2 at *
  generalize a / 134217728 % 32 = y3 at *
  omega

/-- what a row asks, by its fields -/
def meetsF (p : Int) (r : R4) : Bool :=
  decide (p % 128 = r.2.2.2 % 128) && (if r.2.2.1 = 127 then true
  else if r.2.2.1 = 28799 then decide (p / 4096 % 8 = r.2.2.2 / 4096 % 8)
  else if r.2.2.1 = 4227887231 then decide (p / 4096 % 8 = r.2.2.2 / 4096 % 8 ∧ p / 67108864 % 64 = r.2.2.2 / 67108864 % 64)
  else if r.2.2.1 = 4261441663 then decide (p / 4096 % 8 = r.2.2.2 / 4096 % 8 ∧ p / 33554432 % 128 = r.2.2.2 / 33554432 % 128)
  else if r.2.2.1 = 4261445631 then decide (p / 128 % 32 = r.2.2.2 / 128 % 32 ∧ p / 4096 % 8 = r.2.2.2 / 4096 % 8 ∧ p / 33554432 % 128 = r.2.2.2 / 33554432 % 128)
  else if r.2.2.1 = 4160778367 then decide (p / 4096 % 8 = r.2.2.2 / 4096 % 8 ∧ p / 134217728 % 32 = r.2.2.2 / 134217728 % 32)
  else if r.2.2.1 = 4193284223 then decide (p / 4096 % 8 = r.2.2.2 / 4096 % 8 ∧ p / 1048576 % 32 = r.2.2.2 / 1048576 % 32 ∧ p / 134217728 % 32 = r.2.2.2 / 134217728 % 32)
  else decide (p = r.2.2.2))
def okRow (r : R4) : Bool := match r with
  | (_, _, 127, a) => decide (0 ≤ a ∧ a < 128)
  | (_, _, 28799, a) => decide (0 ≤ a ∧ a % 128 + a / 4096 % 8 * 4096 = a)
  | (_, _, 4227887231, a) => decide (0 ≤ a ∧ a % 128 + a / 4096 % 8 * 4096 + a / 67108864 % 64 * 67108864 = a)
  | (_, _, 4261441663, a) => decide (0 ≤ a ∧ a % 128 + a / 4096 % 8 * 4096 + a / 33554432 % 128 * 33554432 = a)
  | (_, _, 4261445631, a) => decide (0 ≤ a ∧ a % 128 + a / 128 % 32 * 128 + a / 4096 % 8 * 4096 + a / 33554432 % 128 * 33554432 = a)
  | (_, _, 4160778367, a) => decide (0 ≤ a ∧ a % 128 + a / 4096 % 8 * 4096 + a / 134217728 % 32 * 134217728 = a)
  | (_, _, 4193284223, a) => decide (0 ≤ a ∧ a % 128 + a / 4096 % 8 * 4096 + a / 1048576 % 32 * 1048576 + a / 134217728 % 32 * 134217728 = a)
  | (_, _, m, _) => decide (m = 4294967295)
theorem rows_okRow : rowsL.all okRow = true := by decide +kernel
theorem meets_is {p : Int} (hp : P32 p) {r : R4} (hr : okRow r = true) : meets p r = meetsF p r := by
  obtain ⟨o, k, m, a⟩ := r
  unfold okRow at hr
  unfold meetsF
  split at hr <;> rename_i heq <;> (try (simp only [Prod.mk.injEq] at heq; obtain ⟨-, -, rfl, rfl⟩ := heq)) <;> (try simp only [decide_eq_true_iff] at hr)
  · rw [meets_7f hp _ _ _ hr]; simp
  · rw [meets_707f hp _ _ _ hr]; simp
  · rw [meets_fc hp _ _ _ hr]; simp
  · rw [meets_fe hp _ _ _ hr]; simp
  · rw [meets_fe7 hp _ _ _ hr]; simp
  · rw [meets_f8 hp _ _ _ hr]; simp
  · rw [meets_f9 hp _ _ _ hr]; simp
  · subst hr
    rw [meets_ff hp]
    simp
    intro h; rw [h]
theorem find_same {α : Type} {q c : α → Bool} : ∀ (l : List α), (∀ r ∈ l, q r = c r) → l.find? q = l.find? c
  | [], _ => rfl
  | x :: l, h => by rw [List.find?_cons, List.find?_cons, h x (by simp), find_same l fun r hr => h r (by simp [hr])]
theorem find_part {α : Type} {q c : α → Bool} : ∀ (l : List α), (∀ r ∈ l, q r = true → c r = true) → l.find? q = (l.filter c).find? q
  | [], _ => rfl
  | x :: l, h => by
    rw [List.find?_cons, List.filter_cons, find_part l fun r hr => h r (by simp [hr])]
    cases hq : q x with
    | true => rw [if_pos (h x (by simp) hq), List.find?_cons, hq]
    | false =>
      by_cases hc : c x = true
      · rw [if_pos hc, List.find?_cons, hq]
      · rw [if_neg hc]
/-- the row of a parcel -/
def rowOf (p : Int) : Option R4 := (rowsL.filter fun r => r.2.2.2 % 128 == p % 128).find? (meetsF p)
theorem ref_row {p : Int} (hp : P32 p) : refT p = match rowOf p with | some r => fillT p r.1 r.2.1 | none => ill p := by
  have e : rowsL.find? (meets p) = rowOf p := by
    unfold rowOf
    rw [← find_part]
    · exact find_same rowsL fun r hr => meets_is hp (List.all_eq_true.1 rows_okRow r hr)
    · intro r hr h
      unfold meetsF at h
      simp only [Bool.and_eq_true, decide_eq_true_iff] at h
      simp [h.1]
  unfold refT
  rw [e]
  rfl

end Go.Proofs.Ytogdifjdlkpehaa.PA
