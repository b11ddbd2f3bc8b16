/- One row at most meets a parcel. -/
import Derived.Test.YtogdifjdlkpehaaImg
namespace Go.Proofs.Ytogdifjdlkpehaa.PA
open Go.RowKit
set_option linter.all false
def apartB (r s : R4) : Bool := decide (r = s) || decide ((r.2.2.1.toNat &&& s.2.2.1.toNat) &&& r.2.2.2.toNat ≠ (r.2.2.1.toNat &&& s.2.2.1.toNat) &&& s.2.2.2.toNat)
theorem rows_apart : (rowsL.all fun r => rowsL.all fun s => apartB r s) = true := by decide +kernel
theorem rows_u32 : ∀ r ∈ rowsL, (0 ≤ r.2.2.1 ∧ r.2.2.1 < 4294967296) ∧ (0 ≤ r.2.2.2 ∧ r.2.2.2 < 4294967296) := by decide +kernel
/-- one row at most meets a parcel -/
theorem meets_one {p : Int} (hp : P32 p) {r s : R4} (hr : r ∈ rowsL) (hs : s ∈ rowsL) (mr : meetsF p r = true) (ms : meetsF p s = true) : r = s := by
  have h := List.all_eq_true.1 (List.all_eq_true.1 rows_apart r hr) s hs
  unfold apartB at h
  simp only [Bool.or_eq_true, decide_eq_true_iff] at h
  rcases h with h | h
  · exact h
  · exfalso
    rw [← meets_is hp (List.all_eq_true.1 rows_okRow r hr)] at mr
    rw [← meets_is hp (List.all_eq_true.1 rows_okRow s hs)] at ms
    unfold meets at mr ms
    rw [beq_iff_eq, and_u32 hp (rows_u32 r hr).1] at mr
    rw [beq_iff_eq, and_u32 hp (rows_u32 s hs).1] at ms
    apply h
    rw [← mr, ← ms]
    simp only [Int.toNat_natCast]
    apply Nat.eq_of_testBit_eq
    intro i
    simp only [Nat.testBit_and]
    cases p.toNat.testBit i <;> cases r.2.2.1.toNat.testBit i <;> cases s.2.2.1.toNat.testBit i <;> rfl
theorem row_found {p : Int} (hp : P32 p) {r : R4} (hr : r ∈ rowsL) (mr : meetsF p r = true) : rowOf p = some r := by
  cases h : rowOf p with
  | none =>
    exfalso
    unfold rowOf at h
    rw [List.find?_eq_none] at h
    refine h r (List.mem_filter.2 ⟨hr, ?_⟩) mr
    unfold meetsF at mr
    simp only [Bool.and_eq_true, decide_eq_true_iff] at mr
    simp [mr.1]
  | some s =>
    obtain ⟨h1, h2⟩ := row_in h
    rw [meets_one hp hr h1 mr h2]
theorem dec_found {p : Int} (hp : P32 p) {r : R4} (hr : r ∈ rowsL) (mr : meetsF p r = true) : decT p = fillT p r.1 r.2.1 := by
  rw [← ref_dec hp, ref_rF hp, row_found hp hr mr, rF_some]
end Go.Proofs.Ytogdifjdlkpehaa.PA
