/- Which instructions parcels decode to: row by row. No walk stands in here. -/
import Derived.Test.YtogdifjdlkpehaaDecEq2
import Derived.Test.YtogdifjdlkpehaaHChk
namespace Go.Proofs.Ytogdifjdlkpehaa.PA
open Go.RowKit
set_option linter.all false

/-- what an instruction of a form may hold -/
def formOK (k : Int) (x : T7) : Prop :=
  if k = 0 then (0 ≤ x.2.1 ∧ x.2.1 < 32) ∧ (0 ≤ x.2.2.1 ∧ x.2.2.1 < 32) ∧ (0 ≤ x.2.2.2.1 ∧ x.2.2.2.1 < 32) ∧ x.2.2.2.2.1 = 0 ∧ x.2.2.2.2.2.1 = 0 ∧ x.2.2.2.2.2.2 = 4
  else if k = 1 then (0 ≤ x.2.1 ∧ x.2.1 < 32) ∧ (0 ≤ x.2.2.1 ∧ x.2.2.1 < 32) ∧ x.2.2.2.1 = 0 ∧ (-2048 ≤ x.2.2.2.2.1 ∧ x.2.2.2.2.1 ≤ 2047) ∧ x.2.2.2.2.2.1 = 0 ∧ x.2.2.2.2.2.2 = 4
  else if k = 2 then (0 ≤ x.2.1 ∧ x.2.1 < 32) ∧ (0 ≤ x.2.2.1 ∧ x.2.2.1 < 32) ∧ x.2.2.2.1 = 0 ∧ (0 ≤ x.2.2.2.2.1 ∧ x.2.2.2.2.1 ≤ 63) ∧ x.2.2.2.2.2.1 = 0 ∧ x.2.2.2.2.2.2 = 4
  else if k = 3 then (0 ≤ x.2.1 ∧ x.2.1 < 32) ∧ (0 ≤ x.2.2.1 ∧ x.2.2.1 < 32) ∧ x.2.2.2.1 = 0 ∧ (0 ≤ x.2.2.2.2.1 ∧ x.2.2.2.2.1 ≤ 31) ∧ x.2.2.2.2.2.1 = 0 ∧ x.2.2.2.2.2.2 = 4
  else if k = 4 then x.2.1 = 0 ∧ (0 ≤ x.2.2.1 ∧ x.2.2.1 < 32) ∧ (0 ≤ x.2.2.2.1 ∧ x.2.2.2.1 < 32) ∧ (-2048 ≤ x.2.2.2.2.1 ∧ x.2.2.2.2.1 ≤ 2047) ∧ x.2.2.2.2.2.1 = 0 ∧ x.2.2.2.2.2.2 = 4
  else if k = 5 then x.2.1 = 0 ∧ (0 ≤ x.2.2.1 ∧ x.2.2.1 < 32) ∧ (0 ≤ x.2.2.2.1 ∧ x.2.2.2.1 < 32) ∧ (-4096 ≤ x.2.2.2.2.1 ∧ x.2.2.2.2.1 ≤ 4094 ∧ x.2.2.2.2.1 % 2 = 0) ∧ x.2.2.2.2.2.1 = 0 ∧ x.2.2.2.2.2.2 = 4
  else if k = 6 then (0 ≤ x.2.1 ∧ x.2.1 < 32) ∧ x.2.2.1 = 0 ∧ x.2.2.2.1 = 0 ∧ (-2147483648 ≤ x.2.2.2.2.1 ∧ x.2.2.2.2.1 ≤ 2147479552 ∧ x.2.2.2.2.1 % 4096 = 0) ∧ x.2.2.2.2.2.1 = 0 ∧ x.2.2.2.2.2.2 = 4
  else if k = 7 then (0 ≤ x.2.1 ∧ x.2.1 < 32) ∧ x.2.2.1 = 0 ∧ x.2.2.2.1 = 0 ∧ (-1048576 ≤ x.2.2.2.2.1 ∧ x.2.2.2.2.1 ≤ 1048574 ∧ x.2.2.2.2.1 % 2 = 0) ∧ x.2.2.2.2.2.1 = 0 ∧ x.2.2.2.2.2.2 = 4
  else if k = 8 then (0 ≤ x.2.1 ∧ x.2.1 < 32) ∧ (0 ≤ x.2.2.1 ∧ x.2.2.1 < 32) ∧ x.2.2.2.1 = 0 ∧ x.2.2.2.2.1 = 0 ∧ (0 ≤ x.2.2.2.2.2.1 ∧ x.2.2.2.2.2.1 < 4096) ∧ x.2.2.2.2.2.2 = 4
  else if k = 9 then (0 ≤ x.2.1 ∧ x.2.1 < 32) ∧ x.2.2.1 = 0 ∧ x.2.2.2.1 = 0 ∧ (0 ≤ x.2.2.2.2.1 ∧ x.2.2.2.2.1 ≤ 31) ∧ (0 ≤ x.2.2.2.2.2.1 ∧ x.2.2.2.2.2.1 < 4096) ∧ x.2.2.2.2.2.2 = 4
  else if k = 11 then x.2.1 = 0 ∧ (0 ≤ x.2.2.1 ∧ x.2.2.1 < 32) ∧ (0 ≤ x.2.2.2.1 ∧ x.2.2.2.1 < 32) ∧ x.2.2.2.2.1 = 0 ∧ x.2.2.2.2.2.1 = 0 ∧ x.2.2.2.2.2.2 = 4
  else x.2.1 = 0 ∧ x.2.2.1 = 0 ∧ x.2.2.2.1 = 0 ∧ x.2.2.2.2.1 = 0 ∧ x.2.2.2.2.2.1 = 0 ∧ x.2.2.2.2.2.2 = 4
def lrB (op : Int) : Bool := op == 67 || op == 78
def rowOK (r : R4) (x : T7) : Prop := x.1 = r.1 ∧ formOK r.2.1 x ∧ (lrB r.1 = true → x.2.2.2.1 = 0)

theorem sgn_12 (n : Int) : sgn 12 n = if n < 2048 then n else n - 4096 := rfl
theorem sgn_20 (n : Int) : sgn 20 n = if n < 524288 then n else n - 1048576 := rfl
theorem k12 {k : Int} (hk : 0 ≤ k ∧ k ≤ 11) : k = 0 ∨ k = 1 ∨ k = 2 ∨ k = 3 ∨ k = 4 ∨ k = 5 ∨ k = 6 ∨ k = 7 ∨ k = 8 ∨ k = 9 ∨ k = 10 ∨ k = 11 := by omega
theorem fillT_ok {p : Int} (hp : P32 p) (op k : Int) (hk : 0 ≤ k ∧ k ≤ 11) : formOK k (fillT p op k) := by
  unfold P32 at hp
  rcases k12 hk with rfl | rfl | rfl | rfl | rfl | rfl | rfl | rfl | rfl | rfl | rfl | rfl <;> simp [formOK, fillT, sgn_12, sgn_20]
  · omega
  · refine ⟨by omega, by omega, ?_⟩; split <;> omega
  · omega
  · omega
  · refine ⟨by omega, by omega, ?_⟩; split <;> omega
  · refine ⟨by omega, by omega, ?_⟩; split <;> omega
  · refine ⟨by omega, ?_⟩; split <;> omega
  · refine ⟨by omega, ?_⟩; split <;> omega
  · omega
  · omega
  · omega

theorem fillT_op (p op k : Int) : (fillT p op k).1 = op := by
  unfold fillT
  simp only [apply_ite Prod.fst, ite_self]
theorem row_in {p : Int} {r : R4} (h : rowOf p = some r) : r ∈ rowsL ∧ meetsF p r = true := by
  unfold rowOf at h
  exact ⟨(List.mem_filter.1 (List.mem_of_find?_eq_some h)).1, by simpa using List.find?_some h⟩
theorem lr_rows : ∀ r ∈ rowsL, lrB r.1 = true → r.2.1 = 0 ∧ r.2.2.1 = 4193284223 ∧ r.2.2.2 / 1048576 % 32 = 0 := by decide +kernel
/-- what a parcel decodes to -/
theorem dec_row {p : Int} (hp : P32 p) : decT p = ill p ∧ rowOf p = none ∨ ∃ r, rowOf p = some r ∧ r ∈ rowsL ∧ meetsF p r = true ∧ decT p = fillT p r.1 r.2.1 ∧ rowOK r (decT p) := by
  rw [← ref_dec hp, ref_rF hp]
  cases h : rowOf p with
  | none => exact .inl ⟨rfl, rfl⟩
  | some r =>
    obtain ⟨h1, h2⟩ := row_in h
    refine .inr ⟨r, rfl, h1, h2, rfl, ?_⟩
    rw [rF_some]
    refine ⟨fillT_op _ _ _, fillT_ok hp _ _ (forms_ok r h1), fun hl => ?_⟩
    obtain ⟨k0, k1, k2⟩ := lr_rows r h1 hl
    unfold meetsF at h2
    rw [k0]
    simp only [k1] at h2
    simp at h2
    show p / 1048576 % 32 = 0
    omega
/-- what the table says of each row's operation -/
def tblOK (r : R4) : Bool :=
  decide (1 ≤ r.1 ∧ r.1 ≤ 98) && (classT r.1 != 8) && ((classT r.1 == 6) == (r.2.1 == 8 || r.2.1 == 9)) &&
  (if r.2.1 = 0 then hasT r.1 == (true, true, !lrB r.1) && ofT r.1 == (0, 0, 1)
  else if r.2.1 = 1 then hasT r.1 == (true, true, false) && ofT r.1 == (-2048, 2047, 1)
  else if r.2.1 = 2 then hasT r.1 == (true, true, false) && ofT r.1 == (0, 63, 1)
  else if r.2.1 = 3 then hasT r.1 == (true, true, false) && ofT r.1 == (0, 31, 1)
  else if r.2.1 = 4 then hasT r.1 == (false, true, true) && ofT r.1 == (-2048, 2047, 1)
  else if r.2.1 = 5 then hasT r.1 == (false, true, true) && ofT r.1 == (-4096, 4094, 2)
  else if r.2.1 = 6 then hasT r.1 == (true, false, false) && ofT r.1 == (-2147483648, 2147479552, 4096)
  else if r.2.1 = 7 then hasT r.1 == (true, false, false) && ofT r.1 == (-1048576, 1048574, 2)
  else if r.2.1 = 8 then hasT r.1 == (true, true, false) && ofT r.1 == (0, 0, 1)
  else if r.2.1 = 9 then hasT r.1 == (true, false, false) && ofT r.1 == (0, 31, 1)
  else if r.2.1 = 11 then hasT r.1 == (false, true, true) && ofT r.1 == (0, 0, 1)
  else hasT r.1 == (false, false, false) && ofT r.1 == (0, 0, 1)) && (!lrB r.1 || r.2.1 == 0)
theorem tbl_ok : ∀ r ∈ rowsL, tblOK r = true := by decide +kernel
/-- a register that may be told -/
theorem fits_iff (n : Int) (b : Bool) : fitsT n b = true ↔ n = 0 ∨ b = true ∧ n < 32 := by
  unfold fitsT; simp
/-- bounds that an instruction has as Go's struct -/
def W7 (x : T7) : Prop := (0 ≤ x.1 ∧ x.1 < 256) ∧ (0 ≤ x.2.1 ∧ x.2.1 < 256) ∧ (0 ≤ x.2.2.1 ∧ x.2.2.1 < 256) ∧ (0 ≤ x.2.2.2.1 ∧ x.2.2.2.1 < 256) ∧ (-9223372036854775808 ≤ x.2.2.2.2.1 ∧ x.2.2.2.2.1 ≤ 9223372036854775807) ∧ (0 ≤ x.2.2.2.2.2.1 ∧ x.2.2.2.2.2.1 < 65536) ∧ (0 ≤ x.2.2.2.2.2.2 ∧ x.2.2.2.2.2.2 < 256)
theorem tmod_1 (a : Int) : a.tmod 1 = 0 := Int.tmod_eq_zero_of_dvd (Int.one_dvd a)
theorem tmod_2 (a : Int) : a.tmod 2 = 0 ↔ a % 2 = 0 := ⟨fun h => Int.emod_eq_zero_of_dvd (Int.dvd_of_tmod_eq_zero h), fun h => Int.tmod_eq_zero_of_dvd (Int.dvd_of_emod_eq_zero h)⟩
theorem tmod_4096 (a : Int) : a.tmod 4096 = 0 ↔ a % 4096 = 0 := ⟨fun h => Int.emod_eq_zero_of_dvd (Int.dvd_of_tmod_eq_zero h), fun h => Int.tmod_eq_zero_of_dvd (Int.dvd_of_emod_eq_zero h)⟩
set_option maxHeartbeats 4000000 in
theorem chk_row {x : T7} (hx : W7 x) {r : R4} (hr : r ∈ rowsL) (ho : x.1 = r.1) : chkT x = 0 ↔ rowOK r x := by
  have ht := tbl_ok r hr
  have hk := forms_ok r hr
  obtain ⟨op, k, m, a⟩ := r
  obtain ⟨xo, rd, r1, r2, im, cs, sz⟩ := x
  simp only at ho hk
  subst ho
  unfold tblOK at ht
  simp only [Bool.and_eq_true] at ht
  obtain ⟨⟨⟨⟨t1, t2⟩, t3⟩, t4⟩, t5⟩ := ht
  have hc : ∀ c d : Prop, [Decidable c] → ((if c then (3 : Int) else 0) = 0 ↔ ¬ c) := fun c d _ => by split <;> simp [*]
  unfold chkT csrT rowOK
  simp only [hc _ True, not_or, true_and]
  have n2 : classT xo ≠ 8 := by simpa using t2
  obtain ⟨-, ⟨b1, b2⟩, ⟨b3, b4⟩, ⟨b5, b6⟩, ⟨b7, b8⟩, ⟨b9, b10⟩, -⟩ := hx
  simp only at b1 b2 b3 b4 b5 b6 b7 b8 b9 b10
  generalize classT xo = c at *
  generalize hasT xo = h at *
  generalize ofT xo = o at *
  generalize lrB xo = lr at *
  obtain ⟨h1, h2, h3⟩ := h
  obtain ⟨o1, o2, o3⟩ := o
  rcases k12 hk with rfl | rfl | rfl | rfl | rfl | rfl | rfl | rfl | rfl | rfl | rfl | rfl <;> simp at t3 t4 t5 <;>
    simp only [formOK, if_pos, reduceIte, Int.reduceEq, Bool.not_eq_false, fits_iff, t3, t4, t5, n2, Bool.or_eq_true, Bool.and_eq_true, beq_iff_eq, decide_eq_true_iff, tmod_1, tmod_2, tmod_4096, ne_eq, not_true_eq_false, Classical.not_not, not_false_eq_true, true_and, and_true, Bool.false_eq_true, false_and, or_false, false_implies]
  · cases lr <;> simp at t4 <;> simp [t4] <;> omega
  all_goals (first | omega | (simp; omega))
end Go.Proofs.Ytogdifjdlkpehaa.PA
