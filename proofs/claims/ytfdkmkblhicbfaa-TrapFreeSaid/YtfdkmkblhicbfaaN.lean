/- The law TrapFree without its row: an interrupt of a lower level than the mode is never taken, one of a higher level always. -/
import Derived.Test.YtfdkmkblhicbfaaI
import Derived.Test.YtfdkmkblhicbfaaRowG
import Derived.Deep.Cut
namespace Go.Proofs.Ytfdkmkblhicbfaa
open Go.RowKit
set_option linter.all false

/-- the cause that a number stands for, counted round the six -/
def frC (k : Int) : Int := if k % 6 = 0 then 11 else if k % 6 = 1 then 3 else if k % 6 = 2 then 7 else if k % 6 = 3 then 9 else if k % 6 = 4 then 1 else 5
theorem fr_ix (k : Int) (w : World) : (Instr.index 41 (.agg #[.int .u8 11, .int .u8 3, .int .u8 7, .int .u8 9, .int .u8 1, .int .u8 5]) (.int .u8 (k % 6))).run Try.prog w = .ok (.int .u8 (frC k)) w := by
  unfold frC
  rcases (by omega : k % 6 = 0 ∨ k % 6 = 1 ∨ k % 6 = 2 ∨ k % 6 = 3 ∨ k % 6 = 4 ∨ k % 6 = 5) with h | h | h | h | h | h <;> rw [h] <;> kernel_rfl
theorem frC_order (k : Int) : 0 ≤ frC k ∧ (frC k).toNat ∈ order := by
  unfold frC
  rcases (by omega : k % 6 = 0 ∨ k % 6 = 1 ∨ k % 6 = 2 ∨ k % 6 = 3 ∨ k % 6 = 4 ∨ k % 6 = 5) with h | h | h | h | h | h <;> rw [h] <;> decide
theorem find_only {p : Nat → Bool} {a : Nat} (h : a ∈ order) (hp : ∀ j, j ∈ order → j ≠ a → p j = false) : order.find? p = if p a = true then some a else none := by
  have h2 := hp
  unfold order at h2 ⊢
  simp only [List.mem_cons, List.not_mem_nil, or_false, forall_eq_or_imp, forall_eq] at h2
  obtain ⟨k1, k2, k3, k4, k5, k6⟩ := h2
  have hm : a = 11 ∨ a = 3 ∨ a = 7 ∨ a = 9 ∨ a = 1 ∨ a = 5 := by simpa [order] using h
  rcases hm with rfl | rfl | rfl | rfl | rfl | rfl <;> simp [List.find?_cons, *] <;> cases p _ <;> rfl
/-- a state with one interrupt allowed alone -/
def onlyS (s : Nat → BitVec 64) (a : Nat) : Nat → BitVec 64 := upd s 2 (s 2 &&& (1#64 <<< a))
theorem is_only (s : Nat → BitVec 64) {a j : Nat} (ha : a ∈ order) (hj : j ∈ order) : isB (onlyS s a) j = (decide (j = a) && isB s j) := by
  obtain ⟨hj64, _⟩ := order_mem hj
  have e2 : tb (onlyS s a 2) j = (tb (s 2) j && decide (j = a)) := by
    unfold onlyS; rw [upd_same]; unfold tb
    rw [BitVec.getLsbD_and]
    have : (1#64 <<< a).getLsbD j = decide (j = a) := by
      have := BitVec.getLsbD_twoPow (w := 64) a j
      rw [BitVec.twoPow] at this
      rw [this]
      by_cases e : j = a
      · subst e; simp [hj64]
      · have : ¬ a = j := fun h => e h.symm
        simp [e, this]
    rw [this]
  have e3 : onlyS s a 3 = s 3 := rfl
  have e4 : onlyS s a 4 = s 4 := rfl
  unfold isB
  rw [e2, e3, e4]
  cases decide (j = a) <;> cases tb (s 2) j <;> rfl
theorem ref_only (s : Nat → BitVec 64) (r : Int) {a : Nat} (ha : a ∈ order) : refP (onlyS s a) r = if (isB s a && mayB s r a) = true then some a else none := by
  have q : ∀ L j, j ∈ order → qB (onlyS s a) r L j = (decide (j = a) && ((tb (s 6) j == decide (L = 1)) && isB s j && mayB s r j)) := fun L j hj => by
    unfold qB
    rw [is_only s ha hj]
    show ((tb (s 6) j == decide (L = 1)) && (decide (j = a) && isB s j) && mayB s r j) = _
    cases decide (j = a) <;> simp
  have f : ∀ L, order.find? (qB (onlyS s a) r L) = if ((tb (s 6) a == decide (L = 1)) && isB s a && mayB s r a) = true then some a else none := fun L => by
    rw [find_only ha (fun j hj hne => by rw [q L j hj]; simp [hne]), q L a ha]
    simp
  unfold refP
  rw [f 0, f 1]
  cases tb (s 6) a <;> cases isB s a <;> cases mayB s r a <;> rfl
theorem awake_only (s : Nat → BitVec 64) {a : Nat} (ha : a ∈ order) : ((U (pend (onlyS s a))) != 0) = isB s a := by
  rw [awake_eq]
  cases h : isB s a
  · rw [List.any_eq_false]
    intro j hj
    rw [is_only s ha hj]
    by_cases e : j = a
    · subst e; simp [h]
    · simp [e]
  · rw [List.any_eq_true]
    exact ⟨a, ha, by rw [is_only s ha ha]; simp [h]⟩
theorem pend_only (s : Nat → BitVec 64) (r a : Int) (w : World) (q : Bool) (hr : 0 ≤ r) (h0 : 0 ≤ a) (ha : a.toNat ∈ order) (hq : (isB s a.toNat && mayB s (rm r) a.toNat) = q) :
    Calls Try.prog 10 #[.agg (stC (onlyS s a.toNat)), .int .u8 r] w fun e w' => e = .returned (.tuple #[.int .u8 (if q = true then a else 0), .bool q]) ∧ Fr [] w w' := by
  have h := pendingOf_any (onlyS s a.toNat) r w hr
  rw [first_ref, ref_only s _ ha, hq] at h
  cases q
  · exact h
  · have e : ((a.toNat : Nat) : Int) = a := by omega
    simp only [if_true, Option.getD_some, Option.isSome_some, e] at h
    exact h
end Go.Proofs.Ytfdkmkblhicbfaa
