/- The law TrapFree without its row, its ways joined. -/
import Derived.Test.YtfdkmkblhicbfaaN00
import Derived.Test.YtfdkmkblhicbfaaN01
import Derived.Test.YtfdkmkblhicbfaaN110
import Derived.Test.YtfdkmkblhicbfaaN111
import Derived.Test.YtfdkmkblhicbfaaN100
import Derived.Test.YtfdkmkblhicbfaaN101
namespace Go.Proofs.Ytfdkmkblhicbfaa
open Go.RowKit
set_option linter.all false
theorem law_TrapFree (s : Nat → BitVec 64) (k : Int) (w : World) (h0 : 0 ≤ k) : Calls Try.prog 6 #[.agg (stC s), .int .u8 k] w fun e w' => e = .returned (.bool true) ∧ Fr [] w w' := by
  obtain ⟨a0, ha⟩ := frC_order k
  have a1 : frC k < 64 := by have := (order_mem ha).1; omega
  have his : tb ((s 3 ||| s 4) &&& s 2) (frC k).toNat = isB s (frC k).toNat := by
    unfold tb isB tb
    rw [BitVec.getLsbD_and, BitVec.getLsbD_or]
    cases (s 2).getLsbD (frC k).toNat <;> cases (s 3).getLsbD (frC k).toNat <;> cases (s 4).getLsbD (frC k).toNat <;> rfl
  have hp := fun r w q hr hq => pend_only s r (frC k) w q hr a0 ha hq
  have hw : ∀ w, Calls Try.prog 12 #[.agg (stC (onlyS s (frC k).toNat))] w fun e w' => e = .returned (.bool (isB s (frC k).toNat)) ∧ Fr [] w w' := fun w => by
    have := awakep_any (onlyS s (frC k).toNat) w
    rwa [awake_only s ha] at this
  have m0 : mayB s (rm 0) (frC k).toNat = true := by unfold mayB; cases tb (s 6) (frC k).toNat <;> simp [rm]
  cases hi : isB s (frC k).toNat
  · rw [hi] at hw his
    have q0 : ∀ r, (isB s (frC k).toNat && mayB s (rm r) (frC k).toNat) = false := fun r => by rw [hi]; rfl
    cases h6 : tb (s 6) (frC k).toNat
    · exact free_00 s k _ w h0 rfl a0 a1 h6 his (fun w => hp 0 w false (by decide) (q0 0)) (fun w => hp 1 w false (by decide) (q0 1)) (fun w => hp 3 w false (by decide) (q0 3)) hw
    · exact free_01 s k _ w h0 rfl a0 a1 h6 his (fun w => hp 0 w false (by decide) (q0 0)) (fun w => hp 1 w false (by decide) (q0 1)) (fun w => hp 3 w false (by decide) (q0 3)) hw
  · rw [hi] at hw his
    cases h6 : tb (s 6) (frC k).toNat
    · have m1 : mayB s (rm 1) (frC k).toNat = true := by unfold mayB; rw [h6]; simp [rm]
      cases hf : tb (s 1) 3
      · have m3 : mayB s (rm 3) (frC k).toNat = false := by unfold mayB; rw [h6, hf]; simp [rm]
        exact free_100 s k _ w h0 rfl a0 a1 h6 his hf (fun w => hp 0 w true (by decide) (by rw [hi, m0]; rfl)) (fun w => hp 1 w true (by decide) (by rw [hi, m1]; rfl)) (fun w => hp 3 w false (by decide) (by rw [hi, m3]; rfl)) hw
      · have m3 : mayB s (rm 3) (frC k).toNat = true := by unfold mayB; rw [h6, hf]; simp
        exact free_101 s k _ w h0 rfl a0 a1 h6 his hf (fun w => hp 0 w true (by decide) (by rw [hi, m0]; rfl)) (fun w => hp 1 w true (by decide) (by rw [hi, m1]; rfl)) (fun w => hp 3 w true (by decide) (by rw [hi, m3]; rfl)) hw
    · have m3 : mayB s (rm 3) (frC k).toNat = false := by unfold mayB; rw [h6]; simp [rm]
      cases hf : tb (s 1) 1
      · have m1 : mayB s (rm 1) (frC k).toNat = false := by unfold mayB; rw [h6, hf]; simp [rm]
        exact free_110 s k _ w h0 rfl a0 a1 h6 his hf (fun w => hp 0 w true (by decide) (by rw [hi, m0]; rfl)) (fun w => hp 1 w false (by decide) (by rw [hi, m1]; rfl)) (fun w => hp 3 w false (by decide) (by rw [hi, m3]; rfl)) hw
      · have m1 : mayB s (rm 1) (frC k).toNat = true := by unfold mayB; rw [h6, hf]; simp [rm]
        exact free_111 s k _ w h0 rfl a0 a1 h6 his hf (fun w => hp 0 w true (by decide) (by rw [hi, m0]; rfl)) (fun w => hp 1 w true (by decide) (by rw [hi, m1]; rfl)) (fun w => hp 3 w false (by decide) (by rw [hi, m3]; rfl)) hw
end Go.Proofs.Ytfdkmkblhicbfaa
