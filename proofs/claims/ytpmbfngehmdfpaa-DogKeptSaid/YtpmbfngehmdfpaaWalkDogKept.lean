/- The walk of the law DogKept. -/
import Derived.Test.YtpmbfngehmdfpaaD
import Derived.Test.YtpmbfngehmdfpaaFlat
namespace Go.Proofs.Ytpmbfngehmdfpaa
open Go.RowKit

theorem fits1 {p : IntKind} {x0 : Value} (h : fits [.num p] [x0]) : ∃ a : Int, x0 = .int p a ∧ (Lit.int p a).wf = true := h.1

set_option maxHeartbeats 2000000 in
theorem walk_DogKept (a0 : Int) (a1 : Option Addr) (len1 cap1 : Nat) (c1 : Nat → Nat → Value) (w : World) (w0 : (Lit.int .u32 a0).wf = true) (w1 : SliceIn w [.num .u8] a1 len1 c1) :
    Calls Try.prog 4 #[.int .u32 a0, .slice a1 len1 cap1] w fun e w' => e = .returned (.bool true) ∧ Below w.heap.size w w' := by
  have hb0 := bounds_u32 w0
  clear w0
  by_cases hl2 : a0 < 2
  · clear w1
    go_enter Try.func4, Try.ntmps4
    go_wp2_with (first | (go_at_call 8; refine (new_any _ _).mono ?_; rintro e w' ⟨rfl, rfl⟩) | (go_at_call 7; refine (awake_any _).mono ?_; rintro e w' ⟨rfl, hfr⟩))
    go_ret
    exact ⟨rfl, ((Below.refl _ _).alloc (Nat.le_refl _) _).trans (hfr.below (by simp) (by simp))⟩
  by_cases hlen : len1 ≤ 60
  · have hlt : ¬ ((60 : Int) < (len1 : Int)) := by omega
    have Hs := hid w1
    clear w1
    go_enter Try.func4, Try.ntmps4
    go_wp2_with (first | (go_at_call 8; refine (new_any _ _).mono ?_; rintro e w' ⟨rfl, rfl⟩))
    go_loopw [6] (fun i wr => ∃ (k : Nat), k ≤ len1 ∧ i = .int .i64 k ∧ Hid (wr.heap[w.heap.size]? = some (dog a0 0)) ∧ Below w.heap.size w wr) (fun i _ => len1 - (intOf i).toNat)
    case atStart => exact ⟨0, Nat.zero_le _, rfl, blk_new _ _, (Below.refl _ _).alloc (Nat.le_refl _) _⟩
    case round =>
      obtain ⟨k, hk, rfl, hd, hbel⟩ := hrel
      by_cases hlt : k < len1
      · obtain ⟨b, off, rfl, hbl, _, hcells⟩ := (Hs.out).resolve_left (by omega)
        obtain ⟨hf, hc⟩ := hcells k hlt
        obtain ⟨g, e0, b0⟩ := fits1 hf
        have bg := bounds_u8 b0
        have hcell : ∀ wx : World, Below w.heap.size w wx → wx.cell? ⟨b, off + k, none⟩ = some (.int .u8 g) := fun wx h => (h.cell hbl).trans (by rw [← e0]; simpa using hc 0 (by decide))
        have Hcell := hid hcell
        clear hf hc e0 hcells b0 hcell
        obtain ⟨wo, rfl⟩ : ∃ wo : World, wo = wr := ⟨_, rfl⟩
        have h20 : g.tmod 20 = g % 20 := by rw [Int.tmod_eq_emod_of_nonneg (by omega)]
        have z0 : (0 : Int) ≤ (k : Int) := by omega
        go_wp2_with fail
        go_loopw [7] (fun j wr => ∃ (m : Int), 0 ≤ m ∧ m ≤ (g % 20) % a0 ∧ j = .int .u32 m ∧ Hid (wr.heap[w.heap.size]? = some (dog a0 m)) ∧ Below w.heap.size w wr) (fun j _ => ((g % 20) % a0 - intOf j).toNat)
        case atStart => exact ⟨0, by omega, Int.emod_nonneg _ (by omega), rfl, hd.out, hbel⟩
        case round =>
          obtain ⟨m, hm0, hm1, rfl, hd', hbel'⟩ := hrel
          have hcw := Hcell.out _ hbel'
          go_wp2_with fail
          · have hlt' : m < g % 20 % a0 := by assumption
            have hml : g % 20 % a0 < a0 := Int.emod_lt_of_pos _ (by omega)
            have hmod : (m + 1) % 4294967296 = m + 1 := Int.emod_eq_of_lt (by omega) (by omega)
            have e1 : ends a0 m = false := by simp [ends, hmod]; omega
            have e2 : ticked a0 m = m + 1 := by simp [ticked, hmod]; omega
            have Hmod := hid hmod
            clear hmod
            refine (tick_any w.heap.size _ a0 m hd'.out).mono ?_
            rintro e w2 ⟨rfl, hd2, hfr2⟩
            rw [e2] at hd2
            rw [e1]
            have Hd2 := hid hd2
            have Hb := hid (hbel'.trans (hfr2.below (B := w.heap.size) hbel'.size (by simp)))
            clear hd2 hfr2 e1 e2
            go_wp2
            go_roundw
            case rel => exact ⟨m + 1, by omega, by omega, rfl, Hd2.out, Hb.out⟩
            case measure => simp [intOf]; omega
          · refine (write_any w.heap.size a0 m 0 8 g _ hb0.1 (by omega) hd'.out).mono ?_
            rintro e w2 ⟨rfl, hd2, hfr2⟩
            have e1 : isreg 0 8 = true := rfl
            have e2 : wrote m 0 8 = 0 := rfl
            rw [e2] at hd2
            rw [e1]
            have Hd2 := hid hd2
            have Hb := hid (hbel'.trans (hfr2.below (B := w.heap.size) hbel'.size (by simp)))
            clear hd2 hfr2 e1 e2
            have e3 : (a0 % 4294967296 != a0) = false := by simp; omega
            go_wp2_with (first | (go_at_call 11; refine (left_any w.heap.size _ a0 0 ?_).mono ?_; (exact Hd2.out); rintro e w' ⟨rfl, rfl⟩))
            go_roundw
            case rel => exact ⟨k + 1, by omega, by go_num, Hd2.out, Hb.out⟩
            case measure => simp [intOf]; omega
      · have : k = len1 := by omega
        subst this
        go_wp2_with (first | (go_at_call 7; refine (awake_any _).mono ?_; rintro e w' ⟨rfl, hfr⟩))
        go_ret
        exact ⟨rfl, hbel.trans (hfr.below hbel.size (by simp))⟩
  · have hlt : ((60 : Int) < (len1 : Int)) := by omega
    clear w1
    go_enter Try.func4, Try.ntmps4
    go_wp2_with (first | (go_at_call 8; refine (new_any _ _).mono ?_; rintro e w' ⟨rfl, rfl⟩) | (go_at_call 7; refine (awake_any _).mono ?_; rintro e w' ⟨rfl, hfr⟩))
    go_ret
    exact ⟨rfl, ((Below.refl _ _).alloc (Nat.le_refl _) _).trans (hfr.below (by simp) (by simp))⟩
end Go.Proofs.Ytpmbfngehmdfpaa
