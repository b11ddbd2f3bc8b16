/- Contracts of which interrupt is pending, of the program and of its reference. -/
import Derived.Test.YtfdkmkblhicbfaaA
import Derived.Deep.RegionHeld3
namespace Go.Proofs.Ytfdkmkblhicbfaa
set_option linter.all false
open Go.RowKit

def order : List Nat := [11, 3, 7, 9, 1, 5]
def firstB (x : BitVec 64) : Option Nat := order.find? (tb x)

theorem find_at {p : Nat → Bool} : ∀ (l : List Nat) (k : Nat) (a : Nat), l[k]? = some a → (∀ j, j < k → ∀ b, l[j]? = some b → p b = false) → p a = true → l.find? p = some a
  | [], k, a, h, _, _ => by simp at h
  | c :: l, 0, a, h, _, hp => by simp at h; subst h; simp [hp]
  | c :: l, k + 1, a, h, hn, hp => by
    have hc : p c = false := hn 0 (by omega) c rfl
    rw [List.find?_cons, hc]
    exact find_at l k a (by simpa using h) (fun j hj b hb => hn (j + 1) (by omega) b (by simpa using hb)) hp

theorem find_no {p : Nat → Bool} (l : List Nat) (hn : ∀ j, j < l.length → ∀ b, l[j]? = some b → p b = false) : l.find? p = none := by
  rw [List.find?_eq_none]
  intro x hx
  obtain ⟨j, hj, e⟩ := List.mem_iff_getElem.1 hx
  have := hn j hj x (by rw [List.getElem?_eq_getElem hj, e])
  simp [this]

theorem ret_ub {a b : Int} {x y : Bool} (h : a = b) (k : x = y) : Ending.returned (.tuple #[.int .u8 a, .bool x]) = .returned (.tuple #[.int .u8 b, .bool y]) := by rw [h, k]

set_option maxHeartbeats 1000000 in
theorem first_any (x : BitVec 64) (g : Nat) (w : World) (hg : w.heap[g]? = some (.cells #[.int .u8 11, .int .u8 3, .int .u8 7, .int .u8 9, .int .u8 1, .int .u8 5] 5)) :
    Calls Try.prog 27 #[.int .u64 (U x), .slice (some ⟨g, 0, none⟩) 6 6] w fun e w' => e = .returned (.tuple #[.int .u8 (((firstB x).getD 0 : Nat) : Int), .bool (firstB x).isSome]) ∧ w = w' := by
  have Hg := hid hg
  clear hg
  go_enter Try.func27, Try.ntmps27
  go_wp2
  go_loop [10] (fun i => ∃ k : Nat, k ≤ 6 ∧ i = .int .i64 k ∧ Hid (∀ j, j < k → ∀ b, order[j]? = some b → tb x b = false)) (fun i => 6 - (intOf i).toNat)
  case atStart => exact ⟨0, by omega, rfl, fun j hj => by omega⟩
  case round =>
    obtain ⟨k, hk, rfl, hn⟩ := hrel
    by_cases hlt : k < 6
    · obtain ⟨a, ha, hcell⟩ : ∃ a : Nat, order[k]? = some a ∧ w.cell? ⟨g, k, none⟩ = some (.int .u8 (a : Int)) := by
        have hc := blk_cell Hg.out k
        rcases (by omega : k = 0 ∨ k = 1 ∨ k = 2 ∨ k = 3 ∨ k = 4 ∨ k = 5) with rfl | rfl | rfl | rfl | rfl | rfl <;> exact ⟨_, rfl, hc⟩
      have Ha := hid ha
      clear ha
      have z0 : (0 : Int) ≤ (k : Int) := by omega
      have z1 : (k : Int) < 6 := by omega
      have z2 : (0 : Int) ≤ (a : Int) := by omega
      cases hb : tb x a
      · have hb' : tb x ((a : Int).toNat) = false := hb
        go_wp2_with (go_at_call 37; refine (has_any x _ _ z2).mono ?_; rintro e w' ⟨rfl, rfl⟩)
        go_round
        case rel => exact ⟨k + 1, by omega, by go_num, fun j hj b h => by
          rcases Nat.lt_or_ge j k with h1 | h1
          · exact hn.out j h1 b h
          · obtain rfl : j = k := by omega
            rw [Ha.out] at h; cases h; exact hb⟩
        case measure => simp [intOf]; omega
      · have hb' : tb x ((a : Int).toNat) = true := hb
        have hf : firstB x = some a := find_at order k a Ha.out hn.out hb
        have Hf := hid hf
        clear hf
        go_wp2_with (go_at_call 37; refine (has_any x _ _ z2).mono ?_; rintro e w' ⟨rfl, rfl⟩)
        go_ret2
        exact ⟨ret_ub (by rw [Hf.out]; rfl) (by rw [Hf.out]; rfl), rfl⟩
    · obtain rfl : k = 6 := by omega
      have hf : firstB x = none := find_no order (fun j hj => hn.out j hj)
      have Hf := hid hf
      clear hf
      go_wp2
      go_ret2
      exact ⟨ret_ub (by rw [Hf.out]; rfl) (by rw [Hf.out]; rfl), rfl⟩

theorem mask2_ne (x : BitVec 64) : (U (x &&& 2#64) != 0) = tb x 1 := bv_mask_ne x 1 (by decide)
theorem mask8_ne (x : BitVec 64) : (U (x &&& 8#64) != 0) = tb x 3 := bv_mask_ne x 3 (by decide)

/-- the interrupts that may be taken -/
def open1 (s : Nat → BitVec 64) (m : Int) : BitVec 64 := if m < 3 ∨ tb (s 1) 3 = true then pend s &&& ~~~(s 6) else 0#64
def openB (s : Nat → BitVec 64) (m : Int) : BitVec 64 := if open1 s m = 0#64 ∧ (m < 1 ∨ m = 1 ∧ tb (s 1) 1 = true) then pend s &&& s 6 else open1 s m

set_option maxHeartbeats 2000000 in
theorem po_0z (s : Nat → BitVec 64) (m : Int) (w : World) (h0 : 0 ≤ m) (hrm : rm m = 0) (hz : pend s &&& ~~~s 6 = 0#64) :
    Calls Try.prog 10 #[.agg (stC s), .int .u8 m] w fun e w' => e = .returned (.tuple #[.int .u8 (((firstB (openB s (rm m))).getD 0 : Nat) : Int), .bool (firstB (openB s (rm m))).isSome]) ∧ Fr [] w w' := by
  have Hrm := hid hrm
  have HX : Hid (openB s (rm m) = pend s &&& s 6) := by show openB s (rm m) = _; rw [hrm]; simp [openB, open1, *]
  have gz : (U (pend s &&& ~~~s 6) == 0) = true := (U_eq_iff (pend s &&& ~~~s 6) 0#64).trans (by simpa using hz)
  clear hrm hz
  go_enter Try.func10, Try.ntmps10
  go_wp2_with (first | (go_at_call 25; refine (real_any m _ h0).mono ?_; rintro e w' ⟨rfl, rfl⟩; rw [Hrm.out]) | (go_at_call 26; refine (pending_any s _).mono ?_; rintro e w1 ⟨rfl, hfr⟩; have hcell := blk_cell (hfr.keeps (blk_new w _) (by simp))) | (refine wpList_load_row rfl 25 _ rfl w.heap.size rfl 25 (stC s) (0, 0) _ (blk_new _ _) Try.underlying25 rfl (by kernel_rfl) ?_))
  refine (first_any _ _ _ ?_).mono ?_
  · exact blk_new _ _
  rintro e w' ⟨rfl, rfl⟩
  go_wp2
  go_ret2
  exact ⟨by rw [HX.out]; rfl, (((Fr.refl _ _).alloc _).trans hfr).alloc _⟩

set_option maxHeartbeats 2000000 in
theorem po_0n (s : Nat → BitVec 64) (m : Int) (w : World) (h0 : 0 ≤ m) (hrm : rm m = 0) (hz : ¬ pend s &&& ~~~s 6 = 0#64) :
    Calls Try.prog 10 #[.agg (stC s), .int .u8 m] w fun e w' => e = .returned (.tuple #[.int .u8 (((firstB (openB s (rm m))).getD 0 : Nat) : Int), .bool (firstB (openB s (rm m))).isSome]) ∧ Fr [] w w' := by
  have Hrm := hid hrm
  have HX : Hid (openB s (rm m) = pend s &&& ~~~s 6) := by show openB s (rm m) = _; rw [hrm]; simp [openB, open1, *]
  have gz : (U (pend s &&& ~~~s 6) == 0) = false := (U_eq_iff (pend s &&& ~~~s 6) 0#64).trans (by simpa using hz)
  clear hrm hz
  go_enter Try.func10, Try.ntmps10
  go_wp2_with (first | (go_at_call 25; refine (real_any m _ h0).mono ?_; rintro e w' ⟨rfl, rfl⟩; rw [Hrm.out]) | (go_at_call 26; refine (pending_any s _).mono ?_; rintro e w1 ⟨rfl, hfr⟩; have hcell := blk_cell (hfr.keeps (blk_new w _) (by simp))) | (refine wpList_load_row rfl 25 _ rfl w.heap.size rfl 25 (stC s) (0, 0) _ (blk_new _ _) Try.underlying25 rfl (by kernel_rfl) ?_))
  refine (first_any _ _ _ ?_).mono ?_
  · exact blk_new _ _
  rintro e w' ⟨rfl, rfl⟩
  go_wp2
  go_ret2
  exact ⟨by rw [HX.out]; rfl, (((Fr.refl _ _).alloc _).trans hfr).alloc _⟩

set_option maxHeartbeats 2000000 in
theorem po_1zt (s : Nat → BitVec 64) (m : Int) (w : World) (h0 : 0 ≤ m) (hrm : rm m = 1) (hz : pend s &&& ~~~s 6 = 0#64) (b1 : tb (s 1) 1 = true) :
    Calls Try.prog 10 #[.agg (stC s), .int .u8 m] w fun e w' => e = .returned (.tuple #[.int .u8 (((firstB (openB s (rm m))).getD 0 : Nat) : Int), .bool (firstB (openB s (rm m))).isSome]) ∧ Fr [] w w' := by
  have Hrm := hid hrm
  have HX : Hid (openB s (rm m) = pend s &&& s 6) := by show openB s (rm m) = _; rw [hrm]; simp [openB, open1, *]
  have gz : (U (pend s &&& ~~~s 6) == 0) = true := (U_eq_iff (pend s &&& ~~~s 6) 0#64).trans (by simpa using hz)
  have k2 : (U (s 1 &&& 2#64) != 0) = true := (mask2_ne (s 1)).trans b1
  clear hrm hz b1
  go_enter Try.func10, Try.ntmps10
  go_wp2_with (first | (go_at_call 25; refine (real_any m _ h0).mono ?_; rintro e w' ⟨rfl, rfl⟩; rw [Hrm.out]) | (go_at_call 26; refine (pending_any s _).mono ?_; rintro e w1 ⟨rfl, hfr⟩; have hcell := blk_cell (hfr.keeps (blk_new w _) (by simp))) | (refine wpList_load_row rfl 25 _ rfl w.heap.size rfl 25 (stC s) (0, 0) _ (blk_new _ _) Try.underlying25 rfl (by kernel_rfl) ?_))
  refine (first_any _ _ _ ?_).mono ?_
  · exact blk_new _ _
  rintro e w' ⟨rfl, rfl⟩
  go_wp2
  go_ret2
  exact ⟨by rw [HX.out]; rfl, (((Fr.refl _ _).alloc _).trans hfr).alloc _⟩

set_option maxHeartbeats 2000000 in
theorem po_1zf (s : Nat → BitVec 64) (m : Int) (w : World) (h0 : 0 ≤ m) (hrm : rm m = 1) (hz : pend s &&& ~~~s 6 = 0#64) (b1 : tb (s 1) 1 = false) :
    Calls Try.prog 10 #[.agg (stC s), .int .u8 m] w fun e w' => e = .returned (.tuple #[.int .u8 (((firstB (openB s (rm m))).getD 0 : Nat) : Int), .bool (firstB (openB s (rm m))).isSome]) ∧ Fr [] w w' := by
  have Hrm := hid hrm
  have HX : Hid (openB s (rm m) = pend s &&& ~~~s 6) := by show openB s (rm m) = _; rw [hrm]; simp [openB, open1, *]
  have gz : (U (pend s &&& ~~~s 6) == 0) = true := (U_eq_iff (pend s &&& ~~~s 6) 0#64).trans (by simpa using hz)
  have k2 : (U (s 1 &&& 2#64) != 0) = false := (mask2_ne (s 1)).trans b1
  clear hrm hz b1
  go_enter Try.func10, Try.ntmps10
  go_wp2_with (first | (go_at_call 25; refine (real_any m _ h0).mono ?_; rintro e w' ⟨rfl, rfl⟩; rw [Hrm.out]) | (go_at_call 26; refine (pending_any s _).mono ?_; rintro e w1 ⟨rfl, hfr⟩; have hcell := blk_cell (hfr.keeps (blk_new w _) (by simp))) | (refine wpList_load_row rfl 25 _ rfl w.heap.size rfl 25 (stC s) (0, 0) _ (blk_new _ _) Try.underlying25 rfl (by kernel_rfl) ?_))
  refine (first_any _ _ _ ?_).mono ?_
  · exact blk_new _ _
  rintro e w' ⟨rfl, rfl⟩
  go_wp2
  go_ret2
  exact ⟨by rw [HX.out]; rfl, (((Fr.refl _ _).alloc _).trans hfr).alloc _⟩

set_option maxHeartbeats 2000000 in
theorem po_1n (s : Nat → BitVec 64) (m : Int) (w : World) (h0 : 0 ≤ m) (hrm : rm m = 1) (hz : ¬ pend s &&& ~~~s 6 = 0#64) :
    Calls Try.prog 10 #[.agg (stC s), .int .u8 m] w fun e w' => e = .returned (.tuple #[.int .u8 (((firstB (openB s (rm m))).getD 0 : Nat) : Int), .bool (firstB (openB s (rm m))).isSome]) ∧ Fr [] w w' := by
  have Hrm := hid hrm
  have HX : Hid (openB s (rm m) = pend s &&& ~~~s 6) := by show openB s (rm m) = _; rw [hrm]; simp [openB, open1, *]
  have gz : (U (pend s &&& ~~~s 6) == 0) = false := (U_eq_iff (pend s &&& ~~~s 6) 0#64).trans (by simpa using hz)
  clear hrm hz
  go_enter Try.func10, Try.ntmps10
  go_wp2_with (first | (go_at_call 25; refine (real_any m _ h0).mono ?_; rintro e w' ⟨rfl, rfl⟩; rw [Hrm.out]) | (go_at_call 26; refine (pending_any s _).mono ?_; rintro e w1 ⟨rfl, hfr⟩; have hcell := blk_cell (hfr.keeps (blk_new w _) (by simp))) | (refine wpList_load_row rfl 25 _ rfl w.heap.size rfl 25 (stC s) (0, 0) _ (blk_new _ _) Try.underlying25 rfl (by kernel_rfl) ?_))
  refine (first_any _ _ _ ?_).mono ?_
  · exact blk_new _ _
  rintro e w' ⟨rfl, rfl⟩
  go_wp2
  go_ret2
  exact ⟨by rw [HX.out]; rfl, (((Fr.refl _ _).alloc _).trans hfr).alloc _⟩

set_option maxHeartbeats 2000000 in
theorem po_3tz (s : Nat → BitVec 64) (m : Int) (w : World) (h0 : 0 ≤ m) (hrm : rm m = 3) (b3 : tb (s 1) 3 = true) (hz : pend s &&& ~~~s 6 = 0#64) :
    Calls Try.prog 10 #[.agg (stC s), .int .u8 m] w fun e w' => e = .returned (.tuple #[.int .u8 (((firstB (openB s (rm m))).getD 0 : Nat) : Int), .bool (firstB (openB s (rm m))).isSome]) ∧ Fr [] w w' := by
  have Hrm := hid hrm
  have HX : Hid (openB s (rm m) = pend s &&& ~~~s 6) := by show openB s (rm m) = _; rw [hrm]; simp [openB, open1, *]
  have k8 : (U (s 1 &&& 8#64) != 0) = true := (mask8_ne (s 1)).trans b3
  have gz : (U (pend s &&& ~~~s 6) == 0) = true := (U_eq_iff (pend s &&& ~~~s 6) 0#64).trans (by simpa using hz)
  clear hrm b3 hz
  go_enter Try.func10, Try.ntmps10
  go_wp2_with (first | (go_at_call 25; refine (real_any m _ h0).mono ?_; rintro e w' ⟨rfl, rfl⟩; rw [Hrm.out]) | (go_at_call 26; refine (pending_any s _).mono ?_; rintro e w1 ⟨rfl, hfr⟩; have hcell := blk_cell (hfr.keeps (blk_new w _) (by simp))) | (refine wpList_load_row rfl 25 _ rfl w.heap.size rfl 25 (stC s) (0, 0) _ (blk_new _ _) Try.underlying25 rfl (by kernel_rfl) ?_))
  refine (first_any _ _ _ ?_).mono ?_
  · exact blk_new _ _
  rintro e w' ⟨rfl, rfl⟩
  go_wp2
  go_ret2
  exact ⟨by rw [HX.out]; rfl, (((Fr.refl _ _).alloc _).trans hfr).alloc _⟩

set_option maxHeartbeats 2000000 in
theorem po_3tn (s : Nat → BitVec 64) (m : Int) (w : World) (h0 : 0 ≤ m) (hrm : rm m = 3) (b3 : tb (s 1) 3 = true) (hz : ¬ pend s &&& ~~~s 6 = 0#64) :
    Calls Try.prog 10 #[.agg (stC s), .int .u8 m] w fun e w' => e = .returned (.tuple #[.int .u8 (((firstB (openB s (rm m))).getD 0 : Nat) : Int), .bool (firstB (openB s (rm m))).isSome]) ∧ Fr [] w w' := by
  have Hrm := hid hrm
  have HX : Hid (openB s (rm m) = pend s &&& ~~~s 6) := by show openB s (rm m) = _; rw [hrm]; simp [openB, open1, *]
  have k8 : (U (s 1 &&& 8#64) != 0) = true := (mask8_ne (s 1)).trans b3
  have gz : (U (pend s &&& ~~~s 6) == 0) = false := (U_eq_iff (pend s &&& ~~~s 6) 0#64).trans (by simpa using hz)
  clear hrm b3 hz
  go_enter Try.func10, Try.ntmps10
  go_wp2_with (first | (go_at_call 25; refine (real_any m _ h0).mono ?_; rintro e w' ⟨rfl, rfl⟩; rw [Hrm.out]) | (go_at_call 26; refine (pending_any s _).mono ?_; rintro e w1 ⟨rfl, hfr⟩; have hcell := blk_cell (hfr.keeps (blk_new w _) (by simp))) | (refine wpList_load_row rfl 25 _ rfl w.heap.size rfl 25 (stC s) (0, 0) _ (blk_new _ _) Try.underlying25 rfl (by kernel_rfl) ?_))
  refine (first_any _ _ _ ?_).mono ?_
  · exact blk_new _ _
  rintro e w' ⟨rfl, rfl⟩
  go_wp2
  go_ret2
  exact ⟨by rw [HX.out]; rfl, (((Fr.refl _ _).alloc _).trans hfr).alloc _⟩

set_option maxHeartbeats 2000000 in
theorem po_3f (s : Nat → BitVec 64) (m : Int) (w : World) (h0 : 0 ≤ m) (hrm : rm m = 3) (b3 : tb (s 1) 3 = false) :
    Calls Try.prog 10 #[.agg (stC s), .int .u8 m] w fun e w' => e = .returned (.tuple #[.int .u8 (((firstB (openB s (rm m))).getD 0 : Nat) : Int), .bool (firstB (openB s (rm m))).isSome]) ∧ Fr [] w w' := by
  have Hrm := hid hrm
  have HX : Hid (openB s (rm m) = 0#64) := by show openB s (rm m) = _; rw [hrm]; simp [openB, open1, *]
  have k8 : (U (s 1 &&& 8#64) != 0) = false := (mask8_ne (s 1)).trans b3
  clear hrm b3
  go_enter Try.func10, Try.ntmps10
  go_wp2_with (first | (go_at_call 25; refine (real_any m _ h0).mono ?_; rintro e w' ⟨rfl, rfl⟩; rw [Hrm.out]) | (go_at_call 26; refine (pending_any s _).mono ?_; rintro e w1 ⟨rfl, hfr⟩; have hcell := blk_cell (hfr.keeps (blk_new w _) (by simp))) | (refine wpList_load_row rfl 25 _ rfl w.heap.size rfl 25 (stC s) (0, 0) _ (blk_new _ _) Try.underlying25 rfl (by kernel_rfl) ?_))
  refine (first_any 0#64 _ _ ?_).mono ?_
  · exact blk_new _ _
  rintro e w' ⟨rfl, rfl⟩
  go_wp2
  go_ret2
  exact ⟨by rw [HX.out]; rfl, (((Fr.refl _ _).alloc _).trans hfr).alloc _⟩

theorem pendingOf_any (s : Nat → BitVec 64) (m : Int) (w : World) (h0 : 0 ≤ m) :
    Calls Try.prog 10 #[.agg (stC s), .int .u8 m] w fun e w' => e = .returned (.tuple #[.int .u8 (((firstB (openB s (rm m))).getD 0 : Nat) : Int), .bool (firstB (openB s (rm m))).isSome]) ∧ Fr [] w w' := by
  have hr : rm m = 0 ∨ rm m = 1 ∨ rm m = 3 := by unfold rm; split <;> omega
  rcases hr with hr | hr | hr
  · by_cases hz : pend s &&& ~~~s 6 = 0#64
    · exact po_0z s m w h0 hr hz
    · exact po_0n s m w h0 hr hz
  · by_cases hz : pend s &&& ~~~s 6 = 0#64
    · cases b1 : tb (s 1) 1
      · exact po_1zf s m w h0 hr hz b1
      · exact po_1zt s m w h0 hr hz b1
    · exact po_1n s m w h0 hr hz
  · cases b3 : tb (s 1) 3
    · exact po_3f s m w h0 hr b3
    · by_cases hz : pend s &&& ~~~s 6 = 0#64
      · exact po_3tz s m w h0 hr b3 hz
      · exact po_3tn s m w h0 hr b3 hz
end Go.Proofs.Ytfdkmkblhicbfaa
