/- Contracts of the helpers of the laws on watchdogs: ticks, awake. -/
import Derived.Test.YtpmbfngehmdfpaaC
import Derived.Deep.RegionWith
namespace Go.Proofs.Ytpmbfngehmdfpaa
open Go.RowKit

/-- the count behind ticks that tell all that is wanted -/
def tk (l : Int) : Int → List Bool → Option Int
  | c, [] => some c
  | c, x :: r => if ends l c = x then tk l (ticked l c) r else none

set_option maxHeartbeats 1000000 in
theorem ticks_yes (b g : Nat) (l c c' : Int) (want : List Bool) (w : World) (hn : want.length ≤ 1000) (hgb : g ≠ b) (hd : w.heap[b]? = some (dog l c)) (hg : w.heap[g]? = some (.cells (want.map Value.bool).toArray 4)) (hk : tk l c want = some c') :
    Calls Try.prog 20 #[.pointer (some ⟨b, 0, none⟩), .slice (some ⟨g, 0, none⟩) want.length want.length] w fun e w' => e = .returned (.bool true) ∧ w'.heap[b]? = some (dog l c') ∧ Fr [b] w w' := by
  have Hk := hid hk
  have Hg := hid hg
  have Hd := hid hd
  clear hk hg hd
  go_enter Try.func20, Try.ntmps20
  go_wp2
  go_loopw [5] (fun i wr => ∃ (k : Nat) (ck : Int), k ≤ want.length ∧ i = .int .i64 k ∧ Hid (tk l ck (want.drop k) = some c') ∧ Hid (wr.heap[b]? = some (dog l ck)) ∧ Fr [b] w wr) (fun i _ => want.length - (intOf i).toNat)
  case atStart => exact ⟨0, c, Nat.zero_le _, rfl, Hk, Hd, Fr.refl _ _⟩
  case round =>
    obtain ⟨k, ck, hk, rfl, hrun, hdk, hfr⟩ := hrel
    by_cases hlt : k < want.length
    · have hx : want.drop k = want[k] :: want.drop (k + 1) := List.drop_eq_getElem_cons hlt
      have hr2 := hrun.out
      rw [hx] at hr2
      simp only [tk] at hr2
      have hends : ends l ck = want[k] := by
        by_cases h : ends l ck = want[k]
        · exact h
        · rw [if_neg h] at hr2; cases hr2
      rw [if_pos hends] at hr2
      have Hgr := hid (hfr.keeps Hg.out (by simpa using hgb))
      have hcell : ∀ w' : World, w'.heap[g]? = some (.cells (want.map Value.bool).toArray 4) → w'.cell? ⟨g, k, none⟩ = some (.bool (ends l ck)) := by
        intro w' h
        rw [hends, blk_cell h k]; simp [hlt]
      have hc := hcell wr Hgr.out
      have Hc := hid hcell
      have Hr := hid hr2
      clear hr2 hx hends hcell
      have z0 : (0 : Int) ≤ (k : Int) := by omega
      have z1 : (k : Int) < (want.length : Int) := by omega
      go_wp2
      go_region_with (go_at_call 10; refine (tick_any b _ l ck ?_).mono ?_; (exact hdk.out); rintro e w1 ⟨rfl, hd1, hfr1⟩; have hc1 := Hc.out w1 (hfr1.keeps Hgr.out (by simpa using hgb)); have Hd1 := hid hd1; clear hd1)
      all_goals go_wp2
      all_goals
        go_roundw
        case rel => exact ⟨k + 1, _, by omega, by go_num, Hr, Hd1, hfr.trans ((Fr.refl _ _).drew.trans hfr1)⟩
        case measure => simp [intOf]; omega
    · have : k = want.length := by omega
      subst this
      have h1 := hrun.out
      simp [tk] at h1
      subst h1
      go_wp2
      go_ret
      exact ⟨rfl, hdk.out, hfr⟩

set_option maxHeartbeats 1000000 in
theorem awake_any (w : World) : Calls Try.prog 7 #[] w fun e w' => e = .returned (.bool true) ∧ Fr [] w w' := by
  go_enter Try.func7, Try.ntmps7
  go_wp2_with (first | (go_at_call 8; refine (new_any _ _).mono ?_; rintro e w' ⟨rfl, rfl⟩))
  refine (ticks_yes w.heap.size (w.heap.size + 1) 3 0 2 [false, false] _ (by decide) (by omega) ?_ ?_ rfl).mono ?_
  · exact blk_alloc (blk_new _ _) _
  · exact blk_new' (by simp) _
  rintro e w1 ⟨rfl, hd1, hfr1⟩
  have hs1 := hfr1.size
  simp at hs1
  have Hd1 := hid hd1
  clear hd1
  have hw1 := hid (((Fr.refl [] w).alloc (dog 3 0)).alloc (.cells #[.bool false, .bool false] 4) |>.step hfr1 (by simp))
  go_wp2_with (first | (go_at_call 11; refine (left_any w.heap.size _ 3 2 ?_).mono ?_; (exact Hd1.out); rintro e w' ⟨rfl, rfl⟩))
  refine (ticks_yes w.heap.size w1.heap.size 3 2 0 [true] _ (by decide) (by omega) ?_ ?_ rfl).mono ?_
  · exact blk_alloc Hd1.out _
  · exact blk_new _ _
  rintro e w2 ⟨rfl, hd2, hfr2⟩
  have Hd2 := hid hd2
  clear hd2
  go_wp2_with (first | (go_at_call 11; refine (left_any w.heap.size _ 3 0 ?_).mono ?_; (exact Hd2.out); rintro e w' ⟨rfl, rfl⟩))
  go_ret
  exact ⟨rfl, (hw1.out.alloc _).step hfr2 (by simp)⟩

end Go.Proofs.Ytpmbfngehmdfpaa
