/- Contracts of the reference's: which interrupt is pending. -/
import Derived.Test.YtfdkmkblhicbfaaB
import Derived.Test.YtfdkmkblhicbfaaExt
import Derived.Deep.RegionWith
namespace Go.Proofs.Ytfdkmkblhicbfaa
set_option linter.all false
open Go.RowKit

def isB (s : Nat → BitVec 64) (k : Nat) : Bool := tb (s 2) k && (tb (s 3) k || tb (s 4) k)

set_option maxHeartbeats 1000000 in
theorem is_any (s : Nat → BitVec 64) (k : Int) (w : World) (h0 : 0 ≤ k) :
    Calls Try.prog 30 #[.agg (stC s), .int .i64 k] w fun e w' => e = .returned (.bool (isB s k.toNat)) ∧ Fr [] w w' := by
  have e : isB s k.toNat = (tb (s 2) k.toNat && (tb (s 3) k.toNat || tb (s 4) k.toNat)) := rfl
  rw [e]
  clear e
  cases b2 : tb (s 2) k.toNat
  · go_enter Try.func30, Try.ntmps30
    go_wp2_with (go_at_call 29; refine (bit_any _ k _ h0).mono ?_; rintro e w' ⟨rfl, rfl⟩)
    go_ret
    exact ⟨rfl, (Fr.refl _ _).alloc _⟩
  · cases b3 : tb (s 3) k.toNat
    all_goals
      go_enter Try.func30, Try.ntmps30
      go_wp2_with (go_at_call 29; refine (bit_any _ k _ h0).mono ?_; rintro e w' ⟨rfl, rfl⟩)
      go_ret
      exact ⟨rfl, (Fr.refl _ _).alloc _⟩

def mayB (s : Nat → BitVec 64) (m : Int) (k : Nat) : Bool := if tb (s 6) k = true then decide (m < 1) || (decide (m = 1) && tb (s 1) 1) else decide (m < 3) || tb (s 1) 3

set_option maxHeartbeats 2000000 in
theorem may_any (s : Nat → BitVec 64) (m k : Int) (w : World) (h0 : 0 ≤ k) (hm : 0 ≤ m) :
    Calls Try.prog 31 #[.agg (stC s), .int .u8 m, .int .i64 k] w fun e w' => e = .returned (.bool (mayB s (rm m) k.toNat)) ∧ Fr [] w w' := by
  have hr : rm m = 0 ∨ rm m = 1 ∨ rm m = 3 := by unfold rm; split <;> omega
  have hb1 : ∀ w, Calls Try.prog 29 #[.int .u64 (U (s 1)), .int .i64 1] w fun e w' => e = .returned (.bool (tb (s 1) 1)) ∧ w = w' := fun w => bit_any (s 1) 1 w (by decide)
  have hb3 : ∀ w, Calls Try.prog 29 #[.int .u64 (U (s 1)), .int .i64 3] w fun e w' => e = .returned (.bool (tb (s 1) 3)) ∧ w = w' := fun w => bit_any (s 1) 3 w (by decide)
  have Hb1 := hid hb1
  have Hb3 := hid hb3
  clear hb1 hb3
  cases b6 : tb (s 6) k.toNat
  · rcases hr with hr | hr | hr
    · have hv : mayB s (rm m) k.toNat = true := by rw [hr]; unfold mayB; rw [b6]; simp
      rw [hv]
      have Hr := hid hr
      clear hr hv
      go_enter Try.func31, Try.ntmps31
      go_wp2_with fail
      refine (mode_any m _ hm).mono ?_
      rintro e w' ⟨rfl, rfl⟩
      rw [Hr.out]
      go_wp2_with fail
      refine (bit_any (s 6) k _ h0).mono ?_
      rintro e w' ⟨rfl, rfl⟩
      go_wp2_with fail
      go_ret
      exact ⟨rfl, (Fr.refl _ _).alloc _⟩
    · have hv : mayB s (rm m) k.toNat = true := by rw [hr]; unfold mayB; rw [b6]; simp
      rw [hv]
      have Hr := hid hr
      clear hr hv
      go_enter Try.func31, Try.ntmps31
      go_wp2_with fail
      refine (mode_any m _ hm).mono ?_
      rintro e w' ⟨rfl, rfl⟩
      rw [Hr.out]
      go_wp2_with fail
      refine (bit_any (s 6) k _ h0).mono ?_
      rintro e w' ⟨rfl, rfl⟩
      go_wp2_with fail
      go_ret
      exact ⟨rfl, (Fr.refl _ _).alloc _⟩
    · have hv : mayB s (rm m) k.toNat = tb (s 1) 3 := by rw [hr]; unfold mayB; rw [b6]; simp
      rw [hv]
      have Hr := hid hr
      clear hr hv
      go_enter Try.func31, Try.ntmps31
      go_wp2_with fail
      refine (mode_any m _ hm).mono ?_
      rintro e w' ⟨rfl, rfl⟩
      rw [Hr.out]
      go_wp2_with fail
      refine (bit_any (s 6) k _ h0).mono ?_
      rintro e w' ⟨rfl, rfl⟩
      go_wp2_with fail
      refine (Hb3.out _).mono ?_
      rintro e w' ⟨rfl, rfl⟩
      go_wp2
      go_ret
      exact ⟨rfl, (Fr.refl _ _).alloc _⟩
  · rcases hr with hr | hr | hr
    · have hv : mayB s (rm m) k.toNat = true := by rw [hr]; unfold mayB; rw [b6]; simp
      rw [hv]
      have Hr := hid hr
      clear hr hv
      go_enter Try.func31, Try.ntmps31
      go_wp2_with fail
      refine (mode_any m _ hm).mono ?_
      rintro e w' ⟨rfl, rfl⟩
      rw [Hr.out]
      go_wp2_with fail
      refine (bit_any (s 6) k _ h0).mono ?_
      rintro e w' ⟨rfl, rfl⟩
      go_wp2_with fail
      go_ret
      exact ⟨rfl, (Fr.refl _ _).alloc _⟩
    · have hv : mayB s (rm m) k.toNat = tb (s 1) 1 := by rw [hr]; unfold mayB; rw [b6]; simp
      rw [hv]
      have Hr := hid hr
      clear hr hv
      go_enter Try.func31, Try.ntmps31
      go_wp2_with fail
      refine (mode_any m _ hm).mono ?_
      rintro e w' ⟨rfl, rfl⟩
      rw [Hr.out]
      go_wp2_with fail
      refine (bit_any (s 6) k _ h0).mono ?_
      rintro e w' ⟨rfl, rfl⟩
      go_wp2_with fail
      refine (Hb1.out _).mono ?_
      rintro e w' ⟨rfl, rfl⟩
      go_wp2
      go_ret
      exact ⟨rfl, (Fr.refl _ _).alloc _⟩
    · have hv : mayB s (rm m) k.toNat = false := by rw [hr]; unfold mayB; rw [b6]; simp
      rw [hv]
      have Hr := hid hr
      clear hr hv
      go_enter Try.func31, Try.ntmps31
      go_wp2_with fail
      refine (mode_any m _ hm).mono ?_
      rintro e w' ⟨rfl, rfl⟩
      rw [Hr.out]
      go_wp2_with fail
      refine (bit_any (s 6) k _ h0).mono ?_
      rintro e w' ⟨rfl, rfl⟩
      go_wp2_with fail
      go_ret
      exact ⟨rfl, (Fr.refl _ _).alloc _⟩

theorem size25 : (Try.prog.info? 25).map (·.size) = some 31 := by kernel_rfl

def ordC : Array Value := #[.int .i64 11, .int .i64 3, .int .i64 7, .int .i64 9, .int .i64 1, .int .i64 5]

set_option maxHeartbeats 1000000 in
theorem order_any (w : World) : Calls Try.prog 28 #[] w fun e w' => e = .returned (.slice (some ⟨w.heap.size, 0, none⟩) 6 6) ∧ w.alloc (.cells ordC 3) = w' := by
  go_enter Try.func28, Try.ntmps28
  go_wp2
  go_ret
  exact ⟨rfl, rfl⟩

theorem ord_at (k : Nat) (hk : k < 6) : ∃ a : Nat, order[k]? = some a ∧ a < 64 ∧ ∀ (w : World) (g : Nat), w.heap[g]? = some (.cells ordC 3) → w.cell? ⟨g, k, none⟩ = some (.int .i64 (a : Int)) := by
  rcases (by omega : k = 0 ∨ k = 1 ∨ k = 2 ∨ k = 3 ∨ k = 4 ∨ k = 5) with rfl | rfl | rfl | rfl | rfl | rfl <;> exact ⟨_, rfl, by decide, fun w g h => blk_cell h _⟩

theorem any_of_find {p : Nat → Bool} (l : List Nat) (a : Nat) (h : l.find? p = some a) : l.any p = true := by
  rw [List.any_eq_true]
  exact ⟨a, List.mem_of_find?_eq_some h, List.find?_some h⟩
theorem any_of_no {p : Nat → Bool} (l : List Nat) (h : l.find? p = none) : l.any p = false := by
  rw [List.find?_eq_none] at h
  rw [List.any_eq_false]
  exact h

set_option maxHeartbeats 4000000 in
theorem awaker_any (s : Nat → BitVec 64) (w : World) :
    Calls Try.prog 13 #[.agg (stC s)] w fun e w' => e = .returned (.bool (order.any (isB s))) ∧ Fr [] w w' := by
  go_enter Try.func13, Try.ntmps13
  go_wp2_with (go_at_call 28; refine (order_any _).mono ?_; rintro e w' ⟨rfl, rfl⟩)
  go_loopw [4] (fun i wr => ∃ k : Nat, k ≤ 6 ∧ i = .int .i64 k ∧ Hid (∀ j, j < k → ∀ b, order[j]? = some b → isB s b = false) ∧ Hid (wr.heap[w.heap.size]? = some (.cells (stC s) 25)) ∧ Hid (wr.heap[w.heap.size + 1]? = some (.cells ordC 3)) ∧ Fr [] w wr) (fun i _ => 6 - (intOf i).toNat)
  case atStart => exact ⟨0, by omega, rfl, fun j hj => by omega, blk_alloc (blk_new _ _) _, blk_new' (by simp) _, ((Fr.refl _ _).alloc _).alloc _⟩
  case round =>
    obtain ⟨k, hk, rfl, hn, hb, hl, hfr⟩ := hrel
    by_cases hlt : k < 6
    · obtain ⟨a, ha, ha64, hcell⟩ := ord_at k hlt
      have Ha := hid ha
      have Hc := hid hcell
      clear ha hcell
      have z0 : (0 : Int) ≤ (k : Int) := by omega
      have z1 : (k : Int) < 6 := by omega
      have z2 : (0 : Int) ≤ (a : Int) := by omega
      have hne := ext_ne wr
      have hcc : ∀ n : Ext wr, n.w.cell? ⟨w.heap.size + 1, k, none⟩ = some (.int .i64 (a : Int)) := fun n => Hc.out _ _ (n.blk hl.out)
      cases hb' : isB s (a : Int).toNat
      · have hcall : Hid (∀ n : Ext wr, Calls Try.prog 30 #[.agg (stC s), .int .i64 (a : Int)] n.w fun e w'' => e = .returned (.bool false) ∧ ∃ m : Ext wr, w'' = m.w) := fun n => by have := Ext.call n (is_any s (a : Int) _ z2); rw [hb'] at this; exact this
        go_wp2
        refine wp_region_ext (by kernel_rfl) (by kernel_rfl) ?_
        go_big_quiet_want
        refine quiet_row 25 _ rfl w.heap.size rfl 25 (stC s) (0, 0) _ (fun w' hw' => by obtain ⟨n, rfl⟩ := hw'; exact n.blk hb.out) Try.underlying25 rfl (by kernel_rfl) ?_
        go_simp
        go_big_quiet_on
        repeat (go_big_quiet_step ((go_at_call 30; exact hcall.out _)))
        refine wpQuiet_nil ?_
        intro _ hw'
        obtain ⟨n, hw''⟩ := hw'
        subst hw''
        go_wp2
        go_roundw
        case rel => exact ⟨k + 1, by omega, by go_num, fun j hj b h => by
          rcases Nat.lt_or_ge j k with h1 | h1
          · exact hn.out j h1 b h
          · obtain rfl : j = k := by omega
            rw [Ha.out] at h; cases h; exact hb', n.blk hb.out, n.blk hl.out, hfr.trans n.fr⟩
        case measure => simp [intOf]; omega
      · have hf := hid (any_of_find order a (find_at order k a Ha.out hn.out hb'))
        have hcall : Hid (∀ n : Ext wr, Calls Try.prog 30 #[.agg (stC s), .int .i64 (a : Int)] n.w fun e w'' => e = .returned (.bool true) ∧ ∃ m : Ext wr, w'' = m.w) := fun n => by have := Ext.call n (is_any s (a : Int) _ z2); rw [hb'] at this; exact this
        go_wp2
        refine wp_region_ext (by kernel_rfl) (by kernel_rfl) ?_
        go_big_quiet_want
        refine quiet_row 25 _ rfl w.heap.size rfl 25 (stC s) (0, 0) _ (fun w' hw' => by obtain ⟨n, rfl⟩ := hw'; exact n.blk hb.out) Try.underlying25 rfl (by kernel_rfl) ?_
        go_simp
        go_big_quiet_on
        repeat (go_big_quiet_step ((go_at_call 30; exact hcall.out _)))
        refine wpQuiet_nil ?_
        intro _ hw'
        obtain ⟨n, hw''⟩ := hw'
        subst hw''
        go_wp2
        go_ret
        exact ⟨ret_b hf.out.symm, hfr.trans n.fr⟩
    · obtain rfl : k = 6 := by omega
      have hf := hid (any_of_no order (find_no order (fun j hj => hn.out j hj)))
      go_wp2
      go_ret
      exact ⟨ret_b hf.out.symm, hfr⟩

/-- what the reference asks of an interrupt, at a level -/
def qB (s : Nat → BitVec 64) (r : Int) (L k : Nat) : Bool := (tb (s 6) k == decide (L = 1)) && isB s k && mayB s r k
def refP (s : Nat → BitVec 64) (r : Int) : Option Nat := match order.find? (qB s r 0) with | some a => some a | none => order.find? (qB s r 1)

theorem refP_at {s : Nat → BitVec 64} {r : Int} {L : Nat} (hL : L < 2) {a : Nat} (hn : ∀ L', L' < L → order.find? (qB s r L') = none) (h : order.find? (qB s r L) = some a) : refP s r = some a := by
  unfold refP
  rcases (by omega : L = 0 ∨ L = 1) with rfl | rfl
  · rw [h]
  · rw [hn 0 (by omega)]; exact h
theorem refP_no {s : Nat → BitVec 64} {r : Int} (hn : ∀ L', L' < 2 → order.find? (qB s r L') = none) : refP s r = none := by
  unfold refP
  rw [hn 0 (by omega)]; exact hn 1 (by omega)

set_option maxHeartbeats 8000000 in
theorem refPending_any (s : Nat → BitVec 64) (m : Int) (w : World) (hm : 0 ≤ m) :
    Calls Try.prog 11 #[.agg (stC s), .int .u8 m] w fun e w' => e = .returned (.tuple #[.int .u8 (((refP s (rm m)).getD 0 : Nat) : Int), .bool (refP s (rm m)).isSome]) ∧ Fr [] w w' := by
  go_enter Try.func11, Try.ntmps11
  go_wp2_with (go_at_call 28; refine (order_any _).mono ?_; rintro e w' ⟨rfl, rfl⟩)
  go_loopw [7, 8] (fun l _ wr => ∃ L : Nat, L ≤ 2 ∧ l = .int .i64 L ∧ Hid (∀ L', L' < L → order.find? (qB s (rm m) L') = none) ∧ Hid (wr.heap[w.heap.size]? = some (.cells (stC s) 25)) ∧ Hid (wr.heap[w.heap.size + 1]? = some (.cells ordC 3)) ∧ Fr [] w wr) (fun l _ _ => 2 - (intOf l).toNat)
  case atStart => exact ⟨0, by omega, rfl, fun j hj => by omega, blk_alloc (blk_new _ _) _, blk_new' (by simp) _, ((Fr.refl _ _).alloc _).alloc _⟩
  case round =>
    obtain ⟨L, hL, rfl, hnL, hb0, hl0, hfr0⟩ := hrel
    by_cases hlt : L < 2
    · have y0 : (0 : Int) ≤ (L : Int) := by omega
      have y1 : (L : Int) < 2 := by omega
      obtain ⟨wo, rfl⟩ : ∃ wo : World, wo = wr := ⟨_, rfl⟩
      go_wp2_with fail
      go_loopw [8] (fun i wr => ∃ k : Nat, k ≤ 6 ∧ i = .int .i64 k ∧ Hid (∀ j, j < k → ∀ b, order[j]? = some b → qB s (rm m) L b = false) ∧ Hid (wr.heap[w.heap.size]? = some (.cells (stC s) 25)) ∧ Hid (wr.heap[w.heap.size + 1]? = some (.cells ordC 3)) ∧ Fr [] w wr) (fun i _ => 6 - (intOf i).toNat)
      case atStart => exact ⟨0, by omega, rfl, fun j hj => by omega, hb0.out, hl0.out, hfr0⟩
      case round =>
        obtain ⟨k, hk, rfl, hn, hb, hl, hfr⟩ := hrel
        by_cases hlt : k < 6
        · obtain ⟨a, ha, ha64, hcell⟩ := ord_at k hlt
          have Ha := hid ha
          have Hc := hid hcell
          clear ha hcell
          have z0 : (0 : Int) ≤ (k : Int) := by omega
          have z1 : (k : Int) < 6 := by omega
          have z2 : (0 : Int) ≤ (a : Int) := by omega
          have z3 : (a : Int) < 64 := by omega
          have hne := ext_ne wr
          have hcc : ∀ n : Ext wr, n.w.cell? ⟨w.heap.size + 1, k, none⟩ = some (.int .i64 (a : Int)) := fun n => Hc.out _ _ (n.blk hl.out)
          have hss : ∀ n : Ext wr, n.w.cell? ⟨w.heap.size, 6, none⟩ = some (.int .u64 (U (s 6))) := fun n => n.cell hb.out 6
          have Hlev0 : Hid (((L : Int) == 1) = decide (L = 1)) := by
            show ((L : Int) == 1) = decide (L = 1)
            rcases (by omega : L = 0 ∨ L = 1) with rfl | rfl <;> rfl
          cases hlev : ((L : Int) == 1)
          · cases h6 : tb (s 6) (a : Int).toNat
            · cases his : isB s (a : Int).toNat
              · have c29 : Hid (∀ n : Ext wr, Calls Try.prog 29 #[.int .u64 (U (s 6)), .int .i64 (a : Int)] n.w fun e w'' => e = .returned (.bool false) ∧ ∃ m : Ext wr, w'' = m.w) := fun n => by have := Ext.same n (bit_any (s 6) (a : Int) _ z2); rw [h6] at this; exact this
                have c30 : Hid (∀ n : Ext wr, Calls Try.prog 30 #[.agg (stC s), .int .i64 (a : Int)] n.w fun e w'' => e = .returned (.bool false) ∧ ∃ m : Ext wr, w'' = m.w) := fun n => by have := Ext.call n (is_any s (a : Int) _ z2); rw [his] at this; exact this
                have hq : qB s (rm m) L a = false := by
                  have e1 : decide (L = 1) = false := by rw [← Hlev0.out]; exact hlev
                  have e2 : tb (s 6) a = false := h6
                  have e3 : isB s a = false := his
                  unfold qB; rw [e1, e2, e3]; rfl
                have Hq := hid hq
                clear hq h6 his
                go_wp2
                refine wp_region_ext (by kernel_rfl) (by kernel_rfl) ?_
                iterate 11 (go_big_quiet_step (((first | (go_at_call 29; exact c29.out _) | (go_at_call 30; exact c30.out _)))))
                go_big_quiet_want
                refine quiet_row 25 _ rfl w.heap.size rfl 25 (stC s) (0, 0) _ (fun w' hw' => by obtain ⟨n, rfl⟩ := hw'; exact n.blk hb.out) Try.underlying25 rfl (by kernel_rfl) ?_
                go_simp
                go_big_quiet_on
                repeat (go_big_quiet_step (((first | (go_at_call 29; exact c29.out _) | (go_at_call 30; exact c30.out _)))))
                refine wpQuiet_nil ?_
                intro _ hw'
                obtain ⟨n, hw''⟩ := hw'
                subst hw''
                go_wp2
                go_roundw
                case rel => exact ⟨k + 1, by omega, by go_num, fun j hj b h => by
                  rcases Nat.lt_or_ge j k with h1 | h1
                  · exact hn.out j h1 b h
                  · obtain rfl : j = k := by omega
                    rw [Ha.out] at h; cases h; exact Hq.out, n.blk hb.out, n.blk hl.out, hfr.trans n.fr⟩
                case measure => simp [intOf]; omega
              · cases hmy : mayB s (rm m) (a : Int).toNat
                · have c29 : Hid (∀ n : Ext wr, Calls Try.prog 29 #[.int .u64 (U (s 6)), .int .i64 (a : Int)] n.w fun e w'' => e = .returned (.bool false) ∧ ∃ m : Ext wr, w'' = m.w) := fun n => by have := Ext.same n (bit_any (s 6) (a : Int) _ z2); rw [h6] at this; exact this
                  have c30 : Hid (∀ n : Ext wr, Calls Try.prog 30 #[.agg (stC s), .int .i64 (a : Int)] n.w fun e w'' => e = .returned (.bool true) ∧ ∃ m : Ext wr, w'' = m.w) := fun n => by have := Ext.call n (is_any s (a : Int) _ z2); rw [his] at this; exact this
                  have c31 : Hid (∀ n : Ext wr, Calls Try.prog 31 #[.agg (stC s), .int .u8 m, .int .i64 (a : Int)] n.w fun e w'' => e = .returned (.bool false) ∧ ∃ m : Ext wr, w'' = m.w) := fun n => by have := Ext.call n (may_any s m (a : Int) _ z2 hm); rw [hmy] at this; exact this
                  have hq : qB s (rm m) L a = false := by
                    have e1 : decide (L = 1) = false := by rw [← Hlev0.out]; exact hlev
                    have e2 : tb (s 6) a = false := h6
                    have e3 : isB s a = true := his
                    have e4 : mayB s (rm m) a = false := hmy
                    unfold qB; rw [e1, e2, e3, e4]; rfl
                  have Hq := hid hq
                  clear hq h6 his hmy
                  go_wp2
                  refine wp_region_ext (by kernel_rfl) (by kernel_rfl) ?_
                  iterate 11 (go_big_quiet_step (((first | (go_at_call 29; exact c29.out _) | (go_at_call 30; exact c30.out _) | (go_at_call 31; exact c31.out _)))))
                  go_big_quiet_want
                  refine quiet_row 25 _ rfl w.heap.size rfl 25 (stC s) (0, 0) _ (fun w' hw' => by obtain ⟨n, rfl⟩ := hw'; exact n.blk hb.out) Try.underlying25 rfl (by kernel_rfl) ?_
                  go_simp
                  go_big_quiet_on
                  iterate 7 (go_big_quiet_step (((first | (go_at_call 29; exact c29.out _) | (go_at_call 30; exact c30.out _) | (go_at_call 31; exact c31.out _)))))
                  go_big_quiet_want
                  refine quiet_row 25 _ rfl w.heap.size rfl 25 (stC s) (0, 0) _ (fun w' hw' => by obtain ⟨n, rfl⟩ := hw'; exact n.blk hb.out) Try.underlying25 rfl (by kernel_rfl) ?_
                  go_simp
                  go_big_quiet_on
                  repeat (go_big_quiet_step (((first | (go_at_call 29; exact c29.out _) | (go_at_call 30; exact c30.out _) | (go_at_call 31; exact c31.out _)))))
                  refine wpQuiet_nil ?_
                  intro _ hw'
                  obtain ⟨n, hw''⟩ := hw'
                  subst hw''
                  go_wp2
                  go_roundw
                  case rel => exact ⟨k + 1, by omega, by go_num, fun j hj b h => by
                    rcases Nat.lt_or_ge j k with h1 | h1
                    · exact hn.out j h1 b h
                    · obtain rfl : j = k := by omega
                      rw [Ha.out] at h; cases h; exact Hq.out, n.blk hb.out, n.blk hl.out, hfr.trans n.fr⟩
                  case measure => simp [intOf]; omega
                · have c29 : Hid (∀ n : Ext wr, Calls Try.prog 29 #[.int .u64 (U (s 6)), .int .i64 (a : Int)] n.w fun e w'' => e = .returned (.bool false) ∧ ∃ m : Ext wr, w'' = m.w) := fun n => by have := Ext.same n (bit_any (s 6) (a : Int) _ z2); rw [h6] at this; exact this
                  have c30 : Hid (∀ n : Ext wr, Calls Try.prog 30 #[.agg (stC s), .int .i64 (a : Int)] n.w fun e w'' => e = .returned (.bool true) ∧ ∃ m : Ext wr, w'' = m.w) := fun n => by have := Ext.call n (is_any s (a : Int) _ z2); rw [his] at this; exact this
                  have c31 : Hid (∀ n : Ext wr, Calls Try.prog 31 #[.agg (stC s), .int .u8 m, .int .i64 (a : Int)] n.w fun e w'' => e = .returned (.bool true) ∧ ∃ m : Ext wr, w'' = m.w) := fun n => by have := Ext.call n (may_any s m (a : Int) _ z2 hm); rw [hmy] at this; exact this
                  have hq : qB s (rm m) L a = true := by
                    have e1 : decide (L = 1) = false := by rw [← Hlev0.out]; exact hlev
                    have e2 : tb (s 6) a = false := h6
                    have e3 : isB s a = true := his
                    have e4 : mayB s (rm m) a = true := hmy
                    unfold qB; rw [e1, e2, e3, e4]; rfl
                  have Hq := hid hq
                  clear hq h6 his hmy
                  have hf := hid (refP_at (by omega) hnL.out (find_at order k a Ha.out hn.out Hq.out))
                  go_wp2
                  refine wp_region_ext (by kernel_rfl) (by kernel_rfl) ?_
                  iterate 11 (go_big_quiet_step (((first | (go_at_call 29; exact c29.out _) | (go_at_call 30; exact c30.out _) | (go_at_call 31; exact c31.out _)))))
                  go_big_quiet_want
                  refine quiet_row 25 _ rfl w.heap.size rfl 25 (stC s) (0, 0) _ (fun w' hw' => by obtain ⟨n, rfl⟩ := hw'; exact n.blk hb.out) Try.underlying25 rfl (by kernel_rfl) ?_
                  go_simp
                  go_big_quiet_on
                  iterate 7 (go_big_quiet_step (((first | (go_at_call 29; exact c29.out _) | (go_at_call 30; exact c30.out _) | (go_at_call 31; exact c31.out _)))))
                  go_big_quiet_want
                  refine quiet_row 25 _ rfl w.heap.size rfl 25 (stC s) (0, 0) _ (fun w' hw' => by obtain ⟨n, rfl⟩ := hw'; exact n.blk hb.out) Try.underlying25 rfl (by kernel_rfl) ?_
                  go_simp
                  go_big_quiet_on
                  repeat (go_big_quiet_step (((first | (go_at_call 29; exact c29.out _) | (go_at_call 30; exact c30.out _) | (go_at_call 31; exact c31.out _)))))
                  refine wpQuiet_nil ?_
                  intro _ hw'
                  obtain ⟨n, hw''⟩ := hw'
                  subst hw''
                  go_wp2
                  go_ret2
                  exact ⟨ret_ub (by rw [hf.out]; rfl) (by rw [hf.out]; rfl), hfr.trans n.fr⟩
            · have c29 : Hid (∀ n : Ext wr, Calls Try.prog 29 #[.int .u64 (U (s 6)), .int .i64 (a : Int)] n.w fun e w'' => e = .returned (.bool true) ∧ ∃ m : Ext wr, w'' = m.w) := fun n => by have := Ext.same n (bit_any (s 6) (a : Int) _ z2); rw [h6] at this; exact this
              have hq : qB s (rm m) L a = false := by
                have e1 : decide (L = 1) = false := by rw [← Hlev0.out]; exact hlev
                have e2 : tb (s 6) a = true := h6
                unfold qB; rw [e1, e2]; rfl
              have Hq := hid hq
              clear hq h6
              go_wp2
              refine wp_region_ext (by kernel_rfl) (by kernel_rfl) ?_
              repeat (go_big_quiet_step (((first | (go_at_call 29; exact c29.out _)))))
              refine wpQuiet_nil ?_
              intro _ hw'
              obtain ⟨n, hw''⟩ := hw'
              subst hw''
              go_wp2
              go_roundw
              case rel => exact ⟨k + 1, by omega, by go_num, fun j hj b h => by
                rcases Nat.lt_or_ge j k with h1 | h1
                · exact hn.out j h1 b h
                · obtain rfl : j = k := by omega
                  rw [Ha.out] at h; cases h; exact Hq.out, n.blk hb.out, n.blk hl.out, hfr.trans n.fr⟩
              case measure => simp [intOf]; omega
          · cases h6 : tb (s 6) (a : Int).toNat
            · have c29 : Hid (∀ n : Ext wr, Calls Try.prog 29 #[.int .u64 (U (s 6)), .int .i64 (a : Int)] n.w fun e w'' => e = .returned (.bool false) ∧ ∃ m : Ext wr, w'' = m.w) := fun n => by have := Ext.same n (bit_any (s 6) (a : Int) _ z2); rw [h6] at this; exact this
              have hq : qB s (rm m) L a = false := by
                have e1 : decide (L = 1) = true := by rw [← Hlev0.out]; exact hlev
                have e2 : tb (s 6) a = false := h6
                unfold qB; rw [e1, e2]; rfl
              have Hq := hid hq
              clear hq h6
              go_wp2
              refine wp_region_ext (by kernel_rfl) (by kernel_rfl) ?_
              repeat (go_big_quiet_step (((first | (go_at_call 29; exact c29.out _)))))
              refine wpQuiet_nil ?_
              intro _ hw'
              obtain ⟨n, hw''⟩ := hw'
              subst hw''
              go_wp2
              go_roundw
              case rel => exact ⟨k + 1, by omega, by go_num, fun j hj b h => by
                rcases Nat.lt_or_ge j k with h1 | h1
                · exact hn.out j h1 b h
                · obtain rfl : j = k := by omega
                  rw [Ha.out] at h; cases h; exact Hq.out, n.blk hb.out, n.blk hl.out, hfr.trans n.fr⟩
              case measure => simp [intOf]; omega
            · cases his : isB s (a : Int).toNat
              · have c29 : Hid (∀ n : Ext wr, Calls Try.prog 29 #[.int .u64 (U (s 6)), .int .i64 (a : Int)] n.w fun e w'' => e = .returned (.bool true) ∧ ∃ m : Ext wr, w'' = m.w) := fun n => by have := Ext.same n (bit_any (s 6) (a : Int) _ z2); rw [h6] at this; exact this
                have c30 : Hid (∀ n : Ext wr, Calls Try.prog 30 #[.agg (stC s), .int .i64 (a : Int)] n.w fun e w'' => e = .returned (.bool false) ∧ ∃ m : Ext wr, w'' = m.w) := fun n => by have := Ext.call n (is_any s (a : Int) _ z2); rw [his] at this; exact this
                have hq : qB s (rm m) L a = false := by
                  have e1 : decide (L = 1) = true := by rw [← Hlev0.out]; exact hlev
                  have e2 : tb (s 6) a = true := h6
                  have e3 : isB s a = false := his
                  unfold qB; rw [e1, e2, e3]; rfl
                have Hq := hid hq
                clear hq h6 his
                go_wp2
                refine wp_region_ext (by kernel_rfl) (by kernel_rfl) ?_
                iterate 11 (go_big_quiet_step (((first | (go_at_call 29; exact c29.out _) | (go_at_call 30; exact c30.out _)))))
                go_big_quiet_want
                refine quiet_row 25 _ rfl w.heap.size rfl 25 (stC s) (0, 0) _ (fun w' hw' => by obtain ⟨n, rfl⟩ := hw'; exact n.blk hb.out) Try.underlying25 rfl (by kernel_rfl) ?_
                go_simp
                go_big_quiet_on
                repeat (go_big_quiet_step (((first | (go_at_call 29; exact c29.out _) | (go_at_call 30; exact c30.out _)))))
                refine wpQuiet_nil ?_
                intro _ hw'
                obtain ⟨n, hw''⟩ := hw'
                subst hw''
                go_wp2
                go_roundw
                case rel => exact ⟨k + 1, by omega, by go_num, fun j hj b h => by
                  rcases Nat.lt_or_ge j k with h1 | h1
                  · exact hn.out j h1 b h
                  · obtain rfl : j = k := by omega
                    rw [Ha.out] at h; cases h; exact Hq.out, n.blk hb.out, n.blk hl.out, hfr.trans n.fr⟩
                case measure => simp [intOf]; omega
              · cases hmy : mayB s (rm m) (a : Int).toNat
                · have c29 : Hid (∀ n : Ext wr, Calls Try.prog 29 #[.int .u64 (U (s 6)), .int .i64 (a : Int)] n.w fun e w'' => e = .returned (.bool true) ∧ ∃ m : Ext wr, w'' = m.w) := fun n => by have := Ext.same n (bit_any (s 6) (a : Int) _ z2); rw [h6] at this; exact this
                  have c30 : Hid (∀ n : Ext wr, Calls Try.prog 30 #[.agg (stC s), .int .i64 (a : Int)] n.w fun e w'' => e = .returned (.bool true) ∧ ∃ m : Ext wr, w'' = m.w) := fun n => by have := Ext.call n (is_any s (a : Int) _ z2); rw [his] at this; exact this
                  have c31 : Hid (∀ n : Ext wr, Calls Try.prog 31 #[.agg (stC s), .int .u8 m, .int .i64 (a : Int)] n.w fun e w'' => e = .returned (.bool false) ∧ ∃ m : Ext wr, w'' = m.w) := fun n => by have := Ext.call n (may_any s m (a : Int) _ z2 hm); rw [hmy] at this; exact this
                  have hq : qB s (rm m) L a = false := by
                    have e1 : decide (L = 1) = true := by rw [← Hlev0.out]; exact hlev
                    have e2 : tb (s 6) a = true := h6
                    have e3 : isB s a = true := his
                    have e4 : mayB s (rm m) a = false := hmy
                    unfold qB; rw [e1, e2, e3, e4]; rfl
                  have Hq := hid hq
                  clear hq h6 his hmy
                  go_wp2
                  refine wp_region_ext (by kernel_rfl) (by kernel_rfl) ?_
                  iterate 11 (go_big_quiet_step (((first | (go_at_call 29; exact c29.out _) | (go_at_call 30; exact c30.out _) | (go_at_call 31; exact c31.out _)))))
                  go_big_quiet_want
                  refine quiet_row 25 _ rfl w.heap.size rfl 25 (stC s) (0, 0) _ (fun w' hw' => by obtain ⟨n, rfl⟩ := hw'; exact n.blk hb.out) Try.underlying25 rfl (by kernel_rfl) ?_
                  go_simp
                  go_big_quiet_on
                  iterate 7 (go_big_quiet_step (((first | (go_at_call 29; exact c29.out _) | (go_at_call 30; exact c30.out _) | (go_at_call 31; exact c31.out _)))))
                  go_big_quiet_want
                  refine quiet_row 25 _ rfl w.heap.size rfl 25 (stC s) (0, 0) _ (fun w' hw' => by obtain ⟨n, rfl⟩ := hw'; exact n.blk hb.out) Try.underlying25 rfl (by kernel_rfl) ?_
                  go_simp
                  go_big_quiet_on
                  repeat (go_big_quiet_step (((first | (go_at_call 29; exact c29.out _) | (go_at_call 30; exact c30.out _) | (go_at_call 31; exact c31.out _)))))
                  refine wpQuiet_nil ?_
                  intro _ hw'
                  obtain ⟨n, hw''⟩ := hw'
                  subst hw''
                  go_wp2
                  go_roundw
                  case rel => exact ⟨k + 1, by omega, by go_num, fun j hj b h => by
                    rcases Nat.lt_or_ge j k with h1 | h1
                    · exact hn.out j h1 b h
                    · obtain rfl : j = k := by omega
                      rw [Ha.out] at h; cases h; exact Hq.out, n.blk hb.out, n.blk hl.out, hfr.trans n.fr⟩
                  case measure => simp [intOf]; omega
                · have c29 : Hid (∀ n : Ext wr, Calls Try.prog 29 #[.int .u64 (U (s 6)), .int .i64 (a : Int)] n.w fun e w'' => e = .returned (.bool true) ∧ ∃ m : Ext wr, w'' = m.w) := fun n => by have := Ext.same n (bit_any (s 6) (a : Int) _ z2); rw [h6] at this; exact this
                  have c30 : Hid (∀ n : Ext wr, Calls Try.prog 30 #[.agg (stC s), .int .i64 (a : Int)] n.w fun e w'' => e = .returned (.bool true) ∧ ∃ m : Ext wr, w'' = m.w) := fun n => by have := Ext.call n (is_any s (a : Int) _ z2); rw [his] at this; exact this
                  have c31 : Hid (∀ n : Ext wr, Calls Try.prog 31 #[.agg (stC s), .int .u8 m, .int .i64 (a : Int)] n.w fun e w'' => e = .returned (.bool true) ∧ ∃ m : Ext wr, w'' = m.w) := fun n => by have := Ext.call n (may_any s m (a : Int) _ z2 hm); rw [hmy] at this; exact this
                  have hq : qB s (rm m) L a = true := by
                    have e1 : decide (L = 1) = true := by rw [← Hlev0.out]; exact hlev
                    have e2 : tb (s 6) a = true := h6
                    have e3 : isB s a = true := his
                    have e4 : mayB s (rm m) a = true := hmy
                    unfold qB; rw [e1, e2, e3, e4]; rfl
                  have Hq := hid hq
                  clear hq h6 his hmy
                  have hf := hid (refP_at (by omega) hnL.out (find_at order k a Ha.out hn.out Hq.out))
                  go_wp2
                  refine wp_region_ext (by kernel_rfl) (by kernel_rfl) ?_
                  iterate 11 (go_big_quiet_step (((first | (go_at_call 29; exact c29.out _) | (go_at_call 30; exact c30.out _) | (go_at_call 31; exact c31.out _)))))
                  go_big_quiet_want
                  refine quiet_row 25 _ rfl w.heap.size rfl 25 (stC s) (0, 0) _ (fun w' hw' => by obtain ⟨n, rfl⟩ := hw'; exact n.blk hb.out) Try.underlying25 rfl (by kernel_rfl) ?_
                  go_simp
                  go_big_quiet_on
                  iterate 7 (go_big_quiet_step (((first | (go_at_call 29; exact c29.out _) | (go_at_call 30; exact c30.out _) | (go_at_call 31; exact c31.out _)))))
                  go_big_quiet_want
                  refine quiet_row 25 _ rfl w.heap.size rfl 25 (stC s) (0, 0) _ (fun w' hw' => by obtain ⟨n, rfl⟩ := hw'; exact n.blk hb.out) Try.underlying25 rfl (by kernel_rfl) ?_
                  go_simp
                  go_big_quiet_on
                  repeat (go_big_quiet_step (((first | (go_at_call 29; exact c29.out _) | (go_at_call 30; exact c30.out _) | (go_at_call 31; exact c31.out _)))))
                  refine wpQuiet_nil ?_
                  intro _ hw'
                  obtain ⟨n, hw''⟩ := hw'
                  subst hw''
                  go_wp2
                  go_ret2
                  exact ⟨ret_ub (by rw [hf.out]; rfl) (by rw [hf.out]; rfl), hfr.trans n.fr⟩
        · obtain rfl : k = 6 := by omega
          have hf := hid (find_no order (fun j hj => hn.out j hj))
          go_wp2
          go_roundw
          case rel => exact ⟨L + 1, by omega, by go_num, fun L' hL' => by
            rcases Nat.lt_or_ge L' L with h1 | h1
            · exact hnL.out L' h1
            · obtain rfl : L' = L := by omega
              exact hf.out, hb.out, hl.out, hfr⟩
          case measure => simp [intOf]; omega
    · obtain rfl : L = 2 := by omega
      have hf := hid (refP_no hnL.out)
      go_wp2
      go_ret2
      exact ⟨ret_ub (by rw [hf.out]; rfl) (by rw [hf.out]; rfl), hfr0⟩
end Go.Proofs.Ytfdkmkblhicbfaa
