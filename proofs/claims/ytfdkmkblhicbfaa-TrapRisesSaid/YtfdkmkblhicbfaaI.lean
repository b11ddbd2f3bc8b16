/- The law TrapPends without its row: which interrupt any state lets be taken, of the program and of its reference, is the same. -/
import Derived.Test.YtfdkmkblhicbfaaH
namespace Go.Proofs.Ytfdkmkblhicbfaa
set_option linter.all false
open Go.RowKit

theorem and_not_bit (x y : BitVec 64) (k : Nat) (hk : k < 64) : (x &&& ~~~y).getLsbD k = (x.getLsbD k && !(y.getLsbD k)) := by
  rw [BitVec.getLsbD_and, BitVec.getLsbD_not]; simp [hk]

theorem order_mem {k : Nat} (h : k ∈ order) : k < 64 ∧ (2730#64).getLsbD k = true := by
  have : k = 11 ∨ k = 3 ∨ k = 7 ∨ k = 9 ∨ k = 1 ∨ k = 5 := by simpa [order] using h
  rcases this with rfl | rfl | rfl | rfl | rfl | rfl <;> decide

theorem pend_bit (s : Nat → BitVec 64) {k : Nat} (h : k ∈ order) : tb (pend s) k = isB s k := by
  obtain ⟨_, h2⟩ := order_mem h
  unfold pend isB tb
  rw [BitVec.getLsbD_and, BitVec.getLsbD_and, BitVec.getLsbD_or, h2]
  cases (s 2).getLsbD k <;> cases (s 3).getLsbD k <;> cases (s 4).getLsbD k <;> rfl

theorem find_congr {p q : Nat → Bool} : ∀ (l : List Nat), (∀ k, k ∈ l → p k = q k) → l.find? p = l.find? q
  | [], _ => rfl
  | a :: l, h => by
    rw [List.find?_cons, List.find?_cons, h a (by simp), find_congr l (fun k hk => h k (by simp [hk]))]

/-- bits of the six alone: if none of them is, it is 0 -/
theorem six_bits (i : Nat) (hi : i < 64) (h : (2730#64).getLsbD i = true) : i ∈ order := by
  have key : ∀ i, i < 64 → (2730#64).getLsbD i = true → i ∈ order := by decide
  exact key i hi h
theorem zero_of {x : BitVec 64} (hx : ∀ i, i < 64 → x.getLsbD i = true → (2730#64).getLsbD i = true) (h : order.find? (tb x) = none) : x = 0#64 := by
  apply bv_ext
  intro i hi
  rw [BitVec.getLsbD_zero]
  cases e : x.getLsbD i
  · rfl
  · have := List.find?_eq_none.1 h i (six_bits i hi (hx i hi e))
    exact absurd e this
theorem pend_six (s : Nat → BitVec 64) (y : BitVec 64) (i : Nat) : (pend s &&& y).getLsbD i = true → (2730#64).getLsbD i = true := by
  unfold pend
  rw [BitVec.getLsbD_and, BitVec.getLsbD_and]
  intro h
  simp only [Bool.and_eq_true] at h
  exact h.1.2
theorem find_zero : order.find? (tb 0#64) = none := by decide

theorem q0_bit (s : Nat → BitVec 64) (r : Int) {k : Nat} (h : k ∈ order) (h1 : r < 3 ∨ tb (s 1) 3 = true) : qB s r 0 k = tb (pend s &&& ~~~s 6) k := by
  have hb := pend_bit s h
  obtain ⟨hk, _⟩ := order_mem h
  have e : tb (pend s &&& ~~~s 6) k = (tb (pend s) k && !(tb (s 6) k)) := and_not_bit _ _ _ hk
  rw [e, hb]
  unfold qB mayB
  cases h6 : tb (s 6) k
  · have : (decide (r < 3) || tb (s 1) 3) = true := by rcases h1 with h1 | h1 <;> simp [h1]
    simp [this]
  · simp
theorem q0_none (s : Nat → BitVec 64) (r : Int) {k : Nat} (h1 : ¬ (r < 3 ∨ tb (s 1) 3 = true)) : qB s r 0 k = false := by
  unfold qB mayB
  cases h6 : tb (s 6) k
  · have : (decide (r < 3) || tb (s 1) 3) = false := by
      cases e : (decide (r < 3) || tb (s 1) 3)
      · rfl
      · exact absurd (by simpa using e) h1
    simp [this]
  · simp
theorem q1_bit (s : Nat → BitVec 64) (r : Int) {k : Nat} (h : k ∈ order) (h1 : r < 1 ∨ r = 1 ∧ tb (s 1) 1 = true) : qB s r 1 k = tb (pend s &&& s 6) k := by
  have hb := pend_bit s h
  have e : tb (pend s &&& s 6) k = (tb (pend s) k && tb (s 6) k) := BitVec.getLsbD_and
  rw [e, hb]
  unfold qB mayB
  cases h6 : tb (s 6) k
  · simp
  · have : (decide (r < 1) || decide (r = 1) && tb (s 1) 1) = true := by
      rcases h1 with h1 | ⟨h1, h2⟩
      · simp [h1]
      · simp [h1, h2]
    simp [this]
theorem q1_none (s : Nat → BitVec 64) (r : Int) {k : Nat} (h1 : ¬ (r < 1 ∨ r = 1 ∧ tb (s 1) 1 = true)) : qB s r 1 k = false := by
  unfold qB mayB
  cases h6 : tb (s 6) k
  · simp
  · have : (decide (r < 1) || decide (r = 1) && tb (s 1) 1) = false := by
      cases e : (decide (r < 1) || decide (r = 1) && tb (s 1) 1)
      · rfl
      · exact absurd (by simpa using e) h1
    simp [this]

/-- the plain law: the interrupt that the program takes is the reference's -/
theorem first_ref (s : Nat → BitVec 64) (r : Int) : firstB (openB s r) = refP s r := by
  have h0 : order.find? (qB s r 0) = firstB (open1 s r) := by
    unfold firstB open1
    by_cases h1 : r < 3 ∨ tb (s 1) 3 = true
    · rw [if_pos h1]; exact find_congr _ fun k hk => q0_bit s r hk h1
    · rw [if_neg h1, find_zero]; exact (find_congr (q := fun _ => false) _ fun k hk => q0_none s r h1).trans (by decide)
  have hz : firstB (open1 s r) = none → open1 s r = 0#64 := by
    intro h
    unfold open1 at h ⊢
    by_cases h1 : r < 3 ∨ tb (s 1) 3 = true
    · rw [if_pos h1] at h ⊢; exact zero_of (fun i _ => pend_six s _ i) h
    · rw [if_neg h1]
  unfold refP
  rw [h0]
  unfold openB
  by_cases hc : open1 s r = 0#64 ∧ (r < 1 ∨ r = 1 ∧ tb (s 1) 1 = true)
  · rw [if_pos hc]
    have : firstB (open1 s r) = none := by rw [hc.1]; exact find_zero
    rw [this]
    exact (find_congr _ fun k hk => q1_bit s r hk hc.2).symm
  · rw [if_neg hc]
    cases h : firstB (open1 s r) with
    | some a => rfl
    | none =>
      have hn : ¬ (r < 1 ∨ r = 1 ∧ tb (s 1) 1 = true) := fun h2 => hc ⟨hz h, h2⟩
      exact ((find_congr (q := fun _ => false) _ fun k hk => q1_none s r hn).trans (by decide)).symm

theorem awake_eq (s : Nat → BitVec 64) : ((U (pend s)) != 0) = order.any (isB s) := by
  have e : (U (pend s) != 0) = !(decide (pend s = 0#64)) := by
    have := U_eq_iff (pend s) 0#64
    rw [show U 0#64 = 0 from rfl] at this
    simp only [bne, this]
  rw [e]
  by_cases h : pend s = 0#64
  · have : order.any (isB s) = false := by
      rw [List.any_eq_false]
      intro k hk
      rw [← pend_bit s hk, h]
      have : ∀ k ∈ order, ¬ tb 0#64 k = true := by decide
      exact this k hk
    rw [this]; simp [h]
  · have : order.any (isB s) = true := by
      rw [List.any_eq_true]
      cases hf : order.find? (tb (pend s)) with
      | none =>
        refine absurd (zero_of (fun i _ hi => ?_) hf) h
        unfold pend at hi
        rw [BitVec.getLsbD_and] at hi
        simp only [Bool.and_eq_true] at hi
        exact hi.2
      | some a =>
        have hm := List.mem_of_find?_eq_some hf
        exact ⟨a, hm, by rw [← pend_bit s hm]; exact List.find?_some hf⟩
    rw [this]; simp [h]

theorem refPending' (s : Nat → BitVec 64) (m : Int) (w : World) (hm : 0 ≤ m) :
    Calls Try.prog 11 #[.agg (stC s), .int .u8 m] w fun e w' => e = .returned (.tuple #[.int .u8 (((firstB (openB s (rm m))).getD 0 : Nat) : Int), .bool (firstB (openB s (rm m))).isSome]) ∧ Fr [] w w' := by
  rw [first_ref]; exact refPending_any s m w hm

set_option maxRecDepth 100000 in
set_option maxHeartbeats 4000000 in
theorem law_TrapPends (s : Nat → BitVec 64) (m : Int) (w : World) (hm : 0 ≤ m) :
    Calls Try.prog 3 #[.agg (stC s), .int .u8 m] w fun e w' => e = .returned (.bool true) ∧ Fr [] w w' := by
  have hp := hid fun w => pendingOf_any s m w hm
  have hq := hid fun w => refPending' s m w hm
  generalize firstB (openB s (rm m)) = o at hp hq
  have ha := hid fun w => awakep_any s w
  have hb : Hid (∀ w, Calls Try.prog 13 #[.agg (stC s)] w fun e w' => e = .returned (.bool ((U (pend s)) != 0)) ∧ Fr [] w w') := fun w => by rw [awake_eq]; exact awaker_any s w
  generalize ((U (pend s)) != 0) = v at ha hb
  go_enter Try.func3, Try.ntmps3
  go_upto_region 3 with (first | (refine wpList_load_row rfl 25 _ rfl w.heap.size rfl 25 (stC s) (0, 0) _ (blk_new _ _) Try.underlying25 rfl (by kernel_rfl) ?_) | (refine wpList_load_row rfl 25 _ rfl w.heap.size rfl 25 (stC s) (0, 0) _ (hfr.keeps (blk_new _ _) (by simp)) Try.underlying25 rfl (by kernel_rfl) ?_) | (go_at_call 10; refine (hp.out _).mono ?_; rintro e w1 ⟨rfl, hfr⟩) | (go_at_call 11; refine (hq.out _).mono ?_; rintro e w2 ⟨rfl, hfr2⟩))
  refine region_at (fun W => W.heap[w.heap.size]? = some (.cells (stC s) 25) ∧ Fr [] w W) (by kernel_rfl) (by kernel_rfl) ⟨hfr2.keeps (hfr.keeps (blk_new _ _) (by simp)) (by simp), (((Fr.refl _ _).alloc _).trans hfr).trans hfr2⟩ ?_
  rintro W ⟨hb0, hF⟩ hne
  have Hb0 := hid hb0
  clear hb0
  have ca : Hid (∀ n : Ext W, Calls Try.prog 12 #[.agg (stC s)] n.w fun e w'' => e = .returned (.bool v) ∧ ∃ m : Ext W, w'' = m.w) := fun n => Ext.call n (ha.out _)
  have cb : Hid (∀ n : Ext W, Calls Try.prog 13 #[.agg (stC s)] n.w fun e w'' => e = .returned (.bool v) ∧ ∃ m : Ext W, w'' = m.w) := fun n => Ext.call n (hb.out _)
  have cw : Hid (∀ n : Ext W, Calls Try.prog 14 #[] n.w fun e w'' => e = .returned (.bool true) ∧ ∃ m : Ext W, w'' = m.w) := fun n => Ext.call n (works_any _)
  repeat (first | (go_big_quiet_want; refine quiet_row 25 _ rfl w.heap.size rfl 25 (stC s) (0, 0) _ (fun w' hw' => by obtain ⟨n, rfl⟩ := hw'; exact n.blk Hb0.out) Try.underlying25 rfl (by kernel_rfl) ?_; go_simp; go_big_quiet_on) | (go_big_quiet_step ((first | (go_at_call 12; exact ca.out _) | (go_at_call 13; exact cb.out _) | (go_at_call 14; exact cw.out _)))))
  refine wpQuiet_nil ?_
  intro _ hw'
  obtain ⟨n, hw''⟩ := hw'
  subst hw''
  go_wp2
  go_ret
  exact ⟨rfl, hF.trans n.fr⟩
end Go.Proofs.Ytfdkmkblhicbfaa
