/- The law TrapRises without its row, its ways joined. -/
import Derived.Test.YtfdkmkblhicbfaaRn
import Derived.Test.YtfdkmkblhicbfaaRo
import Derived.Test.YtfdkmkblhicbfaaRu
namespace Go.Proofs.Ytfdkmkblhicbfaa
open Go.RowKit
set_option linter.all false

theorem wo_may (s : Nat → BitVec 64) (a : Nat) (r : Int) (k : Nat) : mayB (woS s a) r k = mayB s r k := rfl
theorem U_nat {a : Nat} (h : a < 64) : U (BitVec.ofNat 64 a) = (a : Int) := U_lit a (by omega)
theorem pend_of (s : Nat → BitVec 64) {r : Int} (w : World) (hr : rm r = r) (h0 : 0 ≤ r) :
    Calls Try.prog 10 #[.agg (stC s), .int .u8 r] w fun e w' => e = .returned (.tuple #[.int .u8 (((refP s r).getD 0 : Nat) : Int), .bool (refP s r).isSome]) ∧ Fr [] w w' := by
  have h := pendingOf_any s r w h0
  rw [hr, first_ref] at h
  exact h
theorem or_bit (s : Nat → BitVec 64) (k : Nat) : tb ((s 3 ||| s 4) &&& s 2) k = isB s k := by
  unfold tb isB tb
  rw [BitVec.getLsbD_and, BitVec.getLsbD_or]
  cases (s 2).getLsbD k <;> cases (s 3).getLsbD k <;> cases (s 4).getLsbD k <;> rfl
theorem order_lt {o : Option Nat} (h : ∀ b, o = some b → b ∈ order) : (0 : Int) ≤ ((o.getD 0 : Nat) : Int) ∧ ((o.getD 0 : Nat) : Int) < 64 := by
  cases o with
  | none => simp
  | some b => have := (order_mem (h b rfl)).1; simp; omega
theorem q_of {s : Nat → BitVec 64} {r : Int} {L b : Nat} (h1 : tb (s 6) b = decide (L = 1)) (h2 : isB s b = true) (h3 : mayB s r b = true) : qB s r L b = true := by
  unfold qB; rw [h1, h2, h3]; simp

theorem law_TrapRises (s : Nat → BitVec 64) (m : Int) (pc c tv : BitVec 64) (it : Bool) (w : World) (h0 : 0 ≤ m) (hc : U c < 256) :
    Calls Try.prog 5 #[.agg (stC s), .agg #[.int .u8 m, .int .u64 (U pc)], .agg #[.int .u8 (U c), .bool it, .int .u64 (U tv)]] w fun e w' => e = .returned (.bool true) ∧ Fr [] w w' := by
  have hrm := rm_lw m
  have hcs := lw_cases m
  have hL := fun w => lowerQ_any m w h0
  generalize lwQ m = r at hrm hcs hL
  have r0 : 0 ≤ r := by rcases hcs with rfl | rfl | rfl <;> decide
  have hE := fun w => enter_any s r pc c tv it w r0 hc
  rw [hrm] at hE
  have hd3 : ∀ x i, downB s r x i = true → r < 3 := by
    intro x i h; unfold downB at h; simp at h; exact h.1
  have hl1 : decide (lvE s r c it < r) = false := by
    unfold lvE; split
    · have := hd3 _ _ (by assumption); rcases hcs with rfl | rfl | rfl <;> first | rfl | omega
    · rcases hcs with rfl | rfl | rfl <;> rfl
  have hl2 : (lvE s r c it == 0) = false := by unfold lvE; split <;> rfl
  have hP := fun w => pend_of s w hrm r0
  have hA := fun w => awakep_any s w
  rw [awake_eq] at hA
  have hw := hid fun w => works_any w
  cases e : refP s r with
  | none =>
    rw [e] at hP
    refine rise_n s _ s m r _ _ 0 0 0 _ 0 pc tv it _ false false false w (hid hL) (hid hE) hl1 hl2 hw (hid hP) (hid hA) ?_
    intro ha
    rw [List.any_eq_true] at ha
    obtain ⟨k, hk, hi⟩ := ha
    have := refP_none e k hk
    rw [hi] at this
    rcases hcs with rfl | rfl | rfl
    · exfalso
      unfold mayB at this
      cases h6 : tb (s 6) k <;> rw [h6] at this <;> simp at this
    · rfl
    · rfl
  | some a =>
    rw [e] at hP
    obtain ⟨ho, hi, hm, hq0, hq1⟩ := refP_some e
    have h64 := (order_mem ho).1
    have hany : order.any (isB s) = true := by rw [List.any_eq_true]; exact ⟨a, ho, hi⟩
    rw [hany] at hA
    have hE2 := fun w => enter_any s r pc (BitVec.ofNat 64 a) 0#64 true w r0 (by rw [U_nat h64]; omega)
    rw [hrm, U_nat h64, show U 0#64 = 0 from rfl] at hE2
    have hB := fun b w => before_any (a : Nat) b w
    have hP3 := fun w => pend_of (woS s a) w hrm r0
    have hn := order_lt (o := refP (woS s a) r) (fun b h => (refP_some h).1)
    have hnext : ∀ b, refP (woS s a) r = some b → b ∈ order ∧ isB s b = true ∧ mayB s r b = true ∧ b ≠ a := by
      intro b h
      obtain ⟨k1, k2, k3, _, _⟩ := refP_some h
      rw [is_wo s k1] at k2
      simp at k2
      exact ⟨k1, k2.2, k3, k2.1⟩
    have tn : ((a : Nat) : Int).toNat = a := by omega
    cases h6 : tb (s 6) a
    · have hdn : downB s r ((a : Nat) : Int) true = false := by unfold downB; rw [if_pos rfl, tn, h6]; simp
      have hlv : lvE s r (BitVec.ofNat 64 a) true = 3 := by unfold lvE; rw [U_nat h64, hdn]; rfl
      rw [hlv] at hE2
      have hIb := stE_1u (s := s) (r := r) pc (BitVec.ofNat 64 a) (it := true) 0#64 (by rw [U_nat h64]; exact hdn)
      have hP2 := fun w => pend_of (stE s r pc (BitVec.ofNat 64 a) true 0#64) (r := 3) w rfl (by decide)
      have hnone : refP (stE s r pc (BitVec.ofNat 64 a) true 0#64) 3 = none := by
        cases e2 : refP (stE s r pc (BitVec.ofNat 64 a) true 0#64) 3 with
        | none => rfl
        | some g => have := (refP_some e2).2.2.1; rw [may_none hIb] at this; cases this
      rw [hnone] at hP2
      have h3 : decide ((3 : Int) < r) = false := by rcases hcs with rfl | rfl | rfl <;> rfl
      refine rise_u s _ _ m r _ _ (a : Nat) 0 _ _ _ pc tv it false false _ _ w (hid hL) (hid hE) hl1 hl2 hw (hid hP) (hid hA) (hid hE2) (by omega) (by omega) (by rw [tn]; exact h6) (by rw [tn, or_bit]; exact hi) h3 (hid hP2) (hid (by rw [tn]; exact hP3)) hn.1 hn.2 (hid (hB _)) (hid ?_)
      intro hs
      cases e3 : refP (woS s a) r with
      | none => rw [e3] at hs; cases hs
      | some b =>
        obtain ⟨k1, k2, k3, k4⟩ := hnext b e3
        cases h7 : tb (s 6) b
        · left
          show befI (a : Nat) (b : Nat) ordI = true
          exact find_before (hq0 h6) k1 (q_of (L := 0) (by rw [h7]; rfl) k2 k3) k4
        · right
          simp only [Option.getD_some]
          rw [show ((b : Nat) : Int).toNat = b by omega]; exact h7
    · have hr3 : r < 3 := by
        unfold mayB at hm
        rw [h6] at hm
        rcases hcs with rfl | rfl | rfl
        · decide
        · decide
        · simp at hm
      have hdn : downB s r ((a : Nat) : Int) true = true := by unfold downB; rw [if_pos rfl, tn, h6]; simp [hr3]
      have hlv : lvE s r (BitVec.ofNat 64 a) true = 1 := by unfold lvE; rw [U_nat h64, hdn]; rfl
      rw [hlv] at hE2
      have hIb := stE_1d (s := s) (r := r) pc (BitVec.ofNat 64 a) (it := true) 0#64 (by rw [U_nat h64]; exact hdn)
      have hP2 := fun w => pend_of (stE s r pc (BitVec.ofNat 64 a) true 0#64) (r := 1) w rfl (by decide)
      have hg := order_lt (o := refP (stE s r pc (BitVec.ofNat 64 a) true 0#64) 1) (fun b h => (refP_some h).1)
      have h3 : decide ((1 : Int) < r) = false := by rcases hcs with rfl | rfl | rfl <;> first | rfl | omega
      obtain ⟨hq1, hq2⟩ := hq1 h6
      have hb : (refP (woS s a) r).isSome = true → ∃ b, refP (woS s a) r = some b ∧ tb (s 6) b = true ∧ befI (a : Nat) (b : Nat) ordI = true := by
        intro hs
        cases e3 : refP (woS s a) r with
        | none => rw [e3] at hs; cases hs
        | some b =>
          obtain ⟨k1, k2, k3, k4⟩ := hnext b e3
          have h7 : tb (s 6) b = true := by
            cases h7 : tb (s 6) b
            · have := List.find?_eq_none.1 hq1 b k1
              rw [q_of (L := 0) (by rw [h7]; rfl) k2 k3] at this
              exact absurd rfl this
            · rfl
          exact ⟨b, rfl, h7, find_before hq2 k1 (q_of (L := 1) (by rw [h7]; rfl) k2 k3) k4⟩
      refine rise_o s _ _ m r _ _ (a : Nat) _ _ _ _ pc tv it false _ _ false w (hid hL) (hid hE) hl1 hl2 hw (hid hP) (hid hA) (hid hE2) (by omega) (by omega) (by rw [tn]; exact h6) (by rw [tn, or_bit]; exact hi) h3 (hid hP2) (hid (by rw [tn]; exact hP3)) hn.1 hn.2 hg.1 hg.2 (hid ?_) (hid ?_) (hid ?_)
      · intro hs
        cases e2 : refP (stE s r pc (BitVec.ofNat 64 a) true 0#64) 1 with
        | none => rw [e2] at hs; cases hs
        | some g =>
          simp only [Option.getD_some]
          rw [show ((g : Nat) : Int).toNat = g by omega]
          exact may_behind hIb (refP_some e2).2.2.1
      · intro hs w
        obtain ⟨b, e3, _, h8⟩ := hb hs
        rw [e3]
        have := hB (b : Nat) w
        rw [h8] at this
        exact this
      · intro hs
        obtain ⟨b, e3, h7, _⟩ := hb hs
        rw [e3]
        simp only [Option.getD_some]
        rw [show ((b : Nat) : Int).toNat = b by omega]; exact h7
end Go.Proofs.Ytfdkmkblhicbfaa
