/- The law TrapRises without its walk: what a trap, the interrupt that is taken, and the next one are. -/
import Derived.Test.YtfdkmkblhicbfaaI
import Derived.Deep.LoopGhost
namespace Go.Proofs.Ytfdkmkblhicbfaa
open Go.RowKit
set_option linter.all false

def lwQ (m : Int) : Int := if m % 3 = 0 then 0 else if m % 3 = 1 then 1 else 3
theorem lowerQ_ix (m : Int) (w : World) : (Instr.index 59 (.agg #[.int .u8 0, .int .u8 1, .int .u8 3]) (.int .u8 (m % 3))).run Try.prog w = .ok (.int .u8 (lwQ m)) w := by
  unfold lwQ
  rcases (by omega : m % 3 = 0 ∨ m % 3 = 1 ∨ m % 3 = 2) with h | h | h
  · rw [h]; kernel_rfl
  · rw [h]; kernel_rfl
  · rw [h]; kernel_rfl
set_option maxHeartbeats 400000 in
theorem lowerQ_any (m : Int) (w : World) (h0 : 0 ≤ m) : Calls Try.prog 17 #[.int .u8 m] w fun e w' => e = .returned (.int .u8 (lwQ m)) ∧ w = w' := by
  have hx := lowerQ_ix m
  go_enter Try.func17, Try.ntmps17
  go_wp2
  go_ret
  exact ⟨rfl, rfl⟩

/-! which of two causes is ahead -/
def ordI : List Int := [11, 3, 7, 9, 1, 5]
def ordO : Obj := .cells #[.int .u8 11, .int .u8 3, .int .u8 7, .int .u8 9, .int .u8 1, .int .u8 5] 41
def oq (k : Nat) : Int := ordI.getD k 0
theorem oq_cell {w : World} {b : Nat} (h : w.heap[b]? = some ordO) : ∀ k, k < 6 → w.cell? ⟨b, k, none⟩ = some (.int .u8 (oq k)) := by
  intro k hk
  unfold ordO at h
  rw [blk_cell h]
  have : k = 0 ∨ k = 1 ∨ k = 2 ∨ k = 3 ∨ k = 4 ∨ k = 5 := by omega
  rcases this with rfl | rfl | rfl | rfl | rfl | rfl <;> rfl
/-- from the k-th on: is a met, and not b ahead of it -/
def befI (a b : Int) : List Int → Bool
  | [] => false
  | x :: l => if x = a then true else if x = b then false else befI a b l
theorem bef_drop (a b : Int) : ∀ k, k < 6 → befI a b (ordI.drop k) = if oq k = a then true else if oq k = b then false else befI a b (ordI.drop (k + 1)) := by
  intro k hk
  have : k = 0 ∨ k = 1 ∨ k = 2 ∨ k = 3 ∨ k = 4 ∨ k = 5 := by omega
  rcases this with rfl | rfl | rfl | rfl | rfl | rfl <;> rfl
def LB (w : World) (wr : World) : Prop := wr.heap[w.heap.size]? = some ordO ∧ Fr [] w wr
theorem retQ {x y : Bool} (h : x = y) : Ending.returned (.bool x) = .returned (.bool y) := by rw [h]
set_option maxRecDepth 100000 in
set_option maxHeartbeats 1000000 in
theorem before_any (a b : Int) (w : World) : Calls Try.prog 18 #[.int .u8 a, .int .u8 b] w fun e w' => e = .returned (.bool (befI a b ordI)) ∧ Fr [] w w' := by
  go_enter Try.func18, Try.ntmps18
  go_wp2_with fail
  go_loop [6] (fun i => ∃ k : Nat, k ≤ 6 ∧ i = .int .i64 k ∧ befI a b ordI = befI a b (ordI.drop k)) (fun i => 6 - (intOf i).toNat)
  case atStart => exact ⟨0, by omega, rfl, rfl⟩
  case round =>
    obtain ⟨k, hk, rfl, hB⟩ := hrel
    have hF : Fr [] w (w.alloc ordO) := (Fr.refl _ _).alloc _
    have HB := hid hB
    clear hB
    by_cases hlt : k < 6
    · have hc : (w.alloc ordO).cell? ⟨w.heap.size, k, none⟩ = some (.int .u8 (oq k)) := oq_cell (blk_new _ _) k hlt
      have hs := bef_drop a b k hlt
      unfold ordO at hc hF
      by_cases ha : oq k = a
      · have h1 : (oq k == a) = true := by simp [ha]
        rw [if_pos ha] at hs
        have HS := hid hs
        have HA := hid ha
        clear hs ha
        go_wp2_with fail
        go_ret
        exact ⟨retQ (by rw [HB.out, HS.out]), hF⟩
      · rw [if_neg ha] at hs
        have h1 : (oq k == a) = false := by simp [ha]
        by_cases hb : oq k = b
        · have h2 : (oq k == b) = true := by simp [hb]
          rw [if_pos hb] at hs
          have HS := hid hs
          clear hs hb ha
          go_wp2_with fail
          go_ret
          exact ⟨retQ (by rw [HB.out, HS.out]), hF⟩
        · rw [if_neg hb] at hs
          have h2 : (oq k == b) = false := by simp [hb]
          have HS := hid hs
          clear hs hb ha
          go_wp2_with fail
          go_round
          case rel => exact ⟨k + 1, by omega, by go_num, by rw [HB.out, HS.out]⟩
          case measure => simp [intOf]; omega
    · obtain rfl : k = 6 := by omega
      unfold ordO at hF
      go_wp2_with fail
      go_ret
      exact ⟨retQ (by rw [HB.out]; rfl), hF⟩

/-! the plain laws -/
def woS (s : Nat → BitVec 64) (a : Nat) : Nat → BitVec 64 := upd s 2 (s 2 &&& ~~~(1#64 <<< a))
theorem is_wo (s : Nat → BitVec 64) {a j : Nat} (hj : j ∈ order) : isB (woS s a) j = (!(decide (j = a)) && isB s j) := by
  obtain ⟨hj64, _⟩ := order_mem hj
  have e2 : tb (woS s a 2) j = (tb (s 2) j && !(decide (j = a))) := by
    unfold woS; rw [upd_same]; unfold tb
    rw [BitVec.getLsbD_and, BitVec.getLsbD_not]
    have : (1#64 <<< a).getLsbD j = decide (j = a) := by
      have := BitVec.getLsbD_twoPow (w := 64) a j
      rw [BitVec.twoPow] at this
      rw [this]
      by_cases e : j = a
      · subst e; simp [hj64]
      · have : ¬ a = j := fun h => e h.symm
        simp [e, this]
    rw [this]; simp [hj64]
  have e3 : woS s a 3 = s 3 := rfl
  have e4 : woS s a 4 = s 4 := rfl
  unfold isB
  rw [e2, e3, e4]
  cases decide (j = a) <;> cases tb (s 2) j <;> rfl

/-- what 'refP' tells: a cause of the order, pending, that may be taken; none of a higher level, nor ahead of it, may -/
theorem refP_some {s : Nat → BitVec 64} {r : Int} {a : Nat} (h : refP s r = some a) : a ∈ order ∧ isB s a = true ∧ mayB s r a = true ∧
    (tb (s 6) a = false → order.find? (qB s r 0) = some a) ∧ (tb (s 6) a = true → order.find? (qB s r 0) = none ∧ order.find? (qB s r 1) = some a) := by
  unfold refP at h
  cases e : order.find? (qB s r 0) with
  | some b =>
    rw [e] at h
    obtain rfl : b = a := by simpa using h
    have hm := List.mem_of_find?_eq_some e
    have hq := List.find?_some e
    unfold qB at hq
    simp only [Bool.and_eq_true, beq_iff_eq] at hq
    have h6 : tb (s 6) b = false := by rw [hq.1.1]; decide
    exact ⟨hm, hq.1.2, hq.2, fun _ => rfl, fun h => by rw [h6] at h; cases h⟩
  | none =>
    rw [e] at h
    have h : order.find? (qB s r 1) = some a := h
    have hm := List.mem_of_find?_eq_some h
    have hq := List.find?_some h
    unfold qB at hq
    simp only [Bool.and_eq_true, beq_iff_eq] at hq
    have h6 : tb (s 6) a = true := by rw [hq.1.1]; decide
    exact ⟨hm, hq.1.2, hq.2, fun h => (by rw [h6] at h; cases h), fun _ => ⟨rfl, h⟩⟩
theorem refP_none {s : Nat → BitVec 64} {r : Int} (h : refP s r = none) : ∀ k, k ∈ order → (isB s k && mayB s r k) = false := by
  unfold refP at h
  cases e : order.find? (qB s r 0) with
  | some b => rw [e] at h; cases h
  | none =>
    rw [e] at h
    have h : order.find? (qB s r 1) = none := h
    intro k hk
    have h0 := List.find?_eq_none.1 e k hk
    have h1 := List.find?_eq_none.1 h k hk
    unfold qB at h0 h1
    cases h6 : tb (s 6) k
    · rw [h6] at h0
      cases hi : isB s k <;> cases hm : mayB s r k <;> simp [hi, hm] at h0 ⊢
    · rw [h6] at h1
      cases hi : isB s k <;> cases hm : mayB s r k <;> simp [hi, hm] at h1 ⊢
theorem find_before {p : Nat → Bool} {a b : Nat} (ha : order.find? p = some a) (hb : b ∈ order) (hp : p b = true) (hne : b ≠ a) : befI (a : Nat) (b : Nat) ordI = true := by
  have hm := List.mem_of_find?_eq_some ha
  have pa := List.find?_some ha
  have key : ∀ a ∈ order, ∀ b ∈ order, b ≠ a → befI (a : Nat) (b : Nat) ordI = true ∨ ∃ l1 l2, order = l1 ++ b :: l2 ∧ a ∉ l1 := by
    intro a ha b hb hne
    have h1 : a = 11 ∨ a = 3 ∨ a = 7 ∨ a = 9 ∨ a = 1 ∨ a = 5 := by simpa [order] using ha
    have h2 : b = 11 ∨ b = 3 ∨ b = 7 ∨ b = 9 ∨ b = 1 ∨ b = 5 := by simpa [order] using hb
    rcases h2 with rfl | rfl | rfl | rfl | rfl | rfl
    · right; exact ⟨[], [3, 7, 9, 1, 5], rfl, by simp⟩
    · by_cases h : a = 11
      · left; subst h; decide
      · right; exact ⟨[11], [7, 9, 1, 5], rfl, by simp [h]⟩
    · by_cases h : a = 11 ∨ a = 3
      · left; rcases h with rfl | rfl <;> decide
      · right; exact ⟨[11, 3], [9, 1, 5], rfl, by simp; omega⟩
    · by_cases h : a = 11 ∨ a = 3 ∨ a = 7
      · left; rcases h with rfl | rfl | rfl <;> decide
      · right; exact ⟨[11, 3, 7], [1, 5], rfl, by simp; omega⟩
    · by_cases h : a = 11 ∨ a = 3 ∨ a = 7 ∨ a = 9
      · left; rcases h with rfl | rfl | rfl | rfl <;> decide
      · right; exact ⟨[11, 3, 7, 9], [5], rfl, by simp; omega⟩
    · by_cases h : a = 11 ∨ a = 3 ∨ a = 7 ∨ a = 9 ∨ a = 1
      · left; rcases h with rfl | rfl | rfl | rfl | rfl <;> decide
      · right; exact ⟨[11, 3, 7, 9, 1], [], rfl, by simp; omega⟩
  rcases key a hm b hb hne with h | ⟨l1, l2, e, hn⟩
  · exact h
  · exfalso
    rw [e, List.find?_append] at ha
    cases h1 : l1.find? p with
    | some x =>
      rw [h1] at ha
      have : x = a := by simpa using ha
      subst this
      exact hn (List.mem_of_find?_eq_some h1)
    | none =>
      rw [h1] at ha
      simp [List.find?_cons, hp] at ha
      exact hne ha

/-- which may be taken behind the trap: none of its level -/
theorem may_behind {I : Nat → BitVec 64} {k : Nat} (h : tb (I 1) 1 = false) (hm : mayB I 1 k = true) : tb (I 6) k = false := by
  unfold mayB at hm
  cases h6 : tb (I 6) k
  · rfl
  · rw [h6, h] at hm; simp at hm
theorem may_none {I : Nat → BitVec 64} {k : Nat} (h : tb (I 1) 3 = false) : mayB I 3 k = false := by
  unfold mayB
  cases h6 : tb (I 6) k
  · rw [h]; simp
  · simp
theorem lw_cases (m : Int) : lwQ m = 0 ∨ lwQ m = 1 ∨ lwQ m = 3 := by unfold lwQ; split; · exact .inl rfl
                                                                     split; · exact .inr (.inl rfl)
                                                                     exact .inr (.inr rfl)
theorem rm_lw (m : Int) : rm (lwQ m) = lwQ m := by rcases lw_cases m with h | h | h <;> rw [h] <;> rfl
theorem stE_6 (s : Nat → BitVec 64) (r : Int) (pc c : BitVec 64) (it : Bool) (tv : BitVec 64) : stE s r pc c it tv 6 = s 6 := by
  unfold stE ent; cases it <;> split <;> simp [upd]
theorem stE_1d {s : Nat → BitVec 64} {r : Int} (pc c : BitVec 64) {it : Bool} (tv : BitVec 64) (h : downB s r (U c) it = true) : tb (stE s r pc c it tv 1) 1 = false := by
  unfold stE
  rw [if_pos h]
  have e : ∀ x : BitVec 64, (setB (x &&& ~~~2#64) 256#64 (decide (r = 1))).getLsbD 1 = false := by
    intro x; unfold setB
    split <;> simp [BitVec.getLsbD_or, BitVec.getLsbD_and, BitVec.getLsbD_not] <;> intros <;> decide
  unfold ent tb; cases it <;> simp only [upd] <;> exact e _
theorem stE_1u {s : Nat → BitVec 64} {r : Int} (pc c : BitVec 64) {it : Bool} (tv : BitVec 64) (h : downB s r (U c) it = false) : tb (stE s r pc c it tv 1) 3 = false := by
  unfold stE
  rw [if_neg (by rw [h]; decide)]
  have e0 : ∀ x : BitVec 64, (x &&& ~~~6152#64).getLsbD 3 = false := by intro x; simp [BitVec.getLsbD_and, BitVec.getLsbD_not]
  have e1 : ∀ x : BitVec 64, (x &&& ~~~6152#64 ||| 2048#64).getLsbD 3 = false := by intro x; rw [BitVec.getLsbD_or, e0]; decide
  have e2 : ∀ x : BitVec 64, (x &&& ~~~6152#64 ||| 6144#64).getLsbD 3 = false := by intro x; rw [BitVec.getLsbD_or, e0]; decide
  have ee : ∀ M : BitVec 64, ent s 8 9 10 M pc c it tv 1 = M := by intro M; unfold ent; cases it <;> simp [upd]
  rw [ee]
  unfold tb
  split
  · exact e0 _
  · split
    · exact e1 _
    · exact e2 _
end Go.Proofs.Ytfdkmkblhicbfaa
