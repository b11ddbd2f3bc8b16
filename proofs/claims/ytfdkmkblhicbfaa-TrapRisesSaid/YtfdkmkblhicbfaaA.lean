/- Contracts of the small functions of package trap and of its reference. -/
import Derived.Test.YtfdkmkblhicbfaaBv
namespace Go.Proofs.Ytfdkmkblhicbfaa
set_option linter.all false
open Go.RowKit

/-- the cells of a state -/
def stC (s : Nat → BitVec 64) : Array Value := #[.int .u64 (U (s 0)), .int .u64 (U (s 1)), .int .u64 (U (s 2)), .int .u64 (U (s 3)), .int .u64 (U (s 4)), .int .u64 (U (s 5)), .int .u64 (U (s 6)), .int .u64 (U (s 7)), .int .u64 (U (s 8)), .int .u64 (U (s 9)), .int .u64 (U (s 10)), .int .u64 (U (s 11)), .int .u64 (U (s 12)), .int .u64 (U (s 13)), .int .u64 (U (s 14)), .int .u64 (U (s 15)), .int .u64 (U (s 16)), .int .u64 (U (s 17)), .int .u64 (U (s 18)), .int .u64 (U (s 19)), .int .u64 (U (s 20)), .int .u64 (U (s 21)), .int .u64 (U (s 22)), .int .u64 (U (s 23)), .int .u64 (U (s 24)), .int .u64 (U (s 25)), .int .u64 (U (s 26)), .int .u64 (U (s 27)), .int .u64 (U (s 28)), .int .u64 (U (s 29)), .int .u64 (U (s 30))]
theorem stC_eq (s : Nat → BitVec 64) : stC s = #[.int .u64 (U (s 0)), .int .u64 (U (s 1)), .int .u64 (U (s 2)), .int .u64 (U (s 3)), .int .u64 (U (s 4)), .int .u64 (U (s 5)), .int .u64 (U (s 6)), .int .u64 (U (s 7)), .int .u64 (U (s 8)), .int .u64 (U (s 9)), .int .u64 (U (s 10)), .int .u64 (U (s 11)), .int .u64 (U (s 12)), .int .u64 (U (s 13)), .int .u64 (U (s 14)), .int .u64 (U (s 15)), .int .u64 (U (s 16)), .int .u64 (U (s 17)), .int .u64 (U (s 18)), .int .u64 (U (s 19)), .int .u64 (U (s 20)), .int .u64 (U (s 21)), .int .u64 (U (s 22)), .int .u64 (U (s 23)), .int .u64 (U (s 24)), .int .u64 (U (s 25)), .int .u64 (U (s 26)), .int .u64 (U (s 27)), .int .u64 (U (s 28)), .int .u64 (U (s 29)), .int .u64 (U (s 30))] := rfl
theorem stC_size (s : Nat → BitVec 64) : (stC s).size = 31 := rfl
@[go_sem] theorem stC_get (s : Nat → BitVec 64) (i : Nat) : (stC s)[i]? = if i < 31 then some (.int .u64 (U (s i))) else none := by
  by_cases h : i < 31
  · rw [if_pos h]
    rcases (by omega : i = 0 ∨ i = 1 ∨ i = 2 ∨ i = 3 ∨ i = 4 ∨ i = 5 ∨ i = 6 ∨ i = 7 ∨ i = 8 ∨ i = 9 ∨ i = 10 ∨ i = 11 ∨ i = 12 ∨ i = 13 ∨ i = 14 ∨ i = 15 ∨ i = 16 ∨ i = 17 ∨ i = 18 ∨ i = 19 ∨ i = 20 ∨ i = 21 ∨ i = 22 ∨ i = 23 ∨ i = 24 ∨ i = 25 ∨ i = 26 ∨ i = 27 ∨ i = 28 ∨ i = 29 ∨ i = 30) with rfl | rfl | rfl | rfl | rfl | rfl | rfl | rfl | rfl | rfl | rfl | rfl | rfl | rfl | rfl | rfl | rfl | rfl | rfl | rfl | rfl | rfl | rfl | rfl | rfl | rfl | rfl | rfl | rfl | rfl | rfl <;> rfl
  · rw [if_neg h]
    exact Array.getElem?_eq_none (by rw [stC_size]; omega)
/-- a state of which one number is another -/
def upd (s : Nat → BitVec 64) (i : Nat) (x : BitVec 64) : Nat → BitVec 64 := fun j => if j = i then x else s j
@[go_sem] theorem stC_set (s : Nat → BitVec 64) (i : Nat) (x : BitVec 64) : (stC s).setIfInBounds i (.int .u64 (U x)) = stC (upd s i x) := by
  apply Array.ext_getElem?
  intro j
  rw [Array.getElem?_setIfInBounds, stC_size, stC_get, stC_get]
  unfold upd
  by_cases h : i = j
  · subst h; simp
  · have h' : ¬ j = i := fun e => h e.symm
    simp [h, h']
@[go_sem] theorem upd_same (s : Nat → BitVec 64) (i : Nat) (x : BitVec 64) : upd s i x i = x := by simp [upd]
@[go_sem] theorem upd_other (s : Nat → BitVec 64) (i : Nat) (x : BitVec 64) (j : Nat) (h : ¬ j = i) : upd s i x j = s j := by simp [upd, h]

theorem ret_u64 {a b : BitVec 64} (h : a = b) : Ending.returned (.int .u64 (U a)) = .returned (.int .u64 (U b)) := by rw [h]
theorem ret_b {a b : Bool} (h : a = b) : Ending.returned (.bool a) = .returned (.bool b) := by rw [h]

/-- a mode that there is -/
def rm (m : Int) : Int := if m ≤ 1 then m else 3

set_option maxHeartbeats 400000 in
theorem real_any (m : Int) (w : World) (h0 : 0 ≤ m) : Calls Try.prog 25 #[.int .u8 m] w fun e w' => e = .returned (.int .u8 (rm m)) ∧ w = w' := by
  by_cases h : m ≤ 1
  · have e : rm m = m := by simp [rm, h]
    rw [e]
    rcases (by omega : m = 0 ∨ m = 1) with rfl | rfl
    all_goals
      go_enter Try.func25, Try.ntmps25
      go_wp2
      go_ret
      exact ⟨rfl, rfl⟩
  · have e : rm m = 3 := by simp [rm, h]
    rw [e]
    have n0 : (m == 0) = false := by simp; omega
    have n1 : (m == 1) = false := by simp; omega
    go_enter Try.func25, Try.ntmps25
    go_wp2
    go_ret
    exact ⟨rfl, rfl⟩

set_option maxHeartbeats 400000 in
theorem mode_any (m : Int) (w : World) (h0 : 0 ≤ m) : Calls Try.prog 35 #[.int .u8 m] w fun e w' => e = .returned (.int .u8 (rm m)) ∧ w = w' := by
  by_cases h : m ≤ 1
  · have e : rm m = m := by simp [rm, h]
    have h' : ¬ 1 < m := by omega
    rw [e]
    clear e
    go_enter Try.func35, Try.ntmps35
    go_wp2
    go_ret
    exact ⟨rfl, rfl⟩
  · have e : rm m = 3 := by simp [rm, h]
    have h' : 1 < m := by omega
    rw [e]
    clear e
    go_enter Try.func35, Try.ntmps35
    go_wp2
    go_ret
    exact ⟨rfl, rfl⟩

set_option maxHeartbeats 400000 in
theorem has_any (b : BitVec 64) (a : Int) (w : World) (h0 : 0 ≤ a) : Calls Try.prog 37 #[.int .u64 (U b), .int .u8 a] w fun e w' => e = .returned (.bool (tb b a.toNat)) ∧ w = w' := by
  have hs := fun n => bv_shr_min b n
  go_enter Try.func37, Try.ntmps37
  go_wp2
  go_ret
  exact ⟨ret_b (bv_bit_ne b _), rfl⟩

set_option maxHeartbeats 400000 in
theorem bit_any (b : BitVec 64) (a : Int) (w : World) (h0 : 0 ≤ a) : Calls Try.prog 29 #[.int .u64 (U b), .int .i64 a] w fun e w' => e = .returned (.bool (tb b a.toNat)) ∧ w = w' := by
  have hs := fun n => bv_shr b n
  by_cases h : a < 64
  · go_enter Try.func29, Try.ntmps29
    go_wp2
    go_ret
    exact ⟨ret_b (bv_bit_eq b _), rfl⟩
  · go_enter Try.func29, Try.ntmps29
    go_wp2
    go_ret
    exact ⟨ret_b (BitVec.getLsbD_of_ge b a.toNat (by omega)).symm, rfl⟩

def setB (n b : BitVec 64) (c : Bool) : BitVec 64 := if c = true then n ||| b else n &&& ~~~b

set_option maxHeartbeats 400000 in
theorem set_any (n b : BitVec 64) (c : Bool) (w : World) : Calls Try.prog 33 #[.int .u64 (U n), .int .u64 (U b), .bool c] w fun e w' => e = .returned (.int .u64 (U (setB n b c))) ∧ w = w' := by
  cases c
  all_goals
    go_enter Try.func33, Try.ntmps33
    go_wp2
    go_ret
    exact ⟨rfl, rfl⟩

def withB (n : BitVec 64) (k : Nat) (c : Bool) : BitVec 64 := if tb n k = c then n else n ^^^ (1#64 <<< k)

set_option maxHeartbeats 400000 in
theorem with_any (n : BitVec 64) (a : Int) (c : Bool) (w : World) (h0 : 0 ≤ a) (h1 : a < 64) : Calls Try.prog 36 #[.int .u64 (U n), .int .i64 a, .bool c] w fun e w' => e = .returned (.int .u64 (U (withB n a.toNat c))) ∧ w = w' := by
  have hs : IntKind.u64.wrap ((2 : Int) ^ a.toNat) = U (1#64 <<< a.toNat) := by
    have := bv_wshl 1#64 a.toNat
    rw [show U 1#64 = 1 from rfl, Int.one_mul] at this
    exact this
  by_cases h : tb n a.toNat = c
  · have e : withB n a.toNat c = n := by simp [withB, h]
    rw [e]
    have h' : (tb n a.toNat == c) = true := by simpa using h
    have H := hid h
    clear e h
    go_enter Try.func36, Try.ntmps36
    go_wp2_with (go_at_call 29; refine (bit_any n a _ h0).mono ?_; rintro e w' ⟨rfl, rfl⟩)
    go_ret
    exact ⟨rfl, rfl⟩
  · have e : withB n a.toNat c = n ^^^ (1#64 <<< a.toNat) := by simp [withB, h]
    rw [e]
    have h' : (tb n a.toNat == c) = false := by simpa using h
    clear e h
    go_enter Try.func36, Try.ntmps36
    go_wp2_with (go_at_call 29; refine (bit_any n a _ h0).mono ?_; rintro e w' ⟨rfl, rfl⟩)
    go_ret
    exact ⟨rfl, rfl⟩

/-- what of a state is pending -/
def pend (s : Nat → BitVec 64) : BitVec 64 := (s 3 ||| s 4) &&& s 2 &&& 2730#64

set_option maxHeartbeats 400000 in
theorem pending_any (s : Nat → BitVec 64) (w : World) : Calls Try.prog 26 #[.agg (stC s)] w fun e w' => e = .returned (.int .u64 (U (pend s))) ∧ Fr [] w w' := by
  go_enter Try.func26, Try.ntmps26
  go_wp2
  go_ret
  exact ⟨rfl, (Fr.refl _ _).alloc _⟩

set_option maxHeartbeats 400000 in
theorem awakep_any (s : Nat → BitVec 64) (w : World) : Calls Try.prog 12 #[.agg (stC s)] w fun e w' => e = .returned (.bool ((U (pend s)) != 0)) ∧ Fr [] w w' := by
  go_enter Try.func12, Try.ntmps12
  go_wp2_with (first | (go_at_call 26; refine (pending_any s _).mono ?_; rintro e w' ⟨rfl, hfr⟩) | (refine wpList_load_row rfl 25 _ rfl w.heap.size rfl 25 (stC s) (0, 0) _ (blk_new _ _) Try.underlying25 rfl (by kernel_rfl) ?_))
  go_ret
  exact ⟨rfl, ((Fr.refl _ _).alloc _).trans hfr⟩

/-- the way in -/
def wayB (vec : BitVec 64) (ca : Int) (it : Bool) : BitVec 64 := if it = true ∧ tb vec 0 = true then (vec &&& ~~~3#64) + BitVec.ofInt 64 (4 * ca) else vec &&& ~~~3#64

theorem bit0_ne (x : BitVec 64) : (U (x &&& 1#64) != 0) = tb x 0 := bv_bit_ne x 0

theorem add_mul4 (x : BitVec 64) (ca : Int) (h0 : 0 ≤ ca) (h1 : ca < 256) : IntKind.u64.wrap (U x + 4 * ca) = U (x + BitVec.ofInt 64 (4 * ca)) := by
  rw [IntKind.wrap_u64]
  unfold U
  rw [BitVec.toNat_add, BitVec.toNat_ofInt]
  have := x.isLt
  omega

set_option maxHeartbeats 800000 in
theorem way_any (vec : BitVec 64) (ca : Int) (it : Bool) (tv : BitVec 64) (w : World) (h0 : 0 ≤ ca) (h1 : ca < 256) : Calls Try.prog 34 #[.int .u64 (U vec), .agg #[.int .u8 ca, .bool it, .int .u64 (U tv)]] w fun e w' => e = .returned (.int .u64 (U (wayB vec ca it))) ∧ Fr [] w w' := by
  have hb := bit0_ne vec
  have hw : 4 * ca % 18446744073709551616 = 4 * ca := Int.emod_eq_of_lt (by omega) (by omega)
  cases it
  · have e : wayB vec ca false = vec &&& ~~~3#64 := by simp [wayB]
    rw [e]
    clear e
    go_enter Try.func34, Try.ntmps34
    go_wp2
    go_ret
    exact ⟨rfl, (Fr.refl _ _).alloc _⟩
  · cases hv : tb vec 0
    · have e : wayB vec ca true = vec &&& ~~~3#64 := by simp [wayB, hv]
      rw [e]
      clear e
      rw [hv] at hb
      clear hv
      go_enter Try.func34, Try.ntmps34
      go_wp2
      go_ret
      exact ⟨rfl, (Fr.refl _ _).alloc _⟩
    · have e : wayB vec ca true = (vec &&& ~~~3#64) + BitVec.ofInt 64 (4 * ca) := by simp [wayB, hv]
      rw [e]
      clear e
      rw [hv] at hb
      clear hv
      have ha := hid (add_mul4 (vec &&& ~~~3#64) ca h0 h1)
      go_enter Try.func34, Try.ntmps34
      go_wp2
      go_ret
      exact ⟨congrArg (fun x => Ending.returned (.int .u64 x)) ha.out, (Fr.refl _ _).alloc _⟩

/-- does a trap go to S? (mode: one that there is) -/
def downB (s : Nat → BitVec 64) (m ca : Int) (it : Bool) : Bool := decide (m < 3) && tb (if it = true then s 6 else s 5) ca.toNat

set_option maxHeartbeats 1000000 in
theorem down_any (s : Nat → BitVec 64) (m ca : Int) (it : Bool) (tv : BitVec 64) (w : World) (h0 : 0 ≤ ca) : Calls Try.prog 32 #[.agg (stC s), .int .u8 m, .agg #[.int .u8 ca, .bool it, .int .u64 (U tv)]] w fun e w' => e = .returned (.bool (downB s m ca it)) ∧ (w.alloc (.cells (stC s) 25)).alloc (.cells #[.int .u8 ca, .bool it, .int .u64 (U tv)] 34) = w' := by
  by_cases hm : m < 3
  · cases it
    all_goals
      go_enter Try.func32, Try.ntmps32
      go_wp2_with (go_at_call 37; refine (has_any _ ca _ h0).mono ?_; rintro e w' ⟨rfl, rfl⟩)
      go_ret
      exact ⟨ret_b (by simp [downB, hm]), rfl⟩
  · have hm' : decide (m < 3) = false := by simpa using hm
    cases it
    all_goals
      go_enter Try.func32, Try.ntmps32
      go_wp2
      go_ret
      exact ⟨ret_b (by simp [downB, hm']), rfl⟩
end Go.Proofs.Ytfdkmkblhicbfaa
