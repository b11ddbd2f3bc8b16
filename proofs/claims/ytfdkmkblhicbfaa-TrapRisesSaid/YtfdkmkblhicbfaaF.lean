/- Contracts of package trap and of its reference: Enter, the cases joined; both ways back. -/
import Derived.Test.YtfdkmkblhicbfaaE
namespace Go.Proofs.Ytfdkmkblhicbfaa
set_option linter.all false
open Go.RowKit

/-- the state, the mode, the pc behind a trap, of a mode that there is -/
def stE (s : Nat → BitVec 64) (r : Int) (pc c : BitVec 64) (it : Bool) (tv : BitVec 64) : Nat → BitVec 64 :=
  if downB s r (U c) it = true then ent s 14 15 16 (setB (setB (s 1) 32#64 (tb (s 1) 1) &&& ~~~2#64) 256#64 (decide (r = 1))) pc c it tv
  else ent s 8 9 10 (if r = 0 then setB (s 1) 128#64 (tb (s 1) 3) &&& ~~~6152#64 else if r = 1 then setB (s 1) 128#64 (tb (s 1) 3) &&& ~~~6152#64 ||| 2048#64 else setB (s 1) 128#64 (tb (s 1) 3) &&& ~~~6152#64 ||| 6144#64) pc c it tv
def lvE (s : Nat → BitVec 64) (r : Int) (c : BitVec 64) (it : Bool) : Int := if downB s r (U c) it = true then 1 else 3
def wyE (s : Nat → BitVec 64) (r : Int) (c : BitVec 64) (it : Bool) : BitVec 64 := wayB (if downB s r (U c) it = true then s 13 else s 7) (U c) it

theorem down3 (s : Nat → BitVec 64) (ca : Int) (it : Bool) : downB s 3 ca it = false := rfl

theorem enter_any (s : Nat → BitVec 64) (m : Int) (pc c tv : BitVec 64) (it : Bool) (w : World) (h0 : 0 ≤ m) (hc : U c < 256) :
    Calls Try.prog 15 #[.agg (stC s), .int .u8 m, .int .u64 (U pc), .agg #[.int .u8 (U c), .bool it, .int .u64 (U tv)]] w fun e w' => e = .returned (.tuple #[.agg (stC (stE s (rm m) pc c it tv)), .int .u8 (lvE s (rm m) c it), .int .u64 (U (wyE s (rm m) c it))]) ∧ Fr [] w w' := by
  rcases rm_cases m h0 with hrm | hrm | hrm
  · rw [hrm]
    cases it
    · cases hd : downB s 0 (U c) false
      · simp only [stE, lvE, wyE, hd]; exact enter_0Mx s m pc c tv w h0 hrm hc hd
      · simp only [stE, lvE, wyE, hd]; exact enter_0Sx s m pc c tv w h0 hrm hc hd
    · cases hd : downB s 0 (U c) true
      · simp only [stE, lvE, wyE, hd]; exact enter_0Mi s m pc c tv w h0 hrm hc hd
      · simp only [stE, lvE, wyE, hd]; exact enter_0Si s m pc c tv w h0 hrm hc hd
  · rw [hrm]
    cases it
    · cases hd : downB s 1 (U c) false
      · simp only [stE, lvE, wyE, hd]; exact enter_1Mx s m pc c tv w h0 hrm hc hd
      · simp only [stE, lvE, wyE, hd]; exact enter_1Sx s m pc c tv w h0 hrm hc hd
    · cases hd : downB s 1 (U c) true
      · simp only [stE, lvE, wyE, hd]; exact enter_1Mi s m pc c tv w h0 hrm hc hd
      · simp only [stE, lvE, wyE, hd]; exact enter_1Si s m pc c tv w h0 hrm hc hd
  · rw [hrm]
    cases it
    · simp only [stE, lvE, wyE, down3]; exact enter_3Mx s m pc c tv w h0 hrm hc (down3 _ _ _)
    · simp only [stE, lvE, wyE, down3]; exact enter_3Mi s m pc c tv w h0 hrm hc (down3 _ _ _)
theorem refEnter_any (s : Nat → BitVec 64) (m : Int) (pc c tv : BitVec 64) (it : Bool) (w : World) (h0 : 0 ≤ m) (hc : U c < 256) :
    Calls Try.prog 16 #[.agg (stC s), .int .u8 m, .int .u64 (U pc), .int .u8 (U c), .bool it, .int .u64 (U tv)] w fun e w' => e = .returned (.tuple #[.agg (stC (stE s (rm m) pc c it tv)), .int .u8 (lvE s (rm m) c it), .int .u64 (U (wyE s (rm m) c it))]) ∧ Fr [] w w' := by
  rcases rm_cases m h0 with hrm | hrm | hrm
  · rw [hrm]
    cases it
    · cases hd : tb (s 5) (U c).toNat
      · have hdn : downB s 0 (U c) false = false := by simp [downB, hd]
        simp only [stE, lvE, wyE, hdn]
        show Calls _ _ _ _ fun e w' => e = .returned (.tuple #[.agg (stC (ent s 8 9 10 (setB (s 1) 128#64 (tb (s 1) 3) &&& ~~~6152#64) pc c false tv)), .int .u8 3, .int .u64 (U (wayB (s 7) (U c) false))]) ∧ Fr [] w w'
        exact (ref_0Mx s m pc c tv w h0 hrm hc hd)
      · have hdn : downB s 0 (U c) false = true := by simp [downB, hd]
        simp only [stE, lvE, wyE, hdn]
        show Calls _ _ _ _ fun e w' => e = .returned (.tuple #[.agg (stC (ent s 14 15 16 (setB (setB (s 1) 32#64 (tb (s 1) 1) &&& ~~~2#64) 256#64 false) pc c false tv)), .int .u8 1, .int .u64 (U (wayB (s 13) (U c) false))]) ∧ Fr [] w w'
        exact (ref_0Sx s m pc c tv w h0 hrm hc hd)
    · cases hd : tb (s 6) (U c).toNat
      · have hdn : downB s 0 (U c) true = false := by simp [downB, hd]
        simp only [stE, lvE, wyE, hdn]
        show Calls _ _ _ _ fun e w' => e = .returned (.tuple #[.agg (stC (ent s 8 9 10 (setB (s 1) 128#64 (tb (s 1) 3) &&& ~~~6152#64) pc c true tv)), .int .u8 3, .int .u64 (U (wayB (s 7) (U c) true))]) ∧ Fr [] w w'
        cases hv : tb (s 7) 0
        · have e : wayB (s 7) (U c) true = s 7 &&& ~~~3#64 := by simp [wayB, hv]
          rw [e]; exact ref_0Min s m pc c tv w h0 hrm hc hd hv
        · have e : wayB (s 7) (U c) true = (s 7 &&& ~~~3#64) + BitVec.ofInt 64 (4 * U c) := by simp [wayB, hv]
          rw [e]; exact ref_0Miv s m pc c tv w h0 hrm hc hd hv
      · have hdn : downB s 0 (U c) true = true := by simp [downB, hd]
        simp only [stE, lvE, wyE, hdn]
        show Calls _ _ _ _ fun e w' => e = .returned (.tuple #[.agg (stC (ent s 14 15 16 (setB (setB (s 1) 32#64 (tb (s 1) 1) &&& ~~~2#64) 256#64 false) pc c true tv)), .int .u8 1, .int .u64 (U (wayB (s 13) (U c) true))]) ∧ Fr [] w w'
        cases hv : tb (s 13) 0
        · have e : wayB (s 13) (U c) true = s 13 &&& ~~~3#64 := by simp [wayB, hv]
          rw [e]; exact ref_0Sin s m pc c tv w h0 hrm hc hd hv
        · have e : wayB (s 13) (U c) true = (s 13 &&& ~~~3#64) + BitVec.ofInt 64 (4 * U c) := by simp [wayB, hv]
          rw [e]; exact ref_0Siv s m pc c tv w h0 hrm hc hd hv
  · rw [hrm]
    cases it
    · cases hd : tb (s 5) (U c).toNat
      · have hdn : downB s 1 (U c) false = false := by simp [downB, hd]
        simp only [stE, lvE, wyE, hdn]
        show Calls _ _ _ _ fun e w' => e = .returned (.tuple #[.agg (stC (ent s 8 9 10 (setB (s 1) 128#64 (tb (s 1) 3) &&& ~~~6152#64 ||| 2048#64) pc c false tv)), .int .u8 3, .int .u64 (U (wayB (s 7) (U c) false))]) ∧ Fr [] w w'
        exact (ref_1Mx s m pc c tv w h0 hrm hc hd)
      · have hdn : downB s 1 (U c) false = true := by simp [downB, hd]
        simp only [stE, lvE, wyE, hdn]
        show Calls _ _ _ _ fun e w' => e = .returned (.tuple #[.agg (stC (ent s 14 15 16 (setB (setB (s 1) 32#64 (tb (s 1) 1) &&& ~~~2#64) 256#64 true) pc c false tv)), .int .u8 1, .int .u64 (U (wayB (s 13) (U c) false))]) ∧ Fr [] w w'
        exact (ref_1Sx s m pc c tv w h0 hrm hc hd)
    · cases hd : tb (s 6) (U c).toNat
      · have hdn : downB s 1 (U c) true = false := by simp [downB, hd]
        simp only [stE, lvE, wyE, hdn]
        show Calls _ _ _ _ fun e w' => e = .returned (.tuple #[.agg (stC (ent s 8 9 10 (setB (s 1) 128#64 (tb (s 1) 3) &&& ~~~6152#64 ||| 2048#64) pc c true tv)), .int .u8 3, .int .u64 (U (wayB (s 7) (U c) true))]) ∧ Fr [] w w'
        cases hv : tb (s 7) 0
        · have e : wayB (s 7) (U c) true = s 7 &&& ~~~3#64 := by simp [wayB, hv]
          rw [e]; exact ref_1Min s m pc c tv w h0 hrm hc hd hv
        · have e : wayB (s 7) (U c) true = (s 7 &&& ~~~3#64) + BitVec.ofInt 64 (4 * U c) := by simp [wayB, hv]
          rw [e]; exact ref_1Miv s m pc c tv w h0 hrm hc hd hv
      · have hdn : downB s 1 (U c) true = true := by simp [downB, hd]
        simp only [stE, lvE, wyE, hdn]
        show Calls _ _ _ _ fun e w' => e = .returned (.tuple #[.agg (stC (ent s 14 15 16 (setB (setB (s 1) 32#64 (tb (s 1) 1) &&& ~~~2#64) 256#64 true) pc c true tv)), .int .u8 1, .int .u64 (U (wayB (s 13) (U c) true))]) ∧ Fr [] w w'
        cases hv : tb (s 13) 0
        · have e : wayB (s 13) (U c) true = s 13 &&& ~~~3#64 := by simp [wayB, hv]
          rw [e]; exact ref_1Sin s m pc c tv w h0 hrm hc hd hv
        · have e : wayB (s 13) (U c) true = (s 13 &&& ~~~3#64) + BitVec.ofInt 64 (4 * U c) := by simp [wayB, hv]
          rw [e]; exact ref_1Siv s m pc c tv w h0 hrm hc hd hv
  · rw [hrm]
    cases it
    · simp only [stE, lvE, wyE, down3, Bool.false_eq_true, if_false]
      show Calls _ _ _ _ fun e w' => e = .returned (.tuple #[.agg (stC (ent s 8 9 10 (setB (s 1) 128#64 (tb (s 1) 3) &&& ~~~6152#64 ||| 6144#64) pc c false tv)), .int .u8 3, .int .u64 (U (wayB (s 7) (U c) false))]) ∧ Fr [] w w'
      exact (ref_3Mx s m pc c tv w h0 hrm hc)
    · simp only [stE, lvE, wyE, down3, Bool.false_eq_true, if_false]
      show Calls _ _ _ _ fun e w' => e = .returned (.tuple #[.agg (stC (ent s 8 9 10 (setB (s 1) 128#64 (tb (s 1) 3) &&& ~~~6152#64 ||| 6144#64) pc c true tv)), .int .u8 3, .int .u64 (U (wayB (s 7) (U c) true))]) ∧ Fr [] w w'
      cases hv : tb (s 7) 0
      · have e : wayB (s 7) (U c) true = s 7 &&& ~~~3#64 := by simp [wayB, hv]
        rw [e]; exact ref_3Min s m pc c tv w h0 hrm hc hv
      · have e : wayB (s 7) (U c) true = (s 7 &&& ~~~3#64) + BitVec.ofInt 64 (4 * U c) := by simp [wayB, hv]
        rw [e]; exact ref_3Miv s m pc c tv w h0 hrm hc hv
end Go.Proofs.Ytfdkmkblhicbfaa
