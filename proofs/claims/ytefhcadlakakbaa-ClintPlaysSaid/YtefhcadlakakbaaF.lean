/- Contracts of a guest's timer over its numbers. -/
import Derived.Test.YtefhcadlakakbaaE
namespace Go.Proofs.Ytefhcadlakakbaa
open Go.RowKit Go.Shelf
set_option linter.all false

/-- the block of a timer whose registers hold R -/
def clR (R : Nat → Int) : Obj := clO (R 0) (R 1) (R 2)
def rdR (R : Nat → Int) (off wd : Int) : Int := match acc off wd with | some k => bits .and .u64 (R k / 2 ^ (8 * (off - bs k)).toNat) (maskW wd) | none => 0
def wrR (R : Nat → Int) (off wd v : Int) : Nat → Int := match acc off wd with | some k => fun j => if j = k then wrV (R k) (8 * (off - bs k)) (maskW wd) (kp k) v else R j | none => R
def tkR (R : Nat → Int) : Nat → Int := fun j => if j = 2 then IntKind.u64.wrap (R 2 + 1) else R j

theorem sh_bd {off wd : Int} {k : Nat} (h : acc off wd = some k) : 0 ≤ 8 * (off - bs k) ∧ 8 * (off - bs k) < 64 := by
  obtain ⟨_, hh, _⟩ := acc_is (b := 0) h
  unfold hitB at hh
  simp only [Bool.and_eq_true, decide_eq_true_eq] at hh
  have : sz k ≤ 8 := by unfold sz; split <;> omega
  omega
theorem cl_cell (R : Nat → Int) {k : Nat} (h : k ≤ 2) : (#[.int .u64 (R 0), .int .u64 (R 1), .int .u64 (R 2)] : Array Value)[k]? = some (.int .u64 (R k)) := by
  have : k = 0 ∨ k = 1 ∨ k = 2 := by omega
  rcases this with rfl | rfl | rfl <;> rfl
theorem accC_some {b : Nat} {off wd : Int} {k : Nat} (h : acc off wd = some k) : accC b off wd = #[.int .u64 (bs k), .int .u64 (sz k), .int .u64 (kp k), .pointer (some ⟨b, k, none⟩), .int .i64 (8 * (off - bs k)), .int .u64 (maskW wd)] := by
  obtain ⟨hk, _, hc⟩ := acc_is (b := b) h
  rw [hc]
  unfold fC
  have : k = 0 ∨ k = 1 ∨ k = 2 := by omega
  rcases this with rfl | rfl | rfl <;> rfl

theorem read_any (b : Nat) (R : Nat → Int) (off wd : Int) (w : World) (o0 : 0 ≤ off) (o1 : off < 18446744073709551616) (hb : w.heap[b]? = some (clR R)) :
    Calls Try.prog 10 #[.pointer (some ⟨b, 0, none⟩), .int .u64 off, .int .i64 wd] w fun e w' => e = .returned (.tuple #[.int .u64 (rdR R off wd), .bool (acc off wd).isSome]) ∧ Fr [] w w' := by
  have ha := fun w => at_any b off wd w o0 o1
  cases h : acc off wd with
  | none =>
    rw [h, accC_none h] at ha
    have hr : rdR R off wd = 0 := by unfold rdR; rw [h]
    rw [hr]
    exact read_none _ off wd w (hid ha)
  | some k =>
    obtain ⟨hk, _, _⟩ := acc_is (b := b) h
    rw [h, accC_some h] at ha
    have hr : rdR R off wd = bits .and .u64 (R k / 2 ^ (8 * (off - bs k)).toNat) (maskW wd) := by unfold rdR; rw [h]
    rw [hr]
    exact read_some b k _ ⟨b, k, none⟩ off wd _ _ _ _ _ (R k) w (hid ha) (sh_bd h).1 (sh_bd h).2 hb (cl_cell R hk)

theorem write_any (b : Nat) (R : Nat → Int) (off wd v : Int) (w : World) (o0 : 0 ≤ off) (o1 : off < 18446744073709551616) (hb : w.heap[b]? = some (clR R)) :
    Calls Try.prog 12 #[.pointer (some ⟨b, 0, none⟩), .int .u64 off, .int .i64 wd, .int .u64 v] w fun e w' => e = .returned (.bool (acc off wd).isSome) ∧ w'.heap[b]? = some (clR (wrR R off wd v)) ∧ Fr [b] w w' := by
  have ha := fun w => at_any b off wd w o0 o1
  cases h : acc off wd with
  | none =>
    rw [h, accC_none h] at ha
    have hr : wrR R off wd v = R := by unfold wrR; rw [h]
    rw [hr]
    refine (write_none _ off wd v w (hid ha)).mono ?_
    rintro e w' ⟨rfl, hf⟩
    exact ⟨rfl, hf.keeps hb (by simp), hf.weaken (by simp)⟩
  | some k =>
    obtain ⟨hk, _, _⟩ := acc_is (b := b) h
    rw [h, accC_some h] at ha
    have hr : wrR R off wd v = fun j => if j = k then wrV (R k) (8 * (off - bs k)) (maskW wd) (kp k) v else R j := by unfold wrR; rw [h]
    rw [hr]
    refine (write_some b k _ off wd _ _ _ _ _ (R k) v w (hid ha) (sh_bd h).1 (sh_bd h).2 hb (cl_cell R hk)).mono ?_
    rintro e w' ⟨rfl, hn, hf⟩
    refine ⟨rfl, ?_, hf⟩
    rw [hn]
    have : k = 0 ∨ k = 1 ∨ k = 2 := by omega
    rcases this with rfl | rfl | rfl <;> rfl
theorem tick_any (b : Nat) (R : Nat → Int) (w : World) (hb : w.heap[b]? = some (clR R)) :
    Calls Try.prog 14 #[.pointer (some ⟨b, 0, none⟩)] w fun e w' => e = .returned (.tuple #[]) ∧ w'.heap[b]? = some (clR (tkR R)) ∧ Fr [b] w w' := tick_some b _ _ _ w hb
theorem bits_any (b : Nat) (R : Nat → Int) (w : World) (hb : w.heap[b]? = some (clR R)) (hm : R 0 = 0 ∨ R 0 = 1) :
    Calls Try.prog 16 #[.pointer (some ⟨b, 0, none⟩)] w fun e w' => e = .returned (.int .u64 (btV (R 0) (R 1) (R 2))) ∧ Fr [] w w' := bits_some b _ _ _ w hb hm

set_option maxRecDepth 100000 in
set_option maxHeartbeats 1000000 in
theorem reads_true (b : Nat) (R : Nat → Int) (off wd want : Int) (w : World) (o0 : 0 ≤ off) (o1 : off < 18446744073709551616) (hb : w.heap[b]? = some (clR R)) (ha : (acc off wd).isSome = true) (hv : rdR R off wd = want) :
    Calls Try.prog 18 #[.pointer (some ⟨b, 0, none⟩), .int .u64 off, .int .i64 wd, .int .u64 want] w fun e w' => e = .returned (.bool true) ∧ Fr [] w w' := by
  have hr := read_any b R off wd w o0 o1 hb
  rw [ha, hv] at hr
  have HR := hid hr
  clear hr ha hv hb
  go_enter Try.func18, Try.ntmps18
  go_wp2_with (go_at_call 10; ((with_reducible refine (HR.out).mono ?_)); rintro e w1 ⟨rfl, hd⟩)
  go_ret
  exact ⟨rfl, hd⟩
set_option maxRecDepth 100000 in
set_option maxHeartbeats 1000000 in
theorem none_of (p : Option Addr) (off wd : Int) (w : World)
    (hr : Hid (∀ w, Calls Try.prog 10 #[.pointer p, .int .u64 off, .int .i64 wd] w fun e w' => e = .returned (.tuple #[.int .u64 0, .bool false]) ∧ Fr [] w w'))
    (hw : Hid (∀ w, Calls Try.prog 12 #[.pointer p, .int .u64 off, .int .i64 wd, .int .u64 1] w fun e w' => e = .returned (.bool false) ∧ Fr [] w w')) :
    Calls Try.prog 19 #[.pointer p, .int .u64 off, .int .i64 wd] w fun e w' => e = .returned (.bool true) ∧ Fr [] w w' := by
  have hF := Fr.refl [] w
  go_enter Try.func19, Try.ntmps19
  go_wp2_with ((first | (go_at_call 10; ((with_reducible refine (hr.out _).mono ?_))) | (go_at_call 12; ((with_reducible refine (hw.out _).mono ?_)))); rintro e w1 ⟨rfl, hd⟩; replace hF := hF.trans hd; clear hd)
  go_ret
  exact ⟨rfl, hF⟩
theorem none_true (b : Nat) (off wd : Int) (w : World) (o0 : 0 ≤ off) (o1 : off < 18446744073709551616) (ha : acc off wd = none) :
    Calls Try.prog 19 #[.pointer (some ⟨b, 0, none⟩), .int .u64 off, .int .i64 wd] w fun e w' => e = .returned (.bool true) ∧ Fr [] w w' := by
  have h := fun w => at_any b off wd w o0 o1
  rw [ha, accC_none ha] at h
  exact none_of _ off wd w (hid fun w => read_none _ off wd w (hid h)) (hid fun w => write_none _ off wd 1 w (hid h))
end Go.Proofs.Ytefhcadlakakbaa
