/- Contracts of the reference's timer. -/
import Derived.Test.YtefhcadlakakbaaL
namespace Go.Proofs.Ytefhcadlakakbaa
open Go.RowKit Go.Shelf
set_option linter.all false

def pb (k : Nat) : Nat := if k = 0 then 0 else if k = 1 then 4 else 12
theorem acc_hit {off wd : Int} {k : Nat} (h : acc off wd = some k) : k ≤ 2 ∧ (wd = 1 ∨ wd = 2 ∨ wd = 4 ∨ wd = 8) ∧ off % wd = 0 ∧ bs k ≤ off ∧ off - bs k + wd ≤ sz k ∧ off ≤ 49151 ∧ pl off = pb k + (off - bs k) ∧ (∀ j : Int, 0 ≤ j → j < wd → pl (off + j) = pl off + j) ∧ (off < 4 → off + wd ≤ 4) := by
  obtain ⟨hk, hh, _⟩ := acc_is (b := 0) h
  obtain ⟨hw, hm⟩ := acc_width h
  unfold hitB at hh
  simp only [Bool.and_eq_true, decide_eq_true_eq] at hh
  obtain ⟨⟨h1, h2⟩, h3⟩ := hh
  have : k = 0 ∨ k = 1 ∨ k = 2 := by omega
  refine ⟨hk, hw, hm, h1, h3, ?_⟩
  rcases this with rfl | rfl | rfl
  · rw [show bs 0 = 0 from rfl] at *; rw [show sz 0 = 4 from rfl] at *
    have e : pl off = off := by unfold pl; rw [if_pos (by omega)]
    refine ⟨by omega, by rw [e]; show off = 0 + (off - 0); omega, fun j j0 j1 => ?_, by omega⟩
    rw [e]; unfold pl; rw [if_pos (by omega)]
  · rw [show bs 1 = 16384 from rfl] at *; rw [show sz 1 = 8 from rfl] at *
    have e : pl off = off - 16380 := by unfold pl; rw [if_neg (by omega), if_pos (by omega)]
    refine ⟨by omega, by rw [e]; show off - 16380 = 4 + (off - 16384); omega, fun j j0 j1 => ?_, by omega⟩
    rw [e]; unfold pl; rw [if_neg (by omega), if_pos (by omega)]; omega
  · rw [show bs 2 = 49144 from rfl] at *; rw [show sz 2 = 8 from rfl] at *
    have e : pl off = off - 49132 := by unfold pl; rw [if_neg (by omega), if_neg (by omega), if_pos (by omega)]
    refine ⟨by omega, by rw [e]; show off - 49132 = 12 + (off - 49144); omega, fun j j0 j1 => ?_, by omega⟩
    rw [e]; unfold pl; rw [if_neg (by omega), if_neg (by omega), if_pos (by omega)]; omega
theorem fh_none {off wd : Int} (h : fh off wd = none) (k : Nat) (hk : k ≤ 2) : hitB off wd k = false := by
  unfold fh at h
  rw [List.find?_eq_none] at h
  have := h k (by simp; omega)
  simpa using this
theorem acc_miss {off wd : Int} (h : acc off wd = none) (o0 : 0 ≤ off) (hw : wd = 1 ∨ wd = 2 ∨ wd = 4 ∨ wd = 8) (hm : off % wd = 0) : pl off = -1 ∨ (off = 0 ∧ wd = 8) := by
  have ho : okA off wd = true := by unfold okA; rcases hw with rfl | rfl | rfl | rfl <;> simp [hm]
  unfold acc at h
  rw [if_pos ho] at h
  have h0 := fh_none h 0 (by decide)
  have h1 := fh_none h 1 (by decide)
  have h2 := fh_none h 2 (by decide)
  unfold hitB at h0 h1 h2
  rw [show bs 0 = 0 from rfl, show sz 0 = 4 from rfl] at h0
  rw [show bs 1 = 16384 from rfl, show sz 1 = 8 from rfl] at h1
  rw [show bs 2 = 49144 from rfl, show sz 2 = 8 from rfl] at h2
  simp only [Bool.and_eq_false_iff, decide_eq_false_iff_not] at h0 h1 h2
  unfold pl
  by_cases c1 : off < 4
  · right; rcases hw with rfl | rfl | rfl | rfl <;> omega
  · left
    rw [if_neg c1]
    by_cases c2 : 16384 ≤ off ∧ off < 16392
    · exfalso; rcases hw with rfl | rfl | rfl | rfl <;> omega
    · rw [if_neg c2]
      by_cases c3 : 49144 ≤ off ∧ off < 49152
      · exfalso; rcases hw with rfl | rfl | rfl | rfl <;> omega
      · rw [if_neg c3]

theorem may_any (off wd : Int) (w : World) (o0 : 0 ≤ off) (o1 : off < 18446744073709551616) :
    Calls Try.prog 21 #[.int .u64 off, .int .i64 wd] w fun e w' => e = .returned (.bool (acc off wd).isSome) ∧ w = w' := by
  cases h : acc off wd with
  | some k =>
    obtain ⟨hk, hw, hm, h1, h2, h3, h4, h5, h6⟩ := acc_hit h
    have hp := hid fun w => place_any off w o0 o1
    have hP : 0 ≤ pl off ∧ pl off < 20 := by
      rw [h4]
      have : k = 0 ∨ k = 1 ∨ k = 2 := by omega
      rcases this with rfl | rfl | rfl
      · rw [show sz 0 = 4 from rfl] at h2; rw [show pb 0 = 0 from rfl]; omega
      · rw [show sz 1 = 8 from rfl] at h2; rw [show pb 1 = 4 from rfl]; omega
      · rw [show sz 2 = 8 from rfl] at h2; rw [show pb 2 = 12 from rfl]; omega
    have P0 : decide (pl off < 0) = false := decide_eq_false (by omega)
    have hpj : ∀ j : Nat, (j : Int) < wd → ∀ w, Calls Try.prog 23 #[.int .u64 (off + (j : Int))] w fun e w' => e = .returned (.int .i64 (pl off + (j : Int))) ∧ w = w' := by
      intro j hj w
      rw [← h5 j (by omega) hj]
      exact place_any (off + j) w (by omega) (by omega)
    show Calls Try.prog 21 #[.int .u64 off, .int .i64 wd] w fun e w' => e = .returned (.bool true) ∧ w = w'
    rcases hw with rfl | rfl | rfl | rfl
    · exact may_yes_1 off _ w o0 h3 hp (hid fun j hj => hpj j (by omega)) P0 hP.2 h6
    · exact may_yes_2 off _ w o0 h3 hp (hid fun j hj => hpj j (by omega)) P0 hP.2 h6 (by simp [hm])
    · exact may_yes_4 off _ w o0 h3 hp (hid fun j hj => hpj j (by omega)) P0 hP.2 h6 (by simp [hm])
    · exact may_yes_8 off _ w o0 h3 hp (hid fun j hj => hpj j (by omega)) P0 hP.2 h6 (by simp [hm])
  | none =>
    show Calls Try.prog 21 #[.int .u64 off, .int .i64 wd] w fun e w' => e = .returned (.bool false) ∧ w = w'
    by_cases hw : wd = 1 ∨ wd = 2 ∨ wd = 4 ∨ wd = 8
    · by_cases hm : off % wd = 0
      · rcases acc_miss h o0 hw hm with hp | ⟨rfl, rfl⟩
        · have hpl : ∀ w, Calls Try.prog 23 #[.int .u64 off] w fun e w' => e = .returned (.int .i64 (-1)) ∧ w = w' := fun w => by rw [← hp]; exact place_any off w o0 o1
          rcases hw with rfl | rfl | rfl | rfl
          · exact may_no_1 off w o0 (hid hpl)
          · exact may_no_2 off w o0 (hid hpl) (by simp [hm])
          · exact may_no_4 off w o0 (hid hpl) (by simp [hm])
          · exact may_no_8 off w o0 (hid hpl) (by simp [hm])
        · refine may_eight w (hid fun w => place_any 0 w (by decide) (by decide)) (hid fun j hj w => ?_) (hid fun w => place_any 4 w (by decide) (by decide))
          have e : pl (j : Int) = j := by unfold pl; rw [if_pos (by omega)]
          have := place_any (j : Int) w (by omega) (by omega)
          rw [e] at this
          exact this
      · exact may_odd off wd w o0 hw hm
    · exact may_wide off wd w (by simp; omega) (by simp; omega) (by simp; omega) (by simp; omega)

/-- what a read of the bytes answers, what a write leaves, what a tick leaves -/
def rfR (q : Nat → Int) (off wd : Int) : Int := match acc off wd with | some k => numb q (pb k + (off - bs k).toNat) wd.toNat | none => 0
def rfW1 (q : Nat → Int) (p n : Nat) (v : Int) : Nat → Int := putJ (putJ q p n v) 0 4 (numb (putJ q p n v) 0 4 % 2)
def rfW (q : Nat → Int) (off wd v : Int) : Nat → Int := match acc off wd with | some k => rfW1 q (pb k + (off - bs k).toNat) wd.toNat v | none => q
def rfT (q : Nat → Int) : Nat → Int := putJ q 12 8 (IntKind.u64.wrap (numb q 12 8 + 1))
def rfB (q : Nat → Int) : Int := if q 0 = 1 then (if numb q 4 8 ≤ numb q 12 8 then 136 else 8) else (if numb q 4 8 ≤ numb q 12 8 then 128 else 0)

theorem putJ_isB {q : Nat → Int} (h : IsB q) (p n : Nat) (v : Int) : IsB (putJ q p n v) := fun i => by
  unfold putJ
  split
  · omega
  · exact h i

set_option maxRecDepth 100000 in
set_option maxHeartbeats 2000000 in
theorem rread_no (b : Nat) (off wd : Int) (w : World) (hm : Hid (∀ w, Calls Try.prog 21 #[.int .u64 off, .int .i64 wd] w fun e w' => e = .returned (.bool false) ∧ w = w')) :
    Calls Try.prog 11 #[.pointer (some ⟨b, 0, none⟩), .int .u64 off, .int .i64 wd] w fun e w' => e = .returned (.tuple #[.int .u64 0, .bool false]) ∧ w = w' := by
  go_enter Try.func11, Try.ntmps11
  go_wp2_with (go_at_call 21; ((with_reducible refine (hm.out _).mono ?_)); rintro e w' ⟨rfl, rfl⟩)
  go_ret2
  exact ⟨rfl, rfl⟩
set_option maxRecDepth 100000 in
set_option maxHeartbeats 2000000 in
theorem rread_yes (b : Nat) (off wd P x : Int) (w : World) (hm : Hid (∀ w, Calls Try.prog 21 #[.int .u64 off, .int .i64 wd] w fun e w' => e = .returned (.bool true) ∧ w = w'))
    (hp : Hid (∀ w, Calls Try.prog 23 #[.int .u64 off] w fun e w' => e = .returned (.int .i64 P) ∧ w = w'))
    (hn : Hid (Calls Try.prog 22 #[.pointer (some ⟨b, 0, none⟩), .int .i64 P, .int .i64 wd] w fun e w' => e = .returned (.int .u64 x) ∧ w = w')) :
    Calls Try.prog 11 #[.pointer (some ⟨b, 0, none⟩), .int .u64 off, .int .i64 wd] w fun e w' => e = .returned (.tuple #[.int .u64 x, .bool true]) ∧ w = w' := by
  go_enter Try.func11, Try.ntmps11
  go_wp2_with (first | (go_at_call 21; ((with_reducible refine (hm.out _).mono ?_)); rintro e w' ⟨rfl, rfl⟩) | (go_at_call 23; ((with_reducible refine (hp.out _).mono ?_)); rintro e w' ⟨rfl, rfl⟩) | (go_at_call 22; ((with_reducible refine (hn.out).mono ?_)); rintro e w' ⟨rfl, rfl⟩))
  go_ret2
  exact ⟨rfl, rfl⟩
theorem at_place {off wd : Int} {k : Nat} (h : acc off wd = some k) : ∃ p n : Nat, pl off = p ∧ wd = n ∧ p = pb k + (off - bs k).toNat ∧ n = wd.toNat ∧ p + n ≤ 20 ∧ n ≤ 8 := by
  obtain ⟨hk, hw, hm, h1, h2, h3, h4, h5, h6⟩ := acc_hit h
  refine ⟨_, _, ?_, ?_, rfl, rfl, ?_, by omega⟩
  · rw [h4]; omega
  · omega
  · have : k = 0 ∨ k = 1 ∨ k = 2 := by omega
    rcases this with rfl | rfl | rfl
    · rw [show sz 0 = 4 from rfl] at h2; rw [show pb 0 = 0 from rfl]; omega
    · rw [show sz 1 = 8 from rfl] at h2; rw [show pb 1 = 4 from rfl]; omega
    · rw [show sz 2 = 8 from rfl] at h2; rw [show pb 2 = 12 from rfl]; omega
theorem rread_any (b : Nat) (q : Nat → Int) (off wd : Int) (w : World) (o0 : 0 ≤ off) (o1 : off < 18446744073709551616) (hb : w.heap[b]? = some (rfO q)) (hB : IsB q) :
    Calls Try.prog 11 #[.pointer (some ⟨b, 0, none⟩), .int .u64 off, .int .i64 wd] w fun e w' => e = .returned (.tuple #[.int .u64 (rfR q off wd), .bool (acc off wd).isSome]) ∧ w = w' := by
  have hm := fun w => may_any off wd w o0 o1
  cases h : acc off wd with
  | none =>
    rw [h] at hm
    have hr : rfR q off wd = 0 := by unfold rfR; rw [h]
    rw [hr]
    exact rread_no b off wd w (hid hm)
  | some k =>
    rw [h] at hm
    obtain ⟨p, n, hp, hn, hp2, hn2, hpn, hn8⟩ := at_place h
    have hr : rfR q off wd = numb q p n := by unfold rfR; rw [h, hp2, hn2]
    rw [hr]
    have hpl := fun w => place_any off w o0 o1
    rw [hp] at hpl
    refine rread_yes b off wd p _ w (hid hm) (hid hpl) (hid ?_)
    rw [hn]
    exact number_any b q p n w hb hB hpn hn8

set_option maxRecDepth 100000 in
set_option maxHeartbeats 2000000 in
theorem rwrite_no (b : Nat) (off wd v : Int) (w : World) (hm : Hid (∀ w, Calls Try.prog 21 #[.int .u64 off, .int .i64 wd] w fun e w' => e = .returned (.bool false) ∧ w = w')) :
    Calls Try.prog 13 #[.pointer (some ⟨b, 0, none⟩), .int .u64 off, .int .i64 wd, .int .u64 v] w fun e w' => e = .returned (.bool false) ∧ w = w' := by
  go_enter Try.func13, Try.ntmps13
  go_wp2_with (go_at_call 21; ((with_reducible refine (hm.out _).mono ?_)); rintro e w' ⟨rfl, rfl⟩)
  go_ret
  exact ⟨rfl, rfl⟩
set_option maxRecDepth 100000 in
set_option maxHeartbeats 2000000 in
theorem rwrite_yes (b : Nat) (off wd P x v : Int) (q1 q2 : Nat → Int) (w : World) (hm : Hid (∀ w, Calls Try.prog 21 #[.int .u64 off, .int .i64 wd] w fun e w' => e = .returned (.bool true) ∧ w = w'))
    (hp : Hid (∀ w, Calls Try.prog 23 #[.int .u64 off] w fun e w' => e = .returned (.int .i64 P) ∧ w = w'))
    (h1 : Hid (Calls Try.prog 24 #[.pointer (some ⟨b, 0, none⟩), .int .i64 P, .int .i64 wd, .int .u64 v] w fun e w' => e = .returned (.tuple #[]) ∧ w'.heap[b]? = some (rfO q1) ∧ Fr [b] w w'))
    (hn : Hid (∀ w, w.heap[b]? = some (rfO q1) → Calls Try.prog 22 #[.pointer (some ⟨b, 0, none⟩), .int .i64 0, .int .i64 4] w fun e w' => e = .returned (.int .u64 x) ∧ w = w'))
    (h2 : Hid (∀ w, w.heap[b]? = some (rfO q1) → Calls Try.prog 24 #[.pointer (some ⟨b, 0, none⟩), .int .i64 0, .int .i64 4, .int .u64 (x % 2)] w fun e w' => e = .returned (.tuple #[]) ∧ w'.heap[b]? = some (rfO q2) ∧ Fr [b] w w'))
    (x0 : 0 ≤ x) (hx : x.tmod 2 = x % 2) :
    Calls Try.prog 13 #[.pointer (some ⟨b, 0, none⟩), .int .u64 off, .int .i64 wd, .int .u64 v] w fun e w' => e = .returned (.bool true) ∧ w'.heap[b]? = some (rfO q2) ∧ Fr [b] w w' := by
  go_enter Try.func13, Try.ntmps13
  go_upto_region 4 with (first | (go_at_call 21; ((with_reducible refine (hm.out _).mono ?_)); rintro e w' ⟨rfl, rfl⟩) | (go_at_call 23; ((with_reducible refine (hp.out _).mono ?_)); rintro e w' ⟨rfl, rfl⟩) | (go_at_call 24; ((with_reducible refine (h1.out).mono ?_)); rintro e w1 ⟨rfl, hb1, hd1⟩))
  have HB := hid hb1
  have HD := hid hd1
  clear hb1 hd1 h1
  go_wp2_with (first | (go_at_call 22; ((with_reducible refine (hn.out _ HB.out).mono ?_)); rintro e w' ⟨rfl, rfl⟩) | (go_at_call 24; ((with_reducible refine (h2.out _ HB.out).mono ?_)); rintro e w2 ⟨rfl, hb2, hd2⟩))
  go_ret
  exact ⟨rfl, hb2, HD.out.trans hd2⟩
theorem rwrite_any (b : Nat) (q : Nat → Int) (off wd v : Int) (w : World) (o0 : 0 ≤ off) (o1 : off < 18446744073709551616) (v0 : 0 ≤ v) (v1 : v < 18446744073709551616) (hb : w.heap[b]? = some (rfO q)) (hB : IsB q) :
    Calls Try.prog 13 #[.pointer (some ⟨b, 0, none⟩), .int .u64 off, .int .i64 wd, .int .u64 v] w fun e w' => e = .returned (.bool (acc off wd).isSome) ∧ w'.heap[b]? = some (rfO (rfW q off wd v)) ∧ Fr [b] w w' := by
  have hm := fun w => may_any off wd w o0 o1
  cases h : acc off wd with
  | none =>
    rw [h] at hm
    have hr : rfW q off wd v = q := by unfold rfW; rw [h]
    rw [hr]
    exact (rwrite_no b off wd v w (hid hm)).mono (by rintro e w' ⟨rfl, rfl⟩; exact ⟨rfl, hb, Fr.refl _ _⟩)
  | some k =>
    rw [h] at hm
    obtain ⟨p, n, hp, hn, hp2, hn2, hpn, hn8⟩ := at_place h
    have hr : rfW q off wd v = rfW1 q p n v := by unfold rfW; rw [h, hp2, hn2]
    rw [hr]
    have hpl := fun w => place_any off w o0 o1
    rw [hp] at hpl
    have hB1 := putJ_isB hB p n v
    have hbd := numb_bd hB1 4 0
    refine rwrite_yes b off wd p (numb (putJ q p n v) 0 4) v (putJ q p n v) _ w (hid hm) (hid hpl) (hid ?_) (hid fun w hw => number_any b _ 0 4 w hw hB1 (by decide) (by decide)) (hid fun w hw => put_any b _ 0 4 _ w hw (by omega) (by omega) (by decide)) hbd.1 (Int.tmod_eq_emod_of_nonneg hbd.1)
    rw [hn]
    exact put_any b q p n v w hb v0 v1 hpn

set_option maxRecDepth 100000 in
set_option maxHeartbeats 2000000 in
theorem rtick_any (b : Nat) (q : Nat → Int) (w : World) (hb : w.heap[b]? = some (rfO q)) (hB : IsB q) :
    Calls Try.prog 15 #[.pointer (some ⟨b, 0, none⟩)] w fun e w' => e = .returned (.tuple #[]) ∧ w'.heap[b]? = some (rfO (rfT q)) ∧ Fr [b] w w' := by
  have hn : Hid (∀ w : World, w.heap[b]? = some (rfO q) → Calls Try.prog 22 #[.pointer (some ⟨b, 0, none⟩), .int .i64 12, .int .i64 8] w fun e w' => e = .returned (.int .u64 (numb q 12 8)) ∧ w = w') := fun w hw => number_any b q 12 8 w hw hB (by decide) (by decide)
  have hp : Hid (∀ w : World, w.heap[b]? = some (rfO q) → Calls Try.prog 24 #[.pointer (some ⟨b, 0, none⟩), .int .i64 12, .int .i64 8, .int .u64 (IntKind.u64.wrap (numb q 12 8 + 1))] w fun e w' => e = .returned (.tuple #[]) ∧ w'.heap[b]? = some (rfO (putJ q 12 8 (IntKind.u64.wrap (numb q 12 8 + 1)))) ∧ Fr [b] w w') := fun w hw => put_any b q 12 8 (IntKind.u64.wrap (numb q 12 8 + 1)) w hw (by rw [IntKind.wrap_u64]; omega) (by rw [IntKind.wrap_u64]; omega) (by decide)
  have HB := hid hb
  unfold rfT
  clear hb
  generalize numb q 12 8 = x at *
  go_enter Try.func15, Try.ntmps15
  go_wp2_with (first | (go_at_call 22; ((with_reducible refine (hn.out _ HB.out).mono ?_)); rintro e w' ⟨rfl, rfl⟩) | (go_at_call 24; ((with_reducible refine (hp.out _ HB.out).mono ?_)); rintro e w2 ⟨rfl, hb2, hd2⟩))
  go_end0
  exact ⟨rfl, hb2, hd2⟩

set_option maxRecDepth 100000 in
set_option maxHeartbeats 2000000 in
theorem rbits_any (b : Nat) (q : Nat → Int) (w : World) (hb : w.heap[b]? = some (rfO q)) (hB : IsB q) :
    Calls Try.prog 17 #[.pointer (some ⟨b, 0, none⟩)] w fun e w' => e = .returned (.int .u64 (rfB q)) ∧ w = w' := by
  have hn1 : Hid (∀ w : World, w.heap[b]? = some (rfO q) → Calls Try.prog 22 #[.pointer (some ⟨b, 0, none⟩), .int .i64 12, .int .i64 8] w fun e w' => e = .returned (.int .u64 (numb q 12 8)) ∧ w = w') := fun w hw => number_any b q 12 8 w hw hB (by decide) (by decide)
  have hn2 : Hid (∀ w : World, w.heap[b]? = some (rfO q) → Calls Try.prog 22 #[.pointer (some ⟨b, 0, none⟩), .int .i64 4, .int .i64 8] w fun e w' => e = .returned (.int .u64 (numb q 4 8)) ∧ w = w') := fun w hw => number_any b q 4 8 w hw hB (by decide) (by decide)
  have HB := hid hb
  have hc := rf_cell hb (i := 0) (by decide)
  unfold rfB
  clear hb
  generalize numb q 12 8 = x at *
  generalize numb q 4 8 = y at *
  generalize q 0 = z at *
  by_cases hz : z = 1
  · subst hz
    by_cases hxy : y ≤ x
    · rw [if_pos rfl, if_pos hxy]
      go_enter Try.func17, Try.ntmps17
      go_wp2_with (first | (go_at_call 22; ((with_reducible refine (hn1.out _ HB.out).mono ?_)); rintro e w' ⟨rfl, rfl⟩) | (go_at_call 22; ((with_reducible refine (hn2.out _ HB.out).mono ?_)); rintro e w' ⟨rfl, rfl⟩))
      go_ret
      exact ⟨rfl, rfl⟩
    · rw [if_pos rfl, if_neg hxy]
      go_enter Try.func17, Try.ntmps17
      go_wp2_with (first | (go_at_call 22; ((with_reducible refine (hn1.out _ HB.out).mono ?_)); rintro e w' ⟨rfl, rfl⟩) | (go_at_call 22; ((with_reducible refine (hn2.out _ HB.out).mono ?_)); rintro e w' ⟨rfl, rfl⟩))
      go_ret
      exact ⟨rfl, rfl⟩
  · have hz2 : (z == 1) = false := by simpa using hz
    rw [if_neg hz]
    by_cases hxy : y ≤ x
    · rw [if_pos hxy]
      go_enter Try.func17, Try.ntmps17
      go_wp2_with (first | (go_at_call 22; ((with_reducible refine (hn1.out _ HB.out).mono ?_)); rintro e w' ⟨rfl, rfl⟩) | (go_at_call 22; ((with_reducible refine (hn2.out _ HB.out).mono ?_)); rintro e w' ⟨rfl, rfl⟩))
      go_ret
      exact ⟨rfl, rfl⟩
    · rw [if_neg hxy]
      go_enter Try.func17, Try.ntmps17
      go_wp2_with (first | (go_at_call 22; ((with_reducible refine (hn1.out _ HB.out).mono ?_)); rintro e w' ⟨rfl, rfl⟩) | (go_at_call 22; ((with_reducible refine (hn2.out _ HB.out).mono ?_)); rintro e w' ⟨rfl, rfl⟩))
      go_ret
      exact ⟨rfl, rfl⟩
def q0 : Nat → Int := fun i => if 4 ≤ i ∧ i < 12 then 255 else 0
set_option maxRecDepth 100000 in
set_option maxHeartbeats 2000000 in
theorem rnew_any (w : World) : Calls Try.prog 9 #[] w fun e w' => e = .returned (.pointer (some ⟨w.heap.size, 0, none⟩)) ∧ w'.heap[w.heap.size]? = some (rfO q0) ∧ Fr [] w w' := by
  have HF := hid (Fr.refl [] w)
  go_enter Try.func9, Try.ntmps9
  go_wp2
  go_loopw [2] (fun i wr => ∃ j : Nat, 4 ≤ j ∧ j ≤ 12 ∧ i = .int .i64 j ∧ Hid (wr.heap[w.heap.size]? = some (rfO (fun i => if 4 ≤ i ∧ i < j then 255 else 0))) ∧ Hid (Fr [] w wr)) (fun i _ => 12 - (intOf i).toNat)
  case atStart =>
    refine ⟨4, by decide, by decide, rfl, ?_, HF.out.alloc _⟩
    have e : (rfO (fun i => if 4 ≤ i ∧ i < 4 then 255 else 0)) = rfO fun _ => 0 := by
      congr 1; funext i; rw [if_neg (by omega)]
    rw [e]
    exact blk_new w _
  case round =>
    clear HF
    obtain ⟨j, hj4, hj, rfl, HB, HF⟩ := hrel
    by_cases hlt : j < 12
    · have hf := rf_free HB.out j
      have hc := rf_cell HB.out (i := j) (by omega)
      have hi0 : (0 : Int) ≤ (j : Int) := by omega
      have hi1 : (j : Int) < 20 := by omega
      have hlt' : decide ((j : Int) < 12) = true := decide_eq_true (by omega)
      go_wp2
      go_roundw
      case rel =>
        refine ⟨j + 1, by omega, by omega, by simp, ?_, ?_⟩
        · have := rf_set HB.out j 255
          have e : setB (fun i => if 4 ≤ i ∧ i < j then 255 else 0) j 255 = fun i => if 4 ≤ i ∧ i < j + 1 then 255 else 0 := by
            funext i
            unfold setB
            by_cases h : i = j
            · subst h; rw [if_pos rfl, if_pos (by omega)]
            · rw [if_neg h]
              show (if 4 ≤ i ∧ i < j then (255 : Int) else 0) = _
              by_cases h2 : 4 ≤ i ∧ i < j
              · rw [if_pos h2, if_pos (by omega)]
              · rw [if_neg h2, if_neg (by omega)]
          rw [e] at this
          exact this
        · exact HF.out.setCell (.inr (by simp)) _
      case measure => simp [intOf]; omega
    · obtain rfl : j = 12 := by omega
      go_wp2
      go_ret
      exact ⟨rfl, HB.out, HF.out⟩
end Go.Proofs.Ytefhcadlakakbaa
