/- The reference's timer: where a place stands, and which accesses there are: contracts. -/
import Derived.Test.YtefhcadlakakbaaK
namespace Go.Proofs.Ytefhcadlakakbaa
open Go.RowKit Go.Shelf
set_option linter.all false

/-- where a byte of the address map stands -/
def pl (off : Int) : Int := if off < 4 then off else if 16384 ≤ off ∧ off < 16392 then off - 16380 else if 49144 ≤ off ∧ off < 49152 then off - 49132 else -1
set_option maxRecDepth 100000 in
set_option maxHeartbeats 2000000 in
theorem place_any (off : Int) (w : World) (o0 : 0 ≤ off) (o1 : off < 18446744073709551616) :
    Calls Try.prog 23 #[.int .u64 off] w fun e w' => e = .returned (.int .i64 (pl off)) ∧ w = w' := by
  by_cases h1 : off < 4
  · have hv : pl off = off := by unfold pl; rw [if_pos h1]
    have e1 : wrap64 off = off := by unfold wrap64; omega
    rw [hv]
    clear hv
    go_enter Try.func23, Try.ntmps23
    go_wp2
    go_ret
    exact ⟨rfl, rfl⟩
  have t1 : decide (off < 4) = false := decide_eq_false h1
  by_cases h2 : 16384 ≤ off
  · by_cases h3 : off < 16392
    · have hv : pl off = 4 + (off - 16384) := by unfold pl; rw [if_neg h1, if_pos ⟨h2, h3⟩]; omega
      have e1 : IntKind.u64.wrap (off - 16384) = off - 16384 := by rw [IntKind.wrap_u64]; omega
      have e2 : wrap64 (off - 16384) = off - 16384 := by unfold wrap64; omega
      have e3 : wrap64 (4 + (off - 16384)) = 4 + (off - 16384) := by unfold wrap64; omega
      rw [hv]
      clear hv
      go_enter Try.func23, Try.ntmps23
      go_wp2
      go_ret
      exact ⟨rfl, rfl⟩
    · by_cases h4 : 49144 ≤ off
      · by_cases h5 : off < 49152
        · have hv : pl off = 12 + (off - 49144) := by unfold pl; rw [if_neg h1, if_neg (by omega), if_pos ⟨h4, h5⟩]; omega
          have e1 : IntKind.u64.wrap (off - 49144) = off - 49144 := by rw [IntKind.wrap_u64]; omega
          have e2 : wrap64 (off - 49144) = off - 49144 := by unfold wrap64; omega
          have e3 : wrap64 (12 + (off - 49144)) = 12 + (off - 49144) := by unfold wrap64; omega
          rw [hv]
          clear hv
          go_enter Try.func23, Try.ntmps23
          go_wp2
          go_ret
          exact ⟨rfl, rfl⟩
        · have hv : pl off = -1 := by unfold pl; rw [if_neg h1, if_neg (by omega), if_neg (by omega)]
          rw [hv]
          clear hv
          go_enter Try.func23, Try.ntmps23
          go_wp2
          go_ret
          exact ⟨rfl, rfl⟩
      · have hv : pl off = -1 := by unfold pl; rw [if_neg h1, if_neg (by omega), if_neg (by omega)]
        rw [hv]
        clear hv
        go_enter Try.func23, Try.ntmps23
        go_wp2
        go_ret
        exact ⟨rfl, rfl⟩
  · have hv : pl off = -1 := by unfold pl; rw [if_neg h1, if_neg (by omega), if_neg (by omega)]
    rw [hv]
    have t4 : decide (49144 ≤ off) = false := decide_eq_false (by omega)
    clear hv
    go_enter Try.func23, Try.ntmps23
    go_wp2
    go_ret
    exact ⟨rfl, rfl⟩

set_option maxRecDepth 100000 in
set_option maxHeartbeats 2000000 in
theorem may_wide (off wd : Int) (w : World) (d1 : (wd != 1) = true) (d2 : (wd != 2) = true) (d4 : (wd != 4) = true) (d8 : (wd != 8) = true) :
    Calls Try.prog 21 #[.int .u64 off, .int .i64 wd] w fun e w' => e = .returned (.bool false) ∧ w = w' := by
  go_enter Try.func21, Try.ntmps21
  go_wp2
  go_ret
  exact ⟨rfl, rfl⟩
set_option maxRecDepth 100000 in
set_option maxHeartbeats 2000000 in
theorem may_odd (off wd : Int) (w : World) (o0 : 0 ≤ off) (hw : wd = 1 ∨ wd = 2 ∨ wd = 4 ∨ wd = 8) (hm : off % wd ≠ 0) :
    Calls Try.prog 21 #[.int .u64 off, .int .i64 wd] w fun e w' => e = .returned (.bool false) ∧ w = w' := by
  rcases hw with rfl | rfl | rfl | rfl
  · omega
  · have hm : (off % 2 != 0) = true := by simpa using hm
    go_enter Try.func21, Try.ntmps21
    go_wp2
    go_ret
    exact ⟨rfl, rfl⟩
  · have hm : (off % 4 != 0) = true := by simpa using hm
    go_enter Try.func21, Try.ntmps21
    go_wp2
    go_ret
    exact ⟨rfl, rfl⟩
  · have hm : (off % 8 != 0) = true := by simpa using hm
    go_enter Try.func21, Try.ntmps21
    go_wp2
    go_ret
    exact ⟨rfl, rfl⟩
set_option maxRecDepth 100000 in
set_option maxHeartbeats 2000000 in
theorem may_no_1 (off : Int) (w : World) (o0 : 0 ≤ off) (hp : Hid (∀ w, Calls Try.prog 23 #[.int .u64 off] w fun e w' => e = .returned (.int .i64 (-1)) ∧ w = w')) :
    Calls Try.prog 21 #[.int .u64 off, .int .i64 1] w fun e w' => e = .returned (.bool false) ∧ w = w' := by
  go_enter Try.func21, Try.ntmps21
  go_wp2
  go_loop [5] (fun i => i = .int .i64 0) (fun _ => 0)
  case atStart => exact rfl
  case round =>
    obtain rfl := hrel
    go_wp2_with (go_at_call 23; ((with_reducible refine (hp.out _).mono ?_)); rintro e w' ⟨rfl, rfl⟩)
    go_ret
    exact ⟨rfl, rfl⟩
set_option maxRecDepth 100000 in
set_option maxHeartbeats 2000000 in
theorem may_yes_1 (off P : Int) (w : World) (o0 : 0 ≤ off) (o1 : off ≤ 49151) (hp : Hid (∀ w, Calls Try.prog 23 #[.int .u64 off] w fun e w' => e = .returned (.int .i64 P) ∧ w = w'))
    (hpj : Hid (∀ (j : Nat), j < 1 → ∀ w, Calls Try.prog 23 #[.int .u64 (off + (j : Int))] w fun e w' => e = .returned (.int .i64 (P + (j : Int))) ∧ w = w')) (P0 : decide (P < 0) = false) (P1 : P < 20) (h4 : off < 4 → off + 1 ≤ 4) :
    Calls Try.prog 21 #[.int .u64 off, .int .i64 1] w fun e w' => e = .returned (.bool true) ∧ w = w' := by
  have P0' : 0 ≤ P := by simpa using P0
  go_enter Try.func21, Try.ntmps21
  go_wp2
  go_loop [5] (fun i => ∃ j : Nat, j ≤ 1 ∧ i = .int .i64 j) (fun i => 1 - (intOf i).toNat)
  case atStart => exact ⟨0, by decide, rfl⟩
  case round =>
    obtain ⟨j, hj, rfl⟩ := hrel
    by_cases hlt : j < 1
    · have hlt' : decide ((j : Int) < 1) = true := decide_eq_true (by omega)
      have HJ := hid (hpj.out j hlt)
      have hu1 : IntKind.u64.wrap (j : Int) = j := by rw [IntKind.wrap_u64]; omega
      have hu2 : IntKind.u64.wrap (off + (j : Int)) = off + j := by rw [IntKind.wrap_u64]; omega
      have hu3 : wrap64 (P + (j : Int)) = P + j := by unfold wrap64; omega
      have hu4 : wrap64 ((j : Int) + 1) = j + 1 := by unfold wrap64; omega
      by_cases h5 : off < 4
      · have t5 : decide (off < 4) = true := decide_eq_true h5
        have t6 : decide (3 < off + (j : Int)) = false := decide_eq_false (by have := h4 h5; omega)
        go_wp2_with (first | (go_at_call 23; ((with_reducible refine (hp.out _).mono ?_)); rintro e w' ⟨rfl, rfl⟩) | (go_at_call 23; ((with_reducible refine (HJ.out _).mono ?_)); rintro e w' ⟨rfl, rfl⟩))
        go_round
        case rel => exact ⟨j + 1, by omega, by simp⟩
        case measure => simp [intOf]; omega
      · have t5 : decide (off < 4) = false := decide_eq_false h5
        go_wp2_with (first | (go_at_call 23; ((with_reducible refine (hp.out _).mono ?_)); rintro e w' ⟨rfl, rfl⟩) | (go_at_call 23; ((with_reducible refine (HJ.out _).mono ?_)); rintro e w' ⟨rfl, rfl⟩))
        go_round
        case rel => exact ⟨j + 1, by omega, by simp⟩
        case measure => simp [intOf]; omega
    · obtain rfl : j = 1 := by omega
      go_wp2
      go_ret
      exact ⟨rfl, rfl⟩
set_option maxRecDepth 100000 in
set_option maxHeartbeats 2000000 in
theorem may_no_2 (off : Int) (w : World) (o0 : 0 ≤ off) (hp : Hid (∀ w, Calls Try.prog 23 #[.int .u64 off] w fun e w' => e = .returned (.int .i64 (-1)) ∧ w = w')) (hm : (off % 2 != 0) = false) :
    Calls Try.prog 21 #[.int .u64 off, .int .i64 2] w fun e w' => e = .returned (.bool false) ∧ w = w' := by
  go_enter Try.func21, Try.ntmps21
  go_wp2
  go_loop [5] (fun i => i = .int .i64 0) (fun _ => 0)
  case atStart => exact rfl
  case round =>
    obtain rfl := hrel
    go_wp2_with (go_at_call 23; ((with_reducible refine (hp.out _).mono ?_)); rintro e w' ⟨rfl, rfl⟩)
    go_ret
    exact ⟨rfl, rfl⟩
set_option maxRecDepth 100000 in
set_option maxHeartbeats 2000000 in
theorem may_yes_2 (off P : Int) (w : World) (o0 : 0 ≤ off) (o1 : off ≤ 49151) (hp : Hid (∀ w, Calls Try.prog 23 #[.int .u64 off] w fun e w' => e = .returned (.int .i64 P) ∧ w = w'))
    (hpj : Hid (∀ (j : Nat), j < 2 → ∀ w, Calls Try.prog 23 #[.int .u64 (off + (j : Int))] w fun e w' => e = .returned (.int .i64 (P + (j : Int))) ∧ w = w')) (P0 : decide (P < 0) = false) (P1 : P < 20) (h4 : off < 4 → off + 2 ≤ 4) (hm : (off % 2 != 0) = false) :
    Calls Try.prog 21 #[.int .u64 off, .int .i64 2] w fun e w' => e = .returned (.bool true) ∧ w = w' := by
  have P0' : 0 ≤ P := by simpa using P0
  go_enter Try.func21, Try.ntmps21
  go_wp2
  go_loop [5] (fun i => ∃ j : Nat, j ≤ 2 ∧ i = .int .i64 j) (fun i => 2 - (intOf i).toNat)
  case atStart => exact ⟨0, by decide, rfl⟩
  case round =>
    obtain ⟨j, hj, rfl⟩ := hrel
    by_cases hlt : j < 2
    · have hlt' : decide ((j : Int) < 2) = true := decide_eq_true (by omega)
      have HJ := hid (hpj.out j hlt)
      have hu1 : IntKind.u64.wrap (j : Int) = j := by rw [IntKind.wrap_u64]; omega
      have hu2 : IntKind.u64.wrap (off + (j : Int)) = off + j := by rw [IntKind.wrap_u64]; omega
      have hu3 : wrap64 (P + (j : Int)) = P + j := by unfold wrap64; omega
      have hu4 : wrap64 ((j : Int) + 1) = j + 1 := by unfold wrap64; omega
      by_cases h5 : off < 4
      · have t5 : decide (off < 4) = true := decide_eq_true h5
        have t6 : decide (3 < off + (j : Int)) = false := decide_eq_false (by have := h4 h5; omega)
        go_wp2_with (first | (go_at_call 23; ((with_reducible refine (hp.out _).mono ?_)); rintro e w' ⟨rfl, rfl⟩) | (go_at_call 23; ((with_reducible refine (HJ.out _).mono ?_)); rintro e w' ⟨rfl, rfl⟩))
        go_round
        case rel => exact ⟨j + 1, by omega, by simp⟩
        case measure => simp [intOf]; omega
      · have t5 : decide (off < 4) = false := decide_eq_false h5
        go_wp2_with (first | (go_at_call 23; ((with_reducible refine (hp.out _).mono ?_)); rintro e w' ⟨rfl, rfl⟩) | (go_at_call 23; ((with_reducible refine (HJ.out _).mono ?_)); rintro e w' ⟨rfl, rfl⟩))
        go_round
        case rel => exact ⟨j + 1, by omega, by simp⟩
        case measure => simp [intOf]; omega
    · obtain rfl : j = 2 := by omega
      go_wp2
      go_ret
      exact ⟨rfl, rfl⟩
set_option maxRecDepth 100000 in
set_option maxHeartbeats 2000000 in
theorem may_no_4 (off : Int) (w : World) (o0 : 0 ≤ off) (hp : Hid (∀ w, Calls Try.prog 23 #[.int .u64 off] w fun e w' => e = .returned (.int .i64 (-1)) ∧ w = w')) (hm : (off % 4 != 0) = false) :
    Calls Try.prog 21 #[.int .u64 off, .int .i64 4] w fun e w' => e = .returned (.bool false) ∧ w = w' := by
  go_enter Try.func21, Try.ntmps21
  go_wp2
  go_loop [5] (fun i => i = .int .i64 0) (fun _ => 0)
  case atStart => exact rfl
  case round =>
    obtain rfl := hrel
    go_wp2_with (go_at_call 23; ((with_reducible refine (hp.out _).mono ?_)); rintro e w' ⟨rfl, rfl⟩)
    go_ret
    exact ⟨rfl, rfl⟩
set_option maxRecDepth 100000 in
set_option maxHeartbeats 2000000 in
theorem may_yes_4 (off P : Int) (w : World) (o0 : 0 ≤ off) (o1 : off ≤ 49151) (hp : Hid (∀ w, Calls Try.prog 23 #[.int .u64 off] w fun e w' => e = .returned (.int .i64 P) ∧ w = w'))
    (hpj : Hid (∀ (j : Nat), j < 4 → ∀ w, Calls Try.prog 23 #[.int .u64 (off + (j : Int))] w fun e w' => e = .returned (.int .i64 (P + (j : Int))) ∧ w = w')) (P0 : decide (P < 0) = false) (P1 : P < 20) (h4 : off < 4 → off + 4 ≤ 4) (hm : (off % 4 != 0) = false) :
    Calls Try.prog 21 #[.int .u64 off, .int .i64 4] w fun e w' => e = .returned (.bool true) ∧ w = w' := by
  have P0' : 0 ≤ P := by simpa using P0
  go_enter Try.func21, Try.ntmps21
  go_wp2
  go_loop [5] (fun i => ∃ j : Nat, j ≤ 4 ∧ i = .int .i64 j) (fun i => 4 - (intOf i).toNat)
  case atStart => exact ⟨0, by decide, rfl⟩
  case round =>
    obtain ⟨j, hj, rfl⟩ := hrel
    by_cases hlt : j < 4
    · have hlt' : decide ((j : Int) < 4) = true := decide_eq_true (by omega)
      have HJ := hid (hpj.out j hlt)
      have hu1 : IntKind.u64.wrap (j : Int) = j := by rw [IntKind.wrap_u64]; omega
      have hu2 : IntKind.u64.wrap (off + (j : Int)) = off + j := by rw [IntKind.wrap_u64]; omega
      have hu3 : wrap64 (P + (j : Int)) = P + j := by unfold wrap64; omega
      have hu4 : wrap64 ((j : Int) + 1) = j + 1 := by unfold wrap64; omega
      by_cases h5 : off < 4
      · have t5 : decide (off < 4) = true := decide_eq_true h5
        have t6 : decide (3 < off + (j : Int)) = false := decide_eq_false (by have := h4 h5; omega)
        go_wp2_with (first | (go_at_call 23; ((with_reducible refine (hp.out _).mono ?_)); rintro e w' ⟨rfl, rfl⟩) | (go_at_call 23; ((with_reducible refine (HJ.out _).mono ?_)); rintro e w' ⟨rfl, rfl⟩))
        go_round
        case rel => exact ⟨j + 1, by omega, by simp⟩
        case measure => simp [intOf]; omega
      · have t5 : decide (off < 4) = false := decide_eq_false h5
        go_wp2_with (first | (go_at_call 23; ((with_reducible refine (hp.out _).mono ?_)); rintro e w' ⟨rfl, rfl⟩) | (go_at_call 23; ((with_reducible refine (HJ.out _).mono ?_)); rintro e w' ⟨rfl, rfl⟩))
        go_round
        case rel => exact ⟨j + 1, by omega, by simp⟩
        case measure => simp [intOf]; omega
    · obtain rfl : j = 4 := by omega
      go_wp2
      go_ret
      exact ⟨rfl, rfl⟩
set_option maxRecDepth 100000 in
set_option maxHeartbeats 2000000 in
theorem may_no_8 (off : Int) (w : World) (o0 : 0 ≤ off) (hp : Hid (∀ w, Calls Try.prog 23 #[.int .u64 off] w fun e w' => e = .returned (.int .i64 (-1)) ∧ w = w')) (hm : (off % 8 != 0) = false) :
    Calls Try.prog 21 #[.int .u64 off, .int .i64 8] w fun e w' => e = .returned (.bool false) ∧ w = w' := by
  go_enter Try.func21, Try.ntmps21
  go_wp2
  go_loop [5] (fun i => i = .int .i64 0) (fun _ => 0)
  case atStart => exact rfl
  case round =>
    obtain rfl := hrel
    go_wp2_with (go_at_call 23; ((with_reducible refine (hp.out _).mono ?_)); rintro e w' ⟨rfl, rfl⟩)
    go_ret
    exact ⟨rfl, rfl⟩
set_option maxRecDepth 100000 in
set_option maxHeartbeats 2000000 in
theorem may_yes_8 (off P : Int) (w : World) (o0 : 0 ≤ off) (o1 : off ≤ 49151) (hp : Hid (∀ w, Calls Try.prog 23 #[.int .u64 off] w fun e w' => e = .returned (.int .i64 P) ∧ w = w'))
    (hpj : Hid (∀ (j : Nat), j < 8 → ∀ w, Calls Try.prog 23 #[.int .u64 (off + (j : Int))] w fun e w' => e = .returned (.int .i64 (P + (j : Int))) ∧ w = w')) (P0 : decide (P < 0) = false) (P1 : P < 20) (h4 : off < 4 → off + 8 ≤ 4) (hm : (off % 8 != 0) = false) :
    Calls Try.prog 21 #[.int .u64 off, .int .i64 8] w fun e w' => e = .returned (.bool true) ∧ w = w' := by
  have P0' : 0 ≤ P := by simpa using P0
  go_enter Try.func21, Try.ntmps21
  go_wp2
  go_loop [5] (fun i => ∃ j : Nat, j ≤ 8 ∧ i = .int .i64 j) (fun i => 8 - (intOf i).toNat)
  case atStart => exact ⟨0, by decide, rfl⟩
  case round =>
    obtain ⟨j, hj, rfl⟩ := hrel
    by_cases hlt : j < 8
    · have hlt' : decide ((j : Int) < 8) = true := decide_eq_true (by omega)
      have HJ := hid (hpj.out j hlt)
      have hu1 : IntKind.u64.wrap (j : Int) = j := by rw [IntKind.wrap_u64]; omega
      have hu2 : IntKind.u64.wrap (off + (j : Int)) = off + j := by rw [IntKind.wrap_u64]; omega
      have hu3 : wrap64 (P + (j : Int)) = P + j := by unfold wrap64; omega
      have hu4 : wrap64 ((j : Int) + 1) = j + 1 := by unfold wrap64; omega
      by_cases h5 : off < 4
      · have t5 : decide (off < 4) = true := decide_eq_true h5
        have t6 : decide (3 < off + (j : Int)) = false := decide_eq_false (by have := h4 h5; omega)
        go_wp2_with (first | (go_at_call 23; ((with_reducible refine (hp.out _).mono ?_)); rintro e w' ⟨rfl, rfl⟩) | (go_at_call 23; ((with_reducible refine (HJ.out _).mono ?_)); rintro e w' ⟨rfl, rfl⟩))
        go_round
        case rel => exact ⟨j + 1, by omega, by simp⟩
        case measure => simp [intOf]; omega
      · have t5 : decide (off < 4) = false := decide_eq_false h5
        go_wp2_with (first | (go_at_call 23; ((with_reducible refine (hp.out _).mono ?_)); rintro e w' ⟨rfl, rfl⟩) | (go_at_call 23; ((with_reducible refine (HJ.out _).mono ?_)); rintro e w' ⟨rfl, rfl⟩))
        go_round
        case rel => exact ⟨j + 1, by omega, by simp⟩
        case measure => simp [intOf]; omega
    · obtain rfl : j = 8 := by omega
      go_wp2
      go_ret
      exact ⟨rfl, rfl⟩
set_option maxRecDepth 100000 in
set_option maxHeartbeats 2000000 in
theorem may_eight (w : World) (hp : Hid (∀ w, Calls Try.prog 23 #[.int .u64 0] w fun e w' => e = .returned (.int .i64 0) ∧ w = w'))
    (hpj : Hid (∀ (j : Nat), j < 4 → ∀ w, Calls Try.prog 23 #[.int .u64 (j : Int)] w fun e w' => e = .returned (.int .i64 (j : Int)) ∧ w = w')) (hp4 : Hid (∀ w, Calls Try.prog 23 #[.int .u64 4] w fun e w' => e = .returned (.int .i64 (-1)) ∧ w = w')) :
    Calls Try.prog 21 #[.int .u64 0, .int .i64 8] w fun e w' => e = .returned (.bool false) ∧ w = w' := by
  go_enter Try.func21, Try.ntmps21
  go_wp2
  go_loop [5] (fun i => ∃ j : Nat, j ≤ 4 ∧ i = .int .i64 j) (fun i => 8 - (intOf i).toNat)
  case atStart => exact ⟨0, by decide, rfl⟩
  case round =>
    obtain ⟨j, hj, rfl⟩ := hrel
    by_cases hlt : j < 4
    · have hlt' : decide ((j : Int) < 8) = true := decide_eq_true (by omega)
      have HJ := hid (hpj.out j hlt)
      have hu1 : IntKind.u64.wrap (j : Int) = j := by rw [IntKind.wrap_u64]; omega
      have hu3 : wrap64 (j : Int) = j := by unfold wrap64; omega
      have hu4 : wrap64 ((j : Int) + 1) = j + 1 := by unfold wrap64; omega
      have t6 : decide (3 < (j : Int)) = false := decide_eq_false (by omega)
      go_wp2_with (first | (go_at_call 23; ((with_reducible refine (hp.out _).mono ?_)); rintro e w' ⟨rfl, rfl⟩) | (go_at_call 23; ((with_reducible refine (HJ.out _).mono ?_)); rintro e w' ⟨rfl, rfl⟩))
      go_round
      case rel => exact ⟨j + 1, by omega, by simp⟩
      case measure => simp [intOf]; omega
    · obtain rfl : j = 4 := by omega
      rw [show (((4 : Nat) : Int)) = 4 from rfl]
      go_wp2_with (first | (go_at_call 23; ((with_reducible refine (hp.out _).mono ?_)); rintro e w' ⟨rfl, rfl⟩) | (go_at_call 23; ((with_reducible refine (hp4.out _).mono ?_)); rintro e w' ⟨rfl, rfl⟩))
      go_ret
      exact ⟨rfl, rfl⟩
end Go.Proofs.Ytefhcadlakakbaa
