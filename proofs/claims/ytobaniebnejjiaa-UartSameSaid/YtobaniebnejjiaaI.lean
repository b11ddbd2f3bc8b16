/- A serial line: what the statements ask to be awake. -/
import Derived.Test.YtobaniebnejjiaaH
namespace Go.Proofs.Ytobaniebnejjiaa.U
open Go.RowKit
set_option linter.all false
def tri (a b c : St) : Nat → St := fun i => if i = 0 then a else if i = 1 then b else c
def triN (a b c : Nat) : Nat → Nat := fun i => if i = 0 then a else if i = 1 then b else c
theorem lines_congr {w0 w : World} {X : List Nat} {n : Nat} {g g' : Nat → Nat} {u u' : Nat → St} (h : Lines w0 w X n g u) (he : ∀ i, i < n → g i = g' i ∧ u i = u' i) : Lines w0 w X n g' u' := by
  obtain ⟨T, h1, h2, h3, h4⟩ := h
  refine ⟨T, fun i hi => ?_, h2, h3, h4⟩
  rw [← (he i hi).1, ← (he i hi).2]
  exact h1 i hi
instance : DecidableEq ByteArray := fun a b => decidable_of_iff (a.data = b.data) ⟨fun h => by cases a; cases b; simpa using h, fun h => by rw [h]⟩
def aw0 : St := (St.new.Read 5 1).2.2
theorem aw0_ok : aw0.OK := (OK_new.Read 5 1).1
theorem aw0_r : St.new.reads 5 96 = (true : Bool) := by decide +kernel
theorem aw0_c {w0 w : World} {g0 g1 g2 : Nat} (h : Lines w0 w [] 1 (triN g0 g1 g2) (tri St.new St.new St.new)) : Calls Try.prog 23 #[.pointer (some ⟨g0, 0, none⟩), .int .u64 5, .int .u64 96] w fun e w' => e = .returned (.bool true) ∧ Lines w0 w' [] 1 (triN g0 g1 g2) (tri aw0 aw0 aw0) :=
  (ls_reads h (i := 0) (gi := g0) (by decide) rfl OK_new (off := 5) 96 (by decide) (by decide)).mono fun e w' ⟨x, y, _⟩ => by
    refine ⟨x.trans (congrArg (fun b => Ending.returned (.bool b)) aw0_r), lines_congr y fun i hi => ?_⟩
    match i, hi with
    | 0, _ => exact ⟨rfl, rfl⟩
def aw1 : St := (aw0.Input 97).2
theorem aw1_ok : aw1.OK := aw0_ok.Input (b := 97) (by unfold Byte; decide)
theorem aw1_r : (aw0.Input 97).1 = (true : Bool) := by decide +kernel
theorem aw1_c {w0 w : World} {g0 g1 g2 : Nat} (h : Lines w0 w [] 1 (triN g0 g1 g2) (tri aw0 aw0 aw0)) : Calls Try.prog 13 #[.pointer (some ⟨g0, 0, none⟩), .int .u8 97] w fun e w' => e = .returned (.bool true) ∧ Lines w0 w' [] 1 (triN g0 g1 g2) (tri aw1 aw1 aw1) :=
  (ls_Input h (i := 0) (gi := g0) (by decide) rfl aw0_ok (b := 97) (by unfold Byte; decide)).mono fun e w' ⟨x, y, _⟩ => by
    refine ⟨x.trans (congrArg (fun b => Ending.returned (.bool b)) aw1_r), lines_congr y fun i hi => ?_⟩
    match i, hi with
    | 0, _ => exact ⟨rfl, rfl⟩
def aw2 : St := (aw1.Input 98).2
theorem aw2_ok : aw2.OK := aw1_ok.Input (b := 98) (by unfold Byte; decide)
theorem aw2_r : (aw1.Input 98).1 = (true : Bool) := by decide +kernel
theorem aw2_c {w0 w : World} {g0 g1 g2 : Nat} (h : Lines w0 w [] 1 (triN g0 g1 g2) (tri aw1 aw1 aw1)) : Calls Try.prog 13 #[.pointer (some ⟨g0, 0, none⟩), .int .u8 98] w fun e w' => e = .returned (.bool true) ∧ Lines w0 w' [] 1 (triN g0 g1 g2) (tri aw2 aw2 aw2) :=
  (ls_Input h (i := 0) (gi := g0) (by decide) rfl aw1_ok (b := 98) (by unfold Byte; decide)).mono fun e w' ⟨x, y, _⟩ => by
    refine ⟨x.trans (congrArg (fun b => Ending.returned (.bool b)) aw2_r), lines_congr y fun i hi => ?_⟩
    match i, hi with
    | 0, _ => exact ⟨rfl, rfl⟩
def aw3 : St := (aw2.Read 5 1).2.2
theorem aw3_ok : aw3.OK := (aw2_ok.Read 5 1).1
theorem aw3_r : aw2.reads 5 97 = (true : Bool) := by decide +kernel
theorem aw3_c {w0 w : World} {g0 g1 g2 : Nat} (h : Lines w0 w [] 1 (triN g0 g1 g2) (tri aw2 aw2 aw2)) : Calls Try.prog 23 #[.pointer (some ⟨g0, 0, none⟩), .int .u64 5, .int .u64 97] w fun e w' => e = .returned (.bool true) ∧ Lines w0 w' [] 1 (triN g0 g1 g2) (tri aw3 aw3 aw3) :=
  (ls_reads h (i := 0) (gi := g0) (by decide) rfl aw2_ok (off := 5) 97 (by decide) (by decide)).mono fun e w' ⟨x, y, _⟩ => by
    refine ⟨x.trans (congrArg (fun b => Ending.returned (.bool b)) aw3_r), lines_congr y fun i hi => ?_⟩
    match i, hi with
    | 0, _ => exact ⟨rfl, rfl⟩
def aw4 : St := (aw3.Read 0 1).2.2
theorem aw4_ok : aw4.OK := (aw3_ok.Read 0 1).1
theorem aw4_r : aw3.reads 0 97 = (true : Bool) := by decide +kernel
theorem aw4_c {w0 w : World} {g0 g1 g2 : Nat} (h : Lines w0 w [] 1 (triN g0 g1 g2) (tri aw3 aw3 aw3)) : Calls Try.prog 23 #[.pointer (some ⟨g0, 0, none⟩), .int .u64 0, .int .u64 97] w fun e w' => e = .returned (.bool true) ∧ Lines w0 w' [] 1 (triN g0 g1 g2) (tri aw4 aw4 aw4) :=
  (ls_reads h (i := 0) (gi := g0) (by decide) rfl aw3_ok (off := 0) 97 (by decide) (by decide)).mono fun e w' ⟨x, y, _⟩ => by
    refine ⟨x.trans (congrArg (fun b => Ending.returned (.bool b)) aw4_r), lines_congr y fun i hi => ?_⟩
    match i, hi with
    | 0, _ => exact ⟨rfl, rfl⟩
def aw5 : St := (aw4.Read 0 1).2.2
theorem aw5_ok : aw5.OK := (aw4_ok.Read 0 1).1
theorem aw5_r : aw4.reads 0 98 = (true : Bool) := by decide +kernel
theorem aw5_c {w0 w : World} {g0 g1 g2 : Nat} (h : Lines w0 w [] 1 (triN g0 g1 g2) (tri aw4 aw4 aw4)) : Calls Try.prog 23 #[.pointer (some ⟨g0, 0, none⟩), .int .u64 0, .int .u64 98] w fun e w' => e = .returned (.bool true) ∧ Lines w0 w' [] 1 (triN g0 g1 g2) (tri aw5 aw5 aw5) :=
  (ls_reads h (i := 0) (gi := g0) (by decide) rfl aw4_ok (off := 0) 98 (by decide) (by decide)).mono fun e w' ⟨x, y, _⟩ => by
    refine ⟨x.trans (congrArg (fun b => Ending.returned (.bool b)) aw5_r), lines_congr y fun i hi => ?_⟩
    match i, hi with
    | 0, _ => exact ⟨rfl, rfl⟩
def aw6 : St := (aw5.Read 0 1).2.2
theorem aw6_ok : aw6.OK := (aw5_ok.Read 0 1).1
theorem aw6_r : aw5.reads 0 0 = (true : Bool) := by decide +kernel
theorem aw6_c {w0 w : World} {g0 g1 g2 : Nat} (h : Lines w0 w [] 1 (triN g0 g1 g2) (tri aw5 aw5 aw5)) : Calls Try.prog 23 #[.pointer (some ⟨g0, 0, none⟩), .int .u64 0, .int .u64 0] w fun e w' => e = .returned (.bool true) ∧ Lines w0 w' [] 1 (triN g0 g1 g2) (tri aw6 aw6 aw6) :=
  (ls_reads h (i := 0) (gi := g0) (by decide) rfl aw5_ok (off := 0) 0 (by decide) (by decide)).mono fun e w' ⟨x, y, _⟩ => by
    refine ⟨x.trans (congrArg (fun b => Ending.returned (.bool b)) aw6_r), lines_congr y fun i hi => ?_⟩
    match i, hi with
    | 0, _ => exact ⟨rfl, rfl⟩
theorem aw7_l : aw6.sent.length ≤ 1000000 := by decide +kernel
def aw7 : St := (aw6.Write 0 1 120).2
theorem aw7_ok : aw7.OK := aw6_ok.Write 0 1 120
theorem aw7_r : (aw6.Write 0 1 120).1 = (true : Bool) := by decide +kernel
theorem aw7_c {w0 w : World} {g0 g1 g2 : Nat} (h : Lines w0 w [] 1 (triN g0 g1 g2) (tri aw6 aw6 aw6)) : Calls Try.prog 12 #[.pointer (some ⟨g0, 0, none⟩), .int .u64 0, .int .i64 1, .int .u64 120] w fun e w' => e = .returned (.bool true) ∧ Lines w0 w' [] 1 (triN g0 g1 g2) (tri aw7 aw7 aw7) :=
  (ls_Write h (i := 0) (gi := g0) (by decide) rfl aw6_ok 1 (off := 0) (v := 120) (by decide) (by decide) (by decide) (by decide) aw7_l).mono fun e w' ⟨x, y, _⟩ => by
    refine ⟨x.trans (congrArg (fun b => Ending.returned (.bool b)) aw7_r), lines_congr y fun i hi => ?_⟩
    match i, hi with
    | 0, _ => exact ⟨rfl, rfl⟩
def aw8 : St := aw7.Take.2
theorem aw8_ok : aw8.OK := aw7_ok.Take
theorem aw8_r : strOfNums aw7.Take.1 = ({ data := #[120] } : ByteArray) := by decide +kernel
theorem aw8_c {w0 w : World} {g0 g1 g2 : Nat} (h : Lines w0 w [] 1 (triN g0 g1 g2) (tri aw7 aw7 aw7)) : Calls Try.prog 14 #[.pointer (some ⟨g0, 0, none⟩)] w fun e w' => e = .returned (.string { data := #[120] }) ∧ Lines w0 w' [] 1 (triN g0 g1 g2) (tri aw8 aw8 aw8) :=
  (ls_Take h (i := 0) (gi := g0) (by decide) rfl aw7_ok).mono fun e w' ⟨x, y, _⟩ => by
    refine ⟨x.trans (congrArg (fun b => Ending.returned (.string b)) aw8_r), lines_congr y fun i hi => ?_⟩
    match i, hi with
    | 0, _ => exact ⟨rfl, rfl⟩
set_option maxRecDepth 100000 in
set_option maxHeartbeats 4000000 in
theorem awake_any (w : World) : Calls Try.prog 8 #[] w fun e w' => e = .returned (.bool true) ∧ Fr [] w w' := by
  have hL := hid (lines_none w w (Fr.refl _ _))
  go_enter Try.func8, Try.ntmps8
  go_upto_region 2 with (go_at_call 9; (with_reducible refine (ls_new hL.out).mono ?_); rintro e w1 ⟨rfl, hL1, -⟩; replace hL := hid hL1; clear hL1)
  have hL := hid (lines_congr (g' := triN w.heap.size w.heap.size w.heap.size) (u' := tri St.new St.new St.new) hL.out fun i hi => by
    match i, hi with
    | 0, _ => exact ⟨rfl, rfl⟩)
  go_wp2_with (first | (go_at_call 23; (with_reducible refine (aw0_c hL.out).mono ?_); rintro e w1 ⟨rfl, hL1⟩; replace hL := hid hL1; clear hL1) | (go_at_call 13; (with_reducible refine (aw1_c hL.out).mono ?_); rintro e w1 ⟨rfl, hL1⟩; replace hL := hid hL1; clear hL1) | (go_at_call 13; (with_reducible refine (aw2_c hL.out).mono ?_); rintro e w1 ⟨rfl, hL1⟩; replace hL := hid hL1; clear hL1) | (go_at_call 23; (with_reducible refine (aw3_c hL.out).mono ?_); rintro e w1 ⟨rfl, hL1⟩; replace hL := hid hL1; clear hL1) | (go_at_call 23; (with_reducible refine (aw4_c hL.out).mono ?_); rintro e w1 ⟨rfl, hL1⟩; replace hL := hid hL1; clear hL1) | (go_at_call 23; (with_reducible refine (aw5_c hL.out).mono ?_); rintro e w1 ⟨rfl, hL1⟩; replace hL := hid hL1; clear hL1) | (go_at_call 23; (with_reducible refine (aw6_c hL.out).mono ?_); rintro e w1 ⟨rfl, hL1⟩; replace hL := hid hL1; clear hL1) | (go_at_call 12; (with_reducible refine (aw7_c hL.out).mono ?_); rintro e w1 ⟨rfl, hL1⟩; replace hL := hid hL1; clear hL1) | (go_at_call 14; (with_reducible refine (aw8_c hL.out).mono ?_); rintro e w1 ⟨rfl, hL1⟩; replace hL := hid hL1; clear hL1))
  go_ret
  exact ⟨rfl, hL.out.fr⟩
end Go.Proofs.Ytobaniebnejjiaa.U
