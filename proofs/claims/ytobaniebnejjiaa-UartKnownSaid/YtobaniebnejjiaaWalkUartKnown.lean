/- The law UartKnown: its walk. -/
import Derived.Test.YtobaniebnejjiaaI
namespace Go.Proofs.Ytobaniebnejjiaa.U
open Go.RowKit
set_option linter.all false
theorem kn0_l : St.new.sent.length ≤ 1000000 := by decide +kernel
def kn0 : St := (St.new.Write 1 1 1).2
theorem kn0_ok : kn0.OK := OK_new.Write 1 1 1
theorem kn0_r : (St.new.Write 1 1 1).1 = (true : Bool) := by decide +kernel
theorem kn0_c {w0 w : World} {g0 g1 g2 : Nat} (h : Lines w0 w [] 3 (triN g0 g1 g2) (tri St.new St.new St.new)) : Calls Try.prog 12 #[.pointer (some ⟨g0, 0, none⟩), .int .u64 1, .int .i64 1, .int .u64 1] w fun e w' => e = .returned (.bool true) ∧ Lines w0 w' [] 3 (triN g0 g1 g2) (tri kn0 St.new St.new) :=
  (ls_Write h (i := 0) (gi := g0) (by decide) rfl OK_new 1 (off := 1) (v := 1) (by decide) (by decide) (by decide) (by decide) kn0_l).mono fun e w' ⟨x, y, _⟩ => by
    refine ⟨x.trans (congrArg (fun b => Ending.returned (.bool b)) kn0_r), lines_congr y fun i hi => ?_⟩
    match i, hi with
    | 0, _ => exact ⟨rfl, rfl⟩
    | 1, _ => exact ⟨rfl, rfl⟩
    | 2, _ => exact ⟨rfl, rfl⟩
def kn1 : St := (kn0.Input 97).2
theorem kn1_ok : kn1.OK := kn0_ok.Input (b := 97) (by unfold Byte; decide)
theorem kn1_r : (kn0.Input 97).1 = (true : Bool) := by decide +kernel
theorem kn1_c {w0 w : World} {g0 g1 g2 : Nat} (h : Lines w0 w [] 3 (triN g0 g1 g2) (tri kn0 St.new St.new)) : Calls Try.prog 13 #[.pointer (some ⟨g0, 0, none⟩), .int .u8 97] w fun e w' => e = .returned (.bool true) ∧ Lines w0 w' [] 3 (triN g0 g1 g2) (tri kn1 St.new St.new) :=
  (ls_Input h (i := 0) (gi := g0) (by decide) rfl kn0_ok (b := 97) (by unfold Byte; decide)).mono fun e w' ⟨x, y, _⟩ => by
    refine ⟨x.trans (congrArg (fun b => Ending.returned (.bool b)) kn1_r), lines_congr y fun i hi => ?_⟩
    match i, hi with
    | 0, _ => exact ⟨rfl, rfl⟩
    | 1, _ => exact ⟨rfl, rfl⟩
    | 2, _ => exact ⟨rfl, rfl⟩
theorem kn2_r : kn1.Level = (true : Bool) := by decide +kernel
theorem kn2_c {w0 w : World} {g0 g1 g2 : Nat} (h : Lines w0 w [] 3 (triN g0 g1 g2) (tri kn1 St.new St.new)) : Calls Try.prog 18 #[.pointer (some ⟨g0, 0, none⟩)] w fun e w' => e = .returned (.bool true) ∧ Lines w0 w' [] 3 (triN g0 g1 g2) (tri kn1 St.new St.new) :=
  (ls_Level h (i := 0) (gi := g0) (by decide) rfl kn1_ok).mono fun e w' ⟨x, y, _⟩ => by
    refine ⟨x.trans (congrArg (fun b => Ending.returned (.bool b)) kn2_r), lines_congr y fun i hi => ?_⟩
    match i, hi with
    | 0, _ => exact ⟨rfl, rfl⟩
    | 1, _ => exact ⟨rfl, rfl⟩
    | 2, _ => exact ⟨rfl, rfl⟩
def kn3 : St := (kn1.Read 2 1).2.2
theorem kn3_ok : kn3.OK := (kn1_ok.Read 2 1).1
theorem kn3_r : kn1.reads 2 4 = (true : Bool) := by decide +kernel
theorem kn3_c {w0 w : World} {g0 g1 g2 : Nat} (h : Lines w0 w [] 3 (triN g0 g1 g2) (tri kn1 St.new St.new)) : Calls Try.prog 23 #[.pointer (some ⟨g0, 0, none⟩), .int .u64 2, .int .u64 4] w fun e w' => e = .returned (.bool true) ∧ Lines w0 w' [] 3 (triN g0 g1 g2) (tri kn3 St.new St.new) :=
  (ls_reads h (i := 0) (gi := g0) (by decide) rfl kn1_ok (off := 2) 4 (by decide) (by decide)).mono fun e w' ⟨x, y, _⟩ => by
    refine ⟨x.trans (congrArg (fun b => Ending.returned (.bool b)) kn3_r), lines_congr y fun i hi => ?_⟩
    match i, hi with
    | 0, _ => exact ⟨rfl, rfl⟩
    | 1, _ => exact ⟨rfl, rfl⟩
    | 2, _ => exact ⟨rfl, rfl⟩
def kn4 : St := (kn3.Read 0 1).2.2
theorem kn4_ok : kn4.OK := (kn3_ok.Read 0 1).1
theorem kn4_r : kn3.reads 0 97 = (true : Bool) := by decide +kernel
theorem kn4_c {w0 w : World} {g0 g1 g2 : Nat} (h : Lines w0 w [] 3 (triN g0 g1 g2) (tri kn3 St.new St.new)) : Calls Try.prog 23 #[.pointer (some ⟨g0, 0, none⟩), .int .u64 0, .int .u64 97] w fun e w' => e = .returned (.bool true) ∧ Lines w0 w' [] 3 (triN g0 g1 g2) (tri kn4 St.new St.new) :=
  (ls_reads h (i := 0) (gi := g0) (by decide) rfl kn3_ok (off := 0) 97 (by decide) (by decide)).mono fun e w' ⟨x, y, _⟩ => by
    refine ⟨x.trans (congrArg (fun b => Ending.returned (.bool b)) kn4_r), lines_congr y fun i hi => ?_⟩
    match i, hi with
    | 0, _ => exact ⟨rfl, rfl⟩
    | 1, _ => exact ⟨rfl, rfl⟩
    | 2, _ => exact ⟨rfl, rfl⟩
theorem kn5_r : kn4.Level = (false : Bool) := by decide +kernel
theorem kn5_c {w0 w : World} {g0 g1 g2 : Nat} (h : Lines w0 w [] 3 (triN g0 g1 g2) (tri kn4 St.new St.new)) : Calls Try.prog 18 #[.pointer (some ⟨g0, 0, none⟩)] w fun e w' => e = .returned (.bool false) ∧ Lines w0 w' [] 3 (triN g0 g1 g2) (tri kn4 St.new St.new) :=
  (ls_Level h (i := 0) (gi := g0) (by decide) rfl kn4_ok).mono fun e w' ⟨x, y, _⟩ => by
    refine ⟨x.trans (congrArg (fun b => Ending.returned (.bool b)) kn5_r), lines_congr y fun i hi => ?_⟩
    match i, hi with
    | 0, _ => exact ⟨rfl, rfl⟩
    | 1, _ => exact ⟨rfl, rfl⟩
    | 2, _ => exact ⟨rfl, rfl⟩
def kn6 : St := (kn4.Read 2 1).2.2
theorem kn6_ok : kn6.OK := (kn4_ok.Read 2 1).1
theorem kn6_r : kn4.reads 2 1 = (true : Bool) := by decide +kernel
theorem kn6_c {w0 w : World} {g0 g1 g2 : Nat} (h : Lines w0 w [] 3 (triN g0 g1 g2) (tri kn4 St.new St.new)) : Calls Try.prog 23 #[.pointer (some ⟨g0, 0, none⟩), .int .u64 2, .int .u64 1] w fun e w' => e = .returned (.bool true) ∧ Lines w0 w' [] 3 (triN g0 g1 g2) (tri kn6 St.new St.new) :=
  (ls_reads h (i := 0) (gi := g0) (by decide) rfl kn4_ok (off := 2) 1 (by decide) (by decide)).mono fun e w' ⟨x, y, _⟩ => by
    refine ⟨x.trans (congrArg (fun b => Ending.returned (.bool b)) kn6_r), lines_congr y fun i hi => ?_⟩
    match i, hi with
    | 0, _ => exact ⟨rfl, rfl⟩
    | 1, _ => exact ⟨rfl, rfl⟩
    | 2, _ => exact ⟨rfl, rfl⟩
def kn7 : St := (St.new.Input 99).2
theorem kn7_ok : kn7.OK := OK_new.Input (b := 99) (by unfold Byte; decide)
theorem kn7_r : (St.new.Input 99).1 = (true : Bool) := by decide +kernel
theorem kn7_c {w0 w : World} {g0 g1 g2 : Nat} (h : Lines w0 w [] 3 (triN g0 g1 g2) (tri kn6 St.new St.new)) : Calls Try.prog 13 #[.pointer (some ⟨g1, 0, none⟩), .int .u8 99] w fun e w' => e = .returned (.bool true) ∧ Lines w0 w' [] 3 (triN g0 g1 g2) (tri kn6 kn7 St.new) :=
  (ls_Input h (i := 1) (gi := g1) (by decide) rfl OK_new (b := 99) (by unfold Byte; decide)).mono fun e w' ⟨x, y, _⟩ => by
    refine ⟨x.trans (congrArg (fun b => Ending.returned (.bool b)) kn7_r), lines_congr y fun i hi => ?_⟩
    match i, hi with
    | 0, _ => exact ⟨rfl, rfl⟩
    | 1, _ => exact ⟨rfl, rfl⟩
    | 2, _ => exact ⟨rfl, rfl⟩
def kn8 : St := (kn7.Input 99).2
theorem kn8_ok : kn8.OK := kn7_ok.Input (b := 99) (by unfold Byte; decide)
theorem kn8_r : (kn7.Input 99).1 = (true : Bool) := by decide +kernel
theorem kn8_c {w0 w : World} {g0 g1 g2 : Nat} (h : Lines w0 w [] 3 (triN g0 g1 g2) (tri kn6 kn7 St.new)) : Calls Try.prog 13 #[.pointer (some ⟨g1, 0, none⟩), .int .u8 99] w fun e w' => e = .returned (.bool true) ∧ Lines w0 w' [] 3 (triN g0 g1 g2) (tri kn6 kn8 St.new) :=
  (ls_Input h (i := 1) (gi := g1) (by decide) rfl kn7_ok (b := 99) (by unfold Byte; decide)).mono fun e w' ⟨x, y, _⟩ => by
    refine ⟨x.trans (congrArg (fun b => Ending.returned (.bool b)) kn8_r), lines_congr y fun i hi => ?_⟩
    match i, hi with
    | 0, _ => exact ⟨rfl, rfl⟩
    | 1, _ => exact ⟨rfl, rfl⟩
    | 2, _ => exact ⟨rfl, rfl⟩
def kn9 : St := (kn8.Input 99).2
theorem kn9_ok : kn9.OK := kn8_ok.Input (b := 99) (by unfold Byte; decide)
theorem kn9_r : (kn8.Input 99).1 = (true : Bool) := by decide +kernel
theorem kn9_c {w0 w : World} {g0 g1 g2 : Nat} (h : Lines w0 w [] 3 (triN g0 g1 g2) (tri kn6 kn8 St.new)) : Calls Try.prog 13 #[.pointer (some ⟨g1, 0, none⟩), .int .u8 99] w fun e w' => e = .returned (.bool true) ∧ Lines w0 w' [] 3 (triN g0 g1 g2) (tri kn6 kn9 St.new) :=
  (ls_Input h (i := 1) (gi := g1) (by decide) rfl kn8_ok (b := 99) (by unfold Byte; decide)).mono fun e w' ⟨x, y, _⟩ => by
    refine ⟨x.trans (congrArg (fun b => Ending.returned (.bool b)) kn9_r), lines_congr y fun i hi => ?_⟩
    match i, hi with
    | 0, _ => exact ⟨rfl, rfl⟩
    | 1, _ => exact ⟨rfl, rfl⟩
    | 2, _ => exact ⟨rfl, rfl⟩
def kn10 : St := (kn9.Input 99).2
theorem kn10_ok : kn10.OK := kn9_ok.Input (b := 99) (by unfold Byte; decide)
theorem kn10_r : (kn9.Input 99).1 = (true : Bool) := by decide +kernel
theorem kn10_c {w0 w : World} {g0 g1 g2 : Nat} (h : Lines w0 w [] 3 (triN g0 g1 g2) (tri kn6 kn9 St.new)) : Calls Try.prog 13 #[.pointer (some ⟨g1, 0, none⟩), .int .u8 99] w fun e w' => e = .returned (.bool true) ∧ Lines w0 w' [] 3 (triN g0 g1 g2) (tri kn6 kn10 St.new) :=
  (ls_Input h (i := 1) (gi := g1) (by decide) rfl kn9_ok (b := 99) (by unfold Byte; decide)).mono fun e w' ⟨x, y, _⟩ => by
    refine ⟨x.trans (congrArg (fun b => Ending.returned (.bool b)) kn10_r), lines_congr y fun i hi => ?_⟩
    match i, hi with
    | 0, _ => exact ⟨rfl, rfl⟩
    | 1, _ => exact ⟨rfl, rfl⟩
    | 2, _ => exact ⟨rfl, rfl⟩
def kn11 : St := (kn10.Input 99).2
theorem kn11_ok : kn11.OK := kn10_ok.Input (b := 99) (by unfold Byte; decide)
theorem kn11_r : (kn10.Input 99).1 = (true : Bool) := by decide +kernel
theorem kn11_c {w0 w : World} {g0 g1 g2 : Nat} (h : Lines w0 w [] 3 (triN g0 g1 g2) (tri kn6 kn10 St.new)) : Calls Try.prog 13 #[.pointer (some ⟨g1, 0, none⟩), .int .u8 99] w fun e w' => e = .returned (.bool true) ∧ Lines w0 w' [] 3 (triN g0 g1 g2) (tri kn6 kn11 St.new) :=
  (ls_Input h (i := 1) (gi := g1) (by decide) rfl kn10_ok (b := 99) (by unfold Byte; decide)).mono fun e w' ⟨x, y, _⟩ => by
    refine ⟨x.trans (congrArg (fun b => Ending.returned (.bool b)) kn11_r), lines_congr y fun i hi => ?_⟩
    match i, hi with
    | 0, _ => exact ⟨rfl, rfl⟩
    | 1, _ => exact ⟨rfl, rfl⟩
    | 2, _ => exact ⟨rfl, rfl⟩
def kn12 : St := (kn11.Input 99).2
theorem kn12_ok : kn12.OK := kn11_ok.Input (b := 99) (by unfold Byte; decide)
theorem kn12_r : (kn11.Input 99).1 = (true : Bool) := by decide +kernel
theorem kn12_c {w0 w : World} {g0 g1 g2 : Nat} (h : Lines w0 w [] 3 (triN g0 g1 g2) (tri kn6 kn11 St.new)) : Calls Try.prog 13 #[.pointer (some ⟨g1, 0, none⟩), .int .u8 99] w fun e w' => e = .returned (.bool true) ∧ Lines w0 w' [] 3 (triN g0 g1 g2) (tri kn6 kn12 St.new) :=
  (ls_Input h (i := 1) (gi := g1) (by decide) rfl kn11_ok (b := 99) (by unfold Byte; decide)).mono fun e w' ⟨x, y, _⟩ => by
    refine ⟨x.trans (congrArg (fun b => Ending.returned (.bool b)) kn12_r), lines_congr y fun i hi => ?_⟩
    match i, hi with
    | 0, _ => exact ⟨rfl, rfl⟩
    | 1, _ => exact ⟨rfl, rfl⟩
    | 2, _ => exact ⟨rfl, rfl⟩
def kn13 : St := (kn12.Input 99).2
theorem kn13_ok : kn13.OK := kn12_ok.Input (b := 99) (by unfold Byte; decide)
theorem kn13_r : (kn12.Input 99).1 = (true : Bool) := by decide +kernel
theorem kn13_c {w0 w : World} {g0 g1 g2 : Nat} (h : Lines w0 w [] 3 (triN g0 g1 g2) (tri kn6 kn12 St.new)) : Calls Try.prog 13 #[.pointer (some ⟨g1, 0, none⟩), .int .u8 99] w fun e w' => e = .returned (.bool true) ∧ Lines w0 w' [] 3 (triN g0 g1 g2) (tri kn6 kn13 St.new) :=
  (ls_Input h (i := 1) (gi := g1) (by decide) rfl kn12_ok (b := 99) (by unfold Byte; decide)).mono fun e w' ⟨x, y, _⟩ => by
    refine ⟨x.trans (congrArg (fun b => Ending.returned (.bool b)) kn13_r), lines_congr y fun i hi => ?_⟩
    match i, hi with
    | 0, _ => exact ⟨rfl, rfl⟩
    | 1, _ => exact ⟨rfl, rfl⟩
    | 2, _ => exact ⟨rfl, rfl⟩
def kn14 : St := (kn13.Input 99).2
theorem kn14_ok : kn14.OK := kn13_ok.Input (b := 99) (by unfold Byte; decide)
theorem kn14_r : (kn13.Input 99).1 = (true : Bool) := by decide +kernel
theorem kn14_c {w0 w : World} {g0 g1 g2 : Nat} (h : Lines w0 w [] 3 (triN g0 g1 g2) (tri kn6 kn13 St.new)) : Calls Try.prog 13 #[.pointer (some ⟨g1, 0, none⟩), .int .u8 99] w fun e w' => e = .returned (.bool true) ∧ Lines w0 w' [] 3 (triN g0 g1 g2) (tri kn6 kn14 St.new) :=
  (ls_Input h (i := 1) (gi := g1) (by decide) rfl kn13_ok (b := 99) (by unfold Byte; decide)).mono fun e w' ⟨x, y, _⟩ => by
    refine ⟨x.trans (congrArg (fun b => Ending.returned (.bool b)) kn14_r), lines_congr y fun i hi => ?_⟩
    match i, hi with
    | 0, _ => exact ⟨rfl, rfl⟩
    | 1, _ => exact ⟨rfl, rfl⟩
    | 2, _ => exact ⟨rfl, rfl⟩
def kn15 : St := (kn14.Input 99).2
theorem kn15_ok : kn15.OK := kn14_ok.Input (b := 99) (by unfold Byte; decide)
theorem kn15_r : (kn14.Input 99).1 = (true : Bool) := by decide +kernel
theorem kn15_c {w0 w : World} {g0 g1 g2 : Nat} (h : Lines w0 w [] 3 (triN g0 g1 g2) (tri kn6 kn14 St.new)) : Calls Try.prog 13 #[.pointer (some ⟨g1, 0, none⟩), .int .u8 99] w fun e w' => e = .returned (.bool true) ∧ Lines w0 w' [] 3 (triN g0 g1 g2) (tri kn6 kn15 St.new) :=
  (ls_Input h (i := 1) (gi := g1) (by decide) rfl kn14_ok (b := 99) (by unfold Byte; decide)).mono fun e w' ⟨x, y, _⟩ => by
    refine ⟨x.trans (congrArg (fun b => Ending.returned (.bool b)) kn15_r), lines_congr y fun i hi => ?_⟩
    match i, hi with
    | 0, _ => exact ⟨rfl, rfl⟩
    | 1, _ => exact ⟨rfl, rfl⟩
    | 2, _ => exact ⟨rfl, rfl⟩
def kn16 : St := (kn15.Input 99).2
theorem kn16_ok : kn16.OK := kn15_ok.Input (b := 99) (by unfold Byte; decide)
theorem kn16_r : (kn15.Input 99).1 = (true : Bool) := by decide +kernel
theorem kn16_c {w0 w : World} {g0 g1 g2 : Nat} (h : Lines w0 w [] 3 (triN g0 g1 g2) (tri kn6 kn15 St.new)) : Calls Try.prog 13 #[.pointer (some ⟨g1, 0, none⟩), .int .u8 99] w fun e w' => e = .returned (.bool true) ∧ Lines w0 w' [] 3 (triN g0 g1 g2) (tri kn6 kn16 St.new) :=
  (ls_Input h (i := 1) (gi := g1) (by decide) rfl kn15_ok (b := 99) (by unfold Byte; decide)).mono fun e w' ⟨x, y, _⟩ => by
    refine ⟨x.trans (congrArg (fun b => Ending.returned (.bool b)) kn16_r), lines_congr y fun i hi => ?_⟩
    match i, hi with
    | 0, _ => exact ⟨rfl, rfl⟩
    | 1, _ => exact ⟨rfl, rfl⟩
    | 2, _ => exact ⟨rfl, rfl⟩
def kn17 : St := (kn16.Input 99).2
theorem kn17_ok : kn17.OK := kn16_ok.Input (b := 99) (by unfold Byte; decide)
theorem kn17_r : (kn16.Input 99).1 = (true : Bool) := by decide +kernel
theorem kn17_c {w0 w : World} {g0 g1 g2 : Nat} (h : Lines w0 w [] 3 (triN g0 g1 g2) (tri kn6 kn16 St.new)) : Calls Try.prog 13 #[.pointer (some ⟨g1, 0, none⟩), .int .u8 99] w fun e w' => e = .returned (.bool true) ∧ Lines w0 w' [] 3 (triN g0 g1 g2) (tri kn6 kn17 St.new) :=
  (ls_Input h (i := 1) (gi := g1) (by decide) rfl kn16_ok (b := 99) (by unfold Byte; decide)).mono fun e w' ⟨x, y, _⟩ => by
    refine ⟨x.trans (congrArg (fun b => Ending.returned (.bool b)) kn17_r), lines_congr y fun i hi => ?_⟩
    match i, hi with
    | 0, _ => exact ⟨rfl, rfl⟩
    | 1, _ => exact ⟨rfl, rfl⟩
    | 2, _ => exact ⟨rfl, rfl⟩
def kn18 : St := (kn17.Input 99).2
theorem kn18_ok : kn18.OK := kn17_ok.Input (b := 99) (by unfold Byte; decide)
theorem kn18_r : (kn17.Input 99).1 = (true : Bool) := by decide +kernel
theorem kn18_c {w0 w : World} {g0 g1 g2 : Nat} (h : Lines w0 w [] 3 (triN g0 g1 g2) (tri kn6 kn17 St.new)) : Calls Try.prog 13 #[.pointer (some ⟨g1, 0, none⟩), .int .u8 99] w fun e w' => e = .returned (.bool true) ∧ Lines w0 w' [] 3 (triN g0 g1 g2) (tri kn6 kn18 St.new) :=
  (ls_Input h (i := 1) (gi := g1) (by decide) rfl kn17_ok (b := 99) (by unfold Byte; decide)).mono fun e w' ⟨x, y, _⟩ => by
    refine ⟨x.trans (congrArg (fun b => Ending.returned (.bool b)) kn18_r), lines_congr y fun i hi => ?_⟩
    match i, hi with
    | 0, _ => exact ⟨rfl, rfl⟩
    | 1, _ => exact ⟨rfl, rfl⟩
    | 2, _ => exact ⟨rfl, rfl⟩
def kn19 : St := (kn18.Input 99).2
theorem kn19_ok : kn19.OK := kn18_ok.Input (b := 99) (by unfold Byte; decide)
theorem kn19_r : (kn18.Input 99).1 = (true : Bool) := by decide +kernel
theorem kn19_c {w0 w : World} {g0 g1 g2 : Nat} (h : Lines w0 w [] 3 (triN g0 g1 g2) (tri kn6 kn18 St.new)) : Calls Try.prog 13 #[.pointer (some ⟨g1, 0, none⟩), .int .u8 99] w fun e w' => e = .returned (.bool true) ∧ Lines w0 w' [] 3 (triN g0 g1 g2) (tri kn6 kn19 St.new) :=
  (ls_Input h (i := 1) (gi := g1) (by decide) rfl kn18_ok (b := 99) (by unfold Byte; decide)).mono fun e w' ⟨x, y, _⟩ => by
    refine ⟨x.trans (congrArg (fun b => Ending.returned (.bool b)) kn19_r), lines_congr y fun i hi => ?_⟩
    match i, hi with
    | 0, _ => exact ⟨rfl, rfl⟩
    | 1, _ => exact ⟨rfl, rfl⟩
    | 2, _ => exact ⟨rfl, rfl⟩
def kn20 : St := (kn19.Input 99).2
theorem kn20_ok : kn20.OK := kn19_ok.Input (b := 99) (by unfold Byte; decide)
theorem kn20_r : (kn19.Input 99).1 = (true : Bool) := by decide +kernel
theorem kn20_c {w0 w : World} {g0 g1 g2 : Nat} (h : Lines w0 w [] 3 (triN g0 g1 g2) (tri kn6 kn19 St.new)) : Calls Try.prog 13 #[.pointer (some ⟨g1, 0, none⟩), .int .u8 99] w fun e w' => e = .returned (.bool true) ∧ Lines w0 w' [] 3 (triN g0 g1 g2) (tri kn6 kn20 St.new) :=
  (ls_Input h (i := 1) (gi := g1) (by decide) rfl kn19_ok (b := 99) (by unfold Byte; decide)).mono fun e w' ⟨x, y, _⟩ => by
    refine ⟨x.trans (congrArg (fun b => Ending.returned (.bool b)) kn20_r), lines_congr y fun i hi => ?_⟩
    match i, hi with
    | 0, _ => exact ⟨rfl, rfl⟩
    | 1, _ => exact ⟨rfl, rfl⟩
    | 2, _ => exact ⟨rfl, rfl⟩
def kn21 : St := (kn20.Input 99).2
theorem kn21_ok : kn21.OK := kn20_ok.Input (b := 99) (by unfold Byte; decide)
theorem kn21_r : (kn20.Input 99).1 = (true : Bool) := by decide +kernel
theorem kn21_c {w0 w : World} {g0 g1 g2 : Nat} (h : Lines w0 w [] 3 (triN g0 g1 g2) (tri kn6 kn20 St.new)) : Calls Try.prog 13 #[.pointer (some ⟨g1, 0, none⟩), .int .u8 99] w fun e w' => e = .returned (.bool true) ∧ Lines w0 w' [] 3 (triN g0 g1 g2) (tri kn6 kn21 St.new) :=
  (ls_Input h (i := 1) (gi := g1) (by decide) rfl kn20_ok (b := 99) (by unfold Byte; decide)).mono fun e w' ⟨x, y, _⟩ => by
    refine ⟨x.trans (congrArg (fun b => Ending.returned (.bool b)) kn21_r), lines_congr y fun i hi => ?_⟩
    match i, hi with
    | 0, _ => exact ⟨rfl, rfl⟩
    | 1, _ => exact ⟨rfl, rfl⟩
    | 2, _ => exact ⟨rfl, rfl⟩
def kn22 : St := (kn21.Input 99).2
theorem kn22_ok : kn22.OK := kn21_ok.Input (b := 99) (by unfold Byte; decide)
theorem kn22_r : (kn21.Input 99).1 = (true : Bool) := by decide +kernel
theorem kn22_c {w0 w : World} {g0 g1 g2 : Nat} (h : Lines w0 w [] 3 (triN g0 g1 g2) (tri kn6 kn21 St.new)) : Calls Try.prog 13 #[.pointer (some ⟨g1, 0, none⟩), .int .u8 99] w fun e w' => e = .returned (.bool true) ∧ Lines w0 w' [] 3 (triN g0 g1 g2) (tri kn6 kn22 St.new) :=
  (ls_Input h (i := 1) (gi := g1) (by decide) rfl kn21_ok (b := 99) (by unfold Byte; decide)).mono fun e w' ⟨x, y, _⟩ => by
    refine ⟨x.trans (congrArg (fun b => Ending.returned (.bool b)) kn22_r), lines_congr y fun i hi => ?_⟩
    match i, hi with
    | 0, _ => exact ⟨rfl, rfl⟩
    | 1, _ => exact ⟨rfl, rfl⟩
    | 2, _ => exact ⟨rfl, rfl⟩
def kn23 : St := (kn22.Input 100).2
theorem kn23_ok : kn23.OK := kn22_ok.Input (b := 100) (by unfold Byte; decide)
theorem kn23_r : (kn22.Input 100).1 = (false : Bool) := by decide +kernel
theorem kn23_c {w0 w : World} {g0 g1 g2 : Nat} (h : Lines w0 w [] 3 (triN g0 g1 g2) (tri kn6 kn22 St.new)) : Calls Try.prog 13 #[.pointer (some ⟨g1, 0, none⟩), .int .u8 100] w fun e w' => e = .returned (.bool false) ∧ Lines w0 w' [] 3 (triN g0 g1 g2) (tri kn6 kn23 St.new) :=
  (ls_Input h (i := 1) (gi := g1) (by decide) rfl kn22_ok (b := 100) (by unfold Byte; decide)).mono fun e w' ⟨x, y, _⟩ => by
    refine ⟨x.trans (congrArg (fun b => Ending.returned (.bool b)) kn23_r), lines_congr y fun i hi => ?_⟩
    match i, hi with
    | 0, _ => exact ⟨rfl, rfl⟩
    | 1, _ => exact ⟨rfl, rfl⟩
    | 2, _ => exact ⟨rfl, rfl⟩
theorem kn24_r : (kn23.q.length : Int) = (16 : Int) := by decide +kernel
theorem kn24_c {w0 w : World} {g0 g1 g2 : Nat} (h : Lines w0 w [] 3 (triN g0 g1 g2) (tri kn6 kn23 St.new)) : Calls Try.prog 10 #[.pointer (some ⟨g1, 0, none⟩)] w fun e w' => e = .returned (.int .i64 16) ∧ Lines w0 w' [] 3 (triN g0 g1 g2) (tri kn6 kn23 St.new) :=
  (ls_Waiting h (i := 1) (gi := g1) (by decide) rfl kn23_ok).mono fun e w' ⟨x, y, _⟩ => by
    refine ⟨x.trans (congrArg (fun b => Ending.returned (.int .i64 b)) kn24_r), lines_congr y fun i hi => ?_⟩
    match i, hi with
    | 0, _ => exact ⟨rfl, rfl⟩
    | 1, _ => exact ⟨rfl, rfl⟩
    | 2, _ => exact ⟨rfl, rfl⟩
theorem kn25_l : kn23.sent.length ≤ 1000000 := by decide +kernel
def kn25 : St := (kn23.Write 1 1 4).2
theorem kn25_ok : kn25.OK := kn23_ok.Write 1 1 4
theorem kn25_r : (kn23.Write 1 1 4).1 = (true : Bool) := by decide +kernel
theorem kn25_c {w0 w : World} {g0 g1 g2 : Nat} (h : Lines w0 w [] 3 (triN g0 g1 g2) (tri kn6 kn23 St.new)) : Calls Try.prog 12 #[.pointer (some ⟨g1, 0, none⟩), .int .u64 1, .int .i64 1, .int .u64 4] w fun e w' => e = .returned (.bool true) ∧ Lines w0 w' [] 3 (triN g0 g1 g2) (tri kn6 kn25 St.new) :=
  (ls_Write h (i := 1) (gi := g1) (by decide) rfl kn23_ok 1 (off := 1) (v := 4) (by decide) (by decide) (by decide) (by decide) kn25_l).mono fun e w' ⟨x, y, _⟩ => by
    refine ⟨x.trans (congrArg (fun b => Ending.returned (.bool b)) kn25_r), lines_congr y fun i hi => ?_⟩
    match i, hi with
    | 0, _ => exact ⟨rfl, rfl⟩
    | 1, _ => exact ⟨rfl, rfl⟩
    | 2, _ => exact ⟨rfl, rfl⟩
theorem kn26_r : kn25.Level = (true : Bool) := by decide +kernel
theorem kn26_c {w0 w : World} {g0 g1 g2 : Nat} (h : Lines w0 w [] 3 (triN g0 g1 g2) (tri kn6 kn25 St.new)) : Calls Try.prog 18 #[.pointer (some ⟨g1, 0, none⟩)] w fun e w' => e = .returned (.bool true) ∧ Lines w0 w' [] 3 (triN g0 g1 g2) (tri kn6 kn25 St.new) :=
  (ls_Level h (i := 1) (gi := g1) (by decide) rfl kn25_ok).mono fun e w' ⟨x, y, _⟩ => by
    refine ⟨x.trans (congrArg (fun b => Ending.returned (.bool b)) kn26_r), lines_congr y fun i hi => ?_⟩
    match i, hi with
    | 0, _ => exact ⟨rfl, rfl⟩
    | 1, _ => exact ⟨rfl, rfl⟩
    | 2, _ => exact ⟨rfl, rfl⟩
def kn27 : St := (kn25.Read 2 1).2.2
theorem kn27_ok : kn27.OK := (kn25_ok.Read 2 1).1
theorem kn27_r : kn25.reads 2 6 = (true : Bool) := by decide +kernel
theorem kn27_c {w0 w : World} {g0 g1 g2 : Nat} (h : Lines w0 w [] 3 (triN g0 g1 g2) (tri kn6 kn25 St.new)) : Calls Try.prog 23 #[.pointer (some ⟨g1, 0, none⟩), .int .u64 2, .int .u64 6] w fun e w' => e = .returned (.bool true) ∧ Lines w0 w' [] 3 (triN g0 g1 g2) (tri kn6 kn27 St.new) :=
  (ls_reads h (i := 1) (gi := g1) (by decide) rfl kn25_ok (off := 2) 6 (by decide) (by decide)).mono fun e w' ⟨x, y, _⟩ => by
    refine ⟨x.trans (congrArg (fun b => Ending.returned (.bool b)) kn27_r), lines_congr y fun i hi => ?_⟩
    match i, hi with
    | 0, _ => exact ⟨rfl, rfl⟩
    | 1, _ => exact ⟨rfl, rfl⟩
    | 2, _ => exact ⟨rfl, rfl⟩
def kn28 : St := (kn27.Read 5 1).2.2
theorem kn28_ok : kn28.OK := (kn27_ok.Read 5 1).1
theorem kn28_r : kn27.reads 5 99 = (true : Bool) := by decide +kernel
theorem kn28_c {w0 w : World} {g0 g1 g2 : Nat} (h : Lines w0 w [] 3 (triN g0 g1 g2) (tri kn6 kn27 St.new)) : Calls Try.prog 23 #[.pointer (some ⟨g1, 0, none⟩), .int .u64 5, .int .u64 99] w fun e w' => e = .returned (.bool true) ∧ Lines w0 w' [] 3 (triN g0 g1 g2) (tri kn6 kn28 St.new) :=
  (ls_reads h (i := 1) (gi := g1) (by decide) rfl kn27_ok (off := 5) 99 (by decide) (by decide)).mono fun e w' ⟨x, y, _⟩ => by
    refine ⟨x.trans (congrArg (fun b => Ending.returned (.bool b)) kn28_r), lines_congr y fun i hi => ?_⟩
    match i, hi with
    | 0, _ => exact ⟨rfl, rfl⟩
    | 1, _ => exact ⟨rfl, rfl⟩
    | 2, _ => exact ⟨rfl, rfl⟩
def kn29 : St := (kn28.Read 5 1).2.2
theorem kn29_ok : kn29.OK := (kn28_ok.Read 5 1).1
theorem kn29_r : kn28.reads 5 97 = (true : Bool) := by decide +kernel
theorem kn29_c {w0 w : World} {g0 g1 g2 : Nat} (h : Lines w0 w [] 3 (triN g0 g1 g2) (tri kn6 kn28 St.new)) : Calls Try.prog 23 #[.pointer (some ⟨g1, 0, none⟩), .int .u64 5, .int .u64 97] w fun e w' => e = .returned (.bool true) ∧ Lines w0 w' [] 3 (triN g0 g1 g2) (tri kn6 kn29 St.new) :=
  (ls_reads h (i := 1) (gi := g1) (by decide) rfl kn28_ok (off := 5) 97 (by decide) (by decide)).mono fun e w' ⟨x, y, _⟩ => by
    refine ⟨x.trans (congrArg (fun b => Ending.returned (.bool b)) kn29_r), lines_congr y fun i hi => ?_⟩
    match i, hi with
    | 0, _ => exact ⟨rfl, rfl⟩
    | 1, _ => exact ⟨rfl, rfl⟩
    | 2, _ => exact ⟨rfl, rfl⟩
theorem kn30_r : kn29.Level = (false : Bool) := by decide +kernel
theorem kn30_c {w0 w : World} {g0 g1 g2 : Nat} (h : Lines w0 w [] 3 (triN g0 g1 g2) (tri kn6 kn29 St.new)) : Calls Try.prog 18 #[.pointer (some ⟨g1, 0, none⟩)] w fun e w' => e = .returned (.bool false) ∧ Lines w0 w' [] 3 (triN g0 g1 g2) (tri kn6 kn29 St.new) :=
  (ls_Level h (i := 1) (gi := g1) (by decide) rfl kn29_ok).mono fun e w' ⟨x, y, _⟩ => by
    refine ⟨x.trans (congrArg (fun b => Ending.returned (.bool b)) kn30_r), lines_congr y fun i hi => ?_⟩
    match i, hi with
    | 0, _ => exact ⟨rfl, rfl⟩
    | 1, _ => exact ⟨rfl, rfl⟩
    | 2, _ => exact ⟨rfl, rfl⟩
theorem kn31_l : kn29.sent.length ≤ 1000000 := by decide +kernel
def kn31 : St := (kn29.Write 2 1 3).2
theorem kn31_ok : kn31.OK := kn29_ok.Write 2 1 3
theorem kn31_r : (kn29.Write 2 1 3).1 = (true : Bool) := by decide +kernel
theorem kn31_c {w0 w : World} {g0 g1 g2 : Nat} (h : Lines w0 w [] 3 (triN g0 g1 g2) (tri kn6 kn29 St.new)) : Calls Try.prog 12 #[.pointer (some ⟨g1, 0, none⟩), .int .u64 2, .int .i64 1, .int .u64 3] w fun e w' => e = .returned (.bool true) ∧ Lines w0 w' [] 3 (triN g0 g1 g2) (tri kn6 kn31 St.new) :=
  (ls_Write h (i := 1) (gi := g1) (by decide) rfl kn29_ok 1 (off := 2) (v := 3) (by decide) (by decide) (by decide) (by decide) kn31_l).mono fun e w' ⟨x, y, _⟩ => by
    refine ⟨x.trans (congrArg (fun b => Ending.returned (.bool b)) kn31_r), lines_congr y fun i hi => ?_⟩
    match i, hi with
    | 0, _ => exact ⟨rfl, rfl⟩
    | 1, _ => exact ⟨rfl, rfl⟩
    | 2, _ => exact ⟨rfl, rfl⟩
theorem kn32_r : (kn31.q.length : Int) = (0 : Int) := by decide +kernel
theorem kn32_c {w0 w : World} {g0 g1 g2 : Nat} (h : Lines w0 w [] 3 (triN g0 g1 g2) (tri kn6 kn31 St.new)) : Calls Try.prog 10 #[.pointer (some ⟨g1, 0, none⟩)] w fun e w' => e = .returned (.int .i64 0) ∧ Lines w0 w' [] 3 (triN g0 g1 g2) (tri kn6 kn31 St.new) :=
  (ls_Waiting h (i := 1) (gi := g1) (by decide) rfl kn31_ok).mono fun e w' ⟨x, y, _⟩ => by
    refine ⟨x.trans (congrArg (fun b => Ending.returned (.int .i64 b)) kn32_r), lines_congr y fun i hi => ?_⟩
    match i, hi with
    | 0, _ => exact ⟨rfl, rfl⟩
    | 1, _ => exact ⟨rfl, rfl⟩
    | 2, _ => exact ⟨rfl, rfl⟩
def kn33 : St := (kn31.Read 2 1).2.2
theorem kn33_ok : kn33.OK := (kn31_ok.Read 2 1).1
theorem kn33_r : kn31.reads 2 193 = (true : Bool) := by decide +kernel
theorem kn33_c {w0 w : World} {g0 g1 g2 : Nat} (h : Lines w0 w [] 3 (triN g0 g1 g2) (tri kn6 kn31 St.new)) : Calls Try.prog 23 #[.pointer (some ⟨g1, 0, none⟩), .int .u64 2, .int .u64 193] w fun e w' => e = .returned (.bool true) ∧ Lines w0 w' [] 3 (triN g0 g1 g2) (tri kn6 kn33 St.new) :=
  (ls_reads h (i := 1) (gi := g1) (by decide) rfl kn31_ok (off := 2) 193 (by decide) (by decide)).mono fun e w' ⟨x, y, _⟩ => by
    refine ⟨x.trans (congrArg (fun b => Ending.returned (.bool b)) kn33_r), lines_congr y fun i hi => ?_⟩
    match i, hi with
    | 0, _ => exact ⟨rfl, rfl⟩
    | 1, _ => exact ⟨rfl, rfl⟩
    | 2, _ => exact ⟨rfl, rfl⟩
theorem kn34_l : St.new.sent.length ≤ 1000000 := by decide +kernel
def kn34 : St := (St.new.Write 0 1 120).2
theorem kn34_ok : kn34.OK := OK_new.Write 0 1 120
theorem kn34_r : (St.new.Write 0 1 120).1 = (true : Bool) := by decide +kernel
theorem kn34_c {w0 w : World} {g0 g1 g2 : Nat} (h : Lines w0 w [] 3 (triN g0 g1 g2) (tri kn6 kn33 St.new)) : Calls Try.prog 12 #[.pointer (some ⟨g2, 0, none⟩), .int .u64 0, .int .i64 1, .int .u64 120] w fun e w' => e = .returned (.bool true) ∧ Lines w0 w' [] 3 (triN g0 g1 g2) (tri kn6 kn33 kn34) :=
  (ls_Write h (i := 2) (gi := g2) (by decide) rfl OK_new 1 (off := 0) (v := 120) (by decide) (by decide) (by decide) (by decide) kn34_l).mono fun e w' ⟨x, y, _⟩ => by
    refine ⟨x.trans (congrArg (fun b => Ending.returned (.bool b)) kn34_r), lines_congr y fun i hi => ?_⟩
    match i, hi with
    | 0, _ => exact ⟨rfl, rfl⟩
    | 1, _ => exact ⟨rfl, rfl⟩
    | 2, _ => exact ⟨rfl, rfl⟩
def kn35 : St := kn34.Take.2
theorem kn35_ok : kn35.OK := kn34_ok.Take
theorem kn35_r : strOfNums kn34.Take.1 = ({ data := #[120] } : ByteArray) := by decide +kernel
theorem kn35_c {w0 w : World} {g0 g1 g2 : Nat} (h : Lines w0 w [] 3 (triN g0 g1 g2) (tri kn6 kn33 kn34)) : Calls Try.prog 14 #[.pointer (some ⟨g2, 0, none⟩)] w fun e w' => e = .returned (.string { data := #[120] }) ∧ Lines w0 w' [] 3 (triN g0 g1 g2) (tri kn6 kn33 kn35) :=
  (ls_Take h (i := 2) (gi := g2) (by decide) rfl kn34_ok).mono fun e w' ⟨x, y, _⟩ => by
    refine ⟨x.trans (congrArg (fun b => Ending.returned (.string b)) kn35_r), lines_congr y fun i hi => ?_⟩
    match i, hi with
    | 0, _ => exact ⟨rfl, rfl⟩
    | 1, _ => exact ⟨rfl, rfl⟩
    | 2, _ => exact ⟨rfl, rfl⟩
def kn36 : St := kn35.Take.2
theorem kn36_ok : kn36.OK := kn35_ok.Take
theorem kn36_r : strOfNums kn35.Take.1 = ({ data := #[] } : ByteArray) := by decide +kernel
theorem kn36_c {w0 w : World} {g0 g1 g2 : Nat} (h : Lines w0 w [] 3 (triN g0 g1 g2) (tri kn6 kn33 kn35)) : Calls Try.prog 14 #[.pointer (some ⟨g2, 0, none⟩)] w fun e w' => e = .returned (.string { data := #[] }) ∧ Lines w0 w' [] 3 (triN g0 g1 g2) (tri kn6 kn33 kn36) :=
  (ls_Take h (i := 2) (gi := g2) (by decide) rfl kn35_ok).mono fun e w' ⟨x, y, _⟩ => by
    refine ⟨x.trans (congrArg (fun b => Ending.returned (.string b)) kn36_r), lines_congr y fun i hi => ?_⟩
    match i, hi with
    | 0, _ => exact ⟨rfl, rfl⟩
    | 1, _ => exact ⟨rfl, rfl⟩
    | 2, _ => exact ⟨rfl, rfl⟩
theorem kn37_l : kn36.sent.length ≤ 1000000 := by decide +kernel
def kn37 : St := (kn36.Write 1 1 2).2
theorem kn37_ok : kn37.OK := kn36_ok.Write 1 1 2
theorem kn37_r : (kn36.Write 1 1 2).1 = (true : Bool) := by decide +kernel
theorem kn37_c {w0 w : World} {g0 g1 g2 : Nat} (h : Lines w0 w [] 3 (triN g0 g1 g2) (tri kn6 kn33 kn36)) : Calls Try.prog 12 #[.pointer (some ⟨g2, 0, none⟩), .int .u64 1, .int .i64 1, .int .u64 2] w fun e w' => e = .returned (.bool true) ∧ Lines w0 w' [] 3 (triN g0 g1 g2) (tri kn6 kn33 kn37) :=
  (ls_Write h (i := 2) (gi := g2) (by decide) rfl kn36_ok 1 (off := 1) (v := 2) (by decide) (by decide) (by decide) (by decide) kn37_l).mono fun e w' ⟨x, y, _⟩ => by
    refine ⟨x.trans (congrArg (fun b => Ending.returned (.bool b)) kn37_r), lines_congr y fun i hi => ?_⟩
    match i, hi with
    | 0, _ => exact ⟨rfl, rfl⟩
    | 1, _ => exact ⟨rfl, rfl⟩
    | 2, _ => exact ⟨rfl, rfl⟩
def kn38 : St := (kn37.Read 2 1).2.2
theorem kn38_ok : kn38.OK := (kn37_ok.Read 2 1).1
theorem kn38_r : kn37.reads 2 2 = (true : Bool) := by decide +kernel
theorem kn38_c {w0 w : World} {g0 g1 g2 : Nat} (h : Lines w0 w [] 3 (triN g0 g1 g2) (tri kn6 kn33 kn37)) : Calls Try.prog 23 #[.pointer (some ⟨g2, 0, none⟩), .int .u64 2, .int .u64 2] w fun e w' => e = .returned (.bool true) ∧ Lines w0 w' [] 3 (triN g0 g1 g2) (tri kn6 kn33 kn38) :=
  (ls_reads h (i := 2) (gi := g2) (by decide) rfl kn37_ok (off := 2) 2 (by decide) (by decide)).mono fun e w' ⟨x, y, _⟩ => by
    refine ⟨x.trans (congrArg (fun b => Ending.returned (.bool b)) kn38_r), lines_congr y fun i hi => ?_⟩
    match i, hi with
    | 0, _ => exact ⟨rfl, rfl⟩
    | 1, _ => exact ⟨rfl, rfl⟩
    | 2, _ => exact ⟨rfl, rfl⟩
def kn39 : St := (kn38.Read 2 1).2.2
theorem kn39_ok : kn39.OK := (kn38_ok.Read 2 1).1
theorem kn39_r : kn38.reads 2 1 = (true : Bool) := by decide +kernel
theorem kn39_c {w0 w : World} {g0 g1 g2 : Nat} (h : Lines w0 w [] 3 (triN g0 g1 g2) (tri kn6 kn33 kn38)) : Calls Try.prog 23 #[.pointer (some ⟨g2, 0, none⟩), .int .u64 2, .int .u64 1] w fun e w' => e = .returned (.bool true) ∧ Lines w0 w' [] 3 (triN g0 g1 g2) (tri kn6 kn33 kn39) :=
  (ls_reads h (i := 2) (gi := g2) (by decide) rfl kn38_ok (off := 2) 1 (by decide) (by decide)).mono fun e w' ⟨x, y, _⟩ => by
    refine ⟨x.trans (congrArg (fun b => Ending.returned (.bool b)) kn39_r), lines_congr y fun i hi => ?_⟩
    match i, hi with
    | 0, _ => exact ⟨rfl, rfl⟩
    | 1, _ => exact ⟨rfl, rfl⟩
    | 2, _ => exact ⟨rfl, rfl⟩
theorem kn40_l : kn39.sent.length ≤ 1000000 := by decide +kernel
def kn40 : St := (kn39.Write 3 1 128).2
theorem kn40_ok : kn40.OK := kn39_ok.Write 3 1 128
theorem kn40_r : (kn39.Write 3 1 128).1 = (true : Bool) := by decide +kernel
theorem kn40_c {w0 w : World} {g0 g1 g2 : Nat} (h : Lines w0 w [] 3 (triN g0 g1 g2) (tri kn6 kn33 kn39)) : Calls Try.prog 12 #[.pointer (some ⟨g2, 0, none⟩), .int .u64 3, .int .i64 1, .int .u64 128] w fun e w' => e = .returned (.bool true) ∧ Lines w0 w' [] 3 (triN g0 g1 g2) (tri kn6 kn33 kn40) :=
  (ls_Write h (i := 2) (gi := g2) (by decide) rfl kn39_ok 1 (off := 3) (v := 128) (by decide) (by decide) (by decide) (by decide) kn40_l).mono fun e w' ⟨x, y, _⟩ => by
    refine ⟨x.trans (congrArg (fun b => Ending.returned (.bool b)) kn40_r), lines_congr y fun i hi => ?_⟩
    match i, hi with
    | 0, _ => exact ⟨rfl, rfl⟩
    | 1, _ => exact ⟨rfl, rfl⟩
    | 2, _ => exact ⟨rfl, rfl⟩
theorem kn41_l : kn40.sent.length ≤ 1000000 := by decide +kernel
def kn41 : St := (kn40.Write 0 1 5).2
theorem kn41_ok : kn41.OK := kn40_ok.Write 0 1 5
theorem kn41_r : (kn40.Write 0 1 5).1 = (true : Bool) := by decide +kernel
theorem kn41_c {w0 w : World} {g0 g1 g2 : Nat} (h : Lines w0 w [] 3 (triN g0 g1 g2) (tri kn6 kn33 kn40)) : Calls Try.prog 12 #[.pointer (some ⟨g2, 0, none⟩), .int .u64 0, .int .i64 1, .int .u64 5] w fun e w' => e = .returned (.bool true) ∧ Lines w0 w' [] 3 (triN g0 g1 g2) (tri kn6 kn33 kn41) :=
  (ls_Write h (i := 2) (gi := g2) (by decide) rfl kn40_ok 1 (off := 0) (v := 5) (by decide) (by decide) (by decide) (by decide) kn41_l).mono fun e w' ⟨x, y, _⟩ => by
    refine ⟨x.trans (congrArg (fun b => Ending.returned (.bool b)) kn41_r), lines_congr y fun i hi => ?_⟩
    match i, hi with
    | 0, _ => exact ⟨rfl, rfl⟩
    | 1, _ => exact ⟨rfl, rfl⟩
    | 2, _ => exact ⟨rfl, rfl⟩
theorem kn42_l : kn41.sent.length ≤ 1000000 := by decide +kernel
def kn42 : St := (kn41.Write 1 1 6).2
theorem kn42_ok : kn42.OK := kn41_ok.Write 1 1 6
theorem kn42_r : (kn41.Write 1 1 6).1 = (true : Bool) := by decide +kernel
theorem kn42_c {w0 w : World} {g0 g1 g2 : Nat} (h : Lines w0 w [] 3 (triN g0 g1 g2) (tri kn6 kn33 kn41)) : Calls Try.prog 12 #[.pointer (some ⟨g2, 0, none⟩), .int .u64 1, .int .i64 1, .int .u64 6] w fun e w' => e = .returned (.bool true) ∧ Lines w0 w' [] 3 (triN g0 g1 g2) (tri kn6 kn33 kn42) :=
  (ls_Write h (i := 2) (gi := g2) (by decide) rfl kn41_ok 1 (off := 1) (v := 6) (by decide) (by decide) (by decide) (by decide) kn42_l).mono fun e w' ⟨x, y, _⟩ => by
    refine ⟨x.trans (congrArg (fun b => Ending.returned (.bool b)) kn42_r), lines_congr y fun i hi => ?_⟩
    match i, hi with
    | 0, _ => exact ⟨rfl, rfl⟩
    | 1, _ => exact ⟨rfl, rfl⟩
    | 2, _ => exact ⟨rfl, rfl⟩
def kn43 : St := kn42.Take.2
theorem kn43_ok : kn43.OK := kn42_ok.Take
theorem kn43_r : strOfNums kn42.Take.1 = ({ data := #[] } : ByteArray) := by decide +kernel
theorem kn43_c {w0 w : World} {g0 g1 g2 : Nat} (h : Lines w0 w [] 3 (triN g0 g1 g2) (tri kn6 kn33 kn42)) : Calls Try.prog 14 #[.pointer (some ⟨g2, 0, none⟩)] w fun e w' => e = .returned (.string { data := #[] }) ∧ Lines w0 w' [] 3 (triN g0 g1 g2) (tri kn6 kn33 kn43) :=
  (ls_Take h (i := 2) (gi := g2) (by decide) rfl kn42_ok).mono fun e w' ⟨x, y, _⟩ => by
    refine ⟨x.trans (congrArg (fun b => Ending.returned (.string b)) kn43_r), lines_congr y fun i hi => ?_⟩
    match i, hi with
    | 0, _ => exact ⟨rfl, rfl⟩
    | 1, _ => exact ⟨rfl, rfl⟩
    | 2, _ => exact ⟨rfl, rfl⟩
def kn44 : St := (kn43.Read 0 1).2.2
theorem kn44_ok : kn44.OK := (kn43_ok.Read 0 1).1
theorem kn44_r : kn43.reads 0 5 = (true : Bool) := by decide +kernel
theorem kn44_c {w0 w : World} {g0 g1 g2 : Nat} (h : Lines w0 w [] 3 (triN g0 g1 g2) (tri kn6 kn33 kn43)) : Calls Try.prog 23 #[.pointer (some ⟨g2, 0, none⟩), .int .u64 0, .int .u64 5] w fun e w' => e = .returned (.bool true) ∧ Lines w0 w' [] 3 (triN g0 g1 g2) (tri kn6 kn33 kn44) :=
  (ls_reads h (i := 2) (gi := g2) (by decide) rfl kn43_ok (off := 0) 5 (by decide) (by decide)).mono fun e w' ⟨x, y, _⟩ => by
    refine ⟨x.trans (congrArg (fun b => Ending.returned (.bool b)) kn44_r), lines_congr y fun i hi => ?_⟩
    match i, hi with
    | 0, _ => exact ⟨rfl, rfl⟩
    | 1, _ => exact ⟨rfl, rfl⟩
    | 2, _ => exact ⟨rfl, rfl⟩
def kn45 : St := (kn44.Read 1 1).2.2
theorem kn45_ok : kn45.OK := (kn44_ok.Read 1 1).1
theorem kn45_r : kn44.reads 1 6 = (true : Bool) := by decide +kernel
theorem kn45_c {w0 w : World} {g0 g1 g2 : Nat} (h : Lines w0 w [] 3 (triN g0 g1 g2) (tri kn6 kn33 kn44)) : Calls Try.prog 23 #[.pointer (some ⟨g2, 0, none⟩), .int .u64 1, .int .u64 6] w fun e w' => e = .returned (.bool true) ∧ Lines w0 w' [] 3 (triN g0 g1 g2) (tri kn6 kn33 kn45) :=
  (ls_reads h (i := 2) (gi := g2) (by decide) rfl kn44_ok (off := 1) 6 (by decide) (by decide)).mono fun e w' ⟨x, y, _⟩ => by
    refine ⟨x.trans (congrArg (fun b => Ending.returned (.bool b)) kn45_r), lines_congr y fun i hi => ?_⟩
    match i, hi with
    | 0, _ => exact ⟨rfl, rfl⟩
    | 1, _ => exact ⟨rfl, rfl⟩
    | 2, _ => exact ⟨rfl, rfl⟩
theorem kn46_l : kn45.sent.length ≤ 1000000 := by decide +kernel
def kn46 : St := (kn45.Write 3 1 0).2
theorem kn46_ok : kn46.OK := kn45_ok.Write 3 1 0
theorem kn46_r : (kn45.Write 3 1 0).1 = (true : Bool) := by decide +kernel
theorem kn46_c {w0 w : World} {g0 g1 g2 : Nat} (h : Lines w0 w [] 3 (triN g0 g1 g2) (tri kn6 kn33 kn45)) : Calls Try.prog 12 #[.pointer (some ⟨g2, 0, none⟩), .int .u64 3, .int .i64 1, .int .u64 0] w fun e w' => e = .returned (.bool true) ∧ Lines w0 w' [] 3 (triN g0 g1 g2) (tri kn6 kn33 kn46) :=
  (ls_Write h (i := 2) (gi := g2) (by decide) rfl kn45_ok 1 (off := 3) (v := 0) (by decide) (by decide) (by decide) (by decide) kn46_l).mono fun e w' ⟨x, y, _⟩ => by
    refine ⟨x.trans (congrArg (fun b => Ending.returned (.bool b)) kn46_r), lines_congr y fun i hi => ?_⟩
    match i, hi with
    | 0, _ => exact ⟨rfl, rfl⟩
    | 1, _ => exact ⟨rfl, rfl⟩
    | 2, _ => exact ⟨rfl, rfl⟩
def kn47 : St := (kn46.Read 0 1).2.2
theorem kn47_ok : kn47.OK := (kn46_ok.Read 0 1).1
theorem kn47_r : kn46.reads 0 0 = (true : Bool) := by decide +kernel
theorem kn47_c {w0 w : World} {g0 g1 g2 : Nat} (h : Lines w0 w [] 3 (triN g0 g1 g2) (tri kn6 kn33 kn46)) : Calls Try.prog 23 #[.pointer (some ⟨g2, 0, none⟩), .int .u64 0, .int .u64 0] w fun e w' => e = .returned (.bool true) ∧ Lines w0 w' [] 3 (triN g0 g1 g2) (tri kn6 kn33 kn47) :=
  (ls_reads h (i := 2) (gi := g2) (by decide) rfl kn46_ok (off := 0) 0 (by decide) (by decide)).mono fun e w' ⟨x, y, _⟩ => by
    refine ⟨x.trans (congrArg (fun b => Ending.returned (.bool b)) kn47_r), lines_congr y fun i hi => ?_⟩
    match i, hi with
    | 0, _ => exact ⟨rfl, rfl⟩
    | 1, _ => exact ⟨rfl, rfl⟩
    | 2, _ => exact ⟨rfl, rfl⟩
def kn48 : St := (kn47.Read 1 1).2.2
theorem kn48_ok : kn48.OK := (kn47_ok.Read 1 1).1
theorem kn48_r : kn47.reads 1 2 = (true : Bool) := by decide +kernel
theorem kn48_c {w0 w : World} {g0 g1 g2 : Nat} (h : Lines w0 w [] 3 (triN g0 g1 g2) (tri kn6 kn33 kn47)) : Calls Try.prog 23 #[.pointer (some ⟨g2, 0, none⟩), .int .u64 1, .int .u64 2] w fun e w' => e = .returned (.bool true) ∧ Lines w0 w' [] 3 (triN g0 g1 g2) (tri kn6 kn33 kn48) :=
  (ls_reads h (i := 2) (gi := g2) (by decide) rfl kn47_ok (off := 1) 2 (by decide) (by decide)).mono fun e w' ⟨x, y, _⟩ => by
    refine ⟨x.trans (congrArg (fun b => Ending.returned (.bool b)) kn48_r), lines_congr y fun i hi => ?_⟩
    match i, hi with
    | 0, _ => exact ⟨rfl, rfl⟩
    | 1, _ => exact ⟨rfl, rfl⟩
    | 2, _ => exact ⟨rfl, rfl⟩
theorem kn49_l : kn48.sent.length ≤ 1000000 := by decide +kernel
def kn49 : St := (kn48.Write 4 1 255).2
theorem kn49_ok : kn49.OK := kn48_ok.Write 4 1 255
theorem kn49_r : (kn48.Write 4 1 255).1 = (true : Bool) := by decide +kernel
theorem kn49_c {w0 w : World} {g0 g1 g2 : Nat} (h : Lines w0 w [] 3 (triN g0 g1 g2) (tri kn6 kn33 kn48)) : Calls Try.prog 12 #[.pointer (some ⟨g2, 0, none⟩), .int .u64 4, .int .i64 1, .int .u64 255] w fun e w' => e = .returned (.bool true) ∧ Lines w0 w' [] 3 (triN g0 g1 g2) (tri kn6 kn33 kn49) :=
  (ls_Write h (i := 2) (gi := g2) (by decide) rfl kn48_ok 1 (off := 4) (v := 255) (by decide) (by decide) (by decide) (by decide) kn49_l).mono fun e w' ⟨x, y, _⟩ => by
    refine ⟨x.trans (congrArg (fun b => Ending.returned (.bool b)) kn49_r), lines_congr y fun i hi => ?_⟩
    match i, hi with
    | 0, _ => exact ⟨rfl, rfl⟩
    | 1, _ => exact ⟨rfl, rfl⟩
    | 2, _ => exact ⟨rfl, rfl⟩
def kn50 : St := (kn49.Read 4 1).2.2
theorem kn50_ok : kn50.OK := (kn49_ok.Read 4 1).1
theorem kn50_r : kn49.reads 4 31 = (true : Bool) := by decide +kernel
theorem kn50_c {w0 w : World} {g0 g1 g2 : Nat} (h : Lines w0 w [] 3 (triN g0 g1 g2) (tri kn6 kn33 kn49)) : Calls Try.prog 23 #[.pointer (some ⟨g2, 0, none⟩), .int .u64 4, .int .u64 31] w fun e w' => e = .returned (.bool true) ∧ Lines w0 w' [] 3 (triN g0 g1 g2) (tri kn6 kn33 kn50) :=
  (ls_reads h (i := 2) (gi := g2) (by decide) rfl kn49_ok (off := 4) 31 (by decide) (by decide)).mono fun e w' ⟨x, y, _⟩ => by
    refine ⟨x.trans (congrArg (fun b => Ending.returned (.bool b)) kn50_r), lines_congr y fun i hi => ?_⟩
    match i, hi with
    | 0, _ => exact ⟨rfl, rfl⟩
    | 1, _ => exact ⟨rfl, rfl⟩
    | 2, _ => exact ⟨rfl, rfl⟩
theorem kn51_l : kn50.sent.length ≤ 1000000 := by decide +kernel
def kn51 : St := (kn50.Write 7 1 300).2
theorem kn51_ok : kn51.OK := kn50_ok.Write 7 1 300
theorem kn51_r : (kn50.Write 7 1 300).1 = (true : Bool) := by decide +kernel
theorem kn51_c {w0 w : World} {g0 g1 g2 : Nat} (h : Lines w0 w [] 3 (triN g0 g1 g2) (tri kn6 kn33 kn50)) : Calls Try.prog 12 #[.pointer (some ⟨g2, 0, none⟩), .int .u64 7, .int .i64 1, .int .u64 300] w fun e w' => e = .returned (.bool true) ∧ Lines w0 w' [] 3 (triN g0 g1 g2) (tri kn6 kn33 kn51) :=
  (ls_Write h (i := 2) (gi := g2) (by decide) rfl kn50_ok 1 (off := 7) (v := 300) (by decide) (by decide) (by decide) (by decide) kn51_l).mono fun e w' ⟨x, y, _⟩ => by
    refine ⟨x.trans (congrArg (fun b => Ending.returned (.bool b)) kn51_r), lines_congr y fun i hi => ?_⟩
    match i, hi with
    | 0, _ => exact ⟨rfl, rfl⟩
    | 1, _ => exact ⟨rfl, rfl⟩
    | 2, _ => exact ⟨rfl, rfl⟩
def kn52 : St := (kn51.Read 7 1).2.2
theorem kn52_ok : kn52.OK := (kn51_ok.Read 7 1).1
theorem kn52_r : kn51.reads 7 44 = (true : Bool) := by decide +kernel
theorem kn52_c {w0 w : World} {g0 g1 g2 : Nat} (h : Lines w0 w [] 3 (triN g0 g1 g2) (tri kn6 kn33 kn51)) : Calls Try.prog 23 #[.pointer (some ⟨g2, 0, none⟩), .int .u64 7, .int .u64 44] w fun e w' => e = .returned (.bool true) ∧ Lines w0 w' [] 3 (triN g0 g1 g2) (tri kn6 kn33 kn52) :=
  (ls_reads h (i := 2) (gi := g2) (by decide) rfl kn51_ok (off := 7) 44 (by decide) (by decide)).mono fun e w' ⟨x, y, _⟩ => by
    refine ⟨x.trans (congrArg (fun b => Ending.returned (.bool b)) kn52_r), lines_congr y fun i hi => ?_⟩
    match i, hi with
    | 0, _ => exact ⟨rfl, rfl⟩
    | 1, _ => exact ⟨rfl, rfl⟩
    | 2, _ => exact ⟨rfl, rfl⟩
theorem kn53_l : kn52.sent.length ≤ 1000000 := by decide +kernel
def kn53 : St := (kn52.Write 5 1 9).2
theorem kn53_ok : kn53.OK := kn52_ok.Write 5 1 9
theorem kn53_r : (kn52.Write 5 1 9).1 = (true : Bool) := by decide +kernel
theorem kn53_c {w0 w : World} {g0 g1 g2 : Nat} (h : Lines w0 w [] 3 (triN g0 g1 g2) (tri kn6 kn33 kn52)) : Calls Try.prog 12 #[.pointer (some ⟨g2, 0, none⟩), .int .u64 5, .int .i64 1, .int .u64 9] w fun e w' => e = .returned (.bool true) ∧ Lines w0 w' [] 3 (triN g0 g1 g2) (tri kn6 kn33 kn53) :=
  (ls_Write h (i := 2) (gi := g2) (by decide) rfl kn52_ok 1 (off := 5) (v := 9) (by decide) (by decide) (by decide) (by decide) kn53_l).mono fun e w' ⟨x, y, _⟩ => by
    refine ⟨x.trans (congrArg (fun b => Ending.returned (.bool b)) kn53_r), lines_congr y fun i hi => ?_⟩
    match i, hi with
    | 0, _ => exact ⟨rfl, rfl⟩
    | 1, _ => exact ⟨rfl, rfl⟩
    | 2, _ => exact ⟨rfl, rfl⟩
theorem kn54_l : kn53.sent.length ≤ 1000000 := by decide +kernel
def kn54 : St := (kn53.Write 6 1 9).2
theorem kn54_ok : kn54.OK := kn53_ok.Write 6 1 9
theorem kn54_r : (kn53.Write 6 1 9).1 = (true : Bool) := by decide +kernel
theorem kn54_c {w0 w : World} {g0 g1 g2 : Nat} (h : Lines w0 w [] 3 (triN g0 g1 g2) (tri kn6 kn33 kn53)) : Calls Try.prog 12 #[.pointer (some ⟨g2, 0, none⟩), .int .u64 6, .int .i64 1, .int .u64 9] w fun e w' => e = .returned (.bool true) ∧ Lines w0 w' [] 3 (triN g0 g1 g2) (tri kn6 kn33 kn54) :=
  (ls_Write h (i := 2) (gi := g2) (by decide) rfl kn53_ok 1 (off := 6) (v := 9) (by decide) (by decide) (by decide) (by decide) kn54_l).mono fun e w' ⟨x, y, _⟩ => by
    refine ⟨x.trans (congrArg (fun b => Ending.returned (.bool b)) kn54_r), lines_congr y fun i hi => ?_⟩
    match i, hi with
    | 0, _ => exact ⟨rfl, rfl⟩
    | 1, _ => exact ⟨rfl, rfl⟩
    | 2, _ => exact ⟨rfl, rfl⟩
def kn55 : St := (kn54.Read 6 1).2.2
theorem kn55_ok : kn55.OK := (kn54_ok.Read 6 1).1
theorem kn55_r : kn54.reads 6 0 = (true : Bool) := by decide +kernel
theorem kn55_c {w0 w : World} {g0 g1 g2 : Nat} (h : Lines w0 w [] 3 (triN g0 g1 g2) (tri kn6 kn33 kn54)) : Calls Try.prog 23 #[.pointer (some ⟨g2, 0, none⟩), .int .u64 6, .int .u64 0] w fun e w' => e = .returned (.bool true) ∧ Lines w0 w' [] 3 (triN g0 g1 g2) (tri kn6 kn33 kn55) :=
  (ls_reads h (i := 2) (gi := g2) (by decide) rfl kn54_ok (off := 6) 0 (by decide) (by decide)).mono fun e w' ⟨x, y, _⟩ => by
    refine ⟨x.trans (congrArg (fun b => Ending.returned (.bool b)) kn55_r), lines_congr y fun i hi => ?_⟩
    match i, hi with
    | 0, _ => exact ⟨rfl, rfl⟩
    | 1, _ => exact ⟨rfl, rfl⟩
    | 2, _ => exact ⟨rfl, rfl⟩
def kn56 : St := (kn55.Read 5 1).2.2
theorem kn56_ok : kn56.OK := (kn55_ok.Read 5 1).1
theorem kn56_r : kn55.reads 5 96 = (true : Bool) := by decide +kernel
theorem kn56_c {w0 w : World} {g0 g1 g2 : Nat} (h : Lines w0 w [] 3 (triN g0 g1 g2) (tri kn6 kn33 kn55)) : Calls Try.prog 23 #[.pointer (some ⟨g2, 0, none⟩), .int .u64 5, .int .u64 96] w fun e w' => e = .returned (.bool true) ∧ Lines w0 w' [] 3 (triN g0 g1 g2) (tri kn6 kn33 kn56) :=
  (ls_reads h (i := 2) (gi := g2) (by decide) rfl kn55_ok (off := 5) 96 (by decide) (by decide)).mono fun e w' ⟨x, y, _⟩ => by
    refine ⟨x.trans (congrArg (fun b => Ending.returned (.bool b)) kn56_r), lines_congr y fun i hi => ?_⟩
    match i, hi with
    | 0, _ => exact ⟨rfl, rfl⟩
    | 1, _ => exact ⟨rfl, rfl⟩
    | 2, _ => exact ⟨rfl, rfl⟩
theorem kn57_l : kn56.sent.length ≤ 1000000 := by decide +kernel
def kn57 : St := (kn56.Write 8 1 0).2
theorem kn57_ok : kn57.OK := kn56_ok.Write 8 1 0
theorem kn57_r : (kn56.Write 8 1 0).1 = (false : Bool) := by decide +kernel
theorem kn57_c {w0 w : World} {g0 g1 g2 : Nat} (h : Lines w0 w [] 3 (triN g0 g1 g2) (tri kn6 kn33 kn56)) : Calls Try.prog 12 #[.pointer (some ⟨g2, 0, none⟩), .int .u64 8, .int .i64 1, .int .u64 0] w fun e w' => e = .returned (.bool false) ∧ Lines w0 w' [] 3 (triN g0 g1 g2) (tri kn6 kn33 kn57) :=
  (ls_Write h (i := 2) (gi := g2) (by decide) rfl kn56_ok 1 (off := 8) (v := 0) (by decide) (by decide) (by decide) (by decide) kn57_l).mono fun e w' ⟨x, y, _⟩ => by
    refine ⟨x.trans (congrArg (fun b => Ending.returned (.bool b)) kn57_r), lines_congr y fun i hi => ?_⟩
    match i, hi with
    | 0, _ => exact ⟨rfl, rfl⟩
    | 1, _ => exact ⟨rfl, rfl⟩
    | 2, _ => exact ⟨rfl, rfl⟩
theorem kn58_l : kn57.sent.length ≤ 1000000 := by decide +kernel
def kn58 : St := (kn57.Write 0 2 0).2
theorem kn58_ok : kn58.OK := kn57_ok.Write 0 2 0
theorem kn58_r : (kn57.Write 0 2 0).1 = (false : Bool) := by decide +kernel
theorem kn58_c {w0 w : World} {g0 g1 g2 : Nat} (h : Lines w0 w [] 3 (triN g0 g1 g2) (tri kn6 kn33 kn57)) : Calls Try.prog 12 #[.pointer (some ⟨g2, 0, none⟩), .int .u64 0, .int .i64 2, .int .u64 0] w fun e w' => e = .returned (.bool false) ∧ Lines w0 w' [] 3 (triN g0 g1 g2) (tri kn6 kn33 kn58) :=
  (ls_Write h (i := 2) (gi := g2) (by decide) rfl kn57_ok 2 (off := 0) (v := 0) (by decide) (by decide) (by decide) (by decide) kn58_l).mono fun e w' ⟨x, y, _⟩ => by
    refine ⟨x.trans (congrArg (fun b => Ending.returned (.bool b)) kn58_r), lines_congr y fun i hi => ?_⟩
    match i, hi with
    | 0, _ => exact ⟨rfl, rfl⟩
    | 1, _ => exact ⟨rfl, rfl⟩
    | 2, _ => exact ⟨rfl, rfl⟩
theorem kn59_r : strOfNums kn58.Dump = ({ data := #[2, 0, 0, 31, 44, 5, 6, 0, 0] } : ByteArray) := by decide +kernel
theorem kn59_c {w0 w : World} {g0 g1 g2 : Nat} (h : Lines w0 w [] 3 (triN g0 g1 g2) (tri kn6 kn33 kn58)) : Calls Try.prog 17 #[.pointer (some ⟨g2, 0, none⟩)] w fun e w' => e = .returned (.string { data := #[2, 0, 0, 31, 44, 5, 6, 0, 0] }) ∧ Lines w0 w' [] 3 (triN g0 g1 g2) (tri kn6 kn33 kn58) :=
  (ls_Dump h (i := 2) (gi := g2) (by decide) rfl kn58_ok).mono fun e w' ⟨x, y, _⟩ => by
    refine ⟨x.trans (congrArg (fun b => Ending.returned (.string b)) kn59_r), lines_congr y fun i hi => ?_⟩
    match i, hi with
    | 0, _ => exact ⟨rfl, rfl⟩
    | 1, _ => exact ⟨rfl, rfl⟩
    | 2, _ => exact ⟨rfl, rfl⟩
/-- the line behind so many bytes -/
def fed (k : Nat) : St := { St.new with q := List.replicate k 99 }
theorem fed_ok (k : Nat) (h : k ≤ 16) : (fed k).OK := ⟨by simp [fed, St.new], fun b hb => by unfold fed at hb; rw [List.eq_of_mem_replicate hb]; unfold Byte; decide, OK_new.ier, OK_new.lcr, OK_new.mcr, OK_new.scr, OK_new.dll, OK_new.dlm, by simpa [fed] using h⟩
theorem fed_in (k : Nat) (h : k < 16) : (fed k).Input 99 = (true, fed (k + 1)) := by
  unfold St.Input
  have : ¬ 16 ≤ (fed k).q.length := by simp [fed]; omega
  rw [if_neg this]
  unfold fed
  simp [List.replicate_succ']
theorem fed_16 : fed 16 = kn22 := by rfl
theorem fed_c {w0 w : World} {g0 g1 g2 k : Nat} (hk : k < 16) (h : Lines w0 w [] 3 (triN g0 g1 g2) (tri kn6 (fed k) St.new)) : Calls Try.prog 13 #[.pointer (some ⟨g1, 0, none⟩), .int .u8 99] w fun e w' => e = .returned (.bool true) ∧ Lines w0 w' [] 3 (triN g0 g1 g2) (tri kn6 (fed (k + 1)) St.new) :=
  (ls_Input h (i := 1) (gi := g1) (by decide) rfl (fed_ok k (by omega)) (b := 99) (by unfold Byte; decide)).mono fun e w' ⟨x, y, _⟩ => by
    have e1 : ((tri kn6 (fed k) St.new 1).Input 99) = (true, fed (k + 1)) := fed_in k hk
    rw [e1] at x y
    refine ⟨x, lines_congr y fun i hi => ?_⟩
    match i, hi with
    | 0, _ => exact ⟨rfl, rfl⟩
    | 1, _ => exact ⟨rfl, rfl⟩
    | 2, _ => exact ⟨rfl, rfl⟩
set_option maxRecDepth 100000 in
set_option maxHeartbeats 4000000 in
theorem known_any (w : World) : Calls Try.prog 6 #[] w fun e w' => e = .returned (.bool true) ∧ Fr [] w w' := by
  have hLa := hid (lines_none w w (Fr.refl _ _))
  go_enter Try.func6, Try.ntmps6
  go_upto_region 2 with (first | (go_at_call 9; (with_reducible refine (ls_new hLa.out).mono ?_); rintro e wa ⟨rfl, hL1, -⟩; have hLb := hid hL1; clear hLa hL1) | (go_at_call 9; (with_reducible refine (ls_new hLb.out).mono ?_); rintro e wb ⟨rfl, hL1, -⟩; have hLc := hid hL1; clear hLb hL1) | (go_at_call 9; (with_reducible refine (ls_new hLc.out).mono ?_); rintro e wc ⟨rfl, hL1, -⟩; have hLd := hid hL1; clear hLc hL1))
  have hL := hid (lines_congr (g' := triN w.heap.size wa.heap.size wb.heap.size) (u' := tri St.new St.new St.new) hLd.out fun i hi => by
    match i, hi with
    | 0, _ => exact ⟨rfl, rfl⟩
    | 1, _ => exact ⟨rfl, rfl⟩
    | 2, _ => exact ⟨rfl, rfl⟩)
  clear hLd
  generalize w.heap.size = g0 at *
  generalize wa.heap.size = g1 at *
  generalize wb.heap.size = g2 at *
  go_upto_region 5 with (first | (go_at_call 8; (with_reducible refine (awake_any _).mono ?_); rintro e w1 ⟨rfl, hd⟩; replace hL := hid (hL.out.grow hd); clear hd) | (go_at_call 12; (with_reducible refine (kn0_c hL.out).mono ?_); rintro e w1 ⟨rfl, hL1⟩; replace hL := hid hL1; clear hL1) | (go_at_call 13; (with_reducible refine (kn1_c hL.out).mono ?_); rintro e w1 ⟨rfl, hL1⟩; replace hL := hid hL1; clear hL1) | (go_at_call 18; (with_reducible refine (kn2_c hL.out).mono ?_); rintro e w1 ⟨rfl, hL1⟩; replace hL := hid hL1; clear hL1) | (go_at_call 23; (with_reducible refine (kn3_c hL.out).mono ?_); rintro e w1 ⟨rfl, hL1⟩; replace hL := hid hL1; clear hL1) | (go_at_call 23; (with_reducible refine (kn4_c hL.out).mono ?_); rintro e w1 ⟨rfl, hL1⟩; replace hL := hid hL1; clear hL1) | (go_at_call 18; (with_reducible refine (kn5_c hL.out).mono ?_); rintro e w1 ⟨rfl, hL1⟩; replace hL := hid hL1; clear hL1) | (go_at_call 23; (with_reducible refine (kn6_c hL.out).mono ?_); rintro e w1 ⟨rfl, hL1⟩; replace hL := hid hL1; clear hL1))
  go_loopw [4] (fun i wr => ∃ k : Nat, k ≤ 16 ∧ i = .int .i64 k ∧ Hid (Lines w wr [] 3 (triN g0 g1 g2) (tri kn6 (fed k) St.new))) (fun i _ => 16 - (intOf i).toNat)
  case atStart => exact ⟨0, by decide, rfl, hL⟩
  case round =>
    clear hL
    obtain ⟨k, hk, rfl, hL⟩ := hrel
    by_cases hlt : k < 16
    · have hlt2 : (k : Int) < 16 := by omega
      go_wp2_with (go_at_call 13; (with_reducible refine (fed_c hlt hL.out).mono ?_); rintro e w1 ⟨rfl, hL1⟩; replace hL := hid hL1; clear hL1)
      go_roundw
      case rel => exact ⟨k + 1, by omega, by go_num, hL⟩
      case measure => simp [intOf]; omega
    · obtain rfl : k = 16 := by omega
      rw [fed_16] at hL
      clear hlt hk
      go_upto_region 11 with (first | (go_at_call 13; (with_reducible refine (kn23_c hL.out).mono ?_); rintro e w1 ⟨rfl, hL1⟩; replace hL := hid hL1; clear hL1) | (go_at_call 10; (with_reducible refine (kn24_c hL.out).mono ?_); rintro e w1 ⟨rfl, hL1⟩; replace hL := hid hL1; clear hL1) | (go_at_call 12; (with_reducible refine (kn25_c hL.out).mono ?_); rintro e w1 ⟨rfl, hL1⟩; replace hL := hid hL1; clear hL1) | (go_at_call 18; (with_reducible refine (kn26_c hL.out).mono ?_); rintro e w1 ⟨rfl, hL1⟩; replace hL := hid hL1; clear hL1) | (go_at_call 23; (with_reducible refine (kn27_c hL.out).mono ?_); rintro e w1 ⟨rfl, hL1⟩; replace hL := hid hL1; clear hL1) | (go_at_call 23; (with_reducible refine (kn28_c hL.out).mono ?_); rintro e w1 ⟨rfl, hL1⟩; replace hL := hid hL1; clear hL1) | (go_at_call 23; (with_reducible refine (kn29_c hL.out).mono ?_); rintro e w1 ⟨rfl, hL1⟩; replace hL := hid hL1; clear hL1) | (go_at_call 18; (with_reducible refine (kn30_c hL.out).mono ?_); rintro e w1 ⟨rfl, hL1⟩; replace hL := hid hL1; clear hL1) | (go_at_call 12; (with_reducible refine (kn31_c hL.out).mono ?_); rintro e w1 ⟨rfl, hL1⟩; replace hL := hid hL1; clear hL1) | (go_at_call 10; (with_reducible refine (kn32_c hL.out).mono ?_); rintro e w1 ⟨rfl, hL1⟩; replace hL := hid hL1; clear hL1) | (go_at_call 23; (with_reducible refine (kn33_c hL.out).mono ?_); rintro e w1 ⟨rfl, hL1⟩; replace hL := hid hL1; clear hL1))
      (try simp only [List.append_eq, List.cons_append, List.nil_append])
      go_upto_region 13 with (first | (go_at_call 12; (with_reducible refine (kn34_c hL.out).mono ?_); rintro e w1 ⟨rfl, hL1⟩; replace hL := hid hL1; clear hL1) | (go_at_call 14; (with_reducible refine (kn35_c hL.out).mono ?_); rintro e w1 ⟨rfl, hL1⟩; replace hL := hid hL1; clear hL1) | (go_at_call 14; (with_reducible refine (kn36_c hL.out).mono ?_); rintro e w1 ⟨rfl, hL1⟩; replace hL := hid hL1; clear hL1) | (go_at_call 12; (with_reducible refine (kn37_c hL.out).mono ?_); rintro e w1 ⟨rfl, hL1⟩; replace hL := hid hL1; clear hL1) | (go_at_call 23; (with_reducible refine (kn38_c hL.out).mono ?_); rintro e w1 ⟨rfl, hL1⟩; replace hL := hid hL1; clear hL1) | (go_at_call 23; (with_reducible refine (kn39_c hL.out).mono ?_); rintro e w1 ⟨rfl, hL1⟩; replace hL := hid hL1; clear hL1) | (go_at_call 12; (with_reducible refine (kn40_c hL.out).mono ?_); rintro e w1 ⟨rfl, hL1⟩; replace hL := hid hL1; clear hL1) | (go_at_call 12; (with_reducible refine (kn41_c hL.out).mono ?_); rintro e w1 ⟨rfl, hL1⟩; replace hL := hid hL1; clear hL1) | (go_at_call 12; (with_reducible refine (kn42_c hL.out).mono ?_); rintro e w1 ⟨rfl, hL1⟩; replace hL := hid hL1; clear hL1) | (go_at_call 14; (with_reducible refine (kn43_c hL.out).mono ?_); rintro e w1 ⟨rfl, hL1⟩; replace hL := hid hL1; clear hL1) | (go_at_call 23; (with_reducible refine (kn44_c hL.out).mono ?_); rintro e w1 ⟨rfl, hL1⟩; replace hL := hid hL1; clear hL1) | (go_at_call 23; (with_reducible refine (kn45_c hL.out).mono ?_); rintro e w1 ⟨rfl, hL1⟩; replace hL := hid hL1; clear hL1) | (go_at_call 12; (with_reducible refine (kn46_c hL.out).mono ?_); rintro e w1 ⟨rfl, hL1⟩; replace hL := hid hL1; clear hL1) | (go_at_call 23; (with_reducible refine (kn47_c hL.out).mono ?_); rintro e w1 ⟨rfl, hL1⟩; replace hL := hid hL1; clear hL1) | (go_at_call 23; (with_reducible refine (kn48_c hL.out).mono ?_); rintro e w1 ⟨rfl, hL1⟩; replace hL := hid hL1; clear hL1))
      (try simp only [List.append_eq, List.cons_append, List.nil_append])
      go_upto_region 15 with (first | (go_at_call 12; (with_reducible refine (kn49_c hL.out).mono ?_); rintro e w1 ⟨rfl, hL1⟩; replace hL := hid hL1; clear hL1) | (go_at_call 23; (with_reducible refine (kn50_c hL.out).mono ?_); rintro e w1 ⟨rfl, hL1⟩; replace hL := hid hL1; clear hL1) | (go_at_call 12; (with_reducible refine (kn51_c hL.out).mono ?_); rintro e w1 ⟨rfl, hL1⟩; replace hL := hid hL1; clear hL1) | (go_at_call 23; (with_reducible refine (kn52_c hL.out).mono ?_); rintro e w1 ⟨rfl, hL1⟩; replace hL := hid hL1; clear hL1) | (go_at_call 12; (with_reducible refine (kn53_c hL.out).mono ?_); rintro e w1 ⟨rfl, hL1⟩; replace hL := hid hL1; clear hL1) | (go_at_call 12; (with_reducible refine (kn54_c hL.out).mono ?_); rintro e w1 ⟨rfl, hL1⟩; replace hL := hid hL1; clear hL1) | (go_at_call 23; (with_reducible refine (kn55_c hL.out).mono ?_); rintro e w1 ⟨rfl, hL1⟩; replace hL := hid hL1; clear hL1) | (go_at_call 23; (with_reducible refine (kn56_c hL.out).mono ?_); rintro e w1 ⟨rfl, hL1⟩; replace hL := hid hL1; clear hL1) | (go_at_call 12; (with_reducible refine (kn57_c hL.out).mono ?_); rintro e w1 ⟨rfl, hL1⟩; replace hL := hid hL1; clear hL1) | (go_at_call 12; (with_reducible refine (kn58_c hL.out).mono ?_); rintro e w1 ⟨rfl, hL1⟩; replace hL := hid hL1; clear hL1) | (go_at_call 17; (with_reducible refine (kn59_c hL.out).mono ?_); rintro e w1 ⟨rfl, hL1⟩; replace hL := hid hL1; clear hL1))
      go_upto_region 17 with (go_at_call 11; (with_reducible refine (Read_n (.pointer none) 0 1 _ (hid fun w1 _ => may_nil 0 1 w1)).mono ?_); rintro e w1 ⟨rfl, rfl⟩)
      go_wp2_with (first | (go_at_call 12; (with_reducible refine (Write_n (.pointer none) 0 1 0 _ (hid fun w1 _ => may_nil 0 1 w1)).mono ?_); rintro e w1 ⟨rfl, rfl⟩) | (go_at_call 13; (with_reducible refine (input_nil 0 _).mono ?_); rintro e w1 ⟨rfl, rfl⟩) | (go_at_call 18; (with_reducible refine (level_nil _).mono ?_); rintro e w1 ⟨rfl, rfl⟩) | (go_at_call 14; (with_reducible refine (take_nil _).mono ?_); rintro e w1 ⟨rfl, rfl⟩) | (go_at_call 10; (with_reducible refine (waiting_nil _).mono ?_); rintro e w1 ⟨rfl, rfl⟩) | (go_at_call 17; (with_reducible refine (dump_nil _).mono ?_); rintro e w1 ⟨rfl, rfl⟩) | (go_at_call 8; (with_reducible refine (awake_any _).mono ?_); rintro e w1 ⟨rfl, hd⟩; replace hL := hid (hL.out.grow hd); clear hd))
      go_ret
      exact ⟨rfl, hL.out.fr⟩
end Go.Proofs.Ytobaniebnejjiaa.U
namespace Go.Proofs.Ytobaniebnejjiaa
open U Go.RowKit
theorem walk_UartKnown (w : World) : Calls Try.prog 6 #[] w fun e w' => e = .returned (.bool true) ∧ Below w.heap.size w w' := (known_any w).mono fun _ _ ⟨h1, h2⟩ => ⟨h1, h2.below (Nat.le_refl _) (by simp)⟩
end Go.Proofs.Ytobaniebnejjiaa
