/- The law TrapKnown without its row: the chapter's examples. -/
import Derived.Test.YtfdkmkblhicbfaaK
import Derived.BigGuard
import Derived.Deep.DeepCutAuto
namespace Go.Proofs.Ytfdkmkblhicbfaa
open Go.RowKit
set_option linter.all false
def kA : Nat → BitVec 64 := upd givenS 1 8#64
def kB : Nat → BitVec 64 := upd givenS 6 546#64
def kC : Nat → BitVec 64 := upd (upd givenS 6 546#64) 4 0#64
def kD : Nat → BitVec 64 := upd (upd (upd givenS 6 546#64) 4 0#64) 1 2#64
theorem p_kA_3 (w : World) : Calls Try.prog 24 #[.agg (stC kA), .int .u8 3, .int .u8 7] w fun e w' => e = .returned (.bool true) ∧ Fr [] w w' := by
  have h := pends_any kA 3 7 w (by decide)
  rwa [show pendsB kA 3 7 = true by decide +kernel] at h
theorem p_kB_0 (w : World) : Calls Try.prog 24 #[.agg (stC kB), .int .u8 0, .int .u8 7] w fun e w' => e = .returned (.bool true) ∧ Fr [] w w' := by
  have h := pends_any kB 0 7 w (by decide)
  rwa [show pendsB kB 0 7 = true by decide +kernel] at h
theorem p_kC_0 (w : World) : Calls Try.prog 24 #[.agg (stC kC), .int .u8 0, .int .u8 1] w fun e w' => e = .returned (.bool true) ∧ Fr [] w w' := by
  have h := pends_any kC 0 1 w (by decide)
  rwa [show pendsB kC 0 1 = true by decide +kernel] at h
theorem p_kC_1 (w : World) : Calls Try.prog 24 #[.agg (stC kC), .int .u8 1, .int .u8 0] w fun e w' => e = .returned (.bool true) ∧ Fr [] w w' := by
  have h := pends_any kC 1 0 w (by decide)
  rwa [show pendsB kC 1 0 = true by decide +kernel] at h
theorem p_kD_1 (w : World) : Calls Try.prog 24 #[.agg (stC kD), .int .u8 1, .int .u8 1] w fun e w' => e = .returned (.bool true) ∧ Fr [] w w' := by
  have h := pends_any kD 1 1 w (by decide)
  rwa [show pendsB kD 1 1 = true by decide +kernel] at h
theorem p_kD_3 (w : World) : Calls Try.prog 24 #[.agg (stC kD), .int .u8 3, .int .u8 0] w fun e w' => e = .returned (.bool true) ∧ Fr [] w w' := by
  have h := pends_any kD 3 0 w (by decide)
  rwa [show pendsB kD 3 0 = true by decide +kernel] at h
theorem p_kD_2 (w : World) : Calls Try.prog 24 #[.agg (stC kD), .int .u8 2, .int .u8 0] w fun e w' => e = .returned (.bool true) ∧ Fr [] w w' := by
  have h := pends_any kD 2 0 w (by decide)
  rwa [show pendsB kD 2 0 = true by decide +kernel] at h
def kE : Nat → BitVec 64 := fun i => if i = 3 then 2730#64 else 0#64
theorem a_kE (w : World) : Calls Try.prog 12 #[.agg (stC kE)] w fun e w' => e = .returned (.bool false) ∧ Fr [] w w' := by
  have h := awakep_any kE w
  rwa [show ((U (pend kE)) != 0) = false by decide +kernel] at h
def kF : Nat → BitVec 64 := fun i => if i = 4 then 8#64 else if i = 2 then 8#64 else 0#64
theorem a_kF (w : World) : Calls Try.prog 12 #[.agg (stC kF)] w fun e w' => e = .returned (.bool true) ∧ Fr [] w w' := by
  have h := awakep_any kF w
  rwa [show ((U (pend kF)) != 0) = true by decide +kernel] at h
def kG : Nat → BitVec 64 := fun i => if i = 3 then 1#64 else if i = 2 then 1#64 else 0#64
theorem a_kG (w : World) : Calls Try.prog 12 #[.agg (stC kG)] w fun e w' => e = .returned (.bool false) ∧ Fr [] w w' := by
  have h := awakep_any kG w
  rwa [show ((U (pend kG)) != 0) = false by decide +kernel] at h
def n1 : Nat → BitVec 64 := fun i => if i = 7 then 32769#64 else if i = 1 then 8#64 else 0#64
def n1E : Nat → BitVec 64 := stE n1 1 16#64 7#64 true 9#64
theorem e_n1 (w : World) : Calls Try.prog 15 #[.agg (stC n1), .int .u8 1, .int .u64 16, .agg #[.int .u8 7, .bool true, .int .u64 9]] w fun e w' => e = .returned (.tuple #[.agg (stC n1E), .int .u8 3, .int .u64 32796]) ∧ Fr [] w w' := by
  have h := enter_any n1 1 16#64 7#64 9#64 true w (by decide) (by decide)
  rw [show rm 1 = 1 from rfl, show lvE n1 1 7#64 true = 3 by decide +kernel, show U (wyE n1 1 7#64 true) = 32796 by decide +kernel] at h
  exact h
def n2 : Nat → BitVec 64 := fun i => if i = 1 then 2#64 else if i = 13 then 36865#64 else if i = 5 then 8192#64 else 0#64
def n2E : Nat → BitVec 64 := stE n2 1 32#64 13#64 false 5#64
theorem e_n2 (w : World) : Calls Try.prog 15 #[.agg (stC n2), .int .u8 1, .int .u64 32, .agg #[.int .u8 13, .bool false, .int .u64 5]] w fun e w' => e = .returned (.tuple #[.agg (stC n2E), .int .u8 1, .int .u64 36864]) ∧ Fr [] w w' := by
  have h := enter_any n2 1 32#64 13#64 5#64 false w (by decide) (by decide)
  rw [show rm 1 = 1 from rfl, show lvE n2 1 13#64 false = 1 by decide +kernel, show U (wyE n2 1 13#64 false) = 36864 by decide +kernel] at h
  exact h
def n3 : Nat → BitVec 64 := fun i => if i = 5 then 8192#64 else 0#64
def n3E : Nat → BitVec 64 := stE n3 3 0#64 13#64 false 0#64
theorem e_n3 (w : World) : Calls Try.prog 15 #[.agg (stC n3), .int .u8 3, .int .u64 0, .agg #[.int .u8 13, .bool false, .int .u64 0]] w fun e w' => e = .returned (.tuple #[.agg (stC n3E), .int .u8 3, .int .u64 0]) ∧ Fr [] w w' := by
  have h := enter_any n3 3 0#64 13#64 0#64 false w (by decide) (by decide)
  rw [show rm 3 = 3 from rfl, show lvE n3 3 13#64 false = 3 by decide +kernel, show U (wyE n3 3 13#64 false) = 0 by decide +kernel] at h
  exact h
def n4 : Nat → BitVec 64 := fun i => if i = 5 then 18446744073709551615#64 else 0#64
def n4E : Nat → BitVec 64 := stE n4 0 0#64 77#64 false 0#64
theorem e_n4 (w : World) : Calls Try.prog 15 #[.agg (stC n4), .int .u8 0, .int .u64 0, .agg #[.int .u8 77, .bool false, .int .u64 0]] w fun e w' => e = .returned (.tuple #[.agg (stC n4E), .int .u8 3, .int .u64 0]) ∧ Fr [] w w' := by
  have h := enter_any n4 0 0#64 77#64 0#64 false w (by decide) (by decide)
  rw [show rm 0 = 0 from rfl, show lvE n4 0 77#64 false = 3 by decide +kernel, show U (wyE n4 0 77#64 false) = 0 by decide +kernel] at h
  exact h
def r1 : Nat → BitVec 64 := fun i => if i = 8 then 68#64 else if i = 1 then 133248#64 else 0#64
def r2 : Nat → BitVec 64 := fun i => if i = 14 then 70#64 else if i = 1 then 131328#64 else 0#64
def r3 : Nat → BitVec 64 := fun i => if i = 1 then 137216#64 else 0#64
theorem b_r1 (w : World) : Calls Try.prog 19 #[.agg (stC r1)] w fun e w' => e = .returned (.tuple #[.agg (stC (mrS r1)), .int .u8 1, .int .u64 68]) ∧ Fr [] w w' := by
  have h := mret_any r1 w
  rw [show rm (U (mpp r1)) = 1 by decide +kernel] at h
  exact h
theorem b_r3 (w : World) : Calls Try.prog 19 #[.agg (stC r3)] w fun e w' => e = .returned (.tuple #[.agg (stC (mrS r3)), .int .u8 3, .int .u64 0]) ∧ Fr [] w w' := by
  have h := mret_any r3 w
  rw [show rm (U (mpp r3)) = 3 by decide +kernel] at h
  exact h
theorem b_r2 (w : World) : Calls Try.prog 21 #[.agg (stC r2), .int .u8 1] w fun e w' => e = .returned (.tuple #[.agg (stC (srS r2)), .int .u8 1, .int .u64 70]) ∧ Fr [] w w' := by
  have h := sret_any r2 1 w
  rw [show srL r2 = 1 by decide +kernel] at h
  exact h

theorem lit_kE (w : World) : Calls Try.prog 12 #[.agg #[.int .u64 0, .int .u64 0, .int .u64 0, .int .u64 2730, .int .u64 0, .int .u64 0, .int .u64 0, .int .u64 0, .int .u64 0, .int .u64 0, .int .u64 0, .int .u64 0, .int .u64 0, .int .u64 0, .int .u64 0, .int .u64 0, .int .u64 0, .int .u64 0, .int .u64 0, .int .u64 0, .int .u64 0, .int .u64 0, .int .u64 0, .int .u64 0, .int .u64 0, .int .u64 0, .int .u64 0, .int .u64 0, .int .u64 0, .int .u64 0, .int .u64 0]] w fun e w' => e = .returned (.bool false) ∧ Fr [] w w' := a_kE w
theorem lit_kF (w : World) : Calls Try.prog 12 #[.agg #[.int .u64 0, .int .u64 0, .int .u64 8, .int .u64 0, .int .u64 8, .int .u64 0, .int .u64 0, .int .u64 0, .int .u64 0, .int .u64 0, .int .u64 0, .int .u64 0, .int .u64 0, .int .u64 0, .int .u64 0, .int .u64 0, .int .u64 0, .int .u64 0, .int .u64 0, .int .u64 0, .int .u64 0, .int .u64 0, .int .u64 0, .int .u64 0, .int .u64 0, .int .u64 0, .int .u64 0, .int .u64 0, .int .u64 0, .int .u64 0, .int .u64 0]] w fun e w' => e = .returned (.bool true) ∧ Fr [] w w' := a_kF w
theorem lit_kG (w : World) : Calls Try.prog 12 #[.agg #[.int .u64 0, .int .u64 0, .int .u64 1, .int .u64 1, .int .u64 0, .int .u64 0, .int .u64 0, .int .u64 0, .int .u64 0, .int .u64 0, .int .u64 0, .int .u64 0, .int .u64 0, .int .u64 0, .int .u64 0, .int .u64 0, .int .u64 0, .int .u64 0, .int .u64 0, .int .u64 0, .int .u64 0, .int .u64 0, .int .u64 0, .int .u64 0, .int .u64 0, .int .u64 0, .int .u64 0, .int .u64 0, .int .u64 0, .int .u64 0, .int .u64 0]] w fun e w' => e = .returned (.bool false) ∧ Fr [] w w' := a_kG w
theorem lit_n1 (w : World) : Calls Try.prog 15 #[.agg #[.int .u64 0, .int .u64 8, .int .u64 0, .int .u64 0, .int .u64 0, .int .u64 0, .int .u64 0, .int .u64 32769, .int .u64 0, .int .u64 0, .int .u64 0, .int .u64 0, .int .u64 0, .int .u64 0, .int .u64 0, .int .u64 0, .int .u64 0, .int .u64 0, .int .u64 0, .int .u64 0, .int .u64 0, .int .u64 0, .int .u64 0, .int .u64 0, .int .u64 0, .int .u64 0, .int .u64 0, .int .u64 0, .int .u64 0, .int .u64 0, .int .u64 0], .int .u8 1, .int .u64 16, .agg #[.int .u8 7, .bool true, .int .u64 9]] w fun e w' => e = .returned (.tuple #[.agg (stC n1E), .int .u8 3, .int .u64 32796]) ∧ Fr [] w w' := e_n1 w
theorem lit_n2 (w : World) : Calls Try.prog 15 #[.agg #[.int .u64 0, .int .u64 2, .int .u64 0, .int .u64 0, .int .u64 0, .int .u64 8192, .int .u64 0, .int .u64 0, .int .u64 0, .int .u64 0, .int .u64 0, .int .u64 0, .int .u64 0, .int .u64 36865, .int .u64 0, .int .u64 0, .int .u64 0, .int .u64 0, .int .u64 0, .int .u64 0, .int .u64 0, .int .u64 0, .int .u64 0, .int .u64 0, .int .u64 0, .int .u64 0, .int .u64 0, .int .u64 0, .int .u64 0, .int .u64 0, .int .u64 0], .int .u8 1, .int .u64 32, .agg #[.int .u8 13, .bool false, .int .u64 5]] w fun e w' => e = .returned (.tuple #[.agg (stC n2E), .int .u8 1, .int .u64 36864]) ∧ Fr [] w w' := e_n2 w
theorem lit_n3 (w : World) : Calls Try.prog 15 #[.agg #[.int .u64 0, .int .u64 0, .int .u64 0, .int .u64 0, .int .u64 0, .int .u64 8192, .int .u64 0, .int .u64 0, .int .u64 0, .int .u64 0, .int .u64 0, .int .u64 0, .int .u64 0, .int .u64 0, .int .u64 0, .int .u64 0, .int .u64 0, .int .u64 0, .int .u64 0, .int .u64 0, .int .u64 0, .int .u64 0, .int .u64 0, .int .u64 0, .int .u64 0, .int .u64 0, .int .u64 0, .int .u64 0, .int .u64 0, .int .u64 0, .int .u64 0], .int .u8 3, .int .u64 0, .agg #[.int .u8 13, .bool false, .int .u64 0]] w fun e w' => e = .returned (.tuple #[.agg (stC n3E), .int .u8 3, .int .u64 0]) ∧ Fr [] w w' := e_n3 w
theorem lit_n4 (w : World) : Calls Try.prog 15 #[.agg #[.int .u64 0, .int .u64 0, .int .u64 0, .int .u64 0, .int .u64 0, .int .u64 18446744073709551615, .int .u64 0, .int .u64 0, .int .u64 0, .int .u64 0, .int .u64 0, .int .u64 0, .int .u64 0, .int .u64 0, .int .u64 0, .int .u64 0, .int .u64 0, .int .u64 0, .int .u64 0, .int .u64 0, .int .u64 0, .int .u64 0, .int .u64 0, .int .u64 0, .int .u64 0, .int .u64 0, .int .u64 0, .int .u64 0, .int .u64 0, .int .u64 0, .int .u64 0], .int .u8 0, .int .u64 0, .agg #[.int .u8 77, .bool false, .int .u64 0]] w fun e w' => e = .returned (.tuple #[.agg (stC n4E), .int .u8 3, .int .u64 0]) ∧ Fr [] w w' := e_n4 w
theorem lit_r1 (w : World) : Calls Try.prog 19 #[.agg #[.int .u64 0, .int .u64 133248, .int .u64 0, .int .u64 0, .int .u64 0, .int .u64 0, .int .u64 0, .int .u64 0, .int .u64 68, .int .u64 0, .int .u64 0, .int .u64 0, .int .u64 0, .int .u64 0, .int .u64 0, .int .u64 0, .int .u64 0, .int .u64 0, .int .u64 0, .int .u64 0, .int .u64 0, .int .u64 0, .int .u64 0, .int .u64 0, .int .u64 0, .int .u64 0, .int .u64 0, .int .u64 0, .int .u64 0, .int .u64 0, .int .u64 0]] w fun e w' => e = .returned (.tuple #[.agg (stC (mrS r1)), .int .u8 1, .int .u64 68]) ∧ Fr [] w w' := b_r1 w
theorem lit_r3 (w : World) : Calls Try.prog 19 #[.agg #[.int .u64 0, .int .u64 137216, .int .u64 0, .int .u64 0, .int .u64 0, .int .u64 0, .int .u64 0, .int .u64 0, .int .u64 0, .int .u64 0, .int .u64 0, .int .u64 0, .int .u64 0, .int .u64 0, .int .u64 0, .int .u64 0, .int .u64 0, .int .u64 0, .int .u64 0, .int .u64 0, .int .u64 0, .int .u64 0, .int .u64 0, .int .u64 0, .int .u64 0, .int .u64 0, .int .u64 0, .int .u64 0, .int .u64 0, .int .u64 0, .int .u64 0]] w fun e w' => e = .returned (.tuple #[.agg (stC (mrS r3)), .int .u8 3, .int .u64 0]) ∧ Fr [] w w' := b_r3 w
theorem lit_r2 (w : World) : Calls Try.prog 21 #[.agg #[.int .u64 0, .int .u64 131328, .int .u64 0, .int .u64 0, .int .u64 0, .int .u64 0, .int .u64 0, .int .u64 0, .int .u64 0, .int .u64 0, .int .u64 0, .int .u64 0, .int .u64 0, .int .u64 0, .int .u64 70, .int .u64 0, .int .u64 0, .int .u64 0, .int .u64 0, .int .u64 0, .int .u64 0, .int .u64 0, .int .u64 0, .int .u64 0, .int .u64 0, .int .u64 0, .int .u64 0, .int .u64 0, .int .u64 0, .int .u64 0, .int .u64 0], .int .u8 1] w fun e w' => e = .returned (.tuple #[.agg (stC (srS r2)), .int .u8 1, .int .u64 70]) ∧ Fr [] w w' := b_r2 w
theorem c_n1E9 {w : World} {b : Nat} (h : w.heap[b]? = some (.cells (stC (n1E)) 25)) : w.cell? ⟨b, 9, none⟩ = some (.int .u64 9223372036854775815) := by
  rw [blk_cell h]
  show some (Value.int .u64 (U ((n1E) 9))) = _
  rw [show U ((n1E) 9) = 9223372036854775815 by decide +kernel]
theorem c_n1E8 {w : World} {b : Nat} (h : w.heap[b]? = some (.cells (stC (n1E)) 25)) : w.cell? ⟨b, 8, none⟩ = some (.int .u64 16) := by
  rw [blk_cell h]
  show some (Value.int .u64 (U ((n1E) 8))) = _
  rw [show U ((n1E) 8) = 16 by decide +kernel]
theorem c_n1E10 {w : World} {b : Nat} (h : w.heap[b]? = some (.cells (stC (n1E)) 25)) : w.cell? ⟨b, 10, none⟩ = some (.int .u64 0) := by
  rw [blk_cell h]
  show some (Value.int .u64 (U ((n1E) 10))) = _
  rw [show U ((n1E) 10) = 0 by decide +kernel]
theorem c_n1E1 {w : World} {b : Nat} (h : w.heap[b]? = some (.cells (stC (n1E)) 25)) : w.cell? ⟨b, 1, none⟩ = some (.int .u64 2176) := by
  rw [blk_cell h]
  show some (Value.int .u64 (U ((n1E) 1))) = _
  rw [show U ((n1E) 1) = 2176 by decide +kernel]
theorem c_n2E15 {w : World} {b : Nat} (h : w.heap[b]? = some (.cells (stC (n2E)) 25)) : w.cell? ⟨b, 15, none⟩ = some (.int .u64 13) := by
  rw [blk_cell h]
  show some (Value.int .u64 (U ((n2E) 15))) = _
  rw [show U ((n2E) 15) = 13 by decide +kernel]
theorem c_n2E16 {w : World} {b : Nat} (h : w.heap[b]? = some (.cells (stC (n2E)) 25)) : w.cell? ⟨b, 16, none⟩ = some (.int .u64 5) := by
  rw [blk_cell h]
  show some (Value.int .u64 (U ((n2E) 16))) = _
  rw [show U ((n2E) 16) = 5 by decide +kernel]
theorem c_n2E14 {w : World} {b : Nat} (h : w.heap[b]? = some (.cells (stC (n2E)) 25)) : w.cell? ⟨b, 14, none⟩ = some (.int .u64 32) := by
  rw [blk_cell h]
  show some (Value.int .u64 (U ((n2E) 14))) = _
  rw [show U ((n2E) 14) = 32 by decide +kernel]
theorem c_n2E1 {w : World} {b : Nat} (h : w.heap[b]? = some (.cells (stC (n2E)) 25)) : w.cell? ⟨b, 1, none⟩ = some (.int .u64 288) := by
  rw [blk_cell h]
  show some (Value.int .u64 (U ((n2E) 1))) = _
  rw [show U ((n2E) 1) = 288 by decide +kernel]
theorem c_n2E8 {w : World} {b : Nat} (h : w.heap[b]? = some (.cells (stC (n2E)) 25)) : w.cell? ⟨b, 8, none⟩ = some (.int .u64 0) := by
  rw [blk_cell h]
  show some (Value.int .u64 (U ((n2E) 8))) = _
  rw [show U ((n2E) 8) = 0 by decide +kernel]
theorem c_mrSr11 {w : World} {b : Nat} (h : w.heap[b]? = some (.cells (stC (mrS r1)) 25)) : w.cell? ⟨b, 1, none⟩ = some (.int .u64 136) := by
  rw [blk_cell h]
  show some (Value.int .u64 (U ((mrS r1) 1))) = _
  rw [show U ((mrS r1) 1) = 136 by decide +kernel]
theorem c_srSr21 {w : World} {b : Nat} (h : w.heap[b]? = some (.cells (stC (srS r2)) 25)) : w.cell? ⟨b, 1, none⟩ = some (.int .u64 32) := by
  rw [blk_cell h]
  show some (Value.int .u64 (U ((srS r2) 1))) = _
  rw [show U ((srS r2) 1) = 32 by decide +kernel]
theorem c_mrSr31 {w : World} {b : Nat} (h : w.heap[b]? = some (.cells (stC (mrS r3)) 25)) : w.cell? ⟨b, 1, none⟩ = some (.int .u64 131200) := by
  rw [blk_cell h]
  show some (Value.int .u64 (U ((mrS r3) 1))) = _
  rw [show U ((mrS r3) 1) = 131200 by decide +kernel]

set_option maxRecDepth 100000 in
set_option maxHeartbeats 16000000 in
theorem law_TrapKnown (w : World) : Calls Try.prog 9 #[] w fun e w' => e = .returned (.bool true) ∧ Fr [] w w' := by
  have hF := Fr.refl [] w
  go_enter Try.func9, Try.ntmps9
  go_upto_region 2 with (first | (go_at_call 23; refine (given_any _).mono ?_; rintro e w4 ⟨rfl, hd⟩; replace hF := hF.trans hd; clear hd) | (refine wpList_store_whole rfl 25 _ _ rfl (w4.heap.size) rfl (stC givenS) rfl 25 _ (blk_alloc (blk_alloc (blk_alloc (blk_new _ _) _) _) _) rfl (size25' _) (oneCell_stC _) ?_; intro v0 g0 f0) | (refine wpList_store_whole rfl 25 _ _ rfl (w4.heap.size + 1) rfl (stC givenS) rfl 25 _ (f0.keeps (blk_alloc (blk_alloc (blk_new' (by simp) _) _) _) (by simp; try omega)) rfl (size25' _) (oneCell_stC _) ?_; intro v1 g1 f1) | (refine wpList_store_whole rfl 25 _ _ rfl (w4.heap.size + 1 + 1) rfl (stC givenS) rfl 25 _ (f1.keeps (f0.keeps (blk_alloc (blk_new' (by simp) _) _) (by simp; try omega)) (by simp; try omega)) rfl (size25' _) (oneCell_stC _) ?_; intro v2 g2 f2) | (refine wpList_store_whole rfl 25 _ _ rfl (w4.heap.size + 1 + 1 + 1) rfl (stC givenS) rfl 25 _ (f2.keeps (f1.keeps (f0.keeps (blk_new' (by simp) _) (by simp; try omega)) (by simp; try omega)) (by simp; try omega)) rfl (size25' _) (oneCell_stC _) ?_; intro v3 g3 f3))
  have hlt : w.heap.size ≤ w4.heap.size := hF.size
  refine world_at (fun W0 => W0.heap[w4.heap.size]? = some (.cells (stC givenS) 25) ∧ W0.heap[w4.heap.size + 1]? = some (.cells (stC givenS) 25) ∧ W0.heap[w4.heap.size + 1 + 1]? = some (.cells (stC givenS) 25) ∧ W0.heap[w4.heap.size + 1 + 1 + 1]? = some (.cells (stC givenS) 25) ∧ Fr [] w W0) ⟨(f3.keeps (f2.keeps (f1.keeps g0 (by simp; try omega)) (by simp; try omega)) (by simp; try omega)), (f3.keeps (f2.keeps g1 (by simp; try omega)) (by simp; try omega)), (f3.keeps g2 (by simp; try omega)), g3, ((((((((hF.alloc _).alloc _).alloc _).alloc _).step f0 (fun j hj => .inr (by have := hF.size; simp at hj; omega))).step f1 (fun j hj => .inr (by have := hF.size; simp at hj; omega))).step f2 (fun j hj => .inr (by have := hF.size; simp at hj; omega))).step f3 (fun j hj => .inr (by have := hF.size; simp at hj; omega)))⟩ ?_
  clear hF f0 f1 f2 f3 g0 g1 g2 g3
  rintro W0 ⟨bA, bB, bC, bD, hF⟩
  have HA := hid bA
  have HB := hid bB
  have HC := hid bC
  have HD := hid bD
  clear bA bB bC bD
  have cA := blk_cell HA.out
  have cB := blk_cell HB.out
  have cC := blk_cell HC.out
  have cD := blk_cell HD.out
  have fA := blk_free HA.out
  have fB := blk_free HB.out
  have fC := blk_free HC.out
  have fD := blk_free HD.out
  go_upto_region 9 with (fail)
  refine world_at (fun W1 => W1.heap[w4.heap.size]? = some (.cells (stC kA) 25) ∧ W1.heap[w4.heap.size + 1]? = some (.cells (stC kB) 25) ∧ W1.heap[w4.heap.size + 1 + 1]? = some (.cells (stC kC) 25) ∧ W1.heap[w4.heap.size + 1 + 1 + 1]? = some (.cells (stC kD) 25) ∧ Fr [] w W1) ⟨(blk_set_keep (blk_set_keep (blk_set_keep (blk_set_keep (blk_set_keep (blk_set_keep (st_set HA.out 1 8#64) _ _ (by dsimp only; omega)) _ _ (by dsimp only; omega)) _ _ (by dsimp only; omega)) _ _ (by dsimp only; omega)) _ _ (by dsimp only; omega)) _ _ (by dsimp only; omega)), (blk_set_keep (blk_set_keep (blk_set_keep (blk_set_keep (blk_set_keep (st_set (blk_set_keep HB.out _ _ (by dsimp only; omega)) 6 546#64) _ _ (by dsimp only; omega)) _ _ (by dsimp only; omega)) _ _ (by dsimp only; omega)) _ _ (by dsimp only; omega)) _ _ (by dsimp only; omega)), (blk_set_keep (blk_set_keep (blk_set_keep (st_set (st_set (blk_set_keep (blk_set_keep HC.out _ _ (by dsimp only; omega)) _ _ (by dsimp only; omega)) 6 546#64) 4 0#64) _ _ (by dsimp only; omega)) _ _ (by dsimp only; omega)) _ _ (by dsimp only; omega)), (st_set (st_set (st_set (blk_set_keep (blk_set_keep (blk_set_keep (blk_set_keep HD.out _ _ (by dsimp only; omega)) _ _ (by dsimp only; omega)) _ _ (by dsimp only; omega)) _ _ (by dsimp only; omega)) 6 546#64) 4 0#64) 1 2#64), (((((((hF.setCell (.inr (by dsimp only; omega)) _).setCell (.inr (by dsimp only; omega)) _).setCell (.inr (by dsimp only; omega)) _).setCell (.inr (by dsimp only; omega)) _).setCell (.inr (by dsimp only; omega)) _).setCell (.inr (by dsimp only; omega)) _).setCell (.inr (by dsimp only; omega)) _)⟩ ?_
  clear HA HB HC HD hF cA cB cC cD fA fB fC fD
  rintro W1 ⟨bA, bB, bC, bD, hF⟩
  have HA := hid bA
  have HB := hid bB
  have HC := hid bC
  have HD := hid bD
  clear bA bB bC bD
  go_cut [83] (fun v wc => v = .bool false ∧ Fr [] w wc)
  case first =>
    go_wp2_with (first | (refine wpList_load_row_g (by rfl) 25 _ rfl (w4.heap.size) rfl 25 (stC kA) (0, 0) _ HA.out Try.underlying25 rfl (size25' _) ?_) | (refine wpList_load_row_g (by rfl) 25 _ rfl (w4.heap.size + 1) rfl 25 (stC kB) (0, 0) _ HB.out Try.underlying25 rfl (size25' _) ?_) | (refine wpList_load_row_g (by rfl) 25 _ rfl (w4.heap.size + 1 + 1) rfl 25 (stC kC) (0, 0) _ HC.out Try.underlying25 rfl (size25' _) ?_) | (refine wpList_load_row_g (by rfl) 25 _ rfl (w4.heap.size + 1 + 1 + 1) rfl 25 (stC kD) (0, 0) _ HD.out Try.underlying25 rfl (size25' _) ?_) | ((first | (go_at_call 14; ((with_reducible refine (works_any _).mono ?_))) | (go_at_call 24; ((with_reducible refine (p_kA_3 _).mono ?_))) | (go_at_call 24; ((with_reducible refine (p_kB_0 _).mono ?_))) | (go_at_call 24; ((with_reducible refine (p_kC_0 _).mono ?_))) | (go_at_call 24; ((with_reducible refine (p_kC_1 _).mono ?_))) | (go_at_call 24; ((with_reducible refine (p_kD_1 _).mono ?_))) | (go_at_call 24; ((with_reducible refine (p_kD_3 _).mono ?_))) | (go_at_call 24; ((with_reducible refine (p_kD_2 _).mono ?_))) | (go_at_call 12; ((with_reducible refine (lit_kE _).mono ?_))) | (go_at_call 12; ((with_reducible refine (lit_kF _).mono ?_))) | (go_at_call 12; ((with_reducible refine (lit_kG _).mono ?_)))); rintro e w9 ⟨rfl, hd⟩; replace hF := hF.trans hd; replace HA := hid (hd.keeps HA.out (by simp)); replace HB := hid (hd.keeps HB.out (by simp)); replace HC := hid (hd.keeps HC.out (by simp)); replace HD := hid (hd.keeps HD.out (by simp)); clear hd))
    go_meet
    case rel => exact ⟨rfl, hF⟩
  case rest =>
    clear hF HA HB HC HD hlt
    obtain ⟨rfl, hF⟩ := hcut
    go_upto_region 12 with (first | (go_at_call 15; ((with_reducible refine (lit_n1 _).mono ?_)); rintro e wa1 ⟨rfl, hd⟩) | (refine wpList_store_whole rfl 25 _ _ rfl wa1.heap.size rfl (stC (n1E)) rfl 25 _ (blk_new _ _) rfl (size25' _) (oneCell_stC _) ?_; intro wb1 hb1 hfr))
    have hd2 : Fr [] _ wb1 := (hd.alloc _).step hfr (fun j hj => .inr (by have := hd.size; simp at hj; omega))
    have hF2 : Fr [] w wb1 := hF.trans hd2
    have hbl : w.heap.size ≤ wa1.heap.size := Nat.le_trans hF.size hd.size
    have HB := hid hb1
    clear hb1 hfr hd hd2 hF
    have hF := hF2
    clear hF2
    go_cut [116] (fun v wc => v = .bool false ∧ Fr [] w wc ∧ wc.heap[wa1.heap.size]? = some (.cells (stC n1E) 25))
    case first =>
      have c9 := c_n1E9 HB.out
      have c8 := c_n1E8 HB.out
      have c10 := c_n1E10 HB.out
      have c1 := c_n1E1 HB.out
      go_wp2_with (fail)
      go_meet
      case rel => exact ⟨rfl, hF, HB.out⟩
    case rest =>
    clear hF HB
    obtain ⟨rfl, hF, hb⟩ := hcut
    have HB := hid hb
    clear hb
    go_upto_region 15 with (first | (go_at_call 15; ((with_reducible refine (lit_n2 _).mono ?_)); rintro e wa2 ⟨rfl, hd⟩) | (refine wpList_store_whole rfl 25 _ _ rfl wa1.heap.size rfl (stC (n2E)) rfl 25 _ (hd.keeps HB.out (by simp)) rfl (size25' _) (oneCell_stC _) ?_; intro wb2 hb2 hfr))
    have hF2 : Fr [] w wb2 := (hF.trans hd).step hfr (fun j hj => .inr (by simp at hj; subst hj; exact hbl))
    clear HB
    have HB := hid hb2
    clear hb2 hfr hd hF
    have hF := hF2
    clear hF2
    go_cut [154] (fun v wc => v = .bool false ∧ Fr [] w wc)
    case first =>
      have c15 := c_n2E15 HB.out
      have c16 := c_n2E16 HB.out
      have c14 := c_n2E14 HB.out
      have c1 := c_n2E1 HB.out
      have c8 := c_n2E8 HB.out
      go_wp2_with (fail)
      go_meet
      case rel => exact ⟨rfl, hF⟩
    case rest =>
    clear hF HB
    obtain ⟨rfl, hF⟩ := hcut
    go_upto_region 18 with (first | (go_at_call 15; ((with_reducible refine (lit_n3 _).mono ?_)); rintro e wa3 ⟨rfl, hd⟩) | (refine wpList_store_whole rfl 25 _ _ rfl wa3.heap.size rfl (stC (n3E)) rfl 25 _ (blk_new _ _) rfl (size25' _) (oneCell_stC _) ?_; intro wb3 hb3 hfr))
    have hd2 : Fr [] _ wb3 := (hd.alloc _).step hfr (fun j hj => .inr (by have := hd.size; simp at hj; omega))
    have hF2 : Fr [] w wb3 := hF.trans hd2
    clear hb3 hfr hd hd2 hF
    have hF := hF2
    clear hF2
    go_upto_region 19 with (first | (go_at_call 15; ((with_reducible refine (lit_n4 _).mono ?_)); rintro e wa4 ⟨rfl, hd⟩) | (refine wpList_store_whole rfl 25 _ _ rfl wa4.heap.size rfl (stC (n4E)) rfl 25 _ (blk_new _ _) rfl (size25' _) (oneCell_stC _) ?_; intro wb4 hb4 hfr))
    have hd2 : Fr [] _ wb4 := (hd.alloc _).step hfr (fun j hj => .inr (by have := hd.size; simp at hj; omega))
    have hF2 : Fr [] w wb4 := hF.trans hd2
    clear hb4 hfr hd hd2 hF
    have hF := hF2
    clear hF2
    go_upto_region 20 with (first | (go_at_call 19; ((with_reducible refine (lit_r1 _).mono ?_)); rintro e wa5 ⟨rfl, hd⟩) | (refine wpList_store_whole rfl 25 _ _ rfl wa5.heap.size rfl (stC (mrS r1)) rfl 25 _ (blk_new _ _) rfl (size25' _) (oneCell_stC _) ?_; intro wb5 hb5 hfr))
    have hd2 : Fr [] _ wb5 := (hd.alloc _).step hfr (fun j hj => .inr (by have := hd.size; simp at hj; omega))
    have hF2 : Fr [] w wb5 := hF.trans hd2
    have H5 := hid hb5
    clear hb5 hfr hd hd2 hF
    have hF := hF2
    clear hF2
    go_upto_region 21 with (first | (go_at_call 21; ((with_reducible refine (lit_r2 _).mono ?_)); rintro e wa6 ⟨rfl, hd⟩) | (refine wpList_store_whole rfl 25 _ _ rfl wa6.heap.size rfl (stC (srS r2)) rfl 25 _ (blk_new _ _) rfl (size25' _) (oneCell_stC _) ?_; intro wb6 hb6 hfr))
    have hd2 : Fr [] _ wb6 := (hd.alloc _).step hfr (fun j hj => .inr (by have := hd.size; simp at hj; omega))
    have hF2 : Fr [] w wb6 := hF.trans hd2
    replace H5 := hid (hd2.keeps H5.out (by simp))
    have H6 := hid hb6
    clear hb6 hfr hd hd2 hF
    have hF := hF2
    clear hF2
    go_upto_region 22 with (first | (go_at_call 19; ((with_reducible refine (lit_r3 _).mono ?_)); rintro e wa7 ⟨rfl, hd⟩) | (refine wpList_store_whole rfl 25 _ _ rfl wa7.heap.size rfl (stC (mrS r3)) rfl 25 _ (blk_new _ _) rfl (size25' _) (oneCell_stC _) ?_; intro wb7 hb7 hfr))
    have hd2 : Fr [] _ wb7 := (hd.alloc _).step hfr (fun j hj => .inr (by have := hd.size; simp at hj; omega))
    have hF2 : Fr [] w wb7 := hF.trans hd2
    replace H5 := hid (hd2.keeps H5.out (by simp))
    replace H6 := hid (hd2.keeps H6.out (by simp))
    have H7 := hid hb7
    clear hb7 hfr hd hd2 hF
    have hF := hF2
    clear hF2
    have c5 := c_mrSr11 H5.out
    have c6 := c_srSr21 H6.out
    have c7 := c_mrSr31 H7.out
    go_wp2_with (go_at_call 14; ((with_reducible refine (works_any _).mono ?_)); rintro e w9 ⟨rfl, hd⟩; replace hF := hF.trans hd; clear hd)
    go_ret
    exact ⟨rfl, hF⟩
end Go.Proofs.Ytfdkmkblhicbfaa
