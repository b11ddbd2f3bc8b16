/- Contract of which register operation answers as an operation does. -/
import Derived.Test.YtajbfnihgonppaaHOps
import Derived.Test.YtajbfnihgonppaaPAx0
namespace Go.Proofs.Ytajbfnihgonppaa.PA
open Go.RowKit
set_option linter.all false
def alu_Reg.f (a0 : Int) : Option (Int × Bool) := some (if regIs a0 = true then (regV a0, true) else if isOp a0 = true then (a0, true) else (0, false))
theorem ret_ub {a b : Int} {x y : Bool} (h : a = b) (k : x = y) : Ending.returned (.tuple #[.int .u8 a, .bool x]) = .returned (.tuple #[.int .u8 b, .bool y]) := by rw [h, k]
set_option maxRecDepth 100000 in
set_option maxHeartbeats 4000000 in
theorem alu_Reg.calls (a0 : Int) (r1 : Int) (r2 : Bool) (w : World) (h : alu_Reg.f a0 = some (r1, r2)) : Calls Try.prog 30 #[.int .u8 a0] w fun e w' => e = .returned (.tuple #[.int .u8 r1, .bool r2]) ∧ Below w.heap.size w w' := by
  unfold alu_Reg.f at h
  have hmm := run_makeMap_lit (P := Try.prog) .u8
  have hins0 := run_insert_lit0 (P := Try.prog) Try.underlying71 Try.underlying5
  have hins := run_insert_lit (P := Try.prog) Try.underlying71 Try.underlying5
  have hlk := reg_look
  have hlo := ops_look1
  have hn1 := neq_nil
  have hn2 := neq_fn
  cases hb : regIs a0
  · rw [hb] at h
    cases ho : isOp a0
    · rw [ho] at h
      have hv := opV_no ho
      simp at h
      obtain ⟨rfl, rfl⟩ := h
      go_enter Try.func30, Try.ntmps30
      go_wp2_with (go_at_call 39; refine (ops_any _).mono ?_; rintro e w' ⟨rfl, rfl⟩)
      go_ret2
      exact ⟨rfl, below_of_fr (((Fr.refl _ _).alloc _).alloc _)⟩
    · rw [ho] at h
      obtain ⟨g, hv⟩ := opV_is ho
      simp at h
      obtain ⟨rfl, rfl⟩ := h
      go_enter Try.func30, Try.ntmps30
      go_wp2_with (go_at_call 39; refine (ops_any _).mono ?_; rintro e w' ⟨rfl, rfl⟩)
      go_ret2
      exact ⟨rfl, below_of_fr (((Fr.refl _ _).alloc _).alloc _)⟩
  · rw [hb] at h
    simp at h
    obtain ⟨rfl, rfl⟩ := h
    go_enter Try.func30, Try.ntmps30
    go_wp2
    go_ret2
    exact ⟨rfl, below_of_fr ((Fr.refl _ _).alloc _)⟩
end Go.Proofs.Ytajbfnihgonppaa.PA
