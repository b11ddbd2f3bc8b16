/- Contract of inst.Decode in the form of the print. -/
import Derived.Test.YtogdifjdlkpehaaHDec5
namespace Go.Proofs.Ytogdifjdlkpehaa.PA
open Go.RowKit Go.Proofs.YtogdifjdlkpehaaW.PrintWords Go.Proofs.YtogdifjdlkpehaaW.PrintLast Go.Proofs.YtogdifjdlkpehaaW.PrintMore
set_option linter.all false
theorem below_of_fr'' {W w' : World} (h : Fr [] W w') : Below W.heap.size W w' := h.below (Nat.le_refl _) (by simp)
def inst_Decode.f (a0 : Int) : Option (Int × Int × Int × Int × Int × Int × Int) := if 0 ≤ a0 ∧ a0 < 4294967296 then some (decT a0) else none
theorem inst_Decode.calls (a0 : Int) (r1 r2 r3 r4 r5 r6 r7 : Int) (w : World) (h : inst_Decode.f a0 = some (r1, r2, r3, r4, r5, r6, r7)) :
    Calls Try.prog 9 #[.int .u32 a0] w fun e w' => e = .returned (.agg #[.int .u8 r1, .int .u8 r2, .int .u8 r3, .int .u8 r4, .int .i64 r5, .int .u16 r6, .int .u8 r7]) ∧ Below w.heap.size w w' := by
  unfold inst_Decode.f at h
  split at h
  · rename_i hp
    have := dec_any (p := a0) hp w
    rw [Option.some.inj h] at this
    refine this.mono ?_
    rintro e w' ⟨rfl, hf⟩
    exact ⟨rfl, below_of_fr'' hf⟩
  · cases h
end Go.Proofs.Ytogdifjdlkpehaa.PA
