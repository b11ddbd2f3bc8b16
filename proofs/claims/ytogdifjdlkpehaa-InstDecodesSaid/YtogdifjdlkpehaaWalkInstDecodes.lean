/- The law InstDecodes: its walk. -/
import Derived.Test.YtogdifjdlkpehaaHLaw
import Derived.Test.YtogdifjdlkpehaaDecEq2
namespace Go.Proofs.Ytogdifjdlkpehaa.PA
open Go.RowKit
set_option linter.all false
attribute [local go_sem ↓] eqg_IC eql_same eql_IC
theorem wf_u32 {a : Int} (h : (Lit.int .u32 a).wf = true) : P32 a := by
  have : 0 ≤ a ∧ a < 4294967296 := by have h2 : IntKind.u32.min = 0 := rfl; have h3 : IntKind.u32.max = 4294967295 := rfl; simp [Lit.wf] at h; omega
  exact this
set_option maxRecDepth 100000 in
set_option maxHeartbeats 4000000 in
theorem decodes_w (p : Int) (X : T7) (w : World) (h1 : Hid (∀ w, Calls Try.prog 9 #[.int .u32 p] w fun e w' => e = .returned (.agg (IC X)) ∧ Fr [] w w')) (h2 : Hid (∀ w, Calls Try.prog 10 #[.int .u32 p] w fun e w' => e = .returned (.agg (IC X)) ∧ Fr [] w w')) (h3 : Hid (∀ w, Calls Try.prog 11 #[] w fun e w' => e = .returned (.bool true) ∧ Fr [] w w')) :
    Calls Try.prog 3 #[.int .u32 p] w fun e w' => e = .returned (.bool true) ∧ Fr [] w w' := by
  go_enter Try.func3, Try.ntmps3
  go_wp2_with (first | (go_at_call 9; (with_reducible refine (h1.out _).mono ?_); rintro e w1 ⟨rfl, hd1⟩) | (go_at_call 10; (with_reducible refine (h2.out _).mono ?_); rintro e w2 ⟨rfl, hd2⟩) | (go_at_call 11; (with_reducible refine (h3.out _).mono ?_); rintro e w3 ⟨rfl, hd3⟩))
  go_ret
  exact ⟨rfl, (hd1.trans hd2).trans hd3⟩
end Go.Proofs.Ytogdifjdlkpehaa.PA
namespace Go.Proofs.Ytogdifjdlkpehaa
open PA Go.RowKit
theorem walk_InstDecodes (a0 : Int) (w : World) (w0 : (Lit.int .u32 a0).wf = true) :
    Calls Try.prog 3 #[.int .u32 a0] w fun e w' => e = .returned (.bool true) ∧ Below w.heap.size w w' :=
  (decodes_w a0 (decT a0) w (hid fun w => dec_any (wf_u32 w0) w) (hid fun w => by have := ref_any (wf_u32 w0) w; rw [ref_dec (wf_u32 w0)] at this; exact this) (hid fun w => awake_any w)).mono fun _ _ ⟨h1, h2⟩ => ⟨h1, below_of_fr'' h2⟩
end Go.Proofs.Ytogdifjdlkpehaa
