/- Which branches are taken, of any two numbers, of the program and of its reference, is the same. Under no condition. -/
import Derived.Test.YtfjdbiinkonhhaaPAx5
import Derived.Test.YtfjdbiinkonhhaaPlain
namespace Go.Proofs.Ytfjdbiinkonhhaa.Pure
open Go.RowKit Go.Proofs.Ytfjdbiinkonhhaa.PA Go.Proofs.Ytfjdbiinkonhhaa.Plain Go.Proofs.YtfjdbiinkonhhaaW.PrintWords Go.Proofs.YtfjdbiinkonhhaaW.PrintLast Go.Proofs.YtfjdbiinkonhhaaW.PrintMore
set_option linter.all false
theorem AluBranches : almonrylaw02_AluBranches.Pure := by
  intro a0 a1 a2 h0 h1 h2
  have n1 := N64.of h1
  have n2 := N64.of h2
  have b0 := bounds_u8 h0
  refine ⟨8, ?_⟩
  have hw : almonrylaw02_works.f 8 = some true := by decide +kernel
  have hs : alu_number_slt.f a1 a2 = some (if sg a1 < sg a2 then 1 else 0) := by
    simp only [alu_number_slt.f, alu_number_signed.f, alu_said.f, Option.bind_some, wrap64_sg n1, wrap64_sg n2]
    by_cases e : sg a1 < sg a2 <;> simp [e]
  have hu : alu_number_sltu.f a1 a2 = some (if a1 < a2 then 1 else 0) := by
    simp only [alu_number_sltu.f, alu_said.f]
    by_cases e : a1 < a2 <;> simp [e]
  have hl : almonryref02_Less.f a1 a2 = some (decide (sg a1 < sg a2)) := by
    unfold almonryref02_Less.f
    simp only [xor_lt n1 n2]
  unfold almonrylaw02_AluBranches.f
  by_cases e : a0 = 5 ∨ a0 = 6 ∨ a0 = 7 ∨ a0 = 8 ∨ a0 = 9 ∨ a0 = 10
  · rcases e with rfl | rfl | rfl | rfl | rfl | rfl
    · simp [alu_Branch.f, alu_Branch.j0, alu_Branch.j1, almonryref02_Branch.f, hw]
    · by_cases e : a1 = a2 <;> simp [alu_Branch.f, alu_Branch.j0, alu_Branch.j1, almonryref02_Branch.f, hw, e, bne]
    · by_cases e : sg a1 < sg a2 <;> simp [alu_Branch.f, alu_Branch.j0, alu_Branch.j1, almonryref02_Branch.f, hs, hl, e, hw]
    · by_cases e : sg a1 < sg a2 <;> simp [alu_Branch.f, alu_Branch.j0, alu_Branch.j1, almonryref02_Branch.f, hs, hl, e, hw]
    · by_cases e : a1 < a2 <;> simp [alu_Branch.f, alu_Branch.j0, alu_Branch.j1, almonryref02_Branch.f, hu, e, hw]
    · by_cases e : a1 < a2 <;> simp [alu_Branch.f, alu_Branch.j0, alu_Branch.j1, almonryref02_Branch.f, hu, e, hw] <;> try omega
  · simp only [not_or] at e
    obtain ⟨e5, e6, e7, e8, e9, e10⟩ := e
    simp [alu_Branch.f, alu_Branch.j0, alu_Branch.j1, almonryref02_Branch.f, hw, e5, e6, e7, e8, e9, e10]
end Go.Proofs.Ytfjdbiinkonhhaa.Pure
