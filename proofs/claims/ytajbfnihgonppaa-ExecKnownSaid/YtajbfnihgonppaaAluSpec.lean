/- Operations and branches, of the program and of its reference: the same. -/
import Derived.Test.YtajbfnihgonppaaAluEq
import Derived.Test.YtajbfnihgonppaaE0
namespace Go.Proofs.Ytajbfnihgonppaa.PA
open Go.RowKit Go.Proofs.Ytajbfnihgonppaa.Plain Go.Proofs.YtajbfnihgonppaaW.PrintWords Go.Proofs.YtajbfnihgonppaaW.PrintLast Go.Proofs.YtajbfnihgonppaaW.PrintMore
set_option linter.all false
def inR (op a b : Int) : Bool := decide (a ≤ op ∧ op ≤ b)
/-- is a branch taken? -/
def brT (op a b : Int) : Bool := if op = 5 then a == b else if op = 6 then a != b else if op = 7 then decide (sg a < sg b) else if op = 8 then !decide (sg a < sg b) else if op = 9 then decide (a < b) else if op = 10 then decide (b ≤ a) else false
theorem br_ev {op a b : Int} (n1 : N64 a) (n2 : N64 b) : alu_Branch.f 8 op a b = some (brT op a b, inR op 5 10) ∧ almonryref02_Branch.f op a b = some (brT op a b, inR op 5 10) := by
  have hs : alu_number_slt.f a b = some (if sg a < sg b then 1 else 0) := by
    simp only [alu_number_slt.f, alu_number_signed.f, alu_said.f, Option.bind_some, wrap64_sg n1, wrap64_sg n2]
    by_cases e : sg a < sg b <;> simp [e]
  have hu : alu_number_sltu.f a b = some (if a < b then 1 else 0) := by
    simp only [alu_number_sltu.f, alu_said.f]
    by_cases e : a < b <;> simp [e]
  have hl : almonryref02_Less.f a b = some (decide (sg a < sg b)) := by
    unfold almonryref02_Less.f
    simp only [xor_lt n1 n2]
  unfold brT inR
  by_cases e : op = 5 ∨ op = 6 ∨ op = 7 ∨ op = 8 ∨ op = 9 ∨ op = 10
  · rcases e with rfl | rfl | rfl | rfl | rfl | rfl
    · by_cases e : a = b <;> simp [alu_Branch.f, alu_Branch.j0, alu_Branch.j1, almonryref02_Branch.f, e]
    · by_cases e : a = b <;> simp [alu_Branch.f, alu_Branch.j0, alu_Branch.j1, almonryref02_Branch.f, e, bne]
    · by_cases e : sg a < sg b <;> simp [alu_Branch.f, alu_Branch.j0, alu_Branch.j1, almonryref02_Branch.f, hs, hl, e]
    · by_cases e : sg a < sg b <;> simp [alu_Branch.f, alu_Branch.j0, alu_Branch.j1, almonryref02_Branch.f, hs, hl, e]
    · by_cases e : a < b <;> simp [alu_Branch.f, alu_Branch.j0, alu_Branch.j1, almonryref02_Branch.f, hu, e]
    · by_cases e : a < b
      · have e' : ¬ b ≤ a := by omega
        simp [alu_Branch.f, alu_Branch.j0, alu_Branch.j1, almonryref02_Branch.f, hu, e, e']
      · have e' : b ≤ a := by omega
        simp [alu_Branch.f, alu_Branch.j0, alu_Branch.j1, almonryref02_Branch.f, hu, e, e']
  · simp only [not_or] at e
    obtain ⟨e5, e6, e7, e8, e9, e10⟩ := e
    have e' : ¬ (5 ≤ op ∧ op ≤ 10) := by omega
    simp [alu_Branch.f, alu_Branch.j0, alu_Branch.j1, almonryref02_Branch.f, e5, e6, e7, e8, e9, e10, e']
/-- what an operation answers, and whether it is one; which register operation answers so -/
def valT (op a b : Int) : Int × Bool := match alu_Do.f op a b with | some x => x | none => (0, false)
def regT (op : Int) : Int × Bool := match alu_Reg.f op with | some x => x | none => (0, false)
theorem reg_ev {op : Int} (h : 0 ≤ op ∧ op < 256) : alu_Reg.f op = some (regT op) ∧ almonryref02_Reg.f op = some (regT op) := by
  obtain ⟨hr, hc⟩ := Pure.reg_all ⟨op.toNat, by omega⟩
  have e0 : ((op.toNat : Nat) : Int) = op := by omega
  simp only [e0] at hr hc
  unfold regT
  rw [← hr]
  rcases hc with hc | ⟨r, -, hc⟩ <;> rw [hc] <;> exact ⟨rfl, rfl⟩
theorem do_ev {op a b : Int} (h : 0 ≤ op ∧ op < 256) (ha : N64 a) (hb : N64 b) : alu_Do.f op a b = some (valT op a b) ∧ almonryref02_Do.f 100 op a b = some (valT op a b) := by
  obtain ⟨hr, hc⟩ := Pure.reg_all ⟨op.toNat, by omega⟩
  have e0 : ((op.toNat : Nat) : Int) = op := by omega
  simp only [e0] at hr hc
  rcases hc with hc | ⟨r, hm, hc⟩
  · have d1 : alu_Do.f op a b = some (0, false) := by unfold alu_Do.f; rw [hc]; rfl
    have d2 : almonryref02_Do.f 100 op a b = some (0, false) := by unfold almonryref02_Do.f; rw [← hr, hc]; rfl
    unfold valT
    rw [d1, d2]
    exact ⟨rfl, rfl⟩
  · obtain ⟨v, d1, d2⟩ := Pure.same a b ha hb r hm
    have d3 : alu_Do.f op a b = some (v, true) := by
      rw [← d1]; unfold alu_Do.f; rw [hc, Pure.ops_own r hm]
    have d4 : almonryref02_Do.f 100 op a b = some (v, true) := by
      rw [Pure.rDo_f 100 op r a b (by rw [← hr]; exact hc), d2]; rfl
    unfold valT
    rw [d3, d4]
    exact ⟨rfl, rfl⟩
end Go.Proofs.Ytajbfnihgonppaa.PA
