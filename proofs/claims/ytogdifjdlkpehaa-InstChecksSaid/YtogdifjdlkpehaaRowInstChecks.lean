/- The law InstChecks: for every input the call returns true, and each argument reads behind the call as it read before; under no condition of its own. The walk stands in YtogdifjdlkpehaaWalkInstChecks; this text, written by a program of this claim (lawrow.py), is the row round it. -/
import Derived.Test.YtogdifjdlkpehaaWalkInstChecks
import Derived.Test.YtogdifjdlkpehaaFlat
import Derived.Below
import Derived.Carry
namespace Go.Proofs.Ytogdifjdlkpehaa.rowInstChecks
set_option linter.all false
open Go.ChangeShapes Go.WideShapes Go.ChangeAt Go.RowKit
set_option linter.unusedVariables false

theorem own : ownKnob Try.prog.godebug = none := by kernel_rfl
theorem laidOut : laidOutB Try.prog = true := by kernel_rfl

theorem fits_cons {k : Sc} {ks : List Sc} {l : List Value} (h : fits (k :: ks) l) : ∃ x r, l = x :: r ∧ k.fit x ∧ fits ks r := by
  cases l with
  | nil => exact h.elim
  | cons x r => exact ⟨x, r, rfl, h.1, h.2⟩
theorem fits_nil {l : List Value} (h : fits [] l) : l = [] := by
  cases l with
  | nil => rfl
  | cons => exact h.elim
theorem shape0 {l : List Value} (h : fits [.num .u8, .num .u8, .num .u8, .num .u8, .num .i64, .num .u16, .num .u8] l) : ∃ (a0_0 : Int) (a0_1 : Int) (a0_2 : Int) (a0_3 : Int) (a0_4 : Int) (a0_5 : Int) (a0_6 : Int), l = [.int .u8 a0_0, .int .u8 a0_1, .int .u8 a0_2, .int .u8 a0_3, .int .i64 a0_4, .int .u16 a0_5, .int .u8 a0_6] ∧ (Lit.int .u8 a0_0).wf = true ∧ (Lit.int .u8 a0_1).wf = true ∧ (Lit.int .u8 a0_2).wf = true ∧ (Lit.int .u8 a0_3).wf = true ∧ (Lit.int .i64 a0_4).wf = true ∧ (Lit.int .u16 a0_5).wf = true ∧ (Lit.int .u8 a0_6).wf = true := by
  obtain ⟨x0, r0, rfl, ⟨a0_0, rfl, w0⟩, h0⟩ := fits_cons h
  obtain ⟨x1, r1, rfl, ⟨a0_1, rfl, w1⟩, h1⟩ := fits_cons h0
  obtain ⟨x2, r2, rfl, ⟨a0_2, rfl, w2⟩, h2⟩ := fits_cons h1
  obtain ⟨x3, r3, rfl, ⟨a0_3, rfl, w3⟩, h3⟩ := fits_cons h2
  obtain ⟨x4, r4, rfl, ⟨a0_4, rfl, w4⟩, h4⟩ := fits_cons h3
  obtain ⟨x5, r5, rfl, ⟨a0_5, rfl, w5⟩, h5⟩ := fits_cons h4
  obtain ⟨x6, r6, rfl, ⟨a0_6, rfl, w6⟩, h6⟩ := fits_cons h5
  obtain rfl := fits_nil h6
  exact ⟨a0_0, a0_1, a0_2, a0_3, a0_4, a0_5, a0_6, rfl, w0, w1, w2, w3, w4, w5, w6⟩

set_option maxRecDepth 100000 in
theorem lifted (os : Os) (started : os.Started) (H : Type) (enc : TypeId × Value → H) :
    ReturnsInHanded {} Try.checked os 4 .any (Rows.instChecksSpec.pre6 enc Try.prog Try.f4 Rows.instChecksRow.domain false) (Rows.instChecksSpec.post enc Try.prog Try.f4 false true false false) := by
  refine returnsInHanded_of_change (C := Try.checked) own started (by kernel_rfl) Try.func4
    (ChangeSpec.witness6 (enc := enc) (C := Try.checked) false ⟨#[], #[.agg #[.int .u8 0, .int .u8 0, .int .u8 0, .int .u8 0, .int .i64 0, .int .u16 0, .int .u8 0]], []⟩ 8 (by kernel_rfl) (by kernel_rfl) (by kernel_rfl) (by kernel_rfl)) ?_
  intro W base args ds gs before hval0 hW hcnd _
  have hval : ∀ (j : Nat) t v, Try.f4.params[j]? = some t → args[j]? = some v → Value.okWide Try.prog W .any base t v := hval0
  have hW' := hW
  obtain ⟨p, q, hA0, hV, rfl, hfz, hnd⟩ := hW
  have hA : DataW.TrodAll enc Try.prog W 0 (fun _ => true) true Try.f4.params.toList args.toList ds p := hA0
  rw [Try.params4] at hA hval
  obtain ⟨v0, vs0, d0, ds0, p0, q0, hargs, rfl, rfl, h0, r0⟩ := trodAll_cons hA
  obtain ⟨rfl, rfl, rfl⟩ := trodAll_nil r0
  obtain rfl : args = #[v0] := by cases args; simp_all
  obtain ⟨rfl, rfl⟩ := trodVars_none hV
  have k0 := h0
  have lt0 : ∀ x ∈ p0, x.block < W.heap.size := by obtain ⟨m, hm⟩ := k0; exact DataW.trod_lt m _ _ _ hm
  obtain ⟨⟨l0⟩, rfl, _⟩ := okWide_struct Try.underlying25 (hval 0 25 v0 rfl rfl)
  obtain ⟨a0_0, a0_1, a0_2, a0_3, a0_4, a0_5, a0_6, e0, w0_0, w0_1, w0_2, w0_3, w0_4, w0_5, w0_6⟩ := shape0 (open_flat (ks := [.num .u8, .num .u8, .num .u8, .num .u8, .num .i64, .num .u16, .num .u8]) 64 (by kernel_rfl) h0)
  simp only [Value.cells] at e0
  subst e0
  clear hA0 hval0
  refine (walk_InstChecks a0_0 a0_1 a0_2 a0_3 a0_4 a0_5 a0_6 W w0_0 w0_1 w0_2 w0_3 w0_4 w0_5 w0_6).mono fun e W' ⟨he, bel⟩ => ?_
  subst he
  exact ⟨_, rfl, _, _, _, [], _, [], hW', trodAll_mk1 (shut_bool Try.underlying4 _), (trodAll_cons_mk (Below.trod laidOut (by kernel_rfl) (of_decide_eq_true (by kernel_rfl)) k0 bel lt0) trodAll_mk0), rfl, bel.frame _, fun h => by cases h⟩

theorem over : Rows.instChecksRow.holds Try.pinned (OpenSpec.ofChange Rows.instChecksSpec) :=
  OpenClaim.holds_of_wide 4 Try.f4 rfl rfl rfl rfl rfl rfl rfl ⟨rfl, rfl, rfl, rfl, rfl⟩ rfl rfl rfl rfl rfl (by kernel_rfl) Try.func4 (by kernel_rfl)
    (of_decide_eq_true (by kernel_rfl)) (by unfold Func.isWrapper; first | (rw [if_pos (by decide +kernel)]; kernel_rfl) | (rw [if_neg (by decide +kernel)]; exact ⟨rfl, rfl⟩))
    (fun os started H enc _ => lifted os started H enc)

theorem proved : Rows.InstChecksSaid := over
#print axioms proved
end Go.Proofs.Ytogdifjdlkpehaa.rowInstChecks
