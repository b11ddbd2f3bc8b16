/- The law ClintKeeps: for every input the call returns true, and each argument reads behind the call as it read before; under no condition of its own. The walk stands in YtefhcadlakakbaaWalkClintKeeps; this text, written by a program of this claim (lawrow.py), is the row round it. -/
import Derived.Test.YtefhcadlakakbaaWalkClintKeeps
import Derived.Test.YtefhcadlakakbaaFlat
import Derived.Below
import Derived.Carry
namespace Go.Proofs.Ytefhcadlakakbaa.rowClintKeeps
set_option linter.all false
open Go.ChangeShapes Go.WideShapes Go.ChangeAt Go.RowKit
set_option linter.unusedVariables false

theorem own : ownKnob Try.prog.godebug = none := by kernel_rfl
theorem laidOut : laidOutB Try.prog = true := by kernel_rfl

theorem fits_cons {k : Sc} {ks : List Sc} {l : List Value} (h : fits (k :: ks) l) : ∃ x r, l = x :: r ∧ k.fit x ∧ fits ks r := by
  cases l with
  | nil => exact h.elim
  | cons x r => exact ⟨x, r, rfl, h.1, h.2⟩
theorem fits_nil {l : List Value} (h : fits [] l) : l = [] := by
  cases l with
  | nil => rfl
  | cons => exact h.elim
theorem shape1 {l : List Value} (h : fits [.num .u8, .num .u8, .num .u64, .num .u64, .num .i64] l) : ∃ (a1_0 : Int) (a1_1 : Int) (a1_2 : Int) (a1_3 : Int) (a1_4 : Int), l = [.int .u8 a1_0, .int .u8 a1_1, .int .u64 a1_2, .int .u64 a1_3, .int .i64 a1_4] ∧ (Lit.int .u8 a1_0).wf = true ∧ (Lit.int .u8 a1_1).wf = true ∧ (Lit.int .u64 a1_2).wf = true ∧ (Lit.int .u64 a1_3).wf = true ∧ (Lit.int .i64 a1_4).wf = true := by
  obtain ⟨x0, r0, rfl, ⟨a1_0, rfl, w0⟩, h0⟩ := fits_cons h
  obtain ⟨x1, r1, rfl, ⟨a1_1, rfl, w1⟩, h1⟩ := fits_cons h0
  obtain ⟨x2, r2, rfl, ⟨a1_2, rfl, w2⟩, h2⟩ := fits_cons h1
  obtain ⟨x3, r3, rfl, ⟨a1_3, rfl, w3⟩, h3⟩ := fits_cons h2
  obtain ⟨x4, r4, rfl, ⟨a1_4, rfl, w4⟩, h4⟩ := fits_cons h3
  obtain rfl := fits_nil h4
  exact ⟨a1_0, a1_1, a1_2, a1_3, a1_4, rfl, w0, w1, w2, w3, w4⟩

set_option maxRecDepth 100000 in
theorem lifted (os : Os) (started : os.Started) (H : Type) (enc : TypeId × Value → H) :
    ReturnsInHanded {} Try.checked os 5 .any (Rows.clintKeepsSpec.pre6 enc Try.prog Try.f5 Rows.clintKeepsRow.domain false) (Rows.clintKeepsSpec.post enc Try.prog Try.f5 false true false false) := by
  refine returnsInHanded_of_change (C := Try.checked) own started (by kernel_rfl) Try.func5
    (ChangeSpec.witness6 (enc := enc) (C := Try.checked) false ⟨#[], #[.slice none 0 0, .agg #[.int .u8 0, .int .u8 0, .int .u64 0, .int .u64 0, .int .i64 0]], []⟩ 8 (by kernel_rfl) (by kernel_rfl) (by kernel_rfl) (by kernel_rfl)) ?_
  intro W base args ds gs before hval0 hW hcnd _
  have hval : ∀ (j : Nat) t v, Try.f5.params[j]? = some t → args[j]? = some v → Value.okWide Try.prog W .any base t v := hval0
  have hW' := hW
  obtain ⟨p, q, hA0, hV, rfl, hfz, hnd⟩ := hW
  have hA : DataW.TrodAll enc Try.prog W 0 (fun _ => true) true Try.f5.params.toList args.toList ds p := hA0
  rw [Try.params5] at hA hval
  obtain ⟨v0, vs0, d0, ds0, p0, q0, hargs, rfl, rfl, h0, r0⟩ := trodAll_cons hA
  obtain ⟨v1, vs1, d1, ds1, p1, q1, rfl, rfl, rfl, h1, r1⟩ := trodAll_cons r0
  obtain ⟨rfl, rfl, rfl⟩ := trodAll_nil r1
  obtain rfl : args = #[v0, v1] := by cases args; simp_all
  obtain ⟨rfl, rfl⟩ := trodVars_none hV
  have k0 := h0
  have lt0 : ∀ x ∈ p0, x.block < W.heap.size := by obtain ⟨m, hm⟩ := k0; exact DataW.trod_lt m _ _ _ hm
  obtain ⟨a0, len0, cap0, rfl⟩ := okWide_slice Try.underlying22 (hval 0 22 v0 rfl rfl)
  obtain ⟨c0, w0⟩ := open_flat_slice (ks := [.num .u8, .num .u8, .num .u64, .num .u64, .num .i64]) Try.underlying22 64 (by kernel_rfl) (by kernel_rfl) (by decide) h0
  have k1 := h1
  have lt1 : ∀ x ∈ p1, x.block < W.heap.size := by obtain ⟨m, hm⟩ := k1; exact DataW.trod_lt m _ _ _ hm
  obtain ⟨⟨l1⟩, rfl, _⟩ := okWide_struct Try.underlying30 (hval 1 30 v1 rfl rfl)
  obtain ⟨a1_0, a1_1, a1_2, a1_3, a1_4, e1, w1_0, w1_1, w1_2, w1_3, w1_4⟩ := shape1 (open_flat (ks := [.num .u8, .num .u8, .num .u64, .num .u64, .num .i64]) 64 (by kernel_rfl) h1)
  simp only [Value.cells] at e1
  subst e1
  clear hA0 hval0
  refine (walk_ClintKeeps a0 len0 cap0 c0 a1_0 a1_1 a1_2 a1_3 a1_4 W w0 w1_0 w1_1 w1_2 w1_3 w1_4).mono fun e W' ⟨he, bel⟩ => ?_
  subst he
  exact ⟨_, rfl, _, _, _, [], _, [], hW', trodAll_mk1 (shut_bool Try.underlying4 _), (trodAll_cons_mk (Below.trod laidOut (by kernel_rfl) (of_decide_eq_true (by kernel_rfl)) k0 bel lt0) (trodAll_cons_mk (Below.trod laidOut (by kernel_rfl) (of_decide_eq_true (by kernel_rfl)) k1 bel lt1) trodAll_mk0)), rfl, bel.frame _, fun h => by cases h⟩

theorem over : Rows.clintKeepsRow.holds Try.pinned (OpenSpec.ofChange Rows.clintKeepsSpec) :=
  OpenClaim.holds_of_wide 5 Try.f5 rfl rfl rfl rfl rfl rfl rfl ⟨rfl, rfl, rfl, rfl, rfl⟩ rfl rfl rfl rfl rfl (by kernel_rfl) Try.func5 (by kernel_rfl)
    (of_decide_eq_true (by kernel_rfl)) (by unfold Func.isWrapper; first | (rw [if_pos (by decide +kernel)]; kernel_rfl) | (rw [if_neg (by decide +kernel)]; exact ⟨rfl, rfl⟩))
    (fun os started H enc _ => lifted os started H enc)

theorem proved : Rows.ClintKeepsSaid := over
#print axioms proved
end Go.Proofs.Ytefhcadlakakbaa.rowClintKeeps
