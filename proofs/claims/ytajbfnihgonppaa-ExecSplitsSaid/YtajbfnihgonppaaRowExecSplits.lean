/- The law ExecSplits: for every input the call returns true, and each argument reads behind the call as it read before; under no condition of its own. The walk stands in YtajbfnihgonppaaWalkExecSplits; this text, written by a program of this claim (lawrow.py), is the row round it. -/
import Derived.Test.YtajbfnihgonppaaWalkExecSplits
import Derived.Test.YtajbfnihgonppaaFlat
import Derived.Below
import Derived.Carry
namespace Go.Proofs.Ytajbfnihgonppaa.rowExecSplits
set_option linter.all false
open Go.ChangeShapes Go.WideShapes Go.ChangeAt Go.RowKit
set_option linter.unusedVariables false

theorem own : ownKnob Try.prog.godebug = none := by kernel_rfl
theorem laidOut : laidOutB Try.prog = true := by kernel_rfl

theorem fits_cons {k : Sc} {ks : List Sc} {l : List Value} (h : fits (k :: ks) l) : ∃ x r, l = x :: r ∧ k.fit x ∧ fits ks r := by
  cases l with
  | nil => exact h.elim
  | cons x r => exact ⟨x, r, rfl, h.1, h.2⟩
theorem fits_nil {l : List Value} (h : fits [] l) : l = [] := by
  cases l with
  | nil => rfl
  | cons => exact h.elim
theorem shape0 {l : List Value} (h : fits [.num .u64, .num .u64, .num .u64, .num .u64, .num .u64, .num .u64, .num .u64, .num .u64, .num .u64, .num .u64, .num .u64, .num .u64, .num .u64, .num .u64, .num .u64, .num .u64, .num .u64, .num .u64, .num .u64, .num .u64, .num .u64, .num .u64, .num .u64, .num .u64, .num .u64, .num .u64, .num .u64, .num .u64, .num .u64, .num .u64, .num .u64, .num .u64] l) : ∃ (a0_0 : Int) (a0_1 : Int) (a0_2 : Int) (a0_3 : Int) (a0_4 : Int) (a0_5 : Int) (a0_6 : Int) (a0_7 : Int) (a0_8 : Int) (a0_9 : Int) (a0_10 : Int) (a0_11 : Int) (a0_12 : Int) (a0_13 : Int) (a0_14 : Int) (a0_15 : Int) (a0_16 : Int) (a0_17 : Int) (a0_18 : Int) (a0_19 : Int) (a0_20 : Int) (a0_21 : Int) (a0_22 : Int) (a0_23 : Int) (a0_24 : Int) (a0_25 : Int) (a0_26 : Int) (a0_27 : Int) (a0_28 : Int) (a0_29 : Int) (a0_30 : Int) (a0_31 : Int), l = [.int .u64 a0_0, .int .u64 a0_1, .int .u64 a0_2, .int .u64 a0_3, .int .u64 a0_4, .int .u64 a0_5, .int .u64 a0_6, .int .u64 a0_7, .int .u64 a0_8, .int .u64 a0_9, .int .u64 a0_10, .int .u64 a0_11, .int .u64 a0_12, .int .u64 a0_13, .int .u64 a0_14, .int .u64 a0_15, .int .u64 a0_16, .int .u64 a0_17, .int .u64 a0_18, .int .u64 a0_19, .int .u64 a0_20, .int .u64 a0_21, .int .u64 a0_22, .int .u64 a0_23, .int .u64 a0_24, .int .u64 a0_25, .int .u64 a0_26, .int .u64 a0_27, .int .u64 a0_28, .int .u64 a0_29, .int .u64 a0_30, .int .u64 a0_31] ∧ (Lit.int .u64 a0_0).wf = true ∧ (Lit.int .u64 a0_1).wf = true ∧ (Lit.int .u64 a0_2).wf = true ∧ (Lit.int .u64 a0_3).wf = true ∧ (Lit.int .u64 a0_4).wf = true ∧ (Lit.int .u64 a0_5).wf = true ∧ (Lit.int .u64 a0_6).wf = true ∧ (Lit.int .u64 a0_7).wf = true ∧ (Lit.int .u64 a0_8).wf = true ∧ (Lit.int .u64 a0_9).wf = true ∧ (Lit.int .u64 a0_10).wf = true ∧ (Lit.int .u64 a0_11).wf = true ∧ (Lit.int .u64 a0_12).wf = true ∧ (Lit.int .u64 a0_13).wf = true ∧ (Lit.int .u64 a0_14).wf = true ∧ (Lit.int .u64 a0_15).wf = true ∧ (Lit.int .u64 a0_16).wf = true ∧ (Lit.int .u64 a0_17).wf = true ∧ (Lit.int .u64 a0_18).wf = true ∧ (Lit.int .u64 a0_19).wf = true ∧ (Lit.int .u64 a0_20).wf = true ∧ (Lit.int .u64 a0_21).wf = true ∧ (Lit.int .u64 a0_22).wf = true ∧ (Lit.int .u64 a0_23).wf = true ∧ (Lit.int .u64 a0_24).wf = true ∧ (Lit.int .u64 a0_25).wf = true ∧ (Lit.int .u64 a0_26).wf = true ∧ (Lit.int .u64 a0_27).wf = true ∧ (Lit.int .u64 a0_28).wf = true ∧ (Lit.int .u64 a0_29).wf = true ∧ (Lit.int .u64 a0_30).wf = true ∧ (Lit.int .u64 a0_31).wf = true := by
  obtain ⟨x0, r0, rfl, ⟨a0_0, rfl, w0⟩, h0⟩ := fits_cons h
  obtain ⟨x1, r1, rfl, ⟨a0_1, rfl, w1⟩, h1⟩ := fits_cons h0
  obtain ⟨x2, r2, rfl, ⟨a0_2, rfl, w2⟩, h2⟩ := fits_cons h1
  obtain ⟨x3, r3, rfl, ⟨a0_3, rfl, w3⟩, h3⟩ := fits_cons h2
  obtain ⟨x4, r4, rfl, ⟨a0_4, rfl, w4⟩, h4⟩ := fits_cons h3
  obtain ⟨x5, r5, rfl, ⟨a0_5, rfl, w5⟩, h5⟩ := fits_cons h4
  obtain ⟨x6, r6, rfl, ⟨a0_6, rfl, w6⟩, h6⟩ := fits_cons h5
  obtain ⟨x7, r7, rfl, ⟨a0_7, rfl, w7⟩, h7⟩ := fits_cons h6
  obtain ⟨x8, r8, rfl, ⟨a0_8, rfl, w8⟩, h8⟩ := fits_cons h7
  obtain ⟨x9, r9, rfl, ⟨a0_9, rfl, w9⟩, h9⟩ := fits_cons h8
  obtain ⟨x10, r10, rfl, ⟨a0_10, rfl, w10⟩, h10⟩ := fits_cons h9
  obtain ⟨x11, r11, rfl, ⟨a0_11, rfl, w11⟩, h11⟩ := fits_cons h10
  obtain ⟨x12, r12, rfl, ⟨a0_12, rfl, w12⟩, h12⟩ := fits_cons h11
  obtain ⟨x13, r13, rfl, ⟨a0_13, rfl, w13⟩, h13⟩ := fits_cons h12
  obtain ⟨x14, r14, rfl, ⟨a0_14, rfl, w14⟩, h14⟩ := fits_cons h13
  obtain ⟨x15, r15, rfl, ⟨a0_15, rfl, w15⟩, h15⟩ := fits_cons h14
  obtain ⟨x16, r16, rfl, ⟨a0_16, rfl, w16⟩, h16⟩ := fits_cons h15
  obtain ⟨x17, r17, rfl, ⟨a0_17, rfl, w17⟩, h17⟩ := fits_cons h16
  obtain ⟨x18, r18, rfl, ⟨a0_18, rfl, w18⟩, h18⟩ := fits_cons h17
  obtain ⟨x19, r19, rfl, ⟨a0_19, rfl, w19⟩, h19⟩ := fits_cons h18
  obtain ⟨x20, r20, rfl, ⟨a0_20, rfl, w20⟩, h20⟩ := fits_cons h19
  obtain ⟨x21, r21, rfl, ⟨a0_21, rfl, w21⟩, h21⟩ := fits_cons h20
  obtain ⟨x22, r22, rfl, ⟨a0_22, rfl, w22⟩, h22⟩ := fits_cons h21
  obtain ⟨x23, r23, rfl, ⟨a0_23, rfl, w23⟩, h23⟩ := fits_cons h22
  obtain ⟨x24, r24, rfl, ⟨a0_24, rfl, w24⟩, h24⟩ := fits_cons h23
  obtain ⟨x25, r25, rfl, ⟨a0_25, rfl, w25⟩, h25⟩ := fits_cons h24
  obtain ⟨x26, r26, rfl, ⟨a0_26, rfl, w26⟩, h26⟩ := fits_cons h25
  obtain ⟨x27, r27, rfl, ⟨a0_27, rfl, w27⟩, h27⟩ := fits_cons h26
  obtain ⟨x28, r28, rfl, ⟨a0_28, rfl, w28⟩, h28⟩ := fits_cons h27
  obtain ⟨x29, r29, rfl, ⟨a0_29, rfl, w29⟩, h29⟩ := fits_cons h28
  obtain ⟨x30, r30, rfl, ⟨a0_30, rfl, w30⟩, h30⟩ := fits_cons h29
  obtain ⟨x31, r31, rfl, ⟨a0_31, rfl, w31⟩, h31⟩ := fits_cons h30
  obtain rfl := fits_nil h31
  exact ⟨a0_0, a0_1, a0_2, a0_3, a0_4, a0_5, a0_6, a0_7, a0_8, a0_9, a0_10, a0_11, a0_12, a0_13, a0_14, a0_15, a0_16, a0_17, a0_18, a0_19, a0_20, a0_21, a0_22, a0_23, a0_24, a0_25, a0_26, a0_27, a0_28, a0_29, a0_30, a0_31, rfl, w0, w1, w2, w3, w4, w5, w6, w7, w8, w9, w10, w11, w12, w13, w14, w15, w16, w17, w18, w19, w20, w21, w22, w23, w24, w25, w26, w27, w28, w29, w30, w31⟩

theorem shape2 {l : List Value} (h : fits [.num .u64, .num .u16, .num .u64, .num .u16] l) : ∃ (a2_0 : Int) (a2_1 : Int) (a2_2 : Int) (a2_3 : Int), l = [.int .u64 a2_0, .int .u16 a2_1, .int .u64 a2_2, .int .u16 a2_3] ∧ (Lit.int .u64 a2_0).wf = true ∧ (Lit.int .u16 a2_1).wf = true ∧ (Lit.int .u64 a2_2).wf = true ∧ (Lit.int .u16 a2_3).wf = true := by
  obtain ⟨x0, r0, rfl, ⟨a2_0, rfl, w0⟩, h0⟩ := fits_cons h
  obtain ⟨x1, r1, rfl, ⟨a2_1, rfl, w1⟩, h1⟩ := fits_cons h0
  obtain ⟨x2, r2, rfl, ⟨a2_2, rfl, w2⟩, h2⟩ := fits_cons h1
  obtain ⟨x3, r3, rfl, ⟨a2_3, rfl, w3⟩, h3⟩ := fits_cons h2
  obtain rfl := fits_nil h3
  exact ⟨a2_0, a2_1, a2_2, a2_3, rfl, w0, w1, w2, w3⟩

set_option maxRecDepth 100000 in
theorem lifted (os : Os) (started : os.Started) (H : Type) (enc : TypeId × Value → H) :
    ReturnsInHanded {} Try.checked os 7 .any (Rows.execSplitsSpec.pre6 enc Try.prog Try.f7 Rows.execSplitsRow.domain false) (Rows.execSplitsSpec.post enc Try.prog Try.f7 false true false false) := by
  refine returnsInHanded_of_change (C := Try.checked) own started (by kernel_rfl) Try.func7
    (ChangeSpec.witness6 (enc := enc) (C := Try.checked) false ⟨#[], #[.agg #[.int .u64 0, .int .u64 0, .int .u64 0, .int .u64 0, .int .u64 0, .int .u64 0, .int .u64 0, .int .u64 0, .int .u64 0, .int .u64 0, .int .u64 0, .int .u64 0, .int .u64 0, .int .u64 0, .int .u64 0, .int .u64 0, .int .u64 0, .int .u64 0, .int .u64 0, .int .u64 0, .int .u64 0, .int .u64 0, .int .u64 0, .int .u64 0, .int .u64 0, .int .u64 0, .int .u64 0, .int .u64 0, .int .u64 0, .int .u64 0, .int .u64 0, .int .u64 0], .slice none 0 0, .agg #[.int .u64 0, .int .u16 0, .int .u64 0, .int .u16 0]], []⟩ 8 (by kernel_rfl) (by kernel_rfl) (by kernel_rfl) (by kernel_rfl)) ?_
  intro W base args ds gs before hval0 hW hcnd _
  have hval : ∀ (j : Nat) t v, Try.f7.params[j]? = some t → args[j]? = some v → Value.okWide Try.prog W .any base t v := hval0
  have hW' := hW
  obtain ⟨p, q, hA0, hV, rfl, hfz, hnd⟩ := hW
  have hA : DataW.TrodAll enc Try.prog W 0 (fun _ => true) true Try.f7.params.toList args.toList ds p := hA0
  rw [Try.params7] at hA hval
  obtain ⟨v0, vs0, d0, ds0, p0, q0, hargs, rfl, rfl, h0, r0⟩ := trodAll_cons hA
  obtain ⟨v1, vs1, d1, ds1, p1, q1, rfl, rfl, rfl, h1, r1⟩ := trodAll_cons r0
  obtain ⟨v2, vs2, d2, ds2, p2, q2, rfl, rfl, rfl, h2, r2⟩ := trodAll_cons r1
  obtain ⟨rfl, rfl, rfl⟩ := trodAll_nil r2
  obtain rfl : args = #[v0, v1, v2] := by cases args; simp_all
  obtain ⟨rfl, rfl⟩ := trodVars_none hV
  have k0 := h0
  have lt0 : ∀ x ∈ p0, x.block < W.heap.size := by obtain ⟨m, hm⟩ := k0; exact DataW.trod_lt m _ _ _ hm
  obtain ⟨⟨l0⟩, rfl, _⟩ := okWide_array Try.underlying24 (hval 0 24 v0 rfl rfl)
  obtain ⟨a0_0, a0_1, a0_2, a0_3, a0_4, a0_5, a0_6, a0_7, a0_8, a0_9, a0_10, a0_11, a0_12, a0_13, a0_14, a0_15, a0_16, a0_17, a0_18, a0_19, a0_20, a0_21, a0_22, a0_23, a0_24, a0_25, a0_26, a0_27, a0_28, a0_29, a0_30, a0_31, e0, w0_0, w0_1, w0_2, w0_3, w0_4, w0_5, w0_6, w0_7, w0_8, w0_9, w0_10, w0_11, w0_12, w0_13, w0_14, w0_15, w0_16, w0_17, w0_18, w0_19, w0_20, w0_21, w0_22, w0_23, w0_24, w0_25, w0_26, w0_27, w0_28, w0_29, w0_30, w0_31⟩ := shape0 (open_flat (ks := [.num .u64, .num .u64, .num .u64, .num .u64, .num .u64, .num .u64, .num .u64, .num .u64, .num .u64, .num .u64, .num .u64, .num .u64, .num .u64, .num .u64, .num .u64, .num .u64, .num .u64, .num .u64, .num .u64, .num .u64, .num .u64, .num .u64, .num .u64, .num .u64, .num .u64, .num .u64, .num .u64, .num .u64, .num .u64, .num .u64, .num .u64, .num .u64]) 64 (by kernel_rfl) h0)
  simp only [Value.cells] at e0
  subst e0
  have k1 := h1
  have lt1 : ∀ x ∈ p1, x.block < W.heap.size := by obtain ⟨m, hm⟩ := k1; exact DataW.trod_lt m _ _ _ hm
  obtain ⟨a1, len1, cap1, rfl⟩ := okWide_slice Try.underlying45 (hval 1 45 v1 rfl rfl)
  obtain ⟨c1, w1⟩ := open_flat_slice (ks := [.num .u8, .num .u8, .num .u8, .num .u8, .num .i64, .num .u16, .num .u8]) Try.underlying45 64 (by kernel_rfl) (by kernel_rfl) (by decide) h1
  have k2 := h2
  have lt2 : ∀ x ∈ p2, x.block < W.heap.size := by obtain ⟨m, hm⟩ := k2; exact DataW.trod_lt m _ _ _ hm
  obtain ⟨⟨l2⟩, rfl, _⟩ := okWide_array Try.underlying53 (hval 2 53 v2 rfl rfl)
  obtain ⟨a2_0, a2_1, a2_2, a2_3, e2, w2_0, w2_1, w2_2, w2_3⟩ := shape2 (open_flat (ks := [.num .u64, .num .u16, .num .u64, .num .u16]) 64 (by kernel_rfl) h2)
  simp only [Value.cells] at e2
  subst e2
  clear hA0 hval0
  refine (walk_ExecSplits a0_0 a0_1 a0_2 a0_3 a0_4 a0_5 a0_6 a0_7 a0_8 a0_9 a0_10 a0_11 a0_12 a0_13 a0_14 a0_15 a0_16 a0_17 a0_18 a0_19 a0_20 a0_21 a0_22 a0_23 a0_24 a0_25 a0_26 a0_27 a0_28 a0_29 a0_30 a0_31 a1 len1 cap1 c1 a2_0 a2_1 a2_2 a2_3 W w0_0 w0_1 w0_2 w0_3 w0_4 w0_5 w0_6 w0_7 w0_8 w0_9 w0_10 w0_11 w0_12 w0_13 w0_14 w0_15 w0_16 w0_17 w0_18 w0_19 w0_20 w0_21 w0_22 w0_23 w0_24 w0_25 w0_26 w0_27 w0_28 w0_29 w0_30 w0_31 w1 w2_0 w2_1 w2_2 w2_3).mono fun e W' ⟨he, bel⟩ => ?_
  subst he
  exact ⟨_, rfl, _, _, _, [], _, [], hW', trodAll_mk1 (shut_bool Try.underlying4 _), (trodAll_cons_mk (Below.trod laidOut (by kernel_rfl) (of_decide_eq_true (by kernel_rfl)) k0 bel lt0) (trodAll_cons_mk (Below.trod laidOut (by kernel_rfl) (of_decide_eq_true (by kernel_rfl)) k1 bel lt1) (trodAll_cons_mk (Below.trod laidOut (by kernel_rfl) (of_decide_eq_true (by kernel_rfl)) k2 bel lt2) trodAll_mk0))), rfl, bel.frame _, fun h => by cases h⟩

theorem over : Rows.execSplitsRow.holds Try.pinned (OpenSpec.ofChange Rows.execSplitsSpec) :=
  OpenClaim.holds_of_wide 7 Try.f7 rfl rfl rfl rfl rfl rfl rfl ⟨rfl, rfl, rfl, rfl, rfl⟩ rfl rfl rfl rfl rfl (by kernel_rfl) Try.func7 (by kernel_rfl)
    (of_decide_eq_true (by kernel_rfl)) (by unfold Func.isWrapper; first | (rw [if_pos (by decide +kernel)]; kernel_rfl) | (rw [if_neg (by decide +kernel)]; exact ⟨rfl, rfl⟩))
    (fun os started H enc _ => lifted os started H enc)

theorem proved : Rows.ExecSplitsSaid := over
#print axioms proved
end Go.Proofs.Ytajbfnihgonppaa.rowExecSplits
