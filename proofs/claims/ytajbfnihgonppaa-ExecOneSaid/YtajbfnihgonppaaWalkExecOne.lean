/- The law ExecOne: its walk, at flat arguments. -/
import Derived.Test.YtajbfnihgonppaaOnePlain
namespace Go.Proofs.Ytajbfnihgonppaa
set_option linter.all false
open PA Plain Go.RowKit
theorem regs_of_list (l : List Int) (h : ∀ v ∈ l, N64 v) : RegsOK (fun i => l.getD i 0) := by
  intro i
  show N64 (l.getD i 0)
  rw [List.getD_eq_getElem?_getD]
  cases e : l[i]? with
  | none => unfold N64; simp
  | some v => exact h v (List.mem_of_getElem? e)
theorem wf_b (k : IntKind) {a : Int} (h : (Lit.int k a).wf = true) : k.min ≤ a ∧ a ≤ k.max := by simp [Lit.wf] at h; exact h

set_option linter.unusedVariables false in
theorem walk_ExecOne (a0_0 : Int) (a0_1 : Int) (a0_2 : Int) (a0_3 : Int) (a0_4 : Int) (a0_5 : Int) (a0_6 : Int) (a0_7 : Int) (a0_8 : Int) (a0_9 : Int) (a0_10 : Int) (a0_11 : Int) (a0_12 : Int) (a0_13 : Int) (a0_14 : Int) (a0_15 : Int) (a0_16 : Int) (a0_17 : Int) (a0_18 : Int) (a0_19 : Int) (a0_20 : Int) (a0_21 : Int) (a0_22 : Int) (a0_23 : Int) (a0_24 : Int) (a0_25 : Int) (a0_26 : Int) (a0_27 : Int) (a0_28 : Int) (a0_29 : Int) (a0_30 : Int) (a0_31 : Int) (a1 : Int) (a2_0 : Int) (a2_1 : Int) (a2_2 : Int) (a2_3 : Int) (a2_4 : Int) (a2_5 : Int) (a2_6 : Int) (a2_7 : Int) (a2_8 : Int) (a2_9 : Int) (a2_10 : Int) (a2_11 : Int) (a2_12 : Int) (a2_13 : Int) (a2_14 : Int) (a2_15 : Int) (a2_16 : Int) (a2_17 : Int) (a2_18 : Int) (a2_19 : Int) (a2_20 : Int) (a2_21 : Int) (a2_22 : Int) (a2_23 : Int) (a2_24 : Int) (a2_25 : Int) (a2_26 : Int) (a2_27 : Int) (a2_28 : Int) (a2_29 : Int) (a2_30 : Int) (a2_31 : Int) (a2_32 : Int) (a2_33 : Int) (a2_34 : Int) (a2_35 : Int) (a2_36 : Int) (a2_37 : Int) (a2_38 : Int) (w : World) (w0_0 : (Lit.int .u64 a0_0).wf = true) (w0_1 : (Lit.int .u64 a0_1).wf = true) (w0_2 : (Lit.int .u64 a0_2).wf = true) (w0_3 : (Lit.int .u64 a0_3).wf = true) (w0_4 : (Lit.int .u64 a0_4).wf = true) (w0_5 : (Lit.int .u64 a0_5).wf = true) (w0_6 : (Lit.int .u64 a0_6).wf = true) (w0_7 : (Lit.int .u64 a0_7).wf = true) (w0_8 : (Lit.int .u64 a0_8).wf = true) (w0_9 : (Lit.int .u64 a0_9).wf = true) (w0_10 : (Lit.int .u64 a0_10).wf = true) (w0_11 : (Lit.int .u64 a0_11).wf = true) (w0_12 : (Lit.int .u64 a0_12).wf = true) (w0_13 : (Lit.int .u64 a0_13).wf = true) (w0_14 : (Lit.int .u64 a0_14).wf = true) (w0_15 : (Lit.int .u64 a0_15).wf = true) (w0_16 : (Lit.int .u64 a0_16).wf = true) (w0_17 : (Lit.int .u64 a0_17).wf = true) (w0_18 : (Lit.int .u64 a0_18).wf = true) (w0_19 : (Lit.int .u64 a0_19).wf = true) (w0_20 : (Lit.int .u64 a0_20).wf = true) (w0_21 : (Lit.int .u64 a0_21).wf = true) (w0_22 : (Lit.int .u64 a0_22).wf = true) (w0_23 : (Lit.int .u64 a0_23).wf = true) (w0_24 : (Lit.int .u64 a0_24).wf = true) (w0_25 : (Lit.int .u64 a0_25).wf = true) (w0_26 : (Lit.int .u64 a0_26).wf = true) (w0_27 : (Lit.int .u64 a0_27).wf = true) (w0_28 : (Lit.int .u64 a0_28).wf = true) (w0_29 : (Lit.int .u64 a0_29).wf = true) (w0_30 : (Lit.int .u64 a0_30).wf = true) (w0_31 : (Lit.int .u64 a0_31).wf = true) (w1 : (Lit.int .u64 a1).wf = true) (w2_0 : (Lit.int .u8 a2_0).wf = true) (w2_1 : (Lit.int .u8 a2_1).wf = true) (w2_2 : (Lit.int .u8 a2_2).wf = true) (w2_3 : (Lit.int .u8 a2_3).wf = true) (w2_4 : (Lit.int .i64 a2_4).wf = true) (w2_5 : (Lit.int .u16 a2_5).wf = true) (w2_6 : (Lit.int .u8 a2_6).wf = true) (w2_7 : (Lit.int .u64 a2_7).wf = true) (w2_8 : (Lit.int .u64 a2_8).wf = true) (w2_9 : (Lit.int .u64 a2_9).wf = true) (w2_10 : (Lit.int .u64 a2_10).wf = true) (w2_11 : (Lit.int .u64 a2_11).wf = true) (w2_12 : (Lit.int .u64 a2_12).wf = true) (w2_13 : (Lit.int .u64 a2_13).wf = true) (w2_14 : (Lit.int .u64 a2_14).wf = true) (w2_15 : (Lit.int .u64 a2_15).wf = true) (w2_16 : (Lit.int .u64 a2_16).wf = true) (w2_17 : (Lit.int .u64 a2_17).wf = true) (w2_18 : (Lit.int .u64 a2_18).wf = true) (w2_19 : (Lit.int .u64 a2_19).wf = true) (w2_20 : (Lit.int .u64 a2_20).wf = true) (w2_21 : (Lit.int .u64 a2_21).wf = true) (w2_22 : (Lit.int .u64 a2_22).wf = true) (w2_23 : (Lit.int .u64 a2_23).wf = true) (w2_24 : (Lit.int .u64 a2_24).wf = true) (w2_25 : (Lit.int .u64 a2_25).wf = true) (w2_26 : (Lit.int .u64 a2_26).wf = true) (w2_27 : (Lit.int .u64 a2_27).wf = true) (w2_28 : (Lit.int .u64 a2_28).wf = true) (w2_29 : (Lit.int .u64 a2_29).wf = true) (w2_30 : (Lit.int .u64 a2_30).wf = true) (w2_31 : (Lit.int .u64 a2_31).wf = true) (w2_32 : (Lit.int .u64 a2_32).wf = true) (w2_33 : (Lit.int .u64 a2_33).wf = true) (w2_34 : (Lit.int .u64 a2_34).wf = true) (w2_35 : (Lit.int .u64 a2_35).wf = true) (w2_36 : (Lit.int .u64 a2_36).wf = true) (w2_37 : (Lit.int .u64 a2_37).wf = true) (w2_38 : (Lit.int .u64 a2_38).wf = true) :
    Calls Try.prog 3 #[.agg #[.int .u64 a0_0, .int .u64 a0_1, .int .u64 a0_2, .int .u64 a0_3, .int .u64 a0_4, .int .u64 a0_5, .int .u64 a0_6, .int .u64 a0_7, .int .u64 a0_8, .int .u64 a0_9, .int .u64 a0_10, .int .u64 a0_11, .int .u64 a0_12, .int .u64 a0_13, .int .u64 a0_14, .int .u64 a0_15, .int .u64 a0_16, .int .u64 a0_17, .int .u64 a0_18, .int .u64 a0_19, .int .u64 a0_20, .int .u64 a0_21, .int .u64 a0_22, .int .u64 a0_23, .int .u64 a0_24, .int .u64 a0_25, .int .u64 a0_26, .int .u64 a0_27, .int .u64 a0_28, .int .u64 a0_29, .int .u64 a0_30, .int .u64 a0_31], .int .u64 a1, .agg #[.int .u8 a2_0, .int .u8 a2_1, .int .u8 a2_2, .int .u8 a2_3, .int .i64 a2_4, .int .u16 a2_5, .int .u8 a2_6, .int .u64 a2_7, .int .u64 a2_8, .int .u64 a2_9, .int .u64 a2_10, .int .u64 a2_11, .int .u64 a2_12, .int .u64 a2_13, .int .u64 a2_14, .int .u64 a2_15, .int .u64 a2_16, .int .u64 a2_17, .int .u64 a2_18, .int .u64 a2_19, .int .u64 a2_20, .int .u64 a2_21, .int .u64 a2_22, .int .u64 a2_23, .int .u64 a2_24, .int .u64 a2_25, .int .u64 a2_26, .int .u64 a2_27, .int .u64 a2_28, .int .u64 a2_29, .int .u64 a2_30, .int .u64 a2_31, .int .u64 a2_32, .int .u64 a2_33, .int .u64 a2_34, .int .u64 a2_35, .int .u64 a2_36, .int .u64 a2_37, .int .u64 a2_38]] w fun e w' => e = .returned (.bool true) ∧ Below w.heap.size w w' := by
  have hs : RegsOK (fun i => ([a0_0, a0_1, a0_2, a0_3, a0_4, a0_5, a0_6, a0_7, a0_8, a0_9, a0_10, a0_11, a0_12, a0_13, a0_14, a0_15, a0_16, a0_17, a0_18, a0_19, a0_20, a0_21, a0_22, a0_23, a0_24, a0_25, a0_26, a0_27, a0_28, a0_29, a0_30, a0_31] : List Int).getD i 0) := regs_of_list _ (by
    intro v hv
    simp only [List.mem_cons, List.not_mem_nil, or_false] at hv
    rcases hv with rfl | rfl | rfl | rfl | rfl | rfl | rfl | rfl | rfl | rfl | rfl | rfl | rfl | rfl | rfl | rfl | rfl | rfl | rfl | rfl | rfl | rfl | rfl | rfl | rfl | rfl | rfl | rfl | rfl | rfl | rfl | rfl
    · exact N64.of w0_0
    · exact N64.of w0_1
    · exact N64.of w0_2
    · exact N64.of w0_3
    · exact N64.of w0_4
    · exact N64.of w0_5
    · exact N64.of w0_6
    · exact N64.of w0_7
    · exact N64.of w0_8
    · exact N64.of w0_9
    · exact N64.of w0_10
    · exact N64.of w0_11
    · exact N64.of w0_12
    · exact N64.of w0_13
    · exact N64.of w0_14
    · exact N64.of w0_15
    · exact N64.of w0_16
    · exact N64.of w0_17
    · exact N64.of w0_18
    · exact N64.of w0_19
    · exact N64.of w0_20
    · exact N64.of w0_21
    · exact N64.of w0_22
    · exact N64.of w0_23
    · exact N64.of w0_24
    · exact N64.of w0_25
    · exact N64.of w0_26
    · exact N64.of w0_27
    · exact N64.of w0_28
    · exact N64.of w0_29
    · exact N64.of w0_30
    · exact N64.of w0_31
    )
  have hx : W7 (a2_0, a2_1, a2_2, a2_3, a2_4, a2_5, a2_6) := by
    have m8 : IntKind.u8.min = 0 ∧ IntKind.u8.max = 255 := ⟨rfl, rfl⟩
    have m16 : IntKind.u16.min = 0 ∧ IntKind.u16.max = 65535 := ⟨rfl, rfl⟩
    have m64 : IntKind.i64.min = -9223372036854775808 ∧ IntKind.i64.max = 9223372036854775807 := ⟨rfl, rfl⟩
    have h0 := wf_b _ w2_0
    have h1 := wf_b _ w2_1
    have h2 := wf_b _ w2_2
    have h3 := wf_b _ w2_3
    have h4 := wf_b _ w2_4
    have h5 := wf_b _ w2_5
    have h6 := wf_b _ w2_6
    unfold W7
    simp only
    omega
  have hs2 : RegsOK (fun i => ([a2_7, a2_8, a2_9, a2_10, a2_11, a2_12, a2_13, a2_14, a2_15, a2_16, a2_17, a2_18, a2_19, a2_20, a2_21, a2_22, a2_23, a2_24, a2_25, a2_26, a2_27, a2_28, a2_29, a2_30, a2_31, a2_32, a2_33, a2_34, a2_35, a2_36, a2_37, a2_38] : List Int).getD i 0) := regs_of_list _ (by
    intro v hv
    simp only [List.mem_cons, List.not_mem_nil, or_false] at hv
    rcases hv with rfl | rfl | rfl | rfl | rfl | rfl | rfl | rfl | rfl | rfl | rfl | rfl | rfl | rfl | rfl | rfl | rfl | rfl | rfl | rfl | rfl | rfl | rfl | rfl | rfl | rfl | rfl | rfl | rfl | rfl | rfl | rfl
    · exact N64.of w2_7
    · exact N64.of w2_8
    · exact N64.of w2_9
    · exact N64.of w2_10
    · exact N64.of w2_11
    · exact N64.of w2_12
    · exact N64.of w2_13
    · exact N64.of w2_14
    · exact N64.of w2_15
    · exact N64.of w2_16
    · exact N64.of w2_17
    · exact N64.of w2_18
    · exact N64.of w2_19
    · exact N64.of w2_20
    · exact N64.of w2_21
    · exact N64.of w2_22
    · exact N64.of w2_23
    · exact N64.of w2_24
    · exact N64.of w2_25
    · exact N64.of w2_26
    · exact N64.of w2_27
    · exact N64.of w2_28
    · exact N64.of w2_29
    · exact N64.of w2_30
    · exact N64.of w2_31
    · exact N64.of w2_32
    · exact N64.of w2_33
    · exact N64.of w2_34
    · exact N64.of w2_35
    · exact N64.of w2_36
    · exact N64.of w2_37
    · exact N64.of w2_38
    )
  have e2 : (#[.int .u8 a2_0, .int .u8 a2_1, .int .u8 a2_2, .int .u8 a2_3, .int .i64 a2_4, .int .u16 a2_5, .int .u8 a2_6, .int .u64 a2_7, .int .u64 a2_8, .int .u64 a2_9, .int .u64 a2_10, .int .u64 a2_11, .int .u64 a2_12, .int .u64 a2_13, .int .u64 a2_14, .int .u64 a2_15, .int .u64 a2_16, .int .u64 a2_17, .int .u64 a2_18, .int .u64 a2_19, .int .u64 a2_20, .int .u64 a2_21, .int .u64 a2_22, .int .u64 a2_23, .int .u64 a2_24, .int .u64 a2_25, .int .u64 a2_26, .int .u64 a2_27, .int .u64 a2_28, .int .u64 a2_29, .int .u64 a2_30, .int .u64 a2_31, .int .u64 a2_32, .int .u64 a2_33, .int .u64 a2_34, .int .u64 a2_35, .int .u64 a2_36, .int .u64 a2_37, .int .u64 a2_38] : Array Value) = OC (a2_0, a2_1, a2_2, a2_3, a2_4, a2_5, a2_6) (fun i => ([a2_7, a2_8, a2_9, a2_10, a2_11, a2_12, a2_13, a2_14, a2_15, a2_16, a2_17, a2_18, a2_19, a2_20, a2_21, a2_22, a2_23, a2_24, a2_25, a2_26, a2_27, a2_28, a2_29, a2_30, a2_31, a2_32, a2_33, a2_34, a2_35, a2_36, a2_37, a2_38] : List Int).getD i 0) := by kernel_rfl
  rw [e2]
  exact (one_any hs hs2 (N64.of w1) hx w).mono fun _ _ ⟨h1, h2⟩ => ⟨h1, below_of_fr h2⟩
end Go.Proofs.Ytajbfnihgonppaa
