-- Written by a program of this project, on the kit's print
import Derived.Test.YtfjdbiinkonhhaaPAx0
import Derived.Test.YtfjdbiinkonhhaaPAx1
namespace Go.Proofs.Ytfjdbiinkonhhaa.PA
set_option linter.all false
open Go.RowKit Go.Proofs.YtfjdbiinkonhhaaW.PrintWords Go.Proofs.YtfjdbiinkonhhaaW.PrintLast Go.Proofs.YtfjdbiinkonhhaaW.PrintMore
attribute [local go_sem] max2_int min2_int max_two min_two max_three min_three max_four min_four   -- for this text's walks alone
set_option linter.unusedVariables false
set_option linter.unusedSimpArgs false

/-! ### alu_number_remw: function 53 -/
def alu_number_remw.f (a0 : Int) (a1 : Int) : Option (Int) := (alu_number_word.f a0).bind fun t150 => ((alu_number_signed.f t150).bind fun t151 => ((alu_number_word.f a1).bind fun t152 => ((alu_number_signed.f t152).bind fun t153 => ((alu_divide.f t151 t153 (-2147483648)).bind fun bt154 => ((alu_number_word.f (IntKind.u64.wrap (bt154.2))).bind fun t156 => (some t156))))))
set_option maxHeartbeats 8000000 in
set_option maxRecDepth 100000 in
theorem alu_number_remw.calls (a0 : Int) (a1 : Int) (r : Int) (w : World) (h : alu_number_remw.f a0 a1 = some r) :
    Calls Try.prog 53 #[.int .u64 a0, .int .u64 a1] w fun e w' => e = .returned (.int .u64 r) ∧ Drawn0 w w' := by
  have H : ((alu_number_word.f a0).bind fun t150 => ((alu_number_signed.f t150).bind fun t151 => ((alu_number_word.f a1).bind fun t152 => ((alu_number_signed.f t152).bind fun t153 => ((alu_divide.f t151 t153 (-2147483648)).bind fun bt154 => ((alu_number_word.f (IntKind.u64.wrap (bt154.2))).bind fun t156 => (some t156))))))) = some r := h
  clear h
  replace H := Option.bind_eq_some_iff.mp H
  obtain ⟨t150, A30, H⟩ := H
  replace H : ((alu_number_signed.f t150).bind fun t151 => ((alu_number_word.f a1).bind fun t152 => ((alu_number_signed.f t152).bind fun t153 => ((alu_divide.f t151 t153 (-2147483648)).bind fun bt154 => ((alu_number_word.f (IntKind.u64.wrap (bt154.2))).bind fun t156 => (some t156)))))) = some r := H
  have A3 := Aside0.mk A30
  clear A30
  replace H := Option.bind_eq_some_iff.mp H
  obtain ⟨t151, A40, H⟩ := H
  replace H : ((alu_number_word.f a1).bind fun t152 => ((alu_number_signed.f t152).bind fun t153 => ((alu_divide.f t151 t153 (-2147483648)).bind fun bt154 => ((alu_number_word.f (IntKind.u64.wrap (bt154.2))).bind fun t156 => (some t156))))) = some r := H
  have A4 := Aside0.mk A40
  clear A40
  replace H := Option.bind_eq_some_iff.mp H
  obtain ⟨t152, A50, H⟩ := H
  replace H : ((alu_number_signed.f t152).bind fun t153 => ((alu_divide.f t151 t153 (-2147483648)).bind fun bt154 => ((alu_number_word.f (IntKind.u64.wrap (bt154.2))).bind fun t156 => (some t156)))) = some r := H
  have A5 := Aside0.mk A50
  clear A50
  replace H := Option.bind_eq_some_iff.mp H
  obtain ⟨t153, A60, H⟩ := H
  replace H : ((alu_divide.f t151 t153 (-2147483648)).bind fun bt154 => ((alu_number_word.f (IntKind.u64.wrap (bt154.2))).bind fun t156 => (some t156))) = some r := H
  have A6 := Aside0.mk A60
  clear A60
  replace H := Option.bind_eq_some_iff.mp H
  obtain ⟨⟨t154, t155⟩, A70, H⟩ := H
  replace H : ((alu_number_word.f (IntKind.u64.wrap (t155))).bind fun t156 => (some t156)) = some r := H
  have A7 := Aside0.mk A70
  clear A70
  replace H := Option.bind_eq_some_iff.mp H
  obtain ⟨t156, A80, H⟩ := H
  replace H : (some t156) = some r := H
  have A8 := Aside0.mk A80
  clear A80
  obtain rfl := Option.some.inj H
  go_enter Try.func53, Try.ntmps53
  go_wp2_with (first | ((with_reducible refine gate_callee (f := 66) rfl ?_); refine goesL_ (some 9) rfl rfl Try.func66 (by kernel_rfl) rfl #[.int .u64 a0] rfl (by (try simp only [List.map_toArray, List.map_cons, List.map_nil]); first | done | rfl | (simp only [List.length_drop, List.length_take]; rfl)) ?_; (with_reducible refine (alu_number_word.calls a0 t150 _ A3.out).mono ?_); rintro e w' ⟨rfl, ⟨nd, rfl⟩⟩; refine ⟨_, rfl, ?_⟩) | ((with_reducible refine gate_callee (f := 64) rfl ?_); refine goesL_ (some 10) rfl rfl Try.func64 (by kernel_rfl) rfl #[.int .u64 t150] rfl (by (try simp only [List.map_toArray, List.map_cons, List.map_nil]); first | done | rfl | (simp only [List.length_drop, List.length_take]; rfl)) ?_; (with_reducible refine (alu_number_signed.calls t150 t151 _ A4.out).mono ?_); rintro e w' ⟨rfl, ⟨nd, rfl⟩⟩; refine ⟨_, rfl, ?_⟩) | ((with_reducible refine gate_callee (f := 66) rfl ?_); refine goesL_ (some 12) rfl rfl Try.func66 (by kernel_rfl) rfl #[.int .u64 a1] rfl (by (try simp only [List.map_toArray, List.map_cons, List.map_nil]); first | done | rfl | (simp only [List.length_drop, List.length_take]; rfl)) ?_; (with_reducible refine (alu_number_word.calls a1 t152 _ A5.out).mono ?_); rintro e w' ⟨rfl, ⟨nd, rfl⟩⟩; refine ⟨_, rfl, ?_⟩) | ((with_reducible refine gate_callee (f := 64) rfl ?_); refine goesL_ (some 13) rfl rfl Try.func64 (by kernel_rfl) rfl #[.int .u64 t152] rfl (by (try simp only [List.map_toArray, List.map_cons, List.map_nil]); first | done | rfl | (simp only [List.length_drop, List.length_take]; rfl)) ?_; (with_reducible refine (alu_number_signed.calls t152 t153 _ A6.out).mono ?_); rintro e w' ⟨rfl, ⟨nd, rfl⟩⟩; refine ⟨_, rfl, ?_⟩) | ((with_reducible refine gate_callee (f := 70) rfl ?_); refine goesL_ (some 14) rfl rfl Try.func70 (by kernel_rfl) rfl #[.int .i64 t151, .int .i64 t153, .int .i64 (-2147483648)] rfl (by (try simp only [List.map_toArray, List.map_cons, List.map_nil]); first | done | rfl | (simp only [List.length_drop, List.length_take]; rfl)) ?_; (with_reducible refine (alu_divide.calls t151 t153 (-2147483648) t154 t155 _ A7.out).mono ?_); rintro e w' ⟨rfl, ⟨nd, rfl⟩⟩; refine ⟨_, rfl, ?_⟩) | ((with_reducible refine gate_callee (f := 66) rfl ?_); refine goesL_ (some 19) rfl rfl Try.func66 (by kernel_rfl) rfl #[.int .u64 (IntKind.u64.wrap (t155))] rfl (by (try simp only [List.map_toArray, List.map_cons, List.map_nil]); first | done | rfl | (simp only [List.length_drop, List.length_take]; rfl)) ?_; (with_reducible refine (alu_number_word.calls (IntKind.u64.wrap (t155)) t156 _ A8.out).mono ?_); rintro e w' ⟨rfl, ⟨nd, rfl⟩⟩; refine ⟨_, rfl, ?_⟩))
  go_ret
  exact ⟨by first | rfl | (simp; done) | (simp [*]; done), by repeat (first | exact Drawn0.refl _ | apply Drawn0.step)⟩

/-! ### alu_number_remuw: function 54 -/
def alu_number_remuw.f (a0 : Int) (a1 : Int) : Option (Int) := (alu_number_small.f a0).bind fun t157 => ((alu_number_small.f a1).bind fun t158 => ((alu_number_remu.f t157 t158).bind fun t159 => ((alu_number_word.f t159).bind fun t160 => (some t160))))
set_option maxHeartbeats 8000000 in
set_option maxRecDepth 100000 in
theorem alu_number_remuw.calls (a0 : Int) (a1 : Int) (r : Int) (w : World) (h : alu_number_remuw.f a0 a1 = some r) :
    Calls Try.prog 54 #[.int .u64 a0, .int .u64 a1] w fun e w' => e = .returned (.int .u64 r) ∧ Drawn0 w w' := by
  have H : ((alu_number_small.f a0).bind fun t157 => ((alu_number_small.f a1).bind fun t158 => ((alu_number_remu.f t157 t158).bind fun t159 => ((alu_number_word.f t159).bind fun t160 => (some t160))))) = some r := h
  clear h
  replace H := Option.bind_eq_some_iff.mp H
  obtain ⟨t157, A30, H⟩ := H
  replace H : ((alu_number_small.f a1).bind fun t158 => ((alu_number_remu.f t157 t158).bind fun t159 => ((alu_number_word.f t159).bind fun t160 => (some t160)))) = some r := H
  have A3 := Aside0.mk A30
  clear A30
  replace H := Option.bind_eq_some_iff.mp H
  obtain ⟨t158, A40, H⟩ := H
  replace H : ((alu_number_remu.f t157 t158).bind fun t159 => ((alu_number_word.f t159).bind fun t160 => (some t160))) = some r := H
  have A4 := Aside0.mk A40
  clear A40
  replace H := Option.bind_eq_some_iff.mp H
  obtain ⟨t159, A50, H⟩ := H
  replace H : ((alu_number_word.f t159).bind fun t160 => (some t160)) = some r := H
  have A5 := Aside0.mk A50
  clear A50
  replace H := Option.bind_eq_some_iff.mp H
  obtain ⟨t160, A60, H⟩ := H
  replace H : (some t160) = some r := H
  have A6 := Aside0.mk A60
  clear A60
  obtain rfl := Option.some.inj H
  go_enter Try.func54, Try.ntmps54
  go_wp2_with (first | ((with_reducible refine gate_callee (f := 68) rfl ?_); refine goesL_ (some 6) rfl rfl Try.func68 (by kernel_rfl) rfl #[.int .u64 a0] rfl (by (try simp only [List.map_toArray, List.map_cons, List.map_nil]); first | done | rfl | (simp only [List.length_drop, List.length_take]; rfl)) ?_; (with_reducible refine (alu_number_small.calls a0 t157 _ A3.out).mono ?_); rintro e w' ⟨rfl, ⟨nd, rfl⟩⟩; refine ⟨_, rfl, ?_⟩) | ((with_reducible refine gate_callee (f := 68) rfl ?_); refine goesL_ (some 8) rfl rfl Try.func68 (by kernel_rfl) rfl #[.int .u64 a1] rfl (by (try simp only [List.map_toArray, List.map_cons, List.map_nil]); first | done | rfl | (simp only [List.length_drop, List.length_take]; rfl)) ?_; (with_reducible refine (alu_number_small.calls a1 t158 _ A4.out).mono ?_); rintro e w' ⟨rfl, ⟨nd, rfl⟩⟩; refine ⟨_, rfl, ?_⟩) | ((with_reducible refine gate_callee (f := 49) rfl ?_); refine goesL_ (some 9) rfl rfl Try.func49 (by kernel_rfl) rfl #[.int .u64 t157, .int .u64 t158] rfl (by (try simp only [List.map_toArray, List.map_cons, List.map_nil]); first | done | rfl | (simp only [List.length_drop, List.length_take]; rfl)) ?_; (with_reducible refine (alu_number_remu.calls t157 t158 t159 _ A5.out).mono ?_); rintro e w' ⟨rfl, ⟨nd, rfl⟩⟩; refine ⟨_, rfl, ?_⟩) | ((with_reducible refine gate_callee (f := 66) rfl ?_); refine goesL_ (some 10) rfl rfl Try.func66 (by kernel_rfl) rfl #[.int .u64 t159] rfl (by (try simp only [List.map_toArray, List.map_cons, List.map_nil]); first | done | rfl | (simp only [List.length_drop, List.length_take]; rfl)) ?_; (with_reducible refine (alu_number_word.calls t159 t160 _ A6.out).mono ?_); rintro e w' ⟨rfl, ⟨nd, rfl⟩⟩; refine ⟨_, rfl, ?_⟩))
  go_ret
  exact ⟨by first | rfl | (simp; done) | (simp [*]; done), by repeat (first | exact Drawn0.refl _ | apply Drawn0.step)⟩

-- NOT PRINTED: function 21 (alu_operations)

end Go.Proofs.Ytfjdbiinkonhhaa.PA
