/- The law AluAgrees round the walk along its true ways. -/
import Derived.Test.YtfjdbiinkonhhaaWalkAgr
import Derived.Test.YtfjdbiinkonhhaaWalkKnown
import Derived.Test.YtfjdbiinkonhhaaOps2
namespace Go.Proofs.Ytfjdbiinkonhhaa.PA
open Go.RowKit Go.Proofs.Ytfjdbiinkonhhaa.Plain Go.Proofs.YtfjdbiinkonhhaaW.PrintWords Go.Proofs.YtfjdbiinkonhhaaW.PrintLast Go.Proofs.YtfjdbiinkonhhaaW.PrintMore
set_option linter.all false

theorem cdoA {op a b v : Int} (h : almonrylaw02_do.f op a b = some v) : Hid (∀ w, Calls Try.prog 17 #[.int .u8 op, .int .u64 a, .int .u64 b] w fun e w' => e = .returned (.int .u64 v) ∧ Fr [] w w') :=
  hid fun w => (almonrylaw02_do.calls op a b v w h).mono (by rintro e w' ⟨rfl, hb⟩; exact ⟨rfl, fr_of_below hb⟩)
theorem cbr {op a b : Int} {x : Bool} (h : alu_Branch.f 12 op a b = some (x, true)) : Hid (∀ w, Calls Try.prog 15 #[.int .u8 op, .int .u64 a, .int .u64 b] w fun e w' => e = .returned (.tuple #[.bool x, .bool true]) ∧ Fr [] w w') :=
  hid fun w => (alu_Branch.calls 12 op a b x true w h).mono (by rintro e w' ⟨rfl, hb⟩; exact ⟨rfl, fr_of_drawn hb⟩)
theorem to_v {o : Option Int} {v v' : Int} (h : o = some v) (e : v = v') : o = some v' := by rw [h, e]
theorem to_b {o : Option (Bool × Bool)} {v v' : Bool} (h : o = some (v, true)) (e : v = v') : o = some (v', true) := by rw [h, e]

theorem law_AluAgrees (a b c : Int) (w : World) (w0 : (Lit.int .u64 a).wf = true) (w1 : (Lit.int .u64 b).wf = true) (w2 : (Lit.int .u64 c).wf = true) :
    Calls Try.prog 8 #[.int .u64 a, .int .u64 b, .int .u64 c] w fun e w' => e = .returned (.bool true) ∧ Below w.heap.size w w' := by
  suffices h : Calls Try.prog 8 #[.int .u64 a, .int .u64 b, .int .u64 c] w fun e w' => e = .returned (.bool true) ∧ Fr [] w w' from h.mono (by rintro e w' ⟨rfl, hb⟩; exact ⟨rfl, below_of_fr hb⟩)
  have ha := N64.of w0
  have hb := N64.of w1
  have hc := N64.of w2
  have hm : ∀ {x : Int}, N64 (x % 18446744073709551616) := fun {x} => by unfold N64; omega
  have hn : Int.tmod c 63 = c % 63 := Int.tmod_eq_emod_of_nonneg hc.1
  have n0 : 0 ≤ c % 63 := by omega
  have n1 : c % 63 < 63 := by omega
  have hnN : N64 (Int.tmod c 63) := by rw [hn]; unfold N64; omega
  have h1 : IntKind.u64.wrap (Int.tmod c 63 + 1) = c % 63 + 1 := by rw [hn, wu]; omega
  have h1N : N64 (IntKind.u64.wrap (Int.tmod c 63 + 1)) := by rw [h1]; unfold N64; omega
  have o1 : N64 1 := by unfold N64; omega
  have o0 : N64 0 := by unfold N64; omega
  have hand : bits .and .u64 c 63 = c % 64 := and63 hc
  have handN : N64 (bits .and .u64 c 63) := and_N
  have d1 : ∀ b, almonrylaw02_do.f 32 ((a + b) % 18446744073709551616) b = some a := fun b => to_v (do32 _ _) (sub_add b ha)
  have d3 : ∀ b, almonrylaw02_do.f 36 (bits .xor .u64 a b) b = some a := fun b => to_v (do36 _ _) (xor_back b ha)
  have d6 : ∀ b, N64 b → almonrylaw02_do.f 31 (bits .and .u64 a b) (bits .or .u64 a b) = some ((a + b) % 18446744073709551616) := fun b hb => to_v (do31 _ _) (and_or ha hb)
  have d9 : ∀ b, almonrylaw02_do.f 31 ((a + b) % 18446744073709551616) c = some ((a + (b + c) % 18446744073709551616) % 18446744073709551616) := fun b => to_v (do31 _ _) (add_assoc_m a b c).symm
  have d12 : almonrylaw02_do.f 33 a (IntKind.u64.wrap (Int.tmod c 63 + 1)) = some (a * 2 ^ (Int.tmod c 63 % 64).toNat % 18446744073709551616 * 2 ^ ((1 : Int) % 64).toNat % 18446744073709551616) := to_v (do33 h1N) (by rw [h1, hn]; exact (sll_step n0 n1).symm)
  have d15 : almonrylaw02_do.f 37 a (IntKind.u64.wrap (Int.tmod c 63 + 1)) = some (a / 2 ^ (Int.tmod c 63 % 64).toNat / 2 ^ ((1 : Int) % 64).toNat) := to_v (do37 h1N) (by rw [h1, hn]; exact (srl_step n0 n1).symm)
  have d18 : almonrylaw02_do.f 38 a (IntKind.u64.wrap (Int.tmod c 63 + 1)) = some (sg (sg a / 2 ^ (Int.tmod c 63 % 64).toNat % 18446744073709551616) / 2 ^ ((1 : Int) % 64).toNat % 18446744073709551616) := to_v (do38 ha h1N) (by rw [h1, hn]; exact (sra_step ha n0 n1).symm)
  have d20 : almonrylaw02_do.f 33 a (bits .and .u64 c 63) = some (a * 2 ^ (c % 64).toNat % 18446744073709551616) := to_v (do33 handN) (by rw [hand, Int.emod_emod])
  have d21 : almonrylaw02_do.f 38 a 0 = some a := to_v (do38 ha o0) (sra_0 ha)
  have hx : ∀ b, N64 b → almonrylaw02_do.f 35 (bits .xor .u64 a 9223372036854775808) (bits .xor .u64 b 9223372036854775808) = some (bi (decide (sg a < sg b))) := fun b hb => to_v (do35 _ _) (by congr 1; simp only [xor_lt ha hb])
  have nle : ¬ sg a < sg a := by omega
  have nla : ¬ a < a := by omega
  by_cases he : a = b
  · subst he
    exact agr_eq a c _ _ _ _ _ _ _ _ _ _ _ _ _ w (cdoA (do31 _ _)) (cdoA (d1 _)) (cdoA (do36 _ _)) (cdoA (d3 _)) (cdoA (do40 _ _)) (cdoA (do39 _ _)) (cdoA (d6 _ ha)) (cdoA (do31 _ _)) (cdoA (do31 _ _)) (cdoA (d9 _))
      (cdoA (do33 hnN)) (cdoA (do33 o1)) (cdoA d12) (cdoA (do37 hnN)) (cdoA (do37 o1)) (cdoA d15) (cdoA (do38 ha hnN)) (cdoA (do38 hm o1)) (cdoA d18) (cdoA (do33 hc)) (cdoA d20) (cdoA d21)
      (cdoA (to_v (do34 ha ha) (by simp [nle, bi]))) (cdoA (to_v (hx a ha) (by simp [nle, bi]))) (cdoA (to_v (do35 _ _) (by simp [nla, bi])))
      (cbr (to_b (br5 _ _) (by simp))) (cbr (to_b (br6 _ _) (by simp))) (cbr (to_b (br7 ha ha) (by simp [nle]))) (cbr (to_b (br8 ha ha) (by simp [nle]))) (cbr (to_b (br9 _ _) (by simp [nla]))) (cbr (to_b (br10 _ _) (by simp [nla]))) (hid fun w => works_lit w)
  · have hs : sg a ≠ sg b := fun h => he (sg_inj ha hb h)
    have F : (a == b) = false ∧ (a != b) = true := by simp [he]
    by_cases hl : sg a < sg b
    · have hl2 : ¬ sg b < sg a := by omega
      by_cases hu : a < b
      · have hu2 : ¬ b < a := by omega
        exact agr_tt a b c _ _ _ _ _ _ _ _ _ _ _ _ _ w (cdoA (do31 _ _)) (cdoA (d1 _)) (cdoA (do36 _ _)) (cdoA (d3 _)) (cdoA (do40 _ _)) (cdoA (do39 _ _)) (cdoA (d6 _ hb)) (cdoA (do31 _ _)) (cdoA (do31 _ _)) (cdoA (d9 _))
          (cdoA (do33 hnN)) (cdoA (do33 o1)) (cdoA d12) (cdoA (do37 hnN)) (cdoA (do37 o1)) (cdoA d15) (cdoA (do38 ha hnN)) (cdoA (do38 hm o1)) (cdoA d18) (cdoA (do33 hc)) (cdoA d20) (cdoA d21)
          (cdoA (to_v (do34 ha hb) (by simp [hl, bi]))) (cdoA (to_v (hx b hb) (by simp [hl, bi]))) (cdoA (to_v (do35 _ _) (by simp [hu, bi]))) (cdoA (to_v (do35 _ _) (by simp [hu2, bi]))) (cdoA (to_v (do34 hb ha) (by simp [hl2, bi])))
          (cbr (to_b (br5 _ _) F.1)) (cbr (to_b (br6 _ _) F.2)) (cbr (to_b (br7 ha hb) (by simp [hl]))) (cbr (to_b (br8 ha hb) (by simp [hl]))) (cbr (to_b (br9 _ _) (by simp [hu]))) (cbr (to_b (br10 _ _) (by simp [hu]))) (hid fun w => works_lit w) (hid F)
      · have hu2 : b < a := by omega
        exact agr_tf a b c _ _ _ _ _ _ _ _ _ _ _ _ _ w (cdoA (do31 _ _)) (cdoA (d1 _)) (cdoA (do36 _ _)) (cdoA (d3 _)) (cdoA (do40 _ _)) (cdoA (do39 _ _)) (cdoA (d6 _ hb)) (cdoA (do31 _ _)) (cdoA (do31 _ _)) (cdoA (d9 _))
          (cdoA (do33 hnN)) (cdoA (do33 o1)) (cdoA d12) (cdoA (do37 hnN)) (cdoA (do37 o1)) (cdoA d15) (cdoA (do38 ha hnN)) (cdoA (do38 hm o1)) (cdoA d18) (cdoA (do33 hc)) (cdoA d20) (cdoA d21)
          (cdoA (to_v (do34 ha hb) (by simp [hl, bi]))) (cdoA (to_v (hx b hb) (by simp [hl, bi]))) (cdoA (to_v (do35 _ _) (by simp [hu, bi]))) (cdoA (to_v (do35 _ _) (by simp [hu2, bi]))) (cdoA (to_v (do34 hb ha) (by simp [hl2, bi])))
          (cbr (to_b (br5 _ _) F.1)) (cbr (to_b (br6 _ _) F.2)) (cbr (to_b (br7 ha hb) (by simp [hl]))) (cbr (to_b (br8 ha hb) (by simp [hl]))) (cbr (to_b (br9 _ _) (by simp [hu]))) (cbr (to_b (br10 _ _) (by simp [hu]))) (hid fun w => works_lit w) (hid F)
    · have hl2 : sg b < sg a := by omega
      by_cases hu : a < b
      · have hu2 : ¬ b < a := by omega
        exact agr_ft a b c _ _ _ _ _ _ _ _ _ _ _ _ _ w (cdoA (do31 _ _)) (cdoA (d1 _)) (cdoA (do36 _ _)) (cdoA (d3 _)) (cdoA (do40 _ _)) (cdoA (do39 _ _)) (cdoA (d6 _ hb)) (cdoA (do31 _ _)) (cdoA (do31 _ _)) (cdoA (d9 _))
          (cdoA (do33 hnN)) (cdoA (do33 o1)) (cdoA d12) (cdoA (do37 hnN)) (cdoA (do37 o1)) (cdoA d15) (cdoA (do38 ha hnN)) (cdoA (do38 hm o1)) (cdoA d18) (cdoA (do33 hc)) (cdoA d20) (cdoA d21)
          (cdoA (to_v (do34 ha hb) (by simp [hl, bi]))) (cdoA (to_v (hx b hb) (by simp [hl, bi]))) (cdoA (to_v (do35 _ _) (by simp [hu, bi]))) (cdoA (to_v (do35 _ _) (by simp [hu2, bi]))) (cdoA (to_v (do34 hb ha) (by simp [hl2, bi])))
          (cbr (to_b (br5 _ _) F.1)) (cbr (to_b (br6 _ _) F.2)) (cbr (to_b (br7 ha hb) (by simp [hl]))) (cbr (to_b (br8 ha hb) (by simp [hl]))) (cbr (to_b (br9 _ _) (by simp [hu]))) (cbr (to_b (br10 _ _) (by simp [hu]))) (hid fun w => works_lit w) (hid F)
      · have hu2 : b < a := by omega
        exact agr_ff a b c _ _ _ _ _ _ _ _ _ _ _ _ _ w (cdoA (do31 _ _)) (cdoA (d1 _)) (cdoA (do36 _ _)) (cdoA (d3 _)) (cdoA (do40 _ _)) (cdoA (do39 _ _)) (cdoA (d6 _ hb)) (cdoA (do31 _ _)) (cdoA (do31 _ _)) (cdoA (d9 _))
          (cdoA (do33 hnN)) (cdoA (do33 o1)) (cdoA d12) (cdoA (do37 hnN)) (cdoA (do37 o1)) (cdoA d15) (cdoA (do38 ha hnN)) (cdoA (do38 hm o1)) (cdoA d18) (cdoA (do33 hc)) (cdoA d20) (cdoA d21)
          (cdoA (to_v (do34 ha hb) (by simp [hl, bi]))) (cdoA (to_v (hx b hb) (by simp [hl, bi]))) (cdoA (to_v (do35 _ _) (by simp [hu, bi]))) (cdoA (to_v (do35 _ _) (by simp [hu2, bi]))) (cdoA (to_v (do34 hb ha) (by simp [hl2, bi])))
          (cbr (to_b (br5 _ _) F.1)) (cbr (to_b (br6 _ _) F.2)) (cbr (to_b (br7 ha hb) (by simp [hl]))) (cbr (to_b (br8 ha hb) (by simp [hl]))) (cbr (to_b (br9 _ _) (by simp [hu]))) (cbr (to_b (br10 _ _) (by simp [hu]))) (hid fun w => works_lit w) (hid F)
end Go.Proofs.Ytfjdbiinkonhhaa.PA
