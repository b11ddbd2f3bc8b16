/- The law AluDivides round the walk along its true ways: every case, and what its callees answer there. -/
import Derived.Test.YtfjdbiinkonhhaaWalkDiv
import Derived.Test.YtfjdbiinkonhhaaPNear
import Derived.Test.YtfjdbiinkonhhaaSpec
import Derived.Test.YtfjdbiinkonhhaaWalkKnown
namespace Go.Proofs.Ytfjdbiinkonhhaa.PA
open Go.RowKit Go.Proofs.Ytfjdbiinkonhhaa.Plain Go.Proofs.YtfjdbiinkonhhaaW.PrintWords Go.Proofs.YtfjdbiinkonhhaaW.PrintLast Go.Proofs.YtfjdbiinkonhhaaW.PrintMore
set_option linter.all false

theorem do_of {op a b v : Int} {c : Bool} (h : alu_Do.f op a b = some (v, c)) : almonrylaw02_do.f op a b = some v := by
  unfold almonrylaw02_do.f; rw [h]; rfl
theorem near {r b R B : Int} (hr : -9223372036854775808 ≤ r) (hr1 : r ≤ 9223372036854775807) (hb : -9223372036854775808 ≤ b) (hb1 : b ≤ 9223372036854775807) (hR : R = r % 18446744073709551616) (hB : B = b % 18446744073709551616) (h1 : 0 < b → -b < r ∧ r < b) (h2 : b < 0 → b < r ∧ r < -b) (h0 : b ≠ 0) : almonrylaw02_nearer.f R B = some true := by
  subst hR hB
  unfold almonrylaw02_nearer.f
  simp only [wu]
  split <;> split <;> simp <;> omega
theorem sameS {r a R A : Int} (hr : -9223372036854775808 ≤ r) (hr1 : r ≤ 9223372036854775807) (ha : -9223372036854775808 ≤ a) (ha1 : a ≤ 9223372036854775807) (hR : R = r % 18446744073709551616) (hA : A = a % 18446744073709551616) (h1 : 0 ≤ a → 0 ≤ r) (h2 : a ≤ 0 → r ≤ 0) : almonrylaw02_sameSign.f R A = some true := by
  subst hR hA
  unfold almonrylaw02_sameSign.f
  by_cases h : r % 18446744073709551616 = 0
  · simp [h]
  · simp only [h, if_false]
    rcases Int.lt_trichotomy a 0 with h3 | h3 | h3
    · have e1 : r % 18446744073709551616 ≥ 9223372036854775808 := by omega
      have e2 : a % 18446744073709551616 ≥ 9223372036854775808 := by omega
      simp [e1, e2]
    · exfalso; omega
    · have e1 : ¬ r % 18446744073709551616 ≥ 9223372036854775808 := by omega
      have e2 : ¬ a % 18446744073709551616 ≥ 9223372036854775808 := by omega
      simp only [e1, e2]; simp
theorem quot_mul {a b : Int} (ha : N64 a) (hb : N64 b) : qu a b % 18446744073709551616 * b + re a b = a ∨ b = 0 := by
  by_cases h : b = 0
  · exact .inr h
  · left
    rw [w_id (qu_bd ha hb).1]
    unfold qu re
    rw [if_neg h, if_neg h]
    have := Int.mul_ediv_add_emod a b
    rw [Int.mul_comm]; exact this

/-- a callee's answer, as the walk wants it -/
theorem cdo {op a b v : Int} (h : almonrylaw02_do.f op a b = some v) : Hid (∀ w, Calls Try.prog 17 #[.int .u8 op, .int .u64 a, .int .u64 b] w fun e w' => e = .returned (.int .u64 v) ∧ Fr [] w w') :=
  hid fun w => (almonrylaw02_do.calls op a b v w h).mono (by rintro e w' ⟨rfl, hb⟩; exact ⟨rfl, fr_of_below hb⟩)
theorem cnear {a b : Int} (h : almonrylaw02_nearer.f a b = some true) : Hid (∀ w, Calls Try.prog 18 #[.int .u64 a, .int .u64 b] w fun e w' => e = .returned (.bool true) ∧ Fr [] w w') :=
  hid fun w => (almonrylaw02_nearer.calls a b true w h).mono (by rintro e w' ⟨rfl, hb⟩; exact ⟨rfl, fr_of_drawn hb⟩)
theorem csame {a b : Int} (h : almonrylaw02_sameSign.f a b = some true) : Hid (∀ w, Calls Try.prog 19 #[.int .u64 a, .int .u64 b] w fun e w' => e = .returned (.bool true) ∧ Fr [] w w') :=
  hid fun w => (almonrylaw02_sameSign.calls a b true w h).mono (by rintro e w' ⟨rfl, hb⟩; exact ⟨rfl, fr_of_drawn hb⟩)
theorem cworks : Hid (∀ w, Calls Try.prog 14 #[] w fun e w' => e = .returned (.bool true) ∧ Fr [] w w') := hid fun w => works_lit w

theorem bne_f {x y : Int} (h : x = y) : (x != y) = false := by simp [h]
theorem bne_t {x y : Int} (h : x ≠ y) : (x != y) = true := by simp [h]
theorem beq_f {x y : Int} (h : x ≠ y) : (x == y) = false := by simp [h]
theorem beq_t {x y : Int} (h : x = y) : (x == y) = true := by simp [h]

/-- of low words: what the third and the fourth pair answer, behind a low word that is 0, or not -/
theorem low_z {a b : Int} (hz : sw b = 0) : ∃ S X Y Z, almonrylaw02_do.f 63 a b = some S ∧ almonrylaw02_do.f 65 a b = some X ∧ almonrylaw02_do.f 64 a b = some Y ∧ almonrylaw02_do.f 66 a b = some Z ∧
    IntKind.u64.wrap (IntKind.u64.wrap (S * IntKind.u64.wrap (wrap64 (wrap32 b))) + X) % 4294967296 = a % 4294967296 ∧ IntKind.u64.wrap (wrap64 (wrap32 b)) = 0 ∧ S = 18446744073709551615 ∧ X = IntKind.u64.wrap (wrap64 (wrap32 a)) ∧
    (Y % 4294967296 * (b % 4294967296) + Z) % 4294967296 = a % 4294967296 ∧ b % 4294967296 = 0 := by
  have hA := sw_bd a
  have hd : IntKind.u64.wrap (wrap64 (wrap32 b)) = sw b % 18446744073709551616 := by rw [word_wrap, wu]
  have hc : IntKind.u64.wrap (wrap64 (wrap32 a)) = sw a % 18446744073709551616 := by rw [word_wrap, wu]
  have hdv := divide_0 (sw a) (-2147483648)
  rw [← hz] at hdv
  have e1 := do_of (divw_f (a := a) (b := b) hdv).1
  have e2 := do_of (divw_f (a := a) (b := b) hdv).2
  have e3 := do_of (divuw_f a b).1
  have e4 := do_of (divuw_f a b).2
  have h1 : sw (-1) = -1 := by decide +kernel
  have h2 : sw (sw a) = sw a := sw_id (by omega) (by omega)
  rw [h1] at e1
  rw [h2] at e2
  have hb0 : b % 4294967296 = 0 := by have := sw_mod b; omega
  have hr : re (a % 4294967296) (b % 4294967296) = a % 4294967296 := by rw [hb0]; simp [re]
  rw [hr] at e4
  refine ⟨_, _, _, _, e1, e2, e3, e4, ?_, ?_, by decide, hc.symm, ?_, hb0⟩
  · rw [hd, hz, wu, wu]
    have := sw_mod a
    omega
  · rw [hd, hz]; rfl
  · rw [hb0]
    have := sw_mod (a % 4294967296)
    omega
theorem low_n {a b : Int} (hz : sw b ≠ 0) : ∃ S X Y Z, almonrylaw02_do.f 63 a b = some S ∧ almonrylaw02_do.f 65 a b = some X ∧ almonrylaw02_do.f 64 a b = some Y ∧ almonrylaw02_do.f 66 a b = some Z ∧
    IntKind.u64.wrap (IntKind.u64.wrap (S * IntKind.u64.wrap (wrap64 (wrap32 b))) + X) % 4294967296 = a % 4294967296 ∧ IntKind.u64.wrap (wrap64 (wrap32 b)) ≠ 0 ∧ almonrylaw02_nearer.f X (IntKind.u64.wrap (wrap64 (wrap32 b))) = some true ∧ almonrylaw02_sameSign.f X (IntKind.u64.wrap (wrap64 (wrap32 a))) = some true ∧
    (Y % 4294967296 * (b % 4294967296) + Z) % 4294967296 = a % 4294967296 ∧ b % 4294967296 ≠ 0 ∧ Z % 4294967296 < b % 4294967296 := by
  have hA := sw_bd a
  have hB := sw_bd b
  have hd : IntKind.u64.wrap (wrap64 (wrap32 b)) = sw b % 18446744073709551616 := by rw [word_wrap, wu]
  have hc : IntKind.u64.wrap (wrap64 (wrap32 a)) = sw a % 18446744073709551616 := by rw [word_wrap, wu]
  have hm : ∀ n : Int, n % 18446744073709551616 % 4294967296 = n % 4294967296 := fun n => by omega
  obtain ⟨q, r, hdv, D1, D2, D3, D4, D5⟩ := divide_f (L := 2147483648) (A := sw a) (B := sw b) (by decide) (by decide) (by omega) (by omega) hz
  have hr : sw r = r := sw_id (by omega) (by omega)
  have hq : sw q = q := sw_id (by omega) (by omega)
  have e1 := do_of (divw_f (a := a) (b := b) hdv).1
  have e2 := do_of (divw_f (a := a) (b := b) hdv).2
  rw [hq] at e1
  rw [hr] at e2
  have e3 := do_of (divuw_f a b).1
  have e4 := do_of (divuw_f a b).2
  have hb0 : b % 4294967296 ≠ 0 := by
    intro h
    exact hz (by have : sw b = sw 0 := sw_of_mod (by omega); rw [this]; decide +kernel)
  refine ⟨_, _, _, _, e1, e2, e3, e4, ?_, by rw [hd]; omega, ?_, ?_, ?_, hb0, ?_⟩
  · rw [hd, wu, wu, ← Int.mul_emod, ← Int.add_emod, hm]
    have := sw_mod a
    rcases D1 with ⟨D, _⟩ | ⟨D, E, F, G⟩
    · rw [D]; exact this
    · rw [E, F, G]; omega
  · rw [hd]; exact near (by omega) (by omega) (by omega) (by omega) rfl rfl D2 D3 hz
  · rw [hc]; exact sameS (by omega) (by omega) (by omega) (by omega) rfl rfl D4 D5
  all_goals
    have hm2 : ∀ n, sw n % 18446744073709551616 % 4294967296 = n % 4294967296 := fun n => by have := sw_mod n; omega
    have h1 := low_N a
    have h2 := low_N b
    have hq : qu (a % 4294967296) (b % 4294967296) = a % 4294967296 / (b % 4294967296) := by simp [qu, hb0]
    have hr : re (a % 4294967296) (b % 4294967296) = a % 4294967296 % (b % 4294967296) := by simp [re, hb0]
    have hlt : a % 4294967296 % (b % 4294967296) < b % 4294967296 := Int.emod_lt_of_pos _ (by omega)
    have h0 : 0 ≤ a % 4294967296 % (b % 4294967296) := Int.emod_nonneg _ (by omega)
    have hmul := Int.mul_ediv_add_emod (a % 4294967296) (b % 4294967296)
  · rw [hm2, hq, hr]
    have hs := sw_mod (a % 4294967296 % (b % 4294967296))
    generalize hX : a % 4294967296 / (b % 4294967296) = X at *
    generalize hY : a % 4294967296 % (b % 4294967296) = Y at *
    have e5 : (X % 4294967296 * (b % 4294967296)) % 4294967296 = (X * (b % 4294967296)) % 4294967296 := by rw [Int.mul_emod, Int.emod_emod, ← Int.mul_emod]
    rw [Int.add_emod, e5, hm2, ← Int.add_emod, Int.mul_comm, hmul]
    omega
  · rw [hm2, hr]; omega

theorem law_AluDivides (a b : Int) (w : World) (w0 : (Lit.int .u64 a).wf = true) (w1 : (Lit.int .u64 b).wf = true) :
    Calls Try.prog 5 #[.int .u64 a, .int .u64 b] w fun e w' => e = .returned (.bool true) ∧ Below w.heap.size w w' := by
  suffices h : Calls Try.prog 5 #[.int .u64 a, .int .u64 b] w fun e w' => e = .returned (.bool true) ∧ Fr [] w w' from h.mono (by rintro e w' ⟨rfl, hb⟩; exact ⟨rfl, below_of_fr hb⟩)
  have ha := N64.of w0
  have hb := N64.of w1
  have sa := sg_bd ha
  have sb := sg_bd hb
  have ea := sg_eq ha
  have eb := sg_eq hb
  rw [w_id ha] at ea
  rw [w_id hb] at eb
  have e3 := do_of (divu_f ha hb).1
  have e4 := do_of (divu_f ha hb).2
  by_cases hz : b = 0
  · have hdv := divide_0 (sg a) (-9223372036854775808)
    have hs0 : sg b = 0 := by rw [hz]; decide
    rw [← hs0] at hdv
    have e1 := do_of (div_f ha hb hdv).1
    have e2 := do_of (div_f ha hb hdv).2
    rw [ea] at e2
    have h5 : qu a b = 18446744073709551615 := by simp [qu, hz]
    have h6 : re a b = a := by simp [re, hz]
    rw [h5] at e3
    rw [h6] at e4
    have hw0 : sw b = 0 := by rw [hz]; decide +kernel
    obtain ⟨S, X, Y, Z, c1, c2, c3, c4, k1, k2, k3, k4, k5, k6⟩ := low_z (a := a) hw0
    have m1 : (IntKind.u64.wrap (IntKind.u64.wrap (-1 % 18446744073709551616 * b) + a)) = a := by rw [hz, wu, wu]; have := w_id ha; omega
    have m2 : (IntKind.u64.wrap (IntKind.u64.wrap (18446744073709551615 * b) + a)) = a := by rw [hz, wu, wu]; have := w_id ha; omega
    refine div_z a b _ _ _ _ _ _ _ _ w (cdo e1) (cdo e2) (cdo e3) (cdo e4) (cdo c1) (cdo c2) (cdo c3) (cdo c4) cworks (hid ⟨bne_f m1, bne_f m2, bne_f hz, beq_t hz, bne_f (by decide), bne_f rfl, beq_f (by omega)⟩) (hid ⟨bne_f k1, bne_f k2, beq_t k2, bne_f k3, bne_f k4⟩) (hid ⟨beq_t k5, k5, beq_t (by rw [Int.add_emod, Int.emod_emod, Int.emod_emod, ← Int.add_emod]; exact k5), beq_t k6⟩)
  · have hzs : sg b ≠ 0 := by unfold N64 at hb; unfold sg; split <;> omega
    obtain ⟨q, r, hdv, D1, D2, D3, D4, D5⟩ := divide_f (L := 9223372036854775808) (A := sg a) (B := sg b) (by decide) (by decide) (by omega) (by omega) hzs
    have e1 := do_of (div_f ha hb hdv).1
    have e2 := do_of (div_f ha hb hdv).2
    have hn : almonrylaw02_nearer.f (r % 18446744073709551616) b = some true := near (by omega) (by omega) sb.1 sb.2 rfl eb.symm D2 D3 hzs
    have hs : almonrylaw02_sameSign.f (r % 18446744073709551616) a = some true := sameS (by omega) (by omega) sa.1 sa.2 rfl ea.symm D4 D5
    have h3 : IntKind.u64.wrap (IntKind.u64.wrap (q % 18446744073709551616 * b) + r % 18446744073709551616) = a := by
      rw [wu, wu]
      rw [← ea, ← eb, ← Int.mul_emod, ← Int.add_emod]
      rcases D1 with ⟨D, _⟩ | ⟨D, E, F, G⟩
      · rw [D]
      · rw [E, F, G, D]; decide
    have h4 : IntKind.u64.wrap (IntKind.u64.wrap (qu a b * b) + re a b) = a := by
      rw [wu, wu]
      rcases quot_mul ha hb with h | h
      · rw [w_id (qu_bd ha hb).1] at h
        have := (qu_bd ha hb).2
        unfold N64 at this ha
        generalize qu a b * b = X at *
        omega
      · exact absurd h hz
    have h5 : re a b < b := by
      unfold re; rw [if_neg hz]
      exact Int.emod_lt_of_pos a (show 0 < b by unfold N64 at hb; omega)
    have h6 : b = 9223372036854775808 → ¬ a = 9223372036854775808 → r % 18446744073709551616 = a := by
      intro hb' ha'
      have e5 : sg b = -9223372036854775808 := by rw [hb']; decide
      have e6 : sg a ≠ -9223372036854775808 := by unfold N64 at ha; unfold sg; split <;> omega
      have : r = sg a := by
        rcases D1 with ⟨D, _, _⟩ | ⟨D, _⟩
        · rw [e5] at D
          omega
        · exact absurd D e6
      rw [this, ea]
    have hv1 : decide (re a b ≥ b) = false := by simp; omega
    have hv2 : decide (b ≤ re a b) = false := by simp; omega
    have g3 : ∀ {Y Z : Int}, (Y % 4294967296 * (b % 4294967296) + Z) % 4294967296 = a % 4294967296 → ((Y % 4294967296 * (b % 4294967296) % 4294967296 + Z % 4294967296) % 4294967296 == a % 4294967296) = true := fun k => beq_t (by rw [Int.add_emod, Int.emod_emod, Int.emod_emod, ← Int.add_emod]; exact k)
    by_cases hl : b = 9223372036854775808
    · have hw0 : sw b = 0 := by rw [hl]; decide +kernel
      obtain ⟨S, X, Y, Z, c1, c2, c3, c4, k1, k2, k3, k4, k5, k6⟩ := low_z (a := a) hw0
      by_cases hl2 : a = 9223372036854775808
      · exact div_ll a b _ _ _ _ _ _ _ _ w (cdo e1) (cdo e2) (cdo e3) (cdo e4) (cdo c1) (cdo c2) (cdo c3) (cdo c4) (cnear hn) (csame hs) cworks (hid ⟨bne_f h3, bne_f h4, bne_t hz, beq_f hz, hv1, hv2, beq_t hl, bne_f hl2⟩) (hid ⟨bne_f k1, bne_f k2, beq_t k2, bne_f k3, bne_f k4⟩) (hid ⟨beq_t k5, k5, g3 k5, beq_t k6⟩)
      · exact div_ln a b _ _ _ _ _ _ _ _ w (cdo e1) (cdo e2) (cdo e3) (cdo e4) (cdo c1) (cdo c2) (cdo c3) (cdo c4) (cnear hn) (csame hs) cworks (hid ⟨bne_f h3, bne_f h4, bne_t hz, beq_f hz, hv1, hv2, beq_t hl, bne_t hl2, bne_f (h6 hl hl2)⟩) (hid ⟨bne_f k1, bne_f k2, beq_t k2, bne_f k3, bne_f k4⟩) (hid ⟨beq_t k5, k5, g3 k5, beq_t k6⟩)
    · by_cases hw0 : sw b = 0
      · obtain ⟨S, X, Y, Z, c1, c2, c3, c4, k1, k2, k3, k4, k5, k6⟩ := low_z (a := a) hw0
        exact div_o a b _ _ _ _ _ _ _ _ w (cdo e1) (cdo e2) (cdo e3) (cdo e4) (cdo c1) (cdo c2) (cdo c3) (cdo c4) (cnear hn) (csame hs) cworks (hid ⟨bne_f h3, bne_f h4, bne_t hz, beq_f hz, hv1, hv2, beq_f hl⟩) (hid ⟨bne_f k1, bne_f k2, beq_t k2, bne_f k3, bne_f k4⟩) (hid ⟨beq_t k5, k5, g3 k5, beq_t k6⟩)
      · obtain ⟨S, X, Y, Z, c1, c2, c3, c4, k1, k2, k3, k4, k5, k6, k7⟩ := low_n (a := a) hw0
        exact div_n a b _ _ _ _ _ _ _ _ w (cdo e1) (cdo e2) (cdo e3) (cdo e4) (cdo c1) (cdo c2) (cdo c3) (cdo c4) (cnear hn) (csame hs) (cnear k3) (csame k4) cworks (hid ⟨bne_f h3, bne_f h4, bne_t hz, beq_f hz, hv1, hv2, beq_f hl⟩) (hid ⟨bne_f k1, bne_t k2, beq_f k2⟩) (hid ⟨beq_t k5, k5, g3 k5, beq_f k6, by simpa using k7⟩)
end Go.Proofs.Ytfjdbiinkonhhaa.PA
