/- The high and the low halves of a product are the whole one; the signed ones differ as the document says. Under no condition. -/
import Derived.Test.YtfjdbiinkonhhaaPAx7
import Derived.Test.YtfjdbiinkonhhaaSpec
namespace Go.Proofs.Ytfjdbiinkonhhaa.Pure
open Go.RowKit Go.Proofs.Ytfjdbiinkonhhaa.PA Go.Proofs.Ytfjdbiinkonhhaa.Plain Go.Proofs.YtfjdbiinkonhhaaW.PrintWords Go.Proofs.YtfjdbiinkonhhaaW.PrintLast Go.Proofs.YtfjdbiinkonhhaaW.PrintMore
set_option linter.all false
theorem AluMultiplies : almonrylaw02_AluMultiplies.Pure := by
  intro a b h0 h1
  have ha := N64.of h0
  have hb := N64.of h1
  refine ⟨8, ?_⟩
  have hw : ∀ k, k = 6 → almonrylaw02_works.f k = some true := fun k hk => by subst hk; decide +kernel
  obtain ⟨p, q, r, s, hp, hq, hr, hs, p0, p1, q0, q1, r0, r1, s0, s1, e⟩ := halves ha hb
  have e1 : s % 18446744073709551616 = s := by omega
  have e2 : q % 18446744073709551616 = q := by omega
  have e3 : r % 18446744073709551616 = r := by omega
  have e4 : p % 18446744073709551616 = p := by omega
  have nq : N64 q := by unfold N64; omega
  have nr : N64 r := by unfold N64; omega
  have ns : N64 s := by unfold N64; omega
  have hh : ((((p + q / 4294967296) % 18446744073709551616 + r / 4294967296) % 18446744073709551616 + ((q % 4294967296 + r % 4294967296) % 18446744073709551616 + s / 4294967296) % 18446744073709551616 / 4294967296) % 18446744073709551616) = a * b / 18446744073709551616 := by omega
  have hl : bits .or .u64 (((q % 4294967296 + r % 4294967296) % 18446744073709551616 + s / 4294967296) % 18446744073709551616 * 4294967296 % 18446744073709551616) (s % 4294967296) = a * b % 18446744073709551616 := by
    rw [or_low 32 (by decide) (by unfold N64; omega) (by show _ % (4294967296 : Int) = 0; omega) (by omega) (by show _ < (4294967296 : Int); omega)]
    omega
  unfold almonrylaw02_AluMultiplies.f
  simp only [almonrylaw02_do.f, do54, do55 ha hb, do56 ha hb, do57 ha hb, do57 hb ha, do55 hb ha, Option.bind_some, wu, and32 ha, and32 hb, hp, hq, hr, hs, e1, e2, e3, e4, and32 nq, and32 nr, and32 ns, hh, hl, Int.mul_comm b a, if_true]
  have hc : hss a b = hss b a := by
    unfold hss hsu
    rw [Int.mul_comm b a]
    unfold N64 at ha hb
    split <;> split <;> omega
  have hc' : (hss a b != hss b a) = false := by rw [hc]; simp
  rw [hc']
  have hge : ∀ x : Int, (x ≥ 9223372036854775808) ↔ ¬ x < 9223372036854775808 := fun x => by omega
  have hu : hsu a b = if a < 9223372036854775808 then a * b / 18446744073709551616 else (a * b / 18446744073709551616 - b) % 18446744073709551616 := rfl
  have hv : hss a b = if b < 9223372036854775808 then hsu a b else (hsu a b - a) % 18446744073709551616 := rfl
  by_cases ea : a < 9223372036854775808 <;> by_cases eb : b < 9223372036854775808
  all_goals
    simp only [ea, if_true, if_false] at hu
    simp only [eb, if_true, if_false] at hv
    simp [almonrylaw02_AluMultiplies.j0, almonrylaw02_AluMultiplies.j1, hge, ea, eb, almonrylaw02_do.f, do55 ha hb, do56 ha hb, wu, hw, hv, hu]
end Go.Proofs.Ytfjdbiinkonhhaa.Pure
