/- The law AluWords round its walk: what operations on low words answer. -/
import Derived.Test.YtfjdbiinkonhhaaWalkWords
import Derived.Test.YtfjdbiinkonhhaaWalkKnown
import Derived.Test.YtfjdbiinkonhhaaOps2
namespace Go.Proofs.Ytfjdbiinkonhhaa.PA
open Go.RowKit Go.Proofs.Ytfjdbiinkonhhaa.Plain Go.Proofs.YtfjdbiinkonhhaaW.PrintWords Go.Proofs.YtfjdbiinkonhhaaW.PrintLast Go.Proofs.YtfjdbiinkonhhaaW.PrintMore
set_option linter.all false

theorem cdoB {op a b v : Int} (h : almonrylaw02_do.f op a b = some v) (w : World) : Calls Try.prog 17 #[.int .u8 op, .int .u64 a, .int .u64 b] w fun e w' => e = .returned (.int .u64 v) ∧ Fr [] w w' :=
  (almonrylaw02_do.calls op a b v w h).mono (by rintro e w' ⟨rfl, hb⟩; exact ⟨rfl, fr_of_below hb⟩)
theorem do_of' {op a b v : Int} {c : Bool} (h : alu_Do.f op a b = some (v, c)) : almonrylaw02_do.f op a b = some v := by
  unfold almonrylaw02_do.f; rw [h]; rfl
theorem five_of {b : Int} (hb : N64 b) : alu_number_five.f b = some (b % 32) := by unfold alu_number_five.f; rw [and31 hb]
theorem do45 (a b : Int) : almonrylaw02_do.f 45 a b = some (sw (a + b) % 18446744073709551616) := do_of' (c := true) (by
  unfold alu_Do.f; rw [show alu_Reg.f 45 = some (45, true) from rfl]; simp [alu_number_addw.f, word_f, wu, sw_of_mod (show ((a + b) % 18446744073709551616) % 4294967296 = (a + b) % 4294967296 by omega)])
theorem do46 (a b : Int) : almonrylaw02_do.f 46 a b = some (sw (a - b) % 18446744073709551616) := do_of' (c := true) (by
  unfold alu_Do.f; rw [show alu_Reg.f 46 = some (46, true) from rfl]; simp [alu_number_subw.f, word_f, wu, sw_of_mod (show ((a - b) % 18446744073709551616) % 4294967296 = (a - b) % 4294967296 by omega)])
theorem do62 (a b : Int) : almonrylaw02_do.f 62 a b = some (sw (a * b) % 18446744073709551616) := do_of' (c := true) (by
  unfold alu_Do.f; rw [show alu_Reg.f 62 = some (62, true) from rfl]; simp [alu_number_mulw.f, word_f, wu, sw_of_mod (show ((a * b) % 18446744073709551616) % 4294967296 = (a * b) % 4294967296 by generalize a * b = x; omega)])
theorem do47 {a b : Int} (hb : N64 b) : almonrylaw02_do.f 47 a b = some (sw (a * 2 ^ (b % 32).toNat) % 18446744073709551616) := do_of' (c := true) (by
  have h : 0 ≤ b % 32 := by omega
  unfold alu_Do.f; rw [show alu_Reg.f 47 = some (47, true) from rfl]
  simp [alu_number_sllw.f, five_of hb, h, shl_m h (by omega : b % 32 < 64), word_f, sw_of_mod (show ((a * 2 ^ (b % 32).toNat) % 18446744073709551616) % 4294967296 = (a * 2 ^ (b % 32).toNat) % 4294967296 by generalize a * 2 ^ (b % 32).toNat = x; omega)])
theorem do48 {a b : Int} (hb : N64 b) : almonrylaw02_do.f 48 a b = some (sw (a % 4294967296 / 2 ^ (b % 32).toNat) % 18446744073709551616) := do_of' (c := true) (by
  have h : 0 ≤ b % 32 := by omega
  unfold alu_Do.f; rw [show alu_Reg.f 48 = some (48, true) from rfl]
  simp [alu_number_srlw.f, alu_number_small.f, five_of hb, h, shr_m (by omega : b % 32 < 64), word_f])
theorem do49 {a b : Int} (hb : N64 b) : almonrylaw02_do.f 49 a b = some (sw a / 2 ^ (b % 32).toNat % 18446744073709551616) := do_of' (c := true) (by
  have h : 0 ≤ b % 32 := by omega
  unfold alu_Do.f; rw [show alu_Reg.f 49 = some (49, true) from rfl]
  simp [alu_number_sraw.f, alu_number_signed.f, five_of hb, h, shr_i (by omega : b % 32 < 64), word_f, signed_word, wu])
theorem sw_fix (n : Int) : sw (sw n % 18446744073709551616) = sw n := sw_of_mod (by have := sw_mod n; omega)
theorem sw_div {n : Int} (k : Nat) : -2147483648 ≤ sw n / 2 ^ k ∧ sw n / 2 ^ k ≤ 2147483647 := by
  have hp : (0 : Int) < 2 ^ k := Int.pow_pos (by decide)
  have hb := sw_bd n
  constructor
  · have h1 : (1 : Int) ≤ 2 ^ k := by omega
    have h2 := Int.mul_le_mul_of_nonneg_left h1 (by decide : (0 : Int) ≤ 2147483648)
    exact Int.le_ediv_of_mul_le hp (by omega)
  · rcases Int.lt_or_le (sw n) 0 with h | h
    · have := Int.ediv_neg_of_neg_of_pos h hp; omega
    · have := Int.ediv_le_self (2 ^ k) h; omega

/-- what a word operation answers: of low words alone, sign-extended -/
def Wv (op a b v : Int) : Prop := almonrylaw02_do.f op a b = some v ∧ sw v % 18446744073709551616 = v
theorem words_v {a b x y : Int} (hb : N64 b) (hy : N64 y) (ea : x % 4294967296 = a % 4294967296) (eb : y % 4294967296 = b % 4294967296) : ∀ k, k < 10 → ∃ v, Wv (wd k) a b v ∧ Wv (wd k) x y v := by
  have sa : sw x = sw a := sw_of_mod ea
  have sb : sw y = sw b := sw_of_mod eb
  have e5 : y % 32 = b % 32 := by omega
  have main : ∀ {op t : Int}, almonrylaw02_do.f op a b = some (sw t % 18446744073709551616) → almonrylaw02_do.f op x y = some (sw t % 18446744073709551616) → ∃ v, Wv op a b v ∧ Wv op x y v := fun {op t} h1 h2 => ⟨_, ⟨h1, by rw [sw_fix]⟩, ⟨h2, by rw [sw_fix]⟩⟩
  intro k hk
  have : k = 0 ∨ k = 1 ∨ k = 2 ∨ k = 3 ∨ k = 4 ∨ k = 5 ∨ k = 6 ∨ k = 7 ∨ k = 8 ∨ k = 9 := by omega
  have hA := sw_bd a
  have hB := sw_bd b
  rcases this with rfl | rfl | rfl | rfl | rfl | rfl | rfl | rfl | rfl | rfl
  · exact main (do45 a b) (by rw [show wd 0 = 45 from rfl, do45, sw_of_mod (show (x + y) % 4294967296 = (a + b) % 4294967296 by omega)])
  · exact main (do46 a b) (by rw [show wd 1 = 46 from rfl, do46, sw_of_mod (show (x - y) % 4294967296 = (a - b) % 4294967296 by omega)])
  · exact main (do47 hb) (by rw [show wd 2 = 47 from rfl, do47 hy, e5, sw_of_mod (mod_mul ea rfl)])
  · exact main (do48 hb) (by rw [show wd 3 = 48 from rfl, do48 hy, e5, ea])
  · have hd := sw_div (n := a) (b % 32).toNat
    refine ⟨_, ⟨do49 hb, ?_⟩, ⟨by rw [show wd 4 = 49 from rfl, do49 hy, e5, sa], ?_⟩⟩ <;> rw [show sw (sw a / 2 ^ (b % 32).toNat % 18446744073709551616) = sw a / 2 ^ (b % 32).toNat from by rw [sw_of_mod (show (sw a / 2 ^ (b % 32).toNat % 18446744073709551616) % 4294967296 = (sw a / 2 ^ (b % 32).toNat) % 4294967296 by omega), sw_id hd.1 hd.2]]
  · exact main (do62 a b) (by rw [show wd 5 = 62 from rfl, do62, sw_of_mod (mod_mul ea eb)])
  · have hdv : ∃ q r, alu_divide.f (sw a) (sw b) (-2147483648) = some (q, r) := by
      by_cases hz : sw b = 0
      · exact ⟨_, _, by rw [hz]; exact divide_0 _ _⟩
      · obtain ⟨q, r, h, _⟩ := divide_f (L := 2147483648) (A := sw a) (B := sw b) (by decide) (by decide) (by omega) (by omega) hz
        exact ⟨q, r, h⟩
    obtain ⟨q, r, h⟩ := hdv
    exact main (do_of' (divw_f h).1) (do_of' (divw_f (a := x) (b := y) (by rw [sa, sb]; exact h)).1)
  · exact main (do_of' (divuw_f a b).1) (by have := (do_of' (divuw_f x y).1); rw [ea, eb] at this; exact this)
  · have hdv : ∃ q r, alu_divide.f (sw a) (sw b) (-2147483648) = some (q, r) := by
      by_cases hz : sw b = 0
      · exact ⟨_, _, by rw [hz]; exact divide_0 _ _⟩
      · obtain ⟨q, r, h, _⟩ := divide_f (L := 2147483648) (A := sw a) (B := sw b) (by decide) (by decide) (by omega) (by omega) hz
        exact ⟨q, r, h⟩
    obtain ⟨q, r, h⟩ := hdv
    exact main (do_of' (divw_f h).2) (do_of' (divw_f (a := x) (b := y) (by rw [sa, sb]; exact h)).2)
  · exact main (do_of' (divuw_f a b).2) (by have := (do_of' (divuw_f x y).2); rw [ea, eb] at this; exact this)

theorem high_low {a h : Int} (ha : N64 a) (h0 : 0 ≤ h) (h1 : h < 4294967296) : ∃ x, bits BinOp.or IntKind.u64 (IntKind.u64.wrap (IntKind.u64.wrap h * 4294967296)) (bits BinOp.and IntKind.u64 a 4294967295) = x ∧ N64 x ∧ x % 4294967296 = a % 4294967296 := by
  refine ⟨_, rfl, ?_⟩
  have e : bits BinOp.or IntKind.u64 (IntKind.u64.wrap (IntKind.u64.wrap h * 4294967296)) (bits BinOp.and IntKind.u64 a 4294967295) = h * 4294967296 + a % 4294967296 := by
    rw [and32 ha, wu, wu, show h % 18446744073709551616 * 4294967296 % 18446744073709551616 = h * 4294967296 by omega]
    exact or_low 32 (by decide) (by unfold N64; omega) (by show _ % (4294967296 : Int) = 0; omega) (by omega) (by show _ < (4294967296 : Int); omega)
  rw [e]
  unfold N64 at *
  omega

theorem law_AluWords (a0 : Int) (a1 : Int) (a2_0 : Int) (a2_1 : Int) (w : World) (w0 : (Lit.int .u64 a0).wf = true) (w1 : (Lit.int .u64 a1).wf = true) (w2_0 : (Lit.int .u32 a2_0).wf = true) (w2_1 : (Lit.int .u32 a2_1).wf = true) :
    Calls Try.prog 7 #[.int .u64 a0, .int .u64 a1, .agg #[.int .u32 a2_0, .int .u32 a2_1]] w fun e w' => e = .returned (.bool true) ∧ Below w.heap.size w w' := by
  suffices h : Calls Try.prog 7 #[.int .u64 a0, .int .u64 a1, .agg #[.int .u32 a2_0, .int .u32 a2_1]] w fun e w' => e = .returned (.bool true) ∧ Fr [] w w' from h.mono (by rintro e w' ⟨rfl, hb⟩; exact ⟨rfl, below_of_fr hb⟩)
  have ha := N64.of w0
  have hb := N64.of w1
  have b0 := bounds_u32 w2_0
  have b1 := bounds_u32 w2_1
  obtain ⟨x, ex, nx, lx⟩ := high_low (h := a2_0) ha (by omega) (by omega)
  obtain ⟨y, ey, ny, ly⟩ := high_low (h := a2_1) hb (by omega) (by omega)
  have hall := words_v hb ny lx ly
  have hV : ∃ V : Nat → Int, ∀ k, k < 10 → Wv (wd k) a0 a1 (V k) ∧ Wv (wd k) x y (V k) :=
    ⟨fun k => if h : k < 10 then Classical.choose (hall k h) else 0, fun k hk => by simp only [hk, dif_pos]; exact Classical.choose_spec (hall k hk)⟩
  obtain ⟨V, hV⟩ := hV
  have hs31 : bits .and .u64 a1 31 = a1 % 32 := and31 hb
  have hN : N64 (bits .and .u64 a1 31) := and_N
  have e0 : V 0 = sw (a0 + a1) % 18446744073709551616 := by have := (hV 0 (by decide)).1.1; rw [show wd 0 = 45 from rfl, do45] at this; exact (Option.some.inj this).symm
  have e1 : V 1 = sw (a0 - a1) % 18446744073709551616 := by have := (hV 1 (by decide)).1.1; rw [show wd 1 = 46 from rfl, do46] at this; exact (Option.some.inj this).symm
  have e5 : V 5 = sw (a0 * a1) % 18446744073709551616 := by have := (hV 5 (by decide)).1.1; rw [show wd 5 = 62 from rfl, do62] at this; exact (Option.some.inj this).symm
  have hm2 : ∀ n : Int, sw n % 18446744073709551616 % 4294967296 = n % 18446744073709551616 % 4294967296 := fun n => by have := sw_mod n; omega
  refine words_walk a0 a1 a2_0 a2_1 x y _ _ _ _ _ V w (hid ex) (hid ey) (hid fun k hk w => cdoB (hV k hk).1.1 w) (hid fun k hk w => cdoB (hV k hk).2.1 w) (hid fun k hk => ?_) (hid fun w => cdoB (hV 0 (by decide)).1.1 w) (hid fun w => cdoB (hV 1 (by decide)).1.1 w) (hid fun w => cdoB (hV 5 (by decide)).1.1 w) (hid fun w => cdoB (do31 _ _) w) (hid fun w => cdoB (do32 _ _) w) (hid fun w => cdoB (do_of' (do54 _ _)) w) (hid fun w => cdoB (do47 hN) w) (hid fun w => cdoB (do33 hN) w) (hid fun w => works_lit w) (hid ⟨?_, ?_, ?_, ?_⟩)
  · rw [word_wrap, wu, (hV k hk).1.2]; simp
  · rw [e0, hm2]; simp
  · rw [e1, hm2]; simp
  · rw [e5, hm2]; simp
  · rw [hm2, hs31, show a1 % 32 % 32 = a1 % 32 by omega, show a1 % 32 % 64 = a1 % 32 by omega]; simp
end Go.Proofs.Ytfjdbiinkonhhaa.PA
namespace Go.Proofs.Ytfjdbiinkonhhaa
open Go.RowKit
theorem walk_AluWords (a0 : Int) (a1 : Int) (a2_0 : Int) (a2_1 : Int) (w : World) (w0 : (Lit.int .u64 a0).wf = true) (w1 : (Lit.int .u64 a1).wf = true) (w2_0 : (Lit.int .u32 a2_0).wf = true) (w2_1 : (Lit.int .u32 a2_1).wf = true) :
    Calls Try.prog 7 #[.int .u64 a0, .int .u64 a1, .agg #[.int .u32 a2_0, .int .u32 a2_1]] w fun e w' => e = .returned (.bool true) ∧ Below w.heap.size w w' := PA.law_AluWords a0 a1 a2_0 a2_1 w w0 w1 w2_0 w2_1
end Go.Proofs.Ytfjdbiinkonhhaa
