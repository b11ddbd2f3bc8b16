/- The law InstSame: its walk. -/
import Derived.Test.YtogdifjdlkpehaaFlip
import Derived.Test.YtogdifjdlkpehaaHLaw
import Derived.Test.YtogdifjdlkpehaaTailAlloc2
namespace Go.Proofs.Ytogdifjdlkpehaa.PA
open Go.RowKit
set_option linter.all false
attribute [local go_sem ↓] eqg_IC eql_same eql_IC
set_option maxRecDepth 100000 in
set_option maxHeartbeats 4000000 in
theorem same_w (p b op c k : Int) (X Y : T7) (f v : Bool) (w : World) (b0 : 0 ≤ b) (b1 : b < 256) (p0 : 0 ≤ p) (p1 : p < 4294967296) (hk : b % 32 = k) (hop : Hid (X.1 = op))
    (h1 : Hid (∀ w, Calls Try.prog 9 #[.int .u32 p] w fun e w' => e = .returned (.agg (IC X)) ∧ Fr [] w w')) (h2 : Hid (∀ w, Calls Try.prog 9 #[.int .u32 (bits .xor .u32 p (2 ^ (b % 32).toNat % 4294967296))] w fun e w' => e = .returned (.agg (IC Y)) ∧ Fr [] w w')) (h4 : Hid (∀ w, Calls Try.prog 16 #[.int .u8 op] w fun e w' => e = .returned (.int .u8 c) ∧ Fr [] w w')) (h7 : Hid (∀ w, Calls Try.prog 11 #[] w fun e w' => e = .returned (.bool true) ∧ Fr [] w w'))
    (hf : Hid ((op == 50) = true ∧ f = true ∨ (op == 50) = false ∧ (op == 51) = f))
    (hn : Hid (f = true ∧ decide (7 ≤ k) = true ∧ decide (k ≤ 11) = true ∧ v = true ∨ f = true ∧ decide (7 ≤ k) = true ∧ decide (k ≤ 11) = false ∧ decide (15 ≤ k) = true ∧ v = true
      ∨ f = true ∧ decide (7 ≤ k) = true ∧ decide (k ≤ 11) = false ∧ decide (15 ≤ k) = false ∧ (c == 5) = false ∧ v = false ∨ f = true ∧ decide (7 ≤ k) = false ∧ decide (15 ≤ k) = false ∧ (c == 5) = false ∧ v = false
      ∨ f = false ∧ (c == 5) = true ∧ (k == 25) = true ∧ v = true ∨ f = false ∧ (c == 5) = true ∧ (k == 25) = false ∧ (k == 26) = v ∨ f = false ∧ (c == 5) = false ∧ v = false))
    (hXY : Hid (decide (X = Y) = v)) : Calls Try.prog 7 #[.int .u32 p, .int .u8 b] w fun e w' => e = .returned (.bool true) ∧ Fr [] w w' := by
  replace hk := hid hk
  go_enter Try.func7, Try.ntmps7
  go_upto_region 2 with fail
  refine wp_region_alloc2 9 7 (by kernel_rfl) (by kernel_rfl) rfl _ _ rfl rfl rfl rfl (by decide) (.cells (IC (0, 0, 0, 0, 0, 0, 0)) 25) (.cells (IC (0, 0, 0, 0, 0, 0, 0)) 25) (fun ρ w => by kernel_rfl) (fun ρ w => by kernel_rfl) (by kernel_rfl) ?aF ?h ?ht
  case h =>
    intro w1 hw1 hne
    have c1 : Hid (∀ n : Ext w1, Calls Try.prog 9 #[.int .u32 p] n.w fun e w'' => e = .returned (.agg (IC X)) ∧ ∃ m : Ext w1, w'' = m.w) := fun n => Ext.call n (h1.out _)
    have c2 : Hid (∀ n : Ext w1, Calls Try.prog 9 #[.int .u32 (bits .xor .u32 p (2 ^ (b % 32).toNat % 4294967296))] n.w fun e w'' => e = .returned (.agg (IC Y)) ∧ ∃ m : Ext w1, w'' = m.w) := fun n => Ext.call n (h2.out _)
    simp only [List.take_succ_cons, List.take_zero]
    repeat (go_big_quiet_step (first | (go_at_call 9; with_reducible exact c1.out _) | (go_at_call 9; with_reducible exact c2.out _)))
    refine wpQuiet_nil ?_
    rfl
  intro A B W1 hF1 hA hB hAle hBle hne
  simp only [List.drop_succ_cons, List.drop_zero, Act.put, ptrV]
  go_upto_region 3 with (first | (refine wpList_store_whole rfl 25 _ _ rfl A rfl (IC X) rfl 25 _ hA rfl (sizeI' _) (IC_one _) ?_; intro u1 hu1 hfu1) | (refine wpList_store_whole rfl 25 _ _ rfl B rfl (IC Y) rfl 25 _ (hfu1.keeps hB (by simpa using Ne.symm hne)) rfl (sizeI' _) (IC_one _) ?_; intro u2 hu2 hfu2))
  have hX := hfu2.keeps hu1 (by simpa using hne)
  refine world_atF (fun W => W.heap[A]? = some (.cells (IC X) 25) ∧ W.heap[B]? = some (.cells (IC Y) 25) ∧ Fr [] w W) ⟨hX, hu2, (hF1.step hfu1 (fun j hj => .inr (by rw [List.mem_singleton.1 hj]; exact hAle))).step hfu2 (fun j hj => .inr (by rw [List.mem_singleton.1 hj]; exact hBle))⟩ ?_
  clear hX hu1 hu2 hfu1 hfu2 hF1 hA hB hAle hBle h1 h2
  rintro W ⟨hX, hY, hF⟩
  have x0 : W.cell? ⟨A, 0, none⟩ = some (.int .u8 op) := by rw [blk_cell hX, ← hop.out]; rfl
  have HX := hid hX
  have HY := hid hY
  have HF := hid hF
  clear hX hY hF
  rw [hk.out]
  (try simp only [Act.put, List.setIfInBounds_toArray, List.set_cons_zero, List.set_cons_succ])
  go_cut [8] (fun u wc => u = .bool f ∧ W = wc)
  case first =>
    rcases hf.out with ⟨q1, rfl⟩ | ⟨q1, rfl⟩
    all_goals
      clear hf hn
      go_wp2
      go_meet
      case rel => exact ⟨by first | rfl | simp_all, rfl⟩
  case rest =>
    obtain ⟨rfl, rfl⟩ := hcut
    clear hf
    go_upto_region 4 with fail
    go_cut [9] (fun u wc => u = .bool v ∧ Fr [] W wc)
    case first =>
      rcases hn.out with ⟨rfl, q1, q2, rfl⟩ | ⟨rfl, q1, q2, q3, rfl⟩ | ⟨rfl, q1, q2, q3, q4, rfl⟩ | ⟨rfl, q1, q3, q4, rfl⟩ | ⟨rfl, q4, q5, rfl⟩ | ⟨rfl, q4, q5, rfl⟩ | ⟨rfl, q4, rfl⟩
      all_goals
        clear hn
        go_wp2_with (go_at_call 16; (with_reducible refine (h4.out _).mono ?_); rintro e w4 ⟨rfl, hd4⟩)
        go_meet
        case rel => exact ⟨by first | rfl | simp_all, by first | exact Fr.refl _ _ | exact hd4⟩
    case rest =>
      obtain ⟨rfl, hw⟩ := hcut
      clear hn x0
      have HX2 := hid (hw.keeps HX.out (by simp))
      have HY2 := hid (hw.keeps HY.out (by simp))
      have HF2 := hid (HF.out.trans hw)
      clear hw HX HY HF
      have he := hXY.out
      clear hXY
      cases v
      all_goals
        go_wp2_with (first | (refine wpList_load_row_g (by rfl) 25 _ (by rfl) A (by rfl) 25 (IC X) (0, 0) _ HX2.out Try.underlying25 rfl (sizeI' _) ?_) | (refine wpList_load_row_g (by rfl) 25 _ (by rfl) B (by rfl) 25 (IC Y) (0, 0) _ HY2.out Try.underlying25 rfl (sizeI' _) ?_) | (go_at_call 11; (with_reducible refine (h7.out _).mono ?_); rintro e w7 ⟨rfl, hd7⟩))
        go_ret
        exact ⟨rfl, HF2.out.trans hd7⟩
theorem same_any {p b : Int} (hp : P32 p) (b0 : 0 ≤ b) (b1 : b < 256) (w : World) : Calls Try.prog 7 #[.int .u32 p, .int .u8 b] w fun e w' => e = .returned (.bool true) ∧ Fr [] w w' := by
  have hk : (b % 32).toNat < 32 := by omega
  have hkk : (((b % 32).toNat : Nat) : Int) = b % 32 := by omega
  have hs := same_iff hp hk
  have hq := flip_P32 p (b % 32).toNat
  rw [hkk] at hs
  have hop : 0 ≤ (decT p).1 ∧ (decT p).1 < 256 := by
    rcases dec_row hp with ⟨h0, -⟩ | ⟨r, -, hr, -, -, hok⟩
    · rw [h0]; exact ⟨Int.le_refl _, show (0 : Int) < 256 by omega⟩
    · have h2 := tbl_ok r hr
      unfold tblOK at h2
      simp only [Bool.and_eq_true, decide_eq_true_iff] at h2
      rw [hok.1]; omega
  have hcl : Hid (∀ w, Calls Try.prog 16 #[.int .u8 (decT p).1] w fun e w' => e = .returned (.int .u8 (classT (decT p).1)) ∧ Fr [] w w') := fun w => (c_class hop w).mono fun _ _ ⟨h1, n, h2⟩ => ⟨h1, by subst h2; exact (Fr.refl _ _).drewN n⟩
  have n5 : (decT p).1 = 50 ∨ (decT p).1 = 51 → (classT (decT p).1 == 5) = false := by rintro (h | h) <;> rw [h] <;> rfl
  refine same_w p b (decT p).1 (classT (decT p).1) (b % 32) (decT p) (decT (flip p (b % 32).toNat)) ((decT p).1 == 50 || (decT p).1 == 51) (noneB (decT p).1 (b % 32)) w b0 b1 hp.1 hp.2 rfl (hid rfl)
    (hid fun w => dec_any hp w) (hid fun w => dec_any hq w) hcl (hid fun w => awake_any w) (hid ?_) (hid ?_) (hid hs)
  · cases ((decT p).1 == 50) <;> simp
  · have h715 : 15 ≤ b % 32 → 7 ≤ b % 32 := by omega
    have h1115 : b % 32 ≤ 11 → ¬ 15 ≤ b % 32 := by omega
    unfold noneB
    by_cases hf : (decT p).1 = 50 ∨ (decT p).1 = 51
    · have e1 := n5 hf
      have e2 : ((decT p).1 == 50 || (decT p).1 == 51) = true := by simpa using hf
      rw [e1, e2]
      by_cases a1 : 7 ≤ b % 32 <;> by_cases a2 : b % 32 ≤ 11 <;> by_cases a3 : 15 ≤ b % 32 <;> simp [a1, a2, a3] <;> omega
    · have e2 : ((decT p).1 == 50 || (decT p).1 == 51) = false := by simpa using hf
      rw [e2]
      cases (classT (decT p).1 == 5) <;> cases (b % 32 == 25) <;> simp
end Go.Proofs.Ytogdifjdlkpehaa.PA
namespace Go.Proofs.Ytogdifjdlkpehaa
open PA Go.RowKit
theorem walk_InstSame (a0 : Int) (a1 : Int) (w : World) (w0 : (Lit.int .u32 a0).wf = true) (w1 : (Lit.int .u8 a1).wf = true) :
    Calls Try.prog 7 #[.int .u32 a0, .int .u8 a1] w fun e w' => e = .returned (.bool true) ∧ Below w.heap.size w w' := by
  have h1 : 0 ≤ a0 ∧ a0 < 4294967296 := by have h2 : IntKind.u32.min = 0 := rfl; have h3 : IntKind.u32.max = 4294967295 := rfl; simp [Lit.wf] at w0; omega
  have h2 : 0 ≤ a1 ∧ a1 < 256 := by have h2 : IntKind.u8.min = 0 := rfl; have h3 : IntKind.u8.max = 255 := rfl; simp [Lit.wf] at w1; omega
  exact (same_any h1 h2.1 h2.2 w).mono fun _ _ ⟨h1, h2⟩ => ⟨h1, below_of_fr'' h2⟩
end Go.Proofs.Ytogdifjdlkpehaa
