/- The walk of the law AluWords, by what its callees answer. -/
import Derived.Test.YtfjdbiinkonhhaaFlat
import Derived.Test.YtfjdbiinkonhhaaHOps
import Derived.BigGuard
import Derived.Deep.DeepCutAuto
import Derived.Deep.LoopGhost
import Derived.Deep.QuietTactic
import Derived.BigQuiet
namespace Go.Proofs.Ytfjdbiinkonhhaa
open Go.RowKit
set_option linter.all false

/-- the ten operations -/
def wordsL : List Int := [45, 46, 47, 48, 49, 62, 63, 64, 65, 66]
def wd (k : Nat) : Int := wordsL.getD k 0
def wordsO : Obj := .cells #[.int .u8 45, .int .u8 46, .int .u8 47, .int .u8 48, .int .u8 49, .int .u8 62, .int .u8 63, .int .u8 64, .int .u8 65, .int .u8 66] 36
theorem wd_cell {w : World} {b : Nat} (h : w.heap[b]? = some wordsO) : ∀ k, k < 10 → w.cell? ⟨b, k, none⟩ = some (.int .u8 (wd k)) := by
  intro k hk
  unfold wordsO at h
  rw [blk_cell h]
  have : k = 0 ∨ k = 1 ∨ k = 2 ∨ k = 3 ∨ k = 4 ∨ k = 5 ∨ k = 6 ∨ k = 7 ∨ k = 8 ∨ k = 9 := by omega
  rcases this with rfl | rfl | rfl | rfl | rfl | rfl | rfl | rfl | rfl | rfl <;> rfl
/-- what stays true round the loop -/
def LW (w : World) (wr : World) : Prop := wr.heap[w.heap.size + 1]? = some wordsO ∧ Fr [] w wr
theorem LW.step {w a b : World} (h : LW w a) (k : Fr [] a b) : LW w b := ⟨k.keeps h.1 (by simp), h.2.trans k⟩
theorem LW.cell {w a : World} (h : LW w a) {k : Nat} (hk : k < 10) : a.cell? ⟨w.heap.size + 1, k, none⟩ = some (.int .u8 (wd k)) := wd_cell h.1 k hk

set_option maxRecDepth 100000 in
set_option maxHeartbeats 4000000 in
theorem words_walk (a b h0 h1 x y A0 A1 A5 A2 E : Int) (V : Nat → Int) (w : World)
    (hx : Hid (bits BinOp.or IntKind.u64 (IntKind.u64.wrap (IntKind.u64.wrap h0 * 4294967296)) (bits BinOp.and IntKind.u64 a 4294967295) = x))
    (hy : Hid (bits BinOp.or IntKind.u64 (IntKind.u64.wrap (IntKind.u64.wrap h1 * 4294967296)) (bits BinOp.and IntKind.u64 b 4294967295) = y))
    (cV : Hid (∀ k, k < 10 → ∀ w, Calls Try.prog 17 #[.int .u8 (wd k), .int .u64 a, .int .u64 b] w fun e w' => e = .returned (.int .u64 (V k)) ∧ Fr [] w w'))
    (cX : Hid (∀ k, k < 10 → ∀ w, Calls Try.prog 17 #[.int .u8 (wd k), .int .u64 x, .int .u64 y] w fun e w' => e = .returned (.int .u64 (V k)) ∧ Fr [] w w'))
    (hs : Hid (∀ k, k < 10 → (V k != IntKind.u64.wrap (wrap64 (wrap32 (V k)))) = false))
    (c0 : Hid (∀ w, Calls Try.prog 17 #[.int .u8 45, .int .u64 a, .int .u64 b] w fun e w' => e = .returned (.int .u64 (V 0)) ∧ Fr [] w w'))
    (c1 : Hid (∀ w, Calls Try.prog 17 #[.int .u8 46, .int .u64 a, .int .u64 b] w fun e w' => e = .returned (.int .u64 (V 1)) ∧ Fr [] w w'))
    (c5 : Hid (∀ w, Calls Try.prog 17 #[.int .u8 62, .int .u64 a, .int .u64 b] w fun e w' => e = .returned (.int .u64 (V 5)) ∧ Fr [] w w'))
    (d0 : Hid (∀ w, Calls Try.prog 17 #[.int .u8 31, .int .u64 a, .int .u64 b] w fun e w' => e = .returned (.int .u64 A0) ∧ Fr [] w w'))
    (d1 : Hid (∀ w, Calls Try.prog 17 #[.int .u8 32, .int .u64 a, .int .u64 b] w fun e w' => e = .returned (.int .u64 A1) ∧ Fr [] w w'))
    (d5 : Hid (∀ w, Calls Try.prog 17 #[.int .u8 54, .int .u64 a, .int .u64 b] w fun e w' => e = .returned (.int .u64 A5) ∧ Fr [] w w'))
    (c2 : Hid (∀ w, Calls Try.prog 17 #[.int .u8 47, .int .u64 a, .int .u64 (bits BinOp.and IntKind.u64 b 31)] w fun e w' => e = .returned (.int .u64 E) ∧ Fr [] w w'))
    (d2 : Hid (∀ w, Calls Try.prog 17 #[.int .u8 33, .int .u64 a, .int .u64 (bits BinOp.and IntKind.u64 b 31)] w fun e w' => e = .returned (.int .u64 A2) ∧ Fr [] w w'))
    (cw : Hid (∀ w, Calls Try.prog 14 #[] w fun e w' => e = .returned (.bool true) ∧ Fr [] w w'))
    (F : Hid ((V 0 % 4294967296 == A0 % 4294967296) = true ∧ (V 1 % 4294967296 == A1 % 4294967296) = true ∧ (V 5 % 4294967296 == A5 % 4294967296) = true ∧ (E % 4294967296 == A2 % 4294967296) = true)) :
    Calls Try.prog 7 #[.int .u64 a, .int .u64 b, .agg #[.int .u32 h0, .int .u32 h1]] w fun e w' => e = .returned (.bool true) ∧ Fr [] w w' := by
  go_enter Try.func7, Try.ntmps7
  go_upto_region 1 with fail
  go_quiet (fail)
  rw [hx.out, hy.out]
  go_wp2_with fail
  go_loopw [10] (fun i wr => ∃ k : Nat, k ≤ 10 ∧ i = .int .i64 k ∧ LW w wr) (fun i _ => 10 - (intOf i).toNat)
  case atStart => exact ⟨0, by omega, rfl, blk_new' (by simp) _, ((((Fr.refl _ _).alloc _).drewN _).alloc _)⟩
  case round =>
    obtain ⟨k, hk, rfl, hL⟩ := hrel
    by_cases hlt : k < 10
    · have hc := hL.cell hlt
      have hv := hs.out k hlt
      go_wp2_with ((first | (go_at_call 17; ((with_reducible refine (cV.out k hlt _).mono ?_))) | (go_at_call 17; ((with_reducible refine (cX.out k hlt _).mono ?_)))); rintro e w1 ⟨rfl, hd⟩; replace hL := hL.step hd; have hc := hL.cell hlt; clear hd)
      go_roundw
      case rel => exact ⟨k + 1, by omega, by go_num, hL⟩
      case measure => simp [intOf]; omega
    · have hF := hL.2
      obtain rfl : k = 10 := by omega
      clear hL
      obtain ⟨f0, f1, f5, f2⟩ := F.out
      go_wp2_with ((first | (go_at_call 17; ((with_reducible refine (c0.out _).mono ?_))) | (go_at_call 17; ((with_reducible refine (c1.out _).mono ?_))) | (go_at_call 17; ((with_reducible refine (c5.out _).mono ?_))) | (go_at_call 17; ((with_reducible refine (d0.out _).mono ?_))) | (go_at_call 17; ((with_reducible refine (d1.out _).mono ?_))) | (go_at_call 17; ((with_reducible refine (d5.out _).mono ?_))) | (go_at_call 17; ((with_reducible refine (c2.out _).mono ?_))) | (go_at_call 17; ((with_reducible refine (d2.out _).mono ?_))) | (go_at_call 14; ((with_reducible refine (cw.out _).mono ?_)))); rintro e w1 ⟨rfl, hd⟩; replace hF := hF.trans hd; clear hd)
      go_ret
      exact ⟨rfl, hF⟩
end Go.Proofs.Ytfjdbiinkonhhaa
