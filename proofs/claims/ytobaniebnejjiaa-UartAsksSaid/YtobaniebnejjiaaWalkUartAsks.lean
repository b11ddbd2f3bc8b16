/- The law UartAsks: its walk. -/
import Derived.Test.YtobaniebnejjiaaJ
namespace Go.Proofs.Ytobaniebnejjiaa.U
open Go.RowKit
set_option linter.all false
set_option maxRecDepth 100000 in
set_option maxHeartbeats 4000000 in
theorem asks_long (A : Option Addr) (len cap : Nat) (w : World) (hlen : 120 < len) : Calls Try.prog 7 #[.slice A len cap] w fun e w' => e = .returned (.bool true) ∧ Fr [] w w' := by
  have hlt : (120 : Int) < (len : Int) := by omega
  go_enter Try.func7, Try.ntmps7
  go_wp2_with (go_at_call 8; (with_reducible refine (awake_any _).mono ?_); rintro e w6 ⟨rfl, hd⟩)
  go_ret
  exact ⟨rfl, hd⟩
theorem asks_facts {u : St} (hu : u.OK) : ∃ a v, u.Level = (a != 1) ∧ u.Read 2 1 = (v, true, u.ident.2) ∧ (v = a ∨ v = a + 192) ∧ (a = 1 ∨ a = 2 ∧ (bits .and .u8 u.ier 2 == 0) = false ∨ a = 4 ∧ (bits .and .u8 u.ier 1 == 0) = false ∧ ((u.q.length : Int) == 0) = false ∨ a = 6 ∧ (bits .and .u8 u.ier 4 == 0) = false) := by
  obtain ⟨b4, b1', b2, -⟩ := bit_of hu.ier
  have nb : ∀ x : Int, ∀ c : Bool, (x != 0) = c → c = true → (x == 0) = false := fun x c h1 h2 => by rw [h2] at h1; simpa using h1
  refine ⟨u.asks, u.ident.1, rfl, ?_, ?_, ?_⟩
  · unfold St.Read
    rw [if_pos (by decide)]
    unfold St.read
    rw [if_neg (by decide), if_neg (by decide), if_pos rfl]
  · unfold St.ident
    cases u.en <;> simp
  · unfold St.asks
    by_cases h1 : (u.ier / 4 % 2 == 1) = true ∧ u.ov = true
    · rw [if_pos h1]; exact .inr (.inr (.inr ⟨rfl, nb _ _ b4 h1.1⟩))
    rw [if_neg h1]
    by_cases h2 : (u.ier % 2 == 1) = true ∧ u.q ≠ []
    · rw [if_pos h2]; exact .inr (.inr (.inl ⟨rfl, nb _ _ b1' h2.1, by have : u.q.length ≠ 0 := fun e => h2.2 (List.eq_nil_of_length_eq_zero e); simpa using this⟩))
    rw [if_neg h2]
    by_cases h3 : (u.ier / 2 % 2 == 1) = true ∧ u.dn = true
    · rw [if_pos h3]; exact .inr (.inl ⟨rfl, nb _ _ b2 h3.1⟩)
    rw [if_neg h3]
    exact .inl rfl
theorem status_facts (u : St) : ∃ a b, u.Read 5 1 = (a, true, u.status.2) ∧ u.status.2.Read 5 1 = (b, true, u.status.2.status.2) ∧ u.status.2.status.2.q.length = u.q.length ∧ (u.q.length = 0 ∧ u.ov = false ∧ a = 96 ∧ b = 96 ∨ u.q.length = 0 ∧ u.ov = true ∧ a = 98 ∧ b = 96 ∨ 0 < u.q.length ∧ u.ov = false ∧ a = 97 ∧ b = 97 ∨ 0 < u.q.length ∧ u.ov = true ∧ a = 99 ∧ b = 97) := by
  have r5 : ∀ u : St, u.Read 5 1 = (u.status.1, true, u.status.2) := fun u => by
    unfold St.Read
    rw [if_pos (by decide)]
    unfold St.read
    rw [if_neg (by decide), if_neg (by decide), if_neg (by decide), if_neg (by decide), if_neg (by decide), if_pos rfl]
  refine ⟨_, _, r5 u, r5 _, rfl, ?_⟩
  unfold St.status
  cases hq : u.q with
  | nil => cases u.ov <;> simp
  | cons => cases u.ov <;> simp
set_option maxRecDepth 100000 in
set_option maxHeartbeats 4000000 in
theorem asks_main (A : Option Addr) (cap : Nat) (L : List A4) (len : Nat) (hlen' : L.length = len) (w : World) (hlen : len ≤ 120) (hL : Hid (Acts w A w.heap.size L)) : Calls Try.prog 7 #[.slice A len cap] w fun e w' => e = .returned (.bool true) ∧ Fr [] w w' := by
  have hlt : ¬ ((120 : Int) < (len : Int)) := by omega
  go_enter Try.func7, Try.ntmps7
  go_upto_region 7 with (go_at_call 9; (with_reducible refine (al_new w _ (Fr.refl _ _)).mono ?_); rintro e w1 ⟨rfl, hU1⟩; have hU := hid hU1; clear hU1)
  generalize hg : w.heap.size = g at hU
  go_loopw [4] (fun i wr => ∃ (k : Nat) (u : St), k ≤ len ∧ i = .int .i64 k ∧ Hid (u.OK ∧ u.sent.length ≤ k) ∧ Hid (Alone w wr g u)) (fun i _ => len - (intOf i).toNat)
  case atStart => exact ⟨0, St.new, Nat.zero_le _, rfl, ⟨OK_new, by decide⟩, hU⟩
  case round =>
    clear hU
    obtain ⟨k, u, hk, rfl, hG, hU⟩ := hrel
    by_cases hlt2 : k < len
    · obtain ⟨b, off, rfl, hb1, hb2, hwa, hr⟩ := hL.out k (by omega)
      have hr := hid (range_keep hU.out.fr hb2 (by simp) hr)
      generalize L.getD k default = x at *
      obtain ⟨what, aoff, av, width⟩ := x
      have P : Hid (0 ≤ what ∧ what < 256 ∧ 0 ≤ aoff ∧ aoff < 18446744073709551616 ∧ 0 ≤ av ∧ av < 18446744073709551616) := ⟨hwa.1.1, hwa.1.2, hwa.2.1.1, hwa.2.1.2, hwa.2.2.1, hwa.2.2.2⟩
      clear hwa
      go_wp2_with (first | (refine wpList_load_midA (by rfl) 28 _ (by rfl) b (off + k * 4) (by rfl) #[.int .u8 what, .int .u64 aoff, .int .u64 av, .int .i64 width] _ hr.out Try.underlying28 rfl (by kernel_rfl) ?_) | (go_at_call 16; (with_reducible refine (al_does hU.out hG.out.1 P.out.1 P.out.2.1 P.out.2.2.1 P.out.2.2.2.1 P.out.2.2.2.2.1 P.out.2.2.2.2.2 (by have := hG.out.2; omega)).mono ?_); rintro e w1 ⟨rfl, hU1⟩; replace hU := hid hU1; clear hU1))
      go_roundw
      case rel => exact ⟨k + 1, u.act what aoff av width, by omega, by go_num, ⟨hG.out.1.act _ _ _ _, by have := sent_act u what aoff av width; have := hG.out.2; omega⟩, hU⟩
      case measure => simp [intOf]; omega
    · obtain rfl : k = len := by omega
      have hu := hid hG.out.1
      clear hG hL hlt2 hk
      obtain ⟨a, v, f1, f2, f3, f4⟩ := asks_facts hu.out
      have c1 := hid fun (w1 : World) (h : Alone w w1 g u) => al_Level h hu.out
      have c2 := hid fun (w1 : World) (h : Alone w w1 g u) => al_Read h hu.out 1 (off := 2) (by decide) (by decide)
      rw [f1] at c1
      rw [f2] at c2
      have hu2 := hid ((hu.out.Read 2 1).1)
      rw [f2] at hu2
      have f3 := hid f3
      have f4 := hid f4
      clear f1 f2
      go_upto_region 12 with (first | (go_at_call 18; (with_reducible refine (c1.out _ hU.out).mono ?_); rintro e w1 ⟨rfl, rfl⟩) | (go_at_call 11; (with_reducible refine (c2.out _ hU.out).mono ?_); rintro e w2 ⟨rfl, hU1⟩; replace hU := hid hU1; clear hU1))
      go_cut [80] (fun s wc => s = .bool false ∧ w2 = wc)
      case first =>
        clear c1 c2
        rcases f4.out with rfl | ⟨rfl, -⟩ | ⟨rfl, -, -⟩ | ⟨rfl, -⟩
        all_goals
          rcases f3.out with rfl | rfl
        all_goals
          clear f3 f4
          go_wp2
          go_meet
          case rel => exact ⟨rfl, rfl⟩
      obtain ⟨rfl, rfl⟩ := hcut
      have c3 := hid fun (w1 : World) (h : Alone w w1 g u.ident.2) => al_Dump h hu2.out
      have hD : u.ident.2.Dump = u.ier :: b1 u.en :: u.lcr :: u.mcr :: u.scr :: u.dll :: u.dlm :: b1 u.ov :: b1 u.ident.2.dn :: u.q := rfl
      obtain ⟨z0, e0⟩ := bys_at u.ident.2.Dump 0 u.ier hu.out.ier (by rw [hD]; rfl)
      obtain ⟨z7, e7⟩ := bys_at u.ident.2.Dump 7 (b1 u.ov) (by unfold b1 Byte; split <;> decide) (by rw [hD]; rfl)
      have hsz : 9 ≤ (strOfNums u.ident.2.Dump).size := by rw [strOfNums_size, hD]; simp
      clear hD
      generalize strOfNums u.ident.2.Dump = D at *
      have hq2 : u.ident.2.q = u.q := rfl
      have c4 := hid fun (w1 : World) (h : Alone w w1 g u.ident.2) => al_Waiting h
      rw [hq2] at c4
      have hsz9 : ¬ ((D.size : Int) < 9) := by omega
      have hb9 : decide ((D.size : Int) < 9) = false := decide_eq_false hsz9
      replace e7 := hid e7
      go_upto_region 15 with (go_at_call 17; (with_reducible refine (c3.out _ hU.out).mono ?_); rintro e w3 ⟨rfl, hU1⟩; replace hU := hid hU1; clear hU1)
      have hz0 : (0 : Int) < (D.size : Int) := by omega
      go_cut [123] (fun s wc => s = .bool false ∧ w3 = wc)
      case first =>
        clear c3
        rcases f4.out with rfl | ⟨rfl, g2⟩ | ⟨rfl, g1, g3⟩ | ⟨rfl, g4⟩
        all_goals
          rcases f3.out with rfl | rfl
        all_goals
          clear f3 f4
          go_wp2_with (go_at_call 10; (with_reducible refine (c4.out _ hU.out).mono ?_); rintro e w1 ⟨rfl, rfl⟩)
          go_meet
          case rel => exact ⟨rfl, rfl⟩
      obtain ⟨rfl, rfl⟩ := hcut
      obtain ⟨a5, b5, h1, h2, h3, h4⟩ := status_facts u.ident.2
      have c5 := hid fun (w1 : World) (h : Alone w w1 g u.ident.2) => al_Read h hu2.out 1 (off := 5) (by decide) (by decide)
      rw [h1] at c5
      have hu3 := (hu2.out.Read 5 1).1
      rw [h1] at hu3
      have c6 := hid fun (w1 : World) (h : Alone w w1 g u.ident.2.status.2) => al_Read h hu3 1 (off := 5) (by decide) (by decide)
      rw [h2] at c6
      have c7 := hid fun (w1 : World) (h : Alone w w1 g u.ident.2.status.2.status.2) => al_Waiting h
      rw [h3] at c7
      have h4 : Hid (u.q.length = 0 ∧ u.ov = false ∧ a5 = 96 ∧ b5 = 96 ∨ u.q.length = 0 ∧ u.ov = true ∧ a5 = 98 ∧ b5 = 96 ∨ 0 < u.q.length ∧ u.ov = false ∧ a5 = 97 ∧ b5 = 97 ∨ 0 < u.q.length ∧ u.ov = true ∧ a5 = 99 ∧ b5 = 97) := h4
      rw [hq2] at c7
      clear c4 h1 h2 h3 hu3 e0
      go_upto_region 19 with (first | (go_at_call 11; (with_reducible refine (c5.out _ hU.out).mono ?_); rintro e w4 ⟨rfl, hU1⟩; replace hU := hid hU1; clear hU1) | (go_at_call 11; (with_reducible refine (c6.out _ hU.out).mono ?_); rintro e w5 ⟨rfl, hU1⟩; replace hU := hid hU1; clear hU1))
      clear c5 c6
      have e7 := e7.out
      have hz7 : (7 : Int) < (D.size : Int) := by omega
      generalize u.ov = ov at *
      generalize u.q.length = n at *
      rcases h4.out with ⟨rfl, rfl, rfl, rfl⟩ | ⟨rfl, rfl, rfl, rfl⟩ | ⟨hn, rfl, rfl, rfl⟩ | ⟨hn, rfl, rfl, rfl⟩
      all_goals
        clear h4
        go_wp2_with (first | (go_at_call 10; (with_reducible refine (c7.out _ hU.out).mono ?_); rintro e w1 ⟨rfl, rfl⟩) | (go_at_call 8; (with_reducible refine (awake_any _).mono ?_); rintro e w6 ⟨rfl, hd⟩; replace hU := hid (hU.out.grow hd)))
        go_ret
        exact ⟨rfl, hU.out.fr⟩
end Go.Proofs.Ytobaniebnejjiaa.U
namespace Go.Proofs.Ytobaniebnejjiaa
open U Go.RowKit
theorem walk_UartAsks (a0 : Option Addr) (len0 cap0 : Nat) (c0 : Nat → Nat → Value) (w : World) (w0 : SliceIn w [.num .u8, .num .u64, .num .u64, .num .i64] a0 len0 c0) : Calls Try.prog 7 #[.slice a0 len0 cap0] w fun e w' => e = .returned (.bool true) ∧ Below w.heap.size w w' := by
  obtain ⟨L, hl, hL⟩ := acts_of w0
  have key : Calls Try.prog 7 #[.slice a0 len0 cap0] w fun e w' => e = .returned (.bool true) ∧ Fr [] w w' := by
    rcases Nat.lt_or_ge 120 len0 with h | h
    · exact asks_long a0 len0 cap0 w h
    · exact asks_main a0 cap0 L len0 hl w h hL
  exact key.mono fun _ _ ⟨h1, h2⟩ => ⟨h1, h2.below (Nat.le_refl _) (by simp)⟩
end Go.Proofs.Ytobaniebnejjiaa
