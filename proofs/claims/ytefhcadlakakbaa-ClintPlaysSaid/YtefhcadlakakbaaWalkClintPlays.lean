/- The walk of the law ClintPlays. -/
import Derived.Test.YtefhcadlakakbaaO
import Derived.Test.YtefhcadlakakbaaWalkClintKeeps
namespace Go.Proofs.Ytefhcadlakakbaa
open Go.RowKit
set_option linter.all false

set_option maxRecDepth 100000 in
set_option maxHeartbeats 8000000 in
theorem walk_ClintPlays (a0 : Option Addr) (len0 cap0 : Nat) (c0 : Nat → Nat → Value) (w : World) (w0 : SliceIn w [.num .u8, .num .u8, .num .u64, .num .u64, .num .i64] a0 len0 c0) :
    Calls Try.prog 3 #[.slice a0 len0 cap0] w fun e w' => e = .returned (.bool true) ∧ Below w.heap.size w w' := by
  have Hs := hid w0
  clear w0
  by_cases hlen : len0 ≤ 100
  · have hlt : ¬ ((100 : Int) < (len0 : Int)) := by omega
    go_enter Try.func3, Try.ntmps3
    go_wp2_with (first | (go_at_call 8; ((with_reducible refine (new_any _).mono ?_)); rintro e w' ⟨rfl, rfl⟩) | (go_at_call 9; ((with_reducible refine (rnew_any _).mono ?_)); rintro e w1 ⟨rfl, hb1, hd1⟩))
    have hsz : (w.alloc (clO 0 18446744073709551615 0)).heap.size = w.heap.size + 1 := by simp
    rw [hsz] at hb1
    go_loopw [5, 6, 7, 8, 9, 10, 11, 12] (fun i s6 s7 s8 s9 s10 s11 s12 wr => ∃ (k : Nat) (R q : Nat → Int), k ≤ len0 ∧ i = .int .i64 k ∧ Hid (Rel R q) ∧ Hid (wr.heap[w.heap.size]? = some (clR R)) ∧ Hid (wr.heap[w.heap.size + 1]? = some (rfO q)) ∧ Hid (Fr [] w wr)) (fun i _ _ _ _ _ _ _ _ => len0 - (intOf i).toNat)
    case atStart => exact ⟨0, _, _, Nat.zero_le _, rfl, rel0, hd1.keeps (blk_new _ _) (by simp), hb1, ((Fr.refl _ _).alloc _).trans hd1⟩
    case round =>
      clear hb1 hd1 hsz
      obtain ⟨k, R, q, hk, rfl, hG, hC, hQ, hF⟩ := hrel
      by_cases hlt2 : k < len0
      · obtain ⟨b, off, rfl, hbl, _, hcells⟩ := (Hs.out).resolve_left (by omega)
        obtain ⟨hf, hc⟩ := hcells k hlt2
        obtain ⟨what, n, aoff, av, width, e0, e1, e2, e3, e4, b0, b1, b2, b3, b4⟩ := fits5' hf
        have hbel := hF.out.below (Nat.le_refl _) (by simp)
        have hc0 : wr.cell? ⟨b, off + k * 5, none⟩ = some (.int .u8 what) := (hbel.cell hbl).trans ((hc 0 (by decide)).trans (by rw [e0]))
        have hc1 : wr.cell? ⟨b, off + k * 5 + 1, none⟩ = some (.int .u8 n) := (hbel.cell hbl).trans ((hc 1 (by decide)).trans (by rw [e1]))
        have hc2 : wr.cell? ⟨b, off + k * 5 + 2, none⟩ = some (.int .u64 aoff) := (hbel.cell hbl).trans ((hc 2 (by decide)).trans (by rw [e2]))
        have hc3 : wr.cell? ⟨b, off + k * 5 + 3, none⟩ = some (.int .u64 av) := (hbel.cell hbl).trans ((hc 3 (by decide)).trans (by rw [e3]))
        have hc4 : wr.cell? ⟨b, off + k * 5 + 4, none⟩ = some (.int .i64 width) := (hbel.cell hbl).trans ((hc 4 (by decide)).trans (by rw [e4]))
        have P0 := hid (bounds_u8 b0)
        have P1 := hid (bounds_u8 b1)
        have P2 := hid (bounds_u64 b2)
        have P3 := hid (bounds_u64 b3)
        clear hf hc e0 e1 e2 e3 e4 hcells b0 b1 b2 b3 b4 hbel
        go_upto_region 10 with fail
        have hAlt := lt_block hQ.out
        refine world_atK (fun W => Hid (W.heap[w.heap.size]? = some (clR R)) ∧ Hid (W.heap[w.heap.size + 1]? = some (rfO q)) ∧ Hid (W.heap[wr.heap.size]? = some (.cells #[.int .u8 what, .int .u8 n, .int .u64 aoff, .int .u64 av, .int .i64 width] 30)) ∧ Hid (Fr [] w W) ∧ Hid (w.heap.size ≤ w.heap.size ∧ w.heap.size + 1 < wr.heap.size)) ⟨blk_alloc hC.out _, blk_alloc hQ.out _, blk_new _ _, hF.out.alloc _, Nat.le_refl _, hAlt⟩ ?_
        clear hC hQ hF hc0 hc1 hc2 hc3 hc4 hAlt
        rintro W ⟨HC, HQ, HA, HF, HL⟩
        have x0 : W.cell? ⟨wr.heap.size, 0, none⟩ = some (.int .u8 what) := by rw [blk_cell HA.out]; rfl
        have x1 : W.cell? ⟨wr.heap.size, 1, none⟩ = some (.int .u8 n) := by rw [blk_cell HA.out]; rfl
        have x2 : W.cell? ⟨wr.heap.size, 2, none⟩ = some (.int .u64 aoff) := by rw [blk_cell HA.out]; rfl
        have x3 : W.cell? ⟨wr.heap.size, 3, none⟩ = some (.int .u64 av) := by rw [blk_cell HA.out]; rfl
        have x4 : W.cell? ⟨wr.heap.size, 4, none⟩ = some (.int .i64 width) := by rw [blk_cell HA.out]; rfl
        have hm5 : what % 5 = 0 ∨ what % 5 = 1 ∨ what % 5 = 2 ∨ what % 5 = 3 ∨ what % 5 = 4 := by omega
        rcases hm5 with hm5 | hm5 | hm5 | hm5 | hm5
        · -- a read
            have hm : what.tmod 5 = 0 := by rw [Int.tmod_eq_emod_of_nonneg P0.out.1]; exact hm5
            clear hm5
            have z1 := hid (fun (W5 : World) (h : W5.heap[w.heap.size]? = some (clR R)) => read_any w.heap.size R aoff width W5 P2.out.1 (by have := P2.out.2; omega) h)
            have z2 := hid (fun (W5 : World) (h : W5.heap[w.heap.size + 1]? = some (rfO q)) => rread_any (w.heap.size + 1) q aoff width W5 P2.out.1 (by have := P2.out.2; omega) h hG.out.isB)
            rw [hG.out.read] at z2
            generalize rdR R aoff width = rr at z1 z2
            generalize (acc aoff width).isSome = dd at z1 z2
            have td : (dd != dd) = false := by simp
            go_upto_region 19 with (go_at_call 10; ((with_reducible refine (z1.out _ HC.out).mono ?_)); rintro e w2 ⟨rfl, hd⟩)
            have HC2 := hid (hd.keeps HC.out (by simp))
            have HQ2 := hid (hd.keeps HQ.out (by simp))
            have HF2 := hid (HF.out.trans hd)
            have hA2 := hd.keeps HA.out (by simp)
            have x2 : w2.cell? ⟨wr.heap.size, 2, none⟩ = some (.int .u64 aoff) := by rw [blk_cell hA2]; rfl
            have x4 : w2.cell? ⟨wr.heap.size, 4, none⟩ = some (.int .i64 width) := by rw [blk_cell hA2]; rfl
            clear hA2 hd HC HQ HF HA
            go_upto_region 20 with (go_at_call 11; ((with_reducible refine (z2.out _ HQ2.out).mono ?_)); rintro e w3 ⟨rfl, rfl⟩)
            clear z1 z2
            go_upto_region 27 with fail
            have z1 := hid (bits_any _ R _ HC2.out hG.out.good.1)
            have z2 := hid (fun (W5 : World) (h : W5.heap[w.heap.size + 1]? = some (rfO q)) => rbits_any (w.heap.size + 1) q W5 h hG.out.isB)
            rw [hG.out.bits] at z2
            generalize btV (R 0) (R 1) (R 2) = bt at z1 z2
            go_wp2_with (first | (go_at_call 16; ((with_reducible refine (z1.out).mono ?_)); rintro e w5 ⟨rfl, hd5⟩; have hq5 := hid (hd5.keeps HQ2.out (by simp))) | (go_at_call 17; ((with_reducible refine (z2.out _ hq5.out).mono ?_)); rintro e w6 ⟨rfl, rfl⟩))
            go_roundw
            case rel => exact ⟨k + 1, R, q, by omega, by go_num, hG.out, hd5.keeps HC2.out (by simp), hq5.out, HF2.out.trans hd5⟩
            case measure => simp [intOf]; omega
        · -- a read
            have hm : what.tmod 5 = 1 := by rw [Int.tmod_eq_emod_of_nonneg P0.out.1]; exact hm5
            clear hm5
            have z1 := hid (fun (W5 : World) (h : W5.heap[w.heap.size]? = some (clR R)) => read_any w.heap.size R aoff width W5 P2.out.1 (by have := P2.out.2; omega) h)
            have z2 := hid (fun (W5 : World) (h : W5.heap[w.heap.size + 1]? = some (rfO q)) => rread_any (w.heap.size + 1) q aoff width W5 P2.out.1 (by have := P2.out.2; omega) h hG.out.isB)
            rw [hG.out.read] at z2
            generalize rdR R aoff width = rr at z1 z2
            generalize (acc aoff width).isSome = dd at z1 z2
            have td : (dd != dd) = false := by simp
            go_upto_region 19 with (go_at_call 10; ((with_reducible refine (z1.out _ HC.out).mono ?_)); rintro e w2 ⟨rfl, hd⟩)
            have HC2 := hid (hd.keeps HC.out (by simp))
            have HQ2 := hid (hd.keeps HQ.out (by simp))
            have HF2 := hid (HF.out.trans hd)
            have hA2 := hd.keeps HA.out (by simp)
            have x2 : w2.cell? ⟨wr.heap.size, 2, none⟩ = some (.int .u64 aoff) := by rw [blk_cell hA2]; rfl
            have x4 : w2.cell? ⟨wr.heap.size, 4, none⟩ = some (.int .i64 width) := by rw [blk_cell hA2]; rfl
            clear hA2 hd HC HQ HF HA
            go_upto_region 20 with (go_at_call 11; ((with_reducible refine (z2.out _ HQ2.out).mono ?_)); rintro e w3 ⟨rfl, rfl⟩)
            clear z1 z2
            go_upto_region 27 with fail
            have z1 := hid (bits_any _ R _ HC2.out hG.out.good.1)
            have z2 := hid (fun (W5 : World) (h : W5.heap[w.heap.size + 1]? = some (rfO q)) => rbits_any (w.heap.size + 1) q W5 h hG.out.isB)
            rw [hG.out.bits] at z2
            generalize btV (R 0) (R 1) (R 2) = bt at z1 z2
            go_wp2_with (first | (go_at_call 16; ((with_reducible refine (z1.out).mono ?_)); rintro e w5 ⟨rfl, hd5⟩; have hq5 := hid (hd5.keeps HQ2.out (by simp))) | (go_at_call 17; ((with_reducible refine (z2.out _ hq5.out).mono ?_)); rintro e w6 ⟨rfl, rfl⟩))
            go_roundw
            case rel => exact ⟨k + 1, R, q, by omega, by go_num, hG.out, hd5.keeps HC2.out (by simp), hq5.out, HF2.out.trans hd5⟩
            case measure => simp [intOf]; omega
        · -- a write
            have hm : what.tmod 5 = 2 := by rw [Int.tmod_eq_emod_of_nonneg P0.out.1]; exact hm5
            clear hm5
            have z1 := hid (fun (W5 : World) (h : W5.heap[w.heap.size]? = some (clR R)) => write_any w.heap.size R aoff width av W5 P2.out.1 (by have := P2.out.2; omega) h)
            have z2 := hid (fun (W5 : World) (h : W5.heap[w.heap.size + 1]? = some (rfO q)) => rwrite_any (w.heap.size + 1) q aoff width av W5 P2.out.1 (by have := P2.out.2; omega) P3.out.1 (by have := P3.out.2; omega) h hG.out.isB)
            have HG2 := hid (hG.out.write aoff width P3.out.1 (by have := P3.out.2; omega))
            generalize wrR R aoff width av = R2 at z1 HG2
            generalize rfW q aoff width av = q2 at z2 HG2
            generalize (acc aoff width).isSome = dd at z1 z2
            have td : (dd != dd) = false := by simp
            go_upto_region 25 with (go_at_call 12; ((with_reducible refine (z1.out _ HC.out).mono ?_)); rintro e w2 ⟨rfl, hn, hd⟩)
            have HC2 := hid hn
            have HQ2 := hid (hd.keeps HQ.out (by simp))
            have HF2 := hid (HF.out.step hd (fun j hj => .inr (by have := HL.out.1; simp at hj; omega)))
            have hA2 := hd.keeps HA.out (by have := HL.out.2; simp; omega)
            have x2 : w2.cell? ⟨wr.heap.size, 2, none⟩ = some (.int .u64 aoff) := by rw [blk_cell hA2]; rfl
            have x3 : w2.cell? ⟨wr.heap.size, 3, none⟩ = some (.int .u64 av) := by rw [blk_cell hA2]; rfl
            have x4 : w2.cell? ⟨wr.heap.size, 4, none⟩ = some (.int .i64 width) := by rw [blk_cell hA2]; rfl
            clear hA2 hd hn HC HQ HF HA z1
            go_upto_region 27 with (go_at_call 13; ((with_reducible refine (z2.out _ HQ2.out).mono ?_)); rintro e w3 ⟨rfl, hn, hd⟩)
            have HC3 := hid (hd.keeps HC2.out (by simp))
            have HQ3 := hid hn
            have HF3 := hid (HF2.out.step hd (fun j hj => .inr (by have := HL.out.1; simp at hj; omega)))
            clear hn hd HC2 HQ2 HF2 z2
            go_upto_region 27 with fail
            have y1 := hid (bits_any _ R2 _ HC3.out HG2.out.good.1)
            have y2 := hid (fun (W5 : World) (h : W5.heap[w.heap.size + 1]? = some (rfO q2)) => rbits_any (w.heap.size + 1) q2 W5 h HG2.out.isB)
            rw [HG2.out.bits] at y2
            generalize btV (R2 0) (R2 1) (R2 2) = bt at y1 y2
            go_wp2_with (first | (go_at_call 16; ((with_reducible refine (y1.out).mono ?_)); rintro e w5 ⟨rfl, hd5⟩; have hq5 := hid (hd5.keeps HQ3.out (by simp))) | (go_at_call 17; ((with_reducible refine (y2.out _ hq5.out).mono ?_)); rintro e w6 ⟨rfl, rfl⟩))
            go_roundw
            case rel => exact ⟨k + 1, R2, q2, by omega, by go_num, HG2.out, hd5.keeps HC3.out (by simp), hq5.out, HF3.out.trans hd5⟩
            case measure => simp [intOf]; omega
        · -- a write
            have hm : what.tmod 5 = 3 := by rw [Int.tmod_eq_emod_of_nonneg P0.out.1]; exact hm5
            clear hm5
            have z1 := hid (fun (W5 : World) (h : W5.heap[w.heap.size]? = some (clR R)) => write_any w.heap.size R aoff width av W5 P2.out.1 (by have := P2.out.2; omega) h)
            have z2 := hid (fun (W5 : World) (h : W5.heap[w.heap.size + 1]? = some (rfO q)) => rwrite_any (w.heap.size + 1) q aoff width av W5 P2.out.1 (by have := P2.out.2; omega) P3.out.1 (by have := P3.out.2; omega) h hG.out.isB)
            have HG2 := hid (hG.out.write aoff width P3.out.1 (by have := P3.out.2; omega))
            generalize wrR R aoff width av = R2 at z1 HG2
            generalize rfW q aoff width av = q2 at z2 HG2
            generalize (acc aoff width).isSome = dd at z1 z2
            have td : (dd != dd) = false := by simp
            go_upto_region 25 with (go_at_call 12; ((with_reducible refine (z1.out _ HC.out).mono ?_)); rintro e w2 ⟨rfl, hn, hd⟩)
            have HC2 := hid hn
            have HQ2 := hid (hd.keeps HQ.out (by simp))
            have HF2 := hid (HF.out.step hd (fun j hj => .inr (by have := HL.out.1; simp at hj; omega)))
            have hA2 := hd.keeps HA.out (by have := HL.out.2; simp; omega)
            have x2 : w2.cell? ⟨wr.heap.size, 2, none⟩ = some (.int .u64 aoff) := by rw [blk_cell hA2]; rfl
            have x3 : w2.cell? ⟨wr.heap.size, 3, none⟩ = some (.int .u64 av) := by rw [blk_cell hA2]; rfl
            have x4 : w2.cell? ⟨wr.heap.size, 4, none⟩ = some (.int .i64 width) := by rw [blk_cell hA2]; rfl
            clear hA2 hd hn HC HQ HF HA z1
            go_upto_region 27 with (go_at_call 13; ((with_reducible refine (z2.out _ HQ2.out).mono ?_)); rintro e w3 ⟨rfl, hn, hd⟩)
            have HC3 := hid (hd.keeps HC2.out (by simp))
            have HQ3 := hid hn
            have HF3 := hid (HF2.out.step hd (fun j hj => .inr (by have := HL.out.1; simp at hj; omega)))
            clear hn hd HC2 HQ2 HF2 z2
            go_upto_region 27 with fail
            have y1 := hid (bits_any _ R2 _ HC3.out HG2.out.good.1)
            have y2 := hid (fun (W5 : World) (h : W5.heap[w.heap.size + 1]? = some (rfO q2)) => rbits_any (w.heap.size + 1) q2 W5 h HG2.out.isB)
            rw [HG2.out.bits] at y2
            generalize btV (R2 0) (R2 1) (R2 2) = bt at y1 y2
            go_wp2_with (first | (go_at_call 16; ((with_reducible refine (y1.out).mono ?_)); rintro e w5 ⟨rfl, hd5⟩; have hq5 := hid (hd5.keeps HQ3.out (by simp))) | (go_at_call 17; ((with_reducible refine (y2.out _ hq5.out).mono ?_)); rintro e w6 ⟨rfl, rfl⟩))
            go_roundw
            case rel => exact ⟨k + 1, R2, q2, by omega, by go_num, HG2.out, hd5.keeps HC3.out (by simp), hq5.out, HF3.out.trans hd5⟩
            case measure => simp [intOf]; omega
        · -- ticks
            have hm : what.tmod 5 = 4 := by rw [Int.tmod_eq_emod_of_nonneg P0.out.1]; exact hm5
            obtain ⟨N, hN⟩ : ∃ N : Nat, n.tmod 20 = N := ⟨(n % 20).toNat, by rw [Int.tmod_eq_emod_of_nonneg P1.out.1]; have := P1.out.1; omega⟩
            have hN2 : N < 20 := by rw [Int.tmod_eq_emod_of_nonneg P1.out.1] at hN; omega
            have hw : wrap64 (N : Int) = N := by unfold wrap64; omega
            clear hm5
            go_wp2
            go_loopw [12] (fun i wq => ∃ (j : Nat) (R q : Nat → Int), j ≤ N ∧ i = .int .i64 j ∧ Hid (Rel R q) ∧ Hid (wq.heap[w.heap.size]? = some (clR R)) ∧ Hid (wq.heap[w.heap.size + 1]? = some (rfO q)) ∧ Hid (wq.heap[wr.heap.size]? = some (.cells #[.int .u8 what, .int .u8 n, .int .u64 aoff, .int .u64 av, .int .i64 width] 30)) ∧ Hid (Fr [] w wq)) (fun i _ => N - (intOf i).toNat)
            case atStart => exact ⟨0, R, q, Nat.zero_le _, rfl, hG, HC, HQ, HA, HF⟩
            case round =>
              clear HC HQ HA HF x0 x1 x2 x3 x4 hG
              obtain ⟨j, R, q, hj, rfl, hG, HC, HQ, HA, HF⟩ := hrel
              have x1 := (blk_cell HA.out 1).trans (show (#[.int .u8 what, .int .u8 n, .int .u64 aoff, .int .u64 av, .int .i64 width] : Array Value)[1]? = some (.int .u8 n) from rfl)
              by_cases hjN : j < N
              · have z1 := hid (tick_any _ R _ HC.out)
                have z2 := hid (fun (W5 : World) (h : W5.heap[w.heap.size + 1]? = some (rfO q)) => rtick_any (w.heap.size + 1) q W5 h hG.out.isB)
                have HG2 := hid hG.out.tick
                generalize tkR R = R2 at z1 HG2
                generalize rfT q = q2 at z2 HG2
                go_upto_region 15 with (go_at_call 14; ((with_reducible refine (z1.out).mono ?_)); rintro e w2 ⟨rfl, hn, hd⟩)
                have HC2 := hid hn
                have HQ2 := hid (hd.keeps HQ.out (by simp))
                have HA2 := hid (hd.keeps HA.out (by have := HL.out.2; simp; omega))
                have HF2 := hid (HF.out.step hd (fun j hj => .inr (by have := HL.out.1; simp at hj; omega)))
                clear hn hd HC HQ HA HF z1 x1
                go_upto_region 13 with (go_at_call 15; ((with_reducible refine (z2.out _ HQ2.out).mono ?_)); rintro e w3 ⟨rfl, hn, hd⟩; replace hn := hid hn; replace hd := hid hd)
                go_wp2
                go_roundw
                case rel => exact ⟨j + 1, R2, q2, by omega, by go_num, HG2.out, hd.out.keeps HC2.out (by simp), hn.out, hd.out.keeps HA2.out (by have := HL.out.2; simp; omega), HF2.out.step hd.out (fun j hj => .inr (by have := HL.out.1; simp at hj; omega))⟩
                case measure => simp [intOf]; omega
              · obtain rfl : j = N := by omega
                go_upto_region 27 with fail
                have y1 := hid (bits_any _ R _ HC.out hG.out.good.1)
                have y2 := hid (fun (W5 : World) (h : W5.heap[w.heap.size + 1]? = some (rfO q)) => rbits_any (w.heap.size + 1) q W5 h hG.out.isB)
                rw [hG.out.bits] at y2
                generalize btV (R 0) (R 1) (R 2) = bt at y1 y2
                go_wp2_with (first | (go_at_call 16; ((with_reducible refine (y1.out).mono ?_)); rintro e w5 ⟨rfl, hd5⟩; have hq5 := hid (hd5.keeps HQ.out (by simp))) | (go_at_call 17; ((with_reducible refine (y2.out _ hq5.out).mono ?_)); rintro e w6 ⟨rfl, rfl⟩))
                go_roundw
                case rel => exact ⟨k + 1, R, q, by omega, by go_num, hG.out, hd5.keeps HC.out (by simp), hq5.out, HF.out.trans hd5⟩
                case measure => simp [intOf]; omega
      · obtain rfl : k = len0 := by omega
        go_wp2_with (go_at_call 7; ((with_reducible refine (awake_any _).mono ?_)); rintro e w9 ⟨rfl, hd⟩)
        go_ret
        exact ⟨rfl, (hF.out.trans hd).below (Nat.le_refl _) (by simp)⟩
  · have hlt : (100 : Int) < (len0 : Int) := by omega
    have hF := Fr.refl [] w
    go_enter Try.func3, Try.ntmps3
    go_wp2_with (go_at_call 7; ((with_reducible refine (awake_any _).mono ?_)); rintro e w9 ⟨rfl, hd⟩)
    go_ret
    exact ⟨rfl, hd.below (Nat.le_refl _) (by simp)⟩
end Go.Proofs.Ytefhcadlakakbaa
