/- The walk of the law DogPlays. -/
import Derived.Test.YtpmbfngehmdfpaaE
import Derived.Test.YtpmbfngehmdfpaaFlat
namespace Go.Proofs.Ytpmbfngehmdfpaa
open Go.RowKit

theorem fits4' {p q r s : IntKind} {x0 x1 x2 x3 : Value} (h : fits [.num p, .num q, .num r, .num s] [x0, x1, x2, x3]) : ∃ a b c d : Int, x0 = .int p a ∧ x1 = .int q b ∧ x2 = .int r c ∧ x3 = .int s d ∧ (Lit.int p a).wf = true ∧ (Lit.int q b).wf = true ∧ (Lit.int r c).wf = true ∧ (Lit.int s d).wf = true := by
  obtain ⟨⟨a, ha, wa⟩, ⟨b, hb, wb⟩, ⟨c, hc, wc⟩, ⟨d, hd, wd⟩, _⟩ := h
  exact ⟨a, b, c, d, ha, hb, hc, hd, wa, wb, wc, wd⟩

/-- the count, and what the reference has left -/
def good (l c : Int) : Prop := 0 ≤ c ∧ (c < l ∨ l = 0 ∧ c = 0)

theorem good_tick {l c : Int} (h0 : 0 ≤ l) (h1 : l ≤ 4294967295) (h : good l c) : good l (ticked l c) ∧ ends l c = rends l (l - c) ∧ rticked l (l - c) = l - ticked l c := by
  obtain ⟨h2, h3⟩ := h
  by_cases hl : l = 0
  · subst hl
    obtain ⟨_, rfl⟩ : (0 : Int) = 0 ∧ c = 0 := by omega
    exact ⟨⟨by decide, .inr ⟨rfl, rfl⟩⟩, rfl, rfl⟩
  · have hc : c < l := by omega
    have hm : (c + 1) % 4294967296 = c + 1 := Int.emod_eq_of_lt (by omega) (by omega)
    have hm2 : (l - c - 1) % 4294967296 = l - c - 1 := Int.emod_eq_of_lt (by omega) (by omega)
    have hl' : (l == 0) = false := by simpa using hl
    by_cases he : c + 1 ≥ l
    · have e1 : ticked l c = 0 := by simp [ticked, hm, hl]; omega
      have e2 : ends l c = true := by simp [ends, hm, hl']; omega
      have e3 : rends l (l - c) = true := by simp [rends, hm2, hl']; omega
      have e4 : rticked l (l - c) = l := by simp [rticked, hm2, hl]; omega
      rw [e1, e2, e3, e4]
      exact ⟨⟨by omega, by omega⟩, rfl, by omega⟩
    · have e1 : ticked l c = c + 1 := by simp [ticked, hm, hl]; omega
      have e2 : ends l c = false := by simp [ends, hm, hl']; omega
      have e3 : rends l (l - c) = false := by simp [rends, hm2, hl']; omega
      have e4 : rticked l (l - c) = l - c - 1 := by simp [rticked, hm2, hl]; omega
      rw [e1, e2, e3, e4]
      exact ⟨⟨by omega, by omega⟩, rfl, by omega⟩

theorem good_write {l c off width : Int} (h0 : 0 ≤ l) (h : good l c) : good l (wrote c off width) ∧ rwrote l (l - c) off width = l - wrote c off width := by
  obtain ⟨h2, h3⟩ := h
  unfold wrote rwrote good
  split
  · exact ⟨⟨by omega, by omega⟩, by omega⟩
  · exact ⟨⟨by omega, by omega⟩, by omega⟩

theorem good_left {l c : Int} (h0 : 0 ≤ l) (h1 : l ≤ 4294967295) (h : good l c) : (l - c) % 4294967296 = l - c := by
  obtain ⟨h2, h3⟩ := h
  exact Int.emod_eq_of_lt (by omega) (by omega)

theorem good_read {l c off width : Int} (h0 : 0 ≤ l) (h1 : l ≤ 4294967295) (h : good l c) : atv l c off width = rv l (l - c) off width := by
  unfold atv rv reg rreg
  rw [good_left h0 h1 h]

theorem left_good (b : Nat) (w : World) (l c : Int) (h0 : 0 ≤ l) (h1 : l ≤ 4294967295) (h : good l c) (hd : w.heap[b]? = some (dog l c)) :
    Calls Try.prog 11 #[.pointer (some ⟨b, 0, none⟩)] w fun e w' => e = .returned (.int .u32 (l - c)) ∧ w = w' := by
  have := left_any b w l c hd
  rwa [good_left h0 h1 h] at this

theorem left_q (b : Nat) (w : World) (l c : Int) (n : Nat) (h0 : 0 ≤ l) (h1 : l ≤ 4294967295) (h : good l c) (hd : w.heap[b]? = some (dog l c)) :
    Calls Try.prog 11 #[.pointer (some ⟨b, 0, none⟩)] (w.drewN n) fun e w'' => e = .returned (.int .u32 (l - c)) ∧ ∃ m, w'' = w.drewN m :=
  Calls.quiet_of_same ((left_good b (w.drewN n) l c h0 h1 h hd).mono fun _ _ h => ⟨h.1, h.2.symm⟩)

theorem limit_q (b : Nat) (w : World) (l c : Int) (n : Nat) (hd : w.heap[b]? = some (dog l c)) :
    Calls Try.prog 19 #[.pointer (some ⟨b, 0, none⟩)] (w.drewN n) fun e w'' => e = .returned (.int .u32 l) ∧ ∃ m, w'' = w.drewN m :=
  Calls.quiet_of_same ((limit_any b (w.drewN n) l c hd).mono fun _ _ h => ⟨h.1, h.2.symm⟩)

set_option maxRecDepth 100000 in
set_option maxHeartbeats 4000000 in
theorem walk_DogPlays (a0 : Int) (a1 : Option Addr) (len1 cap1 : Nat) (c1 : Nat → Nat → Value) (w : World) (w0 : (Lit.int .u32 a0).wf = true) (w1 : SliceIn w [.num .u8, .num .u64, .num .u64, .num .i64] a1 len1 c1) :
    Calls Try.prog 5 #[.int .u32 a0, .slice a1 len1 cap1] w fun e w' => e = .returned (.bool true) ∧ Below w.heap.size w w' := by
  have hb0 := bounds_u32 w0
  clear w0
  by_cases hlen : len1 ≤ 150
  · have hlt : ¬ ((150 : Int) < (len1 : Int)) := by omega
    have Hs := hid w1
    clear w1
    go_enter Try.func5, Try.ntmps5
    go_wp2_with (first | (go_at_call 8; refine (new_any _ _).mono ?_; rintro e w' ⟨rfl, rfl⟩) | (go_at_call 12; refine (rnew_any _ _).mono ?_; rintro e w' ⟨rfl, rfl⟩))
    go_loopw [7] (fun i wr => ∃ (k : Nat) (c : Int), k ≤ len1 ∧ i = .int .i64 k ∧ Hid (good a0 c) ∧ Hid (wr.heap[w.heap.size]? = some (dog a0 c)) ∧ Hid (wr.heap[w.heap.size + 1]? = some (rdog a0 (a0 - c))) ∧ Below w.heap.size w wr) (fun i _ => len1 - (intOf i).toNat)
    case atStart => exact ⟨0, 0, Nat.zero_le _, rfl, ⟨by omega, by omega⟩, blk_alloc (blk_new _ _) _, by rw [Int.sub_zero]; exact blk_new' (by simp) _, ((Below.refl _ _).alloc (Nat.le_refl _) _).alloc (by simp) _⟩
    case round =>
      obtain ⟨k, c, hk, rfl, hg, hd, hr, hbel⟩ := hrel
      by_cases hlt : k < len1
      · obtain ⟨b, off, rfl, hbl, _, hcells⟩ := (Hs.out).resolve_left (by omega)
        obtain ⟨hf, hc⟩ := hcells k hlt
        obtain ⟨what, aoff, v, width, e0, e1, e2, e3, b0, b1, b2, b3⟩ := fits4' hf
        have hc0 : wr.cell? ⟨b, off + k * 4, none⟩ = some (.int .u8 what) := (hbel.cell hbl).trans ((hc 0 (by decide)).trans (by rw [e0]))
        have hc1 : wr.cell? ⟨b, off + k * 4 + 1, none⟩ = some (.int .u64 aoff) := (hbel.cell hbl).trans ((hc 1 (by decide)).trans (by rw [e1]))
        have hc2 : wr.cell? ⟨b, off + k * 4 + 2, none⟩ = some (.int .u64 v) := (hbel.cell hbl).trans ((hc 2 (by decide)).trans (by rw [e2]))
        have hc3 : wr.cell? ⟨b, off + k * 4 + 3, none⟩ = some (.int .i64 width) := (hbel.cell hbl).trans ((hc 3 (by decide)).trans (by rw [e3]))
        clear hf hc e0 e1 e2 e3 hcells b0 b1 b2 b3
        have hDlt : w.heap.size + 1 < wr.heap.size := lt_block hr.out
        by_cases q4 : what.tmod 8 = 4
        · go_wp2_with fail
          refine (read_any w.heap.size a0 c aoff width _ hb0.1 (by omega) (blk_alloc hd.out _)).mono ?_
          rintro e w2 ⟨rfl, hfr2⟩
          have hd2 := hfr2.keeps (blk_alloc hd.out _) (by simp)
          have hr2 := hfr2.keeps (blk_alloc hr.out _) (by simp)
          have hact2 := hfr2.keeps (blk_new wr _) (by simp)
          have hbel2 := ((Below.refl _ _).alloc (by omega) _).trans (hfr2.below (B := w.heap.size) (by simp; omega) (by simp))
          have a1 : w2.cell? ⟨wr.heap.size, 1, none⟩ = some (.int .u64 aoff) := blk_cell hact2 1
          have a3 : w2.cell? ⟨wr.heap.size, 3, none⟩ = some (.int .i64 width) := blk_cell hact2 3
          have x1 : w2.cell? ⟨w.heap.size + 1, 1, none⟩ = some (.int .u32 (a0 - c)) := blk_cell hr2 1
          have Hr3 := hid hr2
          have Hd3 := hid hd2
          have Hg := hg
          have Hb := hid (hbel.trans hbel2)
          rw [good_read hb0.1 hb0.2 hg.out]
          clear hr2 hd2 hact2 hbel2 hfr2
          go_wp2_with fail
          refine (rread_any (w.heap.size + 1) a0 (a0 - c) aoff width _ hb0.1 (by omega) (by have := hg.out.1; have := hg.out.2; omega) (by have := hg.out.1; have := hg.out.2; omega) Hr3.out).mono ?_
          rintro e w3 ⟨rfl, rfl⟩
          go_wp2
          go_quiet ((first | (go_at_call 11; exact left_q w.heap.size _ a0 _ _ hb0.1 hb0.2 Hg.out Hd3.out) | (go_at_call 19; exact limit_q w.heap.size _ a0 _ _ Hd3.out)))
          go_wp2
          go_roundw
          case rel => exact ⟨k + 1, _, by omega, by go_num, Hg.out, Hd3.out, Hr3.out, (Fr.below ((Fr.refl [] _).drewN _) (Nat.le_refl _) (by simp)) |> fun h' => Hb.out.trans (h'.mono Hb.out.size)⟩
          case measure => simp [intOf]; omega
        by_cases q5 : what.tmod 8 = 5
        · go_wp2_with fail
          refine (write_any w.heap.size a0 c aoff width v _ hb0.1 (by omega) (blk_alloc hd.out _)).mono ?_
          rintro e w2 ⟨rfl, hd2, hfr2⟩
          have hr2 := hfr2.keeps (blk_alloc hr.out _) (by simp)
          have hact2 := hfr2.keeps (blk_new wr _) (by simp; omega)
          have hbel2 := ((Below.refl _ _).alloc (by omega) _).trans (hfr2.below (B := w.heap.size) (by simp; omega) (by simp))
          have a1 : w2.cell? ⟨wr.heap.size, 1, none⟩ = some (.int .u64 aoff) := blk_cell hact2 1
          have a2 : w2.cell? ⟨wr.heap.size, 2, none⟩ = some (.int .u64 v) := blk_cell hact2 2
          have a3 : w2.cell? ⟨wr.heap.size, 3, none⟩ = some (.int .i64 width) := blk_cell hact2 3
          have Hr2 := hid hr2
          have Hd2 := hid hd2
          have Hb2 := hid (hbel.trans hbel2)
          clear hr2 hd2 hact2 hbel2 hfr2
          go_wp2_with fail
          refine (rwrite_any (w.heap.size + 1) a0 (a0 - c) aoff width v _ hb0.1 (by omega) (by have := hg.out.1; have := hg.out.2; omega) (by have := hg.out.1; have := hg.out.2; omega) Hr2.out).mono ?_
          rintro e w3 ⟨rfl, hr3, hfr3⟩
          have Hd3 := hid (hfr3.keeps Hd2.out (by simp))
          have Hb := hid (Hb2.out.trans (hfr3.below (B := w.heap.size) Hb2.out.size (by simp)))
          rw [(good_write hb0.1 hg.out).2] at hr3
          have x1 : w3.cell? ⟨w.heap.size + 1, 1, none⟩ = some (.int .u32 (a0 - wrote c aoff width)) := blk_cell hr3 1
          have Hr3 := hid hr3
          have Hg := hid (good_write (off := aoff) (width := width) hb0.1 hg.out).1
          clear hr3 hfr3 a1 a2 a3
          go_wp2
          go_quiet ((first | (go_at_call 11; exact left_q w.heap.size _ a0 _ _ hb0.1 hb0.2 Hg.out Hd3.out) | (go_at_call 19; exact limit_q w.heap.size _ a0 _ _ Hd3.out)))
          go_wp2
          go_roundw
          case rel => exact ⟨k + 1, _, by omega, by go_num, Hg.out, Hd3.out, Hr3.out, (Fr.below ((Fr.refl [] _).drewN _) (Nat.le_refl _) (by simp)) |> fun h' => Hb.out.trans (h'.mono Hb.out.size)⟩
          case measure => simp [intOf]; omega
        by_cases q6 : what.tmod 8 = 6
        · go_wp2_with fail
          refine (write_any w.heap.size a0 c aoff width v _ hb0.1 (by omega) (blk_alloc hd.out _)).mono ?_
          rintro e w2 ⟨rfl, hd2, hfr2⟩
          have hr2 := hfr2.keeps (blk_alloc hr.out _) (by simp)
          have hact2 := hfr2.keeps (blk_new wr _) (by simp; omega)
          have hbel2 := ((Below.refl _ _).alloc (by omega) _).trans (hfr2.below (B := w.heap.size) (by simp; omega) (by simp))
          have a1 : w2.cell? ⟨wr.heap.size, 1, none⟩ = some (.int .u64 aoff) := blk_cell hact2 1
          have a2 : w2.cell? ⟨wr.heap.size, 2, none⟩ = some (.int .u64 v) := blk_cell hact2 2
          have a3 : w2.cell? ⟨wr.heap.size, 3, none⟩ = some (.int .i64 width) := blk_cell hact2 3
          have Hr2 := hid hr2
          have Hd2 := hid hd2
          have Hb2 := hid (hbel.trans hbel2)
          clear hr2 hd2 hact2 hbel2 hfr2
          go_wp2_with fail
          refine (rwrite_any (w.heap.size + 1) a0 (a0 - c) aoff width v _ hb0.1 (by omega) (by have := hg.out.1; have := hg.out.2; omega) (by have := hg.out.1; have := hg.out.2; omega) Hr2.out).mono ?_
          rintro e w3 ⟨rfl, hr3, hfr3⟩
          have Hd3 := hid (hfr3.keeps Hd2.out (by simp))
          have Hb := hid (Hb2.out.trans (hfr3.below (B := w.heap.size) Hb2.out.size (by simp)))
          rw [(good_write hb0.1 hg.out).2] at hr3
          have x1 : w3.cell? ⟨w.heap.size + 1, 1, none⟩ = some (.int .u32 (a0 - wrote c aoff width)) := blk_cell hr3 1
          have Hr3 := hid hr3
          have Hg := hid (good_write (off := aoff) (width := width) hb0.1 hg.out).1
          clear hr3 hfr3 a1 a2 a3
          go_wp2
          go_quiet ((first | (go_at_call 11; exact left_q w.heap.size _ a0 _ _ hb0.1 hb0.2 Hg.out Hd3.out) | (go_at_call 19; exact limit_q w.heap.size _ a0 _ _ Hd3.out)))
          go_wp2
          go_roundw
          case rel => exact ⟨k + 1, _, by omega, by go_num, Hg.out, Hd3.out, Hr3.out, (Fr.below ((Fr.refl [] _).drewN _) (Nat.le_refl _) (by simp)) |> fun h' => Hb.out.trans (h'.mono Hb.out.size)⟩
          case measure => simp [intOf]; omega
        by_cases q7 : what.tmod 8 = 7
        · go_wp2_with fail
          refine (reset_any w.heap.size _ a0 c (blk_alloc hd.out _)).mono ?_
          rintro e w2 ⟨rfl, hd2, hfr2⟩
          have hr2 := hfr2.keeps (blk_alloc hr.out _) (by simp)
          have hbel2 := ((Below.refl _ _).alloc (by omega) _).trans (hfr2.below (B := w.heap.size) (by simp; omega) (by simp))
          have Hr2 := hid hr2
          have Hd2 := hid hd2
          have Hb2 := hid (hbel.trans hbel2)
          clear hr2 hd2 hbel2 hfr2
          go_wp2_with fail
          refine (rreset_any (w.heap.size + 1) _ a0 (a0 - c) Hr2.out).mono ?_
          rintro e w3 ⟨rfl, hr3, hfr3⟩
          have Hd3 := hid (hfr3.keeps Hd2.out (by simp))
          have Hb := hid (Hb2.out.trans (hfr3.below (B := w.heap.size) Hb2.out.size (by simp)))
          have x1 : w3.cell? ⟨w.heap.size + 1, 1, none⟩ = some (.int .u32 (a0 - 0)) := by rw [Int.sub_zero]; exact blk_cell hr3 1
          have Hr3 : Hid (w3.heap[w.heap.size + 1]? = some (rdog a0 (a0 - 0))) := by rw [Int.sub_zero]; exact hr3
          have Hg : Hid (good a0 0) := ⟨by omega, by omega⟩
          clear hr3 hfr3
          go_wp2
          go_quiet ((first | (go_at_call 11; exact left_q w.heap.size _ a0 _ _ hb0.1 hb0.2 Hg.out Hd3.out) | (go_at_call 19; exact limit_q w.heap.size _ a0 _ _ Hd3.out)))
          go_wp2
          go_roundw
          case rel => exact ⟨k + 1, _, by omega, by go_num, Hg.out, Hd3.out, Hr3.out, (Fr.below ((Fr.refl [] _).drewN _) (Nat.le_refl _) (by simp)) |> fun h' => Hb.out.trans (h'.mono Hb.out.size)⟩
          case measure => simp [intOf]; omega
        · go_wp2_with fail
          refine (tick_any w.heap.size _ a0 c (blk_alloc hd.out _)).mono ?_
          rintro e w2 ⟨rfl, hd2, hfr2⟩
          have hr2 := hfr2.keeps (blk_alloc hr.out _) (by simp)
          have hbel2 := ((Below.refl _ _).alloc (by omega) _).trans (hfr2.below (B := w.heap.size) (by simp; omega) (by simp))
          have Hr2 := hid hr2
          have Hd2 := hid hd2
          have Hb2 := hid (hbel.trans hbel2)
          rw [(good_tick hb0.1 hb0.2 hg.out).2.1]
          clear hr2 hd2 hbel2 hfr2
          go_wp2_with fail
          refine (rtick_any (w.heap.size + 1) _ a0 (a0 - c) Hr2.out).mono ?_
          rintro e w3 ⟨rfl, hr3, hfr3⟩
          have Hd3 := hid (hfr3.keeps Hd2.out (by simp))
          have Hb := hid (Hb2.out.trans (hfr3.below (B := w.heap.size) Hb2.out.size (by simp)))
          rw [(good_tick hb0.1 hb0.2 hg.out).2.2] at hr3
          have x1 : w3.cell? ⟨w.heap.size + 1, 1, none⟩ = some (.int .u32 (a0 - ticked a0 c)) := blk_cell hr3 1
          have Hr3 := hid hr3
          have Hg := hid (good_tick hb0.1 hb0.2 hg.out).1
          clear hr3 hfr3
          go_wp2
          go_quiet ((first | (go_at_call 11; exact left_q w.heap.size _ a0 _ _ hb0.1 hb0.2 Hg.out Hd3.out) | (go_at_call 19; exact limit_q w.heap.size _ a0 _ _ Hd3.out)))
          go_wp2
          go_roundw
          case rel => exact ⟨k + 1, _, by omega, by go_num, Hg.out, Hd3.out, Hr3.out, (Fr.below ((Fr.refl [] _).drewN _) (Nat.le_refl _) (by simp)) |> fun h' => Hb.out.trans (h'.mono Hb.out.size)⟩
          case measure => simp [intOf]; omega
      · have : k = len1 := by omega
        subst this
        go_wp2_with (first | (go_at_call 7; refine (awake_any _).mono ?_; rintro e w' ⟨rfl, hfr⟩))
        go_ret
        exact ⟨rfl, hbel.trans (hfr.below hbel.size (by simp))⟩
  · have hlt : ((150 : Int) < (len1 : Int)) := by omega
    clear w1
    go_enter Try.func5, Try.ntmps5
    go_wp2_with (first | (go_at_call 7; refine (awake_any _).mono ?_; rintro e w' ⟨rfl, hfr⟩))
    go_ret
    exact ⟨rfl, hfr.below (Nat.le_refl _) (by simp)⟩
end Go.Proofs.Ytpmbfngehmdfpaa
