/- The walk of the law DogExpires. -/
import Derived.Test.YtpmbfngehmdfpaaD
import Derived.Test.YtpmbfngehmdfpaaFlat
namespace Go.Proofs.Ytpmbfngehmdfpaa
open Go.RowKit

theorem fits4 {p q r s : IntKind} {x0 x1 x2 x3 : Value} (h : fits [.num p, .num q, .num r, .num s] [x0, x1, x2, x3]) : ∃ a b c d : Int, x0 = .int p a ∧ x1 = .int q b ∧ x2 = .int r c ∧ x3 = .int s d ∧ (Lit.int p a).wf = true ∧ (Lit.int q b).wf = true ∧ (Lit.int r c).wf = true ∧ (Lit.int s d).wf = true := by
  obtain ⟨⟨a, ha, wa⟩, ⟨b, hb, wb⟩, ⟨c, hc, wc⟩, ⟨d, hd, wd⟩, _⟩ := h
  exact ⟨a, b, c, d, ha, hb, hc, hd, wa, wb, wc, wd⟩

set_option maxHeartbeats 1000000 in
theorem walk_DogExpires (a0 : Int) (a1 : Option Addr) (len1 cap1 : Nat) (c1 : Nat → Nat → Value) (w : World) (w0 : (Lit.int .u32 a0).wf = true) (w1 : SliceIn w [.num .u8, .num .u64, .num .u64, .num .i64] a1 len1 c1) :
    Calls Try.prog 3 #[.int .u32 a0, .slice a1 len1 cap1] w fun e w' => e = .returned (.bool true) ∧ Below w.heap.size w w' := by
  have hb0 := bounds_u32 w0
  clear w0
  by_cases hlen : len1 ≤ 150
  · have hlt : ¬ ((150 : Int) < (len1 : Int)) := by omega
    have Hs := hid w1
    clear w1
    go_enter Try.func3, Try.ntmps3
    go_wp2_with (first | (go_at_call 8; refine (new_any _ _).mono ?_; rintro e w' ⟨rfl, rfl⟩))
    go_loopw [6, 7] (fun s i wr => ∃ (k : Nat) (c s' : Int), k ≤ len1 ∧ i = .int .i64 k ∧ s = .int .u32 s' ∧ Hid (0 ≤ s' ∧ s' < 4294967296 ∧ (0 < a0 → s' = c ∧ c < a0)) ∧ Hid (wr.heap[w.heap.size]? = some (dog a0 c)) ∧ Below w.heap.size w wr) (fun _ i _ => len1 - (intOf i).toNat)
    case atStart => exact ⟨0, 0, 0, Nat.zero_le _, rfl, rfl, ⟨by omega, by omega, fun h => ⟨rfl, h⟩⟩, blk_new _ _, (Below.refl _ _).alloc (Nat.le_refl _) _⟩
    case round =>
      obtain ⟨k, c, s', hk, rfl, rfl, hs, hd, hbel⟩ := hrel
      by_cases hlt : k < len1
      · obtain ⟨b, off, rfl, hbl, _, hcells⟩ := (Hs.out).resolve_left (by omega)
        obtain ⟨hf, hc⟩ := hcells k hlt
        obtain ⟨what, aoff, v, width, e0, e1, e2, e3, b0, b1, b2, b3⟩ := fits4 hf
        have hc0 : wr.cell? ⟨b, off + k * 4, none⟩ = some (.int .u8 what) := (hbel.cell hbl).trans ((hc 0 (by decide)).trans (by rw [e0]))
        have hc1 : wr.cell? ⟨b, off + k * 4 + 1, none⟩ = some (.int .u64 aoff) := (hbel.cell hbl).trans ((hc 1 (by decide)).trans (by rw [e1]))
        have hc2 : wr.cell? ⟨b, off + k * 4 + 2, none⟩ = some (.int .u64 v) := (hbel.cell hbl).trans ((hc 2 (by decide)).trans (by rw [e2]))
        have hc3 : wr.cell? ⟨b, off + k * 4 + 3, none⟩ = some (.int .i64 width) := (hbel.cell hbl).trans ((hc 3 (by decide)).trans (by rw [e3]))
        clear hf hc e0 e1 e2 e3 hcells
        have hDlt : w.heap.size < wr.heap.size := lt_block hd.out
        have hact : ∀ (o : Obj) (w2 : World), Fr [w.heap.size] (wr.alloc o) w2 → w2.heap[wr.heap.size]? = some o := fun o w2 h => h.keeps (blk_new wr o) (by simp; omega)
        have Hact := hid hact
        have hb2 : ∀ (o : Obj) (w2 : World), Fr [w.heap.size] (wr.alloc o) w2 → Below w.heap.size w w2 := fun o w2 h => hbel.trans ((h.below (B := w.heap.size) (by simp; omega) (by simp)) |> fun h' => (((Below.refl _ _).alloc (by omega) o).trans h'))
        have Hb2 := hid hb2
        clear hact hb2
        by_cases hw : 5 ≤ what.tmod 8
        · go_wp2_with fail
          refine (write_any w.heap.size a0 c aoff width v _ hb0.1 (by omega) (blk_alloc hd.out _)).mono ?_
          rintro e w2 ⟨rfl, hd2, hfr2⟩
          have ha1 : w2.cell? ⟨wr.heap.size, 1, none⟩ = some (.int .u64 aoff) := blk_cell (Hact.out _ _ hfr2) 1
          have Hd2 := hid hd2
          have Hb := hid (Hb2.out _ _ hfr2)
          clear hd2 hfr2
          by_cases hr : isreg aoff width = true
          · by_cases ho : (aoff == 0) = true
            · have e2 : wrote c aoff width = 0 := by simp at ho; subst ho; simp [wrote, hr]
              rw [e2] at Hd2
              clear e2
              go_wp2
              go_roundw
              case rel => exact ⟨k + 1, 0, 0, by omega, by go_num, rfl, ⟨by omega, by omega, fun h => ⟨rfl, h⟩⟩, Hd2.out, Hb.out⟩
              case measure => simp [intOf]; omega
            · have ho : (aoff == 0) = false := by simpa using ho
              have e2 : wrote c aoff width = c := by simp at ho; simp [wrote, ho]
              rw [e2] at Hd2
              clear e2
              go_wp2
              go_roundw
              case rel => exact ⟨k + 1, c, s', by omega, by go_num, rfl, hs.out, Hd2.out, Hb.out⟩
              case measure => simp [intOf]; omega
          · have hr : isreg aoff width = false := by simpa using hr
            have e2 : wrote c aoff width = c := by simp [wrote, hr]
            rw [e2] at Hd2
            clear e2
            go_wp2
            go_roundw
            case rel => exact ⟨k + 1, c, s', by omega, by go_num, rfl, hs.out, Hd2.out, Hb.out⟩
            case measure => simp [intOf]; omega
        · have hw' : ¬ 5 ≤ what.tmod 8 := hw
          go_wp2_with fail
          refine (tick_any w.heap.size _ a0 c (blk_alloc hd.out _)).mono ?_
          rintro e w2 ⟨rfl, hd2, hfr2⟩
          have Hd2 := hid hd2
          have Hb := hid (Hb2.out _ _ hfr2)
          clear hd2 hfr2
          obtain ⟨s0, s1, s2⟩ := hs.out
          by_cases hz : 0 < a0
          · obtain ⟨rfl, hca⟩ := s2 hz
            have hmod : (s' + 1) % 4294967296 = s' + 1 := Int.emod_eq_of_lt (by omega) (by omega)
            by_cases he : s' + 1 = a0
            · have e1 : ends a0 s' = true := by simp [ends, hmod]; omega
              have e2 : ticked a0 s' = 0 := by simp [ticked, hmod]; omega
              have e3 : ((s' + 1) % 4294967296 == a0) = true := by rw [hmod]; simpa using he
              rw [e2] at Hd2
              rw [e1]
              clear e1 e2 s2 hmod he hs
              go_wp2_with (first | (go_at_call 11; refine (left_any w.heap.size _ a0 0 ?_).mono ?_; (exact Hd2.out); rintro e w' ⟨rfl, rfl⟩))
              go_roundw
              case rel => exact ⟨k + 1, 0, 0, by omega, by go_num, rfl, ⟨by omega, by omega, fun h => ⟨rfl, h⟩⟩, Hd2.out, Hb.out⟩
              case measure => simp [intOf]; omega
            · have e1 : ends a0 s' = false := by simp [ends, hmod]; omega
              have e2 : ticked a0 s' = s' + 1 := by simp [ticked, hmod]; omega
              have e3 : ((s' + 1) % 4294967296 == a0) = false := by rw [hmod]; simpa using he
              have e4 : ((a0 - (s' + 1)) % 4294967296 != (a0 - (s' + 1) % 4294967296) % 4294967296) = false := by rw [hmod]; simp
              have e5 : Hid (s' + 1 < a0) := by show s' + 1 < a0; omega
              rw [e2] at Hd2
              rw [e1]
              have Hmod := hid hmod
              clear e1 e2 s2 hmod he hs
              go_wp2_with (first | (go_at_call 11; refine (left_any w.heap.size _ a0 (s' + 1) ?_).mono ?_; (exact Hd2.out); rintro e w' ⟨rfl, rfl⟩))
              go_roundw
              case rel => exact ⟨k + 1, s' + 1, s' + 1, by omega, by go_num, by rw [Hmod.out], ⟨by omega, by have := e5.out; omega, fun h => ⟨rfl, e5.out⟩⟩, Hd2.out, Hb.out⟩
              case measure => simp [intOf]; omega
          · obtain rfl : a0 = 0 := by omega
            have e1 : ends 0 c = false := by simp [ends]
            have e2 : ticked 0 c = c := by simp [ticked]
            rw [e2] at Hd2
            rw [e1]
            clear e1 e2 s2 hs
            go_wp2
            go_roundw
            case rel => exact ⟨k + 1, c, (s' + 1) % 4294967296, by omega, by go_num, rfl, ⟨by omega, by omega, fun h => absurd h (by omega)⟩, Hd2.out, Hb.out⟩
            case measure => simp [intOf]; omega
      · have : k = len1 := by omega
        subst this
        go_wp2_with (first | (go_at_call 7; refine (awake_any _).mono ?_; rintro e w' ⟨rfl, hfr⟩))
        go_ret
        exact ⟨rfl, hbel.trans (hfr.below hbel.size (by simp))⟩
  · have hlt : ((150 : Int) < (len1 : Int)) := by omega
    clear w1
    go_enter Try.func3, Try.ntmps3
    go_wp2_with (first | (go_at_call 7; refine (awake_any _).mono ?_; rintro e w' ⟨rfl, hfr⟩))
    go_ret
    exact ⟨rfl, hfr.below (Nat.le_refl _) (by simp)⟩
end Go.Proofs.Ytpmbfngehmdfpaa
