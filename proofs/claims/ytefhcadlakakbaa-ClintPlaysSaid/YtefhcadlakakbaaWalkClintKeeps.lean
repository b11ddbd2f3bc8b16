/- The walk of the law ClintKeeps. -/
import Derived.Test.YtefhcadlakakbaaJ
import Derived.Test.YtefhcadlakakbaaTail
import Derived.Test.YtefhcadlakakbaaFlat
import Derived.BigGuard
import Derived.Deep.DeepCutAuto
import Derived.Deep.LoopGhost
namespace Go.Proofs.Ytefhcadlakakbaa
open Go.RowKit
set_option linter.all false

theorem fits5' {p q r s t : IntKind} {x0 x1 x2 x3 x4 : Value} (h : fits [.num p, .num q, .num r, .num s, .num t] [x0, x1, x2, x3, x4]) : ∃ a b c d e : Int, x0 = .int p a ∧ x1 = .int q b ∧ x2 = .int r c ∧ x3 = .int s d ∧ x4 = .int t e ∧ (Lit.int p a).wf = true ∧ (Lit.int q b).wf = true ∧ (Lit.int r c).wf = true ∧ (Lit.int s d).wf = true ∧ (Lit.int t e).wf = true := by
  obtain ⟨⟨a, ha, wa⟩, ⟨b, hb, wb⟩, ⟨c, hc, wc⟩, ⟨d, hd, wd⟩, ⟨e, he, we⟩, _⟩ := h
  exact ⟨a, b, c, d, e, ha, hb, hc, hd, he, wa, wb, wc, wd, we⟩
theorem world_atK (F : World → Prop) {P : Program} {c : Code} {Q : Exit → Act → World → Prop} {a : Act} {w : World} (hF : F w) (h : ∀ W, F W → c.wp P Q a W) : c.wp P Q a w := h w hF
theorem good0 : Good (st3 0 18446744073709551615 0) := ⟨.inl rfl, by decide, by decide⟩

theorem acc_off {off wd : Int} {k : Nat} (h : acc off wd = some k) : off ≤ 49151 ∧ (k = 0 → off < 4) ∧ (k ≠ 0 → 4 ≤ off) ∧ (k = 0 → wd ≤ 4) := by
  obtain ⟨hk, hh, _⟩ := acc_is (b := 0) h
  unfold hitB at hh
  simp only [Bool.and_eq_true, decide_eq_true_eq] at hh
  have hw := (acc_width h).1
  have : k = 0 ∨ k = 1 ∨ k = 2 := by omega
  rcases this with rfl | rfl | rfl
  · rw [show bs 0 = 0 from rfl, show sz 0 = 4 from rfl] at hh; omega
  · rw [show bs 1 = 16384 from rfl, show sz 1 = 8 from rfl] at hh; omega
  · rw [show bs 2 = 49144 from rfl, show sz 2 = 8 from rfl] at hh; omega
theorem back_n {R : Nat → Int} (hR : Good R) {off wd v : Int} {k : Nat} (h : acc off wd = some k) (hz : k ≠ 0) (v0 : 0 ≤ v) (v1 : v < 18446744073709551616) : rdR (wrR R off wd v) off wd = v % (maskW wd + 1) := by
  obtain ⟨hk, hh, _⟩ := acc_is (b := 0) h
  have hs := sh_bd h
  rw [rd_eq (hR.write off wd v) h]
  have e : wrR R off wd v k = wrV (R k) (8 * (off - bs k)) (maskW wd) 18446744073709551615 v := by
    unfold wrR; rw [h]; simp [kp, hz]
  rw [e]
  have hb := hR.bd hk
  refine wr_rd hb.1 hb.2 v0 v1 (acc_width h).1 hs.1 ?_
  unfold hitB at hh
  simp only [Bool.and_eq_true, decide_eq_true_eq] at hh
  have : sz k = 8 := by unfold sz; rw [if_neg hz]
  omega
theorem back_0 {R : Nat → Int} (hR : Good R) {wd v : Int} (h : acc 0 wd = some 0) (v0 : 0 ≤ v) (v1 : v < 18446744073709551616) : rdR (wrR R 0 wd v) 0 wd = v % 2 := by
  rw [rd_eq (hR.write 0 wd v) h]
  have e : wrR R 0 wd v 0 = wrV (R 0) 0 (maskW wd) 1 v := by
    unfold wrR; rw [h]; rfl
  rw [e, show (8 * (0 - bs 0) : Int) = 0 from rfl]
  have hv : wrV (R 0) 0 (maskW wd) 1 v = v % 2 := by
    obtain ⟨X, hX⟩ := bv_of_int (hR.bd (k := 0) (by decide)).1 (hR.bd (k := 0) (by decide)).2
    obtain ⟨V, rfl⟩ := bv_of_int v0 v1
    obtain ⟨m, hm, hmb⟩ : ∃ m : BitVec 64, maskW wd = U m ∧ m.getLsbD 0 = true := by
      rcases (acc_width h).1 with rfl | rfl | rfl | rfl
      · exact ⟨255#64, by decide, by decide⟩
      · exact ⟨65535#64, by decide, by decide⟩
      · exact ⟨4294967295#64, by decide, by decide⟩
      · exact ⟨18446744073709551615#64, by decide, by decide⟩
    unfold wrV
    rw [← hX, hm, show (1 : Int) = U 1#64 from rfl, bv_and, IntKind.wrap_u64, IntKind.wrap_u64, bv_shl, bv_shl, bv_andNot, bv_or, bv_and]
    have h2 : U V % 2 = U (V &&& 1#64) := by
      unfold U
      rw [BitVec.toNat_and, show (1#64).toNat = 2 ^ 1 - 1 from rfl, Nat.and_two_pow_sub_one_eq_mod]
      omega
    rw [h2]
    congr 1
    apply BitVec.eq_of_getLsbD_eq
    intro i hi
    have h1 : (1#64).getLsbD i = decide (i = 0) := by
      have := BitVec.getLsbD_twoPow (w := 64) 0 i
      rw [BitVec.twoPow] at this
      have e2 : (1#64 <<< 0 : BitVec 64) = 1#64 := by decide
      rw [e2] at this
      rw [this]
      by_cases hz : i = 0
      · subst hz; decide
      · have : ¬ 0 = i := fun h => hz h.symm
        simp [hz, this]
    simp only [BitVec.getLsbD_and, BitVec.getLsbD_or, BitVec.getLsbD_shiftLeft, BitVec.getLsbD_not, h1]
    by_cases hz : i = 0
    · subst hz
      simp only [Int.toNat_zero, Nat.sub_self, hmb]
      cases X.getLsbD 0 <;> cases V.getLsbD 0 <;> simp [hmb]
    · simp [hz]
  rw [hv]
  show v % 2 / 1 % _ = _
  rw [Int.ediv_one]
  rcases (acc_width h).1 with rfl | rfl | rfl | rfl
  · show v % 2 % 256 = _; omega
  · show v % 2 % 65536 = _; omega
  · show v % 2 % 4294967296 = _; omega
  · show v % 2 % 18446744073709551616 = _; omega

theorem rd_nonneg {R : Nat → Int} (hR : Good R) {off wd : Int} {k : Nat} (h : acc off wd = some k) : 0 ≤ rdR R off wd := by
  rw [rd_eq hR h]
  refine Int.emod_nonneg _ ?_
  unfold maskW
  split <;> (try split) <;> (try split) <;> decide

set_option maxRecDepth 100000 in
set_option maxHeartbeats 8000000 in
theorem walk_ClintKeeps (a0 : Option Addr) (len0 cap0 : Nat) (c0 : Nat → Nat → Value) (a1_0 : Int) (a1_1 : Int) (a1_2 : Int) (a1_3 : Int) (a1_4 : Int) (w : World) (w0 : SliceIn w [.num .u8, .num .u8, .num .u64, .num .u64, .num .i64] a0 len0 c0) (w1_0 : (Lit.int .u8 a1_0).wf = true) (w1_1 : (Lit.int .u8 a1_1).wf = true) (w1_2 : (Lit.int .u64 a1_2).wf = true) (w1_3 : (Lit.int .u64 a1_3).wf = true) (w1_4 : (Lit.int .i64 a1_4).wf = true) :
    Calls Try.prog 5 #[.slice a0 len0 cap0, .agg #[.int .u8 a1_0, .int .u8 a1_1, .int .u64 a1_2, .int .u64 a1_3, .int .i64 a1_4]] w fun e w' => e = .returned (.bool true) ∧ Below w.heap.size w w' := by
  have o := bounds_u64 w1_2
  have v := bounds_u64 w1_3
  obtain ⟨o0, o1⟩ := o
  obtain ⟨v0, v1⟩ := v
  clear w1_0 w1_1 w1_2 w1_3 w1_4
  have Hs := hid w0
  clear w0
  by_cases hlen : len0 ≤ 60
  · have hlt : ¬ ((60 : Int) < (len0 : Int)) := by omega
    go_enter Try.func5, Try.ntmps5
    go_wp2_with (go_at_call 8; ((with_reducible refine (new_any _).mono ?_)); rintro e w' ⟨rfl, rfl⟩)
    go_loopw [6] (fun i wr => ∃ (k : Nat) (R : Nat → Int), k ≤ len0 ∧ i = .int .i64 k ∧ Hid (Good R) ∧ Hid (wr.heap[w.heap.size + 1]? = some (clR R)) ∧ Hid (wr.heap[w.heap.size]? = some (.cells #[.int .u8 a1_0, .int .u8 a1_1, .int .u64 a1_2, .int .u64 a1_3, .int .i64 a1_4] 30)) ∧ Fr [] w wr) (fun i _ => len0 - (intOf i).toNat)
    case atStart => exact ⟨0, _, Nat.zero_le _, rfl, good0, blk_new' (by simp) _, blk_alloc (blk_new _ _) _, (((Fr.refl _ _).alloc _).alloc _)⟩
    case round =>
      obtain ⟨k, R, hk, rfl, hg, hC, hX, hF⟩ := hrel
      by_cases hlt2 : k < len0
      · obtain ⟨b, off, rfl, hbl, _, hcells⟩ := (Hs.out).resolve_left (by omega)
        obtain ⟨hf, hc⟩ := hcells k hlt2
        obtain ⟨what, n, aoff, av, width, e0, e1, e2, e3, e4, b0, b1, b2, b3, b4⟩ := fits5' hf
        have hbel := hF.below (Nat.le_refl _) (by simp)
        have hc2 : wr.cell? ⟨b, off + k * 5 + 2, none⟩ = some (.int .u64 aoff) := (hbel.cell hbl).trans ((hc 2 (by decide)).trans (by rw [e2]))
        have hc3 : wr.cell? ⟨b, off + k * 5 + 3, none⟩ = some (.int .u64 av) := (hbel.cell hbl).trans ((hc 3 (by decide)).trans (by rw [e3]))
        have hc4 : wr.cell? ⟨b, off + k * 5 + 4, none⟩ = some (.int .i64 width) := (hbel.cell hbl).trans ((hc 4 (by decide)).trans (by rw [e4]))
        have p2 := bounds_u64 b2
        have x2 := fun n : Ext wr => n.same_cell hc2
        have x3 := fun n : Ext wr => n.same_cell hc3
        have x4 := fun n : Ext wr => n.same_cell hc4
        have hne := ext_ne wr
        have HF := hid hF
        have P2 := hid p2
        clear hf hc e0 e1 e2 e3 e4 hcells b0 b1 b2 b3 b4 hc2 hc3 hc4 hbel hF p2
        go_wp2
        refine wp_region_ext_tail 16 (by kernel_rfl) (by kernel_rfl) ?_
        simp only [List.take_succ_cons, List.take_zero, List.drop_succ_cons, List.drop_zero]
        repeat (go_big_quiet_step (fail))
        refine wpQuiet_nil ?_
        intro w' hw'
        obtain ⟨m1, rfl⟩ := hw'
        clear x2 x3 x4
        go_wp2_with (go_at_call 12; ((with_reducible refine (write_any _ R aoff width av _ P2.out.1 (by have := P2.out.2; omega) (m1.blk hC.out)).mono ?_)); rintro e w9 ⟨rfl, hn, hd⟩)
        have hf9 : Fr [] w w9 := (HF.out.trans m1.fr).step hd (fun j hj => .inr (by simp at hj; omega))
        have hx9 := hd.keeps (m1.blk hX.out) (by simp)
        go_roundw
        case rel => exact ⟨k + 1, _, by omega, by go_num, hg.out.write _ _ _, hn, hx9, hf9⟩
        case measure => simp [intOf]; omega
      · obtain rfl : k = len0 := by omega
        have HF := hid hF
        have c0' : wr.cell? ⟨w.heap.size + 1, 0, none⟩ = some (.int .u64 (R 0)) := by rw [blk_cell hC.out]; rfl
        have c1' : wr.cell? ⟨w.heap.size + 1, 1, none⟩ = some (.int .u64 (R 1)) := by rw [blk_cell hC.out]; rfl
        have c2' : wr.cell? ⟨w.heap.size + 1, 2, none⟩ = some (.int .u64 (R 2)) := by rw [blk_cell hC.out]; rfl
        clear hF hlt hlt2
        go_upto_region 9 with fail
        have hlc := lt_block hC.out
        refine world_atK (fun W => W.heap[w.heap.size + 1]? = some (clR R) ∧ W.heap[w.heap.size]? = some (.cells #[.int .u8 a1_0, .int .u8 a1_1, .int .u64 a1_2, .int .u64 a1_3, .int .i64 a1_4] 30) ∧ W.heap[wr.heap.size]? = some (clR R) ∧ Fr [] w W ∧ w.heap.size + 1 < wr.heap.size) ⟨blk_alloc hC.out _, blk_alloc hX.out _, blk_new wr (clR R), HF.out.alloc _, hlc⟩ ?_
        clear hC hX HF c0' c1' c2' hlc
        rintro W ⟨hC, hX, hA, hF, hlt⟩
        have x2 : W.cell? ⟨w.heap.size, 2, none⟩ = some (.int .u64 a1_2) := by rw [blk_cell hX]; rfl
        have x3 : W.cell? ⟨w.heap.size, 3, none⟩ = some (.int .u64 a1_3) := by rw [blk_cell hX]; rfl
        have x4 : W.cell? ⟨w.heap.size, 4, none⟩ = some (.int .i64 a1_4) := by rw [blk_cell hX]; rfl
        have HC := hid hC
        have HX := hid hX
        have HA := hid hA
        have HF := hid hF
        have HL := hid hlt
        clear hC hX hA hF hlt
        cases ha : acc a1_2 a1_4 with
        | none =>
          have hr : wrR R a1_2 a1_4 a1_3 = R := by unfold wrR; rw [ha]
          have hw := write_any (w.heap.size + 1) R a1_2 a1_4 a1_3 W o0 (by omega) HC.out
          rw [ha, hr] at hw
          have HW := hid hw
          clear hw hr ha
          go_upto_region 11 with (go_at_call 12; ((with_reducible refine (HW.out).mono ?_)); rintro e w2 ⟨rfl, hn, hd⟩)
          have hA2 := hd.keeps HA.out (by have := HL.out; simp; omega)
          have hF2 : Fr [] w w2 := HF.out.step hd (fun j hj => .inr (by simp at hj; omega))
          have HN := hid hn
          have HA2 := hid hA2
          have HF2 := hid hF2
          clear hn hA2 hF2 hd HW HC HX HA HF x2 x3 x4
          have y0 := fun n : Ext w2 => Ext.cell n (cs := #[.int .u64 (R 0), .int .u64 (R 1), .int .u64 (R 2)]) HN.out 0
          have y1 := fun n : Ext w2 => Ext.cell n (cs := #[.int .u64 (R 0), .int .u64 (R 1), .int .u64 (R 2)]) HN.out 1
          have y2 := fun n : Ext w2 => Ext.cell n (cs := #[.int .u64 (R 0), .int .u64 (R 1), .int .u64 (R 2)]) HN.out 2
          have z0 := fun n : Ext w2 => Ext.cell n (cs := #[.int .u64 (R 0), .int .u64 (R 1), .int .u64 (R 2)]) HA2.out 0
          have z1 := fun n : Ext w2 => Ext.cell n (cs := #[.int .u64 (R 0), .int .u64 (R 1), .int .u64 (R 2)]) HA2.out 1
          have z2 := fun n : Ext w2 => Ext.cell n (cs := #[.int .u64 (R 0), .int .u64 (R 1), .int .u64 (R 2)]) HA2.out 2
          have ca : Hid (∀ n : Ext w2, Calls Try.prog 7 #[] n.w fun e w'' => e = .returned (.bool true) ∧ ∃ m : Ext w2, w'' = m.w) := fun n => Ext.call n (awake_any _)
          have hne := ext_ne w2
          refine wp_region_ext (by kernel_rfl) (by kernel_rfl) ?_
          repeat (go_big_quiet_step ((go_at_call 7; exact ca.out _)))
          refine wpQuiet_nil ?_
          intro w' hw'
          obtain ⟨m1, rfl⟩ := hw'
          go_wp2
          go_ret
          exact ⟨rfl, (HF2.out.trans m1.fr).below (Nat.le_refl _) (by simp)⟩
        | some kk =>
          obtain ⟨hk2, hh, _⟩ := acc_is (b := 0) ha
          have hG := hg.out.write a1_2 a1_4 a1_3
          have hw := write_any (w.heap.size + 1) R a1_2 a1_4 a1_3 W o0 (by omega) HC.out
          have hrd := fun w5 hb => read_any (w.heap.size + 1) (wrR R a1_2 a1_4 a1_3) a1_2 a1_4 w5 o0 (by omega) hb
          have hr1 := fun (j : Int) (j0 : 0 ≤ j) (j1 : a1_2 + j < 18446744073709551616) w5 hb => read_any (w.heap.size + 1) (wrR R a1_2 a1_4 a1_3) (a1_2 + j) 1 w5 (by omega) j1 hb
          have hback : rdR (wrR R a1_2 a1_4 a1_3) a1_2 a1_4 = if kk = 0 then rdR (wrR R a1_2 a1_4 a1_3) a1_2 a1_4 else a1_3 % (maskW a1_4 + 1) := by
            by_cases hz : kk = 0
            · rw [if_pos hz]
            · rw [if_neg hz]; exact back_n hg.out ha hz v0 (by omega)
          have hzero : kk = 0 → a1_2 = 0 → rdR (wrR R a1_2 a1_4 a1_3) a1_2 a1_4 = a1_3 % 2 := fun h1 h2 => by
            subst h1 h2; exact back_0 hg.out ha v0 (by omega)
          have hbyte := fun (j : Int) (j0 : 0 ≤ j) (j1 : j < a1_4) => rd_byte hG ha j0 j1
          have hsame : ∀ j, j ≠ kk → wrR R a1_2 a1_4 a1_3 j = R j := fun j hj => by unfold wrR; rw [ha]; simp [hj]
          have hwd := acc_width ha
          have hpos := rd_nonneg hG ha
          have hoff : a1_2 ≤ 49151 ∧ (kk = 0 → a1_2 < 4) ∧ (kk ≠ 0 → 4 ≤ a1_2) ∧ (kk = 0 → a1_4 ≤ 4) := acc_off ha
          have hby1 : ∀ j : Int, 0 ≤ j → j < a1_4 → acc (a1_2 + j) 1 = some kk := fun j j0 j1 => acc_byte ha j0 j1
          rw [ha] at hw hrd
          generalize wrR R a1_2 a1_4 a1_3 = R' at hw hrd hr1 hback hzero hbyte hsame hG hpos
          have HW := hid hw
          have HR := hid hrd
          have HR1 := hid hr1
          have HBK := hid hback
          have HZR := hid hzero
          have HBY := hid hbyte
          have HSM := hid hsame
          have HB1 := hid hby1
          have HHH := hid hh
          clear hw hrd hr1 hback hzero hbyte hsame hby1 ha hh
          go_upto_region 12 with (go_at_call 12; ((with_reducible refine (HW.out).mono ?_)); rintro e w2 ⟨rfl, hn, hd⟩)
          have hA2 := hd.keeps HA.out (by have := HL.out; simp; omega)
          have hX2 := hd.keeps HX.out (by simp)
          have hF2 : Fr [] w w2 := HF.out.step hd (fun j hj => .inr (by simp at hj; omega))
          have y2 : w2.cell? ⟨w.heap.size, 2, none⟩ = some (.int .u64 a1_2) := by rw [blk_cell hX2]; rfl
          have y4 : w2.cell? ⟨w.heap.size, 4, none⟩ = some (.int .i64 a1_4) := by rw [blk_cell hX2]; rfl
          have HN := hid hn
          have HA2 := hid hA2
          have HX2 := hid hX2
          have HF2 := hid hF2
          clear hn hA2 hX2 hF2 hd HW HC HX HA HF x2 x3 x4
          go_upto_region 13 with (go_at_call 10; ((with_reducible refine (HR.out _ HN.out).mono ?_)); rintro e w3 ⟨rfl, hd⟩)
          have hN3 := hd.keeps HN.out (by simp)
          have hA3 := hd.keeps HA2.out (by simp)
          have hX3 := hd.keeps HX2.out (by simp)
          have hF3 := HF2.out.trans hd
          have y2 : w3.cell? ⟨w.heap.size, 2, none⟩ = some (.int .u64 a1_2) := by rw [blk_cell hX3]; rfl
          have y3 : w3.cell? ⟨w.heap.size, 3, none⟩ = some (.int .u64 a1_3) := by rw [blk_cell hX3]; rfl
          have y4 : w3.cell? ⟨w.heap.size, 4, none⟩ = some (.int .i64 a1_4) := by rw [blk_cell hX3]; rfl
          have HN3 := hid hN3
          have HA3 := hid hA3
          have HX3 := hid hX3
          have HF3 := hid hF3
          clear hN3 hA3 hX3 hF3 hd HN HA2 HX2 HF2
          generalize hg0 : rdR R' a1_2 a1_4 = g at HBK HZR HBY HR hpos
          have HG1 := hid hpos
          clear hpos
          have HG0 := hid hg0
          clear hg0
          go_cut [131] (fun v wc => v = .bool false ∧ wc.heap[w.heap.size + 1]? = some (clR R') ∧ wc.heap[w.heap.size]? = some (.cells #[.int .u8 a1_0, .int .u8 a1_1, .int .u64 a1_2, .int .u64 a1_3, .int .i64 a1_4] 30) ∧ wc.heap[wr.heap.size]? = some (clR R) ∧ Fr [] w wc)
          case first =>
            have hw8 := hwd.1
            by_cases hz : kk = 0
            · have := hoff.2.1 hz
              have h44 := hoff.2.2.2 hz
              have t4 : decide (4 ≤ a1_2) = false := decide_eq_false (by omega)
              by_cases hz2 : a1_2 = 0
              · subst hz2
                have te : (g != a1_3 % 2) = false := by rw [HZR.out hz rfl]; simp
                clear t4 hoff hwd hw8 h44
                go_quiet (fail)
                go_wp2
                go_meet
                case rel => exact ⟨rfl, HN3.out, HX3.out, HA3.out, HF3.out.drewN _⟩
              · have te : (a1_2 == 0) = false := by simpa using hz2
                clear hoff hwd hw8 h44
                go_quiet (fail)
                go_wp2
                go_meet
                case rel => exact ⟨rfl, HN3.out, HX3.out, HA3.out, HF3.out.drewN _⟩
            · have := hoff.2.2.1 hz
              have t4 : decide (4 ≤ a1_2) = true := decide_eq_true this
              have te : (a1_2 == 0) = false := by simp; omega
              have hb := HBK.out
              rw [if_neg hz] at hb
              rcases hw8 with rfl | rfl | rfl | rfl
              · have tg : (g != a1_3 % 256) = false := by rw [hb]; simp [maskW]
                clear hoff hwd hb
                go_quiet (fail)
                go_wp2
                go_meet
                case rel => exact ⟨rfl, HN3.out, HX3.out, HA3.out, HF3.out.drewN _⟩
              · have tg : (g != a1_3 % 65536) = false := by rw [hb]; simp [maskW]
                clear hoff hwd hb
                go_quiet (fail)
                go_wp2
                go_meet
                case rel => exact ⟨rfl, HN3.out, HX3.out, HA3.out, HF3.out.drewN _⟩
              · have tg : (g != a1_3 % 4294967296) = false := by rw [hb]; simp [maskW]
                clear hoff hwd hb
                go_quiet (fail)
                go_wp2
                go_meet
                case rel => exact ⟨rfl, HN3.out, HX3.out, HA3.out, HF3.out.drewN _⟩
              · have tg : (g != a1_3) = false := by rw [hb]; simp [maskW]; omega
                clear hoff hwd hb
                go_quiet (fail)
                go_wp2
                go_meet
                case rel => exact ⟨rfl, HN3.out, HX3.out, HA3.out, HF3.out.drewN _⟩
          case rest =>
            obtain ⟨rfl, hN4, hX4, hA4, hF4⟩ := hcut
            have HN4 := hid hN4
            have HX4 := hid hX4
            have HA4 := hid hA4
            have HF4 := hid hF4
            clear hN4 hX4 hA4 hF4 HN3 HA3 HX3 HF3 y2 y3 y4
            have HK2 := hid hk2
            have HWD := hid hwd
            have HOF := hid hoff
            clear hk2 hwd hoff hG HBK HZR HR HL Hs hk
            go_wp2
            go_loopw [11, 12, 13] (fun i b o wq => ∃ n : Nat, (n : Int) ≤ a1_4 ∧ i = .int .i64 n ∧ Hid (wq.heap[w.heap.size + 1]? = some (clR R')) ∧ Hid (wq.heap[w.heap.size]? = some (.cells #[.int .u8 a1_0, .int .u8 a1_1, .int .u64 a1_2, .int .u64 a1_3, .int .i64 a1_4] 30)) ∧ Hid (wq.heap[wr.heap.size]? = some (clR R)) ∧ Hid (Fr [] w wq)) (fun i _ _ _ => a1_4.toNat - (intOf i).toNat)
            case atStart => exact ⟨0, by have := HWD.out.1; omega, rfl, HN4.out, HX4.out, HA4.out, HF4.out⟩
            case round =>
              clear HN4 HX4 HA4 HF4
              obtain ⟨n, hn, rfl, HN, HX, HA, HF⟩ := hrel
              have y2 : wr.cell? ⟨w.heap.size, 2, none⟩ = some (.int .u64 a1_2) := by rw [blk_cell HX.out]; rfl
              have y4 : wr.cell? ⟨w.heap.size, 4, none⟩ = some (.int .i64 a1_4) := by rw [blk_cell HX.out]; rfl
              by_cases hlt : (n : Int) < a1_4
              · have hon := HOF.out.1
                have hu1 : IntKind.u64.wrap (n : Int) = n := by rw [IntKind.wrap_u64]; have := HWD.out.1; omega
                have hu2 : IntKind.u64.wrap (a1_2 + (n : Int)) = a1_2 + n := by rw [IntKind.wrap_u64]; have := HWD.out.1; omega
                have hr := HR1.out n (by omega) (by have := HWD.out.1; omega) _ HN.out
                rw [HB1.out n (by omega) hlt, HBY.out n (by omega) hlt] at hr
                have HR := hid hr
                clear hr hon
                go_upto_region 19 with (go_at_call 10; ((with_reducible refine (HR.out).mono ?_)); rintro e w5 ⟨rfl, hd⟩)
                have hN5 := hid (hd.keeps HN.out (by simp))
                have hX5 := hid (hd.keeps HX.out (by simp))
                have hA5 := hid (hd.keeps HA.out (by simp))
                have hF5 := hid (HF.out.trans hd)
                clear HN HX HA HF hd HR y2 y4
                have h8 : (n : Int) < 8 := by have := HWD.out.1; omega
                have hw8 : wrap64 (8 * (n : Int)) = 8 * n := by unfold wrap64; omega
                have te : (g / 2 ^ (8 * n) % 256 != (g / 2 ^ (8 * n)).tmod 256) = false := by
                  rw [Int.tmod_eq_emod_of_nonneg (Int.ediv_nonneg HG1.out (Int.le_of_lt (Int.pow_pos (by decide))))]; simp
                go_wp2
                go_roundw
                case rel => exact ⟨n + 1, by omega, by simp, hN5.out, hX5.out, hA5.out, hF5.out⟩
                case measure => simp [intOf]; omega
              obtain hnn : (n : Int) = a1_4 := by omega
              have z0 : wr.cell? ⟨w.heap.size + 1, 0, none⟩ = some (.int .u64 (R' 0)) := by rw [blk_cell HN.out]; rfl
              have z1 : wr.cell? ⟨w.heap.size + 1, 1, none⟩ = some (.int .u64 (R' 1)) := by rw [blk_cell HN.out]; rfl
              have z2 : wr.cell? ⟨w.heap.size + 1, 2, none⟩ = some (.int .u64 (R' 2)) := by rw [blk_cell HN.out]; rfl
              have q0 := (blk_cell HA.out 0).trans (show (#[.int .u64 (R 0), .int .u64 (R 1), .int .u64 (R 2)] : Array Value)[0]? = some (.int .u64 (R 0)) from rfl)
              have q1 := (blk_cell HA.out 1).trans (show (#[.int .u64 (R 0), .int .u64 (R 1), .int .u64 (R 2)] : Array Value)[1]? = some (.int .u64 (R 1)) from rfl)
              have q2 := (blk_cell HA.out 2).trans (show (#[.int .u64 (R 0), .int .u64 (R 1), .int .u64 (R 2)] : Array Value)[2]? = some (.int .u64 (R 2)) from rfl)
              have hk3 : kk = 0 ∨ kk = 1 ∨ kk = 2 := by have := HK2.out; omega
              rcases hk3 with rfl | rfl | rfl
              · have n1 : (R' 1 != R 1) = false := by rw [HSM.out 1 (by decide)]; simp
                have n2 : (R' 2 != R 2) = false := by rw [HSM.out 2 (by decide)]; simp
                by_cases he : R' 0 = R 0
                · have n0 : (R' 0 != R 0) = false := by rw [he]; simp
                  clear he HSM
                  go_wp2
                  go_quiet (fail)
                  go_wp2
                  go_quiet (fail)
                  go_wp2
                  go_quiet (fail)
                  go_wp2_with (go_at_call 7; ((with_reducible refine (awake_any _).mono ?_)); rintro e w9 ⟨rfl, hd⟩)
                  go_ret
                  exact ⟨rfl, ((HF.out.drewN _).trans hd).below (Nat.le_refl _) (by simp)⟩
                · have n0 : (R' 0 != R 0) = true := by simpa using he
                  clear he HSM
                  go_wp2
                  go_quiet (fail)
                  go_wp2
                  go_quiet (fail)
                  go_wp2
                  go_quiet (fail)
                  go_wp2_with (go_at_call 7; ((with_reducible refine (awake_any _).mono ?_)); rintro e w9 ⟨rfl, hd⟩)
                  go_ret
                  exact ⟨rfl, ((HF.out.drewN _).trans hd).below (Nat.le_refl _) (by simp)⟩
              · have n0 : (R' 0 != R 0) = false := by rw [HSM.out 0 (by decide)]; simp
                have n2 : (R' 2 != R 2) = false := by rw [HSM.out 2 (by decide)]; simp
                by_cases he : R' 1 = R 1
                · have n1 : (R' 1 != R 1) = false := by rw [he]; simp
                  clear he HSM
                  go_wp2
                  go_quiet (fail)
                  go_wp2
                  go_quiet (fail)
                  go_wp2
                  go_quiet (fail)
                  go_wp2_with (go_at_call 7; ((with_reducible refine (awake_any _).mono ?_)); rintro e w9 ⟨rfl, hd⟩)
                  go_ret
                  exact ⟨rfl, ((HF.out.drewN _).trans hd).below (Nat.le_refl _) (by simp)⟩
                · have n1 : (R' 1 != R 1) = true := by simpa using he
                  clear he HSM
                  go_wp2
                  go_quiet (fail)
                  go_wp2
                  go_quiet (fail)
                  go_wp2
                  go_quiet (fail)
                  go_wp2_with (go_at_call 7; ((with_reducible refine (awake_any _).mono ?_)); rintro e w9 ⟨rfl, hd⟩)
                  go_ret
                  exact ⟨rfl, ((HF.out.drewN _).trans hd).below (Nat.le_refl _) (by simp)⟩
              · have n0 : (R' 0 != R 0) = false := by rw [HSM.out 0 (by decide)]; simp
                have n1 : (R' 1 != R 1) = false := by rw [HSM.out 1 (by decide)]; simp
                by_cases he : R' 2 = R 2
                · have n2 : (R' 2 != R 2) = false := by rw [he]; simp
                  clear he HSM
                  go_wp2
                  go_quiet (fail)
                  go_wp2
                  go_quiet (fail)
                  go_wp2
                  go_quiet (fail)
                  go_wp2_with (go_at_call 7; ((with_reducible refine (awake_any _).mono ?_)); rintro e w9 ⟨rfl, hd⟩)
                  go_ret
                  exact ⟨rfl, ((HF.out.drewN _).trans hd).below (Nat.le_refl _) (by simp)⟩
                · have n2 : (R' 2 != R 2) = true := by simpa using he
                  clear he HSM
                  go_wp2
                  go_quiet (fail)
                  go_wp2
                  go_quiet (fail)
                  go_wp2
                  go_quiet (fail)
                  go_wp2_with (go_at_call 7; ((with_reducible refine (awake_any _).mono ?_)); rintro e w9 ⟨rfl, hd⟩)
                  go_ret
                  exact ⟨rfl, ((HF.out.drewN _).trans hd).below (Nat.le_refl _) (by simp)⟩
  · have hlt : (60 : Int) < (len0 : Int) := by omega
    have hF := Fr.refl [] w
    go_enter Try.func5, Try.ntmps5
    go_wp2_with ((first | (go_at_call 8; ((with_reducible refine (new_any _).mono ?_)); rintro e w' ⟨rfl, rfl⟩) | (go_at_call 7; ((with_reducible refine (awake_any _).mono ?_)); rintro e w9 ⟨rfl, hd⟩)))
    go_ret
    exact ⟨rfl, (((Fr.refl _ _).alloc _).alloc _ |>.trans hd).below (Nat.le_refl _) (by simp)⟩
end Go.Proofs.Ytefhcadlakakbaa
