/- The law UartSame: its walk. -/
import Derived.Test.YtobaniebnejjiaaTw
import Derived.Test.YtobaniebnejjiaaHeldTail
namespace Go.Proofs.Ytobaniebnejjiaa.U
open Go.RowKit
set_option linter.all false
set_option maxRecDepth 100000 in
set_option maxHeartbeats 4000000 in
theorem same_long (A0 A1 A2 : Option Addr) (len0 len1 len2 c0 c1 c2 : Nat) (w : World) (hlen : 60 < len0 ∨ len0 ≤ 60 ∧ 60 < len1 ∨ len0 ≤ 60 ∧ len1 ≤ 60 ∧ 60 < len2) : Calls Try.prog 4 #[.slice A0 len0 c0, .slice A1 len1 c1, .slice A2 len2 c2] w fun e w' => e = .returned (.bool true) ∧ Fr [] w w' := by
  rcases hlen with h | ⟨h, h'⟩ | ⟨h, h', h''⟩
  · have q1 : (60 : Int) < (len0 : Int) := by omega
    go_enter Try.func4, Try.ntmps4
    go_wp2_with (go_at_call 8; (with_reducible refine (awake_any _).mono ?_); rintro e w6 ⟨rfl, hd⟩)
    go_ret
    exact ⟨rfl, hd⟩
  · have q1 : ¬ (60 : Int) < (len0 : Int) := by omega
    have q2 : (60 : Int) < (len1 : Int) := by omega
    go_enter Try.func4, Try.ntmps4
    go_wp2_with (go_at_call 8; (with_reducible refine (awake_any _).mono ?_); rintro e w6 ⟨rfl, hd⟩)
    go_ret
    exact ⟨rfl, hd⟩
  · have q1 : ¬ (60 : Int) < (len0 : Int) := by omega
    have q2 : ¬ (60 : Int) < (len1 : Int) := by omega
    have q3 : (60 : Int) < (len2 : Int) := by omega
    go_enter Try.func4, Try.ntmps4
    go_wp2_with (go_at_call 8; (with_reducible refine (awake_any _).mono ?_); rintro e w6 ⟨rfl, hd⟩)
    go_ret
    exact ⟨rfl, hd⟩
set_option maxRecDepth 100000 in
set_option maxHeartbeats 0 in
theorem same_main (A0 A1 A2 : Option Addr) (cap0 cap1 cap2 : Nat) (L L2 M : List A4) (len0 len1 lenm : Nat) (hl0 : L.length = len0) (hl1 : L2.length = len1) (hl2 : M.length = lenm) (w : World) (h0 : len0 ≤ 60) (h1 : len1 ≤ 60) (h2 : lenm ≤ 60) (hL : Hid (Acts w A0 w.heap.size L)) (hL2 : Hid (Acts w A1 w.heap.size L2)) (hM : Hid (Acts w A2 w.heap.size M)) : Calls Try.prog 4 #[.slice A0 len0 cap0, .slice A1 len1 cap1, .slice A2 lenm cap2] w fun e w' => e = .returned (.bool true) ∧ Fr [] w w' := by
  have q1 : ¬ (60 : Int) < (len0 : Int) := by omega
  have q2 : ¬ (60 : Int) < (len1 : Int) := by omega
  have q3 : ¬ (60 : Int) < (lenm : Int) := by omega
  go_enter Try.func4, Try.ntmps4
  go_upto_region 7 with (first | (go_at_call 9; (with_reducible refine (al_new w _ (Fr.refl _ _)).mono ?_); rintro e wa ⟨rfl, hU1⟩; have hUa := hid hU1; clear hU1) | (go_at_call 9; (with_reducible refine (two_new hUa.out).mono ?_); rintro e wb ⟨rfl, hU1⟩; have hU := hid hU1; clear hUa hU1))
  clear q1 q2 q3
  generalize hgg : w.heap.size = g at hU
  generalize hhh : wa.heap.size = h at hU
  go_loopw [9] (fun i wr => ∃ (k : Nat) (u : St), k ≤ len0 ∧ i = .int .i64 k ∧ Hid (u.OK ∧ u.sent.length ≤ k) ∧ Hid (Two w wr [] g h u St.new)) (fun i _ => len0 - (intOf i).toNat)
  case atStart => exact ⟨0, St.new, Nat.zero_le _, rfl, ⟨OK_new, by decide⟩, hU⟩
  case round =>
    clear hU
    obtain ⟨k, u, hk, rfl, hG, hU⟩ := hrel
    by_cases hlt2 : k < len0
    · have hkl : (k : Int) < (len0 : Int) := by omega
      obtain ⟨b, off, rfl, hb1, hb2, hwa, hr⟩ := hL.out k (by omega)
      have hr := hid (range_keep hU.out.fr hb2 (by simp) hr)
      generalize L.getD k default = x at *
      obtain ⟨what, aoff, av, width⟩ := x
      have P : Hid (0 ≤ what ∧ what < 256 ∧ 0 ≤ aoff ∧ aoff < 18446744073709551616 ∧ 0 ≤ av ∧ av < 18446744073709551616) := ⟨hwa.1.1, hwa.1.2, hwa.2.1.1, hwa.2.1.2, hwa.2.2.1, hwa.2.2.2⟩
      clear hwa
      go_wp2_with (first | (refine wpList_load_midA (by rfl) 28 _ (by rfl) b (off + k * 4) (by rfl) #[.int .u8 what, .int .u64 aoff, .int .u64 av, .int .i64 width] _ hr.out Try.underlying28 rfl (by kernel_rfl) ?_) | (go_at_call 16; (with_reducible refine (tw_does0 hU.out hG.out.1 P.out.1 P.out.2.1 P.out.2.2.1 P.out.2.2.2.1 P.out.2.2.2.2.1 P.out.2.2.2.2.2 (by have := hG.out.2; omega)).mono ?_); rintro e w1 ⟨rfl, hU1, -⟩; replace hU := hid hU1; clear hU1))
      go_roundw
      case rel => exact ⟨k + 1, u.act what aoff av width, by omega, by go_num, ⟨hG.out.1.act _ _ _ _, by have := sent_act u what aoff av width; have := hG.out.2; omega⟩, hU⟩
      case measure => simp [intOf]; omega
    · obtain rfl : k = len0 := by omega
      have hu1 := hG.out.1
      obtain ⟨u1, hue⟩ : ∃ x, u = x := ⟨_, rfl⟩
      rw [hue] at hU hu1
      clear hue hG hlt2 hk
      go_upto_region 11 with fail
      go_loopw [10] (fun i wr => ∃ (k : Nat) (v : St), k ≤ len1 ∧ i = .int .i64 k ∧ Hid (v.OK ∧ v.sent.length ≤ k) ∧ Hid (Two w wr [] g h u1 v)) (fun i _ => len1 - (intOf i).toNat)
      case atStart => exact ⟨0, St.new, Nat.zero_le _, rfl, ⟨OK_new, by decide⟩, hU⟩
      case round =>
        clear hU
        obtain ⟨k, v, hk, rfl, hG, hU⟩ := hrel
        by_cases hlt2 : k < len1
        · have hkl : (k : Int) < (len1 : Int) := by omega
          obtain ⟨b, off, rfl, hb1, hb2, hwa, hr⟩ := hL2.out k (by omega)
          have hr := hid (range_keep hU.out.fr hb2 (by simp) hr)
          generalize L2.getD k default = x at *
          obtain ⟨what, aoff, av, width⟩ := x
          have P : Hid (0 ≤ what ∧ what < 256 ∧ 0 ≤ aoff ∧ aoff < 18446744073709551616 ∧ 0 ≤ av ∧ av < 18446744073709551616) := ⟨hwa.1.1, hwa.1.2, hwa.2.1.1, hwa.2.1.2, hwa.2.2.1, hwa.2.2.2⟩
          clear hwa
          go_wp2_with (first | (refine wpList_load_midA (by rfl) 28 _ (by rfl) b (off + k * 4) (by rfl) #[.int .u8 what, .int .u64 aoff, .int .u64 av, .int .i64 width] _ hr.out Try.underlying28 rfl (by kernel_rfl) ?_) | (go_at_call 16; (with_reducible refine (tw_does1 hU.out hG.out.1 P.out.1 P.out.2.1 P.out.2.2.1 P.out.2.2.2.1 P.out.2.2.2.2.1 P.out.2.2.2.2.2 (by have := hG.out.2; omega)).mono ?_); rintro e w1 ⟨rfl, hU1, -⟩; replace hU := hid hU1; clear hU1))
          go_roundw
          case rel => exact ⟨k + 1, v.act what aoff av width, by omega, by go_num, ⟨hG.out.1.act _ _ _ _, by have := sent_act v what aoff av width; have := hG.out.2; omega⟩, hU⟩
          case measure => simp [intOf]; omega
        · obtain rfl : k = len1 := by omega
          have hv1 := hG.out.1
          clear hG hL hL2 hk hlt2
          have c1 := hid fun (w1 : World) (H : Two w w1 [] g h u1 v) => tw_Take0 H hu1
          have c2 := hid fun (w1 : World) (H : Two w w1 [] g h u1.Take.2 v) => tw_Take1 H hv1
          have hu2 := hu1.Take
          have hv2 := hv1.Take
          have e1 : u1.Take.2.sent = [] := rfl
          have e2 : v.Take.2.sent = [] := rfl
          generalize u1.Take.2 = u2 at *
          generalize v.Take.2 = v2 at *
          have c3 := hid fun (w1 : World) (H : Two w w1 [] g h u2 v2) => tw_Dump0 H hu2
          have c4 := hid fun (w1 : World) (H : Two w w1 [] g h u2 v2) => tw_Dump1 H hv2
          by_cases hd : strOfNums u2.Dump = strOfNums v2.Dump
          · obtain rfl : u2 = v2 := same_of hu2 hv2 e1 e2 hd
            have hx0 := hu2
            have hxs := e1
            clear hd e1 e2 hu1 hv1 hv2 hu2
            generalize u2.Dump = dd at *
            generalize strOfNums dd = sd at *
            have q3 : (sd.toList == sd.toList) = true := beq_self_eq_true _
            go_upto_region 19 with (first | (go_at_call 14; (with_reducible refine (c1.out _ hU.out).mono ?_); rintro e w2 ⟨rfl, hU1, -⟩; replace hU := hid hU1; clear hU1) | (go_at_call 14; (with_reducible refine (c2.out _ hU.out).mono ?_); rintro e w2 ⟨rfl, hU1, -⟩; replace hU := hid hU1; clear hU1) | (go_at_call 17; (with_reducible refine (c3.out _ hU.out).mono ?_); rintro e w2 ⟨rfl, hU1, -⟩; replace hU := hid hU1; clear hU1) | (go_at_call 17; (with_reducible refine (c4.out _ hU.out).mono ?_); rintro e w2 ⟨rfl, hU1, -⟩; replace hU := hid hU1; clear hU1))
            clear c1 c2 c3 c4 q3
            obtain ⟨x0, hxe⟩ : ∃ x, u2 = x := ⟨_, rfl⟩
            rw [hxe] at hU hx0 hxs
            clear hxe
            go_loopw [11, 12, 13, 14, 15, 16] (fun i s12 s13 s14 s15 s16 wr => ∃ (k : Nat) (x : St), k ≤ lenm ∧ i = .int .i64 k ∧ Hid (x.OK ∧ x.sent.length ≤ k) ∧ Hid (Two w wr [] g h x x)) (fun i _ _ _ _ _ _ => lenm - (intOf i).toNat)
            case atStart => exact ⟨0, x0, Nat.zero_le _, rfl, ⟨hx0, by rw [hxs]; decide⟩, hU⟩
            case round =>
              clear hU hx0 hxs
              obtain ⟨k, x, hk, rfl, hG, hU⟩ := hrel
              by_cases hlt2 : k < lenm
              · have hkl : (k : Int) < (lenm : Int) := by omega
                obtain ⟨b, off, rfl, hb1, hb2, hwa, hr⟩ := hM.out k (by omega)
                have hr := hid (range_keep hU.out.fr hb2 (by simp) hr)
                generalize M.getD k default = xx at *
                obtain ⟨what, aoff, av, width⟩ := xx
                obtain ⟨p1, p2, p3, p4, p5, p6⟩ : 0 ≤ what ∧ what < 256 ∧ 0 ≤ aoff ∧ aoff < 18446744073709551616 ∧ 0 ≤ av ∧ av < 18446744073709551616 := ⟨hwa.1.1, hwa.1.2, hwa.2.1.1, hwa.2.1.2, hwa.2.2.1, hwa.2.2.2⟩
                clear hwa hM
                have hX0 := hid (hU.out.boxed (.cells #[.int .u8 0, .int .u64 0, .int .u64 0, .int .i64 0] 28))
                go_upto_region 22 with (first | (refine wpList_load_midA (by rfl) 28 _ (by rfl) b (off + k * 4) (by rfl) #[.int .u8 what, .int .u64 aoff, .int .u64 av, .int .i64 width] _ hr.out Try.underlying28 rfl (by kernel_rfl) ?_) | (refine wpList_store_whole rfl 28 _ _ rfl wr.heap.size rfl #[.int .u8 what, .int .u64 aoff, .int .u64 av, .int .i64 width] rfl 28 _ (blk_new _ _) rfl (by kernel_rfl) (by kernel_rfl) ?_; intro w2 hJ hfr2; replace hfr2 := hid hfr2; replace hJ := hid hJ))
                have hU2 : Hid (Two w w2 [wr.heap.size] g h x x) := Lines.step hX0.out hfr2.out fun j hj => ⟨hj, by rw [List.mem_singleton.1 hj]; exact hU.out.fr.size⟩
                have hB := hJ
                clear hfr2 hr hX0 hJ
                have hU := hU2
                clear hU2
                generalize hBB : wr.heap.size = B at *
                clear hBB hb1 hb2
                obtain ⟨hok, hs1⟩ := hG.out
                clear hG
                obtain ⟨bb, hbv⟩ : ∃ x, av % 256 = x := ⟨_, rfl⟩
                have hbb : Byte bb := by unfold Byte; omega
                have hwb : IntKind.u8.wrap av = bb := by rw [← hbv]; rfl
                have hok2 := (hok.Read aoff width).1
                have hs2 := sent_Read x aoff width
                have cRa := hid fun (w1 : World) (H : Two w w1 [B] g h x x) => tw_Read0 H hok width p3 p4
                have cRb := hid fun (w1 : World) (H : Two w w1 [B] g h (x.Read aoff width).2.2 x) => tw_Read1 H hok width p3 p4
                generalize x.Read aoff width = rr at *
                obtain ⟨v, ok, x2⟩ := rr
                simp only at hok2 hs2 cRa cRb
                replace hs2 := congrArg List.length hs2
                have x1 : w2.cell? ⟨B, 1, none⟩ = some (.int .u64 aoff) := (blk_cell hB.out 1).trans rfl
                have x3 : w2.cell? ⟨B, 3, none⟩ = some (.int .i64 width) := (blk_cell hB.out 3).trans rfl
                go_upto_region 24 with (first | (go_at_call 11; (with_reducible refine (cRa.out _ hU.out).mono ?_); rintro e w3 ⟨rfl, hU1, hk1⟩; have hU1 : Two w w3 [B] g h x2 x := hU1; replace hU := hid hU1; replace hB := hid ((hk1 B (by simp)).trans hB.out); clear hU1 hk1; have x1 : w3.cell? ⟨B, 1, none⟩ = some (.int .u64 aoff) := (blk_cell hB.out 1).trans rfl; have x3 : w3.cell? ⟨B, 3, none⟩ = some (.int .i64 width) := (blk_cell hB.out 3).trans rfl) | (go_at_call 11; (with_reducible refine (cRb.out _ hU.out).mono ?_); rintro e w3 ⟨rfl, hU1, hk1⟩; have hU1 : Two w w3 [B] g h x2 x2 := hU1; replace hU := hid hU1; replace hB := hid ((hk1 B (by simp)).trans hB.out); clear hU1 hk1))
                clear cRa cRb x1 x3
                rename World => w3
                have hok3 := hok2.Write aoff width av
                have hs3 := sent_Write x2 aoff width av
                have cWa := hid fun (w1 : World) (H : Two w w1 [B] g h x2 x2) => tw_Write0 H hok2 width p3 p4 p5 p6 (by omega)
                have cWb := hid fun (w1 : World) (H : Two w w1 [B] g h (x2.Write aoff width av).2 x2) => tw_Write1 H hok2 width p3 p4 p5 p6 (by omega)
                generalize x2.Write aoff width av = rr at *
                obtain ⟨wok, x4⟩ := rr
                simp only at hok3 hs3 cWa cWb
                have qv : (v != v) = false := bne_self_eq_false ..
                have qo : (ok != ok) = false := bne_self_eq_false ..
                have qw : (wok != wok) = false := bne_self_eq_false ..
                (try simp only [Act.put, List.setIfInBounds_toArray, List.set_cons_zero, List.set_cons_succ])
                replace hU := hid (hU.out.grow (Fr.refl [] w3).drew)
                replace hB := hid (show w3.drew.heap[B]? = _ from hB.out)
                by_cases hev : what % 2 = 0
                · have hok4 := hok3.Input hbb
                  have hs4 := sent_Input x4 bb
                  have cIa := hid fun (w1 : World) (H : Two w w1 [B] g h x4 x4) => tw_Input0 H hok3 hbb
                  have cIb := hid fun (w1 : World) (H : Two w w1 [B] g h (x4.Input bb).2 x4) => tw_Input1 H hok3 hbb
                  generalize x4.Input bb = rr at *
                  obtain ⟨iok, x5⟩ := rr
                  simp only at hok4 hs4 cIa cIb
                  have qi : (iok != iok) = false := bne_self_eq_false ..
                  have cDa := hid fun (w1 : World) (H : Two w w1 [B] g h x5 x5) => tw_Dump0 H hok4
                  have cDb := hid fun (w1 : World) (H : Two w w1 [B] g h x5 x5) => tw_Dump1 H hok4
                  have cLa := hid fun (w1 : World) (H : Two w w1 [B] g h x5 x5) => tw_Level0 H hok4
                  have cLb := hid fun (w1 : World) (H : Two w w1 [B] g h x5 x5) => tw_Level1 H hok4
                  generalize strOfNums x5.Dump = sd at *
                  generalize x5.Level = lv at *
                  have qd : (sd.toList == sd.toList) = true := beq_self_eq_true _
                  have ql : (lv != lv) = false := bne_self_eq_false ..
                  have hG4 : Hid (x5.OK ∧ x5.sent.length ≤ k + 1) := ⟨hok4, by rw [hs4]; omega⟩
                  clear hok hok2 hok3 hok4 hs1 hs2 hs3 hs4 hbb
                  refine wp_region_HT (S := fun w' => w'.heap[B]? = some (.cells #[.int .u8 what, .int .u64 aoff, .int .u64 av, .int .i64 width] 28)) 59 (by kernel_rfl) (by kernel_rfl) hB.out (fun _ => ?_)
                  refine HT_take (i := 0) rfl (by kernel_rfl) (by decide) (by kernel_rfl) (by kernel_rfl) (fun _ _ _ h => h) (yieldsIf_of (.int .u64 v) (by kernel_rfl) (fun w0 hS => by go_simp)) hB.out ?_
                  (try simp only [Act.put, List.setIfInBounds_toArray, List.set_cons_zero, List.set_cons_succ])
                  refine HT_take (i := 1) rfl (by kernel_rfl) (by decide) (by kernel_rfl) (by kernel_rfl) (fun _ _ _ h => h) (yieldsIf_of (.int .u64 v) (by kernel_rfl) (fun w0 hS => by go_simp)) hB.out ?_
                  (try simp only [Act.put, List.setIfInBounds_toArray, List.set_cons_zero, List.set_cons_succ])
                  refine HT_take (i := 2) rfl (by kernel_rfl) (by decide) (by kernel_rfl) (by kernel_rfl) (fun _ _ _ h => h) (yieldsIf_of (.bool false) (by kernel_rfl) (fun w0 hS => by go_simp)) hB.out ?_
                  (try simp only [Act.put, List.setIfInBounds_toArray, List.set_cons_zero, List.set_cons_succ])
                  refine HT_take (i := 3) rfl (by kernel_rfl) (by decide) (by kernel_rfl) (by kernel_rfl) (fun _ _ _ h => h) (yieldsIf_of (.bool false) (by kernel_rfl) (fun w0 hS => by go_simp)) hB.out ?_
                  (try simp only [Act.put, List.setIfInBounds_toArray, List.set_cons_zero, List.set_cons_succ])
                  refine HT_take (i := 4) rfl (by kernel_rfl) (by decide) (by kernel_rfl) (by kernel_rfl) (fun _ _ _ h => h) (yieldsIf_of (.bool ok) (by kernel_rfl) (fun w0 hS => by go_simp)) hB.out ?_
                  (try simp only [Act.put, List.setIfInBounds_toArray, List.set_cons_zero, List.set_cons_succ])
                  refine HT_take (i := 5) rfl (by kernel_rfl) (by decide) (by kernel_rfl) (by kernel_rfl) (fun _ _ _ h => h) (yieldsIf_of (.bool ok) (by kernel_rfl) (fun w0 hS => by go_simp)) hB.out ?_
                  (try simp only [Act.put, List.setIfInBounds_toArray, List.set_cons_zero, List.set_cons_succ])
                  refine HT_take (i := 6) rfl (by kernel_rfl) (by decide) (by kernel_rfl) (by kernel_rfl) (fun _ _ _ h => h) (yieldsIf_of (.bool false) (by kernel_rfl) (fun w0 hS => by go_simp)) hB.out ?_
                  (try simp only [Act.put, List.setIfInBounds_toArray, List.set_cons_zero, List.set_cons_succ])
                  refine HT_take (i := 7) rfl (by kernel_rfl) (by decide) (by kernel_rfl) (by kernel_rfl) (fun _ _ _ h => h) (yieldsIf_of (.bool false) (by kernel_rfl) (fun w0 hS => by go_simp)) hB.out ?_
                  (try simp only [Act.put, List.setIfInBounds_toArray, List.set_cons_zero, List.set_cons_succ])
                  refine HT_take (i := 8) rfl (by kernel_rfl) (by decide) (by kernel_rfl) (by kernel_rfl) (fun _ _ _ h => h) (yieldsIf_of (.bool false) (by kernel_rfl) (fun w0 hS => by go_simp)) hB.out ?_
                  (try simp only [Act.put, List.setIfInBounds_toArray, List.set_cons_zero, List.set_cons_succ])
                  refine HT_take (i := 9) rfl (by kernel_rfl) (by decide) (by kernel_rfl) (by kernel_rfl) (fun _ _ _ h => h) (yieldsIf_of (.pointer (some ⟨g, 0, none⟩)) (by kernel_rfl) (fun w0 hS => by go_simp)) hB.out ?_
                  (try simp only [Act.put, List.setIfInBounds_toArray, List.set_cons_zero, List.set_cons_succ])
                  refine HT_take (i := 10) rfl (by kernel_rfl) (by decide) (by kernel_rfl) (by kernel_rfl) (fun _ _ _ h => h) (yieldsIf_of (.pointer (some ⟨B, 1, none⟩)) (by kernel_rfl) (fun w0 hS => by go_simp)) hB.out ?_
                  (try simp only [Act.put, List.setIfInBounds_toArray, List.set_cons_zero, List.set_cons_succ])
                  refine HT_take (i := 11) rfl (by kernel_rfl) (by decide) (by kernel_rfl) (by kernel_rfl) (fun _ _ _ h => h) (yieldsIf_of (.int .u64 aoff) (by kernel_rfl) (fun w' hS => by have hc := (blk_cell hS 1).trans (show (#[.int .u8 what, .int .u64 aoff, .int .u64 av, .int .i64 width] : Array Value)[1]? = some (.int .u64 aoff) from rfl); go_simp)) hB.out ?_
                  (try simp only [Act.put, List.setIfInBounds_toArray, List.set_cons_zero, List.set_cons_succ])
                  refine HT_take (i := 12) rfl (by kernel_rfl) (by decide) (by kernel_rfl) (by kernel_rfl) (fun _ _ _ h => h) (yieldsIf_of (.pointer (some ⟨B, 3, none⟩)) (by kernel_rfl) (fun w0 hS => by go_simp)) hB.out ?_
                  (try simp only [Act.put, List.setIfInBounds_toArray, List.set_cons_zero, List.set_cons_succ])
                  refine HT_take (i := 13) rfl (by kernel_rfl) (by decide) (by kernel_rfl) (by kernel_rfl) (fun _ _ _ h => h) (yieldsIf_of (.int .i64 width) (by kernel_rfl) (fun w' hS => by have hc := (blk_cell hS 3).trans (show (#[.int .u8 what, .int .u64 aoff, .int .u64 av, .int .i64 width] : Array Value)[3]? = some (.int .i64 width) from rfl); go_simp)) hB.out ?_
                  (try simp only [Act.put, List.setIfInBounds_toArray, List.set_cons_zero, List.set_cons_succ])
                  refine HT_take (i := 14) rfl (by kernel_rfl) (by decide) (by kernel_rfl) (by kernel_rfl) (fun _ _ _ h => h) (yieldsIf_of (.pointer (some ⟨B, 2, none⟩)) (by kernel_rfl) (fun w0 hS => by go_simp)) hB.out ?_
                  (try simp only [Act.put, List.setIfInBounds_toArray, List.set_cons_zero, List.set_cons_succ])
                  refine HT_take (i := 15) rfl (by kernel_rfl) (by decide) (by kernel_rfl) (by kernel_rfl) (fun _ _ _ h => h) (yieldsIf_of (.int .u64 av) (by kernel_rfl) (fun w' hS => by have hc := (blk_cell hS 2).trans (show (#[.int .u8 what, .int .u64 aoff, .int .u64 av, .int .i64 width] : Array Value)[2]? = some (.int .u64 av) from rfl); go_simp)) hB.out ?_
                  (try simp only [Act.put, List.setIfInBounds_toArray, List.set_cons_zero, List.set_cons_succ])
                  refine HT_take (i := 17) rfl (by kernel_rfl) (by decide) (by kernel_rfl) (by kernel_rfl) (fun _ _ _ h => h) (yieldsIf_of (.pointer (some ⟨h, 0, none⟩)) (by kernel_rfl) (fun w0 hS => by go_simp)) hB.out ?_
                  (try simp only [Act.put, List.setIfInBounds_toArray, List.set_cons_zero, List.set_cons_succ])
                  refine HT_take (i := 18) rfl (by kernel_rfl) (by decide) (by kernel_rfl) (by kernel_rfl) (fun _ _ _ h => h) (yieldsIf_of (.pointer (some ⟨B, 1, none⟩)) (by kernel_rfl) (fun w0 hS => by go_simp)) hB.out ?_
                  (try simp only [Act.put, List.setIfInBounds_toArray, List.set_cons_zero, List.set_cons_succ])
                  refine HT_take (i := 19) rfl (by kernel_rfl) (by decide) (by kernel_rfl) (by kernel_rfl) (fun _ _ _ h => h) (yieldsIf_of (.int .u64 aoff) (by kernel_rfl) (fun w' hS => by have hc := (blk_cell hS 1).trans (show (#[.int .u8 what, .int .u64 aoff, .int .u64 av, .int .i64 width] : Array Value)[1]? = some (.int .u64 aoff) from rfl); go_simp)) hB.out ?_
                  (try simp only [Act.put, List.setIfInBounds_toArray, List.set_cons_zero, List.set_cons_succ])
                  refine HT_take (i := 20) rfl (by kernel_rfl) (by decide) (by kernel_rfl) (by kernel_rfl) (fun _ _ _ h => h) (yieldsIf_of (.pointer (some ⟨B, 3, none⟩)) (by kernel_rfl) (fun w0 hS => by go_simp)) hB.out ?_
                  (try simp only [Act.put, List.setIfInBounds_toArray, List.set_cons_zero, List.set_cons_succ])
                  refine HT_take (i := 21) rfl (by kernel_rfl) (by decide) (by kernel_rfl) (by kernel_rfl) (fun _ _ _ h => h) (yieldsIf_of (.int .i64 width) (by kernel_rfl) (fun w' hS => by have hc := (blk_cell hS 3).trans (show (#[.int .u8 what, .int .u64 aoff, .int .u64 av, .int .i64 width] : Array Value)[3]? = some (.int .i64 width) from rfl); go_simp)) hB.out ?_
                  (try simp only [Act.put, List.setIfInBounds_toArray, List.set_cons_zero, List.set_cons_succ])
                  refine HT_take (i := 22) rfl (by kernel_rfl) (by decide) (by kernel_rfl) (by kernel_rfl) (fun _ _ _ h => h) (yieldsIf_of (.pointer (some ⟨B, 2, none⟩)) (by kernel_rfl) (fun w0 hS => by go_simp)) hB.out ?_
                  (try simp only [Act.put, List.setIfInBounds_toArray, List.set_cons_zero, List.set_cons_succ])
                  refine HT_take (i := 23) rfl (by kernel_rfl) (by decide) (by kernel_rfl) (by kernel_rfl) (fun _ _ _ h => h) (yieldsIf_of (.int .u64 av) (by kernel_rfl) (fun w' hS => by have hc := (blk_cell hS 2).trans (show (#[.int .u8 what, .int .u64 aoff, .int .u64 av, .int .i64 width] : Array Value)[2]? = some (.int .u64 av) from rfl); go_simp)) hB.out ?_
                  (try simp only [Act.put, List.setIfInBounds_toArray, List.set_cons_zero, List.set_cons_succ])
                  refine HT_one (i := 16) rfl (by decide) (by kernel_rfl) (fun K hK => ?_)
                  go_simp
                  go_at_call 12
                  refine (cWa.out _ hU.out).mono ?_
                  rintro e w4 ⟨rfl, hU1, hk1⟩
                  replace hU := hid hU1
                  replace hB := hid ((hk1 B (by simp)).trans hB.out)
                  clear hU1 hk1
                  go_simp
                  refine hK.out _ _ hB.out (fun _ => ?_)
                  clear hK K
                  refine HT_one (i := 24) rfl (by decide) (by kernel_rfl) (fun K hK => ?_)
                  go_simp
                  go_at_call 12
                  refine (cWb.out _ hU.out).mono ?_
                  rintro e w5 ⟨rfl, hU1, hk1⟩
                  replace hU := hid hU1
                  replace hB := hid ((hk1 B (by simp)).trans hB.out)
                  clear hU1 hk1
                  go_simp
                  refine hK.out _ _ hB.out (fun _ => ?_)
                  clear hK K
                  refine HT_take (i := 25) rfl (by kernel_rfl) (by decide) (by kernel_rfl) (by kernel_rfl) (fun _ _ _ h => h) (yieldsIf_of (.bool false) (by kernel_rfl) (fun w0 hS => by go_simp)) hB.out ?_
                  (try simp only [Act.put, List.setIfInBounds_toArray, List.set_cons_zero, List.set_cons_succ])
                  refine HT_take (i := 26) rfl (by kernel_rfl) (by decide) (by kernel_rfl) (by kernel_rfl) (fun _ _ _ h => h) (yieldsIf_of (.bool false) (by kernel_rfl) (fun w0 hS => by go_simp)) hB.out ?_
                  (try simp only [Act.put, List.setIfInBounds_toArray, List.set_cons_zero, List.set_cons_succ])
                  refine HT_take (i := 27) rfl (by kernel_rfl) (by decide) (by kernel_rfl) (by kernel_rfl) (fun _ _ _ h => h) (yieldsIf_of (.bool false) (by kernel_rfl) (fun w0 hS => by go_simp)) hB.out ?_
                  (try simp only [Act.put, List.setIfInBounds_toArray, List.set_cons_zero, List.set_cons_succ])
                  refine HT_take (i := 28) rfl (by kernel_rfl) (by decide) (by kernel_rfl) (by kernel_rfl) (fun _ _ _ h => h) (yieldsIf_of (.pointer (some ⟨B, 0, none⟩)) (by kernel_rfl) (fun w0 hS => by go_simp)) hB.out ?_
                  (try simp only [Act.put, List.setIfInBounds_toArray, List.set_cons_zero, List.set_cons_succ])
                  refine HT_take (i := 29) rfl (by kernel_rfl) (by decide) (by kernel_rfl) (by kernel_rfl) (fun _ _ _ h => h) (yieldsIf_of (.int .u8 what) (by kernel_rfl) (fun w' hS => by have hc := (blk_cell hS 0).trans (show (#[.int .u8 what, .int .u64 aoff, .int .u64 av, .int .i64 width] : Array Value)[0]? = some (.int .u8 what) from rfl); go_simp)) hB.out ?_
                  (try simp only [Act.put, List.setIfInBounds_toArray, List.set_cons_zero, List.set_cons_succ])
                  refine HT_take (i := 30) rfl (by kernel_rfl) (by decide) (by kernel_rfl) (by kernel_rfl) (fun _ _ _ h => h) (yieldsIf_of (.int .u8 0) (by kernel_rfl) (fun w0 hS => by go_simp; rw [Int.tmod_eq_emod_of_nonneg p1]; exact hev)) hB.out ?_
                  (try simp only [Act.put, List.setIfInBounds_toArray, List.set_cons_zero, List.set_cons_succ])
                  refine HT_take (i := 31) rfl (by kernel_rfl) (by decide) (by kernel_rfl) (by kernel_rfl) (fun _ _ _ h => h) (yieldsIf_of (.bool true) (by kernel_rfl) (fun w0 hS => by go_simp)) hB.out ?_
                  (try simp only [Act.put, List.setIfInBounds_toArray, List.set_cons_zero, List.set_cons_succ])
                  refine HT_take (i := 32) rfl (by kernel_rfl) (by decide) (by kernel_rfl) (by kernel_rfl) (fun _ _ _ h => h) (yieldsIf_of (.bool true) (by kernel_rfl) (fun w0 hS => by go_simp)) hB.out ?_
                  (try simp only [Act.put, List.setIfInBounds_toArray, List.set_cons_zero, List.set_cons_succ])
                  refine HT_take (i := 33) rfl (by kernel_rfl) (by decide) (by kernel_rfl) (by kernel_rfl) (fun _ _ _ h => h) (yieldsIf_of (.pointer (some ⟨g, 0, none⟩)) (by kernel_rfl) (fun w0 hS => by go_simp)) hB.out ?_
                  (try simp only [Act.put, List.setIfInBounds_toArray, List.set_cons_zero, List.set_cons_succ])
                  refine HT_take (i := 34) rfl (by kernel_rfl) (by decide) (by kernel_rfl) (by kernel_rfl) (fun _ _ _ h => h) (yieldsIf_of (.pointer (some ⟨B, 2, none⟩)) (by kernel_rfl) (fun w0 hS => by go_simp)) hB.out ?_
                  (try simp only [Act.put, List.setIfInBounds_toArray, List.set_cons_zero, List.set_cons_succ])
                  refine HT_take (i := 35) rfl (by kernel_rfl) (by decide) (by kernel_rfl) (by kernel_rfl) (fun _ _ _ h => h) (yieldsIf_of (.int .u64 av) (by kernel_rfl) (fun w' hS => by have hc := (blk_cell hS 2).trans (show (#[.int .u8 what, .int .u64 aoff, .int .u64 av, .int .i64 width] : Array Value)[2]? = some (.int .u64 av) from rfl); go_simp)) hB.out ?_
                  (try simp only [Act.put, List.setIfInBounds_toArray, List.set_cons_zero, List.set_cons_succ])
                  refine HT_take (i := 36) rfl (by kernel_rfl) (by decide) (by kernel_rfl) (by kernel_rfl) (fun _ _ _ h => h) (yieldsIf_of (.int .u8 bb) (by kernel_rfl) (fun w0 hS => by go_simp)) hB.out ?_
                  (try simp only [Act.put, List.setIfInBounds_toArray, List.set_cons_zero, List.set_cons_succ])
                  refine HT_take (i := 38) rfl (by kernel_rfl) (by decide) (by kernel_rfl) (by kernel_rfl) (fun _ _ _ h => h) (yieldsIf_of (.pointer (some ⟨h, 0, none⟩)) (by kernel_rfl) (fun w0 hS => by go_simp)) hB.out ?_
                  (try simp only [Act.put, List.setIfInBounds_toArray, List.set_cons_zero, List.set_cons_succ])
                  refine HT_take (i := 39) rfl (by kernel_rfl) (by decide) (by kernel_rfl) (by kernel_rfl) (fun _ _ _ h => h) (yieldsIf_of (.pointer (some ⟨B, 2, none⟩)) (by kernel_rfl) (fun w0 hS => by go_simp)) hB.out ?_
                  (try simp only [Act.put, List.setIfInBounds_toArray, List.set_cons_zero, List.set_cons_succ])
                  refine HT_take (i := 40) rfl (by kernel_rfl) (by decide) (by kernel_rfl) (by kernel_rfl) (fun _ _ _ h => h) (yieldsIf_of (.int .u64 av) (by kernel_rfl) (fun w' hS => by have hc := (blk_cell hS 2).trans (show (#[.int .u8 what, .int .u64 aoff, .int .u64 av, .int .i64 width] : Array Value)[2]? = some (.int .u64 av) from rfl); go_simp)) hB.out ?_
                  (try simp only [Act.put, List.setIfInBounds_toArray, List.set_cons_zero, List.set_cons_succ])
                  refine HT_take (i := 41) rfl (by kernel_rfl) (by decide) (by kernel_rfl) (by kernel_rfl) (fun _ _ _ h => h) (yieldsIf_of (.int .u8 bb) (by kernel_rfl) (fun w0 hS => by go_simp)) hB.out ?_
                  (try simp only [Act.put, List.setIfInBounds_toArray, List.set_cons_zero, List.set_cons_succ])
                  refine HT_one (i := 37) rfl (by decide) (by kernel_rfl) (fun K hK => ?_)
                  go_simp
                  go_at_call 13
                  refine (cIa.out _ hU.out).mono ?_
                  rintro e w6 ⟨rfl, hU1, hk1⟩
                  replace hU := hid hU1
                  replace hB := hid ((hk1 B (by simp)).trans hB.out)
                  clear hU1 hk1
                  go_simp
                  refine hK.out _ _ hB.out (fun _ => ?_)
                  clear hK K
                  refine HT_one (i := 42) rfl (by decide) (by kernel_rfl) (fun K hK => ?_)
                  go_simp
                  go_at_call 13
                  refine (cIb.out _ hU.out).mono ?_
                  rintro e w7 ⟨rfl, hU1, hk1⟩
                  replace hU := hid hU1
                  replace hB := hid ((hk1 B (by simp)).trans hB.out)
                  clear hU1 hk1
                  go_simp
                  refine hK.out _ _ hB.out (fun _ => ?_)
                  clear hK K
                  refine HT_take (i := 43) rfl (by kernel_rfl) (by decide) (by kernel_rfl) (by kernel_rfl) (fun _ _ _ h => h) (yieldsIf_of (.bool false) (by kernel_rfl) (fun w0 hS => by go_simp)) hB.out ?_
                  (try simp only [Act.put, List.setIfInBounds_toArray, List.set_cons_zero, List.set_cons_succ])
                  refine HT_take (i := 44) rfl (by kernel_rfl) (by decide) (by kernel_rfl) (by kernel_rfl) (fun _ _ _ h => h) (yieldsIf_of (.bool false) (by kernel_rfl) (fun w0 hS => by go_simp)) hB.out ?_
                  (try simp only [Act.put, List.setIfInBounds_toArray, List.set_cons_zero, List.set_cons_succ])
                  refine HT_take (i := 45) rfl (by kernel_rfl) (by decide) (by kernel_rfl) (by kernel_rfl) (fun _ _ _ h => h) (yieldsIf_of (.bool false) (by kernel_rfl) (fun w0 hS => by go_simp)) hB.out ?_
                  (try simp only [Act.put, List.setIfInBounds_toArray, List.set_cons_zero, List.set_cons_succ])
                  refine HT_take (i := 46) rfl (by kernel_rfl) (by decide) (by kernel_rfl) (by kernel_rfl) (fun _ _ _ h => h) (yieldsIf_of (.bool false) (by kernel_rfl) (fun w0 hS => by go_simp)) hB.out ?_
                  (try simp only [Act.put, List.setIfInBounds_toArray, List.set_cons_zero, List.set_cons_succ])
                  refine HT_take (i := 47) rfl (by kernel_rfl) (by decide) (by kernel_rfl) (by kernel_rfl) (fun _ _ _ h => h) (yieldsIf_of (.pointer (some ⟨g, 0, none⟩)) (by kernel_rfl) (fun w0 hS => by go_simp)) hB.out ?_
                  (try simp only [Act.put, List.setIfInBounds_toArray, List.set_cons_zero, List.set_cons_succ])
                  refine HT_take (i := 49) rfl (by kernel_rfl) (by decide) (by kernel_rfl) (by kernel_rfl) (fun _ _ _ h => h) (yieldsIf_of (.pointer (some ⟨h, 0, none⟩)) (by kernel_rfl) (fun w0 hS => by go_simp)) hB.out ?_
                  (try simp only [Act.put, List.setIfInBounds_toArray, List.set_cons_zero, List.set_cons_succ])
                  refine HT_one (i := 48) rfl (by decide) (by kernel_rfl) (fun K hK => ?_)
                  go_simp
                  go_at_call 17
                  refine (cDa.out _ hU.out).mono ?_
                  rintro e w8 ⟨rfl, hU1, hk1⟩
                  replace hU := hid hU1
                  replace hB := hid ((hk1 B (by simp)).trans hB.out)
                  clear hU1 hk1
                  go_simp
                  refine hK.out _ _ hB.out (fun _ => ?_)
                  clear hK K
                  refine HT_one (i := 50) rfl (by decide) (by kernel_rfl) (fun K hK => ?_)
                  go_simp
                  go_at_call 17
                  refine (cDb.out _ hU.out).mono ?_
                  rintro e w9 ⟨rfl, hU1, hk1⟩
                  replace hU := hid hU1
                  replace hB := hid ((hk1 B (by simp)).trans hB.out)
                  clear hU1 hk1
                  go_simp
                  refine hK.out _ _ hB.out (fun _ => ?_)
                  clear hK K
                  refine HT_take (i := 51) rfl (by kernel_rfl) (by decide) (by kernel_rfl) (by kernel_rfl) (fun _ _ _ h => h) (yieldsIf_of (.bool false) (by kernel_rfl) (fun w0 hS => by go_simp)) hB.out ?_
                  (try simp only [Act.put, List.setIfInBounds_toArray, List.set_cons_zero, List.set_cons_succ])
                  refine HT_take (i := 52) rfl (by kernel_rfl) (by decide) (by kernel_rfl) (by kernel_rfl) (fun _ _ _ h => h) (yieldsIf_of (.bool false) (by kernel_rfl) (fun w0 hS => by go_simp)) hB.out ?_
                  (try simp only [Act.put, List.setIfInBounds_toArray, List.set_cons_zero, List.set_cons_succ])
                  refine HT_take (i := 53) rfl (by kernel_rfl) (by decide) (by kernel_rfl) (by kernel_rfl) (fun _ _ _ h => h) (yieldsIf_of (.bool false) (by kernel_rfl) (fun w0 hS => by go_simp)) hB.out ?_
                  (try simp only [Act.put, List.setIfInBounds_toArray, List.set_cons_zero, List.set_cons_succ])
                  refine HT_take (i := 54) rfl (by kernel_rfl) (by decide) (by kernel_rfl) (by kernel_rfl) (fun _ _ _ h => h) (yieldsIf_of (.pointer (some ⟨g, 0, none⟩)) (by kernel_rfl) (fun w0 hS => by go_simp)) hB.out ?_
                  (try simp only [Act.put, List.setIfInBounds_toArray, List.set_cons_zero, List.set_cons_succ])
                  refine HT_take (i := 56) rfl (by kernel_rfl) (by decide) (by kernel_rfl) (by kernel_rfl) (fun _ _ _ h => h) (yieldsIf_of (.pointer (some ⟨h, 0, none⟩)) (by kernel_rfl) (fun w0 hS => by go_simp)) hB.out ?_
                  (try simp only [Act.put, List.setIfInBounds_toArray, List.set_cons_zero, List.set_cons_succ])
                  refine HT_one (i := 55) rfl (by decide) (by kernel_rfl) (fun K hK => ?_)
                  go_simp
                  go_at_call 18
                  refine (cLa.out _ hU.out).mono ?_
                  rintro e w10 ⟨rfl, hU1, hk1⟩
                  replace hU := hid hU1
                  replace hB := hid ((hk1 B (by simp)).trans hB.out)
                  clear hU1 hk1
                  go_simp
                  refine hK.out _ _ hB.out (fun _ => ?_)
                  clear hK K
                  refine HT_one (i := 57) rfl (by decide) (by kernel_rfl) (fun K hK => ?_)
                  go_simp
                  go_at_call 18
                  refine (cLb.out _ hU.out).mono ?_
                  rintro e w11 ⟨rfl, hU1, hk1⟩
                  replace hU := hid hU1
                  replace hB := hid ((hk1 B (by simp)).trans hB.out)
                  clear hU1 hk1
                  go_simp
                  refine hK.out _ _ hB.out (fun _ => ?_)
                  clear hK K
                  refine HT_take (i := 58) rfl (by kernel_rfl) (by decide) (by kernel_rfl) (by kernel_rfl) (fun _ _ _ h => h) (yieldsIf_of (.bool false) (by kernel_rfl) (fun w0 hS => by go_simp)) hB.out ?_
                  (try simp only [Act.put, List.setIfInBounds_toArray, List.set_cons_zero, List.set_cons_succ])
                  refine HT_done (by kernel_rfl) ?_
                  simp only [List.drop_succ_cons, List.drop_zero]
                  clear qv qo qw qi qd ql hB
                  go_wp2
                  go_roundw
                  case rel => exact ⟨k + 1, x5, by omega, by go_num, hG4, hid hU.out.free⟩
                  case measure => simp [intOf]; omega
                · have hev : what % 2 = 1 := by omega
                  have hok4 := hok3
                  have qi : True := trivial
                  have cDa := hid fun (w1 : World) (H : Two w w1 [B] g h x4 x4) => tw_Dump0 H hok4
                  have cDb := hid fun (w1 : World) (H : Two w w1 [B] g h x4 x4) => tw_Dump1 H hok4
                  have cLa := hid fun (w1 : World) (H : Two w w1 [B] g h x4 x4) => tw_Level0 H hok4
                  have cLb := hid fun (w1 : World) (H : Two w w1 [B] g h x4 x4) => tw_Level1 H hok4
                  generalize strOfNums x4.Dump = sd at *
                  generalize x4.Level = lv at *
                  have qd : (sd.toList == sd.toList) = true := beq_self_eq_true _
                  have ql : (lv != lv) = false := bne_self_eq_false ..
                  have hG4 : Hid (x4.OK ∧ x4.sent.length ≤ k + 1) := ⟨hok4, by omega⟩
                  clear hok hok2 hok3 hok4 hs1 hs2 hs3 hbb
                  refine wp_region_HT (S := fun w' => w'.heap[B]? = some (.cells #[.int .u8 what, .int .u64 aoff, .int .u64 av, .int .i64 width] 28)) 59 (by kernel_rfl) (by kernel_rfl) hB.out (fun _ => ?_)
                  refine HT_take (i := 0) rfl (by kernel_rfl) (by decide) (by kernel_rfl) (by kernel_rfl) (fun _ _ _ h => h) (yieldsIf_of (.int .u64 v) (by kernel_rfl) (fun w0 hS => by go_simp)) hB.out ?_
                  (try simp only [Act.put, List.setIfInBounds_toArray, List.set_cons_zero, List.set_cons_succ])
                  refine HT_take (i := 1) rfl (by kernel_rfl) (by decide) (by kernel_rfl) (by kernel_rfl) (fun _ _ _ h => h) (yieldsIf_of (.int .u64 v) (by kernel_rfl) (fun w0 hS => by go_simp)) hB.out ?_
                  (try simp only [Act.put, List.setIfInBounds_toArray, List.set_cons_zero, List.set_cons_succ])
                  refine HT_take (i := 2) rfl (by kernel_rfl) (by decide) (by kernel_rfl) (by kernel_rfl) (fun _ _ _ h => h) (yieldsIf_of (.bool false) (by kernel_rfl) (fun w0 hS => by go_simp)) hB.out ?_
                  (try simp only [Act.put, List.setIfInBounds_toArray, List.set_cons_zero, List.set_cons_succ])
                  refine HT_take (i := 3) rfl (by kernel_rfl) (by decide) (by kernel_rfl) (by kernel_rfl) (fun _ _ _ h => h) (yieldsIf_of (.bool false) (by kernel_rfl) (fun w0 hS => by go_simp)) hB.out ?_
                  (try simp only [Act.put, List.setIfInBounds_toArray, List.set_cons_zero, List.set_cons_succ])
                  refine HT_take (i := 4) rfl (by kernel_rfl) (by decide) (by kernel_rfl) (by kernel_rfl) (fun _ _ _ h => h) (yieldsIf_of (.bool ok) (by kernel_rfl) (fun w0 hS => by go_simp)) hB.out ?_
                  (try simp only [Act.put, List.setIfInBounds_toArray, List.set_cons_zero, List.set_cons_succ])
                  refine HT_take (i := 5) rfl (by kernel_rfl) (by decide) (by kernel_rfl) (by kernel_rfl) (fun _ _ _ h => h) (yieldsIf_of (.bool ok) (by kernel_rfl) (fun w0 hS => by go_simp)) hB.out ?_
                  (try simp only [Act.put, List.setIfInBounds_toArray, List.set_cons_zero, List.set_cons_succ])
                  refine HT_take (i := 6) rfl (by kernel_rfl) (by decide) (by kernel_rfl) (by kernel_rfl) (fun _ _ _ h => h) (yieldsIf_of (.bool false) (by kernel_rfl) (fun w0 hS => by go_simp)) hB.out ?_
                  (try simp only [Act.put, List.setIfInBounds_toArray, List.set_cons_zero, List.set_cons_succ])
                  refine HT_take (i := 7) rfl (by kernel_rfl) (by decide) (by kernel_rfl) (by kernel_rfl) (fun _ _ _ h => h) (yieldsIf_of (.bool false) (by kernel_rfl) (fun w0 hS => by go_simp)) hB.out ?_
                  (try simp only [Act.put, List.setIfInBounds_toArray, List.set_cons_zero, List.set_cons_succ])
                  refine HT_take (i := 8) rfl (by kernel_rfl) (by decide) (by kernel_rfl) (by kernel_rfl) (fun _ _ _ h => h) (yieldsIf_of (.bool false) (by kernel_rfl) (fun w0 hS => by go_simp)) hB.out ?_
                  (try simp only [Act.put, List.setIfInBounds_toArray, List.set_cons_zero, List.set_cons_succ])
                  refine HT_take (i := 9) rfl (by kernel_rfl) (by decide) (by kernel_rfl) (by kernel_rfl) (fun _ _ _ h => h) (yieldsIf_of (.pointer (some ⟨g, 0, none⟩)) (by kernel_rfl) (fun w0 hS => by go_simp)) hB.out ?_
                  (try simp only [Act.put, List.setIfInBounds_toArray, List.set_cons_zero, List.set_cons_succ])
                  refine HT_take (i := 10) rfl (by kernel_rfl) (by decide) (by kernel_rfl) (by kernel_rfl) (fun _ _ _ h => h) (yieldsIf_of (.pointer (some ⟨B, 1, none⟩)) (by kernel_rfl) (fun w0 hS => by go_simp)) hB.out ?_
                  (try simp only [Act.put, List.setIfInBounds_toArray, List.set_cons_zero, List.set_cons_succ])
                  refine HT_take (i := 11) rfl (by kernel_rfl) (by decide) (by kernel_rfl) (by kernel_rfl) (fun _ _ _ h => h) (yieldsIf_of (.int .u64 aoff) (by kernel_rfl) (fun w' hS => by have hc := (blk_cell hS 1).trans (show (#[.int .u8 what, .int .u64 aoff, .int .u64 av, .int .i64 width] : Array Value)[1]? = some (.int .u64 aoff) from rfl); go_simp)) hB.out ?_
                  (try simp only [Act.put, List.setIfInBounds_toArray, List.set_cons_zero, List.set_cons_succ])
                  refine HT_take (i := 12) rfl (by kernel_rfl) (by decide) (by kernel_rfl) (by kernel_rfl) (fun _ _ _ h => h) (yieldsIf_of (.pointer (some ⟨B, 3, none⟩)) (by kernel_rfl) (fun w0 hS => by go_simp)) hB.out ?_
                  (try simp only [Act.put, List.setIfInBounds_toArray, List.set_cons_zero, List.set_cons_succ])
                  refine HT_take (i := 13) rfl (by kernel_rfl) (by decide) (by kernel_rfl) (by kernel_rfl) (fun _ _ _ h => h) (yieldsIf_of (.int .i64 width) (by kernel_rfl) (fun w' hS => by have hc := (blk_cell hS 3).trans (show (#[.int .u8 what, .int .u64 aoff, .int .u64 av, .int .i64 width] : Array Value)[3]? = some (.int .i64 width) from rfl); go_simp)) hB.out ?_
                  (try simp only [Act.put, List.setIfInBounds_toArray, List.set_cons_zero, List.set_cons_succ])
                  refine HT_take (i := 14) rfl (by kernel_rfl) (by decide) (by kernel_rfl) (by kernel_rfl) (fun _ _ _ h => h) (yieldsIf_of (.pointer (some ⟨B, 2, none⟩)) (by kernel_rfl) (fun w0 hS => by go_simp)) hB.out ?_
                  (try simp only [Act.put, List.setIfInBounds_toArray, List.set_cons_zero, List.set_cons_succ])
                  refine HT_take (i := 15) rfl (by kernel_rfl) (by decide) (by kernel_rfl) (by kernel_rfl) (fun _ _ _ h => h) (yieldsIf_of (.int .u64 av) (by kernel_rfl) (fun w' hS => by have hc := (blk_cell hS 2).trans (show (#[.int .u8 what, .int .u64 aoff, .int .u64 av, .int .i64 width] : Array Value)[2]? = some (.int .u64 av) from rfl); go_simp)) hB.out ?_
                  (try simp only [Act.put, List.setIfInBounds_toArray, List.set_cons_zero, List.set_cons_succ])
                  refine HT_take (i := 17) rfl (by kernel_rfl) (by decide) (by kernel_rfl) (by kernel_rfl) (fun _ _ _ h => h) (yieldsIf_of (.pointer (some ⟨h, 0, none⟩)) (by kernel_rfl) (fun w0 hS => by go_simp)) hB.out ?_
                  (try simp only [Act.put, List.setIfInBounds_toArray, List.set_cons_zero, List.set_cons_succ])
                  refine HT_take (i := 18) rfl (by kernel_rfl) (by decide) (by kernel_rfl) (by kernel_rfl) (fun _ _ _ h => h) (yieldsIf_of (.pointer (some ⟨B, 1, none⟩)) (by kernel_rfl) (fun w0 hS => by go_simp)) hB.out ?_
                  (try simp only [Act.put, List.setIfInBounds_toArray, List.set_cons_zero, List.set_cons_succ])
                  refine HT_take (i := 19) rfl (by kernel_rfl) (by decide) (by kernel_rfl) (by kernel_rfl) (fun _ _ _ h => h) (yieldsIf_of (.int .u64 aoff) (by kernel_rfl) (fun w' hS => by have hc := (blk_cell hS 1).trans (show (#[.int .u8 what, .int .u64 aoff, .int .u64 av, .int .i64 width] : Array Value)[1]? = some (.int .u64 aoff) from rfl); go_simp)) hB.out ?_
                  (try simp only [Act.put, List.setIfInBounds_toArray, List.set_cons_zero, List.set_cons_succ])
                  refine HT_take (i := 20) rfl (by kernel_rfl) (by decide) (by kernel_rfl) (by kernel_rfl) (fun _ _ _ h => h) (yieldsIf_of (.pointer (some ⟨B, 3, none⟩)) (by kernel_rfl) (fun w0 hS => by go_simp)) hB.out ?_
                  (try simp only [Act.put, List.setIfInBounds_toArray, List.set_cons_zero, List.set_cons_succ])
                  refine HT_take (i := 21) rfl (by kernel_rfl) (by decide) (by kernel_rfl) (by kernel_rfl) (fun _ _ _ h => h) (yieldsIf_of (.int .i64 width) (by kernel_rfl) (fun w' hS => by have hc := (blk_cell hS 3).trans (show (#[.int .u8 what, .int .u64 aoff, .int .u64 av, .int .i64 width] : Array Value)[3]? = some (.int .i64 width) from rfl); go_simp)) hB.out ?_
                  (try simp only [Act.put, List.setIfInBounds_toArray, List.set_cons_zero, List.set_cons_succ])
                  refine HT_take (i := 22) rfl (by kernel_rfl) (by decide) (by kernel_rfl) (by kernel_rfl) (fun _ _ _ h => h) (yieldsIf_of (.pointer (some ⟨B, 2, none⟩)) (by kernel_rfl) (fun w0 hS => by go_simp)) hB.out ?_
                  (try simp only [Act.put, List.setIfInBounds_toArray, List.set_cons_zero, List.set_cons_succ])
                  refine HT_take (i := 23) rfl (by kernel_rfl) (by decide) (by kernel_rfl) (by kernel_rfl) (fun _ _ _ h => h) (yieldsIf_of (.int .u64 av) (by kernel_rfl) (fun w' hS => by have hc := (blk_cell hS 2).trans (show (#[.int .u8 what, .int .u64 aoff, .int .u64 av, .int .i64 width] : Array Value)[2]? = some (.int .u64 av) from rfl); go_simp)) hB.out ?_
                  (try simp only [Act.put, List.setIfInBounds_toArray, List.set_cons_zero, List.set_cons_succ])
                  refine HT_one (i := 16) rfl (by decide) (by kernel_rfl) (fun K hK => ?_)
                  go_simp
                  go_at_call 12
                  refine (cWa.out _ hU.out).mono ?_
                  rintro e w4 ⟨rfl, hU1, hk1⟩
                  replace hU := hid hU1
                  replace hB := hid ((hk1 B (by simp)).trans hB.out)
                  clear hU1 hk1
                  go_simp
                  refine hK.out _ _ hB.out (fun _ => ?_)
                  clear hK K
                  refine HT_one (i := 24) rfl (by decide) (by kernel_rfl) (fun K hK => ?_)
                  go_simp
                  go_at_call 12
                  refine (cWb.out _ hU.out).mono ?_
                  rintro e w5 ⟨rfl, hU1, hk1⟩
                  replace hU := hid hU1
                  replace hB := hid ((hk1 B (by simp)).trans hB.out)
                  clear hU1 hk1
                  go_simp
                  refine hK.out _ _ hB.out (fun _ => ?_)
                  clear hK K
                  refine HT_take (i := 25) rfl (by kernel_rfl) (by decide) (by kernel_rfl) (by kernel_rfl) (fun _ _ _ h => h) (yieldsIf_of (.bool false) (by kernel_rfl) (fun w0 hS => by go_simp)) hB.out ?_
                  (try simp only [Act.put, List.setIfInBounds_toArray, List.set_cons_zero, List.set_cons_succ])
                  refine HT_take (i := 26) rfl (by kernel_rfl) (by decide) (by kernel_rfl) (by kernel_rfl) (fun _ _ _ h => h) (yieldsIf_of (.bool false) (by kernel_rfl) (fun w0 hS => by go_simp)) hB.out ?_
                  (try simp only [Act.put, List.setIfInBounds_toArray, List.set_cons_zero, List.set_cons_succ])
                  refine HT_take (i := 27) rfl (by kernel_rfl) (by decide) (by kernel_rfl) (by kernel_rfl) (fun _ _ _ h => h) (yieldsIf_of (.bool false) (by kernel_rfl) (fun w0 hS => by go_simp)) hB.out ?_
                  (try simp only [Act.put, List.setIfInBounds_toArray, List.set_cons_zero, List.set_cons_succ])
                  refine HT_take (i := 28) rfl (by kernel_rfl) (by decide) (by kernel_rfl) (by kernel_rfl) (fun _ _ _ h => h) (yieldsIf_of (.pointer (some ⟨B, 0, none⟩)) (by kernel_rfl) (fun w0 hS => by go_simp)) hB.out ?_
                  (try simp only [Act.put, List.setIfInBounds_toArray, List.set_cons_zero, List.set_cons_succ])
                  refine HT_take (i := 29) rfl (by kernel_rfl) (by decide) (by kernel_rfl) (by kernel_rfl) (fun _ _ _ h => h) (yieldsIf_of (.int .u8 what) (by kernel_rfl) (fun w' hS => by have hc := (blk_cell hS 0).trans (show (#[.int .u8 what, .int .u64 aoff, .int .u64 av, .int .i64 width] : Array Value)[0]? = some (.int .u8 what) from rfl); go_simp)) hB.out ?_
                  (try simp only [Act.put, List.setIfInBounds_toArray, List.set_cons_zero, List.set_cons_succ])
                  refine HT_take (i := 30) rfl (by kernel_rfl) (by decide) (by kernel_rfl) (by kernel_rfl) (fun _ _ _ h => h) (yieldsIf_of (.int .u8 1) (by kernel_rfl) (fun w0 hS => by go_simp; rw [Int.tmod_eq_emod_of_nonneg p1]; exact hev)) hB.out ?_
                  (try simp only [Act.put, List.setIfInBounds_toArray, List.set_cons_zero, List.set_cons_succ])
                  refine HT_take (i := 31) rfl (by kernel_rfl) (by decide) (by kernel_rfl) (by kernel_rfl) (fun _ _ _ h => h) (yieldsIf_of (.bool false) (by kernel_rfl) (fun w0 hS => by go_simp)) hB.out ?_
                  (try simp only [Act.put, List.setIfInBounds_toArray, List.set_cons_zero, List.set_cons_succ])
                  refine HT_take (i := 32) rfl (by kernel_rfl) (by decide) (by kernel_rfl) (by kernel_rfl) (fun _ _ _ h => h) (yieldsIf_of (.bool false) (by kernel_rfl) (fun w0 hS => by go_simp)) hB.out ?_
                  (try simp only [Act.put, List.setIfInBounds_toArray, List.set_cons_zero, List.set_cons_succ])
                  refine HT_take (i := 33) rfl (by kernel_rfl) (by decide) (by kernel_rfl) (by kernel_rfl) (fun _ _ _ h => h) (.inr ⟨by kernel_rfl, rfl⟩) hB.out ?_
                  (try simp only [Act.put, List.setIfInBounds_toArray, List.set_cons_zero, List.set_cons_succ])
                  refine HT_take (i := 34) rfl (by kernel_rfl) (by decide) (by kernel_rfl) (by kernel_rfl) (fun _ _ _ h => h) (.inr ⟨by kernel_rfl, rfl⟩) hB.out ?_
                  (try simp only [Act.put, List.setIfInBounds_toArray, List.set_cons_zero, List.set_cons_succ])
                  refine HT_take (i := 35) rfl (by kernel_rfl) (by decide) (by kernel_rfl) (by kernel_rfl) (fun _ _ _ h => h) (.inr ⟨by kernel_rfl, rfl⟩) hB.out ?_
                  (try simp only [Act.put, List.setIfInBounds_toArray, List.set_cons_zero, List.set_cons_succ])
                  refine HT_take (i := 36) rfl (by kernel_rfl) (by decide) (by kernel_rfl) (by kernel_rfl) (fun _ _ _ h => h) (.inr ⟨by kernel_rfl, rfl⟩) hB.out ?_
                  (try simp only [Act.put, List.setIfInBounds_toArray, List.set_cons_zero, List.set_cons_succ])
                  refine HT_take (i := 37) rfl (by kernel_rfl) (by decide) (by kernel_rfl) (by kernel_rfl) (fun _ _ _ h => h) (.inr ⟨by kernel_rfl, rfl⟩) hB.out ?_
                  (try simp only [Act.put, List.setIfInBounds_toArray, List.set_cons_zero, List.set_cons_succ])
                  refine HT_take (i := 38) rfl (by kernel_rfl) (by decide) (by kernel_rfl) (by kernel_rfl) (fun _ _ _ h => h) (.inr ⟨by kernel_rfl, rfl⟩) hB.out ?_
                  (try simp only [Act.put, List.setIfInBounds_toArray, List.set_cons_zero, List.set_cons_succ])
                  refine HT_take (i := 39) rfl (by kernel_rfl) (by decide) (by kernel_rfl) (by kernel_rfl) (fun _ _ _ h => h) (.inr ⟨by kernel_rfl, rfl⟩) hB.out ?_
                  (try simp only [Act.put, List.setIfInBounds_toArray, List.set_cons_zero, List.set_cons_succ])
                  refine HT_take (i := 40) rfl (by kernel_rfl) (by decide) (by kernel_rfl) (by kernel_rfl) (fun _ _ _ h => h) (.inr ⟨by kernel_rfl, rfl⟩) hB.out ?_
                  (try simp only [Act.put, List.setIfInBounds_toArray, List.set_cons_zero, List.set_cons_succ])
                  refine HT_take (i := 41) rfl (by kernel_rfl) (by decide) (by kernel_rfl) (by kernel_rfl) (fun _ _ _ h => h) (.inr ⟨by kernel_rfl, rfl⟩) hB.out ?_
                  (try simp only [Act.put, List.setIfInBounds_toArray, List.set_cons_zero, List.set_cons_succ])
                  refine HT_take (i := 42) rfl (by kernel_rfl) (by decide) (by kernel_rfl) (by kernel_rfl) (fun _ _ _ h => h) (.inr ⟨by kernel_rfl, rfl⟩) hB.out ?_
                  (try simp only [Act.put, List.setIfInBounds_toArray, List.set_cons_zero, List.set_cons_succ])
                  refine HT_take (i := 43) rfl (by kernel_rfl) (by decide) (by kernel_rfl) (by kernel_rfl) (fun _ _ _ h => h) (.inr ⟨by kernel_rfl, rfl⟩) hB.out ?_
                  (try simp only [Act.put, List.setIfInBounds_toArray, List.set_cons_zero, List.set_cons_succ])
                  refine HT_take (i := 44) rfl (by kernel_rfl) (by decide) (by kernel_rfl) (by kernel_rfl) (fun _ _ _ h => h) (yieldsIf_of (.bool false) (by kernel_rfl) (fun w0 hS => by go_simp)) hB.out ?_
                  (try simp only [Act.put, List.setIfInBounds_toArray, List.set_cons_zero, List.set_cons_succ])
                  refine HT_take (i := 45) rfl (by kernel_rfl) (by decide) (by kernel_rfl) (by kernel_rfl) (fun _ _ _ h => h) (yieldsIf_of (.bool false) (by kernel_rfl) (fun w0 hS => by go_simp)) hB.out ?_
                  (try simp only [Act.put, List.setIfInBounds_toArray, List.set_cons_zero, List.set_cons_succ])
                  refine HT_take (i := 46) rfl (by kernel_rfl) (by decide) (by kernel_rfl) (by kernel_rfl) (fun _ _ _ h => h) (yieldsIf_of (.bool false) (by kernel_rfl) (fun w0 hS => by go_simp)) hB.out ?_
                  (try simp only [Act.put, List.setIfInBounds_toArray, List.set_cons_zero, List.set_cons_succ])
                  refine HT_take (i := 47) rfl (by kernel_rfl) (by decide) (by kernel_rfl) (by kernel_rfl) (fun _ _ _ h => h) (yieldsIf_of (.pointer (some ⟨g, 0, none⟩)) (by kernel_rfl) (fun w0 hS => by go_simp)) hB.out ?_
                  (try simp only [Act.put, List.setIfInBounds_toArray, List.set_cons_zero, List.set_cons_succ])
                  refine HT_take (i := 49) rfl (by kernel_rfl) (by decide) (by kernel_rfl) (by kernel_rfl) (fun _ _ _ h => h) (yieldsIf_of (.pointer (some ⟨h, 0, none⟩)) (by kernel_rfl) (fun w0 hS => by go_simp)) hB.out ?_
                  (try simp only [Act.put, List.setIfInBounds_toArray, List.set_cons_zero, List.set_cons_succ])
                  refine HT_one (i := 48) rfl (by decide) (by kernel_rfl) (fun K hK => ?_)
                  go_simp
                  go_at_call 17
                  refine (cDa.out _ hU.out).mono ?_
                  rintro e w8 ⟨rfl, hU1, hk1⟩
                  replace hU := hid hU1
                  replace hB := hid ((hk1 B (by simp)).trans hB.out)
                  clear hU1 hk1
                  go_simp
                  refine hK.out _ _ hB.out (fun _ => ?_)
                  clear hK K
                  refine HT_one (i := 50) rfl (by decide) (by kernel_rfl) (fun K hK => ?_)
                  go_simp
                  go_at_call 17
                  refine (cDb.out _ hU.out).mono ?_
                  rintro e w9 ⟨rfl, hU1, hk1⟩
                  replace hU := hid hU1
                  replace hB := hid ((hk1 B (by simp)).trans hB.out)
                  clear hU1 hk1
                  go_simp
                  refine hK.out _ _ hB.out (fun _ => ?_)
                  clear hK K
                  refine HT_take (i := 51) rfl (by kernel_rfl) (by decide) (by kernel_rfl) (by kernel_rfl) (fun _ _ _ h => h) (yieldsIf_of (.bool false) (by kernel_rfl) (fun w0 hS => by go_simp)) hB.out ?_
                  (try simp only [Act.put, List.setIfInBounds_toArray, List.set_cons_zero, List.set_cons_succ])
                  refine HT_take (i := 52) rfl (by kernel_rfl) (by decide) (by kernel_rfl) (by kernel_rfl) (fun _ _ _ h => h) (yieldsIf_of (.bool false) (by kernel_rfl) (fun w0 hS => by go_simp)) hB.out ?_
                  (try simp only [Act.put, List.setIfInBounds_toArray, List.set_cons_zero, List.set_cons_succ])
                  refine HT_take (i := 53) rfl (by kernel_rfl) (by decide) (by kernel_rfl) (by kernel_rfl) (fun _ _ _ h => h) (yieldsIf_of (.bool false) (by kernel_rfl) (fun w0 hS => by go_simp)) hB.out ?_
                  (try simp only [Act.put, List.setIfInBounds_toArray, List.set_cons_zero, List.set_cons_succ])
                  refine HT_take (i := 54) rfl (by kernel_rfl) (by decide) (by kernel_rfl) (by kernel_rfl) (fun _ _ _ h => h) (yieldsIf_of (.pointer (some ⟨g, 0, none⟩)) (by kernel_rfl) (fun w0 hS => by go_simp)) hB.out ?_
                  (try simp only [Act.put, List.setIfInBounds_toArray, List.set_cons_zero, List.set_cons_succ])
                  refine HT_take (i := 56) rfl (by kernel_rfl) (by decide) (by kernel_rfl) (by kernel_rfl) (fun _ _ _ h => h) (yieldsIf_of (.pointer (some ⟨h, 0, none⟩)) (by kernel_rfl) (fun w0 hS => by go_simp)) hB.out ?_
                  (try simp only [Act.put, List.setIfInBounds_toArray, List.set_cons_zero, List.set_cons_succ])
                  refine HT_one (i := 55) rfl (by decide) (by kernel_rfl) (fun K hK => ?_)
                  go_simp
                  go_at_call 18
                  refine (cLa.out _ hU.out).mono ?_
                  rintro e w10 ⟨rfl, hU1, hk1⟩
                  replace hU := hid hU1
                  replace hB := hid ((hk1 B (by simp)).trans hB.out)
                  clear hU1 hk1
                  go_simp
                  refine hK.out _ _ hB.out (fun _ => ?_)
                  clear hK K
                  refine HT_one (i := 57) rfl (by decide) (by kernel_rfl) (fun K hK => ?_)
                  go_simp
                  go_at_call 18
                  refine (cLb.out _ hU.out).mono ?_
                  rintro e w11 ⟨rfl, hU1, hk1⟩
                  replace hU := hid hU1
                  replace hB := hid ((hk1 B (by simp)).trans hB.out)
                  clear hU1 hk1
                  go_simp
                  refine hK.out _ _ hB.out (fun _ => ?_)
                  clear hK K
                  refine HT_take (i := 58) rfl (by kernel_rfl) (by decide) (by kernel_rfl) (by kernel_rfl) (fun _ _ _ h => h) (yieldsIf_of (.bool false) (by kernel_rfl) (fun w0 hS => by go_simp)) hB.out ?_
                  (try simp only [Act.put, List.setIfInBounds_toArray, List.set_cons_zero, List.set_cons_succ])
                  refine HT_done (by kernel_rfl) ?_
                  simp only [List.drop_succ_cons, List.drop_zero]
                  clear qv qo qw qi qd ql hB
                  go_wp2
                  go_roundw
                  case rel => exact ⟨k + 1, x4, by omega, by go_num, hG4, hid hU.out.free⟩
                  case measure => simp [intOf]; omega
              · obtain rfl : k = lenm := by omega
                have hx := hG.out.1
                have c1 := hid fun (w1 : World) (H : Two w w1 [] g h x x) => tw_Take0 H hx
                have c2 := hid fun (w1 : World) (H : Two w w1 [] g h x.Take.2 x) => tw_Take1 H hx
                have et : x.Take.1 = x.sent := rfl
                rw [et] at c1 c2
                generalize strOfNums x.sent = ss at *
                have q3 : (ss.toList == ss.toList) = true := beq_self_eq_true _
                go_wp2_with (first | (go_at_call 14; (with_reducible refine (c1.out _ hU.out).mono ?_); rintro e w2 ⟨rfl, hU1, -⟩; replace hU := hid hU1; clear hU1) | (go_at_call 14; (with_reducible refine (c2.out _ hU.out).mono ?_); rintro e w2 ⟨rfl, hU1, -⟩; replace hU := hid hU1; clear hU1) | (go_at_call 8; (with_reducible refine (awake_any _).mono ?_); rintro e w6 ⟨rfl, hd⟩; replace hU := hid (hU.out.grow hd)))
                go_ret
                exact ⟨rfl, hU.out.fr⟩
          · have q3 := str_ne hd
            clear hd e1 e2
            generalize strOfNums u2.Dump = sd at *
            generalize strOfNums v2.Dump = se at *
            go_wp2_with (first | (go_at_call 14; (with_reducible refine (c1.out _ hU.out).mono ?_); rintro e w2 ⟨rfl, hU1, -⟩; replace hU := hid hU1; clear hU1) | (go_at_call 14; (with_reducible refine (c2.out _ hU.out).mono ?_); rintro e w2 ⟨rfl, hU1, -⟩; replace hU := hid hU1; clear hU1) | (go_at_call 17; (with_reducible refine (c3.out _ hU.out).mono ?_); rintro e w2 ⟨rfl, hU1, -⟩; replace hU := hid hU1; clear hU1) | (go_at_call 17; (with_reducible refine (c4.out _ hU.out).mono ?_); rintro e w2 ⟨rfl, hU1, -⟩; replace hU := hid hU1; clear hU1) | (go_at_call 8; (with_reducible refine (awake_any _).mono ?_); rintro e w6 ⟨rfl, hd⟩; replace hU := hid (hU.out.grow hd)))
            go_ret
            exact ⟨rfl, hU.out.fr⟩

end Go.Proofs.Ytobaniebnejjiaa.U
namespace Go.Proofs.Ytobaniebnejjiaa
open U Go.RowKit
theorem walk_UartSame (a0 : Option Addr) (len0 cap0 : Nat) (c0 : Nat → Nat → Value) (a1 : Option Addr) (len1 cap1 : Nat) (c1 : Nat → Nat → Value) (a2 : Option Addr) (len2 cap2 : Nat) (c2 : Nat → Nat → Value) (w : World) (w0 : SliceIn w [.num .u8, .num .u64, .num .u64, .num .i64] a0 len0 c0) (w1 : SliceIn w [.num .u8, .num .u64, .num .u64, .num .i64] a1 len1 c1) (w2 : SliceIn w [.num .u8, .num .u64, .num .u64, .num .i64] a2 len2 c2) : Calls Try.prog 4 #[.slice a0 len0 cap0, .slice a1 len1 cap1, .slice a2 len2 cap2] w fun e w' => e = .returned (.bool true) ∧ Below w.heap.size w w' := by
  obtain ⟨L, hl, hL⟩ := acts_of w0
  obtain ⟨L2, hl2, hL2⟩ := acts_of w1
  obtain ⟨M, hm, hM⟩ := acts_of w2
  have key : Calls Try.prog 4 #[.slice a0 len0 cap0, .slice a1 len1 cap1, .slice a2 len2 cap2] w fun e w' => e = .returned (.bool true) ∧ Fr [] w w' := by
    by_cases h : len0 ≤ 60 ∧ len1 ≤ 60 ∧ len2 ≤ 60
    · exact same_main a0 a1 a2 cap0 cap1 cap2 L L2 M len0 len1 len2 hl hl2 hm w h.1 h.2.1 h.2.2 hL hL2 hM
    · exact same_long a0 a1 a2 len0 len1 len2 cap0 cap1 cap2 w (by omega)
  exact key.mono fun _ _ ⟨h1, h2⟩ => ⟨h1, h2.below (Nat.le_refl _) (by simp)⟩
end Go.Proofs.Ytobaniebnejjiaa
