/- What an access of 1 bytes is of: the registers gone through. -/
import Derived.Test.YtefhcadlakakbaaA
import Derived.Test.YtefhcadlakakbaaB
import Derived.Test.YtefhcadlakakbaaTailIn
import Derived.Test.YtefhcadlakakbaaWhole
import Derived.BigQuiet
namespace Go.Proofs.Ytefhcadlakakbaa
open Go.RowKit Go.Shelf
set_option linter.all false
attribute [local go_sem] Oper.semAt_some
set_option maxRecDepth 100000 in
set_option maxHeartbeats 4000000 in
theorem at_1 (F : Fence) (n : Nat) (h3 : F.fn 20) (h4 : F.fn 25) (h5 : F.fn 26) (hro : F.round = none) (hn : 6 ≤ n) (b : Nat) (off : Int) (w : World) (o0 : 0 ≤ off) (o1 : off < 18446744073709551616) (hm : (off % 1 != 0) = false) :
    CallsIn F n Try.prog 20 #[.pointer (some ⟨b, 0, none⟩), .int .u64 off, .int .i64 1] w fun e W' => e = .returned (.tuple #[.agg (resC b off 1 255), .bool (fh off 1).isSome]) ∧ Below w.heap.size w W' := by
  have h1 : 1 ≤ n := by omega
  refine callsIn_of_wp_marks Try.func20 rfl h3 ?_ hro
  simp only [Try.ntmps20, List.size_toArray, List.length_cons, List.length_nil, Nat.reduceAdd, Nat.reduceSub, Array.replicate_succ, Array.replicate_zero, List.push_toArray, List.append_toArray, List.nil_append, List.cons_append]
  gi_wp2_with (gi_at_call 25; refine (all_in F (n - 1) h4 hro _ _).mono ?_; rintro e w' ⟨rfl, rfl⟩)
  obtain ⟨W0, hW0⟩ : ∃ W0, (((((w.alloc (.cells #[.int .u64 off] 28)).alloc (.cells #[.int .i64 1] 3)).alloc (.cells zC 50)).alloc (.cells #[.bool false] 4)).alloc (.cells #[.pointer (some ⟨b, 0, none⟩)] 24)) = W0 := ⟨_, rfl⟩
  have hsz : W0.heap.size = w.heap.size + 5 := by rw [← hW0]; simp
  have hB0 : Below w.heap.size w W0 := by rw [← hW0]; exact ((((((Below.refl _ w).alloc (Nat.le_refl _) _).alloc (by simp) _).alloc (by simp; omega) _).alloc (by simp; omega) _).alloc (by simp; omega) _)
  have hb : St w off 1 zC false W0 := by
    rw [← hW0]
    refine ⟨blk_alloc (blk_alloc (blk_alloc (blk_alloc (blk_new _ _) _) _) _) _, blk_alloc (blk_alloc (blk_alloc (blk_new' (by simp) _) _) _) _, blk_alloc (blk_alloc (blk_new' (by simp) _) _) _, blk_alloc (blk_new' (by simp) _) _⟩
  have hc : W0.cell? ⟨w.heap.size + 1 + 1 + 1 + 1, 0, none⟩ = some (.pointer (some ⟨b, 0, none⟩)) := by
    rw [← hW0, blk_cell (blk_new' (by simp) _)]; rfl
  unfold zC at hW0
  rw [hW0]
  clear hW0
  refine wpIn_rangeFunc_ownH hro h1 (gf := 26) (lb := #[.pointer (some ⟨w.heap.size + 1 + 1 + 1 + 1, 0, none⟩)]) rfl h5 (enters_of Try.func26 (by kernel_rfl) rfl)
    (all_stops F (n - 1) h5 hro (by omega) (w.heap.size + 1 + 1 + 1 + 1) w.heap.size b W0 (by omega) hc) belowK_t (belowK_b (by omega)) (Below.refl _ _) (fun _ => rfl)
    (fun pre W => ((∀ j ∈ pre, hitB off 1 j = false) ∧ St w off 1 zC false W) ∧ Below w.heap.size w W)
    (fun c pre W => ((c = .ret ∧ ∃ pre' k, pre = pre' ++ [k] ∧ (∀ j ∈ pre', hitB off 1 j = false) ∧ hitB off 1 k = true ∧ St w off 1 (fC b off 255 k) true W)) ∧ Below w.heap.size w W)
    (OwnFrom.and (OwnFrom.and (ownFrom_pure _ _) (Own.from (st_own _ _ _ _ _) _)) (ownFrom_below (Nat.le_refl _) (by omega)))
    (fun c => OwnFrom.and (fun s W W' row hs hg hr => by
      obtain ⟨e1, pre', k, e2, e3, e4, e5⟩ := hs
      exact ⟨e1, pre', k, e2, e3, e4, st_own (β := Unit) w off 1 _ _ () W W' row e5 hg (fun r e => (hr r e).2)⟩) (ownFrom_below (Nat.le_refl _) (by omega)))
    ⟨⟨by simp, hb⟩, hB0⟩
    (fun x a' W => ∃ Bx, w.heap.size + 3 < Bx ∧ W.heap[Bx]? = some (.cells (rg b x) 48) ∧ a' = { tmps := #[.pointer (some ⟨b, 0, none⟩), .int .u64 off, .int .i64 1, undef, .pointer (some ⟨w.heap.size, 0, none⟩), .pointer (some ⟨w.heap.size + 1, 0, none⟩), .pointer (some ⟨w.heap.size + 1 + 1, 0, none⟩), .pointer (some ⟨w.heap.size + 1 + 1 + 1, 0, none⟩), .pointer (some ⟨Bx, 0, none⟩), .int .i64 1, .bool false, .bool false, undef, undef, .bool false, .bool false, undef, undef, .bool false, .bool false, undef, undef, .bool false, .bool false, .int .u64 off, .int .i64 1, .int .u64 1, .int .u64 0, .bool false, .bool false, undef, .pointer (some ⟨b, 0, none⟩), .func (.func 26) #[] #[.pointer (some ⟨w.heap.size + 1 + 1 + 1 + 1, 0, none⟩)], .agg (rg b x), undef, undef, undef, undef, undef, undef, undef, undef, undef, undef, undef, undef, undef, undef, undef, undef, undef, undef, undef, undef, undef, undef, undef, undef, undef, undef, undef, undef, undef, undef, undef, undef, undef, undef, undef, undef, undef, undef, undef, undef], defers := [] })
    (fun x a' _ X Y row hs hg hr => by obtain ⟨Bx, e1, e2, e3⟩ := hs; exact ⟨Bx, e1, blk_own (β := Unit) Bx (rg b x) 48 () X Y row e2 hg (fun r e => (hr r e).2), e3⟩)
    ?assign ?body ?done ?stop
  case assign =>
    rintro l pre x W K ⟨⟨hp, hs⟩, hB1⟩ hK
    obtain ⟨B, Z, Kp, o, hrg, he⟩ := rg_is b x
    clear he
    simp only [hrg] at hK ⊢
    gi_wp2
    exact hK _ _ ((KeepsOthers.alloc _ _).from _) ((Below.refl _ W).alloc hB1.size _) ⟨⟨hp, hs.alloc _⟩, hB1.alloc hB1.size _⟩ ⟨W.heap.size, hs.lt, blk_new _ _, rfl⟩
  case body =>
    rintro l pre x a' W hl ⟨r, hr⟩ ⟨⟨hp, hs⟩, hB1⟩ ⟨Bx, hBx, hbx, rfl⟩ hlt
    obtain ⟨B, Z, Kp, o, hrg, hB, hZ, hK, ho, k0, k1, k2, k3⟩ := rg_is b x
    have hfc : fC b off 255 x = #[.int .u64 B, .int .u64 Z, .int .u64 Kp, .pointer (some ⟨b, o, none⟩), .int .i64 (8 * (off - B)), .int .u64 255] := by unfold fC; rw [hrg, ← hB]; rfl
    have hhit : hitB off 1 x = (decide (B ≤ off) && decide (off - B < Z) && decide (off - B + 1 ≤ Z)) := by unfold hitB; rw [← hB, ← hZ]
    have HF := hid hfc
    have HH := hid hhit
    simp only [hrg] at hbx ⊢
    clear hrg hB hZ hK ho hfc hhit
    have c4 := hs.c0
    have c5 := hs.c1
    have cB0 : W.cell? ⟨Bx, 0, none⟩ = some (.int .u64 B) := by rw [blk_cell hbx]; rfl
    have cB1 : W.cell? ⟨Bx, 1, none⟩ = some (.int .u64 Z) := by rw [blk_cell hbx]; rfl
    have cB2 : W.cell? ⟨Bx, 2, none⟩ = some (.int .u64 Kp) := by rw [blk_cell hbx]; rfl
    have cB3 : W.cell? ⟨Bx, 3, none⟩ = some (.pointer (some ⟨b, o, none⟩)) := by rw [blk_cell hbx]; rfl
    have no : ∀ a', hitB off 1 x = false → ownPostG W0.heap.size (Below w.heap.size) (fun pre W => ((∀ j ∈ pre, hitB off 1 j = false) ∧ St w off 1 zC false W) ∧ Below w.heap.size w W) (fun c pre W => ((c = .ret ∧ ∃ pre' k, pre = pre' ++ [k] ∧ (∀ j ∈ pre', hitB off 1 j = false) ∧ hitB off 1 k = true ∧ St w off 1 (fC b off 255 k) true W)) ∧ Below w.heap.size w W) (pre ++ [x]) W .normal a' W := fun _ h => ⟨KeepsFrom.refl _ _, Below.refl _ _, ⟨⟨fun z hz => (List.mem_append.1 hz).elim (hp z) (fun e => by simp at e; subst e; exact h), hs⟩, hB1⟩⟩
    have NO := hid no
    have HS := hid hs
    have HB1 := hid hB1
    have HR := hid hr
    have HZ := hid hsz
    have HP := hid hp
    clear no hs hr hp hsz
    by_cases q1 : B ≤ off
    · by_cases q2 : off - B < Z
      · by_cases q3 : off - B + 1 ≤ Z
        · gi_wp2
          have x4 := fun n : Ext W => n.same_cell c4
          have x5 := fun n : Ext W => n.same_cell c5
          have xB0 := fun n : Ext W => n.same_cell cB0
          have e1 : IntKind.i64.wrap (IntKind.i64.wrap 8 - 1) = 7 := rfl
          refine wpIn_region_ext_tail 14 (by kernel_rfl) (by kernel_rfl) (fun ⟨a, w, h⟩ => h) (by kernel_rfl) ?_
          simp only [List.take_succ_cons, List.take_zero, List.drop_succ_cons, List.drop_zero]
          go_big_quiet_want
          refine (quiet_row 48 _ rfl Bx rfl 48 #[.int .u64 B, .int .u64 Z, .int .u64 Kp, .pointer (some ⟨b, o, none⟩)] (0, 0) _ (fun w' hw' => by obtain ⟨n, rfl⟩ := hw'; exact n.blk hbx) Try.underlying48 rfl (by kernel_rfl) ?_)
          go_simp
          go_big_quiet_on
          have hne := ext_ne W
          repeat (go_big_quiet_step (fail))
          refine wpQuiet_nil ?_
          intro w' hw'
          obtain ⟨m1, rfl⟩ := hw'
          refine wpList_store_whole rfl 50 _ _ rfl (w.heap.size + 1 + 1) rfl #[.int .u64 B, .int .u64 Z, .int .u64 Kp, .pointer (some ⟨b, o, none⟩), .int .i64 (8 * (off - B)), .int .u64 255] ?hy 50 zC (m1.blk HS.out.b2) rfl (by kernel_rfl) (by simp [Value.oneCell']) ?_
          case hy => first | (go_simp; done) | (go_simp; rfl)
          intro w2 h2 hfr2
          have d3 := hfr2.keeps (m1.blk HS.out.b3) (by simp)
          have c7 : w2.cell? ⟨w.heap.size + 1 + 1 + 1, 0, none⟩ = some (.bool false) := by rw [blk_cell d3]; rfl
          have f7 := blk_free d3 0
          have hF : Fr [w.heap.size + 1 + 1, w.heap.size + 1 + 1 + 1] W (w2.setCell ⟨w.heap.size + 1 + 1 + 1, 0, none⟩ (.bool true)) :=
            ((m1.fr.weaken (by simp)).trans (hfr2.weaken (by simp))).setCell (.inl (by simp)) _
          have hlt4 := HS.out.lt
          have hst : St w off 1 (fC b off 255 x) true (w2.setCell ⟨w.heap.size + 1 + 1 + 1, 0, none⟩ (.bool true)) :=
            ⟨hF.keeps HS.out.b0 (by simp; try omega), hF.keeps HS.out.b1 (by simp; try omega), by rw [HF.out, blk_set_other _ (by simp)]; exact h2, blk_set d3 0 _⟩
          have hbl : Below w.heap.size w (w2.setCell ⟨w.heap.size + 1 + 1 + 1, 0, none⟩ (.bool true)) := HB1.out.trans (hF.below HB1.out.size (by simp; omega))
          have hkf : KeepsFrom W0.heap.size W (w2.setCell ⟨w.heap.size + 1 + 1 + 1, 0, none⟩ (.bool true)) :=
            ⟨hF.size, fun k ob hk h0 ho => hF.keeps h0 (by have := HZ.out; simp; omega)⟩
          have HST := hid hst
          have HBL := hid hbl
          have HKF := hid hkf
          have hh : Hid (hitB off 1 x = true) := by
            have := HH.out
            simp only [q1, q2, q3, decide_true, Bool.and_self] at this
            exact hid this
          clear hst hbl hkf hF d3 h2 hfr2 x4 x5 xB0 e1 hlt4
          go_wp2
          gi_wp2
          exact ⟨HKF.out, ⟨rfl, pre, x, rfl, HP.out, hh.out, HST.out⟩, HBL.out⟩
        · first
          | (exfalso; omega; done)
          | (gi_wp2; exact NO.out _ (by rw [HH.out]; simp only [Bool.and_eq_false_iff, decide_eq_false_iff_not]; omega))
      · gi_wp2
        exact NO.out _ (by rw [HH.out]; simp only [Bool.and_eq_false_iff, decide_eq_false_iff_not]; omega)
    · gi_wp2
      exact NO.out _ (by rw [HH.out]; simp only [Bool.and_eq_false_iff, decide_eq_false_iff_not]; omega)
  case done =>
    rintro D ys W hD rfl ⟨⟨hp, hs⟩, hB1⟩ hK
    have c60 : W.cell? ⟨w.heap.size + 1 + 1, 0, none⟩ = some (.int .u64 0) := by rw [blk_cell hs.b2]; rfl
    have f60 := blk_free hs.b2 0
    have c61 : W.cell? ⟨w.heap.size + 1 + 1, 1, none⟩ = some (.int .u64 0) := by rw [blk_cell hs.b2]; rfl
    have f61 := blk_free hs.b2 1
    have c62 : W.cell? ⟨w.heap.size + 1 + 1, 2, none⟩ = some (.int .u64 0) := by rw [blk_cell hs.b2]; rfl
    have f62 := blk_free hs.b2 2
    have c63 : W.cell? ⟨w.heap.size + 1 + 1, 3, none⟩ = some (.pointer none) := by rw [blk_cell hs.b2]; rfl
    have f63 := blk_free hs.b2 3
    have c64 : W.cell? ⟨w.heap.size + 1 + 1, 4, none⟩ = some (.int .i64 0) := by rw [blk_cell hs.b2]; rfl
    have f64 := blk_free hs.b2 4
    have c65 : W.cell? ⟨w.heap.size + 1 + 1, 5, none⟩ = some (.int .u64 0) := by rw [blk_cell hs.b2]; rfl
    have f65 := blk_free hs.b2 5
    have c7 : W.cell? ⟨w.heap.size + 1 + 1 + 1, 0, none⟩ = some (.bool false) := by rw [blk_cell hs.b3]; rfl
    have f7 := blk_free hs.b3 0
    have HS := hid hs
    have HP := hid hp
    clear hs hp
    have hF : Fr [w.heap.size + 1 + 1, w.heap.size + 1 + 1 + 1] W (((((((W.setCell ⟨w.heap.size + 1 + 1, 0, none⟩ (.int .u64 0)).setCell ⟨w.heap.size + 1 + 1, 1, none⟩ (.int .u64 0)).setCell ⟨w.heap.size + 1 + 1, 2, none⟩ (.int .u64 0)).setCell ⟨w.heap.size + 1 + 1, 3, none⟩ (.pointer none)).setCell ⟨w.heap.size + 1 + 1, 4, none⟩ (.int .i64 0)).setCell ⟨w.heap.size + 1 + 1, 5, none⟩ (.int .u64 0)).setCell ⟨w.heap.size + 1 + 1 + 1, 0, none⟩ (.bool false)) :=
      (((((((Fr.refl _ _).setCell (.inl (by simp)) _).setCell (.inl (by simp)) _).setCell (.inl (by simp)) _).setCell (.inl (by simp)) _).setCell (.inl (by simp)) _).setCell (.inl (by simp)) _).setCell (.inl (by simp)) _
    have hlt := HS.out.lt
    have hst : St w off 1 zC false (((((((W.setCell ⟨w.heap.size + 1 + 1, 0, none⟩ (.int .u64 0)).setCell ⟨w.heap.size + 1 + 1, 1, none⟩ (.int .u64 0)).setCell ⟨w.heap.size + 1 + 1, 2, none⟩ (.int .u64 0)).setCell ⟨w.heap.size + 1 + 1, 3, none⟩ (.pointer none)).setCell ⟨w.heap.size + 1 + 1, 4, none⟩ (.int .i64 0)).setCell ⟨w.heap.size + 1 + 1, 5, none⟩ (.int .u64 0)).setCell ⟨w.heap.size + 1 + 1 + 1, 0, none⟩ (.bool false)) := by
      refine ⟨hF.keeps HS.out.b0 (by simp; try omega), hF.keeps HS.out.b1 (by simp; try omega), ?_, ?_⟩
      · rw [blk_set_other _ (by simp)]
        exact blk_set (blk_set (blk_set (blk_set (blk_set (blk_set HS.out.b2 0 _) 1 _) 2 _) 3 _) 4 _) 5 _
      · exact blk_set ((((((((Fr.refl [w.heap.size + 1 + 1] W).setCell (.inl (by simp)) _).setCell (.inl (by simp)) _).setCell (.inl (by simp)) _).setCell (.inl (by simp)) _).setCell (.inl (by simp)) _).setCell (.inl (by simp)) _).keeps HS.out.b3 (by simp)) 0 _
    have HST := hid hst
    have HFR := hid hF
    clear hst hF
    gi_wp2
    refine bp_at (fun WF => St w off 1 zC false WF ∧ Below w.heap.size w WF ∧ WF.heap[D]? = some (.deferred (some []))) ⟨HST.out, hB1.trans (HFR.out.below hB1.size (by simp; omega)), HFR.out.keeps hK (by simp; omega)⟩ ?_
    rintro WF ⟨hs, hB, hK2⟩
    refine ⟨by simp, .inl ⟨_, _, rfl, run_takeDeferred hK2, ?_⟩⟩
    have hnone : fh off 1 = none := by
      unfold fh
      rw [List.find?_eq_none]
      intro j hj
      rw [HP.out j hj]; decide
    have g2 : (WF.putObj D (.deferred none)).heap[w.heap.size + 1 + 1]? = some (.cells zC 50) := (World.putObj_heap_other (by omega)).trans hs.b2
    have g3 : (WF.putObj D (.deferred none)).heap[w.heap.size + 1 + 1 + 1]? = some (.cells #[.bool false] 4) := (World.putObj_heap_other (by omega)).trans hs.b3
    have hr : resC b off 1 255 = zC := by unfold resC; rw [hnone]
    refine ⟨.tuple #[.agg zC, .bool false], ?_, by rw [hr, hnone]; rfl, hB.trans (belowK_b (w := w) (Nat.le_refl _) _ D _ _ (by omega) hK2 rfl rfl)⟩
    have k0 := blk_cell g2
    have k7 := blk_cell g3
    simp [results, Try.f20, go_sem, k0, k7, zC]
  case stop =>
    rintro D c pre W hD hpre ⟨⟨rfl, pre', k, rfl, hp, hh, hs⟩, hB1⟩ hK
    gi_wp2
    refine ⟨by simp, .inl ⟨_, _, rfl, run_takeDeferred hK, ?_⟩⟩
    have hlt := hs.lt
    have hsome : fh off 1 = some k := find_pre hpre hp hh
    have g2 : (W.putObj D (.deferred none)).heap[w.heap.size + 1 + 1]? = some (.cells (fC b off 255 k) 50) := (World.putObj_heap_other (by omega)).trans hs.b2
    have g3 : (W.putObj D (.deferred none)).heap[w.heap.size + 1 + 1 + 1]? = some (.cells #[.bool true] 4) := (World.putObj_heap_other (by omega)).trans hs.b3
    have hr : resC b off 1 255 = fC b off 255 k := by unfold resC; rw [hsome]
    refine ⟨.tuple #[.agg (fC b off 255 k), .bool true], ?_, by rw [hr, hsome]; rfl, hB1.trans (belowK_b (w := w) (Nat.le_refl _) _ D _ _ (by omega) hK rfl rfl)⟩
    obtain ⟨B, Z, Kp, o, hrg, _⟩ := rg_is b k
    have hfc : fC b off 255 k = #[.int .u64 B, .int .u64 Z, .int .u64 Kp, .pointer (some ⟨b, o, none⟩), .int .i64 (8 * (off - bs k)), .int .u64 255] := by unfold fC; rw [hrg]; rfl
    rw [hfc] at g2 ⊢
    have k0 := blk_cell g2
    have k7 := blk_cell g3
    simp [results, Try.f20, go_sem, k0, k7]
end Go.Proofs.Ytefhcadlakakbaa
