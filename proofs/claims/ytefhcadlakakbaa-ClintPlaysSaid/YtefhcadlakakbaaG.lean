/- Contracts of a guest's timer at literal numbers; a timer that is none. -/
import Derived.Test.YtefhcadlakakbaaF
namespace Go.Proofs.Ytefhcadlakakbaa
open Go.RowKit Go.Shelf
set_option linter.all false

def st3 (a m t : Int) : Nat → Int := fun j => if j = 0 then a else if j = 1 then m else t
def rdOk (a m t off wd want : Int) : Bool := decide (0 ≤ off) && decide (off < 18446744073709551616) && (acc off wd).isSome && (rdR (st3 a m t) off wd == want)
theorem reads_l {b : Nat} {a m t : Int} (off wd want : Int) (w : World) (hb : w.heap[b]? = some (clO a m t)) (h : rdOk a m t off wd want = true) :
    Calls Try.prog 18 #[.pointer (some ⟨b, 0, none⟩), .int .u64 off, .int .i64 wd, .int .u64 want] w fun e w' => e = .returned (.bool true) ∧ Fr [] w w' := by
  unfold rdOk at h
  simp only [Bool.and_eq_true, decide_eq_true_eq, beq_iff_eq] at h
  exact reads_true b (st3 a m t) off wd want w h.1.1.1 h.1.1.2 hb h.1.2 h.2
def wrOk (a m t off wd v a' m' t' : Int) : Bool := decide (0 ≤ off) && decide (off < 18446744073709551616) && (acc off wd).isSome && (wrR (st3 a m t) off wd v 0 == a') && (wrR (st3 a m t) off wd v 1 == m') && (wrR (st3 a m t) off wd v 2 == t')
theorem write_l {b : Nat} {a m t : Int} (a' m' t' off wd v : Int) (w : World) (hb : w.heap[b]? = some (clO a m t)) (h : wrOk a m t off wd v a' m' t' = true) :
    Calls Try.prog 12 #[.pointer (some ⟨b, 0, none⟩), .int .u64 off, .int .i64 wd, .int .u64 v] w fun e w' => e = .returned (.bool true) ∧ w'.heap[b]? = some (clO a' m' t') ∧ Fr [b] w w' := by
  unfold wrOk at h
  simp only [Bool.and_eq_true, decide_eq_true_eq, beq_iff_eq] at h
  have := write_any b (st3 a m t) off wd v w h.1.1.1.1.1 h.1.1.1.1.2 hb
  rw [h.1.1.1.2] at this
  unfold clR at this
  rw [h.1.1.2, h.1.2, h.2] at this
  exact this
theorem tick_l {b : Nat} {a m t : Int} (t' : Int) (w : World) (hb : w.heap[b]? = some (clO a m t)) (h : IntKind.u64.wrap (t + 1) = t') :
    Calls Try.prog 14 #[.pointer (some ⟨b, 0, none⟩)] w fun e w' => e = .returned (.tuple #[]) ∧ w'.heap[b]? = some (clO a m t') ∧ Fr [b] w w' := by
  rw [← h]; exact tick_some b a m t w hb
def btOk (a m t x : Int) : Bool := (btV a m t == x) && (a == 0 || a == 1)
theorem bits_l {b : Nat} {a m t : Int} (x : Int) (w : World) (hb : w.heap[b]? = some (clO a m t)) (h : btOk a m t x = true) :
    Calls Try.prog 16 #[.pointer (some ⟨b, 0, none⟩)] w fun e w' => e = .returned (.int .u64 x) ∧ Fr [] w w' := by
  unfold btOk at h
  simp only [Bool.and_eq_true, Bool.or_eq_true, beq_iff_eq] at h
  rw [← h.1]; exact bits_some b a m t w hb h.2
theorem none_l {b : Nat} (off wd : Int) (w : World) (h : (decide (0 ≤ off) && decide (off < 18446744073709551616) && (acc off wd).isNone) = true) :
    Calls Try.prog 19 #[.pointer (some ⟨b, 0, none⟩), .int .u64 off, .int .i64 wd] w fun e w' => e = .returned (.bool true) ∧ Fr [] w w' := by
  simp only [Bool.and_eq_true, decide_eq_true_eq, Option.isNone_iff_eq_none] at h
  exact none_true b off wd w h.1.1 h.1.2 h.2

/-! a timer that is none: an access of four bytes -/
attribute [local go_sem] Oper.semAt_some
set_option maxRecDepth 100000 in
set_option maxHeartbeats 4000000 in
theorem at_nil (F : Fence) (n : Nat) (h3 : F.fn 20) (h4 : F.fn 25) (h5 : F.fn 26) (hro : F.round = none) (hn : 6 ≤ n) (w : World) :
    CallsIn F n Try.prog 20 #[.pointer none, .int .u64 0, .int .i64 4] w fun e W' => e = .returned (.tuple #[.agg zC, .bool false]) ∧ Below w.heap.size w W' := by
  have h1 : 1 ≤ n := by omega
  refine callsIn_of_wp_marks Try.func20 rfl h3 ?_ hro
  simp only [Try.ntmps20, List.size_toArray, List.length_cons, List.length_nil, Nat.reduceAdd, Nat.reduceSub, Array.replicate_succ, Array.replicate_zero, List.push_toArray, List.append_toArray, List.nil_append, List.cons_append]
  gi_wp2_with (gi_at_call 25; refine (all_in F (n - 1) h4 hro _ _).mono ?_; rintro e w' ⟨rfl, rfl⟩)
  obtain ⟨W0, hW0⟩ : ∃ W0, (((((w.alloc (.cells #[.int .u64 0] 28)).alloc (.cells #[.int .i64 4] 3)).alloc (.cells zC 50)).alloc (.cells #[.bool false] 4)).alloc (.cells #[.pointer none] 24)) = W0 := ⟨_, rfl⟩
  have hsz : W0.heap.size = w.heap.size + 5 := by rw [← hW0]; simp
  have hB0 : Below w.heap.size w W0 := by rw [← hW0]; exact ((((((Below.refl _ w).alloc (Nat.le_refl _) _).alloc (by simp) _).alloc (by simp; omega) _).alloc (by simp; omega) _).alloc (by simp; omega) _)
  have hb : St w 0 4 zC false W0 := by
    rw [← hW0]
    refine ⟨blk_alloc (blk_alloc (blk_alloc (blk_alloc (blk_new _ _) _) _) _) _, blk_alloc (blk_alloc (blk_alloc (blk_new' (by simp) _) _) _) _, blk_alloc (blk_alloc (blk_new' (by simp) _) _) _, blk_alloc (blk_new' (by simp) _) _⟩
  have hc : W0.cell? ⟨w.heap.size + 1 + 1 + 1 + 1, 0, none⟩ = some (.pointer none) := by
    rw [← hW0, blk_cell (blk_new' (by simp) _)]; rfl
  unfold zC at hW0
  rw [hW0]
  clear hW0
  refine wpIn_rangeFunc_ownH hro h1 (gf := 26) (lb := #[.pointer (some ⟨w.heap.size + 1 + 1 + 1 + 1, 0, none⟩)]) rfl h5 (enters_of Try.func26 (by kernel_rfl) rfl)
    (none_stops F (n - 1) h5 hro (w.heap.size + 1 + 1 + 1 + 1) w.heap.size 0 W0 (by omega) hc) belowK_t (belowK_b (by omega)) (Below.refl _ _) (fun _ => rfl)
    (fun pre W => St w 0 4 zC false W ∧ Below w.heap.size w W)
    (fun c pre W => False)
    (OwnFrom.and (Own.from (st_own _ _ _ _ _) _) (ownFrom_below (Nat.le_refl _) (by omega)))
    (fun c s W W' row hs hg hr => hs.elim)
    ⟨hb, hB0⟩
    (fun x a' W => True)
    (fun x a' _ X Y row hs hg hr => trivial)
    ?assign ?body ?done ?stop
  case assign =>
    rintro l pre x W K ⟨hs, hB1⟩ hK
    obtain ⟨B, Z, Kp, o, hrg, he⟩ := rg_is 0 x
    clear he
    simp only [hrg] at hK ⊢
    gi_wp2
    exact hK _ _ ((KeepsOthers.alloc _ _).from _) ((Below.refl _ W).alloc hB1.size _) ⟨hs.alloc _, hB1.alloc hB1.size _⟩ trivial
  case body =>
    rintro l pre x a' W hl _ _ _ h
    exact absurd h (by omega)
  case stop =>
    rintro D c pre W hD hpre h hK
    exact h.elim
  case done =>
    rintro D ys W hD rfl ⟨hs, hB1⟩ hK
    have c60 : W.cell? ⟨w.heap.size + 1 + 1, 0, none⟩ = some (.int .u64 0) := by rw [blk_cell hs.b2]; rfl
    have f60 := blk_free hs.b2 0
    have c61 : W.cell? ⟨w.heap.size + 1 + 1, 1, none⟩ = some (.int .u64 0) := by rw [blk_cell hs.b2]; rfl
    have f61 := blk_free hs.b2 1
    have c62 : W.cell? ⟨w.heap.size + 1 + 1, 2, none⟩ = some (.int .u64 0) := by rw [blk_cell hs.b2]; rfl
    have f62 := blk_free hs.b2 2
    have c63 : W.cell? ⟨w.heap.size + 1 + 1, 3, none⟩ = some (.pointer none) := by rw [blk_cell hs.b2]; rfl
    have f63 := blk_free hs.b2 3
    have c64 : W.cell? ⟨w.heap.size + 1 + 1, 4, none⟩ = some (.int .i64 0) := by rw [blk_cell hs.b2]; rfl
    have f64 := blk_free hs.b2 4
    have c65 : W.cell? ⟨w.heap.size + 1 + 1, 5, none⟩ = some (.int .u64 0) := by rw [blk_cell hs.b2]; rfl
    have f65 := blk_free hs.b2 5
    have c7 : W.cell? ⟨w.heap.size + 1 + 1 + 1, 0, none⟩ = some (.bool false) := by rw [blk_cell hs.b3]; rfl
    have f7 := blk_free hs.b3 0
    have HS := hid hs
    clear hs
    have hF : Fr [w.heap.size + 1 + 1, w.heap.size + 1 + 1 + 1] W (((((((W.setCell ⟨w.heap.size + 1 + 1, 0, none⟩ (.int .u64 0)).setCell ⟨w.heap.size + 1 + 1, 1, none⟩ (.int .u64 0)).setCell ⟨w.heap.size + 1 + 1, 2, none⟩ (.int .u64 0)).setCell ⟨w.heap.size + 1 + 1, 3, none⟩ (.pointer none)).setCell ⟨w.heap.size + 1 + 1, 4, none⟩ (.int .i64 0)).setCell ⟨w.heap.size + 1 + 1, 5, none⟩ (.int .u64 0)).setCell ⟨w.heap.size + 1 + 1 + 1, 0, none⟩ (.bool false)) :=
      (((((((Fr.refl _ _).setCell (.inl (by simp)) _).setCell (.inl (by simp)) _).setCell (.inl (by simp)) _).setCell (.inl (by simp)) _).setCell (.inl (by simp)) _).setCell (.inl (by simp)) _).setCell (.inl (by simp)) _
    have hlt := HS.out.lt
    have hst : St w 0 4 zC false (((((((W.setCell ⟨w.heap.size + 1 + 1, 0, none⟩ (.int .u64 0)).setCell ⟨w.heap.size + 1 + 1, 1, none⟩ (.int .u64 0)).setCell ⟨w.heap.size + 1 + 1, 2, none⟩ (.int .u64 0)).setCell ⟨w.heap.size + 1 + 1, 3, none⟩ (.pointer none)).setCell ⟨w.heap.size + 1 + 1, 4, none⟩ (.int .i64 0)).setCell ⟨w.heap.size + 1 + 1, 5, none⟩ (.int .u64 0)).setCell ⟨w.heap.size + 1 + 1 + 1, 0, none⟩ (.bool false)) := by
      refine ⟨hF.keeps HS.out.b0 (by simp; try omega), hF.keeps HS.out.b1 (by simp; try omega), ?_, ?_⟩
      · rw [blk_set_other _ (by simp)]
        exact blk_set (blk_set (blk_set (blk_set (blk_set (blk_set HS.out.b2 0 _) 1 _) 2 _) 3 _) 4 _) 5 _
      · exact blk_set ((((((((Fr.refl [w.heap.size + 1 + 1] W).setCell (.inl (by simp)) _).setCell (.inl (by simp)) _).setCell (.inl (by simp)) _).setCell (.inl (by simp)) _).setCell (.inl (by simp)) _).setCell (.inl (by simp)) _).keeps HS.out.b3 (by simp)) 0 _
    have HST := hid hst
    have HFR := hid hF
    clear hst hF
    gi_wp2
    refine bp_at (fun WF => St w 0 4 zC false WF ∧ Below w.heap.size w WF ∧ WF.heap[D]? = some (.deferred (some []))) ⟨HST.out, hB1.trans (HFR.out.below hB1.size (by simp; omega)), HFR.out.keeps hK (by simp; omega)⟩ ?_
    rintro WF ⟨hs, hB, hK2⟩
    refine ⟨by simp, .inl ⟨_, _, rfl, run_takeDeferred hK2, ?_⟩⟩
    have g2 : (WF.putObj D (.deferred none)).heap[w.heap.size + 1 + 1]? = some (.cells zC 50) := (World.putObj_heap_other (by omega)).trans hs.b2
    have g3 : (WF.putObj D (.deferred none)).heap[w.heap.size + 1 + 1 + 1]? = some (.cells #[.bool false] 4) := (World.putObj_heap_other (by omega)).trans hs.b3
    refine ⟨.tuple #[.agg zC, .bool false], ?_, rfl, hB.trans (belowK_b (w := w) (Nat.le_refl _) _ D _ _ (by omega) hK2 rfl rfl)⟩
    have k0 := blk_cell g2
    have k7 := blk_cell g3
    simp [results, Try.f20, go_sem, k0, k7, zC]
theorem none_nil (w : World) : Calls Try.prog 19 #[.pointer none, .int .u64 0, .int .i64 4] w fun e w' => e = .returned (.bool true) ∧ Fr [] w w' := by
  have h : ∀ w, Calls Try.prog 20 #[.pointer none, .int .u64 0, .int .i64 4] w fun e W' => e = .returned (.tuple #[.agg zC, .bool false]) ∧ Fr [] w W' := fun w =>
    (callsIn_wide.1 (at_nil Fence.wide 6 trivial trivial trivial rfl (by omega) w)).mono (by rintro e w' ⟨rfl, hb⟩; exact ⟨rfl, fr_of_below hb⟩)
  exact none_of _ 0 4 w (hid fun w => read_none _ 0 4 w (hid h)) (hid fun w => write_none _ 0 4 1 w (hid h))
end Go.Proofs.Ytefhcadlakakbaa
