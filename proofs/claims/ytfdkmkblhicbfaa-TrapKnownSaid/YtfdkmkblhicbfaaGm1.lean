/- Contracts of package trap and of its reference: both ways back. -/
import Derived.Test.YtfdkmkblhicbfaaGH
namespace Go.Proofs.Ytfdkmkblhicbfaa
set_option linter.all false
open Go.RowKit

set_option maxRecDepth 100000 in
set_option maxHeartbeats 4000000 in
theorem mret_1 (s : Nat → BitVec 64) (w : World) (hrm : rm (U (mpp s)) = 1) (M : BitVec 64) (hM : M = mrM s 1) :
    Calls Try.prog 19 #[.agg (stC s)] w fun e w' => e = .returned (.tuple #[.agg (stC (upd s 1 M)), .int .u8 1, .int .u64 (U (s 8))]) ∧ Fr [] w w' := by
  have hq := mpp_lt s
  have hq0 := (U_bd (mpp s)).1
  have hx1 := mpp_and s
  have hx2 := mpp_rem s
  have hx3 := mpp_tmod s
  have k7 := mask128_ne (s 1)
  have Hrm := hid hrm
  clear hrm
  have HM := hid hM
  clear hM
  have hi31 : (Try.prog.info? 25).map (·.size) = some (stC (upd s 1 M)).size := by rw [size25]; rfl
  go_enter Try.func19, Try.ntmps19
  go_upto_region 5 with (first | (go_at_call 25; refine (real_any (U (mpp s)) _ hq0).mono ?_; rintro e w' ⟨rfl, rfl⟩; rw [Hrm.out]) | (go_at_call 33; ((with_reducible refine (set8 _ _ _).mono ?_); rintro e w' ⟨rfl, rfl⟩)))
  refine world_at (fun W => W.heap[w.heap.size]? = some (.cells (stC (upd s 1 M)) 25) ∧ (∃ z : Array Value, W.heap[w.heap.size + 1]? = some (.cells z 25) ∧ z.size = 31) ∧ Fr [] w W) ⟨cells_eq (blk_alloc (blk_new _ _) _) (by rw [HM.out]; first | rfl | (rw [upd2]; rfl)), ⟨_, blk_new' (by simp) _, rfl⟩, by first | exact (((Fr.refl _ _).alloc _).alloc _) | exact (((Fr.refl _ _).alloc _).alloc _).drew⟩ ?_
  rintro W ⟨hS, ⟨z, hz, hz1⟩, hfr⟩
  refine wp_region_held_drew (S := fun W' => W'.heap[w.heap.size]? = some (.cells (stC (upd s 1 M)) 25) ∧ (∃ z : Array Value, W'.heap[w.heap.size + 1]? = some (.cells z 25) ∧ z.size = 31) ∧ Fr [] w W') (by kernel_rfl) ⟨hS, ⟨z, hz, hz1⟩, hfr.drew⟩ (fun hHeld => ?_)
  clear hS hz
  refine wpAnyH_take (i := 0) rfl (by kernel_rfl) (by kernel_rfl) (by kernel_rfl) (fun _ _ _ h => h) (yieldsIf_row (by rfl) 25 _ rfl w.heap.size rfl 25 (stC (upd s 1 M)) (0, 0) _ (fun w' h => h.1) Try.underlying25 rfl hi31) hHeld ?_
  simp only [Act.put, List.setIfInBounds_toArray, List.set_cons_zero, List.set_cons_succ]
  refine wpAnyH_take (i := 1) rfl (by kernel_rfl) (by kernel_rfl) (by kernel_rfl) (fun _ _ _ h => h) (yieldsIf_of (.int .u8 1) (by rfl) (fun _ _ => by go_simp)) hHeld ?_
  simp only [Act.put, List.setIfInBounds_toArray, List.set_cons_zero, List.set_cons_succ]
  refine wpAnyH_take (i := 2) rfl (by kernel_rfl) (by kernel_rfl) (by kernel_rfl) (fun _ _ _ h => h) (yieldsIf_of (.pointer (some ⟨w.heap.size, 8, none⟩)) (by rfl) (fun _ _ => by go_simp)) hHeld ?_
  simp only [Act.put, List.setIfInBounds_toArray, List.set_cons_zero, List.set_cons_succ]
  refine wpAnyH_take (i := 3) rfl (by kernel_rfl) (by kernel_rfl) (by kernel_rfl) (fun _ _ _ h => h) (yieldsIf_of (.int .u64 (U (s 8))) (by rfl) (fun w' hS => by have hc := blk_cell hS.1 8; go_simp)) hHeld ?_
  simp only [Act.put, List.setIfInBounds_toArray, List.set_cons_zero, List.set_cons_succ]
  refine wpAnyH_ready (rs := [4]) (by kernel_rfl) (by simp) ?_
  refine AllReadyH.cons rfl (fun K hK => ?_) AllReadyH.nil
  rw [if_pos (by rfl)]
  obtain ⟨z1, hz1, hz1'⟩ := hHeld.2.1
  refine wp_store_whole 25 _ _ rfl (w.heap.size + 1) rfl (stC (upd s 1 M)) rfl 25 z1 hz1 (by rw [hz1']; rfl) hi31 (oneCell_stC _) (fun w5 h5 hfr5 => ?_)
  have hfr5' : Fr [] w w5 := hHeld.2.2.step hfr5 (fun j hj => .inr (by simp at hj; omega))
  simp only [Act.put]
  refine hK.out _ _ ⟨hfr5.keeps hHeld.1 (by simp), ⟨_, h5, rfl⟩, hfr5'⟩ (fun hHeld => ?_)
  clear hK K
  refine wpAnyH_ready (rs := [5]) (by kernel_rfl) (by simp) ?_
  refine AllReadyH.cons rfl (fun K hK => ?_) AllReadyH.nil
  go_simp
  refine hK.out _ _ hHeld (fun hHeld => ?_)
  clear hK K
  refine wpAnyH_ready (rs := [6]) (by kernel_rfl) (by simp) ?_
  refine AllReadyH.cons rfl (fun K hK => ?_) AllReadyH.nil
  go_simp
  refine hK.out _ _ hHeld (fun hHeld => ?_)
  clear hK K
  refine wpAnyH_done (by kernel_rfl) ?_ _
  go_wp2_with (fail)
  exact ⟨rfl, _, results_ctt rfl rfl h5 Try.underlying25 rfl hi31, rfl, hfr5'⟩

set_option maxRecDepth 100000 in
set_option maxHeartbeats 4000000 in
theorem refMret_1 (s : Nat → BitVec 64) (w : World) (hrm : rm (U (mpp s)) = 1) (M : BitVec 64) (hM : M = mrM s 1) :
    Calls Try.prog 20 #[.agg (stC s)] w fun e w' => e = .returned (.tuple #[.agg (stC (upd s 1 M)), .int .u8 1, .int .u64 (U (s 8))]) ∧ Fr [] w w' := by
  have hq := mpp_lt s
  have hq0 := (U_bd (mpp s)).1
  have hx1 := mpp_and s
  have hx2 := mpp_rem s
  have hx3 := mpp_tmod s
  have k7 := mask128_ne (s 1)
  have Hrm := hid hrm
  clear hrm
  have HM := hid hM
  clear hM
  have hi31 : (Try.prog.info? 25).map (·.size) = some (stC (upd s 1 M)).size := by rw [size25]; rfl
  go_enter Try.func20, Try.ntmps20
  go_wp2_with (go_at_call 35; refine (mode_any (U (mpp s)) _ hq0).mono ?_; rintro e w' ⟨rfl, rfl⟩; rw [Hrm.out])
  refine region_still_tail 7 (by kernel_rfl) (by kernel_rfl) ?_
  simp only [List.take_succ_cons, List.take_zero, List.drop_succ_cons, List.drop_zero]
  repeat still_step
  still_call (back (bit7 _ _))
  repeat still_step
  still_call (back (with3 _ _ _))
  repeat still_step
  refine wpStill_nil ?_
  go_upto_region 8 with (first | (go_at_call 36; ((with_reducible refine (with7 _ _ _).mono ?_); rintro e w' ⟨rfl, rfl⟩)) | (go_at_call 36; ((with_reducible refine (with11 _ _ _).mono ?_); rintro e w' ⟨rfl, rfl⟩)) | (go_at_call 36; ((with_reducible refine (with12 _ _ _).mono ?_); rintro e w' ⟨rfl, rfl⟩)) | (go_at_call 36; ((with_reducible refine (with17 _ _ _).mono ?_); rintro e w' ⟨rfl, rfl⟩)))
  refine world_at (fun W => W.heap[w.heap.size]? = some (.cells (stC (upd s 1 M)) 25) ∧ (∃ z : Array Value, W.heap[w.heap.size + 1]? = some (.cells z 25) ∧ z.size = 31) ∧ Fr [] w W) ⟨cells_eq (blk_alloc (blk_new _ _) _) (by rw [HM.out]; simp only [upd2]; exact congrArg (upd s 1) (mr_1 _)), ⟨_, blk_new' (by simp) _, rfl⟩, by first | exact (((Fr.refl _ _).alloc _).alloc _) | exact (((Fr.refl _ _).alloc _).alloc _).drew⟩ ?_
  rintro W ⟨hS, ⟨z, hz, hz1⟩, hfr⟩
  refine wp_region_held_drew (S := fun W' => W'.heap[w.heap.size]? = some (.cells (stC (upd s 1 M)) 25) ∧ (∃ z : Array Value, W'.heap[w.heap.size + 1]? = some (.cells z 25) ∧ z.size = 31) ∧ Fr [] w W') (by kernel_rfl) ⟨hS, ⟨z, hz, hz1⟩, hfr.drew⟩ (fun hHeld => ?_)
  clear hS hz
  refine wpAnyH_take (i := 0) rfl (by kernel_rfl) (by kernel_rfl) (by kernel_rfl) (fun _ _ _ h => h) (yieldsIf_row (by rfl) 25 _ rfl w.heap.size rfl 25 (stC (upd s 1 M)) (0, 0) _ (fun w' h => h.1) Try.underlying25 rfl hi31) hHeld ?_
  simp only [Act.put, List.setIfInBounds_toArray, List.set_cons_zero, List.set_cons_succ]
  refine wpAnyH_take (i := 1) rfl (by kernel_rfl) (by kernel_rfl) (by kernel_rfl) (fun _ _ _ h => h) (yieldsIf_of (.int .u8 1) (by rfl) (fun _ _ => by go_simp)) hHeld ?_
  simp only [Act.put, List.setIfInBounds_toArray, List.set_cons_zero, List.set_cons_succ]
  refine wpAnyH_take (i := 2) rfl (by kernel_rfl) (by kernel_rfl) (by kernel_rfl) (fun _ _ _ h => h) (yieldsIf_of (.pointer (some ⟨w.heap.size, 8, none⟩)) (by rfl) (fun _ _ => by go_simp)) hHeld ?_
  simp only [Act.put, List.setIfInBounds_toArray, List.set_cons_zero, List.set_cons_succ]
  refine wpAnyH_take (i := 3) rfl (by kernel_rfl) (by kernel_rfl) (by kernel_rfl) (fun _ _ _ h => h) (yieldsIf_of (.int .u64 (U (s 8))) (by rfl) (fun w' hS => by have hc := blk_cell hS.1 8; go_simp)) hHeld ?_
  simp only [Act.put, List.setIfInBounds_toArray, List.set_cons_zero, List.set_cons_succ]
  refine wpAnyH_ready (rs := [4]) (by kernel_rfl) (by simp) ?_
  refine AllReadyH.cons rfl (fun K hK => ?_) AllReadyH.nil
  rw [if_pos (by rfl)]
  obtain ⟨z1, hz1, hz1'⟩ := hHeld.2.1
  refine wp_store_whole 25 _ _ rfl (w.heap.size + 1) rfl (stC (upd s 1 M)) rfl 25 z1 hz1 (by rw [hz1']; rfl) hi31 (oneCell_stC _) (fun w5 h5 hfr5 => ?_)
  have hfr5' : Fr [] w w5 := hHeld.2.2.step hfr5 (fun j hj => .inr (by simp at hj; omega))
  simp only [Act.put]
  refine hK.out _ _ ⟨hfr5.keeps hHeld.1 (by simp), ⟨_, h5, rfl⟩, hfr5'⟩ (fun hHeld => ?_)
  clear hK K
  refine wpAnyH_ready (rs := [5]) (by kernel_rfl) (by simp) ?_
  refine AllReadyH.cons rfl (fun K hK => ?_) AllReadyH.nil
  go_simp
  refine hK.out _ _ hHeld (fun hHeld => ?_)
  clear hK K
  refine wpAnyH_ready (rs := [6]) (by kernel_rfl) (by simp) ?_
  refine AllReadyH.cons rfl (fun K hK => ?_) AllReadyH.nil
  go_simp
  refine hK.out _ _ hHeld (fun hHeld => ?_)
  clear hK K
  refine wpAnyH_done (by kernel_rfl) ?_ _
  go_wp2_with (fail)
  exact ⟨rfl, _, results_ctt rfl rfl h5 Try.underlying25 rfl hi31, rfl, hfr5'⟩
end Go.Proofs.Ytfdkmkblhicbfaa
