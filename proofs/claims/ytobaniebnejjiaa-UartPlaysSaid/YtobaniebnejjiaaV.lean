/- The reference's serial line: Write, Input, Dump. -/
import Derived.Test.YtobaniebnejjiaaQ
import Derived.Test.YtobaniebnejjiaaHeldTail
namespace Go.Proofs.Ytobaniebnejjiaa.U
open Go.RowKit
set_option linter.all false
theorem wp_conv {o : Oper} {a : Act} {w : World} {K : Act → World → Prop} {Q : Exit → Act → World → Prop} (x : Operand) (ho : o.op = .convert 32 9 x) (l : List Int) (A : Nat) (hx : a.eval x = .slice (some ⟨A, 0, none⟩) l.length l.length) (hA : w.heap[A]? = some (.cells (bys l).toArray 5)) (h : K (a.put o.dst (.string (strOfNums l))) w) : o.wp Try.prog a w K Q := by
  have hr : (convert 32 9 (.slice (some ⟨A, 0, none⟩) l.length l.length)).run Try.prog w = .ok (.string (strOfNums l)) w :=
    run_convert_bytes_arg w 32 5 Try.underlying32 Try.underlying5 A 0 l.length l.length l rfl (fun i hi => by
      rw [blk_cell hA, Nat.zero_add, List.getElem?_toArray, bys_get, List.getElem?_eq_getElem hi, List.getD_eq_getElem?_getD, List.getElem?_eq_getElem hi]; rfl) 9 Try.underlying9
  unfold Oper.wp execOp
  simp only [ho, hx, Sem.run_bind, Sem.run_pure, Result.andThen_ok, hr]
  exact h
set_option maxRecDepth 100000 in
set_option maxHeartbeats 4000000 in
theorem rinput_full (h : Nat) (u : St) (b : Int) (s : ByteArray) (w : World) (hb : w.heap[h]? = some (.cells (clR u) 42)) (hs : strOfNums u.q = s) (hn : s.size = 16) : Calls Try.prog 32 #[.pointer (some ⟨h, 0, none⟩), .int .u8 b] w fun e w' => e = .returned (.bool false) ∧ w'.heap[h]? = some (.cells (clR { u with ov := true }) 42) ∧ Fr [h] w w' := by
  have c7 : w.cell? ⟨h, 7, none⟩ = some (.bool u.ov) := (blk_cell hb 7).trans rfl
  have c9 : w.cell? ⟨h, 9, none⟩ = some (.string (strOfNums u.q)) := (blk_cell hb 9).trans rfl
  have f7 : w.frozen? ⟨h, 7, none⟩ = false := blk_free hb 7
  rw [hs] at c9
  have HB := hid hb
  clear hb hs
  go_enter Try.func32, Try.ntmps32
  go_wp2
  go_ret
  exact ⟨rfl, blk_set HB.out 7 _, (Fr.refl _ _).setCell (.inl (by simp)) _⟩
set_option maxRecDepth 100000 in
set_option maxHeartbeats 4000000 in
theorem rinput_more (h : Nat) (u : St) (b : Int) (w : World) (hb : w.heap[h]? = some (.cells (clR u) 42)) (hn : ((strOfNums u.q).size : Int) ≠ 16) (hlen : u.q.length ≤ 4000000) : Calls Try.prog 32 #[.pointer (some ⟨h, 0, none⟩), .int .u8 b] w fun e w' => e = .returned (.bool true) ∧ w'.heap[h]? = some (.cells (clR { u with q := u.q ++ [b] }) 42) ∧ Fr [h] w w' := by
  have c9 : w.cell? ⟨h, 9, none⟩ = some (.string (strOfNums u.q)) := (blk_cell hb 9).trans rfl
  have HB := hid hb
  clear hb
  have hn' : (((strOfNums u.q).size : Int) == 16) = false := by simpa using hn
  go_enter Try.func32, Try.ntmps32
  go_upto_region 4 with fail
  (try simp only [Act.put, List.setIfInBounds_toArray, List.set_cons_zero, List.set_cons_succ])
  refine wp_region_HT (S := fun W' => W'.heap[h]? = some (.cells (clR u) 42) ∧ Fr [] w W') 11 (by kernel_rfl) (by kernel_rfl) ⟨HB.out, (Fr.refl [] w).drew⟩ (fun hHeld => ?_)
  refine HT_take (i := 0) rfl (by kernel_rfl) (by decide) (by kernel_rfl) (by kernel_rfl) (fun _ _ _ h => h) (yieldsIf_of (.pointer (some ⟨h, 0, none⟩)) (by rfl) (fun w' hS => by go_simp)) hHeld ?_
  simp only [Act.put, List.setIfInBounds_toArray, List.set_cons_zero, List.set_cons_succ]
  refine HT_take (i := 1) rfl (by kernel_rfl) (by decide) (by kernel_rfl) (by kernel_rfl) (fun _ _ _ h => h) (yieldsIf_of (.pointer (some ⟨h, 0, none⟩)) (by rfl) (fun w' hS => by go_simp)) hHeld ?_
  simp only [Act.put, List.setIfInBounds_toArray, List.set_cons_zero, List.set_cons_succ]
  refine HT_take (i := 2) rfl (by kernel_rfl) (by decide) (by kernel_rfl) (by kernel_rfl) (fun _ _ _ h => h) (yieldsIf_of (.pointer (some ⟨h, 0, none⟩)) (by rfl) (fun w' hS => by go_simp)) hHeld ?_
  simp only [Act.put, List.setIfInBounds_toArray, List.set_cons_zero, List.set_cons_succ]
  refine HT_take (i := 3) rfl (by kernel_rfl) (by decide) (by kernel_rfl) (by kernel_rfl) (fun _ _ _ h => h) (yieldsIf_of (.pointer (some ⟨h, 9, none⟩)) (by rfl) (fun w' hS => by go_simp)) hHeld ?_
  simp only [Act.put, List.setIfInBounds_toArray, List.set_cons_zero, List.set_cons_succ]
  refine HT_take (i := 4) rfl (by kernel_rfl) (by decide) (by kernel_rfl) (by kernel_rfl) (fun _ _ _ h => h) (yieldsIf_of (.string (strOfNums u.q)) (by rfl) (fun w' hS => by have hc := (blk_cell hS.1 9).trans (show (clR u)[9]? = some (.string (strOfNums u.q)) from rfl); go_simp)) hHeld ?_
  simp only [Act.put, List.setIfInBounds_toArray, List.set_cons_zero, List.set_cons_succ]
  refine HT_take (i := 5) rfl (by kernel_rfl) (by decide) (by kernel_rfl) (by kernel_rfl) (fun _ _ _ h => h) (yieldsIf_of (.int .u8 b) (by rfl) (fun w' hS => by go_simp)) hHeld ?_
  simp only [Act.put, List.setIfInBounds_toArray, List.set_cons_zero, List.set_cons_succ]
  refine HT_one (i := 6) rfl (by decide) (by kernel_rfl) (fun K hK => ?_)
  go_simp
  refine hK.out _ _ ⟨blk_alloc hHeld.1 _, hHeld.2.alloc _⟩ (fun hHeld => ?_)
  clear hK K
  refine HT_one (i := 7) rfl (by decide) (by kernel_rfl) (fun K hK => ?_)
  rw [if_pos (by rfl)]
  refine wp_conv _ rfl [b] w.heap.size rfl (show (w.alloc (.cells #[.int .u8 b] 5)).drew.heap[w.heap.size]? = _ from blk_new w _) ?_
  simp only [Act.put]
  refine hK.out _ _ hHeld (fun hHeld => ?_)
  clear hK K
  simp only [Act.put, List.setIfInBounds_toArray, List.set_cons_zero, List.set_cons_succ]
  have hadd := run_add_str u.q [b] hlen (by simp)
  refine HT_take (i := 8) rfl (by kernel_rfl) (by decide) (by kernel_rfl) (by kernel_rfl) (fun _ _ _ h => h) (yieldsIf_of (.string (strOfNums (u.q ++ [b]))) (by rfl) (fun w' hS => by go_simp)) hHeld ?_
  simp only [Act.put, List.setIfInBounds_toArray, List.set_cons_zero, List.set_cons_succ]
  refine HT_take (i := 9) rfl (by kernel_rfl) (by decide) (by kernel_rfl) (by kernel_rfl) (fun _ _ _ h => h) (yieldsIf_of (.pointer (some ⟨h, 0, none⟩)) (by rfl) (fun w' hS => by go_simp)) hHeld ?_
  simp only [Act.put, List.setIfInBounds_toArray, List.set_cons_zero, List.set_cons_succ]
  refine HT_take (i := 10) rfl (by kernel_rfl) (by decide) (by kernel_rfl) (by kernel_rfl) (fun _ _ _ h => h) (yieldsIf_of (.pointer (some ⟨h, 9, none⟩)) (by rfl) (fun w' hS => by go_simp)) hHeld ?_
  simp only [Act.put, List.setIfInBounds_toArray, List.set_cons_zero, List.set_cons_succ]
  refine HT_done (by kernel_rfl) ?_
  have hbW := hHeld.1
  have hfW := hHeld.2
  have c' := (blk_cell hbW 9).trans (show (clR u)[9]? = some (.string (strOfNums u.q)) from rfl)
  have f' := blk_free hbW 9
  have HH := hid hHeld
  clear hHeld hbW hfW hadd c9
  simp only [List.drop_succ_cons, List.drop_zero]
  go_wp2
  go_ret
  exact ⟨rfl, blk_set HH.out.1 9 _, (HH.out.2.weaken (by simp)).setCell (.inl (by simp)) _⟩
end Go.Proofs.Ytobaniebnejjiaa.U
