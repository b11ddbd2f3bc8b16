/- Contract of inst.Check: whether an instruction may be. -/
import Derived.Test.YtogdifjdlkpehaaHOf
import Derived.Test.YtogdifjdlkpehaaHFill
import Derived.Test.YtogdifjdlkpehaaK2
import Derived.Deep.Cut
import Derived.Deep.DeepCutAuto
import Derived.BigGuard
namespace Go.Proofs.Ytogdifjdlkpehaa.PA
open Go.RowKit Go.Proofs.YtogdifjdlkpehaaW.PrintWords Go.Proofs.YtogdifjdlkpehaaW.PrintLast Go.Proofs.YtogdifjdlkpehaaW.PrintMore
set_option linter.all false
/-- which registers an operation has -/
def hasT (op : Int) : Bool × Bool × Bool :=
  if op = 1 ∨ op = 2 ∨ op = 3 ∨ inR op 92 94 = true then (true, false, false) else if classT op = 3 ∨ classT op = 2 ∨ op = 98 then (false, true, true)
  else if classT op = 7 ∨ classT op = 8 then (false, false, false) else if op = 4 ∨ classT op = 1 ∨ classT op = 6 ∨ inR op 22 30 = true ∨ inR op 41 44 = true ∨ op = 67 ∨ op = 78 then (true, true, false) else (true, true, true)
theorem has_fin : ∀ n : Fin 256, inst_has.f 8 (n.val : Int) = some (hasT (n.val : Int)) := by decide +kernel
theorem has_ev {op : Int} (h : 0 ≤ op ∧ op < 256) : inst_has.f 8 op = some (hasT op) := by
  have := has_fin ⟨op.toNat, by omega⟩
  have e : ((op.toNat : Nat) : Int) = op := by omega
  rwa [e] at this
theorem c_has {op : Int} (h : 0 ≤ op ∧ op < 256) (w : World) : Calls Try.prog 38 #[.int .u8 op] w fun e w' => e = .returned (.tuple #[.bool (hasT op).1, .bool (hasT op).2.1, .bool (hasT op).2.2]) ∧ ∃ n, w' = w.drewN n :=
  (inst_has.calls 8 op _ _ _ w (has_ev h)).mono fun _ _ ⟨h1, h2⟩ => ⟨h1, by obtain ⟨n, rfl⟩ := h2; exact ⟨n, rfl⟩⟩
def fitsT (n : Int) (b : Bool) : Bool := n == 0 || (b && decide (n < 32))
set_option maxRecDepth 100000 in
set_option maxHeartbeats 4000000 in
theorem fits_0 (b : Bool) (w : World) : Calls Try.prog 40 #[.int .u8 0, .bool b] w fun e w' => e = .returned (.bool true) ∧ w = w' := by
  go_enter Try.func40, Try.ntmps40
  go_wp2
  go_ret
  exact ⟨rfl, rfl⟩
set_option maxRecDepth 100000 in
set_option maxHeartbeats 4000000 in
theorem fits_f (n : Int) (w : World) (h : (n == 0) = false) : Calls Try.prog 40 #[.int .u8 n, .bool false] w fun e w' => e = .returned (.bool false) ∧ w = w' := by
  go_enter Try.func40, Try.ntmps40
  go_wp2
  go_ret
  exact ⟨rfl, rfl⟩
set_option maxRecDepth 100000 in
set_option maxHeartbeats 4000000 in
theorem fits_t (n : Int) (v : Bool) (w : World) (h : (n == 0) = false) (hv : decide (n < 32) = v) : Calls Try.prog 40 #[.int .u8 n, .bool true] w fun e w' => e = .returned (.bool v) ∧ w = w' := by
  go_enter Try.func40, Try.ntmps40
  go_wp2
  go_ret
  exact ⟨rfl, rfl⟩
theorem fits_any (n : Int) (b : Bool) (w : World) : Calls Try.prog 40 #[.int .u8 n, .bool b] w fun e w' => e = .returned (.bool (fitsT n b)) ∧ w = w' := by
  by_cases h : n = 0
  · subst h; exact fits_0 b w
  have h' : (n == 0) = false := by simpa using h
  unfold fitsT
  rw [h', Bool.false_or]
  cases b with
  | false => exact fits_f n w h'
  | true => rw [Bool.true_and]; exact fits_t n _ w h' rfl
set_option maxRecDepth 100000 in
set_option maxHeartbeats 4000000 in
theorem chk_a (op rd r1 r2 im cs sz c l m s : Int) (b1 b2 b3 b : Bool) (w : World) (h1 : Hid (∀ w, Calls Try.prog 38 #[.int .u8 op] w fun e w' => e = .returned (.tuple #[.bool b1, .bool b2, .bool b3]) ∧ ∃ n, w' = w.drewN n))
    (h2 : Hid (∀ w, Calls Try.prog 39 #[.int .u8 op] w fun e w' => e = .returned (.agg (BC (l, m, s))) ∧ Fr [] w w')) (h3 : Hid (∀ w, Calls Try.prog 16 #[.int .u8 op] w fun e w' => e = .returned (.int .u8 c) ∧ ∃ n, w' = w.drewN n))
    (hcs : Hid ((cs == 0) = true ∧ b = true ∨ (cs == 0) = false ∧ (c == 6) = true ∧ decide (cs < 4096) = b ∨ (cs == 0) = false ∧ (c == 6) = false ∧ b = false)) (t1 : (c == 8) = true) : Calls Try.prog 12 #[.agg #[.int .u8 op, .int .u8 rd, .int .u8 r1, .int .u8 r2, .int .i64 im, .int .u16 cs, .int .u8 sz]] w fun e w' => e = .returned (.int .i64 3) ∧ Fr [] w w' := by
  go_enter Try.func12, Try.ntmps12
  go_upto_region 2 with (go_at_call 38; (with_reducible refine (h1.out _).mono ?_); rintro e w' ⟨rfl, nn, rfl⟩)
  refine world_atF (fun W => W.heap[w.heap.size]? = some (.cells (IC (op, rd, r1, r2, im, cs, sz)) 25) ∧ Fr [] w W) ⟨show (World.drewN _ _).heap[w.heap.size]? = _ from blk_new _ _, ((Fr.refl [] w).alloc _).drewN _⟩ ?_
  rintro W ⟨hZ, hF⟩
  have HZ := hid hZ
  have HF := hid hF
  have x0 : W.cell? ⟨w.heap.size, 0, none⟩ = some (.int .u8 op) := by rw [blk_cell hZ]; rfl
  clear hZ hF h1
  go_upto_region 3 with (first | (go_at_call 39; (with_reducible refine (h2.out _).mono ?_); rintro e w1 ⟨rfl, hd⟩) | (refine wpList_store_whole rfl 63 _ _ rfl w1.heap.size rfl (BC (l, m, s)) rfl 63 _ (blk_new _ _) rfl (sizeB' _) (BC_one _) ?_; intro w2 hB hfr2))
  have hlt := lt_block HZ.out
  refine world_atF (fun W => W.heap[w.heap.size]? = some (.cells (IC (op, rd, r1, r2, im, cs, sz)) 25) ∧ W.heap[w1.heap.size]? = some (.cells (BC (l, m, s)) 63) ∧ Fr [] w W) ⟨hfr2.keeps (blk_alloc (hd.keeps HZ.out (by simp)) _) (by have := hd.size; simp; omega), hB, ((HF.out.trans hd).alloc _).step hfr2 (fun j hj => .inr (by rw [List.mem_singleton.1 hj]; have := hd.size; have := HF.out.size; omega))⟩ ?_
  clear hB hfr2 x0 HZ HF hlt h2
  rintro W2 ⟨hZ, hB, hF⟩
  generalize w1.heap.size = A at *
  clear hd
  have HF := hid hF
  have x0 : W2.cell? ⟨w.heap.size, 0, none⟩ = some (.int .u8 (op)) := by rw [blk_cell hZ]; rfl
  have x1 : W2.cell? ⟨w.heap.size, 1, none⟩ = some (.int .u8 (rd)) := by rw [blk_cell hZ]; rfl
  have x2 : W2.cell? ⟨w.heap.size, 2, none⟩ = some (.int .u8 (r1)) := by rw [blk_cell hZ]; rfl
  have x3 : W2.cell? ⟨w.heap.size, 3, none⟩ = some (.int .u8 (r2)) := by rw [blk_cell hZ]; rfl
  have x4 : W2.cell? ⟨w.heap.size, 4, none⟩ = some (.int .i64 (im)) := by rw [blk_cell hZ]; rfl
  have x5 : W2.cell? ⟨w.heap.size, 5, none⟩ = some (.int .u16 (cs)) := by rw [blk_cell hZ]; rfl
  have x6 : W2.cell? ⟨w.heap.size, 6, none⟩ = some (.int .u8 (sz)) := by rw [blk_cell hZ]; rfl
  have y0 : W2.cell? ⟨A, 0, none⟩ = some (.int .i64 l) := by rw [blk_cell hB]; rfl
  have y1 : W2.cell? ⟨A, 1, none⟩ = some (.int .i64 m) := by rw [blk_cell hB]; rfl
  have y2 : W2.cell? ⟨A, 2, none⟩ = some (.int .i64 s) := by rw [blk_cell hB]; rfl
  clear hZ hB hF
  (try simp only [Act.put, List.setIfInBounds_toArray, List.set_cons_zero, List.set_cons_succ])
  go_cut [7] (fun v wc => v = .bool b ∧ ∃ n, wc = W2.drewN n)
  case first =>
    rcases hcs.out with ⟨q1, rfl⟩ | ⟨q1, q2, rfl⟩ | ⟨q1, q2, rfl⟩
    all_goals
      go_wp2_with (go_at_call 16; (with_reducible refine (h3.out _).mono ?_); rintro e w' ⟨rfl, nn, rfl⟩)
      go_meet
      case rel => exact ⟨by first | rfl | simp_all, by first | exact ⟨0, rfl⟩ | exact ⟨_, rfl⟩⟩
  case rest =>
    obtain ⟨rfl, nc, rfl⟩ := hcut
    clear hcs
    go_wp2_with (first | (go_at_call 16; (with_reducible refine (h3.out _).mono ?_); rintro e w' ⟨rfl, nn, rfl⟩))
    go_ret
    exact ⟨rfl, HF.out.drewN _⟩
set_option maxRecDepth 100000 in
set_option maxHeartbeats 4000000 in
theorem chk_b (op rd r1 r2 im cs sz c l m s : Int) (b1 b2 b3 b : Bool) (w : World) (h1 : Hid (∀ w, Calls Try.prog 38 #[.int .u8 op] w fun e w' => e = .returned (.tuple #[.bool b1, .bool b2, .bool b3]) ∧ ∃ n, w' = w.drewN n))
    (h2 : Hid (∀ w, Calls Try.prog 39 #[.int .u8 op] w fun e w' => e = .returned (.agg (BC (l, m, s))) ∧ Fr [] w w')) (h3 : Hid (∀ w, Calls Try.prog 16 #[.int .u8 op] w fun e w' => e = .returned (.int .u8 c) ∧ ∃ n, w' = w.drewN n))
    (hcs : Hid ((cs == 0) = true ∧ b = true ∨ (cs == 0) = false ∧ (c == 6) = true ∧ decide (cs < 4096) = b ∨ (cs == 0) = false ∧ (c == 6) = false ∧ b = false)) (t1 : (c == 8) = false) (t2 : (sz != 4) = true) : Calls Try.prog 12 #[.agg #[.int .u8 op, .int .u8 rd, .int .u8 r1, .int .u8 r2, .int .i64 im, .int .u16 cs, .int .u8 sz]] w fun e w' => e = .returned (.int .i64 3) ∧ Fr [] w w' := by
  go_enter Try.func12, Try.ntmps12
  go_upto_region 2 with (go_at_call 38; (with_reducible refine (h1.out _).mono ?_); rintro e w' ⟨rfl, nn, rfl⟩)
  refine world_atF (fun W => W.heap[w.heap.size]? = some (.cells (IC (op, rd, r1, r2, im, cs, sz)) 25) ∧ Fr [] w W) ⟨show (World.drewN _ _).heap[w.heap.size]? = _ from blk_new _ _, ((Fr.refl [] w).alloc _).drewN _⟩ ?_
  rintro W ⟨hZ, hF⟩
  have HZ := hid hZ
  have HF := hid hF
  have x0 : W.cell? ⟨w.heap.size, 0, none⟩ = some (.int .u8 op) := by rw [blk_cell hZ]; rfl
  clear hZ hF h1
  go_upto_region 3 with (first | (go_at_call 39; (with_reducible refine (h2.out _).mono ?_); rintro e w1 ⟨rfl, hd⟩) | (refine wpList_store_whole rfl 63 _ _ rfl w1.heap.size rfl (BC (l, m, s)) rfl 63 _ (blk_new _ _) rfl (sizeB' _) (BC_one _) ?_; intro w2 hB hfr2))
  have hlt := lt_block HZ.out
  refine world_atF (fun W => W.heap[w.heap.size]? = some (.cells (IC (op, rd, r1, r2, im, cs, sz)) 25) ∧ W.heap[w1.heap.size]? = some (.cells (BC (l, m, s)) 63) ∧ Fr [] w W) ⟨hfr2.keeps (blk_alloc (hd.keeps HZ.out (by simp)) _) (by have := hd.size; simp; omega), hB, ((HF.out.trans hd).alloc _).step hfr2 (fun j hj => .inr (by rw [List.mem_singleton.1 hj]; have := hd.size; have := HF.out.size; omega))⟩ ?_
  clear hB hfr2 x0 HZ HF hlt h2
  rintro W2 ⟨hZ, hB, hF⟩
  generalize w1.heap.size = A at *
  clear hd
  have HF := hid hF
  have x0 : W2.cell? ⟨w.heap.size, 0, none⟩ = some (.int .u8 (op)) := by rw [blk_cell hZ]; rfl
  have x1 : W2.cell? ⟨w.heap.size, 1, none⟩ = some (.int .u8 (rd)) := by rw [blk_cell hZ]; rfl
  have x2 : W2.cell? ⟨w.heap.size, 2, none⟩ = some (.int .u8 (r1)) := by rw [blk_cell hZ]; rfl
  have x3 : W2.cell? ⟨w.heap.size, 3, none⟩ = some (.int .u8 (r2)) := by rw [blk_cell hZ]; rfl
  have x4 : W2.cell? ⟨w.heap.size, 4, none⟩ = some (.int .i64 (im)) := by rw [blk_cell hZ]; rfl
  have x5 : W2.cell? ⟨w.heap.size, 5, none⟩ = some (.int .u16 (cs)) := by rw [blk_cell hZ]; rfl
  have x6 : W2.cell? ⟨w.heap.size, 6, none⟩ = some (.int .u8 (sz)) := by rw [blk_cell hZ]; rfl
  have y0 : W2.cell? ⟨A, 0, none⟩ = some (.int .i64 l) := by rw [blk_cell hB]; rfl
  have y1 : W2.cell? ⟨A, 1, none⟩ = some (.int .i64 m) := by rw [blk_cell hB]; rfl
  have y2 : W2.cell? ⟨A, 2, none⟩ = some (.int .i64 s) := by rw [blk_cell hB]; rfl
  clear hZ hB hF
  (try simp only [Act.put, List.setIfInBounds_toArray, List.set_cons_zero, List.set_cons_succ])
  go_cut [7] (fun v wc => v = .bool b ∧ ∃ n, wc = W2.drewN n)
  case first =>
    rcases hcs.out with ⟨q1, rfl⟩ | ⟨q1, q2, rfl⟩ | ⟨q1, q2, rfl⟩
    all_goals
      go_wp2_with (go_at_call 16; (with_reducible refine (h3.out _).mono ?_); rintro e w' ⟨rfl, nn, rfl⟩)
      go_meet
      case rel => exact ⟨by first | rfl | simp_all, by first | exact ⟨0, rfl⟩ | exact ⟨_, rfl⟩⟩
  case rest =>
    obtain ⟨rfl, nc, rfl⟩ := hcut
    clear hcs
    go_wp2_with (first | (go_at_call 16; (with_reducible refine (h3.out _).mono ?_); rintro e w' ⟨rfl, nn, rfl⟩))
    go_ret
    exact ⟨rfl, HF.out.drewN _⟩
set_option maxRecDepth 100000 in
set_option maxHeartbeats 4000000 in
theorem chk_c (op rd r1 r2 im cs sz c l m s : Int) (b1 b2 b3  : Bool) (w : World) (h1 : Hid (∀ w, Calls Try.prog 38 #[.int .u8 op] w fun e w' => e = .returned (.tuple #[.bool b1, .bool b2, .bool b3]) ∧ ∃ n, w' = w.drewN n))
    (h2 : Hid (∀ w, Calls Try.prog 39 #[.int .u8 op] w fun e w' => e = .returned (.agg (BC (l, m, s))) ∧ Fr [] w w')) (h3 : Hid (∀ w, Calls Try.prog 16 #[.int .u8 op] w fun e w' => e = .returned (.int .u8 c) ∧ ∃ n, w' = w.drewN n))
    (hcs : Hid ((cs == 0) = true ∧ false = true ∨ (cs == 0) = false ∧ (c == 6) = true ∧ decide (cs < 4096) = false ∨ (cs == 0) = false ∧ (c == 6) = false ∧ false = false)) (t1 : (c == 8) = false) (t2 : (sz != 4) = false)  : Calls Try.prog 12 #[.agg #[.int .u8 op, .int .u8 rd, .int .u8 r1, .int .u8 r2, .int .i64 im, .int .u16 cs, .int .u8 sz]] w fun e w' => e = .returned (.int .i64 3) ∧ Fr [] w w' := by
  go_enter Try.func12, Try.ntmps12
  go_upto_region 2 with (go_at_call 38; (with_reducible refine (h1.out _).mono ?_); rintro e w' ⟨rfl, nn, rfl⟩)
  refine world_atF (fun W => W.heap[w.heap.size]? = some (.cells (IC (op, rd, r1, r2, im, cs, sz)) 25) ∧ Fr [] w W) ⟨show (World.drewN _ _).heap[w.heap.size]? = _ from blk_new _ _, ((Fr.refl [] w).alloc _).drewN _⟩ ?_
  rintro W ⟨hZ, hF⟩
  have HZ := hid hZ
  have HF := hid hF
  have x0 : W.cell? ⟨w.heap.size, 0, none⟩ = some (.int .u8 op) := by rw [blk_cell hZ]; rfl
  clear hZ hF h1
  go_upto_region 3 with (first | (go_at_call 39; (with_reducible refine (h2.out _).mono ?_); rintro e w1 ⟨rfl, hd⟩) | (refine wpList_store_whole rfl 63 _ _ rfl w1.heap.size rfl (BC (l, m, s)) rfl 63 _ (blk_new _ _) rfl (sizeB' _) (BC_one _) ?_; intro w2 hB hfr2))
  have hlt := lt_block HZ.out
  refine world_atF (fun W => W.heap[w.heap.size]? = some (.cells (IC (op, rd, r1, r2, im, cs, sz)) 25) ∧ W.heap[w1.heap.size]? = some (.cells (BC (l, m, s)) 63) ∧ Fr [] w W) ⟨hfr2.keeps (blk_alloc (hd.keeps HZ.out (by simp)) _) (by have := hd.size; simp; omega), hB, ((HF.out.trans hd).alloc _).step hfr2 (fun j hj => .inr (by rw [List.mem_singleton.1 hj]; have := hd.size; have := HF.out.size; omega))⟩ ?_
  clear hB hfr2 x0 HZ HF hlt h2
  rintro W2 ⟨hZ, hB, hF⟩
  generalize w1.heap.size = A at *
  clear hd
  have HF := hid hF
  have x0 : W2.cell? ⟨w.heap.size, 0, none⟩ = some (.int .u8 (op)) := by rw [blk_cell hZ]; rfl
  have x1 : W2.cell? ⟨w.heap.size, 1, none⟩ = some (.int .u8 (rd)) := by rw [blk_cell hZ]; rfl
  have x2 : W2.cell? ⟨w.heap.size, 2, none⟩ = some (.int .u8 (r1)) := by rw [blk_cell hZ]; rfl
  have x3 : W2.cell? ⟨w.heap.size, 3, none⟩ = some (.int .u8 (r2)) := by rw [blk_cell hZ]; rfl
  have x4 : W2.cell? ⟨w.heap.size, 4, none⟩ = some (.int .i64 (im)) := by rw [blk_cell hZ]; rfl
  have x5 : W2.cell? ⟨w.heap.size, 5, none⟩ = some (.int .u16 (cs)) := by rw [blk_cell hZ]; rfl
  have x6 : W2.cell? ⟨w.heap.size, 6, none⟩ = some (.int .u8 (sz)) := by rw [blk_cell hZ]; rfl
  have y0 : W2.cell? ⟨A, 0, none⟩ = some (.int .i64 l) := by rw [blk_cell hB]; rfl
  have y1 : W2.cell? ⟨A, 1, none⟩ = some (.int .i64 m) := by rw [blk_cell hB]; rfl
  have y2 : W2.cell? ⟨A, 2, none⟩ = some (.int .i64 s) := by rw [blk_cell hB]; rfl
  clear hZ hB hF
  (try simp only [Act.put, List.setIfInBounds_toArray, List.set_cons_zero, List.set_cons_succ])
  go_cut [7] (fun v wc => v = .bool false ∧ ∃ n, wc = W2.drewN n)
  case first =>
    rcases hcs.out with ⟨-, q3⟩ | ⟨q1, q2, q3⟩ | ⟨q1, q2, -⟩
    · cases q3
    all_goals
      go_wp2_with (go_at_call 16; (with_reducible refine (h3.out _).mono ?_); rintro e w' ⟨rfl, nn, rfl⟩)
      go_meet
      case rel => exact ⟨by first | rfl | simp_all, by first | exact ⟨0, rfl⟩ | exact ⟨_, rfl⟩⟩
  case rest =>
    obtain ⟨rfl, nc, rfl⟩ := hcut
    clear hcs
    go_wp2_with (first | (go_at_call 16; (with_reducible refine (h3.out _).mono ?_); rintro e w' ⟨rfl, nn, rfl⟩))
    go_ret
    exact ⟨rfl, HF.out.drewN _⟩
set_option maxRecDepth 100000 in
set_option maxHeartbeats 4000000 in
theorem chk_d1 (op rd r1 r2 im cs sz c l m s : Int) (b1 b2 b3  : Bool) (w : World) (h1 : Hid (∀ w, Calls Try.prog 38 #[.int .u8 op] w fun e w' => e = .returned (.tuple #[.bool b1, .bool b2, .bool b3]) ∧ ∃ n, w' = w.drewN n))
    (h2 : Hid (∀ w, Calls Try.prog 39 #[.int .u8 op] w fun e w' => e = .returned (.agg (BC (l, m, s))) ∧ Fr [] w w')) (h3 : Hid (∀ w, Calls Try.prog 16 #[.int .u8 op] w fun e w' => e = .returned (.int .u8 c) ∧ ∃ n, w' = w.drewN n)) (f1 : Hid (∀ w, Calls Try.prog 40 #[.int .u8 rd, .bool b1] w fun e w' => e = .returned (.bool false) ∧ w = w'))
    (hcs : Hid ((cs == 0) = true ∧ true = true ∨ (cs == 0) = false ∧ (c == 6) = true ∧ decide (cs < 4096) = true ∨ (cs == 0) = false ∧ (c == 6) = false ∧ true = false)) (t1 : (c == 8) = false) (t2 : (sz != 4) = false)  : Calls Try.prog 12 #[.agg #[.int .u8 op, .int .u8 rd, .int .u8 r1, .int .u8 r2, .int .i64 im, .int .u16 cs, .int .u8 sz]] w fun e w' => e = .returned (.int .i64 3) ∧ Fr [] w w' := by
  go_enter Try.func12, Try.ntmps12
  go_upto_region 2 with (go_at_call 38; (with_reducible refine (h1.out _).mono ?_); rintro e w' ⟨rfl, nn, rfl⟩)
  refine world_atF (fun W => W.heap[w.heap.size]? = some (.cells (IC (op, rd, r1, r2, im, cs, sz)) 25) ∧ Fr [] w W) ⟨show (World.drewN _ _).heap[w.heap.size]? = _ from blk_new _ _, ((Fr.refl [] w).alloc _).drewN _⟩ ?_
  rintro W ⟨hZ, hF⟩
  have HZ := hid hZ
  have HF := hid hF
  have x0 : W.cell? ⟨w.heap.size, 0, none⟩ = some (.int .u8 op) := by rw [blk_cell hZ]; rfl
  clear hZ hF h1
  go_upto_region 3 with (first | (go_at_call 39; (with_reducible refine (h2.out _).mono ?_); rintro e w1 ⟨rfl, hd⟩) | (refine wpList_store_whole rfl 63 _ _ rfl w1.heap.size rfl (BC (l, m, s)) rfl 63 _ (blk_new _ _) rfl (sizeB' _) (BC_one _) ?_; intro w2 hB hfr2))
  have hlt := lt_block HZ.out
  refine world_atF (fun W => W.heap[w.heap.size]? = some (.cells (IC (op, rd, r1, r2, im, cs, sz)) 25) ∧ W.heap[w1.heap.size]? = some (.cells (BC (l, m, s)) 63) ∧ Fr [] w W) ⟨hfr2.keeps (blk_alloc (hd.keeps HZ.out (by simp)) _) (by have := hd.size; simp; omega), hB, ((HF.out.trans hd).alloc _).step hfr2 (fun j hj => .inr (by rw [List.mem_singleton.1 hj]; have := hd.size; have := HF.out.size; omega))⟩ ?_
  clear hB hfr2 x0 HZ HF hlt h2
  rintro W2 ⟨hZ, hB, hF⟩
  generalize w1.heap.size = A at *
  clear hd
  have HF := hid hF
  have x0 : W2.cell? ⟨w.heap.size, 0, none⟩ = some (.int .u8 (op)) := by rw [blk_cell hZ]; rfl
  have x1 : W2.cell? ⟨w.heap.size, 1, none⟩ = some (.int .u8 (rd)) := by rw [blk_cell hZ]; rfl
  have x2 : W2.cell? ⟨w.heap.size, 2, none⟩ = some (.int .u8 (r1)) := by rw [blk_cell hZ]; rfl
  have x3 : W2.cell? ⟨w.heap.size, 3, none⟩ = some (.int .u8 (r2)) := by rw [blk_cell hZ]; rfl
  have x4 : W2.cell? ⟨w.heap.size, 4, none⟩ = some (.int .i64 (im)) := by rw [blk_cell hZ]; rfl
  have x5 : W2.cell? ⟨w.heap.size, 5, none⟩ = some (.int .u16 (cs)) := by rw [blk_cell hZ]; rfl
  have x6 : W2.cell? ⟨w.heap.size, 6, none⟩ = some (.int .u8 (sz)) := by rw [blk_cell hZ]; rfl
  have y0 : W2.cell? ⟨A, 0, none⟩ = some (.int .i64 l) := by rw [blk_cell hB]; rfl
  have y1 : W2.cell? ⟨A, 1, none⟩ = some (.int .i64 m) := by rw [blk_cell hB]; rfl
  have y2 : W2.cell? ⟨A, 2, none⟩ = some (.int .i64 s) := by rw [blk_cell hB]; rfl
  clear hZ hB hF
  (try simp only [Act.put, List.setIfInBounds_toArray, List.set_cons_zero, List.set_cons_succ])
  go_cut [7] (fun v wc => v = .bool true ∧ ∃ n, wc = W2.drewN n)
  case first =>
    rcases hcs.out with ⟨q1, -⟩ | ⟨q1, q2, q3⟩ | ⟨-, -, q3⟩
    rotate_right
    · cases q3
    all_goals
      go_wp2_with (go_at_call 16; (with_reducible refine (h3.out _).mono ?_); rintro e w' ⟨rfl, nn, rfl⟩)
      go_meet
      case rel => exact ⟨by first | rfl | simp_all, by first | exact ⟨0, rfl⟩ | exact ⟨_, rfl⟩⟩
  case rest =>
    obtain ⟨rfl, nc, rfl⟩ := hcut
    clear hcs
    go_wp2_with (first | (go_at_call 16; (with_reducible refine (h3.out _).mono ?_); rintro e w' ⟨rfl, nn, rfl⟩) | (go_at_call 40; (with_reducible refine (f1.out _).mono ?_); rintro e w' ⟨rfl, rfl⟩))
    go_ret
    exact ⟨rfl, HF.out.drewN _⟩
set_option maxRecDepth 100000 in
set_option maxHeartbeats 4000000 in
theorem chk_d2 (op rd r1 r2 im cs sz c l m s : Int) (b1 b2 b3  : Bool) (w : World) (h1 : Hid (∀ w, Calls Try.prog 38 #[.int .u8 op] w fun e w' => e = .returned (.tuple #[.bool b1, .bool b2, .bool b3]) ∧ ∃ n, w' = w.drewN n))
    (h2 : Hid (∀ w, Calls Try.prog 39 #[.int .u8 op] w fun e w' => e = .returned (.agg (BC (l, m, s))) ∧ Fr [] w w')) (h3 : Hid (∀ w, Calls Try.prog 16 #[.int .u8 op] w fun e w' => e = .returned (.int .u8 c) ∧ ∃ n, w' = w.drewN n)) (f1 : Hid (∀ w, Calls Try.prog 40 #[.int .u8 rd, .bool b1] w fun e w' => e = .returned (.bool true) ∧ w = w')) (f2 : Hid (∀ w, Calls Try.prog 40 #[.int .u8 r1, .bool b2] w fun e w' => e = .returned (.bool false) ∧ w = w'))
    (hcs : Hid ((cs == 0) = true ∧ true = true ∨ (cs == 0) = false ∧ (c == 6) = true ∧ decide (cs < 4096) = true ∨ (cs == 0) = false ∧ (c == 6) = false ∧ true = false)) (t1 : (c == 8) = false) (t2 : (sz != 4) = false)  : Calls Try.prog 12 #[.agg #[.int .u8 op, .int .u8 rd, .int .u8 r1, .int .u8 r2, .int .i64 im, .int .u16 cs, .int .u8 sz]] w fun e w' => e = .returned (.int .i64 3) ∧ Fr [] w w' := by
  go_enter Try.func12, Try.ntmps12
  go_upto_region 2 with (go_at_call 38; (with_reducible refine (h1.out _).mono ?_); rintro e w' ⟨rfl, nn, rfl⟩)
  refine world_atF (fun W => W.heap[w.heap.size]? = some (.cells (IC (op, rd, r1, r2, im, cs, sz)) 25) ∧ Fr [] w W) ⟨show (World.drewN _ _).heap[w.heap.size]? = _ from blk_new _ _, ((Fr.refl [] w).alloc _).drewN _⟩ ?_
  rintro W ⟨hZ, hF⟩
  have HZ := hid hZ
  have HF := hid hF
  have x0 : W.cell? ⟨w.heap.size, 0, none⟩ = some (.int .u8 op) := by rw [blk_cell hZ]; rfl
  clear hZ hF h1
  go_upto_region 3 with (first | (go_at_call 39; (with_reducible refine (h2.out _).mono ?_); rintro e w1 ⟨rfl, hd⟩) | (refine wpList_store_whole rfl 63 _ _ rfl w1.heap.size rfl (BC (l, m, s)) rfl 63 _ (blk_new _ _) rfl (sizeB' _) (BC_one _) ?_; intro w2 hB hfr2))
  have hlt := lt_block HZ.out
  refine world_atF (fun W => W.heap[w.heap.size]? = some (.cells (IC (op, rd, r1, r2, im, cs, sz)) 25) ∧ W.heap[w1.heap.size]? = some (.cells (BC (l, m, s)) 63) ∧ Fr [] w W) ⟨hfr2.keeps (blk_alloc (hd.keeps HZ.out (by simp)) _) (by have := hd.size; simp; omega), hB, ((HF.out.trans hd).alloc _).step hfr2 (fun j hj => .inr (by rw [List.mem_singleton.1 hj]; have := hd.size; have := HF.out.size; omega))⟩ ?_
  clear hB hfr2 x0 HZ HF hlt h2
  rintro W2 ⟨hZ, hB, hF⟩
  generalize w1.heap.size = A at *
  clear hd
  have HF := hid hF
  have x0 : W2.cell? ⟨w.heap.size, 0, none⟩ = some (.int .u8 (op)) := by rw [blk_cell hZ]; rfl
  have x1 : W2.cell? ⟨w.heap.size, 1, none⟩ = some (.int .u8 (rd)) := by rw [blk_cell hZ]; rfl
  have x2 : W2.cell? ⟨w.heap.size, 2, none⟩ = some (.int .u8 (r1)) := by rw [blk_cell hZ]; rfl
  have x3 : W2.cell? ⟨w.heap.size, 3, none⟩ = some (.int .u8 (r2)) := by rw [blk_cell hZ]; rfl
  have x4 : W2.cell? ⟨w.heap.size, 4, none⟩ = some (.int .i64 (im)) := by rw [blk_cell hZ]; rfl
  have x5 : W2.cell? ⟨w.heap.size, 5, none⟩ = some (.int .u16 (cs)) := by rw [blk_cell hZ]; rfl
  have x6 : W2.cell? ⟨w.heap.size, 6, none⟩ = some (.int .u8 (sz)) := by rw [blk_cell hZ]; rfl
  have y0 : W2.cell? ⟨A, 0, none⟩ = some (.int .i64 l) := by rw [blk_cell hB]; rfl
  have y1 : W2.cell? ⟨A, 1, none⟩ = some (.int .i64 m) := by rw [blk_cell hB]; rfl
  have y2 : W2.cell? ⟨A, 2, none⟩ = some (.int .i64 s) := by rw [blk_cell hB]; rfl
  clear hZ hB hF
  (try simp only [Act.put, List.setIfInBounds_toArray, List.set_cons_zero, List.set_cons_succ])
  go_cut [7] (fun v wc => v = .bool true ∧ ∃ n, wc = W2.drewN n)
  case first =>
    rcases hcs.out with ⟨q1, -⟩ | ⟨q1, q2, q3⟩ | ⟨-, -, q3⟩
    rotate_right
    · cases q3
    all_goals
      go_wp2_with (go_at_call 16; (with_reducible refine (h3.out _).mono ?_); rintro e w' ⟨rfl, nn, rfl⟩)
      go_meet
      case rel => exact ⟨by first | rfl | simp_all, by first | exact ⟨0, rfl⟩ | exact ⟨_, rfl⟩⟩
  case rest =>
    obtain ⟨rfl, nc, rfl⟩ := hcut
    clear hcs
    go_wp2_with (first | (go_at_call 16; (with_reducible refine (h3.out _).mono ?_); rintro e w' ⟨rfl, nn, rfl⟩) | (go_at_call 40; (with_reducible refine (f1.out _).mono ?_); rintro e w' ⟨rfl, rfl⟩) | (go_at_call 40; (with_reducible refine (f2.out _).mono ?_); rintro e w' ⟨rfl, rfl⟩))
    go_ret
    exact ⟨rfl, HF.out.drewN _⟩
set_option maxRecDepth 100000 in
set_option maxHeartbeats 4000000 in
theorem chk_d3 (op rd r1 r2 im cs sz c l m s : Int) (b1 b2 b3  : Bool) (w : World) (h1 : Hid (∀ w, Calls Try.prog 38 #[.int .u8 op] w fun e w' => e = .returned (.tuple #[.bool b1, .bool b2, .bool b3]) ∧ ∃ n, w' = w.drewN n))
    (h2 : Hid (∀ w, Calls Try.prog 39 #[.int .u8 op] w fun e w' => e = .returned (.agg (BC (l, m, s))) ∧ Fr [] w w')) (h3 : Hid (∀ w, Calls Try.prog 16 #[.int .u8 op] w fun e w' => e = .returned (.int .u8 c) ∧ ∃ n, w' = w.drewN n)) (f1 : Hid (∀ w, Calls Try.prog 40 #[.int .u8 rd, .bool b1] w fun e w' => e = .returned (.bool true) ∧ w = w')) (f2 : Hid (∀ w, Calls Try.prog 40 #[.int .u8 r1, .bool b2] w fun e w' => e = .returned (.bool true) ∧ w = w')) (f3 : Hid (∀ w, Calls Try.prog 40 #[.int .u8 r2, .bool b3] w fun e w' => e = .returned (.bool false) ∧ w = w'))
    (hcs : Hid ((cs == 0) = true ∧ true = true ∨ (cs == 0) = false ∧ (c == 6) = true ∧ decide (cs < 4096) = true ∨ (cs == 0) = false ∧ (c == 6) = false ∧ true = false)) (t1 : (c == 8) = false) (t2 : (sz != 4) = false)  : Calls Try.prog 12 #[.agg #[.int .u8 op, .int .u8 rd, .int .u8 r1, .int .u8 r2, .int .i64 im, .int .u16 cs, .int .u8 sz]] w fun e w' => e = .returned (.int .i64 3) ∧ Fr [] w w' := by
  go_enter Try.func12, Try.ntmps12
  go_upto_region 2 with (go_at_call 38; (with_reducible refine (h1.out _).mono ?_); rintro e w' ⟨rfl, nn, rfl⟩)
  refine world_atF (fun W => W.heap[w.heap.size]? = some (.cells (IC (op, rd, r1, r2, im, cs, sz)) 25) ∧ Fr [] w W) ⟨show (World.drewN _ _).heap[w.heap.size]? = _ from blk_new _ _, ((Fr.refl [] w).alloc _).drewN _⟩ ?_
  rintro W ⟨hZ, hF⟩
  have HZ := hid hZ
  have HF := hid hF
  have x0 : W.cell? ⟨w.heap.size, 0, none⟩ = some (.int .u8 op) := by rw [blk_cell hZ]; rfl
  clear hZ hF h1
  go_upto_region 3 with (first | (go_at_call 39; (with_reducible refine (h2.out _).mono ?_); rintro e w1 ⟨rfl, hd⟩) | (refine wpList_store_whole rfl 63 _ _ rfl w1.heap.size rfl (BC (l, m, s)) rfl 63 _ (blk_new _ _) rfl (sizeB' _) (BC_one _) ?_; intro w2 hB hfr2))
  have hlt := lt_block HZ.out
  refine world_atF (fun W => W.heap[w.heap.size]? = some (.cells (IC (op, rd, r1, r2, im, cs, sz)) 25) ∧ W.heap[w1.heap.size]? = some (.cells (BC (l, m, s)) 63) ∧ Fr [] w W) ⟨hfr2.keeps (blk_alloc (hd.keeps HZ.out (by simp)) _) (by have := hd.size; simp; omega), hB, ((HF.out.trans hd).alloc _).step hfr2 (fun j hj => .inr (by rw [List.mem_singleton.1 hj]; have := hd.size; have := HF.out.size; omega))⟩ ?_
  clear hB hfr2 x0 HZ HF hlt h2
  rintro W2 ⟨hZ, hB, hF⟩
  generalize w1.heap.size = A at *
  clear hd
  have HF := hid hF
  have x0 : W2.cell? ⟨w.heap.size, 0, none⟩ = some (.int .u8 (op)) := by rw [blk_cell hZ]; rfl
  have x1 : W2.cell? ⟨w.heap.size, 1, none⟩ = some (.int .u8 (rd)) := by rw [blk_cell hZ]; rfl
  have x2 : W2.cell? ⟨w.heap.size, 2, none⟩ = some (.int .u8 (r1)) := by rw [blk_cell hZ]; rfl
  have x3 : W2.cell? ⟨w.heap.size, 3, none⟩ = some (.int .u8 (r2)) := by rw [blk_cell hZ]; rfl
  have x4 : W2.cell? ⟨w.heap.size, 4, none⟩ = some (.int .i64 (im)) := by rw [blk_cell hZ]; rfl
  have x5 : W2.cell? ⟨w.heap.size, 5, none⟩ = some (.int .u16 (cs)) := by rw [blk_cell hZ]; rfl
  have x6 : W2.cell? ⟨w.heap.size, 6, none⟩ = some (.int .u8 (sz)) := by rw [blk_cell hZ]; rfl
  have y0 : W2.cell? ⟨A, 0, none⟩ = some (.int .i64 l) := by rw [blk_cell hB]; rfl
  have y1 : W2.cell? ⟨A, 1, none⟩ = some (.int .i64 m) := by rw [blk_cell hB]; rfl
  have y2 : W2.cell? ⟨A, 2, none⟩ = some (.int .i64 s) := by rw [blk_cell hB]; rfl
  clear hZ hB hF
  (try simp only [Act.put, List.setIfInBounds_toArray, List.set_cons_zero, List.set_cons_succ])
  go_cut [7] (fun v wc => v = .bool true ∧ ∃ n, wc = W2.drewN n)
  case first =>
    rcases hcs.out with ⟨q1, -⟩ | ⟨q1, q2, q3⟩ | ⟨-, -, q3⟩
    rotate_right
    · cases q3
    all_goals
      go_wp2_with (go_at_call 16; (with_reducible refine (h3.out _).mono ?_); rintro e w' ⟨rfl, nn, rfl⟩)
      go_meet
      case rel => exact ⟨by first | rfl | simp_all, by first | exact ⟨0, rfl⟩ | exact ⟨_, rfl⟩⟩
  case rest =>
    obtain ⟨rfl, nc, rfl⟩ := hcut
    clear hcs
    go_wp2_with (first | (go_at_call 16; (with_reducible refine (h3.out _).mono ?_); rintro e w' ⟨rfl, nn, rfl⟩) | (go_at_call 40; (with_reducible refine (f1.out _).mono ?_); rintro e w' ⟨rfl, rfl⟩) | (go_at_call 40; (with_reducible refine (f2.out _).mono ?_); rintro e w' ⟨rfl, rfl⟩) | (go_at_call 40; (with_reducible refine (f3.out _).mono ?_); rintro e w' ⟨rfl, rfl⟩))
    go_ret
    exact ⟨rfl, HF.out.drewN _⟩
set_option maxRecDepth 100000 in
set_option maxHeartbeats 4000000 in
theorem chk_e (op rd r1 r2 im cs sz c l m s : Int) (b1 b2 b3  : Bool) (w : World) (h1 : Hid (∀ w, Calls Try.prog 38 #[.int .u8 op] w fun e w' => e = .returned (.tuple #[.bool b1, .bool b2, .bool b3]) ∧ ∃ n, w' = w.drewN n))
    (h2 : Hid (∀ w, Calls Try.prog 39 #[.int .u8 op] w fun e w' => e = .returned (.agg (BC (l, m, s))) ∧ Fr [] w w')) (h3 : Hid (∀ w, Calls Try.prog 16 #[.int .u8 op] w fun e w' => e = .returned (.int .u8 c) ∧ ∃ n, w' = w.drewN n)) (f1 : Hid (∀ w, Calls Try.prog 40 #[.int .u8 rd, .bool b1] w fun e w' => e = .returned (.bool true) ∧ w = w')) (f2 : Hid (∀ w, Calls Try.prog 40 #[.int .u8 r1, .bool b2] w fun e w' => e = .returned (.bool true) ∧ w = w')) (f3 : Hid (∀ w, Calls Try.prog 40 #[.int .u8 r2, .bool b3] w fun e w' => e = .returned (.bool true) ∧ w = w'))
    (hcs : Hid ((cs == 0) = true ∧ true = true ∨ (cs == 0) = false ∧ (c == 6) = true ∧ decide (cs < 4096) = true ∨ (cs == 0) = false ∧ (c == 6) = false ∧ true = false)) (t1 : (c == 8) = false) (t2 : (sz != 4) = false) (t3 : decide (im < l) = true) : Calls Try.prog 12 #[.agg #[.int .u8 op, .int .u8 rd, .int .u8 r1, .int .u8 r2, .int .i64 im, .int .u16 cs, .int .u8 sz]] w fun e w' => e = .returned (.int .i64 3) ∧ Fr [] w w' := by
  go_enter Try.func12, Try.ntmps12
  go_upto_region 2 with (go_at_call 38; (with_reducible refine (h1.out _).mono ?_); rintro e w' ⟨rfl, nn, rfl⟩)
  refine world_atF (fun W => W.heap[w.heap.size]? = some (.cells (IC (op, rd, r1, r2, im, cs, sz)) 25) ∧ Fr [] w W) ⟨show (World.drewN _ _).heap[w.heap.size]? = _ from blk_new _ _, ((Fr.refl [] w).alloc _).drewN _⟩ ?_
  rintro W ⟨hZ, hF⟩
  have HZ := hid hZ
  have HF := hid hF
  have x0 : W.cell? ⟨w.heap.size, 0, none⟩ = some (.int .u8 op) := by rw [blk_cell hZ]; rfl
  clear hZ hF h1
  go_upto_region 3 with (first | (go_at_call 39; (with_reducible refine (h2.out _).mono ?_); rintro e w1 ⟨rfl, hd⟩) | (refine wpList_store_whole rfl 63 _ _ rfl w1.heap.size rfl (BC (l, m, s)) rfl 63 _ (blk_new _ _) rfl (sizeB' _) (BC_one _) ?_; intro w2 hB hfr2))
  have hlt := lt_block HZ.out
  refine world_atF (fun W => W.heap[w.heap.size]? = some (.cells (IC (op, rd, r1, r2, im, cs, sz)) 25) ∧ W.heap[w1.heap.size]? = some (.cells (BC (l, m, s)) 63) ∧ Fr [] w W) ⟨hfr2.keeps (blk_alloc (hd.keeps HZ.out (by simp)) _) (by have := hd.size; simp; omega), hB, ((HF.out.trans hd).alloc _).step hfr2 (fun j hj => .inr (by rw [List.mem_singleton.1 hj]; have := hd.size; have := HF.out.size; omega))⟩ ?_
  clear hB hfr2 x0 HZ HF hlt h2
  rintro W2 ⟨hZ, hB, hF⟩
  generalize w1.heap.size = A at *
  clear hd
  have HF := hid hF
  have x0 : W2.cell? ⟨w.heap.size, 0, none⟩ = some (.int .u8 (op)) := by rw [blk_cell hZ]; rfl
  have x1 : W2.cell? ⟨w.heap.size, 1, none⟩ = some (.int .u8 (rd)) := by rw [blk_cell hZ]; rfl
  have x2 : W2.cell? ⟨w.heap.size, 2, none⟩ = some (.int .u8 (r1)) := by rw [blk_cell hZ]; rfl
  have x3 : W2.cell? ⟨w.heap.size, 3, none⟩ = some (.int .u8 (r2)) := by rw [blk_cell hZ]; rfl
  have x4 : W2.cell? ⟨w.heap.size, 4, none⟩ = some (.int .i64 (im)) := by rw [blk_cell hZ]; rfl
  have x5 : W2.cell? ⟨w.heap.size, 5, none⟩ = some (.int .u16 (cs)) := by rw [blk_cell hZ]; rfl
  have x6 : W2.cell? ⟨w.heap.size, 6, none⟩ = some (.int .u8 (sz)) := by rw [blk_cell hZ]; rfl
  have y0 : W2.cell? ⟨A, 0, none⟩ = some (.int .i64 l) := by rw [blk_cell hB]; rfl
  have y1 : W2.cell? ⟨A, 1, none⟩ = some (.int .i64 m) := by rw [blk_cell hB]; rfl
  have y2 : W2.cell? ⟨A, 2, none⟩ = some (.int .i64 s) := by rw [blk_cell hB]; rfl
  clear hZ hB hF
  (try simp only [Act.put, List.setIfInBounds_toArray, List.set_cons_zero, List.set_cons_succ])
  go_cut [7] (fun v wc => v = .bool true ∧ ∃ n, wc = W2.drewN n)
  case first =>
    rcases hcs.out with ⟨q1, -⟩ | ⟨q1, q2, q3⟩ | ⟨-, -, q3⟩
    rotate_right
    · cases q3
    all_goals
      go_wp2_with (go_at_call 16; (with_reducible refine (h3.out _).mono ?_); rintro e w' ⟨rfl, nn, rfl⟩)
      go_meet
      case rel => exact ⟨by first | rfl | simp_all, by first | exact ⟨0, rfl⟩ | exact ⟨_, rfl⟩⟩
  case rest =>
    obtain ⟨rfl, nc, rfl⟩ := hcut
    clear hcs
    go_wp2_with (first | (go_at_call 16; (with_reducible refine (h3.out _).mono ?_); rintro e w' ⟨rfl, nn, rfl⟩) | (go_at_call 40; (with_reducible refine (f1.out _).mono ?_); rintro e w' ⟨rfl, rfl⟩) | (go_at_call 40; (with_reducible refine (f2.out _).mono ?_); rintro e w' ⟨rfl, rfl⟩) | (go_at_call 40; (with_reducible refine (f3.out _).mono ?_); rintro e w' ⟨rfl, rfl⟩))
    go_ret
    exact ⟨rfl, HF.out.drewN _⟩
set_option maxRecDepth 100000 in
set_option maxHeartbeats 4000000 in
theorem chk_f (op rd r1 r2 im cs sz c l m s : Int) (b1 b2 b3  : Bool) (w : World) (h1 : Hid (∀ w, Calls Try.prog 38 #[.int .u8 op] w fun e w' => e = .returned (.tuple #[.bool b1, .bool b2, .bool b3]) ∧ ∃ n, w' = w.drewN n))
    (h2 : Hid (∀ w, Calls Try.prog 39 #[.int .u8 op] w fun e w' => e = .returned (.agg (BC (l, m, s))) ∧ Fr [] w w')) (h3 : Hid (∀ w, Calls Try.prog 16 #[.int .u8 op] w fun e w' => e = .returned (.int .u8 c) ∧ ∃ n, w' = w.drewN n)) (f1 : Hid (∀ w, Calls Try.prog 40 #[.int .u8 rd, .bool b1] w fun e w' => e = .returned (.bool true) ∧ w = w')) (f2 : Hid (∀ w, Calls Try.prog 40 #[.int .u8 r1, .bool b2] w fun e w' => e = .returned (.bool true) ∧ w = w')) (f3 : Hid (∀ w, Calls Try.prog 40 #[.int .u8 r2, .bool b3] w fun e w' => e = .returned (.bool true) ∧ w = w'))
    (hcs : Hid ((cs == 0) = true ∧ true = true ∨ (cs == 0) = false ∧ (c == 6) = true ∧ decide (cs < 4096) = true ∨ (cs == 0) = false ∧ (c == 6) = false ∧ true = false)) (t1 : (c == 8) = false) (t2 : (sz != 4) = false) (t3 : decide (im < l) = false) (t4 : decide (m < im) = true) : Calls Try.prog 12 #[.agg #[.int .u8 op, .int .u8 rd, .int .u8 r1, .int .u8 r2, .int .i64 im, .int .u16 cs, .int .u8 sz]] w fun e w' => e = .returned (.int .i64 3) ∧ Fr [] w w' := by
  go_enter Try.func12, Try.ntmps12
  go_upto_region 2 with (go_at_call 38; (with_reducible refine (h1.out _).mono ?_); rintro e w' ⟨rfl, nn, rfl⟩)
  refine world_atF (fun W => W.heap[w.heap.size]? = some (.cells (IC (op, rd, r1, r2, im, cs, sz)) 25) ∧ Fr [] w W) ⟨show (World.drewN _ _).heap[w.heap.size]? = _ from blk_new _ _, ((Fr.refl [] w).alloc _).drewN _⟩ ?_
  rintro W ⟨hZ, hF⟩
  have HZ := hid hZ
  have HF := hid hF
  have x0 : W.cell? ⟨w.heap.size, 0, none⟩ = some (.int .u8 op) := by rw [blk_cell hZ]; rfl
  clear hZ hF h1
  go_upto_region 3 with (first | (go_at_call 39; (with_reducible refine (h2.out _).mono ?_); rintro e w1 ⟨rfl, hd⟩) | (refine wpList_store_whole rfl 63 _ _ rfl w1.heap.size rfl (BC (l, m, s)) rfl 63 _ (blk_new _ _) rfl (sizeB' _) (BC_one _) ?_; intro w2 hB hfr2))
  have hlt := lt_block HZ.out
  refine world_atF (fun W => W.heap[w.heap.size]? = some (.cells (IC (op, rd, r1, r2, im, cs, sz)) 25) ∧ W.heap[w1.heap.size]? = some (.cells (BC (l, m, s)) 63) ∧ Fr [] w W) ⟨hfr2.keeps (blk_alloc (hd.keeps HZ.out (by simp)) _) (by have := hd.size; simp; omega), hB, ((HF.out.trans hd).alloc _).step hfr2 (fun j hj => .inr (by rw [List.mem_singleton.1 hj]; have := hd.size; have := HF.out.size; omega))⟩ ?_
  clear hB hfr2 x0 HZ HF hlt h2
  rintro W2 ⟨hZ, hB, hF⟩
  generalize w1.heap.size = A at *
  clear hd
  have HF := hid hF
  have x0 : W2.cell? ⟨w.heap.size, 0, none⟩ = some (.int .u8 (op)) := by rw [blk_cell hZ]; rfl
  have x1 : W2.cell? ⟨w.heap.size, 1, none⟩ = some (.int .u8 (rd)) := by rw [blk_cell hZ]; rfl
  have x2 : W2.cell? ⟨w.heap.size, 2, none⟩ = some (.int .u8 (r1)) := by rw [blk_cell hZ]; rfl
  have x3 : W2.cell? ⟨w.heap.size, 3, none⟩ = some (.int .u8 (r2)) := by rw [blk_cell hZ]; rfl
  have x4 : W2.cell? ⟨w.heap.size, 4, none⟩ = some (.int .i64 (im)) := by rw [blk_cell hZ]; rfl
  have x5 : W2.cell? ⟨w.heap.size, 5, none⟩ = some (.int .u16 (cs)) := by rw [blk_cell hZ]; rfl
  have x6 : W2.cell? ⟨w.heap.size, 6, none⟩ = some (.int .u8 (sz)) := by rw [blk_cell hZ]; rfl
  have y0 : W2.cell? ⟨A, 0, none⟩ = some (.int .i64 l) := by rw [blk_cell hB]; rfl
  have y1 : W2.cell? ⟨A, 1, none⟩ = some (.int .i64 m) := by rw [blk_cell hB]; rfl
  have y2 : W2.cell? ⟨A, 2, none⟩ = some (.int .i64 s) := by rw [blk_cell hB]; rfl
  clear hZ hB hF
  (try simp only [Act.put, List.setIfInBounds_toArray, List.set_cons_zero, List.set_cons_succ])
  go_cut [7] (fun v wc => v = .bool true ∧ ∃ n, wc = W2.drewN n)
  case first =>
    rcases hcs.out with ⟨q1, -⟩ | ⟨q1, q2, q3⟩ | ⟨-, -, q3⟩
    rotate_right
    · cases q3
    all_goals
      go_wp2_with (go_at_call 16; (with_reducible refine (h3.out _).mono ?_); rintro e w' ⟨rfl, nn, rfl⟩)
      go_meet
      case rel => exact ⟨by first | rfl | simp_all, by first | exact ⟨0, rfl⟩ | exact ⟨_, rfl⟩⟩
  case rest =>
    obtain ⟨rfl, nc, rfl⟩ := hcut
    clear hcs
    go_wp2_with (first | (go_at_call 16; (with_reducible refine (h3.out _).mono ?_); rintro e w' ⟨rfl, nn, rfl⟩) | (go_at_call 40; (with_reducible refine (f1.out _).mono ?_); rintro e w' ⟨rfl, rfl⟩) | (go_at_call 40; (with_reducible refine (f2.out _).mono ?_); rintro e w' ⟨rfl, rfl⟩) | (go_at_call 40; (with_reducible refine (f3.out _).mono ?_); rintro e w' ⟨rfl, rfl⟩))
    go_ret
    exact ⟨rfl, HF.out.drewN _⟩
set_option maxRecDepth 100000 in
set_option maxHeartbeats 4000000 in
theorem chk_g (op rd r1 r2 im cs sz c l m s : Int) (b1 b2 b3  : Bool) (w : World) (h1 : Hid (∀ w, Calls Try.prog 38 #[.int .u8 op] w fun e w' => e = .returned (.tuple #[.bool b1, .bool b2, .bool b3]) ∧ ∃ n, w' = w.drewN n))
    (h2 : Hid (∀ w, Calls Try.prog 39 #[.int .u8 op] w fun e w' => e = .returned (.agg (BC (l, m, s))) ∧ Fr [] w w')) (h3 : Hid (∀ w, Calls Try.prog 16 #[.int .u8 op] w fun e w' => e = .returned (.int .u8 c) ∧ ∃ n, w' = w.drewN n)) (f1 : Hid (∀ w, Calls Try.prog 40 #[.int .u8 rd, .bool b1] w fun e w' => e = .returned (.bool true) ∧ w = w')) (f2 : Hid (∀ w, Calls Try.prog 40 #[.int .u8 r1, .bool b2] w fun e w' => e = .returned (.bool true) ∧ w = w')) (f3 : Hid (∀ w, Calls Try.prog 40 #[.int .u8 r2, .bool b3] w fun e w' => e = .returned (.bool true) ∧ w = w'))
    (hcs : Hid ((cs == 0) = true ∧ true = true ∨ (cs == 0) = false ∧ (c == 6) = true ∧ decide (cs < 4096) = true ∨ (cs == 0) = false ∧ (c == 6) = false ∧ true = false)) (t1 : (c == 8) = false) (t2 : (sz != 4) = false) (t3 : decide (im < l) = false) (t4 : decide (m < im) = false) (t5 : ¬ s = 0) (t6 : (im.tmod s != 0) = true) : Calls Try.prog 12 #[.agg #[.int .u8 op, .int .u8 rd, .int .u8 r1, .int .u8 r2, .int .i64 im, .int .u16 cs, .int .u8 sz]] w fun e w' => e = .returned (.int .i64 3) ∧ Fr [] w w' := by
  go_enter Try.func12, Try.ntmps12
  go_upto_region 2 with (go_at_call 38; (with_reducible refine (h1.out _).mono ?_); rintro e w' ⟨rfl, nn, rfl⟩)
  refine world_atF (fun W => W.heap[w.heap.size]? = some (.cells (IC (op, rd, r1, r2, im, cs, sz)) 25) ∧ Fr [] w W) ⟨show (World.drewN _ _).heap[w.heap.size]? = _ from blk_new _ _, ((Fr.refl [] w).alloc _).drewN _⟩ ?_
  rintro W ⟨hZ, hF⟩
  have HZ := hid hZ
  have HF := hid hF
  have x0 : W.cell? ⟨w.heap.size, 0, none⟩ = some (.int .u8 op) := by rw [blk_cell hZ]; rfl
  clear hZ hF h1
  go_upto_region 3 with (first | (go_at_call 39; (with_reducible refine (h2.out _).mono ?_); rintro e w1 ⟨rfl, hd⟩) | (refine wpList_store_whole rfl 63 _ _ rfl w1.heap.size rfl (BC (l, m, s)) rfl 63 _ (blk_new _ _) rfl (sizeB' _) (BC_one _) ?_; intro w2 hB hfr2))
  have hlt := lt_block HZ.out
  refine world_atF (fun W => W.heap[w.heap.size]? = some (.cells (IC (op, rd, r1, r2, im, cs, sz)) 25) ∧ W.heap[w1.heap.size]? = some (.cells (BC (l, m, s)) 63) ∧ Fr [] w W) ⟨hfr2.keeps (blk_alloc (hd.keeps HZ.out (by simp)) _) (by have := hd.size; simp; omega), hB, ((HF.out.trans hd).alloc _).step hfr2 (fun j hj => .inr (by rw [List.mem_singleton.1 hj]; have := hd.size; have := HF.out.size; omega))⟩ ?_
  clear hB hfr2 x0 HZ HF hlt h2
  rintro W2 ⟨hZ, hB, hF⟩
  generalize w1.heap.size = A at *
  clear hd
  have HF := hid hF
  have x0 : W2.cell? ⟨w.heap.size, 0, none⟩ = some (.int .u8 (op)) := by rw [blk_cell hZ]; rfl
  have x1 : W2.cell? ⟨w.heap.size, 1, none⟩ = some (.int .u8 (rd)) := by rw [blk_cell hZ]; rfl
  have x2 : W2.cell? ⟨w.heap.size, 2, none⟩ = some (.int .u8 (r1)) := by rw [blk_cell hZ]; rfl
  have x3 : W2.cell? ⟨w.heap.size, 3, none⟩ = some (.int .u8 (r2)) := by rw [blk_cell hZ]; rfl
  have x4 : W2.cell? ⟨w.heap.size, 4, none⟩ = some (.int .i64 (im)) := by rw [blk_cell hZ]; rfl
  have x5 : W2.cell? ⟨w.heap.size, 5, none⟩ = some (.int .u16 (cs)) := by rw [blk_cell hZ]; rfl
  have x6 : W2.cell? ⟨w.heap.size, 6, none⟩ = some (.int .u8 (sz)) := by rw [blk_cell hZ]; rfl
  have y0 : W2.cell? ⟨A, 0, none⟩ = some (.int .i64 l) := by rw [blk_cell hB]; rfl
  have y1 : W2.cell? ⟨A, 1, none⟩ = some (.int .i64 m) := by rw [blk_cell hB]; rfl
  have y2 : W2.cell? ⟨A, 2, none⟩ = some (.int .i64 s) := by rw [blk_cell hB]; rfl
  clear hZ hB hF
  (try simp only [Act.put, List.setIfInBounds_toArray, List.set_cons_zero, List.set_cons_succ])
  go_cut [7] (fun v wc => v = .bool true ∧ ∃ n, wc = W2.drewN n)
  case first =>
    rcases hcs.out with ⟨q1, -⟩ | ⟨q1, q2, q3⟩ | ⟨-, -, q3⟩
    rotate_right
    · cases q3
    all_goals
      go_wp2_with (go_at_call 16; (with_reducible refine (h3.out _).mono ?_); rintro e w' ⟨rfl, nn, rfl⟩)
      go_meet
      case rel => exact ⟨by first | rfl | simp_all, by first | exact ⟨0, rfl⟩ | exact ⟨_, rfl⟩⟩
  case rest =>
    obtain ⟨rfl, nc, rfl⟩ := hcut
    clear hcs
    go_wp2_with (first | (go_at_call 16; (with_reducible refine (h3.out _).mono ?_); rintro e w' ⟨rfl, nn, rfl⟩) | (go_at_call 40; (with_reducible refine (f1.out _).mono ?_); rintro e w' ⟨rfl, rfl⟩) | (go_at_call 40; (with_reducible refine (f2.out _).mono ?_); rintro e w' ⟨rfl, rfl⟩) | (go_at_call 40; (with_reducible refine (f3.out _).mono ?_); rintro e w' ⟨rfl, rfl⟩))
    go_ret
    exact ⟨rfl, HF.out.drewN _⟩
set_option maxRecDepth 100000 in
set_option maxHeartbeats 4000000 in
theorem chk_h (op rd r1 r2 im cs sz c l m s : Int) (b1 b2 b3  : Bool) (w : World) (h1 : Hid (∀ w, Calls Try.prog 38 #[.int .u8 op] w fun e w' => e = .returned (.tuple #[.bool b1, .bool b2, .bool b3]) ∧ ∃ n, w' = w.drewN n))
    (h2 : Hid (∀ w, Calls Try.prog 39 #[.int .u8 op] w fun e w' => e = .returned (.agg (BC (l, m, s))) ∧ Fr [] w w')) (h3 : Hid (∀ w, Calls Try.prog 16 #[.int .u8 op] w fun e w' => e = .returned (.int .u8 c) ∧ ∃ n, w' = w.drewN n)) (f1 : Hid (∀ w, Calls Try.prog 40 #[.int .u8 rd, .bool b1] w fun e w' => e = .returned (.bool true) ∧ w = w')) (f2 : Hid (∀ w, Calls Try.prog 40 #[.int .u8 r1, .bool b2] w fun e w' => e = .returned (.bool true) ∧ w = w')) (f3 : Hid (∀ w, Calls Try.prog 40 #[.int .u8 r2, .bool b3] w fun e w' => e = .returned (.bool true) ∧ w = w'))
    (hcs : Hid ((cs == 0) = true ∧ true = true ∨ (cs == 0) = false ∧ (c == 6) = true ∧ decide (cs < 4096) = true ∨ (cs == 0) = false ∧ (c == 6) = false ∧ true = false)) (t1 : (c == 8) = false) (t2 : (sz != 4) = false) (t3 : decide (im < l) = false) (t4 : decide (m < im) = false) (t5 : ¬ s = 0) (t6 : (im.tmod s != 0) = false) : Calls Try.prog 12 #[.agg #[.int .u8 op, .int .u8 rd, .int .u8 r1, .int .u8 r2, .int .i64 im, .int .u16 cs, .int .u8 sz]] w fun e w' => e = .returned (.int .i64 0) ∧ Fr [] w w' := by
  go_enter Try.func12, Try.ntmps12
  go_upto_region 2 with (go_at_call 38; (with_reducible refine (h1.out _).mono ?_); rintro e w' ⟨rfl, nn, rfl⟩)
  refine world_atF (fun W => W.heap[w.heap.size]? = some (.cells (IC (op, rd, r1, r2, im, cs, sz)) 25) ∧ Fr [] w W) ⟨show (World.drewN _ _).heap[w.heap.size]? = _ from blk_new _ _, ((Fr.refl [] w).alloc _).drewN _⟩ ?_
  rintro W ⟨hZ, hF⟩
  have HZ := hid hZ
  have HF := hid hF
  have x0 : W.cell? ⟨w.heap.size, 0, none⟩ = some (.int .u8 op) := by rw [blk_cell hZ]; rfl
  clear hZ hF h1
  go_upto_region 3 with (first | (go_at_call 39; (with_reducible refine (h2.out _).mono ?_); rintro e w1 ⟨rfl, hd⟩) | (refine wpList_store_whole rfl 63 _ _ rfl w1.heap.size rfl (BC (l, m, s)) rfl 63 _ (blk_new _ _) rfl (sizeB' _) (BC_one _) ?_; intro w2 hB hfr2))
  have hlt := lt_block HZ.out
  refine world_atF (fun W => W.heap[w.heap.size]? = some (.cells (IC (op, rd, r1, r2, im, cs, sz)) 25) ∧ W.heap[w1.heap.size]? = some (.cells (BC (l, m, s)) 63) ∧ Fr [] w W) ⟨hfr2.keeps (blk_alloc (hd.keeps HZ.out (by simp)) _) (by have := hd.size; simp; omega), hB, ((HF.out.trans hd).alloc _).step hfr2 (fun j hj => .inr (by rw [List.mem_singleton.1 hj]; have := hd.size; have := HF.out.size; omega))⟩ ?_
  clear hB hfr2 x0 HZ HF hlt h2
  rintro W2 ⟨hZ, hB, hF⟩
  generalize w1.heap.size = A at *
  clear hd
  have HF := hid hF
  have x0 : W2.cell? ⟨w.heap.size, 0, none⟩ = some (.int .u8 (op)) := by rw [blk_cell hZ]; rfl
  have x1 : W2.cell? ⟨w.heap.size, 1, none⟩ = some (.int .u8 (rd)) := by rw [blk_cell hZ]; rfl
  have x2 : W2.cell? ⟨w.heap.size, 2, none⟩ = some (.int .u8 (r1)) := by rw [blk_cell hZ]; rfl
  have x3 : W2.cell? ⟨w.heap.size, 3, none⟩ = some (.int .u8 (r2)) := by rw [blk_cell hZ]; rfl
  have x4 : W2.cell? ⟨w.heap.size, 4, none⟩ = some (.int .i64 (im)) := by rw [blk_cell hZ]; rfl
  have x5 : W2.cell? ⟨w.heap.size, 5, none⟩ = some (.int .u16 (cs)) := by rw [blk_cell hZ]; rfl
  have x6 : W2.cell? ⟨w.heap.size, 6, none⟩ = some (.int .u8 (sz)) := by rw [blk_cell hZ]; rfl
  have y0 : W2.cell? ⟨A, 0, none⟩ = some (.int .i64 l) := by rw [blk_cell hB]; rfl
  have y1 : W2.cell? ⟨A, 1, none⟩ = some (.int .i64 m) := by rw [blk_cell hB]; rfl
  have y2 : W2.cell? ⟨A, 2, none⟩ = some (.int .i64 s) := by rw [blk_cell hB]; rfl
  clear hZ hB hF
  (try simp only [Act.put, List.setIfInBounds_toArray, List.set_cons_zero, List.set_cons_succ])
  go_cut [7] (fun v wc => v = .bool true ∧ ∃ n, wc = W2.drewN n)
  case first =>
    rcases hcs.out with ⟨q1, -⟩ | ⟨q1, q2, q3⟩ | ⟨-, -, q3⟩
    rotate_right
    · cases q3
    all_goals
      go_wp2_with (go_at_call 16; (with_reducible refine (h3.out _).mono ?_); rintro e w' ⟨rfl, nn, rfl⟩)
      go_meet
      case rel => exact ⟨by first | rfl | simp_all, by first | exact ⟨0, rfl⟩ | exact ⟨_, rfl⟩⟩
  case rest =>
    obtain ⟨rfl, nc, rfl⟩ := hcut
    clear hcs
    go_wp2_with (first | (go_at_call 16; (with_reducible refine (h3.out _).mono ?_); rintro e w' ⟨rfl, nn, rfl⟩) | (go_at_call 40; (with_reducible refine (f1.out _).mono ?_); rintro e w' ⟨rfl, rfl⟩) | (go_at_call 40; (with_reducible refine (f2.out _).mono ?_); rintro e w' ⟨rfl, rfl⟩) | (go_at_call 40; (with_reducible refine (f3.out _).mono ?_); rintro e w' ⟨rfl, rfl⟩))
    go_ret
    exact ⟨rfl, HF.out.drewN _⟩
/-- may an instruction be? -/
def csrT (op cs : Int) : Bool := cs == 0 || (classT op == 6 && decide (cs < 4096))
def chkT (x : T7) : Int :=
  if classT x.1 = 8 ∨ x.2.2.2.2.2.2 ≠ 4 ∨ csrT x.1 x.2.2.2.2.2.1 = false ∨ fitsT x.2.1 (hasT x.1).1 = false ∨ fitsT x.2.2.1 (hasT x.1).2.1 = false ∨ fitsT x.2.2.2.1 (hasT x.1).2.2 = false
    ∨ x.2.2.2.2.1 < (ofT x.1).1 ∨ (ofT x.1).2.1 < x.2.2.2.2.1 ∨ x.2.2.2.2.1.tmod (ofT x.1).2.2 ≠ 0 then 3 else 0
theorem of_step (op : Int) : (ofT op).2.2 ≠ 0 := by
  unfold ofT
  repeat (first | (show (4096 : Int) ≠ 0; decide) | (show (2 : Int) ≠ 0; decide) | (show (1 : Int) ≠ 0; decide) | split)
theorem chk_any {x : T7} (h : 0 ≤ x.1 ∧ x.1 < 256) (w : World) : Calls Try.prog 12 #[.agg (IC x)] w fun e w' => e = .returned (.int .i64 (chkT x)) ∧ Fr [] w w' := by
  obtain ⟨op, rd, r1, r2, im, cs, sz⟩ := x
  simp only at h
  have h1 := hid fun w => c_has h w
  have h2 := hid fun w => of_any h w
  have h3 := hid fun w => c_class h w
  have f1 := hid fun w => fits_any rd (hasT op).1 w
  have f2 := hid fun w => fits_any r1 (hasT op).2.1 w
  have f3 := hid fun w => fits_any r2 (hasT op).2.2 w
  have hs := of_step op
  unfold chkT csrT
  simp only
  have hcs : ((cs == 0) = true ∧ (cs == 0 || (classT op == 6 && decide (cs < 4096))) = true ∨ (cs == 0) = false ∧ (classT op == 6) = true ∧ decide (cs < 4096) = (cs == 0 || (classT op == 6 && decide (cs < 4096))) ∨ (cs == 0) = false ∧ (classT op == 6) = false ∧ (cs == 0 || (classT op == 6 && decide (cs < 4096))) = false) := by
    cases (cs == 0) <;> cases (classT op == 6) <;> simp
  generalize (cs == 0 || (classT op == 6 && decide (cs < 4096))) = b at *
  generalize classT op = c at *
  generalize (hasT op).1 = b1 at *
  generalize (hasT op).2.1 = b2 at *
  generalize (hasT op).2.2 = b3 at *
  generalize fitsT rd b1 = v1 at *
  generalize fitsT r1 b2 = v2 at *
  generalize fitsT r2 b3 = v3 at *
  generalize ofT op = k at *
  obtain ⟨l, m, s⟩ := k
  simp only at hs ⊢
  replace hcs := hid hcs
  by_cases e1 : c = 8
  · rw [if_pos (.inl e1)]; exact chk_a op rd r1 r2 im cs sz c l m s b1 b2 b3 b w h1 h2 h3 hcs (by simpa using e1)
  have t1 : (c == 8) = false := by simpa using e1
  by_cases e2 : sz = 4
  rotate_left
  · rw [if_pos (.inr (.inl e2))]; exact chk_b op rd r1 r2 im cs sz c l m s b1 b2 b3 b w h1 h2 h3 hcs t1 (by simpa using e2)
  have t2 : (sz != 4) = false := by simpa using e2
  cases b with
  | false => rw [if_pos (.inr (.inr (.inl rfl)))]; exact chk_c op rd r1 r2 im cs sz c l m s b1 b2 b3 w h1 h2 h3 hcs t1 t2
  | true =>
  cases v1 with
  | false => rw [if_pos (.inr (.inr (.inr (.inl rfl))))]; exact chk_d1 op rd r1 r2 im cs sz c l m s b1 b2 b3 w h1 h2 h3 f1 hcs t1 t2
  | true =>
  cases v2 with
  | false => rw [if_pos (.inr (.inr (.inr (.inr (.inl rfl)))))]; exact chk_d2 op rd r1 r2 im cs sz c l m s b1 b2 b3 w h1 h2 h3 f1 f2 hcs t1 t2
  | true =>
  cases v3 with
  | false => rw [if_pos (.inr (.inr (.inr (.inr (.inr (.inl rfl))))))]; exact chk_d3 op rd r1 r2 im cs sz c l m s b1 b2 b3 w h1 h2 h3 f1 f2 f3 hcs t1 t2
  | true =>
  by_cases e3 : im < l
  · rw [if_pos (.inr (.inr (.inr (.inr (.inr (.inr (.inl e3)))))))]; exact chk_e op rd r1 r2 im cs sz c l m s b1 b2 b3 w h1 h2 h3 f1 f2 f3 hcs t1 t2 (decide_eq_true e3)
  by_cases e4 : m < im
  · rw [if_pos (.inr (.inr (.inr (.inr (.inr (.inr (.inr (.inl e4))))))))]; exact chk_f op rd r1 r2 im cs sz c l m s b1 b2 b3 w h1 h2 h3 f1 f2 f3 hcs t1 t2 (decide_eq_false e3) (decide_eq_true e4)
  by_cases e5 : im.tmod s = 0
  · rw [if_neg (by simp [e1, e2, e3, e4, e5])]; exact chk_h op rd r1 r2 im cs sz c l m s b1 b2 b3 w h1 h2 h3 f1 f2 f3 hcs t1 t2 (decide_eq_false e3) (decide_eq_false e4) hs (by simpa using e5)
  · rw [if_pos (.inr (.inr (.inr (.inr (.inr (.inr (.inr (.inr e5))))))))]; exact chk_g op rd r1 r2 im cs sz c l m s b1 b2 b3 w h1 h2 h3 f1 f2 f3 hcs t1 t2 (decide_eq_false e3) (decide_eq_false e4) hs (by simpa using e5)
end Go.Proofs.Ytogdifjdlkpehaa.PA
