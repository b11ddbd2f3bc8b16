/- Registers compared; what the statements ask to be awake. -/
import Derived.Test.YtajbfnihgonppaaE5
import Derived.ChangeKeysEq
namespace Go.Proofs.Ytajbfnihgonppaa.PA
open Go.RowKit Go.Proofs.Ytajbfnihgonppaa.Plain
set_option linter.all false
theorem cells64 : Try.prog.cellsOf 22 = 1 := by kernel_rfl
theorem info64 : ∃ i, Try.prog.info? 22 = some i := by
  cases h : Try.prog.info? 22 with
  | some i => exact ⟨i, rfl⟩
  | none => exact absurd (show (Try.prog.info? 22).isSome = true by kernel_rfl) (by rw [h]; simp)
theorem part_0 (s : Nat → Int) (W : World) : (part 22 (regC s) 0).run Try.prog W = .ok (.int .u64 (s 0)) W := by kernel_rfl
theorem part_1 (s : Nat → Int) (W : World) : (part 22 (regC s) 1).run Try.prog W = .ok (.int .u64 (s 1)) W := by kernel_rfl
theorem part_2 (s : Nat → Int) (W : World) : (part 22 (regC s) 2).run Try.prog W = .ok (.int .u64 (s 2)) W := by kernel_rfl
theorem part_3 (s : Nat → Int) (W : World) : (part 22 (regC s) 3).run Try.prog W = .ok (.int .u64 (s 3)) W := by kernel_rfl
theorem part_4 (s : Nat → Int) (W : World) : (part 22 (regC s) 4).run Try.prog W = .ok (.int .u64 (s 4)) W := by kernel_rfl
theorem part_5 (s : Nat → Int) (W : World) : (part 22 (regC s) 5).run Try.prog W = .ok (.int .u64 (s 5)) W := by kernel_rfl
theorem part_6 (s : Nat → Int) (W : World) : (part 22 (regC s) 6).run Try.prog W = .ok (.int .u64 (s 6)) W := by kernel_rfl
theorem part_7 (s : Nat → Int) (W : World) : (part 22 (regC s) 7).run Try.prog W = .ok (.int .u64 (s 7)) W := by kernel_rfl
theorem part_8 (s : Nat → Int) (W : World) : (part 22 (regC s) 8).run Try.prog W = .ok (.int .u64 (s 8)) W := by kernel_rfl
theorem part_9 (s : Nat → Int) (W : World) : (part 22 (regC s) 9).run Try.prog W = .ok (.int .u64 (s 9)) W := by kernel_rfl
theorem part_10 (s : Nat → Int) (W : World) : (part 22 (regC s) 10).run Try.prog W = .ok (.int .u64 (s 10)) W := by kernel_rfl
theorem part_11 (s : Nat → Int) (W : World) : (part 22 (regC s) 11).run Try.prog W = .ok (.int .u64 (s 11)) W := by kernel_rfl
theorem part_12 (s : Nat → Int) (W : World) : (part 22 (regC s) 12).run Try.prog W = .ok (.int .u64 (s 12)) W := by kernel_rfl
theorem part_13 (s : Nat → Int) (W : World) : (part 22 (regC s) 13).run Try.prog W = .ok (.int .u64 (s 13)) W := by kernel_rfl
theorem part_14 (s : Nat → Int) (W : World) : (part 22 (regC s) 14).run Try.prog W = .ok (.int .u64 (s 14)) W := by kernel_rfl
theorem part_15 (s : Nat → Int) (W : World) : (part 22 (regC s) 15).run Try.prog W = .ok (.int .u64 (s 15)) W := by kernel_rfl
theorem part_16 (s : Nat → Int) (W : World) : (part 22 (regC s) 16).run Try.prog W = .ok (.int .u64 (s 16)) W := by kernel_rfl
theorem part_17 (s : Nat → Int) (W : World) : (part 22 (regC s) 17).run Try.prog W = .ok (.int .u64 (s 17)) W := by kernel_rfl
theorem part_18 (s : Nat → Int) (W : World) : (part 22 (regC s) 18).run Try.prog W = .ok (.int .u64 (s 18)) W := by kernel_rfl
theorem part_19 (s : Nat → Int) (W : World) : (part 22 (regC s) 19).run Try.prog W = .ok (.int .u64 (s 19)) W := by kernel_rfl
theorem part_20 (s : Nat → Int) (W : World) : (part 22 (regC s) 20).run Try.prog W = .ok (.int .u64 (s 20)) W := by kernel_rfl
theorem part_21 (s : Nat → Int) (W : World) : (part 22 (regC s) 21).run Try.prog W = .ok (.int .u64 (s 21)) W := by kernel_rfl
theorem part_22 (s : Nat → Int) (W : World) : (part 22 (regC s) 22).run Try.prog W = .ok (.int .u64 (s 22)) W := by kernel_rfl
theorem part_23 (s : Nat → Int) (W : World) : (part 22 (regC s) 23).run Try.prog W = .ok (.int .u64 (s 23)) W := by kernel_rfl
theorem part_24 (s : Nat → Int) (W : World) : (part 22 (regC s) 24).run Try.prog W = .ok (.int .u64 (s 24)) W := by kernel_rfl
theorem part_25 (s : Nat → Int) (W : World) : (part 22 (regC s) 25).run Try.prog W = .ok (.int .u64 (s 25)) W := by kernel_rfl
theorem part_26 (s : Nat → Int) (W : World) : (part 22 (regC s) 26).run Try.prog W = .ok (.int .u64 (s 26)) W := by kernel_rfl
theorem part_27 (s : Nat → Int) (W : World) : (part 22 (regC s) 27).run Try.prog W = .ok (.int .u64 (s 27)) W := by kernel_rfl
theorem part_28 (s : Nat → Int) (W : World) : (part 22 (regC s) 28).run Try.prog W = .ok (.int .u64 (s 28)) W := by kernel_rfl
theorem part_29 (s : Nat → Int) (W : World) : (part 22 (regC s) 29).run Try.prog W = .ok (.int .u64 (s 29)) W := by kernel_rfl
theorem part_30 (s : Nat → Int) (W : World) : (part 22 (regC s) 30).run Try.prog W = .ok (.int .u64 (s 30)) W := by kernel_rfl
theorem part_31 (s : Nat → Int) (W : World) : (part 22 (regC s) 31).run Try.prog W = .ok (.int .u64 (s 31)) W := by kernel_rfl
theorem eq_regs_24 (s : Nat → Int) (W : World) : (Op.equalIn 10000 24 (.agg (regC s)) (.agg (regC s))).run Try.prog W = .ok true W := by
  obtain ⟨i, hi⟩ := info64
  rw [run_equalIn_array W 9999 _ _ Try.underlying24 hi, cells64]
  have e : ∀ n : Int, (Op.equalIn 9999 22 (.int .u64 n) (.int .u64 n)).run Try.prog W = .ok true W := fun n => by
    rw [run_equalIn_int W 9998 22 .u64 .u64 n n Try.underlying22]; simp
  simp only [show List.range 32 = [0, 1, 2, 3, 4, 5, 6, 7, 8, 9, 10, 11, 12, 13, 14, 15, 16, 17, 18, 19, 20, 21, 22, 23, 24, 25, 26, 27, 28, 29, 30, 31] from rfl, Op.eqItems, Nat.mul_one, Sem.run_bind, part_0, part_1, part_2, part_3, part_4, part_5, part_6, part_7, part_8, part_9, part_10, part_11, part_12, part_13, part_14, part_15, part_16, part_17, part_18, part_19, part_20, part_21, part_22, part_23, part_24, part_25, part_26, part_27, part_28, part_29, part_30, part_31, Result.andThen_ok, e, Bool.not_true, Bool.false_eq_true, if_false, Sem.run_pure]
theorem eqg_24 (op : BinOp) (A B : Operand) (x y : Array Value) (w : World) : (eqGuard op 24 A B (.agg x) (.agg y)).run Try.prog w = .ok () w := run_eqGuard_agg w op 24 A B x y (by kernel_rfl)
theorem eql_24 (s : Nat → Int) (w : World) : (binOp .eql 24 (.agg (regC s)) (.agg (regC s))).run Try.prog w = .ok (.bool true) w := by
  rw [run_eql_struct, eq_regs_24]; rfl
theorem neq_24 (s : Nat → Int) (w : World) : (binOp .neq 24 (.agg (regC s)) (.agg (regC s))).run Try.prog w = .ok (.bool false) w := by
  rw [run_neq_struct, eq_regs_24]; rfl
theorem eq_regs_39 (s : Nat → Int) (W : World) : (Op.equalIn 10000 39 (.agg (regC s)) (.agg (regC s))).run Try.prog W = .ok true W := by
  obtain ⟨i, hi⟩ := info64
  rw [run_equalIn_array W 9999 _ _ Try.underlying39 hi, cells64]
  have e : ∀ n : Int, (Op.equalIn 9999 22 (.int .u64 n) (.int .u64 n)).run Try.prog W = .ok true W := fun n => by
    rw [run_equalIn_int W 9998 22 .u64 .u64 n n Try.underlying22]; simp
  simp only [show List.range 32 = [0, 1, 2, 3, 4, 5, 6, 7, 8, 9, 10, 11, 12, 13, 14, 15, 16, 17, 18, 19, 20, 21, 22, 23, 24, 25, 26, 27, 28, 29, 30, 31] from rfl, Op.eqItems, Nat.mul_one, Sem.run_bind, part_0, part_1, part_2, part_3, part_4, part_5, part_6, part_7, part_8, part_9, part_10, part_11, part_12, part_13, part_14, part_15, part_16, part_17, part_18, part_19, part_20, part_21, part_22, part_23, part_24, part_25, part_26, part_27, part_28, part_29, part_30, part_31, Result.andThen_ok, e, Bool.not_true, Bool.false_eq_true, if_false, Sem.run_pure]
theorem eqg_39 (op : BinOp) (A B : Operand) (x y : Array Value) (w : World) : (eqGuard op 39 A B (.agg x) (.agg y)).run Try.prog w = .ok () w := run_eqGuard_agg w op 39 A B x y (by kernel_rfl)
theorem eql_39 (s : Nat → Int) (w : World) : (binOp .eql 39 (.agg (regC s)) (.agg (regC s))).run Try.prog w = .ok (.bool true) w := by
  rw [run_eql_struct, eq_regs_39]; rfl
theorem neq_39 (s : Nat → Int) (w : World) : (binOp .neq 39 (.agg (regC s)) (.agg (regC s))).run Try.prog w = .ok (.bool false) w := by
  rw [run_neq_struct, eq_regs_39]; rfl
/-- the chapter's registers -/
def givenS : Nat → Int := fun i => if i = 1 then 5 else if i = 2 then 18446744073709551615 else 0
theorem givenC : regC givenS = #[.int .u64 0, .int .u64 5, .int .u64 18446744073709551615, .int .u64 0, .int .u64 0, .int .u64 0, .int .u64 0, .int .u64 0, .int .u64 0, .int .u64 0, .int .u64 0, .int .u64 0, .int .u64 0, .int .u64 0, .int .u64 0, .int .u64 0, .int .u64 0, .int .u64 0, .int .u64 0, .int .u64 0, .int .u64 0, .int .u64 0, .int .u64 0, .int .u64 0, .int .u64 0, .int .u64 0, .int .u64 0, .int .u64 0, .int .u64 0, .int .u64 0, .int .u64 0, .int .u64 0] := by kernel_rfl
theorem givenS_ok : RegsOK givenS := by
  intro i
  unfold givenS N64
  split
  · omega
  · split <;> omega
theorem zeroX : regC (fun _ => 0) = #[.int .u64 0, .int .u64 0, .int .u64 0, .int .u64 0, .int .u64 0, .int .u64 0, .int .u64 0, .int .u64 0, .int .u64 0, .int .u64 0, .int .u64 0, .int .u64 0, .int .u64 0, .int .u64 0, .int .u64 0, .int .u64 0, .int .u64 0, .int .u64 0, .int .u64 0, .int .u64 0, .int .u64 0, .int .u64 0, .int .u64 0, .int .u64 0, .int .u64 0, .int .u64 0, .int .u64 0, .int .u64 0, .int .u64 0, .int .u64 0, .int .u64 0, .int .u64 0] := zeroR
set_option maxRecDepth 100000 in
set_option maxHeartbeats 4000000 in
theorem given_any (w : World) : Calls Try.prog 21 #[] w fun e w' => e = .returned (.agg (regC givenS)) ∧ Fr [] w w' := by
  rw [givenC]
  go_enter Try.func21, Try.ntmps21
  go_wp2_with (refine wpList_store_whole rfl 24 _ _ rfl w.heap.size rfl #[.int .u64 0, .int .u64 5, .int .u64 18446744073709551615, .int .u64 0, .int .u64 0, .int .u64 0, .int .u64 0, .int .u64 0, .int .u64 0, .int .u64 0, .int .u64 0, .int .u64 0, .int .u64 0, .int .u64 0, .int .u64 0, .int .u64 0, .int .u64 0, .int .u64 0, .int .u64 0, .int .u64 0, .int .u64 0, .int .u64 0, .int .u64 0, .int .u64 0, .int .u64 0, .int .u64 0, .int .u64 0, .int .u64 0, .int .u64 0, .int .u64 0, .int .u64 0, .int .u64 0] rfl 24 _ (blk_new _ _) rfl (by kernel_rfl) (by kernel_rfl) ?_; intro w2 h2 hfr2)
  exact ⟨rfl, _, results_c rfl rfl h2 Try.underlying24 rfl (by kernel_rfl), rfl, ((Fr.refl [] w).alloc _).step hfr2 (fun j hj => .inr (by rw [List.mem_singleton.1 hj]; omega))⟩
set_option maxRecDepth 100000 in
set_option maxHeartbeats 4000000 in
theorem does_w (s' : Nat → Int) (op rd r1 r2 im cs sz sz' k v nx : Int) (w : World) (h1 : Hid (∀ w, Calls Try.prog 21 #[] w fun e w' => e = .returned (.agg (regC givenS)) ∧ Fr [] w w'))
    (h2 : Hid (∀ g w, w.heap[g]? = some (.cells (regC givenS) 24) → Calls Try.prog 9 #[.pointer (some ⟨g, 0, none⟩), .int .u64 4096, .agg (IC (op, rd, r1, r2, im, cs, sz'))] w fun e w' => e = .returned (.tuple #[.int .u64 nx, .bool true]) ∧ w'.heap[g]? = some (.cells (regC s') 24) ∧ Fr [g] w w'))
    (h3 : Hid (∀ g w, w.heap[g]? = some (.cells (regC s') 24) → Calls Try.prog 12 #[.pointer (some ⟨g, 0, none⟩), .int .u8 k] w fun e w' => e = .returned (.int .u64 v) ∧ w = w')) :
    Calls Try.prog 20 #[.agg (IC (op, rd, r1, r2, im, cs, sz)), .int .u8 sz', .int .u8 k, .int .u64 v, .int .u64 nx] w fun e w' => e = .returned (.bool true) ∧ Fr [] w w' := by
  go_enter Try.func20, Try.ntmps20
  go_upto_region 2 with (first | (go_at_call 21; (with_reducible refine (h1.out _).mono ?_); rintro e w1 ⟨rfl, hd⟩) | (refine wpList_store_whole rfl 24 _ _ rfl w1.heap.size rfl (regC givenS) rfl 24 _ (by rw [← zeroX]; exact blk_new _ _) (by rw [regC_size, regC_size]) (size_x _) (regC_one _) ?_; intro w2 hB hfr2))
  have hd' : Fr [] w w1 := ((Fr.refl [] w).alloc _).trans hd
  refine world_at' (fun W => W.heap[w.heap.size]? = some (.cells (IC (op, rd, r1, r2, im, cs, sz)) 27) ∧ W.heap[w1.heap.size]? = some (.cells (regC givenS) 24) ∧ Fr [] w W) ⟨hfr2.keeps (blk_alloc (hd.keeps (blk_new _ _) (by simp)) _) (by have := hd.size; simp at this ⊢; omega), hB, (hd'.alloc _).step hfr2 (fun j hj => .inr (by rw [List.mem_singleton.1 hj]; exact hd'.size))⟩ ?_
  have hlt : w.heap.size < w1.heap.size := by have := hd.size; simp at this; omega
  clear hB hfr2 hd hd'
  rintro W ⟨hZ, hB, hF⟩
  generalize w1.heap.size = A at *
  have f6 := blk_free hZ 6
  have x6 : W.cell? ⟨w.heap.size, 6, none⟩ = some (.int .u8 sz) := by rw [blk_cell hZ]; rfl
  have HF := hid hF
  have HB := hid hB
  have HZ := hid hZ
  have HL := hid hlt
  clear hZ hB hF hlt
  go_upto_region 3 with fail
  refine world_at' (fun W => W.heap[w.heap.size]? = some (.cells (IC (op, rd, r1, r2, im, cs, sz')) 27) ∧ W.heap[A]? = some (.cells (regC givenS) 24) ∧ Fr [] w W) ⟨blk_set HZ.out 6 _, by rw [blk_set_other _ (by have := HL.out; simp; omega)]; exact HB.out, HF.out.setCell (.inr (Nat.le_refl _)) _⟩ ?_
  clear f6 x6 HF HB HZ
  rintro W2 ⟨hZ, hB, hF⟩
  have HF := hid hF
  have HB := hid hB
  have HZ := hid hZ
  clear hZ hB hF
  go_wp2_with (first | (refine wpList_load_row_g (by rfl) 27 _ (by rfl) w.heap.size (by rfl) 27 (IC (op, rd, r1, r2, im, cs, sz')) (0, 0) _ HZ.out Try.underlying27 rfl (sizeI' _) ?_) | (go_at_call 9; (with_reducible refine (h2.out _ _ HB.out).mono ?_); rintro e w3 ⟨rfl, hS, hd3⟩) | (go_at_call 12; (with_reducible refine (h3.out _ _ hS).mono ?_); rintro e w4 ⟨rfl, rfl⟩))
  go_ret
  exact ⟨rfl, HF.out.step hd3 (fun j hj => .inr (by rw [List.mem_singleton.1 hj]; exact Nat.le_of_lt HL.out))⟩
def doesOk (op rd r1 r2 im cs sz' k v nx : Int) : Bool := decide (W7 (op, rd, r1, r2, im, cs, sz')) && decide (0 ≤ k ∧ k < 256) && decide ((doT givenS 4096 (op, rd, r1, r2, im, cs, sz')).2 = (nx, true)) && decide (getT (doT givenS 4096 (op, rd, r1, r2, im, cs, sz')).1 k = v)
theorem does_ok (op rd r1 r2 im cs sz sz' k v nx : Int) (w : World) (h : doesOk op rd r1 r2 im cs sz' k v nx = true) : Calls Try.prog 20 #[.agg #[.int .u8 op, .int .u8 rd, .int .u8 r1, .int .u8 r2, .int .i64 im, .int .u16 cs, .int .u8 sz], .int .u8 sz', .int .u8 k, .int .u64 v, .int .u64 nx] w fun e w' => e = .returned (.bool true) ∧ Fr [] w w' := by
  unfold doesOk at h
  simp only [Bool.and_eq_true, decide_eq_true_iff] at h
  obtain ⟨⟨⟨hx, hk⟩, hd⟩, hv⟩ := h
  refine does_w (doT givenS 4096 (op, rd, r1, r2, im, cs, sz')).1 op rd r1 r2 im cs sz sz' k v nx w (hid fun w => given_any w) (hid fun g w hb => ?_) (hid fun g w hb => ?_)
  · have := do_any g givenS_ok (pc := 4096) (by unfold N64; omega) hx w hb
    rw [hd] at this
    exact this
  · have := get_any g _ w hk hb
    rw [hv] at this
    exact this
set_option maxRecDepth 100000 in
set_option maxHeartbeats 4000000 in
theorem awake_any (w : World) : Calls Try.prog 10 #[] w fun e w' => e = .returned (.bool true) ∧ Fr [] w w' := by
  have hK := Fr.refl [] w
  go_enter Try.func10, Try.ntmps10
  go_wp2_with (go_at_call 20; (with_reducible refine (does_ok _ _ _ _ _ _ _ _ _ _ _ _ (by decide +kernel)).mono ?_); rintro e w1 ⟨rfl, hd⟩; replace hK := hK.trans hd; clear hd)
  go_ret
  exact ⟨rfl, hK⟩
end Go.Proofs.Ytajbfnihgonppaa.PA
