/- The law ExecKnown: its walk. -/
import Derived.Test.YtajbfnihgonppaaRun
import Derived.Test.YtajbfnihgonppaaNil
namespace Go.Proofs.Ytajbfnihgonppaa.PA
open Go.RowKit Go.Proofs.Ytajbfnihgonppaa.Plain
set_option linter.all false
def addrOk (op rd r1 r2 im cs sz v : Int) (b : Bool) : Bool := decide (W7 (op, rd, r1, r2, im, cs, sz)) && decide (addrT givenS (op, rd, r1, r2, im, cs, sz) = (v, b))
theorem addr_lit (g : Nat) (op rd r1 r2 im cs sz v : Int) (b : Bool) (w : World) (hb : w.heap[g]? = some (.cells (regC givenS) 24)) (h : addrOk op rd r1 r2 im cs sz v b = true) : Calls Try.prog 15 #[.pointer (some ⟨g, 0, none⟩), .agg #[.int .u8 op, .int .u8 rd, .int .u8 r1, .int .u8 r2, .int .i64 im, .int .u16 cs, .int .u8 sz]] w fun e w' => e = .returned (.tuple #[.int .u64 v, .bool b]) ∧ Fr [] w w' := by
  unfold addrOk at h
  simp only [Bool.and_eq_true, decide_eq_true_iff] at h
  have := addr_any g h.1 w hb
  rw [h.2] at this
  exact this
theorem no_lit : W7 (13, 3, 1, 0, 0, 0, 4) ∧ (doT givenS 4096 (13, 3, 1, 0, 0, 0, 4)).2.2 = false := by decide +kernel
theorem do_lw (g : Nat) (w : World) (hb : w.heap[g]? = some (.cells (regC givenS) 24)) : Calls Try.prog 9 #[.pointer (some ⟨g, 0, none⟩), .int .u64 4096, .agg #[.int .u8 13, .int .u8 3, .int .u8 1, .int .u8 0, .int .i64 0, .int .u16 0, .int .u8 4]] w fun e w' => e = .returned (.tuple #[.int .u64 4096, .bool false]) ∧ w'.heap[g]? = some (.cells (regC givenS) 24) ∧ Fr [g] w w' := by
  have := do_any g givenS_ok (pc := 4096) (by unfold N64; omega) no_lit.1 w hb
  rw [do_falseR no_lit.2] at this
  exact this
def countL : List T7 := [(22, 3, 0, 0, 3, 0, 0), (22, 3, 3, 0, -1, 0, 0), (22, 4, 4, 0, 2, 0, 0), (6, 0, 3, 0, -8, 0, 0)]
def countC : Array Value := #[.int .u8 22, .int .u8 3, .int .u8 0, .int .u8 0, .int .i64 3, .int .u16 0, .int .u8 0, .int .u8 22, .int .u8 3, .int .u8 3, .int .u8 0, .int .i64 (-1), .int .u16 0, .int .u8 0, .int .u8 22, .int .u8 4, .int .u8 4, .int .u8 0, .int .i64 2, .int .u16 0, .int .u8 0, .int .u8 6, .int .u8 0, .int .u8 3, .int .u8 0, .int .i64 (-8), .int .u16 0, .int .u8 0]
theorem count_W : ∀ q : Fin 4, W7 (countL.getD q.val default) := by decide +kernel
theorem count_at {w : World} {g base : Nat} (h : w.heap[g]? = some (.cells countC 27)) (hb : g < base) : Insts w (some ⟨g, 0, none⟩) base countL := by
  intro q hq
  have hq4 : q < 4 := hq
  refine ⟨g, 0, rfl, hb, lt_block h, count_W ⟨q, hq4⟩, blk_range h _ _ ?_⟩
  intro j v hj
  have hj7 : j < 7 := (Array.getElem?_eq_some_iff.1 hj).1
  match q, hq4 with
  | 0, _ =>
    match j, hj7, hj with
    | 0, _, hj => exact hj
    | 1, _, hj => exact hj
    | 2, _, hj => exact hj
    | 3, _, hj => exact hj
    | 4, _, hj => exact hj
    | 5, _, hj => exact hj
    | 6, _, hj => exact hj
  | 1, _ =>
    match j, hj7, hj with
    | 0, _, hj => exact hj
    | 1, _, hj => exact hj
    | 2, _, hj => exact hj
    | 3, _, hj => exact hj
    | 4, _, hj => exact hj
    | 5, _, hj => exact hj
    | 6, _, hj => exact hj
  | 2, _ =>
    match j, hj7, hj with
    | 0, _, hj => exact hj
    | 1, _, hj => exact hj
    | 2, _, hj => exact hj
    | 3, _, hj => exact hj
    | 4, _, hj => exact hj
    | 5, _, hj => exact hj
    | 6, _, hj => exact hj
  | 3, _ =>
    match j, hj7, hj with
    | 0, _, hj => exact hj
    | 1, _, hj => exact hj
    | 2, _, hj => exact hj
    | 3, _, hj => exact hj
    | 4, _, hj => exact hj
    | 5, _, hj => exact hj
    | 6, _, hj => exact hj
def zS : Nat → Int := fun _ => 0
theorem zS_ok : RegsOK zS := fun i => by unfold zS N64; omega
theorem run_lit : (runT countL 100 zS 0).2 = (16, 10, true) ∧ getT (runT countL 100 zS 0).1 4 = 6 ∧ (runT countL 4 zS 0).2 = (4, 4, false) := by decide +kernel
def s33 : Nat → Int := setT givenS 33 8
theorem s33_lit : getT s33 0 = 0 ∧ getT s33 1 = 8 := by decide +kernel
theorem run_1 (g C : Nat) (w : World) (hC : w.heap[C]? = some (.cells countC 27)) (hlt : C < g) (hb : w.heap[g]? = some (.cells (regC zS) 24)) : Calls Try.prog 18 #[.pointer (some ⟨g, 0, none⟩), .int .u64 0, .slice (some ⟨C, 0, none⟩) 4 4, .int .i64 100] w fun e w' => e = .returned (.tuple #[.int .u64 16, .int .i64 10, .bool true]) ∧ w'.heap[g]? = some (.cells (regC (runT countL 100 zS 0).1) 24) ∧ Fr [g] w w' := by
  have r1 := run_w g (some ⟨C, 0, none⟩) 4 (C + 1) countL 100 zS 0 w _ (hid (count_at hC (Nat.lt_succ_self _))) (by decide) (by decide) (hid ⟨by omega, by have := lt_block hC; omega⟩) (hid hb) zS_ok (by unfold N64; omega) rfl
  rw [run_lit.1] at r1
  exact r1
theorem run_2 (g C : Nat) (w : World) (hC : w.heap[C]? = some (.cells countC 27)) (hlt : C < g) (hb : w.heap[g]? = some (.cells (regC zS) 24)) : Calls Try.prog 18 #[.pointer (some ⟨g, 0, none⟩), .int .u64 0, .slice (some ⟨C, 0, none⟩) 4 4, .int .i64 4] w fun e w' => e = .returned (.tuple #[.int .u64 4, .int .i64 4, .bool false]) ∧ w'.heap[g]? = some (.cells (regC (runT countL 4 zS 0).1) 24) ∧ Fr [g] w w' := by
  have r1 := run_w g (some ⟨C, 0, none⟩) 4 (C + 1) countL 4 zS 0 w _ (hid (count_at hC (Nat.lt_succ_self _))) (by decide) (by decide) (hid ⟨by omega, by have := lt_block hC; omega⟩) (hid hb) zS_ok (by unfold N64; omega) rfl
  rw [run_lit.2.2] at r1
  exact r1
set_option maxRecDepth 100000 in
set_option maxHeartbeats 4000000 in
theorem known_any (w : World) : Calls Try.prog 8 #[] w fun e w' => e = .returned (.bool true) ∧ Fr [] w w' := by
  have hK := Fr.refl [] w
  go_enter Try.func8, Try.ntmps8
  go_upto_region 3 with (first | (go_at_call 10; (with_reducible refine (awake_any _).mono ?_); rintro e w1 ⟨rfl, hd⟩; replace hK := hK.trans hd; clear hd) | (go_at_call 20; (with_reducible refine (does_ok _ _ _ _ _ _ _ _ _ _ _ _ (by decide +kernel)).mono ?_); rintro e w1 ⟨rfl, hd⟩; replace hK := hK.trans hd; clear hd))
  refine world_at' (fun W => Fr [] w W) hK ?_
  clear hK
  rintro W0 hF
  go_upto_region 4 with (first | (go_at_call 21; (with_reducible refine (given_any _).mono ?_); rintro e w1 ⟨rfl, hd⟩) | (refine wpList_store_whole rfl 24 _ _ rfl w1.heap.size rfl (regC givenS) rfl 24 _ (by rw [← zeroX]; exact blk_new _ _) (by rw [regC_size, regC_size]) (size_x _) (regC_one _) ?_; intro w2 hB hfr2))
  refine world_at' (fun W => W.heap[w1.heap.size]? = some (.cells (regC givenS) 24) ∧ Fr [] w W ∧ w.heap.size ≤ w1.heap.size) ⟨hB, ((hF.trans hd).alloc _).step hfr2 (fun j hj => .inr (by rw [List.mem_singleton.1 hj]; exact (hF.trans hd).size)), (hF.trans hd).size⟩ ?_
  clear hB hfr2 hd hF
  rintro W1 ⟨hA, hF, hle⟩
  generalize w1.heap.size = A at *
  have HA := hid hA
  have HF := hid hF
  have HL := hid hle
  clear hA hF hle
  have hK := Fr.refl [] W1
  go_upto_region 7 with (first | (go_at_call 15; (with_reducible refine (addr_lit A 13 3 1 0 (-1) 0 0 4 true _ (hK.keeps HA.out (by simp)) (by decide +kernel)).mono ?_); rintro e w2 ⟨rfl, hd⟩; replace hK := hK.trans hd; clear hd) | (go_at_call 15; (with_reducible refine (addr_lit A 67 3 1 0 9 0 0 5 true _ (hK.keeps HA.out (by simp)) (by decide +kernel)).mono ?_); rintro e w2 ⟨rfl, hd⟩; replace hK := hK.trans hd; clear hd) | (go_at_call 15; (with_reducible refine (addr_lit A 31 0 1 0 0 0 0 0 false _ (hK.keeps HA.out (by simp)) (by decide +kernel)).mono ?_); rintro e w2 ⟨rfl, hd⟩; replace hK := hK.trans hd; clear hd))
  refine world_at' (fun W => W.heap[A]? = some (.cells (regC givenS) 24) ∧ Fr [] w W) ⟨hK.keeps HA.out (by simp), HF.out.trans hK⟩ ?_
  clear HA HF hK
  rintro W2 ⟨hA, hF⟩
  have HA := hid hA
  have HF := hid hF
  clear hA hF
  go_upto_region 8 with (go_at_call 9; (with_reducible refine (do_lw _ _ HA.out).mono ?_); rintro e w3 ⟨rfl, hA, hd⟩)
  refine world_at' (fun W => W.heap[A]? = some (.cells (regC givenS) 24) ∧ Fr [] w W) ⟨hA, HF.out.step hd (fun j hj => .inr (by rw [List.mem_singleton.1 hj]; exact HL.out))⟩ ?_
  clear HA HF hA hd
  rintro W3 ⟨hA, hF⟩
  have HA := hid hA
  have HF := hid hF
  clear hA hF
  go_upto_region 9 with (go_at_call 13; (with_reducible refine (set_any A 7 givenS _ (n := 0) (by decide) HA.out).mono ?_); rintro e w3 ⟨rfl, hA, hd⟩)
  refine world_at' (fun W => W.heap[A]? = some (.cells (regC givenS) 24) ∧ Fr [] w W) ⟨hA, HF.out.step hd (fun j hj => .inr (by rw [List.mem_singleton.1 hj]; exact HL.out))⟩ ?_
  clear HA HF hA hd
  rintro W4 ⟨hA, hF⟩
  have HA := hid hA
  have HF := hid hF
  clear hA hF
  go_upto_region 10 with (go_at_call 13; (with_reducible refine (set_any A 8 givenS _ (n := 33) (by decide) HA.out).mono ?_); rintro e w3 ⟨rfl, hA, hd⟩)
  refine world_at' (fun W => W.heap[A]? = some (.cells (regC s33) 24) ∧ Fr [] w W) ⟨hA, HF.out.step hd (fun j hj => .inr (by rw [List.mem_singleton.1 hj]; exact HL.out))⟩ ?_
  clear HA HF hA hd
  rintro W5 ⟨hA, hF⟩
  have HA := hid hA
  have HF := hid hF
  clear hA hF
  go_upto_region 11 with fail
  refine world_at' (fun W => W.heap[A]? = some (.cells (regC s33) 24) ∧ W.heap[W5.heap.size]? = some (.cells countC 27) ∧ Fr [] w W ∧ A < W5.heap.size) ⟨blk_alloc HA.out _, blk_new _ _, HF.out.alloc _, lt_block HA.out⟩ ?_
  clear HA HF
  rintro W6 ⟨hA, hC, hF, hlt⟩
  generalize W5.heap.size = C at *
  have HA := hid hA
  have HC := hid hC
  have HF := hid hF
  have HT := hid hlt
  clear hA hC hF hlt
  go_upto_region 12 with (refine wpList_store_whole rfl 24 _ _ rfl W6.heap.size rfl (regC zS) (by rw [show regC zS = _ from zeroX]; rfl) 24 _ (by rw [← zeroX]; exact blk_new _ _) (by rw [regC_size, regC_size]) (size_x _) (regC_one _) ?_; intro w2 hB hfr2)
  refine world_at' (fun W => W.heap[A]? = some (.cells (regC s33) 24) ∧ W.heap[C]? = some (.cells countC 27) ∧ W.heap[W6.heap.size]? = some (.cells (regC zS) 24) ∧ Fr [] w W ∧ A < C ∧ C < W6.heap.size ∧ w.heap.size ≤ A) ⟨hfr2.keeps (blk_alloc HA.out _) (by have := lt_block HA.out; simp; omega), hfr2.keeps (blk_alloc HC.out _) (by have := lt_block HC.out; simp; omega), hB, (HF.out.alloc _).step hfr2 (fun j hj => .inr (by rw [List.mem_singleton.1 hj]; exact HF.out.size)), HT.out, lt_block HC.out, HL.out⟩ ?_
  clear HA HC HF HT HL hB hfr2
  rintro W7 ⟨hA, hC, hB, hF, hlt⟩
  generalize W6.heap.size = B at *
  have HA := hid hA
  have HC := hid hC
  have HB := hid hB
  have HF := hid hF
  have HT := hid hlt
  clear hA hC hB hF hlt
  have r1 := hid (run_1 B C W7 HC.out (by have := HT.out; omega) HB.out)
  have g4 := run_lit.2.1
  generalize (runT countL 100 zS 0).1 = S1 at *
  go_upto_region 13 with (go_at_call 18; (with_reducible refine (r1.out).mono ?_); rintro e w3 ⟨rfl, hB, hd⟩)
  refine world_at' (fun W => W.heap[A]? = some (.cells (regC s33) 24) ∧ W.heap[C]? = some (.cells countC 27) ∧ W.heap[B]? = some (.cells (regC S1) 24) ∧ Fr [] w W) ⟨hd.keeps HA.out (by have := HT.out; simp; omega), hd.keeps HC.out (by have := HT.out; simp; omega), hB, HF.out.step hd (fun j hj => .inr (by rw [List.mem_singleton.1 hj]; have := HT.out; omega))⟩ ?_
  clear HA HC HB HF hB hd r1
  rintro W8 ⟨hA, hC, hB, hF⟩
  have HA := hid hA
  have HC := hid hC
  have HB := hid hB
  have HF := hid hF
  clear hA hC hB hF
  go_upto_region 14 with (refine wpList_store_whole rfl 24 _ _ rfl W8.heap.size rfl (regC zS) (by rw [show regC zS = _ from zeroX]; rfl) 24 _ (by rw [← zeroX]; exact blk_new _ _) (by rw [regC_size, regC_size]) (size_x _) (regC_one _) ?_; intro w2 hE hfr2)
  refine world_at' (fun W => W.heap[A]? = some (.cells (regC s33) 24) ∧ W.heap[C]? = some (.cells countC 27) ∧ W.heap[B]? = some (.cells (regC S1) 24) ∧ W.heap[W8.heap.size]? = some (.cells (regC zS) 24) ∧ Fr [] w W ∧ B < W8.heap.size) ⟨hfr2.keeps (blk_alloc HA.out _) (by have := lt_block HA.out; simp; omega), hfr2.keeps (blk_alloc HC.out _) (by have := lt_block HC.out; simp; omega), hfr2.keeps (blk_alloc HB.out _) (by have := lt_block HB.out; simp; omega), hE, (HF.out.alloc _).step hfr2 (fun j hj => .inr (by rw [List.mem_singleton.1 hj]; exact HF.out.size)), lt_block HB.out⟩ ?_
  clear HA HC HB HF hE hfr2
  rintro W9 ⟨hA, hC, hB, hE, hF, hlt⟩
  generalize W8.heap.size = E at *
  have HA := hid hA
  have HC := hid hC
  have HB := hid hB
  have HE := hid hE
  have HF := hid hF
  have HT2 := hid hlt
  clear hA hC hB hE hF hlt
  have r1 := hid (run_2 E C W9 HC.out (by have := HT.out; have := HT2.out; omega) HE.out)
  go_upto_region 15 with (go_at_call 18; (with_reducible refine (r1.out).mono ?_); rintro e w3 ⟨rfl, -, hd⟩)
  refine world_at' (fun W => W.heap[A]? = some (.cells (regC s33) 24) ∧ W.heap[B]? = some (.cells (regC S1) 24) ∧ Fr [] w W) ⟨hd.keeps HA.out (by have := HT.out; have := HT2.out; simp; omega), hd.keeps HB.out (by have := HT.out; have := HT2.out; simp; omega), HF.out.step hd (fun j hj => .inr (by rw [List.mem_singleton.1 hj]; have := HT.out; have := HT2.out; omega))⟩ ?_
  clear HA HC HB HE HF hd r1
  rintro W10 ⟨hA, hB, hF⟩
  have HA := hid hA
  have HB := hid hB
  have HF := hid hF
  clear hA hB hF
  go_upto_region 17 with (go_at_call 13; (with_reducible refine (set_nil 1 5 _).mono ?_); rintro e w3 ⟨rfl, rfl⟩)
  have hK := Fr.refl [] W10
  have gA0 := hid fun w1 (h : Fr [] W10 w1) => get_any A s33 w1 (n := 0) (by decide) (h.keeps HA.out (by simp))
  have gA1 := hid fun w1 (h : Fr [] W10 w1) => get_any A s33 w1 (n := 1) (by decide) (h.keeps HA.out (by simp))
  have gB4 := hid fun w1 (h : Fr [] W10 w1) => get_any B S1 w1 (n := 4) (by decide) (h.keeps HB.out (by simp))
  rw [s33_lit.1] at gA0
  rw [s33_lit.2] at gA1
  rw [g4] at gB4
  go_upto_region 18 with (go_at_call 9; (with_reducible refine (do_nil _).mono ?_); rintro e w3 ⟨rfl, hd⟩; replace hK := hK.trans hd; clear hd)
  (try simp only [List.append_eq, List.cons_append, List.nil_append])
  go_wp2_with (first | (go_at_call 10; (with_reducible refine (awake_any _).mono ?_); rintro e w1 ⟨rfl, hd⟩; replace hK := hK.trans hd; clear hd) | (go_at_call 12; (with_reducible refine (gA0.out _ hK).mono ?_); rintro e w1 ⟨rfl, rfl⟩) | (go_at_call 12; (with_reducible refine (gA1.out _ hK).mono ?_); rintro e w1 ⟨rfl, rfl⟩) | (go_at_call 12; (with_reducible refine (gB4.out _ hK).mono ?_); rintro e w1 ⟨rfl, rfl⟩) | (go_at_call 12; (with_reducible refine (get_nil 1 _).mono ?_); rintro e w1 ⟨rfl, rfl⟩))
  go_ret
  exact ⟨rfl, HF.out.trans hK⟩
end Go.Proofs.Ytajbfnihgonppaa.PA
namespace Go.Proofs.Ytajbfnihgonppaa
open PA Go.RowKit
theorem walk_ExecKnown (w : World) : Calls Try.prog 8 #[] w fun e w' => e = .returned (.bool true) ∧ Below w.heap.size w w' := (known_any w).mono fun _ _ ⟨h1, h2⟩ => ⟨h1, below_of_fr h2⟩
end Go.Proofs.Ytajbfnihgonppaa
