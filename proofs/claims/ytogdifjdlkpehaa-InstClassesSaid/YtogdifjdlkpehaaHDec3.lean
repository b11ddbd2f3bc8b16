/- Contracts of system. -/
import Derived.Test.YtogdifjdlkpehaaHDec0
import Derived.Test.YtogdifjdlkpehaaK3
import Derived.Deep.Cut
import Derived.BigGuard
namespace Go.Proofs.Ytogdifjdlkpehaa.PA
open Go.RowKit Go.Proofs.YtogdifjdlkpehaaW.PrintWords Go.Proofs.YtogdifjdlkpehaaW.PrintLast Go.Proofs.YtogdifjdlkpehaaW.PrintMore
set_option linter.all false
set_option maxRecDepth 100000 in
set_option maxHeartbeats 4000000 in
theorem sys1_w (p op rd r1 cs bx : Int) (b : Nat) (w : World) (h1 : Hid (∀ w, Calls Try.prog 21 #[.int .u32 p] w fun e w' => e = .returned (.int .u8 rd) ∧ ∃ n, w' = w.drewN n)) (h2 : Hid (∀ w, Calls Try.prog 43 #[.int .u32 p] w fun e w' => e = .returned (.int .u8 r1) ∧ ∃ n, w' = w.drewN n)) (h3 : Hid (∀ w, Calls Try.prog 19 #[.int .u32 p, .int .i64 20, .int .i64 31] w fun e w' => e = .returned (.int .u32 cs) ∧ ∃ n, w' = w.drewN n)) (t1 : cs % 65536 = cs)
    (hb : w.heap[b]? = some (.cells #[.int .u32 p] 41)) : Calls Try.prog 50 #[.int .u8 op, .pointer (some ⟨b, 0, none⟩)] w fun e w' => e = .returned (.agg (IC (op, rd, r1, 0, 0, cs, 4))) ∧ Fr [] w w' := by
  have HB := hid hb
  clear hb
  go_enter Try.func50, Try.ntmps50
  go_upto_region 1 with fail
  refine world_atF (fun W => W.heap[w.heap.size]? = some (.cells (IC (0, 0, 0, 0, 0, 0, 0)) 25) ∧ W.heap[b]? = some (.cells #[.int .u32 p] 41) ∧ Fr [] w W) ⟨blk_new _ _, blk_alloc HB.out _, (Fr.refl [] w).alloc _⟩ ?_
  rintro W ⟨hZ, hL, hF⟩
  have HZ := hid hZ
  have HL := hid hL
  have HF := hid hF
  clear hZ hL hF
  have y0 : ∀ n : Ext W, n.w.cell? ⟨b, 0, none⟩ = some (.int .u32 p) := fun n => Ext.cell n HL.out 0
  have c1 : Hid (∀ n : Ext W, Calls Try.prog 21 #[.int .u32 p] n.w fun e w'' => e = .returned (.int .u8 rd) ∧ ∃ m : Ext W, w'' = m.w) := fun n => Ext.call n ((h1.out _).mono fun _ _ ⟨h1, k, h2⟩ => ⟨h1, by subst h2; exact (Fr.refl _ _).drewN _⟩)
  have c2 : Hid (∀ n : Ext W, Calls Try.prog 43 #[.int .u32 p] n.w fun e w'' => e = .returned (.int .u8 r1) ∧ ∃ m : Ext W, w'' = m.w) := fun n => Ext.call n ((h2.out _).mono fun _ _ ⟨h1, k, h2⟩ => ⟨h1, by subst h2; exact (Fr.refl _ _).drewN _⟩)
  have c3 : Hid (∀ n : Ext W, Calls Try.prog 19 #[.int .u32 p, .int .i64 20, .int .i64 31] n.w fun e w'' => e = .returned (.int .u32 cs) ∧ ∃ m : Ext W, w'' = m.w) := fun n => Ext.call n ((h3.out _).mono fun _ _ ⟨h1, k, h2⟩ => ⟨h1, by subst h2; exact (Fr.refl _ _).drewN _⟩)
  clear h1 h2 h3
  have hne := ext_ne W
  refine wp_region_ext_tail 9 (by kernel_rfl) (by kernel_rfl) ?_
  simp only [List.take_succ_cons, List.take_zero, List.drop_succ_cons, List.drop_zero]
  repeat (go_big_quiet_step (first | (go_at_call 21; exact c1.out _) | (go_at_call 43; exact c2.out _) | (go_at_call 19; exact c3.out _)))
  refine wpQuiet_nil ?_
  intro w' hw'
  obtain ⟨m1, rfl⟩ := hw'
  have hZ1 := m1.blk HZ.out
  go_wp2_with (refine wpList_store_whole rfl 25 _ _ rfl (w.heap.size) rfl (IC (op, rd, r1, 0, 0, cs, 4)) rfl 25 _ hZ1 rfl (sizeI' _) (IC_one _) ?_; intro w2 h2 hfr2)
  exact ⟨rfl, _, results_c rfl rfl h2 Try.underlying25 rfl (sizeI' _), rfl, (HF.out.trans m1.fr).step hfr2 (fun j hj => .inr (by rw [List.mem_singleton.1 hj]; omega))⟩

theorem sys1_any {p : Int} (hp : P32 p) (op : Int) (b : Nat) (w : World) (hb : w.heap[b]? = some (.cells #[.int .u32 p] 41)) : Calls Try.prog 50 #[.int .u8 op, .pointer (some ⟨b, 0, none⟩)] w fun e w' => e = .returned (.agg (IC (fillT p op 8))) ∧ Fr [] w w' :=
  sys1_w p op _ _ _ 0 b w (hid fun w => c_rd hp w) (hid fun w => c_rs1 hp w) (hid fun w => c_bits_20_31 hp w) (by omega) hb
theorem picks_y8 {p : Int} (hp : P32 p) (n : Int) (h0 : 0 ≤ n) (g bx : Nat) (l : List Int) (hl : l.length = 8) (ty : TypeId) (w : World) (hb : w.heap[g]? = some (opsO l ty)) (hx : w.heap[bx]? = some (.cells #[.int .u32 p] 41)) :
    Calls Try.prog 23 #[.int .u32 p, .slice (some ⟨g, 0, none⟩) 8 8, .int .u32 n, .func (.func 50) #[] #[.pointer (some ⟨bx, 0, none⟩)]] w fun e w' => e = .returned (.agg (IC (pickT l n (fun op => fillT p op 8) p))) ∧ Fr [] w w' := by
  by_cases hn : n < 8
  · obtain ⟨op, hop⟩ : ∃ op, l[n.toNat]? = some op := ⟨l[n.toNat]'(by omega), by simp⟩
    have hc := opsO_cell hb hop
    have hg := lt_block hb
    by_cases h : op = 0
    · subst h
      have e : pickT l n (fun op => fillT p op 8) p = ilT p := by unfold pickT; rw [hop, ilT_is hp]; rfl
      rw [e]
      exact pick_y8_nil p n g bx w h0 hn (decide_eq_false (by omega)) hg hc
    · have e : pickT l n (fun op => fillT p op 8) p = fillT p op 8 := by unfold pickT; rw [hop]; exact if_neg h
      rw [e]
      exact pick_y8_yes p n op g bx _ w h0 hn (decide_eq_false (by omega)) hg hc (by simpa using h) (hid fun w' hw' => sys1_any hp op bx w' (hw'.keeps hx (by simp)))
  · have e : pickT l n (fun op => fillT p op 8) p = ilT p := by unfold pickT; rw [List.getElem?_eq_none (by omega), ilT_is hp]
    rw [e]
    exact pick_y8_no p n g bx w (decide_eq_true (by omega))
def sysC : Array Value := ([0, 89, 90, 91, 0, 92, 93, 94].map (Value.int .u8)).toArray
set_option maxRecDepth 100000 in
set_option maxHeartbeats 4000000 in
theorem sys_f (p a o rd r1 r2 im cs sz : Int) (w : World) (h1 : Hid (∀ w, Calls Try.prog 24 #[.int .u32 p] w fun e w' => e = .returned (.int .u32 a) ∧ ∃ n, w' = w.drewN n)) (t1 : (a != 0) = true) (t2 : decide (4 < a) = false)
    (h3 : Hid (∀ g bx w, w.heap[g]? = some (opsO [0, 89, 90, 91, 0, 92, 93, 94] 42) → w.heap[bx]? = some (.cells #[.int .u32 p] 41) → Calls Try.prog 23 #[.int .u32 p, .slice (some ⟨g, 0, none⟩) 8 8, .int .u32 a, .func (.func 50) #[] #[.pointer (some ⟨bx, 0, none⟩)]] w fun e w' => e = .returned (.agg (IC (o, rd, r1, r2, im, cs, sz))) ∧ Fr [] w w')) : Calls Try.prog 34 #[.int .u32 p] w fun e w' => e = .returned (.agg (IC (o, rd, r1, r2, im, cs, sz))) ∧ Fr [] w w' := by
  go_enter Try.func34, Try.ntmps34
  go_upto_region 2 with fail
  refine world_atF (fun W => W.heap[w.heap.size]? = some (.cells #[.int .u32 p] 41) ∧ W.heap[w.heap.size + 1]? = some (.cells (IC (0, 0, 0, 0, 0, 0, 0)) 25) ∧ W.heap[w.heap.size + 2]? = some (opsO [0, 89, 90, 91, 0, 92, 93, 94] 42) ∧ Fr [] w W) ⟨blk_alloc (blk_alloc (blk_new _ _) _) _, blk_alloc (blk_new' (n := w.heap.size + 1) (by simp) _) _, blk_new' (n := w.heap.size + 2) (by simp) _, (((Fr.refl [] w).alloc _).alloc _).alloc _⟩ ?_
  rintro W ⟨hP, hZ, hL, hF⟩
  have HP := hid hP
  have HZ := hid hZ
  have HL := hid hL
  have HF := hid hF
  have xp : W.cell? ⟨w.heap.size, 0, none⟩ = some (.int .u32 p) := by rw [blk_cell hP]; rfl
  clear hP hZ hL hF
  go_upto_region 3 with (go_at_call 24; (with_reducible refine (h1.out _).mono ?_); rintro e w' ⟨rfl, nn, rfl⟩)
  refine world_atF (fun W' => W'.heap[w.heap.size]? = some (.cells #[.int .u32 p] 41) ∧ W'.heap[w.heap.size + 1]? = some (.cells (IC (0, 0, 0, 0, 0, 0, 0)) 25) ∧ W'.heap[w.heap.size + 2]? = some (opsO [0, 89, 90, 91, 0, 92, 93, 94] 42) ∧ Fr [] w W') ⟨HP.out, HZ.out, HL.out, HF.out.drewN _⟩ ?_
  clear HP HZ HL HF xp
  rintro W2 ⟨hP, hZ, hL, hF⟩
  have HP := hid hP
  have HZ := hid hZ
  have HL := hid hL
  have HF := hid hF
  clear hP hZ hL hF
  refine wp_region_alloc 7 6 (by kernel_rfl) (by kernel_rfl) rfl _ rfl rfl (.cells (IC (0, 0, 0, 0, 0, 0, 0)) 25) (fun ρ w => by kernel_rfl) (by kernel_rfl) ?aF ?h ?ht
  case h =>
    intro w1 hw1 hne
    have y0 : ∀ n : Ext w1, n.w.cell? ⟨w.heap.size, 0, none⟩ = some (.int .u32 p) := fun n => Ext.cell n (hw1.keeps HP.out (by simp)) 0
    have c1 : Hid (∀ n : Ext w1, Calls Try.prog 24 #[.int .u32 p] n.w fun e w'' => e = .returned (.int .u32 a) ∧ ∃ m : Ext w1, w'' = m.w) := fun n => Ext.call n ((h1.out _).mono fun _ _ ⟨h1, k, h2⟩ => ⟨h1, by subst h2; exact (Fr.refl _ _).drewN _⟩)
    have c2 : Hid (∀ n : Ext w1, Calls Try.prog 23 #[.int .u32 p, .slice (some ⟨w.heap.size + 1 + 1, 0, none⟩) 8 8, .int .u32 a, .func (.func 50) #[] #[.pointer (some ⟨w.heap.size, 0, none⟩)]] n.w fun e w'' => e = .returned (.agg (IC (o, rd, r1, r2, im, cs, sz))) ∧ ∃ m : Ext w1, w'' = m.w) := fun n => Ext.call n (h3.out _ _ _ (n.blk (hw1.keeps HL.out (by simp))) (n.blk (hw1.keeps HP.out (by simp))))
    simp only [List.take_succ_cons, List.take_zero]
    repeat (go_big_quiet_step (first | (go_at_call 24; exact c1.out _) | (go_at_call 23; exact c2.out _)))
    refine wpQuiet_nil ?_
    rfl
  intro A W3 hF1 hA1 hAle
  simp only [List.drop_succ_cons, List.drop_zero, Act.put]
  go_upto_region 4 with (refine wpList_store_whole rfl 25 _ _ rfl A rfl (IC (o, rd, r1, r2, im, cs, sz)) rfl 25 _ hA1 rfl (sizeI' _) (IC_one _) ?_; intro w2 h2 hfr2)
  have hlt : w.heap.size + 1 < A := Nat.lt_of_lt_of_le (lt_block HZ.out) hAle
  have HZ2 := hid (hfr2.keeps (hF1.keeps HZ.out (by simp)) (fun h => by rw [List.mem_singleton.1 h] at hlt; omega))
  have HP2 := hfr2.keeps (hF1.keeps HP.out (by simp)) (fun h => by rw [List.mem_singleton.1 h] at hlt; omega)
  have HF2 := hid ((HF.out.trans hF1).step hfr2 (fun j hj => .inr (by rw [List.mem_singleton.1 hj]; omega)))
  have HLT := hid hlt
  have HX := hid h2
  have xp : w2.cell? ⟨w.heap.size, 0, none⟩ = some (.int .u32 p) := by rw [blk_cell HP2]; rfl
  have x0 : w2.cell? ⟨A, 0, none⟩ = some (.int .u8 (o)) := by rw [blk_cell h2]; rfl
  have x1 : w2.cell? ⟨A, 1, none⟩ = some (.int .u8 (rd)) := by rw [blk_cell h2]; rfl
  have x2 : w2.cell? ⟨A, 2, none⟩ = some (.int .u8 (r1)) := by rw [blk_cell h2]; rfl
  have x3 : w2.cell? ⟨A, 3, none⟩ = some (.int .u8 (r2)) := by rw [blk_cell h2]; rfl
  have x4 : w2.cell? ⟨A, 4, none⟩ = some (.int .i64 (im)) := by rw [blk_cell h2]; rfl
  have x5 : w2.cell? ⟨A, 5, none⟩ = some (.int .u16 (cs)) := by rw [blk_cell h2]; rfl
  have x6 : w2.cell? ⟨A, 6, none⟩ = some (.int .u8 (sz)) := by rw [blk_cell h2]; rfl
  clear hlt h2 hfr2 HP2 HP HZ HL HF hF1 hA1 hAle
  go_wp2_with (first | (go_at_call 24; (with_reducible refine (h1.out _).mono ?_); rintro e w' ⟨rfl, nn, rfl⟩) | (refine wpList_store_whole rfl 25 _ _ rfl (w.heap.size + 1) rfl (IC (o, rd, r1, r2, im, cs, sz)) rfl 25 _ (show (World.drewN _ _).heap[w.heap.size + 1]? = _ from HZ2.out) rfl (sizeI' _) (IC_one _) ?_; intro w2 h2 hfr2))
  exact ⟨rfl, _, results_c rfl rfl h2 Try.underlying25 rfl (sizeI' _), rfl, (HF2.out.drewN _).step hfr2 (fun j hj => .inr (by rw [List.mem_singleton.1 hj]; omega))⟩
set_option maxRecDepth 100000 in
set_option maxHeartbeats 4000000 in
theorem sys_g (p a o rd r1 r2 im cs sz : Int) (w : World) (h1 : Hid (∀ w, Calls Try.prog 24 #[.int .u32 p] w fun e w' => e = .returned (.int .u32 a) ∧ ∃ n, w' = w.drewN n)) (t1 : (a != 0) = true) (t2 : decide (4 < a) = true) (t3 : wrap64 r1 = r1)
    (h3 : Hid (∀ g bx w, w.heap[g]? = some (opsO [0, 89, 90, 91, 0, 92, 93, 94] 42) → w.heap[bx]? = some (.cells #[.int .u32 p] 41) → Calls Try.prog 23 #[.int .u32 p, .slice (some ⟨g, 0, none⟩) 8 8, .int .u32 a, .func (.func 50) #[] #[.pointer (some ⟨bx, 0, none⟩)]] w fun e w' => e = .returned (.agg (IC (o, rd, r1, r2, im, cs, sz))) ∧ Fr [] w w')) : Calls Try.prog 34 #[.int .u32 p] w fun e w' => e = .returned (.agg (IC (o, rd, 0, r2, r1, cs, sz))) ∧ Fr [] w w' := by
  go_enter Try.func34, Try.ntmps34
  go_upto_region 2 with fail
  refine world_atF (fun W => W.heap[w.heap.size]? = some (.cells #[.int .u32 p] 41) ∧ W.heap[w.heap.size + 1]? = some (.cells (IC (0, 0, 0, 0, 0, 0, 0)) 25) ∧ W.heap[w.heap.size + 2]? = some (opsO [0, 89, 90, 91, 0, 92, 93, 94] 42) ∧ Fr [] w W) ⟨blk_alloc (blk_alloc (blk_new _ _) _) _, blk_alloc (blk_new' (n := w.heap.size + 1) (by simp) _) _, blk_new' (n := w.heap.size + 2) (by simp) _, (((Fr.refl [] w).alloc _).alloc _).alloc _⟩ ?_
  rintro W ⟨hP, hZ, hL, hF⟩
  have HP := hid hP
  have HZ := hid hZ
  have HL := hid hL
  have HF := hid hF
  have xp : W.cell? ⟨w.heap.size, 0, none⟩ = some (.int .u32 p) := by rw [blk_cell hP]; rfl
  clear hP hZ hL hF
  go_upto_region 3 with (go_at_call 24; (with_reducible refine (h1.out _).mono ?_); rintro e w' ⟨rfl, nn, rfl⟩)
  refine world_atF (fun W' => W'.heap[w.heap.size]? = some (.cells #[.int .u32 p] 41) ∧ W'.heap[w.heap.size + 1]? = some (.cells (IC (0, 0, 0, 0, 0, 0, 0)) 25) ∧ W'.heap[w.heap.size + 2]? = some (opsO [0, 89, 90, 91, 0, 92, 93, 94] 42) ∧ Fr [] w W') ⟨HP.out, HZ.out, HL.out, HF.out.drewN _⟩ ?_
  clear HP HZ HL HF xp
  rintro W2 ⟨hP, hZ, hL, hF⟩
  have HP := hid hP
  have HZ := hid hZ
  have HL := hid hL
  have HF := hid hF
  clear hP hZ hL hF
  refine wp_region_alloc 7 6 (by kernel_rfl) (by kernel_rfl) rfl _ rfl rfl (.cells (IC (0, 0, 0, 0, 0, 0, 0)) 25) (fun ρ w => by kernel_rfl) (by kernel_rfl) ?aF ?h ?ht
  case h =>
    intro w1 hw1 hne
    have y0 : ∀ n : Ext w1, n.w.cell? ⟨w.heap.size, 0, none⟩ = some (.int .u32 p) := fun n => Ext.cell n (hw1.keeps HP.out (by simp)) 0
    have c1 : Hid (∀ n : Ext w1, Calls Try.prog 24 #[.int .u32 p] n.w fun e w'' => e = .returned (.int .u32 a) ∧ ∃ m : Ext w1, w'' = m.w) := fun n => Ext.call n ((h1.out _).mono fun _ _ ⟨h1, k, h2⟩ => ⟨h1, by subst h2; exact (Fr.refl _ _).drewN _⟩)
    have c2 : Hid (∀ n : Ext w1, Calls Try.prog 23 #[.int .u32 p, .slice (some ⟨w.heap.size + 1 + 1, 0, none⟩) 8 8, .int .u32 a, .func (.func 50) #[] #[.pointer (some ⟨w.heap.size, 0, none⟩)]] n.w fun e w'' => e = .returned (.agg (IC (o, rd, r1, r2, im, cs, sz))) ∧ ∃ m : Ext w1, w'' = m.w) := fun n => Ext.call n (h3.out _ _ _ (n.blk (hw1.keeps HL.out (by simp))) (n.blk (hw1.keeps HP.out (by simp))))
    simp only [List.take_succ_cons, List.take_zero]
    repeat (go_big_quiet_step (first | (go_at_call 24; exact c1.out _) | (go_at_call 23; exact c2.out _)))
    refine wpQuiet_nil ?_
    rfl
  intro A W3 hF1 hA1 hAle
  simp only [List.drop_succ_cons, List.drop_zero, Act.put]
  go_upto_region 4 with (refine wpList_store_whole rfl 25 _ _ rfl A rfl (IC (o, rd, r1, r2, im, cs, sz)) rfl 25 _ hA1 rfl (sizeI' _) (IC_one _) ?_; intro w2 h2 hfr2)
  have hlt : w.heap.size + 1 < A := Nat.lt_of_lt_of_le (lt_block HZ.out) hAle
  have HZ2 := hid (hfr2.keeps (hF1.keeps HZ.out (by simp)) (fun h => by rw [List.mem_singleton.1 h] at hlt; omega))
  have HP2 := hfr2.keeps (hF1.keeps HP.out (by simp)) (fun h => by rw [List.mem_singleton.1 h] at hlt; omega)
  have HF2 := hid ((HF.out.trans hF1).step hfr2 (fun j hj => .inr (by rw [List.mem_singleton.1 hj]; omega)))
  have HLT := hid hlt
  have HX := hid h2
  have xp : w2.cell? ⟨w.heap.size, 0, none⟩ = some (.int .u32 p) := by rw [blk_cell HP2]; rfl
  have x0 : w2.cell? ⟨A, 0, none⟩ = some (.int .u8 (o)) := by rw [blk_cell h2]; rfl
  have x1 : w2.cell? ⟨A, 1, none⟩ = some (.int .u8 (rd)) := by rw [blk_cell h2]; rfl
  have x2 : w2.cell? ⟨A, 2, none⟩ = some (.int .u8 (r1)) := by rw [blk_cell h2]; rfl
  have x3 : w2.cell? ⟨A, 3, none⟩ = some (.int .u8 (r2)) := by rw [blk_cell h2]; rfl
  have x4 : w2.cell? ⟨A, 4, none⟩ = some (.int .i64 (im)) := by rw [blk_cell h2]; rfl
  have x5 : w2.cell? ⟨A, 5, none⟩ = some (.int .u16 (cs)) := by rw [blk_cell h2]; rfl
  have x6 : w2.cell? ⟨A, 6, none⟩ = some (.int .u8 (sz)) := by rw [blk_cell h2]; rfl
  clear hlt h2 hfr2 HP2 HP HZ HL HF hF1 hA1 hAle
  have hfz2 := blk_free HX.out 2
  have hfz4 := blk_free HX.out 4
  go_upto_region 6 with (go_at_call 24; (with_reducible refine (h1.out _).mono ?_); rintro e w' ⟨rfl, nn, rfl⟩)
  refine world_atF (fun W => W.heap[w.heap.size + 1]? = some (.cells (IC (0, 0, 0, 0, 0, 0, 0)) 25) ∧ W.heap[A]? = some (.cells (IC (o, rd, 0, r2, r1, cs, sz)) 25) ∧ Fr [] w W) ⟨?_, ?_, ?_⟩ ?_
  · rw [blk_set_other _ (by have := HLT.out; simp; omega), blk_set_other _ (by have := HLT.out; simp; omega)]; exact HZ2.out
  · exact blk_set (blk_set (show (World.drewN _ _).heap[A]? = _ from HX.out) 4 _) 2 _
  · exact ((HF2.out.drewN _).setCell (.inr (by have := HLT.out; simp; omega)) _).setCell (.inr (by have := HLT.out; simp; omega)) _
  clear x0 x1 x2 x3 x4 x5 x6 hfz2 hfz4 HZ2 HF2 HX xp
  rintro W3 ⟨hZ3, hX3, hF3⟩
  have x0 : W3.cell? ⟨A, 0, none⟩ = some (.int .u8 (o)) := by rw [blk_cell hX3]; rfl
  have x1 : W3.cell? ⟨A, 1, none⟩ = some (.int .u8 (rd)) := by rw [blk_cell hX3]; rfl
  have x2 : W3.cell? ⟨A, 2, none⟩ = some (.int .u8 (0)) := by rw [blk_cell hX3]; rfl
  have x3 : W3.cell? ⟨A, 3, none⟩ = some (.int .u8 (r2)) := by rw [blk_cell hX3]; rfl
  have x4 : W3.cell? ⟨A, 4, none⟩ = some (.int .i64 (r1)) := by rw [blk_cell hX3]; rfl
  have x5 : W3.cell? ⟨A, 5, none⟩ = some (.int .u16 (cs)) := by rw [blk_cell hX3]; rfl
  have x6 : W3.cell? ⟨A, 6, none⟩ = some (.int .u8 (sz)) := by rw [blk_cell hX3]; rfl
  have HZ3 := hid hZ3
  have HF3 := hid hF3
  clear hZ3 hX3 hF3
  go_wp2_with (first | (refine wpList_store_whole rfl 25 _ _ rfl (w.heap.size + 1) rfl (IC (o, rd, 0, r2, r1, cs, sz)) rfl 25 _ HZ3.out rfl (sizeI' _) (IC_one _) ?_; intro w2 h2 hfr2))
  exact ⟨rfl, _, results_c rfl rfl h2 Try.underlying25 rfl (sizeI' _), rfl, HF3.out.step hfr2 (fun j hj => .inr (by rw [List.mem_singleton.1 hj]; omega))⟩
set_option maxRecDepth 100000 in
set_option maxHeartbeats 4000000 in
theorem sys_v (p r1 r2 : Int) (w : World) (h1 : Hid (∀ w, Calls Try.prog 24 #[.int .u32 p] w fun e w' => e = .returned (.int .u32 0) ∧ ∃ n, w' = w.drewN n)) (h2 : Hid (∀ w, Calls Try.prog 47 #[.int .u32 p] w fun e w' => e = .returned (.int .u32 9) ∧ ∃ n, w' = w.drewN n)) (h3 : Hid (∀ w, Calls Try.prog 21 #[.int .u32 p] w fun e w' => e = .returned (.int .u8 0) ∧ ∃ n, w' = w.drewN n)) (h4 : Hid (∀ w, Calls Try.prog 43 #[.int .u32 p] w fun e w' => e = .returned (.int .u8 r1) ∧ ∃ n, w' = w.drewN n)) (h5 : Hid (∀ w, Calls Try.prog 44 #[.int .u32 p] w fun e w' => e = .returned (.int .u8 r2) ∧ ∃ n, w' = w.drewN n)) : Calls Try.prog 34 #[.int .u32 p] w fun e w' => e = .returned (.agg (IC (98, 0, r1, r2, 0, 0, 4))) ∧ Fr [] w w' := by
  go_enter Try.func34, Try.ntmps34
  go_upto_region 2 with fail
  refine world_atF (fun W => W.heap[w.heap.size]? = some (.cells #[.int .u32 p] 41) ∧ W.heap[w.heap.size + 1]? = some (.cells (IC (0, 0, 0, 0, 0, 0, 0)) 25) ∧ W.heap[w.heap.size + 2]? = some (opsO [0, 89, 90, 91, 0, 92, 93, 94] 42) ∧ Fr [] w W) ⟨blk_alloc (blk_alloc (blk_new _ _) _) _, blk_alloc (blk_new' (n := w.heap.size + 1) (by simp) _) _, blk_new' (n := w.heap.size + 2) (by simp) _, (((Fr.refl [] w).alloc _).alloc _).alloc _⟩ ?_
  rintro W ⟨hP, hZ, hL, hF⟩
  have HP := hid hP
  have HZ := hid hZ
  have HL := hid hL
  have HF := hid hF
  have xp : W.cell? ⟨w.heap.size, 0, none⟩ = some (.int .u32 p) := by rw [blk_cell hP]; rfl
  clear hP hZ hL hF
  go_upto_region 8 with (first | (go_at_call 24; (with_reducible refine (h1.out _).mono ?_); rintro e w' ⟨rfl, nn, rfl⟩) | (go_at_call 47; (with_reducible refine (h2.out _).mono ?_); rintro e w' ⟨rfl, nn, rfl⟩) | (go_at_call 21; (with_reducible refine (h3.out _).mono ?_); rintro e w' ⟨rfl, nn, rfl⟩))
  refine world_atF (fun W' => W'.heap[w.heap.size]? = some (.cells #[.int .u32 p] 41) ∧ W'.heap[w.heap.size + 1]? = some (.cells (IC (0, 0, 0, 0, 0, 0, 0)) 25) ∧ Fr [] w W') ⟨HP.out, HZ.out, HF.out.drewN _⟩ ?_
  clear HP HZ HL HF xp
  rintro W2 ⟨hP, hZ, hF⟩
  have HP := hid hP
  have HZ := hid hZ
  have HF := hid hF
  clear hP hZ hF
  have y0 : ∀ n : Ext W2, n.w.cell? ⟨w.heap.size, 0, none⟩ = some (.int .u32 p) := fun n => Ext.cell n HP.out 0
  have c1 : Hid (∀ n : Ext W2, Calls Try.prog 43 #[.int .u32 p] n.w fun e w'' => e = .returned (.int .u8 r1) ∧ ∃ m : Ext W2, w'' = m.w) := fun n => Ext.call n ((h4.out _).mono fun _ _ ⟨h1, k, h2⟩ => ⟨h1, by subst h2; exact (Fr.refl _ _).drewN _⟩)
  have c2 : Hid (∀ n : Ext W2, Calls Try.prog 44 #[.int .u32 p] n.w fun e w'' => e = .returned (.int .u8 r2) ∧ ∃ m : Ext W2, w'' = m.w) := fun n => Ext.call n ((h5.out _).mono fun _ _ ⟨h1, k, h2⟩ => ⟨h1, by subst h2; exact (Fr.refl _ _).drewN _⟩)
  have hne := ext_ne W2
  refine wp_region_ext_tail 5 (by kernel_rfl) (by kernel_rfl) ?_
  simp only [List.take_succ_cons, List.take_zero, List.drop_succ_cons, List.drop_zero]
  repeat (go_big_quiet_step (first | (go_at_call 43; exact c1.out _) | (go_at_call 44; exact c2.out _)))
  refine wpQuiet_nil ?_
  intro w' hw'
  obtain ⟨m1, rfl⟩ := hw'
  have hZ1 := m1.blk HZ.out
  go_wp2_with (refine wpList_store_whole rfl 25 _ _ rfl (w.heap.size + 1) rfl (IC (98, 0, r1, r2, 0, 0, 4)) rfl 25 _ hZ1 rfl (sizeI' _) (IC_one _) ?_; intro w2 h2 hfr2)
  exact ⟨rfl, _, results_c rfl rfl h2 Try.underlying25 rfl (sizeI' _), rfl, (HF.out.trans m1.fr).step hfr2 (fun j hj => .inr (by rw [List.mem_singleton.1 hj]; omega))⟩
def sysR : List (Int × Int) := [(115, 52), (1048691, 53), (270532723, 96), (273678451, 97), (807403635, 95)]
def sysS (p : Int) : T7 := match sysR.find? (fun r => r.1 == p) with | some r => (r.2, 0, 0, 0, 0, 0, 4) | none => ill p
theorem sys_cells : ∀ (j : Nat) (r : Int × Int), sysR[j]? = some r → (#[.int .u32 115, .int .u8 52, .int .u32 1048691, .int .u8 53, .int .u32 270532723, .int .u8 96, .int .u32 273678451, .int .u8 97, .int .u32 807403635, .int .u8 95] : Array Value)[j * 2]? = some (.int .u32 r.1) ∧ (#[.int .u32 115, .int .u8 52, .int .u32 1048691, .int .u8 53, .int .u32 270532723, .int .u8 96, .int .u32 273678451, .int .u8 97, .int .u32 807403635, .int .u8 95] : Array Value)[j * 2 + 1]? = some (.int .u8 r.2)
  | 0, r, h => by cases h; exact ⟨rfl, rfl⟩
  | 1, r, h => by cases h; exact ⟨rfl, rfl⟩
  | 2, r, h => by cases h; exact ⟨rfl, rfl⟩
  | 3, r, h => by cases h; exact ⟨rfl, rfl⟩
  | 4, r, h => by cases h; exact ⟨rfl, rfl⟩
  | j + 5, r, h => by cases h
theorem sys_find {p : Int} {r : Int × Int} : ∀ (l : List (Int × Int)) (j : Nat), l[j]? = some r → (r.1 == p) = true → (∀ i, i < j → ∀ r, l[i]? = some r → (r.1 == p) = false) → l.find? (fun r => r.1 == p) = some r
  | [], j, h, _, _ => by simp at h
  | x :: l, 0, h, hm, _ => by
    simp only [List.getElem?_cons_zero, Option.some.injEq] at h
    subst h
    rw [List.find?_cons, hm]
  | x :: l, j + 1, h, hm, hn => by
    simp only [List.getElem?_cons_succ] at h
    rw [List.find?_cons, hn 0 (by omega) x rfl]
    exact sys_find l j h hm fun i hi r hr => hn (i + 1) (by omega) r (by simpa using hr)
set_option maxRecDepth 100000 in
set_option maxHeartbeats 4000000 in
theorem sys_l (p a7 rd : Int) (X : T7) (hX : Hid (sysS p = X)) (w : World) (h1 : Hid (∀ w, Calls Try.prog 24 #[.int .u32 p] w fun e w' => e = .returned (.int .u32 0) ∧ ∃ n, w' = w.drewN n)) (h2 : Hid (∀ w, Calls Try.prog 47 #[.int .u32 p] w fun e w' => e = .returned (.int .u32 a7) ∧ ∃ n, w' = w.drewN n)) (h3 : Hid (∀ w, Calls Try.prog 21 #[.int .u32 p] w fun e w' => e = .returned (.int .u8 rd) ∧ ∃ n, w' = w.drewN n)) (h4 : Hid (∀ w, Calls Try.prog 35 #[.int .u32 p] w fun e w' => e = .returned (.agg (IC (ill p))) ∧ Fr [] w w')) (t1 : (a7 == 9) = false) : Calls Try.prog 34 #[.int .u32 p] w fun e w' => e = .returned (.agg (IC X)) ∧ Fr [] w w' := by
  go_enter Try.func34, Try.ntmps34
  go_upto_region 2 with fail
  refine world_atF (fun W => W.heap[w.heap.size]? = some (.cells #[.int .u32 p] 41) ∧ W.heap[w.heap.size + 1]? = some (.cells (IC (0, 0, 0, 0, 0, 0, 0)) 25) ∧ W.heap[w.heap.size + 2]? = some (opsO [0, 89, 90, 91, 0, 92, 93, 94] 42) ∧ Fr [] w W) ⟨blk_alloc (blk_alloc (blk_new _ _) _) _, blk_alloc (blk_new' (n := w.heap.size + 1) (by simp) _) _, blk_new' (n := w.heap.size + 2) (by simp) _, (((Fr.refl [] w).alloc _).alloc _).alloc _⟩ ?_
  rintro W ⟨hP, hZ, hL, hF⟩
  have HP := hid hP
  have HZ := hid hZ
  have HL := hid hL
  have HF := hid hF
  have xp : W.cell? ⟨w.heap.size, 0, none⟩ = some (.int .u32 p) := by rw [blk_cell hP]; rfl
  clear hP hZ hL hF
  go_upto_region 9 with (first | (go_at_call 24; (with_reducible refine (h1.out _).mono ?_); rintro e w' ⟨rfl, nn, rfl⟩) | (go_at_call 47; (with_reducible refine (h2.out _).mono ?_); rintro e w' ⟨rfl, nn, rfl⟩) | (go_at_call 21; (with_reducible refine (h3.out _).mono ?_); rintro e w' ⟨rfl, nn, rfl⟩))
  refine world_atF (fun W' => W'.heap[w.heap.size]? = some (.cells #[.int .u32 p] 41) ∧ W'.heap[w.heap.size + 1]? = some (.cells (IC (0, 0, 0, 0, 0, 0, 0)) 25) ∧ Fr [] w W') ⟨HP.out, HZ.out, HF.out.drewN _⟩ ?_
  clear HP HZ HL HF xp h1 h2 h3
  rintro W2 ⟨hP, hZ, hF⟩
  have HP := hid hP
  have HZ := hid hZ
  have HF := hid hF
  clear hP hZ hF
  go_wp2
  go_loopw [6, 46] (fun s6 i wr => ∃ j : Nat, j ≤ 5 ∧ i = .int .i64 j ∧ Hid (∀ i, i < j → ∀ r, sysR[i]? = some r → (r.1 == p) = false) ∧ Hid (wr.heap[w.heap.size]? = some (.cells #[.int .u32 p] 41)) ∧ Hid (wr.heap[w.heap.size + 1]? = some (.cells (IC (0, 0, 0, 0, 0, 0, 0)) 25)) ∧ Hid (wr.heap[W2.heap.size]? = some (.cells #[.int .u32 115, .int .u8 52, .int .u32 1048691, .int .u8 53, .int .u32 270532723, .int .u8 96, .int .u32 273678451, .int .u8 97, .int .u32 807403635, .int .u8 95] 74)) ∧ Hid (Fr [] w wr)) (fun _ i _ => 5 - (intOf i).toNat)
  case atStart => exact ⟨0, by decide, rfl, fun i hi => by omega, blk_alloc HP.out _, blk_alloc HZ.out _, blk_new _ _, HF.out.alloc _⟩
  case round =>
    clear HP HZ HF
    obtain ⟨j, hj, rfl, hno, HP, HZ, HR, HF⟩ := hrel
    have xp : wr.cell? ⟨w.heap.size, 0, none⟩ = some (.int .u32 p) := by rw [blk_cell HP.out]; rfl
    have hlp := lt_block HP.out
    have hnp := Nat.ne_of_lt hlp
    have hnp' := Nat.ne_of_gt hlp
    by_cases hlt : j < 5
    · obtain ⟨⟨q, op⟩, hr⟩ : ∃ r, sysR[j]? = some r := ⟨sysR[j]'(show j < sysR.length from hlt), List.getElem?_eq_getElem _⟩
      have c0 : wr.cell? ⟨W2.heap.size, j * 2, none⟩ = some (.int .u32 q) := by rw [blk_cell HR.out]; exact (sys_cells j _ hr).1
      have c1 : wr.cell? ⟨W2.heap.size, j * 2 + 1, none⟩ = some (.int .u8 op) := by rw [blk_cell HR.out]; exact (sys_cells j _ hr).2
      have hlt' : decide ((j : Int) < 5) = true := decide_eq_true (by omega)
      cases hm : (q == p) with
      | false =>
        replace hr := hid hr
        go_wp2
        go_roundw
        case rel =>
          refine ⟨j + 1, by omega, by go_num, fun i hi r h => ?_, blk_alloc HP.out _, blk_alloc HZ.out _, blk_alloc HR.out _, HF.out.alloc _⟩
          by_cases e : i = j
          · subst e; rw [hr.out] at h; cases h; exact hm
          · exact hno.out i (by omega) r h
        case measure => simp [intOf]; omega
      | true =>
        have hT : sysS p = (op, 0, 0, 0, 0, 0, 4) := by
          unfold sysS; rw [sys_find sysR j hr hm hno.out]
        have hXX := hX.out.symm.trans hT
        subst hXX
        replace hr := hid hr
        clear hT
        go_wp2_with (first | (refine wpList_store_whole rfl 25 _ _ rfl (w.heap.size + 1) rfl (IC (op, 0, 0, 0, 0, 0, 4)) rfl 25 _ (blk_alloc HZ.out _) rfl (sizeI' _) (IC_one _) ?_; intro w2 h2 hfr2))
        exact ⟨rfl, _, results_c rfl rfl h2 Try.underlying25 rfl (sizeI' _), rfl, (HF.out.alloc _).step hfr2 (fun j hj => .inr (by rw [List.mem_singleton.1 hj]; omega))⟩
    · obtain rfl : j = 5 := by omega
      have hT : sysS p = ill p := by
        have : sysR.find? (fun r => r.1 == p) = none := by
          rw [List.find?_eq_none]
          intro r hr
          obtain ⟨i, hi⟩ := List.getElem?_of_mem hr
          have := hno.out i (List.getElem?_eq_some_iff.1 hi).1 r hi
          rw [this]; decide
        unfold sysS; rw [this]
      have hXX := hX.out.symm.trans hT
      rw [← hXX] at h4
      clear hT hXX
      go_wp2_with (first | (go_at_call 35; (with_reducible refine (h4.out _).mono ?_); rintro e w1 ⟨rfl, hd⟩) | (refine wpList_store_whole rfl 25 _ _ rfl (w.heap.size + 1) rfl (IC X) rfl 25 _ (hd.keeps HZ.out (by simp)) rfl (sizeI' _) (IC_one _) ?_; intro w2 h2 hfr2))
      exact ⟨rfl, _, results_c rfl rfl h2 Try.underlying25 rfl (sizeI' _), rfl, (HF.out.trans hd).step hfr2 (fun j hj => .inr (by rw [List.mem_singleton.1 hj]; omega))⟩
set_option maxRecDepth 100000 in
set_option maxHeartbeats 4000000 in
theorem sys_m (p a7 rd : Int) (X : T7) (hX : Hid (sysS p = X)) (w : World) (h1 : Hid (∀ w, Calls Try.prog 24 #[.int .u32 p] w fun e w' => e = .returned (.int .u32 0) ∧ ∃ n, w' = w.drewN n)) (h2 : Hid (∀ w, Calls Try.prog 47 #[.int .u32 p] w fun e w' => e = .returned (.int .u32 9) ∧ ∃ n, w' = w.drewN n)) (h3 : Hid (∀ w, Calls Try.prog 21 #[.int .u32 p] w fun e w' => e = .returned (.int .u8 rd) ∧ ∃ n, w' = w.drewN n)) (h4 : Hid (∀ w, Calls Try.prog 35 #[.int .u32 p] w fun e w' => e = .returned (.agg (IC (ill p))) ∧ Fr [] w w')) (t1 : (rd == 0) = false) : Calls Try.prog 34 #[.int .u32 p] w fun e w' => e = .returned (.agg (IC X)) ∧ Fr [] w w' := by
  go_enter Try.func34, Try.ntmps34
  go_upto_region 2 with fail
  refine world_atF (fun W => W.heap[w.heap.size]? = some (.cells #[.int .u32 p] 41) ∧ W.heap[w.heap.size + 1]? = some (.cells (IC (0, 0, 0, 0, 0, 0, 0)) 25) ∧ W.heap[w.heap.size + 2]? = some (opsO [0, 89, 90, 91, 0, 92, 93, 94] 42) ∧ Fr [] w W) ⟨blk_alloc (blk_alloc (blk_new _ _) _) _, blk_alloc (blk_new' (n := w.heap.size + 1) (by simp) _) _, blk_new' (n := w.heap.size + 2) (by simp) _, (((Fr.refl [] w).alloc _).alloc _).alloc _⟩ ?_
  rintro W ⟨hP, hZ, hL, hF⟩
  have HP := hid hP
  have HZ := hid hZ
  have HL := hid hL
  have HF := hid hF
  have xp : W.cell? ⟨w.heap.size, 0, none⟩ = some (.int .u32 p) := by rw [blk_cell hP]; rfl
  clear hP hZ hL hF
  go_upto_region 9 with (first | (go_at_call 24; (with_reducible refine (h1.out _).mono ?_); rintro e w' ⟨rfl, nn, rfl⟩) | (go_at_call 47; (with_reducible refine (h2.out _).mono ?_); rintro e w' ⟨rfl, nn, rfl⟩) | (go_at_call 21; (with_reducible refine (h3.out _).mono ?_); rintro e w' ⟨rfl, nn, rfl⟩))
  refine world_atF (fun W' => W'.heap[w.heap.size]? = some (.cells #[.int .u32 p] 41) ∧ W'.heap[w.heap.size + 1]? = some (.cells (IC (0, 0, 0, 0, 0, 0, 0)) 25) ∧ Fr [] w W') ⟨HP.out, HZ.out, HF.out.drewN _⟩ ?_
  clear HP HZ HL HF xp h1 h2 h3
  rintro W2 ⟨hP, hZ, hF⟩
  have HP := hid hP
  have HZ := hid hZ
  have HF := hid hF
  clear hP hZ hF
  go_wp2
  go_loopw [6, 46] (fun s6 i wr => ∃ j : Nat, j ≤ 5 ∧ i = .int .i64 j ∧ Hid (∀ i, i < j → ∀ r, sysR[i]? = some r → (r.1 == p) = false) ∧ Hid (wr.heap[w.heap.size]? = some (.cells #[.int .u32 p] 41)) ∧ Hid (wr.heap[w.heap.size + 1]? = some (.cells (IC (0, 0, 0, 0, 0, 0, 0)) 25)) ∧ Hid (wr.heap[W2.heap.size]? = some (.cells #[.int .u32 115, .int .u8 52, .int .u32 1048691, .int .u8 53, .int .u32 270532723, .int .u8 96, .int .u32 273678451, .int .u8 97, .int .u32 807403635, .int .u8 95] 74)) ∧ Hid (Fr [] w wr)) (fun _ i _ => 5 - (intOf i).toNat)
  case atStart => exact ⟨0, by decide, rfl, fun i hi => by omega, blk_alloc HP.out _, blk_alloc HZ.out _, blk_new _ _, HF.out.alloc _⟩
  case round =>
    clear HP HZ HF
    obtain ⟨j, hj, rfl, hno, HP, HZ, HR, HF⟩ := hrel
    have xp : wr.cell? ⟨w.heap.size, 0, none⟩ = some (.int .u32 p) := by rw [blk_cell HP.out]; rfl
    have hlp := lt_block HP.out
    have hnp := Nat.ne_of_lt hlp
    have hnp' := Nat.ne_of_gt hlp
    by_cases hlt : j < 5
    · obtain ⟨⟨q, op⟩, hr⟩ : ∃ r, sysR[j]? = some r := ⟨sysR[j]'(show j < sysR.length from hlt), List.getElem?_eq_getElem _⟩
      have c0 : wr.cell? ⟨W2.heap.size, j * 2, none⟩ = some (.int .u32 q) := by rw [blk_cell HR.out]; exact (sys_cells j _ hr).1
      have c1 : wr.cell? ⟨W2.heap.size, j * 2 + 1, none⟩ = some (.int .u8 op) := by rw [blk_cell HR.out]; exact (sys_cells j _ hr).2
      have hlt' : decide ((j : Int) < 5) = true := decide_eq_true (by omega)
      cases hm : (q == p) with
      | false =>
        replace hr := hid hr
        go_wp2
        go_roundw
        case rel =>
          refine ⟨j + 1, by omega, by go_num, fun i hi r h => ?_, blk_alloc HP.out _, blk_alloc HZ.out _, blk_alloc HR.out _, HF.out.alloc _⟩
          by_cases e : i = j
          · subst e; rw [hr.out] at h; cases h; exact hm
          · exact hno.out i (by omega) r h
        case measure => simp [intOf]; omega
      | true =>
        have hT : sysS p = (op, 0, 0, 0, 0, 0, 4) := by
          unfold sysS; rw [sys_find sysR j hr hm hno.out]
        have hXX := hX.out.symm.trans hT
        subst hXX
        replace hr := hid hr
        clear hT
        go_wp2_with (first | (refine wpList_store_whole rfl 25 _ _ rfl (w.heap.size + 1) rfl (IC (op, 0, 0, 0, 0, 0, 4)) rfl 25 _ (blk_alloc HZ.out _) rfl (sizeI' _) (IC_one _) ?_; intro w2 h2 hfr2))
        exact ⟨rfl, _, results_c rfl rfl h2 Try.underlying25 rfl (sizeI' _), rfl, (HF.out.alloc _).step hfr2 (fun j hj => .inr (by rw [List.mem_singleton.1 hj]; omega))⟩
    · obtain rfl : j = 5 := by omega
      have hT : sysS p = ill p := by
        have : sysR.find? (fun r => r.1 == p) = none := by
          rw [List.find?_eq_none]
          intro r hr
          obtain ⟨i, hi⟩ := List.getElem?_of_mem hr
          have := hno.out i (List.getElem?_eq_some_iff.1 hi).1 r hi
          rw [this]; decide
        unfold sysS; rw [this]
      have hXX := hX.out.symm.trans hT
      rw [← hXX] at h4
      clear hT hXX
      go_wp2_with (first | (go_at_call 35; (with_reducible refine (h4.out _).mono ?_); rintro e w1 ⟨rfl, hd⟩) | (refine wpList_store_whole rfl 25 _ _ rfl (w.heap.size + 1) rfl (IC X) rfl 25 _ (hd.keeps HZ.out (by simp)) rfl (sizeI' _) (IC_one _) ?_; intro w2 h2 hfr2))
      exact ⟨rfl, _, results_c rfl rfl h2 Try.underlying25 rfl (sizeI' _), rfl, (HF.out.trans hd).step hfr2 (fun j hj => .inr (by rw [List.mem_singleton.1 hj]; omega))⟩
/-- what is about CSRs and modes -/
def sysT (p : Int) : T7 :=
  let x := pickT [0, 89, 90, 91, 0, 92, 93, 94] (p / 4096 % 8) (fun op => fillT p op 8) p
  if p / 4096 % 8 = 0 then (if p / 33554432 % 128 = 9 ∧ p / 128 % 32 = 0 then (98, 0, p / 32768 % 32, p / 1048576 % 32, 0, 0, 4) else sysS p)
  else if 4 < p / 4096 % 8 then (x.1, x.2.1, 0, x.2.2.2.1, x.2.2.1, x.2.2.2.2.2.1, x.2.2.2.2.2.2) else x
theorem sys_r1 (p : Int) (n : Int) : 0 ≤ (pickT [0, 89, 90, 91, 0, 92, 93, 94] n (fun op => fillT p op 8) p).2.2.1 ∧ (pickT [0, 89, 90, 91, 0, 92, 93, 94] n (fun op => fillT p op 8) p).2.2.1 ≤ 31 := by
  unfold pickT
  split
  · split
    · exact ⟨Int.le_refl _, show (0 : Int) ≤ 31 by decide⟩
    · show 0 ≤ p / 32768 % 32 ∧ p / 32768 % 32 ≤ 31
      omega
  · exact ⟨Int.le_refl _, show (0 : Int) ≤ 31 by decide⟩
theorem system_any {p : Int} (hp : P32 p) (w : World) : Calls Try.prog 34 #[.int .u32 p] w fun e w' => e = .returned (.agg (IC (sysT p))) ∧ Fr [] w w' := by
  have h1 := fun w => c_f3 hp w
  have h2 := fun w => c_f7 hp w
  have h3 := fun w => c_rd hp w
  have h4 := fun w => c_rs1 hp w
  have h5 := fun w => c_rs2 hp w
  have hq := fun (g bx : Nat) (w : World) (hb : w.heap[g]? = some (opsO [0, 89, 90, 91, 0, 92, 93, 94] 42)) (hx : w.heap[bx]? = some (.cells #[.int .u32 p] 41)) => picks_y8 hp (p / 4096 % 8) (by omega) g bx [0, 89, 90, 91, 0, 92, 93, 94] rfl 42 w hb hx
  have hr := sys_r1 p (p / 4096 % 8)
  have ha : 0 ≤ p / 4096 % 8 := by omega
  unfold sysT
  generalize pickT [0, 89, 90, 91, 0, 92, 93, 94] (p / 4096 % 8) (fun op => fillT p op 8) p = x at *
  obtain ⟨o, rd, r1, r2, im, cs, sz⟩ := x
  simp only at hr ⊢
  generalize p / 4096 % 8 = a at *
  by_cases h0 : a = 0
  · subst h0
    rw [if_pos rfl]
    generalize p / 33554432 % 128 = b at *
    generalize p / 128 % 32 = d at *
    by_cases hv : b = 9 ∧ d = 0
    · rw [if_pos hv]
      obtain ⟨rfl, rfl⟩ := hv
      exact sys_v p _ _ w (hid h1) (hid h2) (hid h3) (hid h4) (hid h5)
    · rw [if_neg hv]
      by_cases h9 : b = 9
      · subst h9
        exact sys_m p 9 d _ (hid rfl) w (hid h1) (hid h2) (hid h3) (hid fun w => c_ill hp w) (by simpa using fun h => hv ⟨rfl, h⟩)
      · exact sys_l p b d _ (hid rfl) w (hid h1) (hid h2) (hid h3) (hid fun w => c_ill hp w) (by simpa using h9)
  · rw [if_neg h0]
    by_cases h4' : 4 < a
    · rw [if_pos h4']
      exact sys_g p a o rd r1 r2 im cs sz w (hid h1) (by simpa using h0) (decide_eq_true h4') (by unfold wrap64; omega) (hid hq)
    · rw [if_neg h4']
      exact sys_f p a o rd r1 r2 im cs sz w (hid h1) (by simpa using h0) (decide_eq_false h4') (hid hq)
end Go.Proofs.Ytogdifjdlkpehaa.PA
