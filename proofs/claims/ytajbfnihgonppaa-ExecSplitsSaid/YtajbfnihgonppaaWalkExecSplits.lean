/- The law ExecSplits: its walk. -/
import Derived.Test.YtajbfnihgonppaaRunP
import Derived.Test.YtajbfnihgonppaaK3
namespace Go.Proofs.Ytajbfnihgonppaa.PA
open Go.RowKit Go.Proofs.Ytajbfnihgonppaa.Plain
set_option linter.all false
attribute [local go_sem ↓] eqg_24 eql_24
def AC (p m p1 m1 : Int) : Array Value := #[.int .u64 p, .int .u16 m, .int .u64 p1, .int .u16 m1]
set_option maxRecDepth 100000 in
set_option maxHeartbeats 4000000 in
theorem splits_long (s : Nat → Int) (A : Option Addr) (len cap : Nat) (p m p1 m1 : Int) (w : World) (hlen : 60 < len) (h7 : Hid (∀ w, Calls Try.prog 10 #[] w fun e w' => e = .returned (.bool true) ∧ Fr [] w w')) : Calls Try.prog 7 #[.agg (regC s), .slice A len cap, .agg (AC p m p1 m1)] w fun e w' => e = .returned (.bool true) ∧ Fr [] w w' := by
  have hlt : (60 : Int) < (len : Int) := by omega
  have hK := ((Fr.refl [] w).alloc (.cells (regC s) 24)).alloc (.cells (AC p m p1 m1) 53)
  go_enter Try.func7, Try.ntmps7
  go_wp2_with (go_at_call 10; (with_reducible refine (h7.out _).mono ?_); rintro e w6 ⟨rfl, hd⟩; replace hK := hK.trans hd; clear hd)
  go_ret
  exact ⟨rfl, hK⟩
set_option maxRecDepth 100000 in
set_option maxHeartbeats 4000000 in
theorem splits_T (s S S2 : Nat → Int) (A : Option Addr) (len cap : Nat) (p m0 p1 m1 en mid : Int) (n k a b : Int) (ok : Bool) (w : World) (hlen : len ≤ 60) (n0 : 0 ≤ n) (ha : m0 % 200 = a) (hb : m1 % 200 = b) (c0 : 0 ≤ m0 ∧ m0 < 65536) (c1 : 0 ≤ m1 ∧ m1 < 65536)
    (h1 : Hid (∀ g w1, Fr [] w w1 → w.heap.size ≤ g → w1.heap[g]? = some (.cells (regC s) 24) → Calls Try.prog 18 #[.pointer (some ⟨g, 0, none⟩), .int .u64 p, .slice A len cap, .int .i64 (a + b)] w1 fun e w' => e = .returned (.tuple #[.int .u64 en, .int .i64 n, .bool true]) ∧ w'.heap[g]? = some (.cells (regC S) 24) ∧ Fr [g] w1 w'))
    (h2 : Hid (∀ g w1, Fr [] w w1 → w.heap.size ≤ g → w1.heap[g]? = some (.cells (regC s) 24) → Calls Try.prog 18 #[.pointer (some ⟨g, 0, none⟩), .int .u64 p, .slice A len cap, .int .i64 a] w1 fun e w' => e = .returned (.tuple #[.int .u64 en, .int .i64 n, .bool true]) ∧ w'.heap[g]? = some (.cells (regC S) 24) ∧ Fr [g] w1 w'))
    (hn : n ≤ a)
    (h7 : Hid (∀ w, Calls Try.prog 10 #[] w fun e w' => e = .returned (.bool true) ∧ Fr [] w w')) : Calls Try.prog 7 #[.agg (regC s), .slice A len cap, .agg (AC p m0 p1 m1)] w fun e w' => e = .returned (.bool true) ∧ Fr [] w w' := by
  have hlt : ¬ ((60 : Int) < (len : Int)) := by omega
  have a0 : 0 ≤ a ∧ a < 200 := by omega
  have b0 : 0 ≤ b ∧ b < 200 := by omega
  have q1 : (en == en) = true := beq_self_eq_true _
  have q2 : (n == n) = true := beq_self_eq_true _
  have q3 : (ok == ok) = true := beq_self_eq_true _
  have t1 : ¬ (a + b < n) := by omega
  go_enter Try.func7, Try.ntmps7
  go_upto_region 3 with fail
  refine world_at' (fun W => W.heap[w.heap.size]? = some (.cells (regC s) 24) ∧ W.heap[w.heap.size + 1]? = some (.cells (AC p m0 p1 m1) 53) ∧ W.heap.size = w.heap.size + 2 ∧ Fr [] w W) ⟨blk_alloc (blk_new _ _) _, blk_new' (n := w.heap.size + 1) (by simp) _, by simp, ((Fr.refl [] w).alloc _).alloc _⟩ ?_
  rintro W ⟨hR, hX, hs, hF⟩
  have y1 : ∀ m : Ext W, m.w.cell? ⟨w.heap.size + 1, 1, none⟩ = some (.int .u16 m0) := fun m => by rw [blk_cell (m.blk hX)]; rfl
  have y3 : ∀ m : Ext W, m.w.cell? ⟨w.heap.size + 1, 3, none⟩ = some (.int .u16 m1) := fun m => by rw [blk_cell (m.blk hX)]; rfl
  have HR := hid hR
  have HX := hid hX
  have HF := hid hF
  have HS := hid hs
  clear hR hX hF hs
  have hne := ext_ne W
  refine wp_region_ext (by kernel_rfl) (by kernel_rfl) ?_
  repeat (go_big_quiet_step (fail))
  refine wpQuiet_nil ?_
  intro w' hw'
  obtain ⟨z1, rfl⟩ := hw'
  have hR := z1.blk HR.out
  have hX := z1.blk HX.out
  have hF := HF.out.trans z1.fr
  have hs := z1.fr.size
  generalize z1.w = W2 at *
  have hs2 : w.heap.size + 2 ≤ W2.heap.size := by have := HS.out; omega
  clear HR HX HF HS y1 y3 hne hs z1
  have HR := hid hR
  have HX := hid hX
  have HF := hid hF
  have HS := hid hs2
  clear hR hX hF hs2
  go_upto_region 4 with fail
  (try simp only [Act.put, List.setIfInBounds_toArray, List.set_cons_zero, List.set_cons_succ])
  go_cut [9, 10] (fun u9 u10 wc => ∃ A B : Nat, u9 = .pointer (some ⟨A, 0, none⟩) ∧ u10 = .pointer (some ⟨B, 0, none⟩) ∧ wc.heap[A]? = some (.cells (regC s) 24) ∧ wc.heap[B]? = some (.cells (regC s) 24) ∧ W2.heap.size ≤ A ∧ W2.heap.size ≤ B ∧ A ≠ B ∧ Fr [] W2 wc)
  case first =>
    refine wp_region_held_drew (S := fun W' => W'.heap[w.heap.size]? = some (.cells (regC s) 24) ∧ Fr [] W2 W') (by kernel_rfl) ⟨HR.out, (Fr.refl [] W2).drew⟩ (fun hHeld => ?_)
    refine wpAnyH_take (i := 0) rfl (by kernel_rfl) (by kernel_rfl) (by kernel_rfl) (fun _ _ _ h => h) (yieldsIf_row (by rfl) 24 _ rfl w.heap.size rfl 24 (regC s) (0, 0) _ (fun w' h => h.1) Try.underlying24 rfl (size_x _)) hHeld ?_
    simp only [Act.put, List.setIfInBounds_toArray, List.set_cons_zero, List.set_cons_succ]
    refine wpAnyH_take (i := 1) rfl (by kernel_rfl) (by kernel_rfl) (by kernel_rfl) (fun _ _ _ h => h) (yieldsIf_row (by rfl) 24 _ rfl w.heap.size rfl 24 (regC s) (0, 0) _ (fun w' h => h.1) Try.underlying24 rfl (size_x _)) hHeld ?_
    simp only [Act.put, List.setIfInBounds_toArray, List.set_cons_zero, List.set_cons_succ]
    refine wpAnyH_ready (rs := [2, 3]) (by kernel_rfl) (by simp) ?_
    have hl1 := lt_block HR.out
    refine AllReadyH.cons rfl (fun K hK => ?_) (AllReadyH.cons rfl (fun K hK => ?_) AllReadyH.nil)
    · go_simp
      refine hK.out _ _ ⟨blk_alloc hHeld.1 _, hHeld.2.alloc _⟩ (fun hHeld => ?_)
      clear hK K
      refine wpAnyH_ready (rs := [3]) (by kernel_rfl) (by simp) ?_
      refine AllReadyH.cons rfl (fun K hK => ?_) AllReadyH.nil
      go_simp
      refine hK.out _ _ ⟨blk_alloc hHeld.1 _, hHeld.2.alloc _⟩ (fun hHeld => ?_)
      clear hK K
      refine wpAnyH_ready (rs := [4]) (by kernel_rfl) (by simp) ?_
      refine AllReadyH.cons rfl (fun K hK => ?_) AllReadyH.nil
      rw [if_pos (by rfl)]
      refine wp_store_whole 24 _ _ rfl (W2.heap.size) rfl (regC s) rfl 24 _ (blk_alloc (blk_new _ _) _) (by rw [regC_size]; rfl) (size_x _) (regC_one _) (fun w5 h5 hfr5 => ?_)
      simp only [Act.put]
      refine hK.out _ _ ⟨hfr5.keeps hHeld.1 (by simp; omega), hHeld.2.step hfr5 (fun j hj => .inr (by rw [List.mem_singleton.1 hj]; omega))⟩ (fun hHeld => ?_)
      clear hK K
      refine wpAnyH_ready (rs := [5]) (by kernel_rfl) (by simp) ?_
      refine AllReadyH.cons rfl (fun K hK => ?_) AllReadyH.nil
      rw [if_pos (by rfl)]
      refine wp_store_whole 24 _ _ rfl (W2.heap.size + 1) rfl (regC s) rfl 24 _ (hfr5.keeps (blk_new' (by simp) _) (by simp)) (by rw [regC_size]; rfl) (size_x _) (regC_one _) (fun w6 h6 hfr6 => ?_)
      simp only [Act.put]
      refine hK.out _ _ ⟨hfr6.keeps hHeld.1 (by simp; omega), hHeld.2.step hfr6 (fun j hj => .inr (by rw [List.mem_singleton.1 hj]; omega))⟩ (fun hHeld => ?_)
      clear hK K
      refine wpAnyH_done (by kernel_rfl) ?_ _
      go_wp2
      go_meet
      case rel => exact ⟨W2.heap.size, W2.heap.size + 1, rfl, rfl, hfr6.keeps h5 (by simp), h6, by omega, by omega, by omega, hHeld.2⟩
    · go_simp
      refine hK.out _ _ ⟨blk_alloc hHeld.1 _, hHeld.2.alloc _⟩ (fun hHeld => ?_)
      clear hK K
      refine wpAnyH_ready (rs := [2]) (by kernel_rfl) (by simp) ?_
      refine AllReadyH.cons rfl (fun K hK => ?_) AllReadyH.nil
      go_simp
      refine hK.out _ _ ⟨blk_alloc hHeld.1 _, hHeld.2.alloc _⟩ (fun hHeld => ?_)
      clear hK K
      refine wpAnyH_ready (rs := [4]) (by kernel_rfl) (by simp) ?_
      refine AllReadyH.cons rfl (fun K hK => ?_) AllReadyH.nil
      rw [if_pos (by rfl)]
      refine wp_store_whole 24 _ _ rfl (W2.heap.size + 1) rfl (regC s) rfl 24 _ (blk_new' (by simp) _) (by rw [regC_size]; rfl) (size_x _) (regC_one _) (fun w5 h5 hfr5 => ?_)
      simp only [Act.put]
      refine hK.out _ _ ⟨hfr5.keeps hHeld.1 (by simp; omega), hHeld.2.step hfr5 (fun j hj => .inr (by rw [List.mem_singleton.1 hj]; omega))⟩ (fun hHeld => ?_)
      clear hK K
      refine wpAnyH_ready (rs := [5]) (by kernel_rfl) (by simp) ?_
      refine AllReadyH.cons rfl (fun K hK => ?_) AllReadyH.nil
      rw [if_pos (by rfl)]
      refine wp_store_whole 24 _ _ rfl (W2.heap.size) rfl (regC s) rfl 24 _ (hfr5.keeps (blk_alloc (blk_new _ _) _) (by simp)) (by rw [regC_size]; rfl) (size_x _) (regC_one _) (fun w6 h6 hfr6 => ?_)
      simp only [Act.put]
      refine hK.out _ _ ⟨hfr6.keeps hHeld.1 (by simp; omega), hHeld.2.step hfr6 (fun j hj => .inr (by rw [List.mem_singleton.1 hj]; omega))⟩ (fun hHeld => ?_)
      clear hK K
      refine wpAnyH_done (by kernel_rfl) ?_ _
      go_wp2
      go_meet
      case rel => exact ⟨W2.heap.size + 1, W2.heap.size, rfl, rfl, hfr6.keeps h5 (by simp), h6, by omega, by omega, by omega, hHeld.2⟩
  obtain ⟨A1, B1, rfl, rfl, hA, hB, hAle, hBle, hne, hF1⟩ := hcut
  have hL : w.heap.size + 2 ≤ A1 ∧ w.heap.size + 2 ≤ B1 ∧ A1 ≠ B1 := ⟨by have := HS.out; omega, by have := HS.out; omega, hne⟩
  have hX := hF1.keeps HX.out (by simp)
  have hF := HF.out.trans hF1
  clear hF1 hAle hBle hne HR HX HF HS
  have x0 : wc.cell? ⟨w.heap.size + 1, 0, none⟩ = some (.int .u64 p) := by rw [blk_cell hX]; rfl
  have HX := hid hX
  have HA := hid hA
  have HB := hid hB
  have HF := hid hF
  have HL := hid hL
  clear hX hA hB hF hL
  go_upto_region 6 with (go_at_call 18; (with_reducible refine (h1.out _ _ HF.out (by have := HL.out; omega) HA.out).mono ?_); rintro e w3 ⟨rfl, hA, hd⟩)
  have hX := hd.keeps HX.out (by have := HL.out; simp; omega)
  have hB := hd.keeps HB.out (by have := HL.out; simp; omega)
  have hF := HF.out.step hd (fun j hj => .inr (by rw [List.mem_singleton.1 hj]; have := HL.out; omega))
  clear x0 HX HA HB HF hd h1
  have x0 : w3.cell? ⟨w.heap.size + 1, 0, none⟩ = some (.int .u64 p) := by rw [blk_cell hX]; rfl
  have HA := hid hA
  have HB := hid hB
  have HF := hid hF
  clear hX hA hB hF
  go_upto_region 7 with (go_at_call 18; (with_reducible refine (h2.out _ _ HF.out (by have := HL.out; omega) HB.out).mono ?_); rintro e w4 ⟨rfl, hB, hd⟩)
  have hA := hd.keeps HA.out (by have := HL.out; simp; omega)
  have hF := HF.out.step hd (fun j hj => .inr (by rw [List.mem_singleton.1 hj]; have := HL.out; omega))
  clear x0 HA HB HF hd h2
  have HA := hid hA
  have HB := hid hB
  have HF := hid hF
  clear hA hB hF
  have hK := Fr.refl [] w4
  go_wp2_with (first | (refine wpList_load_row_g (by rfl) 24 _ (by rfl) (A1) (by rfl) 24 (regC S) (0, 0) _ HA.out Try.underlying24 rfl (size_x _) ?_) | (refine wpList_load_row_g (by rfl) 24 _ (by rfl) (B1) (by rfl) 24 (regC S) (0, 0) _ HB.out Try.underlying24 rfl (size_x _) ?_) | (go_at_call 10; (with_reducible refine (h7.out _).mono ?_); rintro e w6 ⟨rfl, hd⟩; replace hK := hK.trans hd; clear hd))
  go_ret
  exact ⟨rfl, HF.out.trans hK⟩
set_option maxRecDepth 100000 in
set_option maxHeartbeats 4000000 in
theorem splits_F (s S S2 : Nat → Int) (A : Option Addr) (len cap : Nat) (p m0 p1 m1 en mid : Int) (n k a b : Int) (ok : Bool) (w : World) (hlen : len ≤ 60) (n0 : 0 ≤ n) (ha : m0 % 200 = a) (hb : m1 % 200 = b) (c0 : 0 ≤ m0 ∧ m0 < 65536) (c1 : 0 ≤ m1 ∧ m1 < 65536)
    (h1 : Hid (∀ g w1, Fr [] w w1 → w.heap.size ≤ g → w1.heap[g]? = some (.cells (regC s) 24) → Calls Try.prog 18 #[.pointer (some ⟨g, 0, none⟩), .int .u64 p, .slice A len cap, .int .i64 (a + b)] w1 fun e w' => e = .returned (.tuple #[.int .u64 en, .int .i64 n, .bool false]) ∧ w'.heap[g]? = some (.cells (regC S) 24) ∧ Fr [g] w1 w'))
    (h2 : Hid (∀ g w1, Fr [] w w1 → w.heap.size ≤ g → w1.heap[g]? = some (.cells (regC s) 24) → Calls Try.prog 18 #[.pointer (some ⟨g, 0, none⟩), .int .u64 p, .slice A len cap, .int .i64 a] w1 fun e w' => e = .returned (.tuple #[.int .u64 en, .int .i64 n, .bool false]) ∧ w'.heap[g]? = some (.cells (regC S) 24) ∧ Fr [g] w1 w'))
    (hn : n < a)
    (h7 : Hid (∀ w, Calls Try.prog 10 #[] w fun e w' => e = .returned (.bool true) ∧ Fr [] w w')) : Calls Try.prog 7 #[.agg (regC s), .slice A len cap, .agg (AC p m0 p1 m1)] w fun e w' => e = .returned (.bool true) ∧ Fr [] w w' := by
  have hlt : ¬ ((60 : Int) < (len : Int)) := by omega
  have a0 : 0 ≤ a ∧ a < 200 := by omega
  have b0 : 0 ≤ b ∧ b < 200 := by omega
  have q1 : (en == en) = true := beq_self_eq_true _
  have q2 : (n == n) = true := beq_self_eq_true _
  have q3 : (ok == ok) = true := beq_self_eq_true _
  have t1 : ¬ (a + b < n) := by omega
  go_enter Try.func7, Try.ntmps7
  go_upto_region 3 with fail
  refine world_at' (fun W => W.heap[w.heap.size]? = some (.cells (regC s) 24) ∧ W.heap[w.heap.size + 1]? = some (.cells (AC p m0 p1 m1) 53) ∧ W.heap.size = w.heap.size + 2 ∧ Fr [] w W) ⟨blk_alloc (blk_new _ _) _, blk_new' (n := w.heap.size + 1) (by simp) _, by simp, ((Fr.refl [] w).alloc _).alloc _⟩ ?_
  rintro W ⟨hR, hX, hs, hF⟩
  have y1 : ∀ m : Ext W, m.w.cell? ⟨w.heap.size + 1, 1, none⟩ = some (.int .u16 m0) := fun m => by rw [blk_cell (m.blk hX)]; rfl
  have y3 : ∀ m : Ext W, m.w.cell? ⟨w.heap.size + 1, 3, none⟩ = some (.int .u16 m1) := fun m => by rw [blk_cell (m.blk hX)]; rfl
  have HR := hid hR
  have HX := hid hX
  have HF := hid hF
  have HS := hid hs
  clear hR hX hF hs
  have hne := ext_ne W
  refine wp_region_ext (by kernel_rfl) (by kernel_rfl) ?_
  repeat (go_big_quiet_step (fail))
  refine wpQuiet_nil ?_
  intro w' hw'
  obtain ⟨z1, rfl⟩ := hw'
  have hR := z1.blk HR.out
  have hX := z1.blk HX.out
  have hF := HF.out.trans z1.fr
  have hs := z1.fr.size
  generalize z1.w = W2 at *
  have hs2 : w.heap.size + 2 ≤ W2.heap.size := by have := HS.out; omega
  clear HR HX HF HS y1 y3 hne hs z1
  have HR := hid hR
  have HX := hid hX
  have HF := hid hF
  have HS := hid hs2
  clear hR hX hF hs2
  go_upto_region 4 with fail
  (try simp only [Act.put, List.setIfInBounds_toArray, List.set_cons_zero, List.set_cons_succ])
  go_cut [9, 10] (fun u9 u10 wc => ∃ A B : Nat, u9 = .pointer (some ⟨A, 0, none⟩) ∧ u10 = .pointer (some ⟨B, 0, none⟩) ∧ wc.heap[A]? = some (.cells (regC s) 24) ∧ wc.heap[B]? = some (.cells (regC s) 24) ∧ W2.heap.size ≤ A ∧ W2.heap.size ≤ B ∧ A ≠ B ∧ Fr [] W2 wc)
  case first =>
    refine wp_region_held_drew (S := fun W' => W'.heap[w.heap.size]? = some (.cells (regC s) 24) ∧ Fr [] W2 W') (by kernel_rfl) ⟨HR.out, (Fr.refl [] W2).drew⟩ (fun hHeld => ?_)
    refine wpAnyH_take (i := 0) rfl (by kernel_rfl) (by kernel_rfl) (by kernel_rfl) (fun _ _ _ h => h) (yieldsIf_row (by rfl) 24 _ rfl w.heap.size rfl 24 (regC s) (0, 0) _ (fun w' h => h.1) Try.underlying24 rfl (size_x _)) hHeld ?_
    simp only [Act.put, List.setIfInBounds_toArray, List.set_cons_zero, List.set_cons_succ]
    refine wpAnyH_take (i := 1) rfl (by kernel_rfl) (by kernel_rfl) (by kernel_rfl) (fun _ _ _ h => h) (yieldsIf_row (by rfl) 24 _ rfl w.heap.size rfl 24 (regC s) (0, 0) _ (fun w' h => h.1) Try.underlying24 rfl (size_x _)) hHeld ?_
    simp only [Act.put, List.setIfInBounds_toArray, List.set_cons_zero, List.set_cons_succ]
    refine wpAnyH_ready (rs := [2, 3]) (by kernel_rfl) (by simp) ?_
    have hl1 := lt_block HR.out
    refine AllReadyH.cons rfl (fun K hK => ?_) (AllReadyH.cons rfl (fun K hK => ?_) AllReadyH.nil)
    · go_simp
      refine hK.out _ _ ⟨blk_alloc hHeld.1 _, hHeld.2.alloc _⟩ (fun hHeld => ?_)
      clear hK K
      refine wpAnyH_ready (rs := [3]) (by kernel_rfl) (by simp) ?_
      refine AllReadyH.cons rfl (fun K hK => ?_) AllReadyH.nil
      go_simp
      refine hK.out _ _ ⟨blk_alloc hHeld.1 _, hHeld.2.alloc _⟩ (fun hHeld => ?_)
      clear hK K
      refine wpAnyH_ready (rs := [4]) (by kernel_rfl) (by simp) ?_
      refine AllReadyH.cons rfl (fun K hK => ?_) AllReadyH.nil
      rw [if_pos (by rfl)]
      refine wp_store_whole 24 _ _ rfl (W2.heap.size) rfl (regC s) rfl 24 _ (blk_alloc (blk_new _ _) _) (by rw [regC_size]; rfl) (size_x _) (regC_one _) (fun w5 h5 hfr5 => ?_)
      simp only [Act.put]
      refine hK.out _ _ ⟨hfr5.keeps hHeld.1 (by simp; omega), hHeld.2.step hfr5 (fun j hj => .inr (by rw [List.mem_singleton.1 hj]; omega))⟩ (fun hHeld => ?_)
      clear hK K
      refine wpAnyH_ready (rs := [5]) (by kernel_rfl) (by simp) ?_
      refine AllReadyH.cons rfl (fun K hK => ?_) AllReadyH.nil
      rw [if_pos (by rfl)]
      refine wp_store_whole 24 _ _ rfl (W2.heap.size + 1) rfl (regC s) rfl 24 _ (hfr5.keeps (blk_new' (by simp) _) (by simp)) (by rw [regC_size]; rfl) (size_x _) (regC_one _) (fun w6 h6 hfr6 => ?_)
      simp only [Act.put]
      refine hK.out _ _ ⟨hfr6.keeps hHeld.1 (by simp; omega), hHeld.2.step hfr6 (fun j hj => .inr (by rw [List.mem_singleton.1 hj]; omega))⟩ (fun hHeld => ?_)
      clear hK K
      refine wpAnyH_done (by kernel_rfl) ?_ _
      go_wp2
      go_meet
      case rel => exact ⟨W2.heap.size, W2.heap.size + 1, rfl, rfl, hfr6.keeps h5 (by simp), h6, by omega, by omega, by omega, hHeld.2⟩
    · go_simp
      refine hK.out _ _ ⟨blk_alloc hHeld.1 _, hHeld.2.alloc _⟩ (fun hHeld => ?_)
      clear hK K
      refine wpAnyH_ready (rs := [2]) (by kernel_rfl) (by simp) ?_
      refine AllReadyH.cons rfl (fun K hK => ?_) AllReadyH.nil
      go_simp
      refine hK.out _ _ ⟨blk_alloc hHeld.1 _, hHeld.2.alloc _⟩ (fun hHeld => ?_)
      clear hK K
      refine wpAnyH_ready (rs := [4]) (by kernel_rfl) (by simp) ?_
      refine AllReadyH.cons rfl (fun K hK => ?_) AllReadyH.nil
      rw [if_pos (by rfl)]
      refine wp_store_whole 24 _ _ rfl (W2.heap.size + 1) rfl (regC s) rfl 24 _ (blk_new' (by simp) _) (by rw [regC_size]; rfl) (size_x _) (regC_one _) (fun w5 h5 hfr5 => ?_)
      simp only [Act.put]
      refine hK.out _ _ ⟨hfr5.keeps hHeld.1 (by simp; omega), hHeld.2.step hfr5 (fun j hj => .inr (by rw [List.mem_singleton.1 hj]; omega))⟩ (fun hHeld => ?_)
      clear hK K
      refine wpAnyH_ready (rs := [5]) (by kernel_rfl) (by simp) ?_
      refine AllReadyH.cons rfl (fun K hK => ?_) AllReadyH.nil
      rw [if_pos (by rfl)]
      refine wp_store_whole 24 _ _ rfl (W2.heap.size) rfl (regC s) rfl 24 _ (hfr5.keeps (blk_alloc (blk_new _ _) _) (by simp)) (by rw [regC_size]; rfl) (size_x _) (regC_one _) (fun w6 h6 hfr6 => ?_)
      simp only [Act.put]
      refine hK.out _ _ ⟨hfr6.keeps hHeld.1 (by simp; omega), hHeld.2.step hfr6 (fun j hj => .inr (by rw [List.mem_singleton.1 hj]; omega))⟩ (fun hHeld => ?_)
      clear hK K
      refine wpAnyH_done (by kernel_rfl) ?_ _
      go_wp2
      go_meet
      case rel => exact ⟨W2.heap.size + 1, W2.heap.size, rfl, rfl, hfr6.keeps h5 (by simp), h6, by omega, by omega, by omega, hHeld.2⟩
  obtain ⟨A1, B1, rfl, rfl, hA, hB, hAle, hBle, hne, hF1⟩ := hcut
  have hL : w.heap.size + 2 ≤ A1 ∧ w.heap.size + 2 ≤ B1 ∧ A1 ≠ B1 := ⟨by have := HS.out; omega, by have := HS.out; omega, hne⟩
  have hX := hF1.keeps HX.out (by simp)
  have hF := HF.out.trans hF1
  clear hF1 hAle hBle hne HR HX HF HS
  have x0 : wc.cell? ⟨w.heap.size + 1, 0, none⟩ = some (.int .u64 p) := by rw [blk_cell hX]; rfl
  have HX := hid hX
  have HA := hid hA
  have HB := hid hB
  have HF := hid hF
  have HL := hid hL
  clear hX hA hB hF hL
  go_upto_region 6 with (go_at_call 18; (with_reducible refine (h1.out _ _ HF.out (by have := HL.out; omega) HA.out).mono ?_); rintro e w3 ⟨rfl, hA, hd⟩)
  have hX := hd.keeps HX.out (by have := HL.out; simp; omega)
  have hB := hd.keeps HB.out (by have := HL.out; simp; omega)
  have hF := HF.out.step hd (fun j hj => .inr (by rw [List.mem_singleton.1 hj]; have := HL.out; omega))
  clear x0 HX HA HB HF hd h1
  have x0 : w3.cell? ⟨w.heap.size + 1, 0, none⟩ = some (.int .u64 p) := by rw [blk_cell hX]; rfl
  have HA := hid hA
  have HB := hid hB
  have HF := hid hF
  clear hX hA hB hF
  go_upto_region 7 with (go_at_call 18; (with_reducible refine (h2.out _ _ HF.out (by have := HL.out; omega) HB.out).mono ?_); rintro e w4 ⟨rfl, hB, hd⟩)
  have hA := hd.keeps HA.out (by have := HL.out; simp; omega)
  have hF := HF.out.step hd (fun j hj => .inr (by rw [List.mem_singleton.1 hj]; have := HL.out; omega))
  clear x0 HA HB HF hd h2
  have HA := hid hA
  have HB := hid hB
  have HF := hid hF
  clear hA hB hF
  have hK := Fr.refl [] w4
  go_wp2_with (first | (refine wpList_load_row_g (by rfl) 24 _ (by rfl) (A1) (by rfl) 24 (regC S) (0, 0) _ HA.out Try.underlying24 rfl (size_x _) ?_) | (refine wpList_load_row_g (by rfl) 24 _ (by rfl) (B1) (by rfl) 24 (regC S) (0, 0) _ HB.out Try.underlying24 rfl (size_x _) ?_) | (go_at_call 10; (with_reducible refine (h7.out _).mono ?_); rintro e w6 ⟨rfl, hd⟩; replace hK := hK.trans hd; clear hd))
  go_ret
  exact ⟨rfl, HF.out.trans hK⟩
set_option maxRecDepth 100000 in
set_option maxHeartbeats 4000000 in
theorem splits_N (s S S2 : Nat → Int) (A : Option Addr) (len cap : Nat) (p m0 p1 m1 en mid : Int) (n k a b : Int) (ok : Bool) (w : World) (hlen : len ≤ 60) (n0 : 0 ≤ n) (ha : m0 % 200 = a) (hb : m1 % 200 = b) (c0 : 0 ≤ m0 ∧ m0 < 65536) (c1 : 0 ≤ m1 ∧ m1 < 65536)
    (h1 : Hid (∀ g w1, Fr [] w w1 → w.heap.size ≤ g → w1.heap[g]? = some (.cells (regC s) 24) → Calls Try.prog 18 #[.pointer (some ⟨g, 0, none⟩), .int .u64 p, .slice A len cap, .int .i64 (a + b)] w1 fun e w' => e = .returned (.tuple #[.int .u64 en, .int .i64 n, .bool ok]) ∧ w'.heap[g]? = some (.cells (regC S) 24) ∧ Fr [g] w1 w'))
    (h2 : Hid (∀ g w1, Fr [] w w1 → w.heap.size ≤ g → w1.heap[g]? = some (.cells (regC s) 24) → Calls Try.prog 18 #[.pointer (some ⟨g, 0, none⟩), .int .u64 p, .slice A len cap, .int .i64 a] w1 fun e w' => e = .returned (.tuple #[.int .u64 mid, .int .i64 a, .bool false]) ∧ w'.heap[g]? = some (.cells (regC S2) 24) ∧ Fr [g] w1 w'))
    (h3 : Hid (∀ g w1, Fr [] w w1 → w.heap.size ≤ g → w1.heap[g]? = some (.cells (regC S2) 24) → Calls Try.prog 18 #[.pointer (some ⟨g, 0, none⟩), .int .u64 mid, .slice A len cap, .int .i64 b] w1 fun e w' => e = .returned (.tuple #[.int .u64 en, .int .i64 k, .bool ok]) ∧ w'.heap[g]? = some (.cells (regC S) 24) ∧ Fr [g] w1 w'))
    (hn : a + k = n) (hk : 0 ≤ k ∧ k ≤ b)
    (h7 : Hid (∀ w, Calls Try.prog 10 #[] w fun e w' => e = .returned (.bool true) ∧ Fr [] w w')) : Calls Try.prog 7 #[.agg (regC s), .slice A len cap, .agg (AC p m0 p1 m1)] w fun e w' => e = .returned (.bool true) ∧ Fr [] w w' := by
  have hlt : ¬ ((60 : Int) < (len : Int)) := by omega
  have a0 : 0 ≤ a ∧ a < 200 := by omega
  have b0 : 0 ≤ b ∧ b < 200 := by omega
  have q1 : (en == en) = true := beq_self_eq_true _
  have q2 : (n == n) = true := beq_self_eq_true _
  have q3 : (ok == ok) = true := beq_self_eq_true _
  have t1 : ¬ (a + b < n) := by omega
  go_enter Try.func7, Try.ntmps7
  go_upto_region 3 with fail
  refine world_at' (fun W => W.heap[w.heap.size]? = some (.cells (regC s) 24) ∧ W.heap[w.heap.size + 1]? = some (.cells (AC p m0 p1 m1) 53) ∧ W.heap.size = w.heap.size + 2 ∧ Fr [] w W) ⟨blk_alloc (blk_new _ _) _, blk_new' (n := w.heap.size + 1) (by simp) _, by simp, ((Fr.refl [] w).alloc _).alloc _⟩ ?_
  rintro W ⟨hR, hX, hs, hF⟩
  have y1 : ∀ m : Ext W, m.w.cell? ⟨w.heap.size + 1, 1, none⟩ = some (.int .u16 m0) := fun m => by rw [blk_cell (m.blk hX)]; rfl
  have y3 : ∀ m : Ext W, m.w.cell? ⟨w.heap.size + 1, 3, none⟩ = some (.int .u16 m1) := fun m => by rw [blk_cell (m.blk hX)]; rfl
  have HR := hid hR
  have HX := hid hX
  have HF := hid hF
  have HS := hid hs
  clear hR hX hF hs
  have hne := ext_ne W
  refine wp_region_ext (by kernel_rfl) (by kernel_rfl) ?_
  repeat (go_big_quiet_step (fail))
  refine wpQuiet_nil ?_
  intro w' hw'
  obtain ⟨z1, rfl⟩ := hw'
  have hR := z1.blk HR.out
  have hX := z1.blk HX.out
  have hF := HF.out.trans z1.fr
  have hs := z1.fr.size
  generalize z1.w = W2 at *
  have hs2 : w.heap.size + 2 ≤ W2.heap.size := by have := HS.out; omega
  clear HR HX HF HS y1 y3 hne hs z1
  have HR := hid hR
  have HX := hid hX
  have HF := hid hF
  have HS := hid hs2
  clear hR hX hF hs2
  go_upto_region 4 with fail
  (try simp only [Act.put, List.setIfInBounds_toArray, List.set_cons_zero, List.set_cons_succ])
  go_cut [9, 10] (fun u9 u10 wc => ∃ A B : Nat, u9 = .pointer (some ⟨A, 0, none⟩) ∧ u10 = .pointer (some ⟨B, 0, none⟩) ∧ wc.heap[A]? = some (.cells (regC s) 24) ∧ wc.heap[B]? = some (.cells (regC s) 24) ∧ W2.heap.size ≤ A ∧ W2.heap.size ≤ B ∧ A ≠ B ∧ Fr [] W2 wc)
  case first =>
    refine wp_region_held_drew (S := fun W' => W'.heap[w.heap.size]? = some (.cells (regC s) 24) ∧ Fr [] W2 W') (by kernel_rfl) ⟨HR.out, (Fr.refl [] W2).drew⟩ (fun hHeld => ?_)
    refine wpAnyH_take (i := 0) rfl (by kernel_rfl) (by kernel_rfl) (by kernel_rfl) (fun _ _ _ h => h) (yieldsIf_row (by rfl) 24 _ rfl w.heap.size rfl 24 (regC s) (0, 0) _ (fun w' h => h.1) Try.underlying24 rfl (size_x _)) hHeld ?_
    simp only [Act.put, List.setIfInBounds_toArray, List.set_cons_zero, List.set_cons_succ]
    refine wpAnyH_take (i := 1) rfl (by kernel_rfl) (by kernel_rfl) (by kernel_rfl) (fun _ _ _ h => h) (yieldsIf_row (by rfl) 24 _ rfl w.heap.size rfl 24 (regC s) (0, 0) _ (fun w' h => h.1) Try.underlying24 rfl (size_x _)) hHeld ?_
    simp only [Act.put, List.setIfInBounds_toArray, List.set_cons_zero, List.set_cons_succ]
    refine wpAnyH_ready (rs := [2, 3]) (by kernel_rfl) (by simp) ?_
    have hl1 := lt_block HR.out
    refine AllReadyH.cons rfl (fun K hK => ?_) (AllReadyH.cons rfl (fun K hK => ?_) AllReadyH.nil)
    · go_simp
      refine hK.out _ _ ⟨blk_alloc hHeld.1 _, hHeld.2.alloc _⟩ (fun hHeld => ?_)
      clear hK K
      refine wpAnyH_ready (rs := [3]) (by kernel_rfl) (by simp) ?_
      refine AllReadyH.cons rfl (fun K hK => ?_) AllReadyH.nil
      go_simp
      refine hK.out _ _ ⟨blk_alloc hHeld.1 _, hHeld.2.alloc _⟩ (fun hHeld => ?_)
      clear hK K
      refine wpAnyH_ready (rs := [4]) (by kernel_rfl) (by simp) ?_
      refine AllReadyH.cons rfl (fun K hK => ?_) AllReadyH.nil
      rw [if_pos (by rfl)]
      refine wp_store_whole 24 _ _ rfl (W2.heap.size) rfl (regC s) rfl 24 _ (blk_alloc (blk_new _ _) _) (by rw [regC_size]; rfl) (size_x _) (regC_one _) (fun w5 h5 hfr5 => ?_)
      simp only [Act.put]
      refine hK.out _ _ ⟨hfr5.keeps hHeld.1 (by simp; omega), hHeld.2.step hfr5 (fun j hj => .inr (by rw [List.mem_singleton.1 hj]; omega))⟩ (fun hHeld => ?_)
      clear hK K
      refine wpAnyH_ready (rs := [5]) (by kernel_rfl) (by simp) ?_
      refine AllReadyH.cons rfl (fun K hK => ?_) AllReadyH.nil
      rw [if_pos (by rfl)]
      refine wp_store_whole 24 _ _ rfl (W2.heap.size + 1) rfl (regC s) rfl 24 _ (hfr5.keeps (blk_new' (by simp) _) (by simp)) (by rw [regC_size]; rfl) (size_x _) (regC_one _) (fun w6 h6 hfr6 => ?_)
      simp only [Act.put]
      refine hK.out _ _ ⟨hfr6.keeps hHeld.1 (by simp; omega), hHeld.2.step hfr6 (fun j hj => .inr (by rw [List.mem_singleton.1 hj]; omega))⟩ (fun hHeld => ?_)
      clear hK K
      refine wpAnyH_done (by kernel_rfl) ?_ _
      go_wp2
      go_meet
      case rel => exact ⟨W2.heap.size, W2.heap.size + 1, rfl, rfl, hfr6.keeps h5 (by simp), h6, by omega, by omega, by omega, hHeld.2⟩
    · go_simp
      refine hK.out _ _ ⟨blk_alloc hHeld.1 _, hHeld.2.alloc _⟩ (fun hHeld => ?_)
      clear hK K
      refine wpAnyH_ready (rs := [2]) (by kernel_rfl) (by simp) ?_
      refine AllReadyH.cons rfl (fun K hK => ?_) AllReadyH.nil
      go_simp
      refine hK.out _ _ ⟨blk_alloc hHeld.1 _, hHeld.2.alloc _⟩ (fun hHeld => ?_)
      clear hK K
      refine wpAnyH_ready (rs := [4]) (by kernel_rfl) (by simp) ?_
      refine AllReadyH.cons rfl (fun K hK => ?_) AllReadyH.nil
      rw [if_pos (by rfl)]
      refine wp_store_whole 24 _ _ rfl (W2.heap.size + 1) rfl (regC s) rfl 24 _ (blk_new' (by simp) _) (by rw [regC_size]; rfl) (size_x _) (regC_one _) (fun w5 h5 hfr5 => ?_)
      simp only [Act.put]
      refine hK.out _ _ ⟨hfr5.keeps hHeld.1 (by simp; omega), hHeld.2.step hfr5 (fun j hj => .inr (by rw [List.mem_singleton.1 hj]; omega))⟩ (fun hHeld => ?_)
      clear hK K
      refine wpAnyH_ready (rs := [5]) (by kernel_rfl) (by simp) ?_
      refine AllReadyH.cons rfl (fun K hK => ?_) AllReadyH.nil
      rw [if_pos (by rfl)]
      refine wp_store_whole 24 _ _ rfl (W2.heap.size) rfl (regC s) rfl 24 _ (hfr5.keeps (blk_alloc (blk_new _ _) _) (by simp)) (by rw [regC_size]; rfl) (size_x _) (regC_one _) (fun w6 h6 hfr6 => ?_)
      simp only [Act.put]
      refine hK.out _ _ ⟨hfr6.keeps hHeld.1 (by simp; omega), hHeld.2.step hfr6 (fun j hj => .inr (by rw [List.mem_singleton.1 hj]; omega))⟩ (fun hHeld => ?_)
      clear hK K
      refine wpAnyH_done (by kernel_rfl) ?_ _
      go_wp2
      go_meet
      case rel => exact ⟨W2.heap.size + 1, W2.heap.size, rfl, rfl, hfr6.keeps h5 (by simp), h6, by omega, by omega, by omega, hHeld.2⟩
  obtain ⟨A1, B1, rfl, rfl, hA, hB, hAle, hBle, hne, hF1⟩ := hcut
  have hL : w.heap.size + 2 ≤ A1 ∧ w.heap.size + 2 ≤ B1 ∧ A1 ≠ B1 := ⟨by have := HS.out; omega, by have := HS.out; omega, hne⟩
  have hX := hF1.keeps HX.out (by simp)
  have hF := HF.out.trans hF1
  clear hF1 hAle hBle hne HR HX HF HS
  have x0 : wc.cell? ⟨w.heap.size + 1, 0, none⟩ = some (.int .u64 p) := by rw [blk_cell hX]; rfl
  have HX := hid hX
  have HA := hid hA
  have HB := hid hB
  have HF := hid hF
  have HL := hid hL
  clear hX hA hB hF hL
  go_upto_region 6 with (go_at_call 18; (with_reducible refine (h1.out _ _ HF.out (by have := HL.out; omega) HA.out).mono ?_); rintro e w3 ⟨rfl, hA, hd⟩)
  have hX := hd.keeps HX.out (by have := HL.out; simp; omega)
  have hB := hd.keeps HB.out (by have := HL.out; simp; omega)
  have hF := HF.out.step hd (fun j hj => .inr (by rw [List.mem_singleton.1 hj]; have := HL.out; omega))
  clear x0 HX HA HB HF hd h1
  have x0 : w3.cell? ⟨w.heap.size + 1, 0, none⟩ = some (.int .u64 p) := by rw [blk_cell hX]; rfl
  have HA := hid hA
  have HB := hid hB
  have HF := hid hF
  clear hX hA hB hF
  go_upto_region 7 with (go_at_call 18; (with_reducible refine (h2.out _ _ HF.out (by have := HL.out; omega) HB.out).mono ?_); rintro e w4 ⟨rfl, hB, hd⟩)
  have hA := hd.keeps HA.out (by have := HL.out; simp; omega)
  have hF := HF.out.step hd (fun j hj => .inr (by rw [List.mem_singleton.1 hj]; have := HL.out; omega))
  clear x0 HA HB HF hd h2
  have HA := hid hA
  have HB := hid hB
  have HF := hid hF
  clear hA hB hF
  go_upto_region 12 with (go_at_call 18; (with_reducible refine (h3.out _ _ HF.out (by have := HL.out; omega) HB.out).mono ?_); rintro e w5 ⟨rfl, hB, hd⟩)
  have hA := hd.keeps HA.out (by have := HL.out; simp; omega)
  have hF := HF.out.step hd (fun j hj => .inr (by rw [List.mem_singleton.1 hj]; have := HL.out; omega))
  clear HA HB HF hd h3
  have HA := hid hA
  have HB := hid hB
  have HF := hid hF
  clear hA hB hF
  have hK := Fr.refl [] w5
  go_wp2_with (first | (refine wpList_load_row_g (by rfl) 24 _ (by rfl) (A1) (by rfl) 24 (regC S) (0, 0) _ HA.out Try.underlying24 rfl (size_x _) ?_) | (refine wpList_load_row_g (by rfl) 24 _ (by rfl) (B1) (by rfl) 24 (regC S) (0, 0) _ HB.out Try.underlying24 rfl (size_x _) ?_) | (go_at_call 10; (with_reducible refine (h7.out _).mono ?_); rintro e w6 ⟨rfl, hd⟩; replace hK := hK.trans hd; clear hd))
  go_ret
  exact ⟨rfl, HF.out.trans hK⟩
theorem splits_any {s : Nat → Int} (hs : RegsOK s) (A : Option Addr) (cap : Nat) {L : List T7} (hW : ∀ x ∈ L, W7 x) {p m p1 m1 : Int} (hp : N64 p) (c0 : 0 ≤ m ∧ m < 65536) (c1 : 0 ≤ m1 ∧ m1 < 65536) (w : World) (hL : Insts w A w.heap.size L) : Calls Try.prog 7 #[.agg (regC s), .slice A L.length cap, .agg (AC p m p1 m1)] w fun e w' => e = .returned (.bool true) ∧ Fr [] w w' := by
  have haw := hid fun w => awake_any w
  rcases Nat.lt_or_ge 60 L.length with hlen | hlen
  · exact splits_long s A L.length cap p m p1 m1 w hlen haw
  · obtain ⟨a, ha⟩ : ∃ a : Nat, (m % 200).toNat = a := ⟨_, rfl⟩
    obtain ⟨b, hb⟩ : ∃ b : Nat, (m1 % 200).toNat = b := ⟨_, rfl⟩
    have ha' : m % 200 = (a : Int) := by omega
    have hb' : m1 % 200 = (b : Int) := by omega
    have hal : a < 200 := by omega
    have hbl : b < 200 := by omega
    have hrun := fun (most : Nat) (hm : most ≤ 400) (g : Nat) w1 (hf : Fr [] w w1) (hg : w.heap.size ≤ g) hb => run_w g A cap w.heap.size L most s p w1 _ (hid (hL.keep hf (by simp))) hlen hm (hid ⟨hg, hf.size⟩) (hid hb) hs hp rfl
    obtain ⟨sp1, sp2⟩ := run_split L a b s p
    have hle := run_le L a s p
    obtain ⟨ok1, ok2⟩ := run_ok hW a hs hp
    have r1 := hrun (a + b) (by omega)
    have r2 := hrun a (by omega)
    rw [show ((a + b : Nat) : Int) = (a : Int) + (b : Int) by omega] at r1
    by_cases hc : (runT L a s p).2.2.2 = true ∨ (runT L a s p).2.2.1 < a
    · rw [sp1 hc] at r1
      generalize runT L a s p = R at *
      obtain ⟨S, en, n, ok⟩ := R
      simp only at hc hle r1 r2
      cases ok with
      | true => exact splits_T s S s A L.length cap p m p1 m1 en 0 n 0 a b true w hlen (by omega) ha' hb' c0 c1 (hid r1) (hid r2) (by omega) haw
      | false => exact splits_F s S s A L.length cap p m p1 m1 en 0 n 0 a b true w hlen (by omega) ha' hb' c0 c1 (hid r1) (hid r2) (by rcases hc with hc | hc; cases hc; omega) haw
    · rw [sp2 hc] at r1
      generalize runT L a s p = R at *
      obtain ⟨S2, mid, n, ok⟩ := R
      simp only [not_or, Bool.not_eq_true] at hc hle r1 r2 ok1 ok2
      obtain ⟨rfl, hn⟩ := hc
      obtain rfl : n = a := by omega
      have hrun3 := fun (g : Nat) w1 (hf : Fr [] w w1) (hg : w.heap.size ≤ g) hb => run_w g A cap w.heap.size L b S2 mid w1 _ (hid (hL.keep hf (by simp))) hlen (by omega) (hid ⟨hg, hf.size⟩) (hid hb) ok1 ok2 rfl
      have hle3 := run_le L b S2 mid
      unfold plusK at r1
      generalize runT L b S2 mid = R3 at *
      obtain ⟨S, en, k, ok⟩ := R3
      simp only at r1 hrun3 hle3
      rw [show ((k + n : Nat) : Int) = (n : Int) + (k : Int) by omega] at r1
      exact splits_N s S S2 A L.length cap p m p1 m1 en mid ((n : Int) + (k : Int)) k n b ok w hlen (by omega) ha' hb' c0 c1 (hid r1) (hid r2) (hid hrun3) rfl ⟨by omega, by omega⟩ haw
end Go.Proofs.Ytajbfnihgonppaa.PA
namespace Go.Proofs.Ytajbfnihgonppaa
open PA Plain Go.RowKit
theorem regs_of_list (l : List Int) (h : ∀ v ∈ l, N64 v) : RegsOK (fun i => l.getD i 0) := by
  intro i
  show N64 (l.getD i 0)
  rw [List.getD_eq_getElem?_getD]
  cases e : l[i]? with
  | none => unfold N64; simp
  | some v => exact h v (List.mem_of_getElem? e)
theorem wf_b (k : IntKind) {a : Int} (h : (Lit.int k a).wf = true) : k.min ≤ a ∧ a ≤ k.max := by simp [Lit.wf] at h; exact h

set_option linter.unusedVariables false in
theorem walk_ExecSplits (a0_0 : Int) (a0_1 : Int) (a0_2 : Int) (a0_3 : Int) (a0_4 : Int) (a0_5 : Int) (a0_6 : Int) (a0_7 : Int) (a0_8 : Int) (a0_9 : Int) (a0_10 : Int) (a0_11 : Int) (a0_12 : Int) (a0_13 : Int) (a0_14 : Int) (a0_15 : Int) (a0_16 : Int) (a0_17 : Int) (a0_18 : Int) (a0_19 : Int) (a0_20 : Int) (a0_21 : Int) (a0_22 : Int) (a0_23 : Int) (a0_24 : Int) (a0_25 : Int) (a0_26 : Int) (a0_27 : Int) (a0_28 : Int) (a0_29 : Int) (a0_30 : Int) (a0_31 : Int) (a1 : Option Addr) (len1 cap1 : Nat) (c1 : Nat → Nat → Value) (a2_0 : Int) (a2_1 : Int) (a2_2 : Int) (a2_3 : Int) (w : World) (w0_0 : (Lit.int .u64 a0_0).wf = true) (w0_1 : (Lit.int .u64 a0_1).wf = true) (w0_2 : (Lit.int .u64 a0_2).wf = true) (w0_3 : (Lit.int .u64 a0_3).wf = true) (w0_4 : (Lit.int .u64 a0_4).wf = true) (w0_5 : (Lit.int .u64 a0_5).wf = true) (w0_6 : (Lit.int .u64 a0_6).wf = true) (w0_7 : (Lit.int .u64 a0_7).wf = true) (w0_8 : (Lit.int .u64 a0_8).wf = true) (w0_9 : (Lit.int .u64 a0_9).wf = true) (w0_10 : (Lit.int .u64 a0_10).wf = true) (w0_11 : (Lit.int .u64 a0_11).wf = true) (w0_12 : (Lit.int .u64 a0_12).wf = true) (w0_13 : (Lit.int .u64 a0_13).wf = true) (w0_14 : (Lit.int .u64 a0_14).wf = true) (w0_15 : (Lit.int .u64 a0_15).wf = true) (w0_16 : (Lit.int .u64 a0_16).wf = true) (w0_17 : (Lit.int .u64 a0_17).wf = true) (w0_18 : (Lit.int .u64 a0_18).wf = true) (w0_19 : (Lit.int .u64 a0_19).wf = true) (w0_20 : (Lit.int .u64 a0_20).wf = true) (w0_21 : (Lit.int .u64 a0_21).wf = true) (w0_22 : (Lit.int .u64 a0_22).wf = true) (w0_23 : (Lit.int .u64 a0_23).wf = true) (w0_24 : (Lit.int .u64 a0_24).wf = true) (w0_25 : (Lit.int .u64 a0_25).wf = true) (w0_26 : (Lit.int .u64 a0_26).wf = true) (w0_27 : (Lit.int .u64 a0_27).wf = true) (w0_28 : (Lit.int .u64 a0_28).wf = true) (w0_29 : (Lit.int .u64 a0_29).wf = true) (w0_30 : (Lit.int .u64 a0_30).wf = true) (w0_31 : (Lit.int .u64 a0_31).wf = true) (w1 : SliceIn w [.num .u8, .num .u8, .num .u8, .num .u8, .num .i64, .num .u16, .num .u8] a1 len1 c1) (w2_0 : (Lit.int .u64 a2_0).wf = true) (w2_1 : (Lit.int .u16 a2_1).wf = true) (w2_2 : (Lit.int .u64 a2_2).wf = true) (w2_3 : (Lit.int .u16 a2_3).wf = true) :
    Calls Try.prog 7 #[.agg #[.int .u64 a0_0, .int .u64 a0_1, .int .u64 a0_2, .int .u64 a0_3, .int .u64 a0_4, .int .u64 a0_5, .int .u64 a0_6, .int .u64 a0_7, .int .u64 a0_8, .int .u64 a0_9, .int .u64 a0_10, .int .u64 a0_11, .int .u64 a0_12, .int .u64 a0_13, .int .u64 a0_14, .int .u64 a0_15, .int .u64 a0_16, .int .u64 a0_17, .int .u64 a0_18, .int .u64 a0_19, .int .u64 a0_20, .int .u64 a0_21, .int .u64 a0_22, .int .u64 a0_23, .int .u64 a0_24, .int .u64 a0_25, .int .u64 a0_26, .int .u64 a0_27, .int .u64 a0_28, .int .u64 a0_29, .int .u64 a0_30, .int .u64 a0_31], .slice a1 len1 cap1, .agg #[.int .u64 a2_0, .int .u16 a2_1, .int .u64 a2_2, .int .u16 a2_3]] w fun e w' => e = .returned (.bool true) ∧ Below w.heap.size w w' := by
  have hs : RegsOK (fun i => ([a0_0, a0_1, a0_2, a0_3, a0_4, a0_5, a0_6, a0_7, a0_8, a0_9, a0_10, a0_11, a0_12, a0_13, a0_14, a0_15, a0_16, a0_17, a0_18, a0_19, a0_20, a0_21, a0_22, a0_23, a0_24, a0_25, a0_26, a0_27, a0_28, a0_29, a0_30, a0_31] : List Int).getD i 0) := regs_of_list _ (by
    intro v hv
    simp only [List.mem_cons, List.not_mem_nil, or_false] at hv
    rcases hv with rfl | rfl | rfl | rfl | rfl | rfl | rfl | rfl | rfl | rfl | rfl | rfl | rfl | rfl | rfl | rfl | rfl | rfl | rfl | rfl | rfl | rfl | rfl | rfl | rfl | rfl | rfl | rfl | rfl | rfl | rfl | rfl
    · exact N64.of w0_0
    · exact N64.of w0_1
    · exact N64.of w0_2
    · exact N64.of w0_3
    · exact N64.of w0_4
    · exact N64.of w0_5
    · exact N64.of w0_6
    · exact N64.of w0_7
    · exact N64.of w0_8
    · exact N64.of w0_9
    · exact N64.of w0_10
    · exact N64.of w0_11
    · exact N64.of w0_12
    · exact N64.of w0_13
    · exact N64.of w0_14
    · exact N64.of w0_15
    · exact N64.of w0_16
    · exact N64.of w0_17
    · exact N64.of w0_18
    · exact N64.of w0_19
    · exact N64.of w0_20
    · exact N64.of w0_21
    · exact N64.of w0_22
    · exact N64.of w0_23
    · exact N64.of w0_24
    · exact N64.of w0_25
    · exact N64.of w0_26
    · exact N64.of w0_27
    · exact N64.of w0_28
    · exact N64.of w0_29
    · exact N64.of w0_30
    · exact N64.of w0_31
    )
  obtain ⟨L, rfl, hW, hL⟩ := insts_of w1
  have hm := wf_b _ w2_1
  have hm1 := wf_b _ w2_3
  have m16 : IntKind.u16.min = 0 ∧ IntKind.u16.max = 65535 := ⟨rfl, rfl⟩
  exact (splits_any hs a1 cap1 hW (N64.of w2_0) (by omega) (by omega) w hL).mono fun _ _ ⟨h1, h2⟩ => ⟨h1, below_of_fr h2⟩
end Go.Proofs.Ytajbfnihgonppaa
