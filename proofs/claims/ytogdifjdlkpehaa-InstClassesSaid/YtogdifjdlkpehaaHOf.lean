/- Contract of the bound of an operation's immediate number. -/
import Derived.Test.YtogdifjdlkpehaaK3
import Derived.Test.YtogdifjdlkpehaaK2
import Derived.Deep.Cut
import Derived.BigGuard
namespace Go.Proofs.Ytogdifjdlkpehaa.PA
open Go.RowKit Go.Proofs.YtogdifjdlkpehaaW.PrintWords Go.Proofs.YtogdifjdlkpehaaW.PrintLast Go.Proofs.YtogdifjdlkpehaaW.PrintMore
set_option linter.all false
def inR (op a b : Int) : Bool := decide (a ≤ op ∧ op ≤ b)
/-- the class of an operation -/
def classT (op : Int) : Int := if op = 0 ∨ 99 ≤ op then 8 else if 3 ≤ op ∧ op ≤ 4 then 4 else if 5 ≤ op ∧ op ≤ 10 then 3 else if 11 ≤ op ∧ op ≤ 17 then 1 else if 18 ≤ op ∧ op ≤ 21 then 2 else if 67 ≤ op ∧ op ≤ 88 then 5 else if 89 ≤ op ∧ op ≤ 94 then 6 else if 50 ≤ op ∧ op ≤ 53 then 7 else if 95 ≤ op ∧ op ≤ 98 then 7 else 0
theorem class_fin : ∀ n : Fin 256, inst_Class.f 4 (n.val : Int) = some (classT (n.val : Int)) := by decide +kernel
theorem class_ev {op : Int} (h : 0 ≤ op ∧ op < 256) : inst_Class.f 4 op = some (classT op) := by
  have := class_fin ⟨op.toNat, by omega⟩
  have e : ((op.toNat : Nat) : Int) = op := by omega
  rwa [e] at this
theorem c_class {op : Int} (h : 0 ≤ op ∧ op < 256) (w : World) : Calls Try.prog 16 #[.int .u8 op] w fun e w' => e = .returned (.int .u8 (classT op)) ∧ ∃ n, w' = w.drewN n :=
  (inst_Class.calls 4 op _ w (class_ev h)).mono fun _ _ ⟨h1, h2⟩ => ⟨h1, by obtain ⟨n, rfl⟩ := h2; exact ⟨n, rfl⟩⟩
theorem within_ev (op a b : Int) : inst_within.f op a b = some (inR op a b) := by
  unfold inst_within.f inR
  by_cases h : op ≥ a
  · rw [if_pos h]
    congr 1
    by_cases h2 : op ≤ b
    · rw [decide_eq_true h2, decide_eq_true ⟨h, h2⟩]
    · rw [decide_eq_false h2, decide_eq_false (fun e => h2 e.2)]
  · rw [if_neg h, decide_eq_false (fun e => h e.1)]
theorem c_within (op a b : Int) (w : World) : Calls Try.prog 42 #[.int .u8 op, .int .u8 a, .int .u8 b] w fun e w' => e = .returned (.bool (inR op a b)) ∧ ∃ n, w' = w.drewN n :=
  (inst_within.calls op a b _ w (within_ev op a b)).mono fun _ _ ⟨h1, h2⟩ => ⟨h1, by obtain ⟨n, rfl⟩ := h2; exact ⟨n, rfl⟩⟩
abbrev T3 := Int × Int × Int
def BC (x : T3) : Array Value := #[.int .i64 x.1, .int .i64 x.2.1, .int .i64 x.2.2]
theorem BC_one (x : T3) : (BC x).all (·.oneCell') = true := by simp [BC, Value.oneCell']
theorem sizeB : (Try.prog.info? 63).map (·.size) = some 3 := by kernel_rfl
theorem sizeB' (x : T3) : (Try.prog.info? 63).map (·.size) = some (BC x).size := by rw [sizeB]; rfl
def ofT (op : Int) : T3 :=
  if op = 1 ∨ op = 2 then (-2147483648, 2147479552, 4096) else if op = 3 then (-1048576, 1048574, 2) else if classT op = 3 then (-4096, 4094, 2)
  else if inR op 28 30 = true then (0, 63, 1) else if inR op 42 44 = true ∨ inR op 92 94 = true then (0, 31, 1)
  else if op = 4 ∨ classT op = 1 ∨ classT op = 2 ∨ inR op 22 27 = true ∨ op = 41 then (-2048, 2047, 1) else (0, 0, 1)
set_option maxRecDepth 100000 in
set_option maxHeartbeats 4000000 in
theorem of_a1 (w : World) : Calls Try.prog 39 #[.int .u8 1] w fun e w' => e = .returned (.agg (BC (-2147483648, 2147479552, 4096))) ∧ Fr [] w w' := by
  go_enter Try.func39, Try.ntmps39
  go_wp2_with (first | (refine wpList_store_whole rfl 63 _ _ rfl w.heap.size rfl (BC (-2147483648, 2147479552, 4096)) rfl 63 _ (blk_new _ _) rfl (sizeB' _) (BC_one _) ?_; intro w2 h2 hfr2))
  exact ⟨rfl, _, results_c rfl rfl h2 Try.underlying63 rfl (sizeB' _), rfl, ((Fr.refl [] w).alloc _).step hfr2 (fun j hj => .inr (by rw [List.mem_singleton.1 hj]; omega))⟩
set_option maxRecDepth 100000 in
set_option maxHeartbeats 4000000 in
theorem of_a2 (w : World) : Calls Try.prog 39 #[.int .u8 2] w fun e w' => e = .returned (.agg (BC (-2147483648, 2147479552, 4096))) ∧ Fr [] w w' := by
  go_enter Try.func39, Try.ntmps39
  go_wp2_with (first | (refine wpList_store_whole rfl 63 _ _ rfl w.heap.size rfl (BC (-2147483648, 2147479552, 4096)) rfl 63 _ (blk_new _ _) rfl (sizeB' _) (BC_one _) ?_; intro w2 h2 hfr2))
  exact ⟨rfl, _, results_c rfl rfl h2 Try.underlying63 rfl (sizeB' _), rfl, ((Fr.refl [] w).alloc _).step hfr2 (fun j hj => .inr (by rw [List.mem_singleton.1 hj]; omega))⟩
set_option maxRecDepth 100000 in
set_option maxHeartbeats 4000000 in
theorem of_b (w : World) : Calls Try.prog 39 #[.int .u8 3] w fun e w' => e = .returned (.agg (BC (-1048576, 1048574, 2))) ∧ Fr [] w w' := by
  go_enter Try.func39, Try.ntmps39
  go_wp2_with (first | (refine wpList_store_whole rfl 63 _ _ rfl w.heap.size rfl (BC (-1048576, 1048574, 2)) rfl 63 _ (blk_new _ _) rfl (sizeB' _) (BC_one _) ?_; intro w2 h2 hfr2))
  exact ⟨rfl, _, results_c rfl rfl h2 Try.underlying63 rfl (sizeB' _), rfl, ((Fr.refl [] w).alloc _).step hfr2 (fun j hj => .inr (by rw [List.mem_singleton.1 hj]; omega))⟩
set_option maxRecDepth 100000 in
set_option maxHeartbeats 4000000 in
theorem of_c (op : Int) (w : World) (hc : Hid (∀ w, Calls Try.prog 16 #[.int .u8 op] w fun e w' => e = .returned (.int .u8 3) ∧ ∃ n, w' = w.drewN n)) (t1 : (op == 1) = false) (t2 : (op == 2) = false) (t3 : (op == 3) = false) : Calls Try.prog 39 #[.int .u8 op] w fun e w' => e = .returned (.agg (BC (-4096, 4094, 2))) ∧ Fr [] w w' := by
  go_enter Try.func39, Try.ntmps39
  go_wp2_with (first | (go_at_call 16; (with_reducible refine (hc.out _).mono ?_); rintro e w' ⟨rfl, nn, rfl⟩) | (refine wpList_store_whole rfl 63 _ _ rfl w.heap.size rfl (BC (-4096, 4094, 2)) rfl 63 _ (show (World.drewN _ _).heap[w.heap.size]? = _ from blk_new _ _) rfl (sizeB' _) (BC_one _) ?_; intro w2 h2 hfr2))
  exact ⟨rfl, _, results_c rfl rfl h2 Try.underlying63 rfl (sizeB' _), rfl, (((Fr.refl [] w).alloc _).drewN _).step hfr2 (fun j hj => .inr (by rw [List.mem_singleton.1 hj]; omega))⟩
set_option maxRecDepth 100000 in
set_option maxHeartbeats 4000000 in
theorem of_d (op c : Int) (w : World) (hc : Hid (∀ w, Calls Try.prog 16 #[.int .u8 op] w fun e w' => e = .returned (.int .u8 c) ∧ ∃ n, w' = w.drewN n)) (hw28 : Hid (∀ w, Calls Try.prog 42 #[.int .u8 op, .int .u8 28, .int .u8 30] w fun e w' => e = .returned (.bool true) ∧ ∃ n, w' = w.drewN n)) (t1 : (op == 1) = false) (t2 : (op == 2) = false) (t3 : (op == 3) = false) (t4 : (c == 3) = false) : Calls Try.prog 39 #[.int .u8 op] w fun e w' => e = .returned (.agg (BC (0, 63, 1))) ∧ Fr [] w w' := by
  go_enter Try.func39, Try.ntmps39
  go_wp2_with (first | (go_at_call 16; (with_reducible refine (hc.out _).mono ?_); rintro e w' ⟨rfl, nn, rfl⟩) | (go_at_call 42; (with_reducible refine (hw28.out _).mono ?_); rintro e w' ⟨rfl, nn, rfl⟩) | (refine wpList_store_whole rfl 63 _ _ rfl w.heap.size rfl (BC (0, 63, 1)) rfl 63 _ (show (World.drewN _ _).heap[w.heap.size]? = _ from blk_new _ _) rfl (sizeB' _) (BC_one _) ?_; intro w2 h2 hfr2))
  exact ⟨rfl, _, results_c rfl rfl h2 Try.underlying63 rfl (sizeB' _), rfl, (((Fr.refl [] w).alloc _).drewN _).step hfr2 (fun j hj => .inr (by rw [List.mem_singleton.1 hj]; omega))⟩
set_option maxRecDepth 100000 in
set_option maxHeartbeats 4000000 in
theorem of_e1 (op c : Int) (w : World) (hc : Hid (∀ w, Calls Try.prog 16 #[.int .u8 op] w fun e w' => e = .returned (.int .u8 c) ∧ ∃ n, w' = w.drewN n)) (hw28 : Hid (∀ w, Calls Try.prog 42 #[.int .u8 op, .int .u8 28, .int .u8 30] w fun e w' => e = .returned (.bool false) ∧ ∃ n, w' = w.drewN n)) (hw42 : Hid (∀ w, Calls Try.prog 42 #[.int .u8 op, .int .u8 42, .int .u8 44] w fun e w' => e = .returned (.bool true) ∧ ∃ n, w' = w.drewN n)) (t1 : (op == 1) = false) (t2 : (op == 2) = false) (t3 : (op == 3) = false) (t4 : (c == 3) = false) : Calls Try.prog 39 #[.int .u8 op] w fun e w' => e = .returned (.agg (BC (0, 31, 1))) ∧ Fr [] w w' := by
  go_enter Try.func39, Try.ntmps39
  go_wp2_with (first | (go_at_call 16; (with_reducible refine (hc.out _).mono ?_); rintro e w' ⟨rfl, nn, rfl⟩) | (go_at_call 42; (with_reducible refine (hw28.out _).mono ?_); rintro e w' ⟨rfl, nn, rfl⟩) | (go_at_call 42; (with_reducible refine (hw42.out _).mono ?_); rintro e w' ⟨rfl, nn, rfl⟩) | (refine wpList_store_whole rfl 63 _ _ rfl w.heap.size rfl (BC (0, 31, 1)) rfl 63 _ (show (World.drewN _ _).heap[w.heap.size]? = _ from blk_new _ _) rfl (sizeB' _) (BC_one _) ?_; intro w2 h2 hfr2))
  exact ⟨rfl, _, results_c rfl rfl h2 Try.underlying63 rfl (sizeB' _), rfl, (((Fr.refl [] w).alloc _).drewN _).step hfr2 (fun j hj => .inr (by rw [List.mem_singleton.1 hj]; omega))⟩
set_option maxRecDepth 100000 in
set_option maxHeartbeats 4000000 in
theorem of_e2 (op c : Int) (w : World) (hc : Hid (∀ w, Calls Try.prog 16 #[.int .u8 op] w fun e w' => e = .returned (.int .u8 c) ∧ ∃ n, w' = w.drewN n)) (hw28 : Hid (∀ w, Calls Try.prog 42 #[.int .u8 op, .int .u8 28, .int .u8 30] w fun e w' => e = .returned (.bool false) ∧ ∃ n, w' = w.drewN n)) (hw42 : Hid (∀ w, Calls Try.prog 42 #[.int .u8 op, .int .u8 42, .int .u8 44] w fun e w' => e = .returned (.bool false) ∧ ∃ n, w' = w.drewN n)) (hw92 : Hid (∀ w, Calls Try.prog 42 #[.int .u8 op, .int .u8 92, .int .u8 94] w fun e w' => e = .returned (.bool true) ∧ ∃ n, w' = w.drewN n)) (t1 : (op == 1) = false) (t2 : (op == 2) = false) (t3 : (op == 3) = false) (t4 : (c == 3) = false) : Calls Try.prog 39 #[.int .u8 op] w fun e w' => e = .returned (.agg (BC (0, 31, 1))) ∧ Fr [] w w' := by
  go_enter Try.func39, Try.ntmps39
  go_wp2_with (first | (go_at_call 16; (with_reducible refine (hc.out _).mono ?_); rintro e w' ⟨rfl, nn, rfl⟩) | (go_at_call 42; (with_reducible refine (hw28.out _).mono ?_); rintro e w' ⟨rfl, nn, rfl⟩) | (go_at_call 42; (with_reducible refine (hw42.out _).mono ?_); rintro e w' ⟨rfl, nn, rfl⟩) | (go_at_call 42; (with_reducible refine (hw92.out _).mono ?_); rintro e w' ⟨rfl, nn, rfl⟩) | (refine wpList_store_whole rfl 63 _ _ rfl w.heap.size rfl (BC (0, 31, 1)) rfl 63 _ (show (World.drewN _ _).heap[w.heap.size]? = _ from blk_new _ _) rfl (sizeB' _) (BC_one _) ?_; intro w2 h2 hfr2))
  exact ⟨rfl, _, results_c rfl rfl h2 Try.underlying63 rfl (sizeB' _), rfl, (((Fr.refl [] w).alloc _).drewN _).step hfr2 (fun j hj => .inr (by rw [List.mem_singleton.1 hj]; omega))⟩
set_option maxRecDepth 100000 in
set_option maxHeartbeats 4000000 in
theorem of_f1 (c : Int) (w : World) (hc : Hid (∀ w, Calls Try.prog 16 #[.int .u8 4] w fun e w' => e = .returned (.int .u8 c) ∧ ∃ n, w' = w.drewN n)) (hw28 : Hid (∀ w, Calls Try.prog 42 #[.int .u8 4, .int .u8 28, .int .u8 30] w fun e w' => e = .returned (.bool false) ∧ ∃ n, w' = w.drewN n)) (hw42 : Hid (∀ w, Calls Try.prog 42 #[.int .u8 4, .int .u8 42, .int .u8 44] w fun e w' => e = .returned (.bool false) ∧ ∃ n, w' = w.drewN n)) (hw92 : Hid (∀ w, Calls Try.prog 42 #[.int .u8 4, .int .u8 92, .int .u8 94] w fun e w' => e = .returned (.bool false) ∧ ∃ n, w' = w.drewN n)) (t4 : (c == 3) = false) : Calls Try.prog 39 #[.int .u8 4] w fun e w' => e = .returned (.agg (BC (-2048, 2047, 1))) ∧ Fr [] w w' := by
  go_enter Try.func39, Try.ntmps39
  go_wp2_with (first | (go_at_call 16; (with_reducible refine (hc.out _).mono ?_); rintro e w' ⟨rfl, nn, rfl⟩) | (go_at_call 42; (with_reducible refine (hw28.out _).mono ?_); rintro e w' ⟨rfl, nn, rfl⟩) | (go_at_call 42; (with_reducible refine (hw42.out _).mono ?_); rintro e w' ⟨rfl, nn, rfl⟩) | (go_at_call 42; (with_reducible refine (hw92.out _).mono ?_); rintro e w' ⟨rfl, nn, rfl⟩) | (refine wpList_store_whole rfl 63 _ _ rfl w.heap.size rfl (BC (-2048, 2047, 1)) rfl 63 _ (show (World.drewN _ _).heap[w.heap.size]? = _ from blk_new _ _) rfl (sizeB' _) (BC_one _) ?_; intro w2 h2 hfr2))
  exact ⟨rfl, _, results_c rfl rfl h2 Try.underlying63 rfl (sizeB' _), rfl, (((Fr.refl [] w).alloc _).drewN _).step hfr2 (fun j hj => .inr (by rw [List.mem_singleton.1 hj]; omega))⟩
set_option maxRecDepth 100000 in
set_option maxHeartbeats 4000000 in
theorem of_f2 (op : Int) (w : World) (hc : Hid (∀ w, Calls Try.prog 16 #[.int .u8 op] w fun e w' => e = .returned (.int .u8 1) ∧ ∃ n, w' = w.drewN n)) (hw28 : Hid (∀ w, Calls Try.prog 42 #[.int .u8 op, .int .u8 28, .int .u8 30] w fun e w' => e = .returned (.bool false) ∧ ∃ n, w' = w.drewN n)) (hw42 : Hid (∀ w, Calls Try.prog 42 #[.int .u8 op, .int .u8 42, .int .u8 44] w fun e w' => e = .returned (.bool false) ∧ ∃ n, w' = w.drewN n)) (hw92 : Hid (∀ w, Calls Try.prog 42 #[.int .u8 op, .int .u8 92, .int .u8 94] w fun e w' => e = .returned (.bool false) ∧ ∃ n, w' = w.drewN n)) (t1 : (op == 1) = false) (t2 : (op == 2) = false) (t3 : (op == 3) = false) (t5 : (op == 4) = false) : Calls Try.prog 39 #[.int .u8 op] w fun e w' => e = .returned (.agg (BC (-2048, 2047, 1))) ∧ Fr [] w w' := by
  go_enter Try.func39, Try.ntmps39
  go_wp2_with (first | (go_at_call 16; (with_reducible refine (hc.out _).mono ?_); rintro e w' ⟨rfl, nn, rfl⟩) | (go_at_call 42; (with_reducible refine (hw28.out _).mono ?_); rintro e w' ⟨rfl, nn, rfl⟩) | (go_at_call 42; (with_reducible refine (hw42.out _).mono ?_); rintro e w' ⟨rfl, nn, rfl⟩) | (go_at_call 42; (with_reducible refine (hw92.out _).mono ?_); rintro e w' ⟨rfl, nn, rfl⟩) | (refine wpList_store_whole rfl 63 _ _ rfl w.heap.size rfl (BC (-2048, 2047, 1)) rfl 63 _ (show (World.drewN _ _).heap[w.heap.size]? = _ from blk_new _ _) rfl (sizeB' _) (BC_one _) ?_; intro w2 h2 hfr2))
  exact ⟨rfl, _, results_c rfl rfl h2 Try.underlying63 rfl (sizeB' _), rfl, (((Fr.refl [] w).alloc _).drewN _).step hfr2 (fun j hj => .inr (by rw [List.mem_singleton.1 hj]; omega))⟩
set_option maxRecDepth 100000 in
set_option maxHeartbeats 4000000 in
theorem of_f3 (op : Int) (w : World) (hc : Hid (∀ w, Calls Try.prog 16 #[.int .u8 op] w fun e w' => e = .returned (.int .u8 2) ∧ ∃ n, w' = w.drewN n)) (hw28 : Hid (∀ w, Calls Try.prog 42 #[.int .u8 op, .int .u8 28, .int .u8 30] w fun e w' => e = .returned (.bool false) ∧ ∃ n, w' = w.drewN n)) (hw42 : Hid (∀ w, Calls Try.prog 42 #[.int .u8 op, .int .u8 42, .int .u8 44] w fun e w' => e = .returned (.bool false) ∧ ∃ n, w' = w.drewN n)) (hw92 : Hid (∀ w, Calls Try.prog 42 #[.int .u8 op, .int .u8 92, .int .u8 94] w fun e w' => e = .returned (.bool false) ∧ ∃ n, w' = w.drewN n)) (t1 : (op == 1) = false) (t2 : (op == 2) = false) (t3 : (op == 3) = false) (t5 : (op == 4) = false) : Calls Try.prog 39 #[.int .u8 op] w fun e w' => e = .returned (.agg (BC (-2048, 2047, 1))) ∧ Fr [] w w' := by
  go_enter Try.func39, Try.ntmps39
  go_wp2_with (first | (go_at_call 16; (with_reducible refine (hc.out _).mono ?_); rintro e w' ⟨rfl, nn, rfl⟩) | (go_at_call 42; (with_reducible refine (hw28.out _).mono ?_); rintro e w' ⟨rfl, nn, rfl⟩) | (go_at_call 42; (with_reducible refine (hw42.out _).mono ?_); rintro e w' ⟨rfl, nn, rfl⟩) | (go_at_call 42; (with_reducible refine (hw92.out _).mono ?_); rintro e w' ⟨rfl, nn, rfl⟩) | (refine wpList_store_whole rfl 63 _ _ rfl w.heap.size rfl (BC (-2048, 2047, 1)) rfl 63 _ (show (World.drewN _ _).heap[w.heap.size]? = _ from blk_new _ _) rfl (sizeB' _) (BC_one _) ?_; intro w2 h2 hfr2))
  exact ⟨rfl, _, results_c rfl rfl h2 Try.underlying63 rfl (sizeB' _), rfl, (((Fr.refl [] w).alloc _).drewN _).step hfr2 (fun j hj => .inr (by rw [List.mem_singleton.1 hj]; omega))⟩
set_option maxRecDepth 100000 in
set_option maxHeartbeats 4000000 in
theorem of_f4 (op c : Int) (w : World) (hc : Hid (∀ w, Calls Try.prog 16 #[.int .u8 op] w fun e w' => e = .returned (.int .u8 c) ∧ ∃ n, w' = w.drewN n)) (hw28 : Hid (∀ w, Calls Try.prog 42 #[.int .u8 op, .int .u8 28, .int .u8 30] w fun e w' => e = .returned (.bool false) ∧ ∃ n, w' = w.drewN n)) (hw42 : Hid (∀ w, Calls Try.prog 42 #[.int .u8 op, .int .u8 42, .int .u8 44] w fun e w' => e = .returned (.bool false) ∧ ∃ n, w' = w.drewN n)) (hw92 : Hid (∀ w, Calls Try.prog 42 #[.int .u8 op, .int .u8 92, .int .u8 94] w fun e w' => e = .returned (.bool false) ∧ ∃ n, w' = w.drewN n)) (hw22 : Hid (∀ w, Calls Try.prog 42 #[.int .u8 op, .int .u8 22, .int .u8 27] w fun e w' => e = .returned (.bool true) ∧ ∃ n, w' = w.drewN n)) (t1 : (op == 1) = false) (t2 : (op == 2) = false) (t3 : (op == 3) = false) (t4 : (c == 3) = false) (t5 : (op == 4) = false) (t6 : (c == 1) = false) (t7 : (c == 2) = false) : Calls Try.prog 39 #[.int .u8 op] w fun e w' => e = .returned (.agg (BC (-2048, 2047, 1))) ∧ Fr [] w w' := by
  go_enter Try.func39, Try.ntmps39
  go_wp2_with (first | (go_at_call 16; (with_reducible refine (hc.out _).mono ?_); rintro e w' ⟨rfl, nn, rfl⟩) | (go_at_call 42; (with_reducible refine (hw28.out _).mono ?_); rintro e w' ⟨rfl, nn, rfl⟩) | (go_at_call 42; (with_reducible refine (hw42.out _).mono ?_); rintro e w' ⟨rfl, nn, rfl⟩) | (go_at_call 42; (with_reducible refine (hw92.out _).mono ?_); rintro e w' ⟨rfl, nn, rfl⟩) | (go_at_call 42; (with_reducible refine (hw22.out _).mono ?_); rintro e w' ⟨rfl, nn, rfl⟩) | (refine wpList_store_whole rfl 63 _ _ rfl w.heap.size rfl (BC (-2048, 2047, 1)) rfl 63 _ (show (World.drewN _ _).heap[w.heap.size]? = _ from blk_new _ _) rfl (sizeB' _) (BC_one _) ?_; intro w2 h2 hfr2))
  exact ⟨rfl, _, results_c rfl rfl h2 Try.underlying63 rfl (sizeB' _), rfl, (((Fr.refl [] w).alloc _).drewN _).step hfr2 (fun j hj => .inr (by rw [List.mem_singleton.1 hj]; omega))⟩
set_option maxRecDepth 100000 in
set_option maxHeartbeats 4000000 in
theorem of_f5 (c : Int) (w : World) (hc : Hid (∀ w, Calls Try.prog 16 #[.int .u8 41] w fun e w' => e = .returned (.int .u8 c) ∧ ∃ n, w' = w.drewN n)) (hw28 : Hid (∀ w, Calls Try.prog 42 #[.int .u8 41, .int .u8 28, .int .u8 30] w fun e w' => e = .returned (.bool false) ∧ ∃ n, w' = w.drewN n)) (hw42 : Hid (∀ w, Calls Try.prog 42 #[.int .u8 41, .int .u8 42, .int .u8 44] w fun e w' => e = .returned (.bool false) ∧ ∃ n, w' = w.drewN n)) (hw92 : Hid (∀ w, Calls Try.prog 42 #[.int .u8 41, .int .u8 92, .int .u8 94] w fun e w' => e = .returned (.bool false) ∧ ∃ n, w' = w.drewN n)) (hw22 : Hid (∀ w, Calls Try.prog 42 #[.int .u8 41, .int .u8 22, .int .u8 27] w fun e w' => e = .returned (.bool false) ∧ ∃ n, w' = w.drewN n)) (t4 : (c == 3) = false) (t6 : (c == 1) = false) (t7 : (c == 2) = false) : Calls Try.prog 39 #[.int .u8 41] w fun e w' => e = .returned (.agg (BC (-2048, 2047, 1))) ∧ Fr [] w w' := by
  go_enter Try.func39, Try.ntmps39
  go_wp2_with (first | (go_at_call 16; (with_reducible refine (hc.out _).mono ?_); rintro e w' ⟨rfl, nn, rfl⟩) | (go_at_call 42; (with_reducible refine (hw28.out _).mono ?_); rintro e w' ⟨rfl, nn, rfl⟩) | (go_at_call 42; (with_reducible refine (hw42.out _).mono ?_); rintro e w' ⟨rfl, nn, rfl⟩) | (go_at_call 42; (with_reducible refine (hw92.out _).mono ?_); rintro e w' ⟨rfl, nn, rfl⟩) | (go_at_call 42; (with_reducible refine (hw22.out _).mono ?_); rintro e w' ⟨rfl, nn, rfl⟩) | (refine wpList_store_whole rfl 63 _ _ rfl w.heap.size rfl (BC (-2048, 2047, 1)) rfl 63 _ (show (World.drewN _ _).heap[w.heap.size]? = _ from blk_new _ _) rfl (sizeB' _) (BC_one _) ?_; intro w2 h2 hfr2))
  exact ⟨rfl, _, results_c rfl rfl h2 Try.underlying63 rfl (sizeB' _), rfl, (((Fr.refl [] w).alloc _).drewN _).step hfr2 (fun j hj => .inr (by rw [List.mem_singleton.1 hj]; omega))⟩
set_option maxRecDepth 100000 in
set_option maxHeartbeats 4000000 in
theorem of_g (op c : Int) (w : World) (hc : Hid (∀ w, Calls Try.prog 16 #[.int .u8 op] w fun e w' => e = .returned (.int .u8 c) ∧ ∃ n, w' = w.drewN n)) (hw28 : Hid (∀ w, Calls Try.prog 42 #[.int .u8 op, .int .u8 28, .int .u8 30] w fun e w' => e = .returned (.bool false) ∧ ∃ n, w' = w.drewN n)) (hw42 : Hid (∀ w, Calls Try.prog 42 #[.int .u8 op, .int .u8 42, .int .u8 44] w fun e w' => e = .returned (.bool false) ∧ ∃ n, w' = w.drewN n)) (hw92 : Hid (∀ w, Calls Try.prog 42 #[.int .u8 op, .int .u8 92, .int .u8 94] w fun e w' => e = .returned (.bool false) ∧ ∃ n, w' = w.drewN n)) (hw22 : Hid (∀ w, Calls Try.prog 42 #[.int .u8 op, .int .u8 22, .int .u8 27] w fun e w' => e = .returned (.bool false) ∧ ∃ n, w' = w.drewN n)) (t1 : (op == 1) = false) (t2 : (op == 2) = false) (t3 : (op == 3) = false) (t4 : (c == 3) = false) (t5 : (op == 4) = false) (t6 : (c == 1) = false) (t7 : (c == 2) = false) (t8 : (op == 41) = false) : Calls Try.prog 39 #[.int .u8 op] w fun e w' => e = .returned (.agg (BC (0, 0, 1))) ∧ Fr [] w w' := by
  go_enter Try.func39, Try.ntmps39
  go_wp2_with (first | (go_at_call 16; (with_reducible refine (hc.out _).mono ?_); rintro e w' ⟨rfl, nn, rfl⟩) | (go_at_call 42; (with_reducible refine (hw28.out _).mono ?_); rintro e w' ⟨rfl, nn, rfl⟩) | (go_at_call 42; (with_reducible refine (hw42.out _).mono ?_); rintro e w' ⟨rfl, nn, rfl⟩) | (go_at_call 42; (with_reducible refine (hw92.out _).mono ?_); rintro e w' ⟨rfl, nn, rfl⟩) | (go_at_call 42; (with_reducible refine (hw22.out _).mono ?_); rintro e w' ⟨rfl, nn, rfl⟩) | (refine wpList_store_whole rfl 63 _ _ rfl w.heap.size rfl (BC (0, 0, 1)) rfl 63 _ (show (World.drewN _ _).heap[w.heap.size]? = _ from blk_new _ _) rfl (sizeB' _) (BC_one _) ?_; intro w2 h2 hfr2))
  exact ⟨rfl, _, results_c rfl rfl h2 Try.underlying63 rfl (sizeB' _), rfl, (((Fr.refl [] w).alloc _).drewN _).step hfr2 (fun j hj => .inr (by rw [List.mem_singleton.1 hj]; omega))⟩
theorem of_any {op : Int} (h : 0 ≤ op ∧ op < 256) (w : World) : Calls Try.prog 39 #[.int .u8 op] w fun e w' => e = .returned (.agg (BC (ofT op))) ∧ Fr [] w w' := by
  have hc := fun w => c_class h w
  have w28 := fun w => c_within op 28 30 w
  have w42 := fun w => c_within op 42 44 w
  have w92 := fun w => c_within op 92 94 w
  have w22 := fun w => c_within op 22 27 w
  unfold ofT
  by_cases e1 : op = 1
  · subst e1; exact of_a1 w
  by_cases e2 : op = 2
  · subst e2; exact of_a2 w
  rw [if_neg (by omega)]
  by_cases e3 : op = 3
  · subst e3; exact of_b w
  rw [if_neg e3]
  have t1 : (op == 1) = false := by simpa using e1
  have t2 : (op == 2) = false := by simpa using e2
  have t3 : (op == 3) = false := by simpa using e3
  generalize classT op = c at *
  generalize inR op 28 30 = b1 at *
  generalize inR op 42 44 = b2 at *
  generalize inR op 92 94 = b3 at *
  generalize inR op 22 27 = b4 at *
  by_cases e4 : c = 3
  · rw [if_pos e4]; subst e4; exact of_c op w (hid hc) t1 t2 t3
  rw [if_neg e4]
  have t4 : (c == 3) = false := by simpa using e4
  cases b1 with
  | true => rw [if_pos rfl]; exact of_d op c w (hid hc) (hid w28) t1 t2 t3 t4
  | false =>
  rw [if_neg (by decide)]
  cases b2 with
  | true => rw [if_pos (.inl rfl)]; exact of_e1 op c w (hid hc) (hid w28) (hid w42) t1 t2 t3 t4
  | false =>
  cases b3 with
  | true => rw [if_pos (.inr rfl)]; exact of_e2 op c w (hid hc) (hid w28) (hid w42) (hid w92) t1 t2 t3 t4
  | false =>
  rw [if_neg (by decide)]
  by_cases e5 : op = 4
  · subst e5; rw [if_pos (.inl rfl)]; exact of_f1 c w (hid hc) (hid w28) (hid w42) (hid w92) t4
  have t5 : (op == 4) = false := by simpa using e5
  by_cases e6 : c = 1
  · subst e6; rw [if_pos (.inr (.inl rfl))]; exact of_f2 op w (hid hc) (hid w28) (hid w42) (hid w92) t1 t2 t3 t5
  by_cases e7 : c = 2
  · subst e7; rw [if_pos (.inr (.inr (.inl rfl)))]; exact of_f3 op w (hid hc) (hid w28) (hid w42) (hid w92) t1 t2 t3 t5
  have t6 : (c == 1) = false := by simpa using e6
  have t7 : (c == 2) = false := by simpa using e7
  cases b4 with
  | true => rw [if_pos (.inr (.inr (.inr (.inl rfl))))]; exact of_f4 op c w (hid hc) (hid w28) (hid w42) (hid w92) (hid w22) t1 t2 t3 t4 t5 t6 t7
  | false =>
  by_cases e8 : op = 41
  · subst e8; rw [if_pos (.inr (.inr (.inr (.inr rfl))))]; exact of_f5 c w (hid hc) (hid w28) (hid w42) (hid w92) (hid w22) t4 t6 t7
  have t8 : (op == 41) = false := by simpa using e8
  rw [if_neg (by simp [e5, e6, e7, e8])]
  exact of_g op c w (hid hc) (hid w28) (hid w42) (hid w92) (hid w22) t1 t2 t3 t4 t5 t6 t7 t8
/-- in the print's form -/
def inst_of.f (a0 : Int) : Option (Int × Int × Int) := if 0 ≤ a0 ∧ a0 < 256 then some (ofT a0) else none
theorem inst_of.calls (a0 : Int) (r1 r2 r3 : Int) (w : World) (h : inst_of.f a0 = some (r1, r2, r3)) :
    Calls Try.prog 39 #[.int .u8 a0] w fun e w' => e = .returned (.agg #[.int .i64 r1, .int .i64 r2, .int .i64 r3]) ∧ Below w.heap.size w w' := by
  unfold inst_of.f at h
  split at h
  · rename_i hp
    have := of_any (op := a0) hp w
    rw [Option.some.inj h] at this
    refine this.mono ?_
    rintro e w' ⟨rfl, hf⟩
    exact ⟨rfl, hf.below (Nat.le_refl _) (by simp)⟩
  · cases h
end Go.Proofs.Ytogdifjdlkpehaa.PA
