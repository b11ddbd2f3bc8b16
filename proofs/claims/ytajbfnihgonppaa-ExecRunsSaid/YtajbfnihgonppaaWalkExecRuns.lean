/- The law ExecRuns: its walk. -/
import Derived.Test.YtajbfnihgonppaaRunP
namespace Go.Proofs.Ytajbfnihgonppaa.PA
open Go.RowKit Go.Proofs.Ytajbfnihgonppaa.Plain
set_option linter.all false
attribute [local go_sem ↓] eqg_39 eql_39 eqg_24 eql_24
def SC (p m : Int) : Array Value := #[.int .u64 p, .int .u16 m]
set_option maxRecDepth 100000 in
set_option maxHeartbeats 4000000 in
theorem runs_long (s : Nat → Int) (A : Option Addr) (len cap : Nat) (p m : Int) (w : World) (hlen : 60 < len) (h7 : Hid (∀ w, Calls Try.prog 10 #[] w fun e w' => e = .returned (.bool true) ∧ Fr [] w w')) : Calls Try.prog 6 #[.agg (regC s), .slice A len cap, .agg (SC p m)] w fun e w' => e = .returned (.bool true) ∧ Fr [] w w' := by
  have hlt : (60 : Int) < (len : Int) := by omega
  have hK := ((Fr.refl [] w).alloc (.cells (regC s) 24)).alloc (.cells (SC p m) 47)
  go_enter Try.func6, Try.ntmps6
  go_wp2_with (go_at_call 10; (with_reducible refine (h7.out _).mono ?_); rintro e w6 ⟨rfl, hd⟩; replace hK := hK.trans hd; clear hd)
  go_ret
  exact ⟨rfl, hK⟩
set_option maxRecDepth 100000 in
set_option maxHeartbeats 4000000 in
theorem runs_w (s S : Nat → Int) (A : Option Addr) (len cap : Nat) (p m en : Int) (n : Int) (ok : Bool) (w : World) (hlen : len ≤ 60) (m0 : 0 ≤ m) (m1 : m < 65536)
    (h1 : Hid (∀ g w1, Fr [] w w1 → w.heap.size ≤ g → w1.heap[g]? = some (.cells (regC s) 24) → Calls Try.prog 18 #[.pointer (some ⟨g, 0, none⟩), .int .u64 p, .slice A len cap, .int .i64 (m % 400)] w1 fun e w' => e = .returned (.tuple #[.int .u64 en, .int .i64 n, .bool ok]) ∧ w'.heap[g]? = some (.cells (regC S) 24) ∧ Fr [g] w1 w'))
    (h2 : Hid (∀ w1, Fr [] w w1 → Calls Try.prog 19 #[.agg (regC s), .int .u64 p, .slice A len cap, .int .i64 (m % 400)] w1 fun e w' => e = .returned (.tuple #[.agg (regC S), .int .u64 en, .int .i64 n, .bool ok]) ∧ Fr [] w1 w'))
    (h7 : Hid (∀ w, Calls Try.prog 10 #[] w fun e w' => e = .returned (.bool true) ∧ Fr [] w w')) : Calls Try.prog 6 #[.agg (regC s), .slice A len cap, .agg (SC p m)] w fun e w' => e = .returned (.bool true) ∧ Fr [] w w' := by
  have hlt : ¬ ((60 : Int) < (len : Int)) := by omega
  have q1 : (en == en) = true := beq_self_eq_true _
  have q2 : (n == n) = true := beq_self_eq_true _
  have q3 : (ok == ok) = true := beq_self_eq_true _
  go_enter Try.func6, Try.ntmps6
  go_upto_region 3 with fail
  refine world_at' (fun W => W.heap[w.heap.size]? = some (.cells (regC s) 24) ∧ W.heap[w.heap.size + 1]? = some (.cells (SC p m) 47) ∧ W.heap.size = w.heap.size + 2 ∧ Fr [] w W) ⟨blk_alloc (blk_new _ _) _, blk_new' (n := w.heap.size + 1) (by simp) _, by simp, ((Fr.refl [] w).alloc _).alloc _⟩ ?_
  rintro W ⟨hR, hX, hs, hF⟩
  have HR := hid hR
  have HX := hid hX
  have HF := hid hF
  have HS := hid hs
  clear hR hX hF hs
  go_upto_region 4 with (first | (refine wpList_load_row_g (by rfl) 24 _ (by rfl) (w.heap.size) (by rfl) 24 (regC s) (0, 0) _ HR.out Try.underlying24 rfl (size_x _) ?_) | (refine wpList_store_whole rfl 24 _ _ rfl W.heap.size rfl (regC s) rfl 24 _ (by rw [← zeroX]; exact blk_new _ _) (by rw [regC_size, regC_size]) (size_x _) (regC_one _) ?_; intro w2 hB hfr2))
  refine world_at' (fun W' => W'.heap[w.heap.size]? = some (.cells (regC s) 24) ∧ W'.heap[w.heap.size + 1]? = some (.cells (SC p m) 47) ∧ W'.heap[W.heap.size]? = some (.cells (regC s) 24) ∧ Fr [] w W') ⟨hfr2.keeps (blk_alloc HR.out _) (by have := HS.out; simp; omega), hfr2.keeps (blk_alloc HX.out _) (by have := HS.out; simp; omega), hB, (HF.out.alloc _).step hfr2 (fun j hj => .inr (by rw [List.mem_singleton.1 hj]; exact HF.out.size))⟩ ?_
  clear hB hfr2 HR HX HF
  rintro W2 ⟨hR, hX, hB, hF⟩
  have hs := HS.out
  generalize W.heap.size = g at *
  clear HS
  have x0 : W2.cell? ⟨w.heap.size + 1, 0, none⟩ = some (.int .u64 p) := by rw [blk_cell hX]; rfl
  have x1 : W2.cell? ⟨w.heap.size + 1, 1, none⟩ = some (.int .u16 m) := by rw [blk_cell hX]; rfl
  have HR := hid hR
  have HX := hid hX
  have HB := hid hB
  have HF := hid hF
  have HS := hid hs
  clear hR hX hB hF hs
  go_upto_region 6 with (go_at_call 18; (with_reducible refine (h1.out _ _ HF.out (by have := HS.out; omega) HB.out).mono ?_); rintro e w3 ⟨rfl, hB, hd⟩)
  clear x0 x1
  refine world_at' (fun W' => W'.heap[w.heap.size]? = some (.cells (regC s) 24) ∧ W'.heap[w.heap.size + 1]? = some (.cells (SC p m) 47) ∧ W'.heap[g]? = some (.cells (regC S) 24) ∧ Fr [] w W') ⟨hd.keeps HR.out (by have := HS.out; simp; omega), hd.keeps HX.out (by have := HS.out; simp; omega), hB, HF.out.step hd (fun j hj => .inr (by rw [List.mem_singleton.1 hj]; have := HS.out; omega))⟩ ?_
  clear hB hd HR HX HF HB h1
  rintro W3 ⟨hR, hX, hB, hF⟩
  have x0 : W3.cell? ⟨w.heap.size + 1, 0, none⟩ = some (.int .u64 p) := by rw [blk_cell hX]; rfl
  have HR := hid hR
  have HX := hid hX
  have HB := hid hB
  have HF := hid hF
  clear hR hX hB hF
  go_upto_region 7 with (first | (refine wpList_load_row_g (by rfl) 24 _ (by rfl) (w.heap.size) (by rfl) 24 (regC s) (0, 0) _ HR.out Try.underlying24 rfl (size_x _) ?_) | (go_at_call 19; (with_reducible refine (h2.out _ HF.out).mono ?_); rintro e w4 ⟨rfl, hd⟩) | (refine wpList_store_whole rfl 39 _ _ rfl w4.heap.size rfl (regC S) rfl 39 _ (by rw [← zeroX]; exact blk_new _ _) (by rw [regC_size, regC_size]) (size_r _) (regC_one _) ?_; intro w5 hT hfr5))
  have hlt2 : g < W3.heap.size := lt_block HB.out
  have hne : g ≠ w4.heap.size := by have := hd.size; omega
  have hB := hfr5.keeps (blk_alloc (hd.keeps HB.out (by simp)) _) (by simpa using hne)
  have hF := ((HF.out.trans hd).alloc (.cells (regC fun _ => 0) 39)).size
  refine world_at' (fun W' => W'.heap[g]? = some (.cells (regC S) 24) ∧ W'.heap[w4.heap.size]? = some (.cells (regC S) 39) ∧ Fr [] w W') ⟨hB, hT, ((HF.out.trans hd).alloc _).step hfr5 (fun j hj => .inr (by rw [List.mem_singleton.1 hj]; have := hd.size; have := HF.out.size; omega))⟩ ?_
  clear hT hfr5 hd HR HX HF HB hB hF hlt2 hne h2
  rintro W5 ⟨hB, hT, hF⟩
  generalize w4.heap.size = T at *
  have HB := hid hB
  have HT := hid hT
  have HF := hid hF
  clear hB hT hF x0
  have hK := Fr.refl [] W5
  go_wp2_with (first | (refine wpList_load_row_g (by rfl) 24 _ (by rfl) (g) (by rfl) 24 (regC S) (0, 0) _ HB.out Try.underlying24 rfl (size_x _) ?_) | (refine wpList_load_row_g (by rfl) 39 _ (by rfl) (T) (by rfl) 39 (regC S) (0, 0) _ HT.out Try.underlying39 rfl (size_r _) ?_) | (go_at_call 10; (with_reducible refine (h7.out _).mono ?_); rintro e w6 ⟨rfl, hd⟩; replace hK := hK.trans hd; clear hd))
  go_ret
  exact ⟨rfl, HF.out.trans hK⟩
theorem runs_any {s : Nat → Int} (hs : RegsOK s) (A : Option Addr) (cap : Nat) {L : List T7} (hW : ∀ x ∈ L, W7 x) {p m : Int} (hp : N64 p) (m0 : 0 ≤ m) (m1 : m < 65536) (w : World) (hL : Insts w A w.heap.size L) : Calls Try.prog 6 #[.agg (regC s), .slice A L.length cap, .agg (SC p m)] w fun e w' => e = .returned (.bool true) ∧ Fr [] w w' := by
  rcases Nat.lt_or_ge 60 L.length with hlen | hlen
  · exact runs_long s A L.length cap p m w hlen (hid fun w => awake_any w)
  · have hm : m % 400 = ((m % 400).toNat : Int) := by omega
    refine runs_w s (runT L (m % 400).toNat s p).1 A L.length cap p m (runT L (m % 400).toNat s p).2.1 ((runT L (m % 400).toNat s p).2.2.1 : Int) (runT L (m % 400).toNat s p).2.2.2 w hlen m0 m1 (hid fun g w1 hf hg hb => ?_) (hid fun w1 hf => ?_) (hid fun w => awake_any w)
    · rw [hm]
      exact run_w g A cap w.heap.size L _ s p w1 _ (hid (hL.keep hf (by simp))) hlen (by omega) (hid ⟨hg, hf.size⟩) (hid hb) hs hp rfl
    · rw [hm]
      exact rrun_w A cap w.heap.size L _ s p w1 _ (hid (hL.keep hf (by simp))) hlen (by omega) (hid hf.size) hs hp rfl
end Go.Proofs.Ytajbfnihgonppaa.PA
namespace Go.Proofs.Ytajbfnihgonppaa
open PA Plain Go.RowKit
theorem regs_of_list (l : List Int) (h : ∀ v ∈ l, N64 v) : RegsOK (fun i => l.getD i 0) := by
  intro i
  show N64 (l.getD i 0)
  rw [List.getD_eq_getElem?_getD]
  cases e : l[i]? with
  | none => unfold N64; simp
  | some v => exact h v (List.mem_of_getElem? e)
theorem wf_b (k : IntKind) {a : Int} (h : (Lit.int k a).wf = true) : k.min ≤ a ∧ a ≤ k.max := by simp [Lit.wf] at h; exact h

set_option linter.unusedVariables false in
theorem walk_ExecRuns (a0_0 : Int) (a0_1 : Int) (a0_2 : Int) (a0_3 : Int) (a0_4 : Int) (a0_5 : Int) (a0_6 : Int) (a0_7 : Int) (a0_8 : Int) (a0_9 : Int) (a0_10 : Int) (a0_11 : Int) (a0_12 : Int) (a0_13 : Int) (a0_14 : Int) (a0_15 : Int) (a0_16 : Int) (a0_17 : Int) (a0_18 : Int) (a0_19 : Int) (a0_20 : Int) (a0_21 : Int) (a0_22 : Int) (a0_23 : Int) (a0_24 : Int) (a0_25 : Int) (a0_26 : Int) (a0_27 : Int) (a0_28 : Int) (a0_29 : Int) (a0_30 : Int) (a0_31 : Int) (a1 : Option Addr) (len1 cap1 : Nat) (c1 : Nat → Nat → Value) (a2_0 : Int) (a2_1 : Int) (w : World) (w0_0 : (Lit.int .u64 a0_0).wf = true) (w0_1 : (Lit.int .u64 a0_1).wf = true) (w0_2 : (Lit.int .u64 a0_2).wf = true) (w0_3 : (Lit.int .u64 a0_3).wf = true) (w0_4 : (Lit.int .u64 a0_4).wf = true) (w0_5 : (Lit.int .u64 a0_5).wf = true) (w0_6 : (Lit.int .u64 a0_6).wf = true) (w0_7 : (Lit.int .u64 a0_7).wf = true) (w0_8 : (Lit.int .u64 a0_8).wf = true) (w0_9 : (Lit.int .u64 a0_9).wf = true) (w0_10 : (Lit.int .u64 a0_10).wf = true) (w0_11 : (Lit.int .u64 a0_11).wf = true) (w0_12 : (Lit.int .u64 a0_12).wf = true) (w0_13 : (Lit.int .u64 a0_13).wf = true) (w0_14 : (Lit.int .u64 a0_14).wf = true) (w0_15 : (Lit.int .u64 a0_15).wf = true) (w0_16 : (Lit.int .u64 a0_16).wf = true) (w0_17 : (Lit.int .u64 a0_17).wf = true) (w0_18 : (Lit.int .u64 a0_18).wf = true) (w0_19 : (Lit.int .u64 a0_19).wf = true) (w0_20 : (Lit.int .u64 a0_20).wf = true) (w0_21 : (Lit.int .u64 a0_21).wf = true) (w0_22 : (Lit.int .u64 a0_22).wf = true) (w0_23 : (Lit.int .u64 a0_23).wf = true) (w0_24 : (Lit.int .u64 a0_24).wf = true) (w0_25 : (Lit.int .u64 a0_25).wf = true) (w0_26 : (Lit.int .u64 a0_26).wf = true) (w0_27 : (Lit.int .u64 a0_27).wf = true) (w0_28 : (Lit.int .u64 a0_28).wf = true) (w0_29 : (Lit.int .u64 a0_29).wf = true) (w0_30 : (Lit.int .u64 a0_30).wf = true) (w0_31 : (Lit.int .u64 a0_31).wf = true) (w1 : SliceIn w [.num .u8, .num .u8, .num .u8, .num .u8, .num .i64, .num .u16, .num .u8] a1 len1 c1) (w2_0 : (Lit.int .u64 a2_0).wf = true) (w2_1 : (Lit.int .u16 a2_1).wf = true) :
    Calls Try.prog 6 #[.agg #[.int .u64 a0_0, .int .u64 a0_1, .int .u64 a0_2, .int .u64 a0_3, .int .u64 a0_4, .int .u64 a0_5, .int .u64 a0_6, .int .u64 a0_7, .int .u64 a0_8, .int .u64 a0_9, .int .u64 a0_10, .int .u64 a0_11, .int .u64 a0_12, .int .u64 a0_13, .int .u64 a0_14, .int .u64 a0_15, .int .u64 a0_16, .int .u64 a0_17, .int .u64 a0_18, .int .u64 a0_19, .int .u64 a0_20, .int .u64 a0_21, .int .u64 a0_22, .int .u64 a0_23, .int .u64 a0_24, .int .u64 a0_25, .int .u64 a0_26, .int .u64 a0_27, .int .u64 a0_28, .int .u64 a0_29, .int .u64 a0_30, .int .u64 a0_31], .slice a1 len1 cap1, .agg #[.int .u64 a2_0, .int .u16 a2_1]] w fun e w' => e = .returned (.bool true) ∧ Below w.heap.size w w' := by
  have hs : RegsOK (fun i => ([a0_0, a0_1, a0_2, a0_3, a0_4, a0_5, a0_6, a0_7, a0_8, a0_9, a0_10, a0_11, a0_12, a0_13, a0_14, a0_15, a0_16, a0_17, a0_18, a0_19, a0_20, a0_21, a0_22, a0_23, a0_24, a0_25, a0_26, a0_27, a0_28, a0_29, a0_30, a0_31] : List Int).getD i 0) := regs_of_list _ (by
    intro v hv
    simp only [List.mem_cons, List.not_mem_nil, or_false] at hv
    rcases hv with rfl | rfl | rfl | rfl | rfl | rfl | rfl | rfl | rfl | rfl | rfl | rfl | rfl | rfl | rfl | rfl | rfl | rfl | rfl | rfl | rfl | rfl | rfl | rfl | rfl | rfl | rfl | rfl | rfl | rfl | rfl | rfl
    · exact N64.of w0_0
    · exact N64.of w0_1
    · exact N64.of w0_2
    · exact N64.of w0_3
    · exact N64.of w0_4
    · exact N64.of w0_5
    · exact N64.of w0_6
    · exact N64.of w0_7
    · exact N64.of w0_8
    · exact N64.of w0_9
    · exact N64.of w0_10
    · exact N64.of w0_11
    · exact N64.of w0_12
    · exact N64.of w0_13
    · exact N64.of w0_14
    · exact N64.of w0_15
    · exact N64.of w0_16
    · exact N64.of w0_17
    · exact N64.of w0_18
    · exact N64.of w0_19
    · exact N64.of w0_20
    · exact N64.of w0_21
    · exact N64.of w0_22
    · exact N64.of w0_23
    · exact N64.of w0_24
    · exact N64.of w0_25
    · exact N64.of w0_26
    · exact N64.of w0_27
    · exact N64.of w0_28
    · exact N64.of w0_29
    · exact N64.of w0_30
    · exact N64.of w0_31
    )
  obtain ⟨L, rfl, hW, hL⟩ := insts_of w1
  have hm := wf_b _ w2_1
  have m16 : IntKind.u16.min = 0 ∧ IntKind.u16.max = 65535 := ⟨rfl, rfl⟩
  exact (runs_any hs a1 cap1 hW (N64.of w2_0) (by omega) (by omega) w hL).mono fun _ _ ⟨h1, h2⟩ => ⟨h1, below_of_fr h2⟩
end Go.Proofs.Ytajbfnihgonppaa
