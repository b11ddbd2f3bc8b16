/- The law InstChecks: the reference's Check, and the law's walk. -/
import Derived.Test.YtogdifjdlkpehaaParP
import Derived.Test.YtogdifjdlkpehaaHLaw
namespace Go.Proofs.Ytogdifjdlkpehaa.PA
open Go.RowKit
set_option linter.all false
theorem neq_IC (x y : T7) (w : World) : (binOp .neq 25 (.agg (IC x)) (.agg (IC y))).run Try.prog w = .ok (.bool (decide (x ≠ y))) w := by
  unfold IC
  go_simp
  obtain ⟨x0, x1, x2, x3, x4, x5, x6⟩ := x
  obtain ⟨y0, y1, y2, y3, y4, y5, y6⟩ := y
  simp only [Prod.mk.injEq, ne_eq]
  repeat' split
  all_goals simp [*]
theorem neq_same (x : T7) (w : World) : (binOp .neq 25 (.agg (IC x)) (.agg (IC x))).run Try.prog w = .ok (.bool false) w := by
  rw [neq_IC]; simp
attribute [local go_sem ↓] eqg_IC eql_same eql_IC neq_same neq_IC
theorem ops_one : (rowsL.all fun r => rowsL.all fun s => decide (r.1 = s.1 → r = s)) = true := by decide +kernel
theorem op_row {r s : R4} (hr : r ∈ rowsL) (hs : s ∈ rowsL) (h : r.1 = s.1) : r = s := by
  have := List.all_eq_true.1 (List.all_eq_true.1 ops_one r hr) s hs
  exact of_decide_eq_true this h
theorem par_any {x : T7} (hx : W7 x) {r : R4} (hr : r ∈ rowsL) (ho : r.1 = x.1) (w : World) : Calls Try.prog 41 #[.agg (IC x)] w fun e w' => e = .returned (.int .u32 (parV r.2.1 r.2.2.2 x)) ∧ Fr [] w w' := by
  obtain ⟨op, k, m, a⟩ := r
  obtain ⟨xo, rd, r1, r2, im, cs, sz⟩ := x
  simp only at ho
  subst ho
  obtain ⟨-, ⟨b1, b2⟩, ⟨b3, b4⟩, ⟨b5, b6⟩, -, ⟨b7, b8⟩, -⟩ := hx
  have hrow : ∀ s ∈ rowsL, s.1 = op → s.2.1 = k ∧ s.2.2.2 = a := fun s hs h => by rw [op_row hs hr h]; exact ⟨rfl, rfl⟩
  have hex : ∃ s ∈ rowsL, s.1 = op := ⟨_, hr, rfl⟩
  have hk := forms_ok _ hr
  simp only at hk b1 b2 b3 b4 b5 b6 b7 b8 ⊢
  rcases k12 hk with rfl | rfl | rfl | rfl | rfl | rfl | rfl | rfl | rfl | rfl | rfl | rfl
  · exact par_0 op rd r1 r2 im cs sz a  w b1 b2 b3 b4 b5 b6 b7 b8 (hid hrow) (hid hex) 
  · exact par_1 op rd r1 r2 im cs sz a _ w b1 b2 b3 b4 b5 b6 b7 b8 (hid hrow) (hid hex) (hid fun w => c_put_0_11_20 im w)
  · exact par_2 op rd r1 r2 im cs sz a _ w b1 b2 b3 b4 b5 b6 b7 b8 (hid hrow) (hid hex) (hid fun w => c_put_0_5_20 im w)
  · exact par_3 op rd r1 r2 im cs sz a _ w b1 b2 b3 b4 b5 b6 b7 b8 (hid hrow) (hid hex) (hid fun w => c_put_0_4_20 im w)
  · exact par_4 op rd r1 r2 im cs sz a _ _ w b1 b2 b3 b4 b5 b6 b7 b8 (hid hrow) (hid hex) (hid fun w => c_put_5_11_25 im w) (hid fun w => c_put_0_4_7 im w)
  · exact par_5 op rd r1 r2 im cs sz a _ _ _ _ w b1 b2 b3 b4 b5 b6 b7 b8 (hid hrow) (hid hex) (hid fun w => c_put_12_12_31 im w) (hid fun w => c_put_11_11_7 im w) (hid fun w => c_put_5_10_25 im w) (hid fun w => c_put_1_4_8 im w)
  · exact par_6 op rd r1 r2 im cs sz a _ w b1 b2 b3 b4 b5 b6 b7 b8 (hid hrow) (hid hex) (hid fun w => c_put_12_31_12 im w)
  · exact par_7 op rd r1 r2 im cs sz a _ _ _ _ w b1 b2 b3 b4 b5 b6 b7 b8 (hid hrow) (hid hex) (hid fun w => c_put_20_20_31 im w) (hid fun w => c_put_12_19_12 im w) (hid fun w => c_put_11_11_20 im w) (hid fun w => c_put_1_10_21 im w)
  · exact par_8 op rd r1 r2 im cs sz a  w b1 b2 b3 b4 b5 b6 b7 b8 (hid hrow) (hid hex) 
  · exact par_9 op rd r1 r2 im cs sz a _ w b1 b2 b3 b4 b5 b6 b7 b8 (hid hrow) (hid hex) (hid fun w => c_put_0_4_15 im w)
  · exact par_10 op rd r1 r2 im cs sz a  w b1 b2 b3 b4 b5 b6 b7 b8 (hid hrow) (hid hex) 
  · exact par_11 op rd r1 r2 im cs sz a  w b1 b2 b3 b4 b5 b6 b7 b8 (hid hrow) (hid hex) 
set_option maxRecDepth 100000 in
set_option maxHeartbeats 4000000 in
theorem rchk_0 (X : T7) (w : World) (h0 : X.1 = 0) : Calls Try.prog 13 #[.agg (IC X)] w fun e w' => e = .returned (.int .i64 3) ∧ Fr [] w w' := by
  go_enter Try.func13, Try.ntmps13
  go_upto_region 1 with fail
  refine world_atF (fun W => W.heap[w.heap.size]? = some (.cells (IC X) 25) ∧ Fr [] w W) ⟨blk_new _ _, (Fr.refl [] w).alloc _⟩ ?_
  rintro W ⟨hZ, hF⟩
  have HF := hid hF
  have HZ := hid hZ
  have y0 : ∀ n : Ext W, n.w.cell? ⟨w.heap.size, 0, none⟩ = some (.int .u8 X.1) := fun n => Ext.cell n hZ 0
  clear hF hZ
  have hne := ext_ne W
  rw [h0] at y0
  clear h0
  refine wp_region_ext (by kernel_rfl) (by kernel_rfl) ?_
  repeat (first | (go_big_quiet_want; refine quiet_row 25 _ rfl w.heap.size rfl 25 (IC X) (0, 0) _ (fun w' hw' => by obtain ⟨n, rfl⟩ := hw'; exact n.blk HZ.out) Try.underlying25 rfl (sizeI' _) ?_; go_simp; go_big_quiet_on) | go_big_quiet_step (first | fail))
  refine wpQuiet_nil ?_
  intro w' hw'
  obtain ⟨m1, rfl⟩ := hw'
  go_wp2
  go_ret
  exact ⟨rfl, HF.out.trans m1.fr⟩
set_option maxRecDepth 100000 in
set_option maxHeartbeats 4000000 in
theorem rchk_1 (X Y : T7) (q : Int) (v : Bool) (w : World) (h0 : (X.1 == 0) = false) (hv : Hid (decide (Y = X) = v)) (h1 : Hid (∀ w, Calls Try.prog 41 #[.agg (IC X)] w fun e w' => e = .returned (.int .u32 q) ∧ Fr [] w w')) (h2 : Hid (∀ w, Calls Try.prog 10 #[.int .u32 q] w fun e w' => e = .returned (.agg (IC Y)) ∧ Fr [] w w')) : Calls Try.prog 13 #[.agg (IC X)] w fun e w' => e = .returned (.int .i64 (if v = true then 0 else 3)) ∧ Fr [] w w' := by
  go_enter Try.func13, Try.ntmps13
  go_upto_region 1 with fail
  refine world_atF (fun W => W.heap[w.heap.size]? = some (.cells (IC X) 25) ∧ Fr [] w W) ⟨blk_new _ _, (Fr.refl [] w).alloc _⟩ ?_
  rintro W ⟨hZ, hF⟩
  have HF := hid hF
  have HZ := hid hZ
  have y0 : ∀ n : Ext W, n.w.cell? ⟨w.heap.size, 0, none⟩ = some (.int .u8 X.1) := fun n => Ext.cell n hZ 0
  clear hF hZ
  have hne := ext_ne W
  have nq := hv.out
  have c1 : Hid (∀ n : Ext W, Calls Try.prog 41 #[.agg (IC X)] n.w fun e w'' => e = .returned (.int .u32 q) ∧ ∃ m : Ext W, w'' = m.w) := fun n => Ext.call n (h1.out _)
  have c2 : Hid (∀ n : Ext W, Calls Try.prog 10 #[.int .u32 q] n.w fun e w'' => e = .returned (.agg (IC Y)) ∧ ∃ m : Ext W, w'' = m.w) := fun n => Ext.call n (h2.out _)
  clear h1 h2 hv
  generalize X.1 = o at *
  cases v
  all_goals
    refine wp_region_ext (by kernel_rfl) (by kernel_rfl) ?_
    repeat (first | (go_big_quiet_want; refine quiet_row 25 _ rfl w.heap.size rfl 25 (IC X) (0, 0) _ (fun w' hw' => by obtain ⟨n, rfl⟩ := hw'; exact n.blk HZ.out) Try.underlying25 rfl (sizeI' _) ?_; go_simp; go_big_quiet_on) | go_big_quiet_step (first | (go_at_call 41; exact c1.out _) | (go_at_call 10; exact c2.out _)))
    refine wpQuiet_nil ?_
    intro w' hw'
    obtain ⟨m1, rfl⟩ := hw'
    go_wp2
    go_ret
    exact ⟨rfl, HF.out.trans m1.fr⟩

theorem dec_par {x : T7} {r : R4} (hr : r ∈ rowsL) (h : rowOK r x) : P32 (parV r.2.1 r.2.2.2 x) ∧ decT (parV r.2.1 r.2.2.2 x) = x := by
  obtain ⟨op, k, m, a⟩ := r
  obtain ⟨xo, rd, r1, r2, im, cs, sz⟩ := x
  have ho := h.1
  simp only at ho
  subst ho
  have hk := forms_ok _ hr
  simp only at hk ⊢
  rcases k12 hk with rfl | rfl | rfl | rfl | rfl | rfl | rfl | rfl | rfl | rfl | rfl | rfl
  · exact par_dec_0 xo m a rd r1 r2 im cs sz hr h
  · exact par_dec_1 xo m a rd r1 r2 im cs sz hr h
  · exact par_dec_2 xo m a rd r1 r2 im cs sz hr h
  · exact par_dec_3 xo m a rd r1 r2 im cs sz hr h
  · exact par_dec_4 xo m a rd r1 r2 im cs sz hr h
  · exact par_dec_5 xo m a rd r1 r2 im cs sz hr h
  · exact par_dec_6 xo m a rd r1 r2 im cs sz hr h
  · exact par_dec_7 xo m a rd r1 r2 im cs sz hr h
  · exact par_dec_8 xo m a rd r1 r2 im cs sz hr h
  · exact par_dec_9 xo m a rd r1 r2 im cs sz hr h
  · obtain ⟨-, hf, -⟩ := h
    have ha := rz_10 _ hr rfl
    simp [formOK] at hf
    obtain ⟨rfl, rfl, rfl, rfl, rfl, rfl⟩ := hf
    have e : parV 10 a (xo, 0, 0, 0, 0, 0, 4) = a := rfl
    rw [e]
    refine ⟨ha, ?_⟩
    have hm : meetsF a (xo, 10, m, a) = true := by
      unfold meetsF
      simp
    rw [dec_found ha hr hm]
    rfl
  · exact par_dec_11 xo m a rd r1 r2 im cs sz hr h
theorem has_row : ∀ n : Fin 256, classT n.val ≠ 8 → ∃ r ∈ rowsL, r.1 = n.val := by decide +kernel
theorem ite_P32 {c : Prop} [Decidable c] {a b : Int} (h1 : P32 a) (h2 : P32 b) : P32 (if c then a else b) := by split <;> assumption
/-- a parcel that is put together of any instruction -/
theorem par_in {x : T7} (hx : W7 x) {r : R4} (hr : r ∈ rowsL) : P32 (parV r.2.1 r.2.2.2 x) := by
  have ha := (rows_u32 r hr).2
  unfold parV
  repeat' (first | exact or_P32 _ _ | exact ha | refine ite_P32 ?_ ?_)
theorem chkT_2 (x : T7) : chkT x = 0 ∨ chkT x = 3 := by
  unfold chkT; split <;> simp
theorem rchk_any {x : T7} (hx : W7 x) (w : World) : Calls Try.prog 13 #[.agg (IC x)] w fun e w' => e = .returned (.int .i64 (chkT x)) ∧ Fr [] w w' := by
  by_cases h0 : x.1 = 0
  · have : chkT x = 3 := by unfold chkT; rw [if_pos (.inl (by rw [h0]; rfl))]
    rw [this]
    exact rchk_0 x w h0
  have h0' : (x.1 == 0) = false := by simpa using h0
  -- what the parcel is, and what it decodes to
  obtain ⟨q, hq, hpar, hqx⟩ : ∃ q, P32 q ∧ (∀ w, Calls Try.prog 41 #[.agg (IC x)] w fun e w' => e = .returned (.int .u32 q) ∧ Fr [] w w') ∧ (chkT x = 0 → decT q = x) := by
    by_cases hc : ∃ r ∈ rowsL, r.1 = x.1
    · obtain ⟨r, hr, ho⟩ := hc
      exact ⟨_, par_in hx hr, fun w => par_any hx hr ho w, fun h => (dec_par hr ((chk_row hx hr ho.symm).1 h)).2⟩
    · refine ⟨0, by unfold P32; omega, fun w => ?_, fun h => ?_⟩
      · obtain ⟨xo, rd, r1, r2, im, cs, sz⟩ := x
        exact par_none xo rd r1 r2 im cs sz w (hid fun r hr h => hc ⟨r, hr, h⟩)
      · exfalso
        have h8 : classT x.1 = 8 := by
          refine Decidable.byContradiction fun hn => hc ?_
          have hb := hx.1
          have e : (((⟨x.1.toNat, by omega⟩ : Fin 256).val : Nat) : Int) = x.1 := by show ((x.1.toNat : Nat) : Int) = x.1; omega
          have := has_row ⟨x.1.toNat, by omega⟩
          rw [e] at this
          exact this hn
        unfold chkT at h
        rw [if_pos (.inl h8)] at h
        cases h
  have href := fun w => ref_any hq w
  rw [ref_dec hq] at href
  have hiff : decT q = x ↔ chkT x = 0 := by
    refine ⟨fun h => ?_, hqx⟩
    rcases dec_row hq with ⟨h1, -⟩ | ⟨r, -, hr, -, -, hok⟩
    · exfalso; rw [h1] at h; rw [← h] at h0; exact h0 rfl
    · rw [h] at hok; exact (chk_row hx hr hok.1).2 hok
  by_cases he : decT q = x
  · have := rchk_1 x (decT q) q true w h0' (hid (decide_eq_true he)) (hid hpar) (hid href)
    rw [hiff.1 he]; exact this
  · have := rchk_1 x (decT q) q false w h0' (hid (decide_eq_false he)) (hid hpar) (hid href)
    have h3 : chkT x = 3 := by rcases chkT_2 x with h | h; exact absurd (hiff.2 h) he; exact h
    rw [h3]; exact this
set_option maxRecDepth 100000 in
set_option maxHeartbeats 4000000 in
theorem checks_w (X : T7) (c : Int) (w : World) (h1 : Hid (∀ w, Calls Try.prog 12 #[.agg (IC X)] w fun e w' => e = .returned (.int .i64 c) ∧ Fr [] w w')) (h2 : Hid (∀ w, Calls Try.prog 13 #[.agg (IC X)] w fun e w' => e = .returned (.int .i64 c) ∧ Fr [] w w')) (h3 : Hid (∀ w, Calls Try.prog 11 #[] w fun e w' => e = .returned (.bool true) ∧ Fr [] w w')) : Calls Try.prog 4 #[.agg (IC X)] w fun e w' => e = .returned (.bool true) ∧ Fr [] w w' := by
  go_enter Try.func4, Try.ntmps4
  go_upto_region 1 with fail
  refine world_atF (fun W => W.heap[w.heap.size]? = some (.cells (IC X) 25) ∧ Fr [] w W) ⟨blk_new _ _, (Fr.refl [] w).alloc _⟩ ?_
  rintro W ⟨hZ, hF⟩
  have HF := hid hF
  have HZ := hid hZ
  have y0 : ∀ n : Ext W, n.w.cell? ⟨w.heap.size, 0, none⟩ = some (.int .u8 X.1) := fun n => Ext.cell n hZ 0
  clear hF hZ
  have hne := ext_ne W
  have c1 : Hid (∀ n : Ext W, Calls Try.prog 12 #[.agg (IC X)] n.w fun e w'' => e = .returned (.int .i64 c) ∧ ∃ m : Ext W, w'' = m.w) := fun n => Ext.call n (h1.out _)
  have c2 : Hid (∀ n : Ext W, Calls Try.prog 13 #[.agg (IC X)] n.w fun e w'' => e = .returned (.int .i64 c) ∧ ∃ m : Ext W, w'' = m.w) := fun n => Ext.call n (h2.out _)
  have c3 : Hid (∀ n : Ext W, Calls Try.prog 11 #[] n.w fun e w'' => e = .returned (.bool true) ∧ ∃ m : Ext W, w'' = m.w) := fun n => Ext.call n (h3.out _)
  clear h1 h2 h3
  refine wp_region_ext (by kernel_rfl) (by kernel_rfl) ?_
  repeat (first | (go_big_quiet_want; refine quiet_row 25 _ rfl w.heap.size rfl 25 (IC X) (0, 0) _ (fun w' hw' => by obtain ⟨n, rfl⟩ := hw'; exact n.blk HZ.out) Try.underlying25 rfl (sizeI' _) ?_; go_simp; go_big_quiet_on) | go_big_quiet_step (first | (go_at_call 12; exact c1.out _) | (go_at_call 13; exact c2.out _) | (go_at_call 11; exact c3.out _)))
  refine wpQuiet_nil ?_
  intro w' hw'
  obtain ⟨m1, rfl⟩ := hw'
  go_wp2
  go_ret
  exact ⟨rfl, HF.out.trans m1.fr⟩

theorem wf_b (k : IntKind) {a : Int} (h : (Lit.int k a).wf = true) : k.min ≤ a ∧ a ≤ k.max := by simp [Lit.wf] at h; exact h
end Go.Proofs.Ytogdifjdlkpehaa.PA
namespace Go.Proofs.Ytogdifjdlkpehaa
open PA Go.RowKit
theorem walk_InstChecks (a0_0 : Int) (a0_1 : Int) (a0_2 : Int) (a0_3 : Int) (a0_4 : Int) (a0_5 : Int) (a0_6 : Int) (w : World) (w0_0 : (Lit.int .u8 a0_0).wf = true) (w0_1 : (Lit.int .u8 a0_1).wf = true) (w0_2 : (Lit.int .u8 a0_2).wf = true) (w0_3 : (Lit.int .u8 a0_3).wf = true) (w0_4 : (Lit.int .i64 a0_4).wf = true) (w0_5 : (Lit.int .u16 a0_5).wf = true) (w0_6 : (Lit.int .u8 a0_6).wf = true) :
    Calls Try.prog 4 #[.agg #[.int .u8 a0_0, .int .u8 a0_1, .int .u8 a0_2, .int .u8 a0_3, .int .i64 a0_4, .int .u16 a0_5, .int .u8 a0_6]] w fun e w' => e = .returned (.bool true) ∧ Below w.heap.size w w' := by
  have hx : W7 (a0_0, a0_1, a0_2, a0_3, a0_4, a0_5, a0_6) := by
    have m8 : IntKind.u8.min = 0 ∧ IntKind.u8.max = 255 := ⟨rfl, rfl⟩
    have m16 : IntKind.u16.min = 0 ∧ IntKind.u16.max = 65535 := ⟨rfl, rfl⟩
    have m64 : IntKind.i64.min = -9223372036854775808 ∧ IntKind.i64.max = 9223372036854775807 := ⟨rfl, rfl⟩
    have h0 := wf_b _ w0_0
    have h1 := wf_b _ w0_1
    have h2 := wf_b _ w0_2
    have h3 := wf_b _ w0_3
    have h4 := wf_b _ w0_4
    have h5 := wf_b _ w0_5
    have h6 := wf_b _ w0_6
    unfold W7
    simp only
    omega
  exact (checks_w (a0_0, a0_1, a0_2, a0_3, a0_4, a0_5, a0_6) _ w (hid fun w => chk_any hx.1 w) (hid fun w => rchk_any hx w) (hid fun w => awake_any w)).mono fun _ _ ⟨h1, h2⟩ => ⟨h1, below_of_fr'' h2⟩
end Go.Proofs.Ytogdifjdlkpehaa
