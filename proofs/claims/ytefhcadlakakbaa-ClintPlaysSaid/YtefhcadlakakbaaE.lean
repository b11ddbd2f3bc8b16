/- Contracts of a guest's timer: Write, Tick, Bits. -/
import Derived.Test.YtefhcadlakakbaaD
import Derived.Test.YtefhcadlakakbaaTail
namespace Go.Proofs.Ytefhcadlakakbaa
open Go.RowKit Go.Shelf
set_option linter.all false

def wrV (x sh M K v : Int) : Int := bits .and .u64 (bits .or .u64 (bits .andNot .u64 x (IntKind.u64.wrap (M * 2 ^ sh.toNat))) (IntKind.u64.wrap (bits .and .u64 v M * 2 ^ sh.toNat))) K

set_option maxRecDepth 100000 in
set_option maxHeartbeats 4000000 in
theorem write_some (b o : Nat) (cs : Array Value) (off wd B Z K sh M x v : Int) (w : World)
    (hat : Hid (∀ w, Calls Try.prog 20 #[.pointer (some ⟨b, 0, none⟩), .int .u64 off, .int .i64 wd] w fun e W' => e = .returned (.tuple #[.agg #[.int .u64 B, .int .u64 Z, .int .u64 K, .pointer (some ⟨b, o, none⟩), .int .i64 sh, .int .u64 M], .bool true]) ∧ Fr [] w W'))
    (s0 : 0 ≤ sh) (s1 : sh < 64) (hb : w.heap[b]? = some (.cells cs 39)) (hx : cs[o]? = some (.int .u64 x)) :
    Calls Try.prog 12 #[.pointer (some ⟨b, 0, none⟩), .int .u64 off, .int .i64 wd, .int .u64 v] w fun e w' => e = .returned (.bool true) ∧ w'.heap[b]? = some (.cells (cs.setIfInBounds o (.int .u64 (wrV x sh M K v))) 39) ∧ Fr [b] w w' := by
  have HX := hid hx
  have HB := hid hb
  clear hx hb
  go_enter Try.func12, Try.ntmps12
  go_upto_region 3 with (go_at_call 20; ((with_reducible refine (hat.out _).mono ?_)); rintro e w1 ⟨rfl, hd⟩)
  have hb1 := hd.keeps HB.out (by simp)
  have hlt := lt_block hb1
  have hb2 := blk_alloc hb1 (.cells #[.int .u64 B, .int .u64 Z, .int .u64 K, .pointer (some ⟨b, o, none⟩), .int .i64 sh, .int .u64 M] 50)
  have hn2 := blk_new w1 (.cells #[.int .u64 B, .int .u64 Z, .int .u64 K, .pointer (some ⟨b, o, none⟩), .int .i64 sh, .int .u64 M] 50)
  obtain ⟨W2, hW2⟩ : ∃ W2, w1.alloc (.cells #[.int .u64 B, .int .u64 Z, .int .u64 K, .pointer (some ⟨b, o, none⟩), .int .i64 sh, .int .u64 M] 50) = W2 := ⟨_, rfl⟩
  have hF2 : Fr [] w W2 := by rw [← hW2]; exact hd.alloc _
  have hsz : W2.heap.size = w1.heap.size + 1 := by rw [← hW2]; simp
  rw [hW2] at hb2 hn2 ⊢
  clear hW2
  have z0 := fun n : Ext W2 => Ext.cell n hn2 0
  have z1 := fun n : Ext W2 => Ext.cell n hn2 1
  have z2 := fun n : Ext W2 => Ext.cell n hn2 2
  have z3 := fun n : Ext W2 => Ext.cell n hn2 3
  have z4 := fun n : Ext W2 => Ext.cell n hn2 4
  have z5 := fun n : Ext W2 => Ext.cell n hn2 5
  have zx : ∀ n : Ext W2, n.w.cell? ⟨b, o, none⟩ = some (.int .u64 x) := fun n => (Ext.cell n hb2 o).trans HX.out
  have HF2 := hid hF2
  have HZ := hid hsz
  have HB2 := hid hb2
  clear hF2 hsz hb2 hb1 hn2 hd hlt
  have hne := ext_ne W2
  refine wp_region_ext_tail 27 (by kernel_rfl) (by kernel_rfl) ?_
  simp only [List.take_succ_cons, List.take_zero, List.drop_succ_cons, List.drop_zero]
  repeat (go_big_quiet_step (fail))
  refine wpQuiet_nil ?_
  intro w' hw'
  obtain ⟨m1, rfl⟩ := hw'
  have cx := zx m1
  have fx := blk_free (m1.blk HB2.out) o
  clear z0 z1 z2 z3 z4 z5 zx
  go_wp2
  go_ret
  exact ⟨rfl, blk_set (m1.blk HB2.out) o _, (((HF2.out.trans m1.fr).weaken (by simp)).setCell (.inl (by simp)) _)⟩

set_option maxRecDepth 100000 in
set_option maxHeartbeats 2000000 in
theorem write_none (p : Option Addr) (off wd v : Int) (w : World)
    (hat : Hid (∀ w, Calls Try.prog 20 #[.pointer p, .int .u64 off, .int .i64 wd] w fun e W' => e = .returned (.tuple #[.agg zC, .bool false]) ∧ Fr [] w W')) :
    Calls Try.prog 12 #[.pointer p, .int .u64 off, .int .i64 wd, .int .u64 v] w fun e w' => e = .returned (.bool false) ∧ Fr [] w w' := by
  unfold zC at hat
  go_enter Try.func12, Try.ntmps12
  go_wp2_with (go_at_call 20; ((with_reducible refine (hat.out _).mono ?_)); rintro e w1 ⟨rfl, hd⟩)
  go_ret
  exact ⟨rfl, hd.alloc _⟩

set_option maxHeartbeats 1000000 in
theorem tick_some (b : Nat) (ms mc mt : Int) (w : World) (hb : w.heap[b]? = some (clO ms mc mt)) :
    Calls Try.prog 14 #[.pointer (some ⟨b, 0, none⟩)] w fun e w' => e = .returned (.tuple #[]) ∧ w'.heap[b]? = some (clO ms mc (IntKind.u64.wrap (mt + 1))) ∧ Fr [b] w w' := by
  unfold clO at *
  have c2 : w.cell? ⟨b, 2, none⟩ = some (.int .u64 mt) := by rw [blk_cell hb]; rfl
  have f2 := blk_free hb 2
  have HB := hid hb
  clear hb
  go_enter Try.func14, Try.ntmps14
  go_wp2
  go_end0
  exact ⟨rfl, blk_set HB.out 2 _, (Fr.refl _ _).setCell (.inl (by simp)) _⟩
theorem tick_nil (w : World) : Calls Try.prog 14 #[.pointer none] w fun e w' => e = .returned (.tuple #[]) ∧ w = w' := by
  go_enter Try.func14, Try.ntmps14
  go_wp2
  go_end0
  exact ⟨rfl, rfl⟩
theorem bits_nil (w : World) : Calls Try.prog 16 #[.pointer none] w fun e w' => e = .returned (.int .u64 0) ∧ w = w' := by
  go_enter Try.func16, Try.ntmps16
  go_wp2
  go_ret
  exact ⟨rfl, rfl⟩

/-- which interrupts a timer asks for -/
def btV (ms mc mt : Int) : Int := if ms = 0 then (if mt ≥ mc then 128 else 0) else (if mt ≥ mc then 136 else 8)
theorem ret_u {a b : Int} (h : a = b) : Ending.returned (.int .u64 a) = .returned (.int .u64 b) := by rw [h]
set_option maxRecDepth 100000 in
set_option maxHeartbeats 1000000 in
theorem bits_some (b : Nat) (ms mc mt : Int) (w : World) (hb : w.heap[b]? = some (clO ms mc mt)) (hm : ms = 0 ∨ ms = 1) :
    Calls Try.prog 16 #[.pointer (some ⟨b, 0, none⟩)] w fun e w' => e = .returned (.int .u64 (btV ms mc mt)) ∧ Fr [] w w' := by
  unfold clO at hb
  have c0 : w.cell? ⟨b, 0, none⟩ = some (.int .u64 ms) := by rw [blk_cell hb]; rfl
  have c1 : w.cell? ⟨b, 1, none⟩ = some (.int .u64 mc) := by rw [blk_cell hb]; rfl
  have c2 : w.cell? ⟨b, 2, none⟩ = some (.int .u64 mt) := by rw [blk_cell hb]; rfl
  clear hb
  rcases hm with rfl | rfl
  · have hv : btV 0 mc mt = if mt ≥ mc then 128 else 0 := by simp [btV]
    by_cases h : mt ≥ mc
    · have hv' : btV 0 mc mt = 128 := by rw [hv, if_pos h]
      have HV := hid hv'
      clear hv hv'
      go_enter Try.func16, Try.ntmps16
      go_wp2
      go_quiet (fail)
      go_wp2
      go_ret
      exact ⟨ret_u (by first | (rw [HV.out]; done) | (rw [HV.out]; first | rfl | decide)), (Fr.refl _ _).drewN _⟩
    · have hv' : btV 0 mc mt = 0 := by rw [hv, if_neg h]
      have HV := hid hv'
      clear hv hv'
      go_enter Try.func16, Try.ntmps16
      go_wp2
      go_quiet (fail)
      go_wp2
      go_ret
      exact ⟨ret_u (by first | (rw [HV.out]; done) | (rw [HV.out]; first | rfl | decide)), (Fr.refl _ _).drewN _⟩
  · have hv : btV 1 mc mt = if mt ≥ mc then 136 else 8 := by simp [btV]
    by_cases h : mt ≥ mc
    · have hv' : btV 1 mc mt = 136 := by rw [hv, if_pos h]
      have HV := hid hv'
      clear hv hv'
      go_enter Try.func16, Try.ntmps16
      go_wp2
      go_quiet (fail)
      go_wp2
      go_ret
      exact ⟨ret_u (by first | (rw [HV.out]; done) | (rw [HV.out]; first | rfl | decide)), (Fr.refl _ _).drewN _⟩
    · have hv' : btV 1 mc mt = 8 := by rw [hv, if_neg h]
      have HV := hid hv'
      clear hv hv'
      go_enter Try.func16, Try.ntmps16
      go_wp2
      go_quiet (fail)
      go_wp2
      go_ret
      exact ⟨ret_u (by first | (rw [HV.out]; done) | (rw [HV.out]; first | rfl | decide)), (Fr.refl _ _).drewN _⟩
end Go.Proofs.Ytefhcadlakakbaa
