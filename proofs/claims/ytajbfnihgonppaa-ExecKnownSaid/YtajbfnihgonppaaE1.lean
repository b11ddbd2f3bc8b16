/- Contracts of branch, arith, Addr. -/
import Derived.Test.YtajbfnihgonppaaAluSpec
import Derived.Test.YtajbfnihgonppaaHDo
import Derived.Test.YtajbfnihgonppaaHReg
import Derived.Test.YtajbfnihgonppaaPAx1
import Derived.Test.YtajbfnihgonppaaPAx4
import Derived.BigGuard
namespace Go.Proofs.Ytajbfnihgonppaa.PA
open Go.RowKit Go.Proofs.Ytajbfnihgonppaa.Plain Go.Proofs.YtajbfnihgonppaaW.PrintWords Go.Proofs.YtajbfnihgonppaaW.PrintLast Go.Proofs.YtajbfnihgonppaaW.PrintMore
set_option linter.all false
abbrev T7 := Int × Int × Int × Int × Int × Int × Int
def IC (x : T7) : Array Value := #[.int .u8 x.1, .int .u8 x.2.1, .int .u8 x.2.2.1, .int .u8 x.2.2.2.1, .int .i64 x.2.2.2.2.1, .int .u16 x.2.2.2.2.2.1, .int .u8 x.2.2.2.2.2.2]
theorem IC_one (x : T7) : (IC x).all (·.oneCell') = true := by simp [IC, Value.oneCell']
theorem sizeI : (Try.prog.info? 27).map (·.size) = some 7 := by kernel_rfl
theorem sizeI' (x : T7) : (Try.prog.info? 27).map (·.size) = some (IC x).size := by rw [sizeI]; rfl
/-- the class of an operation -/
def classT (op : Int) : Int := if op = 0 ∨ 99 ≤ op then 8 else if 3 ≤ op ∧ op ≤ 4 then 4 else if 5 ≤ op ∧ op ≤ 10 then 3 else if 11 ≤ op ∧ op ≤ 17 then 1 else if 18 ≤ op ∧ op ≤ 21 then 2 else if 67 ≤ op ∧ op ≤ 88 then 5 else if 89 ≤ op ∧ op ≤ 94 then 6 else if 50 ≤ op ∧ op ≤ 53 then 7 else if 95 ≤ op ∧ op ≤ 98 then 7 else 0
theorem class_fin : ∀ n : Fin 256, inst_Class.f 4 (n.val : Int) = some (classT (n.val : Int)) := by decide +kernel
theorem class_ev {op : Int} (h : 0 ≤ op ∧ op < 256) : inst_Class.f 4 op = some (classT op) := by
  have := class_fin ⟨op.toNat, by omega⟩
  have e : ((op.toNat : Nat) : Int) = op := by omega
  rwa [e] at this
theorem c_class {op : Int} (h : 0 ≤ op ∧ op < 256) (w : World) : Calls Try.prog 11 #[.int .u8 op] w fun e w' => e = .returned (.int .u8 (classT op)) ∧ Fr [] w w' :=
  (inst_Class.calls 4 op _ w (class_ev h)).mono fun _ _ ⟨h1, h2⟩ => ⟨h1, fr_drawn' h2⟩
theorem c_branch {op a b : Int} (ha : N64 a) (hb : N64 b) (w : World) : Calls Try.prog 29 #[.int .u8 op, .int .u64 a, .int .u64 b] w fun e w' => e = .returned (.tuple #[.bool (brT op a b), .bool (inR op 5 10)]) ∧ Fr [] w w' :=
  (alu_Branch.calls 8 op a b _ _ w (br_ev ha hb).1).mono fun _ _ ⟨h1, h2⟩ => ⟨h1, fr_drawn' h2⟩
theorem c_reg {op : Int} (h : 0 ≤ op ∧ op < 256) (w : World) : Calls Try.prog 30 #[.int .u8 op] w fun e w' => e = .returned (.tuple #[.int .u8 (regT op).1, .bool (regT op).2]) ∧ Fr [] w w' :=
  (alu_Reg.calls op _ _ w (reg_ev h).1).mono fun _ _ ⟨h1, h2⟩ => ⟨h1, fr_of_below h2⟩
theorem c_do {op a b : Int} (h : 0 ≤ op ∧ op < 256) (ha : N64 a) (hb : N64 b) (w : World) : Calls Try.prog 31 #[.int .u8 op, .int .u64 a, .int .u64 b] w fun e w' => e = .returned (.tuple #[.int .u64 (valT op a b).1, .bool (valT op a b).2]) ∧ Fr [] w w' :=
  (alu_Do.calls op a b _ _ w (do_ev h ha hb).1).mono fun _ _ ⟨h1, h2⟩ => ⟨h1, fr_of_below h2⟩
set_option maxRecDepth 100000 in
set_option maxHeartbeats 4000000 in
theorem branch_w (g : Nat) (pc op rd r1 r2 im cs sz a b : Int) (v k : Bool) (w : World) (p0 : 0 ≤ pc) (p1 : pc < 18446744073709551616) (b0 : 0 ≤ op ∧ op < 256) (b2 : 0 ≤ r1 ∧ r1 < 256) (b3 : 0 ≤ r2 ∧ r2 < 256) (b4 : -9223372036854775808 ≤ im) (b4b : im ≤ 9223372036854775807) (b6 : 0 ≤ sz) (b6b : sz < 256) (h1 : Hid (∀ w1, Fr [] w w1 → Calls Try.prog 12 #[.pointer (some ⟨g, 0, none⟩), .int .u8 r1] w1 fun e w' => e = .returned (.int .u64 a) ∧ w1 = w')) (h2 : Hid (∀ w1, Fr [] w w1 → Calls Try.prog 12 #[.pointer (some ⟨g, 0, none⟩), .int .u8 r2] w1 fun e w' => e = .returned (.int .u64 b) ∧ w1 = w')) (h3 : Hid (∀ w, Calls Try.prog 29 #[.int .u8 op, .int .u64 a, .int .u64 b] w fun e w' => e = .returned (.tuple #[.bool v, .bool k]) ∧ Fr [] w w')) :
    Calls Try.prog 22 #[.pointer (some ⟨g, 0, none⟩), .int .u64 pc, .agg (IC (op, rd, r1, r2, im, cs, sz))] w fun e w' => e = .returned (.int .u64 (if v = true then IntKind.u64.wrap (pc + IntKind.u64.wrap im) else IntKind.u64.wrap (pc + sz))) ∧ Fr [] w w' := by
  go_enter Try.func22, Try.ntmps22
  go_upto_region 1 with fail
  refine world_at' (fun W => W.heap[w.heap.size]? = some (.cells (IC (op, rd, r1, r2, im, cs, sz)) 27) ∧ Fr [] w W) ⟨blk_new _ _, (Fr.refl [] w).alloc _⟩ ?_
  rintro W ⟨hZ, hF⟩
  have HF := hid hF
  have y0 : ∀ n : Ext W, n.w.cell? ⟨w.heap.size, 0, none⟩ = some (.int .u8 op) := fun n => Ext.cell n hZ 0
  have y2 : ∀ n : Ext W, n.w.cell? ⟨w.heap.size, 2, none⟩ = some (.int .u8 r1) := fun n => Ext.cell n hZ 2
  have y3 : ∀ n : Ext W, n.w.cell? ⟨w.heap.size, 3, none⟩ = some (.int .u8 r2) := fun n => Ext.cell n hZ 3
  have y4 : ∀ n : Ext W, n.w.cell? ⟨w.heap.size, 4, none⟩ = some (.int .i64 im) := fun n => Ext.cell n hZ 4
  have y6 : ∀ n : Ext W, n.w.cell? ⟨w.heap.size, 6, none⟩ = some (.int .u8 sz) := fun n => Ext.cell n hZ 6
  have HZ := hid hZ
  clear hF hZ
  have hne := ext_ne W
  have c1 : Hid (∀ n : Ext W, Calls Try.prog 12 #[.pointer (some ⟨g, 0, none⟩), .int .u8 r1] n.w fun e w'' => e = .returned (.int .u64 a) ∧ ∃ m : Ext W, w'' = m.w) := fun n => Ext.same n (h1.out _ (HF.out.trans n.fr))
  have c2 : Hid (∀ n : Ext W, Calls Try.prog 12 #[.pointer (some ⟨g, 0, none⟩), .int .u8 r2] n.w fun e w'' => e = .returned (.int .u64 b) ∧ ∃ m : Ext W, w'' = m.w) := fun n => Ext.same n (h2.out _ (HF.out.trans n.fr))
  have c3 : Hid (∀ n : Ext W, Calls Try.prog 29 #[.int .u8 op, .int .u64 a, .int .u64 b] n.w fun e w'' => e = .returned (.tuple #[.bool v, .bool k]) ∧ ∃ m : Ext W, w'' = m.w) := fun n => Ext.call n (h3.out _)
  clear h1 h2 h3
  refine wp_region_ext (by kernel_rfl) (by kernel_rfl) ?_
  repeat (go_big_quiet_step (first | (go_at_call 12; with_reducible exact c1.out _) | (go_at_call 12; with_reducible exact c2.out _) | (go_at_call 29; exact c3.out _)))
  refine wpQuiet_nil ?_
  intro w' hw'
  obtain ⟨m1, rfl⟩ := hw'
  have z4 := y4 m1
  have z6 := y6 m1
  cases v
  all_goals
    go_wp2
    go_ret
    exact ⟨rfl, HF.out.trans m1.fr⟩
set_option maxRecDepth 100000 in
set_option maxHeartbeats 4000000 in
theorem arith_w (g : Nat) (op rd r1 r2 im cs sz a b b' v ro : Int) (kn k : Bool) (w : World) (b0 : 0 ≤ op ∧ op < 256) (b2 : 0 ≤ r1 ∧ r1 < 256) (b3 : 0 ≤ r2 ∧ r2 < 256) (b4 : -9223372036854775808 ≤ im) (b4b : im ≤ 9223372036854775807) (b6 : 0 ≤ sz) (b6b : sz < 256) (h1 : Hid (∀ w1, Fr [] w w1 → Calls Try.prog 12 #[.pointer (some ⟨g, 0, none⟩), .int .u8 r1] w1 fun e w' => e = .returned (.int .u64 a) ∧ w1 = w')) (h2 : Hid (∀ w1, Fr [] w w1 → Calls Try.prog 12 #[.pointer (some ⟨g, 0, none⟩), .int .u8 r2] w1 fun e w' => e = .returned (.int .u64 b) ∧ w1 = w')) (h3 : Hid (∀ w, Calls Try.prog 30 #[.int .u8 op] w fun e w' => e = .returned (.tuple #[.int .u8 ro, .bool kn]) ∧ Fr [] w w')) (h4 : Hid (∀ w, Calls Try.prog 31 #[.int .u8 op, .int .u64 a, .int .u64 b'] w fun e w' => e = .returned (.tuple #[.int .u64 v, .bool k]) ∧ Fr [] w w'))
    (hp : Hid (kn = true ∧ (ro != op) = true ∧ b' = IntKind.u64.wrap im ∨ kn = true ∧ (ro != op) = false ∧ b' = b ∨ kn = false ∧ b' = b)) :
    Calls Try.prog 23 #[.pointer (some ⟨g, 0, none⟩), .agg (IC (op, rd, r1, r2, im, cs, sz))] w fun e w' => e = .returned (.tuple #[.int .u64 v, .bool k]) ∧ Fr [] w w' := by
  go_enter Try.func23, Try.ntmps23
  go_upto_region 1 with fail
  refine world_at' (fun W => W.heap[w.heap.size]? = some (.cells (IC (op, rd, r1, r2, im, cs, sz)) 27) ∧ Fr [] w W) ⟨blk_new _ _, (Fr.refl [] w).alloc _⟩ ?_
  rintro W ⟨hZ, hF⟩
  have HF := hid hF
  have y0 : ∀ n : Ext W, n.w.cell? ⟨w.heap.size, 0, none⟩ = some (.int .u8 op) := fun n => Ext.cell n hZ 0
  have y2 : ∀ n : Ext W, n.w.cell? ⟨w.heap.size, 2, none⟩ = some (.int .u8 r1) := fun n => Ext.cell n hZ 2
  have y3 : ∀ n : Ext W, n.w.cell? ⟨w.heap.size, 3, none⟩ = some (.int .u8 r2) := fun n => Ext.cell n hZ 3
  have y4 : ∀ n : Ext W, n.w.cell? ⟨w.heap.size, 4, none⟩ = some (.int .i64 im) := fun n => Ext.cell n hZ 4
  have y6 : ∀ n : Ext W, n.w.cell? ⟨w.heap.size, 6, none⟩ = some (.int .u8 sz) := fun n => Ext.cell n hZ 6
  have HZ := hid hZ
  clear hF hZ
  have hne := ext_ne W
  have x0 := y0 ⟨W, Fr.refl _ _⟩
  have x3 := y3 ⟨W, Fr.refl _ _⟩
  have x4 := y4 ⟨W, Fr.refl _ _⟩
  simp only [Ext.w] at x0 x3 x4
  rcases hp.out with ⟨rfl, q1, rfl⟩ | ⟨rfl, q1, rfl⟩ | ⟨rfl, rfl⟩
  all_goals
    clear hp
    go_upto_region 5 with (first | (go_at_call 12; (with_reducible refine (h2.out _ HF.out).mono ?_); rintro e w' ⟨rfl, rfl⟩) | (go_at_call 30; (with_reducible refine (h3.out _).mono ?_); rintro e w1 ⟨rfl, hd⟩; have z0 : w1.cell? ⟨w.heap.size, 0, none⟩ = some (.int .u8 op) := y0 ⟨w1, hd⟩; have z4 : w1.cell? ⟨w.heap.size, 4, none⟩ = some (.int .i64 im) := y4 ⟨w1, hd⟩))
    refine world_at' (fun W' => Fr [] W W') hd ?_
    clear x0 x3 x4 z0 z4 hd
    rintro W2 hd
    have HD := hid hd
    have u0 : ∀ n : Ext W2, n.w.cell? ⟨w.heap.size, 0, none⟩ = some (.int .u8 op) := fun n => y0 ⟨n.w, hd.trans n.fr⟩
    have u2 : ∀ n : Ext W2, n.w.cell? ⟨w.heap.size, 2, none⟩ = some (.int .u8 r1) := fun n => y2 ⟨n.w, hd.trans n.fr⟩
    clear y0 y2 y3 y4 y6 hd hne
    have hne := ext_ne W2
    have c1 : Hid (∀ n : Ext W2, Calls Try.prog 12 #[.pointer (some ⟨g, 0, none⟩), .int .u8 r1] n.w fun e w'' => e = .returned (.int .u64 a) ∧ ∃ m : Ext W2, w'' = m.w) := fun n => Ext.same n (h1.out _ ((HF.out.trans HD.out).trans n.fr))
    have c2 : Hid (∀ n : Ext W2, Calls Try.prog 31 #[.int .u8 op, .int .u64 a, .int .u64 _] n.w fun e w'' => e = .returned (.tuple #[.int .u64 v, .bool k]) ∧ ∃ m : Ext W2, w'' = m.w) := fun n => Ext.call n (h4.out _)
    clear h1 h2 h3 h4
    refine wp_region_ext (by kernel_rfl) (by kernel_rfl) ?_
    repeat (go_big_quiet_step (first | (go_at_call 12; with_reducible exact c1.out _) | (go_at_call 31; exact c2.out _)))
    refine wpQuiet_nil ?_
    intro w' hw'
    obtain ⟨m1, rfl⟩ := hw'
    go_wp2
    go_ret2
    exact ⟨rfl, (HF.out.trans HD.out).trans m1.fr⟩
end Go.Proofs.Ytajbfnihgonppaa.PA
