/- What an instruction does to registers: the program's Do and Addr. -/
import Derived.Test.YtajbfnihgonppaaE2
namespace Go.Proofs.Ytajbfnihgonppaa.PA
open Go.RowKit Go.Proofs.Ytajbfnihgonppaa.Plain
set_option linter.all false
/-- registers that hold numbers of 64 bits -/
def RegsOK (s : Nat → Int) : Prop := ∀ i, N64 (s i)
/-- bounds that an instruction has as Go's struct -/
def W7 (x : T7) : Prop := (0 ≤ x.1 ∧ x.1 < 256) ∧ (0 ≤ x.2.1 ∧ x.2.1 < 256) ∧ (0 ≤ x.2.2.1 ∧ x.2.2.1 < 256) ∧ (0 ≤ x.2.2.2.1 ∧ x.2.2.2.1 < 256) ∧ (-9223372036854775808 ≤ x.2.2.2.2.1 ∧ x.2.2.2.2.1 ≤ 9223372036854775807) ∧ (0 ≤ x.2.2.2.2.2.1 ∧ x.2.2.2.2.2.1 < 65536) ∧ (0 ≤ x.2.2.2.2.2.2 ∧ x.2.2.2.2.2.2 < 256)
instance (x : T7) : Decidable (W7 x) := by unfold W7; infer_instance
theorem getT_N {s : Nat → Int} (h : RegsOK s) (n : Int) : N64 (getT s n) := by
  unfold getT
  split
  · unfold N64; omega
  · exact h _
theorem wrap_N (n : Int) : N64 (IntKind.u64.wrap n) := by rw [IntKind.wrap_u64]; unfold N64; omega
def nextT (pc : Int) (x : T7) : Int := IntKind.u64.wrap (pc + x.2.2.2.2.2.2)
def immU (x : T7) : Int := IntKind.u64.wrap x.2.2.2.2.1
/-- the second number of an operation -/
def opB (s : Nat → Int) (x : T7) : Int := if (regT x.1).2 = true ∧ (regT x.1).1 ≠ x.1 then immU x else getT s x.2.2.2.1
def brNext (s : Nat → Int) (pc : Int) (x : T7) : Int := if brT x.1 (getT s x.2.2.1) (getT s x.2.2.2.1) = true then IntKind.u64.wrap (pc + immU x) else nextT pc x
def doT (s : Nat → Int) (pc : Int) (x : T7) : (Nat → Int) × Int × Bool :=
  if x.1 = 4 then (setT s x.2.1 (nextT pc x), bits .andNot .u64 (IntKind.u64.wrap (getT s x.2.2.1 + immU x)) 1, true)
  else if x.1 = 3 then (setT s x.2.1 (nextT pc x), IntKind.u64.wrap (pc + immU x), true)
  else if x.1 = 2 then (setT s x.2.1 (IntKind.u64.wrap (immU x + pc)), nextT pc x, true)
  else if x.1 = 1 then (setT s x.2.1 (immU x), nextT pc x, true)
  else if classT x.1 = 3 then (s, brNext s pc x, true)
  else if (valT x.1 (getT s x.2.2.1) (opB s x)).2 = true then (setT s x.2.1 (valT x.1 (getT s x.2.2.1) (opB s x)).1, nextT pc x, true)
  else (s, pc, false)
theorem opB_N {s : Nat → Int} (h : RegsOK s) (x : T7) : N64 (opB s x) := by
  unfold opB
  split
  · exact wrap_N _
  · exact getT_N h _
theorem arith_any (g : Nat) {s : Nat → Int} (hs : RegsOK s) {x : T7} (hx : W7 x) (w : World) (hb : w.heap[g]? = some (.cells (regC s) 24)) :
    Calls Try.prog 23 #[.pointer (some ⟨g, 0, none⟩), .agg (IC x)] w fun e w' => e = .returned (.tuple #[.int .u64 (valT x.1 (getT s x.2.2.1) (opB s x)).1, .bool (valT x.1 (getT s x.2.2.1) (opB s x)).2]) ∧ Fr [] w w' := by
  have hB := opB_N hs x
  obtain ⟨op, rd, r1, r2, im, cs, sz⟩ := x
  obtain ⟨b0, b1, b2, b3, b4, b5, b6⟩ := hx
  simp only at b0 b1 b2 b3 b4 b5 b6 hB ⊢
  refine arith_w g op rd r1 r2 im cs sz (getT s r1) (getT s r2) (opB s (op, rd, r1, r2, im, cs, sz)) _ (regT op).1 (regT op).2 _ w b0 b2 b3 b4.1 b4.2 b6.1 b6.2
    (hid fun w1 h1 => get_any g s w1 b2 (h1.keeps hb (by simp))) (hid fun w1 h1 => get_any g s w1 b3 (h1.keeps hb (by simp))) (hid fun w => c_reg b0 w) (hid fun w => c_do b0 (getT_N hs r1) hB w) (hid ?_)
  unfold opB
  simp only
  cases h : (regT op).2 with
  | false => exact .inr (.inr ⟨rfl, by rw [if_neg (by simp)]⟩)
  | true =>
    by_cases e : (regT op).1 = op
    · exact .inr (.inl ⟨rfl, by simpa using e, by rw [if_neg (by simp [e])]⟩)
    · exact .inl ⟨rfl, by simpa using e, by rw [if_pos ⟨rfl, e⟩]; rfl⟩
theorem branch_any (g : Nat) {s : Nat → Int} (hs : RegsOK s) {pc : Int} (hp : N64 pc) {x : T7} (hx : W7 x) (w : World) (hb : w.heap[g]? = some (.cells (regC s) 24)) :
    Calls Try.prog 22 #[.pointer (some ⟨g, 0, none⟩), .int .u64 pc, .agg (IC x)] w fun e w' => e = .returned (.int .u64 (brNext s pc x)) ∧ Fr [] w w' := by
  obtain ⟨op, rd, r1, r2, im, cs, sz⟩ := x
  obtain ⟨b0, b1, b2, b3, b4, b5, b6⟩ := hx
  exact branch_w g pc op rd r1 r2 im cs sz (getT s r1) (getT s r2) _ _ w hp.1 hp.2 b0 b2 b3 b4.1 b4.2 b6.1 b6.2
    (hid fun w1 h1 => get_any g s w1 b2 (h1.keeps hb (by simp))) (hid fun w1 h1 => get_any g s w1 b3 (h1.keeps hb (by simp))) (hid fun w => c_branch (getT_N hs r1) (getT_N hs r2) w)
theorem do_any (g : Nat) {s : Nat → Int} (hs : RegsOK s) {pc : Int} (hp : N64 pc) {x : T7} (hx : W7 x) (w : World) (hb : w.heap[g]? = some (.cells (regC s) 24)) :
    Calls Try.prog 9 #[.pointer (some ⟨g, 0, none⟩), .int .u64 pc, .agg (IC x)] w fun e w' => e = .returned (.tuple #[.int .u64 (doT s pc x).2.1, .bool (doT s pc x).2.2]) ∧ w'.heap[g]? = some (.cells (regC (doT s pc x).1) 24) ∧ Fr [g] w w' := by
  have hbr := fun w1 (h1 : Fr [] w w1) => branch_any g hs hp hx w1 (h1.keeps hb (by simp))
  have har := fun w1 (h1 : Fr [] w w1) => arith_any g hs hx w1 (h1.keeps hb (by simp))
  obtain ⟨op, rd, r1, r2, im, cs, sz⟩ := x
  obtain ⟨b0, b1, b2, b3, b4, b5, b6⟩ := hx
  have hget := hid fun w1 (h1 : Fr [] w w1) => get_any g s w1 b2 (h1.keeps hb (by simp))
  have hset := fun v w1 (h1 : Fr [] w w1) => set_any g v s w1 b1 (h1.keeps hb (by simp))
  have hcl := hid fun w => c_class b0 w
  unfold doT
  simp only at hbr har ⊢
  have pull : ∀ {nx : Int} {ok : Bool}, (Calls Try.prog 9 #[.pointer (some ⟨g, 0, none⟩), .int .u64 pc, .agg (IC (op, rd, r1, r2, im, cs, sz))] w fun e w' => e = .returned (.tuple #[.int .u64 nx, .bool ok]) ∧ Fr [] w w') →
      Calls Try.prog 9 #[.pointer (some ⟨g, 0, none⟩), .int .u64 pc, .agg (IC (op, rd, r1, r2, im, cs, sz))] w fun e w' => e = .returned (.tuple #[.int .u64 nx, .bool ok]) ∧ w'.heap[g]? = some (.cells (regC s) 24) ∧ Fr [g] w w' := fun h => h.mono fun _ _ ⟨h1, h2⟩ => ⟨h1, h2.keeps hb (by simp), h2.weaken (by simp)⟩
  by_cases e4 : op = 4
  · subst e4; exact xd_jalr g pc rd r1 r2 im cs sz _ _ w hp.1 hp.2 b2 b3 b4.1 b4.2 b6.1 b6.2 b1 hget (hid (hset _))
  rw [if_neg e4]
  by_cases e3 : op = 3
  · subst e3; exact xd_jal g pc rd r1 r2 im cs sz _ w hp.1 hp.2 b2 b3 b4.1 b4.2 b6.1 b6.2 b1 (hid (hset _))
  rw [if_neg e3]
  by_cases e2 : op = 2
  · subst e2; exact xd_auipc g pc rd r1 r2 im cs sz _ w hp.1 hp.2 b2 b3 b4.1 b4.2 b6.1 b6.2 b1 (hid (hset _))
  rw [if_neg e2]
  by_cases e1 : op = 1
  · subst e1; exact xd_lui g pc rd r1 r2 im cs sz _ w hp.1 hp.2 b2 b3 b4.1 b4.2 b6.1 b6.2 b1 (hid (hset _))
  rw [if_neg e1]
  have t1 : (op == 1) = false := by simpa using e1
  have t2 : (op == 2) = false := by simpa using e2
  have t3 : (op == 3) = false := by simpa using e3
  have t4 : (op == 4) = false := by simpa using e4
  by_cases ec : classT op = 3
  · rw [if_pos ec]
    rw [ec] at hcl
    exact pull (xd_br g pc op rd r1 r2 im cs sz _ s w hp.1 hp.2 b0 b2 b3 b4.1 b4.2 b6.1 b6.2 b1 t1 t2 t3 t4 hcl (hid hbr))
  rw [if_neg ec]
  have t5 : (classT op == 3) = false := by simpa using ec
  generalize valT op (getT s r1) (opB s (op, rd, r1, r2, im, cs, sz)) = vk at *
  obtain ⟨v, k⟩ := vk
  simp only at har ⊢
  cases k with
  | true => rw [if_pos rfl]; exact xd_ar g pc op rd r1 r2 im cs sz _ v _ w hp.1 hp.2 b0 b2 b3 b4.1 b4.2 b6.1 b6.2 b1 t1 t2 t3 t4 hcl t5 (hid har) (hid (hset v))
  | false => rw [if_neg (by decide)]; exact pull (xd_no g pc op rd r1 r2 im cs sz _ v s w hp.1 hp.2 b0 b2 b3 b4.1 b4.2 b6.1 b6.2 b1 t1 t2 t3 t4 hcl t5 (hid har))
/-- where an instruction's memory is -/
def addrT (s : Nat → Int) (x : T7) : Int × Bool := if classT x.1 = 1 ∨ classT x.1 = 2 then (IntKind.u64.wrap (getT s x.2.2.1 + immU x), true) else if classT x.1 = 5 then (getT s x.2.2.1, true) else (0, false)
theorem addr_any (g : Nat) {s : Nat → Int} {x : T7} (hx : W7 x) (w : World) (hb : w.heap[g]? = some (.cells (regC s) 24)) :
    Calls Try.prog 15 #[.pointer (some ⟨g, 0, none⟩), .agg (IC x)] w fun e w' => e = .returned (.tuple #[.int .u64 (addrT s x).1, .bool (addrT s x).2]) ∧ Fr [] w w' := by
  obtain ⟨op, rd, r1, r2, im, cs, sz⟩ := x
  obtain ⟨b0, b1, b2, b3, b4, b5, b6⟩ := hx
  have hget := hid fun w1 (h1 : Fr [] w w1) => get_any g s w1 b2 (h1.keeps hb (by simp))
  have hcl := hid fun w => c_class b0 w
  unfold addrT
  simp only
  by_cases e1 : classT op = 1
  · rw [if_pos (.inl e1)]; rw [e1] at hcl
    exact addr_l g op rd r1 r2 im cs sz _ w b0 b2 b3 b4.1 b4.2 b6.1 b6.2 hcl hget
  by_cases e2 : classT op = 2
  · rw [if_pos (.inr e2)]; rw [e2] at hcl
    exact addr_s g op rd r1 r2 im cs sz _ w b0 b2 b3 b4.1 b4.2 b6.1 b6.2 hcl hget
  rw [if_neg (by simp [e1, e2])]
  by_cases e5 : classT op = 5
  · rw [if_pos e5]; rw [e5] at hcl
    exact addr_a g op rd r1 r2 im cs sz _ w b0 b2 b3 b4.1 b4.2 b6.1 b6.2 hcl hget
  rw [if_neg e5]
  exact addr_o g op rd r1 r2 im cs sz _ w b0 b2 b3 b4.1 b4.2 b6.1 b6.2 hcl (by simpa using e1) (by simpa using e2) (by simpa using e5)
end Go.Proofs.Ytajbfnihgonppaa.PA
