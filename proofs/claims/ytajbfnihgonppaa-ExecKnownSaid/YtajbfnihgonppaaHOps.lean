/- Contract of the table of operations: a map of functions. -/
import Derived.Test.YtajbfnihgonppaaK3
namespace Go.Proofs.Ytajbfnihgonppaa
open Go.RowKit
set_option linter.all false
theorem fr_of_below {W w' : World} (h : Below W.heap.size W w') : Fr [] W w' := ⟨h.os, h.tape, h.output, h.size, fun k hk _ => h.block k hk⟩
theorem below_of_fr {W w' : World} (h : Fr [] W w') : Below W.heap.size W w' := h.below (Nat.le_refl _) (by simp)
theorem zeroFT (w : World) : (zeroValue 72).run Try.prog w = .ok .nilFunc w := by kernel_rfl
theorem zeroU8 (w : World) : (zeroValue 5).run Try.prog w = .ok (.int .u8 0) w := by kernel_rfl
theorem neq_nil (w : World) : (binOp .neq 72 .nilFunc .nilFunc).run Try.prog w = .ok (.bool false) w := by kernel_rfl
theorem neq_fn (g : FuncId) (w : World) : (binOp .neq 72 (.func (.func g) #[] #[]) .nilFunc).run Try.prog w = .ok (.bool true) w := by kernel_rfl
def opsL : List (Int × Value) := [(31, .func (.func 50) #[] #[]), (32, .func (.func 51) #[] #[]), (36, .func (.func 52) #[] #[]), (39, .func (.func 53) #[] #[]), (40, .func (.func 54) #[] #[]), (33, .func (.func 55) #[] #[]), (37, .func (.func 56) #[] #[]), (38, .func (.func 57) #[] #[]), (34, .func (.func 37) #[] #[]), (35, .func (.func 38) #[] #[]), (45, .func (.func 58) #[] #[]), (46, .func (.func 59) #[] #[]), (47, .func (.func 60) #[] #[]), (48, .func (.func 61) #[] #[]), (49, .func (.func 62) #[] #[]), (54, .func (.func 63) #[] #[]), (55, .func (.func 64) #[] #[]), (56, .func (.func 65) #[] #[]), (57, .func (.func 66) #[] #[]), (58, .func (.func 67) #[] #[]), (59, .func (.func 68) #[] #[]), (60, .func (.func 69) #[] #[]), (61, .func (.func 70) #[] #[]), (62, .func (.func 71) #[] #[]), (63, .func (.func 72) #[] #[]), (64, .func (.func 73) #[] #[]), (65, .func (.func 74) #[] #[]), (66, .func (.func 75) #[] #[])]
def opV (x : Int) : Value := (lookIn x opsL).getD .nilFunc
def isOp (x : Int) : Bool := (lookIn x opsL).isSome
theorem opV_no {x : Int} (h : isOp x = false) : opV x = .nilFunc := by
  unfold isOp at h; unfold opV
  cases e : lookIn x opsL with
  | none => rfl
  | some v => rw [e] at h; cases h
theorem lookIn_mem {x : Int} {v : Value} : ∀ {l : List (Int × Value)}, lookIn x l = some v → (x, v) ∈ l
  | [], h => by cases h
  | (k, u) :: r, h => by
    unfold lookIn at h
    split at h
    · rename_i e; cases h; subst e; simp
    · exact List.mem_cons_of_mem _ (lookIn_mem h)
theorem opV_is {x : Int} (h : isOp x = true) : ∃ g : FuncId, opV x = .func (.func g) #[] #[] := by
  unfold isOp at h; unfold opV
  cases e : lookIn x opsL with
  | none => rw [e] at h; cases h
  | some v =>
    have hm := lookIn_mem e
    simp only [opsL, List.mem_cons, Prod.mk.injEq, List.not_mem_nil, or_false] at hm
    rcases hm with ⟨_, rfl⟩ | ⟨_, rfl⟩ | ⟨_, rfl⟩ | ⟨_, rfl⟩ | ⟨_, rfl⟩ | ⟨_, rfl⟩ | ⟨_, rfl⟩ | ⟨_, rfl⟩ | ⟨_, rfl⟩ | ⟨_, rfl⟩ | ⟨_, rfl⟩ | ⟨_, rfl⟩ | ⟨_, rfl⟩ | ⟨_, rfl⟩ | ⟨_, rfl⟩ | ⟨_, rfl⟩ | ⟨_, rfl⟩ | ⟨_, rfl⟩ | ⟨_, rfl⟩ | ⟨_, rfl⟩ | ⟨_, rfl⟩ | ⟨_, rfl⟩ | ⟨_, rfl⟩ | ⟨_, rfl⟩ | ⟨_, rfl⟩ | ⟨_, rfl⟩ | ⟨_, rfl⟩ | ⟨_, rfl⟩ <;> exact ⟨_, rfl⟩

set_option maxRecDepth 100000 in
set_option maxHeartbeats 4000000 in
theorem ops_any (w : World) : Calls Try.prog 39 #[] w fun e w' => e = .returned (.map (some w.heap.size)) ∧ w.alloc (litMap .u8 opsL) = w' := by
  have hmm := run_makeMap_lit (P := Try.prog) .u8
  have hins0 := run_insert_lit0 (P := Try.prog) Try.underlying73 Try.underlying5
  have hins := run_insert_lit (P := Try.prog) Try.underlying73 Try.underlying5
  go_enter Try.func39, Try.ntmps39
  go_wp2
  go_ret
  exact ⟨rfl, rfl⟩
theorem ops_look (x : Int) (w : World) : Sem.run Try.prog (Instr.lookup 73 (.map (some w.heap.size)) (.int .u8 x) false) (w.alloc (litMap .u8 opsL)) = .ok (opV x) (w.alloc (litMap .u8 opsL)) := by
  simpa [opV] using run_lookup_lit (P := Try.prog) Try.underlying73 Try.underlying5 zeroFT (blk_new w (litMap .u8 opsL)) x false

theorem ops_look1 (x : Int) (w : World) (o : Obj) : Sem.run Try.prog (Instr.lookup 73 (.map (some (w.heap.size + 1))) (.int .u8 x) false) ((w.alloc o).alloc (litMap .u8 opsL)) = .ok (opV x) ((w.alloc o).alloc (litMap .u8 opsL)) := by
  simpa using ops_look x (w.alloc o)
def regL : List (Int × Value) := [(22, .int .u8 31), (23, .int .u8 34), (24, .int .u8 35), (25, .int .u8 36), (26, .int .u8 39), (27, .int .u8 40), (28, .int .u8 33), (29, .int .u8 37), (30, .int .u8 38), (41, .int .u8 45), (42, .int .u8 47), (43, .int .u8 48), (44, .int .u8 49)]
def regV (x : Int) : Int := if x = 22 then 31 else if x = 23 then 34 else if x = 24 then 35 else if x = 25 then 36 else if x = 26 then 39 else if x = 27 then 40 else if x = 28 then 33 else if x = 29 then 37 else if x = 30 then 38 else if x = 41 then 45 else if x = 42 then 47 else if x = 43 then 48 else if x = 44 then 49 else 0
def regIs (x : Int) : Bool := x == 22 || x == 23 || x == 24 || x == 25 || x == 26 || x == 27 || x == 28 || x == 29 || x == 30 || x == 41 || x == 42 || x == 43 || x == 44
theorem reg_look1 (x : Int) : (lookIn x regL).getD (.int .u8 0) = .int .u8 (regV x) ∧ (lookIn x regL).isSome = regIs x := by
  by_cases h : x = 22 ∨ x = 23 ∨ x = 24 ∨ x = 25 ∨ x = 26 ∨ x = 27 ∨ x = 28 ∨ x = 29 ∨ x = 30 ∨ x = 41 ∨ x = 42 ∨ x = 43 ∨ x = 44
  · rcases h with rfl | rfl | rfl | rfl | rfl | rfl | rfl | rfl | rfl | rfl | rfl | rfl | rfl <;> exact ⟨rfl, rfl⟩
  · simp only [not_or] at h
    obtain ⟨h22, h23, h24, h25, h26, h27, h28, h29, h30, h41, h42, h43, h44⟩ := h
    simp [regL, lookIn, regV, regIs, *]
theorem reg_look (x : Int) (w : World) : Sem.run Try.prog (Instr.lookup 71 (.map (some w.heap.size)) (.int .u8 x) true) (w.alloc (litMap .u8 [(22, .int .u8 31), (23, .int .u8 34), (24, .int .u8 35), (25, .int .u8 36), (26, .int .u8 39), (27, .int .u8 40), (28, .int .u8 33), (29, .int .u8 37), (30, .int .u8 38), (41, .int .u8 45), (42, .int .u8 47), (43, .int .u8 48), (44, .int .u8 49)])) = .ok (.tuple #[.int .u8 (regV x), .bool (regIs x)]) (w.alloc (litMap .u8 [(22, .int .u8 31), (23, .int .u8 34), (24, .int .u8 35), (25, .int .u8 36), (26, .int .u8 39), (27, .int .u8 40), (28, .int .u8 33), (29, .int .u8 37), (30, .int .u8 38), (41, .int .u8 45), (42, .int .u8 47), (43, .int .u8 48), (44, .int .u8 49)])) := by
  have h := run_lookup_lit (P := Try.prog) Try.underlying71 Try.underlying5 zeroU8 (blk_new w (litMap .u8 regL)) x true
  rw [(reg_look1 x).1, (reg_look1 x).2] at h
  exact h
end Go.Proofs.Ytajbfnihgonppaa
