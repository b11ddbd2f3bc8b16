/- What operations answer is a number of 64 bits; a program's steps, plainly. -/
import Derived.Test.YtajbfnihgonppaaE6
namespace Go.Proofs.Ytajbfnihgonppaa.Pure
open Go.RowKit Go.Proofs.Ytajbfnihgonppaa.PA Go.Proofs.Ytajbfnihgonppaa.Plain Go.Proofs.YtajbfnihgonppaaW.PrintWords Go.Proofs.YtajbfnihgonppaaW.PrintLast Go.Proofs.YtajbfnihgonppaaW.PrintMore
set_option linter.all false
theorem bits_N (op : BinOp) (a b : Int) : N64 (bits op .u64 a b) := by
  rw [u64_bits']
  unfold N64
  omega
theorem hi_N {a b : Int} (ha : N64 a) (hb : N64 b) : N64 (a * b / 18446744073709551616) := by
  unfold N64 at *
  have h1 : 0 ≤ a * b := Int.mul_nonneg ha.1 hb.1
  have h2 : a * b ≤ 18446744073709551615 * b := Int.mul_le_mul_of_nonneg_right (by omega) hb.1
  omega
theorem hsu_N {a b : Int} (ha : N64 a) (hb : N64 b) : N64 (hsu a b) := by
  unfold hsu
  split
  · exact hi_N ha hb
  · unfold N64; omega
theorem hss_N {a b : Int} (ha : N64 a) (hb : N64 b) : N64 (hss a b) := by
  unfold hss
  split
  · exact hsu_N ha hb
  · unfold N64; omega
theorem do_N (a b : Int) (ha : N64 a) (hb : N64 b) : ∀ r ∈ opsN, ∃ v, alu_Do.f r a b = some (v, true) ∧ N64 v := by
  have b6 : 0 ≤ b % 64 ∧ b % 64 < 64 := by omega
  have b5 : 0 ≤ b % 32 ∧ b % 32 < 32 := by omega
  have MN : ∀ x : Int, N64 (x % 18446744073709551616) := fun x => by unfold N64; omega
  have z01 : ∀ c : Prop, ∀ [Decidable c], N64 (if c then 1 else 0) := fun c _ => by split <;> (unfold N64; omega)
  intro r hr
  have own := ops_own r hr
  simp only [opsN, List.mem_cons, List.not_mem_nil, or_false] at hr
  rcases hr with rfl | rfl | rfl | rfl | rfl | rfl | rfl | rfl | rfl | rfl | rfl | rfl | rfl | rfl | rfl | rfl | rfl | rfl | rfl | rfl | rfl | rfl | rfl | rfl | rfl | rfl | rfl | rfl
  · exact ⟨IntKind.u64.wrap (a + b), by unfold alu_Do.f; rw [own]; simp [alu_number_add.f], wrap_N _⟩
  · exact ⟨IntKind.u64.wrap (a - b), by unfold alu_Do.f; rw [own]; simp [alu_number_sub.f], wrap_N _⟩
  · exact ⟨bits .xor .u64 a b, by unfold alu_Do.f; rw [own]; simp [alu_number_xor.f], bits_N _ _ _⟩
  · exact ⟨bits .or .u64 a b, by unfold alu_Do.f; rw [own]; simp [alu_number_or.f], bits_N _ _ _⟩
  · exact ⟨bits .and .u64 a b, by unfold alu_Do.f; rw [own]; simp [alu_number_and.f], bits_N _ _ _⟩
  · exact ⟨shl .u64 a (b % 64), by unfold alu_Do.f; rw [own]; simp [alu_number_sll.f, alu_number_six.f, and63 hb, b6.1], by rw [shl_mod b6.1 b6.2]; exact MN _⟩
  · exact ⟨shr .u64 a (b % 64), by unfold alu_Do.f; rw [own]; simp [alu_number_srl.f, alu_number_six.f, and63 hb, b6.1], shr_N ha b6.2⟩
  · exact ⟨sg a / 2 ^ (b % 64).toNat % 18446744073709551616, by unfold alu_Do.f; rw [own]; simp [alu_number_sra.f, alu_number_signed.f, wrap64_sg ha, alu_number_six.f, and63 hb, b6.1, wu, shr_i64 b6.2], MN _⟩
  · refine ⟨if sg a < sg b then 1 else 0, ?_, z01 _⟩
    unfold alu_Do.f; rw [own]
    by_cases e : sg a < sg b <;> simp [alu_number_slt.f, alu_number_signed.f, alu_said.f, wrap64_sg ha, wrap64_sg hb, e]
  · refine ⟨if a < b then 1 else 0, ?_, z01 _⟩
    unfold alu_Do.f; rw [own]
    by_cases e : a < b <;> simp [alu_number_sltu.f, alu_said.f, e]
  · exact ⟨sw (a + b) % 18446744073709551616, by unfold alu_Do.f; rw [own]; simp [alu_number_addw.f, word_f, wu, sw_M], MN _⟩
  · exact ⟨sw (a - b) % 18446744073709551616, by unfold alu_Do.f; rw [own]; simp [alu_number_subw.f, word_f, wu, sw_M], MN _⟩
  · exact ⟨sw (a * 2 ^ (b % 32).toNat) % 18446744073709551616, by unfold alu_Do.f; rw [own]; simp [alu_number_sllw.f, alu_number_five.f, and31 hb, b5.1, shl_mod b5.1 (show b % 32 < 64 by omega), word_f, sw_M], MN _⟩
  · exact ⟨sw (shr .u64 (a % 4294967296) (b % 32)) % 18446744073709551616, by unfold alu_Do.f; rw [own]; simp [alu_number_srlw.f, alu_number_small.f, alu_number_five.f, and31 hb, b5.1, word_f], MN _⟩
  · exact ⟨sw a / 2 ^ (b % 32).toNat % 18446744073709551616, by unfold alu_Do.f; rw [own]; simp [alu_number_sraw.f, alu_number_signed.f, word_f, signed_word, alu_number_five.f, and31 hb, b5.1, wu, shr_i64 (show b % 32 < 64 by omega)], MN _⟩
  · exact ⟨_, do54 a b, MN _⟩
  · exact ⟨_, do55 ha hb, hss_N ha hb⟩
  · exact ⟨_, do56 ha hb, hsu_N ha hb⟩
  · exact ⟨_, do57 ha hb, hi_N ha hb⟩
  · exact ⟨_, (pdiv ha hb).1, (SQ_N ha).1⟩
  · exact ⟨_, (divu_f ha hb).1, (qu_bd ha hb).1⟩
  · exact ⟨_, (pdiv ha hb).2, (SQ_N ha).2⟩
  · exact ⟨_, (divu_f ha hb).2, (qu_bd ha hb).2⟩
  · exact ⟨sw (a * b) % 18446744073709551616, by unfold alu_Do.f; rw [own]; simp [alu_number_mulw.f, word_f, wu, sw_M], MN _⟩
  · exact ⟨_, (pdivw a b).1, MN _⟩
  · exact ⟨_, (divuw_f a b).1, MN _⟩
  · exact ⟨_, (pdivw a b).2, MN _⟩
  · exact ⟨_, (divuw_f a b).2, MN _⟩
end Go.Proofs.Ytajbfnihgonppaa.Pure
namespace Go.Proofs.Ytajbfnihgonppaa.PA
open Go.RowKit Go.Proofs.Ytajbfnihgonppaa.Plain
set_option linter.all false
theorem val_N {op a b : Int} (h : 0 ≤ op ∧ op < 256) (ha : N64 a) (hb : N64 b) : N64 (valT op a b).1 := by
  obtain ⟨hr, hc⟩ := Pure.reg_all ⟨op.toNat, by omega⟩
  have e0 : ((op.toNat : Nat) : Int) = op := by omega
  simp only [e0] at hr hc
  rcases hc with hc | ⟨r, hm, hc⟩
  · have d1 : alu_Do.f op a b = some (0, false) := by unfold alu_Do.f; rw [hc]; rfl
    unfold valT
    rw [d1]
    unfold N64; simp
  · obtain ⟨v, d1, d2⟩ := Pure.do_N a b ha hb r hm
    have d3 : alu_Do.f op a b = some (v, true) := by
      rw [← d1]; unfold alu_Do.f; rw [hc, Pure.ops_own r hm]
    unfold valT
    rw [d3]
    exact d2
theorem set_okR {s : Nat → Int} (hs : RegsOK s) (n : Int) {v : Int} (hv : N64 v) : RegsOK (setT s n v) := by
  intro i
  unfold setT
  split
  · exact hs i
  · unfold upd; split
    · exact hv
    · exact hs i
theorem do_ok {s : Nat → Int} (hs : RegsOK s) {pc : Int} (hp : N64 pc) {x : T7} (hx : W7 x) : RegsOK (doT s pc x).1 ∧ N64 (doT s pc x).2.1 := by
  have nn : N64 (nextT pc x) := wrap_N _
  have ni : N64 (immU x) := wrap_N _
  unfold doT
  by_cases e4 : x.1 = 4
  · rw [if_pos e4]; exact ⟨set_okR hs _ nn, show N64 (bits .andNot .u64 _ 1) from Pure.bits_N _ _ _⟩
  rw [if_neg e4]
  by_cases e3 : x.1 = 3
  · rw [if_pos e3]; exact ⟨set_okR hs _ nn, wrap_N _⟩
  rw [if_neg e3]
  by_cases e2 : x.1 = 2
  · rw [if_pos e2]; exact ⟨set_okR hs _ (wrap_N _), nn⟩
  rw [if_neg e2]
  by_cases e1 : x.1 = 1
  · rw [if_pos e1]; exact ⟨set_okR hs _ ni, nn⟩
  rw [if_neg e1]
  by_cases ec : classT x.1 = 3
  · rw [if_pos ec]
    refine ⟨hs, ?_⟩
    show N64 (brNext s pc x)
    unfold brNext
    split
    · exact wrap_N _
    · exact nn
  rw [if_neg ec]
  by_cases ev : (valT x.1 (getT s x.2.2.1) (opB s x)).2 = true
  · rw [if_pos ev]; exact ⟨set_okR hs _ (val_N hx.1 (getT_N hs _) (opB_N hs x)), nn⟩
  · rw [if_neg ev]; exact ⟨hs, hp⟩
theorem do_falseR {s : Nat → Int} {pc : Int} {x : T7} (h : (doT s pc x).2.2 = false) : doT s pc x = (s, pc, false) := by
  unfold doT at *
  by_cases e4 : x.1 = 4
  · rw [if_pos e4] at h; cases h
  rw [if_neg e4] at h ⊢
  by_cases e3 : x.1 = 3
  · rw [if_pos e3] at h; cases h
  rw [if_neg e3] at h ⊢
  by_cases e2 : x.1 = 2
  · rw [if_pos e2] at h; cases h
  rw [if_neg e2] at h ⊢
  by_cases e1 : x.1 = 1
  · rw [if_pos e1] at h; cases h
  rw [if_neg e1] at h ⊢
  by_cases ec : classT x.1 = 3
  · rw [if_pos ec] at h; cases h
  rw [if_neg ec] at h ⊢
  by_cases ev : (valT x.1 (getT s x.2.2.1) (opB s x)).2 = true
  · rw [if_pos ev] at h; cases h
  · rw [if_neg ev]
/-- an instruction of four bytes -/
def four (x : T7) : T7 := (x.1, x.2.1, x.2.2.1, x.2.2.2.1, x.2.2.2.2.1, x.2.2.2.2.2.1, 4)
theorem four_W {x : T7} (h : W7 x) : W7 (four x) := by
  obtain ⟨h0, h1, h2, h3, h4, h5, h6⟩ := h
  exact ⟨h0, h1, h2, h3, h4, h5, by simp [four]⟩
/-- is there an instruction at that address? -/
def inL (l : List T7) (pc : Int) : Bool := (pc % 4 == 0) && decide (pc / 4 < (l.length : Int))
/-- a program's steps: registers, address, how many steps, whether it ran to its end -/
def runT (l : List T7) : Nat → (Nat → Int) → Int → (Nat → Int) × Int × Nat × Bool
  | 0, s, pc => (s, pc, 0, !inL l pc)
  | k + 1, s, pc => if inL l pc = true then
      (if (doT s pc (four (l.getD (pc / 4).toNat default))).2.2 = true then
        ((runT l k (doT s pc (four (l.getD (pc / 4).toNat default))).1 (doT s pc (four (l.getD (pc / 4).toNat default))).2.1).1,
         (runT l k (doT s pc (four (l.getD (pc / 4).toNat default))).1 (doT s pc (four (l.getD (pc / 4).toNat default))).2.1).2.1,
         (runT l k (doT s pc (four (l.getD (pc / 4).toNat default))).1 (doT s pc (four (l.getD (pc / 4).toNat default))).2.1).2.2.1 + 1,
         (runT l k (doT s pc (four (l.getD (pc / 4).toNat default))).1 (doT s pc (four (l.getD (pc / 4).toNat default))).2.1).2.2.2)
       else (s, pc, 0, false))
    else (s, pc, 0, true)
/-- behind k steps more -/
def plusK (k : Nat) (r : (Nat → Int) × Int × Nat × Bool) : (Nat → Int) × Int × Nat × Bool := (r.1, r.2.1, r.2.2.1 + k, r.2.2.2)
theorem plusK0 (r : (Nat → Int) × Int × Nat × Bool) : plusK 0 r = r := rfl
theorem plusK_plusK (a b : Nat) (r : (Nat → Int) × Int × Nat × Bool) : plusK a (plusK b r) = plusK (a + b) r := by unfold plusK; simp only [Prod.mk.injEq, true_and, and_true]; omega
theorem run_out {l : List T7} {pc : Int} (h : inL l pc = false) (k : Nat) (s : Nat → Int) : runT l k s pc = (s, pc, 0, true) := by
  cases k with
  | zero => unfold runT; rw [h]; rfl
  | succ k => unfold runT; rw [h, if_neg (by decide)]
theorem run_zero {l : List T7} {pc : Int} (h : inL l pc = true) (s : Nat → Int) : runT l 0 s pc = (s, pc, 0, false) := by unfold runT; rw [h]; rfl
theorem run_no {l : List T7} {pc : Int} (h : inL l pc = true) (k : Nat) {s : Nat → Int} (hd : (doT s pc (four (l.getD (pc / 4).toNat default))).2.2 = false) : runT l (k + 1) s pc = (s, pc, 0, false) := by
  show (if inL l pc = true then _ else _) = _
  rw [if_pos h, hd, if_neg (by decide)]
theorem run_step {l : List T7} {pc : Int} (h : inL l pc = true) (k : Nat) {s : Nat → Int} (hd : (doT s pc (four (l.getD (pc / 4).toNat default))).2.2 = true) : runT l (k + 1) s pc = plusK 1 (runT l k (doT s pc (four (l.getD (pc / 4).toNat default))).1 (doT s pc (four (l.getD (pc / 4).toNat default))).2.1) := by
  show (if inL l pc = true then _ else _) = _
  rw [if_pos h, if_pos hd]
  rfl
theorem run_le (l : List T7) : ∀ (k : Nat) (s : Nat → Int) (pc : Int), (runT l k s pc).2.2.1 ≤ k
  | 0, s, pc => by unfold runT; simp
  | k + 1, s, pc => by
    by_cases h : inL l pc = true
    · cases hd : (doT s pc (four (l.getD (pc / 4).toNat default))).2.2 with
      | false => rw [run_no h k hd]; simp
      | true =>
        rw [run_step h k hd]
        have := run_le l k (doT s pc (four (l.getD (pc / 4).toNat default))).1 (doT s pc (four (l.getD (pc / 4).toNat default))).2.1
        unfold plusK
        simp only
        omega
    · rw [run_out (by simpa using h)]; simp
theorem run_ok {l : List T7} (hl : ∀ x ∈ l, W7 x) : ∀ (k : Nat) {s : Nat → Int} {pc : Int}, RegsOK s → N64 pc → RegsOK (runT l k s pc).1 ∧ N64 (runT l k s pc).2.1
  | 0, s, pc, hs, hp => by unfold runT; exact ⟨hs, hp⟩
  | k + 1, s, pc, hs, hp => by
    by_cases h : inL l pc = true
    · cases hd : (doT s pc (four (l.getD (pc / 4).toNat default))).2.2 with
      | false => rw [run_no h k hd]; exact ⟨hs, hp⟩
      | true =>
        rw [run_step h k hd]
        have hlt : (pc / 4).toNat < l.length := by
          unfold inL at h
          simp at h
          unfold N64 at hp
          omega
        have hx : W7 (four (l.getD (pc / 4).toNat default)) := by
          refine four_W (hl _ ?_)
          rw [List.getD_eq_getElem?_getD, List.getElem?_eq_getElem hlt]
          exact List.getElem_mem hlt
        obtain ⟨h1, h2⟩ := do_ok hs hp hx
        exact run_ok hl k h1 h2
    · rw [run_out (by simpa using h)]; exact ⟨hs, hp⟩
/-- so many steps, and then as many more -/
theorem run_split (l : List T7) : ∀ (a b : Nat) (s : Nat → Int) (pc : Int),
    ((runT l a s pc).2.2.2 = true ∨ (runT l a s pc).2.2.1 < a → runT l (a + b) s pc = runT l a s pc) ∧
    (¬ ((runT l a s pc).2.2.2 = true ∨ (runT l a s pc).2.2.1 < a) → runT l (a + b) s pc = plusK (runT l a s pc).2.2.1 (runT l b (runT l a s pc).1 (runT l a s pc).2.1))
  | 0, b, s, pc => by
    by_cases h : inL l pc = true
    · rw [run_zero h]
      refine ⟨fun hc => ?_, fun _ => ?_⟩
      · rcases hc with hc | hc
        · cases hc
        · exact absurd hc (by simp)
      · rw [Nat.zero_add]; rfl
    · have h' : inL l pc = false := by simpa using h
      rw [run_out h', run_out h']
      exact ⟨fun _ => rfl, fun hc => absurd (.inl rfl) hc⟩
  | a + 1, b, s, pc => by
    rw [show a + 1 + b = (a + b) + 1 by omega]
    by_cases h : inL l pc = true
    · cases hd : (doT s pc (four (l.getD (pc / 4).toNat default))).2.2 with
      | false =>
        rw [run_no h a hd, run_no h (a + b) hd]
        exact ⟨fun _ => rfl, fun hc => absurd (.inr (Nat.succ_pos _)) hc⟩
      | true =>
        rw [run_step h a hd, run_step h (a + b) hd]
        obtain ⟨h1, h2⟩ := run_split l a b (doT s pc (four (l.getD (pc / 4).toNat default))).1 (doT s pc (four (l.getD (pc / 4).toNat default))).2.1
        refine ⟨fun hc => ?_, fun hc => ?_⟩
        · rw [h1]
          unfold plusK at hc
          simp only at hc
          rcases hc with hc | hc
          · exact .inl hc
          · exact .inr (by omega)
        · rw [h2, plusK_plusK]
          · unfold plusK; simp only [Prod.mk.injEq, true_and, and_true]; omega
          · intro hc'
            apply hc
            unfold plusK
            simp only
            rcases hc' with hc' | hc'
            · exact .inl hc'
            · exact .inr (by omega)
    · have h' : inL l pc = false := by simpa using h
      rw [run_out h', run_out h']
      exact ⟨fun _ => rfl, fun hc => absurd (.inl rfl) hc⟩
end Go.Proofs.Ytajbfnihgonppaa.PA
