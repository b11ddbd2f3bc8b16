/- Contracts of the reference of package trap: the state, mode and pc behind a trap. -/
import Derived.Test.YtfdkmkblhicbfaaD
import Derived.StillTailTactics
import Derived.Deep.Cut
namespace Go.Proofs.Ytfdkmkblhicbfaa
set_option linter.all false
open Go.RowKit

theorem wpList_load_at {P : Program} {ops : Array Oper} {rest : List Oper} {o : Oper} {a : Act} {w : World} {Q : Exit → Act → World → Prop} (F : World → Prop) (hgd : o.guard = none) (ty : TypeId) (x : Operand) (ho : o.op = .load ty x) (g : Nat) (hx : a.eval x = .pointer (some ⟨g, 0, none⟩)) (t : TypeId) (cs : Array Value) (fr : Nat × Nat) (d : TypeDesc)
    (hF : F w) (hg : ∀ W, F W → W.heap[g]? = some (.cells cs t fr)) (hu : P.underlying ty = some d) (hd : (match d with | .struct _ | .array _ _ => true | _ => false) = true) (hi : (P.info? ty).map (·.size) = some cs.size)
    (h : ∀ W, F W → wpList P ops Q rest (a.put o.dst (.agg cs)) W) : wpList P ops Q (o :: rest) a w :=
  wpList_load_row hgd ty x ho g hx t cs fr d (hg w hF) hu hd hi (h w hF)
theorem cells_eq {w : World} {b : Nat} {x y : Nat → BitVec 64} (h : w.heap[b]? = some (.cells (stC x) 25)) (e : x = y) : w.heap[b]? = some (.cells (stC y) 25) := by rw [← e]; exact h
theorem perm_S0 (s : Nat → BitVec 64) (p c v m1 m2 m : BitVec 64) : upd (upd (upd (upd (upd (upd s 14 p) 15 c) 16 v) 1 m1) 1 m2) 1 m = upd (upd (upd (upd s 1 m) 16 v) 14 p) 15 c := by
  funext j; unfold upd
  by_cases h1 : j = 1 <;> by_cases h2 : j = 14 <;> by_cases h3 : j = 15 <;> by_cases h4 : j = 16 <;> simp [*] <;> omega
theorem perm_S1 (s : Nat → BitVec 64) (p c v v' m1 m2 m : BitVec 64) : upd (upd (upd (upd (upd (upd s 14 p) 15 c) 16 v) 1 m1) 1 m2) 1 m = upd (upd (upd (upd (upd s 1 m) 16 v') 16 v) 14 p) 15 c := by
  rw [perm_S0, upd_upd]
theorem perm_M0 (s : Nat → BitVec 64) (p c v m1 m2 m3 m m' : BitVec 64) (e : m = m') : upd (upd (upd (upd (upd (upd (upd s 8 p) 9 c) 10 v) 1 m1) 1 m2) 1 m3) 1 m = upd (upd (upd (upd s 1 m') 10 v) 8 p) 9 c := by
  subst e
  funext j; unfold upd
  by_cases h1 : j = 1 <;> by_cases h2 : j = 8 <;> by_cases h3 : j = 9 <;> by_cases h4 : j = 10 <;> simp [*] <;> omega
theorem perm_M1 (s : Nat → BitVec 64) (p c v v' m1 m2 m3 m m' : BitVec 64) (e : m = m') : upd (upd (upd (upd (upd (upd (upd s 8 p) 9 c) 10 v) 1 m1) 1 m2) 1 m3) 1 m = upd (upd (upd (upd (upd s 1 m') 10 v') 10 v) 8 p) 9 c := by
  rw [perm_M0 s p c v m1 m2 m3 m m' e, upd_upd]
theorem rm_cases (m : Int) (h0 : 0 ≤ m) : rm m = 0 ∨ rm m = 1 ∨ rm m = 3 := by unfold rm; split <;> omega
theorem one_shl (k i : Nat) (hi : i < 64) : (1#64 <<< k).getLsbD i = decide (i = k) := by
  have := BitVec.getLsbD_twoPow (w := 64) k i
  rw [BitVec.twoPow] at this
  rw [this]
  by_cases e : i = k
  · subst e; simp [hi]
  · have : ¬ k = i := fun h => e h.symm
    simp [e, this]
theorem with_set (n : BitVec 64) (k : Nat) (c : Bool) (hk : k < 64) : withB n k c = setB n (1#64 <<< k) c := by
  unfold withB setB
  apply bv_ext
  intro i hi
  have h1 := one_shl k i hi
  by_cases h : tb n k = c
  · rw [if_pos h]
    unfold tb at h
    by_cases e : i = k
    · subst e
      cases c
      · simp only [Bool.false_eq_true, if_false, BitVec.getLsbD_and, BitVec.getLsbD_not, h, Bool.false_and]
      · simp only [if_true, BitVec.getLsbD_or, h, Bool.true_or]
    · cases c
      · simp only [Bool.false_eq_true, if_false, BitVec.getLsbD_and, BitVec.getLsbD_not, h1, e, hi, decide_true, decide_false, Bool.not_false, Bool.and_true]
      · simp only [if_true, BitVec.getLsbD_or, h1, e, decide_false, Bool.or_false]
  · rw [if_neg h]
    unfold tb at h
    by_cases e : i = k
    · subst e
      cases c
      · simp only [Bool.not_eq_false] at h
        simp only [Bool.false_eq_true, if_false, BitVec.getLsbD_and, BitVec.getLsbD_not, BitVec.getLsbD_xor, h, h1, hi]; simp
      · simp only [Bool.not_eq_true] at h
        simp only [if_true, BitVec.getLsbD_or, BitVec.getLsbD_xor, h, h1]; simp
    · cases c
      · simp only [Bool.false_eq_true, if_false, BitVec.getLsbD_and, BitVec.getLsbD_not, BitVec.getLsbD_xor, h1, e, hi, decide_true, decide_false, Bool.not_false, Bool.and_true, Bool.xor_false]
      · simp only [if_true, BitVec.getLsbD_or, BitVec.getLsbD_xor, h1, e, decide_false, Bool.or_false, Bool.xor_false]
theorem region_still_tail {P : Program} {id : Nat} {Q : Exit → Act → World → Prop} {a : Act} {w : World} {l : List Oper} (n : Nat) (hm : P.follows .mixedOrders = true) (hB : Region.lexTailB .any l.toArray n = true)
    (h : wpStill P l.toArray w.drew (fun a' => wpList P l.toArray Q (l.drop n) a' w.drew) (l.take n) a) : (Code.region id l.toArray true).wp P Q a w := wp_region_still_tail n hm hB h
theorem with1 (n : BitVec 64) (c : Bool) (w : World) : Calls Try.prog 36 #[.int .u64 (U n), .int .i64 1, .bool c] w fun e w' => e = .returned (.int .u64 (U (setB n 2#64 c))) ∧ w = w' := by
  have := with_any n 1 c w (by decide) (by decide)
  rwa [with_set _ _ _ (by decide)] at this
theorem with3 (n : BitVec 64) (c : Bool) (w : World) : Calls Try.prog 36 #[.int .u64 (U n), .int .i64 3, .bool c] w fun e w' => e = .returned (.int .u64 (U (setB n 8#64 c))) ∧ w = w' := by
  have := with_any n 3 c w (by decide) (by decide)
  rwa [with_set _ _ _ (by decide)] at this
theorem with5 (n : BitVec 64) (c : Bool) (w : World) : Calls Try.prog 36 #[.int .u64 (U n), .int .i64 5, .bool c] w fun e w' => e = .returned (.int .u64 (U (setB n 32#64 c))) ∧ w = w' := by
  have := with_any n 5 c w (by decide) (by decide)
  rwa [with_set _ _ _ (by decide)] at this
theorem with7 (n : BitVec 64) (c : Bool) (w : World) : Calls Try.prog 36 #[.int .u64 (U n), .int .i64 7, .bool c] w fun e w' => e = .returned (.int .u64 (U (setB n 128#64 c))) ∧ w = w' := by
  have := with_any n 7 c w (by decide) (by decide)
  rwa [with_set _ _ _ (by decide)] at this
theorem with8 (n : BitVec 64) (c : Bool) (w : World) : Calls Try.prog 36 #[.int .u64 (U n), .int .i64 8, .bool c] w fun e w' => e = .returned (.int .u64 (U (setB n 256#64 c))) ∧ w = w' := by
  have := with_any n 8 c w (by decide) (by decide)
  rwa [with_set _ _ _ (by decide)] at this
theorem with11 (n : BitVec 64) (c : Bool) (w : World) : Calls Try.prog 36 #[.int .u64 (U n), .int .i64 11, .bool c] w fun e w' => e = .returned (.int .u64 (U (setB n 2048#64 c))) ∧ w = w' := by
  have := with_any n 11 c w (by decide) (by decide)
  rwa [with_set _ _ _ (by decide)] at this
theorem with12 (n : BitVec 64) (c : Bool) (w : World) : Calls Try.prog 36 #[.int .u64 (U n), .int .i64 12, .bool c] w fun e w' => e = .returned (.int .u64 (U (setB n 4096#64 c))) ∧ w = w' := by
  have := with_any n 12 c w (by decide) (by decide)
  rwa [with_set _ _ _ (by decide)] at this
theorem with17 (n : BitVec 64) (c : Bool) (w : World) : Calls Try.prog 36 #[.int .u64 (U n), .int .i64 17, .bool c] w fun e w' => e = .returned (.int .u64 (U (setB n 131072#64 c))) ∧ w = w' := by
  have := with_any n 17 c w (by decide) (by decide)
  rwa [with_set _ _ _ (by decide)] at this
theorem bit1 (n : BitVec 64) (w : World) : Calls Try.prog 29 #[.int .u64 (U n), .int .i64 1] w fun e w' => e = .returned (.bool (tb n 1)) ∧ w = w' := bit_any n 1 w (by decide)
theorem bit3 (n : BitVec 64) (w : World) : Calls Try.prog 29 #[.int .u64 (U n), .int .i64 3] w fun e w' => e = .returned (.bool (tb n 3)) ∧ w = w' := bit_any n 3 w (by decide)
theorem bit5 (n : BitVec 64) (w : World) : Calls Try.prog 29 #[.int .u64 (U n), .int .i64 5] w fun e w' => e = .returned (.bool (tb n 5)) ∧ w = w' := bit_any n 5 w (by decide)
theorem bit7 (n : BitVec 64) (w : World) : Calls Try.prog 29 #[.int .u64 (U n), .int .i64 7] w fun e w' => e = .returned (.bool (tb n 7)) ∧ w = w' := bit_any n 7 w (by decide)
theorem bit8 (n : BitVec 64) (w : World) : Calls Try.prog 29 #[.int .u64 (U n), .int .i64 8] w fun e w' => e = .returned (.bool (tb n 8)) ∧ w = w' := bit_any n 8 w (by decide)

theorem back {P : Program} {f : FuncId} {args : Array Value} {w : World} {v : Value} (h : Calls P f args w fun e w' => e = .returned v ∧ w = w') : Calls P f args w fun e w' => e = .returned v ∧ w' = w := h.mono fun _ _ ⟨h1, h2⟩ => ⟨h1, h2.symm⟩
@[go_sem] theorem stC_set0 (s : Nat → BitVec 64) (i : Nat) : (stC s).setIfInBounds i (.int .u64 0) = stC (upd s i 0#64) := stC_set s i 0#64
theorem even_of (x : BitVec 64) : x - (x &&& 1#64) = x &&& ~~~1#64 := by
  have h : x = (x &&& ~~~1#64) + (x &&& 1#64) := by
    rw [BitVec.add_eq_or_of_and_eq_zero]
    · apply bv_ext; intro i hi; simp only [BitVec.getLsbD_or, BitVec.getLsbD_and, BitVec.getLsbD_not]; cases x.getLsbD i <;> simp [hi]
    · apply bv_ext; intro i hi; simp only [BitVec.getLsbD_and, BitVec.getLsbD_not, BitVec.getLsbD_zero]; cases x.getLsbD i <;> simp [hi]
  rw [BitVec.sub_eq_iff_eq_add]; exact h
theorem four_of (x : BitVec 64) : x - (x &&& 3#64) = x &&& ~~~3#64 := by
  have h : x = (x &&& ~~~3#64) + (x &&& 3#64) := by
    rw [BitVec.add_eq_or_of_and_eq_zero]
    · apply bv_ext; intro i hi; simp only [BitVec.getLsbD_or, BitVec.getLsbD_and, BitVec.getLsbD_not]; cases x.getLsbD i <;> simp [hi]
    · apply bv_ext; intro i hi; simp only [BitVec.getLsbD_and, BitVec.getLsbD_not, BitVec.getLsbD_zero]; cases x.getLsbD i <;> simp [hi]
  rw [BitVec.sub_eq_iff_eq_add]; exact h
theorem rem2 (x : BitVec 64) : U x % 2 = U (x &&& 1#64) := by
  unfold U
  rw [BitVec.toNat_and]
  show _ = ((x.toNat &&& 1 : Nat) : Int)
  rw [Nat.and_one_is_mod]
  omega
theorem rem4 (x : BitVec 64) : U x % 4 = U (x &&& 3#64) := by
  unfold U
  rw [BitVec.toNat_and]
  show _ = ((x.toNat &&& (2 ^ 2 - 1) : Nat) : Int)
  rw [Nat.and_two_pow_sub_one_eq_mod]
  omega
theorem bit0_eq (x : BitVec 64) : (U (x &&& 1#64) == 1) = tb x 0 := bv_bit_eq x 0
theorem top_of (c : BitVec 64) (hc : U c < 256) : IntKind.u64.wrap (U c + 9223372036854775808) = U (c ||| 9223372036854775808#64) := by
  have e : c ||| 9223372036854775808#64 = c + 9223372036854775808#64 := by
    rw [BitVec.add_eq_or_of_and_eq_zero]
    apply BitVec.eq_of_toNat_eq
    rw [BitVec.toNat_and]
    unfold U at hc
    show c.toNat &&& 2 ^ 63 = 0
    apply Nat.eq_of_testBit_eq
    intro i
    rw [Nat.testBit_and, Nat.testBit_two_pow, Nat.zero_testBit]
    by_cases e : 63 = i
    · subst e
      have : c.toNat.testBit 63 = false := Nat.testBit_lt_two_pow (by omega)
      rw [this]; rfl
    · simp [e]
  rw [e]
  exact bv_wadd c 9223372036854775808#64
theorem mm_0 (x : BitVec 64) : setB (setB (setB x 8#64 false) 2048#64 false) 4096#64 false = x &&& ~~~6152#64 := by
  have key : ∀ i, i < 64 → ∀ b : Bool, ((b && !(8#64).getLsbD i && !(2048#64).getLsbD i) && !(4096#64).getLsbD i) = (b && !(6152#64).getLsbD i) := by decide
  apply bv_ext; intro i hi
  have := key i hi (x.getLsbD i)
  simp only [setB, if_true, Bool.false_eq_true, if_false, BitVec.getLsbD_and, BitVec.getLsbD_or, BitVec.getLsbD_not, hi, decide_true, Bool.true_and]
  exact this
theorem mm_1 (x : BitVec 64) : setB (setB (setB x 8#64 false) 2048#64 true) 4096#64 false = x &&& ~~~6152#64 ||| 2048#64 := by
  have key : ∀ i, i < 64 → ∀ b : Bool, ((b && !(8#64).getLsbD i || (2048#64).getLsbD i) && !(4096#64).getLsbD i) = (b && !(6152#64).getLsbD i || (2048#64).getLsbD i) := by decide
  apply bv_ext; intro i hi
  have := key i hi (x.getLsbD i)
  simp only [setB, if_true, Bool.false_eq_true, if_false, BitVec.getLsbD_and, BitVec.getLsbD_or, BitVec.getLsbD_not, hi, decide_true, Bool.true_and]
  exact this
theorem mm_3 (x : BitVec 64) : setB (setB (setB x 8#64 false) 2048#64 true) 4096#64 true = x &&& ~~~6152#64 ||| 6144#64 := by
  have key : ∀ i, i < 64 → ∀ b : Bool, ((b && !(8#64).getLsbD i || (2048#64).getLsbD i) || (4096#64).getLsbD i) = (b && !(6152#64).getLsbD i || (6144#64).getLsbD i) := by decide
  apply bv_ext; intro i hi
  have := key i hi (x.getLsbD i)
  simp only [setB, if_true, Bool.false_eq_true, if_false, BitVec.getLsbD_and, BitVec.getLsbD_or, BitVec.getLsbD_not, hi, decide_true, Bool.true_and]
  exact this

set_option maxRecDepth 100000 in
set_option maxHeartbeats 4000000 in
theorem ref_0Siv (s : Nat → BitVec 64) (m : Int) (pc c tv : BitVec 64) (w : World) (h0 : 0 ≤ m) (hrm : rm m = 0) (hc : U c < 256) (hd : tb (s 6) (U c).toNat = true) (hv : tb (s 13) 0 = true) :
    Calls Try.prog 16 #[.agg (stC s), .int .u8 m, .int .u64 (U pc), .int .u8 (U c), .bool true, .int .u64 (U tv)] w fun e w' => e = .returned (.tuple #[.agg (stC (ent s 14 15 16 (setB (setB (s 1) 32#64 (tb (s 1) 1) &&& ~~~2#64) 256#64 false) pc c true tv)), .int .u8 1, .int .u64 (U ((s 13 &&& ~~~3#64) + BitVec.ofInt 64 (4 * U c)))]) ∧ Fr [] w w' := by
  have hc0 := (U_bd c).1
  have hpc := (U_bd pc).1
  have hve := (U_bd (s 13)).1
  have r2 := rem2
  have r4 := rem4
  have e2 := even_of
  have e4 := four_of
  have b0 := bit0_eq
  have tp := top_of c hc
  have ha := hid (add_mul4 (s 13 &&& ~~~3#64) (U c) hc0 hc)
  have hw : 4 * U c % 18446744073709551616 = 4 * U c := Int.emod_eq_of_lt (by omega) (by omega)
  have Hrm := hid hrm
  clear hrm
  have hi31 : (Try.prog.info? 25).map (·.size) = some (stC (ent s 14 15 16 (setB (setB (s 1) 32#64 (tb (s 1) 1) &&& ~~~2#64) 256#64 false) pc c true tv)).size := by rw [size25]; rfl
  go_enter Try.func16, Try.ntmps16
  go_wp2_with (first | (go_at_call 35; refine (mode_any m _ h0).mono ?_; rintro e w' ⟨rfl, rfl⟩; rw [Hrm.out]) | (go_at_call 29; refine (bit_any _ (U c) _ hc0).mono ?_; rintro e w' ⟨rfl, rfl⟩))
  refine region_still_tail 7 (by kernel_rfl) (by kernel_rfl) ?_
  simp only [List.take_succ_cons, List.take_zero, List.drop_succ_cons, List.drop_zero]
  repeat still_step
  still_call (back (bit1 _ _))
  repeat still_step
  still_call (back (with5 _ _ _))
  repeat still_step
  refine wpStill_nil ?_
  go_upto_region 26 with (first | (go_at_call 36; ((with_reducible refine (with1 _ _ _).mono ?_); rintro e w' ⟨rfl, rfl⟩)) | (go_at_call 36; ((with_reducible refine (with8 _ _ _).mono ?_); rintro e w' ⟨rfl, rfl⟩)))
  refine world_at (fun W => W.heap[w.heap.size]? = some (.cells (stC (ent s 14 15 16 (setB (setB (s 1) 32#64 (tb (s 1) 1) &&& ~~~2#64) 256#64 false) pc c true tv)) 25) ∧ (∃ z : Array Value, W.heap[w.heap.size + 1]? = some (.cells z 25) ∧ z.size = 31) ∧ Fr [] w W) ⟨cells_eq (blk_alloc (blk_new _ _) _) (perm_S1 _ _ _ _ _ _ _ _ ), ⟨_, blk_new' (by simp) _, rfl⟩, (((Fr.refl _ _).alloc _).alloc _).drew⟩ ?_
  rintro W ⟨hS, ⟨z, hz, hz1⟩, hfr⟩
  have HS := hid hS
  have Hz := hid hz
  clear hS hz
  go_upto_region 29 with (fail)
  go_wp2_with (first | (refine wpList_load_row rfl 25 _ rfl w.heap.size rfl 25 (stC (ent s 14 15 16 (setB (setB (s 1) 32#64 (tb (s 1) 1) &&& ~~~2#64) 256#64 false) pc c true tv)) (0, 0) _ HS.out Try.underlying25 rfl hi31 ?_) | (refine wpList_store_whole rfl 25 _ _ rfl (w.heap.size + 1) rfl (stC (ent s 14 15 16 (setB (setB (s 1) 32#64 (tb (s 1) 1) &&& ~~~2#64) 256#64 false) pc c true tv)) rfl 25 z Hz.out (by rw [hz1]; rfl) hi31 (oneCell_stC _) ?_; intro w5 h5 hfr5))
  exact ⟨rfl, _, results_ctt rfl rfl h5 Try.underlying25 rfl hi31, congrArg (fun x => Ending.returned (.tuple #[.agg (stC (ent s 14 15 16 (setB (setB (s 1) 32#64 (tb (s 1) 1) &&& ~~~2#64) 256#64 false) pc c true tv)), .int .u8 1, .int .u64 x])) ha.out, hfr.step hfr5 (fun j hj => .inr (by simp at hj; omega))⟩

set_option maxRecDepth 100000 in
set_option maxHeartbeats 4000000 in
theorem ref_0Sin (s : Nat → BitVec 64) (m : Int) (pc c tv : BitVec 64) (w : World) (h0 : 0 ≤ m) (hrm : rm m = 0) (hc : U c < 256) (hd : tb (s 6) (U c).toNat = true) (hv : tb (s 13) 0 = false) :
    Calls Try.prog 16 #[.agg (stC s), .int .u8 m, .int .u64 (U pc), .int .u8 (U c), .bool true, .int .u64 (U tv)] w fun e w' => e = .returned (.tuple #[.agg (stC (ent s 14 15 16 (setB (setB (s 1) 32#64 (tb (s 1) 1) &&& ~~~2#64) 256#64 false) pc c true tv)), .int .u8 1, .int .u64 (U (s 13 &&& ~~~3#64))]) ∧ Fr [] w w' := by
  have hc0 := (U_bd c).1
  have hpc := (U_bd pc).1
  have hve := (U_bd (s 13)).1
  have r2 := rem2
  have r4 := rem4
  have e2 := even_of
  have e4 := four_of
  have b0 := bit0_eq
  have tp := top_of c hc


  have Hrm := hid hrm
  clear hrm
  have hi31 : (Try.prog.info? 25).map (·.size) = some (stC (ent s 14 15 16 (setB (setB (s 1) 32#64 (tb (s 1) 1) &&& ~~~2#64) 256#64 false) pc c true tv)).size := by rw [size25]; rfl
  go_enter Try.func16, Try.ntmps16
  go_wp2_with (first | (go_at_call 35; refine (mode_any m _ h0).mono ?_; rintro e w' ⟨rfl, rfl⟩; rw [Hrm.out]) | (go_at_call 29; refine (bit_any _ (U c) _ hc0).mono ?_; rintro e w' ⟨rfl, rfl⟩))
  refine region_still_tail 7 (by kernel_rfl) (by kernel_rfl) ?_
  simp only [List.take_succ_cons, List.take_zero, List.drop_succ_cons, List.drop_zero]
  repeat still_step
  still_call (back (bit1 _ _))
  repeat still_step
  still_call (back (with5 _ _ _))
  repeat still_step
  refine wpStill_nil ?_
  go_upto_region 26 with (first | (go_at_call 36; ((with_reducible refine (with1 _ _ _).mono ?_); rintro e w' ⟨rfl, rfl⟩)) | (go_at_call 36; ((with_reducible refine (with8 _ _ _).mono ?_); rintro e w' ⟨rfl, rfl⟩)))
  refine world_at (fun W => W.heap[w.heap.size]? = some (.cells (stC (ent s 14 15 16 (setB (setB (s 1) 32#64 (tb (s 1) 1) &&& ~~~2#64) 256#64 false) pc c true tv)) 25) ∧ (∃ z : Array Value, W.heap[w.heap.size + 1]? = some (.cells z 25) ∧ z.size = 31) ∧ Fr [] w W) ⟨cells_eq (blk_alloc (blk_new _ _) _) (perm_S1 _ _ _ _ _ _ _ _ ), ⟨_, blk_new' (by simp) _, rfl⟩, (((Fr.refl _ _).alloc _).alloc _).drew⟩ ?_
  rintro W ⟨hS, ⟨z, hz, hz1⟩, hfr⟩
  have HS := hid hS
  have Hz := hid hz
  clear hS hz
  go_upto_region 29 with (fail)
  go_wp2_with (first | (refine wpList_load_row rfl 25 _ rfl w.heap.size rfl 25 (stC (ent s 14 15 16 (setB (setB (s 1) 32#64 (tb (s 1) 1) &&& ~~~2#64) 256#64 false) pc c true tv)) (0, 0) _ HS.out Try.underlying25 rfl hi31 ?_) | (refine wpList_store_whole rfl 25 _ _ rfl (w.heap.size + 1) rfl (stC (ent s 14 15 16 (setB (setB (s 1) 32#64 (tb (s 1) 1) &&& ~~~2#64) 256#64 false) pc c true tv)) rfl 25 z Hz.out (by rw [hz1]; rfl) hi31 (oneCell_stC _) ?_; intro w5 h5 hfr5))
  exact ⟨rfl, _, results_ctt rfl rfl h5 Try.underlying25 rfl hi31, rfl, hfr.step hfr5 (fun j hj => .inr (by simp at hj; omega))⟩

set_option maxRecDepth 100000 in
set_option maxHeartbeats 4000000 in
theorem ref_0Sx (s : Nat → BitVec 64) (m : Int) (pc c tv : BitVec 64) (w : World) (h0 : 0 ≤ m) (hrm : rm m = 0) (hc : U c < 256) (hd : tb (s 5) (U c).toNat = true) :
    Calls Try.prog 16 #[.agg (stC s), .int .u8 m, .int .u64 (U pc), .int .u8 (U c), .bool false, .int .u64 (U tv)] w fun e w' => e = .returned (.tuple #[.agg (stC (ent s 14 15 16 (setB (setB (s 1) 32#64 (tb (s 1) 1) &&& ~~~2#64) 256#64 false) pc c false tv)), .int .u8 1, .int .u64 (U (s 13 &&& ~~~3#64))]) ∧ Fr [] w w' := by
  have hc0 := (U_bd c).1
  have hpc := (U_bd pc).1
  have hve := (U_bd (s 13)).1
  have r2 := rem2
  have r4 := rem4
  have e2 := even_of
  have e4 := four_of
  have b0 := bit0_eq
  have tp := top_of c hc


  have Hrm := hid hrm
  clear hrm
  have hi31 : (Try.prog.info? 25).map (·.size) = some (stC (ent s 14 15 16 (setB (setB (s 1) 32#64 (tb (s 1) 1) &&& ~~~2#64) 256#64 false) pc c false tv)).size := by rw [size25]; rfl
  go_enter Try.func16, Try.ntmps16
  go_wp2_with (first | (go_at_call 35; refine (mode_any m _ h0).mono ?_; rintro e w' ⟨rfl, rfl⟩; rw [Hrm.out]) | (go_at_call 29; refine (bit_any _ (U c) _ hc0).mono ?_; rintro e w' ⟨rfl, rfl⟩))
  refine region_still_tail 7 (by kernel_rfl) (by kernel_rfl) ?_
  simp only [List.take_succ_cons, List.take_zero, List.drop_succ_cons, List.drop_zero]
  repeat still_step
  still_call (back (bit1 _ _))
  repeat still_step
  still_call (back (with5 _ _ _))
  repeat still_step
  refine wpStill_nil ?_
  go_upto_region 26 with (first | (go_at_call 36; ((with_reducible refine (with1 _ _ _).mono ?_); rintro e w' ⟨rfl, rfl⟩)) | (go_at_call 36; ((with_reducible refine (with8 _ _ _).mono ?_); rintro e w' ⟨rfl, rfl⟩)))
  refine world_at (fun W => W.heap[w.heap.size]? = some (.cells (stC (ent s 14 15 16 (setB (setB (s 1) 32#64 (tb (s 1) 1) &&& ~~~2#64) 256#64 false) pc c false tv)) 25) ∧ (∃ z : Array Value, W.heap[w.heap.size + 1]? = some (.cells z 25) ∧ z.size = 31) ∧ Fr [] w W) ⟨cells_eq (blk_alloc (blk_new _ _) _) (perm_S0 _ _ _ _ _ _ _ ), ⟨_, blk_new' (by simp) _, rfl⟩, (((Fr.refl _ _).alloc _).alloc _).drew⟩ ?_
  rintro W ⟨hS, ⟨z, hz, hz1⟩, hfr⟩
  have HS := hid hS
  have Hz := hid hz
  clear hS hz
  go_upto_region 29 with (fail)
  go_wp2_with (first | (refine wpList_load_row rfl 25 _ rfl w.heap.size rfl 25 (stC (ent s 14 15 16 (setB (setB (s 1) 32#64 (tb (s 1) 1) &&& ~~~2#64) 256#64 false) pc c false tv)) (0, 0) _ HS.out Try.underlying25 rfl hi31 ?_) | (refine wpList_store_whole rfl 25 _ _ rfl (w.heap.size + 1) rfl (stC (ent s 14 15 16 (setB (setB (s 1) 32#64 (tb (s 1) 1) &&& ~~~2#64) 256#64 false) pc c false tv)) rfl 25 z Hz.out (by rw [hz1]; rfl) hi31 (oneCell_stC _) ?_; intro w5 h5 hfr5))
  exact ⟨rfl, _, results_ctt rfl rfl h5 Try.underlying25 rfl hi31, rfl, hfr.step hfr5 (fun j hj => .inr (by simp at hj; omega))⟩

set_option maxRecDepth 100000 in
set_option maxHeartbeats 4000000 in
theorem ref_0Miv (s : Nat → BitVec 64) (m : Int) (pc c tv : BitVec 64) (w : World) (h0 : 0 ≤ m) (hrm : rm m = 0) (hc : U c < 256) (hd : tb (s 6) (U c).toNat = false) (hv : tb (s 7) 0 = true) :
    Calls Try.prog 16 #[.agg (stC s), .int .u8 m, .int .u64 (U pc), .int .u8 (U c), .bool true, .int .u64 (U tv)] w fun e w' => e = .returned (.tuple #[.agg (stC (ent s 8 9 10 (setB (s 1) 128#64 (tb (s 1) 3) &&& ~~~6152#64) pc c true tv)), .int .u8 3, .int .u64 (U ((s 7 &&& ~~~3#64) + BitVec.ofInt 64 (4 * U c)))]) ∧ Fr [] w w' := by
  have hc0 := (U_bd c).1
  have hpc := (U_bd pc).1
  have hve := (U_bd (s 7)).1
  have r2 := rem2
  have r4 := rem4
  have e2 := even_of
  have e4 := four_of
  have b0 := bit0_eq
  have tp := top_of c hc
  have ha := hid (add_mul4 (s 7 &&& ~~~3#64) (U c) hc0 hc)
  have hw : 4 * U c % 18446744073709551616 = 4 * U c := Int.emod_eq_of_lt (by omega) (by omega)
  have Hrm := hid hrm
  clear hrm
  have hi31 : (Try.prog.info? 25).map (·.size) = some (stC (ent s 8 9 10 (setB (s 1) 128#64 (tb (s 1) 3) &&& ~~~6152#64) pc c true tv)).size := by rw [size25]; rfl
  go_enter Try.func16, Try.ntmps16
  go_wp2_with (first | (go_at_call 35; refine (mode_any m _ h0).mono ?_; rintro e w' ⟨rfl, rfl⟩; rw [Hrm.out]) | (go_at_call 29; refine (bit_any _ (U c) _ hc0).mono ?_; rintro e w' ⟨rfl, rfl⟩))
  refine region_still_tail 7 (by kernel_rfl) (by kernel_rfl) ?_
  simp only [List.take_succ_cons, List.take_zero, List.drop_succ_cons, List.drop_zero]
  repeat still_step
  still_call (back (bit3 _ _))
  repeat still_step
  still_call (back (with7 _ _ _))
  repeat still_step
  refine wpStill_nil ?_
  go_upto_region 26 with (first | (go_at_call 36; ((with_reducible refine (with3 _ _ _).mono ?_); rintro e w' ⟨rfl, rfl⟩)) | (go_at_call 36; ((with_reducible refine (with11 _ _ _).mono ?_); rintro e w' ⟨rfl, rfl⟩)) | (go_at_call 36; ((with_reducible refine (with12 _ _ _).mono ?_); rintro e w' ⟨rfl, rfl⟩)))
  refine world_at (fun W => W.heap[w.heap.size]? = some (.cells (stC (ent s 8 9 10 (setB (s 1) 128#64 (tb (s 1) 3) &&& ~~~6152#64) pc c true tv)) 25) ∧ (∃ z : Array Value, W.heap[w.heap.size + 1]? = some (.cells z 25) ∧ z.size = 31) ∧ Fr [] w W) ⟨cells_eq (blk_alloc (blk_new _ _) _) (perm_M1 _ _ _ _ _ _ _ _ _ _ (by first | rfl | exact mm_0 _)), ⟨_, blk_new' (by simp) _, rfl⟩, (((Fr.refl _ _).alloc _).alloc _).drew⟩ ?_
  rintro W ⟨hS, ⟨z, hz, hz1⟩, hfr⟩
  have HS := hid hS
  have Hz := hid hz
  clear hS hz
  go_upto_region 29 with (fail)
  go_wp2_with (first | (refine wpList_load_row rfl 25 _ rfl w.heap.size rfl 25 (stC (ent s 8 9 10 (setB (s 1) 128#64 (tb (s 1) 3) &&& ~~~6152#64) pc c true tv)) (0, 0) _ HS.out Try.underlying25 rfl hi31 ?_) | (refine wpList_store_whole rfl 25 _ _ rfl (w.heap.size + 1) rfl (stC (ent s 8 9 10 (setB (s 1) 128#64 (tb (s 1) 3) &&& ~~~6152#64) pc c true tv)) rfl 25 z Hz.out (by rw [hz1]; rfl) hi31 (oneCell_stC _) ?_; intro w5 h5 hfr5))
  exact ⟨rfl, _, results_ctt rfl rfl h5 Try.underlying25 rfl hi31, congrArg (fun x => Ending.returned (.tuple #[.agg (stC (ent s 8 9 10 (setB (s 1) 128#64 (tb (s 1) 3) &&& ~~~6152#64) pc c true tv)), .int .u8 3, .int .u64 x])) ha.out, hfr.step hfr5 (fun j hj => .inr (by simp at hj; omega))⟩

set_option maxRecDepth 100000 in
set_option maxHeartbeats 4000000 in
theorem ref_0Min (s : Nat → BitVec 64) (m : Int) (pc c tv : BitVec 64) (w : World) (h0 : 0 ≤ m) (hrm : rm m = 0) (hc : U c < 256) (hd : tb (s 6) (U c).toNat = false) (hv : tb (s 7) 0 = false) :
    Calls Try.prog 16 #[.agg (stC s), .int .u8 m, .int .u64 (U pc), .int .u8 (U c), .bool true, .int .u64 (U tv)] w fun e w' => e = .returned (.tuple #[.agg (stC (ent s 8 9 10 (setB (s 1) 128#64 (tb (s 1) 3) &&& ~~~6152#64) pc c true tv)), .int .u8 3, .int .u64 (U (s 7 &&& ~~~3#64))]) ∧ Fr [] w w' := by
  have hc0 := (U_bd c).1
  have hpc := (U_bd pc).1
  have hve := (U_bd (s 7)).1
  have r2 := rem2
  have r4 := rem4
  have e2 := even_of
  have e4 := four_of
  have b0 := bit0_eq
  have tp := top_of c hc


  have Hrm := hid hrm
  clear hrm
  have hi31 : (Try.prog.info? 25).map (·.size) = some (stC (ent s 8 9 10 (setB (s 1) 128#64 (tb (s 1) 3) &&& ~~~6152#64) pc c true tv)).size := by rw [size25]; rfl
  go_enter Try.func16, Try.ntmps16
  go_wp2_with (first | (go_at_call 35; refine (mode_any m _ h0).mono ?_; rintro e w' ⟨rfl, rfl⟩; rw [Hrm.out]) | (go_at_call 29; refine (bit_any _ (U c) _ hc0).mono ?_; rintro e w' ⟨rfl, rfl⟩))
  refine region_still_tail 7 (by kernel_rfl) (by kernel_rfl) ?_
  simp only [List.take_succ_cons, List.take_zero, List.drop_succ_cons, List.drop_zero]
  repeat still_step
  still_call (back (bit3 _ _))
  repeat still_step
  still_call (back (with7 _ _ _))
  repeat still_step
  refine wpStill_nil ?_
  go_upto_region 26 with (first | (go_at_call 36; ((with_reducible refine (with3 _ _ _).mono ?_); rintro e w' ⟨rfl, rfl⟩)) | (go_at_call 36; ((with_reducible refine (with11 _ _ _).mono ?_); rintro e w' ⟨rfl, rfl⟩)) | (go_at_call 36; ((with_reducible refine (with12 _ _ _).mono ?_); rintro e w' ⟨rfl, rfl⟩)))
  refine world_at (fun W => W.heap[w.heap.size]? = some (.cells (stC (ent s 8 9 10 (setB (s 1) 128#64 (tb (s 1) 3) &&& ~~~6152#64) pc c true tv)) 25) ∧ (∃ z : Array Value, W.heap[w.heap.size + 1]? = some (.cells z 25) ∧ z.size = 31) ∧ Fr [] w W) ⟨cells_eq (blk_alloc (blk_new _ _) _) (perm_M1 _ _ _ _ _ _ _ _ _ _ (by first | rfl | exact mm_0 _)), ⟨_, blk_new' (by simp) _, rfl⟩, (((Fr.refl _ _).alloc _).alloc _).drew⟩ ?_
  rintro W ⟨hS, ⟨z, hz, hz1⟩, hfr⟩
  have HS := hid hS
  have Hz := hid hz
  clear hS hz
  go_upto_region 29 with (fail)
  go_wp2_with (first | (refine wpList_load_row rfl 25 _ rfl w.heap.size rfl 25 (stC (ent s 8 9 10 (setB (s 1) 128#64 (tb (s 1) 3) &&& ~~~6152#64) pc c true tv)) (0, 0) _ HS.out Try.underlying25 rfl hi31 ?_) | (refine wpList_store_whole rfl 25 _ _ rfl (w.heap.size + 1) rfl (stC (ent s 8 9 10 (setB (s 1) 128#64 (tb (s 1) 3) &&& ~~~6152#64) pc c true tv)) rfl 25 z Hz.out (by rw [hz1]; rfl) hi31 (oneCell_stC _) ?_; intro w5 h5 hfr5))
  exact ⟨rfl, _, results_ctt rfl rfl h5 Try.underlying25 rfl hi31, rfl, hfr.step hfr5 (fun j hj => .inr (by simp at hj; omega))⟩

set_option maxRecDepth 100000 in
set_option maxHeartbeats 4000000 in
theorem ref_0Mx (s : Nat → BitVec 64) (m : Int) (pc c tv : BitVec 64) (w : World) (h0 : 0 ≤ m) (hrm : rm m = 0) (hc : U c < 256) (hd : tb (s 5) (U c).toNat = false) :
    Calls Try.prog 16 #[.agg (stC s), .int .u8 m, .int .u64 (U pc), .int .u8 (U c), .bool false, .int .u64 (U tv)] w fun e w' => e = .returned (.tuple #[.agg (stC (ent s 8 9 10 (setB (s 1) 128#64 (tb (s 1) 3) &&& ~~~6152#64) pc c false tv)), .int .u8 3, .int .u64 (U (s 7 &&& ~~~3#64))]) ∧ Fr [] w w' := by
  have hc0 := (U_bd c).1
  have hpc := (U_bd pc).1
  have hve := (U_bd (s 7)).1
  have r2 := rem2
  have r4 := rem4
  have e2 := even_of
  have e4 := four_of
  have b0 := bit0_eq
  have tp := top_of c hc


  have Hrm := hid hrm
  clear hrm
  have hi31 : (Try.prog.info? 25).map (·.size) = some (stC (ent s 8 9 10 (setB (s 1) 128#64 (tb (s 1) 3) &&& ~~~6152#64) pc c false tv)).size := by rw [size25]; rfl
  go_enter Try.func16, Try.ntmps16
  go_wp2_with (first | (go_at_call 35; refine (mode_any m _ h0).mono ?_; rintro e w' ⟨rfl, rfl⟩; rw [Hrm.out]) | (go_at_call 29; refine (bit_any _ (U c) _ hc0).mono ?_; rintro e w' ⟨rfl, rfl⟩))
  refine region_still_tail 7 (by kernel_rfl) (by kernel_rfl) ?_
  simp only [List.take_succ_cons, List.take_zero, List.drop_succ_cons, List.drop_zero]
  repeat still_step
  still_call (back (bit3 _ _))
  repeat still_step
  still_call (back (with7 _ _ _))
  repeat still_step
  refine wpStill_nil ?_
  go_upto_region 26 with (first | (go_at_call 36; ((with_reducible refine (with3 _ _ _).mono ?_); rintro e w' ⟨rfl, rfl⟩)) | (go_at_call 36; ((with_reducible refine (with11 _ _ _).mono ?_); rintro e w' ⟨rfl, rfl⟩)) | (go_at_call 36; ((with_reducible refine (with12 _ _ _).mono ?_); rintro e w' ⟨rfl, rfl⟩)))
  refine world_at (fun W => W.heap[w.heap.size]? = some (.cells (stC (ent s 8 9 10 (setB (s 1) 128#64 (tb (s 1) 3) &&& ~~~6152#64) pc c false tv)) 25) ∧ (∃ z : Array Value, W.heap[w.heap.size + 1]? = some (.cells z 25) ∧ z.size = 31) ∧ Fr [] w W) ⟨cells_eq (blk_alloc (blk_new _ _) _) (perm_M0 _ _ _ _ _ _ _ _ _ (by first | rfl | exact mm_0 _)), ⟨_, blk_new' (by simp) _, rfl⟩, (((Fr.refl _ _).alloc _).alloc _).drew⟩ ?_
  rintro W ⟨hS, ⟨z, hz, hz1⟩, hfr⟩
  have HS := hid hS
  have Hz := hid hz
  clear hS hz
  go_upto_region 29 with (fail)
  go_wp2_with (first | (refine wpList_load_row rfl 25 _ rfl w.heap.size rfl 25 (stC (ent s 8 9 10 (setB (s 1) 128#64 (tb (s 1) 3) &&& ~~~6152#64) pc c false tv)) (0, 0) _ HS.out Try.underlying25 rfl hi31 ?_) | (refine wpList_store_whole rfl 25 _ _ rfl (w.heap.size + 1) rfl (stC (ent s 8 9 10 (setB (s 1) 128#64 (tb (s 1) 3) &&& ~~~6152#64) pc c false tv)) rfl 25 z Hz.out (by rw [hz1]; rfl) hi31 (oneCell_stC _) ?_; intro w5 h5 hfr5))
  exact ⟨rfl, _, results_ctt rfl rfl h5 Try.underlying25 rfl hi31, rfl, hfr.step hfr5 (fun j hj => .inr (by simp at hj; omega))⟩

set_option maxRecDepth 100000 in
set_option maxHeartbeats 4000000 in
theorem ref_1Siv (s : Nat → BitVec 64) (m : Int) (pc c tv : BitVec 64) (w : World) (h0 : 0 ≤ m) (hrm : rm m = 1) (hc : U c < 256) (hd : tb (s 6) (U c).toNat = true) (hv : tb (s 13) 0 = true) :
    Calls Try.prog 16 #[.agg (stC s), .int .u8 m, .int .u64 (U pc), .int .u8 (U c), .bool true, .int .u64 (U tv)] w fun e w' => e = .returned (.tuple #[.agg (stC (ent s 14 15 16 (setB (setB (s 1) 32#64 (tb (s 1) 1) &&& ~~~2#64) 256#64 true) pc c true tv)), .int .u8 1, .int .u64 (U ((s 13 &&& ~~~3#64) + BitVec.ofInt 64 (4 * U c)))]) ∧ Fr [] w w' := by
  have hc0 := (U_bd c).1
  have hpc := (U_bd pc).1
  have hve := (U_bd (s 13)).1
  have r2 := rem2
  have r4 := rem4
  have e2 := even_of
  have e4 := four_of
  have b0 := bit0_eq
  have tp := top_of c hc
  have ha := hid (add_mul4 (s 13 &&& ~~~3#64) (U c) hc0 hc)
  have hw : 4 * U c % 18446744073709551616 = 4 * U c := Int.emod_eq_of_lt (by omega) (by omega)
  have Hrm := hid hrm
  clear hrm
  have hi31 : (Try.prog.info? 25).map (·.size) = some (stC (ent s 14 15 16 (setB (setB (s 1) 32#64 (tb (s 1) 1) &&& ~~~2#64) 256#64 true) pc c true tv)).size := by rw [size25]; rfl
  go_enter Try.func16, Try.ntmps16
  go_wp2_with (first | (go_at_call 35; refine (mode_any m _ h0).mono ?_; rintro e w' ⟨rfl, rfl⟩; rw [Hrm.out]) | (go_at_call 29; refine (bit_any _ (U c) _ hc0).mono ?_; rintro e w' ⟨rfl, rfl⟩))
  refine region_still_tail 7 (by kernel_rfl) (by kernel_rfl) ?_
  simp only [List.take_succ_cons, List.take_zero, List.drop_succ_cons, List.drop_zero]
  repeat still_step
  still_call (back (bit1 _ _))
  repeat still_step
  still_call (back (with5 _ _ _))
  repeat still_step
  refine wpStill_nil ?_
  go_upto_region 26 with (first | (go_at_call 36; ((with_reducible refine (with1 _ _ _).mono ?_); rintro e w' ⟨rfl, rfl⟩)) | (go_at_call 36; ((with_reducible refine (with8 _ _ _).mono ?_); rintro e w' ⟨rfl, rfl⟩)))
  refine world_at (fun W => W.heap[w.heap.size]? = some (.cells (stC (ent s 14 15 16 (setB (setB (s 1) 32#64 (tb (s 1) 1) &&& ~~~2#64) 256#64 true) pc c true tv)) 25) ∧ (∃ z : Array Value, W.heap[w.heap.size + 1]? = some (.cells z 25) ∧ z.size = 31) ∧ Fr [] w W) ⟨cells_eq (blk_alloc (blk_new _ _) _) (perm_S1 _ _ _ _ _ _ _ _ ), ⟨_, blk_new' (by simp) _, rfl⟩, (((Fr.refl _ _).alloc _).alloc _).drew⟩ ?_
  rintro W ⟨hS, ⟨z, hz, hz1⟩, hfr⟩
  have HS := hid hS
  have Hz := hid hz
  clear hS hz
  go_upto_region 29 with (fail)
  go_wp2_with (first | (refine wpList_load_row rfl 25 _ rfl w.heap.size rfl 25 (stC (ent s 14 15 16 (setB (setB (s 1) 32#64 (tb (s 1) 1) &&& ~~~2#64) 256#64 true) pc c true tv)) (0, 0) _ HS.out Try.underlying25 rfl hi31 ?_) | (refine wpList_store_whole rfl 25 _ _ rfl (w.heap.size + 1) rfl (stC (ent s 14 15 16 (setB (setB (s 1) 32#64 (tb (s 1) 1) &&& ~~~2#64) 256#64 true) pc c true tv)) rfl 25 z Hz.out (by rw [hz1]; rfl) hi31 (oneCell_stC _) ?_; intro w5 h5 hfr5))
  exact ⟨rfl, _, results_ctt rfl rfl h5 Try.underlying25 rfl hi31, congrArg (fun x => Ending.returned (.tuple #[.agg (stC (ent s 14 15 16 (setB (setB (s 1) 32#64 (tb (s 1) 1) &&& ~~~2#64) 256#64 true) pc c true tv)), .int .u8 1, .int .u64 x])) ha.out, hfr.step hfr5 (fun j hj => .inr (by simp at hj; omega))⟩

set_option maxRecDepth 100000 in
set_option maxHeartbeats 4000000 in
theorem ref_1Sin (s : Nat → BitVec 64) (m : Int) (pc c tv : BitVec 64) (w : World) (h0 : 0 ≤ m) (hrm : rm m = 1) (hc : U c < 256) (hd : tb (s 6) (U c).toNat = true) (hv : tb (s 13) 0 = false) :
    Calls Try.prog 16 #[.agg (stC s), .int .u8 m, .int .u64 (U pc), .int .u8 (U c), .bool true, .int .u64 (U tv)] w fun e w' => e = .returned (.tuple #[.agg (stC (ent s 14 15 16 (setB (setB (s 1) 32#64 (tb (s 1) 1) &&& ~~~2#64) 256#64 true) pc c true tv)), .int .u8 1, .int .u64 (U (s 13 &&& ~~~3#64))]) ∧ Fr [] w w' := by
  have hc0 := (U_bd c).1
  have hpc := (U_bd pc).1
  have hve := (U_bd (s 13)).1
  have r2 := rem2
  have r4 := rem4
  have e2 := even_of
  have e4 := four_of
  have b0 := bit0_eq
  have tp := top_of c hc


  have Hrm := hid hrm
  clear hrm
  have hi31 : (Try.prog.info? 25).map (·.size) = some (stC (ent s 14 15 16 (setB (setB (s 1) 32#64 (tb (s 1) 1) &&& ~~~2#64) 256#64 true) pc c true tv)).size := by rw [size25]; rfl
  go_enter Try.func16, Try.ntmps16
  go_wp2_with (first | (go_at_call 35; refine (mode_any m _ h0).mono ?_; rintro e w' ⟨rfl, rfl⟩; rw [Hrm.out]) | (go_at_call 29; refine (bit_any _ (U c) _ hc0).mono ?_; rintro e w' ⟨rfl, rfl⟩))
  refine region_still_tail 7 (by kernel_rfl) (by kernel_rfl) ?_
  simp only [List.take_succ_cons, List.take_zero, List.drop_succ_cons, List.drop_zero]
  repeat still_step
  still_call (back (bit1 _ _))
  repeat still_step
  still_call (back (with5 _ _ _))
  repeat still_step
  refine wpStill_nil ?_
  go_upto_region 26 with (first | (go_at_call 36; ((with_reducible refine (with1 _ _ _).mono ?_); rintro e w' ⟨rfl, rfl⟩)) | (go_at_call 36; ((with_reducible refine (with8 _ _ _).mono ?_); rintro e w' ⟨rfl, rfl⟩)))
  refine world_at (fun W => W.heap[w.heap.size]? = some (.cells (stC (ent s 14 15 16 (setB (setB (s 1) 32#64 (tb (s 1) 1) &&& ~~~2#64) 256#64 true) pc c true tv)) 25) ∧ (∃ z : Array Value, W.heap[w.heap.size + 1]? = some (.cells z 25) ∧ z.size = 31) ∧ Fr [] w W) ⟨cells_eq (blk_alloc (blk_new _ _) _) (perm_S1 _ _ _ _ _ _ _ _ ), ⟨_, blk_new' (by simp) _, rfl⟩, (((Fr.refl _ _).alloc _).alloc _).drew⟩ ?_
  rintro W ⟨hS, ⟨z, hz, hz1⟩, hfr⟩
  have HS := hid hS
  have Hz := hid hz
  clear hS hz
  go_upto_region 29 with (fail)
  go_wp2_with (first | (refine wpList_load_row rfl 25 _ rfl w.heap.size rfl 25 (stC (ent s 14 15 16 (setB (setB (s 1) 32#64 (tb (s 1) 1) &&& ~~~2#64) 256#64 true) pc c true tv)) (0, 0) _ HS.out Try.underlying25 rfl hi31 ?_) | (refine wpList_store_whole rfl 25 _ _ rfl (w.heap.size + 1) rfl (stC (ent s 14 15 16 (setB (setB (s 1) 32#64 (tb (s 1) 1) &&& ~~~2#64) 256#64 true) pc c true tv)) rfl 25 z Hz.out (by rw [hz1]; rfl) hi31 (oneCell_stC _) ?_; intro w5 h5 hfr5))
  exact ⟨rfl, _, results_ctt rfl rfl h5 Try.underlying25 rfl hi31, rfl, hfr.step hfr5 (fun j hj => .inr (by simp at hj; omega))⟩

set_option maxRecDepth 100000 in
set_option maxHeartbeats 4000000 in
theorem ref_1Sx (s : Nat → BitVec 64) (m : Int) (pc c tv : BitVec 64) (w : World) (h0 : 0 ≤ m) (hrm : rm m = 1) (hc : U c < 256) (hd : tb (s 5) (U c).toNat = true) :
    Calls Try.prog 16 #[.agg (stC s), .int .u8 m, .int .u64 (U pc), .int .u8 (U c), .bool false, .int .u64 (U tv)] w fun e w' => e = .returned (.tuple #[.agg (stC (ent s 14 15 16 (setB (setB (s 1) 32#64 (tb (s 1) 1) &&& ~~~2#64) 256#64 true) pc c false tv)), .int .u8 1, .int .u64 (U (s 13 &&& ~~~3#64))]) ∧ Fr [] w w' := by
  have hc0 := (U_bd c).1
  have hpc := (U_bd pc).1
  have hve := (U_bd (s 13)).1
  have r2 := rem2
  have r4 := rem4
  have e2 := even_of
  have e4 := four_of
  have b0 := bit0_eq
  have tp := top_of c hc


  have Hrm := hid hrm
  clear hrm
  have hi31 : (Try.prog.info? 25).map (·.size) = some (stC (ent s 14 15 16 (setB (setB (s 1) 32#64 (tb (s 1) 1) &&& ~~~2#64) 256#64 true) pc c false tv)).size := by rw [size25]; rfl
  go_enter Try.func16, Try.ntmps16
  go_wp2_with (first | (go_at_call 35; refine (mode_any m _ h0).mono ?_; rintro e w' ⟨rfl, rfl⟩; rw [Hrm.out]) | (go_at_call 29; refine (bit_any _ (U c) _ hc0).mono ?_; rintro e w' ⟨rfl, rfl⟩))
  refine region_still_tail 7 (by kernel_rfl) (by kernel_rfl) ?_
  simp only [List.take_succ_cons, List.take_zero, List.drop_succ_cons, List.drop_zero]
  repeat still_step
  still_call (back (bit1 _ _))
  repeat still_step
  still_call (back (with5 _ _ _))
  repeat still_step
  refine wpStill_nil ?_
  go_upto_region 26 with (first | (go_at_call 36; ((with_reducible refine (with1 _ _ _).mono ?_); rintro e w' ⟨rfl, rfl⟩)) | (go_at_call 36; ((with_reducible refine (with8 _ _ _).mono ?_); rintro e w' ⟨rfl, rfl⟩)))
  refine world_at (fun W => W.heap[w.heap.size]? = some (.cells (stC (ent s 14 15 16 (setB (setB (s 1) 32#64 (tb (s 1) 1) &&& ~~~2#64) 256#64 true) pc c false tv)) 25) ∧ (∃ z : Array Value, W.heap[w.heap.size + 1]? = some (.cells z 25) ∧ z.size = 31) ∧ Fr [] w W) ⟨cells_eq (blk_alloc (blk_new _ _) _) (perm_S0 _ _ _ _ _ _ _ ), ⟨_, blk_new' (by simp) _, rfl⟩, (((Fr.refl _ _).alloc _).alloc _).drew⟩ ?_
  rintro W ⟨hS, ⟨z, hz, hz1⟩, hfr⟩
  have HS := hid hS
  have Hz := hid hz
  clear hS hz
  go_upto_region 29 with (fail)
  go_wp2_with (first | (refine wpList_load_row rfl 25 _ rfl w.heap.size rfl 25 (stC (ent s 14 15 16 (setB (setB (s 1) 32#64 (tb (s 1) 1) &&& ~~~2#64) 256#64 true) pc c false tv)) (0, 0) _ HS.out Try.underlying25 rfl hi31 ?_) | (refine wpList_store_whole rfl 25 _ _ rfl (w.heap.size + 1) rfl (stC (ent s 14 15 16 (setB (setB (s 1) 32#64 (tb (s 1) 1) &&& ~~~2#64) 256#64 true) pc c false tv)) rfl 25 z Hz.out (by rw [hz1]; rfl) hi31 (oneCell_stC _) ?_; intro w5 h5 hfr5))
  exact ⟨rfl, _, results_ctt rfl rfl h5 Try.underlying25 rfl hi31, rfl, hfr.step hfr5 (fun j hj => .inr (by simp at hj; omega))⟩

set_option maxRecDepth 100000 in
set_option maxHeartbeats 4000000 in
theorem ref_1Miv (s : Nat → BitVec 64) (m : Int) (pc c tv : BitVec 64) (w : World) (h0 : 0 ≤ m) (hrm : rm m = 1) (hc : U c < 256) (hd : tb (s 6) (U c).toNat = false) (hv : tb (s 7) 0 = true) :
    Calls Try.prog 16 #[.agg (stC s), .int .u8 m, .int .u64 (U pc), .int .u8 (U c), .bool true, .int .u64 (U tv)] w fun e w' => e = .returned (.tuple #[.agg (stC (ent s 8 9 10 (setB (s 1) 128#64 (tb (s 1) 3) &&& ~~~6152#64 ||| 2048#64) pc c true tv)), .int .u8 3, .int .u64 (U ((s 7 &&& ~~~3#64) + BitVec.ofInt 64 (4 * U c)))]) ∧ Fr [] w w' := by
  have hc0 := (U_bd c).1
  have hpc := (U_bd pc).1
  have hve := (U_bd (s 7)).1
  have r2 := rem2
  have r4 := rem4
  have e2 := even_of
  have e4 := four_of
  have b0 := bit0_eq
  have tp := top_of c hc
  have ha := hid (add_mul4 (s 7 &&& ~~~3#64) (U c) hc0 hc)
  have hw : 4 * U c % 18446744073709551616 = 4 * U c := Int.emod_eq_of_lt (by omega) (by omega)
  have Hrm := hid hrm
  clear hrm
  have hi31 : (Try.prog.info? 25).map (·.size) = some (stC (ent s 8 9 10 (setB (s 1) 128#64 (tb (s 1) 3) &&& ~~~6152#64 ||| 2048#64) pc c true tv)).size := by rw [size25]; rfl
  go_enter Try.func16, Try.ntmps16
  go_wp2_with (first | (go_at_call 35; refine (mode_any m _ h0).mono ?_; rintro e w' ⟨rfl, rfl⟩; rw [Hrm.out]) | (go_at_call 29; refine (bit_any _ (U c) _ hc0).mono ?_; rintro e w' ⟨rfl, rfl⟩))
  refine region_still_tail 7 (by kernel_rfl) (by kernel_rfl) ?_
  simp only [List.take_succ_cons, List.take_zero, List.drop_succ_cons, List.drop_zero]
  repeat still_step
  still_call (back (bit3 _ _))
  repeat still_step
  still_call (back (with7 _ _ _))
  repeat still_step
  refine wpStill_nil ?_
  go_upto_region 26 with (first | (go_at_call 36; ((with_reducible refine (with3 _ _ _).mono ?_); rintro e w' ⟨rfl, rfl⟩)) | (go_at_call 36; ((with_reducible refine (with11 _ _ _).mono ?_); rintro e w' ⟨rfl, rfl⟩)) | (go_at_call 36; ((with_reducible refine (with12 _ _ _).mono ?_); rintro e w' ⟨rfl, rfl⟩)))
  refine world_at (fun W => W.heap[w.heap.size]? = some (.cells (stC (ent s 8 9 10 (setB (s 1) 128#64 (tb (s 1) 3) &&& ~~~6152#64 ||| 2048#64) pc c true tv)) 25) ∧ (∃ z : Array Value, W.heap[w.heap.size + 1]? = some (.cells z 25) ∧ z.size = 31) ∧ Fr [] w W) ⟨cells_eq (blk_alloc (blk_new _ _) _) (perm_M1 _ _ _ _ _ _ _ _ _ _ (by first | rfl | exact mm_1 _)), ⟨_, blk_new' (by simp) _, rfl⟩, (((Fr.refl _ _).alloc _).alloc _).drew⟩ ?_
  rintro W ⟨hS, ⟨z, hz, hz1⟩, hfr⟩
  have HS := hid hS
  have Hz := hid hz
  clear hS hz
  go_upto_region 29 with (fail)
  go_wp2_with (first | (refine wpList_load_row rfl 25 _ rfl w.heap.size rfl 25 (stC (ent s 8 9 10 (setB (s 1) 128#64 (tb (s 1) 3) &&& ~~~6152#64 ||| 2048#64) pc c true tv)) (0, 0) _ HS.out Try.underlying25 rfl hi31 ?_) | (refine wpList_store_whole rfl 25 _ _ rfl (w.heap.size + 1) rfl (stC (ent s 8 9 10 (setB (s 1) 128#64 (tb (s 1) 3) &&& ~~~6152#64 ||| 2048#64) pc c true tv)) rfl 25 z Hz.out (by rw [hz1]; rfl) hi31 (oneCell_stC _) ?_; intro w5 h5 hfr5))
  exact ⟨rfl, _, results_ctt rfl rfl h5 Try.underlying25 rfl hi31, congrArg (fun x => Ending.returned (.tuple #[.agg (stC (ent s 8 9 10 (setB (s 1) 128#64 (tb (s 1) 3) &&& ~~~6152#64 ||| 2048#64) pc c true tv)), .int .u8 3, .int .u64 x])) ha.out, hfr.step hfr5 (fun j hj => .inr (by simp at hj; omega))⟩

set_option maxRecDepth 100000 in
set_option maxHeartbeats 4000000 in
theorem ref_1Min (s : Nat → BitVec 64) (m : Int) (pc c tv : BitVec 64) (w : World) (h0 : 0 ≤ m) (hrm : rm m = 1) (hc : U c < 256) (hd : tb (s 6) (U c).toNat = false) (hv : tb (s 7) 0 = false) :
    Calls Try.prog 16 #[.agg (stC s), .int .u8 m, .int .u64 (U pc), .int .u8 (U c), .bool true, .int .u64 (U tv)] w fun e w' => e = .returned (.tuple #[.agg (stC (ent s 8 9 10 (setB (s 1) 128#64 (tb (s 1) 3) &&& ~~~6152#64 ||| 2048#64) pc c true tv)), .int .u8 3, .int .u64 (U (s 7 &&& ~~~3#64))]) ∧ Fr [] w w' := by
  have hc0 := (U_bd c).1
  have hpc := (U_bd pc).1
  have hve := (U_bd (s 7)).1
  have r2 := rem2
  have r4 := rem4
  have e2 := even_of
  have e4 := four_of
  have b0 := bit0_eq
  have tp := top_of c hc


  have Hrm := hid hrm
  clear hrm
  have hi31 : (Try.prog.info? 25).map (·.size) = some (stC (ent s 8 9 10 (setB (s 1) 128#64 (tb (s 1) 3) &&& ~~~6152#64 ||| 2048#64) pc c true tv)).size := by rw [size25]; rfl
  go_enter Try.func16, Try.ntmps16
  go_wp2_with (first | (go_at_call 35; refine (mode_any m _ h0).mono ?_; rintro e w' ⟨rfl, rfl⟩; rw [Hrm.out]) | (go_at_call 29; refine (bit_any _ (U c) _ hc0).mono ?_; rintro e w' ⟨rfl, rfl⟩))
  refine region_still_tail 7 (by kernel_rfl) (by kernel_rfl) ?_
  simp only [List.take_succ_cons, List.take_zero, List.drop_succ_cons, List.drop_zero]
  repeat still_step
  still_call (back (bit3 _ _))
  repeat still_step
  still_call (back (with7 _ _ _))
  repeat still_step
  refine wpStill_nil ?_
  go_upto_region 26 with (first | (go_at_call 36; ((with_reducible refine (with3 _ _ _).mono ?_); rintro e w' ⟨rfl, rfl⟩)) | (go_at_call 36; ((with_reducible refine (with11 _ _ _).mono ?_); rintro e w' ⟨rfl, rfl⟩)) | (go_at_call 36; ((with_reducible refine (with12 _ _ _).mono ?_); rintro e w' ⟨rfl, rfl⟩)))
  refine world_at (fun W => W.heap[w.heap.size]? = some (.cells (stC (ent s 8 9 10 (setB (s 1) 128#64 (tb (s 1) 3) &&& ~~~6152#64 ||| 2048#64) pc c true tv)) 25) ∧ (∃ z : Array Value, W.heap[w.heap.size + 1]? = some (.cells z 25) ∧ z.size = 31) ∧ Fr [] w W) ⟨cells_eq (blk_alloc (blk_new _ _) _) (perm_M1 _ _ _ _ _ _ _ _ _ _ (by first | rfl | exact mm_1 _)), ⟨_, blk_new' (by simp) _, rfl⟩, (((Fr.refl _ _).alloc _).alloc _).drew⟩ ?_
  rintro W ⟨hS, ⟨z, hz, hz1⟩, hfr⟩
  have HS := hid hS
  have Hz := hid hz
  clear hS hz
  go_upto_region 29 with (fail)
  go_wp2_with (first | (refine wpList_load_row rfl 25 _ rfl w.heap.size rfl 25 (stC (ent s 8 9 10 (setB (s 1) 128#64 (tb (s 1) 3) &&& ~~~6152#64 ||| 2048#64) pc c true tv)) (0, 0) _ HS.out Try.underlying25 rfl hi31 ?_) | (refine wpList_store_whole rfl 25 _ _ rfl (w.heap.size + 1) rfl (stC (ent s 8 9 10 (setB (s 1) 128#64 (tb (s 1) 3) &&& ~~~6152#64 ||| 2048#64) pc c true tv)) rfl 25 z Hz.out (by rw [hz1]; rfl) hi31 (oneCell_stC _) ?_; intro w5 h5 hfr5))
  exact ⟨rfl, _, results_ctt rfl rfl h5 Try.underlying25 rfl hi31, rfl, hfr.step hfr5 (fun j hj => .inr (by simp at hj; omega))⟩

set_option maxRecDepth 100000 in
set_option maxHeartbeats 4000000 in
theorem ref_1Mx (s : Nat → BitVec 64) (m : Int) (pc c tv : BitVec 64) (w : World) (h0 : 0 ≤ m) (hrm : rm m = 1) (hc : U c < 256) (hd : tb (s 5) (U c).toNat = false) :
    Calls Try.prog 16 #[.agg (stC s), .int .u8 m, .int .u64 (U pc), .int .u8 (U c), .bool false, .int .u64 (U tv)] w fun e w' => e = .returned (.tuple #[.agg (stC (ent s 8 9 10 (setB (s 1) 128#64 (tb (s 1) 3) &&& ~~~6152#64 ||| 2048#64) pc c false tv)), .int .u8 3, .int .u64 (U (s 7 &&& ~~~3#64))]) ∧ Fr [] w w' := by
  have hc0 := (U_bd c).1
  have hpc := (U_bd pc).1
  have hve := (U_bd (s 7)).1
  have r2 := rem2
  have r4 := rem4
  have e2 := even_of
  have e4 := four_of
  have b0 := bit0_eq
  have tp := top_of c hc


  have Hrm := hid hrm
  clear hrm
  have hi31 : (Try.prog.info? 25).map (·.size) = some (stC (ent s 8 9 10 (setB (s 1) 128#64 (tb (s 1) 3) &&& ~~~6152#64 ||| 2048#64) pc c false tv)).size := by rw [size25]; rfl
  go_enter Try.func16, Try.ntmps16
  go_wp2_with (first | (go_at_call 35; refine (mode_any m _ h0).mono ?_; rintro e w' ⟨rfl, rfl⟩; rw [Hrm.out]) | (go_at_call 29; refine (bit_any _ (U c) _ hc0).mono ?_; rintro e w' ⟨rfl, rfl⟩))
  refine region_still_tail 7 (by kernel_rfl) (by kernel_rfl) ?_
  simp only [List.take_succ_cons, List.take_zero, List.drop_succ_cons, List.drop_zero]
  repeat still_step
  still_call (back (bit3 _ _))
  repeat still_step
  still_call (back (with7 _ _ _))
  repeat still_step
  refine wpStill_nil ?_
  go_upto_region 26 with (first | (go_at_call 36; ((with_reducible refine (with3 _ _ _).mono ?_); rintro e w' ⟨rfl, rfl⟩)) | (go_at_call 36; ((with_reducible refine (with11 _ _ _).mono ?_); rintro e w' ⟨rfl, rfl⟩)) | (go_at_call 36; ((with_reducible refine (with12 _ _ _).mono ?_); rintro e w' ⟨rfl, rfl⟩)))
  refine world_at (fun W => W.heap[w.heap.size]? = some (.cells (stC (ent s 8 9 10 (setB (s 1) 128#64 (tb (s 1) 3) &&& ~~~6152#64 ||| 2048#64) pc c false tv)) 25) ∧ (∃ z : Array Value, W.heap[w.heap.size + 1]? = some (.cells z 25) ∧ z.size = 31) ∧ Fr [] w W) ⟨cells_eq (blk_alloc (blk_new _ _) _) (perm_M0 _ _ _ _ _ _ _ _ _ (by first | rfl | exact mm_1 _)), ⟨_, blk_new' (by simp) _, rfl⟩, (((Fr.refl _ _).alloc _).alloc _).drew⟩ ?_
  rintro W ⟨hS, ⟨z, hz, hz1⟩, hfr⟩
  have HS := hid hS
  have Hz := hid hz
  clear hS hz
  go_upto_region 29 with (fail)
  go_wp2_with (first | (refine wpList_load_row rfl 25 _ rfl w.heap.size rfl 25 (stC (ent s 8 9 10 (setB (s 1) 128#64 (tb (s 1) 3) &&& ~~~6152#64 ||| 2048#64) pc c false tv)) (0, 0) _ HS.out Try.underlying25 rfl hi31 ?_) | (refine wpList_store_whole rfl 25 _ _ rfl (w.heap.size + 1) rfl (stC (ent s 8 9 10 (setB (s 1) 128#64 (tb (s 1) 3) &&& ~~~6152#64 ||| 2048#64) pc c false tv)) rfl 25 z Hz.out (by rw [hz1]; rfl) hi31 (oneCell_stC _) ?_; intro w5 h5 hfr5))
  exact ⟨rfl, _, results_ctt rfl rfl h5 Try.underlying25 rfl hi31, rfl, hfr.step hfr5 (fun j hj => .inr (by simp at hj; omega))⟩

set_option maxRecDepth 100000 in
set_option maxHeartbeats 4000000 in
theorem ref_3Miv (s : Nat → BitVec 64) (m : Int) (pc c tv : BitVec 64) (w : World) (h0 : 0 ≤ m) (hrm : rm m = 3) (hc : U c < 256) (hv : tb (s 7) 0 = true) :
    Calls Try.prog 16 #[.agg (stC s), .int .u8 m, .int .u64 (U pc), .int .u8 (U c), .bool true, .int .u64 (U tv)] w fun e w' => e = .returned (.tuple #[.agg (stC (ent s 8 9 10 (setB (s 1) 128#64 (tb (s 1) 3) &&& ~~~6152#64 ||| 6144#64) pc c true tv)), .int .u8 3, .int .u64 (U ((s 7 &&& ~~~3#64) + BitVec.ofInt 64 (4 * U c)))]) ∧ Fr [] w w' := by
  have hc0 := (U_bd c).1
  have hpc := (U_bd pc).1
  have hve := (U_bd (s 7)).1
  have r2 := rem2
  have r4 := rem4
  have e2 := even_of
  have e4 := four_of
  have b0 := bit0_eq
  have tp := top_of c hc
  have ha := hid (add_mul4 (s 7 &&& ~~~3#64) (U c) hc0 hc)
  have hw : 4 * U c % 18446744073709551616 = 4 * U c := Int.emod_eq_of_lt (by omega) (by omega)
  have Hrm := hid hrm
  clear hrm
  have hi31 : (Try.prog.info? 25).map (·.size) = some (stC (ent s 8 9 10 (setB (s 1) 128#64 (tb (s 1) 3) &&& ~~~6152#64 ||| 6144#64) pc c true tv)).size := by rw [size25]; rfl
  go_enter Try.func16, Try.ntmps16
  go_wp2_with (first | (go_at_call 35; refine (mode_any m _ h0).mono ?_; rintro e w' ⟨rfl, rfl⟩; rw [Hrm.out]) | (go_at_call 29; refine (bit_any _ (U c) _ hc0).mono ?_; rintro e w' ⟨rfl, rfl⟩))
  refine region_still_tail 7 (by kernel_rfl) (by kernel_rfl) ?_
  simp only [List.take_succ_cons, List.take_zero, List.drop_succ_cons, List.drop_zero]
  repeat still_step
  still_call (back (bit3 _ _))
  repeat still_step
  still_call (back (with7 _ _ _))
  repeat still_step
  refine wpStill_nil ?_
  go_upto_region 26 with (first | (go_at_call 36; ((with_reducible refine (with3 _ _ _).mono ?_); rintro e w' ⟨rfl, rfl⟩)) | (go_at_call 36; ((with_reducible refine (with11 _ _ _).mono ?_); rintro e w' ⟨rfl, rfl⟩)) | (go_at_call 36; ((with_reducible refine (with12 _ _ _).mono ?_); rintro e w' ⟨rfl, rfl⟩)))
  refine world_at (fun W => W.heap[w.heap.size]? = some (.cells (stC (ent s 8 9 10 (setB (s 1) 128#64 (tb (s 1) 3) &&& ~~~6152#64 ||| 6144#64) pc c true tv)) 25) ∧ (∃ z : Array Value, W.heap[w.heap.size + 1]? = some (.cells z 25) ∧ z.size = 31) ∧ Fr [] w W) ⟨cells_eq (blk_alloc (blk_new _ _) _) (perm_M1 _ _ _ _ _ _ _ _ _ _ (by first | rfl | exact mm_3 _)), ⟨_, blk_new' (by simp) _, rfl⟩, (((Fr.refl _ _).alloc _).alloc _).drew⟩ ?_
  rintro W ⟨hS, ⟨z, hz, hz1⟩, hfr⟩
  have HS := hid hS
  have Hz := hid hz
  clear hS hz
  go_upto_region 29 with (fail)
  go_wp2_with (first | (refine wpList_load_row rfl 25 _ rfl w.heap.size rfl 25 (stC (ent s 8 9 10 (setB (s 1) 128#64 (tb (s 1) 3) &&& ~~~6152#64 ||| 6144#64) pc c true tv)) (0, 0) _ HS.out Try.underlying25 rfl hi31 ?_) | (refine wpList_store_whole rfl 25 _ _ rfl (w.heap.size + 1) rfl (stC (ent s 8 9 10 (setB (s 1) 128#64 (tb (s 1) 3) &&& ~~~6152#64 ||| 6144#64) pc c true tv)) rfl 25 z Hz.out (by rw [hz1]; rfl) hi31 (oneCell_stC _) ?_; intro w5 h5 hfr5))
  exact ⟨rfl, _, results_ctt rfl rfl h5 Try.underlying25 rfl hi31, congrArg (fun x => Ending.returned (.tuple #[.agg (stC (ent s 8 9 10 (setB (s 1) 128#64 (tb (s 1) 3) &&& ~~~6152#64 ||| 6144#64) pc c true tv)), .int .u8 3, .int .u64 x])) ha.out, hfr.step hfr5 (fun j hj => .inr (by simp at hj; omega))⟩

set_option maxRecDepth 100000 in
set_option maxHeartbeats 4000000 in
theorem ref_3Min (s : Nat → BitVec 64) (m : Int) (pc c tv : BitVec 64) (w : World) (h0 : 0 ≤ m) (hrm : rm m = 3) (hc : U c < 256) (hv : tb (s 7) 0 = false) :
    Calls Try.prog 16 #[.agg (stC s), .int .u8 m, .int .u64 (U pc), .int .u8 (U c), .bool true, .int .u64 (U tv)] w fun e w' => e = .returned (.tuple #[.agg (stC (ent s 8 9 10 (setB (s 1) 128#64 (tb (s 1) 3) &&& ~~~6152#64 ||| 6144#64) pc c true tv)), .int .u8 3, .int .u64 (U (s 7 &&& ~~~3#64))]) ∧ Fr [] w w' := by
  have hc0 := (U_bd c).1
  have hpc := (U_bd pc).1
  have hve := (U_bd (s 7)).1
  have r2 := rem2
  have r4 := rem4
  have e2 := even_of
  have e4 := four_of
  have b0 := bit0_eq
  have tp := top_of c hc


  have Hrm := hid hrm
  clear hrm
  have hi31 : (Try.prog.info? 25).map (·.size) = some (stC (ent s 8 9 10 (setB (s 1) 128#64 (tb (s 1) 3) &&& ~~~6152#64 ||| 6144#64) pc c true tv)).size := by rw [size25]; rfl
  go_enter Try.func16, Try.ntmps16
  go_wp2_with (first | (go_at_call 35; refine (mode_any m _ h0).mono ?_; rintro e w' ⟨rfl, rfl⟩; rw [Hrm.out]) | (go_at_call 29; refine (bit_any _ (U c) _ hc0).mono ?_; rintro e w' ⟨rfl, rfl⟩))
  refine region_still_tail 7 (by kernel_rfl) (by kernel_rfl) ?_
  simp only [List.take_succ_cons, List.take_zero, List.drop_succ_cons, List.drop_zero]
  repeat still_step
  still_call (back (bit3 _ _))
  repeat still_step
  still_call (back (with7 _ _ _))
  repeat still_step
  refine wpStill_nil ?_
  go_upto_region 26 with (first | (go_at_call 36; ((with_reducible refine (with3 _ _ _).mono ?_); rintro e w' ⟨rfl, rfl⟩)) | (go_at_call 36; ((with_reducible refine (with11 _ _ _).mono ?_); rintro e w' ⟨rfl, rfl⟩)) | (go_at_call 36; ((with_reducible refine (with12 _ _ _).mono ?_); rintro e w' ⟨rfl, rfl⟩)))
  refine world_at (fun W => W.heap[w.heap.size]? = some (.cells (stC (ent s 8 9 10 (setB (s 1) 128#64 (tb (s 1) 3) &&& ~~~6152#64 ||| 6144#64) pc c true tv)) 25) ∧ (∃ z : Array Value, W.heap[w.heap.size + 1]? = some (.cells z 25) ∧ z.size = 31) ∧ Fr [] w W) ⟨cells_eq (blk_alloc (blk_new _ _) _) (perm_M1 _ _ _ _ _ _ _ _ _ _ (by first | rfl | exact mm_3 _)), ⟨_, blk_new' (by simp) _, rfl⟩, (((Fr.refl _ _).alloc _).alloc _).drew⟩ ?_
  rintro W ⟨hS, ⟨z, hz, hz1⟩, hfr⟩
  have HS := hid hS
  have Hz := hid hz
  clear hS hz
  go_upto_region 29 with (fail)
  go_wp2_with (first | (refine wpList_load_row rfl 25 _ rfl w.heap.size rfl 25 (stC (ent s 8 9 10 (setB (s 1) 128#64 (tb (s 1) 3) &&& ~~~6152#64 ||| 6144#64) pc c true tv)) (0, 0) _ HS.out Try.underlying25 rfl hi31 ?_) | (refine wpList_store_whole rfl 25 _ _ rfl (w.heap.size + 1) rfl (stC (ent s 8 9 10 (setB (s 1) 128#64 (tb (s 1) 3) &&& ~~~6152#64 ||| 6144#64) pc c true tv)) rfl 25 z Hz.out (by rw [hz1]; rfl) hi31 (oneCell_stC _) ?_; intro w5 h5 hfr5))
  exact ⟨rfl, _, results_ctt rfl rfl h5 Try.underlying25 rfl hi31, rfl, hfr.step hfr5 (fun j hj => .inr (by simp at hj; omega))⟩

set_option maxRecDepth 100000 in
set_option maxHeartbeats 4000000 in
theorem ref_3Mx (s : Nat → BitVec 64) (m : Int) (pc c tv : BitVec 64) (w : World) (h0 : 0 ≤ m) (hrm : rm m = 3) (hc : U c < 256) :
    Calls Try.prog 16 #[.agg (stC s), .int .u8 m, .int .u64 (U pc), .int .u8 (U c), .bool false, .int .u64 (U tv)] w fun e w' => e = .returned (.tuple #[.agg (stC (ent s 8 9 10 (setB (s 1) 128#64 (tb (s 1) 3) &&& ~~~6152#64 ||| 6144#64) pc c false tv)), .int .u8 3, .int .u64 (U (s 7 &&& ~~~3#64))]) ∧ Fr [] w w' := by
  have hc0 := (U_bd c).1
  have hpc := (U_bd pc).1
  have hve := (U_bd (s 7)).1
  have r2 := rem2
  have r4 := rem4
  have e2 := even_of
  have e4 := four_of
  have b0 := bit0_eq
  have tp := top_of c hc


  have Hrm := hid hrm
  clear hrm
  have hi31 : (Try.prog.info? 25).map (·.size) = some (stC (ent s 8 9 10 (setB (s 1) 128#64 (tb (s 1) 3) &&& ~~~6152#64 ||| 6144#64) pc c false tv)).size := by rw [size25]; rfl
  go_enter Try.func16, Try.ntmps16
  go_wp2_with (first | (go_at_call 35; refine (mode_any m _ h0).mono ?_; rintro e w' ⟨rfl, rfl⟩; rw [Hrm.out]) | (go_at_call 29; refine (bit_any _ (U c) _ hc0).mono ?_; rintro e w' ⟨rfl, rfl⟩))
  refine region_still_tail 7 (by kernel_rfl) (by kernel_rfl) ?_
  simp only [List.take_succ_cons, List.take_zero, List.drop_succ_cons, List.drop_zero]
  repeat still_step
  still_call (back (bit3 _ _))
  repeat still_step
  still_call (back (with7 _ _ _))
  repeat still_step
  refine wpStill_nil ?_
  go_upto_region 26 with (first | (go_at_call 36; ((with_reducible refine (with3 _ _ _).mono ?_); rintro e w' ⟨rfl, rfl⟩)) | (go_at_call 36; ((with_reducible refine (with11 _ _ _).mono ?_); rintro e w' ⟨rfl, rfl⟩)) | (go_at_call 36; ((with_reducible refine (with12 _ _ _).mono ?_); rintro e w' ⟨rfl, rfl⟩)))
  refine world_at (fun W => W.heap[w.heap.size]? = some (.cells (stC (ent s 8 9 10 (setB (s 1) 128#64 (tb (s 1) 3) &&& ~~~6152#64 ||| 6144#64) pc c false tv)) 25) ∧ (∃ z : Array Value, W.heap[w.heap.size + 1]? = some (.cells z 25) ∧ z.size = 31) ∧ Fr [] w W) ⟨cells_eq (blk_alloc (blk_new _ _) _) (perm_M0 _ _ _ _ _ _ _ _ _ (by first | rfl | exact mm_3 _)), ⟨_, blk_new' (by simp) _, rfl⟩, (((Fr.refl _ _).alloc _).alloc _).drew⟩ ?_
  rintro W ⟨hS, ⟨z, hz, hz1⟩, hfr⟩
  have HS := hid hS
  have Hz := hid hz
  clear hS hz
  go_upto_region 29 with (fail)
  go_wp2_with (first | (refine wpList_load_row rfl 25 _ rfl w.heap.size rfl 25 (stC (ent s 8 9 10 (setB (s 1) 128#64 (tb (s 1) 3) &&& ~~~6152#64 ||| 6144#64) pc c false tv)) (0, 0) _ HS.out Try.underlying25 rfl hi31 ?_) | (refine wpList_store_whole rfl 25 _ _ rfl (w.heap.size + 1) rfl (stC (ent s 8 9 10 (setB (s 1) 128#64 (tb (s 1) 3) &&& ~~~6152#64 ||| 6144#64) pc c false tv)) rfl 25 z Hz.out (by rw [hz1]; rfl) hi31 (oneCell_stC _) ?_; intro w5 h5 hfr5))
  exact ⟨rfl, _, results_ctt rfl rfl h5 Try.underlying25 rfl hi31, rfl, hfr.step hfr5 (fun j hj => .inr (by simp at hj; omega))⟩
end Go.Proofs.Ytfdkmkblhicbfaa
