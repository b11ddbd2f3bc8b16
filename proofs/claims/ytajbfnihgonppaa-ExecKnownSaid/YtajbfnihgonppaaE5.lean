/- The reference's Do and Addr are the program's. -/
import Derived.Test.YtajbfnihgonppaaE4
namespace Go.Proofs.Ytajbfnihgonppaa.PA
open Go.RowKit Go.Proofs.Ytajbfnihgonppaa.Plain
set_option linter.all false
theorem u64_bits' (op : BinOp) (a b : Int) : bits op .u64 a b = ((match op with
    | .and => BitVec.ofInt 64 a &&& BitVec.ofInt 64 b
    | .or => BitVec.ofInt 64 a ||| BitVec.ofInt 64 b
    | .xor => BitVec.ofInt 64 a ^^^ BitVec.ofInt 64 b
    | _ => BitVec.ofInt 64 a &&& ~~~BitVec.ofInt 64 b : BitVec 64).toNat : Int) := by
  unfold bits
  simp only [IntKind.bits]
  rw [IntKind.wrap_u64]
  exact Int.emod_eq_of_lt (by omega) (by omega)
/-- the lowest bit struck -/
theorem even_of {v : Int} (h : N64 v) : bits .andNot .u64 v 1 = IntKind.u64.wrap (IntKind.u64.wrap (v.tdiv 2) * 2) := by
  rw [u64_bits', IntKind.wrap_u64, IntKind.wrap_u64]
  show (((BitVec.ofInt 64 v &&& ~~~BitVec.ofInt 64 1).toNat : Nat) : Int) = _
  obtain ⟨n, rfl⟩ : ∃ n : Nat, v = (n : Int) := ⟨v.toNat, by unfold N64 at h; omega⟩
  have hn : n < 18446744073709551616 := by unfold N64 at h; omega
  have h0 : (BitVec.ofInt 64 (n : Int)) = BitVec.ofNat 64 n := by
    apply BitVec.eq_of_toNat_eq
    rw [BitVec.toNat_ofInt, BitVec.toNat_ofNat]
    omega
  have h1 : (BitVec.ofNat 64 n &&& ~~~BitVec.ofInt 64 1) = (BitVec.ofNat 64 n >>> 1) <<< 1 := by
    apply BitVec.eq_of_getLsbD_eq
    intro i hi
    have h1 : BitVec.ofInt 64 1 = 1#64 := rfl
    rw [h1]
    simp only [BitVec.getLsbD_and, BitVec.getLsbD_not, BitVec.getLsbD_shiftLeft, BitVec.getLsbD_ushiftRight, BitVec.getLsbD_one]
    by_cases hz : i = 0
    · subst hz; simp
    · have e : 1 + (i - 1) = i := by omega
      simp [hz, hi, e]
  rw [h0, h1, BitVec.toNat_shiftLeft, BitVec.toNat_ushiftRight, BitVec.toNat_ofNat, Nat.shiftLeft_eq, Nat.shiftRight_eq_div_pow]
  rw [Int.tdiv_eq_ediv_of_nonneg (by omega)]
  omega
theorem reg_no_branch : ∀ n : Fin 256, (classT n.val = 3 ↔ inR n.val 5 10 = true) ∧ (5 ≤ n.val ∧ n.val ≤ 10 → (regT n.val) = (0, false)) := by decide +kernel
theorem cls_br {op : Int} (h : 0 ≤ op ∧ op < 256) : classT op = 3 ↔ inR op 5 10 = true := by
  have := (reg_no_branch ⟨op.toNat, by omega⟩).1
  have e : ((op.toNat : Nat) : Int) = op := by omega
  rwa [e] at this
/-- an operation that is none: what it answers says so, of any numbers; its register operation is 0 then -/
theorem val_none {op : Int} (h : 0 ≤ op ∧ op < 256) (hr : (regT op).2 = false) (a b : Int) : valT op a b = (0, false) := by
  have := (reg_ev h).1
  unfold valT alu_Do.f
  rw [this]
  generalize regT op = x at *
  obtain ⟨x1, x2⟩ := x
  simp only at hr
  subst hr
  rfl
theorem rdo_any {s : Nat → Int} (hs : RegsOK s) {pc : Int} (hp : N64 pc) {x : T7} (hx : W7 x) (w : World) :
    Calls Try.prog 14 #[.agg (regC s), .int .u64 pc, .agg (IC x)] w fun e w' => e = .returned (.tuple #[.agg (regC (doT s pc x).1), .int .u64 (doT s pc x).2.1, .bool (doT s pc x).2.2]) ∧ Fr [] w w' := by
  have hB := opB_N hs x
  have hx' := hx
  obtain ⟨op, rd, r1, r2, im, cs, sz⟩ := x
  obtain ⟨b0, b1, b2, b3, b4, b5, b6⟩ := hx
  simp only at b0 b1 b2 b3 b4 b5 b6
  have na := getT_N hs r1
  have nb := getT_N hs r2
  have h1 := hid fun w => rget_any s w b2
  have h2 := hid fun w => rget_any s w b3
  have hset := fun v w => rset_any v s w b1
  have hbr := hid fun w => cr_branch (op := op) na nb w
  have hcl := cls_br b0
  unfold doT
  simp only
  by_cases e1 : op = 1
  · subst e1
    exact rd_lui s _ pc rd r1 r2 im cs sz _ _ w hp.1 hp.2 b2 b3 b4.1 b4.2 b6.1 b6.2 b1 na.1 na.2 h1 h2 (hid (hset _))
  by_cases e2 : op = 2
  · subst e2
    have := rd_auipc s _ pc rd r1 r2 im cs sz _ _ w hp.1 hp.2 b2 b3 b4.1 b4.2 b6.1 b6.2 b1 na.1 na.2 h1 h2 (hid (hset _))
    rw [Int.add_comm pc] at this
    exact this
  by_cases e3 : op = 3
  · subst e3
    exact rd_jal s _ pc rd r1 r2 im cs sz _ _ w hp.1 hp.2 b2 b3 b4.1 b4.2 b6.1 b6.2 b1 na.1 na.2 h1 h2 (hid (hset _))
  by_cases e4 : op = 4
  · subst e4
    have := rd_jalr s _ pc rd r1 r2 im cs sz _ _ w hp.1 hp.2 b2 b3 b4.1 b4.2 b6.1 b6.2 b1 na.1 na.2 h1 h2 (hid (hset _))
    rw [← even_of (wrap_N _)] at this
    exact this
  rw [if_neg e4, if_neg e3, if_neg e2, if_neg e1]
  have t1 : (op == 1) = false := by simpa using e1
  have t2 : (op == 2) = false := by simpa using e2
  have t3 : (op == 3) = false := by simpa using e3
  have t4 : (op == 4) = false := by simpa using e4
  by_cases ec : classT op = 3
  · rw [if_pos ec]
    rw [hcl.1 ec] at hbr
    unfold brNext
    simp only
    cases hb : brT op (getT s r1) (getT s r2) with
    | true =>
      rw [hb] at hbr
      rw [if_pos rfl]
      exact rd_brt s s pc rd r1 r2 im cs sz _ _ op w hp.1 hp.2 b0 b2 b3 b4.1 b4.2 b6.1 b6.2 b1 na.1 na.2 h1 h2 hbr t1 t2 t3 t4
    | false =>
      rw [hb] at hbr
      rw [if_neg (by decide)]
      exact rd_brf s s pc rd r1 r2 im cs sz _ _ op w hp.1 hp.2 b0 b2 b3 b4.1 b4.2 b6.1 b6.2 b1 na.1 na.2 h1 h2 hbr t1 t2 t3 t4
  · rw [if_neg ec]
    have hni : inR op 5 10 = false := by
      cases h : inR op 5 10 with
      | false => rfl
      | true => exact absurd (hcl.2 h) ec
    rw [hni] at hbr
    have hrg := hid fun w => cr_reg b0 w
    by_cases hro : (regT op).1 = op
    · have t5 : ((regT op).1 != op) = false := by simpa using hro
      have eB : opB s (op, rd, r1, r2, im, cs, sz) = getT s r2 := by unfold opB; rw [if_neg (fun h => h.2 hro)]
      rw [eB]
      have hd := hid fun w => cr_do b0 na nb w
      generalize valT op (getT s r1) (getT s r2) = vk at *
      obtain ⟨v, k⟩ := vk
      cases k with
      | true => exact rd_ar0t s _ pc rd r1 r2 im cs sz _ _ op _ v _ _ w hp.1 hp.2 b0 b2 b3 b4.1 b4.2 b6.1 b6.2 b1 na.1 na.2 h1 h2 hbr hrg hd (hid (hset v)) t1 t2 t3 t4 t5
      | false => exact rd_ar0f s s pc rd r1 r2 im cs sz _ _ op _ v _ _ w hp.1 hp.2 b0 b2 b3 b4.1 b4.2 b6.1 b6.2 b1 na.1 na.2 h1 h2 hbr hrg hd t1 t2 t3 t4 t5
    · have t5 : ((regT op).1 != op) = true := by simpa using hro
      have hd := hid fun w => cr_do b0 na (wrap_N im) w
      have eV : valT op (getT s r1) (opB s (op, rd, r1, r2, im, cs, sz)) = valT op (getT s r1) (IntKind.u64.wrap im) := by
        unfold opB
        simp only
        cases h : (regT op).2 with
        | true => rw [if_pos ⟨rfl, hro⟩]; rfl
        | false => rw [val_none b0 h, val_none b0 h]
      rw [eV]
      generalize valT op (getT s r1) (IntKind.u64.wrap im) = vk at *
      obtain ⟨v, k⟩ := vk
      cases k with
      | true => exact rd_ar1t s _ pc rd r1 r2 im cs sz _ _ op _ v _ _ w hp.1 hp.2 b0 b2 b3 b4.1 b4.2 b6.1 b6.2 b1 na.1 na.2 h1 h2 hbr hrg hd (hid (hset v)) t1 t2 t3 t4 t5
      | false => exact rd_ar1f s s pc rd r1 r2 im cs sz _ _ op _ v _ _ w hp.1 hp.2 b0 b2 b3 b4.1 b4.2 b6.1 b6.2 b1 na.1 na.2 h1 h2 hbr hrg hd t1 t2 t3 t4 t5
theorem addr_cls : ∀ n : Fin 256, (classT n.val = 1 ∨ classT n.val = 2 ↔ 11 ≤ n.val ∧ n.val ≤ 21) ∧ (classT n.val = 5 ↔ 67 ≤ n.val ∧ n.val ≤ 88) := by decide +kernel
theorem raddr_any {s : Nat → Int} {x : T7} (hx : W7 x) (w : World) :
    Calls Try.prog 16 #[.agg (regC s), .agg (IC x)] w fun e w' => e = .returned (.tuple #[.int .u64 (addrT s x).1, .bool (addrT s x).2]) ∧ Fr [] w w' := by
  obtain ⟨op, rd, r1, r2, im, cs, sz⟩ := x
  obtain ⟨b0, b1, b2, b3, b4, b5, b6⟩ := hx
  simp only at b0 b1 b2 b3 b4 b5 b6
  have h1 := hid fun w => rget_any s w b2
  have hc : (classT op = 1 ∨ classT op = 2 ↔ 11 ≤ op ∧ op ≤ 21) ∧ (classT op = 5 ↔ 67 ≤ op ∧ op ≤ 88) := by
    have := addr_cls ⟨op.toNat, by omega⟩
    have e : ((op.toNat : Nat) : Int) = op := by omega
    simp only [e] at this
    refine ⟨this.1.trans ?_, this.2.trans ?_⟩ <;> omega
  unfold addrT
  simp only
  by_cases m : 11 ≤ op ∧ op ≤ 21
  · rw [if_pos (hc.1.2 m)]
    exact ra_m s op rd r1 r2 im cs sz _ w b0 b2 b3 b4.1 b4.2 b6.1 b6.2 h1 (decide_eq_true m.1) (decide_eq_true m.2)
  rw [if_neg (fun h => m (hc.1.1 h))]
  by_cases a : 67 ≤ op ∧ op ≤ 88
  · rw [if_pos (hc.2.2 a)]
    exact ra_a s op rd r1 r2 im cs sz _ w b0 b2 b3 b4.1 b4.2 b6.1 b6.2 h1 (decide_eq_true (by omega)) (decide_eq_false (by omega)) (decide_eq_true a.1) (decide_eq_true a.2)
  rw [if_neg (fun h => a (hc.2.1 h))]
  by_cases g1 : 11 ≤ op
  · by_cases g2 : 67 ≤ op
    · exact ra_o3 s op rd r1 r2 im cs sz w b0 b2 b3 b4.1 b4.2 b6.1 b6.2 (decide_eq_true g1) (decide_eq_false (by omega)) (decide_eq_true g2) (decide_eq_false (by omega))
    · exact ra_o2 s op rd r1 r2 im cs sz w b0 b2 b3 b4.1 b4.2 b6.1 b6.2 (decide_eq_true g1) (decide_eq_false (by omega)) (decide_eq_false g2)
  · exact ra_o1 s op rd r1 r2 im cs sz w b0 b2 b3 b4.1 b4.2 b6.1 b6.2 (decide_eq_false g1) (decide_eq_false (by omega))
end Go.Proofs.Ytajbfnihgonppaa.PA
