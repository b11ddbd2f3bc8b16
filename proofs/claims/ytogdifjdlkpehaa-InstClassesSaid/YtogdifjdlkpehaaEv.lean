/- What the small functions of package inst answer, as plain arithmetic. -/
import Derived.Test.YtogdifjdlkpehaaK2
import Derived.Test.YtogdifjdlkpehaaPlain
namespace Go.Proofs.Ytogdifjdlkpehaa.PA
open Go.RowKit Go.Proofs.YtogdifjdlkpehaaW.PrintWords Go.Proofs.YtogdifjdlkpehaaW.PrintLast Go.Proofs.YtogdifjdlkpehaaW.PrintMore Go.Proofs.Ytogdifjdlkpehaa.Plain
set_option linter.all false

abbrev T7 := Int × Int × Int × Int × Int × Int × Int
/-- a parcel -/
def P32 (p : Int) : Prop := 0 ≤ p ∧ p < 4294967296
theorem u32_bits (op : BinOp) (a b : Int) : bits op .u32 a b = ((match op with
    | .and => BitVec.ofInt 32 a &&& BitVec.ofInt 32 b
    | .or => BitVec.ofInt 32 a ||| BitVec.ofInt 32 b
    | .xor => BitVec.ofInt 32 a ^^^ BitVec.ofInt 32 b
    | _ => BitVec.ofInt 32 a &&& ~~~BitVec.ofInt 32 b : BitVec 32).toNat : Int) := by
  unfold bits
  simp only [IntKind.bits]
  rw [IntKind.wrap_u32]
  exact Int.emod_eq_of_lt (by omega) (by omega)
theorem and_low32 {a : Int} (h : P32 a) (k : Nat) (hk : k ≤ 32) : bits .and .u32 a (2 ^ k - 1) = a % 2 ^ k := by
  rw [u32_bits]
  show (((BitVec.ofInt 32 a &&& BitVec.ofInt 32 (2 ^ k - 1)).toNat : Nat) : Int) = _
  have hp : (0 : Int) < 2 ^ k := Int.pow_pos (by decide)
  have h2 : ((2 : Int) ^ k - 1) = ((2 ^ k - 1 : Nat) : Int) := by
    have : 0 < 2 ^ k := Nat.pow_pos (by decide)
    rw [Int.natCast_sub (by omega)]; simp
  have h3 : (2 : Nat) ^ k ≤ 2 ^ 32 := Nat.pow_le_pow_right (by decide) hk
  have h0 : (BitVec.ofInt 32 a).toNat = a.toNat := by unfold P32 at h; rw [BitVec.toNat_ofInt]; omega
  rw [BitVec.toNat_and, h0, h2, BitVec.toNat_ofInt]
  have hp' : 0 < 2 ^ k := Nat.pow_pos (by decide)
  have h4 : (((2 ^ k - 1 : Nat) : Int) % ((2 ^ 32 : Nat) : Int)).toNat = 2 ^ k - 1 := by omega
  rw [h4, Nat.and_two_pow_sub_one_eq_mod]
  unfold P32 at h
  have : a = (a.toNat : Int) := by omega
  rw [this]
  simp

theorem bits_ev {p : Int} (hp : P32 p) (a b n : Nat) (hn : b + 1 = a + n) (hb : b < 32) (hn0 : 0 < n) : inst_parcel_bits.f p a b = some (p / 2 ^ a % 2 ^ n) := by
  unfold inst_parcel_bits.f
  have e1 : wrap64 ((b : Int) - (a : Int)) = b - a := by unfold wrap64; omega
  have e2 : wrap64 ((b : Int) - a + 1) = (n : Int) := by unfold wrap64; omega
  rw [e1, e2, if_pos (by omega), if_pos (by omega)]
  have e3 : shr .u32 p a = p / 2 ^ a := by
    unfold shr
    rw [show min ((a : Int).toNat) IntKind.u32.bits = a by show min _ 32 = a; omega]
  have e4 : (shl .u32 1 n - 1) % 4294967296 = 2 ^ n - 1 := by
    unfold shl
    rw [show min ((n : Int).toNat) IntKind.u32.bits = n by show min _ 32 = n; omega, IntKind.wrap_u32]
    have : n = 1 ∨ n = 2 ∨ n = 3 ∨ n = 4 ∨ n = 5 ∨ n = 6 ∨ n = 7 ∨ n = 8 ∨ n = 9 ∨ n = 10 ∨ n = 11 ∨ n = 12 ∨ n = 13 ∨ n = 14 ∨ n = 15 ∨ n = 16 ∨ n = 17 ∨ n = 18 ∨ n = 19 ∨ n = 20 ∨ n = 21 ∨ n = 22 ∨ n = 23 ∨ n = 24 ∨ n = 25 ∨ n = 26 ∨ n = 27 ∨ n = 28 ∨ n = 29 ∨ n = 30 ∨ n = 31 ∨ n = 32 := by omega
    rcases this with rfl | rfl | rfl | rfl | rfl | rfl | rfl | rfl | rfl | rfl | rfl | rfl | rfl | rfl | rfl | rfl | rfl | rfl | rfl | rfl | rfl | rfl | rfl | rfl | rfl | rfl | rfl | rfl | rfl | rfl | rfl | rfl <;> decide
  rw [e3, e4]
  congr 1
  refine and_low32 ?_ n (by omega)
  unfold P32 at hp ⊢
  have h2 : (0 : Int) < 2 ^ a := Int.pow_pos (by decide)
  have h3 := Int.ediv_nonneg hp.1 (Int.le_of_lt h2)
  have h4 := Int.ediv_le_self (2 ^ a) hp.1
  omega

theorem rd_ev {p : Int} (hp : P32 p) : inst_parcel_rd.f p = some (p / 128 % 32) := by
  unfold inst_parcel_rd.f
  rw [show inst_parcel_bits.f p 7 11 = _ from bits_ev hp 7 11 5 rfl (by decide) (by decide)]
  simp only [Option.bind_some, Option.some.injEq]
  show p / 128 % 32 % 256 = _
  omega
theorem rs1_ev {p : Int} (hp : P32 p) : inst_parcel_rs1.f p = some (p / 32768 % 32) := by
  unfold inst_parcel_rs1.f
  rw [show inst_parcel_bits.f p 15 19 = _ from bits_ev hp 15 19 5 rfl (by decide) (by decide)]
  simp only [Option.bind_some, Option.some.injEq]
  show p / 32768 % 32 % 256 = _
  omega
theorem rs2_ev {p : Int} (hp : P32 p) : inst_parcel_rs2.f p = some (p / 1048576 % 32) := by
  unfold inst_parcel_rs2.f
  rw [show inst_parcel_bits.f p 20 24 = _ from bits_ev hp 20 24 5 rfl (by decide) (by decide)]
  simp only [Option.bind_some, Option.some.injEq]
  show p / 1048576 % 32 % 256 = _
  omega
theorem f3_ev {p : Int} (hp : P32 p) : inst_parcel_f3.f p = some (p / 4096 % 8) := by
  unfold inst_parcel_f3.f
  rw [show inst_parcel_bits.f p 12 14 = _ from bits_ev hp 12 14 3 rfl (by decide) (by decide)]
  rfl
theorem f7_ev {p : Int} (hp : P32 p) : inst_parcel_f7.f p = some (p / 33554432 % 128) := by
  unfold inst_parcel_f7.f
  rw [show inst_parcel_bits.f p 25 31 = _ from bits_ev hp 25 31 7 rfl (by decide) (by decide)]
  rfl

/-- a number of so many bits, signed -/
def sgn (w : Nat) (n : Int) : Int := if n < 2 ^ (w - 1) then n else n - 2 ^ w
theorem sign12 {n : Int} (h0 : 0 ≤ n) (h1 : n < 4096) : shr .i64 (wrap64 (shl .u64 n 52)) 52 = sgn 12 n := by
  unfold shr shl sgn
  rw [show min ((52 : Int).toNat) IntKind.i64.bits = 52 from rfl, show min ((52 : Int).toNat) IntKind.u64.bits = 52 from rfl, IntKind.wrap_u64]
  unfold wrap64
  show _ / 4503599627370496 = _
  have e : (2 : Int) ^ 52 = 4503599627370496 := rfl
  have e2 : (2 : Int) ^ (12 - 1) = 2048 := rfl
  have e3 : (2 : Int) ^ 12 = 4096 := rfl
  rw [e, e2, e3]
  split <;> omega
theorem sign20 {n : Int} (h0 : 0 ≤ n) (h1 : n < 1048576) : shr .i64 (wrap64 (shl .u64 n 44)) 44 = sgn 20 n := by
  unfold shr shl sgn
  rw [show min ((44 : Int).toNat) IntKind.i64.bits = 44 from rfl, show min ((44 : Int).toNat) IntKind.u64.bits = 44 from rfl, IntKind.wrap_u64]
  unfold wrap64
  show _ / 17592186044416 = _
  have e : (2 : Int) ^ 44 = 17592186044416 := rfl
  have e2 : (2 : Int) ^ (20 - 1) = 524288 := rfl
  have e3 : (2 : Int) ^ 20 = 1048576 := rfl
  rw [e, e2, e3]
  split <;> omega
theorem sgn12_bd {n : Int} (h0 : 0 ≤ n) (h1 : n < 4096) : -2048 ≤ sgn 12 n ∧ sgn 12 n < 2048 := by
  unfold sgn
  rw [show (2 : Int) ^ (12 - 1) = 2048 from rfl, show (2 : Int) ^ 12 = 4096 from rfl]
  split <;> omega
theorem sgn20_bd {n : Int} (h0 : 0 ≤ n) (h1 : n < 1048576) : -524288 ≤ sgn 20 n ∧ sgn 20 n < 524288 := by
  unfold sgn
  rw [show (2 : Int) ^ (20 - 1) = 524288 from rfl, show (2 : Int) ^ 20 = 1048576 from rfl]
  split <;> omega

/-- one more piece -/
theorem signed_step (k : Nat) (p no n : Int) (w : Nat) (l : List S50) (j : Nat) (a b m : Nat) (hp : P32 p) (hj : j < l.length) (hl : l.length < 10) (hr : rd_T50 l j = ⟨a, b⟩) (hm : b + 1 = a + m) (hb : b < 32) (hm0 : 0 < m) (hw : w + m ≤ 32) (n0 : 0 ≤ n) (n1 : n < 2 ^ w) :
    inst_parcel_signed.l0 (k + 1) p no n w l (l.length : Int) j = inst_parcel_signed.l0 k p no (n * 2 ^ m + p / 2 ^ a % 2 ^ m) ((w + m : Nat) : Int) l (l.length : Int) ((j + 1 : Nat) : Int) := by
  rw [inst_parcel_signed.l0]
  have e1 : wrap64 ((b : Int) - (a : Int)) = b - a := by clear n1 n0 hr hp; unfold wrap64; omega
  have e2 : wrap64 ((b : Int) - a + 1) = (m : Int) := by clear n1 n0 hr hp; unfold wrap64; omega
  have e3 : wrap64 ((w : Int) + (m : Int)) = ((w + m : Nat) : Int) := by clear n1 n0 hr hp; unfold wrap64; omega
  have e4 : wrap64 ((j : Int) + 1) = ((j + 1 : Nat) : Int) := by clear n1 n0 hr hp; unfold wrap64; omega
  have h1 : (j : Int) < (l.length : Int) := Int.ofNat_lt.2 hj
  rw [if_pos h1, if_pos (Int.natCast_nonneg j), if_pos h1, hr]
  simp only [e1, e2, e3, e4]
  rw [if_pos (Int.natCast_nonneg m), bits_ev hp a b m hm hb hm0]
  simp only [Option.bind_some]
  have hM : (0 : Int) < 2 ^ m := Int.pow_pos (by decide)
  have q0 := Int.emod_nonneg (p / 2 ^ a) (Int.ne_of_gt hM)
  have q1 := Int.emod_lt_of_pos (p / 2 ^ a) hM
  have hpow : (2 : Int) ^ (w + m) ≤ 4294967296 := by
    have h1 : (2 : Nat) ^ (w + m) ≤ 2 ^ 32 := Nat.pow_le_pow_right (by decide) hw
    have h2 : ((2 ^ (w + m) : Nat) : Int) = 2 ^ (w + m) := by simp
    rw [← h2]; exact Int.ofNat_le.2 h1
  have hmm : (2 : Int) ^ m ≤ 4294967296 := by
    have h1 : (2 : Nat) ^ m ≤ 2 ^ 32 := Nat.pow_le_pow_right (by decide) (Nat.le_trans (Nat.le_add_left m w) hw)
    have h2 : ((2 ^ m : Nat) : Int) = 2 ^ m := by simp
    rw [← h2]; exact Int.ofNat_le.2 h1
  have hnm : n * 2 ^ m < 4294967296 ∧ 0 ≤ n * 2 ^ m := by
    refine ⟨?_, Int.mul_nonneg n0 (Int.le_of_lt hM)⟩
    have := Int.mul_lt_mul_of_pos_right n1 hM
    rw [← Int.pow_add] at this
    exact Int.lt_of_lt_of_le this hpow
  have e5 : shl .u64 n (m : Int) = n * 2 ^ m := by
    unfold shl
    have hmin : min ((m : Int).toNat) IntKind.u64.bits = m := by show min _ 64 = m; clear n1 n0 q0 q1 hM hnm hpow hmm; omega
    rw [hmin, IntKind.wrap_u64]
    exact Int.emod_eq_of_lt hnm.2 (Int.lt_trans hnm.1 (by decide))
  have e6 : IntKind.u64.wrap (p / 2 ^ a % 2 ^ m) = p / 2 ^ a % 2 ^ m := by
    rw [IntKind.wrap_u64]
    exact Int.emod_eq_of_lt q0 (Int.lt_of_lt_of_le q1 (Int.le_trans hmm (by decide)))
  rw [e5, e6]
  congr 1
  refine or_low m (by clear n1 n0 q0 q1 hM hnm hpow hmm e5 e6; omega) ⟨hnm.2, Int.lt_trans hnm.1 (by decide)⟩ (Int.mul_emod_left _ _) q0 q1
theorem signed_end (k : Nat) (p n : Int) (w no : Nat) (l : List S50) (j : Int) (hj : (l.length : Int) ≤ j) (hw : w = 12 ∨ w = 20) (n0 : 0 ≤ n) (n1 : n < 2 ^ w) (hno : no ≤ 12) :
    inst_parcel_signed.l0 (k + 1) p no n w l (l.length : Int) j = some (sgn w n * 2 ^ no) := by
  rw [inst_parcel_signed.l0, if_neg (by omega)]
  rcases hw with rfl | rfl
  · have e : wrap64 (64 - ((12 : Nat) : Int)) = 52 := by unfold wrap64; rfl
    rw [e, if_pos (by decide), if_pos (by omega), sign12 n0 n1]
    have hsb := sgn12_bd n0 n1
    congr 1
    unfold shl
    rw [show min ((no : Int).toNat) IntKind.i64.bits = no by show min _ 64 = no; omega]
    have hnn : no = 0 ∨ no = 1 ∨ no = 2 ∨ no = 3 ∨ no = 4 ∨ no = 5 ∨ no = 6 ∨ no = 7 ∨ no = 8 ∨ no = 9 ∨ no = 10 ∨ no = 11 ∨ no = 12 := by omega
    generalize sgn 12 n = s at *
    rw [IntKind.wrap_i64]
    clear n0 n1 hj e
    rcases hnn with rfl | rfl | rfl | rfl | rfl | rfl | rfl | rfl | rfl | rfl | rfl | rfl | rfl <;> omega
  · have e : wrap64 (64 - ((20 : Nat) : Int)) = 44 := by unfold wrap64; rfl
    rw [e, if_pos (by decide), if_pos (by omega), sign20 n0 n1]
    have hsb := sgn20_bd n0 n1
    congr 1
    unfold shl
    rw [show min ((no : Int).toNat) IntKind.i64.bits = no by show min _ 64 = no; omega]
    have hnn : no = 0 ∨ no = 1 ∨ no = 2 ∨ no = 3 ∨ no = 4 ∨ no = 5 ∨ no = 6 ∨ no = 7 ∨ no = 8 ∨ no = 9 ∨ no = 10 ∨ no = 11 ∨ no = 12 := by omega
    generalize sgn 20 n = s at *
    rw [IntKind.wrap_i64]
    clear n0 n1 hj e
    rcases hnn with rfl | rfl | rfl | rfl | rfl | rfl | rfl | rfl | rfl | rfl | rfl | rfl | rfl <;> omega

/-- the fields that a form sets -/
def fillT (p op form : Int) : T7 :=
  let rd := p / 128 % 32
  let rs1 := p / 32768 % 32
  let rs2 := p / 1048576 % 32
  if form = 0 then (op, rd, rs1, rs2, 0, 0, 4)
  else if form = 1 then (op, rd, rs1, 0, sgn 12 (p / 1048576 % 4096), 0, 4)
  else if form = 2 then (op, rd, rs1, 0, p / 1048576 % 64, 0, 4)
  else if form = 3 then (op, rd, rs1, 0, p / 1048576 % 32, 0, 4)
  else if form = 4 then (op, 0, rs1, rs2, sgn 12 (p / 33554432 % 128 * 32 + p / 128 % 32), 0, 4)
  else if form = 5 then (op, 0, rs1, rs2, sgn 12 (p / 2147483648 % 2 * 2048 + p / 128 % 2 * 1024 + p / 33554432 % 64 * 16 + p / 256 % 16) * 2, 0, 4)
  else if form = 6 then (op, rd, 0, 0, sgn 20 (p / 4096 % 1048576) * 4096, 0, 4)
  else if form = 7 then (op, rd, 0, 0, sgn 20 (p / 2147483648 % 2 * 524288 + p / 4096 % 256 * 2048 + p / 1048576 % 2 * 1024 + p / 2097152 % 1024) * 2, 0, 4)
  else if form = 8 then (op, rd, rs1, 0, 0, p / 1048576 % 4096, 4)
  else if form = 9 then (op, rd, 0, 0, rs1, p / 1048576 % 4096, 4)
  else if form = 11 then (op, 0, rs1, rs2, 0, 0, 4)
  else (op, 0, 0, 0, 0, 0, 4)

theorem sg_i {p : Int} (hp : P32 p) : inst_parcel_signed.f 2 p 0 [⟨20, 31⟩] = some (sgn 12 (p / 1048576 % 4096)) := by
  unfold inst_parcel_signed.f
  have h := signed_step 1 p 0 0 0 [⟨20, 31⟩] 0 20 31 12 hp (by decide) (by decide) rfl rfl (by decide) (by decide) (by decide) (by decide) (by decide)
  refine Eq.trans h ?_
  have e : (0 : Int) * 2 ^ 12 + p / 2 ^ 20 % 2 ^ 12 = p / 1048576 % 4096 := by
    rw [Int.zero_mul, Int.zero_add]; rfl
  rw [e]
  have := signed_end 0 p (p / 1048576 % 4096) 12 0 [⟨20, 31⟩] 1 (by decide) (.inl rfl) (by omega) (by show _ < (4096 : Int); omega) (by decide)
  refine Eq.trans this ?_
  rw [Int.pow_zero, Int.mul_one]
theorem sg_up {p : Int} (hp : P32 p) : inst_parcel_signed.f 2 p 12 [⟨12, 31⟩] = some (sgn 20 (p / 4096 % 1048576) * 4096) := by
  unfold inst_parcel_signed.f
  have h := signed_step 1 p 12 0 0 [⟨12, 31⟩] 0 12 31 20 hp (by decide) (by decide) rfl rfl (by decide) (by decide) (by decide) (by decide) (by decide)
  refine Eq.trans h ?_
  have e : (0 : Int) * 2 ^ 20 + p / 2 ^ 12 % 2 ^ 20 = p / 4096 % 1048576 := by
    rw [Int.zero_mul, Int.zero_add]; rfl
  rw [e]
  exact signed_end 0 p (p / 4096 % 1048576) 20 12 [⟨12, 31⟩] 1 (by decide) (.inr rfl) (by omega) (by show _ < (1048576 : Int); omega) (by decide)
theorem sg_st {p : Int} (hp : P32 p) : inst_parcel_signed.f 3 p 0 [⟨25, 31⟩, ⟨7, 11⟩] = some (sgn 12 (p / 33554432 % 128 * 32 + p / 128 % 32)) := by
  unfold inst_parcel_signed.f
  have h := signed_step 2 p 0 0 0 [⟨25, 31⟩, ⟨7, 11⟩] 0 25 31 7 hp (by decide) (by decide) rfl rfl (by decide) (by decide) (by decide) (by decide) (by decide)
  refine Eq.trans h ?_
  have e : (0 : Int) * 2 ^ 7 + p / 2 ^ 25 % 2 ^ 7 = p / 33554432 % 128 := by
    rw [Int.zero_mul, Int.zero_add]; rfl
  rw [e]
  have h := signed_step 1 p 0 (p / 33554432 % 128) 7 [⟨25, 31⟩, ⟨7, 11⟩] 1 7 11 5 hp (by decide) (by decide) rfl rfl (by decide) (by decide) (by decide) (by omega) (by show _ < (128 : Int); omega)
  refine Eq.trans h ?_
  have e : p / 33554432 % 128 * 2 ^ 5 + p / 2 ^ 7 % 2 ^ 5 = p / 33554432 % 128 * 32 + p / 128 % 32 := rfl
  rw [e]
  have := signed_end 0 p (p / 33554432 % 128 * 32 + p / 128 % 32) 12 0 [⟨25, 31⟩, ⟨7, 11⟩] 2 (by decide) (.inl rfl) (by omega) (by show _ < (4096 : Int); omega) (by decide)
  refine Eq.trans this ?_
  rw [Int.pow_zero, Int.mul_one]
theorem sg_4 {p : Int} (hp : P32 p) (no : Nat) (a0 b0 m0 a1 b1 m1 a2 b2 m2 a3 b3 m3 W : Nat) (h0 : b0 + 1 = a0 + m0) (h1 : b1 + 1 = a1 + m1) (h2 : b2 + 1 = a2 + m2) (h3 : b3 + 1 = a3 + m3)
    (g0 : b0 < 32 ∧ 0 < m0) (g1 : b1 < 32 ∧ 0 < m1) (g2 : b2 < 32 ∧ 0 < m2) (g3 : b3 < 32 ∧ 0 < m3) (hW : 0 + m0 + m1 + m2 + m3 = W) (hWW : W = 12 ∨ W = 20) (hno : no ≤ 12) :
    inst_parcel_signed.f 5 p no [⟨a0, b0⟩, ⟨a1, b1⟩, ⟨a2, b2⟩, ⟨a3, b3⟩] = some (sgn W ((((0 * 2 ^ m0 + p / 2 ^ a0 % 2 ^ m0) * 2 ^ m1 + p / 2 ^ a1 % 2 ^ m1) * 2 ^ m2 + p / 2 ^ a2 % 2 ^ m2) * 2 ^ m3 + p / 2 ^ a3 % 2 ^ m3) * 2 ^ no) := by
  have bd : ∀ (n : Int) (w a m : Nat), 0 ≤ n → n < 2 ^ w → 0 ≤ n * 2 ^ m + p / 2 ^ a % 2 ^ m ∧ n * 2 ^ m + p / 2 ^ a % 2 ^ m < 2 ^ (w + m) := by
    intro n w a m n0 n1
    have hM : (0 : Int) < 2 ^ m := Int.pow_pos (by decide)
    have q0 := Int.emod_nonneg (p / 2 ^ a) (Int.ne_of_gt hM)
    have q1 := Int.emod_lt_of_pos (p / 2 ^ a) hM
    generalize p / 2 ^ a % 2 ^ m = q at *
    refine ⟨Int.add_nonneg (Int.mul_nonneg n0 (Int.le_of_lt hM)) q0, ?_⟩
    rw [Int.pow_add]
    have h1 : (n + 1) * 2 ^ m ≤ 2 ^ w * 2 ^ m := Int.mul_le_mul_of_nonneg_right (by exact n1) (Int.le_of_lt hM)
    rw [Int.add_mul, Int.one_mul] at h1
    exact Int.lt_of_lt_of_le (Int.add_lt_add_left q1 _) h1
  have b1' := bd 0 0 a0 m0 (by decide) (by decide)
  have b2' := bd _ _ a1 m1 b1'.1 b1'.2
  have b3' := bd _ _ a2 m2 b2'.1 b2'.2
  have b4' := bd _ _ a3 m3 b3'.1 b3'.2
  have w0 : 0 + m0 ≤ 32 := by clear b1' b2' b3' b4' bd; omega
  have w1 : 0 + m0 + m1 ≤ 32 := by clear b1' b2' b3' b4' bd; omega
  have w2 : 0 + m0 + m1 + m2 ≤ 32 := by clear b1' b2' b3' b4' bd; omega
  have w3 : 0 + m0 + m1 + m2 + m3 ≤ 32 := by clear b1' b2' b3' b4' bd; omega
  unfold inst_parcel_signed.f
  refine Eq.trans (signed_step 4 p no 0 0 [⟨a0, b0⟩, ⟨a1, b1⟩, ⟨a2, b2⟩, ⟨a3, b3⟩] 0 a0 b0 m0 hp (show (0 : Nat) < 4 by decide) (show (4 : Nat) < 10 by decide) rfl h0 g0.1 g0.2 w0 (by decide) (by decide)) ?_
  refine Eq.trans (signed_step 3 p no _ _ [⟨a0, b0⟩, ⟨a1, b1⟩, ⟨a2, b2⟩, ⟨a3, b3⟩] 1 a1 b1 m1 hp (show (1 : Nat) < 4 by decide) (show (4 : Nat) < 10 by decide) rfl h1 g1.1 g1.2 w1 b1'.1 b1'.2) ?_
  refine Eq.trans (signed_step 2 p no _ _ [⟨a0, b0⟩, ⟨a1, b1⟩, ⟨a2, b2⟩, ⟨a3, b3⟩] 2 a2 b2 m2 hp (show (2 : Nat) < 4 by decide) (show (4 : Nat) < 10 by decide) rfl h2 g2.1 g2.2 w2 b2'.1 b2'.2) ?_
  refine Eq.trans (signed_step 1 p no _ _ [⟨a0, b0⟩, ⟨a1, b1⟩, ⟨a2, b2⟩, ⟨a3, b3⟩] 3 a3 b3 m3 hp (show (3 : Nat) < 4 by decide) (show (4 : Nat) < 10 by decide) rfl h3 g3.1 g3.2 w3 b3'.1 b3'.2) ?_
  rw [hW] at b4' ⊢
  exact signed_end 0 p _ W no [⟨a0, b0⟩, ⟨a1, b1⟩, ⟨a2, b2⟩, ⟨a3, b3⟩] 4 (show (((4 : Nat) : Int)) ≤ 4 by decide) hWW b4'.1 b4'.2 hno
theorem sg_b {p : Int} (hp : P32 p) : inst_parcel_signed.f 5 p 1 [⟨31, 31⟩, ⟨7, 7⟩, ⟨25, 30⟩, ⟨8, 11⟩] = some (sgn 12 (p / 2147483648 % 2 * 2048 + p / 128 % 2 * 1024 + p / 33554432 % 64 * 16 + p / 256 % 16) * 2) := by
  refine Eq.trans (sg_4 hp 1 31 31 1 7 7 1 25 30 6 8 11 4 12 rfl rfl rfl rfl (by decide) (by decide) (by decide) (by decide) rfl (.inl rfl) (by decide)) ?_
  congr 3
  show (((0 * 2 + p / 2147483648 % 2) * 2 + p / 128 % 2) * 64 + p / 33554432 % 64) * 16 + p / 256 % 16 = _
  omega
theorem sg_j {p : Int} (hp : P32 p) : inst_parcel_signed.f 5 p 1 [⟨31, 31⟩, ⟨12, 19⟩, ⟨20, 20⟩, ⟨21, 30⟩] = some (sgn 20 (p / 2147483648 % 2 * 524288 + p / 4096 % 256 * 2048 + p / 1048576 % 2 * 1024 + p / 2097152 % 1024) * 2) := by
  refine Eq.trans (sg_4 hp 1 31 31 1 12 19 8 20 20 1 21 30 10 20 rfl rfl rfl rfl (by decide) (by decide) (by decide) (by decide) rfl (.inr rfl) (by decide)) ?_
  congr 3
  show (((0 * 2 + p / 2147483648 % 2) * 256 + p / 4096 % 256) * 2 + p / 1048576 % 2) * 1024 + p / 2097152 % 1024 = _
  omega

theorem r_ev {p : Int} (hp : P32 p) (op : Int) : inst_parcel_r.f p op = some (fillT p op 0) := by
  unfold inst_parcel_r.f
  rw [rd_ev hp, rs1_ev hp, rs2_ev hp]; rfl
theorem i_ev {p : Int} (hp : P32 p) (op : Int) : inst_parcel_i.f 2 p op = some (fillT p op 1) := by
  unfold inst_parcel_i.f
  rw [rd_ev hp, rs1_ev hp]; simp only [Option.bind_some]; rw [sg_i hp]; rfl
theorem shift_ev25 {p : Int} (hp : P32 p) (op : Int) : inst_parcel_shift.f p op 25 = some (fillT p op 2) := by
  unfold inst_parcel_shift.f
  rw [rd_ev hp, rs1_ev hp, show inst_parcel_bits.f p 20 25 = _ from bits_ev hp 20 25 6 rfl (by decide) (by decide)]
  simp only [Option.bind_some]
  have : wrap64 (p / 2 ^ 20 % 2 ^ 6) = p / 1048576 % 64 := by show wrap64 (p / 1048576 % 64) = _; unfold wrap64; omega
  rw [this]; rfl
theorem shift_ev24 {p : Int} (hp : P32 p) (op : Int) : inst_parcel_shift.f p op 24 = some (fillT p op 3) := by
  unfold inst_parcel_shift.f
  rw [rd_ev hp, rs1_ev hp, show inst_parcel_bits.f p 20 24 = _ from bits_ev hp 20 24 5 rfl (by decide) (by decide)]
  simp only [Option.bind_some]
  have : wrap64 (p / 2 ^ 20 % 2 ^ 5) = p / 1048576 % 32 := by show wrap64 (p / 1048576 % 32) = _; unfold wrap64; omega
  rw [this]; rfl
theorem store_ev {p : Int} (hp : P32 p) (op : Int) : inst_parcel_store.f 3 p op = some (fillT p op 4) := by
  unfold inst_parcel_store.f
  rw [rs1_ev hp, rs2_ev hp]; simp only [Option.bind_some]; rw [sg_st hp]; rfl
theorem branch_ev {p : Int} (hp : P32 p) (op : Int) : inst_parcel_branch.f 5 p op = some (fillT p op 5) := by
  unfold inst_parcel_branch.f
  rw [rs1_ev hp, rs2_ev hp]; simp only [Option.bind_some]; rw [sg_b hp]; rfl
theorem upper_ev {p : Int} (hp : P32 p) (op : Int) : inst_parcel_upper.f 2 p op = some (fillT p op 6) := by
  unfold inst_parcel_upper.f
  rw [rd_ev hp]; simp only [Option.bind_some]; rw [sg_up hp]; rfl
theorem ill_ev {p : Int} (hp : P32 p) : inst_parcel_illegal.f p = some (0, 0, 0, 0, p, 0, 4) := by
  unfold inst_parcel_illegal.f
  have : wrap64 p = p := by unfold P32 at hp; unfold wrap64; omega
  rw [this]
end Go.Proofs.Ytogdifjdlkpehaa.PA
