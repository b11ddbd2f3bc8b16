/- What a whole register's read and write are. -/
import Derived.Test.YtefhcadlakakbaaH
import Derived.Test.YtefhcadlakakbaaBv
namespace Go.Proofs.Ytefhcadlakakbaa
open Go.RowKit Go.Shelf
set_option linter.all false

theorem bv_of_int {v : Int} (h0 : 0 ≤ v) (h1 : v < 18446744073709551616) : ∃ x : BitVec 64, U x = v := ⟨BitVec.ofInt 64 v, by unfold U; rw [BitVec.toNat_ofInt]; omega⟩
theorem wr_whole {x v : Int} (hx0 : 0 ≤ x) (hx1 : x < 18446744073709551616) (h0 : 0 ≤ v) (h1 : v < 18446744073709551616) : wrV x 0 18446744073709551615 18446744073709551615 v = v := by
  obtain ⟨X, rfl⟩ := bv_of_int hx0 hx1
  obtain ⟨V, rfl⟩ := bv_of_int h0 h1
  have hM : (18446744073709551615 : Int) = U 18446744073709551615#64 := by decide
  have h2 : ∀ y : BitVec 64, IntKind.u64.wrap (U y * 2 ^ (0 : Int).toNat) = U y := by
    intro y
    have := U_bd y
    show IntKind.u64.wrap (U y * 1) = _
    rw [Int.mul_one, IntKind.wrap_u64]; omega
  unfold wrV
  rw [hM, h2, bv_and, h2, bv_andNot, bv_or, bv_and]
  congr 1
  apply BitVec.eq_of_getLsbD_eq
  intro i hi
  have : (18446744073709551615#64).getLsbD i = true := by
    have : (18446744073709551615#64 : BitVec 64) = BitVec.allOnes 64 := by decide
    rw [this, BitVec.getLsbD_allOnes]; simp [hi]
  simp [BitVec.getLsbD_and, BitVec.getLsbD_or, BitVec.getLsbD_not, this, hi]
theorem rd_whole {x : Int} (hx0 : 0 ≤ x) (hx1 : x < 18446744073709551616) : bits .and .u64 (x / 2 ^ (0 : Int).toNat) 18446744073709551615 = x := by
  obtain ⟨X, rfl⟩ := bv_of_int hx0 hx1
  have hM : (18446744073709551615 : Int) = U 18446744073709551615#64 := by decide
  show bits .and .u64 (U X / 1) _ = _
  rw [Int.ediv_one, hM, bv_and]
  congr 1
  apply BitVec.eq_of_getLsbD_eq
  intro i hi
  have : (18446744073709551615#64).getLsbD i = true := by
    have : (18446744073709551615#64 : BitVec 64) = BitVec.allOnes 64 := by decide
    rw [this, BitVec.getLsbD_allOnes]; simp [hi]
  simp [BitVec.getLsbD_and, this]

theorem acc2 : acc 49144 8 = some 2 := by decide +kernel
theorem acc1 : acc 16384 8 = some 1 := by decide +kernel
theorem write_mt {b : Nat} {a m t : Int} (v : Int) (w : World) (hb : w.heap[b]? = some (clO a m t)) (t0 : 0 ≤ t) (t1 : t < 18446744073709551616) (h0 : 0 ≤ v) (h1 : v < 18446744073709551616) :
    Calls Try.prog 12 #[.pointer (some ⟨b, 0, none⟩), .int .u64 49144, .int .i64 8, .int .u64 v] w fun e w' => e = .returned (.bool true) ∧ w'.heap[b]? = some (clO a m v) ∧ Fr [b] w w' := by
  have := write_any b (st3 a m t) 49144 8 v w (by decide) (by decide) hb
  rw [acc2] at this
  have e : clR (wrR (st3 a m t) 49144 8 v) = clO a m v := by
    unfold clR wrR
    rw [acc2]
    show clO a m (wrV t (8 * (49144 - bs 2)) (maskW 8) (kp 2) v) = _
    rw [show (8 * (49144 - bs 2) : Int) = 0 from rfl, show maskW 8 = 18446744073709551615 from rfl, show kp 2 = 18446744073709551615 from rfl, wr_whole t0 t1 h0 h1]
  rw [e] at this
  exact this
theorem write_mc {b : Nat} {a m t : Int} (v : Int) (w : World) (hb : w.heap[b]? = some (clO a m t)) (t0 : 0 ≤ m) (t1 : m < 18446744073709551616) (h0 : 0 ≤ v) (h1 : v < 18446744073709551616) :
    Calls Try.prog 12 #[.pointer (some ⟨b, 0, none⟩), .int .u64 16384, .int .i64 8, .int .u64 v] w fun e w' => e = .returned (.bool true) ∧ w'.heap[b]? = some (clO a v t) ∧ Fr [b] w w' := by
  have := write_any b (st3 a m t) 16384 8 v w (by decide) (by decide) hb
  rw [acc1] at this
  have e : clR (wrR (st3 a m t) 16384 8 v) = clO a v t := by
    unfold clR wrR
    rw [acc1]
    show clO a (wrV m (8 * (16384 - bs 1)) (maskW 8) (kp 1) v) t = _
    rw [show (8 * (16384 - bs 1) : Int) = 0 from rfl, show maskW 8 = 18446744073709551615 from rfl, show kp 1 = 18446744073709551615 from rfl, wr_whole t0 t1 h0 h1]
  rw [e] at this
  exact this
theorem reads_mt {b : Nat} {a m t : Int} (w : World) (hb : w.heap[b]? = some (clO a m t)) (t0 : 0 ≤ t) (t1 : t < 18446744073709551616) :
    Calls Try.prog 18 #[.pointer (some ⟨b, 0, none⟩), .int .u64 49144, .int .i64 8, .int .u64 t] w fun e w' => e = .returned (.bool true) ∧ Fr [] w w' := by
  refine reads_true b (st3 a m t) 49144 8 t w (by decide) (by decide) hb (by rw [acc2]; rfl) ?_
  unfold rdR
  rw [acc2]
  show bits .and .u64 (t / 2 ^ (8 * (49144 - bs 2)).toNat) (maskW 8) = t
  rw [show (8 * (49144 - bs 2) : Int) = 0 from rfl, show maskW 8 = 18446744073709551615 from rfl, rd_whole t0 t1]

/-- what stays true round the loop of ClintWaits -/
def LWt (now until_ : Int) (w : World) (k : Nat) (wr : World) : Prop := wr.heap[w.heap.size]? = some (clO 0 until_ ((now + k) % 18446744073709551616)) ∧ Fr [] w wr

set_option maxRecDepth 100000 in
set_option maxHeartbeats 4000000 in
theorem law_ClintWaits (now until_ ticks : Int) (w : World) (n0 : 0 ≤ now) (n1 : now < 18446744073709551616) (u0 : 0 ≤ until_) (u1 : until_ < 18446744073709551616) (k0 : 0 ≤ ticks) (k1 : ticks < 65536) :
    Calls Try.prog 6 #[.int .u64 now, .int .u64 until_, .int .u16 ticks] w fun e w' => e = .returned (.bool true) ∧ Fr [] w w' := by
  go_enter Try.func6, Try.ntmps6
  go_wp2_with fail
  refine (new_any _).mono ?_
  rintro e w' ⟨rfl, rfl⟩
  have HC := hid (blk_new w (clO 0 18446744073709551615 0))
  have hF : Fr [] w (w.alloc (clO 0 18446744073709551615 0)) := (Fr.refl _ _).alloc _
  go_wp2_with fail
  refine (write_mt now _ HC.out (by decide) (by decide) n0 n1).mono ?_
  rintro e w1 ⟨rfl, hn, hd⟩
  replace HC := hid hn
  replace hF : Fr [] w w1 := hF.step hd (fun j hj => .inr (by simp at hj; omega))
  clear hn hd
  go_wp2_with fail
  refine (write_mc until_ _ HC.out (by decide) (by decide) u0 u1).mono ?_
  rintro e w2 ⟨rfl, hn, hd⟩
  replace HC := hid hn
  replace hF : Fr [] w w2 := hF.step hd (fun j hj => .inr (by simp at hj; omega))
  clear hn hd
  go_wp2_with fail
  go_loopw [8] (fun i wr => ∃ k : Nat, (k : Int) ≤ ticks % 301 + 1 ∧ now + k ≤ 18446744073709551616 ∧ i = .int .u64 k ∧ LWt now until_ w k wr) (fun i _ => (ticks % 301 + 1).toNat - (intOf i).toNat)
  case atStart => exact ⟨0, by omega, by omega, rfl, by have := HC.out; unfold LWt; rw [show (now + ((0 : Nat) : Int)) % 18446744073709551616 = now by omega]; exact ⟨this, hF⟩⟩
  case round =>
    obtain ⟨k, hk, hk2, rfl, hL⟩ := hrel
    have hlb : now + (k : Int) < 18446744073709551616 ∨ now + (k : Int) = 18446744073709551616 := by omega
    have HC := hid hL.1
    have hF := hL.2
    clear hL
    by_cases hlt : (k : Int) ≤ ticks % 301
    · rcases hlb with hlb | hlb
      · rw [show (now + (k : Int)) % 18446744073709551616 = now + k by omega] at HC
        have e9 : IntKind.u64.wrap (now + k) = now + k := by rw [IntKind.wrap_u64]; omega
        have hnl : ¬ now + (k : Int) < now := by omega
        by_cases hu : now + (k : Int) ≥ until_
        · have hb := hid fun w' (h : w'.heap[w.heap.size]? = some (clO 0 until_ (now + k))) => bits_some w.heap.size 0 until_ (now + k) w' h (.inl rfl)
          rw [show btV 0 until_ (now + k) = 128 by simp [btV, hu]] at hb
          go_wp2_with ((first | (go_at_call 18; ((with_reducible refine (reads_mt _ HC.out (by omega) hlb).mono ?_)); rintro e w9 ⟨rfl, hd⟩; replace HC := hid (hd.keeps HC.out (by simp)); replace hF := hF.trans hd; clear hd) | (go_at_call 16; ((with_reducible refine (hb.out _ HC.out).mono ?_)); rintro e w9 ⟨rfl, hd⟩; replace HC := hid (hd.keeps HC.out (by simp)); replace hF := hF.trans hd; clear hd) | (go_at_call 14; ((with_reducible refine (tick_some _ _ _ _ _ HC.out).mono ?_)); rintro e w9 ⟨rfl, hn, hd⟩; replace HC := hid hn; replace hF := hF.step hd (fun j hj => .inr (by simp at hj; omega)); clear hn hd)))
          go_roundw
          case rel => exact ⟨k + 1, by omega, by omega, by go_num, by have := HC.out; unfold LWt; rw [show (now + ((k + 1 : Nat) : Int)) % 18446744073709551616 = IntKind.u64.wrap (now + k + 1) by rw [IntKind.wrap_u64]; omega]; exact ⟨this, hF⟩⟩
          case measure => simp [intOf]; omega
        · have hb := hid fun w' (h : w'.heap[w.heap.size]? = some (clO 0 until_ (now + k))) => bits_some w.heap.size 0 until_ (now + k) w' h (.inl rfl)
          rw [show btV 0 until_ (now + k) = 0 by simp [btV, hu]] at hb
          go_wp2_with ((first | (go_at_call 18; ((with_reducible refine (reads_mt _ HC.out (by omega) hlb).mono ?_)); rintro e w9 ⟨rfl, hd⟩; replace HC := hid (hd.keeps HC.out (by simp)); replace hF := hF.trans hd; clear hd) | (go_at_call 16; ((with_reducible refine (hb.out _ HC.out).mono ?_)); rintro e w9 ⟨rfl, hd⟩; replace HC := hid (hd.keeps HC.out (by simp)); replace hF := hF.trans hd; clear hd) | (go_at_call 14; ((with_reducible refine (tick_some _ _ _ _ _ HC.out).mono ?_)); rintro e w9 ⟨rfl, hn, hd⟩; replace HC := hid hn; replace hF := hF.step hd (fun j hj => .inr (by simp at hj; omega)); clear hn hd)))
          go_roundw
          case rel => exact ⟨k + 1, by omega, by omega, by go_num, by have := HC.out; unfold LWt; rw [show (now + ((k + 1 : Nat) : Int)) % 18446744073709551616 = IntKind.u64.wrap (now + k + 1) by rw [IntKind.wrap_u64]; omega]; exact ⟨this, hF⟩⟩
          case measure => simp [intOf]; omega
      · have e9 : IntKind.u64.wrap (now + k) = 0 := by rw [IntKind.wrap_u64]; omega
        have hnl : (0 : Int) < now := by omega
        have HB := hid hlb
        clear hlb
        go_wp2_with (go_at_call 7; ((with_reducible refine (awake_any _).mono ?_)); rintro e w9 ⟨rfl, hd⟩; replace hF := hF.trans hd; clear hd)
        go_ret
        exact ⟨rfl, hF⟩
    · go_wp2_with (go_at_call 7; ((with_reducible refine (awake_any _).mono ?_)); rintro e w9 ⟨rfl, hd⟩; replace hF := hF.trans hd; clear hd)
      go_ret
      exact ⟨rfl, hF⟩

theorem walk_ClintWaits (a0 : Int) (a1 : Int) (a2 : Int) (w : World) (w0 : (Lit.int .u64 a0).wf = true) (w1 : (Lit.int .u64 a1).wf = true) (w2 : (Lit.int .u16 a2).wf = true) :
    Calls Try.prog 6 #[.int .u64 a0, .int .u64 a1, .int .u16 a2] w fun e w' => e = .returned (.bool true) ∧ Below w.heap.size w w' := by
  have b0 := bounds_u64 w0
  have b1 := bounds_u64 w1
  have b2 := bounds_u16 w2
  exact (law_ClintWaits a0 a1 a2 w (by omega) (by omega) (by omega) (by omega) (by omega) (by omega)).mono (by rintro e w' ⟨rfl, hb⟩; exact ⟨rfl, hb.below (Nat.le_refl _) (by simp)⟩)
end Go.Proofs.Ytefhcadlakakbaa
