/- Contract of almonryref03.Parcel: a parcel that decodes to an instruction, if one does. -/
import Derived.Test.YtogdifjdlkpehaaHRef
import Derived.Test.YtogdifjdlkpehaaHOf
import Derived.Test.YtogdifjdlkpehaaK2
import Derived.BigQuiet
import Derived.Deep.QuietTactic
namespace Go.Proofs.Ytogdifjdlkpehaa.PA
open Go.RowKit Go.Proofs.YtogdifjdlkpehaaW.PrintWords Go.Proofs.YtogdifjdlkpehaaW.PrintLast Go.Proofs.YtogdifjdlkpehaaW.PrintMore
set_option linter.all false
theorem dcall {f : FuncId} {args : Array Value} {v : Value} {w : World} (n : Nat) (h : Hid (∀ w, Calls Try.prog f args w fun e w' => e = .returned v ∧ ∃ m, w' = w.drewN m)) : Calls Try.prog f args (w.drewN n) fun e w'' => e = .returned v ∧ ∃ m, w'' = w.drewN m :=
  (h.out _).mono fun _ _ ⟨h1, m, h2⟩ => ⟨h1, n + m, by rw [h2, World.drewN_drewN]⟩
/-- some bits of a number, moved -/
def putT (n f wd at_ : Int) : Int := n / f % wd * at_
theorem u64_shr (n : Int) (f : Nat) (hf : f ≤ 64) : shr .u64 (IntKind.u64.wrap n) f = n % 18446744073709551616 / 2 ^ f := by
  unfold shr
  rw [show min ((f : Int).toNat) IntKind.u64.bits = f by show min _ 64 = f; omega, IntKind.wrap_u64]
theorem u64_one (k : Nat) (hk : k < 64) : shl .u64 1 k = 2 ^ k := by
  unfold shl
  rw [show min ((k : Int).toNat) IntKind.u64.bits = k by show min _ 64 = k; omega, IntKind.wrap_u64, Int.one_mul]
  have h : (2 : Nat) ^ k < 2 ^ 64 := Nat.pow_lt_pow_right (by decide) hk
  have h2 : (2 : Int) ^ k = ((2 ^ k : Nat) : Int) := by simp
  rw [h2]
  exact Int.emod_eq_of_lt (Int.natCast_nonneg _) (Int.ofNat_lt.2 h)
theorem put_ev (n : Int) (f t at_ k : Nat) (hk : t + 1 = f + k) (hk0 : 0 < k) (ht : t < 64) (ha : k + at_ ≤ 32) : almonryref03_put.f n f t at_ = some (putT n (2 ^ f) (2 ^ k) (2 ^ at_)) := by
  unfold almonryref03_put.f
  have e1 : wrap64 ((t : Int) - (f : Int)) = t - f := by unfold wrap64; omega
  have e2 : wrap64 ((t : Int) - f + 1) = (k : Int) := by unfold wrap64; omega
  rw [e1, e2, if_pos (by omega), if_pos (by omega), u64_one k (by omega)]
  have hkp : (0 : Int) < 2 ^ k := Int.pow_pos (by decide)
  have hfp : (0 : Int) < 2 ^ f := Int.pow_pos (by decide)
  rw [if_neg (by omega), if_pos (by omega), u64_shr n f (by omega)]
  have h0 : 0 ≤ n % 18446744073709551616 / 2 ^ f := Int.ediv_nonneg (Int.emod_nonneg _ (by decide)) (Int.le_of_lt hfp)
  rw [Int.tmod_eq_emod_of_nonneg h0]
  have e3 : n % 18446744073709551616 / 2 ^ f % 2 ^ k = n / 2 ^ f % 2 ^ k := by
    have h64 : (18446744073709551616 : Int) = 2 ^ f * 2 ^ (64 - f) := by
      rw [← Int.pow_add, show f + (64 - f) = 64 by omega]; rfl
    have hkk : (2 : Int) ^ k ∣ 2 ^ (64 - f) := ⟨2 ^ (64 - f - k), by rw [← Int.pow_add, show k + (64 - f - k) = 64 - f by omega]⟩
    have h1 : n % 18446744073709551616 / 2 ^ f = n / 2 ^ f % 2 ^ (64 - f) := by
      have := Int.emod_add_mul_ediv n 18446744073709551616
      have h2 : n = n % 18446744073709551616 + 2 ^ f * (2 ^ (64 - f) * (n / 18446744073709551616)) := by
        rw [← Int.mul_assoc, ← h64]; omega
      have h3 : n / 2 ^ f = n % 18446744073709551616 / 2 ^ f + 2 ^ (64 - f) * (n / 18446744073709551616) := by
        conv => lhs; rw [h2]
        rw [Int.add_mul_ediv_left _ _ (by omega)]
      rw [h3, Int.add_mul_emod_self_left]
      refine (Int.emod_eq_of_lt h0 ?_).symm
      refine Int.ediv_lt_of_lt_mul hfp ?_
      rw [Int.mul_comm, ← h64]
      exact Int.emod_lt_of_pos _ (by decide)
    rw [h1, Int.emod_emod_of_dvd _ hkk]
  rw [e3]
  have r0 := Int.emod_nonneg (n / 2 ^ f) (Int.ne_of_gt hkp)
  have r1 := Int.emod_lt_of_pos (n / 2 ^ f) hkp
  have hap : (0 : Int) < 2 ^ at_ := Int.pow_pos (by decide)
  have hlt : n / 2 ^ f % 2 ^ k * 2 ^ at_ < 4294967296 := by
    have h1 := Int.mul_lt_mul_of_pos_right r1 hap
    rw [← Int.pow_add] at h1
    have h2 : (2 : Nat) ^ (k + at_) ≤ 2 ^ 32 := Nat.pow_le_pow_right (by decide) ha
    have h3 : (2 : Int) ^ (k + at_) = ((2 ^ (k + at_) : Nat) : Int) := by simp
    rw [h3] at h1
    omega
  have hnn : 0 ≤ n / 2 ^ f % 2 ^ k * 2 ^ at_ := Int.mul_nonneg r0 (Int.le_of_lt hap)
  have e4 : shl .u64 (n / 2 ^ f % 2 ^ k) at_ = n / 2 ^ f % 2 ^ k * 2 ^ at_ := by
    unfold shl
    rw [show min ((at_ : Int).toNat) IntKind.u64.bits = at_ by show min _ 64 = at_; omega, IntKind.wrap_u64]
    omega
  rw [e4]
  unfold putT
  congr 1
  omega
theorem c_put_0_11_20 (n : Int) (w : World) : Calls Try.prog 53 #[.int .i64 n, .int .i64 0, .int .i64 11, .int .i64 20] w fun e w' => e = .returned (.int .u32 (putT n 1 4096 1048576)) ∧ ∃ m, w' = w.drewN m :=
  (almonryref03_put.calls n 0 11 20 _ w (put_ev n 0 11 20 12 rfl (by decide) (by decide) (by decide))).mono fun _ _ ⟨h1, h2⟩ => ⟨h1, by obtain ⟨n, rfl⟩ := h2; exact ⟨n, rfl⟩⟩
theorem c_put_0_5_20 (n : Int) (w : World) : Calls Try.prog 53 #[.int .i64 n, .int .i64 0, .int .i64 5, .int .i64 20] w fun e w' => e = .returned (.int .u32 (putT n 1 64 1048576)) ∧ ∃ m, w' = w.drewN m :=
  (almonryref03_put.calls n 0 5 20 _ w (put_ev n 0 5 20 6 rfl (by decide) (by decide) (by decide))).mono fun _ _ ⟨h1, h2⟩ => ⟨h1, by obtain ⟨n, rfl⟩ := h2; exact ⟨n, rfl⟩⟩
theorem c_put_0_4_20 (n : Int) (w : World) : Calls Try.prog 53 #[.int .i64 n, .int .i64 0, .int .i64 4, .int .i64 20] w fun e w' => e = .returned (.int .u32 (putT n 1 32 1048576)) ∧ ∃ m, w' = w.drewN m :=
  (almonryref03_put.calls n 0 4 20 _ w (put_ev n 0 4 20 5 rfl (by decide) (by decide) (by decide))).mono fun _ _ ⟨h1, h2⟩ => ⟨h1, by obtain ⟨n, rfl⟩ := h2; exact ⟨n, rfl⟩⟩
theorem c_put_5_11_25 (n : Int) (w : World) : Calls Try.prog 53 #[.int .i64 n, .int .i64 5, .int .i64 11, .int .i64 25] w fun e w' => e = .returned (.int .u32 (putT n 32 128 33554432)) ∧ ∃ m, w' = w.drewN m :=
  (almonryref03_put.calls n 5 11 25 _ w (put_ev n 5 11 25 7 rfl (by decide) (by decide) (by decide))).mono fun _ _ ⟨h1, h2⟩ => ⟨h1, by obtain ⟨n, rfl⟩ := h2; exact ⟨n, rfl⟩⟩
theorem c_put_0_4_7 (n : Int) (w : World) : Calls Try.prog 53 #[.int .i64 n, .int .i64 0, .int .i64 4, .int .i64 7] w fun e w' => e = .returned (.int .u32 (putT n 1 32 128)) ∧ ∃ m, w' = w.drewN m :=
  (almonryref03_put.calls n 0 4 7 _ w (put_ev n 0 4 7 5 rfl (by decide) (by decide) (by decide))).mono fun _ _ ⟨h1, h2⟩ => ⟨h1, by obtain ⟨n, rfl⟩ := h2; exact ⟨n, rfl⟩⟩
theorem c_put_12_12_31 (n : Int) (w : World) : Calls Try.prog 53 #[.int .i64 n, .int .i64 12, .int .i64 12, .int .i64 31] w fun e w' => e = .returned (.int .u32 (putT n 4096 2 2147483648)) ∧ ∃ m, w' = w.drewN m :=
  (almonryref03_put.calls n 12 12 31 _ w (put_ev n 12 12 31 1 rfl (by decide) (by decide) (by decide))).mono fun _ _ ⟨h1, h2⟩ => ⟨h1, by obtain ⟨n, rfl⟩ := h2; exact ⟨n, rfl⟩⟩
theorem c_put_11_11_7 (n : Int) (w : World) : Calls Try.prog 53 #[.int .i64 n, .int .i64 11, .int .i64 11, .int .i64 7] w fun e w' => e = .returned (.int .u32 (putT n 2048 2 128)) ∧ ∃ m, w' = w.drewN m :=
  (almonryref03_put.calls n 11 11 7 _ w (put_ev n 11 11 7 1 rfl (by decide) (by decide) (by decide))).mono fun _ _ ⟨h1, h2⟩ => ⟨h1, by obtain ⟨n, rfl⟩ := h2; exact ⟨n, rfl⟩⟩
theorem c_put_5_10_25 (n : Int) (w : World) : Calls Try.prog 53 #[.int .i64 n, .int .i64 5, .int .i64 10, .int .i64 25] w fun e w' => e = .returned (.int .u32 (putT n 32 64 33554432)) ∧ ∃ m, w' = w.drewN m :=
  (almonryref03_put.calls n 5 10 25 _ w (put_ev n 5 10 25 6 rfl (by decide) (by decide) (by decide))).mono fun _ _ ⟨h1, h2⟩ => ⟨h1, by obtain ⟨n, rfl⟩ := h2; exact ⟨n, rfl⟩⟩
theorem c_put_1_4_8 (n : Int) (w : World) : Calls Try.prog 53 #[.int .i64 n, .int .i64 1, .int .i64 4, .int .i64 8] w fun e w' => e = .returned (.int .u32 (putT n 2 16 256)) ∧ ∃ m, w' = w.drewN m :=
  (almonryref03_put.calls n 1 4 8 _ w (put_ev n 1 4 8 4 rfl (by decide) (by decide) (by decide))).mono fun _ _ ⟨h1, h2⟩ => ⟨h1, by obtain ⟨n, rfl⟩ := h2; exact ⟨n, rfl⟩⟩
theorem c_put_12_31_12 (n : Int) (w : World) : Calls Try.prog 53 #[.int .i64 n, .int .i64 12, .int .i64 31, .int .i64 12] w fun e w' => e = .returned (.int .u32 (putT n 4096 1048576 4096)) ∧ ∃ m, w' = w.drewN m :=
  (almonryref03_put.calls n 12 31 12 _ w (put_ev n 12 31 12 20 rfl (by decide) (by decide) (by decide))).mono fun _ _ ⟨h1, h2⟩ => ⟨h1, by obtain ⟨n, rfl⟩ := h2; exact ⟨n, rfl⟩⟩
theorem c_put_20_20_31 (n : Int) (w : World) : Calls Try.prog 53 #[.int .i64 n, .int .i64 20, .int .i64 20, .int .i64 31] w fun e w' => e = .returned (.int .u32 (putT n 1048576 2 2147483648)) ∧ ∃ m, w' = w.drewN m :=
  (almonryref03_put.calls n 20 20 31 _ w (put_ev n 20 20 31 1 rfl (by decide) (by decide) (by decide))).mono fun _ _ ⟨h1, h2⟩ => ⟨h1, by obtain ⟨n, rfl⟩ := h2; exact ⟨n, rfl⟩⟩
theorem c_put_12_19_12 (n : Int) (w : World) : Calls Try.prog 53 #[.int .i64 n, .int .i64 12, .int .i64 19, .int .i64 12] w fun e w' => e = .returned (.int .u32 (putT n 4096 256 4096)) ∧ ∃ m, w' = w.drewN m :=
  (almonryref03_put.calls n 12 19 12 _ w (put_ev n 12 19 12 8 rfl (by decide) (by decide) (by decide))).mono fun _ _ ⟨h1, h2⟩ => ⟨h1, by obtain ⟨n, rfl⟩ := h2; exact ⟨n, rfl⟩⟩
theorem c_put_11_11_20 (n : Int) (w : World) : Calls Try.prog 53 #[.int .i64 n, .int .i64 11, .int .i64 11, .int .i64 20] w fun e w' => e = .returned (.int .u32 (putT n 2048 2 1048576)) ∧ ∃ m, w' = w.drewN m :=
  (almonryref03_put.calls n 11 11 20 _ w (put_ev n 11 11 20 1 rfl (by decide) (by decide) (by decide))).mono fun _ _ ⟨h1, h2⟩ => ⟨h1, by obtain ⟨n, rfl⟩ := h2; exact ⟨n, rfl⟩⟩
theorem c_put_1_10_21 (n : Int) (w : World) : Calls Try.prog 53 #[.int .i64 n, .int .i64 1, .int .i64 10, .int .i64 21] w fun e w' => e = .returned (.int .u32 (putT n 2 1024 2097152)) ∧ ∃ m, w' = w.drewN m :=
  (almonryref03_put.calls n 1 10 21 _ w (put_ev n 1 10 21 10 rfl (by decide) (by decide) (by decide))).mono fun _ _ ⟨h1, h2⟩ => ⟨h1, by obtain ⟨n, rfl⟩ := h2; exact ⟨n, rfl⟩⟩
theorem c_put_0_4_15 (n : Int) (w : World) : Calls Try.prog 53 #[.int .i64 n, .int .i64 0, .int .i64 4, .int .i64 15] w fun e w' => e = .returned (.int .u32 (putT n 1 32 32768)) ∧ ∃ m, w' = w.drewN m :=
  (almonryref03_put.calls n 0 4 15 _ w (put_ev n 0 4 15 5 rfl (by decide) (by decide) (by decide))).mono fun _ _ ⟨h1, h2⟩ => ⟨h1, by obtain ⟨n, rfl⟩ := h2; exact ⟨n, rfl⟩⟩
set_option maxRecDepth 100000 in
set_option maxHeartbeats 4000000 in
theorem par_0 (op rd r1 r2 im cs sz a : Int) (w : World) (b1 : 0 ≤ rd) (b2 : rd < 256) (b3 : 0 ≤ r1) (b4 : r1 < 256) (b5 : 0 ≤ r2) (b6 : r2 < 256) (b7 : 0 ≤ cs) (b8 : cs < 65536)
    (hrow : Hid (∀ r ∈ rowsL, r.1 = op → r.2.1 = 0 ∧ r.2.2.2 = a)) (hex : Hid (∃ r ∈ rowsL, r.1 = op)) : Calls Try.prog 41 #[.agg #[.int .u8 op, .int .u8 rd, .int .u8 r1, .int .u8 r2, .int .i64 im, .int .u16 cs, .int .u8 sz]] w fun e w' => e = .returned (.int .u32 (bits .or .u32 (bits .or .u32 (bits .or .u32 (a) (rd * 128)) (r1 * 32768)) (r2 * 1048576))) ∧ Fr [] w w' := by
  have hlen : rowsL.length = 98 := by decide +kernel
  replace hlen := hid hlen
  go_enter Try.func41, Try.ntmps41
  go_wp2_with (go_at_call 36; ((with_reducible refine (rows_any _).mono ?_)); rintro e w' ⟨rfl, rfl⟩)
  go_loopw [4] (fun i wr => ∃ j : Nat, j ≤ 98 ∧ i = .int .i64 j ∧ Hid (∀ i, i < j → ∀ r, rowsL[i]? = some r → r.1 ≠ op) ∧ Hid (wr.heap[w.heap.size]? = some (.cells (IC (op, rd, r1, r2, im, cs, sz)) 25)) ∧ Hid (wr.heap[w.heap.size + 1]? = some (.cells rowsC 58)) ∧ Hid (Fr [] w wr)) (fun i _ => 98 - (intOf i).toNat)
  case atStart => exact ⟨0, by decide, rfl, fun i hi => by omega, blk_alloc (blk_new _ _) _, blk_new' (by simp) _, ((Fr.refl _ _).alloc _).alloc _⟩
  case round =>
    obtain ⟨j, hj, rfl, hno, hZ, hR, hF⟩ := hrel
    have x0 : wr.cell? ⟨w.heap.size, 0, none⟩ = some (.int .u8 (op)) := by rw [blk_cell hZ.out]; rfl
    have x1 : wr.cell? ⟨w.heap.size, 1, none⟩ = some (.int .u8 (rd)) := by rw [blk_cell hZ.out]; rfl
    have x2 : wr.cell? ⟨w.heap.size, 2, none⟩ = some (.int .u8 (r1)) := by rw [blk_cell hZ.out]; rfl
    have x3 : wr.cell? ⟨w.heap.size, 3, none⟩ = some (.int .u8 (r2)) := by rw [blk_cell hZ.out]; rfl
    have x4 : wr.cell? ⟨w.heap.size, 4, none⟩ = some (.int .i64 (im)) := by rw [blk_cell hZ.out]; rfl
    have x5 : wr.cell? ⟨w.heap.size, 5, none⟩ = some (.int .u16 (cs)) := by rw [blk_cell hZ.out]; rfl
    have x6 : wr.cell? ⟨w.heap.size, 6, none⟩ = some (.int .u8 (sz)) := by rw [blk_cell hZ.out]; rfl
    by_cases hlt : j < 98
    · obtain ⟨⟨o, k, f1, f2⟩, hr⟩ : ∃ r, rowsL[j]? = some r := ⟨rowsL[j]'(by rw [hlen.out]; exact hlt), by simp⟩
      have c0 : wr.cell? ⟨w.heap.size + 1, j * 4, none⟩ = some (.int .u8 o) := row_cell hR.out hr (c := 0) (by decide)
      have c1 : wr.cell? ⟨w.heap.size + 1, j * 4 + 1, none⟩ = some (.int .i64 k) := row_cell hR.out hr (c := 1) (by decide)
      have c3 : wr.cell? ⟨w.heap.size + 1, j * 4 + 3, none⟩ = some (.int .u32 f2) := row_cell hR.out hr (c := 3) (by decide)
      cases hm : (o != op) with
      | true =>
        replace hr := hid hr
        have ho : Hid (o ≠ op) := hid (by simpa using hm)
        go_wp2
        go_quiet (fail)
        go_wp2
        go_roundw
        case rel =>
          refine ⟨j + 1, by omega, by go_num, fun i hi r h => ?_, hZ.out, hR.out, hF.out.drewN _⟩
          by_cases e : i = j
          · subst e; rw [hr.out] at h; cases h; exact ho.out
          · exact hno.out i (by omega) r h
        case measure => simp [intOf]; omega
      | false =>
        have ho : o = op := by simpa using hm
        subst ho
        obtain ⟨hk, ha⟩ := hrow.out _ (List.mem_of_getElem? hr) rfl
        simp only at hk ha
        subst hk ha
        replace hr := hid hr
        clear hrow
        go_wp2
        go_quiet (fail)
        go_wp2
        go_quiet (fail)
        go_wp2
        go_ret
        exact ⟨rfl, hF.out.drewN _⟩
    · exfalso
      obtain ⟨r, hr, hro⟩ := hex.out
      obtain ⟨i, hi⟩ := List.getElem?_of_mem hr
      exact hno.out i (by have := (List.getElem?_eq_some_iff.1 hi).1; rw [hlen.out] at this; omega) r hi hro
set_option maxRecDepth 100000 in
set_option maxHeartbeats 4000000 in
theorem par_1 (op rd r1 r2 im cs sz a v0_20 : Int) (w : World) (b1 : 0 ≤ rd) (b2 : rd < 256) (b3 : 0 ≤ r1) (b4 : r1 < 256) (b5 : 0 ≤ r2) (b6 : r2 < 256) (b7 : 0 ≤ cs) (b8 : cs < 65536)
    (hrow : Hid (∀ r ∈ rowsL, r.1 = op → r.2.1 = 1 ∧ r.2.2.2 = a)) (hex : Hid (∃ r ∈ rowsL, r.1 = op)) (h0_20 : Hid (∀ w, Calls Try.prog 53 #[.int .i64 im, .int .i64 0, .int .i64 11, .int .i64 20] w fun e w' => e = .returned (.int .u32 v0_20) ∧ ∃ n, w' = w.drewN n)) : Calls Try.prog 41 #[.agg #[.int .u8 op, .int .u8 rd, .int .u8 r1, .int .u8 r2, .int .i64 im, .int .u16 cs, .int .u8 sz]] w fun e w' => e = .returned (.int .u32 (bits .or .u32 (bits .or .u32 (bits .or .u32 (a) (rd * 128)) (r1 * 32768)) (v0_20))) ∧ Fr [] w w' := by
  have hlen : rowsL.length = 98 := by decide +kernel
  replace hlen := hid hlen
  go_enter Try.func41, Try.ntmps41
  go_wp2_with (go_at_call 36; ((with_reducible refine (rows_any _).mono ?_)); rintro e w' ⟨rfl, rfl⟩)
  go_loopw [4] (fun i wr => ∃ j : Nat, j ≤ 98 ∧ i = .int .i64 j ∧ Hid (∀ i, i < j → ∀ r, rowsL[i]? = some r → r.1 ≠ op) ∧ Hid (wr.heap[w.heap.size]? = some (.cells (IC (op, rd, r1, r2, im, cs, sz)) 25)) ∧ Hid (wr.heap[w.heap.size + 1]? = some (.cells rowsC 58)) ∧ Hid (Fr [] w wr)) (fun i _ => 98 - (intOf i).toNat)
  case atStart => exact ⟨0, by decide, rfl, fun i hi => by omega, blk_alloc (blk_new _ _) _, blk_new' (by simp) _, ((Fr.refl _ _).alloc _).alloc _⟩
  case round =>
    obtain ⟨j, hj, rfl, hno, hZ, hR, hF⟩ := hrel
    have x0 : wr.cell? ⟨w.heap.size, 0, none⟩ = some (.int .u8 (op)) := by rw [blk_cell hZ.out]; rfl
    have x1 : wr.cell? ⟨w.heap.size, 1, none⟩ = some (.int .u8 (rd)) := by rw [blk_cell hZ.out]; rfl
    have x2 : wr.cell? ⟨w.heap.size, 2, none⟩ = some (.int .u8 (r1)) := by rw [blk_cell hZ.out]; rfl
    have x3 : wr.cell? ⟨w.heap.size, 3, none⟩ = some (.int .u8 (r2)) := by rw [blk_cell hZ.out]; rfl
    have x4 : wr.cell? ⟨w.heap.size, 4, none⟩ = some (.int .i64 (im)) := by rw [blk_cell hZ.out]; rfl
    have x5 : wr.cell? ⟨w.heap.size, 5, none⟩ = some (.int .u16 (cs)) := by rw [blk_cell hZ.out]; rfl
    have x6 : wr.cell? ⟨w.heap.size, 6, none⟩ = some (.int .u8 (sz)) := by rw [blk_cell hZ.out]; rfl
    by_cases hlt : j < 98
    · obtain ⟨⟨o, k, f1, f2⟩, hr⟩ : ∃ r, rowsL[j]? = some r := ⟨rowsL[j]'(by rw [hlen.out]; exact hlt), by simp⟩
      have c0 : wr.cell? ⟨w.heap.size + 1, j * 4, none⟩ = some (.int .u8 o) := row_cell hR.out hr (c := 0) (by decide)
      have c1 : wr.cell? ⟨w.heap.size + 1, j * 4 + 1, none⟩ = some (.int .i64 k) := row_cell hR.out hr (c := 1) (by decide)
      have c3 : wr.cell? ⟨w.heap.size + 1, j * 4 + 3, none⟩ = some (.int .u32 f2) := row_cell hR.out hr (c := 3) (by decide)
      cases hm : (o != op) with
      | true =>
        replace hr := hid hr
        have ho : Hid (o ≠ op) := hid (by simpa using hm)
        go_wp2
        go_quiet (fail)
        go_wp2
        go_roundw
        case rel =>
          refine ⟨j + 1, by omega, by go_num, fun i hi r h => ?_, hZ.out, hR.out, hF.out.drewN _⟩
          by_cases e : i = j
          · subst e; rw [hr.out] at h; cases h; exact ho.out
          · exact hno.out i (by omega) r h
        case measure => simp [intOf]; omega
      | false =>
        have ho : o = op := by simpa using hm
        subst ho
        obtain ⟨hk, ha⟩ := hrow.out _ (List.mem_of_getElem? hr) rfl
        simp only at hk ha
        subst hk ha
        replace hr := hid hr
        clear hrow
        go_wp2
        go_quiet (fail)
        go_wp2
        go_quiet (fail)
        go_wp2_with (go_at_call 53; (with_reducible refine (h0_20.out _).mono ?_); rintro e w' ⟨rfl, nn, rfl⟩)
        go_ret
        exact ⟨rfl, hF.out.drewN _⟩
    · exfalso
      obtain ⟨r, hr, hro⟩ := hex.out
      obtain ⟨i, hi⟩ := List.getElem?_of_mem hr
      exact hno.out i (by have := (List.getElem?_eq_some_iff.1 hi).1; rw [hlen.out] at this; omega) r hi hro
set_option maxRecDepth 100000 in
set_option maxHeartbeats 4000000 in
theorem par_2 (op rd r1 r2 im cs sz a v0_20 : Int) (w : World) (b1 : 0 ≤ rd) (b2 : rd < 256) (b3 : 0 ≤ r1) (b4 : r1 < 256) (b5 : 0 ≤ r2) (b6 : r2 < 256) (b7 : 0 ≤ cs) (b8 : cs < 65536)
    (hrow : Hid (∀ r ∈ rowsL, r.1 = op → r.2.1 = 2 ∧ r.2.2.2 = a)) (hex : Hid (∃ r ∈ rowsL, r.1 = op)) (h0_20 : Hid (∀ w, Calls Try.prog 53 #[.int .i64 im, .int .i64 0, .int .i64 5, .int .i64 20] w fun e w' => e = .returned (.int .u32 v0_20) ∧ ∃ n, w' = w.drewN n)) : Calls Try.prog 41 #[.agg #[.int .u8 op, .int .u8 rd, .int .u8 r1, .int .u8 r2, .int .i64 im, .int .u16 cs, .int .u8 sz]] w fun e w' => e = .returned (.int .u32 (bits .or .u32 (bits .or .u32 (bits .or .u32 (a) (rd * 128)) (r1 * 32768)) (v0_20))) ∧ Fr [] w w' := by
  have hlen : rowsL.length = 98 := by decide +kernel
  replace hlen := hid hlen
  go_enter Try.func41, Try.ntmps41
  go_wp2_with (go_at_call 36; ((with_reducible refine (rows_any _).mono ?_)); rintro e w' ⟨rfl, rfl⟩)
  go_loopw [4] (fun i wr => ∃ j : Nat, j ≤ 98 ∧ i = .int .i64 j ∧ Hid (∀ i, i < j → ∀ r, rowsL[i]? = some r → r.1 ≠ op) ∧ Hid (wr.heap[w.heap.size]? = some (.cells (IC (op, rd, r1, r2, im, cs, sz)) 25)) ∧ Hid (wr.heap[w.heap.size + 1]? = some (.cells rowsC 58)) ∧ Hid (Fr [] w wr)) (fun i _ => 98 - (intOf i).toNat)
  case atStart => exact ⟨0, by decide, rfl, fun i hi => by omega, blk_alloc (blk_new _ _) _, blk_new' (by simp) _, ((Fr.refl _ _).alloc _).alloc _⟩
  case round =>
    obtain ⟨j, hj, rfl, hno, hZ, hR, hF⟩ := hrel
    have x0 : wr.cell? ⟨w.heap.size, 0, none⟩ = some (.int .u8 (op)) := by rw [blk_cell hZ.out]; rfl
    have x1 : wr.cell? ⟨w.heap.size, 1, none⟩ = some (.int .u8 (rd)) := by rw [blk_cell hZ.out]; rfl
    have x2 : wr.cell? ⟨w.heap.size, 2, none⟩ = some (.int .u8 (r1)) := by rw [blk_cell hZ.out]; rfl
    have x3 : wr.cell? ⟨w.heap.size, 3, none⟩ = some (.int .u8 (r2)) := by rw [blk_cell hZ.out]; rfl
    have x4 : wr.cell? ⟨w.heap.size, 4, none⟩ = some (.int .i64 (im)) := by rw [blk_cell hZ.out]; rfl
    have x5 : wr.cell? ⟨w.heap.size, 5, none⟩ = some (.int .u16 (cs)) := by rw [blk_cell hZ.out]; rfl
    have x6 : wr.cell? ⟨w.heap.size, 6, none⟩ = some (.int .u8 (sz)) := by rw [blk_cell hZ.out]; rfl
    by_cases hlt : j < 98
    · obtain ⟨⟨o, k, f1, f2⟩, hr⟩ : ∃ r, rowsL[j]? = some r := ⟨rowsL[j]'(by rw [hlen.out]; exact hlt), by simp⟩
      have c0 : wr.cell? ⟨w.heap.size + 1, j * 4, none⟩ = some (.int .u8 o) := row_cell hR.out hr (c := 0) (by decide)
      have c1 : wr.cell? ⟨w.heap.size + 1, j * 4 + 1, none⟩ = some (.int .i64 k) := row_cell hR.out hr (c := 1) (by decide)
      have c3 : wr.cell? ⟨w.heap.size + 1, j * 4 + 3, none⟩ = some (.int .u32 f2) := row_cell hR.out hr (c := 3) (by decide)
      cases hm : (o != op) with
      | true =>
        replace hr := hid hr
        have ho : Hid (o ≠ op) := hid (by simpa using hm)
        go_wp2
        go_quiet (fail)
        go_wp2
        go_roundw
        case rel =>
          refine ⟨j + 1, by omega, by go_num, fun i hi r h => ?_, hZ.out, hR.out, hF.out.drewN _⟩
          by_cases e : i = j
          · subst e; rw [hr.out] at h; cases h; exact ho.out
          · exact hno.out i (by omega) r h
        case measure => simp [intOf]; omega
      | false =>
        have ho : o = op := by simpa using hm
        subst ho
        obtain ⟨hk, ha⟩ := hrow.out _ (List.mem_of_getElem? hr) rfl
        simp only at hk ha
        subst hk ha
        replace hr := hid hr
        clear hrow
        go_wp2
        go_quiet (fail)
        go_wp2
        go_quiet (fail)
        go_wp2_with (go_at_call 53; (with_reducible refine (h0_20.out _).mono ?_); rintro e w' ⟨rfl, nn, rfl⟩)
        go_ret
        exact ⟨rfl, hF.out.drewN _⟩
    · exfalso
      obtain ⟨r, hr, hro⟩ := hex.out
      obtain ⟨i, hi⟩ := List.getElem?_of_mem hr
      exact hno.out i (by have := (List.getElem?_eq_some_iff.1 hi).1; rw [hlen.out] at this; omega) r hi hro
set_option maxRecDepth 100000 in
set_option maxHeartbeats 4000000 in
theorem par_3 (op rd r1 r2 im cs sz a v0_20 : Int) (w : World) (b1 : 0 ≤ rd) (b2 : rd < 256) (b3 : 0 ≤ r1) (b4 : r1 < 256) (b5 : 0 ≤ r2) (b6 : r2 < 256) (b7 : 0 ≤ cs) (b8 : cs < 65536)
    (hrow : Hid (∀ r ∈ rowsL, r.1 = op → r.2.1 = 3 ∧ r.2.2.2 = a)) (hex : Hid (∃ r ∈ rowsL, r.1 = op)) (h0_20 : Hid (∀ w, Calls Try.prog 53 #[.int .i64 im, .int .i64 0, .int .i64 4, .int .i64 20] w fun e w' => e = .returned (.int .u32 v0_20) ∧ ∃ n, w' = w.drewN n)) : Calls Try.prog 41 #[.agg #[.int .u8 op, .int .u8 rd, .int .u8 r1, .int .u8 r2, .int .i64 im, .int .u16 cs, .int .u8 sz]] w fun e w' => e = .returned (.int .u32 (bits .or .u32 (bits .or .u32 (bits .or .u32 (a) (rd * 128)) (r1 * 32768)) (v0_20))) ∧ Fr [] w w' := by
  have hlen : rowsL.length = 98 := by decide +kernel
  replace hlen := hid hlen
  go_enter Try.func41, Try.ntmps41
  go_wp2_with (go_at_call 36; ((with_reducible refine (rows_any _).mono ?_)); rintro e w' ⟨rfl, rfl⟩)
  go_loopw [4] (fun i wr => ∃ j : Nat, j ≤ 98 ∧ i = .int .i64 j ∧ Hid (∀ i, i < j → ∀ r, rowsL[i]? = some r → r.1 ≠ op) ∧ Hid (wr.heap[w.heap.size]? = some (.cells (IC (op, rd, r1, r2, im, cs, sz)) 25)) ∧ Hid (wr.heap[w.heap.size + 1]? = some (.cells rowsC 58)) ∧ Hid (Fr [] w wr)) (fun i _ => 98 - (intOf i).toNat)
  case atStart => exact ⟨0, by decide, rfl, fun i hi => by omega, blk_alloc (blk_new _ _) _, blk_new' (by simp) _, ((Fr.refl _ _).alloc _).alloc _⟩
  case round =>
    obtain ⟨j, hj, rfl, hno, hZ, hR, hF⟩ := hrel
    have x0 : wr.cell? ⟨w.heap.size, 0, none⟩ = some (.int .u8 (op)) := by rw [blk_cell hZ.out]; rfl
    have x1 : wr.cell? ⟨w.heap.size, 1, none⟩ = some (.int .u8 (rd)) := by rw [blk_cell hZ.out]; rfl
    have x2 : wr.cell? ⟨w.heap.size, 2, none⟩ = some (.int .u8 (r1)) := by rw [blk_cell hZ.out]; rfl
    have x3 : wr.cell? ⟨w.heap.size, 3, none⟩ = some (.int .u8 (r2)) := by rw [blk_cell hZ.out]; rfl
    have x4 : wr.cell? ⟨w.heap.size, 4, none⟩ = some (.int .i64 (im)) := by rw [blk_cell hZ.out]; rfl
    have x5 : wr.cell? ⟨w.heap.size, 5, none⟩ = some (.int .u16 (cs)) := by rw [blk_cell hZ.out]; rfl
    have x6 : wr.cell? ⟨w.heap.size, 6, none⟩ = some (.int .u8 (sz)) := by rw [blk_cell hZ.out]; rfl
    by_cases hlt : j < 98
    · obtain ⟨⟨o, k, f1, f2⟩, hr⟩ : ∃ r, rowsL[j]? = some r := ⟨rowsL[j]'(by rw [hlen.out]; exact hlt), by simp⟩
      have c0 : wr.cell? ⟨w.heap.size + 1, j * 4, none⟩ = some (.int .u8 o) := row_cell hR.out hr (c := 0) (by decide)
      have c1 : wr.cell? ⟨w.heap.size + 1, j * 4 + 1, none⟩ = some (.int .i64 k) := row_cell hR.out hr (c := 1) (by decide)
      have c3 : wr.cell? ⟨w.heap.size + 1, j * 4 + 3, none⟩ = some (.int .u32 f2) := row_cell hR.out hr (c := 3) (by decide)
      cases hm : (o != op) with
      | true =>
        replace hr := hid hr
        have ho : Hid (o ≠ op) := hid (by simpa using hm)
        go_wp2
        go_quiet (fail)
        go_wp2
        go_roundw
        case rel =>
          refine ⟨j + 1, by omega, by go_num, fun i hi r h => ?_, hZ.out, hR.out, hF.out.drewN _⟩
          by_cases e : i = j
          · subst e; rw [hr.out] at h; cases h; exact ho.out
          · exact hno.out i (by omega) r h
        case measure => simp [intOf]; omega
      | false =>
        have ho : o = op := by simpa using hm
        subst ho
        obtain ⟨hk, ha⟩ := hrow.out _ (List.mem_of_getElem? hr) rfl
        simp only at hk ha
        subst hk ha
        replace hr := hid hr
        clear hrow
        go_wp2
        go_quiet (fail)
        go_wp2
        go_quiet (fail)
        go_wp2_with (go_at_call 53; (with_reducible refine (h0_20.out _).mono ?_); rintro e w' ⟨rfl, nn, rfl⟩)
        go_ret
        exact ⟨rfl, hF.out.drewN _⟩
    · exfalso
      obtain ⟨r, hr, hro⟩ := hex.out
      obtain ⟨i, hi⟩ := List.getElem?_of_mem hr
      exact hno.out i (by have := (List.getElem?_eq_some_iff.1 hi).1; rw [hlen.out] at this; omega) r hi hro
set_option maxRecDepth 100000 in
set_option maxHeartbeats 4000000 in
theorem par_4 (op rd r1 r2 im cs sz a v5_25 v0_7 : Int) (w : World) (b1 : 0 ≤ rd) (b2 : rd < 256) (b3 : 0 ≤ r1) (b4 : r1 < 256) (b5 : 0 ≤ r2) (b6 : r2 < 256) (b7 : 0 ≤ cs) (b8 : cs < 65536)
    (hrow : Hid (∀ r ∈ rowsL, r.1 = op → r.2.1 = 4 ∧ r.2.2.2 = a)) (hex : Hid (∃ r ∈ rowsL, r.1 = op)) (h5_25 : Hid (∀ w, Calls Try.prog 53 #[.int .i64 im, .int .i64 5, .int .i64 11, .int .i64 25] w fun e w' => e = .returned (.int .u32 v5_25) ∧ ∃ n, w' = w.drewN n)) (h0_7 : Hid (∀ w, Calls Try.prog 53 #[.int .i64 im, .int .i64 0, .int .i64 4, .int .i64 7] w fun e w' => e = .returned (.int .u32 v0_7) ∧ ∃ n, w' = w.drewN n)) : Calls Try.prog 41 #[.agg #[.int .u8 op, .int .u8 rd, .int .u8 r1, .int .u8 r2, .int .i64 im, .int .u16 cs, .int .u8 sz]] w fun e w' => e = .returned (.int .u32 (bits .or .u32 (bits .or .u32 (bits .or .u32 (bits .or .u32 (a) (r1 * 32768)) (r2 * 1048576)) (v5_25)) (v0_7))) ∧ Fr [] w w' := by
  have hlen : rowsL.length = 98 := by decide +kernel
  replace hlen := hid hlen
  go_enter Try.func41, Try.ntmps41
  go_wp2_with (go_at_call 36; ((with_reducible refine (rows_any _).mono ?_)); rintro e w' ⟨rfl, rfl⟩)
  go_loopw [4] (fun i wr => ∃ j : Nat, j ≤ 98 ∧ i = .int .i64 j ∧ Hid (∀ i, i < j → ∀ r, rowsL[i]? = some r → r.1 ≠ op) ∧ Hid (wr.heap[w.heap.size]? = some (.cells (IC (op, rd, r1, r2, im, cs, sz)) 25)) ∧ Hid (wr.heap[w.heap.size + 1]? = some (.cells rowsC 58)) ∧ Hid (Fr [] w wr)) (fun i _ => 98 - (intOf i).toNat)
  case atStart => exact ⟨0, by decide, rfl, fun i hi => by omega, blk_alloc (blk_new _ _) _, blk_new' (by simp) _, ((Fr.refl _ _).alloc _).alloc _⟩
  case round =>
    obtain ⟨j, hj, rfl, hno, hZ, hR, hF⟩ := hrel
    have x0 : wr.cell? ⟨w.heap.size, 0, none⟩ = some (.int .u8 (op)) := by rw [blk_cell hZ.out]; rfl
    have x1 : wr.cell? ⟨w.heap.size, 1, none⟩ = some (.int .u8 (rd)) := by rw [blk_cell hZ.out]; rfl
    have x2 : wr.cell? ⟨w.heap.size, 2, none⟩ = some (.int .u8 (r1)) := by rw [blk_cell hZ.out]; rfl
    have x3 : wr.cell? ⟨w.heap.size, 3, none⟩ = some (.int .u8 (r2)) := by rw [blk_cell hZ.out]; rfl
    have x4 : wr.cell? ⟨w.heap.size, 4, none⟩ = some (.int .i64 (im)) := by rw [blk_cell hZ.out]; rfl
    have x5 : wr.cell? ⟨w.heap.size, 5, none⟩ = some (.int .u16 (cs)) := by rw [blk_cell hZ.out]; rfl
    have x6 : wr.cell? ⟨w.heap.size, 6, none⟩ = some (.int .u8 (sz)) := by rw [blk_cell hZ.out]; rfl
    by_cases hlt : j < 98
    · obtain ⟨⟨o, k, f1, f2⟩, hr⟩ : ∃ r, rowsL[j]? = some r := ⟨rowsL[j]'(by rw [hlen.out]; exact hlt), by simp⟩
      have c0 : wr.cell? ⟨w.heap.size + 1, j * 4, none⟩ = some (.int .u8 o) := row_cell hR.out hr (c := 0) (by decide)
      have c1 : wr.cell? ⟨w.heap.size + 1, j * 4 + 1, none⟩ = some (.int .i64 k) := row_cell hR.out hr (c := 1) (by decide)
      have c3 : wr.cell? ⟨w.heap.size + 1, j * 4 + 3, none⟩ = some (.int .u32 f2) := row_cell hR.out hr (c := 3) (by decide)
      cases hm : (o != op) with
      | true =>
        replace hr := hid hr
        have ho : Hid (o ≠ op) := hid (by simpa using hm)
        go_wp2
        go_quiet (fail)
        go_wp2
        go_roundw
        case rel =>
          refine ⟨j + 1, by omega, by go_num, fun i hi r h => ?_, hZ.out, hR.out, hF.out.drewN _⟩
          by_cases e : i = j
          · subst e; rw [hr.out] at h; cases h; exact ho.out
          · exact hno.out i (by omega) r h
        case measure => simp [intOf]; omega
      | false =>
        have ho : o = op := by simpa using hm
        subst ho
        obtain ⟨hk, ha⟩ := hrow.out _ (List.mem_of_getElem? hr) rfl
        simp only at hk ha
        subst hk ha
        replace hr := hid hr
        clear hrow
        go_wp2
        go_quiet (fail)
        go_wp2
        go_quiet (fail)
        go_wp2
        refine world_atF (fun W => W.cell? ⟨w.heap.size, 4, none⟩ = some (.int .i64 im) ∧ W.cell? ⟨w.heap.size, 5, none⟩ = some (.int .u16 cs) ∧ Fr [] w W) ⟨x4, x5, hF.out.drewN _⟩ ?_
        clear x0 x1 x2 x3 x4 x5 x6 c0 c1 c3 hZ hR hF hno
        rintro W ⟨x4, x5, hF⟩
        replace hF := hid hF
        go_quiet ((first | (go_at_call 53; with_reducible exact dcall _ h5_25) | (go_at_call 53; with_reducible exact dcall _ h0_7)))
        go_wp2
        go_ret
        exact ⟨rfl, hF.out.drewN _⟩
    · exfalso
      obtain ⟨r, hr, hro⟩ := hex.out
      obtain ⟨i, hi⟩ := List.getElem?_of_mem hr
      exact hno.out i (by have := (List.getElem?_eq_some_iff.1 hi).1; rw [hlen.out] at this; omega) r hi hro
set_option maxRecDepth 100000 in
set_option maxHeartbeats 4000000 in
theorem par_5 (op rd r1 r2 im cs sz a v12_31 v11_7 v5_25 v1_8 : Int) (w : World) (b1 : 0 ≤ rd) (b2 : rd < 256) (b3 : 0 ≤ r1) (b4 : r1 < 256) (b5 : 0 ≤ r2) (b6 : r2 < 256) (b7 : 0 ≤ cs) (b8 : cs < 65536)
    (hrow : Hid (∀ r ∈ rowsL, r.1 = op → r.2.1 = 5 ∧ r.2.2.2 = a)) (hex : Hid (∃ r ∈ rowsL, r.1 = op)) (h12_31 : Hid (∀ w, Calls Try.prog 53 #[.int .i64 im, .int .i64 12, .int .i64 12, .int .i64 31] w fun e w' => e = .returned (.int .u32 v12_31) ∧ ∃ n, w' = w.drewN n)) (h11_7 : Hid (∀ w, Calls Try.prog 53 #[.int .i64 im, .int .i64 11, .int .i64 11, .int .i64 7] w fun e w' => e = .returned (.int .u32 v11_7) ∧ ∃ n, w' = w.drewN n)) (h5_25 : Hid (∀ w, Calls Try.prog 53 #[.int .i64 im, .int .i64 5, .int .i64 10, .int .i64 25] w fun e w' => e = .returned (.int .u32 v5_25) ∧ ∃ n, w' = w.drewN n)) (h1_8 : Hid (∀ w, Calls Try.prog 53 #[.int .i64 im, .int .i64 1, .int .i64 4, .int .i64 8] w fun e w' => e = .returned (.int .u32 v1_8) ∧ ∃ n, w' = w.drewN n)) : Calls Try.prog 41 #[.agg #[.int .u8 op, .int .u8 rd, .int .u8 r1, .int .u8 r2, .int .i64 im, .int .u16 cs, .int .u8 sz]] w fun e w' => e = .returned (.int .u32 (bits .or .u32 (bits .or .u32 (bits .or .u32 (bits .or .u32 (bits .or .u32 (bits .or .u32 (a) (r1 * 32768)) (r2 * 1048576)) (v12_31)) (v11_7)) (v5_25)) (v1_8))) ∧ Fr [] w w' := by
  have hlen : rowsL.length = 98 := by decide +kernel
  replace hlen := hid hlen
  go_enter Try.func41, Try.ntmps41
  go_wp2_with (go_at_call 36; ((with_reducible refine (rows_any _).mono ?_)); rintro e w' ⟨rfl, rfl⟩)
  go_loopw [4] (fun i wr => ∃ j : Nat, j ≤ 98 ∧ i = .int .i64 j ∧ Hid (∀ i, i < j → ∀ r, rowsL[i]? = some r → r.1 ≠ op) ∧ Hid (wr.heap[w.heap.size]? = some (.cells (IC (op, rd, r1, r2, im, cs, sz)) 25)) ∧ Hid (wr.heap[w.heap.size + 1]? = some (.cells rowsC 58)) ∧ Hid (Fr [] w wr)) (fun i _ => 98 - (intOf i).toNat)
  case atStart => exact ⟨0, by decide, rfl, fun i hi => by omega, blk_alloc (blk_new _ _) _, blk_new' (by simp) _, ((Fr.refl _ _).alloc _).alloc _⟩
  case round =>
    obtain ⟨j, hj, rfl, hno, hZ, hR, hF⟩ := hrel
    have x0 : wr.cell? ⟨w.heap.size, 0, none⟩ = some (.int .u8 (op)) := by rw [blk_cell hZ.out]; rfl
    have x1 : wr.cell? ⟨w.heap.size, 1, none⟩ = some (.int .u8 (rd)) := by rw [blk_cell hZ.out]; rfl
    have x2 : wr.cell? ⟨w.heap.size, 2, none⟩ = some (.int .u8 (r1)) := by rw [blk_cell hZ.out]; rfl
    have x3 : wr.cell? ⟨w.heap.size, 3, none⟩ = some (.int .u8 (r2)) := by rw [blk_cell hZ.out]; rfl
    have x4 : wr.cell? ⟨w.heap.size, 4, none⟩ = some (.int .i64 (im)) := by rw [blk_cell hZ.out]; rfl
    have x5 : wr.cell? ⟨w.heap.size, 5, none⟩ = some (.int .u16 (cs)) := by rw [blk_cell hZ.out]; rfl
    have x6 : wr.cell? ⟨w.heap.size, 6, none⟩ = some (.int .u8 (sz)) := by rw [blk_cell hZ.out]; rfl
    by_cases hlt : j < 98
    · obtain ⟨⟨o, k, f1, f2⟩, hr⟩ : ∃ r, rowsL[j]? = some r := ⟨rowsL[j]'(by rw [hlen.out]; exact hlt), by simp⟩
      have c0 : wr.cell? ⟨w.heap.size + 1, j * 4, none⟩ = some (.int .u8 o) := row_cell hR.out hr (c := 0) (by decide)
      have c1 : wr.cell? ⟨w.heap.size + 1, j * 4 + 1, none⟩ = some (.int .i64 k) := row_cell hR.out hr (c := 1) (by decide)
      have c3 : wr.cell? ⟨w.heap.size + 1, j * 4 + 3, none⟩ = some (.int .u32 f2) := row_cell hR.out hr (c := 3) (by decide)
      cases hm : (o != op) with
      | true =>
        replace hr := hid hr
        have ho : Hid (o ≠ op) := hid (by simpa using hm)
        go_wp2
        go_quiet (fail)
        go_wp2
        go_roundw
        case rel =>
          refine ⟨j + 1, by omega, by go_num, fun i hi r h => ?_, hZ.out, hR.out, hF.out.drewN _⟩
          by_cases e : i = j
          · subst e; rw [hr.out] at h; cases h; exact ho.out
          · exact hno.out i (by omega) r h
        case measure => simp [intOf]; omega
      | false =>
        have ho : o = op := by simpa using hm
        subst ho
        obtain ⟨hk, ha⟩ := hrow.out _ (List.mem_of_getElem? hr) rfl
        simp only at hk ha
        subst hk ha
        replace hr := hid hr
        clear hrow
        go_wp2
        go_quiet (fail)
        go_wp2
        go_quiet (fail)
        go_wp2
        refine world_atF (fun W => W.cell? ⟨w.heap.size, 4, none⟩ = some (.int .i64 im) ∧ W.cell? ⟨w.heap.size, 5, none⟩ = some (.int .u16 cs) ∧ Fr [] w W) ⟨x4, x5, hF.out.drewN _⟩ ?_
        clear x0 x1 x2 x3 x4 x5 x6 c0 c1 c3 hZ hR hF hno
        rintro W ⟨x4, x5, hF⟩
        replace hF := hid hF
        go_quiet ((first | (go_at_call 53; with_reducible exact dcall _ h12_31) | (go_at_call 53; with_reducible exact dcall _ h11_7) | (go_at_call 53; with_reducible exact dcall _ h5_25) | (go_at_call 53; with_reducible exact dcall _ h1_8)))
        go_wp2
        go_ret
        exact ⟨rfl, hF.out.drewN _⟩
    · exfalso
      obtain ⟨r, hr, hro⟩ := hex.out
      obtain ⟨i, hi⟩ := List.getElem?_of_mem hr
      exact hno.out i (by have := (List.getElem?_eq_some_iff.1 hi).1; rw [hlen.out] at this; omega) r hi hro
set_option maxRecDepth 100000 in
set_option maxHeartbeats 4000000 in
theorem par_6 (op rd r1 r2 im cs sz a v12_12 : Int) (w : World) (b1 : 0 ≤ rd) (b2 : rd < 256) (b3 : 0 ≤ r1) (b4 : r1 < 256) (b5 : 0 ≤ r2) (b6 : r2 < 256) (b7 : 0 ≤ cs) (b8 : cs < 65536)
    (hrow : Hid (∀ r ∈ rowsL, r.1 = op → r.2.1 = 6 ∧ r.2.2.2 = a)) (hex : Hid (∃ r ∈ rowsL, r.1 = op)) (h12_12 : Hid (∀ w, Calls Try.prog 53 #[.int .i64 im, .int .i64 12, .int .i64 31, .int .i64 12] w fun e w' => e = .returned (.int .u32 v12_12) ∧ ∃ n, w' = w.drewN n)) : Calls Try.prog 41 #[.agg #[.int .u8 op, .int .u8 rd, .int .u8 r1, .int .u8 r2, .int .i64 im, .int .u16 cs, .int .u8 sz]] w fun e w' => e = .returned (.int .u32 (bits .or .u32 (bits .or .u32 (a) (rd * 128)) (v12_12))) ∧ Fr [] w w' := by
  have hlen : rowsL.length = 98 := by decide +kernel
  replace hlen := hid hlen
  go_enter Try.func41, Try.ntmps41
  go_wp2_with (go_at_call 36; ((with_reducible refine (rows_any _).mono ?_)); rintro e w' ⟨rfl, rfl⟩)
  go_loopw [4] (fun i wr => ∃ j : Nat, j ≤ 98 ∧ i = .int .i64 j ∧ Hid (∀ i, i < j → ∀ r, rowsL[i]? = some r → r.1 ≠ op) ∧ Hid (wr.heap[w.heap.size]? = some (.cells (IC (op, rd, r1, r2, im, cs, sz)) 25)) ∧ Hid (wr.heap[w.heap.size + 1]? = some (.cells rowsC 58)) ∧ Hid (Fr [] w wr)) (fun i _ => 98 - (intOf i).toNat)
  case atStart => exact ⟨0, by decide, rfl, fun i hi => by omega, blk_alloc (blk_new _ _) _, blk_new' (by simp) _, ((Fr.refl _ _).alloc _).alloc _⟩
  case round =>
    obtain ⟨j, hj, rfl, hno, hZ, hR, hF⟩ := hrel
    have x0 : wr.cell? ⟨w.heap.size, 0, none⟩ = some (.int .u8 (op)) := by rw [blk_cell hZ.out]; rfl
    have x1 : wr.cell? ⟨w.heap.size, 1, none⟩ = some (.int .u8 (rd)) := by rw [blk_cell hZ.out]; rfl
    have x2 : wr.cell? ⟨w.heap.size, 2, none⟩ = some (.int .u8 (r1)) := by rw [blk_cell hZ.out]; rfl
    have x3 : wr.cell? ⟨w.heap.size, 3, none⟩ = some (.int .u8 (r2)) := by rw [blk_cell hZ.out]; rfl
    have x4 : wr.cell? ⟨w.heap.size, 4, none⟩ = some (.int .i64 (im)) := by rw [blk_cell hZ.out]; rfl
    have x5 : wr.cell? ⟨w.heap.size, 5, none⟩ = some (.int .u16 (cs)) := by rw [blk_cell hZ.out]; rfl
    have x6 : wr.cell? ⟨w.heap.size, 6, none⟩ = some (.int .u8 (sz)) := by rw [blk_cell hZ.out]; rfl
    by_cases hlt : j < 98
    · obtain ⟨⟨o, k, f1, f2⟩, hr⟩ : ∃ r, rowsL[j]? = some r := ⟨rowsL[j]'(by rw [hlen.out]; exact hlt), by simp⟩
      have c0 : wr.cell? ⟨w.heap.size + 1, j * 4, none⟩ = some (.int .u8 o) := row_cell hR.out hr (c := 0) (by decide)
      have c1 : wr.cell? ⟨w.heap.size + 1, j * 4 + 1, none⟩ = some (.int .i64 k) := row_cell hR.out hr (c := 1) (by decide)
      have c3 : wr.cell? ⟨w.heap.size + 1, j * 4 + 3, none⟩ = some (.int .u32 f2) := row_cell hR.out hr (c := 3) (by decide)
      cases hm : (o != op) with
      | true =>
        replace hr := hid hr
        have ho : Hid (o ≠ op) := hid (by simpa using hm)
        go_wp2
        go_quiet (fail)
        go_wp2
        go_roundw
        case rel =>
          refine ⟨j + 1, by omega, by go_num, fun i hi r h => ?_, hZ.out, hR.out, hF.out.drewN _⟩
          by_cases e : i = j
          · subst e; rw [hr.out] at h; cases h; exact ho.out
          · exact hno.out i (by omega) r h
        case measure => simp [intOf]; omega
      | false =>
        have ho : o = op := by simpa using hm
        subst ho
        obtain ⟨hk, ha⟩ := hrow.out _ (List.mem_of_getElem? hr) rfl
        simp only at hk ha
        subst hk ha
        replace hr := hid hr
        clear hrow
        go_wp2
        go_quiet (fail)
        go_wp2
        go_quiet (fail)
        go_wp2_with (go_at_call 53; (with_reducible refine (h12_12.out _).mono ?_); rintro e w' ⟨rfl, nn, rfl⟩)
        go_ret
        exact ⟨rfl, hF.out.drewN _⟩
    · exfalso
      obtain ⟨r, hr, hro⟩ := hex.out
      obtain ⟨i, hi⟩ := List.getElem?_of_mem hr
      exact hno.out i (by have := (List.getElem?_eq_some_iff.1 hi).1; rw [hlen.out] at this; omega) r hi hro
set_option maxRecDepth 100000 in
set_option maxHeartbeats 4000000 in
theorem par_7 (op rd r1 r2 im cs sz a v20_31 v12_12 v11_20 v1_21 : Int) (w : World) (b1 : 0 ≤ rd) (b2 : rd < 256) (b3 : 0 ≤ r1) (b4 : r1 < 256) (b5 : 0 ≤ r2) (b6 : r2 < 256) (b7 : 0 ≤ cs) (b8 : cs < 65536)
    (hrow : Hid (∀ r ∈ rowsL, r.1 = op → r.2.1 = 7 ∧ r.2.2.2 = a)) (hex : Hid (∃ r ∈ rowsL, r.1 = op)) (h20_31 : Hid (∀ w, Calls Try.prog 53 #[.int .i64 im, .int .i64 20, .int .i64 20, .int .i64 31] w fun e w' => e = .returned (.int .u32 v20_31) ∧ ∃ n, w' = w.drewN n)) (h12_12 : Hid (∀ w, Calls Try.prog 53 #[.int .i64 im, .int .i64 12, .int .i64 19, .int .i64 12] w fun e w' => e = .returned (.int .u32 v12_12) ∧ ∃ n, w' = w.drewN n)) (h11_20 : Hid (∀ w, Calls Try.prog 53 #[.int .i64 im, .int .i64 11, .int .i64 11, .int .i64 20] w fun e w' => e = .returned (.int .u32 v11_20) ∧ ∃ n, w' = w.drewN n)) (h1_21 : Hid (∀ w, Calls Try.prog 53 #[.int .i64 im, .int .i64 1, .int .i64 10, .int .i64 21] w fun e w' => e = .returned (.int .u32 v1_21) ∧ ∃ n, w' = w.drewN n)) : Calls Try.prog 41 #[.agg #[.int .u8 op, .int .u8 rd, .int .u8 r1, .int .u8 r2, .int .i64 im, .int .u16 cs, .int .u8 sz]] w fun e w' => e = .returned (.int .u32 (bits .or .u32 (bits .or .u32 (bits .or .u32 (bits .or .u32 (bits .or .u32 (a) (rd * 128)) (v20_31)) (v12_12)) (v11_20)) (v1_21))) ∧ Fr [] w w' := by
  have hlen : rowsL.length = 98 := by decide +kernel
  replace hlen := hid hlen
  go_enter Try.func41, Try.ntmps41
  go_wp2_with (go_at_call 36; ((with_reducible refine (rows_any _).mono ?_)); rintro e w' ⟨rfl, rfl⟩)
  go_loopw [4] (fun i wr => ∃ j : Nat, j ≤ 98 ∧ i = .int .i64 j ∧ Hid (∀ i, i < j → ∀ r, rowsL[i]? = some r → r.1 ≠ op) ∧ Hid (wr.heap[w.heap.size]? = some (.cells (IC (op, rd, r1, r2, im, cs, sz)) 25)) ∧ Hid (wr.heap[w.heap.size + 1]? = some (.cells rowsC 58)) ∧ Hid (Fr [] w wr)) (fun i _ => 98 - (intOf i).toNat)
  case atStart => exact ⟨0, by decide, rfl, fun i hi => by omega, blk_alloc (blk_new _ _) _, blk_new' (by simp) _, ((Fr.refl _ _).alloc _).alloc _⟩
  case round =>
    obtain ⟨j, hj, rfl, hno, hZ, hR, hF⟩ := hrel
    have x0 : wr.cell? ⟨w.heap.size, 0, none⟩ = some (.int .u8 (op)) := by rw [blk_cell hZ.out]; rfl
    have x1 : wr.cell? ⟨w.heap.size, 1, none⟩ = some (.int .u8 (rd)) := by rw [blk_cell hZ.out]; rfl
    have x2 : wr.cell? ⟨w.heap.size, 2, none⟩ = some (.int .u8 (r1)) := by rw [blk_cell hZ.out]; rfl
    have x3 : wr.cell? ⟨w.heap.size, 3, none⟩ = some (.int .u8 (r2)) := by rw [blk_cell hZ.out]; rfl
    have x4 : wr.cell? ⟨w.heap.size, 4, none⟩ = some (.int .i64 (im)) := by rw [blk_cell hZ.out]; rfl
    have x5 : wr.cell? ⟨w.heap.size, 5, none⟩ = some (.int .u16 (cs)) := by rw [blk_cell hZ.out]; rfl
    have x6 : wr.cell? ⟨w.heap.size, 6, none⟩ = some (.int .u8 (sz)) := by rw [blk_cell hZ.out]; rfl
    by_cases hlt : j < 98
    · obtain ⟨⟨o, k, f1, f2⟩, hr⟩ : ∃ r, rowsL[j]? = some r := ⟨rowsL[j]'(by rw [hlen.out]; exact hlt), by simp⟩
      have c0 : wr.cell? ⟨w.heap.size + 1, j * 4, none⟩ = some (.int .u8 o) := row_cell hR.out hr (c := 0) (by decide)
      have c1 : wr.cell? ⟨w.heap.size + 1, j * 4 + 1, none⟩ = some (.int .i64 k) := row_cell hR.out hr (c := 1) (by decide)
      have c3 : wr.cell? ⟨w.heap.size + 1, j * 4 + 3, none⟩ = some (.int .u32 f2) := row_cell hR.out hr (c := 3) (by decide)
      cases hm : (o != op) with
      | true =>
        replace hr := hid hr
        have ho : Hid (o ≠ op) := hid (by simpa using hm)
        go_wp2
        go_quiet (fail)
        go_wp2
        go_roundw
        case rel =>
          refine ⟨j + 1, by omega, by go_num, fun i hi r h => ?_, hZ.out, hR.out, hF.out.drewN _⟩
          by_cases e : i = j
          · subst e; rw [hr.out] at h; cases h; exact ho.out
          · exact hno.out i (by omega) r h
        case measure => simp [intOf]; omega
      | false =>
        have ho : o = op := by simpa using hm
        subst ho
        obtain ⟨hk, ha⟩ := hrow.out _ (List.mem_of_getElem? hr) rfl
        simp only at hk ha
        subst hk ha
        replace hr := hid hr
        clear hrow
        go_wp2
        go_quiet (fail)
        go_wp2
        go_quiet (fail)
        go_wp2
        refine world_atF (fun W => W.cell? ⟨w.heap.size, 4, none⟩ = some (.int .i64 im) ∧ W.cell? ⟨w.heap.size, 5, none⟩ = some (.int .u16 cs) ∧ Fr [] w W) ⟨x4, x5, hF.out.drewN _⟩ ?_
        clear x0 x1 x2 x3 x4 x5 x6 c0 c1 c3 hZ hR hF hno
        rintro W ⟨x4, x5, hF⟩
        replace hF := hid hF
        go_quiet ((first | (go_at_call 53; with_reducible exact dcall _ h20_31) | (go_at_call 53; with_reducible exact dcall _ h12_12) | (go_at_call 53; with_reducible exact dcall _ h11_20) | (go_at_call 53; with_reducible exact dcall _ h1_21)))
        go_wp2
        go_ret
        exact ⟨rfl, hF.out.drewN _⟩
    · exfalso
      obtain ⟨r, hr, hro⟩ := hex.out
      obtain ⟨i, hi⟩ := List.getElem?_of_mem hr
      exact hno.out i (by have := (List.getElem?_eq_some_iff.1 hi).1; rw [hlen.out] at this; omega) r hi hro
set_option maxRecDepth 100000 in
set_option maxHeartbeats 4000000 in
theorem par_8 (op rd r1 r2 im cs sz a : Int) (w : World) (b1 : 0 ≤ rd) (b2 : rd < 256) (b3 : 0 ≤ r1) (b4 : r1 < 256) (b5 : 0 ≤ r2) (b6 : r2 < 256) (b7 : 0 ≤ cs) (b8 : cs < 65536)
    (hrow : Hid (∀ r ∈ rowsL, r.1 = op → r.2.1 = 8 ∧ r.2.2.2 = a)) (hex : Hid (∃ r ∈ rowsL, r.1 = op)) : Calls Try.prog 41 #[.agg #[.int .u8 op, .int .u8 rd, .int .u8 r1, .int .u8 r2, .int .i64 im, .int .u16 cs, .int .u8 sz]] w fun e w' => e = .returned (.int .u32 (bits .or .u32 (bits .or .u32 (bits .or .u32 (a) (rd * 128)) (r1 * 32768)) (cs * 1048576 % 4294967296))) ∧ Fr [] w w' := by
  have hlen : rowsL.length = 98 := by decide +kernel
  replace hlen := hid hlen
  go_enter Try.func41, Try.ntmps41
  go_wp2_with (go_at_call 36; ((with_reducible refine (rows_any _).mono ?_)); rintro e w' ⟨rfl, rfl⟩)
  go_loopw [4] (fun i wr => ∃ j : Nat, j ≤ 98 ∧ i = .int .i64 j ∧ Hid (∀ i, i < j → ∀ r, rowsL[i]? = some r → r.1 ≠ op) ∧ Hid (wr.heap[w.heap.size]? = some (.cells (IC (op, rd, r1, r2, im, cs, sz)) 25)) ∧ Hid (wr.heap[w.heap.size + 1]? = some (.cells rowsC 58)) ∧ Hid (Fr [] w wr)) (fun i _ => 98 - (intOf i).toNat)
  case atStart => exact ⟨0, by decide, rfl, fun i hi => by omega, blk_alloc (blk_new _ _) _, blk_new' (by simp) _, ((Fr.refl _ _).alloc _).alloc _⟩
  case round =>
    obtain ⟨j, hj, rfl, hno, hZ, hR, hF⟩ := hrel
    have x0 : wr.cell? ⟨w.heap.size, 0, none⟩ = some (.int .u8 (op)) := by rw [blk_cell hZ.out]; rfl
    have x1 : wr.cell? ⟨w.heap.size, 1, none⟩ = some (.int .u8 (rd)) := by rw [blk_cell hZ.out]; rfl
    have x2 : wr.cell? ⟨w.heap.size, 2, none⟩ = some (.int .u8 (r1)) := by rw [blk_cell hZ.out]; rfl
    have x3 : wr.cell? ⟨w.heap.size, 3, none⟩ = some (.int .u8 (r2)) := by rw [blk_cell hZ.out]; rfl
    have x4 : wr.cell? ⟨w.heap.size, 4, none⟩ = some (.int .i64 (im)) := by rw [blk_cell hZ.out]; rfl
    have x5 : wr.cell? ⟨w.heap.size, 5, none⟩ = some (.int .u16 (cs)) := by rw [blk_cell hZ.out]; rfl
    have x6 : wr.cell? ⟨w.heap.size, 6, none⟩ = some (.int .u8 (sz)) := by rw [blk_cell hZ.out]; rfl
    by_cases hlt : j < 98
    · obtain ⟨⟨o, k, f1, f2⟩, hr⟩ : ∃ r, rowsL[j]? = some r := ⟨rowsL[j]'(by rw [hlen.out]; exact hlt), by simp⟩
      have c0 : wr.cell? ⟨w.heap.size + 1, j * 4, none⟩ = some (.int .u8 o) := row_cell hR.out hr (c := 0) (by decide)
      have c1 : wr.cell? ⟨w.heap.size + 1, j * 4 + 1, none⟩ = some (.int .i64 k) := row_cell hR.out hr (c := 1) (by decide)
      have c3 : wr.cell? ⟨w.heap.size + 1, j * 4 + 3, none⟩ = some (.int .u32 f2) := row_cell hR.out hr (c := 3) (by decide)
      cases hm : (o != op) with
      | true =>
        replace hr := hid hr
        have ho : Hid (o ≠ op) := hid (by simpa using hm)
        go_wp2
        go_quiet (fail)
        go_wp2
        go_roundw
        case rel =>
          refine ⟨j + 1, by omega, by go_num, fun i hi r h => ?_, hZ.out, hR.out, hF.out.drewN _⟩
          by_cases e : i = j
          · subst e; rw [hr.out] at h; cases h; exact ho.out
          · exact hno.out i (by omega) r h
        case measure => simp [intOf]; omega
      | false =>
        have ho : o = op := by simpa using hm
        subst ho
        obtain ⟨hk, ha⟩ := hrow.out _ (List.mem_of_getElem? hr) rfl
        simp only at hk ha
        subst hk ha
        replace hr := hid hr
        clear hrow
        go_wp2
        go_quiet (fail)
        go_wp2
        go_quiet (fail)
        go_wp2
        go_ret
        exact ⟨rfl, hF.out.drewN _⟩
    · exfalso
      obtain ⟨r, hr, hro⟩ := hex.out
      obtain ⟨i, hi⟩ := List.getElem?_of_mem hr
      exact hno.out i (by have := (List.getElem?_eq_some_iff.1 hi).1; rw [hlen.out] at this; omega) r hi hro
set_option maxRecDepth 100000 in
set_option maxHeartbeats 4000000 in
theorem par_9 (op rd r1 r2 im cs sz a v0_15 : Int) (w : World) (b1 : 0 ≤ rd) (b2 : rd < 256) (b3 : 0 ≤ r1) (b4 : r1 < 256) (b5 : 0 ≤ r2) (b6 : r2 < 256) (b7 : 0 ≤ cs) (b8 : cs < 65536)
    (hrow : Hid (∀ r ∈ rowsL, r.1 = op → r.2.1 = 9 ∧ r.2.2.2 = a)) (hex : Hid (∃ r ∈ rowsL, r.1 = op)) (h0_15 : Hid (∀ w, Calls Try.prog 53 #[.int .i64 im, .int .i64 0, .int .i64 4, .int .i64 15] w fun e w' => e = .returned (.int .u32 v0_15) ∧ ∃ n, w' = w.drewN n)) : Calls Try.prog 41 #[.agg #[.int .u8 op, .int .u8 rd, .int .u8 r1, .int .u8 r2, .int .i64 im, .int .u16 cs, .int .u8 sz]] w fun e w' => e = .returned (.int .u32 (bits .or .u32 (bits .or .u32 (bits .or .u32 (a) (rd * 128)) (v0_15)) (cs * 1048576 % 4294967296))) ∧ Fr [] w w' := by
  have hlen : rowsL.length = 98 := by decide +kernel
  replace hlen := hid hlen
  go_enter Try.func41, Try.ntmps41
  go_wp2_with (go_at_call 36; ((with_reducible refine (rows_any _).mono ?_)); rintro e w' ⟨rfl, rfl⟩)
  go_loopw [4] (fun i wr => ∃ j : Nat, j ≤ 98 ∧ i = .int .i64 j ∧ Hid (∀ i, i < j → ∀ r, rowsL[i]? = some r → r.1 ≠ op) ∧ Hid (wr.heap[w.heap.size]? = some (.cells (IC (op, rd, r1, r2, im, cs, sz)) 25)) ∧ Hid (wr.heap[w.heap.size + 1]? = some (.cells rowsC 58)) ∧ Hid (Fr [] w wr)) (fun i _ => 98 - (intOf i).toNat)
  case atStart => exact ⟨0, by decide, rfl, fun i hi => by omega, blk_alloc (blk_new _ _) _, blk_new' (by simp) _, ((Fr.refl _ _).alloc _).alloc _⟩
  case round =>
    obtain ⟨j, hj, rfl, hno, hZ, hR, hF⟩ := hrel
    have x0 : wr.cell? ⟨w.heap.size, 0, none⟩ = some (.int .u8 (op)) := by rw [blk_cell hZ.out]; rfl
    have x1 : wr.cell? ⟨w.heap.size, 1, none⟩ = some (.int .u8 (rd)) := by rw [blk_cell hZ.out]; rfl
    have x2 : wr.cell? ⟨w.heap.size, 2, none⟩ = some (.int .u8 (r1)) := by rw [blk_cell hZ.out]; rfl
    have x3 : wr.cell? ⟨w.heap.size, 3, none⟩ = some (.int .u8 (r2)) := by rw [blk_cell hZ.out]; rfl
    have x4 : wr.cell? ⟨w.heap.size, 4, none⟩ = some (.int .i64 (im)) := by rw [blk_cell hZ.out]; rfl
    have x5 : wr.cell? ⟨w.heap.size, 5, none⟩ = some (.int .u16 (cs)) := by rw [blk_cell hZ.out]; rfl
    have x6 : wr.cell? ⟨w.heap.size, 6, none⟩ = some (.int .u8 (sz)) := by rw [blk_cell hZ.out]; rfl
    by_cases hlt : j < 98
    · obtain ⟨⟨o, k, f1, f2⟩, hr⟩ : ∃ r, rowsL[j]? = some r := ⟨rowsL[j]'(by rw [hlen.out]; exact hlt), by simp⟩
      have c0 : wr.cell? ⟨w.heap.size + 1, j * 4, none⟩ = some (.int .u8 o) := row_cell hR.out hr (c := 0) (by decide)
      have c1 : wr.cell? ⟨w.heap.size + 1, j * 4 + 1, none⟩ = some (.int .i64 k) := row_cell hR.out hr (c := 1) (by decide)
      have c3 : wr.cell? ⟨w.heap.size + 1, j * 4 + 3, none⟩ = some (.int .u32 f2) := row_cell hR.out hr (c := 3) (by decide)
      cases hm : (o != op) with
      | true =>
        replace hr := hid hr
        have ho : Hid (o ≠ op) := hid (by simpa using hm)
        go_wp2
        go_quiet (fail)
        go_wp2
        go_roundw
        case rel =>
          refine ⟨j + 1, by omega, by go_num, fun i hi r h => ?_, hZ.out, hR.out, hF.out.drewN _⟩
          by_cases e : i = j
          · subst e; rw [hr.out] at h; cases h; exact ho.out
          · exact hno.out i (by omega) r h
        case measure => simp [intOf]; omega
      | false =>
        have ho : o = op := by simpa using hm
        subst ho
        obtain ⟨hk, ha⟩ := hrow.out _ (List.mem_of_getElem? hr) rfl
        simp only at hk ha
        subst hk ha
        replace hr := hid hr
        clear hrow
        go_wp2
        go_quiet (fail)
        go_wp2
        go_quiet (fail)
        go_wp2
        refine world_atF (fun W => W.cell? ⟨w.heap.size, 4, none⟩ = some (.int .i64 im) ∧ W.cell? ⟨w.heap.size, 5, none⟩ = some (.int .u16 cs) ∧ Fr [] w W) ⟨x4, x5, hF.out.drewN _⟩ ?_
        clear x0 x1 x2 x3 x4 x5 x6 c0 c1 c3 hZ hR hF hno
        rintro W ⟨x4, x5, hF⟩
        replace hF := hid hF
        go_quiet ((first | (go_at_call 53; with_reducible exact dcall _ h0_15)))
        go_wp2
        go_ret
        exact ⟨rfl, hF.out.drewN _⟩
    · exfalso
      obtain ⟨r, hr, hro⟩ := hex.out
      obtain ⟨i, hi⟩ := List.getElem?_of_mem hr
      exact hno.out i (by have := (List.getElem?_eq_some_iff.1 hi).1; rw [hlen.out] at this; omega) r hi hro
set_option maxRecDepth 100000 in
set_option maxHeartbeats 4000000 in
theorem par_10 (op rd r1 r2 im cs sz a : Int) (w : World) (b1 : 0 ≤ rd) (b2 : rd < 256) (b3 : 0 ≤ r1) (b4 : r1 < 256) (b5 : 0 ≤ r2) (b6 : r2 < 256) (b7 : 0 ≤ cs) (b8 : cs < 65536)
    (hrow : Hid (∀ r ∈ rowsL, r.1 = op → r.2.1 = 10 ∧ r.2.2.2 = a)) (hex : Hid (∃ r ∈ rowsL, r.1 = op)) : Calls Try.prog 41 #[.agg #[.int .u8 op, .int .u8 rd, .int .u8 r1, .int .u8 r2, .int .i64 im, .int .u16 cs, .int .u8 sz]] w fun e w' => e = .returned (.int .u32 (a)) ∧ Fr [] w w' := by
  have hlen : rowsL.length = 98 := by decide +kernel
  replace hlen := hid hlen
  go_enter Try.func41, Try.ntmps41
  go_wp2_with (go_at_call 36; ((with_reducible refine (rows_any _).mono ?_)); rintro e w' ⟨rfl, rfl⟩)
  go_loopw [4] (fun i wr => ∃ j : Nat, j ≤ 98 ∧ i = .int .i64 j ∧ Hid (∀ i, i < j → ∀ r, rowsL[i]? = some r → r.1 ≠ op) ∧ Hid (wr.heap[w.heap.size]? = some (.cells (IC (op, rd, r1, r2, im, cs, sz)) 25)) ∧ Hid (wr.heap[w.heap.size + 1]? = some (.cells rowsC 58)) ∧ Hid (Fr [] w wr)) (fun i _ => 98 - (intOf i).toNat)
  case atStart => exact ⟨0, by decide, rfl, fun i hi => by omega, blk_alloc (blk_new _ _) _, blk_new' (by simp) _, ((Fr.refl _ _).alloc _).alloc _⟩
  case round =>
    obtain ⟨j, hj, rfl, hno, hZ, hR, hF⟩ := hrel
    have x0 : wr.cell? ⟨w.heap.size, 0, none⟩ = some (.int .u8 (op)) := by rw [blk_cell hZ.out]; rfl
    have x1 : wr.cell? ⟨w.heap.size, 1, none⟩ = some (.int .u8 (rd)) := by rw [blk_cell hZ.out]; rfl
    have x2 : wr.cell? ⟨w.heap.size, 2, none⟩ = some (.int .u8 (r1)) := by rw [blk_cell hZ.out]; rfl
    have x3 : wr.cell? ⟨w.heap.size, 3, none⟩ = some (.int .u8 (r2)) := by rw [blk_cell hZ.out]; rfl
    have x4 : wr.cell? ⟨w.heap.size, 4, none⟩ = some (.int .i64 (im)) := by rw [blk_cell hZ.out]; rfl
    have x5 : wr.cell? ⟨w.heap.size, 5, none⟩ = some (.int .u16 (cs)) := by rw [blk_cell hZ.out]; rfl
    have x6 : wr.cell? ⟨w.heap.size, 6, none⟩ = some (.int .u8 (sz)) := by rw [blk_cell hZ.out]; rfl
    by_cases hlt : j < 98
    · obtain ⟨⟨o, k, f1, f2⟩, hr⟩ : ∃ r, rowsL[j]? = some r := ⟨rowsL[j]'(by rw [hlen.out]; exact hlt), by simp⟩
      have c0 : wr.cell? ⟨w.heap.size + 1, j * 4, none⟩ = some (.int .u8 o) := row_cell hR.out hr (c := 0) (by decide)
      have c1 : wr.cell? ⟨w.heap.size + 1, j * 4 + 1, none⟩ = some (.int .i64 k) := row_cell hR.out hr (c := 1) (by decide)
      have c3 : wr.cell? ⟨w.heap.size + 1, j * 4 + 3, none⟩ = some (.int .u32 f2) := row_cell hR.out hr (c := 3) (by decide)
      cases hm : (o != op) with
      | true =>
        replace hr := hid hr
        have ho : Hid (o ≠ op) := hid (by simpa using hm)
        go_wp2
        go_quiet (fail)
        go_wp2
        go_roundw
        case rel =>
          refine ⟨j + 1, by omega, by go_num, fun i hi r h => ?_, hZ.out, hR.out, hF.out.drewN _⟩
          by_cases e : i = j
          · subst e; rw [hr.out] at h; cases h; exact ho.out
          · exact hno.out i (by omega) r h
        case measure => simp [intOf]; omega
      | false =>
        have ho : o = op := by simpa using hm
        subst ho
        obtain ⟨hk, ha⟩ := hrow.out _ (List.mem_of_getElem? hr) rfl
        simp only at hk ha
        subst hk ha
        replace hr := hid hr
        clear hrow
        go_wp2
        go_quiet (fail)
        go_wp2
        go_quiet (fail)
        go_wp2
        go_ret
        exact ⟨rfl, hF.out.drewN _⟩
    · exfalso
      obtain ⟨r, hr, hro⟩ := hex.out
      obtain ⟨i, hi⟩ := List.getElem?_of_mem hr
      exact hno.out i (by have := (List.getElem?_eq_some_iff.1 hi).1; rw [hlen.out] at this; omega) r hi hro
set_option maxRecDepth 100000 in
set_option maxHeartbeats 4000000 in
theorem par_11 (op rd r1 r2 im cs sz a : Int) (w : World) (b1 : 0 ≤ rd) (b2 : rd < 256) (b3 : 0 ≤ r1) (b4 : r1 < 256) (b5 : 0 ≤ r2) (b6 : r2 < 256) (b7 : 0 ≤ cs) (b8 : cs < 65536)
    (hrow : Hid (∀ r ∈ rowsL, r.1 = op → r.2.1 = 11 ∧ r.2.2.2 = a)) (hex : Hid (∃ r ∈ rowsL, r.1 = op)) : Calls Try.prog 41 #[.agg #[.int .u8 op, .int .u8 rd, .int .u8 r1, .int .u8 r2, .int .i64 im, .int .u16 cs, .int .u8 sz]] w fun e w' => e = .returned (.int .u32 (bits .or .u32 (bits .or .u32 (bits .or .u32 (a) (rd * 128)) (r1 * 32768)) (r2 * 1048576))) ∧ Fr [] w w' := by
  have hlen : rowsL.length = 98 := by decide +kernel
  replace hlen := hid hlen
  go_enter Try.func41, Try.ntmps41
  go_wp2_with (go_at_call 36; ((with_reducible refine (rows_any _).mono ?_)); rintro e w' ⟨rfl, rfl⟩)
  go_loopw [4] (fun i wr => ∃ j : Nat, j ≤ 98 ∧ i = .int .i64 j ∧ Hid (∀ i, i < j → ∀ r, rowsL[i]? = some r → r.1 ≠ op) ∧ Hid (wr.heap[w.heap.size]? = some (.cells (IC (op, rd, r1, r2, im, cs, sz)) 25)) ∧ Hid (wr.heap[w.heap.size + 1]? = some (.cells rowsC 58)) ∧ Hid (Fr [] w wr)) (fun i _ => 98 - (intOf i).toNat)
  case atStart => exact ⟨0, by decide, rfl, fun i hi => by omega, blk_alloc (blk_new _ _) _, blk_new' (by simp) _, ((Fr.refl _ _).alloc _).alloc _⟩
  case round =>
    obtain ⟨j, hj, rfl, hno, hZ, hR, hF⟩ := hrel
    have x0 : wr.cell? ⟨w.heap.size, 0, none⟩ = some (.int .u8 (op)) := by rw [blk_cell hZ.out]; rfl
    have x1 : wr.cell? ⟨w.heap.size, 1, none⟩ = some (.int .u8 (rd)) := by rw [blk_cell hZ.out]; rfl
    have x2 : wr.cell? ⟨w.heap.size, 2, none⟩ = some (.int .u8 (r1)) := by rw [blk_cell hZ.out]; rfl
    have x3 : wr.cell? ⟨w.heap.size, 3, none⟩ = some (.int .u8 (r2)) := by rw [blk_cell hZ.out]; rfl
    have x4 : wr.cell? ⟨w.heap.size, 4, none⟩ = some (.int .i64 (im)) := by rw [blk_cell hZ.out]; rfl
    have x5 : wr.cell? ⟨w.heap.size, 5, none⟩ = some (.int .u16 (cs)) := by rw [blk_cell hZ.out]; rfl
    have x6 : wr.cell? ⟨w.heap.size, 6, none⟩ = some (.int .u8 (sz)) := by rw [blk_cell hZ.out]; rfl
    by_cases hlt : j < 98
    · obtain ⟨⟨o, k, f1, f2⟩, hr⟩ : ∃ r, rowsL[j]? = some r := ⟨rowsL[j]'(by rw [hlen.out]; exact hlt), by simp⟩
      have c0 : wr.cell? ⟨w.heap.size + 1, j * 4, none⟩ = some (.int .u8 o) := row_cell hR.out hr (c := 0) (by decide)
      have c1 : wr.cell? ⟨w.heap.size + 1, j * 4 + 1, none⟩ = some (.int .i64 k) := row_cell hR.out hr (c := 1) (by decide)
      have c3 : wr.cell? ⟨w.heap.size + 1, j * 4 + 3, none⟩ = some (.int .u32 f2) := row_cell hR.out hr (c := 3) (by decide)
      cases hm : (o != op) with
      | true =>
        replace hr := hid hr
        have ho : Hid (o ≠ op) := hid (by simpa using hm)
        go_wp2
        go_quiet (fail)
        go_wp2
        go_roundw
        case rel =>
          refine ⟨j + 1, by omega, by go_num, fun i hi r h => ?_, hZ.out, hR.out, hF.out.drewN _⟩
          by_cases e : i = j
          · subst e; rw [hr.out] at h; cases h; exact ho.out
          · exact hno.out i (by omega) r h
        case measure => simp [intOf]; omega
      | false =>
        have ho : o = op := by simpa using hm
        subst ho
        obtain ⟨hk, ha⟩ := hrow.out _ (List.mem_of_getElem? hr) rfl
        simp only at hk ha
        subst hk ha
        replace hr := hid hr
        clear hrow
        go_wp2
        go_quiet (fail)
        go_wp2
        go_quiet (fail)
        go_wp2
        go_ret
        exact ⟨rfl, hF.out.drewN _⟩
    · exfalso
      obtain ⟨r, hr, hro⟩ := hex.out
      obtain ⟨i, hi⟩ := List.getElem?_of_mem hr
      exact hno.out i (by have := (List.getElem?_eq_some_iff.1 hi).1; rw [hlen.out] at this; omega) r hi hro
set_option maxRecDepth 100000 in
set_option maxHeartbeats 4000000 in
theorem par_none (op rd r1 r2 im cs sz : Int) (w : World) (hrow : Hid (∀ r ∈ rowsL, r.1 ≠ op)) : Calls Try.prog 41 #[.agg #[.int .u8 op, .int .u8 rd, .int .u8 r1, .int .u8 r2, .int .i64 im, .int .u16 cs, .int .u8 sz]] w fun e w' => e = .returned (.int .u32 0) ∧ Fr [] w w' := by
  have hlen : rowsL.length = 98 := by decide +kernel
  replace hlen := hid hlen
  go_enter Try.func41, Try.ntmps41
  go_wp2_with (go_at_call 36; ((with_reducible refine (rows_any _).mono ?_)); rintro e w' ⟨rfl, rfl⟩)
  go_loopw [4] (fun i wr => ∃ j : Nat, j ≤ 98 ∧ i = .int .i64 j ∧ Hid (wr.heap[w.heap.size]? = some (.cells (IC (op, rd, r1, r2, im, cs, sz)) 25)) ∧ Hid (wr.heap[w.heap.size + 1]? = some (.cells rowsC 58)) ∧ Hid (Fr [] w wr)) (fun i _ => 98 - (intOf i).toNat)
  case atStart => exact ⟨0, by decide, rfl, blk_alloc (blk_new _ _) _, blk_new' (by simp) _, ((Fr.refl _ _).alloc _).alloc _⟩
  case round =>
    obtain ⟨j, hj, rfl, hZ, hR, hF⟩ := hrel
    have x0 : wr.cell? ⟨w.heap.size, 0, none⟩ = some (.int .u8 op) := by rw [blk_cell hZ.out]; rfl
    by_cases hlt : j < 98
    · obtain ⟨⟨o, k, f1, f2⟩, hr⟩ : ∃ r, rowsL[j]? = some r := ⟨rowsL[j]'(by rw [hlen.out]; exact hlt), by simp⟩
      have c0 : wr.cell? ⟨w.heap.size + 1, j * 4, none⟩ = some (.int .u8 o) := row_cell hR.out hr (c := 0) (by decide)
      have hm : (o != op) = true := by have := hrow.out _ (List.mem_of_getElem? hr); simpa using this
      replace hr := hid hr
      go_wp2
      go_quiet (fail)
      go_wp2
      go_roundw
      case rel => exact ⟨j + 1, by omega, by go_num, hZ.out, hR.out, hF.out.drewN _⟩
      case measure => simp [intOf]; omega
    · obtain rfl : j = 98 := by omega
      go_wp2
      go_ret
      exact ⟨rfl, hF.out⟩
end Go.Proofs.Ytogdifjdlkpehaa.PA
