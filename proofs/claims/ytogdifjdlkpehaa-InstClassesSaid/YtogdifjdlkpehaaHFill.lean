/- Contracts of the reference's Field, sign and fill. -/
import Derived.Test.YtogdifjdlkpehaaHRows
import Derived.Test.YtogdifjdlkpehaaEv
import Derived.Test.YtogdifjdlkpehaaK3
import Derived.BigRegion
namespace Go.Proofs.Ytogdifjdlkpehaa.PA
open Go.RowKit
set_option linter.all false

/-- an instruction's cells -/
def IC (x : T7) : Array Value := #[.int .u8 x.1, .int .u8 x.2.1, .int .u8 x.2.2.1, .int .u8 x.2.2.2.1, .int .i64 x.2.2.2.2.1, .int .u16 x.2.2.2.2.2.1, .int .u8 x.2.2.2.2.2.2]
theorem IC_one (x : T7) : (IC x).all (·.oneCell') = true := by simp [IC, Value.oneCell']
theorem sizeI : (Try.prog.info? 25).map (·.size) = some 7 := by kernel_rfl
theorem sizeI' (x : T7) : (Try.prog.info? 25).map (·.size) = some (IC x).size := by rw [sizeI]; rfl
theorem world_atF (F : World → Prop) {P : Program} {c : Code} {Q : Exit → Act → World → Prop} {a : Act} {w : World} (hF : F w) (h : ∀ W, F W → c.wp P Q a W) : c.wp P Q a w := h w hF
abbrev CField (p : Int) (a b : Nat) (r : Int) : Prop := Hid (∀ w : World, Calls Try.prog 51 #[.int .u32 p, .int .i64 (no_index (OfNat.ofNat a)), .int .i64 (no_index (OfNat.ofNat b))] w fun e w' => e = .returned (.int .u64 r) ∧ ∃ n, w' = w.drewN n)
set_option maxRecDepth 100000 in
set_option maxHeartbeats 4000000 in
theorem field_7_11 {p : Int} (hp : P32 p) (w : World) : Calls Try.prog 51 #[.int .u32 p, .int .i64 7, .int .i64 11] w fun e w' => e = .returned (.int .u64 (p / 128 % 32)) ∧ ∃ n, w' = w.drewN n := by
  unfold P32 at hp
  have h1 : IntKind.u64.wrap p = p := by rw [IntKind.wrap_u64]; omega
  have h2 : p.tdiv 128 = p / 128 := Int.tdiv_eq_ediv_of_nonneg hp.1
  have h3 : IntKind.u64.wrap (p / 128) = p / 128 := by rw [IntKind.wrap_u64]; omega
  have h4 : (p / 128).tmod 32 = p / 128 % 32 := Int.tmod_eq_emod_of_nonneg (by omega)
  go_enter Try.func51, Try.ntmps51
  go_wp2
  go_quiet (fail)
  go_wp2
  go_ret
  exact ⟨rfl, _, rfl⟩
set_option maxRecDepth 100000 in
set_option maxHeartbeats 4000000 in
theorem field_15_19 {p : Int} (hp : P32 p) (w : World) : Calls Try.prog 51 #[.int .u32 p, .int .i64 15, .int .i64 19] w fun e w' => e = .returned (.int .u64 (p / 32768 % 32)) ∧ ∃ n, w' = w.drewN n := by
  unfold P32 at hp
  have h1 : IntKind.u64.wrap p = p := by rw [IntKind.wrap_u64]; omega
  have h2 : p.tdiv 32768 = p / 32768 := Int.tdiv_eq_ediv_of_nonneg hp.1
  have h3 : IntKind.u64.wrap (p / 32768) = p / 32768 := by rw [IntKind.wrap_u64]; omega
  have h4 : (p / 32768).tmod 32 = p / 32768 % 32 := Int.tmod_eq_emod_of_nonneg (by omega)
  go_enter Try.func51, Try.ntmps51
  go_wp2
  go_quiet (fail)
  go_wp2
  go_ret
  exact ⟨rfl, _, rfl⟩
set_option maxRecDepth 100000 in
set_option maxHeartbeats 4000000 in
theorem field_20_24 {p : Int} (hp : P32 p) (w : World) : Calls Try.prog 51 #[.int .u32 p, .int .i64 20, .int .i64 24] w fun e w' => e = .returned (.int .u64 (p / 1048576 % 32)) ∧ ∃ n, w' = w.drewN n := by
  unfold P32 at hp
  have h1 : IntKind.u64.wrap p = p := by rw [IntKind.wrap_u64]; omega
  have h2 : p.tdiv 1048576 = p / 1048576 := Int.tdiv_eq_ediv_of_nonneg hp.1
  have h3 : IntKind.u64.wrap (p / 1048576) = p / 1048576 := by rw [IntKind.wrap_u64]; omega
  have h4 : (p / 1048576).tmod 32 = p / 1048576 % 32 := Int.tmod_eq_emod_of_nonneg (by omega)
  go_enter Try.func51, Try.ntmps51
  go_wp2
  go_quiet (fail)
  go_wp2
  go_ret
  exact ⟨rfl, _, rfl⟩
set_option maxRecDepth 100000 in
set_option maxHeartbeats 4000000 in
theorem field_20_31 {p : Int} (hp : P32 p) (w : World) : Calls Try.prog 51 #[.int .u32 p, .int .i64 20, .int .i64 31] w fun e w' => e = .returned (.int .u64 (p / 1048576 % 4096)) ∧ ∃ n, w' = w.drewN n := by
  unfold P32 at hp
  have h1 : IntKind.u64.wrap p = p := by rw [IntKind.wrap_u64]; omega
  have h2 : p.tdiv 1048576 = p / 1048576 := Int.tdiv_eq_ediv_of_nonneg hp.1
  have h3 : IntKind.u64.wrap (p / 1048576) = p / 1048576 := by rw [IntKind.wrap_u64]; omega
  have h4 : (p / 1048576).tmod 4096 = p / 1048576 % 4096 := Int.tmod_eq_emod_of_nonneg (by omega)
  go_enter Try.func51, Try.ntmps51
  go_wp2
  go_quiet (fail)
  go_wp2
  go_ret
  exact ⟨rfl, _, rfl⟩
set_option maxRecDepth 100000 in
set_option maxHeartbeats 4000000 in
theorem field_20_25 {p : Int} (hp : P32 p) (w : World) : Calls Try.prog 51 #[.int .u32 p, .int .i64 20, .int .i64 25] w fun e w' => e = .returned (.int .u64 (p / 1048576 % 64)) ∧ ∃ n, w' = w.drewN n := by
  unfold P32 at hp
  have h1 : IntKind.u64.wrap p = p := by rw [IntKind.wrap_u64]; omega
  have h2 : p.tdiv 1048576 = p / 1048576 := Int.tdiv_eq_ediv_of_nonneg hp.1
  have h3 : IntKind.u64.wrap (p / 1048576) = p / 1048576 := by rw [IntKind.wrap_u64]; omega
  have h4 : (p / 1048576).tmod 64 = p / 1048576 % 64 := Int.tmod_eq_emod_of_nonneg (by omega)
  go_enter Try.func51, Try.ntmps51
  go_wp2
  go_quiet (fail)
  go_wp2
  go_ret
  exact ⟨rfl, _, rfl⟩
set_option maxRecDepth 100000 in
set_option maxHeartbeats 4000000 in
theorem field_25_31 {p : Int} (hp : P32 p) (w : World) : Calls Try.prog 51 #[.int .u32 p, .int .i64 25, .int .i64 31] w fun e w' => e = .returned (.int .u64 (p / 33554432 % 128)) ∧ ∃ n, w' = w.drewN n := by
  unfold P32 at hp
  have h1 : IntKind.u64.wrap p = p := by rw [IntKind.wrap_u64]; omega
  have h2 : p.tdiv 33554432 = p / 33554432 := Int.tdiv_eq_ediv_of_nonneg hp.1
  have h3 : IntKind.u64.wrap (p / 33554432) = p / 33554432 := by rw [IntKind.wrap_u64]; omega
  have h4 : (p / 33554432).tmod 128 = p / 33554432 % 128 := Int.tmod_eq_emod_of_nonneg (by omega)
  go_enter Try.func51, Try.ntmps51
  go_wp2
  go_quiet (fail)
  go_wp2
  go_ret
  exact ⟨rfl, _, rfl⟩
set_option maxRecDepth 100000 in
set_option maxHeartbeats 4000000 in
theorem field_31_31 {p : Int} (hp : P32 p) (w : World) : Calls Try.prog 51 #[.int .u32 p, .int .i64 31, .int .i64 31] w fun e w' => e = .returned (.int .u64 (p / 2147483648 % 2)) ∧ ∃ n, w' = w.drewN n := by
  unfold P32 at hp
  have h1 : IntKind.u64.wrap p = p := by rw [IntKind.wrap_u64]; omega
  have h2 : p.tdiv 2147483648 = p / 2147483648 := Int.tdiv_eq_ediv_of_nonneg hp.1
  have h3 : IntKind.u64.wrap (p / 2147483648) = p / 2147483648 := by rw [IntKind.wrap_u64]; omega
  have h4 : (p / 2147483648).tmod 2 = p / 2147483648 % 2 := Int.tmod_eq_emod_of_nonneg (by omega)
  go_enter Try.func51, Try.ntmps51
  go_wp2
  go_quiet (fail)
  go_wp2
  go_ret
  exact ⟨rfl, _, rfl⟩
set_option maxRecDepth 100000 in
set_option maxHeartbeats 4000000 in
theorem field_7_7 {p : Int} (hp : P32 p) (w : World) : Calls Try.prog 51 #[.int .u32 p, .int .i64 7, .int .i64 7] w fun e w' => e = .returned (.int .u64 (p / 128 % 2)) ∧ ∃ n, w' = w.drewN n := by
  unfold P32 at hp
  have h1 : IntKind.u64.wrap p = p := by rw [IntKind.wrap_u64]; omega
  have h2 : p.tdiv 128 = p / 128 := Int.tdiv_eq_ediv_of_nonneg hp.1
  have h3 : IntKind.u64.wrap (p / 128) = p / 128 := by rw [IntKind.wrap_u64]; omega
  have h4 : (p / 128).tmod 2 = p / 128 % 2 := Int.tmod_eq_emod_of_nonneg (by omega)
  go_enter Try.func51, Try.ntmps51
  go_wp2
  go_quiet (fail)
  go_wp2
  go_ret
  exact ⟨rfl, _, rfl⟩
set_option maxRecDepth 100000 in
set_option maxHeartbeats 4000000 in
theorem field_25_30 {p : Int} (hp : P32 p) (w : World) : Calls Try.prog 51 #[.int .u32 p, .int .i64 25, .int .i64 30] w fun e w' => e = .returned (.int .u64 (p / 33554432 % 64)) ∧ ∃ n, w' = w.drewN n := by
  unfold P32 at hp
  have h1 : IntKind.u64.wrap p = p := by rw [IntKind.wrap_u64]; omega
  have h2 : p.tdiv 33554432 = p / 33554432 := Int.tdiv_eq_ediv_of_nonneg hp.1
  have h3 : IntKind.u64.wrap (p / 33554432) = p / 33554432 := by rw [IntKind.wrap_u64]; omega
  have h4 : (p / 33554432).tmod 64 = p / 33554432 % 64 := Int.tmod_eq_emod_of_nonneg (by omega)
  go_enter Try.func51, Try.ntmps51
  go_wp2
  go_quiet (fail)
  go_wp2
  go_ret
  exact ⟨rfl, _, rfl⟩
set_option maxRecDepth 100000 in
set_option maxHeartbeats 4000000 in
theorem field_8_11 {p : Int} (hp : P32 p) (w : World) : Calls Try.prog 51 #[.int .u32 p, .int .i64 8, .int .i64 11] w fun e w' => e = .returned (.int .u64 (p / 256 % 16)) ∧ ∃ n, w' = w.drewN n := by
  unfold P32 at hp
  have h1 : IntKind.u64.wrap p = p := by rw [IntKind.wrap_u64]; omega
  have h2 : p.tdiv 256 = p / 256 := Int.tdiv_eq_ediv_of_nonneg hp.1
  have h3 : IntKind.u64.wrap (p / 256) = p / 256 := by rw [IntKind.wrap_u64]; omega
  have h4 : (p / 256).tmod 16 = p / 256 % 16 := Int.tmod_eq_emod_of_nonneg (by omega)
  go_enter Try.func51, Try.ntmps51
  go_wp2
  go_quiet (fail)
  go_wp2
  go_ret
  exact ⟨rfl, _, rfl⟩
set_option maxRecDepth 100000 in
set_option maxHeartbeats 4000000 in
theorem field_12_31 {p : Int} (hp : P32 p) (w : World) : Calls Try.prog 51 #[.int .u32 p, .int .i64 12, .int .i64 31] w fun e w' => e = .returned (.int .u64 (p / 4096 % 1048576)) ∧ ∃ n, w' = w.drewN n := by
  unfold P32 at hp
  have h1 : IntKind.u64.wrap p = p := by rw [IntKind.wrap_u64]; omega
  have h2 : p.tdiv 4096 = p / 4096 := Int.tdiv_eq_ediv_of_nonneg hp.1
  have h3 : IntKind.u64.wrap (p / 4096) = p / 4096 := by rw [IntKind.wrap_u64]; omega
  have h4 : (p / 4096).tmod 1048576 = p / 4096 % 1048576 := Int.tmod_eq_emod_of_nonneg (by omega)
  go_enter Try.func51, Try.ntmps51
  go_wp2
  go_quiet (fail)
  go_wp2
  go_ret
  exact ⟨rfl, _, rfl⟩
set_option maxRecDepth 100000 in
set_option maxHeartbeats 4000000 in
theorem field_12_19 {p : Int} (hp : P32 p) (w : World) : Calls Try.prog 51 #[.int .u32 p, .int .i64 12, .int .i64 19] w fun e w' => e = .returned (.int .u64 (p / 4096 % 256)) ∧ ∃ n, w' = w.drewN n := by
  unfold P32 at hp
  have h1 : IntKind.u64.wrap p = p := by rw [IntKind.wrap_u64]; omega
  have h2 : p.tdiv 4096 = p / 4096 := Int.tdiv_eq_ediv_of_nonneg hp.1
  have h3 : IntKind.u64.wrap (p / 4096) = p / 4096 := by rw [IntKind.wrap_u64]; omega
  have h4 : (p / 4096).tmod 256 = p / 4096 % 256 := Int.tmod_eq_emod_of_nonneg (by omega)
  go_enter Try.func51, Try.ntmps51
  go_wp2
  go_quiet (fail)
  go_wp2
  go_ret
  exact ⟨rfl, _, rfl⟩
set_option maxRecDepth 100000 in
set_option maxHeartbeats 4000000 in
theorem field_20_20 {p : Int} (hp : P32 p) (w : World) : Calls Try.prog 51 #[.int .u32 p, .int .i64 20, .int .i64 20] w fun e w' => e = .returned (.int .u64 (p / 1048576 % 2)) ∧ ∃ n, w' = w.drewN n := by
  unfold P32 at hp
  have h1 : IntKind.u64.wrap p = p := by rw [IntKind.wrap_u64]; omega
  have h2 : p.tdiv 1048576 = p / 1048576 := Int.tdiv_eq_ediv_of_nonneg hp.1
  have h3 : IntKind.u64.wrap (p / 1048576) = p / 1048576 := by rw [IntKind.wrap_u64]; omega
  have h4 : (p / 1048576).tmod 2 = p / 1048576 % 2 := Int.tmod_eq_emod_of_nonneg (by omega)
  go_enter Try.func51, Try.ntmps51
  go_wp2
  go_quiet (fail)
  go_wp2
  go_ret
  exact ⟨rfl, _, rfl⟩
set_option maxRecDepth 100000 in
set_option maxHeartbeats 4000000 in
theorem field_21_30 {p : Int} (hp : P32 p) (w : World) : Calls Try.prog 51 #[.int .u32 p, .int .i64 21, .int .i64 30] w fun e w' => e = .returned (.int .u64 (p / 2097152 % 1024)) ∧ ∃ n, w' = w.drewN n := by
  unfold P32 at hp
  have h1 : IntKind.u64.wrap p = p := by rw [IntKind.wrap_u64]; omega
  have h2 : p.tdiv 2097152 = p / 2097152 := Int.tdiv_eq_ediv_of_nonneg hp.1
  have h3 : IntKind.u64.wrap (p / 2097152) = p / 2097152 := by rw [IntKind.wrap_u64]; omega
  have h4 : (p / 2097152).tmod 1024 = p / 2097152 % 1024 := Int.tmod_eq_emod_of_nonneg (by omega)
  go_enter Try.func51, Try.ntmps51
  go_wp2
  go_quiet (fail)
  go_wp2
  go_ret
  exact ⟨rfl, _, rfl⟩
set_option maxRecDepth 100000 in
set_option maxHeartbeats 4000000 in
theorem rsign_12 {n : Int} (n0 : 0 ≤ n) (n1 : n < 4096) (w : World) : Calls Try.prog 52 #[.int .u64 n, .int .i64 12] w fun e w' => e = .returned (.int .i64 (if n < 2048 then n else n - 4096)) ∧ ∃ n, w' = w.drewN n := by
  have h2 : n.tdiv 2048 = n / 2048 := Int.tdiv_eq_ediv_of_nonneg n0
  have h3 : IntKind.u64.wrap (n / 2048) = n / 2048 := by rw [IntKind.wrap_u64]; omega
  have h4 : wrap64 n = n := by unfold wrap64; omega
  by_cases h : n < 2048
  · rw [if_pos h]
    have t1 : (n / 2048 == 1) = false := by simp; omega
    clear h
    go_enter Try.func52, Try.ntmps52
    go_wp2
    go_ret
    exact ⟨rfl, 0, rfl⟩
  · rw [if_neg h]
    have t1 : (n / 2048 == 1) = true := by simp; omega
    have h5 : wrap64 (n - 4096) = n - 4096 := by unfold wrap64; omega
    clear h
    go_enter Try.func52, Try.ntmps52
    go_wp2
    go_ret
    exact ⟨rfl, 0, rfl⟩
set_option maxRecDepth 100000 in
set_option maxHeartbeats 4000000 in
theorem rsign_13 {n : Int} (n0 : 0 ≤ n) (n1 : n < 8192) (w : World) : Calls Try.prog 52 #[.int .u64 n, .int .i64 13] w fun e w' => e = .returned (.int .i64 (if n < 4096 then n else n - 8192)) ∧ ∃ n, w' = w.drewN n := by
  have h2 : n.tdiv 4096 = n / 4096 := Int.tdiv_eq_ediv_of_nonneg n0
  have h3 : IntKind.u64.wrap (n / 4096) = n / 4096 := by rw [IntKind.wrap_u64]; omega
  have h4 : wrap64 n = n := by unfold wrap64; omega
  by_cases h : n < 4096
  · rw [if_pos h]
    have t1 : (n / 4096 == 1) = false := by simp; omega
    clear h
    go_enter Try.func52, Try.ntmps52
    go_wp2
    go_ret
    exact ⟨rfl, 0, rfl⟩
  · rw [if_neg h]
    have t1 : (n / 4096 == 1) = true := by simp; omega
    have h5 : wrap64 (n - 8192) = n - 8192 := by unfold wrap64; omega
    clear h
    go_enter Try.func52, Try.ntmps52
    go_wp2
    go_ret
    exact ⟨rfl, 0, rfl⟩
set_option maxRecDepth 100000 in
set_option maxHeartbeats 4000000 in
theorem rsign_21 {n : Int} (n0 : 0 ≤ n) (n1 : n < 2097152) (w : World) : Calls Try.prog 52 #[.int .u64 n, .int .i64 21] w fun e w' => e = .returned (.int .i64 (if n < 1048576 then n else n - 2097152)) ∧ ∃ n, w' = w.drewN n := by
  have h2 : n.tdiv 1048576 = n / 1048576 := Int.tdiv_eq_ediv_of_nonneg n0
  have h3 : IntKind.u64.wrap (n / 1048576) = n / 1048576 := by rw [IntKind.wrap_u64]; omega
  have h4 : wrap64 n = n := by unfold wrap64; omega
  by_cases h : n < 1048576
  · rw [if_pos h]
    have t1 : (n / 1048576 == 1) = false := by simp; omega
    clear h
    go_enter Try.func52, Try.ntmps52
    go_wp2
    go_ret
    exact ⟨rfl, 0, rfl⟩
  · rw [if_neg h]
    have t1 : (n / 1048576 == 1) = true := by simp; omega
    have h5 : wrap64 (n - 2097152) = n - 2097152 := by unfold wrap64; omega
    clear h
    go_enter Try.func52, Try.ntmps52
    go_wp2
    go_ret
    exact ⟨rfl, 0, rfl⟩
set_option maxRecDepth 100000 in
set_option maxHeartbeats 4000000 in
theorem rsign_32 {n : Int} (n0 : 0 ≤ n) (n1 : n < 4294967296) (w : World) : Calls Try.prog 52 #[.int .u64 n, .int .i64 32] w fun e w' => e = .returned (.int .i64 (if n < 2147483648 then n else n - 4294967296)) ∧ ∃ n, w' = w.drewN n := by
  have h2 : n.tdiv 2147483648 = n / 2147483648 := Int.tdiv_eq_ediv_of_nonneg n0
  have h3 : IntKind.u64.wrap (n / 2147483648) = n / 2147483648 := by rw [IntKind.wrap_u64]; omega
  have h4 : wrap64 n = n := by unfold wrap64; omega
  by_cases h : n < 2147483648
  · rw [if_pos h]
    have t1 : (n / 2147483648 == 1) = false := by simp; omega
    clear h
    go_enter Try.func52, Try.ntmps52
    go_wp2
    go_ret
    exact ⟨rfl, 0, rfl⟩
  · rw [if_neg h]
    have t1 : (n / 2147483648 == 1) = true := by simp; omega
    have h5 : wrap64 (n - 4294967296) = n - 4294967296 := by unfold wrap64; omega
    clear h
    go_enter Try.func52, Try.ntmps52
    go_wp2
    go_ret
    exact ⟨rfl, 0, rfl⟩
set_option maxRecDepth 100000 in
set_option maxHeartbeats 4000000 in
theorem fill_0 {p : Int} (hp : P32 p) (op f1 f2 : Int) (w : World) : Calls Try.prog 37 #[.int .u32 p, .agg #[.int .u8 op, .int .i64 0, .int .u32 f1, .int .u32 f2]] w fun e w' => e = .returned (.agg (IC (op, p / 128 % 32, p / 32768 % 32, p / 1048576 % 32, 0, 0, 4))) ∧ Fr [] w w' := by
  replace hp := hid hp
  have HF := hid (Fr.refl [] w)
  have c1 : p / 128 % 32 % 256 = p / 128 % 32 := by omega
  have c2 : p / 32768 % 32 % 256 = p / 32768 % 32 := by omega
  have c3 : p / 1048576 % 32 % 256 = p / 1048576 % 32 := by omega
  go_enter Try.func37, Try.ntmps37
  go_upto_region 45 with (first | (go_at_call 51; (with_reducible refine (field_7_11 hp.out _).mono ?_); rintro e w' ⟨rfl, nn, rfl⟩) | (go_at_call 51; (with_reducible refine (field_15_19 hp.out _).mono ?_); rintro e w' ⟨rfl, nn, rfl⟩) | (go_at_call 51; (with_reducible refine (field_20_24 hp.out _).mono ?_); rintro e w' ⟨rfl, nn, rfl⟩) | (go_at_call 51; (with_reducible refine (field_20_31 hp.out _).mono ?_); rintro e w' ⟨rfl, nn, rfl⟩) | (go_at_call 51; (with_reducible refine (field_20_25 hp.out _).mono ?_); rintro e w' ⟨rfl, nn, rfl⟩) | (go_at_call 51; (with_reducible refine (field_25_31 hp.out _).mono ?_); rintro e w' ⟨rfl, nn, rfl⟩) | (go_at_call 51; (with_reducible refine (field_31_31 hp.out _).mono ?_); rintro e w' ⟨rfl, nn, rfl⟩) | (go_at_call 51; (with_reducible refine (field_7_7 hp.out _).mono ?_); rintro e w' ⟨rfl, nn, rfl⟩) | (go_at_call 51; (with_reducible refine (field_25_30 hp.out _).mono ?_); rintro e w' ⟨rfl, nn, rfl⟩) | (go_at_call 51; (with_reducible refine (field_8_11 hp.out _).mono ?_); rintro e w' ⟨rfl, nn, rfl⟩) | (go_at_call 51; (with_reducible refine (field_12_31 hp.out _).mono ?_); rintro e w' ⟨rfl, nn, rfl⟩) | (go_at_call 51; (with_reducible refine (field_12_19 hp.out _).mono ?_); rintro e w' ⟨rfl, nn, rfl⟩) | (go_at_call 51; (with_reducible refine (field_20_20 hp.out _).mono ?_); rintro e w' ⟨rfl, nn, rfl⟩) | (go_at_call 51; (with_reducible refine (field_21_30 hp.out _).mono ?_); rintro e w' ⟨rfl, nn, rfl⟩))
  refine world_atF (fun W => W.heap[w.heap.size + 1]? = some (.cells (IC (0, 0, 0, 0, 0, 0, 0)) 25) ∧ W.heap[w.heap.size + 2]? = some (.cells (IC (op, p / 128 % 32, p / 32768 % 32, p / 1048576 % 32, 0, 0, 4)) 25) ∧ Fr [] w W) ⟨?_, ?_, ?_⟩ ?_
  · exact blk_alloc (blk_new' (n := w.heap.size + 1) (by simp) _) _
  · exact blk_new' (n := w.heap.size + 2) (by simp) _
  · exact (((HF.out.alloc _).alloc _).alloc _).drewN _
  rintro W ⟨hZ, hI, hF⟩
  have HZ := hid hZ
  have HF2 := hid hF
  have x0 : W.cell? ⟨w.heap.size + 1 + 1, 0, none⟩ = some (.int .u8 (op)) := by rw [blk_cell (show W.heap[w.heap.size + 1 + 1]? = _ from hI)]; rfl
  have x1 : W.cell? ⟨w.heap.size + 1 + 1, 1, none⟩ = some (.int .u8 (p / 128 % 32)) := by rw [blk_cell (show W.heap[w.heap.size + 1 + 1]? = _ from hI)]; rfl
  have x2 : W.cell? ⟨w.heap.size + 1 + 1, 2, none⟩ = some (.int .u8 (p / 32768 % 32)) := by rw [blk_cell (show W.heap[w.heap.size + 1 + 1]? = _ from hI)]; rfl
  have x3 : W.cell? ⟨w.heap.size + 1 + 1, 3, none⟩ = some (.int .u8 (p / 1048576 % 32)) := by rw [blk_cell (show W.heap[w.heap.size + 1 + 1]? = _ from hI)]; rfl
  have x4 : W.cell? ⟨w.heap.size + 1 + 1, 4, none⟩ = some (.int .i64 (0)) := by rw [blk_cell (show W.heap[w.heap.size + 1 + 1]? = _ from hI)]; rfl
  have x5 : W.cell? ⟨w.heap.size + 1 + 1, 5, none⟩ = some (.int .u16 (0)) := by rw [blk_cell (show W.heap[w.heap.size + 1 + 1]? = _ from hI)]; rfl
  have x6 : W.cell? ⟨w.heap.size + 1 + 1, 6, none⟩ = some (.int .u8 (4)) := by rw [blk_cell (show W.heap[w.heap.size + 1 + 1]? = _ from hI)]; rfl
  clear hZ hI hF
  go_wp2_with (first | (refine wpList_store_whole rfl 25 _ _ rfl (w.heap.size + 1) rfl (IC (op, p / 128 % 32, p / 32768 % 32, p / 1048576 % 32, 0, 0, 4)) rfl 25 _ HZ.out rfl (sizeI' _) (IC_one _) ?_; intro w2 h2 hfr2))
  exact ⟨rfl, _, results_c rfl rfl h2 Try.underlying25 rfl (sizeI' _), rfl, HF2.out.step hfr2 (fun j hj => .inr (by rw [List.mem_singleton.1 hj]; omega))⟩
set_option maxRecDepth 100000 in
set_option maxHeartbeats 4000000 in
theorem fill_1 {p : Int} (hp : P32 p) (op f1 f2 : Int) (w : World) : Calls Try.prog 37 #[.int .u32 p, .agg #[.int .u8 op, .int .i64 1, .int .u32 f1, .int .u32 f2]] w fun e w' => e = .returned (.agg (IC (op, p / 128 % 32, p / 32768 % 32, 0, (if p / 1048576 % 4096 < 2048 then p / 1048576 % 4096 else p / 1048576 % 4096 - 4096), 0, 4))) ∧ Fr [] w w' := by
  replace hp := hid hp
  have HF := hid (Fr.refl [] w)
  have c1 : p / 128 % 32 % 256 = p / 128 % 32 := by omega
  have c2 : p / 32768 % 32 % 256 = p / 32768 % 32 := by omega
  have c3 : p / 1048576 % 32 % 256 = p / 1048576 % 32 := by omega
  have hs := hid fun w => rsign_12 (n := p / 1048576 % 4096) (by omega) (by omega) w
  generalize hSV : (if p / 1048576 % 4096 < 2048 then p / 1048576 % 4096 else p / 1048576 % 4096 - 4096) = SV at hs ⊢
  replace hSV := hid hSV
  go_enter Try.func37, Try.ntmps37
  go_upto_region 45 with (first | (go_at_call 51; (with_reducible refine (field_7_11 hp.out _).mono ?_); rintro e w' ⟨rfl, nn, rfl⟩) | (go_at_call 51; (with_reducible refine (field_15_19 hp.out _).mono ?_); rintro e w' ⟨rfl, nn, rfl⟩) | (go_at_call 51; (with_reducible refine (field_20_24 hp.out _).mono ?_); rintro e w' ⟨rfl, nn, rfl⟩) | (go_at_call 51; (with_reducible refine (field_20_31 hp.out _).mono ?_); rintro e w' ⟨rfl, nn, rfl⟩) | (go_at_call 51; (with_reducible refine (field_20_25 hp.out _).mono ?_); rintro e w' ⟨rfl, nn, rfl⟩) | (go_at_call 51; (with_reducible refine (field_25_31 hp.out _).mono ?_); rintro e w' ⟨rfl, nn, rfl⟩) | (go_at_call 51; (with_reducible refine (field_31_31 hp.out _).mono ?_); rintro e w' ⟨rfl, nn, rfl⟩) | (go_at_call 51; (with_reducible refine (field_7_7 hp.out _).mono ?_); rintro e w' ⟨rfl, nn, rfl⟩) | (go_at_call 51; (with_reducible refine (field_25_30 hp.out _).mono ?_); rintro e w' ⟨rfl, nn, rfl⟩) | (go_at_call 51; (with_reducible refine (field_8_11 hp.out _).mono ?_); rintro e w' ⟨rfl, nn, rfl⟩) | (go_at_call 51; (with_reducible refine (field_12_31 hp.out _).mono ?_); rintro e w' ⟨rfl, nn, rfl⟩) | (go_at_call 51; (with_reducible refine (field_12_19 hp.out _).mono ?_); rintro e w' ⟨rfl, nn, rfl⟩) | (go_at_call 51; (with_reducible refine (field_20_20 hp.out _).mono ?_); rintro e w' ⟨rfl, nn, rfl⟩) | (go_at_call 51; (with_reducible refine (field_21_30 hp.out _).mono ?_); rintro e w' ⟨rfl, nn, rfl⟩) | (go_at_call 52; (with_reducible refine (hs.out _).mono ?_); rintro e w' ⟨rfl, nn, rfl⟩))
  refine world_atF (fun W => W.heap[w.heap.size + 1]? = some (.cells (IC (0, 0, 0, 0, 0, 0, 0)) 25) ∧ W.heap[w.heap.size + 2]? = some (.cells (IC (op, p / 128 % 32, p / 32768 % 32, 0, SV, 0, 4)) 25) ∧ Fr [] w W) ⟨?_, ?_, ?_⟩ ?_
  · rw [blk_set_other _ (by simp)]; exact blk_alloc (blk_new' (n := w.heap.size + 1) (by simp) _) _
  · exact blk_set (b := w.heap.size + 2) (blk_new' (n := w.heap.size + 2) (by simp) _) 4 _
  · exact (((((HF.out.alloc _).alloc _).drewN _).alloc _).drewN _).setCell (p := ⟨w.heap.size + 1 + 1, 4, none⟩) (.inr (by show w.heap.size ≤ w.heap.size + 1 + 1; omega)) _
  rintro W ⟨hZ, hI, hF⟩
  have HZ := hid hZ
  have HF2 := hid hF
  have x0 : W.cell? ⟨w.heap.size + 1 + 1, 0, none⟩ = some (.int .u8 (op)) := by rw [blk_cell (show W.heap[w.heap.size + 1 + 1]? = _ from hI)]; rfl
  have x1 : W.cell? ⟨w.heap.size + 1 + 1, 1, none⟩ = some (.int .u8 (p / 128 % 32)) := by rw [blk_cell (show W.heap[w.heap.size + 1 + 1]? = _ from hI)]; rfl
  have x2 : W.cell? ⟨w.heap.size + 1 + 1, 2, none⟩ = some (.int .u8 (p / 32768 % 32)) := by rw [blk_cell (show W.heap[w.heap.size + 1 + 1]? = _ from hI)]; rfl
  have x3 : W.cell? ⟨w.heap.size + 1 + 1, 3, none⟩ = some (.int .u8 (0)) := by rw [blk_cell (show W.heap[w.heap.size + 1 + 1]? = _ from hI)]; rfl
  have x4 : W.cell? ⟨w.heap.size + 1 + 1, 4, none⟩ = some (.int .i64 (SV)) := by rw [blk_cell (show W.heap[w.heap.size + 1 + 1]? = _ from hI)]; rfl
  have x5 : W.cell? ⟨w.heap.size + 1 + 1, 5, none⟩ = some (.int .u16 (0)) := by rw [blk_cell (show W.heap[w.heap.size + 1 + 1]? = _ from hI)]; rfl
  have x6 : W.cell? ⟨w.heap.size + 1 + 1, 6, none⟩ = some (.int .u8 (4)) := by rw [blk_cell (show W.heap[w.heap.size + 1 + 1]? = _ from hI)]; rfl
  clear hZ hI hF
  go_wp2_with (first | (refine wpList_store_whole rfl 25 _ _ rfl (w.heap.size + 1) rfl (IC (op, p / 128 % 32, p / 32768 % 32, 0, SV, 0, 4)) rfl 25 _ HZ.out rfl (sizeI' _) (IC_one _) ?_; intro w2 h2 hfr2))
  exact ⟨rfl, _, results_c rfl rfl h2 Try.underlying25 rfl (sizeI' _), rfl, HF2.out.step hfr2 (fun j hj => .inr (by rw [List.mem_singleton.1 hj]; omega))⟩
set_option maxRecDepth 100000 in
set_option maxHeartbeats 4000000 in
theorem fill_2 {p : Int} (hp : P32 p) (op f1 f2 : Int) (w : World) : Calls Try.prog 37 #[.int .u32 p, .agg #[.int .u8 op, .int .i64 2, .int .u32 f1, .int .u32 f2]] w fun e w' => e = .returned (.agg (IC (op, p / 128 % 32, p / 32768 % 32, 0, p / 1048576 % 64, 0, 4))) ∧ Fr [] w w' := by
  replace hp := hid hp
  have HF := hid (Fr.refl [] w)
  have c1 : p / 128 % 32 % 256 = p / 128 % 32 := by omega
  have c2 : p / 32768 % 32 % 256 = p / 32768 % 32 := by omega
  have c3 : p / 1048576 % 32 % 256 = p / 1048576 % 32 := by omega
  have g0 : wrap64 (p / 1048576 % 64) = p / 1048576 % 64 := by unfold wrap64; omega
  go_enter Try.func37, Try.ntmps37
  go_upto_region 45 with (first | (go_at_call 51; (with_reducible refine (field_7_11 hp.out _).mono ?_); rintro e w' ⟨rfl, nn, rfl⟩) | (go_at_call 51; (with_reducible refine (field_15_19 hp.out _).mono ?_); rintro e w' ⟨rfl, nn, rfl⟩) | (go_at_call 51; (with_reducible refine (field_20_24 hp.out _).mono ?_); rintro e w' ⟨rfl, nn, rfl⟩) | (go_at_call 51; (with_reducible refine (field_20_31 hp.out _).mono ?_); rintro e w' ⟨rfl, nn, rfl⟩) | (go_at_call 51; (with_reducible refine (field_20_25 hp.out _).mono ?_); rintro e w' ⟨rfl, nn, rfl⟩) | (go_at_call 51; (with_reducible refine (field_25_31 hp.out _).mono ?_); rintro e w' ⟨rfl, nn, rfl⟩) | (go_at_call 51; (with_reducible refine (field_31_31 hp.out _).mono ?_); rintro e w' ⟨rfl, nn, rfl⟩) | (go_at_call 51; (with_reducible refine (field_7_7 hp.out _).mono ?_); rintro e w' ⟨rfl, nn, rfl⟩) | (go_at_call 51; (with_reducible refine (field_25_30 hp.out _).mono ?_); rintro e w' ⟨rfl, nn, rfl⟩) | (go_at_call 51; (with_reducible refine (field_8_11 hp.out _).mono ?_); rintro e w' ⟨rfl, nn, rfl⟩) | (go_at_call 51; (with_reducible refine (field_12_31 hp.out _).mono ?_); rintro e w' ⟨rfl, nn, rfl⟩) | (go_at_call 51; (with_reducible refine (field_12_19 hp.out _).mono ?_); rintro e w' ⟨rfl, nn, rfl⟩) | (go_at_call 51; (with_reducible refine (field_20_20 hp.out _).mono ?_); rintro e w' ⟨rfl, nn, rfl⟩) | (go_at_call 51; (with_reducible refine (field_21_30 hp.out _).mono ?_); rintro e w' ⟨rfl, nn, rfl⟩))
  refine world_atF (fun W => W.heap[w.heap.size + 1]? = some (.cells (IC (0, 0, 0, 0, 0, 0, 0)) 25) ∧ W.heap[w.heap.size + 2]? = some (.cells (IC (op, p / 128 % 32, p / 32768 % 32, 0, p / 1048576 % 64, 0, 4)) 25) ∧ Fr [] w W) ⟨?_, ?_, ?_⟩ ?_
  · rw [blk_set_other _ (by simp)]; exact blk_alloc (blk_new' (n := w.heap.size + 1) (by simp) _) _
  · exact blk_set (b := w.heap.size + 2) (blk_new' (n := w.heap.size + 2) (by simp) _) 4 _
  · exact (((((HF.out.alloc _).alloc _).drewN _).alloc _).drewN _).setCell (p := ⟨w.heap.size + 1 + 1, 4, none⟩) (.inr (by show w.heap.size ≤ w.heap.size + 1 + 1; omega)) _
  rintro W ⟨hZ, hI, hF⟩
  have HZ := hid hZ
  have HF2 := hid hF
  have x0 : W.cell? ⟨w.heap.size + 1 + 1, 0, none⟩ = some (.int .u8 (op)) := by rw [blk_cell (show W.heap[w.heap.size + 1 + 1]? = _ from hI)]; rfl
  have x1 : W.cell? ⟨w.heap.size + 1 + 1, 1, none⟩ = some (.int .u8 (p / 128 % 32)) := by rw [blk_cell (show W.heap[w.heap.size + 1 + 1]? = _ from hI)]; rfl
  have x2 : W.cell? ⟨w.heap.size + 1 + 1, 2, none⟩ = some (.int .u8 (p / 32768 % 32)) := by rw [blk_cell (show W.heap[w.heap.size + 1 + 1]? = _ from hI)]; rfl
  have x3 : W.cell? ⟨w.heap.size + 1 + 1, 3, none⟩ = some (.int .u8 (0)) := by rw [blk_cell (show W.heap[w.heap.size + 1 + 1]? = _ from hI)]; rfl
  have x4 : W.cell? ⟨w.heap.size + 1 + 1, 4, none⟩ = some (.int .i64 (p / 1048576 % 64)) := by rw [blk_cell (show W.heap[w.heap.size + 1 + 1]? = _ from hI)]; rfl
  have x5 : W.cell? ⟨w.heap.size + 1 + 1, 5, none⟩ = some (.int .u16 (0)) := by rw [blk_cell (show W.heap[w.heap.size + 1 + 1]? = _ from hI)]; rfl
  have x6 : W.cell? ⟨w.heap.size + 1 + 1, 6, none⟩ = some (.int .u8 (4)) := by rw [blk_cell (show W.heap[w.heap.size + 1 + 1]? = _ from hI)]; rfl
  clear hZ hI hF
  go_wp2_with (first | (refine wpList_store_whole rfl 25 _ _ rfl (w.heap.size + 1) rfl (IC (op, p / 128 % 32, p / 32768 % 32, 0, p / 1048576 % 64, 0, 4)) rfl 25 _ HZ.out rfl (sizeI' _) (IC_one _) ?_; intro w2 h2 hfr2))
  exact ⟨rfl, _, results_c rfl rfl h2 Try.underlying25 rfl (sizeI' _), rfl, HF2.out.step hfr2 (fun j hj => .inr (by rw [List.mem_singleton.1 hj]; omega))⟩
set_option maxRecDepth 100000 in
set_option maxHeartbeats 4000000 in
theorem fill_3 {p : Int} (hp : P32 p) (op f1 f2 : Int) (w : World) : Calls Try.prog 37 #[.int .u32 p, .agg #[.int .u8 op, .int .i64 3, .int .u32 f1, .int .u32 f2]] w fun e w' => e = .returned (.agg (IC (op, p / 128 % 32, p / 32768 % 32, 0, p / 1048576 % 32, 0, 4))) ∧ Fr [] w w' := by
  replace hp := hid hp
  have HF := hid (Fr.refl [] w)
  have c1 : p / 128 % 32 % 256 = p / 128 % 32 := by omega
  have c2 : p / 32768 % 32 % 256 = p / 32768 % 32 := by omega
  have c3 : p / 1048576 % 32 % 256 = p / 1048576 % 32 := by omega
  have g0 : wrap64 (p / 1048576 % 32) = p / 1048576 % 32 := by unfold wrap64; omega
  go_enter Try.func37, Try.ntmps37
  go_upto_region 45 with (first | (go_at_call 51; (with_reducible refine (field_7_11 hp.out _).mono ?_); rintro e w' ⟨rfl, nn, rfl⟩) | (go_at_call 51; (with_reducible refine (field_15_19 hp.out _).mono ?_); rintro e w' ⟨rfl, nn, rfl⟩) | (go_at_call 51; (with_reducible refine (field_20_24 hp.out _).mono ?_); rintro e w' ⟨rfl, nn, rfl⟩) | (go_at_call 51; (with_reducible refine (field_20_31 hp.out _).mono ?_); rintro e w' ⟨rfl, nn, rfl⟩) | (go_at_call 51; (with_reducible refine (field_20_25 hp.out _).mono ?_); rintro e w' ⟨rfl, nn, rfl⟩) | (go_at_call 51; (with_reducible refine (field_25_31 hp.out _).mono ?_); rintro e w' ⟨rfl, nn, rfl⟩) | (go_at_call 51; (with_reducible refine (field_31_31 hp.out _).mono ?_); rintro e w' ⟨rfl, nn, rfl⟩) | (go_at_call 51; (with_reducible refine (field_7_7 hp.out _).mono ?_); rintro e w' ⟨rfl, nn, rfl⟩) | (go_at_call 51; (with_reducible refine (field_25_30 hp.out _).mono ?_); rintro e w' ⟨rfl, nn, rfl⟩) | (go_at_call 51; (with_reducible refine (field_8_11 hp.out _).mono ?_); rintro e w' ⟨rfl, nn, rfl⟩) | (go_at_call 51; (with_reducible refine (field_12_31 hp.out _).mono ?_); rintro e w' ⟨rfl, nn, rfl⟩) | (go_at_call 51; (with_reducible refine (field_12_19 hp.out _).mono ?_); rintro e w' ⟨rfl, nn, rfl⟩) | (go_at_call 51; (with_reducible refine (field_20_20 hp.out _).mono ?_); rintro e w' ⟨rfl, nn, rfl⟩) | (go_at_call 51; (with_reducible refine (field_21_30 hp.out _).mono ?_); rintro e w' ⟨rfl, nn, rfl⟩))
  refine world_atF (fun W => W.heap[w.heap.size + 1]? = some (.cells (IC (0, 0, 0, 0, 0, 0, 0)) 25) ∧ W.heap[w.heap.size + 2]? = some (.cells (IC (op, p / 128 % 32, p / 32768 % 32, 0, p / 1048576 % 32, 0, 4)) 25) ∧ Fr [] w W) ⟨?_, ?_, ?_⟩ ?_
  · rw [blk_set_other _ (by simp)]; exact blk_alloc (blk_new' (n := w.heap.size + 1) (by simp) _) _
  · exact blk_set (b := w.heap.size + 2) (blk_new' (n := w.heap.size + 2) (by simp) _) 4 _
  · exact (((((HF.out.alloc _).alloc _).drewN _).alloc _).drewN _).setCell (p := ⟨w.heap.size + 1 + 1, 4, none⟩) (.inr (by show w.heap.size ≤ w.heap.size + 1 + 1; omega)) _
  rintro W ⟨hZ, hI, hF⟩
  have HZ := hid hZ
  have HF2 := hid hF
  have x0 : W.cell? ⟨w.heap.size + 1 + 1, 0, none⟩ = some (.int .u8 (op)) := by rw [blk_cell (show W.heap[w.heap.size + 1 + 1]? = _ from hI)]; rfl
  have x1 : W.cell? ⟨w.heap.size + 1 + 1, 1, none⟩ = some (.int .u8 (p / 128 % 32)) := by rw [blk_cell (show W.heap[w.heap.size + 1 + 1]? = _ from hI)]; rfl
  have x2 : W.cell? ⟨w.heap.size + 1 + 1, 2, none⟩ = some (.int .u8 (p / 32768 % 32)) := by rw [blk_cell (show W.heap[w.heap.size + 1 + 1]? = _ from hI)]; rfl
  have x3 : W.cell? ⟨w.heap.size + 1 + 1, 3, none⟩ = some (.int .u8 (0)) := by rw [blk_cell (show W.heap[w.heap.size + 1 + 1]? = _ from hI)]; rfl
  have x4 : W.cell? ⟨w.heap.size + 1 + 1, 4, none⟩ = some (.int .i64 (p / 1048576 % 32)) := by rw [blk_cell (show W.heap[w.heap.size + 1 + 1]? = _ from hI)]; rfl
  have x5 : W.cell? ⟨w.heap.size + 1 + 1, 5, none⟩ = some (.int .u16 (0)) := by rw [blk_cell (show W.heap[w.heap.size + 1 + 1]? = _ from hI)]; rfl
  have x6 : W.cell? ⟨w.heap.size + 1 + 1, 6, none⟩ = some (.int .u8 (4)) := by rw [blk_cell (show W.heap[w.heap.size + 1 + 1]? = _ from hI)]; rfl
  clear hZ hI hF
  go_wp2_with (first | (refine wpList_store_whole rfl 25 _ _ rfl (w.heap.size + 1) rfl (IC (op, p / 128 % 32, p / 32768 % 32, 0, p / 1048576 % 32, 0, 4)) rfl 25 _ HZ.out rfl (sizeI' _) (IC_one _) ?_; intro w2 h2 hfr2))
  exact ⟨rfl, _, results_c rfl rfl h2 Try.underlying25 rfl (sizeI' _), rfl, HF2.out.step hfr2 (fun j hj => .inr (by rw [List.mem_singleton.1 hj]; omega))⟩
set_option maxRecDepth 100000 in
set_option maxHeartbeats 4000000 in
theorem fill_4 {p : Int} (hp : P32 p) (op f1 f2 : Int) (w : World) : Calls Try.prog 37 #[.int .u32 p, .agg #[.int .u8 op, .int .i64 4, .int .u32 f1, .int .u32 f2]] w fun e w' => e = .returned (.agg (IC (op, 0, p / 32768 % 32, p / 1048576 % 32, (if p / 33554432 % 128 * 32 + p / 128 % 32 < 2048 then p / 33554432 % 128 * 32 + p / 128 % 32 else p / 33554432 % 128 * 32 + p / 128 % 32 - 4096), 0, 4))) ∧ Fr [] w w' := by
  replace hp := hid hp
  have HF := hid (Fr.refl [] w)
  have c1 : p / 128 % 32 % 256 = p / 128 % 32 := by omega
  have c2 : p / 32768 % 32 % 256 = p / 32768 % 32 := by omega
  have c3 : p / 1048576 % 32 % 256 = p / 1048576 % 32 := by omega
  have g0 : IntKind.u64.wrap (p / 33554432 % 128 * 32) = p / 33554432 % 128 * 32 := by rw [IntKind.wrap_u64]; omega
  have g1 : IntKind.u64.wrap (p / 33554432 % 128 * 32 + p / 128 % 32) = p / 33554432 % 128 * 32 + p / 128 % 32 := by rw [IntKind.wrap_u64]; omega
  have hs := hid fun w => rsign_12 (n := p / 33554432 % 128 * 32 + p / 128 % 32) (by omega) (by omega) w
  generalize hSV : (if p / 33554432 % 128 * 32 + p / 128 % 32 < 2048 then p / 33554432 % 128 * 32 + p / 128 % 32 else p / 33554432 % 128 * 32 + p / 128 % 32 - 4096) = SV at hs ⊢
  replace hSV := hid hSV
  go_enter Try.func37, Try.ntmps37
  go_upto_region 45 with (first | (go_at_call 51; (with_reducible refine (field_7_11 hp.out _).mono ?_); rintro e w' ⟨rfl, nn, rfl⟩) | (go_at_call 51; (with_reducible refine (field_15_19 hp.out _).mono ?_); rintro e w' ⟨rfl, nn, rfl⟩) | (go_at_call 51; (with_reducible refine (field_20_24 hp.out _).mono ?_); rintro e w' ⟨rfl, nn, rfl⟩) | (go_at_call 51; (with_reducible refine (field_20_31 hp.out _).mono ?_); rintro e w' ⟨rfl, nn, rfl⟩) | (go_at_call 51; (with_reducible refine (field_20_25 hp.out _).mono ?_); rintro e w' ⟨rfl, nn, rfl⟩) | (go_at_call 51; (with_reducible refine (field_25_31 hp.out _).mono ?_); rintro e w' ⟨rfl, nn, rfl⟩) | (go_at_call 51; (with_reducible refine (field_31_31 hp.out _).mono ?_); rintro e w' ⟨rfl, nn, rfl⟩) | (go_at_call 51; (with_reducible refine (field_7_7 hp.out _).mono ?_); rintro e w' ⟨rfl, nn, rfl⟩) | (go_at_call 51; (with_reducible refine (field_25_30 hp.out _).mono ?_); rintro e w' ⟨rfl, nn, rfl⟩) | (go_at_call 51; (with_reducible refine (field_8_11 hp.out _).mono ?_); rintro e w' ⟨rfl, nn, rfl⟩) | (go_at_call 51; (with_reducible refine (field_12_31 hp.out _).mono ?_); rintro e w' ⟨rfl, nn, rfl⟩) | (go_at_call 51; (with_reducible refine (field_12_19 hp.out _).mono ?_); rintro e w' ⟨rfl, nn, rfl⟩) | (go_at_call 51; (with_reducible refine (field_20_20 hp.out _).mono ?_); rintro e w' ⟨rfl, nn, rfl⟩) | (go_at_call 51; (with_reducible refine (field_21_30 hp.out _).mono ?_); rintro e w' ⟨rfl, nn, rfl⟩) | (go_at_call 52; (with_reducible refine (hs.out _).mono ?_); rintro e w' ⟨rfl, nn, rfl⟩))
  refine world_atF (fun W => W.heap[w.heap.size + 1]? = some (.cells (IC (0, 0, 0, 0, 0, 0, 0)) 25) ∧ W.heap[w.heap.size + 2]? = some (.cells (IC (op, 0, p / 32768 % 32, p / 1048576 % 32, SV, 0, 4)) 25) ∧ Fr [] w W) ⟨?_, ?_, ?_⟩ ?_
  · rw [blk_set_other _ (by simp)]; exact blk_alloc (blk_new' (n := w.heap.size + 1) (by simp) _) _
  · exact blk_set (b := w.heap.size + 2) (blk_new' (n := w.heap.size + 2) (by simp) _) 4 _
  · exact (((((HF.out.alloc _).alloc _).drewN _).alloc _).drewN _).setCell (p := ⟨w.heap.size + 1 + 1, 4, none⟩) (.inr (by show w.heap.size ≤ w.heap.size + 1 + 1; omega)) _
  rintro W ⟨hZ, hI, hF⟩
  have HZ := hid hZ
  have HF2 := hid hF
  have x0 : W.cell? ⟨w.heap.size + 1 + 1, 0, none⟩ = some (.int .u8 (op)) := by rw [blk_cell (show W.heap[w.heap.size + 1 + 1]? = _ from hI)]; rfl
  have x1 : W.cell? ⟨w.heap.size + 1 + 1, 1, none⟩ = some (.int .u8 (0)) := by rw [blk_cell (show W.heap[w.heap.size + 1 + 1]? = _ from hI)]; rfl
  have x2 : W.cell? ⟨w.heap.size + 1 + 1, 2, none⟩ = some (.int .u8 (p / 32768 % 32)) := by rw [blk_cell (show W.heap[w.heap.size + 1 + 1]? = _ from hI)]; rfl
  have x3 : W.cell? ⟨w.heap.size + 1 + 1, 3, none⟩ = some (.int .u8 (p / 1048576 % 32)) := by rw [blk_cell (show W.heap[w.heap.size + 1 + 1]? = _ from hI)]; rfl
  have x4 : W.cell? ⟨w.heap.size + 1 + 1, 4, none⟩ = some (.int .i64 (SV)) := by rw [blk_cell (show W.heap[w.heap.size + 1 + 1]? = _ from hI)]; rfl
  have x5 : W.cell? ⟨w.heap.size + 1 + 1, 5, none⟩ = some (.int .u16 (0)) := by rw [blk_cell (show W.heap[w.heap.size + 1 + 1]? = _ from hI)]; rfl
  have x6 : W.cell? ⟨w.heap.size + 1 + 1, 6, none⟩ = some (.int .u8 (4)) := by rw [blk_cell (show W.heap[w.heap.size + 1 + 1]? = _ from hI)]; rfl
  clear hZ hI hF
  go_wp2_with (first | (refine wpList_store_whole rfl 25 _ _ rfl (w.heap.size + 1) rfl (IC (op, 0, p / 32768 % 32, p / 1048576 % 32, SV, 0, 4)) rfl 25 _ HZ.out rfl (sizeI' _) (IC_one _) ?_; intro w2 h2 hfr2))
  exact ⟨rfl, _, results_c rfl rfl h2 Try.underlying25 rfl (sizeI' _), rfl, HF2.out.step hfr2 (fun j hj => .inr (by rw [List.mem_singleton.1 hj]; omega))⟩
set_option maxRecDepth 100000 in
set_option maxHeartbeats 4000000 in
theorem fill_5 {p : Int} (hp : P32 p) (op f1 f2 : Int) (w : World) : Calls Try.prog 37 #[.int .u32 p, .agg #[.int .u8 op, .int .i64 5, .int .u32 f1, .int .u32 f2]] w fun e w' => e = .returned (.agg (IC (op, 0, p / 32768 % 32, p / 1048576 % 32, (if p / 2147483648 % 2 * 4096 + p / 128 % 2 * 2048 + p / 33554432 % 64 * 32 + p / 256 % 16 * 2 < 4096 then p / 2147483648 % 2 * 4096 + p / 128 % 2 * 2048 + p / 33554432 % 64 * 32 + p / 256 % 16 * 2 else p / 2147483648 % 2 * 4096 + p / 128 % 2 * 2048 + p / 33554432 % 64 * 32 + p / 256 % 16 * 2 - 8192), 0, 4))) ∧ Fr [] w w' := by
  replace hp := hid hp
  have HF := hid (Fr.refl [] w)
  have c1 : p / 128 % 32 % 256 = p / 128 % 32 := by omega
  have c2 : p / 32768 % 32 % 256 = p / 32768 % 32 := by omega
  have c3 : p / 1048576 % 32 % 256 = p / 1048576 % 32 := by omega
  have g0 : IntKind.u64.wrap (p / 2147483648 % 2 * 4096) = p / 2147483648 % 2 * 4096 := by rw [IntKind.wrap_u64]; omega
  have g1 : IntKind.u64.wrap (p / 128 % 2 * 2048) = p / 128 % 2 * 2048 := by rw [IntKind.wrap_u64]; omega
  have g2 : IntKind.u64.wrap (p / 2147483648 % 2 * 4096 + p / 128 % 2 * 2048) = p / 2147483648 % 2 * 4096 + p / 128 % 2 * 2048 := by rw [IntKind.wrap_u64]; omega
  have g3 : IntKind.u64.wrap (p / 33554432 % 64 * 32) = p / 33554432 % 64 * 32 := by rw [IntKind.wrap_u64]; omega
  have g4 : IntKind.u64.wrap (p / 2147483648 % 2 * 4096 + p / 128 % 2 * 2048 + p / 33554432 % 64 * 32) = p / 2147483648 % 2 * 4096 + p / 128 % 2 * 2048 + p / 33554432 % 64 * 32 := by rw [IntKind.wrap_u64]; omega
  have g5 : IntKind.u64.wrap (p / 256 % 16 * 2) = p / 256 % 16 * 2 := by rw [IntKind.wrap_u64]; omega
  have g6 : IntKind.u64.wrap (p / 2147483648 % 2 * 4096 + p / 128 % 2 * 2048 + p / 33554432 % 64 * 32 + p / 256 % 16 * 2) = p / 2147483648 % 2 * 4096 + p / 128 % 2 * 2048 + p / 33554432 % 64 * 32 + p / 256 % 16 * 2 := by rw [IntKind.wrap_u64]; omega
  have hs := hid fun w => rsign_13 (n := p / 2147483648 % 2 * 4096 + p / 128 % 2 * 2048 + p / 33554432 % 64 * 32 + p / 256 % 16 * 2) (by omega) (by omega) w
  generalize hSV : (if p / 2147483648 % 2 * 4096 + p / 128 % 2 * 2048 + p / 33554432 % 64 * 32 + p / 256 % 16 * 2 < 4096 then p / 2147483648 % 2 * 4096 + p / 128 % 2 * 2048 + p / 33554432 % 64 * 32 + p / 256 % 16 * 2 else p / 2147483648 % 2 * 4096 + p / 128 % 2 * 2048 + p / 33554432 % 64 * 32 + p / 256 % 16 * 2 - 8192) = SV at hs ⊢
  replace hSV := hid hSV
  go_enter Try.func37, Try.ntmps37
  go_upto_region 45 with (first | (go_at_call 51; (with_reducible refine (field_7_11 hp.out _).mono ?_); rintro e w' ⟨rfl, nn, rfl⟩) | (go_at_call 51; (with_reducible refine (field_15_19 hp.out _).mono ?_); rintro e w' ⟨rfl, nn, rfl⟩) | (go_at_call 51; (with_reducible refine (field_20_24 hp.out _).mono ?_); rintro e w' ⟨rfl, nn, rfl⟩) | (go_at_call 51; (with_reducible refine (field_20_31 hp.out _).mono ?_); rintro e w' ⟨rfl, nn, rfl⟩) | (go_at_call 51; (with_reducible refine (field_20_25 hp.out _).mono ?_); rintro e w' ⟨rfl, nn, rfl⟩) | (go_at_call 51; (with_reducible refine (field_25_31 hp.out _).mono ?_); rintro e w' ⟨rfl, nn, rfl⟩) | (go_at_call 51; (with_reducible refine (field_31_31 hp.out _).mono ?_); rintro e w' ⟨rfl, nn, rfl⟩) | (go_at_call 51; (with_reducible refine (field_7_7 hp.out _).mono ?_); rintro e w' ⟨rfl, nn, rfl⟩) | (go_at_call 51; (with_reducible refine (field_25_30 hp.out _).mono ?_); rintro e w' ⟨rfl, nn, rfl⟩) | (go_at_call 51; (with_reducible refine (field_8_11 hp.out _).mono ?_); rintro e w' ⟨rfl, nn, rfl⟩) | (go_at_call 51; (with_reducible refine (field_12_31 hp.out _).mono ?_); rintro e w' ⟨rfl, nn, rfl⟩) | (go_at_call 51; (with_reducible refine (field_12_19 hp.out _).mono ?_); rintro e w' ⟨rfl, nn, rfl⟩) | (go_at_call 51; (with_reducible refine (field_20_20 hp.out _).mono ?_); rintro e w' ⟨rfl, nn, rfl⟩) | (go_at_call 51; (with_reducible refine (field_21_30 hp.out _).mono ?_); rintro e w' ⟨rfl, nn, rfl⟩) | (go_at_call 52; (with_reducible refine (hs.out _).mono ?_); rintro e w' ⟨rfl, nn, rfl⟩))
  refine world_atF (fun W => W.heap[w.heap.size + 1]? = some (.cells (IC (0, 0, 0, 0, 0, 0, 0)) 25) ∧ W.heap[w.heap.size + 2]? = some (.cells (IC (op, 0, p / 32768 % 32, p / 1048576 % 32, SV, 0, 4)) 25) ∧ Fr [] w W) ⟨?_, ?_, ?_⟩ ?_
  · rw [blk_set_other _ (by simp)]; exact blk_alloc (blk_new' (n := w.heap.size + 1) (by simp) _) _
  · exact blk_set (b := w.heap.size + 2) (blk_new' (n := w.heap.size + 2) (by simp) _) 4 _
  · exact (((((HF.out.alloc _).alloc _).drewN _).alloc _).drewN _).setCell (p := ⟨w.heap.size + 1 + 1, 4, none⟩) (.inr (by show w.heap.size ≤ w.heap.size + 1 + 1; omega)) _
  rintro W ⟨hZ, hI, hF⟩
  have HZ := hid hZ
  have HF2 := hid hF
  have x0 : W.cell? ⟨w.heap.size + 1 + 1, 0, none⟩ = some (.int .u8 (op)) := by rw [blk_cell (show W.heap[w.heap.size + 1 + 1]? = _ from hI)]; rfl
  have x1 : W.cell? ⟨w.heap.size + 1 + 1, 1, none⟩ = some (.int .u8 (0)) := by rw [blk_cell (show W.heap[w.heap.size + 1 + 1]? = _ from hI)]; rfl
  have x2 : W.cell? ⟨w.heap.size + 1 + 1, 2, none⟩ = some (.int .u8 (p / 32768 % 32)) := by rw [blk_cell (show W.heap[w.heap.size + 1 + 1]? = _ from hI)]; rfl
  have x3 : W.cell? ⟨w.heap.size + 1 + 1, 3, none⟩ = some (.int .u8 (p / 1048576 % 32)) := by rw [blk_cell (show W.heap[w.heap.size + 1 + 1]? = _ from hI)]; rfl
  have x4 : W.cell? ⟨w.heap.size + 1 + 1, 4, none⟩ = some (.int .i64 (SV)) := by rw [blk_cell (show W.heap[w.heap.size + 1 + 1]? = _ from hI)]; rfl
  have x5 : W.cell? ⟨w.heap.size + 1 + 1, 5, none⟩ = some (.int .u16 (0)) := by rw [blk_cell (show W.heap[w.heap.size + 1 + 1]? = _ from hI)]; rfl
  have x6 : W.cell? ⟨w.heap.size + 1 + 1, 6, none⟩ = some (.int .u8 (4)) := by rw [blk_cell (show W.heap[w.heap.size + 1 + 1]? = _ from hI)]; rfl
  clear hZ hI hF
  go_wp2_with (first | (refine wpList_store_whole rfl 25 _ _ rfl (w.heap.size + 1) rfl (IC (op, 0, p / 32768 % 32, p / 1048576 % 32, SV, 0, 4)) rfl 25 _ HZ.out rfl (sizeI' _) (IC_one _) ?_; intro w2 h2 hfr2))
  exact ⟨rfl, _, results_c rfl rfl h2 Try.underlying25 rfl (sizeI' _), rfl, HF2.out.step hfr2 (fun j hj => .inr (by rw [List.mem_singleton.1 hj]; omega))⟩
set_option maxRecDepth 100000 in
set_option maxHeartbeats 4000000 in
theorem fill_6 {p : Int} (hp : P32 p) (op f1 f2 : Int) (w : World) : Calls Try.prog 37 #[.int .u32 p, .agg #[.int .u8 op, .int .i64 6, .int .u32 f1, .int .u32 f2]] w fun e w' => e = .returned (.agg (IC (op, p / 128 % 32, 0, 0, (if p / 4096 % 1048576 * 4096 < 2147483648 then p / 4096 % 1048576 * 4096 else p / 4096 % 1048576 * 4096 - 4294967296), 0, 4))) ∧ Fr [] w w' := by
  replace hp := hid hp
  have HF := hid (Fr.refl [] w)
  have c1 : p / 128 % 32 % 256 = p / 128 % 32 := by omega
  have c2 : p / 32768 % 32 % 256 = p / 32768 % 32 := by omega
  have c3 : p / 1048576 % 32 % 256 = p / 1048576 % 32 := by omega
  have g0 : IntKind.u64.wrap (p / 4096 % 1048576 * 4096) = p / 4096 % 1048576 * 4096 := by rw [IntKind.wrap_u64]; omega
  have hs := hid fun w => rsign_32 (n := p / 4096 % 1048576 * 4096) (by omega) (by omega) w
  generalize hSV : (if p / 4096 % 1048576 * 4096 < 2147483648 then p / 4096 % 1048576 * 4096 else p / 4096 % 1048576 * 4096 - 4294967296) = SV at hs ⊢
  replace hSV := hid hSV
  go_enter Try.func37, Try.ntmps37
  go_upto_region 45 with (first | (go_at_call 51; (with_reducible refine (field_7_11 hp.out _).mono ?_); rintro e w' ⟨rfl, nn, rfl⟩) | (go_at_call 51; (with_reducible refine (field_15_19 hp.out _).mono ?_); rintro e w' ⟨rfl, nn, rfl⟩) | (go_at_call 51; (with_reducible refine (field_20_24 hp.out _).mono ?_); rintro e w' ⟨rfl, nn, rfl⟩) | (go_at_call 51; (with_reducible refine (field_20_31 hp.out _).mono ?_); rintro e w' ⟨rfl, nn, rfl⟩) | (go_at_call 51; (with_reducible refine (field_20_25 hp.out _).mono ?_); rintro e w' ⟨rfl, nn, rfl⟩) | (go_at_call 51; (with_reducible refine (field_25_31 hp.out _).mono ?_); rintro e w' ⟨rfl, nn, rfl⟩) | (go_at_call 51; (with_reducible refine (field_31_31 hp.out _).mono ?_); rintro e w' ⟨rfl, nn, rfl⟩) | (go_at_call 51; (with_reducible refine (field_7_7 hp.out _).mono ?_); rintro e w' ⟨rfl, nn, rfl⟩) | (go_at_call 51; (with_reducible refine (field_25_30 hp.out _).mono ?_); rintro e w' ⟨rfl, nn, rfl⟩) | (go_at_call 51; (with_reducible refine (field_8_11 hp.out _).mono ?_); rintro e w' ⟨rfl, nn, rfl⟩) | (go_at_call 51; (with_reducible refine (field_12_31 hp.out _).mono ?_); rintro e w' ⟨rfl, nn, rfl⟩) | (go_at_call 51; (with_reducible refine (field_12_19 hp.out _).mono ?_); rintro e w' ⟨rfl, nn, rfl⟩) | (go_at_call 51; (with_reducible refine (field_20_20 hp.out _).mono ?_); rintro e w' ⟨rfl, nn, rfl⟩) | (go_at_call 51; (with_reducible refine (field_21_30 hp.out _).mono ?_); rintro e w' ⟨rfl, nn, rfl⟩) | (go_at_call 52; (with_reducible refine (hs.out _).mono ?_); rintro e w' ⟨rfl, nn, rfl⟩))
  refine world_atF (fun W => W.heap[w.heap.size + 1]? = some (.cells (IC (0, 0, 0, 0, 0, 0, 0)) 25) ∧ W.heap[w.heap.size + 2]? = some (.cells (IC (op, p / 128 % 32, 0, 0, SV, 0, 4)) 25) ∧ Fr [] w W) ⟨?_, ?_, ?_⟩ ?_
  · rw [blk_set_other _ (by simp)]; exact blk_alloc (blk_new' (n := w.heap.size + 1) (by simp) _) _
  · exact blk_set (b := w.heap.size + 2) (blk_new' (n := w.heap.size + 2) (by simp) _) 4 _
  · exact (((((HF.out.alloc _).alloc _).drewN _).alloc _).drewN _).setCell (p := ⟨w.heap.size + 1 + 1, 4, none⟩) (.inr (by show w.heap.size ≤ w.heap.size + 1 + 1; omega)) _
  rintro W ⟨hZ, hI, hF⟩
  have HZ := hid hZ
  have HF2 := hid hF
  have x0 : W.cell? ⟨w.heap.size + 1 + 1, 0, none⟩ = some (.int .u8 (op)) := by rw [blk_cell (show W.heap[w.heap.size + 1 + 1]? = _ from hI)]; rfl
  have x1 : W.cell? ⟨w.heap.size + 1 + 1, 1, none⟩ = some (.int .u8 (p / 128 % 32)) := by rw [blk_cell (show W.heap[w.heap.size + 1 + 1]? = _ from hI)]; rfl
  have x2 : W.cell? ⟨w.heap.size + 1 + 1, 2, none⟩ = some (.int .u8 (0)) := by rw [blk_cell (show W.heap[w.heap.size + 1 + 1]? = _ from hI)]; rfl
  have x3 : W.cell? ⟨w.heap.size + 1 + 1, 3, none⟩ = some (.int .u8 (0)) := by rw [blk_cell (show W.heap[w.heap.size + 1 + 1]? = _ from hI)]; rfl
  have x4 : W.cell? ⟨w.heap.size + 1 + 1, 4, none⟩ = some (.int .i64 (SV)) := by rw [blk_cell (show W.heap[w.heap.size + 1 + 1]? = _ from hI)]; rfl
  have x5 : W.cell? ⟨w.heap.size + 1 + 1, 5, none⟩ = some (.int .u16 (0)) := by rw [blk_cell (show W.heap[w.heap.size + 1 + 1]? = _ from hI)]; rfl
  have x6 : W.cell? ⟨w.heap.size + 1 + 1, 6, none⟩ = some (.int .u8 (4)) := by rw [blk_cell (show W.heap[w.heap.size + 1 + 1]? = _ from hI)]; rfl
  clear hZ hI hF
  go_wp2_with (first | (refine wpList_store_whole rfl 25 _ _ rfl (w.heap.size + 1) rfl (IC (op, p / 128 % 32, 0, 0, SV, 0, 4)) rfl 25 _ HZ.out rfl (sizeI' _) (IC_one _) ?_; intro w2 h2 hfr2))
  exact ⟨rfl, _, results_c rfl rfl h2 Try.underlying25 rfl (sizeI' _), rfl, HF2.out.step hfr2 (fun j hj => .inr (by rw [List.mem_singleton.1 hj]; omega))⟩
set_option maxRecDepth 100000 in
set_option maxHeartbeats 4000000 in
theorem fill_7 {p : Int} (hp : P32 p) (op f1 f2 : Int) (w : World) : Calls Try.prog 37 #[.int .u32 p, .agg #[.int .u8 op, .int .i64 7, .int .u32 f1, .int .u32 f2]] w fun e w' => e = .returned (.agg (IC (op, p / 128 % 32, 0, 0, (if p / 2147483648 % 2 * 1048576 + p / 4096 % 256 * 4096 + p / 1048576 % 2 * 2048 + p / 2097152 % 1024 * 2 < 1048576 then p / 2147483648 % 2 * 1048576 + p / 4096 % 256 * 4096 + p / 1048576 % 2 * 2048 + p / 2097152 % 1024 * 2 else p / 2147483648 % 2 * 1048576 + p / 4096 % 256 * 4096 + p / 1048576 % 2 * 2048 + p / 2097152 % 1024 * 2 - 2097152), 0, 4))) ∧ Fr [] w w' := by
  replace hp := hid hp
  have HF := hid (Fr.refl [] w)
  have c1 : p / 128 % 32 % 256 = p / 128 % 32 := by omega
  have c2 : p / 32768 % 32 % 256 = p / 32768 % 32 := by omega
  have c3 : p / 1048576 % 32 % 256 = p / 1048576 % 32 := by omega
  have g0 : IntKind.u64.wrap (p / 2147483648 % 2 * 1048576) = p / 2147483648 % 2 * 1048576 := by rw [IntKind.wrap_u64]; omega
  have g1 : IntKind.u64.wrap (p / 4096 % 256 * 4096) = p / 4096 % 256 * 4096 := by rw [IntKind.wrap_u64]; omega
  have g2 : IntKind.u64.wrap (p / 2147483648 % 2 * 1048576 + p / 4096 % 256 * 4096) = p / 2147483648 % 2 * 1048576 + p / 4096 % 256 * 4096 := by rw [IntKind.wrap_u64]; omega
  have g3 : IntKind.u64.wrap (p / 1048576 % 2 * 2048) = p / 1048576 % 2 * 2048 := by rw [IntKind.wrap_u64]; omega
  have g4 : IntKind.u64.wrap (p / 2147483648 % 2 * 1048576 + p / 4096 % 256 * 4096 + p / 1048576 % 2 * 2048) = p / 2147483648 % 2 * 1048576 + p / 4096 % 256 * 4096 + p / 1048576 % 2 * 2048 := by rw [IntKind.wrap_u64]; omega
  have g5 : IntKind.u64.wrap (p / 2097152 % 1024 * 2) = p / 2097152 % 1024 * 2 := by rw [IntKind.wrap_u64]; omega
  have g6 : IntKind.u64.wrap (p / 2147483648 % 2 * 1048576 + p / 4096 % 256 * 4096 + p / 1048576 % 2 * 2048 + p / 2097152 % 1024 * 2) = p / 2147483648 % 2 * 1048576 + p / 4096 % 256 * 4096 + p / 1048576 % 2 * 2048 + p / 2097152 % 1024 * 2 := by rw [IntKind.wrap_u64]; omega
  have hs := hid fun w => rsign_21 (n := p / 2147483648 % 2 * 1048576 + p / 4096 % 256 * 4096 + p / 1048576 % 2 * 2048 + p / 2097152 % 1024 * 2) (by omega) (by omega) w
  generalize hSV : (if p / 2147483648 % 2 * 1048576 + p / 4096 % 256 * 4096 + p / 1048576 % 2 * 2048 + p / 2097152 % 1024 * 2 < 1048576 then p / 2147483648 % 2 * 1048576 + p / 4096 % 256 * 4096 + p / 1048576 % 2 * 2048 + p / 2097152 % 1024 * 2 else p / 2147483648 % 2 * 1048576 + p / 4096 % 256 * 4096 + p / 1048576 % 2 * 2048 + p / 2097152 % 1024 * 2 - 2097152) = SV at hs ⊢
  replace hSV := hid hSV
  go_enter Try.func37, Try.ntmps37
  go_upto_region 45 with (first | (go_at_call 51; (with_reducible refine (field_7_11 hp.out _).mono ?_); rintro e w' ⟨rfl, nn, rfl⟩) | (go_at_call 51; (with_reducible refine (field_15_19 hp.out _).mono ?_); rintro e w' ⟨rfl, nn, rfl⟩) | (go_at_call 51; (with_reducible refine (field_20_24 hp.out _).mono ?_); rintro e w' ⟨rfl, nn, rfl⟩) | (go_at_call 51; (with_reducible refine (field_20_31 hp.out _).mono ?_); rintro e w' ⟨rfl, nn, rfl⟩) | (go_at_call 51; (with_reducible refine (field_20_25 hp.out _).mono ?_); rintro e w' ⟨rfl, nn, rfl⟩) | (go_at_call 51; (with_reducible refine (field_25_31 hp.out _).mono ?_); rintro e w' ⟨rfl, nn, rfl⟩) | (go_at_call 51; (with_reducible refine (field_31_31 hp.out _).mono ?_); rintro e w' ⟨rfl, nn, rfl⟩) | (go_at_call 51; (with_reducible refine (field_7_7 hp.out _).mono ?_); rintro e w' ⟨rfl, nn, rfl⟩) | (go_at_call 51; (with_reducible refine (field_25_30 hp.out _).mono ?_); rintro e w' ⟨rfl, nn, rfl⟩) | (go_at_call 51; (with_reducible refine (field_8_11 hp.out _).mono ?_); rintro e w' ⟨rfl, nn, rfl⟩) | (go_at_call 51; (with_reducible refine (field_12_31 hp.out _).mono ?_); rintro e w' ⟨rfl, nn, rfl⟩) | (go_at_call 51; (with_reducible refine (field_12_19 hp.out _).mono ?_); rintro e w' ⟨rfl, nn, rfl⟩) | (go_at_call 51; (with_reducible refine (field_20_20 hp.out _).mono ?_); rintro e w' ⟨rfl, nn, rfl⟩) | (go_at_call 51; (with_reducible refine (field_21_30 hp.out _).mono ?_); rintro e w' ⟨rfl, nn, rfl⟩) | (go_at_call 52; (with_reducible refine (hs.out _).mono ?_); rintro e w' ⟨rfl, nn, rfl⟩))
  refine world_atF (fun W => W.heap[w.heap.size + 1]? = some (.cells (IC (0, 0, 0, 0, 0, 0, 0)) 25) ∧ W.heap[w.heap.size + 2]? = some (.cells (IC (op, p / 128 % 32, 0, 0, SV, 0, 4)) 25) ∧ Fr [] w W) ⟨?_, ?_, ?_⟩ ?_
  · rw [blk_set_other _ (by simp)]; exact blk_alloc (blk_new' (n := w.heap.size + 1) (by simp) _) _
  · exact blk_set (b := w.heap.size + 2) (blk_new' (n := w.heap.size + 2) (by simp) _) 4 _
  · exact (((((HF.out.alloc _).alloc _).drewN _).alloc _).drewN _).setCell (p := ⟨w.heap.size + 1 + 1, 4, none⟩) (.inr (by show w.heap.size ≤ w.heap.size + 1 + 1; omega)) _
  rintro W ⟨hZ, hI, hF⟩
  have HZ := hid hZ
  have HF2 := hid hF
  have x0 : W.cell? ⟨w.heap.size + 1 + 1, 0, none⟩ = some (.int .u8 (op)) := by rw [blk_cell (show W.heap[w.heap.size + 1 + 1]? = _ from hI)]; rfl
  have x1 : W.cell? ⟨w.heap.size + 1 + 1, 1, none⟩ = some (.int .u8 (p / 128 % 32)) := by rw [blk_cell (show W.heap[w.heap.size + 1 + 1]? = _ from hI)]; rfl
  have x2 : W.cell? ⟨w.heap.size + 1 + 1, 2, none⟩ = some (.int .u8 (0)) := by rw [blk_cell (show W.heap[w.heap.size + 1 + 1]? = _ from hI)]; rfl
  have x3 : W.cell? ⟨w.heap.size + 1 + 1, 3, none⟩ = some (.int .u8 (0)) := by rw [blk_cell (show W.heap[w.heap.size + 1 + 1]? = _ from hI)]; rfl
  have x4 : W.cell? ⟨w.heap.size + 1 + 1, 4, none⟩ = some (.int .i64 (SV)) := by rw [blk_cell (show W.heap[w.heap.size + 1 + 1]? = _ from hI)]; rfl
  have x5 : W.cell? ⟨w.heap.size + 1 + 1, 5, none⟩ = some (.int .u16 (0)) := by rw [blk_cell (show W.heap[w.heap.size + 1 + 1]? = _ from hI)]; rfl
  have x6 : W.cell? ⟨w.heap.size + 1 + 1, 6, none⟩ = some (.int .u8 (4)) := by rw [blk_cell (show W.heap[w.heap.size + 1 + 1]? = _ from hI)]; rfl
  clear hZ hI hF
  go_wp2_with (first | (refine wpList_store_whole rfl 25 _ _ rfl (w.heap.size + 1) rfl (IC (op, p / 128 % 32, 0, 0, SV, 0, 4)) rfl 25 _ HZ.out rfl (sizeI' _) (IC_one _) ?_; intro w2 h2 hfr2))
  exact ⟨rfl, _, results_c rfl rfl h2 Try.underlying25 rfl (sizeI' _), rfl, HF2.out.step hfr2 (fun j hj => .inr (by rw [List.mem_singleton.1 hj]; omega))⟩
set_option maxRecDepth 100000 in
set_option maxHeartbeats 4000000 in
theorem fill_8 {p : Int} (hp : P32 p) (op f1 f2 : Int) (w : World) : Calls Try.prog 37 #[.int .u32 p, .agg #[.int .u8 op, .int .i64 8, .int .u32 f1, .int .u32 f2]] w fun e w' => e = .returned (.agg (IC (op, p / 128 % 32, p / 32768 % 32, 0, 0, p / 1048576 % 4096, 4))) ∧ Fr [] w w' := by
  replace hp := hid hp
  have HF := hid (Fr.refl [] w)
  have c1 : p / 128 % 32 % 256 = p / 128 % 32 := by omega
  have c2 : p / 32768 % 32 % 256 = p / 32768 % 32 := by omega
  have c3 : p / 1048576 % 32 % 256 = p / 1048576 % 32 := by omega
  have g0 : p / 1048576 % 4096 % 65536 = p / 1048576 % 4096 := by omega
  go_enter Try.func37, Try.ntmps37
  go_upto_region 45 with (first | (go_at_call 51; (with_reducible refine (field_7_11 hp.out _).mono ?_); rintro e w' ⟨rfl, nn, rfl⟩) | (go_at_call 51; (with_reducible refine (field_15_19 hp.out _).mono ?_); rintro e w' ⟨rfl, nn, rfl⟩) | (go_at_call 51; (with_reducible refine (field_20_24 hp.out _).mono ?_); rintro e w' ⟨rfl, nn, rfl⟩) | (go_at_call 51; (with_reducible refine (field_20_31 hp.out _).mono ?_); rintro e w' ⟨rfl, nn, rfl⟩) | (go_at_call 51; (with_reducible refine (field_20_25 hp.out _).mono ?_); rintro e w' ⟨rfl, nn, rfl⟩) | (go_at_call 51; (with_reducible refine (field_25_31 hp.out _).mono ?_); rintro e w' ⟨rfl, nn, rfl⟩) | (go_at_call 51; (with_reducible refine (field_31_31 hp.out _).mono ?_); rintro e w' ⟨rfl, nn, rfl⟩) | (go_at_call 51; (with_reducible refine (field_7_7 hp.out _).mono ?_); rintro e w' ⟨rfl, nn, rfl⟩) | (go_at_call 51; (with_reducible refine (field_25_30 hp.out _).mono ?_); rintro e w' ⟨rfl, nn, rfl⟩) | (go_at_call 51; (with_reducible refine (field_8_11 hp.out _).mono ?_); rintro e w' ⟨rfl, nn, rfl⟩) | (go_at_call 51; (with_reducible refine (field_12_31 hp.out _).mono ?_); rintro e w' ⟨rfl, nn, rfl⟩) | (go_at_call 51; (with_reducible refine (field_12_19 hp.out _).mono ?_); rintro e w' ⟨rfl, nn, rfl⟩) | (go_at_call 51; (with_reducible refine (field_20_20 hp.out _).mono ?_); rintro e w' ⟨rfl, nn, rfl⟩) | (go_at_call 51; (with_reducible refine (field_21_30 hp.out _).mono ?_); rintro e w' ⟨rfl, nn, rfl⟩))
  refine world_atF (fun W => W.heap[w.heap.size + 1]? = some (.cells (IC (0, 0, 0, 0, 0, 0, 0)) 25) ∧ W.heap[w.heap.size + 2]? = some (.cells (IC (op, p / 128 % 32, p / 32768 % 32, 0, 0, p / 1048576 % 4096, 4)) 25) ∧ Fr [] w W) ⟨?_, ?_, ?_⟩ ?_
  · rw [blk_set_other _ (by simp)]; exact blk_alloc (blk_new' (n := w.heap.size + 1) (by simp) _) _
  · exact blk_set (b := w.heap.size + 2) (blk_new' (n := w.heap.size + 2) (by simp) _) 5 _
  · exact (((((HF.out.alloc _).alloc _).drewN _).alloc _).drewN _).setCell (p := ⟨w.heap.size + 1 + 1, 5, none⟩) (.inr (by show w.heap.size ≤ w.heap.size + 1 + 1; omega)) _
  rintro W ⟨hZ, hI, hF⟩
  have HZ := hid hZ
  have HF2 := hid hF
  have x0 : W.cell? ⟨w.heap.size + 1 + 1, 0, none⟩ = some (.int .u8 (op)) := by rw [blk_cell (show W.heap[w.heap.size + 1 + 1]? = _ from hI)]; rfl
  have x1 : W.cell? ⟨w.heap.size + 1 + 1, 1, none⟩ = some (.int .u8 (p / 128 % 32)) := by rw [blk_cell (show W.heap[w.heap.size + 1 + 1]? = _ from hI)]; rfl
  have x2 : W.cell? ⟨w.heap.size + 1 + 1, 2, none⟩ = some (.int .u8 (p / 32768 % 32)) := by rw [blk_cell (show W.heap[w.heap.size + 1 + 1]? = _ from hI)]; rfl
  have x3 : W.cell? ⟨w.heap.size + 1 + 1, 3, none⟩ = some (.int .u8 (0)) := by rw [blk_cell (show W.heap[w.heap.size + 1 + 1]? = _ from hI)]; rfl
  have x4 : W.cell? ⟨w.heap.size + 1 + 1, 4, none⟩ = some (.int .i64 (0)) := by rw [blk_cell (show W.heap[w.heap.size + 1 + 1]? = _ from hI)]; rfl
  have x5 : W.cell? ⟨w.heap.size + 1 + 1, 5, none⟩ = some (.int .u16 (p / 1048576 % 4096)) := by rw [blk_cell (show W.heap[w.heap.size + 1 + 1]? = _ from hI)]; rfl
  have x6 : W.cell? ⟨w.heap.size + 1 + 1, 6, none⟩ = some (.int .u8 (4)) := by rw [blk_cell (show W.heap[w.heap.size + 1 + 1]? = _ from hI)]; rfl
  clear hZ hI hF
  go_wp2_with (first | (refine wpList_store_whole rfl 25 _ _ rfl (w.heap.size + 1) rfl (IC (op, p / 128 % 32, p / 32768 % 32, 0, 0, p / 1048576 % 4096, 4)) rfl 25 _ HZ.out rfl (sizeI' _) (IC_one _) ?_; intro w2 h2 hfr2))
  exact ⟨rfl, _, results_c rfl rfl h2 Try.underlying25 rfl (sizeI' _), rfl, HF2.out.step hfr2 (fun j hj => .inr (by rw [List.mem_singleton.1 hj]; omega))⟩
set_option maxRecDepth 100000 in
set_option maxHeartbeats 4000000 in
theorem fill_9 {p : Int} (hp : P32 p) (op f1 f2 : Int) (w : World) : Calls Try.prog 37 #[.int .u32 p, .agg #[.int .u8 op, .int .i64 9, .int .u32 f1, .int .u32 f2]] w fun e w' => e = .returned (.agg (IC (op, p / 128 % 32, 0, 0, p / 32768 % 32, p / 1048576 % 4096, 4))) ∧ Fr [] w w' := by
  replace hp := hid hp
  have HF := hid (Fr.refl [] w)
  have c1 : p / 128 % 32 % 256 = p / 128 % 32 := by omega
  have c2 : p / 32768 % 32 % 256 = p / 32768 % 32 := by omega
  have c3 : p / 1048576 % 32 % 256 = p / 1048576 % 32 := by omega
  have g0 : p / 1048576 % 4096 % 65536 = p / 1048576 % 4096 := by omega
  have g1 : wrap64 (p / 32768 % 32) = p / 32768 % 32 := by unfold wrap64; omega
  go_enter Try.func37, Try.ntmps37
  go_upto_region 45 with (first | (go_at_call 51; (with_reducible refine (field_7_11 hp.out _).mono ?_); rintro e w' ⟨rfl, nn, rfl⟩) | (go_at_call 51; (with_reducible refine (field_15_19 hp.out _).mono ?_); rintro e w' ⟨rfl, nn, rfl⟩) | (go_at_call 51; (with_reducible refine (field_20_24 hp.out _).mono ?_); rintro e w' ⟨rfl, nn, rfl⟩) | (go_at_call 51; (with_reducible refine (field_20_31 hp.out _).mono ?_); rintro e w' ⟨rfl, nn, rfl⟩) | (go_at_call 51; (with_reducible refine (field_20_25 hp.out _).mono ?_); rintro e w' ⟨rfl, nn, rfl⟩) | (go_at_call 51; (with_reducible refine (field_25_31 hp.out _).mono ?_); rintro e w' ⟨rfl, nn, rfl⟩) | (go_at_call 51; (with_reducible refine (field_31_31 hp.out _).mono ?_); rintro e w' ⟨rfl, nn, rfl⟩) | (go_at_call 51; (with_reducible refine (field_7_7 hp.out _).mono ?_); rintro e w' ⟨rfl, nn, rfl⟩) | (go_at_call 51; (with_reducible refine (field_25_30 hp.out _).mono ?_); rintro e w' ⟨rfl, nn, rfl⟩) | (go_at_call 51; (with_reducible refine (field_8_11 hp.out _).mono ?_); rintro e w' ⟨rfl, nn, rfl⟩) | (go_at_call 51; (with_reducible refine (field_12_31 hp.out _).mono ?_); rintro e w' ⟨rfl, nn, rfl⟩) | (go_at_call 51; (with_reducible refine (field_12_19 hp.out _).mono ?_); rintro e w' ⟨rfl, nn, rfl⟩) | (go_at_call 51; (with_reducible refine (field_20_20 hp.out _).mono ?_); rintro e w' ⟨rfl, nn, rfl⟩) | (go_at_call 51; (with_reducible refine (field_21_30 hp.out _).mono ?_); rintro e w' ⟨rfl, nn, rfl⟩))
  refine world_atF (fun W => W.heap[w.heap.size + 1]? = some (.cells (IC (0, 0, 0, 0, 0, 0, 0)) 25) ∧ W.heap[w.heap.size + 2]? = some (.cells (IC (op, p / 128 % 32, 0, 0, p / 32768 % 32, p / 1048576 % 4096, 4)) 25) ∧ Fr [] w W) ⟨?_, ?_, ?_⟩ ?_
  · rw [blk_set_other _ (by simp)]; exact blk_alloc (blk_new' (n := w.heap.size + 1) (by simp) _) _
  · exact blk_set (b := w.heap.size + 2) (blk_new' (n := w.heap.size + 2) (by simp) _) 5 _
  · exact (((((HF.out.alloc _).alloc _).drewN _).alloc _).drewN _).setCell (p := ⟨w.heap.size + 1 + 1, 5, none⟩) (.inr (by show w.heap.size ≤ w.heap.size + 1 + 1; omega)) _
  rintro W ⟨hZ, hI, hF⟩
  have HZ := hid hZ
  have HF2 := hid hF
  have x0 : W.cell? ⟨w.heap.size + 1 + 1, 0, none⟩ = some (.int .u8 (op)) := by rw [blk_cell (show W.heap[w.heap.size + 1 + 1]? = _ from hI)]; rfl
  have x1 : W.cell? ⟨w.heap.size + 1 + 1, 1, none⟩ = some (.int .u8 (p / 128 % 32)) := by rw [blk_cell (show W.heap[w.heap.size + 1 + 1]? = _ from hI)]; rfl
  have x2 : W.cell? ⟨w.heap.size + 1 + 1, 2, none⟩ = some (.int .u8 (0)) := by rw [blk_cell (show W.heap[w.heap.size + 1 + 1]? = _ from hI)]; rfl
  have x3 : W.cell? ⟨w.heap.size + 1 + 1, 3, none⟩ = some (.int .u8 (0)) := by rw [blk_cell (show W.heap[w.heap.size + 1 + 1]? = _ from hI)]; rfl
  have x4 : W.cell? ⟨w.heap.size + 1 + 1, 4, none⟩ = some (.int .i64 (p / 32768 % 32)) := by rw [blk_cell (show W.heap[w.heap.size + 1 + 1]? = _ from hI)]; rfl
  have x5 : W.cell? ⟨w.heap.size + 1 + 1, 5, none⟩ = some (.int .u16 (p / 1048576 % 4096)) := by rw [blk_cell (show W.heap[w.heap.size + 1 + 1]? = _ from hI)]; rfl
  have x6 : W.cell? ⟨w.heap.size + 1 + 1, 6, none⟩ = some (.int .u8 (4)) := by rw [blk_cell (show W.heap[w.heap.size + 1 + 1]? = _ from hI)]; rfl
  clear hZ hI hF
  go_wp2_with (first | (refine wpList_store_whole rfl 25 _ _ rfl (w.heap.size + 1) rfl (IC (op, p / 128 % 32, 0, 0, p / 32768 % 32, p / 1048576 % 4096, 4)) rfl 25 _ HZ.out rfl (sizeI' _) (IC_one _) ?_; intro w2 h2 hfr2))
  exact ⟨rfl, _, results_c rfl rfl h2 Try.underlying25 rfl (sizeI' _), rfl, HF2.out.step hfr2 (fun j hj => .inr (by rw [List.mem_singleton.1 hj]; omega))⟩
set_option maxRecDepth 100000 in
set_option maxHeartbeats 4000000 in
theorem fill_10 {p : Int} (hp : P32 p) (op f1 f2 : Int) (w : World) : Calls Try.prog 37 #[.int .u32 p, .agg #[.int .u8 op, .int .i64 10, .int .u32 f1, .int .u32 f2]] w fun e w' => e = .returned (.agg (IC (op, 0, 0, 0, 0, 0, 4))) ∧ Fr [] w w' := by
  replace hp := hid hp
  have HF := hid (Fr.refl [] w)
  have c1 : p / 128 % 32 % 256 = p / 128 % 32 := by omega
  have c2 : p / 32768 % 32 % 256 = p / 32768 % 32 := by omega
  have c3 : p / 1048576 % 32 % 256 = p / 1048576 % 32 := by omega
  go_enter Try.func37, Try.ntmps37
  go_upto_region 45 with (first | (go_at_call 51; (with_reducible refine (field_7_11 hp.out _).mono ?_); rintro e w' ⟨rfl, nn, rfl⟩) | (go_at_call 51; (with_reducible refine (field_15_19 hp.out _).mono ?_); rintro e w' ⟨rfl, nn, rfl⟩) | (go_at_call 51; (with_reducible refine (field_20_24 hp.out _).mono ?_); rintro e w' ⟨rfl, nn, rfl⟩) | (go_at_call 51; (with_reducible refine (field_20_31 hp.out _).mono ?_); rintro e w' ⟨rfl, nn, rfl⟩) | (go_at_call 51; (with_reducible refine (field_20_25 hp.out _).mono ?_); rintro e w' ⟨rfl, nn, rfl⟩) | (go_at_call 51; (with_reducible refine (field_25_31 hp.out _).mono ?_); rintro e w' ⟨rfl, nn, rfl⟩) | (go_at_call 51; (with_reducible refine (field_31_31 hp.out _).mono ?_); rintro e w' ⟨rfl, nn, rfl⟩) | (go_at_call 51; (with_reducible refine (field_7_7 hp.out _).mono ?_); rintro e w' ⟨rfl, nn, rfl⟩) | (go_at_call 51; (with_reducible refine (field_25_30 hp.out _).mono ?_); rintro e w' ⟨rfl, nn, rfl⟩) | (go_at_call 51; (with_reducible refine (field_8_11 hp.out _).mono ?_); rintro e w' ⟨rfl, nn, rfl⟩) | (go_at_call 51; (with_reducible refine (field_12_31 hp.out _).mono ?_); rintro e w' ⟨rfl, nn, rfl⟩) | (go_at_call 51; (with_reducible refine (field_12_19 hp.out _).mono ?_); rintro e w' ⟨rfl, nn, rfl⟩) | (go_at_call 51; (with_reducible refine (field_20_20 hp.out _).mono ?_); rintro e w' ⟨rfl, nn, rfl⟩) | (go_at_call 51; (with_reducible refine (field_21_30 hp.out _).mono ?_); rintro e w' ⟨rfl, nn, rfl⟩))
  refine world_atF (fun W => W.heap[w.heap.size + 1]? = some (.cells (IC (0, 0, 0, 0, 0, 0, 0)) 25) ∧ W.heap[w.heap.size + 2]? = some (.cells (IC (op, 0, 0, 0, 0, 0, 4)) 25) ∧ Fr [] w W) ⟨?_, ?_, ?_⟩ ?_
  · exact blk_alloc (blk_new' (n := w.heap.size + 1) (by simp) _) _
  · exact blk_new' (n := w.heap.size + 2) (by simp) _
  · exact (((HF.out.alloc _).alloc _).alloc _).drewN _
  rintro W ⟨hZ, hI, hF⟩
  have HZ := hid hZ
  have HF2 := hid hF
  have x0 : W.cell? ⟨w.heap.size + 1 + 1, 0, none⟩ = some (.int .u8 (op)) := by rw [blk_cell (show W.heap[w.heap.size + 1 + 1]? = _ from hI)]; rfl
  have x1 : W.cell? ⟨w.heap.size + 1 + 1, 1, none⟩ = some (.int .u8 (0)) := by rw [blk_cell (show W.heap[w.heap.size + 1 + 1]? = _ from hI)]; rfl
  have x2 : W.cell? ⟨w.heap.size + 1 + 1, 2, none⟩ = some (.int .u8 (0)) := by rw [blk_cell (show W.heap[w.heap.size + 1 + 1]? = _ from hI)]; rfl
  have x3 : W.cell? ⟨w.heap.size + 1 + 1, 3, none⟩ = some (.int .u8 (0)) := by rw [blk_cell (show W.heap[w.heap.size + 1 + 1]? = _ from hI)]; rfl
  have x4 : W.cell? ⟨w.heap.size + 1 + 1, 4, none⟩ = some (.int .i64 (0)) := by rw [blk_cell (show W.heap[w.heap.size + 1 + 1]? = _ from hI)]; rfl
  have x5 : W.cell? ⟨w.heap.size + 1 + 1, 5, none⟩ = some (.int .u16 (0)) := by rw [blk_cell (show W.heap[w.heap.size + 1 + 1]? = _ from hI)]; rfl
  have x6 : W.cell? ⟨w.heap.size + 1 + 1, 6, none⟩ = some (.int .u8 (4)) := by rw [blk_cell (show W.heap[w.heap.size + 1 + 1]? = _ from hI)]; rfl
  clear hZ hI hF
  go_wp2_with (first | (refine wpList_store_whole rfl 25 _ _ rfl (w.heap.size + 1) rfl (IC (op, 0, 0, 0, 0, 0, 4)) rfl 25 _ HZ.out rfl (sizeI' _) (IC_one _) ?_; intro w2 h2 hfr2))
  exact ⟨rfl, _, results_c rfl rfl h2 Try.underlying25 rfl (sizeI' _), rfl, HF2.out.step hfr2 (fun j hj => .inr (by rw [List.mem_singleton.1 hj]; omega))⟩
set_option maxRecDepth 100000 in
set_option maxHeartbeats 4000000 in
theorem fill_11 {p : Int} (hp : P32 p) (op f1 f2 : Int) (w : World) : Calls Try.prog 37 #[.int .u32 p, .agg #[.int .u8 op, .int .i64 11, .int .u32 f1, .int .u32 f2]] w fun e w' => e = .returned (.agg (IC (op, 0, p / 32768 % 32, p / 1048576 % 32, 0, 0, 4))) ∧ Fr [] w w' := by
  replace hp := hid hp
  have HF := hid (Fr.refl [] w)
  have c1 : p / 128 % 32 % 256 = p / 128 % 32 := by omega
  have c2 : p / 32768 % 32 % 256 = p / 32768 % 32 := by omega
  have c3 : p / 1048576 % 32 % 256 = p / 1048576 % 32 := by omega
  go_enter Try.func37, Try.ntmps37
  go_upto_region 45 with (first | (go_at_call 51; (with_reducible refine (field_7_11 hp.out _).mono ?_); rintro e w' ⟨rfl, nn, rfl⟩) | (go_at_call 51; (with_reducible refine (field_15_19 hp.out _).mono ?_); rintro e w' ⟨rfl, nn, rfl⟩) | (go_at_call 51; (with_reducible refine (field_20_24 hp.out _).mono ?_); rintro e w' ⟨rfl, nn, rfl⟩) | (go_at_call 51; (with_reducible refine (field_20_31 hp.out _).mono ?_); rintro e w' ⟨rfl, nn, rfl⟩) | (go_at_call 51; (with_reducible refine (field_20_25 hp.out _).mono ?_); rintro e w' ⟨rfl, nn, rfl⟩) | (go_at_call 51; (with_reducible refine (field_25_31 hp.out _).mono ?_); rintro e w' ⟨rfl, nn, rfl⟩) | (go_at_call 51; (with_reducible refine (field_31_31 hp.out _).mono ?_); rintro e w' ⟨rfl, nn, rfl⟩) | (go_at_call 51; (with_reducible refine (field_7_7 hp.out _).mono ?_); rintro e w' ⟨rfl, nn, rfl⟩) | (go_at_call 51; (with_reducible refine (field_25_30 hp.out _).mono ?_); rintro e w' ⟨rfl, nn, rfl⟩) | (go_at_call 51; (with_reducible refine (field_8_11 hp.out _).mono ?_); rintro e w' ⟨rfl, nn, rfl⟩) | (go_at_call 51; (with_reducible refine (field_12_31 hp.out _).mono ?_); rintro e w' ⟨rfl, nn, rfl⟩) | (go_at_call 51; (with_reducible refine (field_12_19 hp.out _).mono ?_); rintro e w' ⟨rfl, nn, rfl⟩) | (go_at_call 51; (with_reducible refine (field_20_20 hp.out _).mono ?_); rintro e w' ⟨rfl, nn, rfl⟩) | (go_at_call 51; (with_reducible refine (field_21_30 hp.out _).mono ?_); rintro e w' ⟨rfl, nn, rfl⟩))
  refine world_atF (fun W => W.heap[w.heap.size + 1]? = some (.cells (IC (0, 0, 0, 0, 0, 0, 0)) 25) ∧ W.heap[w.heap.size + 2]? = some (.cells (IC (op, 0, p / 32768 % 32, p / 1048576 % 32, 0, 0, 4)) 25) ∧ Fr [] w W) ⟨?_, ?_, ?_⟩ ?_
  · exact blk_alloc (blk_new' (n := w.heap.size + 1) (by simp) _) _
  · exact blk_new' (n := w.heap.size + 2) (by simp) _
  · exact (((HF.out.alloc _).alloc _).alloc _).drewN _
  rintro W ⟨hZ, hI, hF⟩
  have HZ := hid hZ
  have HF2 := hid hF
  have x0 : W.cell? ⟨w.heap.size + 1 + 1, 0, none⟩ = some (.int .u8 (op)) := by rw [blk_cell (show W.heap[w.heap.size + 1 + 1]? = _ from hI)]; rfl
  have x1 : W.cell? ⟨w.heap.size + 1 + 1, 1, none⟩ = some (.int .u8 (0)) := by rw [blk_cell (show W.heap[w.heap.size + 1 + 1]? = _ from hI)]; rfl
  have x2 : W.cell? ⟨w.heap.size + 1 + 1, 2, none⟩ = some (.int .u8 (p / 32768 % 32)) := by rw [blk_cell (show W.heap[w.heap.size + 1 + 1]? = _ from hI)]; rfl
  have x3 : W.cell? ⟨w.heap.size + 1 + 1, 3, none⟩ = some (.int .u8 (p / 1048576 % 32)) := by rw [blk_cell (show W.heap[w.heap.size + 1 + 1]? = _ from hI)]; rfl
  have x4 : W.cell? ⟨w.heap.size + 1 + 1, 4, none⟩ = some (.int .i64 (0)) := by rw [blk_cell (show W.heap[w.heap.size + 1 + 1]? = _ from hI)]; rfl
  have x5 : W.cell? ⟨w.heap.size + 1 + 1, 5, none⟩ = some (.int .u16 (0)) := by rw [blk_cell (show W.heap[w.heap.size + 1 + 1]? = _ from hI)]; rfl
  have x6 : W.cell? ⟨w.heap.size + 1 + 1, 6, none⟩ = some (.int .u8 (4)) := by rw [blk_cell (show W.heap[w.heap.size + 1 + 1]? = _ from hI)]; rfl
  clear hZ hI hF
  go_wp2_with (first | (refine wpList_store_whole rfl 25 _ _ rfl (w.heap.size + 1) rfl (IC (op, 0, p / 32768 % 32, p / 1048576 % 32, 0, 0, 4)) rfl 25 _ HZ.out rfl (sizeI' _) (IC_one _) ?_; intro w2 h2 hfr2))
  exact ⟨rfl, _, results_c rfl rfl h2 Try.underlying25 rfl (sizeI' _), rfl, HF2.out.step hfr2 (fun j hj => .inr (by rw [List.mem_singleton.1 hj]; omega))⟩

theorem fill_any {p : Int} (hp : P32 p) (op k f1 f2 : Int) (hk : 0 ≤ k ∧ k ≤ 11) (w : World) : Calls Try.prog 37 #[.int .u32 p, .agg #[.int .u8 op, .int .i64 k, .int .u32 f1, .int .u32 f2]] w fun e w' => e = .returned (.agg (IC (fillT p op k))) ∧ Fr [] w w' := by
  have : k = 0 ∨ k = 1 ∨ k = 2 ∨ k = 3 ∨ k = 4 ∨ k = 5 ∨ k = 6 ∨ k = 7 ∨ k = 8 ∨ k = 9 ∨ k = 10 ∨ k = 11 := by omega
  have hq : ∀ {a b c d e f g a' b' c' d' e' f' g' : Int}, e = e' → a = a' → b = b' → c = c' → d = d' → f = f' → g = g' → ((a, b, c, d, e, f, g) : T7) = (a', b', c', d', e', f', g') := by
    rintro _ _ _ _ _ _ _ _ _ _ _ _ _ _ rfl rfl rfl rfl rfl rfl rfl; rfl
  rcases this with rfl | rfl | rfl | rfl | rfl | rfl | rfl | rfl | rfl | rfl | rfl | rfl
  · exact fill_0 hp op f1 f2 w
  · exact fill_1 hp op f1 f2 w
  · exact fill_2 hp op f1 f2 w
  · exact fill_3 hp op f1 f2 w
  · exact fill_4 hp op f1 f2 w
  · have h := fill_5 hp op f1 f2 w
    have e : fillT p op 5 = (op, 0, p / 32768 % 32, p / 1048576 % 32, (if p / 2147483648 % 2 * 4096 + p / 128 % 2 * 2048 + p / 33554432 % 64 * 32 + p / 256 % 16 * 2 < 4096 then p / 2147483648 % 2 * 4096 + p / 128 % 2 * 2048 + p / 33554432 % 64 * 32 + p / 256 % 16 * 2 else p / 2147483648 % 2 * 4096 + p / 128 % 2 * 2048 + p / 33554432 % 64 * 32 + p / 256 % 16 * 2 - 8192), 0, 4) := by
      refine hq ?_ rfl rfl rfl rfl rfl rfl
      unfold sgn
      rw [show (2 : Int) ^ (12 - 1) = 2048 from rfl, show (2 : Int) ^ 12 = 4096 from rfl]
      split <;> split <;> omega
    rw [e]; exact h
  · have h := fill_6 hp op f1 f2 w
    have e : fillT p op 6 = (op, p / 128 % 32, 0, 0, (if p / 4096 % 1048576 * 4096 < 2147483648 then p / 4096 % 1048576 * 4096 else p / 4096 % 1048576 * 4096 - 4294967296), 0, 4) := by
      refine hq ?_ rfl rfl rfl rfl rfl rfl
      unfold sgn
      rw [show (2 : Int) ^ (20 - 1) = 524288 from rfl, show (2 : Int) ^ 20 = 1048576 from rfl]
      split <;> split <;> omega
    rw [e]; exact h
  · have h := fill_7 hp op f1 f2 w
    have e : fillT p op 7 = (op, p / 128 % 32, 0, 0, (if p / 2147483648 % 2 * 1048576 + p / 4096 % 256 * 4096 + p / 1048576 % 2 * 2048 + p / 2097152 % 1024 * 2 < 1048576 then p / 2147483648 % 2 * 1048576 + p / 4096 % 256 * 4096 + p / 1048576 % 2 * 2048 + p / 2097152 % 1024 * 2 else p / 2147483648 % 2 * 1048576 + p / 4096 % 256 * 4096 + p / 1048576 % 2 * 2048 + p / 2097152 % 1024 * 2 - 2097152), 0, 4) := by
      refine hq ?_ rfl rfl rfl rfl rfl rfl
      unfold sgn
      rw [show (2 : Int) ^ (20 - 1) = 524288 from rfl, show (2 : Int) ^ 20 = 1048576 from rfl]
      split <;> split <;> omega
    rw [e]; exact h
  · exact fill_8 hp op f1 f2 w
  · exact fill_9 hp op f1 f2 w
  · exact fill_10 hp op f1 f2 w
  · exact fill_11 hp op f1 f2 w
end Go.Proofs.Ytogdifjdlkpehaa.PA
