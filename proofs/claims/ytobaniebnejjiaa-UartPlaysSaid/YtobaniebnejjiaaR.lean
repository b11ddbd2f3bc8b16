/- The reference's serial line: contracts. -/
import Derived.Test.YtobaniebnejjiaaJ
namespace Go.Proofs.Ytobaniebnejjiaa.U
open Go.RowKit
set_option linter.all false
def clR (u : St) : Array Value := #[.int .i64 u.ier, .int .i64 u.lcr, .int .i64 u.mcr, .int .i64 u.scr, .int .i64 u.dll, .int .i64 u.dlm, .bool u.en, .bool u.ov, .bool u.dn, .string (strOfNums u.q), .string (strOfNums u.sent)]
theorem w64 {x : Int} (h0 : -9223372036854775808 ≤ x) (h1 : x < 9223372036854775808) : IntKind.i64.wrap x = x := by rw [IntKind.wrap_i64]; omega
theorem str_list (l : List Int) : (strOfNums l).toList = l.map fun n => UInt8.ofNat n.toNat := ByteArray.toList_mk _
theorem str_empty (l : List Int) : ((strOfNums l).toList == []) = l.isEmpty := by rw [str_list]; cases l <;> rfl
set_option maxRecDepth 100000 in
set_option maxHeartbeats 4000000 in
theorem rasks_w (h : Nat) (x r : Int) (s : ByteArray) (e4 e1 e2 ov dn es : Bool) (w : World) (hx : Byte x)
    (c0 : w.cell? ⟨h, 0, none⟩ = some (.int .i64 x)) (c7 : w.cell? ⟨h, 7, none⟩ = some (.bool ov)) (c8 : w.cell? ⟨h, 8, none⟩ = some (.bool dn)) (c9 : w.cell? ⟨h, 9, none⟩ = some (.string s))
    (t4 : (x / 4 % 2 == 1) = e4) (t1 : (x % 2 == 1) = e1) (t2 : (x / 2 % 2 == 1) = e2) (ts : (s.toList == []) = es)
    (hp : (e4 = true ∧ ov = true ∧ r = 6) ∨ ((e4 = false ∨ e4 = true ∧ ov = false) ∧ ((e1 = true ∧ es = false ∧ r = 4) ∨ ((e1 = false ∨ e1 = true ∧ es = true) ∧ ((e2 = true ∧ dn = true ∧ r = 2) ∨ ((e2 = false ∨ e2 = true ∧ dn = false) ∧ r = 1)))))) :
    Calls Try.prog 33 #[.pointer (some ⟨h, 0, none⟩)] w fun e w' => e = .returned (.int .i64 r) ∧ w = w' := by
  have x0 : 0 ≤ x := hx.1
  have x1 : x < 256 := hx.2
  have q4 : x.tdiv 4 = x / 4 := Int.tdiv_eq_ediv_of_nonneg x0
  have q2 : x.tdiv 2 = x / 2 := Int.tdiv_eq_ediv_of_nonneg x0
  have m4 : (x / 4).tmod 2 = x / 4 % 2 := Int.tmod_eq_emod_of_nonneg (by omega)
  have m2 : (x / 2).tmod 2 = x / 2 % 2 := Int.tmod_eq_emod_of_nonneg (by omega)
  have m1 : x.tmod 2 = x % 2 := Int.tmod_eq_emod_of_nonneg x0
  have k4 : IntKind.i64.wrap (x / 4) = x / 4 := w64 (by omega) (by omega)
  have k2 : IntKind.i64.wrap (x / 2) = x / 2 := w64 (by omega) (by omega)
  rcases hp with ⟨rfl, rfl, rfl⟩ | ⟨rfl | ⟨rfl, rfl⟩, ⟨rfl, rfl, rfl⟩ | ⟨rfl | ⟨rfl, rfl⟩, ⟨rfl, rfl, rfl⟩ | ⟨rfl | ⟨rfl, rfl⟩, rfl⟩⟩⟩
  all_goals
    go_enter Try.func33, Try.ntmps33
    go_wp2
    go_ret
    exact ⟨rfl, rfl⟩
theorem rasks_any (h : Nat) {u : St} (hu : u.OK) (w : World) (hb : w.heap[h]? = some (.cells (clR u) 42)) : Calls Try.prog 33 #[.pointer (some ⟨h, 0, none⟩)] w fun e w' => e = .returned (.int .i64 u.asks) ∧ w = w' := by
  have c0 : w.cell? ⟨h, 0, none⟩ = some (.int .i64 u.ier) := (blk_cell hb 0).trans rfl
  have c7 : w.cell? ⟨h, 7, none⟩ = some (.bool u.ov) := (blk_cell hb 7).trans rfl
  have c8 : w.cell? ⟨h, 8, none⟩ = some (.bool u.dn) := (blk_cell hb 8).trans rfl
  have c9 : w.cell? ⟨h, 9, none⟩ = some (.string (strOfNums u.q)) := (blk_cell hb 9).trans rfl
  refine rasks_w h u.ier u.asks (strOfNums u.q) _ _ _ u.ov u.dn u.q.isEmpty w hu.ier c0 c7 c8 c9 rfl rfl rfl (str_empty _) ?_
  have hem : u.q = [] ↔ u.q.isEmpty = true := by simp
  unfold St.asks
  by_cases h1 : (u.ier / 4 % 2 == 1) = true ∧ u.ov = true
  · rw [if_pos h1]; exact .inl ⟨h1.1, h1.2, rfl⟩
  rw [if_neg h1]
  have h1' : (u.ier / 4 % 2 == 1) = false ∨ (u.ier / 4 % 2 == 1) = true ∧ u.ov = false := by
    cases a : (u.ier / 4 % 2 == 1) <;> cases b : u.ov <;> simp_all
  refine .inr ⟨h1', ?_⟩
  by_cases h2 : (u.ier % 2 == 1) = true ∧ u.q ≠ []
  · rw [if_pos h2]; exact .inl ⟨h2.1, by simpa using h2.2, rfl⟩
  rw [if_neg h2]
  have h2' : (u.ier % 2 == 1) = false ∨ (u.ier % 2 == 1) = true ∧ u.q.isEmpty = true := by
    cases a : (u.ier % 2 == 1)
    · exact .inl rfl
    · exact .inr ⟨rfl, hem.1 (Classical.byContradiction fun h => h2 ⟨a, h⟩)⟩
  refine .inr ⟨h2', ?_⟩
  by_cases h3 : (u.ier / 2 % 2 == 1) = true ∧ u.dn = true
  · rw [if_pos h3]; exact .inl ⟨h3.1, h3.2, rfl⟩
  rw [if_neg h3]
  refine .inr ⟨?_, rfl⟩
  cases a : (u.ier / 2 % 2 == 1) <;> cases b : u.dn <;> simp_all
set_option maxRecDepth 100000 in
set_option maxHeartbeats 4000000 in
theorem rone_any (b : Bool) (w : World) : Calls Try.prog 34 #[.bool b] w fun e w' => e = .returned (.int .u8 (b1 b)) ∧ w = w' := by
  cases b
  all_goals
    go_enter Try.func34, Try.ntmps34
    go_wp2
    go_ret
    exact ⟨rfl, rfl⟩
set_option maxRecDepth 100000 in
set_option maxHeartbeats 4000000 in
theorem rlevel_any (h : Nat) {u : St} (hu : u.OK) (w : World) (hb : w.heap[h]? = some (.cells (clR u) 42)) : Calls Try.prog 20 #[.pointer (some ⟨h, 0, none⟩)] w fun e w' => e = .returned (.bool u.Level) ∧ w = w' := by
  have h1 := hid (rasks_any h hu w hb)
  clear hb
  unfold St.Level
  generalize u.asks = a at *
  go_enter Try.func20, Try.ntmps20
  go_wp2_with (go_at_call 33; (with_reducible refine (h1.out).mono ?_); rintro e w1 ⟨rfl, rfl⟩)
  go_ret
  exact ⟨rfl, rfl⟩
set_option maxRecDepth 100000 in
set_option maxHeartbeats 4000000 in
theorem rtake_any (h : Nat) (u : St) (w : World) (hb : w.heap[h]? = some (.cells (clR u) 42)) : Calls Try.prog 22 #[.pointer (some ⟨h, 0, none⟩)] w fun e w' => e = .returned (.string (strOfNums u.Take.1)) ∧ w'.heap[h]? = some (.cells (clR u.Take.2) 42) ∧ Fr [h] w w' := by
  have c10 : w.cell? ⟨h, 10, none⟩ = some (.string (strOfNums u.sent)) := (blk_cell hb 10).trans rfl
  have f10 : w.frozen? ⟨h, 10, none⟩ = false := blk_free hb 10
  have HB := hid hb
  clear hb
  go_enter Try.func22, Try.ntmps22
  go_wp2
  go_ret
  exact ⟨rfl, blk_set HB.out 10 _, (Fr.refl _ _).setCell (.inl (by simp)) _⟩
set_option maxRecDepth 100000 in
set_option maxHeartbeats 4000000 in
theorem rfirst_nil (h : Nat) (s : ByteArray) (w : World) (c9 : w.cell? ⟨h, 9, none⟩ = some (.string s)) (ts : (s.toList == []) = true) : Calls Try.prog 41 #[.pointer (some ⟨h, 0, none⟩)] w fun e w' => e = .returned (.int .i64 0) ∧ w = w' := by
  go_enter Try.func41, Try.ntmps41
  go_wp2
  go_ret
  exact ⟨rfl, rfl⟩
set_option maxRecDepth 100000 in
set_option maxHeartbeats 4000000 in
theorem rfirst_cons (h : Nat) (u : St) (s s' : ByteArray) (x : Int) (z : 0 < s.size) (e0 : ((s[0]'z).toNat : Int) = x) (ex : s.extract 1 s.size = s') (w : World) (hb : w.heap[h]? = some (.cells (clR u) 42)) (hs : strOfNums u.q = s) (ts : (s.toList == []) = false) (hx : Byte x) : Calls Try.prog 41 #[.pointer (some ⟨h, 0, none⟩)] w fun e w' => e = .returned (.int .i64 x) ∧ w'.heap[h]? = some (.cells ((clR u).setIfInBounds 9 (.string s')) 42) ∧ Fr [h] w w' := by
  have c9 : w.cell? ⟨h, 9, none⟩ = some (.string (strOfNums u.q)) := (blk_cell hb 9).trans rfl
  have f9 : w.frozen? ⟨h, 9, none⟩ = false := blk_free hb 9
  rw [hs] at c9
  have HB := hid hb
  clear hb hs
  have hz : (0 : Int) < (s.size : Int) := by omega
  have hz1 : (1 : Int) ≤ (s.size : Int) := by omega
  have hw : IntKind.i64.wrap x = x := w64 (by have := hx.1; omega) (by have := hx.2; omega)
  go_enter Try.func41, Try.ntmps41
  go_wp2
  go_ret
  exact ⟨rfl, blk_set HB.out 9 _, (Fr.refl _ _).setCell (.inl (by simp)) _⟩
end Go.Proofs.Ytobaniebnejjiaa.U
