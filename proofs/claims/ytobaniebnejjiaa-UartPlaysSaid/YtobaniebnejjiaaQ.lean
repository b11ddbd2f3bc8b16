/- The reference's serial line: Read, Write, Input, Dump. -/
import Derived.Test.YtobaniebnejjiaaR
namespace Go.Proofs.Ytobaniebnejjiaa.U
open Go.RowKit
set_option linter.all false
theorem strOfNums_append (a b : List Int) : strOfNums a ++ strOfNums b = strOfNums (a ++ b) := by
  apply ByteArray.ext
  rw [ByteArray.data_append]
  simp [strOfNums]
theorem run_add_str (a b : List Int) (ha : a.length ≤ 4000000) (hb : b.length ≤ 4000000) (w : World) : (Op.stringOp .add (strOfNums a) (strOfNums b)).run Try.prog w = .ok (.string (strOfNums (a ++ b))) w := by
  rw [run_string_add_sum w _ _ (by rw [strOfNums_size, strOfNums_size]; omega), strOfNums_append]
theorem extract_tail (x : Int) (r : List Int) : (strOfNums (x :: r)).extract 1 (strOfNums (x :: r)).size = strOfNums r := by
  apply ByteArray.ext
  rw [ByteArray.data_extract]
  unfold strOfNums
  simp [ByteArray.size]
  rw [List.take_of_length_le (by simp)]
theorem rfirst_any (h : Nat) {u : St} (hu : u.OK) (w : World) (hb : w.heap[h]? = some (.cells (clR u) 42)) : Calls Try.prog 41 #[.pointer (some ⟨h, 0, none⟩)] w fun e w' => e = .returned (.int .i64 u.first.1) ∧ w'.heap[h]? = some (.cells (clR u.first.2) 42) ∧ Fr [h] w w' := by
  unfold St.first
  cases hq : u.q with
  | nil =>
    refine (rfirst_nil h (strOfNums u.q) w ((blk_cell hb 9).trans rfl) (by rw [hq, str_empty]; rfl)).mono fun e w' ⟨a, b⟩ => ?_
    subst b
    exact ⟨a, hb, Fr.refl _ _⟩
  | cons x r =>
    have hx : Byte x := hu.q x (by rw [hq]; simp)
    obtain ⟨z, e0⟩ := bys_at (x :: r) 0 x hx rfl
    exact rfirst_cons h u (strOfNums (x :: r)) (strOfNums r) x z e0 (extract_tail x r) w hb (by rw [hq]) (by rw [str_empty]; rfl) hx
set_option maxRecDepth 100000 in
set_option maxHeartbeats 4000000 in
theorem rread_0t (h : Nat) (u : St) (x : Int) (Q : World → Prop) (w : World) (hx : Byte x) (hb : w.heap[h]? = some (.cells (clR u) 42)) (hlat : ¬ u.lcr < 128) (hv : u.dll = x) : Calls Try.prog 30 #[.pointer (some ⟨h, 0, none⟩), .int .u64 0, .int .i64 1] w fun e w' => e = .returned (.tuple #[.int .u64 x, .bool true]) ∧ w = w' := by
  have hw : IntKind.u64.wrap x = x := by unfold Byte at hx; rw [IntKind.wrap_u64]; omega
  have hw' : IntKind.i64.wrap x = x := w64 (by have := hx.1; omega) (by have := hx.2; omega)
  have c1 : w.cell? ⟨h, 1, none⟩ = some (.int .i64 u.lcr) := (blk_cell hb 1).trans rfl
  have c4 : w.cell? ⟨h, 4, none⟩ = some (.int .i64 u.dll) := (blk_cell hb 4).trans rfl
  have HB := hid hb
  clear hb
  have hl : ¬ u.lcr < 128 := hlat
  go_enter Try.func30, Try.ntmps30
  go_wp2
  go_ret2
  exact ⟨rfl, rfl⟩
set_option maxRecDepth 100000 in
set_option maxHeartbeats 4000000 in
theorem rread_1t (h : Nat) (u : St) (x : Int) (Q : World → Prop) (w : World) (hx : Byte x) (hb : w.heap[h]? = some (.cells (clR u) 42)) (hlat : ¬ u.lcr < 128) (hv : u.dlm = x) : Calls Try.prog 30 #[.pointer (some ⟨h, 0, none⟩), .int .u64 1, .int .i64 1] w fun e w' => e = .returned (.tuple #[.int .u64 x, .bool true]) ∧ w = w' := by
  have hw : IntKind.u64.wrap x = x := by unfold Byte at hx; rw [IntKind.wrap_u64]; omega
  have hw' : IntKind.i64.wrap x = x := w64 (by have := hx.1; omega) (by have := hx.2; omega)
  have c1 : w.cell? ⟨h, 1, none⟩ = some (.int .i64 u.lcr) := (blk_cell hb 1).trans rfl
  have c5 : w.cell? ⟨h, 5, none⟩ = some (.int .i64 u.dlm) := (blk_cell hb 5).trans rfl
  have HB := hid hb
  clear hb
  have hl : ¬ u.lcr < 128 := hlat
  go_enter Try.func30, Try.ntmps30
  go_wp2
  go_ret2
  exact ⟨rfl, rfl⟩
set_option maxRecDepth 100000 in
set_option maxHeartbeats 4000000 in
theorem rread_1f (h : Nat) (u : St) (x : Int) (Q : World → Prop) (w : World) (hx : Byte x) (hb : w.heap[h]? = some (.cells (clR u) 42)) (hlat : u.lcr < 128) (hv : u.ier = x) : Calls Try.prog 30 #[.pointer (some ⟨h, 0, none⟩), .int .u64 1, .int .i64 1] w fun e w' => e = .returned (.tuple #[.int .u64 x, .bool true]) ∧ w = w' := by
  have hw : IntKind.u64.wrap x = x := by unfold Byte at hx; rw [IntKind.wrap_u64]; omega
  have hw' : IntKind.i64.wrap x = x := w64 (by have := hx.1; omega) (by have := hx.2; omega)
  have c0 : w.cell? ⟨h, 0, none⟩ = some (.int .i64 u.ier) := (blk_cell hb 0).trans rfl
  have c1 : w.cell? ⟨h, 1, none⟩ = some (.int .i64 u.lcr) := (blk_cell hb 1).trans rfl
  have c5 : w.cell? ⟨h, 5, none⟩ = some (.int .i64 u.dlm) := (blk_cell hb 5).trans rfl
  have HB := hid hb
  clear hb
  have hl : u.lcr < 128 := hlat
  go_enter Try.func30, Try.ntmps30
  go_wp2
  go_ret2
  exact ⟨rfl, rfl⟩
set_option maxRecDepth 100000 in
set_option maxHeartbeats 4000000 in
theorem rread_3 (h : Nat) (u : St) (x : Int) (Q : World → Prop) (w : World) (hx : Byte x) (hb : w.heap[h]? = some (.cells (clR u) 42))  (hv : u.lcr = x) : Calls Try.prog 30 #[.pointer (some ⟨h, 0, none⟩), .int .u64 3, .int .i64 1] w fun e w' => e = .returned (.tuple #[.int .u64 x, .bool true]) ∧ w = w' := by
  have hw : IntKind.u64.wrap x = x := by unfold Byte at hx; rw [IntKind.wrap_u64]; omega
  have hw' : IntKind.i64.wrap x = x := w64 (by have := hx.1; omega) (by have := hx.2; omega)
  have c1 : w.cell? ⟨h, 1, none⟩ = some (.int .i64 u.lcr) := (blk_cell hb 1).trans rfl
  have HB := hid hb
  clear hb
  go_enter Try.func30, Try.ntmps30
  go_wp2
  go_ret2
  exact ⟨rfl, rfl⟩
set_option maxRecDepth 100000 in
set_option maxHeartbeats 4000000 in
theorem rread_4 (h : Nat) (u : St) (x : Int) (Q : World → Prop) (w : World) (hx : Byte x) (hb : w.heap[h]? = some (.cells (clR u) 42))  (hv : u.mcr = x) : Calls Try.prog 30 #[.pointer (some ⟨h, 0, none⟩), .int .u64 4, .int .i64 1] w fun e w' => e = .returned (.tuple #[.int .u64 x, .bool true]) ∧ w = w' := by
  have hw : IntKind.u64.wrap x = x := by unfold Byte at hx; rw [IntKind.wrap_u64]; omega
  have hw' : IntKind.i64.wrap x = x := w64 (by have := hx.1; omega) (by have := hx.2; omega)
  have c2 : w.cell? ⟨h, 2, none⟩ = some (.int .i64 u.mcr) := (blk_cell hb 2).trans rfl
  have HB := hid hb
  clear hb
  go_enter Try.func30, Try.ntmps30
  go_wp2
  go_ret2
  exact ⟨rfl, rfl⟩
set_option maxRecDepth 100000 in
set_option maxHeartbeats 4000000 in
theorem rread_7 (h : Nat) (u : St) (x : Int) (Q : World → Prop) (w : World) (hx : Byte x) (hb : w.heap[h]? = some (.cells (clR u) 42))  (hv : u.scr = x) : Calls Try.prog 30 #[.pointer (some ⟨h, 0, none⟩), .int .u64 7, .int .i64 1] w fun e w' => e = .returned (.tuple #[.int .u64 x, .bool true]) ∧ w = w' := by
  have hw : IntKind.u64.wrap x = x := by unfold Byte at hx; rw [IntKind.wrap_u64]; omega
  have hw' : IntKind.i64.wrap x = x := w64 (by have := hx.1; omega) (by have := hx.2; omega)
  have c3 : w.cell? ⟨h, 3, none⟩ = some (.int .i64 u.scr) := (blk_cell hb 3).trans rfl
  have HB := hid hb
  clear hb
  go_enter Try.func30, Try.ntmps30
  go_wp2
  go_ret2
  exact ⟨rfl, rfl⟩
set_option maxRecDepth 100000 in
set_option maxHeartbeats 4000000 in
theorem rread_0f (h : Nat) (u : St) (x : Int) (Q : World → Prop) (w : World) (hx : Byte x) (hb : w.heap[h]? = some (.cells (clR u) 42)) (hlat : u.lcr < 128) (h2 : Hid (∀ w1, w1 = w → Calls Try.prog 41 #[.pointer (some ⟨h, 0, none⟩)] w1 fun e w' => e = .returned (.int .i64 x) ∧ Q w')) : Calls Try.prog 30 #[.pointer (some ⟨h, 0, none⟩), .int .u64 0, .int .i64 1] w fun e w' => e = .returned (.tuple #[.int .u64 x, .bool true]) ∧ Q w' := by
  have hw : IntKind.u64.wrap x = x := by unfold Byte at hx; rw [IntKind.wrap_u64]; omega
  have hw' : IntKind.i64.wrap x = x := w64 (by have := hx.1; omega) (by have := hx.2; omega)
  have c1 : w.cell? ⟨h, 1, none⟩ = some (.int .i64 u.lcr) := (blk_cell hb 1).trans rfl
  have c4 : w.cell? ⟨h, 4, none⟩ = some (.int .i64 u.dll) := (blk_cell hb 4).trans rfl
  have HB := hid hb
  clear hb
  go_enter Try.func30, Try.ntmps30
  go_wp2_with (first | (go_at_call 41; (with_reducible refine (h2.out _ rfl).mono ?_); rintro e w1 ⟨rfl, hq⟩))
  go_ret2
  exact ⟨rfl, hq⟩
set_option maxRecDepth 100000 in
set_option maxHeartbeats 4000000 in
theorem rread_6 (h : Nat) (u : St) (x : Int) (Q : World → Prop) (w : World) (hx : Byte x) (hb : w.heap[h]? = some (.cells (clR u) 42))  : Calls Try.prog 30 #[.pointer (some ⟨h, 0, none⟩), .int .u64 6, .int .i64 1] w fun e w' => e = .returned (.tuple #[.int .u64 0, .bool true]) ∧ w = w' := by
  have hw : IntKind.u64.wrap x = x := by unfold Byte at hx; rw [IntKind.wrap_u64]; omega
  have hw' : IntKind.i64.wrap x = x := w64 (by have := hx.1; omega) (by have := hx.2; omega)
  have HB := hid hb
  clear hb
  go_enter Try.func30, Try.ntmps30
  go_wp2
  go_ret2
  exact ⟨rfl, rfl⟩
set_option maxRecDepth 100000 in
set_option maxHeartbeats 4000000 in
theorem rread_2w (h : Nat) (u : St) (a : Int) (w : World) (hb : w.heap[h]? = some (.cells (clR u) 42)) (ha : a = 1 ∨ a = 2 ∨ a = 4 ∨ a = 6) (h2 : Hid (∀ w1, w1 = w → Calls Try.prog 33 #[.pointer (some ⟨h, 0, none⟩)] w1 fun e w' => e = .returned (.int .i64 a) ∧ w1 = w')) : Calls Try.prog 30 #[.pointer (some ⟨h, 0, none⟩), .int .u64 2, .int .i64 1] w fun e w' => e = .returned (.tuple #[.int .u64 (a + if u.en = true then 192 else 0), .bool true]) ∧ w'.heap[h]? = some (.cells (clR { u with dn := if a = 2 then false else u.dn }) 42) ∧ Fr [h] w w' := by
  obtain ⟨sent, q, ier, lcr, mcr, scr, dll, dlm, en, ov, dn⟩ := u
  have c6 : w.cell? ⟨h, 6, none⟩ = some (.bool en) := (blk_cell hb 6).trans rfl
  have c8 : w.cell? ⟨h, 8, none⟩ = some (.bool dn) := (blk_cell hb 8).trans rfl
  have f8 : w.frozen? ⟨h, 8, none⟩ = false := blk_free hb 8
  have HB := hid hb
  clear hb
  cases en
  all_goals
    rcases ha with rfl | rfl | rfl | rfl
    all_goals
      go_enter Try.func30, Try.ntmps30
      go_wp2_with (go_at_call 33; (with_reducible refine (h2.out _ rfl).mono ?_); rintro e w1 ⟨rfl, rfl⟩)
      go_ret2
      first
        | exact ⟨rfl, HB.out, Fr.refl _ _⟩
        | exact ⟨rfl, blk_set HB.out 8 _, (Fr.refl _ _).setCell (.inl (by simp)) _⟩
set_option maxRecDepth 100000 in
set_option maxHeartbeats 4000000 in
theorem rread_5w (h : Nat) (u : St) (r : Int) (s : ByteArray) (es : Bool) (w : World) (hb : w.heap[h]? = some (.cells (clR u) 42)) (hs : strOfNums u.q = s) (ts : (s.toList == []) = es) (hp : es = false ∧ u.ov = true ∧ r = 99 ∨ es = false ∧ u.ov = false ∧ r = 97 ∨ es = true ∧ u.ov = true ∧ r = 98 ∨ es = true ∧ u.ov = false ∧ r = 96) : Calls Try.prog 30 #[.pointer (some ⟨h, 0, none⟩), .int .u64 5, .int .i64 1] w fun e w' => e = .returned (.tuple #[.int .u64 r, .bool true]) ∧ w'.heap[h]? = some (.cells (clR { u with ov := false }) 42) ∧ Fr [h] w w' := by
  obtain ⟨sent, q, ier, lcr, mcr, scr, dll, dlm, en, ov, dn⟩ := u
  simp only at hs hp
  have c7 : w.cell? ⟨h, 7, none⟩ = some (.bool ov) := (blk_cell hb 7).trans rfl
  have c9 : w.cell? ⟨h, 9, none⟩ = some (.string (strOfNums q)) := (blk_cell hb 9).trans rfl
  have f7 : w.frozen? ⟨h, 7, none⟩ = false := blk_free hb 7
  rw [hs] at c9
  have HB := hid hb
  clear hb
  clear hs
  rcases hp with ⟨rfl, rfl, rfl⟩ | ⟨rfl, rfl, rfl⟩ | ⟨rfl, rfl, rfl⟩ | ⟨rfl, rfl, rfl⟩
  all_goals
    go_enter Try.func30, Try.ntmps30
    go_wp2
    go_ret2
    exact ⟨rfl, blk_set HB.out 7 _, (Fr.refl _ _).setCell (.inl (by simp)) _⟩
set_option maxRecDepth 100000 in
set_option maxHeartbeats 4000000 in
theorem rread_n1 (h : Nat) (off width : Int) (w : World) (ho : 7 < off) : Calls Try.prog 30 #[.pointer (some ⟨h, 0, none⟩), .int .u64 off, .int .i64 width] w fun e w' => e = .returned (.tuple #[.int .u64 0, .bool false]) ∧ w = w' := by
  go_enter Try.func30, Try.ntmps30
  go_wp2
  go_ret2
  exact ⟨rfl, rfl⟩
set_option maxRecDepth 100000 in
set_option maxHeartbeats 4000000 in
theorem rread_n2 (h : Nat) (off width : Int) (w : World) (ho : ¬ 7 < off) (hw : (width != 1) = true) : Calls Try.prog 30 #[.pointer (some ⟨h, 0, none⟩), .int .u64 off, .int .i64 width] w fun e w' => e = .returned (.tuple #[.int .u64 0, .bool false]) ∧ w = w' := by
  go_enter Try.func30, Try.ntmps30
  go_wp2
  go_ret2
  exact ⟨rfl, rfl⟩
theorem rRead_any (h : Nat) {u : St} (hu : u.OK) {off width : Int} (h0 : 0 ≤ off) (w : World) (hb : w.heap[h]? = some (.cells (clR u) 42)) : Calls Try.prog 30 #[.pointer (some ⟨h, 0, none⟩), .int .u64 off, .int .i64 width] w fun e w' => e = .returned (.tuple #[.int .u64 (u.Read off width).1, .bool (u.Read off width).2.1]) ∧ w'.heap[h]? = some (.cells (clR (u.Read off width).2.2) 42) ∧ Fr [h] w w' := by
  unfold St.Read
  by_cases hm : may off width = true
  · rw [if_pos hm]
    unfold may at hm
    simp only [Bool.and_eq_true, decide_eq_true_eq, beq_iff_eq] at hm
    obtain ⟨h8, rfl⟩ := hm
    have same : ∀ {x : Int}, Calls Try.prog 30 #[.pointer (some ⟨h, 0, none⟩), .int .u64 off, .int .i64 1] w (fun e w' => e = .returned (.tuple #[.int .u64 x, .bool true]) ∧ w = w') → Calls Try.prog 30 #[.pointer (some ⟨h, 0, none⟩), .int .u64 off, .int .i64 1] w (fun e w' => e = .returned (.tuple #[.int .u64 x, .bool true]) ∧ w'.heap[h]? = some (.cells (clR u) 42) ∧ Fr [h] w w') := fun hc => hc.mono fun e w' ⟨a, b⟩ => by subst b; exact ⟨a, hb, Fr.refl _ _⟩
    have hcase : off = 0 ∨ off = 1 ∨ off = 2 ∨ off = 3 ∨ off = 4 ∨ off = 5 ∨ off = 6 ∨ off = 7 := by omega
    have hlt : u.lat = decide (128 ≤ u.lcr) := rfl
    rcases hcase with rfl | rfl | rfl | rfl | rfl | rfl | rfl | rfl
    · show Calls Try.prog 30 #[.pointer (some ⟨h, 0, none⟩), .int .u64 0, .int .i64 1] w fun e w' => e = .returned (.tuple #[.int .u64 (if u.lat = true then (u.dll, u) else u.first).1, .bool true]) ∧ w'.heap[h]? = some (.cells (clR (if u.lat = true then (u.dll, u) else u.first).2) 42) ∧ Fr [h] w w'
      by_cases hl : u.lcr < 128
      · have : u.lat = false := by rw [hlt]; exact decide_eq_false (by omega)
        rw [this, if_neg (by decide)]
        exact rread_0f h u u.first.1 (fun w' => w'.heap[h]? = some (.cells (clR u.first.2) 42) ∧ Fr [h] w w') w hu.first.2 hb hl (hid fun w1 e => by subst e; exact rfirst_any h hu w1 hb)
      · have : u.lat = true := by rw [hlt]; exact decide_eq_true (by omega)
        rw [this, if_pos rfl]
        exact same (rread_0t h u u.dll (fun _ => True) w hu.dll hb hl rfl)
    · show Calls Try.prog 30 #[.pointer (some ⟨h, 0, none⟩), .int .u64 1, .int .i64 1] w fun e w' => e = .returned (.tuple #[.int .u64 (if u.lat = true then u.dlm else u.ier), .bool true]) ∧ w'.heap[h]? = some (.cells (clR u) 42) ∧ Fr [h] w w'
      by_cases hl : u.lcr < 128
      · have : u.lat = false := by rw [hlt]; exact decide_eq_false (by omega)
        rw [this, if_neg (by decide)]
        exact same (rread_1f h u u.ier (fun _ => True) w hu.ier hb hl rfl)
      · have : u.lat = true := by rw [hlt]; exact decide_eq_true (by omega)
        rw [this, if_pos rfl]
        exact same (rread_1t h u u.dlm (fun _ => True) w hu.dlm hb hl rfl)
    · exact rread_2w h u u.asks w hb (asks_of u) (hid fun w1 e => by subst e; exact rasks_any h hu w1 hb)
    · exact same (rread_3 h u u.lcr (fun _ => True) w hu.lcr hb rfl)
    · exact same (rread_4 h u u.mcr (fun _ => True) w hu.mcr hb rfl)
    · refine rread_5w h u u.status.1 (strOfNums u.q) u.q.isEmpty w hb rfl (str_empty _) ?_
      unfold St.status
      cases hq : u.q <;> cases u.ov <;> simp
    · exact same (rread_6 h u 0 (fun _ => True) w (by unfold Byte; decide) hb)
    · exact same (rread_7 h u u.scr (fun _ => True) w hu.scr hb rfl)
  · rw [if_neg hm]
    have key : Calls Try.prog 30 #[.pointer (some ⟨h, 0, none⟩), .int .u64 off, .int .i64 width] w fun e w' => e = .returned (.tuple #[.int .u64 0, .bool false]) ∧ w = w' := by
      by_cases ho : 7 < off
      · exact rread_n1 h off width w ho
      · refine rread_n2 h off width w ho ?_
        unfold may at hm
        have h8 : off < 8 := by omega
        simp only [decide_eq_true h8, Bool.true_and] at hm
        simpa [bne] using hm
    exact key.mono fun e w' ⟨a, b⟩ => by subst b; exact ⟨a, hb, Fr.refl _ _⟩
end Go.Proofs.Ytobaniebnejjiaa.U
