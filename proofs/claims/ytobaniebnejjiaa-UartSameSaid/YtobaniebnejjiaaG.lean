/- What the calls of a serial line do. -/
import Derived.Test.YtobaniebnejjiaaF
namespace Go.Proofs.Ytobaniebnejjiaa.U
open Go.RowKit
set_option linter.all false
theorem line_Read (T : List Nat) (g : Nat) {u : St} (hu : u.OK) {off width : Int} (h0 : 0 ≤ off) (h1 : off < 18446744073709551616) (w : World) (h : Line w T g u) :
    Calls Try.prog 11 #[.pointer (some ⟨g, 0, none⟩), .int .u64 off, .int .i64 width] w fun e w' => e = .returned (.tuple #[.int .u64 (u.Read off width).1, .bool (u.Read off width).2.1]) ∧ Line w' T g (u.Read off width).2.2 ∧ Fr T w w' := by
  have hm := may_any g off width w h0 h1
  unfold St.Read
  cases hmay : may off width with
  | true =>
    rw [hmay] at hm
    have h8 : off < 8 := by unfold may at hmay; simp at hmay; exact hmay.1
    rw [if_pos rfl]
    exact Read_w g off width (u.read off).1 (fun w' => Line w' T g (u.read off).2 ∧ Fr T w w') w (hu.read off).2 (hid fun w1 e => by subst e; exact hm) (hid fun w1 e => by subst e; exact line_read T g hu h0 h8 w1 h)
  | false =>
    rw [hmay] at hm
    rw [if_neg (by decide)]
    exact (Read_n (.pointer (some ⟨g, 0, none⟩)) off width w (hid fun w1 e => by subst e; exact hm)).mono fun e w' ⟨a, b⟩ => by subst b; exact ⟨a, h, Fr.refl _ _⟩
theorem line_Write (T : List Nat) (g : Nat) {u : St} (hu : u.OK) {off width v : Int} (h0 : 0 ≤ off) (h1 : off < 18446744073709551616) (v0 : 0 ≤ v) (v1 : v < 18446744073709551616) (hsl : u.sent.length ≤ 1000000) (w : World) (h : Line w T g u) :
    Calls Try.prog 12 #[.pointer (some ⟨g, 0, none⟩), .int .u64 off, .int .i64 width, .int .u64 v] w fun e w' => e = .returned (.bool (u.Write off width v).1) ∧ ∃ T', Line w' T' g (u.Write off width v).2 ∧ Fr T w w' ∧ Grow T T' w := by
  have hm := may_any g off width w h0 h1
  unfold St.Write
  cases hmay : may off width with
  | true =>
    rw [hmay] at hm
    have h8 : off < 8 := by unfold may at hmay; simp at hmay; exact hmay.1
    rw [if_pos rfl]
    exact Write_w g off width v (v % 256) (fun w' => ∃ T', Line w' T' g (u.write off (v % 256)) ∧ Fr T w w' ∧ Grow T T' w) w v0 v1 rfl (hid fun w1 e => by subst e; exact hm) (hid fun w1 e => by subst e; exact line_write T g hu h0 h8 (by unfold Byte; omega) hsl w1 h)
  | false =>
    rw [hmay] at hm
    rw [if_neg (by decide)]
    exact (Write_n (.pointer (some ⟨g, 0, none⟩)) off width v w (hid fun w1 e => by subst e; exact hm)).mono fun e w' ⟨a, b⟩ => by subst b; exact ⟨a, T, h, Fr.refl _ _, Grow.refl _ _⟩
theorem slice_full (p : Option Addr) (n cap : Nat) (hc : n ≤ cap) (hp : n ≠ 0 → ∃ b o, p = some ⟨b, o, none⟩) (w : World) : (Instr.sliceAt 32 (.slice p n cap) none (some (.int .i64 (n : Int))) (some (.int .i64 (n : Int)))).run Try.prog w = .ok (.slice p n n) w := by
  obtain ⟨i0, hi, hz0, hz1, hz2⟩ := info_parts info_u8
  have hi' : Try.prog.info? (Try.prog.elem 32) = some i0 := hi
  rw [run_sliceAt_slice w 32 _ _ _ _ Try.underlying32, run_slice_hm w 32 p n cap Try.underlying32 .i64 .i64 n n (by omega) (by omega) (by omega)]
  have hs : (sizeOf (Try.prog.elem 32)).run Try.prog w = .ok i0.size w := by simp [sizeOf, typeInfo, hi']
  rw [hs, Result.andThen_ok]
  unfold sliced
  simp only [Int.toNat_natCast, Nat.sub_zero]
  by_cases h0 : n = 0
  · rw [if_pos h0]
  · rw [if_neg h0]
    obtain ⟨b, o, rfl⟩ := hp h0
    simp [Addr.add_mid]
theorem line_Input (T : List Nat) (g : Nat) {u : St} (hu : u.OK) {b : Int} (hb0 : Byte b) (w : World) (h : Line w T g u) :
    Calls Try.prog 13 #[.pointer (some ⟨g, 0, none⟩), .int .u8 b] w fun e w' => e = .returned (.bool (u.Input b).1) ∧ ∃ T', Line w' T' g (u.Input b).2 ∧ Fr T w w' ∧ Grow T T' w := by
  obtain ⟨vs, vq, hb, ho, hq, hg, h1, h2, h3⟩ := h
  unfold St.Input
  by_cases hf : 16 ≤ u.q.length
  · rw [if_pos hf]
    obtain ⟨p, cap, rfl, q1, q2, q3, q4⟩ := hq
    exact (input_full g vs p u.q.length cap u b w (by omega) hb).mono fun e w' ⟨a, hb', hfr⟩ => ⟨a, T, Line.own (u := u) hb' hfr ho ⟨p, cap, rfl, q1, q2, q3, q4⟩ hg h1 h2 h3 rfl rfl, fr_in hg hfr, Grow.refl _ _⟩
  · rw [if_neg hf]
    have hqk := hq
    obtain ⟨p, cap, rfl, q1, q2, q3, q4⟩ := hq
    have hp : p = none → u.q = [] := fun e => by
      cases hql : u.q with
      | nil => rfl
      | cons x r =>
        rw [hql] at q4
        obtain ⟨b', o, e', -⟩ := q4 0 (by simp)
        rw [e] at e'
        cases e'
    refine (input_w g vs p u.q cap u b w (by omega) hb (slice_full p u.q.length cap q1 (fun hne => by obtain ⟨b', o, e, -⟩ := q4 0 (by omega); exact ⟨b', o, e⟩)) hp (fun a ha j v hj => ?_)).mono fun e w' ⟨a, bq, capq, cells, k1, k2, k3, k4, k5, hb', hfr⟩ => ⟨a, ?_⟩
    · have hlt : j < u.q.length := by have := (List.getElem?_eq_some_iff.1 hj).1; rwa [bys_len] at this
      obtain ⟨b', o, e', hbl, hc⟩ := q4 j hlt
      rw [ha] at e'
      obtain rfl : a = ⟨b', o, none⟩ := by simpa using e'
      refine ⟨hbl, ?_⟩
      rw [Addr.add_mid, hc]
      rw [bys_get, List.getElem?_eq_getElem hlt] at hj
      rw [List.getD_eq_getElem?_getD, List.getElem?_eq_getElem hlt]
      simpa using hj
    · have hgl := h3 g hg
      have hq' : QRow w' (.slice (some ⟨bq, 0, none⟩) (u.q.length + 1) capq) (u.q ++ [b]) := by
        refine ⟨_, capq, by simp, by simpa using k3, k4, fun e => by simp at e, fun i hi => ⟨bq, 0, rfl, lt_block k2, ?_⟩⟩
        rw [blk_cell k2, Nat.zero_add]
        exact k5 i hi
      refine ⟨bq :: T, ⟨vs, _, hb', owns_fr ho hfr fun k hk => by have := (h1 k hk).2; simpa using this, hq', List.mem_cons_of_mem _ hg, fun k hk => ⟨List.mem_cons_of_mem _ (h1 k hk).1, (h1 k hk).2⟩, fun _ k hk => ?_, fun k hk => ?_⟩, fr_in hg hfr, fun k hk => ?_⟩
      · have hk' : bq = k := by simpa [Value.ownBlock] using hk
        subst hk'
        refine ⟨by simp, by omega, fun e => ?_⟩
        have := h3 _ (h1 _ e).1
        omega
      · rcases List.mem_cons.1 hk with rfl | hk
        · exact lt_block k2
        · exact Nat.lt_of_lt_of_le (h3 k hk) hfr.size
      · rcases List.mem_cons.1 hk with rfl | hk
        · exact .inr k1
        · exact .inl hk
theorem line_Take (T : List Nat) (g : Nat) {u : St} (w : World) (h : Line w T g u) :
    Calls Try.prog 14 #[.pointer (some ⟨g, 0, none⟩)] w fun e w' => e = .returned (.string (strOfNums u.Take.1)) ∧ Line w' T g u.Take.2 ∧ Fr T w w' := by
  obtain ⟨vs, vq, hb, ho, hq, hg, h1, h2, h3⟩ := h
  exact (take_w g vs vq u _ w hb (conv_own ho)).mono fun e w' ⟨a, hb', hfr⟩ => ⟨a, ⟨_, vq, hb', World.ownsRow_nil _ _ _ _, hq.keep hfr fun hne k hk => by have := (h2 hne k hk).2.1; simpa using this, hg, (fun k hk => by cases hk), (fun hne k hk => ⟨(h2 hne k hk).1, (h2 hne k hk).2.1, fun e => by cases e⟩), fun k hk => Nat.lt_of_lt_of_le (h3 k hk) hfr.size⟩, fr_in hg hfr⟩
theorem line_Level (T : List Nat) (g : Nat) {u : St} (hu : u.OK) (w : World) (h : Line w T g u) : Calls Try.prog 18 #[.pointer (some ⟨g, 0, none⟩)] w fun e w' => e = .returned (.bool u.Level) ∧ w = w' := by
  obtain ⟨vs, vq, hb, ho, hq, -⟩ := h
  exact level_any g vs vq hu w hq.SlN hb
theorem line_Waiting (T : List Nat) (g : Nat) {u : St} (w : World) (h : Line w T g u) : Calls Try.prog 10 #[.pointer (some ⟨g, 0, none⟩)] w fun e w' => e = .returned (.int .i64 (u.q.length : Int)) ∧ w = w' := by
  obtain ⟨vs, vq, hb, ho, hq, -⟩ := h
  exact waiting_any g vs vq u w hq.SlN hb
theorem line_Dump (T : List Nat) (g : Nat) {u : St} (hu : u.OK) (w : World) (h : Line w T g u) : Calls Try.prog 17 #[.pointer (some ⟨g, 0, none⟩)] w fun e w' => e = .returned (.string (strOfNums u.Dump)) ∧ Fr [] w w' := by
  obtain ⟨vs, vq, hb, ho, hq, -⟩ := h
  exact dump_w g vs vq u w (hid hq) hu.short hb
/-! reads -/
set_option maxRecDepth 100000 in
set_option maxHeartbeats 4000000 in
theorem reads_w (v : Value) (off want x : Int) (ok r : Bool) (Q : World → Prop) (w : World) (hr : ok = true ∧ (x == want) = r ∨ ok = false ∧ r = false) (h1 : Hid (∀ w1, w1 = w → Calls Try.prog 11 #[v, .int .u64 off, .int .i64 1] w1 fun e w' => e = .returned (.tuple #[.int .u64 x, .bool ok]) ∧ Q w')) : Calls Try.prog 23 #[v, .int .u64 off, .int .u64 want] w fun e w' => e = .returned (.bool r) ∧ Q w' := by
  rcases hr with ⟨rfl, hr⟩ | ⟨rfl, rfl⟩
  all_goals
    go_enter Try.func23, Try.ntmps23
    go_wp2_with (go_at_call 11; (with_reducible refine (h1.out _ rfl).mono ?_); rintro e w1 ⟨rfl, hq⟩)
    go_ret
    exact ⟨rfl, hq⟩
/-- does a read of a register tell this? -/
def St.reads (u : St) (off want : Int) : Bool := (u.Read off 1).2.1 && ((u.Read off 1).1 == want)
theorem line_reads (T : List Nat) (g : Nat) {u : St} (hu : u.OK) {off : Int} (want : Int) (h0 : 0 ≤ off) (h1 : off < 18446744073709551616) (w : World) (h : Line w T g u) : Calls Try.prog 23 #[.pointer (some ⟨g, 0, none⟩), .int .u64 off, .int .u64 want] w fun e w' => e = .returned (.bool (u.reads off want)) ∧ Line w' T g (u.Read off 1).2.2 ∧ Fr T w w' := by
  refine reads_w (.pointer (some ⟨g, 0, none⟩)) off want (u.Read off 1).1 (u.Read off 1).2.1 (u.reads off want) _ w ?_ (hid fun w1 e => by subst e; exact line_Read T g hu h0 h1 w1 h)
  unfold St.reads
  cases (u.Read off 1).2.1 <;> simp
end Go.Proofs.Ytobaniebnejjiaa.U
