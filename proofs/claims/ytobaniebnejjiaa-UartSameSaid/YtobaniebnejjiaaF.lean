/- A serial line in the world, and what its calls do to it. -/
import Derived.Test.YtobaniebnejjiaaE
namespace Go.Proofs.Ytobaniebnejjiaa.U
open Go.RowKit
set_option linter.all false
/-- a line at block g, with the blocks T -/
def Line (w : World) (T : List Nat) (g : Nat) (u : St) : Prop := ∃ vs vq, w.heap[g]? = some (.cells (clU vs vq u) 48) ∧ w.ownsRow 0 5 1 vs u.sent.length (bys u.sent) ∧ QRow w vq u.q ∧ g ∈ T ∧ (∀ k, vs.ownBlock = some k → k ∈ T ∧ k ≠ g) ∧ (u.q ≠ [] → ∀ k, vq.ownBlock = some k → k ∈ T ∧ k ≠ g ∧ vs.ownBlock ≠ some k) ∧ ∀ k ∈ T, k < w.heap.size
def Grow (T T' : List Nat) (w : World) : Prop := ∀ k ∈ T', k ∈ T ∨ w.heap.size ≤ k
theorem Grow.refl (T : List Nat) (w : World) : Grow T T w := fun k hk => .inl hk
theorem Line.keep {X T : List Nat} {w w' : World} {g : Nat} {u : St} (h : Line w T g u) (hf : Fr X w w') (hX : ∀ k ∈ T, k ∉ X) : Line w' T g u := by
  obtain ⟨vs, vq, hb, ho, hq, hg, h1, h2, h3⟩ := h
  exact ⟨vs, vq, hf.keeps hb (hX g hg), owns_fr ho hf fun k hk => hX k (h1 k hk).1, hq.keep hf fun hne k hk => hX k (h2 hne k hk).1, hg, h1, h2, fun k hk => Nat.lt_of_lt_of_le (h3 k hk) hf.size⟩
/-- a store into the line's own block -/
theorem Line.own {T : List Nat} {w w' : World} {g : Nat} {u u' : St} {vs vq : Value} (hb' : w'.heap[g]? = some (.cells (clU vs vq u') 48)) (hf : Fr [g] w w') (ho : w.ownsRow 0 5 1 vs u.sent.length (bys u.sent)) (hq : QRow w vq u.q) (hg : g ∈ T) (h1 : ∀ k, vs.ownBlock = some k → k ∈ T ∧ k ≠ g) (h2 : u.q ≠ [] → ∀ k, vq.ownBlock = some k → k ∈ T ∧ k ≠ g ∧ vs.ownBlock ≠ some k) (h3 : ∀ k ∈ T, k < w.heap.size) (es : u'.sent = u.sent) (eq : u'.q = u.q) : Line w' T g u' := by
  refine ⟨vs, vq, hb', ?_, ?_, hg, h1, ?_, fun k hk => Nat.lt_of_lt_of_le (h3 k hk) hf.size⟩
  · rw [es]; exact owns_fr ho hf fun k hk => by have := (h1 k hk).2; simpa using this
  · rw [eq]; exact hq.keep hf fun hne k hk => by have := (h2 hne k hk).2.1; simpa using this
  · rw [eq]; exact h2
theorem fr_in {T : List Nat} {w w' : World} {g : Nat} (hg : g ∈ T) (h : Fr [g] w w') : Fr T w w' := h.weaken fun k hk => by rw [List.mem_singleton.1 hk]; exact hg
theorem line_new (w : World) : Calls Try.prog 9 #[] w fun e w' => e = .returned (.pointer (some ⟨w.heap.size, 0, none⟩)) ∧ Line w' [w.heap.size] w.heap.size St.new ∧ Fr [] w w' :=
  (new_w w).mono fun e w' ⟨h1, h2⟩ => ⟨h1, by
    subst h2
    exact ⟨_, _, blk_new _ _, World.ownsRow_nil _ _ _ _, QRow.nil _, by simp, (fun k hk => by cases hk), (fun hne => absurd rfl hne), fun k hk => by rw [List.mem_singleton.1 hk]; simp⟩, by subst h2; exact (Fr.refl _ _).alloc _⟩
theorem line_read (T : List Nat) (g : Nat) {u : St} (hu : u.OK) {off : Int} (h0 : 0 ≤ off) (h8 : off < 8) (w : World) (h : Line w T g u) :
    Calls Try.prog 25 #[.pointer (some ⟨g, 0, none⟩), .int .u64 off] w fun e w' => e = .returned (.int .u8 (u.read off).1) ∧ Line w' T g (u.read off).2 ∧ Fr T w w' := by
  obtain ⟨vs, vq, hb, ho, hq, hg, h1, h2, h3⟩ := h
  have hL : Line w T g u := ⟨vs, vq, hb, ho, hq, hg, h1, h2, h3⟩
  have hlat := latched_any g vs vq hu w hb
  have own : ∀ (u' : St) (w' : World), w'.heap[g]? = some (.cells (clU vs vq u') 48) → Fr [g] w w' → u'.sent = u.sent → u'.q = u.q → Line w' T g u' := fun u' w' a b c d => Line.own (u := u) a b ho hq hg h1 h2 h3 c d
  have same : ∀ {x : Int} {f : FuncId} {args : Array Value}, Calls Try.prog f args w (fun e w' => e = .returned (.int .u8 x) ∧ w = w') → Calls Try.prog f args w (fun e w' => e = .returned (.int .u8 x) ∧ Line w' T g u ∧ Fr T w w') := fun hc => hc.mono fun e w' ⟨a, b⟩ => by subst b; exact ⟨a, hL, Fr.refl _ _⟩
  have hcase : off = 0 ∨ off = 1 ∨ off = 2 ∨ off = 3 ∨ off = 4 ∨ off = 5 ∨ off = 6 ∨ off = 7 := by omega
  rcases hcase with rfl | rfl | rfl | rfl | rfl | rfl | rfl | rfl
  · show Calls Try.prog 25 #[.pointer (some ⟨g, 0, none⟩), .int .u64 0] w fun e w' => e = .returned (.int .u8 (if u.lat = true then (u.dll, u) else u.first).1) ∧ Line w' T g (if u.lat = true then (u.dll, u) else u.first).2 ∧ Fr T w w'
    cases hl : u.lat with
    | true =>
      rw [hl] at hlat
      rw [if_pos rfl]
      exact same (read_0t g u.dll (fun _ => True) w (hid fun w1 e => by subst e; exact hlat) ((blk_cell hb 6).trans rfl))
    | false =>
      rw [hl] at hlat
      rw [if_neg (by decide)]
      refine read_0f g u.first.1 (fun w' => Line w' T g u.first.2 ∧ Fr T w w') w (hid fun w1 e => by subst e; exact hlat) (hid fun w1 e => ?_)
      subst e
      obtain ⟨p, cap, rfl, q1, q2, q3, q4⟩ := hq
      unfold St.first
      cases hql : u.q with
      | nil =>
        simp only [hql, List.length_nil] at hb
        dsimp only
        refine (receive_nil g vs p cap u w1 hb).mono fun e w' ⟨a, b⟩ => ?_
        subst b
        exact ⟨a, hL, Fr.refl _ _⟩
      | cons x r =>
        simp only [hql, List.length_cons] at hb q1 q4 h2
        dsimp only
        obtain ⟨b, o, rfl, hbl, hc0⟩ := q4 0 (by omega)
        obtain ⟨k1, k2, k3⟩ := h2 (by simp) b rfl
        refine (receive_cons g b o vs r.length cap x u w1 (by omega) q2 k2 (by simpa using hc0) hb).mono fun e w' ⟨a, hb', hf⟩ => ⟨a, ?_, fr_in hg hf⟩
        have hhv : ∀ k, vs.ownBlock = some k → k ∉ [g] := fun k hk => by have := (h1 k hk).2; simpa using this
        have hQ : QRow w' (.slice (some ⟨b, if cap = 1 then o else o + 1, none⟩) r.length (cap - 1)) r := by
          refine ⟨_, cap - 1, rfl, by omega, by omega, fun e => by simp at e, fun i hi => ?_⟩
          obtain ⟨b', o', e, hbl', hc⟩ := q4 (i + 1) (by omega)
          have e1 : b = b' ∧ o = o' := by simpa using e
          obtain ⟨rfl, rfl⟩ := e1
          refine ⟨b, _, rfl, Nat.lt_of_lt_of_le hbl hf.size, ?_⟩
          rw [if_neg (by omega), show o + 1 + i = o + (i + 1) by omega, World.cell?_of_block (w := w1) (a := ⟨b, o + (i + 1), none⟩) (hf.block b hbl (by simpa using k2)), hc]
          simp
        refine ⟨vs, _, hb', owns_fr ho hf hhv, hQ, hg, h1, fun _ k hk => ?_, fun k hk => Nat.lt_of_lt_of_le (h3 k hk) hf.size⟩
        · have hk' : b = k := by simpa [Value.ownBlock] using hk
          subst hk'
          exact ⟨k1, k2, k3⟩
  · show Calls Try.prog 25 #[.pointer (some ⟨g, 0, none⟩), .int .u64 1] w fun e w' => e = .returned (.int .u8 (if u.lat = true then u.dlm else u.ier)) ∧ Line w' T g u ∧ Fr T w w'
    cases hl : u.lat with
    | true => rw [hl] at hlat; exact same (read_1t g u.dlm (fun _ => True) w (hid fun w1 e => by subst e; exact hlat) ((blk_cell hb 7).trans rfl))
    | false => rw [hl] at hlat; exact same (read_1f g u.ier (fun _ => True) w (hid fun w1 e => by subst e; exact hlat) ((blk_cell hb 2).trans rfl))
  · exact read_2 g u.ident.1 (fun w' => Line w' T g u.ident.2 ∧ Fr T w w') w (hid fun w1 e => by
      subst e
      exact (identity_any g vs vq hu w1 hq.SlN hb).mono fun e w' ⟨a, b, c⟩ => ⟨a, own _ w' b c rfl rfl, fr_in hg c⟩)
  · exact same (read_3 g u.lcr (fun _ => True) w ((blk_cell hb 3).trans rfl))
  · exact same (read_4 g u.mcr (fun _ => True) w ((blk_cell hb 4).trans rfl))
  · exact read_5 g u.status.1 (fun w' => Line w' T g u.status.2 ∧ Fr T w w') w (hid fun w1 e => by
      subst e
      exact (state_any g vs vq w1 hq.SlN hb).mono fun e w' ⟨a, b, c⟩ => ⟨a, own _ w' b c rfl rfl, fr_in hg c⟩)
  · exact same (read_6 g 0 (fun _ => True) w)
  · exact same (read_7 g u.scr (fun _ => True) w ((blk_cell hb 5).trans rfl))
theorem line_write (T : List Nat) (g : Nat) {u : St} (hu : u.OK) {off b : Int} (h0 : 0 ≤ off) (h8 : off < 8) (hb0 : Byte b) (hsl : u.sent.length ≤ 1000000) (w : World) (h : Line w T g u) :
    Calls Try.prog 26 #[.pointer (some ⟨g, 0, none⟩), .int .u64 off, .int .u8 b] w fun e w' => e = .returned (.tuple #[]) ∧ ∃ T', Line w' T' g (u.write off b) ∧ Fr T w w' ∧ Grow T T' w := by
  obtain ⟨vs, vq, hb, ho, hq, hg, h1, h2, h3⟩ := h
  have hL : Line w T g u := ⟨vs, vq, hb, ho, hq, hg, h1, h2, h3⟩
  have hlat := latched_any g vs vq hu w hb
  have own : ∀ {u' : St} {f : FuncId} {args : Array Value}, u'.sent = u.sent → u'.q = u.q → Calls Try.prog f args w (fun e w' => e = .returned (.tuple #[]) ∧ w'.heap[g]? = some (.cells (clU vs vq u') 48) ∧ Fr [g] w w') → Calls Try.prog f args w (fun e w' => e = .returned (.tuple #[]) ∧ ∃ T', Line w' T' g u' ∧ Fr T w w' ∧ Grow T T' w) := fun es eq hc => hc.mono fun e w' ⟨a, b, c⟩ => ⟨a, T, Line.own (u := u) b c ho hq hg h1 h2 h3 es eq, fr_in hg c, Grow.refl _ _⟩
  have same : ∀ {f : FuncId} {args : Array Value}, Calls Try.prog f args w (fun e w' => e = .returned (.tuple #[]) ∧ w = w') → Calls Try.prog f args w (fun e w' => e = .returned (.tuple #[]) ∧ ∃ T', Line w' T' g u ∧ Fr T w w' ∧ Grow T T' w) := fun hc => hc.mono fun e w' ⟨a, b⟩ => by subst b; exact ⟨a, T, hL, Fr.refl _ _, Grow.refl _ _⟩
  have hcase : off = 0 ∨ off = 1 ∨ off = 2 ∨ off = 3 ∨ off = 4 ∨ off = 5 ∨ off = 6 ∨ off = 7 := by omega
  rcases hcase with rfl | rfl | rfl | rfl | rfl | rfl | rfl | rfl
  · show Calls Try.prog 26 #[.pointer (some ⟨g, 0, none⟩), .int .u64 0, .int .u8 b] w fun e w' => e = .returned (.tuple #[]) ∧ ∃ T', Line w' T' g (if u.lat = true then { u with dll := b } else u.send b) ∧ Fr T w w' ∧ Grow T T' w
    cases hl : u.lat with
    | true => rw [hl] at hlat; rw [if_pos rfl]; exact own rfl rfl (write_0t g vs vq u b (fun _ => True) w hb0 (hid fun w1 e => by subst e; exact hlat) hb)
    | false =>
      rw [hl] at hlat; rw [if_neg (by decide)]
      have hne : vs.ownBlock ≠ some g := fun e => (h1 g e).2 rfl
      refine (write_0f g vs vq u b w hb0 (hid fun w1 e => by subst e; exact hlat) hb (hid ho) hsl hne).mono fun e w' ⟨a, v', k1, k2, k3, k4⟩ => ⟨a, ?_⟩
      have hfT : Fr T w w' := k4.weaken fun k hk => by
        rcases List.mem_cons.1 hk with rfl | hk
        · exact hg
        · cases e : vs.ownBlock with
          | none => rw [e] at hk; simp at hk
          | some z => rw [e] at hk; have : k = z := by simpa using hk
                      subst this; exact (h1 k e).1
      have hqk : QRow w' vq u.q := hq.keep k4 fun hne k hk hm => by
        obtain ⟨z1, z2, z3⟩ := h2 hne k hk
        rcases List.mem_cons.1 hm with rfl | hm
        · exact z2 rfl
        · cases e : vs.ownBlock with
          | none => rw [e] at hm; simp at hm
          | some z => rw [e] at hm; have : k = z := by simpa using hm
                      subst this; exact z3 e
      refine ⟨v'.ownBlock.toList ++ T, ⟨v', vq, k3, k1, hqk, List.mem_append.2 (.inr hg), fun k hk => ⟨by rw [hk]; simp, ?_⟩, fun hne k hk => ?_, fun k hk => ?_⟩, hfT, fun k hk => ?_⟩
      · rcases k2 with e | ⟨z, e, hz⟩
        · rw [e] at hk; exact (h1 k hk).2
        · rw [e] at hk; have : z = k := by simpa using hk
          subst this
          have := lt_block hb
          omega
      · obtain ⟨z1, z2, z3⟩ := h2 hne k hk
        refine ⟨List.mem_append.2 (.inr z1), z2, fun ek => ?_⟩
        rcases k2 with e | ⟨z, e, hz⟩
        · rw [e] at ek; exact z3 ek
        · rw [e] at ek; have : z = k := by simpa using ek
          have := h3 k z1
          omega
      · rcases List.mem_append.1 hk with hk | hk
        · cases e : v'.ownBlock with
          | none => rw [e] at hk; simp at hk
          | some z => rw [e] at hk; have : k = z := by simpa using hk
                      subst this; exact (k1.lt k e).2
        · exact Nat.lt_of_lt_of_le (h3 k hk) hfT.size
      · rcases List.mem_append.1 hk with hk | hk
        · rcases k2 with e | ⟨z, e, hz⟩
          · rw [e] at hk
            cases e2 : vs.ownBlock with
            | none => rw [e2] at hk; simp at hk
            | some z => rw [e2] at hk; have : k = z := by simpa using hk
                        subst this; exact .inl (h1 k e2).1
          · rw [e] at hk; have : k = z := by simpa using hk
            subst this; exact .inr hz
        · exact .inl hk
  · show Calls Try.prog 26 #[.pointer (some ⟨g, 0, none⟩), .int .u64 1, .int .u8 b] w fun e w' => e = .returned (.tuple #[]) ∧ ∃ T', Line w' T' g (if u.lat = true then { u with dlm := b } else u.allow b) ∧ Fr T w w' ∧ Grow T T' w
    cases hl : u.lat with
    | true => rw [hl] at hlat; rw [if_pos rfl]; exact own rfl rfl (write_1t g vs vq u b (fun _ => True) w hb0 (hid fun w1 e => by subst e; exact hlat) hb)
    | false =>
      rw [hl] at hlat; rw [if_neg (by decide)]
      refine write_1f g vs vq u b (fun w' => ∃ T', Line w' T' g (u.allow b) ∧ Fr T w w' ∧ Grow T T' w) w hb0 (hid fun w1 e => by subst e; exact hlat) (hid fun w1 e => ?_)
      subst e
      exact own rfl rfl (allow_any g vs vq hu hb0 w1 hb)
  · refine write_2 g vs vq u b (fun w' => ∃ T', Line w' T' g (u.control b) ∧ Fr T w w' ∧ Grow T T' w) w hb0 (hid fun w1 e => ?_)
    subst e
    refine (control_any g vs vq hb0 w1 hb).mono fun e w' ⟨a, hb', hf⟩ => ⟨a, T, ⟨vs, _, hb', ?_, ?_, hg, h1, ?_, fun k hk => Nat.lt_of_lt_of_le (h3 k hk) hf.size⟩, fr_in hg hf, Grow.refl _ _⟩
    · exact owns_fr ho hf fun k hk => by have := (h1 k hk).2; simpa using this
    · unfold St.control
      cases (b / 2 % 2 == 1) with
      | true => simp only [if_true]; exact QRow.nil _
      | false => simp only [Bool.false_eq_true, if_false]; exact hq.keep hf fun hne k hk => by have := (h2 hne k hk).2.1; simpa using this
    · unfold St.control
      cases (b / 2 % 2 == 1) with
      | true => simp
      | false => simpa using h2
  · exact own rfl rfl (write_3 g vs vq u b (fun _ => True) w hb0 hb)
  · exact own rfl rfl (write_4 g vs vq u b (fun _ => True) w hb0 (bit_of hb0).2.2.2.2.2.2 hb)
  · exact same (write_5 g vs vq u b (fun _ => True) w hb0)
  · exact same (write_6 g vs vq u b (fun _ => True) w hb0)
  · exact own rfl rfl (write_7 g vs vq u b (fun _ => True) w hb0 hb)
set_option maxRecDepth 100000 in
set_option maxHeartbeats 4000000 in
theorem Read_w (g : Nat) (off width x : Int) (Q : World → Prop) (w : World) (hx : Byte x) (h1 : Hid (∀ w1, w1 = w → Calls Try.prog 24 #[.pointer (some ⟨g, 0, none⟩), .int .u64 off, .int .i64 width] w1 fun e w' => e = .returned (.bool true) ∧ w1 = w')) (h2 : Hid (∀ w1, w1 = w → Calls Try.prog 25 #[.pointer (some ⟨g, 0, none⟩), .int .u64 off] w1 fun e w' => e = .returned (.int .u8 x) ∧ Q w')) : Calls Try.prog 11 #[.pointer (some ⟨g, 0, none⟩), .int .u64 off, .int .i64 width] w fun e w' => e = .returned (.tuple #[.int .u64 x, .bool true]) ∧ Q w' := by
  have hw : IntKind.u64.wrap x = x := by unfold Byte at hx; rw [IntKind.wrap_u64]; omega
  go_enter Try.func11, Try.ntmps11
  go_wp2_with (first | (go_at_call 24; (with_reducible refine (h1.out _ rfl).mono ?_); rintro e w1 ⟨rfl, rfl⟩) | (go_at_call 25; (with_reducible refine (h2.out _ rfl).mono ?_); rintro e w1 ⟨rfl, hq⟩))
  go_ret2
  exact ⟨rfl, hq⟩
set_option maxRecDepth 100000 in
set_option maxHeartbeats 4000000 in
theorem Read_n (v : Value) (off width : Int) (w : World) (h1 : Hid (∀ w1, w1 = w → Calls Try.prog 24 #[v, .int .u64 off, .int .i64 width] w1 fun e w' => e = .returned (.bool false) ∧ w1 = w')) : Calls Try.prog 11 #[v, .int .u64 off, .int .i64 width] w fun e w' => e = .returned (.tuple #[.int .u64 0, .bool false]) ∧ w = w' := by
  go_enter Try.func11, Try.ntmps11
  go_wp2_with (go_at_call 24; (with_reducible refine (h1.out _ rfl).mono ?_); rintro e w1 ⟨rfl, rfl⟩)
  go_ret2
  exact ⟨rfl, rfl⟩
set_option maxRecDepth 100000 in
set_option maxHeartbeats 4000000 in
theorem Write_w (g : Nat) (off width v b : Int) (Q : World → Prop) (w : World) (v0 : 0 ≤ v) (v1 : v < 18446744073709551616) (hv : v % 256 = b) (h1 : Hid (∀ w1, w1 = w → Calls Try.prog 24 #[.pointer (some ⟨g, 0, none⟩), .int .u64 off, .int .i64 width] w1 fun e w' => e = .returned (.bool true) ∧ w1 = w')) (h2 : Hid (∀ w1, w1 = w → Calls Try.prog 26 #[.pointer (some ⟨g, 0, none⟩), .int .u64 off, .int .u8 b] w1 fun e w' => e = .returned (.tuple #[]) ∧ Q w')) : Calls Try.prog 12 #[.pointer (some ⟨g, 0, none⟩), .int .u64 off, .int .i64 width, .int .u64 v] w fun e w' => e = .returned (.bool true) ∧ Q w' := by
  have hw : IntKind.u8.wrap v = b := by rw [← hv]; rfl
  go_enter Try.func12, Try.ntmps12
  go_wp2_with (first | (go_at_call 24; (with_reducible refine (h1.out _ rfl).mono ?_); rintro e w1 ⟨rfl, rfl⟩) | (go_at_call 26; (with_reducible refine (h2.out _ rfl).mono ?_); rintro e w1 ⟨rfl, hq⟩))
  go_ret
  exact ⟨rfl, hq⟩
set_option maxRecDepth 100000 in
set_option maxHeartbeats 4000000 in
theorem Write_n (p : Value) (off width v : Int) (w : World) (h1 : Hid (∀ w1, w1 = w → Calls Try.prog 24 #[p, .int .u64 off, .int .i64 width] w1 fun e w' => e = .returned (.bool false) ∧ w1 = w')) : Calls Try.prog 12 #[p, .int .u64 off, .int .i64 width, .int .u64 v] w fun e w' => e = .returned (.bool false) ∧ w = w' := by
  go_enter Try.func12, Try.ntmps12
  go_wp2_with (go_at_call 24; (with_reducible refine (h1.out _ rfl).mono ?_); rintro e w1 ⟨rfl, rfl⟩)
  go_ret
  exact ⟨rfl, rfl⟩
end Go.Proofs.Ytobaniebnejjiaa.U
