/- A serial line's small functions: contracts. -/
import Derived.Test.YtobaniebnejjiaaA
namespace Go.Proofs.Ytobaniebnejjiaa.U
open Go.RowKit
set_option linter.all false
/-- a line's cells: what was sent, the queue, its registers -/
def clU (vs vq : Value) (u : St) : Array Value := #[vs, vq, .int .u8 u.ier, .int .u8 u.lcr, .int .u8 u.mcr, .int .u8 u.scr, .int .u8 u.dll, .int .u8 u.dlm, .bool u.en, .bool u.ov, .bool u.dn]
set_option maxRecDepth 100000 in
set_option maxHeartbeats 4000000 in
theorem asks_w (g : Nat) (p : Option Addr) (n cap : Nat) (x r : Int) (e4 e1 e2 ov dn : Bool) (w : World) (hx : Byte x)
    (c1 : w.cell? ⟨g, 1, none⟩ = some (.slice p n cap)) (c2 : w.cell? ⟨g, 2, none⟩ = some (.int .u8 x)) (c9 : w.cell? ⟨g, 9, none⟩ = some (.bool ov)) (c10 : w.cell? ⟨g, 10, none⟩ = some (.bool dn))
    (t4 : (bits .and .u8 x 4 != 0) = e4) (t1 : (bits .and .u8 x 1 != 0) = e1) (t2 : (bits .and .u8 x 2 != 0) = e2)
    (hp : (e4 = true ∧ ov = true ∧ r = 6) ∨ ((e4 = false ∨ e4 = true ∧ ov = false) ∧ ((e1 = true ∧ 0 < (n : Int) ∧ r = 4) ∨ ((e1 = false ∨ e1 = true ∧ ¬ 0 < (n : Int)) ∧ ((e2 = true ∧ dn = true ∧ r = 2) ∨ ((e2 = false ∨ e2 = true ∧ dn = false) ∧ r = 1)))))) :
    Calls Try.prog 29 #[.pointer (some ⟨g, 0, none⟩)] w fun e w' => e = .returned (.int .u8 r) ∧ w = w' := by
  rcases hp with ⟨rfl, rfl, rfl⟩ | ⟨rfl | ⟨rfl, rfl⟩, ⟨rfl, h, rfl⟩ | ⟨rfl | ⟨rfl, h⟩, ⟨rfl, rfl, rfl⟩ | ⟨rfl | ⟨rfl, rfl⟩, rfl⟩⟩⟩
  all_goals
    go_enter Try.func29, Try.ntmps29
    go_wp2
    go_ret
    exact ⟨rfl, rfl⟩
/-- a slice of so many bytes -/
def SlN (v : Value) (n : Nat) : Prop := ∃ p cap, v = .slice p n cap
theorem asks_any (g : Nat) (vs vq : Value) {u : St} (hu : u.OK) (w : World) (hq : SlN vq u.q.length) (hb : w.heap[g]? = some (.cells (clU vs vq u) 48)) : Calls Try.prog 29 #[.pointer (some ⟨g, 0, none⟩)] w fun e w' => e = .returned (.int .u8 u.asks) ∧ w = w' := by
  obtain ⟨p, cap, rfl⟩ := hq
  obtain ⟨t4, t1, t2, -⟩ := bit_of hu.ier
  have c1 : w.cell? ⟨g, 1, none⟩ = some (.slice p u.q.length cap) := by rw [blk_cell hb]; rfl
  have c2 : w.cell? ⟨g, 2, none⟩ = some (.int .u8 u.ier) := by rw [blk_cell hb]; rfl
  have c9 : w.cell? ⟨g, 9, none⟩ = some (.bool u.ov) := by rw [blk_cell hb]; rfl
  have c10 : w.cell? ⟨g, 10, none⟩ = some (.bool u.dn) := by rw [blk_cell hb]; rfl
  refine asks_w g p u.q.length cap u.ier u.asks _ _ _ u.ov u.dn w hu.ier c1 c2 c9 c10 t4 t1 t2 ?_
  have hlen : u.q ≠ [] ↔ 0 < (u.q.length : Int) := by cases u.q <;> simp <;> omega
  unfold St.asks
  by_cases h1 : (u.ier / 4 % 2 == 1) = true ∧ u.ov = true
  · rw [if_pos h1]; exact .inl ⟨h1.1, h1.2, rfl⟩
  rw [if_neg h1]
  have h1' : (u.ier / 4 % 2 == 1) = false ∨ (u.ier / 4 % 2 == 1) = true ∧ u.ov = false := by
    cases a : (u.ier / 4 % 2 == 1) <;> cases b : u.ov <;> simp_all
  refine .inr ⟨h1', ?_⟩
  by_cases h2 : (u.ier % 2 == 1) = true ∧ u.q ≠ []
  · rw [if_pos h2]; exact .inl ⟨h2.1, hlen.1 h2.2, rfl⟩
  rw [if_neg h2]
  have h2' : (u.ier % 2 == 1) = false ∨ (u.ier % 2 == 1) = true ∧ ¬ 0 < (u.q.length : Int) := by
    cases a : (u.ier % 2 == 1)
    · exact .inl rfl
    · exact .inr ⟨rfl, fun h => h2 ⟨a, hlen.2 h⟩⟩
  refine .inr ⟨h2', ?_⟩
  by_cases h3 : (u.ier / 2 % 2 == 1) = true ∧ u.dn = true
  · rw [if_pos h3]; exact .inl ⟨h3.1, h3.2, rfl⟩
  rw [if_neg h3]
  refine .inr ⟨?_, rfl⟩
  cases a : (u.ier / 2 % 2 == 1) <;> cases b : u.dn <;> simp_all
set_option maxRecDepth 100000 in
set_option maxHeartbeats 4000000 in
theorem latched_w (g : Nat) (x : Int) (b : Bool) (w : World) (c3 : w.cell? ⟨g, 3, none⟩ = some (.int .u8 x)) (t : (bits .and .u8 x 128 != 0) = b) : Calls Try.prog 35 #[.pointer (some ⟨g, 0, none⟩)] w fun e w' => e = .returned (.bool b) ∧ w = w' := by
  go_enter Try.func35, Try.ntmps35
  go_wp2
  go_ret
  exact ⟨rfl, rfl⟩
theorem latched_any (g : Nat) (vs vq : Value) {u : St} (hu : u.OK) (w : World) (hb : w.heap[g]? = some (.cells (clU vs vq u) 48)) : Calls Try.prog 35 #[.pointer (some ⟨g, 0, none⟩)] w fun e w' => e = .returned (.bool u.lat) ∧ w = w' :=
  latched_w g u.lcr u.lat w (by rw [blk_cell hb]; rfl) (bit_of hu.lcr).2.2.2.2.1
set_option maxRecDepth 100000 in
set_option maxHeartbeats 4000000 in
theorem one_any (b : Bool) (w : World) : Calls Try.prog 28 #[.bool b] w fun e w' => e = .returned (.int .u8 (b1 b)) ∧ w = w' := by
  cases b
  all_goals
    go_enter Try.func28, Try.ntmps28
    go_wp2
    go_ret
    exact ⟨rfl, rfl⟩
set_option maxRecDepth 100000 in
set_option maxHeartbeats 4000000 in
theorem receive_nil (g : Nat) (vs : Value) (p : Option Addr) (cap : Nat) (u : St) (w : World) (hb : w.heap[g]? = some (.cells (clU vs (.slice p 0 cap) u) 48)) : Calls Try.prog 36 #[.pointer (some ⟨g, 0, none⟩)] w fun e w' => e = .returned (.int .u8 0) ∧ w = w' := by
  have c1 : w.cell? ⟨g, 1, none⟩ = some (.slice p 0 cap) := by rw [blk_cell hb]; rfl
  replace hb := hid hb
  go_enter Try.func36, Try.ntmps36
  go_wp2
  go_ret
  exact ⟨rfl, rfl⟩
set_option maxRecDepth 100000 in
set_option maxHeartbeats 4000000 in
theorem receive_cons (g b o : Nat) (vs : Value) (k cap : Nat) (x : Int) (u : St) (w : World) (hc : k + 1 ≤ cap) (hm : cap ≤ maxLen) (hne : b ≠ g) (hx : w.cell? ⟨b, o, none⟩ = some (.int .u8 x)) (hb : w.heap[g]? = some (.cells (clU vs (.slice (some ⟨b, o, none⟩) (k + 1) cap) u) 48)) : Calls Try.prog 36 #[.pointer (some ⟨g, 0, none⟩)] w fun e w' => e = .returned (.int .u8 x) ∧ w'.heap[g]? = some (.cells (clU vs (.slice (some ⟨b, if cap = 1 then o else o + 1, none⟩) k (cap - 1)) u) 48) ∧ Fr [g] w w' := by
  have c1 : w.cell? ⟨g, 1, none⟩ = some (.slice (some ⟨b, o, none⟩) (k + 1) cap) := by rw [blk_cell hb]; rfl
  have f1 : w.frozen? ⟨g, 1, none⟩ = false := blk_free hb 1
  have HB := hid hb
  clear hb
  have hk0 : ¬ (((k + 1 : Nat) : Int) = 0) := by omega
  by_cases h1 : cap = 1
  · subst h1
    obtain rfl : k = 0 := by omega
    go_enter Try.func36, Try.ntmps36
    go_wp2
    go_ret
    exact ⟨rfl, blk_set HB.out 1 _, (Fr.refl _ _).setCell (.inl (by simp)) _⟩
  · go_enter Try.func36, Try.ntmps36
    go_wp2
    go_ret
    exact ⟨rfl, blk_set HB.out 1 _, (Fr.refl _ _).setCell (.inl (by simp)) _⟩
set_option maxRecDepth 100000 in
set_option maxHeartbeats 4000000 in
theorem identity_w (g : Nat) (vs vq : Value) (u : St) (a v : Int) (w : World) (hb : w.heap[g]? = some (.cells (clU vs vq u) 48)) (hv : bits .or .u8 a 192 = v) (h1 : Hid (∀ w1, w1 = w → Calls Try.prog 29 #[.pointer (some ⟨g, 0, none⟩)] w1 fun e w' => e = .returned (.int .u8 a) ∧ w1 = w')) :
    Calls Try.prog 37 #[.pointer (some ⟨g, 0, none⟩)] w fun e w' => e = .returned (.int .u8 (if u.en = true then v else a)) ∧ w'.heap[g]? = some (.cells (clU vs vq { u with dn := if a = 2 then false else u.dn }) 48) ∧ Fr [g] w w' := by
  obtain ⟨sent, q, ier, lcr, mcr, scr, dll, dlm, en, ov, dn⟩ := u
  have c8 : w.cell? ⟨g, 8, none⟩ = some (.bool en) := by rw [blk_cell hb]; rfl
  have c10 : w.cell? ⟨g, 10, none⟩ = some (.bool dn) := by rw [blk_cell hb]; rfl
  have f10 : w.frozen? ⟨g, 10, none⟩ = false := blk_free hb 10
  have HB := hid hb
  clear hb
  cases en
  all_goals
    by_cases t : a = 2
    · subst t
      go_enter Try.func37, Try.ntmps37
      go_wp2_with (go_at_call 29; (with_reducible refine (h1.out _ rfl).mono ?_); rintro e w1 ⟨rfl, rfl⟩)
      go_ret
      exact ⟨rfl, blk_set HB.out 10 _, (Fr.refl _ _).setCell (.inl (by simp)) _⟩
    · have t' : (a == 2) = false := by simpa using t
      go_enter Try.func37, Try.ntmps37
      go_wp2_with (go_at_call 29; (with_reducible refine (h1.out _ rfl).mono ?_); rintro e w1 ⟨rfl, rfl⟩)
      go_ret
      exact ⟨rfl, HB.out, Fr.refl _ _⟩
theorem or_192 {u : St} : bits .or .u8 u.asks 192 = u.asks + 192 := by
  rcases asks_of u with h | h | h | h <;> rw [h] <;> rfl
theorem identity_any (g : Nat) (vs vq : Value) {u : St} (hu : u.OK) (w : World) (hq : SlN vq u.q.length) (hb : w.heap[g]? = some (.cells (clU vs vq u) 48)) : Calls Try.prog 37 #[.pointer (some ⟨g, 0, none⟩)] w fun e w' => e = .returned (.int .u8 u.ident.1) ∧ w'.heap[g]? = some (.cells (clU vs vq u.ident.2) 48) ∧ Fr [g] w w' := by
  have := identity_w g vs vq u u.asks _ w hb or_192 (hid fun w1 h => by subst h; exact asks_any g vs vq hu w1 hq hb)
  refine this.mono fun e w' h => ⟨?_, h.2⟩
  rw [h.1]
  unfold St.ident
  cases u.en <;> simp
set_option maxRecDepth 100000 in
set_option maxHeartbeats 4000000 in
theorem state_w (g : Nat) (vs : Value) (p : Option Addr) (n cap : Nat) (u : St) (r : Int) (w : World) (hb : w.heap[g]? = some (.cells (clU vs (.slice p n cap) u) 48))
    (hp : 0 < (n : Int) ∧ u.ov = true ∧ r = 99 ∨ 0 < (n : Int) ∧ u.ov = false ∧ r = 97 ∨ ¬ 0 < (n : Int) ∧ u.ov = true ∧ r = 98 ∨ ¬ 0 < (n : Int) ∧ u.ov = false ∧ r = 96) :
    Calls Try.prog 38 #[.pointer (some ⟨g, 0, none⟩)] w fun e w' => e = .returned (.int .u8 r) ∧ w'.heap[g]? = some (.cells (clU vs (.slice p n cap) { u with ov := false }) 48) ∧ Fr [g] w w' := by
  obtain ⟨sent, q, ier, lcr, mcr, scr, dll, dlm, en, ov, dn⟩ := u
  simp only at hp
  have c1 : w.cell? ⟨g, 1, none⟩ = some (.slice p n cap) := by rw [blk_cell hb]; rfl
  have c9 : w.cell? ⟨g, 9, none⟩ = some (.bool ov) := by rw [blk_cell hb]; rfl
  have f9 : w.frozen? ⟨g, 9, none⟩ = false := blk_free hb 9
  have o1 : bits .or .u8 96 1 = 97 := rfl
  have o2 : bits .or .u8 96 2 = 98 := rfl
  have o3 : bits .or .u8 97 2 = 99 := rfl
  have HB := hid hb
  clear hb
  rcases hp with ⟨h, rfl, rfl⟩ | ⟨h, rfl, rfl⟩ | ⟨h, rfl, rfl⟩ | ⟨h, rfl, rfl⟩
  all_goals
    go_enter Try.func38, Try.ntmps38
    go_wp2
    go_ret
    exact ⟨rfl, blk_set HB.out 9 _, (Fr.refl _ _).setCell (.inl (by simp)) _⟩
theorem state_any (g : Nat) (vs vq : Value) {u : St} (w : World) (hq : SlN vq u.q.length) (hb : w.heap[g]? = some (.cells (clU vs vq u) 48)) : Calls Try.prog 38 #[.pointer (some ⟨g, 0, none⟩)] w fun e w' => e = .returned (.int .u8 u.status.1) ∧ w'.heap[g]? = some (.cells (clU vs vq u.status.2) 48) ∧ Fr [g] w w' := by
  obtain ⟨p, cap, rfl⟩ := hq
  refine state_w g vs p u.q.length cap u u.status.1 w hb ?_
  have hlen : u.q = [] ↔ ¬ 0 < (u.q.length : Int) := by cases u.q <;> simp <;> omega
  unfold St.status
  by_cases h : 0 < (u.q.length : Int)
  · have h' : ¬ u.q = [] := fun e => hlen.1 e h
    have h2 : 0 < u.q.length := by omega
    cases ho : u.ov <;> simp [h2, h']
  · have h' : u.q = [] := hlen.2 h
    cases ho : u.ov <;> simp [h']
set_option maxRecDepth 100000 in
set_option maxHeartbeats 4000000 in
theorem allow_w (g : Nat) (vs vq : Value) (u : St) (b v : Int) (eb ei d : Bool) (w : World) (hb0 : Byte b) (hb : w.heap[g]? = some (.cells (clU vs vq u) 48)) (t1 : (bits .and .u8 b 2 != 0) = eb) (t2 : (bits .and .u8 u.ier 2 == 0) = ei) (hv : bits .and .u8 b 15 = v) (hd : eb = false ∧ d = u.dn ∨ eb = true ∧ ei = false ∧ d = u.dn ∨ eb = true ∧ ei = true ∧ d = true) :
    Calls Try.prog 39 #[.pointer (some ⟨g, 0, none⟩), .int .u8 b] w fun e w' => e = .returned (.tuple #[]) ∧ w'.heap[g]? = some (.cells (clU vs vq { u with ier := v, dn := d }) 48) ∧ Fr [g] w w' := by
  obtain ⟨sent, q, ier, lcr, mcr, scr, dll, dlm, en, ov, dn⟩ := u
  simp only at t2 hd
  have c2 : w.cell? ⟨g, 2, none⟩ = some (.int .u8 ier) := by rw [blk_cell hb]; rfl
  have c10 : w.cell? ⟨g, 10, none⟩ = some (.bool dn) := by rw [blk_cell hb]; rfl
  have f2 : w.frozen? ⟨g, 2, none⟩ = false := blk_free hb 2
  have f10 : w.frozen? ⟨g, 10, none⟩ = false := blk_free hb 10
  have HB := hid hb
  clear hb
  rcases hd with ⟨rfl, rfl⟩ | ⟨rfl, rfl, rfl⟩ | ⟨rfl, rfl, rfl⟩
  · go_enter Try.func39, Try.ntmps39
    go_wp2
    go_end0
    exact ⟨rfl, blk_set HB.out 2 _, (Fr.refl _ _).setCell (.inl (by simp)) _⟩
  · go_enter Try.func39, Try.ntmps39
    go_wp2
    go_end0
    exact ⟨rfl, blk_set HB.out 2 _, (Fr.refl _ _).setCell (.inl (by simp)) _⟩
  · go_enter Try.func39, Try.ntmps39
    go_wp2
    go_end0
    exact ⟨rfl, blk_set (blk_set HB.out 10 _) 2 _, ((Fr.refl _ _).setCell (.inl (by simp)) _).setCell (.inl (by simp)) _⟩
theorem allow_any (g : Nat) (vs vq : Value) {u : St} (hu : u.OK) {b : Int} (hb0 : Byte b) (w : World) (hb : w.heap[g]? = some (.cells (clU vs vq u) 48)) : Calls Try.prog 39 #[.pointer (some ⟨g, 0, none⟩), .int .u8 b] w fun e w' => e = .returned (.tuple #[]) ∧ w'.heap[g]? = some (.cells (clU vs vq (u.allow b)) 48) ∧ Fr [g] w w' := by
  obtain ⟨-, -, t2, -, -, t15, -⟩ := bit_of hb0
  obtain ⟨-, -, -, i2, -⟩ := bit_of hu.ier
  refine allow_w g vs vq u b _ _ _ _ w hb0 hb t2 i2 t15 ?_
  cases (b / 2 % 2 == 1) <;> cases (u.ier / 2 % 2 == 1) <;> simp
set_option maxRecDepth 100000 in
set_option maxHeartbeats 4000000 in
theorem control_w (g : Nat) (vs vq : Value) (u : St) (b : Int) (e1 e2 : Bool) (w : World) (hb0 : Byte b) (hb : w.heap[g]? = some (.cells (clU vs vq u) 48)) (t1 : (bits .and .u8 b 1 != 0) = e1) (t2 : (bits .and .u8 b 2 != 0) = e2) :
    Calls Try.prog 40 #[.pointer (some ⟨g, 0, none⟩), .int .u8 b] w fun e w' => e = .returned (.tuple #[]) ∧ w'.heap[g]? = some (.cells (clU vs (if e2 = true then .slice none 0 0 else vq) { u with en := e1, q := if e2 = true then [] else u.q }) 48) ∧ Fr [g] w w' := by
  have c1 : w.cell? ⟨g, 1, none⟩ = some (vq) := by rw [blk_cell hb]; rfl
  have c8 : w.cell? ⟨g, 8, none⟩ = some (.bool u.en) := by rw [blk_cell hb]; rfl
  have f1 : w.frozen? ⟨g, 1, none⟩ = false := blk_free hb 1
  have f8 : w.frozen? ⟨g, 8, none⟩ = false := blk_free hb 8
  have HB := hid hb
  clear hb
  cases e2
  · go_enter Try.func40, Try.ntmps40
    go_wp2
    go_end0
    exact ⟨rfl, blk_set HB.out 8 _, (Fr.refl _ _).setCell (.inl (by simp)) _⟩
  · go_enter Try.func40, Try.ntmps40
    go_wp2
    go_end0
    exact ⟨rfl, blk_set (blk_set HB.out 8 _) 1 _, ((Fr.refl _ _).setCell (.inl (by simp)) _).setCell (.inl (by simp)) _⟩
theorem control_any (g : Nat) (vs vq : Value) {u : St} {b : Int} (hb0 : Byte b) (w : World) (hb : w.heap[g]? = some (.cells (clU vs vq u) 48)) : Calls Try.prog 40 #[.pointer (some ⟨g, 0, none⟩), .int .u8 b] w fun e w' => e = .returned (.tuple #[]) ∧ w'.heap[g]? = some (.cells (clU vs (if (b / 2 % 2 == 1) = true then .slice none 0 0 else vq) (u.control b)) 48) ∧ Fr [g] w w' := by
  obtain ⟨-, t1, t2, -⟩ := bit_of hb0
  exact control_w g vs vq u b _ _ w hb0 hb t1 t2
set_option maxRecDepth 100000 in
set_option maxHeartbeats 4000000 in
theorem may_any (g : Nat) (off width : Int) (w : World) (h0 : 0 ≤ off) (h1 : off < 18446744073709551616) : Calls Try.prog 24 #[.pointer (some ⟨g, 0, none⟩), .int .u64 off, .int .i64 width] w fun e w' => e = .returned (.bool (may off width)) ∧ w = w' := by
  unfold may
  by_cases h : off < 8
  · have h2 : decide (off < 8) = true := decide_eq_true h
    rw [h2, Bool.true_and]
    clear h2
    go_enter Try.func24, Try.ntmps24
    go_wp2
    go_ret
    exact ⟨rfl, rfl⟩
  · have h2 : decide (off < 8) = false := decide_eq_false h
    rw [h2, Bool.false_and]
    clear h2
    go_enter Try.func24, Try.ntmps24
    go_wp2
    go_ret
    exact ⟨rfl, rfl⟩
set_option maxRecDepth 100000 in
set_option maxHeartbeats 4000000 in
theorem may_nil (off width : Int) (w : World) : Calls Try.prog 24 #[.pointer none, .int .u64 off, .int .i64 width] w fun e w' => e = .returned (.bool false) ∧ w = w' := by
  go_enter Try.func24, Try.ntmps24
  go_wp2
  go_ret
  exact ⟨rfl, rfl⟩
end Go.Proofs.Ytobaniebnejjiaa.U
