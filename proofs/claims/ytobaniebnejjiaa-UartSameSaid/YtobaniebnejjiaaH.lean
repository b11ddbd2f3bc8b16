/- Several serial lines at once, and what calls do to them. -/
import Derived.Test.YtobaniebnejjiaaG
namespace Go.Proofs.Ytobaniebnejjiaa.U
open Go.RowKit
set_option linter.all false
def updS {α : Type} (u : Nat → α) (i : Nat) (x : α) : Nat → α := fun j => if j = i then x else u j
theorem updS_same {α : Type} (u : Nat → α) (i : Nat) (x : α) : updS u i x i = x := if_pos rfl
theorem updS_ne {α : Type} (u : Nat → α) {i j : Nat} (x : α) (h : j ≠ i) : updS u i x j = u j := if_neg h
/-- n lines, at blocks g, that have come since w0; apart from one another and from the blocks X -/
def Lines (w0 w : World) (X : List Nat) (n : Nat) (g : Nat → Nat) (u : Nat → St) : Prop :=
  ∃ T : Nat → List Nat, (∀ i, i < n → Line w (T i) (g i) (u i) ∧ (∀ k ∈ T i, w0.heap.size ≤ k) ∧ ∀ k ∈ T i, k ∉ X) ∧ (∀ i j, i < n → j < n → i ≠ j → ∀ k ∈ T i, k ∉ T j) ∧ (∀ x ∈ X, x < w.heap.size) ∧ Fr [] w0 w
/-- what a call leaves -/
def LP (w0 w w' : World) (X : List Nat) (n : Nat) (g : Nat → Nat) (u : Nat → St) : Prop := Lines w0 w' X n g u ∧ ∀ x ∈ X, w'.heap[x]? = w.heap[x]?
theorem Lines.fr {w0 w : World} {X : List Nat} {n : Nat} {g : Nat → Nat} {u : Nat → St} (h : Lines w0 w X n g u) : Fr [] w0 w := by obtain ⟨_, _, _, _, h⟩ := h; exact h
theorem lines_none (w0 w : World) (h : Fr [] w0 w) : Lines w0 w [] 0 (fun _ => 0) (fun _ => St.new) := ⟨fun _ => [], fun i hi => absurd hi (by omega), fun i j hi => absurd hi (by omega), by simp, h⟩
/-- worlds that grow, or change blocks of X -/
theorem Lines.step {w0 w w' : World} {X Y : List Nat} {n : Nat} {g : Nat → Nat} {u : Nat → St} (h : Lines w0 w X n g u) (hf : Fr Y w w') (hY : ∀ k ∈ Y, k ∈ X ∧ w0.heap.size ≤ k) : Lines w0 w' X n g u := by
  obtain ⟨T, h1, h2, h3, h4⟩ := h
  exact ⟨T, fun i hi => ⟨(h1 i hi).1.keep hf fun k hk hm => (h1 i hi).2.2 k hk (hY k hm).1, (h1 i hi).2.1, (h1 i hi).2.2⟩, h2, fun x hx => Nat.lt_of_lt_of_le (h3 x hx) hf.size, h4.step hf fun j hj => .inr (hY j hj).2⟩
theorem Lines.grow {w0 w w' : World} {X : List Nat} {n : Nat} {g : Nat → Nat} {u : Nat → St} (h : Lines w0 w X n g u) (hf : Fr [] w w') : Lines w0 w' X n g u := h.step hf (by simp)
/-- a block more that is none of the lines' -/
theorem Lines.other {w0 w : World} {X : List Nat} {n : Nat} {g : Nat → Nat} {u : Nat → St} (h : Lines w0 w X n g u) (o : Obj) : Lines w0 (w.alloc o) (w.heap.size :: X) n g u := by
  obtain ⟨T, h1, h2, h3, h4⟩ := h
  have hf : Fr [] w (w.alloc o) := (Fr.refl _ _).alloc _
  refine ⟨T, fun i hi => ⟨(h1 i hi).1.keep hf (by simp), (h1 i hi).2.1, fun k hk hm => ?_⟩, h2, fun x hx => ?_, h4.trans hf⟩
  · obtain ⟨vs, vq, -, -, -, -, -, -, hlt⟩ := (h1 i hi).1
    rcases List.mem_cons.1 hm with rfl | hm
    · have := hlt _ hk; omega
    · exact (h1 i hi).2.2 k hk hm
  · rcases List.mem_cons.1 hx with rfl | hx
    · simp
    · exact Nat.lt_of_lt_of_le (h3 x hx) hf.size
theorem lines_step {w0 w : World} {X : List Nat} {n : Nat} {g : Nat → Nat} {u : Nat → St} {i : Nat} {u' : St} {f : FuncId} {args : Array Value} {r : Ending} (hL : Lines w0 w X n g u) (hi : i < n)
    (hc : ∀ T, Line w T (g i) (u i) → Calls Try.prog f args w fun e w' => e = r ∧ ∃ T', Line w' T' (g i) u' ∧ Fr T w w' ∧ Grow T T' w) : Calls Try.prog f args w fun e w' => e = r ∧ LP w0 w w' X n g (updS u i u') := by
  obtain ⟨T, h1, h2, h3, h4⟩ := hL
  refine (hc (T i) (h1 i hi).1).mono fun e w' ⟨a, T', k1, k2, k3⟩ => ⟨a, ⟨updS T i T', fun j hj => ?_, fun j m hj hm hne k hk => ?_, fun x hx => Nat.lt_of_lt_of_le (h3 x hx) k2.size, h4.step k2 fun k hk => .inr ((h1 i hi).2.1 k hk)⟩, fun x hx => k2.block x (h3 x hx) fun hm => (h1 i hi).2.2 x hm hx⟩
  · by_cases e : j = i
    · subst e
      rw [updS_same, updS_same]
      refine ⟨k1, fun k hk => ?_, fun k hk hx => ?_⟩
      · rcases k3 k hk with h | h
        · exact (h1 j hj).2.1 k h
        · exact Nat.le_trans h4.size h
      · rcases k3 k hk with h | h
        · exact (h1 j hj).2.2 k h hx
        · have := h3 k hx; omega
    · rw [updS_ne T T' e, updS_ne u u' e]
      exact ⟨(h1 j hj).1.keep k2 fun k hk => h2 j i hj hi e k hk, (h1 j hj).2.1, (h1 j hj).2.2⟩
  · have lt : ∀ j, j < n → ∀ k ∈ T j, k < w.heap.size := fun j hj k hk => by obtain ⟨vs, vq, -, -, -, -, -, -, hlt⟩ := (h1 j hj).1; exact hlt k hk
    by_cases e : j = i
    · subst e
      rw [updS_same] at hk
      rw [updS_ne T T' (Ne.symm hne)]
      intro hk'
      rcases k3 k hk with h | h
      · exact h2 j m hj hm hne k h hk'
      · have := lt m hm k hk'; omega
    · rw [updS_ne T T' e] at hk
      by_cases e2 : m = i
      · subst e2
        rw [updS_same]
        intro hk'
        rcases k3 k hk' with h | h
        · exact h2 j m hj hm hne k hk h
        · have := lt j hj k hk; omega
      · rw [updS_ne T T' e2]
        exact h2 j m hj hm hne k hk
theorem ls_new {w0 w : World} {X : List Nat} {n : Nat} {g : Nat → Nat} {u : Nat → St} (hL : Lines w0 w X n g u) : Calls Try.prog 9 #[] w fun e w' => e = .returned (.pointer (some ⟨w.heap.size, 0, none⟩)) ∧ LP w0 w w' X (n + 1) (updS g n w.heap.size) (updS u n St.new) := by
  obtain ⟨T, h1, h2, h3, h4⟩ := hL
  have lt : ∀ j, j < n → ∀ k ∈ T j, k < w.heap.size := fun j hj k hk => by obtain ⟨vs, vq, -, -, -, -, -, -, hlt⟩ := (h1 j hj).1; exact hlt k hk
  refine (line_new w).mono fun e w' ⟨a, k1, k2⟩ => ⟨a, ⟨updS T n [w.heap.size], fun j hj => ?_, fun j m hj hm hne k hk => ?_, fun x hx => Nat.lt_of_lt_of_le (h3 x hx) k2.size, h4.trans k2⟩, fun x hx => k2.block x (h3 x hx) (by simp)⟩
  · by_cases e : j = n
    · subst e
      rw [updS_same, updS_same, updS_same]
      exact ⟨k1, fun k hk => by rw [List.mem_singleton.1 hk]; exact h4.size, fun k hk hx => by rw [List.mem_singleton.1 hk] at hx; have := h3 _ hx; omega⟩
    · have hj' : j < n := by omega
      rw [updS_ne T _ e, updS_ne g _ e, updS_ne u _ e]
      exact ⟨(h1 j hj').1.keep k2 (by simp), (h1 j hj').2.1, (h1 j hj').2.2⟩
  · by_cases e : j = n
    · subst e
      rw [updS_same, List.mem_singleton] at hk
      subst hk
      rw [updS_ne T _ (Ne.symm hne)]
      intro hk'
      have := lt m (by omega) _ hk'
      omega
    · have hj' : j < n := by omega
      rw [updS_ne T _ e] at hk
      by_cases e2 : m = n
      · subst e2
        rw [updS_same, List.mem_singleton]
        intro ek
        have := lt j hj' k hk
        omega
      · rw [updS_ne T _ e2]
        exact h2 j m hj' (by omega) hne k hk
theorem ls_Read {w0 w : World} {X : List Nat} {n : Nat} {g : Nat → Nat} {u : Nat → St} (hL : Lines w0 w X n g u) {i gi : Nat} (hi : i < n) (hg : g i = gi) (hu : (u i).OK) (width : Int) {off : Int} (h0 : 0 ≤ off) (h1 : off < 18446744073709551616) : Calls Try.prog 11 #[.pointer (some ⟨gi, 0, none⟩), .int .u64 off, .int .i64 width] w fun e w' => e = .returned (.tuple #[.int .u64 ((u i).Read off width).1, .bool ((u i).Read off width).2.1]) ∧ LP w0 w w' X n g (updS u i ((u i).Read off width).2.2) :=
  lines_step hL hi fun T hT => by subst hg; exact ((line_Read T (g i) hu h0 h1 w hT).mono fun _ _ ⟨a, b, c⟩ => ⟨a, T, b, c, Grow.refl _ _⟩)
theorem ls_Write {w0 w : World} {X : List Nat} {n : Nat} {g : Nat → Nat} {u : Nat → St} (hL : Lines w0 w X n g u) {i gi : Nat} (hi : i < n) (hg : g i = gi) (hu : (u i).OK) (width : Int) {v : Int} {off : Int} (h0 : 0 ≤ off) (h1 : off < 18446744073709551616) (v0 : 0 ≤ v) (v1 : v < 18446744073709551616) (hsl : (u i).sent.length ≤ 1000000) : Calls Try.prog 12 #[.pointer (some ⟨gi, 0, none⟩), .int .u64 off, .int .i64 width, .int .u64 v] w fun e w' => e = .returned (.bool ((u i).Write off width v).1) ∧ LP w0 w w' X n g (updS u i ((u i).Write off width v).2) :=
  lines_step hL hi fun T hT => by subst hg; exact line_Write T (g i) hu h0 h1 v0 v1 hsl w hT
theorem ls_Input {w0 w : World} {X : List Nat} {n : Nat} {g : Nat → Nat} {u : Nat → St} (hL : Lines w0 w X n g u) {i gi : Nat} (hi : i < n) (hg : g i = gi) (hu : (u i).OK) {b : Int} (hb0 : Byte b) : Calls Try.prog 13 #[.pointer (some ⟨gi, 0, none⟩), .int .u8 b] w fun e w' => e = .returned (.bool ((u i).Input b).1) ∧ LP w0 w w' X n g (updS u i ((u i).Input b).2) :=
  lines_step hL hi fun T hT => by subst hg; exact line_Input T (g i) hu hb0 w hT
theorem ls_Take {w0 w : World} {X : List Nat} {n : Nat} {g : Nat → Nat} {u : Nat → St} (hL : Lines w0 w X n g u) {i gi : Nat} (hi : i < n) (hg : g i = gi) (hu : (u i).OK)  : Calls Try.prog 14 #[.pointer (some ⟨gi, 0, none⟩)] w fun e w' => e = .returned (.string (strOfNums (u i).Take.1)) ∧ LP w0 w w' X n g (updS u i (u i).Take.2) :=
  lines_step hL hi fun T hT => by subst hg; exact ((line_Take T (g i) w hT).mono fun _ _ ⟨a, b, c⟩ => ⟨a, T, b, c, Grow.refl _ _⟩)
theorem ls_Level {w0 w : World} {X : List Nat} {n : Nat} {g : Nat → Nat} {u : Nat → St} (hL : Lines w0 w X n g u) {i gi : Nat} (hi : i < n) (hg : g i = gi) (hu : (u i).OK)  : Calls Try.prog 18 #[.pointer (some ⟨gi, 0, none⟩)] w fun e w' => e = .returned (.bool (u i).Level) ∧ LP w0 w w' X n g (updS u i (u i)) :=
  lines_step hL hi fun T hT => by subst hg; exact ((line_Level T (g i) hu w hT).mono fun _ _ ⟨a, b⟩ => by subst b; exact ⟨a, T, hT, Fr.refl _ _, Grow.refl _ _⟩)
theorem ls_Waiting {w0 w : World} {X : List Nat} {n : Nat} {g : Nat → Nat} {u : Nat → St} (hL : Lines w0 w X n g u) {i gi : Nat} (hi : i < n) (hg : g i = gi) (hu : (u i).OK)  : Calls Try.prog 10 #[.pointer (some ⟨gi, 0, none⟩)] w fun e w' => e = .returned (.int .i64 ((u i).q.length : Int)) ∧ LP w0 w w' X n g (updS u i (u i)) :=
  lines_step hL hi fun T hT => by subst hg; exact ((line_Waiting T (g i) w hT).mono fun _ _ ⟨a, b⟩ => by subst b; exact ⟨a, T, hT, Fr.refl _ _, Grow.refl _ _⟩)
theorem ls_Dump {w0 w : World} {X : List Nat} {n : Nat} {g : Nat → Nat} {u : Nat → St} (hL : Lines w0 w X n g u) {i gi : Nat} (hi : i < n) (hg : g i = gi) (hu : (u i).OK)  : Calls Try.prog 17 #[.pointer (some ⟨gi, 0, none⟩)] w fun e w' => e = .returned (.string (strOfNums (u i).Dump)) ∧ LP w0 w w' X n g (updS u i (u i)) :=
  lines_step hL hi fun T hT => by subst hg; exact ((line_Dump T (g i) hu w hT).mono fun _ _ ⟨a, b⟩ => ⟨a, T, hT.keep b (by simp), b.weaken (by simp), Grow.refl _ _⟩)
theorem ls_reads {w0 w : World} {X : List Nat} {n : Nat} {g : Nat → Nat} {u : Nat → St} (hL : Lines w0 w X n g u) {i gi : Nat} (hi : i < n) (hg : g i = gi) (hu : (u i).OK) (want : Int) {off : Int} (h0 : 0 ≤ off) (h1 : off < 18446744073709551616) : Calls Try.prog 23 #[.pointer (some ⟨gi, 0, none⟩), .int .u64 off, .int .u64 want] w fun e w' => e = .returned (.bool ((u i).reads off want)) ∧ LP w0 w w' X n g (updS u i ((u i).Read off 1).2.2) :=
  lines_step hL hi fun T hT => by subst hg; exact ((line_reads T (g i) hu want h0 h1 w hT).mono fun _ _ ⟨a, b, c⟩ => ⟨a, T, b, c, Grow.refl _ _⟩)
/-- an act of a line -/
def St.act (u : St) (what off v width : Int) : St := if what % 9 ≤ 2 then (u.Read off width).2.2 else if what % 9 ≤ 5 then (u.Write off width v).2 else if what % 9 ≤ 7 then (u.Input (v % 256)).2 else u.Take.2
def AC (what off v width : Int) : Array Value := #[.int .u8 what, .int .u64 off, .int .u64 v, .int .i64 width]
set_option maxRecDepth 100000 in
set_option maxHeartbeats 4000000 in
theorem does_0 (gi : Nat) (what off v width b : Int) (R : Value) (Q : World → Prop) (w : World) (k0 : 0 ≤ what) (k1 : what < 256) (v0 : 0 ≤ v) (v1 : v < 18446744073709551616) (hb : v % 256 = b) (hm : what % 9 = 0) (h2 : Hid (∀ w1, Fr [] w w1 → Calls Try.prog 11 #[.pointer (some ⟨gi, 0, none⟩), .int .u64 off, .int .i64 width] w1 fun e w' => e = .returned R ∧ Q w')) : Calls Try.prog 16 #[.pointer (some ⟨gi, 0, none⟩), .agg #[.int .u8 what, .int .u64 off, .int .u64 v, .int .i64 width]] w fun e w' => e = .returned (.tuple #[]) ∧ Q w' := by
  have hw : IntKind.u8.wrap v = b := by rw [← hb]; rfl
  have hf := hid (((Fr.refl [] w).alloc (.cells #[.int .u8 what, .int .u64 off, .int .u64 v, .int .i64 width] 28)))
  go_enter Try.func16, Try.ntmps16
  go_wp2_with (go_at_call 11; (with_reducible refine (h2.out _ hf.out).mono ?_); rintro e w1 ⟨rfl, hq⟩)
  go_end0
  exact ⟨rfl, hq⟩
set_option maxRecDepth 100000 in
set_option maxHeartbeats 4000000 in
theorem does_1 (gi : Nat) (what off v width b : Int) (R : Value) (Q : World → Prop) (w : World) (k0 : 0 ≤ what) (k1 : what < 256) (v0 : 0 ≤ v) (v1 : v < 18446744073709551616) (hb : v % 256 = b) (hm : what % 9 = 1) (h2 : Hid (∀ w1, Fr [] w w1 → Calls Try.prog 11 #[.pointer (some ⟨gi, 0, none⟩), .int .u64 off, .int .i64 width] w1 fun e w' => e = .returned R ∧ Q w')) : Calls Try.prog 16 #[.pointer (some ⟨gi, 0, none⟩), .agg #[.int .u8 what, .int .u64 off, .int .u64 v, .int .i64 width]] w fun e w' => e = .returned (.tuple #[]) ∧ Q w' := by
  have hw : IntKind.u8.wrap v = b := by rw [← hb]; rfl
  have hf := hid (((Fr.refl [] w).alloc (.cells #[.int .u8 what, .int .u64 off, .int .u64 v, .int .i64 width] 28)))
  go_enter Try.func16, Try.ntmps16
  go_wp2_with (go_at_call 11; (with_reducible refine (h2.out _ hf.out).mono ?_); rintro e w1 ⟨rfl, hq⟩)
  go_end0
  exact ⟨rfl, hq⟩
set_option maxRecDepth 100000 in
set_option maxHeartbeats 4000000 in
theorem does_2 (gi : Nat) (what off v width b : Int) (R : Value) (Q : World → Prop) (w : World) (k0 : 0 ≤ what) (k1 : what < 256) (v0 : 0 ≤ v) (v1 : v < 18446744073709551616) (hb : v % 256 = b) (hm : what % 9 = 2) (h2 : Hid (∀ w1, Fr [] w w1 → Calls Try.prog 11 #[.pointer (some ⟨gi, 0, none⟩), .int .u64 off, .int .i64 width] w1 fun e w' => e = .returned R ∧ Q w')) : Calls Try.prog 16 #[.pointer (some ⟨gi, 0, none⟩), .agg #[.int .u8 what, .int .u64 off, .int .u64 v, .int .i64 width]] w fun e w' => e = .returned (.tuple #[]) ∧ Q w' := by
  have hw : IntKind.u8.wrap v = b := by rw [← hb]; rfl
  have hf := hid (((Fr.refl [] w).alloc (.cells #[.int .u8 what, .int .u64 off, .int .u64 v, .int .i64 width] 28)))
  go_enter Try.func16, Try.ntmps16
  go_wp2_with (go_at_call 11; (with_reducible refine (h2.out _ hf.out).mono ?_); rintro e w1 ⟨rfl, hq⟩)
  go_end0
  exact ⟨rfl, hq⟩
set_option maxRecDepth 100000 in
set_option maxHeartbeats 4000000 in
theorem does_3 (gi : Nat) (what off v width b : Int) (R : Value) (Q : World → Prop) (w : World) (k0 : 0 ≤ what) (k1 : what < 256) (v0 : 0 ≤ v) (v1 : v < 18446744073709551616) (hb : v % 256 = b) (hm : what % 9 = 3) (h2 : Hid (∀ w1, Fr [] w w1 → Calls Try.prog 12 #[.pointer (some ⟨gi, 0, none⟩), .int .u64 off, .int .i64 width, .int .u64 v] w1 fun e w' => e = .returned R ∧ Q w')) : Calls Try.prog 16 #[.pointer (some ⟨gi, 0, none⟩), .agg #[.int .u8 what, .int .u64 off, .int .u64 v, .int .i64 width]] w fun e w' => e = .returned (.tuple #[]) ∧ Q w' := by
  have hw : IntKind.u8.wrap v = b := by rw [← hb]; rfl
  have hf := hid (((Fr.refl [] w).alloc (.cells #[.int .u8 what, .int .u64 off, .int .u64 v, .int .i64 width] 28)))
  go_enter Try.func16, Try.ntmps16
  go_wp2_with (go_at_call 12; (with_reducible refine (h2.out _ hf.out).mono ?_); rintro e w1 ⟨rfl, hq⟩)
  go_end0
  exact ⟨rfl, hq⟩
set_option maxRecDepth 100000 in
set_option maxHeartbeats 4000000 in
theorem does_4 (gi : Nat) (what off v width b : Int) (R : Value) (Q : World → Prop) (w : World) (k0 : 0 ≤ what) (k1 : what < 256) (v0 : 0 ≤ v) (v1 : v < 18446744073709551616) (hb : v % 256 = b) (hm : what % 9 = 4) (h2 : Hid (∀ w1, Fr [] w w1 → Calls Try.prog 12 #[.pointer (some ⟨gi, 0, none⟩), .int .u64 off, .int .i64 width, .int .u64 v] w1 fun e w' => e = .returned R ∧ Q w')) : Calls Try.prog 16 #[.pointer (some ⟨gi, 0, none⟩), .agg #[.int .u8 what, .int .u64 off, .int .u64 v, .int .i64 width]] w fun e w' => e = .returned (.tuple #[]) ∧ Q w' := by
  have hw : IntKind.u8.wrap v = b := by rw [← hb]; rfl
  have hf := hid (((Fr.refl [] w).alloc (.cells #[.int .u8 what, .int .u64 off, .int .u64 v, .int .i64 width] 28)))
  go_enter Try.func16, Try.ntmps16
  go_wp2_with (go_at_call 12; (with_reducible refine (h2.out _ hf.out).mono ?_); rintro e w1 ⟨rfl, hq⟩)
  go_end0
  exact ⟨rfl, hq⟩
set_option maxRecDepth 100000 in
set_option maxHeartbeats 4000000 in
theorem does_5 (gi : Nat) (what off v width b : Int) (R : Value) (Q : World → Prop) (w : World) (k0 : 0 ≤ what) (k1 : what < 256) (v0 : 0 ≤ v) (v1 : v < 18446744073709551616) (hb : v % 256 = b) (hm : what % 9 = 5) (h2 : Hid (∀ w1, Fr [] w w1 → Calls Try.prog 12 #[.pointer (some ⟨gi, 0, none⟩), .int .u64 off, .int .i64 width, .int .u64 v] w1 fun e w' => e = .returned R ∧ Q w')) : Calls Try.prog 16 #[.pointer (some ⟨gi, 0, none⟩), .agg #[.int .u8 what, .int .u64 off, .int .u64 v, .int .i64 width]] w fun e w' => e = .returned (.tuple #[]) ∧ Q w' := by
  have hw : IntKind.u8.wrap v = b := by rw [← hb]; rfl
  have hf := hid (((Fr.refl [] w).alloc (.cells #[.int .u8 what, .int .u64 off, .int .u64 v, .int .i64 width] 28)))
  go_enter Try.func16, Try.ntmps16
  go_wp2_with (go_at_call 12; (with_reducible refine (h2.out _ hf.out).mono ?_); rintro e w1 ⟨rfl, hq⟩)
  go_end0
  exact ⟨rfl, hq⟩
set_option maxRecDepth 100000 in
set_option maxHeartbeats 4000000 in
theorem does_6 (gi : Nat) (what off v width b : Int) (R : Value) (Q : World → Prop) (w : World) (k0 : 0 ≤ what) (k1 : what < 256) (v0 : 0 ≤ v) (v1 : v < 18446744073709551616) (hb : v % 256 = b) (hm : what % 9 = 6) (h2 : Hid (∀ w1, Fr [] w w1 → Calls Try.prog 13 #[.pointer (some ⟨gi, 0, none⟩), .int .u8 b] w1 fun e w' => e = .returned R ∧ Q w')) : Calls Try.prog 16 #[.pointer (some ⟨gi, 0, none⟩), .agg #[.int .u8 what, .int .u64 off, .int .u64 v, .int .i64 width]] w fun e w' => e = .returned (.tuple #[]) ∧ Q w' := by
  have hw : IntKind.u8.wrap v = b := by rw [← hb]; rfl
  have hf := hid (((Fr.refl [] w).alloc (.cells #[.int .u8 what, .int .u64 off, .int .u64 v, .int .i64 width] 28)))
  go_enter Try.func16, Try.ntmps16
  go_wp2_with (go_at_call 13; (with_reducible refine (h2.out _ hf.out).mono ?_); rintro e w1 ⟨rfl, hq⟩)
  go_end0
  exact ⟨rfl, hq⟩
set_option maxRecDepth 100000 in
set_option maxHeartbeats 4000000 in
theorem does_7 (gi : Nat) (what off v width b : Int) (R : Value) (Q : World → Prop) (w : World) (k0 : 0 ≤ what) (k1 : what < 256) (v0 : 0 ≤ v) (v1 : v < 18446744073709551616) (hb : v % 256 = b) (hm : what % 9 = 7) (h2 : Hid (∀ w1, Fr [] w w1 → Calls Try.prog 13 #[.pointer (some ⟨gi, 0, none⟩), .int .u8 b] w1 fun e w' => e = .returned R ∧ Q w')) : Calls Try.prog 16 #[.pointer (some ⟨gi, 0, none⟩), .agg #[.int .u8 what, .int .u64 off, .int .u64 v, .int .i64 width]] w fun e w' => e = .returned (.tuple #[]) ∧ Q w' := by
  have hw : IntKind.u8.wrap v = b := by rw [← hb]; rfl
  have hf := hid (((Fr.refl [] w).alloc (.cells #[.int .u8 what, .int .u64 off, .int .u64 v, .int .i64 width] 28)))
  go_enter Try.func16, Try.ntmps16
  go_wp2_with (go_at_call 13; (with_reducible refine (h2.out _ hf.out).mono ?_); rintro e w1 ⟨rfl, hq⟩)
  go_end0
  exact ⟨rfl, hq⟩
set_option maxRecDepth 100000 in
set_option maxHeartbeats 4000000 in
theorem does_8 (gi : Nat) (what off v width b : Int) (R : Value) (Q : World → Prop) (w : World) (k0 : 0 ≤ what) (k1 : what < 256) (v0 : 0 ≤ v) (v1 : v < 18446744073709551616) (hb : v % 256 = b) (hm : what % 9 = 8) (h2 : Hid (∀ w1, Fr [] w w1 → Calls Try.prog 14 #[.pointer (some ⟨gi, 0, none⟩)] w1 fun e w' => e = .returned R ∧ Q w')) : Calls Try.prog 16 #[.pointer (some ⟨gi, 0, none⟩), .agg #[.int .u8 what, .int .u64 off, .int .u64 v, .int .i64 width]] w fun e w' => e = .returned (.tuple #[]) ∧ Q w' := by
  have hw : IntKind.u8.wrap v = b := by rw [← hb]; rfl
  have hf := hid (((Fr.refl [] w).alloc (.cells #[.int .u8 what, .int .u64 off, .int .u64 v, .int .i64 width] 28)))
  go_enter Try.func16, Try.ntmps16
  go_wp2_with (go_at_call 14; (with_reducible refine (h2.out _ hf.out).mono ?_); rintro e w1 ⟨rfl, hq⟩)
  go_end0
  exact ⟨rfl, hq⟩
theorem ls_does {w0 w : World} {X : List Nat} {n : Nat} {g : Nat → Nat} {u : Nat → St} (hL : Lines w0 w X n g u) {i gi : Nat} (hi : i < n) (hg : g i = gi) (hu : (u i).OK) {what off v width : Int} (k0 : 0 ≤ what) (k1 : what < 256) (h0 : 0 ≤ off) (h1 : off < 18446744073709551616) (v0 : 0 ≤ v) (v1 : v < 18446744073709551616) (hsl : (u i).sent.length ≤ 1000000) :
    Calls Try.prog 16 #[.pointer (some ⟨gi, 0, none⟩), .agg #[.int .u8 what, .int .u64 off, .int .u64 v, .int .i64 width]] w fun e w' => e = .returned (.tuple #[]) ∧ LP w0 w w' X n g (updS u i ((u i).act what off v width)) := by
  have hbyte : Byte (v % 256) := by unfold Byte; omega
  have up : ∀ {w1 : World} {u2 : St} {f : FuncId} {args : Array Value} {r : Ending}, Fr [] w w1 → Calls Try.prog f args w1 (fun e w' => e = r ∧ LP w0 w1 w' X n g (updS u i u2)) → Calls Try.prog f args w1 (fun e w' => e = r ∧ LP w0 w w' X n g (updS u i u2)) := fun hf hc => hc.mono fun e w' ⟨a, b, c⟩ => ⟨a, b, fun x hx => (c x hx).trans (hf.block x (by obtain ⟨_, _, _, h3, _⟩ := hL; exact h3 x hx) (by simp))⟩
  have hcase : what % 9 = 0 ∨ what % 9 = 1 ∨ what % 9 = 2 ∨ what % 9 = 3 ∨ what % 9 = 4 ∨ what % 9 = 5 ∨ what % 9 = 6 ∨ what % 9 = 7 ∨ what % 9 = 8 := by omega
  unfold St.act
  rcases hcase with hm | hm | hm | hm | hm | hm | hm | hm | hm
  · rw [if_pos (by omega)]; exact does_0 gi what off v width (v % 256) _ _ w k0 k1 v0 v1 rfl hm (hid fun w1 hf => up hf (ls_Read (hL.grow hf) hi hg hu width h0 h1))
  · rw [if_pos (by omega)]; exact does_1 gi what off v width (v % 256) _ _ w k0 k1 v0 v1 rfl hm (hid fun w1 hf => up hf (ls_Read (hL.grow hf) hi hg hu width h0 h1))
  · rw [if_pos (by omega)]; exact does_2 gi what off v width (v % 256) _ _ w k0 k1 v0 v1 rfl hm (hid fun w1 hf => up hf (ls_Read (hL.grow hf) hi hg hu width h0 h1))
  · rw [if_neg (by omega), if_pos (by omega)]; exact does_3 gi what off v width (v % 256) _ _ w k0 k1 v0 v1 rfl hm (hid fun w1 hf => up hf (ls_Write (hL.grow hf) hi hg hu width h0 h1 v0 v1 hsl))
  · rw [if_neg (by omega), if_pos (by omega)]; exact does_4 gi what off v width (v % 256) _ _ w k0 k1 v0 v1 rfl hm (hid fun w1 hf => up hf (ls_Write (hL.grow hf) hi hg hu width h0 h1 v0 v1 hsl))
  · rw [if_neg (by omega), if_pos (by omega)]; exact does_5 gi what off v width (v % 256) _ _ w k0 k1 v0 v1 rfl hm (hid fun w1 hf => up hf (ls_Write (hL.grow hf) hi hg hu width h0 h1 v0 v1 hsl))
  · rw [if_neg (by omega), if_neg (by omega), if_pos (by omega)]; exact does_6 gi what off v width (v % 256) _ _ w k0 k1 v0 v1 rfl hm (hid fun w1 hf => up hf (ls_Input (hL.grow hf) hi hg hu hbyte))
  · rw [if_neg (by omega), if_neg (by omega), if_pos (by omega)]; exact does_7 gi what off v width (v % 256) _ _ w k0 k1 v0 v1 rfl hm (hid fun w1 hf => up hf (ls_Input (hL.grow hf) hi hg hu hbyte))
  · rw [if_neg (by omega), if_neg (by omega), if_neg (by omega)]; exact does_8 gi what off v width (v % 256) _ _ w k0 k1 v0 v1 rfl hm (hid fun w1 hf => up hf (ls_Take (hL.grow hf) hi hg hu))
theorem St.OK.act {u : St} (h : u.OK) (what off v width : Int) : (u.act what off v width).OK := by
  unfold St.act
  split
  · exact (h.Read off width).1
  split
  · exact h.Write off width v
  split
  · exact h.Input (by unfold Byte; omega)
  · exact h.Take
theorem sent_write (u : St) (off b : Int) : (u.write off b).sent.length ≤ u.sent.length + 1 := by
  unfold St.write
  split
  · split
    · simp
    · unfold St.send; simp
  split
  · split
    · simp
    · unfold St.allow; simp
  split
  · unfold St.control; simp
  split
  · simp
  split
  · simp
  split <;> simp
theorem sent_read (u : St) (off : Int) : (u.read off).2.sent = u.sent := by
  unfold St.read
  split
  · split
    · rfl
    · unfold St.first; split <;> rfl
  split
  · rfl
  split
  · rfl
  split
  · rfl
  split
  · rfl
  split
  · rfl
  split <;> rfl
theorem sent_Read (u : St) (off width : Int) : (u.Read off width).2.2.sent = u.sent := by
  unfold St.Read
  split
  · exact sent_read u off
  · rfl
theorem sent_Write (u : St) (off width v : Int) : (u.Write off width v).2.sent.length ≤ u.sent.length + 1 := by
  unfold St.Write
  split
  · exact sent_write u off _
  · simp
theorem sent_Input (u : St) (b : Int) : (u.Input b).2.sent = u.sent := by
  unfold St.Input
  split <;> rfl
theorem sent_act (u : St) (what off v width : Int) : (u.act what off v width).sent.length ≤ u.sent.length + 1 := by
  unfold St.act
  split
  · rw [sent_Read]; omega
  split
  · exact sent_Write u off width v
  split
  · rw [sent_Input]; omega
  · simp [St.Take]
end Go.Proofs.Ytobaniebnejjiaa.U
