/- Contracts of the calls of a watchdog, in words of its block of two cells. -/
import Derived.Test.YtpmbfngehmdfpaaB
namespace Go.Proofs.Ytpmbfngehmdfpaa
open Go.RowKit

def dog (l c : Int) : Obj := .cells #[.int .u32 l, .int .u32 c] 43

set_option maxHeartbeats 400000 in
theorem tick1_false (u : _) (p q : Addr) (w : World) (h : w.cell? p = some (.bool false)) :
    CallsD Try.prog 22 #[.pointer (some p), .pointer (some q)] u w fun e u' w' => u' = u ∧ (e = .returned (.tuple #[]) ∧ w = w') := by
  go_enter_d Try.func22, Try.ntmps22
  go_wp2
  go_end0
  exact ⟨rfl, rfl⟩

set_option maxHeartbeats 400000 in
theorem tick1_true (u : _) (p q : Addr) (b : Nat) (c : Value) (w : World) (h : w.cell? p = some (.bool true)) (h2 : w.cell? q = some (.pointer (some ⟨b, 0, none⟩))) (h1 : w.cell? ⟨b, 1, none⟩ = some c) (hf : w.frozen? ⟨b, 1, none⟩ = false) :
    CallsD Try.prog 22 #[.pointer (some p), .pointer (some q)] u w fun e u' w' => u' = u ∧ (e = .returned (.tuple #[]) ∧ w.setCell ⟨b, 1, none⟩ (.int .u32 0) = w') := by
  go_enter_d Try.func22, Try.ntmps22
  go_wp2_with (go_at_call 16; refine (reset_some b c _ h1 hf).mono ?_; rintro e w' ⟨rfl, rfl⟩)
  go_end0
  exact ⟨rfl, rfl⟩

set_option maxHeartbeats 400000 in
theorem tick_off (b : Nat) (w : World) (c : Int) (hd : w.heap[b]? = some (dog 0 c)) :
    Calls Try.prog 10 #[.pointer (some ⟨b, 0, none⟩)] w fun e w' => e = .returned (.bool false) ∧ w'.heap[b]? = some (dog 0 c) ∧ Fr [b] w w' := by
  have hmf : ∀ (fn : Fn) (first cap : Array Value) (w : World), (Instr.makeFunc fn first cap).run Try.prog w = .ok (.func fn first cap) w := fun _ _ _ _ => rfl
  have hb := lt_block hd
  have h0 : w.cell? ⟨b, 0, none⟩ = some (.int .u32 0) := blk_cell hd 0
  have H := hid hd
  clear hd
  go_enter_defers Try.func10, Try.ntmps10
  go_wp2
  simp [bodyPostD, Leaves, results, Try.results10, go_sem]
  exact ⟨blk_alloc (blk_alloc H.out _) _, ((Fr.refl _ _).alloc _).alloc _⟩

/-- the count behind a tick -/
def ticked (l c : Int) : Int := if l = 0 then c else if (c + 1) % 4294967296 ≥ l then 0 else (c + 1) % 4294967296
def ends (l c : Int) : Bool := !(l == 0) && decide ((c + 1) % 4294967296 ≥ l)

theorem ret_b {a b : Bool} (h : a = b) : Ending.returned (.bool a) = .returned (.bool b) := by rw [h]

set_option maxHeartbeats 400000 in
theorem tick_on (b : Nat) (w : World) (l c : Int) (hl : (l == 0) = false) (hd : w.heap[b]? = some (dog l c)) :
    Calls Try.prog 10 #[.pointer (some ⟨b, 0, none⟩)] w fun e w' => e = .returned (.bool (ends l c)) ∧ w'.heap[b]? = some (dog l (ticked l c)) ∧ Fr [b] w w' := by
  have hmf : ∀ (fn : Fn) (first cap : Array Value) (w : World), (Instr.makeFunc fn first cap).run Try.prog w = .ok (.func fn first cap) w := fun _ _ _ _ => rfl
  have hb := lt_block hd
  have h0 : w.cell? ⟨b, 0, none⟩ = some (.int .u32 l) := blk_cell hd 0
  have h1 : w.cell? ⟨b, 1, none⟩ = some (.int .u32 c) := blk_cell hd 1
  have hf := blk_free hd 1
  have H := hid hd
  clear hd
  by_cases ht : (c + 1) % 4294967296 ≥ l
  · have e1 : ends l c = true := by simp [ends, hl, ht]
    have e2 : ticked l c = 0 := by simp at hl; simp [ticked, hl, ht]
    rw [e1, e2]
    clear e1 e2
    go_enter_defers Try.func10, Try.ntmps10
    go_wp2
    go_region
    go_wp2
    refine leaves_cons (f := 22) (args := #[.pointer (some ⟨w.heap.size + 1, 0, none⟩), .pointer (some ⟨w.heap.size, 0, none⟩)]) (by simp) (by simp [go_sem]) ?_
    refine (tick1_true .returning _ _ b (.int .u32 ((c + 1) % 4294967296)) _ ?_ ?_ ?_ ?_).mono ?_
    · go_simp
    · go_simp
    · go_simp
    · go_simp
    rintro e u' w'' ⟨rfl, rfl, rfl⟩
    simp [Leaves, settle, results, Try.results10, go_sem]
    exact ⟨blk_set (blk_alloc (blk_alloc (blk_set H.out 1 _) _) _) 1 _, Fr.drew (((((Fr.refl _ _).setCell (.inl (by simp)) _).alloc _).alloc _).setCell (.inl (by simp)) _)⟩
  · have e1 : ends l c = false := by simp [ends, hl, ht]
    have e2 : ticked l c = (c + 1) % 4294967296 := by simp at hl; simp [ticked, hl, ht]
    rw [e1, e2]
    clear e1 e2
    go_enter_defers Try.func10, Try.ntmps10
    go_wp2
    go_region
    go_wp2
    refine leaves_cons (f := 22) (args := #[.pointer (some ⟨w.heap.size + 1, 0, none⟩), .pointer (some ⟨w.heap.size, 0, none⟩)]) (by simp) (by simp [go_sem]) ?_
    refine (tick1_false .returning _ _ _ ?_).mono ?_
    · go_simp
    rintro e u' w'' ⟨rfl, rfl, rfl⟩
    simp [Leaves, settle, results, Try.results10, go_sem]
    exact ⟨by omega, blk_alloc (blk_alloc (blk_set H.out 1 _) _) _, Fr.drew ((((Fr.refl _ _).setCell (.inl (by simp)) _).alloc _).alloc _)⟩

theorem tick_any (b : Nat) (w : World) (l c : Int) (hd : w.heap[b]? = some (dog l c)) :
    Calls Try.prog 10 #[.pointer (some ⟨b, 0, none⟩)] w fun e w' => e = .returned (.bool (ends l c)) ∧ w'.heap[b]? = some (dog l (ticked l c)) ∧ Fr [b] w w' := by
  by_cases hl : l = 0
  · subst hl
    exact (tick_off b w c hd).mono fun e w' h => h
  · exact tick_on b w l c (by simpa using hl) hd

set_option maxHeartbeats 400000 in
theorem tick_nil (w : World) :
    Calls Try.prog 10 #[.pointer none] w fun e w' => e = .returned (.bool false) ∧ Fr [] w w' := by
  have hmf : ∀ (fn : Fn) (first cap : Array Value) (w : World), (Instr.makeFunc fn first cap).run Try.prog w = .ok (.func fn first cap) w := fun _ _ _ _ => rfl
  go_enter_defers Try.func10, Try.ntmps10
  go_wp2
  simp [bodyPostD, Leaves, results, Try.results10, go_sem]
  exact ((Fr.refl _ _).alloc _).alloc _

theorem left_any (b : Nat) (w : World) (l c : Int) (hd : w.heap[b]? = some (dog l c)) :
    Calls Try.prog 11 #[.pointer (some ⟨b, 0, none⟩)] w fun e w' => e = .returned (.int .u32 ((l - c) % 4294967296)) ∧ w = w' :=
  (left_some b l c w (blk_cell hd 0) (blk_cell hd 1)).mono fun e w' h => ⟨h.1.trans (by simp [IntKind.wrap]; rfl), h.2⟩
theorem limit_any (b : Nat) (w : World) (l c : Int) (hd : w.heap[b]? = some (dog l c)) :
    Calls Try.prog 19 #[.pointer (some ⟨b, 0, none⟩)] w fun e w' => e = .returned (.int .u32 l) ∧ w = w' := limit_some b l w (blk_cell hd 0)
theorem reset_any (b : Nat) (w : World) (l c : Int) (hd : w.heap[b]? = some (dog l c)) :
    Calls Try.prog 16 #[.pointer (some ⟨b, 0, none⟩)] w fun e w' => e = .returned (.tuple #[]) ∧ w'.heap[b]? = some (dog l 0) ∧ Fr [b] w w' :=
  (reset_some b _ w (blk_cell hd 1) (blk_free hd 1)).mono fun _ _ ⟨h, k⟩ => ⟨h, by subst k; exact blk_set hd 1 _, by subst k; exact (Fr.refl _ _).setCell (.inl (by simp)) _⟩

theorem new_dog (n : Int) (w : World) :
    Calls Try.prog 8 #[.int .u32 n] w fun e w' => e = .returned (.pointer (some ⟨w.heap.size, 0, none⟩)) ∧ w'.heap[w.heap.size]? = some (dog n 0) ∧ w.heap.size < w'.heap.size ∧ Fr [] w w' :=
  (new_any n w).mono fun _ _ ⟨h, k⟩ => ⟨h, by subst k; exact blk_new _ _, by subst k; simp, by subst k; exact (Fr.refl _ _).alloc _⟩

set_option maxHeartbeats 400000 in
theorem read_any (b : Nat) (l c off width : Int) (w : World) (hl : 0 ≤ l) (hl2 : l < 4294967296) (hd : w.heap[b]? = some (dog l c)) :
    Calls Try.prog 13 #[.pointer (some ⟨b, 0, none⟩), .int .u64 off, .int .i64 width] w fun e w' => e = .returned (.tuple #[.int .u64 (atv l c off width), .bool (isreg off width)]) ∧ Fr [] w w' := by
  have hb := lt_block hd
  have h0 : w.cell? ⟨b, 0, none⟩ = some (.int .u32 l) := blk_cell hd 0
  have h1 : w.cell? ⟨b, 1, none⟩ = some (.int .u32 c) := blk_cell hd 1
  clear hd
  go_enter Try.func13, Try.ntmps13
  go_wp2_with (go_at_call 21; refine (at_some b l c _ _ _ hl hl2 hb h0 h1).mono ?_; rintro e w' ⟨rfl, rfl⟩)
  go_ret2
  exact ⟨rfl, (Fr.refl _ _).alloc _⟩

set_option maxHeartbeats 400000 in
theorem read_nil (off width : Int) (w : World) :
    Calls Try.prog 13 #[.pointer none, .int .u64 off, .int .i64 width] w fun e w' => e = .returned (.tuple #[.int .u64 0, .bool false]) ∧ Fr [] w w' := by
  go_enter Try.func13, Try.ntmps13
  go_wp2_with (go_at_call 21; refine (at_nil _ _ _).mono ?_; rintro e w' ⟨rfl, rfl⟩)
  go_ret2
  exact ⟨rfl, (Fr.refl _ _).alloc _⟩

/-- the count behind a write -/
def wrote (c off width : Int) : Int := if isreg off width = true ∧ off = 0 then 0 else c

set_option maxHeartbeats 400000 in
theorem write_any (b : Nat) (l c off width v : Int) (w : World) (hl : 0 ≤ l) (hl2 : l < 4294967296) (hd : w.heap[b]? = some (dog l c)) :
    Calls Try.prog 9 #[.pointer (some ⟨b, 0, none⟩), .int .u64 off, .int .i64 width, .int .u64 v] w fun e w' => e = .returned (.bool (isreg off width)) ∧ w'.heap[b]? = some (dog l (wrote c off width)) ∧ Fr [b] w w' := by
  have hb := lt_block hd
  have h0 : w.cell? ⟨b, 0, none⟩ = some (.int .u32 l) := blk_cell hd 0
  have h1 : w.cell? ⟨b, 1, none⟩ = some (.int .u32 c) := blk_cell hd 1
  have hf := blk_free hd 1
  have H := hid hd
  clear hd
  by_cases hr : isreg off width = true
  · by_cases ho : (off == 0) = true
    · have e2 : wrote c off width = 0 := by simp at ho; subst ho; simp [wrote, hr]
      rw [e2]
      clear e2
      go_enter Try.func9, Try.ntmps9
      go_wp2_with (first | (go_at_call 21; refine (at_some b l c _ _ _ hl hl2 hb h0 h1).mono ?_; rintro e w' ⟨rfl, rfl⟩) | (go_at_call 16; refine (reset_some b (.int .u32 c) _ ?_ ?_).mono ?_; (go_simp); (go_simp); rintro e w' ⟨rfl, rfl⟩))
      go_ret
      exact ⟨ret_b hr.symm, blk_alloc (blk_set H.out 1 _) _, ((Fr.refl _ _).setCell (.inl (by simp)) _).alloc _⟩
    · have ho : (off == 0) = false := by simpa using ho
      have e2 : wrote c off width = c := by simp at ho; simp [wrote, ho]
      rw [e2]
      clear e2
      go_enter Try.func9, Try.ntmps9
      go_wp2_with (first | (go_at_call 21; refine (at_some b l c _ _ _ hl hl2 hb h0 h1).mono ?_; rintro e w' ⟨rfl, rfl⟩))
      go_ret
      exact ⟨ret_b hr.symm, blk_alloc H.out _, (Fr.refl _ _).alloc _⟩
  · have hr : isreg off width = false := by simpa using hr
    have e2 : wrote c off width = c := by simp [wrote, hr]
    rw [e2]
    clear e2
    go_enter Try.func9, Try.ntmps9
    go_wp2_with (first | (go_at_call 21; refine (at_some b l c _ _ _ hl hl2 hb h0 h1).mono ?_; rintro e w' ⟨rfl, rfl⟩))
    go_ret
    exact ⟨ret_b hr.symm, blk_alloc H.out _, (Fr.refl _ _).alloc _⟩

set_option maxHeartbeats 400000 in
theorem write_nil (off width v : Int) (w : World) :
    Calls Try.prog 9 #[.pointer none, .int .u64 off, .int .i64 width, .int .u64 v] w fun e w' => e = .returned (.bool false) ∧ Fr [] w w' := by
  go_enter Try.func9, Try.ntmps9
  go_wp2_with (first | (go_at_call 21; refine (at_nil _ _ _).mono ?_; rintro e w' ⟨rfl, rfl⟩))
  go_ret
  exact ⟨rfl, (Fr.refl _ _).alloc _⟩
end Go.Proofs.Ytpmbfngehmdfpaa
