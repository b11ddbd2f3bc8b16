/- Contracts of the reference's watchdog, in words of its block of two cells. -/
import Derived.Test.YtpmbfngehmdfpaaD
namespace Go.Proofs.Ytpmbfngehmdfpaa
open Go.RowKit

def rdog (l x : Int) : Obj := .cells #[.int .u32 l, .int .u32 x] 40

set_option maxHeartbeats 400000 in
theorem rnew_any (n : Int) (w : World) :
    Calls Try.prog 12 #[.int .u32 n] w fun e w' => e = .returned (.pointer (some ⟨w.heap.size, 0, none⟩)) ∧ w.alloc (rdog n n) = w' := by
  go_enter Try.func12, Try.ntmps12
  go_wp2
  go_ret
  exact ⟨rfl, rfl⟩

set_option maxHeartbeats 400000 in
theorem rreset_cells (b : Nat) (l : Int) (c : Value) (w : World) (h0 : w.cell? ⟨b, 0, none⟩ = some (.int .u32 l)) (h1 : w.cell? ⟨b, 1, none⟩ = some c) (hf : w.frozen? ⟨b, 1, none⟩ = false) :
    Calls Try.prog 17 #[.pointer (some ⟨b, 0, none⟩)] w fun e w' => e = .returned (.tuple #[]) ∧ w.setCell ⟨b, 1, none⟩ (.int .u32 l) = w' := by
  go_enter Try.func17, Try.ntmps17
  go_wp2
  go_end0
  exact ⟨rfl, rfl⟩

theorem rreset_any (b : Nat) (w : World) (l x : Int) (hd : w.heap[b]? = some (rdog l x)) :
    Calls Try.prog 17 #[.pointer (some ⟨b, 0, none⟩)] w fun e w' => e = .returned (.tuple #[]) ∧ w'.heap[b]? = some (rdog l l) ∧ Fr [b] w w' :=
  (rreset_cells b l _ w (blk_cell hd 0) (blk_cell hd 1) (blk_free hd 1)).mono fun _ _ ⟨h, k⟩ => ⟨h, by subst k; exact blk_set hd 1 _, by subst k; exact (Fr.refl _ _).setCell (.inl (by simp)) _⟩

def rends (l x : Int) : Bool := !(l == 0) && !decide (0 < (x - 1) % 4294967296)
def rticked (l x : Int) : Int := if l = 0 then x else if 0 < (x - 1) % 4294967296 then (x - 1) % 4294967296 else l

set_option maxHeartbeats 400000 in
theorem rtick_any (b : Nat) (w : World) (l x : Int) (hd : w.heap[b]? = some (rdog l x)) :
    Calls Try.prog 18 #[.pointer (some ⟨b, 0, none⟩)] w fun e w' => e = .returned (.bool (rends l x)) ∧ w'.heap[b]? = some (rdog l (rticked l x)) ∧ Fr [b] w w' := by
  have hb := lt_block hd
  have h0 : w.cell? ⟨b, 0, none⟩ = some (.int .u32 l) := blk_cell hd 0
  have h1 : w.cell? ⟨b, 1, none⟩ = some (.int .u32 x) := blk_cell hd 1
  have hf := blk_free hd 1
  have H := hid hd
  clear hd
  by_cases hl : l = 0
  · subst hl
    have e1 : rends 0 x = false := rfl
    have e2 : rticked 0 x = x := rfl
    rw [e1, e2]
    clear e1 e2
    go_enter Try.func18, Try.ntmps18
    go_wp2
    go_ret
    exact ⟨rfl, H.out, Fr.refl _ _⟩
  · have hl' : (l == 0) = false := by simpa using hl
    by_cases hx : 0 < (x - 1) % 4294967296
    · have e1 : rends l x = false := by simp [rends, hl', hx]
      have e2 : rticked l x = (x - 1) % 4294967296 := by simp [rticked, hl, hx]
      rw [e1, e2]
      clear e1 e2 hl
      go_enter Try.func18, Try.ntmps18
      go_wp2
      go_ret
      exact ⟨rfl, blk_set H.out 1 _, (Fr.refl _ _).setCell (.inl (by simp)) _⟩
    · have e1 : rends l x = true := by simp [rends, hl']; omega
      have e2 : rticked l x = l := by simp [rticked, hl, hx]
      rw [e1, e2]
      clear e1 e2 hl
      go_enter Try.func18, Try.ntmps18
      go_wp2_with (go_at_call 17; refine (rreset_cells b l (.int .u32 ((x - 1) % 4294967296)) _ ?_ ?_ ?_).mono ?_; (go_simp); (go_simp); (go_simp); rintro e w' ⟨rfl, rfl⟩)
      go_ret
      exact ⟨rfl, blk_set (blk_set H.out 1 _) 1 _, ((Fr.refl _ _).setCell (.inl (by simp)) _).setCell (.inl (by simp)) _⟩

def rreg (l x : Int) (off : Int) : Int := if off = 8 then x else if off = 16 then l else 0
def rv (l x off width : Int) : Int := if isreg off width = true then rreg l x off else 0

set_option maxHeartbeats 2000000 in
theorem rread_any (b : Nat) (l x off width : Int) (w : World) (hl : 0 ≤ l) (hl2 : l < 4294967296) (hx : 0 ≤ x) (hx2 : x < 4294967296) (hd : w.heap[b]? = some (rdog l x)) :
    Calls Try.prog 14 #[.pointer (some ⟨b, 0, none⟩), .int .u64 off, .int .i64 width] w fun e w' => e = .returned (.tuple #[.int .u64 (rv l x off width), .bool (isreg off width)]) ∧ w = w' := by
  have hb := lt_block hd
  have h0 : w.cell? ⟨b, 0, none⟩ = some (.int .u32 l) := blk_cell hd 0
  have h1 : w.cell? ⟨b, 1, none⟩ = some (.int .u32 x) := blk_cell hd 1
  clear hd
  by_cases h4 : width = 4 ∨ width = 8
  · by_cases e0 : off = 0
    · subst e0
      rcases h4 with rfl | rfl
      all_goals
        go_enter Try.func14, Try.ntmps14
        go_wp2
        go_ret2
        exact ⟨ret_vb rfl rfl, rfl⟩
    by_cases e8 : off = 8
    · subst e8
      rcases h4 with rfl | rfl
      all_goals
        go_enter Try.func14, Try.ntmps14
        go_wp2
        go_ret2
        exact ⟨ret_vb (by simp [rv, rreg, isreg]) rfl, rfl⟩
    by_cases e16 : off = 16
    · subst e16
      rcases h4 with rfl | rfl
      all_goals
        go_enter Try.func14, Try.ntmps14
        go_wp2
        go_ret2
        exact ⟨ret_vb (by simp [rv, rreg, isreg]) rfl, rfl⟩
    · have n0 : (off == 0) = false := by simpa using e0
      have n8 : (off == 8) = false := by simpa using e8
      have n16 : (off == 16) = false := by simpa using e16
      rcases h4 with rfl | rfl
      all_goals
        go_enter Try.func14, Try.ntmps14
        go_wp2
        go_ret2
        exact ⟨ret_vb (by simp [rv, isreg, n0, n8, n16]) (by simp [isreg, n0, n8, n16]), rfl⟩
  · have n4 : (width != 4) = true := by simp; omega
    have n8 : (width != 8) = true := by simp; omega
    have m4 : (width == 4) = false := by simp; omega
    have m8 : (width == 8) = false := by simp; omega
    clear h4
    go_enter Try.func14, Try.ntmps14
    go_wp2
    go_ret2
    exact ⟨ret_vb (by simp [rv, isreg, m4, m8]) (by simp [isreg, m4, m8]), rfl⟩

def rwrote (l x off width : Int) : Int := if isreg off width = true ∧ off = 0 then l else x

set_option maxHeartbeats 2000000 in
theorem rwrite_any (b : Nat) (l x off width v : Int) (w : World) (hl : 0 ≤ l) (hl2 : l < 4294967296) (hx : 0 ≤ x) (hx2 : x < 4294967296) (hd : w.heap[b]? = some (rdog l x)) :
    Calls Try.prog 15 #[.pointer (some ⟨b, 0, none⟩), .int .u64 off, .int .i64 width, .int .u64 v] w fun e w' => e = .returned (.bool (isreg off width)) ∧ w'.heap[b]? = some (rdog l (rwrote l x off width)) ∧ Fr [b] w w' := by
  have h0 : w.cell? ⟨b, 0, none⟩ = some (.int .u32 l) := blk_cell hd 0
  have h1 : w.cell? ⟨b, 1, none⟩ = some (.int .u32 x) := blk_cell hd 1
  have hf := blk_free hd 1
  have H := hid hd
  clear hd
  by_cases hr : isreg off width = true
  · by_cases ho : (off == 0) = true
    · have e2 : rwrote l x off width = l := by simp at ho; subst ho; simp [rwrote, hr]
      rw [e2]
      clear e2
      go_enter Try.func15, Try.ntmps15
      go_wp2_with (first | (go_at_call 14; refine (rread_any b l x _ _ _ hl hl2 hx hx2 H.out).mono ?_; rintro e w' ⟨rfl, rfl⟩) | (go_at_call 17; refine (rreset_cells b l (.int .u32 x) _ h0 h1 hf).mono ?_; rintro e w' ⟨rfl, rfl⟩))
      go_ret
      exact ⟨ret_b hr.symm, blk_set H.out 1 _, (Fr.refl _ _).setCell (.inl (by simp)) _⟩
    · have ho : (off == 0) = false := by simpa using ho
      have e2 : rwrote l x off width = x := by simp at ho; simp [rwrote, ho]
      rw [e2]
      clear e2
      go_enter Try.func15, Try.ntmps15
      go_wp2_with (first | (go_at_call 14; refine (rread_any b l x _ _ _ hl hl2 hx hx2 H.out).mono ?_; rintro e w' ⟨rfl, rfl⟩))
      go_ret
      exact ⟨ret_b hr.symm, H.out, Fr.refl _ _⟩
  · have hr : isreg off width = false := by simpa using hr
    have e2 : rwrote l x off width = x := by simp [rwrote, hr]
    rw [e2]
    clear e2
    go_enter Try.func15, Try.ntmps15
    go_wp2_with (first | (go_at_call 14; refine (rread_any b l x _ _ _ hl hl2 hx hx2 H.out).mono ?_; rintro e w' ⟨rfl, rfl⟩))
    go_ret
    exact ⟨ret_b hr.symm, H.out, Fr.refl _ _⟩
end Go.Proofs.Ytpmbfngehmdfpaa
