/- The reference's timer, as twenty bytes: contracts. -/
import Derived.Test.YtefhcadlakakbaaJ
namespace Go.Proofs.Ytefhcadlakakbaa
open Go.RowKit Go.Shelf
set_option linter.all false

/-- the block of the reference's bytes -/
def rfO (bs : Nat → Int) : Obj := .cells (Array.ofFn (n := 20) fun i => .int .u8 (bs i)) 45
theorem rf_cell {w : World} {b : Nat} {bs : Nat → Int} (h : w.heap[b]? = some (rfO bs)) {i : Nat} (hi : i < 20) : w.cell? ⟨b, i, none⟩ = some (.int .u8 (bs i)) := by
  unfold rfO at h
  rw [blk_cell h]
  simp [hi]
def setB (bs : Nat → Int) (i : Nat) (v : Int) : Nat → Int := fun j => if j = i then v else bs j
theorem rf_set {w : World} {b : Nat} {bs : Nat → Int} (h : w.heap[b]? = some (rfO bs)) (i : Nat) (v : Int) : (w.setCell ⟨b, i, none⟩ (.int .u8 v)).heap[b]? = some (rfO (setB bs i v)) := by
  have hs : (Array.ofFn (n := 20) fun i => (Value.int .u8 (bs i))).setIfInBounds i (.int .u8 v) = Array.ofFn (n := 20) fun j => (Value.int .u8 (setB bs i v j)) := by
    apply Array.ext
    · simp
    · intro j h1 h2
      have h3 : j < 20 := by simpa using h2
      rw [Array.getElem_ofFn]
      by_cases e : i = j
      · subst e; simp [setB]
      · have : ¬ j = i := fun h => e h.symm
        rw [Array.getElem_setIfInBounds_ne (by simpa using h3) e, Array.getElem_ofFn]
        simp [setB, this]
  unfold rfO at h ⊢
  rw [blk_set h, hs]
theorem rf_free {w : World} {b : Nat} {bs : Nat → Int} (h : w.heap[b]? = some (rfO bs)) (i : Nat) : w.frozen? ⟨b, i, none⟩ = false := by unfold rfO at h; exact blk_free h i

/-- the number of n bytes from the place p on -/
def numb (bs : Nat → Int) : Nat → Nat → Int
  | _, 0 => 0
  | p, n + 1 => numb bs (p + 1) n * 256 + bs p
def IsB (bs : Nat → Int) : Prop := ∀ i, 0 ≤ bs i ∧ bs i < 256
theorem numb_bd {bs : Nat → Int} (h : IsB bs) : ∀ n p, 0 ≤ numb bs p n ∧ numb bs p n < 256 ^ n
  | 0, p => ⟨Int.le_refl _, show (0 : Int) < 1 by decide⟩
  | n + 1, p => by
    have h1 := numb_bd h n (p + 1)
    have h2 := h p
    simp only [numb]
    rw [Int.pow_succ]
    omega
theorem pow_le8 {n : Nat} (h : n ≤ 7) : (256 : Int) ^ n ≤ 72057594037927936 := by
  have : n = 0 ∨ n = 1 ∨ n = 2 ∨ n = 3 ∨ n = 4 ∨ n = 5 ∨ n = 6 ∨ n = 7 := by omega
  rcases this with rfl | rfl | rfl | rfl | rfl | rfl | rfl | rfl <;> decide

set_option maxRecDepth 100000 in
set_option maxHeartbeats 2000000 in
theorem number_any (b : Nat) (bs : Nat → Int) (p n : Nat) (w : World) (hb : w.heap[b]? = some (rfO bs)) (hB : IsB bs) (hp : p + n ≤ 20) (hn : n ≤ 8) :
    Calls Try.prog 22 #[.pointer (some ⟨b, 0, none⟩), .int .i64 p, .int .i64 n] w fun e w' => e = .returned (.int .u64 (numb bs p n)) ∧ w = w' := by
  have HB := hid hb
  clear hb
  go_enter Try.func22, Try.ntmps22
  have h0 : wrap64 ((n : Int) - 1) = (n : Int) - 1 := by unfold wrap64; omega
  go_wp2
  go_loop [7, 8] (fun x i => ∃ j : Nat, j ≤ n ∧ i = .int .i64 ((j : Int) - 1) ∧ x = .int .u64 (numb bs (p + j) (n - j))) (fun _ i => (intOf i + 1).toNat)
  case atStart => exact ⟨n, Nat.le_refl _, rfl, by rw [Nat.sub_self]; rfl⟩
  case round =>
    clear h0
    obtain ⟨j, hj, rfl, rfl⟩ := hrel
    cases j with
    | zero =>
      have ht : decide ((0 : Int) ≤ ((0 : Nat) : Int) - 1) = false := by decide
      go_wp2
      go_ret
      exact ⟨rfl, rfl⟩
    | succ k =>
      have e1 : ((k + 1 : Nat) : Int) - 1 = (k : Int) := by omega
      rw [e1]
      have hc := rf_cell HB.out (i := p + k) (by omega)
      have h1 : wrap64 ((p : Int) + (k : Int)) = ((p + k : Nat) : Int) := by unfold wrap64; omega
      have h2 : wrap64 ((k : Int) - 1) = (k : Int) - 1 := by unfold wrap64; omega
      have hi0 : (0 : Int) ≤ ((p + k : Nat) : Int) := by omega
      have hi1 : ((p + k : Nat) : Int) < 20 := by omega
      go_wp2
      go_round
      case rel =>
        refine ⟨k, by omega, rfl, ?_⟩
        have e2 : n - k = (n - (k + 1)) + 1 := by omega
        have hb1 := numb_bd hB (n - (k + 1)) (p + (k + 1))
        have hb2 := hB (p + k)
        have hp8 := pow_le8 (n := n - (k + 1)) (by omega)
        rw [e2]
        simp only [numb]
        rw [IntKind.wrap_u64, IntKind.wrap_u64, IntKind.wrap_u64, show p + k + 1 = p + (k + 1) from rfl]
        congr 1
        omega
      case measure => simp [intOf]

/-- n bytes of a number, put from the place p on -/
def putB (bs : Nat → Int) (p : Nat) : Nat → Int → Nat → Int
  | 0, _ => bs
  | n + 1, v => putB (setB bs p (v % 256)) (p + 1) n (v / 256)
def putJ (bs : Nat → Int) (p n : Nat) (v : Int) : Nat → Int := fun j => if p ≤ j ∧ j < p + n then v / 256 ^ (j - p) % 256 else bs j
theorem putJ_succ (bs : Nat → Int) (p k : Nat) (v : Int) : setB (putJ bs p k v) (p + k) (v / 256 ^ k % 256) = putJ bs p (k + 1) v := by
  funext j
  unfold setB putJ
  by_cases h : j = p + k
  · subst h
    rw [if_pos rfl, if_pos (by omega), show p + k - p = k by omega]
  · rw [if_neg h]
    by_cases h2 : p ≤ j ∧ j < p + k
    · rw [if_pos h2, if_pos (by omega)]
    · rw [if_neg h2, if_neg (by omega)]
theorem putJ_zero (bs : Nat → Int) (p : Nat) (v : Int) : putJ bs p 0 v = bs := by
  funext j; unfold putJ; rw [if_neg (by omega)]

set_option maxRecDepth 100000 in
set_option maxHeartbeats 2000000 in
theorem put_any (b : Nat) (bs : Nat → Int) (p n : Nat) (v : Int) (w : World) (hb : w.heap[b]? = some (rfO bs)) (v0 : 0 ≤ v) (v1 : v < 18446744073709551616) (hp : p + n ≤ 20) :
    Calls Try.prog 24 #[.pointer (some ⟨b, 0, none⟩), .int .i64 p, .int .i64 n, .int .u64 v] w fun e w' => e = .returned (.tuple #[]) ∧ w'.heap[b]? = some (rfO (putJ bs p n v)) ∧ Fr [b] w w' := by
  have HB := hid hb
  have HF := hid (Fr.refl [b] w)
  clear hb
  go_enter Try.func24, Try.ntmps24
  go_wp2
  go_loopw [3, 8] (fun x i wr => ∃ j : Nat, j ≤ n ∧ i = .int .i64 j ∧ x = .int .u64 (v / 256 ^ j) ∧ Hid (wr.heap[b]? = some (rfO (putJ bs p j v))) ∧ Hid (Fr [b] w wr)) (fun _ i _ => n - (intOf i).toNat)
  case atStart => exact ⟨0, Nat.zero_le _, rfl, by simp, by rw [putJ_zero]; exact HB.out, HF.out⟩
  case round =>
    clear HB HF
    obtain ⟨j, hj, rfl, rfl, HB, HF⟩ := hrel
    by_cases hlt : j < n
    · have hf := rf_free HB.out (p + j)
      have hc := rf_cell HB.out (i := p + j) (by omega)
      have h1 : wrap64 ((p : Int) + (j : Int)) = ((p + j : Nat) : Int) := by unfold wrap64; omega
      have hi0 : (0 : Int) ≤ ((p + j : Nat) : Int) := by omega
      have hi1 : ((p + j : Nat) : Int) < 20 := by omega
      go_wp2
      have hv : 0 ≤ v / 256 ^ j := Int.ediv_nonneg v0 (Int.le_of_lt (Int.pow_pos (by decide)))
      have hv2 : v / 256 ^ j ≤ v := Int.ediv_le_self _ v0
      have hm : ((v / 256 ^ j).tmod 256 % 256) = v / 256 ^ j % 256 := by rw [Int.tmod_eq_emod_of_nonneg hv]; omega
      have hq : IntKind.u64.wrap ((v / 256 ^ j).tdiv 256) = v / 256 ^ (j + 1) := by
        rw [Int.tdiv_eq_ediv_of_nonneg hv, IntKind.wrap_u64, Int.pow_succ, ← Int.ediv_ediv_of_nonneg (Int.le_of_lt (Int.pow_pos (by decide)))]
        omega
      go_roundw
      case rel =>
        refine ⟨j + 1, by omega, by simp, by rw [hq], ?_, ?_⟩
        · rw [hm, ← putJ_succ]; exact rf_set HB.out _ _
        · exact HF.out.setCell (.inl (by simp)) _
      case measure => simp [intOf]; omega
    · obtain rfl : j = n := by omega
      go_wp2
      go_end0
      exact ⟨rfl, HB.out, HF.out⟩
end Go.Proofs.Ytefhcadlakakbaa
