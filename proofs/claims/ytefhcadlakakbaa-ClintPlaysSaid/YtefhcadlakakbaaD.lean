/- Contracts of a guest's timer: New, Read, Write, Tick, Bits. -/
import Derived.Test.YtefhcadlakakbaaC
namespace Go.Proofs.Ytefhcadlakakbaa
open Go.RowKit Go.Shelf
set_option linter.all false

/-- the block of a timer that holds these numbers -/
def clO (ms mc mt : Int) : Obj := .cells #[.int .u64 ms, .int .u64 mc, .int .u64 mt] 39
theorem new_any (w : World) : Calls Try.prog 8 #[] w fun e w' => e = .returned (.pointer (some ⟨w.heap.size, 0, none⟩)) ∧ w.alloc (clO 0 18446744073709551615 0) = w' := by
  go_enter Try.func8, Try.ntmps8
  go_wp2
  go_ret
  exact ⟨rfl, rfl⟩

theorem acc_is {b : Nat} {off wd : Int} {k : Nat} (h : acc off wd = some k) : k ≤ 2 ∧ hitB off wd k = true ∧ accC b off wd = fC b off (maskW wd) k := by
  have h0 := h
  unfold acc at h
  split at h
  · unfold fh at h
    have hm := List.mem_of_find?_eq_some h
    have hh := List.find?_some h
    refine ⟨?_, hh, by unfold accC; rw [h0]⟩
    simp at hm; omega
  · cases h
theorem accC_none {b : Nat} {off wd : Int} (h : acc off wd = none) : accC b off wd = zC := by unfold accC; rw [h]

def rgV (ms mc mt : Int) (k : Nat) : Int := if k = 0 then ms else if k = 1 then mc else mt
def rdV (x off wd : Int) (k : Nat) : Int := bits .and .u64 (x / 2 ^ (8 * (off - bs k)).toNat) (maskW wd)

set_option maxRecDepth 100000 in
set_option maxHeartbeats 2000000 in
theorem read_some (b o : Nat) (cs : Array Value) (p : Addr) (off wd B Z K sh M x : Int) (w : World)
    (hat : Hid (∀ w, Calls Try.prog 20 #[.pointer (some ⟨b, 0, none⟩), .int .u64 off, .int .i64 wd] w fun e W' => e = .returned (.tuple #[.agg #[.int .u64 B, .int .u64 Z, .int .u64 K, .pointer (some ⟨b, o, none⟩), .int .i64 sh, .int .u64 M], .bool true]) ∧ Fr [] w W'))
    (s0 : 0 ≤ sh) (s1 : sh < 64) (hb : w.heap[b]? = some (.cells cs 39)) (hx : cs[o]? = some (.int .u64 x)) :
    Calls Try.prog 10 #[.pointer (some ⟨b, 0, none⟩), .int .u64 off, .int .i64 wd] w fun e w' => e = .returned (.tuple #[.int .u64 (bits .and .u64 (x / 2 ^ sh.toNat) M), .bool true]) ∧ Fr [] w w' := by
  have HX := hid hx
  clear hx
  go_enter Try.func10, Try.ntmps10
  go_upto_region 4 with (go_at_call 20; ((with_reducible refine (hat.out _).mono ?_)); rintro e w1 ⟨rfl, hd⟩)
  have hb1 := hd.keeps hb (by simp)
  have hlt := lt_block hb1
  have hcx : (w1.alloc (.cells #[.int .u64 B, .int .u64 Z, .int .u64 K, .pointer (some ⟨b, o, none⟩), .int .i64 sh, .int .u64 M] 50)).cell? ⟨b, o, none⟩ = some (.int .u64 x) := by rw [blk_cell (blk_alloc hb1 _)]; exact HX.out
  clear hb hb1 hlt
  go_quiet (fail)
  go_wp2
  go_ret2
  exact ⟨rfl, (hd.alloc _).drewN _⟩
set_option maxRecDepth 100000 in
set_option maxHeartbeats 2000000 in
theorem read_none (p : Option Addr) (off wd : Int) (w : World)
    (hat : Hid (∀ w, Calls Try.prog 20 #[.pointer p, .int .u64 off, .int .i64 wd] w fun e W' => e = .returned (.tuple #[.agg zC, .bool false]) ∧ Fr [] w W')) :
    Calls Try.prog 10 #[.pointer p, .int .u64 off, .int .i64 wd] w fun e w' => e = .returned (.tuple #[.int .u64 0, .bool false]) ∧ Fr [] w w' := by
  unfold zC at hat
  go_enter Try.func10, Try.ntmps10
  go_wp2_with (go_at_call 20; ((with_reducible refine (hat.out _).mono ?_)); rintro e w1 ⟨rfl, hd⟩)
  go_ret2
  exact ⟨rfl, hd.alloc _⟩
end Go.Proofs.Ytefhcadlakakbaa
