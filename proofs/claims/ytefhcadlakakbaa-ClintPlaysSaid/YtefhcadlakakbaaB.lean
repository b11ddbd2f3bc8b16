/- Words for what an access of a timer is of. -/
import Derived.Test.YtefhcadlakakbaaA
import Derived.Test.YtefhcadlakakbaaBase
import Derived.RangeFuncFrom
import Derived.RangeFuncWrites
import Derived.RangeFuncBox
import Derived.BigGuardIn
import Derived.Stop.RegionWithIn
namespace Go.Proofs.Ytefhcadlakakbaa
open Go.RowKit Go.Shelf
set_option linter.all false

def bs (k : Nat) : Int := if k = 0 then 0 else if k = 1 then 16384 else 49144
def sz (k : Nat) : Int := if k = 0 then 4 else 8
def kp (k : Nat) : Int := if k = 0 then 1 else 18446744073709551615
/-- is an access of the k-th register? -/
def hitB (off wd : Int) (k : Nat) : Bool := decide (bs k ≤ off) && decide (off - bs k < sz k) && decide (off - bs k + wd ≤ sz k)
def fh (off wd : Int) : Option Nat := [0, 1, 2].find? (hitB off wd)
def zC : Array Value := #[.int .u64 0, .int .u64 0, .int .u64 0, .pointer none, .int .i64 0, .int .u64 0]
def fC (b : Nat) (off mask : Int) (k : Nat) : Array Value := rg b k ++ #[.int .i64 (8 * (off - bs k)), .int .u64 mask]
def resC (b : Nat) (off wd mask : Int) : Array Value := match fh off wd with | some k => fC b off mask k | none => zC
theorem rg_is (b x : Nat) : ∃ B Z K o, rg b x = #[.int .u64 B, .int .u64 Z, .int .u64 K, .pointer (some ⟨b, o, none⟩)] ∧ B = bs x ∧ Z = sz x ∧ K = kp x ∧ o = min x 2 ∧ 0 ≤ B ∧ B ≤ 49144 ∧ 4 ≤ Z ∧ Z ≤ 8 := by
  unfold rg bs sz kp
  by_cases h0 : x = 0
  · subst h0; exact ⟨_, _, _, _, rfl, rfl, rfl, rfl, rfl, by decide, by decide, by decide, by decide⟩
  · by_cases h1 : x = 1
    · subst h1; exact ⟨_, _, _, _, rfl, rfl, rfl, rfl, rfl, by decide, by decide, by decide, by decide⟩
    · simp only [h0, h1, if_false]
      exact ⟨_, _, _, 2, rfl, rfl, rfl, rfl, by omega, by decide, by decide, by decide, by decide⟩
theorem blk_own {β : Type} (B : Nat) (cs : Array Value) (t : TypeId) : Own (fun (_ : β) W => W.heap[B]? = some (.cells cs t)) := fun _ W W' row hs hg hr => by
  have hs : W.heap[B]? = some (.cells cs t) := hs
  have hlt := lt_of_block hs
  show W'.heap[B]? = some (.cells cs t)
  rw [hg.block B hlt (fun e => ?_)]
  · exact hs
  · obtain ⟨o, ho, hc⟩ := hr B e.symm
    rw [hs] at ho
    cases ho
    cases hc

/-- the boxes of 'at': the place, the width, the two results -/
structure St (w : World) (off wd : Int) (cs : Array Value) (is : Bool) (W : World) : Prop where
  b0 : W.heap[w.heap.size]? = some (.cells #[.int .u64 off] 28)
  b1 : W.heap[w.heap.size + 1]? = some (.cells #[.int .i64 wd] 3)
  b2 : W.heap[w.heap.size + 1 + 1]? = some (.cells cs 50)
  b3 : W.heap[w.heap.size + 1 + 1 + 1]? = some (.cells #[.bool is] 4)
theorem St.alloc {w W : World} {off wd : Int} {cs : Array Value} {is : Bool} (h : St w off wd cs is W) (o : Obj) : St w off wd cs is (W.alloc o) := ⟨blk_alloc h.b0 _, blk_alloc h.b1 _, blk_alloc h.b2 _, blk_alloc h.b3 _⟩
theorem St.lt {w W : World} {off wd : Int} {cs : Array Value} {is : Bool} (h : St w off wd cs is W) : w.heap.size + 3 < W.heap.size := lt_of_block h.b3
theorem St.c0 {w W : World} {off wd : Int} {cs : Array Value} {is : Bool} (h : St w off wd cs is W) : W.cell? ⟨w.heap.size, 0, none⟩ = some (.int .u64 off) := by rw [blk_cell h.b0]; rfl
theorem St.c1 {w W : World} {off wd : Int} {cs : Array Value} {is : Bool} (h : St w off wd cs is W) : W.cell? ⟨w.heap.size + 1, 0, none⟩ = some (.int .i64 wd) := by rw [blk_cell h.b1]; rfl
theorem st_own {β : Type} (w : World) (off wd : Int) (cs : Array Value) (is : Bool) : Own (fun (_ : β) W => St w off wd cs is W) := fun s W W' row hs hg hr =>
  ⟨blk_own _ _ _ s W W' row hs.b0 hg hr, blk_own _ _ _ s W W' row hs.b1 hg hr, blk_own _ _ _ s W W' row hs.b2 hg hr, blk_own _ _ _ s W W' row hs.b3 hg hr⟩
theorem bp_at (G : World → Prop) {F : Fence} {n : Nat} {P : Program} {fn : Func} {R : Ending → World → Prop} {e : Exit} {a : Act} {w : World} (hG : G w) (h : ∀ W, G W → bodyPostM F n P fn R e a W) : bodyPostM F n P fn R e a w := h w hG
theorem find_pre {p : Nat → Bool} {pre : List Nat} {k : Nat} : ∀ {l : List Nat}, pre ++ [k] <+: l → (∀ j ∈ pre, p j = false) → p k = true → l.find? p = some k := by
  intro l ⟨t, ht⟩ hp hk
  subst ht
  rw [List.find?_append, List.find?_append]
  have : pre.find? p = none := by
    rw [List.find?_eq_none]; intro j hj; rw [hp j hj]; decide
  rw [this]
  simp [hk]
end Go.Proofs.Ytefhcadlakakbaa
