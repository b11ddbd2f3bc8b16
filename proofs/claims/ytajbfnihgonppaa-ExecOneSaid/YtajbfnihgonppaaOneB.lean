/- An instruction and other registers as cells. -/
import Derived.Test.YtajbfnihgonppaaE6
import Derived.Test.YtajbfnihgonppaaMid
import Derived.Test.YtajbfnihgonppaaK3
namespace Go.Proofs.Ytajbfnihgonppaa.PA
open Go.RowKit Go.Proofs.Ytajbfnihgonppaa.Plain
set_option linter.all false
attribute [local go_sem ↓] eqg_24 eql_24
/-- an instruction and other registers -/
def OC (x : T7) (s : Nat → Int) : Array Value := IC x ++ regC s
theorem range_i {w : World} {g : Nat} {x : T7} {s : Nat → Int} (h : w.heap[g]? = some (.cells (OC x s) 29)) : w.rangeAt g 0 (IC x).toList := blk_range h 0 _ fun j v hj => by
  have hlt : j < (IC x).size := (Array.getElem?_eq_some_iff.1 hj).1
  rw [Nat.zero_add]
  unfold OC
  rw [Array.getElem?_append_left hlt]; exact hj
theorem range_r {w : World} {g : Nat} {x : T7} {s : Nat → Int} (h : w.heap[g]? = some (.cells (OC x s) 29)) : w.rangeAt g 7 (regC s).toList := blk_range h 7 _ fun j v hj => by
  unfold OC
  rw [Array.getElem?_append_right (by show 7 ≤ 7 + j; omega)]
  show (regC s)[7 + j - 7]? = _
  rw [Nat.add_sub_cancel_left]; exact hj
end Go.Proofs.Ytajbfnihgonppaa.PA
