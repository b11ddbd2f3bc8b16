/-
  No cell of these rows narrows 'for every input' (looked for: loops, veiled, ifaces, maps, wideKeys, modest, calm, conditions, laid).
  DERIVED. THE GIVEN ROWS OF THIS SEAT. 5 by the template 'for every input the law returns true; each argument reads behind the call as it read before'; 0 by the template 'total and deterministic' (their statements: YtobaniebnejjiaaTotals.lean).
  GIVEN WITH THE SEED: the statements are not yours to turn. If you find one false, say at which input.
  Laid BY PROGRAM, IN A SANDBOX (cutbox-rows.mjs): the forced cells as the released guide's own fill.sh prints them over the translation 70b7dd4dd261031c… (all of the seat's roots in one cut). By AI agents, Wed Nov 11 2026. No macro, syntax, notation, axiom, sorry.
-/
import Derived.Test.YtobaniebnejjiaaChecked
import GoSem.Claim
import GoSem.ClaimJoined
import GoSem.ClaimMapViews
import Derived.JoinedTies
import Derived.KernelRfl
namespace Go.Proofs.Ytobaniebnejjiaa
/- THE CELL 'sum', in the pinned program and in every row, IS THE sha256 OF THE DUMP (.gsa) THAT YtobaniebnejjiaaProg.lean LOADS. Nothing in Lean hashes anything: it is a label: what it is worth is what the hold of that sum in a sandbox is worth. -/
noncomputable def Try.pinned : Pinned := { name := "ytobaniebnejjiaa", sum := "70b7dd4dd261031cbef488fd9f2e2a2efc4d1431ef7cba089080661deda742c2", checked := Try.checked }
namespace Rows
def none {H : Type} : Left H := { results := [], args := [] }

/-- 'almonrylaw15.UartOrder': WHATEVER THE INPUT: true; the input reads as it did. -/
def uartOrderSpec : ChangeSpec := { name := "uartOrder", fn := fun _ => fun
  | [d] => { results := [.lit (.bool true)], args := [d] }
  | _ => none }
def uartOrderRow : OpenClaim := { program := "ytobaniebnejjiaa", sum := "70b7dd4dd261031cbef488fd9f2e2a2efc4d1431ef7cba089080661deda742c2", func := "almonry/almonrylaw15.UartOrder", spec := "uartOrder", apart := false }
def UartOrderSaid : Prop := uartOrderRow.holds Try.pinned (OpenSpec.ofChange uartOrderSpec)

/-- ITS FALSE NEIGHBOUR: 'it returns false'. Refute it at one input. -/
def uartOrderWrong : ChangeSpec := { name := "uartOrder", fn := fun _ => fun
  | [d] => { results := [.lit (.bool false)], args := [d] }
  | _ => none }
def UartOrderWrongFalsely : Prop := uartOrderRow.holds Try.pinned (OpenSpec.ofChange uartOrderWrong)

/-- 'almonrylaw15.UartSame': WHATEVER THE INPUT: true; the input reads as it did. -/
def uartSameSpec : ChangeSpec := { name := "uartSame", fn := fun _ => fun
  | [d1, d2, d3] => { results := [.lit (.bool true)], args := [d1, d2, d3] }
  | _ => none }
def uartSameRow : OpenClaim := { program := "ytobaniebnejjiaa", sum := "70b7dd4dd261031cbef488fd9f2e2a2efc4d1431ef7cba089080661deda742c2", func := "almonry/almonrylaw15.UartSame", spec := "uartSame", apart := false }
def UartSameSaid : Prop := uartSameRow.holds Try.pinned (OpenSpec.ofChange uartSameSpec)

/-- ITS FALSE NEIGHBOUR: 'it returns false'. Refute it at one input. -/
def uartSameWrong : ChangeSpec := { name := "uartSame", fn := fun _ => fun
  | [d1, d2, d3] => { results := [.lit (.bool false)], args := [d1, d2, d3] }
  | _ => none }
def UartSameWrongFalsely : Prop := uartSameRow.holds Try.pinned (OpenSpec.ofChange uartSameWrong)

/-- 'almonrylaw15.UartPlays': WHATEVER THE INPUT: true; the input reads as it did. -/
def uartPlaysSpec : ChangeSpec := { name := "uartPlays", fn := fun _ => fun
  | [d] => { results := [.lit (.bool true)], args := [d] }
  | _ => none }
def uartPlaysRow : OpenClaim := { program := "ytobaniebnejjiaa", sum := "70b7dd4dd261031cbef488fd9f2e2a2efc4d1431ef7cba089080661deda742c2", func := "almonry/almonrylaw15.UartPlays", spec := "uartPlays", apart := false }
def UartPlaysSaid : Prop := uartPlaysRow.holds Try.pinned (OpenSpec.ofChange uartPlaysSpec)

/-- ITS FALSE NEIGHBOUR: 'it returns false'. Refute it at one input. -/
def uartPlaysWrong : ChangeSpec := { name := "uartPlays", fn := fun _ => fun
  | [d] => { results := [.lit (.bool false)], args := [d] }
  | _ => none }
def UartPlaysWrongFalsely : Prop := uartPlaysRow.holds Try.pinned (OpenSpec.ofChange uartPlaysWrong)

/-- 'almonrylaw15.UartKnown': WHATEVER THE INPUT: true; the input reads as it did. -/
def uartKnownSpec : ChangeSpec := { name := "uartKnown", fn := fun _ => fun
  | [] => { results := [.lit (.bool true)], args := [] }
  | _ => none }
def uartKnownRow : OpenClaim := { program := "ytobaniebnejjiaa", sum := "70b7dd4dd261031cbef488fd9f2e2a2efc4d1431ef7cba089080661deda742c2", func := "almonry/almonrylaw15.UartKnown", spec := "uartKnown", apart := false }
def UartKnownSaid : Prop := uartKnownRow.holds Try.pinned (OpenSpec.ofChange uartKnownSpec)

/-- ITS FALSE NEIGHBOUR: 'it returns false'. Refute it at one input. -/
def uartKnownWrong : ChangeSpec := { name := "uartKnown", fn := fun _ => fun
  | [] => { results := [.lit (.bool false)], args := [] }
  | _ => none }
def UartKnownWrongFalsely : Prop := uartKnownRow.holds Try.pinned (OpenSpec.ofChange uartKnownWrong)

/-- 'almonrylaw15.UartAsks': WHATEVER THE INPUT: true; the input reads as it did. -/
def uartAsksSpec : ChangeSpec := { name := "uartAsks", fn := fun _ => fun
  | [d] => { results := [.lit (.bool true)], args := [d] }
  | _ => none }
def uartAsksRow : OpenClaim := { program := "ytobaniebnejjiaa", sum := "70b7dd4dd261031cbef488fd9f2e2a2efc4d1431ef7cba089080661deda742c2", func := "almonry/almonrylaw15.UartAsks", spec := "uartAsks", apart := false }
def UartAsksSaid : Prop := uartAsksRow.holds Try.pinned (OpenSpec.ofChange uartAsksSpec)

/-- ITS FALSE NEIGHBOUR: 'it returns false'. Refute it at one input. -/
def uartAsksWrong : ChangeSpec := { name := "uartAsks", fn := fun _ => fun
  | [d] => { results := [.lit (.bool false)], args := [d] }
  | _ => none }
def UartAsksWrongFalsely : Prop := uartAsksRow.holds Try.pinned (OpenSpec.ofChange uartAsksWrong)

/- THE SECOND FORM. 'bulk': how many values and letters a reading holds, each counted each time it is reached (what is shared counts as often as it is met; a slice's spare places count too). A statement '..UptoSaid' is the law's where the arguments, and the package variables that the reading takes, are together of bulk at most 1048576: NARROWER than '..Said'. Prove '..Said' where nothing that the law and all that it calls make is longer than what came in: it says more and counts as full. Else prove '..UptoSaid'. A law counts once. -/
mutual
def uptoBulk {H : Type} : DataW H → Nat
  | .lit (.string bytes) => bytes.length + 1
  | .lit _ => 1
  | .nil => 1
  | .ptr d => uptoBulk d + 1
  | .slice elems spare => uptoBulkAll elems + uptoBulkAll spare + 1
  | .agg parts => uptoBulkAll parts + 1
  | .iface _ d => uptoBulk d + 1
  | .map entries => uptoBulkEntries entries + 1
  | .held _ => 1
def uptoBulkAll {H : Type} : List (DataW H) → Nat
  | [] => 0
  | d :: r => uptoBulk d + uptoBulkAll r
def uptoBulkEntries {H : Type} : List (Lit × DataW H) → Nat
  | [] => 0
  | x :: r => uptoBulkEntry x + uptoBulkEntries r
def uptoBulkEntry {H : Type} : Lit × DataW H → Nat
  | (.string bytes, d) => bytes.length + uptoBulk d + 1
  | (_, d) => uptoBulk d + 1
 end
def uptoSmall : (H : Type) → List (DataW H) → Bool := fun _ ds => decide (uptoBulkAll ds ≤ 1048576)
def OpenSpec.upto (s : _root_.Go.ChangeSpec) : _root_.Go.OpenSpec := { _root_.Go.OpenSpec.ofChange s with cond := some uptoSmall }

/-- 'almonrylaw15.UartOrder', WHERE WHAT IT READS IS OF BULK AT MOST 1048576: true; the input reads as it did. -/
def uartOrderUptoRow : OpenClaim := { program := "ytobaniebnejjiaa", sum := "70b7dd4dd261031cbef488fd9f2e2a2efc4d1431ef7cba089080661deda742c2", func := "almonry/almonrylaw15.UartOrder", spec := "uartOrder", apart := false, narrowed := true }
def UartOrderUptoSaid : Prop := uartOrderUptoRow.holds Try.pinned (OpenSpec.upto uartOrderSpec)

/-- 'almonrylaw15.UartSame', WHERE WHAT IT READS IS OF BULK AT MOST 1048576: true; the input reads as it did. -/
def uartSameUptoRow : OpenClaim := { program := "ytobaniebnejjiaa", sum := "70b7dd4dd261031cbef488fd9f2e2a2efc4d1431ef7cba089080661deda742c2", func := "almonry/almonrylaw15.UartSame", spec := "uartSame", apart := false, narrowed := true }
def UartSameUptoSaid : Prop := uartSameUptoRow.holds Try.pinned (OpenSpec.upto uartSameSpec)

/-- 'almonrylaw15.UartPlays', WHERE WHAT IT READS IS OF BULK AT MOST 1048576: true; the input reads as it did. -/
def uartPlaysUptoRow : OpenClaim := { program := "ytobaniebnejjiaa", sum := "70b7dd4dd261031cbef488fd9f2e2a2efc4d1431ef7cba089080661deda742c2", func := "almonry/almonrylaw15.UartPlays", spec := "uartPlays", apart := false, narrowed := true }
def UartPlaysUptoSaid : Prop := uartPlaysUptoRow.holds Try.pinned (OpenSpec.upto uartPlaysSpec)

/-- 'almonrylaw15.UartKnown', WHERE WHAT IT READS IS OF BULK AT MOST 1048576: true; the input reads as it did. -/
def uartKnownUptoRow : OpenClaim := { program := "ytobaniebnejjiaa", sum := "70b7dd4dd261031cbef488fd9f2e2a2efc4d1431ef7cba089080661deda742c2", func := "almonry/almonrylaw15.UartKnown", spec := "uartKnown", apart := false, narrowed := true }
def UartKnownUptoSaid : Prop := uartKnownUptoRow.holds Try.pinned (OpenSpec.upto uartKnownSpec)

/-- 'almonrylaw15.UartAsks', WHERE WHAT IT READS IS OF BULK AT MOST 1048576: true; the input reads as it did. -/
def uartAsksUptoRow : OpenClaim := { program := "ytobaniebnejjiaa", sum := "70b7dd4dd261031cbef488fd9f2e2a2efc4d1431ef7cba089080661deda742c2", func := "almonry/almonrylaw15.UartAsks", spec := "uartAsks", apart := false, narrowed := true }
def UartAsksUptoSaid : Prop := uartAsksUptoRow.holds Try.pinned (OpenSpec.upto uartAsksSpec)

end Rows
end Go.Proofs.Ytobaniebnejjiaa
