/-
  No cell of these rows narrows 'for every input' (looked for: loops, veiled, ifaces, maps, wideKeys, modest, calm, conditions, laid).
  DERIVED. THE GIVEN ROWS OF THIS SEAT. 4 by the template 'for every input the law returns true; each argument reads behind the call as it read before'; 0 by the template 'total and deterministic' (their statements: YtpmbfngehmdfpaaTotals.lean).
  GIVEN WITH THE SEED: the statements are not yours to turn. If you find one false, say at which input.
  Laid BY PROGRAM, IN A SANDBOX (cutbox-rows.mjs): the forced cells as the released guide's own fill.sh prints them over the translation 15949f4b48c2f4cf… (all of the seat's roots in one cut). By AI agents, Wed Nov 11 2026. No macro, syntax, notation, axiom, sorry.
-/
import Derived.Test.YtpmbfngehmdfpaaChecked
import GoSem.Claim
import GoSem.ClaimJoined
import GoSem.ClaimMapViews
import Derived.JoinedTies
import Derived.KernelRfl
namespace Go.Proofs.Ytpmbfngehmdfpaa
/- THE CELL 'sum', in the pinned program and in every row, IS THE sha256 OF THE DUMP (.gsa) THAT YtpmbfngehmdfpaaProg.lean LOADS. Nothing in Lean hashes anything: it is a label: what it is worth is what the hold of that sum in a sandbox is worth. -/
noncomputable def Try.pinned : Pinned := { name := "ytpmbfngehmdfpaa", sum := "15949f4b48c2f4cfbca890de40c172fcdb5c629d584342799f2a63f2ee416a95", checked := Try.checked }
namespace Rows
def none {H : Type} : Left H := { results := [], args := [] }

/-- 'almonrylaw17.DogExpires': WHATEVER THE INPUT: true; the input reads as it did. -/
def dogExpiresSpec : ChangeSpec := { name := "dogExpires", fn := fun _ => fun
  | [d1, d2] => { results := [.lit (.bool true)], args := [d1, d2] }
  | _ => none }
def dogExpiresRow : OpenClaim := { program := "ytpmbfngehmdfpaa", sum := "15949f4b48c2f4cfbca890de40c172fcdb5c629d584342799f2a63f2ee416a95", func := "almonry/almonrylaw17.DogExpires", spec := "dogExpires", unfollowed := true, recurses := true, apart := false }
def DogExpiresSaid : Prop := dogExpiresRow.holds Try.pinned (OpenSpec.ofChange dogExpiresSpec)

/-- ITS FALSE NEIGHBOUR: 'it returns false'. Refute it at one input. -/
def dogExpiresWrong : ChangeSpec := { name := "dogExpires", fn := fun _ => fun
  | [d1, d2] => { results := [.lit (.bool false)], args := [d1, d2] }
  | _ => none }
def DogExpiresWrongFalsely : Prop := dogExpiresRow.holds Try.pinned (OpenSpec.ofChange dogExpiresWrong)

/-- 'almonrylaw17.DogKept': WHATEVER THE INPUT: true; the input reads as it did. -/
def dogKeptSpec : ChangeSpec := { name := "dogKept", fn := fun _ => fun
  | [d1, d2] => { results := [.lit (.bool true)], args := [d1, d2] }
  | _ => none }
def dogKeptRow : OpenClaim := { program := "ytpmbfngehmdfpaa", sum := "15949f4b48c2f4cfbca890de40c172fcdb5c629d584342799f2a63f2ee416a95", func := "almonry/almonrylaw17.DogKept", spec := "dogKept", unfollowed := true, recurses := true, apart := false }
def DogKeptSaid : Prop := dogKeptRow.holds Try.pinned (OpenSpec.ofChange dogKeptSpec)

/-- ITS FALSE NEIGHBOUR: 'it returns false'. Refute it at one input. -/
def dogKeptWrong : ChangeSpec := { name := "dogKept", fn := fun _ => fun
  | [d1, d2] => { results := [.lit (.bool false)], args := [d1, d2] }
  | _ => none }
def DogKeptWrongFalsely : Prop := dogKeptRow.holds Try.pinned (OpenSpec.ofChange dogKeptWrong)

/-- 'almonrylaw17.DogPlays': WHATEVER THE INPUT: true; the input reads as it did. -/
def dogPlaysSpec : ChangeSpec := { name := "dogPlays", fn := fun _ => fun
  | [d1, d2] => { results := [.lit (.bool true)], args := [d1, d2] }
  | _ => none }
def dogPlaysRow : OpenClaim := { program := "ytpmbfngehmdfpaa", sum := "15949f4b48c2f4cfbca890de40c172fcdb5c629d584342799f2a63f2ee416a95", func := "almonry/almonrylaw17.DogPlays", spec := "dogPlays", unfollowed := true, recurses := true, apart := false }
def DogPlaysSaid : Prop := dogPlaysRow.holds Try.pinned (OpenSpec.ofChange dogPlaysSpec)

/-- ITS FALSE NEIGHBOUR: 'it returns false'. Refute it at one input. -/
def dogPlaysWrong : ChangeSpec := { name := "dogPlays", fn := fun _ => fun
  | [d1, d2] => { results := [.lit (.bool false)], args := [d1, d2] }
  | _ => none }
def DogPlaysWrongFalsely : Prop := dogPlaysRow.holds Try.pinned (OpenSpec.ofChange dogPlaysWrong)

/-- 'almonrylaw17.DogKnown': WHATEVER THE INPUT: true; the input reads as it did. -/
def dogKnownSpec : ChangeSpec := { name := "dogKnown", fn := fun _ => fun
  | [] => { results := [.lit (.bool true)], args := [] }
  | _ => none }
def dogKnownRow : OpenClaim := { program := "ytpmbfngehmdfpaa", sum := "15949f4b48c2f4cfbca890de40c172fcdb5c629d584342799f2a63f2ee416a95", func := "almonry/almonrylaw17.DogKnown", spec := "dogKnown", unfollowed := true, recurses := true, apart := false }
def DogKnownSaid : Prop := dogKnownRow.holds Try.pinned (OpenSpec.ofChange dogKnownSpec)

/-- ITS FALSE NEIGHBOUR: 'it returns false'. Refute it at one input. -/
def dogKnownWrong : ChangeSpec := { name := "dogKnown", fn := fun _ => fun
  | [] => { results := [.lit (.bool false)], args := [] }
  | _ => none }
def DogKnownWrongFalsely : Prop := dogKnownRow.holds Try.pinned (OpenSpec.ofChange dogKnownWrong)

/- THE SECOND FORM. 'bulk': how many values and letters a reading holds, each counted each time it is reached (what is shared counts as often as it is met; a slice's spare places count too). A statement '..UptoSaid' is the law's where the arguments, and the package variables that the reading takes, are together of bulk at most 1048576: NARROWER than '..Said'. Prove '..Said' where nothing that the law and all that it calls make is longer than what came in: it says more and counts as full. Else prove '..UptoSaid'. A law counts once. -/
mutual
def uptoBulk {H : Type} : DataW H → Nat
  | .lit (.string bytes) => bytes.length + 1
  | .lit _ => 1
  | .nil => 1
  | .ptr d => uptoBulk d + 1
  | .slice elems spare => uptoBulkAll elems + uptoBulkAll spare + 1
  | .agg parts => uptoBulkAll parts + 1
  | .iface _ d => uptoBulk d + 1
  | .map entries => uptoBulkEntries entries + 1
  | .held _ => 1
def uptoBulkAll {H : Type} : List (DataW H) → Nat
  | [] => 0
  | d :: r => uptoBulk d + uptoBulkAll r
def uptoBulkEntries {H : Type} : List (Lit × DataW H) → Nat
  | [] => 0
  | x :: r => uptoBulkEntry x + uptoBulkEntries r
def uptoBulkEntry {H : Type} : Lit × DataW H → Nat
  | (.string bytes, d) => bytes.length + uptoBulk d + 1
  | (_, d) => uptoBulk d + 1
 end
def uptoSmall : (H : Type) → List (DataW H) → Bool := fun _ ds => decide (uptoBulkAll ds ≤ 1048576)
def OpenSpec.upto (s : _root_.Go.ChangeSpec) : _root_.Go.OpenSpec := { _root_.Go.OpenSpec.ofChange s with cond := some uptoSmall }

/-- 'almonrylaw17.DogExpires', WHERE WHAT IT READS IS OF BULK AT MOST 1048576: true; the input reads as it did. -/
def dogExpiresUptoRow : OpenClaim := { program := "ytpmbfngehmdfpaa", sum := "15949f4b48c2f4cfbca890de40c172fcdb5c629d584342799f2a63f2ee416a95", func := "almonry/almonrylaw17.DogExpires", spec := "dogExpires", unfollowed := true, recurses := true, apart := false, narrowed := true }
def DogExpiresUptoSaid : Prop := dogExpiresUptoRow.holds Try.pinned (OpenSpec.upto dogExpiresSpec)

/-- 'almonrylaw17.DogKept', WHERE WHAT IT READS IS OF BULK AT MOST 1048576: true; the input reads as it did. -/
def dogKeptUptoRow : OpenClaim := { program := "ytpmbfngehmdfpaa", sum := "15949f4b48c2f4cfbca890de40c172fcdb5c629d584342799f2a63f2ee416a95", func := "almonry/almonrylaw17.DogKept", spec := "dogKept", unfollowed := true, recurses := true, apart := false, narrowed := true }
def DogKeptUptoSaid : Prop := dogKeptUptoRow.holds Try.pinned (OpenSpec.upto dogKeptSpec)

/-- 'almonrylaw17.DogPlays', WHERE WHAT IT READS IS OF BULK AT MOST 1048576: true; the input reads as it did. -/
def dogPlaysUptoRow : OpenClaim := { program := "ytpmbfngehmdfpaa", sum := "15949f4b48c2f4cfbca890de40c172fcdb5c629d584342799f2a63f2ee416a95", func := "almonry/almonrylaw17.DogPlays", spec := "dogPlays", unfollowed := true, recurses := true, apart := false, narrowed := true }
def DogPlaysUptoSaid : Prop := dogPlaysUptoRow.holds Try.pinned (OpenSpec.upto dogPlaysSpec)

/-- 'almonrylaw17.DogKnown', WHERE WHAT IT READS IS OF BULK AT MOST 1048576: true; the input reads as it did. -/
def dogKnownUptoRow : OpenClaim := { program := "ytpmbfngehmdfpaa", sum := "15949f4b48c2f4cfbca890de40c172fcdb5c629d584342799f2a63f2ee416a95", func := "almonry/almonrylaw17.DogKnown", spec := "dogKnown", unfollowed := true, recurses := true, apart := false, narrowed := true }
def DogKnownUptoSaid : Prop := dogKnownUptoRow.holds Try.pinned (OpenSpec.upto dogKnownSpec)

end Rows
end Go.Proofs.Ytpmbfngehmdfpaa
