/-
  No cell of these rows narrows 'for every input' (looked for: loops, veiled, ifaces, maps, wideKeys, modest, calm, conditions, laid).
  DERIVED. THE GIVEN ROWS OF THIS SEAT. 4 by the template 'for every input the law returns true; each argument reads behind the call as it read before'; 0 by the template 'total and deterministic' (their statements: YtefhcadlakakbaaTotals.lean).
  GIVEN WITH THE SEED: the statements are not yours to turn. If you find one false, say at which input.
  Laid BY PROGRAM, IN A SANDBOX (cutbox-rows.mjs): the forced cells as the released guide's own fill.sh prints them over the translation 18035e9d41ef64aa… (all of the seat's roots in one cut). By AI agents, Wed Nov 11 2026. No macro, syntax, notation, axiom, sorry.
-/
import Derived.Test.YtefhcadlakakbaaChecked
import GoSem.Claim
import GoSem.ClaimJoined
import GoSem.ClaimMapViews
import Derived.JoinedTies
import Derived.KernelRfl
namespace Go.Proofs.Ytefhcadlakakbaa
/- THE CELL 'sum', in the pinned program and in every row, IS THE sha256 OF THE DUMP (.gsa) THAT YtefhcadlakakbaaProg.lean LOADS. Nothing in Lean hashes anything: it is a label: what it is worth is what the hold of that sum in a sandbox is worth. -/
noncomputable def Try.pinned : Pinned := { name := "ytefhcadlakakbaa", sum := "18035e9d41ef64aa33f0f893b483e626923babbf371766a327d7f4dda11f8e94", checked := Try.checked }
namespace Rows
def none {H : Type} : Left H := { results := [], args := [] }

/-- 'almonrylaw13.ClintPlays': WHATEVER THE INPUT: true; the input reads as it did. -/
def clintPlaysSpec : ChangeSpec := { name := "clintPlays", fn := fun _ => fun
  | [d] => { results := [.lit (.bool true)], args := [d] }
  | _ => none }
def clintPlaysRow : OpenClaim := { program := "ytefhcadlakakbaa", sum := "18035e9d41ef64aa33f0f893b483e626923babbf371766a327d7f4dda11f8e94", func := "almonry/almonrylaw13.ClintPlays", spec := "clintPlays", unfollowed := true, recurses := true, apart := false }
def ClintPlaysSaid : Prop := clintPlaysRow.holds Try.pinned (OpenSpec.ofChange clintPlaysSpec)

/-- ITS FALSE NEIGHBOUR: 'it returns false'. Refute it at one input. -/
def clintPlaysWrong : ChangeSpec := { name := "clintPlays", fn := fun _ => fun
  | [d] => { results := [.lit (.bool false)], args := [d] }
  | _ => none }
def ClintPlaysWrongFalsely : Prop := clintPlaysRow.holds Try.pinned (OpenSpec.ofChange clintPlaysWrong)

/-- 'almonrylaw13.ClintKnown': WHATEVER THE INPUT: true; the input reads as it did. -/
def clintKnownSpec : ChangeSpec := { name := "clintKnown", fn := fun _ => fun
  | [] => { results := [.lit (.bool true)], args := [] }
  | _ => none }
def clintKnownRow : OpenClaim := { program := "ytefhcadlakakbaa", sum := "18035e9d41ef64aa33f0f893b483e626923babbf371766a327d7f4dda11f8e94", func := "almonry/almonrylaw13.ClintKnown", spec := "clintKnown", unfollowed := true, recurses := true, apart := false }
def ClintKnownSaid : Prop := clintKnownRow.holds Try.pinned (OpenSpec.ofChange clintKnownSpec)

/-- ITS FALSE NEIGHBOUR: 'it returns false'. Refute it at one input. -/
def clintKnownWrong : ChangeSpec := { name := "clintKnown", fn := fun _ => fun
  | [] => { results := [.lit (.bool false)], args := [] }
  | _ => none }
def ClintKnownWrongFalsely : Prop := clintKnownRow.holds Try.pinned (OpenSpec.ofChange clintKnownWrong)

/-- 'almonrylaw13.ClintKeeps': WHATEVER THE INPUT: true; the input reads as it did. -/
def clintKeepsSpec : ChangeSpec := { name := "clintKeeps", fn := fun _ => fun
  | [d1, d2] => { results := [.lit (.bool true)], args := [d1, d2] }
  | _ => none }
def clintKeepsRow : OpenClaim := { program := "ytefhcadlakakbaa", sum := "18035e9d41ef64aa33f0f893b483e626923babbf371766a327d7f4dda11f8e94", func := "almonry/almonrylaw13.ClintKeeps", spec := "clintKeeps", unfollowed := true, recurses := true, apart := false }
def ClintKeepsSaid : Prop := clintKeepsRow.holds Try.pinned (OpenSpec.ofChange clintKeepsSpec)

/-- ITS FALSE NEIGHBOUR: 'it returns false'. Refute it at one input. -/
def clintKeepsWrong : ChangeSpec := { name := "clintKeeps", fn := fun _ => fun
  | [d1, d2] => { results := [.lit (.bool false)], args := [d1, d2] }
  | _ => none }
def ClintKeepsWrongFalsely : Prop := clintKeepsRow.holds Try.pinned (OpenSpec.ofChange clintKeepsWrong)

/-- 'almonrylaw13.ClintWaits': WHATEVER THE INPUT: true; the input reads as it did. -/
def clintWaitsSpec : ChangeSpec := { name := "clintWaits", fn := fun _ => fun
  | [d1, d2, d3] => { results := [.lit (.bool true)], args := [d1, d2, d3] }
  | _ => none }
def clintWaitsRow : OpenClaim := { program := "ytefhcadlakakbaa", sum := "18035e9d41ef64aa33f0f893b483e626923babbf371766a327d7f4dda11f8e94", func := "almonry/almonrylaw13.ClintWaits", spec := "clintWaits", unfollowed := true, recurses := true, apart := false }
def ClintWaitsSaid : Prop := clintWaitsRow.holds Try.pinned (OpenSpec.ofChange clintWaitsSpec)

/-- ITS FALSE NEIGHBOUR: 'it returns false'. Refute it at one input. -/
def clintWaitsWrong : ChangeSpec := { name := "clintWaits", fn := fun _ => fun
  | [d1, d2, d3] => { results := [.lit (.bool false)], args := [d1, d2, d3] }
  | _ => none }
def ClintWaitsWrongFalsely : Prop := clintWaitsRow.holds Try.pinned (OpenSpec.ofChange clintWaitsWrong)

/- THE SECOND FORM. 'bulk': how many values and letters a reading holds, each counted each time it is reached (what is shared counts as often as it is met; a slice's spare places count too). A statement '..UptoSaid' is the law's where the arguments, and the package variables that the reading takes, are together of bulk at most 1048576: NARROWER than '..Said'. Prove '..Said' where nothing that the law and all that it calls make is longer than what came in: it says more and counts as full. Else prove '..UptoSaid'. A law counts once. -/
mutual
def uptoBulk {H : Type} : DataW H → Nat
  | .lit (.string bytes) => bytes.length + 1
  | .lit _ => 1
  | .nil => 1
  | .ptr d => uptoBulk d + 1
  | .slice elems spare => uptoBulkAll elems + uptoBulkAll spare + 1
  | .agg parts => uptoBulkAll parts + 1
  | .iface _ d => uptoBulk d + 1
  | .map entries => uptoBulkEntries entries + 1
  | .held _ => 1
def uptoBulkAll {H : Type} : List (DataW H) → Nat
  | [] => 0
  | d :: r => uptoBulk d + uptoBulkAll r
def uptoBulkEntries {H : Type} : List (Lit × DataW H) → Nat
  | [] => 0
  | x :: r => uptoBulkEntry x + uptoBulkEntries r
def uptoBulkEntry {H : Type} : Lit × DataW H → Nat
  | (.string bytes, d) => bytes.length + uptoBulk d + 1
  | (_, d) => uptoBulk d + 1
 end
def uptoSmall : (H : Type) → List (DataW H) → Bool := fun _ ds => decide (uptoBulkAll ds ≤ 1048576)
def OpenSpec.upto (s : _root_.Go.ChangeSpec) : _root_.Go.OpenSpec := { _root_.Go.OpenSpec.ofChange s with cond := some uptoSmall }

/-- 'almonrylaw13.ClintPlays', WHERE WHAT IT READS IS OF BULK AT MOST 1048576: true; the input reads as it did. -/
def clintPlaysUptoRow : OpenClaim := { program := "ytefhcadlakakbaa", sum := "18035e9d41ef64aa33f0f893b483e626923babbf371766a327d7f4dda11f8e94", func := "almonry/almonrylaw13.ClintPlays", spec := "clintPlays", unfollowed := true, recurses := true, apart := false, narrowed := true }
def ClintPlaysUptoSaid : Prop := clintPlaysUptoRow.holds Try.pinned (OpenSpec.upto clintPlaysSpec)

/-- 'almonrylaw13.ClintKnown', WHERE WHAT IT READS IS OF BULK AT MOST 1048576: true; the input reads as it did. -/
def clintKnownUptoRow : OpenClaim := { program := "ytefhcadlakakbaa", sum := "18035e9d41ef64aa33f0f893b483e626923babbf371766a327d7f4dda11f8e94", func := "almonry/almonrylaw13.ClintKnown", spec := "clintKnown", unfollowed := true, recurses := true, apart := false, narrowed := true }
def ClintKnownUptoSaid : Prop := clintKnownUptoRow.holds Try.pinned (OpenSpec.upto clintKnownSpec)

/-- 'almonrylaw13.ClintKeeps', WHERE WHAT IT READS IS OF BULK AT MOST 1048576: true; the input reads as it did. -/
def clintKeepsUptoRow : OpenClaim := { program := "ytefhcadlakakbaa", sum := "18035e9d41ef64aa33f0f893b483e626923babbf371766a327d7f4dda11f8e94", func := "almonry/almonrylaw13.ClintKeeps", spec := "clintKeeps", unfollowed := true, recurses := true, apart := false, narrowed := true }
def ClintKeepsUptoSaid : Prop := clintKeepsUptoRow.holds Try.pinned (OpenSpec.upto clintKeepsSpec)

/-- 'almonrylaw13.ClintWaits', WHERE WHAT IT READS IS OF BULK AT MOST 1048576: true; the input reads as it did. -/
def clintWaitsUptoRow : OpenClaim := { program := "ytefhcadlakakbaa", sum := "18035e9d41ef64aa33f0f893b483e626923babbf371766a327d7f4dda11f8e94", func := "almonry/almonrylaw13.ClintWaits", spec := "clintWaits", unfollowed := true, recurses := true, apart := false, narrowed := true }
def ClintWaitsUptoSaid : Prop := clintWaitsUptoRow.holds Try.pinned (OpenSpec.upto clintWaitsSpec)

end Rows
end Go.Proofs.Ytefhcadlakakbaa
