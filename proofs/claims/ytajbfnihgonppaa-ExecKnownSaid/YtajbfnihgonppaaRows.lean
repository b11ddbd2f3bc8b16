/-
  No cell of these rows narrows 'for every input' (looked for: loops, veiled, ifaces, maps, wideKeys, modest, calm, conditions, laid).
  DERIVED. THE GIVEN ROWS OF THIS SEAT. 6 by the template 'for every input the law returns true; each argument reads behind the call as it read before'; 0 by the template 'total and deterministic' (their statements: YtajbfnihgonppaaTotals.lean).
  GIVEN WITH THE SEED: the statements are not yours to turn. If you find one false, say at which input.
  Laid BY PROGRAM, IN A SANDBOX (cutbox-rows.mjs): the forced cells as the released guide's own fill.sh prints them over the translation 091afca9ee74ff6d… (all of the seat's roots in one cut). By AI agents, Wed Nov 11 2026. No macro, syntax, notation, axiom, sorry.
-/
import Derived.Test.YtajbfnihgonppaaChecked
import GoSem.Claim
import GoSem.ClaimJoined
import GoSem.ClaimMapViews
import Derived.JoinedTies
import Derived.KernelRfl
namespace Go.Proofs.Ytajbfnihgonppaa
/- THE CELL 'sum', in the pinned program and in every row, IS THE sha256 OF THE DUMP (.gsa) THAT YtajbfnihgonppaaProg.lean LOADS. Nothing in Lean hashes anything: it is a label: what it is worth is what the hold of that sum in a sandbox is worth. -/
noncomputable def Try.pinned : Pinned := { name := "ytajbfnihgonppaa", sum := "091afca9ee74ff6d2350789c51fdf83758cecebc7f201cf12bc2280c6b2998cd", checked := Try.checked }
namespace Rows
def none {H : Type} : Left H := { results := [], args := [] }

/-- 'almonrylaw23.ExecOne': WHATEVER THE INPUT: true; the input reads as it did. -/
def execOneSpec : ChangeSpec := { name := "execOne", fn := fun _ => fun
  | [d1, d2, d3] => { results := [.lit (.bool true)], args := [d1, d2, d3] }
  | _ => none }
def execOneRow : OpenClaim := { program := "ytajbfnihgonppaa", sum := "091afca9ee74ff6d2350789c51fdf83758cecebc7f201cf12bc2280c6b2998cd", func := "almonry/almonrylaw23.ExecOne", spec := "execOne", unfollowed := true, recurses := true, apart := false }
def ExecOneSaid : Prop := execOneRow.holds Try.pinned (OpenSpec.ofChange execOneSpec)

/-- ITS FALSE NEIGHBOUR: 'it returns false'. Refute it at one input. -/
def execOneWrong : ChangeSpec := { name := "execOne", fn := fun _ => fun
  | [d1, d2, d3] => { results := [.lit (.bool false)], args := [d1, d2, d3] }
  | _ => none }
def ExecOneWrongFalsely : Prop := execOneRow.holds Try.pinned (OpenSpec.ofChange execOneWrong)

/-- 'almonrylaw23.ExecLinks': WHATEVER THE INPUT: true; the input reads as it did. -/
def execLinksSpec : ChangeSpec := { name := "execLinks", fn := fun _ => fun
  | [d1, d2, d3] => { results := [.lit (.bool true)], args := [d1, d2, d3] }
  | _ => none }
def execLinksRow : OpenClaim := { program := "ytajbfnihgonppaa", sum := "091afca9ee74ff6d2350789c51fdf83758cecebc7f201cf12bc2280c6b2998cd", func := "almonry/almonrylaw23.ExecLinks", spec := "execLinks", unfollowed := true, recurses := true, apart := false }
def ExecLinksSaid : Prop := execLinksRow.holds Try.pinned (OpenSpec.ofChange execLinksSpec)

/-- ITS FALSE NEIGHBOUR: 'it returns false'. Refute it at one input. -/
def execLinksWrong : ChangeSpec := { name := "execLinks", fn := fun _ => fun
  | [d1, d2, d3] => { results := [.lit (.bool false)], args := [d1, d2, d3] }
  | _ => none }
def ExecLinksWrongFalsely : Prop := execLinksRow.holds Try.pinned (OpenSpec.ofChange execLinksWrong)

/-- 'almonrylaw23.ExecDoes': WHATEVER THE INPUT: true; the input reads as it did. -/
def execDoesSpec : ChangeSpec := { name := "execDoes", fn := fun _ => fun
  | [d1, d2, d3] => { results := [.lit (.bool true)], args := [d1, d2, d3] }
  | _ => none }
def execDoesRow : OpenClaim := { program := "ytajbfnihgonppaa", sum := "091afca9ee74ff6d2350789c51fdf83758cecebc7f201cf12bc2280c6b2998cd", func := "almonry/almonrylaw23.ExecDoes", spec := "execDoes", unfollowed := true, recurses := true, apart := false }
def ExecDoesSaid : Prop := execDoesRow.holds Try.pinned (OpenSpec.ofChange execDoesSpec)

/-- ITS FALSE NEIGHBOUR: 'it returns false'. Refute it at one input. -/
def execDoesWrong : ChangeSpec := { name := "execDoes", fn := fun _ => fun
  | [d1, d2, d3] => { results := [.lit (.bool false)], args := [d1, d2, d3] }
  | _ => none }
def ExecDoesWrongFalsely : Prop := execDoesRow.holds Try.pinned (OpenSpec.ofChange execDoesWrong)

/-- 'almonrylaw23.ExecRuns': WHATEVER THE INPUT: true; the input reads as it did. -/
def execRunsSpec : ChangeSpec := { name := "execRuns", fn := fun _ => fun
  | [d1, d2, d3] => { results := [.lit (.bool true)], args := [d1, d2, d3] }
  | _ => none }
def execRunsRow : OpenClaim := { program := "ytajbfnihgonppaa", sum := "091afca9ee74ff6d2350789c51fdf83758cecebc7f201cf12bc2280c6b2998cd", func := "almonry/almonrylaw23.ExecRuns", spec := "execRuns", unfollowed := true, recurses := true, apart := false }
def ExecRunsSaid : Prop := execRunsRow.holds Try.pinned (OpenSpec.ofChange execRunsSpec)

/-- ITS FALSE NEIGHBOUR: 'it returns false'. Refute it at one input. -/
def execRunsWrong : ChangeSpec := { name := "execRuns", fn := fun _ => fun
  | [d1, d2, d3] => { results := [.lit (.bool false)], args := [d1, d2, d3] }
  | _ => none }
def ExecRunsWrongFalsely : Prop := execRunsRow.holds Try.pinned (OpenSpec.ofChange execRunsWrong)

/-- 'almonrylaw23.ExecSplits': WHATEVER THE INPUT: true; the input reads as it did. -/
def execSplitsSpec : ChangeSpec := { name := "execSplits", fn := fun _ => fun
  | [d1, d2, d3] => { results := [.lit (.bool true)], args := [d1, d2, d3] }
  | _ => none }
def execSplitsRow : OpenClaim := { program := "ytajbfnihgonppaa", sum := "091afca9ee74ff6d2350789c51fdf83758cecebc7f201cf12bc2280c6b2998cd", func := "almonry/almonrylaw23.ExecSplits", spec := "execSplits", unfollowed := true, recurses := true, apart := false }
def ExecSplitsSaid : Prop := execSplitsRow.holds Try.pinned (OpenSpec.ofChange execSplitsSpec)

/-- ITS FALSE NEIGHBOUR: 'it returns false'. Refute it at one input. -/
def execSplitsWrong : ChangeSpec := { name := "execSplits", fn := fun _ => fun
  | [d1, d2, d3] => { results := [.lit (.bool false)], args := [d1, d2, d3] }
  | _ => none }
def ExecSplitsWrongFalsely : Prop := execSplitsRow.holds Try.pinned (OpenSpec.ofChange execSplitsWrong)

/-- 'almonrylaw23.ExecKnown': WHATEVER THE INPUT: true; the input reads as it did. -/
def execKnownSpec : ChangeSpec := { name := "execKnown", fn := fun _ => fun
  | [] => { results := [.lit (.bool true)], args := [] }
  | _ => none }
def execKnownRow : OpenClaim := { program := "ytajbfnihgonppaa", sum := "091afca9ee74ff6d2350789c51fdf83758cecebc7f201cf12bc2280c6b2998cd", func := "almonry/almonrylaw23.ExecKnown", spec := "execKnown", unfollowed := true, recurses := true, apart := false }
def ExecKnownSaid : Prop := execKnownRow.holds Try.pinned (OpenSpec.ofChange execKnownSpec)

/-- ITS FALSE NEIGHBOUR: 'it returns false'. Refute it at one input. -/
def execKnownWrong : ChangeSpec := { name := "execKnown", fn := fun _ => fun
  | [] => { results := [.lit (.bool false)], args := [] }
  | _ => none }
def ExecKnownWrongFalsely : Prop := execKnownRow.holds Try.pinned (OpenSpec.ofChange execKnownWrong)

/- THE SECOND FORM. 'bulk': how many values and letters a reading holds, each counted each time it is reached (what is shared counts as often as it is met; a slice's spare places count too). A statement '..UptoSaid' is the law's where the arguments, and the package variables that the reading takes, are together of bulk at most 1048576: NARROWER than '..Said'. Prove '..Said' where nothing that the law and all that it calls make is longer than what came in: it says more and counts as full. Else prove '..UptoSaid'. A law counts once. -/
mutual
def uptoBulk {H : Type} : DataW H → Nat
  | .lit (.string bytes) => bytes.length + 1
  | .lit _ => 1
  | .nil => 1
  | .ptr d => uptoBulk d + 1
  | .slice elems spare => uptoBulkAll elems + uptoBulkAll spare + 1
  | .agg parts => uptoBulkAll parts + 1
  | .iface _ d => uptoBulk d + 1
  | .map entries => uptoBulkEntries entries + 1
  | .held _ => 1
def uptoBulkAll {H : Type} : List (DataW H) → Nat
  | [] => 0
  | d :: r => uptoBulk d + uptoBulkAll r
def uptoBulkEntries {H : Type} : List (Lit × DataW H) → Nat
  | [] => 0
  | x :: r => uptoBulkEntry x + uptoBulkEntries r
def uptoBulkEntry {H : Type} : Lit × DataW H → Nat
  | (.string bytes, d) => bytes.length + uptoBulk d + 1
  | (_, d) => uptoBulk d + 1
 end
def uptoSmall : (H : Type) → List (DataW H) → Bool := fun _ ds => decide (uptoBulkAll ds ≤ 1048576)
def OpenSpec.upto (s : _root_.Go.ChangeSpec) : _root_.Go.OpenSpec := { _root_.Go.OpenSpec.ofChange s with cond := some uptoSmall }

/-- 'almonrylaw23.ExecOne', WHERE WHAT IT READS IS OF BULK AT MOST 1048576: true; the input reads as it did. -/
def execOneUptoRow : OpenClaim := { program := "ytajbfnihgonppaa", sum := "091afca9ee74ff6d2350789c51fdf83758cecebc7f201cf12bc2280c6b2998cd", func := "almonry/almonrylaw23.ExecOne", spec := "execOne", unfollowed := true, recurses := true, apart := false, narrowed := true }
def ExecOneUptoSaid : Prop := execOneUptoRow.holds Try.pinned (OpenSpec.upto execOneSpec)

/-- 'almonrylaw23.ExecLinks', WHERE WHAT IT READS IS OF BULK AT MOST 1048576: true; the input reads as it did. -/
def execLinksUptoRow : OpenClaim := { program := "ytajbfnihgonppaa", sum := "091afca9ee74ff6d2350789c51fdf83758cecebc7f201cf12bc2280c6b2998cd", func := "almonry/almonrylaw23.ExecLinks", spec := "execLinks", unfollowed := true, recurses := true, apart := false, narrowed := true }
def ExecLinksUptoSaid : Prop := execLinksUptoRow.holds Try.pinned (OpenSpec.upto execLinksSpec)

/-- 'almonrylaw23.ExecDoes', WHERE WHAT IT READS IS OF BULK AT MOST 1048576: true; the input reads as it did. -/
def execDoesUptoRow : OpenClaim := { program := "ytajbfnihgonppaa", sum := "091afca9ee74ff6d2350789c51fdf83758cecebc7f201cf12bc2280c6b2998cd", func := "almonry/almonrylaw23.ExecDoes", spec := "execDoes", unfollowed := true, recurses := true, apart := false, narrowed := true }
def ExecDoesUptoSaid : Prop := execDoesUptoRow.holds Try.pinned (OpenSpec.upto execDoesSpec)

/-- 'almonrylaw23.ExecRuns', WHERE WHAT IT READS IS OF BULK AT MOST 1048576: true; the input reads as it did. -/
def execRunsUptoRow : OpenClaim := { program := "ytajbfnihgonppaa", sum := "091afca9ee74ff6d2350789c51fdf83758cecebc7f201cf12bc2280c6b2998cd", func := "almonry/almonrylaw23.ExecRuns", spec := "execRuns", unfollowed := true, recurses := true, apart := false, narrowed := true }
def ExecRunsUptoSaid : Prop := execRunsUptoRow.holds Try.pinned (OpenSpec.upto execRunsSpec)

/-- 'almonrylaw23.ExecSplits', WHERE WHAT IT READS IS OF BULK AT MOST 1048576: true; the input reads as it did. -/
def execSplitsUptoRow : OpenClaim := { program := "ytajbfnihgonppaa", sum := "091afca9ee74ff6d2350789c51fdf83758cecebc7f201cf12bc2280c6b2998cd", func := "almonry/almonrylaw23.ExecSplits", spec := "execSplits", unfollowed := true, recurses := true, apart := false, narrowed := true }
def ExecSplitsUptoSaid : Prop := execSplitsUptoRow.holds Try.pinned (OpenSpec.upto execSplitsSpec)

/-- 'almonrylaw23.ExecKnown', WHERE WHAT IT READS IS OF BULK AT MOST 1048576: true; the input reads as it did. -/
def execKnownUptoRow : OpenClaim := { program := "ytajbfnihgonppaa", sum := "091afca9ee74ff6d2350789c51fdf83758cecebc7f201cf12bc2280c6b2998cd", func := "almonry/almonrylaw23.ExecKnown", spec := "execKnown", unfollowed := true, recurses := true, apart := false, narrowed := true }
def ExecKnownUptoSaid : Prop := execKnownUptoRow.holds Try.pinned (OpenSpec.upto execKnownSpec)

end Rows
end Go.Proofs.Ytajbfnihgonppaa
