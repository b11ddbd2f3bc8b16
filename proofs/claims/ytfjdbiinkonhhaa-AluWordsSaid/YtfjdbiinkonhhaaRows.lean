/-
  No cell of these rows narrows 'for every input' (looked for: loops, veiled, ifaces, maps, wideKeys, modest, calm, conditions, laid).
  DERIVED. THE GIVEN ROWS OF THIS SEAT. 7 by the template 'for every input the law returns true; each argument reads behind the call as it read before'; 0 by the template 'total and deterministic' (their statements: YtfjdbiinkonhhaaTotals.lean).
  GIVEN WITH THE SEED: the statements are not yours to turn. If you find one false, say at which input.
  Laid BY PROGRAM, IN A SANDBOX (cutbox-rows.mjs): the forced cells as the released guide's own fill.sh prints them over the translation 91826752e940d35c… (all of the seat's roots in one cut). By AI agents, Wed Nov 11 2026. No macro, syntax, notation, axiom, sorry.
-/
import Derived.Test.YtfjdbiinkonhhaaChecked
import GoSem.Claim
import GoSem.ClaimJoined
import GoSem.ClaimMapViews
import Derived.JoinedTies
import Derived.KernelRfl
namespace Go.Proofs.Ytfjdbiinkonhhaa
/- THE CELL 'sum', in the pinned program and in every row, IS THE sha256 OF THE DUMP (.gsa) THAT YtfjdbiinkonhhaaProg.lean LOADS. Nothing in Lean hashes anything: it is a label: what it is worth is what the hold of that sum in a sandbox is worth. -/
noncomputable def Try.pinned : Pinned := { name := "ytfjdbiinkonhhaa", sum := "91826752e940d35c9fb88172f7f898818375abd3060ef92e6063f79389dc57da", checked := Try.checked }
namespace Rows
def none {H : Type} : Left H := { results := [], args := [] }

/-- 'almonrylaw02.AluDoes': WHATEVER THE INPUT: true; the input reads as it did. -/
def aluDoesSpec : ChangeSpec := { name := "aluDoes", fn := fun _ => fun
  | [d1, d2, d3] => { results := [.lit (.bool true)], args := [d1, d2, d3] }
  | _ => none }
def aluDoesRow : OpenClaim := { program := "ytfjdbiinkonhhaa", sum := "91826752e940d35c9fb88172f7f898818375abd3060ef92e6063f79389dc57da", func := "almonry/almonrylaw02.AluDoes", spec := "aluDoes", unfollowed := true, recurses := true, apart := false }
def AluDoesSaid : Prop := aluDoesRow.holds Try.pinned (OpenSpec.ofChange aluDoesSpec)

/-- ITS FALSE NEIGHBOUR: 'it returns false'. Refute it at one input. -/
def aluDoesWrong : ChangeSpec := { name := "aluDoes", fn := fun _ => fun
  | [d1, d2, d3] => { results := [.lit (.bool false)], args := [d1, d2, d3] }
  | _ => none }
def AluDoesWrongFalsely : Prop := aluDoesRow.holds Try.pinned (OpenSpec.ofChange aluDoesWrong)

/-- 'almonrylaw02.AluBranches': WHATEVER THE INPUT: true; the input reads as it did. -/
def aluBranchesSpec : ChangeSpec := { name := "aluBranches", fn := fun _ => fun
  | [d1, d2, d3] => { results := [.lit (.bool true)], args := [d1, d2, d3] }
  | _ => none }
def aluBranchesRow : OpenClaim := { program := "ytfjdbiinkonhhaa", sum := "91826752e940d35c9fb88172f7f898818375abd3060ef92e6063f79389dc57da", func := "almonry/almonrylaw02.AluBranches", spec := "aluBranches", unfollowed := true, recurses := true, apart := false }
def AluBranchesSaid : Prop := aluBranchesRow.holds Try.pinned (OpenSpec.ofChange aluBranchesSpec)

/-- ITS FALSE NEIGHBOUR: 'it returns false'. Refute it at one input. -/
def aluBranchesWrong : ChangeSpec := { name := "aluBranches", fn := fun _ => fun
  | [d1, d2, d3] => { results := [.lit (.bool false)], args := [d1, d2, d3] }
  | _ => none }
def AluBranchesWrongFalsely : Prop := aluBranchesRow.holds Try.pinned (OpenSpec.ofChange aluBranchesWrong)

/-- 'almonrylaw02.AluDivides': WHATEVER THE INPUT: true; the input reads as it did. -/
def aluDividesSpec : ChangeSpec := { name := "aluDivides", fn := fun _ => fun
  | [d1, d2] => { results := [.lit (.bool true)], args := [d1, d2] }
  | _ => none }
def aluDividesRow : OpenClaim := { program := "ytfjdbiinkonhhaa", sum := "91826752e940d35c9fb88172f7f898818375abd3060ef92e6063f79389dc57da", func := "almonry/almonrylaw02.AluDivides", spec := "aluDivides", unfollowed := true, recurses := true, apart := false }
def AluDividesSaid : Prop := aluDividesRow.holds Try.pinned (OpenSpec.ofChange aluDividesSpec)

/-- ITS FALSE NEIGHBOUR: 'it returns false'. Refute it at one input. -/
def aluDividesWrong : ChangeSpec := { name := "aluDivides", fn := fun _ => fun
  | [d1, d2] => { results := [.lit (.bool false)], args := [d1, d2] }
  | _ => none }
def AluDividesWrongFalsely : Prop := aluDividesRow.holds Try.pinned (OpenSpec.ofChange aluDividesWrong)

/-- 'almonrylaw02.AluMultiplies': WHATEVER THE INPUT: true; the input reads as it did. -/
def aluMultipliesSpec : ChangeSpec := { name := "aluMultiplies", fn := fun _ => fun
  | [d1, d2] => { results := [.lit (.bool true)], args := [d1, d2] }
  | _ => none }
def aluMultipliesRow : OpenClaim := { program := "ytfjdbiinkonhhaa", sum := "91826752e940d35c9fb88172f7f898818375abd3060ef92e6063f79389dc57da", func := "almonry/almonrylaw02.AluMultiplies", spec := "aluMultiplies", unfollowed := true, recurses := true, apart := false }
def AluMultipliesSaid : Prop := aluMultipliesRow.holds Try.pinned (OpenSpec.ofChange aluMultipliesSpec)

/-- ITS FALSE NEIGHBOUR: 'it returns false'. Refute it at one input. -/
def aluMultipliesWrong : ChangeSpec := { name := "aluMultiplies", fn := fun _ => fun
  | [d1, d2] => { results := [.lit (.bool false)], args := [d1, d2] }
  | _ => none }
def AluMultipliesWrongFalsely : Prop := aluMultipliesRow.holds Try.pinned (OpenSpec.ofChange aluMultipliesWrong)

/-- 'almonrylaw02.AluWords': WHATEVER THE INPUT: true; the input reads as it did. -/
def aluWordsSpec : ChangeSpec := { name := "aluWords", fn := fun _ => fun
  | [d1, d2, d3] => { results := [.lit (.bool true)], args := [d1, d2, d3] }
  | _ => none }
def aluWordsRow : OpenClaim := { program := "ytfjdbiinkonhhaa", sum := "91826752e940d35c9fb88172f7f898818375abd3060ef92e6063f79389dc57da", func := "almonry/almonrylaw02.AluWords", spec := "aluWords", unfollowed := true, recurses := true, apart := false }
def AluWordsSaid : Prop := aluWordsRow.holds Try.pinned (OpenSpec.ofChange aluWordsSpec)

/-- ITS FALSE NEIGHBOUR: 'it returns false'. Refute it at one input. -/
def aluWordsWrong : ChangeSpec := { name := "aluWords", fn := fun _ => fun
  | [d1, d2, d3] => { results := [.lit (.bool false)], args := [d1, d2, d3] }
  | _ => none }
def AluWordsWrongFalsely : Prop := aluWordsRow.holds Try.pinned (OpenSpec.ofChange aluWordsWrong)

/-- 'almonrylaw02.AluAgrees': WHATEVER THE INPUT: true; the input reads as it did. -/
def aluAgreesSpec : ChangeSpec := { name := "aluAgrees", fn := fun _ => fun
  | [d1, d2, d3] => { results := [.lit (.bool true)], args := [d1, d2, d3] }
  | _ => none }
def aluAgreesRow : OpenClaim := { program := "ytfjdbiinkonhhaa", sum := "91826752e940d35c9fb88172f7f898818375abd3060ef92e6063f79389dc57da", func := "almonry/almonrylaw02.AluAgrees", spec := "aluAgrees", unfollowed := true, recurses := true, apart := false }
def AluAgreesSaid : Prop := aluAgreesRow.holds Try.pinned (OpenSpec.ofChange aluAgreesSpec)

/-- ITS FALSE NEIGHBOUR: 'it returns false'. Refute it at one input. -/
def aluAgreesWrong : ChangeSpec := { name := "aluAgrees", fn := fun _ => fun
  | [d1, d2, d3] => { results := [.lit (.bool false)], args := [d1, d2, d3] }
  | _ => none }
def AluAgreesWrongFalsely : Prop := aluAgreesRow.holds Try.pinned (OpenSpec.ofChange aluAgreesWrong)

/-- 'almonrylaw02.AluKnown': WHATEVER THE INPUT: true; the input reads as it did. -/
def aluKnownSpec : ChangeSpec := { name := "aluKnown", fn := fun _ => fun
  | [] => { results := [.lit (.bool true)], args := [] }
  | _ => none }
def aluKnownRow : OpenClaim := { program := "ytfjdbiinkonhhaa", sum := "91826752e940d35c9fb88172f7f898818375abd3060ef92e6063f79389dc57da", func := "almonry/almonrylaw02.AluKnown", spec := "aluKnown", unfollowed := true, recurses := true, apart := false }
def AluKnownSaid : Prop := aluKnownRow.holds Try.pinned (OpenSpec.ofChange aluKnownSpec)

/-- ITS FALSE NEIGHBOUR: 'it returns false'. Refute it at one input. -/
def aluKnownWrong : ChangeSpec := { name := "aluKnown", fn := fun _ => fun
  | [] => { results := [.lit (.bool false)], args := [] }
  | _ => none }
def AluKnownWrongFalsely : Prop := aluKnownRow.holds Try.pinned (OpenSpec.ofChange aluKnownWrong)

/- THE SECOND FORM. 'bulk': how many values and letters a reading holds, each counted each time it is reached (what is shared counts as often as it is met; a slice's spare places count too). A statement '..UptoSaid' is the law's where the arguments, and the package variables that the reading takes, are together of bulk at most 1048576: NARROWER than '..Said'. Prove '..Said' where nothing that the law and all that it calls make is longer than what came in: it says more and counts as full. Else prove '..UptoSaid'. A law counts once. -/
mutual
def uptoBulk {H : Type} : DataW H → Nat
  | .lit (.string bytes) => bytes.length + 1
  | .lit _ => 1
  | .nil => 1
  | .ptr d => uptoBulk d + 1
  | .slice elems spare => uptoBulkAll elems + uptoBulkAll spare + 1
  | .agg parts => uptoBulkAll parts + 1
  | .iface _ d => uptoBulk d + 1
  | .map entries => uptoBulkEntries entries + 1
  | .held _ => 1
def uptoBulkAll {H : Type} : List (DataW H) → Nat
  | [] => 0
  | d :: r => uptoBulk d + uptoBulkAll r
def uptoBulkEntries {H : Type} : List (Lit × DataW H) → Nat
  | [] => 0
  | x :: r => uptoBulkEntry x + uptoBulkEntries r
def uptoBulkEntry {H : Type} : Lit × DataW H → Nat
  | (.string bytes, d) => bytes.length + uptoBulk d + 1
  | (_, d) => uptoBulk d + 1
 end
def uptoSmall : (H : Type) → List (DataW H) → Bool := fun _ ds => decide (uptoBulkAll ds ≤ 1048576)
def OpenSpec.upto (s : _root_.Go.ChangeSpec) : _root_.Go.OpenSpec := { _root_.Go.OpenSpec.ofChange s with cond := some uptoSmall }

/-- 'almonrylaw02.AluDoes', WHERE WHAT IT READS IS OF BULK AT MOST 1048576: true; the input reads as it did. -/
def aluDoesUptoRow : OpenClaim := { program := "ytfjdbiinkonhhaa", sum := "91826752e940d35c9fb88172f7f898818375abd3060ef92e6063f79389dc57da", func := "almonry/almonrylaw02.AluDoes", spec := "aluDoes", unfollowed := true, recurses := true, apart := false, narrowed := true }
def AluDoesUptoSaid : Prop := aluDoesUptoRow.holds Try.pinned (OpenSpec.upto aluDoesSpec)

/-- 'almonrylaw02.AluBranches', WHERE WHAT IT READS IS OF BULK AT MOST 1048576: true; the input reads as it did. -/
def aluBranchesUptoRow : OpenClaim := { program := "ytfjdbiinkonhhaa", sum := "91826752e940d35c9fb88172f7f898818375abd3060ef92e6063f79389dc57da", func := "almonry/almonrylaw02.AluBranches", spec := "aluBranches", unfollowed := true, recurses := true, apart := false, narrowed := true }
def AluBranchesUptoSaid : Prop := aluBranchesUptoRow.holds Try.pinned (OpenSpec.upto aluBranchesSpec)

/-- 'almonrylaw02.AluDivides', WHERE WHAT IT READS IS OF BULK AT MOST 1048576: true; the input reads as it did. -/
def aluDividesUptoRow : OpenClaim := { program := "ytfjdbiinkonhhaa", sum := "91826752e940d35c9fb88172f7f898818375abd3060ef92e6063f79389dc57da", func := "almonry/almonrylaw02.AluDivides", spec := "aluDivides", unfollowed := true, recurses := true, apart := false, narrowed := true }
def AluDividesUptoSaid : Prop := aluDividesUptoRow.holds Try.pinned (OpenSpec.upto aluDividesSpec)

/-- 'almonrylaw02.AluMultiplies', WHERE WHAT IT READS IS OF BULK AT MOST 1048576: true; the input reads as it did. -/
def aluMultipliesUptoRow : OpenClaim := { program := "ytfjdbiinkonhhaa", sum := "91826752e940d35c9fb88172f7f898818375abd3060ef92e6063f79389dc57da", func := "almonry/almonrylaw02.AluMultiplies", spec := "aluMultiplies", unfollowed := true, recurses := true, apart := false, narrowed := true }
def AluMultipliesUptoSaid : Prop := aluMultipliesUptoRow.holds Try.pinned (OpenSpec.upto aluMultipliesSpec)

/-- 'almonrylaw02.AluWords', WHERE WHAT IT READS IS OF BULK AT MOST 1048576: true; the input reads as it did. -/
def aluWordsUptoRow : OpenClaim := { program := "ytfjdbiinkonhhaa", sum := "91826752e940d35c9fb88172f7f898818375abd3060ef92e6063f79389dc57da", func := "almonry/almonrylaw02.AluWords", spec := "aluWords", unfollowed := true, recurses := true, apart := false, narrowed := true }
def AluWordsUptoSaid : Prop := aluWordsUptoRow.holds Try.pinned (OpenSpec.upto aluWordsSpec)

/-- 'almonrylaw02.AluAgrees', WHERE WHAT IT READS IS OF BULK AT MOST 1048576: true; the input reads as it did. -/
def aluAgreesUptoRow : OpenClaim := { program := "ytfjdbiinkonhhaa", sum := "91826752e940d35c9fb88172f7f898818375abd3060ef92e6063f79389dc57da", func := "almonry/almonrylaw02.AluAgrees", spec := "aluAgrees", unfollowed := true, recurses := true, apart := false, narrowed := true }
def AluAgreesUptoSaid : Prop := aluAgreesUptoRow.holds Try.pinned (OpenSpec.upto aluAgreesSpec)

/-- 'almonrylaw02.AluKnown', WHERE WHAT IT READS IS OF BULK AT MOST 1048576: true; the input reads as it did. -/
def aluKnownUptoRow : OpenClaim := { program := "ytfjdbiinkonhhaa", sum := "91826752e940d35c9fb88172f7f898818375abd3060ef92e6063f79389dc57da", func := "almonry/almonrylaw02.AluKnown", spec := "aluKnown", unfollowed := true, recurses := true, apart := false, narrowed := true }
def AluKnownUptoSaid : Prop := aluKnownUptoRow.holds Try.pinned (OpenSpec.upto aluKnownSpec)

end Rows
end Go.Proofs.Ytfjdbiinkonhhaa
