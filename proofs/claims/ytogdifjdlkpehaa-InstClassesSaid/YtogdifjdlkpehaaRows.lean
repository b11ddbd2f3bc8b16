/-
  No cell of these rows narrows 'for every input' (looked for: loops, veiled, ifaces, maps, wideKeys, modest, calm, conditions, laid).
  DERIVED. THE GIVEN ROWS OF THIS SEAT. 6 by the template 'for every input the law returns true; each argument reads behind the call as it read before'; 0 by the template 'total and deterministic' (their statements: YtogdifjdlkpehaaTotals.lean).
  GIVEN WITH THE SEED: the statements are not yours to turn. If you find one false, say at which input.
  Laid BY PROGRAM, IN A SANDBOX (cutbox-rows.mjs): the forced cells as the released guide's own fill.sh prints them over the translation 59dcdd56d6b99c63… (all of the seat's roots in one cut). By AI agents, Wed Nov 11 2026. No macro, syntax, notation, axiom, sorry.
-/
import Derived.Test.YtogdifjdlkpehaaChecked
import GoSem.Claim
import GoSem.ClaimJoined
import GoSem.ClaimMapViews
import Derived.JoinedTies
import Derived.KernelRfl
namespace Go.Proofs.Ytogdifjdlkpehaa
/- THE CELL 'sum', in the pinned program and in every row, IS THE sha256 OF THE DUMP (.gsa) THAT YtogdifjdlkpehaaProg.lean LOADS. Nothing in Lean hashes anything: it is a label: what it is worth is what the hold of that sum in a sandbox is worth. -/
noncomputable def Try.pinned : Pinned := { name := "ytogdifjdlkpehaa", sum := "59dcdd56d6b99c63ad3d98e919d5edc6f4d90ad8ab48469557416d13785d77eb", checked := Try.checked }
namespace Rows
def none {H : Type} : Left H := { results := [], args := [] }

/-- 'almonrylaw03.InstDecodes': WHATEVER THE INPUT: true; the input reads as it did. -/
def instDecodesSpec : ChangeSpec := { name := "instDecodes", fn := fun _ => fun
  | [d] => { results := [.lit (.bool true)], args := [d] }
  | _ => none }
def instDecodesRow : OpenClaim := { program := "ytogdifjdlkpehaa", sum := "59dcdd56d6b99c63ad3d98e919d5edc6f4d90ad8ab48469557416d13785d77eb", func := "almonry/almonrylaw03.InstDecodes", spec := "instDecodes", unfollowed := true, recurses := true, apart := false }
def InstDecodesSaid : Prop := instDecodesRow.holds Try.pinned (OpenSpec.ofChange instDecodesSpec)

/-- ITS FALSE NEIGHBOUR: 'it returns false'. Refute it at one input. -/
def instDecodesWrong : ChangeSpec := { name := "instDecodes", fn := fun _ => fun
  | [d] => { results := [.lit (.bool false)], args := [d] }
  | _ => none }
def InstDecodesWrongFalsely : Prop := instDecodesRow.holds Try.pinned (OpenSpec.ofChange instDecodesWrong)

/-- 'almonrylaw03.InstChecks': WHATEVER THE INPUT: true; the input reads as it did. -/
def instChecksSpec : ChangeSpec := { name := "instChecks", fn := fun _ => fun
  | [d] => { results := [.lit (.bool true)], args := [d] }
  | _ => none }
def instChecksRow : OpenClaim := { program := "ytogdifjdlkpehaa", sum := "59dcdd56d6b99c63ad3d98e919d5edc6f4d90ad8ab48469557416d13785d77eb", func := "almonry/almonrylaw03.InstChecks", spec := "instChecks", unfollowed := true, recurses := true, apart := false }
def InstChecksSaid : Prop := instChecksRow.holds Try.pinned (OpenSpec.ofChange instChecksSpec)

/-- ITS FALSE NEIGHBOUR: 'it returns false'. Refute it at one input. -/
def instChecksWrong : ChangeSpec := { name := "instChecks", fn := fun _ => fun
  | [d] => { results := [.lit (.bool false)], args := [d] }
  | _ => none }
def InstChecksWrongFalsely : Prop := instChecksRow.holds Try.pinned (OpenSpec.ofChange instChecksWrong)

/-- 'almonrylaw03.InstKnown': WHATEVER THE INPUT: true; the input reads as it did. -/
def instKnownSpec : ChangeSpec := { name := "instKnown", fn := fun _ => fun
  | [] => { results := [.lit (.bool true)], args := [] }
  | _ => none }
def instKnownRow : OpenClaim := { program := "ytogdifjdlkpehaa", sum := "59dcdd56d6b99c63ad3d98e919d5edc6f4d90ad8ab48469557416d13785d77eb", func := "almonry/almonrylaw03.InstKnown", spec := "instKnown", unfollowed := true, recurses := true, apart := false }
def InstKnownSaid : Prop := instKnownRow.holds Try.pinned (OpenSpec.ofChange instKnownSpec)

/-- ITS FALSE NEIGHBOUR: 'it returns false'. Refute it at one input. -/
def instKnownWrong : ChangeSpec := { name := "instKnown", fn := fun _ => fun
  | [] => { results := [.lit (.bool false)], args := [] }
  | _ => none }
def InstKnownWrongFalsely : Prop := instKnownRow.holds Try.pinned (OpenSpec.ofChange instKnownWrong)

/-- 'almonrylaw03.InstOne': WHATEVER THE INPUT: true; the input reads as it did. -/
def instOneSpec : ChangeSpec := { name := "instOne", fn := fun _ => fun
  | [d] => { results := [.lit (.bool true)], args := [d] }
  | _ => none }
def instOneRow : OpenClaim := { program := "ytogdifjdlkpehaa", sum := "59dcdd56d6b99c63ad3d98e919d5edc6f4d90ad8ab48469557416d13785d77eb", func := "almonry/almonrylaw03.InstOne", spec := "instOne", unfollowed := true, recurses := true, apart := false }
def InstOneSaid : Prop := instOneRow.holds Try.pinned (OpenSpec.ofChange instOneSpec)

/-- ITS FALSE NEIGHBOUR: 'it returns false'. Refute it at one input. -/
def instOneWrong : ChangeSpec := { name := "instOne", fn := fun _ => fun
  | [d] => { results := [.lit (.bool false)], args := [d] }
  | _ => none }
def InstOneWrongFalsely : Prop := instOneRow.holds Try.pinned (OpenSpec.ofChange instOneWrong)

/-- 'almonrylaw03.InstSame': WHATEVER THE INPUT: true; the input reads as it did. -/
def instSameSpec : ChangeSpec := { name := "instSame", fn := fun _ => fun
  | [d1, d2] => { results := [.lit (.bool true)], args := [d1, d2] }
  | _ => none }
def instSameRow : OpenClaim := { program := "ytogdifjdlkpehaa", sum := "59dcdd56d6b99c63ad3d98e919d5edc6f4d90ad8ab48469557416d13785d77eb", func := "almonry/almonrylaw03.InstSame", spec := "instSame", unfollowed := true, recurses := true, apart := false }
def InstSameSaid : Prop := instSameRow.holds Try.pinned (OpenSpec.ofChange instSameSpec)

/-- ITS FALSE NEIGHBOUR: 'it returns false'. Refute it at one input. -/
def instSameWrong : ChangeSpec := { name := "instSame", fn := fun _ => fun
  | [d1, d2] => { results := [.lit (.bool false)], args := [d1, d2] }
  | _ => none }
def InstSameWrongFalsely : Prop := instSameRow.holds Try.pinned (OpenSpec.ofChange instSameWrong)

/-- 'almonrylaw03.InstClasses': WHATEVER THE INPUT: true; the input reads as it did. -/
def instClassesSpec : ChangeSpec := { name := "instClasses", fn := fun _ => fun
  | [] => { results := [.lit (.bool true)], args := [] }
  | _ => none }
def instClassesRow : OpenClaim := { program := "ytogdifjdlkpehaa", sum := "59dcdd56d6b99c63ad3d98e919d5edc6f4d90ad8ab48469557416d13785d77eb", func := "almonry/almonrylaw03.InstClasses", spec := "instClasses", unfollowed := true, recurses := true, apart := false }
def InstClassesSaid : Prop := instClassesRow.holds Try.pinned (OpenSpec.ofChange instClassesSpec)

/-- ITS FALSE NEIGHBOUR: 'it returns false'. Refute it at one input. -/
def instClassesWrong : ChangeSpec := { name := "instClasses", fn := fun _ => fun
  | [] => { results := [.lit (.bool false)], args := [] }
  | _ => none }
def InstClassesWrongFalsely : Prop := instClassesRow.holds Try.pinned (OpenSpec.ofChange instClassesWrong)

/- THE SECOND FORM. 'bulk': how many values and letters a reading holds, each counted each time it is reached (what is shared counts as often as it is met; a slice's spare places count too). A statement '..UptoSaid' is the law's where the arguments, and the package variables that the reading takes, are together of bulk at most 1048576: NARROWER than '..Said'. Prove '..Said' where nothing that the law and all that it calls make is longer than what came in: it says more and counts as full. Else prove '..UptoSaid'. A law counts once. -/
mutual
def uptoBulk {H : Type} : DataW H → Nat
  | .lit (.string bytes) => bytes.length + 1
  | .lit _ => 1
  | .nil => 1
  | .ptr d => uptoBulk d + 1
  | .slice elems spare => uptoBulkAll elems + uptoBulkAll spare + 1
  | .agg parts => uptoBulkAll parts + 1
  | .iface _ d => uptoBulk d + 1
  | .map entries => uptoBulkEntries entries + 1
  | .held _ => 1
def uptoBulkAll {H : Type} : List (DataW H) → Nat
  | [] => 0
  | d :: r => uptoBulk d + uptoBulkAll r
def uptoBulkEntries {H : Type} : List (Lit × DataW H) → Nat
  | [] => 0
  | x :: r => uptoBulkEntry x + uptoBulkEntries r
def uptoBulkEntry {H : Type} : Lit × DataW H → Nat
  | (.string bytes, d) => bytes.length + uptoBulk d + 1
  | (_, d) => uptoBulk d + 1
 end
def uptoSmall : (H : Type) → List (DataW H) → Bool := fun _ ds => decide (uptoBulkAll ds ≤ 1048576)
def OpenSpec.upto (s : _root_.Go.ChangeSpec) : _root_.Go.OpenSpec := { _root_.Go.OpenSpec.ofChange s with cond := some uptoSmall }

/-- 'almonrylaw03.InstDecodes', WHERE WHAT IT READS IS OF BULK AT MOST 1048576: true; the input reads as it did. -/
def instDecodesUptoRow : OpenClaim := { program := "ytogdifjdlkpehaa", sum := "59dcdd56d6b99c63ad3d98e919d5edc6f4d90ad8ab48469557416d13785d77eb", func := "almonry/almonrylaw03.InstDecodes", spec := "instDecodes", unfollowed := true, recurses := true, apart := false, narrowed := true }
def InstDecodesUptoSaid : Prop := instDecodesUptoRow.holds Try.pinned (OpenSpec.upto instDecodesSpec)

/-- 'almonrylaw03.InstChecks', WHERE WHAT IT READS IS OF BULK AT MOST 1048576: true; the input reads as it did. -/
def instChecksUptoRow : OpenClaim := { program := "ytogdifjdlkpehaa", sum := "59dcdd56d6b99c63ad3d98e919d5edc6f4d90ad8ab48469557416d13785d77eb", func := "almonry/almonrylaw03.InstChecks", spec := "instChecks", unfollowed := true, recurses := true, apart := false, narrowed := true }
def InstChecksUptoSaid : Prop := instChecksUptoRow.holds Try.pinned (OpenSpec.upto instChecksSpec)

/-- 'almonrylaw03.InstKnown', WHERE WHAT IT READS IS OF BULK AT MOST 1048576: true; the input reads as it did. -/
def instKnownUptoRow : OpenClaim := { program := "ytogdifjdlkpehaa", sum := "59dcdd56d6b99c63ad3d98e919d5edc6f4d90ad8ab48469557416d13785d77eb", func := "almonry/almonrylaw03.InstKnown", spec := "instKnown", unfollowed := true, recurses := true, apart := false, narrowed := true }
def InstKnownUptoSaid : Prop := instKnownUptoRow.holds Try.pinned (OpenSpec.upto instKnownSpec)

/-- 'almonrylaw03.InstOne', WHERE WHAT IT READS IS OF BULK AT MOST 1048576: true; the input reads as it did. -/
def instOneUptoRow : OpenClaim := { program := "ytogdifjdlkpehaa", sum := "59dcdd56d6b99c63ad3d98e919d5edc6f4d90ad8ab48469557416d13785d77eb", func := "almonry/almonrylaw03.InstOne", spec := "instOne", unfollowed := true, recurses := true, apart := false, narrowed := true }
def InstOneUptoSaid : Prop := instOneUptoRow.holds Try.pinned (OpenSpec.upto instOneSpec)

/-- 'almonrylaw03.InstSame', WHERE WHAT IT READS IS OF BULK AT MOST 1048576: true; the input reads as it did. -/
def instSameUptoRow : OpenClaim := { program := "ytogdifjdlkpehaa", sum := "59dcdd56d6b99c63ad3d98e919d5edc6f4d90ad8ab48469557416d13785d77eb", func := "almonry/almonrylaw03.InstSame", spec := "instSame", unfollowed := true, recurses := true, apart := false, narrowed := true }
def InstSameUptoSaid : Prop := instSameUptoRow.holds Try.pinned (OpenSpec.upto instSameSpec)

/-- 'almonrylaw03.InstClasses', WHERE WHAT IT READS IS OF BULK AT MOST 1048576: true; the input reads as it did. -/
def instClassesUptoRow : OpenClaim := { program := "ytogdifjdlkpehaa", sum := "59dcdd56d6b99c63ad3d98e919d5edc6f4d90ad8ab48469557416d13785d77eb", func := "almonry/almonrylaw03.InstClasses", spec := "instClasses", unfollowed := true, recurses := true, apart := false, narrowed := true }
def InstClassesUptoSaid : Prop := instClassesUptoRow.holds Try.pinned (OpenSpec.upto instClassesSpec)

end Rows
end Go.Proofs.Ytogdifjdlkpehaa
