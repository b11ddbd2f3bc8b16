/-
  No cell of these rows narrows 'for every input' (looked for: loops, veiled, ifaces, maps, wideKeys, modest, calm, conditions, laid).
  DERIVED. THE GIVEN ROWS OF THIS SEAT. 7 by the template 'for every input the law returns true; each argument reads behind the call as it read before'; 0 by the template 'total and deterministic' (their statements: YtfdkmkblhicbfaaTotals.lean).
  GIVEN WITH THE SEED: the statements are not yours to turn. If you find one false, say at which input.
  Laid BY PROGRAM, IN A SANDBOX (cutbox-rows.mjs): the forced cells as the released guide's own fill.sh prints them over the translation f7f10f93cffa10d2… (all of the seat's roots in one cut). By AI agents, Wed Nov 11 2026. No macro, syntax, notation, axiom, sorry.
-/
import Derived.Test.YtfdkmkblhicbfaaChecked
import GoSem.Claim
import GoSem.ClaimJoined
import GoSem.ClaimMapViews
import Derived.JoinedTies
import Derived.KernelRfl
namespace Go.Proofs.Ytfdkmkblhicbfaa
/- THE CELL 'sum', in the pinned program and in every row, IS THE sha256 OF THE DUMP (.gsa) THAT YtfdkmkblhicbfaaProg.lean LOADS. Nothing in Lean hashes anything: it is a label: what it is worth is what the hold of that sum in a sandbox is worth. -/
noncomputable def Try.pinned : Pinned := { name := "ytfdkmkblhicbfaa", sum := "f7f10f93cffa10d2335e9634531e33d9867b18c5d63c04e3dbf73890fb48fd37", checked := Try.checked }
namespace Rows
def none {H : Type} : Left H := { results := [], args := [] }

/-- 'almonrylaw10.TrapPends': WHATEVER THE INPUT: true; the input reads as it did. -/
def trapPendsSpec : ChangeSpec := { name := "trapPends", fn := fun _ => fun
  | [d1, d2] => { results := [.lit (.bool true)], args := [d1, d2] }
  | _ => none }
def trapPendsRow : OpenClaim := { program := "ytfdkmkblhicbfaa", sum := "f7f10f93cffa10d2335e9634531e33d9867b18c5d63c04e3dbf73890fb48fd37", func := "almonry/almonrylaw10.TrapPends", spec := "trapPends", apart := false }
def TrapPendsSaid : Prop := trapPendsRow.holds Try.pinned (OpenSpec.ofChange trapPendsSpec)

/-- ITS FALSE NEIGHBOUR: 'it returns false'. Refute it at one input. -/
def trapPendsWrong : ChangeSpec := { name := "trapPends", fn := fun _ => fun
  | [d1, d2] => { results := [.lit (.bool false)], args := [d1, d2] }
  | _ => none }
def TrapPendsWrongFalsely : Prop := trapPendsRow.holds Try.pinned (OpenSpec.ofChange trapPendsWrong)

/-- 'almonrylaw10.TrapEnters': WHATEVER THE INPUT: true; the input reads as it did. -/
def trapEntersSpec : ChangeSpec := { name := "trapEnters", fn := fun _ => fun
  | [d1, d2, d3] => { results := [.lit (.bool true)], args := [d1, d2, d3] }
  | _ => none }
def trapEntersRow : OpenClaim := { program := "ytfdkmkblhicbfaa", sum := "f7f10f93cffa10d2335e9634531e33d9867b18c5d63c04e3dbf73890fb48fd37", func := "almonry/almonrylaw10.TrapEnters", spec := "trapEnters", apart := false }
def TrapEntersSaid : Prop := trapEntersRow.holds Try.pinned (OpenSpec.ofChange trapEntersSpec)

/-- ITS FALSE NEIGHBOUR: 'it returns false'. Refute it at one input. -/
def trapEntersWrong : ChangeSpec := { name := "trapEnters", fn := fun _ => fun
  | [d1, d2, d3] => { results := [.lit (.bool false)], args := [d1, d2, d3] }
  | _ => none }
def TrapEntersWrongFalsely : Prop := trapEntersRow.holds Try.pinned (OpenSpec.ofChange trapEntersWrong)

/-- 'almonrylaw10.TrapRises': WHATEVER THE INPUT: true; the input reads as it did. -/
def trapRisesSpec : ChangeSpec := { name := "trapRises", fn := fun _ => fun
  | [d1, d2, d3] => { results := [.lit (.bool true)], args := [d1, d2, d3] }
  | _ => none }
def trapRisesRow : OpenClaim := { program := "ytfdkmkblhicbfaa", sum := "f7f10f93cffa10d2335e9634531e33d9867b18c5d63c04e3dbf73890fb48fd37", func := "almonry/almonrylaw10.TrapRises", spec := "trapRises", apart := false }
def TrapRisesSaid : Prop := trapRisesRow.holds Try.pinned (OpenSpec.ofChange trapRisesSpec)

/-- ITS FALSE NEIGHBOUR: 'it returns false'. Refute it at one input. -/
def trapRisesWrong : ChangeSpec := { name := "trapRises", fn := fun _ => fun
  | [d1, d2, d3] => { results := [.lit (.bool false)], args := [d1, d2, d3] }
  | _ => none }
def TrapRisesWrongFalsely : Prop := trapRisesRow.holds Try.pinned (OpenSpec.ofChange trapRisesWrong)

/-- 'almonrylaw10.TrapFree': WHATEVER THE INPUT: true; the input reads as it did. -/
def trapFreeSpec : ChangeSpec := { name := "trapFree", fn := fun _ => fun
  | [d1, d2] => { results := [.lit (.bool true)], args := [d1, d2] }
  | _ => none }
def trapFreeRow : OpenClaim := { program := "ytfdkmkblhicbfaa", sum := "f7f10f93cffa10d2335e9634531e33d9867b18c5d63c04e3dbf73890fb48fd37", func := "almonry/almonrylaw10.TrapFree", spec := "trapFree", apart := false }
def TrapFreeSaid : Prop := trapFreeRow.holds Try.pinned (OpenSpec.ofChange trapFreeSpec)

/-- ITS FALSE NEIGHBOUR: 'it returns false'. Refute it at one input. -/
def trapFreeWrong : ChangeSpec := { name := "trapFree", fn := fun _ => fun
  | [d1, d2] => { results := [.lit (.bool false)], args := [d1, d2] }
  | _ => none }
def TrapFreeWrongFalsely : Prop := trapFreeRow.holds Try.pinned (OpenSpec.ofChange trapFreeWrong)

/-- 'almonrylaw10.TrapLeaves': WHATEVER THE INPUT: true; the input reads as it did. -/
def trapLeavesSpec : ChangeSpec := { name := "trapLeaves", fn := fun _ => fun
  | [d1, d2] => { results := [.lit (.bool true)], args := [d1, d2] }
  | _ => none }
def trapLeavesRow : OpenClaim := { program := "ytfdkmkblhicbfaa", sum := "f7f10f93cffa10d2335e9634531e33d9867b18c5d63c04e3dbf73890fb48fd37", func := "almonry/almonrylaw10.TrapLeaves", spec := "trapLeaves", apart := false }
def TrapLeavesSaid : Prop := trapLeavesRow.holds Try.pinned (OpenSpec.ofChange trapLeavesSpec)

/-- ITS FALSE NEIGHBOUR: 'it returns false'. Refute it at one input. -/
def trapLeavesWrong : ChangeSpec := { name := "trapLeaves", fn := fun _ => fun
  | [d1, d2] => { results := [.lit (.bool false)], args := [d1, d2] }
  | _ => none }
def TrapLeavesWrongFalsely : Prop := trapLeavesRow.holds Try.pinned (OpenSpec.ofChange trapLeavesWrong)

/-- 'almonrylaw10.TrapBack': WHATEVER THE INPUT: true; the input reads as it did. -/
def trapBackSpec : ChangeSpec := { name := "trapBack", fn := fun _ => fun
  | [d1, d2, d3] => { results := [.lit (.bool true)], args := [d1, d2, d3] }
  | _ => none }
def trapBackRow : OpenClaim := { program := "ytfdkmkblhicbfaa", sum := "f7f10f93cffa10d2335e9634531e33d9867b18c5d63c04e3dbf73890fb48fd37", func := "almonry/almonrylaw10.TrapBack", spec := "trapBack", apart := false }
def TrapBackSaid : Prop := trapBackRow.holds Try.pinned (OpenSpec.ofChange trapBackSpec)

/-- ITS FALSE NEIGHBOUR: 'it returns false'. Refute it at one input. -/
def trapBackWrong : ChangeSpec := { name := "trapBack", fn := fun _ => fun
  | [d1, d2, d3] => { results := [.lit (.bool false)], args := [d1, d2, d3] }
  | _ => none }
def TrapBackWrongFalsely : Prop := trapBackRow.holds Try.pinned (OpenSpec.ofChange trapBackWrong)

/-- 'almonrylaw10.TrapKnown': WHATEVER THE INPUT: true; the input reads as it did. -/
def trapKnownSpec : ChangeSpec := { name := "trapKnown", fn := fun _ => fun
  | [] => { results := [.lit (.bool true)], args := [] }
  | _ => none }
def trapKnownRow : OpenClaim := { program := "ytfdkmkblhicbfaa", sum := "f7f10f93cffa10d2335e9634531e33d9867b18c5d63c04e3dbf73890fb48fd37", func := "almonry/almonrylaw10.TrapKnown", spec := "trapKnown", apart := false }
def TrapKnownSaid : Prop := trapKnownRow.holds Try.pinned (OpenSpec.ofChange trapKnownSpec)

/-- ITS FALSE NEIGHBOUR: 'it returns false'. Refute it at one input. -/
def trapKnownWrong : ChangeSpec := { name := "trapKnown", fn := fun _ => fun
  | [] => { results := [.lit (.bool false)], args := [] }
  | _ => none }
def TrapKnownWrongFalsely : Prop := trapKnownRow.holds Try.pinned (OpenSpec.ofChange trapKnownWrong)

/- THE SECOND FORM. 'bulk': how many values and letters a reading holds, each counted each time it is reached (what is shared counts as often as it is met; a slice's spare places count too). A statement '..UptoSaid' is the law's where the arguments, and the package variables that the reading takes, are together of bulk at most 1048576: NARROWER than '..Said'. Prove '..Said' where nothing that the law and all that it calls make is longer than what came in: it says more and counts as full. Else prove '..UptoSaid'. A law counts once. -/
mutual
def uptoBulk {H : Type} : DataW H → Nat
  | .lit (.string bytes) => bytes.length + 1
  | .lit _ => 1
  | .nil => 1
  | .ptr d => uptoBulk d + 1
  | .slice elems spare => uptoBulkAll elems + uptoBulkAll spare + 1
  | .agg parts => uptoBulkAll parts + 1
  | .iface _ d => uptoBulk d + 1
  | .map entries => uptoBulkEntries entries + 1
  | .held _ => 1
def uptoBulkAll {H : Type} : List (DataW H) → Nat
  | [] => 0
  | d :: r => uptoBulk d + uptoBulkAll r
def uptoBulkEntries {H : Type} : List (Lit × DataW H) → Nat
  | [] => 0
  | x :: r => uptoBulkEntry x + uptoBulkEntries r
def uptoBulkEntry {H : Type} : Lit × DataW H → Nat
  | (.string bytes, d) => bytes.length + uptoBulk d + 1
  | (_, d) => uptoBulk d + 1
 end
def uptoSmall : (H : Type) → List (DataW H) → Bool := fun _ ds => decide (uptoBulkAll ds ≤ 1048576)
def OpenSpec.upto (s : _root_.Go.ChangeSpec) : _root_.Go.OpenSpec := { _root_.Go.OpenSpec.ofChange s with cond := some uptoSmall }

/-- 'almonrylaw10.TrapPends', WHERE WHAT IT READS IS OF BULK AT MOST 1048576: true; the input reads as it did. -/
def trapPendsUptoRow : OpenClaim := { program := "ytfdkmkblhicbfaa", sum := "f7f10f93cffa10d2335e9634531e33d9867b18c5d63c04e3dbf73890fb48fd37", func := "almonry/almonrylaw10.TrapPends", spec := "trapPends", apart := false, narrowed := true }
def TrapPendsUptoSaid : Prop := trapPendsUptoRow.holds Try.pinned (OpenSpec.upto trapPendsSpec)

/-- 'almonrylaw10.TrapEnters', WHERE WHAT IT READS IS OF BULK AT MOST 1048576: true; the input reads as it did. -/
def trapEntersUptoRow : OpenClaim := { program := "ytfdkmkblhicbfaa", sum := "f7f10f93cffa10d2335e9634531e33d9867b18c5d63c04e3dbf73890fb48fd37", func := "almonry/almonrylaw10.TrapEnters", spec := "trapEnters", apart := false, narrowed := true }
def TrapEntersUptoSaid : Prop := trapEntersUptoRow.holds Try.pinned (OpenSpec.upto trapEntersSpec)

/-- 'almonrylaw10.TrapRises', WHERE WHAT IT READS IS OF BULK AT MOST 1048576: true; the input reads as it did. -/
def trapRisesUptoRow : OpenClaim := { program := "ytfdkmkblhicbfaa", sum := "f7f10f93cffa10d2335e9634531e33d9867b18c5d63c04e3dbf73890fb48fd37", func := "almonry/almonrylaw10.TrapRises", spec := "trapRises", apart := false, narrowed := true }
def TrapRisesUptoSaid : Prop := trapRisesUptoRow.holds Try.pinned (OpenSpec.upto trapRisesSpec)

/-- 'almonrylaw10.TrapFree', WHERE WHAT IT READS IS OF BULK AT MOST 1048576: true; the input reads as it did. -/
def trapFreeUptoRow : OpenClaim := { program := "ytfdkmkblhicbfaa", sum := "f7f10f93cffa10d2335e9634531e33d9867b18c5d63c04e3dbf73890fb48fd37", func := "almonry/almonrylaw10.TrapFree", spec := "trapFree", apart := false, narrowed := true }
def TrapFreeUptoSaid : Prop := trapFreeUptoRow.holds Try.pinned (OpenSpec.upto trapFreeSpec)

/-- 'almonrylaw10.TrapLeaves', WHERE WHAT IT READS IS OF BULK AT MOST 1048576: true; the input reads as it did. -/
def trapLeavesUptoRow : OpenClaim := { program := "ytfdkmkblhicbfaa", sum := "f7f10f93cffa10d2335e9634531e33d9867b18c5d63c04e3dbf73890fb48fd37", func := "almonry/almonrylaw10.TrapLeaves", spec := "trapLeaves", apart := false, narrowed := true }
def TrapLeavesUptoSaid : Prop := trapLeavesUptoRow.holds Try.pinned (OpenSpec.upto trapLeavesSpec)

/-- 'almonrylaw10.TrapBack', WHERE WHAT IT READS IS OF BULK AT MOST 1048576: true; the input reads as it did. -/
def trapBackUptoRow : OpenClaim := { program := "ytfdkmkblhicbfaa", sum := "f7f10f93cffa10d2335e9634531e33d9867b18c5d63c04e3dbf73890fb48fd37", func := "almonry/almonrylaw10.TrapBack", spec := "trapBack", apart := false, narrowed := true }
def TrapBackUptoSaid : Prop := trapBackUptoRow.holds Try.pinned (OpenSpec.upto trapBackSpec)

/-- 'almonrylaw10.TrapKnown', WHERE WHAT IT READS IS OF BULK AT MOST 1048576: true; the input reads as it did. -/
def trapKnownUptoRow : OpenClaim := { program := "ytfdkmkblhicbfaa", sum := "f7f10f93cffa10d2335e9634531e33d9867b18c5d63c04e3dbf73890fb48fd37", func := "almonry/almonrylaw10.TrapKnown", spec := "trapKnown", apart := false, narrowed := true }
def TrapKnownUptoSaid : Prop := trapKnownUptoRow.holds Try.pinned (OpenSpec.upto trapKnownSpec)

end Rows
end Go.Proofs.Ytfdkmkblhicbfaa
