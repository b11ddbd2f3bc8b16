/- Operations that only make values out of closed operands, taken all at once: one computation of the frame in place of a step for each. No program stands in here. -/
import Derived.Test.YtogdifjdlkpehaaBase
import Derived.Laws.Tables
import Derived.Great.BuildSlice
namespace Go.Proofs.Ytogdifjdlkpehaa
set_option linter.all false
open Go.RowKit

/-- what an operation makes, where it makes a value alone -/
def pureOp (P : Program) (a : Act) (o : Oper) : Option Value :=
  match o.guard, o.op with
  | none, .move x => some (a.eval x)
  | none, .assign x => some (a.eval x)
  | none, .build t parts => (P.built t (parts.map fun (i, x) => (i, a.eval x)).toList).map .agg
  | _, _ => none
def pureOps (P : Program) : List Oper → Act → Option Act
  | [], a => some a
  | o :: r, a => match pureOp P a o with
    | some v => pureOps P r (a.put o.dst v)
    | none => none
theorem pureOp_wp {P : Program} {ops : Array Oper} {rest : List Oper} {o : Oper} {a : Act} {w : World} {Q : Exit → Act → World → Prop} {v : Value} (h : pureOp P a o = some v) (k : wpList P ops Q rest (a.put o.dst v) w) : wpList P ops Q (o :: rest) a w := by
  unfold pureOp at h
  split at h
  · rename_i x hg ho
    cases h
    refine wpList_plain hg fun K hK => ?_
    unfold Oper.wp execOp
    simp only [ho]
    exact hK _ _ k
  · rename_i x hg ho
    cases h
    refine wpList_plain hg fun K hK => ?_
    unfold Oper.wp execOp
    simp only [ho]
    exact hK _ _ k
  · rename_i t parts hg ho
    cases hb : P.built t (parts.map fun (i, x) => (i, a.eval x)).toList with
    | none => rw [hb] at h; cases h
    | some cells =>
      rw [hb] at h
      cases h
      exact wpList_buildTo hg t parts ho o.dst rfl cells hb k
  · cases h
theorem pureOps_wp {P : Program} {ops : Array Oper} {rest : List Oper} {w : World} {Q : Exit → Act → World → Prop} : ∀ (l : List Oper) (a a' : Act), pureOps P l a = some a' → wpList P ops Q rest a' w → wpList P ops Q (l ++ rest) a w
  | [], a, a', h, k => by cases h; exact k
  | o :: r, a, a', h, k => by
    unfold pureOps at h
    split at h
    · rename_i v hv
      exact pureOp_wp hv (pureOps_wp r _ a' h k)
    · cases h
/-- the first n operations of a list -/
theorem pures_wp {P : Program} {ops : Array Oper} {l : List Oper} {w : World} {Q : Exit → Act → World → Prop} (n : Nat) (a a' : Act) (rest : List Oper) (hr : l.drop n = rest) (h : pureOps P (l.take n) a = some a') (k : wpList P ops Q rest a' w) : wpList P ops Q l a w := by
  subst hr
  have := pureOps_wp (ops := ops) (l.take n) a a' h k
  rwa [List.take_append_drop] at this
end Go.Proofs.Ytogdifjdlkpehaa
