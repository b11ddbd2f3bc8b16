/- A statement whose order is open, and whose operations read, or call functions that make new blocks alone: one walk in the order of the text serves every order. No program stands in here. -/
import Derived.Test.YtobaniebnejjiaaBase
import Derived.Deep.Quiet
import Derived.Deep.QuietTactic
import Derived.BigQuiet
namespace Go.Proofs.Ytobaniebnejjiaa
set_option linter.all false
open Go.RowKit

/-- A world in which every block of w is as it was. -/
def Ext (w : World) : Type := { w' : World // Fr [] w w' }
def Ext.w {w : World} (n : Ext w) : World := n.1
theorem Ext.fr {w : World} (n : Ext w) : Fr [] w n.w := n.2
theorem ext_ne (w : World) : Nonempty (Ext w) := ⟨⟨w, Fr.refl _ _⟩⟩

section
variable {P : Program}
theorem wp_region_ext {id : Nat} {Q : Exit → Act → World → Prop} {a : Act} {w : World} {l : List Oper} (hm : P.follows .mixedOrders = true) (hB : Region.lexB .any l.toArray = true)
    (h : wpQuiet P l.toArray (fun w' => ∃ n : Ext w, w' = n.w) (fun a' => ∀ w', (∃ n : Ext w, w' = n.w) → Q .normal a' w') l a) : (Code.region id l.toArray true).wp P Q a w :=
  wp_region_quiet (C := fun w' => ∃ n : Ext w, w' = n.w) hm hB ⟨⟨w.drew, (Fr.refl _ _).drew⟩, rfl⟩ (by simpa using h)

/-- .. the world under a name of its own, of which only what F says is known. -/
theorem region_at (F : World → Prop) {id : Nat} {Q : Exit → Act → World → Prop} {a : Act} {w : World} {l : List Oper} (hm : P.follows .mixedOrders = true) (hB : Region.lexB .any l.toArray = true) (hF : F w)
    (h : ∀ W, F W → Nonempty (Ext W) → wpQuiet P l.toArray (fun w' => ∃ n : Ext W, w' = n.w) (fun a' => ∀ w', (∃ n : Ext W, w' = n.w) → Q .normal a' w') l a) : (Code.region id l.toArray true).wp P Q a w :=
  wp_region_ext hm hB (h w hF (ext_ne w))

theorem Ext.call {f : FuncId} {args : Array Value} {v : Value} {w : World} (n : Ext w) (h : Calls P f args n.w fun e w' => e = .returned v ∧ Fr [] n.w w') :
    Calls P f args n.w fun e w'' => e = .returned v ∧ ∃ m : Ext w, w'' = m.w :=
  h.mono fun _ w' ⟨h1, h2⟩ => ⟨h1, ⟨w', n.fr.trans h2⟩, rfl⟩
theorem Ext.same {f : FuncId} {args : Array Value} {v : Value} {w : World} (n : Ext w) (h : Calls P f args n.w fun e w' => e = .returned v ∧ n.w = w') :
    Calls P f args n.w fun e w'' => e = .returned v ∧ ∃ m : Ext w, w'' = m.w :=
  h.mono fun _ _ ⟨h1, h2⟩ => ⟨h1, n, h2.symm⟩

theorem Ext.blk {w : World} (n : Ext w) {b : Nat} {o : Obj} (h : w.heap[b]? = some o) : n.w.heap[b]? = some o := n.fr.keeps h (by simp)
theorem Ext.cell {w : World} (n : Ext w) {b : Nat} {cs : Array Value} {t : TypeId} {f : Nat × Nat} (h : w.heap[b]? = some (.cells cs t f)) (i : Nat) : n.w.cell? ⟨b, i, none⟩ = cs[i]? := blk_cell (n.blk h) i
theorem Ext.same_cell {w : World} (n : Ext w) {p : Addr} {v : Value} (h : w.cell? p = some v) : n.w.cell? p = some v := by
  have hlt : p.block < w.heap.size := by
    unfold World.cell? at h
    split at h
    · rename_i hb; exact lt_of_block hb
    · cases h
  rw [World.cell?_of_block (w := w) (n.fr.block p.block hlt (by simp))]
  exact h

/-- A whole struct or array read out of its block, in such a statement. -/
theorem quiet_row {C : World → Prop} {K : Act → Prop} {a : Act} {o : Oper} (ty : TypeId) (x : Operand) (ho : o.op = .load ty x) (g : Nat) (hx : a.eval x = .pointer (some ⟨g, 0, none⟩)) (t : TypeId) (cs : Array Value) (fr : Nat × Nat) (d : TypeDesc)
    (hg : ∀ w, C w → w.heap[g]? = some (.cells cs t fr)) (hu : P.underlying ty = some d) (hd : (match d with | .struct _ | .array _ _ => true | _ => false) = true) (hi : (P.info? ty).map (·.size) = some cs.size)
    (h : K (a.put o.dst (.agg cs))) : o.quiet P a C K := by
  refine ⟨.agg cs, fun w hw => ?_, h⟩
  unfold Oper.quietAt execOp
  simp only [ho, hx, Instr.loadAt, Instr.sureAddr, Sem.run_bind, Sem.run_pure, Result.andThen_ok, run_loadVar_row w g t ty cs fr d (hg w hw) hu hd hi]
  exact ⟨rfl, rfl⟩
end
end Go.Proofs.Ytobaniebnejjiaa
