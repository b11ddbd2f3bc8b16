/- Statements whose order is open and which hold a store: laws for taking a whole struct's load first, and for storing a whole one. No program stands in here. -/
import Derived.Test.YtobaniebnejjiaaWhole
import Derived.Deep.RegionHeld3
namespace Go.Proofs.Ytobaniebnejjiaa
set_option linter.all false
open Go.RowKit

section
variable {P : Program} {ops : Array Oper} {S : World → Prop}
theorem yieldsIf_row {o : Oper} {a : Act} (hw : Region.wanted o (yielded ops a.tmps) = true) (ty : TypeId) (x : Operand) (ho : o.op = .load ty x) (g : Nat) (hx : a.eval x = .pointer (some ⟨g, 0, none⟩)) (t : TypeId) (cs : Array Value) (fr : Nat × Nat) (d : TypeDesc)
    (hg : ∀ w, S w → w.heap[g]? = some (.cells cs t fr)) (hu : P.underlying ty = some d) (hd : (match d with | .struct _ | .array _ _ => true | _ => false) = true) (hi : (P.info? ty).map (·.size) = some cs.size) : YieldsIf P ops S o (.agg cs) a :=
  .inl ⟨hw, fun w hS => by
    unfold execOp
    simp only [ho, hx, Instr.loadAt, Instr.sureAddr, Sem.run_bind, Sem.run_pure, Result.andThen_ok, run_loadVar_row w g t ty cs fr d (hg w hS) hu hd hi]⟩

theorem yieldsIf_of {o : Oper} {a : Act} (v : Value) (hw : Region.wanted o (yielded ops a.tmps) = true) (h : ∀ w, S w → (execOp a.eval o).run P w = .ok (.value v) w) : YieldsIf P ops S o v a := .inl ⟨hw, h⟩

theorem wp_store_whole {o : Oper} {a : Act} {w : World} {K : Act → World → Prop} {Q : Exit → Act → World → Prop} (ty : TypeId) (x y : Operand) (ho : o.op = .store ty x y)
    (g : Nat) (hx : a.eval x = .pointer (some ⟨g, 0, none⟩)) (c' : Array Value) (hy : a.eval y = .agg c') (t : TypeId) (c : Array Value) (hg : w.heap[g]? = some (.cells c t)) (hs : c.size = c'.size)
    (hi : (P.info? ty).map (·.size) = some c'.size) (h1 : c'.all (·.oneCell') = true) (h : ∀ w', w'.heap[g]? = some (.cells c' t) → Fr [g] w w' → K (a.put o.dst undef) w') : o.wp P a w K Q :=
  wp_store_mid ty x y ho g 0 c' hx hy (fun j hj => by
    rw [blk_cell hg, blk_free hg]
    have : j < c.size := by omega
    simp [this]) hi h1 (h _ (setCells_whole hg hs) (setCells_fr _ _ _))
end
end Go.Proofs.Ytobaniebnejjiaa
