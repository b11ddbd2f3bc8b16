/- A whole struct or array stored into its block; results of which the first lies in a block. No program stands in here. -/
import Derived.Test.YtobaniebnejjiaaBase
import Derived.Deep.MidRow
namespace Go.Proofs.Ytobaniebnejjiaa
set_option linter.all false
open Go.RowKit

theorem setCells_blk {b : Nat} {t : TypeId} {f : Nat × Nat} : ∀ (vs : List Value) (o : Nat) (w : World) (c : Array Value), w.heap[b]? = some (.cells c t f) →
    ∃ c', (w.setCells b o vs).heap[b]? = some (.cells c' t f) ∧ c'.size = c.size
  | [], _, _, c, h => ⟨c, h, rfl⟩
  | v :: vs, o, w, c, h => by
    obtain ⟨c', h1, h2⟩ := setCells_blk vs (o + 1) (w.setCell ⟨b, o, none⟩ v) _ (blk_set h o v)
    exact ⟨c', h1, by rw [h2]; simp⟩

theorem setCells_fr {b : Nat} : ∀ (vs : List Value) (o : Nat) (w : World), Fr [b] w (w.setCells b o vs)
  | [], _, w => Fr.refl _ _
  | v :: vs, o, w => ((Fr.refl [b] w).setCell (p := ⟨b, o, none⟩) (.inl (by simp)) v).trans (setCells_fr vs (o + 1) _)

theorem setCells_whole {w : World} {b : Nat} {t : TypeId} {c c' : Array Value} (h : w.heap[b]? = some (.cells c t)) (hs : c.size = c'.size) : (w.setCells b 0 c'.toList).heap[b]? = some (.cells c' t) := by
  obtain ⟨c2, h1, h2⟩ := setCells_blk c'.toList 0 w c h
  have hr := World.rangeAt_setCells_same w b 0 c'.toList (fun j hj => by
    rw [blk_cell h, blk_free h]
    have : j < c.size := by simpa [hs] using hj
    simp [this])
  have : c2 = c' := by
    apply Array.ext_getElem?
    intro j
    rcases Nat.lt_or_ge j c'.size with hj | hj
    · have := hr j c'[j] (by simp [hj])
      rw [Nat.zero_add, blk_cell h1] at this
      rw [this]; simp [hj]
    · rw [Array.getElem?_eq_none (by omega), Array.getElem?_eq_none hj]
  rw [h1, this]

section
variable {P : Program}
theorem wpList_store_whole {ops : Array Oper} {rest : List Oper} {o : Oper} {a : Act} {w : World} {Q : Exit → Act → World → Prop} (hgd : o.guard = none) (ty : TypeId) (x y : Operand) (ho : o.op = .store ty x y)
    (g : Nat) (hx : a.eval x = .pointer (some ⟨g, 0, none⟩)) (c' : Array Value) (hy : a.eval y = .agg c') (t : TypeId) (c : Array Value) (hg : w.heap[g]? = some (.cells c t)) (hs : c.size = c'.size)
    (hi : (P.info? ty).map (·.size) = some c'.size) (h1 : c'.all (·.oneCell') = true) (h : ∀ w', w'.heap[g]? = some (.cells c' t) → Fr [g] w w' → wpList P ops Q rest (a.put o.dst undef) w') : wpList P ops Q (o :: rest) a w :=
  wpList_store_mid hgd ty x y ho g 0 c' hx hy (fun j hj => by
    rw [blk_cell hg, blk_free hg]
    have : j < c.size := by omega
    simp [this]) hi h1 (h _ (setCells_whole hg hs) (setCells_fr _ _ _))

theorem results_c {fn : Func} {p : Tmp} {ty : TypeId} (h : fn.results = #[.cell p ty]) {tmps : Array Value} {w : World} {g : Nat} {cs : Array Value} {t : TypeId} {fr : Nat × Nat} {d : TypeDesc} (hp : tmps.getD p undef = .pointer (some ⟨g, 0, none⟩))
    (hg : w.heap[g]? = some (.cells cs t fr)) (hu : P.underlying ty = some d) (hd : (match d with | .struct _ | .array _ _ => true | _ => false) = true) (hi : (P.info? ty).map (·.size) = some cs.size) :
    (results fn tmps).run P w = .ok (.agg cs) w := by
  have hp' : tmps[p]?.getD undef = .pointer (some ⟨g, 0, none⟩) := by simpa using hp
  have hl := run_loadVar_row w g t ty cs fr d hg hu hd hi
  simp only [results, h]
  simp [hp', asAddr, hl]

theorem results_ct {fn : Func} {p u : Tmp} {ty : TypeId} (h : fn.results = #[.cell p ty, .tmp u]) {tmps : Array Value} {w : World} {g : Nat} {cs : Array Value} {t : TypeId} {fr : Nat × Nat} {d : TypeDesc} (hp : tmps.getD p undef = .pointer (some ⟨g, 0, none⟩))
    (hg : w.heap[g]? = some (.cells cs t fr)) (hu : P.underlying ty = some d) (hd : (match d with | .struct _ | .array _ _ => true | _ => false) = true) (hi : (P.info? ty).map (·.size) = some cs.size) :
    (results fn tmps).run P w = .ok (.tuple #[.agg cs, tmps.getD u undef]) w := by
  have hp' : tmps[p]?.getD undef = .pointer (some ⟨g, 0, none⟩) := by simpa using hp
  have hl := run_loadVar_row w g t ty cs fr d hg hu hd hi
  simp only [results, h]
  simp [Result.andThen, hp', asAddr, hl]

theorem results_ctt {fn : Func} {p u v : Tmp} {ty : TypeId} (h : fn.results = #[.cell p ty, .tmp u, .tmp v]) {tmps : Array Value} {w : World} {g : Nat} {cs : Array Value} {t : TypeId} {fr : Nat × Nat} {d : TypeDesc} (hp : tmps.getD p undef = .pointer (some ⟨g, 0, none⟩))
    (hg : w.heap[g]? = some (.cells cs t fr)) (hu : P.underlying ty = some d) (hd : (match d with | .struct _ | .array _ _ => true | _ => false) = true) (hi : (P.info? ty).map (·.size) = some cs.size) :
    (results fn tmps).run P w = .ok (.tuple #[.agg cs, tmps.getD u undef, tmps.getD v undef]) w := by
  have hp' : tmps[p]?.getD undef = .pointer (some ⟨g, 0, none⟩) := by simpa using hp
  have hl := run_loadVar_row w g t ty cs fr d hg hu hd hi
  simp only [results, h]
  simp [Result.andThen, hp', asAddr, hl]
end
end Go.Proofs.Ytobaniebnejjiaa
