/- A statement whose order is open inside a round of a range over a function: its operations are no calls and no deferred ones; they read, and behind all of them stand a few in one forced order (stores): one walk serves every order. No program stands in here. -/
import Derived.Test.YtefhcadlakakbaaTail
import Derived.OrdersIn
namespace Go.Proofs.Ytefhcadlakakbaa
open Go.RowKit
set_option linter.all false

/-- an operation that enters nothing -/
def plainB (o : Oper) : Bool :=
  match o.op with
  | .move _ | .assign _ | .pick .. | .alloc _ | .box .. | .build .. | .load .. | .store .. | .binOp .. | .unOp .. | .convert .. | .fieldAddr .. | .indexAddr .. | .index .. | .extract .. => true
  | _ => false

theorem plain_run {P : Program} {o : Oper} (h : plainB o = true) (ρ : Operand → Value) (w : World) :
    (∃ v w', (execOp ρ o).run P w = .ok (.value v) w') ∨ (∃ w', (execOp ρ o).run P w = .ok .skip w') ∨ (∃ x w', (execOp ρ o).run P w = .halt x w') := by
  have hv : ∀ s : Sem Value, (∃ v w', (do pure (Next.value (← s)) : Sem Next).run P w = .ok (.value v) w') ∨ (∃ w', (do pure (Next.value (← s)) : Sem Next).run P w = .ok .skip w') ∨ (∃ x w', (do pure (Next.value (← s)) : Sem Next).run P w = .halt x w') := by
    intro s
    simp only [Sem.run_bind, Sem.run_pure]
    cases s.run P w with
    | ok v w' => exact .inl ⟨v, w', rfl⟩
    | halt x w' => exact .inr (.inr ⟨x, w', rfl⟩)
  have hu : ∀ s : Sem Unit, (∃ v w', (do s; pure Next.skip : Sem Next).run P w = .ok (.value v) w') ∨ (∃ w', (do s; pure Next.skip : Sem Next).run P w = .ok .skip w') ∨ (∃ x w', (do s; pure Next.skip : Sem Next).run P w = .halt x w') := by
    intro s
    simp only [Sem.run_bind, Sem.run_pure]
    cases s.run P w with
    | ok v w' => exact .inr (.inl ⟨w', rfl⟩)
    | halt x w' => exact .inr (.inr ⟨x, w', rfl⟩)
  unfold plainB at h
  unfold execOp
  generalize o.op = p at h
  cases p <;> first | (cases h; done) | exact hv _ | exact hu _ | (exact .inl ⟨_, _, rfl⟩) | skip
  all_goals
    simp only [Sem.run_bind, Sem.run_pure]
    rename_i c _ _
    cases (asBool (ρ c)).run P w with
    | ok v w' => exact .inl ⟨_, w', rfl⟩
    | halt x w' => exact .inr (.inr ⟨x, w', rfl⟩)

theorem plain_no {o : Oper} (h : plainB o = true) : (∀ c, o.op ≠ .defer c) ∧ (∀ c, o.op ≠ .call c) := by
  unfold plainB at h
  refine ⟨fun c e => ?_, fun c e => ?_⟩ <;> · rw [e] at h; cases h
theorem plain_about {P : Program} {o : Oper} (h : plainB o = true) (w : World) (ρ : Operand → Value) : o.about P w ρ = none := by
  have := (plain_no h).2
  unfold Oper.about
  cases e : o.op <;> first | rfl | exact absurd e (this _)

theorem oper_in {F : Fence} {n : Nat} {P : Program} {o : Oper} (h : plainB o = true) {a : Act} {w : World} {K : Act → World → Prop} {Q : Exit → Act → World → Prop} (hp : o.wp P a w K Q) : o.wpIn F n P a w K Q := by
  refine ⟨fun g hg => (by rw [plain_about h] at hg; cases hg), ?_⟩
  rw [Oper.semAt_eq _ _ _ (plain_no h).1]
  unfold Oper.wp at hp
  rcases plain_run (P := P) h a.eval w with ⟨v, w', e⟩ | ⟨w', e⟩ | ⟨x, w', e⟩
  · rw [e] at hp ⊢; exact hp
  · rw [e] at hp ⊢; exact hp
  · rw [e] at hp ⊢
    cases x <;> exact hp

theorem any_in {F : Fence} {n : Nat} {P : Program} {md : Region.Mode} {ops : Array Oper} {Q : Exit → Act → World → Prop} (hops : ops.all plainB = true) (hQ : ¬ LetsOut Q) : ∀ (f : Nat) (listed : Array Bool) (a : Act) (w : World),
    wpAny P md ops Q f listed a w → wpAnyIn F n P md ops Q f listed a w
  | 0, _, _, _, h => h
  | f + 1, listed, a, w, h => ⟨h.1, fun i hi => by
    have h2 := h.2 i hi
    unfold wpOp at h2
    unfold wpOpIn
    cases e : ops[i]? with
    | none => rw [e] at h2; exact any_in hops hQ f _ _ _ h2
    | some o =>
      have ho : plainB o = true := by
        rw [Array.all_eq_true'] at hops
        exact hops o (Array.mem_of_getElem? e)
      rw [e] at h2
      simp only [] at h2 ⊢
      split
      · rename_i hw
        rw [if_pos hw] at h2
        rcases h2 with h2 | h2
        · exact oper_in ho (Oper.wp_mono (fun a w => any_in hops hQ f _ a w) h2)
        · exact absurd h2.2 hQ
      · rename_i hw
        rw [if_neg hw] at h2
        exact ⟨fun g hg => (by rw [plain_about ho] at hg; cases hg), any_in hops hQ f _ _ _ h2⟩⟩

section
variable {F : Fence} {n : Nat} {P : Program}
/-- The first m operations in the order of the text, in every world that w has grown to; then the rest, one behind the other: inside whatever fence and round. -/
theorem wpIn_region_ext_tail {id : Nat} {Q : Exit → Act → World → Prop} {a : Act} {w : World} {l : List Oper} (m : Nat) (hm : P.follows .mixedOrders = true) (hops : l.toArray.all plainB = true) (hQ : ¬ LetsOut Q) (hB : Region.lexTailB .any l.toArray m = true)
    (h : wpQuiet P l.toArray (fun w' => ∃ x : Ext w, w' = x.w) (fun a' => ∀ w', (∃ x : Ext w, w' = x.w) → wpList P l.toArray Q (l.drop m) a' w') (l.take m) a) : (Code.region id l.toArray true).wpIn F n P Q a w := by
  simp only [Region.lexTailB, Bool.and_eq_true, decide_eq_true_eq] at hB
  obtain ⟨⟨⟨⟨hsel, hn⟩, hs⟩, hc⟩, hlex⟩ := hB
  have htl : (l.take m).length = m := by have : m < l.length := by simpa using hn
                                         simp; omega
  have hdl : (l.drop m).length = l.toArray.size - m := by simp
  have inv0 : HeadInv .any l.toArray m (Array.replicate l.toArray.size false) :=
    ⟨by simp, fun j oj _ hl => (by rw [getD_replicate_false] at hl; cases hl), fun t _ ht => getD_in (by simpa using ht) (getD_replicate_false _ _)⟩
  have H := headAny_lex (md := .any) (g := l.toArray.size - m) hsel hs hc hn (l.take m) 0 (Array.replicate l.toArray.size false) a (fun j hj => by
    rw [htl] at hj
    simp [hj]) (by simpa using htl) inv0 (by rw [htl]; exact hlex) h
  refine wpIn_region_any hm (any_in hops hQ _ _ _ _ ?_)
  have := headAny_wp (md := .any) (Q' := Q) (g := l.toArray.size - m) (fun listed a' w' hw hL => by
    have := wpAny_of_seq (md := .any) (Q' := Q) (l.drop m) m listed a' w' (fun j => by simp [List.getElem?_drop]) (by rw [hdl]; exact hL.1) (hL.2 w' hw)
    rwa [hdl] at this) _ _ _ { w with drawn := w.drawn + 1 } ⟨⟨w.drew, (Fr.refl _ _).drew⟩, rfl⟩ H
  rw [htl, show m + (l.toArray.size - m) = l.toArray.size by omega] at this
  exact this
end
end Go.Proofs.Ytefhcadlakakbaa
