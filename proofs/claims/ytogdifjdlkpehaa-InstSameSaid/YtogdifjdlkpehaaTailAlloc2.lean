/- As TailAlloc, with two blocks that are made and wait for nothing. No program stands in here. -/
import Derived.Test.YtogdifjdlkpehaaK3
namespace Go.Proofs.Ytogdifjdlkpehaa
set_option linter.all false
open Go.RowKit

section
variable {P : Program} {ops : Array Oper} {md : Region.Mode}
theorem YieldsF.grow {w w1 : World} (h : Fr [] w w1) {o : Oper} {v : Value} {a : Act} (hy : YieldsF P ops w o v a) : YieldsF P ops w1 o v a := fun w2 h2 => hy w2 (h.trans h2)
theorem qF.grow {w w1 : World} (h : Fr [] w w1) {i : Nat} {a : Act} {K K' : Act → Prop} (hK : ∀ a, K a → K' a) (hq : qF P ops w i K a) : qF P ops w1 i K' a :=
  let ⟨o, v, h1, h2, h3⟩ := hq
  ⟨o, v, h1, h2.grow h, hK _ h3⟩
theorem hA_grow {w w1 : World} (h : Fr [] w w1) {n : Nat} {L : Array Bool → Act → Prop} : ∀ (f : Nat) (listed : Array Bool) (a : Act), hA P md ops w n L f listed a → hA P md ops w1 n L f listed a
  | 0, _, _, H => H
  | f + 1, _, _, H => ⟨H.1, fun i hi => ⟨(H.2 i hi).1, (H.2 i hi).2.grow h fun a => hA_grow h f _ a⟩⟩
theorem hB_grow {w w1 : World} (h : Fr [] w w1) {n k : Nat} {d : Option Tmp} {L : Nat → Array Bool → Act → Prop} : ∀ (f : Nat) (listed : Array Bool) (a : Act), hB P md ops w n k d L f listed a → hB P md ops w1 n k d L f listed a
  | 0, _, _, H => H
  | f + 1, _, _, H => ⟨H.1, fun i hi => ⟨(H.2 i hi).1, fun e A => hA_grow h f _ _ ((H.2 i hi).2.1 e A), fun e => ((H.2 i hi).2.2 e).grow h fun a => hB_grow h f _ a⟩⟩

def ptrV (A : Nat) : Value := .pointer (some ⟨A, 0, none⟩)
/-- whatever order the first n are picked in, two blocks being still to be made -/
def hC (P : Program) (md : Region.Mode) (ops : Array Oper) (w : World) (n k1 k2 : Nat) (d1 d2 : Option Tmp) (L : Nat → Nat → Array Bool → Act → Prop) : Nat → Array Bool → Act → Prop
  | 0, _, _ => False
  | f + 1, listed, a => Region.ready md ops listed ≠ [] ∧ ∀ i ∈ Region.ready md ops listed, i < n ∧
      (i = k1 → ∀ A, hB P md ops w n k2 d2 (fun B => L A B) f (listed.setIfInBounds k1 true) (a.put d1 (ptrV A))) ∧
      (i = k2 → ∀ B, hB P md ops w n k1 d1 (fun A => L A B) f (listed.setIfInBounds k2 true) (a.put d2 (ptrV B))) ∧
      (i ≠ k1 → i ≠ k2 → qF P ops w i (hC P md ops w n k1 k2 d1 d2 L f (listed.setIfInBounds i true)) a)

theorem hC_wp {w : World} {n k1 k2 g : Nat} {d1 d2 : Option Tmp} {Z1 Z2 : Obj} {L : Nat → Nat → Array Bool → Act → Prop} {Q' : Exit → Act → World → Prop} (hne : k1 ≠ k2)
    (hk1 : ∀ (a : Act) (w' : World) (K : Act → World → Prop), K (a.put d1 (ptrV w'.heap.size)) (w'.alloc Z1) → wpOp P ops Q' k1 K a w')
    (hk2 : ∀ (a : Act) (w' : World) (K : Act → World → Prop), K (a.put d2 (ptrV w'.heap.size)) (w'.alloc Z2) → wpOp P ops Q' k2 K a w')
    (hL : ∀ A B listed a w', Fr [] w w' → w'.heap[A]? = some Z1 → w'.heap[B]? = some Z2 → w.heap.size ≤ A → w.heap.size ≤ B → A ≠ B → L A B listed a → wpAny P md ops Q' g listed a w') (f : Nat) :
    ∀ (listed : Array Bool) (a : Act) (w' : World), Fr [] w w' → hC P md ops w n k1 k2 d1 d2 L f listed a → wpAny P md ops Q' (f + g) listed a w' := by
  induction f with
  | zero => intro listed a w' hw h; exact h.elim
  | succ f ih =>
    intro listed a w' hw h
    rw [show f + 1 + g = (f + g) + 1 by omega]
    refine ⟨fun h0 => absurd h0 h.1, fun i hi => ?_⟩
    by_cases hi1 : i = k1
    · subst hi1
      refine hk1 a w' _ ?_
      have hw1 : Fr [] w (w'.alloc Z1) := hw.alloc _
      refine hB_wp (w := w'.alloc Z1) hk2 (fun B listed a w'' h1 h2 h3 h4 => ?_) f _ _ _ (Fr.refl _ _) (hB_grow hw1 f _ _ ((h.2 i hi).2.1 rfl w'.heap.size))
      have hs : (w'.alloc Z1).heap.size = w'.heap.size + 1 := by simp
      exact hL w'.heap.size B listed a w'' (hw1.trans h1) (h1.keeps (blk_new _ _) (by simp)) h2 hw.size (by have := hw.size; omega) (by omega) h4
    by_cases hi2 : i = k2
    · subst hi2
      refine hk2 a w' _ ?_
      have hw1 : Fr [] w (w'.alloc Z2) := hw.alloc _
      refine hB_wp (w := w'.alloc Z2) hk1 (fun A listed a w'' h1 h2 h3 h4 => ?_) f _ _ _ (Fr.refl _ _) (hB_grow hw1 f _ _ ((h.2 i hi).2.2.1 rfl w'.heap.size))
      have hs : (w'.alloc Z2).heap.size = w'.heap.size + 1 := by simp
      exact hL A w'.heap.size listed a w'' (hw1.trans h1) h2 (h1.keeps (blk_new _ _) (by simp)) (by have := hw.size; omega) hw.size (by omega) h4
    · exact wpOp_of_qF hw (fun a' w'' hw' h' => ih _ a' w'' (hw.trans hw') h') ((h.2 i hi).2.2.2 hi1 hi2)

theorem hC_pull {w : World} {n i k1 k2 : Nat} {oi ok1 ok2 : Oper} {v : Value} {L : Nat → Nat → Array Bool → Act → Prop} (hi : ops[i]? = some oi) (hk1 : ops[k1]? = some ok1) (hk2 : ops[k2]? = some ok2) (hsel : ∀ (j : Nat) (o : Oper) cs b, ops[j]? = some o → o.op ≠ .select cs b)
    (hs : Region.sinkB md ops n = true) (hc : Region.chainB md ops n = true) (hn : n < ops.size) (hin : i < n) (hik1 : i ≠ k1) (hik2 : i ≠ k2) (hdone : ∀ A B listed a, L A B listed a → ∀ j ∈ Region.ready md ops listed, n ≤ j) (f : Nat) :
    ∀ (listed : Array Bool) (a : Act), HeadInv md ops n listed →
      (∀ j oj, ops[j]? = some oj → j ≠ i → listed.getD j true = false → (∀ e ∈ oj.after, Region.binds md e = true → e.on ≠ i) → oi.apart ops oj = true) →
      i ∈ Region.ready md ops listed → YieldsF P ops w oi v a → hC P md ops w n k1 k2 ok1.dst ok2.dst L f (listed.setIfInBounds i true) (a.put oi.dst v) → hC P md ops w n k1 k2 ok1.dst ok2.dst L (f + 1) listed a := by
  induction f with
  | zero => intro listed a inv _ hr hy H; exact H.elim
  | succ f ih =>
    intro listed a inv hfree hr hy H
    refine ⟨fun h => absurd (h ▸ hr) (by simp), fun j hj => ?_⟩
    have hun := (mem_ready.1 hr).1
    have hjn : j < n := Nat.lt_of_not_le fun h => tail_waits hs hc hn inv _ i rfl hin hun j h hj
    by_cases hji : j = i
    · subst hji; exact ⟨hjn, fun h => absurd h hik1, fun h => absurd h hik2, fun _ _ => ⟨_, _, hi, hy, H⟩⟩
    obtain ⟨hjun, oj, hoj, hall⟩ := mem_ready.1 hj
    have hno : ∀ e ∈ oj.after, Region.binds md e = true → e.on ≠ i := by
      intro e he hb heq
      have := hall e he hb
      rw [heq, getD_both hun] at this
      cases this
    have hap := hfree j oj hoj hji hjun hno
    have hfree' : ∀ k ok, ops[k]? = some ok → k ≠ i → (listed.setIfInBounds j true).getD k true = false → (∀ e ∈ ok.after, Region.binds md e = true → e.on ≠ i) → oi.apart ops ok = true := by
      intro k ok hk hki hku hkno
      refine hfree k ok hk hki ?_ hkno
      by_cases hjk : j = k
      · subst hjk; exact hjun
      · rwa [getD_set_ne true hjk] at hku
    refine ⟨hjn, fun hjk A => ?_, fun hjk B => ?_, fun hjk1 hjk2 => ?_⟩
    · subst hjk
      rw [hk1] at hoj; cases hoj
      refine hB_pull hi hk2 hsel hs hc hn hin hik2 (fun B => hdone A B) f _ _ (inv.set hj hjn) hfree' (ready_mono hr (Ne.symm hji)) (hy.put hap (fun cs b => hsel i oi cs b hi)) ?_
      rw [Array.setIfInBounds_comm _ _ hji, ← Act.put_comm a v _ (Oper.apart_spec hap).2.1]
      exact (H.2 j (ready_mono hj hji)).2.1 rfl A
    · subst hjk
      rw [hk2] at hoj; cases hoj
      refine hB_pull hi hk1 hsel hs hc hn hin hik1 (fun A => hdone A B) f _ _ (inv.set hj hjn) hfree' (ready_mono hr (Ne.symm hji)) (hy.put hap (fun cs b => hsel i oi cs b hi)) ?_
      rw [Array.setIfInBounds_comm _ _ hji, ← Act.put_comm a v _ (Oper.apart_spec hap).2.1]
      exact (H.2 j (ready_mono hj hji)).2.2.1 rfl B
    · have h2 := qF_put hoj hap (fun cs b => hsel i oi cs b hi) (fun cs b => hsel j oj cs b hoj) hy ((H.2 j (ready_mono hj hji)).2.2.2 hjk1 hjk2)
      refine qF_mono (fun a' h3 => ih _ a' (inv.set hj hjn) hfree' (ready_mono hr (Ne.symm hji)) h3.1 ?_) h2
      rw [Array.setIfInBounds_comm _ _ hji]
      exact h3.2

theorem hC_lex {w : World} {n k g : Nat} {ok1 ok2 : Oper} {Lq : Nat → Nat → Act → Prop} (hk1 : ops[k]? = some ok1) (hk2 : ops[k + 1]? = some ok2) (hkn : k + 2 = n) (hdd : ok1.dst ≠ ok2.dst) (hsel : Region.noSelect ops = true) (hs : Region.sinkB md ops n = true) (hc : Region.chainB md ops n = true) (hn : n < ops.size) (l : List Oper) :
    ∀ (j0 : Nat) (listed : Array Bool) (a : Act), (∀ j, j < l.length → l[j]? = ops[j0 + j]?) → j0 + l.length = k → HeadInv md ops n listed →
    Region.lexHead md ops g (l.length + 2) j0 listed = true → wpQF P ops w (fun a => ∀ A B, Lq A B ((a.put ok1.dst (ptrV A)).put ok2.dst (ptrV B))) l a →
    hC P md ops w n k (k + 1) ok1.dst ok2.dst (fun A B listed' a' => Region.seqB md ops g n listed' = true ∧ Lq A B a') (l.length + 2) listed a := by
  induction l with
  | nil =>
    intro j0 listed a _ hj inv hB h
    obtain rfl : j0 = k := by simpa using hj
    simp only [List.length_nil, Region.lexHead, Bool.and_eq_true] at hB
    obtain ⟨⟨hr, hf⟩, ⟨hr2, hf2⟩, hsq⟩ := hB
    have hr' : j0 ∈ Region.ready md ops listed := by simpa using hr
    have hr2' : j0 + 1 ∈ Region.ready md ops (listed.setIfInBounds j0 true) := by simpa using hr2
    have hsq' : Region.seqB md ops g n ((listed.setIfInBounds j0 true).setIfInBounds (j0 + 1) true) = true := by rw [← hkn]; exact hsq
    have hn1 : j0 ≠ j0 + 1 := by omega
    refine ⟨fun h => absurd (h ▸ hr') (by simp), fun i hi => ?_⟩
    have hin : i < n := Nat.lt_of_not_le fun h => tail_waits hs hc hn inv _ j0 rfl (by omega) (mem_ready.1 hr').1 i h hi
    refine ⟨hin, fun _ A => ?_, fun e2 B => ?_, fun h1 h2 => ?_⟩
    · have inv1 := inv.set hr' (by omega)
      refine ⟨fun h => absurd (h ▸ hr2') (by simp), fun i hi => ?_⟩
      have hin : i < n := Nat.lt_of_not_le fun h => tail_waits hs hc hn inv1 _ (j0 + 1) rfl (by omega) (mem_ready.1 hr2').1 i h hi
      exact ⟨hin, fun _ B => ⟨hsq', h A B⟩, fun hne => absurd (seqB_ready hsq' i (ready_mono hi hne)) (by omega)⟩
    · subst e2
      have inv1 := inv.set hi hin
      have hr1 : j0 ∈ Region.ready md ops (listed.setIfInBounds (j0 + 1) true) := ready_mono hr' (by omega)
      have hsq2 : Region.seqB md ops g n ((listed.setIfInBounds (j0 + 1) true).setIfInBounds j0 true) = true := by rw [← Array.setIfInBounds_comm _ _ hn1]; exact hsq'
      refine ⟨fun h => absurd (h ▸ hr1) (by simp), fun i hi => ?_⟩
      have hin : i < n := Nat.lt_of_not_le fun h => tail_waits hs hc hn inv1 _ j0 rfl (by omega) (mem_ready.1 hr1).1 i h hi
      refine ⟨hin, fun _ A => ⟨hsq2, ?_⟩, fun hne => absurd (seqB_ready hsq2 i (ready_mono hi hne)) (by omega)⟩
      have := h A B
      rw [Act.put_comm a _ _ (fun d h1 h2 => hdd (h1.trans h2.symm))] at this
      exact this
    · exfalso
      have := seqB_ready hsq' i (ready_mono (ready_mono hi h1) h2)
      omega
  | cons o l ih =>
    intro j0 listed a hl hj inv hB h
    have h0 : ops[j0]? = some o := by simpa using (hl 0 (by simp)).symm
    simp only [List.length_cons] at hj
    simp only [List.length_cons, Region.lexHead, Bool.and_eq_true] at hB
    obtain ⟨⟨hr, hf⟩, hB'⟩ := hB
    have hr' : j0 ∈ Region.ready md ops listed := by simpa using hr
    obtain ⟨v, hy, hK⟩ := h
    refine hC_pull h0 hk1 hk2 (Region.noSelect_spec hsel) hs hc hn (by omega) (by omega) (by omega) (fun _ _ _ _ hL => seqB_ready hL.1) (l.length + 2) listed a inv (Region.free_spec h0 hf) hr' hy ?_
    refine ih (j0 + 1) _ _ (fun j hj => ?_) (by omega) (inv.set hr' (by omega)) ?_ hK
    · have := hl (j + 1) (by simp; omega)
      simpa [Nat.add_assoc, Nat.add_comm 1 j] using this
    · simpa [Region.lexHead] using hB'

/-- The first k operations in the order of the text, in every world grown; operations k and k + 1 make blocks Z1, Z2, whose numbers are left open; then the rest, one behind the other. -/
theorem wp_region_alloc2 {id : Nat} {Q : Exit → Act → World → Prop} {a : Act} {w : World} {l : List Oper} (n k : Nat) (hm : P.follows .mixedOrders = true) (hB : Region.lexTailB .any l.toArray n = true) (hkn : k + 2 = n) (ok1 ok2 : Oper) (hk1 : l[k]? = some ok1) (hk2 : l[k + 1]? = some ok2)
    (hg1 : ok1.guard = none) (hg2 : ok2.guard = none) (hdd : ok1.dst ≠ ok2.dst) (Z1 Z2 : Obj) (hrun1 : ∀ (ρ : Operand → Value) (w : World), (execOp ρ ok1).run P w = .ok (.value (.pointer (some ⟨w.heap.size, 0, none⟩))) (w.alloc Z1)) (hrun2 : ∀ (ρ : Operand → Value) (w : World), (execOp ρ ok2).run P w = .ok (.value (.pointer (some ⟨w.heap.size, 0, none⟩))) (w.alloc Z2))
    (hd : okD (l.take k) a.tmps.size = true) (aF : Act)
    (h : ∀ w1, Fr [] w w1 → Nonempty (Ext w1) → wpQuiet P l.toArray (fun w' => ∃ x : Ext w1, w' = x.w) (fun a' => a' = aF) (l.take k) a)
    (ht : ∀ A B w', Fr [] w w' → w'.heap[A]? = some Z1 → w'.heap[B]? = some Z2 → w.heap.size ≤ A → w.heap.size ≤ B → A ≠ B → wpList P l.toArray Q (l.drop n) ((aF.put ok1.dst (ptrV A)).put ok2.dst (ptrV B)) w') : (Code.region id l.toArray true).wp P Q a w := by
  simp only [Region.lexTailB, Bool.and_eq_true, decide_eq_true_eq] at hB
  obtain ⟨⟨⟨⟨hsel, hn⟩, hs⟩, hc⟩, hlex⟩ := hB
  have hkl : k + 1 < l.length := (List.getElem?_eq_some_iff.1 hk2).1
  have htl : (l.take k).length = k := by simp; omega
  have hdl : (l.drop n).length = l.toArray.size - n := by simp
  have inv0 : HeadInv .any l.toArray n (Array.replicate l.toArray.size false) :=
    ⟨by simp, fun j oj _ hl => (by rw [getD_replicate_false] at hl; cases hl), fun t _ ht => getD_in (by simpa using ht) (getD_replicate_false _ _)⟩
  have hq := wpQF_of (l.take k) a hd fun w1 hw1 => h w1 hw1 (ext_ne w1)
  have H := hC_lex (md := .any) (g := l.toArray.size - n) (Lq := fun A B a' => a' = (aF.put ok1.dst (ptrV A)).put ok2.dst (ptrV B)) (k := k) (ok1 := ok1) (ok2 := ok2) (by simpa using hk1) (by simpa using hk2) hkn hdd hsel hs hc hn (l.take k) 0 (Array.replicate l.toArray.size false) a (fun j hj => by
    rw [htl] at hj
    simp [hj]) (by simpa using htl) inv0 (by rw [htl, hkn]; exact hlex) (by
      have mono : ∀ (l' : List Oper) (b : Act), wpQF P l.toArray w (fun a' => a' = aF) l' b → wpQF P l.toArray w (fun a => ∀ A B, (a.put ok1.dst (ptrV A)).put ok2.dst (ptrV B) = (aF.put ok1.dst (ptrV A)).put ok2.dst (ptrV B)) l' b := by
        intro l'
        induction l' with
        | nil => intro b hb A B; rw [show b = aF from hb]
        | cons o r ih => intro b hb; obtain ⟨v, h1, h2⟩ := hb; exact ⟨v, h1, ih _ h2⟩
      exact mono _ _ hq)
  refine wp_region_any hm ?_
  have step : ∀ (kk : Nat) (ok : Oper) (Z : Obj), l[kk]? = some ok → ok.guard = none → (∀ (ρ : Operand → Value) (w : World), (execOp ρ ok).run P w = .ok (.value (.pointer (some ⟨w.heap.size, 0, none⟩))) (w.alloc Z)) → ∀ (a : Act) (w' : World) (K : Act → World → Prop), K (a.put ok.dst (ptrV w'.heap.size)) (w'.alloc Z) → wpOp P l.toArray Q kk K a w' := by
    intro kk ok Z hk hg hrun a w' K hK
    unfold wpOp
    have hk' : l.toArray[kk]? = some ok := by simpa using hk
    simp only [hk']
    rw [if_pos (by simp [Region.wanted, hg])]
    left
    unfold Oper.wp
    rw [hrun]
    exact hK
  have := hC_wp (md := .any) (Q' := Q) (g := l.toArray.size - n) (Z1 := Z1) (Z2 := Z2) (by omega) (step k ok1 Z1 hk1 hg1 hrun1) (step (k + 1) ok2 Z2 hk2 hg2 hrun2) (fun A B listed a' w' hw hA hBB h1 h2 hne hL => by
      obtain ⟨hL1, rfl⟩ := hL
      have := wpAny_of_seq (md := .any) (Q' := Q) (l.drop n) n listed _ w' (fun j => by simp [List.getElem?_drop]) (by rw [hdl]; exact hL1) (ht A B w' hw hA hBB h1 h2 hne)
      rwa [hdl] at this) _ _ _ { w with drawn := w.drawn + 1 } (Fr.refl [] w).drew H
  rw [htl, hkn, show n + (l.toArray.size - n) = l.toArray.size by omega] at this
  exact this
end
end Go.Proofs.Ytogdifjdlkpehaa
