/- A statement whose order is open: its operations read, or call functions that make new blocks alone; one more makes a variable's block and waits for nothing; behind all of them stand a few in one forced order. The new block's number is left open. No program stands in here. -/
import Derived.Test.YtobaniebnejjiaaTail
namespace Go.Proofs.Ytobaniebnejjiaa
set_option linter.all false
open Go.RowKit

section
variable {P : Program} {ops : Array Oper} {md : Region.Mode}

/-- in every world that w has grown to, the operation yields v, and the world grows again -/
def YieldsF (P : Program) (ops : Array Oper) (w : World) (o : Oper) (v : Value) (a : Act) : Prop := ∀ w1, Fr [] w w1 → YieldsIn P ops (fun w' => ∃ n : Ext w1, w' = n.w) o v a
def qF (P : Program) (ops : Array Oper) (w : World) (i : Nat) (K : Act → Prop) (a : Act) : Prop := ∃ o v, ops[i]? = some o ∧ YieldsF P ops w o v a ∧ K (a.put o.dst v)
theorem qF_mono {w : World} {i : Nat} {a : Act} {K K' : Act → Prop} (h : ∀ a, K a → K' a) (hh : qF P ops w i K a) : qF P ops w i K' a :=
  let ⟨o, v, h1, h2, h3⟩ := hh
  ⟨o, v, h1, h2, h _ h3⟩
theorem YieldsF.put {w : World} {oi oj : Oper} {v u : Value} {a : Act} (hap : oi.apart ops oj = true) (hsi : ∀ cs b, oi.op ≠ .select cs b) (hy : YieldsF P ops w oi v a) : YieldsF P ops w oi v (a.put oj.dst u) := fun w1 hw1 =>
  (hy w1 hw1).of_same (execOp_put oi hsi a oj.dst u (Oper.apart_spec hap).2.2) (wanted_put oi a oj.dst u (Oper.apart_spec hap).2.2)
theorem qF_put {w : World} {j : Nat} {oi oj : Oper} {v : Value} (hj : ops[j]? = some oj) (hap : oi.apart ops oj = true)
    (hsi : ∀ cs b, oi.op ≠ .select cs b) (hsj : ∀ cs b, oj.op ≠ .select cs b) {K : Act → Prop} {a : Act}
    (hy : YieldsF P ops w oi v a) (h : qF P ops w j K (a.put oi.dst v)) : qF P ops w j (fun a' => YieldsF P ops w oi v a' ∧ K (a'.put oi.dst v)) a := by
  obtain ⟨h1, h2, h3⟩ := Oper.apart_spec hap
  obtain ⟨o, u, ho, hu, hK⟩ := h
  rw [hj] at ho; cases ho
  refine ⟨oj, u, hj, fun w1 hw1 => (hu w1 hw1).of_same (execOp_put oj hsj a oi.dst v h1).symm (wanted_put oj a oi.dst v h1).symm, hy.put hap hsi, ?_⟩
  rw [← Act.put_comm a v u h2]
  exact hK

/-- whatever order the first n are picked in, the block having been made -/
def hA (P : Program) (md : Region.Mode) (ops : Array Oper) (w : World) (n : Nat) (L : Array Bool → Act → Prop) : Nat → Array Bool → Act → Prop
  | 0, listed, a => L listed a
  | f + 1, listed, a => Region.ready md ops listed ≠ [] ∧ ∀ i ∈ Region.ready md ops listed, i < n ∧ qF P ops w i (hA P md ops w n L f (listed.setIfInBounds i true)) a
/-- .. the block being still to be made, by operation k, into the slot d -/
def hB (P : Program) (md : Region.Mode) (ops : Array Oper) (w : World) (n k : Nat) (d : Option Tmp) (L : Nat → Array Bool → Act → Prop) : Nat → Array Bool → Act → Prop
  | 0, _, _ => False
  | f + 1, listed, a => Region.ready md ops listed ≠ [] ∧ ∀ i ∈ Region.ready md ops listed, i < n ∧
      (i = k → ∀ A, hA P md ops w n (L A) f (listed.setIfInBounds k true) (a.put d (.pointer (some ⟨A, 0, none⟩)))) ∧
      (i ≠ k → qF P ops w i (hB P md ops w n k d L f (listed.setIfInBounds i true)) a)

theorem wpOp_of_qF {w w' : World} {i : Nat} {a : Act} {K : Act → Prop} {K' : Act → World → Prop} {Q' : Exit → Act → World → Prop} (hw : Fr [] w w') (h : ∀ a w'', Fr [] w' w'' → K a → K' a w'') (hh : qF P ops w i K a) : wpOp P ops Q' i K' a w' := by
  obtain ⟨o, v, h1, h2, h3⟩ := hh
  exact wpOp_of_qOp (C := fun x => ∃ n : Ext w', x = n.w) ⟨⟨w', Fr.refl _ _⟩, rfl⟩ (fun a' w'' ⟨n, hn⟩ hK => h a' w'' (hn ▸ n.fr) hK) ((h2 w' hw).qOp h1 h3)

theorem hA_wp {w : World} {n g A : Nat} {Z : Obj} {L : Array Bool → Act → Prop} {Q' : Exit → Act → World → Prop}
    (hL : ∀ listed a w', Fr [] w w' → w'.heap[A]? = some Z → L listed a → wpAny P md ops Q' g listed a w') (f : Nat) :
    ∀ (listed : Array Bool) (a : Act) (w' : World), Fr [] w w' → w'.heap[A]? = some Z → hA P md ops w n L f listed a → wpAny P md ops Q' (f + g) listed a w' := by
  induction f with
  | zero => intro listed a w' hw hZ h; rw [Nat.zero_add]; exact hL _ _ _ hw hZ h
  | succ f ih =>
    intro listed a w' hw hZ h
    rw [show f + 1 + g = (f + g) + 1 by omega]
    exact ⟨fun h0 => absurd h0 h.1, fun i hi => wpOp_of_qF hw (fun a' w'' hw' h' => ih _ a' w'' (hw.trans hw') (hw'.keeps hZ (by simp)) h') (h.2 i hi).2⟩
theorem hB_wp {w : World} {n k g : Nat} {d : Option Tmp} {Z : Obj} {L : Nat → Array Bool → Act → Prop} {Q' : Exit → Act → World → Prop}
    (hk : ∀ (a : Act) (w' : World) (K : Act → World → Prop), K (a.put d (.pointer (some ⟨w'.heap.size, 0, none⟩))) (w'.alloc Z) → wpOp P ops Q' k K a w')
    (hL : ∀ A listed a w', Fr [] w w' → w'.heap[A]? = some Z → w.heap.size ≤ A → L A listed a → wpAny P md ops Q' g listed a w') (f : Nat) :
    ∀ (listed : Array Bool) (a : Act) (w' : World), Fr [] w w' → hB P md ops w n k d L f listed a → wpAny P md ops Q' (f + g) listed a w' := by
  induction f with
  | zero => intro listed a w' hw h; exact h.elim
  | succ f ih =>
    intro listed a w' hw h
    rw [show f + 1 + g = (f + g) + 1 by omega]
    refine ⟨fun h0 => absurd h0 h.1, fun i hi => ?_⟩
    by_cases hik : i = k
    · subst hik
      refine hk a w' _ ?_
      exact hA_wp (fun listed a w'' h1 h2 h3 => hL w'.heap.size listed a w'' h1 h2 hw.size h3) f _ _ _ (hw.alloc _) (blk_new _ _) ((h.2 i hi).2.1 rfl w'.heap.size)
    · exact wpOp_of_qF hw (fun a' w'' hw' h' => ih _ a' w'' (hw.trans hw') h') ((h.2 i hi).2.2 hik)

theorem hA_pull {w : World} {n i : Nat} {oi : Oper} {v : Value} {L : Array Bool → Act → Prop} (hi : ops[i]? = some oi) (hsel : ∀ (j : Nat) (o : Oper) cs b, ops[j]? = some o → o.op ≠ .select cs b)
    (hs : Region.sinkB md ops n = true) (hc : Region.chainB md ops n = true) (hn : n < ops.size) (hin : i < n) (hdone : ∀ listed a, L listed a → ∀ j ∈ Region.ready md ops listed, n ≤ j) (f : Nat) :
    ∀ (listed : Array Bool) (a : Act), HeadInv md ops n listed →
      (∀ j oj, ops[j]? = some oj → j ≠ i → listed.getD j true = false → (∀ e ∈ oj.after, Region.binds md e = true → e.on ≠ i) → oi.apart ops oj = true) →
      i ∈ Region.ready md ops listed → YieldsF P ops w oi v a → hA P md ops w n L f (listed.setIfInBounds i true) (a.put oi.dst v) → hA P md ops w n L (f + 1) listed a := by
  induction f with
  | zero =>
    intro listed a inv _ hr hy H
    refine ⟨fun h => absurd (h ▸ hr) (by simp), fun j hj => ?_⟩
    have hjn : j < n := Nat.lt_of_not_le fun h => tail_waits hs hc hn inv _ i rfl hin (mem_ready.1 hr).1 j h hj
    by_cases hji : j = i
    · subst hji; exact ⟨hjn, _, _, hi, hy, H⟩
    · exact absurd (hdone _ _ H j (ready_mono hj hji)) (by omega)
  | succ f ih =>
    intro listed a inv hfree hr hy H
    refine ⟨fun h => absurd (h ▸ hr) (by simp), fun j hj => ?_⟩
    have hun := (mem_ready.1 hr).1
    have hjn : j < n := Nat.lt_of_not_le fun h => tail_waits hs hc hn inv _ i rfl hin hun j h hj
    by_cases hji : j = i
    · subst hji; exact ⟨hjn, _, _, hi, hy, H⟩
    refine ⟨hjn, ?_⟩
    obtain ⟨hjun, oj, hoj, hall⟩ := mem_ready.1 hj
    have hno : ∀ e ∈ oj.after, Region.binds md e = true → e.on ≠ i := by
      intro e he hb heq
      have := hall e he hb
      rw [heq, getD_both hun] at this
      cases this
    have h2 := qF_put hoj (hfree j oj hoj hji hjun hno) (fun cs b => hsel i oi cs b hi) (fun cs b => hsel j oj cs b hoj) hy (H.2 j (ready_mono hj hji)).2
    refine qF_mono (fun a' h3 => ih _ a' (inv.set hj hjn) ?_ (ready_mono hr (Ne.symm hji)) h3.1 ?_) h2
    · intro k ok hk hki hku hkno
      refine hfree k ok hk hki ?_ hkno
      by_cases hjk : j = k
      · subst hjk; exact hjun
      · rwa [getD_set_ne true hjk] at hku
    · rw [Array.setIfInBounds_comm _ _ hji]
      exact h3.2

theorem hB_pull {w : World} {n i k : Nat} {oi ok : Oper} {v : Value} {L : Nat → Array Bool → Act → Prop} (hi : ops[i]? = some oi) (hk : ops[k]? = some ok) (hsel : ∀ (j : Nat) (o : Oper) cs b, ops[j]? = some o → o.op ≠ .select cs b)
    (hs : Region.sinkB md ops n = true) (hc : Region.chainB md ops n = true) (hn : n < ops.size) (hin : i < n) (hik : i ≠ k) (hdone : ∀ A listed a, L A listed a → ∀ j ∈ Region.ready md ops listed, n ≤ j) (f : Nat) :
    ∀ (listed : Array Bool) (a : Act), HeadInv md ops n listed →
      (∀ j oj, ops[j]? = some oj → j ≠ i → listed.getD j true = false → (∀ e ∈ oj.after, Region.binds md e = true → e.on ≠ i) → oi.apart ops oj = true) →
      i ∈ Region.ready md ops listed → YieldsF P ops w oi v a → hB P md ops w n k ok.dst L f (listed.setIfInBounds i true) (a.put oi.dst v) → hB P md ops w n k ok.dst L (f + 1) listed a := by
  induction f with
  | zero => intro listed a inv _ hr hy H; exact H.elim
  | succ f ih =>
    intro listed a inv hfree hr hy H
    refine ⟨fun h => absurd (h ▸ hr) (by simp), fun j hj => ?_⟩
    have hun := (mem_ready.1 hr).1
    have hjn : j < n := Nat.lt_of_not_le fun h => tail_waits hs hc hn inv _ i rfl hin hun j h hj
    by_cases hji : j = i
    · subst hji; exact ⟨hjn, fun h => absurd h hik, fun _ => ⟨_, _, hi, hy, H⟩⟩
    obtain ⟨hjun, oj, hoj, hall⟩ := mem_ready.1 hj
    have hno : ∀ e ∈ oj.after, Region.binds md e = true → e.on ≠ i := by
      intro e he hb heq
      have := hall e he hb
      rw [heq, getD_both hun] at this
      cases this
    have hap := hfree j oj hoj hji hjun hno
    have hfree' : ∀ k ok, ops[k]? = some ok → k ≠ i → (listed.setIfInBounds j true).getD k true = false → (∀ e ∈ ok.after, Region.binds md e = true → e.on ≠ i) → oi.apart ops ok = true := by
      intro k ok hk hki hku hkno
      refine hfree k ok hk hki ?_ hkno
      by_cases hjk : j = k
      · subst hjk; exact hjun
      · rwa [getD_set_ne true hjk] at hku
    refine ⟨hjn, fun hjk A => ?_, fun hjk => ?_⟩
    · subst hjk
      rw [hk] at hoj; cases hoj
      refine hA_pull hi hsel hs hc hn hin (hdone A) f _ _ (inv.set hj hjn) hfree' (ready_mono hr (Ne.symm hji)) (hy.put hap (fun cs b => hsel i oi cs b hi)) ?_
      rw [Array.setIfInBounds_comm _ _ hji, ← Act.put_comm a v _ (Oper.apart_spec hap).2.1]
      exact (H.2 j (ready_mono hj hji)).2.1 rfl A
    · have h2 := qF_put hoj hap (fun cs b => hsel i oi cs b hi) (fun cs b => hsel j oj cs b hoj) hy ((H.2 j (ready_mono hj hji)).2.2 hjk)
      refine qF_mono (fun a' h3 => ih _ a' (inv.set hj hjn) hfree' (ready_mono hr (Ne.symm hji)) h3.1 ?_) h2
      rw [Array.setIfInBounds_comm _ _ hji]
      exact h3.2

/-- one behind the other, each in every world grown -/
def wpQF (P : Program) (ops : Array Oper) (w : World) (Q : Act → Prop) : List Oper → Act → Prop
  | [], a => Q a
  | o :: r, a => ∃ v, YieldsF P ops w o v a ∧ wpQF P ops w Q r (a.put o.dst v)

theorem hB_lex {w : World} {n k g : Nat} {ok : Oper} {Lq : Nat → Act → Prop} (hk : ops[k]? = some ok) (hkn : k + 1 = n) (hsel : Region.noSelect ops = true) (hs : Region.sinkB md ops n = true) (hc : Region.chainB md ops n = true) (hn : n < ops.size) (l : List Oper) :
    ∀ (j0 : Nat) (listed : Array Bool) (a : Act), (∀ j, j < l.length → l[j]? = ops[j0 + j]?) → j0 + l.length = k → HeadInv md ops n listed →
    Region.lexHead md ops g (l.length + 1) j0 listed = true → wpQF P ops w (fun a => ∀ A, Lq A (a.put ok.dst (.pointer (some ⟨A, 0, none⟩)))) l a →
    hB P md ops w n k ok.dst (fun A listed' a' => Region.seqB md ops g n listed' = true ∧ Lq A a') (l.length + 1) listed a := by
  induction l with
  | nil =>
    intro j0 listed a _ hj inv hB h
    obtain rfl : j0 = k := by simpa using hj
    simp only [List.length_nil, Region.lexHead, Bool.and_eq_true] at hB
    obtain ⟨⟨hr, _⟩, hsq⟩ := hB
    have hr' : j0 ∈ Region.ready md ops listed := by simpa using hr
    rw [hkn] at hsq
    refine ⟨fun h => absurd (h ▸ hr') (by simp), fun i hi => ?_⟩
    have hin : i < n := Nat.lt_of_not_le fun h => tail_waits hs hc hn inv _ j0 rfl (by omega) (mem_ready.1 hr').1 i h hi
    refine ⟨hin, fun _ A => ⟨hsq, h A⟩, fun hne => ?_⟩
    exact absurd (seqB_ready hsq i (ready_mono hi hne)) (by omega)
  | cons o l ih =>
    intro j0 listed a hl hj inv hB h
    have h0 : ops[j0]? = some o := by simpa using (hl 0 (by simp)).symm
    simp only [List.length_cons] at hj
    simp only [List.length_cons, Region.lexHead, Bool.and_eq_true] at hB
    obtain ⟨⟨hr, hf⟩, hB'⟩ := hB
    have hr' : j0 ∈ Region.ready md ops listed := by simpa using hr
    obtain ⟨v, hy, hK⟩ := h
    refine hB_pull h0 hk (Region.noSelect_spec hsel) hs hc hn (by omega) (by omega) (fun _ _ _ hL => seqB_ready hL.1) (l.length + 1) listed a inv (Region.free_spec h0 hf) hr' hy ?_
    refine ih (j0 + 1) _ _ (fun j hj => ?_) (by omega) (inv.set hr' (by omega)) ?_ hK
    · have := hl (j + 1) (by simp; omega)
      simpa [Nat.add_assoc, Nat.add_comm 1 j] using this
    · simpa [Region.lexHead] using hB'

theorem put_ne {a : Act} {dst : Option Tmp} {v : Value} {d : Nat} (h : dst ≠ some d) : (a.put dst v).tmps[d]? = a.tmps[d]? := by
  unfold Act.put
  cases dst with
  | none => rfl
  | some e =>
    show (a.tmps.setIfInBounds e v)[d]? = _
    rw [Array.getElem?_setIfInBounds_ne (fun he => h (by rw [he]))]
theorem put_size (a : Act) (dst : Option Tmp) (v : Value) : (a.put dst v).tmps.size = a.tmps.size := by
  unfold Act.put
  cases dst with
  | none => rfl
  | some e => exact Array.size_setIfInBounds
theorem keepD {C : World → Prop} {aF : Act} : ∀ (r : List Oper) (a : Act) (d : Nat), (∀ o ∈ r, o.dst ≠ some d) → wpQuiet P ops C (fun a' => a' = aF) r a → aF.tmps[d]? = a.tmps[d]?
  | [], a, d, _, h => by
    have h : a = aF := h
    rw [h]
  | o :: r, a, d, hd, h => by
    unfold wpQuiet at h
    split at h
    · obtain ⟨v, _, h2⟩ := h
      rw [keepD r _ d (fun o ho => hd o (List.mem_cons_of_mem _ ho)) h2, put_ne (hd o (by simp))]
    · rw [keepD r _ d (fun o ho => hd o (List.mem_cons_of_mem _ ho)) h, put_ne (hd o (by simp))]
def okD : List Oper → Nat → Bool
  | [], _ => true
  | o :: r, n => (match o.dst with | some d => decide (d < n) && r.all (fun o' => o'.dst != some d) | none => false) && okD r n
theorem wpQF_of {w : World} {aF : Act} : ∀ (l : List Oper) (a : Act), okD l a.tmps.size = true → (∀ w1, Fr [] w w1 → wpQuiet P ops (fun w' => ∃ n : Ext w1, w' = n.w) (fun a' => a' = aF) l a) → wpQF P ops w (fun a' => a' = aF) l a
  | [], a, _, H => H w (Fr.refl _ _)
  | o :: r, a, hd, H => by
    unfold okD at hd
    rw [Bool.and_eq_true] at hd
    obtain ⟨hd1, hd2⟩ := hd
    split at hd1
    · rename_i d hdst
      simp only [Bool.and_eq_true, decide_eq_true_eq, List.all_eq_true, bne_iff_ne] at hd1
      by_cases hw : Region.wanted o (yielded ops a.tmps) = true
      · have key : ∀ w1, Fr [] w w1 → (∀ w', (∃ n : Ext w1, w' = n.w) → o.quietAt P a (fun w' => ∃ n : Ext w1, w' = n.w) w' (aF.tmps[d]?.getD undef)) ∧ wpQuiet P ops (fun w' => ∃ n : Ext w1, w' = n.w) (fun a' => a' = aF) r (a.put o.dst (aF.tmps[d]?.getD undef)) := by
          intro w1 hw1
          have := H w1 hw1
          unfold wpQuiet at this
          rw [if_pos hw] at this
          obtain ⟨v, h1, h2⟩ := this
          have h3 := keepD r _ d hd1.2 h2
          have h4 : (a.put o.dst v).tmps[d]? = some v := by
            rw [hdst]
            show (a.tmps.setIfInBounds d v)[d]? = _
            simp [hd1.1]
          rw [h3, h4]
          exact ⟨h1, h2⟩
        exact ⟨_, fun w1 hw1 => .inl ⟨hw, (key w1 hw1).1⟩, wpQF_of r _ (by rw [put_size]; exact hd2) fun w1 hw1 => (key w1 hw1).2⟩
      · refine ⟨undef, fun w1 _ => .inr ⟨by simpa using hw, rfl⟩, wpQF_of r _ (by rw [put_size]; exact hd2) fun w1 hw1 => ?_⟩
        have := H w1 hw1
        unfold wpQuiet at this
        rw [if_neg hw] at this
        exact this
    · cases hd1

/-- The first k operations in the order of the text, in every world grown; operation k makes a block Z, whose number is left open; then the rest, one behind the other. -/
theorem wp_region_alloc {id : Nat} {Q : Exit → Act → World → Prop} {a : Act} {w : World} {l : List Oper} (n k : Nat) (hm : P.follows .mixedOrders = true) (hB : Region.lexTailB .any l.toArray n = true) (hkn : k + 1 = n) (ok : Oper) (hk : l[k]? = some ok)
    (hg : ok.guard = none) (Z : Obj) (hrun : ∀ (ρ : Operand → Value) (w : World), (execOp ρ ok).run P w = .ok (.value (.pointer (some ⟨w.heap.size, 0, none⟩))) (w.alloc Z)) (hd : okD (l.take k) a.tmps.size = true) (aF : Act)
    (h : ∀ w1, Fr [] w w1 → Nonempty (Ext w1) → wpQuiet P l.toArray (fun w' => ∃ x : Ext w1, w' = x.w) (fun a' => a' = aF) (l.take k) a)
    (ht : ∀ A w', Fr [] w w' → w'.heap[A]? = some Z → w.heap.size ≤ A → wpList P l.toArray Q (l.drop n) (aF.put ok.dst (.pointer (some ⟨A, 0, none⟩))) w') : (Code.region id l.toArray true).wp P Q a w := by
  simp only [Region.lexTailB, Bool.and_eq_true, decide_eq_true_eq] at hB
  obtain ⟨⟨⟨⟨hsel, hn⟩, hs⟩, hc⟩, hlex⟩ := hB
  have hkl : k < l.length := (List.getElem?_eq_some_iff.1 hk).1
  have htl : (l.take k).length = k := by simp; omega
  have hdl : (l.drop n).length = l.toArray.size - n := by simp
  have inv0 : HeadInv .any l.toArray n (Array.replicate l.toArray.size false) :=
    ⟨by simp, fun j oj _ hl => (by rw [getD_replicate_false] at hl; cases hl), fun t _ ht => getD_in (by simpa using ht) (getD_replicate_false _ _)⟩
  have hq := wpQF_of (l.take k) a hd fun w1 hw1 => h w1 hw1 (ext_ne w1)
  have H := hB_lex (md := .any) (g := l.toArray.size - n) (Lq := fun A a' => a' = aF.put ok.dst (.pointer (some ⟨A, 0, none⟩))) (k := k) (ok := ok) (by simpa using hk) hkn hsel hs hc hn (l.take k) 0 (Array.replicate l.toArray.size false) a (fun j hj => by
    rw [htl] at hj
    simp [hj]) (by simpa using htl) inv0 (by rw [htl, hkn]; exact hlex) (by
      have mono : ∀ (l' : List Oper) (b : Act), wpQF P l.toArray w (fun a' => a' = aF) l' b → wpQF P l.toArray w (fun a => ∀ A, a.put ok.dst (.pointer (some ⟨A, 0, none⟩)) = aF.put ok.dst (.pointer (some ⟨A, 0, none⟩))) l' b := by
        intro l'
        induction l' with
        | nil => intro b hb A; rw [show b = aF from hb]
        | cons o r ih => intro b hb; obtain ⟨v, h1, h2⟩ := hb; exact ⟨v, h1, ih _ h2⟩
      exact mono _ _ hq)
  refine wp_region_any hm ?_
  have := hB_wp (md := .any) (Q' := Q) (g := l.toArray.size - n) (Z := Z) (fun a w' K hK => by
      unfold wpOp
      have hk' : l.toArray[k]? = some ok := by simpa using hk
      simp only [hk']
      rw [if_pos (by simp [Region.wanted, hg])]
      left
      unfold Oper.wp
      rw [hrun]
      exact hK) (fun A listed a' w' hw hZ hA hL => by
    obtain ⟨hsq, rfl⟩ := hL
    have := wpAny_of_seq (md := .any) (Q' := Q) (l.drop n) n listed _ w' (fun j => by simp [List.getElem?_drop]) (by rw [hdl]; exact hsq) (ht A w' hw hZ hA)
    rwa [hdl] at this) _ _ _ { w with drawn := w.drawn + 1 } (Fr.refl [] w).drew H
  rw [htl, show k + 1 + (l.toArray.size - n) = l.toArray.size by omega] at this
  exact this
end
end Go.Proofs.Ytobaniebnejjiaa
