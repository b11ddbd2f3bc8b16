/- Frames of worlds, blocks of cells, and maps whose keys are integers: lemmas on whatever program; nothing of this seat's program stands in here. A statement whose order is open, and whose operations read, or call functions that make new blocks alone: one walk in the order of the text serves every order. No program stands in here. A statement whose order is open: its operations read, or call functions that make new blocks alone, and behind all of them stand a few in one forced order (a store, the assignments): one walk serves every order. No program stands in here. A whole struct or array stored into its block; results of which the first lies in a block. No program stands in here. Statements whose order is open and which hold a store: laws for taking a whole struct's load first, and for storing a whole one. No program stands in here. A whole struct's load, that may stand behind a guard. No program stands in here. Operations that only make values out of closed operands, taken all at once: one computation of the frame in place of a step for each. No program stands in here. A statement whose order is open: its operations read, or call functions that make new blocks alone; one more makes a variable's block and waits for nothing; behind all of them stand a few in one forced order. The new block's number is left open. No program stands in here. As TailAlloc, with two blocks that are made and wait for nothing. No program stands in here. -/
import Derived.Test.YtajbfnihgonppaaRows
import Derived.WalkKit
import Derived.WalkSpells
import Derived.WalkLawsBesides
import Derived.MapKept
import Derived.Deep.QuietTactic
import Derived.BigQuiet
import Derived.RegionTactic
import Derived.Deep.Quiet
import Derived.StillTail
import Derived.Deep.MidRow
import Derived.Deep.RegionHeld3
import Derived.Laws.Tables
import Derived.Great.BuildSlice

/-! Base -/
namespace Go.Proofs.Ytajbfnihgonppaa
set_option linter.all false
open Go.RowKit

theorem hid {p : Prop} (h : p) : Hid p := h

/-- Every block of w but those of S is in w' as it was; blocks may have come. -/
structure Fr (S : List Nat) (w w' : World) : Prop where
  os : w'.os = w.os
  tape : w'.tape = w.tape
  output : w'.output = w.output
  size : w.heap.size ≤ w'.heap.size
  block : ∀ k, k < w.heap.size → k ∉ S → w'.heap[k]? = w.heap[k]?

theorem Fr.refl (S : List Nat) (w : World) : Fr S w w := ⟨rfl, rfl, rfl, Nat.le_refl _, fun _ _ _ => rfl⟩

theorem Fr.trans {S : List Nat} {a b c : World} (h : Fr S a b) (k : Fr S b c) : Fr S a c :=
  ⟨k.os.trans h.os, k.tape.trans h.tape, k.output.trans h.output, Nat.le_trans h.size k.size, fun i hi hs => (k.block i (Nat.lt_of_lt_of_le hi h.size) hs).trans (h.block i hi hs)⟩

theorem Fr.weaken {S T : List Nat} {a b : World} (h : Fr S a b) (hST : ∀ k, k ∈ S → k ∈ T) : Fr T a b :=
  ⟨h.os, h.tape, h.output, h.size, fun i hi hs => h.block i hi (fun hm => hs (hST i hm))⟩

theorem Fr.drew {S : List Nat} {a w : World} (h : Fr S a w) : Fr S a w.drew := ⟨h.os, h.tape, h.output, h.size, h.block⟩

theorem Fr.drewN {S : List Nat} {a w : World} (h : Fr S a w) (n : Nat) : Fr S a (w.drewN n) := h.trans ⟨rfl, rfl, rfl, Nat.le_refl _, fun _ _ _ => rfl⟩

theorem Fr.alloc {S : List Nat} {a w : World} (h : Fr S a w) (o : Obj) : Fr S a (w.alloc o) :=
  h.trans ⟨rfl, rfl, rfl, by simp, fun k hk _ => Below.heap_alloc _ _ _ hk⟩

theorem Fr.setCell {S : List Nat} {a w : World} (h : Fr S a w) {p : Addr} (hp : p.block ∈ S ∨ a.heap.size ≤ p.block) (u : Value) : Fr S a (w.setCell p u) :=
  ⟨h.os, h.tape, h.output, by simpa using h.size, fun k hk hs => by
    rw [Below.heap_setCell _ _ _ _ (by rintro rfl; rcases hp with hp | hp; exact hs hp; omega)]; exact h.block k hk hs⟩

theorem Fr.fresh {S : List Nat} {a b : World} (h : Fr S a b) (hS : ∀ k, k ∈ S → a.heap.size ≤ k) : Fr [] a b :=
  ⟨h.os, h.tape, h.output, h.size, fun i hi _ => h.block i hi (fun hm => by have := hS i hm; omega)⟩

theorem Fr.step {S T : List Nat} {a b c : World} (h : Fr T a b) (k : Fr S b c) (hS : ∀ j, j ∈ S → j ∈ T ∨ a.heap.size ≤ j) : Fr T a c :=
  ⟨k.os.trans h.os, k.tape.trans h.tape, k.output.trans h.output, Nat.le_trans h.size k.size, fun i hi hs => by
    rw [k.block i (Nat.lt_of_lt_of_le hi h.size) (fun hm => by rcases hS i hm with h1 | h1; exact hs h1; omega)]; exact h.block i hi hs⟩

theorem Fr.below {S : List Nat} {B : Nat} {w w' : World} (h : Fr S w w') (hB : B ≤ w.heap.size) (hS : ∀ k, k ∈ S → B ≤ k) : Below B w w' :=
  ⟨h.os, h.tape, h.output, h.size, fun k hk => h.block k (by omega) (fun hm => by have := hS k hm; omega)⟩

theorem Fr.keeps {S : List Nat} {w w' : World} (h : Fr S w w') {b : Nat} {o : Obj} (hb : w.heap[b]? = some o) (hs : b ∉ S) : w'.heap[b]? = some o := by
  have hlt : b < w.heap.size := lt_of_block hb
  rw [h.block b hlt hs]; exact hb

theorem Below.keeps {B : Nat} {w w' : World} (h : Below B w w') {b : Nat} {o : Obj} (hb : w.heap[b]? = some o) (hs : b < B) : w'.heap[b]? = some o := by
  rw [h.block b hs]; exact hb

/-! ### blocks of cells -/
theorem lt_block {w : World} {b : Nat} {o : Obj} (h : w.heap[b]? = some o) : b < w.heap.size := lt_of_block h

theorem blk_cell {w : World} {b : Nat} {cs : Array Value} {t : TypeId} {f : Nat × Nat} (h : w.heap[b]? = some (.cells cs t f)) (i : Nat) : w.cell? ⟨b, i, none⟩ = cs[i]? := by simp [World.cell?, h]
theorem blk_free {w : World} {b : Nat} {cs : Array Value} {t : TypeId} (h : w.heap[b]? = some (.cells cs t (0, 0))) (i : Nat) : w.frozen? ⟨b, i, none⟩ = false := by simp [World.frozen?, h]

theorem blk_set {w : World} {b : Nat} {cs : Array Value} {t : TypeId} {f : Nat × Nat} (h : w.heap[b]? = some (.cells cs t f)) (i : Nat) (u : Value) : (w.setCell ⟨b, i, none⟩ u).heap[b]? = some (.cells (cs.setIfInBounds i u) t f) := by
  have hlt := lt_of_block h
  have h' : w.heap[b] = .cells cs t f := by simpa [Array.getElem?_eq_getElem hlt] using h
  show (w.heap.modify b _)[b]? = _
  rw [Array.getElem?_eq_getElem (by simpa using hlt), Array.getElem_modify_self, h']
  rfl

theorem blk_set_other {w : World} {b : Nat} {a : Addr} (u : Value) (hne : b ≠ a.block) : (w.setCell a u).heap[b]? = w.heap[b]? := Below.heap_setCell _ _ _ _ hne

theorem blk_alloc {w : World} {b : Nat} {o : Obj} (h : w.heap[b]? = some o) (o' : Obj) : (w.alloc o').heap[b]? = some o := by
  rw [Below.heap_alloc _ _ _ (lt_of_block h)]; exact h

theorem blk_new (w : World) (o : Obj) : (w.alloc o).heap[w.heap.size]? = some o := (MapKept.heap_alloc w o).1

/-- the newest block, its number spelt otherwise -/
theorem blk_new' {w : World} {n : Nat} (h : n = w.heap.size) (o : Obj) : (w.alloc o).heap[n]? = some o := by rw [h]; exact blk_new w o

/-! ### maps with integer keys: the block of a map's literal -/
def entsFrom (q : IntKind) : Nat → List (Int × Value) → List MapEntry
  | _, [] => []
  | n, (k, v) :: r => { key := .int q k, val := v, born := n } :: entsFrom q (n + 1) r

theorem entsFrom_snoc (q : IntKind) (k : Int) (v : Value) : ∀ (l : List (Int × Value)) (n : Nat), entsFrom q n (l ++ [(k, v)]) = entsFrom q n l ++ [{ key := .int q k, val := v, born := n + l.length }]
  | [], n => rfl
  | (k0, v0) :: r, n => by simp [entsFrom, entsFrom_snoc q k v r (n + 1)]; omega

def litMap (q : IntKind) (l : List (Int × Value)) : Obj := .map (entsFrom q 0 l).toArray l.length

def lookIn (x : Int) : List (Int × Value) → Option Value
  | [] => none
  | (k, v) :: r => if x = k then some v else lookIn x r

@[go_sem] theorem lookIn_nil (x : Int) : lookIn x [] = none := rfl
@[go_sem] theorem lookIn_cons (x k : Int) (v : Value) (r : List (Int × Value)) : lookIn x ((k, v) :: r) = if x = k then some v else lookIn x r := rfl

theorem findNow_ents (q : IntKind) (x : Int) : ∀ (l : List (Int × Value)) (n i : Nat), Instr.findNow (.int q) (.int q x) (entsFrom q n l) i = some (match lookIn x l with | none => none | some v => some (i + (l.findIdx (fun p => decide (x = p.1))), v))
  | [], n, i => rfl
  | (k0, v0) :: r, n, i => by
    simp only [entsFrom, Instr.findNow, Instr.sameNow, if_true, lookIn]
    by_cases h : x = k0
    · subst h; simp [List.findIdx_cons]
    · have h' : (x == k0) = false := by simpa using h
      simp only [h', if_neg h]
      rw [findNow_ents q x r (n + 1) (i + 1)]
      cases lookIn x r <;> simp [List.findIdx_cons, h]; omega

theorem run_findKey_ents {P : Program} {k : TypeId} {q : IntKind} (hk : P.underlying k = some (.int q)) (w : World) (x : Int) (l : List (Int × Value)) :
    (Instr.findKey k (.int q x) (entsFrom q 0 l)).run P w = .ok (match lookIn x l with | none => none | some v => some (l.findIdx (fun p => decide (x = p.1)), v)) w := by
  unfold Instr.findKey
  simp only [Sem.run_bind, run_underlying hk, Result.andThen, findNow_ents]
  cases lookIn x l <;> simp

theorem run_checkKey_int {P : Program} {k : TypeId} {q : IntKind} (hk : P.underlying k = some (.int q)) (w : World) (x : Int) (e : Bool) (n : Nat) : (Instr.checkKey e (n + 1) k (.int q x)).run P w = .ok () w := by
  unfold Instr.checkKey
  simp [run_underlying hk, Result.andThen]

theorem run_lookup_lit {P : Program} {t k e : TypeId} {q : IntKind} (ht : P.underlying t = some (.map k e)) (hk : P.underlying k = some (.int q)) {z : Value} (hz : ∀ w, (zeroValue e).run P w = .ok z w)
    {w : World} {b : Nat} {l : List (Int × Value)} (hb : w.heap[b]? = some (litMap q l)) (x : Int) (c : Bool) :
    (Instr.lookup t (.map (some b)) (.int q x) c).run P w = .ok (if c then .tuple #[(lookIn x l).getD z, .bool (lookIn x l).isSome] else (lookIn x l).getD z) w := by
  unfold litMap at hb
  simp only [Instr.lookup, Sem.run_bind, run_underlying ht, Result.andThen, MapKept.run_getObj_map hb, Sem.run_pure, run_checkKey_int hk, run_findKey_ents hk]
  cases lookIn x l <;> cases c <;> simp [hz, Result.andThen]

theorem run_lookup_nil {P : Program} {t k e : TypeId} {q : IntKind} (ht : P.underlying t = some (.map k e)) (hk : P.underlying k = some (.int q)) {z : Value} (hz : ∀ w, (zeroValue e).run P w = .ok z w)
    (w : World) (x : Int) (c : Bool) :
    (Instr.lookup t (.map none) (.int q x) c).run P w = .ok (if c then .tuple #[z, .bool false] else z) w := by
  have hf := run_findKey_ents hk w x []
  simp only [entsFrom, lookIn] at hf
  simp only [Instr.lookup, Sem.run_bind, run_underlying ht, Result.andThen, Sem.run_pure, run_checkKey_int hk, hf]
  cases c <;> simp [hz]

theorem setBlock_alloc (w : World) (o o' : Obj) : { w.alloc o with heap := (w.alloc o).heap.setIfInBounds w.heap.size o' } = w.alloc o' := by
  have h : (w.heap.push o).setIfInBounds w.heap.size o' = w.heap.push o' := by
    apply Array.toList_inj.1
    simp
  unfold World.alloc
  simp only [h]

/-- A literal's entry, into the map that has just been made: its key is new. -/
theorem run_insert_lit {P : Program} {t k e : TypeId} {q : IntKind} (ht : P.underlying t = some (.map k e)) (hk : P.underlying k = some (.int q))
    (w : World) (l : List (Int × Value)) (x : Int) (v : Value) (hno : lookIn x l = none) :
    (Instr.mapUpdate t (.map (some w.heap.size)) (.int q x) v).run P (w.alloc (litMap q l)) = .ok () (w.alloc (litMap q (l ++ [(x, v)]))) := by
  have hb : (w.alloc (litMap q l)).heap[w.heap.size]? = some (.map (entsFrom q 0 l).toArray l.length) := blk_new w _
  simp only [Instr.mapUpdate, Sem.run_bind, run_underlying ht, Result.andThen, MapKept.run_getObj_map hb, run_checkKey_int hk, run_findKey_ents hk, hno, MapKept.run_setObj_map _ hb]
  rw [setBlock_alloc]
  simp [litMap, entsFrom_snoc]

theorem run_insert_lit0 {P : Program} {t k e : TypeId} {q : IntKind} (ht : P.underlying t = some (.map k e)) (hk : P.underlying k = some (.int q))
    (w : World) (x : Int) (v : Value) :
    (Instr.mapUpdate t (.map (some w.heap.size)) (.int q x) v).run P (w.alloc (litMap q [])) = .ok () (w.alloc (litMap q [(x, v)])) := run_insert_lit ht hk w [] x v rfl

theorem run_makeMap_lit {P : Program} (q : IntKind) (t : TypeId) (w : World) : (Instr.makeMap t none).run P w = .ok (.map (some w.heap.size)) (w.alloc (litMap q [])) := rfl

end Go.Proofs.Ytajbfnihgonppaa

/-! Ext -/
namespace Go.Proofs.Ytajbfnihgonppaa
open Go.RowKit

/-- A world in which every block of w is as it was. -/
def Ext (w : World) : Type := { w' : World // Fr [] w w' }
def Ext.w {w : World} (n : Ext w) : World := n.1
theorem Ext.fr {w : World} (n : Ext w) : Fr [] w n.w := n.2
theorem ext_ne (w : World) : Nonempty (Ext w) := ⟨⟨w, Fr.refl _ _⟩⟩

section
variable {P : Program}
theorem wp_region_ext {id : Nat} {Q : Exit → Act → World → Prop} {a : Act} {w : World} {l : List Oper} (hm : P.follows .mixedOrders = true) (hB : Region.lexB .any l.toArray = true)
    (h : wpQuiet P l.toArray (fun w' => ∃ n : Ext w, w' = n.w) (fun a' => ∀ w', (∃ n : Ext w, w' = n.w) → Q .normal a' w') l a) : (Code.region id l.toArray true).wp P Q a w :=
  wp_region_quiet (C := fun w' => ∃ n : Ext w, w' = n.w) hm hB ⟨⟨w.drew, (Fr.refl _ _).drew⟩, rfl⟩ (by simpa using h)

/-- .. the world under a name of its own, of which only what F says is known. -/
theorem region_at (F : World → Prop) {id : Nat} {Q : Exit → Act → World → Prop} {a : Act} {w : World} {l : List Oper} (hm : P.follows .mixedOrders = true) (hB : Region.lexB .any l.toArray = true) (hF : F w)
    (h : ∀ W, F W → Nonempty (Ext W) → wpQuiet P l.toArray (fun w' => ∃ n : Ext W, w' = n.w) (fun a' => ∀ w', (∃ n : Ext W, w' = n.w) → Q .normal a' w') l a) : (Code.region id l.toArray true).wp P Q a w :=
  wp_region_ext hm hB (h w hF (ext_ne w))

theorem Ext.call {f : FuncId} {args : Array Value} {v : Value} {w : World} (n : Ext w) (h : Calls P f args n.w fun e w' => e = .returned v ∧ Fr [] n.w w') :
    Calls P f args n.w fun e w'' => e = .returned v ∧ ∃ m : Ext w, w'' = m.w :=
  h.mono fun _ w' ⟨h1, h2⟩ => ⟨h1, ⟨w', n.fr.trans h2⟩, rfl⟩
theorem Ext.same {f : FuncId} {args : Array Value} {v : Value} {w : World} (n : Ext w) (h : Calls P f args n.w fun e w' => e = .returned v ∧ n.w = w') :
    Calls P f args n.w fun e w'' => e = .returned v ∧ ∃ m : Ext w, w'' = m.w :=
  h.mono fun _ _ ⟨h1, h2⟩ => ⟨h1, n, h2.symm⟩

theorem Ext.blk {w : World} (n : Ext w) {b : Nat} {o : Obj} (h : w.heap[b]? = some o) : n.w.heap[b]? = some o := n.fr.keeps h (by simp)
theorem Ext.cell {w : World} (n : Ext w) {b : Nat} {cs : Array Value} {t : TypeId} {f : Nat × Nat} (h : w.heap[b]? = some (.cells cs t f)) (i : Nat) : n.w.cell? ⟨b, i, none⟩ = cs[i]? := blk_cell (n.blk h) i
theorem Ext.same_cell {w : World} (n : Ext w) {p : Addr} {v : Value} (h : w.cell? p = some v) : n.w.cell? p = some v := by
  have hlt : p.block < w.heap.size := by
    unfold World.cell? at h
    split at h
    · rename_i hb; exact lt_of_block hb
    · cases h
  rw [World.cell?_of_block (w := w) (n.fr.block p.block hlt (by simp))]
  exact h

/-- A whole struct or array read out of its block, in such a statement. -/
theorem quiet_row {C : World → Prop} {K : Act → Prop} {a : Act} {o : Oper} (ty : TypeId) (x : Operand) (ho : o.op = .load ty x) (g : Nat) (hx : a.eval x = .pointer (some ⟨g, 0, none⟩)) (t : TypeId) (cs : Array Value) (fr : Nat × Nat) (d : TypeDesc)
    (hg : ∀ w, C w → w.heap[g]? = some (.cells cs t fr)) (hu : P.underlying ty = some d) (hd : (match d with | .struct _ | .array _ _ => true | _ => false) = true) (hi : (P.info? ty).map (·.size) = some cs.size)
    (h : K (a.put o.dst (.agg cs))) : o.quiet P a C K := by
  refine ⟨.agg cs, fun w hw => ?_, h⟩
  unfold Oper.quietAt execOp
  simp only [ho, hx, Instr.loadAt, Instr.sureAddr, Sem.run_bind, Sem.run_pure, Result.andThen_ok, run_loadVar_row w g t ty cs fr d (hg w hw) hu hd hi]
  exact ⟨rfl, rfl⟩
end
end Go.Proofs.Ytajbfnihgonppaa

/-! Tail -/
namespace Go.Proofs.Ytajbfnihgonppaa
open Go.RowKit

section
variable {P : Program} {ops : Array Oper} {md : Region.Mode} {C : World → Prop}

/-- Whatever order the first n are picked in, what follows behind them is L. -/
def headAny (P : Program) (md : Region.Mode) (ops : Array Oper) (C : World → Prop) (n : Nat) (L : Array Bool → Act → Prop) : Nat → Array Bool → Act → Prop
  | 0, listed, a => L listed a
  | f + 1, listed, a => Region.ready md ops listed ≠ [] ∧ ∀ i ∈ Region.ready md ops listed, i < n ∧ qOp P ops C i (headAny P md ops C n L f (listed.setIfInBounds i true)) a

theorem headAny_wp {n g : Nat} {L : Array Bool → Act → Prop} {Q' : Exit → Act → World → Prop} (hL : ∀ listed a w, C w → L listed a → wpAny P md ops Q' g listed a w) (f : Nat) :
    ∀ (listed : Array Bool) (a : Act) (w : World), C w → headAny P md ops C n L f listed a → wpAny P md ops Q' (f + g) listed a w := by
  induction f with
  | zero => intro listed a w hw h; rw [Nat.zero_add]; exact hL _ _ _ hw h
  | succ f ih =>
    intro listed a w hw h
    rw [show f + 1 + g = (f + g) + 1 by omega]
    exact ⟨fun h0 => absurd h0 h.1, fun i hi => wpOp_of_qOp hw (fun a' w' hw' h' => ih _ a' w' hw' h') (h.2 i hi).2⟩

theorem headAny_pull {n i : Nat} {oi : Oper} {v : Value} {L : Array Bool → Act → Prop} (hi : ops[i]? = some oi) (hsel : ∀ (j : Nat) (o : Oper) cs b, ops[j]? = some o → o.op ≠ .select cs b)
    (hs : Region.sinkB md ops n = true) (hc : Region.chainB md ops n = true) (hn : n < ops.size) (hin : i < n) (hdone : ∀ listed a, L listed a → ∀ j ∈ Region.ready md ops listed, n ≤ j) (f : Nat) :
    ∀ (listed : Array Bool) (a : Act), HeadInv md ops n listed →
      (∀ j oj, ops[j]? = some oj → j ≠ i → listed.getD j true = false → (∀ e ∈ oj.after, Region.binds md e = true → e.on ≠ i) → oi.apart ops oj = true) →
      i ∈ Region.ready md ops listed → YieldsIn P ops C oi v a → headAny P md ops C n L f (listed.setIfInBounds i true) (a.put oi.dst v) → headAny P md ops C n L (f + 1) listed a := by
  induction f with
  | zero =>
    intro listed a inv _ hr hy H
    refine ⟨fun h => absurd (h ▸ hr) (by simp), fun j hj => ?_⟩
    have hjn : j < n := Nat.lt_of_not_le fun h => tail_waits hs hc hn inv _ i rfl hin (mem_ready.1 hr).1 j h hj
    by_cases hji : j = i
    · subst hji; exact ⟨hjn, hy.qOp hi H⟩
    · exact absurd (hdone _ _ H j (ready_mono hj hji)) (by omega)
  | succ f ih =>
    intro listed a inv hfree hr hy H
    refine ⟨fun h => absurd (h ▸ hr) (by simp), fun j hj => ?_⟩
    have hun := (mem_ready.1 hr).1
    have hjn : j < n := Nat.lt_of_not_le fun h => tail_waits hs hc hn inv _ i rfl hin hun j h hj
    by_cases hji : j = i
    · subst hji; exact ⟨hjn, hy.qOp hi H⟩
    refine ⟨hjn, ?_⟩
    obtain ⟨hjun, oj, hoj, hall⟩ := mem_ready.1 hj
    have hno : ∀ e ∈ oj.after, Region.binds md e = true → e.on ≠ i := by
      intro e he hb heq
      have := hall e he hb
      rw [heq, getD_both hun] at this
      cases this
    have h2 := qOp_put hoj (hfree j oj hoj hji hjun hno) (fun cs b => hsel i oi cs b hi) (fun cs b => hsel j oj cs b hoj) hy (H.2 j (ready_mono hj hji)).2
    refine qOp_mono (fun a' h3 => ih _ a' (inv.set hj hjn) ?_ (ready_mono hr (Ne.symm hji)) h3.1 ?_) h2
    · intro k ok hk hki hku hkno
      refine hfree k ok hk hki ?_ hkno
      by_cases hjk : j = k
      · subst hjk; exact hjun
      · rwa [getD_set_ne true hjk] at hku
    · rw [Array.setIfInBounds_comm _ _ hji]
      exact h3.2

theorem headAny_lex {n g : Nat} {Lq : Act → Prop} (hsel : Region.noSelect ops = true) (hs : Region.sinkB md ops n = true) (hc : Region.chainB md ops n = true) (hn : n < ops.size) (l : List Oper) :
    ∀ (k : Nat) (listed : Array Bool) (a : Act), (∀ j, j < l.length → l[j]? = ops[k + j]?) → k + l.length = n → HeadInv md ops n listed →
    Region.lexHead md ops g l.length k listed = true → wpQuiet P ops C Lq l a → headAny P md ops C n (fun listed' a' => Region.seqB md ops g n listed' = true ∧ Lq a') l.length listed a := by
  induction l with
  | nil =>
    intro k listed a _ hk _ hB h
    obtain rfl : k = n := by simpa using hk
    exact ⟨by simpa [Region.lexHead] using hB, h⟩
  | cons o l ih =>
    intro k listed a hl hk inv hB h
    have h0 : ops[k]? = some o := by simpa using (hl 0 (by simp)).symm
    simp only [List.length_cons, Region.lexHead, Bool.and_eq_true] at hB
    obtain ⟨⟨hr, hf⟩, hB'⟩ := hB
    have hkn : k < n := by simp only [List.length_cons] at hk; omega
    have hr' : k ∈ Region.ready md ops listed := by simpa using hr
    have hq : qOp P ops C k (wpQuiet P ops C Lq l) a := by unfold qOp; simp only [h0]; exact h
    obtain ⟨v, hy, hK⟩ := yieldsIn_of_qOp h0 hq
    refine headAny_pull h0 (Region.noSelect_spec hsel) hs hc hn hkn (fun _ _ hL => seqB_ready hL.1) l.length listed a inv (Region.free_spec h0 hf) hr' hy ?_
    refine ih (k + 1) _ _ (fun j hj => ?_) (by simp only [List.length_cons] at hk; omega) (inv.set hr' hkn) hB' hK
    have := hl (j + 1) (by simp; omega)
    simpa [Nat.add_assoc, Nat.add_comm 1 j] using this

/-- The first n operations in the order of the text, in every world that w has grown to; then the rest, one behind the other. -/
theorem wp_region_ext_tail {id : Nat} {Q : Exit → Act → World → Prop} {a : Act} {w : World} {l : List Oper} (n : Nat) (hm : P.follows .mixedOrders = true) (hB : Region.lexTailB .any l.toArray n = true)
    (h : wpQuiet P l.toArray (fun w' => ∃ x : Ext w, w' = x.w) (fun a' => ∀ w', (∃ x : Ext w, w' = x.w) → wpList P l.toArray Q (l.drop n) a' w') (l.take n) a) : (Code.region id l.toArray true).wp P Q a w := by
  simp only [Region.lexTailB, Bool.and_eq_true, decide_eq_true_eq] at hB
  obtain ⟨⟨⟨⟨hsel, hn⟩, hs⟩, hc⟩, hlex⟩ := hB
  have htl : (l.take n).length = n := by have : n < l.length := by simpa using hn
                                         simp; omega
  have hdl : (l.drop n).length = l.toArray.size - n := by simp
  have inv0 : HeadInv .any l.toArray n (Array.replicate l.toArray.size false) :=
    ⟨by simp, fun j oj _ hl => (by rw [getD_replicate_false] at hl; cases hl), fun t _ ht => getD_in (by simpa using ht) (getD_replicate_false _ _)⟩
  have H := headAny_lex (md := .any) (g := l.toArray.size - n) hsel hs hc hn (l.take n) 0 (Array.replicate l.toArray.size false) a (fun j hj => by
    rw [htl] at hj
    simp [hj]) (by simpa using htl) inv0 (by rw [htl]; exact hlex) h
  refine wp_region_any hm ?_
  have := headAny_wp (md := .any) (Q' := Q) (g := l.toArray.size - n) (fun listed a' w' hw hL => by
    have := wpAny_of_seq (md := .any) (Q' := Q) (l.drop n) n listed a' w' (fun j => by simp [List.getElem?_drop]) (by rw [hdl]; exact hL.1) (hL.2 w' hw)
    rwa [hdl] at this) _ _ _ { w with drawn := w.drawn + 1 } ⟨⟨w.drew, (Fr.refl _ _).drew⟩, rfl⟩ H
  rw [htl, show n + (l.toArray.size - n) = l.toArray.size by omega] at this
  exact this

/-- .. the world under a name of its own, of which only what F says is known. -/
theorem region_tail_at (F : World → Prop) {id : Nat} {Q : Exit → Act → World → Prop} {a : Act} {w : World} {l : List Oper} (n : Nat) (hm : P.follows .mixedOrders = true) (hB : Region.lexTailB .any l.toArray n = true) (hF : F w)
    (h : ∀ W, F W → Nonempty (Ext W) → wpQuiet P l.toArray (fun w' => ∃ x : Ext W, w' = x.w) (fun a' => ∀ w', (∃ x : Ext W, w' = x.w) → wpList P l.toArray Q (l.drop n) a' w') (l.take n) a) : (Code.region id l.toArray true).wp P Q a w :=
  wp_region_ext_tail n hm hB (h w hF (ext_ne w))
end
end Go.Proofs.Ytajbfnihgonppaa

/-! Whole -/
namespace Go.Proofs.Ytajbfnihgonppaa
open Go.RowKit

theorem setCells_blk {b : Nat} {t : TypeId} {f : Nat × Nat} : ∀ (vs : List Value) (o : Nat) (w : World) (c : Array Value), w.heap[b]? = some (.cells c t f) →
    ∃ c', (w.setCells b o vs).heap[b]? = some (.cells c' t f) ∧ c'.size = c.size
  | [], _, _, c, h => ⟨c, h, rfl⟩
  | v :: vs, o, w, c, h => by
    obtain ⟨c', h1, h2⟩ := setCells_blk vs (o + 1) (w.setCell ⟨b, o, none⟩ v) _ (blk_set h o v)
    exact ⟨c', h1, by rw [h2]; simp⟩

theorem setCells_fr {b : Nat} : ∀ (vs : List Value) (o : Nat) (w : World), Fr [b] w (w.setCells b o vs)
  | [], _, w => Fr.refl _ _
  | v :: vs, o, w => ((Fr.refl [b] w).setCell (p := ⟨b, o, none⟩) (.inl (by simp)) v).trans (setCells_fr vs (o + 1) _)

theorem setCells_whole {w : World} {b : Nat} {t : TypeId} {c c' : Array Value} (h : w.heap[b]? = some (.cells c t)) (hs : c.size = c'.size) : (w.setCells b 0 c'.toList).heap[b]? = some (.cells c' t) := by
  obtain ⟨c2, h1, h2⟩ := setCells_blk c'.toList 0 w c h
  have hr := World.rangeAt_setCells_same w b 0 c'.toList (fun j hj => by
    rw [blk_cell h, blk_free h]
    have : j < c.size := by simpa [hs] using hj
    simp [this])
  have : c2 = c' := by
    apply Array.ext_getElem?
    intro j
    rcases Nat.lt_or_ge j c'.size with hj | hj
    · have := hr j c'[j] (by simp [hj])
      rw [Nat.zero_add, blk_cell h1] at this
      rw [this]; simp [hj]
    · rw [Array.getElem?_eq_none (by omega), Array.getElem?_eq_none hj]
  rw [h1, this]

section
variable {P : Program}
theorem wpList_store_whole {ops : Array Oper} {rest : List Oper} {o : Oper} {a : Act} {w : World} {Q : Exit → Act → World → Prop} (hgd : o.guard = none) (ty : TypeId) (x y : Operand) (ho : o.op = .store ty x y)
    (g : Nat) (hx : a.eval x = .pointer (some ⟨g, 0, none⟩)) (c' : Array Value) (hy : a.eval y = .agg c') (t : TypeId) (c : Array Value) (hg : w.heap[g]? = some (.cells c t)) (hs : c.size = c'.size)
    (hi : (P.info? ty).map (·.size) = some c'.size) (h1 : c'.all (·.oneCell') = true) (h : ∀ w', w'.heap[g]? = some (.cells c' t) → Fr [g] w w' → wpList P ops Q rest (a.put o.dst undef) w') : wpList P ops Q (o :: rest) a w :=
  wpList_store_mid hgd ty x y ho g 0 c' hx hy (fun j hj => by
    rw [blk_cell hg, blk_free hg]
    have : j < c.size := by omega
    simp [this]) hi h1 (h _ (setCells_whole hg hs) (setCells_fr _ _ _))

theorem results_c {fn : Func} {p : Tmp} {ty : TypeId} (h : fn.results = #[.cell p ty]) {tmps : Array Value} {w : World} {g : Nat} {cs : Array Value} {t : TypeId} {fr : Nat × Nat} {d : TypeDesc} (hp : tmps.getD p undef = .pointer (some ⟨g, 0, none⟩))
    (hg : w.heap[g]? = some (.cells cs t fr)) (hu : P.underlying ty = some d) (hd : (match d with | .struct _ | .array _ _ => true | _ => false) = true) (hi : (P.info? ty).map (·.size) = some cs.size) :
    (results fn tmps).run P w = .ok (.agg cs) w := by
  have hp' : tmps[p]?.getD undef = .pointer (some ⟨g, 0, none⟩) := by simpa using hp
  have hl := run_loadVar_row w g t ty cs fr d hg hu hd hi
  simp only [results, h]
  simp [hp', asAddr, hl]

theorem results_ct {fn : Func} {p u : Tmp} {ty : TypeId} (h : fn.results = #[.cell p ty, .tmp u]) {tmps : Array Value} {w : World} {g : Nat} {cs : Array Value} {t : TypeId} {fr : Nat × Nat} {d : TypeDesc} (hp : tmps.getD p undef = .pointer (some ⟨g, 0, none⟩))
    (hg : w.heap[g]? = some (.cells cs t fr)) (hu : P.underlying ty = some d) (hd : (match d with | .struct _ | .array _ _ => true | _ => false) = true) (hi : (P.info? ty).map (·.size) = some cs.size) :
    (results fn tmps).run P w = .ok (.tuple #[.agg cs, tmps.getD u undef]) w := by
  have hp' : tmps[p]?.getD undef = .pointer (some ⟨g, 0, none⟩) := by simpa using hp
  have hl := run_loadVar_row w g t ty cs fr d hg hu hd hi
  simp only [results, h]
  simp [Result.andThen, hp', asAddr, hl]

theorem results_ctt {fn : Func} {p u v : Tmp} {ty : TypeId} (h : fn.results = #[.cell p ty, .tmp u, .tmp v]) {tmps : Array Value} {w : World} {g : Nat} {cs : Array Value} {t : TypeId} {fr : Nat × Nat} {d : TypeDesc} (hp : tmps.getD p undef = .pointer (some ⟨g, 0, none⟩))
    (hg : w.heap[g]? = some (.cells cs t fr)) (hu : P.underlying ty = some d) (hd : (match d with | .struct _ | .array _ _ => true | _ => false) = true) (hi : (P.info? ty).map (·.size) = some cs.size) :
    (results fn tmps).run P w = .ok (.tuple #[.agg cs, tmps.getD u undef, tmps.getD v undef]) w := by
  have hp' : tmps[p]?.getD undef = .pointer (some ⟨g, 0, none⟩) := by simpa using hp
  have hl := run_loadVar_row w g t ty cs fr d hg hu hd hi
  simp only [results, h]
  simp [Result.andThen, hp', asAddr, hl]
end
end Go.Proofs.Ytajbfnihgonppaa

/-! Held -/
namespace Go.Proofs.Ytajbfnihgonppaa
open Go.RowKit

section
variable {P : Program} {ops : Array Oper} {S : World → Prop}
theorem yieldsIf_row {o : Oper} {a : Act} (hw : Region.wanted o (yielded ops a.tmps) = true) (ty : TypeId) (x : Operand) (ho : o.op = .load ty x) (g : Nat) (hx : a.eval x = .pointer (some ⟨g, 0, none⟩)) (t : TypeId) (cs : Array Value) (fr : Nat × Nat) (d : TypeDesc)
    (hg : ∀ w, S w → w.heap[g]? = some (.cells cs t fr)) (hu : P.underlying ty = some d) (hd : (match d with | .struct _ | .array _ _ => true | _ => false) = true) (hi : (P.info? ty).map (·.size) = some cs.size) : YieldsIf P ops S o (.agg cs) a :=
  .inl ⟨hw, fun w hS => by
    unfold execOp
    simp only [ho, hx, Instr.loadAt, Instr.sureAddr, Sem.run_bind, Sem.run_pure, Result.andThen_ok, run_loadVar_row w g t ty cs fr d (hg w hS) hu hd hi]⟩

theorem yieldsIf_of {o : Oper} {a : Act} (v : Value) (hw : Region.wanted o (yielded ops a.tmps) = true) (h : ∀ w, S w → (execOp a.eval o).run P w = .ok (.value v) w) : YieldsIf P ops S o v a := .inl ⟨hw, h⟩

theorem wp_store_whole {o : Oper} {a : Act} {w : World} {K : Act → World → Prop} {Q : Exit → Act → World → Prop} (ty : TypeId) (x y : Operand) (ho : o.op = .store ty x y)
    (g : Nat) (hx : a.eval x = .pointer (some ⟨g, 0, none⟩)) (c' : Array Value) (hy : a.eval y = .agg c') (t : TypeId) (c : Array Value) (hg : w.heap[g]? = some (.cells c t)) (hs : c.size = c'.size)
    (hi : (P.info? ty).map (·.size) = some c'.size) (h1 : c'.all (·.oneCell') = true) (h : ∀ w', w'.heap[g]? = some (.cells c' t) → Fr [g] w w' → K (a.put o.dst undef) w') : o.wp P a w K Q :=
  wp_store_mid ty x y ho g 0 c' hx hy (fun j hj => by
    rw [blk_cell hg, blk_free hg]
    have : j < c.size := by omega
    simp [this]) hi h1 (h _ (setCells_whole hg hs) (setCells_fr _ _ _))
end
end Go.Proofs.Ytajbfnihgonppaa

/-! RowG -/
namespace Go.Proofs.Ytajbfnihgonppaa
open Go.RowKit
section
variable {P : Program} {ops : Array Oper} {S : World → Prop}
/-- a whole struct's load, that may stand behind a guard -/
theorem wpList_load_row_g {o : Oper} {rest : List Oper} {a : Act} {w : World} {Q : Exit → Act → World → Prop} (hw : Region.wanted o (yielded ops a.tmps) = true) (ty : TypeId) (x : Operand) (ho : o.op = .load ty x) (g : Nat) (hx : a.eval x = .pointer (some ⟨g, 0, none⟩)) (t : TypeId) (cs : Array Value) (fr : Nat × Nat) (d : TypeDesc)
    (hg : w.heap[g]? = some (.cells cs t fr)) (hu : P.underlying ty = some d) (hd : (match d with | .struct _ | .array _ _ => true | _ => false) = true) (hi : (P.info? ty).map (·.size) = some cs.size) (h : wpList P ops Q rest (a.put o.dst (.agg cs)) w) : wpList P ops Q (o :: rest) a w := by
  have hrun : (execOp a.eval o).run P w = .ok (.value (.agg cs)) w := by
    unfold execOp
    simp only [ho, hx, Instr.loadAt, Instr.sureAddr, Sem.run_bind, Sem.run_pure, Result.andThen_ok, run_loadVar_row w g t ty cs fr d hg hu hd hi]
  unfold wpList
  rw [if_pos hw]
  left
  unfold Oper.wp
  rw [hrun]
  exact h

end
end Go.Proofs.Ytajbfnihgonppaa

/-! Pures -/
namespace Go.Proofs.Ytajbfnihgonppaa
open Go.RowKit

/-- what an operation makes, where it makes a value alone -/
def pureOp (P : Program) (a : Act) (o : Oper) : Option Value :=
  match o.guard, o.op with
  | none, .move x => some (a.eval x)
  | none, .assign x => some (a.eval x)
  | none, .build t parts => (P.built t (parts.map fun (i, x) => (i, a.eval x)).toList).map .agg
  | _, _ => none
def pureOps (P : Program) : List Oper → Act → Option Act
  | [], a => some a
  | o :: r, a => match pureOp P a o with
    | some v => pureOps P r (a.put o.dst v)
    | none => none
theorem pureOp_wp {P : Program} {ops : Array Oper} {rest : List Oper} {o : Oper} {a : Act} {w : World} {Q : Exit → Act → World → Prop} {v : Value} (h : pureOp P a o = some v) (k : wpList P ops Q rest (a.put o.dst v) w) : wpList P ops Q (o :: rest) a w := by
  unfold pureOp at h
  split at h
  · rename_i x hg ho
    cases h
    refine wpList_plain hg fun K hK => ?_
    unfold Oper.wp execOp
    simp only [ho]
    exact hK _ _ k
  · rename_i x hg ho
    cases h
    refine wpList_plain hg fun K hK => ?_
    unfold Oper.wp execOp
    simp only [ho]
    exact hK _ _ k
  · rename_i t parts hg ho
    cases hb : P.built t (parts.map fun (i, x) => (i, a.eval x)).toList with
    | none => rw [hb] at h; cases h
    | some cells =>
      rw [hb] at h
      cases h
      exact wpList_buildTo hg t parts ho o.dst rfl cells hb k
  · cases h
theorem pureOps_wp {P : Program} {ops : Array Oper} {rest : List Oper} {w : World} {Q : Exit → Act → World → Prop} : ∀ (l : List Oper) (a a' : Act), pureOps P l a = some a' → wpList P ops Q rest a' w → wpList P ops Q (l ++ rest) a w
  | [], a, a', h, k => by cases h; exact k
  | o :: r, a, a', h, k => by
    unfold pureOps at h
    split at h
    · rename_i v hv
      exact pureOp_wp hv (pureOps_wp r _ a' h k)
    · cases h
/-- the first n operations of a list -/
theorem pures_wp {P : Program} {ops : Array Oper} {l : List Oper} {w : World} {Q : Exit → Act → World → Prop} (n : Nat) (a a' : Act) (rest : List Oper) (hr : l.drop n = rest) (h : pureOps P (l.take n) a = some a') (k : wpList P ops Q rest a' w) : wpList P ops Q l a w := by
  subst hr
  have := pureOps_wp (ops := ops) (l.take n) a a' h k
  rwa [List.take_append_drop] at this
end Go.Proofs.Ytajbfnihgonppaa

/-! TailAlloc -/
namespace Go.Proofs.Ytajbfnihgonppaa
open Go.RowKit

section
variable {P : Program} {ops : Array Oper} {md : Region.Mode}

/-- in every world that w has grown to, the operation yields v, and the world grows again -/
def YieldsF (P : Program) (ops : Array Oper) (w : World) (o : Oper) (v : Value) (a : Act) : Prop := ∀ w1, Fr [] w w1 → YieldsIn P ops (fun w' => ∃ n : Ext w1, w' = n.w) o v a
def qF (P : Program) (ops : Array Oper) (w : World) (i : Nat) (K : Act → Prop) (a : Act) : Prop := ∃ o v, ops[i]? = some o ∧ YieldsF P ops w o v a ∧ K (a.put o.dst v)
theorem qF_mono {w : World} {i : Nat} {a : Act} {K K' : Act → Prop} (h : ∀ a, K a → K' a) (hh : qF P ops w i K a) : qF P ops w i K' a :=
  let ⟨o, v, h1, h2, h3⟩ := hh
  ⟨o, v, h1, h2, h _ h3⟩
theorem YieldsF.put {w : World} {oi oj : Oper} {v u : Value} {a : Act} (hap : oi.apart ops oj = true) (hsi : ∀ cs b, oi.op ≠ .select cs b) (hy : YieldsF P ops w oi v a) : YieldsF P ops w oi v (a.put oj.dst u) := fun w1 hw1 =>
  (hy w1 hw1).of_same (execOp_put oi hsi a oj.dst u (Oper.apart_spec hap).2.2) (wanted_put oi a oj.dst u (Oper.apart_spec hap).2.2)
theorem qF_put {w : World} {j : Nat} {oi oj : Oper} {v : Value} (hj : ops[j]? = some oj) (hap : oi.apart ops oj = true)
    (hsi : ∀ cs b, oi.op ≠ .select cs b) (hsj : ∀ cs b, oj.op ≠ .select cs b) {K : Act → Prop} {a : Act}
    (hy : YieldsF P ops w oi v a) (h : qF P ops w j K (a.put oi.dst v)) : qF P ops w j (fun a' => YieldsF P ops w oi v a' ∧ K (a'.put oi.dst v)) a := by
  obtain ⟨h1, h2, h3⟩ := Oper.apart_spec hap
  obtain ⟨o, u, ho, hu, hK⟩ := h
  rw [hj] at ho; cases ho
  refine ⟨oj, u, hj, fun w1 hw1 => (hu w1 hw1).of_same (execOp_put oj hsj a oi.dst v h1).symm (wanted_put oj a oi.dst v h1).symm, hy.put hap hsi, ?_⟩
  rw [← Act.put_comm a v u h2]
  exact hK

/-- whatever order the first n are picked in, the block having been made -/
def hA (P : Program) (md : Region.Mode) (ops : Array Oper) (w : World) (n : Nat) (L : Array Bool → Act → Prop) : Nat → Array Bool → Act → Prop
  | 0, listed, a => L listed a
  | f + 1, listed, a => Region.ready md ops listed ≠ [] ∧ ∀ i ∈ Region.ready md ops listed, i < n ∧ qF P ops w i (hA P md ops w n L f (listed.setIfInBounds i true)) a
/-- .. the block being still to be made, by operation k, into the slot d -/
def hB (P : Program) (md : Region.Mode) (ops : Array Oper) (w : World) (n k : Nat) (d : Option Tmp) (L : Nat → Array Bool → Act → Prop) : Nat → Array Bool → Act → Prop
  | 0, _, _ => False
  | f + 1, listed, a => Region.ready md ops listed ≠ [] ∧ ∀ i ∈ Region.ready md ops listed, i < n ∧
      (i = k → ∀ A, hA P md ops w n (L A) f (listed.setIfInBounds k true) (a.put d (.pointer (some ⟨A, 0, none⟩)))) ∧
      (i ≠ k → qF P ops w i (hB P md ops w n k d L f (listed.setIfInBounds i true)) a)

theorem wpOp_of_qF {w w' : World} {i : Nat} {a : Act} {K : Act → Prop} {K' : Act → World → Prop} {Q' : Exit → Act → World → Prop} (hw : Fr [] w w') (h : ∀ a w'', Fr [] w' w'' → K a → K' a w'') (hh : qF P ops w i K a) : wpOp P ops Q' i K' a w' := by
  obtain ⟨o, v, h1, h2, h3⟩ := hh
  exact wpOp_of_qOp (C := fun x => ∃ n : Ext w', x = n.w) ⟨⟨w', Fr.refl _ _⟩, rfl⟩ (fun a' w'' ⟨n, hn⟩ hK => h a' w'' (hn ▸ n.fr) hK) ((h2 w' hw).qOp h1 h3)

theorem hA_wp {w : World} {n g A : Nat} {Z : Obj} {L : Array Bool → Act → Prop} {Q' : Exit → Act → World → Prop}
    (hL : ∀ listed a w', Fr [] w w' → w'.heap[A]? = some Z → L listed a → wpAny P md ops Q' g listed a w') (f : Nat) :
    ∀ (listed : Array Bool) (a : Act) (w' : World), Fr [] w w' → w'.heap[A]? = some Z → hA P md ops w n L f listed a → wpAny P md ops Q' (f + g) listed a w' := by
  induction f with
  | zero => intro listed a w' hw hZ h; rw [Nat.zero_add]; exact hL _ _ _ hw hZ h
  | succ f ih =>
    intro listed a w' hw hZ h
    rw [show f + 1 + g = (f + g) + 1 by omega]
    exact ⟨fun h0 => absurd h0 h.1, fun i hi => wpOp_of_qF hw (fun a' w'' hw' h' => ih _ a' w'' (hw.trans hw') (hw'.keeps hZ (by simp)) h') (h.2 i hi).2⟩
theorem hB_wp {w : World} {n k g : Nat} {d : Option Tmp} {Z : Obj} {L : Nat → Array Bool → Act → Prop} {Q' : Exit → Act → World → Prop}
    (hk : ∀ (a : Act) (w' : World) (K : Act → World → Prop), K (a.put d (.pointer (some ⟨w'.heap.size, 0, none⟩))) (w'.alloc Z) → wpOp P ops Q' k K a w')
    (hL : ∀ A listed a w', Fr [] w w' → w'.heap[A]? = some Z → w.heap.size ≤ A → L A listed a → wpAny P md ops Q' g listed a w') (f : Nat) :
    ∀ (listed : Array Bool) (a : Act) (w' : World), Fr [] w w' → hB P md ops w n k d L f listed a → wpAny P md ops Q' (f + g) listed a w' := by
  induction f with
  | zero => intro listed a w' hw h; exact h.elim
  | succ f ih =>
    intro listed a w' hw h
    rw [show f + 1 + g = (f + g) + 1 by omega]
    refine ⟨fun h0 => absurd h0 h.1, fun i hi => ?_⟩
    by_cases hik : i = k
    · subst hik
      refine hk a w' _ ?_
      exact hA_wp (fun listed a w'' h1 h2 h3 => hL w'.heap.size listed a w'' h1 h2 hw.size h3) f _ _ _ (hw.alloc _) (blk_new _ _) ((h.2 i hi).2.1 rfl w'.heap.size)
    · exact wpOp_of_qF hw (fun a' w'' hw' h' => ih _ a' w'' (hw.trans hw') h') ((h.2 i hi).2.2 hik)

theorem hA_pull {w : World} {n i : Nat} {oi : Oper} {v : Value} {L : Array Bool → Act → Prop} (hi : ops[i]? = some oi) (hsel : ∀ (j : Nat) (o : Oper) cs b, ops[j]? = some o → o.op ≠ .select cs b)
    (hs : Region.sinkB md ops n = true) (hc : Region.chainB md ops n = true) (hn : n < ops.size) (hin : i < n) (hdone : ∀ listed a, L listed a → ∀ j ∈ Region.ready md ops listed, n ≤ j) (f : Nat) :
    ∀ (listed : Array Bool) (a : Act), HeadInv md ops n listed →
      (∀ j oj, ops[j]? = some oj → j ≠ i → listed.getD j true = false → (∀ e ∈ oj.after, Region.binds md e = true → e.on ≠ i) → oi.apart ops oj = true) →
      i ∈ Region.ready md ops listed → YieldsF P ops w oi v a → hA P md ops w n L f (listed.setIfInBounds i true) (a.put oi.dst v) → hA P md ops w n L (f + 1) listed a := by
  induction f with
  | zero =>
    intro listed a inv _ hr hy H
    refine ⟨fun h => absurd (h ▸ hr) (by simp), fun j hj => ?_⟩
    have hjn : j < n := Nat.lt_of_not_le fun h => tail_waits hs hc hn inv _ i rfl hin (mem_ready.1 hr).1 j h hj
    by_cases hji : j = i
    · subst hji; exact ⟨hjn, _, _, hi, hy, H⟩
    · exact absurd (hdone _ _ H j (ready_mono hj hji)) (by omega)
  | succ f ih =>
    intro listed a inv hfree hr hy H
    refine ⟨fun h => absurd (h ▸ hr) (by simp), fun j hj => ?_⟩
    have hun := (mem_ready.1 hr).1
    have hjn : j < n := Nat.lt_of_not_le fun h => tail_waits hs hc hn inv _ i rfl hin hun j h hj
    by_cases hji : j = i
    · subst hji; exact ⟨hjn, _, _, hi, hy, H⟩
    refine ⟨hjn, ?_⟩
    obtain ⟨hjun, oj, hoj, hall⟩ := mem_ready.1 hj
    have hno : ∀ e ∈ oj.after, Region.binds md e = true → e.on ≠ i := by
      intro e he hb heq
      have := hall e he hb
      rw [heq, getD_both hun] at this
      cases this
    have h2 := qF_put hoj (hfree j oj hoj hji hjun hno) (fun cs b => hsel i oi cs b hi) (fun cs b => hsel j oj cs b hoj) hy (H.2 j (ready_mono hj hji)).2
    refine qF_mono (fun a' h3 => ih _ a' (inv.set hj hjn) ?_ (ready_mono hr (Ne.symm hji)) h3.1 ?_) h2
    · intro k ok hk hki hku hkno
      refine hfree k ok hk hki ?_ hkno
      by_cases hjk : j = k
      · subst hjk; exact hjun
      · rwa [getD_set_ne true hjk] at hku
    · rw [Array.setIfInBounds_comm _ _ hji]
      exact h3.2

theorem hB_pull {w : World} {n i k : Nat} {oi ok : Oper} {v : Value} {L : Nat → Array Bool → Act → Prop} (hi : ops[i]? = some oi) (hk : ops[k]? = some ok) (hsel : ∀ (j : Nat) (o : Oper) cs b, ops[j]? = some o → o.op ≠ .select cs b)
    (hs : Region.sinkB md ops n = true) (hc : Region.chainB md ops n = true) (hn : n < ops.size) (hin : i < n) (hik : i ≠ k) (hdone : ∀ A listed a, L A listed a → ∀ j ∈ Region.ready md ops listed, n ≤ j) (f : Nat) :
    ∀ (listed : Array Bool) (a : Act), HeadInv md ops n listed →
      (∀ j oj, ops[j]? = some oj → j ≠ i → listed.getD j true = false → (∀ e ∈ oj.after, Region.binds md e = true → e.on ≠ i) → oi.apart ops oj = true) →
      i ∈ Region.ready md ops listed → YieldsF P ops w oi v a → hB P md ops w n k ok.dst L f (listed.setIfInBounds i true) (a.put oi.dst v) → hB P md ops w n k ok.dst L (f + 1) listed a := by
  induction f with
  | zero => intro listed a inv _ hr hy H; exact H.elim
  | succ f ih =>
    intro listed a inv hfree hr hy H
    refine ⟨fun h => absurd (h ▸ hr) (by simp), fun j hj => ?_⟩
    have hun := (mem_ready.1 hr).1
    have hjn : j < n := Nat.lt_of_not_le fun h => tail_waits hs hc hn inv _ i rfl hin hun j h hj
    by_cases hji : j = i
    · subst hji; exact ⟨hjn, fun h => absurd h hik, fun _ => ⟨_, _, hi, hy, H⟩⟩
    obtain ⟨hjun, oj, hoj, hall⟩ := mem_ready.1 hj
    have hno : ∀ e ∈ oj.after, Region.binds md e = true → e.on ≠ i := by
      intro e he hb heq
      have := hall e he hb
      rw [heq, getD_both hun] at this
      cases this
    have hap := hfree j oj hoj hji hjun hno
    have hfree' : ∀ k ok, ops[k]? = some ok → k ≠ i → (listed.setIfInBounds j true).getD k true = false → (∀ e ∈ ok.after, Region.binds md e = true → e.on ≠ i) → oi.apart ops ok = true := by
      intro k ok hk hki hku hkno
      refine hfree k ok hk hki ?_ hkno
      by_cases hjk : j = k
      · subst hjk; exact hjun
      · rwa [getD_set_ne true hjk] at hku
    refine ⟨hjn, fun hjk A => ?_, fun hjk => ?_⟩
    · subst hjk
      rw [hk] at hoj; cases hoj
      refine hA_pull hi hsel hs hc hn hin (hdone A) f _ _ (inv.set hj hjn) hfree' (ready_mono hr (Ne.symm hji)) (hy.put hap (fun cs b => hsel i oi cs b hi)) ?_
      rw [Array.setIfInBounds_comm _ _ hji, ← Act.put_comm a v _ (Oper.apart_spec hap).2.1]
      exact (H.2 j (ready_mono hj hji)).2.1 rfl A
    · have h2 := qF_put hoj hap (fun cs b => hsel i oi cs b hi) (fun cs b => hsel j oj cs b hoj) hy ((H.2 j (ready_mono hj hji)).2.2 hjk)
      refine qF_mono (fun a' h3 => ih _ a' (inv.set hj hjn) hfree' (ready_mono hr (Ne.symm hji)) h3.1 ?_) h2
      rw [Array.setIfInBounds_comm _ _ hji]
      exact h3.2

/-- one behind the other, each in every world grown -/
def wpQF (P : Program) (ops : Array Oper) (w : World) (Q : Act → Prop) : List Oper → Act → Prop
  | [], a => Q a
  | o :: r, a => ∃ v, YieldsF P ops w o v a ∧ wpQF P ops w Q r (a.put o.dst v)

theorem hB_lex {w : World} {n k g : Nat} {ok : Oper} {Lq : Nat → Act → Prop} (hk : ops[k]? = some ok) (hkn : k + 1 = n) (hsel : Region.noSelect ops = true) (hs : Region.sinkB md ops n = true) (hc : Region.chainB md ops n = true) (hn : n < ops.size) (l : List Oper) :
    ∀ (j0 : Nat) (listed : Array Bool) (a : Act), (∀ j, j < l.length → l[j]? = ops[j0 + j]?) → j0 + l.length = k → HeadInv md ops n listed →
    Region.lexHead md ops g (l.length + 1) j0 listed = true → wpQF P ops w (fun a => ∀ A, Lq A (a.put ok.dst (.pointer (some ⟨A, 0, none⟩)))) l a →
    hB P md ops w n k ok.dst (fun A listed' a' => Region.seqB md ops g n listed' = true ∧ Lq A a') (l.length + 1) listed a := by
  induction l with
  | nil =>
    intro j0 listed a _ hj inv hB h
    obtain rfl : j0 = k := by simpa using hj
    simp only [List.length_nil, Region.lexHead, Bool.and_eq_true] at hB
    obtain ⟨⟨hr, _⟩, hsq⟩ := hB
    have hr' : j0 ∈ Region.ready md ops listed := by simpa using hr
    rw [hkn] at hsq
    refine ⟨fun h => absurd (h ▸ hr') (by simp), fun i hi => ?_⟩
    have hin : i < n := Nat.lt_of_not_le fun h => tail_waits hs hc hn inv _ j0 rfl (by omega) (mem_ready.1 hr').1 i h hi
    refine ⟨hin, fun _ A => ⟨hsq, h A⟩, fun hne => ?_⟩
    exact absurd (seqB_ready hsq i (ready_mono hi hne)) (by omega)
  | cons o l ih =>
    intro j0 listed a hl hj inv hB h
    have h0 : ops[j0]? = some o := by simpa using (hl 0 (by simp)).symm
    simp only [List.length_cons] at hj
    simp only [List.length_cons, Region.lexHead, Bool.and_eq_true] at hB
    obtain ⟨⟨hr, hf⟩, hB'⟩ := hB
    have hr' : j0 ∈ Region.ready md ops listed := by simpa using hr
    obtain ⟨v, hy, hK⟩ := h
    refine hB_pull h0 hk (Region.noSelect_spec hsel) hs hc hn (by omega) (by omega) (fun _ _ _ hL => seqB_ready hL.1) (l.length + 1) listed a inv (Region.free_spec h0 hf) hr' hy ?_
    refine ih (j0 + 1) _ _ (fun j hj => ?_) (by omega) (inv.set hr' (by omega)) ?_ hK
    · have := hl (j + 1) (by simp; omega)
      simpa [Nat.add_assoc, Nat.add_comm 1 j] using this
    · simpa [Region.lexHead] using hB'

theorem put_ne {a : Act} {dst : Option Tmp} {v : Value} {d : Nat} (h : dst ≠ some d) : (a.put dst v).tmps[d]? = a.tmps[d]? := by
  unfold Act.put
  cases dst with
  | none => rfl
  | some e =>
    show (a.tmps.setIfInBounds e v)[d]? = _
    rw [Array.getElem?_setIfInBounds_ne (fun he => h (by rw [he]))]
theorem put_size (a : Act) (dst : Option Tmp) (v : Value) : (a.put dst v).tmps.size = a.tmps.size := by
  unfold Act.put
  cases dst with
  | none => rfl
  | some e => exact Array.size_setIfInBounds
theorem keepD {C : World → Prop} {aF : Act} : ∀ (r : List Oper) (a : Act) (d : Nat), (∀ o ∈ r, o.dst ≠ some d) → wpQuiet P ops C (fun a' => a' = aF) r a → aF.tmps[d]? = a.tmps[d]?
  | [], a, d, _, h => by
    have h : a = aF := h
    rw [h]
  | o :: r, a, d, hd, h => by
    unfold wpQuiet at h
    split at h
    · obtain ⟨v, _, h2⟩ := h
      rw [keepD r _ d (fun o ho => hd o (List.mem_cons_of_mem _ ho)) h2, put_ne (hd o (by simp))]
    · rw [keepD r _ d (fun o ho => hd o (List.mem_cons_of_mem _ ho)) h, put_ne (hd o (by simp))]
def okD : List Oper → Nat → Bool
  | [], _ => true
  | o :: r, n => (match o.dst with | some d => decide (d < n) && r.all (fun o' => o'.dst != some d) | none => false) && okD r n
theorem wpQF_of {w : World} {aF : Act} : ∀ (l : List Oper) (a : Act), okD l a.tmps.size = true → (∀ w1, Fr [] w w1 → wpQuiet P ops (fun w' => ∃ n : Ext w1, w' = n.w) (fun a' => a' = aF) l a) → wpQF P ops w (fun a' => a' = aF) l a
  | [], a, _, H => H w (Fr.refl _ _)
  | o :: r, a, hd, H => by
    unfold okD at hd
    rw [Bool.and_eq_true] at hd
    obtain ⟨hd1, hd2⟩ := hd
    split at hd1
    · rename_i d hdst
      simp only [Bool.and_eq_true, decide_eq_true_eq, List.all_eq_true, bne_iff_ne] at hd1
      by_cases hw : Region.wanted o (yielded ops a.tmps) = true
      · have key : ∀ w1, Fr [] w w1 → (∀ w', (∃ n : Ext w1, w' = n.w) → o.quietAt P a (fun w' => ∃ n : Ext w1, w' = n.w) w' (aF.tmps[d]?.getD undef)) ∧ wpQuiet P ops (fun w' => ∃ n : Ext w1, w' = n.w) (fun a' => a' = aF) r (a.put o.dst (aF.tmps[d]?.getD undef)) := by
          intro w1 hw1
          have := H w1 hw1
          unfold wpQuiet at this
          rw [if_pos hw] at this
          obtain ⟨v, h1, h2⟩ := this
          have h3 := keepD r _ d hd1.2 h2
          have h4 : (a.put o.dst v).tmps[d]? = some v := by
            rw [hdst]
            show (a.tmps.setIfInBounds d v)[d]? = _
            simp [hd1.1]
          rw [h3, h4]
          exact ⟨h1, h2⟩
        exact ⟨_, fun w1 hw1 => .inl ⟨hw, (key w1 hw1).1⟩, wpQF_of r _ (by rw [put_size]; exact hd2) fun w1 hw1 => (key w1 hw1).2⟩
      · refine ⟨undef, fun w1 _ => .inr ⟨by simpa using hw, rfl⟩, wpQF_of r _ (by rw [put_size]; exact hd2) fun w1 hw1 => ?_⟩
        have := H w1 hw1
        unfold wpQuiet at this
        rw [if_neg hw] at this
        exact this
    · cases hd1

/-- The first k operations in the order of the text, in every world grown; operation k makes a block Z, whose number is left open; then the rest, one behind the other. -/
theorem wp_region_alloc {id : Nat} {Q : Exit → Act → World → Prop} {a : Act} {w : World} {l : List Oper} (n k : Nat) (hm : P.follows .mixedOrders = true) (hB : Region.lexTailB .any l.toArray n = true) (hkn : k + 1 = n) (ok : Oper) (hk : l[k]? = some ok)
    (hg : ok.guard = none) (Z : Obj) (hrun : ∀ (ρ : Operand → Value) (w : World), (execOp ρ ok).run P w = .ok (.value (.pointer (some ⟨w.heap.size, 0, none⟩))) (w.alloc Z)) (hd : okD (l.take k) a.tmps.size = true) (aF : Act)
    (h : ∀ w1, Fr [] w w1 → Nonempty (Ext w1) → wpQuiet P l.toArray (fun w' => ∃ x : Ext w1, w' = x.w) (fun a' => a' = aF) (l.take k) a)
    (ht : ∀ A w', Fr [] w w' → w'.heap[A]? = some Z → w.heap.size ≤ A → wpList P l.toArray Q (l.drop n) (aF.put ok.dst (.pointer (some ⟨A, 0, none⟩))) w') : (Code.region id l.toArray true).wp P Q a w := by
  simp only [Region.lexTailB, Bool.and_eq_true, decide_eq_true_eq] at hB
  obtain ⟨⟨⟨⟨hsel, hn⟩, hs⟩, hc⟩, hlex⟩ := hB
  have hkl : k < l.length := (List.getElem?_eq_some_iff.1 hk).1
  have htl : (l.take k).length = k := by simp; omega
  have hdl : (l.drop n).length = l.toArray.size - n := by simp
  have inv0 : HeadInv .any l.toArray n (Array.replicate l.toArray.size false) :=
    ⟨by simp, fun j oj _ hl => (by rw [getD_replicate_false] at hl; cases hl), fun t _ ht => getD_in (by simpa using ht) (getD_replicate_false _ _)⟩
  have hq := wpQF_of (l.take k) a hd fun w1 hw1 => h w1 hw1 (ext_ne w1)
  have H := hB_lex (md := .any) (g := l.toArray.size - n) (Lq := fun A a' => a' = aF.put ok.dst (.pointer (some ⟨A, 0, none⟩))) (k := k) (ok := ok) (by simpa using hk) hkn hsel hs hc hn (l.take k) 0 (Array.replicate l.toArray.size false) a (fun j hj => by
    rw [htl] at hj
    simp [hj]) (by simpa using htl) inv0 (by rw [htl, hkn]; exact hlex) (by
      have mono : ∀ (l' : List Oper) (b : Act), wpQF P l.toArray w (fun a' => a' = aF) l' b → wpQF P l.toArray w (fun a => ∀ A, a.put ok.dst (.pointer (some ⟨A, 0, none⟩)) = aF.put ok.dst (.pointer (some ⟨A, 0, none⟩))) l' b := by
        intro l'
        induction l' with
        | nil => intro b hb A; rw [show b = aF from hb]
        | cons o r ih => intro b hb; obtain ⟨v, h1, h2⟩ := hb; exact ⟨v, h1, ih _ h2⟩
      exact mono _ _ hq)
  refine wp_region_any hm ?_
  have := hB_wp (md := .any) (Q' := Q) (g := l.toArray.size - n) (Z := Z) (fun a w' K hK => by
      unfold wpOp
      have hk' : l.toArray[k]? = some ok := by simpa using hk
      simp only [hk']
      rw [if_pos (by simp [Region.wanted, hg])]
      left
      unfold Oper.wp
      rw [hrun]
      exact hK) (fun A listed a' w' hw hZ hA hL => by
    obtain ⟨hsq, rfl⟩ := hL
    have := wpAny_of_seq (md := .any) (Q' := Q) (l.drop n) n listed _ w' (fun j => by simp [List.getElem?_drop]) (by rw [hdl]; exact hsq) (ht A w' hw hZ hA)
    rwa [hdl] at this) _ _ _ { w with drawn := w.drawn + 1 } (Fr.refl [] w).drew H
  rw [htl, show k + 1 + (l.toArray.size - n) = l.toArray.size by omega] at this
  exact this
end
end Go.Proofs.Ytajbfnihgonppaa

/-! TailAlloc2 -/
namespace Go.Proofs.Ytajbfnihgonppaa
open Go.RowKit

section
variable {P : Program} {ops : Array Oper} {md : Region.Mode}
theorem YieldsF.grow {w w1 : World} (h : Fr [] w w1) {o : Oper} {v : Value} {a : Act} (hy : YieldsF P ops w o v a) : YieldsF P ops w1 o v a := fun w2 h2 => hy w2 (h.trans h2)
theorem qF.grow {w w1 : World} (h : Fr [] w w1) {i : Nat} {a : Act} {K K' : Act → Prop} (hK : ∀ a, K a → K' a) (hq : qF P ops w i K a) : qF P ops w1 i K' a :=
  let ⟨o, v, h1, h2, h3⟩ := hq
  ⟨o, v, h1, h2.grow h, hK _ h3⟩
theorem hA_grow {w w1 : World} (h : Fr [] w w1) {n : Nat} {L : Array Bool → Act → Prop} : ∀ (f : Nat) (listed : Array Bool) (a : Act), hA P md ops w n L f listed a → hA P md ops w1 n L f listed a
  | 0, _, _, H => H
  | f + 1, _, _, H => ⟨H.1, fun i hi => ⟨(H.2 i hi).1, (H.2 i hi).2.grow h fun a => hA_grow h f _ a⟩⟩
theorem hB_grow {w w1 : World} (h : Fr [] w w1) {n k : Nat} {d : Option Tmp} {L : Nat → Array Bool → Act → Prop} : ∀ (f : Nat) (listed : Array Bool) (a : Act), hB P md ops w n k d L f listed a → hB P md ops w1 n k d L f listed a
  | 0, _, _, H => H
  | f + 1, _, _, H => ⟨H.1, fun i hi => ⟨(H.2 i hi).1, fun e A => hA_grow h f _ _ ((H.2 i hi).2.1 e A), fun e => ((H.2 i hi).2.2 e).grow h fun a => hB_grow h f _ a⟩⟩

def ptrV (A : Nat) : Value := .pointer (some ⟨A, 0, none⟩)
/-- whatever order the first n are picked in, two blocks being still to be made -/
def hC (P : Program) (md : Region.Mode) (ops : Array Oper) (w : World) (n k1 k2 : Nat) (d1 d2 : Option Tmp) (L : Nat → Nat → Array Bool → Act → Prop) : Nat → Array Bool → Act → Prop
  | 0, _, _ => False
  | f + 1, listed, a => Region.ready md ops listed ≠ [] ∧ ∀ i ∈ Region.ready md ops listed, i < n ∧
      (i = k1 → ∀ A, hB P md ops w n k2 d2 (fun B => L A B) f (listed.setIfInBounds k1 true) (a.put d1 (ptrV A))) ∧
      (i = k2 → ∀ B, hB P md ops w n k1 d1 (fun A => L A B) f (listed.setIfInBounds k2 true) (a.put d2 (ptrV B))) ∧
      (i ≠ k1 → i ≠ k2 → qF P ops w i (hC P md ops w n k1 k2 d1 d2 L f (listed.setIfInBounds i true)) a)

theorem hC_wp {w : World} {n k1 k2 g : Nat} {d1 d2 : Option Tmp} {Z1 Z2 : Obj} {L : Nat → Nat → Array Bool → Act → Prop} {Q' : Exit → Act → World → Prop} (hne : k1 ≠ k2)
    (hk1 : ∀ (a : Act) (w' : World) (K : Act → World → Prop), K (a.put d1 (ptrV w'.heap.size)) (w'.alloc Z1) → wpOp P ops Q' k1 K a w')
    (hk2 : ∀ (a : Act) (w' : World) (K : Act → World → Prop), K (a.put d2 (ptrV w'.heap.size)) (w'.alloc Z2) → wpOp P ops Q' k2 K a w')
    (hL : ∀ A B listed a w', Fr [] w w' → w'.heap[A]? = some Z1 → w'.heap[B]? = some Z2 → w.heap.size ≤ A → w.heap.size ≤ B → A ≠ B → L A B listed a → wpAny P md ops Q' g listed a w') (f : Nat) :
    ∀ (listed : Array Bool) (a : Act) (w' : World), Fr [] w w' → hC P md ops w n k1 k2 d1 d2 L f listed a → wpAny P md ops Q' (f + g) listed a w' := by
  induction f with
  | zero => intro listed a w' hw h; exact h.elim
  | succ f ih =>
    intro listed a w' hw h
    rw [show f + 1 + g = (f + g) + 1 by omega]
    refine ⟨fun h0 => absurd h0 h.1, fun i hi => ?_⟩
    by_cases hi1 : i = k1
    · subst hi1
      refine hk1 a w' _ ?_
      have hw1 : Fr [] w (w'.alloc Z1) := hw.alloc _
      refine hB_wp (w := w'.alloc Z1) hk2 (fun B listed a w'' h1 h2 h3 h4 => ?_) f _ _ _ (Fr.refl _ _) (hB_grow hw1 f _ _ ((h.2 i hi).2.1 rfl w'.heap.size))
      have hs : (w'.alloc Z1).heap.size = w'.heap.size + 1 := by simp
      exact hL w'.heap.size B listed a w'' (hw1.trans h1) (h1.keeps (blk_new _ _) (by simp)) h2 hw.size (by have := hw.size; omega) (by omega) h4
    by_cases hi2 : i = k2
    · subst hi2
      refine hk2 a w' _ ?_
      have hw1 : Fr [] w (w'.alloc Z2) := hw.alloc _
      refine hB_wp (w := w'.alloc Z2) hk1 (fun A listed a w'' h1 h2 h3 h4 => ?_) f _ _ _ (Fr.refl _ _) (hB_grow hw1 f _ _ ((h.2 i hi).2.2.1 rfl w'.heap.size))
      have hs : (w'.alloc Z2).heap.size = w'.heap.size + 1 := by simp
      exact hL A w'.heap.size listed a w'' (hw1.trans h1) h2 (h1.keeps (blk_new _ _) (by simp)) (by have := hw.size; omega) hw.size (by omega) h4
    · exact wpOp_of_qF hw (fun a' w'' hw' h' => ih _ a' w'' (hw.trans hw') h') ((h.2 i hi).2.2.2 hi1 hi2)

theorem hC_pull {w : World} {n i k1 k2 : Nat} {oi ok1 ok2 : Oper} {v : Value} {L : Nat → Nat → Array Bool → Act → Prop} (hi : ops[i]? = some oi) (hk1 : ops[k1]? = some ok1) (hk2 : ops[k2]? = some ok2) (hsel : ∀ (j : Nat) (o : Oper) cs b, ops[j]? = some o → o.op ≠ .select cs b)
    (hs : Region.sinkB md ops n = true) (hc : Region.chainB md ops n = true) (hn : n < ops.size) (hin : i < n) (hik1 : i ≠ k1) (hik2 : i ≠ k2) (hdone : ∀ A B listed a, L A B listed a → ∀ j ∈ Region.ready md ops listed, n ≤ j) (f : Nat) :
    ∀ (listed : Array Bool) (a : Act), HeadInv md ops n listed →
      (∀ j oj, ops[j]? = some oj → j ≠ i → listed.getD j true = false → (∀ e ∈ oj.after, Region.binds md e = true → e.on ≠ i) → oi.apart ops oj = true) →
      i ∈ Region.ready md ops listed → YieldsF P ops w oi v a → hC P md ops w n k1 k2 ok1.dst ok2.dst L f (listed.setIfInBounds i true) (a.put oi.dst v) → hC P md ops w n k1 k2 ok1.dst ok2.dst L (f + 1) listed a := by
  induction f with
  | zero => intro listed a inv _ hr hy H; exact H.elim
  | succ f ih =>
    intro listed a inv hfree hr hy H
    refine ⟨fun h => absurd (h ▸ hr) (by simp), fun j hj => ?_⟩
    have hun := (mem_ready.1 hr).1
    have hjn : j < n := Nat.lt_of_not_le fun h => tail_waits hs hc hn inv _ i rfl hin hun j h hj
    by_cases hji : j = i
    · subst hji; exact ⟨hjn, fun h => absurd h hik1, fun h => absurd h hik2, fun _ _ => ⟨_, _, hi, hy, H⟩⟩
    obtain ⟨hjun, oj, hoj, hall⟩ := mem_ready.1 hj
    have hno : ∀ e ∈ oj.after, Region.binds md e = true → e.on ≠ i := by
      intro e he hb heq
      have := hall e he hb
      rw [heq, getD_both hun] at this
      cases this
    have hap := hfree j oj hoj hji hjun hno
    have hfree' : ∀ k ok, ops[k]? = some ok → k ≠ i → (listed.setIfInBounds j true).getD k true = false → (∀ e ∈ ok.after, Region.binds md e = true → e.on ≠ i) → oi.apart ops ok = true := by
      intro k ok hk hki hku hkno
      refine hfree k ok hk hki ?_ hkno
      by_cases hjk : j = k
      · subst hjk; exact hjun
      · rwa [getD_set_ne true hjk] at hku
    refine ⟨hjn, fun hjk A => ?_, fun hjk B => ?_, fun hjk1 hjk2 => ?_⟩
    · subst hjk
      rw [hk1] at hoj; cases hoj
      refine hB_pull hi hk2 hsel hs hc hn hin hik2 (fun B => hdone A B) f _ _ (inv.set hj hjn) hfree' (ready_mono hr (Ne.symm hji)) (hy.put hap (fun cs b => hsel i oi cs b hi)) ?_
      rw [Array.setIfInBounds_comm _ _ hji, ← Act.put_comm a v _ (Oper.apart_spec hap).2.1]
      exact (H.2 j (ready_mono hj hji)).2.1 rfl A
    · subst hjk
      rw [hk2] at hoj; cases hoj
      refine hB_pull hi hk1 hsel hs hc hn hin hik1 (fun A => hdone A B) f _ _ (inv.set hj hjn) hfree' (ready_mono hr (Ne.symm hji)) (hy.put hap (fun cs b => hsel i oi cs b hi)) ?_
      rw [Array.setIfInBounds_comm _ _ hji, ← Act.put_comm a v _ (Oper.apart_spec hap).2.1]
      exact (H.2 j (ready_mono hj hji)).2.2.1 rfl B
    · have h2 := qF_put hoj hap (fun cs b => hsel i oi cs b hi) (fun cs b => hsel j oj cs b hoj) hy ((H.2 j (ready_mono hj hji)).2.2.2 hjk1 hjk2)
      refine qF_mono (fun a' h3 => ih _ a' (inv.set hj hjn) hfree' (ready_mono hr (Ne.symm hji)) h3.1 ?_) h2
      rw [Array.setIfInBounds_comm _ _ hji]
      exact h3.2

theorem hC_lex {w : World} {n k g : Nat} {ok1 ok2 : Oper} {Lq : Nat → Nat → Act → Prop} (hk1 : ops[k]? = some ok1) (hk2 : ops[k + 1]? = some ok2) (hkn : k + 2 = n) (hdd : ok1.dst ≠ ok2.dst) (hsel : Region.noSelect ops = true) (hs : Region.sinkB md ops n = true) (hc : Region.chainB md ops n = true) (hn : n < ops.size) (l : List Oper) :
    ∀ (j0 : Nat) (listed : Array Bool) (a : Act), (∀ j, j < l.length → l[j]? = ops[j0 + j]?) → j0 + l.length = k → HeadInv md ops n listed →
    Region.lexHead md ops g (l.length + 2) j0 listed = true → wpQF P ops w (fun a => ∀ A B, Lq A B ((a.put ok1.dst (ptrV A)).put ok2.dst (ptrV B))) l a →
    hC P md ops w n k (k + 1) ok1.dst ok2.dst (fun A B listed' a' => Region.seqB md ops g n listed' = true ∧ Lq A B a') (l.length + 2) listed a := by
  induction l with
  | nil =>
    intro j0 listed a _ hj inv hB h
    obtain rfl : j0 = k := by simpa using hj
    simp only [List.length_nil, Region.lexHead, Bool.and_eq_true] at hB
    obtain ⟨⟨hr, hf⟩, ⟨hr2, hf2⟩, hsq⟩ := hB
    have hr' : j0 ∈ Region.ready md ops listed := by simpa using hr
    have hr2' : j0 + 1 ∈ Region.ready md ops (listed.setIfInBounds j0 true) := by simpa using hr2
    have hsq' : Region.seqB md ops g n ((listed.setIfInBounds j0 true).setIfInBounds (j0 + 1) true) = true := by rw [← hkn]; exact hsq
    have hn1 : j0 ≠ j0 + 1 := by omega
    refine ⟨fun h => absurd (h ▸ hr') (by simp), fun i hi => ?_⟩
    have hin : i < n := Nat.lt_of_not_le fun h => tail_waits hs hc hn inv _ j0 rfl (by omega) (mem_ready.1 hr').1 i h hi
    refine ⟨hin, fun _ A => ?_, fun e2 B => ?_, fun h1 h2 => ?_⟩
    · have inv1 := inv.set hr' (by omega)
      refine ⟨fun h => absurd (h ▸ hr2') (by simp), fun i hi => ?_⟩
      have hin : i < n := Nat.lt_of_not_le fun h => tail_waits hs hc hn inv1 _ (j0 + 1) rfl (by omega) (mem_ready.1 hr2').1 i h hi
      exact ⟨hin, fun _ B => ⟨hsq', h A B⟩, fun hne => absurd (seqB_ready hsq' i (ready_mono hi hne)) (by omega)⟩
    · subst e2
      have inv1 := inv.set hi hin
      have hr1 : j0 ∈ Region.ready md ops (listed.setIfInBounds (j0 + 1) true) := ready_mono hr' (by omega)
      have hsq2 : Region.seqB md ops g n ((listed.setIfInBounds (j0 + 1) true).setIfInBounds j0 true) = true := by rw [← Array.setIfInBounds_comm _ _ hn1]; exact hsq'
      refine ⟨fun h => absurd (h ▸ hr1) (by simp), fun i hi => ?_⟩
      have hin : i < n := Nat.lt_of_not_le fun h => tail_waits hs hc hn inv1 _ j0 rfl (by omega) (mem_ready.1 hr1).1 i h hi
      refine ⟨hin, fun _ A => ⟨hsq2, ?_⟩, fun hne => absurd (seqB_ready hsq2 i (ready_mono hi hne)) (by omega)⟩
      have := h A B
      rw [Act.put_comm a _ _ (fun d h1 h2 => hdd (h1.trans h2.symm))] at this
      exact this
    · exfalso
      have := seqB_ready hsq' i (ready_mono (ready_mono hi h1) h2)
      omega
  | cons o l ih =>
    intro j0 listed a hl hj inv hB h
    have h0 : ops[j0]? = some o := by simpa using (hl 0 (by simp)).symm
    simp only [List.length_cons] at hj
    simp only [List.length_cons, Region.lexHead, Bool.and_eq_true] at hB
    obtain ⟨⟨hr, hf⟩, hB'⟩ := hB
    have hr' : j0 ∈ Region.ready md ops listed := by simpa using hr
    obtain ⟨v, hy, hK⟩ := h
    refine hC_pull h0 hk1 hk2 (Region.noSelect_spec hsel) hs hc hn (by omega) (by omega) (by omega) (fun _ _ _ _ hL => seqB_ready hL.1) (l.length + 2) listed a inv (Region.free_spec h0 hf) hr' hy ?_
    refine ih (j0 + 1) _ _ (fun j hj => ?_) (by omega) (inv.set hr' (by omega)) ?_ hK
    · have := hl (j + 1) (by simp; omega)
      simpa [Nat.add_assoc, Nat.add_comm 1 j] using this
    · simpa [Region.lexHead] using hB'

/-- The first k operations in the order of the text, in every world grown; operations k and k + 1 make blocks Z1, Z2, whose numbers are left open; then the rest, one behind the other. -/
theorem wp_region_alloc2 {id : Nat} {Q : Exit → Act → World → Prop} {a : Act} {w : World} {l : List Oper} (n k : Nat) (hm : P.follows .mixedOrders = true) (hB : Region.lexTailB .any l.toArray n = true) (hkn : k + 2 = n) (ok1 ok2 : Oper) (hk1 : l[k]? = some ok1) (hk2 : l[k + 1]? = some ok2)
    (hg1 : ok1.guard = none) (hg2 : ok2.guard = none) (hdd : ok1.dst ≠ ok2.dst) (Z1 Z2 : Obj) (hrun1 : ∀ (ρ : Operand → Value) (w : World), (execOp ρ ok1).run P w = .ok (.value (.pointer (some ⟨w.heap.size, 0, none⟩))) (w.alloc Z1)) (hrun2 : ∀ (ρ : Operand → Value) (w : World), (execOp ρ ok2).run P w = .ok (.value (.pointer (some ⟨w.heap.size, 0, none⟩))) (w.alloc Z2))
    (hd : okD (l.take k) a.tmps.size = true) (aF : Act)
    (h : ∀ w1, Fr [] w w1 → Nonempty (Ext w1) → wpQuiet P l.toArray (fun w' => ∃ x : Ext w1, w' = x.w) (fun a' => a' = aF) (l.take k) a)
    (ht : ∀ A B w', Fr [] w w' → w'.heap[A]? = some Z1 → w'.heap[B]? = some Z2 → w.heap.size ≤ A → w.heap.size ≤ B → A ≠ B → wpList P l.toArray Q (l.drop n) ((aF.put ok1.dst (ptrV A)).put ok2.dst (ptrV B)) w') : (Code.region id l.toArray true).wp P Q a w := by
  simp only [Region.lexTailB, Bool.and_eq_true, decide_eq_true_eq] at hB
  obtain ⟨⟨⟨⟨hsel, hn⟩, hs⟩, hc⟩, hlex⟩ := hB
  have hkl : k + 1 < l.length := (List.getElem?_eq_some_iff.1 hk2).1
  have htl : (l.take k).length = k := by simp; omega
  have hdl : (l.drop n).length = l.toArray.size - n := by simp
  have inv0 : HeadInv .any l.toArray n (Array.replicate l.toArray.size false) :=
    ⟨by simp, fun j oj _ hl => (by rw [getD_replicate_false] at hl; cases hl), fun t _ ht => getD_in (by simpa using ht) (getD_replicate_false _ _)⟩
  have hq := wpQF_of (l.take k) a hd fun w1 hw1 => h w1 hw1 (ext_ne w1)
  have H := hC_lex (md := .any) (g := l.toArray.size - n) (Lq := fun A B a' => a' = (aF.put ok1.dst (ptrV A)).put ok2.dst (ptrV B)) (k := k) (ok1 := ok1) (ok2 := ok2) (by simpa using hk1) (by simpa using hk2) hkn hdd hsel hs hc hn (l.take k) 0 (Array.replicate l.toArray.size false) a (fun j hj => by
    rw [htl] at hj
    simp [hj]) (by simpa using htl) inv0 (by rw [htl, hkn]; exact hlex) (by
      have mono : ∀ (l' : List Oper) (b : Act), wpQF P l.toArray w (fun a' => a' = aF) l' b → wpQF P l.toArray w (fun a => ∀ A B, (a.put ok1.dst (ptrV A)).put ok2.dst (ptrV B) = (aF.put ok1.dst (ptrV A)).put ok2.dst (ptrV B)) l' b := by
        intro l'
        induction l' with
        | nil => intro b hb A B; rw [show b = aF from hb]
        | cons o r ih => intro b hb; obtain ⟨v, h1, h2⟩ := hb; exact ⟨v, h1, ih _ h2⟩
      exact mono _ _ hq)
  refine wp_region_any hm ?_
  have step : ∀ (kk : Nat) (ok : Oper) (Z : Obj), l[kk]? = some ok → ok.guard = none → (∀ (ρ : Operand → Value) (w : World), (execOp ρ ok).run P w = .ok (.value (.pointer (some ⟨w.heap.size, 0, none⟩))) (w.alloc Z)) → ∀ (a : Act) (w' : World) (K : Act → World → Prop), K (a.put ok.dst (ptrV w'.heap.size)) (w'.alloc Z) → wpOp P l.toArray Q kk K a w' := by
    intro kk ok Z hk hg hrun a w' K hK
    unfold wpOp
    have hk' : l.toArray[kk]? = some ok := by simpa using hk
    simp only [hk']
    rw [if_pos (by simp [Region.wanted, hg])]
    left
    unfold Oper.wp
    rw [hrun]
    exact hK
  have := hC_wp (md := .any) (Q' := Q) (g := l.toArray.size - n) (Z1 := Z1) (Z2 := Z2) (by omega) (step k ok1 Z1 hk1 hg1 hrun1) (step (k + 1) ok2 Z2 hk2 hg2 hrun2) (fun A B listed a' w' hw hA hBB h1 h2 hne hL => by
      obtain ⟨hL1, rfl⟩ := hL
      have := wpAny_of_seq (md := .any) (Q' := Q) (l.drop n) n listed _ w' (fun j => by simp [List.getElem?_drop]) (by rw [hdl]; exact hL1) (ht A B w' hw hA hBB h1 h2 hne)
      rwa [hdl] at this) _ _ _ { w with drawn := w.drawn + 1 } (Fr.refl [] w).drew H
  rw [htl, hkn, show n + (l.toArray.size - n) = l.toArray.size by omega] at this
  exact this
end
end Go.Proofs.Ytajbfnihgonppaa
