/- Frames of worlds, blocks of cells, and maps whose keys are integers: lemmas on whatever program; nothing of this seat's program stands in here. -/
import Derived.Test.YtobaniebnejjiaaRows
import Derived.WalkKit
import Derived.WalkSpells
import Derived.WalkLawsBesides
import Derived.MapKept
import Derived.Deep.QuietTactic
import Derived.BigQuiet
import Derived.RegionTactic
namespace Go.Proofs.Ytobaniebnejjiaa
set_option linter.all false
open Go.RowKit

theorem hid {p : Prop} (h : p) : Hid p := h

/-- Every block of w but those of S is in w' as it was; blocks may have come. -/
structure Fr (S : List Nat) (w w' : World) : Prop where
  os : w'.os = w.os
  tape : w'.tape = w.tape
  output : w'.output = w.output
  size : w.heap.size ≤ w'.heap.size
  block : ∀ k, k < w.heap.size → k ∉ S → w'.heap[k]? = w.heap[k]?

theorem Fr.refl (S : List Nat) (w : World) : Fr S w w := ⟨rfl, rfl, rfl, Nat.le_refl _, fun _ _ _ => rfl⟩

theorem Fr.trans {S : List Nat} {a b c : World} (h : Fr S a b) (k : Fr S b c) : Fr S a c :=
  ⟨k.os.trans h.os, k.tape.trans h.tape, k.output.trans h.output, Nat.le_trans h.size k.size, fun i hi hs => (k.block i (Nat.lt_of_lt_of_le hi h.size) hs).trans (h.block i hi hs)⟩

theorem Fr.weaken {S T : List Nat} {a b : World} (h : Fr S a b) (hST : ∀ k, k ∈ S → k ∈ T) : Fr T a b :=
  ⟨h.os, h.tape, h.output, h.size, fun i hi hs => h.block i hi (fun hm => hs (hST i hm))⟩

theorem Fr.drew {S : List Nat} {a w : World} (h : Fr S a w) : Fr S a w.drew := ⟨h.os, h.tape, h.output, h.size, h.block⟩

theorem Fr.drewN {S : List Nat} {a w : World} (h : Fr S a w) (n : Nat) : Fr S a (w.drewN n) := h.trans ⟨rfl, rfl, rfl, Nat.le_refl _, fun _ _ _ => rfl⟩

theorem Fr.alloc {S : List Nat} {a w : World} (h : Fr S a w) (o : Obj) : Fr S a (w.alloc o) :=
  h.trans ⟨rfl, rfl, rfl, by simp, fun k hk _ => Below.heap_alloc _ _ _ hk⟩

theorem Fr.setCell {S : List Nat} {a w : World} (h : Fr S a w) {p : Addr} (hp : p.block ∈ S ∨ a.heap.size ≤ p.block) (u : Value) : Fr S a (w.setCell p u) :=
  ⟨h.os, h.tape, h.output, by simpa using h.size, fun k hk hs => by
    rw [Below.heap_setCell _ _ _ _ (by rintro rfl; rcases hp with hp | hp; exact hs hp; omega)]; exact h.block k hk hs⟩

theorem Fr.fresh {S : List Nat} {a b : World} (h : Fr S a b) (hS : ∀ k, k ∈ S → a.heap.size ≤ k) : Fr [] a b :=
  ⟨h.os, h.tape, h.output, h.size, fun i hi _ => h.block i hi (fun hm => by have := hS i hm; omega)⟩

theorem Fr.step {S T : List Nat} {a b c : World} (h : Fr T a b) (k : Fr S b c) (hS : ∀ j, j ∈ S → j ∈ T ∨ a.heap.size ≤ j) : Fr T a c :=
  ⟨k.os.trans h.os, k.tape.trans h.tape, k.output.trans h.output, Nat.le_trans h.size k.size, fun i hi hs => by
    rw [k.block i (Nat.lt_of_lt_of_le hi h.size) (fun hm => by rcases hS i hm with h1 | h1; exact hs h1; omega)]; exact h.block i hi hs⟩

theorem Fr.below {S : List Nat} {B : Nat} {w w' : World} (h : Fr S w w') (hB : B ≤ w.heap.size) (hS : ∀ k, k ∈ S → B ≤ k) : Below B w w' :=
  ⟨h.os, h.tape, h.output, h.size, fun k hk => h.block k (by omega) (fun hm => by have := hS k hm; omega)⟩

theorem Fr.keeps {S : List Nat} {w w' : World} (h : Fr S w w') {b : Nat} {o : Obj} (hb : w.heap[b]? = some o) (hs : b ∉ S) : w'.heap[b]? = some o := by
  have hlt : b < w.heap.size := lt_of_block hb
  rw [h.block b hlt hs]; exact hb

theorem Below.keeps {B : Nat} {w w' : World} (h : Below B w w') {b : Nat} {o : Obj} (hb : w.heap[b]? = some o) (hs : b < B) : w'.heap[b]? = some o := by
  rw [h.block b hs]; exact hb

/-! ### blocks of cells -/
theorem lt_block {w : World} {b : Nat} {o : Obj} (h : w.heap[b]? = some o) : b < w.heap.size := lt_of_block h

theorem blk_cell {w : World} {b : Nat} {cs : Array Value} {t : TypeId} {f : Nat × Nat} (h : w.heap[b]? = some (.cells cs t f)) (i : Nat) : w.cell? ⟨b, i, none⟩ = cs[i]? := by simp [World.cell?, h]
theorem blk_free {w : World} {b : Nat} {cs : Array Value} {t : TypeId} (h : w.heap[b]? = some (.cells cs t (0, 0))) (i : Nat) : w.frozen? ⟨b, i, none⟩ = false := by simp [World.frozen?, h]

theorem blk_set {w : World} {b : Nat} {cs : Array Value} {t : TypeId} {f : Nat × Nat} (h : w.heap[b]? = some (.cells cs t f)) (i : Nat) (u : Value) : (w.setCell ⟨b, i, none⟩ u).heap[b]? = some (.cells (cs.setIfInBounds i u) t f) := by
  have hlt := lt_of_block h
  have h' : w.heap[b] = .cells cs t f := by simpa [Array.getElem?_eq_getElem hlt] using h
  show (w.heap.modify b _)[b]? = _
  rw [Array.getElem?_eq_getElem (by simpa using hlt), Array.getElem_modify_self, h']
  rfl

theorem blk_set_other {w : World} {b : Nat} {a : Addr} (u : Value) (hne : b ≠ a.block) : (w.setCell a u).heap[b]? = w.heap[b]? := Below.heap_setCell _ _ _ _ hne

theorem blk_alloc {w : World} {b : Nat} {o : Obj} (h : w.heap[b]? = some o) (o' : Obj) : (w.alloc o').heap[b]? = some o := by
  rw [Below.heap_alloc _ _ _ (lt_of_block h)]; exact h

theorem blk_new (w : World) (o : Obj) : (w.alloc o).heap[w.heap.size]? = some o := (MapKept.heap_alloc w o).1

/-- the newest block, its number spelt otherwise -/
theorem blk_new' {w : World} {n : Nat} (h : n = w.heap.size) (o : Obj) : (w.alloc o).heap[n]? = some o := by rw [h]; exact blk_new w o

/-! ### maps with integer keys: the block of a map's literal -/
def entsFrom (q : IntKind) : Nat → List (Int × Value) → List MapEntry
  | _, [] => []
  | n, (k, v) :: r => { key := .int q k, val := v, born := n } :: entsFrom q (n + 1) r

theorem entsFrom_snoc (q : IntKind) (k : Int) (v : Value) : ∀ (l : List (Int × Value)) (n : Nat), entsFrom q n (l ++ [(k, v)]) = entsFrom q n l ++ [{ key := .int q k, val := v, born := n + l.length }]
  | [], n => rfl
  | (k0, v0) :: r, n => by simp [entsFrom, entsFrom_snoc q k v r (n + 1)]; omega

def litMap (q : IntKind) (l : List (Int × Value)) : Obj := .map (entsFrom q 0 l).toArray l.length

def lookIn (x : Int) : List (Int × Value) → Option Value
  | [] => none
  | (k, v) :: r => if x = k then some v else lookIn x r

@[go_sem] theorem lookIn_nil (x : Int) : lookIn x [] = none := rfl
@[go_sem] theorem lookIn_cons (x k : Int) (v : Value) (r : List (Int × Value)) : lookIn x ((k, v) :: r) = if x = k then some v else lookIn x r := rfl

theorem findNow_ents (q : IntKind) (x : Int) : ∀ (l : List (Int × Value)) (n i : Nat), Instr.findNow (.int q) (.int q x) (entsFrom q n l) i = some (match lookIn x l with | none => none | some v => some (i + (l.findIdx (fun p => decide (x = p.1))), v))
  | [], n, i => rfl
  | (k0, v0) :: r, n, i => by
    simp only [entsFrom, Instr.findNow, Instr.sameNow, if_true, lookIn]
    by_cases h : x = k0
    · subst h; simp [List.findIdx_cons]
    · have h' : (x == k0) = false := by simpa using h
      simp only [h', if_neg h]
      rw [findNow_ents q x r (n + 1) (i + 1)]
      cases lookIn x r <;> simp [List.findIdx_cons, h]; omega

theorem run_findKey_ents {P : Program} {k : TypeId} {q : IntKind} (hk : P.underlying k = some (.int q)) (w : World) (x : Int) (l : List (Int × Value)) :
    (Instr.findKey k (.int q x) (entsFrom q 0 l)).run P w = .ok (match lookIn x l with | none => none | some v => some (l.findIdx (fun p => decide (x = p.1)), v)) w := by
  unfold Instr.findKey
  simp only [Sem.run_bind, run_underlying hk, Result.andThen, findNow_ents]
  cases lookIn x l <;> simp

theorem run_checkKey_int {P : Program} {k : TypeId} {q : IntKind} (hk : P.underlying k = some (.int q)) (w : World) (x : Int) (e : Bool) (n : Nat) : (Instr.checkKey e (n + 1) k (.int q x)).run P w = .ok () w := by
  unfold Instr.checkKey
  simp [run_underlying hk, Result.andThen]

theorem run_lookup_lit {P : Program} {t k e : TypeId} {q : IntKind} (ht : P.underlying t = some (.map k e)) (hk : P.underlying k = some (.int q)) {z : Value} (hz : ∀ w, (zeroValue e).run P w = .ok z w)
    {w : World} {b : Nat} {l : List (Int × Value)} (hb : w.heap[b]? = some (litMap q l)) (x : Int) (c : Bool) :
    (Instr.lookup t (.map (some b)) (.int q x) c).run P w = .ok (if c then .tuple #[(lookIn x l).getD z, .bool (lookIn x l).isSome] else (lookIn x l).getD z) w := by
  unfold litMap at hb
  simp only [Instr.lookup, Sem.run_bind, run_underlying ht, Result.andThen, MapKept.run_getObj_map hb, Sem.run_pure, run_checkKey_int hk, run_findKey_ents hk]
  cases lookIn x l <;> cases c <;> simp [hz, Result.andThen]

theorem run_lookup_nil {P : Program} {t k e : TypeId} {q : IntKind} (ht : P.underlying t = some (.map k e)) (hk : P.underlying k = some (.int q)) {z : Value} (hz : ∀ w, (zeroValue e).run P w = .ok z w)
    (w : World) (x : Int) (c : Bool) :
    (Instr.lookup t (.map none) (.int q x) c).run P w = .ok (if c then .tuple #[z, .bool false] else z) w := by
  have hf := run_findKey_ents hk w x []
  simp only [entsFrom, lookIn] at hf
  simp only [Instr.lookup, Sem.run_bind, run_underlying ht, Result.andThen, Sem.run_pure, run_checkKey_int hk, hf]
  cases c <;> simp [hz]

theorem setBlock_alloc (w : World) (o o' : Obj) : { w.alloc o with heap := (w.alloc o).heap.setIfInBounds w.heap.size o' } = w.alloc o' := by
  have h : (w.heap.push o).setIfInBounds w.heap.size o' = w.heap.push o' := by
    apply Array.toList_inj.1
    simp
  unfold World.alloc
  simp only [h]

/-- A literal's entry, into the map that has just been made: its key is new. -/
theorem run_insert_lit {P : Program} {t k e : TypeId} {q : IntKind} (ht : P.underlying t = some (.map k e)) (hk : P.underlying k = some (.int q))
    (w : World) (l : List (Int × Value)) (x : Int) (v : Value) (hno : lookIn x l = none) :
    (Instr.mapUpdate t (.map (some w.heap.size)) (.int q x) v).run P (w.alloc (litMap q l)) = .ok () (w.alloc (litMap q (l ++ [(x, v)]))) := by
  have hb : (w.alloc (litMap q l)).heap[w.heap.size]? = some (.map (entsFrom q 0 l).toArray l.length) := blk_new w _
  simp only [Instr.mapUpdate, Sem.run_bind, run_underlying ht, Result.andThen, MapKept.run_getObj_map hb, run_checkKey_int hk, run_findKey_ents hk, hno, MapKept.run_setObj_map _ hb]
  rw [setBlock_alloc]
  simp [litMap, entsFrom_snoc]

theorem run_insert_lit0 {P : Program} {t k e : TypeId} {q : IntKind} (ht : P.underlying t = some (.map k e)) (hk : P.underlying k = some (.int q))
    (w : World) (x : Int) (v : Value) :
    (Instr.mapUpdate t (.map (some w.heap.size)) (.int q x) v).run P (w.alloc (litMap q [])) = .ok () (w.alloc (litMap q [(x, v)])) := run_insert_lit ht hk w [] x v rfl

theorem run_makeMap_lit {P : Program} (q : IntKind) (t : TypeId) (w : World) : (Instr.makeMap t none).run P w = .ok (.map (some w.heap.size)) (w.alloc (litMap q [])) := rfl

end Go.Proofs.Ytobaniebnejjiaa
