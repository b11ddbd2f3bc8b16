/- Arguments that are whole numbers and bools, structs and arrays of these, and slices of these: what the reading of an argument says of its cells; and the row of a law that writes nothing that was there. Lemmas on whatever program. -/
import Derived.Test.YtobaniebnejjiaaBase
import Derived.ProofKit
import Derived.OpenShut
import Derived.ChangeOld
namespace Go.Proofs.Ytobaniebnejjiaa
set_option linter.all false
open Go.ChangeShapes Go.WideShapes Go.ChangeAt Go.RowKit

inductive Sc where
  | num (k : IntKind)
  | tick

def Sc.fit : Sc → Value → Prop
  | .num k, v => ∃ n : Int, v = .int k n ∧ (Lit.int k n).wf = true
  | .tick, v => ∃ b : Bool, v = .bool b

def fits : List Sc → List Value → Prop
  | [], [] => True
  | k :: ks, c :: cs => k.fit c ∧ fits ks cs
  | _, _ => False

theorem fits_append : ∀ {a b : List Sc} {x y : List Value}, fits a x → fits b y → fits (a ++ b) (x ++ y)
  | [], _, [], _, _, h => h
  | _ :: _, _, _ :: _, _, h, h' => ⟨h.1, fits_append h.2 h'⟩
  | [], _, _ :: _, _, h, _ => h.elim
  | _ :: _, _, [], _, h, _ => h.elim

theorem fits_length : ∀ {a : List Sc} {x : List Value}, fits a x → x.length = a.length
  | [], [], _ => rfl
  | _ :: _, _ :: _, h => by simp [fits_length h.2]
  | [], _ :: _, h => h.elim
  | _ :: _, [], h => h.elim

mutual
/-- the scalars of a type, in their order; none: not of this kind -/
def flat (P : Program) : Nat → TypeId → Option (List Sc)
  | 0, _ => none
  | n + 1, t => match P.underlying t with
    | some .bool => some [.tick]
    | some (.int k) => some [.num k]
    | some (.struct fs) => match flatFields P n fs.toList 0 with
      | some ks => if ks.length = P.cellsOf t then some ks else none
      | none => none
    | some (.array len e) => match flat P n e with
      | some ks => if ks.length = P.cellsOf e ∧ len * ks.length = P.cellsOf t then some (List.replicate len ks).flatten else none
      | none => none
    | _ => none
def flatFields (P : Program) : Nat → List Field → Nat → Option (List Sc)
  | _, [], _ => some []
  | 0, _ :: _, _ => none
  | n + 1, f :: r, off => match flat P n f.type with
    | some ks => if f.offset = off ∧ ks.length = P.cellsOf f.type then (flatFields P n r (off + ks.length)).map (ks ++ ·) else none
    | none => none
end

section
variable {H : Type} {enc : TypeId × Value → H} {P : Program} {w : World} {base : Nat} {spare : Nat → Bool} {held : Bool}

theorem seg_append (cs : List Value) (off a b : Nat) : (cs.drop off).take (a + b) = (cs.drop off).take a ++ (cs.drop (off + a)).take b := by
  rw [List.take_add, List.drop_drop]

theorem fits_rep (ks : List Sc) (c : Nat) (hc : ks.length = c) (cs : List Value) : ∀ (len off : Nat), (∀ i, i < len → fits ks ((cs.drop (off + i * c)).take c)) → fits (List.replicate len ks).flatten ((cs.drop off).take (len * c))
  | 0, off, _ => by simp [fits]
  | len + 1, off, h => by
    rw [show (len + 1) * c = c + len * c by rw [Nat.succ_mul]; omega, seg_append, List.replicate_succ, List.flatten_cons]
    refine fits_append (by simpa using h 0 (by omega)) (fits_rep ks c hc cs len (off + c) fun i hi => ?_)
    have := h (i + 1) (by omega)
    rwa [show off + (i + 1) * c = off + c + i * c by rw [Nat.succ_mul]; omega] at this

mutual
theorem flat_fits : ∀ (n : Nat) (t : TypeId) (ks : List Sc) (cs : List Value) (m : Nat) (x : DataW H × List MemPlace), flat P n t = some ks → DataW.trod enc P w base spare held m t cs = some x → fits ks cs
  | 0, t, ks, cs, m, x, h, _ => by simp [flat] at h
  | n + 1, t, ks, cs, m, x, h, hx => by
    unfold flat at h
    split at h
    · rename_i ht
      cases h
      obtain ⟨b, rfl, _⟩ := DataW.trod_bool ht hx
      exact ⟨⟨b, rfl⟩, trivial⟩
    · rename_i k ht
      cases h
      obtain ⟨a, rfl, _, hw⟩ := DataW.trod_int ht hx
      exact ⟨⟨a, rfl, hw⟩, trivial⟩
    · rename_i fs ht
      split at h
      · rename_i ks' hk
        split at h
        · rename_i hl
          cases h
          obtain ⟨xs, m', _, _, hlen, hxs, hf⟩ := DataW.trod_struct ht hx
          have := flatFields_fits n fs.toList 0 _ cs hk (fun i f hi => by
            have hi' : fs[i]? = some f := by simpa using hi
            have hlt : i < fs.size := (Array.getElem?_eq_some_iff.1 hi').1
            have := hf i f hi'
            rw [List.getElem?_eq_getElem (by omega)] at this
            exact ⟨m', _, this⟩)
          rw [List.drop_zero, List.take_of_length_le (by omega)] at this
          exact this
        · cases h
      · cases h
    · rename_i len e ht
      split at h
      · rename_i ks' hk
        split at h
        · rename_i hl
          cases h
          obtain ⟨xs, m', _, _, hlen, hxs, hf⟩ := DataW.trod_array ht hx
          have := fits_rep _ (P.cellsOf e) hl.1 cs len 0 (fun i hi => by
            have := hf i hi
            rw [List.getElem?_eq_getElem (by omega)] at this
            rw [Nat.zero_add]
            exact flat_fits n e _ _ m' _ hk this)
          rw [List.drop_zero, List.take_of_length_le (by rw [hlen, ← hl.2, hl.1]; omega)] at this
          exact this
        · cases h
      · cases h
    · cases h
theorem flatFields_fits : ∀ (n : Nat) (l : List Field) (off : Nat) (ks : List Sc) (cs : List Value), flatFields P n l off = some ks →
    (∀ (i : Nat) (f : Field), l[i]? = some f → ∃ (m : Nat) (x : DataW H × List MemPlace), DataW.trod enc P w base spare held m f.type ((cs.drop f.offset).take (P.cellsOf f.type)) = some x) → fits ks ((cs.drop off).take ks.length)
  | _, [], off, ks, cs, h, _ => by
    unfold flatFields at h
    cases h
    simp [fits]
  | 0, f :: r, off, ks, cs, h, _ => by simp [flatFields] at h
  | n + 1, f :: r, off, ks, cs, h, hf => by
    unfold flatFields at h
    split at h
    · rename_i k0 hk
      split at h
      · rename_i hc
        obtain ⟨ks', hk', rfl⟩ := Option.map_eq_some_iff.1 h
        obtain ⟨m, x, hx⟩ := hf 0 f rfl
        have h1 := flat_fits n f.type k0 _ m x hk hx
        rw [← hc.2, hc.1] at h1
        have h2 := flatFields_fits n r (off + k0.length) ks' cs hk' (fun i g hi => hf (i + 1) g (by simpa using hi))
        rw [List.length_append, seg_append]
        exact fits_append h1 h2
      · cases h
    · cases h
end

/-- A value argument of such a type. -/
theorem open_flat {t : TypeId} {v : Value} {d : DataW H} {ps : List MemPlace} (n : Nat) {ks : List Sc} (hk : flat P n t = some ks) (h : DataW.Trod enc P w base spare held t v d ps) : fits ks v.cells.toList := by
  obtain ⟨m, hm⟩ := h
  exact flat_fits n t ks _ m _ hk hm

/-- A slice whose elements are of such a type: its cells. -/
def SliceIn (w : World) (ks : List Sc) (A : Option Addr) (len : Nat) (cell : Nat → Nat → Value) : Prop :=
  len = 0 ∨ ∃ b off, A = some ⟨b, off, none⟩ ∧ b < w.heap.size ∧ len ≤ maxLen ∧
    ∀ i, i < len → fits ks ((List.range ks.length).map (cell i)) ∧ ∀ j, j < ks.length → w.cell? ⟨b, off + (i * ks.length + j), none⟩ = some (cell i j)

theorem open_flat_slice {t e : TypeId} {A : Option Addr} {len cap : Nat} {d : DataW H} {ps : List MemPlace} (ht : P.underlying t = some (.slice e)) (n : Nat) {ks : List Sc} (hk : flat P n e = some ks) (hc : P.cellsOf e = ks.length) (hpos : 0 < ks.length)
    (h : DataW.Trod enc P w 0 (fun _ => true) true t (.slice A len cap) d ps) : ∃ cell : Nat → Nat → Value, SliceIn w ks A len cell := by
  obtain ⟨m, hm⟩ := h
  rcases Nat.eq_zero_or_pos len with h0 | hlen
  · exact ⟨fun _ _ => default, .inl h0⟩
  rcases DataW.trod_slice ht hm with ⟨h0, _⟩ | ⟨a, len', cap', elems, rest, m', _, hcs, _, hb, hl, hmax, hel, hi, _, _⟩
  · simp [Value.cells] at h0
    omega
  · simp only [Value.cells] at hcs
    have hcs' : Value.slice A len cap = .slice (some a) len' cap' := by simpa using hcs
    injection hcs' with hA hL hC
    subst hA; subst hL; subst hC
    have key : ∀ i, i < len → ∃ cs', w.cells? 0 (a.add (i * ks.length)) ks.length = some cs' ∧ fits ks cs' := fun i hi' => by
      have := hi i hi'
      rw [List.getElem?_eq_getElem (by omega), hc] at this
      obtain ⟨cs', h1, h2⟩ := Option.bind_eq_some_iff.1 this
      exact ⟨cs', h1, flat_fits n e ks cs' m' _ hk h2⟩
    have hat : ∀ i (hi' : i < len), ∀ j, j < ks.length → w.cell? (a.add (i * ks.length + j)) = some ((Classical.choose (key i hi')).getD j default) := fun i hi' j hj => by
      obtain ⟨h1, h2⟩ := Classical.choose_spec (key i hi')
      obtain ⟨_, hlen', hcell⟩ := World.cells?_some h1
      have h3 := hcell j hj
      have : (a.add (i * ks.length)).add j = a.add (i * ks.length + j) := by
        unfold Addr.add
        by_cases h0 : i * ks.length = 0 <;> by_cases hj0 : j = 0 <;> simp [h0, hj0, Nat.add_assoc]
      rw [this] at h3
      rw [h3, List.getD_eq_getElem?_getD, List.getElem?_eq_getElem (by omega)]
      rfl
    obtain ⟨b, off, spot⟩ := a
    have hs : spot = none := by
      have := World.cell?_spot (hat 0 hlen 0 hpos)
      simpa [Addr.add] using this
    subst hs
    have hat' : ∀ i (hi' : i < len), ∀ j, j < ks.length → w.cell? ⟨b, off + (i * ks.length + j), none⟩ = some ((Classical.choose (key i hi')).getD j default) := fun i hi' j hj => by
      have hadd : ∀ n : Nat, (⟨b, off, none⟩ : Addr).add n = ⟨b, off + n, none⟩ := fun n => by
        unfold Addr.add
        by_cases h0 : n = 0 <;> simp [h0]
      rw [← hadd]
      exact hat i hi' j hj
    refine ⟨fun i j => if hi' : i < len then (Classical.choose (key i hi')).getD j default else default, .inr ⟨b, off, rfl, ?_, Nat.le_trans hl hmax, fun i hi' => ⟨?_, fun j hj => by rw [hat' i hi' j hj]; simp [hi']⟩⟩⟩
    · have := hat' 0 hlen 0 hpos
      unfold World.cell? at this
      split at this
      · rename_i hb'; exact lt_of_block hb'
      · cases this
    · obtain ⟨h1, h2⟩ := Classical.choose_spec (key i hi')
      have hl' := fits_length h2
      have : (List.range ks.length).map (fun j => if hi' : i < len then (Classical.choose (key i hi')).getD j default else default) = Classical.choose (key i hi') := by
        apply List.ext_getElem
        · simp [hl']
        · intro j h3 h4
          simp [hi', List.getD_eq_getElem?_getD, List.getElem?_eq_getElem h4]
      rw [this]
      exact h2
end
/-- an array that came in is an aggregate of as many cells as its type has -/
theorem _root_.Go.WideShapes.okWide_array {P : Program} {w : World} {r : Reach} {base : Nat} {t : TypeId} {v : Value} {n : Nat} {el : TypeId} (ht : P.underlying t = some (.array n el)) (h : Value.okWide P w r base t v) : ∃ cs, v = .agg cs ∧ cs.size = P.cellsOf t := by
  simp only [Value.okWide, ht] at h
  obtain ⟨cs, h1, h2, _⟩ := h
  exact ⟨cs, h1, h2⟩
end Go.Proofs.Ytobaniebnejjiaa
