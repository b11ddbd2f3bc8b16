/- A slice argument's acts. -/
import Derived.Test.YtobaniebnejjiaaI
import Derived.Test.YtobaniebnejjiaaFlat
namespace Go.Proofs.Ytobaniebnejjiaa.U
open Go.RowKit
set_option linter.all false
abbrev A4 := Int × Int × Int × Int
def CA (x : A4) : Array Value := #[.int .u8 x.1, .int .u64 x.2.1, .int .u64 x.2.2.1, .int .i64 x.2.2.2]
def WA (x : A4) : Prop := (0 ≤ x.1 ∧ x.1 < 256) ∧ (0 ≤ x.2.1 ∧ x.2.1 < 18446744073709551616) ∧ (0 ≤ x.2.2.1 ∧ x.2.2.1 < 18446744073709551616)
theorem sizeA (x : A4) : (Try.prog.info? 28).map (·.size) = some (CA x).size := by kernel_rfl
/-- a slice's acts -/
def Acts (w : World) (A : Option Addr) (base : Nat) (L : List A4) : Prop := ∀ q, q < L.length → ∃ b off, A = some ⟨b, off, none⟩ ∧ b < base ∧ b < w.heap.size ∧ WA (L.getD q default) ∧ w.rangeAt b (off + q * 4) (CA (L.getD q default)).toList
theorem range_keep {S : List Nat} {w w' : World} {b o : Nat} {l : List Value} (h : Fr S w w') (hb : b < w.heap.size) (hS : b ∉ S) (hr : w.rangeAt b o l) : w'.rangeAt b o l := fun j v hj => by
  have := hr j v hj
  rw [World.cell?_of_block (w := w) (a := ⟨b, o + j, none⟩) (h.block b hb hS)]
  exact this
theorem Acts.keep {w w' : World} {A : Option Addr} {base : Nat} {L : List A4} (h : Acts w A base L) (hf : Fr [] w w') : Acts w' A base L := fun q hq => by
  obtain ⟨b, off, h1, h2, h3, h4, h5⟩ := h q hq
  exact ⟨b, off, h1, h2, Nat.lt_of_lt_of_le h3 hf.size, h4, range_keep hf h3 (by simp) h5⟩
def tupA (f : Nat → Value) : A4 := (intOf (f 0), intOf (f 1), intOf (f 2), intOf (f 3))
theorem wf_bd (k : IntKind) {a : Int} (h : (Lit.int k a).wf = true) : k.min ≤ a ∧ a ≤ k.max := by simp [Lit.wf] at h; exact h
theorem tupA_of {f : Nat → Value} (h : fits [.num .u8, .num .u64, .num .u64, .num .i64] ((List.range 4).map f)) : (∀ j v, (CA (tupA f))[j]? = some v → f j = v) ∧ WA (tupA f) := by
  rw [show List.range 4 = [0, 1, 2, 3] from rfl] at h
  obtain ⟨⟨a, ha, wa⟩, ⟨b, hb, wb⟩, ⟨c, hc, wc⟩, ⟨d, hd, wd⟩, _⟩ := h
  have m8 : IntKind.u8.min = 0 ∧ IntKind.u8.max = 255 := ⟨rfl, rfl⟩
  have m64 : IntKind.u64.min = 0 ∧ IntKind.u64.max = 18446744073709551615 := ⟨rfl, rfl⟩
  replace wa := wf_bd _ wa
  replace wb := wf_bd _ wb
  replace wc := wf_bd _ wc
  unfold tupA CA WA
  rw [ha, hb, hc, hd]
  simp only [intOf]
  refine ⟨fun j v hj => ?_, by omega⟩
  match j, hj with
  | 0, hj => rw [ha]; simpa using hj
  | 1, hj => rw [hb]; simpa using hj
  | 2, hj => rw [hc]; simpa using hj
  | 3, hj => rw [hd]; simpa using hj
  | j + 4, hj => simp at hj
theorem acts_of {w : World} {A : Option Addr} {len : Nat} {c : Nat → Nat → Value} (h : SliceIn w [.num .u8, .num .u64, .num .u64, .num .i64] A len c) : ∃ L : List A4, L.length = len ∧ Acts w A w.heap.size L := by
  rcases h with h0 | ⟨b, off, hA, hb, _, hcells⟩
  · exact ⟨[], by simp [h0], fun q hq => by simp at hq⟩
  refine ⟨(List.range len).map fun i => tupA (c i), by simp, ?_⟩
  intro q hq
  have hq' : q < len := by simpa using hq
  obtain ⟨hf, hc⟩ := hcells q hq'
  obtain ⟨h1, h2⟩ := tupA_of hf
  have hg : ((List.range len).map fun i => tupA (c i)).getD q default = tupA (c q) := by rw [List.getD_eq_getElem?_getD]; simp [hq']
  rw [hg]
  refine ⟨b, off, hA, hb, hb, h2, ?_⟩
  intro j v hj
  have hj' : (CA (tupA (c q)))[j]? = some v := by simpa using hj
  have hlt : j < 4 := (Array.getElem?_eq_some_iff.1 hj').1
  have := hc j hlt
  rw [h1 j v hj'] at this
  rw [← this]
  simp only [List.length_cons, List.length_nil, Nat.add_assoc]
/-- one line alone -/
def Alone (w0 w : World) (g : Nat) (u : St) : Prop := Lines w0 w [] 1 (fun _ => g) (fun _ => u)
theorem Alone.fr {w0 w : World} {g : Nat} {u : St} (h : Alone w0 w g u) : Fr [] w0 w := Lines.fr h
theorem Alone.grow {w0 w w' : World} {g : Nat} {u : St} (h : Alone w0 w g u) (hf : Fr [] w w') : Alone w0 w' g u := Lines.grow h hf
theorem alone_of {w0 w w' : World} {g : Nat} {u u' : St} {f : FuncId} {args : Array Value} {r : Ending} (h : Calls Try.prog f args w fun e w' => e = r ∧ LP w0 w w' [] 1 (fun _ => g) (updS (fun _ => u) 0 u')) : Calls Try.prog f args w fun e w' => e = r ∧ Alone w0 w' g u' :=
  h.mono fun e w' ⟨a, b, _⟩ => ⟨a, lines_congr b fun i hi => by
    obtain rfl : i = 0 := by omega
    exact ⟨rfl, rfl⟩⟩
theorem al_new (w0 w : World) (h : Fr [] w0 w) : Calls Try.prog 9 #[] w fun e w' => e = .returned (.pointer (some ⟨w.heap.size, 0, none⟩)) ∧ Alone w0 w' w.heap.size St.new :=
  (ls_new (lines_none w0 w h)).mono fun e w' ⟨a, b, _⟩ => ⟨a, lines_congr b fun i hi => by
    obtain rfl : i = 0 := by omega
    exact ⟨rfl, rfl⟩⟩
theorem al_Read {w0 w : World} {g : Nat} {u : St} (h : Alone w0 w g u) (hu : u.OK) (width : Int) {off : Int} (h0 : 0 ≤ off) (h1 : off < 18446744073709551616) : Calls Try.prog 11 #[.pointer (some ⟨g, 0, none⟩), .int .u64 off, .int .i64 width] w fun e w' => e = .returned (.tuple #[.int .u64 (u.Read off width).1, .bool (u.Read off width).2.1]) ∧ Alone w0 w' g (u.Read off width).2.2 := alone_of (w' := w) (ls_Read h (i := 0) (gi := g) (by decide) rfl hu width h0 h1)
theorem al_Write {w0 w : World} {g : Nat} {u : St} (h : Alone w0 w g u) (hu : u.OK) (width : Int) {v : Int} {off : Int} (h0 : 0 ≤ off) (h1 : off < 18446744073709551616) (v0 : 0 ≤ v) (v1 : v < 18446744073709551616) (hsl : u.sent.length ≤ 1000000) : Calls Try.prog 12 #[.pointer (some ⟨g, 0, none⟩), .int .u64 off, .int .i64 width, .int .u64 v] w fun e w' => e = .returned (.bool (u.Write off width v).1) ∧ Alone w0 w' g (u.Write off width v).2 := alone_of (w' := w) (ls_Write h (i := 0) (gi := g) (by decide) rfl hu width h0 h1 v0 v1 hsl)
theorem al_Input {w0 w : World} {g : Nat} {u : St} (h : Alone w0 w g u) (hu : u.OK) {b : Int} (hb0 : Byte b) : Calls Try.prog 13 #[.pointer (some ⟨g, 0, none⟩), .int .u8 b] w fun e w' => e = .returned (.bool (u.Input b).1) ∧ Alone w0 w' g (u.Input b).2 := alone_of (w' := w) (ls_Input h (i := 0) (gi := g) (by decide) rfl hu hb0)
theorem al_Take {w0 w : World} {g : Nat} {u : St} (h : Alone w0 w g u) (hu : u.OK)  : Calls Try.prog 14 #[.pointer (some ⟨g, 0, none⟩)] w fun e w' => e = .returned (.string (strOfNums u.Take.1)) ∧ Alone w0 w' g u.Take.2 := alone_of (w' := w) (ls_Take h (i := 0) (gi := g) (by decide) rfl hu )
theorem al_Dump {w0 w : World} {g : Nat} {u : St} (h : Alone w0 w g u) (hu : u.OK)  : Calls Try.prog 17 #[.pointer (some ⟨g, 0, none⟩)] w fun e w' => e = .returned (.string (strOfNums u.Dump)) ∧ Alone w0 w' g u := alone_of (w' := w) (ls_Dump h (i := 0) (gi := g) (by decide) rfl hu )
theorem al_does {w0 w : World} {g : Nat} {u : St} (h : Alone w0 w g u) (hu : u.OK) {what off v width : Int} (k0 : 0 ≤ what) (k1 : what < 256) (h0 : 0 ≤ off) (h1 : off < 18446744073709551616) (v0 : 0 ≤ v) (v1 : v < 18446744073709551616) (hsl : u.sent.length ≤ 1000000) : Calls Try.prog 16 #[.pointer (some ⟨g, 0, none⟩), .agg #[.int .u8 what, .int .u64 off, .int .u64 v, .int .i64 width]] w fun e w' => e = .returned (.tuple #[]) ∧ Alone w0 w' g (u.act what off v width) := alone_of (w' := w) (ls_does h (i := 0) (gi := g) (by decide) rfl hu k0 k1 h0 h1 v0 v1 hsl)
theorem al_Level {w0 w : World} {g : Nat} {u : St} (h : Alone w0 w g u) (hu : u.OK) : Calls Try.prog 18 #[.pointer (some ⟨g, 0, none⟩)] w fun e w' => e = .returned (.bool u.Level) ∧ w = w' := by
  obtain ⟨T, h1, -⟩ := h
  exact line_Level (T 0) g hu w (h1 0 (by decide)).1
theorem al_Waiting {w0 w : World} {g : Nat} {u : St} (h : Alone w0 w g u) : Calls Try.prog 10 #[.pointer (some ⟨g, 0, none⟩)] w fun e w' => e = .returned (.int .i64 (u.q.length : Int)) ∧ w = w' := by
  obtain ⟨T, h1, -⟩ := h
  exact line_Waiting (T 0) g w (h1 0 (by decide)).1
theorem bys_at (l : List Int) (i : Nat) (x : Int) (hx : Byte x) (h : l[i]? = some x) : ∃ hi : i < (strOfNums l).size, (((strOfNums l)[i]'hi).toNat : Int) = x := by
  have hi : i < l.length := (List.getElem?_eq_some_iff.1 h).1
  have hi' : i < (strOfNums l).size := by rw [strOfNums_size]; exact hi
  refine ⟨hi', ?_⟩
  have h2 : l[i] = x := by rw [List.getElem?_eq_getElem hi] at h; simpa using h
  show ((((l.map fun n => UInt8.ofNat n.toNat).toArray)[i]'(by simpa using hi)).toNat : Int) = x
  simp only [List.getElem_toArray, List.getElem_map, h2]
  unfold Byte at hx
  rw [UInt8.toNat_ofNat']
  omega
end Go.Proofs.Ytobaniebnejjiaa.U
