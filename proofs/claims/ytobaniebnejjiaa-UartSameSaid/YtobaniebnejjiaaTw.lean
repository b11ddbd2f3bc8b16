/- Two serial lines at once; the plain law of UartSame. -/
import Derived.Test.YtobaniebnejjiaaJ
namespace Go.Proofs.Ytobaniebnejjiaa.U
open Go.RowKit
set_option linter.all false
/-- two lines, apart from the blocks X -/
def Two (w0 w : World) (X : List Nat) (g h : Nat) (u v : St) : Prop := Lines w0 w X 2 (fun i => if i = 0 then g else h) (fun i => if i = 0 then u else v)
theorem Two.fr {w0 w : World} {X : List Nat} {g h : Nat} {u v : St} (H : Two w0 w X g h u v) : Fr [] w0 w := Lines.fr H
theorem Two.grow {w0 w w' : World} {X : List Nat} {g h : Nat} {u v : St} (H : Two w0 w X g h u v) (hf : Fr [] w w') : Two w0 w' X g h u v := Lines.grow H hf
theorem Two.free {w0 w : World} {X : List Nat} {g h : Nat} {u v : St} (H : Two w0 w X g h u v) : Two w0 w [] g h u v := by
  obtain ⟨T, h1, h2, h3, h4⟩ := H
  exact ⟨T, fun i hi => ⟨(h1 i hi).1, (h1 i hi).2.1, by simp⟩, h2, by simp, h4⟩
theorem Two.boxed {w0 w : World} {g h : Nat} {u v : St} (H : Two w0 w [] g h u v) (o : Obj) : Two w0 (w.alloc o) [w.heap.size] g h u v := Lines.other H o
theorem two_of0 {w0 w w' : World} {X : List Nat} {g h : Nat} {u v u' : St} {f : FuncId} {args : Array Value} {r : Ending} (H : Calls Try.prog f args w fun e w' => e = r ∧ LP w0 w w' X 2 (fun i => if i = 0 then g else h) (updS (fun i => if i = 0 then u else v) 0 u')) : Calls Try.prog f args w fun e w' => e = r ∧ Two w0 w' X g h u' v ∧ ∀ x ∈ X, w'.heap[x]? = w.heap[x]? :=
  H.mono fun e w' ⟨a, b, c⟩ => ⟨a, lines_congr b fun i hi => by
    match i, hi with
    | 0, _ => exact ⟨rfl, rfl⟩
    | 1, _ => exact ⟨rfl, rfl⟩, c⟩
theorem two_of1 {w0 w w' : World} {X : List Nat} {g h : Nat} {u v u' : St} {f : FuncId} {args : Array Value} {r : Ending} (H : Calls Try.prog f args w fun e w' => e = r ∧ LP w0 w w' X 2 (fun i => if i = 0 then g else h) (updS (fun i => if i = 0 then u else v) 1 u')) : Calls Try.prog f args w fun e w' => e = r ∧ Two w0 w' X g h u u' ∧ ∀ x ∈ X, w'.heap[x]? = w.heap[x]? :=
  H.mono fun e w' ⟨a, b, c⟩ => ⟨a, lines_congr b fun i hi => by
    match i, hi with
    | 0, _ => exact ⟨rfl, rfl⟩
    | 1, _ => exact ⟨rfl, rfl⟩, c⟩
theorem two_new {w0 w : World} {g : Nat} (H : Alone w0 w g St.new) : Calls Try.prog 9 #[] w fun e w' => e = .returned (.pointer (some ⟨w.heap.size, 0, none⟩)) ∧ Two w0 w' [] g w.heap.size St.new St.new :=
  (ls_new H).mono fun e w' ⟨a, b, _⟩ => ⟨a, lines_congr b fun i hi => by
    match i, hi with
    | 0, _ => exact ⟨rfl, rfl⟩
    | 1, _ => exact ⟨rfl, rfl⟩⟩
theorem tw_Read0 {w0 w : World} {X : List Nat} {g h : Nat} {u v : St} (H : Two w0 w X g h u v) (hu : u.OK) (width : Int) {off : Int} (h0 : 0 ≤ off) (h1 : off < 18446744073709551616) : Calls Try.prog 11 #[.pointer (some ⟨g, 0, none⟩), .int .u64 off, .int .i64 width] w fun e w' => e = .returned (.tuple #[.int .u64 (u.Read off width).1, .bool (u.Read off width).2.1]) ∧ Two w0 w' X g h (u.Read off width).2.2 v ∧ ∀ x ∈ X, w'.heap[x]? = w.heap[x]? := two_of0 (w' := w) (ls_Read H (i := 0) (gi := g) (by decide) rfl hu width h0 h1)
theorem tw_Read1 {w0 w : World} {X : List Nat} {g h : Nat} {u v : St} (H : Two w0 w X g h u v) (hu : v.OK) (width : Int) {off : Int} (h0 : 0 ≤ off) (h1 : off < 18446744073709551616) : Calls Try.prog 11 #[.pointer (some ⟨h, 0, none⟩), .int .u64 off, .int .i64 width] w fun e w' => e = .returned (.tuple #[.int .u64 (v.Read off width).1, .bool (v.Read off width).2.1]) ∧ Two w0 w' X g h u (v.Read off width).2.2 ∧ ∀ x ∈ X, w'.heap[x]? = w.heap[x]? := two_of1 (w' := w) (ls_Read H (i := 1) (gi := h) (by decide) rfl hu width h0 h1)
theorem tw_Write0 {w0 w : World} {X : List Nat} {g h : Nat} {u v : St} (H : Two w0 w X g h u v) (hu : u.OK) (width : Int) {x : Int} {off : Int} (h0 : 0 ≤ off) (h1 : off < 18446744073709551616) (v0 : 0 ≤ x) (v1 : x < 18446744073709551616) (hsl : u.sent.length ≤ 1000000) : Calls Try.prog 12 #[.pointer (some ⟨g, 0, none⟩), .int .u64 off, .int .i64 width, .int .u64 x] w fun e w' => e = .returned (.bool (u.Write off width x).1) ∧ Two w0 w' X g h (u.Write off width x).2 v ∧ ∀ x ∈ X, w'.heap[x]? = w.heap[x]? := two_of0 (w' := w) (ls_Write H (i := 0) (gi := g) (by decide) rfl hu width h0 h1 v0 v1 hsl)
theorem tw_Write1 {w0 w : World} {X : List Nat} {g h : Nat} {u v : St} (H : Two w0 w X g h u v) (hu : v.OK) (width : Int) {x : Int} {off : Int} (h0 : 0 ≤ off) (h1 : off < 18446744073709551616) (v0 : 0 ≤ x) (v1 : x < 18446744073709551616) (hsl : v.sent.length ≤ 1000000) : Calls Try.prog 12 #[.pointer (some ⟨h, 0, none⟩), .int .u64 off, .int .i64 width, .int .u64 x] w fun e w' => e = .returned (.bool (v.Write off width x).1) ∧ Two w0 w' X g h u (v.Write off width x).2 ∧ ∀ x ∈ X, w'.heap[x]? = w.heap[x]? := two_of1 (w' := w) (ls_Write H (i := 1) (gi := h) (by decide) rfl hu width h0 h1 v0 v1 hsl)
theorem tw_Input0 {w0 w : World} {X : List Nat} {g h : Nat} {u v : St} (H : Two w0 w X g h u v) (hu : u.OK) {b : Int} (hb0 : Byte b) : Calls Try.prog 13 #[.pointer (some ⟨g, 0, none⟩), .int .u8 b] w fun e w' => e = .returned (.bool (u.Input b).1) ∧ Two w0 w' X g h (u.Input b).2 v ∧ ∀ x ∈ X, w'.heap[x]? = w.heap[x]? := two_of0 (w' := w) (ls_Input H (i := 0) (gi := g) (by decide) rfl hu hb0)
theorem tw_Input1 {w0 w : World} {X : List Nat} {g h : Nat} {u v : St} (H : Two w0 w X g h u v) (hu : v.OK) {b : Int} (hb0 : Byte b) : Calls Try.prog 13 #[.pointer (some ⟨h, 0, none⟩), .int .u8 b] w fun e w' => e = .returned (.bool (v.Input b).1) ∧ Two w0 w' X g h u (v.Input b).2 ∧ ∀ x ∈ X, w'.heap[x]? = w.heap[x]? := two_of1 (w' := w) (ls_Input H (i := 1) (gi := h) (by decide) rfl hu hb0)
theorem tw_Take0 {w0 w : World} {X : List Nat} {g h : Nat} {u v : St} (H : Two w0 w X g h u v) (hu : u.OK)  : Calls Try.prog 14 #[.pointer (some ⟨g, 0, none⟩)] w fun e w' => e = .returned (.string (strOfNums u.Take.1)) ∧ Two w0 w' X g h u.Take.2 v ∧ ∀ x ∈ X, w'.heap[x]? = w.heap[x]? := two_of0 (w' := w) (ls_Take H (i := 0) (gi := g) (by decide) rfl hu )
theorem tw_Take1 {w0 w : World} {X : List Nat} {g h : Nat} {u v : St} (H : Two w0 w X g h u v) (hu : v.OK)  : Calls Try.prog 14 #[.pointer (some ⟨h, 0, none⟩)] w fun e w' => e = .returned (.string (strOfNums v.Take.1)) ∧ Two w0 w' X g h u v.Take.2 ∧ ∀ x ∈ X, w'.heap[x]? = w.heap[x]? := two_of1 (w' := w) (ls_Take H (i := 1) (gi := h) (by decide) rfl hu )
theorem tw_Dump0 {w0 w : World} {X : List Nat} {g h : Nat} {u v : St} (H : Two w0 w X g h u v) (hu : u.OK)  : Calls Try.prog 17 #[.pointer (some ⟨g, 0, none⟩)] w fun e w' => e = .returned (.string (strOfNums u.Dump)) ∧ Two w0 w' X g h u v ∧ ∀ x ∈ X, w'.heap[x]? = w.heap[x]? := two_of0 (w' := w) (ls_Dump H (i := 0) (gi := g) (by decide) rfl hu )
theorem tw_Dump1 {w0 w : World} {X : List Nat} {g h : Nat} {u v : St} (H : Two w0 w X g h u v) (hu : v.OK)  : Calls Try.prog 17 #[.pointer (some ⟨h, 0, none⟩)] w fun e w' => e = .returned (.string (strOfNums v.Dump)) ∧ Two w0 w' X g h u v ∧ ∀ x ∈ X, w'.heap[x]? = w.heap[x]? := two_of1 (w' := w) (ls_Dump H (i := 1) (gi := h) (by decide) rfl hu )
theorem tw_Level0 {w0 w : World} {X : List Nat} {g h : Nat} {u v : St} (H : Two w0 w X g h u v) (hu : u.OK)  : Calls Try.prog 18 #[.pointer (some ⟨g, 0, none⟩)] w fun e w' => e = .returned (.bool u.Level) ∧ Two w0 w' X g h u v ∧ ∀ x ∈ X, w'.heap[x]? = w.heap[x]? := two_of0 (w' := w) (ls_Level H (i := 0) (gi := g) (by decide) rfl hu )
theorem tw_Level1 {w0 w : World} {X : List Nat} {g h : Nat} {u v : St} (H : Two w0 w X g h u v) (hu : v.OK)  : Calls Try.prog 18 #[.pointer (some ⟨h, 0, none⟩)] w fun e w' => e = .returned (.bool v.Level) ∧ Two w0 w' X g h u v ∧ ∀ x ∈ X, w'.heap[x]? = w.heap[x]? := two_of1 (w' := w) (ls_Level H (i := 1) (gi := h) (by decide) rfl hu )
theorem tw_does0 {w0 w : World} {X : List Nat} {g h : Nat} {u v : St} (H : Two w0 w X g h u v) (hu : u.OK) {what off x width : Int} (k0 : 0 ≤ what) (k1 : what < 256) (h0 : 0 ≤ off) (h1 : off < 18446744073709551616) (v0 : 0 ≤ x) (v1 : x < 18446744073709551616) (hsl : u.sent.length ≤ 1000000) : Calls Try.prog 16 #[.pointer (some ⟨g, 0, none⟩), .agg #[.int .u8 what, .int .u64 off, .int .u64 x, .int .i64 width]] w fun e w' => e = .returned (.tuple #[]) ∧ Two w0 w' X g h (u.act what off x width) v ∧ ∀ x ∈ X, w'.heap[x]? = w.heap[x]? := two_of0 (w' := w) (ls_does H (i := 0) (gi := g) (by decide) rfl hu k0 k1 h0 h1 v0 v1 hsl)
theorem tw_does1 {w0 w : World} {X : List Nat} {g h : Nat} {u v : St} (H : Two w0 w X g h u v) (hu : v.OK) {what off x width : Int} (k0 : 0 ≤ what) (k1 : what < 256) (h0 : 0 ≤ off) (h1 : off < 18446744073709551616) (v0 : 0 ≤ x) (v1 : x < 18446744073709551616) (hsl : v.sent.length ≤ 1000000) : Calls Try.prog 16 #[.pointer (some ⟨h, 0, none⟩), .agg #[.int .u8 what, .int .u64 off, .int .u64 x, .int .i64 width]] w fun e w' => e = .returned (.tuple #[]) ∧ Two w0 w' X g h u (v.act what off x width) ∧ ∀ x ∈ X, w'.heap[x]? = w.heap[x]? := two_of1 (w' := w) (ls_does H (i := 1) (gi := h) (by decide) rfl hu k0 k1 h0 h1 v0 v1 hsl)
/-! plain -/
theorem nums_inj : ∀ a b : List Int, (∀ x ∈ a, Byte x) → (∀ x ∈ b, Byte x) → (a.map fun n => UInt8.ofNat n.toNat) = (b.map fun n => UInt8.ofNat n.toNat) → a = b
  | [], [], _, _, _ => rfl
  | [], _ :: _, _, _, h => by simp at h
  | _ :: _, [], _, _, h => by simp at h
  | x :: a, y :: b, ha, hb, h => by
    simp only [List.map_cons, List.cons.injEq] at h
    have hx : Byte x := ha x (by simp)
    have hy : Byte y := hb y (by simp)
    have e := congrArg UInt8.toNat h.1
    rw [UInt8.toNat_ofNat', UInt8.toNat_ofNat'] at e
    unfold Byte at hx hy
    have : x = y := by omega
    rw [this, nums_inj a b (fun z hz => ha z (by simp [hz])) (fun z hz => hb z (by simp [hz])) h.2]
theorem strOfNums_inj {a b : List Int} (ha : ∀ x ∈ a, Byte x) (hb : ∀ x ∈ b, Byte x) (h : strOfNums a = strOfNums b) : a = b := by
  refine nums_inj a b ha hb ?_
  have := congrArg ByteArray.data h
  simpa [strOfNums] using this
theorem b1_inj {a b : Bool} (h : b1 a = b1 b) : a = b := by cases a <;> cases b <;> simp_all [b1]
theorem b1_byte (b : Bool) : Byte (b1 b) := by unfold b1 Byte; split <;> decide
theorem dump_bytes {u : St} (hu : u.OK) : ∀ x ∈ u.Dump, Byte x := by
  intro x hx
  unfold St.Dump at hx
  simp only [List.cons_append, List.nil_append, List.mem_cons] at hx
  rcases hx with rfl | rfl | rfl | rfl | rfl | rfl | rfl | rfl | rfl | hx
  · exact hu.ier
  · exact b1_byte _
  · exact hu.lcr
  · exact hu.mcr
  · exact hu.scr
  · exact hu.dll
  · exact hu.dlm
  · exact b1_byte _
  · exact b1_byte _
  · exact hu.q x hx
/-- lines with the same Dump, all of what was sent taken, are the same -/
theorem same_of {u v : St} (hu : u.OK) (hv : v.OK) (hs : u.sent = []) (hs' : v.sent = []) (h : strOfNums u.Dump = strOfNums v.Dump) : u = v := by
  have h := strOfNums_inj (dump_bytes hu) (dump_bytes hv) h
  unfold St.Dump at h
  simp only [List.cons_append, List.nil_append, List.cons.injEq] at h
  obtain ⟨h1, h2, h3, h4, h5, h6, h7, h8, h9, h10⟩ := h
  have h2 := b1_inj h2
  have h8 := b1_inj h8
  have h9 := b1_inj h9
  cases u
  cases v
  simp only at *
  subst_vars
  rfl
theorem str_ne {a b : ByteArray} (h : a ≠ b) : (a.toList == b.toList) = false := by
  rw [ByteArray.toList_eq, ByteArray.toList_eq]
  simp only [beq_eq_false_iff_ne]
  intro e
  exact h (ByteArray.ext (Array.toList_inj.1 e))
end Go.Proofs.Ytobaniebnejjiaa.U
