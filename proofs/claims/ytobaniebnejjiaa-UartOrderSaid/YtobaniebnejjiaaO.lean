/- The law UartOrder: the plain law, and contracts. -/
import Derived.Test.YtobaniebnejjiaaJ
import Derived.Laws.Concat
namespace Go.Proofs.Ytobaniebnejjiaa.U
open Go.RowKit
set_option linter.all false
/-- one line, apart from the blocks X -/
def AX (w0 w : World) (X : List Nat) (g : Nat) (u : St) : Prop := Lines w0 w X 1 (fun _ => g) (fun _ => u)
theorem AX.fr {w0 w : World} {X : List Nat} {g : Nat} {u : St} (h : AX w0 w X g u) : Fr [] w0 w := Lines.fr h
theorem AX.grow {w0 w w' : World} {X : List Nat} {g : Nat} {u : St} (h : AX w0 w X g u) (hf : Fr [] w w') : AX w0 w' X g u := Lines.grow h hf
theorem AX.alone {w0 w : World} {X : List Nat} {g : Nat} {u : St} (h : AX w0 w X g u) : Alone w0 w g u := by
  obtain ⟨T, h1, h2, h3, h4⟩ := h
  exact ⟨T, fun i hi => ⟨(h1 i hi).1, (h1 i hi).2.1, by simp⟩, h2, by simp, h4⟩
theorem Alone.boxed {w0 w : World} {g : Nat} {u : St} (h : Alone w0 w g u) (o : Obj) : AX w0 (w.alloc o) [w.heap.size] g u := Lines.other h o
theorem ax_of {w0 w w' : World} {X : List Nat} {g : Nat} {u u' : St} {f : FuncId} {args : Array Value} {r : Ending} (h : Calls Try.prog f args w fun e w' => e = r ∧ LP w0 w w' X 1 (fun _ => g) (updS (fun _ => u) 0 u')) : Calls Try.prog f args w fun e w' => e = r ∧ AX w0 w' X g u' ∧ ∀ x ∈ X, w'.heap[x]? = w.heap[x]? :=
  h.mono fun e w' ⟨a, b, c⟩ => ⟨a, lines_congr b fun i hi => by
    obtain rfl : i = 0 := by omega
    exact ⟨rfl, rfl⟩, c⟩
theorem ax_Read {w0 w : World} {X : List Nat} {g : Nat} {u : St} (h : AX w0 w X g u) (hu : u.OK) (width : Int) {off : Int} (h0 : 0 ≤ off) (h1 : off < 18446744073709551616) : Calls Try.prog 11 #[.pointer (some ⟨g, 0, none⟩), .int .u64 off, .int .i64 width] w fun e w' => e = .returned (.tuple #[.int .u64 (u.Read off width).1, .bool (u.Read off width).2.1]) ∧ AX w0 w' X g (u.Read off width).2.2 ∧ ∀ x ∈ X, w'.heap[x]? = w.heap[x]? := ax_of (w' := w) (ls_Read h (i := 0) (gi := g) (by decide) rfl hu width h0 h1)
theorem ax_Write {w0 w : World} {X : List Nat} {g : Nat} {u : St} (h : AX w0 w X g u) (hu : u.OK) (width : Int) {v : Int} {off : Int} (h0 : 0 ≤ off) (h1 : off < 18446744073709551616) (v0 : 0 ≤ v) (v1 : v < 18446744073709551616) (hsl : u.sent.length ≤ 1000000) : Calls Try.prog 12 #[.pointer (some ⟨g, 0, none⟩), .int .u64 off, .int .i64 width, .int .u64 v] w fun e w' => e = .returned (.bool (u.Write off width v).1) ∧ AX w0 w' X g (u.Write off width v).2 ∧ ∀ x ∈ X, w'.heap[x]? = w.heap[x]? := ax_of (w' := w) (ls_Write h (i := 0) (gi := g) (by decide) rfl hu width h0 h1 v0 v1 hsl)
theorem ax_Input {w0 w : World} {X : List Nat} {g : Nat} {u : St} (h : AX w0 w X g u) (hu : u.OK) {b : Int} (hb0 : Byte b) : Calls Try.prog 13 #[.pointer (some ⟨g, 0, none⟩), .int .u8 b] w fun e w' => e = .returned (.bool (u.Input b).1) ∧ AX w0 w' X g (u.Input b).2 ∧ ∀ x ∈ X, w'.heap[x]? = w.heap[x]? := ax_of (w' := w) (ls_Input h (i := 0) (gi := g) (by decide) rfl hu hb0)
theorem ax_Take {w0 w : World} {X : List Nat} {g : Nat} {u : St} (h : AX w0 w X g u) (hu : u.OK)  : Calls Try.prog 14 #[.pointer (some ⟨g, 0, none⟩)] w fun e w' => e = .returned (.string (strOfNums u.Take.1)) ∧ AX w0 w' X g u.Take.2 ∧ ∀ x ∈ X, w'.heap[x]? = w.heap[x]? := ax_of (w' := w) (ls_Take h (i := 0) (gi := g) (by decide) rfl hu )
theorem ax_Waiting {w0 w : World} {X : List Nat} {g : Nat} {u : St} (h : AX w0 w X g u) : Calls Try.prog 10 #[.pointer (some ⟨g, 0, none⟩)] w fun e w' => e = .returned (.int .i64 (u.q.length : Int)) ∧ w = w' := al_Waiting h.alone
/-! plain -/
theorem first_lcr (u : St) : u.first.2.lcr = u.lcr := by unfold St.first; split <;> rfl
theorem read_facts {u : St} (hu : u.OK) (hl : u.lcr < 128) (off width : Int) : ∃ v ok u2, u.Read off width = (v, ok, u2) ∧ u2.OK ∧ u2.lcr = u.lcr ∧ u2.sent = u.sent ∧ Byte v ∧
    ((ok = false ∧ u2.q = u.q) ∨ (ok = true ∧ (off == 0) = false ∧ u2.q = u.q) ∨ (ok = true ∧ (off == 0) = true ∧ u.q = [] ∧ u2.q = []) ∨ (ok = true ∧ (off == 0) = true ∧ u.q = v :: u2.q)) := by
  have hlat : u.lat = false := by unfold St.lat; exact decide_eq_false (by omega)
  refine ⟨(u.Read off width).1, (u.Read off width).2.1, (u.Read off width).2.2, rfl, (hu.Read off width).1, ?_, sent_Read u off width, (hu.Read off width).2, ?_⟩
  · unfold St.Read
    split
    · unfold St.read
      split
      · rw [hlat, if_neg (by decide)]; exact first_lcr u
      split
      · rfl
      split
      · rfl
      split
      · rfl
      split
      · rfl
      split
      · rfl
      split <;> rfl
    · rfl
  · unfold St.Read
    by_cases hm : may off width = true
    · rw [if_pos hm]
      by_cases h0 : off = 0
      · subst h0
        have e : u.read 0 = u.first := by unfold St.read; rw [if_pos rfl, hlat, if_neg (by decide)]
        rw [e]
        unfold St.first
        cases hq : u.q with
        | nil => exact .inr (.inr (.inl ⟨rfl, rfl, rfl, hq⟩))
        | cons x r => exact .inr (.inr (.inr ⟨rfl, rfl, rfl⟩))
      · refine .inr (.inl ⟨rfl, by simpa using h0, ?_⟩)
        unfold St.read
        rw [if_neg h0]
        split
        · rfl
        split
        · rfl
        split
        · rfl
        split
        · rfl
        split
        · rfl
        split <;> rfl
    · rw [if_neg hm]; exact .inl ⟨rfl, rfl⟩
theorem write_facts {u : St} (hu : u.OK) (hl : u.lcr < 128) {off : Int} (width v : Int) (h2 : (off == 2) = false) (h3 : (off == 3) = false) : ∃ ok u2, u.Write off width v = (ok, u2) ∧ u2.OK ∧ u2.lcr = u.lcr ∧ u2.q = u.q ∧
    ((ok = false ∧ u2.sent = u.sent) ∨ (ok = true ∧ (off == 0) = false ∧ u2.sent = u.sent) ∨ (ok = true ∧ (off == 0) = true ∧ u2.sent = u.sent ++ [v % 256])) := by
  have hlat : u.lat = false := by unfold St.lat; exact decide_eq_false (by omega)
  have h2' : off ≠ 2 := by simpa using h2
  have h3' : off ≠ 3 := by simpa using h3
  refine ⟨(u.Write off width v).1, (u.Write off width v).2, rfl, hu.Write off width v, ?_⟩
  unfold St.Write
  by_cases hm : may off width = true
  · rw [if_pos hm]
    by_cases h0 : off = 0
    · subst h0
      have e : u.write 0 (v % 256) = u.send (v % 256) := by unfold St.write; rw [if_pos rfl, hlat, if_neg (by decide)]
      rw [e]
      exact ⟨rfl, rfl, .inr (.inr ⟨rfl, rfl, rfl⟩)⟩
    · have key : (u.write off (v % 256)).lcr = u.lcr ∧ (u.write off (v % 256)).q = u.q ∧ (u.write off (v % 256)).sent = u.sent := by
        unfold St.write
        rw [if_neg h0, if_neg h2', if_neg h3', hlat]
        simp only [Bool.false_eq_true, if_false]
        split
        · exact ⟨rfl, rfl, rfl⟩
        split
        · exact ⟨rfl, rfl, rfl⟩
        split <;> exact ⟨rfl, rfl, rfl⟩
      exact ⟨key.1, key.2.1, .inr (.inl ⟨rfl, by simpa using h0, key.2.2⟩)⟩
  · rw [if_neg hm]; exact ⟨rfl, rfl, .inl ⟨rfl, rfl⟩⟩
theorem input_facts {u : St} (hu : u.OK) {b : Int} (hb : Byte b) : ∃ ok u2, u.Input b = (ok, u2) ∧ u2.OK ∧ u2.lcr = u.lcr ∧ u2.sent = u.sent ∧ ((ok = false ∧ ((u.q.length : Int) == 16) = true ∧ u2.q = u.q) ∨ (ok = true ∧ ((u.q.length : Int) == 16) = false ∧ u2.q = u.q ++ [b])) := by
  refine ⟨(u.Input b).1, (u.Input b).2, rfl, hu.Input hb, ?_⟩
  have hs := hu.short
  unfold St.Input
  by_cases hf : 16 ≤ u.q.length
  · rw [if_pos hf]
    exact ⟨rfl, rfl, .inl ⟨rfl, by have : u.q.length = 16 := by omega
                                   rw [this]; rfl, rfl⟩⟩
  · rw [if_neg hf]
    exact ⟨rfl, rfl, .inr ⟨rfl, by have : ¬ ((u.q.length : Int) = 16) := by omega
                                   simpa using this, rfl⟩⟩
/-! strings -/
theorem strOfNums_append' (a b : List Int) : strOfNums a ++ strOfNums b = strOfNums (a ++ b) := by
  apply ByteArray.ext
  rw [ByteArray.data_append]
  simp [strOfNums]
theorem run_add_str' (a b : List Int) (ha : a.length ≤ 4000000) (hb : b.length ≤ 4000000) (w : World) : (Op.stringOp .add (strOfNums a) (strOfNums b)).run Try.prog w = .ok (.string (strOfNums (a ++ b))) w := by
  rw [run_string_add_sum w _ _ (by rw [strOfNums_size, strOfNums_size]; omega), strOfNums_append']
theorem conv_new (b : Int) (w : World) : (convert 32 9 (.slice (some ⟨w.heap.size, 0, none⟩) 1 1)).run Try.prog (w.alloc (.cells #[.int .u8 b] 5)) = .ok (.string (strOfNums [b])) (w.alloc (.cells #[.int .u8 b] 5)) :=
  run_convert_bytes_arg _ 32 5 Try.underlying32 Try.underlying5 w.heap.size 0 1 1 [b] rfl (fun i hi => by
    obtain rfl : i = 0 := by omega
    rw [blk_cell (blk_new _ _)]; rfl) 9 Try.underlying9
theorem extract_head (a b : List Int) : (strOfNums (a ++ b)).extract 0 (strOfNums a).size = strOfNums a := by
  apply ByteArray.ext
  rw [ByteArray.data_extract]
  unfold strOfNums
  simp [ByteArray.size]
set_option maxRecDepth 100000 in
set_option maxHeartbeats 4000000 in
theorem hp2_w (a b : ByteArray) (w : World) (hle : b.size ≤ a.size) (he : a.extract 0 b.size = b) : Calls Try.prog 27 #[.string a, .string b] w fun e w' => e = .returned (.bool true) ∧ w = w' := by
  have hle' : (b.size : Int) ≤ (a.size : Int) := by omega
  have q3 : (b.toList == b.toList) = true := beq_self_eq_true _
  go_enter Try.func27, Try.ntmps27
  go_wp2
  go_ret
  exact ⟨rfl, rfl⟩
set_option maxRecDepth 100000 in
set_option maxHeartbeats 4000000 in
theorem hp_any (a b l : List Int) (h : a = b ++ l) (w : World) : Calls Try.prog 15 #[.string (strOfNums a), .string (strOfNums b)] w fun e w' => e = .returned (.bool true) ∧ w = w' := by
  subst h
  have h1 := hid (hp2_w (strOfNums (b ++ l)) (strOfNums b) w (by rw [strOfNums_size, strOfNums_size]; simp) (extract_head b l))
  generalize strOfNums (b ++ l) = x at *
  generalize strOfNums b = y at *
  go_enter Try.func15, Try.ntmps15
  go_wp2_with (go_at_call 27; (with_reducible refine (h1.out).mono ?_); rintro e w1 ⟨rfl, rfl⟩)
  go_ret
  exact ⟨rfl, rfl⟩
end Go.Proofs.Ytobaniebnejjiaa.U
