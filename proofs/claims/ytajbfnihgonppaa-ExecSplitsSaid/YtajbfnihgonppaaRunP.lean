/- A slice argument's instructions. -/
import Derived.Test.YtajbfnihgonppaaRun
import Derived.Test.YtajbfnihgonppaaFlat
namespace Go.Proofs.Ytajbfnihgonppaa.PA
open Go.RowKit Go.Proofs.Ytajbfnihgonppaa.Plain
set_option linter.all false
def tup (f : Nat → Value) : T7 := (intOf (f 0), intOf (f 1), intOf (f 2), intOf (f 3), intOf (f 4), intOf (f 5), intOf (f 6))
theorem wf_bd (k : IntKind) {a : Int} (h : (Lit.int k a).wf = true) : k.min ≤ a ∧ a ≤ k.max := by simp [Lit.wf] at h; exact h
theorem tup_of {f : Nat → Value} (h : fits [.num .u8, .num .u8, .num .u8, .num .u8, .num .i64, .num .u16, .num .u8] ((List.range 7).map f)) : (∀ j v, (IC (tup f))[j]? = some v → f j = v) ∧ W7 (tup f) := by
  rw [show List.range 7 = [0, 1, 2, 3, 4, 5, 6] from rfl] at h
  obtain ⟨⟨a, ha, wa⟩, ⟨b, hb, wb⟩, ⟨c, hc, wc⟩, ⟨d, hd, wd⟩, ⟨e, he, we⟩, ⟨k, hk, wk⟩, ⟨l, hl, wl⟩, _⟩ := h
  have m8 : IntKind.u8.min = 0 ∧ IntKind.u8.max = 255 := ⟨rfl, rfl⟩
  have m16 : IntKind.u16.min = 0 ∧ IntKind.u16.max = 65535 := ⟨rfl, rfl⟩
  have m64 : IntKind.i64.min = -9223372036854775808 ∧ IntKind.i64.max = 9223372036854775807 := ⟨rfl, rfl⟩
  replace wa := wf_bd _ wa
  replace wb := wf_bd _ wb
  replace wc := wf_bd _ wc
  replace wd := wf_bd _ wd
  replace we := wf_bd _ we
  replace wk := wf_bd _ wk
  replace wl := wf_bd _ wl
  unfold tup IC W7
  rw [ha, hb, hc, hd, he, hk, hl]
  simp only [intOf]
  refine ⟨fun j v hj => ?_, by omega⟩
  match j, hj with
  | 0, hj => rw [ha]; simpa using hj
  | 1, hj => rw [hb]; simpa using hj
  | 2, hj => rw [hc]; simpa using hj
  | 3, hj => rw [hd]; simpa using hj
  | 4, hj => rw [he]; simpa using hj
  | 5, hj => rw [hk]; simpa using hj
  | 6, hj => rw [hl]; simpa using hj
  | j + 7, hj => simp at hj
theorem insts_of {w : World} {A : Option Addr} {len : Nat} {c : Nat → Nat → Value} (h : SliceIn w [.num .u8, .num .u8, .num .u8, .num .u8, .num .i64, .num .u16, .num .u8] A len c) : ∃ L : List T7, L.length = len ∧ (∀ x ∈ L, W7 x) ∧ Insts w A w.heap.size L := by
  rcases h with h0 | ⟨b, off, hA, hb, _, hcells⟩
  · exact ⟨[], by simp [h0], by simp, fun q hq => by simp at hq⟩
  refine ⟨(List.range len).map fun i => tup (c i), by simp, ?_, ?_⟩
  · intro x hx
    obtain ⟨i, hi, rfl⟩ := List.mem_map.1 hx
    exact (tup_of (hcells i (List.mem_range.1 hi)).1).2
  · intro q hq
    have hq' : q < len := by simpa using hq
    obtain ⟨hf, hc⟩ := hcells q hq'
    obtain ⟨h1, h2⟩ := tup_of hf
    have hg : ((List.range len).map fun i => tup (c i)).getD q default = tup (c q) := by rw [List.getD_eq_getElem?_getD]; simp [hq']
    rw [hg]
    refine ⟨b, off, hA, hb, hb, h2, ?_⟩
    intro j v hj
    have hj' : (IC (tup (c q)))[j]? = some v := by simpa using hj
    have hlt : j < 7 := (Array.getElem?_eq_some_iff.1 hj').1
    have := hc j hlt
    rw [h1 j v hj'] at this
    rw [← this]
    simp only [List.length_cons, List.length_nil, Nat.add_assoc]
end Go.Proofs.Ytajbfnihgonppaa.PA
