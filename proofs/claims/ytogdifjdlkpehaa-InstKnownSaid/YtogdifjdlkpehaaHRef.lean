/- Contract of the reference's Decode. -/
import Derived.Test.YtogdifjdlkpehaaHFill
import Derived.Test.YtogdifjdlkpehaaK3
namespace Go.Proofs.Ytogdifjdlkpehaa.PA
open Go.RowKit
set_option linter.all false

theorem flat4 (f : R4 → List Value) (hf : ∀ r, (f r).length = 4) : ∀ (l : List R4) (j c : Nat) (r : R4), l[j]? = some r → c < 4 → (l.flatMap f)[j * 4 + c]? = (f r)[c]?
  | [], j, c, r, h, _ => by simp at h
  | x :: l, 0, c, r, h, hc => by
    simp only [List.getElem?_cons_zero, Option.some.injEq] at h
    subst h
    rw [List.flatMap_cons, List.getElem?_append_left (by rw [hf]; omega)]
    congr 1; omega
  | x :: l, j + 1, c, r, h, hc => by
    simp only [List.getElem?_cons_succ] at h
    rw [List.flatMap_cons, List.getElem?_append_right (by rw [hf]; omega), hf, show (j + 1) * 4 + c - 4 = j * 4 + c by omega]
    exact flat4 f hf l j c r h hc
theorem row_cell {w : World} {g : Nat} (h : w.heap[g]? = some (.cells rowsC 58)) {j : Nat} {r : R4} (hj : rowsL[j]? = some r) {c : Nat} (hc : c < 4) : w.cell? ⟨g, j * 4 + c, none⟩ = (rowC r)[c]? := by
  rw [blk_cell h, ← flat4 rowC (fun _ => rfl) rowsL j c r hj hc]
  unfold rowsC
  simp
/-- does a row speak of a parcel? -/
def meets (p : Int) (r : R4) : Bool := bits .and .u32 p r.2.2.1 == r.2.2.2
def refT (p : Int) : T7 := match rowsL.find? (meets p) with | some r => fillT p r.1 r.2.1 | none => (0, 0, 0, 0, p, 0, 4)
theorem find_at {p : Int} {r : R4} : ∀ (l : List R4) (j : Nat), l[j]? = some r → meets p r = true → (∀ i, i < j → ∀ r, l[i]? = some r → meets p r = false) → l.find? (meets p) = some r
  | [], j, h, _, _ => by simp at h
  | x :: l, 0, h, hm, _ => by
    simp only [List.getElem?_cons_zero, Option.some.injEq] at h
    subst h
    rw [List.find?_cons, hm]
  | x :: l, j + 1, h, hm, hn => by
    simp only [List.getElem?_cons_succ] at h
    rw [List.find?_cons, hn 0 (by omega) x rfl]
    exact find_at l j h hm fun i hi r hr => hn (i + 1) (by omega) r (by simpa using hr)
theorem forms_ok : ∀ r ∈ rowsL, 0 ≤ r.2.1 ∧ r.2.1 ≤ 11 := by decide +kernel
set_option maxRecDepth 100000 in
set_option maxHeartbeats 4000000 in
theorem ref_any {p : Int} (hp : P32 p) (w : World) : Calls Try.prog 10 #[.int .u32 p] w fun e w' => e = .returned (.agg (IC (refT p))) ∧ Fr [] w w' := by
  have hlen : rowsL.length = 98 := by decide +kernel
  replace hlen := hid hlen
  have hw : wrap64 p = p := by unfold P32 at hp; unfold wrap64; omega
  replace hp := hid hp
  obtain ⟨X, hX⟩ : ∃ X, refT p = X := ⟨_, rfl⟩
  rw [hX]
  replace hX := hid hX
  go_enter Try.func10, Try.ntmps10
  go_wp2_with (go_at_call 36; ((with_reducible refine (rows_any _).mono ?_)); rintro e w' ⟨rfl, rfl⟩)
  go_loopw [4] (fun i wr => ∃ j : Nat, j ≤ 98 ∧ i = .int .i64 j ∧ Hid (∀ i, i < j → ∀ r, rowsL[i]? = some r → meets p r = false) ∧ Hid (wr.heap[w.heap.size]? = some (.cells (IC (0, 0, 0, 0, 0, 0, 0)) 25)) ∧ Hid (wr.heap[w.heap.size + 1]? = some (.cells rowsC 58)) ∧ Hid (Fr [] w wr)) (fun i _ => 98 - (intOf i).toNat)
  case atStart => exact ⟨0, by decide, rfl, fun i hi => by omega, blk_alloc (blk_new _ _) _, blk_new' (by simp) _, ((Fr.refl _ _).alloc _).alloc _⟩
  case round =>
    obtain ⟨j, hj, rfl, hno, hZ, hR, hF⟩ := hrel
    by_cases hlt : j < 98
    · obtain ⟨⟨op, k, f1, f2⟩, hr⟩ : ∃ r, rowsL[j]? = some r := ⟨rowsL[j]'(by rw [hlen.out]; exact hlt), by simp⟩
      have hk := forms_ok _ (List.mem_of_getElem? hr)
      replace hk := hid hk
      have c0 : wr.cell? ⟨w.heap.size + 1, j * 4, none⟩ = some (.int .u8 op) := row_cell hR.out hr (c := 0) (by decide)
      have c1 : wr.cell? ⟨w.heap.size + 1, j * 4 + 1, none⟩ = some (.int .i64 k) := row_cell hR.out hr (c := 1) (by decide)
      have c2 : wr.cell? ⟨w.heap.size + 1, j * 4 + 2, none⟩ = some (.int .u32 f1) := row_cell hR.out hr (c := 2) (by decide)
      have c3 : wr.cell? ⟨w.heap.size + 1, j * 4 + 3, none⟩ = some (.int .u32 f2) := row_cell hR.out hr (c := 3) (by decide)
      cases hm : meets p (op, k, f1, f2) with
      | false =>
        have ht : (bits .and .u32 p f1 == f2) = false := hm
        replace hr := hid hr
        replace hm := hid hm
        go_wp2
        go_quiet (fail)
        go_wp2
        go_roundw
        case rel =>
          refine ⟨j + 1, by omega, by go_num, fun i hi r h => ?_, hZ.out, hR.out, hF.out.drewN _⟩
          by_cases e : i = j
          · subst e; rw [hr.out] at h; cases h; exact hm.out
          · exact hno.out i (by omega) r h
        case measure => simp [intOf]; omega
      | true =>
        have ht : (bits .and .u32 p f1 == f2) = true := hm
        have hT : refT p = fillT p op k := by
          unfold refT; rw [find_at rowsL j hr hm hno.out]
        replace hr := hid hr
        replace hm := hid hm
        have hfill := fun w => fill_any hp.out op k f1 f2 hk.out w
        rw [← hT, hX.out] at hfill
        replace hfill := hid hfill
        clear hT
        go_wp2
        go_quiet (fail)
        go_wp2_with (first | (go_at_call 37; ((with_reducible refine (hfill.out _).mono ?_)); rintro e w3 ⟨rfl, hd⟩) | (refine wpList_store_whole rfl 25 _ _ rfl w.heap.size rfl (IC X) rfl 25 _ (hd.keeps (show (wr.drewN _).heap[w.heap.size]? = _ from hZ.out) (by simp)) rfl (sizeI' _) (IC_one _) ?_; intro w2 h2 hfr2))
        exact ⟨rfl, _, results_c rfl rfl h2 Try.underlying25 rfl (sizeI' _), rfl, ((hF.out.drewN _).trans hd).step hfr2 (fun j hj => .inr (by rw [List.mem_singleton.1 hj]; omega))⟩
    · obtain rfl : j = 98 := by omega
      have hT : refT p = (0, 0, 0, 0, p, 0, 4) := by
        have : rowsL.find? (meets p) = none := by
          rw [List.find?_eq_none]
          intro r hr
          obtain ⟨i, hi⟩ := List.getElem?_of_mem hr
          have := hno.out i (by have := (List.getElem?_eq_some_iff.1 hi).1; rw [hlen.out] at this; exact this) r hi
          rw [this]; decide
        unfold refT; rw [this]
      have hXX := hX.out.symm.trans hT
      subst hXX
      go_wp2_with (refine wpList_store_whole rfl 25 _ _ rfl w.heap.size rfl (IC (0, 0, 0, 0, p, 0, 4)) rfl 25 _ hZ.out rfl (sizeI' _) (IC_one _) ?_; intro w2 h2 hfr2)
      exact ⟨rfl, _, results_c rfl rfl h2 Try.underlying25 rfl (sizeI' _), rfl, hF.out.step hfr2 (fun j hj => .inr (by rw [List.mem_singleton.1 hj]; omega))⟩
theorem below_of_fr' {W w' : World} (h : Fr [] W w') : Below W.heap.size W w' := h.below (Nat.le_refl _) (by simp)
/-- in the print's form -/
def almonryref03_Decode.f (a0 : Int) : Option (Int × Int × Int × Int × Int × Int × Int) := if 0 ≤ a0 ∧ a0 < 4294967296 then some (refT a0) else none
theorem almonryref03_Decode.calls (a0 : Int) (r1 r2 r3 r4 r5 r6 r7 : Int) (w : World) (h : almonryref03_Decode.f a0 = some (r1, r2, r3, r4, r5, r6, r7)) :
    Calls Try.prog 10 #[.int .u32 a0] w fun e w' => e = .returned (.agg #[.int .u8 r1, .int .u8 r2, .int .u8 r3, .int .u8 r4, .int .i64 r5, .int .u16 r6, .int .u8 r7]) ∧ Below w.heap.size w w' := by
  unfold almonryref03_Decode.f at h
  split at h
  · rename_i hp
    have := ref_any (p := a0) hp w
    rw [Option.some.inj h] at this
    refine this.mono ?_
    rintro e w' ⟨rfl, hf⟩
    exact ⟨rfl, below_of_fr' hf⟩
  · cases h
end Go.Proofs.Ytogdifjdlkpehaa.PA
