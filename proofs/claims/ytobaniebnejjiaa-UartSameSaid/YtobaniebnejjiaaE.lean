/- A serial line: Dump at its own block. -/
import Derived.Test.YtobaniebnejjiaaD
namespace Go.Proofs.Ytobaniebnejjiaa.U
open Go.RowKit
set_option linter.all false
theorem run_append_empty (w : World) (base : Option Addr) (n c : Nat) (h : n ≤ c) (p : Option Addr) (c2 : Nat) : (Builtin.append_ #[32, 32] 32 #[.slice base n c, .slice p 0 c2]).run Try.prog w = .ok (.slice base n c) w := by
  obtain ⟨i0, hi, hz0, hz1, hz2⟩ := info_parts info_u8
  cases p <;> cases base <;> simp [Builtin.append_, run_underlying (P := Try.prog) Try.underlying32, sizeOf, typeInfo, hi, Builtin.lenOf, h, Builtin.firstCells, loadCells, loadCellsFrom, storeCells]
theorem world_atU (F : World → Prop) {P : Program} {c : Code} {Q : Exit → Act → World → Prop} {a : Act} {w : World} (hF : F w) (h : ∀ W, F W → c.wp P Q a W) : c.wp P Q a w := h w hF
/-- the queue's bytes behind others, as a text -/
theorem run_behind (w : World) (A : Nat) (xs : List Int) (hA : w.heap[A]? = some (.cells (bys xs).toArray 5)) (hxl : xs.length ≤ 1000) (v : Value) (l : List Int) (hq : QRow w v l) (hl : l.length ≤ 1000) :
    ∃ v' w', (Builtin.append_ #[32, 32] 32 #[.slice (some ⟨A, 0, none⟩) xs.length xs.length, v]).run Try.prog w = .ok v' w' ∧ (convert 32 9 v').run Try.prog w' = .ok (.string (strOfNums (xs ++ l))) w' ∧ Fr [A] w w' := by
  obtain ⟨i0, hi, hz0, hz1, hz2⟩ := info_parts info_u8
  obtain ⟨p, cap, rfl, h1, h2, h3, h4⟩ := hq
  have hown : w.ownsRow 0 5 1 (.slice (some ⟨A, 0, none⟩) xs.length xs.length) xs.length (bys xs) :=
    ⟨by rw [bys_len]; omega, .inr ⟨A, xs.length, (bys xs).toArray, rfl, Nat.zero_le _, hA, Nat.le_refl _, by unfold maxLen; omega, by rw [List.size_toArray, bys_len]; omega, by rw [Nat.mul_one, List.take_of_length_le (by simp [bys])]⟩⟩
  by_cases hl0 : l = []
  · subst hl0
    refine ⟨_, _, run_append_empty w _ _ _ (Nat.le_refl _) p cap, ?_, Fr.refl _ _⟩
    rw [List.append_nil]
    exact conv_own hown
  · have hpos : 0 < l.length := by cases l with | nil => exact absurd rfl hl0 | cons => simp
    obtain ⟨b, o, rfl, hb, -⟩ := h4 0 hpos
    have hnews : ∀ j u, (bys l)[j]? = some u → w.cell? ((⟨b, o, none⟩ : Addr).add j) = some u := by
      intro j u hj
      have hlt : j < l.length := by have := (List.getElem?_eq_some_iff.1 hj).1; rwa [bys_len] at this
      obtain ⟨b', o', e, -, hc⟩ := h4 j hlt
      obtain ⟨rfl, rfl⟩ : b = b' ∧ o = o' := by simpa using e
      rw [Addr.add_mid, hc]
      rw [bys_get, List.getElem?_eq_getElem hlt] at hj
      rw [List.getD_eq_getElem?_getD, List.getElem?_eq_getElem hlt]
      simpa using hj
    obtain ⟨v', w', hr, g2, g3, -⟩ := run_append_own (P := Try.prog) w 0 32 32 5 i0 (.int .u8 0) 1 1 Try.underlying32 hi hz0 hz1 hz2 rfl (by decide) _ xs.length (bys xs) hown ⟨b, o, none⟩ l.length cap (bys l) (by rw [bys_len]; omega) hnews (bys_one l) (by unfold maxLen; omega) (by omega) (Nat.zero_le _)
    refine ⟨v', w', hr, conv_own ?_, fr_grown g3⟩
    have e1 : bys (xs ++ l) = bys xs ++ bys l := by simp [bys]
    rw [e1, List.length_append]
    exact g2
theorem wpList_behind {ops : Array Oper} {rest : List Oper} {o : Oper} {a : Act} {w : World} {Q : Exit → Act → World → Prop} (hgd : o.guard = none) (s x : Operand)
    (ho : o.op = .call { callee := .builtin .append, args := #[s, x], argTypes := #[32, 32] }) (hty : o.type = 32) (A : Nat) (xs : List Int) (hs : a.eval s = .slice (some ⟨A, 0, none⟩) xs.length xs.length) (hA : w.heap[A]? = some (.cells (bys xs).toArray 5)) (hxl : xs.length ≤ 1000) (v : Value) (l : List Int) (hx : a.eval x = v) (hq : QRow w v l) (hl : l.length ≤ 1000)
    (h : ∀ v' w', (convert 32 9 v').run Try.prog w' = .ok (.string (strOfNums (xs ++ l))) w' → Fr [A] w w' → wpList Try.prog ops Q rest (a.put o.dst v') w') : wpList Try.prog ops Q (o :: rest) a w :=
  wpList_plain hgd fun _ hK => by
    obtain ⟨v', w', hr, h2, h3⟩ := run_behind w A xs hA hxl v l hq hl
    unfold Oper.wp execOp
    simp only [ho, hty, resolve, invoke, builtin, Sem.run_bind, Sem.run_pure, Result.andThen_ok, List.map_toArray, List.map_cons, List.map_nil, hs, hx, hr]
    exact hK _ _ (h v' w' h2 h3)
def headD (u : St) : List Int := [u.ier, b1 u.en, u.lcr, u.mcr, u.scr, u.dll, u.dlm, b1 u.ov, b1 u.dn]
set_option maxRecDepth 100000 in
set_option maxHeartbeats 4000000 in
theorem dump_w (g : Nat) (vs vq : Value) (u : St) (w : World) (hq : Hid (QRow w vq u.q)) (hl : u.q.length ≤ 16) (hb : w.heap[g]? = some (.cells (clU vs vq u) 48)) : Calls Try.prog 17 #[.pointer (some ⟨g, 0, none⟩)] w fun e w' => e = .returned (.string (strOfNums u.Dump)) ∧ Fr [] w w' := by
  have HB := hid hb
  have hD : Hid (u.Dump = headD u ++ u.q) := rfl
  clear hb
  go_enter Try.func17, Try.ntmps17
  go_upto_region 3 with fail
  have hne := ext_ne w
  have y2 : ∀ n : Ext w, n.w.cell? ⟨g, 2, none⟩ = some (.int .u8 u.ier) := fun n => (blk_cell (n.blk HB.out) 2).trans rfl
  have y3 : ∀ n : Ext w, n.w.cell? ⟨g, 3, none⟩ = some (.int .u8 u.lcr) := fun n => (blk_cell (n.blk HB.out) 3).trans rfl
  have y4 : ∀ n : Ext w, n.w.cell? ⟨g, 4, none⟩ = some (.int .u8 u.mcr) := fun n => (blk_cell (n.blk HB.out) 4).trans rfl
  have y5 : ∀ n : Ext w, n.w.cell? ⟨g, 5, none⟩ = some (.int .u8 u.scr) := fun n => (blk_cell (n.blk HB.out) 5).trans rfl
  have y6 : ∀ n : Ext w, n.w.cell? ⟨g, 6, none⟩ = some (.int .u8 u.dll) := fun n => (blk_cell (n.blk HB.out) 6).trans rfl
  have y7 : ∀ n : Ext w, n.w.cell? ⟨g, 7, none⟩ = some (.int .u8 u.dlm) := fun n => (blk_cell (n.blk HB.out) 7).trans rfl
  have y8 : ∀ n : Ext w, n.w.cell? ⟨g, 8, none⟩ = some (.bool u.en) := fun n => (blk_cell (n.blk HB.out) 8).trans rfl
  have y9 : ∀ n : Ext w, n.w.cell? ⟨g, 9, none⟩ = some (.bool u.ov) := fun n => (blk_cell (n.blk HB.out) 9).trans rfl
  have y10 : ∀ n : Ext w, n.w.cell? ⟨g, 10, none⟩ = some (.bool u.dn) := fun n => (blk_cell (n.blk HB.out) 10).trans rfl
  have ca : Hid (∀ n : Ext w, Calls Try.prog 28 #[.bool u.en] n.w fun e w'' => e = .returned (.int .u8 (b1 u.en)) ∧ ∃ m : Ext w, w'' = m.w) := fun n => Ext.same n (one_any _ _)
  have cb : Hid (∀ n : Ext w, Calls Try.prog 28 #[.bool u.ov] n.w fun e w'' => e = .returned (.int .u8 (b1 u.ov)) ∧ ∃ m : Ext w, w'' = m.w) := fun n => Ext.same n (one_any _ _)
  have cd : Hid (∀ n : Ext w, Calls Try.prog 28 #[.bool u.dn] n.w fun e w'' => e = .returned (.int .u8 (b1 u.dn)) ∧ ∃ m : Ext w, w'' = m.w) := fun n => Ext.same n (one_any _ _)
  refine wp_region_ext_tail 39 (by kernel_rfl) (by kernel_rfl) ?_
  simp only [List.take_succ_cons, List.take_zero, List.drop_succ_cons, List.drop_zero]
  repeat (go_big_quiet_step (first | (go_at_call 28; with_reducible exact ca.out _) | (go_at_call 28; with_reducible exact cb.out _) | (go_at_call 28; with_reducible exact cd.out _)))
  refine wpQuiet_nil ?_
  intro w' hw'
  obtain ⟨m1, rfl⟩ := hw'
  have hB := m1.blk HB.out
  have hF := m1.fr
  generalize m1.w = W1 at *
  clear y2 y3 y4 y5 y6 y7 y8 y9 y10 ca cb cd hne
  have HB1 := hid hB
  have HF := hid hF
  clear hB hF
  go_upto_region 4 with fail
  have hlt := lt_block HB1.out
  refine world_atU (fun W => W.heap[W1.heap.size]? = some (.cells (bys (headD u)).toArray 5) ∧ W.heap[g]? = some (.cells (clU vs vq u) 48) ∧ QRow W vq u.q ∧ Fr [] w W ∧ w.heap.size ≤ W1.heap.size) ⟨blk_new _ _, blk_alloc HB1.out _, hq.out.keep (HF.out.alloc _) (by simp), HF.out.alloc _, HF.out.size⟩ ?_
  clear HB1 HF hlt hq HB
  rintro W2 ⟨hA, hB, hq, hF, hle⟩
  generalize W1.heap.size = A at *
  have c1 : W2.cell? ⟨g, 1, none⟩ = some vq := (blk_cell hB 1).trans rfl
  have hA := hid hA
  have hq := hid hq
  have hF := hid hF
  have hle := hid hle
  clear hB
  go_wp2_with (at_builtin; go_loud (refine wpList_behind rfl _ _ rfl rfl A (headD u) rfl hA.out (show 9 ≤ 1000 by decide) vq u.q rfl hq.out (by omega) ?_; intro v' w3 hconv hd; replace hd := hid hd))
  go_ret
  refine ⟨?_, hF.out.step hd.out (fun j hj => .inr (by rw [List.mem_singleton.1 hj]; exact hle.out))⟩
  rw [hD.out]
  rfl
set_option maxRecDepth 100000 in
set_option maxHeartbeats 4000000 in
theorem dump_nil (w : World) : Calls Try.prog 17 #[.pointer none] w fun e w' => e = .returned (.string ⟨#[]⟩) ∧ w = w' := by
  go_enter Try.func17, Try.ntmps17
  go_wp2
  go_ret
  exact ⟨rfl, rfl⟩
end Go.Proofs.Ytobaniebnejjiaa.U
