/- The law UartPlays: its walk. -/
import Derived.Test.YtobaniebnejjiaaZ
namespace Go.Proofs.Ytobaniebnejjiaa.U
open Go.RowKit
set_option linter.all false
theorem wp_load_midA {o : Oper} {a : Act} {w : World} {K : Act → World → Prop} {Q : Exit → Act → World → Prop} (ty : TypeId) (x : Operand) (ho : o.op = .load ty x) (g k : Nat) (hx : a.eval x = .pointer (some ⟨g, k, none⟩)) (cs : Array Value) (d : TypeDesc)
    (hg : w.rangeAt g k cs.toList) (hu : Try.prog.underlying ty = some d) (hd : d.isRow = true) (hi : (Try.prog.info? ty).map (·.size) = some cs.size) (h : K (a.put o.dst (.agg cs)) w) : o.wp Try.prog a w K Q := by
  have := run_loadVar_mid (P := Try.prog) w g k ty cs.toList d hg hu hd (by simpa using hi)
  unfold Oper.wp execOp
  simp only [ho, hx, Instr.loadAt, Instr.sureAddr, Sem.run_bind, Sem.run_pure, Result.andThen_ok, this, Array.toArray_toList]
  exact h
theorem pair_Level {w0 w : World} {g h : Nat} {u : St} (p : Pair w0 w g h u) (hu : u.OK) : Calls Try.prog 18 #[.pointer (some ⟨g, 0, none⟩)] w fun e w' => e = .returned (.bool u.Level) ∧ w = w' := by
  obtain ⟨⟨T, h1, -⟩, -⟩ := p
  exact line_Level (T 0) g hu w (h1 0 (by decide)).1
theorem pair_Waiting {w0 w : World} {g h : Nat} {u : St} (p : Pair w0 w g h u) : Calls Try.prog 10 #[.pointer (some ⟨g, 0, none⟩)] w fun e w' => e = .returned (.int .i64 (u.q.length : Int)) ∧ w = w' := by
  obtain ⟨⟨T, h1, -⟩, -⟩ := p
  exact line_Waiting (T 0) g w (h1 0 (by decide)).1
theorem pair_Dump {w0 w : World} {g h : Nat} {u : St} (p : Pair w0 w g h u) (hu : u.OK) : Calls Try.prog 17 #[.pointer (some ⟨g, 0, none⟩)] w fun e w' => e = .returned (.string (strOfNums u.Dump)) ∧ Pair w0 w' g h u := by
  have p' := p
  obtain ⟨⟨T, h1, -⟩, -⟩ := p
  exact (line_Dump (T 0) g hu w (h1 0 (by decide)).1).mono fun e w' ⟨a, b⟩ => ⟨a, p'.grow b⟩
theorem pair_Take {w0 w : World} {g h : Nat} {u : St} (p : Pair w0 w g h u) (hu : u.OK) : Calls Try.prog 14 #[.pointer (some ⟨g, 0, none⟩)] w fun e w' => e = .returned (.string (strOfNums u.sent)) ∧ w'.heap[h]? = some (.cells (clR u) 42) ∧ Fr [] w0 w' :=
  (ls_Take p.1 (i := 0) (gi := g) (by decide) rfl hu).mono fun e w' ⟨a, b, c⟩ => ⟨a, (c h (by simp)).trans p.2.1, b.fr⟩
theorem pair_new {w0 w : World} (hf : Fr [] w0 w) {g : Nat} (h : Lines w0 w [] 1 (fun _ => g) (fun _ => St.new)) : Pair w0 (w.alloc (.cells (clR St.new) 42)) g w.heap.size St.new := ⟨h.other _, blk_new _ _, hf.size⟩
set_option maxRecDepth 100000 in
set_option maxHeartbeats 4000000 in
theorem plays_long (A : Option Addr) (len cap : Nat) (w : World) (hlen : 120 < len) : Calls Try.prog 5 #[.slice A len cap] w fun e w' => e = .returned (.bool true) ∧ Fr [] w w' := by
  have hlt : (120 : Int) < (len : Int) := by omega
  go_enter Try.func5, Try.ntmps5
  go_wp2_with (go_at_call 8; (with_reducible refine (awake_any _).mono ?_); rintro e w6 ⟨rfl, hd⟩)
  go_ret
  exact ⟨rfl, hd⟩
set_option maxRecDepth 100000 in
set_option maxHeartbeats 4000000 in
theorem plays_main (A : Option Addr) (cap : Nat) (L : List A4) (len : Nat) (hlen' : L.length = len) (w : World) (hlen : len ≤ 120) (hL : Hid (Acts w A w.heap.size L)) : Calls Try.prog 5 #[.slice A len cap] w fun e w' => e = .returned (.bool true) ∧ Fr [] w w' := by
  have hlt : ¬ ((120 : Int) < (len : Int)) := by omega
  go_enter Try.func5, Try.ntmps5
  go_upto_region 7 with (go_at_call 9; (with_reducible refine (al_new w _ (Fr.refl _ _)).mono ?_); rintro e w1 ⟨rfl, hU1⟩; have hU := hid hU1; clear hU1)
  have hP0 := hid (pair_new hU.out.fr hU.out)
  clear hU
  generalize hg : w.heap.size = g at hP0
  generalize hh : w1.heap.size = h at hP0
  go_loopw [5] (fun i wr => ∃ (k : Nat) (u : St), k ≤ len ∧ i = .int .i64 k ∧ Hid (u.OK ∧ u.sent.length ≤ k) ∧ Hid (Pair w wr g h u)) (fun i _ => len - (intOf i).toNat)
  case atStart => exact ⟨0, St.new, Nat.zero_le _, rfl, ⟨OK_new, by decide⟩, hP0⟩
  case round =>
    clear hP0
    obtain ⟨k, u, hk, rfl, hG, hP⟩ := hrel
    by_cases hlt2 : k < len
    · obtain ⟨b, off, rfl, hb1, hb2, hwa, hr⟩ := hL.out k (by omega)
      have hr := hid (range_keep hP.out.fr hb2 (by simp) hr)
      generalize L.getD k default = x at *
      obtain ⟨what, aoff, av, width⟩ := x
      have P : Hid (0 ≤ what ∧ what < 256 ∧ 0 ≤ aoff ∧ aoff < 18446744073709551616 ∧ 0 ≤ av ∧ av < 18446744073709551616) := ⟨hwa.1.1, hwa.1.2, hwa.2.1.1, hwa.2.1.2, hwa.2.2.1, hwa.2.2.2⟩
      clear hwa
      have hkl : (k : Int) < (len : Int) := by omega
      go_upto_region 9 with fail
      (try simp only [Act.put, List.setIfInBounds_toArray, List.set_cons_zero, List.set_cons_succ])
      refine wp_region_HT (S := fun _ => True) 31 (by kernel_rfl) (by kernel_rfl) trivial (fun _ => ?_)
      refine HT_take (i := 0) rfl (by kernel_rfl) (by decide) (by kernel_rfl) (by kernel_rfl) (fun _ _ _ h => h) (yieldsIf_of (.pointer (some ⟨g, 0, none⟩)) (by rfl) (fun w0 _ => by go_simp)) trivial ?_
      (try simp only [Act.put, List.setIfInBounds_toArray, List.set_cons_zero, List.set_cons_succ])
      refine HT_take (i := 1) rfl (by kernel_rfl) (by decide) (by kernel_rfl) (by kernel_rfl) (fun _ _ _ h => h) (yieldsIf_of (.pointer (some ⟨h, 0, none⟩)) (by rfl) (fun w0 _ => by go_simp)) trivial ?_
      (try simp only [Act.put, List.setIfInBounds_toArray, List.set_cons_zero, List.set_cons_succ])
      refine HT_take (i := 2) rfl (by kernel_rfl) (by decide) (by kernel_rfl) (by kernel_rfl) (fun _ _ _ h => h) (yieldsIf_of (.slice (some ⟨b, off, none⟩) len cap) (by rfl) (fun w0 _ => by go_simp)) trivial ?_
      (try simp only [Act.put, List.setIfInBounds_toArray, List.set_cons_zero, List.set_cons_succ])
      refine HT_take (i := 3) rfl (by kernel_rfl) (by decide) (by kernel_rfl) (by kernel_rfl) (fun _ _ _ h => h) (yieldsIf_of (.int .i64 (k : Int)) (by rfl) (fun w0 _ => by go_simp)) trivial ?_
      (try simp only [Act.put, List.setIfInBounds_toArray, List.set_cons_zero, List.set_cons_succ])
      refine HT_take (i := 4) rfl (by kernel_rfl) (by decide) (by kernel_rfl) (by kernel_rfl) (fun _ _ _ h => h) (yieldsIf_of (.pointer (some ⟨b, off + k * 4, none⟩)) (by rfl) (fun w0 _ => by go_simp)) trivial ?_
      (try simp only [Act.put, List.setIfInBounds_toArray, List.set_cons_zero, List.set_cons_succ])
      refine HT_one (i := 5) rfl (by decide) (by kernel_rfl) (fun K hK => ?_)
      rw [if_pos (by rfl)]
      refine wp_load_midA 28 _ rfl b (off + k * 4) rfl #[.int .u8 what, .int .u64 aoff, .int .u64 av, .int .i64 width] _ (show wr.drew.rangeAt b (off + k * 4) _ from hr.out) Try.underlying28 rfl (by kernel_rfl) ?_
      simp only [Act.put]
      refine hK.out _ _ trivial (fun _ => ?_)
      clear hK K
      (try simp only [Act.put, List.setIfInBounds_toArray, List.set_cons_zero, List.set_cons_succ])
      refine HT_one (i := 6) rfl (by decide) (by kernel_rfl) (fun K hK => ?_)
      go_simp
      go_at_call 19
      refine (both_any (hP.out.grow (Fr.refl [] wr).drew) hG.out.1 P.out.1 P.out.2.1 P.out.2.2.1 P.out.2.2.2.1 P.out.2.2.2.2.1 P.out.2.2.2.2.2 (by have := hG.out.2; omega)).mono ?_
      rintro e w1 ⟨rfl, hP1⟩
      replace hP1 := hid hP1
      clear hP
      have hu2 := hid (hG.out.1.act what aoff av width)
      have hsl2 := sent_act u what aoff av width
      have HG2 : Hid ((u.act what aoff av width).OK ∧ (u.act what aoff av width).sent.length ≤ k + 1) := ⟨hu2.out, by have := hG.out.2; omega⟩
      clear hsl2
      generalize u.act what aoff av width = u2 at *
      have cL := hid (pair_Level hP1.out hu2.out)
      have cR := hid (rlevel_any h hu2.out w1 hP1.out.2.1)
      have cW := hid (pair_Waiting hP1.out)
      have cD := hid (pair_Dump hP1.out hu2.out)
      have cE := hid fun (w3 : World) (p : Pair w w3 g h u2) => rdump_any h hu2.out w3 p.2.1
      have c9 : w1.cell? ⟨h, 9, none⟩ = some (.string (strOfNums u2.q)) := (blk_cell hP1.out.2.1 9).trans rfl
      have hsz : (strOfNums u2.q).size = u2.q.length := strOfNums_size _
      generalize strOfNums u2.q = sq at *
      generalize strOfNums u2.Dump = sd at *
      generalize u2.Level = lv at *
      generalize u2.q.length = n at *
      have q1 : (lv != lv) = false := bne_self_eq_false ..
      have q2 : ((n : Int) != (n : Int)) = false := bne_self_eq_false ..
      have q3 : (sd.toList == sd.toList) = true := beq_self_eq_true _
      go_simp
      refine hK.out _ _ trivial (fun _ => ?_)
      clear hK K
      refine HT_take (i := 7) rfl (by kernel_rfl) (by decide) (by kernel_rfl) (by kernel_rfl) (fun _ _ _ h => h) (yieldsIf_of (.bool false) (by rfl) (fun w0 _ => by go_simp)) trivial ?_
      (try simp only [Act.put, List.setIfInBounds_toArray, List.set_cons_zero, List.set_cons_succ])
      refine HT_take (i := 8) rfl (by kernel_rfl) (by decide) (by kernel_rfl) (by kernel_rfl) (fun _ _ _ h => h) (yieldsIf_of (.bool false) (by rfl) (fun w0 _ => by go_simp)) trivial ?_
      (try simp only [Act.put, List.setIfInBounds_toArray, List.set_cons_zero, List.set_cons_succ])
      refine HT_take (i := 9) rfl (by kernel_rfl) (by decide) (by kernel_rfl) (by kernel_rfl) (fun _ _ _ h => h) (yieldsIf_of (.pointer (some ⟨g, 0, none⟩)) (by rfl) (fun w0 _ => by go_simp)) trivial ?_
      (try simp only [Act.put, List.setIfInBounds_toArray, List.set_cons_zero, List.set_cons_succ])
      refine HT_take (i := 11) rfl (by kernel_rfl) (by decide) (by kernel_rfl) (by kernel_rfl) (fun _ _ _ h => h) (yieldsIf_of (.pointer (some ⟨h, 0, none⟩)) (by rfl) (fun w0 _ => by go_simp)) trivial ?_
      (try simp only [Act.put, List.setIfInBounds_toArray, List.set_cons_zero, List.set_cons_succ])
      refine HT_one (i := 10) rfl (by decide) (by kernel_rfl) (fun K hK => ?_)
      go_simp
      go_at_call 18
      refine (cL.out).mono ?_
      rintro e w2 ⟨rfl, rfl⟩
      go_simp
      refine hK.out _ _ trivial (fun _ => ?_)
      clear hK K
      refine HT_one (i := 12) rfl (by decide) (by kernel_rfl) (fun K hK => ?_)
      go_simp
      go_at_call 20
      refine (cR.out).mono ?_
      rintro e w2 ⟨rfl, rfl⟩
      go_simp
      refine hK.out _ _ trivial (fun _ => ?_)
      clear hK K
      refine HT_take (i := 13) rfl (by kernel_rfl) (by decide) (by kernel_rfl) (by kernel_rfl) (fun _ _ _ h => h) (yieldsIf_of (.bool false) (by rfl) (fun w0 _ => by go_simp)) trivial ?_
      (try simp only [Act.put, List.setIfInBounds_toArray, List.set_cons_zero, List.set_cons_succ])
      refine HT_take (i := 14) rfl (by kernel_rfl) (by decide) (by kernel_rfl) (by kernel_rfl) (fun _ _ _ h => h) (yieldsIf_of (.bool false) (by rfl) (fun w0 _ => by go_simp)) trivial ?_
      (try simp only [Act.put, List.setIfInBounds_toArray, List.set_cons_zero, List.set_cons_succ])
      refine HT_take (i := 15) rfl (by kernel_rfl) (by decide) (by kernel_rfl) (by kernel_rfl) (fun _ _ _ h => h) (yieldsIf_of (.bool false) (by rfl) (fun w0 _ => by go_simp)) trivial ?_
      (try simp only [Act.put, List.setIfInBounds_toArray, List.set_cons_zero, List.set_cons_succ])
      refine HT_take (i := 16) rfl (by kernel_rfl) (by decide) (by kernel_rfl) (by kernel_rfl) (fun _ _ _ h => h) (yieldsIf_of (.pointer (some ⟨g, 0, none⟩)) (by rfl) (fun w0 _ => by go_simp)) trivial ?_
      (try simp only [Act.put, List.setIfInBounds_toArray, List.set_cons_zero, List.set_cons_succ])
      refine HT_take (i := 18) rfl (by kernel_rfl) (by decide) (by kernel_rfl) (by kernel_rfl) (fun _ _ _ h => h) (yieldsIf_of (.pointer (some ⟨h, 0, none⟩)) (by rfl) (fun w0 _ => by go_simp)) trivial ?_
      (try simp only [Act.put, List.setIfInBounds_toArray, List.set_cons_zero, List.set_cons_succ])
      refine HT_take (i := 19) rfl (by kernel_rfl) (by decide) (by kernel_rfl) (by kernel_rfl) (fun _ _ _ h => h) (yieldsIf_of (.pointer (some ⟨h, 0, none⟩)) (by rfl) (fun w0 _ => by go_simp)) trivial ?_
      (try simp only [Act.put, List.setIfInBounds_toArray, List.set_cons_zero, List.set_cons_succ])
      refine HT_take (i := 20) rfl (by kernel_rfl) (by decide) (by kernel_rfl) (by kernel_rfl) (fun _ _ _ h => h) (yieldsIf_of (.pointer (some ⟨h, 9, none⟩)) (by rfl) (fun w0 _ => by go_simp)) trivial ?_
      (try simp only [Act.put, List.setIfInBounds_toArray, List.set_cons_zero, List.set_cons_succ])
      refine HT_ready (rs := [17, 21]) (by kernel_rfl) (by simp) ?_
      refine AllHT.cons rfl (by decide) (fun K hK => ?_) (AllHT.cons rfl (by decide) (fun K hK => ?_) AllHT.nil)
      · skip
        go_simp
        go_at_call 10
        refine (cW.out).mono ?_
        rintro e w2 ⟨rfl, rfl⟩
        go_simp
        refine hK.out _ _ trivial (fun _ => ?_)
        clear hK K
        refine HT_one (i := 21) rfl (by decide) (by kernel_rfl) (fun K hK => ?_)
        go_simp
        refine hK.out _ _ trivial (fun _ => ?_)
        clear hK K
        refine HT_take (i := 22) rfl (by kernel_rfl) (by decide) (by kernel_rfl) (by kernel_rfl) (fun _ _ _ h => h) (yieldsIf_of (.int .i64 (n : Int)) (by rfl) (fun w0 _ => by go_simp)) trivial ?_
        (try simp only [Act.put, List.setIfInBounds_toArray, List.set_cons_zero, List.set_cons_succ])
        refine HT_take (i := 23) rfl (by kernel_rfl) (by decide) (by kernel_rfl) (by kernel_rfl) (fun _ _ _ h => h) (yieldsIf_of (.bool false) (by rfl) (fun w0 _ => by go_simp)) trivial ?_
        (try simp only [Act.put, List.setIfInBounds_toArray, List.set_cons_zero, List.set_cons_succ])
        refine HT_take (i := 24) rfl (by kernel_rfl) (by decide) (by kernel_rfl) (by kernel_rfl) (fun _ _ _ h => h) (yieldsIf_of (.bool false) (by rfl) (fun w0 _ => by go_simp)) trivial ?_
        (try simp only [Act.put, List.setIfInBounds_toArray, List.set_cons_zero, List.set_cons_succ])
        refine HT_take (i := 25) rfl (by kernel_rfl) (by decide) (by kernel_rfl) (by kernel_rfl) (fun _ _ _ h => h) (yieldsIf_of (.bool false) (by rfl) (fun w0 _ => by go_simp)) trivial ?_
        (try simp only [Act.put, List.setIfInBounds_toArray, List.set_cons_zero, List.set_cons_succ])
        refine HT_take (i := 26) rfl (by kernel_rfl) (by decide) (by kernel_rfl) (by kernel_rfl) (fun _ _ _ h => h) (yieldsIf_of (.pointer (some ⟨g, 0, none⟩)) (by rfl) (fun w0 _ => by go_simp)) trivial ?_
        (try simp only [Act.put, List.setIfInBounds_toArray, List.set_cons_zero, List.set_cons_succ])
        refine HT_take (i := 28) rfl (by kernel_rfl) (by decide) (by kernel_rfl) (by kernel_rfl) (fun _ _ _ h => h) (yieldsIf_of (.pointer (some ⟨h, 0, none⟩)) (by rfl) (fun w0 _ => by go_simp)) trivial ?_
        (try simp only [Act.put, List.setIfInBounds_toArray, List.set_cons_zero, List.set_cons_succ])
        refine HT_one (i := 27) rfl (by decide) (by kernel_rfl) (fun K hK => ?_)
        go_simp
        go_at_call 17
        refine (cD.out).mono ?_
        rintro e w2 ⟨rfl, hP2⟩
        replace hP2 := hid hP2
        go_simp
        refine hK.out _ _ trivial (fun _ => ?_)
        clear hK K
        refine HT_one (i := 29) rfl (by decide) (by kernel_rfl) (fun K hK => ?_)
        go_simp
        go_at_call 21
        refine (cE.out _ hP2.out).mono ?_
        rintro e w3 ⟨rfl, hd3⟩
        have hP3 := hid (hP2.out.grow hd3)
        clear hd3
        go_simp
        refine hK.out _ _ trivial (fun _ => ?_)
        clear hK K
        refine HT_take (i := 30) rfl (by kernel_rfl) (by decide) (by kernel_rfl) (by kernel_rfl) (fun _ _ _ h => h) (yieldsIf_of (.bool false) (by rfl) (fun w0 _ => by go_simp)) trivial ?_
        (try simp only [Act.put, List.setIfInBounds_toArray, List.set_cons_zero, List.set_cons_succ])
        refine HT_done (by kernel_rfl) ?_
        simp only [List.drop_succ_cons, List.drop_zero]
        clear c9 q1 q2 q3 hsz
        go_wp2
        go_roundw
        case rel => exact ⟨k + 1, u2, by omega, by go_num, HG2, hP3⟩
        case measure => simp [intOf]; omega
      · skip
        go_simp
        refine hK.out _ _ trivial (fun _ => ?_)
        clear hK K
        refine HT_take (i := 22) rfl (by kernel_rfl) (by decide) (by kernel_rfl) (by kernel_rfl) (fun _ _ _ h => h) (yieldsIf_of (.int .i64 (n : Int)) (by rfl) (fun w0 _ => by go_simp)) trivial ?_
        (try simp only [Act.put, List.setIfInBounds_toArray, List.set_cons_zero, List.set_cons_succ])
        refine HT_one (i := 17) rfl (by decide) (by kernel_rfl) (fun K hK => ?_)
        go_simp
        go_at_call 10
        refine (cW.out).mono ?_
        rintro e w2 ⟨rfl, rfl⟩
        go_simp
        refine hK.out _ _ trivial (fun _ => ?_)
        clear hK K
        refine HT_take (i := 23) rfl (by kernel_rfl) (by decide) (by kernel_rfl) (by kernel_rfl) (fun _ _ _ h => h) (yieldsIf_of (.bool false) (by rfl) (fun w0 _ => by go_simp)) trivial ?_
        (try simp only [Act.put, List.setIfInBounds_toArray, List.set_cons_zero, List.set_cons_succ])
        refine HT_take (i := 24) rfl (by kernel_rfl) (by decide) (by kernel_rfl) (by kernel_rfl) (fun _ _ _ h => h) (yieldsIf_of (.bool false) (by rfl) (fun w0 _ => by go_simp)) trivial ?_
        (try simp only [Act.put, List.setIfInBounds_toArray, List.set_cons_zero, List.set_cons_succ])
        refine HT_take (i := 25) rfl (by kernel_rfl) (by decide) (by kernel_rfl) (by kernel_rfl) (fun _ _ _ h => h) (yieldsIf_of (.bool false) (by rfl) (fun w0 _ => by go_simp)) trivial ?_
        (try simp only [Act.put, List.setIfInBounds_toArray, List.set_cons_zero, List.set_cons_succ])
        refine HT_take (i := 26) rfl (by kernel_rfl) (by decide) (by kernel_rfl) (by kernel_rfl) (fun _ _ _ h => h) (yieldsIf_of (.pointer (some ⟨g, 0, none⟩)) (by rfl) (fun w0 _ => by go_simp)) trivial ?_
        (try simp only [Act.put, List.setIfInBounds_toArray, List.set_cons_zero, List.set_cons_succ])
        refine HT_take (i := 28) rfl (by kernel_rfl) (by decide) (by kernel_rfl) (by kernel_rfl) (fun _ _ _ h => h) (yieldsIf_of (.pointer (some ⟨h, 0, none⟩)) (by rfl) (fun w0 _ => by go_simp)) trivial ?_
        (try simp only [Act.put, List.setIfInBounds_toArray, List.set_cons_zero, List.set_cons_succ])
        refine HT_one (i := 27) rfl (by decide) (by kernel_rfl) (fun K hK => ?_)
        go_simp
        go_at_call 17
        refine (cD.out).mono ?_
        rintro e w2 ⟨rfl, hP2⟩
        replace hP2 := hid hP2
        go_simp
        refine hK.out _ _ trivial (fun _ => ?_)
        clear hK K
        refine HT_one (i := 29) rfl (by decide) (by kernel_rfl) (fun K hK => ?_)
        go_simp
        go_at_call 21
        refine (cE.out _ hP2.out).mono ?_
        rintro e w3 ⟨rfl, hd3⟩
        have hP3 := hid (hP2.out.grow hd3)
        clear hd3
        go_simp
        refine hK.out _ _ trivial (fun _ => ?_)
        clear hK K
        refine HT_take (i := 30) rfl (by kernel_rfl) (by decide) (by kernel_rfl) (by kernel_rfl) (fun _ _ _ h => h) (yieldsIf_of (.bool false) (by rfl) (fun w0 _ => by go_simp)) trivial ?_
        (try simp only [Act.put, List.setIfInBounds_toArray, List.set_cons_zero, List.set_cons_succ])
        refine HT_done (by kernel_rfl) ?_
        simp only [List.drop_succ_cons, List.drop_zero]
        clear c9 q1 q2 q3 hsz
        go_wp2
        go_roundw
        case rel => exact ⟨k + 1, u2, by omega, by go_num, HG2, hP3⟩
        case measure => simp [intOf]; omega
    · obtain rfl : k = len := by omega
      have c1 := hid (pair_Take hP.out hG.out.1)
      have c2 := hid fun (w3 : World) (hb : w3.heap[h]? = some (.cells (clR u) 42)) => rtake_any h u w3 hb
      have hbs : w.heap.size ≤ h := hP.out.2.2
      go_upto_region 12 with (go_at_call 14; (with_reducible refine (c1.out).mono ?_); rintro e w2 ⟨rfl, hb2, hf2⟩)
      have hb2 := hid hb2
      have hf2 := hid hf2
      have c2 : Hid (Calls Try.prog 22 #[.pointer (some ⟨h, 0, none⟩)] w2 fun e w' => e = .returned (.string (strOfNums u.sent)) ∧ Fr [] w w') := (c2.out w2 hb2.out).mono fun e w' ⟨a, _, b⟩ => ⟨a, hf2.out.step b fun j hj => .inr (by rw [List.mem_singleton.1 hj]; exact hbs)⟩
      generalize strOfNums u.sent = ss at *
      have q3 : (ss.toList == ss.toList) = true := beq_self_eq_true _
      go_wp2_with (first | (go_at_call 22; (with_reducible refine (c2.out).mono ?_); rintro e w3 ⟨rfl, hf3⟩; replace hf3 := hid hf3) | (go_at_call 8; (with_reducible refine (awake_any _).mono ?_); rintro e w6 ⟨rfl, hd⟩; replace hf3 := hid (hf3.out.trans hd)))
      go_ret
      exact ⟨rfl, hf3.out⟩
end Go.Proofs.Ytobaniebnejjiaa.U
namespace Go.Proofs.Ytobaniebnejjiaa
open U Go.RowKit
theorem walk_UartPlays (a0 : Option Addr) (len0 cap0 : Nat) (c0 : Nat → Nat → Value) (w : World) (w0 : SliceIn w [.num .u8, .num .u64, .num .u64, .num .i64] a0 len0 c0) : Calls Try.prog 5 #[.slice a0 len0 cap0] w fun e w' => e = .returned (.bool true) ∧ Below w.heap.size w w' := by
  obtain ⟨L, hl, hL⟩ := acts_of w0
  have key : Calls Try.prog 5 #[.slice a0 len0 cap0] w fun e w' => e = .returned (.bool true) ∧ Fr [] w w' := by
    rcases Nat.lt_or_ge 120 len0 with h | h
    · exact plays_long a0 len0 cap0 w h
    · exact plays_main a0 cap0 L len0 hl w h hL
  exact key.mono fun _ _ ⟨h1, h2⟩ => ⟨h1, h2.below (Nat.le_refl _) (by simp)⟩
end Go.Proofs.Ytobaniebnejjiaa
