/- A serial line: reads and writes at its own block. -/
import Derived.Test.YtobaniebnejjiaaB
import Derived.OwnWalk
import Derived.Maps.AppendAt
namespace Go.Proofs.Ytobaniebnejjiaa.U
open Go.RowKit
set_option linter.all false
theorem info_u8 : (Try.prog.info? 5).map (fun i => (i.zero, i.size, i.bytes)) = some (some (.int .u8 0), 1, 1) := by kernel_rfl
/-- bytes as cells -/
def bys (l : List Int) : List Value := l.map (Value.int .u8)
theorem bys_len (l : List Int) : (bys l).length = l.length := by simp [bys]
theorem bys_app (l : List Int) (b : Int) : bys (l ++ [b]) = bys l ++ [.int .u8 b] := by simp [bys]
theorem bys_get (l : List Int) (i : Nat) : (bys l)[i]? = l[i]?.map (Value.int .u8) := by simp [bys]
theorem bys_one (l : List Int) : ∀ u ∈ bys l, u.oneCell' = true := by intro u hu; obtain ⟨x, _, rfl⟩ := List.mem_map.1 hu; rfl
theorem owns_fr {T : List Nat} {w w' : World} {v : Value} {n : Nat} {xs : List Value} (h : w.ownsRow 0 5 1 v n xs) (hf : Fr T w w') (hT : ∀ k, v.ownBlock = some k → k ∉ T) : w'.ownsRow 0 5 1 v n xs := by
  refine ⟨h.1, ?_⟩
  rcases h.2 with hn | ⟨g, cap, cur, rfl, hb, hgg, rest⟩
  · exact .inl hn
  · exact .inr ⟨g, cap, cur, rfl, hb, hf.keeps hgg (hT g rfl), rest⟩
theorem fr_grown {w w' : World} {row : Option Nat} (h : w.grownBy w' row) : Fr row.toList w w' := ⟨h.os, h.tape, h.output, h.size, fun k hk hs => h.block k hk (fun e => hs (by cases row <;> simp_all))⟩
/-- one byte behind a row of one's own -/
theorem run_send (w : World) (v : Value) (l : List Int) (hown : w.ownsRow 0 5 1 v l.length (bys l)) (hl : l.length ≤ 1000000) (ad : Addr) (c : Nat) (b : Int) (hnews : ∀ j u, [Value.int .u8 b][j]? = some u → w.cell? (ad.add j) = some u) :
    ∃ v' w', (Builtin.append_ #[32, 32] 32 #[v, .slice (some ad) 1 c]).run Try.prog w = .ok v' w' ∧ w'.ownsRow 0 5 1 v' (l ++ [b]).length (bys (l ++ [b])) ∧ Fr v.ownBlock.toList w w' ∧ (v'.ownBlock = v.ownBlock ∨ v'.ownBlock = some w.heap.size) := by
  obtain ⟨i0, hi, hz0, hz1, hz2⟩ := info_parts info_u8
  have h1 : ∀ u ∈ [Value.int .u8 b], u.oneCell' = true := by intro u hu; simp at hu; subst hu; rfl
  obtain ⟨v', w', hr, h2, h3, -⟩ := run_append_own (P := Try.prog) w 0 32 32 5 i0 (.int .u8 0) 1 1 Try.underlying32 hi hz0 hz1 hz2 rfl (by decide) v l.length (bys l) hown ad 1 c [.int .u8 b] rfl hnews h1 (by unfold maxLen; omega) (by omega) (Nat.zero_le _)
  refine ⟨v', w', hr, ?_, fr_grown h3, ?_⟩
  · rw [bys_app]; simpa using h2
  rcases hown.2 with ⟨rfl, hn⟩ | ⟨g, cap, cur, rfl, hbg, hg, hnc, hcm, hcs, htake⟩
  · have hr2 := run_append_nil (P := Try.prog) w 32 32 5 i0 (.int .u8 0) Try.underlying32 hi hz0 ad 1 c [.int .u8 b] (by rw [hz1]; rfl) hnews (by decide) (by decide) (by rw [hz2]; decide)
    rw [hr] at hr2
    injection hr2 with e1 e2
    exact .inr (by rw [e1]; rfl)
  · by_cases hroom : l.length + 1 ≤ cap
    · have hr2 := run_append_room (P := Try.prog) w 32 32 5 i0 Try.underlying32 hi g l.length cap cur hg ad 1 c [.int .u8 b] (by rw [hz1]; rfl) hnews h1 hroom (by rw [hz1, hcs]; simpa using hroom)
      rw [hr] at hr2
      injection hr2 with e1 e2
      exact .inl (by rw [e1]; rfl)
    · have holds : ∀ j u, (bys l)[j]? = some u → w.cell? ((⟨g, 0, none⟩ : Addr).add j) = some u := hown.cells (g := g) rfl
      have hr2 := run_append_grow (P := Try.prog) w 32 32 5 i0 (.int .u8 0) Try.underlying32 hi hz0 ⟨g, 0, none⟩ l.length cap (bys l) (by rw [hz1, bys_len]; omega) holds ad 1 c [.int .u8 b] (by rw [hz1]; rfl) hnews (by omega) (by omega) (by rw [hz2]; exact growslice_fits (by omega) (by omega))
      rw [hr] at hr2
      injection hr2 with e1 e2
      exact .inr (by rw [e1]; rfl)
theorem wpList_send {ops : Array Oper} {rest : List Oper} {o : Oper} {a : Act} {w : World} {Q : Exit → Act → World → Prop} (hgd : o.guard = none) (s x : Operand)
    (ho : o.op = .call { callee := .builtin .append, args := #[s, x], argTypes := #[32, 32] }) (hty : o.type = 32) (v : Value) (l : List Int) (hs : a.eval s = v) (hown : w.ownsRow 0 5 1 v l.length (bys l)) (hl : l.length ≤ 1000000) (ad : Addr) (c : Nat) (b : Int) (hx : a.eval x = .slice (some ad) 1 c) (hnews : ∀ j u, [Value.int .u8 b][j]? = some u → w.cell? (ad.add j) = some u)
    (h : ∀ p n c w', w'.ownsRow 0 5 1 (.slice p n c) (l ++ [b]).length (bys (l ++ [b])) → Fr v.ownBlock.toList w w' → ((Value.slice p n c).ownBlock = v.ownBlock ∨ (Value.slice p n c).ownBlock = some w.heap.size) → wpList Try.prog ops Q rest (a.put o.dst (.slice p n c)) w') : wpList Try.prog ops Q (o :: rest) a w :=
  wpList_plain hgd fun _ hK => by
    obtain ⟨v', w', hr, h2, h3, h4⟩ := run_send w v l hown hl ad c b hnews
    unfold Oper.wp execOp
    simp only [ho, hty, resolve, invoke, builtin, Sem.run_bind, Sem.run_pure, Result.andThen_ok, List.map_toArray, List.map_cons, List.map_nil, hs, hx, hr]
    rcases h2.2 with ⟨e, _⟩ | ⟨g', cap, cur, e, _⟩
    · subst e; exact hK _ _ (h _ _ _ w' h2 h3 h4)
    · subst e; exact hK _ _ (h _ _ _ w' h2 h3 h4)
/-- a slice that holds so many bytes, which nobody writes -/
def QRow (w : World) (v : Value) (l : List Int) : Prop := ∃ p cap, v = .slice p l.length cap ∧ l.length ≤ cap ∧ cap ≤ maxLen ∧ (p = none → cap = 0) ∧ ∀ i, i < l.length → ∃ b o, p = some ⟨b, o, none⟩ ∧ b < w.heap.size ∧ w.cell? ⟨b, o + i, none⟩ = some (.int .u8 (l.getD i 0))
theorem QRow.SlN {w : World} {v : Value} {l : List Int} (h : QRow w v l) : SlN v l.length := by obtain ⟨p, cap, h, -⟩ := h; exact ⟨p, cap, h⟩
theorem QRow.nil (w : World) : QRow w (.slice none 0 0) [] := ⟨none, 0, rfl, Nat.le_refl _, Nat.zero_le _, fun _ => rfl, fun i hi => by simp at hi⟩
theorem QRow.keep {T : List Nat} {w w' : World} {v : Value} {l : List Int} (h : QRow w v l) (hf : Fr T w w') (hT : l ≠ [] → ∀ k, v.ownBlock = some k → k ∉ T) : QRow w' v l := by
  obtain ⟨p, cap, rfl, h1, h2, h3, h4⟩ := h
  refine ⟨p, cap, rfl, h1, h2, h3, fun i hi => ?_⟩
  obtain ⟨b, o, rfl, hb, hc⟩ := h4 i hi
  refine ⟨b, o, rfl, Nat.lt_of_lt_of_le hb hf.size, ?_⟩
  rw [World.cell?_of_block (w := w) (a := ⟨b, o + i, none⟩) (hf.block b hb (hT (by intro e; subst e; simp at hi) b rfl))]
  exact hc
set_option maxRecDepth 100000 in
set_option maxHeartbeats 4000000 in
theorem read_0t (g : Nat) (x : Int) (Q : World → Prop) (w : World) (h1 : Hid (∀ w1, w1 = w → Calls Try.prog 35 #[.pointer (some ⟨g, 0, none⟩)] w1 fun e w' => e = .returned (.bool true) ∧ w1 = w')) (hc : w.cell? ⟨g, 6, none⟩ = some (.int .u8 x)) : Calls Try.prog 25 #[.pointer (some ⟨g, 0, none⟩), .int .u64 0] w fun e w' => e = .returned (.int .u8 x) ∧ w = w' := by
  go_enter Try.func25, Try.ntmps25
  go_wp2_with (first | (go_at_call 35; (with_reducible refine (h1.out _ rfl).mono ?_); rintro e w1 ⟨rfl, rfl⟩))
  go_ret
  exact ⟨rfl, rfl⟩
set_option maxRecDepth 100000 in
set_option maxHeartbeats 4000000 in
theorem read_0f (g : Nat) (x : Int) (Q : World → Prop) (w : World) (h1 : Hid (∀ w1, w1 = w → Calls Try.prog 35 #[.pointer (some ⟨g, 0, none⟩)] w1 fun e w' => e = .returned (.bool false) ∧ w1 = w')) (h2 : Hid (∀ w1, w1 = w → Calls Try.prog 36 #[.pointer (some ⟨g, 0, none⟩)] w1 fun e w' => e = .returned (.int .u8 x) ∧ Q w'))  : Calls Try.prog 25 #[.pointer (some ⟨g, 0, none⟩), .int .u64 0] w fun e w' => e = .returned (.int .u8 x) ∧ Q w' := by
  go_enter Try.func25, Try.ntmps25
  go_wp2_with (first | (go_at_call 35; (with_reducible refine (h1.out _ rfl).mono ?_); rintro e w1 ⟨rfl, rfl⟩) | (go_at_call 36; (with_reducible refine (h2.out _ rfl).mono ?_); rintro e w1 ⟨rfl, hq⟩))
  go_ret
  exact ⟨rfl, hq⟩
set_option maxRecDepth 100000 in
set_option maxHeartbeats 4000000 in
theorem read_1t (g : Nat) (x : Int) (Q : World → Prop) (w : World) (h1 : Hid (∀ w1, w1 = w → Calls Try.prog 35 #[.pointer (some ⟨g, 0, none⟩)] w1 fun e w' => e = .returned (.bool true) ∧ w1 = w')) (hc : w.cell? ⟨g, 7, none⟩ = some (.int .u8 x)) : Calls Try.prog 25 #[.pointer (some ⟨g, 0, none⟩), .int .u64 1] w fun e w' => e = .returned (.int .u8 x) ∧ w = w' := by
  go_enter Try.func25, Try.ntmps25
  go_wp2_with (first | (go_at_call 35; (with_reducible refine (h1.out _ rfl).mono ?_); rintro e w1 ⟨rfl, rfl⟩))
  go_ret
  exact ⟨rfl, rfl⟩
set_option maxRecDepth 100000 in
set_option maxHeartbeats 4000000 in
theorem read_1f (g : Nat) (x : Int) (Q : World → Prop) (w : World) (h1 : Hid (∀ w1, w1 = w → Calls Try.prog 35 #[.pointer (some ⟨g, 0, none⟩)] w1 fun e w' => e = .returned (.bool false) ∧ w1 = w')) (hc : w.cell? ⟨g, 2, none⟩ = some (.int .u8 x)) : Calls Try.prog 25 #[.pointer (some ⟨g, 0, none⟩), .int .u64 1] w fun e w' => e = .returned (.int .u8 x) ∧ w = w' := by
  go_enter Try.func25, Try.ntmps25
  go_wp2_with (first | (go_at_call 35; (with_reducible refine (h1.out _ rfl).mono ?_); rintro e w1 ⟨rfl, rfl⟩))
  go_ret
  exact ⟨rfl, rfl⟩
set_option maxRecDepth 100000 in
set_option maxHeartbeats 4000000 in
theorem read_2 (g : Nat) (x : Int) (Q : World → Prop) (w : World) (h2 : Hid (∀ w1, w1 = w → Calls Try.prog 37 #[.pointer (some ⟨g, 0, none⟩)] w1 fun e w' => e = .returned (.int .u8 x) ∧ Q w'))  : Calls Try.prog 25 #[.pointer (some ⟨g, 0, none⟩), .int .u64 2] w fun e w' => e = .returned (.int .u8 x) ∧ Q w' := by
  go_enter Try.func25, Try.ntmps25
  go_wp2_with (first | (go_at_call 37; (with_reducible refine (h2.out _ rfl).mono ?_); rintro e w1 ⟨rfl, hq⟩))
  go_ret
  exact ⟨rfl, hq⟩
set_option maxRecDepth 100000 in
set_option maxHeartbeats 4000000 in
theorem read_3 (g : Nat) (x : Int) (Q : World → Prop) (w : World) (hc : w.cell? ⟨g, 3, none⟩ = some (.int .u8 x)) : Calls Try.prog 25 #[.pointer (some ⟨g, 0, none⟩), .int .u64 3] w fun e w' => e = .returned (.int .u8 x) ∧ w = w' := by
  go_enter Try.func25, Try.ntmps25
  go_wp2
  go_ret
  exact ⟨rfl, rfl⟩
set_option maxRecDepth 100000 in
set_option maxHeartbeats 4000000 in
theorem read_4 (g : Nat) (x : Int) (Q : World → Prop) (w : World) (hc : w.cell? ⟨g, 4, none⟩ = some (.int .u8 x)) : Calls Try.prog 25 #[.pointer (some ⟨g, 0, none⟩), .int .u64 4] w fun e w' => e = .returned (.int .u8 x) ∧ w = w' := by
  go_enter Try.func25, Try.ntmps25
  go_wp2
  go_ret
  exact ⟨rfl, rfl⟩
set_option maxRecDepth 100000 in
set_option maxHeartbeats 4000000 in
theorem read_5 (g : Nat) (x : Int) (Q : World → Prop) (w : World) (h2 : Hid (∀ w1, w1 = w → Calls Try.prog 38 #[.pointer (some ⟨g, 0, none⟩)] w1 fun e w' => e = .returned (.int .u8 x) ∧ Q w'))  : Calls Try.prog 25 #[.pointer (some ⟨g, 0, none⟩), .int .u64 5] w fun e w' => e = .returned (.int .u8 x) ∧ Q w' := by
  go_enter Try.func25, Try.ntmps25
  go_wp2_with (first | (go_at_call 38; (with_reducible refine (h2.out _ rfl).mono ?_); rintro e w1 ⟨rfl, hq⟩))
  go_ret
  exact ⟨rfl, hq⟩
set_option maxRecDepth 100000 in
set_option maxHeartbeats 4000000 in
theorem read_6 (g : Nat) (x : Int) (Q : World → Prop) (w : World)  : Calls Try.prog 25 #[.pointer (some ⟨g, 0, none⟩), .int .u64 6] w fun e w' => e = .returned (.int .u8 0) ∧ w = w' := by
  go_enter Try.func25, Try.ntmps25
  go_wp2
  go_ret
  exact ⟨rfl, rfl⟩
set_option maxRecDepth 100000 in
set_option maxHeartbeats 4000000 in
theorem read_7 (g : Nat) (x : Int) (Q : World → Prop) (w : World) (hc : w.cell? ⟨g, 5, none⟩ = some (.int .u8 x)) : Calls Try.prog 25 #[.pointer (some ⟨g, 0, none⟩), .int .u64 7] w fun e w' => e = .returned (.int .u8 x) ∧ w = w' := by
  go_enter Try.func25, Try.ntmps25
  go_wp2
  go_ret
  exact ⟨rfl, rfl⟩
set_option maxRecDepth 100000 in
set_option maxHeartbeats 4000000 in
theorem write_0t (g : Nat) (vs vq : Value) (u : St) (b : Int) (Q : World → Prop) (w : World) (hb0 : Byte b) (h1 : Hid (∀ w1, w1 = w → Calls Try.prog 35 #[.pointer (some ⟨g, 0, none⟩)] w1 fun e w' => e = .returned (.bool true) ∧ w1 = w')) (hb : w.heap[g]? = some (.cells (clU vs vq u) 48)) : Calls Try.prog 26 #[.pointer (some ⟨g, 0, none⟩), .int .u64 0, .int .u8 b] w fun e w' => e = .returned (.tuple #[]) ∧ w'.heap[g]? = some (.cells (clU vs vq { u with dll := b }) 48) ∧ Fr [g] w w' := by
  have c6 : w.cell? ⟨g, 6, none⟩ = some (.int .u8 u.dll) := by rw [blk_cell hb]; rfl
  have f6 : w.frozen? ⟨g, 6, none⟩ = false := blk_free hb 6
  have HB := hid hb
  clear hb
  go_enter Try.func26, Try.ntmps26
  go_wp2_with (first | (go_at_call 35; (with_reducible refine (h1.out _ rfl).mono ?_); rintro e w1 ⟨rfl, rfl⟩))
  go_end0
  exact ⟨rfl, blk_set HB.out 6 _, (Fr.refl _ _).setCell (.inl (by simp)) _⟩
set_option maxRecDepth 100000 in
set_option maxHeartbeats 4000000 in
theorem write_1t (g : Nat) (vs vq : Value) (u : St) (b : Int) (Q : World → Prop) (w : World) (hb0 : Byte b) (h1 : Hid (∀ w1, w1 = w → Calls Try.prog 35 #[.pointer (some ⟨g, 0, none⟩)] w1 fun e w' => e = .returned (.bool true) ∧ w1 = w')) (hb : w.heap[g]? = some (.cells (clU vs vq u) 48)) : Calls Try.prog 26 #[.pointer (some ⟨g, 0, none⟩), .int .u64 1, .int .u8 b] w fun e w' => e = .returned (.tuple #[]) ∧ w'.heap[g]? = some (.cells (clU vs vq { u with dlm := b }) 48) ∧ Fr [g] w w' := by
  have c7 : w.cell? ⟨g, 7, none⟩ = some (.int .u8 u.dlm) := by rw [blk_cell hb]; rfl
  have f7 : w.frozen? ⟨g, 7, none⟩ = false := blk_free hb 7
  have HB := hid hb
  clear hb
  go_enter Try.func26, Try.ntmps26
  go_wp2_with (first | (go_at_call 35; (with_reducible refine (h1.out _ rfl).mono ?_); rintro e w1 ⟨rfl, rfl⟩))
  go_end0
  exact ⟨rfl, blk_set HB.out 7 _, (Fr.refl _ _).setCell (.inl (by simp)) _⟩
set_option maxRecDepth 100000 in
set_option maxHeartbeats 4000000 in
theorem write_1f (g : Nat) (vs vq : Value) (u : St) (b : Int) (Q : World → Prop) (w : World) (hb0 : Byte b) (h1 : Hid (∀ w1, w1 = w → Calls Try.prog 35 #[.pointer (some ⟨g, 0, none⟩)] w1 fun e w' => e = .returned (.bool false) ∧ w1 = w')) (h2 : Hid (∀ w1, w1 = w → Calls Try.prog 39 #[.pointer (some ⟨g, 0, none⟩), .int .u8 b] w1 fun e w' => e = .returned (.tuple #[]) ∧ Q w'))  : Calls Try.prog 26 #[.pointer (some ⟨g, 0, none⟩), .int .u64 1, .int .u8 b] w fun e w' => e = .returned (.tuple #[]) ∧ Q w' := by
  go_enter Try.func26, Try.ntmps26
  go_wp2_with (first | (go_at_call 35; (with_reducible refine (h1.out _ rfl).mono ?_); rintro e w1 ⟨rfl, rfl⟩) | (go_at_call 39; (with_reducible refine (h2.out _ rfl).mono ?_); rintro e w1 ⟨rfl, hq⟩))
  (try simp only [Exit.inBlock, Exit.then])
  refine bodyPost_ret (results_none rfl _ _ _) rfl ?_
  exact ⟨rfl, hq⟩
set_option maxRecDepth 100000 in
set_option maxHeartbeats 4000000 in
theorem write_2 (g : Nat) (vs vq : Value) (u : St) (b : Int) (Q : World → Prop) (w : World) (hb0 : Byte b) (h2 : Hid (∀ w1, w1 = w → Calls Try.prog 40 #[.pointer (some ⟨g, 0, none⟩), .int .u8 b] w1 fun e w' => e = .returned (.tuple #[]) ∧ Q w'))  : Calls Try.prog 26 #[.pointer (some ⟨g, 0, none⟩), .int .u64 2, .int .u8 b] w fun e w' => e = .returned (.tuple #[]) ∧ Q w' := by
  go_enter Try.func26, Try.ntmps26
  go_wp2_with (first | (go_at_call 40; (with_reducible refine (h2.out _ rfl).mono ?_); rintro e w1 ⟨rfl, hq⟩))
  go_end0
  exact ⟨rfl, hq⟩
set_option maxRecDepth 100000 in
set_option maxHeartbeats 4000000 in
theorem write_3 (g : Nat) (vs vq : Value) (u : St) (b : Int) (Q : World → Prop) (w : World) (hb0 : Byte b) (hb : w.heap[g]? = some (.cells (clU vs vq u) 48)) : Calls Try.prog 26 #[.pointer (some ⟨g, 0, none⟩), .int .u64 3, .int .u8 b] w fun e w' => e = .returned (.tuple #[]) ∧ w'.heap[g]? = some (.cells (clU vs vq { u with lcr := b }) 48) ∧ Fr [g] w w' := by
  have c3 : w.cell? ⟨g, 3, none⟩ = some (.int .u8 u.lcr) := by rw [blk_cell hb]; rfl
  have f3 : w.frozen? ⟨g, 3, none⟩ = false := blk_free hb 3
  have HB := hid hb
  clear hb
  go_enter Try.func26, Try.ntmps26
  go_wp2
  go_end0
  exact ⟨rfl, blk_set HB.out 3 _, (Fr.refl _ _).setCell (.inl (by simp)) _⟩
set_option maxRecDepth 100000 in
set_option maxHeartbeats 4000000 in
theorem write_4 (g : Nat) (vs vq : Value) (u : St) (b : Int) (Q : World → Prop) (w : World) (hb0 : Byte b) (hv : bits .and .u8 b 31 = b % 32) (hb : w.heap[g]? = some (.cells (clU vs vq u) 48)) : Calls Try.prog 26 #[.pointer (some ⟨g, 0, none⟩), .int .u64 4, .int .u8 b] w fun e w' => e = .returned (.tuple #[]) ∧ w'.heap[g]? = some (.cells (clU vs vq { u with mcr := b % 32 }) 48) ∧ Fr [g] w w' := by
  have c4 : w.cell? ⟨g, 4, none⟩ = some (.int .u8 u.mcr) := by rw [blk_cell hb]; rfl
  have f4 : w.frozen? ⟨g, 4, none⟩ = false := blk_free hb 4
  have HB := hid hb
  clear hb
  go_enter Try.func26, Try.ntmps26
  go_wp2
  go_end0
  exact ⟨rfl, blk_set HB.out 4 _, (Fr.refl _ _).setCell (.inl (by simp)) _⟩
set_option maxRecDepth 100000 in
set_option maxHeartbeats 4000000 in
theorem write_5 (g : Nat) (vs vq : Value) (u : St) (b : Int) (Q : World → Prop) (w : World) (hb0 : Byte b)  : Calls Try.prog 26 #[.pointer (some ⟨g, 0, none⟩), .int .u64 5, .int .u8 b] w fun e w' => e = .returned (.tuple #[]) ∧ w = w' := by
  go_enter Try.func26, Try.ntmps26
  go_wp2
  go_end0
  exact ⟨rfl, rfl⟩
set_option maxRecDepth 100000 in
set_option maxHeartbeats 4000000 in
theorem write_6 (g : Nat) (vs vq : Value) (u : St) (b : Int) (Q : World → Prop) (w : World) (hb0 : Byte b)  : Calls Try.prog 26 #[.pointer (some ⟨g, 0, none⟩), .int .u64 6, .int .u8 b] w fun e w' => e = .returned (.tuple #[]) ∧ w = w' := by
  go_enter Try.func26, Try.ntmps26
  go_wp2
  go_end0
  exact ⟨rfl, rfl⟩
set_option maxRecDepth 100000 in
set_option maxHeartbeats 4000000 in
theorem write_7 (g : Nat) (vs vq : Value) (u : St) (b : Int) (Q : World → Prop) (w : World) (hb0 : Byte b) (hb : w.heap[g]? = some (.cells (clU vs vq u) 48)) : Calls Try.prog 26 #[.pointer (some ⟨g, 0, none⟩), .int .u64 7, .int .u8 b] w fun e w' => e = .returned (.tuple #[]) ∧ w'.heap[g]? = some (.cells (clU vs vq { u with scr := b }) 48) ∧ Fr [g] w w' := by
  have c5 : w.cell? ⟨g, 5, none⟩ = some (.int .u8 u.scr) := by rw [blk_cell hb]; rfl
  have f5 : w.frozen? ⟨g, 5, none⟩ = false := blk_free hb 5
  have HB := hid hb
  clear hb
  go_enter Try.func26, Try.ntmps26
  go_wp2
  go_end0
  exact ⟨rfl, blk_set HB.out 5 _, (Fr.refl _ _).setCell (.inl (by simp)) _⟩
set_option maxRecDepth 100000 in
set_option maxHeartbeats 4000000 in
theorem write_0f (g : Nat) (vs vq : Value) (u : St) (b : Int) (w : World) (hb0 : Byte b) (h1 : Hid (∀ w1, w1 = w → Calls Try.prog 35 #[.pointer (some ⟨g, 0, none⟩)] w1 fun e w' => e = .returned (.bool false) ∧ w1 = w')) (hb : w.heap[g]? = some (.cells (clU vs vq u) 48)) (hown : Hid (w.ownsRow 0 5 1 vs u.sent.length (bys u.sent))) (hl : u.sent.length ≤ 1000000) (hne : vs.ownBlock ≠ some g) :
    Calls Try.prog 26 #[.pointer (some ⟨g, 0, none⟩), .int .u64 0, .int .u8 b] w fun e w' => e = .returned (.tuple #[]) ∧ ∃ v', w'.ownsRow 0 5 1 v' (u.sent ++ [b]).length (bys (u.sent ++ [b])) ∧ (v'.ownBlock = vs.ownBlock ∨ ∃ k, v'.ownBlock = some k ∧ w.heap.size ≤ k) ∧ w'.heap[g]? = some (.cells (clU v' vq (u.send b)) 48) ∧ Fr (g :: vs.ownBlock.toList) w w' := by
  have c0 : w.cell? ⟨g, 0, none⟩ = some (vs) := by rw [blk_cell hb]; rfl
  have HB := hid hb
  clear hb
  go_enter Try.func26, Try.ntmps26
  have hk : Hid (∀ w2, Fr vs.ownBlock.toList (w.alloc (.cells #[.int .u8 b] 5)) w2 → w2.heap[g]? = some (.cells (clU vs vq u) 48)) := fun w2 h => h.keeps (blk_alloc HB.out _) (by
    intro hm
    apply hne
    cases e : vs.ownBlock with
    | none => rw [e] at hm; simp at hm
    | some k => rw [e] at hm; simp at hm; rw [hm])
  go_wp2_with (first | (go_at_call 35; (with_reducible refine (h1.out _ rfl).mono ?_); rintro e w1 ⟨rfl, rfl⟩) | (at_builtin; go_loud (refine wpList_send rfl _ _ rfl rfl vs u.sent rfl (hown.out.alloc _) hl ⟨w.heap.size, 0, none⟩ 1 b rfl (cell_one_new _ _ _) ?_; intro vp vn vc w2 hown' hf' hv'; have c0' : w2.cell? ⟨g, 0, none⟩ = some vs := (blk_cell (hk.out w2 hf') 0).trans rfl; have c10' : w2.cell? ⟨g, 10, none⟩ = some (.bool u.dn) := (blk_cell (hk.out w2 hf') 10).trans rfl; have f0' := blk_free (hk.out w2 hf') 0; have f10' := blk_free (hk.out w2 hf') 10; have HB2 := hid (hk.out w2 hf'); replace hown' := hid hown'; replace hf' := hid hf'; replace hv' := hid hv')))
  (try simp only [Exit.inBlock, Exit.then])
  refine bodyPost_ret (results_none rfl _ _ _) rfl ?_
  refine ⟨rfl, .slice vp vn vc, ?_, ?_, blk_set (blk_set HB2.out 0 _) 10 _, ?_⟩
  · refine owns_fr hown'.out (((Fr.refl [g] _).setCell (.inl (by simp)) _).setCell (.inl (by simp)) _) fun k hk => ?_
    have hlt := hown'.out.lt k hk
    rcases hv'.out with e | e
    · rw [e] at hk
      intro hm
      rw [List.mem_singleton.1 hm] at hk
      exact hne hk
    · rw [e] at hk
      have := lt_block HB.out
      simp at hk ⊢
      omega
  · rcases hv'.out with e | e
    · exact .inl e
    · exact .inr ⟨_, e, by simp⟩
  · exact ((((Fr.refl (g :: vs.ownBlock.toList) w).alloc _).trans (hf'.out.weaken fun k hk => List.mem_cons_of_mem _ hk)).setCell (.inl (by simp)) _).setCell (.inl (by simp)) _
end Go.Proofs.Ytobaniebnejjiaa.U
