/- A serial line: Take, Waiting, Level, New, Input at its own block. -/
import Derived.Test.YtobaniebnejjiaaC
import Derived.Test.YtobaniebnejjiaaHeldTail
namespace Go.Proofs.Ytobaniebnejjiaa.U
open Go.RowKit
set_option linter.all false
theorem str_nil : ByteArray.empty = strOfNums [] := rfl
theorem conv_own {w : World} {v : Value} {l : List Int} (h : w.ownsRow 0 5 1 v l.length (bys l)) : (convert 32 9 v).run Try.prog w = .ok (.string (strOfNums l)) w := by
  rcases h.2 with ⟨rfl, hn⟩ | ⟨g, cap, cur, rfl, hbg, hg, hnc, hcm, hcs, htake⟩
  · obtain rfl : l = [] := List.eq_nil_of_length_eq_zero hn
    rw [← str_nil]
    exact run_convert_bytes_nil w 32 5 Try.underlying32 Try.underlying5 0 0 9 Try.underlying9
  · refine run_convert_bytes_arg w 32 5 Try.underlying32 Try.underlying5 g 0 l.length cap l rfl (fun i hi => ?_) 9 Try.underlying9
    have := h.cells (g := g) rfl i (.int .u8 (l.getD i 0)) (by rw [bys_get]; simp [List.getD_eq_getElem?_getD, hi])
    rw [Addr.add_mid] at this
    exact this
set_option maxRecDepth 100000 in
set_option maxHeartbeats 4000000 in
theorem take_w (g : Nat) (vs vq : Value) (u : St) (s : ByteArray) (w : World) (hb : w.heap[g]? = some (.cells (clU vs vq u) 48)) (hc : (convert 32 9 vs).run Try.prog w = .ok (.string s) w) : Calls Try.prog 14 #[.pointer (some ⟨g, 0, none⟩)] w fun e w' => e = .returned (.string s) ∧ w'.heap[g]? = some (.cells (clU (.slice none 0 0) vq { u with sent := [] }) 48) ∧ Fr [g] w w' := by
  have c0 : w.cell? ⟨g, 0, none⟩ = some (vs) := by rw [blk_cell hb]; rfl
  have f0 : w.frozen? ⟨g, 0, none⟩ = false := blk_free hb 0
  have HB := hid hb
  clear hb
  go_enter Try.func14, Try.ntmps14
  go_wp2
  go_ret
  exact ⟨rfl, blk_set HB.out 0 _, (Fr.refl _ _).setCell (.inl (by simp)) _⟩
set_option maxRecDepth 100000 in
set_option maxHeartbeats 4000000 in
theorem take_nil (w : World) : Calls Try.prog 14 #[.pointer none] w fun e w' => e = .returned (.string ⟨#[]⟩) ∧ w = w' := by
  go_enter Try.func14, Try.ntmps14
  go_wp2
  go_ret
  exact ⟨rfl, rfl⟩
set_option maxRecDepth 100000 in
set_option maxHeartbeats 4000000 in
theorem waiting_w (g : Nat) (p : Option Addr) (n cap : Nat) (w : World) (c1 : w.cell? ⟨g, 1, none⟩ = some (.slice p n cap)) : Calls Try.prog 10 #[.pointer (some ⟨g, 0, none⟩)] w fun e w' => e = .returned (.int .i64 n) ∧ w = w' := by
  go_enter Try.func10, Try.ntmps10
  go_wp2
  go_ret
  exact ⟨rfl, rfl⟩
theorem waiting_any (g : Nat) (vs vq : Value) (u : St) (w : World) (hq : SlN vq u.q.length) (hb : w.heap[g]? = some (.cells (clU vs vq u) 48)) : Calls Try.prog 10 #[.pointer (some ⟨g, 0, none⟩)] w fun e w' => e = .returned (.int .i64 (u.q.length : Int)) ∧ w = w' := by
  obtain ⟨p, cap, rfl⟩ := hq
  exact waiting_w g p u.q.length cap w ((blk_cell hb 1).trans rfl)
set_option maxRecDepth 100000 in
set_option maxHeartbeats 4000000 in
theorem waiting_nil (w : World) : Calls Try.prog 10 #[.pointer none] w fun e w' => e = .returned (.int .i64 0) ∧ w = w' := by
  go_enter Try.func10, Try.ntmps10
  go_wp2
  go_ret
  exact ⟨rfl, rfl⟩
set_option maxRecDepth 100000 in
set_option maxHeartbeats 4000000 in
theorem level_w (g : Nat) (a : Int) (b : Bool) (w : World) (hb : (a != 1) = b) (h1 : Hid (∀ w1, w1 = w → Calls Try.prog 29 #[.pointer (some ⟨g, 0, none⟩)] w1 fun e w' => e = .returned (.int .u8 a) ∧ w1 = w')) : Calls Try.prog 18 #[.pointer (some ⟨g, 0, none⟩)] w fun e w' => e = .returned (.bool b) ∧ w = w' := by
  go_enter Try.func18, Try.ntmps18
  go_wp2_with (go_at_call 29; (with_reducible refine (h1.out _ rfl).mono ?_); rintro e w1 ⟨rfl, rfl⟩)
  go_ret
  exact ⟨rfl, rfl⟩
theorem level_any (g : Nat) (vs vq : Value) {u : St} (hu : u.OK) (w : World) (hq : SlN vq u.q.length) (hb : w.heap[g]? = some (.cells (clU vs vq u) 48)) : Calls Try.prog 18 #[.pointer (some ⟨g, 0, none⟩)] w fun e w' => e = .returned (.bool u.Level) ∧ w = w' :=
  level_w g u.asks _ w rfl (hid fun w1 h => by subst h; exact asks_any g vs vq hu w1 hq hb)
set_option maxRecDepth 100000 in
set_option maxHeartbeats 4000000 in
theorem level_nil (w : World) : Calls Try.prog 18 #[.pointer none] w fun e w' => e = .returned (.bool false) ∧ w = w' := by
  go_enter Try.func18, Try.ntmps18
  go_wp2
  go_ret
  exact ⟨rfl, rfl⟩
set_option maxRecDepth 100000 in
set_option maxHeartbeats 4000000 in
theorem new_w (w : World) : Calls Try.prog 9 #[] w fun e w' => e = .returned (.pointer (some ⟨w.heap.size, 0, none⟩)) ∧ w.alloc (.cells (clU (.slice none 0 0) (.slice none 0 0) St.new) 48) = w' := by
  go_enter Try.func9, Try.ntmps9
  go_wp2
  go_ret
  exact ⟨rfl, rfl⟩
/-! Input -/
set_option maxRecDepth 100000 in
set_option maxHeartbeats 4000000 in
theorem input_full (g : Nat) (vs : Value) (p : Option Addr) (n cap : Nat) (u : St) (b : Int) (w : World) (hn : 16 ≤ (n : Int)) (hb : w.heap[g]? = some (.cells (clU vs (.slice p n cap) u) 48)) : Calls Try.prog 13 #[.pointer (some ⟨g, 0, none⟩), .int .u8 b] w fun e w' => e = .returned (.bool false) ∧ w'.heap[g]? = some (.cells (clU vs (.slice p n cap) { u with ov := true }) 48) ∧ Fr [g] w w' := by
  have c1 : w.cell? ⟨g, 1, none⟩ = some (.slice p n cap) := by rw [blk_cell hb]; rfl
  have c9 : w.cell? ⟨g, 9, none⟩ = some (.bool u.ov) := by rw [blk_cell hb]; rfl
  have f9 : w.frozen? ⟨g, 9, none⟩ = false := blk_free hb 9
  have HB := hid hb
  clear hb
  go_enter Try.func13, Try.ntmps13
  go_wp2
  go_ret
  exact ⟨rfl, blk_set HB.out 9 _, (Fr.refl _ _).setCell (.inl (by simp)) _⟩
set_option maxRecDepth 100000 in
set_option maxHeartbeats 4000000 in
theorem input_nil (b : Int) (w : World) : Calls Try.prog 13 #[.pointer none, .int .u8 b] w fun e w' => e = .returned (.bool false) ∧ w = w' := by
  go_enter Try.func13, Try.ntmps13
  go_wp2
  go_ret
  exact ⟨rfl, rfl⟩
/-- what stands in the cells of a slice behind one byte more -/
def Filled (cells : Array Value) (l : List Int) : Prop := ∀ i, i < l.length → cells[i]? = some (.int .u8 (l.getD i 0))
theorem run_input (w : World) (p : Option Addr) (l : List Int) (hp : p = none → l = []) (holds : ∀ a, p = some a → ∀ j v, (bys l)[j]? = some v → w.cell? (a.add j) = some v) (hl : l.length ≤ 1000000) (ad : Addr) (c : Nat) (b : Int) (hnews : ∀ j v, [Value.int .u8 b][j]? = some v → w.cell? (ad.add j) = some v) :
    ∃ cap cells, (Builtin.append_ #[32, 32] 32 #[.slice p l.length l.length, .slice (some ad) 1 c]).run Try.prog w = .ok (.slice (some ⟨w.heap.size, 0, none⟩) (l.length + 1) cap) (w.drew.alloc (.cells cells 5)) ∧ l.length + 1 ≤ cap ∧ cap ≤ maxLen ∧ Filled cells (l ++ [b]) := by
  obtain ⟨i0, hi, hz0, hz1, hz2⟩ := info_parts info_u8
  have fill : ∀ z : Array Value, Filled ((bys l).toArray ++ [Value.int .u8 b].toArray ++ z) (l ++ [b]) := by
    intro z i hi
    have h1 : ((bys l).toArray ++ [Value.int .u8 b].toArray) = (bys (l ++ [b])).toArray := by rw [bys_app]; simp
    rw [h1, Array.getElem?_append_left (by rw [List.size_toArray, bys_len]; exact hi)]
    rw [List.getElem?_toArray, bys_get]
    simp only [List.getD_eq_getElem?_getD]
    rw [List.getElem?_eq_getElem hi]
    rfl
  cases p with
  | none =>
    obtain rfl := hp rfl
    have hr := run_append_nil (P := Try.prog) w 32 32 5 i0 (.int .u8 0) Try.underlying32 hi hz0 ad 1 c [.int .u8 b] (by rw [hz1]; rfl) hnews (by decide) (by decide) (by rw [hz2]; decide)
    refine ⟨_, _, hr, grownCap_ge _ _ _ _, grownCap_le_maxLen _ _ _ _ (by unfold maxLen; decide), ?_⟩
    have := fill (Builtin.zeroCells (Value.int .u8 0).cells (grownCap w 1 0 5 - 1))
    simpa [bys] using this
  | some a =>
    have hr := run_append_grow (P := Try.prog) w 32 32 5 i0 (.int .u8 0) Try.underlying32 hi hz0 a l.length l.length (bys l) (by rw [hz1, bys_len]; omega) (holds a rfl) ad 1 c [.int .u8 b] (by rw [hz1]; rfl) hnews (by omega) (by omega) (by rw [hz2]; exact growslice_fits (by omega) (by omega))
    exact ⟨_, _, hr, grownCap_ge _ _ _ _, grownCap_le_maxLen _ _ _ _ (by unfold maxLen; omega), fill _⟩
theorem wp_input {o : Oper} {a : Act} {w : World} {K : Act → World → Prop} {Q : Exit → Act → World → Prop} (s x : Operand)
    (ho : o.op = .call { callee := .builtin .append, args := #[s, x], argTypes := #[32, 32] }) (hty : o.type = 32) (p : Option Addr) (l : List Int) (hs : a.eval s = .slice p l.length l.length) (hp : p = none → l = []) (holds : ∀ a, p = some a → ∀ j v, (bys l)[j]? = some v → w.cell? (a.add j) = some v) (hl : l.length ≤ 1000000) (ad : Addr) (c : Nat) (b : Int) (hx : a.eval x = .slice (some ad) 1 c) (hnews : ∀ j v, [Value.int .u8 b][j]? = some v → w.cell? (ad.add j) = some v)
    (h : ∀ cap cells w', l.length + 1 ≤ cap → cap ≤ maxLen → Filled cells (l ++ [b]) → Fr [] w w' → w'.heap[w.heap.size]? = some (.cells cells 5) → K (a.put o.dst (.slice (some ⟨w.heap.size, 0, none⟩) (l.length + 1) cap)) w') : o.wp Try.prog a w K Q := by
  obtain ⟨cap, cells, hr, h1, h2, h3⟩ := run_input w p l hp holds hl ad c b hnews
  unfold Oper.wp execOp
  simp only [ho, hty, resolve, invoke, builtin, Sem.run_bind, Sem.run_pure, Result.andThen_ok, List.map_toArray, List.map_cons, List.map_nil, hs, hx, hr]
  exact h cap cells _ h1 h2 h3 ((Fr.refl [] w).drew.alloc _) (blk_new w.drew _)
theorem new_one {w : World} {A : Nat} {x : Value} {t : TypeId} (h : w.heap[A]? = some (.cells #[x] t)) : ∀ j v, [x][j]? = some v → w.cell? ((⟨A, 0, none⟩ : Addr).add j) = some v := by
  intro j v hj
  match j, hj with
  | 0, hj => rw [Addr.add_mid, blk_cell h]; simpa using hj
  | j + 1, hj => simp at hj
/-- what a byte that came in leaves -/
def InP (g : Nat) (vs : Value) (l : List Int) (u : St) (b : Int) (w w' : World) : Prop := ∃ bq capq cells, w.heap.size ≤ bq ∧ w'.heap[bq]? = some (.cells cells 5) ∧ l.length + 1 ≤ capq ∧ capq ≤ maxLen ∧ Filled cells (l ++ [b]) ∧ w'.heap[g]? = some (.cells (clU vs (.slice (some ⟨bq, 0, none⟩) (l.length + 1) capq) u) 48) ∧ Fr [g] w w'
set_option maxRecDepth 100000 in
set_option maxHeartbeats 4000000 in
theorem input_w (g : Nat) (vs : Value) (p : Option Addr) (l : List Int) (cap : Nat) (u : St) (b : Int) (w : World) (hn : ¬ 16 ≤ (l.length : Int)) (hb : w.heap[g]? = some (.cells (clU vs (.slice p l.length cap) u) 48))
    (hsl : ∀ w, (Instr.sliceAt 32 (.slice p l.length cap) none (some (.int .i64 (l.length : Int))) (some (.int .i64 (l.length : Int)))).run Try.prog w = .ok (.slice p l.length l.length) w) (hp : p = none → l = []) (holds : ∀ a, p = some a → ∀ j v, (bys l)[j]? = some v → a.block < w.heap.size ∧ w.cell? (a.add j) = some v) :
    Calls Try.prog 13 #[.pointer (some ⟨g, 0, none⟩), .int .u8 b] w fun e w' => e = .returned (.bool true) ∧ InP g vs l u b w w' := by
  have c1 : w.cell? ⟨g, 1, none⟩ = some (.slice p l.length cap) := by rw [blk_cell hb]; rfl
  have HB := hid hb
  have hlt := lt_block hb
  clear hb
  replace hsl := hid hsl
  replace holds := hid holds
  go_enter Try.func13, Try.ntmps13
  go_upto_region 6 with fail
  (try simp only [Act.put, List.setIfInBounds_toArray, List.set_cons_zero, List.set_cons_succ])
  refine wp_region_HT (S := fun W' => W'.heap[g]? = some (.cells (clU vs (.slice p l.length cap) u) 48) ∧ Fr [] w W') 21 (by kernel_rfl) (by kernel_rfl) ⟨HB.out, (Fr.refl [] w).drew⟩ (fun hHeld => ?_)
  refine HT_take (i := 0) rfl (by kernel_rfl) (by decide) (by kernel_rfl) (by kernel_rfl) (fun _ _ _ h => h) (yieldsIf_of (.pointer (some ⟨g, 0, none⟩)) (by rfl) (fun w' hS => by go_simp)) hHeld ?_
  simp only [Act.put, List.setIfInBounds_toArray, List.set_cons_zero, List.set_cons_succ]
  refine HT_take (i := 1) rfl (by kernel_rfl) (by decide) (by kernel_rfl) (by kernel_rfl) (fun _ _ _ h => h) (yieldsIf_of (.pointer (some ⟨g, 0, none⟩)) (by rfl) (fun w' hS => by go_simp)) hHeld ?_
  simp only [Act.put, List.setIfInBounds_toArray, List.set_cons_zero, List.set_cons_succ]
  refine HT_take (i := 2) rfl (by kernel_rfl) (by decide) (by kernel_rfl) (by kernel_rfl) (fun _ _ _ h => h) (yieldsIf_of (.pointer (some ⟨g, 0, none⟩)) (by rfl) (fun w' hS => by go_simp)) hHeld ?_
  simp only [Act.put, List.setIfInBounds_toArray, List.set_cons_zero, List.set_cons_succ]
  refine HT_take (i := 3) rfl (by kernel_rfl) (by decide) (by kernel_rfl) (by kernel_rfl) (fun _ _ _ h => h) (yieldsIf_of (.pointer (some ⟨g, 1, none⟩)) (by rfl) (fun w' hS => by go_simp)) hHeld ?_
  simp only [Act.put, List.setIfInBounds_toArray, List.set_cons_zero, List.set_cons_succ]
  refine HT_take (i := 4) rfl (by kernel_rfl) (by decide) (by kernel_rfl) (by kernel_rfl) (fun _ _ _ h => h) (yieldsIf_of (.slice p l.length cap) (by rfl) (fun w' hS => by have hc := (blk_cell hS.1 1).trans (show (clU vs (.slice p l.length cap) u)[1]? = some (.slice p l.length cap) from rfl); go_simp)) hHeld ?_
  simp only [Act.put, List.setIfInBounds_toArray, List.set_cons_zero, List.set_cons_succ]
  refine HT_take (i := 5) rfl (by kernel_rfl) (by decide) (by kernel_rfl) (by kernel_rfl) (fun _ _ _ h => h) (yieldsIf_of (.pointer (some ⟨g, 0, none⟩)) (by rfl) (fun w' hS => by go_simp)) hHeld ?_
  simp only [Act.put, List.setIfInBounds_toArray, List.set_cons_zero, List.set_cons_succ]
  refine HT_take (i := 6) rfl (by kernel_rfl) (by decide) (by kernel_rfl) (by kernel_rfl) (fun _ _ _ h => h) (yieldsIf_of (.pointer (some ⟨g, 0, none⟩)) (by rfl) (fun w' hS => by go_simp)) hHeld ?_
  simp only [Act.put, List.setIfInBounds_toArray, List.set_cons_zero, List.set_cons_succ]
  refine HT_take (i := 7) rfl (by kernel_rfl) (by decide) (by kernel_rfl) (by kernel_rfl) (fun _ _ _ h => h) (yieldsIf_of (.pointer (some ⟨g, 1, none⟩)) (by rfl) (fun w' hS => by go_simp)) hHeld ?_
  simp only [Act.put, List.setIfInBounds_toArray, List.set_cons_zero, List.set_cons_succ]
  refine HT_take (i := 8) rfl (by kernel_rfl) (by decide) (by kernel_rfl) (by kernel_rfl) (fun _ _ _ h => h) (yieldsIf_of (.slice p l.length cap) (by rfl) (fun w' hS => by have hc := (blk_cell hS.1 1).trans (show (clU vs (.slice p l.length cap) u)[1]? = some (.slice p l.length cap) from rfl); go_simp)) hHeld ?_
  simp only [Act.put, List.setIfInBounds_toArray, List.set_cons_zero, List.set_cons_succ]
  refine HT_take (i := 9) rfl (by kernel_rfl) (by decide) (by kernel_rfl) (by kernel_rfl) (fun _ _ _ h => h) (yieldsIf_of (.int .i64 (l.length : Int)) (by rfl) (fun w' hS => by go_simp)) hHeld ?_
  simp only [Act.put, List.setIfInBounds_toArray, List.set_cons_zero, List.set_cons_succ]
  refine HT_take (i := 10) rfl (by kernel_rfl) (by decide) (by kernel_rfl) (by kernel_rfl) (fun _ _ _ h => h) (yieldsIf_of (.pointer (some ⟨g, 0, none⟩)) (by rfl) (fun w' hS => by go_simp)) hHeld ?_
  simp only [Act.put, List.setIfInBounds_toArray, List.set_cons_zero, List.set_cons_succ]
  refine HT_take (i := 11) rfl (by kernel_rfl) (by decide) (by kernel_rfl) (by kernel_rfl) (fun _ _ _ h => h) (yieldsIf_of (.pointer (some ⟨g, 0, none⟩)) (by rfl) (fun w' hS => by go_simp)) hHeld ?_
  simp only [Act.put, List.setIfInBounds_toArray, List.set_cons_zero, List.set_cons_succ]
  refine HT_take (i := 12) rfl (by kernel_rfl) (by decide) (by kernel_rfl) (by kernel_rfl) (fun _ _ _ h => h) (yieldsIf_of (.pointer (some ⟨g, 1, none⟩)) (by rfl) (fun w' hS => by go_simp)) hHeld ?_
  simp only [Act.put, List.setIfInBounds_toArray, List.set_cons_zero, List.set_cons_succ]
  refine HT_take (i := 13) rfl (by kernel_rfl) (by decide) (by kernel_rfl) (by kernel_rfl) (fun _ _ _ h => h) (yieldsIf_of (.slice p l.length cap) (by rfl) (fun w' hS => by have hc := (blk_cell hS.1 1).trans (show (clU vs (.slice p l.length cap) u)[1]? = some (.slice p l.length cap) from rfl); go_simp)) hHeld ?_
  simp only [Act.put, List.setIfInBounds_toArray, List.set_cons_zero, List.set_cons_succ]
  refine HT_take (i := 14) rfl (by kernel_rfl) (by decide) (by kernel_rfl) (by kernel_rfl) (fun _ _ _ h => h) (yieldsIf_of (.int .i64 (l.length : Int)) (by rfl) (fun w' hS => by go_simp)) hHeld ?_
  simp only [Act.put, List.setIfInBounds_toArray, List.set_cons_zero, List.set_cons_succ]
  refine HT_take (i := 15) rfl (by kernel_rfl) (by decide) (by kernel_rfl) (by kernel_rfl) (fun _ _ _ h => h) (yieldsIf_of (.slice p l.length l.length) (by rfl) (fun w' hS => by have h := hsl.out w'; go_simp)) hHeld ?_
  simp only [Act.put, List.setIfInBounds_toArray, List.set_cons_zero, List.set_cons_succ]
  refine HT_take (i := 16) rfl (by kernel_rfl) (by decide) (by kernel_rfl) (by kernel_rfl) (fun _ _ _ h => h) (yieldsIf_of (.int .u8 b) (by rfl) (fun w' hS => by go_simp)) hHeld ?_
  simp only [Act.put, List.setIfInBounds_toArray, List.set_cons_zero, List.set_cons_succ]
  refine HT_one (i := 17) rfl (by decide) (by kernel_rfl) (fun K hK => ?_)
  go_simp
  refine hK.out _ _ ⟨blk_alloc hHeld.1 _, hHeld.2.alloc _⟩ (fun hHeld => ?_)
  clear hK K
  refine HT_one (i := 18) rfl (by decide) (by kernel_rfl) (fun K hK => ?_)
  rw [if_pos (by rfl)]
  have hh : ∀ a, p = some a → ∀ j v, (bys l)[j]? = some v → (w.alloc (.cells #[.int .u8 b] 5)).drew.cell? (a.add j) = some v := fun a ha j v hj => by
    obtain ⟨h1, h2⟩ := holds.out a ha j v hj
    rw [World.cell?_of_block (w := w) (a := a.add j) (hHeld.2.block _ (by unfold Addr.add; split <;> exact h1) (by simp))]
    exact h2
  refine wp_input _ _ rfl rfl p l rfl hp hh (by omega) ⟨w.heap.size, 0, none⟩ 1 b rfl (new_one (show (w.alloc (.cells #[.int .u8 b] 5)).drew.heap[w.heap.size]? = _ from blk_new w _)) (fun capq cells W2 h1 h2 h3 hF2 hN => ?_)
  simp only [Act.put]
  have hF2' := hHeld.2.trans hF2
  refine hK.out _ _ ⟨hF2.keeps hHeld.1 (by simp), hF2'⟩ (fun hHeld => ?_)
  clear hK K hh
  simp only [Act.put, List.setIfInBounds_toArray, List.set_cons_zero, List.set_cons_succ]
  refine HT_take (i := 19) rfl (by kernel_rfl) (by decide) (by kernel_rfl) (by kernel_rfl) (fun _ _ _ h => h) (yieldsIf_of (.pointer (some ⟨g, 0, none⟩)) (by rfl) (fun w' hS => by go_simp)) hHeld ?_
  simp only [Act.put, List.setIfInBounds_toArray, List.set_cons_zero, List.set_cons_succ]
  refine HT_take (i := 20) rfl (by kernel_rfl) (by decide) (by kernel_rfl) (by kernel_rfl) (fun _ _ _ h => h) (yieldsIf_of (.pointer (some ⟨g, 1, none⟩)) (by rfl) (fun w' hS => by go_simp)) hHeld ?_
  simp only [Act.put, List.setIfInBounds_toArray, List.set_cons_zero, List.set_cons_succ]
  refine HT_done (by kernel_rfl) ?_
  have c1' : W2.cell? ⟨g, 1, none⟩ = some (.slice p l.length cap) := (blk_cell hHeld.1 1).trans rfl
  have f1' : W2.frozen? ⟨g, 1, none⟩ = false := blk_free hHeld.1 1
  have HH := hid hHeld
  have hN := hid hN
  replace h3 := hid h3
  clear hHeld hF2 hF2' c1
  simp only [List.drop_succ_cons, List.drop_zero]
  go_wp2
  go_ret
  have hsz : w.heap.size + 1 = (w.alloc (.cells #[.int .u8 b] 5)).drew.heap.size := by simp
  refine ⟨rfl, w.heap.size + 1, capq, cells, by omega, ?_, h1, h2, h3.out, blk_set HH.out.1 1 _, (HH.out.2.weaken (by simp)).setCell (.inl (by simp)) _⟩
  rw [blk_set_other _ (by simp; omega)]
  have hN' := hN.out
  rw [← hsz] at hN'
  exact hN'
end Go.Proofs.Ytobaniebnejjiaa.U
