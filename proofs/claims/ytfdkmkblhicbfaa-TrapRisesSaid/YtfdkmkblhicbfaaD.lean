/- Contracts of package trap: the state, mode and pc behind a trap. -/
import Derived.Test.YtfdkmkblhicbfaaC
import Derived.Test.YtfdkmkblhicbfaaTail
import Derived.Test.YtfdkmkblhicbfaaHeld
namespace Go.Proofs.Ytfdkmkblhicbfaa
set_option linter.all false
open Go.RowKit

theorem set32 (n : BitVec 64) (c : Bool) (w : World) : Calls Try.prog 33 #[.int .u64 (U n), .int .u64 32, .bool c] w fun e w' => e = .returned (.int .u64 (U (setB n 32#64 c))) ∧ w = w' := set_any n 32#64 c w
theorem set128 (n : BitVec 64) (c : Bool) (w : World) : Calls Try.prog 33 #[.int .u64 (U n), .int .u64 128, .bool c] w fun e w' => e = .returned (.int .u64 (U (setB n 128#64 c))) ∧ w = w' := set_any n 128#64 c w
theorem set256 (n : BitVec 64) (c : Bool) (w : World) : Calls Try.prog 33 #[.int .u64 (U n), .int .u64 256, .bool c] w fun e w' => e = .returned (.int .u64 (U (setB n 256#64 c))) ∧ w = w' := set_any n 256#64 c w

/-- the cells of a trap -/
def tkC (c : BitVec 64) (it : Bool) (tv : BitVec 64) : Array Value := #[.int .u8 (U c), .bool it, .int .u64 (U tv)]

/-- the state behind a trap: the writes in the text's order (e, y, v: where the pc, the cause and the number are kept; M: Mstatus) -/
def ent (s : Nat → BitVec 64) (e y v : Nat) (M pc c : BitVec 64) (it : Bool) (tv : BitVec 64) : Nat → BitVec 64 :=
  match it with
  | true => upd (upd (upd (upd (upd s 1 M) v tv) v 0#64) e (pc &&& ~~~1#64)) y (c ||| 9223372036854775808#64)
  | false => upd (upd (upd (upd s 1 M) v tv) e (pc &&& ~~~1#64)) y c
theorem st_set {w : World} {b : Nat} {s : Nat → BitVec 64} (h : w.heap[b]? = some (.cells (stC s) 25)) (i : Nat) (x : BitVec 64) : (w.setCell ⟨b, i, none⟩ (.int .u64 (U x))).heap[b]? = some (.cells (stC (upd s i x)) 25) := by
  rw [← stC_set]; exact blk_set h i _
theorem blk_set_keep {w : World} {b : Nat} {o : Obj} (h : w.heap[b]? = some o) (a : Addr) (u : Value) (hne : b ≠ a.block) : (w.setCell a u).heap[b]? = some o := by rw [blk_set_other u hne]; exact h
theorem rangeAt_of {w : World} {b : Nat} {C : Array Value} {t : TypeId} (hb : w.heap[b]? = some (.cells C t)) : w.rangeAt b 0 C.toList := fun j v hv => by
  rw [Nat.zero_add, blk_cell hb]
  simpa using hv
theorem there_of {w : World} {b n : Nat} {C : Array Value} {t : TypeId} (hb : w.heap[b]? = some (.cells C t)) (hn : C.size = n) : w.there b 0 n := fun j hj => by
  rw [blk_cell hb, blk_free hb]
  have : j < C.size := by omega
  simp [this]
theorem world_at (F : World → Prop) {P : Program} {c : Code} {Q : Exit → Act → World → Prop} {a : Act} {w : World} (hF : F w) (h : ∀ W, F W → c.wp P Q a W) : c.wp P Q a w := h w hF
theorem upd_upd (s : Nat → BitVec 64) (i : Nat) (x y : BitVec 64) : upd (upd s i x) i y = upd s i y := by
  funext j; unfold upd; split <;> rfl
theorem oneCell_stC (s : Nat → BitVec 64) : (stC s).all (·.oneCell') = true := by simp [stC, Value.oneCell']
theorem size25' (s : Nat → BitVec 64) : (Try.prog.info? 25).map (·.size) = some (stC s).size := by rw [size25]; rfl

set_option maxRecDepth 100000 in
set_option maxHeartbeats 4000000 in
theorem enter_0Si (s : Nat → BitVec 64) (m : Int) (pc c tv : BitVec 64) (w : World) (h0 : 0 ≤ m) (hrm : rm m = 0) (hc : U c < 256) (hd : downB s 0 (U c) true = true) :
    Calls Try.prog 15 #[.agg (stC s), .int .u8 m, .int .u64 (U pc), .agg #[.int .u8 (U c), .bool true, .int .u64 (U tv)]] w fun e w' => e = .returned (.tuple #[.agg (stC (ent s 14 15 16 (setB (setB (s 1) 32#64 (tb (s 1) 1) &&& ~~~2#64) 256#64 false) pc c true tv)), .int .u8 1, .int .u64 (U (wayB (s 13) (U c) true))]) ∧ Fr [] w w' := by
  have hc0 := (U_bd c).1
  have k8 := mask8_ne (s 1)
  have k2 := mask2_ne (s 1)
  have Hrm := hid hrm
  have Hd := hid hd
  clear hrm hd
  go_enter Try.func15, Try.ntmps15
  go_wp2_with (first | (go_at_call 25; refine (real_any m _ h0).mono ?_; rintro e w' ⟨rfl, rfl⟩; rw [Hrm.out]) | (go_at_call 32; refine (down_any s 0 (U c) true tv _ hc0).mono ?_; rintro e w' ⟨rfl, rfl⟩; rw [Hd.out]) | (refine wpList_load_row rfl 25 _ rfl w.heap.size rfl 25 (stC s) (0, 0) _ (blk_alloc (blk_alloc (blk_new _ _) _) _) Try.underlying25 rfl (by kernel_rfl) ?_))
  refine region_at (fun W => W.heap[w.heap.size]? = some (.cells (stC s) 25) ∧ W.heap[w.heap.size + 1]? = some (.cells (tkC c true tv) 34) ∧ (∃ z : Array Value, W.heap[w.heap.size + 1 + 1]? = some (.cells z 25) ∧ z.size = 31) ∧ Fr [] w W) (by kernel_rfl) (by kernel_rfl) ⟨blk_alloc (blk_alloc (blk_alloc (blk_alloc (blk_new _ _) _) _) _) _, blk_alloc (blk_alloc (blk_alloc (blk_new' (by simp) _) _) _) _, ⟨_, blk_alloc (blk_alloc (blk_new' (by simp) _) _) _, rfl⟩, ((((((Fr.refl _ _).alloc _).alloc _).alloc _).alloc _).alloc _)⟩ ?_
  rintro W ⟨hS, hT, hR, hfr⟩ hne
  have cS : ∀ (n : Ext W) (i : Nat), n.w.cell? ⟨w.heap.size, i, none⟩ = (stC s)[i]? := fun n i => n.cell hS i
  have HS := hid hS
  have HT := hid hT
  have HR := hid hR
  clear hS hT hR
  repeat (go_big_quiet_step (fail))
  refine wpQuiet_nil ?_
  intro _ hw'
  obtain ⟨n, hw''⟩ := hw'
  subst hw''
  clear hne
  have cT0 : n.w.cell? ⟨w.heap.size + 1, 0, none⟩ = some (.int .u8 (U c)) := n.cell HT.out 0
  have cT1 : n.w.cell? ⟨w.heap.size + 1, 1, none⟩ = some (.bool true) := n.cell HT.out 1
  have cT2 : n.w.cell? ⟨w.heap.size + 1, 2, none⟩ = some (.int .u64 (U tv)) := n.cell HT.out 2
  have cS1 := cS n
  have fS : ∀ i, n.w.frozen? ⟨w.heap.size, i, none⟩ = false := fun i => blk_free (n.blk HS.out) i
  clear cS
  go_wp2_with (first | (go_at_call 33; ((with_reducible refine (set32 _ _ _).mono ?_); rintro e w' ⟨rfl, rfl⟩)) | (go_at_call 33; ((with_reducible refine (set128 _ _ _).mono ?_); rintro e w' ⟨rfl, rfl⟩)) | (go_at_call 33; ((with_reducible refine (set256 _ _ _).mono ?_); rintro e w' ⟨rfl, rfl⟩)))
  go_quiet (fail)
  go_wp2_with (first | (go_at_call 33; ((with_reducible refine (set32 _ _ _).mono ?_); rintro e w' ⟨rfl, rfl⟩)) | (go_at_call 33; ((with_reducible refine (set128 _ _ _).mono ?_); rintro e w' ⟨rfl, rfl⟩)) | (go_at_call 33; ((with_reducible refine (set256 _ _ _).mono ?_); rintro e w' ⟨rfl, rfl⟩)))
  obtain ⟨z, HR', hz⟩ := HR.out
  refine world_at (fun W => W.heap[w.heap.size]? = some (.cells (stC (ent s 14 15 16 (setB (setB (s 1) 32#64 (tb (s 1) 1) &&& ~~~2#64) 256#64 false) pc c true tv)) 25) ∧ W.heap[w.heap.size + 1]? = some (.cells (tkC c true tv) 34) ∧ W.heap[w.heap.size + 1 + 1]? = some (.cells z 25) ∧ Fr [] w W) ⟨(st_set (st_set (st_set (st_set (st_set (w := n.w.drewN _) (n.blk HS.out) 1 _) _ _) _ 0#64) _ _) _ _), (blk_set_keep (blk_set_keep (blk_set_keep (blk_set_keep (blk_set_keep (n.blk HT.out) _ _ (by show _ ≠ w.heap.size; omega)) _ _ (by show _ ≠ w.heap.size; omega)) _ _ (by show _ ≠ w.heap.size; omega)) _ _ (by show _ ≠ w.heap.size; omega)) _ _ (by show _ ≠ w.heap.size; omega)), (blk_set_keep (blk_set_keep (blk_set_keep (blk_set_keep (blk_set_keep (n.blk HR') _ _ (by show _ ≠ w.heap.size; omega)) _ _ (by show _ ≠ w.heap.size; omega)) _ _ (by show _ ≠ w.heap.size; omega)) _ _ (by show _ ≠ w.heap.size; omega)) _ _ (by show _ ≠ w.heap.size; omega)), (((((((hfr.trans n.fr).drewN _).setCell (.inr (by simp)) _).setCell (.inr (by simp)) _).setCell (.inr (by simp)) _).setCell (.inr (by simp)) _).setCell (.inr (by simp)) _)⟩ ?_
  rintro W3 ⟨hS3, hT3, hR3, hfr3⟩
  have HS3 := hid hS3
  have HT3 := hid hT3
  have HR3 := hid hR3
  have hi31 : (Try.prog.info? 25).map (·.size) = some (stC (ent s 14 15 16 (setB (setB (s 1) 32#64 (tb (s 1) 1) &&& ~~~2#64) 256#64 false) pc c true tv)).size := by rw [size25]; rfl
  clear cT0 cT1 cT2 cS1 fS
  refine wp_region_held_drew (S := fun W' => W'.heap[w.heap.size]? = some (.cells (stC (ent s 14 15 16 (setB (setB (s 1) 32#64 (tb (s 1) 1) &&& ~~~2#64) 256#64 false) pc c true tv)) 25) ∧ W'.heap[w.heap.size + 1]? = some (.cells (tkC c true tv) 34) ∧ (∃ z : Array Value, W'.heap[w.heap.size + 1 + 1]? = some (.cells z 25) ∧ z.size = 31) ∧ Fr [] w W') (by kernel_rfl) ⟨hS3, hT3, ⟨z, hR3, hz⟩, hfr3.drew⟩ (fun hHeld => ?_)
  clear hS3 hT3 hR3
  refine wpAnyH_take (i := 0) rfl (by kernel_rfl) (by kernel_rfl) (by kernel_rfl) (fun _ _ _ h => h) (yieldsIf_row (by rfl) 25 _ rfl w.heap.size rfl 25 (stC (ent s 14 15 16 (setB (setB (s 1) 32#64 (tb (s 1) 1) &&& ~~~2#64) 256#64 false) pc c true tv)) (0, 0) _ (fun w' h => h.1) Try.underlying25 rfl hi31) hHeld ?_
  simp only [Act.put, List.setIfInBounds_toArray, List.set_cons_zero, List.set_cons_succ]
  refine wpAnyH_take (i := 1) rfl (by kernel_rfl) (by kernel_rfl) (by kernel_rfl) (fun _ _ _ h => h) (yieldsIf_of (.int .i64 1) (by rfl) (fun _ _ => by go_simp <;> rfl)) hHeld ?_
  simp only [Act.put, List.setIfInBounds_toArray, List.set_cons_zero, List.set_cons_succ]
  refine wpAnyH_take (i := 2) rfl (by kernel_rfl) (by kernel_rfl) (by kernel_rfl) (fun _ _ _ h => h) (yieldsIf_of (.int .u8 1) (by rfl) (fun _ _ => by go_simp <;> rfl)) hHeld ?_
  simp only [Act.put, List.setIfInBounds_toArray, List.set_cons_zero, List.set_cons_succ]
  refine wpAnyH_take (i := 3) rfl (by kernel_rfl) (by kernel_rfl) (by kernel_rfl) (fun _ _ _ h => h) (yieldsIf_of (.int .u64 (U (s 13))) (by rfl) (fun _ _ => by go_simp <;> rfl)) hHeld ?_
  simp only [Act.put, List.setIfInBounds_toArray, List.set_cons_zero, List.set_cons_succ]
  refine wpAnyH_take (i := 4) rfl (by kernel_rfl) (by kernel_rfl) (by kernel_rfl) (fun _ _ _ h => h) (yieldsIf_row (by rfl) 34 _ rfl (w.heap.size + 1) rfl 34 (tkC c true tv) (0, 0) _ (fun w' h => h.2.1) Try.underlying34 rfl (by kernel_rfl)) hHeld ?_
  simp only [Act.put, List.setIfInBounds_toArray, List.set_cons_zero, List.set_cons_succ]
  refine wpAnyH_ready (rs := [5]) (by kernel_rfl) (by simp) ?_
  refine AllReadyH.cons rfl (fun K hK => ?_) AllReadyH.nil
  go_simp
  go_at_call 34
  refine (way_any _ _ _ _ _ hc0 hc).mono ?_
  rintro e w4 ⟨rfl, hfr4⟩
  go_simp
  refine hK.out _ _ ⟨hfr4.keeps hHeld.1 (by simp), hfr4.keeps hHeld.2.1 (by simp), ?_, hHeld.2.2.2.trans hfr4⟩ (fun hHeld => ?_)
  · obtain ⟨z, hz1, hz2⟩ := hHeld.2.2.1
    exact ⟨z, hfr4.keeps hz1 (by simp), hz2⟩
  clear hK K
  refine wpAnyH_ready (rs := [6]) (by kernel_rfl) (by simp) ?_
  refine AllReadyH.cons rfl (fun K hK => ?_) AllReadyH.nil
  rw [if_pos (by rfl)]
  obtain ⟨z1, hz1, hz1'⟩ := hHeld.2.2.1
  refine wp_store_whole 25 _ _ rfl (w.heap.size + 1 + 1) rfl (stC (ent s 14 15 16 (setB (setB (s 1) 32#64 (tb (s 1) 1) &&& ~~~2#64) 256#64 false) pc c true tv)) rfl 25 z1 hz1 (by rw [hz1']; rfl) hi31 (oneCell_stC _) (fun w5 h5 hfr5 => ?_)
  have hfr5' : Fr [] w w5 := hHeld.2.2.2.step hfr5 (fun j hj => .inr (by simp at hj; omega))
  simp only [Act.put]
  refine hK.out _ _ ⟨hfr5.keeps hHeld.1 (by simp; omega), hfr5.keeps hHeld.2.1 (by simp), ⟨_, h5, rfl⟩, hfr5'⟩ (fun hHeld => ?_)
  clear hK K
  refine wpAnyH_ready (rs := [7]) (by kernel_rfl) (by simp) ?_
  refine AllReadyH.cons rfl (fun K hK => ?_) AllReadyH.nil
  go_simp
  refine hK.out _ _ hHeld (fun hHeld => ?_)
  clear hK K
  refine wpAnyH_ready (rs := [8]) (by kernel_rfl) (by simp) ?_
  refine AllReadyH.cons rfl (fun K hK => ?_) AllReadyH.nil
  go_simp
  refine hK.out _ _ hHeld (fun hHeld => ?_)
  clear hK K
  refine wpAnyH_done (by kernel_rfl) ?_ _
  go_wp2_with (fail)
  exact ⟨rfl, _, results_ctt rfl rfl h5 Try.underlying25 rfl hi31, rfl, hfr5'⟩

set_option maxRecDepth 100000 in
set_option maxHeartbeats 4000000 in
theorem enter_0Sx (s : Nat → BitVec 64) (m : Int) (pc c tv : BitVec 64) (w : World) (h0 : 0 ≤ m) (hrm : rm m = 0) (hc : U c < 256) (hd : downB s 0 (U c) false = true) :
    Calls Try.prog 15 #[.agg (stC s), .int .u8 m, .int .u64 (U pc), .agg #[.int .u8 (U c), .bool false, .int .u64 (U tv)]] w fun e w' => e = .returned (.tuple #[.agg (stC (ent s 14 15 16 (setB (setB (s 1) 32#64 (tb (s 1) 1) &&& ~~~2#64) 256#64 false) pc c false tv)), .int .u8 1, .int .u64 (U (wayB (s 13) (U c) false))]) ∧ Fr [] w w' := by
  have hc0 := (U_bd c).1
  have k8 := mask8_ne (s 1)
  have k2 := mask2_ne (s 1)
  have Hrm := hid hrm
  have Hd := hid hd
  clear hrm hd
  go_enter Try.func15, Try.ntmps15
  go_wp2_with (first | (go_at_call 25; refine (real_any m _ h0).mono ?_; rintro e w' ⟨rfl, rfl⟩; rw [Hrm.out]) | (go_at_call 32; refine (down_any s 0 (U c) false tv _ hc0).mono ?_; rintro e w' ⟨rfl, rfl⟩; rw [Hd.out]) | (refine wpList_load_row rfl 25 _ rfl w.heap.size rfl 25 (stC s) (0, 0) _ (blk_alloc (blk_alloc (blk_new _ _) _) _) Try.underlying25 rfl (by kernel_rfl) ?_))
  refine region_at (fun W => W.heap[w.heap.size]? = some (.cells (stC s) 25) ∧ W.heap[w.heap.size + 1]? = some (.cells (tkC c false tv) 34) ∧ (∃ z : Array Value, W.heap[w.heap.size + 1 + 1]? = some (.cells z 25) ∧ z.size = 31) ∧ Fr [] w W) (by kernel_rfl) (by kernel_rfl) ⟨blk_alloc (blk_alloc (blk_alloc (blk_alloc (blk_new _ _) _) _) _) _, blk_alloc (blk_alloc (blk_alloc (blk_new' (by simp) _) _) _) _, ⟨_, blk_alloc (blk_alloc (blk_new' (by simp) _) _) _, rfl⟩, ((((((Fr.refl _ _).alloc _).alloc _).alloc _).alloc _).alloc _)⟩ ?_
  rintro W ⟨hS, hT, hR, hfr⟩ hne
  have cS : ∀ (n : Ext W) (i : Nat), n.w.cell? ⟨w.heap.size, i, none⟩ = (stC s)[i]? := fun n i => n.cell hS i
  have HS := hid hS
  have HT := hid hT
  have HR := hid hR
  clear hS hT hR
  repeat (go_big_quiet_step (fail))
  refine wpQuiet_nil ?_
  intro _ hw'
  obtain ⟨n, hw''⟩ := hw'
  subst hw''
  clear hne
  have cT0 : n.w.cell? ⟨w.heap.size + 1, 0, none⟩ = some (.int .u8 (U c)) := n.cell HT.out 0
  have cT1 : n.w.cell? ⟨w.heap.size + 1, 1, none⟩ = some (.bool false) := n.cell HT.out 1
  have cT2 : n.w.cell? ⟨w.heap.size + 1, 2, none⟩ = some (.int .u64 (U tv)) := n.cell HT.out 2
  have cS1 := cS n
  have fS : ∀ i, n.w.frozen? ⟨w.heap.size, i, none⟩ = false := fun i => blk_free (n.blk HS.out) i
  clear cS
  go_wp2_with (first | (go_at_call 33; ((with_reducible refine (set32 _ _ _).mono ?_); rintro e w' ⟨rfl, rfl⟩)) | (go_at_call 33; ((with_reducible refine (set128 _ _ _).mono ?_); rintro e w' ⟨rfl, rfl⟩)) | (go_at_call 33; ((with_reducible refine (set256 _ _ _).mono ?_); rintro e w' ⟨rfl, rfl⟩)))
  go_quiet (fail)
  go_wp2_with (first | (go_at_call 33; ((with_reducible refine (set32 _ _ _).mono ?_); rintro e w' ⟨rfl, rfl⟩)) | (go_at_call 33; ((with_reducible refine (set128 _ _ _).mono ?_); rintro e w' ⟨rfl, rfl⟩)) | (go_at_call 33; ((with_reducible refine (set256 _ _ _).mono ?_); rintro e w' ⟨rfl, rfl⟩)))
  obtain ⟨z, HR', hz⟩ := HR.out
  refine world_at (fun W => W.heap[w.heap.size]? = some (.cells (stC (ent s 14 15 16 (setB (setB (s 1) 32#64 (tb (s 1) 1) &&& ~~~2#64) 256#64 false) pc c false tv)) 25) ∧ W.heap[w.heap.size + 1]? = some (.cells (tkC c false tv) 34) ∧ W.heap[w.heap.size + 1 + 1]? = some (.cells z 25) ∧ Fr [] w W) ⟨(st_set (st_set (st_set (st_set (w := n.w.drewN _) (n.blk HS.out) 1 _) _ _) _ _) _ _), (blk_set_keep (blk_set_keep (blk_set_keep (blk_set_keep (n.blk HT.out) _ _ (by show _ ≠ w.heap.size; omega)) _ _ (by show _ ≠ w.heap.size; omega)) _ _ (by show _ ≠ w.heap.size; omega)) _ _ (by show _ ≠ w.heap.size; omega)), (blk_set_keep (blk_set_keep (blk_set_keep (blk_set_keep (n.blk HR') _ _ (by show _ ≠ w.heap.size; omega)) _ _ (by show _ ≠ w.heap.size; omega)) _ _ (by show _ ≠ w.heap.size; omega)) _ _ (by show _ ≠ w.heap.size; omega)), ((((((hfr.trans n.fr).drewN _).setCell (.inr (by simp)) _).setCell (.inr (by simp)) _).setCell (.inr (by simp)) _).setCell (.inr (by simp)) _)⟩ ?_
  rintro W3 ⟨hS3, hT3, hR3, hfr3⟩
  have HS3 := hid hS3
  have HT3 := hid hT3
  have HR3 := hid hR3
  have hi31 : (Try.prog.info? 25).map (·.size) = some (stC (ent s 14 15 16 (setB (setB (s 1) 32#64 (tb (s 1) 1) &&& ~~~2#64) 256#64 false) pc c false tv)).size := by rw [size25]; rfl
  clear cT0 cT1 cT2 cS1 fS
  refine wp_region_held_drew (S := fun W' => W'.heap[w.heap.size]? = some (.cells (stC (ent s 14 15 16 (setB (setB (s 1) 32#64 (tb (s 1) 1) &&& ~~~2#64) 256#64 false) pc c false tv)) 25) ∧ W'.heap[w.heap.size + 1]? = some (.cells (tkC c false tv) 34) ∧ (∃ z : Array Value, W'.heap[w.heap.size + 1 + 1]? = some (.cells z 25) ∧ z.size = 31) ∧ Fr [] w W') (by kernel_rfl) ⟨hS3, hT3, ⟨z, hR3, hz⟩, hfr3.drew⟩ (fun hHeld => ?_)
  clear hS3 hT3 hR3
  refine wpAnyH_take (i := 0) rfl (by kernel_rfl) (by kernel_rfl) (by kernel_rfl) (fun _ _ _ h => h) (yieldsIf_row (by rfl) 25 _ rfl w.heap.size rfl 25 (stC (ent s 14 15 16 (setB (setB (s 1) 32#64 (tb (s 1) 1) &&& ~~~2#64) 256#64 false) pc c false tv)) (0, 0) _ (fun w' h => h.1) Try.underlying25 rfl hi31) hHeld ?_
  simp only [Act.put, List.setIfInBounds_toArray, List.set_cons_zero, List.set_cons_succ]
  refine wpAnyH_take (i := 1) rfl (by kernel_rfl) (by kernel_rfl) (by kernel_rfl) (fun _ _ _ h => h) (yieldsIf_of (.int .i64 1) (by rfl) (fun _ _ => by go_simp <;> rfl)) hHeld ?_
  simp only [Act.put, List.setIfInBounds_toArray, List.set_cons_zero, List.set_cons_succ]
  refine wpAnyH_take (i := 2) rfl (by kernel_rfl) (by kernel_rfl) (by kernel_rfl) (fun _ _ _ h => h) (yieldsIf_of (.int .u8 1) (by rfl) (fun _ _ => by go_simp <;> rfl)) hHeld ?_
  simp only [Act.put, List.setIfInBounds_toArray, List.set_cons_zero, List.set_cons_succ]
  refine wpAnyH_take (i := 3) rfl (by kernel_rfl) (by kernel_rfl) (by kernel_rfl) (fun _ _ _ h => h) (yieldsIf_of (.int .u64 (U (s 13))) (by rfl) (fun _ _ => by go_simp <;> rfl)) hHeld ?_
  simp only [Act.put, List.setIfInBounds_toArray, List.set_cons_zero, List.set_cons_succ]
  refine wpAnyH_take (i := 4) rfl (by kernel_rfl) (by kernel_rfl) (by kernel_rfl) (fun _ _ _ h => h) (yieldsIf_row (by rfl) 34 _ rfl (w.heap.size + 1) rfl 34 (tkC c false tv) (0, 0) _ (fun w' h => h.2.1) Try.underlying34 rfl (by kernel_rfl)) hHeld ?_
  simp only [Act.put, List.setIfInBounds_toArray, List.set_cons_zero, List.set_cons_succ]
  refine wpAnyH_ready (rs := [5]) (by kernel_rfl) (by simp) ?_
  refine AllReadyH.cons rfl (fun K hK => ?_) AllReadyH.nil
  go_simp
  go_at_call 34
  refine (way_any _ _ _ _ _ hc0 hc).mono ?_
  rintro e w4 ⟨rfl, hfr4⟩
  go_simp
  refine hK.out _ _ ⟨hfr4.keeps hHeld.1 (by simp), hfr4.keeps hHeld.2.1 (by simp), ?_, hHeld.2.2.2.trans hfr4⟩ (fun hHeld => ?_)
  · obtain ⟨z, hz1, hz2⟩ := hHeld.2.2.1
    exact ⟨z, hfr4.keeps hz1 (by simp), hz2⟩
  clear hK K
  refine wpAnyH_ready (rs := [6]) (by kernel_rfl) (by simp) ?_
  refine AllReadyH.cons rfl (fun K hK => ?_) AllReadyH.nil
  rw [if_pos (by rfl)]
  obtain ⟨z1, hz1, hz1'⟩ := hHeld.2.2.1
  refine wp_store_whole 25 _ _ rfl (w.heap.size + 1 + 1) rfl (stC (ent s 14 15 16 (setB (setB (s 1) 32#64 (tb (s 1) 1) &&& ~~~2#64) 256#64 false) pc c false tv)) rfl 25 z1 hz1 (by rw [hz1']; rfl) hi31 (oneCell_stC _) (fun w5 h5 hfr5 => ?_)
  have hfr5' : Fr [] w w5 := hHeld.2.2.2.step hfr5 (fun j hj => .inr (by simp at hj; omega))
  simp only [Act.put]
  refine hK.out _ _ ⟨hfr5.keeps hHeld.1 (by simp; omega), hfr5.keeps hHeld.2.1 (by simp), ⟨_, h5, rfl⟩, hfr5'⟩ (fun hHeld => ?_)
  clear hK K
  refine wpAnyH_ready (rs := [7]) (by kernel_rfl) (by simp) ?_
  refine AllReadyH.cons rfl (fun K hK => ?_) AllReadyH.nil
  go_simp
  refine hK.out _ _ hHeld (fun hHeld => ?_)
  clear hK K
  refine wpAnyH_ready (rs := [8]) (by kernel_rfl) (by simp) ?_
  refine AllReadyH.cons rfl (fun K hK => ?_) AllReadyH.nil
  go_simp
  refine hK.out _ _ hHeld (fun hHeld => ?_)
  clear hK K
  refine wpAnyH_done (by kernel_rfl) ?_ _
  go_wp2_with (fail)
  exact ⟨rfl, _, results_ctt rfl rfl h5 Try.underlying25 rfl hi31, rfl, hfr5'⟩

set_option maxRecDepth 100000 in
set_option maxHeartbeats 4000000 in
theorem enter_0Mi (s : Nat → BitVec 64) (m : Int) (pc c tv : BitVec 64) (w : World) (h0 : 0 ≤ m) (hrm : rm m = 0) (hc : U c < 256) (hd : downB s 0 (U c) true = false) :
    Calls Try.prog 15 #[.agg (stC s), .int .u8 m, .int .u64 (U pc), .agg #[.int .u8 (U c), .bool true, .int .u64 (U tv)]] w fun e w' => e = .returned (.tuple #[.agg (stC (ent s 8 9 10 (setB (s 1) 128#64 (tb (s 1) 3) &&& ~~~6152#64) pc c true tv)), .int .u8 3, .int .u64 (U (wayB (s 7) (U c) true))]) ∧ Fr [] w w' := by
  have hc0 := (U_bd c).1
  have k8 := mask8_ne (s 1)
  have k2 := mask2_ne (s 1)
  have Hrm := hid hrm
  have Hd := hid hd
  clear hrm hd
  go_enter Try.func15, Try.ntmps15
  go_wp2_with (first | (go_at_call 25; refine (real_any m _ h0).mono ?_; rintro e w' ⟨rfl, rfl⟩; rw [Hrm.out]) | (go_at_call 32; refine (down_any s 0 (U c) true tv _ hc0).mono ?_; rintro e w' ⟨rfl, rfl⟩; rw [Hd.out]) | (refine wpList_load_row rfl 25 _ rfl w.heap.size rfl 25 (stC s) (0, 0) _ (blk_alloc (blk_alloc (blk_new _ _) _) _) Try.underlying25 rfl (by kernel_rfl) ?_))
  refine region_at (fun W => W.heap[w.heap.size]? = some (.cells (stC s) 25) ∧ W.heap[w.heap.size + 1]? = some (.cells (tkC c true tv) 34) ∧ (∃ z : Array Value, W.heap[w.heap.size + 1 + 1]? = some (.cells z 25) ∧ z.size = 31) ∧ Fr [] w W) (by kernel_rfl) (by kernel_rfl) ⟨blk_alloc (blk_alloc (blk_alloc (blk_alloc (blk_new _ _) _) _) _) _, blk_alloc (blk_alloc (blk_alloc (blk_new' (by simp) _) _) _) _, ⟨_, blk_alloc (blk_alloc (blk_new' (by simp) _) _) _, rfl⟩, ((((((Fr.refl _ _).alloc _).alloc _).alloc _).alloc _).alloc _)⟩ ?_
  rintro W ⟨hS, hT, hR, hfr⟩ hne
  have cS : ∀ (n : Ext W) (i : Nat), n.w.cell? ⟨w.heap.size, i, none⟩ = (stC s)[i]? := fun n i => n.cell hS i
  have HS := hid hS
  have HT := hid hT
  have HR := hid hR
  clear hS hT hR
  repeat (go_big_quiet_step (fail))
  refine wpQuiet_nil ?_
  intro _ hw'
  obtain ⟨n, hw''⟩ := hw'
  subst hw''
  clear hne
  have cT0 : n.w.cell? ⟨w.heap.size + 1, 0, none⟩ = some (.int .u8 (U c)) := n.cell HT.out 0
  have cT1 : n.w.cell? ⟨w.heap.size + 1, 1, none⟩ = some (.bool true) := n.cell HT.out 1
  have cT2 : n.w.cell? ⟨w.heap.size + 1, 2, none⟩ = some (.int .u64 (U tv)) := n.cell HT.out 2
  have cS1 := cS n
  have fS : ∀ i, n.w.frozen? ⟨w.heap.size, i, none⟩ = false := fun i => blk_free (n.blk HS.out) i
  clear cS
  go_wp2_with (first | (go_at_call 33; ((with_reducible refine (set32 _ _ _).mono ?_); rintro e w' ⟨rfl, rfl⟩)) | (go_at_call 33; ((with_reducible refine (set128 _ _ _).mono ?_); rintro e w' ⟨rfl, rfl⟩)) | (go_at_call 33; ((with_reducible refine (set256 _ _ _).mono ?_); rintro e w' ⟨rfl, rfl⟩)))
  obtain ⟨z, HR', hz⟩ := HR.out
  refine world_at (fun W => W.heap[w.heap.size]? = some (.cells (stC (ent s 8 9 10 (setB (s 1) 128#64 (tb (s 1) 3) &&& ~~~6152#64) pc c true tv)) 25) ∧ W.heap[w.heap.size + 1]? = some (.cells (tkC c true tv) 34) ∧ W.heap[w.heap.size + 1 + 1]? = some (.cells z 25) ∧ Fr [] w W) ⟨(st_set (st_set (st_set (st_set (st_set (n.blk HS.out) 1 _) _ _) _ 0#64) _ _) _ _), (blk_set_keep (blk_set_keep (blk_set_keep (blk_set_keep (blk_set_keep (n.blk HT.out) _ _ (by show _ ≠ w.heap.size; omega)) _ _ (by show _ ≠ w.heap.size; omega)) _ _ (by show _ ≠ w.heap.size; omega)) _ _ (by show _ ≠ w.heap.size; omega)) _ _ (by show _ ≠ w.heap.size; omega)), (blk_set_keep (blk_set_keep (blk_set_keep (blk_set_keep (blk_set_keep (n.blk HR') _ _ (by show _ ≠ w.heap.size; omega)) _ _ (by show _ ≠ w.heap.size; omega)) _ _ (by show _ ≠ w.heap.size; omega)) _ _ (by show _ ≠ w.heap.size; omega)) _ _ (by show _ ≠ w.heap.size; omega)), ((((((hfr.trans n.fr).setCell (.inr (by simp)) _).setCell (.inr (by simp)) _).setCell (.inr (by simp)) _).setCell (.inr (by simp)) _).setCell (.inr (by simp)) _)⟩ ?_
  rintro W3 ⟨hS3, hT3, hR3, hfr3⟩
  have HS3 := hid hS3
  have HT3 := hid hT3
  have HR3 := hid hR3
  have hi31 : (Try.prog.info? 25).map (·.size) = some (stC (ent s 8 9 10 (setB (s 1) 128#64 (tb (s 1) 3) &&& ~~~6152#64) pc c true tv)).size := by rw [size25]; rfl
  clear cT0 cT1 cT2 cS1 fS
  refine wp_region_held_drew (S := fun W' => W'.heap[w.heap.size]? = some (.cells (stC (ent s 8 9 10 (setB (s 1) 128#64 (tb (s 1) 3) &&& ~~~6152#64) pc c true tv)) 25) ∧ W'.heap[w.heap.size + 1]? = some (.cells (tkC c true tv) 34) ∧ (∃ z : Array Value, W'.heap[w.heap.size + 1 + 1]? = some (.cells z 25) ∧ z.size = 31) ∧ Fr [] w W') (by kernel_rfl) ⟨hS3, hT3, ⟨z, hR3, hz⟩, hfr3.drew⟩ (fun hHeld => ?_)
  clear hS3 hT3 hR3
  refine wpAnyH_take (i := 0) rfl (by kernel_rfl) (by kernel_rfl) (by kernel_rfl) (fun _ _ _ h => h) (yieldsIf_row (by rfl) 25 _ rfl w.heap.size rfl 25 (stC (ent s 8 9 10 (setB (s 1) 128#64 (tb (s 1) 3) &&& ~~~6152#64) pc c true tv)) (0, 0) _ (fun w' h => h.1) Try.underlying25 rfl hi31) hHeld ?_
  simp only [Act.put, List.setIfInBounds_toArray, List.set_cons_zero, List.set_cons_succ]
  refine wpAnyH_take (i := 1) rfl (by kernel_rfl) (by kernel_rfl) (by kernel_rfl) (fun _ _ _ h => h) (yieldsIf_of (.int .i64 3) (by rfl) (fun _ _ => by go_simp <;> rfl)) hHeld ?_
  simp only [Act.put, List.setIfInBounds_toArray, List.set_cons_zero, List.set_cons_succ]
  refine wpAnyH_take (i := 2) rfl (by kernel_rfl) (by kernel_rfl) (by kernel_rfl) (fun _ _ _ h => h) (yieldsIf_of (.int .u8 3) (by rfl) (fun _ _ => by go_simp <;> rfl)) hHeld ?_
  simp only [Act.put, List.setIfInBounds_toArray, List.set_cons_zero, List.set_cons_succ]
  refine wpAnyH_take (i := 3) rfl (by kernel_rfl) (by kernel_rfl) (by kernel_rfl) (fun _ _ _ h => h) (yieldsIf_of (.int .u64 (U (s 7))) (by rfl) (fun _ _ => by go_simp <;> rfl)) hHeld ?_
  simp only [Act.put, List.setIfInBounds_toArray, List.set_cons_zero, List.set_cons_succ]
  refine wpAnyH_take (i := 4) rfl (by kernel_rfl) (by kernel_rfl) (by kernel_rfl) (fun _ _ _ h => h) (yieldsIf_row (by rfl) 34 _ rfl (w.heap.size + 1) rfl 34 (tkC c true tv) (0, 0) _ (fun w' h => h.2.1) Try.underlying34 rfl (by kernel_rfl)) hHeld ?_
  simp only [Act.put, List.setIfInBounds_toArray, List.set_cons_zero, List.set_cons_succ]
  refine wpAnyH_ready (rs := [5]) (by kernel_rfl) (by simp) ?_
  refine AllReadyH.cons rfl (fun K hK => ?_) AllReadyH.nil
  go_simp
  go_at_call 34
  refine (way_any _ _ _ _ _ hc0 hc).mono ?_
  rintro e w4 ⟨rfl, hfr4⟩
  go_simp
  refine hK.out _ _ ⟨hfr4.keeps hHeld.1 (by simp), hfr4.keeps hHeld.2.1 (by simp), ?_, hHeld.2.2.2.trans hfr4⟩ (fun hHeld => ?_)
  · obtain ⟨z, hz1, hz2⟩ := hHeld.2.2.1
    exact ⟨z, hfr4.keeps hz1 (by simp), hz2⟩
  clear hK K
  refine wpAnyH_ready (rs := [6]) (by kernel_rfl) (by simp) ?_
  refine AllReadyH.cons rfl (fun K hK => ?_) AllReadyH.nil
  rw [if_pos (by rfl)]
  obtain ⟨z1, hz1, hz1'⟩ := hHeld.2.2.1
  refine wp_store_whole 25 _ _ rfl (w.heap.size + 1 + 1) rfl (stC (ent s 8 9 10 (setB (s 1) 128#64 (tb (s 1) 3) &&& ~~~6152#64) pc c true tv)) rfl 25 z1 hz1 (by rw [hz1']; rfl) hi31 (oneCell_stC _) (fun w5 h5 hfr5 => ?_)
  have hfr5' : Fr [] w w5 := hHeld.2.2.2.step hfr5 (fun j hj => .inr (by simp at hj; omega))
  simp only [Act.put]
  refine hK.out _ _ ⟨hfr5.keeps hHeld.1 (by simp; omega), hfr5.keeps hHeld.2.1 (by simp), ⟨_, h5, rfl⟩, hfr5'⟩ (fun hHeld => ?_)
  clear hK K
  refine wpAnyH_ready (rs := [7]) (by kernel_rfl) (by simp) ?_
  refine AllReadyH.cons rfl (fun K hK => ?_) AllReadyH.nil
  go_simp
  refine hK.out _ _ hHeld (fun hHeld => ?_)
  clear hK K
  refine wpAnyH_ready (rs := [8]) (by kernel_rfl) (by simp) ?_
  refine AllReadyH.cons rfl (fun K hK => ?_) AllReadyH.nil
  go_simp
  refine hK.out _ _ hHeld (fun hHeld => ?_)
  clear hK K
  refine wpAnyH_done (by kernel_rfl) ?_ _
  go_wp2_with (fail)
  exact ⟨rfl, _, results_ctt rfl rfl h5 Try.underlying25 rfl hi31, rfl, hfr5'⟩

set_option maxRecDepth 100000 in
set_option maxHeartbeats 4000000 in
theorem enter_0Mx (s : Nat → BitVec 64) (m : Int) (pc c tv : BitVec 64) (w : World) (h0 : 0 ≤ m) (hrm : rm m = 0) (hc : U c < 256) (hd : downB s 0 (U c) false = false) :
    Calls Try.prog 15 #[.agg (stC s), .int .u8 m, .int .u64 (U pc), .agg #[.int .u8 (U c), .bool false, .int .u64 (U tv)]] w fun e w' => e = .returned (.tuple #[.agg (stC (ent s 8 9 10 (setB (s 1) 128#64 (tb (s 1) 3) &&& ~~~6152#64) pc c false tv)), .int .u8 3, .int .u64 (U (wayB (s 7) (U c) false))]) ∧ Fr [] w w' := by
  have hc0 := (U_bd c).1
  have k8 := mask8_ne (s 1)
  have k2 := mask2_ne (s 1)
  have Hrm := hid hrm
  have Hd := hid hd
  clear hrm hd
  go_enter Try.func15, Try.ntmps15
  go_wp2_with (first | (go_at_call 25; refine (real_any m _ h0).mono ?_; rintro e w' ⟨rfl, rfl⟩; rw [Hrm.out]) | (go_at_call 32; refine (down_any s 0 (U c) false tv _ hc0).mono ?_; rintro e w' ⟨rfl, rfl⟩; rw [Hd.out]) | (refine wpList_load_row rfl 25 _ rfl w.heap.size rfl 25 (stC s) (0, 0) _ (blk_alloc (blk_alloc (blk_new _ _) _) _) Try.underlying25 rfl (by kernel_rfl) ?_))
  refine region_at (fun W => W.heap[w.heap.size]? = some (.cells (stC s) 25) ∧ W.heap[w.heap.size + 1]? = some (.cells (tkC c false tv) 34) ∧ (∃ z : Array Value, W.heap[w.heap.size + 1 + 1]? = some (.cells z 25) ∧ z.size = 31) ∧ Fr [] w W) (by kernel_rfl) (by kernel_rfl) ⟨blk_alloc (blk_alloc (blk_alloc (blk_alloc (blk_new _ _) _) _) _) _, blk_alloc (blk_alloc (blk_alloc (blk_new' (by simp) _) _) _) _, ⟨_, blk_alloc (blk_alloc (blk_new' (by simp) _) _) _, rfl⟩, ((((((Fr.refl _ _).alloc _).alloc _).alloc _).alloc _).alloc _)⟩ ?_
  rintro W ⟨hS, hT, hR, hfr⟩ hne
  have cS : ∀ (n : Ext W) (i : Nat), n.w.cell? ⟨w.heap.size, i, none⟩ = (stC s)[i]? := fun n i => n.cell hS i
  have HS := hid hS
  have HT := hid hT
  have HR := hid hR
  clear hS hT hR
  repeat (go_big_quiet_step (fail))
  refine wpQuiet_nil ?_
  intro _ hw'
  obtain ⟨n, hw''⟩ := hw'
  subst hw''
  clear hne
  have cT0 : n.w.cell? ⟨w.heap.size + 1, 0, none⟩ = some (.int .u8 (U c)) := n.cell HT.out 0
  have cT1 : n.w.cell? ⟨w.heap.size + 1, 1, none⟩ = some (.bool false) := n.cell HT.out 1
  have cT2 : n.w.cell? ⟨w.heap.size + 1, 2, none⟩ = some (.int .u64 (U tv)) := n.cell HT.out 2
  have cS1 := cS n
  have fS : ∀ i, n.w.frozen? ⟨w.heap.size, i, none⟩ = false := fun i => blk_free (n.blk HS.out) i
  clear cS
  go_wp2_with (first | (go_at_call 33; ((with_reducible refine (set32 _ _ _).mono ?_); rintro e w' ⟨rfl, rfl⟩)) | (go_at_call 33; ((with_reducible refine (set128 _ _ _).mono ?_); rintro e w' ⟨rfl, rfl⟩)) | (go_at_call 33; ((with_reducible refine (set256 _ _ _).mono ?_); rintro e w' ⟨rfl, rfl⟩)))
  obtain ⟨z, HR', hz⟩ := HR.out
  refine world_at (fun W => W.heap[w.heap.size]? = some (.cells (stC (ent s 8 9 10 (setB (s 1) 128#64 (tb (s 1) 3) &&& ~~~6152#64) pc c false tv)) 25) ∧ W.heap[w.heap.size + 1]? = some (.cells (tkC c false tv) 34) ∧ W.heap[w.heap.size + 1 + 1]? = some (.cells z 25) ∧ Fr [] w W) ⟨(st_set (st_set (st_set (st_set (n.blk HS.out) 1 _) _ _) _ _) _ _), (blk_set_keep (blk_set_keep (blk_set_keep (blk_set_keep (n.blk HT.out) _ _ (by show _ ≠ w.heap.size; omega)) _ _ (by show _ ≠ w.heap.size; omega)) _ _ (by show _ ≠ w.heap.size; omega)) _ _ (by show _ ≠ w.heap.size; omega)), (blk_set_keep (blk_set_keep (blk_set_keep (blk_set_keep (n.blk HR') _ _ (by show _ ≠ w.heap.size; omega)) _ _ (by show _ ≠ w.heap.size; omega)) _ _ (by show _ ≠ w.heap.size; omega)) _ _ (by show _ ≠ w.heap.size; omega)), (((((hfr.trans n.fr).setCell (.inr (by simp)) _).setCell (.inr (by simp)) _).setCell (.inr (by simp)) _).setCell (.inr (by simp)) _)⟩ ?_
  rintro W3 ⟨hS3, hT3, hR3, hfr3⟩
  have HS3 := hid hS3
  have HT3 := hid hT3
  have HR3 := hid hR3
  have hi31 : (Try.prog.info? 25).map (·.size) = some (stC (ent s 8 9 10 (setB (s 1) 128#64 (tb (s 1) 3) &&& ~~~6152#64) pc c false tv)).size := by rw [size25]; rfl
  clear cT0 cT1 cT2 cS1 fS
  refine wp_region_held_drew (S := fun W' => W'.heap[w.heap.size]? = some (.cells (stC (ent s 8 9 10 (setB (s 1) 128#64 (tb (s 1) 3) &&& ~~~6152#64) pc c false tv)) 25) ∧ W'.heap[w.heap.size + 1]? = some (.cells (tkC c false tv) 34) ∧ (∃ z : Array Value, W'.heap[w.heap.size + 1 + 1]? = some (.cells z 25) ∧ z.size = 31) ∧ Fr [] w W') (by kernel_rfl) ⟨hS3, hT3, ⟨z, hR3, hz⟩, hfr3.drew⟩ (fun hHeld => ?_)
  clear hS3 hT3 hR3
  refine wpAnyH_take (i := 0) rfl (by kernel_rfl) (by kernel_rfl) (by kernel_rfl) (fun _ _ _ h => h) (yieldsIf_row (by rfl) 25 _ rfl w.heap.size rfl 25 (stC (ent s 8 9 10 (setB (s 1) 128#64 (tb (s 1) 3) &&& ~~~6152#64) pc c false tv)) (0, 0) _ (fun w' h => h.1) Try.underlying25 rfl hi31) hHeld ?_
  simp only [Act.put, List.setIfInBounds_toArray, List.set_cons_zero, List.set_cons_succ]
  refine wpAnyH_take (i := 1) rfl (by kernel_rfl) (by kernel_rfl) (by kernel_rfl) (fun _ _ _ h => h) (yieldsIf_of (.int .i64 3) (by rfl) (fun _ _ => by go_simp <;> rfl)) hHeld ?_
  simp only [Act.put, List.setIfInBounds_toArray, List.set_cons_zero, List.set_cons_succ]
  refine wpAnyH_take (i := 2) rfl (by kernel_rfl) (by kernel_rfl) (by kernel_rfl) (fun _ _ _ h => h) (yieldsIf_of (.int .u8 3) (by rfl) (fun _ _ => by go_simp <;> rfl)) hHeld ?_
  simp only [Act.put, List.setIfInBounds_toArray, List.set_cons_zero, List.set_cons_succ]
  refine wpAnyH_take (i := 3) rfl (by kernel_rfl) (by kernel_rfl) (by kernel_rfl) (fun _ _ _ h => h) (yieldsIf_of (.int .u64 (U (s 7))) (by rfl) (fun _ _ => by go_simp <;> rfl)) hHeld ?_
  simp only [Act.put, List.setIfInBounds_toArray, List.set_cons_zero, List.set_cons_succ]
  refine wpAnyH_take (i := 4) rfl (by kernel_rfl) (by kernel_rfl) (by kernel_rfl) (fun _ _ _ h => h) (yieldsIf_row (by rfl) 34 _ rfl (w.heap.size + 1) rfl 34 (tkC c false tv) (0, 0) _ (fun w' h => h.2.1) Try.underlying34 rfl (by kernel_rfl)) hHeld ?_
  simp only [Act.put, List.setIfInBounds_toArray, List.set_cons_zero, List.set_cons_succ]
  refine wpAnyH_ready (rs := [5]) (by kernel_rfl) (by simp) ?_
  refine AllReadyH.cons rfl (fun K hK => ?_) AllReadyH.nil
  go_simp
  go_at_call 34
  refine (way_any _ _ _ _ _ hc0 hc).mono ?_
  rintro e w4 ⟨rfl, hfr4⟩
  go_simp
  refine hK.out _ _ ⟨hfr4.keeps hHeld.1 (by simp), hfr4.keeps hHeld.2.1 (by simp), ?_, hHeld.2.2.2.trans hfr4⟩ (fun hHeld => ?_)
  · obtain ⟨z, hz1, hz2⟩ := hHeld.2.2.1
    exact ⟨z, hfr4.keeps hz1 (by simp), hz2⟩
  clear hK K
  refine wpAnyH_ready (rs := [6]) (by kernel_rfl) (by simp) ?_
  refine AllReadyH.cons rfl (fun K hK => ?_) AllReadyH.nil
  rw [if_pos (by rfl)]
  obtain ⟨z1, hz1, hz1'⟩ := hHeld.2.2.1
  refine wp_store_whole 25 _ _ rfl (w.heap.size + 1 + 1) rfl (stC (ent s 8 9 10 (setB (s 1) 128#64 (tb (s 1) 3) &&& ~~~6152#64) pc c false tv)) rfl 25 z1 hz1 (by rw [hz1']; rfl) hi31 (oneCell_stC _) (fun w5 h5 hfr5 => ?_)
  have hfr5' : Fr [] w w5 := hHeld.2.2.2.step hfr5 (fun j hj => .inr (by simp at hj; omega))
  simp only [Act.put]
  refine hK.out _ _ ⟨hfr5.keeps hHeld.1 (by simp; omega), hfr5.keeps hHeld.2.1 (by simp), ⟨_, h5, rfl⟩, hfr5'⟩ (fun hHeld => ?_)
  clear hK K
  refine wpAnyH_ready (rs := [7]) (by kernel_rfl) (by simp) ?_
  refine AllReadyH.cons rfl (fun K hK => ?_) AllReadyH.nil
  go_simp
  refine hK.out _ _ hHeld (fun hHeld => ?_)
  clear hK K
  refine wpAnyH_ready (rs := [8]) (by kernel_rfl) (by simp) ?_
  refine AllReadyH.cons rfl (fun K hK => ?_) AllReadyH.nil
  go_simp
  refine hK.out _ _ hHeld (fun hHeld => ?_)
  clear hK K
  refine wpAnyH_done (by kernel_rfl) ?_ _
  go_wp2_with (fail)
  exact ⟨rfl, _, results_ctt rfl rfl h5 Try.underlying25 rfl hi31, rfl, hfr5'⟩

set_option maxRecDepth 100000 in
set_option maxHeartbeats 4000000 in
theorem enter_1Si (s : Nat → BitVec 64) (m : Int) (pc c tv : BitVec 64) (w : World) (h0 : 0 ≤ m) (hrm : rm m = 1) (hc : U c < 256) (hd : downB s 1 (U c) true = true) :
    Calls Try.prog 15 #[.agg (stC s), .int .u8 m, .int .u64 (U pc), .agg #[.int .u8 (U c), .bool true, .int .u64 (U tv)]] w fun e w' => e = .returned (.tuple #[.agg (stC (ent s 14 15 16 (setB (setB (s 1) 32#64 (tb (s 1) 1) &&& ~~~2#64) 256#64 true) pc c true tv)), .int .u8 1, .int .u64 (U (wayB (s 13) (U c) true))]) ∧ Fr [] w w' := by
  have hc0 := (U_bd c).1
  have k8 := mask8_ne (s 1)
  have k2 := mask2_ne (s 1)
  have Hrm := hid hrm
  have Hd := hid hd
  clear hrm hd
  go_enter Try.func15, Try.ntmps15
  go_wp2_with (first | (go_at_call 25; refine (real_any m _ h0).mono ?_; rintro e w' ⟨rfl, rfl⟩; rw [Hrm.out]) | (go_at_call 32; refine (down_any s 1 (U c) true tv _ hc0).mono ?_; rintro e w' ⟨rfl, rfl⟩; rw [Hd.out]) | (refine wpList_load_row rfl 25 _ rfl w.heap.size rfl 25 (stC s) (0, 0) _ (blk_alloc (blk_alloc (blk_new _ _) _) _) Try.underlying25 rfl (by kernel_rfl) ?_))
  refine region_at (fun W => W.heap[w.heap.size]? = some (.cells (stC s) 25) ∧ W.heap[w.heap.size + 1]? = some (.cells (tkC c true tv) 34) ∧ (∃ z : Array Value, W.heap[w.heap.size + 1 + 1]? = some (.cells z 25) ∧ z.size = 31) ∧ Fr [] w W) (by kernel_rfl) (by kernel_rfl) ⟨blk_alloc (blk_alloc (blk_alloc (blk_alloc (blk_new _ _) _) _) _) _, blk_alloc (blk_alloc (blk_alloc (blk_new' (by simp) _) _) _) _, ⟨_, blk_alloc (blk_alloc (blk_new' (by simp) _) _) _, rfl⟩, ((((((Fr.refl _ _).alloc _).alloc _).alloc _).alloc _).alloc _)⟩ ?_
  rintro W ⟨hS, hT, hR, hfr⟩ hne
  have cS : ∀ (n : Ext W) (i : Nat), n.w.cell? ⟨w.heap.size, i, none⟩ = (stC s)[i]? := fun n i => n.cell hS i
  have HS := hid hS
  have HT := hid hT
  have HR := hid hR
  clear hS hT hR
  repeat (go_big_quiet_step (fail))
  refine wpQuiet_nil ?_
  intro _ hw'
  obtain ⟨n, hw''⟩ := hw'
  subst hw''
  clear hne
  have cT0 : n.w.cell? ⟨w.heap.size + 1, 0, none⟩ = some (.int .u8 (U c)) := n.cell HT.out 0
  have cT1 : n.w.cell? ⟨w.heap.size + 1, 1, none⟩ = some (.bool true) := n.cell HT.out 1
  have cT2 : n.w.cell? ⟨w.heap.size + 1, 2, none⟩ = some (.int .u64 (U tv)) := n.cell HT.out 2
  have cS1 := cS n
  have fS : ∀ i, n.w.frozen? ⟨w.heap.size, i, none⟩ = false := fun i => blk_free (n.blk HS.out) i
  clear cS
  go_wp2_with (first | (go_at_call 33; ((with_reducible refine (set32 _ _ _).mono ?_); rintro e w' ⟨rfl, rfl⟩)) | (go_at_call 33; ((with_reducible refine (set128 _ _ _).mono ?_); rintro e w' ⟨rfl, rfl⟩)) | (go_at_call 33; ((with_reducible refine (set256 _ _ _).mono ?_); rintro e w' ⟨rfl, rfl⟩)))
  go_quiet (fail)
  go_wp2_with (first | (go_at_call 33; ((with_reducible refine (set32 _ _ _).mono ?_); rintro e w' ⟨rfl, rfl⟩)) | (go_at_call 33; ((with_reducible refine (set128 _ _ _).mono ?_); rintro e w' ⟨rfl, rfl⟩)) | (go_at_call 33; ((with_reducible refine (set256 _ _ _).mono ?_); rintro e w' ⟨rfl, rfl⟩)))
  obtain ⟨z, HR', hz⟩ := HR.out
  refine world_at (fun W => W.heap[w.heap.size]? = some (.cells (stC (ent s 14 15 16 (setB (setB (s 1) 32#64 (tb (s 1) 1) &&& ~~~2#64) 256#64 true) pc c true tv)) 25) ∧ W.heap[w.heap.size + 1]? = some (.cells (tkC c true tv) 34) ∧ W.heap[w.heap.size + 1 + 1]? = some (.cells z 25) ∧ Fr [] w W) ⟨(st_set (st_set (st_set (st_set (st_set (w := n.w.drewN _) (n.blk HS.out) 1 _) _ _) _ 0#64) _ _) _ _), (blk_set_keep (blk_set_keep (blk_set_keep (blk_set_keep (blk_set_keep (n.blk HT.out) _ _ (by show _ ≠ w.heap.size; omega)) _ _ (by show _ ≠ w.heap.size; omega)) _ _ (by show _ ≠ w.heap.size; omega)) _ _ (by show _ ≠ w.heap.size; omega)) _ _ (by show _ ≠ w.heap.size; omega)), (blk_set_keep (blk_set_keep (blk_set_keep (blk_set_keep (blk_set_keep (n.blk HR') _ _ (by show _ ≠ w.heap.size; omega)) _ _ (by show _ ≠ w.heap.size; omega)) _ _ (by show _ ≠ w.heap.size; omega)) _ _ (by show _ ≠ w.heap.size; omega)) _ _ (by show _ ≠ w.heap.size; omega)), (((((((hfr.trans n.fr).drewN _).setCell (.inr (by simp)) _).setCell (.inr (by simp)) _).setCell (.inr (by simp)) _).setCell (.inr (by simp)) _).setCell (.inr (by simp)) _)⟩ ?_
  rintro W3 ⟨hS3, hT3, hR3, hfr3⟩
  have HS3 := hid hS3
  have HT3 := hid hT3
  have HR3 := hid hR3
  have hi31 : (Try.prog.info? 25).map (·.size) = some (stC (ent s 14 15 16 (setB (setB (s 1) 32#64 (tb (s 1) 1) &&& ~~~2#64) 256#64 true) pc c true tv)).size := by rw [size25]; rfl
  clear cT0 cT1 cT2 cS1 fS
  refine wp_region_held_drew (S := fun W' => W'.heap[w.heap.size]? = some (.cells (stC (ent s 14 15 16 (setB (setB (s 1) 32#64 (tb (s 1) 1) &&& ~~~2#64) 256#64 true) pc c true tv)) 25) ∧ W'.heap[w.heap.size + 1]? = some (.cells (tkC c true tv) 34) ∧ (∃ z : Array Value, W'.heap[w.heap.size + 1 + 1]? = some (.cells z 25) ∧ z.size = 31) ∧ Fr [] w W') (by kernel_rfl) ⟨hS3, hT3, ⟨z, hR3, hz⟩, hfr3.drew⟩ (fun hHeld => ?_)
  clear hS3 hT3 hR3
  refine wpAnyH_take (i := 0) rfl (by kernel_rfl) (by kernel_rfl) (by kernel_rfl) (fun _ _ _ h => h) (yieldsIf_row (by rfl) 25 _ rfl w.heap.size rfl 25 (stC (ent s 14 15 16 (setB (setB (s 1) 32#64 (tb (s 1) 1) &&& ~~~2#64) 256#64 true) pc c true tv)) (0, 0) _ (fun w' h => h.1) Try.underlying25 rfl hi31) hHeld ?_
  simp only [Act.put, List.setIfInBounds_toArray, List.set_cons_zero, List.set_cons_succ]
  refine wpAnyH_take (i := 1) rfl (by kernel_rfl) (by kernel_rfl) (by kernel_rfl) (fun _ _ _ h => h) (yieldsIf_of (.int .i64 1) (by rfl) (fun _ _ => by go_simp <;> rfl)) hHeld ?_
  simp only [Act.put, List.setIfInBounds_toArray, List.set_cons_zero, List.set_cons_succ]
  refine wpAnyH_take (i := 2) rfl (by kernel_rfl) (by kernel_rfl) (by kernel_rfl) (fun _ _ _ h => h) (yieldsIf_of (.int .u8 1) (by rfl) (fun _ _ => by go_simp <;> rfl)) hHeld ?_
  simp only [Act.put, List.setIfInBounds_toArray, List.set_cons_zero, List.set_cons_succ]
  refine wpAnyH_take (i := 3) rfl (by kernel_rfl) (by kernel_rfl) (by kernel_rfl) (fun _ _ _ h => h) (yieldsIf_of (.int .u64 (U (s 13))) (by rfl) (fun _ _ => by go_simp <;> rfl)) hHeld ?_
  simp only [Act.put, List.setIfInBounds_toArray, List.set_cons_zero, List.set_cons_succ]
  refine wpAnyH_take (i := 4) rfl (by kernel_rfl) (by kernel_rfl) (by kernel_rfl) (fun _ _ _ h => h) (yieldsIf_row (by rfl) 34 _ rfl (w.heap.size + 1) rfl 34 (tkC c true tv) (0, 0) _ (fun w' h => h.2.1) Try.underlying34 rfl (by kernel_rfl)) hHeld ?_
  simp only [Act.put, List.setIfInBounds_toArray, List.set_cons_zero, List.set_cons_succ]
  refine wpAnyH_ready (rs := [5]) (by kernel_rfl) (by simp) ?_
  refine AllReadyH.cons rfl (fun K hK => ?_) AllReadyH.nil
  go_simp
  go_at_call 34
  refine (way_any _ _ _ _ _ hc0 hc).mono ?_
  rintro e w4 ⟨rfl, hfr4⟩
  go_simp
  refine hK.out _ _ ⟨hfr4.keeps hHeld.1 (by simp), hfr4.keeps hHeld.2.1 (by simp), ?_, hHeld.2.2.2.trans hfr4⟩ (fun hHeld => ?_)
  · obtain ⟨z, hz1, hz2⟩ := hHeld.2.2.1
    exact ⟨z, hfr4.keeps hz1 (by simp), hz2⟩
  clear hK K
  refine wpAnyH_ready (rs := [6]) (by kernel_rfl) (by simp) ?_
  refine AllReadyH.cons rfl (fun K hK => ?_) AllReadyH.nil
  rw [if_pos (by rfl)]
  obtain ⟨z1, hz1, hz1'⟩ := hHeld.2.2.1
  refine wp_store_whole 25 _ _ rfl (w.heap.size + 1 + 1) rfl (stC (ent s 14 15 16 (setB (setB (s 1) 32#64 (tb (s 1) 1) &&& ~~~2#64) 256#64 true) pc c true tv)) rfl 25 z1 hz1 (by rw [hz1']; rfl) hi31 (oneCell_stC _) (fun w5 h5 hfr5 => ?_)
  have hfr5' : Fr [] w w5 := hHeld.2.2.2.step hfr5 (fun j hj => .inr (by simp at hj; omega))
  simp only [Act.put]
  refine hK.out _ _ ⟨hfr5.keeps hHeld.1 (by simp; omega), hfr5.keeps hHeld.2.1 (by simp), ⟨_, h5, rfl⟩, hfr5'⟩ (fun hHeld => ?_)
  clear hK K
  refine wpAnyH_ready (rs := [7]) (by kernel_rfl) (by simp) ?_
  refine AllReadyH.cons rfl (fun K hK => ?_) AllReadyH.nil
  go_simp
  refine hK.out _ _ hHeld (fun hHeld => ?_)
  clear hK K
  refine wpAnyH_ready (rs := [8]) (by kernel_rfl) (by simp) ?_
  refine AllReadyH.cons rfl (fun K hK => ?_) AllReadyH.nil
  go_simp
  refine hK.out _ _ hHeld (fun hHeld => ?_)
  clear hK K
  refine wpAnyH_done (by kernel_rfl) ?_ _
  go_wp2_with (fail)
  exact ⟨rfl, _, results_ctt rfl rfl h5 Try.underlying25 rfl hi31, rfl, hfr5'⟩

set_option maxRecDepth 100000 in
set_option maxHeartbeats 4000000 in
theorem enter_1Sx (s : Nat → BitVec 64) (m : Int) (pc c tv : BitVec 64) (w : World) (h0 : 0 ≤ m) (hrm : rm m = 1) (hc : U c < 256) (hd : downB s 1 (U c) false = true) :
    Calls Try.prog 15 #[.agg (stC s), .int .u8 m, .int .u64 (U pc), .agg #[.int .u8 (U c), .bool false, .int .u64 (U tv)]] w fun e w' => e = .returned (.tuple #[.agg (stC (ent s 14 15 16 (setB (setB (s 1) 32#64 (tb (s 1) 1) &&& ~~~2#64) 256#64 true) pc c false tv)), .int .u8 1, .int .u64 (U (wayB (s 13) (U c) false))]) ∧ Fr [] w w' := by
  have hc0 := (U_bd c).1
  have k8 := mask8_ne (s 1)
  have k2 := mask2_ne (s 1)
  have Hrm := hid hrm
  have Hd := hid hd
  clear hrm hd
  go_enter Try.func15, Try.ntmps15
  go_wp2_with (first | (go_at_call 25; refine (real_any m _ h0).mono ?_; rintro e w' ⟨rfl, rfl⟩; rw [Hrm.out]) | (go_at_call 32; refine (down_any s 1 (U c) false tv _ hc0).mono ?_; rintro e w' ⟨rfl, rfl⟩; rw [Hd.out]) | (refine wpList_load_row rfl 25 _ rfl w.heap.size rfl 25 (stC s) (0, 0) _ (blk_alloc (blk_alloc (blk_new _ _) _) _) Try.underlying25 rfl (by kernel_rfl) ?_))
  refine region_at (fun W => W.heap[w.heap.size]? = some (.cells (stC s) 25) ∧ W.heap[w.heap.size + 1]? = some (.cells (tkC c false tv) 34) ∧ (∃ z : Array Value, W.heap[w.heap.size + 1 + 1]? = some (.cells z 25) ∧ z.size = 31) ∧ Fr [] w W) (by kernel_rfl) (by kernel_rfl) ⟨blk_alloc (blk_alloc (blk_alloc (blk_alloc (blk_new _ _) _) _) _) _, blk_alloc (blk_alloc (blk_alloc (blk_new' (by simp) _) _) _) _, ⟨_, blk_alloc (blk_alloc (blk_new' (by simp) _) _) _, rfl⟩, ((((((Fr.refl _ _).alloc _).alloc _).alloc _).alloc _).alloc _)⟩ ?_
  rintro W ⟨hS, hT, hR, hfr⟩ hne
  have cS : ∀ (n : Ext W) (i : Nat), n.w.cell? ⟨w.heap.size, i, none⟩ = (stC s)[i]? := fun n i => n.cell hS i
  have HS := hid hS
  have HT := hid hT
  have HR := hid hR
  clear hS hT hR
  repeat (go_big_quiet_step (fail))
  refine wpQuiet_nil ?_
  intro _ hw'
  obtain ⟨n, hw''⟩ := hw'
  subst hw''
  clear hne
  have cT0 : n.w.cell? ⟨w.heap.size + 1, 0, none⟩ = some (.int .u8 (U c)) := n.cell HT.out 0
  have cT1 : n.w.cell? ⟨w.heap.size + 1, 1, none⟩ = some (.bool false) := n.cell HT.out 1
  have cT2 : n.w.cell? ⟨w.heap.size + 1, 2, none⟩ = some (.int .u64 (U tv)) := n.cell HT.out 2
  have cS1 := cS n
  have fS : ∀ i, n.w.frozen? ⟨w.heap.size, i, none⟩ = false := fun i => blk_free (n.blk HS.out) i
  clear cS
  go_wp2_with (first | (go_at_call 33; ((with_reducible refine (set32 _ _ _).mono ?_); rintro e w' ⟨rfl, rfl⟩)) | (go_at_call 33; ((with_reducible refine (set128 _ _ _).mono ?_); rintro e w' ⟨rfl, rfl⟩)) | (go_at_call 33; ((with_reducible refine (set256 _ _ _).mono ?_); rintro e w' ⟨rfl, rfl⟩)))
  go_quiet (fail)
  go_wp2_with (first | (go_at_call 33; ((with_reducible refine (set32 _ _ _).mono ?_); rintro e w' ⟨rfl, rfl⟩)) | (go_at_call 33; ((with_reducible refine (set128 _ _ _).mono ?_); rintro e w' ⟨rfl, rfl⟩)) | (go_at_call 33; ((with_reducible refine (set256 _ _ _).mono ?_); rintro e w' ⟨rfl, rfl⟩)))
  obtain ⟨z, HR', hz⟩ := HR.out
  refine world_at (fun W => W.heap[w.heap.size]? = some (.cells (stC (ent s 14 15 16 (setB (setB (s 1) 32#64 (tb (s 1) 1) &&& ~~~2#64) 256#64 true) pc c false tv)) 25) ∧ W.heap[w.heap.size + 1]? = some (.cells (tkC c false tv) 34) ∧ W.heap[w.heap.size + 1 + 1]? = some (.cells z 25) ∧ Fr [] w W) ⟨(st_set (st_set (st_set (st_set (w := n.w.drewN _) (n.blk HS.out) 1 _) _ _) _ _) _ _), (blk_set_keep (blk_set_keep (blk_set_keep (blk_set_keep (n.blk HT.out) _ _ (by show _ ≠ w.heap.size; omega)) _ _ (by show _ ≠ w.heap.size; omega)) _ _ (by show _ ≠ w.heap.size; omega)) _ _ (by show _ ≠ w.heap.size; omega)), (blk_set_keep (blk_set_keep (blk_set_keep (blk_set_keep (n.blk HR') _ _ (by show _ ≠ w.heap.size; omega)) _ _ (by show _ ≠ w.heap.size; omega)) _ _ (by show _ ≠ w.heap.size; omega)) _ _ (by show _ ≠ w.heap.size; omega)), ((((((hfr.trans n.fr).drewN _).setCell (.inr (by simp)) _).setCell (.inr (by simp)) _).setCell (.inr (by simp)) _).setCell (.inr (by simp)) _)⟩ ?_
  rintro W3 ⟨hS3, hT3, hR3, hfr3⟩
  have HS3 := hid hS3
  have HT3 := hid hT3
  have HR3 := hid hR3
  have hi31 : (Try.prog.info? 25).map (·.size) = some (stC (ent s 14 15 16 (setB (setB (s 1) 32#64 (tb (s 1) 1) &&& ~~~2#64) 256#64 true) pc c false tv)).size := by rw [size25]; rfl
  clear cT0 cT1 cT2 cS1 fS
  refine wp_region_held_drew (S := fun W' => W'.heap[w.heap.size]? = some (.cells (stC (ent s 14 15 16 (setB (setB (s 1) 32#64 (tb (s 1) 1) &&& ~~~2#64) 256#64 true) pc c false tv)) 25) ∧ W'.heap[w.heap.size + 1]? = some (.cells (tkC c false tv) 34) ∧ (∃ z : Array Value, W'.heap[w.heap.size + 1 + 1]? = some (.cells z 25) ∧ z.size = 31) ∧ Fr [] w W') (by kernel_rfl) ⟨hS3, hT3, ⟨z, hR3, hz⟩, hfr3.drew⟩ (fun hHeld => ?_)
  clear hS3 hT3 hR3
  refine wpAnyH_take (i := 0) rfl (by kernel_rfl) (by kernel_rfl) (by kernel_rfl) (fun _ _ _ h => h) (yieldsIf_row (by rfl) 25 _ rfl w.heap.size rfl 25 (stC (ent s 14 15 16 (setB (setB (s 1) 32#64 (tb (s 1) 1) &&& ~~~2#64) 256#64 true) pc c false tv)) (0, 0) _ (fun w' h => h.1) Try.underlying25 rfl hi31) hHeld ?_
  simp only [Act.put, List.setIfInBounds_toArray, List.set_cons_zero, List.set_cons_succ]
  refine wpAnyH_take (i := 1) rfl (by kernel_rfl) (by kernel_rfl) (by kernel_rfl) (fun _ _ _ h => h) (yieldsIf_of (.int .i64 1) (by rfl) (fun _ _ => by go_simp <;> rfl)) hHeld ?_
  simp only [Act.put, List.setIfInBounds_toArray, List.set_cons_zero, List.set_cons_succ]
  refine wpAnyH_take (i := 2) rfl (by kernel_rfl) (by kernel_rfl) (by kernel_rfl) (fun _ _ _ h => h) (yieldsIf_of (.int .u8 1) (by rfl) (fun _ _ => by go_simp <;> rfl)) hHeld ?_
  simp only [Act.put, List.setIfInBounds_toArray, List.set_cons_zero, List.set_cons_succ]
  refine wpAnyH_take (i := 3) rfl (by kernel_rfl) (by kernel_rfl) (by kernel_rfl) (fun _ _ _ h => h) (yieldsIf_of (.int .u64 (U (s 13))) (by rfl) (fun _ _ => by go_simp <;> rfl)) hHeld ?_
  simp only [Act.put, List.setIfInBounds_toArray, List.set_cons_zero, List.set_cons_succ]
  refine wpAnyH_take (i := 4) rfl (by kernel_rfl) (by kernel_rfl) (by kernel_rfl) (fun _ _ _ h => h) (yieldsIf_row (by rfl) 34 _ rfl (w.heap.size + 1) rfl 34 (tkC c false tv) (0, 0) _ (fun w' h => h.2.1) Try.underlying34 rfl (by kernel_rfl)) hHeld ?_
  simp only [Act.put, List.setIfInBounds_toArray, List.set_cons_zero, List.set_cons_succ]
  refine wpAnyH_ready (rs := [5]) (by kernel_rfl) (by simp) ?_
  refine AllReadyH.cons rfl (fun K hK => ?_) AllReadyH.nil
  go_simp
  go_at_call 34
  refine (way_any _ _ _ _ _ hc0 hc).mono ?_
  rintro e w4 ⟨rfl, hfr4⟩
  go_simp
  refine hK.out _ _ ⟨hfr4.keeps hHeld.1 (by simp), hfr4.keeps hHeld.2.1 (by simp), ?_, hHeld.2.2.2.trans hfr4⟩ (fun hHeld => ?_)
  · obtain ⟨z, hz1, hz2⟩ := hHeld.2.2.1
    exact ⟨z, hfr4.keeps hz1 (by simp), hz2⟩
  clear hK K
  refine wpAnyH_ready (rs := [6]) (by kernel_rfl) (by simp) ?_
  refine AllReadyH.cons rfl (fun K hK => ?_) AllReadyH.nil
  rw [if_pos (by rfl)]
  obtain ⟨z1, hz1, hz1'⟩ := hHeld.2.2.1
  refine wp_store_whole 25 _ _ rfl (w.heap.size + 1 + 1) rfl (stC (ent s 14 15 16 (setB (setB (s 1) 32#64 (tb (s 1) 1) &&& ~~~2#64) 256#64 true) pc c false tv)) rfl 25 z1 hz1 (by rw [hz1']; rfl) hi31 (oneCell_stC _) (fun w5 h5 hfr5 => ?_)
  have hfr5' : Fr [] w w5 := hHeld.2.2.2.step hfr5 (fun j hj => .inr (by simp at hj; omega))
  simp only [Act.put]
  refine hK.out _ _ ⟨hfr5.keeps hHeld.1 (by simp; omega), hfr5.keeps hHeld.2.1 (by simp), ⟨_, h5, rfl⟩, hfr5'⟩ (fun hHeld => ?_)
  clear hK K
  refine wpAnyH_ready (rs := [7]) (by kernel_rfl) (by simp) ?_
  refine AllReadyH.cons rfl (fun K hK => ?_) AllReadyH.nil
  go_simp
  refine hK.out _ _ hHeld (fun hHeld => ?_)
  clear hK K
  refine wpAnyH_ready (rs := [8]) (by kernel_rfl) (by simp) ?_
  refine AllReadyH.cons rfl (fun K hK => ?_) AllReadyH.nil
  go_simp
  refine hK.out _ _ hHeld (fun hHeld => ?_)
  clear hK K
  refine wpAnyH_done (by kernel_rfl) ?_ _
  go_wp2_with (fail)
  exact ⟨rfl, _, results_ctt rfl rfl h5 Try.underlying25 rfl hi31, rfl, hfr5'⟩

set_option maxRecDepth 100000 in
set_option maxHeartbeats 4000000 in
theorem enter_1Mi (s : Nat → BitVec 64) (m : Int) (pc c tv : BitVec 64) (w : World) (h0 : 0 ≤ m) (hrm : rm m = 1) (hc : U c < 256) (hd : downB s 1 (U c) true = false) :
    Calls Try.prog 15 #[.agg (stC s), .int .u8 m, .int .u64 (U pc), .agg #[.int .u8 (U c), .bool true, .int .u64 (U tv)]] w fun e w' => e = .returned (.tuple #[.agg (stC (ent s 8 9 10 (setB (s 1) 128#64 (tb (s 1) 3) &&& ~~~6152#64 ||| 2048#64) pc c true tv)), .int .u8 3, .int .u64 (U (wayB (s 7) (U c) true))]) ∧ Fr [] w w' := by
  have hc0 := (U_bd c).1
  have k8 := mask8_ne (s 1)
  have k2 := mask2_ne (s 1)
  have Hrm := hid hrm
  have Hd := hid hd
  clear hrm hd
  go_enter Try.func15, Try.ntmps15
  go_wp2_with (first | (go_at_call 25; refine (real_any m _ h0).mono ?_; rintro e w' ⟨rfl, rfl⟩; rw [Hrm.out]) | (go_at_call 32; refine (down_any s 1 (U c) true tv _ hc0).mono ?_; rintro e w' ⟨rfl, rfl⟩; rw [Hd.out]) | (refine wpList_load_row rfl 25 _ rfl w.heap.size rfl 25 (stC s) (0, 0) _ (blk_alloc (blk_alloc (blk_new _ _) _) _) Try.underlying25 rfl (by kernel_rfl) ?_))
  refine region_at (fun W => W.heap[w.heap.size]? = some (.cells (stC s) 25) ∧ W.heap[w.heap.size + 1]? = some (.cells (tkC c true tv) 34) ∧ (∃ z : Array Value, W.heap[w.heap.size + 1 + 1]? = some (.cells z 25) ∧ z.size = 31) ∧ Fr [] w W) (by kernel_rfl) (by kernel_rfl) ⟨blk_alloc (blk_alloc (blk_alloc (blk_alloc (blk_new _ _) _) _) _) _, blk_alloc (blk_alloc (blk_alloc (blk_new' (by simp) _) _) _) _, ⟨_, blk_alloc (blk_alloc (blk_new' (by simp) _) _) _, rfl⟩, ((((((Fr.refl _ _).alloc _).alloc _).alloc _).alloc _).alloc _)⟩ ?_
  rintro W ⟨hS, hT, hR, hfr⟩ hne
  have cS : ∀ (n : Ext W) (i : Nat), n.w.cell? ⟨w.heap.size, i, none⟩ = (stC s)[i]? := fun n i => n.cell hS i
  have HS := hid hS
  have HT := hid hT
  have HR := hid hR
  clear hS hT hR
  repeat (go_big_quiet_step (fail))
  refine wpQuiet_nil ?_
  intro _ hw'
  obtain ⟨n, hw''⟩ := hw'
  subst hw''
  clear hne
  have cT0 : n.w.cell? ⟨w.heap.size + 1, 0, none⟩ = some (.int .u8 (U c)) := n.cell HT.out 0
  have cT1 : n.w.cell? ⟨w.heap.size + 1, 1, none⟩ = some (.bool true) := n.cell HT.out 1
  have cT2 : n.w.cell? ⟨w.heap.size + 1, 2, none⟩ = some (.int .u64 (U tv)) := n.cell HT.out 2
  have cS1 := cS n
  have fS : ∀ i, n.w.frozen? ⟨w.heap.size, i, none⟩ = false := fun i => blk_free (n.blk HS.out) i
  clear cS
  go_wp2_with (first | (go_at_call 33; ((with_reducible refine (set32 _ _ _).mono ?_); rintro e w' ⟨rfl, rfl⟩)) | (go_at_call 33; ((with_reducible refine (set128 _ _ _).mono ?_); rintro e w' ⟨rfl, rfl⟩)) | (go_at_call 33; ((with_reducible refine (set256 _ _ _).mono ?_); rintro e w' ⟨rfl, rfl⟩)))
  obtain ⟨z, HR', hz⟩ := HR.out
  refine world_at (fun W => W.heap[w.heap.size]? = some (.cells (stC (ent s 8 9 10 (setB (s 1) 128#64 (tb (s 1) 3) &&& ~~~6152#64 ||| 2048#64) pc c true tv)) 25) ∧ W.heap[w.heap.size + 1]? = some (.cells (tkC c true tv) 34) ∧ W.heap[w.heap.size + 1 + 1]? = some (.cells z 25) ∧ Fr [] w W) ⟨(st_set (st_set (st_set (st_set (st_set (n.blk HS.out) 1 _) _ _) _ 0#64) _ _) _ _), (blk_set_keep (blk_set_keep (blk_set_keep (blk_set_keep (blk_set_keep (n.blk HT.out) _ _ (by show _ ≠ w.heap.size; omega)) _ _ (by show _ ≠ w.heap.size; omega)) _ _ (by show _ ≠ w.heap.size; omega)) _ _ (by show _ ≠ w.heap.size; omega)) _ _ (by show _ ≠ w.heap.size; omega)), (blk_set_keep (blk_set_keep (blk_set_keep (blk_set_keep (blk_set_keep (n.blk HR') _ _ (by show _ ≠ w.heap.size; omega)) _ _ (by show _ ≠ w.heap.size; omega)) _ _ (by show _ ≠ w.heap.size; omega)) _ _ (by show _ ≠ w.heap.size; omega)) _ _ (by show _ ≠ w.heap.size; omega)), ((((((hfr.trans n.fr).setCell (.inr (by simp)) _).setCell (.inr (by simp)) _).setCell (.inr (by simp)) _).setCell (.inr (by simp)) _).setCell (.inr (by simp)) _)⟩ ?_
  rintro W3 ⟨hS3, hT3, hR3, hfr3⟩
  have HS3 := hid hS3
  have HT3 := hid hT3
  have HR3 := hid hR3
  have hi31 : (Try.prog.info? 25).map (·.size) = some (stC (ent s 8 9 10 (setB (s 1) 128#64 (tb (s 1) 3) &&& ~~~6152#64 ||| 2048#64) pc c true tv)).size := by rw [size25]; rfl
  clear cT0 cT1 cT2 cS1 fS
  refine wp_region_held_drew (S := fun W' => W'.heap[w.heap.size]? = some (.cells (stC (ent s 8 9 10 (setB (s 1) 128#64 (tb (s 1) 3) &&& ~~~6152#64 ||| 2048#64) pc c true tv)) 25) ∧ W'.heap[w.heap.size + 1]? = some (.cells (tkC c true tv) 34) ∧ (∃ z : Array Value, W'.heap[w.heap.size + 1 + 1]? = some (.cells z 25) ∧ z.size = 31) ∧ Fr [] w W') (by kernel_rfl) ⟨hS3, hT3, ⟨z, hR3, hz⟩, hfr3.drew⟩ (fun hHeld => ?_)
  clear hS3 hT3 hR3
  refine wpAnyH_take (i := 0) rfl (by kernel_rfl) (by kernel_rfl) (by kernel_rfl) (fun _ _ _ h => h) (yieldsIf_row (by rfl) 25 _ rfl w.heap.size rfl 25 (stC (ent s 8 9 10 (setB (s 1) 128#64 (tb (s 1) 3) &&& ~~~6152#64 ||| 2048#64) pc c true tv)) (0, 0) _ (fun w' h => h.1) Try.underlying25 rfl hi31) hHeld ?_
  simp only [Act.put, List.setIfInBounds_toArray, List.set_cons_zero, List.set_cons_succ]
  refine wpAnyH_take (i := 1) rfl (by kernel_rfl) (by kernel_rfl) (by kernel_rfl) (fun _ _ _ h => h) (yieldsIf_of (.int .i64 3) (by rfl) (fun _ _ => by go_simp <;> rfl)) hHeld ?_
  simp only [Act.put, List.setIfInBounds_toArray, List.set_cons_zero, List.set_cons_succ]
  refine wpAnyH_take (i := 2) rfl (by kernel_rfl) (by kernel_rfl) (by kernel_rfl) (fun _ _ _ h => h) (yieldsIf_of (.int .u8 3) (by rfl) (fun _ _ => by go_simp <;> rfl)) hHeld ?_
  simp only [Act.put, List.setIfInBounds_toArray, List.set_cons_zero, List.set_cons_succ]
  refine wpAnyH_take (i := 3) rfl (by kernel_rfl) (by kernel_rfl) (by kernel_rfl) (fun _ _ _ h => h) (yieldsIf_of (.int .u64 (U (s 7))) (by rfl) (fun _ _ => by go_simp <;> rfl)) hHeld ?_
  simp only [Act.put, List.setIfInBounds_toArray, List.set_cons_zero, List.set_cons_succ]
  refine wpAnyH_take (i := 4) rfl (by kernel_rfl) (by kernel_rfl) (by kernel_rfl) (fun _ _ _ h => h) (yieldsIf_row (by rfl) 34 _ rfl (w.heap.size + 1) rfl 34 (tkC c true tv) (0, 0) _ (fun w' h => h.2.1) Try.underlying34 rfl (by kernel_rfl)) hHeld ?_
  simp only [Act.put, List.setIfInBounds_toArray, List.set_cons_zero, List.set_cons_succ]
  refine wpAnyH_ready (rs := [5]) (by kernel_rfl) (by simp) ?_
  refine AllReadyH.cons rfl (fun K hK => ?_) AllReadyH.nil
  go_simp
  go_at_call 34
  refine (way_any _ _ _ _ _ hc0 hc).mono ?_
  rintro e w4 ⟨rfl, hfr4⟩
  go_simp
  refine hK.out _ _ ⟨hfr4.keeps hHeld.1 (by simp), hfr4.keeps hHeld.2.1 (by simp), ?_, hHeld.2.2.2.trans hfr4⟩ (fun hHeld => ?_)
  · obtain ⟨z, hz1, hz2⟩ := hHeld.2.2.1
    exact ⟨z, hfr4.keeps hz1 (by simp), hz2⟩
  clear hK K
  refine wpAnyH_ready (rs := [6]) (by kernel_rfl) (by simp) ?_
  refine AllReadyH.cons rfl (fun K hK => ?_) AllReadyH.nil
  rw [if_pos (by rfl)]
  obtain ⟨z1, hz1, hz1'⟩ := hHeld.2.2.1
  refine wp_store_whole 25 _ _ rfl (w.heap.size + 1 + 1) rfl (stC (ent s 8 9 10 (setB (s 1) 128#64 (tb (s 1) 3) &&& ~~~6152#64 ||| 2048#64) pc c true tv)) rfl 25 z1 hz1 (by rw [hz1']; rfl) hi31 (oneCell_stC _) (fun w5 h5 hfr5 => ?_)
  have hfr5' : Fr [] w w5 := hHeld.2.2.2.step hfr5 (fun j hj => .inr (by simp at hj; omega))
  simp only [Act.put]
  refine hK.out _ _ ⟨hfr5.keeps hHeld.1 (by simp; omega), hfr5.keeps hHeld.2.1 (by simp), ⟨_, h5, rfl⟩, hfr5'⟩ (fun hHeld => ?_)
  clear hK K
  refine wpAnyH_ready (rs := [7]) (by kernel_rfl) (by simp) ?_
  refine AllReadyH.cons rfl (fun K hK => ?_) AllReadyH.nil
  go_simp
  refine hK.out _ _ hHeld (fun hHeld => ?_)
  clear hK K
  refine wpAnyH_ready (rs := [8]) (by kernel_rfl) (by simp) ?_
  refine AllReadyH.cons rfl (fun K hK => ?_) AllReadyH.nil
  go_simp
  refine hK.out _ _ hHeld (fun hHeld => ?_)
  clear hK K
  refine wpAnyH_done (by kernel_rfl) ?_ _
  go_wp2_with (fail)
  exact ⟨rfl, _, results_ctt rfl rfl h5 Try.underlying25 rfl hi31, rfl, hfr5'⟩

set_option maxRecDepth 100000 in
set_option maxHeartbeats 4000000 in
theorem enter_1Mx (s : Nat → BitVec 64) (m : Int) (pc c tv : BitVec 64) (w : World) (h0 : 0 ≤ m) (hrm : rm m = 1) (hc : U c < 256) (hd : downB s 1 (U c) false = false) :
    Calls Try.prog 15 #[.agg (stC s), .int .u8 m, .int .u64 (U pc), .agg #[.int .u8 (U c), .bool false, .int .u64 (U tv)]] w fun e w' => e = .returned (.tuple #[.agg (stC (ent s 8 9 10 (setB (s 1) 128#64 (tb (s 1) 3) &&& ~~~6152#64 ||| 2048#64) pc c false tv)), .int .u8 3, .int .u64 (U (wayB (s 7) (U c) false))]) ∧ Fr [] w w' := by
  have hc0 := (U_bd c).1
  have k8 := mask8_ne (s 1)
  have k2 := mask2_ne (s 1)
  have Hrm := hid hrm
  have Hd := hid hd
  clear hrm hd
  go_enter Try.func15, Try.ntmps15
  go_wp2_with (first | (go_at_call 25; refine (real_any m _ h0).mono ?_; rintro e w' ⟨rfl, rfl⟩; rw [Hrm.out]) | (go_at_call 32; refine (down_any s 1 (U c) false tv _ hc0).mono ?_; rintro e w' ⟨rfl, rfl⟩; rw [Hd.out]) | (refine wpList_load_row rfl 25 _ rfl w.heap.size rfl 25 (stC s) (0, 0) _ (blk_alloc (blk_alloc (blk_new _ _) _) _) Try.underlying25 rfl (by kernel_rfl) ?_))
  refine region_at (fun W => W.heap[w.heap.size]? = some (.cells (stC s) 25) ∧ W.heap[w.heap.size + 1]? = some (.cells (tkC c false tv) 34) ∧ (∃ z : Array Value, W.heap[w.heap.size + 1 + 1]? = some (.cells z 25) ∧ z.size = 31) ∧ Fr [] w W) (by kernel_rfl) (by kernel_rfl) ⟨blk_alloc (blk_alloc (blk_alloc (blk_alloc (blk_new _ _) _) _) _) _, blk_alloc (blk_alloc (blk_alloc (blk_new' (by simp) _) _) _) _, ⟨_, blk_alloc (blk_alloc (blk_new' (by simp) _) _) _, rfl⟩, ((((((Fr.refl _ _).alloc _).alloc _).alloc _).alloc _).alloc _)⟩ ?_
  rintro W ⟨hS, hT, hR, hfr⟩ hne
  have cS : ∀ (n : Ext W) (i : Nat), n.w.cell? ⟨w.heap.size, i, none⟩ = (stC s)[i]? := fun n i => n.cell hS i
  have HS := hid hS
  have HT := hid hT
  have HR := hid hR
  clear hS hT hR
  repeat (go_big_quiet_step (fail))
  refine wpQuiet_nil ?_
  intro _ hw'
  obtain ⟨n, hw''⟩ := hw'
  subst hw''
  clear hne
  have cT0 : n.w.cell? ⟨w.heap.size + 1, 0, none⟩ = some (.int .u8 (U c)) := n.cell HT.out 0
  have cT1 : n.w.cell? ⟨w.heap.size + 1, 1, none⟩ = some (.bool false) := n.cell HT.out 1
  have cT2 : n.w.cell? ⟨w.heap.size + 1, 2, none⟩ = some (.int .u64 (U tv)) := n.cell HT.out 2
  have cS1 := cS n
  have fS : ∀ i, n.w.frozen? ⟨w.heap.size, i, none⟩ = false := fun i => blk_free (n.blk HS.out) i
  clear cS
  go_wp2_with (first | (go_at_call 33; ((with_reducible refine (set32 _ _ _).mono ?_); rintro e w' ⟨rfl, rfl⟩)) | (go_at_call 33; ((with_reducible refine (set128 _ _ _).mono ?_); rintro e w' ⟨rfl, rfl⟩)) | (go_at_call 33; ((with_reducible refine (set256 _ _ _).mono ?_); rintro e w' ⟨rfl, rfl⟩)))
  obtain ⟨z, HR', hz⟩ := HR.out
  refine world_at (fun W => W.heap[w.heap.size]? = some (.cells (stC (ent s 8 9 10 (setB (s 1) 128#64 (tb (s 1) 3) &&& ~~~6152#64 ||| 2048#64) pc c false tv)) 25) ∧ W.heap[w.heap.size + 1]? = some (.cells (tkC c false tv) 34) ∧ W.heap[w.heap.size + 1 + 1]? = some (.cells z 25) ∧ Fr [] w W) ⟨(st_set (st_set (st_set (st_set (n.blk HS.out) 1 _) _ _) _ _) _ _), (blk_set_keep (blk_set_keep (blk_set_keep (blk_set_keep (n.blk HT.out) _ _ (by show _ ≠ w.heap.size; omega)) _ _ (by show _ ≠ w.heap.size; omega)) _ _ (by show _ ≠ w.heap.size; omega)) _ _ (by show _ ≠ w.heap.size; omega)), (blk_set_keep (blk_set_keep (blk_set_keep (blk_set_keep (n.blk HR') _ _ (by show _ ≠ w.heap.size; omega)) _ _ (by show _ ≠ w.heap.size; omega)) _ _ (by show _ ≠ w.heap.size; omega)) _ _ (by show _ ≠ w.heap.size; omega)), (((((hfr.trans n.fr).setCell (.inr (by simp)) _).setCell (.inr (by simp)) _).setCell (.inr (by simp)) _).setCell (.inr (by simp)) _)⟩ ?_
  rintro W3 ⟨hS3, hT3, hR3, hfr3⟩
  have HS3 := hid hS3
  have HT3 := hid hT3
  have HR3 := hid hR3
  have hi31 : (Try.prog.info? 25).map (·.size) = some (stC (ent s 8 9 10 (setB (s 1) 128#64 (tb (s 1) 3) &&& ~~~6152#64 ||| 2048#64) pc c false tv)).size := by rw [size25]; rfl
  clear cT0 cT1 cT2 cS1 fS
  refine wp_region_held_drew (S := fun W' => W'.heap[w.heap.size]? = some (.cells (stC (ent s 8 9 10 (setB (s 1) 128#64 (tb (s 1) 3) &&& ~~~6152#64 ||| 2048#64) pc c false tv)) 25) ∧ W'.heap[w.heap.size + 1]? = some (.cells (tkC c false tv) 34) ∧ (∃ z : Array Value, W'.heap[w.heap.size + 1 + 1]? = some (.cells z 25) ∧ z.size = 31) ∧ Fr [] w W') (by kernel_rfl) ⟨hS3, hT3, ⟨z, hR3, hz⟩, hfr3.drew⟩ (fun hHeld => ?_)
  clear hS3 hT3 hR3
  refine wpAnyH_take (i := 0) rfl (by kernel_rfl) (by kernel_rfl) (by kernel_rfl) (fun _ _ _ h => h) (yieldsIf_row (by rfl) 25 _ rfl w.heap.size rfl 25 (stC (ent s 8 9 10 (setB (s 1) 128#64 (tb (s 1) 3) &&& ~~~6152#64 ||| 2048#64) pc c false tv)) (0, 0) _ (fun w' h => h.1) Try.underlying25 rfl hi31) hHeld ?_
  simp only [Act.put, List.setIfInBounds_toArray, List.set_cons_zero, List.set_cons_succ]
  refine wpAnyH_take (i := 1) rfl (by kernel_rfl) (by kernel_rfl) (by kernel_rfl) (fun _ _ _ h => h) (yieldsIf_of (.int .i64 3) (by rfl) (fun _ _ => by go_simp <;> rfl)) hHeld ?_
  simp only [Act.put, List.setIfInBounds_toArray, List.set_cons_zero, List.set_cons_succ]
  refine wpAnyH_take (i := 2) rfl (by kernel_rfl) (by kernel_rfl) (by kernel_rfl) (fun _ _ _ h => h) (yieldsIf_of (.int .u8 3) (by rfl) (fun _ _ => by go_simp <;> rfl)) hHeld ?_
  simp only [Act.put, List.setIfInBounds_toArray, List.set_cons_zero, List.set_cons_succ]
  refine wpAnyH_take (i := 3) rfl (by kernel_rfl) (by kernel_rfl) (by kernel_rfl) (fun _ _ _ h => h) (yieldsIf_of (.int .u64 (U (s 7))) (by rfl) (fun _ _ => by go_simp <;> rfl)) hHeld ?_
  simp only [Act.put, List.setIfInBounds_toArray, List.set_cons_zero, List.set_cons_succ]
  refine wpAnyH_take (i := 4) rfl (by kernel_rfl) (by kernel_rfl) (by kernel_rfl) (fun _ _ _ h => h) (yieldsIf_row (by rfl) 34 _ rfl (w.heap.size + 1) rfl 34 (tkC c false tv) (0, 0) _ (fun w' h => h.2.1) Try.underlying34 rfl (by kernel_rfl)) hHeld ?_
  simp only [Act.put, List.setIfInBounds_toArray, List.set_cons_zero, List.set_cons_succ]
  refine wpAnyH_ready (rs := [5]) (by kernel_rfl) (by simp) ?_
  refine AllReadyH.cons rfl (fun K hK => ?_) AllReadyH.nil
  go_simp
  go_at_call 34
  refine (way_any _ _ _ _ _ hc0 hc).mono ?_
  rintro e w4 ⟨rfl, hfr4⟩
  go_simp
  refine hK.out _ _ ⟨hfr4.keeps hHeld.1 (by simp), hfr4.keeps hHeld.2.1 (by simp), ?_, hHeld.2.2.2.trans hfr4⟩ (fun hHeld => ?_)
  · obtain ⟨z, hz1, hz2⟩ := hHeld.2.2.1
    exact ⟨z, hfr4.keeps hz1 (by simp), hz2⟩
  clear hK K
  refine wpAnyH_ready (rs := [6]) (by kernel_rfl) (by simp) ?_
  refine AllReadyH.cons rfl (fun K hK => ?_) AllReadyH.nil
  rw [if_pos (by rfl)]
  obtain ⟨z1, hz1, hz1'⟩ := hHeld.2.2.1
  refine wp_store_whole 25 _ _ rfl (w.heap.size + 1 + 1) rfl (stC (ent s 8 9 10 (setB (s 1) 128#64 (tb (s 1) 3) &&& ~~~6152#64 ||| 2048#64) pc c false tv)) rfl 25 z1 hz1 (by rw [hz1']; rfl) hi31 (oneCell_stC _) (fun w5 h5 hfr5 => ?_)
  have hfr5' : Fr [] w w5 := hHeld.2.2.2.step hfr5 (fun j hj => .inr (by simp at hj; omega))
  simp only [Act.put]
  refine hK.out _ _ ⟨hfr5.keeps hHeld.1 (by simp; omega), hfr5.keeps hHeld.2.1 (by simp), ⟨_, h5, rfl⟩, hfr5'⟩ (fun hHeld => ?_)
  clear hK K
  refine wpAnyH_ready (rs := [7]) (by kernel_rfl) (by simp) ?_
  refine AllReadyH.cons rfl (fun K hK => ?_) AllReadyH.nil
  go_simp
  refine hK.out _ _ hHeld (fun hHeld => ?_)
  clear hK K
  refine wpAnyH_ready (rs := [8]) (by kernel_rfl) (by simp) ?_
  refine AllReadyH.cons rfl (fun K hK => ?_) AllReadyH.nil
  go_simp
  refine hK.out _ _ hHeld (fun hHeld => ?_)
  clear hK K
  refine wpAnyH_done (by kernel_rfl) ?_ _
  go_wp2_with (fail)
  exact ⟨rfl, _, results_ctt rfl rfl h5 Try.underlying25 rfl hi31, rfl, hfr5'⟩

set_option maxRecDepth 100000 in
set_option maxHeartbeats 4000000 in
theorem enter_3Mi (s : Nat → BitVec 64) (m : Int) (pc c tv : BitVec 64) (w : World) (h0 : 0 ≤ m) (hrm : rm m = 3) (hc : U c < 256) (hd : downB s 3 (U c) true = false) :
    Calls Try.prog 15 #[.agg (stC s), .int .u8 m, .int .u64 (U pc), .agg #[.int .u8 (U c), .bool true, .int .u64 (U tv)]] w fun e w' => e = .returned (.tuple #[.agg (stC (ent s 8 9 10 (setB (s 1) 128#64 (tb (s 1) 3) &&& ~~~6152#64 ||| 6144#64) pc c true tv)), .int .u8 3, .int .u64 (U (wayB (s 7) (U c) true))]) ∧ Fr [] w w' := by
  have hc0 := (U_bd c).1
  have k8 := mask8_ne (s 1)
  have k2 := mask2_ne (s 1)
  have Hrm := hid hrm
  have Hd := hid hd
  clear hrm hd
  go_enter Try.func15, Try.ntmps15
  go_wp2_with (first | (go_at_call 25; refine (real_any m _ h0).mono ?_; rintro e w' ⟨rfl, rfl⟩; rw [Hrm.out]) | (go_at_call 32; refine (down_any s 3 (U c) true tv _ hc0).mono ?_; rintro e w' ⟨rfl, rfl⟩; rw [Hd.out]) | (refine wpList_load_row rfl 25 _ rfl w.heap.size rfl 25 (stC s) (0, 0) _ (blk_alloc (blk_alloc (blk_new _ _) _) _) Try.underlying25 rfl (by kernel_rfl) ?_))
  refine region_at (fun W => W.heap[w.heap.size]? = some (.cells (stC s) 25) ∧ W.heap[w.heap.size + 1]? = some (.cells (tkC c true tv) 34) ∧ (∃ z : Array Value, W.heap[w.heap.size + 1 + 1]? = some (.cells z 25) ∧ z.size = 31) ∧ Fr [] w W) (by kernel_rfl) (by kernel_rfl) ⟨blk_alloc (blk_alloc (blk_alloc (blk_alloc (blk_new _ _) _) _) _) _, blk_alloc (blk_alloc (blk_alloc (blk_new' (by simp) _) _) _) _, ⟨_, blk_alloc (blk_alloc (blk_new' (by simp) _) _) _, rfl⟩, ((((((Fr.refl _ _).alloc _).alloc _).alloc _).alloc _).alloc _)⟩ ?_
  rintro W ⟨hS, hT, hR, hfr⟩ hne
  have cS : ∀ (n : Ext W) (i : Nat), n.w.cell? ⟨w.heap.size, i, none⟩ = (stC s)[i]? := fun n i => n.cell hS i
  have HS := hid hS
  have HT := hid hT
  have HR := hid hR
  clear hS hT hR
  repeat (go_big_quiet_step (fail))
  refine wpQuiet_nil ?_
  intro _ hw'
  obtain ⟨n, hw''⟩ := hw'
  subst hw''
  clear hne
  have cT0 : n.w.cell? ⟨w.heap.size + 1, 0, none⟩ = some (.int .u8 (U c)) := n.cell HT.out 0
  have cT1 : n.w.cell? ⟨w.heap.size + 1, 1, none⟩ = some (.bool true) := n.cell HT.out 1
  have cT2 : n.w.cell? ⟨w.heap.size + 1, 2, none⟩ = some (.int .u64 (U tv)) := n.cell HT.out 2
  have cS1 := cS n
  have fS : ∀ i, n.w.frozen? ⟨w.heap.size, i, none⟩ = false := fun i => blk_free (n.blk HS.out) i
  clear cS
  go_wp2_with (first | (go_at_call 33; ((with_reducible refine (set32 _ _ _).mono ?_); rintro e w' ⟨rfl, rfl⟩)) | (go_at_call 33; ((with_reducible refine (set128 _ _ _).mono ?_); rintro e w' ⟨rfl, rfl⟩)) | (go_at_call 33; ((with_reducible refine (set256 _ _ _).mono ?_); rintro e w' ⟨rfl, rfl⟩)))
  obtain ⟨z, HR', hz⟩ := HR.out
  refine world_at (fun W => W.heap[w.heap.size]? = some (.cells (stC (ent s 8 9 10 (setB (s 1) 128#64 (tb (s 1) 3) &&& ~~~6152#64 ||| 6144#64) pc c true tv)) 25) ∧ W.heap[w.heap.size + 1]? = some (.cells (tkC c true tv) 34) ∧ W.heap[w.heap.size + 1 + 1]? = some (.cells z 25) ∧ Fr [] w W) ⟨(st_set (st_set (st_set (st_set (st_set (n.blk HS.out) 1 _) _ _) _ 0#64) _ _) _ _), (blk_set_keep (blk_set_keep (blk_set_keep (blk_set_keep (blk_set_keep (n.blk HT.out) _ _ (by show _ ≠ w.heap.size; omega)) _ _ (by show _ ≠ w.heap.size; omega)) _ _ (by show _ ≠ w.heap.size; omega)) _ _ (by show _ ≠ w.heap.size; omega)) _ _ (by show _ ≠ w.heap.size; omega)), (blk_set_keep (blk_set_keep (blk_set_keep (blk_set_keep (blk_set_keep (n.blk HR') _ _ (by show _ ≠ w.heap.size; omega)) _ _ (by show _ ≠ w.heap.size; omega)) _ _ (by show _ ≠ w.heap.size; omega)) _ _ (by show _ ≠ w.heap.size; omega)) _ _ (by show _ ≠ w.heap.size; omega)), ((((((hfr.trans n.fr).setCell (.inr (by simp)) _).setCell (.inr (by simp)) _).setCell (.inr (by simp)) _).setCell (.inr (by simp)) _).setCell (.inr (by simp)) _)⟩ ?_
  rintro W3 ⟨hS3, hT3, hR3, hfr3⟩
  have HS3 := hid hS3
  have HT3 := hid hT3
  have HR3 := hid hR3
  have hi31 : (Try.prog.info? 25).map (·.size) = some (stC (ent s 8 9 10 (setB (s 1) 128#64 (tb (s 1) 3) &&& ~~~6152#64 ||| 6144#64) pc c true tv)).size := by rw [size25]; rfl
  clear cT0 cT1 cT2 cS1 fS
  refine wp_region_held_drew (S := fun W' => W'.heap[w.heap.size]? = some (.cells (stC (ent s 8 9 10 (setB (s 1) 128#64 (tb (s 1) 3) &&& ~~~6152#64 ||| 6144#64) pc c true tv)) 25) ∧ W'.heap[w.heap.size + 1]? = some (.cells (tkC c true tv) 34) ∧ (∃ z : Array Value, W'.heap[w.heap.size + 1 + 1]? = some (.cells z 25) ∧ z.size = 31) ∧ Fr [] w W') (by kernel_rfl) ⟨hS3, hT3, ⟨z, hR3, hz⟩, hfr3.drew⟩ (fun hHeld => ?_)
  clear hS3 hT3 hR3
  refine wpAnyH_take (i := 0) rfl (by kernel_rfl) (by kernel_rfl) (by kernel_rfl) (fun _ _ _ h => h) (yieldsIf_row (by rfl) 25 _ rfl w.heap.size rfl 25 (stC (ent s 8 9 10 (setB (s 1) 128#64 (tb (s 1) 3) &&& ~~~6152#64 ||| 6144#64) pc c true tv)) (0, 0) _ (fun w' h => h.1) Try.underlying25 rfl hi31) hHeld ?_
  simp only [Act.put, List.setIfInBounds_toArray, List.set_cons_zero, List.set_cons_succ]
  refine wpAnyH_take (i := 1) rfl (by kernel_rfl) (by kernel_rfl) (by kernel_rfl) (fun _ _ _ h => h) (yieldsIf_of (.int .i64 3) (by rfl) (fun _ _ => by go_simp <;> rfl)) hHeld ?_
  simp only [Act.put, List.setIfInBounds_toArray, List.set_cons_zero, List.set_cons_succ]
  refine wpAnyH_take (i := 2) rfl (by kernel_rfl) (by kernel_rfl) (by kernel_rfl) (fun _ _ _ h => h) (yieldsIf_of (.int .u8 3) (by rfl) (fun _ _ => by go_simp <;> rfl)) hHeld ?_
  simp only [Act.put, List.setIfInBounds_toArray, List.set_cons_zero, List.set_cons_succ]
  refine wpAnyH_take (i := 3) rfl (by kernel_rfl) (by kernel_rfl) (by kernel_rfl) (fun _ _ _ h => h) (yieldsIf_of (.int .u64 (U (s 7))) (by rfl) (fun _ _ => by go_simp <;> rfl)) hHeld ?_
  simp only [Act.put, List.setIfInBounds_toArray, List.set_cons_zero, List.set_cons_succ]
  refine wpAnyH_take (i := 4) rfl (by kernel_rfl) (by kernel_rfl) (by kernel_rfl) (fun _ _ _ h => h) (yieldsIf_row (by rfl) 34 _ rfl (w.heap.size + 1) rfl 34 (tkC c true tv) (0, 0) _ (fun w' h => h.2.1) Try.underlying34 rfl (by kernel_rfl)) hHeld ?_
  simp only [Act.put, List.setIfInBounds_toArray, List.set_cons_zero, List.set_cons_succ]
  refine wpAnyH_ready (rs := [5]) (by kernel_rfl) (by simp) ?_
  refine AllReadyH.cons rfl (fun K hK => ?_) AllReadyH.nil
  go_simp
  go_at_call 34
  refine (way_any _ _ _ _ _ hc0 hc).mono ?_
  rintro e w4 ⟨rfl, hfr4⟩
  go_simp
  refine hK.out _ _ ⟨hfr4.keeps hHeld.1 (by simp), hfr4.keeps hHeld.2.1 (by simp), ?_, hHeld.2.2.2.trans hfr4⟩ (fun hHeld => ?_)
  · obtain ⟨z, hz1, hz2⟩ := hHeld.2.2.1
    exact ⟨z, hfr4.keeps hz1 (by simp), hz2⟩
  clear hK K
  refine wpAnyH_ready (rs := [6]) (by kernel_rfl) (by simp) ?_
  refine AllReadyH.cons rfl (fun K hK => ?_) AllReadyH.nil
  rw [if_pos (by rfl)]
  obtain ⟨z1, hz1, hz1'⟩ := hHeld.2.2.1
  refine wp_store_whole 25 _ _ rfl (w.heap.size + 1 + 1) rfl (stC (ent s 8 9 10 (setB (s 1) 128#64 (tb (s 1) 3) &&& ~~~6152#64 ||| 6144#64) pc c true tv)) rfl 25 z1 hz1 (by rw [hz1']; rfl) hi31 (oneCell_stC _) (fun w5 h5 hfr5 => ?_)
  have hfr5' : Fr [] w w5 := hHeld.2.2.2.step hfr5 (fun j hj => .inr (by simp at hj; omega))
  simp only [Act.put]
  refine hK.out _ _ ⟨hfr5.keeps hHeld.1 (by simp; omega), hfr5.keeps hHeld.2.1 (by simp), ⟨_, h5, rfl⟩, hfr5'⟩ (fun hHeld => ?_)
  clear hK K
  refine wpAnyH_ready (rs := [7]) (by kernel_rfl) (by simp) ?_
  refine AllReadyH.cons rfl (fun K hK => ?_) AllReadyH.nil
  go_simp
  refine hK.out _ _ hHeld (fun hHeld => ?_)
  clear hK K
  refine wpAnyH_ready (rs := [8]) (by kernel_rfl) (by simp) ?_
  refine AllReadyH.cons rfl (fun K hK => ?_) AllReadyH.nil
  go_simp
  refine hK.out _ _ hHeld (fun hHeld => ?_)
  clear hK K
  refine wpAnyH_done (by kernel_rfl) ?_ _
  go_wp2_with (fail)
  exact ⟨rfl, _, results_ctt rfl rfl h5 Try.underlying25 rfl hi31, rfl, hfr5'⟩

set_option maxRecDepth 100000 in
set_option maxHeartbeats 4000000 in
theorem enter_3Mx (s : Nat → BitVec 64) (m : Int) (pc c tv : BitVec 64) (w : World) (h0 : 0 ≤ m) (hrm : rm m = 3) (hc : U c < 256) (hd : downB s 3 (U c) false = false) :
    Calls Try.prog 15 #[.agg (stC s), .int .u8 m, .int .u64 (U pc), .agg #[.int .u8 (U c), .bool false, .int .u64 (U tv)]] w fun e w' => e = .returned (.tuple #[.agg (stC (ent s 8 9 10 (setB (s 1) 128#64 (tb (s 1) 3) &&& ~~~6152#64 ||| 6144#64) pc c false tv)), .int .u8 3, .int .u64 (U (wayB (s 7) (U c) false))]) ∧ Fr [] w w' := by
  have hc0 := (U_bd c).1
  have k8 := mask8_ne (s 1)
  have k2 := mask2_ne (s 1)
  have Hrm := hid hrm
  have Hd := hid hd
  clear hrm hd
  go_enter Try.func15, Try.ntmps15
  go_wp2_with (first | (go_at_call 25; refine (real_any m _ h0).mono ?_; rintro e w' ⟨rfl, rfl⟩; rw [Hrm.out]) | (go_at_call 32; refine (down_any s 3 (U c) false tv _ hc0).mono ?_; rintro e w' ⟨rfl, rfl⟩; rw [Hd.out]) | (refine wpList_load_row rfl 25 _ rfl w.heap.size rfl 25 (stC s) (0, 0) _ (blk_alloc (blk_alloc (blk_new _ _) _) _) Try.underlying25 rfl (by kernel_rfl) ?_))
  refine region_at (fun W => W.heap[w.heap.size]? = some (.cells (stC s) 25) ∧ W.heap[w.heap.size + 1]? = some (.cells (tkC c false tv) 34) ∧ (∃ z : Array Value, W.heap[w.heap.size + 1 + 1]? = some (.cells z 25) ∧ z.size = 31) ∧ Fr [] w W) (by kernel_rfl) (by kernel_rfl) ⟨blk_alloc (blk_alloc (blk_alloc (blk_alloc (blk_new _ _) _) _) _) _, blk_alloc (blk_alloc (blk_alloc (blk_new' (by simp) _) _) _) _, ⟨_, blk_alloc (blk_alloc (blk_new' (by simp) _) _) _, rfl⟩, ((((((Fr.refl _ _).alloc _).alloc _).alloc _).alloc _).alloc _)⟩ ?_
  rintro W ⟨hS, hT, hR, hfr⟩ hne
  have cS : ∀ (n : Ext W) (i : Nat), n.w.cell? ⟨w.heap.size, i, none⟩ = (stC s)[i]? := fun n i => n.cell hS i
  have HS := hid hS
  have HT := hid hT
  have HR := hid hR
  clear hS hT hR
  repeat (go_big_quiet_step (fail))
  refine wpQuiet_nil ?_
  intro _ hw'
  obtain ⟨n, hw''⟩ := hw'
  subst hw''
  clear hne
  have cT0 : n.w.cell? ⟨w.heap.size + 1, 0, none⟩ = some (.int .u8 (U c)) := n.cell HT.out 0
  have cT1 : n.w.cell? ⟨w.heap.size + 1, 1, none⟩ = some (.bool false) := n.cell HT.out 1
  have cT2 : n.w.cell? ⟨w.heap.size + 1, 2, none⟩ = some (.int .u64 (U tv)) := n.cell HT.out 2
  have cS1 := cS n
  have fS : ∀ i, n.w.frozen? ⟨w.heap.size, i, none⟩ = false := fun i => blk_free (n.blk HS.out) i
  clear cS
  go_wp2_with (first | (go_at_call 33; ((with_reducible refine (set32 _ _ _).mono ?_); rintro e w' ⟨rfl, rfl⟩)) | (go_at_call 33; ((with_reducible refine (set128 _ _ _).mono ?_); rintro e w' ⟨rfl, rfl⟩)) | (go_at_call 33; ((with_reducible refine (set256 _ _ _).mono ?_); rintro e w' ⟨rfl, rfl⟩)))
  obtain ⟨z, HR', hz⟩ := HR.out
  refine world_at (fun W => W.heap[w.heap.size]? = some (.cells (stC (ent s 8 9 10 (setB (s 1) 128#64 (tb (s 1) 3) &&& ~~~6152#64 ||| 6144#64) pc c false tv)) 25) ∧ W.heap[w.heap.size + 1]? = some (.cells (tkC c false tv) 34) ∧ W.heap[w.heap.size + 1 + 1]? = some (.cells z 25) ∧ Fr [] w W) ⟨(st_set (st_set (st_set (st_set (n.blk HS.out) 1 _) _ _) _ _) _ _), (blk_set_keep (blk_set_keep (blk_set_keep (blk_set_keep (n.blk HT.out) _ _ (by show _ ≠ w.heap.size; omega)) _ _ (by show _ ≠ w.heap.size; omega)) _ _ (by show _ ≠ w.heap.size; omega)) _ _ (by show _ ≠ w.heap.size; omega)), (blk_set_keep (blk_set_keep (blk_set_keep (blk_set_keep (n.blk HR') _ _ (by show _ ≠ w.heap.size; omega)) _ _ (by show _ ≠ w.heap.size; omega)) _ _ (by show _ ≠ w.heap.size; omega)) _ _ (by show _ ≠ w.heap.size; omega)), (((((hfr.trans n.fr).setCell (.inr (by simp)) _).setCell (.inr (by simp)) _).setCell (.inr (by simp)) _).setCell (.inr (by simp)) _)⟩ ?_
  rintro W3 ⟨hS3, hT3, hR3, hfr3⟩
  have HS3 := hid hS3
  have HT3 := hid hT3
  have HR3 := hid hR3
  have hi31 : (Try.prog.info? 25).map (·.size) = some (stC (ent s 8 9 10 (setB (s 1) 128#64 (tb (s 1) 3) &&& ~~~6152#64 ||| 6144#64) pc c false tv)).size := by rw [size25]; rfl
  clear cT0 cT1 cT2 cS1 fS
  refine wp_region_held_drew (S := fun W' => W'.heap[w.heap.size]? = some (.cells (stC (ent s 8 9 10 (setB (s 1) 128#64 (tb (s 1) 3) &&& ~~~6152#64 ||| 6144#64) pc c false tv)) 25) ∧ W'.heap[w.heap.size + 1]? = some (.cells (tkC c false tv) 34) ∧ (∃ z : Array Value, W'.heap[w.heap.size + 1 + 1]? = some (.cells z 25) ∧ z.size = 31) ∧ Fr [] w W') (by kernel_rfl) ⟨hS3, hT3, ⟨z, hR3, hz⟩, hfr3.drew⟩ (fun hHeld => ?_)
  clear hS3 hT3 hR3
  refine wpAnyH_take (i := 0) rfl (by kernel_rfl) (by kernel_rfl) (by kernel_rfl) (fun _ _ _ h => h) (yieldsIf_row (by rfl) 25 _ rfl w.heap.size rfl 25 (stC (ent s 8 9 10 (setB (s 1) 128#64 (tb (s 1) 3) &&& ~~~6152#64 ||| 6144#64) pc c false tv)) (0, 0) _ (fun w' h => h.1) Try.underlying25 rfl hi31) hHeld ?_
  simp only [Act.put, List.setIfInBounds_toArray, List.set_cons_zero, List.set_cons_succ]
  refine wpAnyH_take (i := 1) rfl (by kernel_rfl) (by kernel_rfl) (by kernel_rfl) (fun _ _ _ h => h) (yieldsIf_of (.int .i64 3) (by rfl) (fun _ _ => by go_simp <;> rfl)) hHeld ?_
  simp only [Act.put, List.setIfInBounds_toArray, List.set_cons_zero, List.set_cons_succ]
  refine wpAnyH_take (i := 2) rfl (by kernel_rfl) (by kernel_rfl) (by kernel_rfl) (fun _ _ _ h => h) (yieldsIf_of (.int .u8 3) (by rfl) (fun _ _ => by go_simp <;> rfl)) hHeld ?_
  simp only [Act.put, List.setIfInBounds_toArray, List.set_cons_zero, List.set_cons_succ]
  refine wpAnyH_take (i := 3) rfl (by kernel_rfl) (by kernel_rfl) (by kernel_rfl) (fun _ _ _ h => h) (yieldsIf_of (.int .u64 (U (s 7))) (by rfl) (fun _ _ => by go_simp <;> rfl)) hHeld ?_
  simp only [Act.put, List.setIfInBounds_toArray, List.set_cons_zero, List.set_cons_succ]
  refine wpAnyH_take (i := 4) rfl (by kernel_rfl) (by kernel_rfl) (by kernel_rfl) (fun _ _ _ h => h) (yieldsIf_row (by rfl) 34 _ rfl (w.heap.size + 1) rfl 34 (tkC c false tv) (0, 0) _ (fun w' h => h.2.1) Try.underlying34 rfl (by kernel_rfl)) hHeld ?_
  simp only [Act.put, List.setIfInBounds_toArray, List.set_cons_zero, List.set_cons_succ]
  refine wpAnyH_ready (rs := [5]) (by kernel_rfl) (by simp) ?_
  refine AllReadyH.cons rfl (fun K hK => ?_) AllReadyH.nil
  go_simp
  go_at_call 34
  refine (way_any _ _ _ _ _ hc0 hc).mono ?_
  rintro e w4 ⟨rfl, hfr4⟩
  go_simp
  refine hK.out _ _ ⟨hfr4.keeps hHeld.1 (by simp), hfr4.keeps hHeld.2.1 (by simp), ?_, hHeld.2.2.2.trans hfr4⟩ (fun hHeld => ?_)
  · obtain ⟨z, hz1, hz2⟩ := hHeld.2.2.1
    exact ⟨z, hfr4.keeps hz1 (by simp), hz2⟩
  clear hK K
  refine wpAnyH_ready (rs := [6]) (by kernel_rfl) (by simp) ?_
  refine AllReadyH.cons rfl (fun K hK => ?_) AllReadyH.nil
  rw [if_pos (by rfl)]
  obtain ⟨z1, hz1, hz1'⟩ := hHeld.2.2.1
  refine wp_store_whole 25 _ _ rfl (w.heap.size + 1 + 1) rfl (stC (ent s 8 9 10 (setB (s 1) 128#64 (tb (s 1) 3) &&& ~~~6152#64 ||| 6144#64) pc c false tv)) rfl 25 z1 hz1 (by rw [hz1']; rfl) hi31 (oneCell_stC _) (fun w5 h5 hfr5 => ?_)
  have hfr5' : Fr [] w w5 := hHeld.2.2.2.step hfr5 (fun j hj => .inr (by simp at hj; omega))
  simp only [Act.put]
  refine hK.out _ _ ⟨hfr5.keeps hHeld.1 (by simp; omega), hfr5.keeps hHeld.2.1 (by simp), ⟨_, h5, rfl⟩, hfr5'⟩ (fun hHeld => ?_)
  clear hK K
  refine wpAnyH_ready (rs := [7]) (by kernel_rfl) (by simp) ?_
  refine AllReadyH.cons rfl (fun K hK => ?_) AllReadyH.nil
  go_simp
  refine hK.out _ _ hHeld (fun hHeld => ?_)
  clear hK K
  refine wpAnyH_ready (rs := [8]) (by kernel_rfl) (by simp) ?_
  refine AllReadyH.cons rfl (fun K hK => ?_) AllReadyH.nil
  go_simp
  refine hK.out _ _ hHeld (fun hHeld => ?_)
  clear hK K
  refine wpAnyH_done (by kernel_rfl) ?_ _
  go_wp2_with (fail)
  exact ⟨rfl, _, results_ctt rfl rfl h5 Try.underlying25 rfl hi31, rfl, hfr5'⟩
end Go.Proofs.Ytfdkmkblhicbfaa
