/- Registers: 32 numbers; contracts of Get and Set, and of the reference's. -/
import Derived.Test.YtajbfnihgonppaaK3
import Derived.Deep.Cut
namespace Go.Proofs.Ytajbfnihgonppaa.PA
open Go.RowKit
set_option linter.all false
theorem world_at' (F : World → Prop) {P : Program} {c : Code} {Q : Exit → Act → World → Prop} {a : Act} {w : World} (hF : F w) (h : ∀ W, F W → c.wp P Q a W) : c.wp P Q a w := h w hF
/-- 32 registers as cells -/
def regC (s : Nat → Int) : Array Value := ((List.range 32).map fun i => Value.int .u64 (s i)).toArray
def upd (s : Nat → Int) (i : Nat) (v : Int) : Nat → Int := fun j => if j = i then v else s j
theorem regC_size (s : Nat → Int) : (regC s).size = 32 := by simp [regC]
theorem regC_one (s : Nat → Int) : (regC s).all (·.oneCell') = true := by simp [regC, Value.oneCell']
theorem regC_get (s : Nat → Int) {i : Nat} (h : i < 32) : (regC s)[i]? = some (.int .u64 (s i)) := by simp [regC, h]
theorem regC_set (s : Nat → Int) {i : Nat} (h : i < 32) (v : Int) : (regC s).setIfInBounds i (.int .u64 v) = regC (upd s i v) := by
  apply Array.ext
  · simp [regC]
  · intro j h1 h2
    simp [regC] at h1
    simp only [regC, upd, Array.getElem_setIfInBounds, List.getElem_toArray, List.getElem_map, List.getElem_range]
    by_cases hij : i = j
    · simp [hij]
    · simp [hij, Ne.symm hij]
theorem regC_eq {s t : Nat → Int} (h : ∀ i, i < 32 → s i = t i) : regC s = regC t := by
  unfold regC
  congr 1
  apply List.map_congr_left
  intro i hi
  rw [h i (List.mem_range.1 hi)]
theorem size_x (s : Nat → Int) : (Try.prog.info? 24).map (·.size) = some (regC s).size := by rw [regC_size]; kernel_rfl
theorem size_r (s : Nat → Int) : (Try.prog.info? 39).map (·.size) = some (regC s).size := by rw [regC_size]; kernel_rfl
/-- what a register tells; registers of which one is set -/
def getT (s : Nat → Int) (n : Int) : Int := if n % 32 = 0 then 0 else s (n % 32).toNat
def setT (s : Nat → Int) (n v : Int) : Nat → Int := if n % 32 = 0 then s else upd s (n % 32).toNat v
set_option maxRecDepth 100000 in
set_option maxHeartbeats 4000000 in
theorem get_0 (g : Nat) (n : Int) (w : World) (n0 : 0 ≤ n) (n1 : n < 256) (h : (n % 32 == 0) = true) : Calls Try.prog 12 #[.pointer (some ⟨g, 0, none⟩), .int .u8 n] w fun e w' => e = .returned (.int .u64 0) ∧ w = w' := by
  go_enter Try.func12, Try.ntmps12
  go_wp2
  go_ret
  exact ⟨rfl, rfl⟩
set_option maxRecDepth 100000 in
set_option maxHeartbeats 4000000 in
theorem get_1 (g : Nat) (n v : Int) (w : World) (n0 : 0 ≤ n) (n1 : n < 256) (h : (n % 32 == 0) = false) (hc : w.cell? ⟨g, (n % 32).toNat, none⟩ = some (.int .u64 v)) : Calls Try.prog 12 #[.pointer (some ⟨g, 0, none⟩), .int .u8 n] w fun e w' => e = .returned (.int .u64 v) ∧ w = w' := by
  go_enter Try.func12, Try.ntmps12
  go_wp2
  go_ret
  exact ⟨rfl, rfl⟩
theorem get_any (g : Nat) {n : Int} (s : Nat → Int) (w : World) (hn : 0 ≤ n ∧ n < 256) (hb : w.heap[g]? = some (.cells (regC s) 24)) : Calls Try.prog 12 #[.pointer (some ⟨g, 0, none⟩), .int .u8 n] w fun e w' => e = .returned (.int .u64 (getT s n)) ∧ w = w' := by
  unfold getT
  by_cases h : n % 32 = 0
  · rw [if_pos h]; exact get_0 g n w hn.1 hn.2 (by simpa using h)
  · rw [if_neg h]; exact get_1 g n _ w hn.1 hn.2 (by simpa using h) (by rw [blk_cell hb, regC_get s (by omega)])
set_option maxRecDepth 100000 in
set_option maxHeartbeats 4000000 in
theorem get_nil (n : Int) (w : World) : Calls Try.prog 12 #[.pointer none, .int .u8 n] w fun e w' => e = .returned (.int .u64 0) ∧ w = w' := by
  go_enter Try.func12, Try.ntmps12
  go_wp2
  go_ret
  exact ⟨rfl, rfl⟩
set_option maxRecDepth 100000 in
set_option maxHeartbeats 4000000 in
theorem set_0 (g : Nat) (n v : Int) (w : World) (n0 : 0 ≤ n) (n1 : n < 256) (h : (n % 32 != 0) = false) : Calls Try.prog 13 #[.pointer (some ⟨g, 0, none⟩), .int .u8 n, .int .u64 v] w fun e w' => e = .returned (.tuple #[]) ∧ w = w' := by
  go_enter Try.func13, Try.ntmps13
  go_wp2
  go_end0
  exact ⟨rfl, rfl⟩
set_option maxRecDepth 100000 in
set_option maxHeartbeats 4000000 in
theorem set_1 (g : Nat) (n v x : Int) (w : World) (n0 : 0 ≤ n) (n1 : n < 256) (h : (n % 32 != 0) = true) (hc : w.cell? ⟨g, (n % 32).toNat, none⟩ = some (.int .u64 x)) (hf : w.frozen? ⟨g, (n % 32).toNat, none⟩ = false) : Calls Try.prog 13 #[.pointer (some ⟨g, 0, none⟩), .int .u8 n, .int .u64 v] w fun e w' => e = .returned (.tuple #[]) ∧ w.setCell ⟨g, (n % 32).toNat, none⟩ (.int .u64 v) = w' := by
  go_enter Try.func13, Try.ntmps13
  go_wp2
  go_end0
  exact ⟨rfl, rfl⟩
set_option maxRecDepth 100000 in
set_option maxHeartbeats 4000000 in
theorem set_nil (n v : Int) (w : World) : Calls Try.prog 13 #[.pointer none, .int .u8 n, .int .u64 v] w fun e w' => e = .returned (.tuple #[]) ∧ w = w' := by
  go_enter Try.func13, Try.ntmps13
  go_wp2
  go_end0
  exact ⟨rfl, rfl⟩
theorem set_any (g : Nat) {n : Int} (v : Int) (s : Nat → Int) (w : World) (hn : 0 ≤ n ∧ n < 256) (hb : w.heap[g]? = some (.cells (regC s) 24)) : Calls Try.prog 13 #[.pointer (some ⟨g, 0, none⟩), .int .u8 n, .int .u64 v] w fun e w' => e = .returned (.tuple #[]) ∧ w'.heap[g]? = some (.cells (regC (setT s n v)) 24) ∧ Fr [g] w w' := by
  unfold setT
  by_cases h : n % 32 = 0
  · rw [if_pos h]
    refine (set_0 g n v w hn.1 hn.2 (by simpa using h)).mono ?_
    rintro e w' ⟨rfl, rfl⟩
    exact ⟨rfl, hb, Fr.refl _ _⟩
  · rw [if_neg h]
    refine (set_1 g n v _ w hn.1 hn.2 (by simpa using h) (by rw [blk_cell hb, regC_get s (by omega)]) (blk_free hb _)).mono ?_
    rintro e w' ⟨rfl, rfl⟩
    refine ⟨rfl, ?_, (Fr.refl _ _).setCell (.inl (by simp)) _⟩
    rw [blk_set hb, regC_set s (by omega)]
-- the reference's
set_option maxRecDepth 100000 in
set_option maxHeartbeats 4000000 in
theorem rget_0 (A : Array Value) (n : Int) (w : World) (n0 : 0 ≤ n) (n1 : n < 256) (h : (n % 32 == 0) = true) : Calls Try.prog 17 #[.agg A, .int .u8 n] w fun e w' => e = .returned (.int .u64 0) ∧ Fr [] w w' := by
  go_enter Try.func17, Try.ntmps17
  go_wp2
  go_ret
  exact ⟨rfl, (Fr.refl [] w).alloc _⟩
set_option maxRecDepth 100000 in
set_option maxHeartbeats 4000000 in
theorem rget_1 (s : Nat → Int) (n : Int) (w : World) (n0 : 0 ≤ n) (n1 : n < 256) (h : (n % 32 == 0) = false) : Calls Try.prog 17 #[.agg (regC s), .int .u8 n] w fun e w' => e = .returned (.int .u64 (s (n % 32).toNat)) ∧ Fr [] w w' := by
  have hx := regC_get s (i := (n % 32).toNat) (by omega)
  generalize regC s = A at *
  generalize s (n % 32).toNat = v at *
  replace hx := hid hx
  go_enter Try.func17, Try.ntmps17
  go_upto_region 3 with fail
  refine world_at' (fun W => W.cell? ⟨w.heap.size, (n % 32).toNat, none⟩ = some (.int .u64 v) ∧ Fr [] w W) ⟨by rw [blk_cell (blk_new _ _)]; exact hx.out, (Fr.refl [] w).alloc _⟩ ?_
  rintro W ⟨hc, hF⟩
  replace hF := hid hF
  go_wp2
  go_ret
  exact ⟨rfl, hF.out⟩
theorem rget_any {n : Int} (s : Nat → Int) (w : World) (hn : 0 ≤ n ∧ n < 256) : Calls Try.prog 17 #[.agg (regC s), .int .u8 n] w fun e w' => e = .returned (.int .u64 (getT s n)) ∧ Fr [] w w' := by
  unfold getT
  by_cases h : n % 32 = 0
  · rw [if_pos h]; exact rget_0 _ n w hn.1 hn.2 (by simpa using h)
  · rw [if_neg h]; exact rget_1 s n w hn.1 hn.2 (by simpa using h)
theorem zeroR : regC (fun _ => 0) = #[.int .u64 0, .int .u64 0, .int .u64 0, .int .u64 0, .int .u64 0, .int .u64 0, .int .u64 0, .int .u64 0, .int .u64 0, .int .u64 0, .int .u64 0, .int .u64 0, .int .u64 0, .int .u64 0, .int .u64 0, .int .u64 0, .int .u64 0, .int .u64 0, .int .u64 0, .int .u64 0, .int .u64 0, .int .u64 0, .int .u64 0, .int .u64 0, .int .u64 0, .int .u64 0, .int .u64 0, .int .u64 0, .int .u64 0, .int .u64 0, .int .u64 0, .int .u64 0] := by kernel_rfl
set_option maxRecDepth 100000 in
set_option maxHeartbeats 4000000 in
theorem rset_w (s : Nat → Int) (n v : Int) (b : Bool) (w : World) (n0 : 0 ≤ n) (n1 : n < 256) (h : (n % 32 != 0) = b) : Calls Try.prog 25 #[.agg (regC s), .int .u8 n, .int .u64 v] w fun e w' => e = .returned (.agg (regC (if b = true then upd s (n % 32).toNat v else s))) ∧ Fr [] w w' := by
  have hx := regC_get s (i := (n % 32).toNat) (by omega)
  have hset := regC_set s (i := (n % 32).toNat) (by omega) v
  replace hx := hid hx
  replace hset := hid hset
  go_enter Try.func25, Try.ntmps25
  go_upto_region 1 with fail
  refine world_at' (fun W => W.heap[w.heap.size]? = some (.cells (regC s) 39) ∧ W.heap[w.heap.size + 1]? = some (.cells (regC fun _ => 0) 39) ∧ Fr [] w W) ⟨blk_alloc (blk_new _ _) _, by rw [zeroR]; exact blk_new' (n := w.heap.size + 1) (by simp) _, ((Fr.refl [] w).alloc _).alloc _⟩ ?_
  rintro W ⟨hZ, hR, hF⟩
  have c0 : W.cell? ⟨w.heap.size, (n % 32).toNat, none⟩ = some (.int .u64 (s (n % 32).toNat)) := by rw [blk_cell hZ]; exact hx.out
  have f0 := blk_free hZ (n % 32).toNat
  generalize s (n % 32).toNat = x at *
  replace hZ := hid hZ
  replace hR := hid hR
  replace hF := hid hF
  cases b
  · go_wp2_with (first | (refine wpList_load_row_g (by rfl) 39 _ (by rfl) w.heap.size (by rfl) 39 (regC s) (0, 0) _ hZ.out Try.underlying39 rfl (size_r _) ?_) | (refine wpList_store_whole rfl 39 _ _ rfl (w.heap.size + 1) rfl (regC s) rfl 39 _ hR.out (by rw [regC_size, regC_size]) (size_r _) (regC_one _) ?_; intro w2 h2 hfr2))
    exact ⟨rfl, _, results_c rfl rfl h2 Try.underlying39 rfl (size_r _), rfl, hF.out.step hfr2 (fun j hj => .inr (by rw [List.mem_singleton.1 hj]; omega))⟩
  · go_upto_region 3 with fail
    refine world_at' (fun W => W.heap[w.heap.size]? = some (.cells (regC (upd s (n % 32).toNat v)) 39) ∧ W.heap[w.heap.size + 1]? = some (.cells (regC fun _ => 0) 39) ∧ Fr [] w W) ⟨by rw [← hset.out]; exact blk_set hZ.out _ _, by rw [blk_set_other _ (by simp)]; exact hR.out, hF.out.setCell (.inr (Nat.le_refl _)) _⟩ ?_
    clear hZ hR hF c0 f0 hset
    rintro W ⟨hZ, hR, hF⟩
    replace hZ := hid hZ
    replace hR := hid hR
    replace hF := hid hF
    show _
    go_wp2_with (first | (refine wpList_load_row_g (by rfl) 39 _ (by rfl) w.heap.size (by rfl) 39 (regC (upd s (n % 32).toNat v)) (0, 0) _ hZ.out Try.underlying39 rfl (size_r _) ?_) | (refine wpList_store_whole rfl 39 _ _ rfl (w.heap.size + 1) rfl (regC (upd s (n % 32).toNat v)) rfl 39 _ hR.out (by rw [regC_size, regC_size]) (size_r _) (regC_one _) ?_; intro w2 h2 hfr2))
    exact ⟨rfl, _, results_c rfl rfl h2 Try.underlying39 rfl (size_r _), rfl, hF.out.step hfr2 (fun j hj => .inr (by rw [List.mem_singleton.1 hj]; omega))⟩
theorem rset_any {n : Int} (v : Int) (s : Nat → Int) (w : World) (hn : 0 ≤ n ∧ n < 256) : Calls Try.prog 25 #[.agg (regC s), .int .u8 n, .int .u64 v] w fun e w' => e = .returned (.agg (regC (setT s n v))) ∧ Fr [] w w' := by
  have := rset_w s n v _ w hn.1 hn.2 rfl
  have e : (if (n % 32 != 0) = true then upd s (n % 32).toNat v else s) = setT s n v := by
    unfold setT
    by_cases h : n % 32 = 0 <;> simp [h]
  rw [e] at this
  exact this
end Go.Proofs.Ytajbfnihgonppaa.PA
