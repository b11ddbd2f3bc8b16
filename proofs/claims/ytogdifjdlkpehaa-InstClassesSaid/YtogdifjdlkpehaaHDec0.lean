/- Contracts of the small functions of package inst, and of pick. -/
import Derived.Test.YtogdifjdlkpehaaHPick
import Derived.Test.YtogdifjdlkpehaaEv
import Derived.Test.YtogdifjdlkpehaaK3
namespace Go.Proofs.Ytogdifjdlkpehaa.PA
open Go.RowKit Go.Proofs.YtogdifjdlkpehaaW.PrintWords Go.Proofs.YtogdifjdlkpehaaW.PrintLast Go.Proofs.YtogdifjdlkpehaaW.PrintMore
set_option linter.all false
theorem c_f3 {p : Int} (hp : P32 p) (w : World) : Calls Try.prog 24 #[.int .u32 p] w fun e w' => e = .returned (.int .u32 (p / 4096 % 8)) ∧ ∃ n, w' = w.drewN n := (inst_parcel_f3.calls p _ w (f3_ev hp)).mono fun _ _ ⟨h1, h2⟩ => ⟨h1, by obtain ⟨n, rfl⟩ := h2; exact ⟨n, rfl⟩⟩
theorem c_f7 {p : Int} (hp : P32 p) (w : World) : Calls Try.prog 47 #[.int .u32 p] w fun e w' => e = .returned (.int .u32 (p / 33554432 % 128)) ∧ ∃ n, w' = w.drewN n := (inst_parcel_f7.calls p _ w (f7_ev hp)).mono fun _ _ ⟨h1, h2⟩ => ⟨h1, by obtain ⟨n, rfl⟩ := h2; exact ⟨n, rfl⟩⟩
theorem c_rd {p : Int} (hp : P32 p) (w : World) : Calls Try.prog 21 #[.int .u32 p] w fun e w' => e = .returned (.int .u8 (p / 128 % 32)) ∧ ∃ n, w' = w.drewN n := (inst_parcel_rd.calls p _ w (rd_ev hp)).mono fun _ _ ⟨h1, h2⟩ => ⟨h1, by obtain ⟨n, rfl⟩ := h2; exact ⟨n, rfl⟩⟩
theorem c_rs1 {p : Int} (hp : P32 p) (w : World) : Calls Try.prog 43 #[.int .u32 p] w fun e w' => e = .returned (.int .u8 (p / 32768 % 32)) ∧ ∃ n, w' = w.drewN n := (inst_parcel_rs1.calls p _ w (rs1_ev hp)).mono fun _ _ ⟨h1, h2⟩ => ⟨h1, by obtain ⟨n, rfl⟩ := h2; exact ⟨n, rfl⟩⟩
theorem c_rs2 {p : Int} (hp : P32 p) (w : World) : Calls Try.prog 44 #[.int .u32 p] w fun e w' => e = .returned (.int .u8 (p / 1048576 % 32)) ∧ ∃ n, w' = w.drewN n := (inst_parcel_rs2.calls p _ w (rs2_ev hp)).mono fun _ _ ⟨h1, h2⟩ => ⟨h1, by obtain ⟨n, rfl⟩ := h2; exact ⟨n, rfl⟩⟩
theorem top_ev {p : Int} (hp : P32 p) : inst_parcel_top.f p = some (p / 67108864 % 64) := by
  unfold inst_parcel_top.f
  rw [show inst_parcel_bits.f p 26 31 = _ from bits_ev hp 26 31 6 rfl (by decide) (by decide)]
  rfl
theorem c_top {p : Int} (hp : P32 p) (w : World) : Calls Try.prog 45 #[.int .u32 p] w fun e w' => e = .returned (.int .u32 (p / 67108864 % 64)) ∧ ∃ n, w' = w.drewN n := (inst_parcel_top.calls p _ w (top_ev hp)).mono fun _ _ ⟨h1, h2⟩ => ⟨h1, by obtain ⟨n, rfl⟩ := h2; exact ⟨n, rfl⟩⟩
theorem c_bits_0_6 {p : Int} (hp : P32 p) (w : World) : Calls Try.prog 19 #[.int .u32 p, .int .i64 0, .int .i64 6] w fun e w' => e = .returned (.int .u32 (p % 128)) ∧ ∃ n, w' = w.drewN n := (inst_parcel_bits.calls p 0 6 (p % 128) w (Eq.trans (show inst_parcel_bits.f p 0 6 = _ from bits_ev hp 0 6 7 rfl (by decide) (by decide)) (by show some (p / 1 % _) = _; rw [Int.ediv_one]; rfl))).mono fun _ _ ⟨h1, h2⟩ => ⟨h1, by obtain ⟨n, rfl⟩ := h2; exact ⟨n, rfl⟩⟩
theorem c_bits_20_31 {p : Int} (hp : P32 p) (w : World) : Calls Try.prog 19 #[.int .u32 p, .int .i64 20, .int .i64 31] w fun e w' => e = .returned (.int .u32 (p / 1048576 % 4096)) ∧ ∃ n, w' = w.drewN n := (inst_parcel_bits.calls p 20 31 (p / 1048576 % 4096) w (Eq.trans (show inst_parcel_bits.f p 20 31 = _ from bits_ev hp 20 31 12 rfl (by decide) (by decide)) (by rfl))).mono fun _ _ ⟨h1, h2⟩ => ⟨h1, by obtain ⟨n, rfl⟩ := h2; exact ⟨n, rfl⟩⟩
theorem c_bits_27_31 {p : Int} (hp : P32 p) (w : World) : Calls Try.prog 19 #[.int .u32 p, .int .i64 27, .int .i64 31] w fun e w' => e = .returned (.int .u32 (p / 134217728 % 32)) ∧ ∃ n, w' = w.drewN n := (inst_parcel_bits.calls p 27 31 (p / 134217728 % 32) w (Eq.trans (show inst_parcel_bits.f p 27 31 = _ from bits_ev hp 27 31 5 rfl (by decide) (by decide)) (by rfl))).mono fun _ _ ⟨h1, h2⟩ => ⟨h1, by obtain ⟨n, rfl⟩ := h2; exact ⟨n, rfl⟩⟩
theorem c_r {p : Int} (hp : P32 p) (op : Int) (w : World) : Calls Try.prog 49 #[.int .u32 p, .int .u8 op] w fun e w' => e = .returned (.agg (IC (fillT p op 0))) ∧ Fr [] w w' :=
  (inst_parcel_r.calls p op _ _ _ _ _ _ _ w (r_ev hp op)).mono fun _ _ ⟨h1, h2⟩ => ⟨h1, fr_of_below' h2⟩
theorem c_i {p : Int} (hp : P32 p) (op : Int) (w : World) : Calls Try.prog 25 #[.int .u32 p, .int .u8 op] w fun e w' => e = .returned (.agg (IC (fillT p op 1))) ∧ Fr [] w w' :=
  (inst_parcel_i.calls 2 p op _ _ _ _ _ _ _ w (i_ev hp op)).mono fun _ _ ⟨h1, h2⟩ => ⟨h1, fr_of_below' h2⟩
theorem c_sh25 {p : Int} (hp : P32 p) (op : Int) (w : World) : Calls Try.prog 46 #[.int .u32 p, .int .u8 op, .int .i64 25] w fun e w' => e = .returned (.agg (IC (fillT p op 2))) ∧ Fr [] w w' :=
  (inst_parcel_shift.calls p op 25 _ _ _ _ _ _ _ w (shift_ev25 hp op)).mono fun _ _ ⟨h1, h2⟩ => ⟨h1, fr_of_below' h2⟩
theorem c_sh24 {p : Int} (hp : P32 p) (op : Int) (w : World) : Calls Try.prog 46 #[.int .u32 p, .int .u8 op, .int .i64 24] w fun e w' => e = .returned (.agg (IC (fillT p op 3))) ∧ Fr [] w w' :=
  (inst_parcel_shift.calls p op 24 _ _ _ _ _ _ _ w (shift_ev24 hp op)).mono fun _ _ ⟨h1, h2⟩ => ⟨h1, fr_of_below' h2⟩
theorem c_store {p : Int} (hp : P32 p) (op : Int) (w : World) : Calls Try.prog 27 #[.int .u32 p, .int .u8 op] w fun e w' => e = .returned (.agg (IC (fillT p op 4))) ∧ Fr [] w w' :=
  (inst_parcel_store.calls 3 p op _ _ _ _ _ _ _ w (store_ev hp op)).mono fun _ _ ⟨h1, h2⟩ => ⟨h1, fr_of_below' h2⟩
theorem c_branch {p : Int} (hp : P32 p) (op : Int) (w : World) : Calls Try.prog 26 #[.int .u32 p, .int .u8 op] w fun e w' => e = .returned (.agg (IC (fillT p op 5))) ∧ Fr [] w w' :=
  (inst_parcel_branch.calls 5 p op _ _ _ _ _ _ _ w (branch_ev hp op)).mono fun _ _ ⟨h1, h2⟩ => ⟨h1, fr_of_below' h2⟩
theorem c_upper {p : Int} (hp : P32 p) (op : Int) (w : World) : Calls Try.prog 20 #[.int .u32 p, .int .u8 op] w fun e w' => e = .returned (.agg (IC (fillT p op 6))) ∧ Fr [] w w' :=
  (inst_parcel_upper.calls 2 p op _ _ _ _ _ _ _ w (upper_ev hp op)).mono fun _ _ ⟨h1, h2⟩ => ⟨h1, fr_of_below' h2⟩
/-- a parcel that is none -/
def ill (p : Int) : T7 := (0, 0, 0, 0, p, 0, 4)
theorem ilT_is {p : Int} (hp : P32 p) : ilT p = ill p := by
  unfold ilT ill
  have : wrap64 p = p := by unfold P32 at hp; unfold wrap64; omega
  rw [this]
theorem c_ill {p : Int} (hp : P32 p) (w : World) : Calls Try.prog 35 #[.int .u32 p] w fun e w' => e = .returned (.agg (IC (ill p))) ∧ Fr [] w w' := by
  rw [← ilT_is hp]; exact il_any p w
/-- what stands at a place of a list of operations -/
def pickT (l : List Int) (n : Int) (f : Int → T7) (p : Int) : T7 := match l[n.toNat]? with | some op => if op = 0 then ill p else f op | none => ill p
def opsO (l : List Int) (ty : TypeId) : Obj := .cells (l.map (Value.int .u8)).toArray ty
theorem opsO_cell {w : World} {g : Nat} {l : List Int} {ty : TypeId} (h : w.heap[g]? = some (opsO l ty)) {j : Nat} {op : Int} (hj : l[j]? = some op) : w.cell? ⟨g, j, none⟩ = some (.int .u8 op) := by
  unfold opsO at h
  rw [blk_cell h]; simp [hj]
theorem picks_i8 {p : Int} (hp : P32 p) (n : Int) (h0 : 0 ≤ n) (g : Nat) (l : List Int) (hl : l.length = 8) (ty : TypeId) (w : World) (hb : w.heap[g]? = some (opsO l ty)) :
    Calls Try.prog 23 #[.int .u32 p, .slice (some ⟨g, 0, none⟩) 8 8, .int .u32 n, .func (.func 25) #[.int .u32 p] #[]] w fun e w' => e = .returned (.agg (IC (pickT l n (fun op => fillT p op 1) p))) ∧ Fr [] w w' := by
  by_cases hn : n < 8
  · obtain ⟨op, hop⟩ : ∃ op, l[n.toNat]? = some op := ⟨l[n.toNat]'(by omega), by simp⟩
    have hc := opsO_cell hb hop
    have hg := lt_block hb
    by_cases h : op = 0
    · subst h
      have e : pickT l n (fun op => fillT p op 1) p = ilT p := by unfold pickT; rw [hop, ilT_is hp]; rfl
      rw [e]
      exact pick_i8_nil p n g w h0 hn (decide_eq_false (by omega)) hg hc
    · have e : pickT l n (fun op => fillT p op 1) p = fillT p op 1 := by unfold pickT; rw [hop]; exact if_neg h
      rw [e]
      exact pick_i8_yes p n op g _ w h0 hn (decide_eq_false (by omega)) hg hc (by simpa using h) (hid fun w' _ => c_i hp op w')
  · have e : pickT l n (fun op => fillT p op 1) p = ilT p := by unfold pickT; rw [List.getElem?_eq_none (by omega), ilT_is hp]
    rw [e]
    exact pick_i8_no p n g w (decide_eq_true (by omega))
theorem picks_i7 {p : Int} (hp : P32 p) (n : Int) (h0 : 0 ≤ n) (g : Nat) (l : List Int) (hl : l.length = 7) (ty : TypeId) (w : World) (hb : w.heap[g]? = some (opsO l ty)) :
    Calls Try.prog 23 #[.int .u32 p, .slice (some ⟨g, 0, none⟩) 7 7, .int .u32 n, .func (.func 25) #[.int .u32 p] #[]] w fun e w' => e = .returned (.agg (IC (pickT l n (fun op => fillT p op 1) p))) ∧ Fr [] w w' := by
  by_cases hn : n < 7
  · obtain ⟨op, hop⟩ : ∃ op, l[n.toNat]? = some op := ⟨l[n.toNat]'(by omega), by simp⟩
    have hc := opsO_cell hb hop
    have hg := lt_block hb
    by_cases h : op = 0
    · subst h
      have e : pickT l n (fun op => fillT p op 1) p = ilT p := by unfold pickT; rw [hop, ilT_is hp]; rfl
      rw [e]
      exact pick_i7_nil p n g w h0 hn (decide_eq_false (by omega)) hg hc
    · have e : pickT l n (fun op => fillT p op 1) p = fillT p op 1 := by unfold pickT; rw [hop]; exact if_neg h
      rw [e]
      exact pick_i7_yes p n op g _ w h0 hn (decide_eq_false (by omega)) hg hc (by simpa using h) (hid fun w' _ => c_i hp op w')
  · have e : pickT l n (fun op => fillT p op 1) p = ilT p := by unfold pickT; rw [List.getElem?_eq_none (by omega), ilT_is hp]
    rw [e]
    exact pick_i7_no p n g w (decide_eq_true (by omega))
theorem picks_i1 {p : Int} (hp : P32 p) (n : Int) (h0 : 0 ≤ n) (g : Nat) (l : List Int) (hl : l.length = 1) (ty : TypeId) (w : World) (hb : w.heap[g]? = some (opsO l ty)) :
    Calls Try.prog 23 #[.int .u32 p, .slice (some ⟨g, 0, none⟩) 1 1, .int .u32 n, .func (.func 25) #[.int .u32 p] #[]] w fun e w' => e = .returned (.agg (IC (pickT l n (fun op => fillT p op 1) p))) ∧ Fr [] w w' := by
  by_cases hn : n < 1
  · obtain ⟨op, hop⟩ : ∃ op, l[n.toNat]? = some op := ⟨l[n.toNat]'(by omega), by simp⟩
    have hc := opsO_cell hb hop
    have hg := lt_block hb
    by_cases h : op = 0
    · subst h
      have e : pickT l n (fun op => fillT p op 1) p = ilT p := by unfold pickT; rw [hop, ilT_is hp]; rfl
      rw [e]
      exact pick_i1_nil p n g w h0 hn (decide_eq_false (by omega)) hg hc
    · have e : pickT l n (fun op => fillT p op 1) p = fillT p op 1 := by unfold pickT; rw [hop]; exact if_neg h
      rw [e]
      exact pick_i1_yes p n op g _ w h0 hn (decide_eq_false (by omega)) hg hc (by simpa using h) (hid fun w' _ => c_i hp op w')
  · have e : pickT l n (fun op => fillT p op 1) p = ilT p := by unfold pickT; rw [List.getElem?_eq_none (by omega), ilT_is hp]
    rw [e]
    exact pick_i1_no p n g w (decide_eq_true (by omega))
theorem picks_b8 {p : Int} (hp : P32 p) (n : Int) (h0 : 0 ≤ n) (g : Nat) (l : List Int) (hl : l.length = 8) (ty : TypeId) (w : World) (hb : w.heap[g]? = some (opsO l ty)) :
    Calls Try.prog 23 #[.int .u32 p, .slice (some ⟨g, 0, none⟩) 8 8, .int .u32 n, .func (.func 26) #[.int .u32 p] #[]] w fun e w' => e = .returned (.agg (IC (pickT l n (fun op => fillT p op 5) p))) ∧ Fr [] w w' := by
  by_cases hn : n < 8
  · obtain ⟨op, hop⟩ : ∃ op, l[n.toNat]? = some op := ⟨l[n.toNat]'(by omega), by simp⟩
    have hc := opsO_cell hb hop
    have hg := lt_block hb
    by_cases h : op = 0
    · subst h
      have e : pickT l n (fun op => fillT p op 5) p = ilT p := by unfold pickT; rw [hop, ilT_is hp]; rfl
      rw [e]
      exact pick_b8_nil p n g w h0 hn (decide_eq_false (by omega)) hg hc
    · have e : pickT l n (fun op => fillT p op 5) p = fillT p op 5 := by unfold pickT; rw [hop]; exact if_neg h
      rw [e]
      exact pick_b8_yes p n op g _ w h0 hn (decide_eq_false (by omega)) hg hc (by simpa using h) (hid fun w' _ => c_branch hp op w')
  · have e : pickT l n (fun op => fillT p op 5) p = ilT p := by unfold pickT; rw [List.getElem?_eq_none (by omega), ilT_is hp]
    rw [e]
    exact pick_b8_no p n g w (decide_eq_true (by omega))
theorem picks_s4 {p : Int} (hp : P32 p) (n : Int) (h0 : 0 ≤ n) (g : Nat) (l : List Int) (hl : l.length = 4) (ty : TypeId) (w : World) (hb : w.heap[g]? = some (opsO l ty)) :
    Calls Try.prog 23 #[.int .u32 p, .slice (some ⟨g, 0, none⟩) 4 4, .int .u32 n, .func (.func 27) #[.int .u32 p] #[]] w fun e w' => e = .returned (.agg (IC (pickT l n (fun op => fillT p op 4) p))) ∧ Fr [] w w' := by
  by_cases hn : n < 4
  · obtain ⟨op, hop⟩ : ∃ op, l[n.toNat]? = some op := ⟨l[n.toNat]'(by omega), by simp⟩
    have hc := opsO_cell hb hop
    have hg := lt_block hb
    by_cases h : op = 0
    · subst h
      have e : pickT l n (fun op => fillT p op 4) p = ilT p := by unfold pickT; rw [hop, ilT_is hp]; rfl
      rw [e]
      exact pick_s4_nil p n g w h0 hn (decide_eq_false (by omega)) hg hc
    · have e : pickT l n (fun op => fillT p op 4) p = fillT p op 4 := by unfold pickT; rw [hop]; exact if_neg h
      rw [e]
      exact pick_s4_yes p n op g _ w h0 hn (decide_eq_false (by omega)) hg hc (by simpa using h) (hid fun w' _ => c_store hp op w')
  · have e : pickT l n (fun op => fillT p op 4) p = ilT p := by unfold pickT; rw [List.getElem?_eq_none (by omega), ilT_is hp]
    rw [e]
    exact pick_s4_no p n g w (decide_eq_true (by omega))
theorem picks_r8 {p : Int} (hp : P32 p) (n : Int) (h0 : 0 ≤ n) (g : Nat) (l : List Int) (hl : l.length = 8) (ty : TypeId) (w : World) (hb : w.heap[g]? = some (opsO l ty)) :
    Calls Try.prog 23 #[.int .u32 p, .slice (some ⟨g, 0, none⟩) 8 8, .int .u32 n, .func (.func 49) #[.int .u32 p] #[]] w fun e w' => e = .returned (.agg (IC (pickT l n (fun op => fillT p op 0) p))) ∧ Fr [] w w' := by
  by_cases hn : n < 8
  · obtain ⟨op, hop⟩ : ∃ op, l[n.toNat]? = some op := ⟨l[n.toNat]'(by omega), by simp⟩
    have hc := opsO_cell hb hop
    have hg := lt_block hb
    by_cases h : op = 0
    · subst h
      have e : pickT l n (fun op => fillT p op 0) p = ilT p := by unfold pickT; rw [hop, ilT_is hp]; rfl
      rw [e]
      exact pick_r8_nil p n g w h0 hn (decide_eq_false (by omega)) hg hc
    · have e : pickT l n (fun op => fillT p op 0) p = fillT p op 0 := by unfold pickT; rw [hop]; exact if_neg h
      rw [e]
      exact pick_r8_yes p n op g _ w h0 hn (decide_eq_false (by omega)) hg hc (by simpa using h) (hid fun w' _ => c_r hp op w')
  · have e : pickT l n (fun op => fillT p op 0) p = ilT p := by unfold pickT; rw [List.getElem?_eq_none (by omega), ilT_is hp]
    rw [e]
    exact pick_r8_no p n g w (decide_eq_true (by omega))
theorem picks_r6 {p : Int} (hp : P32 p) (n : Int) (h0 : 0 ≤ n) (g : Nat) (l : List Int) (hl : l.length = 6) (ty : TypeId) (w : World) (hb : w.heap[g]? = some (opsO l ty)) :
    Calls Try.prog 23 #[.int .u32 p, .slice (some ⟨g, 0, none⟩) 6 6, .int .u32 n, .func (.func 49) #[.int .u32 p] #[]] w fun e w' => e = .returned (.agg (IC (pickT l n (fun op => fillT p op 0) p))) ∧ Fr [] w w' := by
  by_cases hn : n < 6
  · obtain ⟨op, hop⟩ : ∃ op, l[n.toNat]? = some op := ⟨l[n.toNat]'(by omega), by simp⟩
    have hc := opsO_cell hb hop
    have hg := lt_block hb
    by_cases h : op = 0
    · subst h
      have e : pickT l n (fun op => fillT p op 0) p = ilT p := by unfold pickT; rw [hop, ilT_is hp]; rfl
      rw [e]
      exact pick_r6_nil p n g w h0 hn (decide_eq_false (by omega)) hg hc
    · have e : pickT l n (fun op => fillT p op 0) p = fillT p op 0 := by unfold pickT; rw [hop]; exact if_neg h
      rw [e]
      exact pick_r6_yes p n op g _ w h0 hn (decide_eq_false (by omega)) hg hc (by simpa using h) (hid fun w' _ => c_r hp op w')
  · have e : pickT l n (fun op => fillT p op 0) p = ilT p := by unfold pickT; rw [List.getElem?_eq_none (by omega), ilT_is hp]
    rw [e]
    exact pick_r6_no p n g w (decide_eq_true (by omega))
theorem picks_r29 {p : Int} (hp : P32 p) (n : Int) (h0 : 0 ≤ n) (g : Nat) (l : List Int) (hl : l.length = 29) (ty : TypeId) (w : World) (hb : w.heap[g]? = some (opsO l ty)) :
    Calls Try.prog 23 #[.int .u32 p, .slice (some ⟨g, 0, none⟩) 29 29, .int .u32 n, .func (.func 49) #[.int .u32 p] #[]] w fun e w' => e = .returned (.agg (IC (pickT l n (fun op => fillT p op 0) p))) ∧ Fr [] w w' := by
  by_cases hn : n < 29
  · obtain ⟨op, hop⟩ : ∃ op, l[n.toNat]? = some op := ⟨l[n.toNat]'(by omega), by simp⟩
    have hc := opsO_cell hb hop
    have hg := lt_block hb
    by_cases h : op = 0
    · subst h
      have e : pickT l n (fun op => fillT p op 0) p = ilT p := by unfold pickT; rw [hop, ilT_is hp]; rfl
      rw [e]
      exact pick_r29_nil p n g w h0 hn (decide_eq_false (by omega)) hg hc
    · have e : pickT l n (fun op => fillT p op 0) p = fillT p op 0 := by unfold pickT; rw [hop]; exact if_neg h
      rw [e]
      exact pick_r29_yes p n op g _ w h0 hn (decide_eq_false (by omega)) hg hc (by simpa using h) (hid fun w' _ => c_r hp op w')
  · have e : pickT l n (fun op => fillT p op 0) p = ilT p := by unfold pickT; rw [List.getElem?_eq_none (by omega), ilT_is hp]
    rw [e]
    exact pick_r29_no p n g w (decide_eq_true (by omega))
end Go.Proofs.Ytogdifjdlkpehaa.PA
