/- The law InstClasses: its walk. -/
import Derived.Test.YtogdifjdlkpehaaHLaw
import Derived.Deep.DeepCutAuto
namespace Go.Proofs.Ytogdifjdlkpehaa.PA
open Go.RowKit Go.Proofs.YtogdifjdlkpehaaW.PrintWords Go.Proofs.YtogdifjdlkpehaaW.PrintLast Go.Proofs.YtogdifjdlkpehaaW.PrintMore
set_option linter.all false
def signedT (op : Int) : Bool := inR op 11 14 || inR op 67 77
set_option maxRecDepth 100000 in
set_option maxHeartbeats 40000000 in
theorem signed_w (op : Int) (v1 v2 v : Bool) (w : World) (h1 : Hid (∀ w, Calls Try.prog 42 #[.int .u8 op, .int .u8 11, .int .u8 14] w fun e w' => e = .returned (.bool v1) ∧ ∃ n, w' = w.drewN n)) (h2 : Hid (∀ w, Calls Try.prog 42 #[.int .u8 op, .int .u8 67, .int .u8 77] w fun e w' => e = .returned (.bool v2) ∧ ∃ n, w' = w.drewN n)) (hv : Hid ((v1 || v2) = v)) :
    Calls Try.prog 18 #[.int .u8 op] w fun e w' => e = .returned (.bool v) ∧ Fr [] w w' := by
  have := hv.out
  cases v1
  all_goals
    simp only [Bool.false_or, Bool.true_or] at this
    subst this
    clear hv
    go_enter Try.func18, Try.ntmps18
    go_wp2_with (first | (go_at_call 42; (with_reducible refine (h1.out _).mono ?_); rintro e w' ⟨rfl, nn, rfl⟩) | (go_at_call 42; (with_reducible refine (h2.out _).mono ?_); rintro e w' ⟨rfl, nn, rfl⟩))
    go_ret
    exact ⟨rfl, (Fr.refl [] w).drewN _⟩
theorem signed_any (op : Int) (w : World) : Calls Try.prog 18 #[.int .u8 op] w fun e w' => e = .returned (.bool (signedT op)) ∧ Fr [] w w' :=
  signed_w op _ _ _ w (hid fun w => c_within op 11 14 w) (hid fun w => c_within op 67 77 w) (hid rfl)
def widthT (op : Int) : Int := match inst_Width.f op with | some x => x | none => 0
theorem width_fin : ∀ n : Fin 256, inst_Width.f (n.val : Int) = some (widthT (n.val : Int)) := by decide +kernel
theorem width_any (n : Nat) (hn : n < 256) (w : World) : Calls Try.prog 17 #[.int .u8 n] w fun e w' => e = .returned (.int .i64 (widthT n)) ∧ Fr [] w w' :=
  (inst_Width.calls n _ w (width_fin ⟨n, hn⟩)).mono fun _ _ ⟨h1, h2⟩ => ⟨h1, fr_of_below h2⟩
theorem class_any (n : Nat) (hn : n < 256) (w : World) : Calls Try.prog 16 #[.int .u8 n] w fun e w' => e = .returned (.int .u8 (classT n)) ∧ Fr [] w w' :=
  (c_class (op := n) (by omega) w).mono fun _ _ ⟨h1, m, h2⟩ => ⟨h1, by subst h2; exact (Fr.refl _ _).drewN m⟩
/-- how an operation stands: its class, its width, whether it is signed -/
def profB (n : Nat) (c wd : Int) (s : Bool) : Bool := classT n == c && widthT n == wd && signedT n == s
theorem prof_fin : ∀ n : Fin 256, (profB n.val 8 0 false || profB n.val 0 0 false || profB n.val 3 0 false || profB n.val 4 0 false || profB n.val 6 0 false || profB n.val 7 0 false || profB n.val 1 1 true || profB n.val 1 2 true || profB n.val 1 4 true || profB n.val 1 8 true || profB n.val 1 1 false || profB n.val 1 2 false || profB n.val 1 4 false || profB n.val 2 1 false || profB n.val 2 2 false || profB n.val 2 4 false || profB n.val 2 8 false || profB n.val 5 4 true || profB n.val 5 8 false) = true ∧ ((classT n.val == 8) = true ↔ n.val = 0 ∨ 99 ≤ n.val) := by decide +kernel
/-- how many of the first n operations are of a class -/
def cntT (c : Int) : Nat → Int
  | 0 => 0
  | n + 1 => cntT c n + if classT n = c then 1 else 0
theorem cnt_bd (c : Int) : ∀ n : Nat, 0 ≤ cntT c n ∧ cntT c n ≤ n
  | 0 => by simp [cntT]
  | n + 1 => by
    have := cnt_bd c n
    unfold cntT
    split <;> omega
def cntC (n : Nat) : Array Value := #[.int .i64 (cntT 0 n), .int .i64 (cntT 1 n), .int .i64 (cntT 2 n), .int .i64 (cntT 3 n), .int .i64 (cntT 4 n), .int .i64 (cntT 5 n), .int .i64 (cntT 6 n), .int .i64 (cntT 7 n), .int .i64 (cntT 8 n)]
theorem cnt_0 (n : Nat) (h : classT n = 0) : (cntC n).setIfInBounds 0 (.int .i64 (cntT 0 n + 1)) = cntC (n + 1) := by
  unfold cntC
  simp [cntT, h]
theorem cnt_1 (n : Nat) (h : classT n = 1) : (cntC n).setIfInBounds 1 (.int .i64 (cntT 1 n + 1)) = cntC (n + 1) := by
  unfold cntC
  simp [cntT, h]
theorem cnt_2 (n : Nat) (h : classT n = 2) : (cntC n).setIfInBounds 2 (.int .i64 (cntT 2 n + 1)) = cntC (n + 1) := by
  unfold cntC
  simp [cntT, h]
theorem cnt_3 (n : Nat) (h : classT n = 3) : (cntC n).setIfInBounds 3 (.int .i64 (cntT 3 n + 1)) = cntC (n + 1) := by
  unfold cntC
  simp [cntT, h]
theorem cnt_4 (n : Nat) (h : classT n = 4) : (cntC n).setIfInBounds 4 (.int .i64 (cntT 4 n + 1)) = cntC (n + 1) := by
  unfold cntC
  simp [cntT, h]
theorem cnt_5 (n : Nat) (h : classT n = 5) : (cntC n).setIfInBounds 5 (.int .i64 (cntT 5 n + 1)) = cntC (n + 1) := by
  unfold cntC
  simp [cntT, h]
theorem cnt_6 (n : Nat) (h : classT n = 6) : (cntC n).setIfInBounds 6 (.int .i64 (cntT 6 n + 1)) = cntC (n + 1) := by
  unfold cntC
  simp [cntT, h]
theorem cnt_7 (n : Nat) (h : classT n = 7) : (cntC n).setIfInBounds 7 (.int .i64 (cntT 7 n + 1)) = cntC (n + 1) := by
  unfold cntC
  simp [cntT, h]
theorem cnt_8 (n : Nat) (h : classT n = 8) : (cntC n).setIfInBounds 8 (.int .i64 (cntT 8 n + 1)) = cntC (n + 1) := by
  unfold cntC
  simp [cntT, h]
theorem cnt_end : cntT 1 256 = 7 ∧ cntT 2 256 = 4 ∧ cntT 3 256 = 6 ∧ cntT 4 256 = 2 ∧ cntT 5 256 = 22 ∧ cntT 6 256 = 6 ∧ cntT 7 256 = 8 ∧ cntT 0 256 = 43 := by decide +kernel
set_option maxRecDepth 100000 in
set_option maxHeartbeats 40000000 in
theorem classes_w (w : World) (h1 : Hid (∀ n : Nat, n < 256 → ∀ w, Calls Try.prog 16 #[.int .u8 n] w fun e w' => e = .returned (.int .u8 (classT n)) ∧ Fr [] w w')) (h2 : Hid (∀ n : Nat, n < 256 → ∀ w, Calls Try.prog 17 #[.int .u8 n] w fun e w' => e = .returned (.int .i64 (widthT n)) ∧ Fr [] w w')) (h3 : Hid (∀ n : Nat, n < 256 → ∀ w, Calls Try.prog 18 #[.int .u8 n] w fun e w' => e = .returned (.bool (signedT n)) ∧ Fr [] w w')) (h7 : Hid (∀ w, Calls Try.prog 11 #[] w fun e w' => e = .returned (.bool true) ∧ Fr [] w w')) : Calls Try.prog 8 #[] w fun e w' => e = .returned (.bool true) ∧ Fr [] w w' := by
  go_enter Try.func8, Try.ntmps8
  go_upto_region 3 with fail
  go_loopw [2] (fun i wr => ∃ n : Nat, n ≤ 256 ∧ i = .int .i64 n ∧ Hid (wr.heap[w.heap.size]? = some (.cells (cntC n) 37)) ∧ Hid (Fr [] w wr)) (fun i _ => 256 - (intOf i).toNat)
  case atStart => exact ⟨0, by decide, rfl, blk_new _ _, (Fr.refl [] w).alloc _⟩
  case round =>
    obtain ⟨n, hn, rfl, hC, hF⟩ := hrel
    by_cases hlt : n < 256
    · obtain ⟨hp, h8⟩ := prof_fin ⟨n, hlt⟩
      simp only at hp h8
      simp only [Bool.or_eq_true, or_assoc] at hp
      have c1 := h1.out n hlt
      have c2 := h2.out n hlt
      have c3 := h3.out n hlt
      rcases hp with hp | hp | hp | hp | hp | hp | hp | hp | hp | hp | hp | hp | hp | hp | hp | hp | hp | hp | hp
      · unfold profB at hp
        simp only [Bool.and_eq_true, beq_iff_eq] at hp
        obtain ⟨⟨e1, e2⟩, e3⟩ := hp
        rw [e1] at c1 h8
        rw [e2] at c2
        rw [e3] at c3
        replace c1 := hid c1
        replace c2 := hid c2
        replace c3 := hid c3
        replace e1 := hid e1
        clear e2 e3
        have h8' : n = 0 ∨ 99 ≤ n := h8.1 rfl
        clear h8
        rcases h8' with h0 | h8
        · have q1 : ((n : Int) == 0) = true := by simpa using h0
          replace h0 := hid h0
          have hb := cnt_bd 8 n
          have x0 : ∀ w1, Fr [] wr w1 → w1.cell? ⟨w.heap.size, 8, none⟩ = some (.int .i64 (cntT 8 n)) := fun w1 h => by rw [blk_cell (h.keeps hC.out (by simp))]; rfl
          have y0 : ∀ w1, Fr [] wr w1 → w1.frozen? ⟨w.heap.size, 8, none⟩ = false := fun w1 h => blk_free (h.keeps hC.out (by simp)) _
          replace x0 := hid x0
          replace y0 := hid y0
          go_upto_region 9 with (go_at_call 16; (with_reducible refine (c1.out _).mono ?_); rintro e w1 ⟨rfl, hd1⟩; have x1 := x0.out w1 hd1; have y1 := y0.out w1 hd1)
          refine world_atF (fun W => W.heap[w.heap.size]? = some (.cells (cntC (n + 1)) 37) ∧ Fr [] w W) ⟨by rw [← cnt_8 n e1.out]; exact blk_set (hd1.keeps hC.out (by simp)) _ _, (hF.out.trans hd1).setCell (.inr (Nat.le_refl _)) _⟩ ?_
          clear x0 y0 x1 y1 hd1 hb hC hF c1
          rintro W ⟨hC, hF⟩
          replace hC := hid hC
          replace hF := hid hF
          have hK := Fr.refl [] W
          go_wp2_with (first | (go_at_call 17; (with_reducible refine (c2.out _).mono ?_); rintro e w2 ⟨rfl, hd2⟩; replace hK := hK.trans hd2; clear hd2) | (go_at_call 18; (with_reducible refine (c3.out _).mono ?_); rintro e w2 ⟨rfl, hd2⟩; replace hK := hK.trans hd2; clear hd2))
          go_roundw
          case rel => exact ⟨n + 1, by omega, by go_num, hK.keeps hC.out (by simp), hF.out.trans hK⟩
          case measure => simp [intOf]; omega
        · have q1 : ((n : Int) == 0) = false := by simpa using (show n ≠ 0 by omega)
          have q2 : decide (99 ≤ (n : Int)) = true := decide_eq_true (by omega)
          clear h8
          have hb := cnt_bd 8 n
          have x0 : ∀ w1, Fr [] wr w1 → w1.cell? ⟨w.heap.size, 8, none⟩ = some (.int .i64 (cntT 8 n)) := fun w1 h => by rw [blk_cell (h.keeps hC.out (by simp))]; rfl
          have y0 : ∀ w1, Fr [] wr w1 → w1.frozen? ⟨w.heap.size, 8, none⟩ = false := fun w1 h => blk_free (h.keeps hC.out (by simp)) _
          replace x0 := hid x0
          replace y0 := hid y0
          go_upto_region 9 with (go_at_call 16; (with_reducible refine (c1.out _).mono ?_); rintro e w1 ⟨rfl, hd1⟩; have x1 := x0.out w1 hd1; have y1 := y0.out w1 hd1)
          refine world_atF (fun W => W.heap[w.heap.size]? = some (.cells (cntC (n + 1)) 37) ∧ Fr [] w W) ⟨by rw [← cnt_8 n e1.out]; exact blk_set (hd1.keeps hC.out (by simp)) _ _, (hF.out.trans hd1).setCell (.inr (Nat.le_refl _)) _⟩ ?_
          clear x0 y0 x1 y1 hd1 hb hC hF c1
          rintro W ⟨hC, hF⟩
          replace hC := hid hC
          replace hF := hid hF
          have hK := Fr.refl [] W
          go_wp2_with (first | (go_at_call 17; (with_reducible refine (c2.out _).mono ?_); rintro e w2 ⟨rfl, hd2⟩; replace hK := hK.trans hd2; clear hd2) | (go_at_call 18; (with_reducible refine (c3.out _).mono ?_); rintro e w2 ⟨rfl, hd2⟩; replace hK := hK.trans hd2; clear hd2))
          go_roundw
          case rel => exact ⟨n + 1, by omega, by go_num, hK.keeps hC.out (by simp), hF.out.trans hK⟩
          case measure => simp [intOf]; omega
      · unfold profB at hp
        simp only [Bool.and_eq_true, beq_iff_eq] at hp
        obtain ⟨⟨e1, e2⟩, e3⟩ := hp
        rw [e1] at c1 h8
        rw [e2] at c2
        rw [e3] at c3
        replace c1 := hid c1
        replace c2 := hid c2
        replace c3 := hid c3
        replace e1 := hid e1
        clear e2 e3
        have q0 : n ≠ 0 ∧ n < 99 := by
          have := mt h8.2 (by decide)
          omega
        have q1 : ((n : Int) == 0) = false := by simpa using q0.1
        have q2 : decide (99 ≤ (n : Int)) = false := decide_eq_false (by omega)
        clear h8 q0
        have hb := cnt_bd 0 n
        have x0 : ∀ w1, Fr [] wr w1 → w1.cell? ⟨w.heap.size, 0, none⟩ = some (.int .i64 (cntT 0 n)) := fun w1 h => by rw [blk_cell (h.keeps hC.out (by simp))]; rfl
        have y0 : ∀ w1, Fr [] wr w1 → w1.frozen? ⟨w.heap.size, 0, none⟩ = false := fun w1 h => blk_free (h.keeps hC.out (by simp)) _
        replace x0 := hid x0
        replace y0 := hid y0
        go_upto_region 9 with (go_at_call 16; (with_reducible refine (c1.out _).mono ?_); rintro e w1 ⟨rfl, hd1⟩; have x1 := x0.out w1 hd1; have y1 := y0.out w1 hd1)
        refine world_atF (fun W => W.heap[w.heap.size]? = some (.cells (cntC (n + 1)) 37) ∧ Fr [] w W) ⟨by rw [← cnt_0 n e1.out]; exact blk_set (hd1.keeps hC.out (by simp)) _ _, (hF.out.trans hd1).setCell (.inr (Nat.le_refl _)) _⟩ ?_
        clear x0 y0 x1 y1 hd1 hb hC hF c1
        rintro W ⟨hC, hF⟩
        replace hC := hid hC
        replace hF := hid hF
        have hK := Fr.refl [] W
        go_wp2_with (first | (go_at_call 17; (with_reducible refine (c2.out _).mono ?_); rintro e w2 ⟨rfl, hd2⟩; replace hK := hK.trans hd2; clear hd2) | (go_at_call 18; (with_reducible refine (c3.out _).mono ?_); rintro e w2 ⟨rfl, hd2⟩; replace hK := hK.trans hd2; clear hd2))
        go_roundw
        case rel => exact ⟨n + 1, by omega, by go_num, hK.keeps hC.out (by simp), hF.out.trans hK⟩
        case measure => simp [intOf]; omega
      · unfold profB at hp
        simp only [Bool.and_eq_true, beq_iff_eq] at hp
        obtain ⟨⟨e1, e2⟩, e3⟩ := hp
        rw [e1] at c1 h8
        rw [e2] at c2
        rw [e3] at c3
        replace c1 := hid c1
        replace c2 := hid c2
        replace c3 := hid c3
        replace e1 := hid e1
        clear e2 e3
        have q0 : n ≠ 0 ∧ n < 99 := by
          have := mt h8.2 (by decide)
          omega
        have q1 : ((n : Int) == 0) = false := by simpa using q0.1
        have q2 : decide (99 ≤ (n : Int)) = false := decide_eq_false (by omega)
        clear h8 q0
        have hb := cnt_bd 3 n
        have x0 : ∀ w1, Fr [] wr w1 → w1.cell? ⟨w.heap.size, 3, none⟩ = some (.int .i64 (cntT 3 n)) := fun w1 h => by rw [blk_cell (h.keeps hC.out (by simp))]; rfl
        have y0 : ∀ w1, Fr [] wr w1 → w1.frozen? ⟨w.heap.size, 3, none⟩ = false := fun w1 h => blk_free (h.keeps hC.out (by simp)) _
        replace x0 := hid x0
        replace y0 := hid y0
        go_upto_region 9 with (go_at_call 16; (with_reducible refine (c1.out _).mono ?_); rintro e w1 ⟨rfl, hd1⟩; have x1 := x0.out w1 hd1; have y1 := y0.out w1 hd1)
        refine world_atF (fun W => W.heap[w.heap.size]? = some (.cells (cntC (n + 1)) 37) ∧ Fr [] w W) ⟨by rw [← cnt_3 n e1.out]; exact blk_set (hd1.keeps hC.out (by simp)) _ _, (hF.out.trans hd1).setCell (.inr (Nat.le_refl _)) _⟩ ?_
        clear x0 y0 x1 y1 hd1 hb hC hF c1
        rintro W ⟨hC, hF⟩
        replace hC := hid hC
        replace hF := hid hF
        have hK := Fr.refl [] W
        go_wp2_with (first | (go_at_call 17; (with_reducible refine (c2.out _).mono ?_); rintro e w2 ⟨rfl, hd2⟩; replace hK := hK.trans hd2; clear hd2) | (go_at_call 18; (with_reducible refine (c3.out _).mono ?_); rintro e w2 ⟨rfl, hd2⟩; replace hK := hK.trans hd2; clear hd2))
        go_roundw
        case rel => exact ⟨n + 1, by omega, by go_num, hK.keeps hC.out (by simp), hF.out.trans hK⟩
        case measure => simp [intOf]; omega
      · unfold profB at hp
        simp only [Bool.and_eq_true, beq_iff_eq] at hp
        obtain ⟨⟨e1, e2⟩, e3⟩ := hp
        rw [e1] at c1 h8
        rw [e2] at c2
        rw [e3] at c3
        replace c1 := hid c1
        replace c2 := hid c2
        replace c3 := hid c3
        replace e1 := hid e1
        clear e2 e3
        have q0 : n ≠ 0 ∧ n < 99 := by
          have := mt h8.2 (by decide)
          omega
        have q1 : ((n : Int) == 0) = false := by simpa using q0.1
        have q2 : decide (99 ≤ (n : Int)) = false := decide_eq_false (by omega)
        clear h8 q0
        have hb := cnt_bd 4 n
        have x0 : ∀ w1, Fr [] wr w1 → w1.cell? ⟨w.heap.size, 4, none⟩ = some (.int .i64 (cntT 4 n)) := fun w1 h => by rw [blk_cell (h.keeps hC.out (by simp))]; rfl
        have y0 : ∀ w1, Fr [] wr w1 → w1.frozen? ⟨w.heap.size, 4, none⟩ = false := fun w1 h => blk_free (h.keeps hC.out (by simp)) _
        replace x0 := hid x0
        replace y0 := hid y0
        go_upto_region 9 with (go_at_call 16; (with_reducible refine (c1.out _).mono ?_); rintro e w1 ⟨rfl, hd1⟩; have x1 := x0.out w1 hd1; have y1 := y0.out w1 hd1)
        refine world_atF (fun W => W.heap[w.heap.size]? = some (.cells (cntC (n + 1)) 37) ∧ Fr [] w W) ⟨by rw [← cnt_4 n e1.out]; exact blk_set (hd1.keeps hC.out (by simp)) _ _, (hF.out.trans hd1).setCell (.inr (Nat.le_refl _)) _⟩ ?_
        clear x0 y0 x1 y1 hd1 hb hC hF c1
        rintro W ⟨hC, hF⟩
        replace hC := hid hC
        replace hF := hid hF
        have hK := Fr.refl [] W
        go_wp2_with (first | (go_at_call 17; (with_reducible refine (c2.out _).mono ?_); rintro e w2 ⟨rfl, hd2⟩; replace hK := hK.trans hd2; clear hd2) | (go_at_call 18; (with_reducible refine (c3.out _).mono ?_); rintro e w2 ⟨rfl, hd2⟩; replace hK := hK.trans hd2; clear hd2))
        go_roundw
        case rel => exact ⟨n + 1, by omega, by go_num, hK.keeps hC.out (by simp), hF.out.trans hK⟩
        case measure => simp [intOf]; omega
      · unfold profB at hp
        simp only [Bool.and_eq_true, beq_iff_eq] at hp
        obtain ⟨⟨e1, e2⟩, e3⟩ := hp
        rw [e1] at c1 h8
        rw [e2] at c2
        rw [e3] at c3
        replace c1 := hid c1
        replace c2 := hid c2
        replace c3 := hid c3
        replace e1 := hid e1
        clear e2 e3
        have q0 : n ≠ 0 ∧ n < 99 := by
          have := mt h8.2 (by decide)
          omega
        have q1 : ((n : Int) == 0) = false := by simpa using q0.1
        have q2 : decide (99 ≤ (n : Int)) = false := decide_eq_false (by omega)
        clear h8 q0
        have hb := cnt_bd 6 n
        have x0 : ∀ w1, Fr [] wr w1 → w1.cell? ⟨w.heap.size, 6, none⟩ = some (.int .i64 (cntT 6 n)) := fun w1 h => by rw [blk_cell (h.keeps hC.out (by simp))]; rfl
        have y0 : ∀ w1, Fr [] wr w1 → w1.frozen? ⟨w.heap.size, 6, none⟩ = false := fun w1 h => blk_free (h.keeps hC.out (by simp)) _
        replace x0 := hid x0
        replace y0 := hid y0
        go_upto_region 9 with (go_at_call 16; (with_reducible refine (c1.out _).mono ?_); rintro e w1 ⟨rfl, hd1⟩; have x1 := x0.out w1 hd1; have y1 := y0.out w1 hd1)
        refine world_atF (fun W => W.heap[w.heap.size]? = some (.cells (cntC (n + 1)) 37) ∧ Fr [] w W) ⟨by rw [← cnt_6 n e1.out]; exact blk_set (hd1.keeps hC.out (by simp)) _ _, (hF.out.trans hd1).setCell (.inr (Nat.le_refl _)) _⟩ ?_
        clear x0 y0 x1 y1 hd1 hb hC hF c1
        rintro W ⟨hC, hF⟩
        replace hC := hid hC
        replace hF := hid hF
        have hK := Fr.refl [] W
        go_wp2_with (first | (go_at_call 17; (with_reducible refine (c2.out _).mono ?_); rintro e w2 ⟨rfl, hd2⟩; replace hK := hK.trans hd2; clear hd2) | (go_at_call 18; (with_reducible refine (c3.out _).mono ?_); rintro e w2 ⟨rfl, hd2⟩; replace hK := hK.trans hd2; clear hd2))
        go_roundw
        case rel => exact ⟨n + 1, by omega, by go_num, hK.keeps hC.out (by simp), hF.out.trans hK⟩
        case measure => simp [intOf]; omega
      · unfold profB at hp
        simp only [Bool.and_eq_true, beq_iff_eq] at hp
        obtain ⟨⟨e1, e2⟩, e3⟩ := hp
        rw [e1] at c1 h8
        rw [e2] at c2
        rw [e3] at c3
        replace c1 := hid c1
        replace c2 := hid c2
        replace c3 := hid c3
        replace e1 := hid e1
        clear e2 e3
        have q0 : n ≠ 0 ∧ n < 99 := by
          have := mt h8.2 (by decide)
          omega
        have q1 : ((n : Int) == 0) = false := by simpa using q0.1
        have q2 : decide (99 ≤ (n : Int)) = false := decide_eq_false (by omega)
        clear h8 q0
        have hb := cnt_bd 7 n
        have x0 : ∀ w1, Fr [] wr w1 → w1.cell? ⟨w.heap.size, 7, none⟩ = some (.int .i64 (cntT 7 n)) := fun w1 h => by rw [blk_cell (h.keeps hC.out (by simp))]; rfl
        have y0 : ∀ w1, Fr [] wr w1 → w1.frozen? ⟨w.heap.size, 7, none⟩ = false := fun w1 h => blk_free (h.keeps hC.out (by simp)) _
        replace x0 := hid x0
        replace y0 := hid y0
        go_upto_region 9 with (go_at_call 16; (with_reducible refine (c1.out _).mono ?_); rintro e w1 ⟨rfl, hd1⟩; have x1 := x0.out w1 hd1; have y1 := y0.out w1 hd1)
        refine world_atF (fun W => W.heap[w.heap.size]? = some (.cells (cntC (n + 1)) 37) ∧ Fr [] w W) ⟨by rw [← cnt_7 n e1.out]; exact blk_set (hd1.keeps hC.out (by simp)) _ _, (hF.out.trans hd1).setCell (.inr (Nat.le_refl _)) _⟩ ?_
        clear x0 y0 x1 y1 hd1 hb hC hF c1
        rintro W ⟨hC, hF⟩
        replace hC := hid hC
        replace hF := hid hF
        have hK := Fr.refl [] W
        go_wp2_with (first | (go_at_call 17; (with_reducible refine (c2.out _).mono ?_); rintro e w2 ⟨rfl, hd2⟩; replace hK := hK.trans hd2; clear hd2) | (go_at_call 18; (with_reducible refine (c3.out _).mono ?_); rintro e w2 ⟨rfl, hd2⟩; replace hK := hK.trans hd2; clear hd2))
        go_roundw
        case rel => exact ⟨n + 1, by omega, by go_num, hK.keeps hC.out (by simp), hF.out.trans hK⟩
        case measure => simp [intOf]; omega
      · unfold profB at hp
        simp only [Bool.and_eq_true, beq_iff_eq] at hp
        obtain ⟨⟨e1, e2⟩, e3⟩ := hp
        rw [e1] at c1 h8
        rw [e2] at c2
        rw [e3] at c3
        replace c1 := hid c1
        replace c2 := hid c2
        replace c3 := hid c3
        replace e1 := hid e1
        clear e2 e3
        have q0 : n ≠ 0 ∧ n < 99 := by
          have := mt h8.2 (by decide)
          omega
        have q1 : ((n : Int) == 0) = false := by simpa using q0.1
        have q2 : decide (99 ≤ (n : Int)) = false := decide_eq_false (by omega)
        clear h8 q0
        have hb := cnt_bd 1 n
        have x0 : ∀ w1, Fr [] wr w1 → w1.cell? ⟨w.heap.size, 1, none⟩ = some (.int .i64 (cntT 1 n)) := fun w1 h => by rw [blk_cell (h.keeps hC.out (by simp))]; rfl
        have y0 : ∀ w1, Fr [] wr w1 → w1.frozen? ⟨w.heap.size, 1, none⟩ = false := fun w1 h => blk_free (h.keeps hC.out (by simp)) _
        replace x0 := hid x0
        replace y0 := hid y0
        go_upto_region 9 with (go_at_call 16; (with_reducible refine (c1.out _).mono ?_); rintro e w1 ⟨rfl, hd1⟩; have x1 := x0.out w1 hd1; have y1 := y0.out w1 hd1)
        refine world_atF (fun W => W.heap[w.heap.size]? = some (.cells (cntC (n + 1)) 37) ∧ Fr [] w W) ⟨by rw [← cnt_1 n e1.out]; exact blk_set (hd1.keeps hC.out (by simp)) _ _, (hF.out.trans hd1).setCell (.inr (Nat.le_refl _)) _⟩ ?_
        clear x0 y0 x1 y1 hd1 hb hC hF c1
        rintro W ⟨hC, hF⟩
        replace hC := hid hC
        replace hF := hid hF
        have hK := Fr.refl [] W
        go_wp2_with (first | (go_at_call 17; (with_reducible refine (c2.out _).mono ?_); rintro e w2 ⟨rfl, hd2⟩; replace hK := hK.trans hd2; clear hd2) | (go_at_call 18; (with_reducible refine (c3.out _).mono ?_); rintro e w2 ⟨rfl, hd2⟩; replace hK := hK.trans hd2; clear hd2))
        go_roundw
        case rel => exact ⟨n + 1, by omega, by go_num, hK.keeps hC.out (by simp), hF.out.trans hK⟩
        case measure => simp [intOf]; omega
      · unfold profB at hp
        simp only [Bool.and_eq_true, beq_iff_eq] at hp
        obtain ⟨⟨e1, e2⟩, e3⟩ := hp
        rw [e1] at c1 h8
        rw [e2] at c2
        rw [e3] at c3
        replace c1 := hid c1
        replace c2 := hid c2
        replace c3 := hid c3
        replace e1 := hid e1
        clear e2 e3
        have q0 : n ≠ 0 ∧ n < 99 := by
          have := mt h8.2 (by decide)
          omega
        have q1 : ((n : Int) == 0) = false := by simpa using q0.1
        have q2 : decide (99 ≤ (n : Int)) = false := decide_eq_false (by omega)
        clear h8 q0
        have hb := cnt_bd 1 n
        have x0 : ∀ w1, Fr [] wr w1 → w1.cell? ⟨w.heap.size, 1, none⟩ = some (.int .i64 (cntT 1 n)) := fun w1 h => by rw [blk_cell (h.keeps hC.out (by simp))]; rfl
        have y0 : ∀ w1, Fr [] wr w1 → w1.frozen? ⟨w.heap.size, 1, none⟩ = false := fun w1 h => blk_free (h.keeps hC.out (by simp)) _
        replace x0 := hid x0
        replace y0 := hid y0
        go_upto_region 9 with (go_at_call 16; (with_reducible refine (c1.out _).mono ?_); rintro e w1 ⟨rfl, hd1⟩; have x1 := x0.out w1 hd1; have y1 := y0.out w1 hd1)
        refine world_atF (fun W => W.heap[w.heap.size]? = some (.cells (cntC (n + 1)) 37) ∧ Fr [] w W) ⟨by rw [← cnt_1 n e1.out]; exact blk_set (hd1.keeps hC.out (by simp)) _ _, (hF.out.trans hd1).setCell (.inr (Nat.le_refl _)) _⟩ ?_
        clear x0 y0 x1 y1 hd1 hb hC hF c1
        rintro W ⟨hC, hF⟩
        replace hC := hid hC
        replace hF := hid hF
        have hK := Fr.refl [] W
        go_wp2_with (first | (go_at_call 17; (with_reducible refine (c2.out _).mono ?_); rintro e w2 ⟨rfl, hd2⟩; replace hK := hK.trans hd2; clear hd2) | (go_at_call 18; (with_reducible refine (c3.out _).mono ?_); rintro e w2 ⟨rfl, hd2⟩; replace hK := hK.trans hd2; clear hd2))
        go_roundw
        case rel => exact ⟨n + 1, by omega, by go_num, hK.keeps hC.out (by simp), hF.out.trans hK⟩
        case measure => simp [intOf]; omega
      · unfold profB at hp
        simp only [Bool.and_eq_true, beq_iff_eq] at hp
        obtain ⟨⟨e1, e2⟩, e3⟩ := hp
        rw [e1] at c1 h8
        rw [e2] at c2
        rw [e3] at c3
        replace c1 := hid c1
        replace c2 := hid c2
        replace c3 := hid c3
        replace e1 := hid e1
        clear e2 e3
        have q0 : n ≠ 0 ∧ n < 99 := by
          have := mt h8.2 (by decide)
          omega
        have q1 : ((n : Int) == 0) = false := by simpa using q0.1
        have q2 : decide (99 ≤ (n : Int)) = false := decide_eq_false (by omega)
        clear h8 q0
        have hb := cnt_bd 1 n
        have x0 : ∀ w1, Fr [] wr w1 → w1.cell? ⟨w.heap.size, 1, none⟩ = some (.int .i64 (cntT 1 n)) := fun w1 h => by rw [blk_cell (h.keeps hC.out (by simp))]; rfl
        have y0 : ∀ w1, Fr [] wr w1 → w1.frozen? ⟨w.heap.size, 1, none⟩ = false := fun w1 h => blk_free (h.keeps hC.out (by simp)) _
        replace x0 := hid x0
        replace y0 := hid y0
        go_upto_region 9 with (go_at_call 16; (with_reducible refine (c1.out _).mono ?_); rintro e w1 ⟨rfl, hd1⟩; have x1 := x0.out w1 hd1; have y1 := y0.out w1 hd1)
        refine world_atF (fun W => W.heap[w.heap.size]? = some (.cells (cntC (n + 1)) 37) ∧ Fr [] w W) ⟨by rw [← cnt_1 n e1.out]; exact blk_set (hd1.keeps hC.out (by simp)) _ _, (hF.out.trans hd1).setCell (.inr (Nat.le_refl _)) _⟩ ?_
        clear x0 y0 x1 y1 hd1 hb hC hF c1
        rintro W ⟨hC, hF⟩
        replace hC := hid hC
        replace hF := hid hF
        have hK := Fr.refl [] W
        go_wp2_with (first | (go_at_call 17; (with_reducible refine (c2.out _).mono ?_); rintro e w2 ⟨rfl, hd2⟩; replace hK := hK.trans hd2; clear hd2) | (go_at_call 18; (with_reducible refine (c3.out _).mono ?_); rintro e w2 ⟨rfl, hd2⟩; replace hK := hK.trans hd2; clear hd2))
        go_roundw
        case rel => exact ⟨n + 1, by omega, by go_num, hK.keeps hC.out (by simp), hF.out.trans hK⟩
        case measure => simp [intOf]; omega
      · unfold profB at hp
        simp only [Bool.and_eq_true, beq_iff_eq] at hp
        obtain ⟨⟨e1, e2⟩, e3⟩ := hp
        rw [e1] at c1 h8
        rw [e2] at c2
        rw [e3] at c3
        replace c1 := hid c1
        replace c2 := hid c2
        replace c3 := hid c3
        replace e1 := hid e1
        clear e2 e3
        have q0 : n ≠ 0 ∧ n < 99 := by
          have := mt h8.2 (by decide)
          omega
        have q1 : ((n : Int) == 0) = false := by simpa using q0.1
        have q2 : decide (99 ≤ (n : Int)) = false := decide_eq_false (by omega)
        clear h8 q0
        have hb := cnt_bd 1 n
        have x0 : ∀ w1, Fr [] wr w1 → w1.cell? ⟨w.heap.size, 1, none⟩ = some (.int .i64 (cntT 1 n)) := fun w1 h => by rw [blk_cell (h.keeps hC.out (by simp))]; rfl
        have y0 : ∀ w1, Fr [] wr w1 → w1.frozen? ⟨w.heap.size, 1, none⟩ = false := fun w1 h => blk_free (h.keeps hC.out (by simp)) _
        replace x0 := hid x0
        replace y0 := hid y0
        go_upto_region 9 with (go_at_call 16; (with_reducible refine (c1.out _).mono ?_); rintro e w1 ⟨rfl, hd1⟩; have x1 := x0.out w1 hd1; have y1 := y0.out w1 hd1)
        refine world_atF (fun W => W.heap[w.heap.size]? = some (.cells (cntC (n + 1)) 37) ∧ Fr [] w W) ⟨by rw [← cnt_1 n e1.out]; exact blk_set (hd1.keeps hC.out (by simp)) _ _, (hF.out.trans hd1).setCell (.inr (Nat.le_refl _)) _⟩ ?_
        clear x0 y0 x1 y1 hd1 hb hC hF c1
        rintro W ⟨hC, hF⟩
        replace hC := hid hC
        replace hF := hid hF
        have hK := Fr.refl [] W
        go_wp2_with (first | (go_at_call 17; (with_reducible refine (c2.out _).mono ?_); rintro e w2 ⟨rfl, hd2⟩; replace hK := hK.trans hd2; clear hd2) | (go_at_call 18; (with_reducible refine (c3.out _).mono ?_); rintro e w2 ⟨rfl, hd2⟩; replace hK := hK.trans hd2; clear hd2))
        go_roundw
        case rel => exact ⟨n + 1, by omega, by go_num, hK.keeps hC.out (by simp), hF.out.trans hK⟩
        case measure => simp [intOf]; omega
      · unfold profB at hp
        simp only [Bool.and_eq_true, beq_iff_eq] at hp
        obtain ⟨⟨e1, e2⟩, e3⟩ := hp
        rw [e1] at c1 h8
        rw [e2] at c2
        rw [e3] at c3
        replace c1 := hid c1
        replace c2 := hid c2
        replace c3 := hid c3
        replace e1 := hid e1
        clear e2 e3
        have q0 : n ≠ 0 ∧ n < 99 := by
          have := mt h8.2 (by decide)
          omega
        have q1 : ((n : Int) == 0) = false := by simpa using q0.1
        have q2 : decide (99 ≤ (n : Int)) = false := decide_eq_false (by omega)
        clear h8 q0
        have hb := cnt_bd 1 n
        have x0 : ∀ w1, Fr [] wr w1 → w1.cell? ⟨w.heap.size, 1, none⟩ = some (.int .i64 (cntT 1 n)) := fun w1 h => by rw [blk_cell (h.keeps hC.out (by simp))]; rfl
        have y0 : ∀ w1, Fr [] wr w1 → w1.frozen? ⟨w.heap.size, 1, none⟩ = false := fun w1 h => blk_free (h.keeps hC.out (by simp)) _
        replace x0 := hid x0
        replace y0 := hid y0
        go_upto_region 9 with (go_at_call 16; (with_reducible refine (c1.out _).mono ?_); rintro e w1 ⟨rfl, hd1⟩; have x1 := x0.out w1 hd1; have y1 := y0.out w1 hd1)
        refine world_atF (fun W => W.heap[w.heap.size]? = some (.cells (cntC (n + 1)) 37) ∧ Fr [] w W) ⟨by rw [← cnt_1 n e1.out]; exact blk_set (hd1.keeps hC.out (by simp)) _ _, (hF.out.trans hd1).setCell (.inr (Nat.le_refl _)) _⟩ ?_
        clear x0 y0 x1 y1 hd1 hb hC hF c1
        rintro W ⟨hC, hF⟩
        replace hC := hid hC
        replace hF := hid hF
        have hK := Fr.refl [] W
        go_wp2_with (first | (go_at_call 17; (with_reducible refine (c2.out _).mono ?_); rintro e w2 ⟨rfl, hd2⟩; replace hK := hK.trans hd2; clear hd2) | (go_at_call 18; (with_reducible refine (c3.out _).mono ?_); rintro e w2 ⟨rfl, hd2⟩; replace hK := hK.trans hd2; clear hd2))
        go_roundw
        case rel => exact ⟨n + 1, by omega, by go_num, hK.keeps hC.out (by simp), hF.out.trans hK⟩
        case measure => simp [intOf]; omega
      · unfold profB at hp
        simp only [Bool.and_eq_true, beq_iff_eq] at hp
        obtain ⟨⟨e1, e2⟩, e3⟩ := hp
        rw [e1] at c1 h8
        rw [e2] at c2
        rw [e3] at c3
        replace c1 := hid c1
        replace c2 := hid c2
        replace c3 := hid c3
        replace e1 := hid e1
        clear e2 e3
        have q0 : n ≠ 0 ∧ n < 99 := by
          have := mt h8.2 (by decide)
          omega
        have q1 : ((n : Int) == 0) = false := by simpa using q0.1
        have q2 : decide (99 ≤ (n : Int)) = false := decide_eq_false (by omega)
        clear h8 q0
        have hb := cnt_bd 1 n
        have x0 : ∀ w1, Fr [] wr w1 → w1.cell? ⟨w.heap.size, 1, none⟩ = some (.int .i64 (cntT 1 n)) := fun w1 h => by rw [blk_cell (h.keeps hC.out (by simp))]; rfl
        have y0 : ∀ w1, Fr [] wr w1 → w1.frozen? ⟨w.heap.size, 1, none⟩ = false := fun w1 h => blk_free (h.keeps hC.out (by simp)) _
        replace x0 := hid x0
        replace y0 := hid y0
        go_upto_region 9 with (go_at_call 16; (with_reducible refine (c1.out _).mono ?_); rintro e w1 ⟨rfl, hd1⟩; have x1 := x0.out w1 hd1; have y1 := y0.out w1 hd1)
        refine world_atF (fun W => W.heap[w.heap.size]? = some (.cells (cntC (n + 1)) 37) ∧ Fr [] w W) ⟨by rw [← cnt_1 n e1.out]; exact blk_set (hd1.keeps hC.out (by simp)) _ _, (hF.out.trans hd1).setCell (.inr (Nat.le_refl _)) _⟩ ?_
        clear x0 y0 x1 y1 hd1 hb hC hF c1
        rintro W ⟨hC, hF⟩
        replace hC := hid hC
        replace hF := hid hF
        have hK := Fr.refl [] W
        go_wp2_with (first | (go_at_call 17; (with_reducible refine (c2.out _).mono ?_); rintro e w2 ⟨rfl, hd2⟩; replace hK := hK.trans hd2; clear hd2) | (go_at_call 18; (with_reducible refine (c3.out _).mono ?_); rintro e w2 ⟨rfl, hd2⟩; replace hK := hK.trans hd2; clear hd2))
        go_roundw
        case rel => exact ⟨n + 1, by omega, by go_num, hK.keeps hC.out (by simp), hF.out.trans hK⟩
        case measure => simp [intOf]; omega
      · unfold profB at hp
        simp only [Bool.and_eq_true, beq_iff_eq] at hp
        obtain ⟨⟨e1, e2⟩, e3⟩ := hp
        rw [e1] at c1 h8
        rw [e2] at c2
        rw [e3] at c3
        replace c1 := hid c1
        replace c2 := hid c2
        replace c3 := hid c3
        replace e1 := hid e1
        clear e2 e3
        have q0 : n ≠ 0 ∧ n < 99 := by
          have := mt h8.2 (by decide)
          omega
        have q1 : ((n : Int) == 0) = false := by simpa using q0.1
        have q2 : decide (99 ≤ (n : Int)) = false := decide_eq_false (by omega)
        clear h8 q0
        have hb := cnt_bd 1 n
        have x0 : ∀ w1, Fr [] wr w1 → w1.cell? ⟨w.heap.size, 1, none⟩ = some (.int .i64 (cntT 1 n)) := fun w1 h => by rw [blk_cell (h.keeps hC.out (by simp))]; rfl
        have y0 : ∀ w1, Fr [] wr w1 → w1.frozen? ⟨w.heap.size, 1, none⟩ = false := fun w1 h => blk_free (h.keeps hC.out (by simp)) _
        replace x0 := hid x0
        replace y0 := hid y0
        go_upto_region 9 with (go_at_call 16; (with_reducible refine (c1.out _).mono ?_); rintro e w1 ⟨rfl, hd1⟩; have x1 := x0.out w1 hd1; have y1 := y0.out w1 hd1)
        refine world_atF (fun W => W.heap[w.heap.size]? = some (.cells (cntC (n + 1)) 37) ∧ Fr [] w W) ⟨by rw [← cnt_1 n e1.out]; exact blk_set (hd1.keeps hC.out (by simp)) _ _, (hF.out.trans hd1).setCell (.inr (Nat.le_refl _)) _⟩ ?_
        clear x0 y0 x1 y1 hd1 hb hC hF c1
        rintro W ⟨hC, hF⟩
        replace hC := hid hC
        replace hF := hid hF
        have hK := Fr.refl [] W
        go_wp2_with (first | (go_at_call 17; (with_reducible refine (c2.out _).mono ?_); rintro e w2 ⟨rfl, hd2⟩; replace hK := hK.trans hd2; clear hd2) | (go_at_call 18; (with_reducible refine (c3.out _).mono ?_); rintro e w2 ⟨rfl, hd2⟩; replace hK := hK.trans hd2; clear hd2))
        go_roundw
        case rel => exact ⟨n + 1, by omega, by go_num, hK.keeps hC.out (by simp), hF.out.trans hK⟩
        case measure => simp [intOf]; omega
      · unfold profB at hp
        simp only [Bool.and_eq_true, beq_iff_eq] at hp
        obtain ⟨⟨e1, e2⟩, e3⟩ := hp
        rw [e1] at c1 h8
        rw [e2] at c2
        rw [e3] at c3
        replace c1 := hid c1
        replace c2 := hid c2
        replace c3 := hid c3
        replace e1 := hid e1
        clear e2 e3
        have q0 : n ≠ 0 ∧ n < 99 := by
          have := mt h8.2 (by decide)
          omega
        have q1 : ((n : Int) == 0) = false := by simpa using q0.1
        have q2 : decide (99 ≤ (n : Int)) = false := decide_eq_false (by omega)
        clear h8 q0
        have hb := cnt_bd 2 n
        have x0 : ∀ w1, Fr [] wr w1 → w1.cell? ⟨w.heap.size, 2, none⟩ = some (.int .i64 (cntT 2 n)) := fun w1 h => by rw [blk_cell (h.keeps hC.out (by simp))]; rfl
        have y0 : ∀ w1, Fr [] wr w1 → w1.frozen? ⟨w.heap.size, 2, none⟩ = false := fun w1 h => blk_free (h.keeps hC.out (by simp)) _
        replace x0 := hid x0
        replace y0 := hid y0
        go_upto_region 9 with (go_at_call 16; (with_reducible refine (c1.out _).mono ?_); rintro e w1 ⟨rfl, hd1⟩; have x1 := x0.out w1 hd1; have y1 := y0.out w1 hd1)
        refine world_atF (fun W => W.heap[w.heap.size]? = some (.cells (cntC (n + 1)) 37) ∧ Fr [] w W) ⟨by rw [← cnt_2 n e1.out]; exact blk_set (hd1.keeps hC.out (by simp)) _ _, (hF.out.trans hd1).setCell (.inr (Nat.le_refl _)) _⟩ ?_
        clear x0 y0 x1 y1 hd1 hb hC hF c1
        rintro W ⟨hC, hF⟩
        replace hC := hid hC
        replace hF := hid hF
        have hK := Fr.refl [] W
        go_wp2_with (first | (go_at_call 17; (with_reducible refine (c2.out _).mono ?_); rintro e w2 ⟨rfl, hd2⟩; replace hK := hK.trans hd2; clear hd2) | (go_at_call 18; (with_reducible refine (c3.out _).mono ?_); rintro e w2 ⟨rfl, hd2⟩; replace hK := hK.trans hd2; clear hd2))
        go_roundw
        case rel => exact ⟨n + 1, by omega, by go_num, hK.keeps hC.out (by simp), hF.out.trans hK⟩
        case measure => simp [intOf]; omega
      · unfold profB at hp
        simp only [Bool.and_eq_true, beq_iff_eq] at hp
        obtain ⟨⟨e1, e2⟩, e3⟩ := hp
        rw [e1] at c1 h8
        rw [e2] at c2
        rw [e3] at c3
        replace c1 := hid c1
        replace c2 := hid c2
        replace c3 := hid c3
        replace e1 := hid e1
        clear e2 e3
        have q0 : n ≠ 0 ∧ n < 99 := by
          have := mt h8.2 (by decide)
          omega
        have q1 : ((n : Int) == 0) = false := by simpa using q0.1
        have q2 : decide (99 ≤ (n : Int)) = false := decide_eq_false (by omega)
        clear h8 q0
        have hb := cnt_bd 2 n
        have x0 : ∀ w1, Fr [] wr w1 → w1.cell? ⟨w.heap.size, 2, none⟩ = some (.int .i64 (cntT 2 n)) := fun w1 h => by rw [blk_cell (h.keeps hC.out (by simp))]; rfl
        have y0 : ∀ w1, Fr [] wr w1 → w1.frozen? ⟨w.heap.size, 2, none⟩ = false := fun w1 h => blk_free (h.keeps hC.out (by simp)) _
        replace x0 := hid x0
        replace y0 := hid y0
        go_upto_region 9 with (go_at_call 16; (with_reducible refine (c1.out _).mono ?_); rintro e w1 ⟨rfl, hd1⟩; have x1 := x0.out w1 hd1; have y1 := y0.out w1 hd1)
        refine world_atF (fun W => W.heap[w.heap.size]? = some (.cells (cntC (n + 1)) 37) ∧ Fr [] w W) ⟨by rw [← cnt_2 n e1.out]; exact blk_set (hd1.keeps hC.out (by simp)) _ _, (hF.out.trans hd1).setCell (.inr (Nat.le_refl _)) _⟩ ?_
        clear x0 y0 x1 y1 hd1 hb hC hF c1
        rintro W ⟨hC, hF⟩
        replace hC := hid hC
        replace hF := hid hF
        have hK := Fr.refl [] W
        go_wp2_with (first | (go_at_call 17; (with_reducible refine (c2.out _).mono ?_); rintro e w2 ⟨rfl, hd2⟩; replace hK := hK.trans hd2; clear hd2) | (go_at_call 18; (with_reducible refine (c3.out _).mono ?_); rintro e w2 ⟨rfl, hd2⟩; replace hK := hK.trans hd2; clear hd2))
        go_roundw
        case rel => exact ⟨n + 1, by omega, by go_num, hK.keeps hC.out (by simp), hF.out.trans hK⟩
        case measure => simp [intOf]; omega
      · unfold profB at hp
        simp only [Bool.and_eq_true, beq_iff_eq] at hp
        obtain ⟨⟨e1, e2⟩, e3⟩ := hp
        rw [e1] at c1 h8
        rw [e2] at c2
        rw [e3] at c3
        replace c1 := hid c1
        replace c2 := hid c2
        replace c3 := hid c3
        replace e1 := hid e1
        clear e2 e3
        have q0 : n ≠ 0 ∧ n < 99 := by
          have := mt h8.2 (by decide)
          omega
        have q1 : ((n : Int) == 0) = false := by simpa using q0.1
        have q2 : decide (99 ≤ (n : Int)) = false := decide_eq_false (by omega)
        clear h8 q0
        have hb := cnt_bd 2 n
        have x0 : ∀ w1, Fr [] wr w1 → w1.cell? ⟨w.heap.size, 2, none⟩ = some (.int .i64 (cntT 2 n)) := fun w1 h => by rw [blk_cell (h.keeps hC.out (by simp))]; rfl
        have y0 : ∀ w1, Fr [] wr w1 → w1.frozen? ⟨w.heap.size, 2, none⟩ = false := fun w1 h => blk_free (h.keeps hC.out (by simp)) _
        replace x0 := hid x0
        replace y0 := hid y0
        go_upto_region 9 with (go_at_call 16; (with_reducible refine (c1.out _).mono ?_); rintro e w1 ⟨rfl, hd1⟩; have x1 := x0.out w1 hd1; have y1 := y0.out w1 hd1)
        refine world_atF (fun W => W.heap[w.heap.size]? = some (.cells (cntC (n + 1)) 37) ∧ Fr [] w W) ⟨by rw [← cnt_2 n e1.out]; exact blk_set (hd1.keeps hC.out (by simp)) _ _, (hF.out.trans hd1).setCell (.inr (Nat.le_refl _)) _⟩ ?_
        clear x0 y0 x1 y1 hd1 hb hC hF c1
        rintro W ⟨hC, hF⟩
        replace hC := hid hC
        replace hF := hid hF
        have hK := Fr.refl [] W
        go_wp2_with (first | (go_at_call 17; (with_reducible refine (c2.out _).mono ?_); rintro e w2 ⟨rfl, hd2⟩; replace hK := hK.trans hd2; clear hd2) | (go_at_call 18; (with_reducible refine (c3.out _).mono ?_); rintro e w2 ⟨rfl, hd2⟩; replace hK := hK.trans hd2; clear hd2))
        go_roundw
        case rel => exact ⟨n + 1, by omega, by go_num, hK.keeps hC.out (by simp), hF.out.trans hK⟩
        case measure => simp [intOf]; omega
      · unfold profB at hp
        simp only [Bool.and_eq_true, beq_iff_eq] at hp
        obtain ⟨⟨e1, e2⟩, e3⟩ := hp
        rw [e1] at c1 h8
        rw [e2] at c2
        rw [e3] at c3
        replace c1 := hid c1
        replace c2 := hid c2
        replace c3 := hid c3
        replace e1 := hid e1
        clear e2 e3
        have q0 : n ≠ 0 ∧ n < 99 := by
          have := mt h8.2 (by decide)
          omega
        have q1 : ((n : Int) == 0) = false := by simpa using q0.1
        have q2 : decide (99 ≤ (n : Int)) = false := decide_eq_false (by omega)
        clear h8 q0
        have hb := cnt_bd 2 n
        have x0 : ∀ w1, Fr [] wr w1 → w1.cell? ⟨w.heap.size, 2, none⟩ = some (.int .i64 (cntT 2 n)) := fun w1 h => by rw [blk_cell (h.keeps hC.out (by simp))]; rfl
        have y0 : ∀ w1, Fr [] wr w1 → w1.frozen? ⟨w.heap.size, 2, none⟩ = false := fun w1 h => blk_free (h.keeps hC.out (by simp)) _
        replace x0 := hid x0
        replace y0 := hid y0
        go_upto_region 9 with (go_at_call 16; (with_reducible refine (c1.out _).mono ?_); rintro e w1 ⟨rfl, hd1⟩; have x1 := x0.out w1 hd1; have y1 := y0.out w1 hd1)
        refine world_atF (fun W => W.heap[w.heap.size]? = some (.cells (cntC (n + 1)) 37) ∧ Fr [] w W) ⟨by rw [← cnt_2 n e1.out]; exact blk_set (hd1.keeps hC.out (by simp)) _ _, (hF.out.trans hd1).setCell (.inr (Nat.le_refl _)) _⟩ ?_
        clear x0 y0 x1 y1 hd1 hb hC hF c1
        rintro W ⟨hC, hF⟩
        replace hC := hid hC
        replace hF := hid hF
        have hK := Fr.refl [] W
        go_wp2_with (first | (go_at_call 17; (with_reducible refine (c2.out _).mono ?_); rintro e w2 ⟨rfl, hd2⟩; replace hK := hK.trans hd2; clear hd2) | (go_at_call 18; (with_reducible refine (c3.out _).mono ?_); rintro e w2 ⟨rfl, hd2⟩; replace hK := hK.trans hd2; clear hd2))
        go_roundw
        case rel => exact ⟨n + 1, by omega, by go_num, hK.keeps hC.out (by simp), hF.out.trans hK⟩
        case measure => simp [intOf]; omega
      · unfold profB at hp
        simp only [Bool.and_eq_true, beq_iff_eq] at hp
        obtain ⟨⟨e1, e2⟩, e3⟩ := hp
        rw [e1] at c1 h8
        rw [e2] at c2
        rw [e3] at c3
        replace c1 := hid c1
        replace c2 := hid c2
        replace c3 := hid c3
        replace e1 := hid e1
        clear e2 e3
        have q0 : n ≠ 0 ∧ n < 99 := by
          have := mt h8.2 (by decide)
          omega
        have q1 : ((n : Int) == 0) = false := by simpa using q0.1
        have q2 : decide (99 ≤ (n : Int)) = false := decide_eq_false (by omega)
        clear h8 q0
        have hb := cnt_bd 5 n
        have x0 : ∀ w1, Fr [] wr w1 → w1.cell? ⟨w.heap.size, 5, none⟩ = some (.int .i64 (cntT 5 n)) := fun w1 h => by rw [blk_cell (h.keeps hC.out (by simp))]; rfl
        have y0 : ∀ w1, Fr [] wr w1 → w1.frozen? ⟨w.heap.size, 5, none⟩ = false := fun w1 h => blk_free (h.keeps hC.out (by simp)) _
        replace x0 := hid x0
        replace y0 := hid y0
        go_upto_region 9 with (go_at_call 16; (with_reducible refine (c1.out _).mono ?_); rintro e w1 ⟨rfl, hd1⟩; have x1 := x0.out w1 hd1; have y1 := y0.out w1 hd1)
        refine world_atF (fun W => W.heap[w.heap.size]? = some (.cells (cntC (n + 1)) 37) ∧ Fr [] w W) ⟨by rw [← cnt_5 n e1.out]; exact blk_set (hd1.keeps hC.out (by simp)) _ _, (hF.out.trans hd1).setCell (.inr (Nat.le_refl _)) _⟩ ?_
        clear x0 y0 x1 y1 hd1 hb hC hF c1
        rintro W ⟨hC, hF⟩
        replace hC := hid hC
        replace hF := hid hF
        have hK := Fr.refl [] W
        go_wp2_with (first | (go_at_call 17; (with_reducible refine (c2.out _).mono ?_); rintro e w2 ⟨rfl, hd2⟩; replace hK := hK.trans hd2; clear hd2) | (go_at_call 18; (with_reducible refine (c3.out _).mono ?_); rintro e w2 ⟨rfl, hd2⟩; replace hK := hK.trans hd2; clear hd2))
        go_roundw
        case rel => exact ⟨n + 1, by omega, by go_num, hK.keeps hC.out (by simp), hF.out.trans hK⟩
        case measure => simp [intOf]; omega
      · unfold profB at hp
        simp only [Bool.and_eq_true, beq_iff_eq] at hp
        obtain ⟨⟨e1, e2⟩, e3⟩ := hp
        rw [e1] at c1 h8
        rw [e2] at c2
        rw [e3] at c3
        replace c1 := hid c1
        replace c2 := hid c2
        replace c3 := hid c3
        replace e1 := hid e1
        clear e2 e3
        have q0 : n ≠ 0 ∧ n < 99 := by
          have := mt h8.2 (by decide)
          omega
        have q1 : ((n : Int) == 0) = false := by simpa using q0.1
        have q2 : decide (99 ≤ (n : Int)) = false := decide_eq_false (by omega)
        clear h8 q0
        have hb := cnt_bd 5 n
        have x0 : ∀ w1, Fr [] wr w1 → w1.cell? ⟨w.heap.size, 5, none⟩ = some (.int .i64 (cntT 5 n)) := fun w1 h => by rw [blk_cell (h.keeps hC.out (by simp))]; rfl
        have y0 : ∀ w1, Fr [] wr w1 → w1.frozen? ⟨w.heap.size, 5, none⟩ = false := fun w1 h => blk_free (h.keeps hC.out (by simp)) _
        replace x0 := hid x0
        replace y0 := hid y0
        go_upto_region 9 with (go_at_call 16; (with_reducible refine (c1.out _).mono ?_); rintro e w1 ⟨rfl, hd1⟩; have x1 := x0.out w1 hd1; have y1 := y0.out w1 hd1)
        refine world_atF (fun W => W.heap[w.heap.size]? = some (.cells (cntC (n + 1)) 37) ∧ Fr [] w W) ⟨by rw [← cnt_5 n e1.out]; exact blk_set (hd1.keeps hC.out (by simp)) _ _, (hF.out.trans hd1).setCell (.inr (Nat.le_refl _)) _⟩ ?_
        clear x0 y0 x1 y1 hd1 hb hC hF c1
        rintro W ⟨hC, hF⟩
        replace hC := hid hC
        replace hF := hid hF
        have hK := Fr.refl [] W
        go_wp2_with (first | (go_at_call 17; (with_reducible refine (c2.out _).mono ?_); rintro e w2 ⟨rfl, hd2⟩; replace hK := hK.trans hd2; clear hd2) | (go_at_call 18; (with_reducible refine (c3.out _).mono ?_); rintro e w2 ⟨rfl, hd2⟩; replace hK := hK.trans hd2; clear hd2))
        go_roundw
        case rel => exact ⟨n + 1, by omega, by go_num, hK.keeps hC.out (by simp), hF.out.trans hK⟩
        case measure => simp [intOf]; omega
    · obtain rfl : n = 256 := by omega
      obtain ⟨k1, k2, k3, k4, k5, k6, k7, k0⟩ := cnt_end
      have hE : cntC 256 = #[.int .i64 43, .int .i64 7, .int .i64 4, .int .i64 6, .int .i64 2, .int .i64 22, .int .i64 6, .int .i64 8, .int .i64 (cntT 8 256)] := by unfold cntC; rw [k0, k1, k2, k3, k4, k5, k6, k7]
      clear k0 k1 k2 k3 k4 k5 k6 k7
      rw [hE] at hC
      clear hE
      generalize cntT 8 256 = z at hC
      go_upto_region 15 with fail
      obtain ⟨wo, rfl⟩ : ∃ wo : World, wo = wr := ⟨_, rfl⟩
      have c9 : Hid (∀ w, Calls Try.prog 17 #[.int .u8 19] w fun e w' => e = .returned (.int .i64 2) ∧ Fr [] w w') := fun w => h2.out 19 (by decide) w
      have c10 : Hid (∀ w, Calls Try.prog 17 #[.int .u8 88] w fun e w' => e = .returned (.int .i64 8) ∧ Fr [] w w') := fun w => h2.out 88 (by decide) w
      have c11 : Hid (∀ w, Calls Try.prog 17 #[.int .u8 68] w fun e w' => e = .returned (.int .i64 4) ∧ Fr [] w w') := fun w => h2.out 68 (by decide) w
      go_loopw [7] (fun i wr => ∃ j : Nat, j ≤ 7 ∧ i = .int .i64 j ∧ Hid (wr.heap[w.heap.size]? = some (.cells #[.int .i64 43, .int .i64 7, .int .i64 4, .int .i64 6, .int .i64 2, .int .i64 22, .int .i64 6, .int .i64 8, .int .i64 z] 37)) ∧ Hid (wr.heap[wo.heap.size]? = some (.cells #[.int .i64 1, .int .i64 2, .int .i64 4, .int .i64 8, .int .i64 1, .int .i64 2, .int .i64 4] 40)) ∧ Hid (Fr [] w wr)) (fun i _ => 7 - (intOf i).toNat)
      case atStart => exact ⟨0, by decide, rfl, blk_alloc hC.out _, blk_new _ _, hF.out.alloc _⟩
      case round =>
        clear hC hF
        obtain ⟨j, hj, rfl, hC, hD, hF⟩ := hrel
        have hj' : j = 0 ∨ j = 1 ∨ j = 2 ∨ j = 3 ∨ j = 4 ∨ j = 5 ∨ j = 6 ∨ j = 7 := by omega
        clear hj
        rcases hj' with rfl | rfl | rfl | rfl | rfl | rfl | rfl | rfl
        · have d1 : Hid (∀ w, Calls Try.prog 17 #[.int .u8 11] w fun e w' => e = .returned (.int .i64 1) ∧ Fr [] w w') := fun w => h2.out 11 (by decide) w
          have d2 : Hid (∀ w, Calls Try.prog 18 #[.int .u8 11] w fun e w' => e = .returned (.bool true) ∧ Fr [] w w') := fun w => h3.out 11 (by decide) w
          go_upto_region 17 with fail
          have hne := ext_ne wr
          have y0 : ∀ n : Ext wr, n.w.cell? ⟨wo.heap.size, 0, none⟩ = some (.int .i64 1) := fun n => Ext.cell n hD.out 0
          have e1 : Hid (∀ n : Ext wr, Calls Try.prog 17 #[.int .u8 11] n.w fun e w'' => e = .returned (.int .i64 1) ∧ ∃ m : Ext wr, w'' = m.w) := fun n => Ext.call n (d1.out _)
          have e2 : Hid (∀ n : Ext wr, Calls Try.prog 18 #[.int .u8 11] n.w fun e w'' => e = .returned (.bool true) ∧ ∃ m : Ext wr, w'' = m.w) := fun n => Ext.call n (d2.out _)
          clear d1 d2
          refine wp_region_ext (by kernel_rfl) (by kernel_rfl) ?_
          repeat (go_big_quiet_step (first | (go_at_call 17; exact e1.out _) | (go_at_call 18; exact e2.out _)))
          refine wpQuiet_nil ?_
          intro w' hw'
          obtain ⟨m1, rfl⟩ := hw'
          go_wp2
          go_roundw
          case rel => exact ⟨1, by omega, by first | rfl | go_num, m1.blk hC.out, m1.blk hD.out, hF.out.trans m1.fr⟩
          case measure => simp [intOf]
        · have d1 : Hid (∀ w, Calls Try.prog 17 #[.int .u8 12] w fun e w' => e = .returned (.int .i64 2) ∧ Fr [] w w') := fun w => h2.out 12 (by decide) w
          have d2 : Hid (∀ w, Calls Try.prog 18 #[.int .u8 12] w fun e w' => e = .returned (.bool true) ∧ Fr [] w w') := fun w => h3.out 12 (by decide) w
          go_upto_region 17 with fail
          have hne := ext_ne wr
          have y0 : ∀ n : Ext wr, n.w.cell? ⟨wo.heap.size, 1, none⟩ = some (.int .i64 2) := fun n => Ext.cell n hD.out 1
          have e1 : Hid (∀ n : Ext wr, Calls Try.prog 17 #[.int .u8 12] n.w fun e w'' => e = .returned (.int .i64 2) ∧ ∃ m : Ext wr, w'' = m.w) := fun n => Ext.call n (d1.out _)
          have e2 : Hid (∀ n : Ext wr, Calls Try.prog 18 #[.int .u8 12] n.w fun e w'' => e = .returned (.bool true) ∧ ∃ m : Ext wr, w'' = m.w) := fun n => Ext.call n (d2.out _)
          clear d1 d2
          refine wp_region_ext (by kernel_rfl) (by kernel_rfl) ?_
          repeat (go_big_quiet_step (first | (go_at_call 17; exact e1.out _) | (go_at_call 18; exact e2.out _)))
          refine wpQuiet_nil ?_
          intro w' hw'
          obtain ⟨m1, rfl⟩ := hw'
          go_wp2
          go_roundw
          case rel => exact ⟨2, by omega, by first | rfl | go_num, m1.blk hC.out, m1.blk hD.out, hF.out.trans m1.fr⟩
          case measure => simp [intOf]
        · have d1 : Hid (∀ w, Calls Try.prog 17 #[.int .u8 13] w fun e w' => e = .returned (.int .i64 4) ∧ Fr [] w w') := fun w => h2.out 13 (by decide) w
          have d2 : Hid (∀ w, Calls Try.prog 18 #[.int .u8 13] w fun e w' => e = .returned (.bool true) ∧ Fr [] w w') := fun w => h3.out 13 (by decide) w
          go_upto_region 17 with fail
          have hne := ext_ne wr
          have y0 : ∀ n : Ext wr, n.w.cell? ⟨wo.heap.size, 2, none⟩ = some (.int .i64 4) := fun n => Ext.cell n hD.out 2
          have e1 : Hid (∀ n : Ext wr, Calls Try.prog 17 #[.int .u8 13] n.w fun e w'' => e = .returned (.int .i64 4) ∧ ∃ m : Ext wr, w'' = m.w) := fun n => Ext.call n (d1.out _)
          have e2 : Hid (∀ n : Ext wr, Calls Try.prog 18 #[.int .u8 13] n.w fun e w'' => e = .returned (.bool true) ∧ ∃ m : Ext wr, w'' = m.w) := fun n => Ext.call n (d2.out _)
          clear d1 d2
          refine wp_region_ext (by kernel_rfl) (by kernel_rfl) ?_
          repeat (go_big_quiet_step (first | (go_at_call 17; exact e1.out _) | (go_at_call 18; exact e2.out _)))
          refine wpQuiet_nil ?_
          intro w' hw'
          obtain ⟨m1, rfl⟩ := hw'
          go_wp2
          go_roundw
          case rel => exact ⟨3, by omega, by first | rfl | go_num, m1.blk hC.out, m1.blk hD.out, hF.out.trans m1.fr⟩
          case measure => simp [intOf]
        · have d1 : Hid (∀ w, Calls Try.prog 17 #[.int .u8 14] w fun e w' => e = .returned (.int .i64 8) ∧ Fr [] w w') := fun w => h2.out 14 (by decide) w
          have d2 : Hid (∀ w, Calls Try.prog 18 #[.int .u8 14] w fun e w' => e = .returned (.bool true) ∧ Fr [] w w') := fun w => h3.out 14 (by decide) w
          go_upto_region 17 with fail
          have hne := ext_ne wr
          have y0 : ∀ n : Ext wr, n.w.cell? ⟨wo.heap.size, 3, none⟩ = some (.int .i64 8) := fun n => Ext.cell n hD.out 3
          have e1 : Hid (∀ n : Ext wr, Calls Try.prog 17 #[.int .u8 14] n.w fun e w'' => e = .returned (.int .i64 8) ∧ ∃ m : Ext wr, w'' = m.w) := fun n => Ext.call n (d1.out _)
          have e2 : Hid (∀ n : Ext wr, Calls Try.prog 18 #[.int .u8 14] n.w fun e w'' => e = .returned (.bool true) ∧ ∃ m : Ext wr, w'' = m.w) := fun n => Ext.call n (d2.out _)
          clear d1 d2
          refine wp_region_ext (by kernel_rfl) (by kernel_rfl) ?_
          repeat (go_big_quiet_step (first | (go_at_call 17; exact e1.out _) | (go_at_call 18; exact e2.out _)))
          refine wpQuiet_nil ?_
          intro w' hw'
          obtain ⟨m1, rfl⟩ := hw'
          go_wp2
          go_roundw
          case rel => exact ⟨4, by omega, by first | rfl | go_num, m1.blk hC.out, m1.blk hD.out, hF.out.trans m1.fr⟩
          case measure => simp [intOf]
        · have d1 : Hid (∀ w, Calls Try.prog 17 #[.int .u8 15] w fun e w' => e = .returned (.int .i64 1) ∧ Fr [] w w') := fun w => h2.out 15 (by decide) w
          have d2 : Hid (∀ w, Calls Try.prog 18 #[.int .u8 15] w fun e w' => e = .returned (.bool false) ∧ Fr [] w w') := fun w => h3.out 15 (by decide) w
          go_upto_region 17 with fail
          have hne := ext_ne wr
          have y0 : ∀ n : Ext wr, n.w.cell? ⟨wo.heap.size, 4, none⟩ = some (.int .i64 1) := fun n => Ext.cell n hD.out 4
          have e1 : Hid (∀ n : Ext wr, Calls Try.prog 17 #[.int .u8 15] n.w fun e w'' => e = .returned (.int .i64 1) ∧ ∃ m : Ext wr, w'' = m.w) := fun n => Ext.call n (d1.out _)
          have e2 : Hid (∀ n : Ext wr, Calls Try.prog 18 #[.int .u8 15] n.w fun e w'' => e = .returned (.bool false) ∧ ∃ m : Ext wr, w'' = m.w) := fun n => Ext.call n (d2.out _)
          clear d1 d2
          refine wp_region_ext (by kernel_rfl) (by kernel_rfl) ?_
          repeat (go_big_quiet_step (first | (go_at_call 17; exact e1.out _) | (go_at_call 18; exact e2.out _)))
          refine wpQuiet_nil ?_
          intro w' hw'
          obtain ⟨m1, rfl⟩ := hw'
          go_wp2
          go_roundw
          case rel => exact ⟨5, by omega, by first | rfl | go_num, m1.blk hC.out, m1.blk hD.out, hF.out.trans m1.fr⟩
          case measure => simp [intOf]
        · have d1 : Hid (∀ w, Calls Try.prog 17 #[.int .u8 16] w fun e w' => e = .returned (.int .i64 2) ∧ Fr [] w w') := fun w => h2.out 16 (by decide) w
          have d2 : Hid (∀ w, Calls Try.prog 18 #[.int .u8 16] w fun e w' => e = .returned (.bool false) ∧ Fr [] w w') := fun w => h3.out 16 (by decide) w
          go_upto_region 17 with fail
          have hne := ext_ne wr
          have y0 : ∀ n : Ext wr, n.w.cell? ⟨wo.heap.size, 5, none⟩ = some (.int .i64 2) := fun n => Ext.cell n hD.out 5
          have e1 : Hid (∀ n : Ext wr, Calls Try.prog 17 #[.int .u8 16] n.w fun e w'' => e = .returned (.int .i64 2) ∧ ∃ m : Ext wr, w'' = m.w) := fun n => Ext.call n (d1.out _)
          have e2 : Hid (∀ n : Ext wr, Calls Try.prog 18 #[.int .u8 16] n.w fun e w'' => e = .returned (.bool false) ∧ ∃ m : Ext wr, w'' = m.w) := fun n => Ext.call n (d2.out _)
          clear d1 d2
          refine wp_region_ext (by kernel_rfl) (by kernel_rfl) ?_
          repeat (go_big_quiet_step (first | (go_at_call 17; exact e1.out _) | (go_at_call 18; exact e2.out _)))
          refine wpQuiet_nil ?_
          intro w' hw'
          obtain ⟨m1, rfl⟩ := hw'
          go_wp2
          go_roundw
          case rel => exact ⟨6, by omega, by first | rfl | go_num, m1.blk hC.out, m1.blk hD.out, hF.out.trans m1.fr⟩
          case measure => simp [intOf]
        · have d1 : Hid (∀ w, Calls Try.prog 17 #[.int .u8 17] w fun e w' => e = .returned (.int .i64 4) ∧ Fr [] w w') := fun w => h2.out 17 (by decide) w
          have d2 : Hid (∀ w, Calls Try.prog 18 #[.int .u8 17] w fun e w' => e = .returned (.bool false) ∧ Fr [] w w') := fun w => h3.out 17 (by decide) w
          go_upto_region 17 with fail
          have hne := ext_ne wr
          have y0 : ∀ n : Ext wr, n.w.cell? ⟨wo.heap.size, 6, none⟩ = some (.int .i64 4) := fun n => Ext.cell n hD.out 6
          have e1 : Hid (∀ n : Ext wr, Calls Try.prog 17 #[.int .u8 17] n.w fun e w'' => e = .returned (.int .i64 4) ∧ ∃ m : Ext wr, w'' = m.w) := fun n => Ext.call n (d1.out _)
          have e2 : Hid (∀ n : Ext wr, Calls Try.prog 18 #[.int .u8 17] n.w fun e w'' => e = .returned (.bool false) ∧ ∃ m : Ext wr, w'' = m.w) := fun n => Ext.call n (d2.out _)
          clear d1 d2
          refine wp_region_ext (by kernel_rfl) (by kernel_rfl) ?_
          repeat (go_big_quiet_step (first | (go_at_call 17; exact e1.out _) | (go_at_call 18; exact e2.out _)))
          refine wpQuiet_nil ?_
          intro w' hw'
          obtain ⟨m1, rfl⟩ := hw'
          go_wp2
          go_roundw
          case rel => exact ⟨7, by omega, by first | rfl | go_num, m1.blk hC.out, m1.blk hD.out, hF.out.trans m1.fr⟩
          case measure => simp [intOf]
        · clear hD
          go_upto_region 19 with fail
          have x0 : wr.cell? ⟨w.heap.size, 0, none⟩ = some (.int .i64 43) := by rw [blk_cell hC.out]; rfl
          have x1 : wr.cell? ⟨w.heap.size, 1, none⟩ = some (.int .i64 7) := by rw [blk_cell hC.out]; rfl
          have x2 : wr.cell? ⟨w.heap.size, 2, none⟩ = some (.int .i64 4) := by rw [blk_cell hC.out]; rfl
          have x3 : wr.cell? ⟨w.heap.size, 3, none⟩ = some (.int .i64 6) := by rw [blk_cell hC.out]; rfl
          have x4 : wr.cell? ⟨w.heap.size, 4, none⟩ = some (.int .i64 2) := by rw [blk_cell hC.out]; rfl
          have x5 : wr.cell? ⟨w.heap.size, 5, none⟩ = some (.int .i64 22) := by rw [blk_cell hC.out]; rfl
          have x6 : wr.cell? ⟨w.heap.size, 6, none⟩ = some (.int .i64 6) := by rw [blk_cell hC.out]; rfl
          have x7 : wr.cell? ⟨w.heap.size, 7, none⟩ = some (.int .i64 8) := by rw [blk_cell hC.out]; rfl
          have hK := Fr.refl [] wr
          go_wp2_with (first | (go_at_call 17; (first | (with_reducible refine (c9.out _).mono ?_) | (with_reducible refine (c10.out _).mono ?_) | (with_reducible refine (c11.out _).mono ?_)); rintro e w2 ⟨rfl, hd2⟩; replace hK := hK.trans hd2; clear hd2) | (go_at_call 11; (with_reducible refine (h7.out _).mono ?_); rintro e w2 ⟨rfl, hd2⟩; replace hK := hK.trans hd2; clear hd2))
          go_ret
          exact ⟨rfl, hF.out.trans hK⟩
end Go.Proofs.Ytogdifjdlkpehaa.PA
namespace Go.Proofs.Ytogdifjdlkpehaa
open PA Go.RowKit
theorem walk_InstClasses (w : World) : Calls Try.prog 8 #[] w fun e w' => e = .returned (.bool true) ∧ Below w.heap.size w w' :=
  (classes_w w (hid fun n hn w => class_any n hn w) (hid fun n hn w => width_any n hn w) (hid fun n hn w => signed_any n w) (hid fun w => awake_any w)).mono fun _ _ ⟨h1, h2⟩ => ⟨h1, below_of_fr'' h2⟩
end Go.Proofs.Ytogdifjdlkpehaa
