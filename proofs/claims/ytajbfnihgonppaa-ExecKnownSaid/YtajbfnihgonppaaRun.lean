/- A program's steps: contract of exec.Run. -/
import Derived.Test.YtajbfnihgonppaaE7
import Derived.Test.YtajbfnihgonppaaMid
namespace Go.Proofs.Ytajbfnihgonppaa.PA
open Go.RowKit Go.Proofs.Ytajbfnihgonppaa.Plain
set_option linter.all false
/-- a slice's instructions -/
def Insts (w : World) (A : Option Addr) (base : Nat) (L : List T7) : Prop := ∀ q, q < L.length → ∃ b off, A = some ⟨b, off, none⟩ ∧ b < base ∧ b < w.heap.size ∧ W7 (L.getD q default) ∧ w.rangeAt b (off + q * 7) (IC (L.getD q default)).toList
theorem range_keep {S : List Nat} {w w' : World} {b o : Nat} {l : List Value} (h : Fr S w w') (hb : b < w.heap.size) (hS : b ∉ S) (hr : w.rangeAt b o l) : w'.rangeAt b o l := fun j v hj => by
  have := hr j v hj
  rw [World.cell?_of_block (w := w) (a := ⟨b, o + j, none⟩) (h.block b hb hS)]
  exact this
theorem Insts.keep {S : List Nat} {w w' : World} {A : Option Addr} {base : Nat} {L : List T7} (h : Insts w A base L) (hf : Fr S w w') (hS : ∀ j, j ∈ S → base ≤ j) : Insts w' A base L := fun q hq => by
  obtain ⟨b, off, h1, h2, h3, h4, h5⟩ := h q hq
  exact ⟨b, off, h1, h2, Nat.lt_of_lt_of_le h3 hf.size, h4, range_keep hf h3 (fun hm => by have := hS b hm; omega) h5⟩
theorem wrap64u {a : Int} (h0 : 0 ≤ a) (h1 : a < 18446744073709551616) : IntKind.u64.wrap a = a := by rw [IntKind.wrap_u64]; omega
theorem cell6 {w : World} {g : Nat} {x : T7} (h : w.heap[g]? = some (.cells (IC x) 27)) : (w.setCell ⟨g, 6, none⟩ (.int .u8 4)).heap[g]? = some (.cells (IC (four x)) 27) := blk_set h 6 _
theorem IC_size (x y : T7) : (IC x).size = (IC y).size := rfl
set_option maxRecDepth 100000 in
set_option maxHeartbeats 4000000 in
theorem run_w (g : Nat) (A : Option Addr) (cap base : Nat) (L : List T7) (most : Nat) (s : Nat → Int) (pc : Int) (w : World) (R : (Nat → Int) × Int × Nat × Bool) (hL : Hid (Insts w A base L)) (hlen : L.length ≤ 60) (hm : most ≤ 400) (hbs : Hid (base ≤ g ∧ base ≤ w.heap.size)) (hb : Hid (w.heap[g]? = some (.cells (regC s) 24))) (hs : RegsOK s) (hp : N64 pc) (hR : runT L most s pc = R)
    : Calls Try.prog 18 #[.pointer (some ⟨g, 0, none⟩), .int .u64 pc, .slice A L.length cap, .int .i64 most] w fun e w' => e = .returned (.tuple #[.int .u64 R.2.1, .int .i64 (R.2.2.1 : Int), .bool R.2.2.2]) ∧ w'.heap[g]? = some (.cells (regC R.1) 24) ∧ Fr [g] w w' := by
  obtain ⟨len, hlen'⟩ : ∃ len, L.length = len := ⟨_, rfl⟩
  have hR' : plusK 0 (runT L (most - 0) s pc) = R := hR
  rw [hlen'] at hlen ⊢
  go_enter Try.func18, Try.ntmps18
  go_upto_region 1 with fail
  go_loopw [1, 9, 11, 12, 13] (fun p n s11 s12 s13 wr => ∃ (k : Nat) (S : Nat → Int) (P : Int), n = .int .i64 k ∧ p = .int .u64 P ∧ k ≤ most ∧ Hid (RegsOK S ∧ N64 P ∧ plusK k (runT L (most - k) S P) = R) ∧ Hid (wr.heap[g]? = some (.cells (regC S) 24)) ∧ Hid (Fr [g] w wr)) (fun _ n _ _ _ _ => most - (intOf n).toNat)
  case atStart => exact ⟨0, s, pc, rfl, rfl, Nat.zero_le _, ⟨hs, hp, hR'⟩, hb, Fr.refl _ _⟩
  case round =>
    clear hb hs hp hR hR'
    obtain ⟨k, S, P, rfl, rfl, hk, hH, hB, hF⟩ := hrel
    have p0 : 0 ≤ P := hH.out.2.1.1
    have p1 : P < 18446744073709551616 := hH.out.2.1.2
    have hl64 : (0 : Int) ≤ (len : Int) := by omega
    have hwl : IntKind.u64.wrap (len : Int) = len := wrap64u (by omega) (by omega)
    have hq4 : IntKind.u64.wrap (P.tdiv 4) = P / 4 := by rw [Int.tdiv_eq_ediv_of_nonneg p0]; exact wrap64u (by omega) (by omega)
    cases hin : inL L P with
    | false =>
      have hres := hH.out.2.2
      rw [run_out hin] at hres
      subst hres
      unfold inL at hin
      rw [hlen'] at hin
      cases t1 : (P % 4 == 0) with
      | false =>
        clear hin
        go_wp2
        go_ret3
        exact ⟨by simp [plusK], hB.out, hF.out⟩
      | true =>
        rw [t1, Bool.true_and] at hin
        go_wp2
        go_ret3
        exact ⟨by simp [plusK], hB.out, hF.out⟩
    | true =>
      have hin' := hin
      unfold inL at hin'
      rw [hlen', Bool.and_eq_true] at hin'
      obtain ⟨t1, t2⟩ := hin'
      have t3 : P / 4 < (len : Int) := of_decide_eq_true t2
      by_cases hkm : k = most
      · subst hkm
        have hres := hH.out.2.2
        rw [Nat.sub_self, run_zero hin] at hres
        subst hres
        go_wp2
        go_ret3
        exact ⟨by simp [plusK], hB.out, hF.out⟩
      · have hkl : k < most := by omega
        have hge : ¬ ((most : Int) ≤ (k : Int)) := by omega
        obtain ⟨b, off, rfl, hb1, hb2, hw7, hr⟩ := hL.out (P / 4).toNat (by omega)
        have hr := hid (range_keep hF.out hb2 (by have := hbs.out; simp; omega) hr)
        obtain ⟨d0, d1, d2⟩ : RegsOK S ∧ N64 P ∧ plusK k (runT L (most - k) S P) = R := hH.out
        have hdo := hid fun (W : World) (h : W.heap[g]? = some (.cells (regC S) 24)) => do_any g d0 d1 (four_W hw7) W h
        have hok := do_ok d0 d1 (four_W hw7)
        rw [show most - k = (most - (k + 1)) + 1 by omega] at d2
        have HD := hid d2
        have HK := hid hok
        have hle := lt_block hB.out
        clear d0 d1 d2 hok hw7 hH hL
        have hcase : Hid (doT S P (four (L.getD (P / 4).toNat default)) = (S, P, false) ∧ plusK k (S, P, 0, false) = R ∨ (doT S P (four (L.getD (P / 4).toNat default))).2.2 = true ∧ plusK (k + 1) (runT L (most - (k + 1)) (doT S P (four (L.getD (P / 4).toNat default))).1 (doT S P (four (L.getD (P / 4).toNat default))).2.1) = R) := by
          cases ok : (doT S P (four (L.getD (P / 4).toNat default))).2.2 with
          | false => exact .inl ⟨do_falseR ok, by rw [← HD.out, run_no hin _ ok]⟩
          | true => exact .inr ⟨rfl, by rw [← HD.out, run_step hin _ ok, plusK_plusK]⟩
        clear HD
        generalize L.getD (P / 4).toNat default = x at *
        go_upto_region 5 with (first | (refine wpList_load_midA (by rfl) 27 _ (by rfl) b (off + (P / 4).toNat * 7) (by rfl) (IC x) _ hr.out Try.underlying27 rfl (sizeI' _) ?_) | (refine wpList_store_whole rfl 27 _ _ rfl wr.heap.size rfl (IC x) rfl 27 _ (blk_new _ _) rfl (sizeI' _) (IC_one _) ?_; intro w2 hJ hfr2))
        refine world_at' (fun W => W.heap[g]? = some (.cells (regC S) 24) ∧ W.heap[wr.heap.size]? = some (.cells (IC x) 27) ∧ Fr [g] w W) ⟨hfr2.keeps (blk_alloc hB.out _) (by simp; omega), hJ, (hF.out.alloc _).step hfr2 (fun j hj => .inr (by rw [List.mem_singleton.1 hj]; exact hF.out.size))⟩ ?_
        clear hJ hfr2 hr
        rintro W ⟨hB2, hJ, hF2⟩
        have f6 := blk_free hJ 6
        have x6 : W.cell? ⟨wr.heap.size, 6, none⟩ = some (.int .u8 x.2.2.2.2.2.2) := by rw [blk_cell hJ]; rfl
        have HB := hid hB2
        have HJ := hid hJ
        have HF := hid hF2
        clear hB2 hJ hF2
        have hws := hF.out.size
        generalize wr.heap.size = J at *
        go_upto_region 6 with fail
        refine world_at' (fun W => W.heap[g]? = some (.cells (regC S) 24) ∧ W.heap[J]? = some (.cells (IC (four x)) 27) ∧ Fr [g] w W) ⟨by rw [blk_set_other _ (by simp; omega)]; exact HB.out, cell6 HJ.out, HF.out.setCell (.inr (by simp; exact hws)) _⟩ ?_
        clear f6 x6 HB HJ HF
        rintro W2 ⟨hB2, hJ, hF2⟩
        have HB := hid hB2
        have HJ := hid hJ
        have HF := hid hF2
        clear hB2 hJ hF2
        go_upto_region 7 with (first | (refine wpList_load_row_g (by rfl) 27 _ (by rfl) (J) (by rfl) 27 (IC (four x)) (0, 0) _ HJ.out Try.underlying27 rfl (sizeI' _) ?_) | (go_at_call 9; (with_reducible refine (hdo.out _ HB.out).mono ?_); rintro e w3 ⟨rfl, hB3, hd⟩))
        have HB3 := hid hB3
        have HF3 := hid (HF.out.trans hd)
        clear hB3 hd HB HJ HF hB hdo
        rcases hcase.out with ⟨hD, hres⟩ | ⟨hok, hres⟩
        · subst hres
          rw [hD] at HB3 ⊢
          go_wp2
          go_ret3
          exact ⟨by simp [plusK], HB3.out, HF3.out⟩
        · have HR := hid hres
          have HC := HK
          clear hcase hres HK
          generalize doT S P (four x) = D at *
          obtain ⟨D1, D2, D3⟩ := D
          simp only at hok HR HC HB3
          subst hok
          go_wp2
          go_roundw
          case rel => exact ⟨k + 1, D1, D2, by simp, rfl, by omega, ⟨HC.out.1, HC.out.2, HR.out⟩, HB3.out, HF3.out⟩
          case measure => simp [intOf]; omega
theorem results_cttt {P : Program} {fn : Func} {p u v z : Tmp} {ty : TypeId} (h : fn.results = #[.cell p ty, .tmp u, .tmp v, .tmp z]) {tmps : Array Value} {w : World} {g : Nat} {cs : Array Value} {t : TypeId} {fr : Nat × Nat} {d : TypeDesc} (hp : tmps.getD p undef = .pointer (some ⟨g, 0, none⟩))
    (hg : w.heap[g]? = some (.cells cs t fr)) (hu : P.underlying ty = some d) (hd : (match d with | .struct _ | .array _ _ => true | _ => false) = true) (hi : (P.info? ty).map (·.size) = some cs.size) :
    (results fn tmps).run P w = .ok (.tuple #[.agg cs, tmps.getD u undef, tmps.getD v undef, tmps.getD z undef]) w := by
  have hp' : tmps[p]?.getD undef = .pointer (some ⟨g, 0, none⟩) := by simpa using hp
  have hl := run_loadVar_row w g t ty cs fr d hg hu hd hi
  simp only [results, h]
  simp [Result.andThen, hp', asAddr, hl]
set_option maxRecDepth 100000 in
set_option maxHeartbeats 4000000 in
theorem rrun_w (A : Option Addr) (cap base : Nat) (L : List T7) (most : Nat) (s : Nat → Int) (pc : Int) (w : World) (R : (Nat → Int) × Int × Nat × Bool) (hL : Hid (Insts w A base L)) (hlen : L.length ≤ 60) (hm : most ≤ 400) (hbs : Hid (base ≤ w.heap.size)) (hs : RegsOK s) (hp : N64 pc) (hR : runT L most s pc = R)
    : Calls Try.prog 19 #[.agg (regC s), .int .u64 pc, .slice A L.length cap, .int .i64 most] w fun e w' => e = .returned (.tuple #[.agg (regC R.1), .int .u64 R.2.1, .int .i64 (R.2.2.1 : Int), .bool R.2.2.2]) ∧ Fr [] w w' := by
  obtain ⟨len, hlen'⟩ : ∃ len, L.length = len := ⟨_, rfl⟩
  have hR' : plusK 0 (runT L (most - 0) s pc) = R := hR
  rw [hlen'] at hlen ⊢
  go_enter Try.func19, Try.ntmps19
  go_upto_region 2 with fail
  go_loopw [1, 12, 13, 14, 15, 16] (fun p n s13 s14 s15 s16 wr => ∃ (k : Nat) (S : Nat → Int) (P : Int), n = .int .i64 k ∧ p = .int .u64 P ∧ k ≤ most ∧ Hid (RegsOK S ∧ N64 P ∧ plusK k (runT L (most - k) S P) = R) ∧ Hid (wr.heap[w.heap.size]? = some (.cells (regC S) 39)) ∧ Hid (wr.heap[w.heap.size + 1]? = some (.cells (regC fun _ => 0) 39)) ∧ Hid (Fr [] w wr)) (fun _ n _ _ _ _ _ => most - (intOf n).toNat)
  case atStart => exact ⟨0, s, pc, rfl, rfl, Nat.zero_le _, ⟨hs, hp, hR'⟩, blk_alloc (blk_new _ _) _, by rw [zeroX]; exact blk_new' (by simp) _, ((Fr.refl _ _).alloc _).alloc _⟩
  case round =>
    clear hs hp hR hR'
    obtain ⟨k, S, P, rfl, rfl, hk, hH, hB, hC, hF⟩ := hrel
    have p0 : 0 ≤ P := hH.out.2.1.1
    have p1 : P < 18446744073709551616 := hH.out.2.1.2
    have hl64 : (0 : Int) ≤ (len : Int) := by omega
    have hwl : IntKind.u64.wrap (len : Int) = len := wrap64u (by omega) (by omega)
    have hq4 : IntKind.u64.wrap (P.tdiv 4) = P / 4 := by rw [Int.tdiv_eq_ediv_of_nonneg p0]; exact wrap64u (by omega) (by omega)
    cases hin : inL L P with
    | false =>
      have hres := hH.out.2.2
      rw [run_out hin] at hres
      subst hres
      unfold inL at hin
      rw [hlen'] at hin
      cases t1 : (P % 4 == 0) with
      | false =>
        have t1' : (P % 4 != 0) = true := by simpa [bne] using t1
        clear hin t1
        go_wp2_with (first | (refine wpList_load_row_g (by rfl) 39 _ (by rfl) (w.heap.size) (by rfl) 39 (regC S) (0, 0) _ hB.out Try.underlying39 rfl (size_r _) ?_) | (refine wpList_store_whole rfl 39 _ _ rfl (w.heap.size + 1) rfl (regC S) rfl 39 _ hC.out (by rw [regC_size, regC_size]) (size_r _) (regC_one _) ?_; intro w2 hB2 hfr2))
        exact ⟨rfl, _, results_cttt rfl rfl hB2 Try.underlying39 rfl (size_r _), by simp [plusK], hF.out.step hfr2 (fun j hj => .inr (by rw [List.mem_singleton.1 hj]; omega))⟩
      | true =>
        have t1' : (P % 4 != 0) = false := by simpa [bne] using t1
        rw [t1, Bool.true_and] at hin
        clear t1
        have t4 : (len : Int) ≤ P / 4 := by have := of_decide_eq_false hin; omega
        clear hin
        go_wp2_with (first | (refine wpList_load_row_g (by rfl) 39 _ (by rfl) (w.heap.size) (by rfl) 39 (regC S) (0, 0) _ hB.out Try.underlying39 rfl (size_r _) ?_) | (refine wpList_store_whole rfl 39 _ _ rfl (w.heap.size + 1) rfl (regC S) rfl 39 _ hC.out (by rw [regC_size, regC_size]) (size_r _) (regC_one _) ?_; intro w2 hB2 hfr2))
        exact ⟨rfl, _, results_cttt rfl rfl hB2 Try.underlying39 rfl (size_r _), by simp [plusK], hF.out.step hfr2 (fun j hj => .inr (by rw [List.mem_singleton.1 hj]; omega))⟩
    | true =>
      have hin' := hin
      unfold inL at hin'
      rw [hlen', Bool.and_eq_true] at hin'
      obtain ⟨t1, t2⟩ := hin'
      have t1' : (P % 4 != 0) = false := by simpa [bne] using t1
      have t3 : P / 4 < (len : Int) := of_decide_eq_true t2
      have t4 : ¬ ((len : Int) ≤ P / 4) := by omega
      clear t1 t2
      by_cases hkm : k = most
      · subst hkm
        have hres := hH.out.2.2
        rw [Nat.sub_self, run_zero hin] at hres
        subst hres
        go_wp2_with (first | (refine wpList_load_row_g (by rfl) 39 _ (by rfl) (w.heap.size) (by rfl) 39 (regC S) (0, 0) _ hB.out Try.underlying39 rfl (size_r _) ?_) | (refine wpList_store_whole rfl 39 _ _ rfl (w.heap.size + 1) rfl (regC S) rfl 39 _ hC.out (by rw [regC_size, regC_size]) (size_r _) (regC_one _) ?_; intro w2 hB2 hfr2))
        exact ⟨rfl, _, results_cttt rfl rfl hB2 Try.underlying39 rfl (size_r _), by simp [plusK], hF.out.step hfr2 (fun j hj => .inr (by rw [List.mem_singleton.1 hj]; omega))⟩
      · have hkl : k < most := by omega
        have hge : ¬ ((most : Int) ≤ (k : Int)) := by omega
        obtain ⟨b, off, rfl, hb1, hb2, hw7, hr⟩ := hL.out (P / 4).toNat (by omega)
        have hr := hid (range_keep hF.out hb2 (by simp) hr)
        obtain ⟨d0, d1, d2⟩ : RegsOK S ∧ N64 P ∧ plusK k (runT L (most - k) S P) = R := hH.out
        have hdo := hid fun (W : World) => rdo_any d0 d1 (four_W hw7) W
        have hok := do_ok d0 d1 (four_W hw7)
        rw [show most - k = (most - (k + 1)) + 1 by omega] at d2
        have HD := hid d2
        have HK := hid hok
        have hle := lt_block hB.out
        have hle2 := lt_block hC.out
        clear d0 d1 d2 hok hw7 hH hL
        have hcase : Hid (doT S P (four (L.getD (P / 4).toNat default)) = (S, P, false) ∧ plusK k (S, P, 0, false) = R ∨ (doT S P (four (L.getD (P / 4).toNat default))).2.2 = true ∧ plusK (k + 1) (runT L (most - (k + 1)) (doT S P (four (L.getD (P / 4).toNat default))).1 (doT S P (four (L.getD (P / 4).toNat default))).2.1) = R) := by
          cases ok : (doT S P (four (L.getD (P / 4).toNat default))).2.2 with
          | false => exact .inl ⟨do_falseR ok, by rw [← HD.out, run_no hin _ ok]⟩
          | true => exact .inr ⟨rfl, by rw [← HD.out, run_step hin _ ok, plusK_plusK]⟩
        clear HD
        generalize L.getD (P / 4).toNat default = x at *
        go_upto_region 7 with (first | (refine wpList_load_midA (by rfl) 27 _ (by rfl) b (off + (P / 4).toNat * 7) (by rfl) (IC x) _ hr.out Try.underlying27 rfl (sizeI' _) ?_) | (refine wpList_store_whole rfl 27 _ _ rfl wr.heap.size rfl (IC x) rfl 27 _ (blk_new _ _) rfl (sizeI' _) (IC_one _) ?_; intro w2 hJ hfr2))
        refine world_at' (fun W => W.heap[w.heap.size]? = some (.cells (regC S) 39) ∧ W.heap[w.heap.size + 1]? = some (.cells (regC fun _ => 0) 39) ∧ W.heap[wr.heap.size]? = some (.cells (IC x) 27) ∧ Fr [] w W) ⟨hfr2.keeps (blk_alloc hB.out _) (by simp; omega), hfr2.keeps (blk_alloc hC.out _) (by simp; omega), hJ, (hF.out.alloc _).step hfr2 (fun j hj => .inr (by rw [List.mem_singleton.1 hj]; exact hF.out.size))⟩ ?_
        clear hJ hfr2 hr
        rintro W ⟨hB2, hC2, hJ, hF2⟩
        have f6 := blk_free hJ 6
        have x6 : W.cell? ⟨wr.heap.size, 6, none⟩ = some (.int .u8 x.2.2.2.2.2.2) := by rw [blk_cell hJ]; rfl
        have HB := hid hB2
        have HC0 := hid hC2
        have HJ := hid hJ
        have HF := hid hF2
        clear hB2 hC2 hJ hF2 hB hC
        have hws := hF.out.size
        generalize wr.heap.size = J at *
        go_upto_region 8 with fail
        refine world_at' (fun W => W.heap[w.heap.size]? = some (.cells (regC S) 39) ∧ W.heap[w.heap.size + 1]? = some (.cells (regC fun _ => 0) 39) ∧ W.heap[J]? = some (.cells (IC (four x)) 27) ∧ Fr [] w W) ⟨by rw [blk_set_other _ (by simp; omega)]; exact HB.out, by rw [blk_set_other _ (by simp; omega)]; exact HC0.out, cell6 HJ.out, HF.out.setCell (.inr (by simp; exact hws)) _⟩ ?_
        clear f6 x6 HB HC0 HJ HF
        rintro W2 ⟨hB2, hC2, hJ, hF2⟩
        have HB := hid hB2
        have HC0 := hid hC2
        have HJ := hid hJ
        have HF := hid hF2
        clear hB2 hC2 hJ hF2
        obtain ⟨D, hD⟩ : ∃ D, doT S P (four x) = D := ⟨_, rfl⟩
        rw [hD] at hdo hcase HK
        obtain ⟨D1, D2, D3⟩ := D
        simp only at hdo hcase HK
        clear hD
        go_upto_region 9 with (first | (refine wpList_load_row_g (by rfl) 27 _ (by rfl) (J) (by rfl) 27 (IC (four x)) (0, 0) _ HJ.out Try.underlying27 rfl (sizeI' _) ?_) | (refine wpList_load_row_g (by rfl) 39 _ (by rfl) (w.heap.size) (by rfl) 39 (regC S) (0, 0) _ HB.out Try.underlying39 rfl (size_r _) ?_) | (go_at_call 14; (with_reducible refine (hdo.out _).mono ?_); rintro e w3 ⟨rfl, hd⟩) | (refine wpList_store_whole rfl 39 _ _ rfl w3.heap.size rfl (regC D1) rfl 39 _ (by rw [← zeroX]; exact blk_new _ _) (by rw [regC_size, regC_size]) (size_r _) (regC_one _) ?_; intro w4 hT hfr4))
        have hws3 := HF.out.size
        have hsz3 := hd.size
        have hltB := lt_block HB.out
        have hltC := lt_block HC0.out
        have hB := hid (hfr4.keeps (blk_alloc (hd.keeps HB.out (by simp)) _) (by simp; omega))
        have hC := hid (hfr4.keeps (blk_alloc (hd.keeps HC0.out (by simp)) _) (by simp; omega))
        have hT := hid hT
        have hF := hid (((HF.out.trans hd).alloc _).step hfr4 (fun j hj => .inr (by rw [List.mem_singleton.1 hj]; omega)))
        clear HB HC0 HJ HF hd hfr4 hdo
        have hneT : w3.heap.size ≠ w.heap.size ∧ w3.heap.size ≠ w.heap.size + 1 := by omega
        generalize w3.heap.size = T at *
        rcases hcase.out with ⟨hD, hres⟩ | ⟨hok, hres⟩
        · subst hres
          have e1 : S = D1 := (congrArg Prod.fst hD).symm
          have e2 : P = D2 := (congrArg (fun z => z.2.1) hD).symm
          have e3 : false = D3 := (congrArg (fun z => z.2.2) hD).symm
          clear hD
          subst e1 e2 e3
          go_wp2_with (first | (refine wpList_load_row_g (by rfl) 39 _ (by rfl) (w.heap.size) (by rfl) 39 (regC S) (0, 0) _ hB.out Try.underlying39 rfl (size_r _) ?_) | (refine wpList_store_whole rfl 39 _ _ rfl (w.heap.size + 1) rfl (regC S) rfl 39 _ hC.out (by rw [regC_size, regC_size]) (size_r _) (regC_one _) ?_; intro w2 hB2 hfr2))
          exact ⟨rfl, _, results_cttt rfl rfl hB2 Try.underlying39 rfl (size_r _), by simp [plusK], hF.out.step hfr2 (fun j hj => .inr (by rw [List.mem_singleton.1 hj]; omega))⟩
        · have HR := hid hres
          subst hok
          clear hcase hres
          go_wp2_with (first | (refine wpList_load_row_g (by rfl) 39 _ (by rfl) (T) (by rfl) 39 (regC D1) (0, 0) _ hT.out Try.underlying39 rfl (size_r _) ?_) | (refine wpList_store_whole rfl 39 _ _ rfl w.heap.size rfl (regC D1) rfl 39 _ hB.out (by rw [regC_size, regC_size]) (size_r _) (regC_one _) ?_; intro w5 hB5 hfr5))
          go_roundw
          case rel => exact ⟨k + 1, D1, D2, by simp, rfl, by omega, ⟨HK.out.1, HK.out.2, HR.out⟩, hB5, hfr5.keeps hC.out (by simp), hF.out.step hfr5 (fun j hj => .inr (by rw [List.mem_singleton.1 hj]; omega))⟩
          case measure => simp [intOf]; omega
end Go.Proofs.Ytajbfnihgonppaa.PA
