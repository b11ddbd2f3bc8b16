/- The law UartOrder: its walk. -/
import Derived.Test.YtobaniebnejjiaaO
import Derived.Deep.CutBlock
namespace Go.Proofs.Ytobaniebnejjiaa.U
open Go.RowKit
set_option linter.all false
set_option maxRecDepth 100000 in
set_option maxHeartbeats 4000000 in
theorem order_long (A : Option Addr) (len cap : Nat) (w : World) (hlen : 120 < len) : Calls Try.prog 3 #[.slice A len cap] w fun e w' => e = .returned (.bool true) ∧ Fr [] w w' := by
  have hlt : (120 : Int) < (len : Int) := by omega
  go_enter Try.func3, Try.ntmps3
  go_wp2_with (go_at_call 8; (with_reducible refine (awake_any _).mono ?_); rintro e w6 ⟨rfl, hd⟩)
  go_ret
  exact ⟨rfl, hd⟩
/-- what the loop keeps -/
def OrdP (k : Nat) (u : St) (rd tk : List Int) : Prop := u.OK ∧ u.lcr < 128 ∧ rd.length + u.q.length ≤ k ∧ tk.length + u.sent.length ≤ k
set_option maxRecDepth 100000 in
set_option maxHeartbeats 4000000 in
theorem order_main (A : Option Addr) (cap : Nat) (L : List A4) (len : Nat) (hlen' : L.length = len) (w : World) (hlen : len ≤ 120) (hL : Hid (Acts w A w.heap.size L)) : Calls Try.prog 3 #[.slice A len cap] w fun e w' => e = .returned (.bool true) ∧ Fr [] w w' := by
  have hlt : ¬ ((120 : Int) < (len : Int)) := by omega
  go_enter Try.func3, Try.ntmps3
  go_upto_region 8 with (go_at_call 9; (with_reducible refine (al_new w _ (Fr.refl _ _)).mono ?_); rintro e w1 ⟨rfl, hU1⟩; have hU := hid hU1; clear hU1)
  generalize hg : w.heap.size = g at hU
  go_loopw [4, 5, 6, 7, 8, 9, 10, 11, 12, 13] (fun s4 s5 s6 s7 i s9 s10 s11 s12 s13 wr => ∃ (k : Nat) (u : St) (rd tk : List Int), k ≤ len ∧ i = .int .i64 k ∧ s4 = .string (strOfNums (rd ++ u.q)) ∧ s5 = .string (strOfNums rd) ∧ s6 = .string (strOfNums (tk ++ u.sent)) ∧ s7 = .string (strOfNums tk) ∧ Hid (OrdP k u rd tk) ∧ Hid (Alone w wr g u)) (fun _ _ _ _ i _ _ _ _ _ _ => len - (intOf i).toNat)
  case atStart => exact ⟨0, St.new, [], [], Nat.zero_le _, rfl, rfl, rfl, rfl, rfl, ⟨OK_new, by decide, by decide, by decide⟩, hU⟩
  case round =>
    clear hU
    obtain ⟨k, u, rd, tk, hk, rfl, rfl, rfl, rfl, rfl, hG, hU⟩ := hrel
    by_cases hlt2 : k < len
    · obtain ⟨b, off, rfl, hb1, hb2, hwa, hr⟩ := hL.out k (by omega)
      have hr := hid (range_keep hU.out.fr hb2 (by simp) hr)
      generalize L.getD k default = x at *
      obtain ⟨what, aoff, av, width⟩ := x
      obtain ⟨p1, p2, p3, p4, p5, p6⟩ : 0 ≤ what ∧ what < 256 ∧ 0 ≤ aoff ∧ aoff < 18446744073709551616 ∧ 0 ≤ av ∧ av < 18446744073709551616 := ⟨hwa.1.1, hwa.1.2, hwa.2.1.1, hwa.2.1.2, hwa.2.2.1, hwa.2.2.2⟩
      clear hwa hL
      have hkl : (k : Int) < (len : Int) := by omega
      have hX0 := hid (hU.out.boxed (.cells #[.int .u8 0, .int .u64 0, .int .u64 0, .int .i64 0] 28))
      go_upto_block 2 with (first | (refine wpList_load_midA (by rfl) 28 _ (by rfl) b (off + k * 4) (by rfl) #[.int .u8 what, .int .u64 aoff, .int .u64 av, .int .i64 width] _ hr.out Try.underlying28 rfl (by kernel_rfl) ?_) | (refine wpList_store_whole rfl 28 _ _ rfl wr.heap.size rfl #[.int .u8 what, .int .u64 aoff, .int .u64 av, .int .i64 width] rfl 28 _ (blk_new _ _) rfl (by kernel_rfl) (by kernel_rfl) ?_; intro w2 hJ hfr2; have x0 : w2.cell? ⟨wr.heap.size, 0, none⟩ = some (.int .u8 what) := (blk_cell hJ 0).trans rfl; replace hfr2 := hid hfr2; replace hJ := hid hJ))
      have hU2 : Hid (AX w w2 [wr.heap.size] g u) := Lines.step hX0.out hfr2.out fun j hj => ⟨hj, by rw [List.mem_singleton.1 hj]; exact hU.out.fr.size⟩
      have hB := hJ
      clear hfr2 x0 hr hX0 hJ
      have hU := hU2
      clear hU2
      generalize hBB : wr.heap.size = B at *
      clear hBB
      clear hb1 hb2
      obtain ⟨hok, hlc, hb3, hb4⟩ := hG.out
      clear hG
      obtain ⟨bb, hbv⟩ : ∃ x, av % 256 = x := ⟨_, rfl⟩
      have hbb : Byte bb := by unfold Byte; omega
      have hwb : IntKind.u8.wrap av = bb := by rw [← hbv]; rfl
      go_cut [4, 5, 6, 7, 10, 11, 12, 13] from 33 to 142 (fun s4 s5 s6 s7 s10 s11 s12 s13 wc => ∃ (u2 : St) (rd2 tk2 : List Int), s4 = .string (strOfNums (rd2 ++ u2.q)) ∧ s5 = .string (strOfNums rd2) ∧ s6 = .string (strOfNums (tk2 ++ u2.sent)) ∧ s7 = .string (strOfNums tk2) ∧ Hid (OrdP (k + 1) u2 rd2 tk2) ∧ Hid (AX w wc [B] g u2))
      case first =>
        have hm : what % 9 = 0 ∨ what % 9 = 1 ∨ what % 9 = 2 ∨ what % 9 = 3 ∨ what % 9 = 4 ∨ what % 9 = 5 ∨ what % 9 = 6 ∨ what % 9 = 7 ∨ what % 9 = 8 := by omega
        rcases hm with hm | hm | hm | hm | hm | hm | hm | hm | hm
        · have cW := hid fun (w1 : World) (h : AX w w1 [B] g u) => ax_Waiting h
          have cR := hid fun (w1 : World) (h : AX w w1 [B] g u) => ax_Read h hok width p3 p4
          obtain ⟨v, ok, u2, er, hok2, hl2, hs2, hv, hw⟩ := read_facts hok hlc aoff width
          rw [er] at cR
          clear er
          have x1 : w2.cell? ⟨B, 1, none⟩ = some (.int .u64 aoff) := (blk_cell hB.out 1).trans rfl
          have x3 : w2.cell? ⟨B, 3, none⟩ = some (.int .i64 width) := (blk_cell hB.out 3).trans rfl
          have hwr : IntKind.u8.wrap v = v := by
            have : 0 ≤ v ∧ v < 256 := hv
            exact Int.emod_eq_of_lt this.1 this.2
          rcases hw with ⟨rfl, hq⟩ | ⟨rfl, h0, hq⟩ | ⟨rfl, h0, hn, hq⟩ | ⟨rfl, h0, hq⟩
          · have hI : Hid (Value.string (strOfNums (rd ++ u.q)) = Value.string (strOfNums ((rd) ++ u2.q))) := congrArg (fun l => Value.string (strOfNums l)) (by simp [*])
            have hS : Hid (Value.string (strOfNums (tk ++ u.sent)) = Value.string (strOfNums ((tk) ++ u2.sent))) := congrArg (fun l => Value.string (strOfNums l)) (by simp [*])
            have hO : Hid (OrdP (k + 1) u2 (rd) (tk)) := ⟨hok2, by rw [hl2]; exact hlc, by
              have e1 := congrArg List.length hq
              have e2 := congrArg List.length hs2
              (try simp only [List.length_append, List.length_cons, List.length_nil] at e1)
              (try simp only [List.length_append, List.length_cons, List.length_nil] at e2)
              (try simp only [List.length_append, List.length_cons, List.length_nil])
              constructor <;> omega⟩
            clear hs2 hq hl2
            go_wp2_with (first | (go_at_call 10; (with_reducible refine (cW.out _ hU.out).mono ?_); rintro e w9 ⟨rfl, rfl⟩) | (go_at_call 11; (with_reducible refine (cR.out _ hU.out).mono ?_); rintro e w3 ⟨rfl, hU1, hk1⟩; have hU1 : AX w w3 [B] g u2 := hU1; replace hU := hid hU1; replace hB := hid ((hk1 B (by simp)).trans hB.out); clear hU1 hk1; have x1 : w3.cell? ⟨B, 1, none⟩ = some (.int .u64 aoff) := (blk_cell hB.out 1).trans rfl; have x2 : w3.cell? ⟨B, 2, none⟩ = some (.int .u64 av) := (blk_cell hB.out 2).trans rfl; have x3 : w3.cell? ⟨B, 3, none⟩ = some (.int .i64 width) := (blk_cell hB.out 3).trans rfl))
            go_meet
            case rel => exact ⟨u2, rd, tk, hI.out, rfl, hS.out, rfl, hO, hU⟩
          · have hI : Hid (Value.string (strOfNums (rd ++ u.q)) = Value.string (strOfNums ((rd) ++ u2.q))) := congrArg (fun l => Value.string (strOfNums l)) (by simp [*])
            have hS : Hid (Value.string (strOfNums (tk ++ u.sent)) = Value.string (strOfNums ((tk) ++ u2.sent))) := congrArg (fun l => Value.string (strOfNums l)) (by simp [*])
            have hO : Hid (OrdP (k + 1) u2 (rd) (tk)) := ⟨hok2, by rw [hl2]; exact hlc, by
              have e1 := congrArg List.length hq
              have e2 := congrArg List.length hs2
              (try simp only [List.length_append, List.length_cons, List.length_nil] at e1)
              (try simp only [List.length_append, List.length_cons, List.length_nil] at e2)
              (try simp only [List.length_append, List.length_cons, List.length_nil])
              constructor <;> omega⟩
            clear hs2 hq hl2
            go_wp2_with (first | (go_at_call 10; (with_reducible refine (cW.out _ hU.out).mono ?_); rintro e w9 ⟨rfl, rfl⟩) | (go_at_call 11; (with_reducible refine (cR.out _ hU.out).mono ?_); rintro e w3 ⟨rfl, hU1, hk1⟩; have hU1 : AX w w3 [B] g u2 := hU1; replace hU := hid hU1; replace hB := hid ((hk1 B (by simp)).trans hB.out); clear hU1 hk1; have x1 : w3.cell? ⟨B, 1, none⟩ = some (.int .u64 aoff) := (blk_cell hB.out 1).trans rfl; have x2 : w3.cell? ⟨B, 2, none⟩ = some (.int .u64 av) := (blk_cell hB.out 2).trans rfl; have x3 : w3.cell? ⟨B, 3, none⟩ = some (.int .i64 width) := (blk_cell hB.out 3).trans rfl))
            go_meet
            case rel => exact ⟨u2, rd, tk, hI.out, rfl, hS.out, rfl, hO, hU⟩
          · obtain rfl : aoff = 0 := by simpa using h0
            have hI : Hid (Value.string (strOfNums (rd ++ u.q)) = Value.string (strOfNums ((rd) ++ u2.q))) := congrArg (fun l => Value.string (strOfNums l)) (by simp [*])
            have hS : Hid (Value.string (strOfNums (tk ++ u.sent)) = Value.string (strOfNums ((tk) ++ u2.sent))) := congrArg (fun l => Value.string (strOfNums l)) (by simp [*])
            have hO : Hid (OrdP (k + 1) u2 (rd) (tk)) := ⟨hok2, by rw [hl2]; exact hlc, by
              have e1 := congrArg List.length hq
              have e2 := congrArg List.length hs2
              (try simp only [List.length_append, List.length_cons, List.length_nil] at e1)
              (try simp only [List.length_append, List.length_cons, List.length_nil] at e2)
              (try simp only [List.length_append, List.length_cons, List.length_nil])
              constructor <;> omega⟩
            generalize hnn : u.q.length = n at cW
            obtain rfl : n = 0 := by rw [← hnn, hn]; rfl
            clear hnn hn hs2 hq hl2 h0
            go_wp2_with (first | (go_at_call 10; (with_reducible refine (cW.out _ hU.out).mono ?_); rintro e w9 ⟨rfl, rfl⟩) | (go_at_call 11; (with_reducible refine (cR.out _ hU.out).mono ?_); rintro e w3 ⟨rfl, hU1, hk1⟩; have hU1 : AX w w3 [B] g u2 := hU1; replace hU := hid hU1; replace hB := hid ((hk1 B (by simp)).trans hB.out); clear hU1 hk1; have x1 : w3.cell? ⟨B, 1, none⟩ = some (.int .u64 0) := (blk_cell hB.out 1).trans rfl; have x2 : w3.cell? ⟨B, 2, none⟩ = some (.int .u64 av) := (blk_cell hB.out 2).trans rfl; have x3 : w3.cell? ⟨B, 3, none⟩ = some (.int .i64 width) := (blk_cell hB.out 3).trans rfl))
            go_meet
            case rel => exact ⟨u2, rd, tk, hI.out, rfl, hS.out, rfl, hO, hU⟩
          · obtain rfl : aoff = 0 := by simpa using h0
            have hI : Hid (Value.string (strOfNums (rd ++ u.q)) = Value.string (strOfNums ((rd ++ [v]) ++ u2.q))) := congrArg (fun l => Value.string (strOfNums l)) (by simp [*])
            have hS : Hid (Value.string (strOfNums (tk ++ u.sent)) = Value.string (strOfNums ((tk) ++ u2.sent))) := congrArg (fun l => Value.string (strOfNums l)) (by simp [*])
            have hO : Hid (OrdP (k + 1) u2 (rd ++ [v]) (tk)) := ⟨hok2, by rw [hl2]; exact hlc, by
              have e1 := congrArg List.length hq
              have e2 := congrArg List.length hs2
              (try simp only [List.length_append, List.length_cons, List.length_nil] at e1)
              (try simp only [List.length_append, List.length_cons, List.length_nil] at e2)
              (try simp only [List.length_append, List.length_cons, List.length_nil])
              constructor <;> omega⟩
            generalize hnn : u.q.length = n at cW
            have hgt : (0 : Int) < (n : Int) := by rw [← hnn, hq]; simp only [List.length_cons]; omega
            have hadd := run_add_str' rd [v] (by omega) (by simp)
            clear hnn hs2 hq hl2 h0
            go_wp2_with (first | (go_at_call 10; (with_reducible refine (cW.out _ hU.out).mono ?_); rintro e w9 ⟨rfl, rfl⟩) | (go_at_call 11; (with_reducible refine (cR.out _ hU.out).mono ?_); rintro e w3 ⟨rfl, hU1, hk1⟩; have hU1 : AX w w3 [B] g u2 := hU1; replace hU := hid hU1; replace hB := hid ((hk1 B (by simp)).trans hB.out); clear hU1 hk1; have x1 : w3.cell? ⟨B, 1, none⟩ = some (.int .u64 0) := (blk_cell hB.out 1).trans rfl; have x2 : w3.cell? ⟨B, 2, none⟩ = some (.int .u64 av) := (blk_cell hB.out 2).trans rfl; have x3 : w3.cell? ⟨B, 3, none⟩ = some (.int .i64 width) := (blk_cell hB.out 3).trans rfl; have hconv := conv_new v w3))
            go_meet
            case rel => exact ⟨u2, rd ++ [v], tk, hI.out, rfl, hS.out, rfl, hO, hid (hU.out.grow ((Fr.refl _ _).alloc _))⟩
        · have cW := hid fun (w1 : World) (h : AX w w1 [B] g u) => ax_Waiting h
          have cR := hid fun (w1 : World) (h : AX w w1 [B] g u) => ax_Read h hok width p3 p4
          obtain ⟨v, ok, u2, er, hok2, hl2, hs2, hv, hw⟩ := read_facts hok hlc aoff width
          rw [er] at cR
          clear er
          have x1 : w2.cell? ⟨B, 1, none⟩ = some (.int .u64 aoff) := (blk_cell hB.out 1).trans rfl
          have x3 : w2.cell? ⟨B, 3, none⟩ = some (.int .i64 width) := (blk_cell hB.out 3).trans rfl
          have hwr : IntKind.u8.wrap v = v := by
            have : 0 ≤ v ∧ v < 256 := hv
            exact Int.emod_eq_of_lt this.1 this.2
          rcases hw with ⟨rfl, hq⟩ | ⟨rfl, h0, hq⟩ | ⟨rfl, h0, hn, hq⟩ | ⟨rfl, h0, hq⟩
          · have hI : Hid (Value.string (strOfNums (rd ++ u.q)) = Value.string (strOfNums ((rd) ++ u2.q))) := congrArg (fun l => Value.string (strOfNums l)) (by simp [*])
            have hS : Hid (Value.string (strOfNums (tk ++ u.sent)) = Value.string (strOfNums ((tk) ++ u2.sent))) := congrArg (fun l => Value.string (strOfNums l)) (by simp [*])
            have hO : Hid (OrdP (k + 1) u2 (rd) (tk)) := ⟨hok2, by rw [hl2]; exact hlc, by
              have e1 := congrArg List.length hq
              have e2 := congrArg List.length hs2
              (try simp only [List.length_append, List.length_cons, List.length_nil] at e1)
              (try simp only [List.length_append, List.length_cons, List.length_nil] at e2)
              (try simp only [List.length_append, List.length_cons, List.length_nil])
              constructor <;> omega⟩
            clear hs2 hq hl2
            go_wp2_with (first | (go_at_call 10; (with_reducible refine (cW.out _ hU.out).mono ?_); rintro e w9 ⟨rfl, rfl⟩) | (go_at_call 11; (with_reducible refine (cR.out _ hU.out).mono ?_); rintro e w3 ⟨rfl, hU1, hk1⟩; have hU1 : AX w w3 [B] g u2 := hU1; replace hU := hid hU1; replace hB := hid ((hk1 B (by simp)).trans hB.out); clear hU1 hk1; have x1 : w3.cell? ⟨B, 1, none⟩ = some (.int .u64 aoff) := (blk_cell hB.out 1).trans rfl; have x2 : w3.cell? ⟨B, 2, none⟩ = some (.int .u64 av) := (blk_cell hB.out 2).trans rfl; have x3 : w3.cell? ⟨B, 3, none⟩ = some (.int .i64 width) := (blk_cell hB.out 3).trans rfl))
            go_meet
            case rel => exact ⟨u2, rd, tk, hI.out, rfl, hS.out, rfl, hO, hU⟩
          · have hI : Hid (Value.string (strOfNums (rd ++ u.q)) = Value.string (strOfNums ((rd) ++ u2.q))) := congrArg (fun l => Value.string (strOfNums l)) (by simp [*])
            have hS : Hid (Value.string (strOfNums (tk ++ u.sent)) = Value.string (strOfNums ((tk) ++ u2.sent))) := congrArg (fun l => Value.string (strOfNums l)) (by simp [*])
            have hO : Hid (OrdP (k + 1) u2 (rd) (tk)) := ⟨hok2, by rw [hl2]; exact hlc, by
              have e1 := congrArg List.length hq
              have e2 := congrArg List.length hs2
              (try simp only [List.length_append, List.length_cons, List.length_nil] at e1)
              (try simp only [List.length_append, List.length_cons, List.length_nil] at e2)
              (try simp only [List.length_append, List.length_cons, List.length_nil])
              constructor <;> omega⟩
            clear hs2 hq hl2
            go_wp2_with (first | (go_at_call 10; (with_reducible refine (cW.out _ hU.out).mono ?_); rintro e w9 ⟨rfl, rfl⟩) | (go_at_call 11; (with_reducible refine (cR.out _ hU.out).mono ?_); rintro e w3 ⟨rfl, hU1, hk1⟩; have hU1 : AX w w3 [B] g u2 := hU1; replace hU := hid hU1; replace hB := hid ((hk1 B (by simp)).trans hB.out); clear hU1 hk1; have x1 : w3.cell? ⟨B, 1, none⟩ = some (.int .u64 aoff) := (blk_cell hB.out 1).trans rfl; have x2 : w3.cell? ⟨B, 2, none⟩ = some (.int .u64 av) := (blk_cell hB.out 2).trans rfl; have x3 : w3.cell? ⟨B, 3, none⟩ = some (.int .i64 width) := (blk_cell hB.out 3).trans rfl))
            go_meet
            case rel => exact ⟨u2, rd, tk, hI.out, rfl, hS.out, rfl, hO, hU⟩
          · obtain rfl : aoff = 0 := by simpa using h0
            have hI : Hid (Value.string (strOfNums (rd ++ u.q)) = Value.string (strOfNums ((rd) ++ u2.q))) := congrArg (fun l => Value.string (strOfNums l)) (by simp [*])
            have hS : Hid (Value.string (strOfNums (tk ++ u.sent)) = Value.string (strOfNums ((tk) ++ u2.sent))) := congrArg (fun l => Value.string (strOfNums l)) (by simp [*])
            have hO : Hid (OrdP (k + 1) u2 (rd) (tk)) := ⟨hok2, by rw [hl2]; exact hlc, by
              have e1 := congrArg List.length hq
              have e2 := congrArg List.length hs2
              (try simp only [List.length_append, List.length_cons, List.length_nil] at e1)
              (try simp only [List.length_append, List.length_cons, List.length_nil] at e2)
              (try simp only [List.length_append, List.length_cons, List.length_nil])
              constructor <;> omega⟩
            generalize hnn : u.q.length = n at cW
            obtain rfl : n = 0 := by rw [← hnn, hn]; rfl
            clear hnn hn hs2 hq hl2 h0
            go_wp2_with (first | (go_at_call 10; (with_reducible refine (cW.out _ hU.out).mono ?_); rintro e w9 ⟨rfl, rfl⟩) | (go_at_call 11; (with_reducible refine (cR.out _ hU.out).mono ?_); rintro e w3 ⟨rfl, hU1, hk1⟩; have hU1 : AX w w3 [B] g u2 := hU1; replace hU := hid hU1; replace hB := hid ((hk1 B (by simp)).trans hB.out); clear hU1 hk1; have x1 : w3.cell? ⟨B, 1, none⟩ = some (.int .u64 0) := (blk_cell hB.out 1).trans rfl; have x2 : w3.cell? ⟨B, 2, none⟩ = some (.int .u64 av) := (blk_cell hB.out 2).trans rfl; have x3 : w3.cell? ⟨B, 3, none⟩ = some (.int .i64 width) := (blk_cell hB.out 3).trans rfl))
            go_meet
            case rel => exact ⟨u2, rd, tk, hI.out, rfl, hS.out, rfl, hO, hU⟩
          · obtain rfl : aoff = 0 := by simpa using h0
            have hI : Hid (Value.string (strOfNums (rd ++ u.q)) = Value.string (strOfNums ((rd ++ [v]) ++ u2.q))) := congrArg (fun l => Value.string (strOfNums l)) (by simp [*])
            have hS : Hid (Value.string (strOfNums (tk ++ u.sent)) = Value.string (strOfNums ((tk) ++ u2.sent))) := congrArg (fun l => Value.string (strOfNums l)) (by simp [*])
            have hO : Hid (OrdP (k + 1) u2 (rd ++ [v]) (tk)) := ⟨hok2, by rw [hl2]; exact hlc, by
              have e1 := congrArg List.length hq
              have e2 := congrArg List.length hs2
              (try simp only [List.length_append, List.length_cons, List.length_nil] at e1)
              (try simp only [List.length_append, List.length_cons, List.length_nil] at e2)
              (try simp only [List.length_append, List.length_cons, List.length_nil])
              constructor <;> omega⟩
            generalize hnn : u.q.length = n at cW
            have hgt : (0 : Int) < (n : Int) := by rw [← hnn, hq]; simp only [List.length_cons]; omega
            have hadd := run_add_str' rd [v] (by omega) (by simp)
            clear hnn hs2 hq hl2 h0
            go_wp2_with (first | (go_at_call 10; (with_reducible refine (cW.out _ hU.out).mono ?_); rintro e w9 ⟨rfl, rfl⟩) | (go_at_call 11; (with_reducible refine (cR.out _ hU.out).mono ?_); rintro e w3 ⟨rfl, hU1, hk1⟩; have hU1 : AX w w3 [B] g u2 := hU1; replace hU := hid hU1; replace hB := hid ((hk1 B (by simp)).trans hB.out); clear hU1 hk1; have x1 : w3.cell? ⟨B, 1, none⟩ = some (.int .u64 0) := (blk_cell hB.out 1).trans rfl; have x2 : w3.cell? ⟨B, 2, none⟩ = some (.int .u64 av) := (blk_cell hB.out 2).trans rfl; have x3 : w3.cell? ⟨B, 3, none⟩ = some (.int .i64 width) := (blk_cell hB.out 3).trans rfl; have hconv := conv_new v w3))
            go_meet
            case rel => exact ⟨u2, rd ++ [v], tk, hI.out, rfl, hS.out, rfl, hO, hid (hU.out.grow ((Fr.refl _ _).alloc _))⟩
        · have cW := hid fun (w1 : World) (h : AX w w1 [B] g u) => ax_Waiting h
          have cR := hid fun (w1 : World) (h : AX w w1 [B] g u) => ax_Read h hok width p3 p4
          obtain ⟨v, ok, u2, er, hok2, hl2, hs2, hv, hw⟩ := read_facts hok hlc aoff width
          rw [er] at cR
          clear er
          have x1 : w2.cell? ⟨B, 1, none⟩ = some (.int .u64 aoff) := (blk_cell hB.out 1).trans rfl
          have x3 : w2.cell? ⟨B, 3, none⟩ = some (.int .i64 width) := (blk_cell hB.out 3).trans rfl
          have hwr : IntKind.u8.wrap v = v := by
            have : 0 ≤ v ∧ v < 256 := hv
            exact Int.emod_eq_of_lt this.1 this.2
          rcases hw with ⟨rfl, hq⟩ | ⟨rfl, h0, hq⟩ | ⟨rfl, h0, hn, hq⟩ | ⟨rfl, h0, hq⟩
          · have hI : Hid (Value.string (strOfNums (rd ++ u.q)) = Value.string (strOfNums ((rd) ++ u2.q))) := congrArg (fun l => Value.string (strOfNums l)) (by simp [*])
            have hS : Hid (Value.string (strOfNums (tk ++ u.sent)) = Value.string (strOfNums ((tk) ++ u2.sent))) := congrArg (fun l => Value.string (strOfNums l)) (by simp [*])
            have hO : Hid (OrdP (k + 1) u2 (rd) (tk)) := ⟨hok2, by rw [hl2]; exact hlc, by
              have e1 := congrArg List.length hq
              have e2 := congrArg List.length hs2
              (try simp only [List.length_append, List.length_cons, List.length_nil] at e1)
              (try simp only [List.length_append, List.length_cons, List.length_nil] at e2)
              (try simp only [List.length_append, List.length_cons, List.length_nil])
              constructor <;> omega⟩
            clear hs2 hq hl2
            go_wp2_with (first | (go_at_call 10; (with_reducible refine (cW.out _ hU.out).mono ?_); rintro e w9 ⟨rfl, rfl⟩) | (go_at_call 11; (with_reducible refine (cR.out _ hU.out).mono ?_); rintro e w3 ⟨rfl, hU1, hk1⟩; have hU1 : AX w w3 [B] g u2 := hU1; replace hU := hid hU1; replace hB := hid ((hk1 B (by simp)).trans hB.out); clear hU1 hk1; have x1 : w3.cell? ⟨B, 1, none⟩ = some (.int .u64 aoff) := (blk_cell hB.out 1).trans rfl; have x2 : w3.cell? ⟨B, 2, none⟩ = some (.int .u64 av) := (blk_cell hB.out 2).trans rfl; have x3 : w3.cell? ⟨B, 3, none⟩ = some (.int .i64 width) := (blk_cell hB.out 3).trans rfl))
            go_meet
            case rel => exact ⟨u2, rd, tk, hI.out, rfl, hS.out, rfl, hO, hU⟩
          · have hI : Hid (Value.string (strOfNums (rd ++ u.q)) = Value.string (strOfNums ((rd) ++ u2.q))) := congrArg (fun l => Value.string (strOfNums l)) (by simp [*])
            have hS : Hid (Value.string (strOfNums (tk ++ u.sent)) = Value.string (strOfNums ((tk) ++ u2.sent))) := congrArg (fun l => Value.string (strOfNums l)) (by simp [*])
            have hO : Hid (OrdP (k + 1) u2 (rd) (tk)) := ⟨hok2, by rw [hl2]; exact hlc, by
              have e1 := congrArg List.length hq
              have e2 := congrArg List.length hs2
              (try simp only [List.length_append, List.length_cons, List.length_nil] at e1)
              (try simp only [List.length_append, List.length_cons, List.length_nil] at e2)
              (try simp only [List.length_append, List.length_cons, List.length_nil])
              constructor <;> omega⟩
            clear hs2 hq hl2
            go_wp2_with (first | (go_at_call 10; (with_reducible refine (cW.out _ hU.out).mono ?_); rintro e w9 ⟨rfl, rfl⟩) | (go_at_call 11; (with_reducible refine (cR.out _ hU.out).mono ?_); rintro e w3 ⟨rfl, hU1, hk1⟩; have hU1 : AX w w3 [B] g u2 := hU1; replace hU := hid hU1; replace hB := hid ((hk1 B (by simp)).trans hB.out); clear hU1 hk1; have x1 : w3.cell? ⟨B, 1, none⟩ = some (.int .u64 aoff) := (blk_cell hB.out 1).trans rfl; have x2 : w3.cell? ⟨B, 2, none⟩ = some (.int .u64 av) := (blk_cell hB.out 2).trans rfl; have x3 : w3.cell? ⟨B, 3, none⟩ = some (.int .i64 width) := (blk_cell hB.out 3).trans rfl))
            go_meet
            case rel => exact ⟨u2, rd, tk, hI.out, rfl, hS.out, rfl, hO, hU⟩
          · obtain rfl : aoff = 0 := by simpa using h0
            have hI : Hid (Value.string (strOfNums (rd ++ u.q)) = Value.string (strOfNums ((rd) ++ u2.q))) := congrArg (fun l => Value.string (strOfNums l)) (by simp [*])
            have hS : Hid (Value.string (strOfNums (tk ++ u.sent)) = Value.string (strOfNums ((tk) ++ u2.sent))) := congrArg (fun l => Value.string (strOfNums l)) (by simp [*])
            have hO : Hid (OrdP (k + 1) u2 (rd) (tk)) := ⟨hok2, by rw [hl2]; exact hlc, by
              have e1 := congrArg List.length hq
              have e2 := congrArg List.length hs2
              (try simp only [List.length_append, List.length_cons, List.length_nil] at e1)
              (try simp only [List.length_append, List.length_cons, List.length_nil] at e2)
              (try simp only [List.length_append, List.length_cons, List.length_nil])
              constructor <;> omega⟩
            generalize hnn : u.q.length = n at cW
            obtain rfl : n = 0 := by rw [← hnn, hn]; rfl
            clear hnn hn hs2 hq hl2 h0
            go_wp2_with (first | (go_at_call 10; (with_reducible refine (cW.out _ hU.out).mono ?_); rintro e w9 ⟨rfl, rfl⟩) | (go_at_call 11; (with_reducible refine (cR.out _ hU.out).mono ?_); rintro e w3 ⟨rfl, hU1, hk1⟩; have hU1 : AX w w3 [B] g u2 := hU1; replace hU := hid hU1; replace hB := hid ((hk1 B (by simp)).trans hB.out); clear hU1 hk1; have x1 : w3.cell? ⟨B, 1, none⟩ = some (.int .u64 0) := (blk_cell hB.out 1).trans rfl; have x2 : w3.cell? ⟨B, 2, none⟩ = some (.int .u64 av) := (blk_cell hB.out 2).trans rfl; have x3 : w3.cell? ⟨B, 3, none⟩ = some (.int .i64 width) := (blk_cell hB.out 3).trans rfl))
            go_meet
            case rel => exact ⟨u2, rd, tk, hI.out, rfl, hS.out, rfl, hO, hU⟩
          · obtain rfl : aoff = 0 := by simpa using h0
            have hI : Hid (Value.string (strOfNums (rd ++ u.q)) = Value.string (strOfNums ((rd ++ [v]) ++ u2.q))) := congrArg (fun l => Value.string (strOfNums l)) (by simp [*])
            have hS : Hid (Value.string (strOfNums (tk ++ u.sent)) = Value.string (strOfNums ((tk) ++ u2.sent))) := congrArg (fun l => Value.string (strOfNums l)) (by simp [*])
            have hO : Hid (OrdP (k + 1) u2 (rd ++ [v]) (tk)) := ⟨hok2, by rw [hl2]; exact hlc, by
              have e1 := congrArg List.length hq
              have e2 := congrArg List.length hs2
              (try simp only [List.length_append, List.length_cons, List.length_nil] at e1)
              (try simp only [List.length_append, List.length_cons, List.length_nil] at e2)
              (try simp only [List.length_append, List.length_cons, List.length_nil])
              constructor <;> omega⟩
            generalize hnn : u.q.length = n at cW
            have hgt : (0 : Int) < (n : Int) := by rw [← hnn, hq]; simp only [List.length_cons]; omega
            have hadd := run_add_str' rd [v] (by omega) (by simp)
            clear hnn hs2 hq hl2 h0
            go_wp2_with (first | (go_at_call 10; (with_reducible refine (cW.out _ hU.out).mono ?_); rintro e w9 ⟨rfl, rfl⟩) | (go_at_call 11; (with_reducible refine (cR.out _ hU.out).mono ?_); rintro e w3 ⟨rfl, hU1, hk1⟩; have hU1 : AX w w3 [B] g u2 := hU1; replace hU := hid hU1; replace hB := hid ((hk1 B (by simp)).trans hB.out); clear hU1 hk1; have x1 : w3.cell? ⟨B, 1, none⟩ = some (.int .u64 0) := (blk_cell hB.out 1).trans rfl; have x2 : w3.cell? ⟨B, 2, none⟩ = some (.int .u64 av) := (blk_cell hB.out 2).trans rfl; have x3 : w3.cell? ⟨B, 3, none⟩ = some (.int .i64 width) := (blk_cell hB.out 3).trans rfl; have hconv := conv_new v w3))
            go_meet
            case rel => exact ⟨u2, rd ++ [v], tk, hI.out, rfl, hS.out, rfl, hO, hid (hU.out.grow ((Fr.refl _ _).alloc _))⟩
        · have x1 : w2.cell? ⟨B, 1, none⟩ = some (.int .u64 aoff) := (blk_cell hB.out 1).trans rfl
          have x2 : w2.cell? ⟨B, 2, none⟩ = some (.int .u64 av) := (blk_cell hB.out 2).trans rfl
          have x3 : w2.cell? ⟨B, 3, none⟩ = some (.int .i64 width) := (blk_cell hB.out 3).trans rfl
          by_cases h2 : aoff = 2
          · subst h2
            go_wp2
            go_roundw
            case rel => exact ⟨k + 1, u, rd, tk, by omega, by go_num, rfl, rfl, rfl, rfl, ⟨hok, hlc, by omega, by omega⟩, hU.out.alone⟩
            case measure => simp [intOf]; omega
          by_cases h3 : aoff = 3
          · subst h3
            go_wp2
            go_roundw
            case rel => exact ⟨k + 1, u, rd, tk, by omega, by go_num, rfl, rfl, rfl, rfl, ⟨hok, hlc, by omega, by omega⟩, hU.out.alone⟩
            case measure => simp [intOf]; omega
          have h2 : (aoff == 2) = false := by simpa using h2
          have h3 : (aoff == 3) = false := by simpa using h3
          have cR := hid fun (w1 : World) (h : AX w w1 [B] g u) => ax_Write h hok width p3 p4 p5 p6 (by omega)
          obtain ⟨ok, u2, er, hok2, hl2, hq, hw⟩ := write_facts hok hlc width av h2 h3
          rw [er] at cR
          clear er
          rw [hbv] at hw
          rcases hw with ⟨rfl, hs2⟩ | ⟨rfl, h0, hs2⟩ | ⟨rfl, h0, hs2⟩
          · have hI : Hid (Value.string (strOfNums (rd ++ u.q)) = Value.string (strOfNums ((rd) ++ u2.q))) := congrArg (fun l => Value.string (strOfNums l)) (by simp [*])
            have hS : Hid (Value.string (strOfNums (tk ++ u.sent)) = Value.string (strOfNums ((tk) ++ u2.sent))) := congrArg (fun l => Value.string (strOfNums l)) (by simp [*])
            have hO : Hid (OrdP (k + 1) u2 (rd) (tk)) := ⟨hok2, by rw [hl2]; exact hlc, by
              have e1 := congrArg List.length hq
              have e2 := congrArg List.length hs2
              (try simp only [List.length_append, List.length_cons, List.length_nil] at e1)
              (try simp only [List.length_append, List.length_cons, List.length_nil] at e2)
              (try simp only [List.length_append, List.length_cons, List.length_nil])
              constructor <;> omega⟩
            clear hs2 hq hl2
            go_wp2_with ((go_at_call 12; (with_reducible refine (cR.out _ hU.out).mono ?_); rintro e w3 ⟨rfl, hU1, hk1⟩; have hU1 : AX w w3 [B] g u2 := hU1; replace hU := hid hU1; replace hB := hid ((hk1 B (by simp)).trans hB.out); clear hU1 hk1; have x1 : w3.cell? ⟨B, 1, none⟩ = some (.int .u64 aoff) := (blk_cell hB.out 1).trans rfl; have x2 : w3.cell? ⟨B, 2, none⟩ = some (.int .u64 av) := (blk_cell hB.out 2).trans rfl; have x3 : w3.cell? ⟨B, 3, none⟩ = some (.int .i64 width) := (blk_cell hB.out 3).trans rfl))
            go_meet
            case rel => exact ⟨u2, rd, tk, hI.out, rfl, hS.out, rfl, hO, hU⟩
          · have hI : Hid (Value.string (strOfNums (rd ++ u.q)) = Value.string (strOfNums ((rd) ++ u2.q))) := congrArg (fun l => Value.string (strOfNums l)) (by simp [*])
            have hS : Hid (Value.string (strOfNums (tk ++ u.sent)) = Value.string (strOfNums ((tk) ++ u2.sent))) := congrArg (fun l => Value.string (strOfNums l)) (by simp [*])
            have hO : Hid (OrdP (k + 1) u2 (rd) (tk)) := ⟨hok2, by rw [hl2]; exact hlc, by
              have e1 := congrArg List.length hq
              have e2 := congrArg List.length hs2
              (try simp only [List.length_append, List.length_cons, List.length_nil] at e1)
              (try simp only [List.length_append, List.length_cons, List.length_nil] at e2)
              (try simp only [List.length_append, List.length_cons, List.length_nil])
              constructor <;> omega⟩
            clear hs2 hq hl2
            go_wp2_with ((go_at_call 12; (with_reducible refine (cR.out _ hU.out).mono ?_); rintro e w3 ⟨rfl, hU1, hk1⟩; have hU1 : AX w w3 [B] g u2 := hU1; replace hU := hid hU1; replace hB := hid ((hk1 B (by simp)).trans hB.out); clear hU1 hk1; have x1 : w3.cell? ⟨B, 1, none⟩ = some (.int .u64 aoff) := (blk_cell hB.out 1).trans rfl; have x2 : w3.cell? ⟨B, 2, none⟩ = some (.int .u64 av) := (blk_cell hB.out 2).trans rfl; have x3 : w3.cell? ⟨B, 3, none⟩ = some (.int .i64 width) := (blk_cell hB.out 3).trans rfl))
            go_meet
            case rel => exact ⟨u2, rd, tk, hI.out, rfl, hS.out, rfl, hO, hU⟩
          · obtain rfl : aoff = 0 := by simpa using h0
            have hI : Hid (Value.string (strOfNums (rd ++ u.q)) = Value.string (strOfNums ((rd) ++ u2.q))) := congrArg (fun l => Value.string (strOfNums l)) (by simp [*])
            have hS : Hid (Value.string (strOfNums (tk ++ (u.sent ++ [bb]))) = Value.string (strOfNums ((tk) ++ u2.sent))) := congrArg (fun l => Value.string (strOfNums l)) (by simp [*])
            have hO : Hid (OrdP (k + 1) u2 (rd) (tk)) := ⟨hok2, by rw [hl2]; exact hlc, by
              have e1 := congrArg List.length hq
              have e2 := congrArg List.length hs2
              (try simp only [List.length_append, List.length_cons, List.length_nil] at e1)
              (try simp only [List.length_append, List.length_cons, List.length_nil] at e2)
              (try simp only [List.length_append, List.length_cons, List.length_nil])
              constructor <;> omega⟩
            have hadd := run_add_str' (tk ++ u.sent) [bb] (by simp only [List.length_append]; omega) (by simp)
            clear hs2 hq hl2 h0 h2 h3
            go_wp2_with ((go_at_call 12; (with_reducible refine (cR.out _ hU.out).mono ?_); rintro e w3 ⟨rfl, hU1, hk1⟩; have hU1 : AX w w3 [B] g u2 := hU1; replace hU := hid hU1; replace hB := hid ((hk1 B (by simp)).trans hB.out); clear hU1 hk1; have x1 : w3.cell? ⟨B, 1, none⟩ = some (.int .u64 0) := (blk_cell hB.out 1).trans rfl; have x2 : w3.cell? ⟨B, 2, none⟩ = some (.int .u64 av) := (blk_cell hB.out 2).trans rfl; have x3 : w3.cell? ⟨B, 3, none⟩ = some (.int .i64 width) := (blk_cell hB.out 3).trans rfl; have hconv := conv_new bb w3))
            go_meet
            case rel => exact ⟨u2, rd, tk, hI.out, rfl, hS.out, rfl, hO, hid (hU.out.grow ((Fr.refl _ _).alloc _))⟩
        · have x1 : w2.cell? ⟨B, 1, none⟩ = some (.int .u64 aoff) := (blk_cell hB.out 1).trans rfl
          have x2 : w2.cell? ⟨B, 2, none⟩ = some (.int .u64 av) := (blk_cell hB.out 2).trans rfl
          have x3 : w2.cell? ⟨B, 3, none⟩ = some (.int .i64 width) := (blk_cell hB.out 3).trans rfl
          by_cases h2 : aoff = 2
          · subst h2
            go_wp2
            go_roundw
            case rel => exact ⟨k + 1, u, rd, tk, by omega, by go_num, rfl, rfl, rfl, rfl, ⟨hok, hlc, by omega, by omega⟩, hU.out.alone⟩
            case measure => simp [intOf]; omega
          by_cases h3 : aoff = 3
          · subst h3
            go_wp2
            go_roundw
            case rel => exact ⟨k + 1, u, rd, tk, by omega, by go_num, rfl, rfl, rfl, rfl, ⟨hok, hlc, by omega, by omega⟩, hU.out.alone⟩
            case measure => simp [intOf]; omega
          have h2 : (aoff == 2) = false := by simpa using h2
          have h3 : (aoff == 3) = false := by simpa using h3
          have cR := hid fun (w1 : World) (h : AX w w1 [B] g u) => ax_Write h hok width p3 p4 p5 p6 (by omega)
          obtain ⟨ok, u2, er, hok2, hl2, hq, hw⟩ := write_facts hok hlc width av h2 h3
          rw [er] at cR
          clear er
          rw [hbv] at hw
          rcases hw with ⟨rfl, hs2⟩ | ⟨rfl, h0, hs2⟩ | ⟨rfl, h0, hs2⟩
          · have hI : Hid (Value.string (strOfNums (rd ++ u.q)) = Value.string (strOfNums ((rd) ++ u2.q))) := congrArg (fun l => Value.string (strOfNums l)) (by simp [*])
            have hS : Hid (Value.string (strOfNums (tk ++ u.sent)) = Value.string (strOfNums ((tk) ++ u2.sent))) := congrArg (fun l => Value.string (strOfNums l)) (by simp [*])
            have hO : Hid (OrdP (k + 1) u2 (rd) (tk)) := ⟨hok2, by rw [hl2]; exact hlc, by
              have e1 := congrArg List.length hq
              have e2 := congrArg List.length hs2
              (try simp only [List.length_append, List.length_cons, List.length_nil] at e1)
              (try simp only [List.length_append, List.length_cons, List.length_nil] at e2)
              (try simp only [List.length_append, List.length_cons, List.length_nil])
              constructor <;> omega⟩
            clear hs2 hq hl2
            go_wp2_with ((go_at_call 12; (with_reducible refine (cR.out _ hU.out).mono ?_); rintro e w3 ⟨rfl, hU1, hk1⟩; have hU1 : AX w w3 [B] g u2 := hU1; replace hU := hid hU1; replace hB := hid ((hk1 B (by simp)).trans hB.out); clear hU1 hk1; have x1 : w3.cell? ⟨B, 1, none⟩ = some (.int .u64 aoff) := (blk_cell hB.out 1).trans rfl; have x2 : w3.cell? ⟨B, 2, none⟩ = some (.int .u64 av) := (blk_cell hB.out 2).trans rfl; have x3 : w3.cell? ⟨B, 3, none⟩ = some (.int .i64 width) := (blk_cell hB.out 3).trans rfl))
            go_meet
            case rel => exact ⟨u2, rd, tk, hI.out, rfl, hS.out, rfl, hO, hU⟩
          · have hI : Hid (Value.string (strOfNums (rd ++ u.q)) = Value.string (strOfNums ((rd) ++ u2.q))) := congrArg (fun l => Value.string (strOfNums l)) (by simp [*])
            have hS : Hid (Value.string (strOfNums (tk ++ u.sent)) = Value.string (strOfNums ((tk) ++ u2.sent))) := congrArg (fun l => Value.string (strOfNums l)) (by simp [*])
            have hO : Hid (OrdP (k + 1) u2 (rd) (tk)) := ⟨hok2, by rw [hl2]; exact hlc, by
              have e1 := congrArg List.length hq
              have e2 := congrArg List.length hs2
              (try simp only [List.length_append, List.length_cons, List.length_nil] at e1)
              (try simp only [List.length_append, List.length_cons, List.length_nil] at e2)
              (try simp only [List.length_append, List.length_cons, List.length_nil])
              constructor <;> omega⟩
            clear hs2 hq hl2
            go_wp2_with ((go_at_call 12; (with_reducible refine (cR.out _ hU.out).mono ?_); rintro e w3 ⟨rfl, hU1, hk1⟩; have hU1 : AX w w3 [B] g u2 := hU1; replace hU := hid hU1; replace hB := hid ((hk1 B (by simp)).trans hB.out); clear hU1 hk1; have x1 : w3.cell? ⟨B, 1, none⟩ = some (.int .u64 aoff) := (blk_cell hB.out 1).trans rfl; have x2 : w3.cell? ⟨B, 2, none⟩ = some (.int .u64 av) := (blk_cell hB.out 2).trans rfl; have x3 : w3.cell? ⟨B, 3, none⟩ = some (.int .i64 width) := (blk_cell hB.out 3).trans rfl))
            go_meet
            case rel => exact ⟨u2, rd, tk, hI.out, rfl, hS.out, rfl, hO, hU⟩
          · obtain rfl : aoff = 0 := by simpa using h0
            have hI : Hid (Value.string (strOfNums (rd ++ u.q)) = Value.string (strOfNums ((rd) ++ u2.q))) := congrArg (fun l => Value.string (strOfNums l)) (by simp [*])
            have hS : Hid (Value.string (strOfNums (tk ++ (u.sent ++ [bb]))) = Value.string (strOfNums ((tk) ++ u2.sent))) := congrArg (fun l => Value.string (strOfNums l)) (by simp [*])
            have hO : Hid (OrdP (k + 1) u2 (rd) (tk)) := ⟨hok2, by rw [hl2]; exact hlc, by
              have e1 := congrArg List.length hq
              have e2 := congrArg List.length hs2
              (try simp only [List.length_append, List.length_cons, List.length_nil] at e1)
              (try simp only [List.length_append, List.length_cons, List.length_nil] at e2)
              (try simp only [List.length_append, List.length_cons, List.length_nil])
              constructor <;> omega⟩
            have hadd := run_add_str' (tk ++ u.sent) [bb] (by simp only [List.length_append]; omega) (by simp)
            clear hs2 hq hl2 h0 h2 h3
            go_wp2_with ((go_at_call 12; (with_reducible refine (cR.out _ hU.out).mono ?_); rintro e w3 ⟨rfl, hU1, hk1⟩; have hU1 : AX w w3 [B] g u2 := hU1; replace hU := hid hU1; replace hB := hid ((hk1 B (by simp)).trans hB.out); clear hU1 hk1; have x1 : w3.cell? ⟨B, 1, none⟩ = some (.int .u64 0) := (blk_cell hB.out 1).trans rfl; have x2 : w3.cell? ⟨B, 2, none⟩ = some (.int .u64 av) := (blk_cell hB.out 2).trans rfl; have x3 : w3.cell? ⟨B, 3, none⟩ = some (.int .i64 width) := (blk_cell hB.out 3).trans rfl; have hconv := conv_new bb w3))
            go_meet
            case rel => exact ⟨u2, rd, tk, hI.out, rfl, hS.out, rfl, hO, hid (hU.out.grow ((Fr.refl _ _).alloc _))⟩
        · have x1 : w2.cell? ⟨B, 1, none⟩ = some (.int .u64 aoff) := (blk_cell hB.out 1).trans rfl
          have x2 : w2.cell? ⟨B, 2, none⟩ = some (.int .u64 av) := (blk_cell hB.out 2).trans rfl
          have x3 : w2.cell? ⟨B, 3, none⟩ = some (.int .i64 width) := (blk_cell hB.out 3).trans rfl
          by_cases h2 : aoff = 2
          · subst h2
            go_wp2
            go_roundw
            case rel => exact ⟨k + 1, u, rd, tk, by omega, by go_num, rfl, rfl, rfl, rfl, ⟨hok, hlc, by omega, by omega⟩, hU.out.alone⟩
            case measure => simp [intOf]; omega
          by_cases h3 : aoff = 3
          · subst h3
            go_wp2
            go_roundw
            case rel => exact ⟨k + 1, u, rd, tk, by omega, by go_num, rfl, rfl, rfl, rfl, ⟨hok, hlc, by omega, by omega⟩, hU.out.alone⟩
            case measure => simp [intOf]; omega
          have h2 : (aoff == 2) = false := by simpa using h2
          have h3 : (aoff == 3) = false := by simpa using h3
          have cR := hid fun (w1 : World) (h : AX w w1 [B] g u) => ax_Write h hok width p3 p4 p5 p6 (by omega)
          obtain ⟨ok, u2, er, hok2, hl2, hq, hw⟩ := write_facts hok hlc width av h2 h3
          rw [er] at cR
          clear er
          rw [hbv] at hw
          rcases hw with ⟨rfl, hs2⟩ | ⟨rfl, h0, hs2⟩ | ⟨rfl, h0, hs2⟩
          · have hI : Hid (Value.string (strOfNums (rd ++ u.q)) = Value.string (strOfNums ((rd) ++ u2.q))) := congrArg (fun l => Value.string (strOfNums l)) (by simp [*])
            have hS : Hid (Value.string (strOfNums (tk ++ u.sent)) = Value.string (strOfNums ((tk) ++ u2.sent))) := congrArg (fun l => Value.string (strOfNums l)) (by simp [*])
            have hO : Hid (OrdP (k + 1) u2 (rd) (tk)) := ⟨hok2, by rw [hl2]; exact hlc, by
              have e1 := congrArg List.length hq
              have e2 := congrArg List.length hs2
              (try simp only [List.length_append, List.length_cons, List.length_nil] at e1)
              (try simp only [List.length_append, List.length_cons, List.length_nil] at e2)
              (try simp only [List.length_append, List.length_cons, List.length_nil])
              constructor <;> omega⟩
            clear hs2 hq hl2
            go_wp2_with ((go_at_call 12; (with_reducible refine (cR.out _ hU.out).mono ?_); rintro e w3 ⟨rfl, hU1, hk1⟩; have hU1 : AX w w3 [B] g u2 := hU1; replace hU := hid hU1; replace hB := hid ((hk1 B (by simp)).trans hB.out); clear hU1 hk1; have x1 : w3.cell? ⟨B, 1, none⟩ = some (.int .u64 aoff) := (blk_cell hB.out 1).trans rfl; have x2 : w3.cell? ⟨B, 2, none⟩ = some (.int .u64 av) := (blk_cell hB.out 2).trans rfl; have x3 : w3.cell? ⟨B, 3, none⟩ = some (.int .i64 width) := (blk_cell hB.out 3).trans rfl))
            go_meet
            case rel => exact ⟨u2, rd, tk, hI.out, rfl, hS.out, rfl, hO, hU⟩
          · have hI : Hid (Value.string (strOfNums (rd ++ u.q)) = Value.string (strOfNums ((rd) ++ u2.q))) := congrArg (fun l => Value.string (strOfNums l)) (by simp [*])
            have hS : Hid (Value.string (strOfNums (tk ++ u.sent)) = Value.string (strOfNums ((tk) ++ u2.sent))) := congrArg (fun l => Value.string (strOfNums l)) (by simp [*])
            have hO : Hid (OrdP (k + 1) u2 (rd) (tk)) := ⟨hok2, by rw [hl2]; exact hlc, by
              have e1 := congrArg List.length hq
              have e2 := congrArg List.length hs2
              (try simp only [List.length_append, List.length_cons, List.length_nil] at e1)
              (try simp only [List.length_append, List.length_cons, List.length_nil] at e2)
              (try simp only [List.length_append, List.length_cons, List.length_nil])
              constructor <;> omega⟩
            clear hs2 hq hl2
            go_wp2_with ((go_at_call 12; (with_reducible refine (cR.out _ hU.out).mono ?_); rintro e w3 ⟨rfl, hU1, hk1⟩; have hU1 : AX w w3 [B] g u2 := hU1; replace hU := hid hU1; replace hB := hid ((hk1 B (by simp)).trans hB.out); clear hU1 hk1; have x1 : w3.cell? ⟨B, 1, none⟩ = some (.int .u64 aoff) := (blk_cell hB.out 1).trans rfl; have x2 : w3.cell? ⟨B, 2, none⟩ = some (.int .u64 av) := (blk_cell hB.out 2).trans rfl; have x3 : w3.cell? ⟨B, 3, none⟩ = some (.int .i64 width) := (blk_cell hB.out 3).trans rfl))
            go_meet
            case rel => exact ⟨u2, rd, tk, hI.out, rfl, hS.out, rfl, hO, hU⟩
          · obtain rfl : aoff = 0 := by simpa using h0
            have hI : Hid (Value.string (strOfNums (rd ++ u.q)) = Value.string (strOfNums ((rd) ++ u2.q))) := congrArg (fun l => Value.string (strOfNums l)) (by simp [*])
            have hS : Hid (Value.string (strOfNums (tk ++ (u.sent ++ [bb]))) = Value.string (strOfNums ((tk) ++ u2.sent))) := congrArg (fun l => Value.string (strOfNums l)) (by simp [*])
            have hO : Hid (OrdP (k + 1) u2 (rd) (tk)) := ⟨hok2, by rw [hl2]; exact hlc, by
              have e1 := congrArg List.length hq
              have e2 := congrArg List.length hs2
              (try simp only [List.length_append, List.length_cons, List.length_nil] at e1)
              (try simp only [List.length_append, List.length_cons, List.length_nil] at e2)
              (try simp only [List.length_append, List.length_cons, List.length_nil])
              constructor <;> omega⟩
            have hadd := run_add_str' (tk ++ u.sent) [bb] (by simp only [List.length_append]; omega) (by simp)
            clear hs2 hq hl2 h0 h2 h3
            go_wp2_with ((go_at_call 12; (with_reducible refine (cR.out _ hU.out).mono ?_); rintro e w3 ⟨rfl, hU1, hk1⟩; have hU1 : AX w w3 [B] g u2 := hU1; replace hU := hid hU1; replace hB := hid ((hk1 B (by simp)).trans hB.out); clear hU1 hk1; have x1 : w3.cell? ⟨B, 1, none⟩ = some (.int .u64 0) := (blk_cell hB.out 1).trans rfl; have x2 : w3.cell? ⟨B, 2, none⟩ = some (.int .u64 av) := (blk_cell hB.out 2).trans rfl; have x3 : w3.cell? ⟨B, 3, none⟩ = some (.int .i64 width) := (blk_cell hB.out 3).trans rfl; have hconv := conv_new bb w3))
            go_meet
            case rel => exact ⟨u2, rd, tk, hI.out, rfl, hS.out, rfl, hO, hid (hU.out.grow ((Fr.refl _ _).alloc _))⟩
        · have x2 : w2.cell? ⟨B, 2, none⟩ = some (.int .u64 av) := (blk_cell hB.out 2).trans rfl
          have cW := hid fun (w1 : World) (h : AX w w1 [B] g u) => ax_Waiting h
          have cR := hid fun (w1 : World) (h : AX w w1 [B] g u) => ax_Input h hok hbb
          obtain ⟨ok, u2, er, hok2, hl2, hs2, hw⟩ := input_facts hok hbb
          rw [er] at cR
          clear er
          generalize hnn : u.q.length = n at cW hw
          rcases hw with ⟨rfl, h16, hq⟩ | ⟨rfl, h16, hq⟩
          · have hI : Hid (Value.string (strOfNums (rd ++ u.q)) = Value.string (strOfNums ((rd) ++ u2.q))) := congrArg (fun l => Value.string (strOfNums l)) (by simp [*])
            have hS : Hid (Value.string (strOfNums (tk ++ u.sent)) = Value.string (strOfNums ((tk) ++ u2.sent))) := congrArg (fun l => Value.string (strOfNums l)) (by simp [*])
            have hO : Hid (OrdP (k + 1) u2 (rd) (tk)) := ⟨hok2, by rw [hl2]; exact hlc, by
              have e1 := congrArg List.length hq
              have e2 := congrArg List.length hs2
              (try simp only [List.length_append, List.length_cons, List.length_nil] at e1)
              (try simp only [List.length_append, List.length_cons, List.length_nil] at e2)
              (try simp only [List.length_append, List.length_cons, List.length_nil])
              constructor <;> omega⟩
            have h16' : (n : Int) = 16 := by simpa using h16
            obtain rfl : n = 16 := by omega
            clear hs2 hq hl2 h16 h16' hnn
            go_wp2_with (first | (go_at_call 10; (with_reducible refine (cW.out _ hU.out).mono ?_); rintro e w9 ⟨rfl, rfl⟩) | (go_at_call 13; (with_reducible refine (cR.out _ hU.out).mono ?_); rintro e w3 ⟨rfl, hU1, hk1⟩; have hU1 : AX w w3 [B] g u2 := hU1; replace hU := hid hU1; replace hB := hid ((hk1 B (by simp)).trans hB.out); clear hU1 hk1; have x2 : w3.cell? ⟨B, 2, none⟩ = some (.int .u64 av) := (blk_cell hB.out 2).trans rfl))
            go_meet
            case rel => exact ⟨u2, rd, tk, hI.out, rfl, hS.out, rfl, hO, hU⟩
          · have hI : Hid (Value.string (strOfNums (rd ++ (u.q ++ [bb]))) = Value.string (strOfNums ((rd) ++ u2.q))) := congrArg (fun l => Value.string (strOfNums l)) (by simp [*])
            have hS : Hid (Value.string (strOfNums (tk ++ u.sent)) = Value.string (strOfNums ((tk) ++ u2.sent))) := congrArg (fun l => Value.string (strOfNums l)) (by simp [*])
            have hO : Hid (OrdP (k + 1) u2 (rd) (tk)) := ⟨hok2, by rw [hl2]; exact hlc, by
              have e1 := congrArg List.length hq
              have e2 := congrArg List.length hs2
              (try simp only [List.length_append, List.length_cons, List.length_nil] at e1)
              (try simp only [List.length_append, List.length_cons, List.length_nil] at e2)
              (try simp only [List.length_append, List.length_cons, List.length_nil])
              constructor <;> omega⟩
            have hadd := run_add_str' (rd ++ u.q) [bb] (by simp only [List.length_append]; omega) (by simp)
            clear hs2 hq hl2 hnn
            go_wp2_with (first | (go_at_call 10; (with_reducible refine (cW.out _ hU.out).mono ?_); rintro e w9 ⟨rfl, rfl⟩) | (go_at_call 13; (with_reducible refine (cR.out _ hU.out).mono ?_); rintro e w3 ⟨rfl, hU1, hk1⟩; have hU1 : AX w w3 [B] g u2 := hU1; replace hU := hid hU1; replace hB := hid ((hk1 B (by simp)).trans hB.out); clear hU1 hk1; have x2 : w3.cell? ⟨B, 2, none⟩ = some (.int .u64 av) := (blk_cell hB.out 2).trans rfl; have hconv := conv_new bb w3))
            go_meet
            case rel => exact ⟨u2, rd, tk, hI.out, rfl, hS.out, rfl, hO, hid (hU.out.grow ((Fr.refl _ _).alloc _))⟩
        · have x2 : w2.cell? ⟨B, 2, none⟩ = some (.int .u64 av) := (blk_cell hB.out 2).trans rfl
          have cW := hid fun (w1 : World) (h : AX w w1 [B] g u) => ax_Waiting h
          have cR := hid fun (w1 : World) (h : AX w w1 [B] g u) => ax_Input h hok hbb
          obtain ⟨ok, u2, er, hok2, hl2, hs2, hw⟩ := input_facts hok hbb
          rw [er] at cR
          clear er
          generalize hnn : u.q.length = n at cW hw
          rcases hw with ⟨rfl, h16, hq⟩ | ⟨rfl, h16, hq⟩
          · have hI : Hid (Value.string (strOfNums (rd ++ u.q)) = Value.string (strOfNums ((rd) ++ u2.q))) := congrArg (fun l => Value.string (strOfNums l)) (by simp [*])
            have hS : Hid (Value.string (strOfNums (tk ++ u.sent)) = Value.string (strOfNums ((tk) ++ u2.sent))) := congrArg (fun l => Value.string (strOfNums l)) (by simp [*])
            have hO : Hid (OrdP (k + 1) u2 (rd) (tk)) := ⟨hok2, by rw [hl2]; exact hlc, by
              have e1 := congrArg List.length hq
              have e2 := congrArg List.length hs2
              (try simp only [List.length_append, List.length_cons, List.length_nil] at e1)
              (try simp only [List.length_append, List.length_cons, List.length_nil] at e2)
              (try simp only [List.length_append, List.length_cons, List.length_nil])
              constructor <;> omega⟩
            have h16' : (n : Int) = 16 := by simpa using h16
            obtain rfl : n = 16 := by omega
            clear hs2 hq hl2 h16 h16' hnn
            go_wp2_with (first | (go_at_call 10; (with_reducible refine (cW.out _ hU.out).mono ?_); rintro e w9 ⟨rfl, rfl⟩) | (go_at_call 13; (with_reducible refine (cR.out _ hU.out).mono ?_); rintro e w3 ⟨rfl, hU1, hk1⟩; have hU1 : AX w w3 [B] g u2 := hU1; replace hU := hid hU1; replace hB := hid ((hk1 B (by simp)).trans hB.out); clear hU1 hk1; have x2 : w3.cell? ⟨B, 2, none⟩ = some (.int .u64 av) := (blk_cell hB.out 2).trans rfl))
            go_meet
            case rel => exact ⟨u2, rd, tk, hI.out, rfl, hS.out, rfl, hO, hU⟩
          · have hI : Hid (Value.string (strOfNums (rd ++ (u.q ++ [bb]))) = Value.string (strOfNums ((rd) ++ u2.q))) := congrArg (fun l => Value.string (strOfNums l)) (by simp [*])
            have hS : Hid (Value.string (strOfNums (tk ++ u.sent)) = Value.string (strOfNums ((tk) ++ u2.sent))) := congrArg (fun l => Value.string (strOfNums l)) (by simp [*])
            have hO : Hid (OrdP (k + 1) u2 (rd) (tk)) := ⟨hok2, by rw [hl2]; exact hlc, by
              have e1 := congrArg List.length hq
              have e2 := congrArg List.length hs2
              (try simp only [List.length_append, List.length_cons, List.length_nil] at e1)
              (try simp only [List.length_append, List.length_cons, List.length_nil] at e2)
              (try simp only [List.length_append, List.length_cons, List.length_nil])
              constructor <;> omega⟩
            have hadd := run_add_str' (rd ++ u.q) [bb] (by simp only [List.length_append]; omega) (by simp)
            clear hs2 hq hl2 hnn
            go_wp2_with (first | (go_at_call 10; (with_reducible refine (cW.out _ hU.out).mono ?_); rintro e w9 ⟨rfl, rfl⟩) | (go_at_call 13; (with_reducible refine (cR.out _ hU.out).mono ?_); rintro e w3 ⟨rfl, hU1, hk1⟩; have hU1 : AX w w3 [B] g u2 := hU1; replace hU := hid hU1; replace hB := hid ((hk1 B (by simp)).trans hB.out); clear hU1 hk1; have x2 : w3.cell? ⟨B, 2, none⟩ = some (.int .u64 av) := (blk_cell hB.out 2).trans rfl; have hconv := conv_new bb w3))
            go_meet
            case rel => exact ⟨u2, rd, tk, hI.out, rfl, hS.out, rfl, hO, hid (hU.out.grow ((Fr.refl _ _).alloc _))⟩
        · have cR := hid fun (w1 : World) (h : AX w w1 [B] g u) => ax_Take h hok
          have hok2 : u.Take.2.OK := hok.Take
          have hl2 : u.Take.2.lcr = u.lcr := rfl
          have hq : u.Take.2.q = u.q := rfl
          have hs2 : u.Take.2.sent = [] := rfl
          have ht1 : u.Take.1 = u.sent := rfl
          rw [ht1] at cR
          generalize u.Take.2 = u2 at *
          have hI : Hid (Value.string (strOfNums (rd ++ u.q)) = Value.string (strOfNums ((rd) ++ u2.q))) := congrArg (fun l => Value.string (strOfNums l)) (by simp [*])
          have hS : Hid (Value.string (strOfNums (tk ++ u.sent)) = Value.string (strOfNums ((tk ++ u.sent) ++ u2.sent))) := congrArg (fun l => Value.string (strOfNums l)) (by simp [*])
          have hO : Hid (OrdP (k + 1) u2 (rd) (tk ++ u.sent)) := ⟨hok2, by rw [hl2]; exact hlc, by
            have e1 := congrArg List.length hq
            have e2 := congrArg List.length hs2
            (try simp only [List.length_append, List.length_cons, List.length_nil] at e1)
            (try simp only [List.length_append, List.length_cons, List.length_nil] at e2)
            (try simp only [List.length_append, List.length_cons, List.length_nil])
            constructor <;> omega⟩
          have hadd := run_add_str' tk u.sent (by omega) (by omega)
          clear hs2 hq hl2 ht1
          go_wp2_with ((go_at_call 14; (with_reducible refine (cR.out _ hU.out).mono ?_); rintro e w3 ⟨rfl, hU1, hk1⟩; have hU1 : AX w w3 [B] g u2 := hU1; replace hU := hid hU1; replace hB := hid ((hk1 B (by simp)).trans hB.out); clear hU1 hk1; ))
          go_meet
          case rel => exact ⟨u2, rd, tk ++ u.sent, hI.out, rfl, hS.out, rfl, hO, hU⟩
      case rest =>
        clear hok hlc hb3 hb4 hwb hbb hbv hB hU
        obtain ⟨u2, rd2, tk2, rfl, rfl, rfl, rfl, hO, hU⟩ := hcut
        have hp1 := hid fun w1 => hp_any (rd2 ++ u2.q) rd2 u2.q rfl w1
        have hp2 := hid fun w1 => hp_any (tk2 ++ u2.sent) tk2 u2.sent rfl w1
        have cW := hid fun (w1 : World) (h : AX w w1 [B] g u2) => ax_Waiting h
        have hsub : IntKind.i64.wrap (((strOfNums (rd2 ++ u2.q)).size : Int) - ((strOfNums rd2).size : Int)) = (u2.q.length : Int) := by
          rw [strOfNums_size, strOfNums_size, List.length_append, IntKind.wrap_i64]
          have := hO.out.2.2.1
          omega
        have qn : ((u2.q.length : Int) != (u2.q.length : Int)) = false := bne_self_eq_false ..
        generalize e1 : strOfNums (rd2 ++ u2.q) = sI at *
        generalize e2 : strOfNums rd2 = sR at *
        generalize e3 : strOfNums (tk2 ++ u2.sent) = sS at *
        generalize e4 : strOfNums tk2 = sT at *
        replace e1 := hid e1
        replace e2 := hid e2
        replace e3 := hid e3
        replace e4 := hid e4
        go_wp2_with (first | (go_at_call 15; (with_reducible refine (hp1.out _).mono ?_); rintro e w7 ⟨rfl, rfl⟩) | (go_at_call 15; (with_reducible refine (hp2.out _).mono ?_); rintro e w8 ⟨rfl, rfl⟩) | (go_at_call 10; (with_reducible refine (cW.out _ hU.out).mono ?_); rintro e w9 ⟨rfl, rfl⟩))
        go_roundw
        case rel => exact ⟨k + 1, u2, rd2, tk2, by omega, by go_num, congrArg Value.string e1.out.symm, congrArg Value.string e2.out.symm, congrArg Value.string e3.out.symm, congrArg Value.string e4.out.symm, hO, hU.out.alone⟩
        case measure => simp [intOf]; omega
    · obtain rfl : k = len := by omega
      have c1 := hid (al_Take hU.out hG.out.1)
      have hb := hG.out.2.2.2
      have et : u.Take.1 = u.sent := rfl
      rw [et] at c1
      have hadd := run_add_str' tk u.sent (by omega) (by omega)
      generalize e1 : strOfNums (tk ++ u.sent) = sS at *
      have q3 : (sS.toList == sS.toList) = true := beq_self_eq_true _
      go_wp2_with (first | (go_at_call 14; (with_reducible refine (c1.out).mono ?_); rintro e w2 ⟨rfl, hU1⟩; replace hU1 := hid hU1) | (go_at_call 8; (with_reducible refine (awake_any _).mono ?_); rintro e w6 ⟨rfl, hd⟩; replace hU1 := hid (hU1.out.grow hd)))
      go_ret
      exact ⟨rfl, hU1.out.fr⟩
end Go.Proofs.Ytobaniebnejjiaa.U
namespace Go.Proofs.Ytobaniebnejjiaa
open U Go.RowKit
theorem walk_UartOrder (a0 : Option Addr) (len0 cap0 : Nat) (c0 : Nat → Nat → Value) (w : World) (w0 : SliceIn w [.num .u8, .num .u64, .num .u64, .num .i64] a0 len0 c0) : Calls Try.prog 3 #[.slice a0 len0 cap0] w fun e w' => e = .returned (.bool true) ∧ Below w.heap.size w w' := by
  obtain ⟨L, hl, hL⟩ := acts_of w0
  have key : Calls Try.prog 3 #[.slice a0 len0 cap0] w fun e w' => e = .returned (.bool true) ∧ Fr [] w w' := by
    rcases Nat.lt_or_ge 120 len0 with h | h
    · exact order_long a0 len0 cap0 w h
    · exact order_main a0 cap0 L len0 hl w h hL
  exact key.mono fun _ _ ⟨h1, h2⟩ => ⟨h1, h2.below (Nat.le_refl _) (by simp)⟩
end Go.Proofs.Ytobaniebnejjiaa
