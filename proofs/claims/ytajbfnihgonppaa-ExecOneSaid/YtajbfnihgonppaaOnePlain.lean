/- The law ExecOne: its walk, whole. -/
import Derived.Test.YtajbfnihgonppaaOneWf
import Derived.Test.YtajbfnihgonppaaOneW0
import Derived.Test.YtajbfnihgonppaaOneW3
import Derived.Test.YtajbfnihgonppaaOneW4
namespace Go.Proofs.Ytajbfnihgonppaa.PA
open Go.RowKit Go.Proofs.Ytajbfnihgonppaa.Plain
set_option linter.all false
theorem get_set (t : Nat → Int) (n v m : Int) : getT (setT t n v) m = if m % 32 = 0 then 0 else if n % 32 = m % 32 then v else getT t m := by
  unfold getT setT
  by_cases hm : m % 32 = 0
  · rw [if_pos hm, if_pos hm]
  rw [if_neg hm, if_neg hm, if_neg hm]
  by_cases hn : n % 32 = 0
  · rw [if_pos hn, if_neg (by omega)]
  rw [if_neg hn]
  unfold upd
  by_cases e : n % 32 = m % 32
  · rw [if_pos e, if_pos (by rw [e])]
  · rw [if_neg e, if_neg (by omega)]
theorem set_other (t : Nat → Int) (n v : Int) (m : Int) (h0 : 0 ≤ m) (h : m ≠ n % 32) : setT t n v m.toNat = t m.toNat := by
  unfold setT
  split
  · rfl
  · unfold upd; rw [if_neg (by omega)]
theorem set_at0 (t : Nat → Int) (n v : Int) : setT t n v 0 = t 0 := by
  unfold setT
  split
  · rfl
  · unfold upd; rw [if_neg (by omega)]
theorem set_ok {s : Nat → Int} (hs : RegsOK s) (n : Int) {v : Int} (hv : N64 v) : RegsOK (setT s n v) := by
  intro i
  unfold setT
  split
  · exact hs i
  · unfold upd; split
    · exact hv
    · exact hs i
theorem do_false {s : Nat → Int} {pc : Int} {x : T7} (h : (doT s pc x).2.2 = false) : doT s pc x = (s, pc, false) := by
  unfold doT at *
  by_cases e4 : x.1 = 4
  · rw [if_pos e4] at h; cases h
  rw [if_neg e4] at h ⊢
  by_cases e3 : x.1 = 3
  · rw [if_pos e3] at h; cases h
  rw [if_neg e3] at h ⊢
  by_cases e2 : x.1 = 2
  · rw [if_pos e2] at h; cases h
  rw [if_neg e2] at h ⊢
  by_cases e1 : x.1 = 1
  · rw [if_pos e1] at h; cases h
  rw [if_neg e1] at h ⊢
  by_cases ec : classT x.1 = 3
  · rw [if_pos ec] at h; cases h
  rw [if_neg ec] at h ⊢
  by_cases ev : (valT x.1 (getT s x.2.2.1) (opB s x)).2 = true
  · rw [if_pos ev] at h; cases h
  · rw [if_neg ev]
/-- what an instruction does hangs on what its two registers hold -/
theorem do_dep {s t : Nat → Int} (pc : Int) (x : T7) (h1 : getT t x.2.2.1 = getT s x.2.2.1) (h2 : getT t x.2.2.2.1 = getT s x.2.2.2.1) :
    (doT t pc x).2 = (doT s pc x).2 ∧ ((doT s pc x).2.2 = true → (classT x.1 = 3 ∧ (doT s pc x).1 = s ∧ (doT t pc x).1 = t) ∨ classT x.1 ≠ 3 ∧ ∃ v, (doT s pc x).1 = setT s x.2.1 v ∧ (doT t pc x).1 = setT t x.2.1 v) := by
  have hB : opB t x = opB s x := by unfold opB; rw [h2]
  have hN : brNext t pc x = brNext s pc x := by unfold brNext; rw [h1, h2]
  unfold doT
  rw [h1, hB, hN]
  by_cases e4 : x.1 = 4
  · simp only [if_pos e4]; exact ⟨by first | trivial | rfl, fun _ => .inr ⟨by rw [e4]; decide, _, rfl, rfl⟩⟩
  by_cases e3 : x.1 = 3
  · simp only [if_neg e4, if_pos e3]; exact ⟨by first | trivial | rfl, fun _ => .inr ⟨by rw [e3]; decide, _, rfl, rfl⟩⟩
  by_cases e2 : x.1 = 2
  · simp only [if_neg e4, if_neg e3, if_pos e2]; exact ⟨by first | trivial | rfl, fun _ => .inr ⟨by rw [e2]; decide, _, rfl, rfl⟩⟩
  by_cases e1 : x.1 = 1
  · simp only [if_neg e4, if_neg e3, if_neg e2, if_pos e1]; exact ⟨by first | trivial | rfl, fun _ => .inr ⟨by rw [e1]; decide, _, rfl, rfl⟩⟩
  by_cases ec : classT x.1 = 3
  · simp only [if_neg e4, if_neg e3, if_neg e2, if_neg e1, if_pos ec]; exact ⟨by first | trivial | rfl, fun _ => .inl ⟨ec, by first | trivial | rfl, by first | trivial | rfl⟩⟩
  by_cases ev : (valT x.1 (getT s x.2.2.1) (opB s x)).2 = true
  · simp only [if_neg e4, if_neg e3, if_neg e2, if_neg e1, if_neg ec, if_pos ev]; exact ⟨by first | trivial | rfl, fun _ => .inr ⟨ec, _, rfl, rfl⟩⟩
  · simp only [if_neg e4, if_neg e3, if_neg e2, if_neg e1, if_neg ec, if_neg ev]; exact ⟨by first | trivial | rfl, fun h => by cases h⟩
theorem reg_class : ∀ n : Fin 256, (regT n.val).2 = true → classT n.val = 0 := by decide +kernel
/-- where an instruction leads -/
theorem do_leads {s : Nat → Int} {pc : Int} {x : T7} (hx : W7 x) (h : (doT s pc x).2.2 = true) : classT x.1 = 4 ∨ classT x.1 = 0 ∧ (doT s pc x).2.1 = nextT pc x ∨ classT x.1 = 3 ∧ ((doT s pc x).2.1 = nextT pc x ∨ (doT s pc x).2.1 = IntKind.u64.wrap (pc + immU x)) := by
  have b0 := hx.1
  unfold doT at *
  by_cases e4 : x.1 = 4
  · left; rw [e4]; decide
  by_cases e3 : x.1 = 3
  · left; rw [e3]; decide
  by_cases e2 : x.1 = 2
  · right; left; simp only [if_neg e4, if_neg e3, if_pos e2]; exact ⟨by rw [e2]; decide, trivial⟩
  by_cases e1 : x.1 = 1
  · right; left; simp only [if_neg e4, if_neg e3, if_neg e2, if_pos e1]; exact ⟨by rw [e1]; decide, trivial⟩
  by_cases ec : classT x.1 = 3
  · right; right; simp only [if_neg e4, if_neg e3, if_neg e2, if_neg e1, if_pos ec]
    refine ⟨ec, ?_⟩
    unfold brNext
    split
    · exact .inr rfl
    · exact .inl rfl
  by_cases ev : (valT x.1 (getT s x.2.2.1) (opB s x)).2 = true
  · right; left; simp only [if_neg e4, if_neg e3, if_neg e2, if_neg e1, if_neg ec, if_pos ev]
    refine ⟨?_, trivial⟩
    cases hr : (regT x.1).2 with
    | false => rw [val_none b0 hr] at ev; cases ev
    | true =>
      have := reg_class ⟨x.1.toNat, by omega⟩
      have e : ((x.1.toNat : Nat) : Int) = x.1 := by omega
      simp only [e] at this
      exact this hr
  · simp only [if_neg e4, if_neg e3, if_neg e2, if_neg e1, if_neg ec, if_neg ev] at h; cases h
theorem one_any {s s2 : Nat → Int} (hs : RegsOK s) (hs2 : RegsOK s2) {pc : Int} (hp : N64 pc) {x : T7} (hx : W7 x) (w : World) : Calls Try.prog 3 #[.agg (regC s), .int .u64 pc, .agg (OC x s2)] w fun e w' => e = .returned (.bool true) ∧ Fr [] w w' := by
  have hdo := fun g w hb => do_any g hs hp hx w hb
  have haw := hid fun w => awake_any w
  cases hk : (doT s pc x).2.2 with
  | false =>
    have e := do_false hk
    obtain ⟨op, rd, r1, r2, im, cs, sz⟩ := x
    obtain ⟨b0, b1, b2, b3, b4, b5, b6⟩ := hx
    rw [e] at hdo
    exact one_f s s s2 s s s pc pc op rd r1 r2 im cs sz 0 0 0 w hp.1 hp.2 b0 b2 b3 b4.1 b4.2 b6.1 b6.2 b1 (hid hdo) haw
  | true =>
    have hld := do_leads hx hk
    let O1 := setT s2 x.2.2.1 (getT s x.2.2.1)
    let O2 := setT O1 x.2.2.2.1 (getT s x.2.2.2.1)
    have hO1 : RegsOK O1 := set_ok hs2 _ (getT_N hs _)
    have hO2 : RegsOK O2 := set_ok hO1 _ (getT_N hs _)
    have g0 : ∀ n m : Int, m % 32 = n % 32 → getT s m = getT s n := fun n m h => by unfold getT; rw [h]
    have gz : ∀ n : Int, n % 32 = 0 → getT s n = 0 := fun n h => by unfold getT; rw [if_pos h]
    have g1 : getT O2 x.2.2.1 = getT s x.2.2.1 := by
      show getT (setT (setT s2 x.2.2.1 (getT s x.2.2.1)) x.2.2.2.1 (getT s x.2.2.2.1)) x.2.2.1 = _
      rw [get_set, get_set]
      by_cases z : x.2.2.1 % 32 = 0
      · rw [if_pos z, gz _ z]
      · rw [if_neg z, if_neg z, if_pos rfl]
        by_cases q : x.2.2.2.1 % 32 = x.2.2.1 % 32
        · rw [if_pos q]; exact g0 _ _ q
        · rw [if_neg q]
    have g2 : getT O2 x.2.2.2.1 = getT s x.2.2.2.1 := by
      show getT (setT (setT s2 x.2.2.1 (getT s x.2.2.1)) x.2.2.2.1 (getT s x.2.2.2.1)) x.2.2.2.1 = _
      rw [get_set]
      by_cases z : x.2.2.2.1 % 32 = 0
      · rw [if_pos z, gz _ z]
      · rw [if_neg z, if_pos rfl]
    obtain ⟨d1, d2⟩ := do_dep (s := s) (t := O2) pc x g1 g2
    have d2 := d2 hk
    have hdo2 := fun g w hb => do_any g hO2 hp hx w hb
    rw [d1] at hdo2
    rw [hk] at hdo hdo2
    have hS : ∀ n : Int, 0 ≤ n → n < 32 → n ≠ x.2.1 % 32 → (doT s pc x).1 n.toNat = s n.toNat := by
      intro n h0 h1 h
      rcases d2 with ⟨-, e, -⟩ | ⟨-, v, e, -⟩
      · rw [e]
      · rw [e]; exact set_other _ _ _ _ h0 h
    have hS0 : (doT s pc x).1 0 = s 0 := by
      rcases d2 with ⟨-, e, -⟩ | ⟨-, v, e, -⟩
      · rw [e]
      · rw [e]; exact set_at0 _ _ _
    have hG : classT x.1 ≠ 3 → getT (doT O2 pc x).1 x.2.1 = getT (doT s pc x).1 x.2.1 := by
      intro hc
      rcases d2 with ⟨h, -⟩ | ⟨-, v, e, e'⟩
      · exact absurd h hc
      · rw [e, e', get_set O2 x.2.1 v x.2.1, get_set s x.2.1 v x.2.1]; split
        · rfl
        · rw [if_pos rfl, if_pos rfl]
    have hcls := hid fun w => c_class hx.1 w
    have k3 : ∀ g w, w.heap[g]? = some (.cells (regC (doT s pc x).1) 24) → Calls Try.prog 12 #[.pointer (some ⟨g, 0, none⟩), .int .u8 0] w fun e w' => e = .returned (.int .u64 0) ∧ w = w' := fun g w hb => get_any g _ w (by decide) hb
    have k4 := fun g w hb => get_any g s w hx.2.2.1 hb
    have k5 := fun g w hb => get_any g s w hx.2.2.2.1 hb
    have k6 : ∀ g w, w.heap[g]? = some (.cells (regC s2) 24) → Calls Try.prog 13 #[.pointer (some ⟨g, 0, none⟩), .int .u8 x.2.2.1, .int .u64 (getT s x.2.2.1)] w fun e w' => e = .returned (.tuple #[]) ∧ w'.heap[g]? = some (.cells (regC O1) 24) ∧ Fr [g] w w' := fun g w hb => set_any g (getT s x.2.2.1) s2 w hx.2.2.1 hb
    have k8 : ∀ g w, w.heap[g]? = some (.cells (regC O1) 24) → Calls Try.prog 13 #[.pointer (some ⟨g, 0, none⟩), .int .u8 x.2.2.2.1, .int .u64 (getT s x.2.2.2.1)] w fun e w' => e = .returned (.tuple #[]) ∧ w'.heap[g]? = some (.cells (regC O2) 24) ∧ Fr [g] w w' := fun g w hb => set_any g (getT s x.2.2.2.1) O1 w hx.2.2.2.1 hb
    have k10 := fun g w hb => get_any g (doT O2 pc x).1 w hx.2.1 hb
    have k11 := fun g w hb => get_any g (doT s pc x).1 w hx.2.1 hb
    have hsame : classT x.1 = 3 → (doT s pc x).1 = s := fun h => by
      rcases d2 with ⟨-, e, -⟩ | ⟨h', -⟩
      · exact e
      · exact absurd h h'
    have b1 : ∀ a b : Int, a = b → (a != b) = false := fun a b h => by simp [h]
    clear_value O1 O2
    generalize doT s pc x = D at *
    generalize doT O2 pc x = D2 at *
    obtain ⟨op, rd, r1, r2, im, cs, sz⟩ := x
    obtain ⟨c0, c1, c2, c3, c4, c5, c6⟩ := hx
    obtain ⟨S, nx, ok⟩ := D
    simp only at *
    rcases hld with hc | ⟨hc, hn⟩ | ⟨hc, hn⟩
    · rw [hc] at hcls
      rw [hG (by rw [hc]; decide)] at k10
      exact one_4 s S s2 O1 O2 D2.1 pc nx op rd r1 r2 im cs sz _ _ _ w hp.1 hp.2 c0 c2 c3 c4.1 c4.2 c6.1 c6.2 c1 (hid hdo) haw hcls (hid k3) (hid k4) (hid k5) (hid k6) (hid k8) (hid hdo2) (hid k10) (hid k11) (hid hS) (hid hS0)
    · rw [hc] at hcls
      rw [hG (by rw [hc]; decide)] at k10
      exact one_0 s S s2 O1 O2 D2.1 pc nx op rd r1 r2 im cs sz _ _ _ w hp.1 hp.2 c0 c2 c3 c4.1 c4.2 c6.1 c6.2 c1 (hid hdo) haw hcls (hid k3) (hid k4) (hid k5) (hid k6) (hid k8) (hid hdo2) (hid k10) (hid k11) (hid hS) (hid hS0) (hid (b1 _ _ hn))
    · rw [hc] at hcls
      have hsm := hsame hc
      exact one_3 s S s2 O1 O2 D2.1 pc nx op rd r1 r2 im cs sz _ _ 0 w hp.1 hp.2 c0 c2 c3 c4.1 c4.2 c6.1 c6.2 c1 (hid hdo) haw hcls (hid k3) (hid k4) (hid k5) (hid k6) (hid k8) (hid hdo2) (hid fun n _ _ => by rw [hsm]) (hid hS0) (hid (by
        cases q : (nx != IntKind.u64.wrap (pc + sz)) with
        | false => exact .inl rfl
        | true =>
          refine .inr ⟨rfl, b1 _ _ ?_⟩
          rcases hn with hn | hn
          · exfalso
            have q2 : (nx != IntKind.u64.wrap (pc + sz)) = false := b1 _ _ hn
            rw [q2] at q
            cases q
          · exact hn))
end Go.Proofs.Ytajbfnihgonppaa.PA
