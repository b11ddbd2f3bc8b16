/- Contract of the reference's quotients. -/
import Derived.Test.YtajbfnihgonppaaHReg
import Derived.Test.YtajbfnihgonppaaPAx2
import Derived.Test.YtajbfnihgonppaaPAx3
import Derived.Deep.Cut
namespace Go.Proofs.Ytajbfnihgonppaa.PA
open Go.RowKit Go.Proofs.YtajbfnihgonppaaW.PrintWords
set_option linter.all false
def almonryref02_quotient.f (k : Nat) (a0 a1 a2 : Int) : Option Int := (almonryref02_Signed.f k a1 a2).bind fun q => (almonryref02_Quotient.f k a1 a2).bind fun u => (almonryref02_Word.f a1).bind fun wa => (almonryref02_Word.f a2).bind fun wb => (almonryref02_Signed.f k wa wb).bind fun x => (almonryref02_low.f a1).bind fun la => (almonryref02_low.f a2).bind fun lb => (almonryref02_Quotient.f k la lb).bind fun s => (almonryref02_Product.f k a1 a2).bind fun p => (almonryref02_Word.f p.2).bind fun m => (almonryref02_Word.f x.1).bind fun x1 => (almonryref02_Word.f s.1).bind fun s1 => (almonryref02_Word.f x.2).bind fun y1 => (almonryref02_Word.f s.2).bind fun t1 => if a0 = 58 then some q.1 else if a0 = 59 then some u.1 else if a0 = 60 then some q.2 else if a0 = 61 then some u.2 else if a0 = 62 then some m else if a0 = 63 then some x1 else if a0 = 64 then some s1 else if a0 = 65 then some y1 else if a0 = 66 then some t1 else none
theorem almonryref02_quotient.mono : ∀ a0 a1 a2 k, LeO (almonryref02_quotient.f k a0 a1 a2) (almonryref02_quotient.f (k + 1) a0 a1 a2) := by
  intro a0 a1 a2 k
  unfold almonryref02_quotient.f
  repeat' first
      | (with_reducible exact almonryref02_Signed.mono _ _ _)
      | (with_reducible exact almonryref02_Quotient.mono _ _ _)
      | (with_reducible exact almonryref02_Product.mono _ _ _)
      | (with_reducible exact LeO.refl _)
      | (with_reducible refine LeO.bind ?_ (fun _ => ?_))
theorem fr_drawn' {w w' : World} (h : Drawn0 w w') : Fr [] w w' := by obtain ⟨n, rfl⟩ := h; exact (Fr.refl _ _).drewN n
set_option maxRecDepth 100000 in
set_option maxHeartbeats 8000000 in
theorem almonryref02_quotient.calls (k : Nat) (a0 a1 a2 : Int) (r : Int) (w : World) (h : almonryref02_quotient.f k a0 a1 a2 = some r) : Calls Try.prog 36 #[.int .u8 a0, .int .u64 a1, .int .u64 a2] w fun e w' => e = .returned (.int .u64 r) ∧ Below w.heap.size w w' := by
  unfold almonryref02_quotient.f at h
  obtain ⟨⟨q_1, q_2⟩, h_q, hh1⟩ := Option.bind_eq_some_iff.1 h
  clear h
  obtain ⟨⟨u_1, u_2⟩, h_u, hh2⟩ := Option.bind_eq_some_iff.1 hh1
  clear hh1
  obtain ⟨wa, h_wa, hh3⟩ := Option.bind_eq_some_iff.1 hh2
  clear hh2
  obtain ⟨wb, h_wb, hh4⟩ := Option.bind_eq_some_iff.1 hh3
  clear hh3
  obtain ⟨⟨x_1, x_2⟩, h_x, hh5⟩ := Option.bind_eq_some_iff.1 hh4
  clear hh4
  obtain ⟨la, h_la, hh6⟩ := Option.bind_eq_some_iff.1 hh5
  clear hh5
  obtain ⟨lb, h_lb, hh7⟩ := Option.bind_eq_some_iff.1 hh6
  clear hh6
  obtain ⟨⟨s_1, s_2⟩, h_s, hh8⟩ := Option.bind_eq_some_iff.1 hh7
  clear hh7
  obtain ⟨⟨p_1, p_2⟩, h_p, hh9⟩ := Option.bind_eq_some_iff.1 hh8
  clear hh8
  obtain ⟨m, h_m, hh10⟩ := Option.bind_eq_some_iff.1 hh9
  clear hh9
  obtain ⟨x1, h_x1, hh11⟩ := Option.bind_eq_some_iff.1 hh10
  clear hh10
  obtain ⟨s1, h_s1, hh12⟩ := Option.bind_eq_some_iff.1 hh11
  clear hh11
  obtain ⟨y1, h_y1, hh13⟩ := Option.bind_eq_some_iff.1 hh12
  clear hh12
  obtain ⟨t1, h_t1, hh14⟩ := Option.bind_eq_some_iff.1 hh13
  clear hh13
  have h := hh14
  clear hh14
  simp only at h h_p h_m h_x1 h_s1 h_y1 h_t1
  have c_q := hid (fun w => almonryref02_Signed.calls k a1 a2 q_1 q_2 w h_q)
  have c_u := hid (fun w => almonryref02_Quotient.calls k a1 a2 u_1 u_2 w h_u)
  have c_wa := hid (fun w => almonryref02_Word.calls a1 wa w h_wa)
  have c_wb := hid (fun w => almonryref02_Word.calls a2 wb w h_wb)
  have c_x := hid (fun w => almonryref02_Signed.calls k wa wb x_1 x_2 w h_x)
  have c_la := hid (fun w => almonryref02_low.calls a1 la w h_la)
  have c_lb := hid (fun w => almonryref02_low.calls a2 lb w h_lb)
  have c_s := hid (fun w => almonryref02_Quotient.calls k la lb s_1 s_2 w h_s)
  have c_p := hid (fun w => almonryref02_Product.calls k a1 a2 p_1 p_2 w h_p)
  have c_m := hid (fun w => almonryref02_Word.calls p_2 m w h_m)
  have c_x1 := hid (fun w => almonryref02_Word.calls x_1 x1 w h_x1)
  have c_s1 := hid (fun w => almonryref02_Word.calls s_1 s1 w h_s1)
  have c_y1 := hid (fun w => almonryref02_Word.calls x_2 y1 w h_y1)
  have c_t1 := hid (fun w => almonryref02_Word.calls s_2 t1 w h_t1)
  clear h_q h_u h_wa h_wb h_x h_la h_lb h_s h_p h_m h_x1 h_s1 h_y1 h_t1
  have H := hid h
  clear h
  have hF := Fr.refl [] w
  have hfd : ∀ a b w, (Instr.field 79 (.agg #[.int .u64 a, .int .u64 b]) 1).run Try.prog w = .ok (.int .u64 b) w := fun _ _ _ => by kernel_rfl
  go_enter Try.func36, Try.ntmps36
  go_upto_region 6 with ((first | (go_at_call 46; ((with_reducible refine (c_q.out _).mono ?_))) | (go_at_call 46; ((with_reducible refine (c_x.out _).mono ?_))) | (go_at_call 47; ((with_reducible refine (c_u.out _).mono ?_))) | (go_at_call 47; ((with_reducible refine (c_s.out _).mono ?_))) | (go_at_call 44; ((with_reducible refine (c_p.out _).mono ?_))) | (go_at_call 43; ((with_reducible refine (c_la.out _).mono ?_))) | (go_at_call 43; ((with_reducible refine (c_lb.out _).mono ?_))) | (go_at_call 42; ((with_reducible refine (c_wa.out _).mono ?_))) | (go_at_call 42; ((with_reducible refine (c_wb.out _).mono ?_))) | (go_at_call 42; ((with_reducible refine (c_m.out _).mono ?_))) | (go_at_call 42; ((with_reducible refine (c_x1.out _).mono ?_))) | (go_at_call 42; ((with_reducible refine (c_s1.out _).mono ?_))) | (go_at_call 42; ((with_reducible refine (c_y1.out _).mono ?_))) | (go_at_call 42; ((with_reducible refine (c_t1.out _).mono ?_)))); rintro e w1 ⟨rfl, hd⟩; first | replace hF := hF.trans (fr_drawn' hd) | replace hF := hF.trans (fr_of_below hd); clear hd)
  have hF2 := hF.alloc (.cells #[.int .u64 q_1, .int .u64 u_1, .int .u64 q_2, .int .u64 u_2, .int .u64 m, .int .u64 x1, .int .u64 s1, .int .u64 y1, .int .u64 t1] 84)
  have h := H.out
  clear H
  by_cases e58 : a0 = 58
  · subst e58
    rw [if_pos rfl] at h
    cases h
    go_wp2
    go_ret
    exact ⟨rfl, below_of_fr hF2⟩
  rw [if_neg e58] at h
  by_cases e59 : a0 = 59
  · subst e59
    rw [if_pos rfl] at h
    cases h
    go_wp2
    go_ret
    exact ⟨rfl, below_of_fr hF2⟩
  rw [if_neg e59] at h
  by_cases e60 : a0 = 60
  · subst e60
    rw [if_pos rfl] at h
    cases h
    go_wp2
    go_ret
    exact ⟨rfl, below_of_fr hF2⟩
  rw [if_neg e60] at h
  by_cases e61 : a0 = 61
  · subst e61
    rw [if_pos rfl] at h
    cases h
    go_wp2
    go_ret
    exact ⟨rfl, below_of_fr hF2⟩
  rw [if_neg e61] at h
  by_cases e62 : a0 = 62
  · subst e62
    rw [if_pos rfl] at h
    cases h
    go_wp2
    go_ret
    exact ⟨rfl, below_of_fr hF2⟩
  rw [if_neg e62] at h
  by_cases e63 : a0 = 63
  · subst e63
    rw [if_pos rfl] at h
    cases h
    go_wp2
    go_ret
    exact ⟨rfl, below_of_fr hF2⟩
  rw [if_neg e63] at h
  by_cases e64 : a0 = 64
  · subst e64
    rw [if_pos rfl] at h
    cases h
    go_wp2
    go_ret
    exact ⟨rfl, below_of_fr hF2⟩
  rw [if_neg e64] at h
  by_cases e65 : a0 = 65
  · subst e65
    rw [if_pos rfl] at h
    cases h
    go_wp2
    go_ret
    exact ⟨rfl, below_of_fr hF2⟩
  rw [if_neg e65] at h
  by_cases e66 : a0 = 66
  · subst e66
    rw [if_pos rfl] at h
    cases h
    go_wp2
    go_ret
    exact ⟨rfl, below_of_fr hF2⟩
  rw [if_neg e66] at h
  cases h
end Go.Proofs.Ytajbfnihgonppaa.PA
