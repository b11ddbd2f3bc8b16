/- The law TrapBack without its row, its cases joined: what the ways back make of Mstatus. -/
import Derived.Test.YtfdkmkblhicbfaaL
namespace Go.Proofs.Ytfdkmkblhicbfaa
open Go.RowKit
set_option linter.all false

theorem sr_back (x : BitVec 64) (c : Bool) (h17 : x.getLsbD 17 = false) : (setB (setB (setB x 32#64 (tb x 1) &&& ~~~2#64) 256#64 c) 2#64 (tb (setB (setB x 32#64 (tb x 1) &&& ~~~2#64) 256#64 c) 5) &&& ~~~131328#64) ||| 32#64 = x &&& ~~~256#64 ||| 32#64 := by
  have h5 : tb (setB (setB x 32#64 (tb x 1) &&& ~~~2#64) 256#64 c) 5 = x.getLsbD 1 := by
    unfold tb
    cases c <;> cases h : x.getLsbD 1 <;> simp only [setB, if_true, Bool.false_eq_true, if_false, BitVec.getLsbD_and, BitVec.getLsbD_or, BitVec.getLsbD_not] <;> cases x.getLsbD 5 <;> decide
  rw [h5]
  have key : ∀ i, i < 64 → ∀ b b1 c : Bool, (i = 1 → b = b1) → (i = 17 → b = false) →
      ((((if b1 = true then ((if c = true then (((if b1 = true then b || (32#64).getLsbD i else b && !(32#64).getLsbD i) && !(2#64).getLsbD i) || (256#64).getLsbD i) else (((if b1 = true then b || (32#64).getLsbD i else b && !(32#64).getLsbD i) && !(2#64).getLsbD i) && !(256#64).getLsbD i)) || (2#64).getLsbD i) else ((if c = true then (((if b1 = true then b || (32#64).getLsbD i else b && !(32#64).getLsbD i) && !(2#64).getLsbD i) || (256#64).getLsbD i) else (((if b1 = true then b || (32#64).getLsbD i else b && !(32#64).getLsbD i) && !(2#64).getLsbD i) && !(256#64).getLsbD i)) && !(2#64).getLsbD i)) && !(131328#64).getLsbD i) || (32#64).getLsbD i) = ((b && !(256#64).getLsbD i) || (32#64).getLsbD i)) := by decide
  apply bv_ext
  intro i hi
  have k := key i hi (x.getLsbD i) (x.getLsbD 1) c (fun e => by rw [e]) (fun e => by rw [e]; exact h17)
  rw [BitVec.getLsbD_or, BitVec.getLsbD_or, BitVec.getLsbD_and, BitVec.getLsbD_and, BitVec.getLsbD_not, BitVec.getLsbD_not]
  unfold tb
  cases c <;> cases h : x.getLsbD 1 <;> rw [h] at k <;> simp only [setB, if_true, Bool.false_eq_true, if_false, BitVec.getLsbD_and, BitVec.getLsbD_or, BitVec.getLsbD_not, hi, decide_true, Bool.true_and] at k ⊢ <;> exact k

theorem mr_bits (x : BitVec 64) (r : Nat) (hr : r = 0 ∨ r = 1 ∨ r = 3) : tb (setB x 128#64 (tb x 3) &&& ~~~6152#64 ||| BitVec.ofNat 64 (r * 2048)) 7 = x.getLsbD 3 := by
  unfold tb
  rcases hr with rfl | rfl | rfl <;> cases h : x.getLsbD 3 <;> simp only [setB, if_true, Bool.false_eq_true, if_false, BitVec.getLsbD_and, BitVec.getLsbD_or, BitVec.getLsbD_not] <;> cases x.getLsbD 7 <;> decide
theorem mr_mpp (x : BitVec 64) (r : Nat) (hr : r = 0 ∨ r = 1 ∨ r = 3) : (setB x 128#64 (tb x 3) &&& ~~~6152#64 ||| BitVec.ofNat 64 (r * 2048)) >>> 11 &&& 3#64 = BitVec.ofNat 64 r := by
  apply bv_ext
  intro i hi
  rw [BitVec.getLsbD_and, BitVec.getLsbD_ushiftRight, BitVec.getLsbD_or, BitVec.getLsbD_and, BitVec.getLsbD_not]
  have key : ∀ i, i < 64 → ∀ b : Bool, ∀ r, r < 4 → (r = 0 ∨ r = 1 ∨ r = 3) → (((b && (decide (11 + i < 64) && !(6152#64).getLsbD (11 + i))) || (BitVec.ofNat 64 (r * 2048)).getLsbD (11 + i)) && (3#64).getLsbD i) = (BitVec.ofNat 64 r).getLsbD i := by decide
  exact key i hi _ r (by omega) hr
theorem mr_back (x : BitVec 64) (r : Nat) (hr : r = 0 ∨ r = 1 ∨ r = 3) (h17 : r ≠ 3 → x.getLsbD 17 = false) :
    (if r = 3 then (setB (setB x 128#64 (tb x 3) &&& ~~~6152#64 ||| BitVec.ofNat 64 (r * 2048)) 8#64 (x.getLsbD 3) &&& ~~~6144#64) ||| 128#64 else ((setB (setB x 128#64 (tb x 3) &&& ~~~6152#64 ||| BitVec.ofNat 64 (r * 2048)) 8#64 (x.getLsbD 3) &&& ~~~6144#64) ||| 128#64) &&& ~~~131072#64) = x &&& ~~~6144#64 ||| 128#64 := by
  have key : ∀ r : Fin 4, ∀ i : Fin 64, ∀ b b3 : Bool, (i.val = 3 → b = b3) → (r.val = 0 ∨ r.val = 1 ∨ r.val = 3) → (r.val ≠ 3 → i.val = 17 → b = false) →
      ((((if b3 = true then (((if b3 = true then b || (128#64).getLsbD i.val else b && !(128#64).getLsbD i.val) && !(6152#64).getLsbD i.val) || (BitVec.ofNat 64 (r.val * 2048)).getLsbD i.val) || (8#64).getLsbD i.val else (((if b3 = true then b || (128#64).getLsbD i.val else b && !(128#64).getLsbD i.val) && !(6152#64).getLsbD i.val) || (BitVec.ofNat 64 (r.val * 2048)).getLsbD i.val) && !(8#64).getLsbD i.val) && !(6144#64).getLsbD i.val) || (128#64).getLsbD i.val) && (if r.val = 3 then true else !(131072#64).getLsbD i.val)) = ((b && !(6144#64).getLsbD i.val) || (128#64).getLsbD i.val) := by decide
  apply bv_ext
  intro i hi
  have k := key ⟨r, by omega⟩ ⟨i, hi⟩ (x.getLsbD i) (x.getLsbD 3) (fun e => by simp only at e; rw [e]) hr (fun h e => by simp only at e h; rw [e]; exact h17 h)
  simp only at k
  unfold tb
  rcases hr with rfl | rfl | rfl <;> cases h : x.getLsbD 3 <;> rw [h] at k <;> simp only [show ¬ (0 : Nat) = 3 by decide, show ¬ (1 : Nat) = 3 by decide, setB, if_true, Bool.false_eq_true, if_false, BitVec.getLsbD_and, BitVec.getLsbD_or, BitVec.getLsbD_not, hi, decide_true, Bool.true_and, Bool.and_true] at k ⊢ <;> exact k

theorem ent_1 (s : Nat → BitVec 64) (M pc c : BitVec 64) (it : Bool) (tv : BitVec 64) : ent s 14 15 16 M pc c it tv 1 = M ∧ ent s 14 15 16 M pc c it tv 14 = pc &&& ~~~1#64 ∧ ent s 8 9 10 M pc c it tv 1 = M ∧ ent s 8 9 10 M pc c it tv 8 = pc &&& ~~~1#64 := by
  cases it <;> simp [ent, upd]
theorem ent_eq (s : Nat → BitVec 64) (e y v : Nat) (M pc c Z : BitVec 64) (it : Bool) (tv : BitVec 64) (hne : 1 ≠ e ∧ 1 ≠ y ∧ 1 ≠ v ∧ e ≠ y ∧ e ≠ v ∧ y ≠ v) :
    upd (ent s e y v M pc c it tv) 1 Z = upd (upd (upd (upd s e (ent s e y v M pc c it tv e)) y (ent s e y v M pc c it tv y)) v (ent s e y v M pc c it tv v)) 1 Z := by
  obtain ⟨h1, h2, h3, h4, h5, h6⟩ := hne
  funext j
  unfold upd
  by_cases j1 : j = 1
  · simp [j1]
  · rw [if_neg j1, if_neg j1]
    by_cases jv : j = v
    · subst jv; simp
    · rw [if_neg jv]
      by_cases jy : j = y
      · subst jy; simp
      · rw [if_neg jy]
        by_cases je : j = e
        · subst je; simp
        · rw [if_neg je]
          cases it <;> simp [ent, upd, j1, jv, jy, je]

theorem and17 (x : BitVec 64) : (x &&& ~~~131072#64).getLsbD 17 = false := by
  rw [BitVec.getLsbD_and, BitVec.getLsbD_not]; cases x.getLsbD 17 <;> decide
theorem U_small (r : Nat) (h : r < 18446744073709551616) : U (BitVec.ofNat 64 r) = r := U_lit r h

theorem down_facts (s : Nat → BitVec 64) (r : Int) (hr : r = 0 ∨ r = 1) (pc c : BitVec 64) (it : Bool) (tv : BitVec 64) (h17 : (s 1).getLsbD 17 = false) (hd : downB s r (U c) it = true) :
    srL (stE s r pc c it tv) = r ∧ (stE s r pc c it tv) 14 = pc &&& ~~~1#64 ∧ lvE s r c it = 1 ∧
    srS (stE s r pc c it tv) = upd (upd (upd (upd s 14 (stE s r pc c it tv 14)) 15 (stE s r pc c it tv 15)) 16 (stE s r pc c it tv 16)) 1 (s 1 &&& ~~~256#64 ||| 32#64) := by
  have e : stE s r pc c it tv = ent s 14 15 16 (setB (setB (s 1) 32#64 (tb (s 1) 1) &&& ~~~2#64) 256#64 (decide (r = 1))) pc c it tv := by unfold stE; rw [if_pos hd]
  obtain ⟨e1, e14, _, _⟩ := ent_1 s (setB (setB (s 1) 32#64 (tb (s 1) 1) &&& ~~~2#64) 256#64 (decide (r = 1))) pc c it tv
  refine ⟨?_, ?_, ?_, ?_⟩
  · unfold srL
    rw [e, e1]
    rcases hr with rfl | rfl
    · have : tb (setB (setB (s 1) 32#64 (tb (s 1) 1) &&& ~~~2#64) 256#64 (decide ((0 : Int) = 1))) 8 = false := by
        unfold tb; simp only [show decide ((0 : Int) = 1) = false from rfl, setB, Bool.false_eq_true, if_false, BitVec.getLsbD_and, BitVec.getLsbD_not]
        cases (if (s 1).getLsbD 1 = true then s 1 ||| 32#64 else s 1 &&& ~~~32#64).getLsbD 8 <;> decide
      rw [this]; rfl
    · have : tb (setB (setB (s 1) 32#64 (tb (s 1) 1) &&& ~~~2#64) 256#64 (decide ((1 : Int) = 1))) 8 = true := by
        unfold tb; simp only [decide_true, setB, if_true, BitVec.getLsbD_or]
        cases ((if (s 1).getLsbD 1 = true then s 1 ||| 32#64 else s 1 &&& ~~~32#64) &&& ~~~2#64).getLsbD 8 <;> decide
      rw [this]; rfl
  · rw [e]; exact e14
  · unfold lvE; rw [if_pos hd]
  · unfold srS srM
    rw [e]
    rw [e1, sr_back _ _ h17]
    exact ent_eq s 14 15 16 _ pc c _ it tv (by decide)

theorem up_facts (s : Nat → BitVec 64) (r : Int) (n : Nat) (hn : r = n) (hr : n = 0 ∨ n = 1 ∨ n = 3) (pc c : BitVec 64) (it : Bool) (tv : BitVec 64) (h17 : n ≠ 3 → (s 1).getLsbD 17 = false) (hd : downB s r (U c) it = false) :
    rm (U (mpp (stE s r pc c it tv))) = r ∧ (stE s r pc c it tv) 8 = pc &&& ~~~1#64 ∧ lvE s r c it = 3 ∧
    mrS (stE s r pc c it tv) = upd (upd (upd (upd s 8 (stE s r pc c it tv 8)) 9 (stE s r pc c it tv 9)) 10 (stE s r pc c it tv 10)) 1 (s 1 &&& ~~~6144#64 ||| 128#64) := by
  have e : stE s r pc c it tv = ent s 8 9 10 (setB (s 1) 128#64 (tb (s 1) 3) &&& ~~~6152#64 ||| BitVec.ofNat 64 (n * 2048)) pc c it tv := by
    unfold stE; rw [hd]
    subst hn
    rcases hr with rfl | rfl | rfl
    · have : setB (s 1) 128#64 (tb (s 1) 3) &&& ~~~6152#64 ||| BitVec.ofNat 64 (0 * 2048) = setB (s 1) 128#64 (tb (s 1) 3) &&& ~~~6152#64 := BitVec.or_zero
      rw [this]; rfl
    · rfl
    · rfl
  obtain ⟨_, _, e1, e8⟩ := ent_1 s (setB (s 1) 128#64 (tb (s 1) 3) &&& ~~~6152#64 ||| BitVec.ofNat 64 (n * 2048)) pc c it tv
  have hm : rm (U (mpp (stE s r pc c it tv))) = r := by
    unfold mpp
    rw [e, e1, mr_mpp _ n hr, U_small n (by omega), hn]
    unfold rm
    split <;> omega
  refine ⟨hm, by rw [e]; exact e8, by unfold lvE; rw [hd]; rfl, ?_⟩
  unfold mrS
  rw [hm]
  have : mrM (stE s r pc c it tv) r = s 1 &&& ~~~6144#64 ||| 128#64 := by
    rw [← mr_back (s 1) n hr h17]
    unfold mrM
    rw [e, e1, mr_bits _ n hr]
    have : (r = 3) ↔ n = 3 := by omega
    by_cases h : n = 3
    · rw [if_pos (this.2 h), if_pos h]
    · rw [if_neg (fun e => h (this.1 e)), if_neg h]
  rw [this, e]
  exact ent_eq s 8 9 10 _ pc c _ it tv (by decide)

theorem law_TrapBack (s : Nat → BitVec 64) (m : Int) (pc c tv : BitVec 64) (it : Bool) (w : World) (h0 : 0 ≤ m) (hc : U c < 256) :
    Calls Try.prog 8 #[.agg (stC s), .agg #[.int .u8 m, .int .u64 (U pc)], .agg #[.int .u8 (U c), .bool it, .int .u64 (U tv)]] w fun e w' => e = .returned (.bool true) ∧ Fr [] w w' := by
  have hl : lwM m = 0 ∨ lwM m = 1 ∨ lwM m = 3 := by unfold lwM; split; simp; split; simp; simp
  have s17 : ((upd s 1 (s 1 &&& ~~~131072#64)) 1).getLsbD 17 = false := by rw [upd_same]; exact and17 _
  have u1 : (upd s 1 (s 1 &&& ~~~131072#64)) 1 = s 1 &&& ~~~131072#64 := upd_same _ _ _
  rcases hl with hl | hl | hl
  · cases hd : downB (upd s 1 (s 1 &&& ~~~131072#64)) 0 (U c) it
    · obtain ⟨f1, f2, f3, f4⟩ := up_facts _ 0 0 rfl (.inl rfl) pc c it tv (fun _ => s17) hd
      refine back_0M s m pc c tv it w h0 hc hl _ _ s (U (wyE (upd s 1 (s 1 &&& ~~~131072#64)) 0 c it)) (fun w => ?_) (fun w => ?_) f4
      · have := enter_any (upd s 1 (s 1 &&& ~~~131072#64)) 0 pc c tv it w (by decide) hc
        rw [show rm 0 = 0 from rfl, f3] at this; exact this
      · have := mret_any (stE (upd s 1 (s 1 &&& ~~~131072#64)) 0 pc c it tv) w
        rw [f1, f2] at this; exact this
    · obtain ⟨f1, f2, f3, f4⟩ := down_facts _ 0 (.inl rfl) pc c it tv s17 hd
      refine back_0S s m pc c tv it w h0 hc hl _ _ s (U (wyE (upd s 1 (s 1 &&& ~~~131072#64)) 0 c it)) (fun w => ?_) (fun w => ?_) f4
      · have := enter_any (upd s 1 (s 1 &&& ~~~131072#64)) 0 pc c tv it w (by decide) hc
        rw [show rm 0 = 0 from rfl, f3] at this; exact this
      · have := sret_any (stE (upd s 1 (s 1 &&& ~~~131072#64)) 0 pc c it tv) 1 w
        rw [f1, f2] at this; exact this
  · cases hd : downB (upd s 1 (s 1 &&& ~~~131072#64)) 1 (U c) it
    · obtain ⟨f1, f2, f3, f4⟩ := up_facts _ 1 1 rfl (.inr (.inl rfl)) pc c it tv (fun _ => s17) hd
      refine back_1M s m pc c tv it w h0 hc hl _ _ s (U (wyE (upd s 1 (s 1 &&& ~~~131072#64)) 1 c it)) (fun w => ?_) (fun w => ?_) f4
      · have := enter_any (upd s 1 (s 1 &&& ~~~131072#64)) 1 pc c tv it w (by decide) hc
        rw [show rm 1 = 1 from rfl, f3] at this; exact this
      · have := mret_any (stE (upd s 1 (s 1 &&& ~~~131072#64)) 1 pc c it tv) w
        rw [f1, f2] at this; exact this
    · obtain ⟨f1, f2, f3, f4⟩ := down_facts _ 1 (.inr rfl) pc c it tv s17 hd
      refine back_1S s m pc c tv it w h0 hc hl _ _ s (U (wyE (upd s 1 (s 1 &&& ~~~131072#64)) 1 c it)) (fun w => ?_) (fun w => ?_) f4
      · have := enter_any (upd s 1 (s 1 &&& ~~~131072#64)) 1 pc c tv it w (by decide) hc
        rw [show rm 1 = 1 from rfl, f3] at this; exact this
      · have := sret_any (stE (upd s 1 (s 1 &&& ~~~131072#64)) 1 pc c it tv) 1 w
        rw [f1, f2] at this; exact this
  · obtain ⟨f1, f2, f3, f4⟩ := up_facts s 3 3 rfl (.inr (.inr rfl)) pc c it tv (fun h => absurd rfl h) (down3 _ _ _)
    refine back_3M s m pc c tv it w h0 hc hl _ _ s (U (wyE s 3 c it)) (fun w => ?_) (fun w => ?_) f4
    · have := enter_any s 3 pc c tv it w (by decide) hc
      rw [show rm 3 = 3 from rfl, f3] at this; exact this
    · have := mret_any (stE s 3 pc c it tv) w
      rw [f1, f2] at this; exact this
end Go.Proofs.Ytfdkmkblhicbfaa
