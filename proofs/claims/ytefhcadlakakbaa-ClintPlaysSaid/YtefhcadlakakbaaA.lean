/- The iterator over a timer's registers, and what hands it back: contracts. -/
import Derived.RangeFuncNested
import Derived.RangeFuncBound
import Derived.RangeFuncCalls
import Derived.RangeFuncLeaves
import Derived.Shelf.Abstract
import Derived.Shelf.RegionOpen
import Derived.WalkKit
import Derived.OwnWalkIn
import Derived.TacticsInMore
import Derived.LoopNIn
import Derived.LoopIn
import Derived.Sort.QuietTacIn
import Derived.Deep.QuietTactic
import Derived.BigQuiet
import Derived.Test.YtefhcadlakakbaaProg
namespace Go.Proofs.Ytefhcadlakakbaa
open Go.RowKit Go.Shelf
set_option linter.all false
attribute [local go_sem] Oper.semAt_some

/-- the k-th register of the timer in block b -/
def rg (b : Nat) (k : Nat) : Array Value :=
  if k = 0 then #[.int .u64 0, .int .u64 4, .int .u64 1, .pointer (some ⟨b, 0, none⟩)]
  else if k = 1 then #[.int .u64 16384, .int .u64 8, .int .u64 18446744073709551615, .pointer (some ⟨b, 1, none⟩)]
  else #[.int .u64 49144, .int .u64 8, .int .u64 18446744073709551615, .pointer (some ⟨b, 2, none⟩)]

set_option maxRecDepth 100000 in
set_option maxHeartbeats 1000000 in
theorem all_in (F : Fence) (n : Nat) (h5 : F.fn 25) (hro : F.round = none) (p0 : Option Addr) (w : World) :
    CallsIn F n Try.prog 25 #[.pointer p0] w fun e w' => e = .returned (.func (.func 26) #[] #[.pointer (some ⟨w.heap.size, 0, none⟩)]) ∧ w' = w.alloc (.cells #[.pointer p0] 24) := by
  refine callsIn_of_wp Try.func25 rfl h5 ?_ hro
  simp only [Try.ntmps25, List.size_toArray, List.length_cons, List.length_nil, Nat.reduceAdd, Nat.reduceSub, Array.replicate_succ, Array.replicate_zero, List.push_toArray, List.append_toArray, List.nil_append, List.cons_append]
  gi_wp2
  go_ret
  exact ⟨rfl, rfl⟩

set_option maxRecDepth 100000 in
set_option maxHeartbeats 4000000 in
theorem all1_in (F : Fence) (n : Nat) (h6 : F.fn 26) (hro : F.round = none) (hn : 1 ≤ n) (l Bn n₀ b : Nat) (J Jx : List Nat → World → Prop)
    (hY : ∀ pre x W, J pre W → pre.length < 3 → YieldAt F (n - 1) Try.prog l #[.agg (rg b x)] W fun e W' =>
      (e = .returned (.bool true) ∧ J (pre ++ [x]) W' ∧ Below n₀ W W') ∨ (e = .returned (.bool false) ∧ Jx (pre ++ [x]) W'))
    (W : World) (hJ : AbidesFrom W.heap.size J) (hBn : W.cell? ⟨Bn, 0, none⟩ = some (.pointer (some ⟨b, 0, none⟩))) (h0 : J [] W) :
    CallsIn F n Try.prog 26 #[.func (.yield l) #[] #[], .pointer (some ⟨Bn, 0, none⟩)] W fun e W' => (∃ v, e = .returned v) ∧
      ((∃ ys, ys = [0, 1, 2] ∧ J ys W') ∨ (∃ pre, pre <+: [0, 1, 2] ∧ Jx pre W')) := by
  refine callsIn_of_wp Try.func26 rfl h6 ?_ hro
  simp only [Try.ntmps26, List.size_toArray, List.length_cons, List.length_nil, Nat.reduceAdd, Nat.reduceSub, Array.replicate_succ, Array.replicate_zero, List.push_toArray, List.append_toArray, List.nil_append, List.cons_append]
  gi_wp2
  refine wpIn_region_quiet_lit hro (by kernel_rfl) (by kernel_rfl) ?_
  repeat (quiet_step_in (fail))
  refine wpQuietIn_nil ?_
  intro _ hw'
  obtain ⟨nq, hw''⟩ := hw'
  subst hw''
  have hJ0 : J [] (W.drewN nq) := hJ _ _ _ none h0 ⟨rfl, rfl, rfl, Nat.le_refl _, fun _ _ _ => rfl⟩ (by simp)
  gi_wp2
  gi_loopw [20] (fun i wr => ∃ k : Nat, k ≤ 3 ∧ i = .int .i64 k ∧ J (List.range k) wr) (fun i _ => 3 - (intOf i).toNat)
  case atStart => exact ⟨0, by omega, rfl, hJ0⟩
  case round =>
    obtain ⟨k, hk, rfl, hJs⟩ := hrel
    have ix0 : ∀ w, (Instr.index 62 (.agg #[.int .u64 0, .int .u64 4, .int .u64 1, .pointer (some ⟨b, 0, none⟩), .int .u64 16384, .int .u64 8, .int .u64 18446744073709551615, .pointer (some ⟨b, 1, none⟩), .int .u64 49144, .int .u64 8, .int .u64 18446744073709551615, .pointer (some ⟨b, 2, none⟩)]) (.int .i64 0)).run Try.prog w = .ok (.agg #[.int .u64 0, .int .u64 4, .int .u64 1, .pointer (some ⟨b, 0, none⟩)]) w := fun _ => by kernel_rfl
    have ix1 : ∀ w, (Instr.index 62 (.agg #[.int .u64 0, .int .u64 4, .int .u64 1, .pointer (some ⟨b, 0, none⟩), .int .u64 16384, .int .u64 8, .int .u64 18446744073709551615, .pointer (some ⟨b, 1, none⟩), .int .u64 49144, .int .u64 8, .int .u64 18446744073709551615, .pointer (some ⟨b, 2, none⟩)]) (.int .i64 1)).run Try.prog w = .ok (.agg #[.int .u64 16384, .int .u64 8, .int .u64 18446744073709551615, .pointer (some ⟨b, 1, none⟩)]) w := fun _ => by kernel_rfl
    have ix2 : ∀ w, (Instr.index 62 (.agg #[.int .u64 0, .int .u64 4, .int .u64 1, .pointer (some ⟨b, 0, none⟩), .int .u64 16384, .int .u64 8, .int .u64 18446744073709551615, .pointer (some ⟨b, 1, none⟩), .int .u64 49144, .int .u64 8, .int .u64 18446744073709551615, .pointer (some ⟨b, 2, none⟩)]) (.int .i64 2)).run Try.prog w = .ok (.agg #[.int .u64 49144, .int .u64 8, .int .u64 18446744073709551615, .pointer (some ⟨b, 2, none⟩)]) w := fun _ => by kernel_rfl
    have key : k = 0 ∨ k = 1 ∨ k = 2 ∨ k = 3 := by omega
    have hst : ∀ k, k < 3 → J (List.range k) wr → YieldAt F (n - 1) Try.prog l #[.agg (rg b k)] (wr.alloc (.cells (rg b k) 48)) fun e W' =>
      (e = .returned (.bool true) ∧ J (List.range (k + 1)) W' ∧ Below n₀ (wr.alloc (.cells (rg b k) 48)) W') ∨ (e = .returned (.bool false) ∧ Jx (List.range (k + 1)) W') := by
      intro k hk hs
      have := hY (List.range k) k _ (hJ _ _ (wr.alloc (.cells (rg b k) 48)) none hs (World.grownBy_alloc _ _ _) (by simp)) (by simpa using hk)
      rwa [← List.range_succ] at this
    have hpre : ∀ k, k ≤ 3 → List.range k <+: [0, 1, 2] := by
      intro k hk
      have : k = 0 ∨ k = 1 ∨ k = 2 ∨ k = 3 := by omega
      rcases this with rfl | rfl | rfl | rfl <;> decide
    clear hY
    rcases key with rfl | rfl | rfl | rfl
    · obtain ⟨fn, tmps, assign, body, hy, hR⟩ := hst 0 (by omega) hJs
      rw [show rg b 0 = #[.int .u64 0, .int .u64 4, .int .u64 1, .pointer (some ⟨b, 0, none⟩)] from rfl] at hy hR
      clear hst
      gi_wp2
      refine hR.mono ?_
      rintro e W3 (⟨rfl, hJ3, hk3⟩ | ⟨rfl, hJx3⟩)
      · gi_wp2
        go_roundw
        case rel => exact ⟨1, by omega, rfl, hJ3⟩
        case measure => simp [intOf]
      · gi_wp2
        refine bodyPost_ret (results_none rfl _ _ _) rfl ?_
        exact ⟨⟨_, rfl⟩, .inr ⟨_, hpre 1 (by omega), hJx3⟩⟩
    · obtain ⟨fn, tmps, assign, body, hy, hR⟩ := hst 1 (by omega) hJs
      rw [show rg b 1 = #[.int .u64 16384, .int .u64 8, .int .u64 18446744073709551615, .pointer (some ⟨b, 1, none⟩)] from rfl] at hy hR
      clear hst
      gi_wp2
      refine hR.mono ?_
      rintro e W3 (⟨rfl, hJ3, hk3⟩ | ⟨rfl, hJx3⟩)
      · gi_wp2
        go_roundw
        case rel => exact ⟨2, by omega, rfl, hJ3⟩
        case measure => simp [intOf]
      · gi_wp2
        refine bodyPost_ret (results_none rfl _ _ _) rfl ?_
        exact ⟨⟨_, rfl⟩, .inr ⟨_, hpre 2 (by omega), hJx3⟩⟩
    · obtain ⟨fn, tmps, assign, body, hy, hR⟩ := hst 2 (by omega) hJs
      rw [show rg b 2 = #[.int .u64 49144, .int .u64 8, .int .u64 18446744073709551615, .pointer (some ⟨b, 2, none⟩)] from rfl] at hy hR
      clear hst
      gi_wp2
      refine hR.mono ?_
      rintro e W3 (⟨rfl, hJ3, hk3⟩ | ⟨rfl, hJx3⟩)
      · gi_wp2
        go_roundw
        case rel => exact ⟨3, by omega, rfl, hJ3⟩
        case measure => simp [intOf]
      · gi_wp2
        refine bodyPost_ret (results_none rfl _ _ _) rfl ?_
        exact ⟨⟨_, rfl⟩, .inr ⟨_, hpre 3 (by omega), hJx3⟩⟩
    · gi_wp2
      go_end0
      exact ⟨⟨_, rfl⟩, .inl ⟨_, rfl, hJs⟩⟩

theorem all_stops (F : Fence) (n : Nat) (h6 : F.fn 26) (hro : F.round = none) (hn : 1 ≤ n) (Bn n₀ b : Nat) (w : World) (hBn : Bn < w.heap.size) (hc : w.cell? ⟨Bn, 0, none⟩ = some (.pointer (some ⟨b, 0, none⟩))) :
    SeqStopsK F n Try.prog 26 #[.pointer (some ⟨Bn, 0, none⟩)] (fun k : Nat => #[Value.agg (rg b k)]) (Below n₀) (fun ys => ys = [0, 1, 2]) (fun pre => pre <+: [0, 1, 2]) 3 w := fun l J Jx W hW hJ _ hY h0 =>
  all1_in F n h6 hro hn l Bn n₀ b J Jx hY W hJ ((hW.cell (p := ⟨Bn, 0, none⟩) hBn).trans hc) h0

set_option maxRecDepth 100000 in
set_option maxHeartbeats 1000000 in
/-- a timer that is none has no registers -/
theorem none_stops (F : Fence) (n : Nat) (h6 : F.fn 26) (hro : F.round = none) (Bn n₀ b : Nat) (w : World) (hBn : Bn < w.heap.size) (hc : w.cell? ⟨Bn, 0, none⟩ = some (.pointer none)) :
    SeqStopsK F n Try.prog 26 #[.pointer (some ⟨Bn, 0, none⟩)] (fun k : Nat => #[Value.agg (rg b k)]) (Below n₀) (fun ys => ys = []) (fun pre => pre <+: []) 0 w := fun l J Jx W hW hJ _ hY h0 => by
  have hBn := (hW.cell (p := ⟨Bn, 0, none⟩) hBn).trans hc
  clear hY
  refine callsIn_of_wp Try.func26 rfl h6 ?_ hro
  simp only [Try.ntmps26, List.size_toArray, List.length_cons, List.length_nil, Nat.reduceAdd, Nat.reduceSub, Array.replicate_succ, Array.replicate_zero, List.push_toArray, List.append_toArray, List.nil_append, List.cons_append]
  gi_wp2
  refine bodyPost_ret (results_none rfl _ _ _) rfl ?_
  exact ⟨⟨_, rfl⟩, .inl ⟨_, rfl, h0⟩⟩
end Go.Proofs.Ytefhcadlakakbaa
