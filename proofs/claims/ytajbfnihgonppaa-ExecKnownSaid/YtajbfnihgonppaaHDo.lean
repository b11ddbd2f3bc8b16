/- Contract of what an operation answers: one of the table's functions. -/
import Derived.Test.YtajbfnihgonppaaHReg
import Derived.Test.YtajbfnihgonppaaPAx4
import Derived.Test.YtajbfnihgonppaaPAx5
namespace Go.Proofs.Ytajbfnihgonppaa.PA
open Go.RowKit Go.Proofs.YtajbfnihgonppaaW.PrintWords
set_option linter.all false
def alu_Do.f (a0 a1 a2 : Int) : Option (Int × Bool) := (alu_Reg.f a0).bind fun r => if r.2 = true then (if r.1 = 31 then (alu_number_add.f a1 a2).bind fun v => some (v, true) else if r.1 = 32 then (alu_number_sub.f a1 a2).bind fun v => some (v, true) else if r.1 = 36 then (alu_number_xor.f a1 a2).bind fun v => some (v, true) else if r.1 = 39 then (alu_number_or.f a1 a2).bind fun v => some (v, true) else if r.1 = 40 then (alu_number_and.f a1 a2).bind fun v => some (v, true) else if r.1 = 33 then (alu_number_sll.f a1 a2).bind fun v => some (v, true) else if r.1 = 37 then (alu_number_srl.f a1 a2).bind fun v => some (v, true) else if r.1 = 38 then (alu_number_sra.f a1 a2).bind fun v => some (v, true) else if r.1 = 34 then (alu_number_slt.f a1 a2).bind fun v => some (v, true) else if r.1 = 35 then (alu_number_sltu.f a1 a2).bind fun v => some (v, true) else if r.1 = 45 then (alu_number_addw.f a1 a2).bind fun v => some (v, true) else if r.1 = 46 then (alu_number_subw.f a1 a2).bind fun v => some (v, true) else if r.1 = 47 then (alu_number_sllw.f a1 a2).bind fun v => some (v, true) else if r.1 = 48 then (alu_number_srlw.f a1 a2).bind fun v => some (v, true) else if r.1 = 49 then (alu_number_sraw.f a1 a2).bind fun v => some (v, true) else if r.1 = 54 then (alu_number_mul.f a1 a2).bind fun v => some (v, true) else if r.1 = 55 then (alu_number_mulh.f a1 a2).bind fun v => some (v, true) else if r.1 = 56 then (alu_number_mulhsu.f a1 a2).bind fun v => some (v, true) else if r.1 = 57 then (alu_number_mulhu.f a1 a2).bind fun v => some (v, true) else if r.1 = 58 then (alu_number_div.f a1 a2).bind fun v => some (v, true) else if r.1 = 59 then (alu_number_divu.f a1 a2).bind fun v => some (v, true) else if r.1 = 60 then (alu_number_rem.f a1 a2).bind fun v => some (v, true) else if r.1 = 61 then (alu_number_remu.f a1 a2).bind fun v => some (v, true) else if r.1 = 62 then (alu_number_mulw.f a1 a2).bind fun v => some (v, true) else if r.1 = 63 then (alu_number_divw.f a1 a2).bind fun v => some (v, true) else if r.1 = 64 then (alu_number_divuw.f a1 a2).bind fun v => some (v, true) else if r.1 = 65 then (alu_number_remw.f a1 a2).bind fun v => some (v, true) else if r.1 = 66 then (alu_number_remuw.f a1 a2).bind fun v => some (v, true) else none) else some (0, false)
theorem fr_drawn {w w' : World} (h : Drawn0 w w') : Fr [] w w' := by obtain ⟨n, rfl⟩ := h; exact (Fr.refl _ _).drewN n

set_option maxRecDepth 100000 in
set_option maxHeartbeats 4000000 in
theorem do_add (a0 a1 a2 v : Int) (w : World) (hr : alu_Reg.f a0 = some (31, true)) (hv : alu_number_add.f a1 a2 = some v) : Calls Try.prog 31 #[.int .u8 a0, .int .u64 a1, .int .u64 a2] w fun e w' => e = .returned (.tuple #[.int .u64 v, .bool true]) ∧ Below w.heap.size w w' := by
  have hlo := ops_look
  have hop : opV 31 = .func (.func 50) #[] #[] := rfl
  have Hr := hid (fun w => alu_Reg.calls a0 31 true w hr)
  have Hv := hid (fun w => alu_number_add.calls a1 a2 v w hv)
  clear hr hv
  go_enter Try.func31, Try.ntmps31
  go_wp2_with (first | (go_at_call 30; refine (Hr.out _).mono ?_; rintro e w1 ⟨rfl, hb⟩) | (go_at_call 39; refine (ops_any _).mono ?_; rintro e w' ⟨rfl, rfl⟩) | (go_at_call 50; refine (Hv.out _).mono ?_; rintro e w2 ⟨rfl, hd⟩))
  go_ret2
  exact ⟨rfl, below_of_fr ((((fr_of_below hb)).alloc _).trans (fr_drawn hd))⟩

set_option maxRecDepth 100000 in
set_option maxHeartbeats 4000000 in
theorem do_sub (a0 a1 a2 v : Int) (w : World) (hr : alu_Reg.f a0 = some (32, true)) (hv : alu_number_sub.f a1 a2 = some v) : Calls Try.prog 31 #[.int .u8 a0, .int .u64 a1, .int .u64 a2] w fun e w' => e = .returned (.tuple #[.int .u64 v, .bool true]) ∧ Below w.heap.size w w' := by
  have hlo := ops_look
  have hop : opV 32 = .func (.func 51) #[] #[] := rfl
  have Hr := hid (fun w => alu_Reg.calls a0 32 true w hr)
  have Hv := hid (fun w => alu_number_sub.calls a1 a2 v w hv)
  clear hr hv
  go_enter Try.func31, Try.ntmps31
  go_wp2_with (first | (go_at_call 30; refine (Hr.out _).mono ?_; rintro e w1 ⟨rfl, hb⟩) | (go_at_call 39; refine (ops_any _).mono ?_; rintro e w' ⟨rfl, rfl⟩) | (go_at_call 51; refine (Hv.out _).mono ?_; rintro e w2 ⟨rfl, hd⟩))
  go_ret2
  exact ⟨rfl, below_of_fr ((((fr_of_below hb)).alloc _).trans (fr_drawn hd))⟩

set_option maxRecDepth 100000 in
set_option maxHeartbeats 4000000 in
theorem do_xor (a0 a1 a2 v : Int) (w : World) (hr : alu_Reg.f a0 = some (36, true)) (hv : alu_number_xor.f a1 a2 = some v) : Calls Try.prog 31 #[.int .u8 a0, .int .u64 a1, .int .u64 a2] w fun e w' => e = .returned (.tuple #[.int .u64 v, .bool true]) ∧ Below w.heap.size w w' := by
  have hlo := ops_look
  have hop : opV 36 = .func (.func 52) #[] #[] := rfl
  have Hr := hid (fun w => alu_Reg.calls a0 36 true w hr)
  have Hv := hid (fun w => alu_number_xor.calls a1 a2 v w hv)
  clear hr hv
  go_enter Try.func31, Try.ntmps31
  go_wp2_with (first | (go_at_call 30; refine (Hr.out _).mono ?_; rintro e w1 ⟨rfl, hb⟩) | (go_at_call 39; refine (ops_any _).mono ?_; rintro e w' ⟨rfl, rfl⟩) | (go_at_call 52; refine (Hv.out _).mono ?_; rintro e w2 ⟨rfl, hd⟩))
  go_ret2
  exact ⟨rfl, below_of_fr ((((fr_of_below hb)).alloc _).trans (fr_drawn hd))⟩

set_option maxRecDepth 100000 in
set_option maxHeartbeats 4000000 in
theorem do_or (a0 a1 a2 v : Int) (w : World) (hr : alu_Reg.f a0 = some (39, true)) (hv : alu_number_or.f a1 a2 = some v) : Calls Try.prog 31 #[.int .u8 a0, .int .u64 a1, .int .u64 a2] w fun e w' => e = .returned (.tuple #[.int .u64 v, .bool true]) ∧ Below w.heap.size w w' := by
  have hlo := ops_look
  have hop : opV 39 = .func (.func 53) #[] #[] := rfl
  have Hr := hid (fun w => alu_Reg.calls a0 39 true w hr)
  have Hv := hid (fun w => alu_number_or.calls a1 a2 v w hv)
  clear hr hv
  go_enter Try.func31, Try.ntmps31
  go_wp2_with (first | (go_at_call 30; refine (Hr.out _).mono ?_; rintro e w1 ⟨rfl, hb⟩) | (go_at_call 39; refine (ops_any _).mono ?_; rintro e w' ⟨rfl, rfl⟩) | (go_at_call 53; refine (Hv.out _).mono ?_; rintro e w2 ⟨rfl, hd⟩))
  go_ret2
  exact ⟨rfl, below_of_fr ((((fr_of_below hb)).alloc _).trans (fr_drawn hd))⟩

set_option maxRecDepth 100000 in
set_option maxHeartbeats 4000000 in
theorem do_and (a0 a1 a2 v : Int) (w : World) (hr : alu_Reg.f a0 = some (40, true)) (hv : alu_number_and.f a1 a2 = some v) : Calls Try.prog 31 #[.int .u8 a0, .int .u64 a1, .int .u64 a2] w fun e w' => e = .returned (.tuple #[.int .u64 v, .bool true]) ∧ Below w.heap.size w w' := by
  have hlo := ops_look
  have hop : opV 40 = .func (.func 54) #[] #[] := rfl
  have Hr := hid (fun w => alu_Reg.calls a0 40 true w hr)
  have Hv := hid (fun w => alu_number_and.calls a1 a2 v w hv)
  clear hr hv
  go_enter Try.func31, Try.ntmps31
  go_wp2_with (first | (go_at_call 30; refine (Hr.out _).mono ?_; rintro e w1 ⟨rfl, hb⟩) | (go_at_call 39; refine (ops_any _).mono ?_; rintro e w' ⟨rfl, rfl⟩) | (go_at_call 54; refine (Hv.out _).mono ?_; rintro e w2 ⟨rfl, hd⟩))
  go_ret2
  exact ⟨rfl, below_of_fr ((((fr_of_below hb)).alloc _).trans (fr_drawn hd))⟩

set_option maxRecDepth 100000 in
set_option maxHeartbeats 4000000 in
theorem do_sll (a0 a1 a2 v : Int) (w : World) (hr : alu_Reg.f a0 = some (33, true)) (hv : alu_number_sll.f a1 a2 = some v) : Calls Try.prog 31 #[.int .u8 a0, .int .u64 a1, .int .u64 a2] w fun e w' => e = .returned (.tuple #[.int .u64 v, .bool true]) ∧ Below w.heap.size w w' := by
  have hlo := ops_look
  have hop : opV 33 = .func (.func 55) #[] #[] := rfl
  have Hr := hid (fun w => alu_Reg.calls a0 33 true w hr)
  have Hv := hid (fun w => alu_number_sll.calls a1 a2 v w hv)
  clear hr hv
  go_enter Try.func31, Try.ntmps31
  go_wp2_with (first | (go_at_call 30; refine (Hr.out _).mono ?_; rintro e w1 ⟨rfl, hb⟩) | (go_at_call 39; refine (ops_any _).mono ?_; rintro e w' ⟨rfl, rfl⟩) | (go_at_call 55; refine (Hv.out _).mono ?_; rintro e w2 ⟨rfl, hd⟩))
  go_ret2
  exact ⟨rfl, below_of_fr ((((fr_of_below hb)).alloc _).trans (fr_drawn hd))⟩

set_option maxRecDepth 100000 in
set_option maxHeartbeats 4000000 in
theorem do_srl (a0 a1 a2 v : Int) (w : World) (hr : alu_Reg.f a0 = some (37, true)) (hv : alu_number_srl.f a1 a2 = some v) : Calls Try.prog 31 #[.int .u8 a0, .int .u64 a1, .int .u64 a2] w fun e w' => e = .returned (.tuple #[.int .u64 v, .bool true]) ∧ Below w.heap.size w w' := by
  have hlo := ops_look
  have hop : opV 37 = .func (.func 56) #[] #[] := rfl
  have Hr := hid (fun w => alu_Reg.calls a0 37 true w hr)
  have Hv := hid (fun w => alu_number_srl.calls a1 a2 v w hv)
  clear hr hv
  go_enter Try.func31, Try.ntmps31
  go_wp2_with (first | (go_at_call 30; refine (Hr.out _).mono ?_; rintro e w1 ⟨rfl, hb⟩) | (go_at_call 39; refine (ops_any _).mono ?_; rintro e w' ⟨rfl, rfl⟩) | (go_at_call 56; refine (Hv.out _).mono ?_; rintro e w2 ⟨rfl, hd⟩))
  go_ret2
  exact ⟨rfl, below_of_fr ((((fr_of_below hb)).alloc _).trans (fr_drawn hd))⟩

set_option maxRecDepth 100000 in
set_option maxHeartbeats 4000000 in
theorem do_sra (a0 a1 a2 v : Int) (w : World) (hr : alu_Reg.f a0 = some (38, true)) (hv : alu_number_sra.f a1 a2 = some v) : Calls Try.prog 31 #[.int .u8 a0, .int .u64 a1, .int .u64 a2] w fun e w' => e = .returned (.tuple #[.int .u64 v, .bool true]) ∧ Below w.heap.size w w' := by
  have hlo := ops_look
  have hop : opV 38 = .func (.func 57) #[] #[] := rfl
  have Hr := hid (fun w => alu_Reg.calls a0 38 true w hr)
  have Hv := hid (fun w => alu_number_sra.calls a1 a2 v w hv)
  clear hr hv
  go_enter Try.func31, Try.ntmps31
  go_wp2_with (first | (go_at_call 30; refine (Hr.out _).mono ?_; rintro e w1 ⟨rfl, hb⟩) | (go_at_call 39; refine (ops_any _).mono ?_; rintro e w' ⟨rfl, rfl⟩) | (go_at_call 57; refine (Hv.out _).mono ?_; rintro e w2 ⟨rfl, hd⟩))
  go_ret2
  exact ⟨rfl, below_of_fr ((((fr_of_below hb)).alloc _).trans (fr_drawn hd))⟩

set_option maxRecDepth 100000 in
set_option maxHeartbeats 4000000 in
theorem do_slt (a0 a1 a2 v : Int) (w : World) (hr : alu_Reg.f a0 = some (34, true)) (hv : alu_number_slt.f a1 a2 = some v) : Calls Try.prog 31 #[.int .u8 a0, .int .u64 a1, .int .u64 a2] w fun e w' => e = .returned (.tuple #[.int .u64 v, .bool true]) ∧ Below w.heap.size w w' := by
  have hlo := ops_look
  have hop : opV 34 = .func (.func 37) #[] #[] := rfl
  have Hr := hid (fun w => alu_Reg.calls a0 34 true w hr)
  have Hv := hid (fun w => alu_number_slt.calls a1 a2 v w hv)
  clear hr hv
  go_enter Try.func31, Try.ntmps31
  go_wp2_with (first | (go_at_call 30; refine (Hr.out _).mono ?_; rintro e w1 ⟨rfl, hb⟩) | (go_at_call 39; refine (ops_any _).mono ?_; rintro e w' ⟨rfl, rfl⟩) | (go_at_call 37; refine (Hv.out _).mono ?_; rintro e w2 ⟨rfl, hd⟩))
  go_ret2
  exact ⟨rfl, below_of_fr ((((fr_of_below hb)).alloc _).trans (fr_drawn hd))⟩

set_option maxRecDepth 100000 in
set_option maxHeartbeats 4000000 in
theorem do_sltu (a0 a1 a2 v : Int) (w : World) (hr : alu_Reg.f a0 = some (35, true)) (hv : alu_number_sltu.f a1 a2 = some v) : Calls Try.prog 31 #[.int .u8 a0, .int .u64 a1, .int .u64 a2] w fun e w' => e = .returned (.tuple #[.int .u64 v, .bool true]) ∧ Below w.heap.size w w' := by
  have hlo := ops_look
  have hop : opV 35 = .func (.func 38) #[] #[] := rfl
  have Hr := hid (fun w => alu_Reg.calls a0 35 true w hr)
  have Hv := hid (fun w => alu_number_sltu.calls a1 a2 v w hv)
  clear hr hv
  go_enter Try.func31, Try.ntmps31
  go_wp2_with (first | (go_at_call 30; refine (Hr.out _).mono ?_; rintro e w1 ⟨rfl, hb⟩) | (go_at_call 39; refine (ops_any _).mono ?_; rintro e w' ⟨rfl, rfl⟩) | (go_at_call 38; refine (Hv.out _).mono ?_; rintro e w2 ⟨rfl, hd⟩))
  go_ret2
  exact ⟨rfl, below_of_fr ((((fr_of_below hb)).alloc _).trans (fr_drawn hd))⟩

set_option maxRecDepth 100000 in
set_option maxHeartbeats 4000000 in
theorem do_addw (a0 a1 a2 v : Int) (w : World) (hr : alu_Reg.f a0 = some (45, true)) (hv : alu_number_addw.f a1 a2 = some v) : Calls Try.prog 31 #[.int .u8 a0, .int .u64 a1, .int .u64 a2] w fun e w' => e = .returned (.tuple #[.int .u64 v, .bool true]) ∧ Below w.heap.size w w' := by
  have hlo := ops_look
  have hop : opV 45 = .func (.func 58) #[] #[] := rfl
  have Hr := hid (fun w => alu_Reg.calls a0 45 true w hr)
  have Hv := hid (fun w => alu_number_addw.calls a1 a2 v w hv)
  clear hr hv
  go_enter Try.func31, Try.ntmps31
  go_wp2_with (first | (go_at_call 30; refine (Hr.out _).mono ?_; rintro e w1 ⟨rfl, hb⟩) | (go_at_call 39; refine (ops_any _).mono ?_; rintro e w' ⟨rfl, rfl⟩) | (go_at_call 58; refine (Hv.out _).mono ?_; rintro e w2 ⟨rfl, hd⟩))
  go_ret2
  exact ⟨rfl, below_of_fr ((((fr_of_below hb)).alloc _).trans (fr_drawn hd))⟩

set_option maxRecDepth 100000 in
set_option maxHeartbeats 4000000 in
theorem do_subw (a0 a1 a2 v : Int) (w : World) (hr : alu_Reg.f a0 = some (46, true)) (hv : alu_number_subw.f a1 a2 = some v) : Calls Try.prog 31 #[.int .u8 a0, .int .u64 a1, .int .u64 a2] w fun e w' => e = .returned (.tuple #[.int .u64 v, .bool true]) ∧ Below w.heap.size w w' := by
  have hlo := ops_look
  have hop : opV 46 = .func (.func 59) #[] #[] := rfl
  have Hr := hid (fun w => alu_Reg.calls a0 46 true w hr)
  have Hv := hid (fun w => alu_number_subw.calls a1 a2 v w hv)
  clear hr hv
  go_enter Try.func31, Try.ntmps31
  go_wp2_with (first | (go_at_call 30; refine (Hr.out _).mono ?_; rintro e w1 ⟨rfl, hb⟩) | (go_at_call 39; refine (ops_any _).mono ?_; rintro e w' ⟨rfl, rfl⟩) | (go_at_call 59; refine (Hv.out _).mono ?_; rintro e w2 ⟨rfl, hd⟩))
  go_ret2
  exact ⟨rfl, below_of_fr ((((fr_of_below hb)).alloc _).trans (fr_drawn hd))⟩

set_option maxRecDepth 100000 in
set_option maxHeartbeats 4000000 in
theorem do_sllw (a0 a1 a2 v : Int) (w : World) (hr : alu_Reg.f a0 = some (47, true)) (hv : alu_number_sllw.f a1 a2 = some v) : Calls Try.prog 31 #[.int .u8 a0, .int .u64 a1, .int .u64 a2] w fun e w' => e = .returned (.tuple #[.int .u64 v, .bool true]) ∧ Below w.heap.size w w' := by
  have hlo := ops_look
  have hop : opV 47 = .func (.func 60) #[] #[] := rfl
  have Hr := hid (fun w => alu_Reg.calls a0 47 true w hr)
  have Hv := hid (fun w => alu_number_sllw.calls a1 a2 v w hv)
  clear hr hv
  go_enter Try.func31, Try.ntmps31
  go_wp2_with (first | (go_at_call 30; refine (Hr.out _).mono ?_; rintro e w1 ⟨rfl, hb⟩) | (go_at_call 39; refine (ops_any _).mono ?_; rintro e w' ⟨rfl, rfl⟩) | (go_at_call 60; refine (Hv.out _).mono ?_; rintro e w2 ⟨rfl, hd⟩))
  go_ret2
  exact ⟨rfl, below_of_fr ((((fr_of_below hb)).alloc _).trans (fr_drawn hd))⟩

set_option maxRecDepth 100000 in
set_option maxHeartbeats 4000000 in
theorem do_srlw (a0 a1 a2 v : Int) (w : World) (hr : alu_Reg.f a0 = some (48, true)) (hv : alu_number_srlw.f a1 a2 = some v) : Calls Try.prog 31 #[.int .u8 a0, .int .u64 a1, .int .u64 a2] w fun e w' => e = .returned (.tuple #[.int .u64 v, .bool true]) ∧ Below w.heap.size w w' := by
  have hlo := ops_look
  have hop : opV 48 = .func (.func 61) #[] #[] := rfl
  have Hr := hid (fun w => alu_Reg.calls a0 48 true w hr)
  have Hv := hid (fun w => alu_number_srlw.calls a1 a2 v w hv)
  clear hr hv
  go_enter Try.func31, Try.ntmps31
  go_wp2_with (first | (go_at_call 30; refine (Hr.out _).mono ?_; rintro e w1 ⟨rfl, hb⟩) | (go_at_call 39; refine (ops_any _).mono ?_; rintro e w' ⟨rfl, rfl⟩) | (go_at_call 61; refine (Hv.out _).mono ?_; rintro e w2 ⟨rfl, hd⟩))
  go_ret2
  exact ⟨rfl, below_of_fr ((((fr_of_below hb)).alloc _).trans (fr_drawn hd))⟩

set_option maxRecDepth 100000 in
set_option maxHeartbeats 4000000 in
theorem do_sraw (a0 a1 a2 v : Int) (w : World) (hr : alu_Reg.f a0 = some (49, true)) (hv : alu_number_sraw.f a1 a2 = some v) : Calls Try.prog 31 #[.int .u8 a0, .int .u64 a1, .int .u64 a2] w fun e w' => e = .returned (.tuple #[.int .u64 v, .bool true]) ∧ Below w.heap.size w w' := by
  have hlo := ops_look
  have hop : opV 49 = .func (.func 62) #[] #[] := rfl
  have Hr := hid (fun w => alu_Reg.calls a0 49 true w hr)
  have Hv := hid (fun w => alu_number_sraw.calls a1 a2 v w hv)
  clear hr hv
  go_enter Try.func31, Try.ntmps31
  go_wp2_with (first | (go_at_call 30; refine (Hr.out _).mono ?_; rintro e w1 ⟨rfl, hb⟩) | (go_at_call 39; refine (ops_any _).mono ?_; rintro e w' ⟨rfl, rfl⟩) | (go_at_call 62; refine (Hv.out _).mono ?_; rintro e w2 ⟨rfl, hd⟩))
  go_ret2
  exact ⟨rfl, below_of_fr ((((fr_of_below hb)).alloc _).trans (fr_drawn hd))⟩

set_option maxRecDepth 100000 in
set_option maxHeartbeats 4000000 in
theorem do_mul (a0 a1 a2 v : Int) (w : World) (hr : alu_Reg.f a0 = some (54, true)) (hv : alu_number_mul.f a1 a2 = some v) : Calls Try.prog 31 #[.int .u8 a0, .int .u64 a1, .int .u64 a2] w fun e w' => e = .returned (.tuple #[.int .u64 v, .bool true]) ∧ Below w.heap.size w w' := by
  have hlo := ops_look
  have hop : opV 54 = .func (.func 63) #[] #[] := rfl
  have Hr := hid (fun w => alu_Reg.calls a0 54 true w hr)
  have Hv := hid (fun w => alu_number_mul.calls a1 a2 v w hv)
  clear hr hv
  go_enter Try.func31, Try.ntmps31
  go_wp2_with (first | (go_at_call 30; refine (Hr.out _).mono ?_; rintro e w1 ⟨rfl, hb⟩) | (go_at_call 39; refine (ops_any _).mono ?_; rintro e w' ⟨rfl, rfl⟩) | (go_at_call 63; refine (Hv.out _).mono ?_; rintro e w2 ⟨rfl, hd⟩))
  go_ret2
  exact ⟨rfl, below_of_fr ((((fr_of_below hb)).alloc _).trans (fr_drawn hd))⟩

set_option maxRecDepth 100000 in
set_option maxHeartbeats 4000000 in
theorem do_mulh (a0 a1 a2 v : Int) (w : World) (hr : alu_Reg.f a0 = some (55, true)) (hv : alu_number_mulh.f a1 a2 = some v) : Calls Try.prog 31 #[.int .u8 a0, .int .u64 a1, .int .u64 a2] w fun e w' => e = .returned (.tuple #[.int .u64 v, .bool true]) ∧ Below w.heap.size w w' := by
  have hlo := ops_look
  have hop : opV 55 = .func (.func 64) #[] #[] := rfl
  have Hr := hid (fun w => alu_Reg.calls a0 55 true w hr)
  have Hv := hid (fun w => alu_number_mulh.calls a1 a2 v w hv)
  clear hr hv
  go_enter Try.func31, Try.ntmps31
  go_wp2_with (first | (go_at_call 30; refine (Hr.out _).mono ?_; rintro e w1 ⟨rfl, hb⟩) | (go_at_call 39; refine (ops_any _).mono ?_; rintro e w' ⟨rfl, rfl⟩) | (go_at_call 64; refine (Hv.out _).mono ?_; rintro e w2 ⟨rfl, hd⟩))
  go_ret2
  exact ⟨rfl, below_of_fr ((((fr_of_below hb)).alloc _).trans (fr_drawn hd))⟩

set_option maxRecDepth 100000 in
set_option maxHeartbeats 4000000 in
theorem do_mulhsu (a0 a1 a2 v : Int) (w : World) (hr : alu_Reg.f a0 = some (56, true)) (hv : alu_number_mulhsu.f a1 a2 = some v) : Calls Try.prog 31 #[.int .u8 a0, .int .u64 a1, .int .u64 a2] w fun e w' => e = .returned (.tuple #[.int .u64 v, .bool true]) ∧ Below w.heap.size w w' := by
  have hlo := ops_look
  have hop : opV 56 = .func (.func 65) #[] #[] := rfl
  have Hr := hid (fun w => alu_Reg.calls a0 56 true w hr)
  have Hv := hid (fun w => alu_number_mulhsu.calls a1 a2 v w hv)
  clear hr hv
  go_enter Try.func31, Try.ntmps31
  go_wp2_with (first | (go_at_call 30; refine (Hr.out _).mono ?_; rintro e w1 ⟨rfl, hb⟩) | (go_at_call 39; refine (ops_any _).mono ?_; rintro e w' ⟨rfl, rfl⟩) | (go_at_call 65; refine (Hv.out _).mono ?_; rintro e w2 ⟨rfl, hd⟩))
  go_ret2
  exact ⟨rfl, below_of_fr ((((fr_of_below hb)).alloc _).trans (fr_drawn hd))⟩

set_option maxRecDepth 100000 in
set_option maxHeartbeats 4000000 in
theorem do_mulhu (a0 a1 a2 v : Int) (w : World) (hr : alu_Reg.f a0 = some (57, true)) (hv : alu_number_mulhu.f a1 a2 = some v) : Calls Try.prog 31 #[.int .u8 a0, .int .u64 a1, .int .u64 a2] w fun e w' => e = .returned (.tuple #[.int .u64 v, .bool true]) ∧ Below w.heap.size w w' := by
  have hlo := ops_look
  have hop : opV 57 = .func (.func 66) #[] #[] := rfl
  have Hr := hid (fun w => alu_Reg.calls a0 57 true w hr)
  have Hv := hid (fun w => alu_number_mulhu.calls a1 a2 v w hv)
  clear hr hv
  go_enter Try.func31, Try.ntmps31
  go_wp2_with (first | (go_at_call 30; refine (Hr.out _).mono ?_; rintro e w1 ⟨rfl, hb⟩) | (go_at_call 39; refine (ops_any _).mono ?_; rintro e w' ⟨rfl, rfl⟩) | (go_at_call 66; refine (Hv.out _).mono ?_; rintro e w2 ⟨rfl, hd⟩))
  go_ret2
  exact ⟨rfl, below_of_fr ((((fr_of_below hb)).alloc _).trans (fr_drawn hd))⟩

set_option maxRecDepth 100000 in
set_option maxHeartbeats 4000000 in
theorem do_div (a0 a1 a2 v : Int) (w : World) (hr : alu_Reg.f a0 = some (58, true)) (hv : alu_number_div.f a1 a2 = some v) : Calls Try.prog 31 #[.int .u8 a0, .int .u64 a1, .int .u64 a2] w fun e w' => e = .returned (.tuple #[.int .u64 v, .bool true]) ∧ Below w.heap.size w w' := by
  have hlo := ops_look
  have hop : opV 58 = .func (.func 67) #[] #[] := rfl
  have Hr := hid (fun w => alu_Reg.calls a0 58 true w hr)
  have Hv := hid (fun w => alu_number_div.calls a1 a2 v w hv)
  clear hr hv
  go_enter Try.func31, Try.ntmps31
  go_wp2_with (first | (go_at_call 30; refine (Hr.out _).mono ?_; rintro e w1 ⟨rfl, hb⟩) | (go_at_call 39; refine (ops_any _).mono ?_; rintro e w' ⟨rfl, rfl⟩) | (go_at_call 67; refine (Hv.out _).mono ?_; rintro e w2 ⟨rfl, hd⟩))
  go_ret2
  exact ⟨rfl, below_of_fr ((((fr_of_below hb)).alloc _).trans (fr_drawn hd))⟩

set_option maxRecDepth 100000 in
set_option maxHeartbeats 4000000 in
theorem do_divu (a0 a1 a2 v : Int) (w : World) (hr : alu_Reg.f a0 = some (59, true)) (hv : alu_number_divu.f a1 a2 = some v) : Calls Try.prog 31 #[.int .u8 a0, .int .u64 a1, .int .u64 a2] w fun e w' => e = .returned (.tuple #[.int .u64 v, .bool true]) ∧ Below w.heap.size w w' := by
  have hlo := ops_look
  have hop : opV 59 = .func (.func 68) #[] #[] := rfl
  have Hr := hid (fun w => alu_Reg.calls a0 59 true w hr)
  have Hv := hid (fun w => alu_number_divu.calls a1 a2 v w hv)
  clear hr hv
  go_enter Try.func31, Try.ntmps31
  go_wp2_with (first | (go_at_call 30; refine (Hr.out _).mono ?_; rintro e w1 ⟨rfl, hb⟩) | (go_at_call 39; refine (ops_any _).mono ?_; rintro e w' ⟨rfl, rfl⟩) | (go_at_call 68; refine (Hv.out _).mono ?_; rintro e w2 ⟨rfl, hd⟩))
  go_ret2
  exact ⟨rfl, below_of_fr ((((fr_of_below hb)).alloc _).trans (fr_drawn hd))⟩

set_option maxRecDepth 100000 in
set_option maxHeartbeats 4000000 in
theorem do_rem (a0 a1 a2 v : Int) (w : World) (hr : alu_Reg.f a0 = some (60, true)) (hv : alu_number_rem.f a1 a2 = some v) : Calls Try.prog 31 #[.int .u8 a0, .int .u64 a1, .int .u64 a2] w fun e w' => e = .returned (.tuple #[.int .u64 v, .bool true]) ∧ Below w.heap.size w w' := by
  have hlo := ops_look
  have hop : opV 60 = .func (.func 69) #[] #[] := rfl
  have Hr := hid (fun w => alu_Reg.calls a0 60 true w hr)
  have Hv := hid (fun w => alu_number_rem.calls a1 a2 v w hv)
  clear hr hv
  go_enter Try.func31, Try.ntmps31
  go_wp2_with (first | (go_at_call 30; refine (Hr.out _).mono ?_; rintro e w1 ⟨rfl, hb⟩) | (go_at_call 39; refine (ops_any _).mono ?_; rintro e w' ⟨rfl, rfl⟩) | (go_at_call 69; refine (Hv.out _).mono ?_; rintro e w2 ⟨rfl, hd⟩))
  go_ret2
  exact ⟨rfl, below_of_fr ((((fr_of_below hb)).alloc _).trans (fr_drawn hd))⟩

set_option maxRecDepth 100000 in
set_option maxHeartbeats 4000000 in
theorem do_remu (a0 a1 a2 v : Int) (w : World) (hr : alu_Reg.f a0 = some (61, true)) (hv : alu_number_remu.f a1 a2 = some v) : Calls Try.prog 31 #[.int .u8 a0, .int .u64 a1, .int .u64 a2] w fun e w' => e = .returned (.tuple #[.int .u64 v, .bool true]) ∧ Below w.heap.size w w' := by
  have hlo := ops_look
  have hop : opV 61 = .func (.func 70) #[] #[] := rfl
  have Hr := hid (fun w => alu_Reg.calls a0 61 true w hr)
  have Hv := hid (fun w => alu_number_remu.calls a1 a2 v w hv)
  clear hr hv
  go_enter Try.func31, Try.ntmps31
  go_wp2_with (first | (go_at_call 30; refine (Hr.out _).mono ?_; rintro e w1 ⟨rfl, hb⟩) | (go_at_call 39; refine (ops_any _).mono ?_; rintro e w' ⟨rfl, rfl⟩) | (go_at_call 70; refine (Hv.out _).mono ?_; rintro e w2 ⟨rfl, hd⟩))
  go_ret2
  exact ⟨rfl, below_of_fr ((((fr_of_below hb)).alloc _).trans (fr_drawn hd))⟩

set_option maxRecDepth 100000 in
set_option maxHeartbeats 4000000 in
theorem do_mulw (a0 a1 a2 v : Int) (w : World) (hr : alu_Reg.f a0 = some (62, true)) (hv : alu_number_mulw.f a1 a2 = some v) : Calls Try.prog 31 #[.int .u8 a0, .int .u64 a1, .int .u64 a2] w fun e w' => e = .returned (.tuple #[.int .u64 v, .bool true]) ∧ Below w.heap.size w w' := by
  have hlo := ops_look
  have hop : opV 62 = .func (.func 71) #[] #[] := rfl
  have Hr := hid (fun w => alu_Reg.calls a0 62 true w hr)
  have Hv := hid (fun w => alu_number_mulw.calls a1 a2 v w hv)
  clear hr hv
  go_enter Try.func31, Try.ntmps31
  go_wp2_with (first | (go_at_call 30; refine (Hr.out _).mono ?_; rintro e w1 ⟨rfl, hb⟩) | (go_at_call 39; refine (ops_any _).mono ?_; rintro e w' ⟨rfl, rfl⟩) | (go_at_call 71; refine (Hv.out _).mono ?_; rintro e w2 ⟨rfl, hd⟩))
  go_ret2
  exact ⟨rfl, below_of_fr ((((fr_of_below hb)).alloc _).trans (fr_drawn hd))⟩

set_option maxRecDepth 100000 in
set_option maxHeartbeats 4000000 in
theorem do_divw (a0 a1 a2 v : Int) (w : World) (hr : alu_Reg.f a0 = some (63, true)) (hv : alu_number_divw.f a1 a2 = some v) : Calls Try.prog 31 #[.int .u8 a0, .int .u64 a1, .int .u64 a2] w fun e w' => e = .returned (.tuple #[.int .u64 v, .bool true]) ∧ Below w.heap.size w w' := by
  have hlo := ops_look
  have hop : opV 63 = .func (.func 72) #[] #[] := rfl
  have Hr := hid (fun w => alu_Reg.calls a0 63 true w hr)
  have Hv := hid (fun w => alu_number_divw.calls a1 a2 v w hv)
  clear hr hv
  go_enter Try.func31, Try.ntmps31
  go_wp2_with (first | (go_at_call 30; refine (Hr.out _).mono ?_; rintro e w1 ⟨rfl, hb⟩) | (go_at_call 39; refine (ops_any _).mono ?_; rintro e w' ⟨rfl, rfl⟩) | (go_at_call 72; refine (Hv.out _).mono ?_; rintro e w2 ⟨rfl, hd⟩))
  go_ret2
  exact ⟨rfl, below_of_fr ((((fr_of_below hb)).alloc _).trans (fr_drawn hd))⟩

set_option maxRecDepth 100000 in
set_option maxHeartbeats 4000000 in
theorem do_divuw (a0 a1 a2 v : Int) (w : World) (hr : alu_Reg.f a0 = some (64, true)) (hv : alu_number_divuw.f a1 a2 = some v) : Calls Try.prog 31 #[.int .u8 a0, .int .u64 a1, .int .u64 a2] w fun e w' => e = .returned (.tuple #[.int .u64 v, .bool true]) ∧ Below w.heap.size w w' := by
  have hlo := ops_look
  have hop : opV 64 = .func (.func 73) #[] #[] := rfl
  have Hr := hid (fun w => alu_Reg.calls a0 64 true w hr)
  have Hv := hid (fun w => alu_number_divuw.calls a1 a2 v w hv)
  clear hr hv
  go_enter Try.func31, Try.ntmps31
  go_wp2_with (first | (go_at_call 30; refine (Hr.out _).mono ?_; rintro e w1 ⟨rfl, hb⟩) | (go_at_call 39; refine (ops_any _).mono ?_; rintro e w' ⟨rfl, rfl⟩) | (go_at_call 73; refine (Hv.out _).mono ?_; rintro e w2 ⟨rfl, hd⟩))
  go_ret2
  exact ⟨rfl, below_of_fr ((((fr_of_below hb)).alloc _).trans (fr_drawn hd))⟩

set_option maxRecDepth 100000 in
set_option maxHeartbeats 4000000 in
theorem do_remw (a0 a1 a2 v : Int) (w : World) (hr : alu_Reg.f a0 = some (65, true)) (hv : alu_number_remw.f a1 a2 = some v) : Calls Try.prog 31 #[.int .u8 a0, .int .u64 a1, .int .u64 a2] w fun e w' => e = .returned (.tuple #[.int .u64 v, .bool true]) ∧ Below w.heap.size w w' := by
  have hlo := ops_look
  have hop : opV 65 = .func (.func 74) #[] #[] := rfl
  have Hr := hid (fun w => alu_Reg.calls a0 65 true w hr)
  have Hv := hid (fun w => alu_number_remw.calls a1 a2 v w hv)
  clear hr hv
  go_enter Try.func31, Try.ntmps31
  go_wp2_with (first | (go_at_call 30; refine (Hr.out _).mono ?_; rintro e w1 ⟨rfl, hb⟩) | (go_at_call 39; refine (ops_any _).mono ?_; rintro e w' ⟨rfl, rfl⟩) | (go_at_call 74; refine (Hv.out _).mono ?_; rintro e w2 ⟨rfl, hd⟩))
  go_ret2
  exact ⟨rfl, below_of_fr ((((fr_of_below hb)).alloc _).trans (fr_drawn hd))⟩

set_option maxRecDepth 100000 in
set_option maxHeartbeats 4000000 in
theorem do_remuw (a0 a1 a2 v : Int) (w : World) (hr : alu_Reg.f a0 = some (66, true)) (hv : alu_number_remuw.f a1 a2 = some v) : Calls Try.prog 31 #[.int .u8 a0, .int .u64 a1, .int .u64 a2] w fun e w' => e = .returned (.tuple #[.int .u64 v, .bool true]) ∧ Below w.heap.size w w' := by
  have hlo := ops_look
  have hop : opV 66 = .func (.func 75) #[] #[] := rfl
  have Hr := hid (fun w => alu_Reg.calls a0 66 true w hr)
  have Hv := hid (fun w => alu_number_remuw.calls a1 a2 v w hv)
  clear hr hv
  go_enter Try.func31, Try.ntmps31
  go_wp2_with (first | (go_at_call 30; refine (Hr.out _).mono ?_; rintro e w1 ⟨rfl, hb⟩) | (go_at_call 39; refine (ops_any _).mono ?_; rintro e w' ⟨rfl, rfl⟩) | (go_at_call 75; refine (Hv.out _).mono ?_; rintro e w2 ⟨rfl, hd⟩))
  go_ret2
  exact ⟨rfl, below_of_fr ((((fr_of_below hb)).alloc _).trans (fr_drawn hd))⟩

set_option maxRecDepth 100000 in
set_option maxHeartbeats 4000000 in
theorem do_no (a0 a1 a2 r : Int) (w : World) (hr : alu_Reg.f a0 = some (r, false)) : Calls Try.prog 31 #[.int .u8 a0, .int .u64 a1, .int .u64 a2] w fun e w' => e = .returned (.tuple #[.int .u64 0, .bool false]) ∧ Below w.heap.size w w' := by
  have Hr := hid (fun w => alu_Reg.calls a0 r false w hr)
  clear hr
  go_enter Try.func31, Try.ntmps31
  go_wp2_with (go_at_call 30; refine (Hr.out _).mono ?_; rintro e w1 ⟨rfl, hb⟩)
  go_ret2
  exact ⟨rfl, hb⟩
theorem alu_Do.calls (a0 a1 a2 : Int) (r1 : Int) (r2 : Bool) (w : World) (h : alu_Do.f a0 a1 a2 = some (r1, r2)) : Calls Try.prog 31 #[.int .u8 a0, .int .u64 a1, .int .u64 a2] w fun e w' => e = .returned (.tuple #[.int .u64 r1, .bool r2]) ∧ Below w.heap.size w w' := by
  unfold alu_Do.f at h
  obtain ⟨⟨r, b⟩, hr, h⟩ := Option.bind_eq_some_iff.1 h
  cases b
  · simp only [Bool.false_eq_true, if_false] at h
    cases h
    exact do_no a0 a1 a2 r w hr
  · simp only [if_true] at h
    by_cases e31 : r = 31
    · subst e31
      rw [if_pos rfl] at h
      obtain ⟨v, hv, h⟩ := Option.bind_eq_some_iff.1 h
      cases h
      exact do_add a0 a1 a2 r1 w hr hv
    rw [if_neg e31] at h
    by_cases e32 : r = 32
    · subst e32
      rw [if_pos rfl] at h
      obtain ⟨v, hv, h⟩ := Option.bind_eq_some_iff.1 h
      cases h
      exact do_sub a0 a1 a2 r1 w hr hv
    rw [if_neg e32] at h
    by_cases e36 : r = 36
    · subst e36
      rw [if_pos rfl] at h
      obtain ⟨v, hv, h⟩ := Option.bind_eq_some_iff.1 h
      cases h
      exact do_xor a0 a1 a2 r1 w hr hv
    rw [if_neg e36] at h
    by_cases e39 : r = 39
    · subst e39
      rw [if_pos rfl] at h
      obtain ⟨v, hv, h⟩ := Option.bind_eq_some_iff.1 h
      cases h
      exact do_or a0 a1 a2 r1 w hr hv
    rw [if_neg e39] at h
    by_cases e40 : r = 40
    · subst e40
      rw [if_pos rfl] at h
      obtain ⟨v, hv, h⟩ := Option.bind_eq_some_iff.1 h
      cases h
      exact do_and a0 a1 a2 r1 w hr hv
    rw [if_neg e40] at h
    by_cases e33 : r = 33
    · subst e33
      rw [if_pos rfl] at h
      obtain ⟨v, hv, h⟩ := Option.bind_eq_some_iff.1 h
      cases h
      exact do_sll a0 a1 a2 r1 w hr hv
    rw [if_neg e33] at h
    by_cases e37 : r = 37
    · subst e37
      rw [if_pos rfl] at h
      obtain ⟨v, hv, h⟩ := Option.bind_eq_some_iff.1 h
      cases h
      exact do_srl a0 a1 a2 r1 w hr hv
    rw [if_neg e37] at h
    by_cases e38 : r = 38
    · subst e38
      rw [if_pos rfl] at h
      obtain ⟨v, hv, h⟩ := Option.bind_eq_some_iff.1 h
      cases h
      exact do_sra a0 a1 a2 r1 w hr hv
    rw [if_neg e38] at h
    by_cases e34 : r = 34
    · subst e34
      rw [if_pos rfl] at h
      obtain ⟨v, hv, h⟩ := Option.bind_eq_some_iff.1 h
      cases h
      exact do_slt a0 a1 a2 r1 w hr hv
    rw [if_neg e34] at h
    by_cases e35 : r = 35
    · subst e35
      rw [if_pos rfl] at h
      obtain ⟨v, hv, h⟩ := Option.bind_eq_some_iff.1 h
      cases h
      exact do_sltu a0 a1 a2 r1 w hr hv
    rw [if_neg e35] at h
    by_cases e45 : r = 45
    · subst e45
      rw [if_pos rfl] at h
      obtain ⟨v, hv, h⟩ := Option.bind_eq_some_iff.1 h
      cases h
      exact do_addw a0 a1 a2 r1 w hr hv
    rw [if_neg e45] at h
    by_cases e46 : r = 46
    · subst e46
      rw [if_pos rfl] at h
      obtain ⟨v, hv, h⟩ := Option.bind_eq_some_iff.1 h
      cases h
      exact do_subw a0 a1 a2 r1 w hr hv
    rw [if_neg e46] at h
    by_cases e47 : r = 47
    · subst e47
      rw [if_pos rfl] at h
      obtain ⟨v, hv, h⟩ := Option.bind_eq_some_iff.1 h
      cases h
      exact do_sllw a0 a1 a2 r1 w hr hv
    rw [if_neg e47] at h
    by_cases e48 : r = 48
    · subst e48
      rw [if_pos rfl] at h
      obtain ⟨v, hv, h⟩ := Option.bind_eq_some_iff.1 h
      cases h
      exact do_srlw a0 a1 a2 r1 w hr hv
    rw [if_neg e48] at h
    by_cases e49 : r = 49
    · subst e49
      rw [if_pos rfl] at h
      obtain ⟨v, hv, h⟩ := Option.bind_eq_some_iff.1 h
      cases h
      exact do_sraw a0 a1 a2 r1 w hr hv
    rw [if_neg e49] at h
    by_cases e54 : r = 54
    · subst e54
      rw [if_pos rfl] at h
      obtain ⟨v, hv, h⟩ := Option.bind_eq_some_iff.1 h
      cases h
      exact do_mul a0 a1 a2 r1 w hr hv
    rw [if_neg e54] at h
    by_cases e55 : r = 55
    · subst e55
      rw [if_pos rfl] at h
      obtain ⟨v, hv, h⟩ := Option.bind_eq_some_iff.1 h
      cases h
      exact do_mulh a0 a1 a2 r1 w hr hv
    rw [if_neg e55] at h
    by_cases e56 : r = 56
    · subst e56
      rw [if_pos rfl] at h
      obtain ⟨v, hv, h⟩ := Option.bind_eq_some_iff.1 h
      cases h
      exact do_mulhsu a0 a1 a2 r1 w hr hv
    rw [if_neg e56] at h
    by_cases e57 : r = 57
    · subst e57
      rw [if_pos rfl] at h
      obtain ⟨v, hv, h⟩ := Option.bind_eq_some_iff.1 h
      cases h
      exact do_mulhu a0 a1 a2 r1 w hr hv
    rw [if_neg e57] at h
    by_cases e58 : r = 58
    · subst e58
      rw [if_pos rfl] at h
      obtain ⟨v, hv, h⟩ := Option.bind_eq_some_iff.1 h
      cases h
      exact do_div a0 a1 a2 r1 w hr hv
    rw [if_neg e58] at h
    by_cases e59 : r = 59
    · subst e59
      rw [if_pos rfl] at h
      obtain ⟨v, hv, h⟩ := Option.bind_eq_some_iff.1 h
      cases h
      exact do_divu a0 a1 a2 r1 w hr hv
    rw [if_neg e59] at h
    by_cases e60 : r = 60
    · subst e60
      rw [if_pos rfl] at h
      obtain ⟨v, hv, h⟩ := Option.bind_eq_some_iff.1 h
      cases h
      exact do_rem a0 a1 a2 r1 w hr hv
    rw [if_neg e60] at h
    by_cases e61 : r = 61
    · subst e61
      rw [if_pos rfl] at h
      obtain ⟨v, hv, h⟩ := Option.bind_eq_some_iff.1 h
      cases h
      exact do_remu a0 a1 a2 r1 w hr hv
    rw [if_neg e61] at h
    by_cases e62 : r = 62
    · subst e62
      rw [if_pos rfl] at h
      obtain ⟨v, hv, h⟩ := Option.bind_eq_some_iff.1 h
      cases h
      exact do_mulw a0 a1 a2 r1 w hr hv
    rw [if_neg e62] at h
    by_cases e63 : r = 63
    · subst e63
      rw [if_pos rfl] at h
      obtain ⟨v, hv, h⟩ := Option.bind_eq_some_iff.1 h
      cases h
      exact do_divw a0 a1 a2 r1 w hr hv
    rw [if_neg e63] at h
    by_cases e64 : r = 64
    · subst e64
      rw [if_pos rfl] at h
      obtain ⟨v, hv, h⟩ := Option.bind_eq_some_iff.1 h
      cases h
      exact do_divuw a0 a1 a2 r1 w hr hv
    rw [if_neg e64] at h
    by_cases e65 : r = 65
    · subst e65
      rw [if_pos rfl] at h
      obtain ⟨v, hv, h⟩ := Option.bind_eq_some_iff.1 h
      cases h
      exact do_remw a0 a1 a2 r1 w hr hv
    rw [if_neg e65] at h
    by_cases e66 : r = 66
    · subst e66
      rw [if_pos rfl] at h
      obtain ⟨v, hv, h⟩ := Option.bind_eq_some_iff.1 h
      cases h
      exact do_remuw a0 a1 a2 r1 w hr hv
    rw [if_neg e66] at h
    cases h
end Go.Proofs.Ytajbfnihgonppaa.PA
