/- Contract of Decode. -/
import Derived.Test.YtogdifjdlkpehaaHDec1
import Derived.Test.YtogdifjdlkpehaaHDec2
import Derived.Test.YtogdifjdlkpehaaHDec3
namespace Go.Proofs.Ytogdifjdlkpehaa.PA
open Go.RowKit Go.Proofs.YtogdifjdlkpehaaW.PrintWords Go.Proofs.YtogdifjdlkpehaaW.PrintLast Go.Proofs.YtogdifjdlkpehaaW.PrintMore
set_option linter.all false
/-- .. of four bytes -/
def immWT (p : Int) : T7 := if p / 4096 % 8 = 0 then fillT p 41 1 else if p / 4096 % 8 = 1 ∧ p / 33554432 % 128 = 0 then fillT p 42 3 else if p / 4096 % 8 = 5 ∧ p / 33554432 % 128 = 0 then fillT p 43 3 else if p / 4096 % 8 = 5 ∧ p / 33554432 % 128 = 32 then fillT p 44 3 else ill p
theorem immW_ev {p : Int} (hp : P32 p) : inst_parcel_immW.f 3 p = some (immWT p) := by
  have hi : inst_parcel_i.f 3 p 41 = some (fillT p 41 1) := inst_parcel_i.mono p 41 2 _ (i_ev hp 41)
  have e3 := f3_ev hp
  have e7 := f7_ev hp
  have s2 := shift_ev24 hp 42
  have s3 := shift_ev24 hp 43
  have s4 := shift_ev24 hp 44
  have il := ill_ev hp
  unfold immWT
  generalize p / 4096 % 8 = a at *
  generalize p / 33554432 % 128 = b at *
  unfold inst_parcel_immW.f
  rw [e3]
  simp only [Option.bind_some]
  by_cases h0 : a = 0
  · rw [if_pos h0, if_pos h0, hi]; rfl
  · rw [if_neg h0, if_neg h0]
    by_cases h1 : a = 1
    · rw [if_pos h1, e7]
      simp only [Option.bind_some]
      rw [inst_parcel_immW.j0]
      by_cases hb : b = 0
      · rw [if_pos (by simpa using hb), if_pos ⟨h1, hb⟩, s2]; rfl
      · rw [if_neg (by simpa using hb), if_neg (by omega), if_neg (by omega), if_neg (by omega), e3]
        simp only [Option.bind_some]
        rw [if_neg (by omega), inst_parcel_immW.j1, if_neg (by decide), e3]
        simp only [Option.bind_some]
        rw [if_neg (by omega), inst_parcel_immW.j2, if_neg (by decide), il]; rfl
    · rw [if_neg h1, inst_parcel_immW.j0, if_neg (by decide), if_neg (by omega), e3]
      simp only [Option.bind_some]
      by_cases h5 : a = 5
      · rw [if_pos h5, e7]
        simp only [Option.bind_some]
        rw [inst_parcel_immW.j1]
        by_cases hb : b = 0
        · rw [if_pos (by simpa using hb), if_pos ⟨h5, hb⟩, s3]; rfl
        · rw [if_neg (by simpa using hb), if_neg (by omega), e3]
          simp only [Option.bind_some]
          rw [if_pos h5, e7]
          simp only [Option.bind_some]
          rw [inst_parcel_immW.j2]
          by_cases hc : b = 32
          · rw [if_pos (by simpa using hc), if_pos ⟨h5, hc⟩, s4]; rfl
          · rw [if_neg (by simpa using hc), if_neg (by omega), il]; rfl
      · rw [if_neg h5, inst_parcel_immW.j1, if_neg (by decide), if_neg (by omega), if_neg (by omega), e3]
        simp only [Option.bind_some]
        rw [if_neg h5, inst_parcel_immW.j2, if_neg (by decide), il]; rfl
theorem immW_any {p : Int} (hp : P32 p) (w : World) : Calls Try.prog 29 #[.int .u32 p] w fun e w' => e = .returned (.agg (IC (immWT p))) ∧ Fr [] w w' :=
  (inst_parcel_immW.calls 3 p _ _ _ _ _ _ _ w (immW_ev hp)).mono fun _ _ ⟨h1, h2⟩ => ⟨h1, fr_of_below' h2⟩
def jalL : List S50 := [⟨31, 31⟩, ⟨12, 19⟩, ⟨20, 20⟩, ⟨21, 30⟩]
def jalV (p : Int) : Int := sgn 20 (p / 2147483648 % 2 * 524288 + p / 4096 % 256 * 2048 + p / 1048576 % 2 * 1024 + p / 2097152 % 1024) * 2
theorem c_jal {p : Int} (hp : P32 p) (g : Nat) (w : World) (hb : w.heap[g]? = some (.cells #[.int .i64 31, .int .i64 31, .int .i64 12, .int .i64 19, .int .i64 20, .int .i64 20, .int .i64 21, .int .i64 30] 50)) :
    Calls Try.prog 22 #[.int .u32 p, .int .i64 1, .slice (some ⟨g, 0, none⟩) 4 4] w fun e w' => e = .returned (.int .i64 (jalV p)) ∧ Fr [] w w' := by
  refine (inst_parcel_signed.calls 5 p 1 (some ⟨g, 0, none⟩) 4 jalL _ w ⟨rfl, by decide, fun _ => ⟨_, rfl, fun j x hx => ⟨_, rfl, k50_mk w x, fun i u hu => ?_⟩⟩⟩ (by decide) (sg_j hp)).mono fun _ _ ⟨h1, h2⟩ => ⟨h1, fr_of_below' h2⟩
  have key : ∀ (j i : Nat) (x : S50) (u : Value), jalL[j]? = some x → ([.int .i64 x.f0, .int .i64 x.f1] : List Value)[i]? = some u → (#[.int .i64 31, .int .i64 31, .int .i64 12, .int .i64 19, .int .i64 20, .int .i64 20, .int .i64 21, .int .i64 30] : Array Value)[j * 2 + i]? = some u
    | 0, 0, x, u, h, k => by cases h; cases k; rfl
    | 0, 1, x, u, h, k => by cases h; cases k; rfl
    | 1, 0, x, u, h, k => by cases h; cases k; rfl
    | 1, 1, x, u, h, k => by cases h; cases k; rfl
    | 2, 0, x, u, h, k => by cases h; cases k; rfl
    | 2, 1, x, u, h, k => by cases h; cases k; rfl
    | 3, 0, x, u, h, k => by cases h; cases k; rfl
    | 3, 1, x, u, h, k => by cases h; cases k; rfl
    | j + 4, i, x, u, h, k => by cases h
    | 0, i + 2, x, u, h, k => by cases k
    | 1, i + 2, x, u, h, k => by cases k
    | 2, i + 2, x, u, h, k => by cases k
    | 3, i + 2, x, u, h, k => by cases k
  rw [show k50.sz = 2 from rfl]
  simp only [Addr.add, Nat.zero_add]
  have hkey := key j i x u hx hu
  by_cases hz : j * 2 + i = 0
  · rw [if_pos hz, blk_cell hb]
    rw [hz] at hkey
    exact hkey
  · rw [if_neg hz, blk_cell hb]
    exact hkey
end Go.Proofs.Ytogdifjdlkpehaa.PA
