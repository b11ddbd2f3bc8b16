/- The reference's Decode is the program's: opcode by opcode. -/
import Derived.Test.YtogdifjdlkpehaaDecEq
namespace Go.Proofs.Ytogdifjdlkpehaa.PA
open Go.RowKit
set_option linter.all false
theorem f3_cases (p : Int) : p / 4096 % 8 = 0 ∨ p / 4096 % 8 = 1 ∨ p / 4096 % 8 = 2 ∨ p / 4096 % 8 = 3 ∨ p / 4096 % 8 = 4 ∨ p / 4096 % 8 = 5 ∨ p / 4096 % 8 = 6 ∨ p / 4096 % 8 = 7 := by omega
def rF (p : Int) (o : Option R4) : T7 := match o with | some r => fillT p r.1 r.2.1 | none => ill p
theorem rF_some (p : Int) (r : R4) : rF p (some r) = fillT p r.1 r.2.1 := rfl
theorem rF_none (p : Int) : rF p none = ill p := rfl
theorem ref_rF {p : Int} (hp : P32 p) : refT p = rF p (rowOf p) := ref_row hp
theorem find_yes {α : Type} {q : α → Bool} {x : α} {l : List α} (h : q x = true) : (x :: l).find? q = some x := by rw [List.find?_cons, h]
theorem find_no {α : Type} {q : α → Bool} {x : α} {l : List α} (h : q x = false) : (x :: l).find? q = l.find? q := by rw [List.find?_cons, h]
theorem rows_55 {p : Int} (hv : p % 128 = 55) : rowOf p = ([(1, 6, 127, 55)] : List R4).find? (meetsF p) := by
  unfold rowOf
  rw [hv, show (rowsL.filter fun r => r.2.2.2 % 128 == 55) = [(1, 6, 127, 55)] by decide +kernel]
theorem dec_55_is {p : Int} (hv : p % 128 = 55) : decT p = fillT p 1 6 := by unfold decT; rw [hv]; rfl
theorem rows_23 {p : Int} (hv : p % 128 = 23) : rowOf p = ([(2, 6, 127, 23)] : List R4).find? (meetsF p) := by
  unfold rowOf
  rw [hv, show (rowsL.filter fun r => r.2.2.2 % 128 == 23) = [(2, 6, 127, 23)] by decide +kernel]
theorem dec_23_is {p : Int} (hv : p % 128 = 23) : decT p = fillT p 2 6 := by unfold decT; rw [hv]; rfl
theorem rows_111 {p : Int} (hv : p % 128 = 111) : rowOf p = ([(3, 7, 127, 111)] : List R4).find? (meetsF p) := by
  unfold rowOf
  rw [hv, show (rowsL.filter fun r => r.2.2.2 % 128 == 111) = [(3, 7, 127, 111)] by decide +kernel]
theorem dec_111_is {p : Int} (hv : p % 128 = 111) : decT p = (3, p / 128 % 32, 0, 0, jalV p, 0, 4) := by unfold decT; rw [hv]; rfl
theorem rows_103 {p : Int} (hv : p % 128 = 103) : rowOf p = ([(4, 1, 28799, 103)] : List R4).find? (meetsF p) := by
  unfold rowOf
  rw [hv, show (rowsL.filter fun r => r.2.2.2 % 128 == 103) = [(4, 1, 28799, 103)] by decide +kernel]
theorem dec_103_is {p : Int} (hv : p % 128 = 103) : decT p = pickT [4] (p / 4096 % 8) (fun op => fillT p op 1) p := by unfold decT; rw [hv]; rfl
theorem rows_99 {p : Int} (hv : p % 128 = 99) : rowOf p = ([(5, 5, 28799, 99), (6, 5, 28799, 4195), (7, 5, 28799, 16483), (8, 5, 28799, 20579), (9, 5, 28799, 24675), (10, 5, 28799, 28771)] : List R4).find? (meetsF p) := by
  unfold rowOf
  rw [hv, show (rowsL.filter fun r => r.2.2.2 % 128 == 99) = [(5, 5, 28799, 99), (6, 5, 28799, 4195), (7, 5, 28799, 16483), (8, 5, 28799, 20579), (9, 5, 28799, 24675), (10, 5, 28799, 28771)] by decide +kernel]
theorem dec_99_is {p : Int} (hv : p % 128 = 99) : decT p = pickT [5, 6, 0, 0, 7, 8, 9, 10] (p / 4096 % 8) (fun op => fillT p op 5) p := by unfold decT; rw [hv]; rfl
theorem rows_3 {p : Int} (hv : p % 128 = 3) : rowOf p = ([(11, 1, 28799, 3), (12, 1, 28799, 4099), (13, 1, 28799, 8195), (14, 1, 28799, 12291), (15, 1, 28799, 16387), (16, 1, 28799, 20483), (17, 1, 28799, 24579)] : List R4).find? (meetsF p) := by
  unfold rowOf
  rw [hv, show (rowsL.filter fun r => r.2.2.2 % 128 == 3) = [(11, 1, 28799, 3), (12, 1, 28799, 4099), (13, 1, 28799, 8195), (14, 1, 28799, 12291), (15, 1, 28799, 16387), (16, 1, 28799, 20483), (17, 1, 28799, 24579)] by decide +kernel]
theorem dec_3_is {p : Int} (hv : p % 128 = 3) : decT p = pickT [11, 12, 13, 14, 15, 16, 17] (p / 4096 % 8) (fun op => fillT p op 1) p := by unfold decT; rw [hv]; rfl
theorem rows_35 {p : Int} (hv : p % 128 = 35) : rowOf p = ([(18, 4, 28799, 35), (19, 4, 28799, 4131), (20, 4, 28799, 8227), (21, 4, 28799, 12323)] : List R4).find? (meetsF p) := by
  unfold rowOf
  rw [hv, show (rowsL.filter fun r => r.2.2.2 % 128 == 35) = [(18, 4, 28799, 35), (19, 4, 28799, 4131), (20, 4, 28799, 8227), (21, 4, 28799, 12323)] by decide +kernel]
theorem dec_35_is {p : Int} (hv : p % 128 = 35) : decT p = pickT [18, 19, 20, 21] (p / 4096 % 8) (fun op => fillT p op 4) p := by unfold decT; rw [hv]; rfl
theorem rows_19 {p : Int} (hv : p % 128 = 19) : rowOf p = ([(22, 1, 28799, 19), (23, 1, 28799, 8211), (24, 1, 28799, 12307), (25, 1, 28799, 16403), (26, 1, 28799, 24595), (27, 1, 28799, 28691), (28, 2, 4227887231, 4115), (29, 2, 4227887231, 20499), (30, 2, 4227887231, 1073762323)] : List R4).find? (meetsF p) := by
  unfold rowOf
  rw [hv, show (rowsL.filter fun r => r.2.2.2 % 128 == 19) = [(22, 1, 28799, 19), (23, 1, 28799, 8211), (24, 1, 28799, 12307), (25, 1, 28799, 16403), (26, 1, 28799, 24595), (27, 1, 28799, 28691), (28, 2, 4227887231, 4115), (29, 2, 4227887231, 20499), (30, 2, 4227887231, 1073762323)] by decide +kernel]
theorem dec_19_is {p : Int} (hv : p % 128 = 19) : decT p = immT p := by unfold decT; rw [hv]; rfl
theorem rows_51 {p : Int} (hv : p % 128 = 51) : rowOf p = ([(31, 0, 4261441663, 51), (33, 0, 4261441663, 4147), (34, 0, 4261441663, 8243), (35, 0, 4261441663, 12339), (36, 0, 4261441663, 16435), (37, 0, 4261441663, 20531), (39, 0, 4261441663, 24627), (40, 0, 4261441663, 28723), (32, 0, 4261441663, 1073741875), (38, 0, 4261441663, 1073762355), (54, 0, 4261441663, 33554483), (55, 0, 4261441663, 33558579), (56, 0, 4261441663, 33562675), (57, 0, 4261441663, 33566771), (58, 0, 4261441663, 33570867), (59, 0, 4261441663, 33574963), (60, 0, 4261441663, 33579059), (61, 0, 4261441663, 33583155)] : List R4).find? (meetsF p) := by
  unfold rowOf
  rw [hv, show (rowsL.filter fun r => r.2.2.2 % 128 == 51) = [(31, 0, 4261441663, 51), (33, 0, 4261441663, 4147), (34, 0, 4261441663, 8243), (35, 0, 4261441663, 12339), (36, 0, 4261441663, 16435), (37, 0, 4261441663, 20531), (39, 0, 4261441663, 24627), (40, 0, 4261441663, 28723), (32, 0, 4261441663, 1073741875), (38, 0, 4261441663, 1073762355), (54, 0, 4261441663, 33554483), (55, 0, 4261441663, 33558579), (56, 0, 4261441663, 33562675), (57, 0, 4261441663, 33566771), (58, 0, 4261441663, 33570867), (59, 0, 4261441663, 33574963), (60, 0, 4261441663, 33579059), (61, 0, 4261441663, 33583155)] by decide +kernel]
theorem dec_51_is {p : Int} (hv : p % 128 = 51) : decT p = by7T [31, 33, 34, 35, 36, 37, 39, 40] [54, 55, 56, 57, 58, 59, 60, 61] [32, 0, 0, 0, 0, 38] p := by unfold decT; rw [hv]; rfl
theorem rows_27 {p : Int} (hv : p % 128 = 27) : rowOf p = ([(41, 1, 28799, 27), (42, 3, 4261441663, 4123), (43, 3, 4261441663, 20507), (44, 3, 4261441663, 1073762331)] : List R4).find? (meetsF p) := by
  unfold rowOf
  rw [hv, show (rowsL.filter fun r => r.2.2.2 % 128 == 27) = [(41, 1, 28799, 27), (42, 3, 4261441663, 4123), (43, 3, 4261441663, 20507), (44, 3, 4261441663, 1073762331)] by decide +kernel]
theorem dec_27_is {p : Int} (hv : p % 128 = 27) : decT p = immWT p := by unfold decT; rw [hv]; rfl
theorem rows_59 {p : Int} (hv : p % 128 = 59) : rowOf p = ([(45, 0, 4261441663, 59), (47, 0, 4261441663, 4155), (48, 0, 4261441663, 20539), (46, 0, 4261441663, 1073741883), (49, 0, 4261441663, 1073762363), (62, 0, 4261441663, 33554491), (63, 0, 4261441663, 33570875), (64, 0, 4261441663, 33574971), (65, 0, 4261441663, 33579067), (66, 0, 4261441663, 33583163)] : List R4).find? (meetsF p) := by
  unfold rowOf
  rw [hv, show (rowsL.filter fun r => r.2.2.2 % 128 == 59) = [(45, 0, 4261441663, 59), (47, 0, 4261441663, 4155), (48, 0, 4261441663, 20539), (46, 0, 4261441663, 1073741883), (49, 0, 4261441663, 1073762363), (62, 0, 4261441663, 33554491), (63, 0, 4261441663, 33570875), (64, 0, 4261441663, 33574971), (65, 0, 4261441663, 33579067), (66, 0, 4261441663, 33583163)] by decide +kernel]
theorem dec_59_is {p : Int} (hv : p % 128 = 59) : decT p = by7T [45, 47, 0, 0, 0, 48] [62, 0, 0, 0, 63, 64, 65, 66] [46, 0, 0, 0, 0, 49] p := by unfold decT; rw [hv]; rfl
theorem rows_15 {p : Int} (hv : p % 128 = 15) : rowOf p = ([(50, 10, 28799, 15), (51, 10, 28799, 4111)] : List R4).find? (meetsF p) := by
  unfold rowOf
  rw [hv, show (rowsL.filter fun r => r.2.2.2 % 128 == 15) = [(50, 10, 28799, 15), (51, 10, 28799, 4111)] by decide +kernel]
theorem dec_15_is {p : Int} (hv : p % 128 = 15) : decT p = pickT [50, 51] (p / 4096 % 8) (fun op => fillT p op 10) p := by unfold decT; rw [hv]; rfl
theorem rows_115 {p : Int} (hv : p % 128 = 115) : rowOf p = ([(89, 8, 28799, 4211), (90, 8, 28799, 8307), (91, 8, 28799, 12403), (92, 9, 28799, 20595), (93, 9, 28799, 24691), (94, 9, 28799, 28787), (98, 11, 4261445631, 301990003), (52, 10, 4294967295, 115), (53, 10, 4294967295, 1048691), (96, 10, 4294967295, 270532723), (97, 10, 4294967295, 273678451), (95, 10, 4294967295, 807403635)] : List R4).find? (meetsF p) := by
  unfold rowOf
  rw [hv, show (rowsL.filter fun r => r.2.2.2 % 128 == 115) = [(89, 8, 28799, 4211), (90, 8, 28799, 8307), (91, 8, 28799, 12403), (92, 9, 28799, 20595), (93, 9, 28799, 24691), (94, 9, 28799, 28787), (98, 11, 4261445631, 301990003), (52, 10, 4294967295, 115), (53, 10, 4294967295, 1048691), (96, 10, 4294967295, 270532723), (97, 10, 4294967295, 273678451), (95, 10, 4294967295, 807403635)] by decide +kernel]
theorem dec_115_is {p : Int} (hv : p % 128 = 115) : decT p = sysT p := by unfold decT; rw [hv]; rfl
theorem rows_47 {p : Int} (hv : p % 128 = 47) : rowOf p = ([(67, 0, 4193284223, 268443695), (68, 0, 4160778367, 402661423), (69, 0, 4160778367, 134225967), (70, 0, 4160778367, 8239), (71, 0, 4160778367, 536879151), (72, 0, 4160778367, 1610620975), (73, 0, 4160778367, 1073750063), (74, 0, 4160778367, 2147491887), (75, 0, 4160778367, 2684362799), (76, 0, 4160778367, 3221233711), (77, 0, 4160778367, 3758104623), (78, 0, 4193284223, 268447791), (79, 0, 4160778367, 402665519), (80, 0, 4160778367, 134230063), (81, 0, 4160778367, 12335), (82, 0, 4160778367, 536883247), (83, 0, 4160778367, 1610625071), (84, 0, 4160778367, 1073754159), (85, 0, 4160778367, 2147495983), (86, 0, 4160778367, 2684366895), (87, 0, 4160778367, 3221237807), (88, 0, 4160778367, 3758108719)] : List R4).find? (meetsF p) := by
  unfold rowOf
  rw [hv, show (rowsL.filter fun r => r.2.2.2 % 128 == 47) = [(67, 0, 4193284223, 268443695), (68, 0, 4160778367, 402661423), (69, 0, 4160778367, 134225967), (70, 0, 4160778367, 8239), (71, 0, 4160778367, 536879151), (72, 0, 4160778367, 1610620975), (73, 0, 4160778367, 1073750063), (74, 0, 4160778367, 2147491887), (75, 0, 4160778367, 2684362799), (76, 0, 4160778367, 3221233711), (77, 0, 4160778367, 3758104623), (78, 0, 4193284223, 268447791), (79, 0, 4160778367, 402665519), (80, 0, 4160778367, 134230063), (81, 0, 4160778367, 12335), (82, 0, 4160778367, 536883247), (83, 0, 4160778367, 1610625071), (84, 0, 4160778367, 1073754159), (85, 0, 4160778367, 2147495983), (86, 0, 4160778367, 2684366895), (87, 0, 4160778367, 3221237807), (88, 0, 4160778367, 3758108719)] by decide +kernel]
theorem dec_47_is {p : Int} (hv : p % 128 = 47) : decT p = amoT p := by unfold decT; rw [hv]; rfl
set_option maxHeartbeats 4000000 in
theorem eq_55 {p : Int} (hp : P32 p) (hv : p % 128 = 55) : refT p = decT p := by
  rw [ref_rF hp, rows_55 hv, dec_55_is hv]
  simp [meetsF, rF, hv]
set_option maxHeartbeats 4000000 in
theorem eq_23 {p : Int} (hp : P32 p) (hv : p % 128 = 23) : refT p = decT p := by
  rw [ref_rF hp, rows_23 hv, dec_23_is hv]
  simp [meetsF, rF, hv]
set_option maxHeartbeats 4000000 in
theorem eq_111 {p : Int} (hp : P32 p) (hv : p % 128 = 111) : refT p = decT p := by
  rw [ref_rF hp, rows_111 hv, dec_111_is hv]
  simp [meetsF, rF, hv]; rfl
set_option maxHeartbeats 4000000 in
theorem eq_103 {p : Int} (hp : P32 p) (hv : p % 128 = 103) : refT p = decT p := by
  rw [ref_rF hp, rows_103 hv, dec_103_is hv]
  rcases f3_cases p with h | h | h | h | h | h | h | h <;> simp [meetsF, rF, hv, h, pickT]
set_option maxHeartbeats 4000000 in
theorem eq_99 {p : Int} (hp : P32 p) (hv : p % 128 = 99) : refT p = decT p := by
  rw [ref_rF hp, rows_99 hv, dec_99_is hv]
  rcases f3_cases p with h | h | h | h | h | h | h | h <;> simp [meetsF, rF, hv, h, pickT]
set_option maxHeartbeats 4000000 in
theorem eq_3 {p : Int} (hp : P32 p) (hv : p % 128 = 3) : refT p = decT p := by
  rw [ref_rF hp, rows_3 hv, dec_3_is hv]
  rcases f3_cases p with h | h | h | h | h | h | h | h <;> simp [meetsF, rF, hv, h, pickT]
set_option maxHeartbeats 4000000 in
theorem eq_35 {p : Int} (hp : P32 p) (hv : p % 128 = 35) : refT p = decT p := by
  rw [ref_rF hp, rows_35 hv, dec_35_is hv]
  rcases f3_cases p with h | h | h | h | h | h | h | h <;> simp [meetsF, rF, hv, h, pickT]
set_option maxHeartbeats 4000000 in
theorem eq_15 {p : Int} (hp : P32 p) (hv : p % 128 = 15) : refT p = decT p := by
  rw [ref_rF hp, rows_15 hv, dec_15_is hv]
  rcases f3_cases p with h | h | h | h | h | h | h | h <;> simp [meetsF, rF, hv, h, pickT]
set_option maxHeartbeats 4000000 in
theorem eq_19 {p : Int} (hp : P32 p) (hv : p % 128 = 19) : refT p = decT p := by
  rw [ref_rF hp, rows_19 hv, dec_19_is hv]
  unfold immT
  by_cases h0 : p / 67108864 % 64 = 0
  · rcases f3_cases p with h | h | h | h | h | h | h | h <;> simp [meetsF, rF, hv, h, h0, pickT]
  · by_cases h1 : p / 67108864 % 64 = 16
    · rcases f3_cases p with h | h | h | h | h | h | h | h <;> simp [meetsF, rF, hv, h, h1, pickT]
    · rcases f3_cases p with h | h | h | h | h | h | h | h <;> simp [meetsF, rF, hv, h, h0, h1, pickT]
set_option maxHeartbeats 4000000 in
theorem eq_27 {p : Int} (hp : P32 p) (hv : p % 128 = 27) : refT p = decT p := by
  rw [ref_rF hp, rows_27 hv, dec_27_is hv]
  unfold immWT
  by_cases h0 : p / 33554432 % 128 = 0
  · rcases f3_cases p with h | h | h | h | h | h | h | h <;> simp [meetsF, rF, hv, h, h0, pickT]
  · by_cases h1 : p / 33554432 % 128 = 32
    · rcases f3_cases p with h | h | h | h | h | h | h | h <;> simp [meetsF, rF, hv, h, h1, pickT]
    · rcases f3_cases p with h | h | h | h | h | h | h | h <;> simp [meetsF, rF, hv, h, h0, h1, pickT]
set_option maxHeartbeats 4000000 in
theorem eq_51 {p : Int} (hp : P32 p) (hv : p % 128 = 51) : refT p = decT p := by
  rw [ref_rF hp, rows_51 hv, dec_51_is hv]
  unfold by7T
  by_cases h0 : p / 33554432 % 128 = 0
  · rcases f3_cases p with h | h | h | h | h | h | h | h <;> simp [meetsF, rF, hv, h, h0, pickT]
  · by_cases h1 : p / 33554432 % 128 = 1
    · rcases f3_cases p with h | h | h | h | h | h | h | h <;> simp [meetsF, rF, hv, h, h1, pickT]
    · by_cases h2 : p / 33554432 % 128 = 32
      · rcases f3_cases p with h | h | h | h | h | h | h | h <;> simp [meetsF, rF, hv, h, h2, pickT]
      · rcases f3_cases p with h | h | h | h | h | h | h | h <;> simp [meetsF, rF, hv, h, h0, h1, h2, pickT]
set_option maxHeartbeats 4000000 in
theorem eq_59 {p : Int} (hp : P32 p) (hv : p % 128 = 59) : refT p = decT p := by
  rw [ref_rF hp, rows_59 hv, dec_59_is hv]
  unfold by7T
  by_cases h0 : p / 33554432 % 128 = 0
  · rcases f3_cases p with h | h | h | h | h | h | h | h <;> simp [meetsF, rF, hv, h, h0, pickT]
  · by_cases h1 : p / 33554432 % 128 = 1
    · rcases f3_cases p with h | h | h | h | h | h | h | h <;> simp [meetsF, rF, hv, h, h1, pickT]
    · by_cases h2 : p / 33554432 % 128 = 32
      · rcases f3_cases p with h | h | h | h | h | h | h | h <;> simp [meetsF, rF, hv, h, h2, pickT]
      · rcases f3_cases p with h | h | h | h | h | h | h | h <;> simp [meetsF, rF, hv, h, h0, h1, h2, pickT]
set_option maxHeartbeats 4000000 in
theorem eq_115 {p : Int} (hp : P32 p) (hv : p % 128 = 115) : refT p = decT p := by
  rw [ref_rF hp, rows_115 hv, dec_115_is hv]
  unfold sysT
  have hs : sysS p = if p = 115 then (52, 0, 0, 0, 0, 0, 4) else if p = 1048691 then (53, 0, 0, 0, 0, 0, 4) else if p = 270532723 then (96, 0, 0, 0, 0, 0, 4) else if p = 273678451 then (97, 0, 0, 0, 0, 0, 4) else if p = 807403635 then (95, 0, 0, 0, 0, 0, 4) else ill p := by
    unfold sysS sysR
    by_cases a1 : p = 115
    · subst a1; rfl
    by_cases a2 : p = 1048691
    · subst a2; rfl
    by_cases a3 : p = 270532723
    · subst a3; rfl
    by_cases a4 : p = 273678451
    · subst a4; rfl
    by_cases a5 : p = 807403635
    · subst a5; rfl
    simp [a1, a2, a3, a4, a5, Ne.symm a1, Ne.symm a2, Ne.symm a3, Ne.symm a4, Ne.symm a5]
  rcases f3_cases p with h | h | h | h | h | h | h | h
  · simp only [h, if_pos]
    rw [hs]
    by_cases h7 : p / 33554432 % 128 = 9 ∧ p / 128 % 32 = 0
    · rw [if_pos h7]
      simp [meetsF, rF, hv, h, h7.1, h7.2, fillT]
    · rw [if_neg h7]
      by_cases a1 : p = 115
      · subst a1; decide +kernel
      by_cases a2 : p = 1048691
      · subst a2; decide +kernel
      by_cases a3 : p = 270532723
      · subst a3; decide +kernel
      by_cases a4 : p = 273678451
      · subst a4; decide +kernel
      by_cases a5 : p = 807403635
      · subst a5; decide +kernel
      have h7' : ¬ (p / 128 % 32 = 0 ∧ p / 33554432 % 128 = 9) := fun e => h7 ⟨e.2, e.1⟩
      simp [meetsF, rF, hv, h, h7', a1, a2, a3, a4, a5]
  all_goals
    have n1 : p ≠ 115 := by intro e; subst e; omega
    have n2 : p ≠ 1048691 := by intro e; subst e; omega
    have n3 : p ≠ 270532723 := by intro e; subst e; omega
    have n4 : p ≠ 273678451 := by intro e; subst e; omega
    have n5 : p ≠ 807403635 := by intro e; subst e; omega
    simp [meetsF, rF, hv, h, pickT, fillT, ill, n1, n2, n3, n4, n5]
theorem f5_cases (p : Int) : p / 134217728 % 32 = 0 ∨ p / 134217728 % 32 = 1 ∨ p / 134217728 % 32 = 2 ∨ p / 134217728 % 32 = 3 ∨ p / 134217728 % 32 = 4 ∨ p / 134217728 % 32 = 5 ∨ p / 134217728 % 32 = 6 ∨ p / 134217728 % 32 = 7 ∨ p / 134217728 % 32 = 8 ∨ p / 134217728 % 32 = 9 ∨ p / 134217728 % 32 = 10 ∨ p / 134217728 % 32 = 11 ∨ p / 134217728 % 32 = 12 ∨ p / 134217728 % 32 = 13 ∨ p / 134217728 % 32 = 14 ∨ p / 134217728 % 32 = 15 ∨ p / 134217728 % 32 = 16 ∨ p / 134217728 % 32 = 17 ∨ p / 134217728 % 32 = 18 ∨ p / 134217728 % 32 = 19 ∨ p / 134217728 % 32 = 20 ∨ p / 134217728 % 32 = 21 ∨ p / 134217728 % 32 = 22 ∨ p / 134217728 % 32 = 23 ∨ p / 134217728 % 32 = 24 ∨ p / 134217728 % 32 = 25 ∨ p / 134217728 % 32 = 26 ∨ p / 134217728 % 32 = 27 ∨ p / 134217728 % 32 = 28 ∨ p / 134217728 % 32 = 29 ∨ p / 134217728 % 32 = 30 ∨ p / 134217728 % 32 = 31 := by omega
set_option maxHeartbeats 4000000 in
theorem eq_47_2z {p : Int} (hp : P32 p) (hv : p % 128 = 47) (h : p / 4096 % 8 = 2) (hz : p / 1048576 % 32 = 0) : refT p = decT p := by
  rw [ref_rF hp, rows_47 hv, dec_47_is hv]
  unfold amoT
  rcases f5_cases p with e | e | e | e | e | e | e | e | e | e | e | e | e | e | e | e | e | e | e | e | e | e | e | e | e | e | e | e | e | e | e | e <;> simp [meetsF, rF, hv, h, hz, e, pickT, fillT, ill]
set_option maxHeartbeats 4000000 in
theorem eq_47_2n {p : Int} (hp : P32 p) (hv : p % 128 = 47) (h : p / 4096 % 8 = 2) (hz : ¬ p / 1048576 % 32 = 0) : refT p = decT p := by
  rw [ref_rF hp, rows_47 hv, dec_47_is hv]
  unfold amoT
  rcases f5_cases p with e | e | e | e | e | e | e | e | e | e | e | e | e | e | e | e | e | e | e | e | e | e | e | e | e | e | e | e | e | e | e | e <;> simp [meetsF, rF, hv, h, hz, e, pickT, fillT, ill]
set_option maxHeartbeats 4000000 in
theorem eq_47_3z {p : Int} (hp : P32 p) (hv : p % 128 = 47) (h : p / 4096 % 8 = 3) (hz : p / 1048576 % 32 = 0) : refT p = decT p := by
  rw [ref_rF hp, rows_47 hv, dec_47_is hv]
  unfold amoT
  rcases f5_cases p with e | e | e | e | e | e | e | e | e | e | e | e | e | e | e | e | e | e | e | e | e | e | e | e | e | e | e | e | e | e | e | e <;> simp [meetsF, rF, hv, h, hz, e, pickT, fillT, ill]
set_option maxHeartbeats 4000000 in
theorem eq_47_3n {p : Int} (hp : P32 p) (hv : p % 128 = 47) (h : p / 4096 % 8 = 3) (hz : ¬ p / 1048576 % 32 = 0) : refT p = decT p := by
  rw [ref_rF hp, rows_47 hv, dec_47_is hv]
  unfold amoT
  rcases f5_cases p with e | e | e | e | e | e | e | e | e | e | e | e | e | e | e | e | e | e | e | e | e | e | e | e | e | e | e | e | e | e | e | e <;> simp [meetsF, rF, hv, h, hz, e, pickT, fillT, ill]
set_option maxHeartbeats 4000000 in
theorem eq_47 {p : Int} (hp : P32 p) (hv : p % 128 = 47) : refT p = decT p := by
  rw [ref_rF hp, rows_47 hv, dec_47_is hv]
  by_cases h2 : p / 4096 % 8 = 2
  · by_cases hz : p / 1048576 % 32 = 0
    · rw [← dec_47_is hv, ← rows_47 hv, ← ref_rF hp]; exact eq_47_2z hp hv h2 hz
    · rw [← dec_47_is hv, ← rows_47 hv, ← ref_rF hp]; exact eq_47_2n hp hv h2 hz
  by_cases h3 : p / 4096 % 8 = 3
  · by_cases hz : p / 1048576 % 32 = 0
    · rw [← dec_47_is hv, ← rows_47 hv, ← ref_rF hp]; exact eq_47_3z hp hv h3 hz
    · rw [← dec_47_is hv, ← rows_47 hv, ← ref_rF hp]; exact eq_47_3n hp hv h3 hz
  simp [meetsF, rF, hv, h2, h3, amoT]
theorem ops_in : ∀ r ∈ rowsL, r.2.2.2 % 128 ∈ ([55, 23, 111, 103, 99, 3, 35, 19, 51, 27, 59, 15, 115, 47] : List Int) := by decide +kernel
theorem ref_dec {p : Int} (hp : P32 p) : refT p = decT p := by
  by_cases e55 : p % 128 = 55
  · exact eq_55 hp e55
  by_cases e23 : p % 128 = 23
  · exact eq_23 hp e23
  by_cases e111 : p % 128 = 111
  · exact eq_111 hp e111
  by_cases e103 : p % 128 = 103
  · exact eq_103 hp e103
  by_cases e99 : p % 128 = 99
  · exact eq_99 hp e99
  by_cases e3 : p % 128 = 3
  · exact eq_3 hp e3
  by_cases e35 : p % 128 = 35
  · exact eq_35 hp e35
  by_cases e19 : p % 128 = 19
  · exact eq_19 hp e19
  by_cases e51 : p % 128 = 51
  · exact eq_51 hp e51
  by_cases e27 : p % 128 = 27
  · exact eq_27 hp e27
  by_cases e59 : p % 128 = 59
  · exact eq_59 hp e59
  by_cases e15 : p % 128 = 15
  · exact eq_15 hp e15
  by_cases e115 : p % 128 = 115
  · exact eq_115 hp e115
  by_cases e47 : p % 128 = 47
  · exact eq_47 hp e47
  have hn : (rowsL.filter fun r => r.2.2.2 % 128 == p % 128) = [] := by
    rw [List.filter_eq_nil_iff]
    intro r hr h
    have h1 := ops_in r hr
    rw [beq_iff_eq] at h
    rw [h] at h1
    simp [e55, e23, e111, e103, e99, e3, e35, e19, e51, e27, e59, e15, e115, e47] at h1
  rw [ref_rF hp, rowOf, hn]
  unfold decT
  simp [rF, e55, e23, e111, e103, e99, e3, e35, e19, e51, e27, e59, e15, e115, e47]
end Go.Proofs.Ytogdifjdlkpehaa.PA
