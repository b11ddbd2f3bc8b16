/- Contract of the reference's list of rows: 98 rows, made at once. -/
import Derived.Test.YtogdifjdlkpehaaK3
import Derived.BigGuard
import Derived.Deep.Cut
namespace Go.Proofs.Ytogdifjdlkpehaa
open Go.RowKit
set_option linter.all false

abbrev R4 := Int × Int × Int × Int
/-- the rows: operation, form, which bits are fixed, as what -/
def rowsL : List R4 := [(1, 6, 127, 55), (2, 6, 127, 23), (3, 7, 127, 111), (4, 1, 28799, 103), (5, 5, 28799, 99), (6, 5, 28799, 4195), (7, 5, 28799, 16483), (8, 5, 28799, 20579), (9, 5, 28799, 24675), (10, 5, 28799, 28771), (11, 1, 28799, 3), (12, 1, 28799, 4099), (13, 1, 28799, 8195), (14, 1, 28799, 12291), (15, 1, 28799, 16387), (16, 1, 28799, 20483), (17, 1, 28799, 24579), (18, 4, 28799, 35), (19, 4, 28799, 4131), (20, 4, 28799, 8227), (21, 4, 28799, 12323), (22, 1, 28799, 19), (23, 1, 28799, 8211), (24, 1, 28799, 12307), (25, 1, 28799, 16403), (26, 1, 28799, 24595), (27, 1, 28799, 28691), (28, 2, 4227887231, 4115), (29, 2, 4227887231, 20499), (30, 2, 4227887231, 1073762323), (31, 0, 4261441663, 51), (33, 0, 4261441663, 4147), (34, 0, 4261441663, 8243), (35, 0, 4261441663, 12339), (36, 0, 4261441663, 16435), (37, 0, 4261441663, 20531), (39, 0, 4261441663, 24627), (40, 0, 4261441663, 28723), (32, 0, 4261441663, 1073741875), (38, 0, 4261441663, 1073762355), (54, 0, 4261441663, 33554483), (55, 0, 4261441663, 33558579), (56, 0, 4261441663, 33562675), (57, 0, 4261441663, 33566771), (58, 0, 4261441663, 33570867), (59, 0, 4261441663, 33574963), (60, 0, 4261441663, 33579059), (61, 0, 4261441663, 33583155), (41, 1, 28799, 27), (42, 3, 4261441663, 4123), (43, 3, 4261441663, 20507), (44, 3, 4261441663, 1073762331), (45, 0, 4261441663, 59), (47, 0, 4261441663, 4155), (48, 0, 4261441663, 20539), (46, 0, 4261441663, 1073741883), (49, 0, 4261441663, 1073762363), (62, 0, 4261441663, 33554491), (63, 0, 4261441663, 33570875), (64, 0, 4261441663, 33574971), (65, 0, 4261441663, 33579067), (66, 0, 4261441663, 33583163), (50, 10, 28799, 15), (51, 10, 28799, 4111), (89, 8, 28799, 4211), (90, 8, 28799, 8307), (91, 8, 28799, 12403), (92, 9, 28799, 20595), (93, 9, 28799, 24691), (94, 9, 28799, 28787), (98, 11, 4261445631, 301990003), (52, 10, 4294967295, 115), (53, 10, 4294967295, 1048691), (96, 10, 4294967295, 270532723), (97, 10, 4294967295, 273678451), (95, 10, 4294967295, 807403635), (67, 0, 4193284223, 268443695), (68, 0, 4160778367, 402661423), (69, 0, 4160778367, 134225967), (70, 0, 4160778367, 8239), (71, 0, 4160778367, 536879151), (72, 0, 4160778367, 1610620975), (73, 0, 4160778367, 1073750063), (74, 0, 4160778367, 2147491887), (75, 0, 4160778367, 2684362799), (76, 0, 4160778367, 3221233711), (77, 0, 4160778367, 3758104623), (78, 0, 4193284223, 268447791), (79, 0, 4160778367, 402665519), (80, 0, 4160778367, 134230063), (81, 0, 4160778367, 12335), (82, 0, 4160778367, 536883247), (83, 0, 4160778367, 1610625071), (84, 0, 4160778367, 1073754159), (85, 0, 4160778367, 2147495983), (86, 0, 4160778367, 2684366895), (87, 0, 4160778367, 3221237807), (88, 0, 4160778367, 3758108719)]
def rowC (r : R4) : List Value := [.int .u8 r.1, .int .i64 r.2.1, .int .u32 r.2.2.1, .int .u32 r.2.2.2]
def rowsC : Array Value := (rowsL.flatMap rowC).toArray
theorem infoR : (Try.prog.info? 58).map (fun i => (i.zero, i.size)) = some (some (.agg #[.int .u8 0, .int .i64 0, .int .u32 0, .int .u32 0]), 4) := by kernel_rfl
theorem infoR' : ∃ i, Try.prog.info? 58 = some i ∧ i.zero = some (.agg #[.int .u8 0, .int .i64 0, .int .u32 0, .int .u32 0]) ∧ i.size = 4 := by
  have h := infoR
  cases e : Try.prog.info? 58 with
  | none => rw [e] at h; cases h
  | some i => rw [e] at h; simp only [Option.map_some, Option.some.injEq, Prod.mk.injEq] at h; exact ⟨i, rfl, h.1, h.2⟩

def frame98 : Act := { tmps := (Value.slice none 0 0 :: (rowsL.map fun r => Value.agg (rowC r).toArray) ++ [undef]).toArray, defers := [] }
def frame99 (g : Nat) : Act := { tmps := (Value.slice (some ⟨g, 0, none⟩) 98 98 :: (rowsL.map fun r => Value.agg (rowC r).toArray) ++ [Value.slice (some ⟨g, 0, none⟩) 98 98]).toArray, defers := [] }
set_option maxRecDepth 100000 in
set_option maxHeartbeats 4000000 in
theorem rows_any (w : World) : Calls Try.prog 36 #[] w fun e w' => e = .returned (.slice (some ⟨w.heap.size, 0, none⟩) 98 98) ∧ w.alloc (.cells rowsC 58) = w' := by
  obtain ⟨ie, hie, hz, hs⟩ := infoR'
  go_enter Try.func36, Try.ntmps36
  go_upto_region 1 with fail
  refine wp_region_list ?_
  refine pures_wp 98 _ frame98 _ rfl (by kernel_rfl) ?_
  refine wpList_buildSlice rfl 55 58 98 _ rfl rowsC ie _ Try.underlying55 hie hz (by rw [hs]; decide) (by rw [hs]; decide) (by rw [hs]; kernel_rfl) ?_
  refine pures_wp 1 _ (frame99 w.heap.size) _ rfl (by kernel_rfl) ?_
  refine wpList_nil ?_
  go_wp2
  refine bodyPost_ret (v := .slice (some ⟨w.heap.size, 0, none⟩) 98 98) (by kernel_rfl) rfl ⟨rfl, rfl⟩
end Go.Proofs.Ytogdifjdlkpehaa
