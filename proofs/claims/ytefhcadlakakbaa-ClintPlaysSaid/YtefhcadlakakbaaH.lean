/- awake, and the walk of the closed law ClintKnown. -/
import Derived.Test.YtefhcadlakakbaaG
import Derived.BigGuard
namespace Go.Proofs.Ytefhcadlakakbaa
open Go.RowKit
set_option linter.all false

set_option maxRecDepth 100000 in
set_option maxHeartbeats 8000000 in
theorem awake_any (w : World) : Calls Try.prog 7 #[] w fun e w' => e = .returned (.bool true) ∧ Fr [] w w' := by
  go_enter Try.func7, Try.ntmps7
  go_wp2_with fail
  refine (new_any _).mono ?_
  rintro e w' ⟨rfl, rfl⟩
  have HC0 := hid (blk_new w (clO 0 18446744073709551615 0))
  have hF0 : Fr [] w (w.alloc (clO 0 18446744073709551615 0)) := (Fr.refl _ _).alloc _
  go_wp2_with fail
  refine (bits_l 0 _ HC0.out (by decide +kernel)).mono ?_
  rintro e w1 ⟨rfl, hd⟩
  have HC1 := hid (hd.keeps HC0.out (by simp))
  have hF1 : Fr [] w w1 := hF0.step hd (fun j hj => .inr (by simp at hj; try omega))
  clear hd hF0 HC0
  go_wp2_with fail
  refine (reads_l 49144 8 0 _ HC1.out (by decide +kernel)).mono ?_
  rintro e w2 ⟨rfl, hd⟩
  have HC2 := hid (hd.keeps HC1.out (by simp))
  have hF2 : Fr [] w w2 := hF1.step hd (fun j hj => .inr (by simp at hj; try omega))
  clear hd hF1 HC1
  go_wp2_with fail
  refine (tick_l 1 _ HC2.out (by decide +kernel)).mono ?_
  rintro e w3 ⟨rfl, hn, hd⟩
  have HC3 := hid (show _ = some (clO 0 18446744073709551615 1) from hn)
  have hF3 : Fr [] w w3 := hF2.step hd (fun j hj => .inr (by simp at hj; try omega))
  clear hd hF2 HC2 hn
  go_wp2_with fail
  refine (reads_l 49144 4 1 _ HC3.out (by decide +kernel)).mono ?_
  rintro e w4 ⟨rfl, hd⟩
  have HC4 := hid (hd.keeps HC3.out (by simp))
  have hF4 : Fr [] w w4 := hF3.step hd (fun j hj => .inr (by simp at hj; try omega))
  clear hd hF3 HC3
  go_wp2_with fail
  refine (write_l 0 2 1 16384 8 2 _ HC4.out (by decide +kernel)).mono ?_
  rintro e w5 ⟨rfl, hn, hd⟩
  have HC5 := hid (show _ = some (clO 0 2 1) from hn)
  have hF5 : Fr [] w w5 := hF4.step hd (fun j hj => .inr (by simp at hj; try omega))
  clear hd hF4 HC4 hn
  go_wp2_with fail
  refine (bits_l 0 _ HC5.out (by decide +kernel)).mono ?_
  rintro e w6 ⟨rfl, hd⟩
  have HC6 := hid (hd.keeps HC5.out (by simp))
  have hF6 : Fr [] w w6 := hF5.step hd (fun j hj => .inr (by simp at hj; try omega))
  clear hd hF5 HC5
  go_wp2_with fail
  refine (none_l 8 (4) _ (by decide +kernel)).mono ?_
  rintro e w7 ⟨rfl, hd⟩
  have HC7 := hid (hd.keeps HC6.out (by simp))
  have hF7 : Fr [] w w7 := hF6.step hd (fun j hj => .inr (by simp at hj; try omega))
  clear hd hF6 HC6
  go_wp2_with fail
  go_ret
  exact ⟨rfl, hF7⟩

set_option maxRecDepth 100000 in
set_option maxHeartbeats 8000000 in
theorem law_ClintKnown (w : World) : Calls Try.prog 4 #[] w fun e w' => e = .returned (.bool true) ∧ Fr [] w w' := by
  go_enter Try.func4, Try.ntmps4
  go_wp2_with fail
  refine (new_any _).mono ?_
  rintro e w' ⟨rfl, rfl⟩
  have HC0 := hid (blk_new w (clO 0 18446744073709551615 0))
  have hF0 : Fr [] w (w.alloc (clO 0 18446744073709551615 0)) := (Fr.refl _ _).alloc _
  go_wp2_with fail
  refine (awake_any _).mono ?_
  rintro e w1 ⟨rfl, hd⟩
  have HC1 := hid (hd.keeps HC0.out (by simp))
  have hF1 : Fr [] w w1 := hF0.step hd (fun j hj => .inr (by simp at hj; try omega))
  clear hd hF0 HC0
  go_wp2_with fail
  refine (tick_l 1 _ HC1.out (by decide +kernel)).mono ?_
  rintro e w2 ⟨rfl, hn, hd⟩
  have HC2 := hid (show _ = some (clO 0 18446744073709551615 1) from hn)
  have hF2 : Fr [] w w2 := hF1.step hd (fun j hj => .inr (by simp at hj; try omega))
  clear hd hF1 HC1 hn
  go_wp2_with fail
  refine (write_l 0 2 1 16384 8 2 _ HC2.out (by decide +kernel)).mono ?_
  rintro e w3 ⟨rfl, hn, hd⟩
  have HC3 := hid (show _ = some (clO 0 2 1) from hn)
  have hF3 : Fr [] w w3 := hF2.step hd (fun j hj => .inr (by simp at hj; try omega))
  clear hd hF2 HC2 hn
  go_wp2_with fail
  refine (bits_l 0 _ HC3.out (by decide +kernel)).mono ?_
  rintro e w4 ⟨rfl, hd⟩
  have HC4 := hid (hd.keeps HC3.out (by simp))
  have hF4 : Fr [] w w4 := hF3.step hd (fun j hj => .inr (by simp at hj; try omega))
  clear hd hF3 HC3
  go_wp2_with fail
  refine (tick_l 2 _ HC4.out (by decide +kernel)).mono ?_
  rintro e w5 ⟨rfl, hn, hd⟩
  have HC5 := hid (show _ = some (clO 0 2 2) from hn)
  have hF5 : Fr [] w w5 := hF4.step hd (fun j hj => .inr (by simp at hj; try omega))
  clear hd hF4 HC4 hn
  go_wp2_with fail
  refine (bits_l 128 _ HC5.out (by decide +kernel)).mono ?_
  rintro e w6 ⟨rfl, hd⟩
  have HC6 := hid (hd.keeps HC5.out (by simp))
  have hF6 : Fr [] w w6 := hF5.step hd (fun j hj => .inr (by simp at hj; try omega))
  clear hd hF5 HC5
  go_wp2_with fail
  refine (write_l 1 2 2 0 4 3 _ HC6.out (by decide +kernel)).mono ?_
  rintro e w7 ⟨rfl, hn, hd⟩
  have HC7 := hid (show _ = some (clO 1 2 2) from hn)
  have hF7 : Fr [] w w7 := hF6.step hd (fun j hj => .inr (by simp at hj; try omega))
  clear hd hF6 HC6 hn
  go_wp2_with fail
  refine (reads_l 0 4 1 _ HC7.out (by decide +kernel)).mono ?_
  rintro e w8 ⟨rfl, hd⟩
  have HC8 := hid (hd.keeps HC7.out (by simp))
  have hF8 : Fr [] w w8 := hF7.step hd (fun j hj => .inr (by simp at hj; try omega))
  clear hd hF7 HC7
  go_wp2_with fail
  refine (bits_l 136 _ HC8.out (by decide +kernel)).mono ?_
  rintro e w9 ⟨rfl, hd⟩
  have HC9 := hid (hd.keeps HC8.out (by simp))
  have hF9 : Fr [] w w9 := hF8.step hd (fun j hj => .inr (by simp at hj; try omega))
  clear hd hF8 HC8
  go_wp2_with fail
  refine (write_l 1 4294967298 2 16388 4 1 _ HC9.out (by decide +kernel)).mono ?_
  rintro e w10 ⟨rfl, hn, hd⟩
  have HC10 := hid (show _ = some (clO 1 4294967298 2) from hn)
  have hF10 : Fr [] w w10 := hF9.step hd (fun j hj => .inr (by simp at hj; try omega))
  clear hd hF9 HC9 hn
  go_wp2_with fail
  refine (reads_l 16384 8 4294967298 _ HC10.out (by decide +kernel)).mono ?_
  rintro e w11 ⟨rfl, hd⟩
  have HC11 := hid (hd.keeps HC10.out (by simp))
  have hF11 : Fr [] w w11 := hF10.step hd (fun j hj => .inr (by simp at hj; try omega))
  clear hd hF10 HC10
  go_wp2_with fail
  refine (none_l 16386 (4) _ (by decide +kernel)).mono ?_
  rintro e w12 ⟨rfl, hd⟩
  have HC12 := hid (hd.keeps HC11.out (by simp))
  have hF12 : Fr [] w w12 := hF11.step hd (fun j hj => .inr (by simp at hj; try omega))
  clear hd hF11 HC11
  go_wp2_with fail
  refine (none_l 16390 (4) _ (by decide +kernel)).mono ?_
  rintro e w13 ⟨rfl, hd⟩
  have HC13 := hid (hd.keeps HC12.out (by simp))
  have hF13 : Fr [] w w13 := hF12.step hd (fun j hj => .inr (by simp at hj; try omega))
  clear hd hF12 HC12
  go_wp2_with fail
  refine (none_l 0 (8) _ (by decide +kernel)).mono ?_
  rintro e w14 ⟨rfl, hd⟩
  have HC14 := hid (hd.keeps HC13.out (by simp))
  have hF14 : Fr [] w w14 := hF13.step hd (fun j hj => .inr (by simp at hj; try omega))
  clear hd hF13 HC13
  go_wp2_with fail
  refine (none_l 0 (3) _ (by decide +kernel)).mono ?_
  rintro e w15 ⟨rfl, hd⟩
  have HC15 := hid (hd.keeps HC14.out (by simp))
  have hF15 : Fr [] w w15 := hF14.step hd (fun j hj => .inr (by simp at hj; try omega))
  clear hd hF14 HC14
  go_wp2_with fail
  refine (none_l 49152 (1) _ (by decide +kernel)).mono ?_
  rintro e w16 ⟨rfl, hd⟩
  have HC16 := hid (hd.keeps HC15.out (by simp))
  have hF16 : Fr [] w w16 := hF15.step hd (fun j hj => .inr (by simp at hj; try omega))
  clear hd hF15 HC15
  go_wp2_with fail
  refine (none_l 18446744073709551608 (8) _ (by decide +kernel)).mono ?_
  rintro e w17 ⟨rfl, hd⟩
  have HC17 := hid (hd.keeps HC16.out (by simp))
  have hF17 : Fr [] w w17 := hF16.step hd (fun j hj => .inr (by simp at hj; try omega))
  clear hd hF16 HC16
  go_wp2_with fail
  refine (none_l 49136 (8) _ (by decide +kernel)).mono ?_
  rintro e w18 ⟨rfl, hd⟩
  have HC18 := hid (hd.keeps HC17.out (by simp))
  have hF18 : Fr [] w w18 := hF17.step hd (fun j hj => .inr (by simp at hj; try omega))
  clear hd hF17 HC17
  go_wp2_with fail
  refine (none_l 0 (0) _ (by decide +kernel)).mono ?_
  rintro e w19 ⟨rfl, hd⟩
  have HC19 := hid (hd.keeps HC18.out (by simp))
  have hF19 : Fr [] w w19 := hF18.step hd (fun j hj => .inr (by simp at hj; try omega))
  clear hd hF18 HC18
  go_wp2_with fail
  refine (none_l 0 (-1) _ (by decide +kernel)).mono ?_
  rintro e w20 ⟨rfl, hd⟩
  have HC20 := hid (hd.keeps HC19.out (by simp))
  have hF20 : Fr [] w w20 := hF19.step hd (fun j hj => .inr (by simp at hj; try omega))
  clear hd hF19 HC19
  go_wp2_with fail
  refine (bits_l 8 _ HC20.out (by decide +kernel)).mono ?_
  rintro e w21 ⟨rfl, hd⟩
  have HC21 := hid (hd.keeps HC20.out (by simp))
  have hF21 : Fr [] w w21 := hF20.step hd (fun j hj => .inr (by simp at hj; try omega))
  clear hd hF20 HC20
  go_wp2_with fail
  refine (write_l 0 4294967298 2 0 1 256 _ HC21.out (by decide +kernel)).mono ?_
  rintro e w22 ⟨rfl, hn, hd⟩
  have HC22 := hid (show _ = some (clO 0 4294967298 2) from hn)
  have hF22 : Fr [] w w22 := hF21.step hd (fun j hj => .inr (by simp at hj; try omega))
  clear hd hF21 HC21 hn
  go_wp2_with fail
  refine (bits_l 0 _ HC22.out (by decide +kernel)).mono ?_
  rintro e w23 ⟨rfl, hd⟩
  have HC23 := hid (hd.keeps HC22.out (by simp))
  have hF23 : Fr [] w w23 := hF22.step hd (fun j hj => .inr (by simp at hj; try omega))
  clear hd hF22 HC22
  go_wp2_with fail
  refine (write_l 0 0 2 16384 8 0 _ HC23.out (by decide +kernel)).mono ?_
  rintro e w24 ⟨rfl, hn, hd⟩
  have HC24 := hid (show _ = some (clO 0 0 2) from hn)
  have hF24 : Fr [] w w24 := hF23.step hd (fun j hj => .inr (by simp at hj; try omega))
  clear hd hF23 HC23 hn
  go_wp2_with fail
  refine (bits_l 128 _ HC24.out (by decide +kernel)).mono ?_
  rintro e w25 ⟨rfl, hd⟩
  have HC25 := hid (hd.keeps HC24.out (by simp))
  have hF25 : Fr [] w w25 := hF24.step hd (fun j hj => .inr (by simp at hj; try omega))
  clear hd hF24 HC24
  go_wp2_with fail
  refine (tick_nil _).mono ?_
  rintro e w' ⟨rfl, rfl⟩
  go_wp2_with fail
  refine (none_nil _).mono ?_
  rintro e w26 ⟨rfl, hd⟩
  have HC26 := hid (hd.keeps HC25.out (by simp))
  have hF26 : Fr [] w w26 := hF25.step hd (fun j hj => .inr (by simp at hj; try omega))
  clear hd hF25 HC25
  go_wp2_with fail
  refine (bits_nil _).mono ?_
  rintro e w' ⟨rfl, rfl⟩
  go_wp2_with fail
  refine (write_l 0 0 18446744069414584322 49148 4 4294967295 _ HC26.out (by decide +kernel)).mono ?_
  rintro e w27 ⟨rfl, hn, hd⟩
  have HC27 := hid (show _ = some (clO 0 0 18446744069414584322) from hn)
  have hF27 : Fr [] w w27 := hF26.step hd (fun j hj => .inr (by simp at hj; try omega))
  clear hd hF26 HC26 hn
  go_wp2_with fail
  refine (reads_l 49144 8 18446744069414584322 _ HC27.out (by decide +kernel)).mono ?_
  rintro e w28 ⟨rfl, hd⟩
  have HC28 := hid (hd.keeps HC27.out (by simp))
  have hF28 : Fr [] w w28 := hF27.step hd (fun j hj => .inr (by simp at hj; try omega))
  clear hd hF27 HC27
  go_wp2_with fail
  refine (awake_any _).mono ?_
  rintro e w29 ⟨rfl, hd⟩
  have HC29 := hid (hd.keeps HC28.out (by simp))
  have hF29 : Fr [] w w29 := hF28.step hd (fun j hj => .inr (by simp at hj; try omega))
  clear hd hF28 HC28
  go_wp2_with fail
  go_ret
  exact ⟨rfl, hF29⟩
end Go.Proofs.Ytefhcadlakakbaa
