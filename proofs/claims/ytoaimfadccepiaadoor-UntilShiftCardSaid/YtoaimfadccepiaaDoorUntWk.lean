/-
  The walk of the examples of chapter 22.
-/
import Derived.Test.YtoaimfadccepiaaDoorUntEx
namespace Go.Proofs.YtoaimfadccepiaaDoor
open Go.RowKit Cv
set_option linter.unusedVariables false
set_option linter.unusedSimpArgs false

set_option maxRecDepth 100000 in
set_option maxHeartbeats 4000000 in
theorem works_any (W : World) (hT : Tabs W) : Calls Tryd.prog 12 #[] W fun e w' => e = .returned (.bool true) ∧ Below W.heap.size W w' := by
  go_enter Tryd.func12, Tryd.ntmps12
  go_wp2_with fail
  ((with_reducible refine (untEnd_any 1968 10 27 0 0 _).mono ?_); rintro e w0 ⟨rfl, hb⟩)
  have HB1 := Lib.hid (show Below W.heap.size W ((w0.alloc (.cells #[.bool true, .int .i64 1968, .int .i64 10, .int .i64 1, .int .i64 0, .int .i64 27, .int .i64 0, .int .i64 0] 27)).alloc (.cells #[.bool false, .int .i64 1968, .int .i64 10, .int .i64 1, .int .i64 0, .int .i64 27, .int .i64 0, .int .i64 0] 27)) from bel_trans (bel_trans hb (bel_alloc _ _)) (bel_alloc _ _))
  have HT1 := Lib.hid (hT.below HB1.out)
  have HD1 := Lib.hid (show ((w0.alloc (.cells #[.bool true, .int .i64 1968, .int .i64 10, .int .i64 1, .int .i64 0, .int .i64 27, .int .i64 0, .int .i64 0] 27)).alloc (.cells #[.bool false, .int .i64 1968, .int .i64 10, .int .i64 1, .int .i64 0, .int .i64 27, .int .i64 0, .int .i64 0] 27)).heap[w0.heap.size]? = some (.cells #[.bool true, .int .i64 1968, .int .i64 10, .int .i64 1, .int .i64 0, .int .i64 27, .int .i64 0, .int .i64 0] 27) from block_below (heap_alloc_new _ _) (bel_alloc _ _))
  have HN1 := Lib.hid (show ((w0.alloc (.cells #[.bool true, .int .i64 1968, .int .i64 10, .int .i64 1, .int .i64 0, .int .i64 27, .int .i64 0, .int .i64 0] 27)).alloc (.cells #[.bool false, .int .i64 1968, .int .i64 10, .int .i64 1, .int .i64 0, .int .i64 27, .int .i64 0, .int .i64 0] 27)).heap[w0.heap.size + 1]? = some (.cells #[.bool false, .int .i64 1968, .int .i64 10, .int .i64 1, .int .i64 0, .int .i64 27, .int .i64 0, .int .i64 0] 27) from heap_alloc2_new w0 _ _)
  clear hT hb
  go_wp2_with fail
  ((with_reducible refine (untEnd_any 1970 1 2 7200 1 _).mono ?_); rintro e wE ⟨rfl, hb⟩)
  have HB2 := Lib.hid (bel_trans HB1.out hb)
  have HT2 := Lib.hid (HT1.out.below hb)
  have HD2 := Lib.hid (block_below HD1.out hb)
  have HN2 := Lib.hid (block_below HN1.out hb)
  clear hb HB1 HT1 HD1 HN1
  go_wp2_with fail
  ((with_reducible refine (untNom_any true 1970 1 1 0 2 7200 1 0 _ (by exact HT2.out) (by decide) (by decide)).mono ?_); intro e wE hq; obtain ⟨rfl, hb⟩ := NomU.to (show untN true 1970 1 1 0 2 7200 1 0 = 93600 by decide +kernel) (show untC true 1970 1 1 0 2 7200 1 0 = 0 by decide +kernel) _ _ hq; clear hq)
  have HB3 := Lib.hid (bel_trans HB2.out hb)
  have HT3 := Lib.hid (HT2.out.below hb)
  have HD3 := Lib.hid (block_below HD2.out hb)
  have HN3 := Lib.hid (block_below HN2.out hb)
  clear hb HB2 HT2 HD2 HN2
  go_wp2_with fail
  ((with_reducible refine (untEnd_any 1970 1 2 7200 1 _).mono ?_); rintro e wE ⟨rfl, hb⟩)
  have HB4 := Lib.hid (bel_trans HB3.out hb)
  have HT4 := Lib.hid (HT3.out.below hb)
  have HD4 := Lib.hid (block_below HD3.out hb)
  have HN4 := Lib.hid (block_below HN3.out hb)
  clear hb HB3 HT3 HD3 HN3
  go_wp2_with fail
  ((with_reducible refine (untNom_any true 1970 1 1 0 2 7200 1 (-3600) _ (by exact HT4.out) (by decide) (by decide)).mono ?_); intro e wE hq; obtain ⟨rfl, hb⟩ := NomU.to (show untN true 1970 1 1 0 2 7200 1 (-3600) = 90000 by decide +kernel) (show untC true 1970 1 1 0 2 7200 1 (-3600) = 0 by decide +kernel) _ _ hq; clear hq)
  have HB5 := Lib.hid (bel_trans HB4.out hb)
  have HT5 := Lib.hid (HT4.out.below hb)
  have HD5 := Lib.hid (block_below HD4.out hb)
  have HN5 := Lib.hid (block_below HN4.out hb)
  clear hb HB4 HT4 HD4 HN4
  have c0 := cellB HD5.out (i := 0) rfl
  have c1 := cellB HD5.out (i := 1) rfl
  have c2 := cellB HD5.out (i := 2) rfl
  have c3 := cellB HD5.out (i := 3) rfl
  have c4 := cellB HD5.out (i := 4) rfl
  have c5 := cellB HD5.out (i := 5) rfl
  have c6 := cellB HD5.out (i := 6) rfl
  have c7 := cellB HD5.out (i := 7) rfl
  go_wp2_with fail
  ((with_reducible refine (untCheck_any true 1968 10 1 0 27 0 0 0 _ (by exact HT5.out) (by decide) (by decide)).mono ?_); intro e wE hq; obtain ⟨rfl, hb⟩ := CodeU.to (show untC true 1968 10 1 0 27 0 0 0 = 0 by decide +kernel) _ _ hq; clear hq)
  clear c0 c1 c2 c3 c4 c5 c6 c7
  have HB6 := Lib.hid (bel_trans HB5.out hb)
  have HT6 := Lib.hid (HT5.out.below hb)
  have HD6 := Lib.hid (block_below HD5.out hb)
  have HN6 := Lib.hid (block_below HN5.out hb)
  clear hb HB5 HT5 HD5 HN5
  have c0 := cellB HN6.out (i := 0) rfl
  have c1 := cellB HN6.out (i := 1) rfl
  have c2 := cellB HN6.out (i := 2) rfl
  have c3 := cellB HN6.out (i := 3) rfl
  have c4 := cellB HN6.out (i := 4) rfl
  have c5 := cellB HN6.out (i := 5) rfl
  have c6 := cellB HN6.out (i := 6) rfl
  have c7 := cellB HN6.out (i := 7) rfl
  go_wp2_with fail
  ((with_reducible refine (untCheck_any false 1968 10 1 0 27 0 0 0 _ (by exact HT6.out) (by decide) (by decide)).mono ?_); intro e wE hq; obtain ⟨rfl, hb⟩ := CodeU.to (show untC false 1968 10 1 0 27 0 0 0 = 4 by decide +kernel) _ _ hq; clear hq)
  clear c0 c1 c2 c3 c4 c5 c6 c7
  have HB7 := Lib.hid (bel_trans HB6.out hb)
  have HT7 := Lib.hid (HT6.out.below hb)
  have HD7 := Lib.hid (block_below HD6.out hb)
  have HN7 := Lib.hid (block_below HN6.out hb)
  clear hb HB6 HT6 HD6 HN6
  go_wp2_with fail
  ((with_reducible refine (untEnd_any 1968 2 30 0 0 _).mono ?_); rintro e wE ⟨rfl, hb⟩)
  have HB8 := Lib.hid (bel_trans HB7.out hb)
  have HT8 := Lib.hid (HT7.out.below hb)
  have HD8 := Lib.hid (block_below HD7.out hb)
  have HN8 := Lib.hid (block_below HN7.out hb)
  clear hb HB7 HT7 HD7 HN7
  go_wp2_with fail
  ((with_reducible refine (untCheck_any true 1968 2 1 0 30 0 0 0 _ (by exact HT8.out) (by decide) (by decide)).mono ?_); intro e wE hq; obtain ⟨rfl, hb⟩ := CodeU.to (show untC true 1968 2 1 0 30 0 0 0 = 3 by decide +kernel) _ _ hq; clear hq)
  have HB9 := Lib.hid (bel_trans HB8.out hb)
  have HT9 := Lib.hid (HT8.out.below hb)
  have HD9 := Lib.hid (block_below HD8.out hb)
  have HN9 := Lib.hid (block_below HN8.out hb)
  clear hb HB8 HT8 HD8 HN8
  go_wp2_with fail
  ((with_reducible refine (untEnd_any 1968 10 27 176400 0 _).mono ?_); rintro e wE ⟨rfl, hb⟩)
  have HB10 := Lib.hid (bel_trans HB9.out hb)
  have HT10 := Lib.hid (HT9.out.below hb)
  have HD10 := Lib.hid (block_below HD9.out hb)
  have HN10 := Lib.hid (block_below HN9.out hb)
  clear hb HB9 HT9 HD9 HN9
  go_wp2_with fail
  ((with_reducible refine (untCheck_any true 1968 10 1 0 27 176400 0 0 _ (by exact HT10.out) (by decide) (by decide)).mono ?_); intro e wE hq; obtain ⟨rfl, hb⟩ := CodeU.to (show untC true 1968 10 1 0 27 176400 0 0 = 3 by decide +kernel) _ _ hq; clear hq)
  have HB11 := Lib.hid (bel_trans HB10.out hb)
  have HT11 := Lib.hid (HT10.out.below hb)
  have HD11 := Lib.hid (block_below HD10.out hb)
  have HN11 := Lib.hid (block_below HN10.out hb)
  clear hb HB10 HT10 HD10 HN10
  go_wp2_with fail
  ((with_reducible refine (untEnd_any 1968 10 27 (-88200) 1 _).mono ?_); rintro e wE ⟨rfl, hb⟩)
  have HB12 := Lib.hid (bel_trans HB11.out hb)
  have HT12 := Lib.hid (HT11.out.below hb)
  have HD12 := Lib.hid (block_below HD11.out hb)
  have HN12 := Lib.hid (block_below HN11.out hb)
  clear hb HB11 HT11 HD11 HN11
  go_wp2_with fail
  ((with_reducible refine (untCheck_any true 1968 10 1 0 27 (-88200) 1 0 _ (by exact HT12.out) (by decide) (by decide)).mono ?_); intro e wE hq; obtain ⟨rfl, hb⟩ := CodeU.to (show untC true 1968 10 1 0 27 (-88200) 1 0 = 3 by decide +kernel) _ _ hq; clear hq)
  have HB13 := Lib.hid (bel_trans HB12.out hb)
  have HT13 := Lib.hid (HT12.out.below hb)
  have HD13 := Lib.hid (block_below HD12.out hb)
  have HN13 := Lib.hid (block_below HN12.out hb)
  clear hb HB12 HT12 HD12 HN12
  go_wp2_with fail
  ((with_reducible refine (untEnd_any 1968 10 27 (-88200) 1 _).mono ?_); rintro e wE ⟨rfl, hb⟩)
  have HB14 := Lib.hid (bel_trans HB13.out hb)
  have HT14 := Lib.hid (HT13.out.below hb)
  have HD14 := Lib.hid (block_below HD13.out hb)
  have HN14 := Lib.hid (block_below HN13.out hb)
  clear hb HB13 HT13 HD13 HN13
  go_wp2_with fail
  ((with_reducible refine (untCheck_any true 1968 10 1 0 27 (-88200) 1 (-3600) _ (by exact HT14.out) (by decide) (by decide)).mono ?_); intro e wE hq; obtain ⟨rfl, hb⟩ := CodeU.to (show untC true 1968 10 1 0 27 (-88200) 1 (-3600) = 3 by decide +kernel) _ _ hq; clear hq)
  have HB15 := Lib.hid (bel_trans HB14.out hb)
  have HT15 := Lib.hid (HT14.out.below hb)
  have HD15 := Lib.hid (block_below HD14.out hb)
  have HN15 := Lib.hid (block_below HN14.out hb)
  clear hb HB14 HT14 HD14 HN14
  go_wp2_with fail
  ((with_reducible refine (untEnd_any 1968 10 27 174600 1 _).mono ?_); rintro e wE ⟨rfl, hb⟩)
  have HB16 := Lib.hid (bel_trans HB15.out hb)
  have HT16 := Lib.hid (HT15.out.below hb)
  have HD16 := Lib.hid (block_below HD15.out hb)
  have HN16 := Lib.hid (block_below HN15.out hb)
  clear hb HB15 HT15 HD15 HN15
  go_wp2_with fail
  ((with_reducible refine (untCheck_any true 1968 10 1 0 27 174600 1 (-3600) _ (by exact HT16.out) (by decide) (by decide)).mono ?_); intro e wE hq; obtain ⟨rfl, hb⟩ := CodeU.to (show untC true 1968 10 1 0 27 174600 1 (-3600) = 0 by decide +kernel) _ _ hq; clear hq)
  have HB17 := Lib.hid (bel_trans HB16.out hb)
  have HT17 := Lib.hid (HT16.out.below hb)
  have HD17 := Lib.hid (block_below HD16.out hb)
  have HN17 := Lib.hid (block_below HN16.out hb)
  clear hb HB16 HT16 HD16 HN16
  have c0 := cellB HD17.out (i := 0) rfl
  have c1 := cellB HD17.out (i := 1) rfl
  have c2 := cellB HD17.out (i := 2) rfl
  have c3 := cellB HD17.out (i := 3) rfl
  have c4 := cellB HD17.out (i := 4) rfl
  have c5 := cellB HD17.out (i := 5) rfl
  have c6 := cellB HD17.out (i := 6) rfl
  have c7 := cellB HD17.out (i := 7) rfl
  go_wp2_with fail
  ((with_reducible refine (untCheck_any true 1968 10 1 0 27 0 0 1 _ (by exact HT17.out) (by decide) (by decide)).mono ?_); intro e wE hq; obtain ⟨rfl, hb⟩ := CodeU.to (show untC true 1968 10 1 0 27 0 0 1 = 2 by decide +kernel) _ _ hq; clear hq)
  clear c0 c1 c2 c3 c4 c5 c6 c7
  have HB18 := Lib.hid (bel_trans HB17.out hb)
  have HT18 := Lib.hid (HT17.out.below hb)
  have HD18 := Lib.hid (block_below HD17.out hb)
  have HN18 := Lib.hid (block_below HN17.out hb)
  clear hb HB17 HT17 HD17 HN17
  go_wp2_with fail
  ((with_reducible refine (untEnd_any 1970 1 2 7200 1 _).mono ?_); rintro e wE ⟨rfl, hb⟩)
  have HB19 := Lib.hid (bel_trans HB18.out hb)
  have HT19 := Lib.hid (HT18.out.below hb)
  have HD19 := Lib.hid (block_below HD18.out hb)
  have HN19 := Lib.hid (block_below HN18.out hb)
  clear hb HB18 HT18 HD18 HN18
  go_wp2_with fail
  ((with_reducible refine (untEnds01 3600 0 ⟨#[]⟩ ⟨#[]⟩ 1970 1 1 0 2 7200 1 0 _ (by exact HT19.out) (by decide +kernel) (by decide +kernel) (by decide) (by decide) (by decide) (by decide) 90000 (by decide)).mono ?_); rintro e wE ⟨rfl, hb⟩)
  have HB20 := Lib.hid (bel_trans HB19.out hb)
  have HT20 := Lib.hid (HT19.out.below hb)
  have HD20 := Lib.hid (block_below HD19.out hb)
  have HN20 := Lib.hid (block_below HN19.out hb)
  clear hb HB19 HT19 HD19 HN19
  go_wp2_with fail
  ((with_reducible refine (untEnd_any 1970 1 2 7200 0 _).mono ?_); rintro e wE ⟨rfl, hb⟩)
  have HB21 := Lib.hid (bel_trans HB20.out hb)
  have HT21 := Lib.hid (HT20.out.below hb)
  have HD21 := Lib.hid (block_below HD20.out hb)
  have HN21 := Lib.hid (block_below HN20.out hb)
  clear hb HB20 HT20 HD20 HN20
  go_wp2_with fail
  ((with_reducible refine (untEnds00 3600 0 ⟨#[]⟩ ⟨#[]⟩ 1970 1 1 0 2 7200 1 0 _ (by exact HT21.out) (by decide +kernel) (by decide +kernel) (by decide) (by decide) (by decide) (by decide) 90000 (by decide)).mono ?_); rintro e wE ⟨rfl, hb⟩)
  have HB22 := Lib.hid (bel_trans HB21.out hb)
  have HT22 := Lib.hid (HT21.out.below hb)
  have HD22 := Lib.hid (block_below HD21.out hb)
  have HN22 := Lib.hid (block_below HN21.out hb)
  clear hb HB21 HT21 HD21 HN21
  go_wp2_with fail
  ((with_reducible refine (untEnd_any 1970 1 2 7200 2 _).mono ?_); rintro e wE ⟨rfl, hb⟩)
  have HB23 := Lib.hid (bel_trans HB22.out hb)
  have HT23 := Lib.hid (HT22.out.below hb)
  have HD23 := Lib.hid (block_below HD22.out hb)
  have HN23 := Lib.hid (block_below HN22.out hb)
  clear hb HB22 HT22 HD22 HN22
  go_wp2_with fail
  ((with_reducible refine (untEnds02 3600 0 ⟨#[]⟩ ⟨#[]⟩ 1970 1 1 0 2 7200 1 0 _ (by exact HT23.out) (by decide +kernel) (by decide +kernel) (by decide) (by decide) (by decide) (by decide) 93600 (by decide)).mono ?_); rintro e wE ⟨rfl, hb⟩)
  have HB24 := Lib.hid (bel_trans HB23.out hb)
  have HT24 := Lib.hid (HT23.out.below hb)
  have HD24 := Lib.hid (block_below HD23.out hb)
  have HN24 := Lib.hid (block_below HN23.out hb)
  clear hb HB23 HT23 HD23 HN23
  go_wp2_with fail
  ((with_reducible refine (untEnd_any 1970 1 2 7200 0 _).mono ?_); rintro e wE ⟨rfl, hb⟩)
  have HB25 := Lib.hid (bel_trans HB24.out hb)
  have HT25 := Lib.hid (HT24.out.below hb)
  have HD25 := Lib.hid (block_below HD24.out hb)
  have HN25 := Lib.hid (block_below HN24.out hb)
  clear hb HB24 HT24 HD24 HN24
  go_wp2_with fail
  ((with_reducible refine (untEnds10 3600 1800 ⟨#[]⟩ ⟨#[]⟩ 1970 1 1 0 2 7200 1 0 _ (by exact HT25.out) (by decide +kernel) (by decide +kernel) (by decide) (by decide) (by decide) (by decide) 88200 (by decide)).mono ?_); rintro e wE ⟨rfl, hb⟩)
  have HB26 := Lib.hid (bel_trans HB25.out hb)
  have HT26 := Lib.hid (HT25.out.below hb)
  have HD26 := Lib.hid (block_below HD25.out hb)
  have HN26 := Lib.hid (block_below HN25.out hb)
  clear hb HB25 HT25 HD25 HN25
  go_wp2_with fail
  go_ret
  exact ⟨rfl, HB26.out⟩
end Go.Proofs.YtoaimfadccepiaaDoor
