/-
  The walk of the law EventsLists.
-/
import Derived.Test.YtpimibchameakaaDoorEvWk
import Derived.Test.YtpimibchameakaaDoorRuArg
import Derived.Test.YtpimibchameakaaDoorEvClone
import Derived.Test.YtpimibchameakaaDoorEvRefBA
import Derived.Test.YtpimibchameakaaDoorEvRefIn
namespace Go.Proofs.YtpimibchameakaaDoor
open Go.RowKit Cv
set_option linter.unusedVariables false
set_option linter.unusedSimpArgs false

namespace Cv
theorem evV_ex (o : Option Ev) : ∃ (y r n : Int) (b : Bool), evV o = .tuple #[.agg #[.int .i64 y, .int .i64 r, .int .i64 n], .bool b] := by
  cases o with
  | none => exact ⟨0, 0, 0, false, rfl⟩
  | some e => exact ⟨e.year, e.rule, e.nom, true, rfl⟩
/-- two of one question give the same answer -/
theorem LookR.same {p : Option Ev → Prop} {W : World} {e : Ending} {w' : World} (h : LookR p W e w') : ∃ (y r n : Int) (b : Bool), e = .returned (.tuple #[.agg #[.int .i64 y, .int .i64 r, .int .i64 n], .bool b]) ∧ Below W.heap.size W w' ∧ ∃ o, Hid (p o) ∧ evV o = .tuple #[.agg #[.int .i64 y, .int .i64 r, .int .i64 n], .bool b] := by
  obtain ⟨o, hp, rfl, hb⟩ := h
  obtain ⟨y, r, n, b, h⟩ := evV_ex o
  exact ⟨y, r, n, b, by rw [h], hb, o, hp, h⟩
end Cv

set_option maxRecDepth 100000 in
set_option maxHeartbeats 16000000 in
theorem evLists_core (v : Value) (rs : _root_.List Ru) (i fr ut N : Int) (W : World) (hT : Tabs W) (h : Rul v rs W) (hl : rs.length ≤ 8) (hf1 : -9223372036854775808 ≤ fr) (hf2 : fr ≤ 9223372036854775807) (hu1 : -9223372036854775808 ≤ ut) (hu2 : ut ≤ 9223372036854775807) (hN1 : -9223372036854775808 ≤ N) (hN2 : N ≤ 9223372036854775807) :
    Calls Tryd.prog 7 #[v, .int .i64 i, .int .i64 fr, .int .i64 ut, .int .i64 N] W fun e w' => e = .returned (.bool true) ∧ Below W.heap.size W w' := by
  have heq := eqEv
  have hne := neEv
  obtain ⟨A, cap, rfl⟩ := h.sl
  have HT := Lib.hid hT
  have H := Lib.hid h
  obtain ⟨n, hn⟩ : ∃ n, n = rs.length := ⟨_, rfl⟩
  rw [← hn] at hl H ⊢
  clear hT h hn
  have hnl : (n : Int) ≤ 8 := by omega
  go_enter Tryd.func7, Tryd.ntmps7
  go_wp2_with fail
  refine (cloneRu_any _ rs _ (by exact H.out)).mono ?_
  rintro e w1 ⟨v', rfl, hv1, hb1⟩
  have HB := Lib.hid hb1
  have HC := Lib.hid hv1
  clear hb1 hv1
  go_wp2_with fail

  obtain ⟨ay, ar, an, ab, ha⟩ := evV_ex (evOn rs i fr)
  have HA := Lib.hid ha
  clear ha
  refine (evOn_any _ rs i fr _ (by exact HT.out.below HB.out) (by exact HC.out) (by omega) (by omega)).mono ?_
  intro e w2 hq; obtain ⟨rfl, hb⟩ := EvR.to (v := .tuple #[.agg #[.int .i64 ay, .int .i64 ar, .int .i64 an], .bool ab]) HA.out _ _ hq; clear hq
  have HB := Lib.hid (bel_trans (bel_trans HB.out hb) (bel_alloc w2 (.cells #[.int .i64 ay, .int .i64 ar, .int .i64 an] 34)))
  have HC := Lib.hid (Rul.below HC.out (bel_trans hb (bel_alloc w2 (.cells #[.int .i64 ay, .int .i64 ar, .int .i64 an] 34))))
  have Ka := Lib.hid (heap_alloc_new w2 (.cells #[.int .i64 ay, .int .i64 ar, .int .i64 an] 34))
  clear hb
  go_wp2_with fail
  refine (refEvOn_any _ rs i fr _ (by exact H.out.below HB.out) (by omega) (by omega)).mono ?_
  intro e w3 hq; obtain ⟨rfl, hb⟩ := EvR.to (v := .tuple #[.agg #[.int .i64 ay, .int .i64 ar, .int .i64 an], .bool ab]) HA.out _ _ hq; clear hq
  have HB := Lib.hid (bel_trans (bel_trans HB.out hb) (bel_alloc w3 (.cells #[.int .i64 ay, .int .i64 ar, .int .i64 an] 34)))
  have HC := Lib.hid (Rul.below HC.out (bel_trans hb (bel_alloc w3 (.cells #[.int .i64 ay, .int .i64 ar, .int .i64 an] 34))))
  have Ka := Lib.hid (block_below Ka.out (bel_trans hb (bel_alloc w3 (.cells #[.int .i64 ay, .int .i64 ar, .int .i64 an] 34))))
  have Kb := Lib.hid (heap_alloc_new w3 (.cells #[.int .i64 ay, .int .i64 ar, .int .i64 an] 34))
  clear hb
  go_wp2_with fail
  refine (evBefore_any _ rs N _ (by exact HT.out.below HB.out) (by exact HC.out) (by omega) (by omega)).mono ?_
  intro e w4 hq; obtain ⟨cy, cr, cn, cb, rfl, hb, co, cp, cv⟩ := LookR.same hq; clear hq
  have Qc := Lib.hid cv
  clear cv
  have HB := Lib.hid (bel_trans (bel_trans HB.out hb) (bel_alloc w4 (.cells #[.int .i64 cy, .int .i64 cr, .int .i64 cn] 34)))
  have HC := Lib.hid (Rul.below HC.out (bel_trans hb (bel_alloc w4 (.cells #[.int .i64 cy, .int .i64 cr, .int .i64 cn] 34))))
  have Ka := Lib.hid (block_below Ka.out (bel_trans hb (bel_alloc w4 (.cells #[.int .i64 cy, .int .i64 cr, .int .i64 cn] 34))))
  have Kb := Lib.hid (block_below Kb.out (bel_trans hb (bel_alloc w4 (.cells #[.int .i64 cy, .int .i64 cr, .int .i64 cn] 34))))
  have Kc := Lib.hid (heap_alloc_new w4 (.cells #[.int .i64 cy, .int .i64 cr, .int .i64 cn] 34))
  clear hb
  go_wp2_with fail
  refine (refBefore_any _ rs N _ (by exact H.out.below HB.out) (by omega) (by omega)).mono ?_
  intro e w5 hq; obtain ⟨rfl, hb⟩ := LookR.bef (v := .tuple #[.agg #[.int .i64 cy, .int .i64 cr, .int .i64 cn], .bool cb]) cp.out Qc.out _ _ hq; clear hq
  have HB := Lib.hid (bel_trans (bel_trans HB.out hb) (bel_alloc w5 (.cells #[.int .i64 cy, .int .i64 cr, .int .i64 cn] 34)))
  have HC := Lib.hid (Rul.below HC.out (bel_trans hb (bel_alloc w5 (.cells #[.int .i64 cy, .int .i64 cr, .int .i64 cn] 34))))
  have Ka := Lib.hid (block_below Ka.out (bel_trans hb (bel_alloc w5 (.cells #[.int .i64 cy, .int .i64 cr, .int .i64 cn] 34))))
  have Kb := Lib.hid (block_below Kb.out (bel_trans hb (bel_alloc w5 (.cells #[.int .i64 cy, .int .i64 cr, .int .i64 cn] 34))))
  have Kc := Lib.hid (block_below Kc.out (bel_trans hb (bel_alloc w5 (.cells #[.int .i64 cy, .int .i64 cr, .int .i64 cn] 34))))
  have Kd := Lib.hid (heap_alloc_new w5 (.cells #[.int .i64 cy, .int .i64 cr, .int .i64 cn] 34))
  clear hb
  go_wp2_with fail
  refine (evAfter_any _ rs N _ (by exact HT.out.below HB.out) (by exact HC.out) (by omega) (by omega)).mono ?_
  intro e w6 hq; obtain ⟨xy, xr, xn, xb, rfl, hb, xo, xp, xv⟩ := LookR.same hq; clear hq
  have Qx := Lib.hid xv
  clear xv
  have HB := Lib.hid (bel_trans (bel_trans HB.out hb) (bel_alloc w6 (.cells #[.int .i64 xy, .int .i64 xr, .int .i64 xn] 34)))
  have HC := Lib.hid (Rul.below HC.out (bel_trans hb (bel_alloc w6 (.cells #[.int .i64 xy, .int .i64 xr, .int .i64 xn] 34))))
  have Ka := Lib.hid (block_below Ka.out (bel_trans hb (bel_alloc w6 (.cells #[.int .i64 xy, .int .i64 xr, .int .i64 xn] 34))))
  have Kb := Lib.hid (block_below Kb.out (bel_trans hb (bel_alloc w6 (.cells #[.int .i64 xy, .int .i64 xr, .int .i64 xn] 34))))
  have Kc := Lib.hid (block_below Kc.out (bel_trans hb (bel_alloc w6 (.cells #[.int .i64 xy, .int .i64 xr, .int .i64 xn] 34))))
  have Kd := Lib.hid (block_below Kd.out (bel_trans hb (bel_alloc w6 (.cells #[.int .i64 xy, .int .i64 xr, .int .i64 xn] 34))))
  have Kx := Lib.hid (heap_alloc_new w6 (.cells #[.int .i64 xy, .int .i64 xr, .int .i64 xn] 34))
  clear hb
  go_wp2_with fail
  refine (refAfter_any _ rs N _ (by exact H.out.below HB.out) (by omega) (by omega)).mono ?_
  intro e w7 hq; obtain ⟨rfl, hb⟩ := LookR.aft (v := .tuple #[.agg #[.int .i64 xy, .int .i64 xr, .int .i64 xn], .bool xb]) xp.out Qx.out _ _ hq; clear hq
  have HB := Lib.hid (bel_trans (bel_trans HB.out hb) (bel_alloc w7 (.cells #[.int .i64 xy, .int .i64 xr, .int .i64 xn] 34)))
  have HC := Lib.hid (Rul.below HC.out (bel_trans hb (bel_alloc w7 (.cells #[.int .i64 xy, .int .i64 xr, .int .i64 xn] 34))))
  have Ka := Lib.hid (block_below Ka.out (bel_trans hb (bel_alloc w7 (.cells #[.int .i64 xy, .int .i64 xr, .int .i64 xn] 34))))
  have Kb := Lib.hid (block_below Kb.out (bel_trans hb (bel_alloc w7 (.cells #[.int .i64 xy, .int .i64 xr, .int .i64 xn] 34))))
  have Kc := Lib.hid (block_below Kc.out (bel_trans hb (bel_alloc w7 (.cells #[.int .i64 xy, .int .i64 xr, .int .i64 xn] 34))))
  have Kd := Lib.hid (block_below Kd.out (bel_trans hb (bel_alloc w7 (.cells #[.int .i64 xy, .int .i64 xr, .int .i64 xn] 34))))
  have Kx := Lib.hid (block_below Kx.out (bel_trans hb (bel_alloc w7 (.cells #[.int .i64 xy, .int .i64 xr, .int .i64 xn] 34))))
  have Ky := Lib.hid (heap_alloc_new w7 (.cells #[.int .i64 xy, .int .i64 xr, .int .i64 xn] 34))
  clear hb
  have ac0 := cellB Ka.out (i := 0) rfl
  have ac1 := cellB Ka.out (i := 1) rfl
  have ac2 := cellB Ka.out (i := 2) rfl
  have bc0 := cellB Kb.out (i := 0) rfl
  have bc1 := cellB Kb.out (i := 1) rfl
  have bc2 := cellB Kb.out (i := 2) rfl
  have cc0 := cellB Kc.out (i := 0) rfl
  have cc1 := cellB Kc.out (i := 1) rfl
  have cc2 := cellB Kc.out (i := 2) rfl
  have dc0 := cellB Kd.out (i := 0) rfl
  have dc1 := cellB Kd.out (i := 1) rfl
  have dc2 := cellB Kd.out (i := 2) rfl
  have xc0 := cellB Kx.out (i := 0) rfl
  have xc1 := cellB Kx.out (i := 1) rfl
  have xc2 := cellB Kx.out (i := 2) rfl
  have yc0 := cellB Ky.out (i := 0) rfl
  have yc1 := cellB Ky.out (i := 1) rfl
  have yc2 := cellB Ky.out (i := 2) rfl
  go_wp2_with fail
  refine (equalRu_any _ _ rs _ (by exact HC.out) (by exact H.out.below HB.out)).mono ?_
  rintro e w8 ⟨rfl, hb⟩
  clear ac0 ac1 ac2 Ka
  clear bc0 bc1 bc2 Kb
  clear cc0 cc1 cc2 Kc
  clear dc0 dc1 dc2 Kd
  clear xc0 xc1 xc2 Kx
  clear yc0 yc1 yc2 Ky
  have HB := Lib.hid (bel_trans HB.out hb)
  have HC := Lib.hid (Rul.below HC.out hb)
  clear hb
  go_wp2_with fail
  refine (evIn_any _ rs fr ut _ (by exact HT.out.below HB.out) (by exact HC.out) (by omega) (by omega) (by omega) (by omega)).mono ?_
  intro e w9 hq
  rcases (show ut ≤ fr ∨ (fr < ut ∧ ut - fr ≤ 60) ∨ (fr < ut ∧ 60 < ut - fr ∧ ut - fr ≤ 1000) ∨ (fr < ut ∧ 1000 < ut - fr) by omega) with hc | ⟨hc, hc2⟩ | ⟨hc, hc2, hc3⟩ | ⟨hc, hc2⟩
  · skip
    obtain ⟨hb, ⟨h1, h2, _⟩ | ⟨_, V, L, hI, rfl, hO, hLL⟩⟩ := hq
    · exfalso; omega
    · obtain ⟨AV, cV, rfl⟩ := (RdEv.own hO.out).sl
      have HB := Lib.hid (bel_trans HB.out hb)
      clear hb
      have HR := Lib.hid (RdEv.own hO.out)
      clear hO
      have HL := Lib.hid hLL
      clear hLL
      obtain ⟨m, hm⟩ : ∃ m, m = L.length := ⟨_, rfl⟩
      rw [← hm] at HR
      rw [← hm]
      go_wp2_with fail
      refine (refEvIn_any _ rs fr ut _ (by exact H.out.below HB.out) (by omega) (by omega) (by omega) (by omega)).mono ?_
      rintro e v1 ⟨hb, ⟨h1, h2, _⟩ | ⟨_, V2, L2, hI2, rfl, hO2, _⟩⟩
      · exfalso; omega
      · obtain rfl := hI2.out.uniq hI.out
        obtain ⟨AV2, cV2, rfl⟩ := (RdEv.own hO2.out).sl
        have HB := Lib.hid (bel_trans HB.out hb)
        have HR := Lib.hid (RdEv.below HR.out hb)
        clear hb
        have HR2 := Lib.hid (RdEv.own hO2.out)
        clear hO2
        rw [← hm] at HR2
        rw [← hm]
        have HM := Lib.hid hm
        clear hm
        go_wp2_with fail
        refine (equalEv_any _ _ L2 _ (by exact HR.out) (by exact HR2.out) (by have := HL.out; omega)).mono ?_
        rintro e v2 ⟨rfl, hb⟩
        have HB := Lib.hid (bel_trans HB.out hb)
        clear hb
        go_wp2_with fail
        refine (works_any _ (by exact HT.out.below HB.out)).mono ?_
        rintro e v3 ⟨rfl, hb⟩
        go_wp2_with fail
        go_ret
        exact ⟨rfl, bel_trans HB.out hb⟩
  · skip
    have hu : IntKind.u64.wrap (IntKind.u64.wrap ut - IntKind.u64.wrap fr) = ut - fr := by simp only [IntKind.wrap, IntKind.signed, IntKind.bits]; simp; omega
    obtain ⟨hb, ⟨h1, h2, _⟩ | ⟨_, V, L, hI, rfl, hO, hLL⟩⟩ := hq
    · exfalso; omega
    · obtain ⟨AV, cV, rfl⟩ := (RdEv.own hO.out).sl
      have HB := Lib.hid (bel_trans HB.out hb)
      clear hb
      have HR := Lib.hid (RdEv.own hO.out)
      clear hO
      have HL := Lib.hid hLL
      clear hLL
      obtain ⟨m, hm⟩ : ∃ m, m = L.length := ⟨_, rfl⟩
      rw [← hm] at HR
      rw [← hm]
      go_wp2_with fail
      refine (refEvIn_any _ rs fr ut _ (by exact H.out.below HB.out) (by omega) (by omega) (by omega) (by omega)).mono ?_
      rintro e v1 ⟨hb, ⟨h1, h2, _⟩ | ⟨_, V2, L2, hI2, rfl, hO2, _⟩⟩
      · exfalso; omega
      · obtain rfl := hI2.out.uniq hI.out
        obtain ⟨AV2, cV2, rfl⟩ := (RdEv.own hO2.out).sl
        have HB := Lib.hid (bel_trans HB.out hb)
        have HR := Lib.hid (RdEv.below HR.out hb)
        clear hb
        have HR2 := Lib.hid (RdEv.own hO2.out)
        clear hO2
        rw [← hm] at HR2
        rw [← hm]
        have HM := Lib.hid hm
        clear hm
        go_wp2_with fail
        refine (equalEv_any _ _ L2 _ (by exact HR.out) (by exact HR2.out) (by have := HL.out; omega)).mono ?_
        rintro e v2 ⟨rfl, hb⟩
        have HB := Lib.hid (bel_trans HB.out hb)
        clear hb
        go_wp2_with fail
        refine (works_any _ (by exact HT.out.below HB.out)).mono ?_
        rintro e v3 ⟨rfl, hb⟩
        go_wp2_with fail
        go_ret
        exact ⟨rfl, bel_trans HB.out hb⟩
  · skip
    have hu : IntKind.u64.wrap (IntKind.u64.wrap ut - IntKind.u64.wrap fr) = ut - fr := by simp only [IntKind.wrap, IntKind.signed, IntKind.bits]; simp; omega
    obtain ⟨hb, ⟨h1, h2, _⟩ | ⟨_, V, L, hI, rfl, hO, hLL⟩⟩ := hq
    · exfalso; omega
    · have HB := Lib.hid (bel_trans HB.out hb)
      clear hb hI hO hLL
      go_wp2_with fail
      refine (works_any _ (by exact HT.out.below HB.out)).mono ?_
      rintro e v3 ⟨rfl, hb⟩
      go_wp2_with fail
      go_ret
      exact ⟨rfl, bel_trans HB.out hb⟩
  · skip
    have hu : IntKind.u64.wrap (IntKind.u64.wrap ut - IntKind.u64.wrap fr) = ut - fr := by simp only [IntKind.wrap, IntKind.signed, IntKind.bits]; simp; omega
    obtain ⟨rfl, hb⟩ := InR.far (by omega) hc2 _ _ hq; clear hq
    have HB := Lib.hid (bel_trans HB.out hb)
    clear hb
    go_wp2_with fail
    refine (refEvIn_any _ rs fr ut _ (by exact H.out.below HB.out) (by omega) (by omega) (by omega) (by omega)).mono ?_
    intro e v1 hq; obtain ⟨rfl, hb⟩ := InR.far (by omega) hc2 _ _ hq; clear hq
    have HB := Lib.hid (bel_trans HB.out hb)
    clear hb
    go_wp2_with fail
    refine (equalEv_any _ _ [] _ (by exact ⟨none, 0, rfl, fun i e he => by simp at he⟩) (by exact ⟨none, 0, rfl, fun i e he => by simp at he⟩) (by simp)).mono ?_
    rintro e v2 ⟨rfl, hb⟩
    have HB := Lib.hid (bel_trans HB.out hb)
    clear hb
    go_wp2_with fail
    refine (works_any _ (by exact HT.out.below HB.out)).mono ?_
    rintro e v3 ⟨rfl, hb⟩
    go_wp2_with fail
    go_ret
    exact ⟨rfl, bel_trans HB.out hb⟩

set_option maxRecDepth 100000 in
theorem eventsLists.eventsLists_walk (W : World) (hL : laidMetH Tryd.prog Rows.eventsListsRow.laid W) (v : Value) {H : Type} {enc : TypeId × Value → H} {base : Nat} {d : DataW H} {p : List MemPlace} (hv : Value.okWide Tryd.prog W .any base 25 v)
    (h : DataW.Trod enc Tryd.prog W 0 (fun _ => true) true 25 v d p) (i : Int) (wi : (Lit.int .i64 i).wf = true) (fr : Int) (wf : (Lit.int .i64 fr).wf = true) (ut : Int) (wu : (Lit.int .i64 ut).wf = true) (N : Int) (wN : (Lit.int .i64 N).wf = true) :
    Calls Tryd.prog 7 #[v, .int .i64 i, .int .i64 fr, .int .i64 ut, .int .i64 N] W fun e w' => e = .returned (.bool true) ∧ Below W.heap.size W w' := by
  obtain ⟨hf1, hf2⟩ := fit_of wf
  obtain ⟨hu1, hu2⟩ := fit_of wu
  obtain ⟨hN1, hN2⟩ := fit_of wN
  obtain ⟨A, n, cap, rfl, hn, hrs⟩ := rules_of hv h
  by_cases h8 : n ≤ 8
  · obtain ⟨rs, hl, hR, _⟩ := hrs (by omega)
    exact evLists_core _ rs i fr ut N W ⟨tab_of hL, ktab_of hL⟩ hR (by omega) hf1 hf2 hu1 hu2 hN1 hN2
  · have HT := Lib.hid (show Tabs W from ⟨tab_of hL, ktab_of hL⟩)
    have hn8 : (8 : Int) < (n : Int) := by omega
    clear hrs h hv hL
    go_enter Tryd.func7, Tryd.ntmps7
    go_wp2_with fail
    refine (works_any _ (by exact HT.out)).mono ?_
    rintro e w' ⟨rfl, hb⟩
    go_wp2_with fail
    go_ret
    exact ⟨rfl, hb⟩
end Go.Proofs.YtpimibchameakaaDoor
