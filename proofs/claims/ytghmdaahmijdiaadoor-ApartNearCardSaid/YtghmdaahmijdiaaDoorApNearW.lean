/-
  The walk of the law ApartNear.
-/
import Derived.Test.YtghmdaahmijdiaaDoorAp
import Derived.Test.YtghmdaahmijdiaaDoorApEx
import Derived.Test.YtghmdaahmijdiaaDoorDrSet
import Derived.Test.YtghmdaahmijdiaaDoorDrArg
import Derived.Deep.DeepCutAuto
namespace Go.Proofs.YtghmdaahmijdiaaDoor
open Go.RowKit Cv
set_option linter.unusedVariables false
set_option linter.unusedSimpArgs false

namespace Cv
theorem evV_exn (o : Option Ev) : ∃ (y r n : Int) (b : Bool), evV o = .tuple #[.agg #[.int .i64 y, .int .i64 r, .int .i64 n], .bool b] ∧ ((b = false ∧ o = none ∧ n = 0) ∨ (b = true ∧ o = some ⟨y, r, n⟩)) := by
  cases o with
  | none => exact ⟨0, 0, 0, false, rfl, .inl ⟨rfl, rfl, rfl⟩⟩
  | some e => exact ⟨e.year, e.rule, e.nom, true, rfl, .inr ⟨rfl, rfl⟩⟩
/-- far, said by the neighbours -/
theorem far_nbrs {rs : _root_.List Ru} {N : Int} {a b c : Option Ev} (h1 : -1152921504606846976 ≤ N) (h2 : N ≤ 1152921504606846976) (ha : BefIs rs N a) (hb : AftIs rs N b) (hc : AftIs rs (N - 1) c) :
    FarIs rs N ↔ (∀ x, a = some x → 259200 ≤ N - x.nom) ∧ (∀ x, b = some x → 259200 ≤ x.nom - N) ∧ (∀ x, c = some x → x.nom ≠ N) := by
  have e := cl_in h1 h2
  constructor
  · intro h
    refine ⟨fun x hx => ?_, fun x hx => ?_, fun x hx => ?_⟩
    · subst hx
      have := h x ha.1; have := ha.2.1; omega
    · subst hx
      have := h x hb.1; have := hb.2.1; omega
    · subst hx
      have := h x hc.1; have := hc.2.1; omega
  · rintro ⟨p, q, r⟩ x hx ⟨k1, k2⟩
    rw [e] at k1 k2
    rcases Int.lt_trichotomy x.nom N with h3 | h3 | h3
    · cases a with
      | none => exact ha x hx h3
      | some y =>
        have h4 := p y rfl
        have h5 := ha.2.2 x hx h3
        have h6 : ¬ y.nom < x.nom := fun h => h5 (by unfold Ev.lt; omega)
        omega
    · cases c with
      | none => exact hc x hx (by omega)
      | some y =>
        have h4 := r y rfl
        have h5 := hc.2.2 x hx (by omega)
        have h6 : ¬ x.nom < y.nom := fun h => h5 (by unfold Ev.lt; omega)
        have := hc.2.1
        omega
    · cases b with
      | none => exact hb x hx h3
      | some y =>
        have h4 := q y rfl
        have h5 := hb.2.2 x hx h3
        have h6 : ¬ x.nom < y.nom := fun h => h5 (by unfold Ev.lt; omega)
        omega
end Cv

set_option maxRecDepth 100000 in
set_option maxHeartbeats 16000000 in
theorem apNear_core (v : Value) (bs : _root_.List Int) (y sec : Int) (W : World) (hT : Tabs W) (h : Drf v bs W) (hy1 : 0 ≤ y) (hy2 : y ≤ 255) (hs1 : -2147483648 ≤ sec) (hs2 : sec ≤ 2147483647) :
    Calls Tryd.prog 9 #[v, .int .u8 y, .int .i32 sec] W fun e w' => e = .returned (.bool true) ∧ Below W.heap.size W w' := by
  have HT := Lib.hid hT
  have HD := Lib.hid h
  clear hT h
  obtain ⟨p, hp⟩ : ∃ p, sec.tmod 518400 = p := ⟨_, rfl⟩
  have hpb : -518400 ≤ p ∧ p ≤ 518400 := by
    rw [← hp]
    rcases Int.le_total 0 sec with h | h
    · rw [Int.tmod_eq_emod_of_nonneg h]; omega
    · have h1 : sec.tmod 518400 = -((-sec).tmod 518400) := by rw [Int.neg_tmod]; omega
      rw [h1, Int.tmod_eq_emod_of_nonneg (by omega)]; omega
  obtain ⟨hp1, hp2⟩ := hpb
  go_enter Tryd.func9, Tryd.ntmps9
  go_wp2_with fail
  refine (made17s_any _ bs ⟨#[82]⟩ _ (by exact HD.out)).mono ?_
  rintro e w1 ⟨ov, rs, sv, rfl, h2, h5, hmp, _, hown, hb1⟩
  have HMP := Lib.hid hmp
  have HR := Lib.hid (rul_of_own hown (by omega) (fun r hr => (hmp.each r hr).ok.fits))
  have HB := Lib.hid hb1
  clear hmp hown hb1 h2 h5 HD
  go_wp2_with fail
  refine (evIn_any _ rs 1900 (1900 + y) _ (by exact HT.out.below HB.out) (by exact HR.out) (by omega) (by omega) (by omega) (by omega)).mono ?_
  rintro e w2 ⟨hb, ⟨_, h2, _⟩ | ⟨_, V, L, hI, rfl, hO, hLL⟩⟩
  · exfalso; omega
  obtain ⟨Aa, ca, hVa⟩ := (RdEv.own hO.out).sl
  subst hVa
  obtain ⟨n, hn⟩ : ∃ n, n = L.length := ⟨_, rfl⟩
  have HA := Lib.hid (RdEv.own hO.out)
  rw [← hn] at HA hLL ⊢
  have HN := Lib.hid hn
  have HI := hI
  have HB := Lib.hid (bel_trans HB.out hb)
  have HR := Lib.hid (Rul.below HR.out hb)
  have HT := Lib.hid (HT.out.below HB.out)
  clear hb hO hn hI
  go_upto_if 34 with fail
  go_cut [10] (fun s w' => ∃ N : Int, s = .int .i64 N ∧ -80000000000000000 ≤ N ∧ N ≤ 80000000000000000 ∧ w' = w2)
  case first =>
    cases n with
    | zero =>
      go_wp2_with fail
      go_meet
      case rel => exact ⟨sec, rfl, by omega, by omega, rfl⟩
    | succ m =>
      obtain ⟨e, he⟩ : ∃ e, L[m]? = some e := ⟨_, _root_.List.getElem?_eq_getElem (by have := HN.out; omega)⟩
      obtain ⟨g, off, rfl, a0, a1, a2⟩ := HA.out.at_ he
      obtain ⟨hn1, hn2⟩ := nom_fit ((HI.out.2 e).1 (_root_.List.mem_of_getElem? he)).1
      obtain ⟨ey, er, en⟩ := e
      dsimp only at a0 a1 a2 hn1 hn2
      clear he
      have hm0 : (0 : Int) ≤ (m : Int) := by omega
      have hm1 : (m : Int) ≤ 1001000 := by omega
      have hi1 : decide ((0 : Int) < (m : Int) + 1) = true := by simp <;> omega
      have hi2 : IntKind.i64.wrap ((m : Int) + 1 - 1) = (m : Int) := by rw [IntWalk.i64_in _ (by omega)]; omega
      go_wp2_with fail
      go_meet
      case rel => exact ⟨en + p, rfl, by omega, by omega, rfl⟩
  case rest =>
    obtain ⟨N, rfl, hN1, hN2, rfl⟩ := hcut
    clear hp HA
    go_wp2_with fail
    refine (evBefore_any _ rs N _ (by exact HT.out) (by exact HR.out) (by omega) (by omega)).mono ?_
    rintro e w3 ⟨oa, ha, he, hb⟩
    obtain ⟨ay, ar, an, ab, hv, hda⟩ := evV_exn oa
    rw [hv] at he
    subst he
    clear hv
    have HX := Lib.hid (bel_trans hb (bel_alloc w3 (.cells #[.int .i64 ay, .int .i64 ar, .int .i64 an] 25)))
    have Ka := Lib.hid (heap_alloc_new w3 (.cells #[.int .i64 ay, .int .i64 ar, .int .i64 an] 25))
    clear hb
    go_wp2_with fail
    refine (evAfter_any _ rs N _ (by exact HT.out.below HX.out) (by exact HR.out.below HX.out) (by omega) (by omega)).mono ?_
    rintro e w4 ⟨ob, hbb, he, hb⟩
    obtain ⟨by_, br, bn, bb, hv, hdb⟩ := evV_exn ob
    rw [hv] at he
    subst he
    clear hv
    have HX := Lib.hid (bel_trans HX.out (bel_trans hb (bel_alloc w4 (.cells #[.int .i64 by_, .int .i64 br, .int .i64 bn] 25))))
    have Ka := Lib.hid (block_below Ka.out (bel_trans hb (bel_alloc w4 (.cells #[.int .i64 by_, .int .i64 br, .int .i64 bn] 25))))
    have Kb := Lib.hid (heap_alloc_new w4 (.cells #[.int .i64 by_, .int .i64 br, .int .i64 bn] 25))
    clear hb
    go_wp2_with fail
    refine (evAfter_any _ rs (N - 1) _ (by exact HT.out.below HX.out) (by exact HR.out.below HX.out) (by omega) (by omega)).mono ?_
    rintro e w5 ⟨oc, hcc, he, hb⟩
    obtain ⟨cy, cr, cn, cb, hv, hdc⟩ := evV_exn oc
    rw [hv] at he
    subst he
    clear hv
    have HX := Lib.hid (bel_trans HX.out (bel_trans hb (bel_alloc w5 (.cells #[.int .i64 cy, .int .i64 cr, .int .i64 cn] 25))))
    have Ka := Lib.hid (block_below Ka.out (bel_trans hb (bel_alloc w5 (.cells #[.int .i64 cy, .int .i64 cr, .int .i64 cn] 25))))
    have Kb := Lib.hid (block_below Kb.out (bel_trans hb (bel_alloc w5 (.cells #[.int .i64 cy, .int .i64 cr, .int .i64 cn] 25))))
    have Kc := Lib.hid (heap_alloc_new w5 (.cells #[.int .i64 cy, .int .i64 cr, .int .i64 cn] 25))
    clear hb
    have HFAR := Lib.hid (far_nbrs (by omega) (by omega) ha.out hbb.out hcc.out)
    have HA1 := ha
    have HB1 := hbb
    have HC1 := hcc
    have HDA := Lib.hid hda
    have HDB := Lib.hid hdb
    have HDC := Lib.hid hdc
    clear hda hdb hdc
    go_upto_region 11 with fail
    go_cut [17] (fun s w' => ∃ t : Bool, s = .bool t ∧ Hid (t = true ↔ FarIs rs N) ∧ w' = w5.alloc (.cells #[.int .i64 cy, .int .i64 cr, .int .i64 cn] 25))
    case first =>
      have hna : -70000000000000000 ≤ an ∧ an ≤ 70000000000000000 := by
        rcases HDA.out with ⟨_, _, rfl⟩ | ⟨_, rfl⟩
        · omega
        · exact nom_fit HA1.out.1
      have hnb : -70000000000000000 ≤ bn ∧ bn ≤ 70000000000000000 := by
        rcases HDB.out with ⟨_, _, rfl⟩ | ⟨_, rfl⟩
        · omega
        · exact nom_fit HB1.out.1
      obtain ⟨hna1, hna2⟩ := hna
      obtain ⟨hnb1, hnb2⟩ := hnb
      clear HA1 HB1 HC1
      have x0 := cellB Ka.out (i := 0) rfl
      have x1 := cellB Ka.out (i := 1) rfl
      have x2 := cellB Ka.out (i := 2) rfl
      have y0 := cellB Kb.out (i := 0) rfl
      have y1 := cellB Kb.out (i := 1) rfl
      have y2 := cellB Kb.out (i := 2) rfl
      have z0 := cellB Kc.out (i := 0) rfl
      have z1 := cellB Kc.out (i := 1) rfl
      have z2 := cellB Kc.out (i := 2) rfl
      rcases HDA.out with ⟨rfl, hq, hq0⟩ | ⟨rfl, hq⟩
      · have Qa := Lib.hid hq
        clear hq hq0
        rcases HDB.out with ⟨rfl, hq, hq0⟩ | ⟨rfl, hq⟩
        · have Qb := Lib.hid hq
          clear hq hq0
          rcases HDC.out with ⟨rfl, hq, hq0⟩ | ⟨rfl, hq⟩
          · have Qc := Lib.hid hq
            clear hq hq0
            go_wp2_with fail
            go_meet
            case rel => exact ⟨true, rfl, Lib.hid (by rw [HFAR.out]; simp only [true_iff]; exact ⟨(fun z hz => by rw [Qa.out] at hz; cases hz), (fun z hz => by rw [Qb.out] at hz; cases hz), (fun z hz => by rw [Qc.out] at hz; cases hz)⟩), rfl⟩
          · have Qc := Lib.hid hq
            clear hq
            by_cases hlc : cn = N
            · have hdc1 : (cn == N) = true := by simp [hlc]
              have hdc2 : (cn != N) = false := by simp [hlc]
              have HLC := Lib.hid hlc
              clear hlc
              go_wp2_with fail
              go_meet
              case rel => exact ⟨false, rfl, Lib.hid (by rw [HFAR.out]; simp only [Bool.false_eq_true, false_iff]; intro h; exact h.2.2 _ Qc.out HLC.out), rfl⟩
            · have hdc1 : (cn == N) = false := by simp [hlc]
              have hdc2 : (cn != N) = true := by simp [hlc]
              go_wp2_with fail
              go_meet
              case rel => exact ⟨true, rfl, Lib.hid (by rw [HFAR.out]; simp only [true_iff]; exact ⟨(fun z hz => by rw [Qa.out] at hz; cases hz), (fun z hz => by rw [Qb.out] at hz; cases hz), (fun z hz => by rw [Qc.out] at hz; cases hz; exact hlc)⟩), rfl⟩
        · have Qb := Lib.hid hq
          clear hq
          by_cases hlb : 259200 ≤ bn - N
          · have hdb : decide (259200 ≤ bn - N) = true := by simp; omega
            rcases HDC.out with ⟨rfl, hq, hq0⟩ | ⟨rfl, hq⟩
            · have Qc := Lib.hid hq
              clear hq hq0
              go_wp2_with fail
              go_meet
              case rel => exact ⟨true, rfl, Lib.hid (by rw [HFAR.out]; simp only [true_iff]; exact ⟨(fun z hz => by rw [Qa.out] at hz; cases hz), (fun z hz => by rw [Qb.out] at hz; cases hz; dsimp only; omega), (fun z hz => by rw [Qc.out] at hz; cases hz)⟩), rfl⟩
            · have Qc := Lib.hid hq
              clear hq
              by_cases hlc : cn = N
              · have hdc1 : (cn == N) = true := by simp [hlc]
                have hdc2 : (cn != N) = false := by simp [hlc]
                have HLC := Lib.hid hlc
                clear hlc
                go_wp2_with fail
                go_meet
                case rel => exact ⟨false, rfl, Lib.hid (by rw [HFAR.out]; simp only [Bool.false_eq_true, false_iff]; intro h; exact h.2.2 _ Qc.out HLC.out), rfl⟩
              · have hdc1 : (cn == N) = false := by simp [hlc]
                have hdc2 : (cn != N) = true := by simp [hlc]
                go_wp2_with fail
                go_meet
                case rel => exact ⟨true, rfl, Lib.hid (by rw [HFAR.out]; simp only [true_iff]; exact ⟨(fun z hz => by rw [Qa.out] at hz; cases hz), (fun z hz => by rw [Qb.out] at hz; cases hz; dsimp only; omega), (fun z hz => by rw [Qc.out] at hz; cases hz; exact hlc)⟩), rfl⟩
          · have hdb : decide (259200 ≤ bn - N) = false := by simp; omega
            go_wp2_with fail
            go_meet
            case rel => exact ⟨false, rfl, Lib.hid (by rw [HFAR.out]; simp only [Bool.false_eq_true, false_iff]; intro h; have := h.2.1 _ Qb.out; dsimp only at this; omega), rfl⟩
      · have Qa := Lib.hid hq
        clear hq
        by_cases hla : 259200 ≤ N - an
        · have hda : decide (259200 ≤ N - an) = true := by simp; omega
          rcases HDB.out with ⟨rfl, hq, hq0⟩ | ⟨rfl, hq⟩
          · have Qb := Lib.hid hq
            clear hq hq0
            rcases HDC.out with ⟨rfl, hq, hq0⟩ | ⟨rfl, hq⟩
            · have Qc := Lib.hid hq
              clear hq hq0
              go_wp2_with fail
              go_meet
              case rel => exact ⟨true, rfl, Lib.hid (by rw [HFAR.out]; simp only [true_iff]; exact ⟨(fun z hz => by rw [Qa.out] at hz; cases hz; dsimp only; omega), (fun z hz => by rw [Qb.out] at hz; cases hz), (fun z hz => by rw [Qc.out] at hz; cases hz)⟩), rfl⟩
            · have Qc := Lib.hid hq
              clear hq
              by_cases hlc : cn = N
              · have hdc1 : (cn == N) = true := by simp [hlc]
                have hdc2 : (cn != N) = false := by simp [hlc]
                have HLC := Lib.hid hlc
                clear hlc
                go_wp2_with fail
                go_meet
                case rel => exact ⟨false, rfl, Lib.hid (by rw [HFAR.out]; simp only [Bool.false_eq_true, false_iff]; intro h; exact h.2.2 _ Qc.out HLC.out), rfl⟩
              · have hdc1 : (cn == N) = false := by simp [hlc]
                have hdc2 : (cn != N) = true := by simp [hlc]
                go_wp2_with fail
                go_meet
                case rel => exact ⟨true, rfl, Lib.hid (by rw [HFAR.out]; simp only [true_iff]; exact ⟨(fun z hz => by rw [Qa.out] at hz; cases hz; dsimp only; omega), (fun z hz => by rw [Qb.out] at hz; cases hz), (fun z hz => by rw [Qc.out] at hz; cases hz; exact hlc)⟩), rfl⟩
          · have Qb := Lib.hid hq
            clear hq
            by_cases hlb : 259200 ≤ bn - N
            · have hdb : decide (259200 ≤ bn - N) = true := by simp; omega
              rcases HDC.out with ⟨rfl, hq, hq0⟩ | ⟨rfl, hq⟩
              · have Qc := Lib.hid hq
                clear hq hq0
                go_wp2_with fail
                go_meet
                case rel => exact ⟨true, rfl, Lib.hid (by rw [HFAR.out]; simp only [true_iff]; exact ⟨(fun z hz => by rw [Qa.out] at hz; cases hz; dsimp only; omega), (fun z hz => by rw [Qb.out] at hz; cases hz; dsimp only; omega), (fun z hz => by rw [Qc.out] at hz; cases hz)⟩), rfl⟩
              · have Qc := Lib.hid hq
                clear hq
                by_cases hlc : cn = N
                · have hdc1 : (cn == N) = true := by simp [hlc]
                  have hdc2 : (cn != N) = false := by simp [hlc]
                  have HLC := Lib.hid hlc
                  clear hlc
                  go_wp2_with fail
                  go_meet
                  case rel => exact ⟨false, rfl, Lib.hid (by rw [HFAR.out]; simp only [Bool.false_eq_true, false_iff]; intro h; exact h.2.2 _ Qc.out HLC.out), rfl⟩
                · have hdc1 : (cn == N) = false := by simp [hlc]
                  have hdc2 : (cn != N) = true := by simp [hlc]
                  go_wp2_with fail
                  go_meet
                  case rel => exact ⟨true, rfl, Lib.hid (by rw [HFAR.out]; simp only [true_iff]; exact ⟨(fun z hz => by rw [Qa.out] at hz; cases hz; dsimp only; omega), (fun z hz => by rw [Qb.out] at hz; cases hz; dsimp only; omega), (fun z hz => by rw [Qc.out] at hz; cases hz; exact hlc)⟩), rfl⟩
            · have hdb : decide (259200 ≤ bn - N) = false := by simp; omega
              go_wp2_with fail
              go_meet
              case rel => exact ⟨false, rfl, Lib.hid (by rw [HFAR.out]; simp only [Bool.false_eq_true, false_iff]; intro h; have := h.2.1 _ Qb.out; dsimp only at this; omega), rfl⟩
        · have hda : decide (259200 ≤ N - an) = false := by simp; omega
          go_wp2_with fail
          go_meet
          case rel => exact ⟨false, rfl, Lib.hid (by rw [HFAR.out]; simp only [Bool.false_eq_true, false_iff]; intro h; have := h.1 _ Qa.out; dsimp only at this; omega), rfl⟩
    case rest =>
      obtain ⟨t, rfl, HF, rfl⟩ := hcut
      go_wp2_with fail
      refine (apFar_any _ rs N _ (by exact HT.out.below HX.out) (by exact HR.out.below HX.out) (by omega) (by omega)).mono ?_
      rintro e w6 ⟨u, hu, rfl, hb⟩
      have htu : u = t := by
        have h1 := hu.out
        have h2 := HF.out
        cases u <;> cases t <;> simp_all
      subst htu
      have HB := Lib.hid (bel_trans HB.out (bel_trans HX.out hb))
      have HT := Lib.hid (HT.out.below (bel_trans HX.out hb))
      clear hb hu
      go_wp2_with fail
      refine (works18_any _ (by exact HT.out)).mono ?_
      rintro e w7 ⟨rfl, hb⟩
      go_wp2_with fail
      go_ret
      exact ⟨rfl, bel_trans HB.out hb⟩

set_option maxRecDepth 100000 in
theorem apartNear.apartNear_walk (W : World) (hL : laidMetH Tryd.prog Rows.apartNearRow.laid W) (v : Value) {H : Type} {enc : TypeId × Value → H} {base : Nat} {d : DataW H} {p : List MemPlace} (hv : Value.okWide Tryd.prog W .any base 38 v)
    (h : DataW.Trod enc Tryd.prog W 0 (fun _ => true) true 38 v d p) (q : Int) (wq : (Lit.int .u8 q).wf = true) (f : Int) (wf : (Lit.int .i32 f).wf = true) :
    Calls Tryd.prog 9 #[v, .int .u8 q, .int .i32 f] W fun e w' => e = .returned (.bool true) ∧ Below W.heap.size W w' := by
  obtain ⟨bs, hD⟩ := drf_of hv h
  obtain ⟨hq1, hq2⟩ := byte_of wq
  obtain ⟨hf1, hf2⟩ := i32_of wf
  exact apNear_core v bs q f W ⟨tab_of hL, ktab_of hL⟩ hD hq1 hq2 hf1 hf2
end Go.Proofs.YtghmdaahmijdiaaDoor
