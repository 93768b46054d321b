/-
  The walk of the law UntilOrder.
-/
import Derived.Test.YtoaimfadccepiaaDoorUntEra
import Derived.Test.YtoaimfadccepiaaDoorUntNam
import Derived.Test.YtoaimfadccepiaaDoorUntLawM
import Derived.Test.YtoaimfadccepiaaDoorUntWk
import Derived.Test.YtoaimfadccepiaaDoorUntDr
import Derived.Deep.RegionHeld3
import Derived.Deep.DeepCutAuto
import Derived.Deep.MidRow
namespace Go.Proofs.YtoaimfadccepiaaDoor
open Go.RowKit Cv
set_option linter.unusedVariables false
set_option linter.unusedSimpArgs false

namespace Cv
/-- the base save of an era of a kind -/
def Lq (q ls : Int) : Int := if q = 2 then ls else 0
theorem Lq_two (ls : Int) : Lq 2 ls = ls := by unfold Lq; rw [if_pos rfl]
theorem Lq_ne {q : Int} (h : q ≠ 2) (ls : Int) : Lq q ls = 0 := by unfold Lq; rw [if_neg h]
theorem sz_alloc (V : World) (o : Obj) : (V.alloc o).heap.size = V.heap.size + 1 := by show (V.heap.push o).size = _; simp
theorem sz_drew (V : World) : V.drew.heap.size = V.heap.size := rfl
theorem there13 {V : World} {b : Nat} {t : TypeId} {C : Array Value} (h : V.heap[b]? = some (.cells C t)) (hC : C.size = 13) : V.there b 0 13 := by
  intro j hj
  unfold World.cell? World.frozen?
  rw [h]
  have : j < C.size := by omega
  simp [this]
theorem set13c (l : _root_.List Value) (hl : l.length = 13) {V : World} {b : Nat} {t : TypeId} {C : Array Value} (h : V.heap[b]? = some (.cells C t)) (hC : C.size = 13) : (V.setCells b 0 l).heap[b]? = some (.cells l.toArray t) := by
  obtain ⟨c⟩ := C
  match l, hl, c, hC with
  | [d0, d1, d2, d3, d4, d5, d6, d7, d8, d9, d10, d11, d12], _, [a0, a1, a2, a3, a4, a5, a6, a7, a8, a9, a10, a11, a12], _ => simp [World.setCells, World.setCell, Array.getElem?_modify, h]
/-- the rules lie below a block -/
def RulB (v : Value) (n : Nat) : Prop := ∀ (A : Option Addr) (l c : Nat), v = .slice A l c → ∀ g off, A = some ⟨g, off, none⟩ → g < n
theorem rulB_of {A : Option Addr} {l c : Nat} {rs : _root_.List Ru} {w : World} (h : Rul (.slice A l c) rs w) (hl : 0 < rs.length) : RulB (.slice A l c) w.heap.size := by
  intro A' l' c' e g off hA
  injection e with e1 e2 e3
  subst e1
  obtain ⟨r, hr⟩ : ∃ r, rs[0]? = some r := by rw [_root_.List.getElem?_eq_getElem hl]; exact ⟨_, rfl⟩
  obtain ⟨g', off', e4, hrg⟩ := h.at_ hr
  rw [hA] at e4
  injection e4 with e5
  injection e5 with e6
  subst e6
  obtain ⟨h0, _⟩ := range11 hrg
  exact lt_of_cell h0
theorem rul_setCells {v : Value} {rs : _root_.List Ru} {V : World} {b o n : Nat} {l : _root_.List Value} (h : Rul v rs V) (hb : n ≤ b) (hv : RulB v n) : Rul v rs (V.setCells b o l) := by
  obtain ⟨a, c, h1, h2, h3, h4⟩ := h
  refine ⟨a, c, h1, h2, h3, fun i r hr => ?_⟩
  obtain ⟨g, off, e, k⟩ := h4 i r hr
  have := hv a _ _ h1 g off e
  exact ⟨g, off, e, fun j x hx => cell_setCells (k j x hx) (by omega)⟩
/-- the maker of eras, of one kind -/
def EraFam (kind off save q o s : Int) (st : ByteArray) : Prop := ∀ (y m b k w n a ls : Int) (W : World), (Lit.int .u16 y).wf = true → (Lit.int .u8 m).wf = true → (Lit.int .u8 b).wf = true → (Lit.int .u8 k).wf = true → (Lit.int .u8 w).wf = true → (Lit.int .u8 n).wf = true → (Lit.int .i32 a).wf = true → -10800 ≤ ls → ls ≤ 0 →
  Calls Tryd.prog 15 #[.agg #[.int .u16 y, .int .u8 m, .int .u8 b, .int .u8 k, .int .u8 w, .int .u8 n, .int .i32 a], .int .u8 kind, .int .i32 off, .int .i32 save, .int .i64 ls] W (EraW q o s (Lq q ls) st W)
/-- instants of its eras are near their nominal times -/
def InstFam (q o s : Int) (st : ByteArray) : Prop := ∀ (y m k w d sec base L : Int) (v : Value) (rs : _root_.List Ru) (sv : Int) (W : World), Tabs W → Rul v rs W → MadeP sv rs → L = Lq q (leastL rs) → untC true y m k w d sec base L = 0 →
  Calls Tryd.prog 16 #[.agg #[.int .i64 o, .int .i64 q, .int .i64 s, .string st, .string ⟨#[88]⟩, .bool true, .int .i64 y, .int .i64 m, .int .i64 k, .int .i64 w, .int .i64 d, .int .i64 sec, .int .i64 base], v] W fun e w' => ∃ z, Hid (untN true y m k w d sec base L - 32400 ≤ z ∧ z ≤ untN true y m k w d sec base L + 32400) ∧ e = .returned (.tuple #[.int .i64 z, .int .i64 0]) ∧ Below W.heap.size W w'
end Cv

theorem eraFam0 (kind off save o s : Int) (kd1 : 0 ≤ kind) (kd2 : kind ≤ 255) (of1 : -2147483648 ≤ off) (of2 : off ≤ 2147483647) (sv1 : -2147483648 ≤ save) (sv2 : save ≤ 2147483647) (hq : kind % 3 = 0) (ho : off.tmod 21600 = o) (o1 : -21600 < o) (o2 : o < 21600) : EraFam kind off save 0 o 0 ⟨#[]⟩ := by
  intro y m b k w n a ls W wy wm wb wk ww wn wa l1 l2
  rw [Lq_ne (by decide)]
  exact era0_any y m b k w n a kind off save ls o W wy wm wb wk ww wn wa kd1 kd2 of1 of2 sv1 sv2 l1 l2 hq ho o1 o2
theorem instFam0 (o s : Int) (o1 : -21600 < o) (o2 : o < 21600) (s1 : -10800 < s) (s2 : s < 10800) : InstFam 0 o 0 ⟨#[]⟩ := by
  intro y m k w d sec base L v rs sv W hT hR hM hL hC
  have hls := made_least hM
  rw [Lq_ne (by decide)] at hL
  obtain ⟨x, c, hx⟩ : ∃ x c, on y m k w d = (x, c) := ⟨_, _, rfl⟩
  obtain ⟨-, -, -, hok⟩ := untC_zero hC
  have hub : base = 0 ∨ base = 1 ∨ base = 2 := by have := hok.2.2.1; have := hok.2.2.2.1; omega
  subst hL
  rcases hub with rfl | rfl | rfl
  · refine (untInst00 o 0 ⟨#[]⟩ ⟨#[88]⟩ y m k w d sec x c v W hT hC hx (by omega) (by omega) (by omega) (by omega)).mono ?_
    rintro e w' ⟨rfl, hb⟩
    exact ⟨_, Lib.hid (by rw [untN_not (by decide) hC hx]; omega), rfl, hb⟩
  · refine (untInst01 o 0 ⟨#[]⟩ ⟨#[88]⟩ y m k w d sec x c v W hT hC hx (by omega) (by omega) (by omega) (by omega)).mono ?_
    rintro e w' ⟨rfl, hb⟩
    exact ⟨_, Lib.hid (by rw [untN_std hC hx]; omega), rfl, hb⟩
  · refine (untInst02 o 0 ⟨#[]⟩ ⟨#[88]⟩ y m k w d sec x c v W hT hC hx (by omega) (by omega) (by omega) (by omega)).mono ?_
    rintro e w' ⟨rfl, hb⟩
    exact ⟨_, Lib.hid (by rw [untN_not (by decide) hC hx]; omega), rfl, hb⟩
theorem eraFam1 (kind off save o s : Int) (kd1 : 0 ≤ kind) (kd2 : kind ≤ 255) (of1 : -2147483648 ≤ off) (of2 : off ≤ 2147483647) (sv1 : -2147483648 ≤ save) (sv2 : save ≤ 2147483647) (hq : kind % 3 = 1) (ho : off.tmod 21600 = o) (o1 : -21600 < o) (o2 : o < 21600) (hs : save.tmod 10800 = s) (s1 : -10800 < s) (s2 : s < 10800) : EraFam kind off save 1 o s ⟨#[]⟩ := by
  intro y m b k w n a ls W wy wm wb wk ww wn wa l1 l2
  rw [Lq_ne (by decide)]
  exact era1_any y m b k w n a kind off save ls o s W wy wm wb wk ww wn wa kd1 kd2 of1 of2 sv1 sv2 l1 l2 hq ho o1 o2 hs s1 s2
theorem instFam1 (o s : Int) (o1 : -21600 < o) (o2 : o < 21600) (s1 : -10800 < s) (s2 : s < 10800) : InstFam 1 o s ⟨#[]⟩ := by
  intro y m k w d sec base L v rs sv W hT hR hM hL hC
  have hls := made_least hM
  rw [Lq_ne (by decide)] at hL
  obtain ⟨x, c, hx⟩ : ∃ x c, on y m k w d = (x, c) := ⟨_, _, rfl⟩
  obtain ⟨-, -, -, hok⟩ := untC_zero hC
  have hub : base = 0 ∨ base = 1 ∨ base = 2 := by have := hok.2.2.1; have := hok.2.2.2.1; omega
  subst hL
  rcases hub with rfl | rfl | rfl
  · refine (untInst10 o s ⟨#[]⟩ ⟨#[88]⟩ y m k w d sec x c v W hT hC hx (by omega) (by omega) (by omega) (by omega)).mono ?_
    rintro e w' ⟨rfl, hb⟩
    exact ⟨_, Lib.hid (by rw [untN_not (by decide) hC hx]; omega), rfl, hb⟩
  · refine (untInst11 o s ⟨#[]⟩ ⟨#[88]⟩ y m k w d sec x c v W hT hC hx (by omega) (by omega) (by omega) (by omega)).mono ?_
    rintro e w' ⟨rfl, hb⟩
    exact ⟨_, Lib.hid (by rw [untN_std hC hx]; omega), rfl, hb⟩
  · refine (untInst12 o s ⟨#[]⟩ ⟨#[88]⟩ y m k w d sec x c v W hT hC hx (by omega) (by omega) (by omega) (by omega)).mono ?_
    rintro e w' ⟨rfl, hb⟩
    exact ⟨_, Lib.hid (by rw [untN_not (by decide) hC hx]; omega), rfl, hb⟩
theorem eraFam2 (kind off save o s : Int) (kd1 : 0 ≤ kind) (kd2 : kind ≤ 255) (of1 : -2147483648 ≤ off) (of2 : off ≤ 2147483647) (sv1 : -2147483648 ≤ save) (sv2 : save ≤ 2147483647) (hq : kind % 3 = 2) (ho : off.tmod 21600 = o) (o1 : -21600 < o) (o2 : o < 21600) : EraFam kind off save 2 o 0 ⟨#[82]⟩ := by
  intro y m b k w n a ls W wy wm wb wk ww wn wa l1 l2
  rw [Lq_two]
  exact era2_any y m b k w n a kind off save ls o W wy wm wb wk ww wn wa kd1 kd2 of1 of2 sv1 sv2 l1 l2 hq ho o1 o2
theorem instFam2 (o s : Int) (o1 : -21600 < o) (o2 : o < 21600) (s1 : -10800 < s) (s2 : s < 10800) : InstFam 2 o 0 ⟨#[82]⟩ := by
  intro y m k w d sec base L v rs sv W hT hR hM hL hC
  have hls := made_least hM
  rw [Lq_two] at hL
  obtain ⟨x, c, hx⟩ : ∃ x c, on y m k w d = (x, c) := ⟨_, _, rfl⟩
  obtain ⟨-, -, -, hok⟩ := untC_zero hC
  have hub : base = 0 ∨ base = 1 ∨ base = 2 := by have := hok.2.2.1; have := hok.2.2.2.1; omega
  subst hL
  rcases hub with rfl | rfl | rfl
  · rw [← hls.2.2] at hC ⊢
    refine (untInst20 o 0 ⟨#[82]⟩ ⟨#[88]⟩ y m k w d sec x c v rs W hT hR (made_tame hM) (fun z => by have := made_befS hM z; omega) hC hx (by omega) (by omega)).mono ?_
    rintro e w' ⟨ob, hob, rfl, hb⟩
    have hbs := made_befS hM ob
    exact ⟨_, Lib.hid (by rw [untN_not (by decide) hC hx]; omega), rfl, hb⟩
  · rw [← hls.2.2] at hC ⊢
    refine (untInst21 o 0 ⟨#[82]⟩ ⟨#[88]⟩ y m k w d sec x c v rs W hT hR (made_tame hM) (fun z => by have := made_befS hM z; omega) hC hx (by omega) (by omega)).mono ?_
    rintro e w' ⟨ob, hob, rfl, hb⟩
    have hbs := made_befS hM ob
    exact ⟨_, Lib.hid (by rw [untN_std hC hx]; omega), rfl, hb⟩
  · rw [← hls.2.2] at hC ⊢
    refine (untInst22 o 0 ⟨#[82]⟩ ⟨#[88]⟩ y m k w d sec x c v rs W hT hR (made_tame hM) (fun z => by have := made_befS hM z; omega) hC hx (by omega) (by omega)).mono ?_
    rintro e w' ⟨ob, hob, rfl, hb⟩
    have hbs := made_befS hM ob
    exact ⟨_, Lib.hid (by rw [untN_not (by decide) hC hx]; omega), rfl, hb⟩

set_option maxRecDepth 100000 in
set_option maxHeartbeats 32000000 in
theorem untOrder_core (kind off save q o s : Int) (st : ByteArray) (hE : EraFam kind off save q o s st) (hI : InstFam q o s st) (dy dm db dk dw dn da fy fm fb fk fw fn fa : Int) (v : Value) (bs : _root_.List Int) (W : World) (hT : Tabs W) (h : Drf v bs W) (dwy : (Lit.int .u16 dy).wf = true) (dwm : (Lit.int .u8 dm).wf = true) (dwb : (Lit.int .u8 db).wf = true) (dwk : (Lit.int .u8 dk).wf = true) (dww : (Lit.int .u8 dw).wf = true) (dwn : (Lit.int .u8 dn).wf = true) (dwa : (Lit.int .i32 da).wf = true) (fwy : (Lit.int .u16 fy).wf = true) (fwm : (Lit.int .u8 fm).wf = true) (fwb : (Lit.int .u8 fb).wf = true) (fwk : (Lit.int .u8 fk).wf = true) (fww : (Lit.int .u8 fw).wf = true) (fwn : (Lit.int .u8 fn).wf = true) (fwa : (Lit.int .i32 fa).wf = true) :
    Calls Tryd.prog 6 #[.agg #[.int .u16 dy, .int .u8 dm, .int .u8 db, .int .u8 dk, .int .u8 dw, .int .u8 dn, .int .i32 da], .agg #[.int .u16 fy, .int .u8 fm, .int .u8 fb, .int .u8 fk, .int .u8 fw, .int .u8 fn, .int .i32 fa], .int .u8 kind, .int .i32 off, .int .i32 save, v] W fun e w' => e = .returned (.bool true) ∧ Below W.heap.size W w' := by
  have HE := Lib.hid hE
  have HI := Lib.hid hI
  have HT := Lib.hid hT
  have hb0 : Below W.heap.size W ((W.alloc (.cells #[.int .u16 dy, .int .u8 dm, .int .u8 db, .int .u8 dk, .int .u8 dw, .int .u8 dn, .int .i32 da] 38)).alloc (.cells #[.int .u16 fy, .int .u8 fm, .int .u8 fb, .int .u8 fk, .int .u8 fw, .int .u8 fn, .int .i32 fa] 38)) := bel_trans (bel_alloc W _) (bel_alloc _ _)
  have HDR := Lib.hid (h.below hb0)
  have HK1 := Lib.hid (show ((W.alloc (.cells #[.int .u16 dy, .int .u8 dm, .int .u8 db, .int .u8 dk, .int .u8 dw, .int .u8 dn, .int .i32 da] 38)).alloc (.cells #[.int .u16 fy, .int .u8 fm, .int .u8 fb, .int .u8 fk, .int .u8 fw, .int .u8 fn, .int .i32 fa] 38)).heap[W.heap.size]? = some (.cells #[.int .u16 dy, .int .u8 dm, .int .u8 db, .int .u8 dk, .int .u8 dw, .int .u8 dn, .int .i32 da] 38) from block_below (heap_alloc_new W _) (bel_alloc _ _))
  have HK2 := Lib.hid (show ((W.alloc (.cells #[.int .u16 dy, .int .u8 dm, .int .u8 db, .int .u8 dk, .int .u8 dw, .int .u8 dn, .int .i32 da] 38)).alloc (.cells #[.int .u16 fy, .int .u8 fm, .int .u8 fb, .int .u8 fk, .int .u8 fw, .int .u8 fn, .int .i32 fa] 38)).heap[W.heap.size + 1]? = some (.cells #[.int .u16 fy, .int .u8 fm, .int .u8 fb, .int .u8 fk, .int .u8 fw, .int .u8 fn, .int .i32 fa] 38) from heap_alloc2_new W _ _)
  have HB := Lib.hid hb0
  have HD := Lib.hid (And.intro dwy (And.intro dwm (And.intro dwb (And.intro dwk (And.intro dww (And.intro dwn dwa))))))
  have HF := Lib.hid (And.intro fwy (And.intro fwm (And.intro fwb (And.intro fwk (And.intro fww (And.intro fwn fwa))))))
  clear hE hI hT h hb0 dwy dwm dwb dwk dww dwn dwa fwy fwm fwb fwk fww fwn fwa
  go_enter Tryd.func6, Tryd.ntmps6
  go_wp2_with fail
  refine (made17s_any _ bs ⟨#[82]⟩ _ (by exact HDR.out)).mono ?_
  rintro e w1 ⟨ov, rs, sv, rfl, h2, h5, hmp, _, hown, hb1⟩
  have HMP := Lib.hid hmp
  have HR := Lib.hid (rul_of_own hown (by omega) (fun r hr => (hmp.each r hr).ok.fits))
  have HK1 := Lib.hid (block_below HK1.out hb1)
  have HK2 := Lib.hid (block_below HK2.out hb1)
  have HB := Lib.hid (bel_trans HB.out hb1)
  have HLn := Lib.hid (show 0 < rs.length by omega)
  clear hmp hown hb1 h2 h5 HDR
  obtain ⟨Al, cl, hol⟩ := HR.out.sl
  obtain ⟨nl, hnl⟩ : ∃ nl, nl = rs.length := ⟨_, rfl⟩
  rw [← hnl] at hol
  subst hol
  clear hnl
  obtain ⟨ml1, ml2, mlb⟩ := made_least HMP.out
  obtain ⟨ls, hls⟩ : ∃ ls, ls = leastL rs := ⟨_, rfl⟩
  have HL := Lib.hid hls
  rw [← hls] at ml1 ml2
  clear mlb hls
  replace ml1 : -10800 ≤ ls := by omega
  go_wp2_with fail
  refine (least_any _ rs _ (by exact HR.out)).mono ?_
  rw [← HL.out]
  rintro e w2 ⟨rfl, hb⟩
  have HK1 := Lib.hid (block_below HK1.out hb)
  have HK2 := Lib.hid (block_below HK2.out hb)
  have HB := Lib.hid (bel_trans HB.out hb)
  have HR := Lib.hid (Rul.below HR.out hb)
  have hRg := Lib.hid (rulB_of HR.out HLn.out)
  have hlt2 := Lib.hid (show W.heap.size + 1 < w2.heap.size from (Array.getElem?_eq_some_iff.1 HK2.out).1)
  clear hb
  go_upto_region 3 with fail
  go_cut [15, 16] (fun s1 t1 w' => ∃ (B C : Nat) (uy um uk uw ud us ub vy vm vk vw vd vs vb : Int), s1 = .pointer (some ⟨B, 0, none⟩) ∧ t1 = .pointer (some ⟨C, 0, none⟩) ∧ Hid (Below W.heap.size W w') ∧ Hid (Rul (.slice Al nl cl) rs w') ∧ Hid (w'.heap[B]? = some (.cells #[.int .i64 o, .int .i64 q, .int .i64 s, .string st, .string ⟨#[88]⟩, .bool true, .int .i64 uy, .int .i64 um, .int .i64 uk, .int .i64 uw, .int .i64 ud, .int .i64 us, .int .i64 ub] 45)) ∧ Hid (w'.heap[C]? = some (.cells #[.int .i64 o, .int .i64 q, .int .i64 s, .string st, .string ⟨#[88]⟩, .bool true, .int .i64 vy, .int .i64 vm, .int .i64 vk, .int .i64 vw, .int .i64 vd, .int .i64 vs, .int .i64 vb] 45)) ∧ Hid (untC true uy um uk uw ud us ub (Lq q ls) = 0) ∧ Hid (untC true vy vm vk vw vd vs vb (Lq q ls) = 0))
  case first =>
    refine wp_region_held_drew (S := (fun w' => w'.heap[W.heap.size]? = some (.cells #[.int .u16 dy, .int .u8 dm, .int .u8 db, .int .u8 dk, .int .u8 dw, .int .u8 dn, .int .i32 da] 38) ∧ w'.heap[W.heap.size + 1]? = some (.cells #[.int .u16 fy, .int .u8 fm, .int .u8 fb, .int .u8 fk, .int .u8 fw, .int .u8 fn, .int .i32 fa] 38))) (by kernel_rfl) (by exact ⟨HK1.out, HK2.out⟩) (fun hHeld => ?_)
    have hB := Lib.hid (Below.drew HB.out)
    have hR := Lib.hid (Rul.below HR.out (Below.drew (Below.refl w2.heap.size w2)))
    have hK1 := Lib.hid (block_below HK1.out (Below.drew (Below.refl w2.heap.size w2)))
    have hK2 := Lib.hid (block_below HK2.out (Below.drew (Below.refl w2.heap.size w2)))
    have hS := Lib.hid (show w2.heap.size ≤ w2.drew.heap.size from Nat.le_refl _)
    refine wpAnyH_take (i := 0) (v := ?_) rfl (by kernel_rfl) (by kernel_rfl) (by kernel_rfl) (fun _ _ _ h => h) (Or.inl ⟨by rfl, ?_⟩) (by assumption) ?_
    rotate_left 1
    · (intro w hSw; obtain ⟨hSa, hSb⟩ := hSw; have a0 := cellB hSa (i := 0) rfl; have a1 := cellB hSa (i := 1) rfl; have a2 := cellB hSa (i := 2) rfl; have a3 := cellB hSa (i := 3) rfl; have a4 := cellB hSa (i := 4) rfl; have a5 := cellB hSa (i := 5) rfl; have a6 := cellB hSa (i := 6) rfl; have b0 := cellB hSb (i := 0) rfl; have b1 := cellB hSb (i := 1) rfl; have b2 := cellB hSb (i := 2) rfl; have b3 := cellB hSb (i := 3) rfl; have b4 := cellB hSb (i := 4) rfl; have b5 := cellB hSb (i := 5) rfl; have b6 := cellB hSb (i := 6) rfl; clear hSa hSb; first | (go_simp; done) | (go_simp; with_reducible rfl))
    try simp only [Act.put, List.getElem_toArray, List.getElem_cons_succ, List.getElem_cons_zero, List.setIfInBounds_toArray, List.set_cons_zero, List.set_cons_succ]
    refine wpAnyH_take (i := 1) (v := ?_) rfl (by kernel_rfl) (by kernel_rfl) (by kernel_rfl) (fun _ _ _ h => h) (Or.inl ⟨by rfl, ?_⟩) (by assumption) ?_
    rotate_left 1
    · (intro w hSw; obtain ⟨hSa, hSb⟩ := hSw; have a0 := cellB hSa (i := 0) rfl; have a1 := cellB hSa (i := 1) rfl; have a2 := cellB hSa (i := 2) rfl; have a3 := cellB hSa (i := 3) rfl; have a4 := cellB hSa (i := 4) rfl; have a5 := cellB hSa (i := 5) rfl; have a6 := cellB hSa (i := 6) rfl; have b0 := cellB hSb (i := 0) rfl; have b1 := cellB hSb (i := 1) rfl; have b2 := cellB hSb (i := 2) rfl; have b3 := cellB hSb (i := 3) rfl; have b4 := cellB hSb (i := 4) rfl; have b5 := cellB hSb (i := 5) rfl; have b6 := cellB hSb (i := 6) rfl; clear hSa hSb; first | (go_simp; done) | (go_simp; with_reducible rfl))
    try simp only [Act.put, List.getElem_toArray, List.getElem_cons_succ, List.getElem_cons_zero, List.setIfInBounds_toArray, List.set_cons_zero, List.set_cons_succ]
    refine wpAnyH_take (i := 2) (v := ?_) rfl (by kernel_rfl) (by kernel_rfl) (by kernel_rfl) (fun _ _ _ h => h) (Or.inl ⟨by rfl, ?_⟩) (by assumption) ?_
    rotate_left 1
    · (intro w hSw; obtain ⟨hSa, hSb⟩ := hSw; have a0 := cellB hSa (i := 0) rfl; have a1 := cellB hSa (i := 1) rfl; have a2 := cellB hSa (i := 2) rfl; have a3 := cellB hSa (i := 3) rfl; have a4 := cellB hSa (i := 4) rfl; have a5 := cellB hSa (i := 5) rfl; have a6 := cellB hSa (i := 6) rfl; have b0 := cellB hSb (i := 0) rfl; have b1 := cellB hSb (i := 1) rfl; have b2 := cellB hSb (i := 2) rfl; have b3 := cellB hSb (i := 3) rfl; have b4 := cellB hSb (i := 4) rfl; have b5 := cellB hSb (i := 5) rfl; have b6 := cellB hSb (i := 6) rfl; clear hSa hSb; first | (go_simp; done) | (go_simp; with_reducible rfl))
    try simp only [Act.put, List.getElem_toArray, List.getElem_cons_succ, List.getElem_cons_zero, List.setIfInBounds_toArray, List.set_cons_zero, List.set_cons_succ]
    refine wpAnyH_take (i := 3) (v := ?_) rfl (by kernel_rfl) (by kernel_rfl) (by kernel_rfl) (fun _ _ _ h => h) (Or.inl ⟨by rfl, ?_⟩) (by assumption) ?_
    rotate_left 1
    · (intro w hSw; obtain ⟨hSa, hSb⟩ := hSw; have a0 := cellB hSa (i := 0) rfl; have a1 := cellB hSa (i := 1) rfl; have a2 := cellB hSa (i := 2) rfl; have a3 := cellB hSa (i := 3) rfl; have a4 := cellB hSa (i := 4) rfl; have a5 := cellB hSa (i := 5) rfl; have a6 := cellB hSa (i := 6) rfl; have b0 := cellB hSb (i := 0) rfl; have b1 := cellB hSb (i := 1) rfl; have b2 := cellB hSb (i := 2) rfl; have b3 := cellB hSb (i := 3) rfl; have b4 := cellB hSb (i := 4) rfl; have b5 := cellB hSb (i := 5) rfl; have b6 := cellB hSb (i := 6) rfl; clear hSa hSb; first | (go_simp; done) | (go_simp; with_reducible rfl))
    try simp only [Act.put, List.getElem_toArray, List.getElem_cons_succ, List.getElem_cons_zero, List.setIfInBounds_toArray, List.set_cons_zero, List.set_cons_succ]
    refine wpAnyH_take (i := 4) (v := ?_) rfl (by kernel_rfl) (by kernel_rfl) (by kernel_rfl) (fun _ _ _ h => h) (Or.inl ⟨by rfl, ?_⟩) (by assumption) ?_
    rotate_left 1
    · (intro w hSw; obtain ⟨hSa, hSb⟩ := hSw; have a0 := cellB hSa (i := 0) rfl; have a1 := cellB hSa (i := 1) rfl; have a2 := cellB hSa (i := 2) rfl; have a3 := cellB hSa (i := 3) rfl; have a4 := cellB hSa (i := 4) rfl; have a5 := cellB hSa (i := 5) rfl; have a6 := cellB hSa (i := 6) rfl; have b0 := cellB hSb (i := 0) rfl; have b1 := cellB hSb (i := 1) rfl; have b2 := cellB hSb (i := 2) rfl; have b3 := cellB hSb (i := 3) rfl; have b4 := cellB hSb (i := 4) rfl; have b5 := cellB hSb (i := 5) rfl; have b6 := cellB hSb (i := 6) rfl; clear hSa hSb; first | (go_simp; done) | (go_simp; with_reducible rfl))
    try simp only [Act.put, List.getElem_toArray, List.getElem_cons_succ, List.getElem_cons_zero, List.setIfInBounds_toArray, List.set_cons_zero, List.set_cons_succ]
    refine wpAnyH_take (i := 6) (v := ?_) rfl (by kernel_rfl) (by kernel_rfl) (by kernel_rfl) (fun _ _ _ h => h) (Or.inl ⟨by rfl, ?_⟩) (by assumption) ?_
    rotate_left 1
    · (intro w hSw; obtain ⟨hSa, hSb⟩ := hSw; have a0 := cellB hSa (i := 0) rfl; have a1 := cellB hSa (i := 1) rfl; have a2 := cellB hSa (i := 2) rfl; have a3 := cellB hSa (i := 3) rfl; have a4 := cellB hSa (i := 4) rfl; have a5 := cellB hSa (i := 5) rfl; have a6 := cellB hSa (i := 6) rfl; have b0 := cellB hSb (i := 0) rfl; have b1 := cellB hSb (i := 1) rfl; have b2 := cellB hSb (i := 2) rfl; have b3 := cellB hSb (i := 3) rfl; have b4 := cellB hSb (i := 4) rfl; have b5 := cellB hSb (i := 5) rfl; have b6 := cellB hSb (i := 6) rfl; clear hSa hSb; first | (go_simp; done) | (go_simp; with_reducible rfl))
    try simp only [Act.put, List.getElem_toArray, List.getElem_cons_succ, List.getElem_cons_zero, List.setIfInBounds_toArray, List.set_cons_zero, List.set_cons_succ]
    refine wpAnyH_take (i := 7) (v := ?_) rfl (by kernel_rfl) (by kernel_rfl) (by kernel_rfl) (fun _ _ _ h => h) (Or.inl ⟨by rfl, ?_⟩) (by assumption) ?_
    rotate_left 1
    · (intro w hSw; obtain ⟨hSa, hSb⟩ := hSw; have a0 := cellB hSa (i := 0) rfl; have a1 := cellB hSa (i := 1) rfl; have a2 := cellB hSa (i := 2) rfl; have a3 := cellB hSa (i := 3) rfl; have a4 := cellB hSa (i := 4) rfl; have a5 := cellB hSa (i := 5) rfl; have a6 := cellB hSa (i := 6) rfl; have b0 := cellB hSb (i := 0) rfl; have b1 := cellB hSb (i := 1) rfl; have b2 := cellB hSb (i := 2) rfl; have b3 := cellB hSb (i := 3) rfl; have b4 := cellB hSb (i := 4) rfl; have b5 := cellB hSb (i := 5) rfl; have b6 := cellB hSb (i := 6) rfl; clear hSa hSb; first | (go_simp; done) | (go_simp; with_reducible rfl))
    try simp only [Act.put, List.getElem_toArray, List.getElem_cons_succ, List.getElem_cons_zero, List.setIfInBounds_toArray, List.set_cons_zero, List.set_cons_succ]
    refine wpAnyH_take (i := 8) (v := ?_) rfl (by kernel_rfl) (by kernel_rfl) (by kernel_rfl) (fun _ _ _ h => h) (Or.inl ⟨by rfl, ?_⟩) (by assumption) ?_
    rotate_left 1
    · (intro w hSw; obtain ⟨hSa, hSb⟩ := hSw; have a0 := cellB hSa (i := 0) rfl; have a1 := cellB hSa (i := 1) rfl; have a2 := cellB hSa (i := 2) rfl; have a3 := cellB hSa (i := 3) rfl; have a4 := cellB hSa (i := 4) rfl; have a5 := cellB hSa (i := 5) rfl; have a6 := cellB hSa (i := 6) rfl; have b0 := cellB hSb (i := 0) rfl; have b1 := cellB hSb (i := 1) rfl; have b2 := cellB hSb (i := 2) rfl; have b3 := cellB hSb (i := 3) rfl; have b4 := cellB hSb (i := 4) rfl; have b5 := cellB hSb (i := 5) rfl; have b6 := cellB hSb (i := 6) rfl; clear hSa hSb; first | (go_simp; done) | (go_simp; with_reducible rfl))
    try simp only [Act.put, List.getElem_toArray, List.getElem_cons_succ, List.getElem_cons_zero, List.setIfInBounds_toArray, List.set_cons_zero, List.set_cons_succ]
    refine wpAnyH_take (i := 9) (v := ?_) rfl (by kernel_rfl) (by kernel_rfl) (by kernel_rfl) (fun _ _ _ h => h) (Or.inl ⟨by rfl, ?_⟩) (by assumption) ?_
    rotate_left 1
    · (intro w hSw; obtain ⟨hSa, hSb⟩ := hSw; have a0 := cellB hSa (i := 0) rfl; have a1 := cellB hSa (i := 1) rfl; have a2 := cellB hSa (i := 2) rfl; have a3 := cellB hSa (i := 3) rfl; have a4 := cellB hSa (i := 4) rfl; have a5 := cellB hSa (i := 5) rfl; have a6 := cellB hSa (i := 6) rfl; have b0 := cellB hSb (i := 0) rfl; have b1 := cellB hSb (i := 1) rfl; have b2 := cellB hSb (i := 2) rfl; have b3 := cellB hSb (i := 3) rfl; have b4 := cellB hSb (i := 4) rfl; have b5 := cellB hSb (i := 5) rfl; have b6 := cellB hSb (i := 6) rfl; clear hSa hSb; first | (go_simp; done) | (go_simp; with_reducible rfl))
    try simp only [Act.put, List.getElem_toArray, List.getElem_cons_succ, List.getElem_cons_zero, List.setIfInBounds_toArray, List.set_cons_zero, List.set_cons_succ]
    refine wpAnyH_take (i := 10) (v := ?_) rfl (by kernel_rfl) (by kernel_rfl) (by kernel_rfl) (fun _ _ _ h => h) (Or.inl ⟨by rfl, ?_⟩) (by assumption) ?_
    rotate_left 1
    · (intro w hSw; obtain ⟨hSa, hSb⟩ := hSw; have a0 := cellB hSa (i := 0) rfl; have a1 := cellB hSa (i := 1) rfl; have a2 := cellB hSa (i := 2) rfl; have a3 := cellB hSa (i := 3) rfl; have a4 := cellB hSa (i := 4) rfl; have a5 := cellB hSa (i := 5) rfl; have a6 := cellB hSa (i := 6) rfl; have b0 := cellB hSb (i := 0) rfl; have b1 := cellB hSb (i := 1) rfl; have b2 := cellB hSb (i := 2) rfl; have b3 := cellB hSb (i := 3) rfl; have b4 := cellB hSb (i := 4) rfl; have b5 := cellB hSb (i := 5) rfl; have b6 := cellB hSb (i := 6) rfl; clear hSa hSb; first | (go_simp; done) | (go_simp; with_reducible rfl))
    try simp only [Act.put, List.getElem_toArray, List.getElem_cons_succ, List.getElem_cons_zero, List.setIfInBounds_toArray, List.set_cons_zero, List.set_cons_succ]
    refine wpAnyH_ready (rs := [5, 12, 13]) (by kernel_rfl) (by simp) ?_
    refine (AllReadyH.cons rfl (fun K hK => ?_) (AllReadyH.cons rfl (fun K hK => ?_) (AllReadyH.cons rfl (fun K hK => ?_) AllReadyH.nil)))
    · go_simp
      refine (HE.out dy dm db dk dw dn da ls _ HD.out.1 HD.out.2.1 HD.out.2.2.1 HD.out.2.2.2.1 HD.out.2.2.2.2.1 HD.out.2.2.2.2.2.1 HD.out.2.2.2.2.2.2 ml1 ml2).mono ?_
      rintro e x1 ⟨uy, um, uk, uw, ud, us, ub, HU, rfl, hb1⟩
      go_wp2_with fail
      clear hHeld
      refine hK.out _ _ ?_ (fun hHeld => ?_)
      · exact ⟨block_below hK1.out hb1, block_below hK2.out hb1⟩
      clear hK K
      try simp only [Act.put, List.getElem_toArray, List.getElem_cons_succ, List.getElem_cons_zero, List.setIfInBounds_toArray, List.set_cons_zero, List.set_cons_succ]
      have hK1 := Lib.hid (block_below hK1.out hb1)
      have hK2 := Lib.hid (block_below hK2.out hb1)
      have hR := Lib.hid (hR.out.below hb1)
      have hB := Lib.hid (bel_trans hB.out hb1)
      have hS := Lib.hid (show w2.heap.size ≤ x1.heap.size from Nat.le_trans hS.out hb1.size)
      clear hb1
      refine wpAnyH_ready (rs := [11, 12, 13]) (by kernel_rfl) (by simp) ?_
      refine (AllReadyH.cons rfl (fun K hK => ?_) (AllReadyH.cons rfl (fun K hK => ?_) (AllReadyH.cons rfl (fun K hK => ?_) AllReadyH.nil)))
      · go_simp
        refine (HE.out fy fm fb fk fw fn fa ls _ HF.out.1 HF.out.2.1 HF.out.2.2.1 HF.out.2.2.2.1 HF.out.2.2.2.2.1 HF.out.2.2.2.2.2.1 HF.out.2.2.2.2.2.2 ml1 ml2).mono ?_
        rintro e x2 ⟨vy, vm, vk, vw, vd, vs, vb, HV, rfl, hb2⟩
        go_wp2_with fail
        clear hHeld
        refine hK.out _ _ ?_ (fun hHeld => ?_)
        · exact ⟨block_below hK1.out hb2, block_below hK2.out hb2⟩
        clear hK K
        try simp only [Act.put, List.getElem_toArray, List.getElem_cons_succ, List.getElem_cons_zero, List.setIfInBounds_toArray, List.set_cons_zero, List.set_cons_succ]
        have hK1 := Lib.hid (block_below hK1.out hb2)
        have hK2 := Lib.hid (block_below hK2.out hb2)
        have hR := Lib.hid (hR.out.below hb2)
        have hB := Lib.hid (bel_trans hB.out hb2)
        have hS := Lib.hid (show w2.heap.size ≤ x2.heap.size from Nat.le_trans hS.out hb2.size)
        clear hb2
        refine wpAnyH_ready (rs := [12, 13]) (by kernel_rfl) (by simp) ?_
        refine (AllReadyH.cons rfl (fun K hK => ?_) (AllReadyH.cons rfl (fun K hK => ?_) AllReadyH.nil))
        · go_simp
          clear hHeld
          refine hK.out _ _ ?_ (fun hHeld => ?_)
          · exact ⟨block_below hK1.out (bel_alloc x2 (.cells #[.int .i64 0, .int .i64 0, .int .i64 0, .string ⟨#[]⟩, .string ⟨#[]⟩, .bool false, .int .i64 0, .int .i64 0, .int .i64 0, .int .i64 0, .int .i64 0, .int .i64 0, .int .i64 0] 45)), block_below hK2.out (bel_alloc x2 (.cells #[.int .i64 0, .int .i64 0, .int .i64 0, .string ⟨#[]⟩, .string ⟨#[]⟩, .bool false, .int .i64 0, .int .i64 0, .int .i64 0, .int .i64 0, .int .i64 0, .int .i64 0, .int .i64 0] 45))⟩
          clear hK K
          try simp only [Act.put, List.getElem_toArray, List.getElem_cons_succ, List.getElem_cons_zero, List.setIfInBounds_toArray, List.set_cons_zero, List.set_cons_succ]
          have hsz : x2.heap.size = x2.heap.size := by simp [sz_alloc, sz_drew]
          have hA := Lib.hid (show (x2.alloc (.cells #[.int .i64 0, .int .i64 0, .int .i64 0, .string ⟨#[]⟩, .string ⟨#[]⟩, .bool false, .int .i64 0, .int .i64 0, .int .i64 0, .int .i64 0, .int .i64 0, .int .i64 0, .int .i64 0] 45)).heap[x2.heap.size]? = some (.cells #[.int .i64 0, .int .i64 0, .int .i64 0, .string ⟨#[]⟩, .string ⟨#[]⟩, .bool false, .int .i64 0, .int .i64 0, .int .i64 0, .int .i64 0, .int .i64 0, .int .i64 0, .int .i64 0] 45) by rw [hsz]; exact heap_alloc_new _ _)
          have hbl := Lib.hid (show W.heap.size ≤ x2.heap.size by rw [hsz]; exact hB.out.size)
          have hloB := Lib.hid (show w2.heap.size ≤ x2.heap.size by rw [hsz]; exact hS.out)
          clear hsz
          have hK1 := Lib.hid (block_below hK1.out (bel_alloc x2 (.cells #[.int .i64 0, .int .i64 0, .int .i64 0, .string ⟨#[]⟩, .string ⟨#[]⟩, .bool false, .int .i64 0, .int .i64 0, .int .i64 0, .int .i64 0, .int .i64 0, .int .i64 0, .int .i64 0] 45)))
          have hK2 := Lib.hid (block_below hK2.out (bel_alloc x2 (.cells #[.int .i64 0, .int .i64 0, .int .i64 0, .string ⟨#[]⟩, .string ⟨#[]⟩, .bool false, .int .i64 0, .int .i64 0, .int .i64 0, .int .i64 0, .int .i64 0, .int .i64 0, .int .i64 0] 45)))
          have hR := Lib.hid (hR.out.below (bel_alloc x2 (.cells #[.int .i64 0, .int .i64 0, .int .i64 0, .string ⟨#[]⟩, .string ⟨#[]⟩, .bool false, .int .i64 0, .int .i64 0, .int .i64 0, .int .i64 0, .int .i64 0, .int .i64 0, .int .i64 0] 45)))
          have hB := Lib.hid (bel_trans hB.out (bel_alloc x2 (.cells #[.int .i64 0, .int .i64 0, .int .i64 0, .string ⟨#[]⟩, .string ⟨#[]⟩, .bool false, .int .i64 0, .int .i64 0, .int .i64 0, .int .i64 0, .int .i64 0, .int .i64 0, .int .i64 0] 45)))
          have hS := Lib.hid (show w2.heap.size ≤ (x2.alloc (.cells #[.int .i64 0, .int .i64 0, .int .i64 0, .string ⟨#[]⟩, .string ⟨#[]⟩, .bool false, .int .i64 0, .int .i64 0, .int .i64 0, .int .i64 0, .int .i64 0, .int .i64 0, .int .i64 0] 45)).heap.size by rw [sz_alloc]; have := hS.out; omega)
          refine wpAnyH_ready (rs := [13]) (by kernel_rfl) (by simp) ?_
          refine (AllReadyH.cons rfl (fun K hK => ?_) AllReadyH.nil)
          · go_simp
            clear hHeld
            refine hK.out _ _ ?_ (fun hHeld => ?_)
            · exact ⟨block_below hK1.out (bel_alloc (x2.alloc (.cells #[.int .i64 0, .int .i64 0, .int .i64 0, .string ⟨#[]⟩, .string ⟨#[]⟩, .bool false, .int .i64 0, .int .i64 0, .int .i64 0, .int .i64 0, .int .i64 0, .int .i64 0, .int .i64 0] 45)) (.cells #[.int .i64 0, .int .i64 0, .int .i64 0, .string ⟨#[]⟩, .string ⟨#[]⟩, .bool false, .int .i64 0, .int .i64 0, .int .i64 0, .int .i64 0, .int .i64 0, .int .i64 0, .int .i64 0] 45)), block_below hK2.out (bel_alloc (x2.alloc (.cells #[.int .i64 0, .int .i64 0, .int .i64 0, .string ⟨#[]⟩, .string ⟨#[]⟩, .bool false, .int .i64 0, .int .i64 0, .int .i64 0, .int .i64 0, .int .i64 0, .int .i64 0, .int .i64 0] 45)) (.cells #[.int .i64 0, .int .i64 0, .int .i64 0, .string ⟨#[]⟩, .string ⟨#[]⟩, .bool false, .int .i64 0, .int .i64 0, .int .i64 0, .int .i64 0, .int .i64 0, .int .i64 0, .int .i64 0] 45))⟩
            clear hK K
            try simp only [Act.put, List.getElem_toArray, List.getElem_cons_succ, List.getElem_cons_zero, List.setIfInBounds_toArray, List.set_cons_zero, List.set_cons_succ]
            have hsz : (x2.heap.size + 1) = (x2.alloc (.cells #[.int .i64 0, .int .i64 0, .int .i64 0, .string ⟨#[]⟩, .string ⟨#[]⟩, .bool false, .int .i64 0, .int .i64 0, .int .i64 0, .int .i64 0, .int .i64 0, .int .i64 0, .int .i64 0] 45)).heap.size := by simp [sz_alloc, sz_drew]
            have hC := Lib.hid (show ((x2.alloc (.cells #[.int .i64 0, .int .i64 0, .int .i64 0, .string ⟨#[]⟩, .string ⟨#[]⟩, .bool false, .int .i64 0, .int .i64 0, .int .i64 0, .int .i64 0, .int .i64 0, .int .i64 0, .int .i64 0] 45)).alloc (.cells #[.int .i64 0, .int .i64 0, .int .i64 0, .string ⟨#[]⟩, .string ⟨#[]⟩, .bool false, .int .i64 0, .int .i64 0, .int .i64 0, .int .i64 0, .int .i64 0, .int .i64 0, .int .i64 0] 45)).heap[(x2.heap.size + 1)]? = some (.cells #[.int .i64 0, .int .i64 0, .int .i64 0, .string ⟨#[]⟩, .string ⟨#[]⟩, .bool false, .int .i64 0, .int .i64 0, .int .i64 0, .int .i64 0, .int .i64 0, .int .i64 0, .int .i64 0] 45) by rw [hsz]; exact heap_alloc_new _ _)
            have hcl := Lib.hid (show W.heap.size ≤ (x2.heap.size + 1) by rw [hsz]; exact hB.out.size)
            have hne := Lib.hid (show x2.heap.size ≠ (x2.heap.size + 1) by have := (Array.getElem?_eq_some_iff.1 hA.out).1; omega)
            have hA := Lib.hid (block_below hA.out (bel_alloc (x2.alloc (.cells #[.int .i64 0, .int .i64 0, .int .i64 0, .string ⟨#[]⟩, .string ⟨#[]⟩, .bool false, .int .i64 0, .int .i64 0, .int .i64 0, .int .i64 0, .int .i64 0, .int .i64 0, .int .i64 0] 45)) (.cells #[.int .i64 0, .int .i64 0, .int .i64 0, .string ⟨#[]⟩, .string ⟨#[]⟩, .bool false, .int .i64 0, .int .i64 0, .int .i64 0, .int .i64 0, .int .i64 0, .int .i64 0, .int .i64 0] 45)))
            have hloC := Lib.hid (show w2.heap.size ≤ (x2.heap.size + 1) by rw [hsz]; exact hS.out)
            clear hsz
            have hK1 := Lib.hid (block_below hK1.out (bel_alloc (x2.alloc (.cells #[.int .i64 0, .int .i64 0, .int .i64 0, .string ⟨#[]⟩, .string ⟨#[]⟩, .bool false, .int .i64 0, .int .i64 0, .int .i64 0, .int .i64 0, .int .i64 0, .int .i64 0, .int .i64 0] 45)) (.cells #[.int .i64 0, .int .i64 0, .int .i64 0, .string ⟨#[]⟩, .string ⟨#[]⟩, .bool false, .int .i64 0, .int .i64 0, .int .i64 0, .int .i64 0, .int .i64 0, .int .i64 0, .int .i64 0] 45)))
            have hK2 := Lib.hid (block_below hK2.out (bel_alloc (x2.alloc (.cells #[.int .i64 0, .int .i64 0, .int .i64 0, .string ⟨#[]⟩, .string ⟨#[]⟩, .bool false, .int .i64 0, .int .i64 0, .int .i64 0, .int .i64 0, .int .i64 0, .int .i64 0, .int .i64 0] 45)) (.cells #[.int .i64 0, .int .i64 0, .int .i64 0, .string ⟨#[]⟩, .string ⟨#[]⟩, .bool false, .int .i64 0, .int .i64 0, .int .i64 0, .int .i64 0, .int .i64 0, .int .i64 0, .int .i64 0] 45)))
            have hR := Lib.hid (hR.out.below (bel_alloc (x2.alloc (.cells #[.int .i64 0, .int .i64 0, .int .i64 0, .string ⟨#[]⟩, .string ⟨#[]⟩, .bool false, .int .i64 0, .int .i64 0, .int .i64 0, .int .i64 0, .int .i64 0, .int .i64 0, .int .i64 0] 45)) (.cells #[.int .i64 0, .int .i64 0, .int .i64 0, .string ⟨#[]⟩, .string ⟨#[]⟩, .bool false, .int .i64 0, .int .i64 0, .int .i64 0, .int .i64 0, .int .i64 0, .int .i64 0, .int .i64 0] 45)))
            have hB := Lib.hid (bel_trans hB.out (bel_alloc (x2.alloc (.cells #[.int .i64 0, .int .i64 0, .int .i64 0, .string ⟨#[]⟩, .string ⟨#[]⟩, .bool false, .int .i64 0, .int .i64 0, .int .i64 0, .int .i64 0, .int .i64 0, .int .i64 0, .int .i64 0] 45)) (.cells #[.int .i64 0, .int .i64 0, .int .i64 0, .string ⟨#[]⟩, .string ⟨#[]⟩, .bool false, .int .i64 0, .int .i64 0, .int .i64 0, .int .i64 0, .int .i64 0, .int .i64 0, .int .i64 0] 45)))
            have hS := Lib.hid (show w2.heap.size ≤ ((x2.alloc (.cells #[.int .i64 0, .int .i64 0, .int .i64 0, .string ⟨#[]⟩, .string ⟨#[]⟩, .bool false, .int .i64 0, .int .i64 0, .int .i64 0, .int .i64 0, .int .i64 0, .int .i64 0, .int .i64 0] 45)).alloc (.cells #[.int .i64 0, .int .i64 0, .int .i64 0, .string ⟨#[]⟩, .string ⟨#[]⟩, .bool false, .int .i64 0, .int .i64 0, .int .i64 0, .int .i64 0, .int .i64 0, .int .i64 0, .int .i64 0] 45)).heap.size by rw [sz_alloc]; have := hS.out; omega)
            refine wpAnyH_ready (rs := [14]) (by kernel_rfl) (by simp) ?_
            refine (AllReadyH.cons rfl (fun K hK => ?_) AllReadyH.nil)
            · rw [if_pos (by rfl)]
              refine wp_store_mid _ _ _ rfl x2.heap.size 0 #[.int .i64 o, .int .i64 q, .int .i64 s, .string st, .string ⟨#[88]⟩, .bool true, .int .i64 uy, .int .i64 um, .int .i64 uk, .int .i64 uw, .int .i64 ud, .int .i64 us, .int .i64 ub] rfl rfl (there13 hA.out rfl) (by kernel_rfl) (by simp [Value.oneCell']) ?_
              have hn1 := Lib.hid (show W.heap.size ≠ x2.heap.size by have := hlt2.out; have := hloB.out; omega)
              have hn2 := Lib.hid (show W.heap.size + 1 ≠ x2.heap.size by have := hlt2.out; have := hloB.out; omega)
              clear hHeld
              refine hK.out _ _ ?_ (fun hHeld => ?_)
              · exact ⟨block_setCells hK1.out hn1.out, block_setCells hK2.out hn2.out⟩
              clear hK K
              try simp only [Act.put, List.getElem_toArray, List.getElem_cons_succ, List.getElem_cons_zero, List.setIfInBounds_toArray, List.set_cons_zero, List.set_cons_succ]
              have hK1 := Lib.hid (block_setCells (o := 0) (l := [.int .i64 o, .int .i64 q, .int .i64 s, .string st, .string ⟨#[88]⟩, .bool true, .int .i64 uy, .int .i64 um, .int .i64 uk, .int .i64 uw, .int .i64 ud, .int .i64 us, .int .i64 ub]) hK1.out hn1.out)
              have hK2 := Lib.hid (block_setCells (o := 0) (l := [.int .i64 o, .int .i64 q, .int .i64 s, .string st, .string ⟨#[88]⟩, .bool true, .int .i64 uy, .int .i64 um, .int .i64 uk, .int .i64 uw, .int .i64 ud, .int .i64 us, .int .i64 ub]) hK2.out hn2.out)
              have hR := Lib.hid (rul_setCells (o := 0) (l := [.int .i64 o, .int .i64 q, .int .i64 s, .string st, .string ⟨#[88]⟩, .bool true, .int .i64 uy, .int .i64 um, .int .i64 uk, .int .i64 uw, .int .i64 ud, .int .i64 us, .int .i64 ub]) hR.out hloB.out hRg.out)
              have hC := Lib.hid (block_setCells (o := 0) (l := [.int .i64 o, .int .i64 q, .int .i64 s, .string st, .string ⟨#[88]⟩, .bool true, .int .i64 uy, .int .i64 um, .int .i64 uk, .int .i64 uw, .int .i64 ud, .int .i64 us, .int .i64 ub]) hC.out hne.out.symm)
              have hA := Lib.hid (set13c ([.int .i64 o, .int .i64 q, .int .i64 s, .string st, .string ⟨#[88]⟩, .bool true, .int .i64 uy, .int .i64 um, .int .i64 uk, .int .i64 uw, .int .i64 ud, .int .i64 us, .int .i64 ub]) rfl hA.out rfl)
              have hB := Lib.hid (bel_setCells (o := 0) (l := [.int .i64 o, .int .i64 q, .int .i64 s, .string st, .string ⟨#[88]⟩, .bool true, .int .i64 uy, .int .i64 um, .int .i64 uk, .int .i64 uw, .int .i64 ud, .int .i64 us, .int .i64 ub]) hB.out hbl.out)
              clear hn1 hn2
              generalize World.setCells _ _ _ _ = y14 at hA hC hB hK1 hK2 hR hHeld ⊢
              refine wpAnyH_ready (rs := [15]) (by kernel_rfl) (by simp) ?_
              refine (AllReadyH.cons rfl (fun K hK => ?_) AllReadyH.nil)
              · rw [if_pos (by rfl)]
                refine wp_store_mid _ _ _ rfl (x2.heap.size + 1) 0 #[.int .i64 o, .int .i64 q, .int .i64 s, .string st, .string ⟨#[88]⟩, .bool true, .int .i64 vy, .int .i64 vm, .int .i64 vk, .int .i64 vw, .int .i64 vd, .int .i64 vs, .int .i64 vb] rfl rfl (there13 hC.out rfl) (by kernel_rfl) (by simp [Value.oneCell']) ?_
                have hn1 := Lib.hid (show W.heap.size ≠ (x2.heap.size + 1) by have := hlt2.out; have := hloC.out; omega)
                have hn2 := Lib.hid (show W.heap.size + 1 ≠ (x2.heap.size + 1) by have := hlt2.out; have := hloC.out; omega)
                clear hHeld
                refine hK.out _ _ ?_ (fun hHeld => ?_)
                · exact ⟨block_setCells hK1.out hn1.out, block_setCells hK2.out hn2.out⟩
                clear hK K
                try simp only [Act.put, List.getElem_toArray, List.getElem_cons_succ, List.getElem_cons_zero, List.setIfInBounds_toArray, List.set_cons_zero, List.set_cons_succ]
                have hK1 := Lib.hid (block_setCells (o := 0) (l := [.int .i64 o, .int .i64 q, .int .i64 s, .string st, .string ⟨#[88]⟩, .bool true, .int .i64 vy, .int .i64 vm, .int .i64 vk, .int .i64 vw, .int .i64 vd, .int .i64 vs, .int .i64 vb]) hK1.out hn1.out)
                have hK2 := Lib.hid (block_setCells (o := 0) (l := [.int .i64 o, .int .i64 q, .int .i64 s, .string st, .string ⟨#[88]⟩, .bool true, .int .i64 vy, .int .i64 vm, .int .i64 vk, .int .i64 vw, .int .i64 vd, .int .i64 vs, .int .i64 vb]) hK2.out hn2.out)
                have hR := Lib.hid (rul_setCells (o := 0) (l := [.int .i64 o, .int .i64 q, .int .i64 s, .string st, .string ⟨#[88]⟩, .bool true, .int .i64 vy, .int .i64 vm, .int .i64 vk, .int .i64 vw, .int .i64 vd, .int .i64 vs, .int .i64 vb]) hR.out hloC.out hRg.out)
                have hA := Lib.hid (block_setCells (o := 0) (l := [.int .i64 o, .int .i64 q, .int .i64 s, .string st, .string ⟨#[88]⟩, .bool true, .int .i64 vy, .int .i64 vm, .int .i64 vk, .int .i64 vw, .int .i64 vd, .int .i64 vs, .int .i64 vb]) hA.out hne.out)
                have hC := Lib.hid (set13c ([.int .i64 o, .int .i64 q, .int .i64 s, .string st, .string ⟨#[88]⟩, .bool true, .int .i64 vy, .int .i64 vm, .int .i64 vk, .int .i64 vw, .int .i64 vd, .int .i64 vs, .int .i64 vb]) rfl hC.out rfl)
                have hB := Lib.hid (bel_setCells (o := 0) (l := [.int .i64 o, .int .i64 q, .int .i64 s, .string st, .string ⟨#[88]⟩, .bool true, .int .i64 vy, .int .i64 vm, .int .i64 vk, .int .i64 vw, .int .i64 vd, .int .i64 vs, .int .i64 vb]) hB.out hcl.out)
                clear hn1 hn2
                generalize World.setCells _ _ _ _ = y15 at hA hC hB hK1 hK2 hR hHeld ⊢
                refine wpAnyH_done (by kernel_rfl) ?_ _
                clear hHeld hK1 hK2
                go_wp2_with fail
                go_meet
                case rel => exact ⟨x2.heap.size, (x2.heap.size + 1), uy, um, uk, uw, ud, us, ub, vy, vm, vk, vw, vd, vs, vb, rfl, rfl, hB, hR, hA, hC, HU, HV⟩
        · go_simp
          clear hHeld
          refine hK.out _ _ ?_ (fun hHeld => ?_)
          · exact ⟨block_below hK1.out (bel_alloc x2 (.cells #[.int .i64 0, .int .i64 0, .int .i64 0, .string ⟨#[]⟩, .string ⟨#[]⟩, .bool false, .int .i64 0, .int .i64 0, .int .i64 0, .int .i64 0, .int .i64 0, .int .i64 0, .int .i64 0] 45)), block_below hK2.out (bel_alloc x2 (.cells #[.int .i64 0, .int .i64 0, .int .i64 0, .string ⟨#[]⟩, .string ⟨#[]⟩, .bool false, .int .i64 0, .int .i64 0, .int .i64 0, .int .i64 0, .int .i64 0, .int .i64 0, .int .i64 0] 45))⟩
          clear hK K
          try simp only [Act.put, List.getElem_toArray, List.getElem_cons_succ, List.getElem_cons_zero, List.setIfInBounds_toArray, List.set_cons_zero, List.set_cons_succ]
          have hsz : x2.heap.size = x2.heap.size := by simp [sz_alloc, sz_drew]
          have hC := Lib.hid (show (x2.alloc (.cells #[.int .i64 0, .int .i64 0, .int .i64 0, .string ⟨#[]⟩, .string ⟨#[]⟩, .bool false, .int .i64 0, .int .i64 0, .int .i64 0, .int .i64 0, .int .i64 0, .int .i64 0, .int .i64 0] 45)).heap[x2.heap.size]? = some (.cells #[.int .i64 0, .int .i64 0, .int .i64 0, .string ⟨#[]⟩, .string ⟨#[]⟩, .bool false, .int .i64 0, .int .i64 0, .int .i64 0, .int .i64 0, .int .i64 0, .int .i64 0, .int .i64 0] 45) by rw [hsz]; exact heap_alloc_new _ _)
          have hcl := Lib.hid (show W.heap.size ≤ x2.heap.size by rw [hsz]; exact hB.out.size)
          have hloC := Lib.hid (show w2.heap.size ≤ x2.heap.size by rw [hsz]; exact hS.out)
          clear hsz
          have hK1 := Lib.hid (block_below hK1.out (bel_alloc x2 (.cells #[.int .i64 0, .int .i64 0, .int .i64 0, .string ⟨#[]⟩, .string ⟨#[]⟩, .bool false, .int .i64 0, .int .i64 0, .int .i64 0, .int .i64 0, .int .i64 0, .int .i64 0, .int .i64 0] 45)))
          have hK2 := Lib.hid (block_below hK2.out (bel_alloc x2 (.cells #[.int .i64 0, .int .i64 0, .int .i64 0, .string ⟨#[]⟩, .string ⟨#[]⟩, .bool false, .int .i64 0, .int .i64 0, .int .i64 0, .int .i64 0, .int .i64 0, .int .i64 0, .int .i64 0] 45)))
          have hR := Lib.hid (hR.out.below (bel_alloc x2 (.cells #[.int .i64 0, .int .i64 0, .int .i64 0, .string ⟨#[]⟩, .string ⟨#[]⟩, .bool false, .int .i64 0, .int .i64 0, .int .i64 0, .int .i64 0, .int .i64 0, .int .i64 0, .int .i64 0] 45)))
          have hB := Lib.hid (bel_trans hB.out (bel_alloc x2 (.cells #[.int .i64 0, .int .i64 0, .int .i64 0, .string ⟨#[]⟩, .string ⟨#[]⟩, .bool false, .int .i64 0, .int .i64 0, .int .i64 0, .int .i64 0, .int .i64 0, .int .i64 0, .int .i64 0] 45)))
          have hS := Lib.hid (show w2.heap.size ≤ (x2.alloc (.cells #[.int .i64 0, .int .i64 0, .int .i64 0, .string ⟨#[]⟩, .string ⟨#[]⟩, .bool false, .int .i64 0, .int .i64 0, .int .i64 0, .int .i64 0, .int .i64 0, .int .i64 0, .int .i64 0] 45)).heap.size by rw [sz_alloc]; have := hS.out; omega)
          refine wpAnyH_ready (rs := [12]) (by kernel_rfl) (by simp) ?_
          refine (AllReadyH.cons rfl (fun K hK => ?_) AllReadyH.nil)
          · go_simp
            clear hHeld
            refine hK.out _ _ ?_ (fun hHeld => ?_)
            · exact ⟨block_below hK1.out (bel_alloc (x2.alloc (.cells #[.int .i64 0, .int .i64 0, .int .i64 0, .string ⟨#[]⟩, .string ⟨#[]⟩, .bool false, .int .i64 0, .int .i64 0, .int .i64 0, .int .i64 0, .int .i64 0, .int .i64 0, .int .i64 0] 45)) (.cells #[.int .i64 0, .int .i64 0, .int .i64 0, .string ⟨#[]⟩, .string ⟨#[]⟩, .bool false, .int .i64 0, .int .i64 0, .int .i64 0, .int .i64 0, .int .i64 0, .int .i64 0, .int .i64 0] 45)), block_below hK2.out (bel_alloc (x2.alloc (.cells #[.int .i64 0, .int .i64 0, .int .i64 0, .string ⟨#[]⟩, .string ⟨#[]⟩, .bool false, .int .i64 0, .int .i64 0, .int .i64 0, .int .i64 0, .int .i64 0, .int .i64 0, .int .i64 0] 45)) (.cells #[.int .i64 0, .int .i64 0, .int .i64 0, .string ⟨#[]⟩, .string ⟨#[]⟩, .bool false, .int .i64 0, .int .i64 0, .int .i64 0, .int .i64 0, .int .i64 0, .int .i64 0, .int .i64 0] 45))⟩
            clear hK K
            try simp only [Act.put, List.getElem_toArray, List.getElem_cons_succ, List.getElem_cons_zero, List.setIfInBounds_toArray, List.set_cons_zero, List.set_cons_succ]
            have hsz : (x2.heap.size + 1) = (x2.alloc (.cells #[.int .i64 0, .int .i64 0, .int .i64 0, .string ⟨#[]⟩, .string ⟨#[]⟩, .bool false, .int .i64 0, .int .i64 0, .int .i64 0, .int .i64 0, .int .i64 0, .int .i64 0, .int .i64 0] 45)).heap.size := by simp [sz_alloc, sz_drew]
            have hA := Lib.hid (show ((x2.alloc (.cells #[.int .i64 0, .int .i64 0, .int .i64 0, .string ⟨#[]⟩, .string ⟨#[]⟩, .bool false, .int .i64 0, .int .i64 0, .int .i64 0, .int .i64 0, .int .i64 0, .int .i64 0, .int .i64 0] 45)).alloc (.cells #[.int .i64 0, .int .i64 0, .int .i64 0, .string ⟨#[]⟩, .string ⟨#[]⟩, .bool false, .int .i64 0, .int .i64 0, .int .i64 0, .int .i64 0, .int .i64 0, .int .i64 0, .int .i64 0] 45)).heap[(x2.heap.size + 1)]? = some (.cells #[.int .i64 0, .int .i64 0, .int .i64 0, .string ⟨#[]⟩, .string ⟨#[]⟩, .bool false, .int .i64 0, .int .i64 0, .int .i64 0, .int .i64 0, .int .i64 0, .int .i64 0, .int .i64 0] 45) by rw [hsz]; exact heap_alloc_new _ _)
            have hbl := Lib.hid (show W.heap.size ≤ (x2.heap.size + 1) by rw [hsz]; exact hB.out.size)
            have hne := Lib.hid (show (x2.heap.size + 1) ≠ x2.heap.size by have := (Array.getElem?_eq_some_iff.1 hC.out).1; omega)
            have hC := Lib.hid (block_below hC.out (bel_alloc (x2.alloc (.cells #[.int .i64 0, .int .i64 0, .int .i64 0, .string ⟨#[]⟩, .string ⟨#[]⟩, .bool false, .int .i64 0, .int .i64 0, .int .i64 0, .int .i64 0, .int .i64 0, .int .i64 0, .int .i64 0] 45)) (.cells #[.int .i64 0, .int .i64 0, .int .i64 0, .string ⟨#[]⟩, .string ⟨#[]⟩, .bool false, .int .i64 0, .int .i64 0, .int .i64 0, .int .i64 0, .int .i64 0, .int .i64 0, .int .i64 0] 45)))
            have hloB := Lib.hid (show w2.heap.size ≤ (x2.heap.size + 1) by rw [hsz]; exact hS.out)
            clear hsz
            have hK1 := Lib.hid (block_below hK1.out (bel_alloc (x2.alloc (.cells #[.int .i64 0, .int .i64 0, .int .i64 0, .string ⟨#[]⟩, .string ⟨#[]⟩, .bool false, .int .i64 0, .int .i64 0, .int .i64 0, .int .i64 0, .int .i64 0, .int .i64 0, .int .i64 0] 45)) (.cells #[.int .i64 0, .int .i64 0, .int .i64 0, .string ⟨#[]⟩, .string ⟨#[]⟩, .bool false, .int .i64 0, .int .i64 0, .int .i64 0, .int .i64 0, .int .i64 0, .int .i64 0, .int .i64 0] 45)))
            have hK2 := Lib.hid (block_below hK2.out (bel_alloc (x2.alloc (.cells #[.int .i64 0, .int .i64 0, .int .i64 0, .string ⟨#[]⟩, .string ⟨#[]⟩, .bool false, .int .i64 0, .int .i64 0, .int .i64 0, .int .i64 0, .int .i64 0, .int .i64 0, .int .i64 0] 45)) (.cells #[.int .i64 0, .int .i64 0, .int .i64 0, .string ⟨#[]⟩, .string ⟨#[]⟩, .bool false, .int .i64 0, .int .i64 0, .int .i64 0, .int .i64 0, .int .i64 0, .int .i64 0, .int .i64 0] 45)))
            have hR := Lib.hid (hR.out.below (bel_alloc (x2.alloc (.cells #[.int .i64 0, .int .i64 0, .int .i64 0, .string ⟨#[]⟩, .string ⟨#[]⟩, .bool false, .int .i64 0, .int .i64 0, .int .i64 0, .int .i64 0, .int .i64 0, .int .i64 0, .int .i64 0] 45)) (.cells #[.int .i64 0, .int .i64 0, .int .i64 0, .string ⟨#[]⟩, .string ⟨#[]⟩, .bool false, .int .i64 0, .int .i64 0, .int .i64 0, .int .i64 0, .int .i64 0, .int .i64 0, .int .i64 0] 45)))
            have hB := Lib.hid (bel_trans hB.out (bel_alloc (x2.alloc (.cells #[.int .i64 0, .int .i64 0, .int .i64 0, .string ⟨#[]⟩, .string ⟨#[]⟩, .bool false, .int .i64 0, .int .i64 0, .int .i64 0, .int .i64 0, .int .i64 0, .int .i64 0, .int .i64 0] 45)) (.cells #[.int .i64 0, .int .i64 0, .int .i64 0, .string ⟨#[]⟩, .string ⟨#[]⟩, .bool false, .int .i64 0, .int .i64 0, .int .i64 0, .int .i64 0, .int .i64 0, .int .i64 0, .int .i64 0] 45)))
            have hS := Lib.hid (show w2.heap.size ≤ ((x2.alloc (.cells #[.int .i64 0, .int .i64 0, .int .i64 0, .string ⟨#[]⟩, .string ⟨#[]⟩, .bool false, .int .i64 0, .int .i64 0, .int .i64 0, .int .i64 0, .int .i64 0, .int .i64 0, .int .i64 0] 45)).alloc (.cells #[.int .i64 0, .int .i64 0, .int .i64 0, .string ⟨#[]⟩, .string ⟨#[]⟩, .bool false, .int .i64 0, .int .i64 0, .int .i64 0, .int .i64 0, .int .i64 0, .int .i64 0, .int .i64 0] 45)).heap.size by rw [sz_alloc]; have := hS.out; omega)
            refine wpAnyH_ready (rs := [14]) (by kernel_rfl) (by simp) ?_
            refine (AllReadyH.cons rfl (fun K hK => ?_) AllReadyH.nil)
            · rw [if_pos (by rfl)]
              refine wp_store_mid _ _ _ rfl (x2.heap.size + 1) 0 #[.int .i64 o, .int .i64 q, .int .i64 s, .string st, .string ⟨#[88]⟩, .bool true, .int .i64 uy, .int .i64 um, .int .i64 uk, .int .i64 uw, .int .i64 ud, .int .i64 us, .int .i64 ub] rfl rfl (there13 hA.out rfl) (by kernel_rfl) (by simp [Value.oneCell']) ?_
              have hn1 := Lib.hid (show W.heap.size ≠ (x2.heap.size + 1) by have := hlt2.out; have := hloB.out; omega)
              have hn2 := Lib.hid (show W.heap.size + 1 ≠ (x2.heap.size + 1) by have := hlt2.out; have := hloB.out; omega)
              clear hHeld
              refine hK.out _ _ ?_ (fun hHeld => ?_)
              · exact ⟨block_setCells hK1.out hn1.out, block_setCells hK2.out hn2.out⟩
              clear hK K
              try simp only [Act.put, List.getElem_toArray, List.getElem_cons_succ, List.getElem_cons_zero, List.setIfInBounds_toArray, List.set_cons_zero, List.set_cons_succ]
              have hK1 := Lib.hid (block_setCells (o := 0) (l := [.int .i64 o, .int .i64 q, .int .i64 s, .string st, .string ⟨#[88]⟩, .bool true, .int .i64 uy, .int .i64 um, .int .i64 uk, .int .i64 uw, .int .i64 ud, .int .i64 us, .int .i64 ub]) hK1.out hn1.out)
              have hK2 := Lib.hid (block_setCells (o := 0) (l := [.int .i64 o, .int .i64 q, .int .i64 s, .string st, .string ⟨#[88]⟩, .bool true, .int .i64 uy, .int .i64 um, .int .i64 uk, .int .i64 uw, .int .i64 ud, .int .i64 us, .int .i64 ub]) hK2.out hn2.out)
              have hR := Lib.hid (rul_setCells (o := 0) (l := [.int .i64 o, .int .i64 q, .int .i64 s, .string st, .string ⟨#[88]⟩, .bool true, .int .i64 uy, .int .i64 um, .int .i64 uk, .int .i64 uw, .int .i64 ud, .int .i64 us, .int .i64 ub]) hR.out hloB.out hRg.out)
              have hC := Lib.hid (block_setCells (o := 0) (l := [.int .i64 o, .int .i64 q, .int .i64 s, .string st, .string ⟨#[88]⟩, .bool true, .int .i64 uy, .int .i64 um, .int .i64 uk, .int .i64 uw, .int .i64 ud, .int .i64 us, .int .i64 ub]) hC.out hne.out.symm)
              have hA := Lib.hid (set13c ([.int .i64 o, .int .i64 q, .int .i64 s, .string st, .string ⟨#[88]⟩, .bool true, .int .i64 uy, .int .i64 um, .int .i64 uk, .int .i64 uw, .int .i64 ud, .int .i64 us, .int .i64 ub]) rfl hA.out rfl)
              have hB := Lib.hid (bel_setCells (o := 0) (l := [.int .i64 o, .int .i64 q, .int .i64 s, .string st, .string ⟨#[88]⟩, .bool true, .int .i64 uy, .int .i64 um, .int .i64 uk, .int .i64 uw, .int .i64 ud, .int .i64 us, .int .i64 ub]) hB.out hbl.out)
              clear hn1 hn2
              generalize World.setCells _ _ _ _ = y14 at hA hC hB hK1 hK2 hR hHeld ⊢
              refine wpAnyH_ready (rs := [15]) (by kernel_rfl) (by simp) ?_
              refine (AllReadyH.cons rfl (fun K hK => ?_) AllReadyH.nil)
              · rw [if_pos (by rfl)]
                refine wp_store_mid _ _ _ rfl x2.heap.size 0 #[.int .i64 o, .int .i64 q, .int .i64 s, .string st, .string ⟨#[88]⟩, .bool true, .int .i64 vy, .int .i64 vm, .int .i64 vk, .int .i64 vw, .int .i64 vd, .int .i64 vs, .int .i64 vb] rfl rfl (there13 hC.out rfl) (by kernel_rfl) (by simp [Value.oneCell']) ?_
                have hn1 := Lib.hid (show W.heap.size ≠ x2.heap.size by have := hlt2.out; have := hloC.out; omega)
                have hn2 := Lib.hid (show W.heap.size + 1 ≠ x2.heap.size by have := hlt2.out; have := hloC.out; omega)
                clear hHeld
                refine hK.out _ _ ?_ (fun hHeld => ?_)
                · exact ⟨block_setCells hK1.out hn1.out, block_setCells hK2.out hn2.out⟩
                clear hK K
                try simp only [Act.put, List.getElem_toArray, List.getElem_cons_succ, List.getElem_cons_zero, List.setIfInBounds_toArray, List.set_cons_zero, List.set_cons_succ]
                have hK1 := Lib.hid (block_setCells (o := 0) (l := [.int .i64 o, .int .i64 q, .int .i64 s, .string st, .string ⟨#[88]⟩, .bool true, .int .i64 vy, .int .i64 vm, .int .i64 vk, .int .i64 vw, .int .i64 vd, .int .i64 vs, .int .i64 vb]) hK1.out hn1.out)
                have hK2 := Lib.hid (block_setCells (o := 0) (l := [.int .i64 o, .int .i64 q, .int .i64 s, .string st, .string ⟨#[88]⟩, .bool true, .int .i64 vy, .int .i64 vm, .int .i64 vk, .int .i64 vw, .int .i64 vd, .int .i64 vs, .int .i64 vb]) hK2.out hn2.out)
                have hR := Lib.hid (rul_setCells (o := 0) (l := [.int .i64 o, .int .i64 q, .int .i64 s, .string st, .string ⟨#[88]⟩, .bool true, .int .i64 vy, .int .i64 vm, .int .i64 vk, .int .i64 vw, .int .i64 vd, .int .i64 vs, .int .i64 vb]) hR.out hloC.out hRg.out)
                have hA := Lib.hid (block_setCells (o := 0) (l := [.int .i64 o, .int .i64 q, .int .i64 s, .string st, .string ⟨#[88]⟩, .bool true, .int .i64 vy, .int .i64 vm, .int .i64 vk, .int .i64 vw, .int .i64 vd, .int .i64 vs, .int .i64 vb]) hA.out hne.out)
                have hC := Lib.hid (set13c ([.int .i64 o, .int .i64 q, .int .i64 s, .string st, .string ⟨#[88]⟩, .bool true, .int .i64 vy, .int .i64 vm, .int .i64 vk, .int .i64 vw, .int .i64 vd, .int .i64 vs, .int .i64 vb]) rfl hC.out rfl)
                have hB := Lib.hid (bel_setCells (o := 0) (l := [.int .i64 o, .int .i64 q, .int .i64 s, .string st, .string ⟨#[88]⟩, .bool true, .int .i64 vy, .int .i64 vm, .int .i64 vk, .int .i64 vw, .int .i64 vd, .int .i64 vs, .int .i64 vb]) hB.out hcl.out)
                clear hn1 hn2
                generalize World.setCells _ _ _ _ = y15 at hA hC hB hK1 hK2 hR hHeld ⊢
                refine wpAnyH_done (by kernel_rfl) ?_ _
                clear hHeld hK1 hK2
                go_wp2_with fail
                go_meet
                case rel => exact ⟨(x2.heap.size + 1), x2.heap.size, uy, um, uk, uw, ud, us, ub, vy, vm, vk, vw, vd, vs, vb, rfl, rfl, hB, hR, hA, hC, HU, HV⟩
      · go_simp
        clear hHeld
        refine hK.out _ _ ?_ (fun hHeld => ?_)
        · exact ⟨block_below hK1.out (bel_alloc x1 (.cells #[.int .i64 0, .int .i64 0, .int .i64 0, .string ⟨#[]⟩, .string ⟨#[]⟩, .bool false, .int .i64 0, .int .i64 0, .int .i64 0, .int .i64 0, .int .i64 0, .int .i64 0, .int .i64 0] 45)), block_below hK2.out (bel_alloc x1 (.cells #[.int .i64 0, .int .i64 0, .int .i64 0, .string ⟨#[]⟩, .string ⟨#[]⟩, .bool false, .int .i64 0, .int .i64 0, .int .i64 0, .int .i64 0, .int .i64 0, .int .i64 0, .int .i64 0] 45))⟩
        clear hK K
        try simp only [Act.put, List.getElem_toArray, List.getElem_cons_succ, List.getElem_cons_zero, List.setIfInBounds_toArray, List.set_cons_zero, List.set_cons_succ]
        have hsz : x1.heap.size = x1.heap.size := by simp [sz_alloc, sz_drew]
        have hA := Lib.hid (show (x1.alloc (.cells #[.int .i64 0, .int .i64 0, .int .i64 0, .string ⟨#[]⟩, .string ⟨#[]⟩, .bool false, .int .i64 0, .int .i64 0, .int .i64 0, .int .i64 0, .int .i64 0, .int .i64 0, .int .i64 0] 45)).heap[x1.heap.size]? = some (.cells #[.int .i64 0, .int .i64 0, .int .i64 0, .string ⟨#[]⟩, .string ⟨#[]⟩, .bool false, .int .i64 0, .int .i64 0, .int .i64 0, .int .i64 0, .int .i64 0, .int .i64 0, .int .i64 0] 45) by rw [hsz]; exact heap_alloc_new _ _)
        have hbl := Lib.hid (show W.heap.size ≤ x1.heap.size by rw [hsz]; exact hB.out.size)
        have hloB := Lib.hid (show w2.heap.size ≤ x1.heap.size by rw [hsz]; exact hS.out)
        clear hsz
        have hK1 := Lib.hid (block_below hK1.out (bel_alloc x1 (.cells #[.int .i64 0, .int .i64 0, .int .i64 0, .string ⟨#[]⟩, .string ⟨#[]⟩, .bool false, .int .i64 0, .int .i64 0, .int .i64 0, .int .i64 0, .int .i64 0, .int .i64 0, .int .i64 0] 45)))
        have hK2 := Lib.hid (block_below hK2.out (bel_alloc x1 (.cells #[.int .i64 0, .int .i64 0, .int .i64 0, .string ⟨#[]⟩, .string ⟨#[]⟩, .bool false, .int .i64 0, .int .i64 0, .int .i64 0, .int .i64 0, .int .i64 0, .int .i64 0, .int .i64 0] 45)))
        have hR := Lib.hid (hR.out.below (bel_alloc x1 (.cells #[.int .i64 0, .int .i64 0, .int .i64 0, .string ⟨#[]⟩, .string ⟨#[]⟩, .bool false, .int .i64 0, .int .i64 0, .int .i64 0, .int .i64 0, .int .i64 0, .int .i64 0, .int .i64 0] 45)))
        have hB := Lib.hid (bel_trans hB.out (bel_alloc x1 (.cells #[.int .i64 0, .int .i64 0, .int .i64 0, .string ⟨#[]⟩, .string ⟨#[]⟩, .bool false, .int .i64 0, .int .i64 0, .int .i64 0, .int .i64 0, .int .i64 0, .int .i64 0, .int .i64 0] 45)))
        have hS := Lib.hid (show w2.heap.size ≤ (x1.alloc (.cells #[.int .i64 0, .int .i64 0, .int .i64 0, .string ⟨#[]⟩, .string ⟨#[]⟩, .bool false, .int .i64 0, .int .i64 0, .int .i64 0, .int .i64 0, .int .i64 0, .int .i64 0, .int .i64 0] 45)).heap.size by rw [sz_alloc]; have := hS.out; omega)
        refine wpAnyH_ready (rs := [11, 13]) (by kernel_rfl) (by simp) ?_
        refine (AllReadyH.cons rfl (fun K hK => ?_) (AllReadyH.cons rfl (fun K hK => ?_) AllReadyH.nil))
        · go_simp
          refine (HE.out fy fm fb fk fw fn fa ls _ HF.out.1 HF.out.2.1 HF.out.2.2.1 HF.out.2.2.2.1 HF.out.2.2.2.2.1 HF.out.2.2.2.2.2.1 HF.out.2.2.2.2.2.2 ml1 ml2).mono ?_
          rintro e x2 ⟨vy, vm, vk, vw, vd, vs, vb, HV, rfl, hb2⟩
          go_wp2_with fail
          clear hHeld
          refine hK.out _ _ ?_ (fun hHeld => ?_)
          · exact ⟨block_below hK1.out hb2, block_below hK2.out hb2⟩
          clear hK K
          try simp only [Act.put, List.getElem_toArray, List.getElem_cons_succ, List.getElem_cons_zero, List.setIfInBounds_toArray, List.set_cons_zero, List.set_cons_succ]
          have hK1 := Lib.hid (block_below hK1.out hb2)
          have hK2 := Lib.hid (block_below hK2.out hb2)
          have hR := Lib.hid (hR.out.below hb2)
          have hA := Lib.hid (block_below hA.out hb2)
          have hB := Lib.hid (bel_trans hB.out hb2)
          have hS := Lib.hid (show w2.heap.size ≤ x2.heap.size from Nat.le_trans hS.out hb2.size)
          clear hb2
          refine wpAnyH_ready (rs := [13]) (by kernel_rfl) (by simp) ?_
          refine (AllReadyH.cons rfl (fun K hK => ?_) AllReadyH.nil)
          · go_simp
            clear hHeld
            refine hK.out _ _ ?_ (fun hHeld => ?_)
            · exact ⟨block_below hK1.out (bel_alloc x2 (.cells #[.int .i64 0, .int .i64 0, .int .i64 0, .string ⟨#[]⟩, .string ⟨#[]⟩, .bool false, .int .i64 0, .int .i64 0, .int .i64 0, .int .i64 0, .int .i64 0, .int .i64 0, .int .i64 0] 45)), block_below hK2.out (bel_alloc x2 (.cells #[.int .i64 0, .int .i64 0, .int .i64 0, .string ⟨#[]⟩, .string ⟨#[]⟩, .bool false, .int .i64 0, .int .i64 0, .int .i64 0, .int .i64 0, .int .i64 0, .int .i64 0, .int .i64 0] 45))⟩
            clear hK K
            try simp only [Act.put, List.getElem_toArray, List.getElem_cons_succ, List.getElem_cons_zero, List.setIfInBounds_toArray, List.set_cons_zero, List.set_cons_succ]
            have hsz : x2.heap.size = x2.heap.size := by simp [sz_alloc, sz_drew]
            have hC := Lib.hid (show (x2.alloc (.cells #[.int .i64 0, .int .i64 0, .int .i64 0, .string ⟨#[]⟩, .string ⟨#[]⟩, .bool false, .int .i64 0, .int .i64 0, .int .i64 0, .int .i64 0, .int .i64 0, .int .i64 0, .int .i64 0] 45)).heap[x2.heap.size]? = some (.cells #[.int .i64 0, .int .i64 0, .int .i64 0, .string ⟨#[]⟩, .string ⟨#[]⟩, .bool false, .int .i64 0, .int .i64 0, .int .i64 0, .int .i64 0, .int .i64 0, .int .i64 0, .int .i64 0] 45) by rw [hsz]; exact heap_alloc_new _ _)
            have hcl := Lib.hid (show W.heap.size ≤ x2.heap.size by rw [hsz]; exact hB.out.size)
            have hne := Lib.hid (show x1.heap.size ≠ x2.heap.size by have := (Array.getElem?_eq_some_iff.1 hA.out).1; omega)
            have hA := Lib.hid (block_below hA.out (bel_alloc x2 (.cells #[.int .i64 0, .int .i64 0, .int .i64 0, .string ⟨#[]⟩, .string ⟨#[]⟩, .bool false, .int .i64 0, .int .i64 0, .int .i64 0, .int .i64 0, .int .i64 0, .int .i64 0, .int .i64 0] 45)))
            have hloC := Lib.hid (show w2.heap.size ≤ x2.heap.size by rw [hsz]; exact hS.out)
            clear hsz
            have hK1 := Lib.hid (block_below hK1.out (bel_alloc x2 (.cells #[.int .i64 0, .int .i64 0, .int .i64 0, .string ⟨#[]⟩, .string ⟨#[]⟩, .bool false, .int .i64 0, .int .i64 0, .int .i64 0, .int .i64 0, .int .i64 0, .int .i64 0, .int .i64 0] 45)))
            have hK2 := Lib.hid (block_below hK2.out (bel_alloc x2 (.cells #[.int .i64 0, .int .i64 0, .int .i64 0, .string ⟨#[]⟩, .string ⟨#[]⟩, .bool false, .int .i64 0, .int .i64 0, .int .i64 0, .int .i64 0, .int .i64 0, .int .i64 0, .int .i64 0] 45)))
            have hR := Lib.hid (hR.out.below (bel_alloc x2 (.cells #[.int .i64 0, .int .i64 0, .int .i64 0, .string ⟨#[]⟩, .string ⟨#[]⟩, .bool false, .int .i64 0, .int .i64 0, .int .i64 0, .int .i64 0, .int .i64 0, .int .i64 0, .int .i64 0] 45)))
            have hB := Lib.hid (bel_trans hB.out (bel_alloc x2 (.cells #[.int .i64 0, .int .i64 0, .int .i64 0, .string ⟨#[]⟩, .string ⟨#[]⟩, .bool false, .int .i64 0, .int .i64 0, .int .i64 0, .int .i64 0, .int .i64 0, .int .i64 0, .int .i64 0] 45)))
            have hS := Lib.hid (show w2.heap.size ≤ (x2.alloc (.cells #[.int .i64 0, .int .i64 0, .int .i64 0, .string ⟨#[]⟩, .string ⟨#[]⟩, .bool false, .int .i64 0, .int .i64 0, .int .i64 0, .int .i64 0, .int .i64 0, .int .i64 0, .int .i64 0] 45)).heap.size by rw [sz_alloc]; have := hS.out; omega)
            refine wpAnyH_ready (rs := [14]) (by kernel_rfl) (by simp) ?_
            refine (AllReadyH.cons rfl (fun K hK => ?_) AllReadyH.nil)
            · rw [if_pos (by rfl)]
              refine wp_store_mid _ _ _ rfl x1.heap.size 0 #[.int .i64 o, .int .i64 q, .int .i64 s, .string st, .string ⟨#[88]⟩, .bool true, .int .i64 uy, .int .i64 um, .int .i64 uk, .int .i64 uw, .int .i64 ud, .int .i64 us, .int .i64 ub] rfl rfl (there13 hA.out rfl) (by kernel_rfl) (by simp [Value.oneCell']) ?_
              have hn1 := Lib.hid (show W.heap.size ≠ x1.heap.size by have := hlt2.out; have := hloB.out; omega)
              have hn2 := Lib.hid (show W.heap.size + 1 ≠ x1.heap.size by have := hlt2.out; have := hloB.out; omega)
              clear hHeld
              refine hK.out _ _ ?_ (fun hHeld => ?_)
              · exact ⟨block_setCells hK1.out hn1.out, block_setCells hK2.out hn2.out⟩
              clear hK K
              try simp only [Act.put, List.getElem_toArray, List.getElem_cons_succ, List.getElem_cons_zero, List.setIfInBounds_toArray, List.set_cons_zero, List.set_cons_succ]
              have hK1 := Lib.hid (block_setCells (o := 0) (l := [.int .i64 o, .int .i64 q, .int .i64 s, .string st, .string ⟨#[88]⟩, .bool true, .int .i64 uy, .int .i64 um, .int .i64 uk, .int .i64 uw, .int .i64 ud, .int .i64 us, .int .i64 ub]) hK1.out hn1.out)
              have hK2 := Lib.hid (block_setCells (o := 0) (l := [.int .i64 o, .int .i64 q, .int .i64 s, .string st, .string ⟨#[88]⟩, .bool true, .int .i64 uy, .int .i64 um, .int .i64 uk, .int .i64 uw, .int .i64 ud, .int .i64 us, .int .i64 ub]) hK2.out hn2.out)
              have hR := Lib.hid (rul_setCells (o := 0) (l := [.int .i64 o, .int .i64 q, .int .i64 s, .string st, .string ⟨#[88]⟩, .bool true, .int .i64 uy, .int .i64 um, .int .i64 uk, .int .i64 uw, .int .i64 ud, .int .i64 us, .int .i64 ub]) hR.out hloB.out hRg.out)
              have hC := Lib.hid (block_setCells (o := 0) (l := [.int .i64 o, .int .i64 q, .int .i64 s, .string st, .string ⟨#[88]⟩, .bool true, .int .i64 uy, .int .i64 um, .int .i64 uk, .int .i64 uw, .int .i64 ud, .int .i64 us, .int .i64 ub]) hC.out hne.out.symm)
              have hA := Lib.hid (set13c ([.int .i64 o, .int .i64 q, .int .i64 s, .string st, .string ⟨#[88]⟩, .bool true, .int .i64 uy, .int .i64 um, .int .i64 uk, .int .i64 uw, .int .i64 ud, .int .i64 us, .int .i64 ub]) rfl hA.out rfl)
              have hB := Lib.hid (bel_setCells (o := 0) (l := [.int .i64 o, .int .i64 q, .int .i64 s, .string st, .string ⟨#[88]⟩, .bool true, .int .i64 uy, .int .i64 um, .int .i64 uk, .int .i64 uw, .int .i64 ud, .int .i64 us, .int .i64 ub]) hB.out hbl.out)
              clear hn1 hn2
              generalize World.setCells _ _ _ _ = y14 at hA hC hB hK1 hK2 hR hHeld ⊢
              refine wpAnyH_ready (rs := [15]) (by kernel_rfl) (by simp) ?_
              refine (AllReadyH.cons rfl (fun K hK => ?_) AllReadyH.nil)
              · rw [if_pos (by rfl)]
                refine wp_store_mid _ _ _ rfl x2.heap.size 0 #[.int .i64 o, .int .i64 q, .int .i64 s, .string st, .string ⟨#[88]⟩, .bool true, .int .i64 vy, .int .i64 vm, .int .i64 vk, .int .i64 vw, .int .i64 vd, .int .i64 vs, .int .i64 vb] rfl rfl (there13 hC.out rfl) (by kernel_rfl) (by simp [Value.oneCell']) ?_
                have hn1 := Lib.hid (show W.heap.size ≠ x2.heap.size by have := hlt2.out; have := hloC.out; omega)
                have hn2 := Lib.hid (show W.heap.size + 1 ≠ x2.heap.size by have := hlt2.out; have := hloC.out; omega)
                clear hHeld
                refine hK.out _ _ ?_ (fun hHeld => ?_)
                · exact ⟨block_setCells hK1.out hn1.out, block_setCells hK2.out hn2.out⟩
                clear hK K
                try simp only [Act.put, List.getElem_toArray, List.getElem_cons_succ, List.getElem_cons_zero, List.setIfInBounds_toArray, List.set_cons_zero, List.set_cons_succ]
                have hK1 := Lib.hid (block_setCells (o := 0) (l := [.int .i64 o, .int .i64 q, .int .i64 s, .string st, .string ⟨#[88]⟩, .bool true, .int .i64 vy, .int .i64 vm, .int .i64 vk, .int .i64 vw, .int .i64 vd, .int .i64 vs, .int .i64 vb]) hK1.out hn1.out)
                have hK2 := Lib.hid (block_setCells (o := 0) (l := [.int .i64 o, .int .i64 q, .int .i64 s, .string st, .string ⟨#[88]⟩, .bool true, .int .i64 vy, .int .i64 vm, .int .i64 vk, .int .i64 vw, .int .i64 vd, .int .i64 vs, .int .i64 vb]) hK2.out hn2.out)
                have hR := Lib.hid (rul_setCells (o := 0) (l := [.int .i64 o, .int .i64 q, .int .i64 s, .string st, .string ⟨#[88]⟩, .bool true, .int .i64 vy, .int .i64 vm, .int .i64 vk, .int .i64 vw, .int .i64 vd, .int .i64 vs, .int .i64 vb]) hR.out hloC.out hRg.out)
                have hA := Lib.hid (block_setCells (o := 0) (l := [.int .i64 o, .int .i64 q, .int .i64 s, .string st, .string ⟨#[88]⟩, .bool true, .int .i64 vy, .int .i64 vm, .int .i64 vk, .int .i64 vw, .int .i64 vd, .int .i64 vs, .int .i64 vb]) hA.out hne.out)
                have hC := Lib.hid (set13c ([.int .i64 o, .int .i64 q, .int .i64 s, .string st, .string ⟨#[88]⟩, .bool true, .int .i64 vy, .int .i64 vm, .int .i64 vk, .int .i64 vw, .int .i64 vd, .int .i64 vs, .int .i64 vb]) rfl hC.out rfl)
                have hB := Lib.hid (bel_setCells (o := 0) (l := [.int .i64 o, .int .i64 q, .int .i64 s, .string st, .string ⟨#[88]⟩, .bool true, .int .i64 vy, .int .i64 vm, .int .i64 vk, .int .i64 vw, .int .i64 vd, .int .i64 vs, .int .i64 vb]) hB.out hcl.out)
                clear hn1 hn2
                generalize World.setCells _ _ _ _ = y15 at hA hC hB hK1 hK2 hR hHeld ⊢
                refine wpAnyH_done (by kernel_rfl) ?_ _
                clear hHeld hK1 hK2
                go_wp2_with fail
                go_meet
                case rel => exact ⟨x1.heap.size, x2.heap.size, uy, um, uk, uw, ud, us, ub, vy, vm, vk, vw, vd, vs, vb, rfl, rfl, hB, hR, hA, hC, HU, HV⟩
        · go_simp
          clear hHeld
          refine hK.out _ _ ?_ (fun hHeld => ?_)
          · exact ⟨block_below hK1.out (bel_alloc (x1.alloc (.cells #[.int .i64 0, .int .i64 0, .int .i64 0, .string ⟨#[]⟩, .string ⟨#[]⟩, .bool false, .int .i64 0, .int .i64 0, .int .i64 0, .int .i64 0, .int .i64 0, .int .i64 0, .int .i64 0] 45)) (.cells #[.int .i64 0, .int .i64 0, .int .i64 0, .string ⟨#[]⟩, .string ⟨#[]⟩, .bool false, .int .i64 0, .int .i64 0, .int .i64 0, .int .i64 0, .int .i64 0, .int .i64 0, .int .i64 0] 45)), block_below hK2.out (bel_alloc (x1.alloc (.cells #[.int .i64 0, .int .i64 0, .int .i64 0, .string ⟨#[]⟩, .string ⟨#[]⟩, .bool false, .int .i64 0, .int .i64 0, .int .i64 0, .int .i64 0, .int .i64 0, .int .i64 0, .int .i64 0] 45)) (.cells #[.int .i64 0, .int .i64 0, .int .i64 0, .string ⟨#[]⟩, .string ⟨#[]⟩, .bool false, .int .i64 0, .int .i64 0, .int .i64 0, .int .i64 0, .int .i64 0, .int .i64 0, .int .i64 0] 45))⟩
          clear hK K
          try simp only [Act.put, List.getElem_toArray, List.getElem_cons_succ, List.getElem_cons_zero, List.setIfInBounds_toArray, List.set_cons_zero, List.set_cons_succ]
          have hsz : (x1.heap.size + 1) = (x1.alloc (.cells #[.int .i64 0, .int .i64 0, .int .i64 0, .string ⟨#[]⟩, .string ⟨#[]⟩, .bool false, .int .i64 0, .int .i64 0, .int .i64 0, .int .i64 0, .int .i64 0, .int .i64 0, .int .i64 0] 45)).heap.size := by simp [sz_alloc, sz_drew]
          have hC := Lib.hid (show ((x1.alloc (.cells #[.int .i64 0, .int .i64 0, .int .i64 0, .string ⟨#[]⟩, .string ⟨#[]⟩, .bool false, .int .i64 0, .int .i64 0, .int .i64 0, .int .i64 0, .int .i64 0, .int .i64 0, .int .i64 0] 45)).alloc (.cells #[.int .i64 0, .int .i64 0, .int .i64 0, .string ⟨#[]⟩, .string ⟨#[]⟩, .bool false, .int .i64 0, .int .i64 0, .int .i64 0, .int .i64 0, .int .i64 0, .int .i64 0, .int .i64 0] 45)).heap[(x1.heap.size + 1)]? = some (.cells #[.int .i64 0, .int .i64 0, .int .i64 0, .string ⟨#[]⟩, .string ⟨#[]⟩, .bool false, .int .i64 0, .int .i64 0, .int .i64 0, .int .i64 0, .int .i64 0, .int .i64 0, .int .i64 0] 45) by rw [hsz]; exact heap_alloc_new _ _)
          have hcl := Lib.hid (show W.heap.size ≤ (x1.heap.size + 1) by rw [hsz]; exact hB.out.size)
          have hne := Lib.hid (show x1.heap.size ≠ (x1.heap.size + 1) by have := (Array.getElem?_eq_some_iff.1 hA.out).1; omega)
          have hA := Lib.hid (block_below hA.out (bel_alloc (x1.alloc (.cells #[.int .i64 0, .int .i64 0, .int .i64 0, .string ⟨#[]⟩, .string ⟨#[]⟩, .bool false, .int .i64 0, .int .i64 0, .int .i64 0, .int .i64 0, .int .i64 0, .int .i64 0, .int .i64 0] 45)) (.cells #[.int .i64 0, .int .i64 0, .int .i64 0, .string ⟨#[]⟩, .string ⟨#[]⟩, .bool false, .int .i64 0, .int .i64 0, .int .i64 0, .int .i64 0, .int .i64 0, .int .i64 0, .int .i64 0] 45)))
          have hloC := Lib.hid (show w2.heap.size ≤ (x1.heap.size + 1) by rw [hsz]; exact hS.out)
          clear hsz
          have hK1 := Lib.hid (block_below hK1.out (bel_alloc (x1.alloc (.cells #[.int .i64 0, .int .i64 0, .int .i64 0, .string ⟨#[]⟩, .string ⟨#[]⟩, .bool false, .int .i64 0, .int .i64 0, .int .i64 0, .int .i64 0, .int .i64 0, .int .i64 0, .int .i64 0] 45)) (.cells #[.int .i64 0, .int .i64 0, .int .i64 0, .string ⟨#[]⟩, .string ⟨#[]⟩, .bool false, .int .i64 0, .int .i64 0, .int .i64 0, .int .i64 0, .int .i64 0, .int .i64 0, .int .i64 0] 45)))
          have hK2 := Lib.hid (block_below hK2.out (bel_alloc (x1.alloc (.cells #[.int .i64 0, .int .i64 0, .int .i64 0, .string ⟨#[]⟩, .string ⟨#[]⟩, .bool false, .int .i64 0, .int .i64 0, .int .i64 0, .int .i64 0, .int .i64 0, .int .i64 0, .int .i64 0] 45)) (.cells #[.int .i64 0, .int .i64 0, .int .i64 0, .string ⟨#[]⟩, .string ⟨#[]⟩, .bool false, .int .i64 0, .int .i64 0, .int .i64 0, .int .i64 0, .int .i64 0, .int .i64 0, .int .i64 0] 45)))
          have hR := Lib.hid (hR.out.below (bel_alloc (x1.alloc (.cells #[.int .i64 0, .int .i64 0, .int .i64 0, .string ⟨#[]⟩, .string ⟨#[]⟩, .bool false, .int .i64 0, .int .i64 0, .int .i64 0, .int .i64 0, .int .i64 0, .int .i64 0, .int .i64 0] 45)) (.cells #[.int .i64 0, .int .i64 0, .int .i64 0, .string ⟨#[]⟩, .string ⟨#[]⟩, .bool false, .int .i64 0, .int .i64 0, .int .i64 0, .int .i64 0, .int .i64 0, .int .i64 0, .int .i64 0] 45)))
          have hB := Lib.hid (bel_trans hB.out (bel_alloc (x1.alloc (.cells #[.int .i64 0, .int .i64 0, .int .i64 0, .string ⟨#[]⟩, .string ⟨#[]⟩, .bool false, .int .i64 0, .int .i64 0, .int .i64 0, .int .i64 0, .int .i64 0, .int .i64 0, .int .i64 0] 45)) (.cells #[.int .i64 0, .int .i64 0, .int .i64 0, .string ⟨#[]⟩, .string ⟨#[]⟩, .bool false, .int .i64 0, .int .i64 0, .int .i64 0, .int .i64 0, .int .i64 0, .int .i64 0, .int .i64 0] 45)))
          have hS := Lib.hid (show w2.heap.size ≤ ((x1.alloc (.cells #[.int .i64 0, .int .i64 0, .int .i64 0, .string ⟨#[]⟩, .string ⟨#[]⟩, .bool false, .int .i64 0, .int .i64 0, .int .i64 0, .int .i64 0, .int .i64 0, .int .i64 0, .int .i64 0] 45)).alloc (.cells #[.int .i64 0, .int .i64 0, .int .i64 0, .string ⟨#[]⟩, .string ⟨#[]⟩, .bool false, .int .i64 0, .int .i64 0, .int .i64 0, .int .i64 0, .int .i64 0, .int .i64 0, .int .i64 0] 45)).heap.size by rw [sz_alloc]; have := hS.out; omega)
          refine wpAnyH_ready (rs := [11]) (by kernel_rfl) (by simp) ?_
          refine (AllReadyH.cons rfl (fun K hK => ?_) AllReadyH.nil)
          · go_simp
            refine (HE.out fy fm fb fk fw fn fa ls _ HF.out.1 HF.out.2.1 HF.out.2.2.1 HF.out.2.2.2.1 HF.out.2.2.2.2.1 HF.out.2.2.2.2.2.1 HF.out.2.2.2.2.2.2 ml1 ml2).mono ?_
            rintro e x2 ⟨vy, vm, vk, vw, vd, vs, vb, HV, rfl, hb2⟩
            go_wp2_with fail
            clear hHeld
            refine hK.out _ _ ?_ (fun hHeld => ?_)
            · exact ⟨block_below hK1.out hb2, block_below hK2.out hb2⟩
            clear hK K
            try simp only [Act.put, List.getElem_toArray, List.getElem_cons_succ, List.getElem_cons_zero, List.setIfInBounds_toArray, List.set_cons_zero, List.set_cons_succ]
            have hK1 := Lib.hid (block_below hK1.out hb2)
            have hK2 := Lib.hid (block_below hK2.out hb2)
            have hR := Lib.hid (hR.out.below hb2)
            have hA := Lib.hid (block_below hA.out hb2)
            have hC := Lib.hid (block_below hC.out hb2)
            have hB := Lib.hid (bel_trans hB.out hb2)
            have hS := Lib.hid (show w2.heap.size ≤ x2.heap.size from Nat.le_trans hS.out hb2.size)
            clear hb2
            refine wpAnyH_ready (rs := [14]) (by kernel_rfl) (by simp) ?_
            refine (AllReadyH.cons rfl (fun K hK => ?_) AllReadyH.nil)
            · rw [if_pos (by rfl)]
              refine wp_store_mid _ _ _ rfl x1.heap.size 0 #[.int .i64 o, .int .i64 q, .int .i64 s, .string st, .string ⟨#[88]⟩, .bool true, .int .i64 uy, .int .i64 um, .int .i64 uk, .int .i64 uw, .int .i64 ud, .int .i64 us, .int .i64 ub] rfl rfl (there13 hA.out rfl) (by kernel_rfl) (by simp [Value.oneCell']) ?_
              have hn1 := Lib.hid (show W.heap.size ≠ x1.heap.size by have := hlt2.out; have := hloB.out; omega)
              have hn2 := Lib.hid (show W.heap.size + 1 ≠ x1.heap.size by have := hlt2.out; have := hloB.out; omega)
              clear hHeld
              refine hK.out _ _ ?_ (fun hHeld => ?_)
              · exact ⟨block_setCells hK1.out hn1.out, block_setCells hK2.out hn2.out⟩
              clear hK K
              try simp only [Act.put, List.getElem_toArray, List.getElem_cons_succ, List.getElem_cons_zero, List.setIfInBounds_toArray, List.set_cons_zero, List.set_cons_succ]
              have hK1 := Lib.hid (block_setCells (o := 0) (l := [.int .i64 o, .int .i64 q, .int .i64 s, .string st, .string ⟨#[88]⟩, .bool true, .int .i64 uy, .int .i64 um, .int .i64 uk, .int .i64 uw, .int .i64 ud, .int .i64 us, .int .i64 ub]) hK1.out hn1.out)
              have hK2 := Lib.hid (block_setCells (o := 0) (l := [.int .i64 o, .int .i64 q, .int .i64 s, .string st, .string ⟨#[88]⟩, .bool true, .int .i64 uy, .int .i64 um, .int .i64 uk, .int .i64 uw, .int .i64 ud, .int .i64 us, .int .i64 ub]) hK2.out hn2.out)
              have hR := Lib.hid (rul_setCells (o := 0) (l := [.int .i64 o, .int .i64 q, .int .i64 s, .string st, .string ⟨#[88]⟩, .bool true, .int .i64 uy, .int .i64 um, .int .i64 uk, .int .i64 uw, .int .i64 ud, .int .i64 us, .int .i64 ub]) hR.out hloB.out hRg.out)
              have hC := Lib.hid (block_setCells (o := 0) (l := [.int .i64 o, .int .i64 q, .int .i64 s, .string st, .string ⟨#[88]⟩, .bool true, .int .i64 uy, .int .i64 um, .int .i64 uk, .int .i64 uw, .int .i64 ud, .int .i64 us, .int .i64 ub]) hC.out hne.out.symm)
              have hA := Lib.hid (set13c ([.int .i64 o, .int .i64 q, .int .i64 s, .string st, .string ⟨#[88]⟩, .bool true, .int .i64 uy, .int .i64 um, .int .i64 uk, .int .i64 uw, .int .i64 ud, .int .i64 us, .int .i64 ub]) rfl hA.out rfl)
              have hB := Lib.hid (bel_setCells (o := 0) (l := [.int .i64 o, .int .i64 q, .int .i64 s, .string st, .string ⟨#[88]⟩, .bool true, .int .i64 uy, .int .i64 um, .int .i64 uk, .int .i64 uw, .int .i64 ud, .int .i64 us, .int .i64 ub]) hB.out hbl.out)
              clear hn1 hn2
              generalize World.setCells _ _ _ _ = y14 at hA hC hB hK1 hK2 hR hHeld ⊢
              refine wpAnyH_ready (rs := [15]) (by kernel_rfl) (by simp) ?_
              refine (AllReadyH.cons rfl (fun K hK => ?_) AllReadyH.nil)
              · rw [if_pos (by rfl)]
                refine wp_store_mid _ _ _ rfl (x1.heap.size + 1) 0 #[.int .i64 o, .int .i64 q, .int .i64 s, .string st, .string ⟨#[88]⟩, .bool true, .int .i64 vy, .int .i64 vm, .int .i64 vk, .int .i64 vw, .int .i64 vd, .int .i64 vs, .int .i64 vb] rfl rfl (there13 hC.out rfl) (by kernel_rfl) (by simp [Value.oneCell']) ?_
                have hn1 := Lib.hid (show W.heap.size ≠ (x1.heap.size + 1) by have := hlt2.out; have := hloC.out; omega)
                have hn2 := Lib.hid (show W.heap.size + 1 ≠ (x1.heap.size + 1) by have := hlt2.out; have := hloC.out; omega)
                clear hHeld
                refine hK.out _ _ ?_ (fun hHeld => ?_)
                · exact ⟨block_setCells hK1.out hn1.out, block_setCells hK2.out hn2.out⟩
                clear hK K
                try simp only [Act.put, List.getElem_toArray, List.getElem_cons_succ, List.getElem_cons_zero, List.setIfInBounds_toArray, List.set_cons_zero, List.set_cons_succ]
                have hK1 := Lib.hid (block_setCells (o := 0) (l := [.int .i64 o, .int .i64 q, .int .i64 s, .string st, .string ⟨#[88]⟩, .bool true, .int .i64 vy, .int .i64 vm, .int .i64 vk, .int .i64 vw, .int .i64 vd, .int .i64 vs, .int .i64 vb]) hK1.out hn1.out)
                have hK2 := Lib.hid (block_setCells (o := 0) (l := [.int .i64 o, .int .i64 q, .int .i64 s, .string st, .string ⟨#[88]⟩, .bool true, .int .i64 vy, .int .i64 vm, .int .i64 vk, .int .i64 vw, .int .i64 vd, .int .i64 vs, .int .i64 vb]) hK2.out hn2.out)
                have hR := Lib.hid (rul_setCells (o := 0) (l := [.int .i64 o, .int .i64 q, .int .i64 s, .string st, .string ⟨#[88]⟩, .bool true, .int .i64 vy, .int .i64 vm, .int .i64 vk, .int .i64 vw, .int .i64 vd, .int .i64 vs, .int .i64 vb]) hR.out hloC.out hRg.out)
                have hA := Lib.hid (block_setCells (o := 0) (l := [.int .i64 o, .int .i64 q, .int .i64 s, .string st, .string ⟨#[88]⟩, .bool true, .int .i64 vy, .int .i64 vm, .int .i64 vk, .int .i64 vw, .int .i64 vd, .int .i64 vs, .int .i64 vb]) hA.out hne.out)
                have hC := Lib.hid (set13c ([.int .i64 o, .int .i64 q, .int .i64 s, .string st, .string ⟨#[88]⟩, .bool true, .int .i64 vy, .int .i64 vm, .int .i64 vk, .int .i64 vw, .int .i64 vd, .int .i64 vs, .int .i64 vb]) rfl hC.out rfl)
                have hB := Lib.hid (bel_setCells (o := 0) (l := [.int .i64 o, .int .i64 q, .int .i64 s, .string st, .string ⟨#[88]⟩, .bool true, .int .i64 vy, .int .i64 vm, .int .i64 vk, .int .i64 vw, .int .i64 vd, .int .i64 vs, .int .i64 vb]) hB.out hcl.out)
                clear hn1 hn2
                generalize World.setCells _ _ _ _ = y15 at hA hC hB hK1 hK2 hR hHeld ⊢
                refine wpAnyH_done (by kernel_rfl) ?_ _
                clear hHeld hK1 hK2
                go_wp2_with fail
                go_meet
                case rel => exact ⟨x1.heap.size, (x1.heap.size + 1), uy, um, uk, uw, ud, us, ub, vy, vm, vk, vw, vd, vs, vb, rfl, rfl, hB, hR, hA, hC, HU, HV⟩
      · go_simp
        clear hHeld
        refine hK.out _ _ ?_ (fun hHeld => ?_)
        · exact ⟨block_below hK1.out (bel_alloc x1 (.cells #[.int .i64 0, .int .i64 0, .int .i64 0, .string ⟨#[]⟩, .string ⟨#[]⟩, .bool false, .int .i64 0, .int .i64 0, .int .i64 0, .int .i64 0, .int .i64 0, .int .i64 0, .int .i64 0] 45)), block_below hK2.out (bel_alloc x1 (.cells #[.int .i64 0, .int .i64 0, .int .i64 0, .string ⟨#[]⟩, .string ⟨#[]⟩, .bool false, .int .i64 0, .int .i64 0, .int .i64 0, .int .i64 0, .int .i64 0, .int .i64 0, .int .i64 0] 45))⟩
        clear hK K
        try simp only [Act.put, List.getElem_toArray, List.getElem_cons_succ, List.getElem_cons_zero, List.setIfInBounds_toArray, List.set_cons_zero, List.set_cons_succ]
        have hsz : x1.heap.size = x1.heap.size := by simp [sz_alloc, sz_drew]
        have hC := Lib.hid (show (x1.alloc (.cells #[.int .i64 0, .int .i64 0, .int .i64 0, .string ⟨#[]⟩, .string ⟨#[]⟩, .bool false, .int .i64 0, .int .i64 0, .int .i64 0, .int .i64 0, .int .i64 0, .int .i64 0, .int .i64 0] 45)).heap[x1.heap.size]? = some (.cells #[.int .i64 0, .int .i64 0, .int .i64 0, .string ⟨#[]⟩, .string ⟨#[]⟩, .bool false, .int .i64 0, .int .i64 0, .int .i64 0, .int .i64 0, .int .i64 0, .int .i64 0, .int .i64 0] 45) by rw [hsz]; exact heap_alloc_new _ _)
        have hcl := Lib.hid (show W.heap.size ≤ x1.heap.size by rw [hsz]; exact hB.out.size)
        have hloC := Lib.hid (show w2.heap.size ≤ x1.heap.size by rw [hsz]; exact hS.out)
        clear hsz
        have hK1 := Lib.hid (block_below hK1.out (bel_alloc x1 (.cells #[.int .i64 0, .int .i64 0, .int .i64 0, .string ⟨#[]⟩, .string ⟨#[]⟩, .bool false, .int .i64 0, .int .i64 0, .int .i64 0, .int .i64 0, .int .i64 0, .int .i64 0, .int .i64 0] 45)))
        have hK2 := Lib.hid (block_below hK2.out (bel_alloc x1 (.cells #[.int .i64 0, .int .i64 0, .int .i64 0, .string ⟨#[]⟩, .string ⟨#[]⟩, .bool false, .int .i64 0, .int .i64 0, .int .i64 0, .int .i64 0, .int .i64 0, .int .i64 0, .int .i64 0] 45)))
        have hR := Lib.hid (hR.out.below (bel_alloc x1 (.cells #[.int .i64 0, .int .i64 0, .int .i64 0, .string ⟨#[]⟩, .string ⟨#[]⟩, .bool false, .int .i64 0, .int .i64 0, .int .i64 0, .int .i64 0, .int .i64 0, .int .i64 0, .int .i64 0] 45)))
        have hB := Lib.hid (bel_trans hB.out (bel_alloc x1 (.cells #[.int .i64 0, .int .i64 0, .int .i64 0, .string ⟨#[]⟩, .string ⟨#[]⟩, .bool false, .int .i64 0, .int .i64 0, .int .i64 0, .int .i64 0, .int .i64 0, .int .i64 0, .int .i64 0] 45)))
        have hS := Lib.hid (show w2.heap.size ≤ (x1.alloc (.cells #[.int .i64 0, .int .i64 0, .int .i64 0, .string ⟨#[]⟩, .string ⟨#[]⟩, .bool false, .int .i64 0, .int .i64 0, .int .i64 0, .int .i64 0, .int .i64 0, .int .i64 0, .int .i64 0] 45)).heap.size by rw [sz_alloc]; have := hS.out; omega)
        refine wpAnyH_ready (rs := [11, 12]) (by kernel_rfl) (by simp) ?_
        refine (AllReadyH.cons rfl (fun K hK => ?_) (AllReadyH.cons rfl (fun K hK => ?_) AllReadyH.nil))
        · go_simp
          refine (HE.out fy fm fb fk fw fn fa ls _ HF.out.1 HF.out.2.1 HF.out.2.2.1 HF.out.2.2.2.1 HF.out.2.2.2.2.1 HF.out.2.2.2.2.2.1 HF.out.2.2.2.2.2.2 ml1 ml2).mono ?_
          rintro e x2 ⟨vy, vm, vk, vw, vd, vs, vb, HV, rfl, hb2⟩
          go_wp2_with fail
          clear hHeld
          refine hK.out _ _ ?_ (fun hHeld => ?_)
          · exact ⟨block_below hK1.out hb2, block_below hK2.out hb2⟩
          clear hK K
          try simp only [Act.put, List.getElem_toArray, List.getElem_cons_succ, List.getElem_cons_zero, List.setIfInBounds_toArray, List.set_cons_zero, List.set_cons_succ]
          have hK1 := Lib.hid (block_below hK1.out hb2)
          have hK2 := Lib.hid (block_below hK2.out hb2)
          have hR := Lib.hid (hR.out.below hb2)
          have hC := Lib.hid (block_below hC.out hb2)
          have hB := Lib.hid (bel_trans hB.out hb2)
          have hS := Lib.hid (show w2.heap.size ≤ x2.heap.size from Nat.le_trans hS.out hb2.size)
          clear hb2
          refine wpAnyH_ready (rs := [12]) (by kernel_rfl) (by simp) ?_
          refine (AllReadyH.cons rfl (fun K hK => ?_) AllReadyH.nil)
          · go_simp
            clear hHeld
            refine hK.out _ _ ?_ (fun hHeld => ?_)
            · exact ⟨block_below hK1.out (bel_alloc x2 (.cells #[.int .i64 0, .int .i64 0, .int .i64 0, .string ⟨#[]⟩, .string ⟨#[]⟩, .bool false, .int .i64 0, .int .i64 0, .int .i64 0, .int .i64 0, .int .i64 0, .int .i64 0, .int .i64 0] 45)), block_below hK2.out (bel_alloc x2 (.cells #[.int .i64 0, .int .i64 0, .int .i64 0, .string ⟨#[]⟩, .string ⟨#[]⟩, .bool false, .int .i64 0, .int .i64 0, .int .i64 0, .int .i64 0, .int .i64 0, .int .i64 0, .int .i64 0] 45))⟩
            clear hK K
            try simp only [Act.put, List.getElem_toArray, List.getElem_cons_succ, List.getElem_cons_zero, List.setIfInBounds_toArray, List.set_cons_zero, List.set_cons_succ]
            have hsz : x2.heap.size = x2.heap.size := by simp [sz_alloc, sz_drew]
            have hA := Lib.hid (show (x2.alloc (.cells #[.int .i64 0, .int .i64 0, .int .i64 0, .string ⟨#[]⟩, .string ⟨#[]⟩, .bool false, .int .i64 0, .int .i64 0, .int .i64 0, .int .i64 0, .int .i64 0, .int .i64 0, .int .i64 0] 45)).heap[x2.heap.size]? = some (.cells #[.int .i64 0, .int .i64 0, .int .i64 0, .string ⟨#[]⟩, .string ⟨#[]⟩, .bool false, .int .i64 0, .int .i64 0, .int .i64 0, .int .i64 0, .int .i64 0, .int .i64 0, .int .i64 0] 45) by rw [hsz]; exact heap_alloc_new _ _)
            have hbl := Lib.hid (show W.heap.size ≤ x2.heap.size by rw [hsz]; exact hB.out.size)
            have hne := Lib.hid (show x2.heap.size ≠ x1.heap.size by have := (Array.getElem?_eq_some_iff.1 hC.out).1; omega)
            have hC := Lib.hid (block_below hC.out (bel_alloc x2 (.cells #[.int .i64 0, .int .i64 0, .int .i64 0, .string ⟨#[]⟩, .string ⟨#[]⟩, .bool false, .int .i64 0, .int .i64 0, .int .i64 0, .int .i64 0, .int .i64 0, .int .i64 0, .int .i64 0] 45)))
            have hloB := Lib.hid (show w2.heap.size ≤ x2.heap.size by rw [hsz]; exact hS.out)
            clear hsz
            have hK1 := Lib.hid (block_below hK1.out (bel_alloc x2 (.cells #[.int .i64 0, .int .i64 0, .int .i64 0, .string ⟨#[]⟩, .string ⟨#[]⟩, .bool false, .int .i64 0, .int .i64 0, .int .i64 0, .int .i64 0, .int .i64 0, .int .i64 0, .int .i64 0] 45)))
            have hK2 := Lib.hid (block_below hK2.out (bel_alloc x2 (.cells #[.int .i64 0, .int .i64 0, .int .i64 0, .string ⟨#[]⟩, .string ⟨#[]⟩, .bool false, .int .i64 0, .int .i64 0, .int .i64 0, .int .i64 0, .int .i64 0, .int .i64 0, .int .i64 0] 45)))
            have hR := Lib.hid (hR.out.below (bel_alloc x2 (.cells #[.int .i64 0, .int .i64 0, .int .i64 0, .string ⟨#[]⟩, .string ⟨#[]⟩, .bool false, .int .i64 0, .int .i64 0, .int .i64 0, .int .i64 0, .int .i64 0, .int .i64 0, .int .i64 0] 45)))
            have hB := Lib.hid (bel_trans hB.out (bel_alloc x2 (.cells #[.int .i64 0, .int .i64 0, .int .i64 0, .string ⟨#[]⟩, .string ⟨#[]⟩, .bool false, .int .i64 0, .int .i64 0, .int .i64 0, .int .i64 0, .int .i64 0, .int .i64 0, .int .i64 0] 45)))
            have hS := Lib.hid (show w2.heap.size ≤ (x2.alloc (.cells #[.int .i64 0, .int .i64 0, .int .i64 0, .string ⟨#[]⟩, .string ⟨#[]⟩, .bool false, .int .i64 0, .int .i64 0, .int .i64 0, .int .i64 0, .int .i64 0, .int .i64 0, .int .i64 0] 45)).heap.size by rw [sz_alloc]; have := hS.out; omega)
            refine wpAnyH_ready (rs := [14]) (by kernel_rfl) (by simp) ?_
            refine (AllReadyH.cons rfl (fun K hK => ?_) AllReadyH.nil)
            · rw [if_pos (by rfl)]
              refine wp_store_mid _ _ _ rfl x2.heap.size 0 #[.int .i64 o, .int .i64 q, .int .i64 s, .string st, .string ⟨#[88]⟩, .bool true, .int .i64 uy, .int .i64 um, .int .i64 uk, .int .i64 uw, .int .i64 ud, .int .i64 us, .int .i64 ub] rfl rfl (there13 hA.out rfl) (by kernel_rfl) (by simp [Value.oneCell']) ?_
              have hn1 := Lib.hid (show W.heap.size ≠ x2.heap.size by have := hlt2.out; have := hloB.out; omega)
              have hn2 := Lib.hid (show W.heap.size + 1 ≠ x2.heap.size by have := hlt2.out; have := hloB.out; omega)
              clear hHeld
              refine hK.out _ _ ?_ (fun hHeld => ?_)
              · exact ⟨block_setCells hK1.out hn1.out, block_setCells hK2.out hn2.out⟩
              clear hK K
              try simp only [Act.put, List.getElem_toArray, List.getElem_cons_succ, List.getElem_cons_zero, List.setIfInBounds_toArray, List.set_cons_zero, List.set_cons_succ]
              have hK1 := Lib.hid (block_setCells (o := 0) (l := [.int .i64 o, .int .i64 q, .int .i64 s, .string st, .string ⟨#[88]⟩, .bool true, .int .i64 uy, .int .i64 um, .int .i64 uk, .int .i64 uw, .int .i64 ud, .int .i64 us, .int .i64 ub]) hK1.out hn1.out)
              have hK2 := Lib.hid (block_setCells (o := 0) (l := [.int .i64 o, .int .i64 q, .int .i64 s, .string st, .string ⟨#[88]⟩, .bool true, .int .i64 uy, .int .i64 um, .int .i64 uk, .int .i64 uw, .int .i64 ud, .int .i64 us, .int .i64 ub]) hK2.out hn2.out)
              have hR := Lib.hid (rul_setCells (o := 0) (l := [.int .i64 o, .int .i64 q, .int .i64 s, .string st, .string ⟨#[88]⟩, .bool true, .int .i64 uy, .int .i64 um, .int .i64 uk, .int .i64 uw, .int .i64 ud, .int .i64 us, .int .i64 ub]) hR.out hloB.out hRg.out)
              have hC := Lib.hid (block_setCells (o := 0) (l := [.int .i64 o, .int .i64 q, .int .i64 s, .string st, .string ⟨#[88]⟩, .bool true, .int .i64 uy, .int .i64 um, .int .i64 uk, .int .i64 uw, .int .i64 ud, .int .i64 us, .int .i64 ub]) hC.out hne.out.symm)
              have hA := Lib.hid (set13c ([.int .i64 o, .int .i64 q, .int .i64 s, .string st, .string ⟨#[88]⟩, .bool true, .int .i64 uy, .int .i64 um, .int .i64 uk, .int .i64 uw, .int .i64 ud, .int .i64 us, .int .i64 ub]) rfl hA.out rfl)
              have hB := Lib.hid (bel_setCells (o := 0) (l := [.int .i64 o, .int .i64 q, .int .i64 s, .string st, .string ⟨#[88]⟩, .bool true, .int .i64 uy, .int .i64 um, .int .i64 uk, .int .i64 uw, .int .i64 ud, .int .i64 us, .int .i64 ub]) hB.out hbl.out)
              clear hn1 hn2
              generalize World.setCells _ _ _ _ = y14 at hA hC hB hK1 hK2 hR hHeld ⊢
              refine wpAnyH_ready (rs := [15]) (by kernel_rfl) (by simp) ?_
              refine (AllReadyH.cons rfl (fun K hK => ?_) AllReadyH.nil)
              · rw [if_pos (by rfl)]
                refine wp_store_mid _ _ _ rfl x1.heap.size 0 #[.int .i64 o, .int .i64 q, .int .i64 s, .string st, .string ⟨#[88]⟩, .bool true, .int .i64 vy, .int .i64 vm, .int .i64 vk, .int .i64 vw, .int .i64 vd, .int .i64 vs, .int .i64 vb] rfl rfl (there13 hC.out rfl) (by kernel_rfl) (by simp [Value.oneCell']) ?_
                have hn1 := Lib.hid (show W.heap.size ≠ x1.heap.size by have := hlt2.out; have := hloC.out; omega)
                have hn2 := Lib.hid (show W.heap.size + 1 ≠ x1.heap.size by have := hlt2.out; have := hloC.out; omega)
                clear hHeld
                refine hK.out _ _ ?_ (fun hHeld => ?_)
                · exact ⟨block_setCells hK1.out hn1.out, block_setCells hK2.out hn2.out⟩
                clear hK K
                try simp only [Act.put, List.getElem_toArray, List.getElem_cons_succ, List.getElem_cons_zero, List.setIfInBounds_toArray, List.set_cons_zero, List.set_cons_succ]
                have hK1 := Lib.hid (block_setCells (o := 0) (l := [.int .i64 o, .int .i64 q, .int .i64 s, .string st, .string ⟨#[88]⟩, .bool true, .int .i64 vy, .int .i64 vm, .int .i64 vk, .int .i64 vw, .int .i64 vd, .int .i64 vs, .int .i64 vb]) hK1.out hn1.out)
                have hK2 := Lib.hid (block_setCells (o := 0) (l := [.int .i64 o, .int .i64 q, .int .i64 s, .string st, .string ⟨#[88]⟩, .bool true, .int .i64 vy, .int .i64 vm, .int .i64 vk, .int .i64 vw, .int .i64 vd, .int .i64 vs, .int .i64 vb]) hK2.out hn2.out)
                have hR := Lib.hid (rul_setCells (o := 0) (l := [.int .i64 o, .int .i64 q, .int .i64 s, .string st, .string ⟨#[88]⟩, .bool true, .int .i64 vy, .int .i64 vm, .int .i64 vk, .int .i64 vw, .int .i64 vd, .int .i64 vs, .int .i64 vb]) hR.out hloC.out hRg.out)
                have hA := Lib.hid (block_setCells (o := 0) (l := [.int .i64 o, .int .i64 q, .int .i64 s, .string st, .string ⟨#[88]⟩, .bool true, .int .i64 vy, .int .i64 vm, .int .i64 vk, .int .i64 vw, .int .i64 vd, .int .i64 vs, .int .i64 vb]) hA.out hne.out)
                have hC := Lib.hid (set13c ([.int .i64 o, .int .i64 q, .int .i64 s, .string st, .string ⟨#[88]⟩, .bool true, .int .i64 vy, .int .i64 vm, .int .i64 vk, .int .i64 vw, .int .i64 vd, .int .i64 vs, .int .i64 vb]) rfl hC.out rfl)
                have hB := Lib.hid (bel_setCells (o := 0) (l := [.int .i64 o, .int .i64 q, .int .i64 s, .string st, .string ⟨#[88]⟩, .bool true, .int .i64 vy, .int .i64 vm, .int .i64 vk, .int .i64 vw, .int .i64 vd, .int .i64 vs, .int .i64 vb]) hB.out hcl.out)
                clear hn1 hn2
                generalize World.setCells _ _ _ _ = y15 at hA hC hB hK1 hK2 hR hHeld ⊢
                refine wpAnyH_done (by kernel_rfl) ?_ _
                clear hHeld hK1 hK2
                go_wp2_with fail
                go_meet
                case rel => exact ⟨x2.heap.size, x1.heap.size, uy, um, uk, uw, ud, us, ub, vy, vm, vk, vw, vd, vs, vb, rfl, rfl, hB, hR, hA, hC, HU, HV⟩
        · go_simp
          clear hHeld
          refine hK.out _ _ ?_ (fun hHeld => ?_)
          · exact ⟨block_below hK1.out (bel_alloc (x1.alloc (.cells #[.int .i64 0, .int .i64 0, .int .i64 0, .string ⟨#[]⟩, .string ⟨#[]⟩, .bool false, .int .i64 0, .int .i64 0, .int .i64 0, .int .i64 0, .int .i64 0, .int .i64 0, .int .i64 0] 45)) (.cells #[.int .i64 0, .int .i64 0, .int .i64 0, .string ⟨#[]⟩, .string ⟨#[]⟩, .bool false, .int .i64 0, .int .i64 0, .int .i64 0, .int .i64 0, .int .i64 0, .int .i64 0, .int .i64 0] 45)), block_below hK2.out (bel_alloc (x1.alloc (.cells #[.int .i64 0, .int .i64 0, .int .i64 0, .string ⟨#[]⟩, .string ⟨#[]⟩, .bool false, .int .i64 0, .int .i64 0, .int .i64 0, .int .i64 0, .int .i64 0, .int .i64 0, .int .i64 0] 45)) (.cells #[.int .i64 0, .int .i64 0, .int .i64 0, .string ⟨#[]⟩, .string ⟨#[]⟩, .bool false, .int .i64 0, .int .i64 0, .int .i64 0, .int .i64 0, .int .i64 0, .int .i64 0, .int .i64 0] 45))⟩
          clear hK K
          try simp only [Act.put, List.getElem_toArray, List.getElem_cons_succ, List.getElem_cons_zero, List.setIfInBounds_toArray, List.set_cons_zero, List.set_cons_succ]
          have hsz : (x1.heap.size + 1) = (x1.alloc (.cells #[.int .i64 0, .int .i64 0, .int .i64 0, .string ⟨#[]⟩, .string ⟨#[]⟩, .bool false, .int .i64 0, .int .i64 0, .int .i64 0, .int .i64 0, .int .i64 0, .int .i64 0, .int .i64 0] 45)).heap.size := by simp [sz_alloc, sz_drew]
          have hA := Lib.hid (show ((x1.alloc (.cells #[.int .i64 0, .int .i64 0, .int .i64 0, .string ⟨#[]⟩, .string ⟨#[]⟩, .bool false, .int .i64 0, .int .i64 0, .int .i64 0, .int .i64 0, .int .i64 0, .int .i64 0, .int .i64 0] 45)).alloc (.cells #[.int .i64 0, .int .i64 0, .int .i64 0, .string ⟨#[]⟩, .string ⟨#[]⟩, .bool false, .int .i64 0, .int .i64 0, .int .i64 0, .int .i64 0, .int .i64 0, .int .i64 0, .int .i64 0] 45)).heap[(x1.heap.size + 1)]? = some (.cells #[.int .i64 0, .int .i64 0, .int .i64 0, .string ⟨#[]⟩, .string ⟨#[]⟩, .bool false, .int .i64 0, .int .i64 0, .int .i64 0, .int .i64 0, .int .i64 0, .int .i64 0, .int .i64 0] 45) by rw [hsz]; exact heap_alloc_new _ _)
          have hbl := Lib.hid (show W.heap.size ≤ (x1.heap.size + 1) by rw [hsz]; exact hB.out.size)
          have hne := Lib.hid (show (x1.heap.size + 1) ≠ x1.heap.size by have := (Array.getElem?_eq_some_iff.1 hC.out).1; omega)
          have hC := Lib.hid (block_below hC.out (bel_alloc (x1.alloc (.cells #[.int .i64 0, .int .i64 0, .int .i64 0, .string ⟨#[]⟩, .string ⟨#[]⟩, .bool false, .int .i64 0, .int .i64 0, .int .i64 0, .int .i64 0, .int .i64 0, .int .i64 0, .int .i64 0] 45)) (.cells #[.int .i64 0, .int .i64 0, .int .i64 0, .string ⟨#[]⟩, .string ⟨#[]⟩, .bool false, .int .i64 0, .int .i64 0, .int .i64 0, .int .i64 0, .int .i64 0, .int .i64 0, .int .i64 0] 45)))
          have hloB := Lib.hid (show w2.heap.size ≤ (x1.heap.size + 1) by rw [hsz]; exact hS.out)
          clear hsz
          have hK1 := Lib.hid (block_below hK1.out (bel_alloc (x1.alloc (.cells #[.int .i64 0, .int .i64 0, .int .i64 0, .string ⟨#[]⟩, .string ⟨#[]⟩, .bool false, .int .i64 0, .int .i64 0, .int .i64 0, .int .i64 0, .int .i64 0, .int .i64 0, .int .i64 0] 45)) (.cells #[.int .i64 0, .int .i64 0, .int .i64 0, .string ⟨#[]⟩, .string ⟨#[]⟩, .bool false, .int .i64 0, .int .i64 0, .int .i64 0, .int .i64 0, .int .i64 0, .int .i64 0, .int .i64 0] 45)))
          have hK2 := Lib.hid (block_below hK2.out (bel_alloc (x1.alloc (.cells #[.int .i64 0, .int .i64 0, .int .i64 0, .string ⟨#[]⟩, .string ⟨#[]⟩, .bool false, .int .i64 0, .int .i64 0, .int .i64 0, .int .i64 0, .int .i64 0, .int .i64 0, .int .i64 0] 45)) (.cells #[.int .i64 0, .int .i64 0, .int .i64 0, .string ⟨#[]⟩, .string ⟨#[]⟩, .bool false, .int .i64 0, .int .i64 0, .int .i64 0, .int .i64 0, .int .i64 0, .int .i64 0, .int .i64 0] 45)))
          have hR := Lib.hid (hR.out.below (bel_alloc (x1.alloc (.cells #[.int .i64 0, .int .i64 0, .int .i64 0, .string ⟨#[]⟩, .string ⟨#[]⟩, .bool false, .int .i64 0, .int .i64 0, .int .i64 0, .int .i64 0, .int .i64 0, .int .i64 0, .int .i64 0] 45)) (.cells #[.int .i64 0, .int .i64 0, .int .i64 0, .string ⟨#[]⟩, .string ⟨#[]⟩, .bool false, .int .i64 0, .int .i64 0, .int .i64 0, .int .i64 0, .int .i64 0, .int .i64 0, .int .i64 0] 45)))
          have hB := Lib.hid (bel_trans hB.out (bel_alloc (x1.alloc (.cells #[.int .i64 0, .int .i64 0, .int .i64 0, .string ⟨#[]⟩, .string ⟨#[]⟩, .bool false, .int .i64 0, .int .i64 0, .int .i64 0, .int .i64 0, .int .i64 0, .int .i64 0, .int .i64 0] 45)) (.cells #[.int .i64 0, .int .i64 0, .int .i64 0, .string ⟨#[]⟩, .string ⟨#[]⟩, .bool false, .int .i64 0, .int .i64 0, .int .i64 0, .int .i64 0, .int .i64 0, .int .i64 0, .int .i64 0] 45)))
          have hS := Lib.hid (show w2.heap.size ≤ ((x1.alloc (.cells #[.int .i64 0, .int .i64 0, .int .i64 0, .string ⟨#[]⟩, .string ⟨#[]⟩, .bool false, .int .i64 0, .int .i64 0, .int .i64 0, .int .i64 0, .int .i64 0, .int .i64 0, .int .i64 0] 45)).alloc (.cells #[.int .i64 0, .int .i64 0, .int .i64 0, .string ⟨#[]⟩, .string ⟨#[]⟩, .bool false, .int .i64 0, .int .i64 0, .int .i64 0, .int .i64 0, .int .i64 0, .int .i64 0, .int .i64 0] 45)).heap.size by rw [sz_alloc]; have := hS.out; omega)
          refine wpAnyH_ready (rs := [11]) (by kernel_rfl) (by simp) ?_
          refine (AllReadyH.cons rfl (fun K hK => ?_) AllReadyH.nil)
          · go_simp
            refine (HE.out fy fm fb fk fw fn fa ls _ HF.out.1 HF.out.2.1 HF.out.2.2.1 HF.out.2.2.2.1 HF.out.2.2.2.2.1 HF.out.2.2.2.2.2.1 HF.out.2.2.2.2.2.2 ml1 ml2).mono ?_
            rintro e x2 ⟨vy, vm, vk, vw, vd, vs, vb, HV, rfl, hb2⟩
            go_wp2_with fail
            clear hHeld
            refine hK.out _ _ ?_ (fun hHeld => ?_)
            · exact ⟨block_below hK1.out hb2, block_below hK2.out hb2⟩
            clear hK K
            try simp only [Act.put, List.getElem_toArray, List.getElem_cons_succ, List.getElem_cons_zero, List.setIfInBounds_toArray, List.set_cons_zero, List.set_cons_succ]
            have hK1 := Lib.hid (block_below hK1.out hb2)
            have hK2 := Lib.hid (block_below hK2.out hb2)
            have hR := Lib.hid (hR.out.below hb2)
            have hA := Lib.hid (block_below hA.out hb2)
            have hC := Lib.hid (block_below hC.out hb2)
            have hB := Lib.hid (bel_trans hB.out hb2)
            have hS := Lib.hid (show w2.heap.size ≤ x2.heap.size from Nat.le_trans hS.out hb2.size)
            clear hb2
            refine wpAnyH_ready (rs := [14]) (by kernel_rfl) (by simp) ?_
            refine (AllReadyH.cons rfl (fun K hK => ?_) AllReadyH.nil)
            · rw [if_pos (by rfl)]
              refine wp_store_mid _ _ _ rfl (x1.heap.size + 1) 0 #[.int .i64 o, .int .i64 q, .int .i64 s, .string st, .string ⟨#[88]⟩, .bool true, .int .i64 uy, .int .i64 um, .int .i64 uk, .int .i64 uw, .int .i64 ud, .int .i64 us, .int .i64 ub] rfl rfl (there13 hA.out rfl) (by kernel_rfl) (by simp [Value.oneCell']) ?_
              have hn1 := Lib.hid (show W.heap.size ≠ (x1.heap.size + 1) by have := hlt2.out; have := hloB.out; omega)
              have hn2 := Lib.hid (show W.heap.size + 1 ≠ (x1.heap.size + 1) by have := hlt2.out; have := hloB.out; omega)
              clear hHeld
              refine hK.out _ _ ?_ (fun hHeld => ?_)
              · exact ⟨block_setCells hK1.out hn1.out, block_setCells hK2.out hn2.out⟩
              clear hK K
              try simp only [Act.put, List.getElem_toArray, List.getElem_cons_succ, List.getElem_cons_zero, List.setIfInBounds_toArray, List.set_cons_zero, List.set_cons_succ]
              have hK1 := Lib.hid (block_setCells (o := 0) (l := [.int .i64 o, .int .i64 q, .int .i64 s, .string st, .string ⟨#[88]⟩, .bool true, .int .i64 uy, .int .i64 um, .int .i64 uk, .int .i64 uw, .int .i64 ud, .int .i64 us, .int .i64 ub]) hK1.out hn1.out)
              have hK2 := Lib.hid (block_setCells (o := 0) (l := [.int .i64 o, .int .i64 q, .int .i64 s, .string st, .string ⟨#[88]⟩, .bool true, .int .i64 uy, .int .i64 um, .int .i64 uk, .int .i64 uw, .int .i64 ud, .int .i64 us, .int .i64 ub]) hK2.out hn2.out)
              have hR := Lib.hid (rul_setCells (o := 0) (l := [.int .i64 o, .int .i64 q, .int .i64 s, .string st, .string ⟨#[88]⟩, .bool true, .int .i64 uy, .int .i64 um, .int .i64 uk, .int .i64 uw, .int .i64 ud, .int .i64 us, .int .i64 ub]) hR.out hloB.out hRg.out)
              have hC := Lib.hid (block_setCells (o := 0) (l := [.int .i64 o, .int .i64 q, .int .i64 s, .string st, .string ⟨#[88]⟩, .bool true, .int .i64 uy, .int .i64 um, .int .i64 uk, .int .i64 uw, .int .i64 ud, .int .i64 us, .int .i64 ub]) hC.out hne.out.symm)
              have hA := Lib.hid (set13c ([.int .i64 o, .int .i64 q, .int .i64 s, .string st, .string ⟨#[88]⟩, .bool true, .int .i64 uy, .int .i64 um, .int .i64 uk, .int .i64 uw, .int .i64 ud, .int .i64 us, .int .i64 ub]) rfl hA.out rfl)
              have hB := Lib.hid (bel_setCells (o := 0) (l := [.int .i64 o, .int .i64 q, .int .i64 s, .string st, .string ⟨#[88]⟩, .bool true, .int .i64 uy, .int .i64 um, .int .i64 uk, .int .i64 uw, .int .i64 ud, .int .i64 us, .int .i64 ub]) hB.out hbl.out)
              clear hn1 hn2
              generalize World.setCells _ _ _ _ = y14 at hA hC hB hK1 hK2 hR hHeld ⊢
              refine wpAnyH_ready (rs := [15]) (by kernel_rfl) (by simp) ?_
              refine (AllReadyH.cons rfl (fun K hK => ?_) AllReadyH.nil)
              · rw [if_pos (by rfl)]
                refine wp_store_mid _ _ _ rfl x1.heap.size 0 #[.int .i64 o, .int .i64 q, .int .i64 s, .string st, .string ⟨#[88]⟩, .bool true, .int .i64 vy, .int .i64 vm, .int .i64 vk, .int .i64 vw, .int .i64 vd, .int .i64 vs, .int .i64 vb] rfl rfl (there13 hC.out rfl) (by kernel_rfl) (by simp [Value.oneCell']) ?_
                have hn1 := Lib.hid (show W.heap.size ≠ x1.heap.size by have := hlt2.out; have := hloC.out; omega)
                have hn2 := Lib.hid (show W.heap.size + 1 ≠ x1.heap.size by have := hlt2.out; have := hloC.out; omega)
                clear hHeld
                refine hK.out _ _ ?_ (fun hHeld => ?_)
                · exact ⟨block_setCells hK1.out hn1.out, block_setCells hK2.out hn2.out⟩
                clear hK K
                try simp only [Act.put, List.getElem_toArray, List.getElem_cons_succ, List.getElem_cons_zero, List.setIfInBounds_toArray, List.set_cons_zero, List.set_cons_succ]
                have hK1 := Lib.hid (block_setCells (o := 0) (l := [.int .i64 o, .int .i64 q, .int .i64 s, .string st, .string ⟨#[88]⟩, .bool true, .int .i64 vy, .int .i64 vm, .int .i64 vk, .int .i64 vw, .int .i64 vd, .int .i64 vs, .int .i64 vb]) hK1.out hn1.out)
                have hK2 := Lib.hid (block_setCells (o := 0) (l := [.int .i64 o, .int .i64 q, .int .i64 s, .string st, .string ⟨#[88]⟩, .bool true, .int .i64 vy, .int .i64 vm, .int .i64 vk, .int .i64 vw, .int .i64 vd, .int .i64 vs, .int .i64 vb]) hK2.out hn2.out)
                have hR := Lib.hid (rul_setCells (o := 0) (l := [.int .i64 o, .int .i64 q, .int .i64 s, .string st, .string ⟨#[88]⟩, .bool true, .int .i64 vy, .int .i64 vm, .int .i64 vk, .int .i64 vw, .int .i64 vd, .int .i64 vs, .int .i64 vb]) hR.out hloC.out hRg.out)
                have hA := Lib.hid (block_setCells (o := 0) (l := [.int .i64 o, .int .i64 q, .int .i64 s, .string st, .string ⟨#[88]⟩, .bool true, .int .i64 vy, .int .i64 vm, .int .i64 vk, .int .i64 vw, .int .i64 vd, .int .i64 vs, .int .i64 vb]) hA.out hne.out)
                have hC := Lib.hid (set13c ([.int .i64 o, .int .i64 q, .int .i64 s, .string st, .string ⟨#[88]⟩, .bool true, .int .i64 vy, .int .i64 vm, .int .i64 vk, .int .i64 vw, .int .i64 vd, .int .i64 vs, .int .i64 vb]) rfl hC.out rfl)
                have hB := Lib.hid (bel_setCells (o := 0) (l := [.int .i64 o, .int .i64 q, .int .i64 s, .string st, .string ⟨#[88]⟩, .bool true, .int .i64 vy, .int .i64 vm, .int .i64 vk, .int .i64 vw, .int .i64 vd, .int .i64 vs, .int .i64 vb]) hB.out hcl.out)
                clear hn1 hn2
                generalize World.setCells _ _ _ _ = y15 at hA hC hB hK1 hK2 hR hHeld ⊢
                refine wpAnyH_done (by kernel_rfl) ?_ _
                clear hHeld hK1 hK2
                go_wp2_with fail
                go_meet
                case rel => exact ⟨(x1.heap.size + 1), x1.heap.size, uy, um, uk, uw, ud, us, ub, vy, vm, vk, vw, vd, vs, vb, rfl, rfl, hB, hR, hA, hC, HU, HV⟩
    · go_simp
      clear hHeld
      refine hK.out _ _ ?_ (fun hHeld => ?_)
      · exact ⟨block_below hK1.out (bel_alloc w2.drew (.cells #[.int .i64 0, .int .i64 0, .int .i64 0, .string ⟨#[]⟩, .string ⟨#[]⟩, .bool false, .int .i64 0, .int .i64 0, .int .i64 0, .int .i64 0, .int .i64 0, .int .i64 0, .int .i64 0] 45)), block_below hK2.out (bel_alloc w2.drew (.cells #[.int .i64 0, .int .i64 0, .int .i64 0, .string ⟨#[]⟩, .string ⟨#[]⟩, .bool false, .int .i64 0, .int .i64 0, .int .i64 0, .int .i64 0, .int .i64 0, .int .i64 0, .int .i64 0] 45))⟩
      clear hK K
      try simp only [Act.put, List.getElem_toArray, List.getElem_cons_succ, List.getElem_cons_zero, List.setIfInBounds_toArray, List.set_cons_zero, List.set_cons_succ]
      have hsz : w2.heap.size = w2.drew.heap.size := by simp [sz_alloc, sz_drew]
      have hA := Lib.hid (show (w2.drew.alloc (.cells #[.int .i64 0, .int .i64 0, .int .i64 0, .string ⟨#[]⟩, .string ⟨#[]⟩, .bool false, .int .i64 0, .int .i64 0, .int .i64 0, .int .i64 0, .int .i64 0, .int .i64 0, .int .i64 0] 45)).heap[w2.heap.size]? = some (.cells #[.int .i64 0, .int .i64 0, .int .i64 0, .string ⟨#[]⟩, .string ⟨#[]⟩, .bool false, .int .i64 0, .int .i64 0, .int .i64 0, .int .i64 0, .int .i64 0, .int .i64 0, .int .i64 0] 45) by rw [hsz]; exact heap_alloc_new _ _)
      have hbl := Lib.hid (show W.heap.size ≤ w2.heap.size by rw [hsz]; exact hB.out.size)
      have hloB := Lib.hid (show w2.heap.size ≤ w2.heap.size by rw [hsz]; exact hS.out)
      clear hsz
      have hK1 := Lib.hid (block_below hK1.out (bel_alloc w2.drew (.cells #[.int .i64 0, .int .i64 0, .int .i64 0, .string ⟨#[]⟩, .string ⟨#[]⟩, .bool false, .int .i64 0, .int .i64 0, .int .i64 0, .int .i64 0, .int .i64 0, .int .i64 0, .int .i64 0] 45)))
      have hK2 := Lib.hid (block_below hK2.out (bel_alloc w2.drew (.cells #[.int .i64 0, .int .i64 0, .int .i64 0, .string ⟨#[]⟩, .string ⟨#[]⟩, .bool false, .int .i64 0, .int .i64 0, .int .i64 0, .int .i64 0, .int .i64 0, .int .i64 0, .int .i64 0] 45)))
      have hR := Lib.hid (hR.out.below (bel_alloc w2.drew (.cells #[.int .i64 0, .int .i64 0, .int .i64 0, .string ⟨#[]⟩, .string ⟨#[]⟩, .bool false, .int .i64 0, .int .i64 0, .int .i64 0, .int .i64 0, .int .i64 0, .int .i64 0, .int .i64 0] 45)))
      have hB := Lib.hid (bel_trans hB.out (bel_alloc w2.drew (.cells #[.int .i64 0, .int .i64 0, .int .i64 0, .string ⟨#[]⟩, .string ⟨#[]⟩, .bool false, .int .i64 0, .int .i64 0, .int .i64 0, .int .i64 0, .int .i64 0, .int .i64 0, .int .i64 0] 45)))
      have hS := Lib.hid (show w2.heap.size ≤ (w2.drew.alloc (.cells #[.int .i64 0, .int .i64 0, .int .i64 0, .string ⟨#[]⟩, .string ⟨#[]⟩, .bool false, .int .i64 0, .int .i64 0, .int .i64 0, .int .i64 0, .int .i64 0, .int .i64 0, .int .i64 0] 45)).heap.size by rw [sz_alloc]; have := hS.out; omega)
      refine wpAnyH_ready (rs := [5, 13]) (by kernel_rfl) (by simp) ?_
      refine (AllReadyH.cons rfl (fun K hK => ?_) (AllReadyH.cons rfl (fun K hK => ?_) AllReadyH.nil))
      · go_simp
        refine (HE.out dy dm db dk dw dn da ls _ HD.out.1 HD.out.2.1 HD.out.2.2.1 HD.out.2.2.2.1 HD.out.2.2.2.2.1 HD.out.2.2.2.2.2.1 HD.out.2.2.2.2.2.2 ml1 ml2).mono ?_
        rintro e x1 ⟨uy, um, uk, uw, ud, us, ub, HU, rfl, hb1⟩
        go_wp2_with fail
        clear hHeld
        refine hK.out _ _ ?_ (fun hHeld => ?_)
        · exact ⟨block_below hK1.out hb1, block_below hK2.out hb1⟩
        clear hK K
        try simp only [Act.put, List.getElem_toArray, List.getElem_cons_succ, List.getElem_cons_zero, List.setIfInBounds_toArray, List.set_cons_zero, List.set_cons_succ]
        have hK1 := Lib.hid (block_below hK1.out hb1)
        have hK2 := Lib.hid (block_below hK2.out hb1)
        have hR := Lib.hid (hR.out.below hb1)
        have hA := Lib.hid (block_below hA.out hb1)
        have hB := Lib.hid (bel_trans hB.out hb1)
        have hS := Lib.hid (show w2.heap.size ≤ x1.heap.size from Nat.le_trans hS.out hb1.size)
        clear hb1
        refine wpAnyH_ready (rs := [11, 13]) (by kernel_rfl) (by simp) ?_
        refine (AllReadyH.cons rfl (fun K hK => ?_) (AllReadyH.cons rfl (fun K hK => ?_) AllReadyH.nil))
        · go_simp
          refine (HE.out fy fm fb fk fw fn fa ls _ HF.out.1 HF.out.2.1 HF.out.2.2.1 HF.out.2.2.2.1 HF.out.2.2.2.2.1 HF.out.2.2.2.2.2.1 HF.out.2.2.2.2.2.2 ml1 ml2).mono ?_
          rintro e x2 ⟨vy, vm, vk, vw, vd, vs, vb, HV, rfl, hb2⟩
          go_wp2_with fail
          clear hHeld
          refine hK.out _ _ ?_ (fun hHeld => ?_)
          · exact ⟨block_below hK1.out hb2, block_below hK2.out hb2⟩
          clear hK K
          try simp only [Act.put, List.getElem_toArray, List.getElem_cons_succ, List.getElem_cons_zero, List.setIfInBounds_toArray, List.set_cons_zero, List.set_cons_succ]
          have hK1 := Lib.hid (block_below hK1.out hb2)
          have hK2 := Lib.hid (block_below hK2.out hb2)
          have hR := Lib.hid (hR.out.below hb2)
          have hA := Lib.hid (block_below hA.out hb2)
          have hB := Lib.hid (bel_trans hB.out hb2)
          have hS := Lib.hid (show w2.heap.size ≤ x2.heap.size from Nat.le_trans hS.out hb2.size)
          clear hb2
          refine wpAnyH_ready (rs := [13]) (by kernel_rfl) (by simp) ?_
          refine (AllReadyH.cons rfl (fun K hK => ?_) AllReadyH.nil)
          · go_simp
            clear hHeld
            refine hK.out _ _ ?_ (fun hHeld => ?_)
            · exact ⟨block_below hK1.out (bel_alloc x2 (.cells #[.int .i64 0, .int .i64 0, .int .i64 0, .string ⟨#[]⟩, .string ⟨#[]⟩, .bool false, .int .i64 0, .int .i64 0, .int .i64 0, .int .i64 0, .int .i64 0, .int .i64 0, .int .i64 0] 45)), block_below hK2.out (bel_alloc x2 (.cells #[.int .i64 0, .int .i64 0, .int .i64 0, .string ⟨#[]⟩, .string ⟨#[]⟩, .bool false, .int .i64 0, .int .i64 0, .int .i64 0, .int .i64 0, .int .i64 0, .int .i64 0, .int .i64 0] 45))⟩
            clear hK K
            try simp only [Act.put, List.getElem_toArray, List.getElem_cons_succ, List.getElem_cons_zero, List.setIfInBounds_toArray, List.set_cons_zero, List.set_cons_succ]
            have hsz : x2.heap.size = x2.heap.size := by simp [sz_alloc, sz_drew]
            have hC := Lib.hid (show (x2.alloc (.cells #[.int .i64 0, .int .i64 0, .int .i64 0, .string ⟨#[]⟩, .string ⟨#[]⟩, .bool false, .int .i64 0, .int .i64 0, .int .i64 0, .int .i64 0, .int .i64 0, .int .i64 0, .int .i64 0] 45)).heap[x2.heap.size]? = some (.cells #[.int .i64 0, .int .i64 0, .int .i64 0, .string ⟨#[]⟩, .string ⟨#[]⟩, .bool false, .int .i64 0, .int .i64 0, .int .i64 0, .int .i64 0, .int .i64 0, .int .i64 0, .int .i64 0] 45) by rw [hsz]; exact heap_alloc_new _ _)
            have hcl := Lib.hid (show W.heap.size ≤ x2.heap.size by rw [hsz]; exact hB.out.size)
            have hne := Lib.hid (show w2.heap.size ≠ x2.heap.size by have := (Array.getElem?_eq_some_iff.1 hA.out).1; omega)
            have hA := Lib.hid (block_below hA.out (bel_alloc x2 (.cells #[.int .i64 0, .int .i64 0, .int .i64 0, .string ⟨#[]⟩, .string ⟨#[]⟩, .bool false, .int .i64 0, .int .i64 0, .int .i64 0, .int .i64 0, .int .i64 0, .int .i64 0, .int .i64 0] 45)))
            have hloC := Lib.hid (show w2.heap.size ≤ x2.heap.size by rw [hsz]; exact hS.out)
            clear hsz
            have hK1 := Lib.hid (block_below hK1.out (bel_alloc x2 (.cells #[.int .i64 0, .int .i64 0, .int .i64 0, .string ⟨#[]⟩, .string ⟨#[]⟩, .bool false, .int .i64 0, .int .i64 0, .int .i64 0, .int .i64 0, .int .i64 0, .int .i64 0, .int .i64 0] 45)))
            have hK2 := Lib.hid (block_below hK2.out (bel_alloc x2 (.cells #[.int .i64 0, .int .i64 0, .int .i64 0, .string ⟨#[]⟩, .string ⟨#[]⟩, .bool false, .int .i64 0, .int .i64 0, .int .i64 0, .int .i64 0, .int .i64 0, .int .i64 0, .int .i64 0] 45)))
            have hR := Lib.hid (hR.out.below (bel_alloc x2 (.cells #[.int .i64 0, .int .i64 0, .int .i64 0, .string ⟨#[]⟩, .string ⟨#[]⟩, .bool false, .int .i64 0, .int .i64 0, .int .i64 0, .int .i64 0, .int .i64 0, .int .i64 0, .int .i64 0] 45)))
            have hB := Lib.hid (bel_trans hB.out (bel_alloc x2 (.cells #[.int .i64 0, .int .i64 0, .int .i64 0, .string ⟨#[]⟩, .string ⟨#[]⟩, .bool false, .int .i64 0, .int .i64 0, .int .i64 0, .int .i64 0, .int .i64 0, .int .i64 0, .int .i64 0] 45)))
            have hS := Lib.hid (show w2.heap.size ≤ (x2.alloc (.cells #[.int .i64 0, .int .i64 0, .int .i64 0, .string ⟨#[]⟩, .string ⟨#[]⟩, .bool false, .int .i64 0, .int .i64 0, .int .i64 0, .int .i64 0, .int .i64 0, .int .i64 0, .int .i64 0] 45)).heap.size by rw [sz_alloc]; have := hS.out; omega)
            refine wpAnyH_ready (rs := [14]) (by kernel_rfl) (by simp) ?_
            refine (AllReadyH.cons rfl (fun K hK => ?_) AllReadyH.nil)
            · rw [if_pos (by rfl)]
              refine wp_store_mid _ _ _ rfl w2.heap.size 0 #[.int .i64 o, .int .i64 q, .int .i64 s, .string st, .string ⟨#[88]⟩, .bool true, .int .i64 uy, .int .i64 um, .int .i64 uk, .int .i64 uw, .int .i64 ud, .int .i64 us, .int .i64 ub] rfl rfl (there13 hA.out rfl) (by kernel_rfl) (by simp [Value.oneCell']) ?_
              have hn1 := Lib.hid (show W.heap.size ≠ w2.heap.size by have := hlt2.out; have := hloB.out; omega)
              have hn2 := Lib.hid (show W.heap.size + 1 ≠ w2.heap.size by have := hlt2.out; have := hloB.out; omega)
              clear hHeld
              refine hK.out _ _ ?_ (fun hHeld => ?_)
              · exact ⟨block_setCells hK1.out hn1.out, block_setCells hK2.out hn2.out⟩
              clear hK K
              try simp only [Act.put, List.getElem_toArray, List.getElem_cons_succ, List.getElem_cons_zero, List.setIfInBounds_toArray, List.set_cons_zero, List.set_cons_succ]
              have hK1 := Lib.hid (block_setCells (o := 0) (l := [.int .i64 o, .int .i64 q, .int .i64 s, .string st, .string ⟨#[88]⟩, .bool true, .int .i64 uy, .int .i64 um, .int .i64 uk, .int .i64 uw, .int .i64 ud, .int .i64 us, .int .i64 ub]) hK1.out hn1.out)
              have hK2 := Lib.hid (block_setCells (o := 0) (l := [.int .i64 o, .int .i64 q, .int .i64 s, .string st, .string ⟨#[88]⟩, .bool true, .int .i64 uy, .int .i64 um, .int .i64 uk, .int .i64 uw, .int .i64 ud, .int .i64 us, .int .i64 ub]) hK2.out hn2.out)
              have hR := Lib.hid (rul_setCells (o := 0) (l := [.int .i64 o, .int .i64 q, .int .i64 s, .string st, .string ⟨#[88]⟩, .bool true, .int .i64 uy, .int .i64 um, .int .i64 uk, .int .i64 uw, .int .i64 ud, .int .i64 us, .int .i64 ub]) hR.out hloB.out hRg.out)
              have hC := Lib.hid (block_setCells (o := 0) (l := [.int .i64 o, .int .i64 q, .int .i64 s, .string st, .string ⟨#[88]⟩, .bool true, .int .i64 uy, .int .i64 um, .int .i64 uk, .int .i64 uw, .int .i64 ud, .int .i64 us, .int .i64 ub]) hC.out hne.out.symm)
              have hA := Lib.hid (set13c ([.int .i64 o, .int .i64 q, .int .i64 s, .string st, .string ⟨#[88]⟩, .bool true, .int .i64 uy, .int .i64 um, .int .i64 uk, .int .i64 uw, .int .i64 ud, .int .i64 us, .int .i64 ub]) rfl hA.out rfl)
              have hB := Lib.hid (bel_setCells (o := 0) (l := [.int .i64 o, .int .i64 q, .int .i64 s, .string st, .string ⟨#[88]⟩, .bool true, .int .i64 uy, .int .i64 um, .int .i64 uk, .int .i64 uw, .int .i64 ud, .int .i64 us, .int .i64 ub]) hB.out hbl.out)
              clear hn1 hn2
              generalize World.setCells _ _ _ _ = y14 at hA hC hB hK1 hK2 hR hHeld ⊢
              refine wpAnyH_ready (rs := [15]) (by kernel_rfl) (by simp) ?_
              refine (AllReadyH.cons rfl (fun K hK => ?_) AllReadyH.nil)
              · rw [if_pos (by rfl)]
                refine wp_store_mid _ _ _ rfl x2.heap.size 0 #[.int .i64 o, .int .i64 q, .int .i64 s, .string st, .string ⟨#[88]⟩, .bool true, .int .i64 vy, .int .i64 vm, .int .i64 vk, .int .i64 vw, .int .i64 vd, .int .i64 vs, .int .i64 vb] rfl rfl (there13 hC.out rfl) (by kernel_rfl) (by simp [Value.oneCell']) ?_
                have hn1 := Lib.hid (show W.heap.size ≠ x2.heap.size by have := hlt2.out; have := hloC.out; omega)
                have hn2 := Lib.hid (show W.heap.size + 1 ≠ x2.heap.size by have := hlt2.out; have := hloC.out; omega)
                clear hHeld
                refine hK.out _ _ ?_ (fun hHeld => ?_)
                · exact ⟨block_setCells hK1.out hn1.out, block_setCells hK2.out hn2.out⟩
                clear hK K
                try simp only [Act.put, List.getElem_toArray, List.getElem_cons_succ, List.getElem_cons_zero, List.setIfInBounds_toArray, List.set_cons_zero, List.set_cons_succ]
                have hK1 := Lib.hid (block_setCells (o := 0) (l := [.int .i64 o, .int .i64 q, .int .i64 s, .string st, .string ⟨#[88]⟩, .bool true, .int .i64 vy, .int .i64 vm, .int .i64 vk, .int .i64 vw, .int .i64 vd, .int .i64 vs, .int .i64 vb]) hK1.out hn1.out)
                have hK2 := Lib.hid (block_setCells (o := 0) (l := [.int .i64 o, .int .i64 q, .int .i64 s, .string st, .string ⟨#[88]⟩, .bool true, .int .i64 vy, .int .i64 vm, .int .i64 vk, .int .i64 vw, .int .i64 vd, .int .i64 vs, .int .i64 vb]) hK2.out hn2.out)
                have hR := Lib.hid (rul_setCells (o := 0) (l := [.int .i64 o, .int .i64 q, .int .i64 s, .string st, .string ⟨#[88]⟩, .bool true, .int .i64 vy, .int .i64 vm, .int .i64 vk, .int .i64 vw, .int .i64 vd, .int .i64 vs, .int .i64 vb]) hR.out hloC.out hRg.out)
                have hA := Lib.hid (block_setCells (o := 0) (l := [.int .i64 o, .int .i64 q, .int .i64 s, .string st, .string ⟨#[88]⟩, .bool true, .int .i64 vy, .int .i64 vm, .int .i64 vk, .int .i64 vw, .int .i64 vd, .int .i64 vs, .int .i64 vb]) hA.out hne.out)
                have hC := Lib.hid (set13c ([.int .i64 o, .int .i64 q, .int .i64 s, .string st, .string ⟨#[88]⟩, .bool true, .int .i64 vy, .int .i64 vm, .int .i64 vk, .int .i64 vw, .int .i64 vd, .int .i64 vs, .int .i64 vb]) rfl hC.out rfl)
                have hB := Lib.hid (bel_setCells (o := 0) (l := [.int .i64 o, .int .i64 q, .int .i64 s, .string st, .string ⟨#[88]⟩, .bool true, .int .i64 vy, .int .i64 vm, .int .i64 vk, .int .i64 vw, .int .i64 vd, .int .i64 vs, .int .i64 vb]) hB.out hcl.out)
                clear hn1 hn2
                generalize World.setCells _ _ _ _ = y15 at hA hC hB hK1 hK2 hR hHeld ⊢
                refine wpAnyH_done (by kernel_rfl) ?_ _
                clear hHeld hK1 hK2
                go_wp2_with fail
                go_meet
                case rel => exact ⟨w2.heap.size, x2.heap.size, uy, um, uk, uw, ud, us, ub, vy, vm, vk, vw, vd, vs, vb, rfl, rfl, hB, hR, hA, hC, HU, HV⟩
        · go_simp
          clear hHeld
          refine hK.out _ _ ?_ (fun hHeld => ?_)
          · exact ⟨block_below hK1.out (bel_alloc x1 (.cells #[.int .i64 0, .int .i64 0, .int .i64 0, .string ⟨#[]⟩, .string ⟨#[]⟩, .bool false, .int .i64 0, .int .i64 0, .int .i64 0, .int .i64 0, .int .i64 0, .int .i64 0, .int .i64 0] 45)), block_below hK2.out (bel_alloc x1 (.cells #[.int .i64 0, .int .i64 0, .int .i64 0, .string ⟨#[]⟩, .string ⟨#[]⟩, .bool false, .int .i64 0, .int .i64 0, .int .i64 0, .int .i64 0, .int .i64 0, .int .i64 0, .int .i64 0] 45))⟩
          clear hK K
          try simp only [Act.put, List.getElem_toArray, List.getElem_cons_succ, List.getElem_cons_zero, List.setIfInBounds_toArray, List.set_cons_zero, List.set_cons_succ]
          have hsz : x1.heap.size = x1.heap.size := by simp [sz_alloc, sz_drew]
          have hC := Lib.hid (show (x1.alloc (.cells #[.int .i64 0, .int .i64 0, .int .i64 0, .string ⟨#[]⟩, .string ⟨#[]⟩, .bool false, .int .i64 0, .int .i64 0, .int .i64 0, .int .i64 0, .int .i64 0, .int .i64 0, .int .i64 0] 45)).heap[x1.heap.size]? = some (.cells #[.int .i64 0, .int .i64 0, .int .i64 0, .string ⟨#[]⟩, .string ⟨#[]⟩, .bool false, .int .i64 0, .int .i64 0, .int .i64 0, .int .i64 0, .int .i64 0, .int .i64 0, .int .i64 0] 45) by rw [hsz]; exact heap_alloc_new _ _)
          have hcl := Lib.hid (show W.heap.size ≤ x1.heap.size by rw [hsz]; exact hB.out.size)
          have hne := Lib.hid (show w2.heap.size ≠ x1.heap.size by have := (Array.getElem?_eq_some_iff.1 hA.out).1; omega)
          have hA := Lib.hid (block_below hA.out (bel_alloc x1 (.cells #[.int .i64 0, .int .i64 0, .int .i64 0, .string ⟨#[]⟩, .string ⟨#[]⟩, .bool false, .int .i64 0, .int .i64 0, .int .i64 0, .int .i64 0, .int .i64 0, .int .i64 0, .int .i64 0] 45)))
          have hloC := Lib.hid (show w2.heap.size ≤ x1.heap.size by rw [hsz]; exact hS.out)
          clear hsz
          have hK1 := Lib.hid (block_below hK1.out (bel_alloc x1 (.cells #[.int .i64 0, .int .i64 0, .int .i64 0, .string ⟨#[]⟩, .string ⟨#[]⟩, .bool false, .int .i64 0, .int .i64 0, .int .i64 0, .int .i64 0, .int .i64 0, .int .i64 0, .int .i64 0] 45)))
          have hK2 := Lib.hid (block_below hK2.out (bel_alloc x1 (.cells #[.int .i64 0, .int .i64 0, .int .i64 0, .string ⟨#[]⟩, .string ⟨#[]⟩, .bool false, .int .i64 0, .int .i64 0, .int .i64 0, .int .i64 0, .int .i64 0, .int .i64 0, .int .i64 0] 45)))
          have hR := Lib.hid (hR.out.below (bel_alloc x1 (.cells #[.int .i64 0, .int .i64 0, .int .i64 0, .string ⟨#[]⟩, .string ⟨#[]⟩, .bool false, .int .i64 0, .int .i64 0, .int .i64 0, .int .i64 0, .int .i64 0, .int .i64 0, .int .i64 0] 45)))
          have hB := Lib.hid (bel_trans hB.out (bel_alloc x1 (.cells #[.int .i64 0, .int .i64 0, .int .i64 0, .string ⟨#[]⟩, .string ⟨#[]⟩, .bool false, .int .i64 0, .int .i64 0, .int .i64 0, .int .i64 0, .int .i64 0, .int .i64 0, .int .i64 0] 45)))
          have hS := Lib.hid (show w2.heap.size ≤ (x1.alloc (.cells #[.int .i64 0, .int .i64 0, .int .i64 0, .string ⟨#[]⟩, .string ⟨#[]⟩, .bool false, .int .i64 0, .int .i64 0, .int .i64 0, .int .i64 0, .int .i64 0, .int .i64 0, .int .i64 0] 45)).heap.size by rw [sz_alloc]; have := hS.out; omega)
          refine wpAnyH_ready (rs := [11]) (by kernel_rfl) (by simp) ?_
          refine (AllReadyH.cons rfl (fun K hK => ?_) AllReadyH.nil)
          · go_simp
            refine (HE.out fy fm fb fk fw fn fa ls _ HF.out.1 HF.out.2.1 HF.out.2.2.1 HF.out.2.2.2.1 HF.out.2.2.2.2.1 HF.out.2.2.2.2.2.1 HF.out.2.2.2.2.2.2 ml1 ml2).mono ?_
            rintro e x2 ⟨vy, vm, vk, vw, vd, vs, vb, HV, rfl, hb2⟩
            go_wp2_with fail
            clear hHeld
            refine hK.out _ _ ?_ (fun hHeld => ?_)
            · exact ⟨block_below hK1.out hb2, block_below hK2.out hb2⟩
            clear hK K
            try simp only [Act.put, List.getElem_toArray, List.getElem_cons_succ, List.getElem_cons_zero, List.setIfInBounds_toArray, List.set_cons_zero, List.set_cons_succ]
            have hK1 := Lib.hid (block_below hK1.out hb2)
            have hK2 := Lib.hid (block_below hK2.out hb2)
            have hR := Lib.hid (hR.out.below hb2)
            have hA := Lib.hid (block_below hA.out hb2)
            have hC := Lib.hid (block_below hC.out hb2)
            have hB := Lib.hid (bel_trans hB.out hb2)
            have hS := Lib.hid (show w2.heap.size ≤ x2.heap.size from Nat.le_trans hS.out hb2.size)
            clear hb2
            refine wpAnyH_ready (rs := [14]) (by kernel_rfl) (by simp) ?_
            refine (AllReadyH.cons rfl (fun K hK => ?_) AllReadyH.nil)
            · rw [if_pos (by rfl)]
              refine wp_store_mid _ _ _ rfl w2.heap.size 0 #[.int .i64 o, .int .i64 q, .int .i64 s, .string st, .string ⟨#[88]⟩, .bool true, .int .i64 uy, .int .i64 um, .int .i64 uk, .int .i64 uw, .int .i64 ud, .int .i64 us, .int .i64 ub] rfl rfl (there13 hA.out rfl) (by kernel_rfl) (by simp [Value.oneCell']) ?_
              have hn1 := Lib.hid (show W.heap.size ≠ w2.heap.size by have := hlt2.out; have := hloB.out; omega)
              have hn2 := Lib.hid (show W.heap.size + 1 ≠ w2.heap.size by have := hlt2.out; have := hloB.out; omega)
              clear hHeld
              refine hK.out _ _ ?_ (fun hHeld => ?_)
              · exact ⟨block_setCells hK1.out hn1.out, block_setCells hK2.out hn2.out⟩
              clear hK K
              try simp only [Act.put, List.getElem_toArray, List.getElem_cons_succ, List.getElem_cons_zero, List.setIfInBounds_toArray, List.set_cons_zero, List.set_cons_succ]
              have hK1 := Lib.hid (block_setCells (o := 0) (l := [.int .i64 o, .int .i64 q, .int .i64 s, .string st, .string ⟨#[88]⟩, .bool true, .int .i64 uy, .int .i64 um, .int .i64 uk, .int .i64 uw, .int .i64 ud, .int .i64 us, .int .i64 ub]) hK1.out hn1.out)
              have hK2 := Lib.hid (block_setCells (o := 0) (l := [.int .i64 o, .int .i64 q, .int .i64 s, .string st, .string ⟨#[88]⟩, .bool true, .int .i64 uy, .int .i64 um, .int .i64 uk, .int .i64 uw, .int .i64 ud, .int .i64 us, .int .i64 ub]) hK2.out hn2.out)
              have hR := Lib.hid (rul_setCells (o := 0) (l := [.int .i64 o, .int .i64 q, .int .i64 s, .string st, .string ⟨#[88]⟩, .bool true, .int .i64 uy, .int .i64 um, .int .i64 uk, .int .i64 uw, .int .i64 ud, .int .i64 us, .int .i64 ub]) hR.out hloB.out hRg.out)
              have hC := Lib.hid (block_setCells (o := 0) (l := [.int .i64 o, .int .i64 q, .int .i64 s, .string st, .string ⟨#[88]⟩, .bool true, .int .i64 uy, .int .i64 um, .int .i64 uk, .int .i64 uw, .int .i64 ud, .int .i64 us, .int .i64 ub]) hC.out hne.out.symm)
              have hA := Lib.hid (set13c ([.int .i64 o, .int .i64 q, .int .i64 s, .string st, .string ⟨#[88]⟩, .bool true, .int .i64 uy, .int .i64 um, .int .i64 uk, .int .i64 uw, .int .i64 ud, .int .i64 us, .int .i64 ub]) rfl hA.out rfl)
              have hB := Lib.hid (bel_setCells (o := 0) (l := [.int .i64 o, .int .i64 q, .int .i64 s, .string st, .string ⟨#[88]⟩, .bool true, .int .i64 uy, .int .i64 um, .int .i64 uk, .int .i64 uw, .int .i64 ud, .int .i64 us, .int .i64 ub]) hB.out hbl.out)
              clear hn1 hn2
              generalize World.setCells _ _ _ _ = y14 at hA hC hB hK1 hK2 hR hHeld ⊢
              refine wpAnyH_ready (rs := [15]) (by kernel_rfl) (by simp) ?_
              refine (AllReadyH.cons rfl (fun K hK => ?_) AllReadyH.nil)
              · rw [if_pos (by rfl)]
                refine wp_store_mid _ _ _ rfl x1.heap.size 0 #[.int .i64 o, .int .i64 q, .int .i64 s, .string st, .string ⟨#[88]⟩, .bool true, .int .i64 vy, .int .i64 vm, .int .i64 vk, .int .i64 vw, .int .i64 vd, .int .i64 vs, .int .i64 vb] rfl rfl (there13 hC.out rfl) (by kernel_rfl) (by simp [Value.oneCell']) ?_
                have hn1 := Lib.hid (show W.heap.size ≠ x1.heap.size by have := hlt2.out; have := hloC.out; omega)
                have hn2 := Lib.hid (show W.heap.size + 1 ≠ x1.heap.size by have := hlt2.out; have := hloC.out; omega)
                clear hHeld
                refine hK.out _ _ ?_ (fun hHeld => ?_)
                · exact ⟨block_setCells hK1.out hn1.out, block_setCells hK2.out hn2.out⟩
                clear hK K
                try simp only [Act.put, List.getElem_toArray, List.getElem_cons_succ, List.getElem_cons_zero, List.setIfInBounds_toArray, List.set_cons_zero, List.set_cons_succ]
                have hK1 := Lib.hid (block_setCells (o := 0) (l := [.int .i64 o, .int .i64 q, .int .i64 s, .string st, .string ⟨#[88]⟩, .bool true, .int .i64 vy, .int .i64 vm, .int .i64 vk, .int .i64 vw, .int .i64 vd, .int .i64 vs, .int .i64 vb]) hK1.out hn1.out)
                have hK2 := Lib.hid (block_setCells (o := 0) (l := [.int .i64 o, .int .i64 q, .int .i64 s, .string st, .string ⟨#[88]⟩, .bool true, .int .i64 vy, .int .i64 vm, .int .i64 vk, .int .i64 vw, .int .i64 vd, .int .i64 vs, .int .i64 vb]) hK2.out hn2.out)
                have hR := Lib.hid (rul_setCells (o := 0) (l := [.int .i64 o, .int .i64 q, .int .i64 s, .string st, .string ⟨#[88]⟩, .bool true, .int .i64 vy, .int .i64 vm, .int .i64 vk, .int .i64 vw, .int .i64 vd, .int .i64 vs, .int .i64 vb]) hR.out hloC.out hRg.out)
                have hA := Lib.hid (block_setCells (o := 0) (l := [.int .i64 o, .int .i64 q, .int .i64 s, .string st, .string ⟨#[88]⟩, .bool true, .int .i64 vy, .int .i64 vm, .int .i64 vk, .int .i64 vw, .int .i64 vd, .int .i64 vs, .int .i64 vb]) hA.out hne.out)
                have hC := Lib.hid (set13c ([.int .i64 o, .int .i64 q, .int .i64 s, .string st, .string ⟨#[88]⟩, .bool true, .int .i64 vy, .int .i64 vm, .int .i64 vk, .int .i64 vw, .int .i64 vd, .int .i64 vs, .int .i64 vb]) rfl hC.out rfl)
                have hB := Lib.hid (bel_setCells (o := 0) (l := [.int .i64 o, .int .i64 q, .int .i64 s, .string st, .string ⟨#[88]⟩, .bool true, .int .i64 vy, .int .i64 vm, .int .i64 vk, .int .i64 vw, .int .i64 vd, .int .i64 vs, .int .i64 vb]) hB.out hcl.out)
                clear hn1 hn2
                generalize World.setCells _ _ _ _ = y15 at hA hC hB hK1 hK2 hR hHeld ⊢
                refine wpAnyH_done (by kernel_rfl) ?_ _
                clear hHeld hK1 hK2
                go_wp2_with fail
                go_meet
                case rel => exact ⟨w2.heap.size, x1.heap.size, uy, um, uk, uw, ud, us, ub, vy, vm, vk, vw, vd, vs, vb, rfl, rfl, hB, hR, hA, hC, HU, HV⟩
      · go_simp
        clear hHeld
        refine hK.out _ _ ?_ (fun hHeld => ?_)
        · exact ⟨block_below hK1.out (bel_alloc (w2.drew.alloc (.cells #[.int .i64 0, .int .i64 0, .int .i64 0, .string ⟨#[]⟩, .string ⟨#[]⟩, .bool false, .int .i64 0, .int .i64 0, .int .i64 0, .int .i64 0, .int .i64 0, .int .i64 0, .int .i64 0] 45)) (.cells #[.int .i64 0, .int .i64 0, .int .i64 0, .string ⟨#[]⟩, .string ⟨#[]⟩, .bool false, .int .i64 0, .int .i64 0, .int .i64 0, .int .i64 0, .int .i64 0, .int .i64 0, .int .i64 0] 45)), block_below hK2.out (bel_alloc (w2.drew.alloc (.cells #[.int .i64 0, .int .i64 0, .int .i64 0, .string ⟨#[]⟩, .string ⟨#[]⟩, .bool false, .int .i64 0, .int .i64 0, .int .i64 0, .int .i64 0, .int .i64 0, .int .i64 0, .int .i64 0] 45)) (.cells #[.int .i64 0, .int .i64 0, .int .i64 0, .string ⟨#[]⟩, .string ⟨#[]⟩, .bool false, .int .i64 0, .int .i64 0, .int .i64 0, .int .i64 0, .int .i64 0, .int .i64 0, .int .i64 0] 45))⟩
        clear hK K
        try simp only [Act.put, List.getElem_toArray, List.getElem_cons_succ, List.getElem_cons_zero, List.setIfInBounds_toArray, List.set_cons_zero, List.set_cons_succ]
        have hsz : (w2.heap.size + 1) = (w2.drew.alloc (.cells #[.int .i64 0, .int .i64 0, .int .i64 0, .string ⟨#[]⟩, .string ⟨#[]⟩, .bool false, .int .i64 0, .int .i64 0, .int .i64 0, .int .i64 0, .int .i64 0, .int .i64 0, .int .i64 0] 45)).heap.size := by simp [sz_alloc, sz_drew]
        have hC := Lib.hid (show ((w2.drew.alloc (.cells #[.int .i64 0, .int .i64 0, .int .i64 0, .string ⟨#[]⟩, .string ⟨#[]⟩, .bool false, .int .i64 0, .int .i64 0, .int .i64 0, .int .i64 0, .int .i64 0, .int .i64 0, .int .i64 0] 45)).alloc (.cells #[.int .i64 0, .int .i64 0, .int .i64 0, .string ⟨#[]⟩, .string ⟨#[]⟩, .bool false, .int .i64 0, .int .i64 0, .int .i64 0, .int .i64 0, .int .i64 0, .int .i64 0, .int .i64 0] 45)).heap[(w2.heap.size + 1)]? = some (.cells #[.int .i64 0, .int .i64 0, .int .i64 0, .string ⟨#[]⟩, .string ⟨#[]⟩, .bool false, .int .i64 0, .int .i64 0, .int .i64 0, .int .i64 0, .int .i64 0, .int .i64 0, .int .i64 0] 45) by rw [hsz]; exact heap_alloc_new _ _)
        have hcl := Lib.hid (show W.heap.size ≤ (w2.heap.size + 1) by rw [hsz]; exact hB.out.size)
        have hne := Lib.hid (show w2.heap.size ≠ (w2.heap.size + 1) by have := (Array.getElem?_eq_some_iff.1 hA.out).1; omega)
        have hA := Lib.hid (block_below hA.out (bel_alloc (w2.drew.alloc (.cells #[.int .i64 0, .int .i64 0, .int .i64 0, .string ⟨#[]⟩, .string ⟨#[]⟩, .bool false, .int .i64 0, .int .i64 0, .int .i64 0, .int .i64 0, .int .i64 0, .int .i64 0, .int .i64 0] 45)) (.cells #[.int .i64 0, .int .i64 0, .int .i64 0, .string ⟨#[]⟩, .string ⟨#[]⟩, .bool false, .int .i64 0, .int .i64 0, .int .i64 0, .int .i64 0, .int .i64 0, .int .i64 0, .int .i64 0] 45)))
        have hloC := Lib.hid (show w2.heap.size ≤ (w2.heap.size + 1) by rw [hsz]; exact hS.out)
        clear hsz
        have hK1 := Lib.hid (block_below hK1.out (bel_alloc (w2.drew.alloc (.cells #[.int .i64 0, .int .i64 0, .int .i64 0, .string ⟨#[]⟩, .string ⟨#[]⟩, .bool false, .int .i64 0, .int .i64 0, .int .i64 0, .int .i64 0, .int .i64 0, .int .i64 0, .int .i64 0] 45)) (.cells #[.int .i64 0, .int .i64 0, .int .i64 0, .string ⟨#[]⟩, .string ⟨#[]⟩, .bool false, .int .i64 0, .int .i64 0, .int .i64 0, .int .i64 0, .int .i64 0, .int .i64 0, .int .i64 0] 45)))
        have hK2 := Lib.hid (block_below hK2.out (bel_alloc (w2.drew.alloc (.cells #[.int .i64 0, .int .i64 0, .int .i64 0, .string ⟨#[]⟩, .string ⟨#[]⟩, .bool false, .int .i64 0, .int .i64 0, .int .i64 0, .int .i64 0, .int .i64 0, .int .i64 0, .int .i64 0] 45)) (.cells #[.int .i64 0, .int .i64 0, .int .i64 0, .string ⟨#[]⟩, .string ⟨#[]⟩, .bool false, .int .i64 0, .int .i64 0, .int .i64 0, .int .i64 0, .int .i64 0, .int .i64 0, .int .i64 0] 45)))
        have hR := Lib.hid (hR.out.below (bel_alloc (w2.drew.alloc (.cells #[.int .i64 0, .int .i64 0, .int .i64 0, .string ⟨#[]⟩, .string ⟨#[]⟩, .bool false, .int .i64 0, .int .i64 0, .int .i64 0, .int .i64 0, .int .i64 0, .int .i64 0, .int .i64 0] 45)) (.cells #[.int .i64 0, .int .i64 0, .int .i64 0, .string ⟨#[]⟩, .string ⟨#[]⟩, .bool false, .int .i64 0, .int .i64 0, .int .i64 0, .int .i64 0, .int .i64 0, .int .i64 0, .int .i64 0] 45)))
        have hB := Lib.hid (bel_trans hB.out (bel_alloc (w2.drew.alloc (.cells #[.int .i64 0, .int .i64 0, .int .i64 0, .string ⟨#[]⟩, .string ⟨#[]⟩, .bool false, .int .i64 0, .int .i64 0, .int .i64 0, .int .i64 0, .int .i64 0, .int .i64 0, .int .i64 0] 45)) (.cells #[.int .i64 0, .int .i64 0, .int .i64 0, .string ⟨#[]⟩, .string ⟨#[]⟩, .bool false, .int .i64 0, .int .i64 0, .int .i64 0, .int .i64 0, .int .i64 0, .int .i64 0, .int .i64 0] 45)))
        have hS := Lib.hid (show w2.heap.size ≤ ((w2.drew.alloc (.cells #[.int .i64 0, .int .i64 0, .int .i64 0, .string ⟨#[]⟩, .string ⟨#[]⟩, .bool false, .int .i64 0, .int .i64 0, .int .i64 0, .int .i64 0, .int .i64 0, .int .i64 0, .int .i64 0] 45)).alloc (.cells #[.int .i64 0, .int .i64 0, .int .i64 0, .string ⟨#[]⟩, .string ⟨#[]⟩, .bool false, .int .i64 0, .int .i64 0, .int .i64 0, .int .i64 0, .int .i64 0, .int .i64 0, .int .i64 0] 45)).heap.size by rw [sz_alloc]; have := hS.out; omega)
        refine wpAnyH_ready (rs := [5]) (by kernel_rfl) (by simp) ?_
        refine (AllReadyH.cons rfl (fun K hK => ?_) AllReadyH.nil)
        · go_simp
          refine (HE.out dy dm db dk dw dn da ls _ HD.out.1 HD.out.2.1 HD.out.2.2.1 HD.out.2.2.2.1 HD.out.2.2.2.2.1 HD.out.2.2.2.2.2.1 HD.out.2.2.2.2.2.2 ml1 ml2).mono ?_
          rintro e x1 ⟨uy, um, uk, uw, ud, us, ub, HU, rfl, hb1⟩
          go_wp2_with fail
          clear hHeld
          refine hK.out _ _ ?_ (fun hHeld => ?_)
          · exact ⟨block_below hK1.out hb1, block_below hK2.out hb1⟩
          clear hK K
          try simp only [Act.put, List.getElem_toArray, List.getElem_cons_succ, List.getElem_cons_zero, List.setIfInBounds_toArray, List.set_cons_zero, List.set_cons_succ]
          have hK1 := Lib.hid (block_below hK1.out hb1)
          have hK2 := Lib.hid (block_below hK2.out hb1)
          have hR := Lib.hid (hR.out.below hb1)
          have hA := Lib.hid (block_below hA.out hb1)
          have hC := Lib.hid (block_below hC.out hb1)
          have hB := Lib.hid (bel_trans hB.out hb1)
          have hS := Lib.hid (show w2.heap.size ≤ x1.heap.size from Nat.le_trans hS.out hb1.size)
          clear hb1
          refine wpAnyH_ready (rs := [11]) (by kernel_rfl) (by simp) ?_
          refine (AllReadyH.cons rfl (fun K hK => ?_) AllReadyH.nil)
          · go_simp
            refine (HE.out fy fm fb fk fw fn fa ls _ HF.out.1 HF.out.2.1 HF.out.2.2.1 HF.out.2.2.2.1 HF.out.2.2.2.2.1 HF.out.2.2.2.2.2.1 HF.out.2.2.2.2.2.2 ml1 ml2).mono ?_
            rintro e x2 ⟨vy, vm, vk, vw, vd, vs, vb, HV, rfl, hb2⟩
            go_wp2_with fail
            clear hHeld
            refine hK.out _ _ ?_ (fun hHeld => ?_)
            · exact ⟨block_below hK1.out hb2, block_below hK2.out hb2⟩
            clear hK K
            try simp only [Act.put, List.getElem_toArray, List.getElem_cons_succ, List.getElem_cons_zero, List.setIfInBounds_toArray, List.set_cons_zero, List.set_cons_succ]
            have hK1 := Lib.hid (block_below hK1.out hb2)
            have hK2 := Lib.hid (block_below hK2.out hb2)
            have hR := Lib.hid (hR.out.below hb2)
            have hA := Lib.hid (block_below hA.out hb2)
            have hC := Lib.hid (block_below hC.out hb2)
            have hB := Lib.hid (bel_trans hB.out hb2)
            have hS := Lib.hid (show w2.heap.size ≤ x2.heap.size from Nat.le_trans hS.out hb2.size)
            clear hb2
            refine wpAnyH_ready (rs := [14]) (by kernel_rfl) (by simp) ?_
            refine (AllReadyH.cons rfl (fun K hK => ?_) AllReadyH.nil)
            · rw [if_pos (by rfl)]
              refine wp_store_mid _ _ _ rfl w2.heap.size 0 #[.int .i64 o, .int .i64 q, .int .i64 s, .string st, .string ⟨#[88]⟩, .bool true, .int .i64 uy, .int .i64 um, .int .i64 uk, .int .i64 uw, .int .i64 ud, .int .i64 us, .int .i64 ub] rfl rfl (there13 hA.out rfl) (by kernel_rfl) (by simp [Value.oneCell']) ?_
              have hn1 := Lib.hid (show W.heap.size ≠ w2.heap.size by have := hlt2.out; have := hloB.out; omega)
              have hn2 := Lib.hid (show W.heap.size + 1 ≠ w2.heap.size by have := hlt2.out; have := hloB.out; omega)
              clear hHeld
              refine hK.out _ _ ?_ (fun hHeld => ?_)
              · exact ⟨block_setCells hK1.out hn1.out, block_setCells hK2.out hn2.out⟩
              clear hK K
              try simp only [Act.put, List.getElem_toArray, List.getElem_cons_succ, List.getElem_cons_zero, List.setIfInBounds_toArray, List.set_cons_zero, List.set_cons_succ]
              have hK1 := Lib.hid (block_setCells (o := 0) (l := [.int .i64 o, .int .i64 q, .int .i64 s, .string st, .string ⟨#[88]⟩, .bool true, .int .i64 uy, .int .i64 um, .int .i64 uk, .int .i64 uw, .int .i64 ud, .int .i64 us, .int .i64 ub]) hK1.out hn1.out)
              have hK2 := Lib.hid (block_setCells (o := 0) (l := [.int .i64 o, .int .i64 q, .int .i64 s, .string st, .string ⟨#[88]⟩, .bool true, .int .i64 uy, .int .i64 um, .int .i64 uk, .int .i64 uw, .int .i64 ud, .int .i64 us, .int .i64 ub]) hK2.out hn2.out)
              have hR := Lib.hid (rul_setCells (o := 0) (l := [.int .i64 o, .int .i64 q, .int .i64 s, .string st, .string ⟨#[88]⟩, .bool true, .int .i64 uy, .int .i64 um, .int .i64 uk, .int .i64 uw, .int .i64 ud, .int .i64 us, .int .i64 ub]) hR.out hloB.out hRg.out)
              have hC := Lib.hid (block_setCells (o := 0) (l := [.int .i64 o, .int .i64 q, .int .i64 s, .string st, .string ⟨#[88]⟩, .bool true, .int .i64 uy, .int .i64 um, .int .i64 uk, .int .i64 uw, .int .i64 ud, .int .i64 us, .int .i64 ub]) hC.out hne.out.symm)
              have hA := Lib.hid (set13c ([.int .i64 o, .int .i64 q, .int .i64 s, .string st, .string ⟨#[88]⟩, .bool true, .int .i64 uy, .int .i64 um, .int .i64 uk, .int .i64 uw, .int .i64 ud, .int .i64 us, .int .i64 ub]) rfl hA.out rfl)
              have hB := Lib.hid (bel_setCells (o := 0) (l := [.int .i64 o, .int .i64 q, .int .i64 s, .string st, .string ⟨#[88]⟩, .bool true, .int .i64 uy, .int .i64 um, .int .i64 uk, .int .i64 uw, .int .i64 ud, .int .i64 us, .int .i64 ub]) hB.out hbl.out)
              clear hn1 hn2
              generalize World.setCells _ _ _ _ = y14 at hA hC hB hK1 hK2 hR hHeld ⊢
              refine wpAnyH_ready (rs := [15]) (by kernel_rfl) (by simp) ?_
              refine (AllReadyH.cons rfl (fun K hK => ?_) AllReadyH.nil)
              · rw [if_pos (by rfl)]
                refine wp_store_mid _ _ _ rfl (w2.heap.size + 1) 0 #[.int .i64 o, .int .i64 q, .int .i64 s, .string st, .string ⟨#[88]⟩, .bool true, .int .i64 vy, .int .i64 vm, .int .i64 vk, .int .i64 vw, .int .i64 vd, .int .i64 vs, .int .i64 vb] rfl rfl (there13 hC.out rfl) (by kernel_rfl) (by simp [Value.oneCell']) ?_
                have hn1 := Lib.hid (show W.heap.size ≠ (w2.heap.size + 1) by have := hlt2.out; have := hloC.out; omega)
                have hn2 := Lib.hid (show W.heap.size + 1 ≠ (w2.heap.size + 1) by have := hlt2.out; have := hloC.out; omega)
                clear hHeld
                refine hK.out _ _ ?_ (fun hHeld => ?_)
                · exact ⟨block_setCells hK1.out hn1.out, block_setCells hK2.out hn2.out⟩
                clear hK K
                try simp only [Act.put, List.getElem_toArray, List.getElem_cons_succ, List.getElem_cons_zero, List.setIfInBounds_toArray, List.set_cons_zero, List.set_cons_succ]
                have hK1 := Lib.hid (block_setCells (o := 0) (l := [.int .i64 o, .int .i64 q, .int .i64 s, .string st, .string ⟨#[88]⟩, .bool true, .int .i64 vy, .int .i64 vm, .int .i64 vk, .int .i64 vw, .int .i64 vd, .int .i64 vs, .int .i64 vb]) hK1.out hn1.out)
                have hK2 := Lib.hid (block_setCells (o := 0) (l := [.int .i64 o, .int .i64 q, .int .i64 s, .string st, .string ⟨#[88]⟩, .bool true, .int .i64 vy, .int .i64 vm, .int .i64 vk, .int .i64 vw, .int .i64 vd, .int .i64 vs, .int .i64 vb]) hK2.out hn2.out)
                have hR := Lib.hid (rul_setCells (o := 0) (l := [.int .i64 o, .int .i64 q, .int .i64 s, .string st, .string ⟨#[88]⟩, .bool true, .int .i64 vy, .int .i64 vm, .int .i64 vk, .int .i64 vw, .int .i64 vd, .int .i64 vs, .int .i64 vb]) hR.out hloC.out hRg.out)
                have hA := Lib.hid (block_setCells (o := 0) (l := [.int .i64 o, .int .i64 q, .int .i64 s, .string st, .string ⟨#[88]⟩, .bool true, .int .i64 vy, .int .i64 vm, .int .i64 vk, .int .i64 vw, .int .i64 vd, .int .i64 vs, .int .i64 vb]) hA.out hne.out)
                have hC := Lib.hid (set13c ([.int .i64 o, .int .i64 q, .int .i64 s, .string st, .string ⟨#[88]⟩, .bool true, .int .i64 vy, .int .i64 vm, .int .i64 vk, .int .i64 vw, .int .i64 vd, .int .i64 vs, .int .i64 vb]) rfl hC.out rfl)
                have hB := Lib.hid (bel_setCells (o := 0) (l := [.int .i64 o, .int .i64 q, .int .i64 s, .string st, .string ⟨#[88]⟩, .bool true, .int .i64 vy, .int .i64 vm, .int .i64 vk, .int .i64 vw, .int .i64 vd, .int .i64 vs, .int .i64 vb]) hB.out hcl.out)
                clear hn1 hn2
                generalize World.setCells _ _ _ _ = y15 at hA hC hB hK1 hK2 hR hHeld ⊢
                refine wpAnyH_done (by kernel_rfl) ?_ _
                clear hHeld hK1 hK2
                go_wp2_with fail
                go_meet
                case rel => exact ⟨w2.heap.size, (w2.heap.size + 1), uy, um, uk, uw, ud, us, ub, vy, vm, vk, vw, vd, vs, vb, rfl, rfl, hB, hR, hA, hC, HU, HV⟩
    · go_simp
      clear hHeld
      refine hK.out _ _ ?_ (fun hHeld => ?_)
      · exact ⟨block_below hK1.out (bel_alloc w2.drew (.cells #[.int .i64 0, .int .i64 0, .int .i64 0, .string ⟨#[]⟩, .string ⟨#[]⟩, .bool false, .int .i64 0, .int .i64 0, .int .i64 0, .int .i64 0, .int .i64 0, .int .i64 0, .int .i64 0] 45)), block_below hK2.out (bel_alloc w2.drew (.cells #[.int .i64 0, .int .i64 0, .int .i64 0, .string ⟨#[]⟩, .string ⟨#[]⟩, .bool false, .int .i64 0, .int .i64 0, .int .i64 0, .int .i64 0, .int .i64 0, .int .i64 0, .int .i64 0] 45))⟩
      clear hK K
      try simp only [Act.put, List.getElem_toArray, List.getElem_cons_succ, List.getElem_cons_zero, List.setIfInBounds_toArray, List.set_cons_zero, List.set_cons_succ]
      have hsz : w2.heap.size = w2.drew.heap.size := by simp [sz_alloc, sz_drew]
      have hC := Lib.hid (show (w2.drew.alloc (.cells #[.int .i64 0, .int .i64 0, .int .i64 0, .string ⟨#[]⟩, .string ⟨#[]⟩, .bool false, .int .i64 0, .int .i64 0, .int .i64 0, .int .i64 0, .int .i64 0, .int .i64 0, .int .i64 0] 45)).heap[w2.heap.size]? = some (.cells #[.int .i64 0, .int .i64 0, .int .i64 0, .string ⟨#[]⟩, .string ⟨#[]⟩, .bool false, .int .i64 0, .int .i64 0, .int .i64 0, .int .i64 0, .int .i64 0, .int .i64 0, .int .i64 0] 45) by rw [hsz]; exact heap_alloc_new _ _)
      have hcl := Lib.hid (show W.heap.size ≤ w2.heap.size by rw [hsz]; exact hB.out.size)
      have hloC := Lib.hid (show w2.heap.size ≤ w2.heap.size by rw [hsz]; exact hS.out)
      clear hsz
      have hK1 := Lib.hid (block_below hK1.out (bel_alloc w2.drew (.cells #[.int .i64 0, .int .i64 0, .int .i64 0, .string ⟨#[]⟩, .string ⟨#[]⟩, .bool false, .int .i64 0, .int .i64 0, .int .i64 0, .int .i64 0, .int .i64 0, .int .i64 0, .int .i64 0] 45)))
      have hK2 := Lib.hid (block_below hK2.out (bel_alloc w2.drew (.cells #[.int .i64 0, .int .i64 0, .int .i64 0, .string ⟨#[]⟩, .string ⟨#[]⟩, .bool false, .int .i64 0, .int .i64 0, .int .i64 0, .int .i64 0, .int .i64 0, .int .i64 0, .int .i64 0] 45)))
      have hR := Lib.hid (hR.out.below (bel_alloc w2.drew (.cells #[.int .i64 0, .int .i64 0, .int .i64 0, .string ⟨#[]⟩, .string ⟨#[]⟩, .bool false, .int .i64 0, .int .i64 0, .int .i64 0, .int .i64 0, .int .i64 0, .int .i64 0, .int .i64 0] 45)))
      have hB := Lib.hid (bel_trans hB.out (bel_alloc w2.drew (.cells #[.int .i64 0, .int .i64 0, .int .i64 0, .string ⟨#[]⟩, .string ⟨#[]⟩, .bool false, .int .i64 0, .int .i64 0, .int .i64 0, .int .i64 0, .int .i64 0, .int .i64 0, .int .i64 0] 45)))
      have hS := Lib.hid (show w2.heap.size ≤ (w2.drew.alloc (.cells #[.int .i64 0, .int .i64 0, .int .i64 0, .string ⟨#[]⟩, .string ⟨#[]⟩, .bool false, .int .i64 0, .int .i64 0, .int .i64 0, .int .i64 0, .int .i64 0, .int .i64 0, .int .i64 0] 45)).heap.size by rw [sz_alloc]; have := hS.out; omega)
      refine wpAnyH_ready (rs := [5, 12]) (by kernel_rfl) (by simp) ?_
      refine (AllReadyH.cons rfl (fun K hK => ?_) (AllReadyH.cons rfl (fun K hK => ?_) AllReadyH.nil))
      · go_simp
        refine (HE.out dy dm db dk dw dn da ls _ HD.out.1 HD.out.2.1 HD.out.2.2.1 HD.out.2.2.2.1 HD.out.2.2.2.2.1 HD.out.2.2.2.2.2.1 HD.out.2.2.2.2.2.2 ml1 ml2).mono ?_
        rintro e x1 ⟨uy, um, uk, uw, ud, us, ub, HU, rfl, hb1⟩
        go_wp2_with fail
        clear hHeld
        refine hK.out _ _ ?_ (fun hHeld => ?_)
        · exact ⟨block_below hK1.out hb1, block_below hK2.out hb1⟩
        clear hK K
        try simp only [Act.put, List.getElem_toArray, List.getElem_cons_succ, List.getElem_cons_zero, List.setIfInBounds_toArray, List.set_cons_zero, List.set_cons_succ]
        have hK1 := Lib.hid (block_below hK1.out hb1)
        have hK2 := Lib.hid (block_below hK2.out hb1)
        have hR := Lib.hid (hR.out.below hb1)
        have hC := Lib.hid (block_below hC.out hb1)
        have hB := Lib.hid (bel_trans hB.out hb1)
        have hS := Lib.hid (show w2.heap.size ≤ x1.heap.size from Nat.le_trans hS.out hb1.size)
        clear hb1
        refine wpAnyH_ready (rs := [11, 12]) (by kernel_rfl) (by simp) ?_
        refine (AllReadyH.cons rfl (fun K hK => ?_) (AllReadyH.cons rfl (fun K hK => ?_) AllReadyH.nil))
        · go_simp
          refine (HE.out fy fm fb fk fw fn fa ls _ HF.out.1 HF.out.2.1 HF.out.2.2.1 HF.out.2.2.2.1 HF.out.2.2.2.2.1 HF.out.2.2.2.2.2.1 HF.out.2.2.2.2.2.2 ml1 ml2).mono ?_
          rintro e x2 ⟨vy, vm, vk, vw, vd, vs, vb, HV, rfl, hb2⟩
          go_wp2_with fail
          clear hHeld
          refine hK.out _ _ ?_ (fun hHeld => ?_)
          · exact ⟨block_below hK1.out hb2, block_below hK2.out hb2⟩
          clear hK K
          try simp only [Act.put, List.getElem_toArray, List.getElem_cons_succ, List.getElem_cons_zero, List.setIfInBounds_toArray, List.set_cons_zero, List.set_cons_succ]
          have hK1 := Lib.hid (block_below hK1.out hb2)
          have hK2 := Lib.hid (block_below hK2.out hb2)
          have hR := Lib.hid (hR.out.below hb2)
          have hC := Lib.hid (block_below hC.out hb2)
          have hB := Lib.hid (bel_trans hB.out hb2)
          have hS := Lib.hid (show w2.heap.size ≤ x2.heap.size from Nat.le_trans hS.out hb2.size)
          clear hb2
          refine wpAnyH_ready (rs := [12]) (by kernel_rfl) (by simp) ?_
          refine (AllReadyH.cons rfl (fun K hK => ?_) AllReadyH.nil)
          · go_simp
            clear hHeld
            refine hK.out _ _ ?_ (fun hHeld => ?_)
            · exact ⟨block_below hK1.out (bel_alloc x2 (.cells #[.int .i64 0, .int .i64 0, .int .i64 0, .string ⟨#[]⟩, .string ⟨#[]⟩, .bool false, .int .i64 0, .int .i64 0, .int .i64 0, .int .i64 0, .int .i64 0, .int .i64 0, .int .i64 0] 45)), block_below hK2.out (bel_alloc x2 (.cells #[.int .i64 0, .int .i64 0, .int .i64 0, .string ⟨#[]⟩, .string ⟨#[]⟩, .bool false, .int .i64 0, .int .i64 0, .int .i64 0, .int .i64 0, .int .i64 0, .int .i64 0, .int .i64 0] 45))⟩
            clear hK K
            try simp only [Act.put, List.getElem_toArray, List.getElem_cons_succ, List.getElem_cons_zero, List.setIfInBounds_toArray, List.set_cons_zero, List.set_cons_succ]
            have hsz : x2.heap.size = x2.heap.size := by simp [sz_alloc, sz_drew]
            have hA := Lib.hid (show (x2.alloc (.cells #[.int .i64 0, .int .i64 0, .int .i64 0, .string ⟨#[]⟩, .string ⟨#[]⟩, .bool false, .int .i64 0, .int .i64 0, .int .i64 0, .int .i64 0, .int .i64 0, .int .i64 0, .int .i64 0] 45)).heap[x2.heap.size]? = some (.cells #[.int .i64 0, .int .i64 0, .int .i64 0, .string ⟨#[]⟩, .string ⟨#[]⟩, .bool false, .int .i64 0, .int .i64 0, .int .i64 0, .int .i64 0, .int .i64 0, .int .i64 0, .int .i64 0] 45) by rw [hsz]; exact heap_alloc_new _ _)
            have hbl := Lib.hid (show W.heap.size ≤ x2.heap.size by rw [hsz]; exact hB.out.size)
            have hne := Lib.hid (show x2.heap.size ≠ w2.heap.size by have := (Array.getElem?_eq_some_iff.1 hC.out).1; omega)
            have hC := Lib.hid (block_below hC.out (bel_alloc x2 (.cells #[.int .i64 0, .int .i64 0, .int .i64 0, .string ⟨#[]⟩, .string ⟨#[]⟩, .bool false, .int .i64 0, .int .i64 0, .int .i64 0, .int .i64 0, .int .i64 0, .int .i64 0, .int .i64 0] 45)))
            have hloB := Lib.hid (show w2.heap.size ≤ x2.heap.size by rw [hsz]; exact hS.out)
            clear hsz
            have hK1 := Lib.hid (block_below hK1.out (bel_alloc x2 (.cells #[.int .i64 0, .int .i64 0, .int .i64 0, .string ⟨#[]⟩, .string ⟨#[]⟩, .bool false, .int .i64 0, .int .i64 0, .int .i64 0, .int .i64 0, .int .i64 0, .int .i64 0, .int .i64 0] 45)))
            have hK2 := Lib.hid (block_below hK2.out (bel_alloc x2 (.cells #[.int .i64 0, .int .i64 0, .int .i64 0, .string ⟨#[]⟩, .string ⟨#[]⟩, .bool false, .int .i64 0, .int .i64 0, .int .i64 0, .int .i64 0, .int .i64 0, .int .i64 0, .int .i64 0] 45)))
            have hR := Lib.hid (hR.out.below (bel_alloc x2 (.cells #[.int .i64 0, .int .i64 0, .int .i64 0, .string ⟨#[]⟩, .string ⟨#[]⟩, .bool false, .int .i64 0, .int .i64 0, .int .i64 0, .int .i64 0, .int .i64 0, .int .i64 0, .int .i64 0] 45)))
            have hB := Lib.hid (bel_trans hB.out (bel_alloc x2 (.cells #[.int .i64 0, .int .i64 0, .int .i64 0, .string ⟨#[]⟩, .string ⟨#[]⟩, .bool false, .int .i64 0, .int .i64 0, .int .i64 0, .int .i64 0, .int .i64 0, .int .i64 0, .int .i64 0] 45)))
            have hS := Lib.hid (show w2.heap.size ≤ (x2.alloc (.cells #[.int .i64 0, .int .i64 0, .int .i64 0, .string ⟨#[]⟩, .string ⟨#[]⟩, .bool false, .int .i64 0, .int .i64 0, .int .i64 0, .int .i64 0, .int .i64 0, .int .i64 0, .int .i64 0] 45)).heap.size by rw [sz_alloc]; have := hS.out; omega)
            refine wpAnyH_ready (rs := [14]) (by kernel_rfl) (by simp) ?_
            refine (AllReadyH.cons rfl (fun K hK => ?_) AllReadyH.nil)
            · rw [if_pos (by rfl)]
              refine wp_store_mid _ _ _ rfl x2.heap.size 0 #[.int .i64 o, .int .i64 q, .int .i64 s, .string st, .string ⟨#[88]⟩, .bool true, .int .i64 uy, .int .i64 um, .int .i64 uk, .int .i64 uw, .int .i64 ud, .int .i64 us, .int .i64 ub] rfl rfl (there13 hA.out rfl) (by kernel_rfl) (by simp [Value.oneCell']) ?_
              have hn1 := Lib.hid (show W.heap.size ≠ x2.heap.size by have := hlt2.out; have := hloB.out; omega)
              have hn2 := Lib.hid (show W.heap.size + 1 ≠ x2.heap.size by have := hlt2.out; have := hloB.out; omega)
              clear hHeld
              refine hK.out _ _ ?_ (fun hHeld => ?_)
              · exact ⟨block_setCells hK1.out hn1.out, block_setCells hK2.out hn2.out⟩
              clear hK K
              try simp only [Act.put, List.getElem_toArray, List.getElem_cons_succ, List.getElem_cons_zero, List.setIfInBounds_toArray, List.set_cons_zero, List.set_cons_succ]
              have hK1 := Lib.hid (block_setCells (o := 0) (l := [.int .i64 o, .int .i64 q, .int .i64 s, .string st, .string ⟨#[88]⟩, .bool true, .int .i64 uy, .int .i64 um, .int .i64 uk, .int .i64 uw, .int .i64 ud, .int .i64 us, .int .i64 ub]) hK1.out hn1.out)
              have hK2 := Lib.hid (block_setCells (o := 0) (l := [.int .i64 o, .int .i64 q, .int .i64 s, .string st, .string ⟨#[88]⟩, .bool true, .int .i64 uy, .int .i64 um, .int .i64 uk, .int .i64 uw, .int .i64 ud, .int .i64 us, .int .i64 ub]) hK2.out hn2.out)
              have hR := Lib.hid (rul_setCells (o := 0) (l := [.int .i64 o, .int .i64 q, .int .i64 s, .string st, .string ⟨#[88]⟩, .bool true, .int .i64 uy, .int .i64 um, .int .i64 uk, .int .i64 uw, .int .i64 ud, .int .i64 us, .int .i64 ub]) hR.out hloB.out hRg.out)
              have hC := Lib.hid (block_setCells (o := 0) (l := [.int .i64 o, .int .i64 q, .int .i64 s, .string st, .string ⟨#[88]⟩, .bool true, .int .i64 uy, .int .i64 um, .int .i64 uk, .int .i64 uw, .int .i64 ud, .int .i64 us, .int .i64 ub]) hC.out hne.out.symm)
              have hA := Lib.hid (set13c ([.int .i64 o, .int .i64 q, .int .i64 s, .string st, .string ⟨#[88]⟩, .bool true, .int .i64 uy, .int .i64 um, .int .i64 uk, .int .i64 uw, .int .i64 ud, .int .i64 us, .int .i64 ub]) rfl hA.out rfl)
              have hB := Lib.hid (bel_setCells (o := 0) (l := [.int .i64 o, .int .i64 q, .int .i64 s, .string st, .string ⟨#[88]⟩, .bool true, .int .i64 uy, .int .i64 um, .int .i64 uk, .int .i64 uw, .int .i64 ud, .int .i64 us, .int .i64 ub]) hB.out hbl.out)
              clear hn1 hn2
              generalize World.setCells _ _ _ _ = y14 at hA hC hB hK1 hK2 hR hHeld ⊢
              refine wpAnyH_ready (rs := [15]) (by kernel_rfl) (by simp) ?_
              refine (AllReadyH.cons rfl (fun K hK => ?_) AllReadyH.nil)
              · rw [if_pos (by rfl)]
                refine wp_store_mid _ _ _ rfl w2.heap.size 0 #[.int .i64 o, .int .i64 q, .int .i64 s, .string st, .string ⟨#[88]⟩, .bool true, .int .i64 vy, .int .i64 vm, .int .i64 vk, .int .i64 vw, .int .i64 vd, .int .i64 vs, .int .i64 vb] rfl rfl (there13 hC.out rfl) (by kernel_rfl) (by simp [Value.oneCell']) ?_
                have hn1 := Lib.hid (show W.heap.size ≠ w2.heap.size by have := hlt2.out; have := hloC.out; omega)
                have hn2 := Lib.hid (show W.heap.size + 1 ≠ w2.heap.size by have := hlt2.out; have := hloC.out; omega)
                clear hHeld
                refine hK.out _ _ ?_ (fun hHeld => ?_)
                · exact ⟨block_setCells hK1.out hn1.out, block_setCells hK2.out hn2.out⟩
                clear hK K
                try simp only [Act.put, List.getElem_toArray, List.getElem_cons_succ, List.getElem_cons_zero, List.setIfInBounds_toArray, List.set_cons_zero, List.set_cons_succ]
                have hK1 := Lib.hid (block_setCells (o := 0) (l := [.int .i64 o, .int .i64 q, .int .i64 s, .string st, .string ⟨#[88]⟩, .bool true, .int .i64 vy, .int .i64 vm, .int .i64 vk, .int .i64 vw, .int .i64 vd, .int .i64 vs, .int .i64 vb]) hK1.out hn1.out)
                have hK2 := Lib.hid (block_setCells (o := 0) (l := [.int .i64 o, .int .i64 q, .int .i64 s, .string st, .string ⟨#[88]⟩, .bool true, .int .i64 vy, .int .i64 vm, .int .i64 vk, .int .i64 vw, .int .i64 vd, .int .i64 vs, .int .i64 vb]) hK2.out hn2.out)
                have hR := Lib.hid (rul_setCells (o := 0) (l := [.int .i64 o, .int .i64 q, .int .i64 s, .string st, .string ⟨#[88]⟩, .bool true, .int .i64 vy, .int .i64 vm, .int .i64 vk, .int .i64 vw, .int .i64 vd, .int .i64 vs, .int .i64 vb]) hR.out hloC.out hRg.out)
                have hA := Lib.hid (block_setCells (o := 0) (l := [.int .i64 o, .int .i64 q, .int .i64 s, .string st, .string ⟨#[88]⟩, .bool true, .int .i64 vy, .int .i64 vm, .int .i64 vk, .int .i64 vw, .int .i64 vd, .int .i64 vs, .int .i64 vb]) hA.out hne.out)
                have hC := Lib.hid (set13c ([.int .i64 o, .int .i64 q, .int .i64 s, .string st, .string ⟨#[88]⟩, .bool true, .int .i64 vy, .int .i64 vm, .int .i64 vk, .int .i64 vw, .int .i64 vd, .int .i64 vs, .int .i64 vb]) rfl hC.out rfl)
                have hB := Lib.hid (bel_setCells (o := 0) (l := [.int .i64 o, .int .i64 q, .int .i64 s, .string st, .string ⟨#[88]⟩, .bool true, .int .i64 vy, .int .i64 vm, .int .i64 vk, .int .i64 vw, .int .i64 vd, .int .i64 vs, .int .i64 vb]) hB.out hcl.out)
                clear hn1 hn2
                generalize World.setCells _ _ _ _ = y15 at hA hC hB hK1 hK2 hR hHeld ⊢
                refine wpAnyH_done (by kernel_rfl) ?_ _
                clear hHeld hK1 hK2
                go_wp2_with fail
                go_meet
                case rel => exact ⟨x2.heap.size, w2.heap.size, uy, um, uk, uw, ud, us, ub, vy, vm, vk, vw, vd, vs, vb, rfl, rfl, hB, hR, hA, hC, HU, HV⟩
        · go_simp
          clear hHeld
          refine hK.out _ _ ?_ (fun hHeld => ?_)
          · exact ⟨block_below hK1.out (bel_alloc x1 (.cells #[.int .i64 0, .int .i64 0, .int .i64 0, .string ⟨#[]⟩, .string ⟨#[]⟩, .bool false, .int .i64 0, .int .i64 0, .int .i64 0, .int .i64 0, .int .i64 0, .int .i64 0, .int .i64 0] 45)), block_below hK2.out (bel_alloc x1 (.cells #[.int .i64 0, .int .i64 0, .int .i64 0, .string ⟨#[]⟩, .string ⟨#[]⟩, .bool false, .int .i64 0, .int .i64 0, .int .i64 0, .int .i64 0, .int .i64 0, .int .i64 0, .int .i64 0] 45))⟩
          clear hK K
          try simp only [Act.put, List.getElem_toArray, List.getElem_cons_succ, List.getElem_cons_zero, List.setIfInBounds_toArray, List.set_cons_zero, List.set_cons_succ]
          have hsz : x1.heap.size = x1.heap.size := by simp [sz_alloc, sz_drew]
          have hA := Lib.hid (show (x1.alloc (.cells #[.int .i64 0, .int .i64 0, .int .i64 0, .string ⟨#[]⟩, .string ⟨#[]⟩, .bool false, .int .i64 0, .int .i64 0, .int .i64 0, .int .i64 0, .int .i64 0, .int .i64 0, .int .i64 0] 45)).heap[x1.heap.size]? = some (.cells #[.int .i64 0, .int .i64 0, .int .i64 0, .string ⟨#[]⟩, .string ⟨#[]⟩, .bool false, .int .i64 0, .int .i64 0, .int .i64 0, .int .i64 0, .int .i64 0, .int .i64 0, .int .i64 0] 45) by rw [hsz]; exact heap_alloc_new _ _)
          have hbl := Lib.hid (show W.heap.size ≤ x1.heap.size by rw [hsz]; exact hB.out.size)
          have hne := Lib.hid (show x1.heap.size ≠ w2.heap.size by have := (Array.getElem?_eq_some_iff.1 hC.out).1; omega)
          have hC := Lib.hid (block_below hC.out (bel_alloc x1 (.cells #[.int .i64 0, .int .i64 0, .int .i64 0, .string ⟨#[]⟩, .string ⟨#[]⟩, .bool false, .int .i64 0, .int .i64 0, .int .i64 0, .int .i64 0, .int .i64 0, .int .i64 0, .int .i64 0] 45)))
          have hloB := Lib.hid (show w2.heap.size ≤ x1.heap.size by rw [hsz]; exact hS.out)
          clear hsz
          have hK1 := Lib.hid (block_below hK1.out (bel_alloc x1 (.cells #[.int .i64 0, .int .i64 0, .int .i64 0, .string ⟨#[]⟩, .string ⟨#[]⟩, .bool false, .int .i64 0, .int .i64 0, .int .i64 0, .int .i64 0, .int .i64 0, .int .i64 0, .int .i64 0] 45)))
          have hK2 := Lib.hid (block_below hK2.out (bel_alloc x1 (.cells #[.int .i64 0, .int .i64 0, .int .i64 0, .string ⟨#[]⟩, .string ⟨#[]⟩, .bool false, .int .i64 0, .int .i64 0, .int .i64 0, .int .i64 0, .int .i64 0, .int .i64 0, .int .i64 0] 45)))
          have hR := Lib.hid (hR.out.below (bel_alloc x1 (.cells #[.int .i64 0, .int .i64 0, .int .i64 0, .string ⟨#[]⟩, .string ⟨#[]⟩, .bool false, .int .i64 0, .int .i64 0, .int .i64 0, .int .i64 0, .int .i64 0, .int .i64 0, .int .i64 0] 45)))
          have hB := Lib.hid (bel_trans hB.out (bel_alloc x1 (.cells #[.int .i64 0, .int .i64 0, .int .i64 0, .string ⟨#[]⟩, .string ⟨#[]⟩, .bool false, .int .i64 0, .int .i64 0, .int .i64 0, .int .i64 0, .int .i64 0, .int .i64 0, .int .i64 0] 45)))
          have hS := Lib.hid (show w2.heap.size ≤ (x1.alloc (.cells #[.int .i64 0, .int .i64 0, .int .i64 0, .string ⟨#[]⟩, .string ⟨#[]⟩, .bool false, .int .i64 0, .int .i64 0, .int .i64 0, .int .i64 0, .int .i64 0, .int .i64 0, .int .i64 0] 45)).heap.size by rw [sz_alloc]; have := hS.out; omega)
          refine wpAnyH_ready (rs := [11]) (by kernel_rfl) (by simp) ?_
          refine (AllReadyH.cons rfl (fun K hK => ?_) AllReadyH.nil)
          · go_simp
            refine (HE.out fy fm fb fk fw fn fa ls _ HF.out.1 HF.out.2.1 HF.out.2.2.1 HF.out.2.2.2.1 HF.out.2.2.2.2.1 HF.out.2.2.2.2.2.1 HF.out.2.2.2.2.2.2 ml1 ml2).mono ?_
            rintro e x2 ⟨vy, vm, vk, vw, vd, vs, vb, HV, rfl, hb2⟩
            go_wp2_with fail
            clear hHeld
            refine hK.out _ _ ?_ (fun hHeld => ?_)
            · exact ⟨block_below hK1.out hb2, block_below hK2.out hb2⟩
            clear hK K
            try simp only [Act.put, List.getElem_toArray, List.getElem_cons_succ, List.getElem_cons_zero, List.setIfInBounds_toArray, List.set_cons_zero, List.set_cons_succ]
            have hK1 := Lib.hid (block_below hK1.out hb2)
            have hK2 := Lib.hid (block_below hK2.out hb2)
            have hR := Lib.hid (hR.out.below hb2)
            have hA := Lib.hid (block_below hA.out hb2)
            have hC := Lib.hid (block_below hC.out hb2)
            have hB := Lib.hid (bel_trans hB.out hb2)
            have hS := Lib.hid (show w2.heap.size ≤ x2.heap.size from Nat.le_trans hS.out hb2.size)
            clear hb2
            refine wpAnyH_ready (rs := [14]) (by kernel_rfl) (by simp) ?_
            refine (AllReadyH.cons rfl (fun K hK => ?_) AllReadyH.nil)
            · rw [if_pos (by rfl)]
              refine wp_store_mid _ _ _ rfl x1.heap.size 0 #[.int .i64 o, .int .i64 q, .int .i64 s, .string st, .string ⟨#[88]⟩, .bool true, .int .i64 uy, .int .i64 um, .int .i64 uk, .int .i64 uw, .int .i64 ud, .int .i64 us, .int .i64 ub] rfl rfl (there13 hA.out rfl) (by kernel_rfl) (by simp [Value.oneCell']) ?_
              have hn1 := Lib.hid (show W.heap.size ≠ x1.heap.size by have := hlt2.out; have := hloB.out; omega)
              have hn2 := Lib.hid (show W.heap.size + 1 ≠ x1.heap.size by have := hlt2.out; have := hloB.out; omega)
              clear hHeld
              refine hK.out _ _ ?_ (fun hHeld => ?_)
              · exact ⟨block_setCells hK1.out hn1.out, block_setCells hK2.out hn2.out⟩
              clear hK K
              try simp only [Act.put, List.getElem_toArray, List.getElem_cons_succ, List.getElem_cons_zero, List.setIfInBounds_toArray, List.set_cons_zero, List.set_cons_succ]
              have hK1 := Lib.hid (block_setCells (o := 0) (l := [.int .i64 o, .int .i64 q, .int .i64 s, .string st, .string ⟨#[88]⟩, .bool true, .int .i64 uy, .int .i64 um, .int .i64 uk, .int .i64 uw, .int .i64 ud, .int .i64 us, .int .i64 ub]) hK1.out hn1.out)
              have hK2 := Lib.hid (block_setCells (o := 0) (l := [.int .i64 o, .int .i64 q, .int .i64 s, .string st, .string ⟨#[88]⟩, .bool true, .int .i64 uy, .int .i64 um, .int .i64 uk, .int .i64 uw, .int .i64 ud, .int .i64 us, .int .i64 ub]) hK2.out hn2.out)
              have hR := Lib.hid (rul_setCells (o := 0) (l := [.int .i64 o, .int .i64 q, .int .i64 s, .string st, .string ⟨#[88]⟩, .bool true, .int .i64 uy, .int .i64 um, .int .i64 uk, .int .i64 uw, .int .i64 ud, .int .i64 us, .int .i64 ub]) hR.out hloB.out hRg.out)
              have hC := Lib.hid (block_setCells (o := 0) (l := [.int .i64 o, .int .i64 q, .int .i64 s, .string st, .string ⟨#[88]⟩, .bool true, .int .i64 uy, .int .i64 um, .int .i64 uk, .int .i64 uw, .int .i64 ud, .int .i64 us, .int .i64 ub]) hC.out hne.out.symm)
              have hA := Lib.hid (set13c ([.int .i64 o, .int .i64 q, .int .i64 s, .string st, .string ⟨#[88]⟩, .bool true, .int .i64 uy, .int .i64 um, .int .i64 uk, .int .i64 uw, .int .i64 ud, .int .i64 us, .int .i64 ub]) rfl hA.out rfl)
              have hB := Lib.hid (bel_setCells (o := 0) (l := [.int .i64 o, .int .i64 q, .int .i64 s, .string st, .string ⟨#[88]⟩, .bool true, .int .i64 uy, .int .i64 um, .int .i64 uk, .int .i64 uw, .int .i64 ud, .int .i64 us, .int .i64 ub]) hB.out hbl.out)
              clear hn1 hn2
              generalize World.setCells _ _ _ _ = y14 at hA hC hB hK1 hK2 hR hHeld ⊢
              refine wpAnyH_ready (rs := [15]) (by kernel_rfl) (by simp) ?_
              refine (AllReadyH.cons rfl (fun K hK => ?_) AllReadyH.nil)
              · rw [if_pos (by rfl)]
                refine wp_store_mid _ _ _ rfl w2.heap.size 0 #[.int .i64 o, .int .i64 q, .int .i64 s, .string st, .string ⟨#[88]⟩, .bool true, .int .i64 vy, .int .i64 vm, .int .i64 vk, .int .i64 vw, .int .i64 vd, .int .i64 vs, .int .i64 vb] rfl rfl (there13 hC.out rfl) (by kernel_rfl) (by simp [Value.oneCell']) ?_
                have hn1 := Lib.hid (show W.heap.size ≠ w2.heap.size by have := hlt2.out; have := hloC.out; omega)
                have hn2 := Lib.hid (show W.heap.size + 1 ≠ w2.heap.size by have := hlt2.out; have := hloC.out; omega)
                clear hHeld
                refine hK.out _ _ ?_ (fun hHeld => ?_)
                · exact ⟨block_setCells hK1.out hn1.out, block_setCells hK2.out hn2.out⟩
                clear hK K
                try simp only [Act.put, List.getElem_toArray, List.getElem_cons_succ, List.getElem_cons_zero, List.setIfInBounds_toArray, List.set_cons_zero, List.set_cons_succ]
                have hK1 := Lib.hid (block_setCells (o := 0) (l := [.int .i64 o, .int .i64 q, .int .i64 s, .string st, .string ⟨#[88]⟩, .bool true, .int .i64 vy, .int .i64 vm, .int .i64 vk, .int .i64 vw, .int .i64 vd, .int .i64 vs, .int .i64 vb]) hK1.out hn1.out)
                have hK2 := Lib.hid (block_setCells (o := 0) (l := [.int .i64 o, .int .i64 q, .int .i64 s, .string st, .string ⟨#[88]⟩, .bool true, .int .i64 vy, .int .i64 vm, .int .i64 vk, .int .i64 vw, .int .i64 vd, .int .i64 vs, .int .i64 vb]) hK2.out hn2.out)
                have hR := Lib.hid (rul_setCells (o := 0) (l := [.int .i64 o, .int .i64 q, .int .i64 s, .string st, .string ⟨#[88]⟩, .bool true, .int .i64 vy, .int .i64 vm, .int .i64 vk, .int .i64 vw, .int .i64 vd, .int .i64 vs, .int .i64 vb]) hR.out hloC.out hRg.out)
                have hA := Lib.hid (block_setCells (o := 0) (l := [.int .i64 o, .int .i64 q, .int .i64 s, .string st, .string ⟨#[88]⟩, .bool true, .int .i64 vy, .int .i64 vm, .int .i64 vk, .int .i64 vw, .int .i64 vd, .int .i64 vs, .int .i64 vb]) hA.out hne.out)
                have hC := Lib.hid (set13c ([.int .i64 o, .int .i64 q, .int .i64 s, .string st, .string ⟨#[88]⟩, .bool true, .int .i64 vy, .int .i64 vm, .int .i64 vk, .int .i64 vw, .int .i64 vd, .int .i64 vs, .int .i64 vb]) rfl hC.out rfl)
                have hB := Lib.hid (bel_setCells (o := 0) (l := [.int .i64 o, .int .i64 q, .int .i64 s, .string st, .string ⟨#[88]⟩, .bool true, .int .i64 vy, .int .i64 vm, .int .i64 vk, .int .i64 vw, .int .i64 vd, .int .i64 vs, .int .i64 vb]) hB.out hcl.out)
                clear hn1 hn2
                generalize World.setCells _ _ _ _ = y15 at hA hC hB hK1 hK2 hR hHeld ⊢
                refine wpAnyH_done (by kernel_rfl) ?_ _
                clear hHeld hK1 hK2
                go_wp2_with fail
                go_meet
                case rel => exact ⟨x1.heap.size, w2.heap.size, uy, um, uk, uw, ud, us, ub, vy, vm, vk, vw, vd, vs, vb, rfl, rfl, hB, hR, hA, hC, HU, HV⟩
      · go_simp
        clear hHeld
        refine hK.out _ _ ?_ (fun hHeld => ?_)
        · exact ⟨block_below hK1.out (bel_alloc (w2.drew.alloc (.cells #[.int .i64 0, .int .i64 0, .int .i64 0, .string ⟨#[]⟩, .string ⟨#[]⟩, .bool false, .int .i64 0, .int .i64 0, .int .i64 0, .int .i64 0, .int .i64 0, .int .i64 0, .int .i64 0] 45)) (.cells #[.int .i64 0, .int .i64 0, .int .i64 0, .string ⟨#[]⟩, .string ⟨#[]⟩, .bool false, .int .i64 0, .int .i64 0, .int .i64 0, .int .i64 0, .int .i64 0, .int .i64 0, .int .i64 0] 45)), block_below hK2.out (bel_alloc (w2.drew.alloc (.cells #[.int .i64 0, .int .i64 0, .int .i64 0, .string ⟨#[]⟩, .string ⟨#[]⟩, .bool false, .int .i64 0, .int .i64 0, .int .i64 0, .int .i64 0, .int .i64 0, .int .i64 0, .int .i64 0] 45)) (.cells #[.int .i64 0, .int .i64 0, .int .i64 0, .string ⟨#[]⟩, .string ⟨#[]⟩, .bool false, .int .i64 0, .int .i64 0, .int .i64 0, .int .i64 0, .int .i64 0, .int .i64 0, .int .i64 0] 45))⟩
        clear hK K
        try simp only [Act.put, List.getElem_toArray, List.getElem_cons_succ, List.getElem_cons_zero, List.setIfInBounds_toArray, List.set_cons_zero, List.set_cons_succ]
        have hsz : (w2.heap.size + 1) = (w2.drew.alloc (.cells #[.int .i64 0, .int .i64 0, .int .i64 0, .string ⟨#[]⟩, .string ⟨#[]⟩, .bool false, .int .i64 0, .int .i64 0, .int .i64 0, .int .i64 0, .int .i64 0, .int .i64 0, .int .i64 0] 45)).heap.size := by simp [sz_alloc, sz_drew]
        have hA := Lib.hid (show ((w2.drew.alloc (.cells #[.int .i64 0, .int .i64 0, .int .i64 0, .string ⟨#[]⟩, .string ⟨#[]⟩, .bool false, .int .i64 0, .int .i64 0, .int .i64 0, .int .i64 0, .int .i64 0, .int .i64 0, .int .i64 0] 45)).alloc (.cells #[.int .i64 0, .int .i64 0, .int .i64 0, .string ⟨#[]⟩, .string ⟨#[]⟩, .bool false, .int .i64 0, .int .i64 0, .int .i64 0, .int .i64 0, .int .i64 0, .int .i64 0, .int .i64 0] 45)).heap[(w2.heap.size + 1)]? = some (.cells #[.int .i64 0, .int .i64 0, .int .i64 0, .string ⟨#[]⟩, .string ⟨#[]⟩, .bool false, .int .i64 0, .int .i64 0, .int .i64 0, .int .i64 0, .int .i64 0, .int .i64 0, .int .i64 0] 45) by rw [hsz]; exact heap_alloc_new _ _)
        have hbl := Lib.hid (show W.heap.size ≤ (w2.heap.size + 1) by rw [hsz]; exact hB.out.size)
        have hne := Lib.hid (show (w2.heap.size + 1) ≠ w2.heap.size by have := (Array.getElem?_eq_some_iff.1 hC.out).1; omega)
        have hC := Lib.hid (block_below hC.out (bel_alloc (w2.drew.alloc (.cells #[.int .i64 0, .int .i64 0, .int .i64 0, .string ⟨#[]⟩, .string ⟨#[]⟩, .bool false, .int .i64 0, .int .i64 0, .int .i64 0, .int .i64 0, .int .i64 0, .int .i64 0, .int .i64 0] 45)) (.cells #[.int .i64 0, .int .i64 0, .int .i64 0, .string ⟨#[]⟩, .string ⟨#[]⟩, .bool false, .int .i64 0, .int .i64 0, .int .i64 0, .int .i64 0, .int .i64 0, .int .i64 0, .int .i64 0] 45)))
        have hloB := Lib.hid (show w2.heap.size ≤ (w2.heap.size + 1) by rw [hsz]; exact hS.out)
        clear hsz
        have hK1 := Lib.hid (block_below hK1.out (bel_alloc (w2.drew.alloc (.cells #[.int .i64 0, .int .i64 0, .int .i64 0, .string ⟨#[]⟩, .string ⟨#[]⟩, .bool false, .int .i64 0, .int .i64 0, .int .i64 0, .int .i64 0, .int .i64 0, .int .i64 0, .int .i64 0] 45)) (.cells #[.int .i64 0, .int .i64 0, .int .i64 0, .string ⟨#[]⟩, .string ⟨#[]⟩, .bool false, .int .i64 0, .int .i64 0, .int .i64 0, .int .i64 0, .int .i64 0, .int .i64 0, .int .i64 0] 45)))
        have hK2 := Lib.hid (block_below hK2.out (bel_alloc (w2.drew.alloc (.cells #[.int .i64 0, .int .i64 0, .int .i64 0, .string ⟨#[]⟩, .string ⟨#[]⟩, .bool false, .int .i64 0, .int .i64 0, .int .i64 0, .int .i64 0, .int .i64 0, .int .i64 0, .int .i64 0] 45)) (.cells #[.int .i64 0, .int .i64 0, .int .i64 0, .string ⟨#[]⟩, .string ⟨#[]⟩, .bool false, .int .i64 0, .int .i64 0, .int .i64 0, .int .i64 0, .int .i64 0, .int .i64 0, .int .i64 0] 45)))
        have hR := Lib.hid (hR.out.below (bel_alloc (w2.drew.alloc (.cells #[.int .i64 0, .int .i64 0, .int .i64 0, .string ⟨#[]⟩, .string ⟨#[]⟩, .bool false, .int .i64 0, .int .i64 0, .int .i64 0, .int .i64 0, .int .i64 0, .int .i64 0, .int .i64 0] 45)) (.cells #[.int .i64 0, .int .i64 0, .int .i64 0, .string ⟨#[]⟩, .string ⟨#[]⟩, .bool false, .int .i64 0, .int .i64 0, .int .i64 0, .int .i64 0, .int .i64 0, .int .i64 0, .int .i64 0] 45)))
        have hB := Lib.hid (bel_trans hB.out (bel_alloc (w2.drew.alloc (.cells #[.int .i64 0, .int .i64 0, .int .i64 0, .string ⟨#[]⟩, .string ⟨#[]⟩, .bool false, .int .i64 0, .int .i64 0, .int .i64 0, .int .i64 0, .int .i64 0, .int .i64 0, .int .i64 0] 45)) (.cells #[.int .i64 0, .int .i64 0, .int .i64 0, .string ⟨#[]⟩, .string ⟨#[]⟩, .bool false, .int .i64 0, .int .i64 0, .int .i64 0, .int .i64 0, .int .i64 0, .int .i64 0, .int .i64 0] 45)))
        have hS := Lib.hid (show w2.heap.size ≤ ((w2.drew.alloc (.cells #[.int .i64 0, .int .i64 0, .int .i64 0, .string ⟨#[]⟩, .string ⟨#[]⟩, .bool false, .int .i64 0, .int .i64 0, .int .i64 0, .int .i64 0, .int .i64 0, .int .i64 0, .int .i64 0] 45)).alloc (.cells #[.int .i64 0, .int .i64 0, .int .i64 0, .string ⟨#[]⟩, .string ⟨#[]⟩, .bool false, .int .i64 0, .int .i64 0, .int .i64 0, .int .i64 0, .int .i64 0, .int .i64 0, .int .i64 0] 45)).heap.size by rw [sz_alloc]; have := hS.out; omega)
        refine wpAnyH_ready (rs := [5]) (by kernel_rfl) (by simp) ?_
        refine (AllReadyH.cons rfl (fun K hK => ?_) AllReadyH.nil)
        · go_simp
          refine (HE.out dy dm db dk dw dn da ls _ HD.out.1 HD.out.2.1 HD.out.2.2.1 HD.out.2.2.2.1 HD.out.2.2.2.2.1 HD.out.2.2.2.2.2.1 HD.out.2.2.2.2.2.2 ml1 ml2).mono ?_
          rintro e x1 ⟨uy, um, uk, uw, ud, us, ub, HU, rfl, hb1⟩
          go_wp2_with fail
          clear hHeld
          refine hK.out _ _ ?_ (fun hHeld => ?_)
          · exact ⟨block_below hK1.out hb1, block_below hK2.out hb1⟩
          clear hK K
          try simp only [Act.put, List.getElem_toArray, List.getElem_cons_succ, List.getElem_cons_zero, List.setIfInBounds_toArray, List.set_cons_zero, List.set_cons_succ]
          have hK1 := Lib.hid (block_below hK1.out hb1)
          have hK2 := Lib.hid (block_below hK2.out hb1)
          have hR := Lib.hid (hR.out.below hb1)
          have hA := Lib.hid (block_below hA.out hb1)
          have hC := Lib.hid (block_below hC.out hb1)
          have hB := Lib.hid (bel_trans hB.out hb1)
          have hS := Lib.hid (show w2.heap.size ≤ x1.heap.size from Nat.le_trans hS.out hb1.size)
          clear hb1
          refine wpAnyH_ready (rs := [11]) (by kernel_rfl) (by simp) ?_
          refine (AllReadyH.cons rfl (fun K hK => ?_) AllReadyH.nil)
          · go_simp
            refine (HE.out fy fm fb fk fw fn fa ls _ HF.out.1 HF.out.2.1 HF.out.2.2.1 HF.out.2.2.2.1 HF.out.2.2.2.2.1 HF.out.2.2.2.2.2.1 HF.out.2.2.2.2.2.2 ml1 ml2).mono ?_
            rintro e x2 ⟨vy, vm, vk, vw, vd, vs, vb, HV, rfl, hb2⟩
            go_wp2_with fail
            clear hHeld
            refine hK.out _ _ ?_ (fun hHeld => ?_)
            · exact ⟨block_below hK1.out hb2, block_below hK2.out hb2⟩
            clear hK K
            try simp only [Act.put, List.getElem_toArray, List.getElem_cons_succ, List.getElem_cons_zero, List.setIfInBounds_toArray, List.set_cons_zero, List.set_cons_succ]
            have hK1 := Lib.hid (block_below hK1.out hb2)
            have hK2 := Lib.hid (block_below hK2.out hb2)
            have hR := Lib.hid (hR.out.below hb2)
            have hA := Lib.hid (block_below hA.out hb2)
            have hC := Lib.hid (block_below hC.out hb2)
            have hB := Lib.hid (bel_trans hB.out hb2)
            have hS := Lib.hid (show w2.heap.size ≤ x2.heap.size from Nat.le_trans hS.out hb2.size)
            clear hb2
            refine wpAnyH_ready (rs := [14]) (by kernel_rfl) (by simp) ?_
            refine (AllReadyH.cons rfl (fun K hK => ?_) AllReadyH.nil)
            · rw [if_pos (by rfl)]
              refine wp_store_mid _ _ _ rfl (w2.heap.size + 1) 0 #[.int .i64 o, .int .i64 q, .int .i64 s, .string st, .string ⟨#[88]⟩, .bool true, .int .i64 uy, .int .i64 um, .int .i64 uk, .int .i64 uw, .int .i64 ud, .int .i64 us, .int .i64 ub] rfl rfl (there13 hA.out rfl) (by kernel_rfl) (by simp [Value.oneCell']) ?_
              have hn1 := Lib.hid (show W.heap.size ≠ (w2.heap.size + 1) by have := hlt2.out; have := hloB.out; omega)
              have hn2 := Lib.hid (show W.heap.size + 1 ≠ (w2.heap.size + 1) by have := hlt2.out; have := hloB.out; omega)
              clear hHeld
              refine hK.out _ _ ?_ (fun hHeld => ?_)
              · exact ⟨block_setCells hK1.out hn1.out, block_setCells hK2.out hn2.out⟩
              clear hK K
              try simp only [Act.put, List.getElem_toArray, List.getElem_cons_succ, List.getElem_cons_zero, List.setIfInBounds_toArray, List.set_cons_zero, List.set_cons_succ]
              have hK1 := Lib.hid (block_setCells (o := 0) (l := [.int .i64 o, .int .i64 q, .int .i64 s, .string st, .string ⟨#[88]⟩, .bool true, .int .i64 uy, .int .i64 um, .int .i64 uk, .int .i64 uw, .int .i64 ud, .int .i64 us, .int .i64 ub]) hK1.out hn1.out)
              have hK2 := Lib.hid (block_setCells (o := 0) (l := [.int .i64 o, .int .i64 q, .int .i64 s, .string st, .string ⟨#[88]⟩, .bool true, .int .i64 uy, .int .i64 um, .int .i64 uk, .int .i64 uw, .int .i64 ud, .int .i64 us, .int .i64 ub]) hK2.out hn2.out)
              have hR := Lib.hid (rul_setCells (o := 0) (l := [.int .i64 o, .int .i64 q, .int .i64 s, .string st, .string ⟨#[88]⟩, .bool true, .int .i64 uy, .int .i64 um, .int .i64 uk, .int .i64 uw, .int .i64 ud, .int .i64 us, .int .i64 ub]) hR.out hloB.out hRg.out)
              have hC := Lib.hid (block_setCells (o := 0) (l := [.int .i64 o, .int .i64 q, .int .i64 s, .string st, .string ⟨#[88]⟩, .bool true, .int .i64 uy, .int .i64 um, .int .i64 uk, .int .i64 uw, .int .i64 ud, .int .i64 us, .int .i64 ub]) hC.out hne.out.symm)
              have hA := Lib.hid (set13c ([.int .i64 o, .int .i64 q, .int .i64 s, .string st, .string ⟨#[88]⟩, .bool true, .int .i64 uy, .int .i64 um, .int .i64 uk, .int .i64 uw, .int .i64 ud, .int .i64 us, .int .i64 ub]) rfl hA.out rfl)
              have hB := Lib.hid (bel_setCells (o := 0) (l := [.int .i64 o, .int .i64 q, .int .i64 s, .string st, .string ⟨#[88]⟩, .bool true, .int .i64 uy, .int .i64 um, .int .i64 uk, .int .i64 uw, .int .i64 ud, .int .i64 us, .int .i64 ub]) hB.out hbl.out)
              clear hn1 hn2
              generalize World.setCells _ _ _ _ = y14 at hA hC hB hK1 hK2 hR hHeld ⊢
              refine wpAnyH_ready (rs := [15]) (by kernel_rfl) (by simp) ?_
              refine (AllReadyH.cons rfl (fun K hK => ?_) AllReadyH.nil)
              · rw [if_pos (by rfl)]
                refine wp_store_mid _ _ _ rfl w2.heap.size 0 #[.int .i64 o, .int .i64 q, .int .i64 s, .string st, .string ⟨#[88]⟩, .bool true, .int .i64 vy, .int .i64 vm, .int .i64 vk, .int .i64 vw, .int .i64 vd, .int .i64 vs, .int .i64 vb] rfl rfl (there13 hC.out rfl) (by kernel_rfl) (by simp [Value.oneCell']) ?_
                have hn1 := Lib.hid (show W.heap.size ≠ w2.heap.size by have := hlt2.out; have := hloC.out; omega)
                have hn2 := Lib.hid (show W.heap.size + 1 ≠ w2.heap.size by have := hlt2.out; have := hloC.out; omega)
                clear hHeld
                refine hK.out _ _ ?_ (fun hHeld => ?_)
                · exact ⟨block_setCells hK1.out hn1.out, block_setCells hK2.out hn2.out⟩
                clear hK K
                try simp only [Act.put, List.getElem_toArray, List.getElem_cons_succ, List.getElem_cons_zero, List.setIfInBounds_toArray, List.set_cons_zero, List.set_cons_succ]
                have hK1 := Lib.hid (block_setCells (o := 0) (l := [.int .i64 o, .int .i64 q, .int .i64 s, .string st, .string ⟨#[88]⟩, .bool true, .int .i64 vy, .int .i64 vm, .int .i64 vk, .int .i64 vw, .int .i64 vd, .int .i64 vs, .int .i64 vb]) hK1.out hn1.out)
                have hK2 := Lib.hid (block_setCells (o := 0) (l := [.int .i64 o, .int .i64 q, .int .i64 s, .string st, .string ⟨#[88]⟩, .bool true, .int .i64 vy, .int .i64 vm, .int .i64 vk, .int .i64 vw, .int .i64 vd, .int .i64 vs, .int .i64 vb]) hK2.out hn2.out)
                have hR := Lib.hid (rul_setCells (o := 0) (l := [.int .i64 o, .int .i64 q, .int .i64 s, .string st, .string ⟨#[88]⟩, .bool true, .int .i64 vy, .int .i64 vm, .int .i64 vk, .int .i64 vw, .int .i64 vd, .int .i64 vs, .int .i64 vb]) hR.out hloC.out hRg.out)
                have hA := Lib.hid (block_setCells (o := 0) (l := [.int .i64 o, .int .i64 q, .int .i64 s, .string st, .string ⟨#[88]⟩, .bool true, .int .i64 vy, .int .i64 vm, .int .i64 vk, .int .i64 vw, .int .i64 vd, .int .i64 vs, .int .i64 vb]) hA.out hne.out)
                have hC := Lib.hid (set13c ([.int .i64 o, .int .i64 q, .int .i64 s, .string st, .string ⟨#[88]⟩, .bool true, .int .i64 vy, .int .i64 vm, .int .i64 vk, .int .i64 vw, .int .i64 vd, .int .i64 vs, .int .i64 vb]) rfl hC.out rfl)
                have hB := Lib.hid (bel_setCells (o := 0) (l := [.int .i64 o, .int .i64 q, .int .i64 s, .string st, .string ⟨#[88]⟩, .bool true, .int .i64 vy, .int .i64 vm, .int .i64 vk, .int .i64 vw, .int .i64 vd, .int .i64 vs, .int .i64 vb]) hB.out hcl.out)
                clear hn1 hn2
                generalize World.setCells _ _ _ _ = y15 at hA hC hB hK1 hK2 hR hHeld ⊢
                refine wpAnyH_done (by kernel_rfl) ?_ _
                clear hHeld hK1 hK2
                go_wp2_with fail
                go_meet
                case rel => exact ⟨(w2.heap.size + 1), w2.heap.size, uy, um, uk, uw, ud, us, ub, vy, vm, vk, vw, vd, vs, vb, rfl, rfl, hB, hR, hA, hC, HU, HV⟩
  case rest =>
    obtain ⟨B, C, uy, um, uk, uw, ud, us, ub, vy, vm, vk, vw, vd, vs, vb, rfl, rfl, HB, HR, HA, HC, HU, HV⟩ := hcut
    clear HK1 HK2 hlt2 hRg HD HF HE
    obtain ⟨L, hL⟩ : ∃ L, L = Lq q ls := ⟨_, rfl⟩
    rw [← hL] at HU HV
    have HLL := Lib.hid (show L = Lq q (leastL rs) by rw [hL, HL.out])
    obtain ⟨x, cx, hx⟩ : ∃ x c, on uy um uk uw ud = (x, c) := ⟨_, _, rfl⟩
    obtain ⟨z, cz, hz⟩ : ∃ x c, on vy vm vk vw vd = (x, c) := ⟨_, _, rfl⟩
    obtain ⟨-, L1, L2, uy1, uy2, -, -, x1, x2, us1, us2⟩ := unt_known HU.out hx
    obtain ⟨-, -, -, vy1, vy2, -, -, z1, z2, vs1, vs2⟩ := unt_known HV.out hz
    obtain ⟨N, hN⟩ : ∃ N, untN true uy um uk uw ud us ub L = N := ⟨_, rfl⟩
    obtain ⟨M, hM⟩ : ∃ M, untN true vy vm vk vw vd vs vb L = M := ⟨_, rfl⟩
    obtain ⟨N1, N2⟩ := unt_nb hN hx x1 x2 us1 us2 ⟨L1, L2⟩
    obtain ⟨M1, M2⟩ := unt_nb hM hz z1 z2 vs1 vs2 ⟨L1, L2⟩
    have HN := Lib.hid hN
    have HM := Lib.hid hM
    clear hx hz hN hM x1 x2 us1 us2 z1 z2 vs1 vs2
    rcases (show q = 2 ∨ q ≠ 2 by omega) with rfl | hq2
    · rw [Lq_two] at hL
      subst hL
      have c0 := cellB HA.out (i := 0) rfl
      have c1 := cellB HA.out (i := 1) rfl
      have c2 := cellB HA.out (i := 2) rfl
      have c3 := cellB HA.out (i := 3) rfl
      have c4 := cellB HA.out (i := 4) rfl
      have c5 := cellB HA.out (i := 5) rfl
      have c6 := cellB HA.out (i := 6) rfl
      have c7 := cellB HA.out (i := 7) rfl
      have c8 := cellB HA.out (i := 8) rfl
      have c9 := cellB HA.out (i := 9) rfl
      have c10 := cellB HA.out (i := 10) rfl
      have c11 := cellB HA.out (i := 11) rfl
      have c12 := cellB HA.out (i := 12) rfl
      have d0 := cellB HC.out (i := 0) rfl
      have d1 := cellB HC.out (i := 1) rfl
      have d2 := cellB HC.out (i := 2) rfl
      have d3 := cellB HC.out (i := 3) rfl
      have d4 := cellB HC.out (i := 4) rfl
      have d5 := cellB HC.out (i := 5) rfl
      have d6 := cellB HC.out (i := 6) rfl
      have d7 := cellB HC.out (i := 7) rfl
      have d8 := cellB HC.out (i := 8) rfl
      have d9 := cellB HC.out (i := 9) rfl
      have d10 := cellB HC.out (i := 10) rfl
      have d11 := cellB HC.out (i := 11) rfl
      have d12 := cellB HC.out (i := 12) rfl
      go_wp2_with fail
      refine (untNom_any true uy um uk uw ud us ub L _ (by exact HT.out.below HB.out) (by omega) (by omega)).mono ?_
      intro e w4 hq; obtain ⟨rfl, hb⟩ := NomU.to HN.out HU.out _ _ hq; clear hq
      have HA := Lib.hid (block_below HA.out hb)
      have HC := Lib.hid (block_below HC.out hb)
      have HB := Lib.hid (bel_trans HB.out hb)
      have HR := Lib.hid (Rul.below HR.out hb)
      clear hb c0 c1 c2 c3 c4 c5 c6 c7 c8 c9 c10 c11 c12 d0 d1 d2 d3 d4 d5 d6 d7 d8 d9 d10 d11 d12
      have d0 := cellB HC.out (i := 0) rfl
      have d1 := cellB HC.out (i := 1) rfl
      have d2 := cellB HC.out (i := 2) rfl
      have d3 := cellB HC.out (i := 3) rfl
      have d4 := cellB HC.out (i := 4) rfl
      have d5 := cellB HC.out (i := 5) rfl
      have d6 := cellB HC.out (i := 6) rfl
      have d7 := cellB HC.out (i := 7) rfl
      have d8 := cellB HC.out (i := 8) rfl
      have d9 := cellB HC.out (i := 9) rfl
      have d10 := cellB HC.out (i := 10) rfl
      have d11 := cellB HC.out (i := 11) rfl
      have d12 := cellB HC.out (i := 12) rfl
      go_wp2_with fail
      refine (untNom_any true vy vm vk vw vd vs vb L _ (by exact HT.out.below HB.out) (by omega) (by omega)).mono ?_
      intro e w5 hq; obtain ⟨rfl, hb⟩ := NomU.to HM.out HV.out _ _ hq; clear hq
      have HA := Lib.hid (block_below HA.out hb)
      have HC := Lib.hid (block_below HC.out hb)
      have HB := Lib.hid (bel_trans HB.out hb)
      have HR := Lib.hid (Rul.below HR.out hb)
      clear hb d0 d1 d2 d3 d4 d5 d6 d7 d8 d9 d10 d11 d12
      have c0 := cellB HA.out (i := 0) rfl
      have c1 := cellB HA.out (i := 1) rfl
      have c2 := cellB HA.out (i := 2) rfl
      have c3 := cellB HA.out (i := 3) rfl
      have c4 := cellB HA.out (i := 4) rfl
      have c5 := cellB HA.out (i := 5) rfl
      have c6 := cellB HA.out (i := 6) rfl
      have c7 := cellB HA.out (i := 7) rfl
      have c8 := cellB HA.out (i := 8) rfl
      have c9 := cellB HA.out (i := 9) rfl
      have c10 := cellB HA.out (i := 10) rfl
      have c11 := cellB HA.out (i := 11) rfl
      have c12 := cellB HA.out (i := 12) rfl
      go_wp2_with fail
      refine (HI.out uy um uk uw ud us ub L _ rs sv _ (by exact HT.out.below HB.out) (by exact HR.out) HMP.out HLL.out HU.out).mono ?_
      rw [HN.out]
      rintro e w6 ⟨zx, hzx, rfl, hb⟩
      obtain ⟨zx1, zx2⟩ := hzx.out
      have HC := Lib.hid (block_below HC.out hb)
      have HB := Lib.hid (bel_trans HB.out hb)
      have HR := Lib.hid (Rul.below HR.out hb)
      clear hb hzx c0 c1 c2 c3 c4 c5 c6 c7 c8 c9 c10 c11 c12
      have d0 := cellB HC.out (i := 0) rfl
      have d1 := cellB HC.out (i := 1) rfl
      have d2 := cellB HC.out (i := 2) rfl
      have d3 := cellB HC.out (i := 3) rfl
      have d4 := cellB HC.out (i := 4) rfl
      have d5 := cellB HC.out (i := 5) rfl
      have d6 := cellB HC.out (i := 6) rfl
      have d7 := cellB HC.out (i := 7) rfl
      have d8 := cellB HC.out (i := 8) rfl
      have d9 := cellB HC.out (i := 9) rfl
      have d10 := cellB HC.out (i := 10) rfl
      have d11 := cellB HC.out (i := 11) rfl
      have d12 := cellB HC.out (i := 12) rfl
      go_wp2_with fail
      refine (HI.out vy vm vk vw vd vs vb L _ rs sv _ (by exact HT.out.below HB.out) (by exact HR.out) HMP.out HLL.out HV.out).mono ?_
      rw [HM.out]
      rintro e w7 ⟨zy, hzy, rfl, hb⟩
      obtain ⟨zy1, zy2⟩ := hzy.out
      have HB := Lib.hid (bel_trans HB.out hb)
      clear hb hzy d0 d1 d2 d3 d4 d5 d6 d7 d8 d9 d10 d11 d12
      rcases (show 129600 < M - N ∨ 129600 < N - M ∨ (M - N ≤ 129600 ∧ N - M ≤ 129600) by omega) with hc | hc | ⟨hc, hc'⟩
      · have hd1 : decide (M - N ≤ 129600) = false := by simp; omega
        have hd2 : ¬ (M - N ≤ 129600) := by omega
        have hd3 : zx < zy := by omega
        have hd4 : N - M ≤ 129600 := by omega
        go_wp2_with fail
        refine (works_any _ (by exact HT.out.below HB.out)).mono ?_
        rintro e w8 ⟨rfl, hb⟩
        have HB := Lib.hid (bel_trans HB.out hb)
        clear hb
        go_wp2_with fail
        go_ret
        exact ⟨rfl, HB.out⟩
      · have hd1 : decide (N - M ≤ 129600) = false := by simp; omega
        have hd2 : ¬ (N - M ≤ 129600) := by omega
        have hd3 : zy < zx := by omega
        have hd4 : M - N ≤ 129600 := by omega
        go_wp2_with fail
        refine (works_any _ (by exact HT.out.below HB.out)).mono ?_
        rintro e w8 ⟨rfl, hb⟩
        have HB := Lib.hid (bel_trans HB.out hb)
        clear hb
        go_wp2_with fail
        go_ret
        exact ⟨rfl, HB.out⟩
      · go_wp2_with fail
        refine (works_any _ (by exact HT.out.below HB.out)).mono ?_
        rintro e w8 ⟨rfl, hb⟩
        have HB := Lib.hid (bel_trans HB.out hb)
        clear hb
        go_wp2_with fail
        go_ret
        exact ⟨rfl, HB.out⟩
    · rw [Lq_ne hq2] at hL
      subst hL
      have hq3 : (q == 2) = false := by simp [hq2]
      have hq4 : (q != 2) = true := by simp [hq2]
      have c0 := cellB HA.out (i := 0) rfl
      have c1 := cellB HA.out (i := 1) rfl
      have c2 := cellB HA.out (i := 2) rfl
      have c3 := cellB HA.out (i := 3) rfl
      have c4 := cellB HA.out (i := 4) rfl
      have c5 := cellB HA.out (i := 5) rfl
      have c6 := cellB HA.out (i := 6) rfl
      have c7 := cellB HA.out (i := 7) rfl
      have c8 := cellB HA.out (i := 8) rfl
      have c9 := cellB HA.out (i := 9) rfl
      have c10 := cellB HA.out (i := 10) rfl
      have c11 := cellB HA.out (i := 11) rfl
      have c12 := cellB HA.out (i := 12) rfl
      have d0 := cellB HC.out (i := 0) rfl
      have d1 := cellB HC.out (i := 1) rfl
      have d2 := cellB HC.out (i := 2) rfl
      have d3 := cellB HC.out (i := 3) rfl
      have d4 := cellB HC.out (i := 4) rfl
      have d5 := cellB HC.out (i := 5) rfl
      have d6 := cellB HC.out (i := 6) rfl
      have d7 := cellB HC.out (i := 7) rfl
      have d8 := cellB HC.out (i := 8) rfl
      have d9 := cellB HC.out (i := 9) rfl
      have d10 := cellB HC.out (i := 10) rfl
      have d11 := cellB HC.out (i := 11) rfl
      have d12 := cellB HC.out (i := 12) rfl
      go_wp2_with fail
      refine (untNom_any true uy um uk uw ud us ub 0 _ (by exact HT.out.below HB.out) (by omega) (by omega)).mono ?_
      intro e w4 hq; obtain ⟨rfl, hb⟩ := NomU.to HN.out HU.out _ _ hq; clear hq
      have HA := Lib.hid (block_below HA.out hb)
      have HC := Lib.hid (block_below HC.out hb)
      have HB := Lib.hid (bel_trans HB.out hb)
      have HR := Lib.hid (Rul.below HR.out hb)
      clear hb c0 c1 c2 c3 c4 c5 c6 c7 c8 c9 c10 c11 c12 d0 d1 d2 d3 d4 d5 d6 d7 d8 d9 d10 d11 d12
      have d0 := cellB HC.out (i := 0) rfl
      have d1 := cellB HC.out (i := 1) rfl
      have d2 := cellB HC.out (i := 2) rfl
      have d3 := cellB HC.out (i := 3) rfl
      have d4 := cellB HC.out (i := 4) rfl
      have d5 := cellB HC.out (i := 5) rfl
      have d6 := cellB HC.out (i := 6) rfl
      have d7 := cellB HC.out (i := 7) rfl
      have d8 := cellB HC.out (i := 8) rfl
      have d9 := cellB HC.out (i := 9) rfl
      have d10 := cellB HC.out (i := 10) rfl
      have d11 := cellB HC.out (i := 11) rfl
      have d12 := cellB HC.out (i := 12) rfl
      go_wp2_with fail
      refine (untNom_any true vy vm vk vw vd vs vb 0 _ (by exact HT.out.below HB.out) (by omega) (by omega)).mono ?_
      intro e w5 hq; obtain ⟨rfl, hb⟩ := NomU.to HM.out HV.out _ _ hq; clear hq
      have HA := Lib.hid (block_below HA.out hb)
      have HC := Lib.hid (block_below HC.out hb)
      have HB := Lib.hid (bel_trans HB.out hb)
      have HR := Lib.hid (Rul.below HR.out hb)
      clear hb d0 d1 d2 d3 d4 d5 d6 d7 d8 d9 d10 d11 d12
      have c0 := cellB HA.out (i := 0) rfl
      have c1 := cellB HA.out (i := 1) rfl
      have c2 := cellB HA.out (i := 2) rfl
      have c3 := cellB HA.out (i := 3) rfl
      have c4 := cellB HA.out (i := 4) rfl
      have c5 := cellB HA.out (i := 5) rfl
      have c6 := cellB HA.out (i := 6) rfl
      have c7 := cellB HA.out (i := 7) rfl
      have c8 := cellB HA.out (i := 8) rfl
      have c9 := cellB HA.out (i := 9) rfl
      have c10 := cellB HA.out (i := 10) rfl
      have c11 := cellB HA.out (i := 11) rfl
      have c12 := cellB HA.out (i := 12) rfl
      go_wp2_with fail
      refine (HI.out uy um uk uw ud us ub 0 _ rs sv _ (by exact HT.out.below HB.out) (by exact HR.out) HMP.out HLL.out HU.out).mono ?_
      rw [HN.out]
      rintro e w6 ⟨zx, hzx, rfl, hb⟩
      obtain ⟨zx1, zx2⟩ := hzx.out
      have HC := Lib.hid (block_below HC.out hb)
      have HB := Lib.hid (bel_trans HB.out hb)
      have HR := Lib.hid (Rul.below HR.out hb)
      clear hb hzx c0 c1 c2 c3 c4 c5 c6 c7 c8 c9 c10 c11 c12
      have d0 := cellB HC.out (i := 0) rfl
      have d1 := cellB HC.out (i := 1) rfl
      have d2 := cellB HC.out (i := 2) rfl
      have d3 := cellB HC.out (i := 3) rfl
      have d4 := cellB HC.out (i := 4) rfl
      have d5 := cellB HC.out (i := 5) rfl
      have d6 := cellB HC.out (i := 6) rfl
      have d7 := cellB HC.out (i := 7) rfl
      have d8 := cellB HC.out (i := 8) rfl
      have d9 := cellB HC.out (i := 9) rfl
      have d10 := cellB HC.out (i := 10) rfl
      have d11 := cellB HC.out (i := 11) rfl
      have d12 := cellB HC.out (i := 12) rfl
      go_wp2_with fail
      refine (HI.out vy vm vk vw vd vs vb 0 _ rs sv _ (by exact HT.out.below HB.out) (by exact HR.out) HMP.out HLL.out HV.out).mono ?_
      rw [HM.out]
      rintro e w7 ⟨zy, hzy, rfl, hb⟩
      obtain ⟨zy1, zy2⟩ := hzy.out
      have HB := Lib.hid (bel_trans HB.out hb)
      clear hb hzy d0 d1 d2 d3 d4 d5 d6 d7 d8 d9 d10 d11 d12
      rcases (show 129600 < M - N ∨ 129600 < N - M ∨ (M - N ≤ 129600 ∧ N - M ≤ 129600) by omega) with hc | hc | ⟨hc, hc'⟩
      · have hd1 : decide (M - N ≤ 129600) = false := by simp; omega
        have hd2 : ¬ (M - N ≤ 129600) := by omega
        have hd3 : zx < zy := by omega
        have hd4 : N - M ≤ 129600 := by omega
        go_wp2_with fail
        refine (works_any _ (by exact HT.out.below HB.out)).mono ?_
        rintro e w8 ⟨rfl, hb⟩
        have HB := Lib.hid (bel_trans HB.out hb)
        clear hb
        go_wp2_with fail
        go_ret
        exact ⟨rfl, HB.out⟩
      · have hd1 : decide (N - M ≤ 129600) = false := by simp; omega
        have hd2 : ¬ (N - M ≤ 129600) := by omega
        have hd3 : zy < zx := by omega
        have hd4 : M - N ≤ 129600 := by omega
        go_wp2_with fail
        refine (works_any _ (by exact HT.out.below HB.out)).mono ?_
        rintro e w8 ⟨rfl, hb⟩
        have HB := Lib.hid (bel_trans HB.out hb)
        clear hb
        go_wp2_with fail
        go_ret
        exact ⟨rfl, HB.out⟩
      · go_wp2_with fail
        refine (works_any _ (by exact HT.out.below HB.out)).mono ?_
        rintro e w8 ⟨rfl, hb⟩
        have HB := Lib.hid (bel_trans HB.out hb)
        clear hb
        go_wp2_with fail
        go_ret
        exact ⟨rfl, HB.out⟩

theorem tmod_of (x m : Int) (hm : 0 < m) : ∃ o, x.tmod m = o ∧ -m < o ∧ o < m := ⟨_, rfl, (tmod_bd x m hm).1, (tmod_bd x m hm).2⟩
set_option maxRecDepth 100000 in
theorem untilOrder.untilOrder_walk (W : World) (hL : laidMetH Tryd.prog Rows.untilOrderRow.laid W) (v : Value) {H : Type} {enc : TypeId × Value → H} {base : Nat} {d : DataW H} {p : List MemPlace} (hv : Value.okWide Tryd.prog W .any base 38 v)
    (h : DataW.Trod enc Tryd.prog W 0 (fun _ => true) true 38 v d p) (u : Value) {base2 : Nat} {d2 : DataW H} {p2 : List MemPlace} (hv2 : Value.okWide Tryd.prog W .any base2 38 u)
    (h2 : DataW.Trod enc Tryd.prog W 0 (fun _ => true) true 38 u d2 p2) (q : Int) (wq : (Lit.int .u8 q).wf = true) (o : Int) (wo : (Lit.int .i32 o).wf = true) (s : Int) (ws : (Lit.int .i32 s).wf = true) (v' : Value) {base' : Nat} {d' : DataW H} {p' : List MemPlace} (hv' : Value.okWide Tryd.prog W .any base' 40 v')
    (h' : DataW.Trod enc Tryd.prog W 0 (fun _ => true) true 40 v' d' p') :
    Calls Tryd.prog 6 #[v, u, .int .u8 q, .int .i32 o, .int .i32 s, v'] W fun e w' => e = .returned (.bool true) ∧ Below W.heap.size W w' := by
  obtain ⟨y, m, b, k, w, n, a, rfl, w0, w1, w2, w3, w4, w5, w6⟩ := draft_of hv h
  obtain ⟨y', m', b', k', w', n', a', rfl, z0, z1, z2, z3, z4, z5, z6⟩ := draft_of hv2 h2
  obtain ⟨bs, hD⟩ := drf_of hv' h'
  obtain ⟨q1, q2⟩ := byte_of wq
  obtain ⟨o1, o2⟩ := i32_bd wo
  obtain ⟨s1, s2⟩ := i32_bd ws
  obtain ⟨oo, ho, oo1, oo2⟩ := tmod_of o 21600 (by omega)
  obtain ⟨ss, hs, ss1, ss2⟩ := tmod_of s 10800 (by omega)
  have hT : Tabs W := ⟨tab_of hL, ktab_of hL⟩
  have hc : q % 3 = 0 ∨ q % 3 = 1 ∨ q % 3 = 2 := by omega
  rcases hc with hc | hc | hc
  · exact untOrder_core q o s 0 oo 0 ⟨#[]⟩ (eraFam0 q o s oo 0 q1 q2 o1 o2 s1 s2 hc ho oo1 oo2) (instFam0 oo 0 oo1 oo2 (by decide) (by decide)) y m b k w n a y' m' b' k' w' n' a' v' bs W hT hD w0 w1 w2 w3 w4 w5 w6 z0 z1 z2 z3 z4 z5 z6
  · exact untOrder_core q o s 1 oo ss ⟨#[]⟩ (eraFam1 q o s oo ss q1 q2 o1 o2 s1 s2 hc ho oo1 oo2 hs ss1 ss2) (instFam1 oo ss oo1 oo2 ss1 ss2) y m b k w n a y' m' b' k' w' n' a' v' bs W hT hD w0 w1 w2 w3 w4 w5 w6 z0 z1 z2 z3 z4 z5 z6
  · exact untOrder_core q o s 2 oo 0 ⟨#[82]⟩ (eraFam2 q o s oo 0 q1 q2 o1 o2 s1 s2 hc ho oo1 oo2) (instFam2 oo 0 oo1 oo2 (by decide) (by decide)) y m b k w n a y' m' b' k' w' n' a' v' bs W hT hD w0 w1 w2 w3 w4 w5 w6 z0 z1 z2 z3 z4 z5 z6
end Go.Proofs.YtoaimfadccepiaaDoor
