/-
  The walk of the law ErasShifted.
-/
import Derived.Test.YtdppmeeobpbfnaaDoorErShL
namespace Go.Proofs.YtdppmeeobpbfnaaDoor
open Go.RowKit Cv
set_option linter.unusedVariables false
set_option linter.unusedSimpArgs false

namespace Cv
/-- two sources of one draft, in blocks of their own -/
def TwoMade (dl : _root_.List (_root_.List Int)) (zl : _root_.List (_root_.List De)) (W : World) (s m : Value) (w : World) : Prop :=
  ∃ (bS bM B1 B2 : Nat) (rv zv rv2 zv2 : Value) (la la2 : Option Addr) (ln lc ln2 lc2 : Nat) (rs : _root_.List Ru) (ps ps2 : _root_.List (ByteArray × Value)),
    s = .pointer (some ⟨bS, 0, none⟩) ∧ m = .pointer (some ⟨bM, 0, none⟩) ∧ bS ≠ bM ∧ (W.heap.size ≤ B1 ∧ W.heap.size ≤ B2) ∧
    w.heap[bS]? = some (.cells #[rv, zv, .slice la ln lc, .slice none 0 0] 41) ∧ w.heap[bM]? = some (.cells #[rv2, zv2, .slice la2 ln2 lc2, .slice none 0 0] 41) ∧ RulesV dl dl.length rs ∧
    w.ownsRow B1 56 11 rv rs.length (flatRu rs) ∧ OwnZp B1 zv (zonesUp (dl.length : Int) zl zl.length) ps w ∧ w.ownsRow B2 56 11 rv2 rs.length (flatRu rs) ∧ OwnZp B2 zv2 (zonesUp (dl.length : Int) zl zl.length) ps2 w ∧
    (∀ b, rv.ownBlock = some b → b < B2) ∧ (∀ b, zv.ownBlock = some b → b < B2) ∧ (∀ (i : Nat) (p : ByteArray × Value) (q : Nat), ps[i]? = some p → p.2.ownBlock = some q → q < B2) ∧ Below W.heap.size W w
theorem row4u {V : World} {b : Nat} {t : TypeId} {a0 a1 a2 a3 : Value} (h : V.heap[b]? = some (.cells #[a0, a1, a2, a3] t)) : V.cell? ⟨b, 0, none⟩ = some a0 ∧ V.cell? ⟨b, 1, none⟩ = some a1 ∧ V.cell? ⟨b, 2, none⟩ = some a2 ∧ V.cell? ⟨b, 3, none⟩ = some a3 ∧ V.frozen? ⟨b, 0, none⟩ = false ∧ V.frozen? ⟨b, 1, none⟩ = false ∧ V.frozen? ⟨b, 2, none⟩ = false ∧ V.frozen? ⟨b, 3, none⟩ = false :=
  ⟨cellB h rfl, cellB h rfl, cellB h rfl, cellB h rfl, frzB h 0, frzB h 1, frzB h 2, frzB h 3⟩
theorem own_ne {w : World} {base size n b : Nat} {t t' : TypeId} {v : Value} {xs : _root_.List Value} {cs : Array Value} (h : w.ownsRow base t size v n xs) (hb : w.heap[b]? = some (.cells cs t')) (ht : t ≠ t') : v.ownBlock ≠ some b := fun e => by
  obtain ⟨_, cur, hc⟩ := own_typ h b e
  rw [hb] at hc
  injection hc with hc
  injection hc with _ h2
  exact ht h2.symm
theorem own_src {A B : World} {base size n b : Nat} {t : TypeId} {v : Value} {xs : _root_.List Value} {cs : Array Value} (h : A.ownsRow base t size v n xs) (hg : A.grownBy B (some b)) (hb : A.heap[b]? = some (.cells cs 41)) (ht : t ≠ 41) : B.ownsRow base t size v n xs := h.kept hg (.inr (own_ne h hb ht))
theorem OwnZp.src {base b : Nat} {v : Value} {zs : _root_.List (ByteArray × _root_.List Er)} {ps : _root_.List (ByteArray × Value)} {A B : World} {cs : Array Value} (h : OwnZp base v zs ps A) (hg : A.grownBy B (some b)) (hb : A.heap[b]? = some (.cells cs 41)) : OwnZp base v zs ps B := by
  obtain ⟨h1, h2, h3, h4⟩ := h
  exact ⟨h1, own_src h2 hg hb (by decide), fun i z hz => by obtain ⟨p, q1, q2, q3⟩ := h3 i z hz; exact ⟨p, q1, q2, own_src q3 hg hb (by decide)⟩, h4⟩
theorem own_belN {A B : World} {base size n b : Nat} {t : TypeId} {v : Value} {xs : _root_.List Value} (h : A.ownsRow base t size v n xs) (hl : ∀ q, v.ownBlock = some q → q < b) (hb : Below b A B) : B.ownsRow base t size v n xs := by
  obtain ⟨h1, h0 | ⟨g, cap, cur, e, h2, h3, h4⟩⟩ := h
  · exact ⟨h1, .inl h0⟩
  · subst e
    exact ⟨h1, .inr ⟨g, cap, cur, rfl, h2, (hb.block g (hl g rfl)).trans h3, h4⟩⟩
theorem OwnZp.belN {base b : Nat} {v : Value} {zs : _root_.List (ByteArray × _root_.List Er)} {ps : _root_.List (ByteArray × Value)} {A B : World} (h : OwnZp base v zs ps A) (hl : ∀ q, v.ownBlock = some q → q < b) (hp : ∀ (i : Nat) (p : ByteArray × Value) (q : Nat), ps[i]? = some p → p.2.ownBlock = some q → q < b) (hb : Below b A B) : OwnZp base v zs ps B := by
  obtain ⟨h1, h2, h3, h4⟩ := h
  exact ⟨h1, own_belN h2 hl hb, fun i z hz => by obtain ⟨p, q1, q2, q3⟩ := h3 i z hz; exact ⟨p, q1, q2, own_belN q3 (fun q hq => hp i p q q1 hq) hb⟩, h4⟩
theorem own_keptT {A B : World} {base size n : Nat} {t : TypeId} {v : Value} {xs : _root_.List Value} (h : A.ownsRow base t size v n xs) (hk : KeptT A B) (ht : t ≠ 60) : B.ownsRow base t size v n xs := by
  obtain ⟨h1, h0 | ⟨g, cap, cur, e, h2, h3, h4⟩⟩ := h
  · exact ⟨h1, .inl h0⟩
  · exact ⟨h1, .inr ⟨g, cap, cur, e, h2, hk g cur t ht h3, h4⟩⟩
theorem OwnZp.typ {base b : Nat} {v : Value} {zs : _root_.List (ByteArray × _root_.List Er)} {ps : _root_.List (ByteArray × Value)} {A B : World} {cs : Array Value} {t' : TypeId} (h : OwnZp base v zs ps A) (hg : A.grownBy B (some b)) (hb : A.heap[b]? = some (.cells cs t')) (h5 : 45 ≠ t') (h6 : 60 ≠ t') : OwnZp base v zs ps B := by
  obtain ⟨h1, h2, h3, h4⟩ := h
  exact ⟨h1, h2.kept hg (.inr (own_ne h2 hb h5)), fun i z hz => by obtain ⟨p, q1, q2, q3⟩ := h3 i z hz; exact ⟨p, q1, q2, q3.kept hg (.inr (own_ne q3 hb h6))⟩, h4⟩
theorem rulesV_ok {dl : _root_.List (_root_.List Int)} {k : Nat} {rs : _root_.List Ru} (h : RulesV dl k rs) : ∀ r ∈ rs, RuOk r := by
  obtain ⟨L, hl, hf, ha⟩ := h
  subst hf
  intro r hr
  obtain ⟨l, hl1, hl2⟩ := _root_.List.mem_flatten.1 hr
  obtain ⟨i, hi⟩ := _root_.List.mem_iff_getElem?.1 hl1
  obtain ⟨_, _, _, _, _, _, hp, _, _⟩ := ha i l hi
  exact (hp.each r hl2).ok
theorem ruOk_bd {r : Ru} (h : RuOk r) : (-20000 ≤ r.save ∧ r.save ≤ 20000) ∧ (-200000 ≤ r.sec ∧ r.sec ≤ 200000) := by
  have := h.save
  have := h.clk
  omega
theorem fR_fits {r : Ru} {n : ByteArray} {x : Int} (h : RuOk r) (hx : -8000 ≤ x ∧ x ≤ 8000) : (fR n x r).fits := by
  obtain ⟨a1, a2, a3, a4, a5, a6, a7, a8, a9⟩ := h.fits
  have h1 := h.save
  have h2 := h.clk
  unfold fR
  split
  · refine ⟨a1, a2, a3, a4, a5, a6, ?_, a8, by show fit (r.save + x); unfold fit; omega⟩
    show fit (if r.base = 1 then r.sec - x else r.sec)
    unfold fit
    split <;> omega
  · exact ⟨a1, a2, a3, a4, a5, a6, a7, a8, a9⟩
theorem er_sec (x : De) (f g : Bool) (S y : Int) : 0 ≤ (x.er f g S y).sec ∧ (x.er f g S y).sec ≤ 42300 := by
  have ha := tmod_bd x.a 24 (by decide)
  show 0 ≤ (if g = true then 900 * (24 + x.a.tmod 24) else 0) ∧ (if g = true then 900 * (24 + x.a.tmod 24) else 0) ≤ 42300
  split <;> omega
theorem zones_bd {S : Nat} {l : _root_.List (_root_.List De)} (hS : 1 ≤ S) (hl : ∀ q ∈ l, q.length ≤ 4) :
    ∀ (nm : ByteArray) (es : _root_.List Er), (nm, es) ∈ zonesUp (S : Int) (normZ l) (normZ l).length → 1 ≤ es.length ∧ es.length ≤ 4 ∧ ∀ e ∈ es, (-60000 ≤ e.off ∧ e.off ≤ 60000) ∧ (-200000 ≤ e.sec ∧ e.sec ≤ 200000) := by
  intro nm es hm
  obtain ⟨i, hi⟩ := _root_.List.mem_iff_getElem?.1 hm
  have hk := (_root_.List.getElem?_eq_some_iff.1 hi).1
  rw [zonesUp_len] at hk
  rw [zonesUp_get hk] at hi
  injection (Option.some.inj hi) with _ he
  subst he
  have hx := _root_.List.getElem?_eq_getElem (l := normZ l) (i := i) hk
  have e : (normZ l).getD i [] = (normZ l)[i] := by rw [_root_.List.getD_eq_getElem?_getD, hx]; rfl
  obtain ⟨b1, b2⟩ := normZ_in hl _ (_root_.List.mem_of_getElem? hx)
  rw [e]
  refine ⟨by unfold ersL; rw [ersUp_len]; exact b1, by unfold ersL; rw [ersUp_len]; exact b2, fun q hq => ?_⟩
  unfold ersL ersUp at hq
  obtain ⟨k, _, rfl⟩ := _root_.List.mem_map.1 hq
  have h1 := (erAt_any (S := S) (normZ l)[i] k hS).off
  have h2 := er_sec (((normZ l)[i]).getD k De0) (decide (k = 0)) (decide (k + 1 < ((normZ l)[i]).length)) (S : Int) (yrs (normZ l)[i] (k + 1))
  have h3 : (erAt (S : Int) (normZ l)[i] k).sec = ((((normZ l)[i]).getD k De0).er (decide (k = 0)) (decide (k + 1 < ((normZ l)[i]).length)) (S : Int) (yrs (normZ l)[i] (k + 1))).sec := rfl
  omega
theorem nmR0 : nmR 0 = ⟨#[82, 48]⟩ := by decide +kernel
end Cv


set_option maxRecDepth 100000 in
set_option maxHeartbeats 32000000 in
theorem erasShifted_core (A1 A2 A3 : Option Addr) (n1 n2 n3 c1 c2 c3 : Nat) (sl : _root_.List (_root_.List Int)) (zr : _root_.List (Nat × _root_.List De)) (ll : _root_.List Int) (W : World) (hT : Tabs W) (hS : RdDs (.slice A1 n1 c1) n1 sl W) (hZ : RdDz (.slice A2 n2 c2) n2 zr W) (hLk : RdDl (.slice A3 n3 c3) n3 ll W) :
    Calls Tryd.prog 5 #[.agg #[.slice A1 n1 c1, .slice A2 n2 c2, .slice A3 n3 c3]] W fun e w' => e = .returned (.bool true) ∧ Below W.heap.size W w' := by
  have HT := Lib.hid hT
  have HB := Lib.hid (bel_alloc W (.cells #[.slice A1 n1 c1, .slice A2 n2 c2, .slice A3 n3 c3] 35))
  have KD := Lib.hid (heap_alloc_new W (.cells #[.slice A1 n1 c1, .slice A2 n2 c2, .slice A3 n3 c3] 35))
  have HZ4 := Lib.hid (rdDz_four hZ)
  have HD3 := Lib.hid (rdDs_three hS); have HE3 := Lib.hid (rdDz_three hZ)
  have HS := Lib.hid (hS.below HB.out); have HZ := Lib.hid (hZ.below HB.out); have HLk := Lib.hid (hLk.below HB.out)
  clear hT hS hZ hLk
  go_enter Tryd.func5, Tryd.ntmps5
  go_upto_region 1 with fail
  generalize W.alloc (.cells #[.slice A1 n1 c1, .slice A2 n2 c2, .slice A3 n3 c3] 35) = wa at *
  go_cut [3, 4] (fun s m w' => ∃ wz : World, wz = w' ∧ TwoMade (normD sl) (normZ (zr.map fun p => p.2)) W s m wz)
  case first =>
    have hbd : Below wa.heap.size wa wa.drew := Below.drew (Below.refl _ _)
    replace HB := Lib.hid (bel_trans HB.out hbd)
    replace KD := Lib.hid (block_below KD.out hbd)
    replace HS := Lib.hid (HS.out.below hbd); replace HZ := Lib.hid (HZ.out.below hbd); replace HLk := Lib.hid (HLk.out.below hbd)
    clear hbd
    go_wp2_with fail
    refine wp_region_held_drew (S := (fun w' => w'.cell? ⟨W.heap.size, 0, none⟩ = some (.slice A1 n1 c1) ∧ w'.cell? ⟨W.heap.size, 1, none⟩ = some (.slice A2 n2 c2) ∧ w'.cell? ⟨W.heap.size, 2, none⟩ = some (.slice A3 n3 c3))) (by kernel_rfl) (by exact ⟨cellB KD.out (i := 0) rfl, cellB KD.out (i := 1) rfl, cellB KD.out (i := 2) rfl⟩) (fun hHeld => ?_)
    refine wpAnyH_take (i := 0) (v := ?_) rfl (by kernel_rfl) (by kernel_rfl) (by kernel_rfl) (fun _ _ _ h => h) (Or.inl ⟨by rfl, ?_⟩) (by assumption) ?_
    rotate_left 1
    · (intro w hSw; (try dsimp only at hSw); first | (go_simp; done) | (go_simp; with_reducible rfl))
    try simp only [Act.put, List.getElem_toArray, List.getElem_cons_succ, List.getElem_cons_zero, List.setIfInBounds_toArray, List.set_cons_zero, List.set_cons_succ]
    refine wpAnyH_take (i := 2) (v := ?_) rfl (by kernel_rfl) (by kernel_rfl) (by kernel_rfl) (fun _ _ _ h => h) (Or.inl ⟨by rfl, ?_⟩) (by assumption) ?_
    rotate_left 1
    · (intro w hSw; (try dsimp only at hSw); first | (go_simp; done) | (go_simp; with_reducible rfl))
    try simp only [Act.put, List.getElem_toArray, List.getElem_cons_succ, List.getElem_cons_zero, List.setIfInBounds_toArray, List.set_cons_zero, List.set_cons_succ]
    generalize wa.drew = w0 at *
    refine wpAnyH_ready (rs := [1, 4, 5]) (by kernel_rfl) (by simp) ?_
    refine AllReadyH.cons rfl (fun K hK => ?_) (AllReadyH.cons rfl (fun K hK => ?_) (AllReadyH.cons rfl (fun K hK => ?_) AllReadyH.nil))
    · rw [if_pos (by rfl)]
      go_simp
      refine (made23_any A1 A2 A3 n1 n2 n3 c1 c2 c3 sl zr ll _ (by exact HS.out) (by exact HZ.out) (by exact HLk.out)).mono ?_
      rintro e w1 ⟨rv1, zv1, la1, ln1, lc1, rs, ps1, rfl, hrv, hro, hzp, hb⟩
      have HV1 := Lib.hid hrv
      have HW1 := Lib.hid HB.out.size
      go_wp2_with fail
      replace HB := Lib.hid (bel_trans HB.out hb)
      replace KD := Lib.hid (block_below KD.out hb)
      replace HS := Lib.hid (HS.out.below hb)
      replace HZ := Lib.hid (HZ.out.below hb)
      replace HLk := Lib.hid (HLk.out.below hb)
      have HR1 := Lib.hid hro
      have HZ1 := Lib.hid hzp
      have hb1s := hb.size
      clear hrv hro hzp hb
      refine hK.out _ _ ⟨cellB KD.out (i := 0) rfl, cellB KD.out (i := 1) rfl, cellB KD.out (i := 2) rfl⟩ (fun hHeld => ?_)
      clear hK K
      try simp only [Act.put, List.getElem_toArray, List.getElem_cons_succ, List.getElem_cons_zero, List.setIfInBounds_toArray, List.set_cons_zero, List.set_cons_succ]
      refine wpAnyH_ready (rs := [3, 4, 5]) (by kernel_rfl) (by simp) ?_
      refine AllReadyH.cons rfl (fun K hK => ?_) (AllReadyH.cons rfl (fun K hK => ?_) (AllReadyH.cons rfl (fun K hK => ?_) AllReadyH.nil))
      · rw [if_pos (by rfl)]
        go_simp
        refine (made23_any A1 A2 A3 n1 n2 n3 c1 c2 c3 sl zr ll _ (by exact HS.out) (by exact HZ.out) (by exact HLk.out)).mono ?_
        rintro e w2 ⟨rv2, zv2, la2, ln2, lc2, rs2, ps2, rfl, hrv, hro, hzp, hb⟩
        obtain rfl := HV1.out.uniq hrv
        have HW2 := Lib.hid HB.out.size
        have HL1 := Lib.hid (fun b h => (HR1.out.lt b h).2)
        have HL2 := Lib.hid (fun b h => (HZ1.out.2.1.lt b h).2)
        have HL3 := Lib.hid HZ1.out.lt
        go_wp2_with fail
        replace HB := Lib.hid (bel_trans HB.out hb)
        replace KD := Lib.hid (block_below KD.out hb)
        replace HS := Lib.hid (HS.out.below hb)
        replace HZ := Lib.hid (HZ.out.below hb)
        replace HLk := Lib.hid (HLk.out.below hb)
        replace HR1 := Lib.hid (own_below17 HR1.out hb)
        replace HZ1 := Lib.hid (HZ1.out.below hb)
        have HR2 := Lib.hid hro
        have HZ2 := Lib.hid hzp
        have hb1s := hb.size
        clear hrv hro hzp hb
        refine hK.out _ _ ⟨cellB KD.out (i := 0) rfl, cellB KD.out (i := 1) rfl, cellB KD.out (i := 2) rfl⟩ (fun hHeld => ?_)
        clear hK K
        try simp only [Act.put, List.getElem_toArray, List.getElem_cons_succ, List.getElem_cons_zero, List.setIfInBounds_toArray, List.set_cons_zero, List.set_cons_succ]
        refine wpAnyH_ready (rs := [4, 5]) (by kernel_rfl) (by simp) ?_
        refine AllReadyH.cons rfl (fun K hK => ?_) (AllReadyH.cons rfl (fun K hK => ?_) AllReadyH.nil)
        · have KDold := KD
          rw [if_pos (by rfl)]
          go_simp
          have hb := bel_alloc w2 (.cells #[.slice none 0 0, .slice none 0 0, .slice none 0 0, .slice none 0 0] 41)
          have KS := Lib.hid (heap_alloc_new w2 (.cells #[.slice none 0 0, .slice none 0 0, .slice none 0 0, .slice none 0 0] 41))
          obtain ⟨bS3, hbe⟩ : ∃ b, b = w2.heap.size := ⟨_, rfl⟩
          replace HB := Lib.hid (bel_trans HB.out hb)
          replace KD := Lib.hid (block_below KD.out hb)
          replace HS := Lib.hid (HS.out.below hb)
          replace HZ := Lib.hid (HZ.out.below hb)
          replace HLk := Lib.hid (HLk.out.below hb)
          replace HR1 := Lib.hid (own_below17 HR1.out hb)
          replace HZ1 := Lib.hid (HZ1.out.below hb)
          replace HR2 := Lib.hid (own_below17 HR2.out hb)
          replace HZ2 := Lib.hid (HZ2.out.below hb)
          have hleKS : W.heap.size < bS3 := by rw [hbe]; exact bk2m KDold.out
          rw [← hbe] at KS ⊢
          clear hbe
          generalize w2.alloc _ = w3 at *
          clear hb KDold
          refine hK.out _ _ ⟨cellB KD.out (i := 0) rfl, cellB KD.out (i := 1) rfl, cellB KD.out (i := 2) rfl⟩ (fun hHeld => ?_)
          clear hK K
          try simp only [Act.put, List.getElem_toArray, List.getElem_cons_succ, List.getElem_cons_zero, List.setIfInBounds_toArray, List.set_cons_zero, List.set_cons_succ]
          refine wpAnyH_ready (rs := [5]) (by kernel_rfl) (by simp) ?_
          refine AllReadyH.cons rfl (fun K hK => ?_) AllReadyH.nil
          have KDold := KD
          have KSold := KS
          rw [if_pos (by rfl)]
          go_simp
          have hb := bel_alloc w3 (.cells #[.slice none 0 0, .slice none 0 0, .slice none 0 0, .slice none 0 0] 41)
          have KM := Lib.hid (heap_alloc_new w3 (.cells #[.slice none 0 0, .slice none 0 0, .slice none 0 0, .slice none 0 0] 41))
          obtain ⟨bM4, hbe⟩ : ∃ b, b = w3.heap.size := ⟨_, rfl⟩
          replace HB := Lib.hid (bel_trans HB.out hb)
          replace KD := Lib.hid (block_below KD.out hb)
          replace HS := Lib.hid (HS.out.below hb)
          replace HZ := Lib.hid (HZ.out.below hb)
          replace HLk := Lib.hid (HLk.out.below hb)
          replace HR1 := Lib.hid (own_below17 HR1.out hb)
          replace HZ1 := Lib.hid (HZ1.out.below hb)
          replace HR2 := Lib.hid (own_below17 HR2.out hb)
          replace HZ2 := Lib.hid (HZ2.out.below hb)
          replace KS := Lib.hid (block_below KS.out hb)
          have hleKM : W.heap.size < bM4 := by rw [hbe]; exact bk2m KDold.out
          have hneKM : bS3 < bM4 := by rw [hbe]; exact bk2m KSold.out
          rw [← hbe] at KM ⊢
          clear hbe
          generalize w3.alloc _ = w4 at *
          clear hb KDold KSold
          refine hK.out _ _ ⟨cellB KD.out (i := 0) rfl, cellB KD.out (i := 1) rfl, cellB KD.out (i := 2) rfl⟩ (fun hHeld => ?_)
          clear hK K
          try simp only [Act.put, List.getElem_toArray, List.getElem_cons_succ, List.getElem_cons_zero, List.setIfInBounds_toArray, List.set_cons_zero, List.set_cons_succ]
          obtain ⟨ra1, rc1, rfl⟩ := own_sl HR1.out
          obtain ⟨ra2, rc2, rfl⟩ := own_sl HR2.out
          obtain ⟨za1, zc1, rfl⟩ := own_sl HZ1.out.2.1
          obtain ⟨za2, zc2, rfl⟩ := own_sl HZ2.out.2.1
          have hlS := bk2m KS.out
          have hlM := bk2m KM.out
          refine wpAnyH_ready (rs := [6]) (by kernel_rfl) (by simp) ?_
          refine AllReadyH.cons rfl (fun K hK => ?_) AllReadyH.nil
          rw [if_pos (by rfl)]
          obtain ⟨x0, x1, x2, x3, u0, u1, u2, u3⟩ := row4u KS.out
          go_simp
          clear x0 x1 x2 x3 u0 u1 u2 u3
          have hgr := grownM_set (j := 3) (v := .slice none 0 0) (grownM_set (j := 2) (v := (.slice la1 ln1 lc1)) (grownM_set (j := 1) (v := (.slice za1 (zonesUp ((normD sl).length : Int) (normZ (zr.map fun p => p.2)) (normZ (zr.map fun p => p.2)).length).length zc1)) (grownM_set (j := 0) (v := (.slice ra1 rs.length rc1)) (grownM_refl w4 (some bS3)))))
          have hk9 := set4d (d0 := (.slice ra1 rs.length rc1)) (d1 := (.slice za1 (zonesUp ((normD sl).length : Int) (normZ (zr.map fun p => p.2)) (normZ (zr.map fun p => p.2)).length).length zc1)) (d2 := (.slice la1 ln1 lc1)) (d3 := .slice none 0 0) KS.out
          have hl9 := bk2m KS.out
          generalize (((w4.setCell _ _).setCell _ _).setCell _ _).setCell _ _ = w4s at *
          replace KD := Lib.hid (blk_grownM KD.out hgr (by omega))
          replace KM := Lib.hid (blk_grownM KM.out hgr (by omega))
          replace HR1 := Lib.hid (own_src HR1.out hgr KS.out (by decide))
          replace HR2 := Lib.hid (own_src HR2.out hgr KS.out (by decide))
          replace HZ1 := Lib.hid (HZ1.out.src hgr KS.out)
          replace HZ2 := Lib.hid (HZ2.out.src hgr KS.out)
          replace HB := Lib.hid (HB.out.trans (below_grownM hgr (by omega) hl9))
          replace KS := Lib.hid hk9
          clear hgr hk9 hl9
          refine hK.out _ _ ⟨cellB KD.out (i := 0) rfl, cellB KD.out (i := 1) rfl, cellB KD.out (i := 2) rfl⟩ (fun hHeld => ?_)
          clear hK K
          try simp only [Act.put, List.getElem_toArray, List.getElem_cons_succ, List.getElem_cons_zero, List.setIfInBounds_toArray, List.set_cons_zero, List.set_cons_succ]
          refine wpAnyH_ready (rs := [7]) (by kernel_rfl) (by simp) ?_
          refine AllReadyH.cons rfl (fun K hK => ?_) AllReadyH.nil
          rw [if_pos (by rfl)]
          obtain ⟨x0, x1, x2, x3, u0, u1, u2, u3⟩ := row4u KM.out
          go_simp
          clear x0 x1 x2 x3 u0 u1 u2 u3
          have hgr := grownM_set (j := 3) (v := .slice none 0 0) (grownM_set (j := 2) (v := (.slice la2 ln2 lc2)) (grownM_set (j := 1) (v := (.slice za2 (zonesUp ((normD sl).length : Int) (normZ (zr.map fun p => p.2)) (normZ (zr.map fun p => p.2)).length).length zc2)) (grownM_set (j := 0) (v := (.slice ra2 rs.length rc2)) (grownM_refl w4s (some bM4)))))
          have hk9 := set4d (d0 := (.slice ra2 rs.length rc2)) (d1 := (.slice za2 (zonesUp ((normD sl).length : Int) (normZ (zr.map fun p => p.2)) (normZ (zr.map fun p => p.2)).length).length zc2)) (d2 := (.slice la2 ln2 lc2)) (d3 := .slice none 0 0) KM.out
          have hl9 := bk2m KM.out
          generalize (((w4s.setCell _ _).setCell _ _).setCell _ _).setCell _ _ = w4ss at *
          replace KD := Lib.hid (blk_grownM KD.out hgr (by omega))
          replace KS := Lib.hid (blk_grownM KS.out hgr (by omega))
          replace HR1 := Lib.hid (own_src HR1.out hgr KM.out (by decide))
          replace HR2 := Lib.hid (own_src HR2.out hgr KM.out (by decide))
          replace HZ1 := Lib.hid (HZ1.out.src hgr KM.out)
          replace HZ2 := Lib.hid (HZ2.out.src hgr KM.out)
          replace HB := Lib.hid (HB.out.trans (below_grownM hgr (by omega) hl9))
          replace KM := Lib.hid hk9
          clear hgr hk9 hl9
          refine hK.out _ _ ⟨cellB KD.out (i := 0) rfl, cellB KD.out (i := 1) rfl, cellB KD.out (i := 2) rfl⟩ (fun hHeld => ?_)
          clear hK K
          try simp only [Act.put, List.getElem_toArray, List.getElem_cons_succ, List.getElem_cons_zero, List.setIfInBounds_toArray, List.set_cons_zero, List.set_cons_succ]
          refine wpAnyH_done (by kernel_rfl) ?_ _
          clear hHeld
          go_wp2_with fail
          go_meet
          case rel => exact ⟨_, rfl, bS3, bM4, _, _, _, _, _, _, la1, la2, ln1, lc1, ln2, lc2, rs, ps1, ps2, rfl, rfl, by omega, ⟨HW1.out, HW2.out⟩, KS.out, KM.out, HV1.out, HR1.out, HZ1.out, HR2.out, HZ2.out, HL1.out, HL2.out, HL3.out, HB.out⟩
        · have KDold := KD
          rw [if_pos (by rfl)]
          go_simp
          have hb := bel_alloc w2 (.cells #[.slice none 0 0, .slice none 0 0, .slice none 0 0, .slice none 0 0] 41)
          have KM := Lib.hid (heap_alloc_new w2 (.cells #[.slice none 0 0, .slice none 0 0, .slice none 0 0, .slice none 0 0] 41))
          obtain ⟨bM5, hbe⟩ : ∃ b, b = w2.heap.size := ⟨_, rfl⟩
          replace HB := Lib.hid (bel_trans HB.out hb)
          replace KD := Lib.hid (block_below KD.out hb)
          replace HS := Lib.hid (HS.out.below hb)
          replace HZ := Lib.hid (HZ.out.below hb)
          replace HLk := Lib.hid (HLk.out.below hb)
          replace HR1 := Lib.hid (own_below17 HR1.out hb)
          replace HZ1 := Lib.hid (HZ1.out.below hb)
          replace HR2 := Lib.hid (own_below17 HR2.out hb)
          replace HZ2 := Lib.hid (HZ2.out.below hb)
          have hleKM : W.heap.size < bM5 := by rw [hbe]; exact bk2m KDold.out
          rw [← hbe] at KM ⊢
          clear hbe
          generalize w2.alloc _ = w5 at *
          clear hb KDold
          refine hK.out _ _ ⟨cellB KD.out (i := 0) rfl, cellB KD.out (i := 1) rfl, cellB KD.out (i := 2) rfl⟩ (fun hHeld => ?_)
          clear hK K
          try simp only [Act.put, List.getElem_toArray, List.getElem_cons_succ, List.getElem_cons_zero, List.setIfInBounds_toArray, List.set_cons_zero, List.set_cons_succ]
          refine wpAnyH_ready (rs := [4]) (by kernel_rfl) (by simp) ?_
          refine AllReadyH.cons rfl (fun K hK => ?_) AllReadyH.nil
          have KDold := KD
          have KMold := KM
          rw [if_pos (by rfl)]
          go_simp
          have hb := bel_alloc w5 (.cells #[.slice none 0 0, .slice none 0 0, .slice none 0 0, .slice none 0 0] 41)
          have KS := Lib.hid (heap_alloc_new w5 (.cells #[.slice none 0 0, .slice none 0 0, .slice none 0 0, .slice none 0 0] 41))
          obtain ⟨bS6, hbe⟩ : ∃ b, b = w5.heap.size := ⟨_, rfl⟩
          replace HB := Lib.hid (bel_trans HB.out hb)
          replace KD := Lib.hid (block_below KD.out hb)
          replace HS := Lib.hid (HS.out.below hb)
          replace HZ := Lib.hid (HZ.out.below hb)
          replace HLk := Lib.hid (HLk.out.below hb)
          replace HR1 := Lib.hid (own_below17 HR1.out hb)
          replace HZ1 := Lib.hid (HZ1.out.below hb)
          replace HR2 := Lib.hid (own_below17 HR2.out hb)
          replace HZ2 := Lib.hid (HZ2.out.below hb)
          replace KM := Lib.hid (block_below KM.out hb)
          have hleKS : W.heap.size < bS6 := by rw [hbe]; exact bk2m KDold.out
          have hneKS : bM5 < bS6 := by rw [hbe]; exact bk2m KMold.out
          rw [← hbe] at KS ⊢
          clear hbe
          generalize w5.alloc _ = w6 at *
          clear hb KDold KMold
          refine hK.out _ _ ⟨cellB KD.out (i := 0) rfl, cellB KD.out (i := 1) rfl, cellB KD.out (i := 2) rfl⟩ (fun hHeld => ?_)
          clear hK K
          try simp only [Act.put, List.getElem_toArray, List.getElem_cons_succ, List.getElem_cons_zero, List.setIfInBounds_toArray, List.set_cons_zero, List.set_cons_succ]
          obtain ⟨ra1, rc1, rfl⟩ := own_sl HR1.out
          obtain ⟨ra2, rc2, rfl⟩ := own_sl HR2.out
          obtain ⟨za1, zc1, rfl⟩ := own_sl HZ1.out.2.1
          obtain ⟨za2, zc2, rfl⟩ := own_sl HZ2.out.2.1
          have hlS := bk2m KS.out
          have hlM := bk2m KM.out
          refine wpAnyH_ready (rs := [6]) (by kernel_rfl) (by simp) ?_
          refine AllReadyH.cons rfl (fun K hK => ?_) AllReadyH.nil
          rw [if_pos (by rfl)]
          obtain ⟨x0, x1, x2, x3, u0, u1, u2, u3⟩ := row4u KS.out
          go_simp
          clear x0 x1 x2 x3 u0 u1 u2 u3
          have hgr := grownM_set (j := 3) (v := .slice none 0 0) (grownM_set (j := 2) (v := (.slice la1 ln1 lc1)) (grownM_set (j := 1) (v := (.slice za1 (zonesUp ((normD sl).length : Int) (normZ (zr.map fun p => p.2)) (normZ (zr.map fun p => p.2)).length).length zc1)) (grownM_set (j := 0) (v := (.slice ra1 rs.length rc1)) (grownM_refl w6 (some bS6)))))
          have hk9 := set4d (d0 := (.slice ra1 rs.length rc1)) (d1 := (.slice za1 (zonesUp ((normD sl).length : Int) (normZ (zr.map fun p => p.2)) (normZ (zr.map fun p => p.2)).length).length zc1)) (d2 := (.slice la1 ln1 lc1)) (d3 := .slice none 0 0) KS.out
          have hl9 := bk2m KS.out
          generalize (((w6.setCell _ _).setCell _ _).setCell _ _).setCell _ _ = w6s at *
          replace KD := Lib.hid (blk_grownM KD.out hgr (by omega))
          replace KM := Lib.hid (blk_grownM KM.out hgr (by omega))
          replace HR1 := Lib.hid (own_src HR1.out hgr KS.out (by decide))
          replace HR2 := Lib.hid (own_src HR2.out hgr KS.out (by decide))
          replace HZ1 := Lib.hid (HZ1.out.src hgr KS.out)
          replace HZ2 := Lib.hid (HZ2.out.src hgr KS.out)
          replace HB := Lib.hid (HB.out.trans (below_grownM hgr (by omega) hl9))
          replace KS := Lib.hid hk9
          clear hgr hk9 hl9
          refine hK.out _ _ ⟨cellB KD.out (i := 0) rfl, cellB KD.out (i := 1) rfl, cellB KD.out (i := 2) rfl⟩ (fun hHeld => ?_)
          clear hK K
          try simp only [Act.put, List.getElem_toArray, List.getElem_cons_succ, List.getElem_cons_zero, List.setIfInBounds_toArray, List.set_cons_zero, List.set_cons_succ]
          refine wpAnyH_ready (rs := [7]) (by kernel_rfl) (by simp) ?_
          refine AllReadyH.cons rfl (fun K hK => ?_) AllReadyH.nil
          rw [if_pos (by rfl)]
          obtain ⟨x0, x1, x2, x3, u0, u1, u2, u3⟩ := row4u KM.out
          go_simp
          clear x0 x1 x2 x3 u0 u1 u2 u3
          have hgr := grownM_set (j := 3) (v := .slice none 0 0) (grownM_set (j := 2) (v := (.slice la2 ln2 lc2)) (grownM_set (j := 1) (v := (.slice za2 (zonesUp ((normD sl).length : Int) (normZ (zr.map fun p => p.2)) (normZ (zr.map fun p => p.2)).length).length zc2)) (grownM_set (j := 0) (v := (.slice ra2 rs.length rc2)) (grownM_refl w6s (some bM5)))))
          have hk9 := set4d (d0 := (.slice ra2 rs.length rc2)) (d1 := (.slice za2 (zonesUp ((normD sl).length : Int) (normZ (zr.map fun p => p.2)) (normZ (zr.map fun p => p.2)).length).length zc2)) (d2 := (.slice la2 ln2 lc2)) (d3 := .slice none 0 0) KM.out
          have hl9 := bk2m KM.out
          generalize (((w6s.setCell _ _).setCell _ _).setCell _ _).setCell _ _ = w6ss at *
          replace KD := Lib.hid (blk_grownM KD.out hgr (by omega))
          replace KS := Lib.hid (blk_grownM KS.out hgr (by omega))
          replace HR1 := Lib.hid (own_src HR1.out hgr KM.out (by decide))
          replace HR2 := Lib.hid (own_src HR2.out hgr KM.out (by decide))
          replace HZ1 := Lib.hid (HZ1.out.src hgr KM.out)
          replace HZ2 := Lib.hid (HZ2.out.src hgr KM.out)
          replace HB := Lib.hid (HB.out.trans (below_grownM hgr (by omega) hl9))
          replace KM := Lib.hid hk9
          clear hgr hk9 hl9
          refine hK.out _ _ ⟨cellB KD.out (i := 0) rfl, cellB KD.out (i := 1) rfl, cellB KD.out (i := 2) rfl⟩ (fun hHeld => ?_)
          clear hK K
          try simp only [Act.put, List.getElem_toArray, List.getElem_cons_succ, List.getElem_cons_zero, List.setIfInBounds_toArray, List.set_cons_zero, List.set_cons_succ]
          refine wpAnyH_done (by kernel_rfl) ?_ _
          clear hHeld
          go_wp2_with fail
          go_meet
          case rel => exact ⟨_, rfl, bS6, bM5, _, _, _, _, _, _, la1, la2, ln1, lc1, ln2, lc2, rs, ps1, ps2, rfl, rfl, by omega, ⟨HW1.out, HW2.out⟩, KS.out, KM.out, HV1.out, HR1.out, HZ1.out, HR2.out, HZ2.out, HL1.out, HL2.out, HL3.out, HB.out⟩
      · have KDold := KD
        rw [if_pos (by rfl)]
        go_simp
        have hb := bel_alloc w1 (.cells #[.slice none 0 0, .slice none 0 0, .slice none 0 0, .slice none 0 0] 41)
        have KS := Lib.hid (heap_alloc_new w1 (.cells #[.slice none 0 0, .slice none 0 0, .slice none 0 0, .slice none 0 0] 41))
        obtain ⟨bS7, hbe⟩ : ∃ b, b = w1.heap.size := ⟨_, rfl⟩
        replace HB := Lib.hid (bel_trans HB.out hb)
        replace KD := Lib.hid (block_below KD.out hb)
        replace HS := Lib.hid (HS.out.below hb)
        replace HZ := Lib.hid (HZ.out.below hb)
        replace HLk := Lib.hid (HLk.out.below hb)
        replace HR1 := Lib.hid (own_below17 HR1.out hb)
        replace HZ1 := Lib.hid (HZ1.out.below hb)
        have hleKS : W.heap.size < bS7 := by rw [hbe]; exact bk2m KDold.out
        rw [← hbe] at KS ⊢
        clear hbe
        generalize w1.alloc _ = w7 at *
        clear hb KDold
        refine hK.out _ _ ⟨cellB KD.out (i := 0) rfl, cellB KD.out (i := 1) rfl, cellB KD.out (i := 2) rfl⟩ (fun hHeld => ?_)
        clear hK K
        try simp only [Act.put, List.getElem_toArray, List.getElem_cons_succ, List.getElem_cons_zero, List.setIfInBounds_toArray, List.set_cons_zero, List.set_cons_succ]
        refine wpAnyH_ready (rs := [3, 5]) (by kernel_rfl) (by simp) ?_
        refine AllReadyH.cons rfl (fun K hK => ?_) (AllReadyH.cons rfl (fun K hK => ?_) AllReadyH.nil)
        · rw [if_pos (by rfl)]
          go_simp
          refine (made23_any A1 A2 A3 n1 n2 n3 c1 c2 c3 sl zr ll _ (by exact HS.out) (by exact HZ.out) (by exact HLk.out)).mono ?_
          rintro e w8 ⟨rv2, zv2, la2, ln2, lc2, rs2, ps2, rfl, hrv, hro, hzp, hb⟩
          obtain rfl := HV1.out.uniq hrv
          have HW2 := Lib.hid HB.out.size
          have HL1 := Lib.hid (fun b h => (HR1.out.lt b h).2)
          have HL2 := Lib.hid (fun b h => (HZ1.out.2.1.lt b h).2)
          have HL3 := Lib.hid HZ1.out.lt
          go_wp2_with fail
          replace HB := Lib.hid (bel_trans HB.out hb)
          replace KD := Lib.hid (block_below KD.out hb)
          replace HS := Lib.hid (HS.out.below hb)
          replace HZ := Lib.hid (HZ.out.below hb)
          replace HLk := Lib.hid (HLk.out.below hb)
          replace HR1 := Lib.hid (own_below17 HR1.out hb)
          replace HZ1 := Lib.hid (HZ1.out.below hb)
          replace KS := Lib.hid (block_below KS.out hb)
          have HR2 := Lib.hid hro
          have HZ2 := Lib.hid hzp
          have hb1s := hb.size
          clear hrv hro hzp hb
          refine hK.out _ _ ⟨cellB KD.out (i := 0) rfl, cellB KD.out (i := 1) rfl, cellB KD.out (i := 2) rfl⟩ (fun hHeld => ?_)
          clear hK K
          try simp only [Act.put, List.getElem_toArray, List.getElem_cons_succ, List.getElem_cons_zero, List.setIfInBounds_toArray, List.set_cons_zero, List.set_cons_succ]
          refine wpAnyH_ready (rs := [5]) (by kernel_rfl) (by simp) ?_
          refine AllReadyH.cons rfl (fun K hK => ?_) AllReadyH.nil
          have KDold := KD
          have KSold := KS
          rw [if_pos (by rfl)]
          go_simp
          have hb := bel_alloc w8 (.cells #[.slice none 0 0, .slice none 0 0, .slice none 0 0, .slice none 0 0] 41)
          have KM := Lib.hid (heap_alloc_new w8 (.cells #[.slice none 0 0, .slice none 0 0, .slice none 0 0, .slice none 0 0] 41))
          obtain ⟨bM9, hbe⟩ : ∃ b, b = w8.heap.size := ⟨_, rfl⟩
          replace HB := Lib.hid (bel_trans HB.out hb)
          replace KD := Lib.hid (block_below KD.out hb)
          replace HS := Lib.hid (HS.out.below hb)
          replace HZ := Lib.hid (HZ.out.below hb)
          replace HLk := Lib.hid (HLk.out.below hb)
          replace HR1 := Lib.hid (own_below17 HR1.out hb)
          replace HZ1 := Lib.hid (HZ1.out.below hb)
          replace KS := Lib.hid (block_below KS.out hb)
          replace HR2 := Lib.hid (own_below17 HR2.out hb)
          replace HZ2 := Lib.hid (HZ2.out.below hb)
          have hleKM : W.heap.size < bM9 := by rw [hbe]; exact bk2m KDold.out
          have hneKM : bS7 < bM9 := by rw [hbe]; exact bk2m KSold.out
          rw [← hbe] at KM ⊢
          clear hbe
          generalize w8.alloc _ = w9 at *
          clear hb KDold KSold
          refine hK.out _ _ ⟨cellB KD.out (i := 0) rfl, cellB KD.out (i := 1) rfl, cellB KD.out (i := 2) rfl⟩ (fun hHeld => ?_)
          clear hK K
          try simp only [Act.put, List.getElem_toArray, List.getElem_cons_succ, List.getElem_cons_zero, List.setIfInBounds_toArray, List.set_cons_zero, List.set_cons_succ]
          obtain ⟨ra1, rc1, rfl⟩ := own_sl HR1.out
          obtain ⟨ra2, rc2, rfl⟩ := own_sl HR2.out
          obtain ⟨za1, zc1, rfl⟩ := own_sl HZ1.out.2.1
          obtain ⟨za2, zc2, rfl⟩ := own_sl HZ2.out.2.1
          have hlS := bk2m KS.out
          have hlM := bk2m KM.out
          refine wpAnyH_ready (rs := [6]) (by kernel_rfl) (by simp) ?_
          refine AllReadyH.cons rfl (fun K hK => ?_) AllReadyH.nil
          rw [if_pos (by rfl)]
          obtain ⟨x0, x1, x2, x3, u0, u1, u2, u3⟩ := row4u KS.out
          go_simp
          clear x0 x1 x2 x3 u0 u1 u2 u3
          have hgr := grownM_set (j := 3) (v := .slice none 0 0) (grownM_set (j := 2) (v := (.slice la1 ln1 lc1)) (grownM_set (j := 1) (v := (.slice za1 (zonesUp ((normD sl).length : Int) (normZ (zr.map fun p => p.2)) (normZ (zr.map fun p => p.2)).length).length zc1)) (grownM_set (j := 0) (v := (.slice ra1 rs.length rc1)) (grownM_refl w9 (some bS7)))))
          have hk9 := set4d (d0 := (.slice ra1 rs.length rc1)) (d1 := (.slice za1 (zonesUp ((normD sl).length : Int) (normZ (zr.map fun p => p.2)) (normZ (zr.map fun p => p.2)).length).length zc1)) (d2 := (.slice la1 ln1 lc1)) (d3 := .slice none 0 0) KS.out
          have hl9 := bk2m KS.out
          generalize (((w9.setCell _ _).setCell _ _).setCell _ _).setCell _ _ = w9s at *
          replace KD := Lib.hid (blk_grownM KD.out hgr (by omega))
          replace KM := Lib.hid (blk_grownM KM.out hgr (by omega))
          replace HR1 := Lib.hid (own_src HR1.out hgr KS.out (by decide))
          replace HR2 := Lib.hid (own_src HR2.out hgr KS.out (by decide))
          replace HZ1 := Lib.hid (HZ1.out.src hgr KS.out)
          replace HZ2 := Lib.hid (HZ2.out.src hgr KS.out)
          replace HB := Lib.hid (HB.out.trans (below_grownM hgr (by omega) hl9))
          replace KS := Lib.hid hk9
          clear hgr hk9 hl9
          refine hK.out _ _ ⟨cellB KD.out (i := 0) rfl, cellB KD.out (i := 1) rfl, cellB KD.out (i := 2) rfl⟩ (fun hHeld => ?_)
          clear hK K
          try simp only [Act.put, List.getElem_toArray, List.getElem_cons_succ, List.getElem_cons_zero, List.setIfInBounds_toArray, List.set_cons_zero, List.set_cons_succ]
          refine wpAnyH_ready (rs := [7]) (by kernel_rfl) (by simp) ?_
          refine AllReadyH.cons rfl (fun K hK => ?_) AllReadyH.nil
          rw [if_pos (by rfl)]
          obtain ⟨x0, x1, x2, x3, u0, u1, u2, u3⟩ := row4u KM.out
          go_simp
          clear x0 x1 x2 x3 u0 u1 u2 u3
          have hgr := grownM_set (j := 3) (v := .slice none 0 0) (grownM_set (j := 2) (v := (.slice la2 ln2 lc2)) (grownM_set (j := 1) (v := (.slice za2 (zonesUp ((normD sl).length : Int) (normZ (zr.map fun p => p.2)) (normZ (zr.map fun p => p.2)).length).length zc2)) (grownM_set (j := 0) (v := (.slice ra2 rs.length rc2)) (grownM_refl w9s (some bM9)))))
          have hk9 := set4d (d0 := (.slice ra2 rs.length rc2)) (d1 := (.slice za2 (zonesUp ((normD sl).length : Int) (normZ (zr.map fun p => p.2)) (normZ (zr.map fun p => p.2)).length).length zc2)) (d2 := (.slice la2 ln2 lc2)) (d3 := .slice none 0 0) KM.out
          have hl9 := bk2m KM.out
          generalize (((w9s.setCell _ _).setCell _ _).setCell _ _).setCell _ _ = w9ss at *
          replace KD := Lib.hid (blk_grownM KD.out hgr (by omega))
          replace KS := Lib.hid (blk_grownM KS.out hgr (by omega))
          replace HR1 := Lib.hid (own_src HR1.out hgr KM.out (by decide))
          replace HR2 := Lib.hid (own_src HR2.out hgr KM.out (by decide))
          replace HZ1 := Lib.hid (HZ1.out.src hgr KM.out)
          replace HZ2 := Lib.hid (HZ2.out.src hgr KM.out)
          replace HB := Lib.hid (HB.out.trans (below_grownM hgr (by omega) hl9))
          replace KM := Lib.hid hk9
          clear hgr hk9 hl9
          refine hK.out _ _ ⟨cellB KD.out (i := 0) rfl, cellB KD.out (i := 1) rfl, cellB KD.out (i := 2) rfl⟩ (fun hHeld => ?_)
          clear hK K
          try simp only [Act.put, List.getElem_toArray, List.getElem_cons_succ, List.getElem_cons_zero, List.setIfInBounds_toArray, List.set_cons_zero, List.set_cons_succ]
          refine wpAnyH_done (by kernel_rfl) ?_ _
          clear hHeld
          go_wp2_with fail
          go_meet
          case rel => exact ⟨_, rfl, bS7, bM9, _, _, _, _, _, _, la1, la2, ln1, lc1, ln2, lc2, rs, ps1, ps2, rfl, rfl, by omega, ⟨HW1.out, HW2.out⟩, KS.out, KM.out, HV1.out, HR1.out, HZ1.out, HR2.out, HZ2.out, HL1.out, HL2.out, HL3.out, HB.out⟩
        · have KDold := KD
          have KSold := KS
          rw [if_pos (by rfl)]
          go_simp
          have hb := bel_alloc w7 (.cells #[.slice none 0 0, .slice none 0 0, .slice none 0 0, .slice none 0 0] 41)
          have KM := Lib.hid (heap_alloc_new w7 (.cells #[.slice none 0 0, .slice none 0 0, .slice none 0 0, .slice none 0 0] 41))
          obtain ⟨bM10, hbe⟩ : ∃ b, b = w7.heap.size := ⟨_, rfl⟩
          replace HB := Lib.hid (bel_trans HB.out hb)
          replace KD := Lib.hid (block_below KD.out hb)
          replace HS := Lib.hid (HS.out.below hb)
          replace HZ := Lib.hid (HZ.out.below hb)
          replace HLk := Lib.hid (HLk.out.below hb)
          replace HR1 := Lib.hid (own_below17 HR1.out hb)
          replace HZ1 := Lib.hid (HZ1.out.below hb)
          replace KS := Lib.hid (block_below KS.out hb)
          have hleKM : W.heap.size < bM10 := by rw [hbe]; exact bk2m KDold.out
          have hneKM : bS7 < bM10 := by rw [hbe]; exact bk2m KSold.out
          rw [← hbe] at KM ⊢
          clear hbe
          generalize w7.alloc _ = w10 at *
          clear hb KDold KSold
          refine hK.out _ _ ⟨cellB KD.out (i := 0) rfl, cellB KD.out (i := 1) rfl, cellB KD.out (i := 2) rfl⟩ (fun hHeld => ?_)
          clear hK K
          try simp only [Act.put, List.getElem_toArray, List.getElem_cons_succ, List.getElem_cons_zero, List.setIfInBounds_toArray, List.set_cons_zero, List.set_cons_succ]
          refine wpAnyH_ready (rs := [3]) (by kernel_rfl) (by simp) ?_
          refine AllReadyH.cons rfl (fun K hK => ?_) AllReadyH.nil
          rw [if_pos (by rfl)]
          go_simp
          refine (made23_any A1 A2 A3 n1 n2 n3 c1 c2 c3 sl zr ll _ (by exact HS.out) (by exact HZ.out) (by exact HLk.out)).mono ?_
          rintro e w11 ⟨rv2, zv2, la2, ln2, lc2, rs2, ps2, rfl, hrv, hro, hzp, hb⟩
          obtain rfl := HV1.out.uniq hrv
          have HW2 := Lib.hid HB.out.size
          have HL1 := Lib.hid (fun b h => (HR1.out.lt b h).2)
          have HL2 := Lib.hid (fun b h => (HZ1.out.2.1.lt b h).2)
          have HL3 := Lib.hid HZ1.out.lt
          go_wp2_with fail
          replace HB := Lib.hid (bel_trans HB.out hb)
          replace KD := Lib.hid (block_below KD.out hb)
          replace HS := Lib.hid (HS.out.below hb)
          replace HZ := Lib.hid (HZ.out.below hb)
          replace HLk := Lib.hid (HLk.out.below hb)
          replace HR1 := Lib.hid (own_below17 HR1.out hb)
          replace HZ1 := Lib.hid (HZ1.out.below hb)
          replace KS := Lib.hid (block_below KS.out hb)
          replace KM := Lib.hid (block_below KM.out hb)
          have HR2 := Lib.hid hro
          have HZ2 := Lib.hid hzp
          have hb1s := hb.size
          clear hrv hro hzp hb
          refine hK.out _ _ ⟨cellB KD.out (i := 0) rfl, cellB KD.out (i := 1) rfl, cellB KD.out (i := 2) rfl⟩ (fun hHeld => ?_)
          clear hK K
          try simp only [Act.put, List.getElem_toArray, List.getElem_cons_succ, List.getElem_cons_zero, List.setIfInBounds_toArray, List.set_cons_zero, List.set_cons_succ]
          obtain ⟨ra1, rc1, rfl⟩ := own_sl HR1.out
          obtain ⟨ra2, rc2, rfl⟩ := own_sl HR2.out
          obtain ⟨za1, zc1, rfl⟩ := own_sl HZ1.out.2.1
          obtain ⟨za2, zc2, rfl⟩ := own_sl HZ2.out.2.1
          have hlS := bk2m KS.out
          have hlM := bk2m KM.out
          refine wpAnyH_ready (rs := [6]) (by kernel_rfl) (by simp) ?_
          refine AllReadyH.cons rfl (fun K hK => ?_) AllReadyH.nil
          rw [if_pos (by rfl)]
          obtain ⟨x0, x1, x2, x3, u0, u1, u2, u3⟩ := row4u KS.out
          go_simp
          clear x0 x1 x2 x3 u0 u1 u2 u3
          have hgr := grownM_set (j := 3) (v := .slice none 0 0) (grownM_set (j := 2) (v := (.slice la1 ln1 lc1)) (grownM_set (j := 1) (v := (.slice za1 (zonesUp ((normD sl).length : Int) (normZ (zr.map fun p => p.2)) (normZ (zr.map fun p => p.2)).length).length zc1)) (grownM_set (j := 0) (v := (.slice ra1 rs.length rc1)) (grownM_refl w11 (some bS7)))))
          have hk9 := set4d (d0 := (.slice ra1 rs.length rc1)) (d1 := (.slice za1 (zonesUp ((normD sl).length : Int) (normZ (zr.map fun p => p.2)) (normZ (zr.map fun p => p.2)).length).length zc1)) (d2 := (.slice la1 ln1 lc1)) (d3 := .slice none 0 0) KS.out
          have hl9 := bk2m KS.out
          generalize (((w11.setCell _ _).setCell _ _).setCell _ _).setCell _ _ = w11s at *
          replace KD := Lib.hid (blk_grownM KD.out hgr (by omega))
          replace KM := Lib.hid (blk_grownM KM.out hgr (by omega))
          replace HR1 := Lib.hid (own_src HR1.out hgr KS.out (by decide))
          replace HR2 := Lib.hid (own_src HR2.out hgr KS.out (by decide))
          replace HZ1 := Lib.hid (HZ1.out.src hgr KS.out)
          replace HZ2 := Lib.hid (HZ2.out.src hgr KS.out)
          replace HB := Lib.hid (HB.out.trans (below_grownM hgr (by omega) hl9))
          replace KS := Lib.hid hk9
          clear hgr hk9 hl9
          refine hK.out _ _ ⟨cellB KD.out (i := 0) rfl, cellB KD.out (i := 1) rfl, cellB KD.out (i := 2) rfl⟩ (fun hHeld => ?_)
          clear hK K
          try simp only [Act.put, List.getElem_toArray, List.getElem_cons_succ, List.getElem_cons_zero, List.setIfInBounds_toArray, List.set_cons_zero, List.set_cons_succ]
          refine wpAnyH_ready (rs := [7]) (by kernel_rfl) (by simp) ?_
          refine AllReadyH.cons rfl (fun K hK => ?_) AllReadyH.nil
          rw [if_pos (by rfl)]
          obtain ⟨x0, x1, x2, x3, u0, u1, u2, u3⟩ := row4u KM.out
          go_simp
          clear x0 x1 x2 x3 u0 u1 u2 u3
          have hgr := grownM_set (j := 3) (v := .slice none 0 0) (grownM_set (j := 2) (v := (.slice la2 ln2 lc2)) (grownM_set (j := 1) (v := (.slice za2 (zonesUp ((normD sl).length : Int) (normZ (zr.map fun p => p.2)) (normZ (zr.map fun p => p.2)).length).length zc2)) (grownM_set (j := 0) (v := (.slice ra2 rs.length rc2)) (grownM_refl w11s (some bM10)))))
          have hk9 := set4d (d0 := (.slice ra2 rs.length rc2)) (d1 := (.slice za2 (zonesUp ((normD sl).length : Int) (normZ (zr.map fun p => p.2)) (normZ (zr.map fun p => p.2)).length).length zc2)) (d2 := (.slice la2 ln2 lc2)) (d3 := .slice none 0 0) KM.out
          have hl9 := bk2m KM.out
          generalize (((w11s.setCell _ _).setCell _ _).setCell _ _).setCell _ _ = w11ss at *
          replace KD := Lib.hid (blk_grownM KD.out hgr (by omega))
          replace KS := Lib.hid (blk_grownM KS.out hgr (by omega))
          replace HR1 := Lib.hid (own_src HR1.out hgr KM.out (by decide))
          replace HR2 := Lib.hid (own_src HR2.out hgr KM.out (by decide))
          replace HZ1 := Lib.hid (HZ1.out.src hgr KM.out)
          replace HZ2 := Lib.hid (HZ2.out.src hgr KM.out)
          replace HB := Lib.hid (HB.out.trans (below_grownM hgr (by omega) hl9))
          replace KM := Lib.hid hk9
          clear hgr hk9 hl9
          refine hK.out _ _ ⟨cellB KD.out (i := 0) rfl, cellB KD.out (i := 1) rfl, cellB KD.out (i := 2) rfl⟩ (fun hHeld => ?_)
          clear hK K
          try simp only [Act.put, List.getElem_toArray, List.getElem_cons_succ, List.getElem_cons_zero, List.setIfInBounds_toArray, List.set_cons_zero, List.set_cons_succ]
          refine wpAnyH_done (by kernel_rfl) ?_ _
          clear hHeld
          go_wp2_with fail
          go_meet
          case rel => exact ⟨_, rfl, bS7, bM10, _, _, _, _, _, _, la1, la2, ln1, lc1, ln2, lc2, rs, ps1, ps2, rfl, rfl, by omega, ⟨HW1.out, HW2.out⟩, KS.out, KM.out, HV1.out, HR1.out, HZ1.out, HR2.out, HZ2.out, HL1.out, HL2.out, HL3.out, HB.out⟩
      · have KDold := KD
        rw [if_pos (by rfl)]
        go_simp
        have hb := bel_alloc w1 (.cells #[.slice none 0 0, .slice none 0 0, .slice none 0 0, .slice none 0 0] 41)
        have KM := Lib.hid (heap_alloc_new w1 (.cells #[.slice none 0 0, .slice none 0 0, .slice none 0 0, .slice none 0 0] 41))
        obtain ⟨bM12, hbe⟩ : ∃ b, b = w1.heap.size := ⟨_, rfl⟩
        replace HB := Lib.hid (bel_trans HB.out hb)
        replace KD := Lib.hid (block_below KD.out hb)
        replace HS := Lib.hid (HS.out.below hb)
        replace HZ := Lib.hid (HZ.out.below hb)
        replace HLk := Lib.hid (HLk.out.below hb)
        replace HR1 := Lib.hid (own_below17 HR1.out hb)
        replace HZ1 := Lib.hid (HZ1.out.below hb)
        have hleKM : W.heap.size < bM12 := by rw [hbe]; exact bk2m KDold.out
        rw [← hbe] at KM ⊢
        clear hbe
        generalize w1.alloc _ = w12 at *
        clear hb KDold
        refine hK.out _ _ ⟨cellB KD.out (i := 0) rfl, cellB KD.out (i := 1) rfl, cellB KD.out (i := 2) rfl⟩ (fun hHeld => ?_)
        clear hK K
        try simp only [Act.put, List.getElem_toArray, List.getElem_cons_succ, List.getElem_cons_zero, List.setIfInBounds_toArray, List.set_cons_zero, List.set_cons_succ]
        refine wpAnyH_ready (rs := [3, 4]) (by kernel_rfl) (by simp) ?_
        refine AllReadyH.cons rfl (fun K hK => ?_) (AllReadyH.cons rfl (fun K hK => ?_) AllReadyH.nil)
        · rw [if_pos (by rfl)]
          go_simp
          refine (made23_any A1 A2 A3 n1 n2 n3 c1 c2 c3 sl zr ll _ (by exact HS.out) (by exact HZ.out) (by exact HLk.out)).mono ?_
          rintro e w13 ⟨rv2, zv2, la2, ln2, lc2, rs2, ps2, rfl, hrv, hro, hzp, hb⟩
          obtain rfl := HV1.out.uniq hrv
          have HW2 := Lib.hid HB.out.size
          have HL1 := Lib.hid (fun b h => (HR1.out.lt b h).2)
          have HL2 := Lib.hid (fun b h => (HZ1.out.2.1.lt b h).2)
          have HL3 := Lib.hid HZ1.out.lt
          go_wp2_with fail
          replace HB := Lib.hid (bel_trans HB.out hb)
          replace KD := Lib.hid (block_below KD.out hb)
          replace HS := Lib.hid (HS.out.below hb)
          replace HZ := Lib.hid (HZ.out.below hb)
          replace HLk := Lib.hid (HLk.out.below hb)
          replace HR1 := Lib.hid (own_below17 HR1.out hb)
          replace HZ1 := Lib.hid (HZ1.out.below hb)
          replace KM := Lib.hid (block_below KM.out hb)
          have HR2 := Lib.hid hro
          have HZ2 := Lib.hid hzp
          have hb1s := hb.size
          clear hrv hro hzp hb
          refine hK.out _ _ ⟨cellB KD.out (i := 0) rfl, cellB KD.out (i := 1) rfl, cellB KD.out (i := 2) rfl⟩ (fun hHeld => ?_)
          clear hK K
          try simp only [Act.put, List.getElem_toArray, List.getElem_cons_succ, List.getElem_cons_zero, List.setIfInBounds_toArray, List.set_cons_zero, List.set_cons_succ]
          refine wpAnyH_ready (rs := [4]) (by kernel_rfl) (by simp) ?_
          refine AllReadyH.cons rfl (fun K hK => ?_) AllReadyH.nil
          have KDold := KD
          have KMold := KM
          rw [if_pos (by rfl)]
          go_simp
          have hb := bel_alloc w13 (.cells #[.slice none 0 0, .slice none 0 0, .slice none 0 0, .slice none 0 0] 41)
          have KS := Lib.hid (heap_alloc_new w13 (.cells #[.slice none 0 0, .slice none 0 0, .slice none 0 0, .slice none 0 0] 41))
          obtain ⟨bS14, hbe⟩ : ∃ b, b = w13.heap.size := ⟨_, rfl⟩
          replace HB := Lib.hid (bel_trans HB.out hb)
          replace KD := Lib.hid (block_below KD.out hb)
          replace HS := Lib.hid (HS.out.below hb)
          replace HZ := Lib.hid (HZ.out.below hb)
          replace HLk := Lib.hid (HLk.out.below hb)
          replace HR1 := Lib.hid (own_below17 HR1.out hb)
          replace HZ1 := Lib.hid (HZ1.out.below hb)
          replace KM := Lib.hid (block_below KM.out hb)
          replace HR2 := Lib.hid (own_below17 HR2.out hb)
          replace HZ2 := Lib.hid (HZ2.out.below hb)
          have hleKS : W.heap.size < bS14 := by rw [hbe]; exact bk2m KDold.out
          have hneKS : bM12 < bS14 := by rw [hbe]; exact bk2m KMold.out
          rw [← hbe] at KS ⊢
          clear hbe
          generalize w13.alloc _ = w14 at *
          clear hb KDold KMold
          refine hK.out _ _ ⟨cellB KD.out (i := 0) rfl, cellB KD.out (i := 1) rfl, cellB KD.out (i := 2) rfl⟩ (fun hHeld => ?_)
          clear hK K
          try simp only [Act.put, List.getElem_toArray, List.getElem_cons_succ, List.getElem_cons_zero, List.setIfInBounds_toArray, List.set_cons_zero, List.set_cons_succ]
          obtain ⟨ra1, rc1, rfl⟩ := own_sl HR1.out
          obtain ⟨ra2, rc2, rfl⟩ := own_sl HR2.out
          obtain ⟨za1, zc1, rfl⟩ := own_sl HZ1.out.2.1
          obtain ⟨za2, zc2, rfl⟩ := own_sl HZ2.out.2.1
          have hlS := bk2m KS.out
          have hlM := bk2m KM.out
          refine wpAnyH_ready (rs := [6]) (by kernel_rfl) (by simp) ?_
          refine AllReadyH.cons rfl (fun K hK => ?_) AllReadyH.nil
          rw [if_pos (by rfl)]
          obtain ⟨x0, x1, x2, x3, u0, u1, u2, u3⟩ := row4u KS.out
          go_simp
          clear x0 x1 x2 x3 u0 u1 u2 u3
          have hgr := grownM_set (j := 3) (v := .slice none 0 0) (grownM_set (j := 2) (v := (.slice la1 ln1 lc1)) (grownM_set (j := 1) (v := (.slice za1 (zonesUp ((normD sl).length : Int) (normZ (zr.map fun p => p.2)) (normZ (zr.map fun p => p.2)).length).length zc1)) (grownM_set (j := 0) (v := (.slice ra1 rs.length rc1)) (grownM_refl w14 (some bS14)))))
          have hk9 := set4d (d0 := (.slice ra1 rs.length rc1)) (d1 := (.slice za1 (zonesUp ((normD sl).length : Int) (normZ (zr.map fun p => p.2)) (normZ (zr.map fun p => p.2)).length).length zc1)) (d2 := (.slice la1 ln1 lc1)) (d3 := .slice none 0 0) KS.out
          have hl9 := bk2m KS.out
          generalize (((w14.setCell _ _).setCell _ _).setCell _ _).setCell _ _ = w14s at *
          replace KD := Lib.hid (blk_grownM KD.out hgr (by omega))
          replace KM := Lib.hid (blk_grownM KM.out hgr (by omega))
          replace HR1 := Lib.hid (own_src HR1.out hgr KS.out (by decide))
          replace HR2 := Lib.hid (own_src HR2.out hgr KS.out (by decide))
          replace HZ1 := Lib.hid (HZ1.out.src hgr KS.out)
          replace HZ2 := Lib.hid (HZ2.out.src hgr KS.out)
          replace HB := Lib.hid (HB.out.trans (below_grownM hgr (by omega) hl9))
          replace KS := Lib.hid hk9
          clear hgr hk9 hl9
          refine hK.out _ _ ⟨cellB KD.out (i := 0) rfl, cellB KD.out (i := 1) rfl, cellB KD.out (i := 2) rfl⟩ (fun hHeld => ?_)
          clear hK K
          try simp only [Act.put, List.getElem_toArray, List.getElem_cons_succ, List.getElem_cons_zero, List.setIfInBounds_toArray, List.set_cons_zero, List.set_cons_succ]
          refine wpAnyH_ready (rs := [7]) (by kernel_rfl) (by simp) ?_
          refine AllReadyH.cons rfl (fun K hK => ?_) AllReadyH.nil
          rw [if_pos (by rfl)]
          obtain ⟨x0, x1, x2, x3, u0, u1, u2, u3⟩ := row4u KM.out
          go_simp
          clear x0 x1 x2 x3 u0 u1 u2 u3
          have hgr := grownM_set (j := 3) (v := .slice none 0 0) (grownM_set (j := 2) (v := (.slice la2 ln2 lc2)) (grownM_set (j := 1) (v := (.slice za2 (zonesUp ((normD sl).length : Int) (normZ (zr.map fun p => p.2)) (normZ (zr.map fun p => p.2)).length).length zc2)) (grownM_set (j := 0) (v := (.slice ra2 rs.length rc2)) (grownM_refl w14s (some bM12)))))
          have hk9 := set4d (d0 := (.slice ra2 rs.length rc2)) (d1 := (.slice za2 (zonesUp ((normD sl).length : Int) (normZ (zr.map fun p => p.2)) (normZ (zr.map fun p => p.2)).length).length zc2)) (d2 := (.slice la2 ln2 lc2)) (d3 := .slice none 0 0) KM.out
          have hl9 := bk2m KM.out
          generalize (((w14s.setCell _ _).setCell _ _).setCell _ _).setCell _ _ = w14ss at *
          replace KD := Lib.hid (blk_grownM KD.out hgr (by omega))
          replace KS := Lib.hid (blk_grownM KS.out hgr (by omega))
          replace HR1 := Lib.hid (own_src HR1.out hgr KM.out (by decide))
          replace HR2 := Lib.hid (own_src HR2.out hgr KM.out (by decide))
          replace HZ1 := Lib.hid (HZ1.out.src hgr KM.out)
          replace HZ2 := Lib.hid (HZ2.out.src hgr KM.out)
          replace HB := Lib.hid (HB.out.trans (below_grownM hgr (by omega) hl9))
          replace KM := Lib.hid hk9
          clear hgr hk9 hl9
          refine hK.out _ _ ⟨cellB KD.out (i := 0) rfl, cellB KD.out (i := 1) rfl, cellB KD.out (i := 2) rfl⟩ (fun hHeld => ?_)
          clear hK K
          try simp only [Act.put, List.getElem_toArray, List.getElem_cons_succ, List.getElem_cons_zero, List.setIfInBounds_toArray, List.set_cons_zero, List.set_cons_succ]
          refine wpAnyH_done (by kernel_rfl) ?_ _
          clear hHeld
          go_wp2_with fail
          go_meet
          case rel => exact ⟨_, rfl, bS14, bM12, _, _, _, _, _, _, la1, la2, ln1, lc1, ln2, lc2, rs, ps1, ps2, rfl, rfl, by omega, ⟨HW1.out, HW2.out⟩, KS.out, KM.out, HV1.out, HR1.out, HZ1.out, HR2.out, HZ2.out, HL1.out, HL2.out, HL3.out, HB.out⟩
        · have KDold := KD
          have KMold := KM
          rw [if_pos (by rfl)]
          go_simp
          have hb := bel_alloc w12 (.cells #[.slice none 0 0, .slice none 0 0, .slice none 0 0, .slice none 0 0] 41)
          have KS := Lib.hid (heap_alloc_new w12 (.cells #[.slice none 0 0, .slice none 0 0, .slice none 0 0, .slice none 0 0] 41))
          obtain ⟨bS15, hbe⟩ : ∃ b, b = w12.heap.size := ⟨_, rfl⟩
          replace HB := Lib.hid (bel_trans HB.out hb)
          replace KD := Lib.hid (block_below KD.out hb)
          replace HS := Lib.hid (HS.out.below hb)
          replace HZ := Lib.hid (HZ.out.below hb)
          replace HLk := Lib.hid (HLk.out.below hb)
          replace HR1 := Lib.hid (own_below17 HR1.out hb)
          replace HZ1 := Lib.hid (HZ1.out.below hb)
          replace KM := Lib.hid (block_below KM.out hb)
          have hleKS : W.heap.size < bS15 := by rw [hbe]; exact bk2m KDold.out
          have hneKS : bM12 < bS15 := by rw [hbe]; exact bk2m KMold.out
          rw [← hbe] at KS ⊢
          clear hbe
          generalize w12.alloc _ = w15 at *
          clear hb KDold KMold
          refine hK.out _ _ ⟨cellB KD.out (i := 0) rfl, cellB KD.out (i := 1) rfl, cellB KD.out (i := 2) rfl⟩ (fun hHeld => ?_)
          clear hK K
          try simp only [Act.put, List.getElem_toArray, List.getElem_cons_succ, List.getElem_cons_zero, List.setIfInBounds_toArray, List.set_cons_zero, List.set_cons_succ]
          refine wpAnyH_ready (rs := [3]) (by kernel_rfl) (by simp) ?_
          refine AllReadyH.cons rfl (fun K hK => ?_) AllReadyH.nil
          rw [if_pos (by rfl)]
          go_simp
          refine (made23_any A1 A2 A3 n1 n2 n3 c1 c2 c3 sl zr ll _ (by exact HS.out) (by exact HZ.out) (by exact HLk.out)).mono ?_
          rintro e w16 ⟨rv2, zv2, la2, ln2, lc2, rs2, ps2, rfl, hrv, hro, hzp, hb⟩
          obtain rfl := HV1.out.uniq hrv
          have HW2 := Lib.hid HB.out.size
          have HL1 := Lib.hid (fun b h => (HR1.out.lt b h).2)
          have HL2 := Lib.hid (fun b h => (HZ1.out.2.1.lt b h).2)
          have HL3 := Lib.hid HZ1.out.lt
          go_wp2_with fail
          replace HB := Lib.hid (bel_trans HB.out hb)
          replace KD := Lib.hid (block_below KD.out hb)
          replace HS := Lib.hid (HS.out.below hb)
          replace HZ := Lib.hid (HZ.out.below hb)
          replace HLk := Lib.hid (HLk.out.below hb)
          replace HR1 := Lib.hid (own_below17 HR1.out hb)
          replace HZ1 := Lib.hid (HZ1.out.below hb)
          replace KM := Lib.hid (block_below KM.out hb)
          replace KS := Lib.hid (block_below KS.out hb)
          have HR2 := Lib.hid hro
          have HZ2 := Lib.hid hzp
          have hb1s := hb.size
          clear hrv hro hzp hb
          refine hK.out _ _ ⟨cellB KD.out (i := 0) rfl, cellB KD.out (i := 1) rfl, cellB KD.out (i := 2) rfl⟩ (fun hHeld => ?_)
          clear hK K
          try simp only [Act.put, List.getElem_toArray, List.getElem_cons_succ, List.getElem_cons_zero, List.setIfInBounds_toArray, List.set_cons_zero, List.set_cons_succ]
          obtain ⟨ra1, rc1, rfl⟩ := own_sl HR1.out
          obtain ⟨ra2, rc2, rfl⟩ := own_sl HR2.out
          obtain ⟨za1, zc1, rfl⟩ := own_sl HZ1.out.2.1
          obtain ⟨za2, zc2, rfl⟩ := own_sl HZ2.out.2.1
          have hlS := bk2m KS.out
          have hlM := bk2m KM.out
          refine wpAnyH_ready (rs := [6]) (by kernel_rfl) (by simp) ?_
          refine AllReadyH.cons rfl (fun K hK => ?_) AllReadyH.nil
          rw [if_pos (by rfl)]
          obtain ⟨x0, x1, x2, x3, u0, u1, u2, u3⟩ := row4u KS.out
          go_simp
          clear x0 x1 x2 x3 u0 u1 u2 u3
          have hgr := grownM_set (j := 3) (v := .slice none 0 0) (grownM_set (j := 2) (v := (.slice la1 ln1 lc1)) (grownM_set (j := 1) (v := (.slice za1 (zonesUp ((normD sl).length : Int) (normZ (zr.map fun p => p.2)) (normZ (zr.map fun p => p.2)).length).length zc1)) (grownM_set (j := 0) (v := (.slice ra1 rs.length rc1)) (grownM_refl w16 (some bS15)))))
          have hk9 := set4d (d0 := (.slice ra1 rs.length rc1)) (d1 := (.slice za1 (zonesUp ((normD sl).length : Int) (normZ (zr.map fun p => p.2)) (normZ (zr.map fun p => p.2)).length).length zc1)) (d2 := (.slice la1 ln1 lc1)) (d3 := .slice none 0 0) KS.out
          have hl9 := bk2m KS.out
          generalize (((w16.setCell _ _).setCell _ _).setCell _ _).setCell _ _ = w16s at *
          replace KD := Lib.hid (blk_grownM KD.out hgr (by omega))
          replace KM := Lib.hid (blk_grownM KM.out hgr (by omega))
          replace HR1 := Lib.hid (own_src HR1.out hgr KS.out (by decide))
          replace HR2 := Lib.hid (own_src HR2.out hgr KS.out (by decide))
          replace HZ1 := Lib.hid (HZ1.out.src hgr KS.out)
          replace HZ2 := Lib.hid (HZ2.out.src hgr KS.out)
          replace HB := Lib.hid (HB.out.trans (below_grownM hgr (by omega) hl9))
          replace KS := Lib.hid hk9
          clear hgr hk9 hl9
          refine hK.out _ _ ⟨cellB KD.out (i := 0) rfl, cellB KD.out (i := 1) rfl, cellB KD.out (i := 2) rfl⟩ (fun hHeld => ?_)
          clear hK K
          try simp only [Act.put, List.getElem_toArray, List.getElem_cons_succ, List.getElem_cons_zero, List.setIfInBounds_toArray, List.set_cons_zero, List.set_cons_succ]
          refine wpAnyH_ready (rs := [7]) (by kernel_rfl) (by simp) ?_
          refine AllReadyH.cons rfl (fun K hK => ?_) AllReadyH.nil
          rw [if_pos (by rfl)]
          obtain ⟨x0, x1, x2, x3, u0, u1, u2, u3⟩ := row4u KM.out
          go_simp
          clear x0 x1 x2 x3 u0 u1 u2 u3
          have hgr := grownM_set (j := 3) (v := .slice none 0 0) (grownM_set (j := 2) (v := (.slice la2 ln2 lc2)) (grownM_set (j := 1) (v := (.slice za2 (zonesUp ((normD sl).length : Int) (normZ (zr.map fun p => p.2)) (normZ (zr.map fun p => p.2)).length).length zc2)) (grownM_set (j := 0) (v := (.slice ra2 rs.length rc2)) (grownM_refl w16s (some bM12)))))
          have hk9 := set4d (d0 := (.slice ra2 rs.length rc2)) (d1 := (.slice za2 (zonesUp ((normD sl).length : Int) (normZ (zr.map fun p => p.2)) (normZ (zr.map fun p => p.2)).length).length zc2)) (d2 := (.slice la2 ln2 lc2)) (d3 := .slice none 0 0) KM.out
          have hl9 := bk2m KM.out
          generalize (((w16s.setCell _ _).setCell _ _).setCell _ _).setCell _ _ = w16ss at *
          replace KD := Lib.hid (blk_grownM KD.out hgr (by omega))
          replace KS := Lib.hid (blk_grownM KS.out hgr (by omega))
          replace HR1 := Lib.hid (own_src HR1.out hgr KM.out (by decide))
          replace HR2 := Lib.hid (own_src HR2.out hgr KM.out (by decide))
          replace HZ1 := Lib.hid (HZ1.out.src hgr KM.out)
          replace HZ2 := Lib.hid (HZ2.out.src hgr KM.out)
          replace HB := Lib.hid (HB.out.trans (below_grownM hgr (by omega) hl9))
          replace KM := Lib.hid hk9
          clear hgr hk9 hl9
          refine hK.out _ _ ⟨cellB KD.out (i := 0) rfl, cellB KD.out (i := 1) rfl, cellB KD.out (i := 2) rfl⟩ (fun hHeld => ?_)
          clear hK K
          try simp only [Act.put, List.getElem_toArray, List.getElem_cons_succ, List.getElem_cons_zero, List.setIfInBounds_toArray, List.set_cons_zero, List.set_cons_succ]
          refine wpAnyH_done (by kernel_rfl) ?_ _
          clear hHeld
          go_wp2_with fail
          go_meet
          case rel => exact ⟨_, rfl, bS15, bM12, _, _, _, _, _, _, la1, la2, ln1, lc1, ln2, lc2, rs, ps1, ps2, rfl, rfl, by omega, ⟨HW1.out, HW2.out⟩, KS.out, KM.out, HV1.out, HR1.out, HZ1.out, HR2.out, HZ2.out, HL1.out, HL2.out, HL3.out, HB.out⟩
    · have KDold := KD
      rw [if_pos (by rfl)]
      go_simp
      have hb := bel_alloc w0 (.cells #[.slice none 0 0, .slice none 0 0, .slice none 0 0, .slice none 0 0] 41)
      have KS := Lib.hid (heap_alloc_new w0 (.cells #[.slice none 0 0, .slice none 0 0, .slice none 0 0, .slice none 0 0] 41))
      obtain ⟨bS17, hbe⟩ : ∃ b, b = w0.heap.size := ⟨_, rfl⟩
      replace HB := Lib.hid (bel_trans HB.out hb)
      replace KD := Lib.hid (block_below KD.out hb)
      replace HS := Lib.hid (HS.out.below hb)
      replace HZ := Lib.hid (HZ.out.below hb)
      replace HLk := Lib.hid (HLk.out.below hb)
      have hleKS : W.heap.size < bS17 := by rw [hbe]; exact bk2m KDold.out
      rw [← hbe] at KS ⊢
      clear hbe
      generalize w0.alloc _ = w17 at *
      clear hb KDold
      refine hK.out _ _ ⟨cellB KD.out (i := 0) rfl, cellB KD.out (i := 1) rfl, cellB KD.out (i := 2) rfl⟩ (fun hHeld => ?_)
      clear hK K
      try simp only [Act.put, List.getElem_toArray, List.getElem_cons_succ, List.getElem_cons_zero, List.setIfInBounds_toArray, List.set_cons_zero, List.set_cons_succ]
      refine wpAnyH_ready (rs := [1, 5]) (by kernel_rfl) (by simp) ?_
      refine AllReadyH.cons rfl (fun K hK => ?_) (AllReadyH.cons rfl (fun K hK => ?_) AllReadyH.nil)
      · rw [if_pos (by rfl)]
        go_simp
        refine (made23_any A1 A2 A3 n1 n2 n3 c1 c2 c3 sl zr ll _ (by exact HS.out) (by exact HZ.out) (by exact HLk.out)).mono ?_
        rintro e w18 ⟨rv1, zv1, la1, ln1, lc1, rs, ps1, rfl, hrv, hro, hzp, hb⟩
        have HV1 := Lib.hid hrv
        have HW1 := Lib.hid HB.out.size
        go_wp2_with fail
        replace HB := Lib.hid (bel_trans HB.out hb)
        replace KD := Lib.hid (block_below KD.out hb)
        replace HS := Lib.hid (HS.out.below hb)
        replace HZ := Lib.hid (HZ.out.below hb)
        replace HLk := Lib.hid (HLk.out.below hb)
        replace KS := Lib.hid (block_below KS.out hb)
        have HR1 := Lib.hid hro
        have HZ1 := Lib.hid hzp
        have hb1s := hb.size
        clear hrv hro hzp hb
        refine hK.out _ _ ⟨cellB KD.out (i := 0) rfl, cellB KD.out (i := 1) rfl, cellB KD.out (i := 2) rfl⟩ (fun hHeld => ?_)
        clear hK K
        try simp only [Act.put, List.getElem_toArray, List.getElem_cons_succ, List.getElem_cons_zero, List.setIfInBounds_toArray, List.set_cons_zero, List.set_cons_succ]
        refine wpAnyH_ready (rs := [3, 5]) (by kernel_rfl) (by simp) ?_
        refine AllReadyH.cons rfl (fun K hK => ?_) (AllReadyH.cons rfl (fun K hK => ?_) AllReadyH.nil)
        · rw [if_pos (by rfl)]
          go_simp
          refine (made23_any A1 A2 A3 n1 n2 n3 c1 c2 c3 sl zr ll _ (by exact HS.out) (by exact HZ.out) (by exact HLk.out)).mono ?_
          rintro e w19 ⟨rv2, zv2, la2, ln2, lc2, rs2, ps2, rfl, hrv, hro, hzp, hb⟩
          obtain rfl := HV1.out.uniq hrv
          have HW2 := Lib.hid HB.out.size
          have HL1 := Lib.hid (fun b h => (HR1.out.lt b h).2)
          have HL2 := Lib.hid (fun b h => (HZ1.out.2.1.lt b h).2)
          have HL3 := Lib.hid HZ1.out.lt
          go_wp2_with fail
          replace HB := Lib.hid (bel_trans HB.out hb)
          replace KD := Lib.hid (block_below KD.out hb)
          replace HS := Lib.hid (HS.out.below hb)
          replace HZ := Lib.hid (HZ.out.below hb)
          replace HLk := Lib.hid (HLk.out.below hb)
          replace KS := Lib.hid (block_below KS.out hb)
          replace HR1 := Lib.hid (own_below17 HR1.out hb)
          replace HZ1 := Lib.hid (HZ1.out.below hb)
          have HR2 := Lib.hid hro
          have HZ2 := Lib.hid hzp
          have hb1s := hb.size
          clear hrv hro hzp hb
          refine hK.out _ _ ⟨cellB KD.out (i := 0) rfl, cellB KD.out (i := 1) rfl, cellB KD.out (i := 2) rfl⟩ (fun hHeld => ?_)
          clear hK K
          try simp only [Act.put, List.getElem_toArray, List.getElem_cons_succ, List.getElem_cons_zero, List.setIfInBounds_toArray, List.set_cons_zero, List.set_cons_succ]
          refine wpAnyH_ready (rs := [5]) (by kernel_rfl) (by simp) ?_
          refine AllReadyH.cons rfl (fun K hK => ?_) AllReadyH.nil
          have KDold := KD
          have KSold := KS
          rw [if_pos (by rfl)]
          go_simp
          have hb := bel_alloc w19 (.cells #[.slice none 0 0, .slice none 0 0, .slice none 0 0, .slice none 0 0] 41)
          have KM := Lib.hid (heap_alloc_new w19 (.cells #[.slice none 0 0, .slice none 0 0, .slice none 0 0, .slice none 0 0] 41))
          obtain ⟨bM20, hbe⟩ : ∃ b, b = w19.heap.size := ⟨_, rfl⟩
          replace HB := Lib.hid (bel_trans HB.out hb)
          replace KD := Lib.hid (block_below KD.out hb)
          replace HS := Lib.hid (HS.out.below hb)
          replace HZ := Lib.hid (HZ.out.below hb)
          replace HLk := Lib.hid (HLk.out.below hb)
          replace KS := Lib.hid (block_below KS.out hb)
          replace HR1 := Lib.hid (own_below17 HR1.out hb)
          replace HZ1 := Lib.hid (HZ1.out.below hb)
          replace HR2 := Lib.hid (own_below17 HR2.out hb)
          replace HZ2 := Lib.hid (HZ2.out.below hb)
          have hleKM : W.heap.size < bM20 := by rw [hbe]; exact bk2m KDold.out
          have hneKM : bS17 < bM20 := by rw [hbe]; exact bk2m KSold.out
          rw [← hbe] at KM ⊢
          clear hbe
          generalize w19.alloc _ = w20 at *
          clear hb KDold KSold
          refine hK.out _ _ ⟨cellB KD.out (i := 0) rfl, cellB KD.out (i := 1) rfl, cellB KD.out (i := 2) rfl⟩ (fun hHeld => ?_)
          clear hK K
          try simp only [Act.put, List.getElem_toArray, List.getElem_cons_succ, List.getElem_cons_zero, List.setIfInBounds_toArray, List.set_cons_zero, List.set_cons_succ]
          obtain ⟨ra1, rc1, rfl⟩ := own_sl HR1.out
          obtain ⟨ra2, rc2, rfl⟩ := own_sl HR2.out
          obtain ⟨za1, zc1, rfl⟩ := own_sl HZ1.out.2.1
          obtain ⟨za2, zc2, rfl⟩ := own_sl HZ2.out.2.1
          have hlS := bk2m KS.out
          have hlM := bk2m KM.out
          refine wpAnyH_ready (rs := [6]) (by kernel_rfl) (by simp) ?_
          refine AllReadyH.cons rfl (fun K hK => ?_) AllReadyH.nil
          rw [if_pos (by rfl)]
          obtain ⟨x0, x1, x2, x3, u0, u1, u2, u3⟩ := row4u KS.out
          go_simp
          clear x0 x1 x2 x3 u0 u1 u2 u3
          have hgr := grownM_set (j := 3) (v := .slice none 0 0) (grownM_set (j := 2) (v := (.slice la1 ln1 lc1)) (grownM_set (j := 1) (v := (.slice za1 (zonesUp ((normD sl).length : Int) (normZ (zr.map fun p => p.2)) (normZ (zr.map fun p => p.2)).length).length zc1)) (grownM_set (j := 0) (v := (.slice ra1 rs.length rc1)) (grownM_refl w20 (some bS17)))))
          have hk9 := set4d (d0 := (.slice ra1 rs.length rc1)) (d1 := (.slice za1 (zonesUp ((normD sl).length : Int) (normZ (zr.map fun p => p.2)) (normZ (zr.map fun p => p.2)).length).length zc1)) (d2 := (.slice la1 ln1 lc1)) (d3 := .slice none 0 0) KS.out
          have hl9 := bk2m KS.out
          generalize (((w20.setCell _ _).setCell _ _).setCell _ _).setCell _ _ = w20s at *
          replace KD := Lib.hid (blk_grownM KD.out hgr (by omega))
          replace KM := Lib.hid (blk_grownM KM.out hgr (by omega))
          replace HR1 := Lib.hid (own_src HR1.out hgr KS.out (by decide))
          replace HR2 := Lib.hid (own_src HR2.out hgr KS.out (by decide))
          replace HZ1 := Lib.hid (HZ1.out.src hgr KS.out)
          replace HZ2 := Lib.hid (HZ2.out.src hgr KS.out)
          replace HB := Lib.hid (HB.out.trans (below_grownM hgr (by omega) hl9))
          replace KS := Lib.hid hk9
          clear hgr hk9 hl9
          refine hK.out _ _ ⟨cellB KD.out (i := 0) rfl, cellB KD.out (i := 1) rfl, cellB KD.out (i := 2) rfl⟩ (fun hHeld => ?_)
          clear hK K
          try simp only [Act.put, List.getElem_toArray, List.getElem_cons_succ, List.getElem_cons_zero, List.setIfInBounds_toArray, List.set_cons_zero, List.set_cons_succ]
          refine wpAnyH_ready (rs := [7]) (by kernel_rfl) (by simp) ?_
          refine AllReadyH.cons rfl (fun K hK => ?_) AllReadyH.nil
          rw [if_pos (by rfl)]
          obtain ⟨x0, x1, x2, x3, u0, u1, u2, u3⟩ := row4u KM.out
          go_simp
          clear x0 x1 x2 x3 u0 u1 u2 u3
          have hgr := grownM_set (j := 3) (v := .slice none 0 0) (grownM_set (j := 2) (v := (.slice la2 ln2 lc2)) (grownM_set (j := 1) (v := (.slice za2 (zonesUp ((normD sl).length : Int) (normZ (zr.map fun p => p.2)) (normZ (zr.map fun p => p.2)).length).length zc2)) (grownM_set (j := 0) (v := (.slice ra2 rs.length rc2)) (grownM_refl w20s (some bM20)))))
          have hk9 := set4d (d0 := (.slice ra2 rs.length rc2)) (d1 := (.slice za2 (zonesUp ((normD sl).length : Int) (normZ (zr.map fun p => p.2)) (normZ (zr.map fun p => p.2)).length).length zc2)) (d2 := (.slice la2 ln2 lc2)) (d3 := .slice none 0 0) KM.out
          have hl9 := bk2m KM.out
          generalize (((w20s.setCell _ _).setCell _ _).setCell _ _).setCell _ _ = w20ss at *
          replace KD := Lib.hid (blk_grownM KD.out hgr (by omega))
          replace KS := Lib.hid (blk_grownM KS.out hgr (by omega))
          replace HR1 := Lib.hid (own_src HR1.out hgr KM.out (by decide))
          replace HR2 := Lib.hid (own_src HR2.out hgr KM.out (by decide))
          replace HZ1 := Lib.hid (HZ1.out.src hgr KM.out)
          replace HZ2 := Lib.hid (HZ2.out.src hgr KM.out)
          replace HB := Lib.hid (HB.out.trans (below_grownM hgr (by omega) hl9))
          replace KM := Lib.hid hk9
          clear hgr hk9 hl9
          refine hK.out _ _ ⟨cellB KD.out (i := 0) rfl, cellB KD.out (i := 1) rfl, cellB KD.out (i := 2) rfl⟩ (fun hHeld => ?_)
          clear hK K
          try simp only [Act.put, List.getElem_toArray, List.getElem_cons_succ, List.getElem_cons_zero, List.setIfInBounds_toArray, List.set_cons_zero, List.set_cons_succ]
          refine wpAnyH_done (by kernel_rfl) ?_ _
          clear hHeld
          go_wp2_with fail
          go_meet
          case rel => exact ⟨_, rfl, bS17, bM20, _, _, _, _, _, _, la1, la2, ln1, lc1, ln2, lc2, rs, ps1, ps2, rfl, rfl, by omega, ⟨HW1.out, HW2.out⟩, KS.out, KM.out, HV1.out, HR1.out, HZ1.out, HR2.out, HZ2.out, HL1.out, HL2.out, HL3.out, HB.out⟩
        · have KDold := KD
          have KSold := KS
          rw [if_pos (by rfl)]
          go_simp
          have hb := bel_alloc w18 (.cells #[.slice none 0 0, .slice none 0 0, .slice none 0 0, .slice none 0 0] 41)
          have KM := Lib.hid (heap_alloc_new w18 (.cells #[.slice none 0 0, .slice none 0 0, .slice none 0 0, .slice none 0 0] 41))
          obtain ⟨bM21, hbe⟩ : ∃ b, b = w18.heap.size := ⟨_, rfl⟩
          replace HB := Lib.hid (bel_trans HB.out hb)
          replace KD := Lib.hid (block_below KD.out hb)
          replace HS := Lib.hid (HS.out.below hb)
          replace HZ := Lib.hid (HZ.out.below hb)
          replace HLk := Lib.hid (HLk.out.below hb)
          replace KS := Lib.hid (block_below KS.out hb)
          replace HR1 := Lib.hid (own_below17 HR1.out hb)
          replace HZ1 := Lib.hid (HZ1.out.below hb)
          have hleKM : W.heap.size < bM21 := by rw [hbe]; exact bk2m KDold.out
          have hneKM : bS17 < bM21 := by rw [hbe]; exact bk2m KSold.out
          rw [← hbe] at KM ⊢
          clear hbe
          generalize w18.alloc _ = w21 at *
          clear hb KDold KSold
          refine hK.out _ _ ⟨cellB KD.out (i := 0) rfl, cellB KD.out (i := 1) rfl, cellB KD.out (i := 2) rfl⟩ (fun hHeld => ?_)
          clear hK K
          try simp only [Act.put, List.getElem_toArray, List.getElem_cons_succ, List.getElem_cons_zero, List.setIfInBounds_toArray, List.set_cons_zero, List.set_cons_succ]
          refine wpAnyH_ready (rs := [3]) (by kernel_rfl) (by simp) ?_
          refine AllReadyH.cons rfl (fun K hK => ?_) AllReadyH.nil
          rw [if_pos (by rfl)]
          go_simp
          refine (made23_any A1 A2 A3 n1 n2 n3 c1 c2 c3 sl zr ll _ (by exact HS.out) (by exact HZ.out) (by exact HLk.out)).mono ?_
          rintro e w22 ⟨rv2, zv2, la2, ln2, lc2, rs2, ps2, rfl, hrv, hro, hzp, hb⟩
          obtain rfl := HV1.out.uniq hrv
          have HW2 := Lib.hid HB.out.size
          have HL1 := Lib.hid (fun b h => (HR1.out.lt b h).2)
          have HL2 := Lib.hid (fun b h => (HZ1.out.2.1.lt b h).2)
          have HL3 := Lib.hid HZ1.out.lt
          go_wp2_with fail
          replace HB := Lib.hid (bel_trans HB.out hb)
          replace KD := Lib.hid (block_below KD.out hb)
          replace HS := Lib.hid (HS.out.below hb)
          replace HZ := Lib.hid (HZ.out.below hb)
          replace HLk := Lib.hid (HLk.out.below hb)
          replace KS := Lib.hid (block_below KS.out hb)
          replace HR1 := Lib.hid (own_below17 HR1.out hb)
          replace HZ1 := Lib.hid (HZ1.out.below hb)
          replace KM := Lib.hid (block_below KM.out hb)
          have HR2 := Lib.hid hro
          have HZ2 := Lib.hid hzp
          have hb1s := hb.size
          clear hrv hro hzp hb
          refine hK.out _ _ ⟨cellB KD.out (i := 0) rfl, cellB KD.out (i := 1) rfl, cellB KD.out (i := 2) rfl⟩ (fun hHeld => ?_)
          clear hK K
          try simp only [Act.put, List.getElem_toArray, List.getElem_cons_succ, List.getElem_cons_zero, List.setIfInBounds_toArray, List.set_cons_zero, List.set_cons_succ]
          obtain ⟨ra1, rc1, rfl⟩ := own_sl HR1.out
          obtain ⟨ra2, rc2, rfl⟩ := own_sl HR2.out
          obtain ⟨za1, zc1, rfl⟩ := own_sl HZ1.out.2.1
          obtain ⟨za2, zc2, rfl⟩ := own_sl HZ2.out.2.1
          have hlS := bk2m KS.out
          have hlM := bk2m KM.out
          refine wpAnyH_ready (rs := [6]) (by kernel_rfl) (by simp) ?_
          refine AllReadyH.cons rfl (fun K hK => ?_) AllReadyH.nil
          rw [if_pos (by rfl)]
          obtain ⟨x0, x1, x2, x3, u0, u1, u2, u3⟩ := row4u KS.out
          go_simp
          clear x0 x1 x2 x3 u0 u1 u2 u3
          have hgr := grownM_set (j := 3) (v := .slice none 0 0) (grownM_set (j := 2) (v := (.slice la1 ln1 lc1)) (grownM_set (j := 1) (v := (.slice za1 (zonesUp ((normD sl).length : Int) (normZ (zr.map fun p => p.2)) (normZ (zr.map fun p => p.2)).length).length zc1)) (grownM_set (j := 0) (v := (.slice ra1 rs.length rc1)) (grownM_refl w22 (some bS17)))))
          have hk9 := set4d (d0 := (.slice ra1 rs.length rc1)) (d1 := (.slice za1 (zonesUp ((normD sl).length : Int) (normZ (zr.map fun p => p.2)) (normZ (zr.map fun p => p.2)).length).length zc1)) (d2 := (.slice la1 ln1 lc1)) (d3 := .slice none 0 0) KS.out
          have hl9 := bk2m KS.out
          generalize (((w22.setCell _ _).setCell _ _).setCell _ _).setCell _ _ = w22s at *
          replace KD := Lib.hid (blk_grownM KD.out hgr (by omega))
          replace KM := Lib.hid (blk_grownM KM.out hgr (by omega))
          replace HR1 := Lib.hid (own_src HR1.out hgr KS.out (by decide))
          replace HR2 := Lib.hid (own_src HR2.out hgr KS.out (by decide))
          replace HZ1 := Lib.hid (HZ1.out.src hgr KS.out)
          replace HZ2 := Lib.hid (HZ2.out.src hgr KS.out)
          replace HB := Lib.hid (HB.out.trans (below_grownM hgr (by omega) hl9))
          replace KS := Lib.hid hk9
          clear hgr hk9 hl9
          refine hK.out _ _ ⟨cellB KD.out (i := 0) rfl, cellB KD.out (i := 1) rfl, cellB KD.out (i := 2) rfl⟩ (fun hHeld => ?_)
          clear hK K
          try simp only [Act.put, List.getElem_toArray, List.getElem_cons_succ, List.getElem_cons_zero, List.setIfInBounds_toArray, List.set_cons_zero, List.set_cons_succ]
          refine wpAnyH_ready (rs := [7]) (by kernel_rfl) (by simp) ?_
          refine AllReadyH.cons rfl (fun K hK => ?_) AllReadyH.nil
          rw [if_pos (by rfl)]
          obtain ⟨x0, x1, x2, x3, u0, u1, u2, u3⟩ := row4u KM.out
          go_simp
          clear x0 x1 x2 x3 u0 u1 u2 u3
          have hgr := grownM_set (j := 3) (v := .slice none 0 0) (grownM_set (j := 2) (v := (.slice la2 ln2 lc2)) (grownM_set (j := 1) (v := (.slice za2 (zonesUp ((normD sl).length : Int) (normZ (zr.map fun p => p.2)) (normZ (zr.map fun p => p.2)).length).length zc2)) (grownM_set (j := 0) (v := (.slice ra2 rs.length rc2)) (grownM_refl w22s (some bM21)))))
          have hk9 := set4d (d0 := (.slice ra2 rs.length rc2)) (d1 := (.slice za2 (zonesUp ((normD sl).length : Int) (normZ (zr.map fun p => p.2)) (normZ (zr.map fun p => p.2)).length).length zc2)) (d2 := (.slice la2 ln2 lc2)) (d3 := .slice none 0 0) KM.out
          have hl9 := bk2m KM.out
          generalize (((w22s.setCell _ _).setCell _ _).setCell _ _).setCell _ _ = w22ss at *
          replace KD := Lib.hid (blk_grownM KD.out hgr (by omega))
          replace KS := Lib.hid (blk_grownM KS.out hgr (by omega))
          replace HR1 := Lib.hid (own_src HR1.out hgr KM.out (by decide))
          replace HR2 := Lib.hid (own_src HR2.out hgr KM.out (by decide))
          replace HZ1 := Lib.hid (HZ1.out.src hgr KM.out)
          replace HZ2 := Lib.hid (HZ2.out.src hgr KM.out)
          replace HB := Lib.hid (HB.out.trans (below_grownM hgr (by omega) hl9))
          replace KM := Lib.hid hk9
          clear hgr hk9 hl9
          refine hK.out _ _ ⟨cellB KD.out (i := 0) rfl, cellB KD.out (i := 1) rfl, cellB KD.out (i := 2) rfl⟩ (fun hHeld => ?_)
          clear hK K
          try simp only [Act.put, List.getElem_toArray, List.getElem_cons_succ, List.getElem_cons_zero, List.setIfInBounds_toArray, List.set_cons_zero, List.set_cons_succ]
          refine wpAnyH_done (by kernel_rfl) ?_ _
          clear hHeld
          go_wp2_with fail
          go_meet
          case rel => exact ⟨_, rfl, bS17, bM21, _, _, _, _, _, _, la1, la2, ln1, lc1, ln2, lc2, rs, ps1, ps2, rfl, rfl, by omega, ⟨HW1.out, HW2.out⟩, KS.out, KM.out, HV1.out, HR1.out, HZ1.out, HR2.out, HZ2.out, HL1.out, HL2.out, HL3.out, HB.out⟩
      · have KDold := KD
        have KSold := KS
        rw [if_pos (by rfl)]
        go_simp
        have hb := bel_alloc w17 (.cells #[.slice none 0 0, .slice none 0 0, .slice none 0 0, .slice none 0 0] 41)
        have KM := Lib.hid (heap_alloc_new w17 (.cells #[.slice none 0 0, .slice none 0 0, .slice none 0 0, .slice none 0 0] 41))
        obtain ⟨bM23, hbe⟩ : ∃ b, b = w17.heap.size := ⟨_, rfl⟩
        replace HB := Lib.hid (bel_trans HB.out hb)
        replace KD := Lib.hid (block_below KD.out hb)
        replace HS := Lib.hid (HS.out.below hb)
        replace HZ := Lib.hid (HZ.out.below hb)
        replace HLk := Lib.hid (HLk.out.below hb)
        replace KS := Lib.hid (block_below KS.out hb)
        have hleKM : W.heap.size < bM23 := by rw [hbe]; exact bk2m KDold.out
        have hneKM : bS17 < bM23 := by rw [hbe]; exact bk2m KSold.out
        rw [← hbe] at KM ⊢
        clear hbe
        generalize w17.alloc _ = w23 at *
        clear hb KDold KSold
        refine hK.out _ _ ⟨cellB KD.out (i := 0) rfl, cellB KD.out (i := 1) rfl, cellB KD.out (i := 2) rfl⟩ (fun hHeld => ?_)
        clear hK K
        try simp only [Act.put, List.getElem_toArray, List.getElem_cons_succ, List.getElem_cons_zero, List.setIfInBounds_toArray, List.set_cons_zero, List.set_cons_succ]
        refine wpAnyH_ready (rs := [1]) (by kernel_rfl) (by simp) ?_
        refine AllReadyH.cons rfl (fun K hK => ?_) AllReadyH.nil
        rw [if_pos (by rfl)]
        go_simp
        refine (made23_any A1 A2 A3 n1 n2 n3 c1 c2 c3 sl zr ll _ (by exact HS.out) (by exact HZ.out) (by exact HLk.out)).mono ?_
        rintro e w24 ⟨rv1, zv1, la1, ln1, lc1, rs, ps1, rfl, hrv, hro, hzp, hb⟩
        have HV1 := Lib.hid hrv
        have HW1 := Lib.hid HB.out.size
        go_wp2_with fail
        replace HB := Lib.hid (bel_trans HB.out hb)
        replace KD := Lib.hid (block_below KD.out hb)
        replace HS := Lib.hid (HS.out.below hb)
        replace HZ := Lib.hid (HZ.out.below hb)
        replace HLk := Lib.hid (HLk.out.below hb)
        replace KS := Lib.hid (block_below KS.out hb)
        replace KM := Lib.hid (block_below KM.out hb)
        have HR1 := Lib.hid hro
        have HZ1 := Lib.hid hzp
        have hb1s := hb.size
        clear hrv hro hzp hb
        refine hK.out _ _ ⟨cellB KD.out (i := 0) rfl, cellB KD.out (i := 1) rfl, cellB KD.out (i := 2) rfl⟩ (fun hHeld => ?_)
        clear hK K
        try simp only [Act.put, List.getElem_toArray, List.getElem_cons_succ, List.getElem_cons_zero, List.setIfInBounds_toArray, List.set_cons_zero, List.set_cons_succ]
        refine wpAnyH_ready (rs := [3]) (by kernel_rfl) (by simp) ?_
        refine AllReadyH.cons rfl (fun K hK => ?_) AllReadyH.nil
        rw [if_pos (by rfl)]
        go_simp
        refine (made23_any A1 A2 A3 n1 n2 n3 c1 c2 c3 sl zr ll _ (by exact HS.out) (by exact HZ.out) (by exact HLk.out)).mono ?_
        rintro e w25 ⟨rv2, zv2, la2, ln2, lc2, rs2, ps2, rfl, hrv, hro, hzp, hb⟩
        obtain rfl := HV1.out.uniq hrv
        have HW2 := Lib.hid HB.out.size
        have HL1 := Lib.hid (fun b h => (HR1.out.lt b h).2)
        have HL2 := Lib.hid (fun b h => (HZ1.out.2.1.lt b h).2)
        have HL3 := Lib.hid HZ1.out.lt
        go_wp2_with fail
        replace HB := Lib.hid (bel_trans HB.out hb)
        replace KD := Lib.hid (block_below KD.out hb)
        replace HS := Lib.hid (HS.out.below hb)
        replace HZ := Lib.hid (HZ.out.below hb)
        replace HLk := Lib.hid (HLk.out.below hb)
        replace KS := Lib.hid (block_below KS.out hb)
        replace KM := Lib.hid (block_below KM.out hb)
        replace HR1 := Lib.hid (own_below17 HR1.out hb)
        replace HZ1 := Lib.hid (HZ1.out.below hb)
        have HR2 := Lib.hid hro
        have HZ2 := Lib.hid hzp
        have hb1s := hb.size
        clear hrv hro hzp hb
        refine hK.out _ _ ⟨cellB KD.out (i := 0) rfl, cellB KD.out (i := 1) rfl, cellB KD.out (i := 2) rfl⟩ (fun hHeld => ?_)
        clear hK K
        try simp only [Act.put, List.getElem_toArray, List.getElem_cons_succ, List.getElem_cons_zero, List.setIfInBounds_toArray, List.set_cons_zero, List.set_cons_succ]
        obtain ⟨ra1, rc1, rfl⟩ := own_sl HR1.out
        obtain ⟨ra2, rc2, rfl⟩ := own_sl HR2.out
        obtain ⟨za1, zc1, rfl⟩ := own_sl HZ1.out.2.1
        obtain ⟨za2, zc2, rfl⟩ := own_sl HZ2.out.2.1
        have hlS := bk2m KS.out
        have hlM := bk2m KM.out
        refine wpAnyH_ready (rs := [6]) (by kernel_rfl) (by simp) ?_
        refine AllReadyH.cons rfl (fun K hK => ?_) AllReadyH.nil
        rw [if_pos (by rfl)]
        obtain ⟨x0, x1, x2, x3, u0, u1, u2, u3⟩ := row4u KS.out
        go_simp
        clear x0 x1 x2 x3 u0 u1 u2 u3
        have hgr := grownM_set (j := 3) (v := .slice none 0 0) (grownM_set (j := 2) (v := (.slice la1 ln1 lc1)) (grownM_set (j := 1) (v := (.slice za1 (zonesUp ((normD sl).length : Int) (normZ (zr.map fun p => p.2)) (normZ (zr.map fun p => p.2)).length).length zc1)) (grownM_set (j := 0) (v := (.slice ra1 rs.length rc1)) (grownM_refl w25 (some bS17)))))
        have hk9 := set4d (d0 := (.slice ra1 rs.length rc1)) (d1 := (.slice za1 (zonesUp ((normD sl).length : Int) (normZ (zr.map fun p => p.2)) (normZ (zr.map fun p => p.2)).length).length zc1)) (d2 := (.slice la1 ln1 lc1)) (d3 := .slice none 0 0) KS.out
        have hl9 := bk2m KS.out
        generalize (((w25.setCell _ _).setCell _ _).setCell _ _).setCell _ _ = w25s at *
        replace KD := Lib.hid (blk_grownM KD.out hgr (by omega))
        replace KM := Lib.hid (blk_grownM KM.out hgr (by omega))
        replace HR1 := Lib.hid (own_src HR1.out hgr KS.out (by decide))
        replace HR2 := Lib.hid (own_src HR2.out hgr KS.out (by decide))
        replace HZ1 := Lib.hid (HZ1.out.src hgr KS.out)
        replace HZ2 := Lib.hid (HZ2.out.src hgr KS.out)
        replace HB := Lib.hid (HB.out.trans (below_grownM hgr (by omega) hl9))
        replace KS := Lib.hid hk9
        clear hgr hk9 hl9
        refine hK.out _ _ ⟨cellB KD.out (i := 0) rfl, cellB KD.out (i := 1) rfl, cellB KD.out (i := 2) rfl⟩ (fun hHeld => ?_)
        clear hK K
        try simp only [Act.put, List.getElem_toArray, List.getElem_cons_succ, List.getElem_cons_zero, List.setIfInBounds_toArray, List.set_cons_zero, List.set_cons_succ]
        refine wpAnyH_ready (rs := [7]) (by kernel_rfl) (by simp) ?_
        refine AllReadyH.cons rfl (fun K hK => ?_) AllReadyH.nil
        rw [if_pos (by rfl)]
        obtain ⟨x0, x1, x2, x3, u0, u1, u2, u3⟩ := row4u KM.out
        go_simp
        clear x0 x1 x2 x3 u0 u1 u2 u3
        have hgr := grownM_set (j := 3) (v := .slice none 0 0) (grownM_set (j := 2) (v := (.slice la2 ln2 lc2)) (grownM_set (j := 1) (v := (.slice za2 (zonesUp ((normD sl).length : Int) (normZ (zr.map fun p => p.2)) (normZ (zr.map fun p => p.2)).length).length zc2)) (grownM_set (j := 0) (v := (.slice ra2 rs.length rc2)) (grownM_refl w25s (some bM23)))))
        have hk9 := set4d (d0 := (.slice ra2 rs.length rc2)) (d1 := (.slice za2 (zonesUp ((normD sl).length : Int) (normZ (zr.map fun p => p.2)) (normZ (zr.map fun p => p.2)).length).length zc2)) (d2 := (.slice la2 ln2 lc2)) (d3 := .slice none 0 0) KM.out
        have hl9 := bk2m KM.out
        generalize (((w25s.setCell _ _).setCell _ _).setCell _ _).setCell _ _ = w25ss at *
        replace KD := Lib.hid (blk_grownM KD.out hgr (by omega))
        replace KS := Lib.hid (blk_grownM KS.out hgr (by omega))
        replace HR1 := Lib.hid (own_src HR1.out hgr KM.out (by decide))
        replace HR2 := Lib.hid (own_src HR2.out hgr KM.out (by decide))
        replace HZ1 := Lib.hid (HZ1.out.src hgr KM.out)
        replace HZ2 := Lib.hid (HZ2.out.src hgr KM.out)
        replace HB := Lib.hid (HB.out.trans (below_grownM hgr (by omega) hl9))
        replace KM := Lib.hid hk9
        clear hgr hk9 hl9
        refine hK.out _ _ ⟨cellB KD.out (i := 0) rfl, cellB KD.out (i := 1) rfl, cellB KD.out (i := 2) rfl⟩ (fun hHeld => ?_)
        clear hK K
        try simp only [Act.put, List.getElem_toArray, List.getElem_cons_succ, List.getElem_cons_zero, List.setIfInBounds_toArray, List.set_cons_zero, List.set_cons_succ]
        refine wpAnyH_done (by kernel_rfl) ?_ _
        clear hHeld
        go_wp2_with fail
        go_meet
        case rel => exact ⟨_, rfl, bS17, bM23, _, _, _, _, _, _, la1, la2, ln1, lc1, ln2, lc2, rs, ps1, ps2, rfl, rfl, by omega, ⟨HW1.out, HW2.out⟩, KS.out, KM.out, HV1.out, HR1.out, HZ1.out, HR2.out, HZ2.out, HL1.out, HL2.out, HL3.out, HB.out⟩
    · have KDold := KD
      rw [if_pos (by rfl)]
      go_simp
      have hb := bel_alloc w0 (.cells #[.slice none 0 0, .slice none 0 0, .slice none 0 0, .slice none 0 0] 41)
      have KM := Lib.hid (heap_alloc_new w0 (.cells #[.slice none 0 0, .slice none 0 0, .slice none 0 0, .slice none 0 0] 41))
      obtain ⟨bM26, hbe⟩ : ∃ b, b = w0.heap.size := ⟨_, rfl⟩
      replace HB := Lib.hid (bel_trans HB.out hb)
      replace KD := Lib.hid (block_below KD.out hb)
      replace HS := Lib.hid (HS.out.below hb)
      replace HZ := Lib.hid (HZ.out.below hb)
      replace HLk := Lib.hid (HLk.out.below hb)
      have hleKM : W.heap.size < bM26 := by rw [hbe]; exact bk2m KDold.out
      rw [← hbe] at KM ⊢
      clear hbe
      generalize w0.alloc _ = w26 at *
      clear hb KDold
      refine hK.out _ _ ⟨cellB KD.out (i := 0) rfl, cellB KD.out (i := 1) rfl, cellB KD.out (i := 2) rfl⟩ (fun hHeld => ?_)
      clear hK K
      try simp only [Act.put, List.getElem_toArray, List.getElem_cons_succ, List.getElem_cons_zero, List.setIfInBounds_toArray, List.set_cons_zero, List.set_cons_succ]
      refine wpAnyH_ready (rs := [1, 4]) (by kernel_rfl) (by simp) ?_
      refine AllReadyH.cons rfl (fun K hK => ?_) (AllReadyH.cons rfl (fun K hK => ?_) AllReadyH.nil)
      · rw [if_pos (by rfl)]
        go_simp
        refine (made23_any A1 A2 A3 n1 n2 n3 c1 c2 c3 sl zr ll _ (by exact HS.out) (by exact HZ.out) (by exact HLk.out)).mono ?_
        rintro e w27 ⟨rv1, zv1, la1, ln1, lc1, rs, ps1, rfl, hrv, hro, hzp, hb⟩
        have HV1 := Lib.hid hrv
        have HW1 := Lib.hid HB.out.size
        go_wp2_with fail
        replace HB := Lib.hid (bel_trans HB.out hb)
        replace KD := Lib.hid (block_below KD.out hb)
        replace HS := Lib.hid (HS.out.below hb)
        replace HZ := Lib.hid (HZ.out.below hb)
        replace HLk := Lib.hid (HLk.out.below hb)
        replace KM := Lib.hid (block_below KM.out hb)
        have HR1 := Lib.hid hro
        have HZ1 := Lib.hid hzp
        have hb1s := hb.size
        clear hrv hro hzp hb
        refine hK.out _ _ ⟨cellB KD.out (i := 0) rfl, cellB KD.out (i := 1) rfl, cellB KD.out (i := 2) rfl⟩ (fun hHeld => ?_)
        clear hK K
        try simp only [Act.put, List.getElem_toArray, List.getElem_cons_succ, List.getElem_cons_zero, List.setIfInBounds_toArray, List.set_cons_zero, List.set_cons_succ]
        refine wpAnyH_ready (rs := [3, 4]) (by kernel_rfl) (by simp) ?_
        refine AllReadyH.cons rfl (fun K hK => ?_) (AllReadyH.cons rfl (fun K hK => ?_) AllReadyH.nil)
        · rw [if_pos (by rfl)]
          go_simp
          refine (made23_any A1 A2 A3 n1 n2 n3 c1 c2 c3 sl zr ll _ (by exact HS.out) (by exact HZ.out) (by exact HLk.out)).mono ?_
          rintro e w28 ⟨rv2, zv2, la2, ln2, lc2, rs2, ps2, rfl, hrv, hro, hzp, hb⟩
          obtain rfl := HV1.out.uniq hrv
          have HW2 := Lib.hid HB.out.size
          have HL1 := Lib.hid (fun b h => (HR1.out.lt b h).2)
          have HL2 := Lib.hid (fun b h => (HZ1.out.2.1.lt b h).2)
          have HL3 := Lib.hid HZ1.out.lt
          go_wp2_with fail
          replace HB := Lib.hid (bel_trans HB.out hb)
          replace KD := Lib.hid (block_below KD.out hb)
          replace HS := Lib.hid (HS.out.below hb)
          replace HZ := Lib.hid (HZ.out.below hb)
          replace HLk := Lib.hid (HLk.out.below hb)
          replace KM := Lib.hid (block_below KM.out hb)
          replace HR1 := Lib.hid (own_below17 HR1.out hb)
          replace HZ1 := Lib.hid (HZ1.out.below hb)
          have HR2 := Lib.hid hro
          have HZ2 := Lib.hid hzp
          have hb1s := hb.size
          clear hrv hro hzp hb
          refine hK.out _ _ ⟨cellB KD.out (i := 0) rfl, cellB KD.out (i := 1) rfl, cellB KD.out (i := 2) rfl⟩ (fun hHeld => ?_)
          clear hK K
          try simp only [Act.put, List.getElem_toArray, List.getElem_cons_succ, List.getElem_cons_zero, List.setIfInBounds_toArray, List.set_cons_zero, List.set_cons_succ]
          refine wpAnyH_ready (rs := [4]) (by kernel_rfl) (by simp) ?_
          refine AllReadyH.cons rfl (fun K hK => ?_) AllReadyH.nil
          have KDold := KD
          have KMold := KM
          rw [if_pos (by rfl)]
          go_simp
          have hb := bel_alloc w28 (.cells #[.slice none 0 0, .slice none 0 0, .slice none 0 0, .slice none 0 0] 41)
          have KS := Lib.hid (heap_alloc_new w28 (.cells #[.slice none 0 0, .slice none 0 0, .slice none 0 0, .slice none 0 0] 41))
          obtain ⟨bS29, hbe⟩ : ∃ b, b = w28.heap.size := ⟨_, rfl⟩
          replace HB := Lib.hid (bel_trans HB.out hb)
          replace KD := Lib.hid (block_below KD.out hb)
          replace HS := Lib.hid (HS.out.below hb)
          replace HZ := Lib.hid (HZ.out.below hb)
          replace HLk := Lib.hid (HLk.out.below hb)
          replace KM := Lib.hid (block_below KM.out hb)
          replace HR1 := Lib.hid (own_below17 HR1.out hb)
          replace HZ1 := Lib.hid (HZ1.out.below hb)
          replace HR2 := Lib.hid (own_below17 HR2.out hb)
          replace HZ2 := Lib.hid (HZ2.out.below hb)
          have hleKS : W.heap.size < bS29 := by rw [hbe]; exact bk2m KDold.out
          have hneKS : bM26 < bS29 := by rw [hbe]; exact bk2m KMold.out
          rw [← hbe] at KS ⊢
          clear hbe
          generalize w28.alloc _ = w29 at *
          clear hb KDold KMold
          refine hK.out _ _ ⟨cellB KD.out (i := 0) rfl, cellB KD.out (i := 1) rfl, cellB KD.out (i := 2) rfl⟩ (fun hHeld => ?_)
          clear hK K
          try simp only [Act.put, List.getElem_toArray, List.getElem_cons_succ, List.getElem_cons_zero, List.setIfInBounds_toArray, List.set_cons_zero, List.set_cons_succ]
          obtain ⟨ra1, rc1, rfl⟩ := own_sl HR1.out
          obtain ⟨ra2, rc2, rfl⟩ := own_sl HR2.out
          obtain ⟨za1, zc1, rfl⟩ := own_sl HZ1.out.2.1
          obtain ⟨za2, zc2, rfl⟩ := own_sl HZ2.out.2.1
          have hlS := bk2m KS.out
          have hlM := bk2m KM.out
          refine wpAnyH_ready (rs := [6]) (by kernel_rfl) (by simp) ?_
          refine AllReadyH.cons rfl (fun K hK => ?_) AllReadyH.nil
          rw [if_pos (by rfl)]
          obtain ⟨x0, x1, x2, x3, u0, u1, u2, u3⟩ := row4u KS.out
          go_simp
          clear x0 x1 x2 x3 u0 u1 u2 u3
          have hgr := grownM_set (j := 3) (v := .slice none 0 0) (grownM_set (j := 2) (v := (.slice la1 ln1 lc1)) (grownM_set (j := 1) (v := (.slice za1 (zonesUp ((normD sl).length : Int) (normZ (zr.map fun p => p.2)) (normZ (zr.map fun p => p.2)).length).length zc1)) (grownM_set (j := 0) (v := (.slice ra1 rs.length rc1)) (grownM_refl w29 (some bS29)))))
          have hk9 := set4d (d0 := (.slice ra1 rs.length rc1)) (d1 := (.slice za1 (zonesUp ((normD sl).length : Int) (normZ (zr.map fun p => p.2)) (normZ (zr.map fun p => p.2)).length).length zc1)) (d2 := (.slice la1 ln1 lc1)) (d3 := .slice none 0 0) KS.out
          have hl9 := bk2m KS.out
          generalize (((w29.setCell _ _).setCell _ _).setCell _ _).setCell _ _ = w29s at *
          replace KD := Lib.hid (blk_grownM KD.out hgr (by omega))
          replace KM := Lib.hid (blk_grownM KM.out hgr (by omega))
          replace HR1 := Lib.hid (own_src HR1.out hgr KS.out (by decide))
          replace HR2 := Lib.hid (own_src HR2.out hgr KS.out (by decide))
          replace HZ1 := Lib.hid (HZ1.out.src hgr KS.out)
          replace HZ2 := Lib.hid (HZ2.out.src hgr KS.out)
          replace HB := Lib.hid (HB.out.trans (below_grownM hgr (by omega) hl9))
          replace KS := Lib.hid hk9
          clear hgr hk9 hl9
          refine hK.out _ _ ⟨cellB KD.out (i := 0) rfl, cellB KD.out (i := 1) rfl, cellB KD.out (i := 2) rfl⟩ (fun hHeld => ?_)
          clear hK K
          try simp only [Act.put, List.getElem_toArray, List.getElem_cons_succ, List.getElem_cons_zero, List.setIfInBounds_toArray, List.set_cons_zero, List.set_cons_succ]
          refine wpAnyH_ready (rs := [7]) (by kernel_rfl) (by simp) ?_
          refine AllReadyH.cons rfl (fun K hK => ?_) AllReadyH.nil
          rw [if_pos (by rfl)]
          obtain ⟨x0, x1, x2, x3, u0, u1, u2, u3⟩ := row4u KM.out
          go_simp
          clear x0 x1 x2 x3 u0 u1 u2 u3
          have hgr := grownM_set (j := 3) (v := .slice none 0 0) (grownM_set (j := 2) (v := (.slice la2 ln2 lc2)) (grownM_set (j := 1) (v := (.slice za2 (zonesUp ((normD sl).length : Int) (normZ (zr.map fun p => p.2)) (normZ (zr.map fun p => p.2)).length).length zc2)) (grownM_set (j := 0) (v := (.slice ra2 rs.length rc2)) (grownM_refl w29s (some bM26)))))
          have hk9 := set4d (d0 := (.slice ra2 rs.length rc2)) (d1 := (.slice za2 (zonesUp ((normD sl).length : Int) (normZ (zr.map fun p => p.2)) (normZ (zr.map fun p => p.2)).length).length zc2)) (d2 := (.slice la2 ln2 lc2)) (d3 := .slice none 0 0) KM.out
          have hl9 := bk2m KM.out
          generalize (((w29s.setCell _ _).setCell _ _).setCell _ _).setCell _ _ = w29ss at *
          replace KD := Lib.hid (blk_grownM KD.out hgr (by omega))
          replace KS := Lib.hid (blk_grownM KS.out hgr (by omega))
          replace HR1 := Lib.hid (own_src HR1.out hgr KM.out (by decide))
          replace HR2 := Lib.hid (own_src HR2.out hgr KM.out (by decide))
          replace HZ1 := Lib.hid (HZ1.out.src hgr KM.out)
          replace HZ2 := Lib.hid (HZ2.out.src hgr KM.out)
          replace HB := Lib.hid (HB.out.trans (below_grownM hgr (by omega) hl9))
          replace KM := Lib.hid hk9
          clear hgr hk9 hl9
          refine hK.out _ _ ⟨cellB KD.out (i := 0) rfl, cellB KD.out (i := 1) rfl, cellB KD.out (i := 2) rfl⟩ (fun hHeld => ?_)
          clear hK K
          try simp only [Act.put, List.getElem_toArray, List.getElem_cons_succ, List.getElem_cons_zero, List.setIfInBounds_toArray, List.set_cons_zero, List.set_cons_succ]
          refine wpAnyH_done (by kernel_rfl) ?_ _
          clear hHeld
          go_wp2_with fail
          go_meet
          case rel => exact ⟨_, rfl, bS29, bM26, _, _, _, _, _, _, la1, la2, ln1, lc1, ln2, lc2, rs, ps1, ps2, rfl, rfl, by omega, ⟨HW1.out, HW2.out⟩, KS.out, KM.out, HV1.out, HR1.out, HZ1.out, HR2.out, HZ2.out, HL1.out, HL2.out, HL3.out, HB.out⟩
        · have KDold := KD
          have KMold := KM
          rw [if_pos (by rfl)]
          go_simp
          have hb := bel_alloc w27 (.cells #[.slice none 0 0, .slice none 0 0, .slice none 0 0, .slice none 0 0] 41)
          have KS := Lib.hid (heap_alloc_new w27 (.cells #[.slice none 0 0, .slice none 0 0, .slice none 0 0, .slice none 0 0] 41))
          obtain ⟨bS30, hbe⟩ : ∃ b, b = w27.heap.size := ⟨_, rfl⟩
          replace HB := Lib.hid (bel_trans HB.out hb)
          replace KD := Lib.hid (block_below KD.out hb)
          replace HS := Lib.hid (HS.out.below hb)
          replace HZ := Lib.hid (HZ.out.below hb)
          replace HLk := Lib.hid (HLk.out.below hb)
          replace KM := Lib.hid (block_below KM.out hb)
          replace HR1 := Lib.hid (own_below17 HR1.out hb)
          replace HZ1 := Lib.hid (HZ1.out.below hb)
          have hleKS : W.heap.size < bS30 := by rw [hbe]; exact bk2m KDold.out
          have hneKS : bM26 < bS30 := by rw [hbe]; exact bk2m KMold.out
          rw [← hbe] at KS ⊢
          clear hbe
          generalize w27.alloc _ = w30 at *
          clear hb KDold KMold
          refine hK.out _ _ ⟨cellB KD.out (i := 0) rfl, cellB KD.out (i := 1) rfl, cellB KD.out (i := 2) rfl⟩ (fun hHeld => ?_)
          clear hK K
          try simp only [Act.put, List.getElem_toArray, List.getElem_cons_succ, List.getElem_cons_zero, List.setIfInBounds_toArray, List.set_cons_zero, List.set_cons_succ]
          refine wpAnyH_ready (rs := [3]) (by kernel_rfl) (by simp) ?_
          refine AllReadyH.cons rfl (fun K hK => ?_) AllReadyH.nil
          rw [if_pos (by rfl)]
          go_simp
          refine (made23_any A1 A2 A3 n1 n2 n3 c1 c2 c3 sl zr ll _ (by exact HS.out) (by exact HZ.out) (by exact HLk.out)).mono ?_
          rintro e w31 ⟨rv2, zv2, la2, ln2, lc2, rs2, ps2, rfl, hrv, hro, hzp, hb⟩
          obtain rfl := HV1.out.uniq hrv
          have HW2 := Lib.hid HB.out.size
          have HL1 := Lib.hid (fun b h => (HR1.out.lt b h).2)
          have HL2 := Lib.hid (fun b h => (HZ1.out.2.1.lt b h).2)
          have HL3 := Lib.hid HZ1.out.lt
          go_wp2_with fail
          replace HB := Lib.hid (bel_trans HB.out hb)
          replace KD := Lib.hid (block_below KD.out hb)
          replace HS := Lib.hid (HS.out.below hb)
          replace HZ := Lib.hid (HZ.out.below hb)
          replace HLk := Lib.hid (HLk.out.below hb)
          replace KM := Lib.hid (block_below KM.out hb)
          replace HR1 := Lib.hid (own_below17 HR1.out hb)
          replace HZ1 := Lib.hid (HZ1.out.below hb)
          replace KS := Lib.hid (block_below KS.out hb)
          have HR2 := Lib.hid hro
          have HZ2 := Lib.hid hzp
          have hb1s := hb.size
          clear hrv hro hzp hb
          refine hK.out _ _ ⟨cellB KD.out (i := 0) rfl, cellB KD.out (i := 1) rfl, cellB KD.out (i := 2) rfl⟩ (fun hHeld => ?_)
          clear hK K
          try simp only [Act.put, List.getElem_toArray, List.getElem_cons_succ, List.getElem_cons_zero, List.setIfInBounds_toArray, List.set_cons_zero, List.set_cons_succ]
          obtain ⟨ra1, rc1, rfl⟩ := own_sl HR1.out
          obtain ⟨ra2, rc2, rfl⟩ := own_sl HR2.out
          obtain ⟨za1, zc1, rfl⟩ := own_sl HZ1.out.2.1
          obtain ⟨za2, zc2, rfl⟩ := own_sl HZ2.out.2.1
          have hlS := bk2m KS.out
          have hlM := bk2m KM.out
          refine wpAnyH_ready (rs := [6]) (by kernel_rfl) (by simp) ?_
          refine AllReadyH.cons rfl (fun K hK => ?_) AllReadyH.nil
          rw [if_pos (by rfl)]
          obtain ⟨x0, x1, x2, x3, u0, u1, u2, u3⟩ := row4u KS.out
          go_simp
          clear x0 x1 x2 x3 u0 u1 u2 u3
          have hgr := grownM_set (j := 3) (v := .slice none 0 0) (grownM_set (j := 2) (v := (.slice la1 ln1 lc1)) (grownM_set (j := 1) (v := (.slice za1 (zonesUp ((normD sl).length : Int) (normZ (zr.map fun p => p.2)) (normZ (zr.map fun p => p.2)).length).length zc1)) (grownM_set (j := 0) (v := (.slice ra1 rs.length rc1)) (grownM_refl w31 (some bS30)))))
          have hk9 := set4d (d0 := (.slice ra1 rs.length rc1)) (d1 := (.slice za1 (zonesUp ((normD sl).length : Int) (normZ (zr.map fun p => p.2)) (normZ (zr.map fun p => p.2)).length).length zc1)) (d2 := (.slice la1 ln1 lc1)) (d3 := .slice none 0 0) KS.out
          have hl9 := bk2m KS.out
          generalize (((w31.setCell _ _).setCell _ _).setCell _ _).setCell _ _ = w31s at *
          replace KD := Lib.hid (blk_grownM KD.out hgr (by omega))
          replace KM := Lib.hid (blk_grownM KM.out hgr (by omega))
          replace HR1 := Lib.hid (own_src HR1.out hgr KS.out (by decide))
          replace HR2 := Lib.hid (own_src HR2.out hgr KS.out (by decide))
          replace HZ1 := Lib.hid (HZ1.out.src hgr KS.out)
          replace HZ2 := Lib.hid (HZ2.out.src hgr KS.out)
          replace HB := Lib.hid (HB.out.trans (below_grownM hgr (by omega) hl9))
          replace KS := Lib.hid hk9
          clear hgr hk9 hl9
          refine hK.out _ _ ⟨cellB KD.out (i := 0) rfl, cellB KD.out (i := 1) rfl, cellB KD.out (i := 2) rfl⟩ (fun hHeld => ?_)
          clear hK K
          try simp only [Act.put, List.getElem_toArray, List.getElem_cons_succ, List.getElem_cons_zero, List.setIfInBounds_toArray, List.set_cons_zero, List.set_cons_succ]
          refine wpAnyH_ready (rs := [7]) (by kernel_rfl) (by simp) ?_
          refine AllReadyH.cons rfl (fun K hK => ?_) AllReadyH.nil
          rw [if_pos (by rfl)]
          obtain ⟨x0, x1, x2, x3, u0, u1, u2, u3⟩ := row4u KM.out
          go_simp
          clear x0 x1 x2 x3 u0 u1 u2 u3
          have hgr := grownM_set (j := 3) (v := .slice none 0 0) (grownM_set (j := 2) (v := (.slice la2 ln2 lc2)) (grownM_set (j := 1) (v := (.slice za2 (zonesUp ((normD sl).length : Int) (normZ (zr.map fun p => p.2)) (normZ (zr.map fun p => p.2)).length).length zc2)) (grownM_set (j := 0) (v := (.slice ra2 rs.length rc2)) (grownM_refl w31s (some bM26)))))
          have hk9 := set4d (d0 := (.slice ra2 rs.length rc2)) (d1 := (.slice za2 (zonesUp ((normD sl).length : Int) (normZ (zr.map fun p => p.2)) (normZ (zr.map fun p => p.2)).length).length zc2)) (d2 := (.slice la2 ln2 lc2)) (d3 := .slice none 0 0) KM.out
          have hl9 := bk2m KM.out
          generalize (((w31s.setCell _ _).setCell _ _).setCell _ _).setCell _ _ = w31ss at *
          replace KD := Lib.hid (blk_grownM KD.out hgr (by omega))
          replace KS := Lib.hid (blk_grownM KS.out hgr (by omega))
          replace HR1 := Lib.hid (own_src HR1.out hgr KM.out (by decide))
          replace HR2 := Lib.hid (own_src HR2.out hgr KM.out (by decide))
          replace HZ1 := Lib.hid (HZ1.out.src hgr KM.out)
          replace HZ2 := Lib.hid (HZ2.out.src hgr KM.out)
          replace HB := Lib.hid (HB.out.trans (below_grownM hgr (by omega) hl9))
          replace KM := Lib.hid hk9
          clear hgr hk9 hl9
          refine hK.out _ _ ⟨cellB KD.out (i := 0) rfl, cellB KD.out (i := 1) rfl, cellB KD.out (i := 2) rfl⟩ (fun hHeld => ?_)
          clear hK K
          try simp only [Act.put, List.getElem_toArray, List.getElem_cons_succ, List.getElem_cons_zero, List.setIfInBounds_toArray, List.set_cons_zero, List.set_cons_succ]
          refine wpAnyH_done (by kernel_rfl) ?_ _
          clear hHeld
          go_wp2_with fail
          go_meet
          case rel => exact ⟨_, rfl, bS30, bM26, _, _, _, _, _, _, la1, la2, ln1, lc1, ln2, lc2, rs, ps1, ps2, rfl, rfl, by omega, ⟨HW1.out, HW2.out⟩, KS.out, KM.out, HV1.out, HR1.out, HZ1.out, HR2.out, HZ2.out, HL1.out, HL2.out, HL3.out, HB.out⟩
      · have KDold := KD
        have KMold := KM
        rw [if_pos (by rfl)]
        go_simp
        have hb := bel_alloc w26 (.cells #[.slice none 0 0, .slice none 0 0, .slice none 0 0, .slice none 0 0] 41)
        have KS := Lib.hid (heap_alloc_new w26 (.cells #[.slice none 0 0, .slice none 0 0, .slice none 0 0, .slice none 0 0] 41))
        obtain ⟨bS32, hbe⟩ : ∃ b, b = w26.heap.size := ⟨_, rfl⟩
        replace HB := Lib.hid (bel_trans HB.out hb)
        replace KD := Lib.hid (block_below KD.out hb)
        replace HS := Lib.hid (HS.out.below hb)
        replace HZ := Lib.hid (HZ.out.below hb)
        replace HLk := Lib.hid (HLk.out.below hb)
        replace KM := Lib.hid (block_below KM.out hb)
        have hleKS : W.heap.size < bS32 := by rw [hbe]; exact bk2m KDold.out
        have hneKS : bM26 < bS32 := by rw [hbe]; exact bk2m KMold.out
        rw [← hbe] at KS ⊢
        clear hbe
        generalize w26.alloc _ = w32 at *
        clear hb KDold KMold
        refine hK.out _ _ ⟨cellB KD.out (i := 0) rfl, cellB KD.out (i := 1) rfl, cellB KD.out (i := 2) rfl⟩ (fun hHeld => ?_)
        clear hK K
        try simp only [Act.put, List.getElem_toArray, List.getElem_cons_succ, List.getElem_cons_zero, List.setIfInBounds_toArray, List.set_cons_zero, List.set_cons_succ]
        refine wpAnyH_ready (rs := [1]) (by kernel_rfl) (by simp) ?_
        refine AllReadyH.cons rfl (fun K hK => ?_) AllReadyH.nil
        rw [if_pos (by rfl)]
        go_simp
        refine (made23_any A1 A2 A3 n1 n2 n3 c1 c2 c3 sl zr ll _ (by exact HS.out) (by exact HZ.out) (by exact HLk.out)).mono ?_
        rintro e w33 ⟨rv1, zv1, la1, ln1, lc1, rs, ps1, rfl, hrv, hro, hzp, hb⟩
        have HV1 := Lib.hid hrv
        have HW1 := Lib.hid HB.out.size
        go_wp2_with fail
        replace HB := Lib.hid (bel_trans HB.out hb)
        replace KD := Lib.hid (block_below KD.out hb)
        replace HS := Lib.hid (HS.out.below hb)
        replace HZ := Lib.hid (HZ.out.below hb)
        replace HLk := Lib.hid (HLk.out.below hb)
        replace KM := Lib.hid (block_below KM.out hb)
        replace KS := Lib.hid (block_below KS.out hb)
        have HR1 := Lib.hid hro
        have HZ1 := Lib.hid hzp
        have hb1s := hb.size
        clear hrv hro hzp hb
        refine hK.out _ _ ⟨cellB KD.out (i := 0) rfl, cellB KD.out (i := 1) rfl, cellB KD.out (i := 2) rfl⟩ (fun hHeld => ?_)
        clear hK K
        try simp only [Act.put, List.getElem_toArray, List.getElem_cons_succ, List.getElem_cons_zero, List.setIfInBounds_toArray, List.set_cons_zero, List.set_cons_succ]
        refine wpAnyH_ready (rs := [3]) (by kernel_rfl) (by simp) ?_
        refine AllReadyH.cons rfl (fun K hK => ?_) AllReadyH.nil
        rw [if_pos (by rfl)]
        go_simp
        refine (made23_any A1 A2 A3 n1 n2 n3 c1 c2 c3 sl zr ll _ (by exact HS.out) (by exact HZ.out) (by exact HLk.out)).mono ?_
        rintro e w34 ⟨rv2, zv2, la2, ln2, lc2, rs2, ps2, rfl, hrv, hro, hzp, hb⟩
        obtain rfl := HV1.out.uniq hrv
        have HW2 := Lib.hid HB.out.size
        have HL1 := Lib.hid (fun b h => (HR1.out.lt b h).2)
        have HL2 := Lib.hid (fun b h => (HZ1.out.2.1.lt b h).2)
        have HL3 := Lib.hid HZ1.out.lt
        go_wp2_with fail
        replace HB := Lib.hid (bel_trans HB.out hb)
        replace KD := Lib.hid (block_below KD.out hb)
        replace HS := Lib.hid (HS.out.below hb)
        replace HZ := Lib.hid (HZ.out.below hb)
        replace HLk := Lib.hid (HLk.out.below hb)
        replace KM := Lib.hid (block_below KM.out hb)
        replace KS := Lib.hid (block_below KS.out hb)
        replace HR1 := Lib.hid (own_below17 HR1.out hb)
        replace HZ1 := Lib.hid (HZ1.out.below hb)
        have HR2 := Lib.hid hro
        have HZ2 := Lib.hid hzp
        have hb1s := hb.size
        clear hrv hro hzp hb
        refine hK.out _ _ ⟨cellB KD.out (i := 0) rfl, cellB KD.out (i := 1) rfl, cellB KD.out (i := 2) rfl⟩ (fun hHeld => ?_)
        clear hK K
        try simp only [Act.put, List.getElem_toArray, List.getElem_cons_succ, List.getElem_cons_zero, List.setIfInBounds_toArray, List.set_cons_zero, List.set_cons_succ]
        obtain ⟨ra1, rc1, rfl⟩ := own_sl HR1.out
        obtain ⟨ra2, rc2, rfl⟩ := own_sl HR2.out
        obtain ⟨za1, zc1, rfl⟩ := own_sl HZ1.out.2.1
        obtain ⟨za2, zc2, rfl⟩ := own_sl HZ2.out.2.1
        have hlS := bk2m KS.out
        have hlM := bk2m KM.out
        refine wpAnyH_ready (rs := [6]) (by kernel_rfl) (by simp) ?_
        refine AllReadyH.cons rfl (fun K hK => ?_) AllReadyH.nil
        rw [if_pos (by rfl)]
        obtain ⟨x0, x1, x2, x3, u0, u1, u2, u3⟩ := row4u KS.out
        go_simp
        clear x0 x1 x2 x3 u0 u1 u2 u3
        have hgr := grownM_set (j := 3) (v := .slice none 0 0) (grownM_set (j := 2) (v := (.slice la1 ln1 lc1)) (grownM_set (j := 1) (v := (.slice za1 (zonesUp ((normD sl).length : Int) (normZ (zr.map fun p => p.2)) (normZ (zr.map fun p => p.2)).length).length zc1)) (grownM_set (j := 0) (v := (.slice ra1 rs.length rc1)) (grownM_refl w34 (some bS32)))))
        have hk9 := set4d (d0 := (.slice ra1 rs.length rc1)) (d1 := (.slice za1 (zonesUp ((normD sl).length : Int) (normZ (zr.map fun p => p.2)) (normZ (zr.map fun p => p.2)).length).length zc1)) (d2 := (.slice la1 ln1 lc1)) (d3 := .slice none 0 0) KS.out
        have hl9 := bk2m KS.out
        generalize (((w34.setCell _ _).setCell _ _).setCell _ _).setCell _ _ = w34s at *
        replace KD := Lib.hid (blk_grownM KD.out hgr (by omega))
        replace KM := Lib.hid (blk_grownM KM.out hgr (by omega))
        replace HR1 := Lib.hid (own_src HR1.out hgr KS.out (by decide))
        replace HR2 := Lib.hid (own_src HR2.out hgr KS.out (by decide))
        replace HZ1 := Lib.hid (HZ1.out.src hgr KS.out)
        replace HZ2 := Lib.hid (HZ2.out.src hgr KS.out)
        replace HB := Lib.hid (HB.out.trans (below_grownM hgr (by omega) hl9))
        replace KS := Lib.hid hk9
        clear hgr hk9 hl9
        refine hK.out _ _ ⟨cellB KD.out (i := 0) rfl, cellB KD.out (i := 1) rfl, cellB KD.out (i := 2) rfl⟩ (fun hHeld => ?_)
        clear hK K
        try simp only [Act.put, List.getElem_toArray, List.getElem_cons_succ, List.getElem_cons_zero, List.setIfInBounds_toArray, List.set_cons_zero, List.set_cons_succ]
        refine wpAnyH_ready (rs := [7]) (by kernel_rfl) (by simp) ?_
        refine AllReadyH.cons rfl (fun K hK => ?_) AllReadyH.nil
        rw [if_pos (by rfl)]
        obtain ⟨x0, x1, x2, x3, u0, u1, u2, u3⟩ := row4u KM.out
        go_simp
        clear x0 x1 x2 x3 u0 u1 u2 u3
        have hgr := grownM_set (j := 3) (v := .slice none 0 0) (grownM_set (j := 2) (v := (.slice la2 ln2 lc2)) (grownM_set (j := 1) (v := (.slice za2 (zonesUp ((normD sl).length : Int) (normZ (zr.map fun p => p.2)) (normZ (zr.map fun p => p.2)).length).length zc2)) (grownM_set (j := 0) (v := (.slice ra2 rs.length rc2)) (grownM_refl w34s (some bM26)))))
        have hk9 := set4d (d0 := (.slice ra2 rs.length rc2)) (d1 := (.slice za2 (zonesUp ((normD sl).length : Int) (normZ (zr.map fun p => p.2)) (normZ (zr.map fun p => p.2)).length).length zc2)) (d2 := (.slice la2 ln2 lc2)) (d3 := .slice none 0 0) KM.out
        have hl9 := bk2m KM.out
        generalize (((w34s.setCell _ _).setCell _ _).setCell _ _).setCell _ _ = w34ss at *
        replace KD := Lib.hid (blk_grownM KD.out hgr (by omega))
        replace KS := Lib.hid (blk_grownM KS.out hgr (by omega))
        replace HR1 := Lib.hid (own_src HR1.out hgr KM.out (by decide))
        replace HR2 := Lib.hid (own_src HR2.out hgr KM.out (by decide))
        replace HZ1 := Lib.hid (HZ1.out.src hgr KM.out)
        replace HZ2 := Lib.hid (HZ2.out.src hgr KM.out)
        replace HB := Lib.hid (HB.out.trans (below_grownM hgr (by omega) hl9))
        replace KM := Lib.hid hk9
        clear hgr hk9 hl9
        refine hK.out _ _ ⟨cellB KD.out (i := 0) rfl, cellB KD.out (i := 1) rfl, cellB KD.out (i := 2) rfl⟩ (fun hHeld => ?_)
        clear hK K
        try simp only [Act.put, List.getElem_toArray, List.getElem_cons_succ, List.getElem_cons_zero, List.setIfInBounds_toArray, List.set_cons_zero, List.set_cons_succ]
        refine wpAnyH_done (by kernel_rfl) ?_ _
        clear hHeld
        go_wp2_with fail
        go_meet
        case rel => exact ⟨_, rfl, bS32, bM26, _, _, _, _, _, _, la1, la2, ln1, lc1, ln2, lc2, rs, ps1, ps2, rfl, rfl, by omega, ⟨HW1.out, HW2.out⟩, KS.out, KM.out, HV1.out, HR1.out, HZ1.out, HR2.out, HZ2.out, HL1.out, HL2.out, HL3.out, HB.out⟩
  case rest =>
    obtain ⟨wz, rfl, bS, bM, B1, B2, rv, zv, rv2, zv2, la, la2, ln, lc, ln2, lc2, rs, ps, ps2, rfl, rfl, hbSM, ⟨hB1, hB2⟩, kS, kM, hrv, hro, hzp, hro2, hzp2, hl1, hl2, hl3, hb⟩ := hcut
    clear KD HS HZ HLk HB
    have hSd := normD_13 sl HD3.out
    obtain ⟨S, hSe⟩ : ∃ S, S = (normD sl).length := ⟨_, rfl⟩
    rw [← hSe] at hrv hzp hzp2 hSd
    have hlen := hrv.len
    have hok := rulesV_ok hrv
    have hzok := zones_ok (S := S) hrv hSd HZ4.out
    have hzbd := zones_bd (S := S) hSd.1 HZ4.out
    obtain ⟨sv, hm, h2r⟩ := hrv.ofS hSd.2 (j := 0) (by omega)
    have h2l : 2 ≤ rs.length := Nat.le_trans h2r (by unfold ofS; exact _root_.List.length_filter_le _ _)
    have hsv : -8000 ≤ -sv ∧ -sv ≤ 8000 := by have := hm.svs; omega
    have hzl := normZ_len (zr.map fun p => p.2)
    have hz3 := HE3.out
    generalize hzs : zonesUp (S : Int) (normZ (zr.map fun p => p.2)) (normZ (zr.map fun p => p.2)).length = zs at *
    have hZl : zs.length = (normZ (zr.map fun p => p.2)).length := by rw [← hzs, zonesUp_len]
    have hZ3 : 1 ≤ zs.length ∧ zs.length ≤ 3 := by rw [hZl, hzl, _root_.List.length_map]; omega
    obtain ⟨ra, rc, rfl⟩ := own_sl hro
    obtain ⟨za, zc, rfl⟩ := own_sl hzp.2.1
    obtain ⟨gr, rc2, rfl, hgr1, hgr2⟩ := hro2.form (by omega)
    obtain ⟨gz, zc2, rfl, hgz1, hgz2⟩ := hzp2.2.1.form (by omega)
    obtain ⟨Z, hZe⟩ : ∃ Z, Z = zs.length := ⟨_, rfl⟩
    obtain ⟨nr, hnr⟩ : ∃ nr, nr = rs.length := ⟨_, rfl⟩
    have HZE := Lib.hid hZe
    have HNR := Lib.hid hnr
    have hnb : nr ≤ 1000 := by omega
    have hZb : Z ≤ 1000 := by omega
    rw [← hnr] at hro hro2 kS kM hl1
    rw [← hZe] at kS kM hl2 hzp hzp2
    have KS := Lib.hid kS; have KM := Lib.hid kM; have HRO := Lib.hid hro; have HZP := Lib.hid hzp; have HRO2 := Lib.hid hro2; have HZP2 := Lib.hid hzp2
    have HB := Lib.hid hb; have HOK := Lib.hid hok; have HZOK := Lib.hid hzok; have HZBD := Lib.hid hzbd; have HMP := Lib.hid hm
    have HL1 := Lib.hid hl1; have HL2 := Lib.hid hl2; have HL3 := Lib.hid hl3
    have hrr : Rul (.slice ra nr rc) rs wz := by
      have := rul_of_own (rs := rs) (v := .slice ra nr rc) (by rw [← hnr]; exact hro) (by rw [← hnr]; exact hnb) (fun r hr => (hok r hr).fits)
      exact this
    have HRR := Lib.hid hrr
    have hbg : bM ≠ gr := fun e => own_ne hro2 kM (by decide) (by rw [e]; rfl)
    have hbgS : bS ≠ gr := fun e => own_ne hro2 kS (by decide) (by rw [e]; rfl)
    have hgrW : W.heap.size ≤ gr := by omega
    clear kS kM hro hzp hro2 hzp2 hl1 hl2 hl3 hb hrr hok hzok hzbd hm hrv hlen h2r hzl hz3 hzs hZl hZe hnr hSe hSd HD3 HE3 HZ4
    have s0 := cellB KS.out (i := 0) rfl
    have s1 := cellB KS.out (i := 1) rfl
    have s2 := cellB KS.out (i := 2) rfl
    have s3 := cellB KS.out (i := 3) rfl
    go_wp2_with fail
    clear s0 s1 s2 s3
    refine sh_loop1 (by kernel_rfl) ⟨#[82, 48]⟩ nr rc ra sv rs _ HNR hnb HRR (Lib.hid (by rw [← nmR0]; exact HMP.out)) _ _ _ _ _ _ _ _ _ _ _ _ _ _ _ _ _ _ _ _ _ _ _ _ _ _ _ _ _ _ _ _ _ _ _ _ _ _ _ _ _ _ _ _ _ _ _ _ _ _ _ _ _ _ _ _ _ _ _ _ _ _ _ _ _ _ _ _ _ _ _ _ _ _ _ _ _ _ _ _ _ _ _ _ _ _ _ _ _ _ _ _ _ _ _ _ _ _ _ _ _ _ _ _ _ _ _ _ _ _ _ _ _ _ _ _ _ _ _ _ _ _ _ _ _ _ _ _ _ _ _ _ _ _ _ _ _ _ _ _ _ _ _ _ _ _ _ _ _ _ _ _ _ _ _ _ _ _ _ _ _ _ _ _ _ _ _ _ _ _ _ _ _ _ _ (Lib.hid ?_)
    intro v6 v8 v27 v28 v29 v30 v31 v32 v33 v34 v35 v36 v37 v38 v39 v40 v41 v42 v43 w1 HQ
    obtain ⟨xx, rfl, rfl, HB1⟩ := HQ
    replace KS := Lib.hid (block_below KS.out HB1.out)
    replace KM := Lib.hid (block_below KM.out HB1.out)
    replace HRO := Lib.hid (own_below17 HRO.out HB1.out)
    replace HRO2 := Lib.hid (own_below17 HRO2.out HB1.out)
    replace HZP := Lib.hid (HZP.out.below HB1.out)
    replace HZP2 := Lib.hid (HZP2.out.below HB1.out)
    replace HB := Lib.hid (bel_trans HB.out HB1.out)
    clear HB1 HRR
    have s0 := cellB KM.out (i := 0) rfl
    have s1 := cellB KM.out (i := 1) rfl
    have s2 := cellB KM.out (i := 2) rfl
    have s3 := cellB KM.out (i := 3) rfl
    go_wp2_with fail
    clear s0 s1 s2 s3
    refine sh_loop2 (by kernel_rfl) ⟨#[82, 48]⟩ B2 nr rc2 gr bM _ _ (-sv) rs w1 HNR hnb hsv hbg (Lib.hid (fun r hr => ruOk_bd (HOK.out r hr))) KM HRO2 _ _ _ _ _ _ _ _ _ _ _ _ _ _ _ _ _ _ _ _ _ _ _ _ _ _ _ _ _ _ _ _ _ _ _ _ _ _ _ _ _ _ _ _ _ _ _ _ _ _ _ _ _ _ _ _ _ _ _ _ _ _ _ _ _ _ _ _ _ _ _ _ _ _ _ _ _ _ _ _ _ _ _ _ _ _ _ _ _ _ _ _ _ _ _ _ _ _ _ _ _ _ _ _ _ _ _ _ _ _ _ _ _ _ _ _ _ _ _ _ _ _ _ _ _ _ _ _ _ _ _ _ _ _ _ _ _ _ _ _ _ _ _ _ _ _ _ _ _ _ _ _ _ _ _ _ _ _ _ _ _ _ _ _ _ _ _ _ _ _ _ _ _ _ (Lib.hid ?_)
    intro v9 v10 v47 v48 v49 v50 v51 v52 v53 v54 v55 v56 v57 v58 v59 v60 v61 v62 v63 v64 v65 v66 v67 v68 v69 v70 v71 v72 v73 v74 v75 v76 v77 v78 v79 v80 v81 v82 w2 HQ
    obtain ⟨HG2, HRN⟩ := HQ
    obtain ⟨hgrb, cur, hcur⟩ := own_typ HRO2.out gr rfl
    have hgl := (HRO2.out.lt gr rfl).2
    have hbl2 := below_grownM HG2.out hgr1 hgl
    replace KS := Lib.hid (blk_grownM KS.out HG2.out hbgS)
    replace KM := Lib.hid (blk_grownM KM.out HG2.out hbg)
    replace HRO := Lib.hid (own_belN HRO.out HL1.out hbl2)
    replace HZP := Lib.hid (HZP.out.belN HL2.out HL3.out hbl2)
    replace HZP2 := Lib.hid (HZP2.out.typ HG2.out hcur (by decide) (by decide))
    replace HB := Lib.hid (HB.out.trans (below_grownM HG2.out hgrW hgl))
    have hsz2 := HG2.out.size
    have hB2s : B2 ≤ w2.heap.size := by omega
    clear HG2 hcur hbl2 HRO2 hgl hsz2
    have s0 := cellB KM.out (i := 0) rfl
    have s1 := cellB KM.out (i := 1) rfl
    have s2 := cellB KM.out (i := 2) rfl
    have s3 := cellB KM.out (i := 3) rfl
    go_wp2_with fail
    clear s0 s1 s2 s3
    refine sh_loop3 (by kernel_rfl) ⟨#[82, 48]⟩ B2 B2 Z zc2 gz (-sv) zs ps2 w2 HZE hZb hB2s (Nat.le_refl _) hsv HZBD HZP2 _ _ _ _ _ _ _ _ _ _ _ _ _ _ _ _ _ _ _ _ _ _ _ _ _ _ _ _ _ _ _ _ _ _ _ _ _ _ _ _ _ _ _ _ _ _ _ _ _ _ _ _ _ _ _ _ _ _ _ _ _ _ _ _ _ _ _ _ _ _ _ _ _ _ _ _ _ _ _ _ _ _ _ _ _ _ _ _ _ _ _ _ _ _ _ _ _ _ _ _ _ _ _ _ _ _ _ _ _ _ _ _ _ _ _ _ _ _ _ _ _ _ _ _ _ _ _ _ _ _ _ _ _ _ _ _ _ _ _ _ _ _ _ _ _ _ _ _ _ _ _ _ _ _ _ _ _ _ _ _ _ _ _ _ _ _ _ _ _ _ _ _ _ _ _ (Lib.hid ?_)
    intro v12 v13 v14 v86 v87 v88 v89 v90 v91 v92 v93 v94 v95 v96 v97 v98 v99 v100 v101 v102 v103 v104 v105 v106 v107 v108 v109 v110 v111 v112 v113 v114 v115 v116 v117 v118 v119 v120 v121 v122 v123 v124 v125 v126 v127 v128 v129 v130 v131 v132 v133 v134 v135 v136 v137 v138 v139 v140 v141 v142 w3 HQ
    obtain ⟨HZP3, HKT, HB3⟩ := HQ
    replace KS := Lib.hid (HKT.out bS _ _ (by decide) KS.out)
    replace KM := Lib.hid (HKT.out bM _ _ (by decide) KM.out)
    replace HRO := Lib.hid (own_belN HRO.out HL1.out HB3.out)
    replace HZP := Lib.hid (HZP.out.belN HL2.out HL3.out HB3.out)
    replace HRN := Lib.hid (own_keptT HRN.out HKT.out (by decide))
    replace HB := Lib.hid (HB.out.trans (HB3.out.mono hB2))
    clear HKT HB3 HZP2
    have HRS := Lib.hid (show Rul (.slice ra nr rc) rs w3 from rul_of_own (by rw [← HNR.out]; exact HRO.out) (by rw [← HNR.out]; exact hnb) (fun r hr => (HOK.out r hr).fits))
    have hml : (rs.map (fR (nmR 0) (-sv))).length = nr := by rw [_root_.List.length_map]; exact HNR.out.symm
    have HRM := Lib.hid (show Rul (.slice (some ⟨gr, 0, none⟩) nr rc2) (rs.map (fR (nmR 0) (-sv))) w3 from rul_of_own (by rw [hml, nmR0]; exact HRN.out) (by rw [hml]; exact hnb) (fun r hr => by obtain ⟨q, hq, rfl⟩ := _root_.List.mem_map.1 hr; exact fR_fits (HOK.out q hq) hsv))
    have HZS := Lib.hid (show RdZo (.slice za Z zc) zs w3 from HZP.out.rd)
    have HZM := Lib.hid (show RdZo (.slice (some ⟨gz, 0, none⟩) Z zc2) (zs.map (fun z : ByteArray × _root_.List Er => (z.1, z.2.map (gE (nmR 0) (-sv))))) w3 by rw [nmR0]; exact HZP3.out.rd)
    have HTT := Lib.hid (HT.out.below HB.out)
    clear HRO HZP HRN HZP3 hml
    have s0 := cellB KS.out (i := 0) rfl
    have s1 := cellB KS.out (i := 1) rfl
    have s2 := cellB KS.out (i := 2) rfl
    have s3 := cellB KS.out (i := 3) rfl
    go_wp2_with fail
    clear s0 s1 s2 s3
    refine sh_loop5 (by kernel_rfl) bS bM Z zc zc2 nr rc rc2 ln lc ln2 lc2 S ra za la (some ⟨gr, 0, none⟩) (some ⟨gz, 0, none⟩) la2 sv rs zs w3 HZE hZb HTT HMP HZOK KS KM HRS HRM HZS HZM _ _ _ _ _ _ _ _ _ _ _ _ _ _ _ _ _ _ _ _ _ _ _ _ _ _ _ _ _ _ _ _ _ _ _ _ _ _ _ _ _ _ _ _ _ _ _ _ _ _ _ _ _ _ _ _ _ _ _ _ _ _ _ _ _ _ _ _ _ _ _ _ _ _ _ _ _ _ _ _ _ _ _ _ _ _ _ _ _ _ _ _ _ _ _ _ _ _ _ _ _ _ _ _ _ _ _ _ _ _ _ _ _ _ _ _ _ _ _ _ _ _ _ _ _ _ _ _ _ _ _ _ _ _ _ _ _ _ _ _ _ _ _ _ _ _ _ _ _ _ _ _ _ _ _ _ _ _ _ _ _ _ _ _ _ _ _ _ _ _ _ _ _ _ _ _ (Lib.hid ?_)
    intro v2 v15 v16 v17 v18 v19 v146 v147 v148 v149 v150 v151 v152 v153 v154 v155 v156 v157 v158 v159 v160 v161 v162 v163 v164 v165 v166 v167 v168 v169 v170 v171 v172 v173 v174 v175 v176 v177 v178 w4 HQ
    have HB := Lib.hid (bel_trans HB.out HQ.out)
    go_wp2_with fail
    refine (works23_any _ (by exact (HTT.out.below HQ.out))).mono ?_
    rintro e w9 ⟨rfl, hb⟩
    have HB := Lib.hid (bel_trans HB.out hb)
    clear hb
    go_wp2_with fail
    go_ret
    exact ⟨rfl, HB.out⟩

set_option maxRecDepth 100000 in
theorem erasShifted.erasShifted_walk (W : World) (hL : laidMetH Tryd.prog Rows.erasShiftedRow.laid W) (v : Value) {H : Type} {enc : TypeId × Value → H} {base : Nat} {d : DataW H} {p : List MemPlace} (hv : Value.okWide Tryd.prog W .any base 35 v)
    (h : DataW.Trod enc Tryd.prog W 0 (fun _ => true) true 35 v d p) :
    Calls Tryd.prog 5 #[v] W fun e w' => e = .returned (.bool true) ∧ Below W.heap.size W w' := by
  obtain ⟨v1, v2, v3, n1, n2, n3, sl, zr, ll, rfl, h1, h2, h3⟩ := draft23_of hv h
  have hT : Tabs W := tabs5_of (show laidMetH Tryd.prog Rows.erasWholeRow.laid W from hL)
  have k1 := h1; have k2 := h2; have k3 := h3
  obtain ⟨A1, c1, rfl, _⟩ := k1
  obtain ⟨A2, c2, rfl, _⟩ := k2
  obtain ⟨A3, c3, rfl, _⟩ := k3
  exact erasShifted_core A1 A2 A3 n1 n2 n3 c1 c2 c3 sl zr ll W hT h1 h2 h3
end Go.Proofs.YtdppmeeobpbfnaaDoor
