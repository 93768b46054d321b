/-
  The contract of ruleset.Of: the rules of a set.
  The contract of book.rules: the rules of an era, each set looked up once (a map of the call's own).
  The contract of until.Instant at any era that is right: its instant.
  What Spans answers at any eras, in plain words; and the rules of any era by the book.
-/
import Derived.Test.YtdppmeeobpbfnaaDoorErMkB
import Derived.Test.YtdppmeeobpbfnaaDoorDrMade
import Derived.Maps.Own
import Derived.Maps.OwnSet
import Derived.Test.YtdppmeeobpbfnaaDoorErM
import Derived.Test.YtdppmeeobpbfnaaDoorUntNam
import Derived.Test.YtdppmeeobpbfnaaDoorErSp
namespace Go.Proofs.YtdppmeeobpbfnaaDoor
open Go.RowKit Cv
set_option linter.unusedVariables false
set_option linter.unusedSimpArgs false

namespace Cv
theorem strq (a b : ByteArray) : (a.toList == b.toList) = decide (a = b) := by
  rw [ByteArray.toList_eq, ByteArray.toList_eq, Bool.eq_iff_iff, decide_eq_true_iff, beq_iff_eq]
  obtain ⟨⟨x⟩⟩ := a
  obtain ⟨⟨y⟩⟩ := b
  simp
theorem strq_ne {a b : ByteArray} (h : a ≠ b) : (a.toList == b.toList) = false := by rw [strq]; exact decide_eq_false h
theorem own_sl {w : World} {base size n : Nat} {t : TypeId} {v : Value} {xs : _root_.List Value} (h : w.ownsRow base t size v n xs) : ∃ (a : Option Addr) (c : Nat), v = .slice a n c := by
  obtain ⟨_, ⟨rfl, rfl⟩ | ⟨g, cp, _, rfl, _⟩⟩ := h
  · exact ⟨none, 0, rfl⟩
  · exact ⟨_, _, rfl⟩
/-- rules, in a block of their own type -/
def RulT (v : Value) (rs : _root_.List Ru) (w : World) : Prop := Rul v rs w ∧ ∀ (g off n c : Nat), v = .slice (some ⟨g, off, none⟩) n c → ∃ cur, w.heap[g]? = some (.cells cur 56)
theorem RulT.below {v : Value} {rs : _root_.List Ru} {A B : World} (h : RulT v rs A) (hb : Below A.heap.size A B) : RulT v rs B :=
  ⟨h.1.below hb, fun g off n c e => (by obtain ⟨cur, hc⟩ := h.2 g off n c e; exact ⟨cur, block_below hc hb⟩)⟩
theorem RulT.of {w : World} {base : Nat} {v : Value} {rs : _root_.List Ru} {n : Nat} {xs : _root_.List Value} (h : Rul v rs w) (ho : w.ownsRow base 56 11 v n xs) : RulT v rs w := ⟨h, fun g off n' c e => by
  obtain ⟨_, ⟨h0, _⟩ | ⟨g', cp, cur, h1, _, h3, _⟩⟩ := ho
  · rw [h0] at e; simp at e
  · rw [h1] at e
    simp only [Value.slice.injEq, Option.some.injEq, Addr.mk.injEq] at e
    obtain ⟨⟨rfl, _⟩, _⟩ := e
    exact ⟨cur, h3⟩⟩
theorem bel_alloc2 (w : World) (o : Obj) : Below w.heap.size w ((w.alloc o).alloc o) := (bel_alloc w o).alloc (by show w.heap.size ≤ (w.heap.push o).size; simp) o
end Cv
theorem parts_ru : ∃ i : TypeInfo, Tryd.prog.info? 56 = some i ∧ i.zero = some (.agg #[.string ⟨#[]⟩, .int .i64 0, .int .i64 0, .int .i64 0, .int .i64 0, .int .i64 0, .int .i64 0, .int .i64 0, .int .i64 0, .int .i64 0, .string ⟨#[]⟩]) ∧ i.size = 11 ∧ i.bytes = 104 := by
  obtain ⟨i, hi, hzz⟩ := Option.map_eq_some_iff.1 infoRu
  simp only [Prod.mk.injEq] at hzz
  exact ⟨i, hi, hzz.1, hzz.2.1, hzz.2.2⟩

set_option maxRecDepth 100000 in
set_option maxHeartbeats 8000000 in
theorem of23_any (v vb vc vd : Value) (rs : _root_.List Ru) (n : ByteArray) (W : World) (h : Rul v rs W) :
    Calls Tryd.prog 38 #[.agg #[v, vb, vc, vd], .string n] W fun e w' => ∃ v', e = .returned v' ∧ Hid (RulT v' (rs.filter fun r => decide (r.na = n)) w') ∧ Below W.heap.size W w' := by
  obtain ⟨A, cap, rfl⟩ := h.sl
  have H := Lib.hid h
  have hl := h.len
  clear h
  obtain ⟨i0, hi, hz0, hzs, hzb⟩ := parts_ru
  obtain ⟨c, hN⟩ : ∃ c, c = rs.length := ⟨_, rfl⟩
  have HN := Lib.hid hN
  rw [← hN] at hl ⊢
  clear hN
  have HB0 := Lib.hid (bel_alloc W (.cells #[.slice A c cap, vb, vc, vd] 41))
  go_enter Tryd.func38, Tryd.ntmps38
  go_wp2_with fail
  go_loopw [5, 11] (fun t5 t11 wr => ∃ (k : Nat) (vo : Value) (wq : World), k ≤ c ∧ t5 = vo ∧ t11 = .int .i64 (k : Int) ∧ wr = wq ∧ Hid (∃ m, m = ((rs.take k).filter fun r => decide (r.na = n)).length ∧ wq.ownsRow W.heap.size 56 11 vo m (flatRu ((rs.take k).filter fun r => decide (r.na = n)))) ∧ Hid (Below W.heap.size W wq)) (fun _ t11 _ => c - (intOf t11).toNat)
  case atStart => exact ⟨0, .slice none 0 0, _, by omega, rfl, rfl, rfl, Lib.hid ⟨0, rfl, World.ownsRow_nil _ _ _ _⟩, HB0⟩
  case round =>
    obtain ⟨k, vo, wq, hk, rfl, rfl, rfl, HO, HB⟩ := hrel
    obtain ⟨m, hm, hown⟩ := HO.out
    have hmk : m ≤ k := by rw [hm]; exact Nat.le_trans (_root_.List.length_filter_le _ _) (by rw [_root_.List.length_take]; omega)
    have HM := Lib.hid hm
    obtain ⟨av, cv, hv⟩ := own_sl hown
    subst hv
    have HOW := Lib.hid hown
    clear hown hm HO
    by_cases hlt : k < c
    · obtain ⟨r, hr⟩ : ∃ r, rs[k]? = some r := ⟨_, _root_.List.getElem?_eq_getElem (by rw [← HN.out]; exact hlt)⟩
      have hR := H.out.below HB.out
      rw [← HN.out] at hR
      obtain ⟨g1, o1, rfl, hc1⟩ := hR.at_ hr
      have HR := Lib.hid hr
      obtain ⟨na, fr, ut, mo, kk, wd, d, sec, bs, save, le⟩ := r
      obtain ⟨a0, a1, a2, a3, a4, a5, a6, a7, a8, a9, a10⟩ := range11 hc1
      have hi0 : (0 : Int) ≤ (k : Int) := by omega
      have hi1 : (k : Int) < (c : Int) := by omega
      clear hr hc1 hR
      by_cases hna : na = n
      · subst hna
        have hse : (na.toList == na.toList) = true := by simp
        have hal := bel_alloc2 wr (.cells #[.string na, .int .i64 fr, .int .i64 ut, .int .i64 mo, .int .i64 kk, .int .i64 wd, .int .i64 d, .int .i64 sec, .int .i64 bs, .int .i64 save, .string le] 56)
        have HNW := Lib.hid (heap_alloc2_new wr (.cells #[.string na, .int .i64 fr, .int .i64 ut, .int .i64 mo, .int .i64 kk, .int .i64 wd, .int .i64 d, .int .i64 sec, .int .i64 bs, .int .i64 save, .string le] 56) (.cells #[.string na, .int .i64 fr, .int .i64 ut, .int .i64 mo, .int .i64 kk, .int .i64 wd, .int .i64 d, .int .i64 sec, .int .i64 bs, .int .i64 save, .string le] 56))
        have HOA := Lib.hid (own_below17 HOW.out hal)
        have hsz := Nat.le_trans HB.out.size hal.size
        go_wp2_with (at_builtin; refine wpList_append_own _ rfl (.tmp 19) (.tmp 21) 36 rfl W.heap.size 56 i0 (.agg #[.string ⟨#[]⟩, .int .i64 0, .int .i64 0, .int .i64 0, .int .i64 0, .int .i64 0, .int .i64 0, .int .i64 0, .int .i64 0, .int .i64 0, .string ⟨#[]⟩]) 11 104 Tryd.underlying36 hi hz0 hzs hzb rfl (by decide) (.slice av m cv) m (flatRu ((rs.take k).filter fun r => decide (r.na = na))) rfl HOA.out ⟨wr.heap.size + 1, 0, none⟩ 1 1 [.string na, .int .i64 fr, .int .i64 ut, .int .i64 mo, .int .i64 kk, .int .i64 wd, .int .i64 d, .int .i64 sec, .int .i64 bs, .int .i64 save, .string le] rfl rfl (World.news_of_block HNW.out) (by intro u hu; simp at hu; rcases hu with rfl | rfl | rfl | rfl | rfl | rfl | rfl | rfl | rfl | rfl | rfl <;> rfl) (by unfold maxLen; omega) (by omega) hsz ?_; intro v9 w10 hown hgrow hnil)
        have HOF : Hid (∃ m', m' = ((rs.take (k + 1)).filter fun r => decide (r.na = na)).length ∧ w10.ownsRow W.heap.size 56 11 v9 m' (flatRu ((rs.take (k + 1)).filter fun r => decide (r.na = na)))) := by
          have e : (rs.take (k + 1)).filter (fun r => decide (r.na = na)) = (rs.take k).filter (fun r => decide (r.na = na)) ++ [⟨na, fr, ut, mo, kk, wd, d, sec, bs, save, le⟩] := by
            rw [_root_.List.take_add_one, HR.out, _root_.List.filter_append]
            congr 1
            show _root_.List.filter _ [_] = _
            rw [_root_.List.filter_cons_of_pos (by simp), _root_.List.filter_nil]
          refine ⟨m + 1, by rw [e, _root_.List.length_append, ← HM.out]; rfl, ?_⟩
          rw [e]
          have e2 : flatRu ((rs.take k).filter (fun r => decide (r.na = na)) ++ [⟨na, fr, ut, mo, kk, wd, d, sec, bs, save, le⟩]) = flatRu ((rs.take k).filter fun r => decide (r.na = na)) ++ [.string na, .int .i64 fr, .int .i64 ut, .int .i64 mo, .int .i64 kk, .int .i64 wd, .int .i64 d, .int .i64 sec, .int .i64 bs, .int .i64 save, .string le] := by
            unfold flatRu
            rw [_root_.List.flatMap_append, _root_.List.flatMap_cons, _root_.List.flatMap_nil, _root_.List.append_nil]
            rfl
          rw [e2]; exact hown
        have HBF := Lib.hid (Below.grown (HB.out.trans (hal.mono HB.out.size)) hgrow hsz (fun q hq => (HOA.out.lt q hq).1))
        go_round
        case rel => exact ⟨k + 1, _, _, by omega, rfl, by go_num, rfl, HOF, HBF⟩
        case measure => simp [intOf]; omega
      · have hne := strq_ne hna
        have hal := bel_alloc wr (.cells #[.string na, .int .i64 fr, .int .i64 ut, .int .i64 mo, .int .i64 kk, .int .i64 wd, .int .i64 d, .int .i64 sec, .int .i64 bs, .int .i64 save, .string le] 56)
        have HOF : Hid (∃ m', m' = ((rs.take (k + 1)).filter fun r => decide (r.na = n)).length ∧ (wr.alloc (.cells #[.string na, .int .i64 fr, .int .i64 ut, .int .i64 mo, .int .i64 kk, .int .i64 wd, .int .i64 d, .int .i64 sec, .int .i64 bs, .int .i64 save, .string le] 56)).ownsRow W.heap.size 56 11 (.slice av m cv) m' (flatRu ((rs.take (k + 1)).filter fun r => decide (r.na = n)))) := by
          have e : (rs.take (k + 1)).filter (fun r => decide (r.na = n)) = (rs.take k).filter (fun r => decide (r.na = n)) := by
            rw [_root_.List.take_add_one, HR.out, _root_.List.filter_append]
            show _ ++ _root_.List.filter _ [_] = _
            rw [_root_.List.filter_cons_of_neg (by simpa using hna), _root_.List.filter_nil, _root_.List.append_nil]
          rw [e]
          exact ⟨m, HM.out, own_below17 HOW.out hal⟩
        have HBF := Lib.hid (HB.out.trans (hal.mono HB.out.size))
        go_wp2_with fail
        go_round
        case rel => exact ⟨k + 1, _, _, by omega, rfl, by go_num, rfl, HOF, HBF⟩
        case measure => simp [intOf]; omega
    · have hkc : k = c := by omega
      go_wp2_with fail
      go_ret
      refine ⟨_, rfl, Lib.hid ?_, HB.out⟩
      have ho := HOW.out
      have hmm := HM.out
      rw [hkc, HN.out, _root_.List.take_length] at ho hmm
      rw [hmm] at ho ⊢
      refine RulT.of (rul_of_own ho (Nat.le_trans (_root_.List.length_filter_le _ _) H.out.len) (fun r hr => by
        have hmem := (_root_.List.mem_filter.1 hr).1
        obtain ⟨i, hi⟩ := _root_.List.mem_iff_getElem?.1 hmem
        exact H.out.fits hi)) ho
end Go.Proofs.YtdppmeeobpbfnaaDoor
namespace Go.Proofs.YtdppmeeobpbfnaaDoor
open Go.RowKit Cv
set_option linter.unusedVariables false
set_option linter.unusedSimpArgs false

namespace Cv
/-- an element of the map reads as itself -/
def RV (v : Value) : Option (DataW Value × List MemPlace) := some (.held v, [])
def kyS (nm : ByteArray) : Lit := .string nm.data.toList
theorem kyS_inj {a b : ByteArray} (h : kyS a = kyS b) : a = b := by
  unfold kyS at h
  injection h with h
  obtain ⟨⟨x⟩⟩ := a
  obtain ⟨⟨y⟩⟩ := b
  simp at h
  rw [h]
def ofS (nm : ByteArray) (rs : _root_.List Ru) : _root_.List Ru := rs.filter fun r => decide (r.na = nm)
/-- the book: a map of at most k entries, each the rules of its set -/
def Book (mb k : Nat) (rs : _root_.List Ru) (w : World) : Prop := ∃ D : DataW Value, Maps.IsMap D ∧ w.ownsMap Tryd.prog 9 RV mb k D ∧ ∀ (nm : ByteArray) (v : Value), Maps.has D (kyS nm) = true → D.atKey (kyS nm) (.held (.slice none 0 0)) = .held v → RulT v (ofS nm rs) w
theorem grown_of {A B : World} (hb : Below A.heap.size A B) (r : Option Nat) : A.grownBy B r := ⟨hb.os, hb.tape, hb.output, hb.size, fun k hk _ => hb.block k hk⟩
theorem Book.below {mb k : Nat} {rs : _root_.List Ru} {A B : World} (h : Book mb k rs A) (hb : Below A.heap.size A B) : Book mb k rs B := by
  obtain ⟨D, h0, h1, h2⟩ := h
  exact ⟨D, h0, h1.kept (grown_of hb none) (by simp), fun nm v k1 k2 => (h2 nm v k1 k2).below hb⟩
theorem Book.lt {mb k : Nat} {rs : _root_.List Ru} {A : World} (h : Book mb k rs A) : mb < A.heap.size := by
  obtain ⟨D, _, h1, _⟩ := h
  exact h1.lt
theorem Rul.grown {v : Value} {rs : _root_.List Ru} {A B : World} {mb : Nat} {es : Array MapEntry} {c : Nat} (h : Rul v rs A) (hm : A.heap[mb]? = some (.map es c)) (hg : A.grownBy B (some mb)) : Rul v rs B := by
  obtain ⟨a, cp, h1, h2, h3, h4⟩ := h
  refine ⟨a, cp, h1, h2, h3, fun i r hr => ?_⟩
  obtain ⟨g, off, e, k⟩ := h4 i r hr
  refine ⟨g, off, e, fun j u hu => ?_⟩
  have hc := k j u hu
  refine hg.cell hc (fun e => ?_)
  have e' : g = mb := Option.some.inj e
  subst e'
  unfold World.cell? at hc
  rw [hm] at hc
  simp at hc
theorem RulT.grown {v : Value} {rs : _root_.List Ru} {A B : World} {mb : Nat} {es : Array MapEntry} {c : Nat} (h : RulT v rs A) (hm : A.heap[mb]? = some (.map es c)) (hg : A.grownBy B (some mb)) : RulT v rs B :=
  ⟨h.1.grown hm hg, fun g off n c' e => (by
    obtain ⟨cur, hc⟩ := h.2 g off n c' e
    refine ⟨cur, (hg.block g (Array.getElem?_eq_some_iff.1 hc).1 (fun e => ?_)).trans hc⟩
    have e' : g = mb := Option.some.inj e
    rw [e', hm] at hc
    simp at hc)⟩
theorem RulT.grownO {v : Value} {rs : _root_.List Ru} {A B : World} {q : Nat} {tq : TypeId} {cq : Array Value} (h : RulT v rs A) (hq : A.heap[q]? = some (.cells cq tq)) (ht : tq ≠ 56) (hg : A.grownBy B (some q)) : RulT v rs B := by
  obtain ⟨⟨a, cp, h1, h2, h3, h4⟩, h5⟩ := h
  have key : ∀ g off, a = some ⟨g, off, none⟩ → g ≠ q := fun g off e e2 => by
    obtain ⟨cur, hc⟩ := h5 g off _ _ (h1.trans (by rw [e]))
    rw [e2, hq] at hc
    simp at hc
    exact ht hc.2
  refine ⟨⟨a, cp, h1, h2, h3, fun i r hr => ?_⟩, fun g off n c' e => ?_⟩
  · obtain ⟨g, off, e, k⟩ := h4 i r hr
    exact ⟨g, off, e, fun j u hu => hg.cell (k j u hu) (fun e2 => key g off e (Option.some.inj e2))⟩
  · obtain ⟨cur, hc⟩ := h5 g off n c' e
    rw [h1] at e
    simp only [Value.slice.injEq] at e
    exact ⟨cur, (hg.block g (Array.getElem?_eq_some_iff.1 hc).1 (fun e2 => key g off e.1 (Option.some.inj e2))).trans hc⟩
/-- the book stays while another row, of no rules, grows -/
theorem Book.grownO {mb k : Nat} {rs : _root_.List Ru} {A B : World} {row : Option Nat} (h : Book mb k rs A) (hg : A.grownBy B row) (hr : ∀ q, row = some q → q ≠ mb ∧ ∃ (tq : TypeId) (cq : Array Value), A.heap[q]? = some (.cells cq tq) ∧ tq ≠ 56) : Book mb k rs B := by
  cases row with
  | none =>
    exact h.below ⟨hg.os, hg.tape, hg.output, hg.size, fun i hi => hg.block i hi (by simp)⟩
  | some q =>
    obtain ⟨hne, tq, cq, hq, ht⟩ := hr q rfl
    obtain ⟨D, h0, h1, h2⟩ := h
    exact ⟨D, h0, h1.kept hg (fun e => hne (Option.some.inj e).symm), fun nm v k1 k2 => (h2 nm v k1 k2).grownO hq ht hg⟩
theorem Book.up {A : World} {mb k : Nat} {rs : _root_.List Ru} (h : Book mb k rs A) : Book mb (k + 1) rs A := by
  obtain ⟨D, q1, q2, q3⟩ := h
  exact ⟨D, q1, q2.mono (Nat.le_succ _), q3⟩
theorem Book.made (W : World) (rs : _root_.List Ru) : Book W.heap.size 0 rs (W.alloc (.map #[] 0)) :=
  ⟨.map [], Maps.isMap_empty, World.ownsMap_made _ _ _ _, fun nm v h => by simp [Maps.has] at h⟩
end Cv
theorem zeroRs (w : World) : (zeroValue 36).run Tryd.prog w = .ok (.slice none 0 0) w := by kernel_rfl

set_option maxRecDepth 100000 in
set_option maxHeartbeats 8000000 in
theorem book_any (va vb vc vd : Value) (off save : Int) (st fm : ByteArray) (is : Bool) (y m kd w dd sec base : Int) (rs : _root_.List Ru) (mb k : Nat) (W : World) (h : Rul va rs W) (hB : Book mb k rs W) (hk : k ≤ 1000) (hst : st.size ≤ 1000) :
    Calls Tryd.prog 23 #[.agg #[va, vb, vc, vd, .map (some mb)], .agg #[.int .i64 off, .int .i64 2, .int .i64 save, .string st, .string fm, .bool is, .int .i64 y, .int .i64 m, .int .i64 kd, .int .i64 w, .int .i64 dd, .int .i64 sec, .int .i64 base]] W
      fun e w' => ∃ v', e = .returned v' ∧ Hid (Rul v' (ofS st rs) w') ∧ Hid (Book mb (k + 1) rs w') ∧ Hid (W.grownBy w' (some mb)) := by
  obtain ⟨A, cap, rfl⟩ := h.sl
  obtain ⟨c, hN⟩ : ∃ c, c = rs.length := ⟨_, rfl⟩
  rw [← hN] at h ⊢
  have HN := Lib.hid hN
  clear hN
  obtain ⟨D, hD, hown, hall⟩ := hB
  have hlt := hown.lt
  have hkey : keyOf Tryd.prog 9 (.string st) = some (kyS st) := Go.WideMaps.keyOf_string_mk Tryd.underlying9 (by unfold maxLen; omega)
  have law := Go.Maps.string_keyed Tryd.underlying9
  have hb2 := bel_trans (bel_alloc W (.cells #[.slice A c cap, vb, vc, vd, .map (some mb)] 80)) (bel_alloc _ (.cells #[.int .i64 off, .int .i64 2, .int .i64 save, .string st, .string fm, .bool is, .int .i64 y, .int .i64 m, .int .i64 kd, .int .i64 w, .int .i64 dd, .int .i64 sec, .int .i64 base] 60))
  have hown2 := hown.kept (grown_of hb2 none) (by simp)
  obtain ⟨v, ps, hrun, hRv⟩ := hown2.look_ok law Tryd.underlying78 (zeroRs _) (zd := .held (.slice none 0 0)) (zp := []) rfl hkey
  have hat : D.atKey (kyS st) (.held (.slice none 0 0)) = .held v := by
    unfold RV at hRv
    simp only [Option.some.injEq, Prod.mk.injEq] at hRv
    exact hRv.1.symm
  have K2 := Lib.hid (block_below (heap_alloc_new W (.cells #[.slice A c cap, vb, vc, vd, .map (some mb)] 80)) (bel_alloc _ (.cells #[.int .i64 off, .int .i64 2, .int .i64 save, .string st, .string fm, .bool is, .int .i64 y, .int .i64 m, .int .i64 kd, .int .i64 w, .int .i64 dd, .int .i64 sec, .int .i64 base] 60)))
  have K3 := Lib.hid (heap_alloc2_new W (.cells #[.slice A c cap, vb, vc, vd, .map (some mb)] 80) (.cells #[.int .i64 off, .int .i64 2, .int .i64 save, .string st, .string fm, .bool is, .int .i64 y, .int .i64 m, .int .i64 kd, .int .i64 w, .int .i64 dd, .int .i64 sec, .int .i64 base] 60))
  have HALL := Lib.hid hall
  have HOWN := Lib.hid hown
  have HOWN2 := Lib.hid hown2
  have HAT := Lib.hid hat
  have HB2 := Lib.hid hb2
  have HD := Lib.hid hD
  have H := Lib.hid h
  clear hall hown hown2 hat hb2 hRv hD h
  go_enter Tryd.func23, Tryd.ntmps23
  cases hh : Maps.has D (kyS st)
  · rw [hh] at hrun
    go_wp2_with fail
    refine (of23_any (.slice A c cap) vb vc vd rs st _ (by have := H.out.below HB2.out; exact this)).mono ?_
    rintro e w5 ⟨v', rfl, HV, hb⟩
    have HOWN5 := Lib.hid (HOWN2.out.kept (grown_of hb none) (by simp))
    replace K2 := Lib.hid (block_below K2.out hb)
    replace K3 := Lib.hid (block_below K3.out hb)
    have HB5 := Lib.hid (bel_trans HB2.out hb)
    clear hb hrun
    have p0 := cellB K2.out (i := 0) rfl
    have p1 := cellB K2.out (i := 1) rfl
    have p2 := cellB K2.out (i := 2) rfl
    have p3 := cellB K2.out (i := 3) rfl
    have p4 := cellB K2.out (i := 4) rfl
    have q0 := cellB K3.out (i := 0) rfl
    have q1 := cellB K3.out (i := 1) rfl
    have q2 := cellB K3.out (i := 2) rfl
    have q3 := cellB K3.out (i := 3) rfl
    have q4 := cellB K3.out (i := 4) rfl
    have q5 := cellB K3.out (i := 5) rfl
    have q6 := cellB K3.out (i := 6) rfl
    have q7 := cellB K3.out (i := 7) rfl
    have q8 := cellB K3.out (i := 8) rfl
    have q9 := cellB K3.out (i := 9) rfl
    have q10 := cellB K3.out (i := 10) rfl
    have q11 := cellB K3.out (i := 11) rfl
    have q12 := cellB K3.out (i := 12) rfl
    go_wp2_with (at_mapUpdate; refine wpList_mapUpdate_own _ rfl _ _ _ 78 rfl 9 36 law Tryd.underlying78 RV mb k D rfl HOWN5.out (by unfold maxLen; omega) _ _ _ rfl rfl hkey (.held v') [] rfl ?_; intro w9 hown9 hgrow9)
    go_ret
    obtain ⟨es, ck, hmb, _⟩ := HOWN5.out
    have hg : W.grownBy w9 (some mb) := (grown_of HB5.out (some mb)).trans hgrow9
    refine ⟨_, rfl, Lib.hid (HV.out.1.grown hmb hgrow9), Lib.hid ⟨D.put (kyS st) (.held v'), HD.out.put _ _, hown9, fun nm u h1 h2 => ?_⟩, Lib.hid hg⟩
    by_cases hn : kyS nm = kyS st
    · have := kyS_inj hn
      subst this
      rw [Maps.atKey_put_same HD.out (law.key hkey)] at h2
      injection h2 with h2
      subst h2
      exact HV.out.grown hmb hgrow9
    · rw [Maps.has_put_other hn] at h1
      rw [Maps.atKey_put_other hn] at h2
      exact ((HALL.out nm u h1 h2).below HB5.out).grown hmb hgrow9
  · rw [hh] at hrun
    have hR := HALL.out st v hh HAT.out
    have HR := Lib.hid hR
    clear hR
    go_wp2_with fail
    go_ret
    refine ⟨_, rfl, Lib.hid (HR.out.1.below HB2.out), Lib.hid ?_, Lib.hid (grown_of HB2.out _)⟩
    exact Book.below ⟨D, HD.out, HOWN.out.mono (Nat.le_succ _), HALL.out⟩ HB2.out
end Go.Proofs.YtdppmeeobpbfnaaDoor
namespace Go.Proofs.YtdppmeeobpbfnaaDoor
open Go.RowKit Cv
set_option linter.unusedVariables false
set_option linter.unusedSimpArgs false

namespace Cv
def lstE (e : Er) (rs : _root_.List Ru) : Int := if e.k = 2 then baseL rs else 0
/-- an era whose end is right, with the rules of its set -/
def OkE (e : Er) (rs : _root_.List Ru) : Prop := e.is = true ∧ (0 ≤ e.k ∧ e.k ≤ 2) ∧ (0 ≤ e.base ∧ e.base ≤ 2) ∧ (-604799 ≤ e.off ∧ e.off ≤ 604799) ∧ (-604799 ≤ e.save ∧ e.save ≤ 604799) ∧ untC true e.y e.m e.kd e.w e.d e.sec e.base (lstE e rs) = 0 ∧ (e.k = 2 → Tame rs ∧ ∀ o, -604799 ≤ (befS rs o).save ∧ (befS rs o).save ≤ 604799)
/-- what is taken off the time -/
def instD (e : Er) (sv : Int) : Int := if e.base = 2 then 0 else if e.base = 1 then e.off else if e.k = 1 then e.save + e.off else if e.k = 2 then sv + e.off else e.off
def InstIs (e : Er) (rs : _root_.List Ru) (t : Int) : Prop := ∃ o, (e.k = 2 → BefIs rs (untN true e.y e.m e.kd e.w e.d e.sec e.base (baseL rs)) o) ∧ t = 86400 * (on e.y e.m e.kd e.w e.d).1 + e.sec - instD e (befS rs o).save
end Cv

set_option maxRecDepth 100000 in
theorem inst_any (e : Er) (rs : _root_.List Ru) (v : Value) (W : World) (hT : Tabs W) (hR : e.k = 2 → Rul v rs W) (h : OkE e rs) :
    Calls Tryd.prog 22 #[.agg e.arr, v] W fun ex w' => ∃ t, ex = .returned (.tuple #[.int .i64 t, .int .i64 0]) ∧ Hid (InstIs e rs t) ∧ Below W.heap.size W w' := by
  obtain ⟨off, k, save, st, fm, is, y, m, kd, w, d, sec, base⟩ := e
  obtain ⟨h1, ⟨k1, k2⟩, ⟨b1, b2⟩, ⟨o1, o2⟩, ⟨v1, v2⟩, hq, h8⟩ := h
  unfold Er.arr
  dsimp only at *
  subst h1
  obtain ⟨⟨x, c⟩, hx⟩ : ∃ q, on y m kd w d = q := ⟨_, rfl⟩
  have hk : k = 0 ∨ k = 1 ∨ k = 2 := by omega
  have hb : base = 0 ∨ base = 1 ∨ base = 2 := by omega
  unfold lstE at hq
  dsimp only at hq
  rcases hk with rfl | rfl | rfl <;> simp only [Int.reduceEq, if_true, if_false] at hq
  · rcases hb with rfl | rfl | rfl
    · refine (untInst00 off save st fm y m kd w d sec x c v W hT hq hx o1 o2 v1 v2).mono ?_
      rintro ex w' ⟨rfl, hb⟩
      exact ⟨_, rfl, Lib.hid ⟨none, fun h => absurd (show (0 : Int) = 2 from h) (by decide), by rw [hx]; simp [instD] <;> omega⟩, hb⟩
    · refine (untInst01 off save st fm y m kd w d sec x c v W hT hq hx o1 o2 v1 v2).mono ?_
      rintro ex w' ⟨rfl, hb⟩
      exact ⟨_, rfl, Lib.hid ⟨none, fun h => absurd (show (0 : Int) = 2 from h) (by decide), by rw [hx]; simp [instD] <;> omega⟩, hb⟩
    · refine (untInst02 off save st fm y m kd w d sec x c v W hT hq hx o1 o2 v1 v2).mono ?_
      rintro ex w' ⟨rfl, hb⟩
      exact ⟨_, rfl, Lib.hid ⟨none, fun h => absurd (show (0 : Int) = 2 from h) (by decide), by rw [hx]; simp [instD] <;> omega⟩, hb⟩
  · rcases hb with rfl | rfl | rfl
    · refine (untInst10 off save st fm y m kd w d sec x c v W hT hq hx o1 o2 v1 v2).mono ?_
      rintro ex w' ⟨rfl, hb⟩
      exact ⟨_, rfl, Lib.hid ⟨none, fun h => absurd (show (1 : Int) = 2 from h) (by decide), by rw [hx]; simp [instD] <;> omega⟩, hb⟩
    · refine (untInst11 off save st fm y m kd w d sec x c v W hT hq hx o1 o2 v1 v2).mono ?_
      rintro ex w' ⟨rfl, hb⟩
      exact ⟨_, rfl, Lib.hid ⟨none, fun h => absurd (show (1 : Int) = 2 from h) (by decide), by rw [hx]; simp [instD] <;> omega⟩, hb⟩
    · refine (untInst12 off save st fm y m kd w d sec x c v W hT hq hx o1 o2 v1 v2).mono ?_
      rintro ex w' ⟨rfl, hb⟩
      exact ⟨_, rfl, Lib.hid ⟨none, fun h => absurd (show (1 : Int) = 2 from h) (by decide), by rw [hx]; simp [instD] <;> omega⟩, hb⟩
  · rcases hb with rfl | rfl | rfl
    · refine (untInst20 off save st fm y m kd w d sec x c v rs W hT (hR rfl) (h8 rfl).1 (h8 rfl).2 hq hx o1 o2).mono ?_
      rintro ex w' ⟨o, ho, rfl, hb⟩
      exact ⟨_, rfl, Lib.hid ⟨o, fun _ => ho.out, by rw [hx]; simp [instD] <;> omega⟩, hb⟩
    · refine (untInst21 off save st fm y m kd w d sec x c v rs W hT (hR rfl) (h8 rfl).1 (h8 rfl).2 hq hx o1 o2).mono ?_
      rintro ex w' ⟨o, ho, rfl, hb⟩
      exact ⟨_, rfl, Lib.hid ⟨o, fun _ => ho.out, by rw [hx]; simp [instD] <;> omega⟩, hb⟩
    · refine (untInst22 off save st fm y m kd w d sec x c v rs W hT (hR rfl) (h8 rfl).1 (h8 rfl).2 hq hx o1 o2).mono ?_
      rintro ex w' ⟨o, ho, rfl, hb⟩
      exact ⟨_, rfl, Lib.hid ⟨o, fun _ => ho.out, by rw [hx]; simp [instD] <;> omega⟩, hb⟩
end Go.Proofs.YtdppmeeobpbfnaaDoor
namespace Go.Proofs.YtdppmeeobpbfnaaDoor
open Go.RowKit Cv
set_option linter.unusedVariables false
set_option linter.unusedSimpArgs false

namespace Cv
theorem inst_bd {e : Er} {rs : _root_.List Ru} {t : Int} (h : OkE e rs) (hi : InstIs e rs t) : -1000000000000 ≤ t ∧ t ≤ 1000000000000 := by
  obtain ⟨h1, ⟨k1, k2⟩, ⟨b1, b2⟩, ⟨o1, o2⟩, ⟨v1, v2⟩, hq, h8⟩ := h
  obtain ⟨o, ho, ht⟩ := hi
  obtain ⟨⟨x, c⟩, hx⟩ : ∃ q, on e.y e.m e.kd e.w e.d = q := ⟨_, rfl⟩
  obtain ⟨-, -, -, -, -, -, -, x1, x2, s1, s2⟩ := unt_known hq hx
  have hd : -1300000 ≤ instD e (befS rs o).save ∧ instD e (befS rs o).save ≤ 1300000 := by
    unfold instD
    by_cases hk : e.k = 2
    · obtain ⟨p1, p2⟩ := (h8 hk).2 o
      repeat (first | omega | split)
    · repeat (first | omega | split)
  rw [hx] at ht
  dsimp only at ht
  omega
/-- spans between instants -/
def spl (s : Int) (i : Nat) : _root_.List Int → _root_.List Sp
  | [] => []
  | t :: ts => ⟨s, t, (i : Int)⟩ :: spl t (i + 1) ts
def Inc (s : Int) : _root_.List Int → Prop
  | [] => True
  | t :: ts => s < t ∧ Inc t ts
def lastO (s : Int) : _root_.List Int → Int
  | [] => s
  | t :: ts => lastO t ts
theorem lastO_snoc (ts : _root_.List Int) (t : Int) : ∀ s, lastO s (ts ++ [t]) = t := by
  induction ts with
  | nil => intro s; rfl
  | cons a r ih => intro s; exact ih a
theorem inc_snoc (ts : _root_.List Int) (t : Int) : ∀ s, Inc s ts → lastO s ts < t → Inc s (ts ++ [t]) := by
  induction ts with
  | nil => intro s _ h; exact ⟨h, trivial⟩
  | cons a r ih => intro s h1 h2; exact ⟨h1.1, ih a h1.2 h2⟩
theorem spl_snoc (ts : _root_.List Int) (t : Int) : ∀ (s : Int) (i : Nat), spl s i (ts ++ [t]) = spl s i ts ++ [⟨lastO s ts, t, ((i + ts.length : Nat) : Int)⟩] := by
  induction ts with
  | nil => intro s i; rfl
  | cons a r ih =>
    intro s i
    show _ :: spl a (i + 1) (r ++ [t]) = (_ :: spl a (i + 1) r) ++ [_]
    rw [ih a (i + 1)]
    have e : i + 1 + r.length = i + (a :: r).length := by show i + 1 + r.length = i + (r.length + 1); omega
    rw [e]
    rfl
theorem spl_len (ts : _root_.List Int) : ∀ (s : Int) (i : Nat), (spl s i ts).length = ts.length := by
  induction ts with
  | nil => intro s i; rfl
  | cons a r ih => intro s i; show (spl a (i + 1) r).length + 1 = r.length + 1; rw [ih]
theorem lastO_get (ts : _root_.List Int) : ∀ s, ts ≠ [] → ts[ts.length - 1]? = some (lastO s ts) := by
  induction ts with
  | nil => intro s h; exact absurd rfl h
  | cons a r ih =>
    intro s _
    cases r with
    | nil => rfl
    | cons b q =>
      have := ih a (by simp)
      show (a :: b :: q)[q.length + 1]? = _
      exact this
/-- the instants of the first eras -/
def Insts (es : _root_.List Er) (rs : _root_.List Ru) (ts : _root_.List Int) : Prop := ∀ (i : Nat) (t : Int) (e : Er), ts[i]? = some t → es[i]? = some e → InstIs e (ofS e.set rs) t
theorem Insts.snoc {es : _root_.List Er} {rs : _root_.List Ru} {ts : _root_.List Int} {t : Int} {e : Er} (h : Insts es rs ts) (he : es[ts.length]? = some e) (hi : InstIs e (ofS e.set rs) t) : Insts es rs (ts ++ [t]) := fun i t' e' h1 h2 => by
  by_cases hl : i < ts.length
  · rw [_root_.List.getElem?_append_left hl] at h1
    exact h i t' e' h1 h2
  · have hi' := (_root_.List.getElem?_eq_some_iff.1 h1).1
    rw [_root_.List.length_append] at hi'
    simp at hi'
    obtain rfl : i = ts.length := by omega
    rw [_root_.List.getElem?_append_right (Nat.le_refl _), Nat.sub_self] at h1
    simp at h1
    subst h1
    rw [he] at h2
    obtain rfl := Option.some.inj h2
    exact hi
/-- the loop's state: k eras are done -/
def SpJ (es : _root_.List Er) (rs : _root_.List Ru) (m k : Nat) (st : Int) (acc : _root_.List Sp) : Prop :=
  (k < m → ∃ ts, ts.length = k ∧ Insts es rs ts ∧ Inc (-9223372036854775808) ts ∧ st = lastO (-9223372036854775808) ts ∧ acc = spl (-9223372036854775808) 0 ts) ∧
  (k = m → ∃ ts, ts.length + 1 = m ∧ Insts es rs ts ∧ Inc (-9223372036854775808) ts ∧ acc = spl (-9223372036854775808) 0 (ts ++ [9223372036854775807]))
theorem spJ_zero {es : _root_.List Er} {rs : _root_.List Ru} {m : Nat} (hm : 0 < m) : SpJ es rs m 0 (-9223372036854775808) [] := ⟨fun _ => ⟨[], rfl, fun i t e h => by simp at h, trivial, rfl, rfl⟩, fun h => by omega⟩
theorem spJ_last {es : _root_.List Er} {rs : _root_.List Ru} {m k : Nat} {st : Int} {acc : _root_.List Sp} (h : SpJ es rs m k st acc) (hk : k + 1 = m) : SpJ es rs m (k + 1) 9223372036854775807 (acc ++ [⟨st, 9223372036854775807, (k : Int)⟩]) := by
  obtain ⟨ts, h1, h2, h3, h4, h5⟩ := h.1 (by omega)
  refine ⟨fun h => by omega, fun _ => ⟨ts, by omega, h2, h3, ?_⟩⟩
  rw [spl_snoc, h5, h4, h1, Nat.zero_add]
theorem spJ_more {es : _root_.List Er} {rs : _root_.List Ru} {m k : Nat} {st t : Int} {acc : _root_.List Sp} {e : Er} (h : SpJ es rs m k st acc) (hk : k + 1 < m) (he : es[k]? = some e) (hi : InstIs e (ofS e.set rs) t) (hl : st < t) : SpJ es rs m (k + 1) t (acc ++ [⟨st, t, (k : Int)⟩]) := by
  obtain ⟨ts, h1, h2, h3, h4, h5⟩ := h.1 (by omega)
  subst h1
  refine ⟨fun _ => ⟨ts ++ [t], by simp, h2.snoc he hi, inc_snoc _ _ _ h3 (by rw [← h4]; exact hl), (lastO_snoc _ _ _).symm, ?_⟩, fun h => by omega⟩
  rw [spl_snoc, h5, h4, Nat.zero_add]
/-- two ends in the wrong order -/
def Wrong (es : _root_.List Er) (rs : _root_.List Ru) : Prop := ∃ (i : Nat) (e e' : Er) (t t' : Int), i + 2 < es.length ∧ es[i]? = some e ∧ es[i + 1]? = some e' ∧ InstIs e (ofS e.set rs) t ∧ InstIs e' (ofS e'.set rs) t' ∧ t' ≤ t
theorem spJ_no {es : _root_.List Er} {rs : _root_.List Ru} {m k : Nat} {st t : Int} {acc : _root_.List Sp} {e : Er} (hm : m = es.length) (h : SpJ es rs m k st acc) (hk : k + 1 < m) (he : es[k]? = some e) (hi : InstIs e (ofS e.set rs) t) (ht : -1000000000000 ≤ t) (hl : t ≤ st) : Wrong es rs := by
  obtain ⟨ts, h1, h2, h3, h4, h5⟩ := h.1 (by omega)
  by_cases h0 : ts = []
  · subst h0
    have : st = -9223372036854775808 := h4
    omega
  · have hk0 : k ≠ 0 := fun e => h0 (_root_.List.length_eq_zero_iff.1 (h1.trans e))
    have hl2 := lastO_get ts (-9223372036854775808) h0
    rw [h1, ← h4] at hl2
    have hlt : k - 1 < es.length := by omega
    obtain ⟨e0, he0⟩ : ∃ e0, es[k - 1]? = some e0 := ⟨_, _root_.List.getElem?_eq_getElem hlt⟩
    exact ⟨k - 1, e0, e, st, t, by omega, he0, by rw [show k - 1 + 1 = k by omega]; exact he, h2 _ _ _ hl2 he0, hi, hl⟩
/-- what Spans answers -/
def SpanG (es : _root_.List Er) (rs : _root_.List Ru) (W : World) (ex : Ending) (w' : World) : Prop :=
  ((∃ (v : Value) (ts : _root_.List Int), ts.length + 1 = es.length ∧ Insts es rs ts ∧ Inc (-9223372036854775808) ts ∧ ex = .returned (.tuple #[v, .int .i64 0]) ∧ RdSp v (spl (-9223372036854775808) 0 (ts ++ [9223372036854775807])) w') ∨
   (Wrong es rs ∧ ex = .returned (.tuple #[.slice none 0 0, .int .i64 12]))) ∧ Below W.heap.size W w'
theorem own_grownM {A B : World} {base size n mb : Nat} {t : TypeId} {v : Value} {xs : _root_.List Value} (h : A.ownsRow base t size v n xs) (hg : A.grownBy B (some mb)) (hm : mb < base) : B.ownsRow base t size v n xs := by
  obtain ⟨hl, h0 | ⟨g, cap, cur, h1, h2, h3, h4⟩⟩ := h
  · exact ⟨hl, .inl h0⟩
  · exact ⟨hl, .inr ⟨g, cap, cur, h1, h2, (hg.block g (Array.getElem?_eq_some_iff.1 h3).1 (fun e => by have := Option.some.inj e; omega)).trans h3, h4⟩⟩
theorem blk_grownM {A B : World} {b mb : Nat} {o : Obj} (h : A.heap[b]? = some o) (hg : A.grownBy B (some mb)) (hm : b ≠ mb) : B.heap[b]? = some o := (hg.block b (Array.getElem?_eq_some_iff.1 h).1 (fun e => hm (Option.some.inj e))).trans h
theorem bk2m {V : World} {b : Nat} {o : Obj} (h : V.heap[b]? = some o) : b < V.heap.size := (Array.getElem?_eq_some_iff.1 h).1
theorem own_typ {A : World} {base size n : Nat} {t : TypeId} {v : Value} {xs : _root_.List Value} (h : A.ownsRow base t size v n xs) : ∀ q, v.ownBlock = some q → base ≤ q ∧ ∃ cur, A.heap[q]? = some (.cells cur t) := fun q hq => by
  refine ⟨(h.lt q hq).1, ?_⟩
  obtain ⟨_, ⟨h0, _⟩ | ⟨g, cp, cur, h1, _, h3, _⟩⟩ := h
  · rw [h0] at hq; simp [Value.ownBlock] at hq
  · rw [h1] at hq
    simp [Value.ownBlock] at hq
    subst hq
    exact ⟨cur, h3⟩
theorem bel_grownM {A B C : World} {n mb : Nat} (h : Below n A B) (hg : B.grownBy C (some mb)) (hn : n ≤ B.heap.size) (hm : n ≤ mb) : Below n A C := Below.grown h hg hn (fun k hk => by have := Option.some.inj hk; omega)
end Cv

set_option maxRecDepth 100000 in
theorem rulesN_any (a b c d mp : Value) (off k save : Int) (st fm : ByteArray) (is : Bool) (y m kd w dd sec base : Int) (W : World) (hk : k ≠ 2) :
    Calls Tryd.prog 23 #[.agg #[a, b, c, d, mp], .agg #[.int .i64 off, .int .i64 k, .int .i64 save, .string st, .string fm, .bool is, .int .i64 y, .int .i64 m, .int .i64 kd, .int .i64 w, .int .i64 dd, .int .i64 sec, .int .i64 base]] W fun e w' => e = .returned (.slice none 0 0) ∧ Below W.heap.size W w' := by
  have h1 : (k != 2) = true := by simpa using hk
  have h2 : (k == 2) = false := by simpa using hk
  have h3 : decide (k = 2) = false := decide_eq_false hk
  go_enter Tryd.func23, Tryd.ntmps23
  go_wp2_with fail
  go_ret
  exact ⟨rfl, bel_trans (bel_alloc _ _) (bel_alloc _ _)⟩

/-- the rules of any era, by the book -/
theorem bookAll_any (va vb vc vd : Value) (e : Er) (rs : _root_.List Ru) (mb k : Nat) (W : World) (h : Rul va rs W) (hB : Book mb k rs W) (hk : k ≤ 1000) (hst : e.set.size ≤ 1000) :
    Calls Tryd.prog 23 #[.agg #[va, vb, vc, vd, .map (some mb)], .agg e.arr] W fun ex w' => ∃ v', ex = .returned v' ∧ Hid (e.k = 2 → Rul v' (ofS e.set rs) w') ∧ Hid (Book mb (k + 1) rs w') ∧ Hid (W.grownBy w' (some mb)) := by
  obtain ⟨off, ek, save, st, fm, is, y, m, kd, w, d, sec, base⟩ := e
  unfold Er.arr
  dsimp only at *
  by_cases h2 : ek = 2
  · subst h2
    exact (book_any va vb vc vd off save st fm is y m kd w d sec base rs mb k W h hB hk hst).mono fun ex w' ⟨v', h1, h2, h3, h4⟩ => ⟨v', h1, Lib.hid fun _ => h2.out, h3, h4⟩
  · refine (rulesN_any va vb vc vd (.map (some mb)) off ek save st fm is y m kd w d sec base W h2).mono ?_
    rintro ex w' ⟨rfl, hb⟩
    refine ⟨_, rfl, Lib.hid fun h => absurd h h2, Lib.hid ?_, Lib.hid (grown_of hb _)⟩
    obtain ⟨D, q1, q2, q3⟩ := hB.below hb
    exact ⟨D, q1, q2.mono (Nat.le_succ _), q3⟩
end Go.Proofs.YtdppmeeobpbfnaaDoor
