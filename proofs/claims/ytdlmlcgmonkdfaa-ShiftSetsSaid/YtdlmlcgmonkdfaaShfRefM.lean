/-
  Stores into sources of the call's own: an era, a rule is replaced.
-/
import Derived.Test.YtdlmlcgmonkdfaaShfRef
namespace Go.Proofs.Ytdlmlcgmonkdfaa
open Go.RowKit Sh
set_option linter.unusedVariables false
set_option linter.unusedSimpArgs false

namespace Sh
theorem Own.oths {base size n b o : Nat} {t tb : TypeId} {v : Value} {xs l : _root_.List Value} {cb : Array Value} {w : World} (h : Own base t size v n xs w) (hb : w.heap[b]? = some (.cells cb tb)) (ht : tb ≠ t) : Own base t size v n xs (w.setCells b o l) := by
  obtain ⟨⟨hl, h0 | ⟨g, cap, cu, h1, h2, h3, h4⟩⟩, hn, ho⟩ := h
  · exact ⟨⟨hl, .inl h0⟩, hn, ho⟩
  · refine ⟨⟨hl, .inr ⟨g, cap, cu, h1, h2, block_setCells h3 (fun e => ?_), h4⟩⟩, hn, ho⟩
    rw [e, hb] at h3
    simp at h3
    exact ht h3.2
theorem Own.apart {base size n b o : Nat} {t : TypeId} {v : Value} {xs l : _root_.List Value} {w : World} (h : Own base t size v n xs w) (hne : v.ownBlock ≠ some b) : Own base t size v n xs (w.setCells b o l) := by
  obtain ⟨⟨hl, h0 | ⟨g, cap, cu, h1, h2, h3, h4⟩⟩, hn, ho⟩ := h
  · exact ⟨⟨hl, .inl h0⟩, hn, ho⟩
  · refine ⟨⟨hl, .inr ⟨g, cap, cu, h1, h2, block_setCells h3 (fun e => ?_), h4⟩⟩, hn, ho⟩
    apply hne
    rw [h1, e]
    rfl
theorem Own.shape {base size n : Nat} {t : TypeId} {v : Value} {xs : _root_.List Value} {w : World} (h : Own base t size v n xs w) (hn : n ≠ 0) : ∃ g cap cur, v = .slice (some ⟨g, 0, none⟩) n cap ∧ base ≤ g ∧ w.heap[g]? = some (.cells cur t) ∧ v.ownBlock = some g := by
  obtain ⟨⟨hl, h0 | ⟨g, cap, cu, rfl, h2, h3, h4⟩⟩, _, _⟩ := h
  · exact absurd h0.2 hn
  · exact ⟨g, cap, cu, rfl, h2, h3, rfl⟩
theorem own_there {base g n cap size o m : Nat} {t : TypeId} {xs : _root_.List Value} {w : World} (h : w.ownsRow base t size (.slice (some ⟨g, 0, none⟩) n cap) n xs) (ho : o + m ≤ n * size) : w.there g o m := fun j hj => by
  obtain ⟨u, hu⟩ := own_cell h h.1 (j := o + j) (by omega)
  exact ⟨by rw [hu]; rfl, h.frozenAt _⟩
/-- an era of a zone of the call's own, and what a store of another one in its place leaves -/
theorem OwnZ.era {base i k : Nat} {v : Value} {zs : _root_.List Zn} {z : Zn} {e : Er} {w : World} (h : OwnZ base v zs w) (hz : zs[i]? = some z) (he : z.es[k]? = some e) :
    ∃ g2 cap2 ge ce cur cu2, v = .slice (some ⟨g2, 0, none⟩) zs.length cap2 ∧ base ≤ g2 ∧ base ≤ ge ∧ w.cell? ⟨g2, i * 2 + 1, none⟩ = some (.slice (some ⟨ge, 0, none⟩) z.es.length ce) ∧ w.heap[ge]? = some (.cells cur 52) ∧ w.heap[g2]? = some (.cells cu2 48) ∧
      (∀ j u, e.arr.toList[j]? = some u → w.cell? ⟨ge, k * 13 + j, none⟩ = some u) ∧ w.there ge (k * 13) 13 ∧ ∀ e' : Er, OwnZ base v (zs.set i ⟨z.na, z.es.set k e'⟩) (w.setCells ge (k * 13) e'.arr.toList) := by
  obtain ⟨ps, hl, ho, hp, hd⟩ := h
  have hi : i < zs.length := (_root_.List.getElem?_eq_some_iff.1 hz).1
  have hk : k < z.es.length := (_root_.List.getElem?_eq_some_iff.1 he).1
  obtain ⟨g2, cap2, cu2, hv, hb2, hc2, _⟩ := ho.shape (by omega)
  obtain ⟨p, hpi, hna, hown⟩ := hp i z hz
  obtain ⟨pn, pv⟩ := p
  obtain ⟨ge, ce, cur, hpv, hbe, hce, hbk⟩ := hown.shape (by omega)
  have hpv' : pv = .slice (some ⟨ge, 0, none⟩) z.es.length ce := hpv
  subst hv
  subst hpv'
  have hown' : w.ownsRow base 52 13 (.slice (some ⟨ge, 0, none⟩) z.es.length ce) z.es.length (flatE z.es) := hown.1
  refine ⟨g2, cap2, ge, ce, cur, cu2, rfl, hb2, hbe, ?_, hce, hc2, fun j u hu => ?_, own_there hown' (by omega), fun e' => ⟨ps, by rw [_root_.List.length_set]; exact hl, ?_, fun i' z' hz' => ?_, by rw [_root_.List.length_set]; exact hd⟩⟩
  · have := flatZ_at ps i 1 _ hpi (by decide)
    rw [ho.1.cellAt (i * 2 + 1) (by omega)]; exact this
  · have hj : j < 13 := (_root_.List.getElem?_eq_some_iff.1 hu).1
    rw [hown'.cellAt (k * 13 + j) (by omega), flatE_at z.es k j e he hj]; exact hu
  · rw [_root_.List.length_set]
    exact ho.oths hce (by decide)
  · rw [_root_.List.getElem?_set] at hz'
    by_cases hii : i = i'
    · subst hii
      rw [if_pos rfl, if_pos hi] at hz'
      obtain rfl := Option.some.inj hz'
      refine ⟨_, hpi, hna, ?_⟩
      show Own base _ 13 _ (z.es.set k e').length (flatE (z.es.set k e')) _
      rw [_root_.List.length_set, flatE_set _ _ _ hk]
      refine ⟨own_over _ _ hown' (by show k * 13 + 13 ≤ _; omega), hown.2.1, ?_⟩
      rw [← flatE_set _ _ _ hk]
      exact flatE_one _
    · rw [if_neg hii] at hz'
      obtain ⟨q, hq, hqn, hqo⟩ := hp i' z' hz'
      exact ⟨q, hq, hqn, hqo.apart (hd i i' _ q ge hi (_root_.List.getElem?_eq_some_iff.1 hz').1 hii hpi hq hbk)⟩
theorem OwnS.era {base i k : Nat} {v1 v2 v3 v4 : Value} {s : Sou} {z : Zn} {e : Er} {w : World} (h : OwnS base v1 v2 v3 v4 s w) (hz : s.zs[i]? = some z) (he : z.es[k]? = some e) :
    ∃ g2 cap2 ge ce cur cu2, v2 = .slice (some ⟨g2, 0, none⟩) s.zs.length cap2 ∧ base ≤ g2 ∧ base ≤ ge ∧ w.cell? ⟨g2, i * 2 + 1, none⟩ = some (.slice (some ⟨ge, 0, none⟩) z.es.length ce) ∧ w.heap[ge]? = some (.cells cur 52) ∧ w.heap[g2]? = some (.cells cu2 48) ∧
      (∀ j u, e.arr.toList[j]? = some u → w.cell? ⟨ge, k * 13 + j, none⟩ = some u) ∧ w.there ge (k * 13) 13 ∧ ∀ e' : Er, OwnS base v1 v2 v3 v4 { s with zs := s.zs.set i ⟨z.na, z.es.set k e'⟩ } (w.setCells ge (k * 13) e'.arr.toList) := by
  obtain ⟨g2, cap2, ge, ce, cur, cu2, k1, k2, k3, k4, k5, k6, k7, k8, k9⟩ := h.2.1.era hz he
  exact ⟨g2, cap2, ge, ce, cur, cu2, k1, k2, k3, k4, k5, k6, k7, k8, fun e' => ⟨h.1.oths k5 (by decide), k9 e', h.2.2.1.oths k5 (by decide), h.2.2.2.oths k5 (by decide)⟩⟩
theorem OwnZ.oths {base b o : Nat} {tb : TypeId} {v : Value} {zs : _root_.List Zn} {l : _root_.List Value} {cb : Array Value} {w : World} (h : OwnZ base v zs w) (hb : w.heap[b]? = some (.cells cb tb)) (h1 : tb ≠ 48) (h2 : tb ≠ 52) : OwnZ base v zs (w.setCells b o l) := by
  obtain ⟨ps, hl, ho, hp, hd⟩ := h
  exact ⟨ps, hl, ho.oths hb h1, fun i z hz => (by obtain ⟨p, k1, k2, k3⟩ := hp i z hz; exact ⟨p, k1, k2, k3.oths hb h2⟩), hd⟩
/-- a rule of a source of the call's own, and what a store of another one in its place leaves -/
theorem OwnS.rule {base i : Nat} {v1 v2 v3 v4 : Value} {s : Sou} {r : Ru} {w : World} (h : OwnS base v1 v2 v3 v4 s w) (hr : s.rs[i]? = some r) :
    ∃ g cap cur, v1 = .slice (some ⟨g, 0, none⟩) s.rs.length cap ∧ base ≤ g ∧ w.heap[g]? = some (.cells cur 44) ∧ (∀ j u, r.arr.toList[j]? = some u → w.cell? ⟨g, i * 11 + j, none⟩ = some u) ∧ w.there g (i * 11) 11 ∧
      ∀ r' : Ru, OwnS base v1 v2 v3 v4 { s with rs := s.rs.set i r' } (w.setCells g (i * 11) r'.arr.toList) := by
  have hi : i < s.rs.length := (_root_.List.getElem?_eq_some_iff.1 hr).1
  obtain ⟨h1, h2, h3, h4⟩ := h
  obtain ⟨g, cap, cur, hv, hb, hc, _⟩ := h1.shape (by omega)
  subst hv
  refine ⟨g, cap, cur, rfl, hb, hc, fun j u hu => ?_, own_there h1.1 (by omega), fun r' => ⟨?_, h2.oths hc (by decide) (by decide), h3.oths hc (by decide), h4.oths hc (by decide)⟩⟩
  · have hj : j < 11 := (_root_.List.getElem?_eq_some_iff.1 hu).1
    rw [h1.1.cellAt (i * 11 + j) (by omega), flatR_at s.rs i j r hr hj]; exact hu
  · show Own base _ 11 _ (s.rs.set i r').length (flatR (s.rs.set i r')) _
    rw [_root_.List.length_set, flatR_set _ _ _ hi]
    refine ⟨own_over _ _ h1.1 (by show i * 11 + 11 ≤ _; omega), h1.2.1, ?_⟩
    rw [← flatR_set _ _ _ hi]
    exact flatR_one _
/-- the zones ahead of the i-th are changed -/
def zmap (n : ByteArray) (x : Int) (z : Zn) : Zn := ⟨z.na, z.es.map fun r => r.sh n x⟩
theorem shZ_zmap (n : ByteArray) (x : Int) (zs : _root_.List Zn) : shZ n x zs = zs.map (zmap n x) := rfl
def zst (n : ByteArray) (x : Int) (zs : _root_.List Zn) (i k : Nat) (z : Zn) : _root_.List Zn := (mix (zmap n x) zs i).set i ⟨z.na, mix (fun r : Er => r.sh n x) z.es k⟩
theorem zst_len (n : ByteArray) (x : Int) (zs : _root_.List Zn) (i k : Nat) (z : Zn) : (zst n x zs i k z).length = zs.length := by
  unfold zst
  rw [_root_.List.length_set, mix_len]
theorem zst_0 {n : ByteArray} {x : Int} {zs : _root_.List Zn} {i : Nat} {z : Zn} (hz : zs[i]? = some z) : zst n x zs i 0 z = mix (zmap n x) zs i := by
  unfold zst
  rw [mix_0]
  have h := mix_at (zmap n x) zs i z hz
  have hi := (_root_.List.getElem?_eq_some_iff.1 h).1
  have hg : (mix (zmap n x) zs i)[i] = z := Option.some.inj ((_root_.List.getElem?_eq_getElem hi).symm.trans h)
  conv => lhs; rw [← hg]
  exact _root_.List.set_getElem_self hi
theorem zst_n {n : ByteArray} {x : Int} {zs : _root_.List Zn} {i : Nat} {z : Zn} (hz : zs[i]? = some z) : zst n x zs i z.es.length z = mix (zmap n x) zs (i + 1) := by
  unfold zst
  rw [mix_n, mix_set (zmap n x) zs i z hz]
  rfl
theorem zst_at {n : ByteArray} {x : Int} {zs : _root_.List Zn} {i : Nat} (k : Nat) {z : Zn} (hi : i < zs.length) : (zst n x zs i k z)[i]? = some ⟨z.na, mix (fun r : Er => r.sh n x) z.es k⟩ := by
  unfold zst
  rw [_root_.List.getElem?_set, if_pos rfl, mix_len, if_pos hi]
theorem zst_set {n : ByteArray} {x : Int} {zs : _root_.List Zn} {i k : Nat} {z : Zn} {e : Er} (he : z.es[k]? = some e) : (zst n x zs i k z).set i ⟨z.na, (mix (fun r : Er => r.sh n x) z.es k).set k (e.sh n x)⟩ = zst n x zs i (k + 1) z := by
  unfold zst
  rw [_root_.List.set_set, mix_set (fun r : Er => r.sh n x) z.es k e he]
theorem zst_same {n : ByteArray} {x : Int} {zs : _root_.List Zn} {i k : Nat} {z : Zn} {e : Er} (he : z.es[k]? = some e) (hs : e.sh n x = e) : zst n x zs i (k + 1) z = zst n x zs i k z := by
  rw [← zst_set he, hs]
  have h := mix_at (fun r : Er => r.sh n x) z.es k e he
  have hi := (_root_.List.getElem?_eq_some_iff.1 h).1
  have hg : (mix (fun r : Er => r.sh n x) z.es k)[k] = e := Option.some.inj ((_root_.List.getElem?_eq_getElem hi).symm.trans h)
  have e2 : (mix (fun r : Er => r.sh n x) z.es k).set k e = mix (fun r : Er => r.sh n x) z.es k := by
    conv => lhs; rw [← hg]
    exact _root_.List.set_getElem_self hi
  rw [e2]
  unfold zst
  rw [_root_.List.set_set]
theorem rst_same {n : ByteArray} {x : Int} {rs : _root_.List Ru} {k : Nat} {e : Ru} (he : rs[k]? = some e) (hs : e.of n x = e) : mix (fun r : Ru => r.of n x) rs (k + 1) = mix (fun r : Ru => r.of n x) rs k := by
  rw [mix_set (fun r : Ru => r.of n x) rs k e he, hs]
  have h := mix_at (fun r : Ru => r.of n x) rs k e he
  have hi := (_root_.List.getElem?_eq_some_iff.1 h).1
  have hg : (mix (fun r : Ru => r.of n x) rs k)[k] = e := Option.some.inj ((_root_.List.getElem?_eq_getElem hi).symm.trans h)
  conv => lhs; rw [← hg]
  exact _root_.List.set_getElem_self hi
end Sh
end Go.Proofs.Ytdlmlcgmonkdfaa
