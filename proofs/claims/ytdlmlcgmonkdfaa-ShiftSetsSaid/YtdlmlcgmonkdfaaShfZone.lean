/-
  The contract of package shift's function changed, at zones.
-/
import Derived.Test.YtdlmlcgmonkdfaaShfSet
namespace Go.Proofs.Ytdlmlcgmonkdfaa
open Go.RowKit Sh
set_option linter.unusedVariables false
set_option linter.unusedSimpArgs false

namespace Sh
/-- a zone -/
structure Zn where
  (na : ByteArray) (es : _root_.List Er)
/-- the cells of names and rows -/
def flatZ (ps : _root_.List (ByteArray × Value)) : _root_.List Value := ps.flatMap fun p => [.string p.1, p.2]
theorem flatZ_len (ps : _root_.List (ByteArray × Value)) : (flatZ ps).length = ps.length * 2 := by
  unfold flatZ
  induction ps with
  | nil => rfl
  | cons r rs ih => rw [_root_.List.flatMap_cons, _root_.List.length_append, ih]; show 2 + rs.length * 2 = (rs.length + 1) * 2; omega
theorem flatZ_one (ps : _root_.List (ByteArray × Value)) (h : ∀ p ∈ ps, p.2.oneCell' = true) : ∀ u ∈ flatZ ps, u.oneCell' = true := by
  intro u hu
  unfold flatZ at hu
  obtain ⟨p, hp, hr⟩ := _root_.List.mem_flatMap.1 hu
  simp at hr
  rcases hr with rfl | rfl
  · rfl
  · exact h p hp
theorem own_block {base g n cap size : Nat} {t : TypeId} {xs : _root_.List Value} {w : World} (h : w.ownsRow base t size (.slice (some ⟨g, 0, none⟩) n cap) n xs) : ∃ cur, w.heap[g]? = some (.cells cur t) := by
  obtain ⟨_, ⟨h0, _⟩ | ⟨g', cap', cur, h1, h2, h3, _⟩⟩ := h
  · simp at h0
  · simp at h1
    obtain ⟨rfl, _⟩ := h1
    exact ⟨cur, h3⟩
theorem flatZ_at (ps : _root_.List (ByteArray × Value)) : ∀ (i j : Nat) (p : ByteArray × Value), ps[i]? = some p → j < 2 → (flatZ ps)[i * 2 + j]? = ([.string p.1, p.2] : _root_.List Value)[j]? := by
  unfold flatZ
  induction ps with
  | nil => intro i j r h; simp at h
  | cons s rs ih =>
    intro i j r h hj
    rw [_root_.List.flatMap_cons]
    have hl : ([.string s.1, s.2] : _root_.List Value).length = 2 := rfl
    cases i with
    | zero =>
      simp at h
      subst h
      rw [_root_.List.getElem?_append_left (by omega)]
      congr 1; omega
    | succ i =>
      rw [_root_.List.getElem?_append_right (by omega), hl, show (i + 1) * 2 + j - 2 = i * 2 + j by omega]
      exact ih i j r (by simpa using h) hj
theorem flatZ_set (rs : _root_.List (ByteArray × Value)) (i : Nat) (r : ByteArray × Value) (h : i < rs.length) : flatZ (rs.set i r) = over (flatZ rs) (i * 2) [.string r.1, r.2] := by
  have hl : ([.string r.1, r.2] : _root_.List Value).length = 2 := rfl
  apply _root_.List.ext_getElem?
  intro j
  rw [over_at _ _ _ _ (by rw [flatZ_len, hl]; omega), hl]
  by_cases hj : j < rs.length * 2
  · have hq : j = (j / 2) * 2 + j % 2 := by omega
    have hm : j % 2 < 2 := by omega
    obtain ⟨q, hqv⟩ : ∃ q, rs[j / 2]? = some q := by
      rw [_root_.List.getElem?_eq_getElem (by omega)]; exact ⟨_, rfl⟩
    by_cases hi : j / 2 = i
    · rw [if_pos (by omega)]
      conv => lhs; rw [hq]
      rw [flatZ_at (rs.set i r) (j / 2) (j % 2) r (by rw [hi, _root_.List.getElem?_set]; simp [h]) hm]
      congr 1; omega
    · rw [if_neg (by omega)]
      conv => lhs; rw [hq]
      conv => rhs; rw [hq]
      rw [flatZ_at rs (j / 2) (j % 2) q hqv hm, flatZ_at (rs.set i r) (j / 2) (j % 2) q (by rw [_root_.List.getElem?_set, if_neg (by omega)]; exact hqv) hm]
  · rw [if_neg (by omega), _root_.List.getElem?_eq_none (by rw [flatZ_len]; simp; omega), _root_.List.getElem?_eq_none (by rw [flatZ_len]; omega)]
/-- the first n rows lie in blocks of their own -/
def Dst (n : Nat) (ps : _root_.List (ByteArray × Value)) : Prop := ∀ (j k : Nat) (p q : ByteArray × Value) (b : Nat), j < n → k < n → j ≠ k → ps[j]? = some p → ps[k]? = some q → p.2.ownBlock = some b → q.2.ownBlock ≠ some b
/-- zones of the call's own -/
def OwnZ (base : Nat) (v : Value) (zs : _root_.List Zn) (w : World) : Prop := ∃ ps : _root_.List (ByteArray × Value), ps.length = zs.length ∧ Own base 48 2 v zs.length (flatZ ps) w ∧
  (∀ (i : Nat) (z : Zn), zs[i]? = some z → (∃ p, ps[i]? = some p ∧ p.1 = z.na ∧ Own base 52 13 p.2 z.es.length (flatE z.es) w)) ∧ Dst zs.length ps
/-- the same, with the rows in sight -/
def OwnZp (base : Nat) (v : Value) (zs : _root_.List Zn) (ps : _root_.List (ByteArray × Value)) (w : World) : Prop := ps.length = zs.length ∧ Own base 48 2 v zs.length (flatZ ps) w ∧
  (∀ (i : Nat) (z : Zn), zs[i]? = some z → (∃ p, ps[i]? = some p ∧ p.1 = z.na ∧ Own base 52 13 p.2 z.es.length (flatE z.es) w)) ∧ Dst zs.length ps
theorem OwnZ.p {base : Nat} {v : Value} {zs : _root_.List Zn} {w : World} (h : OwnZ base v zs w) : ∃ ps, OwnZp base v zs ps w ∧ ∀ (k c : Nat) (q : ByteArray × Value), ps[k]? = some q → q.2.ownBlock = some c → c < w.heap.size := by
  obtain ⟨ps, hl, ho, hp, hd⟩ := h
  refine ⟨ps, ⟨hl, ho, hp, hd⟩, fun k c q hq hc => ?_⟩
  have hk := (_root_.List.getElem?_eq_some_iff.1 hq).1
  obtain ⟨q', h1, _, h3⟩ := hp k zs[k] (_root_.List.getElem?_eq_getElem (by omega))
  rw [hq] at h1
  obtain rfl := Option.some.inj h1
  exact (h3.1.lt c hc).2
theorem OwnZp.z {base : Nat} {v : Value} {zs : _root_.List Zn} {ps : _root_.List (ByteArray × Value)} {w : World} (h : OwnZp base v zs ps w) : OwnZ base v zs w := ⟨ps, h⟩
theorem OwnZp.below {base : Nat} {v : Value} {zs : _root_.List Zn} {ps : _root_.List (ByteArray × Value)} {A B : World} (h : OwnZp base v zs ps A) (hb : Below A.heap.size A B) : OwnZp base v zs ps B := by
  obtain ⟨hl, ho, hp, hd⟩ := h
  exact ⟨hl, ho.below hb, fun i z hz => (by obtain ⟨p, h1, h2, h3⟩ := hp i z hz; exact ⟨p, h1, h2, h3.below hb⟩), hd⟩
/-- zones, as they read -/
def RdZ (v : Value) (zs : _root_.List Zn) (w : World) : Prop := ∃ ps : _root_.List (ByteArray × Value), ps.length = zs.length ∧ Rd 2 v zs.length (flatZ ps) w ∧
  ∀ (i : Nat) (z : Zn), zs[i]? = some z → ∃ p, ps[i]? = some p ∧ p.1 = z.na ∧ Rd 13 p.2 z.es.length (flatE z.es) w
theorem OwnZ.rd {base : Nat} {v : Value} {zs : _root_.List Zn} {w : World} (h : OwnZ base v zs w) : RdZ v zs w := by
  obtain ⟨ps, hl, ho, hp, _⟩ := h
  exact ⟨ps, hl, ho.rd, fun i z hz => by obtain ⟨p, h1, h2, h3⟩ := hp i z hz; exact ⟨p, h1, h2, h3.rd⟩⟩
theorem OwnZ.below {base : Nat} {v : Value} {zs : _root_.List Zn} {A B : World} (h : OwnZ base v zs A) (hb : Below A.heap.size A B) : OwnZ base v zs B := by
  obtain ⟨ps, hl, ho, hp, hd⟩ := h
  exact ⟨ps, hl, ho.below hb, fun i z hz => (by obtain ⟨p, h1, h2, h3⟩ := hp i z hz; exact ⟨p, h1, h2, h3.below hb⟩), hd⟩
theorem RdZ.below {v : Value} {zs : _root_.List Zn} {A B : World} (h : RdZ v zs A) (hb : Below A.heap.size A B) : RdZ v zs B := by
  obtain ⟨ps, hl, ho, hp⟩ := h
  exact ⟨ps, hl, ho.below hb, fun i z hz => by obtain ⟨p, h1, h2, h3⟩ := hp i z hz; exact ⟨p, h1, h2, h3.below hb⟩⟩
/-- the loop's state: the first i zones are changed -/
def MixZ (base : Nat) (W : World) (zs : _root_.List Zn) (g : _root_.List Er → _root_.List Er) (i : Nat) (ps : _root_.List (ByteArray × Value)) (w : World) : Prop :=
  ps.length = zs.length ∧ Dst i ps ∧ ∀ (j : Nat) (z : Zn), zs[j]? = some z → ∃ p, ps[j]? = some p ∧ p.1 = z.na ∧
    ((j < i ∧ Own base 52 13 p.2 (g z.es).length (flatE (g z.es)) w) ∨ (i ≤ j ∧ Rd 13 p.2 z.es.length (flatE z.es) W))
theorem MixZ.below {base i : Nat} {W A B : World} {zs : _root_.List Zn} {g : _root_.List Er → _root_.List Er} {ps : _root_.List (ByteArray × Value)} (h : MixZ base W zs g i ps A) (hb : Below A.heap.size A B) : MixZ base W zs g i ps B := by
  refine ⟨h.1, h.2.1, fun j z hz => ?_⟩
  obtain ⟨p, h1, h2, h3 | h3⟩ := h.2.2 j z hz
  · exact ⟨p, h1, h2, .inl ⟨h3.1, h3.2.below hb⟩⟩
  · exact ⟨p, h1, h2, .inr h3⟩
theorem MixZ.step {base i b : Nat} {W A : World} {zs : _root_.List Zn} {g : _root_.List Er → _root_.List Er} {ps : _root_.List (ByteArray × Value)} {z : Zn} {u : Value} {o : Nat} {l : _root_.List Value} {cur : Array Value}
    (h : MixZ base W zs g i ps A) (hz : zs[i]? = some z) (hu : Own base 52 13 u (g z.es).length (flatE (g z.es)) A) (hb : A.heap[b]? = some (.cells cur 48))
    (hfr : ∀ (k c : Nat) (q : ByteArray × Value), k < i → ps[k]? = some q → q.2.ownBlock = some c → u.ownBlock ≠ some c) :
    MixZ base W zs g (i + 1) (ps.set i (z.na, u)) (A.setCells b o l) := by
  have hi : i < zs.length := (_root_.List.getElem?_eq_some_iff.1 hz).1
  have key : ∀ (n : Nat) (v : Value) (xs : _root_.List Value), Own base 52 13 v n xs A → Own base 52 13 v n xs (A.setCells b o l) := fun n v xs k => by
    obtain ⟨⟨hl, h0 | ⟨g, cap, cu, h1, h2, h3, h4⟩⟩, hn, ho⟩ := k
    · exact ⟨⟨hl, .inl h0⟩, hn, ho⟩
    · refine ⟨⟨hl, .inr ⟨g, cap, cu, h1, h2, block_setCells h3 ?_, h4⟩⟩, hn, ho⟩
      intro e
      rw [e, hb] at h3
      simp at h3
  refine ⟨by rw [_root_.List.length_set]; exact h.1, ?_, fun j y hy => ?_⟩
  · intro j k p q c hj hk hjk hp hq hc
    rw [_root_.List.getElem?_set] at hp hq
    by_cases hji : i = j
    · rw [if_pos hji] at hp
      rw [if_neg (by omega)] at hq
      split at hp
      · simp at hp
        subst hp
        intro hqc
        exact hfr k c q (by omega) hq hqc hc
      · simp at hp
    · rw [if_neg hji] at hp
      by_cases hki : i = k
      · rw [if_pos hki] at hq
        split at hq
        · simp at hq
          subst hq
          exact hfr j c p (by omega) hp hc
        · simp at hq
      · rw [if_neg hki] at hq
        exact h.2.1 j k p q c (by omega) (by omega) hjk hp hq hc
  by_cases hj : j = i
  · subst hj
    rw [hz] at hy
    obtain rfl := Option.some.inj hy
    refine ⟨(z.na, u), by rw [_root_.List.getElem?_set]; simp [h.1, hi], rfl, .inl ⟨Nat.lt_succ_self _, key _ _ _ hu⟩⟩
  · obtain ⟨p, h1, h2, h3 | h3⟩ := h.2.2 j y hy
    · exact ⟨p, by rw [_root_.List.getElem?_set, if_neg (fun e => hj e.symm)]; exact h1, h2, .inl ⟨by omega, key _ _ _ h3.2⟩⟩
    · exact ⟨p, by rw [_root_.List.getElem?_set, if_neg (fun e => hj e.symm)]; exact h1, h2, .inr ⟨by omega, h3.2⟩⟩
end Sh

set_option maxRecDepth 100000 in
set_option maxHeartbeats 2000000 in
theorem changedZ_any (v : Value) (zs : _root_.List Zn) (F : FuncId) (caps : Array Value) (g : _root_.List Er → _root_.List Er) (W : World) (h : RdZ v zs W)
    (hcf : ∀ (args : Array Value) (w : World), (callFunc F args).run Try.prog w = .ok (.enter F args) w)
    (hf : ∀ (na : ByteArray) (u : Value) (es : _root_.List Er) (V : World), Below W.heap.size W V → Rd 13 u es.length (flatE es) V → Calls Try.prog F (#[.agg #[.string na, u]] ++ caps) V fun e w' => ∃ u', e = .returned (.agg #[.string na, u']) ∧ Hid (Own V.heap.size 52 13 u' (g es).length (flatE (g es)) w') ∧ Below V.heap.size V w') :
    Calls Try.prog 31 #[v, .func (.func F) #[] caps] W fun e w' => ∃ v', e = .returned v' ∧ Hid (OwnZ W.heap.size v' (zs.map fun z => ⟨z.na, g z.es⟩) w') ∧ Below W.heap.size W w' := by
  have HF := Lib.hid hf
  obtain ⟨ps, hpl, hrd, hps⟩ := h
  have hn : zs.length ≤ 1000 := hrd.2.1
  clear hf
  obtain ⟨n, hN⟩ : ∃ n, n = zs.length := ⟨_, rfl⟩
  rw [← hN] at hrd hn
  have HM0 : Hid (MixZ W.heap.size W zs g 0 ps W) := ⟨hpl, fun j k p q b hj => absurd hj (Nat.not_lt_zero _), fun j z hz => by obtain ⟨p, h1, h2, h3⟩ := hps j z hz; exact ⟨p, h1, h2, .inr ⟨Nat.zero_le _, h3⟩⟩⟩
  have HPL := Lib.hid hpl
  clear hpl hps
  go_enter Try.func31, Try.ntmps31
  go_wp2_with fail
  refine (cloneZone_any v n (flatZ ps) _ hrd).mono ?_
  rintro e w1 ⟨v1, rfl, ho, hb1⟩
  have ho' := ho.out.1
  obtain ⟨hl, ⟨rfl, rfl⟩ | ⟨b, cap, cur, rfl, hbb, hcell, hcap, _⟩⟩ := ho'
  · have hrs : zs = [] := _root_.List.length_eq_zero_iff.1 hN.symm
    subst hrs
    have hps0 : ps = [] := _root_.List.length_eq_zero_iff.1 HPL.out
    subst hps0
    clear hN hl hrd HM0 HPL
    go_wp2_with fail
    go_loopw [12] (fun i wr => i = .int .i64 0 ∧ wr = w1) (fun i _ => 0)
    case atStart => exact ⟨rfl, rfl⟩
    case round =>
      obtain ⟨rfl, rfl⟩ := hrel
      go_wp2_with fail
      go_ret
      exact ⟨_, rfl, Lib.hid ⟨[], rfl, ho.out, fun i z hz => (by simp at hz), fun j k p q b hj => absurd hj (Nat.not_lt_zero _)⟩, hb1⟩
  · have HN := Lib.hid hN
    have HO0 := Lib.hid ho.out.1
    have HM1 := Lib.hid (HM0.out.below hb1)
    have hcapm : n ≤ cap := hcap
    clear hN hl hcell ho hcap hrd HM0
    go_wp2_with fail
    go_loopw [12] (fun s wr => ∃ (i : Nat) (qs : _root_.List (ByteArray × Value)) (wq : World), i ≤ n ∧ s = .int .i64 (i : Int) ∧ wr = wq ∧ Hid (wq.ownsRow W.heap.size 48 2 (.slice (some ⟨b, 0, none⟩) n cap) n (flatZ qs)) ∧ Hid (MixZ W.heap.size W zs g i qs wq) ∧ Hid (Below W.heap.size W wq)) (fun s _ => n - (intOf s).toNat)
    case atStart => exact ⟨0, ps, _, by omega, rfl, rfl, HO0, HM1, Lib.hid hb1⟩
    case round =>
      obtain ⟨i, qs, wq, hin, rfl, rfl, HOq, HMq, HBq⟩ := hrel
      have hql : qs.length = n := by rw [HMq.out.1, HN.out]
      have HQL := Lib.hid hql
      by_cases hi : i < n
      · obtain ⟨z, hz⟩ : ∃ z, zs[i]? = some z := by rw [_root_.List.getElem?_eq_getElem (by rw [← HN.out]; exact hi)]; exact ⟨_, rfl⟩
        obtain ⟨⟨pn, pv⟩, hp1, hp2, hp3 | ⟨_, hp3⟩⟩ := HMq.out.2.2 i z hz
        · omega
        have hp2' : pn = z.na := hp2
        subst hp2'
        obtain ⟨a, cZ, hpv⟩ := hp3.sl
        have hpv' : pv = .slice a z.es.length cZ := hpv
        subst hpv'
        have e0 : wr.cell? ⟨b, i * 2, none⟩ = some (.string z.na) := by
          have := flatZ_at qs i 0 _ hp1 (by omega)
          rw [HOq.out.cellAt (i * 2) (by omega)]; exact this
        have e1 : wr.cell? ⟨b, i * 2 + 1, none⟩ = some (.slice a z.es.length cZ) := by
          have := flatZ_at qs i 1 _ hp1 (by omega)
          rw [HOq.out.cellAt (i * 2 + 1) (by omega)]; exact this
        have HRD := Lib.hid hp3
        have HZ := Lib.hid hz
        have hii : (0 : Int) ≤ (i : Int) := by omega
        have hil : (i : Int) < (n : Int) := by omega
        clear hz hp1 hp2 hp3 hql
        go_wp2_with fail
        refine (HF.out z.na _ z.es _ (bel_trans HBq.out (bel_alloc _ _)) (HRD.out.below (bel_trans HBq.out (bel_alloc _ _)))).mono ?_
        rintro e w3 ⟨u', rfl, hu, hb3⟩
        obtain ⟨a', c', rfl⟩ := hu.out.rd.sl
        have HO3 := Lib.hid (own_below (own_below HOq.out (bel_alloc _ _)) hb3)
        have HB3 := Lib.hid (bel_trans (bel_trans HBq.out (bel_alloc _ _)) hb3)
        have HM3 := Lib.hid ((HMq.out.below (bel_alloc _ _)).below hb3)
        have hfr : ∀ (k c : Nat) (q : ByteArray × Value), k < i → qs[k]? = some q → q.2.ownBlock = some c → (Value.slice a' (g z.es).length c').ownBlock ≠ some c := fun k c q hk hq hqc huc => by
          have hkl : k < zs.length := by have := (_root_.List.getElem?_eq_some_iff.1 hq).1; rw [HMq.out.1] at this; exact this
          obtain ⟨q', h1, _, h3 | h3⟩ := HMq.out.2.2 k zs[k] (_root_.List.getElem?_eq_getElem hkl)
          · rw [hq] at h1
            obtain rfl := Option.some.inj h1
            have e1 := (h3.2.1.lt c hqc).2
            have e2 := (hu.out.1.lt c huc).1
            have e3 : (wr.alloc (.cells #[.string z.na, .slice a z.es.length cZ] 48)).heap.size = wr.heap.size + 1 := by show (wr.heap.push _).size = _; simp
            omega
          · omega
        have hu2 := hu.out.mono (base' := W.heap.size) (Nat.le_trans HBq.out.size (bel_alloc _ _).size)
        obtain ⟨cur, hcur⟩ := own_block HO3.out
        have HM4 := Lib.hid (MixZ.step (o := i * 2) (l := [.string z.na, .slice a' (g z.es).length c']) HM3.out HZ.out hu2 hcur hfr)
        have hsz : (flatZ qs).length = n * 2 := by rw [flatZ_len, HQL.out]
        have HO4 : Hid ((w3.setCells b (i * 2) [.string z.na, .slice a' (g z.es).length c']).ownsRow W.heap.size 48 2 (.slice (some ⟨b, 0, none⟩) n cap) n (flatZ (qs.set i (z.na, .slice a' (g z.es).length c')))) := by
          show _
          rw [flatZ_set _ _ _ (by rw [HQL.out]; exact hi)]
          exact own_over _ _ HO3.out (by show i * 2 + 2 ≤ n * 2; omega)
        have HB4 : Hid (Below W.heap.size W (w3.setCells b (i * 2) [.string z.na, .slice a' (g z.es).length c'])) := bel_setCells HB3.out hbb
        clear e0 e1
        have e0 := own_cell HO3.out hsz (j := i * 2) (by omega)
        have e1 := own_cell HO3.out hsz (j := i * 2 + 1) (by omega)
        have f0 : w3.frozen? ⟨b, i * 2, none⟩ = false := HO3.out.frozenAt _
        have f1 : w3.frozen? ⟨b, i * 2 + 1, none⟩ = false := HO3.out.frozenAt _
        obtain ⟨y0, e0⟩ := e0
        obtain ⟨y1, e1⟩ := e1
        clear hsz hcur hu hu2 hb3
        go_wp2_with fail
        go_round
        case rel => exact ⟨i + 1, _, _, by omega, by go_num, rfl, HO4, HM4, HB4⟩
        case measure => simp [intOf]; omega
      · have hie : i = n := by omega
        subst hie
        have HFIN : Hid (OwnZ W.heap.size (.slice (some ⟨b, 0, none⟩) i cap) (zs.map fun z => ⟨z.na, g z.es⟩) wr) := by
          have hml : (zs.map fun z => (⟨z.na, g z.es⟩ : Zn)).length = i := by rw [_root_.List.length_map, HN.out]
          refine ⟨qs, by rw [hml]; exact hql, ⟨by rw [hml]; exact HOq.out, by rw [hml]; exact hn, flatZ_one qs ?_⟩, fun j y hy => ?_, by rw [hml]; exact HMq.out.2.1⟩
          · intro p hp
            obtain ⟨j, hj⟩ := _root_.List.mem_iff_getElem?.1 hp
            have hjl : j < zs.length := by have := (_root_.List.getElem?_eq_some_iff.1 hj).1; rw [← HN.out]; omega
            obtain ⟨q, h1, _, h3 | h3⟩ := HMq.out.2.2 j zs[j] (_root_.List.getElem?_eq_getElem hjl)
            · rw [h1] at hj
              obtain rfl := Option.some.inj hj
              obtain ⟨a, c, h4⟩ := h3.2.rd.sl
              rw [h4]; rfl
            · rw [h1] at hj
              obtain rfl := Option.some.inj hj
              obtain ⟨a, c, h4⟩ := h3.2.sl
              rw [h4]; rfl
          · rw [_root_.List.getElem?_map] at hy
            obtain ⟨z, hz, rfl⟩ := Option.map_eq_some_iff.1 hy
            have hjl : j < i := by have := (_root_.List.getElem?_eq_some_iff.1 hz).1; rw [← HN.out] at this; exact this
            obtain ⟨q, h1, h2, h3 | h3⟩ := HMq.out.2.2 j z hz
            · exact ⟨q, h1, h2, h3.2⟩
            · omega
        go_wp2_with fail
        go_ret
        exact ⟨_, rfl, HFIN, HBq.out⟩
end Go.Proofs.Ytdlmlcgmonkdfaa
