/-
  Eras of the call's own, changed: in memory, and what the spans are then. No program in sight.
-/
import Derived.Test.YtdppmeeobpbfnaaDoorErMdV
import Derived.Test.YtdppmeeobpbfnaaDoorErSpO
namespace Go.Proofs.YtdppmeeobpbfnaaDoor.Cv
open Go.RowKit
set_option linter.unusedVariables false
set_option linter.unusedSimpArgs false

theorem er_len (e : Er) : e.arr.toList.length = 13 := rfl
theorem flatEr_set (j : Nat) (hj : j < 13) (x : Value) (r r' : Er) (hr : r'.arr.toList = r.arr.toList.set j x) : ∀ (rs : _root_.List Er) (k : Nat), rs[k]? = some r → flatEr (rs.set k r') = (flatEr rs).set (k * 13 + j) x := by
  intro rs
  induction rs with
  | nil => intro k h; simp at h
  | cons y l ih =>
    intro k h
    cases k with
    | zero =>
      simp at h; subst h
      show r'.arr.toList ++ flatEr l = (y.arr.toList ++ flatEr l).set _ _
      rw [_root_.List.set_append_left _ _ (by rw [er_len]; omega), hr]
      congr 2; omega
    | succ k =>
      show y.arr.toList ++ flatEr (l.set k _) = (y.arr.toList ++ flatEr l).set _ _
      rw [_root_.List.set_append_right _ _ (by rw [er_len]; omega), er_len, show (k + 1) * 13 + j - 13 = k * 13 + j by omega, ih k (by simpa using h)]
theorem sete_same {l : _root_.List Er} {k : Nat} {a b : Er} : (l.set k a).set k b = l.set k b := by simp
theorem gete_same {l : _root_.List Er} {k : Nat} {a r : Er} (h : l[k]? = some r) : (l.set k a)[k]? = some a := by
  have hk := (_root_.List.getElem?_eq_some_iff.1 h).1
  simp [hk]
def Er.endIs (e : Er) (is : Bool) (y m kd w d sec base : Int) : Er := ⟨e.off, e.k, e.save, e.set, e.fm, is, y, m, kd, w, d, sec, base⟩
/-- the end of an era, written anew -/
theorem own_end {w : World} {base g n cap k : Nat} {es : _root_.List Er} {e : Er} (h : w.ownsRow base 60 13 (.slice (some ⟨g, 0, none⟩) n cap) n (flatEr es)) (he : es[k]? = some e) (is : Bool) (y m kd wd d sec bs : Int) :
    (w.setCells g (k * 13 + 5) [.bool is, .int .i64 y, .int .i64 m, .int .i64 kd, .int .i64 wd, .int .i64 d, .int .i64 sec, .int .i64 bs]).ownsRow base 60 13 (.slice (some ⟨g, 0, none⟩) n cap) n (flatEr (es.set k (e.endIs is y m kd wd d sec bs))) := by
  obtain ⟨o, kk, sv, st, fm, i0, y0, m0, k0, w0, d0, s0, b0⟩ := e
  have h1 := own_set (j := k * 13 + 5) (x := .bool is) h
  rw [← flatEr_set 5 (by omega) (.bool is) ⟨o, kk, sv, st, fm, i0, y0, m0, k0, w0, d0, s0, b0⟩ ⟨o, kk, sv, st, fm, is, y0, m0, k0, w0, d0, s0, b0⟩ rfl es k he] at h1
  have h2 := own_set (j := k * 13 + 6) (x := .int .i64 y) h1
  rw [← flatEr_set 6 (by omega) (.int .i64 y) ⟨o, kk, sv, st, fm, is, y0, m0, k0, w0, d0, s0, b0⟩ ⟨o, kk, sv, st, fm, is, y, m0, k0, w0, d0, s0, b0⟩ rfl (es.set k ⟨o, kk, sv, st, fm, is, y0, m0, k0, w0, d0, s0, b0⟩) k (gete_same he), sete_same] at h2
  have h3 := own_set (j := k * 13 + 7) (x := .int .i64 m) h2
  rw [← flatEr_set 7 (by omega) (.int .i64 m) ⟨o, kk, sv, st, fm, is, y, m0, k0, w0, d0, s0, b0⟩ ⟨o, kk, sv, st, fm, is, y, m, k0, w0, d0, s0, b0⟩ rfl (es.set k ⟨o, kk, sv, st, fm, is, y, m0, k0, w0, d0, s0, b0⟩) k (gete_same he), sete_same] at h3
  have h4 := own_set (j := k * 13 + 8) (x := .int .i64 kd) h3
  rw [← flatEr_set 8 (by omega) (.int .i64 kd) ⟨o, kk, sv, st, fm, is, y, m, k0, w0, d0, s0, b0⟩ ⟨o, kk, sv, st, fm, is, y, m, kd, w0, d0, s0, b0⟩ rfl (es.set k ⟨o, kk, sv, st, fm, is, y, m, k0, w0, d0, s0, b0⟩) k (gete_same he), sete_same] at h4
  have h5 := own_set (j := k * 13 + 9) (x := .int .i64 wd) h4
  rw [← flatEr_set 9 (by omega) (.int .i64 wd) ⟨o, kk, sv, st, fm, is, y, m, kd, w0, d0, s0, b0⟩ ⟨o, kk, sv, st, fm, is, y, m, kd, wd, d0, s0, b0⟩ rfl (es.set k ⟨o, kk, sv, st, fm, is, y, m, kd, w0, d0, s0, b0⟩) k (gete_same he), sete_same] at h5
  have h6 := own_set (j := k * 13 + 10) (x := .int .i64 d) h5
  rw [← flatEr_set 10 (by omega) (.int .i64 d) ⟨o, kk, sv, st, fm, is, y, m, kd, wd, d0, s0, b0⟩ ⟨o, kk, sv, st, fm, is, y, m, kd, wd, d, s0, b0⟩ rfl (es.set k ⟨o, kk, sv, st, fm, is, y, m, kd, wd, d0, s0, b0⟩) k (gete_same he), sete_same] at h6
  have h7 := own_set (j := k * 13 + 11) (x := .int .i64 sec) h6
  rw [← flatEr_set 11 (by omega) (.int .i64 sec) ⟨o, kk, sv, st, fm, is, y, m, kd, wd, d, s0, b0⟩ ⟨o, kk, sv, st, fm, is, y, m, kd, wd, d, sec, b0⟩ rfl (es.set k ⟨o, kk, sv, st, fm, is, y, m, kd, wd, d, s0, b0⟩) k (gete_same he), sete_same] at h7
  have h8 := own_set (j := k * 13 + 12) (x := .int .i64 bs) h7
  rw [← flatEr_set 12 (by omega) (.int .i64 bs) ⟨o, kk, sv, st, fm, is, y, m, kd, wd, d, sec, b0⟩ ⟨o, kk, sv, st, fm, is, y, m, kd, wd, d, sec, bs⟩ rfl (es.set k ⟨o, kk, sv, st, fm, is, y, m, kd, wd, d, sec, b0⟩) k (gete_same he), sete_same] at h8
  exact h8
theorem grown_end {w : World} {g o : Nat} (l : _root_.List Value) : w.grownBy (w.setCells g o l) (some g) := by
  have key : ∀ (l : _root_.List Value) (o : Nat) (a : World), w.grownBy a (some g) → w.grownBy (a.setCells g o l) (some g) := by
    intro l
    induction l with
    | nil => intro o a h; exact h
    | cons x l ih => intro o a h; exact ih (o + 1) _ (grownM_set h)
  exact key l o w (grownM_refl w _)
theorem there_end {w : World} {base g n cap k : Nat} {xs : _root_.List Value} (h : w.ownsRow base 60 13 (.slice (some ⟨g, 0, none⟩) n cap) n xs) (hk : k < n) : w.there g (k * 13 + 5) 8 := fun j hj => by
  rcases h.2 with ⟨h1, _⟩ | ⟨g', c', cur, h1, h2, h3, h4, h5, h6, h7⟩
  · cases h1
  · cases h1
    have hsz : k * 13 + 5 + j < cur.size := by rw [h6]; exact Nat.lt_of_lt_of_le (by omega) (Nat.mul_le_mul_right 13 h4)
    exact ⟨by rw [cellB h3 (by rw [Array.getElem?_eq_getElem hsz])]; rfl, frzB h3 _⟩
/-- the eras of one zone changed in their own block -/
theorem OwnZp.chg {base i : Nat} {v : Value} {zs : _root_.List (ByteArray × _root_.List Er)} {ps : _root_.List (ByteArray × Value)} {A B : World} {nm : ByteArray} {es es' : _root_.List Er} {p : ByteArray × Value} (h : OwnZp base v zs ps A) (hz : zs[i]? = some (nm, es)) (hp : ps[i]? = some p) (hl : es'.length = es.length)
    (hg : A.grownBy B p.2.ownBlock) (hr : B.ownsRow base 60 13 p.2 es'.length (flatEr es')) : OwnZp base v (zs.set i (nm, es')) ps B := by
  obtain ⟨h1, h2, h3, h4⟩ := h
  have hne : 60 ≠ 45 := by decide
  obtain ⟨p', hp', hp1, hpr⟩ := h3 i _ hz
  rw [hp] at hp'
  obtain rfl := Option.some.inj hp'
  refine ⟨by simpa using h1, ?_, fun j z hj => ?_, h4⟩
  · rw [_root_.List.length_set]
    exact h2.kept hg (own_two h2 hpr (fun e => hne e.symm))
  · by_cases hij : i = j
    · subst hij
      have := (_root_.List.getElem?_eq_some_iff.1 hz).1
      rw [_root_.List.getElem?_set_self this] at hj
      obtain rfl := Option.some.inj hj
      exact ⟨p, hp, hp1, hr⟩
    · rw [_root_.List.getElem?_set_ne hij] at hj
      obtain ⟨q, q1, q2, q3⟩ := h3 j z hj
      refine ⟨q, q1, q2, q3.kept hg ?_⟩
      cases hb : q.2.ownBlock with
      | none => exact .inl rfl
      | some b =>
        refine .inr fun e => ?_
        exact h4 j i q p b (fun e => hij e.symm) q1 hp hb e.symm
/-- one zone's eras anew, in a row of their own -/
theorem OwnZp.put {base i gz cz : Nat} {zs : _root_.List (ByteArray × _root_.List Er)} {ps : _root_.List (ByteArray × Value)} {A : World} {nm : ByteArray} {es es' : _root_.List Er} {u : Value} {n : Nat} (h : OwnZp base (.slice (some ⟨gz, 0, none⟩) n cz) zs ps A) (hn : n = zs.length) (hz : zs[i]? = some (nm, es)) (hu : RdEr u es' A) (hub : ∀ b, u.ownBlock = some b → b ≠ gz) (hus : ∃ a c k, u = .slice (some ⟨a, 0, none⟩) c k) :
    RdZo (.slice (some ⟨gz, 0, none⟩) n cz) (zs.set i (nm, es')) (A.setCell ⟨gz, i * 2 + 1, none⟩ u) := by
  obtain ⟨h1, h2, h3, h4⟩ := h
  have hne : 60 ≠ 45 := by decide
  subst hn
  have hi := (_root_.List.getElem?_eq_some_iff.1 hz).1
  have h2' := own_set (j := i * 2 + 1) (x := u) h2
  refine ⟨some ⟨gz, 0, none⟩, cz, by rw [_root_.List.length_set], fun j z hj => ?_⟩
  have hj2 := (_root_.List.getElem?_eq_some_iff.1 hj).1
  rw [_root_.List.length_set] at hj2
  obtain ⟨p, q1, q2, q3⟩ := h3 j _ (_root_.List.getElem?_eq_getElem hj2)
  have c0 := h2'.cellAt (j * 2) (by omega)
  have c1 := h2'.cellAt (j * 2 + 1) (by omega)
  have g0 := flatZo_get ps j p q1 0 (by omega)
  have g1 := flatZo_get ps j p q1 1 (by omega)
  rw [Nat.add_zero] at g0
  rw [_root_.List.getElem?_set_ne (by omega), g0] at c0
  by_cases hij : i = j
  · subst hij
    rw [_root_.List.getElem?_set_self hi] at hj
    obtain rfl := Option.some.inj hj
    rw [_root_.List.getElem?_set_self (by rw [flatZo_len, h1]; omega)] at c1
    have hz' := _root_.List.getElem?_eq_getElem hi
    rw [hz] at hz'
    have e1 := Option.some.inj hz'
    refine ⟨gz, 0, u, rfl, by rw [Nat.zero_add]; rw [show p.1 = nm by rw [q2, ← e1]] at c0; exact c0, by rw [Nat.zero_add]; exact c1, ?_⟩
    obtain ⟨a, c, e2, k⟩ := hu
    refine ⟨a, c, e2, fun x r hr => ?_⟩
    obtain ⟨g', o', e3, k'⟩ := k x r hr
    obtain ⟨ua, uc, uk, e4⟩ := hus
    rw [e2, e3] at e4
    injection e4 with e5 e6 e7
    injection e5 with e5
    injection e5 with e8 e9 _
    refine ⟨g', o', e3, fun t y hy => ?_⟩
    rw [World.cell?_setCell_other _ _ _ _ (fun e => ?_)]
    · exact k' t y hy
    · injection e with e10 _ _
      exact hub g' (by rw [e2, e3, e9]; rfl) e10.symm
  · rw [_root_.List.getElem?_set_ne hij] at hj
    have hz' := _root_.List.getElem?_eq_getElem hj2
    rw [hj] at hz'
    have e1 := Option.some.inj hz'
    rw [_root_.List.getElem?_set_ne (by omega), g1] at c1
    refine ⟨gz, 0, p.2, rfl, by rw [Nat.zero_add, e1, ← q2]; exact c0, by rw [Nat.zero_add]; exact c1, ?_⟩
    rw [e1]
    refine rdEr_own (base := base) (q3.kept (row := some gz) (grownM_set (grownM_refl A _)) ?_)
    exact own_two q3 h2 hne
/-- eras of which only the last one is another -/
theorem JanEs.last {S : Nat} {es es' : _root_.List Er} {rs : _root_.List Ru} {Y : Nat → Int} (h : JanEs S es rs Y) (hl : es'.length = es.length) (hs : ∀ k, k + 1 < es.length → es'[k]? = es[k]?) : JanEs S es' rs Y := fun k e hk he => h k e (by omega) (by rw [← hs k (by omega)]; exact he)
theorem insts_same {es es' : _root_.List Er} {rs : _root_.List Ru} {ts ts' : _root_.List Int} (h : Insts es rs ts) (h' : Insts es' rs ts') (hl : ts.length + 1 = es.length) (hl' : ts'.length + 1 = es'.length) (he : es'.length = es.length) (hs : ∀ k, k + 1 < es.length → es'[k]? = es[k]?) : ts' = ts := by
  apply _root_.List.ext_getElem?
  intro i
  by_cases hi : i < ts.length
  · have e1 := _root_.List.getElem?_eq_getElem hi
    have e2 := _root_.List.getElem?_eq_getElem (l := ts') (i := i) (by omega)
    have e3 := _root_.List.getElem?_eq_getElem (l := es) (i := i) (by omega)
    rw [e1, e2, (h i _ _ e1 e3).uniq (h' i _ _ e2 (by rw [hs i (by omega)]; exact e3))]
  · rw [_root_.List.getElem?_eq_none (by omega), _root_.List.getElem?_eq_none (by omega)]
/-- the era that is put in -/
def erL : Er := ⟨0, 0, 0, ⟨#[]⟩, ⟨#[76, 77, 84]⟩, true, 1870, 6, 1, 0, 15, 0, 0⟩
theorem erL_on : on 1870 6 1 0 15 = (-36359, 0) := by decide +kernel
theorem erL_ok (rs : _root_.List Ru) : OkE erL rs :=
  ⟨rfl, by decide, by decide, by decide, by decide, by show untC true 1870 6 1 0 15 0 0 0 = 0; decide +kernel, fun h => absurd (show (0 : Int) = 2 from h) (by decide)⟩
theorem erL_inst {rs : _root_.List Ru} {t : Int} (h : InstIs erL rs t) : t ≤ 0 := by
  obtain ⟨o, _, ht⟩ := h
  have e : instD erL (befS rs o).save = 0 := rfl
  have e2 : on erL.y erL.m erL.kd erL.w erL.d = (-36359, 0) := erL_on
  have e3 : erL.sec = 0 := rfl
  rw [e, e2, e3] at ht
  dsimp only at ht
  omega
theorem fst_1900 {y : Int} (h : 1900 ≤ y) : -25567 ≤ fst y := by
  have h0 : fst 1900 = -25567 := by decide +kernel
  by_cases hy : y = 1900
  · rw [hy, h0]; exact Int.le_refl _
  · have := fst_lt 1900 y (by omega)
    have := lp_0 1900
    omega
/-- eras with the one that is put in behind the first -/
theorem putIn_ok {S : Nat} {es : _root_.List Er} {e : Er} {l : _root_.List Er} {rs : _root_.List Ru} {Y : Nat → Int} (h : JanEs S es rs Y) (he : es = e :: l) (hl : l ≠ []) :
    ∀ (i : Nat) (x : Er), i + 1 < (e :: erL :: l).length → (e :: erL :: l)[i]? = some x → OkE x (ofS x.set rs) ∧ x.set.size ≤ 1000 := by
  subst he
  intro i x hi hx
  cases i with
  | zero => exact h.ok 0 x (by have := _root_.List.length_pos_iff.2 hl; simp only [_root_.List.length_cons]; omega) hx
  | succ i =>
    cases i with
    | zero => simp at hx; subst hx; exact ⟨erL_ok _, by decide⟩
    | succ i =>
      simp only [_root_.List.length_cons] at hi
      exact h.ok (i + 1) x (by simp only [_root_.List.length_cons]; omega) hx
theorem putIn_wrong {S : Nat} {es : _root_.List Er} {e : Er} {l : _root_.List Er} {rs : _root_.List Ru} {Y : Nat → Int} {ts : _root_.List Int} (h : JanEs S es rs Y) (he : es = e :: l) (hl : l ≠ []) (hts : ts.length + 1 = (e :: erL :: l).length) (hi : Insts (e :: erL :: l) rs ts) (hinc : Inc (-9223372036854775808) ts) : False := by
  subst he
  have hl0 := _root_.List.length_pos_iff.2 hl
  simp only [_root_.List.length_cons] at hts
  match ts, hts, hi, hinc with
  | [], hts, _, _ => simp at hts
  | [_], hts, _, _ => simp only [_root_.List.length_cons, _root_.List.length_nil] at hts; omega
  | t0 :: t1 :: r, _, hi, hinc =>
    have i0 := hi 0 t0 e rfl rfl
    have i1 := hi 1 t1 erL rfl rfl
    obtain ⟨a1, a2, a3, a4, _, a6, _⟩ := h 0 e (by simp only [_root_.List.length_cons]; omega) rfl
    have b0 := inst_jan a1 a2 (by omega) (by omega) a6 i0
    have b1 := erL_inst i1
    have b2 := fst_1900 a3
    have h1 : t0 < t1 := hinc.2.1
    obtain ⟨o, _, ht⟩ := i1
    have e1 : instD erL (befS (ofS erL.set rs) o).save = 0 := rfl
    have e2 : on erL.y erL.m erL.kd erL.w erL.d = (-36359, 0) := erL_on
    have e3 : erL.sec = 0 := rfl
    rw [e1, e2, e3] at ht
    dsimp only at ht
    omega
end Go.Proofs.YtdppmeeobpbfnaaDoor.Cv
