/-
  A source by numbers with one set shifted, in plain words: the spans stay. No program in sight.
-/
import Derived.Test.YtdppmeeobpbfnaaDoorErMdV
import Derived.Test.YtdppmeeobpbfnaaDoorShB
namespace Go.Proofs.YtdppmeeobpbfnaaDoor.Cv
open Go.RowKit
set_option linter.unusedVariables false
set_option linter.unusedSimpArgs false

theorem er_len (e : Er) : e.arr.toList.length = 13 := rfl
theorem flatEr_set (j : Nat) (hj : j < 13) (x : Value) (r r' : Er) (hr : r'.arr.toList = r.arr.toList.set j x) : ∀ (rs : _root_.List Er) (k : Nat), rs[k]? = some r → flatEr (rs.set k r') = (flatEr rs).set (k * 13 + j) x := by
  intro rs
  induction rs with
  | nil => intro k h; simp at h
  | cons y l ih =>
    intro k h
    cases k with
    | zero =>
      simp at h; subst h
      show r'.arr.toList ++ flatEr l = (y.arr.toList ++ flatEr l).set _ _
      rw [_root_.List.set_append_left _ _ (by rw [er_len]; omega), hr]
      congr 2; omega
    | succ k =>
      show y.arr.toList ++ flatEr (l.set k _) = (y.arr.toList ++ flatEr l).set _ _
      rw [_root_.List.set_append_right _ _ (by rw [er_len]; omega), er_len, show (k + 1) * 13 + j - 13 = k * 13 + j by omega, ih k (by simpa using h)]
theorem sete_same {α : Type} {l : _root_.List α} {k : Nat} {a b : α} : (l.set k a).set k b = l.set k b := by simp
theorem gete_same {α : Type} {l : _root_.List α} {k : Nat} {a r : α} (h : l[k]? = some r) : (l.set k a)[k]? = some a := by
  have hk := (_root_.List.getElem?_eq_some_iff.1 h).1
  simp [hk]
/-- the first k changed -/
def mixA {α : Type} (f : α → α) (k : Nat) (rs : _root_.List α) : _root_.List α := (rs.take k).map f ++ rs.drop k
theorem mixA_zero {α : Type} (f : α → α) (rs : _root_.List α) : mixA f 0 rs = rs := by unfold mixA; simp
theorem mixA_all {α : Type} (f : α → α) (rs : _root_.List α) : mixA f rs.length rs = rs.map f := by unfold mixA; simp
theorem mixA_len {α : Type} (f : α → α) (k : Nat) (rs : _root_.List α) : (mixA f k rs).length = rs.length := by unfold mixA; simp; omega
theorem mixA_get {α : Type} {f : α → α} {k : Nat} {rs : _root_.List α} {r : α} (h : rs[k]? = some r) : (mixA f k rs)[k]? = some r := by
  have hk := (_root_.List.getElem?_eq_some_iff.1 h).1
  unfold mixA
  rw [_root_.List.getElem?_append_right (by simp; omega)]
  simp [Nat.min_eq_left (Nat.le_of_lt hk), h]
theorem mixA_succ {α : Type} {f : α → α} {k : Nat} {rs : _root_.List α} {r : α} (h : rs[k]? = some r) : mixA f (k + 1) rs = (mixA f k rs).set k (f r) := by
  have hk := (_root_.List.getElem?_eq_some_iff.1 h).1
  have hd : rs.drop k = r :: rs.drop (k + 1) := by
    rw [_root_.List.drop_eq_getElem_cons hk]
    congr 1
    rw [_root_.List.getElem?_eq_getElem hk] at h
    exact Option.some.inj h
  have ht : rs.take (k + 1) = rs.take k ++ [r] := by rw [_root_.List.take_add_one, h]; rfl
  unfold mixA
  rw [ht, hd, _root_.List.map_append, _root_.List.set_append_right _ _ (by simp; omega)]
  simp [Nat.min_eq_left (Nat.le_of_lt hk)]
theorem mixA_same {α : Type} {f : α → α} {k : Nat} {rs : _root_.List α} {r : α} (h : rs[k]? = some r) (hf : f r = r) : mixA f (k + 1) rs = mixA f k rs := by
  rw [mixA_succ h, hf]
  have h2 := mixA_get (f := f) h
  apply _root_.List.ext_getElem?
  intro i
  by_cases hi : k = i
  · subst hi; rw [gete_same h2, h2]
  · rw [_root_.List.getElem?_set_ne hi]
/-- the eras of one zone changed in their own block -/
theorem OwnZp.chg {base i : Nat} {v : Value} {zs : _root_.List (ByteArray × _root_.List Er)} {ps : _root_.List (ByteArray × Value)} {A B : World} {nm : ByteArray} {es es' : _root_.List Er} {p : ByteArray × Value} (h : OwnZp base v zs ps A) (hz : zs[i]? = some (nm, es)) (hp : ps[i]? = some p) (hl : es'.length = es.length)
    (hg : A.grownBy B p.2.ownBlock) (hr : B.ownsRow base 60 13 p.2 es'.length (flatEr es')) : OwnZp base v (zs.set i (nm, es')) ps B := by
  obtain ⟨h1, h2, h3, h4⟩ := h
  have hne : 60 ≠ 45 := by decide
  obtain ⟨p', hp', hp1, hpr⟩ := h3 i _ hz
  rw [hp] at hp'
  obtain rfl := Option.some.inj hp'
  refine ⟨by simpa using h1, ?_, fun j z hj => ?_, h4⟩
  · rw [_root_.List.length_set]
    exact h2.kept hg (own_two h2 hpr (fun e => hne e.symm))
  · by_cases hij : i = j
    · subst hij
      have := (_root_.List.getElem?_eq_some_iff.1 hz).1
      rw [_root_.List.getElem?_set_self this] at hj
      obtain rfl := Option.some.inj hj
      exact ⟨p, hp, hp1, hr⟩
    · rw [_root_.List.getElem?_set_ne hij] at hj
      obtain ⟨q, q1, q2, q3⟩ := h3 j z hj
      refine ⟨q, q1, q2, q3.kept hg ?_⟩
      cases hb : q.2.ownBlock with
      | none => exact .inl rfl
      | some b =>
        refine .inr fun e => ?_
        exact h4 j i q p b (fun e => hij e.symm) q1 hp hb e.symm
theorem OwnZp.at_ {base gz n cz i : Nat} {zs : _root_.List (ByteArray × _root_.List Er)} {ps : _root_.List (ByteArray × Value)} {A : World} {nm : ByteArray} {es : _root_.List Er} (h : OwnZp base (.slice (some ⟨gz, 0, none⟩) n cz) zs ps A) (hz : zs[i]? = some (nm, es)) :
    ∃ p, ps[i]? = some p ∧ A.ownsRow base 60 13 p.2 es.length (flatEr es) ∧ A.cell? ⟨gz, i * 2, none⟩ = some (.string nm) ∧ A.cell? ⟨gz, i * 2 + 1, none⟩ = some p.2 := by
  obtain ⟨h1, h2, h3, h4⟩ := h
  obtain ⟨p, q1, q2, q3⟩ := h3 i _ hz
  have hi := (_root_.List.getElem?_eq_some_iff.1 hz).1
  have hn : n = zs.length := by
    rcases h2.2 with ⟨h5, _⟩ | ⟨g', c', cur, h5, _⟩
    · cases h5
    · injection h5
  subst hn
  have c0 := h2.cellAt (i * 2) (by omega)
  have g0 := flatZo_get ps i p q1 0 (by omega)
  rw [Nat.add_zero] at g0
  rw [g0] at c0
  have c1 := h2.cellAt (i * 2 + 1) (by omega)
  rw [flatZo_get ps i p q1 1 (by omega)] at c1
  exact ⟨p, q1, q3, by rw [← show p.1 = nm from q2]; exact c0, c1⟩
theorem ownE {w : World} {base g n cap i : Nat} {es : _root_.List Er} {e : Er} (h : w.ownsRow base 60 13 (.slice (some ⟨g, 0, none⟩) n cap) n (flatEr es)) (he : es[i]? = some e) (hi : i < n) : ∀ (j : Nat) (u : Value), e.arr.toList[j]? = some u → w.cell? ⟨g, i * 13 + j, none⟩ = some u := by
  intro j u hu
  have hj : j < 13 := (_root_.List.getElem?_eq_some_iff.1 hu).1
  rw [h.cellAt (i * 13 + j) (by omega), flatEr_get es i e he j hj]
  exact hu
/-- what is shifted: rules of the set n, eras with it -/
def fR (n : ByteArray) (x : Int) (r : Ru) : Ru := if r.na = n then shR x r else r
def gE (n : ByteArray) (x : Int) (e : Er) : Er := if e.k = 2 ∧ e.set = n then { e with off := e.off - x, sec := if e.is = true ∧ e.base = 1 then e.sec - x else e.sec } else e
theorem fR_na (n : ByteArray) (x : Int) (r : Ru) : (fR n x r).na = r.na := by unfold fR; split <;> rfl
theorem ofS_fR_ne {n m : ByteArray} (x : Int) (h : m ≠ n) (rs : _root_.List Ru) : ofS m (rs.map (fR n x)) = ofS m rs := by
  induction rs with
  | nil => rfl
  | cons r l ih =>
    unfold ofS at ih ⊢
    rw [_root_.List.map_cons, _root_.List.filter_cons, _root_.List.filter_cons, ih, fR_na]
    by_cases hm : r.na = m
    · have : fR n x r = r := by unfold fR; rw [if_neg (fun e => h (hm ▸ e))]
      rw [this]
    · rw [decide_eq_false hm]; rfl
theorem ofS_fR {n : ByteArray} (x : Int) (rs : _root_.List Ru) : ofS n (rs.map (fR n x)) = shL x (ofS n rs) := by
  induction rs with
  | nil => rfl
  | cons r l ih =>
    unfold ofS at ih ⊢
    rw [_root_.List.map_cons, _root_.List.filter_cons, _root_.List.filter_cons, ih, fR_na]
    by_cases hm : r.na = n
    · have : fR n x r = shR x r := by unfold fR; rw [if_pos hm]
      rw [this, decide_eq_true hm]; rfl
    · rw [decide_eq_false hm]; rfl
theorem sh_bef_rev {x N : Int} {rs : _root_.List Ru} (h : ShOk x rs) {o : Option Ev} (hb : BefIs (shL x rs) N o) : BefIs rs N o := by
  cases o with
  | none => exact fun e he hn => hb e ((sh_isEv h e).2 he) hn
  | some y => exact ⟨(sh_isEv h y).1 hb.1, hb.2.1, fun e he hn hl => hb.2.2 e ((sh_isEv h e).2 he) hn hl⟩
/-- an instant does not hang on rules where the era has none -/
theorem inst_k {e : Er} {rs rs' : _root_.List Ru} {t : Int} (hk : e.k ≠ 2) (h : InstIs e rs t) : InstIs e rs' t := by
  obtain ⟨o, _, ht⟩ := h
  refine ⟨o, fun h2 => absurd h2 hk, ?_⟩
  rw [ht]
  congr 1
  unfold instD
  rw [if_neg hk, if_neg hk]
theorem okE_k {e : Er} {rs rs' : _root_.List Ru} (hk : e.k ≠ 2) (h : OkE e rs) : OkE e rs' := by
  obtain ⟨h1, h2, h3, h4, h5, h6, h7⟩ := h
  refine ⟨h1, h2, h3, h4, h5, ?_, fun h => absurd h hk⟩
  have e1 : lstE e rs' = lstE e rs := by unfold lstE; rw [if_neg hk, if_neg hk]
  rw [e1]; exact h6
/-- the set is shifted, and the era with it -/
theorem sh_inst {e : Er} {y t sv : Int} {R : _root_.List Ru} {n : ByteArray} (hE : EndOk e y) (hk : e.k = 2) (hs : e.set = n) (hm : MadeP sv R) (h : InstIs (gE n (-sv) e) (shL (-sv) R) t) : InstIs e R t := by
  have h2 := made_two_s hm
  have hsh := two_shOk h2
  have h1 := made_some1 hm
  have l1 := two_least h2
  have l2 := two_sh_least h2
  have hsv := hm.svs
  have hb := hE.base
  obtain ⟨off, k, save, st, fm, is, ey, em, kd, w, d, sec, base⟩ := e
  obtain ⟨o, ho, ht⟩ := h
  dsimp only at hk hs hb
  subst hk hs
  have his : is = true := hE.is
  subst his
  unfold gE at ho ht
  rw [if_pos ⟨rfl, rfl⟩] at ho ht
  dsimp only at ho ht
  have hN : untN true ey em kd w d (if true = true ∧ base = 1 then sec - -sv else sec) base (baseL (shL (-sv) R)) = untN true ey em kd w d sec base (baseL R) := by
    rw [hsh.base]
    have hS : untS (if true = true ∧ base = 1 then sec - -sv else sec) base (baseL R + -sv) = untS sec base (baseL R) := by
      unfold untS
      by_cases hb1 : base = 1
      · rw [if_pos hb1, if_pos hb1, if_pos ⟨rfl, hb1⟩]; omega
      · rw [if_neg hb1, if_neg hb1, if_neg (fun q => hb1 q.2)]
    have hC : untC true ey em kd w d (if true = true ∧ base = 1 then sec - -sv else sec) base (baseL R + -sv) = untC true ey em kd w d sec base (baseL R) := by
      have hU : UntOK ey em kd w d (if true = true ∧ base = 1 then sec - -sv else sec) base (baseL R + -sv) ↔ UntOK ey em kd w d sec base (baseL R) := by unfold UntOK; rw [hS]
      unfold untC
      have a1 : ¬ (baseL R + -sv < -10800 ∨ 0 < baseL R + -sv) := by rw [← hsh.base]; unfold baseL; omega
      have a2 : ¬ (baseL R < -10800 ∨ 0 < baseL R) := by unfold baseL; omega
      rw [if_neg a1, if_neg a2]
      by_cases hu : UntOK ey em kd w d sec base (baseL R)
      · rw [if_pos hu, if_pos (hU.2 hu)]
      · rw [if_neg hu, if_neg (fun q => hu (hU.1 q))]
    unfold untN
    rw [hC, hS]
  have ho := ho rfl
  rw [hN] at ho
  have ho2 := sh_bef_rev hsh ho
  have hsf := sh_befS hsh h1 ho2
  refine ⟨o, fun _ => ho2, ?_⟩
  rw [ht, hsf]
  dsimp only
  unfold instD shS
  dsimp only
  have hbc : base = 0 ∨ base = 1 ∨ base = 2 := by omega
  rcases hbc with rfl | rfl | rfl <;> simp <;> omega
theorem sh_okE {e : Er} {y sv : Int} {S : Nat} {R : _root_.List Ru} {n : ByteArray} (hE : EndOk e y) (hA : EraOk S e) (y1 : 1850 ≤ y) (y2 : y ≤ 2149) (hk : e.k = 2) (hs : e.set = n) (hm : MadeP sv R) : OkE (gE n (-sv) e) (shL (-sv) R) := by
  have h2 := made_two_s hm
  have hsh := two_shOk h2
  have l1 := two_least h2
  have l2 := two_sh_least h2
  have hsv := hm.svs
  have hb := hE.base
  have hsec := hE.sec
  have ho := hA.off
  have hv := hA.save
  have hc := made_calm hm
  have hjan := jan_on (y := y) y1 y2 hE.day
  have hey := hE.y
  have hem := hE.m
  obtain ⟨off, k, save, st, fm, is, ey, em, kd, w, d, sec, base⟩ := e
  dsimp only at hk hs hb hsec ho hv hjan hey hem
  subst hk hs hey hem
  have his : is = true := hE.is
  subst his
  unfold gE
  rw [if_pos ⟨rfl, rfl⟩]
  refine ⟨rfl, by show 0 ≤ (2 : Int) ∧ (2 : Int) ≤ 2; decide, hb, by dsimp only; omega, by dsimp only; omega, ?_, fun _ => ⟨fun r hr => ?_, fun o => ?_⟩⟩
  · show untC true ey 1 kd w d (if true = true ∧ base = 1 then sec - -sv else sec) base (lstE _ (shL (-sv) R)) = 0
    have e1 : lstE (⟨off - -sv, 2, save, st, fm, true, ey, 1, kd, w, d, (if true = true ∧ base = 1 then sec - -sv else sec), base⟩ : Er) (shL (-sv) R) = baseL R + -sv := by
      unfold lstE
      rw [if_pos rfl, hsh.base]
    rw [e1]
    have b1 : -10800 ≤ baseL R + -sv ∧ baseL R + -sv ≤ 0 := by rw [← hsh.base]; unfold baseL; omega
    refine untC_yes b1.1 b1.2 ⟨by omega, by omega, hb.1, hb.2, hjan.1, ?_, ?_⟩ <;> unfold untS <;> by_cases hb1 : base = 1
    · rw [if_pos hb1, if_pos ⟨rfl, hb1⟩]; unfold baseL; omega
    · rw [if_neg hb1, if_neg (fun q => hb1 q.2)]; omega
    · rw [if_pos hb1, if_pos ⟨rfl, hb1⟩]; unfold baseL; omega
    · rw [if_neg hb1, if_neg (fun q => hb1 q.2)]; omega
  · obtain ⟨q, hq, rfl⟩ := _root_.List.mem_map.1 hr
    exact hc.fr q hq
  · have := befS_in (rs := shL (-sv) R) (a := -20000) (b := 20000) (by decide) (by decide) (fun r hr => by
      obtain ⟨q, hq, rfl⟩ := _root_.List.mem_map.1 hr
      have := hc.save q hq
      show -20000 ≤ q.save + -sv ∧ q.save + -sv ≤ 20000
      omega) o
    omega
/-- eras and rules of a made source, shifted -/
structure ShE (S : Nat) (rs : _root_.List Ru) (sv : Int) : Prop where
  zero : MadeP sv (ofS (nmR 0) rs)
theorem sh_one {S : Nat} {es : _root_.List Er} {rs : _root_.List Ru} {Y : Nat → Int} {sv : Int} (h : JanEs S es rs Y) (hm : MadeP sv (ofS (nmR 0) rs)) {k : Nat} {e : Er} (hk : k + 1 < es.length) (he : es[k]? = some e) :
    (OkE (gE (nmR 0) (-sv) e) (ofS (gE (nmR 0) (-sv) e).set (rs.map (fR (nmR 0) (-sv)))) ∧ (gE (nmR 0) (-sv) e).set.size ≤ 1000) ∧ ∀ t, InstIs (gE (nmR 0) (-sv) e) (ofS (gE (nmR 0) (-sv) e).set (rs.map (fR (nmR 0) (-sv)))) t → InstIs e (ofS e.set rs) t := by
  obtain ⟨h1, h2, h3, h4, h5, h6, h7⟩ := h k e hk he
  have hset : (gE (nmR 0) (-sv) e).set = e.set := by unfold gE; split <;> rfl
  rw [hset]
  by_cases hc : e.k = 2 ∧ e.set = nmR 0
  · rw [hc.2, ofS_fR]
    refine ⟨⟨sh_okE h1 h2 (by omega) (by omega) hc.1 hc.2 hm, by rw [nmR_size]; decide⟩, fun t ht => sh_inst h1 hc.1 hc.2 hm ht⟩
  · have hg : gE (nmR 0) (-sv) e = e := by unfold gE; rw [if_neg hc]
    rw [hg]
    by_cases hk2 : e.k = 2
    · rw [ofS_fR_ne _ (fun q => hc ⟨hk2, q⟩)]
      exact ⟨⟨(h.ok k e hk he).1, h7⟩, fun t ht => ht⟩
    · exact ⟨⟨okE_k hk2 (h.ok k e hk he).1, h7⟩, fun t ht => inst_k hk2 ht⟩
theorem sh_ok {S : Nat} {es : _root_.List Er} {rs : _root_.List Ru} {Y : Nat → Int} {sv : Int} (h : JanEs S es rs Y) (hm : MadeP sv (ofS (nmR 0) rs)) :
    ∀ (i : Nat) (e : Er), i + 1 < (es.map (gE (nmR 0) (-sv))).length → (es.map (gE (nmR 0) (-sv)))[i]? = some e → OkE e (ofS e.set (rs.map (fR (nmR 0) (-sv)))) ∧ e.set.size ≤ 1000 := by
  intro i e hi he
  rw [_root_.List.length_map] at hi
  rw [_root_.List.getElem?_map] at he
  have hx := _root_.List.getElem?_eq_getElem (l := es) (i := i) (by omega)
  rw [hx] at he
  obtain rfl := Option.some.inj he
  exact (sh_one h hm hi hx).1
theorem sh_insts {S : Nat} {es : _root_.List Er} {rs : _root_.List Ru} {Y : Nat → Int} {sv : Int} {ts ts' : _root_.List Int} (h : JanEs S es rs Y) (hm : MadeP sv (ofS (nmR 0) rs)) (hl : ts.length + 1 = es.length) (hi : Insts es rs ts) (hl' : ts'.length + 1 = (es.map (gE (nmR 0) (-sv))).length) (hi' : Insts (es.map (gE (nmR 0) (-sv))) (rs.map (fR (nmR 0) (-sv))) ts') : ts' = ts := by
  rw [_root_.List.length_map] at hl'
  apply _root_.List.ext_getElem?
  intro i
  by_cases hlt : i < ts.length
  · have e1 := _root_.List.getElem?_eq_getElem hlt
    have e2 := _root_.List.getElem?_eq_getElem (l := ts') (i := i) (by omega)
    have e3 := _root_.List.getElem?_eq_getElem (l := es) (i := i) (by omega)
    have e4 : (es.map (gE (nmR 0) (-sv)))[i]? = some (gE (nmR 0) (-sv) es[i]) := by rw [_root_.List.getElem?_map, e3]; rfl
    have k2 := (sh_one h hm (by omega) e3).2 _ (hi' i _ _ e2 e4)
    rw [e1, e2, (hi i _ _ e1 e3).uniq k2]
  · rw [_root_.List.getElem?_eq_none (by omega), _root_.List.getElem?_eq_none (by omega)]
theorem sh_notWrong {S : Nat} {es : _root_.List Er} {rs : _root_.List Ru} {Y : Nat → Int} {sv : Int} (h : JanEs S es rs Y) (hm : MadeP sv (ofS (nmR 0) rs)) : ¬ Wrong (es.map (gE (nmR 0) (-sv))) (rs.map (fR (nmR 0) (-sv))) := by
  rintro ⟨i, e, e', t, t', hi, h1, h2, k1, k2, hl⟩
  rw [_root_.List.length_map] at hi
  rw [_root_.List.getElem?_map] at h1 h2
  have x1 := _root_.List.getElem?_eq_getElem (l := es) (i := i) (by omega)
  have x2 := _root_.List.getElem?_eq_getElem (l := es) (i := i + 1) (by omega)
  rw [x1] at h1
  rw [x2] at h2
  obtain rfl := Option.some.inj h1
  obtain rfl := Option.some.inj h2
  have := h.gap hi x1 x2 ((sh_one h hm (by omega) x1).2 _ k1) ((sh_one h hm (by omega) x2).2 _ k2)
  omega
/-- x so far: the other save of the set n, or nothing yet -/
def Xso (n : ByteArray) (sv xv : Int) (rs : _root_.List Ru) (k : Nat) : Prop := (xv = 0 ∧ ∀ r ∈ rs.take k, r.na = n → r.save = 0) ∨ xv = -sv
theorem xso_zero (n : ByteArray) (sv : Int) (rs : _root_.List Ru) : Xso n sv 0 rs 0 := .inl ⟨rfl, fun r hr => by simp at hr⟩
theorem xso_no {n : ByteArray} {sv xv : Int} {rs : _root_.List Ru} {k : Nat} {r : Ru} (h : Xso n sv xv rs k) (hr : rs[k]? = some r) (hs : r.na = n → r.save = 0) : Xso n sv xv rs (k + 1) := by
  rcases h with ⟨h1, h2⟩ | h1
  · refine .inl ⟨h1, fun q hq => ?_⟩
    rw [_root_.List.take_add_one, hr] at hq
    rcases _root_.List.mem_append.1 hq with h3 | h3
    · exact h2 q h3
    · simp at h3; subst h3; exact hs
  · exact .inr h1
theorem xso_all {n : ByteArray} {sv xv : Int} {rs : _root_.List Ru} (hm : MadeP sv (ofS n rs)) (h : Xso n sv xv rs rs.length) : xv = -sv := by
  rcases h with ⟨h1, h2⟩ | h1
  · obtain ⟨_, r, hr, hs⟩ := made_both hm
    unfold ofS at hr
    obtain ⟨q1, q2⟩ := _root_.List.mem_filter.1 hr
    have := h2 r (by rw [_root_.List.take_length]; exact q1) (by simpa using q2)
    have := hm.svs
    omega
  · exact h1
theorem made_in {n : ByteArray} {sv : Int} {rs : _root_.List Ru} {r : Ru} (hm : MadeP sv (ofS n rs)) (hr : r ∈ rs) (hn : r.na = n) : r.save = 0 ∨ r.save = sv := by
  have : r ∈ ofS n rs := by unfold ofS; exact _root_.List.mem_filter.2 ⟨hr, by simpa using hn⟩
  exact (hm.each r this).save
end Go.Proofs.YtdppmeeobpbfnaaDoor.Cv
