/-
  The eras of a source by numbers, in plain words: their ends are right, and far from each other; the spans between them.
-/
import Derived.Test.YtdppmeeobpbfnaaDoorErMdT
import Derived.Test.YtdppmeeobpbfnaaDoorUntLawM
namespace Go.Proofs.YtdppmeeobpbfnaaDoor.Cv
open Go.RowKit
set_option linter.unusedVariables false
set_option linter.unusedSimpArgs false

theorem jan_on {y kd w d : Int} (h1 : 1850 ≤ y) (h2 : y ≤ 2149) (hd : (kd = 1 ∧ w = 0 ∧ 1 ≤ d ∧ d ≤ 20) ∨ (kd = 3 ∧ 0 ≤ w ∧ w ≤ 6 ∧ d = 8)) :
    (on y 1 kd w d).2 = 0 ∧ fst y ≤ (on y 1 kd w d).1 ∧ (on y 1 kd w d).1 ≤ fst y + 19 := by
  have hl : len y 1 = 31 := by simp [len]
  have hc : cum y 1 = 0 := by simp [cum]
  have hi : inr y ∧ ok y 1 1 := by unfold inr ok; omega
  have hg : good kd w d := by unfold good; omega
  rw [on_day hi hg (by omega)]
  refine ⟨rfl, ?_⟩
  dsimp only
  unfold find num
  rw [hc]
  rcases hd with ⟨rfl, rfl, h3, h4⟩ | ⟨rfl, h3, h4, rfl⟩
  · rw [if_pos rfl]; omega
  · rw [if_neg (by decide), if_neg (by decide), if_pos rfl]
    unfold beh
    omega
/-- an end in January -/
structure EndOk (e : Er) (y : Int) : Prop where
  is : e.is = true
  y : e.y = y
  m : e.m = 1
  day : (e.kd = 1 ∧ e.w = 0 ∧ 1 ≤ e.d ∧ e.d ≤ 20) ∨ (e.kd = 3 ∧ 0 ≤ e.w ∧ e.w ≤ 6 ∧ e.d = 8)
  sec : 900 ≤ e.sec ∧ e.sec ≤ 42300
  base : 0 ≤ e.base ∧ e.base ≤ 2
structure EraOk (S : Nat) (e : Er) : Prop where
  off : -42300 ≤ e.off ∧ e.off ≤ 42300
  k : 0 ≤ e.k ∧ e.k ≤ 2
  save : 0 ≤ e.save ∧ e.save ≤ 7200
  set : e.k = 2 → ∃ j : Nat, j < S ∧ e.set = nmR j
  none : e.k ≠ 2 → e.set = ⟨#[]⟩
theorem kq_bd (f : Bool) (x : Int) : 0 ≤ kq f x ∧ kq f x ≤ 2 := by unfold kq; split <;> omega
theorem er_end (x : De) (f : Bool) (S y : Int) : EndOk (x.er f true S y) y := by
  obtain ⟨xk, xs, xf, xy, xd, xb, xo, xa⟩ := x
  have ha := tmod_bd xa 24 (by decide)
  refine ⟨rfl, rfl, rfl, ?_, ?_, ?_⟩
  · unfold De.er
    dsimp only
    by_cases h : 200 ≤ xd
    · right; simp [h]; omega
    · left; simp [h]; omega
  · unfold De.er; dsimp only; simp only [if_true]; omega
  · unfold De.er; dsimp only; simp only [if_true]; omega
theorem er_any (x : De) (f g : Bool) (S : Nat) (y : Int) (hS : 1 ≤ S) : EraOk S (x.er f g (S : Int) y) := by
  obtain ⟨xk, xs, xf, xy, xd, xb, xo, xa⟩ := x
  have ho := tmod_bd xo 48 (by decide)
  have hk := kq_bd f xk
  refine ⟨?_, hk, ?_, ?_, ?_⟩
  · unfold De.er; dsimp only; omega
  · unfold De.er svq; dsimp only; split <;> omega
  · intro h
    refine ⟨(xs % (S : Int)).toNat, ?_, ?_⟩
    · have := Int.emod_nonneg xs (show (S : Int) ≠ 0 by omega)
      have := Int.emod_lt_of_pos xs (show (0 : Int) < (S : Int) by omega)
      omega
    · have h' : kq f xk = 2 := h
      show stq (kq f xk) xs S = _
      unfold stq
      rw [if_pos h']
      rfl
  · intro h
    have h' : kq f xk ≠ 2 := h
    show stq (kq f xk) xs S = _
    unfold stq
    rw [if_neg h']
theorem erAt_end {S : Int} {l : _root_.List De} {k : Nat} (h : k + 1 < l.length) : EndOk (erAt S l k) (yrs l (k + 1)) := by
  unfold erAt
  rw [decide_eq_true h]
  exact er_end _ _ _ _
theorem erAt_any {S : Nat} (l : _root_.List De) (k : Nat) (hS : 1 ≤ S) : EraOk S (erAt (S : Int) l k) := er_any _ _ _ _ _ hS
theorem nmR_inj : ∀ i j : Nat, i < 10 → j < 10 → nmR i = nmR j → i = j := by
  intro i j hi hj
  have key : ∀ i : Fin 10, ∀ j : Fin 10, nmR i.1 = nmR j.1 → i = j := by decide +kernel
  intro h
  have := key ⟨i, hi⟩ ⟨j, hj⟩ h
  exact congrArg Fin.val this
theorem nmR_size (j : Nat) : (nmR j).size = 2 := rfl
theorem ofS_flat : ∀ (L : _root_.List (_root_.List Ru)) (o j : Nat), (∀ (i : Nat) (r : _root_.List Ru), L[i]? = some r → ∀ q ∈ r, q.na = nmR (o + i)) → o + L.length ≤ 10 → j < L.length → ofS (nmR (o + j)) L.flatten = L.getD j [] := by
  intro L
  induction L with
  | nil => intro o j _ _ h; simp at h
  | cons a l ih =>
    intro o j hL ho hj
    simp only [_root_.List.length_cons] at ho hj
    have h0 := hL 0 a rfl
    unfold ofS
    rw [_root_.List.flatten_cons, _root_.List.filter_append]
    cases j with
    | zero =>
      rw [_root_.List.filter_eq_self.2 (fun q hq => by simp [h0 q hq]), _root_.List.filter_eq_nil_iff.2 (fun q hq => ?_)]
      · simp
      · obtain ⟨r, hr, hq⟩ := _root_.List.mem_flatten.1 hq
        obtain ⟨i, hi⟩ := _root_.List.mem_iff_getElem?.1 hr
        have h1 := hL (i + 1) r hi q hq
        have h2 := (_root_.List.getElem?_eq_some_iff.1 hi).1
        intro h3
        rw [decide_eq_true_eq, h1] at h3
        have := nmR_inj _ _ (by omega) (by omega) h3
        omega
    | succ j =>
      rw [_root_.List.filter_eq_nil_iff.2 (fun q hq => ?_), _root_.List.nil_append]
      · have := ih (o + 1) j (fun i r hi q hq => by have := hL (i + 1) r hi q hq; rw [show o + 1 + i = o + (i + 1) by omega]; exact this) (by omega) (by omega)
        rw [show o + (j + 1) = o + 1 + j by omega]
        exact this
      · intro h3
        rw [decide_eq_true_eq, h0 q hq] at h3
        have := nmR_inj _ _ (by omega) (by omega) h3
        omega
theorem RulesV.ofS {dl : _root_.List (_root_.List Int)} {S j : Nat} {rs : _root_.List Ru} (h : RulesV dl S rs) (hS : S ≤ 3) (hj : j < S) : ∃ sv, MadeP sv (ofS (nmR j) rs) ∧ 2 ≤ (Cv.ofS (nmR j) rs).length := by
  obtain ⟨L, hl, hf, ha⟩ := h
  subst hl hf
  have hn : ∀ (i : Nat) (r : _root_.List Ru), L[i]? = some r → ∀ q ∈ r, q.na = nmR (0 + i) := by
    intro i r hr q hq
    obtain ⟨d, sv, rs0, _, _, h3, _⟩ := ha i r hr
    rw [h3] at hq
    obtain ⟨q0, _, rfl⟩ := _root_.List.mem_map.1 hq
    rw [Nat.zero_add]
  have hx := ofS_flat L 0 j hn (by omega) hj
  rw [Nat.zero_add] at hx
  obtain ⟨d, sv, rs0, _, _, _, hp, h2, _⟩ := ha j _ (_root_.List.getElem?_eq_getElem hj)
  have e : L.getD j [] = L[j] := by rw [_root_.List.getD_eq_getElem?_getD, _root_.List.getElem?_eq_getElem hj]; rfl
  rw [hx, e]
  exact ⟨sv, hp, h2⟩
/-- the rules of an era of a made source -/
structure RulOk (e : Er) (rs : _root_.List Ru) : Prop where
  tame : Tame rs
  base : -3600 ≤ baseL rs ∧ baseL rs ≤ 0
  bef : ∀ o, -3600 ≤ (befS rs o).save ∧ (befS rs o).save ≤ 7200
theorem made_rulOk {sv : Int} {rs : _root_.List Ru} (e : Er) (h : MadeP sv rs) : RulOk e rs := by
  obtain ⟨h1, h2, h3⟩ := made_least h
  exact ⟨made_tame h, by rw [h3]; exact ⟨h1, h2⟩, fun o => made_befS h o⟩
/-- an end that is right -/
theorem okE_of {S : Nat} {e : Er} {y : Int} {rs : _root_.List Ru} (hE : EndOk e y) (hA : EraOk S e) (h1 : 1850 ≤ y) (h2 : y ≤ 2149) (hr : e.k = 2 → RulOk e rs) : OkE e rs := by
  refine ⟨hE.is, hA.k, hE.base, by have := hA.off; omega, by have := hA.save; omega, ?_, fun h => ⟨(hr h).tame, fun o => by have := (hr h).bef o; omega⟩⟩
  have hl : -3600 ≤ lstE e rs ∧ lstE e rs ≤ 0 := by
    unfold lstE
    by_cases h : e.k = 2
    · rw [if_pos h]; exact (hr h).base
    · rw [if_neg h]; omega
  have ho := jan_on (y := e.y) (by rw [hE.y]; exact h1) (by rw [hE.y]; exact h2) hE.day
  have hs := hE.sec
  have hb := hE.base
  have hy := hE.y
  refine untC_yes (by omega) (by omega) ⟨by omega, by omega, hb.1, hb.2, by rw [hE.m]; exact ho.1, ?_, ?_⟩ <;> unfold untS <;> split <;> omega
theorem inst_jan {S : Nat} {e : Er} {y t : Int} {rs : _root_.List Ru} (hE : EndOk e y) (hA : EraOk S e) (h1 : 1850 ≤ y) (h2 : y ≤ 2149) (hr : e.k = 2 → RulOk e rs) (hi : InstIs e rs t) : 86400 * fst y - 50000 ≤ t ∧ t ≤ 86400 * (fst y + 19) + 100000 := by
  obtain ⟨o, _, ht⟩ := hi
  have ho := jan_on (y := e.y) (by rw [hE.y]; exact h1) (by rw [hE.y]; exact h2) hE.day
  rw [hE.y] at ho
  rw [hE.y, hE.m] at ht
  have hd : -46000 ≤ instD e (befS rs o).save ∧ instD e (befS rs o).save ≤ 49500 := by
    have := hA.off
    have := hA.save
    unfold instD
    by_cases hk : e.k = 2
    · have := (hr hk).bef o
      repeat (first | omega | split)
    · repeat (first | omega | split)
  have := hE.sec
  omega
theorem InstIs.uniq {e : Er} {rs : _root_.List Ru} {t t' : Int} (h : InstIs e rs t) (h' : InstIs e rs t') : t = t' := by
  obtain ⟨o, ho, ht⟩ := h
  obtain ⟨p, hp, hu⟩ := h'
  by_cases hk : e.k = 2
  · obtain rfl := (ho hk).uniq (hp hk)
    rw [ht, hu]
  · rw [ht, hu]
    congr 1
    unfold instD
    rw [if_neg hk, if_neg hk]
/-- eras of which all but the last one end in January, in years that rise -/
def JanEs (S : Nat) (es : _root_.List Er) (rs : _root_.List Ru) (Y : Nat → Int) : Prop := ∀ (k : Nat) (e : Er), k + 1 < es.length → es[k]? = some e → EndOk e (Y k) ∧ EraOk S e ∧ 1900 ≤ Y k ∧ Y k ≤ 2100 ∧ Y k < Y (k + 1) ∧ (e.k = 2 → RulOk e (ofS e.set rs)) ∧ e.set.size ≤ 1000
theorem JanEs.ok {S : Nat} {es : _root_.List Er} {rs : _root_.List Ru} {Y : Nat → Int} (h : JanEs S es rs Y) : ∀ (i : Nat) (e : Er), i + 1 < es.length → es[i]? = some e → OkE e (ofS e.set rs) ∧ e.set.size ≤ 1000 := by
  intro i e hi he
  obtain ⟨h1, h2, h3, h4, h5, h6, h7⟩ := h i e hi he
  exact ⟨okE_of h1 h2 (by omega) (by omega) h6, h7⟩
theorem lp_0 (y : Int) : 0 ≤ lp y := by unfold lp; split <;> omega
theorem JanEs.gap {S : Nat} {es : _root_.List Er} {rs : _root_.List Ru} {Y : Nat → Int} (h : JanEs S es rs Y) {i : Nat} {e e' : Er} {t t' : Int} (hi : i + 2 < es.length) (h1 : es[i]? = some e) (h2 : es[i + 1]? = some e') (k1 : InstIs e (ofS e.set rs) t) (k2 : InstIs e' (ofS e'.set rs) t') : t + 200000 ≤ t' := by
  obtain ⟨p1, p2, p3, p4, p5, p6, p7⟩ := h i e (by omega) h1
  obtain ⟨q1, q2, q3, q4, q5, q6, q7⟩ := h (i + 1) e' (by omega) h2
  have b1 := inst_jan p1 p2 (by omega) (by omega) p6 k1
  have b2 := inst_jan q1 q2 (by omega) (by omega) q6 k2
  have hf := fst_lt (Y i) (Y (i + 1)) p5
  have := lp_0 (Y i)
  omega
theorem JanEs.notWrong {S : Nat} {es : _root_.List Er} {rs : _root_.List Ru} {Y : Nat → Int} (h : JanEs S es rs Y) : ¬ Wrong es rs := by
  rintro ⟨i, e, e', t, t', hi, h1, h2, k1, k2, hl⟩
  have := h.gap hi h1 h2 k1 k2
  omega
/-- spans without gaps -/
structure SpansOk (l : _root_.List Sp) : Prop where
  pos : 0 < l.length
  few : l.length ≤ 10
  first : ∀ x, l[0]? = some x → x.st = -9223372036854775808
  last : ∀ x, l[l.length - 1]? = some x → x.en = 9223372036854775807
  each : ∀ (k : Nat) (x : Sp), l[k]? = some x → x.er = (k : Int) ∧ x.st + 150000 ≤ x.en ∧ -9223372036854775808 ≤ x.st ∧ x.en ≤ 9223372036854775807 ∧ (x.en = 9223372036854775807 ∨ x.en ≤ 1000000000000) ∧ (0 < k → -1000000000000 ≤ x.st)
  next : ∀ (k : Nat) (x y : Sp), l[k]? = some x → l[k + 1]? = some y → y.st = x.en
theorem spl_get : ∀ (ts : _root_.List Int) (s : Int) (i k : Nat) (t : Int), ts[k]? = some t → (spl s i ts)[k]? = some ⟨if k = 0 then s else ts.getD (k - 1) 0, t, ((i + k : Nat) : Int)⟩ := by
  intro ts
  induction ts with
  | nil => intro s i k t h; simp at h
  | cons a r ih =>
    intro s i k t h
    cases k with
    | zero => simp at h; subst h; rfl
    | succ k =>
      have h' : r[k]? = some t := by simpa using h
      show (spl a (i + 1) r)[k]? = _
      rw [ih a (i + 1) k t h', if_neg (show ¬ k + 1 = 0 by omega)]
      have e1 : ((i + 1 + k : Nat) : Int) = ((i + (k + 1) : Nat) : Int) := by congr 1; omega
      rw [e1]
      by_cases hk : k = 0
      · subst hk; rfl
      · rw [if_neg hk]
        obtain ⟨q, rfl⟩ : ∃ q, k = q + 1 := ⟨k - 1, by omega⟩
        rfl
theorem spans_ok {S : Nat} {es : _root_.List Er} {rs : _root_.List Ru} {Y : Nat → Int} {ts : _root_.List Int} (h : JanEs S es rs Y) (h4 : es.length ≤ 9) (hl : ts.length + 1 = es.length) (hi : Insts es rs ts) : SpansOk (spl (-9223372036854775808) 0 (ts ++ [9223372036854775807])) := by
  have hlen : (spl (-9223372036854775808) 0 (ts ++ [9223372036854775807])).length = ts.length + 1 := by rw [spl_len]; simp
  have hbd : ∀ (k : Nat) (t : Int), ts[k]? = some t → -1000000000000 ≤ t ∧ t ≤ 1000000000000 := by
    intro k t ht
    have hk := (_root_.List.getElem?_eq_some_iff.1 ht).1
    have he := _root_.List.getElem?_eq_getElem (l := es) (i := k) (by omega)
    exact inst_bd (h.ok k _ (by omega) he).1 (hi k t _ ht he)
  have hgap : ∀ (k : Nat) (t t' : Int), ts[k]? = some t → ts[k + 1]? = some t' → t + 200000 ≤ t' := by
    intro k t t' ht ht'
    have hk := (_root_.List.getElem?_eq_some_iff.1 ht').1
    have he := _root_.List.getElem?_eq_getElem (l := es) (i := k) (by omega)
    have he' := _root_.List.getElem?_eq_getElem (l := es) (i := k + 1) (by omega)
    exact h.gap (by omega) he he' (hi k t _ ht he) (hi (k + 1) t' _ ht' he')
  have hget : ∀ (k : Nat) (x : Sp), (spl (-9223372036854775808) 0 (ts ++ [9223372036854775807]))[k]? = some x → ∃ t, (ts ++ [9223372036854775807])[k]? = some t ∧ x = ⟨if k = 0 then -9223372036854775808 else (ts ++ [9223372036854775807]).getD (k - 1) 0, t, (k : Int)⟩ := by
    intro k x hx
    have hk := (_root_.List.getElem?_eq_some_iff.1 hx).1
    rw [hlen] at hk
    obtain ⟨t, ht⟩ : ∃ t, (ts ++ [9223372036854775807])[k]? = some t := ⟨_, _root_.List.getElem?_eq_getElem (by simp; omega)⟩
    rw [spl_get _ _ _ _ _ ht, Nat.zero_add] at hx
    exact ⟨t, ht, (Option.some.inj hx).symm⟩
  have happ : ∀ (k : Nat) (t : Int), (ts ++ [9223372036854775807])[k]? = some t → (k < ts.length ∧ ts[k]? = some t) ∨ (k = ts.length ∧ t = 9223372036854775807) := by
    intro k t ht
    by_cases hk : k < ts.length
    · rw [_root_.List.getElem?_append_left hk] at ht
      exact .inl ⟨hk, ht⟩
    · have h2 := (_root_.List.getElem?_eq_some_iff.1 ht).1
      rw [_root_.List.length_append] at h2
      simp at h2
      obtain rfl : k = ts.length := by omega
      rw [_root_.List.getElem?_append_right (Nat.le_refl _), Nat.sub_self] at ht
      simp at ht
      exact .inr ⟨rfl, ht.symm⟩
  have hprev : ∀ k : Nat, 0 < k → k ≤ ts.length → ∃ t, ts[k - 1]? = some t ∧ (ts ++ [9223372036854775807]).getD (k - 1) 0 = t := by
    intro k h0 hk
    have hx := _root_.List.getElem?_eq_getElem (l := ts) (i := k - 1) (by omega)
    refine ⟨_, hx, ?_⟩
    rw [_root_.List.getD_eq_getElem?_getD, _root_.List.getElem?_append_left (by omega), hx]
    rfl
  refine ⟨by omega, by omega, ?_, ?_, ?_, ?_⟩
  · intro x hx
    obtain ⟨t, _, rfl⟩ := hget 0 x hx
    rfl
  · intro x hx
    obtain ⟨t, ht, rfl⟩ := hget _ x hx
    rw [hlen] at ht
    rcases happ _ t ht with ⟨h1, _⟩ | ⟨_, h2⟩
    · omega
    · exact h2
  · intro k x hx
    obtain ⟨t, ht, rfl⟩ := hget k x hx
    have ht2 := happ k t ht
    have htb : t = 9223372036854775807 ∨ (-1000000000000 ≤ t ∧ t ≤ 1000000000000) := by
      rcases ht2 with ⟨_, h2⟩ | ⟨_, h2⟩
      · exact .inr (hbd k t h2)
      · exact .inl h2
    have hk := (_root_.List.getElem?_eq_some_iff.1 hx).1
    rw [hlen] at hk
    dsimp only
    by_cases h0 : k = 0
    · rw [if_pos h0]
      refine ⟨rfl, by omega, by omega, by omega, by omega, fun h => by omega⟩
    · rw [if_neg h0]
      obtain ⟨p, hp, hp2⟩ := hprev k (by omega) (by omega)
      rw [hp2]
      have hpb := hbd _ p hp
      have hg : p + 150000 ≤ t := by
        rcases ht2 with ⟨_, h2⟩ | ⟨_, h2⟩
        · have := hgap (k - 1) p t hp (by rw [show k - 1 + 1 = k by omega]; exact h2)
          omega
        · omega
      refine ⟨rfl, hg, by omega, by omega, by omega, fun _ => by omega⟩
  · intro k x y hx hy
    obtain ⟨t, ht, rfl⟩ := hget k x hx
    obtain ⟨t', ht', rfl⟩ := hget (k + 1) y hy
    dsimp only
    rw [if_neg (by omega), Nat.add_sub_cancel, _root_.List.getD_eq_getElem?_getD, ht]
    rfl
/-- an instant of a span is found in it alone -/
theorem SpansOk.find {l : _root_.List Sp} (h : SpansOk l) {k : Nat} {x : Sp} {t : Int} (hx : l[k]? = some x) (h1 : x.st ≤ t) (h2 : t < x.en) : FindIs l t (some x) := by
  refine ⟨k, hx, ⟨h1, h2⟩, fun i e hi he hh => ?_⟩
  have key : ∀ (d i : Nat) (e x : Sp), l[i]? = some e → l[i + d + 1]? = some x → e.en ≤ x.st := by
    intro d
    induction d with
    | zero => intro i e x he hx; rw [h.next i e x he hx]; exact Int.le_refl _
    | succ d ih =>
      intro i e x he hx
      have hk := (_root_.List.getElem?_eq_some_iff.1 hx).1
      have hz := _root_.List.getElem?_eq_getElem (l := l) (i := i + d + 1) (by omega)
      have a1 := ih i e _ he hz
      have a2 := h.next (i + d + 1) _ x hz hx
      have a3 := (h.each _ _ hz).2.1
      omega
  have := key (k - i - 1) i e x he (by rw [show i + (k - i - 1) + 1 = k by omega]; exact hx)
  have := hh.2
  omega
theorem SpansOk.notMax {l : _root_.List Sp} (h : SpansOk l) : FindIs l 9223372036854775807 none := fun i e he hh => by
  have := (h.each i e he).2.2.2.1
  have := hh.2
  omega
/-- how many of the first spans have an instant -/
def cntS (l : _root_.List Sp) (t : Int) (k : Nat) : Nat := ((l.take k).filter fun x => decide (hitS t x)).length
theorem cntS_succ {l : _root_.List Sp} {t : Int} {k : Nat} {x : Sp} (hx : l[k]? = some x) : cntS l t (k + 1) = cntS l t k + (if hitS t x then 1 else 0) := by
  unfold cntS
  have hk := (_root_.List.getElem?_eq_some_iff.1 hx)
  rw [_root_.List.take_add_one, hx, _root_.List.filter_append, _root_.List.length_append]
  by_cases hh : hitS t x
  · rw [if_pos hh]; simp [hh]
  · rw [if_neg hh]; simp [hh]
theorem cntS_le {l : _root_.List Sp} {t : Int} {k : Nat} : cntS l t k ≤ k := by
  unfold cntS
  have := _root_.List.length_filter_le (fun x => decide (hitS t x)) (l.take k)
  have := _root_.List.length_take_le k l
  omega
/-- every instant but the last one is in just one span -/
theorem SpansOk.one {l : _root_.List Sp} (h : SpansOk l) {t : Int} (h1 : -9223372036854775808 ≤ t) (h2 : t < 9223372036854775807) : cntS l t l.length = 1 := by
  have key : ∀ k, k + 1 ≤ l.length → ∀ x, l[k]? = some x → cntS l t (k + 1) = if t < x.en then 1 else 0 := by
    intro k
    induction k with
    | zero =>
      intro hk x hx
      rw [cntS_succ hx]
      have h0 : cntS l t 0 = 0 := rfl
      have hf := h.first x hx
      rw [h0, Nat.zero_add]
      by_cases hh : t < x.en
      · rw [if_pos hh, if_pos (show hitS t x from ⟨by omega, hh⟩)]
      · rw [if_neg hh, if_neg (fun q : hitS t x => hh q.2)]
    | succ k ih =>
      intro hk x hx
      have hz := _root_.List.getElem?_eq_getElem (l := l) (i := k) (by omega)
      rw [cntS_succ hx, ih (by omega) _ hz]
      have hn := h.next k _ x hz hx
      have hg := (h.each _ _ hx).2.1
      by_cases ha : t < l[k].en
      · rw [if_pos ha, if_neg (fun q : hitS t x => by have := q.1; omega), if_pos (by omega)]
      · rw [if_neg ha, Nat.zero_add]
        by_cases hh : t < x.en
        · rw [if_pos hh, if_pos (show hitS t x from ⟨by omega, hh⟩)]
        · rw [if_neg hh, if_neg (fun q : hitS t x => hh q.2)]
  have hp := h.pos
  have hz := _root_.List.getElem?_eq_getElem (l := l) (i := l.length - 1) (by omega)
  have hk := key (l.length - 1) (by omega) _ hz
  rw [show l.length - 1 + 1 = l.length by omega, h.last _ hz, if_pos h2] at hk
  exact hk
/-- the eras of a made zone end in January -/
theorem made_jan {dl : _root_.List (_root_.List Int)} {S : Nat} {rs : _root_.List Ru} {l : _root_.List De} (h : RulesV dl S rs) (hS : 1 ≤ S ∧ S ≤ 3) (hl : l.length ≤ 4) : JanEs S (ersL (S : Int) l) rs (fun k => yrs l (k + 1)) := by
  intro k e hk he
  unfold ersL at hk he
  rw [ersUp_len] at hk
  rw [ersUp_get (by omega)] at he
  obtain rfl := Option.some.inj he
  have hb1 := yrs_bd l (k + 1)
  have hA := erAt_any (S := S) l k hS.1
  push_cast at hb1
  refine ⟨erAt_end hk, hA, by show 1900 ≤ yrs l (k + 1); omega, by show yrs l (k + 1) ≤ 2100; omega, ?_, ?_, ?_⟩
  · show yrs l (k + 1) < yrs l (k + 1) + (1 + (l.getD (k + 1) De0).y % 30)
    omega
  · intro h2
    obtain ⟨j, hj, hs⟩ := hA.set h2
    rw [hs]
    obtain ⟨sv, hp, _⟩ := h.ofS hS.2 hj
    exact made_rulOk _ hp
  · by_cases h2 : (erAt (S : Int) l k).k = 2
    · obtain ⟨j, hj, hs⟩ := hA.set h2
      rw [hs, nmR_size]; decide
    · rw [hA.none h2]; decide
end Go.Proofs.YtdppmeeobpbfnaaDoor.Cv
