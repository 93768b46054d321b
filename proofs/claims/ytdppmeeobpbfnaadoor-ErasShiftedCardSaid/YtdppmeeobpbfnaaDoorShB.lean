/-
  Shifted sets in plain words: saves greater by x, times in standard time less by x: the same events, and states with a save greater by x. No program in sight.
  Rules of the call's own, changed one after the other. No program in sight.
  Made sets whose other save is turned below 0, and shifted. No program in sight.
-/
import Derived.Test.YtdppmeeobpbfnaaDoorStFun
import Derived.Test.YtdppmeeobpbfnaaDoorDrSet
namespace Go.Proofs.YtdppmeeobpbfnaaDoor.Cv
open Go.RowKit
set_option linter.unusedVariables false
set_option linter.unusedSimpArgs false

/-- a rule, shifted -/
def shR (x : Int) (r : Ru) : Ru := { r with sec := if r.base = 1 then r.sec - x else r.sec, save := r.save + x }
def shL (x : Int) (rs : _root_.List Ru) : _root_.List Ru := rs.map (shR x)
/-- a set for which a shift by x keeps all events -/
structure ShOk (x : Int) (rs : _root_.List Ru) : Prop where
  clk : ∀ r ∈ rs, (Cv.clk r.sec r.base ↔ Cv.clk (shR x r).sec r.base)
  base : baseL (shL x rs) = baseL rs + x
theorem shL_at (x : Int) (rs : _root_.List Ru) (i : Int) : ruleAt (shL x rs) i = (ruleAt rs i).map (shR x) := by
  unfold ruleAt shL
  split
  · simp
  · rfl
theorem shL_get (x : Int) (rs : _root_.List Ru) (k : Nat) : (shL x rs)[k]? = rs[k]?.map (shR x) := by unfold shL; simp
theorem shL_len (x : Int) (rs : _root_.List Ru) : (shL x rs).length = rs.length := by unfold shL; simp
theorem sh_has {x : Int} {r : Ru} (h : Cv.clk r.sec r.base ↔ Cv.clk (shR x r).sec r.base) (y : Int) : Has (shR x r) y ↔ Has r y := by
  unfold Has
  constructor
  · rintro ⟨a, b, c, d⟩; exact ⟨a, b, h.2 c, d⟩
  · rintro ⟨a, b, c, d⟩; exact ⟨a, b, h.1 c, d⟩
theorem sh_nom (x bs : Int) (r : Ru) (y : Int) : nomOf (bs + x) (shR x r) y = nomOf bs r y := by
  unfold nomOf shR
  dsimp only
  split <;> omega
theorem ruleAt_in {rs : _root_.List Ru} {i : Int} {r : Ru} (h : ruleAt rs i = some r) : r ∈ rs := by
  obtain ⟨k, _, hk, _⟩ := ruleAt_ex h
  exact _root_.List.mem_of_getElem? hk
theorem sh_evOn {x : Int} {rs : _root_.List Ru} (h : ShOk x rs) (i y : Int) : evOn (shL x rs) i y = evOn rs i y := by
  unfold evOn
  rw [shL_at, h.base]
  cases hr : ruleAt rs i with
  | none => rfl
  | some r =>
    have hh := sh_has (h.clk r (ruleAt_in hr)) y
    simp only [Option.map_some]
    by_cases hy : Has r y
    · rw [if_pos hy, if_pos (hh.2 hy), sh_nom]
    · rw [if_neg hy, if_neg (fun hc => hy (hh.1 hc))]
theorem sh_isEv {x : Int} {rs : _root_.List Ru} (h : ShOk x rs) (e : Ev) : IsEv (shL x rs) e ↔ IsEv rs e := by
  constructor
  · intro he
    have h1 := is_evOn he
    rw [sh_evOn h] at h1
    exact (evOn_is h1).1
  · intro he
    have h1 := is_evOn he
    rw [← sh_evOn h] at h1
    exact (evOn_is h1).1
theorem sh_bef {x N : Int} {rs : _root_.List Ru} (h : ShOk x rs) {o : Option Ev} (hb : BefIs rs N o) : BefIs (shL x rs) N o := by
  cases o with
  | none => exact fun e he hn => hb e ((sh_isEv h e).1 he) hn
  | some y => exact ⟨(sh_isEv h y).2 hb.1, hb.2.1, fun e he hn hl => hb.2.2 e ((sh_isEv h e).1 he) hn hl⟩
theorem sh_in {x a b : Int} {rs : _root_.List Ru} (h : ShOk x rs) {l : _root_.List Ev} (hb : InIs rs a b l) : InIs (shL x rs) a b l :=
  ⟨hb.1, fun e => (hb.2 e).trans ⟨fun k => ⟨(sh_isEv h e).2 k.1, k.2⟩, fun k => ⟨(sh_isEv h e).1 k.1, k.2⟩⟩⟩
theorem sh_firstFrom {x : Int} {rs : _root_.List Ru} (h : ShOk x rs) (i : Int) : ∀ (n : Nat) (y : Int), firstFrom (shL x rs) i y n = firstFrom rs i y n
  | 0, _ => rfl
  | n + 1, y => by
    unfold firstFrom
    rw [sh_evOn h]
    cases evOn rs i y with
    | some e => rfl
    | none => exact sh_firstFrom h i n (y + 1)
theorem sh_firstEv {x : Int} {rs : _root_.List Ru} (h : ShOk x rs) (k : Nat) : firstEv (shL x rs) k = firstEv rs k := by
  unfold firstEv
  rw [shL_get]
  cases hr : rs[k]? with
  | none => rfl
  | some r => exact sh_firstFrom h _ _ _
theorem sh_firstsL {x : Int} {rs : _root_.List Ru} (h : ShOk x rs) (k : Nat) : firstsL (shL x rs) k = firstsL rs k := by
  unfold firstsL
  congr 1
  funext j
  exact sh_firstEv h j
theorem sh_saveAt {x : Int} {rs : _root_.List Ru} {i : Int} {r : Ru} (h : ruleAt rs i = some r) : saveAt (shL x rs) i = saveAt rs i + x := by
  unfold saveAt
  rw [shL_at, h]
  rfl
theorem sh_outB {x : Int} {rs : _root_.List Ru} {e : Ev} {r : Ru} (h : ruleAt rs e.rule = some r) (all : Bool) (but : Int) : outB (shL x rs) all (but + x) e = outB rs all but e := by
  unfold outB
  rw [sh_saveAt h]
  cases all
  · by_cases hb : saveAt rs e.rule = but
    · rw [hb]; simp
    · have h1 : (saveAt rs e.rule == but) = false := by simp [hb]
      have h2 : (saveAt rs e.rule + x == but + x) = false := by simp; omega
      rw [h1, h2]
  · rfl
theorem sh_bestS {x : Int} {rs : _root_.List Ru} {e : Ev} {r : Ru} (h : ruleAt rs e.rule = some r) (all : Bool) (but : Int) (o : Option Ev) : bestS (shL x rs) all (but + x) o e = bestS rs all but o e := by
  unfold bestS
  rw [sh_outB h]
theorem sh_bestL {x : Int} {rs : _root_.List Ru} (all : Bool) (but : Int) (l : _root_.List Ev) (hl : ∀ e ∈ l, ∃ r, ruleAt rs e.rule = some r) : bestL (shL x rs) all (but + x) l = bestL rs all but l := by
  have key : ∀ (l : _root_.List Ev) (o : Option Ev), (∀ e ∈ l, ∃ r, ruleAt rs e.rule = some r) → l.foldl (bestS (shL x rs) all (but + x)) o = l.foldl (bestS rs all but) o := by
    intro l
    induction l with
    | nil => intro o _; rfl
    | cons e l ih =>
      intro o hl
      obtain ⟨r, hr⟩ := hl e (_root_.List.mem_cons_self ..)
      simp only [_root_.List.foldl_cons]
      rw [sh_bestS hr]
      exact ih _ fun d hd => hl d (_root_.List.mem_cons_of_mem _ hd)
  exact key l none hl
theorem outB_all_any {rs : _root_.List Ru} {a b : Int} {e : Ev} : outB rs true a e = outB rs true b e := by unfold outB; simp
theorem bestL_all_any {rs : _root_.List Ru} {a b : Int} (l : _root_.List Ev) : bestL rs true a l = bestL rs true b l := by
  have key : bestS rs true a = bestS rs true b := by
    funext o e
    unfold bestS
    rw [outB_all_any (a := a) (b := b)]
  unfold bestL
  rw [key]
/-- a state, shifted -/
def shS (x : Int) (s : Sta) : Sta := ⟨s.save + x, s.le⟩
theorem sh_behS {x : Int} {rs : _root_.List Ru} {e : Ev} {r : Ru} (h : ruleAt rs e.rule = some r) : behS (shL x rs) e = shS x (behS rs e) := by
  unfold behS
  rw [shL_at, h]
  rfl
/-- some rule has an event -/
def Some1 (rs : _root_.List Ru) : Prop := ∃ e, bestL rs true 0 (firstsL rs rs.length) = some e
theorem sh_initS {x : Int} {rs : _root_.List Ru} (h : ShOk x rs) (h1 : Some1 rs) : initS (shL x rs) = shS x (initS rs) := by
  obtain ⟨b, hb⟩ := h1
  have hr : ∀ e ∈ firstsL rs rs.length, ∃ r, ruleAt rs e.rule = some r := fun e he => ev_rule (firstsL_ev he)
  have e1 : bestL (shL x rs) true 0 (firstsL (shL x rs) (shL x rs).length) = some b := by
    rw [shL_len, sh_firstsL h, bestL_all_any (b := 0 + x), sh_bestL _ _ _ hr, hb]
  obtain ⟨r, hbr⟩ := ev_rule (best_ev hb)
  unfold initS
  rw [e1, hb]
  simp only
  rw [shL_len, sh_firstsL h, sh_saveAt hbr, sh_bestL _ _ _ hr]
  cases hq : bestL rs false (saveAt rs b.rule) (firstsL rs rs.length) with
  | none => exact sh_behS hbr
  | some d =>
    obtain ⟨r2, hd⟩ := ev_rule (best_ev hq)
    exact sh_behS hd
theorem sh_befS {x N : Int} {rs : _root_.List Ru} (h : ShOk x rs) (h1 : Some1 rs) {o : Option Ev} (hb : BefIs rs N o) : befS (shL x rs) o = shS x (befS rs o) := by
  cases o with
  | none => exact sh_initS h h1
  | some e =>
    obtain ⟨r, hr⟩ := ev_rule hb.1
    exact sh_behS hr
/-- what the least save is -/
theorem leastL_is {rs : _root_.List Ru} {m : Int} (h1 : ∀ r ∈ rs, m ≤ r.save) (h2 : m ≤ 0) (h3 : m = 0 ∨ ∃ r ∈ rs, r.save = m) : leastL rs = m := by
  have lo : ∀ (l : _root_.List Ru) (x : Int), m ≤ x → (∀ r ∈ l, m ≤ r.save) → m ≤ l.foldl (fun x r => min x r.save) x := by
    intro l
    induction l with
    | nil => intro x hx _; exact hx
    | cons r l ih =>
      intro x hx hl
      have := hl r (_root_.List.mem_cons_self ..)
      exact ih _ (by show m ≤ min x r.save; omega) fun q hq => hl q (_root_.List.mem_cons_of_mem _ hq)
  have up : ∀ (l : _root_.List Ru) (x : Int), (x ≤ m ∨ ∃ r ∈ l, r.save ≤ m) → l.foldl (fun x r => min x r.save) x ≤ m := by
    intro l
    induction l with
    | nil =>
      rintro x (hx | ⟨r, hr, _⟩)
      · exact hx
      · cases hr
    | cons r l ih =>
      rintro x (hx | ⟨q, hq, hs⟩)
      · exact ih _ (.inl (by show min x r.save ≤ m; omega))
      · rcases _root_.List.mem_cons.1 hq with rfl | hq
        · exact ih _ (.inl (by show min x q.save ≤ m; omega))
        · exact ih _ (.inr ⟨q, hq, hs⟩)
  have a := lo rs 0 h2 h1
  have b := up rs 0 (by
    rcases h3 with h3 | ⟨r, hr, hs⟩
    · exact .inl (by omega)
    · exact .inr ⟨r, hr, by omega⟩)
  unfold leastL
  omega
/-- a set whose saves are 0 and s, both of which occur, and whose times lie within a day -/
structure TwoS (s : Int) (rs : _root_.List Ru) : Prop where
  each : ∀ r ∈ rs, r.save = 0 ∨ r.save = s
  zero : ∃ r ∈ rs, r.save = 0
  other : ∃ r ∈ rs, r.save = s
  bd : -10800 ≤ s ∧ s ≤ 10800
  sec : ∀ r ∈ rs, -172800 ≤ r.sec ∧ r.sec ≤ 172800
theorem two_least {s : Int} {rs : _root_.List Ru} (h : TwoS s rs) : leastL rs = min 0 s := by
  obtain ⟨r0, hr0, hz⟩ := h.zero
  obtain ⟨r1, hr1, ho⟩ := h.other
  refine leastL_is (fun r hr => by have := h.each r hr; omega) (by omega) ?_
  rcases Int.lt_or_le s 0 with hs | hs
  · exact .inr ⟨r1, hr1, by omega⟩
  · exact .inl (by omega)
theorem two_sh_least {s : Int} {rs : _root_.List Ru} (h : TwoS s rs) : leastL (shL (-s) rs) = min 0 s - s := by
  obtain ⟨r0, hr0, hz⟩ := h.zero
  obtain ⟨r1, hr1, ho⟩ := h.other
  refine leastL_is (fun r hr => ?_) (by omega) ?_
  · obtain ⟨q, hq, rfl⟩ := _root_.List.mem_map.1 hr
    have := h.each q hq
    show min 0 s - s ≤ q.save + -s
    omega
  · rcases Int.lt_or_le s 0 with hs | hs
    · exact .inl (by omega)
    · exact .inr ⟨shR (-s) r0, _root_.List.mem_map.2 ⟨r0, hr0, rfl⟩, by show r0.save + -s = _; omega⟩
theorem two_shOk {s : Int} {rs : _root_.List Ru} (h : TwoS s rs) : ShOk (-s) rs := by
  have h1 := two_least h
  have h2 := two_sh_least h
  have h3 := h.bd
  refine ⟨fun r hr => ?_, by unfold baseL; omega⟩
  have h4 := h.sec r hr
  unfold Cv.clk shR
  dsimp only
  split <;> constructor <;> omega
end Go.Proofs.YtdppmeeobpbfnaaDoor.Cv
namespace Go.Proofs.YtdppmeeobpbfnaaDoor.Cv
open Go.RowKit
set_option linter.unusedVariables false
set_option linter.unusedSimpArgs false

theorem ownC {w : World} {base g n cap size j : Nat} {e : TypeId} {xs : _root_.List Value} (h : w.ownsRow base e size (.slice (some ⟨g, 0, none⟩) n cap) n xs) (hj : j < n * size) : (∃ u, w.cell? ⟨g, j, none⟩ = some u) ∧ w.frozen? ⟨g, j, none⟩ = false ∧ base ≤ g ∧ g < w.heap.size := by
  rcases h.2 with ⟨h1, _⟩ | ⟨g', c', cur, h1, h2, h3, h4, h5, h6, h7⟩
  · cases h1
  · cases h1
    have hsz : j < cur.size := by rw [h6]; exact Nat.lt_of_lt_of_le hj (Nat.mul_le_mul_right size h4)
    exact ⟨⟨cur[j], cellB h3 (by rw [Array.getElem?_eq_getElem hsz])⟩, frzB h3 _, h2, (Array.getElem?_eq_some_iff.1 h3).1⟩
theorem ownR {w : World} {base g n cap i : Nat} {rs : _root_.List Ru} {r : Ru} (h : w.ownsRow base 56 11 (.slice (some ⟨g, 0, none⟩) n cap) n (flatRu rs)) (hr : rs[i]? = some r) (j : Nat) (hj : j < 11) (hi : i < n) : w.cell? ⟨g, i * 11 + j, none⟩ = r.arr.toList[j]? := by
  rw [h.cellAt (i * 11 + j) (by omega)]
  exact flatRu_get rs i r hr j hj
theorem flat_setAt (j : Nat) (hj : j < 11) (x : Value) (r r' : Ru) (hr : r'.arr.toList = r.arr.toList.set j x) : ∀ (rs : _root_.List Ru) (k : Nat), rs[k]? = some r → flatRu (rs.set k r') = (flatRu rs).set (k * 11 + j) x := by
  intro rs
  induction rs with
  | nil => intro k h; simp at h
  | cons y l ih =>
    intro k h
    cases k with
    | zero =>
      simp at h; subst h
      show r'.arr.toList ++ flatRu l = (y.arr.toList ++ flatRu l).set _ _
      rw [_root_.List.set_append_left _ _ (by rw [arr_len]; omega), hr]
      congr 2; omega
    | succ k =>
      show y.arr.toList ++ flatRu (l.set k _) = (y.arr.toList ++ flatRu l).set _ _
      rw [_root_.List.set_append_right _ _ (by rw [arr_len]; omega), arr_len, show (k + 1) * 11 + j - 11 = k * 11 + j by omega, ih k (by simpa using h)]
/-- the first k rules changed -/
def mixR (f : Ru → Ru) (k : Nat) (rs : _root_.List Ru) : _root_.List Ru := (rs.take k).map f ++ rs.drop k
theorem mixR_zero (f : Ru → Ru) (rs : _root_.List Ru) : mixR f 0 rs = rs := by unfold mixR; simp
theorem mixR_all (f : Ru → Ru) (rs : _root_.List Ru) : mixR f rs.length rs = rs.map f := by unfold mixR; simp
theorem mixR_len (f : Ru → Ru) (k : Nat) (rs : _root_.List Ru) : (mixR f k rs).length = rs.length := by unfold mixR; simp; omega
theorem mixR_get {f : Ru → Ru} {k : Nat} {rs : _root_.List Ru} {r : Ru} (h : rs[k]? = some r) : (mixR f k rs)[k]? = some r := by
  have hk := (_root_.List.getElem?_eq_some_iff.1 h).1
  unfold mixR
  rw [_root_.List.getElem?_append_right (by simp; omega)]
  simp [Nat.min_eq_left (Nat.le_of_lt hk), h]
theorem mixR_succ {f : Ru → Ru} {k : Nat} {rs : _root_.List Ru} {r : Ru} (h : rs[k]? = some r) : mixR f (k + 1) rs = (mixR f k rs).set k (f r) := by
  have hk := (_root_.List.getElem?_eq_some_iff.1 h).1
  have hd : rs.drop k = r :: rs.drop (k + 1) := by
    rw [_root_.List.drop_eq_getElem_cons hk]
    congr 1
    rw [_root_.List.getElem?_eq_getElem hk] at h
    exact Option.some.inj h
  have ht : rs.take (k + 1) = rs.take k ++ [r] := by rw [_root_.List.take_add_one, h]; rfl
  unfold mixR
  rw [ht, hd, _root_.List.map_append, _root_.List.set_append_right _ _ (by simp; omega)]
  simp [Nat.min_eq_left (Nat.le_of_lt hk)]
theorem set_set_same {l : _root_.List Ru} {k : Nat} {a b : Ru} : (l.set k a).set k b = l.set k b := by simp
theorem get_set_same {l : _root_.List Ru} {k : Nat} {a r : Ru} (h : l[k]? = some r) : (l.set k a)[k]? = some a := by
  have hk := (_root_.List.getElem?_eq_some_iff.1 h).1
  simp [hk]
/-- the rules lie below a block -/
def RulB (v : Value) (n : Nat) : Prop := ∀ (A : Option Addr) (l c : Nat), v = .slice A l c → ∀ g off, A = some ⟨g, off, none⟩ → g < n
theorem rulB_of {A : Option Addr} {l c : Nat} {rs : _root_.List Ru} {w : World} (h : Rul (.slice A l c) rs w) (hl : 0 < rs.length) : RulB (.slice A l c) w.heap.size := by
  intro A' l' c' e g off hA
  injection e with e1 e2 e3
  subst e1
  obtain ⟨r, hr⟩ : ∃ r, rs[0]? = some r := by rw [_root_.List.getElem?_eq_getElem hl]; exact ⟨_, rfl⟩
  obtain ⟨g', off', e4, hrg⟩ := h.at_ hr
  rw [hA] at e4
  injection e4 with e5
  injection e5 with e6
  subst e6
  obtain ⟨h0, _⟩ := range11 hrg
  exact lt_of_cell h0
theorem rul_setCells {v : Value} {rs : _root_.List Ru} {V : World} {b o n : Nat} {l : _root_.List Value} (h : Rul v rs V) (hb : n ≤ b) (hv : RulB v n) : Rul v rs (V.setCells b o l) := by
  obtain ⟨a, c, h1, h2, h3, h4⟩ := h
  refine ⟨a, c, h1, h2, h3, fun i r hr => ?_⟩
  obtain ⟨g, off, e, k⟩ := h4 i r hr
  have := hv a _ _ h1 g off e
  exact ⟨g, off, e, fun j x hx => cell_setCells (k j x hx) (by omega)⟩
theorem rul_set {v : Value} {rs : _root_.List Ru} {V : World} {b o n : Nat} {x : Value} (h : Rul v rs V) (hb : n ≤ b) (hv : RulB v n) : Rul v rs (V.setCell ⟨b, o, none⟩ x) := rul_setCells (l := [x]) h hb hv
theorem own_nonempty {w : World} {base : Nat} {v : Value} {n : Nat} {xs : _root_.List Value} {e : TypeId} {s : Nat} (h : w.ownsRow base e s v n xs) (hn : 0 < n) : ∃ g cap, v = .slice (some ⟨g, 0, none⟩) n cap := by
  rcases h.2 with ⟨_, h0⟩ | ⟨g, c, cur, h1, _⟩
  · omega
  · exact ⟨g, c, h1⟩
theorem block_set {V : World} {b c j : Nat} {x : Value} {ob : Obj} (h : V.heap[b]? = some ob) (hne : b ≠ c) : (V.setCell ⟨c, j, none⟩ x).heap[b]? = some ob := block_setCells (l := [x]) h hne
end Go.Proofs.YtdppmeeobpbfnaaDoor.Cv
namespace Go.Proofs.YtdppmeeobpbfnaaDoor.Cv
open Go.RowKit
set_option linter.unusedVariables false
set_option linter.unusedSimpArgs false

/-- the save other than 0 is below 0 -/
def ngR (r : Ru) : Ru := { r with save := min r.save (-r.save) }
theorem ruOk_has {r : Ru} (h : RuOk r) : Has r r.fr := by
  have h1 := h.fr
  have h2 := h.ut
  have h3 := h.clk
  have h4 := h.mo
  have hd : good r.k r.w r.d ∧ r.d ≤ 28 := by have := h.day; unfold DayOk at this; unfold Cv.good; omega
  refine ⟨by unfold firstY; omega, by unfold lastY; split <;> omega, by unfold Cv.clk; omega, on_mk (by unfold inr; omega) h4.1 h4.2 hd.1 (by have := len_in r.fr r.mo h4.1 h4.2; omega)⟩
theorem some1_of {rs : _root_.List Ru} {k : Nat} {r : Ru} (hk : rs[k]? = some r) (hh : Has r r.fr) : Some1 rs := by
  have he : evOn rs (k : Int) r.fr = some ⟨r.fr, (k : Int), nomOf (baseL rs) r r.fr⟩ := evOn_yes hk hh
  have hf : firstEv rs k = some ⟨r.fr, (k : Int), nomOf (baseL rs) r r.fr⟩ := by
    unfold firstEv
    rw [hk]
    simp only [firstFrom, he]
  have hm : (⟨r.fr, (k : Int), nomOf (baseL rs) r r.fr⟩ : Ev) ∈ firstsL rs rs.length := _root_.List.mem_filterMap.2 ⟨k, _root_.List.mem_range.2 (_root_.List.getElem?_eq_some_iff.1 hk).1, hf⟩
  have hb := bestL_is rs true 0 (firstsL rs rs.length)
  cases hq : bestL rs true 0 (firstsL rs rs.length) with
  | none =>
    rw [hq] at hb
    have := hb _ hm
    unfold outB at this
    simp at this
  | some e => exact ⟨e, hq⟩
theorem made_both {sv : Int} {rs : _root_.List Ru} (h : MadeP sv rs) : (∃ r ∈ rs, r.save = 0) ∧ ∃ r ∈ rs, r.save = sv := by
  obtain ⟨l, ra, rb, e, _, _, _, _, hs, _⟩ := h.last
  have ha : ra ∈ rs := by rw [e]; simp
  have hb : rb ∈ rs := by rw [e]; simp
  rcases hs with ⟨h1, h2⟩ | ⟨h1, h2⟩
  · exact ⟨⟨rb, hb, h2⟩, ⟨ra, ha, h1⟩⟩
  · exact ⟨⟨ra, ha, h1⟩, ⟨rb, hb, h2⟩⟩
theorem made_two_s {sv : Int} {rs : _root_.List Ru} (h : MadeP sv rs) : TwoS sv rs :=
  ⟨fun r hr => (h.each r hr).save, (made_both h).1, (made_both h).2, by have := h.svs; omega, fun r hr => by have := (h.each r hr).ok.clk; omega⟩
theorem made_some1 {sv : Int} {rs : _root_.List Ru} (h : MadeP sv rs) : Some1 rs := by
  obtain ⟨⟨r, hr, _⟩, _⟩ := made_both h
  obtain ⟨k, hk⟩ := _root_.List.mem_iff_getElem?.1 hr
  exact some1_of hk (ruOk_has (h.each r hr).ok)
theorem ng_two {sv : Int} {rs : _root_.List Ru} (h : MadeP sv rs) : TwoS (min sv (-sv)) (rs.map ngR) := by
  obtain ⟨⟨r0, hr0, hz⟩, r1, hr1, ho⟩ := made_both h
  refine ⟨fun r hr => ?_, ⟨ngR r0, _root_.List.mem_map.2 ⟨r0, hr0, rfl⟩, by show min r0.save (-r0.save) = 0; omega⟩, ⟨ngR r1, _root_.List.mem_map.2 ⟨r1, hr1, rfl⟩, by show min r1.save (-r1.save) = _; rw [ho]⟩, by have := h.svs; omega, fun r hr => ?_⟩
  · obtain ⟨q, hq, rfl⟩ := _root_.List.mem_map.1 hr
    show min q.save (-q.save) = 0 ∨ min q.save (-q.save) = _
    rcases (h.each q hq).save with hs | hs
    · exact .inl (by omega)
    · exact .inr (by rw [hs])
  · obtain ⟨q, hq, rfl⟩ := _root_.List.mem_map.1 hr
    show -172800 ≤ q.sec ∧ q.sec ≤ 172800
    have := (h.each q hq).ok.clk; omega
theorem ng_some1 {sv : Int} {rs : _root_.List Ru} (h : MadeP sv rs) : Some1 (rs.map ngR) := by
  obtain ⟨⟨r, hr, _⟩, _⟩ := made_both h
  obtain ⟨k, hk⟩ := _root_.List.mem_iff_getElem?.1 hr
  have hh := ruOk_has (h.each r hr).ok
  exact some1_of (rs := rs.map ngR) (k := k) (r := ngR r) (by simp [hk]) hh
/-- what is known of the rules of a set, whatever its saves are -/
structure CalmR (rs : _root_.List Ru) : Prop where
  fr : ∀ r ∈ rs, -2000000000 ≤ r.fr ∧ r.fr ≤ 4000000000
  save : ∀ r ∈ rs, -10800 ≤ r.save ∧ r.save ≤ 10800
  fits : ∀ r ∈ rs, r.fits
theorem made_calm {sv : Int} {rs : _root_.List Ru} (h : MadeP sv rs) : CalmR rs :=
  ⟨fun r hr => by have := (h.each r hr).ok.fr; omega, fun r hr => by have := (h.each r hr).ok.save; omega, fun r hr => (h.each r hr).ok.fits⟩
theorem ng_calm {sv : Int} {rs : _root_.List Ru} (h : MadeP sv rs) : CalmR (rs.map ngR) := by
  refine ⟨fun r hr => ?_, fun r hr => ?_, fun r hr => ?_⟩ <;> obtain ⟨q, hq, rfl⟩ := _root_.List.mem_map.1 hr
  · have := (h.each q hq).ok.fr
    show -2000000000 ≤ q.fr ∧ q.fr ≤ 4000000000
    omega
  · have := (h.each q hq).ok.save
    show -10800 ≤ min q.save (-q.save) ∧ min q.save (-q.save) ≤ 10800
    omega
  · obtain ⟨a1, a2, a3, a4, a5, a6, a7, a8, a9⟩ := (h.each q hq).ok.fits
    have := (h.each q hq).ok.save
    exact ⟨a1, a2, a3, a4, a5, a6, a7, a8, by show fit (min q.save (-q.save)); unfold fit; omega⟩
theorem two_sh_calm {s : Int} {rs : _root_.List Ru} (h : TwoS s rs) (hc : CalmR rs) : CalmR (shL (-s) rs) := by
  have hb := h.bd
  refine ⟨fun r hr => ?_, fun r hr => ?_, fun r hr => ?_⟩ <;> obtain ⟨q, hq, rfl⟩ := _root_.List.mem_map.1 hr
  · exact hc.fr q hq
  · have := h.each q hq
    show -10800 ≤ q.save + -s ∧ q.save + -s ≤ 10800
    omega
  · obtain ⟨a1, a2, a3, a4, a5, a6, a7, a8, a9⟩ := hc.fits q hq
    have h1 := h.each q hq
    have h2 := h.sec q hq
    refine ⟨a1, a2, a3, a4, a5, a6, ?_, a8, by show fit (q.save + -s); unfold fit; omega⟩
    show fit (if q.base = 1 then q.sec - -s else q.sec)
    unfold fit
    split <;> omega
theorem CalmR.tame {rs : _root_.List Ru} (h : CalmR rs) : Tame rs := h.fr
end Go.Proofs.YtdppmeeobpbfnaaDoor.Cv
