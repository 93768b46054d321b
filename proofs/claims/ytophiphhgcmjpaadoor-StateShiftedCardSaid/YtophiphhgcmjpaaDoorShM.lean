/-
  Shifted sets in plain words: saves greater by x, times in standard time less by x: the same events, and states with a save greater by x. No program in sight.
-/
import Derived.Test.YtophiphhgcmjpaaDoorStFun
namespace Go.Proofs.YtophiphhgcmjpaaDoor.Cv
open Go.RowKit
set_option linter.unusedVariables false
set_option linter.unusedSimpArgs false

/-- a rule, shifted -/
def shR (x : Int) (r : Ru) : Ru := { r with sec := if r.base = 1 then r.sec - x else r.sec, save := r.save + x }
def shL (x : Int) (rs : _root_.List Ru) : _root_.List Ru := rs.map (shR x)
/-- a set for which a shift by x keeps all events -/
structure ShOk (x : Int) (rs : _root_.List Ru) : Prop where
  clk : ∀ r ∈ rs, (Cv.clk r.sec r.base ↔ Cv.clk (shR x r).sec r.base)
  base : baseL (shL x rs) = baseL rs + x
theorem shL_at (x : Int) (rs : _root_.List Ru) (i : Int) : ruleAt (shL x rs) i = (ruleAt rs i).map (shR x) := by
  unfold ruleAt shL
  split
  · simp
  · rfl
theorem shL_get (x : Int) (rs : _root_.List Ru) (k : Nat) : (shL x rs)[k]? = rs[k]?.map (shR x) := by unfold shL; simp
theorem shL_len (x : Int) (rs : _root_.List Ru) : (shL x rs).length = rs.length := by unfold shL; simp
theorem sh_has {x : Int} {r : Ru} (h : Cv.clk r.sec r.base ↔ Cv.clk (shR x r).sec r.base) (y : Int) : Has (shR x r) y ↔ Has r y := by
  unfold Has
  constructor
  · rintro ⟨a, b, c, d⟩; exact ⟨a, b, h.2 c, d⟩
  · rintro ⟨a, b, c, d⟩; exact ⟨a, b, h.1 c, d⟩
theorem sh_nom (x bs : Int) (r : Ru) (y : Int) : nomOf (bs + x) (shR x r) y = nomOf bs r y := by
  unfold nomOf shR
  dsimp only
  split <;> omega
theorem ruleAt_in {rs : _root_.List Ru} {i : Int} {r : Ru} (h : ruleAt rs i = some r) : r ∈ rs := by
  obtain ⟨k, _, hk, _⟩ := ruleAt_ex h
  exact _root_.List.mem_of_getElem? hk
theorem sh_evOn {x : Int} {rs : _root_.List Ru} (h : ShOk x rs) (i y : Int) : evOn (shL x rs) i y = evOn rs i y := by
  unfold evOn
  rw [shL_at, h.base]
  cases hr : ruleAt rs i with
  | none => rfl
  | some r =>
    have hh := sh_has (h.clk r (ruleAt_in hr)) y
    simp only [Option.map_some]
    by_cases hy : Has r y
    · rw [if_pos hy, if_pos (hh.2 hy), sh_nom]
    · rw [if_neg hy, if_neg (fun hc => hy (hh.1 hc))]
theorem sh_isEv {x : Int} {rs : _root_.List Ru} (h : ShOk x rs) (e : Ev) : IsEv (shL x rs) e ↔ IsEv rs e := by
  constructor
  · intro he
    have h1 := is_evOn he
    rw [sh_evOn h] at h1
    exact (evOn_is h1).1
  · intro he
    have h1 := is_evOn he
    rw [← sh_evOn h] at h1
    exact (evOn_is h1).1
theorem sh_bef {x N : Int} {rs : _root_.List Ru} (h : ShOk x rs) {o : Option Ev} (hb : BefIs rs N o) : BefIs (shL x rs) N o := by
  cases o with
  | none => exact fun e he hn => hb e ((sh_isEv h e).1 he) hn
  | some y => exact ⟨(sh_isEv h y).2 hb.1, hb.2.1, fun e he hn hl => hb.2.2 e ((sh_isEv h e).1 he) hn hl⟩
theorem sh_in {x a b : Int} {rs : _root_.List Ru} (h : ShOk x rs) {l : _root_.List Ev} (hb : InIs rs a b l) : InIs (shL x rs) a b l :=
  ⟨hb.1, fun e => (hb.2 e).trans ⟨fun k => ⟨(sh_isEv h e).2 k.1, k.2⟩, fun k => ⟨(sh_isEv h e).1 k.1, k.2⟩⟩⟩
theorem sh_firstFrom {x : Int} {rs : _root_.List Ru} (h : ShOk x rs) (i : Int) : ∀ (n : Nat) (y : Int), firstFrom (shL x rs) i y n = firstFrom rs i y n
  | 0, _ => rfl
  | n + 1, y => by
    unfold firstFrom
    rw [sh_evOn h]
    cases evOn rs i y with
    | some e => rfl
    | none => exact sh_firstFrom h i n (y + 1)
theorem sh_firstEv {x : Int} {rs : _root_.List Ru} (h : ShOk x rs) (k : Nat) : firstEv (shL x rs) k = firstEv rs k := by
  unfold firstEv
  rw [shL_get]
  cases hr : rs[k]? with
  | none => rfl
  | some r => exact sh_firstFrom h _ _ _
theorem sh_firstsL {x : Int} {rs : _root_.List Ru} (h : ShOk x rs) (k : Nat) : firstsL (shL x rs) k = firstsL rs k := by
  unfold firstsL
  congr 1
  funext j
  exact sh_firstEv h j
theorem sh_saveAt {x : Int} {rs : _root_.List Ru} {i : Int} {r : Ru} (h : ruleAt rs i = some r) : saveAt (shL x rs) i = saveAt rs i + x := by
  unfold saveAt
  rw [shL_at, h]
  rfl
theorem sh_outB {x : Int} {rs : _root_.List Ru} {e : Ev} {r : Ru} (h : ruleAt rs e.rule = some r) (all : Bool) (but : Int) : outB (shL x rs) all (but + x) e = outB rs all but e := by
  unfold outB
  rw [sh_saveAt h]
  cases all
  · by_cases hb : saveAt rs e.rule = but
    · rw [hb]; simp
    · have h1 : (saveAt rs e.rule == but) = false := by simp [hb]
      have h2 : (saveAt rs e.rule + x == but + x) = false := by simp; omega
      rw [h1, h2]
  · rfl
theorem sh_bestS {x : Int} {rs : _root_.List Ru} {e : Ev} {r : Ru} (h : ruleAt rs e.rule = some r) (all : Bool) (but : Int) (o : Option Ev) : bestS (shL x rs) all (but + x) o e = bestS rs all but o e := by
  unfold bestS
  rw [sh_outB h]
theorem sh_bestL {x : Int} {rs : _root_.List Ru} (all : Bool) (but : Int) (l : _root_.List Ev) (hl : ∀ e ∈ l, ∃ r, ruleAt rs e.rule = some r) : bestL (shL x rs) all (but + x) l = bestL rs all but l := by
  have key : ∀ (l : _root_.List Ev) (o : Option Ev), (∀ e ∈ l, ∃ r, ruleAt rs e.rule = some r) → l.foldl (bestS (shL x rs) all (but + x)) o = l.foldl (bestS rs all but) o := by
    intro l
    induction l with
    | nil => intro o _; rfl
    | cons e l ih =>
      intro o hl
      obtain ⟨r, hr⟩ := hl e (_root_.List.mem_cons_self ..)
      simp only [_root_.List.foldl_cons]
      rw [sh_bestS hr]
      exact ih _ fun d hd => hl d (_root_.List.mem_cons_of_mem _ hd)
  exact key l none hl
theorem outB_all_any {rs : _root_.List Ru} {a b : Int} {e : Ev} : outB rs true a e = outB rs true b e := by unfold outB; simp
theorem bestL_all_any {rs : _root_.List Ru} {a b : Int} (l : _root_.List Ev) : bestL rs true a l = bestL rs true b l := by
  have key : bestS rs true a = bestS rs true b := by
    funext o e
    unfold bestS
    rw [outB_all_any (a := a) (b := b)]
  unfold bestL
  rw [key]
/-- a state, shifted -/
def shS (x : Int) (s : Sta) : Sta := ⟨s.save + x, s.le⟩
theorem sh_behS {x : Int} {rs : _root_.List Ru} {e : Ev} {r : Ru} (h : ruleAt rs e.rule = some r) : behS (shL x rs) e = shS x (behS rs e) := by
  unfold behS
  rw [shL_at, h]
  rfl
/-- some rule has an event -/
def Some1 (rs : _root_.List Ru) : Prop := ∃ e, bestL rs true 0 (firstsL rs rs.length) = some e
theorem sh_initS {x : Int} {rs : _root_.List Ru} (h : ShOk x rs) (h1 : Some1 rs) : initS (shL x rs) = shS x (initS rs) := by
  obtain ⟨b, hb⟩ := h1
  have hr : ∀ e ∈ firstsL rs rs.length, ∃ r, ruleAt rs e.rule = some r := fun e he => ev_rule (firstsL_ev he)
  have e1 : bestL (shL x rs) true 0 (firstsL (shL x rs) (shL x rs).length) = some b := by
    rw [shL_len, sh_firstsL h, bestL_all_any (b := 0 + x), sh_bestL _ _ _ hr, hb]
  obtain ⟨r, hbr⟩ := ev_rule (best_ev hb)
  unfold initS
  rw [e1, hb]
  simp only
  rw [shL_len, sh_firstsL h, sh_saveAt hbr, sh_bestL _ _ _ hr]
  cases hq : bestL rs false (saveAt rs b.rule) (firstsL rs rs.length) with
  | none => exact sh_behS hbr
  | some d =>
    obtain ⟨r2, hd⟩ := ev_rule (best_ev hq)
    exact sh_behS hd
theorem sh_befS {x N : Int} {rs : _root_.List Ru} (h : ShOk x rs) (h1 : Some1 rs) {o : Option Ev} (hb : BefIs rs N o) : befS (shL x rs) o = shS x (befS rs o) := by
  cases o with
  | none => exact sh_initS h h1
  | some e =>
    obtain ⟨r, hr⟩ := ev_rule hb.1
    exact sh_behS hr
/-- what the least save is -/
theorem leastL_is {rs : _root_.List Ru} {m : Int} (h1 : ∀ r ∈ rs, m ≤ r.save) (h2 : m ≤ 0) (h3 : m = 0 ∨ ∃ r ∈ rs, r.save = m) : leastL rs = m := by
  have lo : ∀ (l : _root_.List Ru) (x : Int), m ≤ x → (∀ r ∈ l, m ≤ r.save) → m ≤ l.foldl (fun x r => min x r.save) x := by
    intro l
    induction l with
    | nil => intro x hx _; exact hx
    | cons r l ih =>
      intro x hx hl
      have := hl r (_root_.List.mem_cons_self ..)
      exact ih _ (by show m ≤ min x r.save; omega) fun q hq => hl q (_root_.List.mem_cons_of_mem _ hq)
  have up : ∀ (l : _root_.List Ru) (x : Int), (x ≤ m ∨ ∃ r ∈ l, r.save ≤ m) → l.foldl (fun x r => min x r.save) x ≤ m := by
    intro l
    induction l with
    | nil =>
      rintro x (hx | ⟨r, hr, _⟩)
      · exact hx
      · cases hr
    | cons r l ih =>
      rintro x (hx | ⟨q, hq, hs⟩)
      · exact ih _ (.inl (by show min x r.save ≤ m; omega))
      · rcases _root_.List.mem_cons.1 hq with rfl | hq
        · exact ih _ (.inl (by show min x q.save ≤ m; omega))
        · exact ih _ (.inr ⟨q, hq, hs⟩)
  have a := lo rs 0 h2 h1
  have b := up rs 0 (by
    rcases h3 with h3 | ⟨r, hr, hs⟩
    · exact .inl (by omega)
    · exact .inr ⟨r, hr, by omega⟩)
  unfold leastL
  omega
/-- a set whose saves are 0 and s, both of which occur, and whose times lie within a day -/
structure TwoS (s : Int) (rs : _root_.List Ru) : Prop where
  each : ∀ r ∈ rs, r.save = 0 ∨ r.save = s
  zero : ∃ r ∈ rs, r.save = 0
  other : ∃ r ∈ rs, r.save = s
  bd : -10800 ≤ s ∧ s ≤ 10800
  sec : ∀ r ∈ rs, -172800 ≤ r.sec ∧ r.sec ≤ 172800
theorem two_least {s : Int} {rs : _root_.List Ru} (h : TwoS s rs) : leastL rs = min 0 s := by
  obtain ⟨r0, hr0, hz⟩ := h.zero
  obtain ⟨r1, hr1, ho⟩ := h.other
  refine leastL_is (fun r hr => by have := h.each r hr; omega) (by omega) ?_
  rcases Int.lt_or_le s 0 with hs | hs
  · exact .inr ⟨r1, hr1, by omega⟩
  · exact .inl (by omega)
theorem two_sh_least {s : Int} {rs : _root_.List Ru} (h : TwoS s rs) : leastL (shL (-s) rs) = min 0 s - s := by
  obtain ⟨r0, hr0, hz⟩ := h.zero
  obtain ⟨r1, hr1, ho⟩ := h.other
  refine leastL_is (fun r hr => ?_) (by omega) ?_
  · obtain ⟨q, hq, rfl⟩ := _root_.List.mem_map.1 hr
    have := h.each q hq
    show min 0 s - s ≤ q.save + -s
    omega
  · rcases Int.lt_or_le s 0 with hs | hs
    · exact .inl (by omega)
    · exact .inr ⟨shR (-s) r0, _root_.List.mem_map.2 ⟨r0, hr0, rfl⟩, by show r0.save + -s = _; omega⟩
theorem two_shOk {s : Int} {rs : _root_.List Ru} (h : TwoS s rs) : ShOk (-s) rs := by
  have h1 := two_least h
  have h2 := two_sh_least h
  have h3 := h.bd
  refine ⟨fun r hr => ?_, by unfold baseL; omega⟩
  have h4 := h.sec r hr
  unfold Cv.clk shR
  dsimp only
  split <;> constructor <;> omega
end Go.Proofs.YtophiphhgcmjpaaDoor.Cv
