/-
  Plain arithmetic of events: rules, the nominal times of their events, and how far these lie from each other. No program in sight.
-/
import Derived.Test.YtdppmeeobpbfnaaDoorDayOn
namespace Go.Proofs.YtdppmeeobpbfnaaDoor.Cv
set_option linter.unusedVariables false
set_option linter.unusedSimpArgs false

/-- a rule -/
structure Ru where
  (na : ByteArray) (fr ut mo k w d sec base save : Int) (le : ByteArray)
/-- an event -/
structure Ev where
  (year rule nom : Int)
  deriving DecidableEq

/-- the last year of a rule -/
def lastY (r : Ru) : Int := if r.ut = 1048576 then 2000000000 else min r.ut 2000000000
/-- the first one -/
def firstY (r : Ru) : Int := max r.fr (-2000000000)
/-- a right time of day -/
def clk (sec base : Int) : Prop := -604799 ≤ sec ∧ sec ≤ 604799 ∧ 0 ≤ base ∧ base ≤ 2
instance (s b : Int) : Decidable (clk s b) := by unfold clk; exact inferInstance
/-- the nominal time of a rule's event in a year, with a base save -/
def nomOf (bs : Int) (r : Ru) (y : Int) : Int := 86400 * (on y r.mo r.k r.w r.d).1 + r.sec + (if r.base = 1 then bs else 0)
/-- whether there is one -/
def Has (r : Ru) (y : Int) : Prop := firstY r ≤ y ∧ y ≤ lastY r ∧ clk r.sec r.base ∧ (on y r.mo r.k r.w r.d).2 = 0
instance (r : Ru) (y : Int) : Decidable (Has r y) := by unfold Has; exact inferInstance
/-- the least save, or 0 -/
def leastL (rs : _root_.List Ru) : Int := rs.foldl (fun x r => min x r.save) 0
/-- the base save -/
def baseL (rs : _root_.List Ru) : Int := max (leastL rs) (-10800)
/-- the rule with an index -/
def ruleAt (rs : _root_.List Ru) (i : Int) : Option Ru := if 0 ≤ i then rs[i.toNat]? else none
/-- an event of some rules -/
def IsEv (rs : _root_.List Ru) (e : Ev) : Prop := ∃ r, ruleAt rs e.rule = some r ∧ Has r e.year ∧ e.nom = nomOf (baseL rs) r e.year
/-- what On answers -/
def evOn (rs : _root_.List Ru) (i y : Int) : Option Ev :=
  match ruleAt rs i with
  | none => none
  | some r => if Has r y then some ⟨y, i, nomOf (baseL rs) r y⟩ else none
theorem evOn_is {rs : _root_.List Ru} {i y : Int} {e : Ev} (h : evOn rs i y = some e) : IsEv rs e ∧ e.rule = i ∧ e.year = y := by
  unfold evOn at h
  split at h
  · cases h
  · rename_i r hr
    split at h
    · rename_i hh
      cases h
      exact ⟨⟨r, hr, hh, rfl⟩, rfl, rfl⟩
    · cases h
theorem is_evOn {rs : _root_.List Ru} {e : Ev} (h : IsEv rs e) : evOn rs e.rule e.year = some e := by
  obtain ⟨r, hr, hh, hn⟩ := h
  unfold evOn
  rw [hr]
  simp only
  rw [if_pos hh, ← hn]
theorem leastL_le0 (rs : _root_.List Ru) : leastL rs ≤ 0 := by
  have key : ∀ (l : _root_.List Ru) (x : Int), x ≤ 0 → l.foldl (fun x r => min x r.save) x ≤ 0 := by
    intro l
    induction l with
    | nil => intro x h; exact h
    | cons r l ih => intro x h; exact ih _ (by show min x r.save ≤ 0; omega)
  exact key rs 0 (Int.le_refl _)
theorem baseL_bd (rs : _root_.List Ru) : -10800 ≤ baseL rs ∧ baseL rs ≤ 0 := by
  have := leastL_le0 rs
  unfold baseL; omega

theorem bef_bd (x w : Int) (h1 : 0 ≤ w) (h2 : w ≤ 6) : x - 6 ≤ bef x w ∧ bef x w ≤ x := by unfold bef; omega
theorem beh_bd2 (x w : Int) (h1 : 0 ≤ w) (h2 : w ≤ 6) : x ≤ beh x w ∧ beh x w ≤ x + 6 := by unfold beh; omega
/-- what a right day lies near to -/
def anchor (y m k d : Int) : Int := if k = 2 then fst y + cum y m + len y m - 1 else fst y + cum y m + d - 1
theorem on_ok {y m k w d : Int} (h : (on y m k w d).2 = 0) : inr y ∧ 1 ≤ m ∧ m ≤ 12 ∧ good k w d ∧ d ≤ len y m ∧ anchor y m k d - 6 ≤ (on y m k w d).1 ∧ (on y m k w d).1 ≤ anchor y m k d + 6 := by
  by_cases h1 : inr y ∧ ok y m 1
  · by_cases h2 : good k w d
    · by_cases h3 : d ≤ len y m
      · have hm := (ok_first y m).1 h1.2
        refine ⟨h1.1, hm.1, hm.2, h2, h3, ?_⟩
        rw [on_day h1 h2 h3]
        show anchor y m k d - 6 ≤ find (num y m 1) (num y m 1 + len y m - 1) k w d ∧ find (num y m 1) (num y m 1 + len y m - 1) k w d ≤ _
        have hn : num y m 1 = fst y + cum y m := by unfold num; omega
        rw [hn]
        unfold find anchor
        rcases h2 with ⟨rfl, rfl, a, b⟩ | ⟨rfl, a, b, rfl⟩ | ⟨rfl | rfl, a, b, c, e⟩
        · simp; omega
        · have := bef_bd (fst y + cum y m + len y m - 1) w a b
          simp; omega
        · have := beh_bd2 (fst y + cum y m + d - 1) w a b
          simp; omega
        · have := bef_bd (fst y + cum y m + d - 1) w a b
          simp; omega
      · rw [on_none h1 h2 (by omega)] at h; cases h
    · rw [on_form h1 h2] at h; cases h
  · rw [on_bad h1] at h; cases h
theorem on_mk {y m k w d : Int} (h1 : inr y) (h2 : 1 ≤ m) (h3 : m ≤ 12) (h4 : good k w d) (h5 : d ≤ len y m) : (on y m k w d).2 = 0 := by
  rw [on_day ⟨h1, (ok_first y m).2 ⟨h2, h3⟩⟩ h4 h5]
theorem cum_near (y z m : Int) (h1 : 1 ≤ m) (h2 : m ≤ 12) : cum z m - 1 ≤ cum y m ∧ cum z m + len z m - 1 ≤ cum y m + len y m := by
  have hy := lp_bd y
  have hz := lp_bd z
  rcases month_cases m h1 h2 with h | h | h | h | h | h | h | h | h | h | h | h <;> subst h <;> simp [cum, len] <;> omega
theorem anchor_gap {y z m k d : Int} (h1 : 1 ≤ m) (h2 : m ≤ 12) (h : y < z) : anchor y m k d + 365 * (z - y) - 1 ≤ anchor z m k d := by
  have h4 := cum_near z y m h1 h2
  have h3 : fst y + 365 * (z - y) ≤ fst z := by unfold fst; omega
  unfold anchor
  split <;> omega
theorem anchor_year {y m k w d : Int} (h1 : 1 ≤ m) (h2 : m ≤ 12) (h3 : good k w d) (h4 : d ≤ len y m) : fst y ≤ anchor y m k d ∧ anchor y m k d ≤ fst (y + 1) - 1 := by
  have hc := cum_bd y m h1 h2
  have hl := len_in y m h1 h2
  have hs := fst_succ y
  unfold anchor good at *
  split <;> omega
/-- events of one rule lie more than 357 days a year from each other -/
theorem nom_gap {bs : Int} {r : Ru} {y z : Int} (hy : Has r y) (hz : Has r z) (h : y < z) : nomOf bs r y + 86400 * 350 * (z - y) ≤ nomOf bs r z := by
  obtain ⟨_, _, _, oy⟩ := hy
  obtain ⟨_, _, _, oz⟩ := hz
  obtain ⟨_, m1, m2, _, _, a1, a2⟩ := on_ok oy
  obtain ⟨_, _, _, _, _, b1, b2⟩ := on_ok oz
  have hg := anchor_gap (k := r.k) (d := r.d) m1 m2 h
  unfold nomOf
  omega
theorem nom_bd {bs : Int} {r : Ru} {y : Int} (hb1 : -10800 ≤ bs) (hb2 : bs ≤ 0) (hy : Has r y) : 86400 * (fst y - 14) < nomOf bs r y ∧ nomOf bs r y < 86400 * (fst (y + 1) + 13) := by
  obtain ⟨_, _, hc, oy⟩ := hy
  obtain ⟨_, m1, m2, hg, hl, a1, a2⟩ := on_ok oy
  have ha := anchor_year m1 m2 hg hl
  unfold clk at hc
  unfold nomOf
  split <;> omega
theorem Has.year {r : Ru} {y : Int} (h : Has r y) : -2000000000 ≤ y ∧ y ≤ 2000000000 := by
  obtain ⟨_, _, _, oy⟩ := h
  exact (on_ok oy).1
theorem lp_near (z : Int) : ∃ j : Int, 0 ≤ j ∧ j < 8 ∧ lp (z + j) = 1 := by
  have key : ∀ x : Int, x % 4 = 0 → x % 100 ≠ 0 → lp x = 1 := fun x h1 h2 => by unfold lp; rw [if_pos ⟨h1, .inl h2⟩]
  by_cases h : (z + (3 - (z + 3) % 4)) % 100 = 0
  · exact ⟨3 - (z + 3) % 4 + 4, by omega, by omega, key _ (by omega) (by omega)⟩
  · exact ⟨3 - (z + 3) % 4, by omega, by omega, key _ (by omega) (by omega)⟩
/-- a day that there is once is there in one of eight years -/
theorem len_near {y m d : Int} (h : d ≤ len y m) (z : Int) : ∃ j : Int, 0 ≤ j ∧ j < 8 ∧ d ≤ len (z + j) m := by
  obtain ⟨j, h1, h2, h3⟩ := lp_near z
  refine ⟨j, h1, h2, ?_⟩
  have hy := lp_bd y
  have : len y m ≤ len (z + j) m := by
    unfold len
    split
    · omega
    · split
      · omega
      · exact Int.le_refl _
  omega
/-- a rule with an event has one in each eight of its years -/
theorem Has.near {r : Ru} {y : Int} (h : Has r y) (z : Int) (h1 : firstY r ≤ z) (h2 : z + 7 ≤ lastY r) : ∃ j : Int, 0 ≤ j ∧ j < 8 ∧ Has r (z + j) := by
  obtain ⟨_, _, hc, oy⟩ := h
  obtain ⟨_, m1, m2, hg, hl, _, _⟩ := on_ok oy
  obtain ⟨j, j1, j2, j3⟩ := len_near hl z
  refine ⟨j, j1, j2, by omega, by omega, hc, on_mk ?_ m1 m2 hg j3⟩
  have f1 : -2000000000 ≤ firstY r := by unfold firstY; omega
  have f2 : lastY r ≤ 2000000000 := by unfold lastY; split <;> omega
  unfold inr
  omega

/-! which events lie before or behind a nominal time: twenty years are enough -/
/-- the year of a nominal time -/
structure YearOf (N q : Int) : Prop where
  lo : -2000000000 ≤ q
  hi : q ≤ 2000000000
  below : q < 2000000000 → N < 86400 * fst (q + 1)
  above : -2000000000 < q → 86400 * fst q ≤ N
theorem YearOf.mk' {N y m d : Int} (h : IsDate (N / 86400) y m d) (q : Int) (hq : q = if y < -2000000000 then -2000000000 else if 2000000000 < y then 2000000000 else y) : YearOf N q := by
  have hb := h.bd
  have e1 : ∀ a b : Int, a ≤ b → fst a ≤ fst b := fst_mono
  subst hq
  split
  · rename_i hy
    refine ⟨by omega, by omega, fun _ => ?_, fun h => by omega⟩
    have := e1 (y + 1) (-2000000000 + 1) (by omega)
    omega
  · split
    · rename_i _ hy
      refine ⟨by omega, by omega, fun h => by omega, fun _ => ?_⟩
      have := e1 2000000000 y (by omega)
      omega
    · exact ⟨by omega, by omega, fun _ => by omega, fun _ => by omega⟩
theorem fst_step (y : Int) : fst y + 365 ≤ fst (y + 1) := by have := fst_succ y; have := lp_bd y; omega
theorem fst_far (y z : Int) (h : y ≤ z) : fst y + 365 * (z - y) ≤ fst z := by unfold fst; omega
/-- an event three years behind a time's year is not before the time -/
theorem far_behind {bs N q : Int} {r : Ru} {y : Int} (hb1 : -10800 ≤ bs) (hb2 : bs ≤ 0) (hN : YearOf N q) (hy : Has r y) (h : q + 2 ≤ y) : N < nomOf bs r y := by
  have h1 := (nom_bd hb1 hb2 hy).1
  have h2 := hy.year
  have h3 := hN.below (by omega)
  have h4 := fst_far (q + 1) y (by omega)
  omega
theorem far_before {bs N q : Int} {r : Ru} {y : Int} (hb1 : -10800 ≤ bs) (hb2 : bs ≤ 0) (hN : YearOf N q) (hy : Has r y) (h : y ≤ q - 2) : nomOf bs r y < N := by
  have h1 := (nom_bd hb1 hb2 hy).2
  have h2 := hy.year
  have h3 := hN.above (by omega)
  have h4 := fst_far (y + 1) q (by omega)
  omega
/-- Before, at one rule: none in twenty years, none at all -/
theorem bef_none {bs N q : Int} {r : Ru} (hb1 : -10800 ≤ bs) (hb2 : bs ≤ 0) (hN : YearOf N q)
    (h : ∀ k : Int, 0 ≤ k → k < 20 → ¬ (Has r (min (lastY r) (q + 2) - k) ∧ nomOf bs r (min (lastY r) (q + 2) - k) < N)) : ∀ z, ¬ (Has r z ∧ nomOf bs r z < N) := by
  rintro z ⟨hz, hn⟩
  have hz1 := hz.1
  have hz2 := hz.2.1
  by_cases h1 : q + 2 ≤ z
  · have := far_behind hb1 hb2 hN hz h1
    omega
  · by_cases h2 : min (lastY r) (q + 2) - z < 20
    · exact h (min (lastY r) (q + 2) - z) (by omega) h2 (by
        rw [show min (lastY r) (q + 2) - (min (lastY r) (q + 2) - z) = z by omega]
        exact ⟨hz, hn⟩)
    · obtain ⟨j, j1, j2, j3⟩ := hz.near (min (lastY r) (q + 2) - 12) (by omega) (by omega)
      have h3 := far_before hb1 hb2 hN j3 (by omega)
      exact h (12 - j) (by omega) (by omega) (by
        rw [show min (lastY r) (q + 2) - (12 - j) = min (lastY r) (q + 2) - 12 + j by omega]
        exact ⟨j3, h3⟩)
/-- the first one that is found is the last one -/
theorem bef_some {bs N q k : Int} {r : Ru} (hb1 : -10800 ≤ bs) (hb2 : bs ≤ 0) (hN : YearOf N q) (hk : Has r (min (lastY r) (q + 2) - k) ∧ nomOf bs r (min (lastY r) (q + 2) - k) < N)
    (h : ∀ j : Int, 0 ≤ j → j < k → ¬ (Has r (min (lastY r) (q + 2) - j) ∧ nomOf bs r (min (lastY r) (q + 2) - j) < N)) : ∀ z, Has r z → nomOf bs r z < N → z ≤ min (lastY r) (q + 2) - k := by
  intro z hz hn
  have hz2 := hz.2.1
  by_cases h1 : q + 2 ≤ z
  · have := far_behind hb1 hb2 hN hz h1
    omega
  · by_cases h2 : z ≤ min (lastY r) (q + 2) - k
    · exact h2
    · exact (h (min (lastY r) (q + 2) - z) (by omega) (by omega) (by
        rw [show min (lastY r) (q + 2) - (min (lastY r) (q + 2) - z) = z by omega]
        exact ⟨hz, hn⟩)).elim
/-- After, at one rule -/
theorem aft_none {bs N q : Int} {r : Ru} (hb1 : -10800 ≤ bs) (hb2 : bs ≤ 0) (hN : YearOf N q)
    (h : ∀ k : Int, 0 ≤ k → k < 20 → ¬ (Has r (max (firstY r) (q - 2) + k) ∧ N < nomOf bs r (max (firstY r) (q - 2) + k))) : ∀ z, ¬ (Has r z ∧ N < nomOf bs r z) := by
  rintro z ⟨hz, hn⟩
  have hz1 := hz.1
  have hz2 := hz.2.1
  by_cases h1 : z ≤ q - 2
  · have := far_before hb1 hb2 hN hz h1
    omega
  · by_cases h2 : z - max (firstY r) (q - 2) < 20
    · exact h (z - max (firstY r) (q - 2)) (by omega) h2 (by
        rw [show max (firstY r) (q - 2) + (z - max (firstY r) (q - 2)) = z by omega]
        exact ⟨hz, hn⟩)
    · obtain ⟨j, j1, j2, j3⟩ := hz.near (max (firstY r) (q - 2) + 5) (by omega) (by omega)
      have h3 := far_behind hb1 hb2 hN j3 (by omega)
      exact h (5 + j) (by omega) (by omega) (by
        rw [show max (firstY r) (q - 2) + (5 + j) = max (firstY r) (q - 2) + 5 + j by omega]
        exact ⟨j3, h3⟩)
theorem aft_some {bs N q k : Int} {r : Ru} (hb1 : -10800 ≤ bs) (hb2 : bs ≤ 0) (hN : YearOf N q) (hk : Has r (max (firstY r) (q - 2) + k) ∧ N < nomOf bs r (max (firstY r) (q - 2) + k))
    (h : ∀ j : Int, 0 ≤ j → j < k → ¬ (Has r (max (firstY r) (q - 2) + j) ∧ N < nomOf bs r (max (firstY r) (q - 2) + j))) : ∀ z, Has r z → N < nomOf bs r z → max (firstY r) (q - 2) + k ≤ z := by
  intro z hz hn
  have hz1 := hz.1
  by_cases h1 : z ≤ q - 2
  · have := far_before hb1 hb2 hN hz h1
    omega
  · by_cases h2 : max (firstY r) (q - 2) + k ≤ z
    · exact h2
    · exact (h (z - max (firstY r) (q - 2)) (by omega) (by omega) (by
        rw [show max (firstY r) (q - 2) + (z - max (firstY r) (q - 2)) = z by omega]
        exact ⟨hz, hn⟩)).elim

/-! the order of events -/
def Ev.lt (a b : Ev) : Prop := a.nom < b.nom ∨ (a.nom = b.nom ∧ (a.rule < b.rule ∨ (a.rule = b.rule ∧ a.year < b.year)))
instance (a b : Ev) : Decidable (a.lt b) := by unfold Ev.lt; exact inferInstance
theorem Ev.lt_trans {a b c : Ev} (h : a.lt b) (k : b.lt c) : a.lt c := by unfold Ev.lt at *; omega
theorem Ev.lt_irrefl (a : Ev) : ¬ a.lt a := by unfold Ev.lt; omega
theorem Ev.lt_total (a b : Ev) : a.lt b ∨ a = b ∨ b.lt a := by
  obtain ⟨x, y, z⟩ := a
  obtain ⟨p, q, r⟩ := b
  unfold Ev.lt
  simp only [Ev.mk.injEq]
  omega
/-- the last event before a nominal time, if there is one -/
def BefIs (rs : _root_.List Ru) (N : Int) : Option Ev → Prop
  | none => ∀ e, IsEv rs e → ¬ e.nom < N
  | some x => IsEv rs x ∧ x.nom < N ∧ ∀ e, IsEv rs e → e.nom < N → ¬ x.lt e
/-- the first one behind it -/
def AftIs (rs : _root_.List Ru) (N : Int) : Option Ev → Prop
  | none => ∀ e, IsEv rs e → ¬ N < e.nom
  | some x => IsEv rs x ∧ N < x.nom ∧ ∀ e, IsEv rs e → N < e.nom → ¬ e.lt x
theorem BefIs.uniq {rs : _root_.List Ru} {N : Int} {a b : Option Ev} (h : BefIs rs N a) (k : BefIs rs N b) : a = b := by
  cases a with
  | none =>
    cases b with
    | none => rfl
    | some y => exact (h y k.1 k.2.1).elim
  | some x =>
    cases b with
    | none => exact (k x h.1 h.2.1).elim
    | some y =>
      have h1 := h.2.2 y k.1 k.2.1
      have h2 := k.2.2 x h.1 h.2.1
      rcases Ev.lt_total x y with h3 | h3 | h3
      · exact (h1 h3).elim
      · rw [h3]
      · exact (h2 h3).elim
theorem AftIs.uniq {rs : _root_.List Ru} {N : Int} {a b : Option Ev} (h : AftIs rs N a) (k : AftIs rs N b) : a = b := by
  cases a with
  | none =>
    cases b with
    | none => rfl
    | some y => exact (h y k.1 k.2.1).elim
  | some x =>
    cases b with
    | none => exact (k x h.1 h.2.1).elim
    | some y =>
      have h1 := h.2.2 y k.1 k.2.1
      have h2 := k.2.2 x h.1 h.2.1
      rcases Ev.lt_total x y with h3 | h3 | h3
      · exact (h2 h3).elim
      · rw [h3]
      · exact (h1 h3).elim
/-- the events of some years, in order -/
def InIs (rs : _root_.List Ru) (a b : Int) (l : _root_.List Ev) : Prop := l.Pairwise Ev.lt ∧ ∀ e, e ∈ l ↔ (IsEv rs e ∧ a ≤ e.year ∧ e.year ≤ b)
theorem sorted_uniq : ∀ {l k : _root_.List Ev}, l.Pairwise Ev.lt → k.Pairwise Ev.lt → (∀ e, e ∈ l ↔ e ∈ k) → l = k := by
  intro l
  induction l with
  | nil =>
    intro k _ _ h
    cases k with
    | nil => rfl
    | cons y k => exact absurd ((h y).2 (List.mem_cons_self ..)) (by simp)
  | cons x l ih =>
    intro k hl hk h
    cases k with
    | nil => exact absurd ((h x).1 (List.mem_cons_self ..)) (by simp)
    | cons y k =>
      obtain ⟨hx, hl'⟩ := List.pairwise_cons.1 hl
      obtain ⟨hy, hk'⟩ := List.pairwise_cons.1 hk
      have e : x = y := by
        rcases List.mem_cons.1 ((h x).1 (List.mem_cons_self ..)) with e | e
        · exact e
        · rcases List.mem_cons.1 ((h y).2 (List.mem_cons_self ..)) with e' | e'
          · exact e'.symm
          · exact (Ev.lt_irrefl x (Ev.lt_trans (hx y e') (hy x e))).elim
      subst e
      rw [ih hl' hk' fun z => ?_]
      constructor
      · intro hz
        rcases List.mem_cons.1 ((h z).1 (List.mem_cons_of_mem _ hz)) with e | e
        · subst e; exact (Ev.lt_irrefl z (hx z hz)).elim
        · exact e
      · intro hz
        rcases List.mem_cons.1 ((h z).2 (List.mem_cons_of_mem _ hz)) with e | e
        · subst e; exact (Ev.lt_irrefl z (hy z hz)).elim
        · exact e
theorem InIs.uniq {rs : _root_.List Ru} {a b : Int} {l k : _root_.List Ev} (h : InIs rs a b l) (h' : InIs rs a b k) : l = k :=
  sorted_uniq h.1 h'.1 fun e => (h.2 e).trans (h'.2 e).symm
end Go.Proofs.YtdppmeeobpbfnaaDoor.Cv
