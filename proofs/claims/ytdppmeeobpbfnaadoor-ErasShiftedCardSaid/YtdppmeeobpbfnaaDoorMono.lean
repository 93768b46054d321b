/-
  A region that draws its order: operations that only read or lay new blocks are walked once each, whatever the order. No program in sight.
-/
import Derived.OrdersHeld
import Derived.Below
namespace Go.Proofs.YtdppmeeobpbfnaaDoor.Mono
open Go Go.RowKit
set_option linter.unusedVariables false
set_option linter.unusedSimpArgs false

/-- operation j comes up ahead of i, by the edges -/
def anc (ops : Array Oper) : Nat → Nat → Nat → Bool
  | 0, _, _ => false
  | n + 1, i, j => match ops[i]? with
    | none => false
    | some o => o.after.any fun e => Region.binds .any e && (e.on == j || anc ops n e.on j)

/-- what is listed is closed downwards -/
def Closed (ops : Array Oper) (listed : Array Bool) : Prop := ∀ (i : Nat) (o : Oper), ops[i]? = some o → listed.getD i true = true → ∀ e ∈ o.after, Region.binds .any e = true → listed.getD e.on false = true

theorem anc_listed {ops : Array Oper} {listed : Array Bool} (hs : listed.size = ops.size) (hc : Closed ops listed) : ∀ (n i j : Nat) (o : Oper), ops[i]? = some o → (∀ e ∈ o.after, Region.binds .any e = true → listed.getD e.on false = true) → anc ops n i j = true → listed.getD j false = true := by
  intro n
  induction n with
  | zero => intro i j o _ _ h; simp [anc] at h
  | succ n ih =>
    intro i j o ho hr h
    unfold anc at h
    rw [ho] at h
    simp only at h
    obtain ⟨e, he, h2⟩ := Array.any_eq_true'.1 h
    simp only [Bool.and_eq_true, Bool.or_eq_true, beq_iff_eq] at h2
    obtain ⟨hb, h3⟩ := h2
    have hl := hr e he hb
    rcases h3 with h3 | h3
    · rw [← h3]; exact hl
    · have hlt : e.on < listed.size := by
        rcases Nat.lt_or_ge e.on listed.size with h' | h'
        · exact h'
        · simp [Array.getElem?_eq_none h'] at hl
      have hex : ∃ o', ops[e.on]? = some o' := by
        rw [Array.getElem?_eq_getElem (by omega)]; exact ⟨_, rfl⟩
      obtain ⟨o', ho'⟩ := hex
      exact ih e.on j o' ho' (hc e.on o' ho' (by simp [hlt] at hl ⊢; exact hl)) h3

/-- the frame behind some of the operations -/
structure Fr (ops : Array Oper) (a0 : Act) (V : Nat → Value) (listed : Array Bool) (a : Act) : Prop where
  defers : a.defers = a0.defers
  size : a.tmps.size = a0.tmps.size
  put : ∀ (i : Nat) (o : Oper) (d : Tmp), ops[i]? = some o → o.dst = some d → listed.getD i true = true → a.tmps.getD d undef = V i
  rest : ∀ t : Nat, (∀ (i : Nat) (o : Oper), ops[i]? = some o → listed.getD i true = true → o.dst ≠ some t) → a.tmps.getD t undef = a0.tmps.getD t undef

section
variable {P : Program} {ops : Array Oper} {Q : Exit → Act → World → Prop}

theorem getD_set {t : Array Value} {d x : Nat} {v : Value} (h : d < t.size) : (t.setIfInBounds d v).getD x undef = if d = x then v else t.getD x undef := by
  by_cases e : d = x
  · subst e; simp [h]
  · simp [Array.getElem?_setIfInBounds_ne e, e]

theorem Fr.step {a0 a : Act} {V : Nat → Value} {listed : Array Bool} {i : Nat} {o : Oper} (h : Fr ops a0 V listed a) (ho : ops[i]? = some o) (hi : listed.getD i true = false)
    (hd : ∀ (i j : Nat) (oi oj : Oper) (d : Tmp), ops[i]? = some oi → ops[j]? = some oj → oi.dst = some d → oj.dst = some d → i = j) (hb : ∀ (i : Nat) (o : Oper) (d : Tmp), ops[i]? = some o → o.dst = some d → d < a0.tmps.size) :
    Fr ops a0 V (listed.setIfInBounds i true) (a.put o.dst (V i)) := by
  have hilt : i < listed.size := by
    rcases Nat.lt_or_ge i listed.size with h' | h'
    · exact h'
    · simp [Array.getElem?_eq_none h'] at hi
  cases hdst : o.dst with
  | none =>
    refine ⟨h.defers, h.size, fun j oj d hj hjd hl => ?_, fun t ht => ?_⟩
    · by_cases e : i = j
      · subst e; rw [ho] at hj; obtain rfl := Option.some.inj hj; rw [hdst] at hjd; cases hjd
      · rw [getD_set_ne true e] at hl
        exact h.put j oj d hj hjd hl
    · refine h.rest t fun j oj hj hl => ht j oj hj ?_
      by_cases e : i = j
      · subst e; simp [hilt]
      · rw [getD_set_ne true e]; exact hl
  | some d0 =>
    have hlt : d0 < a.tmps.size := by rw [h.size]; exact hb i o d0 ho hdst
    refine ⟨h.defers, by simp [Act.put, h.size], fun j oj d hj hjd hl => ?_, fun t ht => ?_⟩
    · show (a.tmps.setIfInBounds d0 (V i)).getD d undef = V j
      rw [getD_set hlt]
      by_cases e : i = j
      · subst e; rw [ho] at hj; obtain rfl := Option.some.inj hj; rw [hdst] at hjd; cases hjd; rw [if_pos rfl]
      · rw [getD_set_ne true e] at hl
        rw [if_neg (fun e2 => e (hd i j o oj d0 ho hj hdst (by rw [hjd, e2])))]
        exact h.put j oj d hj hjd hl
    · show (a.tmps.setIfInBounds d0 (V i)).getD t undef = _
      have hne : d0 ≠ t := fun e => ht i o ho (by simp [hilt]) (by rw [hdst, e])
      rw [getD_set hlt, if_neg hne]
      refine h.rest t fun j oj hj hl => ht j oj hj ?_
      by_cases e : i = j
      · subst e; simp [hilt]
      · rw [getD_set_ne true e]; exact hl

/-- where an operation looks, its values are known -/
theorem Fr.cong {a0 a : Act} {V V' : Nat → Value} {listed : Array Bool} (h : Fr ops a0 V listed a) (hv : ∀ i, listed.getD i true = true → i < ops.size → V i = V' i) : Fr ops a0 V' listed a :=
  ⟨h.defers, h.size, fun i o d ho hd hl => by rw [← hv i hl (Array.getElem?_eq_some_iff.1 ho).1]; exact h.put i o d ho hd hl, h.rest⟩

/-- what holds of each order's start -/
structure Inv (ops : Array Oper) (a0 : Act) (w0 : World) (V : (Nat → Nat) → Nat → Value) (Ψ : Nat → Nat → World → Prop) (F : Nat → Nat) (listed : Array Bool) (a : Act) (w : World) : Prop where
  ext : Below w0.heap.size w0 w
  fr : Fr ops a0 (V F) listed a
  facts : ∀ i, i < ops.size → listed.getD i true = true → Ψ i (F i) w

theorem count_set {l : Array Bool} {i : Nat} (h : l.getD i true = false) : (l.setIfInBounds i true).toList.count false + 1 = l.toList.count false := by
  have hi : i < l.size := by
    rcases Nat.lt_or_ge i l.size with h' | h'
    · exact h'
    · simp [Array.getElem?_eq_none h'] at h
  have hv : l.toList[i]'(by simpa using hi) = false := by simpa [hi] using h
  have h1 : 0 < l.toList.count false := List.count_pos_iff.2 (hv ▸ List.getElem_mem _)
  have h2 := List.count_set (b := false) (a := true) (l := l.toList) (i := i) (by simpa using hi)
  rw [Array.toList_setIfInBounds, h2, hv]
  have e1 : ((false == false : Bool) = true) := rfl
  have e2 : ¬ ((true == false : Bool) = true) := by decide
  rw [if_pos e1, if_neg e2]
  omega

/-- the operations other than the last ones: each walked once -/
theorem wpAny_mono (a0 : Act) (w0 : World) (V : (Nat → Nat) → Nat → Value) (Ψ : Nat → Nat → World → Prop) (tail : Nat → Bool) (dep : Nat) (NT : Array Bool)
    (hd : ∀ (i j : Nat) (oi oj : Oper) (d : Tmp), ops[i]? = some oi → ops[j]? = some oj → oi.dst = some d → oj.dst = some d → i = j)
    (hb : ∀ (i : Nat) (o : Oper) (d : Tmp), ops[i]? = some o → o.dst = some d → d < a0.tmps.size)
    (hord : ∀ (i : Nat) (o : Oper), ops[i]? = some o → ∀ e ∈ o.after, Region.binds .any e = true → e.on < i)
    (hNT : NT.size = ops.size ∧ ∀ i, i < ops.size → NT.getD i true = !tail i)
    (htail : ∀ t j, t < ops.size → j < ops.size → tail t = true → tail j = false → anc ops dep t j = true)
    (hmono : ∀ i b w w', Ψ i b w → Below w.heap.size w w' → Ψ i b w')
    (hloc : ∀ (F F' : Nat → Nat) (i : Nat), i < ops.size → (∀ j, j < ops.size → (j = i ∨ anc ops dep i j = true) → F j = F' j) → V F i = V F' i)
    (hstep : ∀ (i : Nat) (o : Oper) (F : Nat → Nat) (a : Act) (w : World), ops[i]? = some o → tail i = false → Below w0.heap.size w0 w → a.defers = a0.defers →
      (∀ j, j < ops.size → anc ops dep i j = true → Ψ j (F j) w ∧ ∀ oj d, ops[j]? = some oj → oj.dst = some d → a.tmps.getD d undef = V F j) →
      (∀ t : Nat, (∀ (j : Nat) (oj : Oper), ops[j]? = some oj → oj.dst ≠ some t) → a.tmps.getD t undef = a0.tmps.getD t undef) →
      wpOp P ops Q i (fun a' w' => ∃ b : Nat, a' = a.put o.dst (V (fun j => if j = i then b else F j) i) ∧ Below w.heap.size w w' ∧ Ψ i b w') a w)
    (hend : ∀ (F : Nat → Nat) (a : Act) (w : World) (fuel : Nat), (NT.toList.count false ≤ fuel) → Inv ops a0 w0 V Ψ F NT a w → wpAny P .any ops Q fuel NT a w) :
    ∀ (fuel : Nat) (F : Nat → Nat) (listed : Array Bool) (a : Act) (w : World), listed.size = ops.size → Closed ops listed → (∀ i, i < ops.size → tail i = true → listed.getD i true = false) → listed.toList.count false ≤ fuel →
      Inv ops a0 w0 V Ψ F listed a w → wpAny P .any ops Q fuel listed a w := by
  intro fuel
  -- once all but the last ones have come up, the end is given
  have fin : ∀ (fuel : Nat) (F : Nat → Nat) (listed : Array Bool) (a : Act) (w : World), listed.size = ops.size → (∀ i, i < ops.size → tail i = true → listed.getD i true = false) → listed.toList.count false ≤ fuel →
      Inv ops a0 w0 V Ψ F listed a w → (∀ i, i < ops.size → tail i = false → listed.getD i true = true) → wpAny P .any ops Q fuel listed a w := by
    intro fuel F listed a w hs ht hc hI hall
    have e : listed = NT := by
      apply Array.ext (by rw [hs, hNT.1])
      intro i h1 h2
      have h3 := hNT.2 i (by omega)
      have h4 : listed.getD i true = !tail i := by
        cases h5 : tail i
        · exact hall i (by omega) h5
        · exact ht i (by omega) h5
      simp [h1, h2] at h3 h4
      rw [h3, h4]
    subst e
    exact hend F a w fuel hc hI
  induction fuel with
  | zero =>
    intro F listed a w hs hcl ht hc hI
    refine fin 0 F listed a w hs ht hc hI fun i hi _ => ?_
    have h0 : listed.toList.count false = 0 := by omega
    rw [List.count_eq_zero] at h0
    have hlt : i < listed.size := by omega
    simp only [Array.getD_eq_getD_getElem?, Array.getElem?_eq_getElem hlt, Option.getD_some]
    cases hv : listed[i]
    · exact (h0 (hv ▸ by simp)).elim
    · rfl
  | succ fuel ih =>
    intro F listed a w hs hcl ht hc hI
    by_cases hall : ∀ i, i < ops.size → tail i = false → listed.getD i true = true
    · exact fin _ F listed a w hs ht hc hI hall
    · refine ⟨fun hr => ?_, fun i hi => ?_⟩
      · -- something is left, and the least of what is left may come up
        exfalso
        apply hall
        have key : ∀ n i, i < n → i < ops.size → listed.getD i true = true := by
          intro n
          induction n with
          | zero => intro i h; omega
          | succ n ih2 =>
            intro i hin hi
            cases hv : listed.getD i true
            · exfalso
              have hex : ∃ o, ops[i]? = some o := by rw [Array.getElem?_eq_getElem hi]; exact ⟨_, rfl⟩
              obtain ⟨o, ho⟩ := hex
              have hm : i ∈ Region.ready .any ops listed := mem_ready.2 ⟨hv, o, ho, fun e he hbind => by
                have hlt := hord i o ho e he hbind
                have h7 := ih2 e.on (by omega) (by omega)
                have hl : e.on < listed.size := by omega
                simpa [hl] using h7⟩
              rw [hr] at hm
              cases hm
            · rfl
        exact fun i hi _ => key (i + 1) i (by omega) hi
      · obtain ⟨hun, o, ho, hall2⟩ := mem_ready.1 hi
        have hilt : i < ops.size := (Array.getElem?_eq_some_iff.1 ho).1
        have hanc : ∀ j, anc ops dep i j = true → listed.getD j false = true := fun j hj => anc_listed hs hcl dep i j o ho hall2 hj
        have hti : tail i = false := by
          cases h5 : tail i
          · rfl
          · exfalso
            apply hall
            intro j hj htj
            have h6 := hanc j (htail i j hilt hj h5 htj)
            have hlt : j < listed.size := by omega
            simpa [hlt] using h6
        have hst := hstep i o F a w ho hti hI.ext hI.fr.defers (fun j hj hjanc => ?_) (fun t htt => hI.fr.rest t fun j oj hj _ => htt j oj hj)
        · refine wpOp_mono (fun a' w' hk => ?_) hst
          obtain ⟨b, rfl, hbel, hψ⟩ := hk
          refine ih (fun j => if j = i then b else F j) (listed.setIfInBounds i true) _ w' (by simpa using hs) ?_ ?_ ?_ ?_
          · intro j oj hj hl e he hbind
            by_cases e1 : i = j
            · subst e1
              rw [ho] at hj; obtain rfl := Option.some.inj hj
              exact getD_set_true (hall2 e he hbind)
            · rw [getD_set_ne true e1] at hl
              exact getD_set_true (hcl j oj hj hl e he hbind)
          · intro j hj htj
            have : i ≠ j := fun e => by subst e; rw [hti] at htj; cases htj
            rw [getD_set_ne true this]; exact ht j hj htj
          · have := count_set hun; omega
          · have hVeq : ∀ j, listed.getD j true = true → j < ops.size → V F j = V (fun j => if j = i then b else F j) j := by
              intro j hl hj
              refine hloc _ _ j hj fun k hk hkj => ?_
              have hne : k ≠ i := by
                intro e
                subst e
                rcases hkj with e2 | e2
                · subst e2; rw [hl] at hun; cases hun
                · have hex : ∃ oj, ops[j]? = some oj := by rw [Array.getElem?_eq_getElem hj]; exact ⟨_, rfl⟩
                  obtain ⟨oj, hoj⟩ := hex
                  have h7 := anc_listed hs hcl dep j k oj hoj (hcl j oj hoj hl) e2
                  have hlt : k < listed.size := by omega
                  simp [hlt] at h7 hun
                  rw [h7] at hun; cases hun
              simp [hne]
            refine ⟨hI.ext.trans (hbel.mono hI.ext.size), (hI.fr.cong hVeq).step ho hun hd hb, fun j hj hl => ?_⟩
            by_cases e1 : j = i
            · subst e1; simp; exact hψ
            · rw [getD_set_ne true (Ne.symm e1)] at hl
              simp only [e1, if_false]
              exact hmono _ _ _ _ (hI.facts j hj hl) hbel
        · have hl := hanc j hjanc
          have hlt : j < listed.size := by omega
          have hl' : listed.getD j true = true := by simpa [hlt] using hl
          exact ⟨hI.facts j hj hl', fun oj d hoj hdj => hI.fr.put j oj d hoj hdj hl'⟩

def allOps (ops : Array Oper) (p : Nat → Oper → Bool) : Bool := (_root_.List.range ops.size).all fun i => match ops[i]? with | some o => p i o | none => true
theorem allOps_spec {p : Nat → Oper → Bool} (h : allOps ops p = true) (i : Nat) (o : Oper) (ho : ops[i]? = some o) : p i o = true := by
  have hi : i < ops.size := (Array.getElem?_eq_some_iff.1 ho).1
  have := List.all_eq_true.1 h i (List.mem_range.2 hi)
  rw [ho] at this; exact this
/-- what a region must be: the last operation is behind all others and has no slot -/
def chkAll (ops : Array Oper) (n dep last : Nat) : Bool :=
  allOps ops (fun i oi => (match oi.dst with | some d => decide (d < n) | none => true) && oi.after.all (fun e => !Region.binds .any e || decide (e.on < i)) && allOps ops (fun j oj => match oi.dst, oj.dst with | some d, some e => d != e || i == j | _, _ => true)) && ops.size == last + 1 && (_root_.List.range last).all (fun j => anc ops dep last j) && (match ops[last]? with | some o => o.dst.isNone | none => false)
def slotOf (ops : Array Oper) (V : Nat → Value) (a0 : Act) (t : Nat) : Value :=
  match (_root_.List.range ops.size).find? (fun i => match ops[i]? with | some o => o.dst == some t | none => false) with
  | some i => V i
  | none => a0.tmps.getD t undef
def frameOf (ops : Array Oper) (V : Nat → Value) (a0 : Act) : Act := ⟨((_root_.List.range a0.tmps.size).map (slotOf ops V a0)).toArray, a0.defers⟩

theorem Fr.frame {a0 a : Act} {V : Nat → Value} {listed : Array Bool} (h : Fr ops a0 V listed a) (hl : ∀ i o d, ops[i]? = some o → o.dst = some d → listed.getD i true = true) : a = frameOf ops V a0 := by
  obtain ⟨ts, ds⟩ := a
  obtain ⟨h1, h2, h3, h4⟩ := h
  simp only at h1 h2 h3 h4
  unfold frameOf
  rw [h1]
  congr 1
  apply Array.ext (by simp [h2])
  intro t ht1 ht2
  have e1 : ts[t] = ts.getD t undef := by simp [ht1]
  rw [e1]
  simp only [List.getElem_toArray, List.getElem_map, List.getElem_range]
  unfold slotOf
  split
  · rename_i i hi
    have hp := List.find?_some hi
    split at hp
    · rename_i o ho
      simp only [beq_iff_eq] at hp
      exact h3 i o t ho hp (hl i o t ho hp)
    · cases hp
  · rename_i hn
    rw [List.find?_eq_none] at hn
    refine h4 t fun i o ho hlo hd => ?_
    have hi : i < ops.size := (Array.getElem?_eq_some_iff.1 ho).1
    have := hn i (List.mem_range.2 hi)
    rw [ho] at this
    simp [hd] at this

/-- a region whose last operation is behind all others, each of which only reads, or lays new blocks -/
theorem wp_region_mono {id : Nat} {a0 : Act} {w0 : World} (hm : P.follows .mixedOrders = true) (dep last : Nat) (hc : chkAll ops a0.tmps.size dep last = true)
    (V : (Nat → Nat) → Nat → Value) (Ψ : Nat → Nat → World → Prop)
    (hmono : ∀ i b w w', Ψ i b w → Below w.heap.size w w' → Ψ i b w')
    (hloc : ∀ (F F' : Nat → Nat) (i : Nat), i < last → (∀ j, j < last → (j = i ∨ anc ops dep i j = true) → F j = F' j) → V F i = V F' i)
    (hstep : ∀ (i : Nat) (o : Oper) (F : Nat → Nat) (a : Act) (w : World), ops[i]? = some o → i < last → Below w0.heap.size w0 w → a.defers = a0.defers →
      (∀ j, j < last → anc ops dep i j = true → Ψ j (F j) w ∧ ∀ oj d, ops[j]? = some oj → oj.dst = some d → a.tmps.getD d undef = V F j) →
      (∀ t : Nat, allOps ops (fun _ oj => !(oj.dst == some t)) = true → a.tmps.getD t undef = a0.tmps.getD t undef) →
      wpOp P ops Q i (fun a' w' => ∃ b : Nat, a' = a.put o.dst (V (fun j => if j = i then b else F j) i) ∧ Below w.heap.size w w' ∧ Ψ i b w') a w)
    (fr : (Nat → Nat) → Act) (hfr : ∀ F, frameOf ops (V F) a0 = fr F)
    (hend : ∀ (F : Nat → Nat) (w : World), Below w0.heap.size w0 w → (∀ i, i < last → Ψ i (F i) w) → wpOp P ops Q last (fun a' w' => Q .normal a' w') (fr F) w) :
    (Code.region id ops true).wp P Q a0 w0 := by
  unfold chkAll at hc
  simp only [Bool.and_eq_true, beq_iff_eq] at hc
  obtain ⟨⟨⟨hc1, hsz⟩, hanc⟩, hlast⟩ := hc
  have hlo : ∃ o, ops[last]? = some o ∧ o.dst = none := by
    cases h : ops[last]? with
    | none => rw [h] at hlast; cases hlast
    | some o => rw [h] at hlast; exact ⟨o, rfl, by simpa using hlast⟩
  obtain ⟨ol, hol, hold⟩ := hlo
  have hall : ∀ j, j < last → anc ops dep last j = true := fun j hj => List.all_eq_true.1 hanc j (List.mem_range.2 hj)
  have hsp := allOps_spec hc1
  refine wp_region_any hm ?_
  have hwp : ∀ (F : Nat → Nat) (i : Nat), i < last → (if i < last then V F i else undef) = V F i := fun F i hi => if_pos hi
  have hNTf : ∀ i, ((Array.replicate ops.size true).setIfInBounds last false).getD i true = false → i = last := by
    intro i h
    by_cases e : last = i
    · exact e.symm
    · exfalso
      rw [Array.getD_eq_getD_getElem?, Array.getElem?_setIfInBounds_ne e, Array.getElem?_replicate] at h
      split at h <;> simp at h
  have hNTt : ∀ i, i < last → ((Array.replicate ops.size true).setIfInBounds last false).getD i true = true := by
    intro i h
    cases h2 : ((Array.replicate ops.size true).setIfInBounds last false).getD i true
    · have := hNTf i h2; omega
    · rfl
  have hNTl : ((Array.replicate ops.size true).setIfInBounds last false).getD last true = false := by
    simp [hsz]
  refine wpAny_mono (ops := ops) (Q := Q) a0 w0 (fun F i => if i < last then V F i else undef) (fun i b w => if i < last then Ψ i b w else True) (fun i => i == last) dep ((Array.replicate ops.size true).setIfInBounds last false)
    ?_ ?_ ?_ ?_ ?_ ?_ ?_ ?_ ?_ ops.size (fun _ => 0) (Array.replicate ops.size false) a0 _ (by simp) ?_ ?_ ?_ ?_
  · intro i j oi oj d hi hj hdi hdj
    have h1 := hsp i oi hi
    simp only [Bool.and_eq_true] at h1
    have h2 := allOps_spec h1.2 j oj hj
    rw [hdi, hdj] at h2
    simpa using h2
  · intro i o d hi hd
    have h1 := hsp i o hi
    simp only [Bool.and_eq_true] at h1
    have h2 := h1.1.1
    rw [hd] at h2
    simpa using h2
  · intro i o hi e he hb
    have h1 := hsp i o hi
    simp only [Bool.and_eq_true] at h1
    have h2 := Array.all_eq_true'.1 h1.1.2 e he
    simpa [hb] using h2
  · refine ⟨by simp, fun i hi => ?_⟩
    by_cases e : i < last
    · rw [hNTt i e]
      have : ¬ i = last := by omega
      simp [this]
    · have : i = last := by omega
      subst this
      rw [hNTl]; simp
  · intro t j ht hj h1 h2
    simp only [beq_iff_eq, beq_eq_false_iff_ne] at h1 h2
    subst h1
    exact hall j (by omega)
  · intro i b w w' h hb
    by_cases hi : i < last
    · rw [if_pos hi] at h ⊢; exact hmono _ _ _ _ h hb
    · rw [if_neg hi]; trivial
  · intro F F' i hi h
    by_cases hl : i < last
    · rw [if_pos hl, if_pos hl]
      exact hloc F F' i hl fun j hjl hj => h j (by omega) hj
    · rw [if_neg hl, if_neg hl]
  · intro i o F a w ho ht hb hd hf hr
    have hil : i < ops.size := (Array.getElem?_eq_some_iff.1 ho).1
    have hi : i < last := by
      have : i ≠ last := by simpa using ht
      omega
    refine wpOp_mono ?_ (hstep i o F a w ho hi hb hd (fun j hj hja => ?_) (fun t ht => ?_))
    · rintro a' w' ⟨b, h1, h2, h3⟩
      refine ⟨b, ?_, h2, ?_⟩
      · rw [h1, hwp _ i hi]
      · rw [if_pos hi]; exact h3
    · have := hf j (by omega) hja
      rw [if_pos hj, if_pos hj] at this
      exact this
    · refine hr t fun j oj hj hdj => ?_
      have := allOps_spec ht j oj hj
      rw [hdj] at this
      simp at this
  · intro F a w fuel hc2 hI
    have hfq : Fr ops a0 (V F) ((Array.replicate ops.size true).setIfInBounds last false) a := hI.fr.cong fun i h1 h2 => by
      have : i < last := by
        rcases Nat.lt_or_ge i last with h | h
        · exact h
        · have e : i = last := by omega
          subst e; rw [hNTl] at h1; cases h1
      rw [if_pos this]
    have ha := hfq.frame fun i o d ho hd => by
      have hil : i < ops.size := (Array.getElem?_eq_some_iff.1 ho).1
      refine hNTt i ?_
      have : i ≠ last := fun e => by subst e; rw [hol] at ho; obtain rfl := Option.some.inj ho; rw [hold] at hd; cases hd
      omega
    subst ha
    have hfacts : ∀ i, i < last → Ψ i (F i) w := fun i hi => by
      have := hI.facts i (by omega) (hNTt i hi)
      rw [if_pos hi] at this
      exact this
    have hE := hend F w hI.ext hfacts
    rw [← hfr F] at hE
    have hr : last ∈ Region.ready .any ops ((Array.replicate ops.size true).setIfInBounds last false) := mem_ready.2 ⟨hNTl, ol, hol, fun e he hb => by
      have h1 := hsp last ol hol
      simp only [Bool.and_eq_true] at h1
      have h2 := Array.all_eq_true'.1 h1.1.2 e he
      simp [hb] at h2
      have h3 := hNTt e.on h2
      have hlt : e.on < ops.size := by omega
      simp [hlt] at h3 ⊢
      exact h3⟩
    cases fuel with
    | zero =>
      exfalso
      have h0 : ((Array.replicate ops.size true).setIfInBounds last false).toList.count false = 0 := by omega
      rw [List.count_eq_zero] at h0
      apply h0
      have hlt : last < ops.size := by omega
      have h5 : ((Array.replicate ops.size true).setIfInBounds last false)[last]'(by simp; omega) = false := by simp
      have h6 := Array.getElem_mem (xs := (Array.replicate ops.size true).setIfInBounds last false) (i := last) (by simp; omega)
      rw [h5] at h6
      exact Array.mem_toList_iff.2 h6
    | succ fuel =>
      refine ⟨fun h => (by rw [h] at hr; cases hr), fun i hi => ?_⟩
      obtain rfl := hNTf i (mem_ready.1 hi).1
      refine wpOp_mono (fun a' w' hq => ?_) hE
      have hempty : Region.ready .any ops (((Array.replicate ops.size true).setIfInBounds i false).setIfInBounds i true) = [] := by
        rw [List.eq_nil_iff_forall_not_mem]
        intro j hj
        have h7 := (mem_ready.1 hj).1
        by_cases e : i = j
        · subst e
          rw [Array.getD_eq_getD_getElem?] at h7
          simp [hsz] at h7
        · rw [getD_set_ne true e] at h7
          exact e (hNTf j h7).symm
      cases fuel with
      | zero => exact ⟨hempty, hq⟩
      | succ fuel => exact ⟨fun _ => hq, fun j hj => by rw [hempty] at hj; cases hj⟩
  · intro i o ho h
    have hil : i < ops.size := (Array.getElem?_eq_some_iff.1 ho).1
    simp [hil] at h
  · intro i hi _; simp [hi]
  · simp
  · refine ⟨(Below.refl _ _).drew, ⟨rfl, rfl, fun i o d ho hd h => ?_, fun t _ => rfl⟩, fun i hi h => ?_⟩
    · have hil : i < ops.size := (Array.getElem?_eq_some_iff.1 ho).1
      simp [hil] at h
    · simp [hi] at h
end
end Go.Proofs.YtdppmeeobpbfnaaDoor.Mono
