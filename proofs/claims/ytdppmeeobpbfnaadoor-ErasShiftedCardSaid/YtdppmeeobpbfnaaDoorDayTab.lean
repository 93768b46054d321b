/-
  What the condition of the rows of chapter 2 gives a walk: the table of civil, and the table of the kinds of day forms.
-/
import Derived.Test.YtdppmeeobpbfnaaDoorCivEx
import Derived.Test.YtdppmeeobpbfnaaDoorRows
import Derived.ProofKit
import Derived.Below
import Derived.LaidMore
import Derived.LaidSub
import Derived.LaidHandle
import Derived.MakeChecks
import Derived.Lib.LaidTab
import Derived.WalkSmall
import Derived.OpenShut
import Derived.ChangeArms
namespace Go.Proofs.YtdppmeeobpbfnaaDoor
open Go.RowKit Cv
set_option linter.unusedVariables false
set_option linter.unusedSimpArgs false

theorem fit_of {n : Int} (h : (Lit.int .i64 n).wf = true) : -9223372036854775808 ≤ n ∧ n ≤ 9223372036854775807 := by
  simp only [Lit.wf, IntKind.min, IntKind.max, IntKind.signed, IntKind.bits, Bool.and_eq_true, decide_eq_true_eq, if_true] at h
  omega
theorem byte_of {n : Int} (h : (Lit.int .u8 n).wf = true) : 0 ≤ n ∧ n ≤ 255 := by
  simp [Lit.wf, IntKind.min, IntKind.max, IntKind.signed, IntKind.bits] at h
  omega
theorem u32_of {n : Int} (h : (Lit.int .u32 n).wf = true) : 0 ≤ n ∧ n ≤ 4294967295 := by
  simp [Lit.wf, IntKind.min, IntKind.max, IntKind.signed, IntKind.bits] at h
  omega
theorem i32_of {n : Int} (h : (Lit.int .i32 n).wf = true) : -2147483648 ≤ n ∧ n ≤ 2147483647 := by
  simp [Lit.wf, IntKind.min, IntKind.max, IntKind.signed, IntKind.bits] at h
  omega
theorem tab_of {W : World} (hL : laidMetH Tryd.prog Rows.erasFindRow.laid W) : Tab W := by
  have hL := hL.filter (fun x => x.2.handleName?.isNone)
  rw [show (Rows.erasFindRow.laid.filter fun x => x.2.handleName?.isNone) = [("analemma/civil.before", Lib.tabData .i64 [0, 31, 61, 92, 122, 153, 184, 214, 245, 275, 306, 337])] from rfl, MakeChecks.laidMetH_plain _ _ _ (by kernel_rfl)] at hL
  have h := Lib.tabIs_of_head (k := .i64) (zs := [0, 31, 61, 92, 122, 153, 184, 214, 245, 275, 306, 337]) (g := 0) (t := 88) (e := 2) (n := 12) (by kernel_rfl) (by kernel_rfl) Tryd.underlying88 Tryd.underlying2 (by kernel_rfl) (by kernel_rfl) hL
  intro i hi
  exact h.cell (by kernel_rfl) i hi

set_option maxRecDepth 100000 in
/-- one row of the table of kinds, opened -/
theorem kind_of {w : World} {base : Nat} {sp : Nat → Bool} {fuel : Nat} {cs : List Value} {a b : Bool} {n : UInt8} {ns : List UInt8} {q : List MemPlace} {f0 : FuncId}
    (hone : ((List.range Tryd.prog.funcs.size).filter fun f => (Tryd.prog.funcs[f]?).any (·.name.toUTF8.data.toList == n :: ns)) = [f0])
    (h : DataW.trod (funcToken Tryd.prog) Tryd.prog w base sp true fuel 125 cs = some (.agg [.lit (.bool a), .lit (.bool b), .held (n :: ns)], q)) : cs = [.bool a, .bool b, .func (.func f0) #[] #[]] := by
  obtain ⟨xs, m, _, hx, hl, hn, hf⟩ := DataW.trod_struct Tryd.underlying125 h
  have hl3 : cs.length = 3 := hl.trans (by kernel_rfl)
  have cb : Tryd.prog.cellsOf 4 = 1 := by kernel_rfl
  have cf : Tryd.prog.cellsOf 123 = 1 := by kernel_rfl
  match cs, hl3, xs, hn, hx, hf with
  | [c0, c1, c2], _, [x0, x1, x2], _, hx, hf =>
    have h0 := hf 0 _ rfl
    have h1 := hf 1 _ rfl
    have h2 := hf 2 _ rfl
    simp [cb, cf] at h0 h1 h2 hx
    obtain ⟨⟨e0, e1, e2⟩, _⟩ := hx
    obtain ⟨b0, hb0, rfl⟩ := DataW.trod_bool Tryd.underlying4 h0
    obtain ⟨b1, hb1, rfl⟩ := DataW.trod_bool Tryd.underlying4 h1
    obtain ⟨y2, q2⟩ := x2
    simp at e0 e1 e2 hb0 hb1
    subst e0 e1 e2 hb0 hb1
    obtain rfl := func_of_trod Tryd.underlying123 hone h2
    rfl

namespace Cv
/-- the table of kinds lies as it was laid -/
def KTab (w : World) : Prop :=
  (w.cell? ⟨1, 3, none⟩ = some (.bool false) ∧ w.cell? ⟨1, 4, none⟩ = some (.bool true) ∧ w.cell? ⟨1, 5, none⟩ = some (.func (.func 95) #[] #[])) ∧
  (w.cell? ⟨1, 6, none⟩ = some (.bool true) ∧ w.cell? ⟨1, 7, none⟩ = some (.bool false) ∧ w.cell? ⟨1, 8, none⟩ = some (.func (.func 96) #[] #[])) ∧
  (w.cell? ⟨1, 9, none⟩ = some (.bool true) ∧ w.cell? ⟨1, 10, none⟩ = some (.bool true) ∧ w.cell? ⟨1, 11, none⟩ = some (.func (.func 98) #[] #[])) ∧
  (w.cell? ⟨1, 12, none⟩ = some (.bool true) ∧ w.cell? ⟨1, 13, none⟩ = some (.bool true) ∧ w.cell? ⟨1, 14, none⟩ = some (.func (.func 100) #[] #[]))
theorem KTab.drewN {w : World} (h : KTab w) (n : Nat) : KTab (w.drewN n) := h
end Cv

/-- a part of a datum -/
def nthD {H : Type} (k : Nat) (d : DataW H) : DataW H :=
  match d with
  | .agg l => (l[k]?).getD .nil
  | _ => .nil

set_option maxRecDepth 100000 in
theorem ktab_of {W : World} (hL : laidMetH Tryd.prog Rows.erasFindRow.laid W) : KTab W := by
  obtain ⟨g, t, cs, fuel, p, hg, ht, hv, hd⟩ := hL.funcs (n := "analemma/dayform.kinds") (d := (Rows.laid_analemma_dayform_kinds.funcsIn?).getD .nil) (List.Mem.tail _ (List.Mem.head _))
  obtain rfl := Option.some.inj ((show Tryd.prog.globalNamed "analemma/dayform.kinds" = some 1 by kernel_rfl).symm.trans hg)
  obtain rfl := Option.some.inj ((show (Tryd.prog.globals[1]?).map (·.type) = some 126 by kernel_rfl).symm.trans ht)
  obtain ⟨xs, m, _, hx, hl, hn, hel⟩ := DataW.trod_array Tryd.underlying126 hd
  have ck : Tryd.prog.cellsOf 125 = 3 := by kernel_rfl
  have hx1 := congrArg Prod.fst hx
  obtain ⟨l⟩ := cs
  have hl15 : l.length = 15 := hl.trans (by kernel_rfl)
  have hcell : ∀ i, W.cell? ⟨1, i, none⟩ = l[i]? := fun i => by simpa using World.var?_cell hg hv i
  match xs, hn, hx1, hel with
  | [x0, x1, x2, x3, x4], _, hx1, hel =>
    simp only [List.map_cons, List.map_nil] at hx1
    have e1 : x1.1 = .agg [.lit (.bool false), .lit (.bool true), .held [97, 110, 97, 108, 101, 109, 109, 97, 47, 100, 97, 121, 102, 111, 114, 109, 46, 107, 105, 110, 100, 115, 36, 49]] := (congrArg (nthD 1) hx1).symm
    have h1 := hel 1 (by decide)
    rw [ck, show ([x0, x1, x2, x3, x4] : List _)[1]? = some (x1.1, x1.2) from rfl, e1] at h1
    have r1 := kind_of (f0 := 95) (by kernel_rfl) h1
    have e2 : x2.1 = .agg [.lit (.bool true), .lit (.bool false), .held [97, 110, 97, 108, 101, 109, 109, 97, 47, 100, 97, 121, 102, 111, 114, 109, 46, 107, 105, 110, 100, 115, 36, 50]] := (congrArg (nthD 2) hx1).symm
    have h2 := hel 2 (by decide)
    rw [ck, show ([x0, x1, x2, x3, x4] : List _)[2]? = some (x2.1, x2.2) from rfl, e2] at h2
    have r2 := kind_of (f0 := 96) (by kernel_rfl) h2
    have e3 : x3.1 = .agg [.lit (.bool true), .lit (.bool true), .held [97, 110, 97, 108, 101, 109, 109, 97, 47, 100, 97, 121, 102, 111, 114, 109, 46, 107, 105, 110, 100, 115, 36, 51]] := (congrArg (nthD 3) hx1).symm
    have h3 := hel 3 (by decide)
    rw [ck, show ([x0, x1, x2, x3, x4] : List _)[3]? = some (x3.1, x3.2) from rfl, e3] at h3
    have r3 := kind_of (f0 := 98) (by kernel_rfl) h3
    have e4 : x4.1 = .agg [.lit (.bool true), .lit (.bool true), .held [97, 110, 97, 108, 101, 109, 109, 97, 47, 100, 97, 121, 102, 111, 114, 109, 46, 107, 105, 110, 100, 115, 36, 52]] := (congrArg (nthD 4) hx1).symm
    have h4 := hel 4 (by decide)
    rw [ck, show ([x0, x1, x2, x3, x4] : List _)[4]? = some (x4.1, x4.2) from rfl, e4] at h4
    have r4 := kind_of (f0 := 100) (by kernel_rfl) h4
    clear hel hx1 hx hd h1 h2 h3 h4 e1 e2 e3 e4
    have get : ∀ (k j : Nat) (a b c : Value), (l.drop (k * 3)).take 3 = [a, b, c] → l[k * 3]? = some a ∧ l[k * 3 + 1]? = some b ∧ l[k * 3 + 2]? = some c := fun k j a b c h => by
      have g0 := congrArg (·[0]?) h; have g1 := congrArg (·[1]?) h; have g2 := congrArg (·[2]?) h
      simpa [List.getElem?_take, List.getElem?_drop] using And.intro g0 (And.intro g1 g2)
    obtain ⟨a1, b1, c1⟩ := get 1 0 _ _ _ r1
    obtain ⟨a2, b2, c2⟩ := get 2 0 _ _ _ r2
    obtain ⟨a3, b3, c3⟩ := get 3 0 _ _ _ r3
    obtain ⟨a4, b4, c4⟩ := get 4 0 _ _ _ r4
    exact ⟨⟨(hcell _).trans a1, (hcell _).trans b1, (hcell _).trans c1⟩, ⟨(hcell _).trans a2, (hcell _).trans b2, (hcell _).trans c2⟩, ⟨(hcell _).trans a3, (hcell _).trans b3, (hcell _).trans c3⟩, ⟨(hcell _).trans a4, (hcell _).trans b4, (hcell _).trans c4⟩⟩

theorem lt_of_cell {w : World} {a : Addr} {v : Value} (h : w.cell? a = some v) : a.block < w.heap.size := by
  unfold World.cell? at h
  rcases Nat.lt_or_ge a.block w.heap.size with hl | hl
  · exact hl
  · rw [Array.getElem?_eq_none hl] at h; simp at h
namespace Cv
theorem Tab.below {w w' : World} (h : Tab w) (k : Below w.heap.size w w') : Tab w' := fun i hi => by
  rw [k.cell (lt_of_cell (h i hi))]; exact h i hi
theorem KTab.below {w w' : World} (h : KTab w) (k : Below w.heap.size w w') : KTab w' := by
  have key : ∀ a v, w.cell? a = some v → w'.cell? a = some v := fun a v h => by rw [k.cell (lt_of_cell h)]; exact h
  obtain ⟨⟨a1, a2, a3⟩, ⟨b1, b2, b3⟩, ⟨c1, c2, c3⟩, ⟨d1, d2, d3⟩⟩ := h
  exact ⟨⟨key _ _ a1, key _ _ a2, key _ _ a3⟩, ⟨key _ _ b1, key _ _ b2, key _ _ b3⟩, ⟨key _ _ c1, key _ _ c2, key _ _ c3⟩, ⟨key _ _ d1, key _ _ d2, key _ _ d3⟩⟩
/-- both tables lie as they were laid -/
def Tabs (w : World) : Prop := Tab w ∧ KTab w
theorem Tabs.below {w w' : World} (h : Tabs w) (k : Below w.heap.size w w') : Tabs w' := ⟨h.1.below k, h.2.below k⟩
theorem Tabs.drewN {w : World} (h : Tabs w) (n : Nat) : Tabs (w.drewN n) := h
theorem Tabs.alloc {w : World} (h : Tabs w) (o : Obj) : Tabs (w.alloc o) := h.below ((Below.refl _ _).alloc (Nat.le_refl _) o)
theorem KTab.alloc {w : World} (h : KTab w) (o : Obj) : KTab (w.alloc o) := h.below ((Below.refl _ _).alloc (Nat.le_refl _) o)
/-- Below, at the start's size -/
theorem bel_alloc (w : World) (o : Obj) : Below w.heap.size w (w.alloc o) := (Below.refl _ _).alloc (Nat.le_refl _) o
theorem bel_drew {a w : World} (h : Below a.heap.size a w) (n : Nat) : Below a.heap.size a (w.drewN n) := below_drewN h n
theorem bel_trans {a b c : World} (h : Below a.heap.size a b) (k : Below b.heap.size b c) : Below a.heap.size a c := h.trans (k.mono h.size)
end Cv
end Go.Proofs.YtdppmeeobpbfnaaDoor
