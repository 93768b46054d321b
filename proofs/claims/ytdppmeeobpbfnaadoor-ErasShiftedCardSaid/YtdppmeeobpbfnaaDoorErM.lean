/-
  Eras and zones in memory; the spans of eras without rules (eras.Spans), in plain words and walked.
-/
import Derived.Test.YtdppmeeobpbfnaaDoorSpM
import Derived.Test.YtdppmeeobpbfnaaDoorUntEx
import Derived.Test.YtdppmeeobpbfnaaDoorDrMade
import Derived.Deep.RegionHeld3
import Derived.Deep.QuietTactic
import Derived.BigQuiet
import Derived.StillTailTactics
namespace Go.Proofs.YtdppmeeobpbfnaaDoor
open Go.RowKit Cv
set_option linter.unusedVariables false
set_option linter.unusedSimpArgs false

namespace Cv
/-- an era -/
structure Er where
  (off k save : Int) (set fm : ByteArray) (is : Bool) (y m kd w d sec base : Int)
def Er.arr (e : Er) : Array Value := #[.int .i64 e.off, .int .i64 e.k, .int .i64 e.save, .string e.set, .string e.fm, .bool e.is, .int .i64 e.y, .int .i64 e.m, .int .i64 e.kd, .int .i64 e.w, .int .i64 e.d, .int .i64 e.sec, .int .i64 e.base]
/-- v reads as the eras es -/
def RdEr (v : Value) (es : _root_.List Er) (w : World) : Prop :=
  ∃ (A : Option Addr) (cap : Nat), v = .slice A es.length cap ∧ ∀ (i : Nat) (e : Er), es[i]? = some e → ∃ g off, A = some ⟨g, off, none⟩ ∧ w.rangeAt g (off + i * 13) e.arr.toList
theorem RdEr.below {v : Value} {l : _root_.List Er} {A B : World} (h : RdEr v l A) (hb : Below A.heap.size A B) : RdEr v l B := by
  obtain ⟨a, c, h1, h4⟩ := h
  exact ⟨a, c, h1, fun i r hr => by obtain ⟨g, off, e, k⟩ := h4 i r hr; exact ⟨g, off, e, range_below hb k⟩⟩
theorem RdEr.sl {v : Value} {l : _root_.List Er} {w : World} (h : RdEr v l w) : ∃ (A : Option Addr) (cap : Nat), v = .slice A l.length cap := by
  obtain ⟨a, c, h1, _⟩ := h; exact ⟨a, c, h1⟩
theorem RdEr.at_ {A : Option Addr} {n cap i : Nat} {l : _root_.List Er} {w : World} {e : Er} (h : RdEr (.slice A n cap) l w) (hr : l[i]? = some e) : ∃ g off, A = some ⟨g, off, none⟩ ∧ w.rangeAt g (off + i * 13) e.arr.toList := by
  obtain ⟨a, c, h1, h4⟩ := h
  injection h1 with e1 e2 e3
  subst e1
  exact h4 i e hr
theorem range13 {w : World} {g o : Nat} {e : Er} (h : w.rangeAt g o e.arr.toList) : w.cell? ⟨g, o, none⟩ = some (.int .i64 e.off) ∧ w.cell? ⟨g, o + 1, none⟩ = some (.int .i64 e.k) ∧ w.cell? ⟨g, o + 2, none⟩ = some (.int .i64 e.save) ∧ w.cell? ⟨g, o + 3, none⟩ = some (.string e.set) ∧ w.cell? ⟨g, o + 4, none⟩ = some (.string e.fm) ∧ w.cell? ⟨g, o + 5, none⟩ = some (.bool e.is) ∧ w.cell? ⟨g, o + 6, none⟩ = some (.int .i64 e.y) ∧ w.cell? ⟨g, o + 7, none⟩ = some (.int .i64 e.m) ∧ w.cell? ⟨g, o + 8, none⟩ = some (.int .i64 e.kd) ∧ w.cell? ⟨g, o + 9, none⟩ = some (.int .i64 e.w) ∧ w.cell? ⟨g, o + 10, none⟩ = some (.int .i64 e.d) ∧ w.cell? ⟨g, o + 11, none⟩ = some (.int .i64 e.sec) ∧ w.cell? ⟨g, o + 12, none⟩ = some (.int .i64 e.base) :=
  ⟨h 0 _ rfl, h 1 _ rfl, h 2 _ rfl, h 3 _ rfl, h 4 _ rfl, h 5 _ rfl, h 6 _ rfl, h 7 _ rfl, h 8 _ rfl, h 9 _ rfl, h 10 _ rfl, h 11 _ rfl, h 12 _ rfl⟩
/-- v reads as zones: names, and eras -/
def RdZo (v : Value) (zs : _root_.List (ByteArray × _root_.List Er)) (w : World) : Prop :=
  ∃ (A : Option Addr) (cap : Nat), v = .slice A zs.length cap ∧ ∀ (i : Nat) (z : ByteArray × _root_.List Er), zs[i]? = some z → ∃ g off vz, A = some ⟨g, off, none⟩ ∧ w.cell? ⟨g, off + i * 2, none⟩ = some (.string z.1) ∧ w.cell? ⟨g, off + i * 2 + 1, none⟩ = some vz ∧ RdEr vz z.2 w
theorem RdZo.below {v : Value} {l : _root_.List (ByteArray × _root_.List Er)} {A B : World} (h : RdZo v l A) (hb : Below A.heap.size A B) : RdZo v l B := by
  obtain ⟨a, c, h1, h4⟩ := h
  exact ⟨a, c, h1, fun i r hr => by obtain ⟨g, off, vz, e, k1, k2, k3⟩ := h4 i r hr; exact ⟨g, off, vz, e, cell_below hb k1, cell_below hb k2, k3.below hb⟩⟩
/-- the instant at which an era without rules ends -/
def instE (e : Er) : Int := 86400 * (on e.y e.m e.kd e.w e.d).1 + e.sec - (if e.base = 2 then 0 else e.off)
/-- an era without rules, with a right end -/
structure Ok0 (e : Er) : Prop where
  k : e.k = 0
  is : e.is = true
  c : untC true e.y e.m e.kd e.w e.d e.sec e.base 0 = 0
  off : -604799 ≤ e.off ∧ e.off ≤ 604799
  save : -604799 ≤ e.save ∧ e.save ≤ 604799
theorem instE_bd {e : Er} (h : Ok0 e) : -1000000000000 ≤ instE e ∧ instE e ≤ 1000000000000 := by
  obtain ⟨x, c, hx⟩ : ∃ x c, on e.y e.m e.kd e.w e.d = (x, c) := ⟨_, _, rfl⟩
  obtain ⟨-, -, -, -, -, -, -, h1, h2, h3, h4⟩ := unt_known h.c hx
  have := h.off
  unfold instE
  rw [hx]
  dsimp only
  split <;> omega
/-- the spans of eras from an instant on -/
def spansFrom (st : Int) (i : Nat) : _root_.List Er → Option (_root_.List Sp)
  | [] => some []
  | [_] => some [⟨st, 9223372036854775807, (i : Int)⟩]
  | e :: e2 :: l => if instE e ≤ st then none else (spansFrom (instE e) (i + 1) (e2 :: l)).map fun r => ⟨st, instE e, (i : Int)⟩ :: r
/-- what Spans answers -/
def SpansR (o : Option (_root_.List Sp)) (W : World) (e : Ending) (w' : World) : Prop := match o with
  | some l => ∃ v, e = .returned (.tuple #[v, .int .i64 0]) ∧ RdSp v l w' ∧ Below W.heap.size W w'
  | none => e = .returned (.tuple #[.slice none 0 0, .int .i64 12]) ∧ Below W.heap.size W w'
/-- where the loop of Spans stands: spans so far, the next one's start -/
def SpK (es : _root_.List Er) (k : Nat) (st : Int) (acc : _root_.List Sp) : Prop := spansFrom (-9223372036854775808) 0 es = (spansFrom st k (es.drop k)).map (acc ++ ·)
theorem spK_zero (es : _root_.List Er) : SpK es 0 (-9223372036854775808) [] := by unfold SpK; simp
theorem spK_end {es : _root_.List Er} {st : Int} {acc : _root_.List Sp} (h : SpK es es.length st acc) : spansFrom (-9223372036854775808) 0 es = some acc := by
  unfold SpK at h; rw [h]; simp [spansFrom]
theorem drop_two {es : _root_.List Er} {k : Nat} {e : Er} (he : es[k]? = some e) : es.drop k = e :: es.drop (k + 1) := by
  have hk := (_root_.List.getElem?_eq_some_iff.1 he).1
  rw [_root_.List.drop_eq_getElem_cons hk]
  congr 1
  rw [_root_.List.getElem?_eq_getElem hk] at he
  exact Option.some.inj he
theorem spK_last {es : _root_.List Er} {k : Nat} {st : Int} {acc : _root_.List Sp} {e : Er} (h : SpK es k st acc) (he : es[k]? = some e) (hk : k + 1 = es.length) : SpK es (k + 1) 9223372036854775807 (acc ++ [⟨st, 9223372036854775807, (k : Int)⟩]) := by
  unfold SpK at h ⊢
  rw [h, drop_two he, hk]
  simp [spansFrom]
theorem spK_more {es : _root_.List Er} {k : Nat} {st : Int} {acc : _root_.List Sp} {e : Er} (h : SpK es k st acc) (he : es[k]? = some e) (hk : k + 1 < es.length) (hl : st < instE e) : SpK es (k + 1) (instE e) (acc ++ [⟨st, instE e, (k : Int)⟩]) := by
  obtain ⟨e2, he2⟩ : ∃ e2, es[k + 1]? = some e2 := ⟨_, _root_.List.getElem?_eq_getElem hk⟩
  unfold SpK at h ⊢
  rw [h, drop_two he, drop_two he2]
  simp only [spansFrom]
  rw [if_neg (by omega), Option.map_map]
  congr 1
  funext r
  simp
theorem spK_no {es : _root_.List Er} {k : Nat} {st : Int} {acc : _root_.List Sp} {e : Er} (h : SpK es k st acc) (he : es[k]? = some e) (hk : k + 1 < es.length) (hl : instE e ≤ st) : spansFrom (-9223372036854775808) 0 es = none := by
  obtain ⟨e2, he2⟩ : ∃ e2, es[k + 1]? = some e2 := ⟨_, _root_.List.getElem?_eq_getElem hk⟩
  unfold SpK at h
  rw [h, drop_two he, drop_two he2]
  simp only [spansFrom]
  rw [if_pos hl]
  rfl
theorem flatSp_app (l k : _root_.List Sp) : flatSp (l ++ k) = flatSp l ++ flatSp k := by unfold flatSp; rw [_root_.List.flatMap_append]
end Cv

theorem inst0_any (off save : Int) (st fm : ByteArray) (y m kd w d sec base : Int) (v : Value) (W : World) (hT : Tabs W) (h : Ok0 ⟨off, 0, save, st, fm, true, y, m, kd, w, d, sec, base⟩) :
    Calls Tryd.prog 22 #[.agg #[.int .i64 off, .int .i64 0, .int .i64 save, .string st, .string fm, .bool true, .int .i64 y, .int .i64 m, .int .i64 kd, .int .i64 w, .int .i64 d, .int .i64 sec, .int .i64 base], v] W fun e w' => e = .returned (.tuple #[.int .i64 (instE ⟨off, 0, save, st, fm, true, y, m, kd, w, d, sec, base⟩), .int .i64 0]) ∧ Below W.heap.size W w' := by
  obtain ⟨x, c, hx⟩ : ∃ x c, on y m kd w d = (x, c) := ⟨_, _, rfl⟩
  obtain ⟨-, -, hc, ho, hs⟩ := h
  dsimp only at hc ho hs
  obtain ⟨-, -, -, hok⟩ := untC_zero hc
  have hub : base = 0 ∨ base = 1 ∨ base = 2 := by have := hok.2.2.1; have := hok.2.2.2.1; omega
  have hi : instE ⟨off, 0, save, st, fm, true, y, m, kd, w, d, sec, base⟩ = 86400 * x + sec - (if base = 2 then 0 else off) := by unfold instE; dsimp only; rw [hx]
  rw [hi]
  rcases hub with rfl | rfl | rfl
  · rw [if_neg (by decide)]; exact untInst00 off save st fm y m kd w d sec x c v W hT hc hx ho.1 ho.2 hs.1 hs.2
  · rw [if_neg (by decide)]; exact untInst01 off save st fm y m kd w d sec x c v W hT hc hx ho.1 ho.2 hs.1 hs.2
  · rw [if_pos rfl, Int.sub_zero]; exact untInst02 off save st fm y m kd w d sec x c v W hT hc hx ho.1 ho.2 hs.1 hs.2

set_option maxRecDepth 100000 in
set_option maxHeartbeats 1000000 in
theorem rules0_any (a b c d mp : Value) (off save : Int) (st fm : ByteArray) (is : Bool) (y m kd w dd sec base : Int) (W : World) :
    Calls Tryd.prog 23 #[.agg #[a, b, c, d, mp], .agg #[.int .i64 off, .int .i64 0, .int .i64 save, .string st, .string fm, .bool is, .int .i64 y, .int .i64 m, .int .i64 kd, .int .i64 w, .int .i64 dd, .int .i64 sec, .int .i64 base]] W fun e w' => e = .returned (.slice none 0 0) ∧ Below W.heap.size W w' := by
  go_enter Tryd.func23, Tryd.ntmps23
  go_wp2_with fail
  go_ret
  exact ⟨rfl, bel_trans (bel_alloc _ _) (bel_alloc _ _)⟩
end Go.Proofs.YtdppmeeobpbfnaaDoor
