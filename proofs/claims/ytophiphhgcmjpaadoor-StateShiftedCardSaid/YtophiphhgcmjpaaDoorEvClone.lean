/-
  slices.Clone and slices.Equal at rules.
-/
import Derived.Test.YtophiphhgcmjpaaDoorEvEx
import Derived.Test.YtophiphhgcmjpaaDoorDrMade
import Derived.WalkSpells
import Derived.WalkLawsBesides
import Derived.OwnWalk
import Derived.Laws.OwnMore
import Derived.Laws.AppendOwnNone
namespace Go.Proofs.YtophiphhgcmjpaaDoor
open Go.RowKit Cv
set_option linter.unusedVariables false
set_option linter.unusedSimpArgs false

namespace Cv
theorem Rul.news {ad : Addr} {n cap : Nat} {rs : _root_.List Ru} {w : World} (h : Rul (.slice (some ad) n cap) rs w) : ∀ j u, (flatRu rs)[j]? = some u → w.cell? (ad.add j) = some u := by
  intro j u hu
  have hj : j < rs.length * 11 := by rw [← flatRu_len]; exact (_root_.List.getElem?_eq_some_iff.1 hu).1
  have hi : j / 11 < rs.length := by omega
  obtain ⟨r, hr⟩ : ∃ r, rs[j / 11]? = some r := by rw [_root_.List.getElem?_eq_getElem hi]; exact ⟨_, rfl⟩
  obtain ⟨g, off, e, hrg⟩ := h.at_ hr
  cases e
  have e1 : j = j / 11 * 11 + j % 11 := by omega
  rw [e1, flatRu_get rs (j / 11) r hr (j % 11) (by omega)] at hu
  have := hrg (j % 11) u hu
  have e2 : (⟨g, off, none⟩ : Addr).add j = ⟨g, off + j / 11 * 11 + j % 11, none⟩ := by
    rw [Addr.add_mid]
    congr 1
    omega
  rw [e2]
  exact this
theorem flat_one (rs : _root_.List Ru) : ∀ u ∈ flatRu rs, u.oneCell' = true := by
  intro u hu
  obtain ⟨r, _, hr⟩ := _root_.List.mem_flatMap.1 hu
  exact arr_one r u hr
end Cv

set_option maxRecDepth 100000 in
set_option maxHeartbeats 2000000 in
/-- a clone of rules: a row of the call's own that reads as they do -/
theorem cloneRu_any (v : Value) (rs : _root_.List Ru) (W : World) (h : Rul v rs W) :
    Calls Tryd.prog 14 #[v] W fun e w' => ∃ v', e = .returned v' ∧ Rul v' rs w' ∧ Below W.heap.size W w' := by
  obtain ⟨A, cap, rfl⟩ := h.sl
  have H := Lib.hid h
  have hn := h.len
  have hf : ∀ r ∈ rs, r.fits := fun r hr => by obtain ⟨i, hi⟩ := _root_.List.mem_iff_getElem?.1 hr; exact h.fits hi
  have HF := Lib.hid hf
  clear h hf
  obtain ⟨n, hN⟩ : ∃ n, n = rs.length := ⟨_, rfl⟩
  rw [← hN] at hn H ⊢
  have HN := Lib.hid hN
  clear hN
  obtain ⟨i0, hi, hz0, hzs, hzb⟩ := info_parts infoRu
  have hq : ∀ (w : World) (a : Option Addr) (n c n' c' : Nat), (binOp .eql 24 (.slice a n c) (.slice none n' c')).run Tryd.prog w = .ok (.bool a.isNone) w := fun w a n c n' c' => Lib.run_eql_slice_nil w _ _ a n c n' c' Tryd.underlying24
  cases A with
  | none =>
    have hx : rs = [] := by
      cases rs with
      | nil => rfl
      | cons r l => obtain ⟨g, off, e, _⟩ := H.out.at_ (i := 0) rfl; cases e
    subst hx
    go_enter Tryd.func14, Tryd.ntmps14
    go_wp2_with fail
    go_ret
    exact ⟨_, rfl, ⟨none, 0, rfl, by simp, fun r hr => (by cases hr), fun i r hr => by simp at hr⟩, Below.refl _ _⟩
  | some ad =>
    go_enter Tryd.func14, Tryd.ntmps14
    go_wp2_with (at_builtin; refine wpList_append_own _ rfl (.tmp 5) (.tmp 6) 24 rfl W.heap.size 37 i0 (.agg #[.string ⟨#[]⟩, .int .i64 0, .int .i64 0, .int .i64 0, .int .i64 0, .int .i64 0, .int .i64 0, .int .i64 0, .int .i64 0, .int .i64 0, .string ⟨#[]⟩]) 11 104 Tryd.underlying24 hi hz0 hzs hzb rfl (by decide) _ 0 [] rfl (World.ownsRow_made W #[] 0 (Nat.le_refl _) (by decide) (by simp)) ad n cap (flatRu rs) rfl (by rw [flatRu_len, HN.out]) (fun j u hu => cell_below (bel_alloc W _) (H.out.news j u hu)) (flat_one rs) (by unfold maxLen; omega) (by omega) (by simp) ?_; intro v1 w1 hown1 hgrow1 hnil1)
    go_ret
    refine ⟨_, rfl, rul_of_own (by have h1 := hown1; rw [Nat.zero_add, HN.out] at h1; simpa using h1) (by rw [← HN.out]; exact hn) HF.out, ?_⟩
    exact Below.grown (bel_alloc W _) hgrow1 (by simp) (fun k hk => (World.ownsRow_made W #[] 0 (e := 37) (size := 11) (Nat.le_refl W.heap.size) (by decide) (by simp)).lt k (by exact hk) |>.1)

set_option maxHeartbeats 1000000 in
theorem eqDay (w : World) (n : Nat) (x y z : Int) : (Op.equalIn (n + 1 + 1) 33 (.agg #[.int .i64 x, .int .i64 y, .int .i64 z]) (.agg #[.int .i64 x, .int .i64 y, .int .i64 z])).run Tryd.prog w = .ok true w := by
  have u3 := Tryd.underlying3
  have a3 := Tryd.isAgg3
  have z3 := Tryd.sizeOf3
  have u2 := Tryd.underlying2
  have a2 := Tryd.isAgg2
  have z2 := Tryd.sizeOf2
  have hS : Tryd.prog.underlying 33 = some (.struct (Tryd.prog.fieldsOf 33)) := by kernel_rfl
  have hp : Tryd.prog.stoodInHeld 33 = false := by kernel_rfl
  rw [run_equalIn_agg w (n + 1) 33 _ _ hS hp]
  clear hS hp
  simp only [Program.fieldsOf, Tryd.underlying33]
  go_simp

set_option maxHeartbeats 1000000 in
theorem eqClock (w : World) (n : Nat) (x y : Int) : (Op.equalIn (n + 1 + 1) 35 (.agg #[.int .i64 x, .int .i64 y]) (.agg #[.int .i64 x, .int .i64 y])).run Tryd.prog w = .ok true w := by
  have u3 := Tryd.underlying3
  have a3 := Tryd.isAgg3
  have z3 := Tryd.sizeOf3
  have u2 := Tryd.underlying2
  have a2 := Tryd.isAgg2
  have z2 := Tryd.sizeOf2
  have hS : Tryd.prog.underlying 35 = some (.struct (Tryd.prog.fieldsOf 35)) := by kernel_rfl
  have hp : Tryd.prog.stoodInHeld 35 = false := by kernel_rfl
  rw [run_equalIn_agg w (n + 1) 35 _ _ hS hp]
  clear hS hp
  simp only [Program.fieldsOf, Tryd.underlying35]
  go_simp

set_option maxRecDepth 100000 in
set_option maxHeartbeats 2000000 in
theorem neRu (w : World) (na : ByteArray) (fr ut mo k wd d sec base save : Int) (le : ByteArray) : (binOp .neq 37 (.agg #[.string na, .int .i64 fr, .int .i64 ut, .int .i64 mo, .int .i64 k, .int .i64 wd, .int .i64 d, .int .i64 sec, .int .i64 base, .int .i64 save, .string le]) (.agg #[.string na, .int .i64 fr, .int .i64 ut, .int .i64 mo, .int .i64 k, .int .i64 wd, .int .i64 d, .int .i64 sec, .int .i64 base, .int .i64 save, .string le])).run Tryd.prog w = .ok (.bool false) w := by
  have u3 := Tryd.underlying3
  have a3 := Tryd.isAgg3
  have z3 := Tryd.sizeOf3
  have u2 := Tryd.underlying2
  have a2 := Tryd.isAgg2
  have z2 := Tryd.sizeOf2
  have u9 := Tryd.underlying9
  have a9 := Tryd.isAgg9
  have z9 := Tryd.sizeOf9
  have a4 := Tryd.isAgg33
  have z4 := Tryd.sizeOf33
  have a5 := Tryd.isAgg35
  have z5 := Tryd.sizeOf35
  have hS : Tryd.prog.underlying 37 = some (.struct (Tryd.prog.fieldsOf 37)) := by kernel_rfl
  have hp : Tryd.prog.stoodInHeld 37 = false := by kernel_rfl
  have hD := fun w x y z => eqDay w 9996 x y z
  have hC := fun w x y => eqClock w 9996 x y
  rw [run_neq_struct, show (10000 : Nat) = 9999 + 1 from rfl, run_equalIn_agg w 9999 37 _ _ hS hp]
  simp only [Program.fieldsOf, Tryd.underlying37]
  clear hS hp
  go_simp

end Go.Proofs.YtophiphhgcmjpaaDoor
