/-
  Plain laws of shifted sources: shifts add up, a shift by 0 is none, shifts of two sets can change places.
-/
import Derived.Test.YtdlmlcgmonkdfaaShfFew
namespace Go.Proofs.Ytdlmlcgmonkdfaa
open Go.RowKit Sh
set_option linter.unusedVariables false
set_option linter.unusedSimpArgs false

namespace Sh
theorem w_add (a x y : Int) : wrap64 (wrap64 (a + x) + y) = wrap64 (a + wrap64 (x + y)) := by unfold wrap64; omega
theorem w_sub (a x y : Int) : wrap64 (wrap64 (a - x) - y) = wrap64 (a - wrap64 (x + y)) := by unfold wrap64; omega
theorem w_self {a : Int} (h : I64 a) : wrap64 a = a := by unfold wrap64; unfold I64 at h; omega
theorem w_neg (x : Int) : wrap64 (x + wrap64 (-x)) = 0 := by unfold wrap64; omega
theorem less_less (sec base x y : Int) : less (less sec base x) base y = less sec base (wrap64 (x + y)) := by
  unfold less
  split
  · exact w_sub _ _ _
  · rfl
theorem less_0 {sec : Int} (base : Int) (h : I64 sec) : less sec base 0 = sec := by
  unfold less
  split
  · rw [Int.sub_zero]; exact w_self h
  · rfl
theorem Ru.sh_sh (r : Ru) (x y : Int) : (r.sh x).sh y = r.sh (wrap64 (x + y)) := by
  unfold Ru.sh
  rw [Ru.mk.injEq]
  exact ⟨rfl, rfl, rfl, rfl, rfl, rfl, rfl, less_less _ _ _ _, rfl, w_add _ _ _, rfl⟩
theorem Ru.sh_0 {r : Ru} (h : r.fits) : r.sh 0 = r := by
  unfold Ru.sh
  rw [less_0 _ h.1, Int.add_zero, w_self h.2]
theorem Ru.of_na (r : Ru) (n : ByteArray) (x : Int) : (r.of n x).na = r.na := by
  unfold Ru.of
  split <;> rfl
theorem Ru.of_of (r : Ru) (n : ByteArray) (x y : Int) : (r.of n x).of n y = r.of n (wrap64 (x + y)) := by
  by_cases h : r.na = n
  · have e : (r.of n x) = r.sh x := if_pos h
    rw [e]
    have e2 : (r.sh x).of n y = (r.sh x).sh y := if_pos h
    rw [e2, Ru.sh_sh]
    exact (if_pos h).symm
  · have e : ∀ z, (r.of n z) = r := fun z => if_neg h
    rw [e, e, e]
theorem Ru.of_0 {r : Ru} (n : ByteArray) (h : r.fits) : r.of n 0 = r := by
  unfold Ru.of
  split
  · exact Ru.sh_0 h
  · rfl
theorem Ru.of_other (r : Ru) {n m : ByteArray} (x y : Int) (h : n ≠ m) : (r.of n x).of m y = (r.of m y).of n x := by
  by_cases h1 : r.na = n
  · have hm : r.na ≠ m := fun e => h (h1.symm.trans e)
    have e2 : r.of m y = r := if_neg hm
    rw [e2]
    exact if_neg (by rw [Ru.of_na]; exact hm)
  · have e1 : r.of n x = r := if_neg h1
    rw [e1]
    exact (if_neg (by rw [Ru.of_na]; exact h1)).symm
theorem Er.sh_kind (r : Er) (n : ByteArray) (x : Int) : (r.sh n x).kind = r.kind ∧ (r.sh n x).set = r.set := by
  unfold Er.sh
  split
  · split <;> exact ⟨rfl, rfl⟩
  · exact ⟨rfl, rfl⟩
theorem Er.sh_sh (r : Er) (n : ByteArray) (x y : Int) : (r.sh n x).sh n y = r.sh n (wrap64 (x + y)) := by
  by_cases h : r.kind = 2 ∧ r.set = n
  · unfold Er.sh
    rw [if_pos h, if_pos h]
    by_cases hi : r.is = true
    · rw [if_pos hi, if_pos hi, if_pos h, if_pos hi, w_sub, less_less]
    · rw [if_neg hi, if_neg hi, if_pos h, if_neg hi, w_sub]
  · have e : ∀ z, r.sh n z = r := fun z => if_neg h
    rw [e, e, e]
theorem Er.sh_0 {r : Er} (n : ByteArray) (h : r.fits) : r.sh n 0 = r := by
  unfold Er.sh
  split
  · split
    · rw [less_0 _ h.1, Int.sub_zero, w_self h.2]
    · rw [Int.sub_zero, w_self h.2]
  · rfl
theorem Er.sh_other (r : Er) {n m : ByteArray} (x y : Int) (h : n ≠ m) : (r.sh n x).sh m y = (r.sh m y).sh n x := by
  by_cases h1 : r.set = n
  · have hm : r.set ≠ m := fun e => h (h1.symm.trans e)
    have e2 : r.sh m y = r := if_neg fun e => hm e.2
    rw [e2]
    exact if_neg fun e => hm (by rw [← (Er.sh_kind r n x).2]; exact e.2)
  · have e1 : r.sh n x = r := if_neg fun e => h1 e.2
    rw [e1]
    exact (if_neg fun e => h1 (by rw [← (Er.sh_kind r m y).2]; exact e.2)).symm
theorem shZ_shZ (n : ByteArray) (x y : Int) (zs : _root_.List Zn) : shZ n y (shZ n x zs) = shZ n (wrap64 (x + y)) zs := by
  unfold shZ
  simp only [_root_.List.map_map, Function.comp_def, Er.sh_sh]
theorem shZ_0 {n : ByteArray} {zs : _root_.List Zn} (h : ∀ z ∈ zs, ∀ e ∈ z.es, e.fits) : shZ n 0 zs = zs := by
  unfold shZ
  conv => rhs; rw [← _root_.List.map_id zs]
  refine _root_.List.map_congr_left fun z hz => ?_
  obtain ⟨na, es⟩ := z
  show Zn.mk na _ = Zn.mk na es
  congr 1
  conv => rhs; rw [← _root_.List.map_id es]
  exact _root_.List.map_congr_left fun e he => Er.sh_0 n (h _ hz e he)
theorem shZ_other {n m : ByteArray} (x y : Int) (h : n ≠ m) (zs : _root_.List Zn) : shZ m y (shZ n x zs) = shZ n x (shZ m y zs) := by
  unfold shZ
  simp only [_root_.List.map_map, Function.comp_def]
  refine _root_.List.map_congr_left fun z _ => ?_
  congr 1
  exact _root_.List.map_congr_left fun e _ => Er.sh_other e x y h
theorem Sou.shS_shS (s : Sou) (n : ByteArray) (x y : Int) : (s.shS n x).shS n y = s.shS n (wrap64 (x + y)) := by
  unfold Sou.shS
  simp only [_root_.List.map_map, Function.comp_def, Ru.of_of, shZ_shZ]
theorem Sou.shS_0 {s : Sou} (n : ByteArray) (h : s.fits) : s.shS n 0 = s := by
  unfold Sou.shS
  rw [shZ_0 h.2]
  have : s.rs.map (fun r => r.of n 0) = s.rs := by
    conv => rhs; rw [← _root_.List.map_id s.rs]
    exact _root_.List.map_congr_left fun r hr => Ru.of_0 n (h.1 r hr)
  rw [this]
theorem Sou.shS_back {s : Sou} (n : ByteArray) (x : Int) (h : s.fits) : (s.shS n x).shS n (wrap64 (-x)) = s := by
  rw [Sou.shS_shS, w_neg, Sou.shS_0 n h]
theorem Sou.shS_other (s : Sou) {n m : ByteArray} (x y : Int) (h : n ≠ m) : (s.shS n x).shS m y = (s.shS m y).shS n x := by
  unfold Sou.shS
  rw [shZ_other x y h]
  simp only [_root_.List.map_map, Function.comp_def]
  congr 1
  exact _root_.List.map_congr_left fun r _ => Ru.of_other r x y h
theorem Sou.shE_other (s : Sou) {n m : ByteArray} (x y : Int) (h : n ≠ m) : (s.shE n x).shE m y = (s.shE m y).shE n x := by
  unfold Sou.shE
  rw [shZ_other x y h]
theorem hasN_of (n m : ByteArray) (x : Int) (rs : _root_.List Ru) : hasN n (rs.map fun r => r.of m x) = hasN n rs := by
  unfold hasN
  rw [_root_.List.any_map]
  congr 1
  funext r
  simp only [Function.comp_def, Ru.of_na]
theorem hasN_shS (n m : ByteArray) (x : Int) (s : Sou) : hasN n (s.shS m x).rs = hasN n s.rs := hasN_of n m x s.rs
theorem hasN_false {n : ByteArray} {rs : _root_.List Ru} (h : hasN n rs = false) {i : Nat} {r : Ru} (hr : rs[i]? = some r) : r.na ≠ n := by
  intro e
  unfold hasN at h
  rw [_root_.List.any_eq_false] at h
  exact h r (_root_.List.mem_of_getElem? hr) (decide_eq_true e)
theorem str_ne {a b : ByteArray} (h : a ≠ b) : (a.toList == b.toList) = false := by rw [str_dec]; exact decide_eq_false h
/-- the empty source -/
def noS : Sou := ⟨[], [], [], []⟩
theorem rd_noS (w : World) : RdS (.slice none 0 0) (.slice none 0 0) (.slice none 0 0) (.slice none 0 0) noS w :=
  ⟨rd_zero rfl, ⟨[], rfl, rd_zero rfl, fun i z hz => (by simp [noS] at hz)⟩, rd_zero rfl, rd_zero rfl⟩
end Sh
end Go.Proofs.Ytdlmlcgmonkdfaa
