/-
  == of rules, eras and links.
-/
import Derived.Test.YtdlmlcgmonkdfaaShfSrc
import Derived.WalkSpells
import Derived.WalkLawsBesides
namespace Go.Proofs.Ytdlmlcgmonkdfaa
open Go.RowKit Sh
open Classical in
noncomputable instance decRu : DecidableEq Ru := inferInstance
open Classical in
noncomputable instance decEr : DecidableEq Er := inferInstance
set_option linter.unusedVariables false
set_option linter.unusedSimpArgs false

set_option maxHeartbeats 1000000 in
theorem eqDay (w : World) (n : Nat) (x y z x' y' z' : Int) : (Op.equalIn (n + 1 + 1) 40 (.agg #[.int .i64 x, .int .i64 y, .int .i64 z]) (.agg #[.int .i64 x', .int .i64 y', .int .i64 z'])).run Try.prog w = .ok (decide (x = x' ∧ y = y' ∧ z = z')) w := by
  have u3 := Try.underlying3
  have a3 := Try.isAgg3
  have z3 := Try.sizeOf3
  have u2 := Try.underlying2
  have a2 := Try.isAgg2
  have z2 := Try.sizeOf2
  have hS : Try.prog.underlying 40 = some (.struct (Try.prog.fieldsOf 40)) := by kernel_rfl
  have hp : Try.prog.stoodInHeld 40 = false := by kernel_rfl
  rw [run_equalIn_agg w (n + 1) 40 _ _ hS hp]
  clear hS hp
  simp only [Program.fieldsOf, Try.underlying40]
  go_simp
  by_cases h1 : x = x' <;> by_cases h2 : y = y' <;> by_cases h3 : z = z' <;> simp [h1, h2, h3]

set_option maxHeartbeats 1000000 in
theorem eqClock (w : World) (n : Nat) (x y x' y' : Int) : (Op.equalIn (n + 1 + 1) 42 (.agg #[.int .i64 x, .int .i64 y]) (.agg #[.int .i64 x', .int .i64 y'])).run Try.prog w = .ok (decide (x = x' ∧ y = y')) w := by
  have u3 := Try.underlying3
  have a3 := Try.isAgg3
  have z3 := Try.sizeOf3
  have u2 := Try.underlying2
  have a2 := Try.isAgg2
  have z2 := Try.sizeOf2
  have hS : Try.prog.underlying 42 = some (.struct (Try.prog.fieldsOf 42)) := by kernel_rfl
  have hp : Try.prog.stoodInHeld 42 = false := by kernel_rfl
  rw [run_equalIn_agg w (n + 1) 42 _ _ hS hp]
  clear hS hp
  simp only [Program.fieldsOf, Try.underlying42]
  go_simp
  by_cases h1 : x = x' <;> by_cases h2 : y = y' <;> simp [h1, h2]

namespace Sh
theorem ite_base {c : Prop} [Decidable c] {w : World} : (if c then (Result.ok true w : Result Bool) else .ok false w) = .ok (decide c) w := by
  by_cases hc : c <;> simp [hc]
theorem ite_step {c p : Prop} [Decidable c] [Decidable p] {w : World} : (if c then (Result.ok (decide p) w : Result Bool) else .ok false w) = .ok (decide (c ∧ p)) w := by
  by_cases hc : c <;> simp [hc]
def D3 (x y z x' y' z' : Int) : Prop := x = x' ∧ y = y' ∧ z = z'
instance (x y z x' y' z' : Int) : Decidable (D3 x y z x' y' z') := inferInstanceAs (Decidable (x = x' ∧ y = y' ∧ z = z'))
def C2 (x y x' y' : Int) : Prop := x = x' ∧ y = y'
instance (x y x' y' : Int) : Decidable (C2 x y x' y') := inferInstanceAs (Decidable (x = x' ∧ y = y'))
theorem tl_eq (a b : ByteArray) : a.toList = b.toList ↔ a = b := by
  have h := str_dec a b
  rw [Bool.eq_iff_iff, decide_eq_true_iff, beq_iff_eq] at h
  exact h
end Sh

set_option maxRecDepth 100000 in
set_option maxHeartbeats 2000000 in
theorem eqRuIn (w : World) (r q : Ru) : (Op.equalIn 10000 44 (.agg r.arr) (.agg q.arr)).run Try.prog w = .ok (decide (r = q)) w := by
  have u3 := Try.underlying3
  have a3 := Try.isAgg3
  have z3 := Try.sizeOf3
  have u2 := Try.underlying2
  have a2 := Try.isAgg2
  have z2 := Try.sizeOf2
  have u9 := Try.underlying9
  have a9 := Try.isAgg9
  have z9 := Try.sizeOf9
  have a4 := Try.isAgg40
  have z4 := Try.sizeOf40
  have a5 := Try.isAgg42
  have z5 := Try.sizeOf42
  have hS : Try.prog.underlying 44 = some (.struct (Try.prog.fieldsOf 44)) := by kernel_rfl
  have hp : Try.prog.stoodInHeld 44 = false := by kernel_rfl
  have hD := fun w x y z x' y' z' => eqDay w 9996 x y z x' y' z'
  have hC := fun w x y x' y' => eqClock w 9996 x y x' y'
  obtain ⟨na, fr, ut, mo, k, wd, d, sec, base, save, le⟩ := r
  obtain ⟨na', fr', ut', mo', k', wd', d', sec', base', save', le'⟩ := q
  unfold Ru.arr
  rw [show (10000 : Nat) = 9999 + 1 from rfl, run_equalIn_agg w 9999 44 _ _ hS hp]
  simp only [Program.fieldsOf, Try.underlying44]
  clear hS hp
  go_simp
  simp only [ite_base, ite_step]
  congr 1
  rw [Bool.eq_iff_iff]
  simp only [Bool.and_eq_true, decide_eq_true_eq, tl_eq, and_assoc]

theorem neRu (w : World) (r q : Ru) : (binOp .neq 44 (.agg r.arr) (.agg q.arr)).run Try.prog w = .ok (.bool (!decide (r = q))) w := by
  have h := eqRuIn w r q
  unfold Ru.arr at h ⊢
  rw [run_neq_struct, h]
  rfl

set_option maxRecDepth 100000 in
set_option maxHeartbeats 2000000 in
theorem eqUn (w : World) (n : Nat) (is is' : Bool) (a b x y z p q a' b' x' y' z' p' q' : Int) : (Op.equalIn (n + 1 + 1 + 1) 50 (.agg #[.bool is, .int .i64 a, .int .i64 b, .int .i64 x, .int .i64 y, .int .i64 z, .int .i64 p, .int .i64 q]) (.agg #[.bool is', .int .i64 a', .int .i64 b', .int .i64 x', .int .i64 y', .int .i64 z', .int .i64 p', .int .i64 q'])).run Try.prog w = .ok (decide (is = is' ∧ a = a' ∧ b = b' ∧ (x = x' ∧ y = y' ∧ z = z') ∧ p = p' ∧ q = q')) w := by
  have u3 := Try.underlying3
  have a3 := Try.isAgg3
  have z3 := Try.sizeOf3
  have u2 := Try.underlying2
  have a2 := Try.isAgg2
  have z2 := Try.sizeOf2
  have u9 := Try.underlying4
  have a9 := Try.isAgg4
  have z9 := Try.sizeOf4
  have a4 := Try.isAgg40
  have z4 := Try.sizeOf40
  have a5 := Try.isAgg42
  have z5 := Try.sizeOf42
  have hS : Try.prog.underlying 50 = some (.struct (Try.prog.fieldsOf 50)) := by kernel_rfl
  have hp : Try.prog.stoodInHeld 50 = false := by kernel_rfl
  have hD : ∀ w x y z x' y' z', (Op.equalIn (n + 1 + 1) 40 (.agg #[.int .i64 x, .int .i64 y, .int .i64 z]) (.agg #[.int .i64 x', .int .i64 y', .int .i64 z'])).run Try.prog w = .ok (decide (D3 x y z x' y' z')) w := fun w x y z x' y' z' => eqDay w n x y z x' y' z'
  have hC : ∀ w x y x' y', (Op.equalIn (n + 1 + 1) 42 (.agg #[.int .i64 x, .int .i64 y]) (.agg #[.int .i64 x', .int .i64 y'])).run Try.prog w = .ok (decide (C2 x y x' y')) w := fun w x y x' y' => eqClock w n x y x' y'
  rw [run_equalIn_agg w (n + 1 + 1) 50 _ _ hS hp]
  simp only [Program.fieldsOf, Try.underlying50]
  clear hS hp
  go_simp
  simp only [ite_base, ite_step]
  congr 1
  rw [Bool.eq_iff_iff]
  simp only [Bool.and_eq_true, decide_eq_true_eq, D3, C2, and_assoc]

set_option maxRecDepth 100000 in
set_option maxHeartbeats 2000000 in
theorem eqErIn (w : World) (r q : Er) : (Op.equalIn 10000 52 (.agg r.arr) (.agg q.arr)).run Try.prog w = .ok (decide (r = q)) w := by
  have u3 := Try.underlying3
  have a3 := Try.isAgg3
  have z3 := Try.sizeOf3
  have u2 := Try.underlying2
  have a2 := Try.isAgg2
  have z2 := Try.sizeOf2
  have u9 := Try.underlying9
  have a9 := Try.isAgg9
  have z9 := Try.sizeOf9
  have a4 := Try.isAgg50
  have z4 := Try.sizeOf50
  have hS : Try.prog.underlying 52 = some (.struct (Try.prog.fieldsOf 52)) := by kernel_rfl
  have hp : Try.prog.stoodInHeld 52 = false := by kernel_rfl
  have hU := fun w is is' a b x y z p q a' b' x' y' z' p' q' => eqUn w 9995 is is' a b x y z p q a' b' x' y' z' p' q'
  obtain ⟨off, kind, save, set, fm, is, yr, mo, k, wd, d, sec, base⟩ := r
  obtain ⟨off', kind', save', set', fm', is', yr', mo', k', wd', d', sec', base'⟩ := q
  unfold Er.arr
  rw [show (10000 : Nat) = 9999 + 1 from rfl, run_equalIn_agg w 9999 52 _ _ hS hp]
  simp only [Program.fieldsOf, Try.underlying52]
  clear hS hp
  go_simp
  simp only [ite_base, ite_step]
  congr 1
  rw [Bool.eq_iff_iff]
  simp only [Bool.and_eq_true, decide_eq_true_eq, tl_eq, and_assoc]

theorem neEr (w : World) (r q : Er) : (binOp .neq 52 (.agg r.arr) (.agg q.arr)).run Try.prog w = .ok (.bool (!decide (r = q))) w := by
  have h := eqErIn w r q
  unfold Er.arr at h ⊢
  rw [run_neq_struct, h]
  rfl

theorem eqEr (w : World) (r q : Er) : (binOp .eql 52 (.agg r.arr) (.agg q.arr)).run Try.prog w = .ok (.bool (decide (r = q))) w := by
  have h := eqErIn w r q
  unfold Er.arr at h ⊢
  rw [run_eql_struct, h]
  rfl

set_option maxRecDepth 100000 in
theorem neLi (w : World) (a b a' b' : ByteArray) : (binOp .neq 54 (.agg #[.string a, .string b]) (.agg #[.string a', .string b'])).run Try.prog w = .ok (.bool (!decide ((a, b) = (a', b')))) w := by
  have u9 := Try.underlying9
  have a9 := Try.isAgg9
  have z9 := Try.sizeOf9
  have hS : Try.prog.underlying 54 = some (.struct (Try.prog.fieldsOf 54)) := by kernel_rfl
  have hp : Try.prog.stoodInHeld 54 = false := by kernel_rfl
  rw [run_neq_struct, show (10000 : Nat) = 9999 + 1 from rfl, run_equalIn_agg w 9999 54 _ _ hS hp]
  simp only [Program.fieldsOf, Try.underlying54]
  clear hS hp
  go_simp
  simp only [tl_eq]
  by_cases h1 : a = a' <;> by_cases h2 : b = b' <;> simp [h1, h2]

theorem neRuS (w : World) (na : ByteArray) (fr ut mo k wd d sec base save : Int) (le : ByteArray) : (binOp .neq 44 (.agg #[.string na, .int .i64 fr, .int .i64 ut, .int .i64 mo, .int .i64 k, .int .i64 wd, .int .i64 d, .int .i64 sec, .int .i64 base, .int .i64 save, .string le]) (.agg #[.string na, .int .i64 fr, .int .i64 ut, .int .i64 mo, .int .i64 k, .int .i64 wd, .int .i64 d, .int .i64 sec, .int .i64 base, .int .i64 save, .string le])).run Try.prog w = .ok (.bool false) w := by
  have h := neRu w ⟨na, fr, ut, mo, k, wd, d, sec, base, save, le⟩ ⟨na, fr, ut, mo, k, wd, d, sec, base, save, le⟩
  rw [decide_eq_true rfl] at h
  exact h

theorem neErS (w : World) (off kind save : Int) (set fm : ByteArray) (is : Bool) (yr mo k wd d sec base : Int) : (binOp .neq 52 (.agg #[.int .i64 off, .int .i64 kind, .int .i64 save, .string set, .string fm, .bool is, .int .i64 yr, .int .i64 mo, .int .i64 k, .int .i64 wd, .int .i64 d, .int .i64 sec, .int .i64 base]) (.agg #[.int .i64 off, .int .i64 kind, .int .i64 save, .string set, .string fm, .bool is, .int .i64 yr, .int .i64 mo, .int .i64 k, .int .i64 wd, .int .i64 d, .int .i64 sec, .int .i64 base])).run Try.prog w = .ok (.bool false) w := by
  have h := neEr w ⟨off, kind, save, set, fm, is, yr, mo, k, wd, d, sec, base⟩ ⟨off, kind, save, set, fm, is, yr, mo, k, wd, d, sec, base⟩
  rw [decide_eq_true rfl] at h
  exact h

theorem eqErS (w : World) (off kind save : Int) (set fm : ByteArray) (is : Bool) (yr mo k wd d sec base : Int) : (binOp .eql 52 (.agg #[.int .i64 off, .int .i64 kind, .int .i64 save, .string set, .string fm, .bool is, .int .i64 yr, .int .i64 mo, .int .i64 k, .int .i64 wd, .int .i64 d, .int .i64 sec, .int .i64 base]) (.agg #[.int .i64 off, .int .i64 kind, .int .i64 save, .string set, .string fm, .bool is, .int .i64 yr, .int .i64 mo, .int .i64 k, .int .i64 wd, .int .i64 d, .int .i64 sec, .int .i64 base])).run Try.prog w = .ok (.bool true) w := by
  have h := eqEr w ⟨off, kind, save, set, fm, is, yr, mo, k, wd, d, sec, base⟩ ⟨off, kind, save, set, fm, is, yr, mo, k, wd, d, sec, base⟩
  rw [decide_eq_true rfl] at h
  exact h

theorem neLiS (w : World) (a b : ByteArray) : (binOp .neq 54 (.agg #[.string a, .string b]) (.agg #[.string a, .string b])).run Try.prog w = .ok (.bool false) w := by
  have h := neLi w a b a b
  rw [decide_eq_true rfl] at h
  exact h

namespace Sh
theorem Rd.atR {v : Value} {rs : _root_.List Ru} {w : World} {i : Nat} {r : Ru} (h : Rd 11 v rs.length (flatR rs) w) (hr : rs[i]? = some r) : ∃ g off cap, v = .slice (some ⟨g, off, none⟩) rs.length cap ∧ ∀ j u, r.arr.toList[j]? = some u → w.cell? ⟨g, off + i * 11 + j, none⟩ = some u := by
  obtain ⟨_, _, _, ⟨_, _, h0⟩ | ⟨g, off, cap, rfl, hc⟩⟩ := h
  · have := (_root_.List.getElem?_eq_some_iff.1 hr).1; omega
  · refine ⟨g, off, cap, rfl, fun j u hu => ?_⟩
    have hj : j < 11 := (_root_.List.getElem?_eq_some_iff.1 hu).1
    rw [Nat.add_assoc]
    exact hc (i * 11 + j) u (by rw [flatR_at rs i j r hr hj]; exact hu)
theorem Rd.atE {v : Value} {rs : _root_.List Er} {w : World} {i : Nat} {r : Er} (h : Rd 13 v rs.length (flatE rs) w) (hr : rs[i]? = some r) : ∃ g off cap, v = .slice (some ⟨g, off, none⟩) rs.length cap ∧ ∀ j u, r.arr.toList[j]? = some u → w.cell? ⟨g, off + i * 13 + j, none⟩ = some u := by
  obtain ⟨_, _, _, ⟨_, _, h0⟩ | ⟨g, off, cap, rfl, hc⟩⟩ := h
  · have := (_root_.List.getElem?_eq_some_iff.1 hr).1; omega
  · refine ⟨g, off, cap, rfl, fun j u hu => ?_⟩
    have hj : j < 13 := (_root_.List.getElem?_eq_some_iff.1 hu).1
    rw [Nat.add_assoc]
    exact hc (i * 13 + j) u (by rw [flatE_at rs i j r hr hj]; exact hu)
theorem flatL_at (ls : _root_.List (ByteArray × ByteArray)) : ∀ (i j : Nat) (p : ByteArray × ByteArray), ls[i]? = some p → j < 2 → (flatL ls)[i * 2 + j]? = ([.string p.1, .string p.2] : _root_.List Value)[j]? := by
  unfold flatL
  induction ls with
  | nil => intro i j r h; simp at h
  | cons s rs ih =>
    intro i j r h hj
    rw [_root_.List.flatMap_cons]
    have hl : ([.string s.1, .string s.2] : _root_.List Value).length = 2 := rfl
    cases i with
    | zero =>
      simp at h
      subst h
      rw [_root_.List.getElem?_append_left (by omega)]
      congr 1; omega
    | succ i =>
      rw [_root_.List.getElem?_append_right (by omega), hl, show (i + 1) * 2 + j - 2 = i * 2 + j by omega]
      exact ih i j r (by simpa using h) hj
theorem Rd.atL {v : Value} {rs : _root_.List (ByteArray × ByteArray)} {w : World} {i : Nat} {r : ByteArray × ByteArray} (h : Rd 2 v rs.length (flatL rs) w) (hr : rs[i]? = some r) : ∃ g off cap, v = .slice (some ⟨g, off, none⟩) rs.length cap ∧ w.cell? ⟨g, off + i * 2, none⟩ = some (.string r.1) ∧ w.cell? ⟨g, off + i * 2 + 1, none⟩ = some (.string r.2) := by
  obtain ⟨_, _, _, ⟨_, _, h0⟩ | ⟨g, off, cap, rfl, hc⟩⟩ := h
  · have := (_root_.List.getElem?_eq_some_iff.1 hr).1; omega
  · refine ⟨g, off, cap, rfl, ?_, ?_⟩
    · exact hc (i * 2) _ (by have := flatL_at rs i 0 r hr (by omega); exact this)
    · have := hc (i * 2 + 1) _ (by have := flatL_at rs i 1 r hr (by omega); exact this)
      rw [← Nat.add_assoc] at this; exact this
theorem Rd.atN {v : Value} {rs : _root_.List ByteArray} {w : World} {i : Nat} {r : ByteArray} (h : Rd 1 v rs.length (flatN rs) w) (hr : rs[i]? = some r) : ∃ g off cap, v = .slice (some ⟨g, off, none⟩) rs.length cap ∧ w.cell? ⟨g, off + i, none⟩ = some (.string r) := by
  obtain ⟨_, _, _, ⟨_, _, h0⟩ | ⟨g, off, cap, rfl, hc⟩⟩ := h
  · have := (_root_.List.getElem?_eq_some_iff.1 hr).1; omega
  · refine ⟨g, off, cap, rfl, ?_⟩
    exact hc i _ (by unfold flatN; rw [_root_.List.getElem?_map, hr]; rfl)
theorem RdZ.at_ {v : Value} {zs : _root_.List Zn} {w : World} {i : Nat} {z : Zn} (h : RdZ v zs w) (hz : zs[i]? = some z) : ∃ g off cap a c, v = .slice (some ⟨g, off, none⟩) zs.length cap ∧ w.cell? ⟨g, off + i * 2, none⟩ = some (.string z.na) ∧ w.cell? ⟨g, off + i * 2 + 1, none⟩ = some (.slice a z.es.length c) ∧ Rd 13 (.slice a z.es.length c) z.es.length (flatE z.es) w := by
  obtain ⟨ps, hl, ho, hp⟩ := h
  obtain ⟨⟨pn, pv⟩, h1, h2, h3⟩ := hp i z hz
  have h2' : pn = z.na := h2
  subst h2'
  obtain ⟨a, c, hpv⟩ := h3.sl
  have hpv' : pv = .slice a z.es.length c := hpv
  subst hpv'
  obtain ⟨_, _, _, ⟨_, _, h0⟩ | ⟨g, off, cap, rfl, hc⟩⟩ := ho
  · have := (_root_.List.getElem?_eq_some_iff.1 hz).1; omega
  · refine ⟨g, off, cap, a, c, rfl, ?_, ?_, h3⟩
    · exact hc (i * 2) _ (by have := flatZ_at ps i 0 _ h1 (by omega); exact this)
    · have := hc (i * 2 + 1) _ (by have := flatZ_at ps i 1 _ h1 (by omega); exact this)
      rw [← Nat.add_assoc] at this; exact this
theorem Ru.cells {w : World} {g o : Nat} {na : ByteArray} {fr ut mo k wd d sec base save : Int} {le : ByteArray} (h : ∀ j u, (Ru.mk na fr ut mo k wd d sec base save le).arr.toList[j]? = some u → w.cell? ⟨g, o + j, none⟩ = some u) :
    w.cell? ⟨g, o, none⟩ = some (.string na) ∧ w.cell? ⟨g, o + 1, none⟩ = some (.int .i64 fr) ∧ w.cell? ⟨g, o + 2, none⟩ = some (.int .i64 ut) ∧ w.cell? ⟨g, o + 3, none⟩ = some (.int .i64 mo) ∧ w.cell? ⟨g, o + 4, none⟩ = some (.int .i64 k) ∧ w.cell? ⟨g, o + 5, none⟩ = some (.int .i64 wd) ∧ w.cell? ⟨g, o + 6, none⟩ = some (.int .i64 d) ∧ w.cell? ⟨g, o + 7, none⟩ = some (.int .i64 sec) ∧ w.cell? ⟨g, o + 8, none⟩ = some (.int .i64 base) ∧ w.cell? ⟨g, o + 9, none⟩ = some (.int .i64 save) ∧ w.cell? ⟨g, o + 10, none⟩ = some (.string le) :=
  ⟨h 0 _ rfl, h 1 _ rfl, h 2 _ rfl, h 3 _ rfl, h 4 _ rfl, h 5 _ rfl, h 6 _ rfl, h 7 _ rfl, h 8 _ rfl, h 9 _ rfl, h 10 _ rfl⟩
theorem Er.cells {w : World} {g o : Nat} {off kind save : Int} {set fm : ByteArray} {is : Bool} {yr mo k wd d sec base : Int} (h : ∀ j u, (Er.mk off kind save set fm is yr mo k wd d sec base).arr.toList[j]? = some u → w.cell? ⟨g, o + j, none⟩ = some u) :
    w.cell? ⟨g, o, none⟩ = some (.int .i64 off) ∧ w.cell? ⟨g, o + 1, none⟩ = some (.int .i64 kind) ∧ w.cell? ⟨g, o + 2, none⟩ = some (.int .i64 save) ∧ w.cell? ⟨g, o + 3, none⟩ = some (.string set) ∧ w.cell? ⟨g, o + 4, none⟩ = some (.string fm) ∧ w.cell? ⟨g, o + 5, none⟩ = some (.bool is) ∧ w.cell? ⟨g, o + 6, none⟩ = some (.int .i64 yr) ∧ w.cell? ⟨g, o + 7, none⟩ = some (.int .i64 mo) ∧ w.cell? ⟨g, o + 8, none⟩ = some (.int .i64 k) ∧ w.cell? ⟨g, o + 9, none⟩ = some (.int .i64 wd) ∧ w.cell? ⟨g, o + 10, none⟩ = some (.int .i64 d) ∧ w.cell? ⟨g, o + 11, none⟩ = some (.int .i64 sec) ∧ w.cell? ⟨g, o + 12, none⟩ = some (.int .i64 base) :=
  ⟨h 0 _ rfl, h 1 _ rfl, h 2 _ rfl, h 3 _ rfl, h 4 _ rfl, h 5 _ rfl, h 6 _ rfl, h 7 _ rfl, h 8 _ rfl, h 9 _ rfl, h 10 _ rfl, h 11 _ rfl, h 12 _ rfl⟩
theorem bel_drew {A w : World} {B : Nat} (h : Below B A w) (n : Nat) : Below B A (w.drewN n) := ⟨h.os, h.tape, h.output, h.size, h.block⟩
end Sh
end Go.Proofs.Ytdlmlcgmonkdfaa
