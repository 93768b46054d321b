/-
  strconv.Itoa at a digit; a FORMAT by number; an era by numbers (analemmalaw23).
  A FORMAT by number (analemmalaw23.format), in plain words and walked.
  (analemmalaw23.Era).made: an era by numbers.
-/
import Derived.Test.YtdppmeeobpbfnaaDoorErEx
import Derived.Deep.RegionHeld3
import Derived.Deep.DeepCutAuto
import Derived.Deep.MidRow
namespace Go.Proofs.YtdppmeeobpbfnaaDoor
open Go.RowKit Cv
set_option linter.unusedVariables false
set_option linter.unusedSimpArgs false

namespace Cv
/-- a digit as a string -/
def digS (k : Nat) : ByteArray := ⟨#[(48 + k).toUInt8]⟩
end Cv

set_option maxRecDepth 100000 in
set_option maxHeartbeats 4000000 in
theorem small_any (k : Nat) (W : World) (hk : k < 10) : Calls Tryd.prog 46 #[.int .i64 (k : Int)] W fun e w' => e = .returned (.string (digS k)) ∧ Below W.heap.size W w' := by
  have hc : k = 0 ∨ k = 1 ∨ k = 2 ∨ k = 3 ∨ k = 4 ∨ k = 5 ∨ k = 6 ∨ k = 7 ∨ k = 8 ∨ k = 9 := by omega
  rcases hc with rfl | rfl | rfl | rfl | rfl | rfl | rfl | rfl | rfl | rfl
  all_goals
    go_enter Tryd.func46, Tryd.ntmps46
    go_wp2_with fail
    go_ret
    exact ⟨by first | rfl | (unfold digS; rfl) | kernel_rfl, Below.refl _ _⟩
set_option maxRecDepth 100000 in
set_option maxHeartbeats 2000000 in
theorem formatInt_any (k : Nat) (W : World) (hk : k < 10) : Calls Tryd.prog 41 #[.int .i64 (k : Int), .int .i64 10] W fun e w' => e = .returned (.string (digS k)) ∧ Below W.heap.size W w' := by
  have h1 : (0 : Int) ≤ (k : Int) := by omega
  have h2 : (k : Int) < 100 := by omega
  go_enter Tryd.func41, Tryd.ntmps41
  go_wp2_with fail
  refine (small_any k _ hk).mono ?_
  rintro e w1 ⟨rfl, hb⟩
  go_wp2_with fail
  go_ret
  exact ⟨rfl, hb⟩
set_option maxRecDepth 100000 in
set_option maxHeartbeats 2000000 in
theorem itoaI_any (k : Nat) (W : World) (hk : k < 10) : Calls Tryd.prog 31 #[.int .i64 (k : Int)] W fun e w' => e = .returned (.string (digS k)) ∧ Below W.heap.size W w' := by
  go_enter Tryd.func31, Tryd.ntmps31
  go_wp2_with fail
  refine (formatInt_any k _ hk).mono ?_
  rintro e w1 ⟨rfl, hb⟩
  go_wp2_with fail
  go_ret
  exact ⟨rfl, hb⟩
set_option maxRecDepth 100000 in
set_option maxHeartbeats 2000000 in
theorem itoa_any (k : Nat) (W : World) (hk : k < 10) : Calls Tryd.prog 20 #[.int .i64 (k : Int)] W fun e w' => e = .returned (.string (digS k)) ∧ Below W.heap.size W w' := by
  go_enter Tryd.func20, Tryd.ntmps20
  go_wp2_with fail
  refine (itoaI_any k _ hk).mono ?_
  rintro e w1 ⟨rfl, hb⟩
  go_wp2_with fail
  go_ret
  exact ⟨rfl, hb⟩
end Go.Proofs.YtdppmeeobpbfnaaDoor
namespace Go.Proofs.YtdppmeeobpbfnaaDoor
open Go.RowKit Cv
set_option linter.unusedVariables false
set_option linter.unusedSimpArgs false

namespace Cv
/-- the FORMATs -/
def fmtS (n : Int) : ByteArray :=
  if n = 0 then ⟨#[76, 77, 84]⟩ else if n = 1 then ⟨#[71, 77, 84, 47, 66, 83, 84]⟩ else if n = 2 then ⟨#[69, 37, 115, 83, 84]⟩ else if n = 3 then ⟨#[37, 122]⟩ else if n = 4 then ⟨#[67, 69, 84, 47, 67, 69, 83, 84]⟩ else ⟨#[87, 83, 84]⟩
end Cv

set_option maxRecDepth 100000 in
set_option maxHeartbeats 4000000 in
theorem format_any (n : Int) (W : World) (h1 : 0 ≤ n) (h2 : n ≤ 255) : Calls Tryd.prog 32 #[.int .u8 n] W fun e w' => e = .returned (.string (fmtS (n % 6))) ∧ Below W.heap.size W w' := by
  have hc : n % 6 = 0 ∨ n % 6 = 1 ∨ n % 6 = 2 ∨ n % 6 = 3 ∨ n % 6 = 4 ∨ n % 6 = 5 := by omega
  rcases hc with hq | hq | hq | hq | hq | hq
  all_goals
    have ht : n.tmod 6 = n % 6 := Int.tmod_eq_emod_of_nonneg h1
    rw [hq] at ht
    have HQ := Lib.hid hq
    go_enter Tryd.func32, Tryd.ntmps32
    go_wp2_with fail
    go_ret
    exact ⟨by rw [HQ.out]; rfl, bel_alloc _ _⟩
end Go.Proofs.YtdppmeeobpbfnaaDoor
namespace Go.Proofs.YtdppmeeobpbfnaaDoor
open Go.RowKit Cv
set_option linter.unusedVariables false
set_option linter.unusedSimpArgs false

namespace Cv
theorem aln {V : World} {b : Nat} {o : Obj} (h : b = V.heap.size) : (V.alloc o).heap[b]? = some o := by subst h; exact heap_alloc_new V o
theorem get_set_ne {V : World} {p b i : Nat} {x : Value} {O : Obj} (h : V.heap[b]? = some O) (hne : p ≠ b) : (V.setCell ⟨p, i, none⟩ x).heap[b]? = some O := by
  simp [World.setCell, Array.getElem?_modify, hne, h]
theorem get_set {V : World} {p i : Nat} {x : Value} {C F : Array Value} {u : TypeId} (h : V.heap[p]? = some (.cells C u)) (hF : C.setIfInBounds i x = F) : (V.setCell ⟨p, i, none⟩ x).heap[p]? = some (.cells F u) := by
  subst hF
  simp [World.setCell, Array.getElem?_modify, h]
theorem there13 {V : World} {b : Nat} {t : TypeId} {C : Array Value} (h : V.heap[b]? = some (.cells C t)) (hC : C.size = 13) : V.there b 0 13 := by
  intro j hj
  unfold World.cell? World.frozen?
  rw [h]
  have : j < C.size := by omega
  simp [this]
theorem set13c (l : _root_.List Value) (hl : l.length = 13) {V : World} {b : Nat} {t : TypeId} {C : Array Value} (h : V.heap[b]? = some (.cells C t)) (hC : C.size = 13) : (V.setCells b 0 l).heap[b]? = some (.cells l.toArray t) := by
  obtain ⟨c⟩ := C
  match l, hl, c, hC with
  | [d0, d1, d2, d3, d4, d5, d6, d7, d8, d9, d10, d11, d12], _, [a0, a1, a2, a3, a4, a5, a6, a7, a8, a9, a10, a11, a12], _ => simp [World.setCells, World.setCell, Array.getElem?_modify, h]
theorem setcE {V : World} {b o : Nat} {t : TypeId} {cs : Array Value} {v : Value} (h : V.heap[b]? = some (.cells cs t)) : (V.setCell ⟨b, o, none⟩ v).heap[b]? = some (.cells (cs.setIfInBounds o v) t) := by
  simp [World.setCell, Array.getElem?_modify, h]
/-- the kind, the save, the set of an era by numbers -/
def kq (first : Bool) (xk : Int) : Int := if first = true ∧ xk % 3 = 2 then 0 else xk % 3
def svq (q xs : Int) : Int := if q = 1 then 1800 * (1 + xs % 4) else 0
def stq (q xs sets : Int) : ByteArray := if q = 2 then ⟨#[82]⟩ ++ digS (xs % sets).toNat else ⟨#[]⟩
/-- an era by numbers: its cells -/
def eraA (xk xs xf xd xb xo xa : Int) (first end_ : Bool) (sets year : Int) : Array Value :=
  #[.int .i64 (900 * xo.tmod 48), .int .i64 (kq first xk), .int .i64 (svq (kq first xk) xs), .string (stq (kq first xk) xs sets), .string (fmtS (xf % 6)), .bool end_, .int .i64 (if end_ = true then year else 0), .int .i64 (if end_ = true then 1 else 0),
    .int .i64 (if end_ = true then (if 200 ≤ xd then 3 else 1) else 0), .int .i64 (if end_ = true ∧ 200 ≤ xd then xd % 7 else 0), .int .i64 (if end_ = true then (if 200 ≤ xd then 8 else 1 + xd % 20) else 0), .int .i64 (if end_ = true then 900 * (24 + xa.tmod 24) else 0), .int .i64 (if end_ = true then xb % 3 else 0)]
end Cv

theorem untilM_any (y m d : Int) (W : World) : Calls Tryd.prog 14 #[.int .i64 y, .int .i64 m, .int .i64 d] W fun e w' => e = .returned (.agg #[.bool true, .int .i64 y, .int .i64 m, .int .i64 1, .int .i64 0, .int .i64 d, .int .i64 0, .int .i64 0]) ∧ Below W.heap.size W w' := by
  go_enter Tryd.func14, Tryd.ntmps14
  go_wp2_with fail
  refine bodyPost_ret (results_cell_row rfl _ _ _ _ _ _ _ rfl (heap_alloc_new W (.cells #[.bool true, .int .i64 y, .int .i64 m, .int .i64 1, .int .i64 0, .int .i64 d, .int .i64 0, .int .i64 0] 58)) Tryd.underlying58 rfl (by kernel_rfl)) rfl ?_
  exact ⟨rfl, bel_alloc _ _⟩

set_option maxRecDepth 100000 in
set_option maxHeartbeats 8000000 in
theorem eraMade_any (xk xs xf xy xd xb xo xa : Int) (first end_ : Bool) (sets year : Int) (W : World) (f1 : 0 ≤ xf) (f2 : xf ≤ 255) (k1 : 0 ≤ xk) (k2 : xk ≤ 255) (s1 : 0 ≤ xs) (s2 : xs ≤ 255) (t1 : 1 ≤ sets) (t2 : sets ≤ 3) (d1 : 0 ≤ xd) (d2 : xd ≤ 255) (b1 : 0 ≤ xb) (b2 : xb ≤ 255) (a1 : -128 ≤ xa) (a2 : xa ≤ 127) (am1 : -23 ≤ xa.tmod 24) (am2 : xa.tmod 24 ≤ 23) (y1 : 1900 ≤ year) (y2 : year ≤ 2200) (o1 : -128 ≤ xo) (o2 : xo ≤ 127) (hom : -47 ≤ xo.tmod 48) (hom2 : xo.tmod 48 ≤ 47) :
    Calls Tryd.prog 21 #[.agg #[.int .u8 xk, .int .u8 xs, .int .u8 xf, .int .u8 xy, .int .u8 xd, .int .u8 xb, .int .i8 xo, .int .i8 xa], .bool first, .int .i64 sets, .int .i64 year, .bool end_] W fun e w' => e = .returned (.agg (eraA xk xs xf xd xb xo xa first end_ sets year)) ∧ Below W.heap.size W w' := by
  have HB := Lib.hid (show Below W.heap.size W ((W.alloc (.cells #[.int .u8 xk, .int .u8 xs, .int .u8 xf, .int .u8 xy, .int .u8 xd, .int .u8 xb, .int .i8 xo, .int .i8 xa] 74)).alloc (.cells #[.int .i64 0, .int .i64 0, .int .i64 0, .string ⟨#[]⟩, .string ⟨#[]⟩, .bool false, .int .i64 0, .int .i64 0, .int .i64 0, .int .i64 0, .int .i64 0, .int .i64 0, .int .i64 0] 60)) from bel_trans (bel_alloc W _) (bel_alloc _ _))
  have KD := Lib.hid (show ((W.alloc (.cells #[.int .u8 xk, .int .u8 xs, .int .u8 xf, .int .u8 xy, .int .u8 xd, .int .u8 xb, .int .i8 xo, .int .i8 xa] 74)).alloc (.cells #[.int .i64 0, .int .i64 0, .int .i64 0, .string ⟨#[]⟩, .string ⟨#[]⟩, .bool false, .int .i64 0, .int .i64 0, .int .i64 0, .int .i64 0, .int .i64 0, .int .i64 0, .int .i64 0] 60)).heap[W.heap.size]? = some (.cells #[.int .u8 xk, .int .u8 xs, .int .u8 xf, .int .u8 xy, .int .u8 xd, .int .u8 xb, .int .i8 xo, .int .i8 xa] 74) from block_below (heap_alloc_new W _) (bel_alloc _ _))
  have KR := Lib.hid (show ((W.alloc (.cells #[.int .u8 xk, .int .u8 xs, .int .u8 xf, .int .u8 xy, .int .u8 xd, .int .u8 xb, .int .i8 xo, .int .i8 xa] 74)).alloc (.cells #[.int .i64 0, .int .i64 0, .int .i64 0, .string ⟨#[]⟩, .string ⟨#[]⟩, .bool false, .int .i64 0, .int .i64 0, .int .i64 0, .int .i64 0, .int .i64 0, .int .i64 0, .int .i64 0] 60)).heap[W.heap.size + 1]? = some (.cells #[.int .i64 0, .int .i64 0, .int .i64 0, .string ⟨#[]⟩, .string ⟨#[]⟩, .bool false, .int .i64 0, .int .i64 0, .int .i64 0, .int .i64 0, .int .i64 0, .int .i64 0, .int .i64 0] 60) from heap_alloc2_new W _ _)
  have hw1 : IntKind.i64.wrap (900 * xo.tmod 48) = 900 * xo.tmod 48 := IntWalk.i64_in _ (by omega)
  have hw2 : IntKind.i64.wrap (xo.tmod 48) = xo.tmod 48 := IntWalk.i64_in _ (by omega)
  have hw3 : IntKind.i64.wrap (xk % 3) = xk % 3 := IntWalk.i64_in _ (by omega)
  have ht3 : xk.tmod 3 = xk % 3 := Int.tmod_eq_emod_of_nonneg k1
  go_enter Tryd.func21, Tryd.ntmps21
  go_upto_region 1 with fail
  go_cut [11] (fun s w' => ∃ B : Nat, s = .pointer (some ⟨B, 0, none⟩) ∧ Hid (w'.heap[B]? = some (.cells #[.int .i64 (900 * xo.tmod 48), .int .i64 (xk % 3), .int .i64 0, .string ⟨#[]⟩, .string (fmtS (xf % 6)), .bool false, .int .i64 0, .int .i64 0, .int .i64 0, .int .i64 0, .int .i64 0, .int .i64 0, .int .i64 0] 60)) ∧ Hid (w'.heap[W.heap.size]? = some (.cells #[.int .u8 xk, .int .u8 xs, .int .u8 xf, .int .u8 xy, .int .u8 xd, .int .u8 xb, .int .i8 xo, .int .i8 xa] 74)) ∧ Hid (w'.heap[W.heap.size + 1]? = some (.cells #[.int .i64 0, .int .i64 0, .int .i64 0, .string ⟨#[]⟩, .string ⟨#[]⟩, .bool false, .int .i64 0, .int .i64 0, .int .i64 0, .int .i64 0, .int .i64 0, .int .i64 0, .int .i64 0] 60)) ∧ Hid (Below W.heap.size W w') ∧ W.heap.size + 1 < B)
  case first =>
    have hbd : Below ((W.alloc (.cells #[.int .u8 xk, .int .u8 xs, .int .u8 xf, .int .u8 xy, .int .u8 xd, .int .u8 xb, .int .i8 xo, .int .i8 xa] 74)).alloc (.cells #[.int .i64 0, .int .i64 0, .int .i64 0, .string ⟨#[]⟩, .string ⟨#[]⟩, .bool false, .int .i64 0, .int .i64 0, .int .i64 0, .int .i64 0, .int .i64 0, .int .i64 0, .int .i64 0] 60)).heap.size ((W.alloc (.cells #[.int .u8 xk, .int .u8 xs, .int .u8 xf, .int .u8 xy, .int .u8 xd, .int .u8 xb, .int .i8 xo, .int .i8 xa] 74)).alloc (.cells #[.int .i64 0, .int .i64 0, .int .i64 0, .string ⟨#[]⟩, .string ⟨#[]⟩, .bool false, .int .i64 0, .int .i64 0, .int .i64 0, .int .i64 0, .int .i64 0, .int .i64 0, .int .i64 0] 60)) ((W.alloc (.cells #[.int .u8 xk, .int .u8 xs, .int .u8 xf, .int .u8 xy, .int .u8 xd, .int .u8 xb, .int .i8 xo, .int .i8 xa] 74)).alloc (.cells #[.int .i64 0, .int .i64 0, .int .i64 0, .string ⟨#[]⟩, .string ⟨#[]⟩, .bool false, .int .i64 0, .int .i64 0, .int .i64 0, .int .i64 0, .int .i64 0, .int .i64 0, .int .i64 0] 60)).drew := Below.drew (Below.refl _ _)
    have KD := Lib.hid (block_below KD.out hbd)
    have KR := Lib.hid (block_below KR.out hbd)
    have HB := Lib.hid (bel_trans HB.out hbd)
    clear hbd
    refine wp_region_held_drew (S := (fun w' => w'.heap[W.heap.size]? = some (.cells #[.int .u8 xk, .int .u8 xs, .int .u8 xf, .int .u8 xy, .int .u8 xd, .int .u8 xb, .int .i8 xo, .int .i8 xa] 74) ∧ w'.heap[W.heap.size + 1]? = some (.cells #[.int .i64 0, .int .i64 0, .int .i64 0, .string ⟨#[]⟩, .string ⟨#[]⟩, .bool false, .int .i64 0, .int .i64 0, .int .i64 0, .int .i64 0, .int .i64 0, .int .i64 0, .int .i64 0] 60))) (by kernel_rfl) (by exact ⟨KD.out, KR.out⟩) (fun hHeld => ?_)
    refine wpAnyH_take (i := 0) (v := ?_) rfl (by kernel_rfl) (by kernel_rfl) (by kernel_rfl) (fun _ _ _ h => h) (Or.inl ⟨by rfl, ?_⟩) (by assumption) ?_
    rotate_left 1
    · (intro w hSw; obtain ⟨hSa, hSb⟩ := hSw; have s0 := cellB hSa (i := 0) rfl; have s1 := cellB hSa (i := 1) rfl; have s2 := cellB hSa (i := 2) rfl; have s3 := cellB hSa (i := 3) rfl; have s4 := cellB hSa (i := 4) rfl; have s5 := cellB hSa (i := 5) rfl; have s6 := cellB hSa (i := 6) rfl; have s7 := cellB hSa (i := 7) rfl; clear hSa hSb; first | (go_simp; done) | (go_simp; with_reducible rfl))
    try simp only [Act.put, List.getElem_toArray, List.getElem_cons_succ, List.getElem_cons_zero, List.setIfInBounds_toArray, List.set_cons_zero, List.set_cons_succ]
    refine wpAnyH_take (i := 1) (v := ?_) rfl (by kernel_rfl) (by kernel_rfl) (by kernel_rfl) (fun _ _ _ h => h) (Or.inl ⟨by rfl, ?_⟩) (by assumption) ?_
    rotate_left 1
    · (intro w hSw; obtain ⟨hSa, hSb⟩ := hSw; have s0 := cellB hSa (i := 0) rfl; have s1 := cellB hSa (i := 1) rfl; have s2 := cellB hSa (i := 2) rfl; have s3 := cellB hSa (i := 3) rfl; have s4 := cellB hSa (i := 4) rfl; have s5 := cellB hSa (i := 5) rfl; have s6 := cellB hSa (i := 6) rfl; have s7 := cellB hSa (i := 7) rfl; clear hSa hSb; first | (go_simp; done) | (go_simp; with_reducible rfl))
    try simp only [Act.put, List.getElem_toArray, List.getElem_cons_succ, List.getElem_cons_zero, List.setIfInBounds_toArray, List.set_cons_zero, List.set_cons_succ]
    refine wpAnyH_take (i := 2) (v := ?_) rfl (by kernel_rfl) (by kernel_rfl) (by kernel_rfl) (fun _ _ _ h => h) (Or.inl ⟨by rfl, ?_⟩) (by assumption) ?_
    rotate_left 1
    · (intro w hSw; obtain ⟨hSa, hSb⟩ := hSw; have s0 := cellB hSa (i := 0) rfl; have s1 := cellB hSa (i := 1) rfl; have s2 := cellB hSa (i := 2) rfl; have s3 := cellB hSa (i := 3) rfl; have s4 := cellB hSa (i := 4) rfl; have s5 := cellB hSa (i := 5) rfl; have s6 := cellB hSa (i := 6) rfl; have s7 := cellB hSa (i := 7) rfl; clear hSa hSb; first | (go_simp; done) | (go_simp; with_reducible rfl))
    try simp only [Act.put, List.getElem_toArray, List.getElem_cons_succ, List.getElem_cons_zero, List.setIfInBounds_toArray, List.set_cons_zero, List.set_cons_succ]
    refine wpAnyH_take (i := 3) (v := ?_) rfl (by kernel_rfl) (by kernel_rfl) (by kernel_rfl) (fun _ _ _ h => h) (Or.inl ⟨by rfl, ?_⟩) (by assumption) ?_
    rotate_left 1
    · (intro w hSw; obtain ⟨hSa, hSb⟩ := hSw; have s0 := cellB hSa (i := 0) rfl; have s1 := cellB hSa (i := 1) rfl; have s2 := cellB hSa (i := 2) rfl; have s3 := cellB hSa (i := 3) rfl; have s4 := cellB hSa (i := 4) rfl; have s5 := cellB hSa (i := 5) rfl; have s6 := cellB hSa (i := 6) rfl; have s7 := cellB hSa (i := 7) rfl; clear hSa hSb; first | (go_simp; done) | (go_simp; with_reducible rfl))
    try simp only [Act.put, List.getElem_toArray, List.getElem_cons_succ, List.getElem_cons_zero, List.setIfInBounds_toArray, List.set_cons_zero, List.set_cons_succ]
    refine wpAnyH_take (i := 4) (v := ?_) rfl (by kernel_rfl) (by kernel_rfl) (by kernel_rfl) (fun _ _ _ h => h) (Or.inl ⟨by rfl, ?_⟩) (by assumption) ?_
    rotate_left 1
    · (intro w hSw; obtain ⟨hSa, hSb⟩ := hSw; have s0 := cellB hSa (i := 0) rfl; have s1 := cellB hSa (i := 1) rfl; have s2 := cellB hSa (i := 2) rfl; have s3 := cellB hSa (i := 3) rfl; have s4 := cellB hSa (i := 4) rfl; have s5 := cellB hSa (i := 5) rfl; have s6 := cellB hSa (i := 6) rfl; have s7 := cellB hSa (i := 7) rfl; clear hSa hSb; first | (go_simp; done) | (go_simp; with_reducible rfl))
    try simp only [Act.put, List.getElem_toArray, List.getElem_cons_succ, List.getElem_cons_zero, List.setIfInBounds_toArray, List.set_cons_zero, List.set_cons_succ]
    refine wpAnyH_take (i := 5) (v := ?_) rfl (by kernel_rfl) (by kernel_rfl) (by kernel_rfl) (fun _ _ _ h => h) (Or.inl ⟨by rfl, ?_⟩) (by assumption) ?_
    rotate_left 1
    · (intro w hSw; obtain ⟨hSa, hSb⟩ := hSw; have s0 := cellB hSa (i := 0) rfl; have s1 := cellB hSa (i := 1) rfl; have s2 := cellB hSa (i := 2) rfl; have s3 := cellB hSa (i := 3) rfl; have s4 := cellB hSa (i := 4) rfl; have s5 := cellB hSa (i := 5) rfl; have s6 := cellB hSa (i := 6) rfl; have s7 := cellB hSa (i := 7) rfl; clear hSa hSb; first | (go_simp; done) | (go_simp; with_reducible rfl))
    try simp only [Act.put, List.getElem_toArray, List.getElem_cons_succ, List.getElem_cons_zero, List.setIfInBounds_toArray, List.set_cons_zero, List.set_cons_succ]
    refine wpAnyH_take (i := 6) (v := ?_) rfl (by kernel_rfl) (by kernel_rfl) (by kernel_rfl) (fun _ _ _ h => h) (Or.inl ⟨by rfl, ?_⟩) (by assumption) ?_
    rotate_left 1
    · (intro w hSw; obtain ⟨hSa, hSb⟩ := hSw; have s0 := cellB hSa (i := 0) rfl; have s1 := cellB hSa (i := 1) rfl; have s2 := cellB hSa (i := 2) rfl; have s3 := cellB hSa (i := 3) rfl; have s4 := cellB hSa (i := 4) rfl; have s5 := cellB hSa (i := 5) rfl; have s6 := cellB hSa (i := 6) rfl; have s7 := cellB hSa (i := 7) rfl; clear hSa hSb; first | (go_simp; done) | (go_simp; with_reducible rfl))
    try simp only [Act.put, List.getElem_toArray, List.getElem_cons_succ, List.getElem_cons_zero, List.setIfInBounds_toArray, List.set_cons_zero, List.set_cons_succ]
    refine wpAnyH_take (i := 7) (v := ?_) rfl (by kernel_rfl) (by kernel_rfl) (by kernel_rfl) (fun _ _ _ h => h) (Or.inl ⟨by rfl, ?_⟩) (by assumption) ?_
    rotate_left 1
    · (intro w hSw; obtain ⟨hSa, hSb⟩ := hSw; have s0 := cellB hSa (i := 0) rfl; have s1 := cellB hSa (i := 1) rfl; have s2 := cellB hSa (i := 2) rfl; have s3 := cellB hSa (i := 3) rfl; have s4 := cellB hSa (i := 4) rfl; have s5 := cellB hSa (i := 5) rfl; have s6 := cellB hSa (i := 6) rfl; have s7 := cellB hSa (i := 7) rfl; clear hSa hSb; first | (go_simp; done) | (go_simp; with_reducible rfl))
    try simp only [Act.put, List.getElem_toArray, List.getElem_cons_succ, List.getElem_cons_zero, List.setIfInBounds_toArray, List.set_cons_zero, List.set_cons_succ]
    refine wpAnyH_take (i := 8) (v := ?_) rfl (by kernel_rfl) (by kernel_rfl) (by kernel_rfl) (fun _ _ _ h => h) (Or.inl ⟨by rfl, ?_⟩) (by assumption) ?_
    rotate_left 1
    · (intro w hSw; obtain ⟨hSa, hSb⟩ := hSw; have s0 := cellB hSa (i := 0) rfl; have s1 := cellB hSa (i := 1) rfl; have s2 := cellB hSa (i := 2) rfl; have s3 := cellB hSa (i := 3) rfl; have s4 := cellB hSa (i := 4) rfl; have s5 := cellB hSa (i := 5) rfl; have s6 := cellB hSa (i := 6) rfl; have s7 := cellB hSa (i := 7) rfl; clear hSa hSb; first | (go_simp; done) | (go_simp; with_reducible rfl))
    try simp only [Act.put, List.getElem_toArray, List.getElem_cons_succ, List.getElem_cons_zero, List.setIfInBounds_toArray, List.set_cons_zero, List.set_cons_succ]
    refine wpAnyH_take (i := 9) (v := ?_) rfl (by kernel_rfl) (by kernel_rfl) (by kernel_rfl) (fun _ _ _ h => h) (Or.inl ⟨by rfl, ?_⟩) (by assumption) ?_
    rotate_left 1
    · (intro w hSw; obtain ⟨hSa, hSb⟩ := hSw; have s0 := cellB hSa (i := 0) rfl; have s1 := cellB hSa (i := 1) rfl; have s2 := cellB hSa (i := 2) rfl; have s3 := cellB hSa (i := 3) rfl; have s4 := cellB hSa (i := 4) rfl; have s5 := cellB hSa (i := 5) rfl; have s6 := cellB hSa (i := 6) rfl; have s7 := cellB hSa (i := 7) rfl; clear hSa hSb; first | (go_simp; done) | (go_simp; with_reducible rfl))
    try simp only [Act.put, List.getElem_toArray, List.getElem_cons_succ, List.getElem_cons_zero, List.setIfInBounds_toArray, List.set_cons_zero, List.set_cons_succ]
    refine wpAnyH_take (i := 10) (v := ?_) rfl (by kernel_rfl) (by kernel_rfl) (by kernel_rfl) (fun _ _ _ h => h) (Or.inl ⟨by rfl, ?_⟩) (by assumption) ?_
    rotate_left 1
    · (intro w hSw; obtain ⟨hSa, hSb⟩ := hSw; have s0 := cellB hSa (i := 0) rfl; have s1 := cellB hSa (i := 1) rfl; have s2 := cellB hSa (i := 2) rfl; have s3 := cellB hSa (i := 3) rfl; have s4 := cellB hSa (i := 4) rfl; have s5 := cellB hSa (i := 5) rfl; have s6 := cellB hSa (i := 6) rfl; have s7 := cellB hSa (i := 7) rfl; clear hSa hSb; first | (go_simp; done) | (go_simp; with_reducible rfl))
    try simp only [Act.put, List.getElem_toArray, List.getElem_cons_succ, List.getElem_cons_zero, List.setIfInBounds_toArray, List.set_cons_zero, List.set_cons_succ]
    refine wpAnyH_ready (rs := [11, 13]) (by kernel_rfl) (by simp) ?_
    refine (AllReadyH.cons rfl (fun K hK => ?_) (AllReadyH.cons rfl (fun K hK => ?_) AllReadyH.nil))
    · go_simp
      refine (format_any xf _ f1 f2).mono ?_
      rintro e w1 ⟨rfl, hb⟩
      have KD := Lib.hid (block_below KD.out hb)
      have KR := Lib.hid (block_below KR.out hb)
      have HB := Lib.hid (bel_trans HB.out hb)
      go_wp2_with fail
      clear hHeld
      refine hK.out _ _ ?_ (fun hHeld => ?_)
      · exact ⟨KD.out, KR.out⟩
      clear hK K hb
      try simp only [Act.put, List.getElem_toArray, List.getElem_cons_succ, List.getElem_cons_zero, List.setIfInBounds_toArray, List.set_cons_zero, List.set_cons_succ]
      refine wpAnyH_take (i := 12) (v := ?_) rfl (by kernel_rfl) (by kernel_rfl) (by kernel_rfl) (fun _ _ _ h => h) (Or.inl ⟨by rfl, ?_⟩) (by assumption) ?_
      rotate_left 1
      · (intro w hSw; obtain ⟨hSa, hSb⟩ := hSw; have s0 := cellB hSa (i := 0) rfl; have s1 := cellB hSa (i := 1) rfl; have s2 := cellB hSa (i := 2) rfl; have s3 := cellB hSa (i := 3) rfl; have s4 := cellB hSa (i := 4) rfl; have s5 := cellB hSa (i := 5) rfl; have s6 := cellB hSa (i := 6) rfl; have s7 := cellB hSa (i := 7) rfl; clear hSa hSb; first | (go_simp; done) | (go_simp; with_reducible rfl))
      try simp only [Act.put, List.getElem_toArray, List.getElem_cons_succ, List.getElem_cons_zero, List.setIfInBounds_toArray, List.set_cons_zero, List.set_cons_succ]
      refine wpAnyH_ready (rs := [13]) (by kernel_rfl) (by simp) ?_
      refine (AllReadyH.cons rfl (fun K hK => ?_) AllReadyH.nil)
      go_simp
      have hx := bel_alloc w1 (.cells #[.int .i64 0, .int .i64 0, .int .i64 0, .string ⟨#[]⟩, .string ⟨#[]⟩, .bool false, .int .i64 0, .int .i64 0, .int .i64 0, .int .i64 0, .int .i64 0, .int .i64 0, .int .i64 0] 60)
      have KE := Lib.hid (show (w1.alloc (.cells #[.int .i64 0, .int .i64 0, .int .i64 0, .string ⟨#[]⟩, .string ⟨#[]⟩, .bool false, .int .i64 0, .int .i64 0, .int .i64 0, .int .i64 0, .int .i64 0, .int .i64 0, .int .i64 0] 60)).heap[w1.heap.size]? = some (.cells #[.int .i64 0, .int .i64 0, .int .i64 0, .string ⟨#[]⟩, .string ⟨#[]⟩, .bool false, .int .i64 0, .int .i64 0, .int .i64 0, .int .i64 0, .int .i64 0, .int .i64 0, .int .i64 0] 60) from aln (by simp))
      have hlo := Lib.hid (show W.heap.size + 1 < w1.heap.size by have := (Array.getElem?_eq_some_iff.1 KR.out).1; first | exact this | omega | (simp; done) | simpa using this)
      have KD := Lib.hid (block_below KD.out hx)
      have KR := Lib.hid (block_below KR.out hx)
      have HB := Lib.hid (bel_trans HB.out hx)
      clear hHeld
      refine hK.out _ _ ?_ (fun hHeld => ?_)
      · exact ⟨KD.out, KR.out⟩
      clear hK K hx
      try simp only [Act.put, List.getElem_toArray, List.getElem_cons_succ, List.getElem_cons_zero, List.setIfInBounds_toArray, List.set_cons_zero, List.set_cons_succ]
      refine wpAnyH_ready (rs := [14]) (by kernel_rfl) (by simp) ?_
      refine (AllReadyH.cons rfl (fun K hK => ?_) AllReadyH.nil)
      rw [if_pos (by rfl)]
      refine wp_store_mid _ _ _ rfl w1.heap.size 0 #[.int .i64 (900 * xo.tmod 48), .int .i64 (xk % 3), .int .i64 0, .string ⟨#[]⟩, .string (fmtS (xf % 6)), .bool false, .int .i64 0, .int .i64 0, .int .i64 0, .int .i64 0, .int .i64 0, .int .i64 0, .int .i64 0] rfl rfl (there13 KE.out rfl) (by kernel_rfl) (by simp [Value.oneCell']) ?_
      clear hHeld
      refine hK.out _ _ ?_ (fun hHeld => ?_)
      · exact ⟨block_setCells KD.out (by have := hlo.out; omega), block_setCells KR.out (by have := hlo.out; omega)⟩
      clear hK K
      try simp only [Act.put, List.getElem_toArray, List.getElem_cons_succ, List.getElem_cons_zero, List.setIfInBounds_toArray, List.set_cons_zero, List.set_cons_succ]
      refine wpAnyH_done (by kernel_rfl) ?_ _
      go_wp2_with fail
      go_meet
      case rel => exact ⟨w1.heap.size, rfl, Lib.hid (set13c [.int .i64 (900 * xo.tmod 48), .int .i64 (xk % 3), .int .i64 0, .string ⟨#[]⟩, .string (fmtS (xf % 6)), .bool false, .int .i64 0, .int .i64 0, .int .i64 0, .int .i64 0, .int .i64 0, .int .i64 0, .int .i64 0] rfl KE.out rfl), Lib.hid (block_setCells (o := 0) (l := [.int .i64 (900 * xo.tmod 48), .int .i64 (xk % 3), .int .i64 0, .string ⟨#[]⟩, .string (fmtS (xf % 6)), .bool false, .int .i64 0, .int .i64 0, .int .i64 0, .int .i64 0, .int .i64 0, .int .i64 0, .int .i64 0]) KD.out (by have := hlo.out; omega)), Lib.hid (block_setCells (o := 0) (l := [.int .i64 (900 * xo.tmod 48), .int .i64 (xk % 3), .int .i64 0, .string ⟨#[]⟩, .string (fmtS (xf % 6)), .bool false, .int .i64 0, .int .i64 0, .int .i64 0, .int .i64 0, .int .i64 0, .int .i64 0, .int .i64 0]) KR.out (by have := hlo.out; omega)), Lib.hid (bel_setCells (o := 0) (l := [.int .i64 (900 * xo.tmod 48), .int .i64 (xk % 3), .int .i64 0, .string ⟨#[]⟩, .string (fmtS (xf % 6)), .bool false, .int .i64 0, .int .i64 0, .int .i64 0, .int .i64 0, .int .i64 0, .int .i64 0, .int .i64 0]) HB.out (by have := hlo.out; omega)), hlo.out⟩
    · go_simp
      have hx := bel_alloc ((W.alloc (.cells #[.int .u8 xk, .int .u8 xs, .int .u8 xf, .int .u8 xy, .int .u8 xd, .int .u8 xb, .int .i8 xo, .int .i8 xa] 74)).alloc (.cells #[.int .i64 0, .int .i64 0, .int .i64 0, .string ⟨#[]⟩, .string ⟨#[]⟩, .bool false, .int .i64 0, .int .i64 0, .int .i64 0, .int .i64 0, .int .i64 0, .int .i64 0, .int .i64 0] 60)).drew (.cells #[.int .i64 0, .int .i64 0, .int .i64 0, .string ⟨#[]⟩, .string ⟨#[]⟩, .bool false, .int .i64 0, .int .i64 0, .int .i64 0, .int .i64 0, .int .i64 0, .int .i64 0, .int .i64 0] 60)
      have KE := Lib.hid (show (((W.alloc (.cells #[.int .u8 xk, .int .u8 xs, .int .u8 xf, .int .u8 xy, .int .u8 xd, .int .u8 xb, .int .i8 xo, .int .i8 xa] 74)).alloc (.cells #[.int .i64 0, .int .i64 0, .int .i64 0, .string ⟨#[]⟩, .string ⟨#[]⟩, .bool false, .int .i64 0, .int .i64 0, .int .i64 0, .int .i64 0, .int .i64 0, .int .i64 0, .int .i64 0] 60)).drew.alloc (.cells #[.int .i64 0, .int .i64 0, .int .i64 0, .string ⟨#[]⟩, .string ⟨#[]⟩, .bool false, .int .i64 0, .int .i64 0, .int .i64 0, .int .i64 0, .int .i64 0, .int .i64 0, .int .i64 0] 60)).heap[(W.heap.size + 1 + 1)]? = some (.cells #[.int .i64 0, .int .i64 0, .int .i64 0, .string ⟨#[]⟩, .string ⟨#[]⟩, .bool false, .int .i64 0, .int .i64 0, .int .i64 0, .int .i64 0, .int .i64 0, .int .i64 0, .int .i64 0] 60) from aln (by simp))
      have hlo := Lib.hid (show W.heap.size + 1 < (W.heap.size + 1 + 1) by have := (Array.getElem?_eq_some_iff.1 KR.out).1; first | exact this | omega | (simp; done) | simpa using this)
      have KD := Lib.hid (block_below KD.out hx)
      have KR := Lib.hid (block_below KR.out hx)
      have HB := Lib.hid (bel_trans HB.out hx)
      clear hHeld
      refine hK.out _ _ ?_ (fun hHeld => ?_)
      · exact ⟨KD.out, KR.out⟩
      clear hK K hx
      try simp only [Act.put, List.getElem_toArray, List.getElem_cons_succ, List.getElem_cons_zero, List.setIfInBounds_toArray, List.set_cons_zero, List.set_cons_succ]
      refine wpAnyH_ready (rs := [11]) (by kernel_rfl) (by simp) ?_
      refine (AllReadyH.cons rfl (fun K hK => ?_) AllReadyH.nil)
      go_simp
      refine (format_any xf _ f1 f2).mono ?_
      rintro e w1 ⟨rfl, hb⟩
      have KD := Lib.hid (block_below KD.out hb)
      have KR := Lib.hid (block_below KR.out hb)
      have HB := Lib.hid (bel_trans HB.out hb)
      have KE := Lib.hid (block_below KE.out hb)
      go_wp2_with fail
      clear hHeld
      refine hK.out _ _ ?_ (fun hHeld => ?_)
      · exact ⟨KD.out, KR.out⟩
      clear hK K hb
      try simp only [Act.put, List.getElem_toArray, List.getElem_cons_succ, List.getElem_cons_zero, List.setIfInBounds_toArray, List.set_cons_zero, List.set_cons_succ]
      refine wpAnyH_take (i := 12) (v := ?_) rfl (by kernel_rfl) (by kernel_rfl) (by kernel_rfl) (fun _ _ _ h => h) (Or.inl ⟨by rfl, ?_⟩) (by assumption) ?_
      rotate_left 1
      · (intro w hSw; obtain ⟨hSa, hSb⟩ := hSw; have s0 := cellB hSa (i := 0) rfl; have s1 := cellB hSa (i := 1) rfl; have s2 := cellB hSa (i := 2) rfl; have s3 := cellB hSa (i := 3) rfl; have s4 := cellB hSa (i := 4) rfl; have s5 := cellB hSa (i := 5) rfl; have s6 := cellB hSa (i := 6) rfl; have s7 := cellB hSa (i := 7) rfl; clear hSa hSb; first | (go_simp; done) | (go_simp; with_reducible rfl))
      try simp only [Act.put, List.getElem_toArray, List.getElem_cons_succ, List.getElem_cons_zero, List.setIfInBounds_toArray, List.set_cons_zero, List.set_cons_succ]
      refine wpAnyH_ready (rs := [14]) (by kernel_rfl) (by simp) ?_
      refine (AllReadyH.cons rfl (fun K hK => ?_) AllReadyH.nil)
      rw [if_pos (by rfl)]
      refine wp_store_mid _ _ _ rfl (W.heap.size + 1 + 1) 0 #[.int .i64 (900 * xo.tmod 48), .int .i64 (xk % 3), .int .i64 0, .string ⟨#[]⟩, .string (fmtS (xf % 6)), .bool false, .int .i64 0, .int .i64 0, .int .i64 0, .int .i64 0, .int .i64 0, .int .i64 0, .int .i64 0] rfl rfl (there13 KE.out rfl) (by kernel_rfl) (by simp [Value.oneCell']) ?_
      clear hHeld
      refine hK.out _ _ ?_ (fun hHeld => ?_)
      · exact ⟨block_setCells KD.out (by have := hlo.out; omega), block_setCells KR.out (by have := hlo.out; omega)⟩
      clear hK K
      try simp only [Act.put, List.getElem_toArray, List.getElem_cons_succ, List.getElem_cons_zero, List.setIfInBounds_toArray, List.set_cons_zero, List.set_cons_succ]
      refine wpAnyH_done (by kernel_rfl) ?_ _
      go_wp2_with fail
      go_meet
      case rel => exact ⟨(W.heap.size + 1 + 1), rfl, Lib.hid (set13c [.int .i64 (900 * xo.tmod 48), .int .i64 (xk % 3), .int .i64 0, .string ⟨#[]⟩, .string (fmtS (xf % 6)), .bool false, .int .i64 0, .int .i64 0, .int .i64 0, .int .i64 0, .int .i64 0, .int .i64 0, .int .i64 0] rfl KE.out rfl), Lib.hid (block_setCells (o := 0) (l := [.int .i64 (900 * xo.tmod 48), .int .i64 (xk % 3), .int .i64 0, .string ⟨#[]⟩, .string (fmtS (xf % 6)), .bool false, .int .i64 0, .int .i64 0, .int .i64 0, .int .i64 0, .int .i64 0, .int .i64 0, .int .i64 0]) KD.out (by have := hlo.out; omega)), Lib.hid (block_setCells (o := 0) (l := [.int .i64 (900 * xo.tmod 48), .int .i64 (xk % 3), .int .i64 0, .string ⟨#[]⟩, .string (fmtS (xf % 6)), .bool false, .int .i64 0, .int .i64 0, .int .i64 0, .int .i64 0, .int .i64 0, .int .i64 0, .int .i64 0]) KR.out (by have := hlo.out; omega)), Lib.hid (bel_setCells (o := 0) (l := [.int .i64 (900 * xo.tmod 48), .int .i64 (xk % 3), .int .i64 0, .string ⟨#[]⟩, .string (fmtS (xf % 6)), .bool false, .int .i64 0, .int .i64 0, .int .i64 0, .int .i64 0, .int .i64 0, .int .i64 0, .int .i64 0]) HB.out (by have := hlo.out; omega)), hlo.out⟩
  case rest =>
    obtain ⟨B, rfl, KE, KD, KR, HB, hBl⟩ := hcut
    have hxs4 : 0 ≤ xs % 4 ∧ xs % 4 < 4 := by omega
    have ht4 : xs.tmod 4 = xs % 4 := Int.tmod_eq_emod_of_nonneg s1
    obtain ⟨m, hm⟩ : ∃ m : Nat, xs % sets = (m : Int) := ⟨(xs % sets).toNat, by have := Int.emod_nonneg xs (show sets ≠ 0 by omega); omega⟩
    have hm3 : m < 10 := by have := Int.emod_lt_of_pos xs (show 0 < sets by omega); omega
    have ht5 : xs.tmod sets = (m : Int) := by rw [Int.tmod_eq_emod_of_nonneg s1, hm]
    have hs0 : ¬ sets = 0 := by omega
    have hs00 : (sets == 0) = false := by simp; omega
    have hkk : xk % 3 = 0 ∨ xk % 3 = 1 ∨ xk % 3 = 2 := by omega
    have hB1 : B ≠ W.heap.size := by omega
    have hB2 : B ≠ W.heap.size + 1 := by omega
    have hB3 : W.heap.size ≤ B := by omega
    clear hw1 hw2 hw3 ht3
    go_step
    go_step
    go_cut [30] (fun _ w' => ∃ q : Int, Hid (q = kq first xk) ∧ Hid (w'.heap[B]? = some (.cells #[.int .i64 (900 * xo.tmod 48), .int .i64 q, .int .i64 0, .string ⟨#[]⟩, .string (fmtS (xf % 6)), .bool false, .int .i64 0, .int .i64 0, .int .i64 0, .int .i64 0, .int .i64 0, .int .i64 0, .int .i64 0] 60)) ∧ Hid (w'.heap[W.heap.size]? = some (.cells #[.int .u8 xk, .int .u8 xs, .int .u8 xf, .int .u8 xy, .int .u8 xd, .int .u8 xb, .int .i8 xo, .int .i8 xa] 74)) ∧ Hid (w'.heap[W.heap.size + 1]? = some (.cells #[.int .i64 0, .int .i64 0, .int .i64 0, .string ⟨#[]⟩, .string ⟨#[]⟩, .bool false, .int .i64 0, .int .i64 0, .int .i64 0, .int .i64 0, .int .i64 0, .int .i64 0, .int .i64 0] 60)) ∧ Hid (Below W.heap.size W w'))
    case first =>
      have c0 := cellB KE.out (i := 0) rfl
      have c1 := cellB KE.out (i := 1) rfl
      have c2 := cellB KE.out (i := 2) rfl
      have c3 := cellB KE.out (i := 3) rfl
      have c4 := cellB KE.out (i := 4) rfl
      have c5 := cellB KE.out (i := 5) rfl
      have c6 := cellB KE.out (i := 6) rfl
      have c7 := cellB KE.out (i := 7) rfl
      have c8 := cellB KE.out (i := 8) rfl
      have c9 := cellB KE.out (i := 9) rfl
      have c10 := cellB KE.out (i := 10) rfl
      have c11 := cellB KE.out (i := 11) rfl
      have c12 := cellB KE.out (i := 12) rfl
      have f0 := frzB KE.out 0
      have f1 := frzB KE.out 1
      have f2 := frzB KE.out 2
      have f3 := frzB KE.out 3
      have f4 := frzB KE.out 4
      have f5 := frzB KE.out 5
      have f6 := frzB KE.out 6
      have f7 := frzB KE.out 7
      have f8 := frzB KE.out 8
      have f9 := frzB KE.out 9
      have f10 := frzB KE.out 10
      have f11 := frzB KE.out 11
      have f12 := frzB KE.out 12
      have d0 := cellB KD.out (i := 0) rfl
      have d1 := cellB KD.out (i := 1) rfl
      have d2 := cellB KD.out (i := 2) rfl
      have d3 := cellB KD.out (i := 3) rfl
      have d4 := cellB KD.out (i := 4) rfl
      have d5 := cellB KD.out (i := 5) rfl
      have d6 := cellB KD.out (i := 6) rfl
      have d7 := cellB KD.out (i := 7) rfl
      cases first
      · go_wp2_with fail
        go_meet
        case rel => exact ⟨_, Lib.hid (by simp [kq]), KE, KD, KR, HB⟩
      · rcases hkk with hk | hk | hk
        · rw [hk] at KE c1
          go_wp2_with fail
          go_meet
          case rel => exact ⟨_, Lib.hid (by simp [kq, hk]), KE, KD, KR, HB⟩
        · rw [hk] at KE c1
          go_wp2_with fail
          go_meet
          case rel => exact ⟨_, Lib.hid (by simp [kq, hk]), KE, KD, KR, HB⟩
        · rw [hk] at KE c1
          go_wp2_with fail
          clear c0 f0 c1 f1 c2 f2 c3 f3 c4 f4 c5 f5 c6 f6 c7 f7 c8 f8 c9 f9 c10 f10 c11 f11 c12 f12 d0 d1 d2 d3 d4 d5 d6 d7
          have KE2 := Lib.hid (setcE (o := 1) (v := .int .i64 0) KE.out)
          replace KD := Lib.hid (get_set_ne (p := B) (b := W.heap.size) (i := 1) (x := .int .i64 0) KD.out hB1)
          replace KR := Lib.hid (get_set_ne (p := B) (b := W.heap.size + 1) (i := 1) (x := .int .i64 0) KR.out hB2)
          replace HB := Lib.hid (Below.setCell HB.out (p := ⟨B, 1, none⟩) hB3 (.int .i64 0))
          clear KE
          generalize wc.setCell ⟨B, 1, none⟩ (.int .i64 0) = V1 at *
          have KE : Hid (V1.heap[B]? = some (.cells #[.int .i64 (900 * xo.tmod 48), .int .i64 0, .int .i64 0, .string ⟨#[]⟩, .string (fmtS (xf % 6)), .bool false, .int .i64 0, .int .i64 0, .int .i64 0, .int .i64 0, .int .i64 0, .int .i64 0, .int .i64 0] 60)) := KE2
          clear KE2
          go_meet
          case rel => exact ⟨_, Lib.hid (by simp [kq, hk]), KE, KD, KR, HB⟩
    case rest =>
      clear KE KD KR HB
      obtain ⟨q, HQ, KE, KD, KR, HB⟩ := hcut
      have hq : q = 0 ∨ q = 1 ∨ q = 2 := by rw [HQ.out]; unfold kq; split <;> omega
      clear hkk
      go_step
      go_step
      go_cut [34] (fun _ w' => ∃ (sv : Int) (st : ByteArray), Hid (sv = svq q xs ∧ st = stq q xs sets) ∧ Hid (w'.heap[B]? = some (.cells #[.int .i64 (900 * xo.tmod 48), .int .i64 q, .int .i64 sv, .string st, .string (fmtS (xf % 6)), .bool false, .int .i64 0, .int .i64 0, .int .i64 0, .int .i64 0, .int .i64 0, .int .i64 0, .int .i64 0] 60)) ∧ Hid (w'.heap[W.heap.size]? = some (.cells #[.int .u8 xk, .int .u8 xs, .int .u8 xf, .int .u8 xy, .int .u8 xd, .int .u8 xb, .int .i8 xo, .int .i8 xa] 74)) ∧ Hid (w'.heap[W.heap.size + 1]? = some (.cells #[.int .i64 0, .int .i64 0, .int .i64 0, .string ⟨#[]⟩, .string ⟨#[]⟩, .bool false, .int .i64 0, .int .i64 0, .int .i64 0, .int .i64 0, .int .i64 0, .int .i64 0, .int .i64 0] 60)) ∧ Hid (Below W.heap.size W w'))
      case first =>
        have c0 := cellB KE.out (i := 0) rfl
        have c1 := cellB KE.out (i := 1) rfl
        have c2 := cellB KE.out (i := 2) rfl
        have c3 := cellB KE.out (i := 3) rfl
        have c4 := cellB KE.out (i := 4) rfl
        have c5 := cellB KE.out (i := 5) rfl
        have c6 := cellB KE.out (i := 6) rfl
        have c7 := cellB KE.out (i := 7) rfl
        have c8 := cellB KE.out (i := 8) rfl
        have c9 := cellB KE.out (i := 9) rfl
        have c10 := cellB KE.out (i := 10) rfl
        have c11 := cellB KE.out (i := 11) rfl
        have c12 := cellB KE.out (i := 12) rfl
        have f0 := frzB KE.out 0
        have f1 := frzB KE.out 1
        have f2 := frzB KE.out 2
        have f3 := frzB KE.out 3
        have f4 := frzB KE.out 4
        have f5 := frzB KE.out 5
        have f6 := frzB KE.out 6
        have f7 := frzB KE.out 7
        have f8 := frzB KE.out 8
        have f9 := frzB KE.out 9
        have f10 := frzB KE.out 10
        have f11 := frzB KE.out 11
        have f12 := frzB KE.out 12
        have d0 := cellB KD.out (i := 0) rfl
        have d1 := cellB KD.out (i := 1) rfl
        have d2 := cellB KD.out (i := 2) rfl
        have d3 := cellB KD.out (i := 3) rfl
        have d4 := cellB KD.out (i := 4) rfl
        have d5 := cellB KD.out (i := 5) rfl
        have d6 := cellB KD.out (i := 6) rfl
        have d7 := cellB KD.out (i := 7) rfl
        rcases hq with hq | hq | hq
        · subst hq
          go_wp2_with fail
          go_meet
          case rel => exact ⟨_, _, Lib.hid ⟨by simp [svq], by simp [stq]⟩, KE, KD, KR, HB⟩
        · subst hq
          go_wp2_with fail
          clear c0 f0 c1 f1 c2 f2 c3 f3 c4 f4 c5 f5 c6 f6 c7 f7 c8 f8 c9 f9 c10 f10 c11 f11 c12 f12 d0 d1 d2 d3 d4 d5 d6 d7
          have KE2 := Lib.hid (setcE (o := 2) (v := .int .i64 (1800 * (1 + xs % 4))) KE.out)
          replace KD := Lib.hid (get_set_ne (p := B) (b := W.heap.size) (i := 2) (x := .int .i64 (1800 * (1 + xs % 4))) KD.out hB1)
          replace KR := Lib.hid (get_set_ne (p := B) (b := W.heap.size + 1) (i := 2) (x := .int .i64 (1800 * (1 + xs % 4))) KR.out hB2)
          replace HB := Lib.hid (Below.setCell HB.out (p := ⟨B, 2, none⟩) hB3 (.int .i64 (1800 * (1 + xs % 4))))
          clear KE
          generalize wc.setCell ⟨B, 2, none⟩ (.int .i64 (1800 * (1 + xs % 4))) = V1 at *
          have KE : Hid (V1.heap[B]? = some (.cells #[.int .i64 (900 * xo.tmod 48), .int .i64 1, .int .i64 (1800 * (1 + xs % 4)), .string ⟨#[]⟩, .string (fmtS (xf % 6)), .bool false, .int .i64 0, .int .i64 0, .int .i64 0, .int .i64 0, .int .i64 0, .int .i64 0, .int .i64 0] 60)) := KE2
          clear KE2
          go_meet
          case rel => exact ⟨_, _, Lib.hid ⟨by simp [svq], by simp [stq]⟩, KE, KD, KR, HB⟩
        · subst hq
          go_wp2_with fail
          refine (itoa_any m _ hm3).mono ?_
          rintro e w5 ⟨rfl, hb⟩
          replace KE := Lib.hid (block_below KE.out hb)
          replace KD := Lib.hid (block_below KD.out hb)
          replace KR := Lib.hid (block_below KR.out hb)
          replace HB := Lib.hid (bel_trans HB.out hb)
          clear hb c0 f0 c1 f1 c2 f2 c3 f3 c4 f4 c5 f5 c6 f6 c7 f7 c8 f8 c9 f9 c10 f10 c11 f11 c12 f12 d0 d1 d2 d3 d4 d5 d6 d7
          have c0 := cellB KE.out (i := 0) rfl
          have c1 := cellB KE.out (i := 1) rfl
          have c2 := cellB KE.out (i := 2) rfl
          have c3 := cellB KE.out (i := 3) rfl
          have c4 := cellB KE.out (i := 4) rfl
          have c5 := cellB KE.out (i := 5) rfl
          have c6 := cellB KE.out (i := 6) rfl
          have c7 := cellB KE.out (i := 7) rfl
          have c8 := cellB KE.out (i := 8) rfl
          have c9 := cellB KE.out (i := 9) rfl
          have c10 := cellB KE.out (i := 10) rfl
          have c11 := cellB KE.out (i := 11) rfl
          have c12 := cellB KE.out (i := 12) rfl
          have f0 := frzB KE.out 0
          have f1 := frzB KE.out 1
          have f2 := frzB KE.out 2
          have f3 := frzB KE.out 3
          have f4 := frzB KE.out 4
          have f5 := frzB KE.out 5
          have f6 := frzB KE.out 6
          have f7 := frzB KE.out 7
          have f8 := frzB KE.out 8
          have f9 := frzB KE.out 9
          have f10 := frzB KE.out 10
          have f11 := frzB KE.out 11
          have f12 := frzB KE.out 12
          have d0 := cellB KD.out (i := 0) rfl
          have d1 := cellB KD.out (i := 1) rfl
          have d2 := cellB KD.out (i := 2) rfl
          have d3 := cellB KD.out (i := 3) rfl
          have d4 := cellB KD.out (i := 4) rfl
          have d5 := cellB KD.out (i := 5) rfl
          have d6 := cellB KD.out (i := 6) rfl
          have d7 := cellB KD.out (i := 7) rfl
          go_wp2_with fail
          clear c0 f0 c1 f1 c2 f2 c3 f3 c4 f4 c5 f5 c6 f6 c7 f7 c8 f8 c9 f9 c10 f10 c11 f11 c12 f12 d0 d1 d2 d3 d4 d5 d6 d7
          have KE2 := Lib.hid (setcE (o := 3) (v := .string (⟨#[82]⟩ ++ digS m)) KE.out)
          replace KD := Lib.hid (get_set_ne (p := B) (b := W.heap.size) (i := 3) (x := .string (⟨#[82]⟩ ++ digS m)) KD.out hB1)
          replace KR := Lib.hid (get_set_ne (p := B) (b := W.heap.size + 1) (i := 3) (x := .string (⟨#[82]⟩ ++ digS m)) KR.out hB2)
          replace HB := Lib.hid (Below.setCell HB.out (p := ⟨B, 3, none⟩) hB3 (.string (⟨#[82]⟩ ++ digS m)))
          clear KE
          generalize w5.setCell ⟨B, 3, none⟩ (.string (⟨#[82]⟩ ++ digS m)) = V1 at *
          have KE : Hid (V1.heap[B]? = some (.cells #[.int .i64 (900 * xo.tmod 48), .int .i64 2, .int .i64 0, .string (⟨#[82]⟩ ++ digS m), .string (fmtS (xf % 6)), .bool false, .int .i64 0, .int .i64 0, .int .i64 0, .int .i64 0, .int .i64 0, .int .i64 0, .int .i64 0] 60)) := KE2
          clear KE2
          go_meet
          case rel => exact ⟨_, _, Lib.hid ⟨by simp [svq], by simp [stq, hm]⟩, KE, KD, KR, HB⟩
      case rest =>
        clear KE KD KR HB
        obtain ⟨sv, st, HSV, KE, KD, KR, HB⟩ := hcut
        go_step
        go_step
        go_cut [53] (fun _ w' => ∃ uy um uk uw ud us ub : Int, Hid (uy = (if end_ = true then year else 0) ∧ um = (if end_ = true then 1 else 0) ∧ uk = (if end_ = true then (if 200 ≤ xd then 3 else 1) else 0) ∧ uw = (if end_ = true ∧ 200 ≤ xd then xd % 7 else 0) ∧ ud = (if end_ = true then (if 200 ≤ xd then 8 else 1 + xd % 20) else 0) ∧ us = (if end_ = true then 900 * (24 + xa.tmod 24) else 0) ∧ ub = (if end_ = true then xb % 3 else 0)) ∧ Hid (w'.heap[B]? = some (.cells #[.int .i64 (900 * xo.tmod 48), .int .i64 q, .int .i64 sv, .string st, .string (fmtS (xf % 6)), .bool end_, .int .i64 uy, .int .i64 um, .int .i64 uk, .int .i64 uw, .int .i64 ud, .int .i64 us, .int .i64 ub] 60)) ∧ Hid (w'.heap[W.heap.size]? = some (.cells #[.int .u8 xk, .int .u8 xs, .int .u8 xf, .int .u8 xy, .int .u8 xd, .int .u8 xb, .int .i8 xo, .int .i8 xa] 74)) ∧ Hid (w'.heap[W.heap.size + 1]? = some (.cells #[.int .i64 0, .int .i64 0, .int .i64 0, .string ⟨#[]⟩, .string ⟨#[]⟩, .bool false, .int .i64 0, .int .i64 0, .int .i64 0, .int .i64 0, .int .i64 0, .int .i64 0, .int .i64 0] 60)) ∧ Hid (Below W.heap.size W w'))
        case first =>
          cases end_
          · go_wp2_with fail
            go_meet
            case rel => exact ⟨0, 0, 0, 0, 0, 0, 0, Lib.hid (by simp), KE, KD, KR, HB⟩
          · skip
            have c0 := cellB KE.out (i := 0) rfl
            have c1 := cellB KE.out (i := 1) rfl
            have c2 := cellB KE.out (i := 2) rfl
            have c3 := cellB KE.out (i := 3) rfl
            have c4 := cellB KE.out (i := 4) rfl
            have c5 := cellB KE.out (i := 5) rfl
            have c6 := cellB KE.out (i := 6) rfl
            have c7 := cellB KE.out (i := 7) rfl
            have c8 := cellB KE.out (i := 8) rfl
            have c9 := cellB KE.out (i := 9) rfl
            have c10 := cellB KE.out (i := 10) rfl
            have c11 := cellB KE.out (i := 11) rfl
            have c12 := cellB KE.out (i := 12) rfl
            have f0 := frzB KE.out 0
            have f1 := frzB KE.out 1
            have f2 := frzB KE.out 2
            have f3 := frzB KE.out 3
            have f4 := frzB KE.out 4
            have f5 := frzB KE.out 5
            have f6 := frzB KE.out 6
            have f7 := frzB KE.out 7
            have f8 := frzB KE.out 8
            have f9 := frzB KE.out 9
            have f10 := frzB KE.out 10
            have f11 := frzB KE.out 11
            have f12 := frzB KE.out 12
            have d0 := cellB KD.out (i := 0) rfl
            have d1 := cellB KD.out (i := 1) rfl
            have d2 := cellB KD.out (i := 2) rfl
            have d3 := cellB KD.out (i := 3) rfl
            have d4 := cellB KD.out (i := 4) rfl
            have d5 := cellB KD.out (i := 5) rfl
            have d6 := cellB KD.out (i := 6) rfl
            have d7 := cellB KD.out (i := 7) rfl
            go_wp2_with fail
            refine (untilM_any _ _ _ _).mono ?_
            rintro e w5 ⟨rfl, hb⟩
            replace KE := Lib.hid (block_below KE.out hb)
            replace KD := Lib.hid (block_below KD.out hb)
            replace KR := Lib.hid (block_below KR.out hb)
            replace HB := Lib.hid (bel_trans HB.out hb)
            clear hb c0 f0 c1 f1 c2 f2 c3 f3 c4 f4 c5 f5 c6 f6 c7 f7 c8 f8 c9 f9 c10 f10 c11 f11 c12 f12 d0 d1 d2 d3 d4 d5 d6 d7
            have c0 := cellB KE.out (i := 0) rfl
            have c1 := cellB KE.out (i := 1) rfl
            have c2 := cellB KE.out (i := 2) rfl
            have c3 := cellB KE.out (i := 3) rfl
            have c4 := cellB KE.out (i := 4) rfl
            have c5 := cellB KE.out (i := 5) rfl
            have c6 := cellB KE.out (i := 6) rfl
            have c7 := cellB KE.out (i := 7) rfl
            have c8 := cellB KE.out (i := 8) rfl
            have c9 := cellB KE.out (i := 9) rfl
            have c10 := cellB KE.out (i := 10) rfl
            have c11 := cellB KE.out (i := 11) rfl
            have c12 := cellB KE.out (i := 12) rfl
            have f0 := frzB KE.out 0
            have f1 := frzB KE.out 1
            have f2 := frzB KE.out 2
            have f3 := frzB KE.out 3
            have f4 := frzB KE.out 4
            have f5 := frzB KE.out 5
            have f6 := frzB KE.out 6
            have f7 := frzB KE.out 7
            have f8 := frzB KE.out 8
            have f9 := frzB KE.out 9
            have f10 := frzB KE.out 10
            have f11 := frzB KE.out 11
            have f12 := frzB KE.out 12
            have d0 := cellB KD.out (i := 0) rfl
            have d1 := cellB KD.out (i := 1) rfl
            have d2 := cellB KD.out (i := 2) rfl
            have d3 := cellB KD.out (i := 3) rfl
            have d4 := cellB KD.out (i := 4) rfl
            have d5 := cellB KD.out (i := 5) rfl
            have d6 := cellB KD.out (i := 6) rfl
            have d7 := cellB KD.out (i := 7) rfl
            go_upto_region 11 with fail
            clear c0 f0 c1 f1 c2 f2 c3 f3 c4 f4 c5 f5 c6 f6 c7 f7 c8 f8 c9 f9 c10 f10 c11 f11 c12 f12 d0 d1 d2 d3 d4 d5 d6 d7
            have KE2 := Lib.hid (setcE (o := 12) (v := .int .i64 0) (setcE (o := 11) (v := .int .i64 0) (setcE (o := 10) (v := .int .i64 (1 + xd % 20)) (setcE (o := 9) (v := .int .i64 0) (setcE (o := 8) (v := .int .i64 1) (setcE (o := 7) (v := .int .i64 1) (setcE (o := 6) (v := .int .i64 year) (setcE (o := 5) (v := .bool true) KE.out))))))))
            replace KD := Lib.hid (get_set_ne (p := B) (b := W.heap.size) (i := 12) (x := .int .i64 0) (get_set_ne (p := B) (b := W.heap.size) (i := 11) (x := .int .i64 0) (get_set_ne (p := B) (b := W.heap.size) (i := 10) (x := .int .i64 (1 + xd % 20)) (get_set_ne (p := B) (b := W.heap.size) (i := 9) (x := .int .i64 0) (get_set_ne (p := B) (b := W.heap.size) (i := 8) (x := .int .i64 1) (get_set_ne (p := B) (b := W.heap.size) (i := 7) (x := .int .i64 1) (get_set_ne (p := B) (b := W.heap.size) (i := 6) (x := .int .i64 year) (get_set_ne (p := B) (b := W.heap.size) (i := 5) (x := .bool true) KD.out hB1) hB1) hB1) hB1) hB1) hB1) hB1) hB1)
            replace KR := Lib.hid (get_set_ne (p := B) (b := W.heap.size + 1) (i := 12) (x := .int .i64 0) (get_set_ne (p := B) (b := W.heap.size + 1) (i := 11) (x := .int .i64 0) (get_set_ne (p := B) (b := W.heap.size + 1) (i := 10) (x := .int .i64 (1 + xd % 20)) (get_set_ne (p := B) (b := W.heap.size + 1) (i := 9) (x := .int .i64 0) (get_set_ne (p := B) (b := W.heap.size + 1) (i := 8) (x := .int .i64 1) (get_set_ne (p := B) (b := W.heap.size + 1) (i := 7) (x := .int .i64 1) (get_set_ne (p := B) (b := W.heap.size + 1) (i := 6) (x := .int .i64 year) (get_set_ne (p := B) (b := W.heap.size + 1) (i := 5) (x := .bool true) KR.out hB2) hB2) hB2) hB2) hB2) hB2) hB2) hB2)
            replace HB := Lib.hid (Below.setCell (Below.setCell (Below.setCell (Below.setCell (Below.setCell (Below.setCell (Below.setCell (Below.setCell HB.out (p := ⟨B, 5, none⟩) hB3 (.bool true)) (p := ⟨B, 6, none⟩) hB3 (.int .i64 year)) (p := ⟨B, 7, none⟩) hB3 (.int .i64 1)) (p := ⟨B, 8, none⟩) hB3 (.int .i64 1)) (p := ⟨B, 9, none⟩) hB3 (.int .i64 0)) (p := ⟨B, 10, none⟩) hB3 (.int .i64 (1 + xd % 20))) (p := ⟨B, 11, none⟩) hB3 (.int .i64 0)) (p := ⟨B, 12, none⟩) hB3 (.int .i64 0))
            clear KE
            generalize (((((((w5.setCell ⟨B, 5, none⟩ (.bool true)).setCell ⟨B, 6, none⟩ (.int .i64 year)).setCell ⟨B, 7, none⟩ (.int .i64 1)).setCell ⟨B, 8, none⟩ (.int .i64 1)).setCell ⟨B, 9, none⟩ (.int .i64 0)).setCell ⟨B, 10, none⟩ (.int .i64 (1 + xd % 20))).setCell ⟨B, 11, none⟩ (.int .i64 0)).setCell ⟨B, 12, none⟩ (.int .i64 0) = V8 at *
            have KE : Hid (V8.heap[B]? = some (.cells #[.int .i64 (900 * xo.tmod 48), .int .i64 q, .int .i64 sv, .string st, .string (fmtS (xf % 6)), .bool true, .int .i64 year, .int .i64 1, .int .i64 1, .int .i64 0, .int .i64 (1 + xd % 20), .int .i64 0, .int .i64 0] 60)) := KE2
            clear KE2
            have c0 := cellB KE.out (i := 0) rfl
            have c1 := cellB KE.out (i := 1) rfl
            have c2 := cellB KE.out (i := 2) rfl
            have c3 := cellB KE.out (i := 3) rfl
            have c4 := cellB KE.out (i := 4) rfl
            have c5 := cellB KE.out (i := 5) rfl
            have c6 := cellB KE.out (i := 6) rfl
            have c7 := cellB KE.out (i := 7) rfl
            have c8 := cellB KE.out (i := 8) rfl
            have c9 := cellB KE.out (i := 9) rfl
            have c10 := cellB KE.out (i := 10) rfl
            have c11 := cellB KE.out (i := 11) rfl
            have c12 := cellB KE.out (i := 12) rfl
            have f0 := frzB KE.out 0
            have f1 := frzB KE.out 1
            have f2 := frzB KE.out 2
            have f3 := frzB KE.out 3
            have f4 := frzB KE.out 4
            have f5 := frzB KE.out 5
            have f6 := frzB KE.out 6
            have f7 := frzB KE.out 7
            have f8 := frzB KE.out 8
            have f9 := frzB KE.out 9
            have f10 := frzB KE.out 10
            have f11 := frzB KE.out 11
            have f12 := frzB KE.out 12
            have d0 := cellB KD.out (i := 0) rfl
            have d1 := cellB KD.out (i := 1) rfl
            have d2 := cellB KD.out (i := 2) rfl
            have d3 := cellB KD.out (i := 3) rfl
            have d4 := cellB KD.out (i := 4) rfl
            have d5 := cellB KD.out (i := 5) rfl
            have d6 := cellB KD.out (i := 6) rfl
            have d7 := cellB KD.out (i := 7) rfl
            by_cases hd : 200 ≤ xd
            · have hd2 : decide (200 ≤ xd) = true := decide_eq_true hd
              go_upto_region 13 with fail
              clear c0 f0 c1 f1 c2 f2 c3 f3 c4 f4 c5 f5 c6 f6 c7 f7 c8 f8 c9 f9 c10 f10 c11 f11 c12 f12 d0 d1 d2 d3 d4 d5 d6 d7
              have KE2 := Lib.hid (setcE (o := 10) (v := .int .i64 8) (setcE (o := 9) (v := .int .i64 (xd % 7)) (setcE (o := 8) (v := .int .i64 3) KE.out)))
              replace KD := Lib.hid (get_set_ne (p := B) (b := W.heap.size) (i := 10) (x := .int .i64 8) (get_set_ne (p := B) (b := W.heap.size) (i := 9) (x := .int .i64 (xd % 7)) (get_set_ne (p := B) (b := W.heap.size) (i := 8) (x := .int .i64 3) KD.out hB1) hB1) hB1)
              replace KR := Lib.hid (get_set_ne (p := B) (b := W.heap.size + 1) (i := 10) (x := .int .i64 8) (get_set_ne (p := B) (b := W.heap.size + 1) (i := 9) (x := .int .i64 (xd % 7)) (get_set_ne (p := B) (b := W.heap.size + 1) (i := 8) (x := .int .i64 3) KR.out hB2) hB2) hB2)
              replace HB := Lib.hid (Below.setCell (Below.setCell (Below.setCell HB.out (p := ⟨B, 8, none⟩) hB3 (.int .i64 3)) (p := ⟨B, 9, none⟩) hB3 (.int .i64 (xd % 7))) (p := ⟨B, 10, none⟩) hB3 (.int .i64 8))
              clear KE
              generalize ((V8.setCell ⟨B, 8, none⟩ (.int .i64 3)).setCell ⟨B, 9, none⟩ (.int .i64 (xd % 7))).setCell ⟨B, 10, none⟩ (.int .i64 8) = V3 at *
              have KE : Hid (V3.heap[B]? = some (.cells #[.int .i64 (900 * xo.tmod 48), .int .i64 q, .int .i64 sv, .string st, .string (fmtS (xf % 6)), .bool true, .int .i64 year, .int .i64 1, .int .i64 3, .int .i64 (xd % 7), .int .i64 8, .int .i64 0, .int .i64 0] 60)) := KE2
              clear KE2
              have c0 := cellB KE.out (i := 0) rfl
              have c1 := cellB KE.out (i := 1) rfl
              have c2 := cellB KE.out (i := 2) rfl
              have c3 := cellB KE.out (i := 3) rfl
              have c4 := cellB KE.out (i := 4) rfl
              have c5 := cellB KE.out (i := 5) rfl
              have c6 := cellB KE.out (i := 6) rfl
              have c7 := cellB KE.out (i := 7) rfl
              have c8 := cellB KE.out (i := 8) rfl
              have c9 := cellB KE.out (i := 9) rfl
              have c10 := cellB KE.out (i := 10) rfl
              have c11 := cellB KE.out (i := 11) rfl
              have c12 := cellB KE.out (i := 12) rfl
              have f0 := frzB KE.out 0
              have f1 := frzB KE.out 1
              have f2 := frzB KE.out 2
              have f3 := frzB KE.out 3
              have f4 := frzB KE.out 4
              have f5 := frzB KE.out 5
              have f6 := frzB KE.out 6
              have f7 := frzB KE.out 7
              have f8 := frzB KE.out 8
              have f9 := frzB KE.out 9
              have f10 := frzB KE.out 10
              have f11 := frzB KE.out 11
              have f12 := frzB KE.out 12
              have d0 := cellB KD.out (i := 0) rfl
              have d1 := cellB KD.out (i := 1) rfl
              have d2 := cellB KD.out (i := 2) rfl
              have d3 := cellB KD.out (i := 3) rfl
              have d4 := cellB KD.out (i := 4) rfl
              have d5 := cellB KD.out (i := 5) rfl
              have d6 := cellB KD.out (i := 6) rfl
              have d7 := cellB KD.out (i := 7) rfl
              go_wp2_with fail
              clear c0 f0 c1 f1 c2 f2 c3 f3 c4 f4 c5 f5 c6 f6 c7 f7 c8 f8 c9 f9 c10 f10 c11 f11 c12 f12 d0 d1 d2 d3 d4 d5 d6 d7
              have KE2 := Lib.hid (setcE (o := 12) (v := .int .i64 (xb % 3)) (setcE (o := 11) (v := .int .i64 (900 * (24 + xa.tmod 24))) KE.out))
              replace KD := Lib.hid (get_set_ne (p := B) (b := W.heap.size) (i := 12) (x := .int .i64 (xb % 3)) (get_set_ne (p := B) (b := W.heap.size) (i := 11) (x := .int .i64 (900 * (24 + xa.tmod 24))) KD.out hB1) hB1)
              replace KR := Lib.hid (get_set_ne (p := B) (b := W.heap.size + 1) (i := 12) (x := .int .i64 (xb % 3)) (get_set_ne (p := B) (b := W.heap.size + 1) (i := 11) (x := .int .i64 (900 * (24 + xa.tmod 24))) KR.out hB2) hB2)
              replace HB := Lib.hid (Below.setCell (Below.setCell HB.out (p := ⟨B, 11, none⟩) hB3 (.int .i64 (900 * (24 + xa.tmod 24)))) (p := ⟨B, 12, none⟩) hB3 (.int .i64 (xb % 3)))
              clear KE
              generalize (V3.setCell ⟨B, 11, none⟩ (.int .i64 (900 * (24 + xa.tmod 24)))).setCell ⟨B, 12, none⟩ (.int .i64 (xb % 3)) = V2 at *
              have KE : Hid (V2.heap[B]? = some (.cells #[.int .i64 (900 * xo.tmod 48), .int .i64 q, .int .i64 sv, .string st, .string (fmtS (xf % 6)), .bool true, .int .i64 year, .int .i64 1, .int .i64 3, .int .i64 (xd % 7), .int .i64 8, .int .i64 (900 * (24 + xa.tmod 24)), .int .i64 (xb % 3)] 60)) := KE2
              clear KE2
              go_meet
              case rel => exact ⟨_, _, _, _, _, _, _, Lib.hid (by simp [hd]), KE, KD, KR, HB⟩
            · have hd2 : decide (200 ≤ xd) = false := decide_eq_false hd
              go_wp2_with fail
              clear c0 f0 c1 f1 c2 f2 c3 f3 c4 f4 c5 f5 c6 f6 c7 f7 c8 f8 c9 f9 c10 f10 c11 f11 c12 f12 d0 d1 d2 d3 d4 d5 d6 d7
              have KE2 := Lib.hid (setcE (o := 12) (v := .int .i64 (xb % 3)) (setcE (o := 11) (v := .int .i64 (900 * (24 + xa.tmod 24))) KE.out))
              replace KD := Lib.hid (get_set_ne (p := B) (b := W.heap.size) (i := 12) (x := .int .i64 (xb % 3)) (get_set_ne (p := B) (b := W.heap.size) (i := 11) (x := .int .i64 (900 * (24 + xa.tmod 24))) KD.out hB1) hB1)
              replace KR := Lib.hid (get_set_ne (p := B) (b := W.heap.size + 1) (i := 12) (x := .int .i64 (xb % 3)) (get_set_ne (p := B) (b := W.heap.size + 1) (i := 11) (x := .int .i64 (900 * (24 + xa.tmod 24))) KR.out hB2) hB2)
              replace HB := Lib.hid (Below.setCell (Below.setCell HB.out (p := ⟨B, 11, none⟩) hB3 (.int .i64 (900 * (24 + xa.tmod 24)))) (p := ⟨B, 12, none⟩) hB3 (.int .i64 (xb % 3)))
              clear KE
              generalize (V8.setCell ⟨B, 11, none⟩ (.int .i64 (900 * (24 + xa.tmod 24)))).setCell ⟨B, 12, none⟩ (.int .i64 (xb % 3)) = V2 at *
              have KE : Hid (V2.heap[B]? = some (.cells #[.int .i64 (900 * xo.tmod 48), .int .i64 q, .int .i64 sv, .string st, .string (fmtS (xf % 6)), .bool true, .int .i64 year, .int .i64 1, .int .i64 1, .int .i64 0, .int .i64 (1 + xd % 20), .int .i64 (900 * (24 + xa.tmod 24)), .int .i64 (xb % 3)] 60)) := KE2
              clear KE2
              go_meet
              case rel => exact ⟨_, _, _, _, _, _, _, Lib.hid (by simp [show ¬ (200 ≤ xd) from by omega]), KE, KD, KR, HB⟩
        case rest =>
          clear KE KD KR HB
          obtain ⟨uy, um, uk, uw, ud, us, ub, HU, KE, KD, KR, HB⟩ := hcut
          have c0 := cellB KE.out (i := 0) rfl
          have c1 := cellB KE.out (i := 1) rfl
          have c2 := cellB KE.out (i := 2) rfl
          have c3 := cellB KE.out (i := 3) rfl
          have c4 := cellB KE.out (i := 4) rfl
          have c5 := cellB KE.out (i := 5) rfl
          have c6 := cellB KE.out (i := 6) rfl
          have c7 := cellB KE.out (i := 7) rfl
          have c8 := cellB KE.out (i := 8) rfl
          have c9 := cellB KE.out (i := 9) rfl
          have c10 := cellB KE.out (i := 10) rfl
          have c11 := cellB KE.out (i := 11) rfl
          have c12 := cellB KE.out (i := 12) rfl
          have f0 := frzB KE.out 0
          have f1 := frzB KE.out 1
          have f2 := frzB KE.out 2
          have f3 := frzB KE.out 3
          have f4 := frzB KE.out 4
          have f5 := frzB KE.out 5
          have f6 := frzB KE.out 6
          have f7 := frzB KE.out 7
          have f8 := frzB KE.out 8
          have f9 := frzB KE.out 9
          have f10 := frzB KE.out 10
          have f11 := frzB KE.out 11
          have f12 := frzB KE.out 12
          have z0 := cellB KR.out (i := 0) rfl
          have z1 := cellB KR.out (i := 1) rfl
          have z2 := cellB KR.out (i := 2) rfl
          have z3 := cellB KR.out (i := 3) rfl
          have z4 := cellB KR.out (i := 4) rfl
          have z5 := cellB KR.out (i := 5) rfl
          have z6 := cellB KR.out (i := 6) rfl
          have z7 := cellB KR.out (i := 7) rfl
          have z8 := cellB KR.out (i := 8) rfl
          have z9 := cellB KR.out (i := 9) rfl
          have z10 := cellB KR.out (i := 10) rfl
          have z11 := cellB KR.out (i := 11) rfl
          have z12 := cellB KR.out (i := 12) rfl
          have u0 := frzB KR.out 0
          have u1 := frzB KR.out 1
          have u2 := frzB KR.out 2
          have u3 := frzB KR.out 3
          have u4 := frzB KR.out 4
          have u5 := frzB KR.out 5
          have u6 := frzB KR.out 6
          have u7 := frzB KR.out 7
          have u8 := frzB KR.out 8
          have u9 := frzB KR.out 9
          have u10 := frzB KR.out 10
          have u11 := frzB KR.out 11
          have u12 := frzB KR.out 12
          go_wp2_with fail
          refine bodyPost_ret (results_cell_row rfl _ _ _ _ _ _ _ rfl (set13c [_, _, _, _, _, _, _, _, _, _, _, _, _] rfl KR.out rfl) Tryd.underlying60 rfl (by kernel_rfl)) rfl ?_
          obtain ⟨h1, h2, h3, h4, h5, h6, h7⟩ := HU.out
          obtain ⟨h8, h9⟩ := HSV.out
          have h10 := HQ.out
          subst h1 h2 h3 h4 h5 h6 h7 h8 h9 h10
          exact ⟨rfl, bel_setCells (o := 0) (l := [_, _, _, _, _, _, _, _, _, _, _, _, _]) HB.out (by omega)⟩
end Go.Proofs.YtdppmeeobpbfnaaDoor
