/-
  Sources in memory, and the contract of package shift's function Set.
-/
import Derived.Test.YtdlmlcgmonkdfaaShfEras
namespace Go.Proofs.Ytdlmlcgmonkdfaa
open Go.RowKit Sh
set_option linter.unusedVariables false
set_option linter.unusedSimpArgs false

namespace Sh
/-- a source -/
structure Sou where
  (rs : _root_.List Ru) (zs : _root_.List Zn) (ls : _root_.List (ByteArray × ByteArray)) (ns : _root_.List ByteArray)
def flatL (ls : _root_.List (ByteArray × ByteArray)) : _root_.List Value := ls.flatMap fun p => [.string p.1, .string p.2]
def flatN (ns : _root_.List ByteArray) : _root_.List Value := ns.map .string
/-- a source, as it reads -/
def RdS (v1 v2 v3 v4 : Value) (s : Sou) (w : World) : Prop := Rd 11 v1 s.rs.length (flatR s.rs) w ∧ RdZ v2 s.zs w ∧ Rd 2 v3 s.ls.length (flatL s.ls) w ∧ Rd 1 v4 s.ns.length (flatN s.ns) w
/-- a source of the call's own -/
def OwnS (base : Nat) (v1 v2 v3 v4 : Value) (s : Sou) (w : World) : Prop := Own base 44 11 v1 s.rs.length (flatR s.rs) w ∧ OwnZ base v2 s.zs w ∧ Own base 54 2 v3 s.ls.length (flatL s.ls) w ∧ Own base 9 1 v4 s.ns.length (flatN s.ns) w
theorem OwnS.rd {base : Nat} {v1 v2 v3 v4 : Value} {s : Sou} {w : World} (h : OwnS base v1 v2 v3 v4 s w) : RdS v1 v2 v3 v4 s w := ⟨h.1.rd, h.2.1.rd, h.2.2.1.rd, h.2.2.2.rd⟩
theorem OwnS.mono {base base' : Nat} {v1 v2 v3 v4 : Value} {s : Sou} {w : World} (h : OwnS base v1 v2 v3 v4 s w) (hb : base' ≤ base) : OwnS base' v1 v2 v3 v4 s w := ⟨h.1.mono hb, h.2.1.mono hb, h.2.2.1.mono hb, h.2.2.2.mono hb⟩
theorem OwnS.below {base : Nat} {v1 v2 v3 v4 : Value} {s : Sou} {A B : World} (h : OwnS base v1 v2 v3 v4 s A) (hb : Below A.heap.size A B) : OwnS base v1 v2 v3 v4 s B := ⟨h.1.below hb, h.2.1.below hb, h.2.2.1.below hb, h.2.2.2.below hb⟩
theorem OwnS.fall {base b o : Nat} {v1 v2 v3 v4 : Value} {s : Sou} {l : _root_.List Value} {w : World} (h : OwnS base v1 v2 v3 v4 s w) (hb : b < base) : OwnS base v1 v2 v3 v4 s (w.setCells b o l) := ⟨h.1.fall hb, h.2.1.fall hb, h.2.2.1.fall hb, h.2.2.2.fall hb⟩
theorem RdS.below {v1 v2 v3 v4 : Value} {s : Sou} {A B : World} (h : RdS v1 v2 v3 v4 s A) (hb : Below A.heap.size A B) : RdS v1 v2 v3 v4 s B := ⟨h.1.below hb, h.2.1.below hb, h.2.2.1.below hb, h.2.2.2.below hb⟩
theorem RdS.sl {v1 v2 v3 v4 : Value} {s : Sou} {w : World} (h : RdS v1 v2 v3 v4 s w) : ∃ (a1 : Option Addr) (c1 : Nat) (a2 : Option Addr) (c2 : Nat) (a3 : Option Addr) (c3 : Nat) (a4 : Option Addr) (c4 : Nat), v1 = .slice a1 s.rs.length c1 ∧ v2 = .slice a2 s.zs.length c2 ∧ v3 = .slice a3 s.ls.length c3 ∧ v4 = .slice a4 s.ns.length c4 := by
  obtain ⟨a1, c1, e1⟩ := h.1.sl
  obtain ⟨a2, c2, e2⟩ := h.2.1.sl
  obtain ⟨a3, c3, e3⟩ := h.2.2.1.sl
  obtain ⟨a4, c4, e4⟩ := h.2.2.2.sl
  exact ⟨a1, c1, a2, c2, a3, c3, a4, c4, e1, e2, e3, e4⟩
/-- a source whose eras with a set are shifted -/
def Sou.shE (s : Sou) (n : ByteArray) (x : Int) : Sou := { s with zs := shZ n x s.zs }
/-- a source in which a set is shifted -/
def Sou.shS (s : Sou) (n : ByteArray) (x : Int) : Sou := { s with zs := shZ n x s.zs, rs := s.rs.map fun r => r.of n x }
/-- whether a set has a rule -/
def hasN (n : ByteArray) (rs : _root_.List Ru) : Bool := rs.any fun r => decide (r.na = n)
theorem results_cell_row_tmp {P : Program} {fn : Func} {p u : Tmp} {ty : TypeId} (h : fn.results = #[.cell p ty, .tmp u]) (tmps : Array Value) (w : World) (g : Nat) (t : TypeId) (cs : Array Value) (fr : Nat × Nat) (d : TypeDesc)
    (hp : tmps.getD p undef = .pointer (some ⟨g, 0, none⟩)) (hg : w.heap[g]? = some (.cells cs t fr))
    (hu : P.underlying ty = some d) (hd : (match d with | .struct _ | .array _ _ => true | _ => false) = true) (hi : (P.info? ty).map (·.size) = some cs.size) :
    (results fn tmps).run P w = .ok (.tuple #[.agg cs, tmps.getD u undef]) w := by
  have hp' : tmps[p]?.getD undef = .pointer (some ⟨g, 0, none⟩) := by simpa using hp
  simp [results, h, hp', asAddr, run_loadVar_row w g t ty cs fr d hg hu hd hi]
theorem set0of4 {V : World} {b : Nat} {t : TypeId} {a0 a1 a2 a3 d0 : Value} (h : V.heap[b]? = some (.cells #[a0, a1, a2, a3] t)) : (V.setCell ⟨b, 0, none⟩ d0).heap[b]? = some (.cells #[d0, a1, a2, a3] t) := by
  simp [World.setCell, Array.getElem?_modify, h]
theorem setCell_eq (V : World) (b o : Nat) (v : Value) : V.setCell ⟨b, o, none⟩ v = V.setCells b o [v] := rfl
end Sh

theorem erasS_any (v1 v2 v3 v4 : Value) (s : Sou) (n : ByteArray) (x : Int) (W : World) (h : RdS v1 v2 v3 v4 s W) :
    Calls Try.prog 15 #[.agg #[v1, v2, v3, v4], .string n, .int .i64 x] W fun e w' => ∃ u1 u2 u3 u4, e = .returned (.agg #[u1, u2, u3, u4]) ∧ Hid (OwnS W.heap.size u1 u2 u3 u4 (s.shE n x) w') ∧ Below W.heap.size W w' :=
  (eras_any v1 v2 v3 v4 s.rs s.zs s.ls.length s.ns.length (flatL s.ls) (flatN s.ns) n x W h.1 h.2.1 h.2.2.1 h.2.2.2).mono fun e w' ⟨u1, u2, u3, u4, k1, k2, k3⟩ => ⟨u1, u2, u3, u4, k1, Lib.hid k2.out, k3⟩

set_option maxRecDepth 100000 in
set_option maxHeartbeats 2000000 in
theorem idx_any (v : Value) (rs : _root_.List Ru) (s : ByteArray) (bs : Nat) (W : World) (h : Rd 11 v rs.length (flatR rs) W) (hs : W.cell? ⟨bs, 0, none⟩ = some (.string s)) :
    Calls Try.prog 37 #[v, .func (.func 23) #[] #[.pointer (some ⟨bs, 0, none⟩)]] W fun e w' => ∃ i : Int, e = .returned (.int .i64 i) ∧ Hid (-1 ≤ i ∧ (decide (0 ≤ i) = hasN s rs)) ∧ Below W.heap.size W w' := by
  have hn : rs.length ≤ 1000 := h.2.1
  obtain ⟨n, hN⟩ : ∃ n, n = rs.length := ⟨_, rfl⟩
  rw [← hN] at h hn
  obtain ⟨hl, _, h1, ⟨A, rfl, rfl⟩ | ⟨b, off, cap, rfl, hc⟩⟩ := h
  · have hrs : rs = [] := _root_.List.length_eq_zero_iff.1 hN.symm
    subst hrs
    clear hN hl h1
    go_enter Try.func37, Try.ntmps37
    go_wp2_with fail
    go_loopw [8] (fun i wr => i = .int .i64 0 ∧ wr = W) (fun i _ => 0)
    case atStart => exact ⟨rfl, rfl⟩
    case round =>
      obtain ⟨rfl, rfl⟩ := hrel
      go_wp2_with fail
      go_ret
      exact ⟨-1, rfl, Lib.hid ⟨by omega, rfl⟩, Below.refl _ _⟩
  · have HN := Lib.hid hN
    have HC := Lib.hid hc
    have HS := Lib.hid hs
    clear hN hl h1 hc hs
    go_enter Try.func37, Try.ntmps37
    go_wp2_with fail
    go_loopw [8] (fun s8 wr => ∃ i : Nat, i ≤ n ∧ s8 = .int .i64 (i : Int) ∧ Hid (Below W.heap.size W wr) ∧ Hid (∀ (j : Nat) (r : Ru), j < i → rs[j]? = some r → r.na ≠ s)) (fun s8 _ => n - (intOf s8).toNat)
    case atStart => exact ⟨0, by omega, rfl, Lib.hid (Below.refl _ _), Lib.hid (fun j r hj _ => absurd hj (by omega))⟩
    case round =>
      obtain ⟨i, hin, rfl, HBq, HA⟩ := hrel
      by_cases hi : i < n
      · obtain ⟨r, hr⟩ : ∃ r, rs[i]? = some r := by rw [_root_.List.getElem?_eq_getElem (by rw [← HN.out]; exact hi)]; exact ⟨_, rfl⟩
        have hrange : ∀ j u, r.arr.toList[j]? = some u → wr.cell? ⟨b, off + i * 11 + j, none⟩ = some u := fun j u hu => by
          have hj : j < 11 := (_root_.List.getElem?_eq_some_iff.1 hu).1
          refine cell_below HBq.out ?_
          rw [Nat.add_assoc]
          exact HC.out (i * 11 + j) u (by rw [flatR_at rs i j r hr hj]; exact hu)
        have HR := Lib.hid hr
        obtain ⟨na, fr, ut, mo, k, w, d, sec, base, save, le⟩ := r
        have e0 : wr.cell? ⟨b, off + i * 11, none⟩ = some (.string na) := hrange 0 _ rfl
        have e1 : wr.cell? ⟨b, off + i * 11 + 1, none⟩ = some (.int .i64 fr) := hrange 1 _ rfl
        have e2 : wr.cell? ⟨b, off + i * 11 + 2, none⟩ = some (.int .i64 ut) := hrange 2 _ rfl
        have e3 : wr.cell? ⟨b, off + i * 11 + 3, none⟩ = some (.int .i64 mo) := hrange 3 _ rfl
        have e4 : wr.cell? ⟨b, off + i * 11 + 4, none⟩ = some (.int .i64 k) := hrange 4 _ rfl
        have e5 : wr.cell? ⟨b, off + i * 11 + 5, none⟩ = some (.int .i64 w) := hrange 5 _ rfl
        have e6 : wr.cell? ⟨b, off + i * 11 + 6, none⟩ = some (.int .i64 d) := hrange 6 _ rfl
        have e7 : wr.cell? ⟨b, off + i * 11 + 7, none⟩ = some (.int .i64 sec) := hrange 7 _ rfl
        have e8 : wr.cell? ⟨b, off + i * 11 + 8, none⟩ = some (.int .i64 base) := hrange 8 _ rfl
        have e9 : wr.cell? ⟨b, off + i * 11 + 9, none⟩ = some (.int .i64 save) := hrange 9 _ rfl
        have e10 : wr.cell? ⟨b, off + i * 11 + 10, none⟩ = some (.string le) := hrange 10 _ rfl
        have hii : (0 : Int) ≤ (i : Int) := by omega
        have hil : (i : Int) < (n : Int) := by omega
        clear hr hrange
        obtain ⟨q, hq⟩ : ∃ q, decide (na = s) = q := ⟨_, rfl⟩
        have HQ := Lib.hid hq
        clear hq
        go_wp2_with fail
        refine (of_any ⟨na, fr, ut, mo, k, w, d, sec, base, save, le⟩ s bs _ (cell_below HBq.out HS.out)).mono ?_
        rintro e w3 ⟨rfl, hb3⟩
        have HB3 := Lib.hid (bel_trans HBq.out hb3)
        clear hb3 e0 e1 e2 e3 e4 e5 e6 e7 e8 e9 e10
        rw [show decide ((Ru.mk na fr ut mo k w d sec base save le).na = s) = q from HQ.out]
        cases q
        · go_wp2_with fail
          go_round
          case rel =>
            refine ⟨i + 1, by omega, by go_num, HB3, Lib.hid (fun j r hj hr => ?_)⟩
            by_cases hji : j = i
            · subst hji
              rw [HR.out] at hr
              obtain rfl := Option.some.inj hr
              exact of_decide_eq_false HQ.out
            · exact HA.out j r (by omega) hr
          case measure => simp [intOf]; omega
        · go_wp2_with fail
          go_ret
          refine ⟨(i : Int), rfl, Lib.hid ⟨by omega, ?_⟩, HB3.out⟩
          rw [decide_eq_true (by omega : (0 : Int) ≤ (i : Int))]
          symm
          unfold hasN
          rw [_root_.List.any_eq_true]
          exact ⟨_, _root_.List.mem_of_getElem? HR.out, HQ.out⟩
      · have hie : i = n := by omega
        subst hie
        go_wp2_with fail
        go_ret
        refine ⟨-1, rfl, Lib.hid ⟨by omega, ?_⟩, HBq.out⟩
        symm
        unfold hasN
        show _ = false
        rw [_root_.List.any_eq_false]
        intro r hr
        obtain ⟨j, hj⟩ := _root_.List.mem_iff_getElem?.1 hr
        have hjl : j < i := by have := (_root_.List.getElem?_eq_some_iff.1 hj).1; rw [HN.out]; exact this
        simpa using HA.out j r hjl hj

set_option maxRecDepth 100000 in
theorem ctf_any (v : Value) (rs : _root_.List Ru) (s : ByteArray) (bs : Nat) (W : World) (h : Rd 11 v rs.length (flatR rs) W) (hs : W.cell? ⟨bs, 0, none⟩ = some (.string s)) :
    Calls Try.prog 24 #[v, .func (.func 23) #[] #[.pointer (some ⟨bs, 0, none⟩)]] W fun e w' => e = .returned (.bool (hasN s rs)) ∧ Below W.heap.size W w' := by
  obtain ⟨a, c, rfl⟩ := h.sl
  have H := Lib.hid h
  have HS := Lib.hid hs
  clear h hs
  go_enter Try.func24, Try.ntmps24
  go_wp2_with fail
  refine (idx_any _ rs s bs _ H.out HS.out).mono ?_
  rintro e w1 ⟨i, rfl, hi, hb⟩
  have hi2 := hi.out.2
  go_wp2_with fail
  go_ret
  exact ⟨by rw [← hi2]; rfl, hb⟩

set_option maxRecDepth 100000 in
set_option maxHeartbeats 2000000 in
theorem setN_any (v1 v2 v3 v4 : Value) (s : Sou) (n : ByteArray) (x : Int) (W : World) (h : RdS v1 v2 v3 v4 s W) (hN : hasN n s.rs = false) :
    Calls Try.prog 12 #[.agg #[v1, v2, v3, v4], .string n, .int .i64 x] W fun e w' => e = .returned (.tuple #[.agg #[.slice none 0 0, .slice none 0 0, .slice none 0 0, .slice none 0 0], .int .i64 4]) ∧ Below W.heap.size W w' := by
  obtain ⟨a1, c1, a2, c2, a3, c3, a4, c4, rfl, rfl, rfl, rfl⟩ := h.sl
  have H := Lib.hid h
  have HN := Lib.hid hN
  clear h hN
  have hmf : ∀ (fn : Fn) (first cap : Array Value) (w : World), (Instr.makeFunc fn first cap).run Try.prog w = .ok (.func fn first cap) w := fun _ _ _ _ => rfl
  have hst := fun (w : World) (a : Addr) (fn : Fn) (f c : Array Value) => run_store Try.prog w a (.func fn f c) .plain rfl
  go_enter Try.func12, Try.ntmps12
  go_wp2_with fail
  obtain ⟨WX, hWX⟩ : ∃ WX, WX = (((((W.alloc (.cells #[.slice a1 s.rs.length c1, .slice a2 s.zs.length c2, .slice a3 s.ls.length c3, .slice a4 s.ns.length c4] 27)).alloc (.cells #[.string n] 9)).alloc (.cells #[.int .i64 x] 2)).alloc (.cells #[.slice none 0 0, .slice none 0 0, .slice none 0 0, .slice none 0 0] 27)).alloc (.cells #[(.func (.func 23) #[] #[.pointer (some ⟨W.heap.size + 1, 0, none⟩)])] 61)) := ⟨_, rfl⟩
  have hs1 : ∀ (V : World) (o : Obj), (V.alloc o).heap.size = V.heap.size + 1 := fun V o => by show (V.heap.push o).size = _; simp
  have hr0 : Hid (WX.heap[W.heap.size + 1 + 1 + 1]? = some (.cells #[.slice none 0 0, .slice none 0 0, .slice none 0 0, .slice none 0 0] 27)) := by
    rw [hWX]; have := heap_alloc_new (((W.alloc (.cells #[.slice a1 s.rs.length c1, .slice a2 s.zs.length c2, .slice a3 s.ls.length c3, .slice a4 s.ns.length c4] 27)).alloc (.cells #[.string n] 9)).alloc (.cells #[.int .i64 x] 2)) (.cells #[.slice none 0 0, .slice none 0 0, .slice none 0 0, .slice none 0 0] 27); rw [hs1, hs1, hs1] at this; exact block_below this (bel_alloc _ _)
  have hsc : Hid (WX.cell? ⟨W.heap.size + 1, 0, none⟩ = some (.string n)) := by
    rw [hWX]; have := cell_one (W.alloc (.cells #[.slice a1 s.rs.length c1, .slice a2 s.zs.length c2, .slice a3 s.ls.length c3, .slice a4 s.ns.length c4] 27)) (.string n) 9; rw [hs1] at this; exact cell_below (bel_trans (bel_trans (bel_alloc _ _) (bel_alloc _ _)) (bel_alloc _ _)) this
  have hB0 : Hid (Below W.heap.size W WX) := by
    rw [hWX]; exact bel_trans (bel_trans (bel_trans (bel_trans (bel_alloc _ _) (bel_alloc _ _)) (bel_alloc _ _)) (bel_alloc _ _)) (bel_alloc _ _)
  rw [← hWX]
  clear hWX hs1 hst
  refine (ctf_any _ s.rs n (W.heap.size + 1) _ (H.out.1.below hB0.out) hsc.out).mono ?_
  rintro e w1 ⟨rfl, hb⟩
  rw [HN.out]
  have hr1 := Lib.hid (block_below hr0.out hb)
  have hB1 := Lib.hid (bel_trans hB0.out hb)
  clear hb
  obtain ⟨y0, y1, y2, y3⟩ := row4 hr1.out
  obtain ⟨g0, g1, g2, g3⟩ := frz4 hr1.out
  go_wp2_with fail
  refine bodyPost_ret (results_cell_row_tmp rfl _ _ _ _ _ _ _ rfl (set4 hr1.out) Try.underlying27 rfl (by kernel_rfl)) rfl ?_
  exact ⟨rfl, bel_setCells (o := 0) (l := [.slice none 0 0, .slice none 0 0, .slice none 0 0, .slice none 0 0]) hB1.out (by omega)⟩

set_option maxRecDepth 100000 in
set_option maxHeartbeats 2000000 in
theorem setY_any (v1 v2 v3 v4 : Value) (s : Sou) (n : ByteArray) (x : Int) (W : World) (h : RdS v1 v2 v3 v4 s W) (hN : hasN n s.rs = true) :
    Calls Try.prog 12 #[.agg #[v1, v2, v3, v4], .string n, .int .i64 x] W fun e w' => ∃ u1 u2 u3 u4, e = .returned (.tuple #[.agg #[u1, u2, u3, u4], .int .i64 0]) ∧ Hid (OwnS W.heap.size u1 u2 u3 u4 (s.shS n x) w') ∧ Below W.heap.size W w' := by
  obtain ⟨a1, c1, a2, c2, a3, c3, a4, c4, rfl, rfl, rfl, rfl⟩ := h.sl
  have H := Lib.hid h
  have HN := Lib.hid hN
  clear h hN
  have hmf : ∀ (fn : Fn) (first cap : Array Value) (w : World), (Instr.makeFunc fn first cap).run Try.prog w = .ok (.func fn first cap) w := fun _ _ _ _ => rfl
  have hst := fun (w : World) (a : Addr) (fn : Fn) (f c : Array Value) => run_store Try.prog w a (.func fn f c) .plain rfl
  go_enter Try.func12, Try.ntmps12
  go_wp2_with fail
  obtain ⟨WX, hWX⟩ : ∃ WX, WX = (((((W.alloc (.cells #[.slice a1 s.rs.length c1, .slice a2 s.zs.length c2, .slice a3 s.ls.length c3, .slice a4 s.ns.length c4] 27)).alloc (.cells #[.string n] 9)).alloc (.cells #[.int .i64 x] 2)).alloc (.cells #[.slice none 0 0, .slice none 0 0, .slice none 0 0, .slice none 0 0] 27)).alloc (.cells #[(.func (.func 23) #[] #[.pointer (some ⟨W.heap.size + 1, 0, none⟩)])] 61)) := ⟨_, rfl⟩
  have hs1 : ∀ (V : World) (o : Obj), (V.alloc o).heap.size = V.heap.size + 1 := fun V o => by show (V.heap.push o).size = _; simp
  have hk0 : Hid (WX.heap[W.heap.size]? = some (.cells #[.slice a1 s.rs.length c1, .slice a2 s.zs.length c2, .slice a3 s.ls.length c3, .slice a4 s.ns.length c4] 27)) := by
    rw [hWX]; exact block_below (heap_alloc_new W _) (bel_trans (bel_trans (bel_trans (bel_alloc _ _) (bel_alloc _ _)) (bel_alloc _ _)) (bel_alloc _ _))
  have hr0 : Hid (WX.heap[W.heap.size + 1 + 1 + 1]? = some (.cells #[.slice none 0 0, .slice none 0 0, .slice none 0 0, .slice none 0 0] 27)) := by
    rw [hWX]; have := heap_alloc_new (((W.alloc (.cells #[.slice a1 s.rs.length c1, .slice a2 s.zs.length c2, .slice a3 s.ls.length c3, .slice a4 s.ns.length c4] 27)).alloc (.cells #[.string n] 9)).alloc (.cells #[.int .i64 x] 2)) (.cells #[.slice none 0 0, .slice none 0 0, .slice none 0 0, .slice none 0 0] 27); rw [hs1, hs1, hs1] at this; exact block_below this (bel_alloc _ _)
  have hfc : Hid (WX.cell? ⟨W.heap.size + 1 + 1 + 1 + 1, 0, none⟩ = some (.func (.func 23) #[] #[.pointer (some ⟨W.heap.size + 1, 0, none⟩)])) := by
    rw [hWX]; have := cell_one ((((W.alloc (.cells #[.slice a1 s.rs.length c1, .slice a2 s.zs.length c2, .slice a3 s.ls.length c3, .slice a4 s.ns.length c4] 27)).alloc (.cells #[.string n] 9)).alloc (.cells #[.int .i64 x] 2)).alloc (.cells #[.slice none 0 0, .slice none 0 0, .slice none 0 0, .slice none 0 0] 27)) (.func (.func 23) #[] #[.pointer (some ⟨W.heap.size + 1, 0, none⟩)]) 61; rw [hs1, hs1, hs1, hs1] at this; exact this
  have hsc : Hid (WX.cell? ⟨W.heap.size + 1, 0, none⟩ = some (.string n)) := by
    rw [hWX]; have := cell_one (W.alloc (.cells #[.slice a1 s.rs.length c1, .slice a2 s.zs.length c2, .slice a3 s.ls.length c3, .slice a4 s.ns.length c4] 27)) (.string n) 9; rw [hs1] at this; exact cell_below (bel_trans (bel_trans (bel_alloc _ _) (bel_alloc _ _)) (bel_alloc _ _)) this
  have hxc : Hid (WX.cell? ⟨W.heap.size + 1 + 1, 0, none⟩ = some (.int .i64 x)) := by
    rw [hWX]; have := cell_one ((W.alloc (.cells #[.slice a1 s.rs.length c1, .slice a2 s.zs.length c2, .slice a3 s.ls.length c3, .slice a4 s.ns.length c4] 27)).alloc (.cells #[.string n] 9)) (.int .i64 x) 2; rw [hs1, hs1] at this; exact cell_below (bel_trans (bel_alloc _ _) (bel_alloc _ _)) this
  have hB0 : Hid (Below W.heap.size W WX) := by
    rw [hWX]; exact bel_trans (bel_trans (bel_trans (bel_trans (bel_alloc _ _) (bel_alloc _ _)) (bel_alloc _ _)) (bel_alloc _ _)) (bel_alloc _ _)
  rw [← hWX]
  clear hWX hs1 hst
  refine (ctf_any _ s.rs n (W.heap.size + 1) _ (H.out.1.below hB0.out) hsc.out).mono ?_
  rintro e w1 ⟨rfl, hb⟩
  rw [HN.out]
  have hk1 := Lib.hid (block_below hk0.out hb)
  have hr1 := Lib.hid (block_below hr0.out hb)
  have hf1 := Lib.hid (cell_below hb hfc.out)
  have hs1 := Lib.hid (cell_below hb hsc.out)
  have hx1 := Lib.hid (cell_below hb hxc.out)
  have hB1 := Lib.hid (bel_trans hB0.out hb)
  clear hb
  obtain ⟨z0, z1, z2, z3⟩ := row4 hk1.out
  have zs := hs1.out
  have zx := hx1.out
  go_wp2_with fail
  refine (erasS_any _ _ _ _ s n x _ (H.out.below hB1.out)).mono ?_
  rintro e w2 ⟨u1, u2, u3, u4, rfl, ho, hb⟩
  obtain ⟨b1, d1, b2, d2, b3, d3, b4, d4, rfl, rfl, rfl, rfl⟩ := ho.out.rd.sl
  have hr2 := Lib.hid (block_below hr1.out hb)
  have hf2 := Lib.hid (cell_below hb hf1.out)
  have hs2 := Lib.hid (cell_below hb hs1.out)
  have hx2 := Lib.hid (cell_below hb hx1.out)
  have hB2 := Lib.hid (bel_trans hB1.out hb)
  clear z0 z1 z2 z3 zs zx
  have hA3 := bel_alloc w2 (.cells #[.slice b1 s.rs.length d1, .slice b2 (shZ n x s.zs).length d2, .slice b3 s.ls.length d3, .slice b4 s.ns.length d4] 27)
  have hf3 := Lib.hid (cell_below hA3 hf2.out)
  have hs3 := Lib.hid (cell_below hA3 hs2.out)
  have hx3 := Lib.hid (cell_below hA3 hx2.out)
  have hB3 := Lib.hid (bel_trans hB2.out hA3)
  have HA3 := Lib.hid hA3
  have hk3 := Lib.hid (heap_alloc_new w2 (.cells #[.slice b1 s.rs.length d1, .slice b2 (shZ n x s.zs).length d2, .slice b3 s.ls.length d3, .slice b4 s.ns.length d4] 27))
  have HF : Hid (∀ (r : Ru) (V : World), Below (w2.alloc (.cells #[.slice b1 s.rs.length d1, .slice b2 (shZ n x s.zs).length d2, .slice b3 s.ls.length d3, .slice b4 s.ns.length d4] 27)).heap.size (w2.alloc (.cells #[.slice b1 s.rs.length d1, .slice b2 (shZ n x s.zs).length d2, .slice b3 s.ls.length d3, .slice b4 s.ns.length d4] 27)) V → Calls Try.prog 26 (#[.agg r.arr] ++ #[.pointer (some ⟨W.heap.size + 1 + 1 + 1 + 1, 0, none⟩), .pointer (some ⟨W.heap.size + 1 + 1, 0, none⟩)]) V fun e w' => e = .returned (.agg (r.of n x).arr) ∧ Below V.heap.size V w') := fun r V hb =>
    set2_any r n x _ _ _ V (cell_below hb hf3.out) (cell_below hb hs3.out) (cell_below hb hx3.out)
  clear hA3
  go_wp2_with fail
  refine (changedR_any (.slice b1 s.rs.length d1) s.rs 26 #[.pointer (some ⟨W.heap.size + 1 + 1 + 1 + 1, 0, none⟩), .pointer (some ⟨W.heap.size + 1 + 1, 0, none⟩)] (fun r => r.of n x) _ (ho.out.rd.1.below HA3.out) cf_set2 HF.out).mono ?_
  rintro e w4 ⟨v4, rfl, ho4, hb4⟩
  obtain ⟨e4, p4, rfl⟩ := ho4.out.rd.sl
  have hk4 := Lib.hid (block_below hk3.out hb4)
  have hr4 := Lib.hid (block_below (block_below hr2.out HA3.out) hb4)
  have hB4 := Lib.hid (bel_trans hB3.out hb4)
  have HA4 := Lib.hid (bel_trans HA3.out hb4)
  clear hb4
  have hne : W.heap.size + 1 + 1 + 1 ≠ w2.heap.size := by have := bk2 hr2.out; omega
  have hne' : w2.heap.size ≠ W.heap.size + 1 + 1 + 1 := fun e => hne e.symm
  obtain ⟨y0, y1, y2, y3⟩ := row4 hr4.out
  obtain ⟨g0, g1, g2, g3⟩ := frz4 hr4.out
  obtain ⟨z0, z1, z2, z3⟩ := row4 hk4.out
  obtain ⟨x0, x1, x2, x3⟩ := frz4 hk4.out
  go_wp2_with fail
  refine bodyPost_ret (results_cell_row_tmp rfl _ _ _ _ _ _ _ rfl (set4 (block_setCells (o := 0) (l := [.slice e4 s.rs.length p4]) hr4.out hne)) Try.underlying27 rfl (by kernel_rfl)) rfl ?_
  have hz1 := bk2 hr1.out
  have hz2 := bk2 hk3.out
  have hBx := bel_setCells (b := w2.heap.size) (o := 0) (l := [.slice e4 s.rs.length p4]) HA4.out (Nat.le_refl _)
  have hz3 := bk2 hr2.out
  have hO1 := ((ho4.out.fall (b := w2.heap.size) (o := 0) (l := [.slice e4 s.rs.length p4]) hz2).fall (b := W.heap.size + 1 + 1 + 1) (o := 0) (l := [.slice e4 s.rs.length p4, .slice b2 (shZ n x s.zs).length d2, .slice b3 s.ls.length d3, .slice b4 s.ns.length d4]) (by omega)).mono hB3.out.size
  have hO2 := ((ho.out.below hBx).fall (b := W.heap.size + 1 + 1 + 1) (o := 0) (l := [.slice e4 s.rs.length p4, .slice b2 (shZ n x s.zs).length d2, .slice b3 s.ls.length d3, .slice b4 s.ns.length d4]) hz1).mono hB1.out.size
  have hml : (s.rs.map fun r => r.of n x).length = s.rs.length := _root_.List.length_map _
  refine ⟨_, _, _, _, rfl, Lib.hid ⟨?_, hO2.2.1, hO2.2.2.1, hO2.2.2.2⟩, ?_⟩
  · show Own _ _ 11 _ (s.rs.map fun r => r.of n x).length _ _
    rw [hml]; exact hO1
  · exact bel_setCells (o := 0) (l := [.slice e4 s.rs.length p4, .slice b2 (shZ n x s.zs).length d2, .slice b3 s.ls.length d3, .slice b4 s.ns.length d4]) (bel_setCells (o := 0) (l := [.slice e4 s.rs.length p4]) hB4.out (by have := hB2.out.size; omega)) (by omega)
end Go.Proofs.Ytdlmlcgmonkdfaa
