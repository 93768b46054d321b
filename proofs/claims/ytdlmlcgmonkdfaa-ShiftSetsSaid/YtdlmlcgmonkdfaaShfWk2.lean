/-
  The examples of chapter 28 hold.
-/
import Derived.Test.YtdlmlcgmonkdfaaShfWk
namespace Go.Proofs.Ytdlmlcgmonkdfaa
open Go.RowKit Sh
set_option linter.unusedVariables false
set_option linter.unusedSimpArgs false

namespace Sh
theorem rd_cell {size n g off cap : Nat} {xs : _root_.List Value} {w : World} (h : Rd size (.slice (some ⟨g, off, none⟩) n cap) n xs w) : ∀ j u, xs[j]? = some u → w.cell? ⟨g, off + j, none⟩ = some u := by
  obtain ⟨hl, _, _, ⟨_, _, h0⟩ | ⟨g', off', cap', h0, hc⟩⟩ := h
  · intro j u hu
    have hj := (_root_.List.getElem?_eq_some_iff.1 hu).1
    rw [hl, h0, Nat.zero_mul] at hj; omega
  · cases h0; exact hc
theorem rd_some {size n : Nat} {v : Value} {xs : _root_.List Value} {w : World} (h : Rd size v n xs w) (hn : n ≠ 0) : ∃ g off cap, v = .slice (some ⟨g, off, none⟩) n cap := by
  obtain ⟨_, _, _, ⟨_, _, h0⟩ | ⟨g', off', cap', h0, hc⟩⟩ := h
  · exact absurd h0 hn
  · exact ⟨_, _, _, h0⟩
theorem cellB {V : World} {b i : Nat} {t : TypeId} {cs : Array Value} {v : Value} (h : V.heap[b]? = some (.cells cs t)) (hv : cs[i]? = some v) : V.cell? ⟨b, i, none⟩ = some v := by
  unfold World.cell?
  rw [h]
  simpa using hv
theorem zone_one {v : Value} {na : ByteArray} {es : _root_.List Er} {w : World} (h : RdZ v [⟨na, es⟩] w) (hn : es.length ≠ 0) : ∃ g off cap g' off' c, v = .slice (some ⟨g, off, none⟩) 1 cap ∧ w.cell? ⟨g, off, none⟩ = some (.string na) ∧ w.cell? ⟨g, off + 1, none⟩ = some (.slice (some ⟨g', off', none⟩) es.length c) ∧ Rd 13 (.slice (some ⟨g', off', none⟩) es.length c) es.length (flatE es) w := by
  obtain ⟨g, off, cap, a, c, e, h1, h2, h3⟩ := h.at_ (i := 0) (z := ⟨na, es⟩) rfl
  obtain ⟨g', off', c', e'⟩ := rd_some h3 hn
  simp only [Value.slice.injEq] at e'
  obtain ⟨rfl, _, rfl⟩ := e'
  exact ⟨g, off, cap, g', off', c, e, by simpa using h1, by simpa using h2, h3⟩
theorem RdS.sl4 {v1 v2 v3 v4 : Value} {s : Sou} {w : World} (h : RdS v1 v2 v3 v4 s w) (n1 n2 n3 n4 : Nat) (h1 : s.rs.length = n1) (h2 : s.zs.length = n2) (h3 : s.ls.length = n3) (h4 : s.ns.length = n4) : ∃ (a1 : Option Addr) (c1 : Nat) (a2 : Option Addr) (c2 : Nat) (a3 : Option Addr) (c3 : Nat) (a4 : Option Addr) (c4 : Nat), v1 = .slice a1 n1 c1 ∧ v2 = .slice a2 n2 c2 ∧ v3 = .slice a3 n3 c3 ∧ v4 = .slice a4 n4 c4 := by
  subst h1 h2 h3 h4
  exact h.sl
end Sh

set_option maxRecDepth 100000 in
set_option maxHeartbeats 8000000 in
theorem works28_any (W : World) : Calls Try.prog 10 #[] W fun e w' => e = .returned (.bool true) ∧ Below W.heap.size W w' := by
  have hne := neCl
  have hec := eqCl
  have hee := eqErS
  go_enter Try.func10, Try.ntmps10
  go_wp2_with fail
  refine (example28_any _).mono ?_
  rintro e w0 ⟨u1, u2, rfl, HS0, hb0⟩
  obtain ⟨rg, ro, rc, e1⟩ := rd_some HS0.out.1 (by decide)
  obtain ⟨zg, zo, zc, e2⟩ := rd_some HS0.out.2.1.choose_spec.2.1 (by decide)
  have e1' : u1 = .slice (some ⟨rg, ro, none⟩) 2 rc := e1
  have e2' : u2 = .slice (some ⟨zg, zo, none⟩) 1 zc := e2
  subst e1' e2'
  clear e1 e2
  have hA := bel_alloc w0 (.cells #[.slice (some ⟨rg, ro, none⟩) 2 rc, .slice (some ⟨zg, zo, none⟩) 1 zc, .slice none 0 0, .slice none 0 0] 27)
  have K1 := Lib.hid (heap_alloc_new w0 (.cells #[.slice (some ⟨rg, ro, none⟩) 2 rc, .slice (some ⟨zg, zo, none⟩) 1 zc, .slice none 0 0, .slice none 0 0] 27))
  have HS := Lib.hid (HS0.out.below hA)
  have HB := Lib.hid (bel_trans hb0 hA)
  clear hA hb0 HS0
  go_wp2_with fail
  refine (rules_any (.slice (some ⟨rg, ro, none⟩) 2 rc) exS.rs 3600 _ HS.out.1).mono ?_
  rintro e w1 ⟨v1, rfl, HL0, hb⟩
  rw [ex_rules] at HL0
  obtain ⟨lg, lo, lc, e1⟩ := rd_some HL0.out.rd (by decide)
  have e1' : v1 = .slice (some ⟨lg, lo, none⟩) 2 lc := e1
  subst e1'
  clear e1
  replace K1 := Lib.hid (block_below K1.out hb)
  replace HS := Lib.hid (HS.out.below hb)
  replace HB := Lib.hid (bel_trans HB.out hb)
  clear hb
  obtain ⟨x0, x1, x2, x3⟩ := row4 K1.out
  go_wp2_with fail
  refine (erasS_any _ _ _ _ exS ⟨#[82]⟩ 3600 _ HS.out).mono ?_
  rintro e w2 ⟨t1, t2, t3, t4, rfl, HT0, hb⟩
  rw [ex_eras] at HT0
  obtain ⟨a1, c1, a2, c2, a3, c3, a4, c4, rfl, rfl, rfl, rfl⟩ := HT0.out.rd.sl4 2 1 0 0 rfl rfl rfl rfl
  have HL := Lib.hid (HL0.out.below hb)
  replace K1 := Lib.hid (block_below K1.out hb)
  replace HS := Lib.hid (HS.out.below hb)
  replace HB := Lib.hid (bel_trans HB.out hb)
  clear hb HL0 x0 x1 x2 x3
  have hA := bel_alloc w2 (.cells #[.slice a1 2 c1, .slice a2 1 c2, .slice a3 0 c3, .slice a4 0 c4] 27)
  have K2 := Lib.hid (heap_alloc_new w2 (.cells #[.slice a1 2 c1, .slice a2 1 c2, .slice a3 0 c3, .slice a4 0 c4] 27))
  have HT := Lib.hid (HT0.out.below hA)
  replace HL := Lib.hid (HL.out.below hA)
  replace K1 := Lib.hid (block_below K1.out hA)
  replace HS := Lib.hid (HS.out.below hA)
  replace HB := Lib.hid (bel_trans HB.out hA)
  clear hA HT0
  obtain ⟨x0, x1, x2, x3⟩ := row4 K1.out
  go_wp2_with fail
  refine (setY_any _ _ _ _ exS ⟨#[82]⟩ 3600 _ HS.out (by kernel_rfl)).mono ?_
  rintro e w3 ⟨u1, u2, u3, u4, rfl, HU0, hb⟩
  rw [ex_set] at HU0
  obtain ⟨b1, d1, b2, d2, b3, d3, b4, d4, rfl, rfl, rfl, rfl⟩ := HU0.out.rd.sl4 2 1 0 0 rfl rfl rfl rfl
  replace HT := Lib.hid (HT.out.below hb)
  replace HL := Lib.hid (HL.out.below hb)
  replace K1 := Lib.hid (block_below K1.out hb)
  replace K2 := Lib.hid (block_below K2.out hb)
  replace HS := Lib.hid (HS.out.below hb)
  replace HB := Lib.hid (bel_trans HB.out hb)
  clear hb x0 x1 x2 x3
  have hA := bel_alloc w3 (.cells #[.slice b1 2 d1, .slice b2 1 d2, .slice b3 0 d3, .slice b4 0 d4] 27)
  have K3 := Lib.hid (heap_alloc_new w3 (.cells #[.slice b1 2 d1, .slice b2 1 d2, .slice b3 0 d3, .slice b4 0 d4] 27))
  have HU := Lib.hid (HU0.out.below hA)
  replace HT := Lib.hid (HT.out.below hA)
  replace HL := Lib.hid (HL.out.below hA)
  replace K1 := Lib.hid (block_below K1.out hA)
  replace K2 := Lib.hid (block_below K2.out hA)
  replace HS := Lib.hid (HS.out.below hA)
  replace HB := Lib.hid (bel_trans HB.out hA)
  clear hA HU0
  obtain ⟨x0, x1, x2, x3⟩ := row4 K1.out
  go_wp2_with fail
  refine (setN_any _ _ _ _ exS ⟨#[81]⟩ 3600 _ HS.out (by kernel_rfl)).mono ?_
  rintro e w4 ⟨rfl, hb⟩
  have hb := bel_trans hb (bel_alloc w4 (.cells #[.slice none 0 0, .slice none 0 0, .slice none 0 0, .slice none 0 0] 27))
  replace HU := Lib.hid (HU.out.rd.below hb)
  replace HT := Lib.hid (HT.out.rd.below hb)
  replace HL := Lib.hid (HL.out.rd.below hb)
  replace K1 := Lib.hid (block_below K1.out hb)
  replace K2 := Lib.hid (block_below K2.out hb)
  replace K3 := Lib.hid (block_below K3.out hb)
  replace HS := Lib.hid (HS.out.below hb)
  replace HB := Lib.hid (bel_trans HB.out hb)
  clear hb x0 x1 x2 x3
  have hl := rd_cell HL.out
  have l7 := hl 7 _ rfl
  have l8 := hl 8 _ rfl
  have l9 := hl 9 _ rfl
  have l18 := hl 18 _ rfl
  have l19 := hl 19 _ rfl
  have l20 := hl 20 _ rfl
  clear hl
  obtain ⟨x0, x1, x2, x3⟩ := row4 K1.out
  obtain ⟨y0, y1, y2, y3⟩ := row4 K2.out
  obtain ⟨tg, to_, tc, sg, so, sc, e2, z0, z1, RE⟩ := zone_one HT.out.2.1 (by decide)
  have e2' : a2 = some ⟨tg, to_, none⟩ ∧ c2 = tc := by simp only [Value.slice.injEq] at e2; exact ⟨e2.1, e2.2.2⟩
  obtain ⟨rfl, rfl⟩ := e2'
  clear e2
  have HRE := Lib.hid RE
  clear RE
  go_wp2_with fail
  refine (sameR_any _ _ exS.rs _ HT.out.1 HS.out.1).mono ?_
  rintro e w5 ⟨rfl, hb⟩
  replace z0 := cell_below hb z0
  replace z1 := cell_below hb z1
  replace HRE := Lib.hid (HRE.out.below hb)
  replace HU := Lib.hid (HU.out.below hb)
  replace HL := Lib.hid (HL.out.below hb)
  replace K1 := Lib.hid (block_below K1.out hb)
  replace K2 := Lib.hid (block_below K2.out hb)
  replace K3 := Lib.hid (block_below K3.out hb)
  replace HS := Lib.hid (HS.out.below hb)
  replace HB := Lib.hid (bel_trans HB.out hb)
  clear hb x0 x1 x2 x3 y0 y1 y2 y3 l7 l8 l9 l18 l19 l20
  have hl := rd_cell HRE.out
  have p0 := hl 0 _ rfl
  have p1 := hl 1 _ rfl
  have p2 := hl 2 _ rfl
  have p3 := hl 3 _ rfl
  have p4 := hl 4 _ rfl
  have p5 := hl 5 _ rfl
  have p6 := hl 6 _ rfl
  have p7 := hl 7 _ rfl
  have p8 := hl 8 _ rfl
  have p9 := hl 9 _ rfl
  have p10 := hl 10 _ rfl
  have p11 := hl 11 _ rfl
  have p12 := hl 12 _ rfl
  have q0 := hl 13 _ rfl
  have q1 := hl 14 _ rfl
  have q2 := hl 15 _ rfl
  have q3 := hl 16 _ rfl
  have q4 := hl 17 _ rfl
  have q5 := hl 18 _ rfl
  have q6 := hl 19 _ rfl
  have q7 := hl 20 _ rfl
  have q8 := hl 21 _ rfl
  have q9 := hl 22 _ rfl
  have q10 := hl 23 _ rfl
  have q11 := hl 24 _ rfl
  have q12 := hl 25 _ rfl
  clear hl
  obtain ⟨y0, y1, y2, y3⟩ := row4 K2.out
  obtain ⟨x0, x1, x2, x3⟩ := row4 K1.out
  obtain ⟨s0, s1, s2, s3⟩ := row4 K3.out
  obtain ⟨vg, vo, vc, fg, fo, fc, e2, m0, m1, SE⟩ := zone_one HS.out.2.1 (by decide)
  have e2' : vg = zg ∧ vo = zo := by simp only [Value.slice.injEq] at e2; simpa using e2.1.symm
  obtain ⟨rfl, rfl⟩ := e2'
  clear e2
  have hl := rd_cell SE
  have r0 := hl 0 _ rfl
  have r1 := hl 1 _ rfl
  have r2 := hl 2 _ rfl
  have r3 := hl 3 _ rfl
  have r4 := hl 4 _ rfl
  have r5 := hl 5 _ rfl
  have r6 := hl 6 _ rfl
  have r7 := hl 7 _ rfl
  have r8 := hl 8 _ rfl
  have r9 := hl 9 _ rfl
  have r10 := hl 10 _ rfl
  have r11 := hl 11 _ rfl
  have r12 := hl 12 _ rfl
  clear hl SE
  go_wp2_with fail
  obtain ⟨ug, uo, uc, hg, ho, hc, e2, n0, n1, UE⟩ := zone_one HU.out.2.1 (by decide)
  have e2' : b2 = some ⟨ug, uo, none⟩ ∧ d2 = uc := by simp only [Value.slice.injEq] at e2; exact ⟨e2.1, e2.2.2⟩
  obtain ⟨rfl, rfl⟩ := e2'
  clear e2
  have HUE := Lib.hid UE
  clear UE
  have g9 := rd_cell HS.out.1 9 _ rfl
  have M := fun j u (hu : exE1'.arr[j]? = some u) => cellB (heap_alloc_new w5 (.cells exE1'.arr 52)) (i := j) hu
  have M0 := M 0 _ rfl
  have M4 := M 4 _ rfl
  have M11 := M 11 _ rfl
  have M12 := M 12 _ rfl
  clear M
  have h0 : (fun w' => w'.cell? ⟨w5.heap.size, 0, none⟩ = some (.int .i64 0) ∧ w'.cell? ⟨w5.heap.size, 4, none⟩ = some (.string ⟨#[73, 83, 84, 47, 71, 77, 84]⟩) ∧ w'.cell? ⟨w5.heap.size, 11, none⟩ = some (.int .i64 7200) ∧ w'.cell? ⟨w5.heap.size, 12, none⟩ = some (.int .i64 1) ∧ w'.cell? ⟨w2.heap.size, 1, none⟩ = some (.slice (some ⟨tg, to_, none⟩) 1 c2) ∧ w'.cell? ⟨w0.heap.size, 0, none⟩ = some (.slice (some ⟨rg, ro, none⟩) 2 rc) ∧ w'.cell? ⟨w0.heap.size, 1, none⟩ = some (.slice (some ⟨vg, vo, none⟩) 1 zc) ∧ w'.cell? ⟨w3.heap.size, 0, none⟩ = some (.slice b1 2 d1) ∧ w'.cell? ⟨w3.heap.size, 1, none⟩ = some (.slice (some ⟨ug, uo, none⟩) 1 d2) ∧ w'.cell? ⟨tg, to_ + 1, none⟩ = some (.slice (some ⟨sg, so, none⟩) 3 sc) ∧ w'.cell? ⟨vg, vo + 1, none⟩ = some (.slice (some ⟨fg, fo, none⟩) 3 fc) ∧ w'.cell? ⟨ug, uo + 1, none⟩ = some (.slice (some ⟨hg, ho, none⟩) 3 hc) ∧ w'.cell? ⟨sg, so, none⟩ = some (.int .i64 0) ∧ w'.cell? ⟨sg, so + 1, none⟩ = some (.int .i64 0) ∧ w'.cell? ⟨sg, so + 2, none⟩ = some (.int .i64 0) ∧ w'.cell? ⟨sg, so + 3, none⟩ = some (.string ⟨#[]⟩) ∧ w'.cell? ⟨sg, so + 4, none⟩ = some (.string ⟨#[71, 77, 84]⟩) ∧ w'.cell? ⟨sg, so + 5, none⟩ = some (.bool true) ∧ w'.cell? ⟨sg, so + 6, none⟩ = some (.int .i64 1968) ∧ w'.cell? ⟨sg, so + 7, none⟩ = some (.int .i64 1) ∧ w'.cell? ⟨sg, so + 8, none⟩ = some (.int .i64 1) ∧ w'.cell? ⟨sg, so + 9, none⟩ = some (.int .i64 0) ∧ w'.cell? ⟨sg, so + 10, none⟩ = some (.int .i64 1) ∧ w'.cell? ⟨sg, so + 11, none⟩ = some (.int .i64 0) ∧ w'.cell? ⟨sg, so + 12, none⟩ = some (.int .i64 0) ∧ w'.cell? ⟨fg, fo, none⟩ = some (.int .i64 0) ∧ w'.cell? ⟨fg, fo + 1, none⟩ = some (.int .i64 0) ∧ w'.cell? ⟨fg, fo + 2, none⟩ = some (.int .i64 0) ∧ w'.cell? ⟨fg, fo + 3, none⟩ = some (.string ⟨#[]⟩) ∧ w'.cell? ⟨fg, fo + 4, none⟩ = some (.string ⟨#[71, 77, 84]⟩) ∧ w'.cell? ⟨fg, fo + 5, none⟩ = some (.bool true) ∧ w'.cell? ⟨fg, fo + 6, none⟩ = some (.int .i64 1968) ∧ w'.cell? ⟨fg, fo + 7, none⟩ = some (.int .i64 1) ∧ w'.cell? ⟨fg, fo + 8, none⟩ = some (.int .i64 1) ∧ w'.cell? ⟨fg, fo + 9, none⟩ = some (.int .i64 0) ∧ w'.cell? ⟨fg, fo + 10, none⟩ = some (.int .i64 1) ∧ w'.cell? ⟨fg, fo + 11, none⟩ = some (.int .i64 0) ∧ w'.cell? ⟨fg, fo + 12, none⟩ = some (.int .i64 0) ∧ w'.cell? ⟨rg, ro + 9, none⟩ = some (.int .i64 0)) (w5.alloc (.cells exE1'.arr 52)) := ⟨M0, M4, M11, M12, (cell_below (bel_alloc w5 _) y1), (cell_below (bel_alloc w5 _) x0), (cell_below (bel_alloc w5 _) x1), (cell_below (bel_alloc w5 _) s0), (cell_below (bel_alloc w5 _) s1), (cell_below (bel_alloc w5 _) z1), (cell_below (bel_alloc w5 _) m1), (cell_below (bel_alloc w5 _) n1), (cell_below (bel_alloc w5 _) p0), (cell_below (bel_alloc w5 _) p1), (cell_below (bel_alloc w5 _) p2), (cell_below (bel_alloc w5 _) p3), (cell_below (bel_alloc w5 _) p4), (cell_below (bel_alloc w5 _) p5), (cell_below (bel_alloc w5 _) p6), (cell_below (bel_alloc w5 _) p7), (cell_below (bel_alloc w5 _) p8), (cell_below (bel_alloc w5 _) p9), (cell_below (bel_alloc w5 _) p10), (cell_below (bel_alloc w5 _) p11), (cell_below (bel_alloc w5 _) p12), (cell_below (bel_alloc w5 _) r0), (cell_below (bel_alloc w5 _) r1), (cell_below (bel_alloc w5 _) r2), (cell_below (bel_alloc w5 _) r3), (cell_below (bel_alloc w5 _) r4), (cell_below (bel_alloc w5 _) r5), (cell_below (bel_alloc w5 _) r6), (cell_below (bel_alloc w5 _) r7), (cell_below (bel_alloc w5 _) r8), (cell_below (bel_alloc w5 _) r9), (cell_below (bel_alloc w5 _) r10), (cell_below (bel_alloc w5 _) r11), (cell_below (bel_alloc w5 _) r12), (cell_below (bel_alloc w5 _) g9)⟩
  have HB6 := Lib.hid (bel_alloc w5 (.cells exE1'.arr 52))
  clear M0 M4 M11 M12
  go_wp2_with fail
  try simp only [List.append_eq, List.cons_append, List.nil_append]
  have h00 := Lib.hid h0
  refine wp_region_noPanic ?_
  refine wp_region_held_drew (S := (fun w' => w'.cell? ⟨w5.heap.size, 0, none⟩ = some (.int .i64 0) ∧ w'.cell? ⟨w5.heap.size, 4, none⟩ = some (.string ⟨#[73, 83, 84, 47, 71, 77, 84]⟩) ∧ w'.cell? ⟨w5.heap.size, 11, none⟩ = some (.int .i64 7200) ∧ w'.cell? ⟨w5.heap.size, 12, none⟩ = some (.int .i64 1) ∧ w'.cell? ⟨w2.heap.size, 1, none⟩ = some (.slice (some ⟨tg, to_, none⟩) 1 c2) ∧ w'.cell? ⟨w0.heap.size, 0, none⟩ = some (.slice (some ⟨rg, ro, none⟩) 2 rc) ∧ w'.cell? ⟨w0.heap.size, 1, none⟩ = some (.slice (some ⟨vg, vo, none⟩) 1 zc) ∧ w'.cell? ⟨w3.heap.size, 0, none⟩ = some (.slice b1 2 d1) ∧ w'.cell? ⟨w3.heap.size, 1, none⟩ = some (.slice (some ⟨ug, uo, none⟩) 1 d2) ∧ w'.cell? ⟨tg, to_ + 1, none⟩ = some (.slice (some ⟨sg, so, none⟩) 3 sc) ∧ w'.cell? ⟨vg, vo + 1, none⟩ = some (.slice (some ⟨fg, fo, none⟩) 3 fc) ∧ w'.cell? ⟨ug, uo + 1, none⟩ = some (.slice (some ⟨hg, ho, none⟩) 3 hc) ∧ w'.cell? ⟨sg, so, none⟩ = some (.int .i64 0) ∧ w'.cell? ⟨sg, so + 1, none⟩ = some (.int .i64 0) ∧ w'.cell? ⟨sg, so + 2, none⟩ = some (.int .i64 0) ∧ w'.cell? ⟨sg, so + 3, none⟩ = some (.string ⟨#[]⟩) ∧ w'.cell? ⟨sg, so + 4, none⟩ = some (.string ⟨#[71, 77, 84]⟩) ∧ w'.cell? ⟨sg, so + 5, none⟩ = some (.bool true) ∧ w'.cell? ⟨sg, so + 6, none⟩ = some (.int .i64 1968) ∧ w'.cell? ⟨sg, so + 7, none⟩ = some (.int .i64 1) ∧ w'.cell? ⟨sg, so + 8, none⟩ = some (.int .i64 1) ∧ w'.cell? ⟨sg, so + 9, none⟩ = some (.int .i64 0) ∧ w'.cell? ⟨sg, so + 10, none⟩ = some (.int .i64 1) ∧ w'.cell? ⟨sg, so + 11, none⟩ = some (.int .i64 0) ∧ w'.cell? ⟨sg, so + 12, none⟩ = some (.int .i64 0) ∧ w'.cell? ⟨fg, fo, none⟩ = some (.int .i64 0) ∧ w'.cell? ⟨fg, fo + 1, none⟩ = some (.int .i64 0) ∧ w'.cell? ⟨fg, fo + 2, none⟩ = some (.int .i64 0) ∧ w'.cell? ⟨fg, fo + 3, none⟩ = some (.string ⟨#[]⟩) ∧ w'.cell? ⟨fg, fo + 4, none⟩ = some (.string ⟨#[71, 77, 84]⟩) ∧ w'.cell? ⟨fg, fo + 5, none⟩ = some (.bool true) ∧ w'.cell? ⟨fg, fo + 6, none⟩ = some (.int .i64 1968) ∧ w'.cell? ⟨fg, fo + 7, none⟩ = some (.int .i64 1) ∧ w'.cell? ⟨fg, fo + 8, none⟩ = some (.int .i64 1) ∧ w'.cell? ⟨fg, fo + 9, none⟩ = some (.int .i64 0) ∧ w'.cell? ⟨fg, fo + 10, none⟩ = some (.int .i64 1) ∧ w'.cell? ⟨fg, fo + 11, none⟩ = some (.int .i64 0) ∧ w'.cell? ⟨fg, fo + 12, none⟩ = some (.int .i64 0) ∧ w'.cell? ⟨rg, ro + 9, none⟩ = some (.int .i64 0))) (by kernel_rfl) (by exact h0) (fun hHeld => ?_)
  clear h0 x0 x1 x2 x3 y0 y1 y2 y3 s0 s1 s2 s3 z0 z1 m0 m1 n0 n1 p0 q0 r0 p1 q1 r1 p2 q2 r2 p3 q3 r3 p4 q4 r4 p5 q5 r5 p6 q6 r6 p7 q7 r7 p8 q8 r8 p9 q9 r9 p10 q10 r10 p11 q11 r11 p12 q12 r12 g9
  refine wpAnyH_take (i := 0) (v := ?_) rfl (by kernel_rfl) (by kernel_rfl) (by kernel_rfl) (fun _ _ _ h => h) (Or.inl ⟨by rfl, ?_⟩) (by assumption) ?_
  rotate_left 1
  · (intro w hSw; (try dsimp only at hSw); first | (go_simp; done) | (go_simp; with_reducible rfl))
  try simp only [Act.put, List.getElem_toArray, List.getElem_cons_succ, List.getElem_cons_zero, List.setIfInBounds_toArray, List.set_cons_zero, List.set_cons_succ]
  refine wpAnyH_take (i := 1) (v := ?_) rfl (by kernel_rfl) (by kernel_rfl) (by kernel_rfl) (fun _ _ _ h => h) (Or.inl ⟨by rfl, ?_⟩) (by assumption) ?_
  rotate_left 1
  · (intro w hSw; (try dsimp only at hSw); first | (go_simp; done) | (go_simp; with_reducible rfl))
  try simp only [Act.put, List.getElem_toArray, List.getElem_cons_succ, List.getElem_cons_zero, List.setIfInBounds_toArray, List.set_cons_zero, List.set_cons_succ]
  refine wpAnyH_take (i := 2) (v := ?_) rfl (by kernel_rfl) (by kernel_rfl) (by kernel_rfl) (fun _ _ _ h => h) (Or.inl ⟨by rfl, ?_⟩) (by assumption) ?_
  rotate_left 1
  · (intro w hSw; (try dsimp only at hSw); first | (go_simp; done) | (go_simp; with_reducible rfl))
  try simp only [Act.put, List.getElem_toArray, List.getElem_cons_succ, List.getElem_cons_zero, List.setIfInBounds_toArray, List.set_cons_zero, List.set_cons_succ]
  refine wpAnyH_take (i := 3) (v := ?_) rfl (by kernel_rfl) (by kernel_rfl) (by kernel_rfl) (fun _ _ _ h => h) (Or.inl ⟨by rfl, ?_⟩) (by assumption) ?_
  rotate_left 1
  · (intro w hSw; (try dsimp only at hSw); first | (go_simp; done) | (go_simp; with_reducible rfl))
  try simp only [Act.put, List.getElem_toArray, List.getElem_cons_succ, List.getElem_cons_zero, List.setIfInBounds_toArray, List.set_cons_zero, List.set_cons_succ]
  refine wpAnyH_take (i := 4) (v := ?_) rfl (by kernel_rfl) (by kernel_rfl) (by kernel_rfl) (fun _ _ _ h => h) (Or.inl ⟨by rfl, ?_⟩) (by assumption) ?_
  rotate_left 1
  · (intro w hSw; (try dsimp only at hSw); first | (go_simp; done) | (go_simp; with_reducible rfl))
  try simp only [Act.put, List.getElem_toArray, List.getElem_cons_succ, List.getElem_cons_zero, List.setIfInBounds_toArray, List.set_cons_zero, List.set_cons_succ]
  refine wpAnyH_take (i := 5) (v := ?_) rfl (by kernel_rfl) (by kernel_rfl) (by kernel_rfl) (fun _ _ _ h => h) (Or.inl ⟨by rfl, ?_⟩) (by assumption) ?_
  rotate_left 1
  · (intro w hSw; (try dsimp only at hSw); first | (go_simp; done) | (go_simp; with_reducible rfl))
  try simp only [Act.put, List.getElem_toArray, List.getElem_cons_succ, List.getElem_cons_zero, List.setIfInBounds_toArray, List.set_cons_zero, List.set_cons_succ]
  refine wpAnyH_take (i := 6) (v := ?_) rfl (by kernel_rfl) (by kernel_rfl) (by kernel_rfl) (fun _ _ _ h => h) (Or.inl ⟨by rfl, ?_⟩) (by assumption) ?_
  rotate_left 1
  · (intro w hSw; (try dsimp only at hSw); first | (go_simp; done) | (go_simp; with_reducible rfl))
  try simp only [Act.put, List.getElem_toArray, List.getElem_cons_succ, List.getElem_cons_zero, List.setIfInBounds_toArray, List.set_cons_zero, List.set_cons_succ]
  refine wpAnyH_take (i := 7) (v := ?_) rfl (by kernel_rfl) (by kernel_rfl) (by kernel_rfl) (fun _ _ _ h => h) (Or.inl ⟨by rfl, ?_⟩) (by assumption) ?_
  rotate_left 1
  · (intro w hSw; (try dsimp only at hSw); first | (go_simp; done) | (go_simp; with_reducible rfl))
  try simp only [Act.put, List.getElem_toArray, List.getElem_cons_succ, List.getElem_cons_zero, List.setIfInBounds_toArray, List.set_cons_zero, List.set_cons_succ]
  refine wpAnyH_take (i := 8) (v := ?_) rfl (by kernel_rfl) (by kernel_rfl) (by kernel_rfl) (fun _ _ _ h => h) (Or.inl ⟨by rfl, ?_⟩) (by assumption) ?_
  rotate_left 1
  · (intro w hSw; (try dsimp only at hSw); first | (go_simp; done) | (go_simp; with_reducible rfl))
  try simp only [Act.put, List.getElem_toArray, List.getElem_cons_succ, List.getElem_cons_zero, List.setIfInBounds_toArray, List.set_cons_zero, List.set_cons_succ]
  refine wpAnyH_take (i := 9) (v := ?_) rfl (by kernel_rfl) (by kernel_rfl) (by kernel_rfl) (fun _ _ _ h => h) (Or.inl ⟨by rfl, ?_⟩) (by assumption) ?_
  rotate_left 1
  · (intro w hSw; (try dsimp only at hSw); first | (go_simp; done) | (go_simp; with_reducible rfl))
  try simp only [Act.put, List.getElem_toArray, List.getElem_cons_succ, List.getElem_cons_zero, List.setIfInBounds_toArray, List.set_cons_zero, List.set_cons_succ]
  refine wpAnyH_take (i := 10) (v := ?_) rfl (by kernel_rfl) (by kernel_rfl) (by kernel_rfl) (fun _ _ _ h => h) (Or.inl ⟨by rfl, ?_⟩) (by assumption) ?_
  rotate_left 1
  · (intro w hSw; (try dsimp only at hSw); first | (go_simp; done) | (go_simp; with_reducible rfl))
  try simp only [Act.put, List.getElem_toArray, List.getElem_cons_succ, List.getElem_cons_zero, List.setIfInBounds_toArray, List.set_cons_zero, List.set_cons_succ]
  refine wpAnyH_take (i := 11) (v := ?_) rfl (by kernel_rfl) (by kernel_rfl) (by kernel_rfl) (fun _ _ _ h => h) (Or.inl ⟨by rfl, ?_⟩) (by assumption) ?_
  rotate_left 1
  · (intro w hSw; (try dsimp only at hSw); first | (go_simp; done) | (go_simp; with_reducible rfl))
  try simp only [Act.put, List.getElem_toArray, List.getElem_cons_succ, List.getElem_cons_zero, List.setIfInBounds_toArray, List.set_cons_zero, List.set_cons_succ]
  refine wpAnyH_take (i := 12) (v := ?_) rfl (by kernel_rfl) (by kernel_rfl) (by kernel_rfl) (fun _ _ _ h => h) (Or.inl ⟨by rfl, ?_⟩) (by assumption) ?_
  rotate_left 1
  · (intro w hSw; (try dsimp only at hSw); first | (go_simp; done) | (go_simp; with_reducible rfl))
  try simp only [Act.put, List.getElem_toArray, List.getElem_cons_succ, List.getElem_cons_zero, List.setIfInBounds_toArray, List.set_cons_zero, List.set_cons_succ]
  refine wpAnyH_take (i := 13) (v := ?_) rfl (by kernel_rfl) (by kernel_rfl) (by kernel_rfl) (fun _ _ _ h => h) (Or.inl ⟨by rfl, ?_⟩) (by assumption) ?_
  rotate_left 1
  · (intro w hSw; (try dsimp only at hSw); first | (go_simp; done) | (go_simp; with_reducible rfl))
  try simp only [Act.put, List.getElem_toArray, List.getElem_cons_succ, List.getElem_cons_zero, List.setIfInBounds_toArray, List.set_cons_zero, List.set_cons_succ]
  refine wpAnyH_take (i := 14) (v := ?_) rfl (by kernel_rfl) (by kernel_rfl) (by kernel_rfl) (fun _ _ _ h => h) (Or.inl ⟨by rfl, ?_⟩) (by assumption) ?_
  rotate_left 1
  · (intro w hSw; (try dsimp only at hSw); first | (go_simp; done) | (go_simp; with_reducible rfl))
  try simp only [Act.put, List.getElem_toArray, List.getElem_cons_succ, List.getElem_cons_zero, List.setIfInBounds_toArray, List.set_cons_zero, List.set_cons_succ]
  refine wpAnyH_take (i := 15) (v := ?_) rfl (by kernel_rfl) (by kernel_rfl) (by kernel_rfl) (fun _ _ _ h => h) (Or.inl ⟨by rfl, ?_⟩) (by assumption) ?_
  rotate_left 1
  · (intro w hSw; (try dsimp only at hSw); first | (go_simp; done) | (go_simp; with_reducible rfl))
  try simp only [Act.put, List.getElem_toArray, List.getElem_cons_succ, List.getElem_cons_zero, List.setIfInBounds_toArray, List.set_cons_zero, List.set_cons_succ]
  refine wpAnyH_take (i := 16) (v := ?_) rfl (by kernel_rfl) (by kernel_rfl) (by kernel_rfl) (fun _ _ _ h => h) (Or.inl ⟨by rfl, ?_⟩) (by assumption) ?_
  rotate_left 1
  · (intro w hSw; (try dsimp only at hSw); first | (go_simp; done) | (go_simp; with_reducible rfl))
  try simp only [Act.put, List.getElem_toArray, List.getElem_cons_succ, List.getElem_cons_zero, List.setIfInBounds_toArray, List.set_cons_zero, List.set_cons_succ]
  refine wpAnyH_take (i := 17) (v := ?_) rfl (by kernel_rfl) (by kernel_rfl) (by kernel_rfl) (fun _ _ _ h => h) (Or.inl ⟨by rfl, ?_⟩) (by assumption) ?_
  rotate_left 1
  · (intro w hSw; (try dsimp only at hSw); first | (go_simp; done) | (go_simp; with_reducible rfl))
  try simp only [Act.put, List.getElem_toArray, List.getElem_cons_succ, List.getElem_cons_zero, List.setIfInBounds_toArray, List.set_cons_zero, List.set_cons_succ]
  refine wpAnyH_take (i := 18) (v := ?_) rfl (by kernel_rfl) (by kernel_rfl) (by kernel_rfl) (fun _ _ _ h => h) (Or.inl ⟨by rfl, ?_⟩) (by assumption) ?_
  rotate_left 1
  · (intro w hSw; (try dsimp only at hSw); first | (go_simp; done) | (go_simp; with_reducible rfl))
  try simp only [Act.put, List.getElem_toArray, List.getElem_cons_succ, List.getElem_cons_zero, List.setIfInBounds_toArray, List.set_cons_zero, List.set_cons_succ]
  refine wpAnyH_take (i := 19) (v := ?_) rfl (by kernel_rfl) (by kernel_rfl) (by kernel_rfl) (fun _ _ _ h => h) (Or.inl ⟨by rfl, ?_⟩) (by assumption) ?_
  rotate_left 1
  · (intro w hSw; (try dsimp only at hSw); first | (go_simp; done) | (go_simp; with_reducible rfl))
  try simp only [Act.put, List.getElem_toArray, List.getElem_cons_succ, List.getElem_cons_zero, List.setIfInBounds_toArray, List.set_cons_zero, List.set_cons_succ]
  refine wpAnyH_take (i := 20) (v := ?_) rfl (by kernel_rfl) (by kernel_rfl) (by kernel_rfl) (fun _ _ _ h => h) (Or.inl ⟨by rfl, ?_⟩) (by assumption) ?_
  rotate_left 1
  · (intro w hSw; (try dsimp only at hSw); first | (go_simp; done) | (go_simp; with_reducible rfl))
  try simp only [Act.put, List.getElem_toArray, List.getElem_cons_succ, List.getElem_cons_zero, List.setIfInBounds_toArray, List.set_cons_zero, List.set_cons_succ]
  refine wpAnyH_take (i := 21) (v := ?_) rfl (by kernel_rfl) (by kernel_rfl) (by kernel_rfl) (fun _ _ _ h => h) (Or.inl ⟨by rfl, ?_⟩) (by assumption) ?_
  rotate_left 1
  · (intro w hSw; (try dsimp only at hSw); first | (go_simp; done) | (go_simp; with_reducible rfl))
  try simp only [Act.put, List.getElem_toArray, List.getElem_cons_succ, List.getElem_cons_zero, List.setIfInBounds_toArray, List.set_cons_zero, List.set_cons_succ]
  refine wpAnyH_take (i := 22) (v := ?_) rfl (by kernel_rfl) (by kernel_rfl) (by kernel_rfl) (fun _ _ _ h => h) (Or.inl ⟨by rfl, ?_⟩) (by assumption) ?_
  rotate_left 1
  · (intro w hSw; (try dsimp only at hSw); first | (go_simp; done) | (go_simp; with_reducible rfl))
  try simp only [Act.put, List.getElem_toArray, List.getElem_cons_succ, List.getElem_cons_zero, List.setIfInBounds_toArray, List.set_cons_zero, List.set_cons_succ]
  refine wpAnyH_take (i := 23) (v := ?_) rfl (by kernel_rfl) (by kernel_rfl) (by kernel_rfl) (fun _ _ _ h => h) (Or.inl ⟨by rfl, ?_⟩) (by assumption) ?_
  rotate_left 1
  · (intro w hSw; (try dsimp only at hSw); first | (go_simp; done) | (go_simp; with_reducible rfl))
  try simp only [Act.put, List.getElem_toArray, List.getElem_cons_succ, List.getElem_cons_zero, List.setIfInBounds_toArray, List.set_cons_zero, List.set_cons_succ]
  refine wpAnyH_take (i := 24) (v := ?_) rfl (by kernel_rfl) (by kernel_rfl) (by kernel_rfl) (fun _ _ _ h => h) (Or.inl ⟨by rfl, ?_⟩) (by assumption) ?_
  rotate_left 1
  · (intro w hSw; (try dsimp only at hSw); first | (go_simp; done) | (go_simp; with_reducible rfl))
  try simp only [Act.put, List.getElem_toArray, List.getElem_cons_succ, List.getElem_cons_zero, List.setIfInBounds_toArray, List.set_cons_zero, List.set_cons_succ]
  refine wpAnyH_take (i := 25) (v := ?_) rfl (by kernel_rfl) (by kernel_rfl) (by kernel_rfl) (fun _ _ _ h => h) (Or.inl ⟨by rfl, ?_⟩) (by assumption) ?_
  rotate_left 1
  · (intro w hSw; (try dsimp only at hSw); first | (go_simp; done) | (go_simp; with_reducible rfl))
  try simp only [Act.put, List.getElem_toArray, List.getElem_cons_succ, List.getElem_cons_zero, List.setIfInBounds_toArray, List.set_cons_zero, List.set_cons_succ]
  refine wpAnyH_take (i := 26) (v := ?_) rfl (by kernel_rfl) (by kernel_rfl) (by kernel_rfl) (fun _ _ _ h => h) (Or.inl ⟨by rfl, ?_⟩) (by assumption) ?_
  rotate_left 1
  · (intro w hSw; (try dsimp only at hSw); first | (go_simp; done) | (go_simp; with_reducible rfl))
  try simp only [Act.put, List.getElem_toArray, List.getElem_cons_succ, List.getElem_cons_zero, List.setIfInBounds_toArray, List.set_cons_zero, List.set_cons_succ]
  refine wpAnyH_take (i := 27) (v := ?_) rfl (by kernel_rfl) (by kernel_rfl) (by kernel_rfl) (fun _ _ _ h => h) (Or.inl ⟨by rfl, ?_⟩) (by assumption) ?_
  rotate_left 1
  · (intro w hSw; (try dsimp only at hSw); first | (go_simp; done) | (go_simp; with_reducible rfl))
  try simp only [Act.put, List.getElem_toArray, List.getElem_cons_succ, List.getElem_cons_zero, List.setIfInBounds_toArray, List.set_cons_zero, List.set_cons_succ]
  refine wpAnyH_take (i := 28) (v := ?_) rfl (by kernel_rfl) (by kernel_rfl) (by kernel_rfl) (fun _ _ _ h => h) (Or.inl ⟨by rfl, ?_⟩) (by assumption) ?_
  rotate_left 1
  · (intro w hSw; (try dsimp only at hSw); first | (go_simp; done) | (go_simp; with_reducible rfl))
  try simp only [Act.put, List.getElem_toArray, List.getElem_cons_succ, List.getElem_cons_zero, List.setIfInBounds_toArray, List.set_cons_zero, List.set_cons_succ]
  refine wpAnyH_take (i := 29) (v := ?_) rfl (by kernel_rfl) (by kernel_rfl) (by kernel_rfl) (fun _ _ _ h => h) (Or.inl ⟨by rfl, ?_⟩) (by assumption) ?_
  rotate_left 1
  · (intro w hSw; (try dsimp only at hSw); first | (go_simp; done) | (go_simp; with_reducible rfl))
  try simp only [Act.put, List.getElem_toArray, List.getElem_cons_succ, List.getElem_cons_zero, List.setIfInBounds_toArray, List.set_cons_zero, List.set_cons_succ]
  refine wpAnyH_take (i := 30) (v := ?_) rfl (by kernel_rfl) (by kernel_rfl) (by kernel_rfl) (fun _ _ _ h => h) (Or.inl ⟨by rfl, ?_⟩) (by assumption) ?_
  rotate_left 1
  · (intro w hSw; (try dsimp only at hSw); first | (go_simp; done) | (go_simp; with_reducible rfl))
  try simp only [Act.put, List.getElem_toArray, List.getElem_cons_succ, List.getElem_cons_zero, List.setIfInBounds_toArray, List.set_cons_zero, List.set_cons_succ]
  refine wpAnyH_take (i := 31) (v := ?_) rfl (by kernel_rfl) (by kernel_rfl) (by kernel_rfl) (fun _ _ _ h => h) (Or.inl ⟨by rfl, ?_⟩) (by assumption) ?_
  rotate_left 1
  · (intro w hSw; (try dsimp only at hSw); first | (go_simp; done) | (go_simp; with_reducible rfl))
  try simp only [Act.put, List.getElem_toArray, List.getElem_cons_succ, List.getElem_cons_zero, List.setIfInBounds_toArray, List.set_cons_zero, List.set_cons_succ]
  refine wpAnyH_take (i := 32) (v := ?_) rfl (by kernel_rfl) (by kernel_rfl) (by kernel_rfl) (fun _ _ _ h => h) (Or.inl ⟨by rfl, ?_⟩) (by assumption) ?_
  rotate_left 1
  · (intro w hSw; (try dsimp only at hSw); first | (go_simp; done) | (go_simp; with_reducible rfl))
  try simp only [Act.put, List.getElem_toArray, List.getElem_cons_succ, List.getElem_cons_zero, List.setIfInBounds_toArray, List.set_cons_zero, List.set_cons_succ]
  refine wpAnyH_take (i := 33) (v := ?_) rfl (by kernel_rfl) (by kernel_rfl) (by kernel_rfl) (fun _ _ _ h => h) (Or.inl ⟨by rfl, ?_⟩) (by assumption) ?_
  rotate_left 1
  · (intro w hSw; (try dsimp only at hSw); first | (go_simp; done) | (go_simp; with_reducible rfl))
  try simp only [Act.put, List.getElem_toArray, List.getElem_cons_succ, List.getElem_cons_zero, List.setIfInBounds_toArray, List.set_cons_zero, List.set_cons_succ]
  refine wpAnyH_take (i := 34) (v := ?_) rfl (by kernel_rfl) (by kernel_rfl) (by kernel_rfl) (fun _ _ _ h => h) (Or.inl ⟨by rfl, ?_⟩) (by assumption) ?_
  rotate_left 1
  · (intro w hSw; (try dsimp only at hSw); first | (go_simp; done) | (go_simp; with_reducible rfl))
  try simp only [Act.put, List.getElem_toArray, List.getElem_cons_succ, List.getElem_cons_zero, List.setIfInBounds_toArray, List.set_cons_zero, List.set_cons_succ]
  refine wpAnyH_take (i := 35) (v := ?_) rfl (by kernel_rfl) (by kernel_rfl) (by kernel_rfl) (fun _ _ _ h => h) (Or.inl ⟨by rfl, ?_⟩) (by assumption) ?_
  rotate_left 1
  · (intro w hSw; (try dsimp only at hSw); first | (go_simp; done) | (go_simp; with_reducible rfl))
  try simp only [Act.put, List.getElem_toArray, List.getElem_cons_succ, List.getElem_cons_zero, List.setIfInBounds_toArray, List.set_cons_zero, List.set_cons_succ]
  refine wpAnyH_ready (rs := [36]) (by kernel_rfl) (by simp) ?_
  refine AllReadyH.cons rfl (fun K hK => ?_) AllReadyH.nil
  go_simp
  refine (sameR_any (.slice b1 2 d1) (.slice (some ⟨lg, lo, none⟩) 2 lc) [exR0', exR1'] _ (HU.out.1.below (Below.drew HB6.out)) (HL.out.below (Below.drew HB6.out))).mono ?_
  rintro e w7 ⟨rfl, hb⟩
  have hb := bel_trans (Below.drew (Below.refl _ (w5.alloc (.cells exE1'.arr 52)))) hb
  have HB7 := Lib.hid (bel_trans HB6.out hb)
  have hb' := hb
  go_wp2_with fail
  refine hK.out _ _ (by exact ⟨cell_below hb' h00.out.1, cell_below hb' h00.out.2.1, cell_below hb' h00.out.2.2.1, cell_below hb' h00.out.2.2.2.1, cell_below hb' h00.out.2.2.2.2.1, cell_below hb' h00.out.2.2.2.2.2.1, cell_below hb' h00.out.2.2.2.2.2.2.1, cell_below hb' h00.out.2.2.2.2.2.2.2.1, cell_below hb' h00.out.2.2.2.2.2.2.2.2.1, cell_below hb' h00.out.2.2.2.2.2.2.2.2.2.1, cell_below hb' h00.out.2.2.2.2.2.2.2.2.2.2.1, cell_below hb' h00.out.2.2.2.2.2.2.2.2.2.2.2.1, cell_below hb' h00.out.2.2.2.2.2.2.2.2.2.2.2.2.1, cell_below hb' h00.out.2.2.2.2.2.2.2.2.2.2.2.2.2.1, cell_below hb' h00.out.2.2.2.2.2.2.2.2.2.2.2.2.2.2.1, cell_below hb' h00.out.2.2.2.2.2.2.2.2.2.2.2.2.2.2.2.1, cell_below hb' h00.out.2.2.2.2.2.2.2.2.2.2.2.2.2.2.2.2.1, cell_below hb' h00.out.2.2.2.2.2.2.2.2.2.2.2.2.2.2.2.2.2.1, cell_below hb' h00.out.2.2.2.2.2.2.2.2.2.2.2.2.2.2.2.2.2.2.1, cell_below hb' h00.out.2.2.2.2.2.2.2.2.2.2.2.2.2.2.2.2.2.2.2.1, cell_below hb' h00.out.2.2.2.2.2.2.2.2.2.2.2.2.2.2.2.2.2.2.2.2.1, cell_below hb' h00.out.2.2.2.2.2.2.2.2.2.2.2.2.2.2.2.2.2.2.2.2.2.1, cell_below hb' h00.out.2.2.2.2.2.2.2.2.2.2.2.2.2.2.2.2.2.2.2.2.2.2.1, cell_below hb' h00.out.2.2.2.2.2.2.2.2.2.2.2.2.2.2.2.2.2.2.2.2.2.2.2.1, cell_below hb' h00.out.2.2.2.2.2.2.2.2.2.2.2.2.2.2.2.2.2.2.2.2.2.2.2.2.1, cell_below hb' h00.out.2.2.2.2.2.2.2.2.2.2.2.2.2.2.2.2.2.2.2.2.2.2.2.2.2.1, cell_below hb' h00.out.2.2.2.2.2.2.2.2.2.2.2.2.2.2.2.2.2.2.2.2.2.2.2.2.2.2.1, cell_below hb' h00.out.2.2.2.2.2.2.2.2.2.2.2.2.2.2.2.2.2.2.2.2.2.2.2.2.2.2.2.1, cell_below hb' h00.out.2.2.2.2.2.2.2.2.2.2.2.2.2.2.2.2.2.2.2.2.2.2.2.2.2.2.2.2.1, cell_below hb' h00.out.2.2.2.2.2.2.2.2.2.2.2.2.2.2.2.2.2.2.2.2.2.2.2.2.2.2.2.2.2.1, cell_below hb' h00.out.2.2.2.2.2.2.2.2.2.2.2.2.2.2.2.2.2.2.2.2.2.2.2.2.2.2.2.2.2.2.1, cell_below hb' h00.out.2.2.2.2.2.2.2.2.2.2.2.2.2.2.2.2.2.2.2.2.2.2.2.2.2.2.2.2.2.2.2.1, cell_below hb' h00.out.2.2.2.2.2.2.2.2.2.2.2.2.2.2.2.2.2.2.2.2.2.2.2.2.2.2.2.2.2.2.2.2.1, cell_below hb' h00.out.2.2.2.2.2.2.2.2.2.2.2.2.2.2.2.2.2.2.2.2.2.2.2.2.2.2.2.2.2.2.2.2.2.1, cell_below hb' h00.out.2.2.2.2.2.2.2.2.2.2.2.2.2.2.2.2.2.2.2.2.2.2.2.2.2.2.2.2.2.2.2.2.2.2.1, cell_below hb' h00.out.2.2.2.2.2.2.2.2.2.2.2.2.2.2.2.2.2.2.2.2.2.2.2.2.2.2.2.2.2.2.2.2.2.2.2.1, cell_below hb' h00.out.2.2.2.2.2.2.2.2.2.2.2.2.2.2.2.2.2.2.2.2.2.2.2.2.2.2.2.2.2.2.2.2.2.2.2.2.1, cell_below hb' h00.out.2.2.2.2.2.2.2.2.2.2.2.2.2.2.2.2.2.2.2.2.2.2.2.2.2.2.2.2.2.2.2.2.2.2.2.2.2.1, cell_below hb' h00.out.2.2.2.2.2.2.2.2.2.2.2.2.2.2.2.2.2.2.2.2.2.2.2.2.2.2.2.2.2.2.2.2.2.2.2.2.2.2⟩) (fun hHeld => ?_)
  clear hK K hb hb'
  try simp only [Act.put, List.getElem_toArray, List.getElem_cons_succ, List.getElem_cons_zero, List.setIfInBounds_toArray, List.set_cons_zero, List.set_cons_succ]
  refine wpAnyH_take (i := 37) (v := ?_) rfl (by kernel_rfl) (by kernel_rfl) (by kernel_rfl) (fun _ _ _ h => h) (Or.inl ⟨by rfl, ?_⟩) (by assumption) ?_
  rotate_left 1
  · (intro w hSw; (try dsimp only at hSw); first | (go_simp; done) | (go_simp; with_reducible rfl))
  try simp only [Act.put, List.getElem_toArray, List.getElem_cons_succ, List.getElem_cons_zero, List.setIfInBounds_toArray, List.set_cons_zero, List.set_cons_succ]
  refine wpAnyH_take (i := 38) (v := ?_) rfl (by kernel_rfl) (by kernel_rfl) (by kernel_rfl) (fun _ _ _ h => h) (Or.inl ⟨by rfl, ?_⟩) (by assumption) ?_
  rotate_left 1
  · (intro w hSw; (try dsimp only at hSw); first | (go_simp; done) | (go_simp; with_reducible rfl))
  try simp only [Act.put, List.getElem_toArray, List.getElem_cons_succ, List.getElem_cons_zero, List.setIfInBounds_toArray, List.set_cons_zero, List.set_cons_succ]
  refine wpAnyH_take (i := 39) (v := ?_) rfl (by kernel_rfl) (by kernel_rfl) (by kernel_rfl) (fun _ _ _ h => h) (Or.inl ⟨by rfl, ?_⟩) (by assumption) ?_
  rotate_left 1
  · (intro w hSw; (try dsimp only at hSw); first | (go_simp; done) | (go_simp; with_reducible rfl))
  try simp only [Act.put, List.getElem_toArray, List.getElem_cons_succ, List.getElem_cons_zero, List.setIfInBounds_toArray, List.set_cons_zero, List.set_cons_succ]
  refine wpAnyH_take (i := 40) (v := ?_) rfl (by kernel_rfl) (by kernel_rfl) (by kernel_rfl) (fun _ _ _ h => h) (Or.inl ⟨by rfl, ?_⟩) (by assumption) ?_
  rotate_left 1
  · (intro w hSw; (try dsimp only at hSw); first | (go_simp; done) | (go_simp; with_reducible rfl))
  try simp only [Act.put, List.getElem_toArray, List.getElem_cons_succ, List.getElem_cons_zero, List.setIfInBounds_toArray, List.set_cons_zero, List.set_cons_succ]
  refine wpAnyH_take (i := 41) (v := ?_) rfl (by kernel_rfl) (by kernel_rfl) (by kernel_rfl) (fun _ _ _ h => h) (Or.inl ⟨by rfl, ?_⟩) (by assumption) ?_
  rotate_left 1
  · (intro w hSw; (try dsimp only at hSw); first | (go_simp; done) | (go_simp; with_reducible rfl))
  try simp only [Act.put, List.getElem_toArray, List.getElem_cons_succ, List.getElem_cons_zero, List.setIfInBounds_toArray, List.set_cons_zero, List.set_cons_succ]
  refine wpAnyH_take (i := 42) (v := ?_) rfl (by kernel_rfl) (by kernel_rfl) (by kernel_rfl) (fun _ _ _ h => h) (Or.inl ⟨by rfl, ?_⟩) (by assumption) ?_
  rotate_left 1
  · (intro w hSw; (try dsimp only at hSw); first | (go_simp; done) | (go_simp; with_reducible rfl))
  try simp only [Act.put, List.getElem_toArray, List.getElem_cons_succ, List.getElem_cons_zero, List.setIfInBounds_toArray, List.set_cons_zero, List.set_cons_succ]
  refine wpAnyH_take (i := 43) (v := ?_) rfl (by kernel_rfl) (by kernel_rfl) (by kernel_rfl) (fun _ _ _ h => h) (Or.inl ⟨by rfl, ?_⟩) (by assumption) ?_
  rotate_left 1
  · (intro w hSw; (try dsimp only at hSw); first | (go_simp; done) | (go_simp; with_reducible rfl))
  try simp only [Act.put, List.getElem_toArray, List.getElem_cons_succ, List.getElem_cons_zero, List.setIfInBounds_toArray, List.set_cons_zero, List.set_cons_succ]
  refine wpAnyH_take (i := 44) (v := ?_) rfl (by kernel_rfl) (by kernel_rfl) (by kernel_rfl) (fun _ _ _ h => h) (Or.inl ⟨by rfl, ?_⟩) (by assumption) ?_
  rotate_left 1
  · (intro w hSw; (try dsimp only at hSw); first | (go_simp; done) | (go_simp; with_reducible rfl))
  try simp only [Act.put, List.getElem_toArray, List.getElem_cons_succ, List.getElem_cons_zero, List.setIfInBounds_toArray, List.set_cons_zero, List.set_cons_succ]
  refine wpAnyH_take (i := 45) (v := ?_) rfl (by kernel_rfl) (by kernel_rfl) (by kernel_rfl) (fun _ _ _ h => h) (Or.inl ⟨by rfl, ?_⟩) (by assumption) ?_
  rotate_left 1
  · (intro w hSw; (try dsimp only at hSw); first | (go_simp; done) | (go_simp; with_reducible rfl))
  try simp only [Act.put, List.getElem_toArray, List.getElem_cons_succ, List.getElem_cons_zero, List.setIfInBounds_toArray, List.set_cons_zero, List.set_cons_succ]
  refine wpAnyH_take (i := 46) (v := ?_) rfl (by kernel_rfl) (by kernel_rfl) (by kernel_rfl) (fun _ _ _ h => h) (Or.inl ⟨by rfl, ?_⟩) (by assumption) ?_
  rotate_left 1
  · (intro w hSw; (try dsimp only at hSw); first | (go_simp; done) | (go_simp; with_reducible rfl))
  try simp only [Act.put, List.getElem_toArray, List.getElem_cons_succ, List.getElem_cons_zero, List.setIfInBounds_toArray, List.set_cons_zero, List.set_cons_succ]
  refine wpAnyH_take (i := 47) (v := ?_) rfl (by kernel_rfl) (by kernel_rfl) (by kernel_rfl) (fun _ _ _ h => h) (Or.inl ⟨by rfl, ?_⟩) (by assumption) ?_
  rotate_left 1
  · (intro w hSw; (try dsimp only at hSw); first | (go_simp; done) | (go_simp; with_reducible rfl))
  try simp only [Act.put, List.getElem_toArray, List.getElem_cons_succ, List.getElem_cons_zero, List.setIfInBounds_toArray, List.set_cons_zero, List.set_cons_succ]
  refine wpAnyH_take (i := 48) (v := ?_) rfl (by kernel_rfl) (by kernel_rfl) (by kernel_rfl) (fun _ _ _ h => h) (Or.inl ⟨by rfl, ?_⟩) (by assumption) ?_
  rotate_left 1
  · (intro w hSw; (try dsimp only at hSw); first | (go_simp; done) | (go_simp; with_reducible rfl))
  try simp only [Act.put, List.getElem_toArray, List.getElem_cons_succ, List.getElem_cons_zero, List.setIfInBounds_toArray, List.set_cons_zero, List.set_cons_succ]
  refine wpAnyH_take (i := 49) (v := ?_) rfl (by kernel_rfl) (by kernel_rfl) (by kernel_rfl) (fun _ _ _ h => h) (Or.inl ⟨by rfl, ?_⟩) (by assumption) ?_
  rotate_left 1
  · (intro w hSw; (try dsimp only at hSw); first | (go_simp; done) | (go_simp; with_reducible rfl))
  try simp only [Act.put, List.getElem_toArray, List.getElem_cons_succ, List.getElem_cons_zero, List.setIfInBounds_toArray, List.set_cons_zero, List.set_cons_succ]
  refine wpAnyH_take (i := 50) (v := ?_) rfl (by kernel_rfl) (by kernel_rfl) (by kernel_rfl) (fun _ _ _ h => h) (Or.inl ⟨by rfl, ?_⟩) (by assumption) ?_
  rotate_left 1
  · (intro w hSw; (try dsimp only at hSw); first | (go_simp; done) | (go_simp; with_reducible rfl))
  try simp only [Act.put, List.getElem_toArray, List.getElem_cons_succ, List.getElem_cons_zero, List.setIfInBounds_toArray, List.set_cons_zero, List.set_cons_succ]
  refine wpAnyH_take (i := 51) (v := ?_) rfl (by kernel_rfl) (by kernel_rfl) (by kernel_rfl) (fun _ _ _ h => h) (Or.inl ⟨by rfl, ?_⟩) (by assumption) ?_
  rotate_left 1
  · (intro w hSw; (try dsimp only at hSw); first | (go_simp; done) | (go_simp; with_reducible rfl))
  try simp only [Act.put, List.getElem_toArray, List.getElem_cons_succ, List.getElem_cons_zero, List.setIfInBounds_toArray, List.set_cons_zero, List.set_cons_succ]
  refine wpAnyH_take (i := 52) (v := ?_) rfl (by kernel_rfl) (by kernel_rfl) (by kernel_rfl) (fun _ _ _ h => h) (Or.inl ⟨by rfl, ?_⟩) (by assumption) ?_
  rotate_left 1
  · (intro w hSw; (try dsimp only at hSw); first | (go_simp; done) | (go_simp; with_reducible rfl))
  try simp only [Act.put, List.getElem_toArray, List.getElem_cons_succ, List.getElem_cons_zero, List.setIfInBounds_toArray, List.set_cons_zero, List.set_cons_succ]
  refine wpAnyH_take (i := 53) (v := ?_) rfl (by kernel_rfl) (by kernel_rfl) (by kernel_rfl) (fun _ _ _ h => h) (Or.inl ⟨by rfl, ?_⟩) (by assumption) ?_
  rotate_left 1
  · (intro w hSw; (try dsimp only at hSw); first | (go_simp; done) | (go_simp; with_reducible rfl))
  try simp only [Act.put, List.getElem_toArray, List.getElem_cons_succ, List.getElem_cons_zero, List.setIfInBounds_toArray, List.set_cons_zero, List.set_cons_succ]
  refine wpAnyH_take (i := 54) (v := ?_) rfl (by kernel_rfl) (by kernel_rfl) (by kernel_rfl) (fun _ _ _ h => h) (Or.inl ⟨by rfl, ?_⟩) (by assumption) ?_
  rotate_left 1
  · (intro w hSw; (try dsimp only at hSw); first | (go_simp; done) | (go_simp; with_reducible rfl))
  try simp only [Act.put, List.getElem_toArray, List.getElem_cons_succ, List.getElem_cons_zero, List.setIfInBounds_toArray, List.set_cons_zero, List.set_cons_succ]
  refine wpAnyH_ready (rs := [55]) (by kernel_rfl) (by simp) ?_
  refine AllReadyH.cons rfl (fun K hK => ?_) AllReadyH.nil
  go_simp
  refine (sameE_any (.slice (some ⟨hg, ho, none⟩) 3 hc) (.slice (some ⟨sg, so, none⟩) 3 sc) [exE0, exE1', exE2] _ (HUE.out.below HB7.out) (HRE.out.below HB7.out)).mono ?_
  rintro e w8 ⟨rfl, hb⟩

  have HB8 := Lib.hid (bel_trans HB7.out hb)
  have hb' := hb
  go_wp2_with fail
  refine hK.out _ _ (by exact ⟨cell_below hb' hHeld.1, cell_below hb' hHeld.2.1, cell_below hb' hHeld.2.2.1, cell_below hb' hHeld.2.2.2.1, cell_below hb' hHeld.2.2.2.2.1, cell_below hb' hHeld.2.2.2.2.2.1, cell_below hb' hHeld.2.2.2.2.2.2.1, cell_below hb' hHeld.2.2.2.2.2.2.2.1, cell_below hb' hHeld.2.2.2.2.2.2.2.2.1, cell_below hb' hHeld.2.2.2.2.2.2.2.2.2.1, cell_below hb' hHeld.2.2.2.2.2.2.2.2.2.2.1, cell_below hb' hHeld.2.2.2.2.2.2.2.2.2.2.2.1, cell_below hb' hHeld.2.2.2.2.2.2.2.2.2.2.2.2.1, cell_below hb' hHeld.2.2.2.2.2.2.2.2.2.2.2.2.2.1, cell_below hb' hHeld.2.2.2.2.2.2.2.2.2.2.2.2.2.2.1, cell_below hb' hHeld.2.2.2.2.2.2.2.2.2.2.2.2.2.2.2.1, cell_below hb' hHeld.2.2.2.2.2.2.2.2.2.2.2.2.2.2.2.2.1, cell_below hb' hHeld.2.2.2.2.2.2.2.2.2.2.2.2.2.2.2.2.2.1, cell_below hb' hHeld.2.2.2.2.2.2.2.2.2.2.2.2.2.2.2.2.2.2.1, cell_below hb' hHeld.2.2.2.2.2.2.2.2.2.2.2.2.2.2.2.2.2.2.2.1, cell_below hb' hHeld.2.2.2.2.2.2.2.2.2.2.2.2.2.2.2.2.2.2.2.2.1, cell_below hb' hHeld.2.2.2.2.2.2.2.2.2.2.2.2.2.2.2.2.2.2.2.2.2.1, cell_below hb' hHeld.2.2.2.2.2.2.2.2.2.2.2.2.2.2.2.2.2.2.2.2.2.2.1, cell_below hb' hHeld.2.2.2.2.2.2.2.2.2.2.2.2.2.2.2.2.2.2.2.2.2.2.2.1, cell_below hb' hHeld.2.2.2.2.2.2.2.2.2.2.2.2.2.2.2.2.2.2.2.2.2.2.2.2.1, cell_below hb' hHeld.2.2.2.2.2.2.2.2.2.2.2.2.2.2.2.2.2.2.2.2.2.2.2.2.2.1, cell_below hb' hHeld.2.2.2.2.2.2.2.2.2.2.2.2.2.2.2.2.2.2.2.2.2.2.2.2.2.2.1, cell_below hb' hHeld.2.2.2.2.2.2.2.2.2.2.2.2.2.2.2.2.2.2.2.2.2.2.2.2.2.2.2.1, cell_below hb' hHeld.2.2.2.2.2.2.2.2.2.2.2.2.2.2.2.2.2.2.2.2.2.2.2.2.2.2.2.2.1, cell_below hb' hHeld.2.2.2.2.2.2.2.2.2.2.2.2.2.2.2.2.2.2.2.2.2.2.2.2.2.2.2.2.2.1, cell_below hb' hHeld.2.2.2.2.2.2.2.2.2.2.2.2.2.2.2.2.2.2.2.2.2.2.2.2.2.2.2.2.2.2.1, cell_below hb' hHeld.2.2.2.2.2.2.2.2.2.2.2.2.2.2.2.2.2.2.2.2.2.2.2.2.2.2.2.2.2.2.2.1, cell_below hb' hHeld.2.2.2.2.2.2.2.2.2.2.2.2.2.2.2.2.2.2.2.2.2.2.2.2.2.2.2.2.2.2.2.2.1, cell_below hb' hHeld.2.2.2.2.2.2.2.2.2.2.2.2.2.2.2.2.2.2.2.2.2.2.2.2.2.2.2.2.2.2.2.2.2.1, cell_below hb' hHeld.2.2.2.2.2.2.2.2.2.2.2.2.2.2.2.2.2.2.2.2.2.2.2.2.2.2.2.2.2.2.2.2.2.2.1, cell_below hb' hHeld.2.2.2.2.2.2.2.2.2.2.2.2.2.2.2.2.2.2.2.2.2.2.2.2.2.2.2.2.2.2.2.2.2.2.2.1, cell_below hb' hHeld.2.2.2.2.2.2.2.2.2.2.2.2.2.2.2.2.2.2.2.2.2.2.2.2.2.2.2.2.2.2.2.2.2.2.2.2.1, cell_below hb' hHeld.2.2.2.2.2.2.2.2.2.2.2.2.2.2.2.2.2.2.2.2.2.2.2.2.2.2.2.2.2.2.2.2.2.2.2.2.2.1, cell_below hb' hHeld.2.2.2.2.2.2.2.2.2.2.2.2.2.2.2.2.2.2.2.2.2.2.2.2.2.2.2.2.2.2.2.2.2.2.2.2.2.2⟩) (fun hHeld => ?_)
  clear hK K hb hb'
  try simp only [Act.put, List.getElem_toArray, List.getElem_cons_succ, List.getElem_cons_zero, List.setIfInBounds_toArray, List.set_cons_zero, List.set_cons_succ]
  refine wpAnyH_take (i := 56) (v := ?_) rfl (by kernel_rfl) (by kernel_rfl) (by kernel_rfl) (fun _ _ _ h => h) (Or.inl ⟨by rfl, ?_⟩) (by assumption) ?_
  rotate_left 1
  · (intro w hSw; (try dsimp only at hSw); first | (go_simp; done) | (go_simp; with_reducible rfl))
  try simp only [Act.put, List.getElem_toArray, List.getElem_cons_succ, List.getElem_cons_zero, List.setIfInBounds_toArray, List.set_cons_zero, List.set_cons_succ]
  refine wpAnyH_take (i := 57) (v := ?_) rfl (by kernel_rfl) (by kernel_rfl) (by kernel_rfl) (fun _ _ _ h => h) (Or.inl ⟨by rfl, ?_⟩) (by assumption) ?_
  rotate_left 1
  · (intro w hSw; (try dsimp only at hSw); first | (go_simp; done) | (go_simp; with_reducible rfl))
  try simp only [Act.put, List.getElem_toArray, List.getElem_cons_succ, List.getElem_cons_zero, List.setIfInBounds_toArray, List.set_cons_zero, List.set_cons_succ]
  refine wpAnyH_take (i := 58) (v := ?_) rfl (by kernel_rfl) (by kernel_rfl) (by kernel_rfl) (fun _ _ _ h => h) (Or.inl ⟨by rfl, ?_⟩) (by assumption) ?_
  rotate_left 1
  · (intro w hSw; (try dsimp only at hSw); first | (go_simp; done) | (go_simp; with_reducible rfl))
  try simp only [Act.put, List.getElem_toArray, List.getElem_cons_succ, List.getElem_cons_zero, List.setIfInBounds_toArray, List.set_cons_zero, List.set_cons_succ]
  refine wpAnyH_take (i := 59) (v := ?_) rfl (by kernel_rfl) (by kernel_rfl) (by kernel_rfl) (fun _ _ _ h => h) (Or.inl ⟨by rfl, ?_⟩) (by assumption) ?_
  rotate_left 1
  · (intro w hSw; (try dsimp only at hSw); first | (go_simp; done) | (go_simp; with_reducible rfl))
  try simp only [Act.put, List.getElem_toArray, List.getElem_cons_succ, List.getElem_cons_zero, List.setIfInBounds_toArray, List.set_cons_zero, List.set_cons_succ]
  refine wpAnyH_take (i := 60) (v := ?_) rfl (by kernel_rfl) (by kernel_rfl) (by kernel_rfl) (fun _ _ _ h => h) (Or.inl ⟨by rfl, ?_⟩) (by assumption) ?_
  rotate_left 1
  · (intro w hSw; (try dsimp only at hSw); first | (go_simp; done) | (go_simp; with_reducible rfl))
  try simp only [Act.put, List.getElem_toArray, List.getElem_cons_succ, List.getElem_cons_zero, List.setIfInBounds_toArray, List.set_cons_zero, List.set_cons_succ]
  refine wpAnyH_take (i := 61) (v := ?_) rfl (by kernel_rfl) (by kernel_rfl) (by kernel_rfl) (fun _ _ _ h => h) (Or.inl ⟨by rfl, ?_⟩) (by assumption) ?_
  rotate_left 1
  · (intro w hSw; (try dsimp only at hSw); first | (go_simp; done) | (go_simp; with_reducible rfl))
  try simp only [Act.put, List.getElem_toArray, List.getElem_cons_succ, List.getElem_cons_zero, List.setIfInBounds_toArray, List.set_cons_zero, List.set_cons_succ]
  refine wpAnyH_take (i := 62) (v := ?_) rfl (by kernel_rfl) (by kernel_rfl) (by kernel_rfl) (fun _ _ _ h => h) (Or.inl ⟨by rfl, ?_⟩) (by assumption) ?_
  rotate_left 1
  · (intro w hSw; (try dsimp only at hSw); first | (go_simp; done) | (go_simp; with_reducible rfl))
  try simp only [Act.put, List.getElem_toArray, List.getElem_cons_succ, List.getElem_cons_zero, List.setIfInBounds_toArray, List.set_cons_zero, List.set_cons_succ]
  refine wpAnyH_take (i := 63) (v := ?_) rfl (by kernel_rfl) (by kernel_rfl) (by kernel_rfl) (fun _ _ _ h => h) (Or.inl ⟨by rfl, ?_⟩) (by assumption) ?_
  rotate_left 1
  · (intro w hSw; (try dsimp only at hSw); first | (go_simp; done) | (go_simp; with_reducible rfl))
  try simp only [Act.put, List.getElem_toArray, List.getElem_cons_succ, List.getElem_cons_zero, List.setIfInBounds_toArray, List.set_cons_zero, List.set_cons_succ]
  refine wpAnyH_take (i := 64) (v := ?_) rfl (by kernel_rfl) (by kernel_rfl) (by kernel_rfl) (fun _ _ _ h => h) (Or.inl ⟨by rfl, ?_⟩) (by assumption) ?_
  rotate_left 1
  · (intro w hSw; (try dsimp only at hSw); first | (go_simp; done) | (go_simp; with_reducible rfl))
  try simp only [Act.put, List.getElem_toArray, List.getElem_cons_succ, List.getElem_cons_zero, List.setIfInBounds_toArray, List.set_cons_zero, List.set_cons_succ]
  refine wpAnyH_take (i := 65) (v := ?_) rfl (by kernel_rfl) (by kernel_rfl) (by kernel_rfl) (fun _ _ _ h => h) (Or.inl ⟨by rfl, ?_⟩) (by assumption) ?_
  rotate_left 1
  · (intro w hSw; (try dsimp only at hSw); first | (go_simp; done) | (go_simp; with_reducible rfl))
  try simp only [Act.put, List.getElem_toArray, List.getElem_cons_succ, List.getElem_cons_zero, List.setIfInBounds_toArray, List.set_cons_zero, List.set_cons_succ]
  refine wpAnyH_done (by kernel_rfl) ?_ _
  refine NoPanic.normal ?_
  go_wp2_with fail
  go_ret
  exact ⟨rfl, bel_trans HB.out HB8.out⟩
end Go.Proofs.Ytdlmlcgmonkdfaa
