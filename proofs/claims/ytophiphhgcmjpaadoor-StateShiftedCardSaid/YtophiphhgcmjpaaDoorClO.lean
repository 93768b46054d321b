/-
  slices.Clone at rules: a row of the call's own.
-/
import Derived.Test.YtophiphhgcmjpaaDoorEvClone
namespace Go.Proofs.YtophiphhgcmjpaaDoor
open Go.RowKit Cv
set_option linter.unusedVariables false
set_option linter.unusedSimpArgs false

set_option maxRecDepth 100000 in
set_option maxHeartbeats 2000000 in
/-- a clone of rules: a row of the call's own that reads as they do -/
theorem cloneRuO_any (v : Value) (rs : _root_.List Ru) (W : World) (h : Rul v rs W) :
    Calls Tryd.prog 14 #[v] W fun e w' => ∃ v', e = .returned v' ∧ w'.ownsRow W.heap.size 37 11 v' rs.length (flatRu rs) ∧ Below W.heap.size W w' := by
  obtain ⟨A, cap, rfl⟩ := h.sl
  have H := Lib.hid h
  have hn := h.len
  have hf : ∀ r ∈ rs, r.fits := fun r hr => by obtain ⟨i, hi⟩ := _root_.List.mem_iff_getElem?.1 hr; exact h.fits hi
  have HF := Lib.hid hf
  clear h hf
  obtain ⟨n, hN⟩ : ∃ n, n = rs.length := ⟨_, rfl⟩
  rw [← hN] at hn H ⊢
  have HN := Lib.hid hN
  clear hN
  obtain ⟨i0, hi, hz0, hzs, hzb⟩ := info_parts infoRu
  have hq : ∀ (w : World) (a : Option Addr) (n c n' c' : Nat), (binOp .eql 24 (.slice a n c) (.slice none n' c')).run Tryd.prog w = .ok (.bool a.isNone) w := fun w a n c n' c' => Lib.run_eql_slice_nil w _ _ a n c n' c' Tryd.underlying24
  cases A with
  | none =>
    have hx : rs = [] := by
      cases rs with
      | nil => rfl
      | cons r l => obtain ⟨g, off, e, _⟩ := H.out.at_ (i := 0) rfl; cases e
    subst hx
    go_enter Tryd.func14, Tryd.ntmps14
    go_wp2_with fail
    go_ret
    exact ⟨_, rfl, by (have h0 : n = 0 := (by simpa using HN.out)); rw [h0]; exact World.ownsRow_nil _ _ _ _, Below.refl _ _⟩
  | some ad =>
    go_enter Tryd.func14, Tryd.ntmps14
    go_wp2_with (at_builtin; refine wpList_append_own _ rfl (.tmp 5) (.tmp 6) 24 rfl W.heap.size 37 i0 (.agg #[.string ⟨#[]⟩, .int .i64 0, .int .i64 0, .int .i64 0, .int .i64 0, .int .i64 0, .int .i64 0, .int .i64 0, .int .i64 0, .int .i64 0, .string ⟨#[]⟩]) 11 104 Tryd.underlying24 hi hz0 hzs hzb rfl (by decide) _ 0 [] rfl (World.ownsRow_made W #[] 0 (Nat.le_refl _) (by decide) (by simp)) ad n cap (flatRu rs) rfl (by rw [flatRu_len, HN.out]) (fun j u hu => cell_below (bel_alloc W _) (H.out.news j u hu)) (flat_one rs) (by unfold maxLen; omega) (by omega) (by simp) ?_; intro v1 w1 hown1 hgrow1 hnil1)
    go_ret
    refine ⟨_, rfl, by have h1 := hown1; rw [Nat.zero_add] at h1; simpa using h1, ?_⟩
    exact Below.grown (bel_alloc W _) hgrow1 (by simp) (fun k hk => (World.ownsRow_made W #[] 0 (e := 37) (size := 11) (Nat.le_refl W.heap.size) (by decide) (by simp)).lt k (by exact hk) |>.1)

end Go.Proofs.YtophiphhgcmjpaaDoor
