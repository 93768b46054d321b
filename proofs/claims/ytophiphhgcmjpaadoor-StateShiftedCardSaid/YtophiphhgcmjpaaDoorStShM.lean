/-
  Instants and states of shifted sets. No program in sight.
-/
import Derived.Test.YtophiphhgcmjpaaDoorShMade
import Derived.Test.YtophiphhgcmjpaaDoorStAt
namespace Go.Proofs.YtophiphhgcmjpaaDoor.Cv
open Go.RowKit
set_option linter.unusedVariables false
set_option linter.unusedSimpArgs false

theorem sh_inst {x off z : Int} {rs : _root_.List Ru} {e : Ev} (h : ShOk x rs) (h1 : Some1 rs) (hz : InstIs rs e off z) : InstIs (shL x rs) e (off - x) z := by
  obtain ⟨r, hr, hz⟩ := hz
  refine ⟨shR x r, by rw [shL_at, hr]; rfl, ?_⟩
  rcases hz with ⟨hb, o, ho, hz⟩ | ⟨hb, hz⟩ | ⟨hb, hc, hz⟩
  · refine .inl ⟨hb, o, sh_bef h ho, ?_⟩
    rw [sh_befS h h1 ho]
    show z = e.nom - ((befS rs o).save + x) - (off - x)
    omega
  · exact .inr (.inl ⟨hb, by rw [h.base]; omega⟩)
  · exact .inr (.inr ⟨hb, hc, hz⟩)
theorem sh_at {x off t : Int} {rs : _root_.List Ru} (h : ShOk x rs) (h1 : Some1 rs) : ∀ (n : Nat) (N : Int) (s : Sta), AtIs rs off t n N s → AtIs (shL x rs) (off - x) t n N (shS x s)
  | 0, N, s, ⟨o, ho, hs⟩ => ⟨o, sh_bef h ho, by rw [hs, sh_befS h h1 ho]⟩
  | n + 1, N, s, .inl ⟨hn, hs⟩ => .inl ⟨sh_bef h hn, by rw [hs, sh_initS h h1]⟩
  | n + 1, N, s, .inr ⟨y, z, hy, hz, .inl ⟨hl, hs⟩⟩ => by
    obtain ⟨r, hr⟩ := ev_rule hy.1
    exact .inr ⟨y, z, sh_bef h hy, sh_inst h h1 hz, .inl ⟨hl, by rw [hs, sh_behS hr]⟩⟩
  | n + 1, N, s, .inr ⟨y, z, hy, hz, .inr ⟨hl, ha⟩⟩ => .inr ⟨y, z, sh_bef h hy, sh_inst h h1 hz, .inr ⟨hl, sh_at h h1 n y.nom s ha⟩⟩
theorem at_bd {rs : _root_.List Ru} (h : SavOk rs) {off t : Int} : ∀ {n : Nat} {N : Int} {s : Sta}, AtIs rs off t n N s → -1000000000 ≤ s.save ∧ s.save ≤ 1000000000
  | 0, N, s, ⟨o, ho, hs⟩ => by rw [hs]; exact befS_bd h o
  | n + 1, N, s, .inl ⟨hn, hs⟩ => by rw [hs]; exact befS_bd h none
  | n + 1, N, s, .inr ⟨y, z, hy, hz, .inl ⟨hl, hs⟩⟩ => by rw [hs]; exact behS_bd h y
  | n + 1, N, s, .inr ⟨y, z, hy, hz, .inr ⟨hl, ha⟩⟩ => at_bd h ha
/-- the one other save, looked for -/
def OthS (sv xv : Int) (rs : _root_.List Ru) (k : Nat) : Prop := (xv = 0 ∧ ∀ r ∈ rs.take k, r.save = 0) ∨ xv = -sv
theorem othS_zero (sv : Int) (rs : _root_.List Ru) : OthS sv 0 rs 0 := .inl ⟨rfl, fun r hr => by simp at hr⟩
theorem othS_no {sv xv : Int} {rs : _root_.List Ru} {k : Nat} {r : Ru} (h : OthS sv xv rs k) (hr : rs[k]? = some r) (hs : r.save = 0) : OthS sv xv rs (k + 1) := by
  rcases h with ⟨h1, h2⟩ | h1
  · refine .inl ⟨h1, fun q hq => ?_⟩
    rw [_root_.List.take_add_one, hr] at hq
    rcases _root_.List.mem_append.1 hq with h3 | h3
    · exact h2 q h3
    · simp at h3; subst h3; exact hs
  · exact .inr h1
theorem othS_all {sv xv : Int} {rs : _root_.List Ru} (hm : MadeP sv rs) (h : OthS sv xv rs rs.length) : xv = -sv := by
  rcases h with ⟨h1, h2⟩ | h1
  · obtain ⟨_, r, hr, hs⟩ := made_both hm
    have := h2 r (by rw [_root_.List.take_length]; exact hr)
    have := hm.svs
    omega
  · exact h1
end Go.Proofs.YtophiphhgcmjpaaDoor.Cv
