/-
  The walk of the law ShiftOthers.
-/
import Derived.Test.YtdlmlcgmonkdfaaShfWk2
namespace Go.Proofs.Ytdlmlcgmonkdfaa
open Go.RowKit Sh
set_option linter.unusedVariables false
set_option linter.unusedSimpArgs false

namespace Sh
theorem frzB {V : World} {b : Nat} {t : TypeId} {cs : Array Value} (h : V.heap[b]? = some (.cells cs t)) (i : Nat) : V.frozen? ⟨b, i, none⟩ = false := by
  unfold World.frozen?
  rw [h]
  simp
def otE (kd : Int) (is : Bool) (bs : Int) : Er := ⟨5, kd, 0, ⟨#[82]⟩, ⟨#[70]⟩, is, 0, 0, 0, 0, 0, 9, bs⟩
def otQ (kd : Int) (is : Bool) (bs : Int) : Er := ⟨5, kd, 0, ⟨#[114]⟩, ⟨#[70]⟩, is, 0, 0, 0, 0, 0, 9, bs⟩
def otR0 : Ru := ⟨⟨#[82]⟩, 0, 0, 0, 0, 0, 0, 0, 0, 1, ⟨#[]⟩⟩
def otR1 : Ru := ⟨⟨#[81]⟩, 0, 0, 0, 0, 0, 0, 0, 1, 2, ⟨#[]⟩⟩
def otS (kd : Int) (is : Bool) (bs : Int) : Sou := ⟨[otR0, otR1], [⟨⟨#[90]⟩, [otE kd is bs, otQ kd is bs]⟩], [], []⟩
theorem ot_sh (kd : Int) (is : Bool) (bs x : Int) : ∃ o s, (otE kd is bs).sh ⟨#[82]⟩ x = ⟨o, kd, 0, ⟨#[82]⟩, ⟨#[70]⟩, is, 0, 0, 0, 0, 0, s, bs⟩ ∧ o = (if kd = 2 then wrap64 (5 - x) else 5) ∧ s = (if kd = 2 ∧ is = true ∧ bs = 1 then wrap64 (9 - x) else 9) := by
  unfold Er.sh otE
  by_cases h : kd = 2
  · subst h
    rw [if_pos ⟨rfl, rfl⟩]
    cases is
    · exact ⟨_, _, rfl, rfl, by simp⟩
    · by_cases hb : bs = 1
      · subst hb; exact ⟨_, _, rfl, rfl, by simp [less]⟩
      · exact ⟨_, _, rfl, rfl, by simp [less, hb]⟩
  · rw [if_neg (fun e => h e.1)]
    exact ⟨_, _, rfl, by simp [h], by simp [h]⟩
theorem ot_shS (kd : Int) (is : Bool) (bs x : Int) : (otS kd is bs).shS ⟨#[82]⟩ x = ⟨[otR0.sh x, otR1], [⟨⟨#[90]⟩, [(otE kd is bs).sh ⟨#[82]⟩ x, otQ kd is bs]⟩], [], []⟩ := by
  have h1 : otR0.of ⟨#[82]⟩ x = otR0.sh x := by unfold Ru.of; exact if_pos rfl
  have h2 : otR1.of ⟨#[82]⟩ x = otR1 := by unfold Ru.of; exact if_neg (by decide)
  have h3 : (otQ kd is bs).sh ⟨#[82]⟩ x = otQ kd is bs := by unfold Er.sh; exact if_neg (fun e => absurd e.2 (by show ¬ (⟨#[114]⟩ : ByteArray) = ⟨#[82]⟩; decide))
  unfold Sou.shS otS shZ
  simp only [_root_.List.map_cons, _root_.List.map_nil, h1, h2, h3]
end Sh

set_option maxRecDepth 100000 in
set_option maxHeartbeats 8000000 in
theorem shiftOthers_core (W : World) (x : Int) (hx : -9223372036854775808 ≤ x ∧ x ≤ 9223372036854775807) (k : Int) (hk : 0 ≤ k ∧ k ≤ 255) (is : Bool) (b : Int) (hb : 0 ≤ b ∧ b ≤ 255) :
    Calls Try.prog 8 #[.int .i64 x, .int .u8 k, .bool is, .int .u8 b] W fun e w' => e = .returned (.bool true) ∧ Below W.heap.size W w' := by
  have hne := neRuS
  have hnE := neErS
  have hee := eqErS
  obtain ⟨kd, hkd⟩ : ∃ kd, k.tmod 3 = kd := ⟨_, rfl⟩
  obtain ⟨bs, hbs⟩ : ∃ bs, b.tmod 3 = bs := ⟨_, rfl⟩
  have hkd' : 0 ≤ kd ∧ kd ≤ 2 := by rw [← hkd, Int.tmod_eq_emod_of_nonneg hk.1]; omega
  have hbs' : 0 ≤ bs ∧ bs ≤ 2 := by rw [← hbs, Int.tmod_eq_emod_of_nonneg hb.1]; omega
  have hw1 : IntKind.i64.wrap kd = kd := IntWalk.i64_in _ (by omega)
  have hw2 : IntKind.i64.wrap bs = bs := IntWalk.i64_in _ (by omega)
  have hw3 : IntKind.u8.wrap kd = kd := by
    have h : kd = 0 ∨ kd = 1 ∨ kd = 2 := by omega
    rcases h with h | h | h <;> rw [h] <;> rfl
  have hw4 : IntKind.u8.wrap bs = bs := by
    have h : bs = 0 ∨ bs = 1 ∨ bs = 2 := by omega
    rcases h with h | h | h <;> rw [h] <;> rfl
  go_enter Try.func8, Try.ntmps8
  go_wp2_with fail
  obtain ⟨WX, hWX⟩ : ∃ WX, WX = ((((((W.alloc (.cells #[.int .i64 5, .int .i64 kd, .int .i64 0, .string ⟨#[82]⟩, .string ⟨#[70]⟩, .bool is, .int .i64 0, .int .i64 0, .int .i64 0, .int .i64 0, .int .i64 0, .int .i64 9, .int .i64 bs] 52)).alloc (.cells #[.int .i64 5, .int .i64 kd, .int .i64 0, .string ⟨#[114]⟩, .string ⟨#[70]⟩, .bool is, .int .i64 0, .int .i64 0, .int .i64 0, .int .i64 0, .int .i64 0, .int .i64 9, .int .i64 bs] 52)).alloc (.cells #[.string ⟨#[82]⟩, .int .i64 0, .int .i64 0, .int .i64 0, .int .i64 0, .int .i64 0, .int .i64 0, .int .i64 0, .int .i64 0, .int .i64 1, .string ⟨#[]⟩, .string ⟨#[81]⟩, .int .i64 0, .int .i64 0, .int .i64 0, .int .i64 0, .int .i64 0, .int .i64 0, .int .i64 0, .int .i64 1, .int .i64 2, .string ⟨#[]⟩] 44)).alloc (.cells #[.int .i64 5, .int .i64 kd, .int .i64 0, .string ⟨#[82]⟩, .string ⟨#[70]⟩, .bool is, .int .i64 0, .int .i64 0, .int .i64 0, .int .i64 0, .int .i64 0, .int .i64 9, .int .i64 bs, .int .i64 5, .int .i64 kd, .int .i64 0, .string ⟨#[114]⟩, .string ⟨#[70]⟩, .bool is, .int .i64 0, .int .i64 0, .int .i64 0, .int .i64 0, .int .i64 0, .int .i64 9, .int .i64 bs] 52)).alloc (.cells #[.string ⟨#[90]⟩, .slice (some ⟨W.heap.size + 1 + 1 + 1, 0, none⟩) 2 2] 48)).alloc (.cells #[.slice (some ⟨W.heap.size + 1 + 1, 0, none⟩) 2 2, .slice (some ⟨W.heap.size + 1 + 1 + 1 + 1, 0, none⟩) 1 1, .slice none 0 0, .slice none 0 0] 27)) := ⟨_, rfl⟩
  have hs1 : ∀ (V : World) (o : Obj), (V.alloc o).heap.size = V.heap.size + 1 := fun V o => by show (V.heap.push o).size = _; simp
  have KE : Hid (WX.heap[W.heap.size]? = some (.cells #[.int .i64 5, .int .i64 kd, .int .i64 0, .string ⟨#[82]⟩, .string ⟨#[70]⟩, .bool is, .int .i64 0, .int .i64 0, .int .i64 0, .int .i64 0, .int .i64 0, .int .i64 9, .int .i64 bs] 52)) := by
    rw [hWX]; have h := heap_alloc_new W (.cells #[.int .i64 5, .int .i64 kd, .int .i64 0, .string ⟨#[82]⟩, .string ⟨#[70]⟩, .bool is, .int .i64 0, .int .i64 0, .int .i64 0, .int .i64 0, .int .i64 0, .int .i64 9, .int .i64 bs] 52); exact block_below h (bel_trans (bel_trans (bel_trans (bel_trans (bel_alloc _ _) (bel_alloc _ _)) (bel_alloc _ _)) (bel_alloc _ _)) (bel_alloc _ _))
  have KQ : Hid (WX.heap[W.heap.size + 1]? = some (.cells #[.int .i64 5, .int .i64 kd, .int .i64 0, .string ⟨#[114]⟩, .string ⟨#[70]⟩, .bool is, .int .i64 0, .int .i64 0, .int .i64 0, .int .i64 0, .int .i64 0, .int .i64 9, .int .i64 bs] 52)) := by
    rw [hWX]; have h := heap_alloc_new (W.alloc (.cells #[.int .i64 5, .int .i64 kd, .int .i64 0, .string ⟨#[82]⟩, .string ⟨#[70]⟩, .bool is, .int .i64 0, .int .i64 0, .int .i64 0, .int .i64 0, .int .i64 0, .int .i64 9, .int .i64 bs] 52)) (.cells #[.int .i64 5, .int .i64 kd, .int .i64 0, .string ⟨#[114]⟩, .string ⟨#[70]⟩, .bool is, .int .i64 0, .int .i64 0, .int .i64 0, .int .i64 0, .int .i64 0, .int .i64 9, .int .i64 bs] 52); rw [hs1] at h; exact block_below h (bel_trans (bel_trans (bel_trans (bel_alloc _ _) (bel_alloc _ _)) (bel_alloc _ _)) (bel_alloc _ _))
  have KR : Hid (WX.heap[W.heap.size + 1 + 1]? = some (.cells #[.string ⟨#[82]⟩, .int .i64 0, .int .i64 0, .int .i64 0, .int .i64 0, .int .i64 0, .int .i64 0, .int .i64 0, .int .i64 0, .int .i64 1, .string ⟨#[]⟩, .string ⟨#[81]⟩, .int .i64 0, .int .i64 0, .int .i64 0, .int .i64 0, .int .i64 0, .int .i64 0, .int .i64 0, .int .i64 1, .int .i64 2, .string ⟨#[]⟩] 44)) := by
    rw [hWX]; have h := heap_alloc_new ((W.alloc (.cells #[.int .i64 5, .int .i64 kd, .int .i64 0, .string ⟨#[82]⟩, .string ⟨#[70]⟩, .bool is, .int .i64 0, .int .i64 0, .int .i64 0, .int .i64 0, .int .i64 0, .int .i64 9, .int .i64 bs] 52)).alloc (.cells #[.int .i64 5, .int .i64 kd, .int .i64 0, .string ⟨#[114]⟩, .string ⟨#[70]⟩, .bool is, .int .i64 0, .int .i64 0, .int .i64 0, .int .i64 0, .int .i64 0, .int .i64 9, .int .i64 bs] 52)) (.cells #[.string ⟨#[82]⟩, .int .i64 0, .int .i64 0, .int .i64 0, .int .i64 0, .int .i64 0, .int .i64 0, .int .i64 0, .int .i64 0, .int .i64 1, .string ⟨#[]⟩, .string ⟨#[81]⟩, .int .i64 0, .int .i64 0, .int .i64 0, .int .i64 0, .int .i64 0, .int .i64 0, .int .i64 0, .int .i64 1, .int .i64 2, .string ⟨#[]⟩] 44); rw [hs1, hs1] at h; exact block_below h (bel_trans (bel_trans (bel_alloc _ _) (bel_alloc _ _)) (bel_alloc _ _))
  have KF : Hid (WX.heap[W.heap.size + 1 + 1 + 1]? = some (.cells #[.int .i64 5, .int .i64 kd, .int .i64 0, .string ⟨#[82]⟩, .string ⟨#[70]⟩, .bool is, .int .i64 0, .int .i64 0, .int .i64 0, .int .i64 0, .int .i64 0, .int .i64 9, .int .i64 bs, .int .i64 5, .int .i64 kd, .int .i64 0, .string ⟨#[114]⟩, .string ⟨#[70]⟩, .bool is, .int .i64 0, .int .i64 0, .int .i64 0, .int .i64 0, .int .i64 0, .int .i64 9, .int .i64 bs] 52)) := by
    rw [hWX]; have h := heap_alloc_new (((W.alloc (.cells #[.int .i64 5, .int .i64 kd, .int .i64 0, .string ⟨#[82]⟩, .string ⟨#[70]⟩, .bool is, .int .i64 0, .int .i64 0, .int .i64 0, .int .i64 0, .int .i64 0, .int .i64 9, .int .i64 bs] 52)).alloc (.cells #[.int .i64 5, .int .i64 kd, .int .i64 0, .string ⟨#[114]⟩, .string ⟨#[70]⟩, .bool is, .int .i64 0, .int .i64 0, .int .i64 0, .int .i64 0, .int .i64 0, .int .i64 9, .int .i64 bs] 52)).alloc (.cells #[.string ⟨#[82]⟩, .int .i64 0, .int .i64 0, .int .i64 0, .int .i64 0, .int .i64 0, .int .i64 0, .int .i64 0, .int .i64 0, .int .i64 1, .string ⟨#[]⟩, .string ⟨#[81]⟩, .int .i64 0, .int .i64 0, .int .i64 0, .int .i64 0, .int .i64 0, .int .i64 0, .int .i64 0, .int .i64 1, .int .i64 2, .string ⟨#[]⟩] 44)) (.cells #[.int .i64 5, .int .i64 kd, .int .i64 0, .string ⟨#[82]⟩, .string ⟨#[70]⟩, .bool is, .int .i64 0, .int .i64 0, .int .i64 0, .int .i64 0, .int .i64 0, .int .i64 9, .int .i64 bs, .int .i64 5, .int .i64 kd, .int .i64 0, .string ⟨#[114]⟩, .string ⟨#[70]⟩, .bool is, .int .i64 0, .int .i64 0, .int .i64 0, .int .i64 0, .int .i64 0, .int .i64 9, .int .i64 bs] 52); rw [hs1, hs1, hs1] at h; exact block_below h (bel_trans (bel_alloc _ _) (bel_alloc _ _))
  have KZ : Hid (WX.heap[W.heap.size + 1 + 1 + 1 + 1]? = some (.cells #[.string ⟨#[90]⟩, .slice (some ⟨W.heap.size + 1 + 1 + 1, 0, none⟩) 2 2] 48)) := by
    rw [hWX]; have h := heap_alloc_new ((((W.alloc (.cells #[.int .i64 5, .int .i64 kd, .int .i64 0, .string ⟨#[82]⟩, .string ⟨#[70]⟩, .bool is, .int .i64 0, .int .i64 0, .int .i64 0, .int .i64 0, .int .i64 0, .int .i64 9, .int .i64 bs] 52)).alloc (.cells #[.int .i64 5, .int .i64 kd, .int .i64 0, .string ⟨#[114]⟩, .string ⟨#[70]⟩, .bool is, .int .i64 0, .int .i64 0, .int .i64 0, .int .i64 0, .int .i64 0, .int .i64 9, .int .i64 bs] 52)).alloc (.cells #[.string ⟨#[82]⟩, .int .i64 0, .int .i64 0, .int .i64 0, .int .i64 0, .int .i64 0, .int .i64 0, .int .i64 0, .int .i64 0, .int .i64 1, .string ⟨#[]⟩, .string ⟨#[81]⟩, .int .i64 0, .int .i64 0, .int .i64 0, .int .i64 0, .int .i64 0, .int .i64 0, .int .i64 0, .int .i64 1, .int .i64 2, .string ⟨#[]⟩] 44)).alloc (.cells #[.int .i64 5, .int .i64 kd, .int .i64 0, .string ⟨#[82]⟩, .string ⟨#[70]⟩, .bool is, .int .i64 0, .int .i64 0, .int .i64 0, .int .i64 0, .int .i64 0, .int .i64 9, .int .i64 bs, .int .i64 5, .int .i64 kd, .int .i64 0, .string ⟨#[114]⟩, .string ⟨#[70]⟩, .bool is, .int .i64 0, .int .i64 0, .int .i64 0, .int .i64 0, .int .i64 0, .int .i64 9, .int .i64 bs] 52)) (.cells #[.string ⟨#[90]⟩, .slice (some ⟨W.heap.size + 1 + 1 + 1, 0, none⟩) 2 2] 48); rw [hs1, hs1, hs1, hs1] at h; exact block_below h (bel_alloc _ _)
  have KS : Hid (WX.heap[W.heap.size + 1 + 1 + 1 + 1 + 1]? = some (.cells #[.slice (some ⟨W.heap.size + 1 + 1, 0, none⟩) 2 2, .slice (some ⟨W.heap.size + 1 + 1 + 1 + 1, 0, none⟩) 1 1, .slice none 0 0, .slice none 0 0] 27)) := by
    rw [hWX]; have h := heap_alloc_new (((((W.alloc (.cells #[.int .i64 5, .int .i64 kd, .int .i64 0, .string ⟨#[82]⟩, .string ⟨#[70]⟩, .bool is, .int .i64 0, .int .i64 0, .int .i64 0, .int .i64 0, .int .i64 0, .int .i64 9, .int .i64 bs] 52)).alloc (.cells #[.int .i64 5, .int .i64 kd, .int .i64 0, .string ⟨#[114]⟩, .string ⟨#[70]⟩, .bool is, .int .i64 0, .int .i64 0, .int .i64 0, .int .i64 0, .int .i64 0, .int .i64 9, .int .i64 bs] 52)).alloc (.cells #[.string ⟨#[82]⟩, .int .i64 0, .int .i64 0, .int .i64 0, .int .i64 0, .int .i64 0, .int .i64 0, .int .i64 0, .int .i64 0, .int .i64 1, .string ⟨#[]⟩, .string ⟨#[81]⟩, .int .i64 0, .int .i64 0, .int .i64 0, .int .i64 0, .int .i64 0, .int .i64 0, .int .i64 0, .int .i64 1, .int .i64 2, .string ⟨#[]⟩] 44)).alloc (.cells #[.int .i64 5, .int .i64 kd, .int .i64 0, .string ⟨#[82]⟩, .string ⟨#[70]⟩, .bool is, .int .i64 0, .int .i64 0, .int .i64 0, .int .i64 0, .int .i64 0, .int .i64 9, .int .i64 bs, .int .i64 5, .int .i64 kd, .int .i64 0, .string ⟨#[114]⟩, .string ⟨#[70]⟩, .bool is, .int .i64 0, .int .i64 0, .int .i64 0, .int .i64 0, .int .i64 0, .int .i64 9, .int .i64 bs] 52)).alloc (.cells #[.string ⟨#[90]⟩, .slice (some ⟨W.heap.size + 1 + 1 + 1, 0, none⟩) 2 2] 48)) (.cells #[.slice (some ⟨W.heap.size + 1 + 1, 0, none⟩) 2 2, .slice (some ⟨W.heap.size + 1 + 1 + 1 + 1, 0, none⟩) 1 1, .slice none 0 0, .slice none 0 0] 27); rw [hs1, hs1, hs1, hs1, hs1] at h; exact block_below h (Below.refl _ _)
  have HB : Hid (Below W.heap.size W WX) := by rw [hWX]; exact (bel_trans (bel_trans (bel_trans (bel_trans (bel_trans (bel_alloc _ _) (bel_alloc _ _)) (bel_alloc _ _)) (bel_alloc _ _)) (bel_alloc _ _)) (bel_alloc _ _))
  have HS : Hid (RdS (.slice (some ⟨W.heap.size + 1 + 1, 0, none⟩) 2 2) (.slice (some ⟨W.heap.size + 1 + 1 + 1 + 1, 0, none⟩) 1 1) (.slice none 0 0) (.slice none 0 0) (otS kd is bs) WX) := by
    refine ⟨?_, ?_, ⟨rfl, Nat.zero_le 1000, fun u hu => (by simp [flatL, otS] at hu), .inl ⟨none, rfl, rfl⟩⟩, ⟨rfl, Nat.zero_le 1000, fun u hu => (by simp [flatN, otS] at hu), .inl ⟨none, rfl, rfl⟩⟩⟩
    · exact rd_block (n := 2) KR.out (by rfl) (by rfl) (by decide) (flatR_one _)
    · exact rdz_one (na := ⟨#[90]⟩) (es := [otE kd is bs, otQ kd is bs]) KZ.out (rd_block (n := 2) KF.out (by rfl) (by rfl) (by decide) (flatE_one _))
  rw [← show WX = _ from hWX]
  clear hWX hs1
  refine (setY_any _ _ _ _ (otS kd is bs) ⟨#[82]⟩ x _ HS.out (by kernel_rfl)).mono ?_
  rintro e w1 ⟨u1, u2, u3, u4, rfl, HU, hb⟩
  rw [ot_shS] at HU
  obtain ⟨o', s', hE, ho', hs'⟩ := ot_sh kd is bs x
  rw [hE] at HU
  obtain ⟨a1, c1, a2, c2, a3, c3, a4, c4, rfl, rfl, rfl, rfl⟩ := HU.out.rd.sl4 2 1 0 0 rfl rfl rfl rfl
  replace hb := bel_trans hb (bel_alloc w1 (.cells #[.slice a1 2 c1, .slice a2 1 c2, .slice a3 0 c3, .slice a4 0 c4] 27))
  have KU := Lib.hid (heap_alloc_new w1 (.cells #[.slice a1 2 c1, .slice a2 1 c2, .slice a3 0 c3, .slice a4 0 c4] 27))
  replace HU := Lib.hid (HU.out.below (bel_alloc w1 (.cells #[.slice a1 2 c1, .slice a2 1 c2, .slice a3 0 c3, .slice a4 0 c4] 27)))
  replace HB := Lib.hid (bel_trans HB.out hb)
  replace KE := Lib.hid (block_below KE.out hb)
  replace KQ := Lib.hid (block_below KQ.out hb)
  replace KR := Lib.hid (block_below KR.out hb)
  replace KS := Lib.hid (block_below KS.out hb)
  clear hb KF KZ HS
  have HO := Lib.hid ho'
  have HSS := Lib.hid hs'
  clear ho' hs' hE
  obtain ⟨rg, ro, rc, e1⟩ := rd_some HU.out.rd.1 (Nat.succ_ne_zero 1)
  have e1' : a1 = some ⟨rg, ro, none⟩ ∧ c1 = rc := by simp only [Value.slice.injEq] at e1; exact ⟨e1.1, e1.2.2⟩
  obtain ⟨rfl, rfl⟩ := e1'
  clear e1
  obtain ⟨zg, zo, zc, eg, eo, ec, e2, z0, z1, UE⟩ := zone_one HU.out.rd.2.1 (Nat.succ_ne_zero 1)
  have e2' : a2 = some ⟨zg, zo, none⟩ ∧ c2 = zc := by simp only [Value.slice.injEq] at e2; exact ⟨e2.1, e2.2.2⟩
  obtain ⟨rfl, rfl⟩ := e2'
  clear e2
  have HUE := Lib.hid UE
  clear UE
  have h0 : (fun w' => w'.cell? ⟨w1.heap.size, 0, none⟩ = some (.slice (some ⟨rg, ro, none⟩) 2 c1) ∧ w'.cell? ⟨w1.heap.size, 1, none⟩ = some (.slice (some ⟨zg, zo, none⟩) 1 c2) ∧ w'.cell? ⟨W.heap.size + 1 + 1 + 1 + 1 + 1, 0, none⟩ = some (.slice (some ⟨W.heap.size + 1 + 1, 0, none⟩) 2 2) ∧ w'.cell? ⟨zg, zo + 1, none⟩ = some (.slice (some ⟨eg, eo, none⟩) 2 ec) ∧ w'.cell? ⟨rg, ro + 11, none⟩ = some (.string ⟨#[81]⟩) ∧ w'.cell? ⟨rg, ro + 12, none⟩ = some (.int .i64 0) ∧ w'.cell? ⟨rg, ro + 13, none⟩ = some (.int .i64 0) ∧ w'.cell? ⟨rg, ro + 14, none⟩ = some (.int .i64 0) ∧ w'.cell? ⟨rg, ro + 15, none⟩ = some (.int .i64 0) ∧ w'.cell? ⟨rg, ro + 16, none⟩ = some (.int .i64 0) ∧ w'.cell? ⟨rg, ro + 17, none⟩ = some (.int .i64 0) ∧ w'.cell? ⟨rg, ro + 18, none⟩ = some (.int .i64 0) ∧ w'.cell? ⟨rg, ro + 19, none⟩ = some (.int .i64 1) ∧ w'.cell? ⟨rg, ro + 20, none⟩ = some (.int .i64 2) ∧ w'.cell? ⟨rg, ro + 21, none⟩ = some (.string ⟨#[]⟩) ∧ w'.cell? ⟨W.heap.size + 1 + 1, 11, none⟩ = some (.string ⟨#[81]⟩) ∧ w'.cell? ⟨W.heap.size + 1 + 1, 12, none⟩ = some (.int .i64 0) ∧ w'.cell? ⟨W.heap.size + 1 + 1, 13, none⟩ = some (.int .i64 0) ∧ w'.cell? ⟨W.heap.size + 1 + 1, 14, none⟩ = some (.int .i64 0) ∧ w'.cell? ⟨W.heap.size + 1 + 1, 15, none⟩ = some (.int .i64 0) ∧ w'.cell? ⟨W.heap.size + 1 + 1, 16, none⟩ = some (.int .i64 0) ∧ w'.cell? ⟨W.heap.size + 1 + 1, 17, none⟩ = some (.int .i64 0) ∧ w'.cell? ⟨W.heap.size + 1 + 1, 18, none⟩ = some (.int .i64 0) ∧ w'.cell? ⟨W.heap.size + 1 + 1, 19, none⟩ = some (.int .i64 1) ∧ w'.cell? ⟨W.heap.size + 1 + 1, 20, none⟩ = some (.int .i64 2) ∧ w'.cell? ⟨W.heap.size + 1 + 1, 21, none⟩ = some (.string ⟨#[]⟩) ∧ w'.cell? ⟨eg, eo + 13, none⟩ = some (.int .i64 5) ∧ w'.cell? ⟨eg, eo + 14, none⟩ = some (.int .i64 kd) ∧ w'.cell? ⟨eg, eo + 15, none⟩ = some (.int .i64 0) ∧ w'.cell? ⟨eg, eo + 16, none⟩ = some (.string ⟨#[114]⟩) ∧ w'.cell? ⟨eg, eo + 17, none⟩ = some (.string ⟨#[70]⟩) ∧ w'.cell? ⟨eg, eo + 18, none⟩ = some (.bool is) ∧ w'.cell? ⟨eg, eo + 19, none⟩ = some (.int .i64 0) ∧ w'.cell? ⟨eg, eo + 20, none⟩ = some (.int .i64 0) ∧ w'.cell? ⟨eg, eo + 21, none⟩ = some (.int .i64 0) ∧ w'.cell? ⟨eg, eo + 22, none⟩ = some (.int .i64 0) ∧ w'.cell? ⟨eg, eo + 23, none⟩ = some (.int .i64 0) ∧ w'.cell? ⟨eg, eo + 24, none⟩ = some (.int .i64 9) ∧ w'.cell? ⟨eg, eo + 25, none⟩ = some (.int .i64 bs) ∧ w'.cell? ⟨W.heap.size + 1, 0, none⟩ = some (.int .i64 5) ∧ w'.cell? ⟨W.heap.size + 1, 1, none⟩ = some (.int .i64 kd) ∧ w'.cell? ⟨W.heap.size + 1, 2, none⟩ = some (.int .i64 0) ∧ w'.cell? ⟨W.heap.size + 1, 3, none⟩ = some (.string ⟨#[114]⟩) ∧ w'.cell? ⟨W.heap.size + 1, 4, none⟩ = some (.string ⟨#[70]⟩) ∧ w'.cell? ⟨W.heap.size + 1, 5, none⟩ = some (.bool is) ∧ w'.cell? ⟨W.heap.size + 1, 6, none⟩ = some (.int .i64 0) ∧ w'.cell? ⟨W.heap.size + 1, 7, none⟩ = some (.int .i64 0) ∧ w'.cell? ⟨W.heap.size + 1, 8, none⟩ = some (.int .i64 0) ∧ w'.cell? ⟨W.heap.size + 1, 9, none⟩ = some (.int .i64 0) ∧ w'.cell? ⟨W.heap.size + 1, 10, none⟩ = some (.int .i64 0) ∧ w'.cell? ⟨W.heap.size + 1, 11, none⟩ = some (.int .i64 9) ∧ w'.cell? ⟨W.heap.size + 1, 12, none⟩ = some (.int .i64 bs)) (w1.alloc (.cells #[.slice (some ⟨rg, ro, none⟩) 2 c1, .slice (some ⟨zg, zo, none⟩) 1 c2, .slice a3 0 c3, .slice a4 0 c4] 27)) := ⟨cellB KU.out (i := 0) rfl, cellB KU.out (i := 1) rfl, cellB KS.out (i := 0) rfl, z1, rd_cell HU.out.rd.1 11 _ rfl, rd_cell HU.out.rd.1 12 _ rfl, rd_cell HU.out.rd.1 13 _ rfl, rd_cell HU.out.rd.1 14 _ rfl, rd_cell HU.out.rd.1 15 _ rfl, rd_cell HU.out.rd.1 16 _ rfl, rd_cell HU.out.rd.1 17 _ rfl, rd_cell HU.out.rd.1 18 _ rfl, rd_cell HU.out.rd.1 19 _ rfl, rd_cell HU.out.rd.1 20 _ rfl, rd_cell HU.out.rd.1 21 _ rfl, cellB KR.out (i := 11) rfl, cellB KR.out (i := 12) rfl, cellB KR.out (i := 13) rfl, cellB KR.out (i := 14) rfl, cellB KR.out (i := 15) rfl, cellB KR.out (i := 16) rfl, cellB KR.out (i := 17) rfl, cellB KR.out (i := 18) rfl, cellB KR.out (i := 19) rfl, cellB KR.out (i := 20) rfl, cellB KR.out (i := 21) rfl, rd_cell HUE.out 13 _ rfl, rd_cell HUE.out 14 _ rfl, rd_cell HUE.out 15 _ rfl, rd_cell HUE.out 16 _ rfl, rd_cell HUE.out 17 _ rfl, rd_cell HUE.out 18 _ rfl, rd_cell HUE.out 19 _ rfl, rd_cell HUE.out 20 _ rfl, rd_cell HUE.out 21 _ rfl, rd_cell HUE.out 22 _ rfl, rd_cell HUE.out 23 _ rfl, rd_cell HUE.out 24 _ rfl, rd_cell HUE.out 25 _ rfl, cellB KQ.out (i := 0) rfl, cellB KQ.out (i := 1) rfl, cellB KQ.out (i := 2) rfl, cellB KQ.out (i := 3) rfl, cellB KQ.out (i := 4) rfl, cellB KQ.out (i := 5) rfl, cellB KQ.out (i := 6) rfl, cellB KQ.out (i := 7) rfl, cellB KQ.out (i := 8) rfl, cellB KQ.out (i := 9) rfl, cellB KQ.out (i := 10) rfl, cellB KQ.out (i := 11) rfl, cellB KQ.out (i := 12) rfl⟩
  have h00 := Lib.hid h0
  clear h0 z0
  have HZ1 := Lib.hid z1
  clear z1
  go_wp2_with fail
  refine wp_region_noPanic ?_
  refine wp_region_held_drew (S := (fun w' => w'.cell? ⟨w1.heap.size, 0, none⟩ = some (.slice (some ⟨rg, ro, none⟩) 2 c1) ∧ w'.cell? ⟨w1.heap.size, 1, none⟩ = some (.slice (some ⟨zg, zo, none⟩) 1 c2) ∧ w'.cell? ⟨W.heap.size + 1 + 1 + 1 + 1 + 1, 0, none⟩ = some (.slice (some ⟨W.heap.size + 1 + 1, 0, none⟩) 2 2) ∧ w'.cell? ⟨zg, zo + 1, none⟩ = some (.slice (some ⟨eg, eo, none⟩) 2 ec) ∧ w'.cell? ⟨rg, ro + 11, none⟩ = some (.string ⟨#[81]⟩) ∧ w'.cell? ⟨rg, ro + 12, none⟩ = some (.int .i64 0) ∧ w'.cell? ⟨rg, ro + 13, none⟩ = some (.int .i64 0) ∧ w'.cell? ⟨rg, ro + 14, none⟩ = some (.int .i64 0) ∧ w'.cell? ⟨rg, ro + 15, none⟩ = some (.int .i64 0) ∧ w'.cell? ⟨rg, ro + 16, none⟩ = some (.int .i64 0) ∧ w'.cell? ⟨rg, ro + 17, none⟩ = some (.int .i64 0) ∧ w'.cell? ⟨rg, ro + 18, none⟩ = some (.int .i64 0) ∧ w'.cell? ⟨rg, ro + 19, none⟩ = some (.int .i64 1) ∧ w'.cell? ⟨rg, ro + 20, none⟩ = some (.int .i64 2) ∧ w'.cell? ⟨rg, ro + 21, none⟩ = some (.string ⟨#[]⟩) ∧ w'.cell? ⟨W.heap.size + 1 + 1, 11, none⟩ = some (.string ⟨#[81]⟩) ∧ w'.cell? ⟨W.heap.size + 1 + 1, 12, none⟩ = some (.int .i64 0) ∧ w'.cell? ⟨W.heap.size + 1 + 1, 13, none⟩ = some (.int .i64 0) ∧ w'.cell? ⟨W.heap.size + 1 + 1, 14, none⟩ = some (.int .i64 0) ∧ w'.cell? ⟨W.heap.size + 1 + 1, 15, none⟩ = some (.int .i64 0) ∧ w'.cell? ⟨W.heap.size + 1 + 1, 16, none⟩ = some (.int .i64 0) ∧ w'.cell? ⟨W.heap.size + 1 + 1, 17, none⟩ = some (.int .i64 0) ∧ w'.cell? ⟨W.heap.size + 1 + 1, 18, none⟩ = some (.int .i64 0) ∧ w'.cell? ⟨W.heap.size + 1 + 1, 19, none⟩ = some (.int .i64 1) ∧ w'.cell? ⟨W.heap.size + 1 + 1, 20, none⟩ = some (.int .i64 2) ∧ w'.cell? ⟨W.heap.size + 1 + 1, 21, none⟩ = some (.string ⟨#[]⟩) ∧ w'.cell? ⟨eg, eo + 13, none⟩ = some (.int .i64 5) ∧ w'.cell? ⟨eg, eo + 14, none⟩ = some (.int .i64 kd) ∧ w'.cell? ⟨eg, eo + 15, none⟩ = some (.int .i64 0) ∧ w'.cell? ⟨eg, eo + 16, none⟩ = some (.string ⟨#[114]⟩) ∧ w'.cell? ⟨eg, eo + 17, none⟩ = some (.string ⟨#[70]⟩) ∧ w'.cell? ⟨eg, eo + 18, none⟩ = some (.bool is) ∧ w'.cell? ⟨eg, eo + 19, none⟩ = some (.int .i64 0) ∧ w'.cell? ⟨eg, eo + 20, none⟩ = some (.int .i64 0) ∧ w'.cell? ⟨eg, eo + 21, none⟩ = some (.int .i64 0) ∧ w'.cell? ⟨eg, eo + 22, none⟩ = some (.int .i64 0) ∧ w'.cell? ⟨eg, eo + 23, none⟩ = some (.int .i64 0) ∧ w'.cell? ⟨eg, eo + 24, none⟩ = some (.int .i64 9) ∧ w'.cell? ⟨eg, eo + 25, none⟩ = some (.int .i64 bs) ∧ w'.cell? ⟨W.heap.size + 1, 0, none⟩ = some (.int .i64 5) ∧ w'.cell? ⟨W.heap.size + 1, 1, none⟩ = some (.int .i64 kd) ∧ w'.cell? ⟨W.heap.size + 1, 2, none⟩ = some (.int .i64 0) ∧ w'.cell? ⟨W.heap.size + 1, 3, none⟩ = some (.string ⟨#[114]⟩) ∧ w'.cell? ⟨W.heap.size + 1, 4, none⟩ = some (.string ⟨#[70]⟩) ∧ w'.cell? ⟨W.heap.size + 1, 5, none⟩ = some (.bool is) ∧ w'.cell? ⟨W.heap.size + 1, 6, none⟩ = some (.int .i64 0) ∧ w'.cell? ⟨W.heap.size + 1, 7, none⟩ = some (.int .i64 0) ∧ w'.cell? ⟨W.heap.size + 1, 8, none⟩ = some (.int .i64 0) ∧ w'.cell? ⟨W.heap.size + 1, 9, none⟩ = some (.int .i64 0) ∧ w'.cell? ⟨W.heap.size + 1, 10, none⟩ = some (.int .i64 0) ∧ w'.cell? ⟨W.heap.size + 1, 11, none⟩ = some (.int .i64 9) ∧ w'.cell? ⟨W.heap.size + 1, 12, none⟩ = some (.int .i64 bs))) (by kernel_rfl) (by exact h00.out) (fun hHeld => ?_)
  refine wpAnyH_take (i := 0) (v := ?_) rfl (by kernel_rfl) (by kernel_rfl) (by kernel_rfl) (fun _ _ _ h => h) (Or.inl ⟨by rfl, ?_⟩) (by assumption) ?_
  rotate_left 1
  · (intro w hSw; (try dsimp only at hSw); first | (go_simp; done) | (go_simp; with_reducible rfl))
  try simp only [Act.put, List.getElem_toArray, List.getElem_cons_succ, List.getElem_cons_zero, List.setIfInBounds_toArray, List.set_cons_zero, List.set_cons_succ]
  refine wpAnyH_take (i := 1) (v := ?_) rfl (by kernel_rfl) (by kernel_rfl) (by kernel_rfl) (fun _ _ _ h => h) (Or.inl ⟨by rfl, ?_⟩) (by assumption) ?_
  rotate_left 1
  · (intro w hSw; (try dsimp only at hSw); first | (go_simp; done) | (go_simp; with_reducible rfl))
  try simp only [Act.put, List.getElem_toArray, List.getElem_cons_succ, List.getElem_cons_zero, List.setIfInBounds_toArray, List.set_cons_zero, List.set_cons_succ]
  refine wpAnyH_take (i := 2) (v := ?_) rfl (by kernel_rfl) (by kernel_rfl) (by kernel_rfl) (fun _ _ _ h => h) (Or.inl ⟨by rfl, ?_⟩) (by assumption) ?_
  rotate_left 1
  · (intro w hSw; (try dsimp only at hSw); first | (go_simp; done) | (go_simp; with_reducible rfl))
  try simp only [Act.put, List.getElem_toArray, List.getElem_cons_succ, List.getElem_cons_zero, List.setIfInBounds_toArray, List.set_cons_zero, List.set_cons_succ]
  refine wpAnyH_take (i := 3) (v := ?_) rfl (by kernel_rfl) (by kernel_rfl) (by kernel_rfl) (fun _ _ _ h => h) (Or.inl ⟨by rfl, ?_⟩) (by assumption) ?_
  rotate_left 1
  · (intro w hSw; (try dsimp only at hSw); first | (go_simp; done) | (go_simp; with_reducible rfl))
  try simp only [Act.put, List.getElem_toArray, List.getElem_cons_succ, List.getElem_cons_zero, List.setIfInBounds_toArray, List.set_cons_zero, List.set_cons_succ]
  refine wpAnyH_take (i := 4) (v := ?_) rfl (by kernel_rfl) (by kernel_rfl) (by kernel_rfl) (fun _ _ _ h => h) (Or.inl ⟨by rfl, ?_⟩) (by assumption) ?_
  rotate_left 1
  · (intro w hSw; (try dsimp only at hSw); first | (go_simp; done) | (go_simp; with_reducible rfl))
  try simp only [Act.put, List.getElem_toArray, List.getElem_cons_succ, List.getElem_cons_zero, List.setIfInBounds_toArray, List.set_cons_zero, List.set_cons_succ]
  refine wpAnyH_take (i := 5) (v := ?_) rfl (by kernel_rfl) (by kernel_rfl) (by kernel_rfl) (fun _ _ _ h => h) (Or.inl ⟨by rfl, ?_⟩) (by assumption) ?_
  rotate_left 1
  · (intro w hSw; (try dsimp only at hSw); first | (go_simp; done) | (go_simp; with_reducible rfl))
  try simp only [Act.put, List.getElem_toArray, List.getElem_cons_succ, List.getElem_cons_zero, List.setIfInBounds_toArray, List.set_cons_zero, List.set_cons_succ]
  refine wpAnyH_take (i := 6) (v := ?_) rfl (by kernel_rfl) (by kernel_rfl) (by kernel_rfl) (fun _ _ _ h => h) (Or.inl ⟨by rfl, ?_⟩) (by assumption) ?_
  rotate_left 1
  · (intro w hSw; (try dsimp only at hSw); first | (go_simp; done) | (go_simp; with_reducible rfl))
  try simp only [Act.put, List.getElem_toArray, List.getElem_cons_succ, List.getElem_cons_zero, List.setIfInBounds_toArray, List.set_cons_zero, List.set_cons_succ]
  refine wpAnyH_take (i := 7) (v := ?_) rfl (by kernel_rfl) (by kernel_rfl) (by kernel_rfl) (fun _ _ _ h => h) (Or.inl ⟨by rfl, ?_⟩) (by assumption) ?_
  rotate_left 1
  · (intro w hSw; (try dsimp only at hSw); first | (go_simp; done) | (go_simp; with_reducible rfl))
  try simp only [Act.put, List.getElem_toArray, List.getElem_cons_succ, List.getElem_cons_zero, List.setIfInBounds_toArray, List.set_cons_zero, List.set_cons_succ]
  refine wpAnyH_take (i := 8) (v := ?_) rfl (by kernel_rfl) (by kernel_rfl) (by kernel_rfl) (fun _ _ _ h => h) (Or.inl ⟨by rfl, ?_⟩) (by assumption) ?_
  rotate_left 1
  · (intro w hSw; (try dsimp only at hSw); first | (go_simp; done) | (go_simp; with_reducible rfl))
  try simp only [Act.put, List.getElem_toArray, List.getElem_cons_succ, List.getElem_cons_zero, List.setIfInBounds_toArray, List.set_cons_zero, List.set_cons_succ]
  refine wpAnyH_take (i := 9) (v := ?_) rfl (by kernel_rfl) (by kernel_rfl) (by kernel_rfl) (fun _ _ _ h => h) (Or.inl ⟨by rfl, ?_⟩) (by assumption) ?_
  rotate_left 1
  · (intro w hSw; (try dsimp only at hSw); first | (go_simp; done) | (go_simp; with_reducible rfl))
  try simp only [Act.put, List.getElem_toArray, List.getElem_cons_succ, List.getElem_cons_zero, List.setIfInBounds_toArray, List.set_cons_zero, List.set_cons_succ]
  refine wpAnyH_take (i := 10) (v := ?_) rfl (by kernel_rfl) (by kernel_rfl) (by kernel_rfl) (fun _ _ _ h => h) (Or.inl ⟨by rfl, ?_⟩) (by assumption) ?_
  rotate_left 1
  · (intro w hSw; (try dsimp only at hSw); first | (go_simp; done) | (go_simp; with_reducible rfl))
  try simp only [Act.put, List.getElem_toArray, List.getElem_cons_succ, List.getElem_cons_zero, List.setIfInBounds_toArray, List.set_cons_zero, List.set_cons_succ]
  refine wpAnyH_take (i := 11) (v := ?_) rfl (by kernel_rfl) (by kernel_rfl) (by kernel_rfl) (fun _ _ _ h => h) (Or.inl ⟨by rfl, ?_⟩) (by assumption) ?_
  rotate_left 1
  · (intro w hSw; (try dsimp only at hSw); first | (go_simp; done) | (go_simp; with_reducible rfl))
  try simp only [Act.put, List.getElem_toArray, List.getElem_cons_succ, List.getElem_cons_zero, List.setIfInBounds_toArray, List.set_cons_zero, List.set_cons_succ]
  refine wpAnyH_take (i := 12) (v := ?_) rfl (by kernel_rfl) (by kernel_rfl) (by kernel_rfl) (fun _ _ _ h => h) (Or.inl ⟨by rfl, ?_⟩) (by assumption) ?_
  rotate_left 1
  · (intro w hSw; (try dsimp only at hSw); first | (go_simp; done) | (go_simp; with_reducible rfl))
  try simp only [Act.put, List.getElem_toArray, List.getElem_cons_succ, List.getElem_cons_zero, List.setIfInBounds_toArray, List.set_cons_zero, List.set_cons_succ]
  refine wpAnyH_take (i := 13) (v := ?_) rfl (by kernel_rfl) (by kernel_rfl) (by kernel_rfl) (fun _ _ _ h => h) (Or.inl ⟨by rfl, ?_⟩) (by assumption) ?_
  rotate_left 1
  · (intro w hSw; (try dsimp only at hSw); first | (go_simp; done) | (go_simp; with_reducible rfl))
  try simp only [Act.put, List.getElem_toArray, List.getElem_cons_succ, List.getElem_cons_zero, List.setIfInBounds_toArray, List.set_cons_zero, List.set_cons_succ]
  refine wpAnyH_take (i := 14) (v := ?_) rfl (by kernel_rfl) (by kernel_rfl) (by kernel_rfl) (fun _ _ _ h => h) (Or.inl ⟨by rfl, ?_⟩) (by assumption) ?_
  rotate_left 1
  · (intro w hSw; (try dsimp only at hSw); first | (go_simp; done) | (go_simp; with_reducible rfl))
  try simp only [Act.put, List.getElem_toArray, List.getElem_cons_succ, List.getElem_cons_zero, List.setIfInBounds_toArray, List.set_cons_zero, List.set_cons_succ]
  refine wpAnyH_take (i := 15) (v := ?_) rfl (by kernel_rfl) (by kernel_rfl) (by kernel_rfl) (fun _ _ _ h => h) (Or.inl ⟨by rfl, ?_⟩) (by assumption) ?_
  rotate_left 1
  · (intro w hSw; (try dsimp only at hSw); first | (go_simp; done) | (go_simp; with_reducible rfl))
  try simp only [Act.put, List.getElem_toArray, List.getElem_cons_succ, List.getElem_cons_zero, List.setIfInBounds_toArray, List.set_cons_zero, List.set_cons_succ]
  refine wpAnyH_take (i := 16) (v := ?_) rfl (by kernel_rfl) (by kernel_rfl) (by kernel_rfl) (fun _ _ _ h => h) (Or.inl ⟨by rfl, ?_⟩) (by assumption) ?_
  rotate_left 1
  · (intro w hSw; (try dsimp only at hSw); first | (go_simp; done) | (go_simp; with_reducible rfl))
  try simp only [Act.put, List.getElem_toArray, List.getElem_cons_succ, List.getElem_cons_zero, List.setIfInBounds_toArray, List.set_cons_zero, List.set_cons_succ]
  refine wpAnyH_take (i := 17) (v := ?_) rfl (by kernel_rfl) (by kernel_rfl) (by kernel_rfl) (fun _ _ _ h => h) (Or.inl ⟨by rfl, ?_⟩) (by assumption) ?_
  rotate_left 1
  · (intro w hSw; (try dsimp only at hSw); first | (go_simp; done) | (go_simp; with_reducible rfl))
  try simp only [Act.put, List.getElem_toArray, List.getElem_cons_succ, List.getElem_cons_zero, List.setIfInBounds_toArray, List.set_cons_zero, List.set_cons_succ]
  refine wpAnyH_take (i := 18) (v := ?_) rfl (by kernel_rfl) (by kernel_rfl) (by kernel_rfl) (fun _ _ _ h => h) (Or.inl ⟨by rfl, ?_⟩) (by assumption) ?_
  rotate_left 1
  · (intro w hSw; (try dsimp only at hSw); first | (go_simp; done) | (go_simp; with_reducible rfl))
  try simp only [Act.put, List.getElem_toArray, List.getElem_cons_succ, List.getElem_cons_zero, List.setIfInBounds_toArray, List.set_cons_zero, List.set_cons_succ]
  refine wpAnyH_take (i := 19) (v := ?_) rfl (by kernel_rfl) (by kernel_rfl) (by kernel_rfl) (fun _ _ _ h => h) (Or.inl ⟨by rfl, ?_⟩) (by assumption) ?_
  rotate_left 1
  · (intro w hSw; (try dsimp only at hSw); first | (go_simp; done) | (go_simp; with_reducible rfl))
  try simp only [Act.put, List.getElem_toArray, List.getElem_cons_succ, List.getElem_cons_zero, List.setIfInBounds_toArray, List.set_cons_zero, List.set_cons_succ]
  refine wpAnyH_take (i := 20) (v := ?_) rfl (by kernel_rfl) (by kernel_rfl) (by kernel_rfl) (fun _ _ _ h => h) (Or.inl ⟨by rfl, ?_⟩) (by assumption) ?_
  rotate_left 1
  · (intro w hSw; (try dsimp only at hSw); first | (go_simp; done) | (go_simp; with_reducible rfl))
  try simp only [Act.put, List.getElem_toArray, List.getElem_cons_succ, List.getElem_cons_zero, List.setIfInBounds_toArray, List.set_cons_zero, List.set_cons_succ]
  refine wpAnyH_take (i := 21) (v := ?_) rfl (by kernel_rfl) (by kernel_rfl) (by kernel_rfl) (fun _ _ _ h => h) (Or.inl ⟨by rfl, ?_⟩) (by assumption) ?_
  rotate_left 1
  · (intro w hSw; (try dsimp only at hSw); first | (go_simp; done) | (go_simp; with_reducible rfl))
  try simp only [Act.put, List.getElem_toArray, List.getElem_cons_succ, List.getElem_cons_zero, List.setIfInBounds_toArray, List.set_cons_zero, List.set_cons_succ]
  refine wpAnyH_take (i := 22) (v := ?_) rfl (by kernel_rfl) (by kernel_rfl) (by kernel_rfl) (fun _ _ _ h => h) (Or.inl ⟨by rfl, ?_⟩) (by assumption) ?_
  rotate_left 1
  · (intro w hSw; (try dsimp only at hSw); first | (go_simp; done) | (go_simp; with_reducible rfl))
  try simp only [Act.put, List.getElem_toArray, List.getElem_cons_succ, List.getElem_cons_zero, List.setIfInBounds_toArray, List.set_cons_zero, List.set_cons_succ]
  refine wpAnyH_take (i := 23) (v := ?_) rfl (by kernel_rfl) (by kernel_rfl) (by kernel_rfl) (fun _ _ _ h => h) (Or.inl ⟨by rfl, ?_⟩) (by assumption) ?_
  rotate_left 1
  · (intro w hSw; (try dsimp only at hSw); first | (go_simp; done) | (go_simp; with_reducible rfl))
  try simp only [Act.put, List.getElem_toArray, List.getElem_cons_succ, List.getElem_cons_zero, List.setIfInBounds_toArray, List.set_cons_zero, List.set_cons_succ]
  refine wpAnyH_take (i := 24) (v := ?_) rfl (by kernel_rfl) (by kernel_rfl) (by kernel_rfl) (fun _ _ _ h => h) (Or.inl ⟨by rfl, ?_⟩) (by assumption) ?_
  rotate_left 1
  · (intro w hSw; (try dsimp only at hSw); first | (go_simp; done) | (go_simp; with_reducible rfl))
  try simp only [Act.put, List.getElem_toArray, List.getElem_cons_succ, List.getElem_cons_zero, List.setIfInBounds_toArray, List.set_cons_zero, List.set_cons_succ]
  refine wpAnyH_take (i := 25) (v := ?_) rfl (by kernel_rfl) (by kernel_rfl) (by kernel_rfl) (fun _ _ _ h => h) (Or.inl ⟨by rfl, ?_⟩) (by assumption) ?_
  rotate_left 1
  · (intro w hSw; (try dsimp only at hSw); first | (go_simp; done) | (go_simp; with_reducible rfl))
  try simp only [Act.put, List.getElem_toArray, List.getElem_cons_succ, List.getElem_cons_zero, List.setIfInBounds_toArray, List.set_cons_zero, List.set_cons_succ]
  refine wpAnyH_take (i := 26) (v := ?_) rfl (by kernel_rfl) (by kernel_rfl) (by kernel_rfl) (fun _ _ _ h => h) (Or.inl ⟨by rfl, ?_⟩) (by assumption) ?_
  rotate_left 1
  · (intro w hSw; (try dsimp only at hSw); first | (go_simp; done) | (go_simp; with_reducible rfl))
  try simp only [Act.put, List.getElem_toArray, List.getElem_cons_succ, List.getElem_cons_zero, List.setIfInBounds_toArray, List.set_cons_zero, List.set_cons_succ]
  refine wpAnyH_take (i := 27) (v := ?_) rfl (by kernel_rfl) (by kernel_rfl) (by kernel_rfl) (fun _ _ _ h => h) (Or.inl ⟨by rfl, ?_⟩) (by assumption) ?_
  rotate_left 1
  · (intro w hSw; (try dsimp only at hSw); first | (go_simp; done) | (go_simp; with_reducible rfl))
  try simp only [Act.put, List.getElem_toArray, List.getElem_cons_succ, List.getElem_cons_zero, List.setIfInBounds_toArray, List.set_cons_zero, List.set_cons_succ]
  refine wpAnyH_take (i := 28) (v := ?_) rfl (by kernel_rfl) (by kernel_rfl) (by kernel_rfl) (fun _ _ _ h => h) (Or.inl ⟨by rfl, ?_⟩) (by assumption) ?_
  rotate_left 1
  · (intro w hSw; (try dsimp only at hSw); first | (go_simp; done) | (go_simp; with_reducible rfl))
  try simp only [Act.put, List.getElem_toArray, List.getElem_cons_succ, List.getElem_cons_zero, List.setIfInBounds_toArray, List.set_cons_zero, List.set_cons_succ]
  refine wpAnyH_take (i := 29) (v := ?_) rfl (by kernel_rfl) (by kernel_rfl) (by kernel_rfl) (fun _ _ _ h => h) (Or.inl ⟨by rfl, ?_⟩) (by assumption) ?_
  rotate_left 1
  · (intro w hSw; (try dsimp only at hSw); first | (go_simp; done) | (go_simp; with_reducible rfl))
  try simp only [Act.put, List.getElem_toArray, List.getElem_cons_succ, List.getElem_cons_zero, List.setIfInBounds_toArray, List.set_cons_zero, List.set_cons_succ]
  refine wpAnyH_take (i := 30) (v := ?_) rfl (by kernel_rfl) (by kernel_rfl) (by kernel_rfl) (fun _ _ _ h => h) (Or.inl ⟨by rfl, ?_⟩) (by assumption) ?_
  rotate_left 1
  · (intro w hSw; (try dsimp only at hSw); first | (go_simp; done) | (go_simp; with_reducible rfl))
  try simp only [Act.put, List.getElem_toArray, List.getElem_cons_succ, List.getElem_cons_zero, List.setIfInBounds_toArray, List.set_cons_zero, List.set_cons_succ]
  refine wpAnyH_take (i := 31) (v := ?_) rfl (by kernel_rfl) (by kernel_rfl) (by kernel_rfl) (fun _ _ _ h => h) (Or.inl ⟨by rfl, ?_⟩) (by assumption) ?_
  rotate_left 1
  · (intro w hSw; (try dsimp only at hSw); first | (go_simp; done) | (go_simp; with_reducible rfl))
  try simp only [Act.put, List.getElem_toArray, List.getElem_cons_succ, List.getElem_cons_zero, List.setIfInBounds_toArray, List.set_cons_zero, List.set_cons_succ]
  refine wpAnyH_take (i := 32) (v := ?_) rfl (by kernel_rfl) (by kernel_rfl) (by kernel_rfl) (fun _ _ _ h => h) (Or.inl ⟨by rfl, ?_⟩) (by assumption) ?_
  rotate_left 1
  · (intro w hSw; (try dsimp only at hSw); first | (go_simp; done) | (go_simp; with_reducible rfl))
  try simp only [Act.put, List.getElem_toArray, List.getElem_cons_succ, List.getElem_cons_zero, List.setIfInBounds_toArray, List.set_cons_zero, List.set_cons_succ]
  refine wpAnyH_take (i := 33) (v := ?_) rfl (by kernel_rfl) (by kernel_rfl) (by kernel_rfl) (fun _ _ _ h => h) (Or.inl ⟨by rfl, ?_⟩) (by assumption) ?_
  rotate_left 1
  · (intro w hSw; (try dsimp only at hSw); first | (go_simp; done) | (go_simp; with_reducible rfl))
  try simp only [Act.put, List.getElem_toArray, List.getElem_cons_succ, List.getElem_cons_zero, List.setIfInBounds_toArray, List.set_cons_zero, List.set_cons_succ]
  refine wpAnyH_take (i := 34) (v := ?_) rfl (by kernel_rfl) (by kernel_rfl) (by kernel_rfl) (fun _ _ _ h => h) (Or.inl ⟨by rfl, ?_⟩) (by assumption) ?_
  rotate_left 1
  · (intro w hSw; (try dsimp only at hSw); first | (go_simp; done) | (go_simp; with_reducible rfl))
  try simp only [Act.put, List.getElem_toArray, List.getElem_cons_succ, List.getElem_cons_zero, List.setIfInBounds_toArray, List.set_cons_zero, List.set_cons_succ]
  refine wpAnyH_take (i := 35) (v := ?_) rfl (by kernel_rfl) (by kernel_rfl) (by kernel_rfl) (fun _ _ _ h => h) (Or.inl ⟨by rfl, ?_⟩) (by assumption) ?_
  rotate_left 1
  · (intro w hSw; (try dsimp only at hSw); first | (go_simp; done) | (go_simp; with_reducible rfl))
  try simp only [Act.put, List.getElem_toArray, List.getElem_cons_succ, List.getElem_cons_zero, List.setIfInBounds_toArray, List.set_cons_zero, List.set_cons_succ]
  refine wpAnyH_take (i := 36) (v := ?_) rfl (by kernel_rfl) (by kernel_rfl) (by kernel_rfl) (fun _ _ _ h => h) (Or.inl ⟨by rfl, ?_⟩) (by assumption) ?_
  rotate_left 1
  · (intro w hSw; (try dsimp only at hSw); first | (go_simp; done) | (go_simp; with_reducible rfl))
  try simp only [Act.put, List.getElem_toArray, List.getElem_cons_succ, List.getElem_cons_zero, List.setIfInBounds_toArray, List.set_cons_zero, List.set_cons_succ]
  refine wpAnyH_take (i := 37) (v := ?_) rfl (by kernel_rfl) (by kernel_rfl) (by kernel_rfl) (fun _ _ _ h => h) (Or.inl ⟨by rfl, ?_⟩) (by assumption) ?_
  rotate_left 1
  · (intro w hSw; (try dsimp only at hSw); first | (go_simp; done) | (go_simp; with_reducible rfl))
  try simp only [Act.put, List.getElem_toArray, List.getElem_cons_succ, List.getElem_cons_zero, List.setIfInBounds_toArray, List.set_cons_zero, List.set_cons_succ]
  refine wpAnyH_take (i := 38) (v := ?_) rfl (by kernel_rfl) (by kernel_rfl) (by kernel_rfl) (fun _ _ _ h => h) (Or.inl ⟨by rfl, ?_⟩) (by assumption) ?_
  rotate_left 1
  · (intro w hSw; (try dsimp only at hSw); first | (go_simp; done) | (go_simp; with_reducible rfl))
  try simp only [Act.put, List.getElem_toArray, List.getElem_cons_succ, List.getElem_cons_zero, List.setIfInBounds_toArray, List.set_cons_zero, List.set_cons_succ]
  refine wpAnyH_take (i := 39) (v := ?_) rfl (by kernel_rfl) (by kernel_rfl) (by kernel_rfl) (fun _ _ _ h => h) (Or.inl ⟨by rfl, ?_⟩) (by assumption) ?_
  rotate_left 1
  · (intro w hSw; (try dsimp only at hSw); first | (go_simp; done) | (go_simp; with_reducible rfl))
  try simp only [Act.put, List.getElem_toArray, List.getElem_cons_succ, List.getElem_cons_zero, List.setIfInBounds_toArray, List.set_cons_zero, List.set_cons_succ]
  refine wpAnyH_take (i := 40) (v := ?_) rfl (by kernel_rfl) (by kernel_rfl) (by kernel_rfl) (fun _ _ _ h => h) (Or.inl ⟨by rfl, ?_⟩) (by assumption) ?_
  rotate_left 1
  · (intro w hSw; (try dsimp only at hSw); first | (go_simp; done) | (go_simp; with_reducible rfl))
  try simp only [Act.put, List.getElem_toArray, List.getElem_cons_succ, List.getElem_cons_zero, List.setIfInBounds_toArray, List.set_cons_zero, List.set_cons_succ]
  refine wpAnyH_take (i := 41) (v := ?_) rfl (by kernel_rfl) (by kernel_rfl) (by kernel_rfl) (fun _ _ _ h => h) (Or.inl ⟨by rfl, ?_⟩) (by assumption) ?_
  rotate_left 1
  · (intro w hSw; (try dsimp only at hSw); first | (go_simp; done) | (go_simp; with_reducible rfl))
  try simp only [Act.put, List.getElem_toArray, List.getElem_cons_succ, List.getElem_cons_zero, List.setIfInBounds_toArray, List.set_cons_zero, List.set_cons_succ]
  refine wpAnyH_take (i := 42) (v := ?_) rfl (by kernel_rfl) (by kernel_rfl) (by kernel_rfl) (fun _ _ _ h => h) (Or.inl ⟨by rfl, ?_⟩) (by assumption) ?_
  rotate_left 1
  · (intro w hSw; (try dsimp only at hSw); first | (go_simp; done) | (go_simp; with_reducible rfl))
  try simp only [Act.put, List.getElem_toArray, List.getElem_cons_succ, List.getElem_cons_zero, List.setIfInBounds_toArray, List.set_cons_zero, List.set_cons_succ]
  refine wpAnyH_take (i := 43) (v := ?_) rfl (by kernel_rfl) (by kernel_rfl) (by kernel_rfl) (fun _ _ _ h => h) (Or.inl ⟨by rfl, ?_⟩) (by assumption) ?_
  rotate_left 1
  · (intro w hSw; (try dsimp only at hSw); first | (go_simp; done) | (go_simp; with_reducible rfl))
  try simp only [Act.put, List.getElem_toArray, List.getElem_cons_succ, List.getElem_cons_zero, List.setIfInBounds_toArray, List.set_cons_zero, List.set_cons_succ]
  refine wpAnyH_take (i := 44) (v := ?_) rfl (by kernel_rfl) (by kernel_rfl) (by kernel_rfl) (fun _ _ _ h => h) (Or.inl ⟨by rfl, ?_⟩) (by assumption) ?_
  rotate_left 1
  · (intro w hSw; (try dsimp only at hSw); first | (go_simp; done) | (go_simp; with_reducible rfl))
  try simp only [Act.put, List.getElem_toArray, List.getElem_cons_succ, List.getElem_cons_zero, List.setIfInBounds_toArray, List.set_cons_zero, List.set_cons_succ]
  refine wpAnyH_done (by kernel_rfl) ?_ _
  refine NoPanic.normal ?_
  clear hHeld h00
  obtain ⟨WY, hWY⟩ : ∃ WY, WY = (w1.alloc (.cells #[.slice (some ⟨rg, ro, none⟩) 2 c1, .slice (some ⟨zg, zo, none⟩) 1 c2, .slice a3 0 c3, .slice a4 0 c4] 27)).drew := ⟨_, rfl⟩
  rw [← hWY]
  have hbd : Below (w1.alloc (.cells #[.slice (some ⟨rg, ro, none⟩) 2 c1, .slice (some ⟨zg, zo, none⟩) 1 c2, .slice a3 0 c3, .slice a4 0 c4] 27)).heap.size (w1.alloc (.cells #[.slice (some ⟨rg, ro, none⟩) 2 c1, .slice (some ⟨zg, zo, none⟩) 1 c2, .slice a3 0 c3, .slice a4 0 c4] 27)) WY := by rw [hWY]; exact Below.drew (Below.refl _ _)
  clear hWY
  replace KE := Lib.hid (block_below KE.out hbd)
  replace KU := Lib.hid (block_below KU.out hbd)
  replace HB := Lib.hid (bel_trans HB.out hbd)
  have z1 := cell_below hbd HZ1.out
  have y1 := cellB KU.out (i := 1) rfl
  have g0 : WY.cell? ⟨eg, eo, none⟩ = some (.int .i64 o') := cell_below hbd (rd_cell HUE.out 0 _ rfl)
  have g1 : WY.cell? ⟨eg, eo + 1, none⟩ = some (.int .i64 kd) := cell_below hbd (rd_cell HUE.out 1 _ rfl)
  have g2 : WY.cell? ⟨eg, eo + 2, none⟩ = some (.int .i64 0) := cell_below hbd (rd_cell HUE.out 2 _ rfl)
  have g3 : WY.cell? ⟨eg, eo + 3, none⟩ = some (.string ⟨#[82]⟩) := cell_below hbd (rd_cell HUE.out 3 _ rfl)
  have g4 : WY.cell? ⟨eg, eo + 4, none⟩ = some (.string ⟨#[70]⟩) := cell_below hbd (rd_cell HUE.out 4 _ rfl)
  have g5 : WY.cell? ⟨eg, eo + 5, none⟩ = some (.bool is) := cell_below hbd (rd_cell HUE.out 5 _ rfl)
  have g6 : WY.cell? ⟨eg, eo + 6, none⟩ = some (.int .i64 0) := cell_below hbd (rd_cell HUE.out 6 _ rfl)
  have g7 : WY.cell? ⟨eg, eo + 7, none⟩ = some (.int .i64 0) := cell_below hbd (rd_cell HUE.out 7 _ rfl)
  have g8 : WY.cell? ⟨eg, eo + 8, none⟩ = some (.int .i64 0) := cell_below hbd (rd_cell HUE.out 8 _ rfl)
  have g9 : WY.cell? ⟨eg, eo + 9, none⟩ = some (.int .i64 0) := cell_below hbd (rd_cell HUE.out 9 _ rfl)
  have g10 : WY.cell? ⟨eg, eo + 10, none⟩ = some (.int .i64 0) := cell_below hbd (rd_cell HUE.out 10 _ rfl)
  have g11 : WY.cell? ⟨eg, eo + 11, none⟩ = some (.int .i64 s') := cell_below hbd (rd_cell HUE.out 11 _ rfl)
  have g12 : WY.cell? ⟨eg, eo + 12, none⟩ = some (.int .i64 bs) := cell_below hbd (rd_cell HUE.out 12 _ rfl)
  have HS1 := HSS.out
  have HO1 := HO.out
  clear hbd HU HUE HZ1 HSS HO KQ KR KS
  have x0 := cellB KE.out (i := 0) rfl
  have x1 := cellB KE.out (i := 1) rfl
  have x2 := cellB KE.out (i := 2) rfl
  have x3 := cellB KE.out (i := 3) rfl
  have x4 := cellB KE.out (i := 4) rfl
  have x5 := cellB KE.out (i := 5) rfl
  have x6 := cellB KE.out (i := 6) rfl
  have x7 := cellB KE.out (i := 7) rfl
  have x8 := cellB KE.out (i := 8) rfl
  have x9 := cellB KE.out (i := 9) rfl
  have x10 := cellB KE.out (i := 10) rfl
  have x11 := cellB KE.out (i := 11) rfl
  have x12 := cellB KE.out (i := 12) rfl
  have f0 := frzB KE.out 0
  have f11 := frzB KE.out 11
  have hlt := bk2 KE.out
  have HB1 := HB
  have KE1 := KE
  clear KE
  clear HB
  by_cases hk2 : kd = 2
  · subst hk2
    rw [if_pos rfl] at HO1
    cases is
    · have HS2 : s' = 9 := by rw [HS1]; simp
      subst HO1 HS2
      clear HS1
      go_wp2_with fail
      refine (works28_any _).mono ?_
      rintro e w9 ⟨rfl, hb9⟩
      go_wp2_with fail
      go_ret
      refine ⟨rfl, bel_trans ?_ hb9⟩
      refine bel_trans ?_ (bel_alloc _ _)
      exact HB1.out.setCell (p := ⟨W.heap.size, 0, none⟩) (Nat.le_refl _) _
    · by_cases hb2 : bs = 1
      · subst hb2
        have HS2 : s' = wrap64 (9 - x) := by rw [HS1]; simp
        subst HO1 HS2
        clear HS1
        go_wp2_with fail
        refine (works28_any _).mono ?_
        rintro e w9 ⟨rfl, hb9⟩
        go_wp2_with fail
        go_ret
        refine ⟨rfl, bel_trans ?_ hb9⟩
        refine bel_trans ?_ (bel_alloc _ _)
        exact (HB1.out.setCell (p := ⟨W.heap.size, 0, none⟩) (Nat.le_refl _) _).setCell (p := ⟨W.heap.size, 11, none⟩) (Nat.le_refl _) _
      · have HS2 : s' = 9 := by rw [HS1]; simp [hb2]
        subst HO1 HS2
        clear HS1
        have hb3 : decide (bs = 1) = false := decide_eq_false hb2
        have hb4 : (bs == 1) = false := by simpa using hb2
        go_wp2_with fail
        refine (works28_any _).mono ?_
        rintro e w9 ⟨rfl, hb9⟩
        go_wp2_with fail
        go_ret
        refine ⟨rfl, bel_trans ?_ hb9⟩
        refine bel_trans ?_ (bel_alloc _ _)
        exact HB1.out.setCell (p := ⟨W.heap.size, 0, none⟩) (Nat.le_refl _) _
  · have HO2 : o' = 5 := by rw [HO1, if_neg hk2]
    have HS2 : s' = 9 := by rw [HS1]; simp [hk2]
    subst HO2 HS2
    clear HS1 HO1
    have hb3 : decide (kd = 2) = false := decide_eq_false hk2
    have hb4 : (kd == 2) = false := by simpa using hk2
    go_wp2_with fail
    refine (works28_any _).mono ?_
    rintro e w9 ⟨rfl, hb9⟩
    go_wp2_with fail
    go_ret
    refine ⟨rfl, bel_trans ?_ hb9⟩
    exact bel_trans HB1.out (bel_alloc _ _)

theorem shiftOthers_walk (W : World) (x : Int) (hx : (Lit.int .i64 x).wf = true) (k : Int) (hk : (Lit.int .u8 k).wf = true) (is : Bool) (b : Int) (hb : (Lit.int .u8 b).wf = true) :
    Calls Try.prog 8 #[.int .i64 x, .int .u8 k, .bool is, .int .u8 b] W fun e w' => e = .returned (.bool true) ∧ Below W.heap.size W w' := by
  simp only [Lit.wf, IntKind.min, IntKind.max, IntKind.signed, IntKind.bits, Bool.and_eq_true, decide_eq_true_eq, if_true] at hx hk hb
  exact shiftOthers_core W x (by omega) k (by simp at hk; omega) is b (by simp at hb; omega)
end Go.Proofs.Ytdlmlcgmonkdfaa
