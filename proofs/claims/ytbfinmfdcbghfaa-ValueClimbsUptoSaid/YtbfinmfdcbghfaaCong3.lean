/- The document's answers about joined congruences. No condition. -/
import Derived.Test.YtbfinmfdcbghfaaCong2
namespace Go.Proofs.Ytbfinmfdcbghfaa
set_option linter.all false
open Go.Sx

theorem Cg.of_of {m r : Int} (hm : 0 ≤ m) : Cg.of m (md r m) = Cg.of m r := by
  unfold Cg.of
  rw [if_neg (by omega), if_neg (by omega)]
  congr 1
  unfold md
  split
  · rfl
  · exact Int.emod_emod_of_dvd _ (Int.dvd_refl m)
theorem Cg.clean_clean (c : Cg) : c.clean.clean = c.clean := by
  unfold Cg.clean
  cases c.some
  · simp [Cg.none]
  · simp only [if_true]
    have hs : (Cg.of c.m c.r).some = true := by unfold Cg.of; split <;> rfl
    rw [if_pos hs]
    by_cases hm : c.m < 0
    · have e : Cg.of c.m c.r = Cg.of 1 c.r := by unfold Cg.of; rw [if_pos hm, if_neg (by omega)]
      rw [e]
      have e2 : Cg.of 1 c.r = ⟨true, 1, md c.r 1⟩ := by unfold Cg.of; rw [if_neg (by omega)]
      rw [e2]
      exact (Cg.of_of (m := 1) (r := c.r) (by omega)).trans e2
    · have e2 : Cg.of c.m c.r = ⟨true, c.m, md c.r c.m⟩ := by unfold Cg.of; rw [if_neg hm]
      rw [e2]
      exact (Cg.of_of (m := c.m) (r := c.r) (by omega)).trans e2
theorem gcd_step' {a b : Int} (ha : a ≠ 0) (h0 : 0 ≤ a) (h1 : 0 ≤ b) : 0 ≤ b.tmod a ∧ b.tmod a < a ∧ Int.gcd a (b.tmod a) = Int.gcd a b := by
  obtain ⟨q1, q2, q3⟩ := gcd_step ha h1 h0
  exact ⟨q1, q2, by rw [q3, Int.gcd_comm]⟩
theorem gcd_one {a b : Int} (h0 : 0 ≤ a) (h1 : 0 ≤ b) (h : a = 0 ∨ b = 0) : (Int.gcd a b : Int) = a + b := by
  rcases h with rfl | rfl
  · rw [Int.zero_gcd, Int.natAbs_of_nonneg h1]; omega
  · rw [Int.gcd_zero, Int.natAbs_of_nonneg h0]; omega
theorem gcdJ_assoc (x y : Cg) : (Int.gcd x.m (Int.gcd y.m (apartI x.r y.r) : Int) : Int) = Cg.gcdJ x y := by
  unfold Cg.gcdJ; rw [Int.gcd_assoc]
theorem r_apart {a b : Int} (ha : -9223372036854775808 ≤ a ∧ a < 9223372036854775808) (hb : -9223372036854775808 ≤ b ∧ b < 9223372036854775808) (h : a ≥ b) : (wd (Wd.val (wd a) - Wd.val (wd b))).lo = a - b := by
  rw [wd_val (v := a) (by omega) (by omega), wd_val (v := b) (by omega) (by omega)]
  unfold wd; dsimp only; omega

theorem has_0 {c : Cg} {n : Int} (hs : c.clean.some = true) (h : c.clean.m = 0) : Cg.has c.clean n = decide (n = c.clean.r) := by
  unfold Cg.has; rw [Cg.clean_clean, hs, h]; simp [md]
section
variable {a b : Cg}
theorem leq_0 (h : (!a.clean.some) = true) : Cg.leq a b = true := by
  have h : a.clean.some = false := by simpa using h
  unfold Cg.leq; rw [h]; simp
theorem leq_1 (ha : (!a.clean.some) = false) (hb : (!b.clean.some) = true) : Cg.leq a b = false := by
  have ha : a.clean.some = true := by simpa using ha
  have hb : b.clean.some = false := by simpa using hb
  unfold Cg.leq; rw [ha, hb]; simp
theorem leq_s (ha : (!a.clean.some) = false) (hb : (!b.clean.some) = false) : Cg.leq a b = (Cg.factor b.clean.m a.clean.m && Cg.has b.clean a.clean.r) := by
  have ha : a.clean.some = true := by simpa using ha
  have hb : b.clean.some = true := by simpa using hb
  unfold Cg.leq; rw [ha, hb]; simp
theorem leq_2 (ha : (!a.clean.some) = false) (hb : (!b.clean.some) = false) (hz : (b.clean.m == 0) = true) (hm : (a.clean.m == 0) = true) : Cg.leq a b = (a.clean.r == b.clean.r) := by
  have hz : b.clean.m = 0 := by simpa using hz
  have hm : a.clean.m = 0 := by simpa using hm
  rw [leq_s ha hb, has_0 (by simpa using hb) hz, hz, hm]; unfold Cg.factor; simp
  rw [Bool.eq_iff_iff]; simp
theorem leq_3 (ha : (!a.clean.some) = false) (hb : (!b.clean.some) = false) (hz : (b.clean.m == 0) = true) (hm : (a.clean.m == 0) = false) : Cg.leq a b = false := by
  have hz : b.clean.m = 0 := by simpa using hz
  have hm : ¬ a.clean.m = 0 := by simpa using hm
  rw [leq_s ha hb, hz]; unfold Cg.factor; simp [hm]
theorem leq_4 (ha : (!a.clean.some) = false) (hb : (!b.clean.some) = false) (hz : (b.clean.m == 0) = false) (hm : (a.clean.m.tmod b.clean.m == 0) = true) : Cg.leq a b = Cg.has b.clean a.clean.r := by
  have hz : ¬ b.clean.m = 0 := by simpa using hz
  have hm : a.clean.m.tmod b.clean.m = 0 := by simpa using hm
  rw [tmod_zero] at hm
  rw [leq_s ha hb]; unfold Cg.factor; simp [hz, hm]
theorem leq_5 (ha : (!a.clean.some) = false) (hb : (!b.clean.some) = false) (hz : (b.clean.m == 0) = false) (hm : (a.clean.m.tmod b.clean.m == 0) = false) : Cg.leq a b = false := by
  have hz : ¬ b.clean.m = 0 := by simpa using hz
  have hm : ¬ a.clean.m.tmod b.clean.m = 0 := by simpa using hm
  rw [tmod_zero] at hm
  rw [leq_s ha hb]; unfold Cg.factor; simp [hz, hm]
end


end Go.Proofs.Ytbfinmfdcbghfaa
