/- The plain laws of widened and narrowed values. No program in sight. -/
import Derived.Test.YtbfinmfdcbghfaaVal7
namespace Go.Proofs.Ytbfinmfdcbghfaa
set_option linter.all false
open Go.Sx

theorem ig_clean2 (i : Ig) : i.clean.clean = i.clean := tidy_fix (clean_tidy i)
theorem rclean2 (v : Vl) : v.rclean.rclean = v.rclean := by
  unfold Vl.rclean; rw [ig_clean2, cleanS_idem]
theorem widen_eq (a b : Vl) (l : List Int) : Vl.widen a b l = Vl.rwiden a b l := by
  unfold Vl.widen Vl.rwiden Vl.rjoin
  rw [rclean2, rclean2, of_rclean, of_rclean]
  simp only [Vl.rclean, ofS_eq, cleanS_idem]
theorem leq_eq (a b : Vl) : Vl.leq a b = Vl.rleq a.rclean b.rclean := by
  unfold Vl.leq Vl.rleq Ig.leq
  rw [rclean2, rclean2, of_rclean, of_rclean]
  simp only [Vl.rclean, ofS_eq, cleanS_idem]
theorem tidy_none {i : Ig} (h : i.tidy) : i.none = !i.s.some := by
  unfold Ig.none Sp.none
  rcases h with rfl | ⟨⟨h1, h2⟩, h3, _⟩
  · rfl
  · rw [h1, h2]; simp; omega
theorem none_eq (b : Vl) : Vl.none b = Vl.rnone b.rclean := by
  unfold Vl.none Vl.rnone
  rw [rclean2, of_rclean, tidy_none (i := b.rclean.i) (clean_tidy b.i)]
  congr 1
  simp only [Vl.rclean, ofS_eq, cleanS_idem]
  have key : ∀ (x : Bool) (l : List ByteArray), (!x && decide (l = [])) = decide ((l.length : Int) + (if x = true then 1 else 0) = 0) := by
    intro x l
    cases x
    · simp
    · simp; omega
  exact key _ _
theorem tidy_all {i : Ig} (h : i.tidy) : Cg.eq i.c (Cg.of 1 0) = decide (i.c.m = 1) := by
  have e : Cg.of 1 0 = ⟨true, 1, 0⟩ := rfl
  rw [e]; unfold Cg.eq
  rcases h with rfl | ⟨⟨h1, h2⟩, h3, h4⟩
  · rfl
  · rw [h2, Bool.eq_iff_iff]
    simp only [Bool.and_eq_true, beq_iff_eq, decide_eq_true_eq, true_and]
    constructor
    · exact fun h => h.1
    · intro h
      have := h4.2 (by omega)
      omega
theorem narrow_eq (a b : Vl) : Vl.narrow a b = Vl.rnarrow a b := by
  unfold Vl.narrow Vl.rnarrow
  rw [leq_eq, none_eq, of_rclean, of_rclean, tidy_all (i := a.rclean.i) (clean_tidy a.i)]
  split
  · rfl
  · split
    · rfl
    · simp only [decide_eq_true_eq]
      unfold Vl.rclean
      simp only [cleanS_idem]
theorem w1 (a b : Vl) (l : List Int) : Vl.exact (Vl.widen a b l) (Vl.rwiden a b l) = true := by rw [widen_eq]; exact exact_refl _
theorem w2 (a b : Vl) : Vl.exact (Vl.narrow a b) (Vl.rnarrow a b) = true := by rw [narrow_eq]; exact exact_refl _


end Go.Proofs.Ytbfinmfdcbghfaa
