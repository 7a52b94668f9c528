/- Numbers out of texts, as the reference reads them. No condition. -/
import Derived.Test.YtakcacejpbiogaaDoorKey11
namespace Go.Proofs.YtakcacejpbiogaaDoor
set_option linter.all false
open Go.Sx

theorem wrap8 {n : Int} (h0 : 0 ≤ n) (h1 : n < 256) : IntKind.wrap .u8 n = n := by
  have : IntKind.wrap .u8 n = n % 256 := rfl
  rw [this]; omega
def FRNum : List Ar → Option Rs
  | [.c (.d (.v (.string x0)))] => some ⟨(x0.size ≤ 9223372036854775807), .tup [.c (.d (it (numM x0).1)), .c (.d (it (numM x0).2))], []⟩
  | _ => none
set_option maxHeartbeats 4000000 in
set_option maxRecDepth 100000 in
theorem fcRNum : FC Tryd.prog 47 FRNum := by
  intro xs pre r us h hp
  unfold FRNum at h
  split at h
  · rename_i x0
    cases h
    have hp0 := hp
    refine fcat tys_ok (l := []) trivial Tryd.func47 rfl (by kernel_rfl) false ?_
    repeat' (first | exact trivial | refine ⟨?_, ?_⟩ | intro _)
    all_goals first | (with_reducible show (_ : Int) ≤ _) | (with_reducible show (_ : Int) < _) | (with_reducible show (_ : Nat) ≤ _) | (with_reducible show (_ : Nat) < _) | (conv => whnf)
    all_goals first | omega | (rw [num_ref_bad (.inl (by have := eq_of_beq ‹((x0.size : Int) == 0) = true›; omega))] <;> rfl) | (rw [num_ref_bad (.inr (.inl ⟨by have := of_decide_eq_true ‹decide ((x0.size : Int) > 1) = true›; omega, eq_of_beq ‹(byteAt x0 (Int.toNat 0) == 48) = true›⟩))] <;> rfl) | (have := of_decide_eq_true ‹decide ((x0.size : Int) > 1) = true›; omega) | skip
    all_goals (have h0 : x0.size ≠ 0 := by have := beq_eq_false_iff_ne.1 ‹((x0.size : Int) == 0) = false›; omega)
    all_goals (have h1 : ¬ (x0.size > 1 ∧ byteAt x0 0 = 48) := by rintro ⟨q1, q2⟩; first | (have := of_decide_eq_false ‹decide ((x0.size : Int) > 1) = false›; omega) | exact (beq_eq_false_iff_ne.1 ‹(byteAt x0 (Int.toNat 0) == 48) = false›) q2)
    all_goals (
    refine loop_ok tys_ok (l := []) trivial (by kernel_rfl) (X := Nat)
      (fun i => ⟨[(4, vx (.int .i64 i)), (0, vx (.string x0))], [], 0, 58⟩)
      (fun i => x0.size - i) (fun i => i ≤ x0.size ∧ ∀ j, j < i → digB (bAt x0 j) = true) [] []
      (fun i _ _ => i + 1) [] [] 0 0 0 ?_ ?_ ?_
    · exact ⟨Nat.zero_le _, fun j h => absurd h (Nat.not_lt_zero j)⟩
    · repeat' (first | exact trivial | exact rfl | (intro _ _; exact rfl) | refine ⟨?_, ?_⟩ | fail)
    · rintro i ⟨k1, k2⟩
      rcases Nat.lt_or_ge i x0.size with hi | hi
      · have hne : decide ((i : Int) < (x0.size : Int)) = true := decide_eq_true (by omega)
        have hib : (0 : Int) ≤ (i : Int) ∧ (i : Int) < (x0.size : Int) := by omega
        have hby : byteAt x0 (Int.toNat (i : Int)) = (bAt x0 i : Nat) := byte_bAt hi
        cases hg : digB (bAt x0 i) with
        | false =>
          have hgd : ¬ (48 ≤ bAt x0 i ∧ bAt x0 i ≤ 57) := by unfold digB at hg; rw [decide_eq_false_iff_not] at hg; omega
          have hbad := num_ref_bad (.inr (.inr ⟨i, hi, hg⟩))
          repeat' (first | exact trivial | (with_reducible exact (fun h => absurd (hne.symm.trans h) (by decide))) | (with_reducible exact hib) | refine ⟨?_, ?_⟩ | intro _)
          all_goals first | (with_reducible show (_ : Int) ≤ _) | (with_reducible show (_ : Int) < _) | (with_reducible show (_ : Nat) ≤ _) | (with_reducible show (_ : Nat) < _) | (conv => whnf)
          all_goals (try simp only [hby, decide_eq_true_eq, decide_eq_false_iff_not, gt_iff_lt] at *)
          all_goals first | omega | (rw [hbad] <;> rfl) | trace_state
        | true =>
          have hgd : 48 ≤ bAt x0 i ∧ bAt x0 i ≤ 57 := by unfold digB at hg; rw [decide_eq_true_eq] at hg; omega
          have hn : ∀ j, j < i + 1 → digB (bAt x0 j) = true := fun j hj => by
            rcases Nat.lt_or_ge j i with h | h
            · exact k2 j h
            · rw [show j = i by omega]; exact hg
          repeat' (first | exact trivial | (with_reducible exact (fun h => absurd (hne.symm.trans h) (by decide))) | (with_reducible exact hib) | refine ⟨?_, ?_⟩ | intro _)
          all_goals first | (with_reducible show (_ : Int) ≤ _) | (with_reducible show (_ : Int) < _) | (with_reducible show (_ : Nat) ≤ _) | (with_reducible show (_ : Nat) < _) | (conv => whnf)
          all_goals (try simp only [hby, decide_eq_true_eq, decide_eq_false_iff_not, gt_iff_lt] at *)
          all_goals first | omega | rfl | exact hn _ ‹_› | (exact congrArg (Value.int .i64) (by first | (rw [wI_id _ (by omega) (by omega)]; omega) | omega | (dsimp only; omega))) | (dsimp only; (exact congrArg (Value.int .i64) (by first | (rw [wI_id _ (by omega) (by omega)]; omega) | omega | (dsimp only; omega)))) | trace_state
      · have hne : decide ((i : Int) < (x0.size : Int)) = false := decide_eq_false (by omega)
        obtain rfl : i = x0.size := by omega
        have hall := k2
        have hnum := num_ref_ok h0 h1 hall
        clear hi k1 k2
        repeat' (first | exact trivial | (with_reducible exact (fun h => absurd (hne.symm.trans h) (by decide))) | refine ⟨?_, ?_⟩ | intro _)
        all_goals first | (with_reducible show (_ : Int) ≤ _) | (with_reducible show (_ : Int) < _) | (with_reducible show (_ : Nat) ≤ _) | (with_reducible show (_ : Nat) < _) | (conv => whnf)
        refine loop_ok tys_ok (l := []) trivial (by kernel_rfl) (X := Nat)
          (fun i => ⟨[(6, vx (.int .i64 i)), (5, vx (.int .i64 (vS x0 i : Nat))), (0, vx (.string x0))], [], 0, 58⟩)
          (fun i => x0.size - i) (fun i => i ≤ x0.size ∧ vS x0 i ≤ 9223372036854775807) [] []
          (fun i _ _ => i + 1) [] [] 0 0 0 ?_ ?_ ?_
        · exact ⟨Nat.zero_le _, Nat.zero_le _⟩
        · repeat' (first | exact trivial | exact rfl | (intro _ _; exact rfl) | refine ⟨?_, ?_⟩ | fail)
        · rintro i ⟨k1, k2⟩
          rcases Nat.lt_or_ge i x0.size with hi | hi
          · have hne : decide ((i : Int) < (x0.size : Int)) = true := decide_eq_true (by omega)
            have hib : (0 : Int) ≤ (i : Int) ∧ (i : Int) < (x0.size : Int) := by omega
            have hby : byteAt x0 (Int.toNat (i : Int)) = (bAt x0 i : Nat) := byte_bAt hi
            have hdg := hall i hi
            unfold digB at hdg
            rw [decide_eq_true_eq] at hdg
            have hsu := vS_succ hi
            have hvl := vS_le (s := x0) (i := i + 1) (by omega)
            have hD : IntKind.wrap .i64 (IntKind.wrap .u8 (byteAt x0 (Int.toNat (i : Int)) - 48)) = ((bAt x0 i - 48 : Nat) : Int) := by
              rw [hby, wrap8 (by omega) (by omega), wI_id _ (by omega) (by omega)]; omega
            generalize hde : bAt x0 i - 48 = D at *
            have hD9 : D ≤ 9 := by omega
            have hQ : IntKind.wrap .i64 ((IntKind.wrap .i64 (9223372036854775807 - IntKind.wrap .i64 (IntKind.wrap .u8 (byteAt x0 (Int.toNat (i : Int)) - 48)))).tdiv 10) = (((9223372036854775807 - D) / 10 : Nat) : Int) := by
              rw [hD, wI_id (9223372036854775807 - (D : Int)) (by omega) (by omega), Int.tdiv_eq_ediv_of_nonneg (by omega), wI_id _ (by omega) (by omega)]; omega
            repeat' (first | exact trivial | (with_reducible exact (fun h => absurd (hne.symm.trans h) (by decide))) | (with_reducible exact hib) | refine ⟨?_, ?_⟩ | intro _)
            all_goals first | (with_reducible show (_ : Int) ≤ _) | (with_reducible show (_ : Int) < _) | (with_reducible show (_ : Nat) ≤ _) | (with_reducible show (_ : Nat) < _) | (conv => whnf)
            all_goals (try simp only [hQ, decide_eq_true_eq, decide_eq_false_iff_not, gt_iff_lt] at *)
            all_goals first | (exact absurd ‹(10 : Int) = 0› (by decide)) | omega | rfl | ((with_reducible show idsOk _ _ = true); rfl) | (rw [hnum, if_neg (by omega)] <;> rfl) | (dsimp only; omega) | (rw [hD]; refine congrArg (Value.int .i64) ?_; rw [wI_id ((vS x0 i : Int) * 10) (by omega) (by omega), wI_id _ (by omega) (by omega)]; (try dsimp only); omega) | (exact congrArg (Value.int .i64) (by first | (rw [wI_id _ (by omega) (by omega)]; omega) | omega | (dsimp only; omega))) | (dsimp only; (exact congrArg (Value.int .i64) (by first | (rw [wI_id _ (by omega) (by omega)]; omega) | omega | (dsimp only; omega)))) | trace_state
          · have hne : decide ((i : Int) < (x0.size : Int)) = false := decide_eq_false (by omega)
            obtain rfl : i = x0.size := by omega
            repeat' (first | exact trivial | (with_reducible exact (fun h => absurd (hne.symm.trans h) (by decide))) | refine ⟨?_, ?_⟩ | intro _)
            all_goals first | (with_reducible show (_ : Int) ≤ _) | (with_reducible show (_ : Int) < _) | (with_reducible show (_ : Nat) ≤ _) | (with_reducible show (_ : Nat) < _) | (conv => whnf)
            all_goals first | (rw [hnum, if_pos k2] <;> rfl) | omega | trace_state)
  · cases h

end Go.Proofs.YtakcacejpbiogaaDoor
