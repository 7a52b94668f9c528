/- Gauges in either order. -/
import Derived.Test.YtdjkcdgngdbdjaaG3
namespace Go.Proofs.Ytdjkcdgngdbdjaa
set_option linter.all false
open Go.Sx

def addG (l : List DV) (s : Nat × Nat) : Nat × Nat := (upB s.1 (grow (gI l 0)), upB s.2 (grow (gI l 1)))
theorem addG_le (l : List DV) (s : Nat × Nat) : (addG l s).1 ≤ 4503599627370496 ∧ (addG l s).2 ≤ 4503599627370496 := ⟨upB_le _ _, upB_le _ _⟩
theorem shr_01000 {a b : Nat} : decide (shr a b ≥ 0) = true ∧ decide (shr a b ≤ 1000) = true := by
  unfold shr
  split
  · decide
  · rename_i h
    have e1 : (1000 * (b : Int)).tdiv (a + b) = 1000 * b / (a + b) := Int.tdiv_eq_ediv_of_nonneg (by omega)
    rw [e1]
    have a1 := Int.ediv_nonneg (show 0 ≤ 1000 * (b : Int) by omega) (show 0 ≤ (a : Int) + b by omega)
    have a2 : 1000 * (b : Int) / (a + b) ≤ 1000 := by
      apply Int.ediv_le_of_le_mul (by omega)
      omega
    simp only [decide_eq_true_eq]
    omega

def FGOrder : List Ar → Option Rs
  | [.c (.d (.lst 3 n0 f0)), .c (.d (.lst 3 n1 f1))] => some ⟨(n0 ≤ 9223372036854775807 ∧ ∀ i, i < n0 → f0 i = stp (f0 i) ∧ stpR (f0 i)) ∧ (n1 ≤ 9223372036854775807 ∧ ∀ i, i < n1 → f1 i = stp (f1 i) ∧ stpR (f1 i)), .va (.c (.d (.v (.bool true)))), []⟩
  | _ => none
set_option maxHeartbeats 2000000 in
set_option maxRecDepth 100000 in
theorem fcGOrder : FC Try.prog 4 FGOrder := by
  intro xs pre r us h hp
  unfold FGOrder at h
  split at h
  · rename_i n0 f0 n1 f1
    cases h
    obtain ⟨hp0, hp1⟩ := hp
    refine FCat.of_eq (as' := [.c (.d (.lst 3 n0 fun i => stp (f0 i))), .c (.d (.lst 3 n1 fun i => stp (f1 i)))]) ?_ rfl rfl ?_
    · repeat' (first | exact trivial | exact rfl | refine ⟨?_, ?_⟩ | fail)
      all_goals first | exact hp0.2 | exact hp1.2 | exact hp2.2 | (intro i hi; exact (hp0.2 i hi).1) | (intro i hi; exact (hp1.2 i hi).1) | (intro i hi; exact (hp2.2 i hi).1) | grind
    refine fcat tys_ok (l := [(15, ⟨[], FCut⟩), (16, ⟨[], FPart⟩), (17, ⟨[], FTurned⟩), (8, ⟨[], FRCut⟩), (10, ⟨[], FRAdd⟩), (13, ⟨[], FRShare⟩), (14, ⟨[], FLives⟩)]) ⟨fcCut, fcPart, fcTurned, fcRCut, fcRAdd, fcRShare, fcLives, trivial⟩ Try.func4 rfl (by kernel_rfl) false ?_
    repeat' (first | exact trivial | refine ⟨?_, ?_⟩ | intro _)
    all_goals first | (with_reducible show (_ : Int) ≤ _) | (with_reducible show (_ : Int) < _) | (with_reducible show (_ : Nat) ≤ _) | (with_reducible show (_ : Nat) < _) | (conv => whnf)
    all_goals first | (refine new_walk ?_; (conv => whnf)) | (refine add_walk rfl rfl (by omega) (by omega) (by omega) (by omega) ?_; (conv => whnf)) | (refine join_walk rfl rfl rfl (by omega) (by omega) (by omega) (by omega) ?_; (conv => whnf)) | (refine parts_walk rfl rfl (by omega) (by omega) ?_; (conv => whnf)) | (refine share_walk rfl rfl (by omega) (by omega) ?_; (conv => whnf)) | skip
    all_goals repeat' (first | exact trivial | refine ⟨?_, ?_⟩ | intro _)
    all_goals first | (with_reducible show (_ : Int) ≤ _) | (with_reducible show (_ : Int) < _) | (with_reducible show (_ : Nat) ≤ _) | (with_reducible show (_ : Nat) < _) | (conv => whnf)
    all_goals first | (refine new_walk ?_; (conv => whnf)) | (refine add_walk rfl rfl (by omega) (by omega) (by omega) (by omega) ?_; (conv => whnf)) | (refine join_walk rfl rfl rfl (by omega) (by omega) (by omega) (by omega) ?_; (conv => whnf)) | (refine parts_walk rfl rfl (by omega) (by omega) ?_; (conv => whnf)) | (refine share_walk rfl rfl (by omega) (by omega) ?_; (conv => whnf)) | skip
    all_goals repeat' (first | exact trivial | refine ⟨?_, ?_⟩ | intro _)
    all_goals first | (with_reducible show (_ : Int) ≤ _) | (with_reducible show (_ : Int) < _) | (with_reducible show (_ : Nat) ≤ _) | (with_reducible show (_ : Nat) < _) | (conv => whnf)
    all_goals first | (refine new_walk ?_; (conv => whnf)) | (refine add_walk rfl rfl (by omega) (by omega) (by omega) (by omega) ?_; (conv => whnf)) | (refine join_walk rfl rfl rfl (by omega) (by omega) (by omega) (by omega) ?_; (conv => whnf)) | (refine parts_walk rfl rfl (by omega) (by omega) ?_; (conv => whnf)) | (refine share_walk rfl rfl (by omega) (by omega) ?_; (conv => whnf)) | skip
    all_goals repeat' (first | exact trivial | refine ⟨?_, ?_⟩ | intro _)
    all_goals first | (with_reducible show (_ : Int) ≤ _) | (with_reducible show (_ : Int) < _) | (with_reducible show (_ : Nat) ≤ _) | (with_reducible show (_ : Nat) < _) | (conv => whnf)
    all_goals first | (refine new_walk ?_; (conv => whnf)) | (refine add_walk rfl rfl (by omega) (by omega) (by omega) (by omega) ?_; (conv => whnf)) | (refine join_walk rfl rfl rfl (by omega) (by omega) (by omega) (by omega) ?_; (conv => whnf)) | (refine parts_walk rfl rfl (by omega) (by omega) ?_; (conv => whnf)) | (refine share_walk rfl rfl (by omega) (by omega) ?_; (conv => whnf)) | skip
    all_goals repeat' (first | exact trivial | refine ⟨?_, ?_⟩ | intro _)
    all_goals first | (with_reducible show (_ : Int) ≤ _) | (with_reducible show (_ : Int) < _) | (with_reducible show (_ : Nat) ≤ _) | (with_reducible show (_ : Nat) < _) | (conv => whnf)
    all_goals first | (exfalso; exact absurd ‹_› (by decide)) | skip
    refine loop_ok tys_ok (l := [(15, ⟨[], FCut⟩), (16, ⟨[], FPart⟩), (17, ⟨[], FTurned⟩), (8, ⟨[], FRCut⟩), (10, ⟨[], FRAdd⟩), (13, ⟨[], FRShare⟩), (14, ⟨[], FLives⟩)]) ⟨fcCut, fcPart, fcTurned, fcRCut, fcRAdd, fcRShare, fcLives, trivial⟩ (by kernel_rfl) (X := Nat × Nat × Nat)
      (fun x => ⟨[(9, vx (.int .i64 x.1)), (5, .va (.c (.own 0 0))), (6, .va (.c (.own 1 0))), (7, .va (.c (.own 2 0))), (8, .va (.c (.own 3 0))), (0, .va (.c (.d (.lst 3 n0 fun i => stp (f0 i))))), (1, .va (.c (.d (.lst 3 n1 fun i => stp (f1 i)))))], [(0, .cells (cx x.2.1 x.2.2)), (1, .cells (cx 0 0)), (2, .cells (cx x.2.1 x.2.2)), (3, .cells (cx 0 0))], 4, 130⟩)
      (fun x => n0 - x.1) (fun x => x.1 ≤ n0 ∧ x.2.1 ≤ 4503599627370496 ∧ x.2.2 ≤ 4503599627370496) [] []
      (fun x _ _ => (x.1 + 1, addG (f0 x.1) x.2)) [0, 1, 2, 3] [0, 1, 2, 3] 0 0 (0, 0, 0) ?_ ?_ ?_
    · exact ⟨Nat.zero_le _, Nat.zero_le _, Nat.zero_le _⟩
    · repeat' (first | exact trivial | exact rfl | (intro _ h; exact absurd h (Nat.not_lt_zero _)) | (intro _ _; exact rfl) | refine ⟨?_, ?_⟩ | fail)
    · rintro ⟨i, a, b⟩ ⟨k1, ka, kb⟩
      dsimp only at k1 ka kb
      rcases Nat.lt_or_ge i n0 with hi | hi
      · have hr := (hp0.2 i hi).2
        have hn0 := hp0.1
        unfold stpR at hr
        repeat' (first | exact trivial | refine ⟨?_, ?_⟩ | intro _)
        all_goals first | (with_reducible show (_ : Int) ≤ _) | (with_reducible show (_ : Int) < _) | (with_reducible show (_ : Nat) ≤ _) | (with_reducible show (_ : Nat) < _) | (conv => whnf)
        all_goals first | (exfalso; have hc := of_decide_eq_false ‹decide _ = false›; omega) | skip
        all_goals (try simp only [Int.toNat_natCast])
        all_goals first | omega | skip
        all_goals first | (refine new_walk ?_; (conv => whnf)) | (refine add_walk rfl rfl (by omega) (by omega) (by omega) (by omega) ?_; (conv => whnf)) | (refine join_walk rfl rfl rfl (by omega) (by omega) (by omega) (by omega) ?_; (conv => whnf)) | (refine parts_walk rfl rfl (by omega) (by omega) ?_; (conv => whnf)) | (refine share_walk rfl rfl (by omega) (by omega) ?_; (conv => whnf)) | skip
        all_goals repeat' (first | exact trivial | refine ⟨?_, ?_⟩ | intro _)
        all_goals first | (with_reducible show (_ : Int) ≤ _) | (with_reducible show (_ : Int) < _) | (with_reducible show (_ : Nat) ≤ _) | (with_reducible show (_ : Nat) < _) | (conv => whnf)
        all_goals (try simp only [Int.toNat_natCast])
        all_goals first | omega | skip
        all_goals first | (refine new_walk ?_; (conv => whnf)) | (refine add_walk rfl rfl (by omega) (by omega) (by omega) (by omega) ?_; (conv => whnf)) | (refine join_walk rfl rfl rfl (by omega) (by omega) (by omega) (by omega) ?_; (conv => whnf)) | (refine parts_walk rfl rfl (by omega) (by omega) ?_; (conv => whnf)) | (refine share_walk rfl rfl (by omega) (by omega) ?_; (conv => whnf)) | skip
        all_goals repeat' (first | exact trivial | refine ⟨?_, ?_⟩ | intro _)
        all_goals first | (with_reducible show (_ : Int) ≤ _) | (with_reducible show (_ : Int) < _) | (with_reducible show (_ : Nat) ≤ _) | (with_reducible show (_ : Nat) < _) | (conv => whnf)
        all_goals (try simp only [Int.toNat_natCast] at *)
        all_goals (have w3 := wI_id ((i : Int) + 1) (by omega) (by omega); have u5 := addG_le (f0 i) (a, b))
        all_goals first | omega | ((with_reducible show idsOk _ _ = true); rfl) | rfl | ((with_reducible show Value.int _ _ = Value.int _ _); rw [w3]; rfl) | trace_state
      · repeat' (first | exact trivial | refine ⟨?_, ?_⟩ | intro _)
        all_goals first | (with_reducible show (_ : Int) ≤ _) | (with_reducible show (_ : Int) < _) | (with_reducible show (_ : Nat) ≤ _) | (with_reducible show (_ : Nat) < _) | (conv => whnf)
        all_goals first | (exfalso; simp only [decide_eq_true_eq] at *; omega) | rfl | skip
        refine loop_ok tys_ok (l := [(15, ⟨[], FCut⟩), (16, ⟨[], FPart⟩), (17, ⟨[], FTurned⟩), (8, ⟨[], FRCut⟩), (10, ⟨[], FRAdd⟩), (13, ⟨[], FRShare⟩), (14, ⟨[], FLives⟩)]) ⟨fcCut, fcPart, fcTurned, fcRCut, fcRAdd, fcRShare, fcLives, trivial⟩ (by kernel_rfl) (X := Nat × Nat × Nat)
          (fun x => ⟨[(10, vx (.int .i64 x.1)), (5, .va (.c (.own 0 0))), (6, .va (.c (.own 1 0))), (7, .va (.c (.own 2 0))), (8, .va (.c (.own 3 0))), (0, .va (.c (.d (.lst 3 n0 fun i => stp (f0 i))))), (1, .va (.c (.d (.lst 3 n1 fun i => stp (f1 i)))))], [(0, .cells (cx a b)), (1, .cells (cx x.2.1 x.2.2)), (2, .cells (cx a b)), (3, .cells (cx x.2.1 x.2.2))], 4, 130⟩)
          (fun x => n1 - x.1) (fun x => x.1 ≤ n1 ∧ x.2.1 ≤ 4503599627370496 ∧ x.2.2 ≤ 4503599627370496) [] []
          (fun x _ _ => (x.1 + 1, addG (f1 x.1) x.2)) [0, 1, 2, 3] [0, 1, 2, 3] 0 0 (0, 0, 0) ?_ ?_ ?_
        · exact ⟨Nat.zero_le _, Nat.zero_le _, Nat.zero_le _⟩
        · repeat' (first | exact trivial | exact rfl | (intro _ h; exact absurd h (Nat.not_lt_zero _)) | (intro _ _; exact rfl) | refine ⟨?_, ?_⟩ | fail)
        · rintro ⟨i, c, d⟩ ⟨k1, kc, kd⟩
          dsimp only at k1 kc kd
          rcases Nat.lt_or_ge i n1 with hi | hi
          · have hr := (hp1.2 i hi).2
            have hn0 := hp1.1
            unfold stpR at hr
            repeat' (first | exact trivial | refine ⟨?_, ?_⟩ | intro _)
            all_goals first | (with_reducible show (_ : Int) ≤ _) | (with_reducible show (_ : Int) < _) | (with_reducible show (_ : Nat) ≤ _) | (with_reducible show (_ : Nat) < _) | (conv => whnf)
            all_goals first | (exfalso; have hc := of_decide_eq_false ‹decide _ = false›; omega) | skip
            all_goals (try simp only [Int.toNat_natCast])
            all_goals first | omega | skip
            all_goals first | (refine new_walk ?_; (conv => whnf)) | (refine add_walk rfl rfl (by omega) (by omega) (by omega) (by omega) ?_; (conv => whnf)) | (refine join_walk rfl rfl rfl (by omega) (by omega) (by omega) (by omega) ?_; (conv => whnf)) | (refine parts_walk rfl rfl (by omega) (by omega) ?_; (conv => whnf)) | (refine share_walk rfl rfl (by omega) (by omega) ?_; (conv => whnf)) | skip
            all_goals repeat' (first | exact trivial | refine ⟨?_, ?_⟩ | intro _)
            all_goals first | (with_reducible show (_ : Int) ≤ _) | (with_reducible show (_ : Int) < _) | (with_reducible show (_ : Nat) ≤ _) | (with_reducible show (_ : Nat) < _) | (conv => whnf)
            all_goals (try simp only [Int.toNat_natCast])
            all_goals first | omega | skip
            all_goals first | (refine new_walk ?_; (conv => whnf)) | (refine add_walk rfl rfl (by omega) (by omega) (by omega) (by omega) ?_; (conv => whnf)) | (refine join_walk rfl rfl rfl (by omega) (by omega) (by omega) (by omega) ?_; (conv => whnf)) | (refine parts_walk rfl rfl (by omega) (by omega) ?_; (conv => whnf)) | (refine share_walk rfl rfl (by omega) (by omega) ?_; (conv => whnf)) | skip
            all_goals repeat' (first | exact trivial | refine ⟨?_, ?_⟩ | intro _)
            all_goals first | (with_reducible show (_ : Int) ≤ _) | (with_reducible show (_ : Int) < _) | (with_reducible show (_ : Nat) ≤ _) | (with_reducible show (_ : Nat) < _) | (conv => whnf)
            all_goals (try simp only [Int.toNat_natCast] at *)
            all_goals (have w3 := wI_id ((i : Int) + 1) (by omega) (by omega); have u5 := addG_le (f1 i) (c, d))
            all_goals first | omega | ((with_reducible show idsOk _ _ = true); rfl) | rfl | ((with_reducible show Value.int _ _ = Value.int _ _); rw [w3]; rfl) | trace_state
          · repeat' (first | exact trivial | refine ⟨?_, ?_⟩ | intro _)
            all_goals first | (with_reducible show (_ : Int) ≤ _) | (with_reducible show (_ : Int) < _) | (with_reducible show (_ : Nat) ≤ _) | (with_reducible show (_ : Nat) < _) | (conv => whnf)
            all_goals first | (exfalso; simp only [decide_eq_true_eq] at *; omega) | rfl | skip
            all_goals first | (refine new_walk ?_; (conv => whnf)) | (refine add_walk rfl rfl (by omega) (by omega) (by omega) (by omega) ?_; (conv => whnf)) | (refine join_walk rfl rfl rfl (by omega) (by omega) (by omega) (by omega) ?_; (conv => whnf)) | (refine parts_walk rfl rfl (by omega) (by omega) ?_; (conv => whnf)) | (refine share_walk rfl rfl (by omega) (by omega) ?_; (conv => whnf)) | skip
            all_goals repeat' (first | exact trivial | refine ⟨?_, ?_⟩ | intro _)
            all_goals first | (with_reducible show (_ : Int) ≤ _) | (with_reducible show (_ : Int) < _) | (with_reducible show (_ : Nat) ≤ _) | (with_reducible show (_ : Nat) < _) | (conv => whnf)
            all_goals first | (refine new_walk ?_; (conv => whnf)) | (refine add_walk rfl rfl (by omega) (by omega) (by omega) (by omega) ?_; (conv => whnf)) | (refine join_walk rfl rfl rfl (by omega) (by omega) (by omega) (by omega) ?_; (conv => whnf)) | (refine parts_walk rfl rfl (by omega) (by omega) ?_; (conv => whnf)) | (refine share_walk rfl rfl (by omega) (by omega) ?_; (conv => whnf)) | skip
            all_goals repeat' (first | exact trivial | refine ⟨?_, ?_⟩ | intro _)
            all_goals first | (with_reducible show (_ : Int) ≤ _) | (with_reducible show (_ : Int) < _) | (with_reducible show (_ : Nat) ≤ _) | (with_reducible show (_ : Nat) < _) | (conv => whnf)
            all_goals first | (refine new_walk ?_; (conv => whnf)) | (refine add_walk rfl rfl (by omega) (by omega) (by omega) (by omega) ?_; (conv => whnf)) | (refine join_walk rfl rfl rfl (by omega) (by omega) (by omega) (by omega) ?_; (conv => whnf)) | (refine parts_walk rfl rfl (by omega) (by omega) ?_; (conv => whnf)) | (refine share_walk rfl rfl (by omega) (by omega) ?_; (conv => whnf)) | skip
            all_goals repeat' (first | exact trivial | refine ⟨?_, ?_⟩ | intro _)
            all_goals first | (with_reducible show (_ : Int) ≤ _) | (with_reducible show (_ : Int) < _) | (with_reducible show (_ : Nat) ≤ _) | (with_reducible show (_ : Nat) < _) | (conv => whnf)
            all_goals first | (refine new_walk ?_; (conv => whnf)) | (refine add_walk rfl rfl (by omega) (by omega) (by omega) (by omega) ?_; (conv => whnf)) | (refine join_walk rfl rfl rfl (by omega) (by omega) (by omega) (by omega) ?_; (conv => whnf)) | (refine parts_walk rfl rfl (by omega) (by omega) ?_; (conv => whnf)) | (refine share_walk rfl rfl (by omega) (by omega) ?_; (conv => whnf)) | skip
            all_goals repeat' (first | exact trivial | refine ⟨?_, ?_⟩ | intro _)
            all_goals first | (with_reducible show (_ : Int) ≤ _) | (with_reducible show (_ : Int) < _) | (with_reducible show (_ : Nat) ≤ _) | (with_reducible show (_ : Nat) < _) | (conv => whnf)
            all_goals first | (refine new_walk ?_; (conv => whnf)) | (refine add_walk rfl rfl (by omega) (by omega) (by omega) (by omega) ?_; (conv => whnf)) | (refine join_walk rfl rfl rfl (by omega) (by omega) (by omega) (by omega) ?_; (conv => whnf)) | (refine parts_walk rfl rfl (by omega) (by omega) ?_; (conv => whnf)) | (refine share_walk rfl rfl (by omega) (by omega) ?_; (conv => whnf)) | skip
            all_goals repeat' (first | exact trivial | refine ⟨?_, ?_⟩ | intro _)
            all_goals first | (with_reducible show (_ : Int) ≤ _) | (with_reducible show (_ : Int) < _) | (with_reducible show (_ : Nat) ≤ _) | (with_reducible show (_ : Nat) < _) | (conv => whnf)
            all_goals first | (refine new_walk ?_; (conv => whnf)) | (refine add_walk rfl rfl (by omega) (by omega) (by omega) (by omega) ?_; (conv => whnf)) | (refine join_walk rfl rfl rfl (by omega) (by omega) (by omega) (by omega) ?_; (conv => whnf)) | (refine parts_walk rfl rfl (by omega) (by omega) ?_; (conv => whnf)) | (refine share_walk rfl rfl (by omega) (by omega) ?_; (conv => whnf)) | skip
            all_goals repeat' (first | exact trivial | refine ⟨?_, ?_⟩ | intro _)
            all_goals first | (with_reducible show (_ : Int) ≤ _) | (with_reducible show (_ : Int) < _) | (with_reducible show (_ : Nat) ≤ _) | (with_reducible show (_ : Nat) < _) | (conv => whnf)
            all_goals (have s1 := shr_01000 (a := min (a + c) 4503599627370496) (b := min (b + d) 4503599627370496))
            all_goals (try simp only [Nat.add_comm c a, Nat.add_comm d b] at *)
            all_goals first | (exfalso; simp_all; done) | trace_state
  · cases h

end Go.Proofs.Ytdjkcdgngdbdjaa
