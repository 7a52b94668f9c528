/- Gauges that count. -/
import Derived.Test.YtdjkcdgngdbdjaaG2
namespace Go.Proofs.Ytdjkcdgngdbdjaa
set_option linter.all false
open Go.Sx

def gI (l : List DV) (j : Nat) : Int := match l[j]? with
  | some (.v (.int _ n)) => n
  | _ => 0
def gB (l : List DV) (j : Nat) : Bool := match l[j]? with
  | some (.v (.bool b)) => b
  | _ => false
abbrev stp (l : List DV) : List DV := [.v (.int .i64 (gI l 0)), .v (.int .i64 (gI l 1)), .v (.bool (gB l 2))]
def stpR (l : List DV) : Prop := (-9223372036854775808 ≤ gI l 0 ∧ gI l 0 < 9223372036854775808) ∧ -9223372036854775808 ≤ gI l 1 ∧ gI l 1 < 9223372036854775808
def upB (a n : Nat) : Nat := min (a + n) 4503599627370496
theorem upB_le (a n : Nat) : upB a n ≤ 4503599627370496 := by unfold upB; omega
def nextG (l : List DV) (s : Nat × Nat) : Nat × Nat := if gB l 2 = true then (upB s.1 s.1, upB s.2 s.2) else (upB s.1 (grow (gI l 0)), upB s.2 (grow (gI l 1)))
theorem nextG_t {l : List DV} {s : Nat × Nat} (h : gB l 2 = true) : nextG l s = (upB s.1 s.1, upB s.2 s.2) := by unfold nextG; rw [if_pos h]
theorem nextG_f {l : List DV} {s : Nat × Nat} (h : gB l 2 = false) : nextG l s = (upB s.1 (grow (gI l 0)), upB s.2 (grow (gI l 1))) := by unfold nextG; rw [if_neg (by rw [h]; decide)]
theorem nextG_le (l : List DV) (s : Nat × Nat) : (nextG l s).1 ≤ 4503599627370496 ∧ (nextG l s).2 ≤ 4503599627370496 := by unfold nextG; split <;> exact ⟨upB_le _ _, upB_le _ _⟩
theorem cut_grow {a : Nat} {n : Int} (h : a ≤ 4503599627370496) : cutI (a + cutI n 2147483647) 4503599627370496 = (upB a (grow n) : Int) := by
  unfold cutI upB grow
  split <;> split <;> (try split) <;> omega
theorem cut_twice {a : Nat} (h : a ≤ 4503599627370496) : cutI (IntKind.wrap .i64 ((a : Int) + a)) 4503599627370496 = (upB a a : Int) := by
  rw [wI_id _ (by omega) (by omega)]
  unfold cutI upB
  split <;> (try split) <;> omega

def FGCounts : List Ar → Option Rs
  | [.c (.d (.lst 3 n0 f0))] => some ⟨(n0 ≤ 9223372036854775807 ∧ ∀ i, i < n0 → f0 i = stp (f0 i) ∧ stpR (f0 i)), .va (.c (.d (.v (.bool true)))), []⟩
  | _ => none
set_option maxHeartbeats 2000000 in
set_option maxRecDepth 100000 in
theorem fcGCounts : FC Try.prog 3 FGCounts := by
  intro xs pre r us h hp
  unfold FGCounts at h
  split at h
  · rename_i n0 f0
    cases h
    have hp0 := hp
    refine FCat.of_eq (as' := [.c (.d (.lst 3 n0 fun i => stp (f0 i)))]) ?_ rfl rfl ?_
    · repeat' (first | exact trivial | exact rfl | refine ⟨?_, ?_⟩ | fail)
      all_goals first | exact hp0.2 | exact hp1.2 | exact hp2.2 | (intro i hi; exact (hp0.2 i hi).1) | (intro i hi; exact (hp1.2 i hi).1) | (intro i hi; exact (hp2.2 i hi).1) | grind
    refine fcat tys_ok (l := [(15, ⟨[], FCut⟩), (16, ⟨[], FPart⟩), (17, ⟨[], FTurned⟩), (8, ⟨[], FRCut⟩), (10, ⟨[], FRAdd⟩), (13, ⟨[], FRShare⟩), (14, ⟨[], FLives⟩)]) ⟨fcCut, fcPart, fcTurned, fcRCut, fcRAdd, fcRShare, fcLives, trivial⟩ Try.func3 rfl (by kernel_rfl) false ?_
    repeat' (first | exact trivial | refine ⟨?_, ?_⟩ | intro _)
    all_goals first | (with_reducible show (_ : Int) ≤ _) | (with_reducible show (_ : Int) < _) | (with_reducible show (_ : Nat) ≤ _) | (with_reducible show (_ : Nat) < _) | (conv => whnf)
    all_goals first | (refine new_walk ?_; (conv => whnf)) | (refine add_walk rfl rfl (by omega) (by omega) (by omega) (by omega) ?_; (conv => whnf)) | (refine join_walk rfl rfl rfl (by omega) (by omega) (by omega) (by omega) ?_; (conv => whnf)) | (refine parts_walk rfl rfl (by omega) (by omega) ?_; (conv => whnf)) | (refine share_walk rfl rfl (by omega) (by omega) ?_; (conv => whnf)) | skip
    all_goals repeat' (first | exact trivial | refine ⟨?_, ?_⟩ | intro _)
    all_goals first | (with_reducible show (_ : Int) ≤ _) | (with_reducible show (_ : Int) < _) | (with_reducible show (_ : Nat) ≤ _) | (with_reducible show (_ : Nat) < _) | (conv => whnf)
    all_goals first | (exfalso; exact absurd ‹_› (by decide)) | skip
    refine loop_ok tys_ok (l := [(15, ⟨[], FCut⟩), (16, ⟨[], FPart⟩), (17, ⟨[], FTurned⟩), (8, ⟨[], FRCut⟩), (10, ⟨[], FRAdd⟩), (13, ⟨[], FRShare⟩), (14, ⟨[], FLives⟩)]) ⟨fcCut, fcPart, fcTurned, fcRCut, fcRAdd, fcRShare, fcLives, trivial⟩ (by kernel_rfl) (X := Nat × Nat × Nat)
      (fun x => ⟨[(6, vx (.int .i64 x.1)), (4, vx (.int .i64 x.2.1)), (5, vx (.int .i64 x.2.2)), (3, .va (.c (.own 0 0))), (0, .va (.c (.d (.lst 3 n0 fun i => stp (f0 i)))))], [(0, .cells (cx x.2.1 x.2.2))], 1, 82⟩)
      (fun x => n0 - x.1) (fun x => x.1 ≤ n0 ∧ x.2.1 ≤ 4503599627370496 ∧ x.2.2 ≤ 4503599627370496) [] []
      (fun x _ _ => (x.1 + 1, nextG (f0 x.1) x.2)) [0] [0] 0 0 (0, 0, 0) ?_ ?_ ?_
    · exact ⟨Nat.zero_le _, Nat.zero_le _, Nat.zero_le _⟩
    · repeat' (first | exact trivial | exact rfl | (intro _ h; exact absurd h (Nat.not_lt_zero _)) | (intro _ _; exact rfl) | refine ⟨?_, ?_⟩ | fail)
    · rintro ⟨i, a, b⟩ ⟨k1, k2, k3⟩
      dsimp only at k1 k2 k3
      rcases Nat.lt_or_ge i n0 with hi | hi
      · have hr := (hp0.2 i hi).2
        have hn0 := hp0.1
        unfold stpR at hr
        repeat' (first | exact trivial | refine ⟨?_, ?_⟩ | intro _)
        all_goals first | (with_reducible show (_ : Int) ≤ _) | (with_reducible show (_ : Int) < _) | (with_reducible show (_ : Nat) ≤ _) | (with_reducible show (_ : Nat) < _) | (conv => whnf)
        all_goals (try simp only [Int.toNat_natCast])
        all_goals first | omega | skip
        all_goals first | (refine new_walk ?_; (conv => whnf)) | (refine add_walk rfl rfl (by omega) (by omega) (by omega) (by omega) ?_; (conv => whnf)) | (refine join_walk rfl rfl rfl (by omega) (by omega) (by omega) (by omega) ?_; (conv => whnf)) | (refine parts_walk rfl rfl (by omega) (by omega) ?_; (conv => whnf)) | (refine share_walk rfl rfl (by omega) (by omega) ?_; (conv => whnf)) | skip
        all_goals repeat' (first | exact trivial | refine ⟨?_, ?_⟩ | intro _)
        all_goals first | (with_reducible show (_ : Int) ≤ _) | (with_reducible show (_ : Int) < _) | (with_reducible show (_ : Nat) ≤ _) | (with_reducible show (_ : Nat) < _) | (conv => whnf)
        all_goals first | omega | skip
        all_goals first | (refine new_walk ?_; (conv => whnf)) | (refine add_walk rfl rfl (by omega) (by omega) (by omega) (by omega) ?_; (conv => whnf)) | (refine join_walk rfl rfl rfl (by omega) (by omega) (by omega) (by omega) ?_; (conv => whnf)) | (refine parts_walk rfl rfl (by omega) (by omega) ?_; (conv => whnf)) | (refine share_walk rfl rfl (by omega) (by omega) ?_; (conv => whnf)) | skip
        all_goals repeat' (first | exact trivial | refine ⟨?_, ?_⟩ | intro _)
        all_goals first | (with_reducible show (_ : Int) ≤ _) | (with_reducible show (_ : Int) < _) | (with_reducible show (_ : Nat) ≤ _) | (with_reducible show (_ : Nat) < _) | (conv => whnf)
        all_goals first | omega | skip
        all_goals first | (refine new_walk ?_; (conv => whnf)) | (refine add_walk rfl rfl (by omega) (by omega) (by omega) (by omega) ?_; (conv => whnf)) | (refine join_walk rfl rfl rfl (by omega) (by omega) (by omega) (by omega) ?_; (conv => whnf)) | (refine parts_walk rfl rfl (by omega) (by omega) ?_; (conv => whnf)) | (refine share_walk rfl rfl (by omega) (by omega) ?_; (conv => whnf)) | skip
        all_goals repeat' (first | exact trivial | refine ⟨?_, ?_⟩ | intro _)
        all_goals first | (with_reducible show (_ : Int) ≤ _) | (with_reducible show (_ : Int) < _) | (with_reducible show (_ : Nat) ≤ _) | (with_reducible show (_ : Nat) < _) | (conv => whnf)
        all_goals (try simp only [Int.toNat_natCast, cut_twice k2, cut_twice k3, cut_grow k2, cut_grow k3] at *)
        all_goals (have u1 := upB_le a a; have u2 := upB_le b b; have u3 := upB_le a (grow (gI (f0 i) 0)); have u4 := upB_le b (grow (gI (f0 i) 1)); have u5 := nextG_le (f0 i) (a, b))
        all_goals (have w1 := wI_id ((a : Int) + a) (by omega) (by omega); have w2 := wI_id ((b : Int) + b) (by omega) (by omega); have w3 := wI_id ((i : Int) + 1) (by omega) (by omega))
        all_goals first | omega | ((with_reducible show idsOk _ _ = true); rfl) | rfl | ((with_reducible show Value.int _ _ = Value.int _ _); rw [w3]; rfl) | (rw [nextG_t ‹gB _ 2 = true›]; done) | (rw [nextG_t ‹gB _ 2 = true›]; rfl) | (rw [nextG_f ‹gB _ 2 = false›]; done) | (rw [nextG_f ‹gB _ 2 = false›]; rfl) | (exfalso; simp [upB] at *; done) | trace_state
      · repeat' (first | exact trivial | refine ⟨?_, ?_⟩ | intro _)
        all_goals first | (with_reducible show (_ : Int) ≤ _) | (with_reducible show (_ : Int) < _) | (with_reducible show (_ : Nat) ≤ _) | (with_reducible show (_ : Nat) < _) | (conv => whnf)
        all_goals first | (exfalso; simp only [decide_eq_true_eq] at *; omega) | rfl | trace_state
  · cases h

end Go.Proofs.Ytdjkcdgngdbdjaa
