/- Names, as the program tells them. No condition. -/
import Derived.Test.YtakcacejpbiogaaDoorKey3
namespace Go.Proofs.YtakcacejpbiogaaDoor
set_option linter.all false
open Go.Sx

def FNIndex : List Ar → Option Rs
  | [.c (.d (.lst 1 n0 f0)), .c (.d (.v (.string x1)))] => some ⟨(n0 * 16 ≤ 140737488351232 ∧ ∀ i, i < n0 → f0 i = [st (gT (f0 i))]), .va (.c (.d (it (ixS (gN n0 f0) x1)))), []⟩
  | _ => none
set_option maxHeartbeats 1000000 in
set_option maxRecDepth 100000 in
theorem fcNIndex : FC Tryd.prog 101 FNIndex := by
  intro xs pre r us h hp
  unfold FNIndex at h
  split at h
  · rename_i n0 f0 x1
    cases h
    have hp0 := hp
    refine FCat.of_eq (as' := [.c (.d (.lst 1 n0 fun i => [st (gT (f0 i))])), .c (.d (.v (.string x1)))]) ?_ rfl rfl ?_
    · repeat' (first | exact trivial | exact rfl | refine ⟨?_, ?_⟩ | fail)
      all_goals first | exact hp0.2 | exact hp1.2 | exact hp2.2 | (intro i hi; exact (hp0.2 i hi).1) | (intro i hi; exact (hp1.2 i hi).1) | (intro i hi; exact (hp2.2 i hi).1) | grind
    refine fcat tys_ok (l := []) trivial Tryd.func101 rfl (by kernel_rfl) false ?_
    repeat' (first | exact trivial | refine ⟨?_, ?_⟩ | intro _)
    all_goals first | (with_reducible show (_ : Int) ≤ _) | (with_reducible show (_ : Int) < _) | (with_reducible show (_ : Nat) ≤ _) | (with_reducible show (_ : Nat) < _) | (conv => whnf)
    refine loop_ids tys_ok (l := []) trivial (by kernel_rfl) (X := Nat)
      (fun x => ⟨[(8, vx (.int .i64 x)), (7, vx (.int .i64 n0)), (0, .va (.c (.d (.lst 1 n0 fun i => [st (gT (f0 i))])))), (1, vx (.string x1))], [], 0, 19⟩)
      (fun x => n0 - x) (fun x => x ≤ n0 ∧ ∀ j, j < x → ¬ x1 = gT (f0 j)) [] []
      (fun x _ _ => x + 1) (fun _ => []) [] 0 0 0 ?_ ?_ ?_
    · exact ⟨Nat.zero_le _, fun j h => absurd h (Nat.not_lt_zero _)⟩
    · repeat' (first | exact trivial | exact rfl | (intro _ h; exact absurd h (Nat.not_lt_zero _)) | (intro _ _; exact rfl) | refine ⟨?_, ?_⟩ | fail)
    · rintro i ⟨k1, k2⟩
      repeat' (first | exact trivial | refine ⟨?_, ?_⟩ | intro _)
      all_goals first | (with_reducible show (_ : Int) ≤ _) | (with_reducible show (_ : Int) < _) | (with_reducible show (_ : Nat) ≤ _) | (with_reducible show (_ : Nat) < _) | (conv => whnf)
      all_goals (try simp only [Int.toNat_natCast, decide_eq_true_eq, decide_eq_false_iff_not, seq_iff, gN_canon] at *)
      all_goals first | omega | ((with_reducible show idsOk _ _ = true); rfl) | ((with_reducible show Value.int _ _ = Value.int _ _); rw [wI_id _ (by omega) (by omega)]; rfl) | (rw [← ixS_no (fun j hj => k2 j (by omega))]) | (rw [← ixS_at k2 (by omega) (by assumption)]) | (exact absurd (by assumption) (not_step k2 (by assumption) _ ‹_ < i + 1›)) | rfl | trace_state
  · cases h
def FNContains : List Ar → Option Rs
  | [.c (.d (.lst 1 n0 f0)), .c (.d (.v (.string x1)))] => some ⟨(n0 * 16 ≤ 140737488351232 ∧ ∀ i, i < n0 → f0 i = [st (gT (f0 i))]), .va (.c (.d (bo (memS x1 (gN n0 f0))))), []⟩
  | _ => none
set_option maxHeartbeats 1000000 in
set_option maxRecDepth 100000 in
theorem fcNContains : FC Tryd.prog 83 FNContains := by
  intro xs pre r us h hp
  unfold FNContains at h
  split at h
  · rename_i n0 f0 x1
    cases h
    have hp0 := hp
    refine FCat.of_eq (as' := [.c (.d (.lst 1 n0 fun i => [st (gT (f0 i))])), .c (.d (.v (.string x1)))]) ?_ rfl rfl ?_
    · repeat' (first | exact trivial | exact rfl | refine ⟨?_, ?_⟩ | fail)
      all_goals first | exact hp0.2 | exact hp1.2 | exact hp2.2 | (intro i hi; exact (hp0.2 i hi).1) | (intro i hi; exact (hp1.2 i hi).1) | (intro i hi; exact (hp2.2 i hi).1) | grind
    refine fcat tys_ok (l := [(101, ⟨[], FNIndex⟩)]) ⟨fcNIndex, trivial⟩ Tryd.func83 rfl (by kernel_rfl) false ?_
    repeat' (first | exact trivial | refine ⟨?_, ?_⟩ | intro _)
    all_goals first | (with_reducible show (_ : Int) ≤ _) | (with_reducible show (_ : Int) < _) | (with_reducible show (_ : Nat) ≤ _) | (with_reducible show (_ : Nat) < _) | (conv => whnf)
    all_goals first | (rw [gN_canon, ixS_ge]) | omega | rfl | (exact hp0.1) | trace_state
  · cases h
theorem good_letD {s : ByteArray} {i : Nat} (h : bAt s i < 128) : goodB s i = false ↔ (kindB (Utf8.decode s i).1 ≠ 2 ∧ (kindB (Utf8.decode s i).1 ≠ 3 ∨ i = 0)) := by
  rw [decode_lo h]
  unfold goodB kindB
  generalize ((bAt s i : Nat) : Int) = c
  have hx : ¬ ((c = 32 ∨ c = 9 ∨ c = 10 ∨ c = 13) ∧ (letB c = true ∨ digB c = true)) := by unfold letB digB; simp only [Bool.or_eq_true, decide_eq_true_eq]; omega
  cases h1 : letB c <;> cases h2 : digB c <;> simp_all <;> (split <;> simp_all)
theorem kind_hi {c : Int} (h : 128 ≤ c) : kindB c = 0 := by
  unfold kindB letB digB
  simp only [Bool.or_eq_true, decide_eq_true_eq]
  (repeat' split) <;> omega
theorem good_iff (s : ByteArray) (i : Nat) : goodB s i = false ↔ (kindB (Utf8.decode s i).1 ≠ 2 ∧ (kindB (Utf8.decode s i).1 ≠ 3 ∨ i = 0)) := by
  by_cases h : bAt s i < 128
  · exact good_letD h
  · have h1 := decode_hi h
    have h2 := kind_hi (c := (Utf8.decode s i).1) (by omega)
    rw [h2, not_good_hi h]
    simp
theorem good_lo {s : ByteArray} {i : Nat} (h : goodB s i = true) : (Utf8.decode s i).2 = 1 := by
  by_cases h1 : bAt s i < 128
  · rw [decode_lo h1]
  · rw [not_good_hi h1] at h; cases h
theorem plain_end (s : ByteArray) : (!(s.toList == (⟨#[]⟩ : ByteArray).toList)) = decide (s.size ≠ 0) := by
  rw [seq_iff]
  by_cases h : s.size = 0
  · have : s = ⟨#[]⟩ := by
      obtain ⟨a⟩ := s
      have : a = #[] := Array.eq_empty_of_size_eq_zero h
      rw [this]
    rw [decide_eq_true this, decide_eq_false (by omega)]; rfl
  · rw [decide_eq_true h, decide_eq_false]; rfl
    intro e; rw [e] at h; exact h rfl
def FPlain : List Ar → Option Rs
  | [.c (.d (.v (.string x0)))] => some ⟨(x0.size ≤ 9223372036854775807), .va (.c (.d (bo (plainB x0)))), []⟩
  | _ => none
set_option maxHeartbeats 3000000 in
set_option maxRecDepth 100000 in
theorem fcPlain : FC Tryd.prog 65 FPlain := by
  intro xs pre r us h hp
  unfold FPlain at h
  split at h
  · rename_i x0
    cases h
    have hp0 := hp
    refine fcat tys_ok (l := [(82, ⟨[], FKind⟩)]) ⟨fcKind, trivial⟩ Tryd.func65 rfl (by kernel_rfl) true ?_
    repeat' (first | exact trivial | refine ⟨?_, ?_⟩ | intro _)
    all_goals first | (with_reducible show (_ : Int) ≤ _) | (with_reducible show (_ : Int) < _) | (with_reducible show (_ : Nat) ≤ _) | (with_reducible show (_ : Nat) < _) | (conv => whnf)
    refine loop_ok tys_ok (l := [(82, ⟨[], FKind⟩)]) ⟨fcKind, trivial⟩ (by kernel_rfl) (X := Nat)
      (fun i => ⟨[(7, .va (.c (.own 0 0))), (0, vx (.string x0))], [(0, .it x0 i)], 1, 26⟩)
      (fun i => x0.size - i) (fun i => i ≤ x0.size ∧ ∀ j, j < i → goodB x0 j = true) [] []
      (fun i _ _ => i + 1) [0] [0] 0 0 0 ?_ ?_ ?_
    · exact ⟨Nat.zero_le _, fun j h => absurd h (Nat.not_lt_zero j)⟩
    · repeat' (first | exact trivial | exact rfl | (intro _ _; exact rfl) | refine ⟨?_, ?_⟩ | fail)
    · rintro i ⟨k1, k2⟩
      cases hg : goodB x0 i with
      | false =>
        have h0 := (good_iff x0 i).1 hg
        repeat' (first | exact trivial | refine ⟨?_, ?_⟩ | intro _)
        all_goals first | (with_reducible show (_ : Int) ≤ _) | (with_reducible show (_ : Int) < _) | (with_reducible show (_ : Nat) ≤ _) | (with_reducible show (_ : Nat) < _) | (conv => whnf)
        all_goals (try simp only [bne_iff_ne, ne_eq, bne_eq_false_iff_eq, beq_iff_eq, beq_eq_false_iff_ne] at *)
        all_goals first | exact congrArg Value.bool (plain_no ‹i < x0.size› hg).symm | omega | (exact congrArg Value.bool (by rw [plain_yes fun j hj => k2 j (by omega)]; exact (plain_end x0))) | trace_state
      | true =>
        have h0 : ¬ (kindB (Utf8.decode x0 i).1 ≠ 2 ∧ (kindB (Utf8.decode x0 i).1 ≠ 3 ∨ i = 0)) := fun q => by rw [(good_iff x0 i).2 q] at hg; cases hg
        have hw := good_lo hg
        have hn : ∀ j, j < i + 1 → goodB x0 j = true := fun j hj => by
          rcases Nat.lt_or_ge j i with h | h
          · exact k2 j h
          · rw [show j = i by omega]; exact hg
        repeat' (first | exact trivial | refine ⟨?_, ?_⟩ | intro _)
        all_goals first | (with_reducible show (_ : Int) ≤ _) | (with_reducible show (_ : Int) < _) | (with_reducible show (_ : Nat) ≤ _) | (with_reducible show (_ : Nat) < _) | (conv => whnf)
        all_goals (try simp only [bne_iff_ne, ne_eq, bne_eq_false_iff_eq, beq_iff_eq, beq_eq_false_iff_ne] at *)
        all_goals first | omega | rfl | ((with_reducible show idsOk _ _ = true); rfl) | exact hn _ ‹_› | (dsimp only; omega) | (rw [hw]; done) | (dsimp only; rw [hw]; done) | (exact congrArg Value.bool (by rw [plain_yes fun j hj => k2 j (by omega)]; exact (plain_end x0))) | trace_state
  · cases h


end Go.Proofs.YtakcacejpbiogaaDoor
