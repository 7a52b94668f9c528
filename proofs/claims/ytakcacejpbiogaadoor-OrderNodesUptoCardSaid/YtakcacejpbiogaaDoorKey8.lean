/- Where a text is no number. No condition. -/
import Derived.Test.YtakcacejpbiogaaDoorKey7
namespace Go.Proofs.YtakcacejpbiogaaDoor
set_option linter.all false
open Go.Sx

def FOddC : List Ar → Option Rs
  | [.c (.d (.v (.int .i32 i0)))] => some ⟨True, .va (.c (.d (bo (!digB i0)))), []⟩
  | _ => none
set_option maxHeartbeats 1000000 in
set_option maxRecDepth 100000 in
theorem fcOddC : FC Tryd.prog 68 FOddC := by
  intro xs pre r us h hp
  unfold FOddC at h
  split at h
  · rename_i i0
    cases h
    refine fcat tys_ok (l := []) trivial Tryd.func68 rfl (by kernel_rfl) false ?_
    repeat' (first | exact trivial | refine ⟨?_, ?_⟩ | intro _)
    all_goals first | (with_reducible show (_ : Int) ≤ _) | (with_reducible show (_ : Int) < _) | (with_reducible show (_ : Nat) ≤ _) | (with_reducible show (_ : Nat) < _) | (conv => whnf)
    all_goals (refine congrArg Value.bool ?_; unfold digB; (try simp only [decide_eq_true_eq, decide_eq_false_iff_not, gt_iff_lt] at *); first | (rw [decide_eq_false (by omega)]; rfl) | (rw [decide_eq_true (by omega)]; rfl) | (rw [decide_eq_false (by omega), decide_eq_true (by omega)]; rfl) | (by_cases hq : 48 ≤ i0 ∧ i0 ≤ 57 <;> simp [hq] <;> omega) | trace_state)
  · cases h
abbrev gOdd : List Cv → Option Gs := mkFv (sums [(68, ⟨[], FOddC⟩)]) 68 []
def oddIx (s : ByteArray) : Int := match (List.range s.size).find? (fun i => !digB (bAt s i)) with
  | some i => i
  | none => -1
theorem dig_dec (s : ByteArray) (i : Nat) : digB (Utf8.decode s i).1 = digB (bAt s i) := by
  by_cases h : bAt s i < 128
  · rw [decode_lo h]
  · have h1 := decode_hi h
    unfold digB
    rw [decide_eq_false (by omega), decide_eq_false (by omega)]
theorem dig_w {s : ByteArray} {i : Nat} (h : digB (bAt s i) = true) : (Utf8.decode s i).2 = 1 := by
  unfold digB at h
  rw [decide_eq_true_eq] at h
  rw [decode_lo (by omega)]
theorem oddIx_at {s : ByteArray} {i : Nat} (hi : i < s.size) (h1 : ∀ j, j < i → digB (bAt s j) = true) (h2 : digB (bAt s i) = false) : oddIx s = i := by
  unfold oddIx
  have : (List.range s.size).find? (fun i => !digB (bAt s i)) = some i := by
    rw [List.find?_range_eq_some]
    exact ⟨by rw [h2]; rfl, List.mem_range.2 hi, fun j hj => by rw [h1 j hj]; rfl⟩
  rw [this]
theorem oddIx_no {s : ByteArray} (h1 : ∀ j, j < s.size → digB (bAt s j) = true) : oddIx s = -1 := by
  unfold oddIx
  have : (List.range s.size).find? (fun i => !digB (bAt s i)) = none := by
    rw [List.find?_eq_none]
    intro j hj
    rw [h1 j (List.mem_range.1 hj)]; simp
  rw [this]
def FIxF : List Ar → Option Rs
  | [.c (.d (.v (.string x0))), .fv g1, .c (.d (.v (.bool b2)))] => some ⟨(x0.size ≤ 9223372036854775807 ∧ g1 = gOdd ∧ b2 = true), .va (.c (.d (it (oddIx x0)))), []⟩
  | _ => none
set_option maxHeartbeats 3000000 in
set_option maxRecDepth 100000 in
theorem fcIxF : FC Tryd.prog 84 FIxF := by
  intro xs pre r us h hp
  unfold FIxF at h
  split at h
  · rename_i x0 g1 b2
    cases h
    have hp0 := hp
    refine fcat tys_ok (l := []) trivial Tryd.func84 rfl (by kernel_rfl) false ?_
    obtain ⟨hsz, rfl, rfl⟩ := hp0
    repeat' (first | exact trivial | refine ⟨?_, ?_⟩ | intro _)
    all_goals first | (with_reducible show (_ : Int) ≤ _) | (with_reducible show (_ : Int) < _) | (with_reducible show (_ : Nat) ≤ _) | (with_reducible show (_ : Nat) < _) | (conv => whnf)
    refine loop_ok tys_ok (l := []) trivial (by kernel_rfl) (X := Nat)
      (fun i => ⟨[(10, .va (.c (.own 0 0))), (0, vx (.string x0)), (1, .va (.c (.fv gOdd))), (2, vx (.bool true))], [(0, .it x0 i)], 1, 21⟩)
      (fun i => x0.size - i) (fun i => i ≤ x0.size ∧ ∀ j, j < i → digB (bAt x0 j) = true) [] []
      (fun i _ _ => i + 1) [0] [0] 0 0 0 ?_ ?_ ?_
    · exact ⟨Nat.zero_le _, fun j h => absurd h (Nat.not_lt_zero j)⟩
    · repeat' (first | exact trivial | exact rfl | (intro _ _; exact rfl) | refine ⟨?_, ?_⟩ | fail)
    · rintro i ⟨k1, k2⟩
      have hdd := dig_dec x0 i
      cases hg : digB (bAt x0 i) with
      | false =>
        rw [hg] at hdd
        have h1 : ((!digB (Utf8.decode x0 i).1) == true) = true := by rw [hdd]; rfl
        repeat' (first | exact trivial | (with_reducible exact (fun h => absurd (h1.symm.trans h) (by decide))) | refine ⟨?_, ?_⟩ | intro _)
        all_goals first | (with_reducible show (_ : Int) ≤ _) | (with_reducible show (_ : Int) < _) | (with_reducible show (_ : Nat) ≤ _) | (with_reducible show (_ : Nat) < _) | (conv => whnf)
        all_goals first | (exact congrArg (Value.int .i64) (oddIx_at ‹_› k2 hg).symm) | (exact congrArg (Value.int .i64) (oddIx_no fun j hj => k2 j (by omega)).symm) | omega | trace_state
      | true =>
        rw [hg] at hdd
        have h1 : ((!digB (Utf8.decode x0 i).1) == true) = false := by rw [hdd]; rfl
        have hw := dig_w hg
        have hn : ∀ j, j < i + 1 → digB (bAt x0 j) = true := fun j hj => by
          rcases Nat.lt_or_ge j i with h | h
          · exact k2 j h
          · rw [show j = i by omega]; exact hg
        repeat' (first | exact trivial | (with_reducible exact (fun h => absurd (h1.symm.trans h) (by decide))) | refine ⟨?_, ?_⟩ | intro _)
        all_goals first | (with_reducible show (_ : Int) ≤ _) | (with_reducible show (_ : Int) < _) | (with_reducible show (_ : Nat) ≤ _) | (with_reducible show (_ : Nat) < _) | (conv => whnf)
        all_goals first | omega | rfl | ((with_reducible show idsOk _ _ = true); rfl) | exact hn _ ‹_› | (dsimp only; omega) | (rw [hw]; done) | (dsimp only; rw [hw]; done) | (exact congrArg (Value.int .i64) (oddIx_no fun j hj => k2 j (by omega)).symm) | trace_state
  · cases h
def FIxFunc : List Ar → Option Rs
  | [.c (.d (.v (.string x0))), .fv g1] => some ⟨(x0.size ≤ 9223372036854775807 ∧ g1 = gOdd), .va (.c (.d (it (oddIx x0)))), []⟩
  | _ => none
set_option maxHeartbeats 1000000 in
set_option maxRecDepth 100000 in
theorem fcIxFunc : FC Tryd.prog 67 FIxFunc := by
  intro xs pre r us h hp
  unfold FIxFunc at h
  split at h
  · rename_i x0 g1
    cases h
    have hp0 := hp
    refine fcat tys_ok (l := [(84, ⟨[], FIxF⟩)]) ⟨fcIxF, trivial⟩ Tryd.func67 rfl (by kernel_rfl) false ?_
    obtain ⟨hsz, rfl⟩ := hp0
    repeat' (first | exact trivial | refine ⟨?_, ?_⟩ | intro _)
    all_goals first | (with_reducible show (_ : Int) ≤ _) | (with_reducible show (_ : Int) < _) | (with_reducible show (_ : Nat) ≤ _) | (with_reducible show (_ : Nat) < _) | (conv => whnf)
    all_goals first | exact hsz | rfl | trace_state
  · cases h

end Go.Proofs.YtakcacejpbiogaaDoor
