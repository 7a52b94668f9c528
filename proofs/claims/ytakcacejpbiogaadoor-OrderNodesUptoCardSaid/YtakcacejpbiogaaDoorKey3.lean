/- Names. No condition. -/
import Derived.Test.YtakcacejpbiogaaDoorKey2
namespace Go.Proofs.YtakcacejpbiogaaDoor
set_option linter.all false
open Go.Sx

/-! letters, names -/
def bAt (s : ByteArray) (i : Nat) : Nat := (s.get! i).toNat
def letB (c : Int) : Bool := decide (97 ≤ c ∧ c ≤ 122) || decide (65 ≤ c ∧ c ≤ 90) || decide (c = 95)
def digB (c : Int) : Bool := decide (48 ≤ c ∧ c ≤ 57)
def kindB (c : Int) : Int := if c = 32 ∨ c = 9 ∨ c = 10 ∨ c = 13 then 1 else if letB c = true then 2 else if digB c = true then 3 else 0
def goodB (s : ByteArray) (i : Nat) : Bool := letB (bAt s i) || (digB (bAt s i) && decide (i ≠ 0))
def plainB (s : ByteArray) : Bool := decide (s.size ≠ 0) && (List.range s.size).all (goodB s)
theorem decode_lo {s : ByteArray} {i : Nat} (h : bAt s i < 128) : Utf8.decode s i = (bAt s i, 1) := by
  unfold Utf8.decode bAt at *
  simp only [Nat.add_zero]
  rw [if_pos h]
theorem decode_hi {s : ByteArray} {i : Nat} (h : ¬ bAt s i < 128) : 128 ≤ (Utf8.decode s i).1 := by
  unfold Utf8.decode bAt at *
  simp only [Nat.add_zero]
  rw [if_neg h]
  have hr : Utf8.runeError = 65533 := rfl
  (repeat' split) <;> (try simp only [Bool.and_eq_true, decide_eq_true_eq] at *) <;> (try dsimp only) <;> omega
theorem decode_le {s : ByteArray} {i : Nat} : (Utf8.decode s i).1 < 2147483648 := by
  have hb : ∀ k, (s.get! k).toNat < 256 := fun k => (s.get! k).toNat_lt
  have hr : Utf8.runeError = 65533 := rfl
  unfold Utf8.decode
  simp only [Nat.add_zero]
  have h0 := hb i; have h1 := hb (i + 1); have h2 := hb (i + 2); have h3 := hb (i + 3)
  (repeat' split) <;> (try dsimp only) <;> omega
theorem not_good_hi {s : ByteArray} {i : Nat} (h : ¬ bAt s i < 128) : goodB s i = false := by
  unfold goodB letB digB
  simp only [Bool.or_eq_false_iff, Bool.and_eq_false_iff, decide_eq_false_iff_not]
  omega
theorem plain_no {s : ByteArray} {i : Nat} (hi : i < s.size) (h : goodB s i = false) : plainB s = false := by
  unfold plainB
  cases hh : (List.range s.size).all (goodB s) with
  | false => simp
  | true =>
    have := List.all_eq_true.1 hh i (List.mem_range.2 hi)
    rw [h] at this; cases this
theorem plain_yes {s : ByteArray} (h : ∀ i, i < s.size → goodB s i = true) : plainB s = decide (s.size ≠ 0) := by
  unfold plainB
  rw [List.all_eq_true.2 fun i hi => h i (List.mem_range.1 hi), Bool.and_true]
def FKind : List Ar → Option Rs
  | [.c (.d (.v (.int .i32 i0)))] => some ⟨True, .va (.c (.d (it (kindB i0)))), []⟩
  | _ => none
set_option maxHeartbeats 1000000 in
set_option maxRecDepth 100000 in
theorem fcKind : FC Tryd.prog 82 FKind := by
  intro xs pre r us h hp
  unfold FKind at h
  split at h
  · rename_i i0
    cases h
    refine fcat tys_ok (l := []) trivial Tryd.func82 rfl (by kernel_rfl) true ?_
    repeat' (first | exact trivial | refine ⟨?_, ?_⟩ | intro _)
    all_goals first | (with_reducible show (_ : Int) ≤ _) | (with_reducible show (_ : Int) < _) | (with_reducible show (_ : Nat) ≤ _) | (with_reducible show (_ : Nat) < _) | (conv => whnf)
    all_goals (try simp only [beq_iff_eq, beq_eq_false_iff_ne, decide_eq_true_eq, decide_eq_false_iff_not, ge_iff_le] at *)
    all_goals (refine congrArg (Value.int .i64) ?_; unfold kindB letB digB; simp only [Bool.or_eq_true, decide_eq_true_eq])
    all_goals first | ((repeat' split) <;> omega) | trace_state
  · cases h

end Go.Proofs.YtakcacejpbiogaaDoor
