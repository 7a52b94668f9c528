/- What the functions of the layer of congruences compute. No condition. -/
import Derived.Test.YtbfinmfdcbghfaaWide
namespace Go.Proofs.Ytbfinmfdcbghfaa
set_option linter.all false
open Go.Sx

structure Cg where
  some : Bool
  m : Int
  r : Int
abbrev Cg.ar (c : Cg) : Ar := .agg [.d (bo c.some), .d (it c.m), .d (it c.r)]
def Cg.inR (c : Cg) : Prop := (-9223372036854775808 ≤ c.m ∧ c.m < 9223372036854775808) ∧ -9223372036854775808 ≤ c.r ∧ c.r < 9223372036854775808
def md (n m : Int) : Int := if m ≤ 0 then n else n % m
namespace Cg
def none : Cg := ⟨false, 0, 0⟩
def of (m r : Int) : Cg := if m < 0 then ⟨true, 1, md r 1⟩ else ⟨true, m, md r m⟩
def clean (c : Cg) : Cg := if c.some then of c.m c.r else none
def has (c : Cg) (n : Int) : Bool := c.clean.some && decide (md n c.clean.m = c.clean.r)
def factor (a b : Int) : Bool := if a = 0 then decide (b = 0) else decide (b % a = 0)
def leq (a b : Cg) : Bool := if a.clean.some && b.clean.some then factor b.clean.m a.clean.m && has b.clean a.clean.r else !a.clean.some
def eq (a b : Cg) : Bool := a.some == b.some && (a.m == b.m && a.r == b.r)
end Cg
theorem tmod_fix (n m : Int) (h : 0 < m) : (n.tmod m < 0 → n.tmod m + m = n % m) ∧ (¬ n.tmod m < 0 → n.tmod m = n % m) := by
  have h1 := Int.emod_nonneg n (show m ≠ 0 by omega)
  have h2 := Int.emod_lt_of_pos n h
  have h3 : n.tmod m = n % m - if 0 ≤ n ∨ m ∣ n then 0 else m := by rw [Int.tmod_eq_emod]; split <;> simp <;> omega
  rw [h3]
  split <;> omega
theorem tmod_zero (n m : Int) : n.tmod m = 0 ↔ n % m = 0 := by rw [← Int.dvd_iff_tmod_eq_zero, ← Int.dvd_iff_emod_eq_zero]
theorem md_bound (n m : Int) (h : 0 < m) : 0 ≤ md n m ∧ md n m < m := by
  unfold md; rw [if_neg (by omega)]; exact ⟨Int.emod_nonneg _ (by omega), Int.emod_lt_of_pos _ h⟩
theorem Cg.of_inR (m r : Int) (h0 : -9223372036854775808 ≤ m) (h1 : m < 9223372036854775808) (h2 : -9223372036854775808 ≤ r) (h3 : r < 9223372036854775808) : (Cg.of m r).inR := by
  unfold Cg.of
  by_cases hm : m < 0
  · rw [if_pos hm]
    have := md_bound r 1 (by omega)
    unfold Cg.inR; dsimp only; omega
  · rw [if_neg hm]
    by_cases h0 : m = 0
    · subst h0; unfold Cg.inR md; dsimp only; rw [if_pos (by omega)]; omega
    · have := md_bound r m (by omega)
      unfold Cg.inR; dsimp only; omega
theorem Cg.eta (c : Cg) : (⟨c.some, c.m, c.r⟩ : Cg) = c := rfl
theorem Cg.clean_nn (c : Cg) : 0 ≤ c.clean.m := by
  unfold Cg.clean Cg.of Cg.none
  split
  · split
    · dsimp only; omega
    · dsimp only; omega
  · decide
theorem Cg.clean_inR {c : Cg} (h : c.inR) : c.clean.inR := by
  unfold Cg.clean
  split
  · exact Cg.of_inR _ _ h.1.1 h.1.2 h.2.1 h.2.2
  · unfold Cg.none Cg.inR; decide

def FCMod : List Ar → Option Rs
  | [.c (.d (.v (.int .i64 i0))), .c (.d (.v (.int .i64 i1)))] => some ⟨(-9223372036854775808 ≤ i0 ∧ i0 < 9223372036854775808) ∧ (-9223372036854775808 ≤ i1 ∧ i1 < 9223372036854775808), .va (.c (.d (it (md i0 i1)))), []⟩
  | _ => none
set_option maxHeartbeats 1000000 in
set_option maxRecDepth 100000 in
theorem fcCMod : FC Try.prog 61 FCMod := by
  intro xs pre r us h hp
  unfold FCMod at h
  split at h
  · rename_i i0 i1
    cases h
    obtain ⟨hp0, hp1⟩ := hp
    refine fcat tys_ok (l := []) trivial Try.func61 rfl (by kernel_rfl) false ?_
    repeat' (first | exact trivial | refine ⟨?_, ?_⟩ | intro _)
    all_goals first | (with_reducible show (_ : Int) ≤ _) | (with_reducible show (_ : Int) < _) | (with_reducible show (_ : Nat) ≤ _) | (with_reducible show (_ : Nat) < _) | (conv => whnf)
    all_goals (try simp only [decide_eq_true_eq, decide_eq_false_iff_not] at *)
    all_goals first | omega | (have q := tmod_fix i0 i1 (by omega); have q2 := md_bound i0 i1 (by omega); unfold md at *; rw [if_neg (by omega)] at *; first | (rw [q.2 (by assumption)]) | (rw [wI_id _ (by omega) (by omega), q.1 (by assumption)])) | (unfold md; rw [if_pos (by assumption)])
  · cases h
def FRRest : List Ar → Option Rs
  | [.c (.d (.v (.int .i64 i0))), .c (.d (.v (.int .i64 i1)))] => some ⟨(-9223372036854775808 ≤ i0 ∧ i0 < 9223372036854775808) ∧ (-9223372036854775808 ≤ i1 ∧ i1 < 9223372036854775808) ∧ (0 < i1), .va (.c (.d (it (md i0 i1)))), []⟩
  | _ => none
set_option maxHeartbeats 1000000 in
set_option maxRecDepth 100000 in
theorem fcRRest : FC Try.prog 62 FRRest := by
  intro xs pre r us h hp
  unfold FRRest at h
  split at h
  · rename_i i0 i1
    cases h
    obtain ⟨hp0, hp1, hp2⟩ := hp
    refine fcat tys_ok (l := []) trivial Try.func62 rfl (by kernel_rfl) false ?_
    repeat' (first | exact trivial | refine ⟨?_, ?_⟩ | intro _)
    all_goals first | (with_reducible show (_ : Int) ≤ _) | (with_reducible show (_ : Int) < _) | (with_reducible show (_ : Nat) ≤ _) | (with_reducible show (_ : Nat) < _) | (conv => whnf)
    all_goals (try simp only [decide_eq_true_eq, decide_eq_false_iff_not] at *)
    all_goals first | omega | (have q := tmod_fix i0 i1 (by omega); have q2 := md_bound i0 i1 (by omega); unfold md at *; rw [if_neg (by omega)] at *; first | (rw [q.2 (by assumption)]) | (rw [wI_id _ (by omega) (by omega), q.1 (by assumption)]))
  · cases h
def FCOf : List Ar → Option Rs
  | [.c (.d (.v (.int .i64 i0))), .c (.d (.v (.int .i64 i1)))] => some ⟨(-9223372036854775808 ≤ i0 ∧ i0 < 9223372036854775808) ∧ (-9223372036854775808 ≤ i1 ∧ i1 < 9223372036854775808), .va (Cg.ar (Cg.of i0 i1)), []⟩
  | _ => none
set_option maxHeartbeats 1000000 in
set_option maxRecDepth 100000 in
theorem fcCOf : FC Try.prog 52 FCOf := by
  intro xs pre r us h hp
  unfold FCOf at h
  split at h
  · rename_i i0 i1
    cases h
    obtain ⟨hp0, hp1⟩ := hp
    refine fcat tys_ok (l := [(61, ⟨[], FCMod⟩)]) ⟨fcCMod, trivial⟩ Try.func52 rfl (by kernel_rfl) false ?_
    repeat' (first | exact trivial | refine ⟨?_, ?_⟩ | intro _)
    all_goals first | (with_reducible show (_ : Int) ≤ _) | (with_reducible show (_ : Int) < _) | (with_reducible show (_ : Nat) ≤ _) | (with_reducible show (_ : Nat) < _) | (conv => whnf)
    all_goals grind [Cg.of]
  · cases h
def FCOne : List Ar → Option Rs
  | [.c (.d (.v (.int .i64 i0)))] => some ⟨(-9223372036854775808 ≤ i0 ∧ i0 < 9223372036854775808), .va (Cg.ar (Cg.of 0 i0)), []⟩
  | _ => none
set_option maxHeartbeats 1000000 in
set_option maxRecDepth 100000 in
theorem fcCOne : FC Try.prog 24 FCOne := by
  intro xs pre r us h hp
  unfold FCOne at h
  split at h
  · rename_i i0
    cases h
    have hp0 := hp
    refine fcat tys_ok (l := [(52, ⟨[], FCOf⟩)]) ⟨fcCOf, trivial⟩ Try.func24 rfl (by kernel_rfl) false ?_
    repeat' (first | exact trivial | refine ⟨?_, ?_⟩ | intro _)
    all_goals first | (with_reducible show (_ : Int) ≤ _) | (with_reducible show (_ : Int) < _) | (with_reducible show (_ : Nat) ≤ _) | (with_reducible show (_ : Nat) < _) | (conv => whnf)
    all_goals first | rfl | omega
  · cases h
def FCAll : List Ar → Option Rs
  | [] => some ⟨True, .va (Cg.ar (Cg.of 1 0)), []⟩
  | _ => none
set_option maxHeartbeats 1000000 in
set_option maxRecDepth 100000 in
theorem fcCAll : FC Try.prog 42 FCAll := by
  intro xs pre r us h hp
  unfold FCAll at h
  split at h
  · cases h
    refine fcat tys_ok (l := [(52, ⟨[], FCOf⟩)]) ⟨fcCOf, trivial⟩ Try.func42 rfl (by kernel_rfl) false ?_
    repeat' (first | exact trivial | refine ⟨?_, ?_⟩ | intro _)
    all_goals first | (with_reducible show (_ : Int) ≤ _) | (with_reducible show (_ : Int) < _) | (with_reducible show (_ : Nat) ≤ _) | (with_reducible show (_ : Nat) < _) | (conv => whnf)
    all_goals first | rfl | omega
  · cases h
def FCNone : List Ar → Option Rs
  | [.agg [.d (.v (.bool b0)), .d (.v (.int .i64 m0)), .d (.v (.int .i64 r0))]] => some ⟨(Cg.inR ⟨b0, m0, r0⟩), .va (.c (.d (bo (!b0)))), []⟩
  | _ => none
set_option maxHeartbeats 1000000 in
set_option maxRecDepth 100000 in
theorem fcCNone : FC Try.prog 71 FCNone := by
  intro xs pre r us h hp
  unfold FCNone at h
  split at h
  · rename_i b0 m0 r0
    cases h
    have hp0 := hp
    refine fcat tys_ok (l := []) trivial Try.func71 rfl (by kernel_rfl) false ?_
    repeat' (first | exact trivial | refine ⟨?_, ?_⟩ | intro _)
    all_goals first | (with_reducible show (_ : Int) ≤ _) | (with_reducible show (_ : Int) < _) | (with_reducible show (_ : Nat) ≤ _) | (with_reducible show (_ : Nat) < _) | (conv => whnf)
    all_goals rfl
  · cases h
def FCClean : List Ar → Option Rs
  | [.agg [.d (.v (.bool b0)), .d (.v (.int .i64 m0)), .d (.v (.int .i64 r0))]] => some ⟨(Cg.inR ⟨b0, m0, r0⟩), .va (Cg.ar (Cg.clean (⟨b0, m0, r0⟩ : Cg))), []⟩
  | _ => none
set_option maxHeartbeats 1000000 in
set_option maxRecDepth 100000 in
theorem fcCClean : FC Try.prog 60 FCClean := by
  intro xs pre r us h hp
  unfold FCClean at h
  split at h
  · rename_i b0 m0 r0
    cases h
    have hp0 := hp
    refine fcat tys_ok (l := [(52, ⟨[], FCOf⟩)]) ⟨fcCOf, trivial⟩ Try.func60 rfl (by kernel_rfl) false ?_
    repeat' (first | exact trivial | refine ⟨?_, ?_⟩ | intro _)
    all_goals first | (with_reducible show (_ : Int) ≤ _) | (with_reducible show (_ : Int) < _) | (with_reducible show (_ : Nat) ≤ _) | (with_reducible show (_ : Nat) < _) | (conv => whnf)
    all_goals first | grind [Cg.clean, Cg.none, Cg.inR]
  · cases h
def FCHas : List Ar → Option Rs
  | [.agg [.d (.v (.bool b0)), .d (.v (.int .i64 m0)), .d (.v (.int .i64 r0))], .c (.d (.v (.int .i64 i1)))] => some ⟨(Cg.inR ⟨b0, m0, r0⟩) ∧ (-9223372036854775808 ≤ i1 ∧ i1 < 9223372036854775808), .va (.c (.d (bo (Cg.has (⟨b0, m0, r0⟩ : Cg) i1)))), []⟩
  | _ => none
set_option maxHeartbeats 1000000 in
set_option maxRecDepth 100000 in
theorem fcCHas : FC Try.prog 35 FCHas := by
  intro xs pre r us h hp
  unfold FCHas at h
  split at h
  · rename_i b0 m0 r0 i1
    cases h
    obtain ⟨hp0, hp1⟩ := hp
    refine fcat tys_ok (l := [(60, ⟨[], FCClean⟩), (61, ⟨[], FCMod⟩)]) ⟨fcCClean, fcCMod, trivial⟩ Try.func35 rfl (by kernel_rfl) false ?_
    repeat' (first | exact trivial | refine ⟨?_, ?_⟩ | intro _)
    all_goals first | (with_reducible show (_ : Int) ≤ _) | (with_reducible show (_ : Int) < _) | (with_reducible show (_ : Nat) ≤ _) | (with_reducible show (_ : Nat) < _) | (conv => whnf)
    all_goals first | grind [Cg.has, Cg.inR, Cg.clean_inR] | trace_state
  · cases h
def FCFactor : List Ar → Option Rs
  | [.c (.d (.v (.int .i64 i0))), .c (.d (.v (.int .i64 i1)))] => some ⟨(-9223372036854775808 ≤ i0 ∧ i0 < 9223372036854775808) ∧ (-9223372036854775808 ≤ i1 ∧ i1 < 9223372036854775808), .va (.c (.d (bo (Cg.factor i0 i1)))), []⟩
  | _ => none
set_option maxHeartbeats 1000000 in
set_option maxRecDepth 100000 in
theorem fcCFactor : FC Try.prog 79 FCFactor := by
  intro xs pre r us h hp
  unfold FCFactor at h
  split at h
  · rename_i i0 i1
    cases h
    obtain ⟨hp0, hp1⟩ := hp
    refine fcat tys_ok (l := []) trivial Try.func79 rfl (by kernel_rfl) false ?_
    repeat' (first | exact trivial | refine ⟨?_, ?_⟩ | intro _)
    all_goals first | (with_reducible show (_ : Int) ≤ _) | (with_reducible show (_ : Int) < _) | (with_reducible show (_ : Nat) ≤ _) | (with_reducible show (_ : Nat) < _) | (conv => whnf)
    all_goals first | grind [Cg.factor, tmod_zero] | trace_state
  · cases h
def FCLeq : List Ar → Option Rs
  | [.agg [.d (.v (.bool b0)), .d (.v (.int .i64 m0)), .d (.v (.int .i64 r0))], .agg [.d (.v (.bool b1)), .d (.v (.int .i64 m1)), .d (.v (.int .i64 r1))]] => some ⟨(Cg.inR ⟨b0, m0, r0⟩) ∧ (Cg.inR ⟨b1, m1, r1⟩), .va (.c (.d (bo (Cg.leq (⟨b0, m0, r0⟩ : Cg) (⟨b1, m1, r1⟩ : Cg))))), []⟩
  | _ => none
set_option maxHeartbeats 1000000 in
set_option maxRecDepth 100000 in
theorem fcCLeq : FC Try.prog 64 FCLeq := by
  intro xs pre r us h hp
  unfold FCLeq at h
  split at h
  · rename_i b0 m0 r0 b1 m1 r1
    cases h
    obtain ⟨hp0, hp1⟩ := hp
    refine fcat tys_ok (l := [(60, ⟨[], FCClean⟩), (71, ⟨[], FCNone⟩), (79, ⟨[], FCFactor⟩), (35, ⟨[], FCHas⟩)]) ⟨fcCClean, fcCNone, fcCFactor, fcCHas, trivial⟩ Try.func64 rfl (by kernel_rfl) false ?_
    repeat' (first | exact trivial | refine ⟨?_, ?_⟩ | intro _)
    all_goals first | (with_reducible show (_ : Int) ≤ _) | (with_reducible show (_ : Int) < _) | (with_reducible show (_ : Nat) ≤ _) | (with_reducible show (_ : Nat) < _) | (conv => whnf)
    all_goals (try simp only [Cg.eta] at *)
    all_goals first | grind [Cg.leq, Cg.inR, Cg.clean_inR] | trace_state
  · cases h
def FRCClean : List Ar → Option Rs
  | [.agg [.d (.v (.bool b0)), .d (.v (.int .i64 m0)), .d (.v (.int .i64 r0))]] => some ⟨(Cg.inR ⟨b0, m0, r0⟩), .va (Cg.ar (Cg.clean (⟨b0, m0, r0⟩ : Cg))), []⟩
  | _ => none
set_option maxHeartbeats 1000000 in
set_option maxRecDepth 100000 in
theorem fcRCClean : FC Try.prog 54 FRCClean := by
  intro xs pre r us h hp
  unfold FRCClean at h
  split at h
  · rename_i b0 m0 r0
    cases h
    have hp0 := hp
    refine fcat tys_ok (l := [(62, ⟨[], FRRest⟩)]) ⟨fcRRest, trivial⟩ Try.func54 rfl (by kernel_rfl) false ?_
    repeat' (first | exact trivial | refine ⟨?_, ?_⟩ | intro _)
    all_goals first | (with_reducible show (_ : Int) ≤ _) | (with_reducible show (_ : Int) < _) | (with_reducible show (_ : Nat) ≤ _) | (with_reducible show (_ : Nat) < _) | (conv => whnf)
    all_goals first | grind [Cg.clean, Cg.none, Cg.inR, Cg.of, md] | trace_state
  · cases h
def FRCHas : List Ar → Option Rs
  | [.agg [.d (.v (.bool b0)), .d (.v (.int .i64 m0)), .d (.v (.int .i64 r0))], .c (.d (.v (.int .i64 i1)))] => some ⟨(Cg.inR ⟨b0, m0, r0⟩) ∧ (-9223372036854775808 ≤ i1 ∧ i1 < 9223372036854775808), .va (.c (.d (bo (Cg.has (⟨b0, m0, r0⟩ : Cg) i1)))), []⟩
  | _ => none
set_option maxHeartbeats 1000000 in
set_option maxRecDepth 100000 in
theorem fcRCHas : FC Try.prog 36 FRCHas := by
  intro xs pre r us h hp
  unfold FRCHas at h
  split at h
  · rename_i b0 m0 r0 i1
    cases h
    obtain ⟨hp0, hp1⟩ := hp
    refine fcat tys_ok (l := [(54, ⟨[], FRCClean⟩), (62, ⟨[], FRRest⟩)]) ⟨fcRCClean, fcRRest, trivial⟩ Try.func36 rfl (by kernel_rfl) false ?_
    repeat' (first | exact trivial | refine ⟨?_, ?_⟩ | intro _)
    all_goals first | (with_reducible show (_ : Int) ≤ _) | (with_reducible show (_ : Int) < _) | (with_reducible show (_ : Nat) ≤ _) | (with_reducible show (_ : Nat) < _) | (conv => whnf)
    all_goals first | grind [Cg.has, Cg.inR, Cg.clean_inR, md] | (have q := Cg.clean_nn ⟨b0, m0, r0⟩; simp only [beq_eq_false_iff_ne, ne_eq] at *; omega) | trace_state
  · cases h

end Go.Proofs.Ytbfinmfdcbghfaa
