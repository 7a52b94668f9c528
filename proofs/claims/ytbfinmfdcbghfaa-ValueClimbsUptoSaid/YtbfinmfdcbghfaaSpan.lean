/- What the functions of the layer of spans compute. No condition. -/
import Derived.Test.YtbfinmfdcbghfaaWide
namespace Go.Proofs.Ytbfinmfdcbghfaa
set_option linter.all false
open Go.Sx


structure Sp where
  some : Bool
  lo : Int
  hi : Int
abbrev Sp.ar (s : Sp) : Ar := .agg [.d (bo s.some), .d (it s.lo), .d (it s.hi)]
namespace Sp
def none (s : Sp) : Bool := !s.some || decide (s.lo > s.hi)
def has (s : Sp) (n : Int) : Bool := s.some && decide (s.lo ≤ n) && decide (n ≤ s.hi)
def clean (s : Sp) : Sp := if s.none then ⟨false, 0, 0⟩ else s
def leq (a b : Sp) : Bool := a.none || (b.has a.lo && b.has a.hi)
def of (lo hi : Int) : Sp := if lo > hi then ⟨false, 0, 0⟩ else ⟨true, lo, hi⟩
def eq (a b : Sp) : Bool := a.some == b.some && (a.lo == b.lo && a.hi == b.hi)
def same (a b : Sp) : Bool := eq a.clean b.clean
def join (a b : Sp) : Sp := if a.none then b.clean else if b.none then a else of (min a.lo b.lo) (max a.hi b.hi)
def meet (a b : Sp) : Sp := if a.none || b.none then ⟨false, 0, 0⟩ else of (max a.lo b.lo) (min a.hi b.hi)
def narrow (a b : Sp) : Sp := if !leq b a then a.clean else if b.none then ⟨false, 0, 0⟩ else ⟨a.some, if a.lo = -9223372036854775808 then b.lo else a.lo, if a.hi = 9223372036854775807 then b.hi else a.hi⟩
theorem eta (x : Sp) : (⟨x.some, x.lo, x.hi⟩ : Sp) = x := rfl
def inR (s : Sp) : Prop := (-9223372036854775808 ≤ s.lo ∧ s.lo < 9223372036854775808) ∧ -9223372036854775808 ≤ s.hi ∧ s.hi < 9223372036854775808
theorem clean_inR {s : Sp} (h : s.inR) : s.clean.inR := by
  unfold clean; split
  · unfold inR; decide
  · exact h
end Sp

def FSNone : List Ar → Option Rs
  | [.agg [.d (.v (.bool s0)), .d (.v (.int .i64 l0)), .d (.v (.int .i64 h0))]] => some ⟨(Sp.inR ⟨s0, l0, h0⟩), .va (.c (.d (bo (Sp.none (⟨s0, l0, h0⟩ : Sp))))), []⟩
  | _ => none
set_option maxHeartbeats 1000000 in
set_option maxRecDepth 100000 in
theorem fcSNone : FC Try.prog 67 FSNone := by
  intro xs pre r us h hp
  unfold FSNone at h
  split at h
  · rename_i s0 l0 h0
    cases h
    have hp0 := hp
    refine fcat tys_ok (l := []) trivial Try.func67 rfl (by kernel_rfl) false ?_
    repeat' (first | exact trivial | refine ⟨?_, ?_⟩ | intro _)
    all_goals first | (with_reducible show (_ : Int) ≤ _) | (with_reducible show (_ : Int) < _) | (with_reducible show (_ : Nat) ≤ _) | (with_reducible show (_ : Nat) < _) | (conv => whnf)
    all_goals grind [Sp.none, Sp.inR]
  · cases h
def FRSNone0 : List Ar → Option Rs
  | [.agg [.d (.v (.bool s0)), .d (.v (.int .i64 l0)), .d (.v (.int .i64 h0))]] => some ⟨(Sp.inR ⟨s0, l0, h0⟩), .va (.c (.d (bo (Sp.none (⟨s0, l0, h0⟩ : Sp))))), []⟩
  | _ => none
set_option maxHeartbeats 1000000 in
set_option maxRecDepth 100000 in
theorem fcRSNone0 : FC Try.prog 55 FRSNone0 := by
  intro xs pre r us h hp
  unfold FRSNone0 at h
  split at h
  · rename_i s0 l0 h0
    cases h
    have hp0 := hp
    refine fcat tys_ok (l := []) trivial Try.func55 rfl (by kernel_rfl) false ?_
    repeat' (first | exact trivial | refine ⟨?_, ?_⟩ | intro _)
    all_goals first | (with_reducible show (_ : Int) ≤ _) | (with_reducible show (_ : Int) < _) | (with_reducible show (_ : Nat) ≤ _) | (with_reducible show (_ : Nat) < _) | (conv => whnf)
    all_goals grind [Sp.none, Sp.inR]
  · cases h
def FSHas : List Ar → Option Rs
  | [.agg [.d (.v (.bool s0)), .d (.v (.int .i64 l0)), .d (.v (.int .i64 h0))], .c (.d (.v (.int .i64 i1)))] => some ⟨(Sp.inR ⟨s0, l0, h0⟩) ∧ (-9223372036854775808 ≤ i1 ∧ i1 < 9223372036854775808), .va (.c (.d (bo (Sp.has (⟨s0, l0, h0⟩ : Sp) i1)))), []⟩
  | _ => none
set_option maxHeartbeats 1000000 in
set_option maxRecDepth 100000 in
theorem fcSHas : FC Try.prog 34 FSHas := by
  intro xs pre r us h hp
  unfold FSHas at h
  split at h
  · rename_i s0 l0 h0 i1
    cases h
    obtain ⟨hp0, hp1⟩ := hp
    refine fcat tys_ok (l := []) trivial Try.func34 rfl (by kernel_rfl) false ?_
    repeat' (first | exact trivial | refine ⟨?_, ?_⟩ | intro _)
    all_goals first | (with_reducible show (_ : Int) ≤ _) | (with_reducible show (_ : Int) < _) | (with_reducible show (_ : Nat) ≤ _) | (with_reducible show (_ : Nat) < _) | (conv => whnf)
    all_goals grind [Sp.has, Sp.inR]
  · cases h
def FRSHas : List Ar → Option Rs
  | [.agg [.d (.v (.bool s0)), .d (.v (.int .i64 l0)), .d (.v (.int .i64 h0))], .c (.d (.v (.int .i64 i1)))] => some ⟨(Sp.inR ⟨s0, l0, h0⟩) ∧ (-9223372036854775808 ≤ i1 ∧ i1 < 9223372036854775808), .va (.c (.d (bo (Sp.has (⟨s0, l0, h0⟩ : Sp) i1)))), []⟩
  | _ => none
set_option maxHeartbeats 1000000 in
set_option maxRecDepth 100000 in
theorem fcRSHas : FC Try.prog 27 FRSHas := by
  intro xs pre r us h hp
  unfold FRSHas at h
  split at h
  · rename_i s0 l0 h0 i1
    cases h
    obtain ⟨hp0, hp1⟩ := hp
    refine fcat tys_ok (l := [(55, ⟨[], FRSNone0⟩)]) ⟨fcRSNone0, trivial⟩ Try.func27 rfl (by kernel_rfl) false ?_
    repeat' (first | exact trivial | refine ⟨?_, ?_⟩ | intro _)
    all_goals first | (with_reducible show (_ : Int) ≤ _) | (with_reducible show (_ : Int) < _) | (with_reducible show (_ : Nat) ≤ _) | (with_reducible show (_ : Nat) < _) | (conv => whnf)
    all_goals grind [Sp.has, Sp.none, Sp.inR]
  · cases h
def FSOf : List Ar → Option Rs
  | [.c (.d (.v (.int .i64 i0))), .c (.d (.v (.int .i64 i1)))] => some ⟨(-9223372036854775808 ≤ i0 ∧ i0 < 9223372036854775808) ∧ (-9223372036854775808 ≤ i1 ∧ i1 < 9223372036854775808), .va (Sp.ar (Sp.of i0 i1)), []⟩
  | _ => none
set_option maxHeartbeats 1000000 in
set_option maxRecDepth 100000 in
theorem fcSOf : FC Try.prog 51 FSOf := by
  intro xs pre r us h hp
  unfold FSOf at h
  split at h
  · rename_i i0 i1
    cases h
    obtain ⟨hp0, hp1⟩ := hp
    refine fcat tys_ok (l := []) trivial Try.func51 rfl (by kernel_rfl) false ?_
    repeat' (first | exact trivial | refine ⟨?_, ?_⟩ | intro _)
    all_goals first | (with_reducible show (_ : Int) ≤ _) | (with_reducible show (_ : Int) < _) | (with_reducible show (_ : Nat) ≤ _) | (with_reducible show (_ : Nat) < _) | (conv => whnf)
    all_goals grind [Sp.of]
  · cases h
def FSMake : List Ar → Option Rs
  | [.c (.d (.v (.int .i64 i0))), .c (.d (.v (.int .i64 i1)))] => some ⟨(-9223372036854775808 ≤ i0 ∧ i0 < 9223372036854775808) ∧ (-9223372036854775808 ≤ i1 ∧ i1 < 9223372036854775808), .va (Sp.ar (Sp.of i0 i1)), []⟩
  | _ => none
set_option maxHeartbeats 1000000 in
set_option maxRecDepth 100000 in
theorem fcSMake : FC Try.prog 33 FSMake := by
  intro xs pre r us h hp
  unfold FSMake at h
  split at h
  · rename_i i0 i1
    cases h
    obtain ⟨hp0, hp1⟩ := hp
    refine fcat tys_ok (l := [(55, ⟨[], FRSNone0⟩)]) ⟨fcRSNone0, trivial⟩ Try.func33 rfl (by kernel_rfl) false ?_
    repeat' (first | exact trivial | refine ⟨?_, ?_⟩ | intro _)
    all_goals first | (with_reducible show (_ : Int) ≤ _) | (with_reducible show (_ : Int) < _) | (with_reducible show (_ : Nat) ≤ _) | (with_reducible show (_ : Nat) < _) | (conv => whnf)
    all_goals grind [Sp.of, Sp.none, Sp.inR]
  · cases h
def FSOne : List Ar → Option Rs
  | [.c (.d (.v (.int .i64 i0)))] => some ⟨(-9223372036854775808 ≤ i0 ∧ i0 < 9223372036854775808), .va (Sp.ar (Sp.of i0 i0)), []⟩
  | _ => none
set_option maxHeartbeats 1000000 in
set_option maxRecDepth 100000 in
theorem fcSOne : FC Try.prog 23 FSOne := by
  intro xs pre r us h hp
  unfold FSOne at h
  split at h
  · rename_i i0
    cases h
    have hp0 := hp
    refine fcat tys_ok (l := [(51, ⟨[], FSOf⟩)]) ⟨fcSOf, trivial⟩ Try.func23 rfl (by kernel_rfl) false ?_
    repeat' (first | exact trivial | refine ⟨?_, ?_⟩ | intro _)
    all_goals first | (with_reducible show (_ : Int) ≤ _) | (with_reducible show (_ : Int) < _) | (with_reducible show (_ : Nat) ≤ _) | (with_reducible show (_ : Nat) < _) | (conv => whnf)
    all_goals first | rfl | omega
  · cases h
def FSAll : List Ar → Option Rs
  | [] => some ⟨True, .va (Sp.ar (Sp.of (-9223372036854775808) 9223372036854775807)), []⟩
  | _ => none
set_option maxHeartbeats 1000000 in
set_option maxRecDepth 100000 in
theorem fcSAll : FC Try.prog 41 FSAll := by
  intro xs pre r us h hp
  unfold FSAll at h
  split at h
  · cases h
    refine fcat tys_ok (l := [(51, ⟨[], FSOf⟩)]) ⟨fcSOf, trivial⟩ Try.func41 rfl (by kernel_rfl) false ?_
    repeat' (first | exact trivial | refine ⟨?_, ?_⟩ | intro _)
    all_goals first | (with_reducible show (_ : Int) ≤ _) | (with_reducible show (_ : Int) < _) | (with_reducible show (_ : Nat) ≤ _) | (with_reducible show (_ : Nat) < _) | (conv => whnf)
    all_goals first | rfl | omega
  · cases h
def FSClean : List Ar → Option Rs
  | [.agg [.d (.v (.bool s0)), .d (.v (.int .i64 l0)), .d (.v (.int .i64 h0))]] => some ⟨(Sp.inR ⟨s0, l0, h0⟩), .va (Sp.ar (Sp.clean (⟨s0, l0, h0⟩ : Sp))), []⟩
  | _ => none
set_option maxHeartbeats 1000000 in
set_option maxRecDepth 100000 in
theorem fcSClean : FC Try.prog 68 FSClean := by
  intro xs pre r us h hp
  unfold FSClean at h
  split at h
  · rename_i s0 l0 h0
    cases h
    have hp0 := hp
    refine fcat tys_ok (l := [(67, ⟨[], FSNone⟩)]) ⟨fcSNone, trivial⟩ Try.func68 rfl (by kernel_rfl) false ?_
    repeat' (first | exact trivial | refine ⟨?_, ?_⟩ | intro _)
    all_goals first | (with_reducible show (_ : Int) ≤ _) | (with_reducible show (_ : Int) < _) | (with_reducible show (_ : Nat) ≤ _) | (with_reducible show (_ : Nat) < _) | (conv => whnf)
    all_goals grind [Sp.clean, Sp.inR]
  · cases h
def FSLeq : List Ar → Option Rs
  | [.agg [.d (.v (.bool s0)), .d (.v (.int .i64 l0)), .d (.v (.int .i64 h0))], .agg [.d (.v (.bool s1)), .d (.v (.int .i64 l1)), .d (.v (.int .i64 h1))]] => some ⟨(Sp.inR ⟨s0, l0, h0⟩) ∧ (Sp.inR ⟨s1, l1, h1⟩), .va (.c (.d (bo (Sp.leq (⟨s0, l0, h0⟩ : Sp) (⟨s1, l1, h1⟩ : Sp))))), []⟩
  | _ => none
set_option maxHeartbeats 1000000 in
set_option maxRecDepth 100000 in
theorem fcSLeq : FC Try.prog 63 FSLeq := by
  intro xs pre r us h hp
  unfold FSLeq at h
  split at h
  · rename_i s0 l0 h0 s1 l1 h1
    cases h
    obtain ⟨hp0, hp1⟩ := hp
    refine fcat tys_ok (l := [(67, ⟨[], FSNone⟩), (34, ⟨[], FSHas⟩)]) ⟨fcSNone, fcSHas, trivial⟩ Try.func63 rfl (by kernel_rfl) false ?_
    repeat' (first | exact trivial | refine ⟨?_, ?_⟩ | intro _)
    all_goals first | (with_reducible show (_ : Int) ≤ _) | (with_reducible show (_ : Int) < _) | (with_reducible show (_ : Nat) ≤ _) | (with_reducible show (_ : Nat) < _) | (conv => whnf)
    all_goals grind [Sp.leq, Sp.inR]
  · cases h
def FRSJoin : List Ar → Option Rs
  | [.agg [.d (.v (.bool s0)), .d (.v (.int .i64 l0)), .d (.v (.int .i64 h0))], .agg [.d (.v (.bool s1)), .d (.v (.int .i64 l1)), .d (.v (.int .i64 h1))]] => some ⟨(Sp.inR ⟨s0, l0, h0⟩) ∧ (Sp.inR ⟨s1, l1, h1⟩), .va (Sp.ar (Sp.join (⟨s0, l0, h0⟩ : Sp) (⟨s1, l1, h1⟩ : Sp))), []⟩
  | _ => none
set_option maxHeartbeats 1000000 in
set_option maxRecDepth 100000 in
theorem fcRSJoin : FC Try.prog 53 FRSJoin := by
  intro xs pre r us h hp
  unfold FRSJoin at h
  split at h
  · rename_i s0 l0 h0 s1 l1 h1
    cases h
    obtain ⟨hp0, hp1⟩ := hp
    refine fcat tys_ok (l := [(55, ⟨[], FRSNone0⟩), (33, ⟨[], FSMake⟩)]) ⟨fcRSNone0, fcSMake, trivial⟩ Try.func53 rfl (by kernel_rfl) false ?_
    repeat' (first | exact trivial | refine ⟨?_, ?_⟩ | intro _)
    all_goals first | (with_reducible show (_ : Int) ≤ _) | (with_reducible show (_ : Int) < _) | (with_reducible show (_ : Nat) ≤ _) | (with_reducible show (_ : Nat) < _) | (conv => whnf)
    all_goals grind [Sp.join, Sp.clean, Sp.none, Sp.of, Sp.inR]
  · cases h

end Go.Proofs.Ytbfinmfdcbghfaa
