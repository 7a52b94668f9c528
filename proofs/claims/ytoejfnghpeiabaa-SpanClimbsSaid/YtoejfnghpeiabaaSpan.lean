/- What the functions of the span layer compute, each as a plain function of its arguments. No condition. -/
import Derived.Test.YtoejfnghpeiabaaTys
namespace Go.Proofs.Ytoejfnghpeiabaa
open Go.Sx

abbrev bo (b : Bool) : DV := .v (.bool b)
abbrev it (n : Int) : DV := .v (.int .i64 n)
structure Sp where
  some : Bool
  lo : Int
  hi : Int
abbrev Sp.ar (s : Sp) : Ar := .agg [.d (bo s.some), .d (it s.lo), .d (it s.hi)]
def gI : List DV → Int
  | [.v (.int .i64 n)] => n
  | _ => 0
def gL (n : Nat) (f : Nat → List DV) : List Int := (List.range n).map fun i => gI (f i)

def under (l : List Int) (n : Int) : Int := l.foldl (fun b r => if r ≤ n ∧ b < r then r else b) (-9223372036854775808)
def over (l : List Int) (n : Int) : Int := l.foldl (fun b r => if n ≤ r ∧ r < b then r else b) 9223372036854775807

theorem gL_add (i : Nat) (f : Nat → List DV) : gL (i + 1) f = gL i f ++ [gI (f i)] := by simp [gL, List.range_succ]
theorem gL_canon (n : Nat) (f : Nat → List DV) : (gL n fun i => [it (gI (f i))]) = gL n f := rfl
theorem under_add (i : Nat) (f : Nat → List DV) (n : Int) : under (gL (i + 1) f) n = if gI (f i) ≤ n ∧ under (gL i f) n < gI (f i) then gI (f i) else under (gL i f) n := by simp only [under, gL_add, List.foldl_append, List.foldl_cons, List.foldl_nil]; grind
theorem over_add (i : Nat) (f : Nat → List DV) (n : Int) : over (gL (i + 1) f) n = if n ≤ gI (f i) ∧ gI (f i) < over (gL i f) n then gI (f i) else over (gL i f) n := by simp only [over, gL_add, List.foldl_append, List.foldl_cons, List.foldl_nil]; grind

theorem under_le (l : List Int) (n : Int) (h : -9223372036854775808 ≤ n) : under l n ≤ n := by
  have : ∀ (l : List Int) (b : Int), b ≤ n → l.foldl (fun b r => if r ≤ n ∧ b < r then r else b) b ≤ n := by
    intro l
    induction l with
    | nil => intro b hb; exact hb
    | cons x l ih => intro b hb; simp only [List.foldl_cons]; exact ih _ (by split <;> omega)
  exact this l _ h
theorem over_ge (l : List Int) (n : Int) (h : n ≤ 9223372036854775807) : n ≤ over l n := by
  have : ∀ (l : List Int) (b : Int), n ≤ b → n ≤ l.foldl (fun b r => if n ≤ r ∧ r < b then r else b) b := by
    intro l
    induction l with
    | nil => intro b hb; exact hb
    | cons x l ih => intro b hb; simp only [List.foldl_cons]; exact ih _ (by split <;> omega)
  exact this l _ h

namespace Sp
def none (s : Sp) : Bool := !s.some || decide (s.lo > s.hi)
def has (s : Sp) (n : Int) : Bool := s.some && decide (s.lo ≤ n) && decide (n ≤ s.hi)
def clean (s : Sp) : Sp := if s.none then ⟨false, 0, 0⟩ else s
def leq (a b : Sp) : Bool := a.none || (b.has a.lo && b.has a.hi)
def of (lo hi : Int) : Sp := if lo > hi then ⟨false, 0, 0⟩ else ⟨true, lo, hi⟩
def eq (a b : Sp) : Bool := a.some == b.some && (a.lo == b.lo && a.hi == b.hi)
def same (a b : Sp) : Bool := eq a.clean b.clean
def join (a b : Sp) : Sp := if a.none then b.clean else if b.none then a else of (min a.lo b.lo) (max a.hi b.hi)
def meet (a b : Sp) : Sp := if a.none || b.none then ⟨false, 0, 0⟩ else of (max a.lo b.lo) (min a.hi b.hi)
def narrow (a b : Sp) : Sp := if !leq b a then a.clean else if b.none then ⟨false, 0, 0⟩ else ⟨a.some, if a.lo = -9223372036854775808 then b.lo else a.lo, if a.hi = 9223372036854775807 then b.hi else a.hi⟩
def widen (a b : Sp) (l : List Int) : Sp := if a.none then b.clean else if leq b a then a else ⟨a.some, if b.lo < a.lo then under l b.lo else a.lo, if b.hi > a.hi then over l b.hi else a.hi⟩
theorem leq_join1 (a b : Sp) : leq a (join a b) = true := by grind [leq, join, none, has, clean, of]
theorem leq_join2 (a b : Sp) : leq b (join a b) = true := by grind [leq, join, none, has, clean, of]
theorem meet_leq1 (a b : Sp) : leq (meet a b) a = true := by grind [leq, meet, none, has, clean, of]
theorem meet_leq2 (a b : Sp) : leq (meet a b) b = true := by grind [leq, meet, none, has, clean, of]
theorem join_least (a b c : Sp) : leq a c = true → leq b c = true → leq (join a b) c = true := by grind [leq, join, none, has, clean, of]
theorem meet_greatest (a b c : Sp) : leq c a = true → leq c b = true → leq c (meet a b) = true := by grind [leq, meet, none, has, clean, of]
theorem leq_trans (a b c : Sp) : leq a b = true → leq b c = true → leq a c = true := by grind [leq, none, has]
theorem same_of (a b : Sp) (h1 : leq a b = true) (h2 : leq b a = true) : same a b = true := by grind [same, eq, leq, none, has, clean]
theorem join_comm (a b : Sp) : same (join a b) (join b a) = true := same_of _ _ (join_least _ _ _ (leq_join2 _ _) (leq_join1 _ _)) (join_least _ _ _ (leq_join2 _ _) (leq_join1 _ _))
theorem meet_comm (a b : Sp) : same (meet a b) (meet b a) = true := same_of _ _ (meet_greatest _ _ _ (meet_leq2 _ _) (meet_leq1 _ _)) (meet_greatest _ _ _ (meet_leq2 _ _) (meet_leq1 _ _))
theorem join_assoc (a b c : Sp) : same (join a (join b c)) (join (join a b) c) = true :=
  same_of _ _ (join_least _ _ _ (leq_trans _ _ _ (leq_join1 a b) (leq_join1 _ _)) (join_least _ _ _ (leq_trans _ _ _ (leq_join2 a b) (leq_join1 _ _)) (leq_join2 _ _)))
    (join_least _ _ _ (join_least _ _ _ (leq_join1 _ _) (leq_trans _ _ _ (leq_join1 b c) (leq_join2 _ _))) (leq_trans _ _ _ (leq_join2 b c) (leq_join2 _ _)))
theorem meet_assoc (a b c : Sp) : same (meet a (meet b c)) (meet (meet a b) c) = true :=
  same_of _ _ (meet_greatest _ _ _ (meet_greatest _ _ _ (meet_leq1 _ _) (leq_trans _ _ _ (meet_leq2 _ _) (meet_leq1 _ _))) (leq_trans _ _ _ (meet_leq2 _ _) (meet_leq2 _ _)))
    (meet_greatest _ _ _ (leq_trans _ _ _ (meet_leq1 _ _) (meet_leq1 _ _)) (meet_greatest _ _ _ (leq_trans _ _ _ (meet_leq1 _ _) (meet_leq2 _ _)) (meet_leq2 _ _)))
theorem eta (x : Sp) : (⟨x.some, x.lo, x.hi⟩ : Sp) = x := rfl
end Sp
def FNone : List Ar → Option Rs
  | [.agg [.d (.v (.bool s0)), .d (.v (.int .i64 l0)), .d (.v (.int .i64 h0))]] => some ⟨(True), .va (.c (.d (bo (Sp.none (⟨s0, l0, h0⟩ : Sp))))), []⟩
  | _ => none
theorem cNone : Callable Try.prog 32 := callable_of Try.func32 rfl rfl
set_option maxHeartbeats 2000000 in
set_option maxRecDepth 100000 in
theorem fcNone : FC Try.prog 32 FNone := by
  intro xs pre r us h hp
  unfold FNone at h
  split at h
  · rename_i s0 l0 h0
    cases h
    have hpre := hp
    refine fcat tys_ok (l := []) trivial Try.func32 rfl (by kernel_rfl) false ?_
    repeat' (first | exact trivial | refine ⟨?_, ?_⟩ | intro _)
    all_goals (conv => whnf)
    all_goals simp_all [Sp.none]
  · cases h
def FRNone0 : List Ar → Option Rs
  | [.agg [.d (.v (.bool s0)), .d (.v (.int .i64 l0)), .d (.v (.int .i64 h0))]] => some ⟨(True), .va (.c (.d (bo (Sp.none (⟨s0, l0, h0⟩ : Sp))))), []⟩
  | _ => none
theorem cRNone0 : Callable Try.prog 45 := callable_of Try.func45 rfl rfl
set_option maxHeartbeats 2000000 in
set_option maxRecDepth 100000 in
theorem fcRNone0 : FC Try.prog 45 FRNone0 := by
  intro xs pre r us h hp
  unfold FRNone0 at h
  split at h
  · rename_i s0 l0 h0
    cases h
    have hpre := hp
    refine fcat tys_ok (l := []) trivial Try.func45 rfl (by kernel_rfl) false ?_
    repeat' (first | exact trivial | refine ⟨?_, ?_⟩ | intro _)
    all_goals (conv => whnf)
    all_goals simp_all [Sp.none]
    all_goals grind
  · cases h
def FRNone : List Ar → Option Rs
  | [.agg [.d (.v (.bool s0)), .d (.v (.int .i64 l0)), .d (.v (.int .i64 h0))]] => some ⟨(True), .va (.c (.d (bo (Sp.none (⟨s0, l0, h0⟩ : Sp))))), []⟩
  | _ => none
theorem cRNone : Callable Try.prog 33 := callable_of Try.func33 rfl rfl
set_option maxHeartbeats 2000000 in
set_option maxRecDepth 100000 in
theorem fcRNone : FC Try.prog 33 FRNone := by
  intro xs pre r us h hp
  unfold FRNone at h
  split at h
  · rename_i s0 l0 h0
    cases h
    have hpre := hp
    refine fcat tys_ok (l := [(45, ⟨[], FRNone0⟩)]) ⟨⟨cRNone0, fcRNone0⟩, trivial⟩ Try.func33 rfl (by kernel_rfl) false ?_
    repeat' (first | exact trivial | refine ⟨?_, ?_⟩ | intro _)
    all_goals (conv => whnf)
    all_goals simp_all []
  · cases h
def FHas : List Ar → Option Rs
  | [.agg [.d (.v (.bool s0)), .d (.v (.int .i64 l0)), .d (.v (.int .i64 h0))], .c (.d (.v (.int .i64 i1)))] => some ⟨(True), .va (.c (.d (bo (Sp.has (⟨s0, l0, h0⟩ : Sp) i1)))), []⟩
  | _ => none
theorem cHas : Callable Try.prog 30 := callable_of Try.func30 rfl rfl
set_option maxHeartbeats 2000000 in
set_option maxRecDepth 100000 in
theorem fcHas : FC Try.prog 30 FHas := by
  intro xs pre r us h hp
  unfold FHas at h
  split at h
  · rename_i s0 l0 h0 i1
    cases h
    have hpre := hp
    refine fcat tys_ok (l := []) trivial Try.func30 rfl (by kernel_rfl) false ?_
    repeat' (first | exact trivial | refine ⟨?_, ?_⟩ | intro _)
    all_goals (conv => whnf)
    all_goals simp_all [Sp.has]
    all_goals grind
  · cases h
def FRHas : List Ar → Option Rs
  | [.agg [.d (.v (.bool s0)), .d (.v (.int .i64 l0)), .d (.v (.int .i64 h0))], .c (.d (.v (.int .i64 i1)))] => some ⟨(True), .va (.c (.d (bo (Sp.has (⟨s0, l0, h0⟩ : Sp) i1)))), []⟩
  | _ => none
theorem cRHas : Callable Try.prog 31 := callable_of Try.func31 rfl rfl
set_option maxHeartbeats 2000000 in
set_option maxRecDepth 100000 in
theorem fcRHas : FC Try.prog 31 FRHas := by
  intro xs pre r us h hp
  unfold FRHas at h
  split at h
  · rename_i s0 l0 h0 i1
    cases h
    have hpre := hp
    refine fcat tys_ok (l := [(45, ⟨[], FRNone0⟩)]) ⟨⟨cRNone0, fcRNone0⟩, trivial⟩ Try.func31 rfl (by kernel_rfl) false ?_
    repeat' (first | exact trivial | refine ⟨?_, ?_⟩ | intro _)
    all_goals (conv => whnf)
    all_goals simp_all [Sp.has, Sp.none]
    all_goals grind
  · cases h
def FOf : List Ar → Option Rs
  | [.c (.d (.v (.int .i64 i0))), .c (.d (.v (.int .i64 i1)))] => some ⟨(True), .va (Sp.ar (Sp.of i0 i1)), []⟩
  | _ => none
theorem cOf : Callable Try.prog 21 := callable_of Try.func21 rfl rfl
set_option maxHeartbeats 2000000 in
set_option maxRecDepth 100000 in
theorem fcOf : FC Try.prog 21 FOf := by
  intro xs pre r us h hp
  unfold FOf at h
  split at h
  · rename_i i0 i1
    cases h
    have hpre := hp
    refine fcat tys_ok (l := []) trivial Try.func21 rfl (by kernel_rfl) false ?_
    repeat' (first | exact trivial | refine ⟨?_, ?_⟩ | intro _)
    all_goals (conv => whnf)
    all_goals simp_all [Sp.of]
    all_goals grind
  · cases h
def FMake : List Ar → Option Rs
  | [.c (.d (.v (.int .i64 i0))), .c (.d (.v (.int .i64 i1)))] => some ⟨(True), .va (Sp.ar (Sp.of i0 i1)), []⟩
  | _ => none
theorem cMake : Callable Try.prog 22 := callable_of Try.func22 rfl rfl
set_option maxHeartbeats 2000000 in
set_option maxRecDepth 100000 in
theorem fcMake : FC Try.prog 22 FMake := by
  intro xs pre r us h hp
  unfold FMake at h
  split at h
  · rename_i i0 i1
    cases h
    have hpre := hp
    refine fcat tys_ok (l := [(45, ⟨[], FRNone0⟩)]) ⟨⟨cRNone0, fcRNone0⟩, trivial⟩ Try.func22 rfl (by kernel_rfl) false ?_
    repeat' (first | exact trivial | refine ⟨?_, ?_⟩ | intro _)
    all_goals (conv => whnf)
    all_goals simp_all [Sp.of, Sp.none]
    all_goals grind
  · cases h
def FOne : List Ar → Option Rs
  | [.c (.d (.v (.int .i64 i0)))] => some ⟨(True), .va (Sp.ar (Sp.of i0 i0)), []⟩
  | _ => none
theorem cOne : Callable Try.prog 23 := callable_of Try.func23 rfl rfl
set_option maxHeartbeats 2000000 in
set_option maxRecDepth 100000 in
theorem fcOne : FC Try.prog 23 FOne := by
  intro xs pre r us h hp
  unfold FOne at h
  split at h
  · rename_i i0
    cases h
    have hpre := hp
    refine fcat tys_ok (l := [(21, ⟨[], FOf⟩)]) ⟨⟨cOf, fcOf⟩, trivial⟩ Try.func23 rfl (by kernel_rfl) false ?_
    repeat' (first | exact trivial | refine ⟨?_, ?_⟩ | intro _)
    all_goals (conv => whnf)
    all_goals simp_all []
  · cases h
def FAll : List Ar → Option Rs
  | [] => some ⟨(True), .va (Sp.ar (Sp.of (-9223372036854775808) 9223372036854775807)), []⟩
  | _ => none
theorem cAll : Callable Try.prog 24 := callable_of Try.func24 rfl rfl
set_option maxHeartbeats 2000000 in
set_option maxRecDepth 100000 in
theorem fcAll : FC Try.prog 24 FAll := by
  intro xs pre r us h hp
  unfold FAll at h
  split at h
  · cases h
    have hpre := hp
    refine fcat tys_ok (l := [(21, ⟨[], FOf⟩)]) ⟨⟨cOf, fcOf⟩, trivial⟩ Try.func24 rfl (by kernel_rfl) false ?_
    repeat' (first | exact trivial | refine ⟨?_, ?_⟩ | intro _)
    all_goals (conv => whnf)
    all_goals simp_all []
  · cases h
def FClean : List Ar → Option Rs
  | [.agg [.d (.v (.bool s0)), .d (.v (.int .i64 l0)), .d (.v (.int .i64 h0))]] => some ⟨(True), .va (Sp.ar (Sp.clean (⟨s0, l0, h0⟩ : Sp))), []⟩
  | _ => none
theorem cClean : Callable Try.prog 25 := callable_of Try.func25 rfl rfl
set_option maxHeartbeats 2000000 in
set_option maxRecDepth 100000 in
theorem fcClean : FC Try.prog 25 FClean := by
  intro xs pre r us h hp
  unfold FClean at h
  split at h
  · rename_i s0 l0 h0
    cases h
    have hpre := hp
    refine fcat tys_ok (l := [(32, ⟨[], FNone⟩)]) ⟨⟨cNone, fcNone⟩, trivial⟩ Try.func25 rfl (by kernel_rfl) false ?_
    repeat' (first | exact trivial | refine ⟨?_, ?_⟩ | intro _)
    all_goals (conv => whnf)
    all_goals simp_all [Sp.clean]
  · cases h
def FSame : List Ar → Option Rs
  | [.agg [.d (.v (.bool s0)), .d (.v (.int .i64 l0)), .d (.v (.int .i64 h0))], .agg [.d (.v (.bool s1)), .d (.v (.int .i64 l1)), .d (.v (.int .i64 h1))]] => some ⟨(True), .va (.c (.d (bo (Sp.same (⟨s0, l0, h0⟩ : Sp) (⟨s1, l1, h1⟩ : Sp))))), []⟩
  | _ => none
theorem cSame : Callable Try.prog 35 := callable_of Try.func35 rfl rfl
set_option maxHeartbeats 2000000 in
set_option maxRecDepth 100000 in
theorem fcSame : FC Try.prog 35 FSame := by
  intro xs pre r us h hp
  unfold FSame at h
  split at h
  · rename_i s0 l0 h0 s1 l1 h1
    cases h
    have hpre := hp
    refine fcat tys_ok (l := [(25, ⟨[], FClean⟩)]) ⟨⟨cClean, fcClean⟩, trivial⟩ Try.func35 rfl (by kernel_rfl) false ?_
    repeat' (first | exact trivial | refine ⟨?_, ?_⟩ | intro _)
    all_goals (conv => whnf)
    all_goals simp_all [Sp.same, Sp.eq]
  · cases h
def FLeq : List Ar → Option Rs
  | [.agg [.d (.v (.bool s0)), .d (.v (.int .i64 l0)), .d (.v (.int .i64 h0))], .agg [.d (.v (.bool s1)), .d (.v (.int .i64 l1)), .d (.v (.int .i64 h1))]] => some ⟨(True), .va (.c (.d (bo (Sp.leq (⟨s0, l0, h0⟩ : Sp) (⟨s1, l1, h1⟩ : Sp))))), []⟩
  | _ => none
theorem cLeq : Callable Try.prog 29 := callable_of Try.func29 rfl rfl
set_option maxHeartbeats 2000000 in
set_option maxRecDepth 100000 in
theorem fcLeq : FC Try.prog 29 FLeq := by
  intro xs pre r us h hp
  unfold FLeq at h
  split at h
  · rename_i s0 l0 h0 s1 l1 h1
    cases h
    have hpre := hp
    refine fcat tys_ok (l := [(32, ⟨[], FNone⟩), (30, ⟨[], FHas⟩)]) ⟨⟨cNone, fcNone⟩, ⟨cHas, fcHas⟩, trivial⟩ Try.func29 rfl (by kernel_rfl) false ?_
    repeat' (first | exact trivial | refine ⟨?_, ?_⟩ | intro _)
    all_goals (conv => whnf)
    all_goals simp_all [Sp.leq]
  · cases h
def FRLeq : List Ar → Option Rs
  | [.agg [.d (.v (.bool s0)), .d (.v (.int .i64 l0)), .d (.v (.int .i64 h0))], .agg [.d (.v (.bool s1)), .d (.v (.int .i64 l1)), .d (.v (.int .i64 h1))]] => some ⟨(True), .va (.c (.d (bo (Sp.leq (⟨s0, l0, h0⟩ : Sp) (⟨s1, l1, h1⟩ : Sp))))), []⟩
  | _ => none
theorem cRLeq : Callable Try.prog 34 := callable_of Try.func34 rfl rfl
set_option maxHeartbeats 2000000 in
set_option maxRecDepth 100000 in
theorem fcRLeq : FC Try.prog 34 FRLeq := by
  intro xs pre r us h hp
  unfold FRLeq at h
  split at h
  · rename_i s0 l0 h0 s1 l1 h1
    cases h
    have hpre := hp
    refine fcat tys_ok (l := [(45, ⟨[], FRNone0⟩)]) ⟨⟨cRNone0, fcRNone0⟩, trivial⟩ Try.func34 rfl (by kernel_rfl) false ?_
    repeat' (first | exact trivial | refine ⟨?_, ?_⟩ | intro _)
    all_goals (conv => whnf)
    all_goals simp_all [Sp.leq, Sp.none, Sp.has]
    all_goals grind
  · cases h
def FJoin : List Ar → Option Rs
  | [.agg [.d (.v (.bool s0)), .d (.v (.int .i64 l0)), .d (.v (.int .i64 h0))], .agg [.d (.v (.bool s1)), .d (.v (.int .i64 l1)), .d (.v (.int .i64 h1))]] => some ⟨(True), .va (Sp.ar (Sp.join (⟨s0, l0, h0⟩ : Sp) (⟨s1, l1, h1⟩ : Sp))), []⟩
  | _ => none
theorem cJoin : Callable Try.prog 36 := callable_of Try.func36 rfl rfl
set_option maxHeartbeats 2000000 in
set_option maxRecDepth 100000 in
theorem fcJoin : FC Try.prog 36 FJoin := by
  intro xs pre r us h hp
  unfold FJoin at h
  split at h
  · rename_i s0 l0 h0 s1 l1 h1
    cases h
    have hpre := hp
    refine fcat tys_ok (l := [(32, ⟨[], FNone⟩), (25, ⟨[], FClean⟩), (21, ⟨[], FOf⟩)]) ⟨⟨cNone, fcNone⟩, ⟨cClean, fcClean⟩, ⟨cOf, fcOf⟩, trivial⟩ Try.func36 rfl (by kernel_rfl) false ?_
    repeat' (first | exact trivial | refine ⟨?_, ?_⟩ | intro _)
    all_goals (conv => whnf)
    all_goals simp_all [Sp.join]
    all_goals grind
  · cases h
def FRJoin : List Ar → Option Rs
  | [.agg [.d (.v (.bool s0)), .d (.v (.int .i64 l0)), .d (.v (.int .i64 h0))], .agg [.d (.v (.bool s1)), .d (.v (.int .i64 l1)), .d (.v (.int .i64 h1))]] => some ⟨(True), .va (Sp.ar (Sp.join (⟨s0, l0, h0⟩ : Sp) (⟨s1, l1, h1⟩ : Sp))), []⟩
  | _ => none
theorem cRJoin : Callable Try.prog 26 := callable_of Try.func26 rfl rfl
set_option maxHeartbeats 2000000 in
set_option maxRecDepth 100000 in
theorem fcRJoin : FC Try.prog 26 FRJoin := by
  intro xs pre r us h hp
  unfold FRJoin at h
  split at h
  · rename_i s0 l0 h0 s1 l1 h1
    cases h
    have hpre := hp
    refine fcat tys_ok (l := [(45, ⟨[], FRNone0⟩), (22, ⟨[], FMake⟩)]) ⟨⟨cRNone0, fcRNone0⟩, ⟨cMake, fcMake⟩, trivial⟩ Try.func26 rfl (by kernel_rfl) false ?_
    repeat' (first | exact trivial | refine ⟨?_, ?_⟩ | intro _)
    all_goals (conv => whnf)
    all_goals simp_all [Sp.join, Sp.clean, Sp.none, Sp.of]
    all_goals grind
  · cases h
def FMeet : List Ar → Option Rs
  | [.agg [.d (.v (.bool s0)), .d (.v (.int .i64 l0)), .d (.v (.int .i64 h0))], .agg [.d (.v (.bool s1)), .d (.v (.int .i64 l1)), .d (.v (.int .i64 h1))]] => some ⟨(True), .va (Sp.ar (Sp.meet (⟨s0, l0, h0⟩ : Sp) (⟨s1, l1, h1⟩ : Sp))), []⟩
  | _ => none
theorem cMeet : Callable Try.prog 37 := callable_of Try.func37 rfl rfl
set_option maxHeartbeats 2000000 in
set_option maxRecDepth 100000 in
theorem fcMeet : FC Try.prog 37 FMeet := by
  intro xs pre r us h hp
  unfold FMeet at h
  split at h
  · rename_i s0 l0 h0 s1 l1 h1
    cases h
    have hpre := hp
    refine fcat tys_ok (l := [(32, ⟨[], FNone⟩), (21, ⟨[], FOf⟩)]) ⟨⟨cNone, fcNone⟩, ⟨cOf, fcOf⟩, trivial⟩ Try.func37 rfl (by kernel_rfl) false ?_
    repeat' (first | exact trivial | refine ⟨?_, ?_⟩ | intro _)
    all_goals (conv => whnf)
    all_goals simp_all [Sp.meet]
    all_goals grind
  · cases h
def FRMeet : List Ar → Option Rs
  | [.agg [.d (.v (.bool s0)), .d (.v (.int .i64 l0)), .d (.v (.int .i64 h0))], .agg [.d (.v (.bool s1)), .d (.v (.int .i64 l1)), .d (.v (.int .i64 h1))]] => some ⟨(True), .va (Sp.ar (Sp.meet (⟨s0, l0, h0⟩ : Sp) (⟨s1, l1, h1⟩ : Sp))), []⟩
  | _ => none
theorem cRMeet : Callable Try.prog 38 := callable_of Try.func38 rfl rfl
set_option maxHeartbeats 2000000 in
set_option maxRecDepth 100000 in
theorem fcRMeet : FC Try.prog 38 FRMeet := by
  intro xs pre r us h hp
  unfold FRMeet at h
  split at h
  · rename_i s0 l0 h0 s1 l1 h1
    cases h
    have hpre := hp
    refine fcat tys_ok (l := [(45, ⟨[], FRNone0⟩), (22, ⟨[], FMake⟩)]) ⟨⟨cRNone0, fcRNone0⟩, ⟨cMake, fcMake⟩, trivial⟩ Try.func38 rfl (by kernel_rfl) false ?_
    repeat' (first | exact trivial | refine ⟨?_, ?_⟩ | intro _)
    all_goals (conv => whnf)
    all_goals simp_all [Sp.meet, Sp.none, Sp.of]
    all_goals grind
  · cases h
def FNarrow : List Ar → Option Rs
  | [.agg [.d (.v (.bool s0)), .d (.v (.int .i64 l0)), .d (.v (.int .i64 h0))], .agg [.d (.v (.bool s1)), .d (.v (.int .i64 l1)), .d (.v (.int .i64 h1))]] => some ⟨(True), .va (Sp.ar (Sp.narrow (⟨s0, l0, h0⟩ : Sp) (⟨s1, l1, h1⟩ : Sp))), []⟩
  | _ => none
theorem cNarrow : Callable Try.prog 40 := callable_of Try.func40 rfl rfl
set_option maxHeartbeats 2000000 in
set_option maxRecDepth 100000 in
theorem fcNarrow : FC Try.prog 40 FNarrow := by
  intro xs pre r us h hp
  unfold FNarrow at h
  split at h
  · rename_i s0 l0 h0 s1 l1 h1
    cases h
    have hpre := hp
    refine fcat tys_ok (l := [(29, ⟨[], FLeq⟩), (25, ⟨[], FClean⟩), (32, ⟨[], FNone⟩)]) ⟨⟨cLeq, fcLeq⟩, ⟨cClean, fcClean⟩, ⟨cNone, fcNone⟩, trivial⟩ Try.func40 rfl (by kernel_rfl) false ?_
    repeat' (first | exact trivial | refine ⟨?_, ?_⟩ | intro _)
    all_goals (conv => whnf)
    all_goals simp_all [Sp.narrow]
    all_goals grind
  · cases h
def FRNarrow : List Ar → Option Rs
  | [.agg [.d (.v (.bool s0)), .d (.v (.int .i64 l0)), .d (.v (.int .i64 h0))], .agg [.d (.v (.bool s1)), .d (.v (.int .i64 l1)), .d (.v (.int .i64 h1))]] => some ⟨(True), .va (Sp.ar (Sp.narrow (⟨s0, l0, h0⟩ : Sp) (⟨s1, l1, h1⟩ : Sp))), []⟩
  | _ => none
theorem cRNarrow : Callable Try.prog 41 := callable_of Try.func41 rfl rfl
set_option maxHeartbeats 2000000 in
set_option maxRecDepth 100000 in
theorem fcRNarrow : FC Try.prog 41 FRNarrow := by
  intro xs pre r us h hp
  unfold FRNarrow at h
  split at h
  · rename_i s0 l0 h0 s1 l1 h1
    cases h
    have hpre := hp
    refine fcat tys_ok (l := [(45, ⟨[], FRNone0⟩), (34, ⟨[], FRLeq⟩), (22, ⟨[], FMake⟩)]) ⟨⟨cRNone0, fcRNone0⟩, ⟨cRLeq, fcRLeq⟩, ⟨cMake, fcMake⟩, trivial⟩ Try.func41 rfl (by kernel_rfl) false ?_
    repeat' (first | exact trivial | refine ⟨?_, ?_⟩ | intro _)
    all_goals (conv => whnf)
    all_goals grind [Sp.narrow, Sp.clean, Sp.leq, Sp.has, Sp.none, Sp.of]
  · cases h
def FOver : List Ar → Option Rs
  | [.c (.d (.lst 1 n0 f0)), .c (.d (.v (.int .i64 i1)))] => some ⟨(n0 ≤ 9223372036854775807 ∧ ∀ i, i < n0 → f0 i = [it (gI (f0 i))]), .va (.c (.d (it (over (gL n0 f0) i1)))), []⟩
  | _ => none
theorem cOver : Callable Try.prog 47 := callable_of Try.func47 rfl rfl
set_option maxHeartbeats 2000000 in
set_option maxRecDepth 100000 in
theorem fcOver : FC Try.prog 47 FOver := by
  intro xs pre r us h hp
  unfold FOver at h
  split at h
  · rename_i n0 f0 i1
    cases h
    have hp0 := hp
    refine FCat.of_eq (as' := [.c (.d (.lst 1 n0 fun i => [it (gI (f0 i))])), .c (.d (.v (.int .i64 i1)))]) ?_ rfl rfl ?_
    · repeat' (first | exact trivial | exact rfl | exact hp0.2 | refine ⟨?_, ?_⟩)
      all_goals first | exact hp0.2 | (intro i hi; exact (hp0.2 i hi).1) | (intro i hi; exact hp1.2 i hi) | (intro i hi; exact (hp1.2 i hi).1) | grind
    refine fcat tys_ok (l := []) trivial Try.func47 rfl (by kernel_rfl) false ?_
    repeat' (first | exact trivial | refine ⟨?_, ?_⟩ | intro _)
    all_goals (conv => whnf)
    refine loop_ok tys_ok (l := []) trivial (by kernel_rfl) (X := Nat × Int)
      (fun | (i, b) => ⟨[(10, vx (.int .i64 i)), (9, vx (.int .i64 n0)), (5, vx (.int .i64 b)), (0, .va (.c (.d (.lst 1 n0 fun i => [it (gI (f0 i))])))), (1, vx (.int .i64 i1))], [], 0, 28⟩)
      (fun | (i, _) => n0 - i) (fun | (i, b) => i ≤ n0 ∧ b = over (gL i f0) i1) [5] [] (fun | (i, _), [b], _ => (i + 1, iT b) | x, _, _ => x) [] [] 0 0 (0, 9223372036854775807) ⟨Nat.zero_le _, rfl⟩ ?_ ?_
    · repeat' (first | exact trivial | exact rfl | (intro _ _; exact rfl) | refine ⟨?_, ?_⟩)
    · rintro ⟨i, b⟩ ⟨h1, h2⟩
      repeat' (first | exact trivial | refine ⟨?_, ?_⟩ | intro _)
      all_goals first | (with_reducible show (_ : Int) ≤ _) | (with_reducible show (_ : Int) < _) | (with_reducible show (_ : Nat) ≤ _) | (with_reducible show (_ : Nat) < _) | (conv => whnf)
      all_goals (try simp only [iT, Int.toNat_natCast] at *)
      all_goals first | rfl | (intro _ _; rfl) | grind [over_add, wrap64]
  · cases h
def FUnder : List Ar → Option Rs
  | [.c (.d (.lst 1 n0 f0)), .c (.d (.v (.int .i64 i1)))] => some ⟨(n0 ≤ 9223372036854775807 ∧ ∀ i, i < n0 → f0 i = [it (gI (f0 i))]), .va (.c (.d (it (under (gL n0 f0) i1)))), []⟩
  | _ => none
theorem cUnder : Callable Try.prog 46 := callable_of Try.func46 rfl rfl
set_option maxHeartbeats 2000000 in
set_option maxRecDepth 100000 in
theorem fcUnder : FC Try.prog 46 FUnder := by
  intro xs pre r us h hp
  unfold FUnder at h
  split at h
  · rename_i n0 f0 i1
    cases h
    have hp0 := hp
    refine FCat.of_eq (as' := [.c (.d (.lst 1 n0 fun i => [it (gI (f0 i))])), .c (.d (.v (.int .i64 i1)))]) ?_ rfl rfl ?_
    · repeat' (first | exact trivial | exact rfl | exact hp0.2 | refine ⟨?_, ?_⟩)
      all_goals first | exact hp0.2 | (intro i hi; exact (hp0.2 i hi).1) | (intro i hi; exact hp1.2 i hi) | (intro i hi; exact (hp1.2 i hi).1) | grind
    refine fcat tys_ok (l := []) trivial Try.func46 rfl (by kernel_rfl) false ?_
    repeat' (first | exact trivial | refine ⟨?_, ?_⟩ | intro _)
    all_goals (conv => whnf)
    refine loop_ok tys_ok (l := []) trivial (by kernel_rfl) (X := Nat × Int)
      (fun | (i, b) => ⟨[(10, vx (.int .i64 i)), (9, vx (.int .i64 n0)), (5, vx (.int .i64 b)), (0, .va (.c (.d (.lst 1 n0 fun i => [it (gI (f0 i))])))), (1, vx (.int .i64 i1))], [], 0, 28⟩)
      (fun | (i, _) => n0 - i) (fun | (i, b) => i ≤ n0 ∧ b = under (gL i f0) i1) [5] [] (fun | (i, _), [b], _ => (i + 1, iT b) | x, _, _ => x) [] [] 0 0 (0, -9223372036854775808) ⟨Nat.zero_le _, rfl⟩ ?_ ?_
    · repeat' (first | exact trivial | exact rfl | (intro _ _; exact rfl) | refine ⟨?_, ?_⟩)
    · rintro ⟨i, b⟩ ⟨h1, h2⟩
      repeat' (first | exact trivial | refine ⟨?_, ?_⟩ | intro _)
      all_goals first | (with_reducible show (_ : Int) ≤ _) | (with_reducible show (_ : Int) < _) | (with_reducible show (_ : Nat) ≤ _) | (with_reducible show (_ : Nat) < _) | (conv => whnf)
      all_goals (try simp only [iT, Int.toNat_natCast] at *)
      all_goals first | rfl | (intro _ _; rfl) | grind [under_add, wrap64]
  · cases h
def FWiden : List Ar → Option Rs
  | [.agg [.d (.v (.bool s0)), .d (.v (.int .i64 l0)), .d (.v (.int .i64 h0))], .agg [.d (.v (.bool s1)), .d (.v (.int .i64 l1)), .d (.v (.int .i64 h1))], .c (.d (.lst 1 n2 f2))] => some ⟨(n2 ≤ 9223372036854775807 ∧ ∀ i, i < n2 → f2 i = [it (gI (f2 i))]), .va (Sp.ar (Sp.widen (⟨s0, l0, h0⟩ : Sp) (⟨s1, l1, h1⟩ : Sp) (gL n2 f2))), []⟩
  | _ => none
theorem cWiden : Callable Try.prog 28 := callable_of Try.func28 rfl rfl
set_option maxHeartbeats 2000000 in
set_option maxRecDepth 100000 in
theorem fcWiden : FC Try.prog 28 FWiden := by
  intro xs pre r us h hp
  unfold FWiden at h
  split at h
  · rename_i s0 l0 h0 s1 l1 h1 n2 f2
    cases h
    have hp0 := hp
    refine FCat.of_eq (as' := [.agg [.d (.v (.bool s0)), .d (.v (.int .i64 l0)), .d (.v (.int .i64 h0))], .agg [.d (.v (.bool s1)), .d (.v (.int .i64 l1)), .d (.v (.int .i64 h1))], .c (.d (.lst 1 n2 fun i => [it (gI (f2 i))]))]) ?_ rfl rfl ?_
    · repeat' (first | exact trivial | exact rfl | exact hp0.2 | refine ⟨?_, ?_⟩)
      all_goals first | exact hp0.2 | (intro i hi; exact (hp0.2 i hi).1) | (intro i hi; exact hp1.2 i hi) | (intro i hi; exact (hp1.2 i hi).1) | grind
    refine fcat tys_ok (l := [(32, ⟨[], FNone⟩), (25, ⟨[], FClean⟩), (29, ⟨[], FLeq⟩), (46, ⟨[], FUnder⟩), (47, ⟨[], FOver⟩)]) ⟨⟨cNone, fcNone⟩, ⟨cClean, fcClean⟩, ⟨cLeq, fcLeq⟩, ⟨cUnder, fcUnder⟩, ⟨cOver, fcOver⟩, trivial⟩ Try.func28 rfl (by kernel_rfl) false ?_
    repeat' (first | exact trivial | refine ⟨?_, ?_⟩ | intro _)
    all_goals (conv => whnf)
    all_goals first | rfl | (exact hp0.1) | (intro _ _; rfl) | grind [Sp.widen, Sp.clean, Sp.none, Sp.leq, Sp.has, gL, gI]
  · cases h
def FLives : List Ar → Option Rs
  | [] => some ⟨(True), .va (.c (.d (bo (true)))), []⟩
  | _ => none
theorem cLives : Callable Try.prog 27 := callable_of Try.func27 rfl rfl
set_option maxHeartbeats 2000000 in
set_option maxRecDepth 100000 in
theorem fcLives : FC Try.prog 27 FLives := by
  intro xs pre r us h hp
  unfold FLives at h
  split at h
  · cases h
    have hpre := hp
    refine fcat tys_ok (l := [(21, ⟨[], FOf⟩), (24, ⟨[], FAll⟩), (30, ⟨[], FHas⟩), (23, ⟨[], FOne⟩), (32, ⟨[], FNone⟩), (28, ⟨[], FWiden⟩)]) ⟨⟨cOf, fcOf⟩, ⟨cAll, fcAll⟩, ⟨cHas, fcHas⟩, ⟨cOne, fcOne⟩, ⟨cNone, fcNone⟩, ⟨cWiden, fcWiden⟩, trivial⟩ Try.func27 rfl (by kernel_rfl) false ?_
    repeat' (first | exact trivial | refine ⟨?_, ?_⟩ | intro _)
    all_goals first | (with_reducible show (_ : Int) ≤ _) | (with_reducible show (_ : Int) < _) | (with_reducible show (_ : Nat) ≤ _) | (with_reducible show (_ : Nat) < _) | (conv => whnf)
    all_goals first | rfl | omega | (rename_i i hi; rcases i with _ | _ | i <;> first | rfl | omega) | (rename_i h; exact absurd h (by decide))
  · cases h
end Go.Proofs.Ytoejfnghpeiabaa
