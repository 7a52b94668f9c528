/- What the document's own answer for widening computes, no condition. -/
import Derived.Test.YtoejfnghpeiabaaSpan
namespace Go.Proofs.Ytoejfnghpeiabaa
open Go.Sx
abbrev spC (s : Sp) : List DV := [bo s.some, it s.lo, it s.hi]
def gS : List DV → Sp
  | [.v (.bool b), .v (.int .i64 l), .v (.int .i64 h)] => ⟨b, l, h⟩
  | _ => ⟨false, 0, 0⟩
def spB : Blk → Sp
  | .cells [.d (.v (.bool b)), .d (.v (.int .i64 l)), .d (.v (.int .i64 h))] => ⟨b, l, h⟩
  | .cells [.kb b, .d (.v (.int .i64 l)), .d (.v (.int .i64 h))] => ⟨b, l, h⟩
  | _ => ⟨false, 0, 0⟩
namespace Sp
def isC (s : Sp) : Bool := !s.none || eq s ⟨false, 0, 0⟩
def pot (s : Sp) : Int := if s.none then 0 else 1 + (if s.lo = -9223372036854775808 then 1 else 0) + (if s.hi = 9223372036854775807 then 1 else 0)
theorem isC_clean (s : Sp) : isC s.clean = true := by grind [isC, clean, none, eq]
theorem isC_narrow (s b : Sp) (h : isC s = true) : isC (narrow s b) = true := by grind [isC, clean, none, eq, narrow, leq, has]
theorem narrow_leq (s b : Sp) : leq (narrow s b) s = true := by grind [isC, clean, none, eq, narrow, leq, has]
theorem leq_narrow (s b : Sp) (h : leq b s = true) : leq b (narrow s b) = true := by grind [clean, none, eq, narrow, leq, has]
theorem pot_narrow (s b : Sp) (h : isC s = true) (hn : eq (narrow s b) s = false) : pot (narrow s b) + 1 ≤ pot s := by grind [isC, clean, none, eq, narrow, leq, has, pot]
theorem pot_same (s t : Sp) (h : eq t s = true) : pot t = pot s := by grind [eq, pot, none]
theorem pot_le (s : Sp) : 0 ≤ pot s ∧ pot s ≤ 3 := by grind [pot]
end Sp
def cntB (l : List Int) (x : Int) : Int := ((l.filter fun r => decide (r < x)).length : Nat)
def cntA (l : List Int) (x : Int) : Int := ((l.filter fun r => decide (x < r)).length : Nat)
theorem cntB_mono (l : List Int) {x y : Int} (h : x ≤ y) : cntB l x ≤ cntB l y := by
  unfold cntB
  induction l with
  | nil => simp
  | cons r l ih => simp only [List.filter_cons]; split <;> split <;> simp_all <;> omega
theorem cntA_mono (l : List Int) {x y : Int} (h : x ≤ y) : cntA l y ≤ cntA l x := by
  unfold cntA
  induction l with
  | nil => simp
  | cons r l ih => simp only [List.filter_cons]; split <;> split <;> simp_all <;> omega
theorem cntB_lt (l : List Int) {x y : Int} (hm : x ∈ l) (h : x < y) : cntB l x + 1 ≤ cntB l y := by
  induction l with
  | nil => simp at hm
  | cons r l ih =>
    have hmono := cntB_mono l (Int.le_of_lt h)
    simp only [cntB, List.filter_cons] at *
    rcases List.mem_cons.1 hm with rfl | hm
    · have h1 : decide (x < x) = false := by simp
      have h2 : decide (x < y) = true := by simpa using h
      simp only [h1, h2, if_true]; simp; omega
    · have := ih hm
      split <;> split <;> simp_all <;> omega
theorem cntA_lt (l : List Int) {x y : Int} (hm : y ∈ l) (h : x < y) : cntA l y + 1 ≤ cntA l x := by
  induction l with
  | nil => simp at hm
  | cons r l ih =>
    have hmono := cntA_mono l (Int.le_of_lt h)
    simp only [cntA, List.filter_cons] at *
    rcases List.mem_cons.1 hm with rfl | hm
    · have h1 : decide (y < y) = false := by simp
      have h2 : decide (x < y) = true := by simpa using h
      simp only [h1, h2, if_true]; simp; omega
    · have := ih hm
      split <;> split <;> simp_all <;> omega
theorem cntB_le (l : List Int) (x : Int) : 0 ≤ cntB l x ∧ cntB l x ≤ l.length := by
  unfold cntB; have := List.length_filter_le (fun r => decide (r < x)) l; omega
theorem cntA_le (l : List Int) (x : Int) : 0 ≤ cntA l x ∧ cntA l x ≤ l.length := by
  unfold cntA; have := List.length_filter_le (fun r => decide (x < r)) l; omega
theorem under_mem (l : List Int) (n : Int) : under l n = -9223372036854775808 ∨ (under l n ∈ l) := by
  have : ∀ (l : List Int) (b : Int), l.foldl (fun b r => if r ≤ n ∧ b < r then r else b) b = b ∨ l.foldl (fun b r => if r ≤ n ∧ b < r then r else b) b ∈ l := by
    intro l
    induction l with
    | nil => intro b; exact .inl rfl
    | cons x l ih =>
      intro b
      simp only [List.foldl_cons]
      rcases ih (if x ≤ n ∧ b < x then x else b) with h | h
      · rw [h]; split
        · right; simp
        · left; rfl
      · right; simp [h]
  exact this l _
theorem over_mem (l : List Int) (n : Int) : over l n = 9223372036854775807 ∨ (over l n ∈ l) := by
  have : ∀ (l : List Int) (b : Int), l.foldl (fun b r => if n ≤ r ∧ r < b then r else b) b = b ∨ l.foldl (fun b r => if n ≤ r ∧ r < b then r else b) b ∈ l := by
    intro l
    induction l with
    | nil => intro b; exact .inl rfl
    | cons x l ih =>
      intro b
      simp only [List.foldl_cons]
      rcases ih (if n ≤ x ∧ x < b then x else b) with h | h
      · rw [h]; split
        · right; simp
        · left; rfl
      · right; simp [h]
  exact this l _
namespace Sp
def wpot (l : List Int) (s : Sp) : Int := if s.none then 2 * l.length + 3 else cntB l s.lo + (if s.lo = -9223372036854775808 then 0 else 1) + cntA l s.hi + (if s.hi = 9223372036854775807 then 0 else 1)
def inR (s : Sp) : Bool := decide (-9223372036854775808 ≤ s.lo) && decide (s.hi ≤ 9223372036854775807)
theorem wpot_le (l : List Int) (s : Sp) : 0 ≤ wpot l s := by have := cntB_le l s.lo; have := cntA_le l s.hi; grind [wpot]
theorem leq_widen1 (s b : Sp) (l : List Int) (hb : inR b = true) : leq s (widen s b l) = true := by
  have := under_le l b.lo; have := over_ge l b.hi; grind [widen, leq, none, has, clean, inR]
theorem leq_widen2 (s b : Sp) (l : List Int) (hb : inR b = true) : leq b (widen s b l) = true := by
  have := under_le l b.lo; have := over_ge l b.hi; grind [widen, leq, none, has, clean, inR]
theorem isC_widen (s b : Sp) (l : List Int) (h : isC s = true) (hb : inR b = true) : isC (widen s b l) = true := by
  have := under_le l b.lo; have := over_ge l b.hi; grind [widen, leq, none, has, clean, inR, isC, eq]
theorem wpot_widen (s b : Sp) (l : List Int) (h : isC s = true) (hb : inR b = true) (hn : eq (widen s b l) s = false) : wpot l (widen s b l) + 1 ≤ wpot l s := by
  have h1 := under_le l b.lo; have h2 := over_ge l b.hi
  have h3 := under_mem l b.lo; have h4 := over_mem l b.hi
  have h5 := cntB_le l b.lo; have h6 := cntA_le l b.hi
  have h7 : under l b.lo < s.lo → cntB l (under l b.lo) ≤ cntB l s.lo := fun h => cntB_mono l (Int.le_of_lt h)
  have h8 : s.hi < over l b.hi → cntA l (over l b.hi) ≤ cntA l s.hi := fun h => cntA_mono l (Int.le_of_lt h)
  have h9 : under l b.lo ∈ l → under l b.lo < s.lo → cntB l (under l b.lo) + 1 ≤ cntB l s.lo := fun h h' => cntB_lt l h h'
  have h10 : over l b.hi ∈ l → s.hi < over l b.hi → cntA l (over l b.hi) + 1 ≤ cntA l s.hi := fun h h' => cntA_lt l h h'
  grind [widen, leq, none, has, clean, inR, isC, eq, wpot]
theorem wpot_same (l : List Int) (s t : Sp) (h : eq t s = true) : wpot l t = wpot l s := by grind [eq, wpot, none]
end Sp
def FRWiden : List Ar → Option Rs
  | [.agg [.d (.v (.bool s0)), .d (.v (.int .i64 l0)), .d (.v (.int .i64 h0))], .agg [.d (.v (.bool s1)), .d (.v (.int .i64 l1)), .d (.v (.int .i64 h1))], .c (.d (.lst 1 n2 f2))] => some ⟨(n2 ≤ 9223372036854775807 ∧ ∀ i, i < n2 → f2 i = [it (gI (f2 i))]) ∧ (-9223372036854775808 ≤ l1 ∧ h1 ≤ 9223372036854775807), .va (Sp.ar (Sp.widen (⟨s0, l0, h0⟩ : Sp) (⟨s1, l1, h1⟩ : Sp) (gL n2 f2))), []⟩
  | _ => none
theorem cRWiden : Callable Try.prog 39 := callable_of Try.func39 rfl rfl
set_option maxHeartbeats 2000000 in
set_option maxRecDepth 100000 in
theorem fcRWiden : FC Try.prog 39 FRWiden := by
  intro xs pre r us h hp
  unfold FRWiden at h
  split at h
  · rename_i s0 l0 h0 s1 l1 h1 n2 f2
    cases h
    obtain ⟨hp0, hpre⟩ := hp
    refine FCat.of_eq (as' := [.agg [.d (.v (.bool s0)), .d (.v (.int .i64 l0)), .d (.v (.int .i64 h0))], .agg [.d (.v (.bool s1)), .d (.v (.int .i64 l1)), .d (.v (.int .i64 h1))], .c (.d (.lst 1 n2 fun i => [it (gI (f2 i))]))]) ?_ rfl rfl ?_
    · repeat' (first | exact trivial | exact rfl | exact hp0.2 | refine ⟨?_, ?_⟩)
      all_goals first | exact hp0.2 | (intro i hi; exact (hp0.2 i hi).1) | (intro i hi; exact hp1.2 i hi) | (intro i hi; exact (hp1.2 i hi).1) | grind
    refine fcat tys_ok (l := [(45, ⟨[], FRNone0⟩), (34, ⟨[], FRLeq⟩), (22, ⟨[], FMake⟩)]) ⟨⟨cRNone0, fcRNone0⟩, ⟨cRLeq, fcRLeq⟩, ⟨cMake, fcMake⟩, trivial⟩ Try.func39 rfl (by kernel_rfl) false ?_
    repeat' (first | exact trivial | refine ⟨?_, ?_⟩ | intro _)
    all_goals first | (with_reducible show (_ : Int) ≤ _) | (with_reducible show (_ : Int) < _) | (with_reducible show (_ : Nat) ≤ _) | (with_reducible show (_ : Nat) < _) | (conv => whnf)
    all_goals first | (with_reducible show ASat _ _ _ _ _; skip) | rfl | (intro _ _; rfl) | grind (splits := 30) [Sp.widen, Sp.leq, Sp.none, Sp.has, Sp.of, Sp.clean, under_add, over_add, wrap64]
    · refine loop_ok tys_ok (l := [(45, ⟨[], FRNone0⟩), (34, ⟨[], FRLeq⟩), (22, ⟨[], FMake⟩)]) ⟨⟨cRNone0, fcRNone0⟩, ⟨cRLeq, fcRLeq⟩, ⟨cMake, fcMake⟩, trivial⟩ (by kernel_rfl) (X := Nat × Int)
        (fun | (i, b) => ⟨[(9, vx (.int .i64 i)), (7, vx (.int .i64 b)), (8, vx (.int .i64 h0)), (2, .va (.c (.d (.lst 1 n2 fun i => [it (gI (f2 i))])))), (3, .va (.c (.own 0 0))), (4, .va (.c (.own 1 0))), (6, .va (.c (.own 2 0)))], [(0, .cells [.d (bo s0), .d (it l0), .d (it h0)]), (1, .cells [.d (bo s1), .d (it l1), .d (it h1)]), (2, .cells [.d (bo false), .d (it 0), .d (it 0)])], 3, 86⟩)
        (fun | (i, _) => n2 - i) (fun | (i, b) => i ≤ n2 ∧ b = under (gL i f2) l1) [7] [] (fun | (i, _), [b], _ => (i + 1, iT b) | x, _, _ => x) [0, 1, 2] [0, 1, 2] 0 0 (0, -9223372036854775808) ⟨Nat.zero_le _, rfl⟩ ?_ ?_
      · repeat' (first | exact trivial | exact rfl | (intro _ _; exact rfl) | refine ⟨?_, ?_⟩)
      · rintro ⟨i, u⟩ ⟨h1', h2'⟩
        have q1 := under_le (gL i f2) l1 hpre.1
        have q2 : ¬ i < n2 → i = n2 := by omega
        repeat' (first | exact trivial | refine ⟨?_, ?_⟩ | intro _)
        all_goals first | (with_reducible show (_ : Int) ≤ _) | (with_reducible show (_ : Int) < _) | (with_reducible show (_ : Nat) ≤ _) | (with_reducible show (_ : Nat) < _) | (conv => whnf)
        all_goals (try simp only [iT, Int.toNat_natCast] at *)
        all_goals first | (with_reducible show ASat _ _ _ _ _; skip) | rfl | (intro _ _; rfl) | grind (splits := 30) [Sp.widen, Sp.leq, Sp.none, Sp.has, Sp.of, Sp.clean, under_add, over_add, wrap64]
        · refine loop_ok tys_ok (l := [(45, ⟨[], FRNone0⟩), (34, ⟨[], FRLeq⟩), (22, ⟨[], FMake⟩)]) ⟨⟨cRNone0, fcRNone0⟩, ⟨cRLeq, fcRLeq⟩, ⟨cMake, fcMake⟩, trivial⟩ (by kernel_rfl) (X := Nat × Int)
            (fun | (i, b) => ⟨[(10, vx (.int .i64 i)), (7, vx (.int .i64 u)), (8, vx (.int .i64 b)), (2, .va (.c (.d (.lst 1 n2 fun i => [it (gI (f2 i))])))), (3, .va (.c (.own 0 0))), (4, .va (.c (.own 1 0))), (6, .va (.c (.own 2 0)))], [(0, .cells [.d (bo s0), .d (it l0), .d (it h0)]), (1, .cells [.d (bo s1), .d (it l1), .d (it h1)]), (2, .cells [.d (bo false), .d (it 0), .d (it 0)])], 3, 86⟩)
            (fun | (i, _) => n2 - i) (fun | (i, b) => i ≤ n2 ∧ b = over (gL i f2) h1) [8] [] (fun | (i, _), [b], _ => (i + 1, iT b) | x, _, _ => x) [0, 1, 2] [0, 1, 2] 0 0 (0, 9223372036854775807) ⟨Nat.zero_le _, rfl⟩ ?_ ?_
          · repeat' (first | exact trivial | exact rfl | (intro _ _; exact rfl) | refine ⟨?_, ?_⟩)
          · rintro ⟨i, b⟩ ⟨k1, k2⟩
            have q3 := over_ge (gL i f2) h1 hpre.2
            have q4 : ¬ i < n2 → i = n2 := by omega
            have q5 := under_le (gL n2 f2) l1 hpre.1
            repeat' (first | exact trivial | refine ⟨?_, ?_⟩ | intro _)
            all_goals first | (with_reducible show (_ : Int) ≤ _) | (with_reducible show (_ : Int) < _) | (with_reducible show (_ : Nat) ≤ _) | (with_reducible show (_ : Nat) < _) | (conv => whnf)
            all_goals (try simp only [iT, Int.toNat_natCast] at *)
            all_goals first | (with_reducible show ASat _ _ _ _ _; skip) | rfl | (intro _ _; rfl) | grind (splits := 30) [Sp.widen, Sp.leq, Sp.none, Sp.has, Sp.of, Sp.clean, under_add, over_add, wrap64]
    · refine loop_ok tys_ok (l := [(45, ⟨[], FRNone0⟩), (34, ⟨[], FRLeq⟩), (22, ⟨[], FMake⟩)]) ⟨⟨cRNone0, fcRNone0⟩, ⟨cRLeq, fcRLeq⟩, ⟨cMake, fcMake⟩, trivial⟩ (by kernel_rfl) (X := Nat × Int)
        (fun | (i, b) => ⟨[(10, vx (.int .i64 i)), (7, vx (.int .i64 l0)), (8, vx (.int .i64 b)), (2, .va (.c (.d (.lst 1 n2 fun i => [it (gI (f2 i))])))), (3, .va (.c (.own 0 0))), (4, .va (.c (.own 1 0))), (6, .va (.c (.own 2 0)))], [(0, .cells [.d (bo s0), .d (it l0), .d (it h0)]), (1, .cells [.d (bo s1), .d (it l1), .d (it h1)]), (2, .cells [.d (bo false), .d (it 0), .d (it 0)])], 3, 86⟩)
        (fun | (i, _) => n2 - i) (fun | (i, b) => i ≤ n2 ∧ b = over (gL i f2) h1) [8] [] (fun | (i, _), [b], _ => (i + 1, iT b) | x, _, _ => x) [0, 1, 2] [0, 1, 2] 0 0 (0, 9223372036854775807) ⟨Nat.zero_le _, rfl⟩ ?_ ?_
      · repeat' (first | exact trivial | exact rfl | (intro _ _; exact rfl) | refine ⟨?_, ?_⟩)
      · rintro ⟨i, b⟩ ⟨k1, k2⟩
        have q3 := over_ge (gL i f2) h1 hpre.2
        have q4 : ¬ i < n2 → i = n2 := by omega
        have q5 := under_le (gL n2 f2) l1 hpre.1
        repeat' (first | exact trivial | refine ⟨?_, ?_⟩ | intro _)
        all_goals first | (with_reducible show (_ : Int) ≤ _) | (with_reducible show (_ : Int) < _) | (with_reducible show (_ : Nat) ≤ _) | (with_reducible show (_ : Nat) < _) | (conv => whnf)
        all_goals (try simp only [iT, Int.toNat_natCast] at *)
        all_goals first | (with_reducible show ASat _ _ _ _ _; skip) | rfl | (intro _ _; rfl) | grind (splits := 30) [Sp.widen, Sp.leq, Sp.none, Sp.has, Sp.of, Sp.clean, under_add, over_add, wrap64]
  · cases h
end Go.Proofs.Ytoejfnghpeiabaa
