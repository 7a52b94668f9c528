/- What the functions of the wide layer compute. No condition. -/
import Derived.Test.YtbfinmfdcbghfaaTys
import Derived.Laws.Externs
namespace Go.Proofs.Ytbfinmfdcbghfaa
set_option linter.all false
open Go.Sx

abbrev bo (b : Bool) : DV := .v (.bool b)
abbrev it (n : Int) : DV := .v (.int .i64 n)
abbrev ut (n : Int) : DV := .v (.int .u64 n)
structure Wd where
  hi : Int
  lo : Int
abbrev Wd.ar (w : Wd) : Ar := .agg [.d (it w.hi), .d (ut w.lo)]
def Wd.val (w : Wd) : Int := w.hi * 18446744073709551616 + w.lo
def Wd.ok (w : Wd) : Prop := (-9223372036854775808 ≤ w.hi ∧ w.hi < 9223372036854775808) ∧ 0 ≤ w.lo ∧ w.lo < 18446744073709551616
/-- a whole number, as it is modulo 2^128 -/
def wd (v : Int) : Wd := ⟨(v / 18446744073709551616 + 9223372036854775808) % 18446744073709551616 - 9223372036854775808, v % 18446744073709551616⟩
theorem wd_ok (v : Int) : (wd v).ok := by unfold Wd.ok wd; dsimp only; omega
theorem wd_val {v : Int} (h0 : -170141183460469231731687303715884105728 ≤ v) (h1 : v < 170141183460469231731687303715884105728) : (wd v).val = v := by unfold Wd.val wd; dsimp only; omega
theorem wd_of {w : Wd} (h : w.ok) : wd w.val = w := by
  obtain ⟨hi, lo⟩ := w
  unfold Wd.ok at h
  unfold wd Wd.val
  dsimp only at h ⊢
  congr 1 <;> omega
theorem wU (n : Int) : IntKind.wrap .u64 n = n % 18446744073709551616 := by simp [IntKind.wrap, IntKind.signed, IntKind.bits]
theorem wI (n : Int) : IntKind.wrap .i64 n = (n + 9223372036854775808) % 18446744073709551616 - 9223372036854775808 := by
  simp [IntKind.wrap, IntKind.signed, IntKind.bits]
  split <;> omega
theorem wI_id (n : Int) (h0 : -9223372036854775808 ≤ n) (h1 : n < 9223372036854775808) : IntKind.wrap .i64 n = n := by rw [wI]; omega
theorem wU_id (n : Int) (h0 : 0 ≤ n) (h1 : n < 18446744073709551616) : IntKind.wrap .u64 n = n := by rw [wU]; omega
def wIntV (v : Int) : Int := if -9223372036854775808 ≤ v ∧ v < 9223372036854775808 then v else 0
def wIntB (v : Int) : Bool := decide (-9223372036854775808 ≤ v ∧ v < 9223372036854775808)

def FAdd64 : List Ar → Option Rs
  | [.c (.d (.v (.int .u64 x))), .c (.d (.v (.int .u64 y))), .c (.d (.v (.int .u64 c)))] => some ⟨(0 ≤ x ∧ 0 ≤ y) ∧ 0 ≤ c ∧ c ≤ 1, .tup [.c (.d (ut ((x + y + c) % 18446744073709551616))), .c (.d (ut ((x + y + c) / 18446744073709551616)))], []⟩
  | _ => none
theorem fcAdd64 : FC Try.prog 90 FAdd64 := by
  refine fc_stand fun xs pre r us h hp => ?_
  unfold FAdd64 at h
  split at h
  · rename_i x y c
    cases h
    refine ⟨[.int .u64 x, .int .u64 y, .int .u64 c], .tuple #[.int .u64 ((x + y + c) % 18446744073709551616), .int .u64 ((x + y + c) / 18446744073709551616)], rfl, rfl, fun w => ?_, fun S w => ⟨_, rfl, [], [], rfl, ⟨.v trivial, trivial⟩, [], [], rfl, ⟨.v trivial, trivial⟩, rfl⟩⟩
    rw [run_callFunc_extern Try.func90 (by kernel_rfl) (by kernel_rfl) (by kernel_rfl) (e := add64Entry) (by kernel_rfl), run_add64 x y c hp.1.1 hp.1.2 hp.2.1 hp.2.2]
    rfl
  · cases h
def FSub64 : List Ar → Option Rs
  | [.c (.d (.v (.int .u64 x))), .c (.d (.v (.int .u64 y))), .c (.d (.v (.int .u64 c)))] => some ⟨((0 ≤ x ∧ x < 18446744073709551616) ∧ 0 ≤ y ∧ y < 18446744073709551616) ∧ 0 ≤ c ∧ c ≤ 1, .tup [.c (.d (ut ((x - y - c) % 18446744073709551616))), .c (.d (ut (if x < y + c then 1 else 0)))], []⟩
  | _ => none
theorem run_sub (x y b : Nat) (hb : b ≤ 1) (w : World) : ((Extern.MathBitsCarry.rows[1]'(by decide)).2 #[.int .u64 x, .int .u64 y, .int .u64 b]).run Try.prog w =
    .ok (.tuple #[.int .u64 (((x + Extern.MathBitsCarry.m64 - y - b) % Extern.MathBitsCarry.m64 : Nat) : Int), .int .u64 ((if x < y + b then 1 else 0 : Nat) : Int)]) w := by
  have : b = 0 ∨ b = 1 := by omega
  rcases this with rfl | rfl <;> rfl
theorem fcSub64 : FC Try.prog 91 FSub64 := by
  refine fc_stand fun xs pre r us h hp => ?_
  unfold FSub64 at h
  split at h
  · rename_i x y c
    cases h
    refine ⟨[.int .u64 x, .int .u64 y, .int .u64 c], .tuple #[.int .u64 ((x - y - c) % 18446744073709551616), .int .u64 (if x < y + c then 1 else 0)], rfl, rfl, fun w => ?_, fun S w => ⟨_, rfl, [], [], rfl, ⟨.v trivial, trivial⟩, [], [], rfl, ⟨.v trivial, trivial⟩, rfl⟩⟩
    obtain ⟨x, rfl⟩ := Int.eq_ofNat_of_zero_le hp.1.1.1
    obtain ⟨y, rfl⟩ := Int.eq_ofNat_of_zero_le hp.1.2.1
    obtain ⟨c, rfl⟩ := Int.eq_ofNat_of_zero_le hp.2.1
    rw [run_callFunc_extern Try.func91 (by kernel_rfl) (by kernel_rfl) (by kernel_rfl) (e := (Extern.MathBitsCarry.rows[1]'(by decide)).2) (by kernel_rfl)]
    have := run_sub x y c (by have := hp.2.2; omega) w
    rw [this]
    simp only [Result.andThen_ok, Extern.MathBitsCarry.m64]
    have h1 := hp.1.1.2
    have h2 := hp.1.2.2
    have h3 := hp.2.2
    have e1 : (((x + 2 ^ 64 - y - c) % 2 ^ 64 : Nat) : Int) = ((x : Int) - y - c) % 18446744073709551616 := by omega
    have e2 : ((if x < y + c then 1 else 0 : Nat) : Int) = if (x : Int) < (y : Int) + (c : Int) then 1 else 0 := by split <;> split <;> omega
    rw [e1, e2]
  · cases h

theorem shr63 (n : Int) : n.fdiv (2 ^ min (Int.toNat 63) IntKind.i64.bits) = n / 9223372036854775808 := by
  have e : (2 ^ min (Int.toNat 63) IntKind.i64.bits : Int) = 9223372036854775808 := by decide
  rw [e, Int.fdiv_eq_ediv_of_nonneg _ (by decide)]

def FWOf : List Ar → Option Rs
  | [.c (.d (.v (.int .i64 i0)))] => some ⟨(-9223372036854775808 ≤ i0 ∧ i0 < 9223372036854775808), .va (Wd.ar (wd i0)), []⟩
  | _ => none
set_option maxHeartbeats 1000000 in
set_option maxRecDepth 100000 in
theorem fcWOf : FC Try.prog 77 FWOf := by
  intro xs pre r us h hp
  unfold FWOf at h
  split at h
  · rename_i i0
    cases h
    have hp0 := hp
    refine fcat tys_ok (l := []) trivial Try.func77 rfl (by kernel_rfl) false ?_
    repeat' (first | exact trivial | refine ⟨?_, ?_⟩ | intro _)
    all_goals first | (with_reducible show (_ : Int) ≤ _) | (with_reducible show (_ : Int) < _) | (with_reducible show (_ : Nat) ≤ _) | (with_reducible show (_ : Nat) < _) | (conv => whnf)
    all_goals (try (refine congrArg Value.bool (Bool.eq_iff_iff.2 ?_)); try simp only [Bool.not_eq_true', Bool.not_eq_false', Bool.and_eq_true, Bool.or_eq_true, Bool.and_eq_false_imp, Bool.or_eq_false_iff, beq_iff_eq, beq_eq_false_iff_ne, ne_eq, decide_eq_true_eq, decide_eq_false_iff_not, Bool.true_eq_false, Bool.false_eq_true, true_and, and_true, false_and, and_false, imp_false, Value.int.injEq, true_iff, false_iff, iff_true, iff_false, iff_self])
    all_goals (try simp only [wU, wI, shr63, wd, Wd.val, Wd.ok, Bool.not_eq_true', Bool.not_eq_false', Bool.and_eq_true, Bool.or_eq_true, Bool.and_eq_false_imp, Bool.or_eq_false_iff, beq_iff_eq, beq_eq_false_iff_ne, ne_eq, decide_eq_true_eq, decide_eq_false_iff_not, Bool.true_eq_false, Bool.false_eq_true, true_and, and_true, false_and, and_false, imp_false, Value.int.injEq] at *)
    all_goals first | omega | (split <;> omega) | (split <;> split <;> omega)
  · cases h
def FWAdd : List Ar → Option Rs
  | [.agg [.d (.v (.int .i64 h0)), .d (.v (.int .u64 l0))], .agg [.d (.v (.int .i64 h1)), .d (.v (.int .u64 l1))]] => some ⟨(Wd.ok ⟨h0, l0⟩) ∧ (Wd.ok ⟨h1, l1⟩), .va (Wd.ar (wd (Wd.val (⟨h0, l0⟩ : Wd) + Wd.val (⟨h1, l1⟩ : Wd)))), []⟩
  | _ => none
set_option maxHeartbeats 1000000 in
set_option maxRecDepth 100000 in
theorem fcWAdd : FC Try.prog 76 FWAdd := by
  intro xs pre r us h hp
  unfold FWAdd at h
  split at h
  · rename_i h0 l0 h1 l1
    cases h
    obtain ⟨hp0, hp1⟩ := hp
    refine fcat tys_ok (l := [(90, ⟨[], FAdd64⟩)]) ⟨fcAdd64, trivial⟩ Try.func76 rfl (by kernel_rfl) false ?_
    repeat' (first | exact trivial | refine ⟨?_, ?_⟩ | intro _)
    all_goals first | (with_reducible show (_ : Int) ≤ _) | (with_reducible show (_ : Int) < _) | (with_reducible show (_ : Nat) ≤ _) | (with_reducible show (_ : Nat) < _) | (conv => whnf)
    all_goals (try (refine congrArg Value.bool (Bool.eq_iff_iff.2 ?_)); try simp only [Bool.not_eq_true', Bool.not_eq_false', Bool.and_eq_true, Bool.or_eq_true, Bool.and_eq_false_imp, Bool.or_eq_false_iff, beq_iff_eq, beq_eq_false_iff_ne, ne_eq, decide_eq_true_eq, decide_eq_false_iff_not, Bool.true_eq_false, Bool.false_eq_true, true_and, and_true, false_and, and_false, imp_false, Value.int.injEq, true_iff, false_iff, iff_true, iff_false, iff_self])
    all_goals (try simp only [wU, wI, shr63, wd, Wd.val, Wd.ok, Bool.not_eq_true', Bool.not_eq_false', Bool.and_eq_true, Bool.or_eq_true, Bool.and_eq_false_imp, Bool.or_eq_false_iff, beq_iff_eq, beq_eq_false_iff_ne, ne_eq, decide_eq_true_eq, decide_eq_false_iff_not, Bool.true_eq_false, Bool.false_eq_true, true_and, and_true, false_and, and_false, imp_false, Value.int.injEq] at *)
    all_goals first | omega | (split <;> omega) | (split <;> split <;> omega)
  · cases h
def FWSub : List Ar → Option Rs
  | [.agg [.d (.v (.int .i64 h0)), .d (.v (.int .u64 l0))], .agg [.d (.v (.int .i64 h1)), .d (.v (.int .u64 l1))]] => some ⟨(Wd.ok ⟨h0, l0⟩) ∧ (Wd.ok ⟨h1, l1⟩), .va (Wd.ar (wd (Wd.val (⟨h0, l0⟩ : Wd) - Wd.val (⟨h1, l1⟩ : Wd)))), []⟩
  | _ => none
set_option maxHeartbeats 1000000 in
set_option maxRecDepth 100000 in
theorem fcWSub : FC Try.prog 78 FWSub := by
  intro xs pre r us h hp
  unfold FWSub at h
  split at h
  · rename_i h0 l0 h1 l1
    cases h
    obtain ⟨hp0, hp1⟩ := hp
    refine fcat tys_ok (l := [(91, ⟨[], FSub64⟩)]) ⟨fcSub64, trivial⟩ Try.func78 rfl (by kernel_rfl) false ?_
    repeat' (first | exact trivial | refine ⟨?_, ?_⟩ | intro _)
    all_goals first | (with_reducible show (_ : Int) ≤ _) | (with_reducible show (_ : Int) < _) | (with_reducible show (_ : Nat) ≤ _) | (with_reducible show (_ : Nat) < _) | (conv => whnf)
    all_goals (try (refine congrArg Value.bool (Bool.eq_iff_iff.2 ?_)); try simp only [Bool.not_eq_true', Bool.not_eq_false', Bool.and_eq_true, Bool.or_eq_true, Bool.and_eq_false_imp, Bool.or_eq_false_iff, beq_iff_eq, beq_eq_false_iff_ne, ne_eq, decide_eq_true_eq, decide_eq_false_iff_not, Bool.true_eq_false, Bool.false_eq_true, true_and, and_true, false_and, and_false, imp_false, Value.int.injEq, true_iff, false_iff, iff_true, iff_false, iff_self])
    all_goals (try simp only [wU, wI, shr63, wd, Wd.val, Wd.ok, Bool.not_eq_true', Bool.not_eq_false', Bool.and_eq_true, Bool.or_eq_true, Bool.and_eq_false_imp, Bool.or_eq_false_iff, beq_iff_eq, beq_eq_false_iff_ne, ne_eq, decide_eq_true_eq, decide_eq_false_iff_not, Bool.true_eq_false, Bool.false_eq_true, true_and, and_true, false_and, and_false, imp_false, Value.int.injEq] at *)
    all_goals first | omega | (split <;> omega) | (split <;> split <;> omega)
  · cases h
def FWLow : List Ar → Option Rs
  | [.agg [.d (.v (.int .i64 h0)), .d (.v (.int .u64 l0))]] => some ⟨(Wd.ok ⟨h0, l0⟩), .va (.c (.d (it ((Wd.val (⟨h0, l0⟩ : Wd) + 9223372036854775808) % 18446744073709551616 - 9223372036854775808)))), []⟩
  | _ => none
set_option maxHeartbeats 1000000 in
set_option maxRecDepth 100000 in
theorem fcWLow : FC Try.prog 89 FWLow := by
  intro xs pre r us h hp
  unfold FWLow at h
  split at h
  · rename_i h0 l0
    cases h
    have hp0 := hp
    refine fcat tys_ok (l := []) trivial Try.func89 rfl (by kernel_rfl) false ?_
    repeat' (first | exact trivial | refine ⟨?_, ?_⟩ | intro _)
    all_goals first | (with_reducible show (_ : Int) ≤ _) | (with_reducible show (_ : Int) < _) | (with_reducible show (_ : Nat) ≤ _) | (with_reducible show (_ : Nat) < _) | (conv => whnf)
    all_goals (try (refine congrArg Value.bool (Bool.eq_iff_iff.2 ?_)); try simp only [Bool.not_eq_true', Bool.not_eq_false', Bool.and_eq_true, Bool.or_eq_true, Bool.and_eq_false_imp, Bool.or_eq_false_iff, beq_iff_eq, beq_eq_false_iff_ne, ne_eq, decide_eq_true_eq, decide_eq_false_iff_not, Bool.true_eq_false, Bool.false_eq_true, true_and, and_true, false_and, and_false, imp_false, Value.int.injEq, true_iff, false_iff, iff_true, iff_false, iff_self])
    all_goals (try simp only [wU, wI, shr63, wd, Wd.val, Wd.ok, Bool.not_eq_true', Bool.not_eq_false', Bool.and_eq_true, Bool.or_eq_true, Bool.and_eq_false_imp, Bool.or_eq_false_iff, beq_iff_eq, beq_eq_false_iff_ne, ne_eq, decide_eq_true_eq, decide_eq_false_iff_not, Bool.true_eq_false, Bool.false_eq_true, true_and, and_true, false_and, and_false, imp_false, Value.int.injEq] at *)
    all_goals first | omega | (split <;> omega) | (split <;> split <;> omega)
  · cases h
def FWInt : List Ar → Option Rs
  | [.agg [.d (.v (.int .i64 h0)), .d (.v (.int .u64 l0))]] => some ⟨(Wd.ok ⟨h0, l0⟩), .tup [.c (.d (it (wIntV (Wd.val (⟨h0, l0⟩ : Wd))))), .c (.d (bo (wIntB (Wd.val (⟨h0, l0⟩ : Wd)))))], []⟩
  | _ => none
set_option maxHeartbeats 1000000 in
set_option maxRecDepth 100000 in
theorem fcWInt : FC Try.prog 75 FWInt := by
  intro xs pre r us h hp
  unfold FWInt at h
  split at h
  · rename_i h0 l0
    cases h
    have hp0 := hp
    refine fcat tys_ok (l := [(77, ⟨[], FWOf⟩), (89, ⟨[], FWLow⟩)]) ⟨fcWOf, fcWLow, trivial⟩ Try.func75 rfl (by kernel_rfl) false ?_
    repeat' (first | exact trivial | refine ⟨?_, ?_⟩ | intro _)
    all_goals first | (with_reducible show (_ : Int) ≤ _) | (with_reducible show (_ : Int) < _) | (with_reducible show (_ : Nat) ≤ _) | (with_reducible show (_ : Nat) < _) | (conv => whnf)
    all_goals (try (refine congrArg Value.bool (Bool.eq_iff_iff.2 ?_)); try simp only [wIntV, wIntB, Bool.not_eq_true', Bool.not_eq_false', Bool.and_eq_true, Bool.or_eq_true, Bool.and_eq_false_imp, Bool.or_eq_false_iff, beq_iff_eq, beq_eq_false_iff_ne, ne_eq, decide_eq_true_eq, decide_eq_false_iff_not, Bool.true_eq_false, Bool.false_eq_true, true_and, and_true, false_and, and_false, imp_false, Value.int.injEq, true_iff, false_iff, iff_true, iff_false, iff_self])
    all_goals (try simp only [wU, wI, shr63, wd, Wd.val, Wd.ok, wIntV, wIntB, Bool.not_eq_true', Bool.not_eq_false', Bool.and_eq_true, Bool.or_eq_true, Bool.and_eq_false_imp, Bool.or_eq_false_iff, beq_iff_eq, beq_eq_false_iff_ne, ne_eq, decide_eq_true_eq, decide_eq_false_iff_not, Bool.true_eq_false, Bool.false_eq_true, true_and, and_true, false_and, and_false, imp_false, Value.int.injEq] at *)
    all_goals first | omega | (split <;> omega) | (split <;> split <;> omega)
  · cases h

end Go.Proofs.Ytbfinmfdcbghfaa
