/- Joined congruences. No condition. -/
import Derived.Test.YtbfinmfdcbghfaaCong
import Derived.Test.YtbfinmfdcbghfaaR01b
namespace Go.Proofs.Ytbfinmfdcbghfaa
set_option linter.all false
open Go.Sx

def gW : List DV → Wd
  | [.v (.int .i64 h), .v (.int .u64 l)] => ⟨h, l⟩
  | _ => ⟨0, 0⟩
theorem Wd.eta' (w : Wd) : (⟨w.hi, w.lo⟩ : Wd) = w := rfl
theorem val_eq {a b : Wd} (ha : a.ok) (hb : b.ok) : (a.hi == b.hi && (a.lo == b.lo && true)) = decide (a.val = b.val) := by
  unfold Wd.ok at ha hb; unfold Wd.val
  rw [Bool.eq_iff_iff]
  simp only [Bool.and_true, Bool.and_eq_true, beq_iff_eq, decide_eq_true_eq]
  omega

def FWNeg : List Ar → Option Rs
  | [.agg [.d (.v (.int .i64 h0)), .d (.v (.int .u64 l0))]] => some ⟨(Wd.ok ⟨h0, l0⟩), .va (Wd.ar (wd (0 - Wd.val (⟨h0, l0⟩ : Wd)))), []⟩
  | _ => none
set_option maxHeartbeats 1000000 in
set_option maxRecDepth 100000 in
theorem fcWNeg : FC Try.prog 87 FWNeg := by
  intro xs pre r us h hp
  unfold FWNeg at h
  split at h
  · rename_i h0 l0
    cases h
    have hp0 := hp
    refine fcat tys_ok (l := [(78, ⟨[], FWSub⟩)]) ⟨fcWSub, trivial⟩ Try.func87 rfl (by kernel_rfl) false ?_
    repeat' (first | exact trivial | refine ⟨?_, ?_⟩ | intro _)
    all_goals first | (with_reducible show (_ : Int) ≤ _) | (with_reducible show (_ : Int) < _) | (with_reducible show (_ : Nat) ≤ _) | (with_reducible show (_ : Nat) < _) | (conv => whnf)
    all_goals first | rfl | decide | omega | exact hp0.1.1 | exact hp0.1.2 | exact hp0.2.1 | exact hp0.2.2 | trace_state
  · cases h
def FWCmp : List Ar → Option Rs
  | [.agg [.d (.v (.int .i64 h0)), .d (.v (.int .u64 l0))], .agg [.d (.v (.int .i64 h1)), .d (.v (.int .u64 l1))]] => some ⟨(Wd.ok ⟨h0, l0⟩) ∧ (Wd.ok ⟨h1, l1⟩), .va (.c (.d (it (wCmp (Wd.val (⟨h0, l0⟩ : Wd)) (Wd.val (⟨h1, l1⟩ : Wd)))))), []⟩
  | _ => none
set_option maxHeartbeats 1000000 in
set_option maxRecDepth 100000 in
theorem fcWCmp : FC Try.prog 107 FWCmp := by
  intro xs pre r us h hp
  unfold FWCmp at h
  split at h
  · rename_i h0 l0 h1 l1
    cases h
    obtain ⟨hp0, hp1⟩ := hp
    refine fcat tys_ok (l := []) trivial Try.func107 rfl (by kernel_rfl) false ?_
    repeat' (first | exact trivial | refine ⟨?_, ?_⟩ | intro _)
    all_goals first | (with_reducible show (_ : Int) ≤ _) | (with_reducible show (_ : Int) < _) | (with_reducible show (_ : Nat) ≤ _) | (with_reducible show (_ : Nat) < _) | (conv => whnf)
    all_goals (simp only [decide_eq_true_eq, decide_eq_false_iff_not, beq_iff_eq, beq_eq_false_iff_ne, ne_eq, Bool.and_true, Bool.and_eq_true, Bool.and_eq_false_imp, Wd.val, Wd.ok] at *; refine congrArg (Value.int .i64) ?_; unfold wCmp; (repeat' split) <;> omega)
  · cases h
def gW' (c : Blk) : Wd := match c with
  | .cells [.d (.v (.int .i64 h)), .d (.v (.int .u64 l))] => ⟨h, l⟩
  | _ => ⟨0, 0⟩
def maxW (a x : Wd) : Wd := if wCmp x.val a.val = 1 then x else a
theorem maxW_t {a x : Wd} {i : Int} (hi : i = 1) (h : (wCmp x.val a.val == i) = true) : maxW a x = x := by subst hi; unfold maxW; rw [if_pos (by simpa using h)]
theorem maxW_f {a x : Wd} {i : Int} (hi : i = 1) (h : (wCmp x.val a.val == i) = false) : maxW a x = a := by subst hi; unfold maxW; rw [if_neg (by simpa using h)]
theorem maxW_ok {a x : Wd} (h : a.ok) (h' : x.ok) : (maxW a x).ok := by unfold maxW; split <;> assumption
def atW (i : Nat) (a x : Wd) : Wd := if i = 0 then a else maxW a x

def FWBest : List Ar → Option Rs
  | [.agg [.d (.v (.int .i64 h0)), .d (.v (.int .u64 l0))], .c (.d (.v (.int .i64 i1))), .c (.d (.lst 2 1 f2))] => some ⟨(Wd.ok ⟨h0, l0⟩) ∧ (-9223372036854775808 ≤ i1 ∧ i1 < 9223372036854775808) ∧ (f2 0 = [it (gW (f2 0)).hi, ut (gW (f2 0)).lo] ∧ Wd.ok (gW (f2 0))) ∧ (i1 = 1), .va (Wd.ar (maxW (⟨h0, l0⟩ : Wd) (gW (f2 0)))), []⟩
  | _ => none
set_option maxHeartbeats 1000000 in
set_option maxRecDepth 100000 in
theorem fcWBest : FC Try.prog 95 FWBest := by
  intro xs pre r us h hp
  unfold FWBest at h
  split at h
  · rename_i h0 l0 i1 f2
    cases h
    obtain ⟨hp0, hp1, hp2, hp3⟩ := hp
    refine FCat.of_eq (as' := [.agg [.d (.v (.int .i64 h0)), .d (.v (.int .u64 l0))], .c (.d (.v (.int .i64 i1))), .c (.d (.lst 2 1 fun _ => [it (gW (f2 0)).hi, ut (gW (f2 0)).lo]))]) ?_ rfl rfl ?_
    · repeat' (first | exact trivial | exact rfl | refine ⟨?_, ?_⟩ | fail)
      all_goals first | exact hp0.2 | exact hp1.2 | exact hp2.2 | (intro i hi; exact (hp0.2 i hi).1) | (intro i hi; exact (hp1.2 i hi).1) | (intro i hi; exact (hp2.2 i hi).1) | grind
    refine fcat tys_ok (l := [(107, ⟨[], FWCmp⟩)]) ⟨fcWCmp, trivial⟩ Try.func95 rfl (by kernel_rfl) false ?_
    repeat' (first | exact trivial | refine ⟨?_, ?_⟩ | intro _)
    all_goals first | (with_reducible show (_ : Int) ≤ _) | (with_reducible show (_ : Int) < _) | (with_reducible show (_ : Nat) ≤ _) | (with_reducible show (_ : Nat) < _) | (conv => whnf)
    refine loop_ok tys_ok (l := [(107, ⟨[], FWCmp⟩)]) ⟨fcWCmp, trivial⟩ (by kernel_rfl) (X := Nat)
      (fun x => ⟨[(11, vx (.int .i64 x)), (10, vx (.int .i64 1)), (9, .va (.c (.d (.lst 2 1 fun _ => [it (gW (f2 0)).hi, ut (gW (f2 0)).lo])))), (1, vx (.int .i64 i1)), (3, .va (.c (.own 0 0))), (6, .va (.c (.own 1 0)))], [(0, .cells [.d (it (atW x ⟨h0, l0⟩ (gW (f2 0))).hi), .d (ut (atW x ⟨h0, l0⟩ (gW (f2 0))).lo)]), (1, .cells [.d (it 0), .d (ut 0)])], 2, 23⟩)
      (fun x => 1 - x) (fun x => x ≤ 1) [] [] (fun x _ _ => x + 1) [0, 1] [0, 1] 0 0 0 (Nat.zero_le _) ?_ ?_
    · repeat' (first | exact trivial | exact rfl | (intro _ h; exact absurd h (Nat.not_lt_zero _)) | (intro _ _; exact rfl) | refine ⟨?_, ?_⟩ | fail)
    · intro i k1
      have hc : i = 0 ∨ i = 1 := by omega
      rcases hc with rfl | rfl
      · have f0 : Wd.ok (atW 0 ⟨h0, l0⟩ (gW (f2 0))) := hp0
        repeat' (first | exact trivial | (with_reducible exact hp2.2) | (with_reducible exact f0) | refine ⟨?_, ?_⟩ | intro _)
        all_goals first | (with_reducible show (_ : Int) ≤ _) | (with_reducible show (_ : Int) < _) | (with_reducible show (_ : Nat) ≤ _) | (with_reducible show (_ : Nat) < _) | (conv => whnf)
        all_goals first | omega | rfl | decide | (exact hp0.1.1) | (exact hp0.1.2) | (exact hp0.2.1) | (exact hp0.2.2) | (exact hp2.2.1.1) | (exact hp2.2.1.2) | (exact hp2.2.2.1) | (exact hp2.2.2.2) | (exfalso; exact absurd ‹decide _ = false› (by decide)) | (exfalso; exact absurd ‹decide _ = true› (by decide)) | (exact congrArg (fun w : Wd => Value.int .i64 w.hi) (maxW_t hp3 ‹(_ == i1) = true›).symm) | (exact congrArg (fun w : Wd => Value.int .u64 w.lo) (maxW_t hp3 ‹(_ == i1) = true›).symm) | (exact congrArg (fun w : Wd => Value.int .i64 w.hi) (maxW_f hp3 ‹(_ == i1) = false›).symm) | (exact congrArg (fun w : Wd => Value.int .u64 w.lo) (maxW_f hp3 ‹(_ == i1) = false›).symm) | trace_state
      · repeat' (first | exact trivial | refine ⟨?_, ?_⟩ | intro _)
        all_goals first | (with_reducible show (_ : Int) ≤ _) | (with_reducible show (_ : Int) < _) | (with_reducible show (_ : Nat) ≤ _) | (with_reducible show (_ : Nat) < _) | (conv => whnf)
        all_goals first | omega | rfl | decide | (exact hp0.1.1) | (exact hp0.1.2) | (exact hp0.2.1) | (exact hp0.2.2) | (exact hp2.2.1.1) | (exact hp2.2.1.2) | (exact hp2.2.2.1) | (exact hp2.2.2.2) | (exfalso; exact absurd ‹decide _ = false› (by decide)) | (exfalso; exact absurd ‹decide _ = true› (by decide)) | (exact congrArg (fun w : Wd => Value.int .i64 w.hi) (maxW_t hp3 ‹(_ == i1) = true›).symm) | (exact congrArg (fun w : Wd => Value.int .u64 w.lo) (maxW_t hp3 ‹(_ == i1) = true›).symm) | (exact congrArg (fun w : Wd => Value.int .i64 w.hi) (maxW_f hp3 ‹(_ == i1) = false›).symm) | (exact congrArg (fun w : Wd => Value.int .u64 w.lo) (maxW_f hp3 ‹(_ == i1) = false›).symm) | trace_state
  · cases h
def FWMax : List Ar → Option Rs
  | [.agg [.d (.v (.int .i64 h0)), .d (.v (.int .u64 l0))], .c (.d (.lst 2 1 f1))] => some ⟨(Wd.ok ⟨h0, l0⟩) ∧ (f1 0 = [it (gW (f1 0)).hi, ut (gW (f1 0)).lo] ∧ Wd.ok (gW (f1 0))), .va (Wd.ar (maxW (⟨h0, l0⟩ : Wd) (gW (f1 0)))), []⟩
  | _ => none
set_option maxHeartbeats 1000000 in
set_option maxRecDepth 100000 in
theorem fcWMax : FC Try.prog 86 FWMax := by
  intro xs pre r us h hp
  unfold FWMax at h
  split at h
  · rename_i h0 l0 f1
    cases h
    obtain ⟨hp0, hp1⟩ := hp
    refine FCat.of_eq (as' := [.agg [.d (.v (.int .i64 h0)), .d (.v (.int .u64 l0))], .c (.d (.lst 2 1 fun _ => [it (gW (f1 0)).hi, ut (gW (f1 0)).lo]))]) ?_ rfl rfl ?_
    · repeat' (first | exact trivial | exact rfl | refine ⟨?_, ?_⟩ | fail)
      all_goals first | exact hp0.2 | exact hp1.2 | exact hp2.2 | (intro i hi; exact (hp0.2 i hi).1) | (intro i hi; exact (hp1.2 i hi).1) | (intro i hi; exact (hp2.2 i hi).1) | grind
    refine fcat tys_ok (l := [(95, ⟨[], FWBest⟩)]) ⟨fcWBest, trivial⟩ Try.func86 rfl (by kernel_rfl) false ?_
    have hq : (-9223372036854775808 : Int) ≤ 1 ∧ (1 : Int) < 9223372036854775808 := by decide
    repeat' (first | exact trivial | refine ⟨?_, ?_⟩ | intro _)
    all_goals first | (with_reducible show (_ : Int) ≤ _) | (with_reducible show (_ : Int) < _) | (with_reducible show (_ : Nat) ≤ _) | (with_reducible show (_ : Nat) < _) | (conv => whnf)
    all_goals first | rfl | decide | exact hp0 | exact hp0.1.1 | exact hp0.1.2 | exact hp0.2.1 | exact hp0.2.2 | exact hp1.2.1.1 | exact hp1.2.1.2 | exact hp1.2.2.1 | exact hp1.2.2.2 | trace_state
  · cases h
def apartI (a b : Int) : Int := if a ≥ b then a - b else b - a
theorem apart_key {a b : Int} (ha : -9223372036854775808 ≤ a ∧ a < 9223372036854775808) (hb : -9223372036854775808 ≤ b ∧ b < 9223372036854775808) : (maxW (wd ((wd a).val - (wd b).val)) (wd (0 - (wd ((wd a).val - (wd b).val)).val))).lo = if a ≥ b then a - b else b - a := by
  rw [wd_val (v := a) (by omega) (by omega), wd_val (v := b) (by omega) (by omega), wd_val (v := a - b) (by omega) (by omega)]
  unfold maxW wCmp
  rw [wd_val (v := a - b) (by omega) (by omega), wd_val (v := 0 - (a - b)) (by omega) (by omega)]
  unfold wd
  (repeat' split) <;> dsimp only <;> omega

def FCApart : List Ar → Option Rs
  | [.c (.d (.v (.int .i64 i0))), .c (.d (.v (.int .i64 i1)))] => some ⟨(-9223372036854775808 ≤ i0 ∧ i0 < 9223372036854775808) ∧ (-9223372036854775808 ≤ i1 ∧ i1 < 9223372036854775808), .va (.c (.d (ut (apartI i0 i1)))), []⟩
  | _ => none
set_option maxHeartbeats 1000000 in
set_option maxRecDepth 100000 in
theorem fcCApart : FC Try.prog 73 FCApart := by
  intro xs pre r us h hp
  unfold FCApart at h
  split at h
  · rename_i i0 i1
    cases h
    obtain ⟨hp0, hp1⟩ := hp
    refine fcat tys_ok (l := [(77, ⟨[], FWOf⟩), (78, ⟨[], FWSub⟩), (87, ⟨[], FWNeg⟩), (86, ⟨[], FWMax⟩)]) ⟨fcWOf, fcWSub, fcWNeg, fcWMax, trivial⟩ Try.func73 rfl (by kernel_rfl) false ?_
    repeat' (first | exact trivial | (with_reducible exact wd_ok _) | (with_reducible exact (wd_ok _).1.1) | (with_reducible exact (wd_ok _).1.2) | (with_reducible exact (wd_ok _).2.1) | (with_reducible exact (wd_ok _).2.2) | refine ⟨?_, ?_⟩ | intro _)
    all_goals first | (with_reducible show (_ : Int) ≤ _) | (with_reducible show (_ : Int) < _) | (with_reducible show (_ : Nat) ≤ _) | (with_reducible show (_ : Nat) < _) | (conv => whnf)
    all_goals first | omega | rfl | exact (wd_ok _).1.1 | exact (wd_ok _).1.2 | exact (wd_ok _).2.1 | exact (wd_ok _).2.2 | (exact congrArg (Value.int .u64) (apart_key hp0 hp1)) | trace_state
  · cases h
theorem gcd_step {a b : Int} (hb : b ≠ 0) (h0 : 0 ≤ a) (h1 : 0 ≤ b) : 0 ≤ a.tmod b ∧ a.tmod b < b ∧ Int.gcd b (a.tmod b) = Int.gcd a b := by
  rw [Int.tmod_eq_emod_of_nonneg h0]
  refine ⟨Int.emod_nonneg _ hb, Int.emod_lt_of_pos _ (by omega), ?_⟩
  obtain ⟨x, rfl⟩ := Int.eq_ofNat_of_zero_le h0
  obtain ⟨y, rfl⟩ := Int.eq_ofNat_of_zero_le h1
  rw [← Int.natCast_emod, Int.gcd_natCast_natCast, Int.gcd_natCast_natCast, Nat.gcd_comm x y, Nat.gcd_rec y x, Nat.gcd_comm]

def FCGcd : List Ar → Option Rs
  | [.c (.d (.v (.int .u64 u0))), .c (.d (.v (.int .u64 u1)))] => some ⟨(0 ≤ u0 ∧ u0 < 18446744073709551616) ∧ (0 ≤ u1 ∧ u1 < 18446744073709551616), .va (.c (.d (ut ((Int.gcd u0 u1 : Int))))), []⟩
  | _ => none
set_option maxHeartbeats 1000000 in
set_option maxRecDepth 100000 in
theorem fcCGcd : FC Try.prog 72 FCGcd := by
  intro xs pre r us h hp
  unfold FCGcd at h
  split at h
  · rename_i u0 u1
    cases h
    obtain ⟨hp0, hp1⟩ := hp
    refine fcat tys_ok (l := []) trivial Try.func72 rfl (by kernel_rfl) false ?_
    repeat' (first | exact trivial | refine ⟨?_, ?_⟩ | intro _)
    all_goals first | (with_reducible show (_ : Int) ≤ _) | (with_reducible show (_ : Int) < _) | (with_reducible show (_ : Nat) ≤ _) | (with_reducible show (_ : Nat) < _) | (conv => whnf)
    refine scope_ok tys_ok (ls := []) trivial (by kernel_rfl) 0 rfl (X := Int × Int) (fun x => ⟨[(0, vx (.int .u64 x.1)), (1, vx (.int .u64 x.2))], [], 0, 12⟩) (fun x => x.2.toNat)
      (fun x => (0 ≤ x.1 ∧ x.1 < 18446744073709551616) ∧ (0 ≤ x.2 ∧ x.2 < 18446744073709551616) ∧ Int.gcd x.1 x.2 = Int.gcd u0 u1) [0, 1] [] (fun xs _ => match xs with | [a, b] => (iT a, iT b) | _ => (0, 0)) (fun _ xs _ => match xs with | [a, b] => (iT a, iT b) | _ => (0, 0)) [] [] 0 0 ?_ ?_
    · repeat' (first | exact trivial | refine ⟨?_, ?_⟩ | intro _)
      all_goals first | (with_reducible show (_ : Int) ≤ _) | (with_reducible show (_ : Int) < _) | (with_reducible show (_ : Nat) ≤ _) | (with_reducible show (_ : Nat) < _) | (conv => whnf)
      all_goals (try simp only [beq_iff_eq, beq_eq_false_iff_ne, ne_eq, iT] at *)
      all_goals first | omega | ((with_reducible show idsOk _ _ = true); rfl) | (exact absurd ‹_› ‹¬ _›) | (have e : u1 = 0 := ‹u1 = 0›; rw [e, Int.gcd_zero, Int.natAbs_of_nonneg (by omega)]; done) | (have q := gcd_step (a := u0) (b := u1) ‹_› (by omega) (by omega); first | omega | (rw [q.2.2]) | rfl) | rfl | trace_state
    · rintro ⟨a, b⟩ ⟨k1, k2, k3⟩
      dsimp only at k1 k2 k3
      repeat' (first | exact trivial | refine ⟨?_, ?_⟩ | intro _)
      all_goals first | (with_reducible show (_ : Int) ≤ _) | (with_reducible show (_ : Int) < _) | (with_reducible show (_ : Nat) ≤ _) | (with_reducible show (_ : Nat) < _) | (conv => whnf)
      all_goals (try simp only [beq_iff_eq, beq_eq_false_iff_ne, ne_eq, iT] at *)
      all_goals first | omega | ((with_reducible show idsOk _ _ = true); rfl) | (exact absurd ‹_› ‹¬ _›) | (rw [← k3]; have e : b = 0 := ‹b = 0›; rw [e, Int.gcd_zero, Int.natAbs_of_nonneg (by omega)]; done) | (have q := gcd_step (a := a) (b := b) ‹_› (by omega) (by omega); first | omega | (rw [q.2.2]; exact k3) | rfl) | rfl | trace_state
  · cases h
namespace Cg
def gcdJ (x y : Cg) : Int := (Int.gcd (Int.gcd x.m y.m : Int) (apartI x.r y.r) : Int)
def join (a b : Cg) : Cg := if !a.clean.some then b.clean else if !b.clean.some then a.clean else if gcdJ a.clean b.clean > 9223372036854775807 then Cg.of 1 0 else Cg.of (gcdJ a.clean b.clean) a.clean.r
end Cg
theorem gcd_u {a b : Int} (ha : 0 ≤ a ∧ a < 18446744073709551616) (hb : 0 ≤ b ∧ b < 18446744073709551616) : 0 ≤ (Int.gcd a b : Int) ∧ (Int.gcd a b : Int) < 18446744073709551616 := by
  refine ⟨by omega, ?_⟩
  rcases Int.lt_or_eq_of_le ha.1 with h | h
  · have := Int.gcd_le_left (b := b) h; omega
  · subst h
    rw [Int.zero_gcd]; omega
theorem apart_u {a b : Int} (ha : -9223372036854775808 ≤ a ∧ a < 9223372036854775808) (hb : -9223372036854775808 ≤ b ∧ b < 9223372036854775808) : 0 ≤ apartI a b ∧ apartI a b < 18446744073709551616 := by unfold apartI; split <;> omega
theorem gcdJ_u {x y : Cg} (hx : x.inR) (hy : y.inR) (h0 : 0 ≤ x.m) (h1 : 0 ≤ y.m) : 0 ≤ Cg.gcdJ x y ∧ Cg.gcdJ x y < 18446744073709551616 := by
  unfold Cg.inR at hx hy
  exact gcd_u (gcd_u (by omega) (by omega)) (apart_u hx.2 hy.2)

theorem join_1 {a b : Cg} (h : (!a.clean.some) = true) : Cg.join a b = b.clean := by unfold Cg.join; rw [if_pos h]
theorem join_2 {a b : Cg} (h : (!a.clean.some) = false) (h2 : (!b.clean.some) = true) : Cg.join a b = a.clean := by unfold Cg.join; rw [if_neg (by rw [h]; decide), if_pos h2]
theorem join_3 {a b : Cg} (h : (!a.clean.some) = false) (h2 : (!b.clean.some) = false) (h3 : decide (Cg.gcdJ a.clean b.clean > 9223372036854775807) = true) : Cg.join a b = Cg.of 1 0 := by unfold Cg.join; rw [if_neg (by rw [h]; decide), if_neg (by rw [h2]; decide), if_pos (by simpa using h3)]
theorem join_4 {a b : Cg} (h : (!a.clean.some) = false) (h2 : (!b.clean.some) = false) (h3 : decide (Cg.gcdJ a.clean b.clean > 9223372036854775807) = false) (h0 : 0 ≤ Cg.gcdJ a.clean b.clean) : Cg.join a b = Cg.of (IntKind.wrap .i64 (Cg.gcdJ a.clean b.clean)) a.clean.r := by
  unfold Cg.join; rw [if_neg (by rw [h]; decide), if_neg (by rw [h2]; decide), if_neg (by simpa using h3), wI_id _ (by omega) (by have := of_decide_eq_false h3; omega)]
theorem wrapJ {g : Int} (h0 : 0 ≤ g) (h3 : decide (g > 9223372036854775807) = false) : -9223372036854775808 ≤ IntKind.wrap .i64 g ∧ IntKind.wrap .i64 g < 9223372036854775808 := by
  have := of_decide_eq_false h3
  rw [wI_id _ (by omega) (by omega)]; omega

def FCJoin : List Ar → Option Rs
  | [.agg [.d (.v (.bool b0)), .d (.v (.int .i64 m0)), .d (.v (.int .i64 r0))], .agg [.d (.v (.bool b1)), .d (.v (.int .i64 m1)), .d (.v (.int .i64 r1))]] => some ⟨(Cg.inR ⟨b0, m0, r0⟩) ∧ (Cg.inR ⟨b1, m1, r1⟩), .va (Cg.ar (Cg.join (⟨b0, m0, r0⟩ : Cg) (⟨b1, m1, r1⟩ : Cg))), []⟩
  | _ => none
set_option maxHeartbeats 1000000 in
set_option maxRecDepth 100000 in
theorem fcCJoin : FC Try.prog 44 FCJoin := by
  intro xs pre r us h hp
  unfold FCJoin at h
  split at h
  · rename_i b0 m0 r0 b1 m1 r1
    cases h
    obtain ⟨hp0, hp1⟩ := hp
    refine fcat tys_ok (l := [(60, ⟨[], FCClean⟩), (71, ⟨[], FCNone⟩), (72, ⟨[], FCGcd⟩), (73, ⟨[], FCApart⟩), (42, ⟨[], FCAll⟩), (52, ⟨[], FCOf⟩)]) ⟨fcCClean, fcCNone, fcCGcd, fcCApart, fcCAll, fcCOf, trivial⟩ Try.func44 rfl (by kernel_rfl) false ?_
    have hx := Cg.clean_inR hp0
    have hy := Cg.clean_inR hp1
    have hxx := hx
    have hyy := hy
    unfold Cg.inR at hxx hyy
    have hx0 := Cg.clean_nn ⟨b0, m0, r0⟩
    have hy0 := Cg.clean_nn ⟨b1, m1, r1⟩
    have ux := wU_id (Cg.clean ⟨b0, m0, r0⟩).m hx0 (by have := hx.1.2; omega)
    have uy := wU_id (Cg.clean ⟨b1, m1, r1⟩).m hy0 (by have := hy.1.2; omega)
    have vx : 0 ≤ (Cg.clean ⟨b0, m0, r0⟩).m ∧ (Cg.clean ⟨b0, m0, r0⟩).m < 18446744073709551616 := ⟨hx0, by have := hx.1.2; omega⟩
    have vy : 0 ≤ (Cg.clean ⟨b1, m1, r1⟩).m ∧ (Cg.clean ⟨b1, m1, r1⟩).m < 18446744073709551616 := ⟨hy0, by have := hy.1.2; omega⟩
    have g1 := gcd_u vx vy
    have g2 := apart_u hx.2 hy.2
    have g3 := gcdJ_u hx hy hx0 hy0
    repeat' (first | exact trivial | (with_reducible exact hx) | (with_reducible exact hy) | (with_reducible exact hx.1) | (with_reducible exact hx.2) | (with_reducible exact hy.1) | (with_reducible exact hy.2) | (with_reducible exact hp0) | (with_reducible exact hp1) | (with_reducible exact vx) | (with_reducible exact vy) | (with_reducible exact g1) | (with_reducible exact g2) | refine ⟨?_, ?_⟩ | intro _)
    all_goals first | (with_reducible show (_ : Int) ≤ _) | (with_reducible show (_ : Int) < _) | (with_reducible show (_ : Nat) ≤ _) | (with_reducible show (_ : Nat) < _) | (conv => whnf)
    all_goals (try rw [ux] at *)
    all_goals (try rw [uy] at *)
    all_goals first | (with_reducible exact vx.1) | (with_reducible exact vx.2) | (with_reducible exact vy.1) | (with_reducible exact vy.2) | (with_reducible exact hxx.1.1) | (with_reducible exact hxx.1.2) | (with_reducible exact hxx.2.1) | (with_reducible exact hxx.2.2) | (with_reducible exact hyy.1.1) | (with_reducible exact hyy.1.2) | (with_reducible exact hyy.2.1) | (with_reducible exact hyy.2.2) | (with_reducible exact g1.1) | (with_reducible exact g1.2) | (with_reducible exact g2.1) | (with_reducible exact g2.2) | exact (wrapJ g3.1 ‹decide (_ > _) = false›).1 | exact (wrapJ g3.1 ‹decide (_ > _) = false›).2 | (have e := join_1 (a := ⟨b0, m0, r0⟩) (b := ⟨b1, m1, r1⟩) ‹_›; first | exact congrArg (fun i : Cg => Value.bool i.some) e.symm | exact congrArg (fun i : Cg => Value.int .i64 i.m) e.symm | exact congrArg (fun i : Cg => Value.int .i64 i.r) e.symm | fail) | (have e := join_2 (a := ⟨b0, m0, r0⟩) (b := ⟨b1, m1, r1⟩) ‹_› ‹_›; first | exact congrArg (fun i : Cg => Value.bool i.some) e.symm | exact congrArg (fun i : Cg => Value.int .i64 i.m) e.symm | exact congrArg (fun i : Cg => Value.int .i64 i.r) e.symm | fail) | (have e := join_3 (a := ⟨b0, m0, r0⟩) (b := ⟨b1, m1, r1⟩) ‹_› ‹_› ‹_›; first | exact congrArg (fun i : Cg => Value.bool i.some) e.symm | exact congrArg (fun i : Cg => Value.int .i64 i.m) e.symm | exact congrArg (fun i : Cg => Value.int .i64 i.r) e.symm | fail) | (have e := join_4 (a := ⟨b0, m0, r0⟩) (b := ⟨b1, m1, r1⟩) ‹_› ‹_› ‹_› g3.1; first | exact congrArg (fun i : Cg => Value.bool i.some) e.symm | exact congrArg (fun i : Cg => Value.int .i64 i.m) e.symm | exact congrArg (fun i : Cg => Value.int .i64 i.r) e.symm | fail) | trace_state
  · cases h

end Go.Proofs.Ytbfinmfdcbghfaa
