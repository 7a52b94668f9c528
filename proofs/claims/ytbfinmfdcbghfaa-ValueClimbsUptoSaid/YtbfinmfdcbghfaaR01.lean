/- What the functions of the reference of the wide layer compute. No condition. -/
import Derived.Test.YtbfinmfdcbghfaaWide
namespace Go.Proofs.Ytbfinmfdcbghfaa
set_option linter.all false
open Go.Sx

def cI : Cell → Int
  | .d (.v (.int _ n)) => n
  | _ => 0
def aB (b : Blk) (j : Nat) : Int := cI ((csB b)[j]?.getD .top)
def pw8 : Nat → Int
  | 0 => 1
  | 1 => 65536
  | 2 => 4294967296
  | 3 => 281474976710656
  | 4 => 18446744073709551616
  | 5 => 1208925819614629174706176
  | 6 => 79228162514264337593543950336
  | 7 => 5192296858534827628530496329220096
  | _ => 340282366920938463463374607431768211456
/-- as a number from 0 on -/
def Wd.un (w : Wd) : Int := (w.hi % 18446744073709551616) * 18446744073709551616 + w.lo
/-- its digits of 16 bits -/
def dgt (w : Wd) : Nat → Int
  | 0 => w.lo / 1 % 65536
  | 1 => w.lo / 65536 % 65536
  | 2 => w.lo / 4294967296 % 65536
  | 3 => w.lo / 281474976710656 % 65536
  | 4 => w.hi % 18446744073709551616 / 1 % 65536
  | 5 => w.hi % 18446744073709551616 / 65536 % 65536
  | 6 => w.hi % 18446744073709551616 / 4294967296 % 65536
  | 7 => w.hi % 18446744073709551616 / 281474976710656 % 65536
  | _ => 0
def preS : Nat → (Nat → Int) → Int
  | 0, _ => 0
  | i + 1, f => preS i f + pw8 i * f i
theorem dgt_bound (w : Wd) (j : Nat) : 0 ≤ dgt w j ∧ dgt w j < 65536 := by unfold dgt; split <;> omega
theorem hor_eq (v : Int) (h0 : 0 ≤ v) (h1 : v < 18446744073709551616) : v / 1 % 65536 + 65536 * (v / 65536 % 65536) + 4294967296 * (v / 4294967296 % 65536) + 281474976710656 * (v / 281474976710656 % 65536) = v := by omega
theorem dgt_sum (w : Wd) (h : w.ok) : preS 8 (dgt w) = w.un := by
  have h1 := hor_eq w.lo h.2.1 h.2.2
  have h2 := hor_eq (w.hi % 18446744073709551616) (by omega) (by omega)
  simp only [preS, pw8, dgt, Wd.un] at *
  omega
def w8 (a b c d e f g h : Int) : Int := a + 65536 * b + 4294967296 * c + 281474976710656 * d + 18446744073709551616 * (e + 65536 * f + 4294967296 * g + 281474976710656 * h)
theorem tdivM (x b : Int) : (x % 18446744073709551616).tdiv b = x % 18446744073709551616 / b := Int.tdiv_eq_ediv_of_nonneg (Int.emod_nonneg _ (by decide))
theorem tmodM (x b : Int) : (x % 18446744073709551616).tmod b = x % 18446744073709551616 % b := Int.tmod_eq_emod_of_nonneg (Int.emod_nonneg _ (by decide))
theorem wd_shift (v k : Int) : wd (v + k * 340282366920938463463374607431768211456) = wd v := by
  unfold wd
  have h1 : (v + k * 340282366920938463463374607431768211456) % 18446744073709551616 = v % 18446744073709551616 := by omega
  have h2 : (v + k * 340282366920938463463374607431768211456) / 18446744073709551616 = v / 18446744073709551616 + k * 18446744073709551616 := by omega
  rw [h1, h2]
  congr 1
  omega
theorem wd_un {w : Wd} (h : w.ok) (v : Int) : wd (w.un + v) = wd (w.val + v) := by
  unfold Wd.ok at h
  have : w.un + v = w.val + v + (if w.hi < 0 then 1 else 0) * 340282366920938463463374607431768211456 := by
    unfold Wd.un Wd.val
    split <;> omega
  rw [this, wd_shift]
theorem wd_val_add (v k : Int) : wd ((wd v).val + k) = wd (v + k) := by
  obtain ⟨q, hq⟩ : ∃ q, (wd v).val = v + q * 340282366920938463463374607431768211456 := ⟨-((v / 18446744073709551616 + 9223372036854775808) / 18446744073709551616), by unfold wd Wd.val; dsimp only; omega⟩
  rw [hq, show v + q * 340282366920938463463374607431768211456 + k = v + k + q * 340282366920938463463374607431768211456 by omega, wd_shift]
def wCmp (a b : Int) : Int := if a < b then -1 else if b < a then 1 else 0

def pw : Nat → Int
  | 0 => 1
  | 1 => 65536
  | 2 => 4294967296
  | 3 => 281474976710656
  | _ => 18446744073709551616

theorem preS8 (d : Nat → Int) : preS 8 d = w8 (d 0) (d 1) (d 2) (d 3) (d 4) (d 5) (d 6) (d 7) := by simp only [preS, pw8, w8]; omega
theorem add_key {a b : Wd} (ha : a.ok) (hb : b.ok) {d : Nat → Int} {c : Int} (h : preS 8 d + c * 340282366920938463463374607431768211456 = preS 8 (dgt a) + preS 8 (dgt b)) : wd (w8 (d 0) (d 1) (d 2) (d 3) (d 4) (d 5) (d 6) (d 7)) = wd (a.val + b.val) := by
  rw [dgt_sum a ha, dgt_sum b hb, preS8] at h
  rw [show w8 (d 0) (d 1) (d 2) (d 3) (d 4) (d 5) (d 6) (d 7) = a.un + (b.un + -c * 340282366920938463463374607431768211456) by omega, wd_un ha, show a.val + (b.un + -c * 340282366920938463463374607431768211456) = b.un + a.val + -c * 340282366920938463463374607431768211456 by omega, wd_shift, wd_un hb, Int.add_comm]

def FDigits : List Ar → Option Rs
  | [.agg [.d (.v (.int .i64 h0)), .d (.v (.int .u64 l0))]] => some ⟨(Wd.ok ⟨h0, l0⟩), .va (.agg [.d (ut (dgt (⟨h0, l0⟩ : Wd) 0)), .d (ut (dgt (⟨h0, l0⟩ : Wd) 1)), .d (ut (dgt (⟨h0, l0⟩ : Wd) 2)), .d (ut (dgt (⟨h0, l0⟩ : Wd) 3)), .d (ut (dgt (⟨h0, l0⟩ : Wd) 4)), .d (ut (dgt (⟨h0, l0⟩ : Wd) 5)), .d (ut (dgt (⟨h0, l0⟩ : Wd) 6)), .d (ut (dgt (⟨h0, l0⟩ : Wd) 7))]), []⟩
  | _ => none
set_option maxHeartbeats 1000000 in
set_option maxRecDepth 100000 in
theorem fcDigits : FC Try.prog 57 FDigits := by
  intro xs pre r us h hp
  unfold FDigits at h
  split at h
  · rename_i h0 l0
    cases h
    have hp0 := hp
    refine fcat tys_ok (l := []) trivial Try.func57 rfl (by kernel_rfl) false ?_
    repeat' (first | exact trivial | refine ⟨?_, ?_⟩ | intro _)
    all_goals first | (with_reducible show (_ : Int) ≤ _) | (with_reducible show (_ : Int) < _) | (with_reducible show (_ : Nat) ≤ _) | (with_reducible show (_ : Nat) < _) | (conv => whnf)
    refine loop_ok tys_ok (l := []) trivial (by kernel_rfl) (X := Nat × Int × Int × (Nat → Int))
      (fun | (i, lo, hi, d) => ⟨[(6, vx (.int .i64 i)), (4, vx (.int .u64 lo)), (5, vx (.int .u64 hi)), (3, .va (.c (.own 2 0))), (2, .va (.c (.own 1 0)))], [(1, .cells [.d (ut (0)), .d (ut (0)), .d (ut (0)), .d (ut (0)), .d (ut (0)), .d (ut (0)), .d (ut (0)), .d (ut (0))]), (2, .cells [.d (ut (d 0)), .d (ut (d 1)), .d (ut (d 2)), .d (ut (d 3)), .d (ut (d 4)), .d (ut (d 5)), .d (ut (d 6)), .d (ut (d 7))])], 3, 30⟩)
      (fun | (i, _) => 4 - i) (fun | (i, lo, hi, d) => ((0 ≤ lo ∧ lo < 18446744073709551616) ∧ 0 ≤ hi ∧ hi < 18446744073709551616) ∧ i ≤ 4 ∧ lo = l0 / pw i ∧ hi = h0 % 18446744073709551616 / pw i ∧ (0 < i → d 0 = dgt ⟨h0, l0⟩ 0 ∧ d 4 = dgt ⟨h0, l0⟩ 4) ∧ (1 < i → d 1 = dgt ⟨h0, l0⟩ 1 ∧ d 5 = dgt ⟨h0, l0⟩ 5) ∧ (2 < i → d 2 = dgt ⟨h0, l0⟩ 2 ∧ d 6 = dgt ⟨h0, l0⟩ 6) ∧ (3 < i → d 3 = dgt ⟨h0, l0⟩ 3 ∧ d 7 = dgt ⟨h0, l0⟩ 7)) [4, 5] [2]
      (fun | (i, _), [t, u], [b] => (i + 1, iT t, iT u, aB b) | x, _, _ => x) [0, 1, 2] [0, 1, 2] 0 0 (0, l0, IntKind.wrap .u64 h0, fun _ => 0) ?_ ?_ ?_
    · rw [wU]; simp only [Wd.ok, pw] at *; omega
    · repeat' (first | exact trivial | exact rfl | (intro _ _; exact rfl) | refine ⟨?_, ?_⟩)
    · rintro ⟨i, lo, hi, d⟩ ⟨⟨⟨k1, k2⟩, k3, k4⟩, h1, h2, h3, h4⟩
      repeat' (first | exact trivial | refine ⟨?_, ?_⟩ | intro _)
      all_goals first | (with_reducible show (_ : Int) ≤ _) | (with_reducible show (_ : Int) < _) | (with_reducible show (_ : Nat) ≤ _) | (with_reducible show (_ : Nat) < _) | (conv => whnf)
      all_goals first | with_reducible rfl | ((with_reducible show idsOk _ _ = true); rfl) | (exact absurd ‹(65536 : Int) = 0› (by decide)) | (clear hp; rcases (show i = 0 ∨ i = 1 ∨ i = 2 ∨ i = 3 ∨ i = 4 by omega) with rfl | rfl | rfl | rfl | rfl <;> first | omega | (simp [aB, csB, cI, pw, iT, wU, wI, dgt, Wd.ok, Int.tdiv_eq_ediv_of_nonneg, Int.tmod_eq_emod_of_nonneg, k1, k3] at * <;> omega))
  · cases h
def hor (a b c d : Int) : Nat → Int
  | 0 => a + 65536 * (b + 65536 * (c + 65536 * d))
  | 1 => b + 65536 * (c + 65536 * d)
  | 2 => c + 65536 * d
  | 3 => d
  | _ => 0

def FWide : List Ar → Option Rs
  | [.agg [.d (.v (.int .u64 q0_0)), .d (.v (.int .u64 q0_1)), .d (.v (.int .u64 q0_2)), .d (.v (.int .u64 q0_3)), .d (.v (.int .u64 q0_4)), .d (.v (.int .u64 q0_5)), .d (.v (.int .u64 q0_6)), .d (.v (.int .u64 q0_7))]] => some ⟨(((0 ≤ q0_0 ∧ q0_0 < 65536) ∧ (0 ≤ q0_1 ∧ q0_1 < 65536) ∧ (0 ≤ q0_2 ∧ q0_2 < 65536) ∧ (0 ≤ q0_3 ∧ q0_3 < 65536) ∧ (0 ≤ q0_4 ∧ q0_4 < 65536) ∧ (0 ≤ q0_5 ∧ q0_5 < 65536) ∧ (0 ≤ q0_6 ∧ q0_6 < 65536) ∧ (0 ≤ q0_7 ∧ q0_7 < 65536))), .va (Wd.ar (wd (w8 q0_0 q0_1 q0_2 q0_3 q0_4 q0_5 q0_6 q0_7))), []⟩
  | _ => none
set_option maxHeartbeats 1000000 in
set_option maxRecDepth 100000 in
theorem fcWide : FC Try.prog 58 FWide := by
  intro xs pre r us h hp
  unfold FWide at h
  split at h
  · rename_i q0_0 q0_1 q0_2 q0_3 q0_4 q0_5 q0_6 q0_7
    cases h
    have hp0 := hp
    refine fcat tys_ok (l := []) trivial Try.func58 rfl (by kernel_rfl) false ?_
    repeat' (first | exact trivial | refine ⟨?_, ?_⟩ | intro _)
    all_goals first | (with_reducible show (_ : Int) ≤ _) | (with_reducible show (_ : Int) < _) | (with_reducible show (_ : Nat) ≤ _) | (with_reducible show (_ : Nat) < _) | (conv => whnf)
    refine loop_ok tys_ok (l := []) trivial (by kernel_rfl) (X := Nat × Int × Int)
      (fun | (n, lo, hi) => ⟨[(5, vx (.int .i64 ((n : Int) - 1))), (3, vx (.int .u64 lo)), (4, vx (.int .u64 hi)), (1, .va (.c (.own 0 0))), (2, .va (.c (.own 1 0)))], [(0, .cells [.d (ut (q0_0)), .d (ut (q0_1)), .d (ut (q0_2)), .d (ut (q0_3)), .d (ut (q0_4)), .d (ut (q0_5)), .d (ut (q0_6)), .d (ut (q0_7))]), (1, .cells [.d (it 0), .d (ut 0)])], 2, 27⟩)
      (fun | (n, _) => n) (fun | (n, lo, hi) => n ≤ 4 ∧ lo = hor q0_0 q0_1 q0_2 q0_3 n ∧ hi = hor q0_4 q0_5 q0_6 q0_7 n) [3, 4] []
      (fun | (n, _), [t, u], _ => (n - 1, iT t, iT u) | x, _, _ => x) [0, 1] [0, 1] 0 0 (4, 0, 0) ?_ ?_ ?_
    · exact ⟨Nat.le_refl _, rfl, rfl⟩
    · repeat' (first | exact trivial | exact rfl | (intro _ _; exact rfl) | refine ⟨?_, ?_⟩)
    · rintro ⟨n, lo, hi⟩ ⟨h1, h2, h3⟩
      repeat' (first | exact trivial | refine ⟨?_, ?_⟩ | intro _)
      all_goals first | (with_reducible show (_ : Int) ≤ _) | (with_reducible show (_ : Int) < _) | (with_reducible show (_ : Nat) ≤ _) | (with_reducible show (_ : Nat) < _) | (conv => whnf)
      all_goals first | with_reducible rfl | ((with_reducible show idsOk _ _ = true); rfl) | (exact absurd ‹(65536 : Int) = 0› (by decide)) | (clear hp; rcases (show n = 0 ∨ n = 1 ∨ n = 2 ∨ n = 3 ∨ n = 4 by omega) with rfl | rfl | rfl | rfl | rfl <;> first | omega | (simp [hor, w8, iT, wU, wI, wd, selI] at * <;> omega))
  · cases h
def FRAdd : List Ar → Option Rs
  | [.agg [.d (.v (.int .i64 h0)), .d (.v (.int .u64 l0))], .agg [.d (.v (.int .i64 h1)), .d (.v (.int .u64 l1))]] => some ⟨(Wd.ok ⟨h0, l0⟩) ∧ (Wd.ok ⟨h1, l1⟩), .va (Wd.ar (wd (Wd.val (⟨h0, l0⟩ : Wd) + Wd.val (⟨h1, l1⟩ : Wd)))), []⟩
  | _ => none
set_option maxHeartbeats 1000000 in
set_option maxRecDepth 100000 in
theorem fcRAdd : FC Try.prog 29 FRAdd := by
  intro xs pre r us h hp
  unfold FRAdd at h
  split at h
  · rename_i h0 l0 h1 l1
    cases h
    obtain ⟨hp0, hp1⟩ := hp
    refine fcat tys_ok (l := [(57, ⟨[], FDigits⟩), (58, ⟨[], FWide⟩)]) ⟨fcDigits, fcWide, trivial⟩ Try.func29 rfl (by kernel_rfl) false ?_
    repeat' (first | exact trivial | refine ⟨?_, ?_⟩ | intro _)
    all_goals first | (with_reducible show (_ : Int) ≤ _) | (with_reducible show (_ : Int) < _) | (with_reducible show (_ : Nat) ≤ _) | (with_reducible show (_ : Nat) < _) | (conv => whnf)
    all_goals first | ((with_reducible show ASat _ _ _ _ _); skip) | (simp only [Wd.ok] at *; omega)
    refine loop_ok tys_ok (l := [(57, ⟨[], FDigits⟩), (58, ⟨[], FWide⟩)]) ⟨fcDigits, fcWide, trivial⟩ (by kernel_rfl) (X := Nat × Int × (Nat → Int))
      (fun | (i, c, d) => ⟨[(8, vx (.int .i64 i)), (7, vx (.int .u64 c)), (5, .va (.c (.own 3 0))), (6, .va (.c (.own 4 0))), (4, .va (.c (.own 2 0)))], [(2, .cells [.d (it 0), .d (ut 0)]), (3, .cells [.d (ut (d 0)), .d (ut (d 1)), .d (ut (d 2)), .d (ut (d 3)), .d (ut (d 4)), .d (ut (d 5)), .d (ut (d 6)), .d (ut (d 7))]), (4, .cells [.d (ut (dgt ⟨h1, l1⟩ 0)), .d (ut (dgt ⟨h1, l1⟩ 1)), .d (ut (dgt ⟨h1, l1⟩ 2)), .d (ut (dgt ⟨h1, l1⟩ 3)), .d (ut (dgt ⟨h1, l1⟩ 4)), .d (ut (dgt ⟨h1, l1⟩ 5)), .d (ut (dgt ⟨h1, l1⟩ 6)), .d (ut (dgt ⟨h1, l1⟩ 7))])], 5, 35⟩)
      (fun | (i, _) => 8 - i) (fun | (i, c, d) => i ≤ 8 ∧ (0 ≤ c ∧ c ≤ 1) ∧ preS i d + c * pw8 i = preS i (dgt ⟨h0, l0⟩) + preS i (dgt ⟨h1, l1⟩) ∧ ((0 ≤ d 0 ∧ d 0 < 65536) ∧ (0 ≤ d 1 ∧ d 1 < 65536) ∧ (0 ≤ d 2 ∧ d 2 < 65536) ∧ (0 ≤ d 3 ∧ d 3 < 65536) ∧ (0 ≤ d 4 ∧ d 4 < 65536) ∧ (0 ≤ d 5 ∧ d 5 < 65536) ∧ (0 ≤ d 6 ∧ d 6 < 65536) ∧ (0 ≤ d 7 ∧ d 7 < 65536)) ∧ (i ≤ 0 → d 0 = dgt ⟨h0, l0⟩ 0) ∧ (i ≤ 1 → d 1 = dgt ⟨h0, l0⟩ 1) ∧ (i ≤ 2 → d 2 = dgt ⟨h0, l0⟩ 2) ∧ (i ≤ 3 → d 3 = dgt ⟨h0, l0⟩ 3) ∧ (i ≤ 4 → d 4 = dgt ⟨h0, l0⟩ 4) ∧ (i ≤ 5 → d 5 = dgt ⟨h0, l0⟩ 5) ∧ (i ≤ 6 → d 6 = dgt ⟨h0, l0⟩ 6) ∧ (i ≤ 7 → d 7 = dgt ⟨h0, l0⟩ 7)) [7] [3]
      (fun | (i, _), [t], [b] => (i + 1, iT t, aB b) | x, _, _ => x) [0, 1, 2, 3, 4] [0, 1, 2, 7, 8] 0 0 (0, 0, dgt ⟨h0, l0⟩) ?_ ?_ ?_
    · refine ⟨by omega, by omega, rfl, ?_, ?_⟩
      · exact ⟨dgt_bound _ _, dgt_bound _ _, dgt_bound _ _, dgt_bound _ _, dgt_bound _ _, dgt_bound _ _, dgt_bound _ _, dgt_bound _ _⟩
      · simp
    · repeat' (first | exact trivial | exact rfl | (intro _ _; exact rfl) | refine ⟨?_, ?_⟩)
    · rintro ⟨i, c, d⟩ ⟨k1, k2, k3, k4, k5⟩
      have kk : i = 8 → wd (w8 (d 0) (d 1) (d 2) (d 3) (d 4) (d 5) (d 6) (d 7)) = wd (Wd.val ⟨h0, l0⟩ + Wd.val ⟨h1, l1⟩) := fun e => by subst e; exact add_key hp0 hp1 (c := c) k3
      repeat' (first | exact trivial | refine ⟨?_, ?_⟩ | intro _)
      all_goals first | (with_reducible show (_ : Int) ≤ _) | (with_reducible show (_ : Int) < _) | (with_reducible show (_ : Nat) ≤ _) | (with_reducible show (_ : Nat) < _) | (conv => whnf)
      all_goals first | with_reducible rfl | ((with_reducible show idsOk _ _ = true); rfl) | (exact absurd ‹(65536 : Int) = 0› (by decide)) | omega | (simp only [decide_eq_false_iff_not] at *; rw [kk (by omega)]) | (clear kk; have a0 := dgt_bound ⟨h0, l0⟩ 0; have b0 := dgt_bound ⟨h1, l1⟩ 0; have a1 := dgt_bound ⟨h0, l0⟩ 1; have b1 := dgt_bound ⟨h1, l1⟩ 1; have a2 := dgt_bound ⟨h0, l0⟩ 2; have b2 := dgt_bound ⟨h1, l1⟩ 2; have a3 := dgt_bound ⟨h0, l0⟩ 3; have b3 := dgt_bound ⟨h1, l1⟩ 3; have a4 := dgt_bound ⟨h0, l0⟩ 4; have b4 := dgt_bound ⟨h1, l1⟩ 4; have a5 := dgt_bound ⟨h0, l0⟩ 5; have b5 := dgt_bound ⟨h1, l1⟩ 5; have a6 := dgt_bound ⟨h0, l0⟩ 6; have b6 := dgt_bound ⟨h1, l1⟩ 6; have a7 := dgt_bound ⟨h0, l0⟩ 7; have b7 := dgt_bound ⟨h1, l1⟩ 7; rcases (show i = 0 ∨ i = 1 ∨ i = 2 ∨ i = 3 ∨ i = 4 ∨ i = 5 ∨ i = 6 ∨ i = 7 ∨ i = 8 by omega) with rfl | rfl | rfl | rfl | rfl | rfl | rfl | rfl | rfl <;> first | omega | (simp [aB, csB, cI, iT, wU, wI, preS, pw8, selI, tdivM, tmodM] at * <;> omega) | trace_state)
  · cases h

end Go.Proofs.Ytbfinmfdcbghfaa
