/- Counts as floats. -/
import Derived.Test.YtdjkcdgngdbdjaaTys
namespace Go.Proofs.Ytdjkcdgngdbdjaa
set_option linter.all false
open Go.Sx

section
open Ieee

def fl (n : Nat) : Nat := FloatKind.nearest .f64 n

theorem log2_pow {n k : Nat} (hn : 0 < n) : (n * 2 ^ k).log2 = n.log2 + k := by
  have h0 : n ≠ 0 := by omega
  have h1 : n * 2 ^ k ≠ 0 := Nat.mul_ne_zero h0 (by simp)
  rw [Nat.log2_eq_iff h1, Nat.pow_add]
  refine ⟨Nat.mul_le_mul_right _ (Nat.log2_self_le h0), ?_⟩
  rw [show n.log2 + k + 1 = n.log2 + 1 + k by omega, Nat.pow_add]
  exact Nat.mul_lt_mul_of_pos_right Nat.lt_log2_self (Nat.pos_of_ne_zero (by simp))

theorem cut_zero (way : Toward) (n : Nat) : way.cut false n 0 = n := by
  unfold Toward.cut
  cases way <;> simp [Nat.mod_one]

theorem cut_pow (way : Toward) {n k d : Nat} (hn : 0 < n) (hd : d ≤ k) : way.cut false (n * 2 ^ k) d = n * 2 ^ (k - d) := by
  have hmin : min d ((n * 2 ^ k).log2 + 2) = d := by rw [log2_pow hn]; omega
  have hg : 1 <<< d = 2 ^ d := by rw [Nat.shiftLeft_eq, Nat.one_mul]
  have hp : n * 2 ^ k = n * 2 ^ (k - d) * 2 ^ d := by
    rw [Nat.mul_assoc, ← Nat.pow_add]; congr 2; omega
  have hpos : 0 < 2 ^ d := Nat.pos_of_ne_zero (by simp)
  have hdiv : n * 2 ^ k / 2 ^ d = n * 2 ^ (k - d) := by rw [hp, Nat.mul_div_cancel _ hpos]
  have hmod : n * 2 ^ k % 2 ^ d = 0 := by rw [hp, Nat.mul_mod_left]
  unfold Toward.cut
  simp only [hmin, hg, hdiv, hmod]
  have : (2 ^ d == 2 * 0) = false := by
    simp
  cases way <;> simp

theorem near_pow {n k : Nat} (hk : k ≤ 1074) (hn : n ≤ 2 ^ 53) : double.nearest false (n * 2 ^ k) (-(k : Int)) = double.nearest false n 0 := by
  rcases Nat.eq_zero_or_pos n with rfl | hp
  · simp [Format.nearest]
  · have hL : n.log2 ≤ 53 := by
      have := Nat.log2_self_le (n := n) (by omega)
      have h2 : 2 ^ n.log2 ≤ 2 ^ 53 := Nat.le_trans this hn
      exact (Nat.pow_le_pow_iff_right (by omega)).1 h2
    have hne : n * 2 ^ k ≠ 0 := Nat.mul_ne_zero (by omega) (by simp)
    have hf : (double.fractionBits : Int) = 52 := rfl
    have hl : double.leastPlace = -1074 := rfl
    unfold Format.nearest
    rw [if_neg hne, if_neg (by omega), log2_pow hp, hf, hl]
    have e1 : max (-(k : Int) + ((n.log2 + k : Nat) : Int) - 52) (-1074) = (n.log2 : Int) - 52 := by omega
    have e2 : max ((0 : Int) + (n.log2 : Int) - 52) (-1074) = (n.log2 : Int) - 52 := by omega
    simp only [e1, e2]
    have key : Toward.even.cut false ((n * 2 ^ k) <<< (-(k : Int) - (n.log2 - 52)).toNat) ((n.log2 : Int) - 52 - -(k : Int)).toNat =
        Toward.even.cut false (n <<< ((0 : Int) - (n.log2 - 52)).toNat) ((n.log2 : Int) - 52 - 0).toNat := by
      rw [Nat.shiftLeft_eq, Nat.shiftLeft_eq]
      by_cases h53 : n.log2 = 53
      · have : n = 2 ^ 53 := by
          have := Nat.log2_self_le (n := n) (by omega)
          rw [h53] at this
          omega
        subst this
        rw [h53]
        have e3 : (-(k : Int) - ((53 : Nat) - 52)).toNat = 0 := by omega
        have e4 : (((53 : Nat) : Int) - 52 - -(k : Int)).toNat = k + 1 := by omega
        have e5 : ((0 : Int) - ((53 : Nat) - 52)).toNat = 0 := by omega
        have e6 : (((53 : Nat) : Int) - 52 - 0).toNat = 1 := by omega
        rw [e3, e4, e5, e6]
        have q1 : (2 : Nat) ^ 53 * 2 ^ k * 2 ^ 0 = 2 ^ 52 * 2 ^ (k + 1) := by
          rw [Nat.pow_zero, Nat.mul_one, Nat.pow_succ]; omega
        rw [q1, cut_pow _ (by decide) (Nat.le_refl _)]
        simp; rfl
      · have hL : n.log2 ≤ 52 := by omega
        have e6 : ((n.log2 : Int) - 52 - 0).toNat = 0 := by omega
        have e5 : ((0 : Int) - (n.log2 - 52)).toNat = 52 - n.log2 := by omega
        rw [e5, e6, cut_zero, Nat.mul_assoc, ← Nat.pow_add]
        rw [cut_pow _ hp (by omega)]
        congr 2; omega
    rw [key]

theorem read_fl {n : Nat} (hn : n < 2 ^ 53) : ∃ k : Nat, k ≤ 1074 ∧ double.read (fl n) = .number false (n * 2 ^ k) (-(k : Int)) := by
  have hfl : fl n = double.nearest false n 0 := by
    unfold fl FloatKind.nearest FloatKind.encode FloatKind.format Format.write
    simp
    rfl
  rw [hfl]
  rcases Nat.eq_zero_or_pos n with rfl | hp
  · obtain ⟨k, hk⟩ : ∃ k, k = 1074 := ⟨_, rfl⟩
    refine ⟨k, by omega, ?_⟩
    have : double.nearest false 0 0 = 0 := by simp [Format.nearest, Format.word]
    rw [this, Nat.zero_mul, hk]
    decide
  · have hL : n.log2 ≤ 52 := by
      have := Nat.log2_self_le (n := n) (by omega)
      have h2 : 2 ^ n.log2 < 2 ^ 53 := Nat.lt_of_le_of_lt this hn
      have := (Nat.pow_lt_pow_iff_right (a := 2) (by omega)).1 h2
      omega
    refine ⟨52 - n.log2, by omega, ?_⟩
    have hw : double.nearest false n 0 = (n.log2 + 1022) * (2 ^ 52 : Nat) + n * 2 ^ (52 - n.log2) := by
      have hf : (double.fractionBits : Int) = 52 := rfl
      have hl : double.leastPlace = -1074 := rfl
      unfold Format.nearest
      rw [if_neg (by omega), hf, hl]
      have e2 : max ((0 : Int) + (n.log2 : Int) - 52) (-1074) = (n.log2 : Int) - 52 := by omega
      simp only [e2]
      have e6 : ((n.log2 : Int) - 52 - 0).toNat = 0 := by omega
      have e5 : ((0 : Int) - (n.log2 - 52)).toNat = 52 - n.log2 := by omega
      have e7 : ((n.log2 : Int) - 52 - -1074).toNat = n.log2 + 1022 := by omega
      rw [e5, e6, e7, cut_zero, Nat.shiftLeft_eq]
      have hb : double.binade = 2 ^ 52 := rfl
      have hi : double.infRung = 2047 * 2 ^ 52 := by decide
      rw [hb, hi]
      have hlt : n * 2 ^ (52 - n.log2) < 2 ^ 53 := by
        have h1 : n < 2 ^ (n.log2 + 1) := Nat.lt_log2_self
        calc n * 2 ^ (52 - n.log2) < 2 ^ (n.log2 + 1) * 2 ^ (52 - n.log2) := Nat.mul_lt_mul_of_pos_right h1 (Nat.pos_of_ne_zero (by simp))
          _ = 2 ^ 53 := by rw [← Nat.pow_add]; congr 1; omega
      unfold Format.word
      simp only [Bool.false_eq_true, if_false]
      generalize n * 2 ^ (52 - n.log2) = x at hlt ⊢
      refine Nat.min_eq_left ?_
      have hl2 : n.log2 + 1022 ≤ 1074 := by omega
      have := Nat.mul_le_mul_right (2 ^ 52) hl2
      exact Nat.le_trans (Nat.add_le_add this (Nat.le_of_lt hlt)) (by decide)
    have hlt : n * 2 ^ (52 - n.log2) < 2 ^ 53 := by
      have h1 : n < 2 ^ (n.log2 + 1) := Nat.lt_log2_self
      calc n * 2 ^ (52 - n.log2) < 2 ^ (n.log2 + 1) * 2 ^ (52 - n.log2) := Nat.mul_lt_mul_of_pos_right h1 (Nat.pos_of_ne_zero (by simp))
        _ = 2 ^ 53 := by rw [← Nat.pow_add]; congr 1; omega
    have hge : 2 ^ 52 ≤ n * 2 ^ (52 - n.log2) := by
      have h1 := Nat.log2_self_le (n := n) (by omega)
      calc 2 ^ 52 = 2 ^ n.log2 * 2 ^ (52 - n.log2) := by rw [← Nat.pow_add]; congr 1; omega
        _ ≤ n * 2 ^ (52 - n.log2) := Nat.mul_le_mul_right _ h1
    generalize n * 2 ^ (52 - n.log2) = x at *
    have hb : double.binade = 2 ^ 52 := rfl
    have hi : double.infRung = 2047 * 2 ^ 52 := by decide
    have hs : double.signWeight = 2 ^ 63 := by decide
    have hl : double.leastPlace = -1074 := rfl
    unfold Format.read
    rw [hw, hb, hi, hs, hl]
    have m1 : ((n.log2 + 1022) * 2 ^ 52 + x) / 2 ^ 63 % 2 = 0 := by omega
    have m2 : ((n.log2 + 1022) * 2 ^ 52 + x) % 2 ^ 63 = (n.log2 + 1022) * 2 ^ 52 + x := by omega
    simp only [m1, m2]
    rw [if_neg (by omega), if_pos (by omega)]
    have m3 : 2 ^ 52 + ((n.log2 + 1022) * 2 ^ 52 + x) % 2 ^ 52 = x := by omega
    have m4 : ((n.log2 + 1022) * 2 ^ 52 + x) / 2 ^ 52 = n.log2 + 1023 := by omega
    rw [m3, m4]
    simp
    omega

theorem signed_pos (m u : Nat) : signed false m u = ((m * 2 ^ u : Nat) : Int) := by
  unfold signed; simp [Nat.shiftLeft_eq]

theorem shifted {n k b : Nat} (hk : k ≤ b) : signed false (n * 2 ^ k) (-(k : Int) - (-(b : Int))).toNat = ((n * 2 ^ b : Nat) : Int) := by
  rw [signed_pos, Nat.mul_assoc, ← Nat.pow_add]
  have : k + (-(k : Int) - (-(b : Int))).toNat = b := by omega
  rw [this]

theorem add_fl {a b : Nat} (ha : a < 2 ^ 53) (hb : b < 2 ^ 53) (hab : a + b ≤ 2 ^ 53) : double.add (fl a) (fl b) = some (fl (a + b)) := by
  obtain ⟨i, hi, e1⟩ := read_fl ha
  obtain ⟨j, hj, e2⟩ := read_fl hb
  unfold Format.add
  rw [e1, e2]
  simp only [Datum.sum]
  have hm : min (-(i : Int)) (-(j : Int)) = -((max i j : Nat) : Int) := by omega
  rw [hm, shifted (Nat.le_max_left i j), shifted (Nat.le_max_right i j)]
  have hs : ((a * 2 ^ max i j : Nat) : Int) + ((b * 2 ^ max i j : Nat) : Int) = (((a + b) * 2 ^ max i j : Nat) : Int) := by
    rw [Nat.add_mul, Int.natCast_add]
  rw [hs, Int.natAbs_natCast]
  have hn : (if (((a + b) * 2 ^ max i j : Nat) : Int) = 0 then (false && false) else decide ((((a + b) * 2 ^ max i j : Nat) : Int) < 0)) = false := by
    split
    · rfl
    · exact decide_eq_false (Int.not_lt.2 (Int.natCast_nonneg _))
  rw [hn]
  have hw : fl (a + b) = double.nearest false (a + b) 0 := by
    unfold fl FloatKind.nearest FloatKind.encode FloatKind.format Format.write
    simp
    constructor <;> omega
  rw [Option.map_some, hw, ← near_pow (show max i j ≤ 1074 by omega) hab]
  rfl

theorem order_fl {a b : Nat} (ha : a < 2 ^ 53) (hb : b < 2 ^ 53) : double.order (fl a) (fl b) = some (compare a b) := by
  obtain ⟨i, hi, e1⟩ := read_fl ha
  obtain ⟨j, hj, e2⟩ := read_fl hb
  unfold Format.order
  rw [e1, e2]
  simp only [Datum.order]
  have hm : min (-(i : Int)) (-(j : Int)) = -((max i j : Nat) : Int) := by omega
  rw [hm, shifted (Nat.le_max_left i j), shifted (Nat.le_max_right i j)]
  congr 1
  have hp : 0 < 2 ^ max i j := Nat.pos_of_ne_zero (by simp)
  rcases Nat.lt_trichotomy a b with h | h | h
  · rw [Nat.compare_eq_lt.2 h]
    have := Nat.mul_lt_mul_of_pos_right h hp
    rw [Int.compare_eq_lt]; omega
  · subst h; simp
  · rw [Nat.compare_eq_gt.2 h]
    have := Nat.mul_lt_mul_of_pos_right h hp
    rw [Int.compare_eq_gt]; omega

theorem toInt_fl {n : Nat} (hn : n < 2 ^ 53) : (FloatKind.decode .f64 (fl n)).toInt .zero = some (n : Int) := by
  obtain ⟨k, hk, e⟩ := read_fl hn
  have e : FloatKind.decode .f64 (fl n) = .number false (n * 2 ^ k) (-(k : Int)) := e
  rw [e]
  unfold Datum.toInt Datum.integral
  have h1 : (-(k : Int)).toNat = 0 := by omega
  have h2 : (-(-(k : Int))).toNat = k := by omega
  simp only [h1, h2, Nat.shiftLeft_zero]
  rcases Nat.eq_zero_or_pos n with rfl | hp
  · simp [Toward.cut, signed]
  · rw [cut_pow _ hp (Nat.le_refl k), signed_pos]; simp

theorem neg_fl {n : Nat} (hn : n < 2 ^ 53) : (FloatKind.decode .f64 (fl n)).neg = false := by
  obtain ⟨k, hk, e⟩ := read_fl hn
  have e : FloatKind.decode .f64 (fl n) = .number false (n * 2 ^ k) (-(k : Int)) := e
  rw [e]; rfl


end
/-- a count as a float -/
def isF (x : Nat) : Prop := ∃ a, a ≤ 9007199254740992 ∧ x = fl a
def un (x : Nat) : Nat := (((FloatKind.decode .f64 x).toInt .zero).getD 0).toNat
theorem un_fl {a : Nat} (h : a ≤ 9007199254740992) : un (fl a) = a := by
  rcases Nat.lt_or_eq_of_le h with h | rfl
  · unfold un; rw [toInt_fl h]; rfl
  · decide
theorem pr_min {P : Program} {ts : Array TypeId} {ty : TypeId} {a : Nat} (h : a ≤ 9007199254740992) : pureRun P (Builtin.min_ ts ty #[.float .f64 (fl a), .float .f64 4841369599423283200]) = some (.float .f64 (fl (min a 4503599627370496))) := by
  have e : (4841369599423283200 : Nat) = fl 4503599627370496 := by decide
  rw [e]
  rcases Nat.lt_or_eq_of_le h with h | rfl
  · have ho : FloatKind.f64.format.order (fl a) (fl 4503599627370496) = _ := order_fl h (show 4503599627370496 < 2 ^ 53 by decide)
    have hn := neg_fl h
    simp only [Builtin.min_, List.foldlM, Builtin.min2, ho]
    rcases Nat.lt_trichotomy a 4503599627370496 with h1 | h1 | h1
    · rw [Nat.compare_eq_lt.2 h1, Nat.min_eq_left (Nat.le_of_lt h1)]; rfl
    · subst h1
      rw [Nat.compare_eq_eq.2 rfl]
      rw [Nat.min_self]
      show some (Value.float .f64 (if _ then _ else _)) = _
      rw [hn]; rfl
    · rw [Nat.compare_eq_gt.2 h1, Nat.min_eq_right (Nat.le_of_lt h1)]; rfl
  · rfl

def FCut : List Ar → Option Rs
  | [.c (.d (.v (.complex .f64 x0 y0)))] => some ⟨(isF x0 ∧ isF y0), .va (.c (.d (.v (.complex .f64 (fl (min (un x0) 4503599627370496)) (fl (min (un y0) 4503599627370496)))))), []⟩
  | _ => none
set_option maxHeartbeats 2000000 in
set_option maxRecDepth 100000 in
theorem fcCut : FC Try.prog 15 FCut := by
  intro xs pre r us h hp
  unfold FCut at h
  split at h
  · rename_i x0 y0
    cases h
    have hp0 := hp
    refine fcat tys_ok (l := []) trivial Try.func15 rfl (by kernel_rfl) false ?_
    obtain ⟨⟨a, ha, rfl⟩, b, hb, rfl⟩ := hp0
    rw [un_fl ha, un_fl hb]
    repeat' (first | exact trivial | refine ⟨?_, ?_⟩ | intro _)
    all_goals first | (with_reducible show (_ : Int) ≤ _) | (with_reducible show (_ : Int) < _) | (with_reducible show (_ : Nat) ≤ _) | (with_reducible show (_ : Nat) < _) | (conv => whnf)
    rw [pr_min ha]
    repeat' (first | exact trivial | refine ⟨?_, ?_⟩ | intro _)
    all_goals first | (with_reducible show (_ : Int) ≤ _) | (with_reducible show (_ : Int) < _) | (with_reducible show (_ : Nat) ≤ _) | (with_reducible show (_ : Nat) < _) | (conv => whnf)
    rw [pr_min hb]
    repeat' (first | exact trivial | refine ⟨?_, ?_⟩ | intro _)
    all_goals first | (with_reducible show (_ : Int) ≤ _) | (with_reducible show (_ : Int) < _) | (with_reducible show (_ : Nat) ≤ _) | (with_reducible show (_ : Nat) < _) | (conv => whnf)
  · cases h
theorem fl0 : fl 0 = 0 := by decide
/-- a number as a count by which one grows -/
def grow (n : Int) : Nat := (max 0 (min n 2147483647)).toNat
theorem near_nat (n : Int) (h : 0 ≤ n) : FloatKind.nearest .f64 n = fl n.toNat := by unfold fl; rw [Int.toNat_of_nonneg h]

def FPart : List Ar → Option Rs
  | [.c (.d (.v (.int .i64 i0)))] => some ⟨(-9223372036854775808 ≤ i0 ∧ i0 < 9223372036854775808), .va (.c (.d (.v (.complex .f64 (fl (grow i0)) (fl (0)))))), []⟩
  | _ => none
set_option maxHeartbeats 2000000 in
set_option maxRecDepth 100000 in
theorem fcPart : FC Try.prog 16 FPart := by
  intro xs pre r us h hp
  unfold FPart at h
  split at h
  · rename_i i0
    cases h
    have hp0 := hp
    refine fcat tys_ok (l := []) trivial Try.func16 rfl (by kernel_rfl) false ?_
    repeat' (first | exact trivial | refine ⟨?_, ?_⟩ | intro _)
    all_goals first | (with_reducible show (_ : Int) ≤ _) | (with_reducible show (_ : Int) < _) | (with_reducible show (_ : Nat) ≤ _) | (with_reducible show (_ : Nat) < _) | (conv => whnf)
    all_goals (first | (rw [near_nat _ (by split <;> split <;> omega)]; unfold grow; rw [fl0]; congr 2; split <;> split <;> omega) | trace_state)
  · cases h
def FTurned : List Ar → Option Rs
  | [.c (.d (.v (.complex .f64 x0 y0)))] => some ⟨(isF x0 ∧ isF y0), .va (.c (.d (.v (.complex .f64 (fl (un y0)) (fl (un x0)))))), []⟩
  | _ => none
set_option maxHeartbeats 2000000 in
set_option maxRecDepth 100000 in
theorem fcTurned : FC Try.prog 17 FTurned := by
  intro xs pre r us h hp
  unfold FTurned at h
  split at h
  · rename_i x0 y0
    cases h
    have hp0 := hp
    refine fcat tys_ok (l := []) trivial Try.func17 rfl (by kernel_rfl) false ?_
    obtain ⟨⟨a, ha, rfl⟩, b, hb, rfl⟩ := hp0
    rw [un_fl ha, un_fl hb]
    repeat' (first | exact trivial | refine ⟨?_, ?_⟩ | intro _)
    all_goals first | (with_reducible show (_ : Int) ≤ _) | (with_reducible show (_ : Int) < _) | (with_reducible show (_ : Nat) ≤ _) | (with_reducible show (_ : Nat) < _) | (conv => whnf)
    all_goals trace_state
  · cases h
def cutI (n m : Int) : Int := if n < 0 then 0 else if n > m then m else n
theorem wI (n : Int) : IntKind.wrap .i64 n = (n + 9223372036854775808) % 18446744073709551616 - 9223372036854775808 := by
  simp [IntKind.wrap, IntKind.signed, IntKind.bits]
  split <;> omega
theorem wI_id (n : Int) (h0 : -9223372036854775808 ≤ n) (h1 : n < 9223372036854775808) : IntKind.wrap .i64 n = n := by rw [wI]; omega
theorem cutI_b {n m : Int} (h : 0 ≤ m) : 0 ≤ cutI n m ∧ cutI n m ≤ m := by 
  unfold cutI; split
  · omega
  · split <;> omega
def shr (e k : Int) : Int := if e + k = 0 then 0 else (1000 * k).tdiv (e + k)
theorem shr_b {e k : Int} (h0 : 0 ≤ e) (h1 : 0 ≤ k) (h2 : k ≤ 4503599627370496) (h3 : e + k ≠ 0) : 0 ≤ (1000 * k).tdiv (e + k) ∧ (1000 * k).tdiv (e + k) ≤ 4503599627370496000 := by
  have e1 : (1000 * k).tdiv (e + k) = 1000 * k / (e + k) := Int.tdiv_eq_ediv_of_nonneg (by omega)
  rw [e1]
  have a1 := Int.ediv_nonneg (show 0 ≤ 1000 * k by omega) (show 0 ≤ e + k by omega)
  have a2 := Int.ediv_le_self (e + k) (show 0 ≤ 1000 * k by omega)
  omega
theorem shr_run {e k : Int} (h0 : 0 ≤ e) (h1 : 0 ≤ k ∧ k ≤ 4503599627370496) (h3 : e + k ≠ 0) : IntKind.wrap .i64 ((1000 * k).tdiv (e + k)) = shr e k := by
  have := shr_b h0 h1.1 h1.2 h3
  rw [wI_id _ (by omega) (by omega)]; unfold shr; rw [if_neg h3]

def FRCut : List Ar → Option Rs
  | [.c (.d (.v (.int .i64 i0))), .c (.d (.v (.int .i64 i1)))] => some ⟨(-9223372036854775808 ≤ i0 ∧ i0 < 9223372036854775808) ∧ (-9223372036854775808 ≤ i1 ∧ i1 < 9223372036854775808), .va (.c (.d (.v (.int .i64 (cutI i0 i1))))), []⟩
  | _ => none
set_option maxHeartbeats 2000000 in
set_option maxRecDepth 100000 in
theorem fcRCut : FC Try.prog 8 FRCut := by
  intro xs pre r us h hp
  unfold FRCut at h
  split at h
  · rename_i i0 i1
    cases h
    obtain ⟨hp0, hp1⟩ := hp
    refine fcat tys_ok (l := []) trivial Try.func8 rfl (by kernel_rfl) false ?_
    repeat' (first | exact trivial | refine ⟨?_, ?_⟩ | intro _)
    all_goals first | (with_reducible show (_ : Int) ≤ _) | (with_reducible show (_ : Int) < _) | (with_reducible show (_ : Nat) ≤ _) | (with_reducible show (_ : Nat) < _) | (conv => whnf)
    all_goals grind [cutI]
  · cases h
def FRAdd : List Ar → Option Rs
  | [.c (.d (.v (.int .i64 i0))), .c (.d (.v (.int .i64 i1)))] => some ⟨(-9223372036854775808 ≤ i0 ∧ i0 < 9223372036854775808) ∧ (-9223372036854775808 ≤ i1 ∧ i1 < 9223372036854775808) ∧ ((0 ≤ i0 ∧ i0 ≤ 4503599627370496)), .va (.c (.d (.v (.int .i64 (cutI (i0 + cutI i1 2147483647) 4503599627370496))))), []⟩
  | _ => none
set_option maxHeartbeats 2000000 in
set_option maxRecDepth 100000 in
theorem fcRAdd : FC Try.prog 10 FRAdd := by
  intro xs pre r us h hp
  unfold FRAdd at h
  split at h
  · rename_i i0 i1
    cases h
    obtain ⟨hp0, hp1, hp2⟩ := hp
    refine fcat tys_ok (l := [(8, ⟨[], FRCut⟩)]) ⟨fcRCut, trivial⟩ Try.func10 rfl (by kernel_rfl) false ?_
    have hc := cutI_b (n := i1) (m := 2147483647) (by decide)
    have hw := wI_id (i0 + cutI i1 2147483647) (by omega) (by omega)
    repeat' (first | exact trivial | refine ⟨?_, ?_⟩ | intro _)
    all_goals first | (with_reducible show (_ : Int) ≤ _) | (with_reducible show (_ : Int) < _) | (with_reducible show (_ : Nat) ≤ _) | (with_reducible show (_ : Nat) < _) | (conv => whnf)
    all_goals first | omega | (rw [hw]; done) | (rw [hw]; omega) | trace_state
  · cases h
def FRShare : List Ar → Option Rs
  | [.c (.d (.v (.int .i64 i0))), .c (.d (.v (.int .i64 i1)))] => some ⟨(-9223372036854775808 ≤ i0 ∧ i0 < 9223372036854775808) ∧ (-9223372036854775808 ≤ i1 ∧ i1 < 9223372036854775808) ∧ ((0 ≤ i0 ∧ i0 ≤ 4503599627370496) ∧ (0 ≤ i1 ∧ i1 ≤ 4503599627370496)), .va (.c (.d (.v (.int .i64 (shr i0 i1))))), []⟩
  | _ => none
set_option maxHeartbeats 2000000 in
set_option maxRecDepth 100000 in
theorem fcRShare : FC Try.prog 13 FRShare := by
  intro xs pre r us h hp
  unfold FRShare at h
  split at h
  · rename_i i0 i1
    cases h
    obtain ⟨hp0, hp1, hp2⟩ := hp
    refine fcat tys_ok (l := []) trivial Try.func13 rfl (by kernel_rfl) false ?_
    have hw := wI_id (i0 + i1) (by omega) (by omega)
    have hv := wI_id (1000 * i1) (by omega) (by omega)
    repeat' (first | exact trivial | refine ⟨?_, ?_⟩ | intro _)
    all_goals first | (with_reducible show (_ : Int) ≤ _) | (with_reducible show (_ : Int) < _) | (with_reducible show (_ : Nat) ≤ _) | (with_reducible show (_ : Nat) < _) | (conv => whnf)
    all_goals (try rw [hw] at *)
    all_goals (try rw [hv] at *)
    all_goals (try simp only [beq_iff_eq, beq_eq_false_iff_ne, decide_eq_true_eq, decide_eq_false_iff_not, ne_eq] at *)
    all_goals first | omega | (unfold shr; rw [if_pos (by assumption)]; done) | (exact congrArg _ (shr_run (by omega) (by omega) (by omega))) | trace_state
  · cases h
theorem isF_fl {a : Nat} (h : a ≤ 9007199254740992) : isF (fl a) := ⟨a, h, rfl⟩
theorem grow_le (n : Int) : grow n ≤ 2147483647 := by unfold grow; omega
theorem isF_grow (n : Int) : isF (fl (grow n)) := isF_fl (by have := grow_le n; omega)
theorem isF_0 : isF (fl 0) := isF_fl (by omega)
theorem un_grow (n : Int) : un (fl (grow n)) = grow n := un_fl (by have := grow_le n; omega)
theorem un_0 : un (fl 0) = 0 := un_fl (by omega)
theorem pr_cadd {P : Program} {t : TypeId} {x y : Operand} {a b c d : Nat} (h1 : a + c ≤ 9007199254740992) (h2 : b + d ≤ 9007199254740992) (ha : a < 9007199254740992) (hb : b < 9007199254740992) (hc : c < 9007199254740992) (hd : d < 9007199254740992) :
    pureRun P (do eqGuard .add t x y (.complex .f64 (fl a) (fl b)) (.complex .f64 (fl c) (fl d)); binOp .add t (.complex .f64 (fl a) (fl b)) (.complex .f64 (fl c) (fl d))) = some (.complex .f64 (fl (a + c)) (fl (b + d))) := by
  have e1 : FloatKind.f64.format.add (fl a) (fl c) = _ := add_fl ha hc h1
  have e2 : FloatKind.f64.format.add (fl b) (fl d) = _ := add_fl hb hd h2
  show pureRun P (Op.complexOp .add .f64 (fl a) (fl b) (fl c) (fl d)) = _
  simp only [Op.complexOp, Op.Complex.arith, Op.floatArith, bind, Sem.bind, pure, e1, e2]
  rfl
theorem pr_toInt {P : Program} {b : Nat} (h : b < 9007199254740992) : pureRun P (Conv.floatToInt .f64 (fl b) .i64) = some (.int .i64 b) := by
  unfold Conv.floatToInt
  rw [toInt_fl h]
  simp only
  rw [if_pos (by constructor <;> simp [IntKind.min, IntKind.max, IntKind.signed, IntKind.bits] <;> omega)]
  rfl


end Go.Proofs.Ytdjkcdgngdbdjaa
