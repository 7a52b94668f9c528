/- What more functions of the reference of the wide layer compute. No condition. -/
import Derived.Test.YtbfinmfdcbghfaaR01
namespace Go.Proofs.Ytbfinmfdcbghfaa
set_option linter.all false
open Go.Sx

theorem un_val (w : Wd) (h : w.ok) : ∃ k, w.un = w.val + k * 340282366920938463463374607431768211456 := ⟨if w.hi < 0 then 1 else 0, by
  unfold Wd.ok at h; unfold Wd.un Wd.val; split <;> omega⟩
theorem val_wd (v : Int) : ∃ k, (wd v).val = v + k * 340282366920938463463374607431768211456 := ⟨-((v / 18446744073709551616 + 9223372036854775808) / 18446744073709551616), by unfold wd Wd.val; dsimp only; omega⟩
theorem wd_neg_val (v : Int) : wd (-(wd v).val) = wd (-v) := by
  obtain ⟨k, hk⟩ := val_wd v
  rw [hk, show -(v + k * 340282366920938463463374607431768211456) = -v + -k * 340282366920938463463374607431768211456 by omega, wd_shift]
theorem neg_key {a : Wd} (ha : a.ok) {d : Nat → Int} (h : (d 0 = 65535 - dgt a 0 ∧ d 1 = 65535 - dgt a 1) ∧ (d 2 = 65535 - dgt a 2 ∧ d 3 = 65535 - dgt a 3) ∧ (d 4 = 65535 - dgt a 4 ∧ d 5 = 65535 - dgt a 5) ∧ d 6 = 65535 - dgt a 6 ∧ d 7 = 65535 - dgt a 7) :
    wd (Wd.val ⟨(wd (w8 (d 0) (d 1) (d 2) (d 3) (d 4) (d 5) (d 6) (d 7))).hi, (wd (w8 (d 0) (d 1) (d 2) (d 3) (d 4) (d 5) (d 6) (d 7))).lo⟩ + Wd.val ⟨0, 1⟩) = wd (-a.val) := by
  have h2 := dgt_sum a ha
  rw [preS8] at h2
  have h3 : w8 (d 0) (d 1) (d 2) (d 3) (d 4) (d 5) (d 6) (d 7) = 340282366920938463463374607431768211456 - 1 - a.un := by unfold w8 at *; omega
  have h4 : Wd.val ⟨0, 1⟩ = 1 := by decide
  obtain ⟨k, hk⟩ := un_val a ha
  show wd ((wd (w8 (d 0) (d 1) (d 2) (d 3) (d 4) (d 5) (d 6) (d 7))).val + Wd.val ⟨0, 1⟩) = _
  rw [h4, wd_val_add, h3, hk, show 340282366920938463463374607431768211456 - 1 - (a.val + k * 340282366920938463463374607431768211456) + 1 = -a.val + (1 - k) * 340282366920938463463374607431768211456 by omega, wd_shift]
theorem of_key (n : Int) : wd (-(Wd.val ⟨(wd (Wd.val ⟨0, -(n + 1)⟩ + Wd.val ⟨0, 1⟩)).hi, (wd (Wd.val ⟨0, -(n + 1)⟩ + Wd.val ⟨0, 1⟩)).lo⟩)) = wd n := by
  show wd (-(wd (Wd.val ⟨0, -(n + 1)⟩ + Wd.val ⟨0, 1⟩)).val) = _
  rw [wd_neg_val]
  congr 1
  unfold Wd.val
  dsimp only
  omega
theorem cmp_sign {h0 l0 h1 l1 : Int} (hp0 : Wd.ok ⟨h0, l0⟩) (hp1 : Wd.ok ⟨h1, l1⟩) (h : (!decide (h0 < 0) == decide (h1 < 0)) = true) :
    (decide (h0 < 0) = true → -1 = wCmp (Wd.val ⟨h0, l0⟩) (Wd.val ⟨h1, l1⟩)) ∧ (decide (h0 < 0) = false → 1 = wCmp (Wd.val ⟨h0, l0⟩) (Wd.val ⟨h1, l1⟩)) := by
  have q : (h0 < 0 ∧ ¬ h1 < 0) ∨ (¬ h0 < 0 ∧ h1 < 0) := by
    by_cases a : h0 < 0 <;> by_cases b : h1 < 0 <;> simp_all
  clear h
  unfold Wd.ok at hp0 hp1
  dsimp only at hp0 hp1
  unfold wCmp Wd.val
  dsimp only
  constructor
  · intro h
    have h := of_decide_eq_true h
    rw [if_pos (by omega)]
  · intro h
    have h := of_decide_eq_false h
    rw [if_neg (by omega), if_pos (by omega)]
theorem cmp_un {h0 l0 h1 l1 : Int} (hp0 : Wd.ok ⟨h0, l0⟩) (hp1 : Wd.ok ⟨h1, l1⟩) (h : (!decide (h0 < 0) == decide (h1 < 0)) = false) :
    wCmp (Wd.val ⟨h0, l0⟩) (Wd.val ⟨h1, l1⟩) = wCmp (preS 8 (dgt ⟨h0, l0⟩)) (preS 8 (dgt ⟨h1, l1⟩)) := by
  rw [dgt_sum _ hp0, dgt_sum _ hp1]
  have q : (h0 < 0 ∧ h1 < 0) ∨ (¬ h0 < 0 ∧ ¬ h1 < 0) := by
    by_cases a : h0 < 0 <;> by_cases b : h1 < 0 <;> simp_all
  clear h
  unfold Wd.ok at hp0 hp1
  dsimp only at hp0 hp1
  unfold wCmp Wd.val Wd.un
  dsimp only
  split <;> split <;> first | omega | (split <;> split <;> omega) | (split <;> omega)
theorem sub_key (a b : Wd) : wd (a.val + Wd.val ⟨(wd (-b.val)).hi, (wd (-b.val)).lo⟩) = wd (a.val - b.val) := by
  show wd (a.val + (wd (-b.val)).val) = _
  rw [Int.add_comm, wd_val_add]
  congr 1; omega

def FRNeg : List Ar → Option Rs
  | [.agg [.d (.v (.int .i64 h0)), .d (.v (.int .u64 l0))]] => some ⟨(Wd.ok ⟨h0, l0⟩), .va (Wd.ar (wd (-Wd.val (⟨h0, l0⟩ : Wd)))), []⟩
  | _ => none
set_option maxHeartbeats 1000000 in
set_option maxRecDepth 100000 in
theorem fcRNeg : FC Try.prog 59 FRNeg := by
  intro xs pre r us h hp
  unfold FRNeg at h
  split at h
  · rename_i h0 l0
    cases h
    have hp0 := hp
    refine fcat tys_ok (l := [(57, ⟨[], FDigits⟩), (58, ⟨[], FWide⟩), (29, ⟨[], FRAdd⟩)]) ⟨fcDigits, fcWide, fcRAdd, trivial⟩ Try.func59 rfl (by kernel_rfl) false ?_
    repeat' (first | exact trivial | refine ⟨?_, ?_⟩ | intro _)
    all_goals first | (with_reducible show (_ : Int) ≤ _) | (with_reducible show (_ : Int) < _) | (with_reducible show (_ : Nat) ≤ _) | (with_reducible show (_ : Nat) < _) | (conv => whnf)
    all_goals first | ((with_reducible show ASat _ _ _ _ _); skip) | (simp only [Wd.ok] at *; omega)
    refine loop_ok tys_ok (l := [(57, ⟨[], FDigits⟩), (58, ⟨[], FWide⟩), (29, ⟨[], FRAdd⟩)]) ⟨fcDigits, fcWide, fcRAdd, trivial⟩ (by kernel_rfl) (X := Nat × (Nat → Int))
      (fun | (i, d) => ⟨[(4, vx (.int .i64 i)), (3, .va (.c (.own 2 0))), (2, .va (.c (.own 1 0)))], [(1, .cells [.d (it 0), .d (ut 0)]), (2, .cells [.d (ut (d 0)), .d (ut (d 1)), .d (ut (d 2)), .d (ut (d 3)), .d (ut (d 4)), .d (ut (d 5)), .d (ut (d 6)), .d (ut (d 7))])], 3, 21⟩)
      (fun | (i, _) => 8 - i) (fun | (i, d) => i ≤ 8 ∧ ((0 < i → d 0 = 65535 - dgt ⟨h0, l0⟩ 0) ∧ (i ≤ 0 → d 0 = dgt ⟨h0, l0⟩ 0)) ∧ ((1 < i → d 1 = 65535 - dgt ⟨h0, l0⟩ 1) ∧ (i ≤ 1 → d 1 = dgt ⟨h0, l0⟩ 1)) ∧ ((2 < i → d 2 = 65535 - dgt ⟨h0, l0⟩ 2) ∧ (i ≤ 2 → d 2 = dgt ⟨h0, l0⟩ 2)) ∧ ((3 < i → d 3 = 65535 - dgt ⟨h0, l0⟩ 3) ∧ (i ≤ 3 → d 3 = dgt ⟨h0, l0⟩ 3)) ∧ ((4 < i → d 4 = 65535 - dgt ⟨h0, l0⟩ 4) ∧ (i ≤ 4 → d 4 = dgt ⟨h0, l0⟩ 4)) ∧ ((5 < i → d 5 = 65535 - dgt ⟨h0, l0⟩ 5) ∧ (i ≤ 5 → d 5 = dgt ⟨h0, l0⟩ 5)) ∧ ((6 < i → d 6 = 65535 - dgt ⟨h0, l0⟩ 6) ∧ (i ≤ 6 → d 6 = dgt ⟨h0, l0⟩ 6)) ∧ ((7 < i → d 7 = 65535 - dgt ⟨h0, l0⟩ 7) ∧ (i ≤ 7 → d 7 = dgt ⟨h0, l0⟩ 7))) [] [2]
      (fun | (i, _), _, [b] => (i + 1, aB b) | x, _, _ => x) [0, 1, 2] [0, 1, 2] 0 0 (0, dgt ⟨h0, l0⟩) ?_ ?_ ?_
    · simp
    · repeat' (first | exact trivial | exact rfl | (intro _ _; exact rfl) | refine ⟨?_, ?_⟩)
    · rintro ⟨i, d⟩ ⟨k1, k5⟩
      have kk : i = 8 → _ := fun e => neg_key hp0 (d := d) (by subst e; omega)
      repeat' (first | exact trivial | refine ⟨?_, ?_⟩ | intro _)
      all_goals first | (with_reducible show (_ : Int) ≤ _) | (with_reducible show (_ : Int) < _) | (with_reducible show (_ : Nat) ≤ _) | (with_reducible show (_ : Nat) < _) | (conv => whnf)
      all_goals first | with_reducible rfl | ((with_reducible show idsOk _ _ = true); rfl) | (exact absurd ‹(65536 : Int) = 0› (by decide)) | omega | (simp only [decide_eq_false_iff_not] at *; rw [kk (by omega)]) | (exact (wd_ok _).1.1) | (exact (wd_ok _).1.2) | (exact (wd_ok _).2.1) | (exact (wd_ok _).2.2) | (clear kk; have a0 := dgt_bound ⟨h0, l0⟩ 0; have a1 := dgt_bound ⟨h0, l0⟩ 1; have a2 := dgt_bound ⟨h0, l0⟩ 2; have a3 := dgt_bound ⟨h0, l0⟩ 3; have a4 := dgt_bound ⟨h0, l0⟩ 4; have a5 := dgt_bound ⟨h0, l0⟩ 5; have a6 := dgt_bound ⟨h0, l0⟩ 6; have a7 := dgt_bound ⟨h0, l0⟩ 7; rcases (show i = 0 ∨ i = 1 ∨ i = 2 ∨ i = 3 ∨ i = 4 ∨ i = 5 ∨ i = 6 ∨ i = 7 ∨ i = 8 by omega) with rfl | rfl | rfl | rfl | rfl | rfl | rfl | rfl | rfl <;> first | omega | (simp [aB, csB, cI, iT, wU, wI, preS, pw8, selI, tdivM, tmodM] at * <;> omega) | trace_state)
  · cases h
def FRSub : List Ar → Option Rs
  | [.agg [.d (.v (.int .i64 h0)), .d (.v (.int .u64 l0))], .agg [.d (.v (.int .i64 h1)), .d (.v (.int .u64 l1))]] => some ⟨(Wd.ok ⟨h0, l0⟩) ∧ (Wd.ok ⟨h1, l1⟩), .va (Wd.ar (wd (Wd.val (⟨h0, l0⟩ : Wd) - Wd.val (⟨h1, l1⟩ : Wd)))), []⟩
  | _ => none
set_option maxHeartbeats 1000000 in
set_option maxRecDepth 100000 in
theorem fcRSub : FC Try.prog 32 FRSub := by
  intro xs pre r us h hp
  unfold FRSub at h
  split at h
  · rename_i h0 l0 h1 l1
    cases h
    obtain ⟨hp0, hp1⟩ := hp
    refine fcat tys_ok (l := [(59, ⟨[], FRNeg⟩), (29, ⟨[], FRAdd⟩)]) ⟨fcRNeg, fcRAdd, trivial⟩ Try.func32 rfl (by kernel_rfl) false ?_
    repeat' (first | exact trivial | refine ⟨?_, ?_⟩ | intro _)
    all_goals first | (with_reducible show (_ : Int) ≤ _) | (with_reducible show (_ : Int) < _) | (with_reducible show (_ : Nat) ≤ _) | (with_reducible show (_ : Nat) < _) | (conv => whnf)
    all_goals first | rfl | (exact (wd_ok _).1.1) | (exact (wd_ok _).1.2) | (exact (wd_ok _).2.1) | (exact (wd_ok _).2.2) | (simp only [Wd.ok] at *; omega) | (rw [sub_key]) | trace_state
  · cases h
def FROf : List Ar → Option Rs
  | [.c (.d (.v (.int .i64 i0)))] => some ⟨(-9223372036854775808 ≤ i0 ∧ i0 < 9223372036854775808), .va (Wd.ar (wd i0)), []⟩
  | _ => none
set_option maxHeartbeats 1000000 in
set_option maxRecDepth 100000 in
theorem fcROf : FC Try.prog 30 FROf := by
  intro xs pre r us h hp
  unfold FROf at h
  split at h
  · rename_i i0
    cases h
    have hp0 := hp
    refine fcat tys_ok (l := [(59, ⟨[], FRNeg⟩), (29, ⟨[], FRAdd⟩)]) ⟨fcRNeg, fcRAdd, trivial⟩ Try.func30 rfl (by kernel_rfl) false ?_
    repeat' (first | exact trivial | refine ⟨?_, ?_⟩ | intro _)
    all_goals first | (with_reducible show (_ : Int) ≤ _) | (with_reducible show (_ : Int) < _) | (with_reducible show (_ : Nat) ≤ _) | (with_reducible show (_ : Nat) < _) | (conv => whnf)
    all_goals (try simp only [wI, wU, decide_eq_true_eq, decide_eq_false_iff_not] at *)
    all_goals (try (rw [show ((0 - ((i0 + 1 + 9223372036854775808) % 18446744073709551616 - 9223372036854775808) + 9223372036854775808) % 18446744073709551616 - 9223372036854775808) % 18446744073709551616 = -(i0 + 1) by omega]))
    all_goals first | (exact (wd_ok _).1.1) | (exact (wd_ok _).1.2) | (exact (wd_ok _).2.1) | (exact (wd_ok _).2.2) | omega | (rw [of_key]) | (simp only [Wd.ok, wd, Value.int.injEq, true_and] at * <;> omega) | trace_state
  · cases h
def FRCmp : List Ar → Option Rs
  | [.agg [.d (.v (.int .i64 h0)), .d (.v (.int .u64 l0))], .agg [.d (.v (.int .i64 h1)), .d (.v (.int .u64 l1))]] => some ⟨(Wd.ok ⟨h0, l0⟩) ∧ (Wd.ok ⟨h1, l1⟩), .va (.c (.d (it (wCmp (Wd.val (⟨h0, l0⟩ : Wd)) (Wd.val (⟨h1, l1⟩ : Wd)))))), []⟩
  | _ => none
set_option maxHeartbeats 1000000 in
set_option maxRecDepth 100000 in
theorem fcRCmp : FC Try.prog 56 FRCmp := by
  intro xs pre r us h hp
  unfold FRCmp at h
  split at h
  · rename_i h0 l0 h1 l1
    cases h
    obtain ⟨hp0, hp1⟩ := hp
    refine fcat tys_ok (l := [(57, ⟨[], FDigits⟩)]) ⟨fcDigits, trivial⟩ Try.func56 rfl (by kernel_rfl) false ?_
    repeat' (first | exact trivial | refine ⟨?_, ?_⟩ | intro _)
    all_goals first | (with_reducible show (_ : Int) ≤ _) | (with_reducible show (_ : Int) < _) | (with_reducible show (_ : Nat) ≤ _) | (with_reducible show (_ : Nat) < _) | (conv => whnf)
    all_goals first | ((with_reducible show ASat _ _ _ _ _); skip) | (simp only [Wd.ok] at *; omega) | (rw [← (cmp_sign hp0 hp1 ‹_›).1 ‹_›]) | (rw [← (cmp_sign hp0 hp1 ‹_›).2 ‹_›]) | (trace_state; skip)
    refine loop_ok tys_ok (l := [(57, ⟨[], FDigits⟩)]) ⟨fcDigits, trivial⟩ (by kernel_rfl) (X := Nat)
      (fun n => ⟨[(7, vx (.int .i64 ((n : Int) - 1))), (5, .va (.c (.own 6 0))), (6, .va (.c (.own 7 0)))], [(6, .cells [.d (ut (dgt ⟨h0, l0⟩ 0)), .d (ut (dgt ⟨h0, l0⟩ 1)), .d (ut (dgt ⟨h0, l0⟩ 2)), .d (ut (dgt ⟨h0, l0⟩ 3)), .d (ut (dgt ⟨h0, l0⟩ 4)), .d (ut (dgt ⟨h0, l0⟩ 5)), .d (ut (dgt ⟨h0, l0⟩ 6)), .d (ut (dgt ⟨h0, l0⟩ 7))]), (7, .cells [.d (ut (dgt ⟨h1, l1⟩ 0)), .d (ut (dgt ⟨h1, l1⟩ 1)), .d (ut (dgt ⟨h1, l1⟩ 2)), .d (ut (dgt ⟨h1, l1⟩ 3)), .d (ut (dgt ⟨h1, l1⟩ 4)), .d (ut (dgt ⟨h1, l1⟩ 5)), .d (ut (dgt ⟨h1, l1⟩ 6)), .d (ut (dgt ⟨h1, l1⟩ 7))])], 8, 40⟩)
      (fun n => n) (fun n => n ≤ 8 ∧ (n ≤ 0 → dgt ⟨h0, l0⟩ 0 = dgt ⟨h1, l1⟩ 0) ∧ (n ≤ 1 → dgt ⟨h0, l0⟩ 1 = dgt ⟨h1, l1⟩ 1) ∧ (n ≤ 2 → dgt ⟨h0, l0⟩ 2 = dgt ⟨h1, l1⟩ 2) ∧ (n ≤ 3 → dgt ⟨h0, l0⟩ 3 = dgt ⟨h1, l1⟩ 3) ∧ (n ≤ 4 → dgt ⟨h0, l0⟩ 4 = dgt ⟨h1, l1⟩ 4) ∧ (n ≤ 5 → dgt ⟨h0, l0⟩ 5 = dgt ⟨h1, l1⟩ 5) ∧ (n ≤ 6 → dgt ⟨h0, l0⟩ 6 = dgt ⟨h1, l1⟩ 6) ∧ (n ≤ 7 → dgt ⟨h0, l0⟩ 7 = dgt ⟨h1, l1⟩ 7)) [] []
      (fun n _ _ => n - 1) [0, 1, 2, 3, 4, 5, 6, 7] [0, 1, 2, 3, 4, 5, 6, 7] 0 0 8 ?_ ?_ ?_
    · omega
    · repeat' (first | exact trivial | exact rfl | (intro _ _; exact rfl) | refine ⟨?_, ?_⟩)
    · rintro n ⟨k1, k5⟩
      repeat' (first | exact trivial | refine ⟨?_, ?_⟩ | intro _)
      all_goals first | (with_reducible show (_ : Int) ≤ _) | (with_reducible show (_ : Int) < _) | (with_reducible show (_ : Nat) ≤ _) | (with_reducible show (_ : Nat) < _) | (conv => whnf)
      all_goals first | with_reducible rfl | ((with_reducible show idsOk _ _ = true); rfl) | (exact absurd ‹(65536 : Int) = 0› (by decide)) | omega | (refine congrArg (Value.int IntKind.i64) ?_; rw [cmp_un hp0 hp1 ‹_›]; have a0 := dgt_bound ⟨h0, l0⟩ 0; have a1 := dgt_bound ⟨h0, l0⟩ 1; have a2 := dgt_bound ⟨h0, l0⟩ 2; have a3 := dgt_bound ⟨h0, l0⟩ 3; have a4 := dgt_bound ⟨h0, l0⟩ 4; have a5 := dgt_bound ⟨h0, l0⟩ 5; have a6 := dgt_bound ⟨h0, l0⟩ 6; have a7 := dgt_bound ⟨h0, l0⟩ 7; have b0 := dgt_bound ⟨h1, l1⟩ 0; have b1 := dgt_bound ⟨h1, l1⟩ 1; have b2 := dgt_bound ⟨h1, l1⟩ 2; have b3 := dgt_bound ⟨h1, l1⟩ 3; have b4 := dgt_bound ⟨h1, l1⟩ 4; have b5 := dgt_bound ⟨h1, l1⟩ 5; have b6 := dgt_bound ⟨h1, l1⟩ 6; have b7 := dgt_bound ⟨h1, l1⟩ 7; rcases (show n = 0 ∨ n = 1 ∨ n = 2 ∨ n = 3 ∨ n = 4 ∨ n = 5 ∨ n = 6 ∨ n = 7 ∨ n = 8 by omega) with rfl | rfl | rfl | rfl | rfl | rfl | rfl | rfl | rfl <;> simp [selI] at * <;> simp only [wCmp, preS, pw8] at * <;> first | omega | (rw [if_pos (by omega)]) | (rw [if_neg (by omega), if_pos (by omega)]) | (rw [if_neg (by omega), if_neg (by omega)])) | (rcases (show n = 0 ∨ n = 1 ∨ n = 2 ∨ n = 3 ∨ n = 4 ∨ n = 5 ∨ n = 6 ∨ n = 7 ∨ n = 8 by omega) with rfl | rfl | rfl | rfl | rfl | rfl | rfl | rfl | rfl <;> simp [selI, wI] at * <;> omega) | trace_state
  · cases h
theorem rint_lo {h l : Int} (hp : Wd.ok ⟨h, l⟩) : wCmp (Wd.val ⟨h, l⟩) (Wd.val ⟨(wd (-9223372036854775808)).hi, (wd (-9223372036854775808)).lo⟩) = wCmp (Wd.val ⟨h, l⟩) (-9223372036854775808) := by
  rw [show Wd.val ⟨(wd (-9223372036854775808)).hi, (wd (-9223372036854775808)).lo⟩ = -9223372036854775808 by decide]
theorem rint_hi {h l : Int} (hp : Wd.ok ⟨h, l⟩) : wCmp (Wd.val ⟨h, l⟩) (Wd.val ⟨(wd 9223372036854775807).hi, (wd 9223372036854775807).lo⟩) = wCmp (Wd.val ⟨h, l⟩) 9223372036854775807 := by
  rw [show Wd.val ⟨(wd 9223372036854775807).hi, (wd 9223372036854775807).lo⟩ = 9223372036854775807 by decide]
theorem wCmp_lt {a b : Int} : wCmp a b < 0 ↔ a < b := by unfold wCmp; split <;> first | omega | (split <;> omega)
theorem wCmp_gt {a b : Int} : wCmp a b > 0 ↔ b < a := by unfold wCmp; split <;> first | omega | (split <;> omega)

def FRInt : List Ar → Option Rs
  | [.agg [.d (.v (.int .i64 h0)), .d (.v (.int .u64 l0))]] => some ⟨(Wd.ok ⟨h0, l0⟩), .tup [.c (.d (it (wIntV (Wd.val (⟨h0, l0⟩ : Wd))))), .c (.d (bo (wIntB (Wd.val (⟨h0, l0⟩ : Wd)))))], []⟩
  | _ => none
set_option maxHeartbeats 1000000 in
set_option maxRecDepth 100000 in
theorem fcRInt : FC Try.prog 28 FRInt := by
  intro xs pre r us h hp
  unfold FRInt at h
  split at h
  · rename_i h0 l0
    cases h
    have hp0 := hp
    refine fcat tys_ok (l := [(30, ⟨[], FROf⟩), (56, ⟨[], FRCmp⟩)]) ⟨fcROf, fcRCmp, trivial⟩ Try.func28 rfl (by kernel_rfl) false ?_
    repeat' (first | exact trivial | refine ⟨?_, ?_⟩ | intro _)
    all_goals first | (with_reducible show (_ : Int) ≤ _) | (with_reducible show (_ : Int) < _) | (with_reducible show (_ : Nat) ≤ _) | (with_reducible show (_ : Nat) < _) | (conv => whnf)
    all_goals first | (exact (wd_ok _).1.1) | (exact (wd_ok _).1.2) | (exact (wd_ok _).2.1) | (exact (wd_ok _).2.2) | (exact hp0.1.1) | (exact hp0.1.2) | (exact hp0.2.1) | (exact hp0.2.2) | omega | skip
    all_goals (try simp only [decide_eq_true_eq, decide_eq_false_iff_not] at *)
    all_goals (simp only [rint_lo hp0, rint_hi hp0, wCmp_lt, wCmp_gt] at *)
    all_goals (try (refine congrArg Value.bool (Bool.eq_iff_iff.2 ?_)); try simp only [wIntV, wIntB, Bool.not_eq_true', Bool.not_eq_false', Bool.and_eq_true, Bool.or_eq_true, Bool.and_eq_false_imp, Bool.or_eq_false_iff, beq_iff_eq, beq_eq_false_iff_ne, ne_eq, decide_eq_true_eq, decide_eq_false_iff_not, Bool.true_eq_false, Bool.false_eq_true, true_and, and_true, false_and, and_false, imp_false, Value.int.injEq, true_iff, false_iff, iff_true, iff_false, iff_self])
    all_goals (try simp only [wU, wI, shr63, wd, Wd.val, Wd.ok, wIntV, wIntB, Bool.not_eq_true', Bool.not_eq_false', Bool.and_eq_true, Bool.or_eq_true, Bool.and_eq_false_imp, Bool.or_eq_false_iff, beq_iff_eq, beq_eq_false_iff_ne, ne_eq, decide_eq_true_eq, decide_eq_false_iff_not, Bool.true_eq_false, Bool.false_eq_true, true_and, and_true, false_and, and_false, imp_false, Value.int.injEq] at *)
    all_goals first | omega | (split <;> omega) | (split <;> split <;> omega)
  · cases h

end Go.Proofs.Ytbfinmfdcbghfaa
