/- The document's answers about joined congruences. No condition. -/
import Derived.Test.YtbfinmfdcbghfaaGreatCong2
namespace Go.Proofs.YtbfinmfdcbghfaaGreat
set_option linter.all false
open Go.Sx

theorem Cg.of_of {m r : Int} (hm : 0 ≤ m) : Cg.of m (md r m) = Cg.of m r := by
  unfold Cg.of
  rw [if_neg (by omega), if_neg (by omega)]
  congr 1
  unfold md
  split
  · rfl
  · exact Int.emod_emod_of_dvd _ (Int.dvd_refl m)
theorem Cg.clean_clean (c : Cg) : c.clean.clean = c.clean := by
  unfold Cg.clean
  cases c.some
  · simp [Cg.none]
  · simp only [if_true]
    have hs : (Cg.of c.m c.r).some = true := by unfold Cg.of; split <;> rfl
    rw [if_pos hs]
    by_cases hm : c.m < 0
    · have e : Cg.of c.m c.r = Cg.of 1 c.r := by unfold Cg.of; rw [if_pos hm, if_neg (by omega)]
      rw [e]
      have e2 : Cg.of 1 c.r = ⟨true, 1, md c.r 1⟩ := by unfold Cg.of; rw [if_neg (by omega)]
      rw [e2]
      exact (Cg.of_of (m := 1) (r := c.r) (by omega)).trans e2
    · have e2 : Cg.of c.m c.r = ⟨true, c.m, md c.r c.m⟩ := by unfold Cg.of; rw [if_neg hm]
      rw [e2]
      exact (Cg.of_of (m := c.m) (r := c.r) (by omega)).trans e2
theorem gcd_step' {a b : Int} (ha : a ≠ 0) (h0 : 0 ≤ a) (h1 : 0 ≤ b) : 0 ≤ b.tmod a ∧ b.tmod a < a ∧ Int.gcd a (b.tmod a) = Int.gcd a b := by
  obtain ⟨q1, q2, q3⟩ := gcd_step ha h1 h0
  exact ⟨q1, q2, by rw [q3, Int.gcd_comm]⟩
theorem gcd_one {a b : Int} (h0 : 0 ≤ a) (h1 : 0 ≤ b) (h : a = 0 ∨ b = 0) : (Int.gcd a b : Int) = a + b := by
  rcases h with rfl | rfl
  · rw [Int.zero_gcd, Int.natAbs_of_nonneg h1]; omega
  · rw [Int.gcd_zero, Int.natAbs_of_nonneg h0]; omega
theorem gcdJ_assoc (x y : Cg) : (Int.gcd x.m (Int.gcd y.m (apartI x.r y.r) : Int) : Int) = Cg.gcdJ x y := by
  unfold Cg.gcdJ; rw [Int.gcd_assoc]
theorem r_apart {a b : Int} (ha : -9223372036854775808 ≤ a ∧ a < 9223372036854775808) (hb : -9223372036854775808 ≤ b ∧ b < 9223372036854775808) (h : a ≥ b) : (wd (Wd.val (wd a) - Wd.val (wd b))).lo = a - b := by
  rw [wd_val (v := a) (by omega) (by omega), wd_val (v := b) (by omega) (by omega)]
  unfold wd; dsimp only; omega

def FRCGcd : List Ar → Option Rs
  | [.c (.d (.v (.int .u64 u0))), .c (.d (.v (.int .u64 u1)))] => some ⟨(0 ≤ u0 ∧ u0 < 18446744073709551616) ∧ (0 ≤ u1 ∧ u1 < 18446744073709551616), .va (.c (.d (ut ((Int.gcd u0 u1 : Int))))), []⟩
  | _ => none
set_option maxHeartbeats 2000000 in
set_option maxRecDepth 100000 in
theorem fcRCGcd : FC Tryz.prog 21 FRCGcd := by
  intro xs pre r us h hp
  unfold FRCGcd at h
  split at h
  · rename_i u0 u1
    cases h
    obtain ⟨hp0, hp1⟩ := hp
    refine fcat tys_ok (l := []) trivial Tryz.func21 rfl (by kernel_rfl) false ?_
    repeat' (first | exact trivial | refine ⟨?_, ?_⟩ | intro _)
    all_goals first | (with_reducible show (_ : Int) ≤ _) | (with_reducible show (_ : Int) < _) | (with_reducible show (_ : Nat) ≤ _) | (with_reducible show (_ : Nat) < _) | (conv => whnf)
    refine loop_ok tys_ok (l := []) trivial (by kernel_rfl) (X := Int × Int) (fun x => ⟨[(0, vx (.int .u64 x.1)), (1, vx (.int .u64 x.2))], [], 0, 23⟩) (fun x => (x.1 + x.2).toNat)
      (fun x => (0 ≤ x.1 ∧ x.1 < 18446744073709551616) ∧ (0 ≤ x.2 ∧ x.2 < 18446744073709551616) ∧ Int.gcd x.1 x.2 = Int.gcd u0 u1) [0, 1] [] (fun x xs _ => match xs with | [a, b] => (iT a, iT b) | _ => x) [] [] 0 0 (u0, u1) ?_ ?_ ?_
    · exact ⟨hp0, hp1, rfl⟩
    · repeat' (first | exact trivial | exact rfl | (intro _ _; exact rfl) | refine ⟨?_, ?_⟩)
    · rintro ⟨a, b⟩ ⟨k1, k2, k3⟩
      dsimp only at k1 k2 k3
      repeat' (first | exact trivial | refine ⟨?_, ?_⟩ | intro _)
      all_goals first | (with_reducible show (_ : Int) ≤ _) | (with_reducible show (_ : Int) < _) | (with_reducible show (_ : Nat) ≤ _) | (with_reducible show (_ : Nat) < _) | (conv => whnf)
      all_goals (try simp only [bne_iff_ne, bne_eq_false_iff_eq, ne_eq, iT, decide_eq_true_eq, decide_eq_false_iff_not, Decidable.not_not] at *)
      all_goals first | omega | ((with_reducible show idsOk _ _ = true); rfl) | (exact absurd ‹_› ‹¬ _›) | (refine congrArg (Value.int .u64) ?_; rw [← k3, gcd_one k1.1 k2.1 (by omega), wU_id _ (by omega) (by have := gcd_u k1 k2; rw [gcd_one k1.1 k2.1 (by omega)] at this; omega)]; done) | (have q := gcd_step (a := a) (b := b) ‹¬ b = 0› (by omega) (by omega); first | omega | (rw [Int.gcd_comm, q.2.2]; exact k3) | rfl) | (have q := gcd_step' (a := a) (b := b) ‹¬ a = 0› (by omega) (by omega); first | omega | (rw [q.2.2]; exact k3) | rfl) | rfl | trace_state
  · cases h
def FRCApart : List Ar → Option Rs
  | [.c (.d (.v (.int .i64 i0))), .c (.d (.v (.int .i64 i1)))] => some ⟨(-9223372036854775808 ≤ i0 ∧ i0 < 9223372036854775808) ∧ (-9223372036854775808 ≤ i1 ∧ i1 < 9223372036854775808), .va (.c (.d (ut (apartI i0 i1)))), []⟩
  | _ => none
set_option maxHeartbeats 2000000 in
set_option maxRecDepth 100000 in
theorem fcRCApart : FC Tryz.prog 103 FRCApart := by
  intro xs pre r us h hp
  unfold FRCApart at h
  split at h
  · rename_i i0 i1
    cases h
    obtain ⟨hp0, hp1⟩ := hp
    refine fcat tys_ok (l := [(121, ⟨[], FRSub⟩), (54, ⟨[], FROf⟩)]) ⟨fcRSub, fcROf, trivial⟩ Tryz.func103 rfl (by kernel_rfl) false ?_
    repeat' (first | exact trivial | (with_reducible exact wd_ok _) | (with_reducible exact (wd_ok _).1.1) | (with_reducible exact (wd_ok _).1.2) | (with_reducible exact (wd_ok _).2.1) | (with_reducible exact (wd_ok _).2.2) | refine ⟨?_, ?_⟩ | intro _)
    all_goals first | (with_reducible show (_ : Int) ≤ _) | (with_reducible show (_ : Int) < _) | (with_reducible show (_ : Nat) ≤ _) | (with_reducible show (_ : Nat) < _) | (conv => whnf)
    all_goals first | omega | rfl | exact (wd_ok _).1.1 | exact (wd_ok _).1.2 | exact (wd_ok _).2.1 | exact (wd_ok _).2.2 | skip
    all_goals (try simp only [decide_eq_true_eq, decide_eq_false_iff_not] at *)
    all_goals first | (refine congrArg (Value.int .u64) ?_; unfold apartI; first | (rw [if_pos ‹_›]; exact r_apart hp0 hp1 ‹_›) | (rw [if_neg ‹_›]; exact r_apart hp1 hp0 (by omega))) | trace_state
  · cases h
def FRCJoin : List Ar → Option Rs
  | [.agg [.d (.v (.bool b0)), .d (.v (.int .i64 m0)), .d (.v (.int .i64 r0))], .agg [.d (.v (.bool b1)), .d (.v (.int .i64 m1)), .d (.v (.int .i64 r1))]] => some ⟨(Cg.inR ⟨b0, m0, r0⟩) ∧ (Cg.inR ⟨b1, m1, r1⟩), .va (Cg.ar (Cg.join (⟨b0, m0, r0⟩ : Cg) (⟨b1, m1, r1⟩ : Cg))), []⟩
  | _ => none
set_option maxHeartbeats 2000000 in
set_option maxRecDepth 100000 in
theorem fcRCJoin : FC Tryz.prog 72 FRCJoin := by
  intro xs pre r us h hp
  unfold FRCJoin at h
  split at h
  · rename_i b0 m0 r0 b1 m1 r1
    cases h
    obtain ⟨hp0, hp1⟩ := hp
    refine fcat tys_ok (l := [(18, ⟨[], FRCClean⟩), (21, ⟨[], FRCGcd⟩), (103, ⟨[], FRCApart⟩)]) ⟨fcRCClean, fcRCGcd, fcRCApart, trivial⟩ Tryz.func72 rfl (by kernel_rfl) false ?_
    have hx := Cg.clean_inR hp0
    have hy := Cg.clean_inR hp1
    have hxx := hx
    have hyy := hy
    unfold Cg.inR at hxx hyy
    have hx0 := Cg.clean_nn ⟨b0, m0, r0⟩
    have hy0 := Cg.clean_nn ⟨b1, m1, r1⟩
    have ux := wU_id (Cg.clean ⟨b0, m0, r0⟩).m hx0 (by have := hx.1.2; omega)
    have uy := wU_id (Cg.clean ⟨b1, m1, r1⟩).m hy0 (by have := hy.1.2; omega)
    have vx : 0 ≤ (Cg.clean ⟨b0, m0, r0⟩).m ∧ (Cg.clean ⟨b0, m0, r0⟩).m < 18446744073709551616 := ⟨hx0, by have := hx.1.2; omega⟩
    have vy : 0 ≤ (Cg.clean ⟨b1, m1, r1⟩).m ∧ (Cg.clean ⟨b1, m1, r1⟩).m < 18446744073709551616 := ⟨hy0, by have := hy.1.2; omega⟩
    have g1 := gcd_u vx vy
    have g2 := apart_u hx.2 hy.2
    have g3 := gcdJ_u hx hy hx0 hy0
    have g4 := gcd_u vy g2
    have g5 := gcd_u vx g4
    have ga := gcdJ_assoc (Cg.clean ⟨b0, m0, r0⟩) (Cg.clean ⟨b1, m1, r1⟩)
    repeat' (first | exact trivial | (with_reducible exact hx) | (with_reducible exact hy) | (with_reducible exact hx.1) | (with_reducible exact hx.2) | (with_reducible exact hy.1) | (with_reducible exact hy.2) | (with_reducible exact hp0) | (with_reducible exact hp1) | (with_reducible exact vx) | (with_reducible exact vy) | (with_reducible exact g1) | (with_reducible exact g2) | (with_reducible exact g4) | (with_reducible exact g5) | refine ⟨?_, ?_⟩ | intro _)
    all_goals first | (with_reducible show (_ : Int) ≤ _) | (with_reducible show (_ : Int) < _) | (with_reducible show (_ : Nat) ≤ _) | (with_reducible show (_ : Nat) < _) | (conv => whnf)
    all_goals (try rw [ux] at *)
    all_goals (try rw [uy] at *)
    all_goals (try rw [ga] at *)
    all_goals first | (with_reducible exact vx.1) | (with_reducible exact vx.2) | (with_reducible exact vy.1) | (with_reducible exact vy.2) | (with_reducible exact hxx.1.1) | (with_reducible exact hxx.1.2) | (with_reducible exact hxx.2.1) | (with_reducible exact hxx.2.2) | (with_reducible exact hyy.1.1) | (with_reducible exact hyy.1.2) | (with_reducible exact hyy.2.1) | (with_reducible exact hyy.2.2) | (with_reducible exact g1.1) | (with_reducible exact g1.2) | (with_reducible exact g2.1) | (with_reducible exact g2.2) | (with_reducible exact g4.1) | (with_reducible exact g4.2) | exact (wrapJ g3.1 ‹decide (_ > _) = false›).1 | exact (wrapJ g3.1 ‹decide (_ > _) = false›).2 | (have e := join_1 (a := ⟨b0, m0, r0⟩) (b := ⟨b1, m1, r1⟩) ‹_›; first | exact congrArg (fun i : Cg => Value.bool i.some) e.symm | exact congrArg (fun i : Cg => Value.int .i64 i.m) e.symm | exact congrArg (fun i : Cg => Value.int .i64 i.r) e.symm | fail) | (have e := join_2 (a := ⟨b0, m0, r0⟩) (b := ⟨b1, m1, r1⟩) ‹_› ‹_›; first | exact congrArg (fun i : Cg => Value.bool i.some) e.symm | exact congrArg (fun i : Cg => Value.int .i64 i.m) e.symm | exact congrArg (fun i : Cg => Value.int .i64 i.r) e.symm | fail) | (have e := join_3 (a := ⟨b0, m0, r0⟩) (b := ⟨b1, m1, r1⟩) ‹_› ‹_› ‹_›; first | exact congrArg (fun i : Cg => Value.bool i.some) e.symm | exact congrArg (fun i : Cg => Value.int .i64 i.m) e.symm | exact congrArg (fun i : Cg => Value.int .i64 i.r) e.symm | fail) | (have e := join_4 (a := ⟨b0, m0, r0⟩) (b := ⟨b1, m1, r1⟩) ‹_› ‹_› ‹_› g3.1; first | exact congrArg (fun i : Cg => Value.bool i.some) e.symm | exact congrArg (fun i : Cg => Value.int .i64 i.m) e.symm | exact congrArg (fun i : Cg => Value.int .i64 i.r) e.symm | fail) | trace_state
  · cases h
theorem has_0 {c : Cg} {n : Int} (hs : c.clean.some = true) (h : c.clean.m = 0) : Cg.has c.clean n = decide (n = c.clean.r) := by
  unfold Cg.has; rw [Cg.clean_clean, hs, h]; simp [md]
section
variable {a b : Cg}
theorem leq_0 (h : (!a.clean.some) = true) : Cg.leq a b = true := by
  have h : a.clean.some = false := by simpa using h
  unfold Cg.leq; rw [h]; simp
theorem leq_1 (ha : (!a.clean.some) = false) (hb : (!b.clean.some) = true) : Cg.leq a b = false := by
  have ha : a.clean.some = true := by simpa using ha
  have hb : b.clean.some = false := by simpa using hb
  unfold Cg.leq; rw [ha, hb]; simp
theorem leq_s (ha : (!a.clean.some) = false) (hb : (!b.clean.some) = false) : Cg.leq a b = (Cg.factor b.clean.m a.clean.m && Cg.has b.clean a.clean.r) := by
  have ha : a.clean.some = true := by simpa using ha
  have hb : b.clean.some = true := by simpa using hb
  unfold Cg.leq; rw [ha, hb]; simp
theorem leq_2 (ha : (!a.clean.some) = false) (hb : (!b.clean.some) = false) (hz : (b.clean.m == 0) = true) (hm : (a.clean.m == 0) = true) : Cg.leq a b = (a.clean.r == b.clean.r) := by
  have hz : b.clean.m = 0 := by simpa using hz
  have hm : a.clean.m = 0 := by simpa using hm
  rw [leq_s ha hb, has_0 (by simpa using hb) hz, hz, hm]; unfold Cg.factor; simp
  rw [Bool.eq_iff_iff]; simp
theorem leq_3 (ha : (!a.clean.some) = false) (hb : (!b.clean.some) = false) (hz : (b.clean.m == 0) = true) (hm : (a.clean.m == 0) = false) : Cg.leq a b = false := by
  have hz : b.clean.m = 0 := by simpa using hz
  have hm : ¬ a.clean.m = 0 := by simpa using hm
  rw [leq_s ha hb, hz]; unfold Cg.factor; simp [hm]
theorem leq_4 (ha : (!a.clean.some) = false) (hb : (!b.clean.some) = false) (hz : (b.clean.m == 0) = false) (hm : (a.clean.m.tmod b.clean.m == 0) = true) : Cg.leq a b = Cg.has b.clean a.clean.r := by
  have hz : ¬ b.clean.m = 0 := by simpa using hz
  have hm : a.clean.m.tmod b.clean.m = 0 := by simpa using hm
  rw [tmod_zero] at hm
  rw [leq_s ha hb]; unfold Cg.factor; simp [hz, hm]
theorem leq_5 (ha : (!a.clean.some) = false) (hb : (!b.clean.some) = false) (hz : (b.clean.m == 0) = false) (hm : (a.clean.m.tmod b.clean.m == 0) = false) : Cg.leq a b = false := by
  have hz : ¬ b.clean.m = 0 := by simpa using hz
  have hm : ¬ a.clean.m.tmod b.clean.m = 0 := by simpa using hm
  rw [tmod_zero] at hm
  rw [leq_s ha hb]; unfold Cg.factor; simp [hz, hm]
end

def FRCLeq : List Ar → Option Rs
  | [.agg [.d (.v (.bool b0)), .d (.v (.int .i64 m0)), .d (.v (.int .i64 r0))], .agg [.d (.v (.bool b1)), .d (.v (.int .i64 m1)), .d (.v (.int .i64 r1))]] => some ⟨(Cg.inR ⟨b0, m0, r0⟩) ∧ (Cg.inR ⟨b1, m1, r1⟩), .va (.c (.d (bo (Cg.leq (⟨b0, m0, r0⟩ : Cg) (⟨b1, m1, r1⟩ : Cg))))), []⟩
  | _ => none
set_option maxHeartbeats 2000000 in
set_option maxRecDepth 100000 in
theorem fcRCLeq : FC Tryz.prog 79 FRCLeq := by
  intro xs pre r us h hp
  unfold FRCLeq at h
  split at h
  · rename_i b0 m0 r0 b1 m1 r1
    cases h
    obtain ⟨hp0, hp1⟩ := hp
    refine fcat tys_ok (l := [(18, ⟨[], FRCClean⟩), (45, ⟨[], FRCHas⟩)]) ⟨fcRCClean, fcRCHas, trivial⟩ Tryz.func79 rfl (by kernel_rfl) false ?_
    have hx := Cg.clean_inR hp0
    have hy := Cg.clean_inR hp1
    have hxx := hx
    have hyy := hy
    unfold Cg.inR at hxx hyy
    have hx0 := Cg.clean_nn ⟨b0, m0, r0⟩
    have hy0 := Cg.clean_nn ⟨b1, m1, r1⟩
    have ux := wU_id (Cg.clean ⟨b0, m0, r0⟩).m hx0 (by have := hx.1.2; omega)
    have uy := wU_id (Cg.clean ⟨b1, m1, r1⟩).m hy0 (by have := hy.1.2; omega)
    have vx : 0 ≤ (Cg.clean ⟨b0, m0, r0⟩).m ∧ (Cg.clean ⟨b0, m0, r0⟩).m < 18446744073709551616 := ⟨hx0, by have := hx.1.2; omega⟩
    have vy : 0 ≤ (Cg.clean ⟨b1, m1, r1⟩).m ∧ (Cg.clean ⟨b1, m1, r1⟩).m < 18446744073709551616 := ⟨hy0, by have := hy.1.2; omega⟩
    have g1 := gcd_u vx vy
    have g2 := apart_u hx.2 hy.2
    have g3 := gcdJ_u hx hy hx0 hy0
    repeat' (first | exact trivial | (with_reducible exact hx) | (with_reducible exact hy) | (with_reducible exact hx.1) | (with_reducible exact hx.2) | (with_reducible exact hy.1) | (with_reducible exact hy.2) | (with_reducible exact hp0) | (with_reducible exact hp1) | refine ⟨?_, ?_⟩ | intro _)
    all_goals first | (with_reducible show (_ : Int) ≤ _) | (with_reducible show (_ : Int) < _) | (with_reducible show (_ : Nat) ≤ _) | (with_reducible show (_ : Nat) < _) | (conv => whnf)
    all_goals first | (with_reducible exact hxx.2.1) | (with_reducible exact hxx.2.2) | (exact congrArg Value.bool (leq_0 ‹_›).symm) | (exact congrArg Value.bool (leq_1 ‹_› ‹_›).symm) | (exact congrArg Value.bool (leq_2 ‹_› ‹_› ‹_› ‹_›).symm) | (exact congrArg Value.bool (leq_3 ‹_› ‹_› ‹_› ‹_›).symm) | (exact congrArg Value.bool (leq_4 ‹_› ‹_› ‹_› ‹_›).symm) | (exact congrArg Value.bool (leq_5 ‹_› ‹_› ‹_› ‹_›).symm) | (simp only [beq_eq_false_iff_ne, ne_eq] at *; contradiction) | trace_state
  · cases h

end Go.Proofs.YtbfinmfdcbghfaaGreat
