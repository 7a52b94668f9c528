/- Rows of keys, as the reference has them. No condition. -/
import Derived.Test.YtakcacejpbiogaaDoorKey23
namespace Go.Proofs.YtakcacejpbiogaaDoor
set_option linter.all false
open Go.Sx

open Go.RowKit Go.Lib Go.Sort
theorem rowK_take {L : List Ky} {i : Nat} (h : i < L.length) : rowK (L.take (i + 1)) = putK (rowK (L.take i)) (atK L i) := by
  rw [takeK_snoc h, rowK_snoc]
def rcT (L : List Ky) (k : Ky) (i : Nat) : List Ky := rowK ((L.take i).filter fun x => !decide (x.cl = k.cl))
theorem rcT_step {L : List Ky} {k : Ky} {i : Nat} (h : i < L.length) : rcT L k (i + 1) = if (atK L i).cl = k.cl then rcT L k i else putK (rcT L k i) (atK L i) := by
  unfold rcT
  rw [takeK_snoc h, List.filter_append]
  by_cases hc : (atK L i).cl = k.cl
  · rw [if_pos hc, List.filter_cons_of_neg (by simp [hc])]; simp
  · rw [if_neg hc, List.filter_cons_of_pos (by simp [hc])]; exact rowK_snoc _ _
theorem rcT_all (L : List Ky) (k : Ky) : rcT L k L.length = cutK L k := by unfold rcT; rw [List.take_length, cut_ref]
theorem rcT_len (L : List Ky) (k : Ky) (i : Nat) : (rcT L k i).length ≤ L.length := by
  have h1 := rowK_len ((L.take i).filter fun x => !decide (x.cl = k.cl))
  have h2 := List.length_filter_le (fun x : Ky => !decide (x.cl = k.cl)) (L.take i)
  rw [List.length_take] at h2
  unfold rcT; omega
theorem keys_ext {A B : List Ky} (h : A.length = B.length) (h2 : ∀ i, i < A.length → atK A i = atK B i) : A = B := by
  refine List.ext_getElem h fun i h3 h4 => ?_
  rw [← atK_get h3, ← atK_get h4]; exact h2 i h3
def FRKRow : List Ar → Option Rs
  | [.c (.d (.lst 2 n0 f0))] => some ⟨(n0 ≤ 1000000000 ∧ RowsK n0 f0), .va (.c (.d (lstK (rowK (gKs n0 f0))))), []⟩
  | _ => none
set_option maxHeartbeats 4000000 in
set_option maxRecDepth 100000 in
theorem fcRKRow : FC Tryd.prog 22 FRKRow := by
  intro xs pre r us h hp
  unfold FRKRow at h
  split at h
  · rename_i n0 f0
    cases h
    have hp0 := hp
    refine FCat.deep (ys := [.c (.d (.lst 2 n0 (rwK (gKs n0 f0))))]) ?_ ?_
    · repeat' (first | exact trivial | exact rfl | exact DvE.refl _ | refine ⟨?_, ?_⟩ | fail)
      all_goals first | exact canonK hp0.2.h
    refine fcat tys_ok (l := [(50, ⟨[], FRKPut⟩)]) ⟨fcRKPut, trivial⟩ Tryd.func22 rfl (by kernel_rfl) true ?_
    have hn := hp0.1
    have hO := rowsK_r hp0.2
    have hlen := gKs_length n0 f0
    generalize gKs n0 f0 = L at *
    clear hp0
    subst hlen
    have hrow : RowsK L.length (rwK L) := rowsK_of hO
    have hat : ∀ k, k < L.length → rI (atK L k).node := fun k hk => hO _ (atK_mem hk)
    repeat' (first | exact trivial | refine ⟨?_, ?_⟩ | intro _)
    all_goals first | (with_reducible show (_ : Int) ≤ _) | (with_reducible show (_ : Int) < _) | (with_reducible show (_ : Nat) ≤ _) | (with_reducible show (_ : Nat) < _) | (conv => whnf)
    refine loop_ok tys_ok (l := [(50, ⟨[], FRKPut⟩)]) ⟨fcRKPut, trivial⟩ (by kernel_rfl) (X := Nat)
      (fun i => ⟨[(4, vx (.int .i64 i)), (3, .va (.c (.d (lstK (rowK (L.take i)))))), (0, .va (.c (.d (.lst 2 L.length (rwK L)))))], [], 0, 18⟩)
      (fun i => L.length - i) (fun i => i ≤ L.length) [] []
      (fun i _ _ => i + 1) [] [] 0 0 0 ?_ ?_ ?_
    · exact Nat.zero_le _
    · repeat' (first | exact trivial | exact rfl | (intro _ h; exact absurd h (Nat.not_lt_zero _)) | (intro _ _; exact rfl) | refine ⟨?_, ?_⟩ | fail)
      all_goals first | (simp; done) | (intro i hi; exact absurd hi (Nat.not_lt_zero i)) | trace_state
    · rintro i k1
      rcases Nat.lt_or_ge i L.length with hi | hi
      · have hie : decide ((i : Int) < (L.length : Int)) = true := decide_eq_true (by omega)
        have hib : (0 : Int) ≤ (i : Int) ∧ (i : Int) < (L.length : Int) := by omega
        have hxr : rI (atK L (Int.toNat (i : Int))).node := hat i hi
        have hkl := rowK_len (L.take i)
        rw [List.length_take] at hkl
        have hks := rowK_sk (L.take i)
        have hkr := rowsK_of (rowK_rng (l := L.take i) fun x hx => hO x (List.mem_of_mem_take hx))
        have hkn := rowK_take hi
        have hgk := gKs_row (rowK (L.take i))
        have hks2 : SK (gKs (rowK (L.take i)).length (rwK (rowK (L.take i)))) := by rw [hgk]; exact hks
        repeat' (first | exact trivial | (with_reducible exact (fun h => absurd (hie.symm.trans h) (by decide))) | (with_reducible exact hib) | (with_reducible exact hxr) | (with_reducible exact hks2) | (with_reducible exact hkr) | refine ⟨?_, ?_⟩ | intro _)
        all_goals first | (with_reducible show (_ : Int) ≤ _) | (with_reducible show (_ : Int) < _) | (with_reducible show (_ : Nat) ≤ _) | (with_reducible show (_ : Nat) < _) | (conv => whnf)
        all_goals first | rfl | omega | (dsimp only; omega) | exact hkr | exact hxr.1 | exact hxr.2 | (exact congrArg (Value.int .i64) (by first | (rw [wI_id _ (by omega) (by omega)]; omega) | omega | (dsimp only; omega))) | (dsimp only; (exact congrArg (Value.int .i64) (by first | (rw [wI_id _ (by omega) (by omega)]; omega) | omega | (dsimp only; omega)))) | skip
        all_goals (dsimp only; rw [hkn])
        all_goals (try simp only [hgk])
        all_goals first | rfl | (intro q hq; rfl) | trace_state
      · have hie : decide ((i : Int) < (L.length : Int)) = false := decide_eq_false (by omega)
        obtain rfl : i = L.length := by omega
        have htl : L.take L.length = L := List.take_length
        repeat' (first | exact trivial | (with_reducible exact (fun h => absurd (hie.symm.trans h) (by decide))) | refine ⟨?_, ?_⟩ | intro _)
        all_goals first | (with_reducible show (_ : Int) ≤ _) | (with_reducible show (_ : Int) < _) | (with_reducible show (_ : Nat) ≤ _) | (with_reducible show (_ : Nat) < _) | (conv => whnf)
        all_goals (try rw [htl])
        all_goals first | rfl | omega | (intro q hq; rw [htl]; done) | trace_state
  · cases h
def FRKHas : List Ar → Option Rs
  | [.c (.d (.lst 2 n0 f0)), .agg [.d (.v (.string x1)), .d (.v (.int .i64 i1))]] => some ⟨(n0 ≤ 1000000000 ∧ RowsK n0 f0) ∧ (rI i1), .va (.c (.d (bo (hasK (gKs n0 f0) (⟨x1, i1⟩ : Ky))))), []⟩
  | _ => none
set_option maxHeartbeats 4000000 in
set_option maxRecDepth 100000 in
theorem fcRKHas : FC Tryd.prog 24 FRKHas := by
  intro xs pre r us h hp
  unfold FRKHas at h
  split at h
  · rename_i n0 f0 x1 i1
    cases h
    obtain ⟨hp0, hp1⟩ := hp
    refine FCat.deep (ys := [.c (.d (.lst 2 n0 (rwK (gKs n0 f0)))), .agg [.d (.v (.string x1)), .d (.v (.int .i64 i1))]]) ?_ ?_
    · repeat' (first | exact trivial | exact rfl | exact DvE.refl _ | refine ⟨?_, ?_⟩ | fail)
      all_goals first | exact canonK hp0.2.h
    refine fcat tys_ok (l := [(12, ⟨[], FRKyClean⟩)]) ⟨fcRKyClean, trivial⟩ Tryd.func24 rfl (by kernel_rfl) true ?_
    have hn := hp0.1
    have hO := rowsK_r hp0.2
    have hlen := gKs_length n0 f0
    generalize gKs n0 f0 = L at *
    clear hp0
    subst hlen
    have hrow : RowsK L.length (rwK L) := rowsK_of hO
    have hat : ∀ k, k < L.length → rI (atK L k).node := fun k hk => hO _ (atK_mem hk)
    repeat' (first | exact trivial | refine ⟨?_, ?_⟩ | intro _)
    all_goals first | (with_reducible show (_ : Int) ≤ _) | (with_reducible show (_ : Int) < _) | (with_reducible show (_ : Nat) ≤ _) | (with_reducible show (_ : Nat) < _) | (conv => whnf)
    refine loop_ok tys_ok (l := [(12, ⟨[], FRKyClean⟩)]) ⟨fcRKyClean, trivial⟩ (by kernel_rfl) (X := Nat)
      (fun i => ⟨[(5, vx (.int .i64 i)), (0, .va (.c (.d (.lst 2 L.length (rwK L))))), (3, .va (.c (.own 0 0)))], [(0, .cells [.d (st x1), .d (it i1)])], 1, 20⟩)
      (fun i => L.length - i) (fun i => i ≤ L.length ∧ ∀ j, j < i → ∀ y, L[j]? = some y → y.cl ≠ Ky.cl ⟨x1, i1⟩) [] []
      (fun i _ _ => i + 1) [0] [0] 0 0 0 ?_ ?_ ?_
    · exact ⟨Nat.zero_le _, fun k h => absurd h (Nat.not_lt_zero k)⟩
    · repeat' (first | exact trivial | exact rfl | (intro _ _; exact rfl) | refine ⟨?_, ?_⟩ | fail)
    · rintro i ⟨k1, k2⟩
      rcases Nat.lt_or_ge i L.length with hi | hi
      · have hne : decide ((i : Int) < (L.length : Int)) = true := decide_eq_true (by omega)
        have hib : (0 : Int) ≤ (i : Int) ∧ (i : Int) < (L.length : Int) := by omega
        have hr : rI (atK L (Int.toNat (i : Int))).node := hat i hi
        have hget : L[i]? = some (atK L i) := by rw [atK_get hi]; exact List.getElem?_eq_getElem hi
        have hkq : ((Ky.cl ⟨(atK L (Int.toNat (i : Int))).name, (atK L (Int.toNat (i : Int))).node⟩).name.toList == (Ky.cl ⟨x1, i1⟩).name.toList && ((Ky.cl ⟨(atK L (Int.toNat (i : Int))).name, (atK L (Int.toNat (i : Int))).node⟩).node == (Ky.cl ⟨x1, i1⟩).node && true)) = decide ((atK L i).cl = Ky.cl ⟨x1, i1⟩) := keyEq_iff
        by_cases he : (atK L i).cl = Ky.cl ⟨x1, i1⟩
        · have hh := hasK_at hget he
          rw [decide_eq_true he] at hkq
          repeat' (first | exact trivial | (with_reducible exact (fun h => absurd (hne.symm.trans h) (by decide))) | (with_reducible exact (fun h => absurd (hkq.symm.trans h) (by decide))) | (with_reducible exact hib) | (with_reducible exact hr) | (with_reducible exact hp1) | (with_reducible exact hrow) | refine ⟨?_, ?_⟩ | intro _)
          all_goals first | (with_reducible show (_ : Int) ≤ _) | (with_reducible show (_ : Int) < _) | (with_reducible show (_ : Nat) ≤ _) | (with_reducible show (_ : Nat) < _) | (conv => whnf)
          all_goals first | exact congrArg Value.bool hh.symm | omega | rfl | exact hr | exact hr.1 | exact hr.2 | trace_state
        · rw [decide_eq_false he] at hkq
          have hin : ∀ j, j < i + 1 → ∀ y, L[j]? = some y → y.cl ≠ Ky.cl ⟨x1, i1⟩ := fun j hj y hy => by
            rcases Nat.lt_or_ge j i with h | h
            · exact k2 j h y hy
            · rw [show j = i by omega, hget] at hy; cases hy; exact he
          repeat' (first | exact trivial | (with_reducible exact (fun h => absurd (hne.symm.trans h) (by decide))) | (with_reducible exact (fun h => absurd (hkq.symm.trans h) (by decide))) | (with_reducible exact hib) | (with_reducible exact hr) | (with_reducible exact hp1) | (with_reducible exact hrow) | refine ⟨?_, ?_⟩ | intro _)
          all_goals first | (with_reducible show (_ : Int) ≤ _) | (with_reducible show (_ : Int) < _) | (with_reducible show (_ : Nat) ≤ _) | (with_reducible show (_ : Nat) < _) | (conv => whnf)
          all_goals first | omega | rfl | exact hr | exact hr.1 | exact hr.2 | (dsimp only; omega) | (exact congrArg (Value.int .i64) (by first | (rw [wI_id _ (by omega) (by omega)]; omega) | omega | (dsimp only; omega))) | (dsimp only; (exact congrArg (Value.int .i64) (by first | (rw [wI_id _ (by omega) (by omega)]; omega) | omega | (dsimp only; omega)))) | exact hin _ ‹_› _ ‹_› | (exact hin _ ‹_› _ ‹_› ‹_›) | trace_state
      · have hne : decide ((i : Int) < (L.length : Int)) = false := decide_eq_false (by omega)
        obtain rfl : i = L.length := by omega
        have hno := hasK_no (L := L) (k := ⟨x1, i1⟩) k2
        repeat' (first | exact trivial | (with_reducible exact (fun h => absurd (hne.symm.trans h) (by decide))) | refine ⟨?_, ?_⟩ | intro _)
        all_goals first | (with_reducible show (_ : Int) ≤ _) | (with_reducible show (_ : Int) < _) | (with_reducible show (_ : Nat) ≤ _) | (with_reducible show (_ : Nat) < _) | (conv => whnf)
        all_goals first | exact congrArg Value.bool hno.symm | omega | rfl | trace_state
  · cases h
def FRKCut : List Ar → Option Rs
  | [.c (.d (.lst 2 n0 f0)), .agg [.d (.v (.string x1)), .d (.v (.int .i64 i1))]] => some ⟨(n0 ≤ 1000000000 ∧ RowsK n0 f0) ∧ (rI i1), .va (.c (.d (lstK (cutK (gKs n0 f0) (⟨x1, i1⟩ : Ky))))), []⟩
  | _ => none
set_option maxHeartbeats 4000000 in
set_option maxRecDepth 100000 in
theorem fcRKCut : FC Tryd.prog 27 FRKCut := by
  intro xs pre r us h hp
  unfold FRKCut at h
  split at h
  · rename_i n0 f0 x1 i1
    cases h
    obtain ⟨hp0, hp1⟩ := hp
    refine FCat.deep (ys := [.c (.d (.lst 2 n0 (rwK (gKs n0 f0)))), .agg [.d (.v (.string x1)), .d (.v (.int .i64 i1))]]) ?_ ?_
    · repeat' (first | exact trivial | exact rfl | exact DvE.refl _ | refine ⟨?_, ?_⟩ | fail)
      all_goals first | exact canonK hp0.2.h
    refine fcat tys_ok (l := [(50, ⟨[], FRKPut⟩), (12, ⟨[], FRKyClean⟩)]) ⟨fcRKPut, fcRKyClean, trivial⟩ Tryd.func27 rfl (by kernel_rfl) true ?_
    have hn := hp0.1
    have hO := rowsK_r hp0.2
    have hlen := gKs_length n0 f0
    generalize gKs n0 f0 = L at *
    clear hp0
    subst hlen
    have hrow : RowsK L.length (rwK L) := rowsK_of hO
    have hat : ∀ k, k < L.length → rI (atK L k).node := fun k hk => hO _ (atK_mem hk)
    repeat' (first | exact trivial | refine ⟨?_, ?_⟩ | intro _)
    all_goals first | (with_reducible show (_ : Int) ≤ _) | (with_reducible show (_ : Int) < _) | (with_reducible show (_ : Nat) ≤ _) | (with_reducible show (_ : Nat) < _) | (conv => whnf)
    refine loop_ok tys_ok (l := [(50, ⟨[], FRKPut⟩), (12, ⟨[], FRKyClean⟩)]) ⟨fcRKPut, fcRKyClean, trivial⟩ (by kernel_rfl) (X := Nat)
      (fun i => ⟨[(6, vx (.int .i64 i)), (5, .va (.c (.d (lstK (rcT L ⟨x1, i1⟩ i))))), (0, .va (.c (.d (.lst 2 L.length (rwK L))))), (3, .va (.c (.own 0 0)))], [(0, .cells [.d (st x1), .d (it i1)])], 1, 28⟩)
      (fun i => L.length - i) (fun i => i ≤ L.length) [] []
      (fun i _ _ => i + 1) [0] [0] 0 0 0 ?_ ?_ ?_
    · exact Nat.zero_le _
    · repeat' (first | exact trivial | exact rfl | (intro _ h; exact absurd h (Nat.not_lt_zero _)) | (intro _ _; exact rfl) | refine ⟨?_, ?_⟩ | fail)
      all_goals first | (simp; done) | (intro i hi; exact absurd hi (Nat.not_lt_zero i)) | trace_state
    · rintro i k1
      rcases Nat.lt_or_ge i L.length with hi | hi
      · have hne : decide ((i : Int) < (L.length : Int)) = true := decide_eq_true (by omega)
        have hib : (0 : Int) ≤ (i : Int) ∧ (i : Int) < (L.length : Int) := by omega
        have hr : rI (atK L (Int.toNat (i : Int))).node := hat i hi
        have hkl := rcT_len L ⟨x1, i1⟩ i
        have hks : SK (rcT L ⟨x1, i1⟩ i) := rowK_sk _
        have hkr : RowsK (rcT L ⟨x1, i1⟩ i).length (rwK (rcT L ⟨x1, i1⟩ i)) := rowsK_of (rowK_rng fun x hx => hO x (List.mem_of_mem_take (List.mem_filter.1 hx).1))
        have hkn := rcT_step (k := ⟨x1, i1⟩) hi
        have hgk := gKs_row (rcT L ⟨x1, i1⟩ i)
        have hks2 : SK (gKs (rcT L ⟨x1, i1⟩ i).length (rwK (rcT L ⟨x1, i1⟩ i))) := by rw [hgk]; exact hks
        have hkq : (!((Ky.cl ⟨(atK L (Int.toNat (i : Int))).name, (atK L (Int.toNat (i : Int))).node⟩).name.toList == (Ky.cl ⟨x1, i1⟩).name.toList && ((Ky.cl ⟨(atK L (Int.toNat (i : Int))).name, (atK L (Int.toNat (i : Int))).node⟩).node == (Ky.cl ⟨x1, i1⟩).node && true))) = !decide ((atK L i).cl = Ky.cl ⟨x1, i1⟩) := congrArg (!·) keyEq_iff
        by_cases he : (atK L i).cl = Ky.cl ⟨x1, i1⟩
        · rw [decide_eq_true he] at hkq
          have hkq : _ = false := hkq
          rw [if_pos he] at hkn
          repeat' (first | exact trivial | (with_reducible exact (fun h => absurd (hne.symm.trans h) (by decide))) | (with_reducible exact (fun h => absurd (hkq.symm.trans h) (by decide))) | (with_reducible exact hib) | (with_reducible exact hr) | (with_reducible exact hp1) | (with_reducible exact hks2) | (with_reducible exact hkr) | refine ⟨?_, ?_⟩ | intro _)
          all_goals first | (with_reducible show (_ : Int) ≤ _) | (with_reducible show (_ : Int) < _) | (with_reducible show (_ : Nat) ≤ _) | (with_reducible show (_ : Nat) < _) | (conv => whnf)
          all_goals first | rfl | omega | (dsimp only; omega) | exact hkr | exact hr | exact hr.1 | exact hr.2 | (exact congrArg (Value.int .i64) (by first | (rw [wI_id _ (by omega) (by omega)]; omega) | omega | (dsimp only; omega))) | (dsimp only; (exact congrArg (Value.int .i64) (by first | (rw [wI_id _ (by omega) (by omega)]; omega) | omega | (dsimp only; omega)))) | skip
          all_goals (dsimp only; rw [hkn])
          all_goals first | rfl | (intro q hq; rfl) | trace_state
        · rw [decide_eq_false he] at hkq
          have hkq : _ = true := hkq
          rw [if_neg he] at hkn
          repeat' (first | exact trivial | (with_reducible exact (fun h => absurd (hne.symm.trans h) (by decide))) | (with_reducible exact (fun h => absurd (hkq.symm.trans h) (by decide))) | (with_reducible exact hib) | (with_reducible exact hr) | (with_reducible exact hp1) | (with_reducible exact hks2) | (with_reducible exact hkr) | refine ⟨?_, ?_⟩ | intro _)
          all_goals first | (with_reducible show (_ : Int) ≤ _) | (with_reducible show (_ : Int) < _) | (with_reducible show (_ : Nat) ≤ _) | (with_reducible show (_ : Nat) < _) | (conv => whnf)
          all_goals first | rfl | omega | (dsimp only; omega) | exact hkr | exact hr | exact hr.1 | exact hr.2 | (exact congrArg (Value.int .i64) (by first | (rw [wI_id _ (by omega) (by omega)]; omega) | omega | (dsimp only; omega))) | (dsimp only; (exact congrArg (Value.int .i64) (by first | (rw [wI_id _ (by omega) (by omega)]; omega) | omega | (dsimp only; omega)))) | skip
          all_goals (dsimp only; rw [hkn])
          all_goals (try simp only [hgk])
          all_goals first | rfl | (intro q hq; rfl) | trace_state
      · have hne : decide ((i : Int) < (L.length : Int)) = false := decide_eq_false (by omega)
        obtain rfl : i = L.length := by omega
        have htl := rcT_all L ⟨x1, i1⟩
        repeat' (first | exact trivial | (with_reducible exact (fun h => absurd (hne.symm.trans h) (by decide))) | refine ⟨?_, ?_⟩ | intro _)
        all_goals first | (with_reducible show (_ : Int) ≤ _) | (with_reducible show (_ : Int) < _) | (with_reducible show (_ : Nat) ≤ _) | (with_reducible show (_ : Nat) < _) | (conv => whnf)
        all_goals (try rw [htl])
        all_goals first | rfl | omega | (intro q hq; rw [htl]; done) | trace_state
  · cases h
def FRKeys : List Ar → Option Rs
  | [.c (.d (.lst 2 n0 f0)), .c (.d (.lst 2 n1 f1))] => some ⟨(n0 ≤ 1000000000 ∧ RowsK n0 f0) ∧ (n1 ≤ 1000000000 ∧ RowsK n1 f1), .va (.c (.d (bo (decide ((gKs n0 f0) = (gKs n1 f1)))))), []⟩
  | _ => none
set_option maxHeartbeats 4000000 in
set_option maxRecDepth 100000 in
theorem fcRKeys : FC Tryd.prog 20 FRKeys := by
  intro xs pre r us h hp
  unfold FRKeys at h
  split at h
  · rename_i n0 f0 n1 f1
    cases h
    obtain ⟨hp0, hp1⟩ := hp
    refine FCat.deep (ys := [.c (.d (.lst 2 n0 (rwK (gKs n0 f0)))), .c (.d (.lst 2 n1 (rwK (gKs n1 f1))))]) ?_ ?_
    · repeat' (first | exact trivial | exact rfl | exact DvE.refl _ | refine ⟨?_, ?_⟩ | fail)
      all_goals first | exact canonK hp0.2.h | exact canonK hp1.2.h
    refine fcat tys_ok (l := []) trivial Tryd.func20 rfl (by kernel_rfl) true ?_
    have hn := hp0.1
    have hm := hp1.1
    have hO := rowsK_r hp0.2
    have hO2 := rowsK_r hp1.2
    have hlen := gKs_length n0 f0
    have hlen2 := gKs_length n1 f1
    generalize gKs n0 f0 = A at *
    generalize gKs n1 f1 = B at *
    clear hp0 hp1
    subst hlen hlen2
    have hat : ∀ k, k < A.length → rI (atK A k).node := fun k hk => hO _ (atK_mem hk)
    have hbt : ∀ k, k < B.length → rI (atK B k).node := fun k hk => hO2 _ (atK_mem hk)
    by_cases hab : A.length = B.length
    rotate_left
    · have hne : ((A.length : Int) != (B.length : Int)) = true := by show (!((A.length : Int) == (B.length : Int))) = true; have : ((A.length : Int) == (B.length : Int)) = false := beq_eq_false_iff_ne.2 (by omega); rw [this]; rfl
      have hno : decide (A = B) = false := decide_eq_false fun h => hab (by rw [h])
      repeat' (first | exact trivial | (with_reducible exact (fun h => absurd (hne.symm.trans h) (by decide))) | refine ⟨?_, ?_⟩ | intro _)
      all_goals first | (with_reducible show (_ : Int) ≤ _) | (with_reducible show (_ : Int) < _) | (with_reducible show (_ : Nat) ≤ _) | (with_reducible show (_ : Nat) < _) | (conv => whnf)
      all_goals first | exact congrArg Value.bool hno.symm | omega | rfl | trace_state
    have heq : ((A.length : Int) != (B.length : Int)) = false := by rw [hab]; simp
    repeat' (first | exact trivial | (with_reducible exact (fun h => absurd (heq.symm.trans h) (by decide))) | refine ⟨?_, ?_⟩ | intro _)
    all_goals first | (with_reducible show (_ : Int) ≤ _) | (with_reducible show (_ : Int) < _) | (with_reducible show (_ : Nat) ≤ _) | (with_reducible show (_ : Nat) < _) | (conv => whnf)
    refine loop_ok tys_ok (l := []) trivial (by kernel_rfl) (X := Nat)
      (fun i => ⟨[(5, vx (.int .i64 i)), (0, .va (.c (.d (.lst 2 A.length (rwK A))))), (1, .va (.c (.d (.lst 2 B.length (rwK B)))))], [], 0, 26⟩)
      (fun i => A.length - i) (fun i => i ≤ A.length ∧ ∀ j, j < i → atK A j = atK B j) [] []
      (fun i _ _ => i + 1) [] [] 0 0 0 ?_ ?_ ?_
    · exact ⟨Nat.zero_le _, fun k h => absurd h (Nat.not_lt_zero k)⟩
    · repeat' (first | exact trivial | exact rfl | (intro _ _; exact rfl) | refine ⟨?_, ?_⟩ | fail)
    · rintro i ⟨k1, k2⟩
      rcases Nat.lt_or_ge i A.length with hi | hi
      · have hne : decide ((i : Int) < (A.length : Int)) = true := decide_eq_true (by omega)
        have hib : (0 : Int) ≤ (i : Int) ∧ (i : Int) < (A.length : Int) := by omega
        have hic : (0 : Int) ≤ (i : Int) ∧ (i : Int) < (B.length : Int) := by omega
        have hr : rI (atK A (Int.toNat (i : Int))).node := hat i hi
        have hr2 : rI (atK B (Int.toNat (i : Int))).node := hbt i (by omega)
        have hkq : (!((atK A (Int.toNat (i : Int))).name.toList == (atK B (Int.toNat (i : Int))).name.toList && ((atK A (Int.toNat (i : Int))).node == (atK B (Int.toNat (i : Int))).node && true))) = !decide (atK A i = atK B i) := congrArg (!·) keyEq_iff
        by_cases he : atK A i = atK B i
        · rw [decide_eq_true he] at hkq
          have hkq : _ = false := hkq
          have hin : ∀ j, j < i + 1 → atK A j = atK B j := fun j hj => by
            rcases Nat.lt_or_ge j i with h | h
            · exact k2 j h
            · rw [show j = i by omega]; exact he
          repeat' (first | exact trivial | (with_reducible exact (fun h => absurd (hne.symm.trans h) (by decide))) | (with_reducible exact (fun h => absurd (hkq.symm.trans h) (by decide))) | (with_reducible exact hib) | (with_reducible exact hic) | (with_reducible exact hr) | (with_reducible exact hr2) | refine ⟨?_, ?_⟩ | intro _)
          all_goals first | (with_reducible show (_ : Int) ≤ _) | (with_reducible show (_ : Int) < _) | (with_reducible show (_ : Nat) ≤ _) | (with_reducible show (_ : Nat) < _) | (conv => whnf)
          all_goals first | omega | rfl | exact hr | exact hr.1 | exact hr.2 | exact hr2 | exact hr2.1 | exact hr2.2 | (dsimp only; omega) | (exact congrArg (Value.int .i64) (by first | (rw [wI_id _ (by omega) (by omega)]; omega) | omega | (dsimp only; omega))) | (dsimp only; (exact congrArg (Value.int .i64) (by first | (rw [wI_id _ (by omega) (by omega)]; omega) | omega | (dsimp only; omega)))) | (exact hin _ ‹_›) | trace_state
        · rw [decide_eq_false he] at hkq
          have hkq : _ = true := hkq
          have hno : decide (A = B) = false := decide_eq_false fun h => he (by rw [h])
          repeat' (first | exact trivial | (with_reducible exact (fun h => absurd (hne.symm.trans h) (by decide))) | (with_reducible exact (fun h => absurd (hkq.symm.trans h) (by decide))) | (with_reducible exact hib) | (with_reducible exact hic) | (with_reducible exact hr) | (with_reducible exact hr2) | refine ⟨?_, ?_⟩ | intro _)
          all_goals first | (with_reducible show (_ : Int) ≤ _) | (with_reducible show (_ : Int) < _) | (with_reducible show (_ : Nat) ≤ _) | (with_reducible show (_ : Nat) < _) | (conv => whnf)
          all_goals first | exact congrArg Value.bool hno.symm | omega | rfl | exact hr | exact hr.1 | exact hr.2 | exact hr2 | exact hr2.1 | exact hr2.2 | trace_state
      · have hne : decide ((i : Int) < (A.length : Int)) = false := decide_eq_false (by omega)
        obtain rfl : i = A.length := by omega
        have hye : decide (A = B) = true := decide_eq_true (keys_ext hab k2)
        repeat' (first | exact trivial | (with_reducible exact (fun h => absurd (hne.symm.trans h) (by decide))) | refine ⟨?_, ?_⟩ | intro _)
        all_goals first | (with_reducible show (_ : Int) ≤ _) | (with_reducible show (_ : Int) < _) | (with_reducible show (_ : Nat) ≤ _) | (with_reducible show (_ : Nat) < _) | (conv => whnf)
        all_goals first | exact congrArg Value.bool hye.symm | omega | rfl | trace_state
  · cases h

end Go.Proofs.YtakcacejpbiogaaDoor
