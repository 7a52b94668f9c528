/- A key is put into a row, as the reference does it. No condition. -/
import Derived.Test.YthkknkhpfffnbaaGreatS6
set_option linter.all false
set_option maxHeartbeats 8000000
set_option maxRecDepth 100000
namespace Go.Proofs.YthkknkhpfffnbaaGreat
open Go.Sx
def FRKPut : List Ar -> Option Rs
 | [.c (.d (.lst 2 n0 f0)), .agg [.d (.v (.string x1)), .d (.v (.int .i64 i1))]] => some ⟨(n0 <= 1000000000 /\ RowsK n0 f0) /\ (rI i1) /\ (SK (gKs n0 f0)), .va (.c (.d (lstK (putK (gKs n0 f0) (⟨x1, i1⟩ : Ky))))), []⟩
 | _ => none
abbrev sl7S : List (Nat × Sm) := [(82, ⟨[], FRKyClean⟩), (138, ⟨[], FRKyLess⟩)]
theorem sp7S : sumsOk Tryz.prog sl7S := ⟨fcRKyClean, fcRKyLess, trivial⟩
theorem fcRKPut : FC Tryz.prog 89 FRKPut := by
 intro xs pre r us h hp
 unfold FRKPut at h
 split at h
 . rename_i n0 f0 x1 i1
   cases h
   obtain ⟨hp0, hp1, hp2⟩ := hp
   refine FCat.deep (ys := [.c (.d (.lst 2 n0 (rwK (gKs n0 f0)))), .agg [.d (.v (.string x1)), .d (.v (.int .i64 i1))]]) ?_ ?_
   . repeat' (first | exact trivial | exact rfl | exact DvE.refl _ | refine ⟨?_, ?_⟩ | fail)
     all_goals first | exact canonK hp0.2.h
   refine fcat tys_ok (l := sl7S) sp7S Tryz.func89 rfl (by kernel_rfl) true ?_
   have hn := hp0.1
   have hR := rowsK_r hp0.2
   have hlen := gKs_length n0 f0
   generalize gKs n0 f0 = L at *
   clear hp0
   subst hlen
   have hkr := Ky.cl_r (k := ⟨x1, i1⟩) hp1
   have hkk := Ky.cl_cl ⟨x1, i1⟩
   have hlt2 := fun a => Ky.lt_cl2 a ⟨x1, i1⟩
   have hRa : ∀ q, q < L.length -> rI (atK L q).node /\ (atK L q).cl = atK L q := fun q hq => ⟨hR _ (atK_mem hq), hp2.2 _ (atK_mem hq)⟩
   repeat' (first | exact trivial | (with_reducible exact hp1) | refine ⟨?_, ?_⟩ | intro _)
   all_goals first | (with_reducible first | apply qa | apply qb | apply qc | apply qd) | (conv => whnf)
   refine loop_ids tys_ok (l := sl7S) sp7S (by kernel_rfl) (X := Nat)
    (fun i => ⟨[(6, vx (.int .i64 i)), (5, .va (.c (.osl 1 2 0 i))), (0, .va (.c (.d (.lst 2 L.length (rwK L))))), (3, .va (.c (.own 0 0)))], [(0, .cells [.d (st (Ky.cl ⟨x1, i1⟩).name), .d (it (Ky.cl ⟨x1, i1⟩).node)]), (1, .row 2 i (rwK L))], 2, 59⟩)
    (fun i => L.length - i) (fun i => i <= L.length /\ ∀ q, q < i -> Ky.lt (atK L q) ⟨x1, i1⟩ = true) [5] []
    (fun i _ _ => i + 1) (fun xs => match xs with | [t] => [0, oI t] | _ => []) [0] 0 1 0 ?_ ?_ ?_
   . exact ⟨Nat.zero_le _, fun q hq => absurd hq (Nat.not_lt_zero q)⟩
   . repeat' (first | exact trivial | exact rfl | (intro _ h; exact absurd h (Nat.not_lt_zero _)) | (intro _ _; exact rfl) | refine ⟨?_, ?_⟩ | fail)
     all_goals first | (simp; done)
   . rintro i ⟨k1, k2⟩
     rcases Nat.lt_or_ge i L.length with hi | hi
     . have hne : decide ((i : Int) < (L.length : Int)) = true := decide_eq_true (by omega)
       have hib : (0 : Int) <= (i : Int) /\ (i : Int) < (L.length : Int) := by omega
       have hra := hRa i hi
       have hrn : rI (atK L (Int.toNat (i : Int))).node := hra.1
       have hrc : (atK L (Int.toNat (i : Int))).cl = (atK L (Int.toNat (i : Int))) := hra.2
       cases hlt : Ky.lt ⟨(atK L (Int.toNat (i : Int))).name, (atK L (Int.toNat (i : Int))).node⟩ (Ky.cl ⟨x1, i1⟩) with
       | true =>
         have hlx : Ky.lt (atK L i) ⟨x1, i1⟩ = true := by rw [<- hlt2]; exact hlt
         repeat' (first | exact trivial | (with_reducible first | exact (fun h => absurd (hne.symm.trans h) (by decide)) | exact (fun h => absurd (hlt.symm.trans h) (by decide)) | exact hib | exact hrn | exact hrc | exact hkr | exact hkk | exact hp1) | refine ⟨?_, ?_⟩ | intro _)
         all_goals first | (with_reducible first | apply qa | apply qb | apply qc | apply qd) | (conv => whnf)
         all_goals first | rfl | omega | (dsimp only; omega) | ((with_reducible show idsOk _ _ = true); rfl) | (exact congrArg (Value.int .i64) (by first | (rw [wI_id _ (by omega) (by omega)]; omega) | omega | (dsimp only; omega))) | (dsimp only; (exact congrArg (Value.int .i64) (by first | (rw [wI_id _ (by omega) (by omega)]; omega) | omega | (dsimp only; omega)))) | exact hkr.1 | exact hkr.2 | exact hrn.1 | exact hrn.2 | skip
         all_goals first | (rename_i q hq; dsimp only at hq; rcases Nat.lt_or_ge q i with hqi | hqi; exact k2 q hqi; rw [show q = i by omega]; exact hlx) | (rename_i q hq; unfold appRow; split; rfl; (rw [show q = i by omega, Nat.sub_self]; rfl))
       | false =>
         have hend : i < L.length -> Ky.lt (atK L i) ⟨x1, i1⟩ = false := fun _ => by rw [<- hlt2]; exact hlt
         have htw := twK_of (L := L) (k := ⟨x1, i1⟩) k1 k2 hend
         have hO0 : putO L ⟨x1, i1⟩ i i = L.take i ++ [(Ky.cl ⟨x1, i1⟩)] := by unfold putO; rw [Nat.sub_self]; rfl
         have hO1 : ∀ q, q < i + 1 -> appRow i (rwK L) (Go.Sx.rowAt 2 [.v (.string (Ky.cl ⟨x1, i1⟩).name), .v (.int .i64 (Ky.cl ⟨x1, i1⟩).node)]) q = rwK (L.take i ++ [(Ky.cl ⟨x1, i1⟩)]) q := fun q hq => by
          have e := rwK_snoc (O := L.take i) (x := (Ky.cl ⟨x1, i1⟩)) (g := Go.Sx.rowAt 2 [.v (.string (Ky.cl ⟨x1, i1⟩).name), .v (.int .i64 (Ky.cl ⟨x1, i1⟩).node)]) (k := q) rfl (by rw [List.length_take, Nat.min_eq_left k1]; exact hq)
          rw [List.length_take, Nat.min_eq_left k1] at e
          rw [<- e]
          unfold appRow
          by_cases hqi : q < i
          . rw [if_pos hqi, if_pos hqi]
            show kyC (atK L q) = kyC (atK (L.take i) q)
            unfold atK; rw [List.getD_eq_getElem?_getD, List.getD_eq_getElem?_getD, List.getElem?_take_of_lt hqi]
          . rw [if_neg hqi, if_neg hqi]
         clear k2 hend
         repeat' (first | exact trivial | (with_reducible first | exact (fun h => absurd (hne.symm.trans h) (by decide)) | exact (fun h => absurd (hlt.symm.trans h) (by decide)) | exact hib | exact hrn | exact hrc | exact hkr | exact hkk | exact hp1) | refine ⟨?_, ?_⟩ | intro _)
         all_goals first | (with_reducible first | apply qa | apply qb | apply qc | apply qd) | (conv => whnf)
         all_goals first | omega | exact hrn.1 | exact hrn.2 | exact hkr.1 | exact hkr.2 | skip
         refine loop_ids tys_ok (l := sl7S) sp7S (by kernel_rfl) (X := Nat)
          (fun j => ⟨[(8, vx (.int .i64 j)), (5, .va (.c (.osl 1 2 0 (putO L ⟨x1, i1⟩ i j).length))), (0, .va (.c (.d (.lst 2 L.length (rwK L))))), (3, .va (.c (.own 0 0)))], [(0, .cells [.d (st (Ky.cl ⟨x1, i1⟩).name), .d (it (Ky.cl ⟨x1, i1⟩).node)]), (1, .row 2 (putO L ⟨x1, i1⟩ i j).length (rwK (putO L ⟨x1, i1⟩ i j)))], 2, 59⟩)
          (fun j => L.length - j) (fun j => i <= j /\ j <= L.length) [5] []
          (fun j _ _ => j + 1) (fun xs => match xs with | [t] => [0, oI t] | _ => []) [0, 15] 0 0 i ?_ ?_ ?_
         . exact ⟨Nat.le_refl _, k1⟩
         . repeat' (first | exact trivial | exact rfl | (intro _ h; exact absurd h (Nat.not_lt_zero _)) | (intro _ _; exact rfl) | refine ⟨?_, ?_⟩ | fail)
           all_goals first | (rw [hO0]; rfl) | (rw [hO0, List.length_append, List.length_take, Nat.min_eq_left k1]; rfl) | (rw [hO0, List.length_append, List.length_take, Nat.min_eq_left k1]; simp; done) | (intro q hq; rw [hO0, <- hO1 q hq]; unfold appRow; simp only [Nat.zero_add]; done) | (intro q hq; rw [hO0, <- hO1 q hq]; unfold appRow; simp only [Nat.zero_add]; rfl)
         . rintro j ⟨m1, m2⟩
           have mO := putO_len L ⟨x1, i1⟩ i j m1 m2
           rcases Nat.lt_or_ge j L.length with hj | hj
           . have hje : decide ((j : Int) < (L.length : Int)) = true := decide_eq_true (by omega)
             have hjb : (0 : Int) <= (j : Int) /\ (j : Int) < (L.length : Int) := by omega
             have hs := putO_snoc (L := L) (k := ⟨x1, i1⟩) m1 hj
             by_cases he : atK L j = (Ky.cl ⟨x1, i1⟩)
             . rw [if_pos he] at hs
               have heq : (!((atK L (Int.toNat (j : Int))).name.toList == (Ky.cl ⟨x1, i1⟩).name.toList && ((atK L (Int.toNat (j : Int))).node == (Ky.cl ⟨x1, i1⟩).node && true))) = false := by
                rw [keyEq_iff]; exact congrArg (!·) (decide_eq_true he)
               repeat' (first | exact trivial | (with_reducible first | exact (fun h => absurd (hje.symm.trans h) (by decide)) | exact (fun h => absurd (heq.symm.trans h) (by decide)) | exact hjb) | refine ⟨?_, ?_⟩ | intro _)
               all_goals first | (with_reducible first | apply qa | apply qb | apply qc | apply qd) | (conv => whnf)
               all_goals first | rfl | omega | (dsimp only; omega) | ((with_reducible show idsOk _ _ = true); rfl) | (exact congrArg (Value.int .i64) (by first | (rw [wI_id _ (by omega) (by omega)]; omega) | omega | (dsimp only; omega))) | (dsimp only; (exact congrArg (Value.int .i64) (by first | (rw [wI_id _ (by omega) (by omega)]; omega) | omega | (dsimp only; omega)))) | skip
               all_goals (dsimp only; rw [hs])
               all_goals first | rfl | (rw [List.length_append]; rfl) | (simp; done) | exact rwK_snoc rfl ‹_›
             . rw [if_neg he] at hs
               have heq : (!((atK L (Int.toNat (j : Int))).name.toList == (Ky.cl ⟨x1, i1⟩).name.toList && ((atK L (Int.toNat (j : Int))).node == (Ky.cl ⟨x1, i1⟩).node && true))) = true := by
                rw [keyEq_iff]; exact congrArg (!·) (decide_eq_false he)
               repeat' (first | exact trivial | (with_reducible first | exact (fun h => absurd (hje.symm.trans h) (by decide)) | exact (fun h => absurd (heq.symm.trans h) (by decide)) | exact hjb) | refine ⟨?_, ?_⟩ | intro _)
               all_goals first | (with_reducible first | apply qa | apply qb | apply qc | apply qd) | (conv => whnf)
               all_goals first | rfl | omega | (dsimp only; omega) | ((with_reducible show idsOk _ _ = true); rfl) | (exact congrArg (Value.int .i64) (by first | (rw [wI_id _ (by omega) (by omega)]; omega) | omega | (dsimp only; omega))) | (dsimp only; (exact congrArg (Value.int .i64) (by first | (rw [wI_id _ (by omega) (by omega)]; omega) | omega | (dsimp only; omega)))) | skip
               all_goals (dsimp only; rw [hs])
               all_goals first | rfl | (rw [List.length_append]; rfl) | (simp; done) | exact rwK_snoc rfl ‹_›
           . have hje : decide ((j : Int) < (L.length : Int)) = false := decide_eq_false (by omega)
             obtain rfl : j = L.length := by omega
             rw [<- htw] at *
             repeat' (first | exact trivial | (with_reducible exact (fun h => absurd (hje.symm.trans h) (by decide))) | refine ⟨?_, ?_⟩ | intro _)
             all_goals first | (with_reducible first | apply qa | apply qb | apply qc | apply qd) | (conv => whnf)
             all_goals first | rfl | omega | (dsimp only; omega) | (intro q hq; rfl) | (rename_i q _; show rwK _ (0 + q) = _; rw [Nat.zero_add])
     . have hne : decide ((i : Int) < (L.length : Int)) = false := decide_eq_false (by omega)
       have hend : i < L.length -> Ky.lt (atK L i) ⟨x1, i1⟩ = false := fun h => by omega
       have htw := twK_of (L := L) (k := ⟨x1, i1⟩) k1 k2 hend
       have hO0 : putO L ⟨x1, i1⟩ i i = L.take i ++ [(Ky.cl ⟨x1, i1⟩)] := by unfold putO; rw [Nat.sub_self]; rfl
       have hO1 : ∀ q, q < i + 1 -> appRow i (rwK L) (Go.Sx.rowAt 2 [.v (.string (Ky.cl ⟨x1, i1⟩).name), .v (.int .i64 (Ky.cl ⟨x1, i1⟩).node)]) q = rwK (L.take i ++ [(Ky.cl ⟨x1, i1⟩)]) q := fun q hq => by
        have e := rwK_snoc (O := L.take i) (x := (Ky.cl ⟨x1, i1⟩)) (g := Go.Sx.rowAt 2 [.v (.string (Ky.cl ⟨x1, i1⟩).name), .v (.int .i64 (Ky.cl ⟨x1, i1⟩).node)]) (k := q) rfl (by rw [List.length_take, Nat.min_eq_left k1]; exact hq)
        rw [List.length_take, Nat.min_eq_left k1] at e
        rw [<- e]
        unfold appRow
        by_cases hqi : q < i
        . rw [if_pos hqi, if_pos hqi]
          show kyC (atK L q) = kyC (atK (L.take i) q)
          unfold atK; rw [List.getD_eq_getElem?_getD, List.getD_eq_getElem?_getD, List.getElem?_take_of_lt hqi]
        . rw [if_neg hqi, if_neg hqi]
       clear k2 hend
       repeat' (first | exact trivial | (with_reducible exact (fun h => absurd (hne.symm.trans h) (by decide))) | refine ⟨?_, ?_⟩ | intro _)
       all_goals first | (with_reducible first | apply qa | apply qb | apply qc | apply qd) | (conv => whnf)
       all_goals first | omega | skip
       refine loop_ids tys_ok (l := sl7S) sp7S (by kernel_rfl) (X := Nat)
        (fun j => ⟨[(8, vx (.int .i64 j)), (5, .va (.c (.osl 1 2 0 (putO L ⟨x1, i1⟩ i j).length))), (0, .va (.c (.d (.lst 2 L.length (rwK L))))), (3, .va (.c (.own 0 0)))], [(0, .cells [.d (st (Ky.cl ⟨x1, i1⟩).name), .d (it (Ky.cl ⟨x1, i1⟩).node)]), (1, .row 2 (putO L ⟨x1, i1⟩ i j).length (rwK (putO L ⟨x1, i1⟩ i j)))], 2, 59⟩)
        (fun j => L.length - j) (fun j => i <= j /\ j <= L.length) [5] []
        (fun j _ _ => j + 1) (fun xs => match xs with | [t] => [0, oI t] | _ => []) [0, 15] 0 0 i ?_ ?_ ?_
       . exact ⟨Nat.le_refl _, k1⟩
       . repeat' (first | exact trivial | exact rfl | (intro _ h; exact absurd h (Nat.not_lt_zero _)) | (intro _ _; exact rfl) | refine ⟨?_, ?_⟩ | fail)
         all_goals first | (rw [hO0]; rfl) | (rw [hO0, List.length_append, List.length_take, Nat.min_eq_left k1]; rfl) | (rw [hO0, List.length_append, List.length_take, Nat.min_eq_left k1]; simp; done) | (intro q hq; rw [hO0, <- hO1 q hq]; unfold appRow; simp only [Nat.zero_add]; done) | (intro q hq; rw [hO0, <- hO1 q hq]; unfold appRow; simp only [Nat.zero_add]; rfl)
       . rintro j ⟨m1, m2⟩
         have mO := putO_len L ⟨x1, i1⟩ i j m1 m2
         rcases Nat.lt_or_ge j L.length with hj | hj
         . have hje : decide ((j : Int) < (L.length : Int)) = true := decide_eq_true (by omega)
           have hjb : (0 : Int) <= (j : Int) /\ (j : Int) < (L.length : Int) := by omega
           have hs := putO_snoc (L := L) (k := ⟨x1, i1⟩) m1 hj
           by_cases he : atK L j = (Ky.cl ⟨x1, i1⟩)
           . rw [if_pos he] at hs
             have heq : (!((atK L (Int.toNat (j : Int))).name.toList == (Ky.cl ⟨x1, i1⟩).name.toList && ((atK L (Int.toNat (j : Int))).node == (Ky.cl ⟨x1, i1⟩).node && true))) = false := by
              rw [keyEq_iff]; exact congrArg (!·) (decide_eq_true he)
             repeat' (first | exact trivial | (with_reducible first | exact (fun h => absurd (hje.symm.trans h) (by decide)) | exact (fun h => absurd (heq.symm.trans h) (by decide)) | exact hjb) | refine ⟨?_, ?_⟩ | intro _)
             all_goals first | (with_reducible first | apply qa | apply qb | apply qc | apply qd) | (conv => whnf)
             all_goals first | rfl | omega | (dsimp only; omega) | ((with_reducible show idsOk _ _ = true); rfl) | (exact congrArg (Value.int .i64) (by first | (rw [wI_id _ (by omega) (by omega)]; omega) | omega | (dsimp only; omega))) | (dsimp only; (exact congrArg (Value.int .i64) (by first | (rw [wI_id _ (by omega) (by omega)]; omega) | omega | (dsimp only; omega)))) | skip
             all_goals (dsimp only; rw [hs])
             all_goals first | rfl | (rw [List.length_append]; rfl) | (simp; done) | exact rwK_snoc rfl ‹_›
           . rw [if_neg he] at hs
             have heq : (!((atK L (Int.toNat (j : Int))).name.toList == (Ky.cl ⟨x1, i1⟩).name.toList && ((atK L (Int.toNat (j : Int))).node == (Ky.cl ⟨x1, i1⟩).node && true))) = true := by
              rw [keyEq_iff]; exact congrArg (!·) (decide_eq_false he)
             repeat' (first | exact trivial | (with_reducible first | exact (fun h => absurd (hje.symm.trans h) (by decide)) | exact (fun h => absurd (heq.symm.trans h) (by decide)) | exact hjb) | refine ⟨?_, ?_⟩ | intro _)
             all_goals first | (with_reducible first | apply qa | apply qb | apply qc | apply qd) | (conv => whnf)
             all_goals first | rfl | omega | (dsimp only; omega) | ((with_reducible show idsOk _ _ = true); rfl) | (exact congrArg (Value.int .i64) (by first | (rw [wI_id _ (by omega) (by omega)]; omega) | omega | (dsimp only; omega))) | (dsimp only; (exact congrArg (Value.int .i64) (by first | (rw [wI_id _ (by omega) (by omega)]; omega) | omega | (dsimp only; omega)))) | skip
             all_goals (dsimp only; rw [hs])
             all_goals first | rfl | (rw [List.length_append]; rfl) | (simp; done) | exact rwK_snoc rfl ‹_›
         . have hje : decide ((j : Int) < (L.length : Int)) = false := decide_eq_false (by omega)
           obtain rfl : j = L.length := by omega
           rw [<- htw] at *
           repeat' (first | exact trivial | (with_reducible exact (fun h => absurd (hje.symm.trans h) (by decide))) | refine ⟨?_, ?_⟩ | intro _)
           all_goals first | (with_reducible first | apply qa | apply qb | apply qc | apply qd) | (conv => whnf)
           all_goals first | rfl | omega | (dsimp only; omega) | (intro q hq; rfl) | (rename_i q _; show rwK _ (0 + q) = _; rw [Nat.zero_add])
 . cases h
theorem rfind_at {L : List Sd} {k : Ky} {i : Nat} (hi : i < L.length) (h1 : ∀ q, q < i -> (atD L q).k.cl ≠ k.cl) (h2 : (atD L i).k.cl = k.cl) : rfind L k = some (atD L i) := by
 unfold rfind
 rw [List.find?_eq_some_iff_getElem]
 refine ⟨decide_eq_true h2, i, hi, (atD_get hi).symm, fun j hj => ?_⟩
 have := h1 j hj
 rw [atD_get (by omega)] at this
 rw [decide_eq_false this]; rfl
theorem rfind_no {L : List Sd} {k : Ky} (h1 : ∀ q, q < L.length -> (atD L q).k.cl ≠ k.cl) : rfind L k = none :=
 List.find?_eq_none.2 fun x hx => by
  obtain ⟨q, hq, rfl⟩ := mem_atD hx
  rw [decide_eq_false (h1 q hq)]; exact Bool.false_ne_true
def FRFind : List Ar -> Option Rs
 | [.c (.d (.lst 12 n0 f0)), .agg [.d (.v (.string x1)), .d (.v (.int .i64 i1))]] => some ⟨(n0 <= 1000000000 /\ RowsD n0 f0) /\ (rI i1), .tup [Sv.ar (findS (gD n0 f0) (⟨x1, i1⟩ : Ky)), .c (.d (bo (findB (gD n0 f0) (⟨x1, i1⟩ : Ky))))], []⟩
 | _ => none
theorem fcRFind : FC Tryz.prog 29 FRFind := by
 intro xs pre r us h hp
 unfold FRFind at h
 split at h
 . rename_i n0 f0 x1 i1
   cases h
   obtain ⟨hp0, hp1⟩ := hp
   refine FCat.deep (ys := [.c (.d (.lst 12 n0 (rwD (gD n0 f0)))), .agg [.d (.v (.string x1)), .d (.v (.int .i64 i1))]]) ?_ ?_
   . repeat' (first | exact trivial | exact rfl | exact DvE.refl _ | refine ⟨?_, ?_⟩ | fail)
     all_goals first | exact canonD hp0.2.h
   refine fcat tys_ok (l := [(82, ⟨[], FRKyClean⟩), (49, ⟨[], FRTClean⟩)]) ⟨fcRKyClean, fcRTClean, trivial⟩ Tryz.func29 rfl (by kernel_rfl) true ?_
   have hn := hp0.1
   have hO := okD_rows hp0.2
   have hlen := gD_length n0 f0
   generalize gD n0 f0 = L at *
   clear hp0
   subst hlen
   have hrow := okD_row hO
   have hat : ∀ k, k < L.length -> (atD L k).ok := fun k hk => hO _ (atD_mem hk)
   repeat' (first | exact trivial | refine ⟨?_, ?_⟩ | intro _)
   all_goals first | (with_reducible first | apply qa | apply qb | apply qc | apply qd) | (conv => whnf)
   refine loop_ok tys_ok (l := [(82, ⟨[], FRKyClean⟩), (49, ⟨[], FRTClean⟩)]) ⟨fcRKyClean, fcRTClean, trivial⟩ (by kernel_rfl) (X := Nat)
    (fun i => ⟨[(6, vx (.int .i64 i)), (0, .va (.c (.d (.lst 12 L.length (rwD L))))), (3, .va (.c (.own 0 0))), (4, .va (.c (.own 1 0)))], [(0, .cells [.d (st x1), .d (it i1)]), (1, .cells [.d (bo false), .d (.v (.slice none 0 0)), .d (bo false), .d (it 0), .d (it 0), .d (bo false), .d (it 0), .d (it 0), .d (bo false), .d (.v (.slice none 0 0))])], 2, 29⟩)
    (fun i => L.length - i) (fun i => i <= L.length /\ ∀ q, q < i -> (atD L q).k.cl ≠ Ky.cl ⟨x1, i1⟩) [] []
    (fun i _ _ => i + 1) [0, 1] [0, 1] 0 0 0 ?_ ?_ ?_
   . exact ⟨Nat.zero_le _, fun k h => absurd h (Nat.not_lt_zero k)⟩
   . repeat' (first | exact trivial | exact rfl | (intro _ _; exact rfl) | refine ⟨?_, ?_⟩ | fail)
   . rintro i ⟨k1, k2⟩
     rcases Nat.lt_or_ge i L.length with hi | hi
     . have hne : decide ((i : Int) < (L.length : Int)) = true := decide_eq_true (by omega)
       have hib : (0 : Int) <= (i : Int) /\ (i : Int) < (L.length : Int) := by omega
       have hc : Sv.cond (atD L (Int.toNat (i : Int))).s := (hat i hi).cond
       have hr : rI (atD L (Int.toNat (i : Int))).k.node := (hat i hi).n
       have hkq : ((Ky.cl ⟨(atD L (Int.toNat (i : Int))).k.name, (atD L (Int.toNat (i : Int))).k.node⟩).name.toList == (Ky.cl ⟨x1, i1⟩).name.toList && ((Ky.cl ⟨(atD L (Int.toNat (i : Int))).k.name, (atD L (Int.toNat (i : Int))).k.node⟩).node == (Ky.cl ⟨x1, i1⟩).node && true)) = decide ((atD L i).k.cl = Ky.cl ⟨x1, i1⟩) := keyEq_iff
       by_cases he : (atD L i).k.cl = Ky.cl ⟨x1, i1⟩
       . have hf := rfind_at (k := ⟨x1, i1⟩) hi k2 he
         have e1 : findS L ⟨x1, i1⟩ = (atD L i).s.clean := by unfold findS; rw [hf]
         have e2 : findB L ⟨x1, i1⟩ = true := by unfold findB; rw [hf]; rfl
         have e3 := Sv.clean_eq (atD L i).s
         rw [decide_eq_true he] at hkq
         repeat' (first | exact trivial | (with_reducible first | exact (fun h => absurd (hne.symm.trans h) (by decide)) | exact (fun h => absurd (hkq.symm.trans h) (by decide)) | exact hib | exact hr | exact hp1 | exact hc | exact hrow) | refine ⟨?_, ?_⟩ | intro _)
         all_goals first | (with_reducible first | apply qa | apply qb | apply qc | apply qd) | (conv => whnf)
         all_goals (try rw [e1])
         all_goals (try rw [e2])
         all_goals (try simp only [gBs_row, gN_lst])
         all_goals first | omega | rfl | exact hr | exact hr.1 | exact hr.2 | exact hc.1.1 | exact hc.1.2 | exact hc.2.1.1 | (rw [e3]; rfl)
       . rw [decide_eq_false he] at hkq
         repeat' (first | exact trivial | (with_reducible first | exact (fun h => absurd (hne.symm.trans h) (by decide)) | exact (fun h => absurd (hkq.symm.trans h) (by decide)) | exact hib | exact hr | exact hp1 | exact hc | exact hrow) | refine ⟨?_, ?_⟩ | intro _)
         all_goals first | (with_reducible first | apply qa | apply qb | apply qc | apply qd) | (conv => whnf)
         all_goals first | omega | rfl | exact hr | exact hr.1 | exact hr.2 | (dsimp only; omega) | (exact congrArg (Value.int .i64) (by first | (rw [wI_id _ (by omega) (by omega)]; omega) | omega | (dsimp only; omega))) | (dsimp only; (exact congrArg (Value.int .i64) (by first | (rw [wI_id _ (by omega) (by omega)]; omega) | omega | (dsimp only; omega)))) | (rename_i q hq hz; dsimp only at hq; rcases Nat.lt_or_ge q i with hqi | hqi; exact k2 q hqi hz; rw [show q = i by omega] at hz; exact he hz)
     . have hne : decide ((i : Int) < (L.length : Int)) = false := decide_eq_false (by omega)
       obtain rfl : i = L.length := by omega
       have hf := rfind_no (k := ⟨x1, i1⟩) k2
       have e1 : findS L ⟨x1, i1⟩ = Sv.zero := by unfold findS; rw [hf]
       have e2 : findB L ⟨x1, i1⟩ = false := by unfold findB; rw [hf]; rfl
       repeat' (first | exact trivial | (with_reducible exact (fun h => absurd (hne.symm.trans h) (by decide))) | refine ⟨?_, ?_⟩ | intro _)
       all_goals first | (with_reducible first | apply qa | apply qb | apply qc | apply qd) | (conv => whnf)
       all_goals (try rw [e1])
       all_goals (try rw [e2])
       all_goals first | omega | rfl
 . cases h
def FRSides : List Ar -> Option Rs
 | [.c (.d (.lst 12 n0 f0)), .c (.d (.lst 12 n1 f1))] => some ⟨(n0 <= 1000000000 /\ RowsD n0 f0) /\ (n1 <= 1000000000 /\ RowsD n1 f1) /\ ((gD n0 f0) = (gD n1 f1)), .va (.c (.d (bo (true)))), []⟩
 | _ => none
theorem fcRSides : FC Tryz.prog 32 FRSides := by
 intro xs pre r us h hp
 unfold FRSides at h
 split at h
 . rename_i n0 f0 n1 f1
   cases h
   obtain ⟨hp0, hp1, hp2⟩ := hp
   refine FCat.deep (ys := [.c (.d (.lst 12 n0 (rwD (gD n0 f0)))), .c (.d (.lst 12 n1 (rwD (gD n1 f1))))]) ?_ ?_
   . repeat' (first | exact trivial | exact rfl | exact DvE.refl _ | refine ⟨?_, ?_⟩ | fail)
     all_goals first | first | exact canonD hp0.2.h | exact canonD hp1.2.h
   refine fcat tys_ok (l := [(36, ⟨[], FRTExact⟩)]) ⟨fcRTExact, trivial⟩ Tryz.func32 rfl (by kernel_rfl) true ?_
   have hn := hp0.1
   have hO := okD_rows hp0.2
   have hlen := gD_length n0 f0
   have hn1 := hp1.1
   have hlen1 := gD_length n1 f1
   rw [<- hp2] at hlen1 ⊢
   generalize gD n0 f0 = L at *
   clear hp0 hp1 hp2
   subst hlen
   subst hlen1
   have hrow := okD_row hO
   have hat : ∀ k, k < L.length -> (atD L k).ok := fun k hk => hO _ (atD_mem hk)
   repeat' (first | exact trivial | refine ⟨?_, ?_⟩ | intro _)
   all_goals first | (with_reducible first | apply qa | apply qb | apply qc | apply qd) | (conv => whnf)
   all_goals first | (exact absurd ‹(_ != _) = true› (by simp)) | skip
   refine loop_ok tys_ok (l := [(36, ⟨[], FRTExact⟩)]) ⟨fcRTExact, trivial⟩ (by kernel_rfl) (X := Nat)
    (fun i => ⟨[(5, vx (.int .i64 i)), (0, .va (.c (.d (.lst 12 L.length (rwD L))))), (1, .va (.c (.d (.lst 12 L.length (rwD L)))))], [], 0, 42⟩)
    (fun i => L.length - i) (fun i => i <= L.length) [] []
    (fun i _ _ => i + 1) [] [] 0 0 0 ?_ ?_ ?_
   . exact Nat.zero_le _
   . repeat' (first | exact trivial | exact rfl | (intro _ _; exact rfl) | refine ⟨?_, ?_⟩ | fail)
   . rintro i k1
     rcases Nat.lt_or_ge i L.length with hi | hi
     . have hne : decide ((i : Int) < (L.length : Int)) = true := decide_eq_true (by omega)
       have hib : (0 : Int) <= (i : Int) /\ (i : Int) < (L.length : Int) := by omega
       have hc : Sv.cond (atD L (Int.toNat (i : Int))).s := (hat i hi).cond
       have hkq : (!((atD L (Int.toNat (i : Int))).k.name.toList == (atD L (Int.toNat (i : Int))).k.name.toList && ((atD L (Int.toNat (i : Int))).k.node == (atD L (Int.toNat (i : Int))).k.node && true))) = false := by simp
       repeat' (first | exact trivial | (with_reducible first | exact (fun h => absurd (hne.symm.trans h) (by decide)) | exact (fun h => absurd (hkq.symm.trans h) (by decide)) | exact hib | exact hc | exact hrow | exact rfl) | refine ⟨?_, ?_⟩ | intro _)
       all_goals first | (with_reducible first | apply qa | apply qb | apply qc | apply qd) | (conv => whnf)
       all_goals first | omega | rfl | exact hc.1.1 | exact hc.1.2 | exact hc.2.1.1 | (exact absurd ‹(!true) = true› (by decide)) | (dsimp only; omega) | (exact congrArg (Value.int .i64) (by first | (rw [wI_id _ (by omega) (by omega)]; omega) | omega | (dsimp only; omega))) | (dsimp only; (exact congrArg (Value.int .i64) (by first | (rw [wI_id _ (by omega) (by omega)]; omega) | omega | (dsimp only; omega))))
     . have hne : decide ((i : Int) < (L.length : Int)) = false := decide_eq_false (by omega)
       obtain rfl : i = L.length := by omega
       repeat' (first | exact trivial | (with_reducible exact (fun h => absurd (hne.symm.trans h) (by decide))) | refine ⟨?_, ?_⟩ | intro _)
       all_goals first | (with_reducible first | apply qa | apply qb | apply qc | apply qd) | (conv => whnf)
       all_goals first | omega | rfl
 . cases h
def sumO (L : List Sd) (j : Nat) : List Sd := (((keysOf L).take j).map fun k => (⟨k, foldJ L k⟩ : Sd)).filter fun x => !Sv.none x.s
theorem sumO_all (L : List Sd) : sumO L (keysOf L).length = sumM L := by unfold sumO sumM sumsK; rw [List.take_length]
theorem sumO_snoc {L : List Sd} {j : Nat} (hj : j < (keysOf L).length) : sumO L (j + 1) = if Sv.none (foldJ L (atK (keysOf L) j)) = true then sumO L j else sumO L j ++ [⟨atK (keysOf L) j, foldJ L (atK (keysOf L) j)⟩] := by
 unfold sumO
 rw [takeK_snoc hj, List.map_append, List.filter_append]
 cases h : Sv.none (foldJ L (atK (keysOf L) j)) with
 | true => rw [if_pos rfl]; simp [h]
 | false => rw [if_neg Bool.false_ne_true]; simp [h]
theorem sumO_len (L : List Sd) (j : Nat) : (sumO L j).length <= j := by
 unfold sumO
 have := List.length_filter_le (fun x : Sd => !Sv.none x.s) (((keysOf L).take j).map fun k => (⟨k, foldJ L k⟩ : Sd))
 rw [List.length_map, List.length_take] at this
 omega
theorem rwD_snoc {O : List Sd} {x : Sd} {g : Nat -> List DV} {k : Nat} (hg : g 0 = sdC x) (hk : k < O.length + 1) : appRow O.length (rwD O) g k = rwD (O ++ [x]) k := by
 unfold appRow
 split
 . rename_i h
   show sdC (atD O k) = sdC (atD (O ++ [x]) k)
   unfold atD; rw [List.getD_eq_getElem?_getD, List.getD_eq_getElem?_getD, List.getElem?_append_left h]
 . rename_i h
   obtain rfl : k = O.length := by omega
   rw [Nat.sub_self, hg]
   show sdC x = sdC (atD (O ++ [x]) O.length)
   unfold atD; rw [List.getD_eq_getElem?_getD, List.getElem?_append_right (Nat.le_refl _), Nat.sub_self]; rfl
theorem keys_take {L : List Sd} {i : Nat} (hi : i < L.length) : keysOf (L.take (i + 1)) = putK (keysOf (L.take i)) (atD L i).k := by rw [take_snoc hi, keys_snoc]
theorem keys_r {L : List Sd} (hO : okD L) : ∀ x, x ∈ keysOf L -> rI x.node := fun x hx => by
 obtain ⟨y, hy, rfl⟩ := (mem_keys L x).1 hx
 exact Ky.cl_r (hO y hy).n
theorem foldJ_take {L : List Sd} {i : Nat} (k : Ky) (hi : i < L.length) : foldJ (L.take (i + 1)) k = if (atD L i).k.cl = k then Sv.join (foldJ (L.take i) k) (atD L i).s else foldJ (L.take i) k := by rw [take_snoc hi, foldJ_snoc]
theorem lad0 : 0 <= 9223372036854775807 /\ ∀ (i : Nat), i < 0 -> (fun _ => ([] : List DV)) i = [it (gI ((fun _ => ([] : List DV)) i))] /\ rI (gI ((fun _ => ([] : List DV)) i)) := ⟨by decide, fun i h => absurd h (Nat.not_lt_zero i)⟩
def FRSum : List Ar -> Option Rs
 | [.c (.d (.lst 12 n0 f0))] => some ⟨(n0 <= 1000000000 /\ RowsD n0 f0) /\ (∃ B, B <= 100000000 /\ (∀ i, i < n0 -> Sv.fit B (atD (gD n0 f0) i).s) /\ ∀ i, i <= n0 -> ∀ k, Sv.fit B (foldJ (((gD n0 f0)).take i) k)), .va (.c (.d (lstD (sumM (gD n0 f0))))), []⟩
 | _ => none
abbrev sl8S : List (Nat × Sm) := [(89, ⟨[], FRKPut⟩), (82, ⟨[], FRKyClean⟩), (53, ⟨[], FN 1 FRTOp⟩), (31, ⟨[], FRTNone⟩)]
theorem sp8S : sumsOk Tryz.prog sl8S := ⟨fcRKPut, fcRKyClean, fc_nil 1 fcRTOp, fcRTNone, trivial⟩
theorem fcRSum : FC Tryz.prog 35 FRSum := by
 intro xs pre r us h hp
 unfold FRSum at h
 split at h
 . rename_i n0 f0
   cases h
   obtain ⟨hp0, hp1⟩ := hp
   refine FCat.deep (ys := [.c (.d (.lst 12 n0 (rwD (gD n0 f0))))]) ?_ ?_
   . repeat' (first | exact trivial | exact rfl | exact DvE.refl _ | refine ⟨?_, ?_⟩ | fail)
     all_goals first | exact canonD hp0.2.h
   refine fcat tys_ok (l := sl8S) sp8S Tryz.func35 rfl (by kernel_rfl) true ?_
   obtain ⟨Bn, hB, hf, hF⟩ := hp1
   have hn := hp0.1
   have hO := okD_rows hp0.2
   have hlen := gD_length n0 f0
   generalize gD n0 f0 = L at *
   clear hp0
   subst hlen
   have hrow := okD_row hO
   have hat : ∀ k, k < L.length -> (atD L k).ok := fun k hk => hO _ (atD_mem hk)
   repeat' (first | exact trivial | refine ⟨?_, ?_⟩ | intro _)
   all_goals first | (with_reducible first | apply qa | apply qb | apply qc | apply qd) | (conv => whnf)
   refine loop_ids tys_ok (l := sl8S) sp8S (by kernel_rfl) (X := Nat)
    (fun i => ⟨[(4, vx (.int .i64 i)), (3, .va (.c (.d (lstK (keysOf (L.take i)))))), (0, .va (.c (.d (.lst 12 L.length (rwD L)))))], [], 0, 66⟩)
    (fun i => L.length - i) (fun i => i <= L.length) [] []
    (fun i _ _ => i + 1) (fun _ => []) [] 0 0 0 ?_ ?_ ?_
   . exact Nat.zero_le _
   . repeat' (first | exact trivial | exact rfl | (intro _ h; exact absurd h (Nat.not_lt_zero _)) | (intro _ _; exact rfl) | refine ⟨?_, ?_⟩ | fail)
     all_goals first | (simp; done) | (intro i hi; exact absurd hi (Nat.not_lt_zero i))
   . rintro i k1
     rcases Nat.lt_or_ge i L.length with hi | hi
     . have hie : decide ((i : Int) < (L.length : Int)) = true := decide_eq_true (by omega)
       have hib : (0 : Int) <= (i : Int) /\ (i : Int) < (L.length : Int) := by omega
       have hxr : rI (atD L (Int.toNat (i : Int))).k.node := (hat i hi).n
       have hkl := keys_len (L.take i)
       rw [List.length_take] at hkl
       have hks := keys_sk (L.take i)
       have hkr := rowsK_of (keys_r (L := L.take i) fun x hx => hO x (List.mem_of_mem_take hx))
       have hkn := keys_take hi
       have hgk := gKs_row (keysOf (L.take i))
       have hks2 : SK (gKs (keysOf (L.take i)).length (rwK (keysOf (L.take i)))) := by rw [hgk]; exact hks
       repeat' (first | exact trivial | (with_reducible first | exact (fun h => absurd (hie.symm.trans h) (by decide)) | exact hib | exact hxr | exact hks2 | exact hkr) | refine ⟨?_, ?_⟩ | intro _)
       all_goals first | (with_reducible first | apply qa | apply qb | apply qc | apply qd) | (conv => whnf)
       all_goals first | rfl | omega | (dsimp only; omega) | exact hkr | exact hxr.1 | exact hxr.2 | (exact congrArg (Value.int .i64) (by first | (rw [wI_id _ (by omega) (by omega)]; omega) | omega | (dsimp only; omega))) | (dsimp only; (exact congrArg (Value.int .i64) (by first | (rw [wI_id _ (by omega) (by omega)]; omega) | omega | (dsimp only; omega)))) | skip
       all_goals (dsimp only; rw [hkn])
       all_goals (try simp only [hgk])
       all_goals first | rfl | (intro q hq; rfl)
     . have hie : decide ((i : Int) < (L.length : Int)) = false := decide_eq_false (by omega)
       obtain rfl : i = L.length := by omega
       clear hi k1
       have hkl := keys_len L
       have hkr := keys_r hO
       repeat' (first | exact trivial | (with_reducible exact (fun h => absurd (hie.symm.trans h) (by decide))) | refine ⟨?_, ?_⟩ | intro _)
       all_goals first | (with_reducible first | apply qa | apply qb | apply qc | apply qd) | (conv => whnf)
       all_goals first | skip
       refine loop_ids tys_ok (l := sl8S) sp8S (by kernel_rfl) (X := Nat)
        (fun j => ⟨[(6, vx (.int .i64 j)), (5, .va (.c (.osl 0 12 0 (sumO L j).length))), (3, .va (.c (.d (lstK (keysOf L))))), (0, .va (.c (.d (.lst 12 L.length (rwD L)))))], [(0, .row 12 (sumO L j).length (rwD (sumO L j)))], 1, 66⟩)
        (fun j => (keysOf L).length - j) (fun j => j <= (keysOf L).length) [5] []
        (fun j _ _ => j + 1) (fun xs => match xs with | [t] => [oI t] | _ => []) [] 0 1 0 ?_ ?_ ?_
       . exact Nat.zero_le _
       . repeat' (first | exact trivial | exact rfl | (intro _ h; exact absurd h (Nat.not_lt_zero _)) | (intro _ _; exact rfl) | refine ⟨?_, ?_⟩ | fail)
         all_goals first | exact Nat.le_refl _ | exact Nat.zero_lt_one | (rw [List.take_length]; done) | (intro i hi; rw [List.take_length]; done) | (unfold sumO; simp; done)
       . rintro j m1
         rcases Nat.lt_or_ge j (keysOf L).length with hj | hj
         . have hje : decide ((j : Int) < ((keysOf L).length : Int)) = true := decide_eq_true (by omega)
           have hjb : (0 : Int) <= (j : Int) /\ (j : Int) < ((keysOf L).length : Int) := by omega
           have hjl := sumO_len L j
           have hjs := sumO_snoc hj
           repeat' (first | exact trivial | (with_reducible first | exact (fun h => absurd (hje.symm.trans h) (by decide)) | exact hjb) | refine ⟨?_, ?_⟩ | intro _)
           all_goals first | (with_reducible first | apply qa | apply qb | apply qc | apply qd) | (conv => whnf)
           refine loop_ids tys_ok (l := sl8S) sp8S (by kernel_rfl) (X := Nat)
            (fun i => ⟨[(8, vx (.int .i64 i)), (7, .va (.c (.own 1 0))), (6, vx (.int .i64 j)), (5, .va (.c (.osl 0 12 0 (sumO L j).length))), (3, .va (.c (.d (lstK (keysOf L))))), (0, .va (.c (.d (.lst 12 L.length (rwD L)))))], [(0, .row 12 (sumO L j).length (rwD (sumO L j))), (1, .cells [.d (bo (foldJ (L.take i) (atK (keysOf L) (Int.toNat (j : Int)))).e.live), .d (lstB (foldJ (L.take i) (atK (keysOf L) (Int.toNat (j : Int)))).e.binds), .d (bo (foldJ (L.take i) (atK (keysOf L) (Int.toNat (j : Int)))).v.i.s.some), .d (it (foldJ (L.take i) (atK (keysOf L) (Int.toNat (j : Int)))).v.i.s.lo), .d (it (foldJ (L.take i) (atK (keysOf L) (Int.toNat (j : Int)))).v.i.s.hi), .d (bo (foldJ (L.take i) (atK (keysOf L) (Int.toNat (j : Int)))).v.i.c.some), .d (it (foldJ (L.take i) (atK (keysOf L) (Int.toNat (j : Int)))).v.i.c.m), .d (it (foldJ (L.take i) (atK (keysOf L) (Int.toNat (j : Int)))).v.i.c.r), .d (bo (foldJ (L.take i) (atK (keysOf L) (Int.toNat (j : Int)))).v.t.null), .d (lst (foldJ (L.take i) (atK (keysOf L) (Int.toNat (j : Int)))).v.t.names)])], 2, 66⟩)
            (fun i => L.length - i) (fun i => i <= L.length) [] []
            (fun i _ _ => i + 1) (fun _ => [0, 1]) [0, 1] 0 0 0 ?_ ?_ ?_
           . exact Nat.zero_le _
           . repeat' (first | exact trivial | exact rfl | (intro _ h; exact absurd h (Nat.not_lt_zero _)) | (intro _ _; exact rfl) | refine ⟨?_, ?_⟩ | fail)
             all_goals trace_state
           . rintro i k1
             have oA : Sv.fit Bn (Sv.again (foldJ (L.take i) (atK (keysOf L) (Int.toNat (j : Int))))) := (hF i k1 _).ag
             have cA : Sv.cond (foldJ (L.take i) (atK (keysOf L) (Int.toNat (j : Int)))) := (hF i k1 _).cond (by omega)
             rcases Nat.lt_or_ge i L.length with hi | hi
             . have hie : decide ((i : Int) < (L.length : Int)) = true := decide_eq_true (by omega)
               have hib : (0 : Int) <= (i : Int) /\ (i : Int) < (L.length : Int) := by omega
               have hXo := hat i hi
               have cX : Sv.cond (atD L (Int.toNat (i : Int))).s := hXo.cond
               have hxr : rI (atD L (Int.toNat (i : Int))).k.node := hXo.n
               have oX : Sv.fit Bn (Sv.again (atD L (Int.toNat (i : Int))).s) := (hf i hi).ag
               have pr := Sv.fit.pair oA oX (by omega)
               have pq : (foldJ (L.take i) (atK (keysOf L) (Int.toNat (j : Int)))).e.binds.length + (atD L (Int.toNat (i : Int))).s.e.binds.length <= 1099511627776 := by have := pr.s; simpa only [gBs_length] using this
               have hst := foldJ_take (atK (keysOf L) (Int.toNat (j : Int))) hi
               have hkq : ((Ky.cl ⟨(atD L (Int.toNat (i : Int))).k.name, (atD L (Int.toNat (i : Int))).k.node⟩).name.toList == (atK (keysOf L) (Int.toNat (j : Int))).name.toList && ((Ky.cl ⟨(atD L (Int.toNat (i : Int))).k.name, (atD L (Int.toNat (i : Int))).k.node⟩).node == (atK (keysOf L) (Int.toNat (j : Int))).node && true)) = decide ((atD L i).k.cl = (atK (keysOf L) (Int.toNat (j : Int)))) := keyEq_iff
               by_cases he : (atD L i).k.cl = (atK (keysOf L) (Int.toNat (j : Int)))
               . rw [decide_eq_true he] at hkq
                 rw [if_pos he, Sv.join_ref _ _ []] at hst
                 repeat' (first | exact trivial | (with_reducible first | exact (fun h => absurd (hie.symm.trans h) (by decide)) | exact (fun h => absurd (hkq.symm.trans h) (by decide)) | exact hib | exact hjb | exact cA | exact cX | exact pr.r | exact pr.q | exact pq | exact hxr | exact lad0) | refine ⟨?_, ?_⟩ | intro _)
                 all_goals first | (with_reducible first | apply qa | apply qb | apply qc | apply qd) | (conv => whnf)
                 all_goals first | rfl | omega | (dsimp only; omega) | ((with_reducible show idsOk _ _ = true); rfl) | (exact congrArg (Value.int .i64) (by first | (rw [wI_id _ (by omega) (by omega)]; omega) | omega | (dsimp only; omega))) | (dsimp only; (exact congrArg (Value.int .i64) (by first | (rw [wI_id _ (by omega) (by omega)]; omega) | omega | (dsimp only; omega)))) | skip
                 all_goals (dsimp only; rw [hst])
                 all_goals first | rfl | (simp only [gBs_row, gN_lst]; rfl) | (simp only [gBs_row, gN_lst]; done) | (intro q hq; simp only [gBs_row, gN_lst]; rfl) | (rename_i q hq; simp only [gBs_row, gN_lst]; rfl)
               . rw [decide_eq_false he] at hkq
                 rw [if_neg he] at hst
                 repeat' (first | exact trivial | (with_reducible first | exact (fun h => absurd (hie.symm.trans h) (by decide)) | exact (fun h => absurd (hkq.symm.trans h) (by decide)) | exact hib | exact hjb | exact cA | exact cX | exact pr.r | exact pr.q | exact pq | exact hxr | exact lad0) | refine ⟨?_, ?_⟩ | intro _)
                 all_goals first | (with_reducible first | apply qa | apply qb | apply qc | apply qd) | (conv => whnf)
                 all_goals first | rfl | omega | (dsimp only; omega) | ((with_reducible show idsOk _ _ = true); rfl) | (exact congrArg (Value.int .i64) (by first | (rw [wI_id _ (by omega) (by omega)]; omega) | omega | (dsimp only; omega))) | (dsimp only; (exact congrArg (Value.int .i64) (by first | (rw [wI_id _ (by omega) (by omega)]; omega) | omega | (dsimp only; omega)))) | skip
                 all_goals (dsimp only; rw [hst])
                 all_goals first | rfl | (simp only [gBs_row, gN_lst]; rfl) | (simp only [gBs_row, gN_lst]; done) | (intro q hq; simp only [gBs_row, gN_lst]; rfl) | (rename_i q hq; simp only [gBs_row, gN_lst]; rfl)
             . have hie : decide ((i : Int) < (L.length : Int)) = false := decide_eq_false (by omega)
               obtain rfl : i = L.length := by omega
               cases hno : Sv.none (foldJ (L.take L.length) (atK (keysOf L) (Int.toNat (j : Int)))) with
               | true =>
                 have hq : Sv.rnone (Sv.again (foldJ (L.take L.length) (atK (keysOf L) (Int.toNat (j : Int))))) = true := by rw [Sv.again_eq, <- Sv.none_eq]; exact hno
                 have hq2 : (!Sv.rnone (Sv.again (foldJ (L.take L.length) (atK (keysOf L) (Int.toNat (j : Int)))))) = false := by rw [hq]; rfl
                 rw [List.take_length] at hno
                 have hjs2 : sumO L (j + 1) = sumO L j := hjs.trans (if_pos hno)
                 repeat' (first | exact trivial | (with_reducible first | exact (fun h => absurd (hie.symm.trans h) (by decide)) | exact (fun h => absurd (hq.symm.trans h) (by decide)) | exact (fun h => absurd (hq2.symm.trans h) (by decide)) | exact hjb | exact cA) | refine ⟨?_, ?_⟩ | intro _)
                 all_goals first | (with_reducible first | apply qa | apply qb | apply qc | apply qd) | (conv => whnf)
                 all_goals first | rfl | omega | (dsimp only; omega) | ((with_reducible show idsOk _ _ = true); rfl) | (exact congrArg (Value.int .i64) (by first | (rw [wI_id _ (by omega) (by omega)]; omega) | omega | (dsimp only; omega))) | (dsimp only; (exact congrArg (Value.int .i64) (by first | (rw [wI_id _ (by omega) (by omega)]; omega) | omega | (dsimp only; omega)))) | skip
                 all_goals (dsimp only; rw [hjs2])
                 all_goals (try simp only [List.take_length])
                 all_goals first | rfl | (rw [List.length_append]; rfl) | exact rwD_snoc rfl ‹_› | (rename_i q hq; rfl)
               | false =>
                 have hq : Sv.rnone (Sv.again (foldJ (L.take L.length) (atK (keysOf L) (Int.toNat (j : Int))))) = false := by rw [Sv.again_eq, <- Sv.none_eq]; exact hno
                 have hq2 : (!Sv.rnone (Sv.again (foldJ (L.take L.length) (atK (keysOf L) (Int.toNat (j : Int)))))) = true := by rw [hq]; rfl
                 rw [List.take_length] at hno
                 have hjs2 : sumO L (j + 1) = sumO L j ++ [⟨atK (keysOf L) j, foldJ L (atK (keysOf L) j)⟩] := hjs.trans (if_neg (fun q => Bool.false_ne_true (hno.symm.trans q)))
                 repeat' (first | exact trivial | (with_reducible first | exact (fun h => absurd (hie.symm.trans h) (by decide)) | exact (fun h => absurd (hq.symm.trans h) (by decide)) | exact (fun h => absurd (hq2.symm.trans h) (by decide)) | exact hjb | exact cA) | refine ⟨?_, ?_⟩ | intro _)
                 all_goals first | (with_reducible first | apply qa | apply qb | apply qc | apply qd) | (conv => whnf)
                 all_goals first | rfl | omega | (dsimp only; omega) | ((with_reducible show idsOk _ _ = true); rfl) | (exact congrArg (Value.int .i64) (by first | (rw [wI_id _ (by omega) (by omega)]; omega) | omega | (dsimp only; omega))) | (dsimp only; (exact congrArg (Value.int .i64) (by first | (rw [wI_id _ (by omega) (by omega)]; omega) | omega | (dsimp only; omega)))) | skip
                 all_goals (dsimp only; rw [hjs2])
                 all_goals (try simp only [List.take_length])
                 all_goals first | rfl | (rw [List.length_append]; rfl) | exact rwD_snoc rfl ‹_› | (rename_i q hq; rfl)
         . have hje : decide ((j : Int) < ((keysOf L).length : Int)) = false := decide_eq_false (by omega)
           obtain rfl : j = (keysOf L).length := by omega
           have hal := sumO_all L
           repeat' (first | exact trivial | (with_reducible first | exact (fun h => absurd (hje.symm.trans h) (by decide)) | exact hjb) | refine ⟨?_, ?_⟩ | intro _)
           all_goals first | (with_reducible first | apply qa | apply qb | apply qc | apply qd) | (conv => whnf)
           all_goals (try rw [hal])
           all_goals first | rfl | omega | (intro q hq; rfl) | (rename_i q hq; dsimp only; rw [Nat.zero_add]; done) | (rename_i q hq; show rwD _ (0 + q) = _; rw [Nat.zero_add, hal])
 . cases h
def FitL : List Sd -> List Nat -> Prop
 | [], [] => True
 | x :: L, n :: ns => Sv.fit n x.s /\ FitL L ns
 | _, _ => False
theorem fold_fit' (k : Ky) : ∀ (L : List Sd) (ns : List Nat), FitL L ns -> ∀ (s : Sv) (m : Nat), Sv.fit m s -> m + ns.sum <= 8000000000 -> Sv.fit (m + ns.sum) (L.foldl (fun s x => if x.k.cl = k then Sv.join s x.s else s) s)
 | [], [], _, s, m, h, _ => by simpa using h
 | [], _ :: _, h, _, _, _, _ => h.elim
 | _ :: _, [], h, _, _, _, _ => h.elim
 | x :: L, n :: ns, h, s, m, hs, hm => by
   rw [List.sum_cons] at hm ⊢
   rw [List.foldl_cons, <- Nat.add_assoc]
   refine fold_fit' k L ns h.2 _ (m + n) ?_ (by omega)
   split
   . exact hs.join h.1 (by omega)
   . exact hs.mono (by omega)
theorem fitL_take : ∀ {L : List Sd} {ns : List Nat} (i : Nat), FitL L ns -> FitL (L.take i) (ns.take i)
 | [], [], i, _ => by rw [List.take_nil, List.take_nil]; trivial
 | [], _ :: _, _, h => h.elim
 | _ :: _, [], _, h => h.elim
 | x :: L, n :: ns, 0, _ => trivial
 | x :: L, n :: ns, i + 1, h => ⟨h.1, fitL_take i h.2⟩
theorem sum_take : ∀ (ns : List Nat) (i : Nat), (ns.take i).sum <= ns.sum
 | [], i => by rw [List.take_nil]; exact Nat.le_refl _
 | n :: ns, 0 => Nat.zero_le _
 | n :: ns, i + 1 => by rw [List.take_succ_cons, List.sum_cons, List.sum_cons]; have := sum_take ns i; omega
theorem fitL_at : ∀ {L : List Sd} {ns : List Nat}, FitL L ns -> ∀ x, x ∈ L -> Sv.fit ns.sum x.s
 | [], _, _, x, hx => by cases hx
 | _ :: _, [], h, _, _ => h.elim
 | y :: L, n :: ns, h, x, hx => by
   rw [List.sum_cons]
   rcases List.mem_cons.1 hx with rfl | hx
   . exact h.1.mono (by omega)
   . exact (fitL_at h.2 x hx).mono (by omega)
def SumPre (L : List Sd) (B : Nat) : Prop := (∀ i, i < L.length -> Sv.fit B (atD L i).s) /\ ∀ i, i <= L.length -> ∀ k, Sv.fit B (foldJ (L.take i) k)
theorem fitL_pre {L : List Sd} {ns : List Nat} (h : FitL L ns) (hs : ns.sum <= 100000000) : SumPre L ns.sum :=
 ⟨fun i hi => fitL_at h _ (atD_mem hi), fun i _ k => by
   have := fold_fit' k (L.take i) (ns.take i) (fitL_take i h) Sv.zero 0 fit_zero (by have := sum_take ns i; omega)
   exact this.mono (by have := sum_take ns i; omega)⟩
theorem foldJ_one {S : List Sd} (h : SK (S.map (·.k))) (k : Ky) : foldJ S k = Sv.zero \/ ∃ x, x ∈ S /\ foldJ S k = x.s.clean := by
 refine snocRec (p := fun S => SK (S.map (·.k)) -> foldJ S k = Sv.zero \/ ∃ x, x ∈ S /\ foldJ S k = x.s.clean) (fun _ => .inl rfl) (fun S x ih h => ?_) S h
 rw [List.map_append] at h
 have hp := List.pairwise_append.1 h.1
 rw [foldJ_snoc]
 by_cases e : x.k.cl = k
 . rw [if_pos e]
   have hz : foldJ S k = Sv.zero := foldJ_none fun q => by
    obtain ⟨y, hy, ey⟩ := (mem_keys S k).1 q
    exact Ky.lt_ne (hp.2.2 _ (List.mem_map_of_mem hy) _ (by simp)) (ey.trans e.symm)
   rw [hz, sjoin_zero]
   exact .inr ⟨x, by simp, rfl⟩
 . rw [if_neg e]
   rcases ih ⟨hp.1, fun q hq => h.2 q (List.mem_append_left _ hq)⟩ with h1 | ⟨y, hy, h1⟩
   . exact .inl h1
   . exact .inr ⟨y, by simp [hy], h1⟩
theorem sk_take {S : List Sd} (h : SK (S.map (·.k))) (i : Nat) : SK ((S.take i).map (·.k)) := by
 have hs : ((S.take i).map (·.k)).Sublist (S.map (·.k)) := List.Sublist.map _ (List.take_sublist _ _)
 exact ⟨h.1.sublist hs, fun k hk => h.2 k (hs.subset hk)⟩
theorem sumM_pre {L : List Sd} {B : Nat} (h : SumPre L B) : SumPre (sumM L) B := by
 have hall : ∀ k, Sv.fit B (foldJ L k) := fun k => by have := h.2 L.length (Nat.le_refl _) k; rw [List.take_length] at this; exact this
 have hm : ∀ x, x ∈ sumM L -> Sv.fit B x.s := fun x hx => by rw [(mem_sumM hx).2.1]; exact hall _
 refine ⟨fun i hi => hm _ (atD_mem hi), fun i _ k => ?_⟩
 rcases foldJ_one (sk_take (sumM_sk L) i) k with e | ⟨x, hx, e⟩
 . rw [e]; exact fit_zero.mono (Nat.zero_le _)
 . rw [e]; exact (hm x (List.mem_of_mem_take hx)).clean
theorem okD_sumM {L : List Sd} {B : Nat} (hB : B <= 1000000000) (hO : okD L) (h : SumPre L B) : okD (sumM L) := fun x hx => by
 have hs : okD (sumsK L) := okD_sums hB hO fun k => by have := h.2 L.length (Nat.le_refl _) k; rw [List.take_length] at this; exact this
 exact hs x (List.mem_filter.1 hx).1
theorem fold_leq {L : List Sd} {x : Sd} (h : x ∈ L) : Sv.leq x.s (foldJ L x.k.cl) = true := by
 refine snocRec (p := fun L => x ∈ L -> Sv.leq x.s (foldJ L x.k.cl) = true) (fun h => by cases h) (fun L y ih h => ?_) L h
 rw [foldJ_snoc]
 rcases List.mem_append.1 h with h | h
 . split
   . exact Sv.leq_trans (ih h) (Sv.leq_join1 _ _)
   . exact ih h
 . obtain rfl := List.mem_singleton.1 h
   rw [if_pos rfl]; exact Sv.leq_join2 _ _
theorem vleq_zero {a : Vl} (h : Vl.leq a Vl.zero = true) : Vl.none a = true := by
 rw [<- Vl.leq_of, Vl.of_fix Vl.zero_tidy] at h
 have ht := Vl.of_tidy a
 obtain ⟨h1, h2, h3, h4⟩ := (Vl.leq_iff ht Vl.zero_tidy).1 h
 unfold Vl.none
 rw [of_null] at h3
 rw [of_names] at h4
 have e1 : a.of.i.none = true := by
  rcases ht.i with e | ⟨⟨e1, e2⟩, e3, _⟩
  . rw [e]; rfl
  . exfalso
    generalize a.of.i.s = x at *
    have hz : Vl.zero.i.s = ⟨false, 0, 0⟩ := rfl
    rw [hz] at h1
    grind [Sp.leq, Sp.none, Sp.has]
 have e2 : a.t.null = false := by
  cases hn : a.t.null with
  | false => rfl
  | true => have := h3 hn; cases this
 have e3 : ofS a.t.names = [] := by
  cases hl : ofS a.t.names with
  | nil => rfl
  | cons z zs => have := h4 z (by rw [hl]; exact List.mem_cons_self); cases this
 rw [e1, e2, e3]; rfl
theorem snone_of {a b : Sv} (h : Sv.leq a b = true) (hb : Sv.none b = true) : Sv.none a = true := by
 have h1 := Sv.leq_and.1 h
 unfold Sv.none at hb ⊢
 rw [Bool.and_eq_true, Bool.not_eq_true'] at hb
 have e1 : a.e.live = false := by
  cases hl : a.e.live with
  | false => rfl
  | true => have := ((leqE_iff _ _).1 h1.1 hl).1; rw [hb.1] at this; cases this
 rw [e1, vleq_zero (Vl.l3_trans h1.2 (Vl.none_leq hb.2 _))]; rfl
theorem snone_leq {a : Sv} (h : Sv.none a = true) (b : Sv) : Sv.leq a b = true := by
 unfold Sv.none at h
 rw [Bool.and_eq_true, Bool.not_eq_true'] at h
 exact Sv.leq_dead h.1 (Vl.none_leq h.2 _)
theorem all_in {L : List Sd} {x : Sd} (h : x ∈ L) : Sv.leq x.s (findS (sumM L) x.k) = true /\ (findB (sumM L) x.k = false -> Sv.none x.s = true) := by
 have hk : x.k.cl ∈ keysOf L := (mem_keys L _).2 ⟨x, h, rfl⟩
 have hl := fold_leq h
 cases hn : Sv.none (foldJ L x.k.cl) with
 | true =>
   have hx := snone_of hl hn
   exact ⟨snone_leq hx _, fun _ => hx⟩
 | false =>
   have hm := sumM_mem hk hn
   unfold findS findB
   cases hf : rfind (sumM L) x.k with
   | none => exact absurd (Ky.cl_cl x.k) (rfind_none hf _ hm)
   | some y =>
     obtain ⟨hy, ey⟩ := rfind_some hf
     have hyk : y.k = x.k.cl := by rw [<- ey]; exact ((sumM_sk L).2 y.k (List.mem_map_of_mem hy)).symm
     have hys := (mem_sumM hy).2.1
     rw [hyk] at hys
     refine ⟨?_, fun q => by cases q⟩
     show Sv.leq x.s y.s.clean = true
     rw [<- Sv.leq_clean, Sv.clean2, Sv.leq_clean, hys]; exact hl
theorem zero_clean : Sv.zero.clean = Sv.zero := by
 show (⟨En.clean ⟨false, []⟩, Vl.of Vl.zero⟩ : Sv) = _
 rw [Vl.of_fix Vl.zero_tidy]; rfl
theorem join_clean (a b : Sv) : (Sv.join a b).clean = Sv.join a b := by unfold Sv.join; exact Sv.clean2 _
theorem foldJ_clean (L : List Sd) (k : Ky) : (foldJ L k).clean = foldJ L k := by
 refine snocRec (p := fun L => (foldJ L k).clean = foldJ L k) zero_clean (fun L y ih => ?_) L
 rw [foldJ_snoc]
 split
 . exact join_clean _ _
 . exact ih
theorem sum_again (L : List Sd) : sumM (sumM L) = sumM L := by
 refine sumM_self (sumM_sk L) (fun x hx => ?_) fun x hx => (mem_sumM hx).2.2
 rw [sjoin_zero]
 rw [(mem_sumM hx).2.1]; exact foldJ_clean _ _
theorem ecl2 (e : En) : e.clean.clean = e.clean := clean_fixE (clean_tidyE e)
theorem join_cl (a b : Sv) : Sv.join a.clean b.clean = Sv.join a b := by
 rw [Sv.join_is, Sv.join_is]
 have h1 : En.join a.e.clean b.e.clean = En.join a.e b.e := by unfold En.join; rw [ecl2, ecl2]
 have h2 : Vl.join a.v.of b.v.of = Vl.join a.v b.v := by
  rw [Vl.join_eq, Vl.join_eq, of_rclean, of_rclean]; unfold Vl.rjoin; rw [rclean2, rclean2]; simp only [Vl.rclean, cleanS_idem]
 show (⟨En.join a.e.clean b.e.clean, Vl.join a.v.of b.v.of⟩ : Sv) = _
 rw [h1, h2]
theorem vjoin_of (x y : Vl) : Vl.join x.of y.of = Vl.join x y := by
 rw [Vl.join_eq, Vl.join_eq, of_rclean, of_rclean]; unfold Vl.rjoin; rw [rclean2, rclean2]; simp only [Vl.rclean, cleanS_idem]
theorem rI1 : rI 1 := by unfold rI; decide
def fLv : Nat -> List DV := (fun i => Go.Sx.rowAt 12 [.v (.string ⟨#[103]⟩), .v (.int .i64 (-1)), .v (.bool false), .v (.slice none 0 0), .v (.bool (Sp.of 1 1).some), .v (.int .i64 (Sp.of 1 1).lo), .v (.int .i64 (Sp.of 1 1).hi), .v (.bool (Cg.of 0 1).some), .v (.int .i64 (Cg.of 0 1).m), .v (.int .i64 (Cg.of 0 1).r), .v (.bool false), .lst 1 0 fun i => [st (atS [] i)], .v (.string ⟨#[103]⟩), .v (.int .i64 (-1)), .v (.bool false), .v (.slice none 0 0), .v (.bool (Sp.of 5 5).some), .v (.int .i64 (Sp.of 5 5).lo), .v (.int .i64 (Sp.of 5 5).hi), .v (.bool (Cg.of 0 5).some), .v (.int .i64 (Cg.of 0 5).m), .v (.int .i64 (Cg.of 0 5).r), .v (.bool false), .lst 1 0 fun i => [st (atS [] i)]] (0 + i))
def kLv : Ky := ⟨⟨#[103]⟩, -1⟩
def zLv (n : Int) : Sv := ⟨⟨false, []⟩, numV n⟩
def WV : Vl := Vl.join (numV 1).of (numV 5).of
theorem wv_i : WV.i = ⟨⟨true, 1, 5⟩, ⟨true, 4, 1⟩⟩ := by
 unfold WV Vl.join
 rw [Vl.of_of, Vl.of_of, num_of_i, num_of_i]
 show (⟨Sp.join ⟨true, 1, 1⟩ ⟨true, 5, 5⟩, Cg.join ⟨true, 0, 1⟩ ⟨true, 0, 5⟩⟩ : Ig) = _
 have e1 : Sp.join ⟨true, 1, 1⟩ ⟨true, 5, 5⟩ = ⟨true, 1, 5⟩ := by kernel_rfl
 have e2 : Cg.join ⟨true, 0, 1⟩ ⟨true, 0, 5⟩ = ⟨true, 4, 1⟩ := by kernel_rfl
 rw [e1, e2]
theorem wv_has : Vl.hasInt WV 5 = true /\ Vl.hasInt WV 4 = false := by
 unfold Vl.hasInt
 rw [wv_i]; decide
theorem wv_h5 (b : Bool) (l : List ByteArray) : Vl.hasInt ⟨⟨⟨WV.i.s.some, WV.i.s.lo, WV.i.s.hi⟩, ⟨WV.i.c.some, WV.i.c.m, WV.i.c.r⟩⟩, ⟨b, l⟩⟩ 5 = true := wv_has.1
theorem wv_h4 (b : Bool) (l : List ByteArray) : Vl.hasInt ⟨⟨⟨WV.i.s.some, WV.i.s.lo, WV.i.s.hi⟩, ⟨WV.i.c.some, WV.i.c.m, WV.i.c.r⟩⟩, ⟨b, l⟩⟩ 4 = false := wv_has.2
theorem wv_names : WV.t.names = [] := by
 show ofS (ofS (numV 1).of.t.names ++ ofS (numV 5).of.t.names) = []
 rw [of_names, of_names]
 show ofS (ofS (ofS []) ++ ofS (ofS [])) = []
 rw [ofS_eq, ofS_eq, ofS_eq]; rfl
theorem lv_join : Sv.join (Sv.join Sv.zero (zLv 1)) (zLv 5) = ⟨⟨false, []⟩, WV⟩ := by
 have h1 : Sv.join (zLv 1).clean (zLv 5) = Sv.join (zLv 1) (zLv 5) := by rw [<- join_cl (zLv 1).clean (zLv 5), Sv.clean2, join_cl]
 rw [sjoin_zero, h1, Sv.join_is]
 have e2 : En.join (zLv 1).e (zLv 5).e = ⟨false, []⟩ := by rw [join_case]; rfl
 rw [e2, <- vjoin_of]; rfl
theorem atD_one (x : Sd) : atD [x] 0 = x := rfl
theorem atD_one' (x : Sd) : atD [x] (Int.toNat 0) = x := rfl
theorem lv_none : Sv.none ⟨⟨false, []⟩, WV⟩ = false := by
 unfold Sv.none Vl.none
 have : WV.of = WV := Vl.of_fix (Vl.jn_tidy _ _)
 rw [this, wv_i]; rfl
theorem two_keys (k : Ky) (a b : Sv) : keysOf [⟨k, a⟩, ⟨k, b⟩] = [k.cl] := by
 show putK (putK [] k) k = _
 have e1 : putK [] k = [k.cl] := rfl
 have h := put_split (A := []) (B := [k.cl]) (k := k) (fun a ha => (by cases ha)) fun b hb => by
  obtain rfl := List.mem_singleton.1 hb
  rw [Ky.lt_cl1]; exact Ky.lt_irrefl k
 rw [e1]
 rw [List.nil_append] at h
 rw [h]; simp
theorem two_sum (k : Ky) (a b : Sv) (hn : Sv.none (Sv.join (Sv.join Sv.zero a) b) = false) : sumM [⟨k, a⟩, ⟨k, b⟩] = [⟨k.cl, Sv.join (Sv.join Sv.zero a) b⟩] := by
 have hf : foldJ [⟨k, a⟩, ⟨k, b⟩] k.cl = Sv.join (Sv.join Sv.zero a) b := by
  show (if k.cl = k.cl then _ else _) = _
  rw [if_pos rfl]
  show Sv.join (if k.cl = k.cl then _ else _) b = _
  rw [if_pos rfl]
 unfold sumM sumsK
 rw [two_keys, List.map_cons, List.map_nil, hf]
 simp [hn]
theorem gD_lv : gD 2 fLv = [⟨kLv, zLv 1⟩, ⟨kLv, zLv 5⟩] := by
 have h : ∀ n, (numV n).t.names = [] := fun _ => rfl
 rfl
theorem kLv_eq : (kLv.name.toList == (⟨#[103]⟩ : ByteArray).toList && (kLv.node == -1 && true)) = true := by simp [kLv]
theorem sum_lv : sumM (gD 2 (fun i => Go.Sx.rowAt 12 [.v (.string ⟨#[103]⟩), .v (.int .i64 (-1)), .v (.bool false), .v (.slice none 0 0), .v (.bool (Sp.of 1 1).some), .v (.int .i64 (Sp.of 1 1).lo), .v (.int .i64 (Sp.of 1 1).hi), .v (.bool (Cg.of 0 1).some), .v (.int .i64 (Cg.of 0 1).m), .v (.int .i64 (Cg.of 0 1).r), .v (.bool false), .lst 1 0 fun i => [st (atS [] i)], .v (.string ⟨#[103]⟩), .v (.int .i64 (-1)), .v (.bool false), .v (.slice none 0 0), .v (.bool (Sp.of 5 5).some), .v (.int .i64 (Sp.of 5 5).lo), .v (.int .i64 (Sp.of 5 5).hi), .v (.bool (Cg.of 0 5).some), .v (.int .i64 (Cg.of 0 5).m), .v (.int .i64 (Cg.of 0 5).r), .v (.bool false), .lst 1 0 fun i => [st (atS [] i)]] (0 + i))) = [⟨kLv, ⟨⟨false, []⟩, WV⟩⟩] := by
 show sumM (gD 2 fLv) = _
 rw [gD_lv, two_sum _ _ _ (by rw [lv_join]; exact lv_none), lv_join]; rfl
theorem num_r {n : Int} (h : rI n) : Sv.fit 0 (zLv n) := ⟨fun x hx => (by cases hx), ⟨⟨Nat.zero_le _, fun _ _ => rfl⟩, one_inR (n := n) h⟩, Nat.le_refl _, fun x hx => (by cases hx), Nat.le_refl _⟩
theorem rI5 : rI 5 := by unfold rI; decide
theorem pre_lv : ∃ B, B <= 100000000 /\ (∀ i, i < 2 -> Sv.fit B (atD (gD 2 (fun i => Go.Sx.rowAt 12 [.v (.string ⟨#[103]⟩), .v (.int .i64 (-1)), .v (.bool false), .v (.slice none 0 0), .v (.bool (Sp.of 1 1).some), .v (.int .i64 (Sp.of 1 1).lo), .v (.int .i64 (Sp.of 1 1).hi), .v (.bool (Cg.of 0 1).some), .v (.int .i64 (Cg.of 0 1).m), .v (.int .i64 (Cg.of 0 1).r), .v (.bool false), .lst 1 0 fun i => [st (atS [] i)], .v (.string ⟨#[103]⟩), .v (.int .i64 (-1)), .v (.bool false), .v (.slice none 0 0), .v (.bool (Sp.of 5 5).some), .v (.int .i64 (Sp.of 5 5).lo), .v (.int .i64 (Sp.of 5 5).hi), .v (.bool (Cg.of 0 5).some), .v (.int .i64 (Cg.of 0 5).m), .v (.int .i64 (Cg.of 0 5).r), .v (.bool false), .lst 1 0 fun i => [st (atS [] i)]] (0 + i))) i).s) /\ ∀ i, i <= 2 -> ∀ k, Sv.fit B (foldJ ((gD 2 (fun i => Go.Sx.rowAt 12 [.v (.string ⟨#[103]⟩), .v (.int .i64 (-1)), .v (.bool false), .v (.slice none 0 0), .v (.bool (Sp.of 1 1).some), .v (.int .i64 (Sp.of 1 1).lo), .v (.int .i64 (Sp.of 1 1).hi), .v (.bool (Cg.of 0 1).some), .v (.int .i64 (Cg.of 0 1).m), .v (.int .i64 (Cg.of 0 1).r), .v (.bool false), .lst 1 0 fun i => [st (atS [] i)], .v (.string ⟨#[103]⟩), .v (.int .i64 (-1)), .v (.bool false), .v (.slice none 0 0), .v (.bool (Sp.of 5 5).some), .v (.int .i64 (Sp.of 5 5).lo), .v (.int .i64 (Sp.of 5 5).hi), .v (.bool (Cg.of 0 5).some), .v (.int .i64 (Cg.of 0 5).m), .v (.int .i64 (Cg.of 0 5).r), .v (.bool false), .lst 1 0 fun i => [st (atS [] i)]] (0 + i))).take i) k) := by
 have h : SumPre (gD 2 fLv) [0, 0].sum := fitL_pre (by rw [gD_lv]; exact ⟨num_r rI1, num_r rI5, trivial⟩) (by decide)
 refine ⟨[0, 0].sum, by decide, fun i hi => ?_, fun i hi k => ?_⟩
 . exact h.1 i (by rw [gD_length]; exact hi)
 . exact h.2 i (by rw [gD_length]; exact hi) k
theorem rows_lv : RowsD 2 (fun i => Go.Sx.rowAt 12 [.v (.string ⟨#[103]⟩), .v (.int .i64 (-1)), .v (.bool false), .v (.slice none 0 0), .v (.bool (Sp.of 1 1).some), .v (.int .i64 (Sp.of 1 1).lo), .v (.int .i64 (Sp.of 1 1).hi), .v (.bool (Cg.of 0 1).some), .v (.int .i64 (Cg.of 0 1).m), .v (.int .i64 (Cg.of 0 1).r), .v (.bool false), .lst 1 0 fun i => [st (atS [] i)], .v (.string ⟨#[103]⟩), .v (.int .i64 (-1)), .v (.bool false), .v (.slice none 0 0), .v (.bool (Sp.of 5 5).some), .v (.int .i64 (Sp.of 5 5).lo), .v (.int .i64 (Sp.of 5 5).hi), .v (.bool (Cg.of 0 5).some), .v (.int .i64 (Cg.of 0 5).m), .v (.int .i64 (Cg.of 0 5).r), .v (.bool false), .lst 1 0 fun i => [st (atS [] i)]] (0 + i)) := ⟨fun i hi => by
 have : i = 0 \/ i = 1 := by omega
 have key : ∀ (n : Int), rI n -> rowOkD [st ⟨#[103]⟩, it (-1), bo false, .v (.slice none 0 0), bo (Sp.of n n).some, it (Sp.of n n).lo, it (Sp.of n n).hi, bo (Cg.of 0 n).some, it (Cg.of 0 n).m, it (Cg.of 0 n).r, bo false, .lst 1 0 fun i => [st (atS [] i)]] := fun n hn => by
  refine ⟨⟨rfl, fun j a b ha hb => ?_⟩, ⟨(show rI (-1) by unfold rI; decide), (num_r hn).l, (num_r hn).v, Nat.zero_le _⟩⟩
  match j with
  | 0 => cases ha; cases hb; exact .refl _
  | 1 => cases ha; cases hb; exact .refl _
  | 2 => cases ha; cases hb; exact .refl _
  | 3 => cases ha; cases hb; exact .nil
  | 4 => cases ha; cases hb; exact .refl _
  | 5 => cases ha; cases hb; exact .refl _
  | 6 => cases ha; cases hb; exact .refl _
  | 7 => cases ha; cases hb; exact .refl _
  | 8 => cases ha; cases hb; exact .refl _
  | 9 => cases ha; cases hb; exact .refl _
  | 10 => cases ha; cases hb; exact .refl _
  | 11 => cases ha; cases hb; exact .rows fun i hi => absurd hi (Nat.not_lt_zero i)
  | j + 12 => simp at ha
 rcases this with rfl | rfl
 . exact key 1 rI1
 . exact key 5 rI5⟩
def FCLives : List Ar -> Option Rs
 | [] => some ⟨True, .va (.c (.d (bo (true)))), []⟩
 | _ => none
theorem fcCLives : FC Tryz.prog 33 FCLives := by
 intro xs pre r us h hp
 unfold FCLives at h
 split at h
 . cases h
   refine fcat tys_ok (l := [(59, ⟨[], FVNum⟩), (28, ⟨[], FCSum⟩), (85, ⟨[], FVHasInt⟩)]) ⟨fcVNum, fcCSum, fcVHasInt, trivial⟩ Tryz.func33 rfl (by kernel_rfl) true ?_
   repeat' (first | exact trivial | ((with_reducible show ∃ _ : Nat, _); exact pre_lv) | refine ⟨?_, ?_⟩ | intro _)
   all_goals first | (with_reducible first | apply qa | apply qb | apply qc | apply qd) | (conv => whnf)
   all_goals (try simp only [sum_lv, atD_one, atD_one', wv_names, List.length_nil, List.length_cons, wv_h5, wv_h4] at *)
   all_goals first | omega | decide | exact rows_lv | exact Nat.zero_le _ | (intro h; exact absurd h (Nat.not_lt_zero _)) | (exact absurd ‹_ < 0› (Nat.not_lt_zero _)) | rfl | (exact absurd ‹true = false› (by decide)) | (exact absurd ‹(_ && _) = false› (by decide)) | (exact absurd ‹(_ == _) = false› (by decide)) | skip
   all_goals (exact absurd (kLv_eq.symm.trans ‹(_ && _) = false›) (by decide))
 . cases h
theorem Sd.ok.ccond {x : Sd} (h : x.ok) : Sv.cond x.s.clean := ⟨⟨Nat.le_trans (clean_len x.s.e) h.s, okL_row (clean_ok h.l)⟩, ⟨⟨(okV_of h.v).1.1, fun _ _ => rfl⟩, (okV_of h.v).2⟩⟩
theorem zero_cond : Sv.cond Sv.zero := fit_zero.cond (by omega)
theorem find_cond {L : List Sd} (h : okD L) (k : Ky) : Sv.cond (findS L k) := by
 unfold findS
 cases hf : rfind L k with
 | none => exact zero_cond
 | some y => exact (h y (rfind_some hf).1).ccond
theorem sumM_lenL (L : List Sd) : (sumM L).length <= L.length := Nat.le_trans (List.length_filter_le _ _) (sums_len L)
theorem sums_n {L : List Sd} {B : Nat} (hB : B <= 100000000) (h : SumPre L B) : ∃ B, B <= 100000000 /\ (∀ i, i < L.length -> Sv.fit B (atD (gD L.length (rwD L)) i).s) /\ ∀ i, i <= L.length -> ∀ k, Sv.fit B (foldJ ((gD L.length (rwD L)).take i) k) := by
 rw [gD_row]; exact ⟨B, hB, h.1, h.2⟩
def FCellSums : List Ar -> Option Rs
 | [.c (.d (.lst 12 n0 f0)), .agg [.d (.v (.string _)), .d (.v (.int .i64 i1))]] => some ⟨(n0 <= 1000000000 /\ RowsD n0 f0) /\ (rI i1) /\ (∃ B, B <= 100000000 /\ (∀ i, i < n0 -> Sv.fit B (atD (gD n0 f0) i).s) /\ ∀ i, i <= n0 -> ∀ k, Sv.fit B (foldJ (((gD n0 f0)).take i) k)), .va (.c (.d (bo (true)))), []⟩
 | _ => none
abbrev pl9S : Plan := .all [(2, .take 3 (.take 4 (.take 5 (.all [(6, .all [(7, .take 8 (.done))])])))), (6, .all [(2, .take 3 (.take 4 (.take 5 (.all [(7, .take 8 (.done))]))))])]
abbrev sl10S : List (Nat × Sm) := [(34, ⟨[], FCFind⟩), (29, ⟨[], FRFind⟩), (28, ⟨[], FCSum⟩), (35, ⟨[], FRSum⟩), (32, ⟨[], FRSides⟩), (36, ⟨[], FRTExact⟩), (33, ⟨[], FCLives⟩)]
theorem sp10S : sumsOk Tryz.prog sl10S := ⟨fcCFind, fcRFind, fcCSum, fcRSum, fcRSides, fcRTExact, fcCLives, trivial⟩
theorem fcCellSums : FC Tryz.prog 6 FCellSums := by
 intro xs pre r us h hp
 unfold FCellSums at h
 split at h
 . rename_i n0 f0 x1 i1
   cases h
   obtain ⟨hp0, hp1, hp2⟩ := hp
   refine FCat.deep (ys := [.c (.d (.lst 12 n0 (rwD (gD n0 f0)))), .agg [.d (.v (.string x1)), .d (.v (.int .i64 i1))]]) ?_ ?_
   . repeat' (first | exact trivial | exact rfl | exact DvE.refl _ | refine ⟨?_, ?_⟩ | fail)
     all_goals first | exact canonD hp0.2.h
   refine fcat tys_ok (l := sl10S) sp10S Tryz.func6 rfl (by kernel_rfl) true ?_
   obtain ⟨Bn, hB, hf, hF⟩ := hp2
   have hn := hp0.1
   have hO := okD_rows hp0.2
   have hlen := gD_length n0 f0
   generalize gD n0 f0 = L at *
   clear hp0
   subst hlen
   have hrow := okD_row hO
   have hgL := gD_row L
   have hsp : SumPre L Bn := ⟨hf, hF⟩
   have hsn := sums_n hB hsp
   have hMo := okD_sumM (by omega) hO hsp
   have hMr := okD_row hMo
   have hMl := sumM_lenL L
   have hMn : (sumM L).length <= 1000000000 := by omega
   have hMp := sums_n hB (sumM_pre hsp)
   have hgM := gD_row (sumM L)
   have hMM := sum_again L
   have hnn : L.length <= L.length := Nat.le_refl _
   have hfc := find_cond hO ⟨x1, i1⟩
   have hfc2 : Sv.cond (findS (gD L.length (rwD L)) ⟨x1, i1⟩) := by rw [hgL]; exact hfc
   have hb : ∀ b : Bool, (b == b) = true := fun b => beq_self_eq_true b
   have hb1 := hb (findB (gD L.length (rwD L)) ⟨x1, i1⟩)
   have hMn2 : (sumM (gD L.length (rwD L))).length <= 1000000000 := by rw [hgL]; exact hMn
   have hMr2 : RowsD (sumM (gD L.length (rwD L))).length (rwD (sumM (gD L.length (rwD L)))) := by rw [hgL]; exact hMr
   repeat' (first | exact trivial | (with_reducible first | exact (fun h => absurd (hb1.symm.trans h) (by decide)) | exact hrow | exact hn | exact hp1 | exact hsn | exact hfc | exact hfc2 | exact hMn2 | exact hMr2 | exact hMr) | refine ⟨?_, ?_⟩ | intro _)
   all_goals first | (with_reducible first | apply qa | apply qb | apply qc | apply qd) | (conv => whnf)
   all_goals first | ((with_reducible show ASat _ _ _ _ _); refine draw_sto tys_ok (l := sl10S) sp10S (by kernel_rfl) 2 [] pl9S [0, 1, 3, 4, 5, 6, 7, 8] (by kernel_rfl) (by kernel_rfl) ?_) | ((with_reducible show ASat _ _ _ _ _); refine draw_sto tys_ok (l := sl10S) sp10S (by kernel_rfl) 2 [] pl9S [0, 1, 3, 4, 5, 6, 7, 8] (by kernel_rfl) (by kernel_rfl) ?_) | skip
   all_goals repeat' (first | exact trivial | (with_reducible first | exact (fun h => absurd (hb1.symm.trans h) (by decide)) | exact hrow | exact hn | exact hp1 | exact hsn | exact hfc | exact hfc2 | exact hMn2 | exact hMr2 | exact hMr) | refine ⟨?_, ?_⟩ | intro _)
   all_goals first | (with_reducible first | apply qa | apply qb | apply qc | apply qd) | (conv => whnf)
   all_goals (exact absurd ‹true = false› (by decide))
 . cases h
def FCellAll : List Ar -> Option Rs
 | [.c (.d (.lst 12 n0 f0))] => some ⟨(n0 <= 1000000000 /\ RowsD n0 f0) /\ (∃ B, B <= 100000000 /\ (∀ i, i < n0 -> Sv.fit B (atD (gD n0 f0) i).s) /\ ∀ i, i <= n0 -> ∀ k, Sv.fit B (foldJ (((gD n0 f0)).take i) k)), .va (.c (.d (bo (true)))), []⟩
 | _ => none
theorem fcCellAll : FC Tryz.prog 5 FCellAll := by
 intro xs pre r us h hp
 unfold FCellAll at h
 split at h
 . rename_i n0 f0
   cases h
   obtain ⟨hp0, hp1⟩ := hp
   refine FCat.deep (ys := [.c (.d (.lst 12 n0 (rwD (gD n0 f0))))]) ?_ ?_
   . repeat' (first | exact trivial | exact rfl | exact DvE.refl _ | refine ⟨?_, ?_⟩ | fail)
     all_goals first | exact canonD hp0.2.h
   refine fcat tys_ok (l := [(28, ⟨[], FCSum⟩), (29, ⟨[], FRFind⟩), (30, ⟨[], FRTLeq⟩), (31, ⟨[], FRTNone⟩), (32, ⟨[], FRSides⟩), (33, ⟨[], FCLives⟩)]) ⟨fcCSum, fcRFind, fcRTLeq, fcRTNone, fcRSides, fcCLives, trivial⟩ Tryz.func5 rfl (by kernel_rfl) true ?_
   obtain ⟨Bn, hB, hf, hF⟩ := hp1
   have hn := hp0.1
   have hO := okD_rows hp0.2
   have hlen := gD_length n0 f0
   generalize gD n0 f0 = L at *
   clear hp0
   subst hlen
   have hrow := okD_row hO
   have hgL := gD_row L
   have hsp : SumPre L Bn := ⟨hf, hF⟩
   have hsn := sums_n hB hsp
   have hMo := okD_sumM (by omega) hO hsp
   have hMr := okD_row hMo
   have hMl := sumM_lenL L
   have hMn : (sumM L).length <= 1000000000 := by omega
   have hMp := sums_n hB (sumM_pre hsp)
   have hgM := gD_row (sumM L)
   have hMM := sum_again L
   have hnn : L.length <= L.length := Nat.le_refl _
   have hat : ∀ k, k < L.length -> (atD L k).ok := fun k hk => hO _ (atD_mem hk)
   have hmp2 : (sumM L).length <= (sumM L).length := Nat.le_refl _
   have hMr3 : RowsD (sumM (gD (sumM L).length (rwD (sumM L)))).length (rwD (sumM (gD (sumM L).length (rwD (sumM L))))) := by rw [hgM, hMM]; exact hMr
   have hMn3 : (sumM (gD (sumM L).length (rwD (sumM L)))).length <= 1000000000 := by rw [hgM, hMM]; exact hMn
   have hEq : gD (sumM (gD (sumM L).length (rwD (sumM L)))).length (rwD (sumM (gD (sumM L).length (rwD (sumM L))))) = (gD (sumM L).length (rwD (sumM L))) := by rw [gD_row, hgM, hMM]
   repeat' (first | exact trivial | (with_reducible first | exact hrow | exact hn | exact hnn | exact hsn) | refine ⟨?_, ?_⟩ | intro _)
   all_goals first | (with_reducible first | apply qa | apply qb | apply qc | apply qd) | (conv => whnf)
   all_goals (try simp only [hgL])
   all_goals first | exact hnn | exact hn | skip
   refine loop_ok tys_ok (l := [(28, ⟨[], FCSum⟩), (29, ⟨[], FRFind⟩), (30, ⟨[], FRTLeq⟩), (31, ⟨[], FRTNone⟩), (32, ⟨[], FRSides⟩), (33, ⟨[], FCLives⟩)]) ⟨fcCSum, fcRFind, fcRTLeq, fcRTNone, fcRSides, fcCLives, trivial⟩ (by kernel_rfl) (X := Nat)
    (fun i => ⟨[(4, vx (.int .i64 i)), (0, .va (.c (.d (.lst 12 L.length (rwD L))))), (3, .va (.c (.d (.lst 12 (sumM L).length (rwD (sumM L))))))], [], 0, 53⟩)
    (fun i => L.length - i) (fun i => i <= L.length) [] []
    (fun i _ _ => i + 1) [] [] 0 0 0 ?_ ?_ ?_
   . exact Nat.zero_le _
   . repeat' (first | exact trivial | exact rfl | (intro _ _; exact rfl) | refine ⟨?_, ?_⟩ | fail)
   . rintro i k1
     rcases Nat.lt_or_ge i L.length with hi | hi
     . have hne : decide ((i : Int) < (L.length : Int)) = true := decide_eq_true (by omega)
       have hib : (0 : Int) <= (i : Int) /\ (i : Int) < (L.length : Int) := by omega
       have hXo := hat i hi
       have hc : Sv.cond (atD L (Int.toNat (i : Int))).s := hXo.cond
       have hr : rI (atD L (Int.toNat (i : Int))).k.node := hXo.n
       have hfc := find_cond hMo ⟨(atD L (Int.toNat (i : Int))).k.name, (atD L (Int.toNat (i : Int))).k.node⟩
       have hfc2 : Sv.cond (findS (gD (sumM L).length (rwD (sumM L))) ⟨(atD L (Int.toNat (i : Int))).k.name, (atD L (Int.toNat (i : Int))).k.node⟩) := by rw [hgM]; exact hfc
       have hin := all_in (atD_mem hi)
       have hle : (!Sv.rleq (Sv.again (atD L (Int.toNat (i : Int))).s) (Sv.again (findS (gD (sumM L).length (rwD (sumM L))) ⟨(atD L (Int.toNat (i : Int))).k.name, (atD L (Int.toNat (i : Int))).k.node⟩))) = false := by
        rw [Sv.again_eq, Sv.again_eq, <- Sv.leq_eq, hgM, show Sv.leq (atD L (Int.toNat (i : Int))).s (findS (sumM L) ⟨(atD L (Int.toNat (i : Int))).k.name, (atD L (Int.toNat (i : Int))).k.node⟩) = true from hin.1]; rfl
       cases hfb : findB (gD (sumM L).length (rwD (sumM L))) ⟨(atD L (Int.toNat (i : Int))).k.name, (atD L (Int.toNat (i : Int))).k.node⟩ with
       | true =>
         have hnb : (!findB (gD (sumM L).length (rwD (sumM L))) ⟨(atD L (Int.toNat (i : Int))).k.name, (atD L (Int.toNat (i : Int))).k.node⟩) = false := by rw [hfb]; rfl
         repeat' (first | exact trivial | (with_reducible first | exact (fun h => absurd (hne.symm.trans h) (by decide)) | exact (fun h => absurd (hle.symm.trans h) (by decide)) | exact (fun h => absurd (hfb.symm.trans h) (by decide)) | exact (fun h => absurd (hnb.symm.trans h) (by decide)) | exact hib | exact hr | exact hc | exact hfc2 | exact hMr | exact hMn | exact hmp2) | refine ⟨?_, ?_⟩ | intro _)
         all_goals first | (with_reducible first | apply qa | apply qb | apply qc | apply qd) | (conv => whnf)
         all_goals first | omega | rfl | exact hmp2 | exact hMn | exact hr | exact hr.1 | exact hr.2 | exact hc.1.1 | exact hc.1.2 | exact hc.2.1.1 | exact hfc2.1.1 | exact hfc2.1.2 | exact hfc2.2.1.1 | (exact absurd ‹true = false› (by decide)) | (exact absurd ‹false = true› (by decide)) | (dsimp only; omega) | (exact congrArg (Value.int .i64) (by first | (rw [wI_id _ (by omega) (by omega)]; omega) | omega | (dsimp only; omega))) | (dsimp only; (exact congrArg (Value.int .i64) (by first | (rw [wI_id _ (by omega) (by omega)]; omega) | omega | (dsimp only; omega))))
       | false =>
         have hnb : (!findB (gD (sumM L).length (rwD (sumM L))) ⟨(atD L (Int.toNat (i : Int))).k.name, (atD L (Int.toNat (i : Int))).k.node⟩) = true := by rw [hfb]; rfl
         have hno : (!Sv.rnone (Sv.again (atD L (Int.toNat (i : Int))).s)) = false := by
          rw [Sv.again_eq, <- Sv.none_eq, show Sv.none (atD L (Int.toNat (i : Int))).s = true from hin.2 (by rw [hgM] at hfb; exact hfb)]; rfl
         repeat' (first | exact trivial | (with_reducible first | exact (fun h => absurd (hne.symm.trans h) (by decide)) | exact (fun h => absurd (hle.symm.trans h) (by decide)) | exact (fun h => absurd (hfb.symm.trans h) (by decide)) | exact (fun h => absurd (hnb.symm.trans h) (by decide)) | exact (fun h => absurd (hno.symm.trans h) (by decide)) | exact hib | exact hr | exact hc | exact hfc2 | exact hMr | exact hMn | exact hmp2) | refine ⟨?_, ?_⟩ | intro _)
         all_goals first | (with_reducible first | apply qa | apply qb | apply qc | apply qd) | (conv => whnf)
         all_goals first | omega | rfl | exact hmp2 | exact hMn | exact hr | exact hr.1 | exact hr.2 | exact hc.1.1 | exact hc.1.2 | exact hc.2.1.1 | exact hfc2.1.1 | exact hfc2.1.2 | exact hfc2.2.1.1 | (exact absurd ‹true = false› (by decide)) | (exact absurd ‹false = true› (by decide)) | (dsimp only; omega) | (exact congrArg (Value.int .i64) (by first | (rw [wI_id _ (by omega) (by omega)]; omega) | omega | (dsimp only; omega))) | (dsimp only; (exact congrArg (Value.int .i64) (by first | (rw [wI_id _ (by omega) (by omega)]; omega) | omega | (dsimp only; omega))))
     . have hne : decide ((i : Int) < (L.length : Int)) = false := decide_eq_false (by omega)
       obtain rfl : i = L.length := by omega
       repeat' (first | exact trivial | (with_reducible first | exact (fun h => absurd (hne.symm.trans h) (by decide)) | exact hMr | exact hMn | exact hmp2 | exact hMp | exact hMr3 | exact hMn3 | exact hEq) | refine ⟨?_, ?_⟩ | intro _)
       all_goals first | (with_reducible first | apply qa | apply qb | apply qc | apply qd) | (conv => whnf)
       all_goals first | exact hmp2 | exact hMn | omega | (rw [hEq]; done) | (exact absurd ‹true = false› (by decide)) | rfl
 . cases h
end Go.Proofs.YthkknkhpfffnbaaGreat
