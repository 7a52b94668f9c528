/- The law of rows of keys. No condition. -/
import Derived.Test.YtakcacejpbiogaaDoorKey24
namespace Go.Proofs.YtakcacejpbiogaaDoor
set_option linter.all false
open Go.Sx

def FOfK : List Ar → Option Rs
  | [.c (.d (.v (.string x0)))] => some ⟨True, .va (.agg [.d (st x0), .d (it (-1))]), []⟩
  | _ => none
set_option maxHeartbeats 1000000 in
set_option maxRecDepth 100000 in
theorem fcOfK : FC Tryd.prog 30 FOfK := by
  intro xs pre r us h hp
  unfold FOfK at h
  split at h
  · rename_i x0
    cases h
    refine fcat tys_ok (l := []) trivial Tryd.func30 rfl (by kernel_rfl) true ?_
    repeat' (first | exact trivial | refine ⟨?_, ?_⟩ | intro _)
    all_goals first | (with_reducible show (_ : Int) ≤ _) | (with_reducible show (_ : Int) < _) | (with_reducible show (_ : Nat) ≤ _) | (with_reducible show (_ : Nat) < _) | (conv => whnf)
    all_goals grind
  · cases h
open Go.RowKit Go.Lib Go.Sort
def FKeyRows : List Ar → Option Rs
  | [.c (.d (.lst 2 n0 f0)), .c (.d (.lst 2 n1 f1)), .agg [.d (.v (.string x2)), .d (.v (.int .i64 i2))]] => some ⟨(n0 ≤ 10000000 ∧ RowsK n0 f0) ∧ (n1 ≤ 10000000 ∧ RowsK n1 f1) ∧ rI i2, .va (.c (.d (bo true))), []⟩
  | _ => none
theorem rowK_one (k : Ky) (L : List Ky) : rowK ([k] ++ L) = rowK (L ++ [k]) := by
  refine sk_ext (rowK_sk _) (rowK_sk _) fun x => ?_
  rw [rowK_mem, rowK_mem]
  constructor
  · rintro ⟨y, h, e⟩; exact ⟨y, by simp at h ⊢; exact h.symm, e⟩
  · rintro ⟨y, h, e⟩; exact ⟨y, by simp at h ⊢; exact h.symm, e⟩
theorem rowsK_ext {n : Nat} {f g : Nat → List DV} (h : ∀ i, i < n → f i = g i) (hg : RowsK n g) : RowsK n f := ⟨fun i hi => by rw [h i hi]; exact hg.h i hi⟩
theorem gKs_ext {n : Nat} {f g : Nat → List DV} (h : ∀ i, i < n → f i = g i) : gKs n f = gKs n g := List.map_congr_left fun i hi => by rw [h i (List.mem_range.1 hi)]
theorem rwK_app (A B : List Ky) (i : Nat) (hi : i < A.length + B.length) : appRow A.length (rwK A) (rwK B) (0 + i) = rwK (A ++ B) i := by
  rw [Nat.zero_add]
  unfold appRow
  split
  · rename_i h1
    show kyC (atK A i) = kyC (atK (A ++ B) i)
    rw [atK_get h1, atK_get (by rw [List.length_append]; omega), List.getElem_append_left h1]
  · rename_i h1
    show kyC (atK B (i - A.length)) = kyC (atK (A ++ B) i)
    rw [atK_get (by omega), atK_get (by rw [List.length_append]; omega), List.getElem_append_right (by omega)]
theorem rwK_one (k : Ky) (A : List Ky) (i : Nat) (hi : i < 1 + A.length) : appRow 1 (Sx.rowAt 2 [DV.v (Value.string k.name), DV.v (.int .i64 k.node)]) (rwK A) (0 + i) = rwK ([k] ++ A) i := by
  rw [← rwK_app [k] A i (by simpa using hi), Nat.zero_add]
  unfold appRow
  cases i with
  | zero => rfl
  | succ i => rw [if_neg (by omega), if_neg (by simp)]; rfl
theorem cutK_len (L : List Ky) (k : Ky) : (cutK L k).length ≤ L.length := Nat.le_trans (List.length_filter_le _ _) (rowK_len L)
theorem cutK_rng {L : List Ky} {k : Ky} (h : ∀ x, x ∈ L → rI x.node) : ∀ x, x ∈ cutK L k → rI x.node := fun x hx => rowK_rng h x (List.mem_filter.1 hx).1
set_option maxRecDepth 100000 in
set_option maxHeartbeats 8000000 in
theorem fcKeyRows : FC Tryd.prog 6 FKeyRows := by
  intro xs pre r us h hp
  unfold FKeyRows at h
  split at h
  · rename_i n0 f0 n1 f1 x2 i2
    cases h
    obtain ⟨⟨hn, hr0⟩, ⟨hm, hr1⟩, hk⟩ := hp
    have hO := rowsK_r hr0
    have hO2 := rowsK_r hr1
    have hlen := gKs_length n0 f0
    have hlen2 := gKs_length n1 f1
    refine FCat.deep (ys := [.c (.d (.lst 2 n0 (rwK (gKs n0 f0)))), .c (.d (.lst 2 n1 (rwK (gKs n1 f1)))), .agg [.d (.v (.string x2)), .d (.v (.int .i64 i2))]]) ?_ ?_
    · repeat' (first | exact trivial | exact rfl | exact DvE.refl _ | refine ⟨?_, ?_⟩ | fail)
      all_goals first | exact canonK hr0.h | exact canonK hr1.h
    generalize gKs n0 f0 = A at *
    generalize gKs n1 f1 = B at *
    clear hr0 hr1
    subst hlen hlen2
    refine fcat_of_acall rfl rfl ?_
    have hrA : RowsK A.length (rwK A) := rowsK_of hO
    have hrB : RowsK B.length (rwK B) := rowsK_of hO2
    have hraA : RowsK (rowK A).length (rwK (rowK A)) := rowsK_of (rowK_rng hO)
    have hla := rowK_len A
    have hlA : A.length ≤ 1000000000 := by omega
    have hlB : B.length ≤ 1000000000 := by omega
    have hg1 : gKs (1 + A.length) (fun i => appRow 1 (Sx.rowAt 2 [DV.v (Value.string x2), DV.v (.int .i64 i2)]) (rwK A) (0 + i)) = [⟨x2, i2⟩] ++ A := by
      rw [gKs_ext (fun i hi => rwK_one ⟨x2, i2⟩ A i hi), show 1 + A.length = ([(⟨x2, i2⟩ : Ky)] ++ A).length by simp; omega]; exact gKs_row _
    have hg2 : gKs (A.length + B.length) (fun i => appRow A.length (rwK A) (rwK B) (0 + i)) = A ++ B := by
      rw [gKs_ext (rwK_app A B), show A.length + B.length = (A ++ B).length by simp]; exact gKs_row _
    have hA1 : ∀ x, x ∈ A ++ [(⟨x2, i2⟩ : Ky)] → rI x.node := fun x hx => by
      rcases List.mem_append.1 hx with h | h
      · exact hO x h
      · rw [List.mem_singleton.1 h]; exact hk
    have hAB : ∀ x, x ∈ A ++ B → rI x.node := fun x hx => by
      rcases List.mem_append.1 hx with h | h
      · exact hO x h
      · exact hO2 x h
    have h1A : ∀ x, x ∈ [(⟨x2, i2⟩ : Ky)] ++ A → rI x.node := fun x hx => hA1 x (by simp at hx ⊢; exact hx.symm)
    have hr1 : RowsK (1 + A.length) (fun i => appRow 1 (Sx.rowAt 2 [DV.v (Value.string x2), DV.v (.int .i64 i2)]) (rwK A) (0 + i)) := rowsK_ext (fun i hi => rwK_one ⟨x2, i2⟩ A i hi) (by rw [show 1 + A.length = ([(⟨x2, i2⟩ : Ky)] ++ A).length by simp; omega]; exact rowsK_of h1A)
    have hr2 : RowsK (A.length + B.length) (fun i => appRow A.length (rwK A) (rwK B) (0 + i)) := rowsK_ext (rwK_app A B) (by rw [show A.length + B.length = (A ++ B).length by simp]; exact rowsK_of hAB)
    have hl1 := rowK_len (A ++ [(⟨x2, i2⟩ : Ky)])
    have hl2 := rowK_len (A ++ B)
    have hl3 := cutK_len A ⟨x2, i2⟩
    have hone := rowK_one ⟨x2, i2⟩ A
    rw [List.length_append] at hl1 hl2
    rw [List.length_singleton] at hl1
    have hs1 := rowsK_of (rowK_rng hA1)
    have hs2 := rowsK_of (rowK_rng hAB)
    have hs3 := rowsK_of (cutK_rng (k := ⟨x2, i2⟩) hO)
    refine acall_of_msat tys_ok Tryd.func6 rfl (by kernel_rfl) rfl ?_
    refine MSat.seqA tys_ok (L := [(21, ⟨[], FRowKd⟩), (22, ⟨[], FRKRow⟩), (20, ⟨[], FRKeys⟩), (23, ⟨[], FHasK⟩), (24, ⟨[], FRKHas⟩), (25, ⟨[], FPutKd⟩), (26, ⟨[], FCutKd⟩), (27, ⟨[], FRKCut⟩), (28, ⟨[], FJoinKd⟩), (29, ⟨[], FKyClean⟩), (12, ⟨[], FRKyClean⟩), (30, ⟨[], FOfK⟩), (14, ⟨[], FKLives⟩)]) ⟨fcRowKd, fcRKRow, fcRKeys, fcHasK, fcRKHas, fcPutKd, fcCutKd, fcRKCut, fcJoinKd, fcKyClean, fcRKyClean, fcOfK, fcKLives, trivial⟩ (by kernel_rfl) (by kernel_rfl) ?_
    repeat' (first | exact trivial | refine ⟨?_, ?_⟩ | intro _)
    all_goals first | (with_reducible show (_ : Int) ≤ _) | (with_reducible show (_ : Int) < _) | (with_reducible show (_ : Nat) ≤ _) | (with_reducible show (_ : Nat) < _) | (conv => whnf)
    refine MSat.seqA tys_ok (L := [(21, ⟨[], FRowKd⟩), (22, ⟨[], FRKRow⟩), (20, ⟨[], FRKeys⟩), (23, ⟨[], FHasK⟩), (24, ⟨[], FRKHas⟩), (25, ⟨[], FPutKd⟩), (26, ⟨[], FCutKd⟩), (27, ⟨[], FRKCut⟩), (28, ⟨[], FJoinKd⟩), (29, ⟨[], FKyClean⟩), (12, ⟨[], FRKyClean⟩), (30, ⟨[], FOfK⟩), (14, ⟨[], FKLives⟩)]) ⟨fcRowKd, fcRKRow, fcRKeys, fcHasK, fcRKHas, fcPutKd, fcCutKd, fcRKCut, fcJoinKd, fcKyClean, fcRKyClean, fcOfK, fcKLives, trivial⟩ (by kernel_rfl) (by kernel_rfl) ?_
    repeat' (first | exact trivial | refine ⟨?_, ?_⟩ | intro _)
    all_goals first | (with_reducible show (_ : Int) ≤ _) | (with_reducible show (_ : Int) < _) | (with_reducible show (_ : Nat) ≤ _) | (with_reducible show (_ : Nat) < _) | (conv => whnf)
    refine MSat.seqA tys_ok (L := [(21, ⟨[], FRowKd⟩), (22, ⟨[], FRKRow⟩), (20, ⟨[], FRKeys⟩), (23, ⟨[], FHasK⟩), (24, ⟨[], FRKHas⟩), (25, ⟨[], FPutKd⟩), (26, ⟨[], FCutKd⟩), (27, ⟨[], FRKCut⟩), (28, ⟨[], FJoinKd⟩), (29, ⟨[], FKyClean⟩), (12, ⟨[], FRKyClean⟩), (30, ⟨[], FOfK⟩), (14, ⟨[], FKLives⟩)]) ⟨fcRowKd, fcRKRow, fcRKeys, fcHasK, fcRKHas, fcPutKd, fcCutKd, fcRKCut, fcJoinKd, fcKyClean, fcRKyClean, fcOfK, fcKLives, trivial⟩ (by kernel_rfl) (by kernel_rfl) ?_
    repeat' (first | exact trivial | refine ⟨?_, ?_⟩ | intro _)
    all_goals first | (with_reducible show (_ : Int) ≤ _) | (with_reducible show (_ : Int) < _) | (with_reducible show (_ : Nat) ≤ _) | (with_reducible show (_ : Nat) < _) | (conv => whnf)
    all_goals first | omega | skip
    refine MSat.seqA tys_ok (L := [(21, ⟨[], FRowKd⟩), (22, ⟨[], FRKRow⟩), (20, ⟨[], FRKeys⟩), (23, ⟨[], FHasK⟩), (24, ⟨[], FRKHas⟩), (25, ⟨[], FPutKd⟩), (26, ⟨[], FCutKd⟩), (27, ⟨[], FRKCut⟩), (28, ⟨[], FJoinKd⟩), (29, ⟨[], FKyClean⟩), (12, ⟨[], FRKyClean⟩), (30, ⟨[], FOfK⟩), (14, ⟨[], FKLives⟩)]) ⟨fcRowKd, fcRKRow, fcRKeys, fcHasK, fcRKHas, fcPutKd, fcCutKd, fcRKCut, fcJoinKd, fcKyClean, fcRKyClean, fcOfK, fcKLives, trivial⟩ (by kernel_rfl) (by kernel_rfl) ?_
    repeat' (first | exact trivial | refine ⟨?_, ?_⟩ | intro _)
    all_goals first | (with_reducible show (_ : Int) ≤ _) | (with_reducible show (_ : Int) < _) | (with_reducible show (_ : Nat) ≤ _) | (with_reducible show (_ : Nat) < _) | (conv => whnf)
    all_goals first | omega | skip
    refine MSat.frz 7 rfl ?_
    repeat' (first | exact trivial | refine ⟨?_, ?_⟩ | intro _)
    all_goals first | (with_reducible show (_ : Int) ≤ _) | (with_reducible show (_ : Int) < _) | (with_reducible show (_ : Nat) ≤ _) | (with_reducible show (_ : Nat) < _) | (conv => whnf)
    refine MSat.seqA tys_ok (L := [(21, ⟨[], FRowKd⟩), (22, ⟨[], FRKRow⟩), (20, ⟨[], FRKeys⟩), (23, ⟨[], FHasK⟩), (24, ⟨[], FRKHas⟩), (25, ⟨[], FPutKd⟩), (26, ⟨[], FCutKd⟩), (27, ⟨[], FRKCut⟩), (28, ⟨[], FJoinKd⟩), (29, ⟨[], FKyClean⟩), (12, ⟨[], FRKyClean⟩), (30, ⟨[], FOfK⟩), (14, ⟨[], FKLives⟩)]) ⟨fcRowKd, fcRKRow, fcRKeys, fcHasK, fcRKHas, fcPutKd, fcCutKd, fcRKCut, fcJoinKd, fcKyClean, fcRKyClean, fcOfK, fcKLives, trivial⟩ (by kernel_rfl) (by kernel_rfl) ?_
    repeat' (first | exact trivial | refine ⟨?_, ?_⟩ | intro _)
    all_goals first | (with_reducible show (_ : Int) ≤ _) | (with_reducible show (_ : Int) < _) | (with_reducible show (_ : Nat) ≤ _) | (with_reducible show (_ : Nat) < _) | (conv => whnf)
    all_goals first | omega | skip
    refine MSat.frz 8 rfl ?_
    repeat' (first | exact trivial | refine ⟨?_, ?_⟩ | intro _)
    all_goals first | (with_reducible show (_ : Int) ≤ _) | (with_reducible show (_ : Int) < _) | (with_reducible show (_ : Nat) ≤ _) | (with_reducible show (_ : Nat) < _) | (conv => whnf)
    refine MSat.vc tys_ok (L := [(21, ⟨[], FRowKd⟩), (22, ⟨[], FRKRow⟩), (20, ⟨[], FRKeys⟩), (23, ⟨[], FHasK⟩), (24, ⟨[], FRKHas⟩), (25, ⟨[], FPutKd⟩), (26, ⟨[], FCutKd⟩), (27, ⟨[], FRKCut⟩), (28, ⟨[], FJoinKd⟩), (29, ⟨[], FKyClean⟩), (12, ⟨[], FRKyClean⟩), (30, ⟨[], FOfK⟩), (14, ⟨[], FKLives⟩)]) ⟨fcRowKd, fcRKRow, fcRKeys, fcHasK, fcRKHas, fcPutKd, fcCutKd, fcRKCut, fcJoinKd, fcKyClean, fcRKyClean, fcOfK, fcKLives, trivial⟩ (by kernel_rfl) (by kernel_rfl) ?_
    repeat' (first | exact trivial | refine ⟨?_, ?_⟩ | intro _)
    all_goals first | (with_reducible show (_ : Int) ≤ _) | (with_reducible show (_ : Int) < _) | (with_reducible show (_ : Nat) ≤ _) | (with_reducible show (_ : Nat) < _) | (conv => whnf)
    all_goals (try simp only [gKs_row, hg1, hg2, hone] at *)
    all_goals first | exact hrA | exact hrB | exact hlA | exact hlB | omega | exact hk.1 | exact hk.2 | exact hraA | exact hla | exact hr1 | exact hr2 | exact hs1 | exact hs2 | exact hs3 | skip
    all_goals first | (exfalso; simp at *; done) | trace_state
  · cases h


end Go.Proofs.YtakcacejpbiogaaDoor
