/- Whether a list has a key. No condition. -/
import Derived.Test.YtakcacejpbiogaaDoorKey22
namespace Go.Proofs.YtakcacejpbiogaaDoor
set_option linter.all false
open Go.Sx

open Go.RowKit Go.Lib Go.Sort
theorem hasK_at {L : List Ky} {k : Ky} {i : Nat} {y : Ky} (h : L[i]? = some y) (hy : y.cl = k.cl) : hasK L k = true :=
  List.any_eq_true.2 ⟨y, List.mem_of_getElem? h, decide_eq_true hy⟩
theorem hasK_no {L : List Ky} {k : Ky} (h : ∀ j, j < L.length → ∀ y, L[j]? = some y → y.cl ≠ k.cl) : hasK L k = false := by
  cases hh : hasK L k with
  | false => rfl
  | true =>
    obtain ⟨y, hy, e⟩ := List.any_eq_true.1 hh
    obtain ⟨j, hj, rfl⟩ := List.mem_iff_getElem.1 hy
    exact absurd (of_decide_eq_true e) (h j hj _ (List.getElem?_eq_getElem hj))
def FHasK : List Ar → Option Rs
  | [.c (.d (.lst 2 n0 f0)), .agg [.d (.v (.string x1)), .d (.v (.int .i64 i1))]] => some ⟨(n0 ≤ 1000000000 ∧ RowsK n0 f0) ∧ rI i1, .va (.c (.d (bo (hasK (gKs n0 f0) ⟨x1, i1⟩)))), []⟩
  | _ => none
set_option maxRecDepth 100000 in
set_option maxHeartbeats 4000000 in
theorem fcHasK : FC Tryd.prog 23 FHasK := by
  intro xs pre r us h hp
  unfold FHasK at h
  split at h
  · rename_i n0 f0 x1 i1
    cases h
    obtain ⟨⟨hn, hr0⟩, hp1⟩ := hp
    have hO := rowsK_r hr0
    have hlen := gKs_length n0 f0
    refine FCat.deep (ys := [.c (.d (.lst 2 n0 (rwK (gKs n0 f0)))), .agg [.d (.v (.string x1)), .d (.v (.int .i64 i1))]]) ?_ ?_
    · repeat' (first | exact trivial | exact rfl | exact DvE.refl _ | refine ⟨?_, ?_⟩ | fail)
      all_goals exact canonK hr0.h
    generalize gKs n0 f0 = L at *
    clear hr0
    subst hlen
    unfold rI at hp1
    refine fcat_of_acall rfl rfl ?_
    refine acall_of_msat tys_ok Tryd.func23 rfl (by kernel_rfl) rfl ?_
    refine MSat.seqA tys_ok (L := [(29, ⟨[], FKyClean⟩)]) ⟨fcKyClean, trivial⟩ (by kernel_rfl) (by kernel_rfl) ?_
    repeat' (first | exact trivial | refine ⟨?_, ?_⟩ | intro _)
    all_goals first | (with_reducible show (_ : Int) ≤ _) | (with_reducible show (_ : Int) < _) | (with_reducible show (_ : Nat) ≤ _) | (with_reducible show (_ : Nat) < _) | (conv => whnf)
    refine MSat.seqB tys_ok (L := [(29, ⟨[], FKyClean⟩)]) ⟨fcKyClean, trivial⟩ (by kernel_rfl) (by kernel_rfl) ?_
    refine MSat.seqA tys_ok (L := [(29, ⟨[], FKyClean⟩)]) ⟨fcKyClean, trivial⟩ (by kernel_rfl) (by kernel_rfl) ?_
    repeat' (first | exact trivial | refine ⟨?_, ?_⟩ | intro _)
    all_goals first | (with_reducible show (_ : Int) ≤ _) | (with_reducible show (_ : Int) < _) | (with_reducible show (_ : Nat) ≤ _) | (with_reducible show (_ : Nat) < _) | (conv => whnf)
    ((with_reducible show ACall _ _ _ _ _ _); refine inl tys_ok (l := [(29, ⟨[], FKyClean⟩)]) ⟨fcKyClean, trivial⟩ Tryd.func49 rfl (by kernel_rfl) (by kernel_rfl) rfl ?_)
    repeat' (first | exact trivial | refine ⟨?_, ?_⟩ | intro _)
    all_goals first | (with_reducible show (_ : Int) ≤ _) | (with_reducible show (_ : Int) < _) | (with_reducible show (_ : Nat) ≤ _) | (with_reducible show (_ : Nat) < _) | (conv => whnf)
    all_goals first | omega | skip
    refine MSat.block ?_
    refine MSat.frz 8 rfl ?_
    repeat' (first | exact trivial | refine ⟨?_, ?_⟩ | intro _)
    all_goals first | (with_reducible show (_ : Int) ≤ _) | (with_reducible show (_ : Int) < _) | (with_reducible show (_ : Nat) ≤ _) | (with_reducible show (_ : Nat) < _) | (conv => whnf)
    all_goals first | omega | skip
    have hLs := lsts1 (F := fun i => Sx.rowAt 1 [DV.lst 2 L.length (rwK L)] (0 + i)) rfl hn hO
    have hfl : [L].flatten = L := by simp
    refine MSat.le [0, 1, 2, 3] 0 ?_ (MSat.rangeI tys_ok (L := [(29, ⟨[], FKyClean⟩)]) ⟨fcKyClean, trivial⟩ (by kernel_rfl) 4 (ts := [(8, .va (.c (.fn 73 [(3, 0)]))), (3, .va (.c (.own 0 0))), (4, .va (.c (.own 1 0)))]) (n := 4) (m := 14) rfl (callable_of Tryd.func73 rfl rfl) (by kernel_rfl) (by kernel_rfl) rfl (kAll [L]) (kEs [L]) kEs_rep (by unfold kEs kAll; rw [List.length_map, List.length_map])
      (fun _ => [(0, .cells [.d (st x1), .d (it i1)]), (1, .cells [.d (bo false)]), (3, .fz [.lst 1 1 fun i => Sx.rowAt 1 [DV.lst 2 L.length (rwK L)] (0 + i)])]) (fun _ => 4) rfl rfl (fun i => ∀ j, j < i → ∀ y, L[j]? = some y → y.cl ≠ Ky.cl ⟨x1, i1⟩) (fun j hj => absurd hj (Nat.not_lt_zero j)) ?_ (by decide) (by decide)
      (fun ψ S w a hr W lb hx hlb => by obtain ⟨p, rfl, h1, h2⟩ := seq_rel rfl rfl hr hx hlb; exact chain_seq hLs (by decide) h1 h2) ?_)
    · repeat' (first | exact trivial | exact rfl | (intro _ h; exact absurd h (Nat.not_lt_zero _)) | (intro _ _; exact rfl) | refine ⟨?_, ?_⟩ | fail)
      all_goals decide
    · intro i e hinv he
      obtain ⟨k, hk, rfl⟩ := kEs_at he
      rw [hfl] at hk
      have hkr := Ky.cl_r (hO k (List.mem_of_getElem? hk))
      unfold rI at hkr
      refine ⟨[0, 1, 2, 3], 0, ?_⟩
      by_cases hc : k.cl = Ky.cl ⟨x1, i1⟩
      · have hq : (k.cl.name.toList == (Ky.cl ⟨x1, i1⟩).name.toList && (k.cl.node == (Ky.cl ⟨x1, i1⟩).node && true)) = true := by rw [keyEq_iff]; exact decide_eq_true hc
        have hh := hasK_at hk hc
        repeat' (first | exact trivial | (with_reducible exact (fun h => absurd (hq.symm.trans h) (by decide))) | refine ⟨?_, ?_⟩ | intro _)
        all_goals first | (with_reducible show (_ : Int) ≤ _) | (with_reducible show (_ : Int) < _) | (with_reducible show (_ : Nat) ≤ _) | (with_reducible show (_ : Nat) < _) | (conv => whnf)
        all_goals first | exact hp1 | exact hp1.1 | exact hp1.2 | exact congrArg Value.bool hh.symm | omega | rfl | trace_state
      · have hq : (k.cl.name.toList == (Ky.cl ⟨x1, i1⟩).name.toList && (k.cl.node == (Ky.cl ⟨x1, i1⟩).node && true)) = false := by rw [keyEq_iff]; exact decide_eq_false hc
        have hin : ∀ j, j < i + 1 → ∀ y, L[j]? = some y → y.cl ≠ Ky.cl ⟨x1, i1⟩ := fun j hj y hy => by
          rcases Nat.lt_or_ge j i with h | h
          · exact hinv j h y hy
          · rw [show j = i by omega, hk] at hy; cases hy; exact hc
        repeat' (first | exact trivial | (with_reducible exact (fun h => absurd (hq.symm.trans h) (by decide))) | refine ⟨?_, ?_⟩ | intro _)
        all_goals first | (with_reducible show (_ : Int) ≤ _) | (with_reducible show (_ : Int) < _) | (with_reducible show (_ : Nat) ≤ _) | (with_reducible show (_ : Nat) < _) | (conv => whnf)
        all_goals first | exact hp1 | exact hp1.1 | exact hp1.2 | exact hin _ ‹_› _ ‹_› | (exact hin _ ‹_› _ ‹_› ‹_›) | exact hin | omega | decide | rfl | trace_state
    · intro hinv
      have hno := hasK_no (L := L) (k := ⟨x1, i1⟩) fun j hj => hinv j (by unfold kAll; rw [List.length_map, hfl]; exact hj)
      repeat' (first | exact trivial | refine ⟨?_, ?_⟩ | intro _)
      all_goals first | (with_reducible show (_ : Int) ≤ _) | (with_reducible show (_ : Int) < _) | (with_reducible show (_ : Nat) ≤ _) | (with_reducible show (_ : Nat) < _) | (conv => whnf)
      all_goals first | exact congrArg Value.bool hno.symm | omega | rfl | trace_state
  · cases h


end Go.Proofs.YtakcacejpbiogaaDoor
