/- Rows of keys: one put in, two joined. No condition. -/
import Derived.Test.YtakcacejpbiogaaDoorKey17
namespace Go.Proofs.YtakcacejpbiogaaDoor
set_option linter.all false
open Go.Sx

open Go.RowKit Go.Lib Go.Sort
theorem lsts2 {A B : List Ky} {F : Nat → List DV} {fa fb : Nat → List DV} (h0 : F 0 = [.lst 2 A.length fa]) (h1 : F 1 = [.lst 2 B.length fb]) (ha : ∀ j, j < A.length → fa j = kyC (atK A j)) (hb : ∀ j, j < B.length → fb j = kyC (atK B j)) (hn : A.length ≤ 1000000000) (hm : B.length ≤ 1000000000) (hO : ∀ x, x ∈ A ++ B → rI x.node) : Lsts 2 F [A, B] :=
  ⟨rfl, fun i hi => by
    have hi2 : i = 0 ∨ i = 1 := by omega
    rcases hi2 with rfl | rfl
    · exact ⟨fa, h0, ha, hn⟩
    · exact ⟨fb, h1, hb, hm⟩, fun x hx => hO x (by simpa using hx)⟩
def FPutK : List Ar → Option Rs
  | [.c (.d (.lst 2 n0 f0)), .agg [.d (.v (.string x1)), .d (.v (.int .i64 i1))]] => some ⟨(n0 ≤ 1000000000 ∧ RowsK n0 f0) ∧ (rI i1) ∧ (n0 + 1 ≤ 1000000000), .va (.c (.ow 2 (rowK ((gKs n0 f0) ++ [(⟨x1, i1⟩ : Ky)])).length (rwK (rowK ((gKs n0 f0) ++ [(⟨x1, i1⟩ : Ky)]))))), []⟩
  | _ => none
set_option maxHeartbeats 4000000 in
set_option maxRecDepth 100000 in
theorem fcPutK : FC Tryd.prog 25 FPutK := by
  intro xs pre r us h hp
  unfold FPutK at h
  split at h
  · rename_i n0 f0 x1 i1
    cases h
    obtain ⟨hp0, hp1, hp2⟩ := hp
    refine FCat.deep (ys := [.c (.d (.lst 2 n0 (rwK (gKs n0 f0)))), .agg [.d (.v (.string x1)), .d (.v (.int .i64 i1))]]) ?_ ?_
    · repeat' (first | exact trivial | exact rfl | exact DvE.refl _ | refine ⟨?_, ?_⟩ | fail)
      all_goals first | exact canonK hp0.2.h | exact canonK hp1.2.h
    refine fcat tys_ok (l := [(71, ⟨[true], FBSearchK⟩), (72, ⟨[true, false, true], FInsertK⟩), (11, ⟨[], FKyCmp⟩)]) ⟨fcBSearchK, fcInsertK, fcKyCmp, trivial⟩ Tryd.func25 rfl (by kernel_rfl) false ?_
    have hn := hp0.1
    have hO := rowsK_r hp0.2
    have hlen := gKs_length n0 f0
    generalize gKs n0 f0 = L at *
    clear hp0
    subst hlen
    
    repeat' (first | exact trivial | refine ⟨?_, ?_⟩ | intro _)
    all_goals first | (with_reducible show (_ : Int) ≤ _) | (with_reducible show (_ : Int) < _) | (with_reducible show (_ : Nat) ≤ _) | (with_reducible show (_ : Nat) < _) | (conv => whnf)
    ((with_reducible show ACall _ _ _ _ _ _); refine inl tys_ok (l := [(71, ⟨[true], FBSearchK⟩), (72, ⟨[true, false, true], FInsertK⟩), (11, ⟨[], FKyCmp⟩)]) ⟨fcBSearchK, fcInsertK, fcKyCmp, trivial⟩ Tryd.func49 rfl (by kernel_rfl) (by kernel_rfl) rfl ?_)
    repeat' (first | exact trivial | refine ⟨?_, ?_⟩ | intro _)
    all_goals first | (with_reducible show (_ : Int) ≤ _) | (with_reducible show (_ : Int) < _) | (with_reducible show (_ : Nat) ≤ _) | (with_reducible show (_ : Nat) < _) | (conv => whnf)
    refine acall_fr ?_
    repeat' (first | exact trivial | refine ⟨?_, ?_⟩ | intro _)
    all_goals first | (with_reducible show (_ : Int) ≤ _) | (with_reducible show (_ : Int) < _) | (with_reducible show (_ : Nat) ≤ _) | (with_reducible show (_ : Nat) < _) | (conv => whnf)
    all_goals first | omega | skip
    refine acall_of_msat tys_ok Tryd.func48 rfl (by kernel_rfl) rfl ?_
    refine MSat.seqA tys_ok (L := [(71, ⟨[true], FBSearchK⟩), (72, ⟨[true, false, true], FInsertK⟩), (11, ⟨[], FKyCmp⟩)]) ⟨fcBSearchK, fcInsertK, fcKyCmp, trivial⟩ (by kernel_rfl) (by kernel_rfl) ?_
    repeat' (first | exact trivial | refine ⟨?_, ?_⟩ | intro _)
    all_goals first | (with_reducible show (_ : Int) ≤ _) | (with_reducible show (_ : Int) < _) | (with_reducible show (_ : Nat) ≤ _) | (with_reducible show (_ : Nat) < _) | (conv => whnf)
    refine MSat.seqA tys_ok (L := [(71, ⟨[true], FBSearchK⟩), (72, ⟨[true, false, true], FInsertK⟩), (11, ⟨[], FKyCmp⟩)]) ⟨fcBSearchK, fcInsertK, fcKyCmp, trivial⟩ (by kernel_rfl) (by kernel_rfl) ?_
    repeat' (first | exact trivial | refine ⟨?_, ?_⟩ | intro _)
    all_goals first | (with_reducible show (_ : Int) ≤ _) | (with_reducible show (_ : Int) < _) | (with_reducible show (_ : Nat) ≤ _) | (with_reducible show (_ : Nat) < _) | (conv => whnf)
    refine MSat.seqB tys_ok (L := [(71, ⟨[true], FBSearchK⟩), (72, ⟨[true, false, true], FInsertK⟩), (11, ⟨[], FKyCmp⟩)]) ⟨fcBSearchK, fcInsertK, fcKyCmp, trivial⟩ (by kernel_rfl) (by kernel_rfl) ?_
    refine MSat.seqA tys_ok (L := [(71, ⟨[true], FBSearchK⟩), (72, ⟨[true, false, true], FInsertK⟩), (11, ⟨[], FKyCmp⟩)]) ⟨fcBSearchK, fcInsertK, fcKyCmp, trivial⟩ (by kernel_rfl) (by kernel_rfl) ?_
    repeat' (first | exact trivial | refine ⟨?_, ?_⟩ | intro _)
    all_goals first | (with_reducible show (_ : Int) ≤ _) | (with_reducible show (_ : Int) < _) | (with_reducible show (_ : Nat) ≤ _) | (with_reducible show (_ : Nat) < _) | (conv => whnf)
    refine MSat.block ?_
    have hLs : Lsts 2 (fun i => Sx.rowAt 1 [DV.lst 2 L.length (rwK L), DV.lst 2 1 fun i => Sx.rowAt 2 [.v (.string x1), .v (.int .i64 i1)] (0 + i)] (0 + i)) [L, [⟨x1, i1⟩]] := lsts2 (fa := rwK L) (fb := fun i => Sx.rowAt 2 [.v (.string x1), .v (.int .i64 i1)] (0 + i)) rfl rfl (fun j _ => rfl) (fun j hj => by obtain rfl : j = 0 := (by simpa using hj); rfl) hn (by simp) (fun x hx => by rcases List.mem_append.1 hx with h | h; exact hO x h; rw [List.mem_singleton.1 h]; exact hp1)
    refine MSat.le [0, 1, 2, 3, 4] 1 ?_ (MSat.range tys_ok (L := [(71, ⟨[true], FBSearchK⟩), (72, ⟨[true, false, true], FInsertK⟩), (11, ⟨[], FKyCmp⟩)]) ⟨fcBSearchK, fcInsertK, fcKyCmp, trivial⟩ (by kernel_rfl) 5 (ts := [(7, .va (.c (.fn 73 [(3, 0)]))), (3, .va (.c (.own 4 0)))]) (n := 6) (m := 23) rfl (callable_of Tryd.func73 rfl rfl) (by kernel_rfl) (by kernel_rfl) rfl (kAll [L, [⟨x1, i1⟩]]) (kEs [L, [⟨x1, i1⟩]]) kEs_rep (by unfold kEs kAll; rw [List.length_map, List.length_map])
      (fun i => [(4, .cells [.osl 5 2 0 (rowK ([L, [⟨x1, i1⟩]].flatten.take i)).length]), (5, .row 2 (rowK ([L, [⟨x1, i1⟩]].flatten.take i)).length (rwK (rowK ([L, [⟨x1, i1⟩]].flatten.take i)))), (3, .fz [.lst 1 2 (fun i => Sx.rowAt 1 [DV.lst 2 L.length (rwK L), DV.lst 2 1 fun i => Sx.rowAt 2 [.v (.string x1), .v (.int .i64 i1)] (0 + i)] (0 + i))])]) (fun _ => 6) rfl rfl ?_ (by decide) (by decide)
      (fun ψ S w a hr W lb hx hlb => by obtain ⟨p, rfl, h1, h2⟩ := seq_rel rfl rfl hr hx hlb; exact chain_seq hLs (by decide) h1 h2) ?_)
    · repeat' (first | exact trivial | exact rfl | (intro _ h; exact absurd h (Nat.not_lt_zero _)) | (intro _ _; exact rfl) | refine ⟨?_, ?_⟩ | fail)
      all_goals decide
    · intro i e he
      obtain ⟨k, hk, rfl⟩ := kEs_at he
      have hst := rowT_step hk
      have hsk := rowK_sk ([L, [⟨x1, i1⟩]].flatten.take i)
      have hle := rowK_len ([L, [⟨x1, i1⟩]].flatten.take i)
      have hrg : ∀ x, x ∈ rowK ([L, [⟨x1, i1⟩]].flatten.take i) → rI x.node := rowK_rng (fun x hx => hLs.rng x (List.mem_of_mem_take hx))
      have hkr : rI k.node := hLs.rng k (List.mem_of_getElem? hk)
      have hil : i < [L, [⟨x1, i1⟩]].flatten.length := (List.getElem?_eq_some_iff.1 hk).1
      have hfl : [L, [⟨x1, i1⟩]].flatten.length = L.length + 1 := by simp
      have hkc := Ky.cl_r hkr
      unfold rI at hkr hkc
      rw [List.length_take] at hle
      rw [hst]
      generalize rowK (List.take i [L, [⟨x1, i1⟩]].flatten) = O at *
      have hRK : RowsK O.length (rwK O) := rowsK_of hrg
      have hO9 : O.length ≤ 1000000000 := by omega
      have hgs := gKs_row O
      have hs1 := hsk.1
      have hs2 := hsk.2
      cases hfd : foundQ O k.cl with
      | true =>
        rw [put_found hsk hfd]
        refine ⟨[0, 1, 2, 3, 4, 5], 0, ?_⟩
        repeat' (first | exact trivial | refine ⟨?_, ?_⟩ | intro _)
        all_goals first | (with_reducible show (_ : Int) ≤ _) | (with_reducible show (_ : Int) < _) | (with_reducible show (_ : Nat) ≤ _) | (with_reducible show (_ : Nat) < _) | (conv => whnf)
        all_goals (try simp only [hgs])
        all_goals first | (exact absurd ‹(!foundQ _ _) = true› (by rw [hgs]; show ¬ (!foundQ O k.cl) = true; rw [hfd]; decide)) | decide | (show mkFv _ _ _ = mkFv _ _ _; unfold mkFv; rfl) | (with_reducible exact hkc.1) | (with_reducible exact hkc.2) | (with_reducible exact hs1) | (with_reducible exact hs2) | (exact hs2 _ (by have h := ‹_ ∈ gKs _ _›; rw [hgs] at h; exact h)) | (with_reducible exact hRK) | omega | (with_reducible rfl) | skip
        all_goals trace_state
      | false =>
        obtain ⟨h1, h2, h3⟩ := put_new hsk hfd
        generalize putK O k = O2 at *
        refine ⟨[0, 1, 2, 3, 4, 8], 0, ?_⟩
        repeat' (first | exact trivial | refine ⟨?_, ?_⟩ | intro _)
        all_goals first | (with_reducible show (_ : Int) ≤ _) | (with_reducible show (_ : Int) < _) | (with_reducible show (_ : Nat) ≤ _) | (with_reducible show (_ : Nat) < _) | (conv => whnf)
        all_goals (try simp only [hgs])
        all_goals first | (exact absurd ‹(!foundQ _ _) = false› (by rw [hgs]; show ¬ (!foundQ O k.cl) = false; rw [hfd]; decide)) | decide | (have h2' : lowQ O ⟨k.cl.name, k.cl.node⟩ ≤ O.length := h2; omega) | (exact h3 _ (by omega)) | (show mkFv _ _ _ = mkFv _ _ _; unfold mkFv; rfl) | (with_reducible exact hkc.1) | (with_reducible exact hkc.2) | (with_reducible exact hs1) | (with_reducible exact hs2) | (exact hs2 _ (by have h := ‹_ ∈ gKs _ _›; rw [hgs] at h; exact h)) | (with_reducible exact hRK) | omega | (with_reducible rfl) | skip
        all_goals trace_state
    · repeat' (first | exact trivial | refine ⟨?_, ?_⟩ | intro _)
      all_goals first | (with_reducible show (_ : Int) ≤ _) | (with_reducible show (_ : Int) < _) | (with_reducible show (_ : Nat) ≤ _) | (with_reducible show (_ : Nat) < _) | (conv => whnf)
      all_goals rw [show List.take (kAll [L, [⟨x1, i1⟩]]).length [L, [⟨x1, i1⟩]].flatten = L ++ [⟨x1, i1⟩] from (List.take_of_length_le (by unfold kAll; rw [List.length_map]; exact Nat.le_refl _)).trans (by simp)]
      all_goals first | exact Nat.le_refl _ | rfl | trace_state
  · cases h
def FJoinK : List Ar → Option Rs
  | [.c (.d (.lst 2 n0 f0)), .c (.d (.lst 2 n1 f1))] => some ⟨(n0 ≤ 1000000000 ∧ RowsK n0 f0) ∧ (n1 ≤ 1000000000 ∧ RowsK n1 f1) ∧ (n0 + n1 ≤ 1000000000), .va (.c (.ow 2 (rowK ((gKs n0 f0) ++ (gKs n1 f1))).length (rwK (rowK ((gKs n0 f0) ++ (gKs n1 f1)))))), []⟩
  | _ => none
set_option maxHeartbeats 4000000 in
set_option maxRecDepth 100000 in
theorem fcJoinK : FC Tryd.prog 28 FJoinK := by
  intro xs pre r us h hp
  unfold FJoinK at h
  split at h
  · rename_i n0 f0 n1 f1
    cases h
    obtain ⟨hp0, hp1, hp2⟩ := hp
    refine FCat.deep (ys := [.c (.d (.lst 2 n0 (rwK (gKs n0 f0)))), .c (.d (.lst 2 n1 (rwK (gKs n1 f1))))]) ?_ ?_
    · repeat' (first | exact trivial | exact rfl | exact DvE.refl _ | refine ⟨?_, ?_⟩ | fail)
      all_goals first | exact canonK hp0.2.h | exact canonK hp1.2.h
    refine fcat tys_ok (l := [(71, ⟨[true], FBSearchK⟩), (72, ⟨[true, false, true], FInsertK⟩), (11, ⟨[], FKyCmp⟩)]) ⟨fcBSearchK, fcInsertK, fcKyCmp, trivial⟩ Tryd.func28 rfl (by kernel_rfl) false ?_
    have hn := hp0.1
    have hO := rowsK_r hp0.2
    have hlen := gKs_length n0 f0
    generalize gKs n0 f0 = L at *
    clear hp0
    subst hlen
    have hn2 := hp1.1
    have hO2 := rowsK_r hp1.2
    have hlen2 := gKs_length n1 f1
    generalize gKs n1 f1 = L2 at *
    clear hp1
    subst hlen2
    
    repeat' (first | exact trivial | refine ⟨?_, ?_⟩ | intro _)
    all_goals first | (with_reducible show (_ : Int) ≤ _) | (with_reducible show (_ : Int) < _) | (with_reducible show (_ : Nat) ≤ _) | (with_reducible show (_ : Nat) < _) | (conv => whnf)
    ((with_reducible show ACall _ _ _ _ _ _); refine inl tys_ok (l := [(71, ⟨[true], FBSearchK⟩), (72, ⟨[true, false, true], FInsertK⟩), (11, ⟨[], FKyCmp⟩)]) ⟨fcBSearchK, fcInsertK, fcKyCmp, trivial⟩ Tryd.func49 rfl (by kernel_rfl) (by kernel_rfl) rfl ?_)
    repeat' (first | exact trivial | refine ⟨?_, ?_⟩ | intro _)
    all_goals first | (with_reducible show (_ : Int) ≤ _) | (with_reducible show (_ : Int) < _) | (with_reducible show (_ : Nat) ≤ _) | (with_reducible show (_ : Nat) < _) | (conv => whnf)
    refine acall_fr ?_
    repeat' (first | exact trivial | refine ⟨?_, ?_⟩ | intro _)
    all_goals first | (with_reducible show (_ : Int) ≤ _) | (with_reducible show (_ : Int) < _) | (with_reducible show (_ : Nat) ≤ _) | (with_reducible show (_ : Nat) < _) | (conv => whnf)
    all_goals first | omega | skip
    refine acall_of_msat tys_ok Tryd.func48 rfl (by kernel_rfl) rfl ?_
    refine MSat.seqA tys_ok (L := [(71, ⟨[true], FBSearchK⟩), (72, ⟨[true, false, true], FInsertK⟩), (11, ⟨[], FKyCmp⟩)]) ⟨fcBSearchK, fcInsertK, fcKyCmp, trivial⟩ (by kernel_rfl) (by kernel_rfl) ?_
    repeat' (first | exact trivial | refine ⟨?_, ?_⟩ | intro _)
    all_goals first | (with_reducible show (_ : Int) ≤ _) | (with_reducible show (_ : Int) < _) | (with_reducible show (_ : Nat) ≤ _) | (with_reducible show (_ : Nat) < _) | (conv => whnf)
    refine MSat.seqA tys_ok (L := [(71, ⟨[true], FBSearchK⟩), (72, ⟨[true, false, true], FInsertK⟩), (11, ⟨[], FKyCmp⟩)]) ⟨fcBSearchK, fcInsertK, fcKyCmp, trivial⟩ (by kernel_rfl) (by kernel_rfl) ?_
    repeat' (first | exact trivial | refine ⟨?_, ?_⟩ | intro _)
    all_goals first | (with_reducible show (_ : Int) ≤ _) | (with_reducible show (_ : Int) < _) | (with_reducible show (_ : Nat) ≤ _) | (with_reducible show (_ : Nat) < _) | (conv => whnf)
    refine MSat.seqB tys_ok (L := [(71, ⟨[true], FBSearchK⟩), (72, ⟨[true, false, true], FInsertK⟩), (11, ⟨[], FKyCmp⟩)]) ⟨fcBSearchK, fcInsertK, fcKyCmp, trivial⟩ (by kernel_rfl) (by kernel_rfl) ?_
    refine MSat.seqA tys_ok (L := [(71, ⟨[true], FBSearchK⟩), (72, ⟨[true, false, true], FInsertK⟩), (11, ⟨[], FKyCmp⟩)]) ⟨fcBSearchK, fcInsertK, fcKyCmp, trivial⟩ (by kernel_rfl) (by kernel_rfl) ?_
    repeat' (first | exact trivial | refine ⟨?_, ?_⟩ | intro _)
    all_goals first | (with_reducible show (_ : Int) ≤ _) | (with_reducible show (_ : Int) < _) | (with_reducible show (_ : Nat) ≤ _) | (with_reducible show (_ : Nat) < _) | (conv => whnf)
    refine MSat.block ?_
    have hLs : Lsts 2 (fun i => Sx.rowAt 1 [DV.lst 2 L.length (rwK L), DV.lst 2 L2.length (rwK L2)] (0 + i)) [L, L2] := lsts2 (fa := rwK L) (fb := rwK L2) rfl rfl (fun j _ => rfl) (fun j _ => rfl) hn hn2 (fun x hx => by rcases List.mem_append.1 hx with h | h; exact hO x h; exact hO2 x h)
    refine MSat.le [0, 1, 2] 1 ?_ (MSat.range tys_ok (L := [(71, ⟨[true], FBSearchK⟩), (72, ⟨[true, false, true], FInsertK⟩), (11, ⟨[], FKyCmp⟩)]) ⟨fcBSearchK, fcInsertK, fcKyCmp, trivial⟩ (by kernel_rfl) 3 (ts := [(7, .va (.c (.fn 73 [(1, 0)]))), (3, .va (.c (.own 2 0)))]) (n := 4) (m := 23) rfl (callable_of Tryd.func73 rfl rfl) (by kernel_rfl) (by kernel_rfl) rfl (kAll [L, L2]) (kEs [L, L2]) kEs_rep (by unfold kEs kAll; rw [List.length_map, List.length_map])
      (fun i => [(2, .cells [.osl 3 2 0 (rowK ([L, L2].flatten.take i)).length]), (3, .row 2 (rowK ([L, L2].flatten.take i)).length (rwK (rowK ([L, L2].flatten.take i)))), (1, .fz [.lst 1 2 (fun i => Sx.rowAt 1 [DV.lst 2 L.length (rwK L), DV.lst 2 L2.length (rwK L2)] (0 + i))])]) (fun _ => 4) rfl rfl ?_ (by decide) (by decide)
      (fun ψ S w a hr W lb hx hlb => by obtain ⟨p, rfl, h1, h2⟩ := seq_rel rfl rfl hr hx hlb; exact chain_seq hLs (by decide) h1 h2) ?_)
    · repeat' (first | exact trivial | exact rfl | (intro _ h; exact absurd h (Nat.not_lt_zero _)) | (intro _ _; exact rfl) | refine ⟨?_, ?_⟩ | fail)
      all_goals decide
    · intro i e he
      obtain ⟨k, hk, rfl⟩ := kEs_at he
      have hst := rowT_step hk
      have hsk := rowK_sk ([L, L2].flatten.take i)
      have hle := rowK_len ([L, L2].flatten.take i)
      have hrg : ∀ x, x ∈ rowK ([L, L2].flatten.take i) → rI x.node := rowK_rng (fun x hx => hLs.rng x (List.mem_of_mem_take hx))
      have hkr : rI k.node := hLs.rng k (List.mem_of_getElem? hk)
      have hil : i < [L, L2].flatten.length := (List.getElem?_eq_some_iff.1 hk).1
      have hfl : [L, L2].flatten.length = L.length + L2.length := by simp
      have hkc := Ky.cl_r hkr
      unfold rI at hkr hkc
      rw [List.length_take] at hle
      rw [hst]
      generalize rowK (List.take i [L, L2].flatten) = O at *
      have hRK : RowsK O.length (rwK O) := rowsK_of hrg
      have hO9 : O.length ≤ 1000000000 := by omega
      have hgs := gKs_row O
      have hs1 := hsk.1
      have hs2 := hsk.2
      cases hfd : foundQ O k.cl with
      | true =>
        rw [put_found hsk hfd]
        refine ⟨[0, 1, 2, 3], 0, ?_⟩
        repeat' (first | exact trivial | refine ⟨?_, ?_⟩ | intro _)
        all_goals first | (with_reducible show (_ : Int) ≤ _) | (with_reducible show (_ : Int) < _) | (with_reducible show (_ : Nat) ≤ _) | (with_reducible show (_ : Nat) < _) | (conv => whnf)
        all_goals (try simp only [hgs])
        all_goals first | (exact absurd ‹(!foundQ _ _) = true› (by rw [hgs]; show ¬ (!foundQ O k.cl) = true; rw [hfd]; decide)) | decide | (show mkFv _ _ _ = mkFv _ _ _; unfold mkFv; rfl) | (with_reducible exact hkc.1) | (with_reducible exact hkc.2) | (with_reducible exact hs1) | (with_reducible exact hs2) | (exact hs2 _ (by have h := ‹_ ∈ gKs _ _›; rw [hgs] at h; exact h)) | (with_reducible exact hRK) | omega | (with_reducible rfl) | skip
        all_goals trace_state
      | false =>
        obtain ⟨h1, h2, h3⟩ := put_new hsk hfd
        generalize putK O k = O2 at *
        refine ⟨[0, 1, 2, 6], 0, ?_⟩
        repeat' (first | exact trivial | refine ⟨?_, ?_⟩ | intro _)
        all_goals first | (with_reducible show (_ : Int) ≤ _) | (with_reducible show (_ : Int) < _) | (with_reducible show (_ : Nat) ≤ _) | (with_reducible show (_ : Nat) < _) | (conv => whnf)
        all_goals (try simp only [hgs])
        all_goals first | (exact absurd ‹(!foundQ _ _) = false› (by rw [hgs]; show ¬ (!foundQ O k.cl) = false; rw [hfd]; decide)) | decide | (have h2' : lowQ O ⟨k.cl.name, k.cl.node⟩ ≤ O.length := h2; omega) | (exact h3 _ (by omega)) | (show mkFv _ _ _ = mkFv _ _ _; unfold mkFv; rfl) | (with_reducible exact hkc.1) | (with_reducible exact hkc.2) | (with_reducible exact hs1) | (with_reducible exact hs2) | (exact hs2 _ (by have h := ‹_ ∈ gKs _ _›; rw [hgs] at h; exact h)) | (with_reducible exact hRK) | omega | (with_reducible rfl) | skip
        all_goals trace_state
    · repeat' (first | exact trivial | refine ⟨?_, ?_⟩ | intro _)
      all_goals first | (with_reducible show (_ : Int) ≤ _) | (with_reducible show (_ : Int) < _) | (with_reducible show (_ : Nat) ≤ _) | (with_reducible show (_ : Nat) < _) | (conv => whnf)
      all_goals rw [show List.take (kAll [L, L2]).length [L, L2].flatten = L ++ L2 from (List.take_of_length_le (by unfold kAll; rw [List.length_map]; exact Nat.le_refl _)).trans (by simp)]
      all_goals first | exact Nat.le_refl _ | rfl | trace_state
  · cases h

end Go.Proofs.YtakcacejpbiogaaDoor
