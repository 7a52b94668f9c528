/- Rows of keys. No condition. -/
import Derived.Test.YtakcacejpbiogaaDoorKey16
namespace Go.Proofs.YtakcacejpbiogaaDoor
set_option linter.all false
open Go.Sx

open Go.RowKit Go.Lib Go.Sort
def kTm (k : Ky) : Tm := .va (.agg [.d (st k.name), .d (it k.node)])
def kEs (LL : List (List Ky)) : List Tm := LL.flatten.map fun k => kTm k.cl
theorem kEs_at {LL : List (List Ky)} {i : Nat} {e : Tm} (h : (kEs LL)[i]? = some e) : ∃ k, LL.flatten[i]? = some k ∧ e = kTm k.cl := by
  unfold kEs at h
  rw [List.getElem?_map] at h
  obtain ⟨k, h1, h2⟩ := Option.map_eq_some_iff.1 h
  exact ⟨k, h1, h2.symm⟩
theorem kEs_rep {P : Program} {LL : List (List Ky)} (i : Nat) (e : Tm) (v : Value) (h : (kEs LL)[i]? = some e) (hv : (kAll LL)[i]? = some v) (ψ : Psi) (S : Nat → Prop) (w : World) : RepT P ψ S w e v := by
  obtain ⟨k, h1, rfl⟩ := kEs_at h
  unfold kAll at hv
  rw [List.getElem?_map, h1] at hv
  cases hv
  exact ⟨_, rfl, ⟨.v trivial, trivial⟩, ⟨.v trivial, trivial⟩, trivial⟩
theorem rowT_step {l : List Ky} {i : Nat} {k : Ky} (h : l[i]? = some k) : rowK (l.take (i + 1)) = putK (rowK (l.take i)) k := by
  obtain ⟨hlt, he⟩ := List.getElem?_eq_some_iff.1 h
  rw [List.take_succ_eq_append_getElem hlt, rowK_snoc, he]
theorem lsts1 {L : List Ky} {F : Nat → List DV} (h0 : F 0 = [lstK L]) (hn : L.length ≤ 1000000000) (hO : ∀ x, x ∈ L → rI x.node) : Lsts 1 F [L] :=
  ⟨rfl, fun i hi => by
    obtain rfl : i = 0 := by omega
    exact ⟨_, h0, fun j _ => rfl, hn⟩, fun x hx => hO x (by simpa using hx)⟩
def FRowK : List Ar → Option Rs
  | [.c (.d (.lst 2 n0 f0))] => some ⟨(n0 ≤ 1000000000 ∧ RowsK n0 f0), .va (.c (.ow 2 (rowK (gKs n0 f0)).length (rwK (rowK (gKs n0 f0))))), []⟩
  | _ => none
set_option maxHeartbeats 3000000 in
set_option maxRecDepth 100000 in
theorem fcRowK : FC Tryd.prog 21 FRowK := by
  intro xs pre r us h hp
  unfold FRowK at h
  split at h
  · rename_i n0 f0
    cases h
    have hp0 := hp
    refine FCat.deep (ys := [.c (.d (.lst 2 n0 (rwK (gKs n0 f0))))]) ?_ ?_
    · repeat' (first | exact trivial | exact rfl | exact DvE.refl _ | refine ⟨?_, ?_⟩ | fail)
      all_goals first | exact canonK hp0.2.h
    refine fcat tys_ok (l := [(71, ⟨[true], FBSearchK⟩), (72, ⟨[true, false, true], FInsertK⟩), (11, ⟨[], FKyCmp⟩)]) ⟨fcBSearchK, fcInsertK, fcKyCmp, trivial⟩ Tryd.func21 rfl (by kernel_rfl) false ?_
    have hn := hp0.1
    have hO := rowsK_r hp0.2
    have hlen := gKs_length n0 f0
    generalize gKs n0 f0 = L at *
    clear hp0
    subst hlen
    repeat' (first | exact trivial | refine ⟨?_, ?_⟩ | intro _)
    all_goals first | (with_reducible show (_ : Int) ≤ _) | (with_reducible show (_ : Int) < _) | (with_reducible show (_ : Nat) ≤ _) | (with_reducible show (_ : Nat) < _) | (conv => whnf)
    ((with_reducible show ACall _ _ _ _ _ _); refine inl tys_ok (l := [(71, ⟨[true], FBSearchK⟩), (72, ⟨[true, false, true], FInsertK⟩), (11, ⟨[], FKyCmp⟩)]) ⟨fcBSearchK, fcInsertK, fcKyCmp, trivial⟩ Tryd.func49 rfl (by kernel_rfl) (by kernel_rfl) rfl ?_)
    repeat' (first | exact trivial | refine ⟨?_, ?_⟩ | intro _)
    all_goals first | (with_reducible show (_ : Int) ≤ _) | (with_reducible show (_ : Int) < _) | (with_reducible show (_ : Nat) ≤ _) | (with_reducible show (_ : Nat) < _) | (conv => whnf)
    refine acall_fr ?_
    repeat' (first | exact trivial | refine ⟨?_, ?_⟩ | intro _)
    all_goals first | (with_reducible show (_ : Int) ≤ _) | (with_reducible show (_ : Int) < _) | (with_reducible show (_ : Nat) ≤ _) | (with_reducible show (_ : Nat) < _) | (conv => whnf)
    all_goals first | omega | skip
    refine acall_of_msat tys_ok Tryd.func48 rfl (by kernel_rfl) rfl ?_
    refine MSat.seqA tys_ok (L := [(71, ⟨[true], FBSearchK⟩), (72, ⟨[true, false, true], FInsertK⟩), (11, ⟨[], FKyCmp⟩)]) ⟨fcBSearchK, fcInsertK, fcKyCmp, trivial⟩ (by kernel_rfl) (by kernel_rfl) ?_
    repeat' (first | exact trivial | refine ⟨?_, ?_⟩ | intro _)
    all_goals first | (with_reducible show (_ : Int) ≤ _) | (with_reducible show (_ : Int) < _) | (with_reducible show (_ : Nat) ≤ _) | (with_reducible show (_ : Nat) < _) | (conv => whnf)
    refine MSat.seqA tys_ok (L := [(71, ⟨[true], FBSearchK⟩), (72, ⟨[true, false, true], FInsertK⟩), (11, ⟨[], FKyCmp⟩)]) ⟨fcBSearchK, fcInsertK, fcKyCmp, trivial⟩ (by kernel_rfl) (by kernel_rfl) ?_
    repeat' (first | exact trivial | refine ⟨?_, ?_⟩ | intro _)
    all_goals first | (with_reducible show (_ : Int) ≤ _) | (with_reducible show (_ : Int) < _) | (with_reducible show (_ : Nat) ≤ _) | (with_reducible show (_ : Nat) < _) | (conv => whnf)
    refine MSat.seqB tys_ok (L := [(71, ⟨[true], FBSearchK⟩), (72, ⟨[true, false, true], FInsertK⟩), (11, ⟨[], FKyCmp⟩)]) ⟨fcBSearchK, fcInsertK, fcKyCmp, trivial⟩ (by kernel_rfl) (by kernel_rfl) ?_
    refine MSat.seqA tys_ok (L := [(71, ⟨[true], FBSearchK⟩), (72, ⟨[true, false, true], FInsertK⟩), (11, ⟨[], FKyCmp⟩)]) ⟨fcBSearchK, fcInsertK, fcKyCmp, trivial⟩ (by kernel_rfl) (by kernel_rfl) ?_
    repeat' (first | exact trivial | refine ⟨?_, ?_⟩ | intro _)
    all_goals first | (with_reducible show (_ : Int) ≤ _) | (with_reducible show (_ : Int) < _) | (with_reducible show (_ : Nat) ≤ _) | (with_reducible show (_ : Nat) < _) | (conv => whnf)
    refine MSat.block ?_
    have hLs := lsts1 (F := fun i => Sx.rowAt 1 [DV.lst 2 L.length (rwK L)] (0 + i)) rfl hn hO
    refine MSat.le [0, 1, 2] 1 ?_ (MSat.range tys_ok (L := [(71, ⟨[true], FBSearchK⟩), (72, ⟨[true, false, true], FInsertK⟩), (11, ⟨[], FKyCmp⟩)]) ⟨fcBSearchK, fcInsertK, fcKyCmp, trivial⟩ (by kernel_rfl) 3 (ts := [(7, .va (.c (.fn 73 [(1, 0)]))), (3, .va (.c (.own 2 0)))]) (n := 4) (m := 23) rfl (callable_of Tryd.func73 rfl rfl) (by kernel_rfl) (by kernel_rfl) rfl (kAll [L]) (kEs [L]) kEs_rep (by unfold kEs kAll; rw [List.length_map, List.length_map])
      (fun i => [(2, .cells [.osl 3 2 0 (rowK ([L].flatten.take i)).length]), (3, .row 2 (rowK ([L].flatten.take i)).length (rwK (rowK ([L].flatten.take i)))), (1, .fz [.lst 1 1 fun i => Sx.rowAt 1 [DV.lst 2 L.length (rwK L)] (0 + i)])]) (fun _ => 4) rfl rfl ?_ (by decide) (by decide)
      (fun ψ S w a hr W lb hx hlb => by obtain ⟨p, rfl, h1, h2⟩ := seq_rel rfl rfl hr hx hlb; exact chain_seq hLs (by decide) h1 h2) ?_)
    · repeat' (first | exact trivial | exact rfl | (intro _ h; exact absurd h (Nat.not_lt_zero _)) | (intro _ _; exact rfl) | refine ⟨?_, ?_⟩ | fail)
      all_goals decide
    · intro i e he
      obtain ⟨k, hk, rfl⟩ := kEs_at he
      have hst := rowT_step hk
      have hsk := rowK_sk ([L].flatten.take i)
      have hle := rowK_len ([L].flatten.take i)
      have hrg : ∀ x, x ∈ rowK ([L].flatten.take i) → rI x.node := rowK_rng (fun x hx => hO x (by simpa using List.mem_of_mem_take hx))
      have hkr : rI k.node := hO k (by have := List.mem_of_getElem? hk; simpa using this)
      have hil : i < L.length := by have := (List.getElem?_eq_some_iff.1 hk).1; simpa using this
      have hkc := Ky.cl_r hkr
      unfold rI at hkr hkc
      rw [List.length_take] at hle
      rw [hst]
      generalize rowK (List.take i [L].flatten) = O at *
      have hRK : RowsK O.length (rwK O) := rowsK_of hrg
      have hO9 : O.length ≤ 1000000000 := by omega
      have hgs := gKs_row O
      have hs1 := hsk.1
      have hs2 := hsk.2
      cases hfd : foundQ O k.cl with
      | true =>
        rw [put_found hsk hfd]
        refine ⟨[0, 1, 2, 3], 0, ?_⟩
        repeat' (first | exact trivial | refine ⟨?_, ?_⟩ | intro _)
        all_goals first | (with_reducible show (_ : Int) ≤ _) | (with_reducible show (_ : Int) < _) | (with_reducible show (_ : Nat) ≤ _) | (with_reducible show (_ : Nat) < _) | (conv => whnf)
        all_goals (try simp only [hgs])
        all_goals first | (exact absurd ‹(!foundQ _ _) = true› (by rw [hgs]; show ¬ (!foundQ O k.cl) = true; rw [hfd]; decide)) | decide | (show mkFv _ _ _ = mkFv _ _ _; unfold mkFv; rfl) | (with_reducible exact hkc.1) | (with_reducible exact hkc.2) | (with_reducible exact hs1) | (with_reducible exact hs2) | (exact hs2 _ (by have h := ‹_ ∈ gKs _ _›; rw [hgs] at h; exact h)) | (with_reducible exact hRK) | omega | (with_reducible rfl) | skip
        all_goals trace_state
      | false =>
        obtain ⟨h1, h2, h3⟩ := put_new hsk hfd
        generalize putK O k = O2 at *
        refine ⟨[0, 1, 2, 6], 0, ?_⟩
        repeat' (first | exact trivial | refine ⟨?_, ?_⟩ | intro _)
        all_goals first | (with_reducible show (_ : Int) ≤ _) | (with_reducible show (_ : Int) < _) | (with_reducible show (_ : Nat) ≤ _) | (with_reducible show (_ : Nat) < _) | (conv => whnf)
        all_goals (try simp only [hgs])
        all_goals first | (exact absurd ‹(!foundQ _ _) = false› (by rw [hgs]; show ¬ (!foundQ O k.cl) = false; rw [hfd]; decide)) | decide | (have h2' : lowQ O ⟨k.cl.name, k.cl.node⟩ ≤ O.length := h2; omega) | (exact h3 _ (by omega)) | (show mkFv _ _ _ = mkFv _ _ _; unfold mkFv; rfl) | (with_reducible exact hkc.1) | (with_reducible exact hkc.2) | (with_reducible exact hs1) | (with_reducible exact hs2) | (exact hs2 _ (by have h := ‹_ ∈ gKs _ _›; rw [hgs] at h; exact h)) | (with_reducible exact hRK) | omega | (with_reducible rfl) | skip
        all_goals trace_state
    · repeat' (first | exact trivial | refine ⟨?_, ?_⟩ | intro _)
      all_goals first | (with_reducible show (_ : Int) ≤ _) | (with_reducible show (_ : Int) < _) | (with_reducible show (_ : Nat) ≤ _) | (with_reducible show (_ : Nat) < _) | (conv => whnf)
      all_goals rw [show List.take (kAll [L]).length [L].flatten = L by simp [kAll]]
      all_goals first | exact Nat.le_refl _ | rfl | trace_state
  · cases h

end Go.Proofs.YtakcacejpbiogaaDoor
