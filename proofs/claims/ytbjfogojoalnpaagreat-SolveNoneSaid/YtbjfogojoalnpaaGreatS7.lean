/- Rows of keys, in plain words. No condition. -/
import Derived.Test.YtbjfogojoalnpaaGreatS6
import Derived.Lib.Overlaps
set_option linter.all false
set_option maxHeartbeats 8000000
set_option maxRecDepth 100000
namespace Go.Proofs.YtbjfogojoalnpaaGreat
open Go.Sx
open Go.RowKit Go.Lib Go.Sort
def rowK (l : List Ky) : List Ky := l.foldl putK []
theorem rowK_snoc (l : List Ky) (k : Ky) : rowK (l ++ [k]) = putK (rowK l) k := by unfold rowK; rw [List.foldl_append]; rfl
theorem sk_nil : SK [] := ⟨List.Pairwise.nil, fun _ h => by cases h⟩
theorem rowK_sk (l : List Ky) : SK (rowK l) := snocRec (p := fun l => SK (rowK l)) sk_nil (fun l x ih => by rw [rowK_snoc]; exact put_sk ih x) l
theorem rowK_len (l : List Ky) : (rowK l).length <= l.length := snocRec (p := fun l => (rowK l).length <= l.length) (Nat.le_refl _) (fun l x ih => by rw [rowK_snoc, List.length_append]; have := put_len (rowK l) x; simp only [List.length_cons, List.length_nil]; omega) l
theorem rowK_mem (l : List Ky) (x : Ky) : x ∈ rowK l ↔ ∃ k, k ∈ l /\ x = k.cl :=
 snocRec (p := fun l => x ∈ rowK l ↔ ∃ k, k ∈ l /\ x = k.cl) (by simp [rowK]) (fun l k ih => by
  rw [rowK_snoc, mem_put (rowK_sk l), ih]
  constructor
  . rintro (h | ⟨q, h1, h2⟩)
    . exact ⟨k, by simp, h⟩
    . exact ⟨q, by simp [h1], h2⟩
  . rintro ⟨q, h1, h2⟩
    rcases List.mem_append.1 h1 with h | h
    . exact .inr ⟨q, h, h2⟩
    . rw [List.mem_singleton.1 h] at h2; exact .inl h2) l
theorem rowK_rng {l : List Ky} (h : ∀ x, x ∈ l -> rI x.node) : ∀ x, x ∈ rowK l -> rI x.node := fun x hx => by
 obtain ⟨k, h1, rfl⟩ := (rowK_mem l x).1 hx
 exact Ky.cl_r (h k h1)
theorem put_found {L : List Ky} {k : Ky} (hs : SK L) (h : foundQ L k.cl = true) : putK L k = L := by
 unfold foundQ at h
 obtain ⟨h1, h2⟩ := Bool.and_eq_true_iff.1 h
 have h1 := of_decide_eq_true h1
 have h2 := of_decide_eq_true h2
 obtain ⟨A, B, rfl, hA, hB⟩ := sk_split hs k
 have hl : lowQ (A ++ B) k.cl = A.length := by
  unfold lowQ
  rw [List.countP_append, List.countP_eq_length.2 (fun a ha => by rw [Ky.lt_cl2]; exact hA a ha), List.countP_eq_zero.2 (fun b hb => by rw [Ky.lt_cl2, hB b hb]; exact Bool.false_ne_true)]
  rfl
 rw [hl] at h1 h2
 cases B with
 | nil => simp at h1
 | cons b B =>
   have hb : atK (A ++ b :: B) A.length = b := by unfold atK; rw [List.getD_eq_getElem?_getD, List.getElem?_append_right (Nat.le_refl _)]; simp
   rw [hb, Ky.cl_cl] at h2
   have hbc : b.cl = b := hs.2 b (by simp)
   rw [hbc] at h2
   subst h2
   rw [put_split hA hB]
   congr 1
   rw [List.filter_cons_of_neg (by simp)]
   congr 1
   refine filt_ne (k := k.cl) fun c hc e => ?_
   have hp := (List.pairwise_append.1 hs.1).2.1
   have := (List.pairwise_cons.1 hp).1 c hc
   rw [e, Ky.lt_irrefl] at this; cases this
theorem put_new {L : List Ky} {k : Ky} (hs : SK L) (h : foundQ L k.cl = false) : (putK L k).length = L.length + 1 /\ lowQ L k.cl <= L.length /\ ∀ q, q < L.length + 1 -> insF (rwK L) (lowQ L k.cl) (kyC k.cl) q = rwK (putK L k) q := by
 obtain ⟨A, B, rfl, hA, hB⟩ := sk_split hs k
 have hl : lowQ (A ++ B) k.cl = A.length := by
  unfold lowQ
  rw [List.countP_append, List.countP_eq_length.2 (fun a ha => by rw [Ky.lt_cl2]; exact hA a ha), List.countP_eq_zero.2 (fun b hb => by rw [Ky.lt_cl2, hB b hb]; exact Bool.false_ne_true)]
  rfl
 have hne : ∀ b, b ∈ B -> b ≠ k.cl := by
  intro b hb e
  subst e
  have hlt : ∀ c, c ∈ B -> c ≠ k.cl -> True := fun _ _ _ => trivial
  cases B with
  | nil => cases hb
  | cons c B =>
    have hcb : atK (A ++ c :: B) A.length = c := by unfold atK; rw [List.getD_eq_getElem?_getD, List.getElem?_append_right (Nat.le_refl _)]; simp
    have hcc : c.cl = c := hs.2 c (by simp)
    have hc : c = k.cl := by
     rcases List.mem_cons.1 hb with h | h
     . exact h.symm
     . have hp := (List.pairwise_append.1 hs.1).2.1
       have h3 := (List.pairwise_cons.1 hp).1 _ h
       rw [Ky.lt_cl2, hB c (by simp)] at h3; cases h3
    unfold foundQ at h
    rw [hl, hcb, hcc, Ky.cl_cl, hc] at h
    simp at h
 have hp : putK (A ++ B) k = A ++ k.cl :: B := by rw [put_split hA hB, filt_ne hne]
 refine ⟨by rw [hp]; simp; omega, by rw [hl]; simp, fun q hq => ?_⟩
 rw [hl, hp]
 unfold insF
 show _ = kyC (atK (A ++ k.cl :: B) q)
 split
 . rename_i h1
   show kyC (atK (A ++ B) q) = _
   unfold atK
   rw [List.getD_eq_getElem?_getD, List.getElem?_append_left h1, List.getD_eq_getElem?_getD, List.getElem?_append_left h1]
 . split
   . rename_i h1 h2
     subst h2
     unfold atK
     rw [List.getD_eq_getElem?_getD, List.getElem?_append_right (Nat.le_refl _)]; simp
   . rename_i h1 h2
     show kyC (atK (A ++ B) (q - 1)) = _
     unfold atK
     rw [List.getD_eq_getElem?_getD, List.getElem?_append_right (by omega), List.getD_eq_getElem?_getD, List.getElem?_append_right (by omega)]
     obtain ⟨d, hd⟩ : ∃ d, q - A.length = d + 1 := ⟨q - A.length - 1, by omega⟩
     rw [hd, show q - 1 - A.length = d by omega]; rfl
end Go.Proofs.YtbjfogojoalnpaaGreat
namespace Go.Proofs.YtbjfogojoalnpaaGreat
open Go.Sx
open Go.RowKit Go.Lib Go.Sort
def kTm (k : Ky) : Tm := .va (.agg [.d (st k.name), .d (it k.node)])
def kEs (LL : List (List Ky)) : List Tm := LL.flatten.map fun k => kTm k.cl
theorem kEs_at {LL : List (List Ky)} {i : Nat} {e : Tm} (h : (kEs LL)[i]? = some e) : ∃ k, LL.flatten[i]? = some k /\ e = kTm k.cl := by
 unfold kEs at h
 rw [List.getElem?_map] at h
 obtain ⟨k, h1, h2⟩ := Option.map_eq_some_iff.1 h
 exact ⟨k, h1, h2.symm⟩
theorem kEs_rep {P : Program} {LL : List (List Ky)} (i : Nat) (e : Tm) (v : Value) (h : (kEs LL)[i]? = some e) (hv : (kAll LL)[i]? = some v) (ψ : Psi) (S : Nat -> Prop) (w : World) : RepT P ψ S w e v := by
 obtain ⟨k, h1, rfl⟩ := kEs_at h
 unfold kAll at hv
 rw [List.getElem?_map, h1] at hv
 cases hv
 exact ⟨_, rfl, ⟨.v trivial, trivial⟩, ⟨.v trivial, trivial⟩, trivial⟩
theorem rowT_step {l : List Ky} {i : Nat} {k : Ky} (h : l[i]? = some k) : rowK (l.take (i + 1)) = putK (rowK (l.take i)) k := by
 obtain ⟨hlt, he⟩ := List.getElem?_eq_some_iff.1 h
 rw [List.take_succ_eq_append_getElem hlt, rowK_snoc, he]
theorem lsts1 {L : List Ky} {F : Nat -> List DV} (h0 : F 0 = [lstK L]) (hn : L.length <= 1000000000) (hO : ∀ x, x ∈ L -> rI x.node) : Lsts 1 F [L] :=
 ⟨rfl, fun i hi => by
   obtain rfl : i = 0 := by omega
   exact ⟨_, h0, fun j _ => rfl, hn⟩, fun x hx => hO x (by simpa using hx)⟩
def FRowK : List Ar -> Option Rs
 | [.c (.d (.lst 2 n0 f0))] => some ⟨(n0 <= 1000000000 /\ RowsK n0 f0), .va (.c (.ow 2 (rowK (gKs n0 f0)).length (rwK (rowK (gKs n0 f0))))), []⟩
 | _ => none
theorem fcRowK : FC Tryz.prog 95 FRowK := by
 intro xs pre r us h hp
 unfold FRowK at h
 split at h
 . rename_i n0 f0
   cases h
   have hp0 := hp
   refine FCat.deep (ys := [.c (.d (.lst 2 n0 (rwK (gKs n0 f0))))]) ?_ ?_
   . repeat' (first | exact trivial | exact rfl | exact DvE.refl _ | refine ⟨?_, ?_⟩ | fail)
     all_goals first | exact canonK hp0.2.h
   refine fcat tys_ok (l := [(149, ⟨[true], FBSearchK⟩), (150, ⟨[true, false, true], FInsertK⟩), (87, ⟨[], FKyCmp⟩)]) ⟨fcBSearchK, fcInsertK, fcKyCmp, trivial⟩ Tryz.func95 rfl (by kernel_rfl) false ?_
   have hn := hp0.1
   have hO := rowsK_r hp0.2
   have hlen := gKs_length n0 f0
   generalize gKs n0 f0 = L at *
   clear hp0
   subst hlen
   repeat' (first | exact trivial | refine ⟨?_, ?_⟩ | intro _)
   all_goals first | (with_reducible first | apply qa | apply qb | apply qc | apply qd) | (conv => whnf)
   ((with_reducible show ACall _ _ _ _ _ _); refine inl tys_ok (l := [(149, ⟨[true], FBSearchK⟩), (150, ⟨[true, false, true], FInsertK⟩), (87, ⟨[], FKyCmp⟩)]) ⟨fcBSearchK, fcInsertK, fcKyCmp, trivial⟩ Tryz.func49 rfl (by kernel_rfl) (by kernel_rfl) rfl ?_)
   repeat' (first | exact trivial | refine ⟨?_, ?_⟩ | intro _)
   all_goals first | (with_reducible first | apply qa | apply qb | apply qc | apply qd) | (conv => whnf)
   refine acall_fr ?_
   repeat' (first | exact trivial | refine ⟨?_, ?_⟩ | intro _)
   all_goals first | (with_reducible first | apply qa | apply qb | apply qc | apply qd) | (conv => whnf)
   all_goals first | omega | skip
   refine acall_of_msat tys_ok Tryz.func102 rfl (by kernel_rfl) rfl ?_
   refine MSat.seqA tys_ok (L := [(149, ⟨[true], FBSearchK⟩), (150, ⟨[true, false, true], FInsertK⟩), (87, ⟨[], FKyCmp⟩)]) ⟨fcBSearchK, fcInsertK, fcKyCmp, trivial⟩ (by kernel_rfl) (by kernel_rfl) ?_
   repeat' (first | exact trivial | refine ⟨?_, ?_⟩ | intro _)
   all_goals first | (with_reducible first | apply qa | apply qb | apply qc | apply qd) | (conv => whnf)
   refine MSat.seqA tys_ok (L := [(149, ⟨[true], FBSearchK⟩), (150, ⟨[true, false, true], FInsertK⟩), (87, ⟨[], FKyCmp⟩)]) ⟨fcBSearchK, fcInsertK, fcKyCmp, trivial⟩ (by kernel_rfl) (by kernel_rfl) ?_
   repeat' (first | exact trivial | refine ⟨?_, ?_⟩ | intro _)
   all_goals first | (with_reducible first | apply qa | apply qb | apply qc | apply qd) | (conv => whnf)
   refine MSat.seqB tys_ok (L := [(149, ⟨[true], FBSearchK⟩), (150, ⟨[true, false, true], FInsertK⟩), (87, ⟨[], FKyCmp⟩)]) ⟨fcBSearchK, fcInsertK, fcKyCmp, trivial⟩ (by kernel_rfl) (by kernel_rfl) ?_
   refine MSat.seqA tys_ok (L := [(149, ⟨[true], FBSearchK⟩), (150, ⟨[true, false, true], FInsertK⟩), (87, ⟨[], FKyCmp⟩)]) ⟨fcBSearchK, fcInsertK, fcKyCmp, trivial⟩ (by kernel_rfl) (by kernel_rfl) ?_
   repeat' (first | exact trivial | refine ⟨?_, ?_⟩ | intro _)
   all_goals first | (with_reducible first | apply qa | apply qb | apply qc | apply qd) | (conv => whnf)
   refine MSat.block ?_
   have hLs := lsts1 (F := fun i => Sx.rowAt 1 [DV.lst 2 L.length (rwK L)] (0 + i)) rfl hn hO
   refine MSat.le [0, 1, 2] 1 ?_ (MSat.range tys_ok (L := [(149, ⟨[true], FBSearchK⟩), (150, ⟨[true, false, true], FInsertK⟩), (87, ⟨[], FKyCmp⟩)]) ⟨fcBSearchK, fcInsertK, fcKyCmp, trivial⟩ (by kernel_rfl) 3 (ts := [(7, .va (.c (.fn 97 [(1, 0)]))), (3, .va (.c (.own 2 0)))]) (n := 4) (m := 23) rfl (callable_of Tryz.func97 rfl rfl) (by kernel_rfl) (by kernel_rfl) rfl (kAll [L]) (kEs [L]) kEs_rep (by unfold kEs kAll; rw [List.length_map, List.length_map])
    (fun i => [(2, .cells [.osl 3 2 0 (rowK ([L].flatten.take i)).length]), (3, .row 2 (rowK ([L].flatten.take i)).length (rwK (rowK ([L].flatten.take i)))), (1, .fz [.lst 1 1 fun i => Sx.rowAt 1 [DV.lst 2 L.length (rwK L)] (0 + i)])]) (fun _ => 4) rfl rfl ?_ (by decide) (by decide)
    (fun ψ S w a hr W lb hx hlb => by obtain ⟨p, rfl, h1, h2⟩ := seq_rel rfl rfl hr hx hlb; exact chain_seq hLs (by decide) h1 h2) ?_)
   . repeat' (first | exact trivial | exact rfl | (intro _ h; exact absurd h (Nat.not_lt_zero _)) | (intro _ _; exact rfl) | refine ⟨?_, ?_⟩ | fail)
     all_goals decide
   . intro i e he
     obtain ⟨k, hk, rfl⟩ := kEs_at he
     have hst := rowT_step hk
     have hsk := rowK_sk ([L].flatten.take i)
     have hle := rowK_len ([L].flatten.take i)
     have hrg : ∀ x, x ∈ rowK ([L].flatten.take i) -> rI x.node := rowK_rng (fun x hx => hO x (by simpa using List.mem_of_mem_take hx))
     have hkr : rI k.node := hO k (by have := List.mem_of_getElem? hk; simpa using this)
     have hil : i < L.length := by have := (List.getElem?_eq_some_iff.1 hk).1; simpa using this
     have hkc := Ky.cl_r hkr
     unfold rI at hkr hkc
     rw [List.length_take] at hle
     rw [hst]
     generalize rowK (List.take i [L].flatten) = O at *
     have hRK : RowsK O.length (rwK O) := rowsK_of hrg
     have hO9 : O.length <= 1000000000 := by omega
     have hgs := gKs_row O
     have hs1 := hsk.1
     have hs2 := hsk.2
     cases hfd : foundQ O k.cl with
     | true =>
       rw [put_found hsk hfd]
       refine ⟨[0, 1, 2, 3], 0, ?_⟩
       repeat' (first | exact trivial | refine ⟨?_, ?_⟩ | intro _)
       all_goals first | (with_reducible first | apply qa | apply qb | apply qc | apply qd) | (conv => whnf)
       all_goals (try simp only [hgs])
       all_goals first | (exact absurd ‹(!foundQ _ _) = true› (by rw [hgs]; show ¬ (!foundQ O k.cl) = true; rw [hfd]; decide)) | decide | (show mkFv _ _ _ = mkFv _ _ _; unfold mkFv; rfl) | (with_reducible first | exact hkc.1 | exact hkc.2 | exact hs1 | exact hs2) | (exact hs2 _ (by have h := ‹_ ∈ gKs _ _›; rw [hgs] at h; exact h)) | (with_reducible exact hRK) | omega | (with_reducible rfl) | skip
       all_goals trace_state
     | false =>
       obtain ⟨h1, h2, h3⟩ := put_new hsk hfd
       generalize putK O k = O2 at *
       refine ⟨[0, 1, 2, 6], 0, ?_⟩
       repeat' (first | exact trivial | refine ⟨?_, ?_⟩ | intro _)
       all_goals first | (with_reducible first | apply qa | apply qb | apply qc | apply qd) | (conv => whnf)
       all_goals (try simp only [hgs])
       all_goals first | (exact absurd ‹(!foundQ _ _) = false› (by rw [hgs]; show ¬ (!foundQ O k.cl) = false; rw [hfd]; decide)) | decide | (have h2' : lowQ O ⟨k.cl.name, k.cl.node⟩ <= O.length := h2; omega) | (exact h3 _ (by omega)) | (show mkFv _ _ _ = mkFv _ _ _; unfold mkFv; rfl) | (with_reducible first | exact hkc.1 | exact hkc.2 | exact hs1 | exact hs2) | (exact hs2 _ (by have h := ‹_ ∈ gKs _ _›; rw [hgs] at h; exact h)) | (with_reducible exact hRK) | omega | (with_reducible rfl) | skip
       all_goals trace_state
   . repeat' (first | exact trivial | refine ⟨?_, ?_⟩ | intro _)
     all_goals first | (with_reducible first | apply qa | apply qb | apply qc | apply qd) | (conv => whnf)
     all_goals rw [show List.take (kAll [L]).length [L].flatten = L by simp [kAll]]
     all_goals first | exact Nat.le_refl _ | rfl
 . cases h
end Go.Proofs.YtbjfogojoalnpaaGreat
namespace Go.Proofs.YtbjfogojoalnpaaGreat.Sd
open Go.Sx
theorem rep_atD {P : Program} {base : Nat} {ψ : Psi} {S : Nat -> Prop} {w : World} {st : St} {a : Act} (hrel : Rel P base ψ S w st a) {k ln : Nat} {f : Nat -> List DV} (hb : lookB st.heap k = .row 12 ln f) {b m : Nat} (h1 : ψ k = some (.at b m)) :
 ∃ arr e, w.heap[b]? = some (.cells arr e (0, 0)) /\ arr.size = m := by
 have := hrel.sim.blk k _ h1
 rw [hb] at this
 obtain ⟨arr, e, h2, h3, _⟩ := this
 exact ⟨arr, e, h2, h3⟩
theorem rep_slD {P : Program} {ψ : Psi} {S : Nat -> Prop} {w : World} {k o len : Nat} {c : Cell} {v : Value} (hc : c = .osl k 12 o len \/ ∃ q, c = .osc k 12 o len q) (hl : 0 < len) (h : RepC P ψ S w c v) :
 ∃ b m q off, ψ k = some (.at b m) /\ v = .slice (some ⟨b, off, none⟩) len q /\ 0 < m := by
 rcases hc with rfl | ⟨q, rfl⟩
 . rcases h with ⟨_, h, _⟩ | ⟨b, m, c, off, h1, h2, h3, h4⟩
   . omega
   . obtain ⟨_, h5⟩ := h4 (by omega)
     exact ⟨b, m, c, off, h1, h2, by omega⟩
 . rcases h with ⟨_, h, _⟩ | ⟨b, m, off, h1, h2, h3, h4⟩
   . omega
   . obtain ⟨_, h5⟩ := h4 (by omega)
     exact ⟨b, m, q, off, h1, h2, by omega⟩
theorem acall_overlapsD {base : Nat} {k1 k2 o1 o2 len1 len2 ln1 ln2 : Nat} {f1 f2 : Nat -> List DV} {c1 c2 : Cell} {ts : List (Nat × Tm)} {h : List (Nat × Blk)} {n m : Nat} {K : Tm -> St -> Prop} (hc1 : c1 = .osl k1 12 o1 len1 \/ ∃ q, c1 = .osc k1 12 o1 len1 q) (hc2 : c2 = .osl k2 12 o2 len2 \/ ∃ q, c2 = .osc k2 12 o2 len2 q) (hne : k1 ≠ k2) (hb1 : lookB h k1 = .row 12 ln1 f1) (hb2 : lookB h k2 = .row 12 ln2 f2)
 (hl1 : 0 < len1) (hl2 : 0 < len2) (hk : K (.va (.c (.d (bo false)))) ⟨ts, h, n, m⟩) : ACall Tryz.prog base 88 [.c c1, .c c2] ⟨ts, h, n, m⟩ K := by
 refine ⟨fun ψ S w a vals hrel hvals => ?_⟩
 match vals, hvals with
 | [v1, v2], ⟨hv1, hv2, _⟩ =>
   obtain ⟨b1, m1, q1, off1, p1, rfl, r1⟩ := rep_slD hc1 hl1 hv1
   obtain ⟨b2, m2, q2, off2, p2, rfl, r2⟩ := rep_slD hc2 hl2 hv2
   obtain ⟨a1, e1, s1, u1⟩ := rep_atD hrel (f := f1) (ln := ln1) hb1 p1
   obtain ⟨a2, e2, s2, u2⟩ := rep_atD hrel (f := f2) (ln := ln2) hb2 p2
   have hbb : b1 ≠ b2 := by
    intro e
    subst e
    exact hne (hrel.sim.inj k1 k2 b1 m1 m2 p1 p2 (by show (lookB h k1).live; rw [hb1]; trivial) (by show (lookB h k2).live; rw [hb2]; trivial))
   have key : (callFunc 88 #[.slice (some ⟨b1, off1, none⟩) len1 q1, .slice (some ⟨b2, off2, none⟩) len2 q2]).run Tryz.prog w = .ok (.value (.bool false)) w := by
    rw [run_callFunc_extern (fn := Tryz.f88) (by kernel_rfl) (by kernel_rfl) (by kernel_rfl) (by kernel_rfl) (e := Extern.SlicesOverlaps.overlaps #[36, 36] #[4]) (by kernel_rfl),
     Lib.run_overlaps_apart w 36 4 67 (by kernel_rfl) 12 (fun w => by kernel_rfl) ⟨b1, off1, none⟩ ⟨b2, off2, none⟩ len1 q1 len2 q2 hbb e1 e2 a1.size a2.size
      (by simp [World.shape?, s1]) (by simp [World.shape?, s2]) (by omega) (by simp [World.frozen?, s1]) (by simp [World.frozen?, s1])]
    rfl
   exact .inr ⟨_, _, key, _, _, _, ψ, S, rfl, hk, hrel, .v trivial, Ext.refl _ _ _ _⟩
def insF (G : Nat -> List DV) (i : Nat) (x : List DV) : Nat -> List DV := fun k => if k < i then G k else if k = i then x else G (k - 1)
def FInsertD : List Ar -> Option Rs
 | [.c (.ow 12 n0 f0), .c (.d (.v (.int .i64 i1))), .c (.ow 12 n2 f2)] => some ⟨(n0 <= 1000000000) /\ (-9223372036854775808 <= i1 /\ i1 < 9223372036854775808) /\ (n2 <= 1000000000) /\ ((0 <= i1 /\ i1 <= n0) /\ n2 = 1), .va (.c (.ow 12 (n0 + 1) (insF f0 (i1).toNat (f2 0)))), [none, some f2]⟩
 | _ => none
theorem fcInsertD : FC Tryz.prog 44 FInsertD := by
 intro xs pre r us h hp
 unfold FInsertD at h
 split at h
 . rename_i n0 f0 i1 n2 f2
   cases h
   obtain ⟨hp0, hp1, hp2, hp3⟩ := hp
   refine fcatc tys_ok (l := []) trivial Tryz.func44 rfl (by kernel_rfl) false ?_
   obtain ⟨⟨ha, hb⟩, rfl⟩ := hp3
   obtain ⟨i, rfl⟩ := Int.eq_ofNat_of_zero_le ha
   have hn := hp0
   clear hp0 hp2
   generalize f0 = G at *
   generalize f2 = X at *
   simp only [Int.toNat_natCast] at *
   repeat' (first | exact trivial | refine ⟨?_, ?_⟩ | intro _)
   all_goals first | (with_reducible first | apply qa | apply qb | apply qc | apply qd) | (conv => whnf)
   all_goals (have hcap := ‹capLe _ _›; simp only [capLe] at hcap)
   all_goals first | omega | (exact absurd (eq_of_beq ‹(((1 : Nat) : Int) == 0) = true›) (by decide)) | skip
   all_goals (have hw1 : IntKind.wrap .i64 ((n0 : Int) + ((1 : Nat) : Int)) = (n0 : Int) + 1 := by rw [wI_id _ (by omega) (by omega)]; rfl)
   all_goals (have hw2 : IntKind.wrap .i64 ((i : Int) + ((1 : Nat) : Int)) = (i : Int) + 1 := by rw [wI_id _ (by omega) (by omega)]; rfl)
   all_goals (have hw3 : IntKind.wrap .i64 (IntKind.wrap .i64 ((n0 : Int) + ((1 : Nat) : Int)) - (i : Int)) = (n0 : Int) + 1 - i := by rw [hw1, wI_id _ (by omega) (by omega)])
   all_goals first | (have hin := eq_of_beq ‹((i : Int) == (n0 : Int)) = true›) | (have hin := ne_of_beq_false ‹((i : Int) == (n0 : Int)) = false›) | skip
   all_goals first | (have hgt := of_decide_eq_true ‹decide (_ > (_ : Int)) = true›) | (have hgt := of_decide_eq_false ‹decide (_ > (_ : Int)) = false›) | skip
   all_goals (simp only [hw3, hw1, hw2] at *)
   all_goals first | omega | skip
   all_goals first | (rename_i k hk; simp only [cpyRow, appRow, insF]; (repeat' split); all_goals first | (exfalso; omega) | exact (congrArg X (by omega)) | exact (congrArg G (by omega))) | skip
   apply acall_overlapsD
   . exact .inl rfl
   . exact .inr ⟨_, rfl⟩
   . decide
   . exact rfl
   . exact rfl
   . decide
   . omega
   have hw4 : IntKind.wrap .i64 ((i : Int) + ((1 : Nat) : Int)) = (i : Int) + 1 := by rw [wI_id _ (by omega) (by omega)]; rfl
   repeat' (first | exact trivial | refine ⟨?_, ?_⟩ | intro _)
   all_goals first | (with_reducible first | apply qa | apply qb | apply qc | apply qd) | (conv => whnf)
   all_goals first | (exact absurd ‹(!false) = false› (by decide)) | skip
   all_goals (try simp only [hw4])
   all_goals first | omega | (rename_i k hk; simp only [cpyRow, appRow, insF]; (repeat' split); all_goals first | (exfalso; omega) | exact (congrArg X (by omega)) | exact (congrArg G (by omega)))
 . cases h
end Go.Proofs.YtbjfogojoalnpaaGreat.Sd
namespace Go.Sx
def fmC (ρ : Nat -> Nat) : Cell -> Cell
 | .own k off => .own (ρ k) off
 | .osl k sz o len => .osl (ρ k) sz o len
 | .osc k sz o len c => .osc (ρ k) sz o len c
 | .ep k sz i off => .ep (ρ k) sz i off
 | .ap k b n i => .ap (ρ k) b n i
 | .fn f caps => .fn f (caps.map fun p => (ρ p.1, p.2))
 | .mp k => .mp (ρ k)
 | .fb f k off => .fb f (ρ k) off
 | c => c
def fmVa (ρ : Nat -> Nat) : Va -> Va
 | .c x => .c (fmC ρ x)
 | .agg cs => .agg (cs.map (fmC ρ))
def fmT (ρ : Nat -> Nat) : Tm -> Tm
 | .va x => .va (fmVa ρ x)
 | .tup xs => .tup (xs.map (fmVa ρ))
def fmB (ρ : Nat -> Nat) : Blk -> Blk
 | .cells cs => .cells (cs.map (fmC ρ))
 | .map es bc => .map (es.map fun p => (p.1, fmVa ρ p.2)) bc
 | b => b
def backN (ids : List Nat) (b n j : Nat) : Nat := match Nat.blt j b with
 | true => ids.getD j 0
 | false => n + (j - b)
def backH (ρ : Nat -> Nat) (h1 : List (Nat × Blk)) (ids : List Nat) (h : List (Nat × Blk)) : List (Nat × Blk) := h1.map (fun p => (ρ p.1, fmB ρ p.2)) ++ (ids.map (fun k => (k, Blk.gone)) ++ h)
def vasLe (ids : List Nat) (nv : Nat) : List Va -> List Va -> Prop
 | [], [] => True
 | x :: xs, y :: ys => vaLe ids nv x y /\ vasLe ids nv xs ys
 | _, _ => False
def liveB : Blk -> Bool
 | .cells _ => true
 | .row _ _ _ => true
 | .it _ _ => true
 | .map _ _ => true
 | _ => false
def keepB : Blk -> Bool
 | .fz _ => true
 | .fzr _ _ _ => true
 | b => liveB b
theorem live_fm {ρ : Nat -> Nat} {b : Blk} (h : (fmB ρ b).live) : b.live := by cases b <;> exact h
section
variable {P : Program} {ψ ψ1 ψ2 : Psi} {S S' : Nat → Prop} {w w' : World} {ρ : Nat → Nat}
theorem vasLe_rep {ids : List Nat} {nv : Nat} : ∀ {xs ys : List Va} {vs : List Value}, vasLe ids nv xs ys -> All2 (RepVa P ψ S w) xs vs -> All2 (RepVa P (psiRen ψ ids nv) S w) ys vs
 | [], [], [], _, _ => trivial
 | [], [], _ :: _, _, h => h.elim
 | [], _ :: _, _, h, _ => h.elim
 | _ :: _, [], _, h, _ => h.elim
 | _ :: _, _ :: _, [], _, h => h.elim
 | _ :: _, _ :: _, _ :: _, ⟨h1, h2⟩, ⟨g1, g2⟩ => ⟨vaLe_rep h1 g1, vasLe_rep h2 g2⟩
theorem fmC_rep (hρ : ∀ j l, ψ1 j = some l -> ψ2 (ρ j) = some l) {c : Cell} {x : Value} (h : RepC P ψ1 S w c x) : RepC P ψ2 S w (fmC ρ c) x := by
 cases c with
 | own k off => obtain ⟨b, m, h1, h2⟩ := h; exact ⟨b, m, hρ _ _ h1, h2⟩
 | osl k sz o len =>
   rcases h with ⟨h1, h2⟩ | ⟨b, m, c, off, h1, h2⟩
   . exact .inl ⟨hρ _ _ h1, h2⟩
   . exact .inr ⟨b, m, c, off, hρ _ _ h1, h2⟩
 | osc k sz o len c =>
   rcases h with ⟨h1, h2⟩ | ⟨b, m, off, h1, h2⟩
   . exact .inl ⟨hρ _ _ h1, h2⟩
   . exact .inr ⟨b, m, off, hρ _ _ h1, h2⟩
 | ep k sz i off => obtain ⟨b, m, h1, h2⟩ := h; exact ⟨b, m, hρ _ _ h1, h2⟩
 | ap k base n i => obtain ⟨b, m, h1, h2⟩ := h; exact ⟨b, m, hρ _ _ h1, h2⟩
 | mp k => obtain ⟨b, m, h1, h2⟩ := h; exact ⟨b, m, hρ _ _ h1, h2⟩
 | fb f k off => obtain ⟨b, m, h1, h2⟩ := h; exact ⟨b, m, hρ _ _ h1, h2⟩
 | fn f caps =>
   obtain ⟨vs, h1, h2⟩ := h
   exact ⟨vs, h1, All2.map_left (fun p : Nat × Nat => (ρ p.1, p.2)) (fun p y ⟨b, m, a, c⟩ => ⟨b, m, hρ _ _ a, c⟩) h2⟩
 | top => exact h
 | und => exact h
 | kb b => exact h
 | d y => exact h
 | rp cs => exact h
 | fv g => exact h
theorem fmVa_rep (hρ : ∀ j l, ψ1 j = some l -> ψ2 (ρ j) = some l) {c : Va} {x : Value} (h : RepVa P ψ1 S w c x) : RepVa P ψ2 S w (fmVa ρ c) x := by
 cases c with
 | c x => exact fmC_rep hρ h
 | agg cs => obtain ⟨arr, h1, h2⟩ := h; exact ⟨arr, h1, All2.map_left (fmC ρ) (fun c y g => ⟨fmC_rep hρ g.1, g.2⟩) h2⟩
theorem fmT_rep (hρ : ∀ j l, ψ1 j = some l -> ψ2 (ρ j) = some l) {c : Tm} {x : Value} (h : RepT P ψ1 S w c x) : RepT P ψ2 S w (fmT ρ c) x := by
 cases c with
 | va x => exact fmVa_rep hρ h
 | tup cs => obtain ⟨arr, h1, h2⟩ := h; exact ⟨arr, h1, All2.map_left (fmVa ρ) (fun c y g => fmVa_rep hρ g) h2⟩
theorem fmB_rep (hρ : ∀ j l, ψ1 j = some l -> ψ2 (ρ j) = some l) {b : Blk} {l : Loc} (h : BlkRep P ψ1 S w b l) : BlkRep P ψ2 S w (fmB ρ b) l := by
 cases b with
 | cells cs =>
   cases l with
   | virt => exact h.elim
   | «at» b m => obtain ⟨arr, e, h1, h2⟩ := h; exact ⟨arr, e, h1, All2.map_left (fmC ρ) (fun c y g => ⟨fmC_rep hρ g.1, g.2⟩) h2⟩
 | row sz n f => cases l <;> exact h
 | fz cs => cases l <;> exact h
 | fzr sz n f => cases l <;> exact h
 | it s p => cases l <;> exact h
 | map es bc =>
   cases l with
   | virt => exact h.elim
   | «at» b m => obtain ⟨arr, c, h1, h0, h2⟩ := h; exact ⟨arr, c, h1, h0, All2.map_left (fun p : List Value × Va => (p.1, fmVa ρ p.2)) (fun p e g => ⟨g.1, fmVa_rep hρ g.2⟩) h2⟩
 | gone => cases l <;> trivial
theorem lookB_hit {k : Nat} {c : List (Nat × Blk)} : ∀ {a : List (Nat × Blk)}, (a.any fun p => Nat.beq p.1 k) = true -> lookB (a ++ c) k = lookB a k
 | [], h => by cases h
 | (i, b) :: a, h => by
   simp only [List.cons_append, lookB]
   cases hb : Nat.beq i k with
   | true => rfl
   | false =>
     simp only [List.any_cons, hb, Bool.false_or] at h
     exact lookB_hit h
theorem lookB_miss {k : Nat} {c : List (Nat × Blk)} : ∀ {a : List (Nat × Blk)}, (a.any fun p => Nat.beq p.1 k) = false -> lookB (a ++ c) k = lookB c k
 | [], _ => rfl
 | (i, b) :: a, h => by
   simp only [List.any_cons, Bool.or_eq_false_iff] at h
   simp only [List.cons_append, lookB, h.1]
   exact lookB_miss h.2
theorem lookB_fm (hi : ∀ i j, ρ i = ρ j -> i = j) (j : Nat) : ∀ {a : List (Nat × Blk)}, lookB (a.map fun p => (ρ p.1, fmB ρ p.2)) (ρ j) = fmB ρ (lookB a j)
 | [] => rfl
 | (i, b) :: a => by
   simp only [List.map_cons, lookB]
   cases hb : Nat.beq i j with
   | true => have := Nat.eq_of_beq_eq_true hb; subst this; rw [Nat.beq_refl]
   | false =>
     have : Nat.beq (ρ i) (ρ j) = false := by
      cases h2 : Nat.beq (ρ i) (ρ j) with
      | false => rfl
      | true => have := hi i j (Nat.eq_of_beq_eq_true h2); subst this; rw [Nat.beq_refl] at hb; cases hb
     rw [this]
     exact lookB_fm hi j
theorem any_fm {k : Nat} : ∀ {a : List (Nat × Blk)}, ((a.map fun p => (ρ p.1, fmB ρ p.2)).any fun p => Nat.beq p.1 k) = true -> ∃ j, k = ρ j
 | [], h => by cases h
 | (i, b) :: a, h => by
   simp only [List.map_cons, List.any_cons, Bool.or_eq_true] at h
   rcases h with h | h
   . exact ⟨i, (Nat.eq_of_beq_eq_true h).symm⟩
   . exact any_fm h
theorem lookB_gone {k : Nat} {h : List (Nat × Blk)} : ∀ {ids : List Nat}, k ∈ ids -> lookB (ids.map (fun k => (k, Blk.gone)) ++ h) k = .gone
 | [], h => by cases h
 | i :: ids, hk => by
   simp only [List.map_cons, List.cons_append, lookB]
   cases hb : Nat.beq i k with
   | true => rfl
   | false =>
     rcases List.mem_cons.1 hk with e | e
     . subst e; rw [Nat.beq_refl] at hb; cases hb
     . exact lookB_gone e
theorem lookB_rest {k : Nat} {h : List (Nat × Blk)} : ∀ {ids : List Nat}, k ∉ ids -> lookB (ids.map (fun k => (k, Blk.gone)) ++ h) k = lookB h k
 | [], _ => rfl
 | i :: ids, hk => by
   rw [List.mem_cons, not_or] at hk
   simp only [List.map_cons, List.cons_append, lookB]
   cases hb : Nat.beq i k with
   | true => exact absurd (Nat.eq_of_beq_eq_true hb).symm hk.1
   | false => exact lookB_rest hk.2
end
theorem frame_back {P : Program} {base b n m nv l1 n1' : Nat} {ids : List Nat} {ts ts1 : List (Nat × Tm)} {h h1' : List (Nat × Blk)} {ψ ψ1 : Psi} {S S' : Nat -> Prop} {w w' : World} {a a1 : Act} (hrel : Rel P base ψ S w ⟨ts, h, n, m⟩ a)
 (hi : idsOk 0 ids = true) (hb : b <= ids.length) (hid : idsBelow h n = true) (hlt : (ids.all fun k => Nat.blt k n) = true) (hlive : (ids.all fun k => keepB (lookB h k)) = true)
 (hr' : Rel P b ψ1 S' w' ⟨ts1, h1', n1', l1⟩ a1) (he : Ext b (psiRen ψ ids nv) S w ψ1 S' w') :
 ∃ ψ2, Sim P ψ2 S' w' (backH (backN ids b n) h1' ids h) (n + (n1' - b)) /\ PsiSub ψ ψ2 /\ (∀ j l, ψ1 j = some l -> ψ2 (backN ids b n j) = some l) /\ Ext base ψ S w ψ2 S' w' := by
 obtain ⟨_, _, i3⟩ := idsOk_spec hi
 have hdom : ∀ k l, ψ k = some l -> k < n := fun k l hk => by
  rcases Nat.lt_or_ge k n with h1 | h1
  . exact h1
  . have := hrel.sim.dom k h1
    rw [hk] at this; cases this
 have hltn : ∀ k, k ∈ ids -> k < n := fun k hk => by have := List.all_eq_true.1 hlt k hk; simpa [Nat.blt_eq] using this
 have hlv : ∀ k, k ∈ ids -> ∀ b0 m0, ψ k = some (.at b0 m0) -> (lookB h k).live \/ S b0 := fun k hk b0 m0 e => by
  have h0 := List.all_eq_true.1 hlive k hk
  have hbr := hrel.sim.blk k _ e
  simp only at hbr
  cases hq : lookB h k with
  | gone => rw [hq] at h0; cases h0
  | fz cs => rw [hq] at hbr; exact .inr hbr.1
  | fzr sz n f => rw [hq] at hbr; exact .inr hbr.1
  | _ => exact .inl trivial
 obtain ⟨ρ, hρ⟩ : ∃ ρ, ρ = backN ids b n := ⟨_, rfl⟩
 have r1 : ∀ j, j < b -> ids[j]? = some (ρ j) := fun j hj => by
  have h2 : Nat.blt j b = true := by rw [Nat.blt_eq]; exact hj
  rw [hρ]; unfold backN; rw [h2, List.getD_eq_getElem?_getD, List.getElem?_eq_getElem (by omega)]; rfl
 have r2 : ∀ j, b <= j -> ρ j = n + (j - b) := fun j hj => by
  have h2 : Nat.blt j b = false := by
   cases hq : Nat.blt j b with
   | false => rfl
   | true => rw [Nat.blt_eq] at hq; omega
  rw [hρ]; unfold backN; rw [h2]
 have r3 : ∀ j, j < b -> ρ j < n := fun j hj => hltn _ (List.mem_of_getElem? (r1 j hj))
 have rinj : ∀ i j, ρ i = ρ j -> i = j := fun i j e => by
  rcases Nat.lt_or_ge i b with h1 | h1
  . rcases Nat.lt_or_ge j b with h2 | h2
    . exact i3 i j _ (r1 i h1) (e ▸ r1 j h2)
    . have := r3 i h1; have := r2 j h2; omega
  . rcases Nat.lt_or_ge j b with h2 | h2
    . have := r3 j h2; have := r2 i h1; omega
    . have := r2 i h1; have := r2 j h2; omega
 obtain ⟨ψ2, hψ2⟩ : ∃ ψ2 : Psi, ψ2 = fun k => if k < n then ψ k else ψ1 (b + (k - n)) := ⟨_, rfl⟩
 have p1 : ∀ k, k < n -> ψ2 k = ψ k := fun k hk => by rw [hψ2]; exact if_pos hk
 have p2 : ∀ k, n <= k -> ψ2 k = ψ1 (b + (k - n)) := fun k hk => by rw [hψ2]; exact if_neg (by omega)
 have pρ : ∀ j, ψ2 (ρ j) = ψ1 j := fun j => by
  rcases Nat.lt_or_ge j b with h1 | h1
  . rw [p1 _ (r3 j h1), he.agr j h1, psiRen_some (r1 j h1)]
  . rw [r2 j h1, p2 _ (by omega)]; congr 1; omega
 have sub : PsiSub ψ ψ2 := fun k l hk => by rw [p1 k (hdom k l hk)]; exact hk
 have hren : ∀ j l, ψ1 j = some l -> ψ2 (ρ j) = some l := fun j l hj => by rw [pρ]; exact hj
 have old1 : ∀ k1 b0 m0, psiRen ψ ids nv k1 = some (.at b0 m0) -> ∃ k2, ids[k1]? = some k2 /\ ψ k2 = some (.at b0 m0) := fun k1 b0 m0 hk => by
  unfold psiRen at hk
  split at hk
  . rename_i k2 e; exact ⟨k2, e, hk⟩
  . split at hk <;> cases hk
 have alias : ∀ k b0 m0, k ∉ ids -> ψ k = some (.at b0 m0) -> (lookB h k).live -> ∀ k1 m1, psiRen ψ ids nv k1 ≠ some (.at b0 m1) := fun k b0 m0 hn hk hl k1 m1 h1 => by
  obtain ⟨k2, e, h2⟩ := old1 _ _ _ h1
  have hm := List.mem_of_getElem? e
  rcases hlv _ hm _ _ h2 with g | g
  . have := hrel.sim.inj k k2 b0 m0 m1 hk h2 hl g
    exact hn (this ▸ hm)
  . exact hrel.sim.dis k b0 m0 hk hl g
 have cls : ∀ k, (∃ j, k = ρ j /\ lookB (backH ρ h1' ids h) k = fmB ρ (lookB h1' j)) \/ lookB (backH ρ h1' ids h) k = .gone \/ (k < n /\ k ∉ ids /\ lookB (backH ρ h1' ids h) k = lookB h k) := fun k => by
  unfold backH
  cases ha : ((h1'.map fun p => (ρ p.1, fmB ρ p.2)).any fun p => Nat.beq p.1 k) with
  | true =>
    obtain ⟨j, rfl⟩ := any_fm ha
    exact .inl ⟨j, rfl, by rw [lookB_hit ha, lookB_fm rinj]⟩
  | false =>
    rw [lookB_miss ha]
    by_cases hm : k ∈ ids
    . exact .inr (.inl (lookB_gone hm))
    . rw [lookB_rest hm]
      rcases Nat.lt_or_ge k n with h1 | h1
      . exact .inr (.inr ⟨h1, hm, rfl⟩)
      . exact .inr (.inl (idsBelow_look hid h1))
 have keep : ∀ k b0 m0, k ∉ ids -> ψ k = some (.at b0 m0) -> (lookB h k).live -> w'.heap[b0]? = w.heap[b0]? := fun k b0 m0 hn hk hl => he.old b0 (hrel.sim.pdom k b0 m0 hk) (alias k b0 m0 hn hk hl)
 have hsim : Sim P ψ2 S' w' (backH ρ h1' ids h) (n + (n1' - b)) := by
  refine ⟨fun k hk => ?_, fun k l hk => ?_, fun k k' b0 m0 m1 e1 e2 l1 l2 => ?_, fun k b0 m0 e1 l1 => ?_, fun k b0 m0 e1 => ?_, hr'.sim.sdom⟩
  . rw [p2 k (by omega)]; exact hr'.sim.dom _ (by show n1' <= _; omega)
  . rcases cls k with ⟨j, rfl, g⟩ | g | ⟨g1, g2, g⟩
    . rw [g]; rw [pρ] at hk
      exact fmB_rep hren (hr'.sim.blk j l hk)
    . rw [g]; cases l <;> trivial
    . rw [g]; rw [p1 k g1] at hk
      have hbr := hrel.sim.blk k l hk
      cases hlk : lookB h k with
      | gone => cases l <;> trivial
      | cells cs => rw [hlk] at hbr; exact hbr.later sub he.later fun b0 m0 e => by subst e; exact keep k b0 m0 g2 hk (by rw [hlk]; trivial)
      | row sz n f => rw [hlk] at hbr; exact hbr.later sub he.later fun b0 m0 e => by subst e; exact keep k b0 m0 g2 hk (by rw [hlk]; trivial)
      | it s p => rw [hlk] at hbr; exact hbr.later sub he.later fun b0 m0 e => by subst e; exact keep k b0 m0 g2 hk (by rw [hlk]; trivial)
      | map es bc => rw [hlk] at hbr; exact hbr.later sub he.later fun b0 m0 e => by subst e; exact keep k b0 m0 g2 hk (by rw [hlk]; trivial)
      | fz cs => rw [hlk] at hbr; exact hbr.later sub he.later fun b0 m0 e => by subst e; exact he.later.2 _ hbr.1
      | fzr sz n f => rw [hlk] at hbr; exact hbr.later sub he.later fun b0 m0 e => by subst e; exact he.later.2 _ hbr.1
  . rcases cls k with ⟨j, rfl, g⟩ | g | ⟨g1, g2, g⟩
    . rw [g] at l1; rw [pρ] at e1
      rcases cls k' with ⟨j', rfl, g'⟩ | g' | ⟨g1', g2', g'⟩
      . rw [g'] at l2; rw [pρ] at e2
        rw [hr'.sim.inj j j' b0 m0 m1 e1 e2 (live_fm l1) (live_fm l2)]
      . rw [g'] at l2; exact l2.elim
      . rw [g'] at l2; rw [p1 _ g1'] at e2
        rcases he.newP j b0 m0 e1 with ⟨k1, m2, h2⟩ | h2
        . exact absurd h2 (alias k' b0 m1 g2' e2 l2 k1 m2)
        . have := hrel.sim.pdom k' b0 m1 e2; omega
    . rw [g] at l1; exact l1.elim
    . rw [g] at l1; rw [p1 _ g1] at e1
      rcases cls k' with ⟨j', rfl, g'⟩ | g' | ⟨g1', g2', g'⟩
      . rw [pρ] at e2
        rcases he.newP j' b0 m1 e2 with ⟨k1, m2, h2⟩ | h2
        . exact absurd h2 (alias k b0 m0 g2 e1 l1 k1 m2)
        . have := hrel.sim.pdom k b0 m0 e1; omega
      . rw [g'] at l2; exact l2.elim
      . rw [g'] at l2; rw [p1 _ g1'] at e2
        exact hrel.sim.inj k k' b0 m0 m1 e1 e2 l1 l2
  . rcases cls k with ⟨j, rfl, g⟩ | g | ⟨g1, g2, g⟩
    . rw [g] at l1; rw [pρ] at e1
      exact hr'.sim.dis j b0 m0 e1 (live_fm l1)
    . rw [g] at l1; exact l1.elim
    . rw [g] at l1; rw [p1 _ g1] at e1
      intro hS
      rcases he.newS b0 hS with h2 | ⟨k1, m2, h2⟩ | h2
      . exact hrel.sim.dis k b0 m0 e1 l1 h2
      . exact alias k b0 m0 g2 e1 l1 k1 m2 h2
      . have := hrel.sim.pdom k b0 m0 e1; omega
  . rcases Nat.lt_or_ge k n with h2 | h2
    . rw [p1 k h2] at e1
      exact Nat.lt_of_lt_of_le (hrel.sim.pdom k b0 m0 e1) he.grow
    . rw [p2 k h2] at e1
      exact hr'.sim.pdom _ b0 m0 e1
 rw [hρ] at hsim hren
 refine ⟨ψ2, hsim, sub, hren, ?_⟩
 refine ⟨he.os, he.tape, he.output, he.grow, fun b0 hb0 hn => he.old b0 hb0 fun k m0 h2 => ?_, he.later, fun b0 hS => ?_, fun k b0 m0 h2 => ?_, fun k hk => p1 k (Nat.lt_of_lt_of_le hk hrel.bas)⟩
 . obtain ⟨k2, _, h3⟩ := old1 _ _ _ h2
   exact hn k2 m0 h3
 . rcases he.newS b0 hS with h2 | ⟨k1, m2, h2⟩ | h2
   . exact .inl h2
   . obtain ⟨k2, _, h3⟩ := old1 _ _ _ h2
     exact .inr (.inl ⟨k2, m2, h3⟩)
   . exact .inr (.inr h2)
 . rcases Nat.lt_or_ge k n with h3 | h3
   . rw [p1 k h3] at h2; exact .inl ⟨k, m0, h2⟩
   . rw [p2 k h3] at h2
     rcases he.newP _ b0 m0 h2 with ⟨k1, m2, h4⟩ | h4
     . obtain ⟨k2, _, h5⟩ := old1 _ _ _ h4
       exact .inl ⟨k2, m2, h5⟩
     . exact .inr h4
theorem ACall.frame {P : Program} {base f b n m nv : Nat} {vas vas1 : List Va} (ids : List Nat) {ts : List (Nat × Tm)} {h h1 : List (Nat × Blk)} {K K1 : Tm -> St -> Prop}
 (hi : idsOk 0 ids = true) (hh : heapLe ids nv h h1) (hv : vasLe ids nv vas vas1) (hb : Nat.ble b ids.length = true) (hid : idsBelow h n = true) (hlt : (ids.all fun k => Nat.blt k n) = true) (hlive : (ids.all fun k => keepB (lookB h k)) = true)
 (hk : ACall P b f vas1 ⟨[], h1, ids.length + nv, 0⟩ K1)
 (hK : ∀ r ts1 h1' n1' l1, K1 r ⟨ts1, h1', n1', l1⟩ -> K (fmT (backN ids b n) r) ⟨ts, backH (backN ids b n) h1' ids h, n + (n1' - b), m⟩) : ACall P base f vas ⟨ts, h, n, m⟩ K := by
 refine ⟨fun ψ S w a vals hrel hvals => ?_⟩
 have hb := Nat.le_of_ble_eq_true hb
 have hrel0 : Rel P 0 ψ S w ⟨[], h, n, 0⟩ { tmps := #[], defers := [] } := ⟨Nat.zero_le _, hrel.sim, rfl, rfl, fun t => trivial⟩
 have hle : leSt 0 ids nv ⟨[], h, n, 0⟩ ⟨[], h1, ids.length + nv, 0⟩ := ⟨rfl, rfl, hi, trivial, hh⟩
 obtain ⟨hr1, _⟩ := Rel.le hle hrel0
 have hr1b : Rel P b (psiRen ψ ids nv) S w ⟨[], h1, ids.length + nv, 0⟩ { tmps := #[], defers := [] } := ⟨by show b <= ids.length + nv; omega, hr1.sim, hr1.lim, hr1.defers, hr1.tmps⟩
 refine (hk.run _ S w _ vals hr1b (vasLe_rep hv hvals)).mono ?_
 rintro e w' ⟨r, ⟨ts1, h1', n1', l1⟩, v, ψ1, S', rfl, hK1, hr', hrt, he⟩
 obtain ⟨ψ2, q1, q2, q3, q4⟩ := frame_back hrel hi hb hid hlt hlive hr' he
 exact ⟨fmT _ r, ⟨ts, _, _, m⟩, v, ψ2, S', rfl, hK _ _ _ _ _ hK1, ⟨Nat.le_trans hrel.bas (Nat.le_add_right _ _), q1, hrel.lim, hrel.defers, fun t => (hrel.tmps t).later q2 he.later⟩, fmT_rep q3 hrt, q4⟩
end Go.Sx
