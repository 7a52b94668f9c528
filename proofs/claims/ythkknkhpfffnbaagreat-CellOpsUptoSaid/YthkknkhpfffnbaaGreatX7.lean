/- A side set in. No condition. -/
import Derived.Test.YthkknkhpfffnbaaGreatX6
import Derived.Lib.Overlaps
set_option linter.all false
set_option maxHeartbeats 8000000
set_option maxRecDepth 100000
namespace Go.Proofs.YthkknkhpfffnbaaGreat
open Go.Sx
theorem rep_atD {P : Program} {base : Nat} {ψ : Psi} {S : Nat -> Prop} {w : World} {st : St} {a : Act} (hrel : Rel P base ψ S w st a) {k ln : Nat} {f : Nat -> List DV} (hb : lookB st.heap k = .row 12 ln f) {b m : Nat} (h1 : ψ k = some (.at b m)) :
 ∃ arr e, w.heap[b]? = some (.cells arr e (0, 0)) /\ arr.size = m := by
 have := hrel.sim.blk k _ h1
 rw [hb] at this
 obtain ⟨arr, e, h2, h3, _⟩ := this
 exact ⟨arr, e, h2, h3⟩
theorem rep_slD {P : Program} {ψ : Psi} {S : Nat -> Prop} {w : World} {k o len : Nat} {c : Cell} {v : Value} (hc : c = .osl k 12 o len \/ ∃ q, c = .osc k 12 o len q) (hl : 0 < len) (h : RepC P ψ S w c v) :
 ∃ b m q off, ψ k = some (.at b m) /\ v = .slice (some ⟨b, off, none⟩) len q /\ 0 < m := by
 rcases hc with rfl | ⟨q, rfl⟩
 . rcases h with ⟨_, h, _⟩ | ⟨b, m, c, off, h1, h2, h3, h4⟩
   . omega
   . obtain ⟨_, h5⟩ := h4 (by omega)
     exact ⟨b, m, c, off, h1, h2, by omega⟩
 . rcases h with ⟨_, h, _⟩ | ⟨b, m, off, h1, h2, h3, h4⟩
   . omega
   . obtain ⟨_, h5⟩ := h4 (by omega)
     exact ⟨b, m, q, off, h1, h2, by omega⟩
theorem acall_overlapsD {base : Nat} {k1 k2 o1 o2 len1 len2 ln1 ln2 : Nat} {f1 f2 : Nat -> List DV} {c1 c2 : Cell} {ts : List (Nat × Tm)} {h : List (Nat × Blk)} {n m : Nat} {K : Tm -> St -> Prop} (hc1 : c1 = .osl k1 12 o1 len1 \/ ∃ q, c1 = .osc k1 12 o1 len1 q) (hc2 : c2 = .osl k2 12 o2 len2 \/ ∃ q, c2 = .osc k2 12 o2 len2 q) (hne : k1 ≠ k2) (hb1 : lookB h k1 = .row 12 ln1 f1) (hb2 : lookB h k2 = .row 12 ln2 f2)
 (hl1 : 0 < len1) (hl2 : 0 < len2) (hk : K (.va (.c (.d (bo false)))) ⟨ts, h, n, m⟩) : ACall Tryz.prog base 128 [.c c1, .c c2] ⟨ts, h, n, m⟩ K := by
 refine ⟨fun ψ S w a vals hrel hvals => ?_⟩
 match vals, hvals with
 | [v1, v2], ⟨hv1, hv2, _⟩ =>
   obtain ⟨b1, m1, q1, off1, p1, rfl, r1⟩ := rep_slD hc1 hl1 hv1
   obtain ⟨b2, m2, q2, off2, p2, rfl, r2⟩ := rep_slD hc2 hl2 hv2
   obtain ⟨a1, e1, s1, u1⟩ := rep_atD hrel (f := f1) (ln := ln1) hb1 p1
   obtain ⟨a2, e2, s2, u2⟩ := rep_atD hrel (f := f2) (ln := ln2) hb2 p2
   have hbb : b1 ≠ b2 := by
    intro e
    subst e
    exact hne (hrel.sim.inj k1 k2 b1 m1 m2 p1 p2 (by show (lookB h k1).live; rw [hb1]; trivial) (by show (lookB h k2).live; rw [hb2]; trivial))
   have key : (callFunc 128 #[.slice (some ⟨b1, off1, none⟩) len1 q1, .slice (some ⟨b2, off2, none⟩) len2 q2]).run Tryz.prog w = .ok (.value (.bool false)) w := by
    rw [run_callFunc_extern (fn := Tryz.f128) (by kernel_rfl) (by kernel_rfl) (by kernel_rfl) (by kernel_rfl) (e := Extern.SlicesOverlaps.overlaps #[61, 61] #[4]) (by kernel_rfl),
     Lib.run_overlaps_apart w 61 4 70 (by kernel_rfl) 12 (fun w => by kernel_rfl) ⟨b1, off1, none⟩ ⟨b2, off2, none⟩ len1 q1 len2 q2 hbb e1 e2 a1.size a2.size
      (by simp [World.shape?, s1]) (by simp [World.shape?, s2]) (by omega) (by simp [World.frozen?, s1]) (by simp [World.frozen?, s1])]
    rfl
   exact .inr ⟨_, _, key, _, _, _, ψ, S, rfl, hk, hrel, .v trivial, Ext.refl _ _ _ _⟩
def insF (G : Nat -> List DV) (i : Nat) (x : List DV) : Nat -> List DV := fun k => if k < i then G k else if k = i then x else G (k - 1)
def FInsertD : List Ar -> Option Rs
 | [.c (.ow 12 n0 f0), .c (.d (.v (.int .i64 i1))), .c (.ow 12 n2 f2)] => some ⟨(n0 <= 1000000000) /\ (-9223372036854775808 <= i1 /\ i1 < 9223372036854775808) /\ (n2 <= 1000000000) /\ ((0 <= i1 /\ i1 <= n0) /\ n2 = 1), .va (.c (.ow 12 (n0 + 1) (insF f0 (i1).toNat (f2 0)))), [none, some f2]⟩
 | _ => none
theorem fcInsertD : FC Tryz.prog 78 FInsertD := by
 intro xs pre r us h hp
 unfold FInsertD at h
 split at h
 . rename_i n0 f0 i1 n2 f2
   cases h
   obtain ⟨hp0, hp1, hp2, hp3⟩ := hp
   refine fcatc tys_ok (l := []) trivial Tryz.func78 rfl (by kernel_rfl) false ?_
   obtain ⟨⟨ha, hb⟩, rfl⟩ := hp3
   obtain ⟨i, rfl⟩ := Int.eq_ofNat_of_zero_le ha
   have hn := hp0
   clear hp0 hp2
   generalize f0 = G at *
   generalize f2 = X at *
   simp only [Int.toNat_natCast] at *
   repeat' (first | exact trivial | refine ⟨?_, ?_⟩ | intro _)
   all_goals first | (with_reducible first | apply qa | apply qb | apply qc | apply qd) | (conv => whnf)
   all_goals (have hcap := ‹capLe _ _›; simp only [capLe] at hcap)
   all_goals first | omega | (exact absurd (eq_of_beq ‹(((1 : Nat) : Int) == 0) = true›) (by decide)) | skip
   all_goals (have hw1 : IntKind.wrap .i64 ((n0 : Int) + ((1 : Nat) : Int)) = (n0 : Int) + 1 := by rw [wI_id _ (by omega) (by omega)]; rfl)
   all_goals (have hw2 : IntKind.wrap .i64 ((i : Int) + ((1 : Nat) : Int)) = (i : Int) + 1 := by rw [wI_id _ (by omega) (by omega)]; rfl)
   all_goals (have hw3 : IntKind.wrap .i64 (IntKind.wrap .i64 ((n0 : Int) + ((1 : Nat) : Int)) - (i : Int)) = (n0 : Int) + 1 - i := by rw [hw1, wI_id _ (by omega) (by omega)])
   all_goals first | (have hin := eq_of_beq ‹((i : Int) == (n0 : Int)) = true›) | (have hin := ne_of_beq_false ‹((i : Int) == (n0 : Int)) = false›) | skip
   all_goals first | (have hgt := of_decide_eq_true ‹decide (_ > (_ : Int)) = true›) | (have hgt := of_decide_eq_false ‹decide (_ > (_ : Int)) = false›) | skip
   all_goals (simp only [hw3, hw1, hw2] at *)
   all_goals first | omega | skip
   all_goals first | (rename_i k hk; simp only [cpyRow, appRow, insF]; (repeat' split); all_goals first | (exfalso; omega) | exact (congrArg X (by omega)) | exact (congrArg G (by omega))) | skip
   apply acall_overlapsD
   . exact .inl rfl
   . exact .inr ⟨_, rfl⟩
   . decide
   . exact rfl
   . exact rfl
   . decide
   . omega
   have hw4 : IntKind.wrap .i64 ((i : Int) + ((1 : Nat) : Int)) = (i : Int) + 1 := by rw [wI_id _ (by omega) (by omega)]; rfl
   repeat' (first | exact trivial | refine ⟨?_, ?_⟩ | intro _)
   all_goals first | (with_reducible first | apply qa | apply qb | apply qc | apply qd) | (conv => whnf)
   all_goals first | (exact absurd ‹(!false) = false› (by decide)) | skip
   all_goals (try simp only [hw4])
   all_goals first | omega | (rename_i k hk; simp only [cpyRow, appRow, insF]; (repeat' split); all_goals first | (exfalso; omega) | exact (congrArg X (by omega)) | exact (congrArg G (by omega)))
 . cases h
def FNoneC : List Ar -> Option Rs
 | [.agg [.d (.v (.string x0)), .d (.v (.int .i64 i0)), .d (.v (.bool e0)), .d (.lst 9 n0 f0), .d (.v (.bool s0)), .d (.v (.int .i64 l0)), .d (.v (.int .i64 h0)), .d (.v (.bool b0)), .d (.v (.int .i64 m0)), .d (.v (.int .i64 r0)), .d (.v (.bool z0)), .d (.lst 1 p0 g0)]] => some ⟨(rI i0 /\ (n0 <= 1099511627776 /\ RowsOk n0 f0) /\ ((p0 * 16 <= 140737488351232 /\ ∀ i, i < p0 -> g0 i = [st (gT (g0 i))]) /\ Sp.inR ⟨s0, l0, h0⟩ /\ Cg.inR ⟨b0, m0, r0⟩)), .va (.c (.d (bo (Sv.none (Sd.s (⟨⟨x0, i0⟩, ⟨⟨e0, gBs n0 f0⟩, ⟨⟨⟨s0, l0, h0⟩, ⟨b0, m0, r0⟩⟩, ⟨z0, gN p0 g0⟩⟩⟩⟩ : Sd)))))), []⟩
 | _ => none
theorem fcNoneC : FC Tryz.prog 81 FNoneC := by
 intro xs pre r us h hp
 unfold FNoneC at h
 split at h
 . rename_i x0 i0 e0 n0 f0 s0 l0 h0 b0 m0 r0 z0 p0 g0
   cases h
   have hp0 := hp
   refine FCat.deep (ys := [.agg [.d (.v (.string x0)), .d (.v (.int .i64 i0)), .d (.v (.bool e0)), .d (.lst 9 n0 (rwB (gBs n0 f0))), .d (.v (.bool s0)), .d (.v (.int .i64 l0)), .d (.v (.int .i64 h0)), .d (.v (.bool b0)), .d (.v (.int .i64 m0)), .d (.v (.int .i64 r0)), .d (.v (.bool z0)), .d (.lst 1 p0 fun i => [st (gT (g0 i))])]]) ?_ ?_
   . repeat' (first | exact trivial | exact rfl | exact DvE.refl _ | refine ⟨?_, ?_⟩ | fail)
     all_goals first | first | exact canonB hp0.2.1.2.h | (exact .rows fun i hi => by rw [hp0.2.2.1.2 i hi]; exact ⟨rfl, fun j a b ha hb => by have hb : [st (gT (g0 i))][j]? = some b := hb; rw [ha] at hb; cases hb; exact .refl _⟩)
   refine fcat tys_ok (l := [(50, ⟨[], FTNone⟩)]) ⟨fcTNone, trivial⟩ Tryz.func81 rfl (by kernel_rfl) true ?_
   have hp0 := hp0.2
   have hA0 := hp0.1
   have hV0 := hp0.2
   have hvR0 := hV0.2
   simp only [Sp.inR, Cg.inR] at hvR0
   have hL0 := okL_rows hA0.2
   have hn0 := hA0.1
   have hlen0 := gBs_length n0 f0
   generalize gBs n0 f0 = L at *
   clear hA0 hp0
   subst hlen0
   have hrow0 := okL_row hL0
   have hvok0 : okV (⟨⟨⟨s0, l0, h0⟩, ⟨b0, m0, r0⟩⟩, ⟨z0, gN p0 fun i => [st (gT (g0 i))]⟩⟩ : Vl) := ⟨⟨(by rw [gN_length]; exact hV0.1.1), fun _ _ => rfl⟩, hV0.2⟩
   have hcr0 := okL_row (clean_ok (e := ⟨e0, L⟩) hL0)
   have hcl0 : (En.clean ⟨e0, L⟩).binds.length <= L.length := clean_len ⟨e0, L⟩
   repeat' (first | exact trivial | refine ⟨?_, ?_⟩ | intro _)
   all_goals first | (with_reducible first | apply qa | apply qb | apply qc | apply qd) | (conv => whnf)
   all_goals (try simp only [gBs_row, gN_lst] at *)
   all_goals first | exact hrow0 | exact hn0 | exact hV0.1.1 | exact hvR0.1.1 | exact hvR0.1.2 | exact hvR0.2.1 | exact hvR0.2.2 | exact hcr0 | omega | (intro i hi; rfl) | rfl
 . cases h
abbrev gNone : List Cv -> Option Gs := mkFv (sums [(81, ⟨[], FNoneC⟩)]) 81 []
abbrev pN (x : Sd) : Bool := Sv.none x.s
def ixD (p : Sd -> Bool) (L : List Sd) : Int := match L.findIdx? p with
 | some i => i
 | none => -1
theorem atD_get {L : List Sd} {k : Nat} (h : k < L.length) : atD L k = L[k] := by unfold atD; rw [List.getD_eq_getElem?_getD, List.getElem?_eq_getElem h]; rfl
theorem ixD_some {p : Sd -> Bool} {L : List Sd} {i : Nat} (hi : i < L.length) (h1 : ∀ k, k < i -> p (atD L k) = false) (h2 : p (atD L i) = true) : ixD p L = i := by
 unfold ixD
 have : L.findIdx? p = some i := by
  rw [List.findIdx?_eq_some_iff_getElem]
  refine ⟨hi, by rw [<- atD_get hi]; exact h2, fun j hj => ?_⟩
  rw [<- atD_get (by omega), h1 j hj]; exact Bool.false_ne_true
 rw [this]
theorem ixD_none {p : Sd -> Bool} {L : List Sd} (h1 : ∀ k, k < L.length -> p (atD L k) = false) : ixD p L = -1 := by
 unfold ixD
 have : L.findIdx? p = none := by
  rw [List.findIdx?_eq_none_iff]
  intro x hx
  obtain ⟨k, hk, rfl⟩ := mem_atD hx
  exact h1 k hk
 rw [this]
theorem ixD_cases (p : Sd -> Bool) (L : List Sd) : (ixD p L = -1 /\ ∀ k, k < L.length -> p (atD L k) = false) \/ ∃ i, ixD p L = (i : Nat) /\ i < L.length /\ (∀ k, k < i -> p (atD L k) = false) /\ p (atD L i) = true := by
 unfold ixD
 cases h : L.findIdx? p with
 | none =>
   rw [List.findIdx?_eq_none_iff] at h
   exact .inl ⟨rfl, fun k hk => h _ (atD_mem hk)⟩
 | some i =>
   rw [List.findIdx?_eq_some_iff_getElem] at h
   obtain ⟨h1, h2, h3⟩ := h
   refine .inr ⟨i, rfl, h1, fun k hk => ?_, by rw [atD_get h1]; exact h2⟩
   rw [atD_get (by omega)]
   simpa using h3 k hk
theorem seg_atD (L : List Sd) : seg (atD L) 0 L.length = L := by
 apply List.ext_getElem
 . rw [seg_length]; omega
 . intro i h1 h2
   have := seg_getD (g := atD L) (a := 0) (b := L.length) (k := i) (by omega)
   rw [List.getD_eq_getElem?_getD, List.getElem?_eq_getElem h1, Nat.zero_add, atD_get h2] at this
   exact this
theorem filD_len (p : Sd -> Bool) (G : Nat -> Sd) (j : Nat) : ((seg G 0 j).filter p).length <= j := by
 have := List.length_filter_le p (seg G 0 j)
 rw [seg_length] at this; omega
theorem filD_step (p : Sd -> Bool) (G : Nat -> Sd) (j : Nat) : (seg G 0 (j + 1)).filter p = (seg G 0 j).filter p ++ if p (G j) = true then [G j] else [] := by
 rw [seg_snoc G (Nat.zero_le j), List.filter_append]
 congr 1
 cases h : p (G j) <;> simp [List.filter, h]
theorem filD_all {p : Sd -> Bool} {G : Nat -> Sd} {j : Nat} (h : ∀ k, k < j -> p (G k) = true) : (seg G 0 j).filter p = seg G 0 j := by
 rw [List.filter_eq_self]
 intro x hx
 obtain ⟨k, _, hk, rfl⟩ := mem_seg.1 hx
 exact h k hk
theorem row_pushD {G : Nat -> Sd} {L : List Sd} {x : Sd} {i : Nat} {r : List DV} (hi : i = L.length) (hr : r = sdC x) (k : Nat) : setRow (fun k => sdC (put G 0 L k)) i r k = sdC (put G 0 (L ++ [x]) k) := by
 subst hi; subst hr
 rw [setRow_at]
 split
 . rename_i h; subst h
   have := put_mid G 0 L x []
   rw [Nat.zero_add] at this
   rw [this]
 . rename_i h
   unfold put
   rw [List.length_append]
   by_cases c : k < L.length
   . rw [if_pos (by omega), if_pos (by simp; omega), List.getD_eq_getElem?_getD, List.getD_eq_getElem?_getD, List.getElem?_append_left (by omega)]
   . rw [if_neg (by omega), if_neg (by simp; omega)]
theorem put_atD {G : Nat -> Sd} {l : List Sd} {k : Nat} (h : k < l.length) : put G 0 l k = atD l k := by
 have := putAt (g := G) (a := 0) h
 rw [Nat.zero_add] at this; exact this
def FIndexD : List Ar -> Option Rs
 | [.c (.ow 12 n0 f0), .fv g1] => some ⟨(n0 <= 1000000000 /\ RowsD n0 f0) /\ (g1 = gNone), .va (.c (.d (it (ixD pN (gD n0 f0))))), [some (rwD (gD n0 f0))]⟩
 | _ => none
theorem fcIndexD : FC Tryz.prog 86 FIndexD := by
 intro xs pre r us h hp
 unfold FIndexD at h
 split at h
 . rename_i n0 f0 g1
   cases h
   obtain ⟨hp0, hp1⟩ := hp
   refine FCat.deep (ys := [.c (.ow 12 n0 (rwD (gD n0 f0))), .fv g1]) ?_ ?_
   . repeat' (first | exact trivial | exact rfl | exact DvE.refl _ | refine ⟨?_, ?_⟩ | fail)
     all_goals first | exact (canonDo hp0.2.h).2.2
   refine fcat tys_ok (l := []) trivial Tryz.func86 rfl (by kernel_rfl) false ?_
   obtain rfl := hp1
   have hn := hp0.1
   have hO := okD_rows hp0.2
   have hlen := gD_length n0 f0
   generalize gD n0 f0 = L at *
   clear hp0
   subst hlen
   have hrow := okD_row hO
   have hat : ∀ k, k < L.length -> (atD L k).ok := fun k hk => hO _ (atD_mem hk)
   repeat' (first | exact trivial | refine ⟨?_, ?_⟩ | intro _)
   all_goals first | (with_reducible first | apply qa | apply qb | apply qc | apply qd) | (conv => whnf)
   refine loop_ok tys_ok (l := []) trivial (by kernel_rfl) (X := Nat)
    (fun i => ⟨[(8, vx (.int .i64 i)), (0, .va (.c (.osl 0 12 0 L.length))), (1, .va (.c (.fv gNone))), (7, vx (.int .i64 L.length))], [(0, .row 12 L.length (rwD L))], 1, 19⟩)
    (fun i => L.length - i) (fun i => i <= L.length /\ ∀ k, k < i -> pN (atD L k) = false) [] []
    (fun i _ _ => i + 1) [0] [0] 0 0 0 ?_ ?_ ?_
   . exact ⟨Nat.zero_le _, fun k h => absurd h (Nat.not_lt_zero k)⟩
   . repeat' (first | exact trivial | exact rfl | (intro _ _; exact rfl) | refine ⟨?_, ?_⟩ | fail)
   . rintro i ⟨k1, k2⟩
     rcases Nat.lt_or_ge i L.length with hi | hi
     . have hne : decide ((i : Int) < (L.length : Int)) = true := decide_eq_true (by omega)
       have hai := hat i hi
       have hac := hai.cond
       have har := hai.n
       have hacr := hac.2.2
       simp only [Sp.inR, Cg.inR] at hacr
       have hgg : (⟨⟨(atD L i).s.e.live, gBs (atD L i).s.e.binds.length (rwB (atD L i).s.e.binds)⟩, ⟨⟨⟨(atD L i).s.v.i.s.some, (atD L i).s.v.i.s.lo, (atD L i).s.v.i.s.hi⟩, ⟨(atD L i).s.v.i.c.some, (atD L i).s.v.i.c.m, (atD L i).s.v.i.c.r⟩⟩, ⟨(atD L i).s.v.t.null, gN (atD L i).s.v.t.names.length fun j => [st (atS (atD L i).s.v.t.names j)]⟩⟩⟩ : Sv) = (atD L i).s := Sv.again_eq _
       have hix := fun h => ixD_some (p := pN) hi k2 h
       have hall : pN (atD L i) = false -> ∀ k, k < i + 1 -> pN (atD L k) = false := fun h k hk => by
        rcases Nat.lt_or_ge k i with hki | hki
        . exact k2 k hki
        . rw [show k = i by omega]; exact h
       cases hc2 : Sv.none (atD L i).s with
       | true =>
         replace hix := hix hc2
         clear hall
         repeat' (first | exact trivial | refine ⟨?_, ?_⟩ | intro _)
         all_goals first | (with_reducible first | apply qa | apply qb | apply qc | apply qd) | (conv => whnf)
         all_goals first | (exact absurd (hne.symm.trans ‹_ = false›) (by decide)) | skip
         all_goals (try simp only [Int.toNat_natCast, Nat.zero_add, hgg, hc2] at *)
         all_goals first | (exact absurd ‹true = false› (by decide)) | omega | rfl | exact hac.1.1 | exact hac.1.2 | exact hac.2.1.1 | exact har | exact har.1 | exact har.2 | (exact congrArg (Value.int .i64) (by first | (rw [wI_id _ (by omega) (by omega)]; omega) | omega | (dsimp only; omega))) | exact congrArg (Value.int .i64) hix.symm
       | false =>
         replace hall := hall hc2
         clear hix
         repeat' (first | exact trivial | refine ⟨?_, ?_⟩ | intro _)
         all_goals first | (with_reducible first | apply qa | apply qb | apply qc | apply qd) | (conv => whnf)
         all_goals first | (exact absurd (hne.symm.trans ‹_ = false›) (by decide)) | skip
         all_goals (try simp only [Int.toNat_natCast, Nat.zero_add, hgg, hc2] at *)
         all_goals first | (exact absurd ‹false = true› (by decide)) | omega | rfl | exact hac.1.1 | exact hac.1.2 | exact hac.2.1.1 | exact har | exact har.1 | exact har.2 | (exact congrArg (Value.int .i64) (by first | (rw [wI_id _ (by omega) (by omega)]; omega) | omega | (dsimp only; omega))) | exact hall _ ‹_›
     . have hne : decide ((i : Int) < (L.length : Int)) = false := decide_eq_false (by omega)
       obtain rfl : i = L.length := by omega
       repeat' (first | exact trivial | refine ⟨?_, ?_⟩ | intro _)
       all_goals first | (with_reducible first | apply qa | apply qb | apply qc | apply qd) | (conv => whnf)
       all_goals first | (exact absurd (hne.symm.trans ‹_ = true›) (by decide)) | skip
       all_goals first | exact Nat.le_refl _ | (rw [ixD_none k2]; done) | (rw [ixD_none k2]; rfl)
 . cases h
def FDeleteD : List Ar -> Option Rs
 | [.c (.ow 12 n0 f0), .fv g1] => some ⟨(n0 <= 1000000000 /\ RowsD n0 f0) /\ (g1 = gNone), .va (.c (.ow 12 (((gD n0 f0)).filter fun x => !pN x).length (rwD (((gD n0 f0)).filter fun x => !pN x)))), [none]⟩
 | _ => none
theorem fcDeleteD : FC Tryz.prog 80 FDeleteD := by
 intro xs pre r us h hp
 unfold FDeleteD at h
 split at h
 . rename_i n0 f0 g1
   cases h
   obtain ⟨hp0, hp1⟩ := hp
   refine FCat.deep (ys := [.c (.ow 12 n0 (rwD (gD n0 f0))), .fv g1]) ?_ ?_
   . repeat' (first | exact trivial | exact rfl | exact DvE.refl _ | refine ⟨?_, ?_⟩ | fail)
     all_goals first | exact (canonDo hp0.2.h).2.2
   refine fcat tys_ok (l := [(86, ⟨[true], FIndexD⟩)]) ⟨fcIndexD, trivial⟩ Tryz.func80 rfl (by kernel_rfl) false ?_
   obtain rfl := hp1
   have hn := hp0.1
   have hO := okD_rows hp0.2
   have hlen := gD_length n0 f0
   generalize gD n0 f0 = L at *
   clear hp0
   subst hlen
   have hrow := okD_row hO
   have hat : ∀ k, k < L.length -> (atD L k).ok := fun k hk => hO _ (atD_mem hk)
   have hgb := gD_row L
   have hsl : (L.filter fun x => !pN x) = (seg (atD L) 0 L.length).filter fun x => !pN x := by rw [seg_atD]
   have hfl := filD_len (fun x => !pN x) (atD L)
   repeat' (first | exact trivial | (with_reducible exact hrow) | refine ⟨?_, ?_⟩ | intro _)
   all_goals first | (with_reducible first | apply qa | apply qb | apply qc | apply qd) | (conv => whnf)
   all_goals first | exact hn | exact Nat.le_refl _ | rfl | skip
   all_goals (rcases ixD_cases pN L with ⟨hix, hno⟩ | ⟨i, hix, hi, hlo, hatp⟩)
   all_goals (simp only [hgb, hix] at *)
   all_goals first | (exact absurd ‹((-1 : Int) == -1) = false› (by decide)) | (exact absurd (eq_of_beq ‹((i : Int) == -1) = true›) (by omega)) | skip
   . rw [List.filter_eq_self.2 (fun x hx => by obtain ⟨k, hk, rfl⟩ := mem_atD hx; rw [hno k hk]; rfl)]
   . rw [List.filter_eq_self.2 (fun x hx => by obtain ⟨k, hk, rfl⟩ := mem_atD hx; rw [hno k hk]; rfl)]
   have hF : (seg (atD L) 0 (i + 1)).filter (fun x => !pN x) = seg (atD L) 0 i := by
    rw [filD_step, hatp, filD_all fun k hk => by rw [hlo k hk]; rfl]
    simp
   have hgen : ∀ j, (seg (atD L) 0 (j + 1)).filter (fun x => !pN x) = (seg (atD L) 0 j).filter (fun x => !pN x) ++ if (!pN (atD L j)) = true then [atD L j] else [] := filD_step _ _
   generalize hFF : (fun j => (seg (atD L) 0 j).filter (fun x => !pN x)) = F
   have hFe : ∀ j, (seg (atD L) 0 j).filter (fun x => !pN x) = F j := fun j => congrFun hFF j
   simp only [hFe] at hF hgen hsl hfl
   have hw0 : IntKind.wrap .i64 ((i : Int) + 1) = ((i + 1 : Nat) : Int) := by rw [wI_id _ (by omega) (by omega)]; omega
   refine loop_ok tys_ok (l := [(86, ⟨[true], FIndexD⟩)]) ⟨fcIndexD, trivial⟩ (by kernel_rfl) (X := Nat)
    (fun j => ⟨[(6, vx (.int .i64 j)), (5, vx (.int .i64 (F j).length)), (0, .va (.c (.osl 0 12 0 L.length))), (1, .va (.c (.fv gNone)))], [(0, .row 12 L.length fun k => sdC (put (atD L) 0 (F j) k))], 1, 42⟩)
    (fun j => L.length - j) (fun j => i + 1 <= j /\ j <= L.length /\ (F j).length < j) [] []
    (fun j _ _ => j + 1) [0] [0] 0 0 (i + 1) ?_ ?_ ?_
   . exact ⟨Nat.le_refl _, hi, by rw [hF, seg_length]; omega⟩
   . rw [hF, put_seg]
     repeat' (first | exact trivial | exact rfl | (intro _ _; exact rfl) | refine ⟨?_, ?_⟩ | fail)
     all_goals (refine congrArg (Value.int .i64) ?_; first | rw [hw0] | (rw [seg_length]; omega))
   . rintro j ⟨k1, k2, k3⟩
     rcases Nat.lt_or_ge j L.length with hj | hj
     . have hne : decide ((j : Int) < (L.length : Int)) = true := decide_eq_true (by omega)
       have hg1 : put (atD L) 0 (F j) j = atD L j := put_out (.inr (by omega))
       have hs := hgen j
       have hai := hat j hj
       have hac := hai.cond
       have har := hai.n
       have hacr := hac.2.2
       simp only [Sp.inR, Cg.inR] at hacr
       have hgg : (⟨⟨(atD L j).s.e.live, gBs (atD L j).s.e.binds.length (rwB (atD L j).s.e.binds)⟩, ⟨⟨⟨(atD L j).s.v.i.s.some, (atD L j).s.v.i.s.lo, (atD L j).s.v.i.s.hi⟩, ⟨(atD L j).s.v.i.c.some, (atD L j).s.v.i.c.m, (atD L j).s.v.i.c.r⟩⟩, ⟨(atD L j).s.v.t.null, gN (atD L j).s.v.t.names.length fun q => [st (atS (atD L j).s.v.t.names q)]⟩⟩⟩ : Sv) = (atD L j).s := Sv.again_eq _
       cases hc : pN (atD L j) with
       | true =>
         rw [hc, if_neg (by decide), List.append_nil] at hs
         have hc2 : Sv.none (atD L j).s = true := hc
         repeat' (first | exact trivial | refine ⟨?_, ?_⟩ | intro _)
         all_goals first | (with_reducible first | apply qa | apply qb | apply qc | apply qd) | (conv => whnf)
         all_goals first | (exact absurd (hne.symm.trans ‹_ = false›) (by decide)) | skip
         all_goals (try simp only [Int.toNat_natCast, Nat.zero_add, hg1, hgg, hc2] at *)
         all_goals first | (exact absurd ‹(!true) = true› (by decide)) | skip
         all_goals (try simp only [hs])
         all_goals first | omega | rfl | exact hac.1.1 | exact hac.1.2 | exact hac.2.1.1 | exact hac.2.2 | exact har | exact har.1 | exact har.2 | (exact congrArg (Value.int .i64) (by first | (rw [wI_id _ (by omega) (by omega)]; omega) | omega | (dsimp only; omega)))
       | false =>
         rw [hc, if_pos (by decide)] at hs
         have hlen : (F (j + 1)).length = (F j).length + 1 := by rw [hs]; simp
         have hc2 : Sv.none (atD L j).s = false := hc
         repeat' (first | exact trivial | refine ⟨?_, ?_⟩ | intro _)
         all_goals first | (with_reducible first | apply qa | apply qb | apply qc | apply qd) | (conv => whnf)
         all_goals first | (exact absurd (hne.symm.trans ‹_ = false›) (by decide)) | skip
         all_goals (try simp only [Int.toNat_natCast, Nat.zero_add, hg1, hgg, hc2] at *)
         all_goals first | (exact absurd ‹(!false) = false› (by decide)) | skip
         all_goals (try simp only [hlen])
         all_goals first | omega | rfl | exact hac.1.1 | exact hac.1.2 | exact hac.2.1.1 | exact hac.2.2 | exact har | exact har.1 | exact har.2 | (exact congrArg (Value.int .i64) (by first | (rw [wI_id _ (by omega) (by omega)]; omega) | omega | (dsimp only; omega))) | (rw [hs]; exact row_pushD rfl rfl _)
     . have hne : decide ((j : Int) < (L.length : Int)) = false := decide_eq_false (by omega)
       obtain rfl : j = L.length := by omega
       repeat' (first | exact trivial | refine ⟨?_, ?_⟩ | intro _)
       all_goals first | (with_reducible first | apply qa | apply qb | apply qc | apply qd) | (conv => whnf)
       all_goals first | (exact absurd (hne.symm.trans ‹_ = true›) (by decide)) | skip
       all_goals (try simp only [Int.toNat_natCast, Nat.zero_add, hsl])
       all_goals first | rfl | omega | (rename_i k hk; rw [clr_lo (by omega)]; exact congrArg sdC (put_atD (by omega)))
 . cases h
def FPlaceO : List Ar -> Option Rs
 | [.c (.ow 12 n0 f0), .agg [.d (.v (.string x1)), .d (.v (.int .i64 i1))]] => some ⟨(n0 <= 1000000000 /\ RowsD n0 f0) /\ (rI i1) /\ (SK (((gD n0 f0)).map (·.k))), .tup [.c (.d (it (lowK (gD n0 f0) (⟨x1, i1⟩ : Ky) : Nat))), .c (.d (bo (foundK (gD n0 f0) (⟨x1, i1⟩ : Ky))))], [some (rwD (gD n0 f0))]⟩
 | _ => none
theorem fcPlaceO : FC Tryz.prog 77 FPlaceO := by
 intro xs pre r us h hp
 unfold FPlaceO at h
 split at h
 . rename_i n0 f0 x1 i1
   cases h
   obtain ⟨hp0, hp1, hp2⟩ := hp
   refine FCat.deep (ys := [.c (.ow 12 n0 (rwD (gD n0 f0))), .agg [.d (.v (.string x1)), .d (.v (.int .i64 i1))]]) ?_ ?_
   . repeat' (first | exact trivial | exact rfl | exact DvE.refl _ | refine ⟨?_, ?_⟩ | fail)
     all_goals first | exact (canonDo hp0.2.h).2.2
   refine fcat tys_ok (l := [(126, ⟨[true], FBSearchD⟩), (127, ⟨[], FPlaceC⟩)]) ⟨fcBSearchD, fcPlaceC, trivial⟩ Tryz.func77 rfl (by kernel_rfl) false ?_
   have hn := hp0.1
   have hO := okD_rows hp0.2
   have hlen := gD_length n0 f0
   generalize gD n0 f0 = L at *
   clear hp0
   subst hlen
   have hrow := okD_row hO
   have hgb := gD_row L
   have hp3 : SK ((gD L.length (rwD L)).map (·.k)) := by rw [hgb]; exact hp2
   repeat' (first | exact trivial | (with_reducible first | exact hrow | exact hp1 | exact hp1.1 | exact hp1.2 | exact hp3) | refine ⟨?_, ?_⟩ | intro _)
   all_goals first | (with_reducible first | apply qa | apply qb | apply qc | apply qd) | (conv => whnf)
   all_goals (try simp only [hgb])
   all_goals first | exact hn | exact hp2 | exact Nat.le_refl _ | rfl
 . cases h
theorem vjoin_zero (v : Vl) : Vl.join Vl.zero v = v.of := by
 have h1 : Vl.zero.of = Vl.zero := Vl.of_fix Vl.zero_tidy
 have ht := Vl.of_tidy v
 have ha := Vl.l3_join2 Vl.zero v
 unfold Vl.join
 rw [h1]
 have e1 : Sp.join Vl.zero.i.s v.of.i.s = v.of.i.s := by
  rcases ht.i with e | ⟨⟨e1, e2⟩, e3, _⟩
  . rw [e]; rfl
  . generalize v.of.i.s = x at *
    unfold Vl.zero Ig.zero
    grind [Sp.join, Sp.none, Sp.clean, Sp.of]
 have e2 : Cg.join Vl.zero.i.c v.of.i.c = v.of.i.c := join_no1 rfl (tidy_c ht.i)
 rw [e1, e2]
 have e3 : ofS (ofS Vl.zero.t.names ++ ofS v.t.names) = v.of.t.names := by
  show ofS (ofS [] ++ ofS v.t.names) = _
  rw [ofS_nil, List.nil_append, of_names, ofS_eq, ofS_eq, cleanS_idem]
 have e4 : (Vl.zero.t.null || v.t.null) = v.of.t.null := by rw [of_null]; rfl
 rw [e3, e4]
theorem ejoin_zero (e : En) : En.join ⟨false, []⟩ e = e.clean := by rw [join_case, if_neg Bool.false_ne_true]
theorem sjoin_zero (s : Sv) : Sv.join Sv.zero s = s.clean := by
 rw [Sv.join_is]
 show (⟨En.join ⟨false, []⟩ s.e, Vl.join Vl.zero s.v⟩ : Sv) = ⟨s.e.clean, s.v.of⟩
 rw [ejoin_zero, vjoin_zero]
theorem setD_row1 {D : List Sd} {x : Sd} {r : List DV} (h : foundK D x.k = true) (hr : r = sdC ⟨(atD D (lowK D x.k)).k, Sv.join (atD D (lowK D x.k)).s x.s⟩) {q : Nat} (hq : q < D.length) : setRow (rwD D) (lowK D x.k) r q = sdC (atD (sumIns D x) q) := by
 subst hr
 unfold sumIns
 rw [if_pos h, setRow_at]
 have : atD (D.set (lowK D x.k) ⟨(atD D (lowK D x.k)).k, Sv.join (atD D (lowK D x.k)).s x.s⟩) q = if q = lowK D x.k then ⟨(atD D (lowK D x.k)).k, Sv.join (atD D (lowK D x.k)).s x.s⟩ else atD D q := by
  generalize (⟨(atD D (lowK D x.k)).k, Sv.join (atD D (lowK D x.k)).s x.s⟩ : Sd) = y
  unfold atD
  rw [List.getD_eq_getElem?_getD, List.getElem?_set]
  by_cases h : lowK D x.k = q
  . subst h; rw [if_pos rfl, if_pos hq, if_pos rfl]; rfl
  . rw [if_neg h, if_neg (Ne.symm h), List.getD_eq_getElem?_getD]
 rw [this]; split <;> rfl
theorem lowK_le (D : List Sd) (k : Ky) : lowK D k <= D.length := List.countP_le_length
theorem atD_ins {D : List Sd} {i : Nat} {x : Sd} (hi : i <= D.length) (k : Nat) : atD (D.take i ++ x :: D.drop i) k = if k < i then atD D k else if k = i then x else atD D (k - 1) := by
 unfold atD
 have hl : (D.take i).length = i := by rw [List.length_take]; omega
 simp only [List.getD_eq_getElem?_getD]
 by_cases h : k < i
 . rw [if_pos h, List.getElem?_append_left (by omega), List.getElem?_take_of_lt h]
 . rw [if_neg h, List.getElem?_append_right (by omega), hl]
   by_cases h2 : k = i
   . subst h2; rw [if_pos rfl, Nat.sub_self]; rfl
   . rw [if_neg h2, show k - i = (k - i - 1) + 1 by omega, List.getElem?_cons_succ, List.getElem?_drop]
     congr 2; omega
theorem setD_row2 {D : List Sd} {x : Sd} {r y : List DV} (h : foundK D x.k = false) (hr : r = sdC ⟨x.k.cl, Sv.join Sv.zero x.s⟩) (q : Nat) : setRow (insF (rwD D) (lowK D x.k) y) (lowK D x.k) r q = sdC (atD (sumIns D x) q) := by
 subst hr
 unfold sumIns
 rw [if_neg (by rw [h]; exact Bool.false_ne_true), setRow_at, atD_ins (lowK_le D x.k)]
 by_cases hq : q = lowK D x.k
 . rw [if_pos hq, if_neg (by omega), if_pos hq]
 . rw [if_neg hq]; unfold insF; rw [if_neg hq]
   split <;> rfl
theorem sumIns_len (D : List Sd) (x : Sd) : (sumIns D x).length = if foundK D x.k = true then D.length else D.length + 1 := by
 unfold sumIns
 have := lowK_le D x.k
 split
 . rw [List.length_set]
 . rw [List.length_append, List.length_cons, List.length_take, List.length_drop]; omega
theorem foundK_lt {D : List Sd} {k : Ky} (h : foundK D k = true) : lowK D k < D.length := by
 unfold foundK at h
 rw [Bool.and_eq_true] at h
 exact of_decide_eq_true h.1
theorem insF_at (G : Nat -> List DV) (i : Nat) (x : List DV) : insF G i x i = x := by unfold insF; rw [if_neg (Nat.lt_irrefl _), if_pos rfl]
theorem okD_sums {L : List Sd} {B : Nat} (hB : B <= 1000000000) (hO : okD L) (hF : ∀ k, Sv.fit B (foldJ L k)) : okD (sumsK L) := by
 intro y hy
 obtain ⟨k, hk, rfl⟩ := List.mem_map.1 hy
 have h := hF k
 refine ⟨?_, h.l, h.v, Nat.le_trans h.len (by omega)⟩
 obtain ⟨x, hx, rfl⟩ := (mem_keys L k).1 hk
 exact Ky.cl_r (hO x hx).n
theorem sums_len (L : List Sd) : (sumsK L).length <= L.length := by
 have := keys_len L
 unfold sumsK; rw [List.length_map]; exact this
theorem sums_sk (L : List Sd) : SK ((sumsK L).map (·.k)) := by rw [sums_keys]; exact keys_sk L
theorem sums_at {L : List Sd} {i : Nat} (h : i < (sumsK L).length) : (atD (sumsK L) i).s = foldJ L (atD (sumsK L) i).k := by
 have hm := atD_mem h
 generalize atD (sumsK L) i = y at *
 obtain ⟨k, hk, rfl⟩ := List.mem_map.1 hm
 rfl
theorem fit_zero : Sv.fit 0 Sv.zero := ⟨fun x hx => (by cases hx), ⟨⟨Nat.zero_le _, fun _ _ => rfl⟩, (by unfold Sv.zero Vl.zero Ig.zero Sp.inR Cg.inR; decide)⟩, Nat.zero_le _, fun x hx => (by cases hx), Nat.zero_le _⟩
def FCSum : List Ar -> Option Rs
 | [.c (.d (.lst 12 n0 f0))] => some ⟨(n0 <= 1000000000 /\ RowsD n0 f0) /\ (∃ B, B <= 100000000 /\ (∀ i, i < n0 -> Sv.fit B (atD (gD n0 f0) i).s) /\ ∀ i, i <= n0 -> ∀ k, Sv.fit B (foldJ (((gD n0 f0)).take i) k)), .va (.c (.d (lstD (sumM (gD n0 f0))))), []⟩
 | _ => none
theorem fcCSum : FC Tryz.prog 28 FCSum := by
 intro xs pre r us h hp
 unfold FCSum at h
 split at h
 . rename_i n0 f0
   cases h
   obtain ⟨hp0, hp1⟩ := hp
   refine FCat.deep (ys := [.c (.d (.lst 12 n0 (rwD (gD n0 f0))))]) ?_ ?_
   . repeat' (first | exact trivial | exact rfl | exact DvE.refl _ | refine ⟨?_, ?_⟩ | fail)
     all_goals first | exact canonD hp0.2.h
   refine fcat tys_ok (l := [(77, ⟨[true], FPlaceO⟩), (79, ⟨[], FKyClean⟩), (78, ⟨[true, false, true], FInsertD⟩), (52, ⟨[], FP zGG FTJoin⟩), (80, ⟨[true], FDeleteD⟩), (81, ⟨[], FNoneC⟩), (127, ⟨[], FPlaceC⟩)]) ⟨fcPlaceO, fcKyClean, fcInsertD, fc_nilp zGG fcTJoin, fcDeleteD, fcNoneC, fcPlaceC, trivial⟩ Tryz.func28 rfl (by kernel_rfl) true ?_
   obtain ⟨Bn, hB, hf, hF⟩ := hp1
   have hn := hp0.1
   have hO := okD_rows hp0.2
   have hlen := gD_length n0 f0
   generalize gD n0 f0 = L at *
   clear hp0
   subst hlen
   have hrow := okD_row hO
   repeat' (first | exact trivial | refine ⟨?_, ?_⟩ | intro _)
   all_goals first | (with_reducible first | apply qa | apply qb | apply qc | apply qd) | (conv => whnf)
   refine loop_ids tys_ok (l := [(77, ⟨[true], FPlaceO⟩), (79, ⟨[], FKyClean⟩), (78, ⟨[true, false, true], FInsertD⟩), (52, ⟨[], FP zGG FTJoin⟩), (80, ⟨[true], FDeleteD⟩), (81, ⟨[], FNoneC⟩), (127, ⟨[], FPlaceC⟩)]) ⟨fcPlaceO, fcKyClean, fcInsertD, fc_nilp zGG fcTJoin, fcDeleteD, fcNoneC, fcPlaceC, trivial⟩ (by kernel_rfl) (X := Nat)
    (fun i => ⟨[(10, vx (.int .i64 i)), (3, .va (.c (.osl 0 12 0 (sumsK (L.take i)).length))), (8, .va (.c (.d (.lst 12 L.length (rwD L))))), (9, vx (.int .i64 L.length))], [(0, .row 12 (sumsK (L.take i)).length (rwD (sumsK (L.take i))))], 1, 46⟩)
    (fun i => L.length - i) (fun i => i <= L.length) [3] []
    (fun i _ _ => i + 1) (fun xs => match xs with | [t] => [oI t] | _ => []) [] 0 1 0 ?_ ?_ ?_
   . exact Nat.zero_le _
   . repeat' (first | exact trivial | exact rfl | (intro _ h; exact absurd h (Nat.not_lt_zero _)) | (intro _ _; exact rfl) | refine ⟨?_, ?_⟩ | fail)
     all_goals first | simp
   . rintro i k1
     rcases Nat.lt_or_ge i L.length with hi | hi
     . have hne : decide ((i : Int) < (L.length : Int)) = true := decide_eq_true (by omega)
       have hi0 : (0 : Int) <= (i : Int) /\ (i : Int) < (L.length : Int) := by omega
       have hOk : okD (sumsK (L.take i)) := okD_sums (by omega) (fun x hx => hO x (List.mem_of_mem_take hx)) (hF i (by omega))
       have hOs := sums_sk (L.take i)
       have hOl := sums_len (L.take i)
       have hOt := sums_snoc (L.take i) (atD L (Int.toNat (i : Int)))
       have htk : L.take i ++ [(atD L (Int.toNat (i : Int)))] = L.take (i + 1) := (take_snoc hi).symm
       rw [htk] at hOt
       have hOa : ∀ q, q < (sumsK (L.take i)).length -> Sv.fit Bn (atD (sumsK (L.take i)) q).s := fun q hq => by rw [sums_at hq]; exact hF i (by omega) _
       rw [List.length_take] at hOl
       have hOr := okD_row hOk
       have hgO := gD_row (sumsK (L.take i))
       have hO2 : (sumsK (L.take i)).length <= 1000000000 := by omega
       have hO3 : (sumsK (L.take i)).length <= (sumsK (L.take i)).length := Nat.le_refl _
       have hSK : SK (((gD (sumsK (L.take i)).length (rwD (sumsK (L.take i))))).map (·.k)) := by rw [hgO]; exact hOs
       have hXo := hO (atD L (Int.toNat (i : Int))) (atD_mem hi)
       have hxr := hXo.n
       have oX : Sv.fit Bn (Sv.again (atD L (Int.toNat (i : Int))).s) := (hf i hi).ag
       have cX := hXo.cond
       have hll := sumIns_len (sumsK (L.take i)) (atD L (Int.toNat (i : Int)))
       have hlow := lowK_le (sumsK (L.take i)) (atD L (Int.toNat (i : Int))).k
       cases hfd : foundK (gD (sumsK (L.take i)).length (rwD (sumsK (L.take i)))) (⟨(atD L (Int.toNat (i : Int))).k.name, (atD L (Int.toNat (i : Int))).k.node⟩ : Ky) with
       | true =>
         have hnf : (!foundK (gD (sumsK (L.take i)).length (rwD (sumsK (L.take i)))) (⟨(atD L (Int.toNat (i : Int))).k.name, (atD L (Int.toNat (i : Int))).k.node⟩ : Ky)) = false := by rw [hfd]; rfl
         have hfe : foundK (sumsK (L.take i)) (atD L (Int.toNat (i : Int))).k = true := by have := hfd; rw [hgO] at this; exact this
         rw [if_pos hfe] at hll
         have hlt : (lowK (gD (sumsK (L.take i)).length (rwD (sumsK (L.take i)))) (⟨(atD L (Int.toNat (i : Int))).k.name, (atD L (Int.toNat (i : Int))).k.node⟩ : Ky)) < (sumsK (L.take i)).length := by have := foundK_lt hfd; rw [gD_length] at this; exact this
         have hx0 : 0 + Int.toNat (((lowK (gD (sumsK (L.take i)).length (rwD (sumsK (L.take i)))) (⟨(atD L (Int.toNat (i : Int))).k.name, (atD L (Int.toNat (i : Int))).k.node⟩ : Ky)) : Nat) : Int) = (lowK (gD (sumsK (L.take i)).length (rwD (sumsK (L.take i)))) (⟨(atD L (Int.toNat (i : Int))).k.name, (atD L (Int.toNat (i : Int))).k.node⟩ : Ky)) := by rw [Int.toNat_natCast, Nat.zero_add]
         have oA : Sv.fit Bn (Sv.again (atD (gD (sumsK (L.take i)).length (rwD (sumsK (L.take i)))) (0 + Int.toNat (((lowK (gD (sumsK (L.take i)).length (rwD (sumsK (L.take i)))) (⟨(atD L (Int.toNat (i : Int))).k.name, (atD L (Int.toNat (i : Int))).k.node⟩ : Ky)) : Nat) : Int))).s) := by
          rw [hx0]
          rw [hgO] at hlt ⊢
          exact (hOa _ hlt).ag
         have cA : Sv.cond (atD (gD (sumsK (L.take i)).length (rwD (sumsK (L.take i)))) (0 + Int.toNat (((lowK (gD (sumsK (L.take i)).length (rwD (sumsK (L.take i)))) (⟨(atD L (Int.toNat (i : Int))).k.name, (atD L (Int.toNat (i : Int))).k.node⟩ : Ky)) : Nat) : Int))).s := by
          rw [hx0]
          rw [hgO] at hlt ⊢
          exact (hOk _ (atD_mem hlt)).cond
         have pr := Sv.fit.pair oA oX (by omega)
         have pq : (atD (gD (sumsK (L.take i)).length (rwD (sumsK (L.take i)))) (0 + Int.toNat (((lowK (gD (sumsK (L.take i)).length (rwD (sumsK (L.take i)))) (⟨(atD L (Int.toNat (i : Int))).k.name, (atD L (Int.toNat (i : Int))).k.node⟩ : Ky)) : Nat) : Int))).s.e.binds.length + (atD L (Int.toNat (i : Int))).s.e.binds.length <= 1099511627776 := by have := pr.s; simpa only [gBs_length] using this
         repeat' (first | exact trivial | (with_reducible first | exact (fun h => absurd (hne.symm.trans h) (by decide)) | exact (fun h => absurd (hfd.symm.trans h) (by decide)) | exact (fun h => absurd (hnf.symm.trans h) (by decide)) | exact hrow | exact hOr | exact hO2 | exact hO3 | exact hSK | exact hxr | exact hxr.1 | exact hxr.2 | exact cX | exact pr.r | exact pr.q | exact pq | exact cA | exact hi0) | refine ⟨?_, ?_⟩ | intro _)
         all_goals first | (with_reducible first | apply qa | apply qb | apply qc | apply qd) | (conv => whnf)
         all_goals (have hlw : (lowK (gD (sumsK (L.take i)).length (rwD (sumsK (L.take i)))) (⟨(atD L (Int.toNat (i : Int))).k.name, (atD L (Int.toNat (i : Int))).k.node⟩ : Ky)) <= (sumsK (L.take i)).length := by have := hlow; rw [hgO]; exact this)
         all_goals first | omega | exact Nat.le_refl _ | exact cA.1.1 | exact cA.1.2 | exact cA.2.1.1 | exact cX.1.1 | exact cX.1.2 | exact cX.2.1.1 | skip
         all_goals first | rfl | (dsimp only; omega) | decide | ((with_reducible show idsOk _ _ = true); rfl) | (exact congrArg (Value.int .i64) (by first | (rw [wI_id _ (by omega) (by omega)]; omega) | omega | (dsimp only; omega))) | (exact absurd ‹_ < 0› (Nat.not_lt_zero _)) | (intro h; exact absurd h (Nat.not_lt_zero _)) | (dsimp only; (exact congrArg (Value.int .i64) (by first | (rw [wI_id _ (by omega) (by omega)]; omega) | omega | (dsimp only; omega)))) | skip
         all_goals (dsimp only; rw [hOt])
         all_goals first | exact hll.symm | skip
         all_goals (simp only [hgO, Int.toNat_natCast, Nat.zero_add, gBs_row, gN_lst])
         all_goals first | exact setD_row1 hfe rfl ‹_›
       | false =>
         have hnf : (!foundK (gD (sumsK (L.take i)).length (rwD (sumsK (L.take i)))) (⟨(atD L (Int.toNat (i : Int))).k.name, (atD L (Int.toNat (i : Int))).k.node⟩ : Ky)) = true := by rw [hfd]; rfl
         have hfe : foundK (sumsK (L.take i)) (atD L (Int.toNat (i : Int))).k = false := by have := hfd; rw [hgO] at this; exact this
         rw [if_neg (by rw [hfe]; exact Bool.false_ne_true)] at hll
         have oA : Sv.fit Bn (⟨⟨false, gBs 0 fun _ => []⟩, ⟨⟨⟨false, 0, 0⟩, ⟨false, 0, 0⟩⟩, ⟨false, gN 0 fun _ => []⟩⟩⟩ : Sv) := fit_zero.mono (Nat.zero_le _)
         have rows0 : RowsOk 0 fun _ => [] := ⟨fun i h => absurd h (Nat.not_lt_zero i)⟩
         have pr := Sv.fit.pair oA oX (by omega)
         have pq : 0 + (atD L (Int.toNat (i : Int))).s.e.binds.length <= 1099511627776 := by have := pr.s; simpa only [gBs_length] using this
         repeat' (first | exact trivial | (with_reducible first | exact (fun h => absurd (hne.symm.trans h) (by decide)) | exact (fun h => absurd (hfd.symm.trans h) (by decide)) | exact (fun h => absurd (hnf.symm.trans h) (by decide)) | exact hrow | exact hOr | exact hO2 | exact hO3 | exact hSK | exact hxr | exact hxr.1 | exact hxr.2 | exact cX | exact pr.r | exact pr.q | exact pq | exact rows0 | exact hi0) | refine ⟨?_, ?_⟩ | intro _)
         all_goals first | (with_reducible first | apply qa | apply qb | apply qc | apply qd) | (conv => whnf)
         all_goals (have hlw : (lowK (gD (sumsK (L.take i)).length (rwD (sumsK (L.take i)))) (⟨(atD L (Int.toNat (i : Int))).k.name, (atD L (Int.toNat (i : Int))).k.node⟩ : Ky)) <= (sumsK (L.take i)).length := by have := hlow; rw [hgO]; exact this)
         all_goals first | omega | exact Nat.le_refl _ | exact cX.1.1 | exact cX.1.2 | exact cX.2.1.1 | skip
         all_goals (try simp only [Nat.zero_add, insF_at])
         all_goals repeat' (first | exact trivial | (with_reducible first | exact (fun h => absurd (hne.symm.trans h) (by decide)) | exact (fun h => absurd (hfd.symm.trans h) (by decide)) | exact (fun h => absurd (hnf.symm.trans h) (by decide)) | exact hrow | exact hOr | exact hO2 | exact hO3 | exact hSK | exact hxr | exact hxr.1 | exact hxr.2 | exact cX | exact pr.r | exact pr.q | exact pq | exact rows0 | exact hi0) | refine ⟨?_, ?_⟩ | intro _)
         all_goals first | (with_reducible first | apply qa | apply qb | apply qc | apply qd) | (conv => whnf)
         all_goals (try simp only [Nat.zero_add, insF_at])
         all_goals repeat' (first | exact trivial | (with_reducible first | exact (fun h => absurd (hne.symm.trans h) (by decide)) | exact (fun h => absurd (hfd.symm.trans h) (by decide)) | exact (fun h => absurd (hnf.symm.trans h) (by decide)) | exact hrow | exact hOr | exact hO2 | exact hO3 | exact hSK | exact hxr | exact hxr.1 | exact hxr.2 | exact cX | exact pr.r | exact pr.q | exact pq | exact rows0 | exact hi0) | refine ⟨?_, ?_⟩ | intro _)
         all_goals first | (with_reducible first | apply qa | apply qb | apply qc | apply qd) | (conv => whnf)
         all_goals first | exact cX.1.1 | exact cX.1.2 | exact cX.2.1.1 | omega | skip
         all_goals first | rfl | (dsimp only; omega) | decide | ((with_reducible show idsOk _ _ = true); rfl) | (exact congrArg (Value.int .i64) (by first | (rw [wI_id _ (by omega) (by omega)]; omega) | omega | (dsimp only; omega))) | (exact absurd ‹_ < 0› (Nat.not_lt_zero _)) | (intro h; exact absurd h (Nat.not_lt_zero _)) | (dsimp only; (exact congrArg (Value.int .i64) (by first | (rw [wI_id _ (by omega) (by omega)]; omega) | omega | (dsimp only; omega)))) | skip
         all_goals (dsimp only; rw [hOt])
         all_goals first | exact hll.symm | skip
         all_goals (simp only [hgO, Int.toNat_natCast, Nat.zero_add, gBs_row, gN_lst])
         all_goals first | exact setD_row2 hfe rfl _
     . have hne : decide ((i : Int) < (L.length : Int)) = false := decide_eq_false (by omega)
       obtain rfl : i = L.length := by omega
       have hOk : okD (sumsK L) := okD_sums (B := Bn) (by omega) hO (by have := hF L.length (Nat.le_refl _); rw [List.take_length] at this; exact this)
       have hgL := gD_row (sumsK L)
       have hOr := okD_row hOk
       have hOl := sums_len L
       rw [List.take_length]
       repeat' (first | exact trivial | (with_reducible exact hOr) | refine ⟨?_, ?_⟩ | intro _)
       all_goals first | (with_reducible first | apply qa | apply qb | apply qc | apply qd) | (conv => whnf)
       all_goals first | (exact absurd (hne.symm.trans ‹_ = true›) (by decide)) | skip
       all_goals (try simp only [hgL, Nat.zero_add])
       all_goals first | rfl | omega | exact Nat.le_refl _ | (intro i hi; rfl)
 . cases h
def FitL : List Sd -> List Nat -> Prop
 | [], [] => True
 | x :: L, n :: ns => Sv.fit n x.s /\ FitL L ns
 | _, _ => False
theorem fold_fit' (k : Ky) : ∀ (L : List Sd) (ns : List Nat), FitL L ns -> ∀ (s : Sv) (m : Nat), Sv.fit m s -> m + ns.sum <= 8000000000 -> Sv.fit (m + ns.sum) (L.foldl (fun s x => if x.k.cl = k then Sv.join s x.s else s) s)
 | [], [], _, s, m, h, _ => by simpa using h
 | [], _ :: _, h, _, _, _, _ => h.elim
 | _ :: _, [], h, _, _, _, _ => h.elim
 | x :: L, n :: ns, h, s, m, hs, hm => by
   rw [List.sum_cons] at hm ⊢
   rw [List.foldl_cons, <- Nat.add_assoc]
   refine fold_fit' k L ns h.2 _ (m + n) ?_ (by omega)
   split
   . exact hs.join h.1 (by omega)
   . exact hs.mono (by omega)
theorem fitL_take : ∀ {L : List Sd} {ns : List Nat} (i : Nat), FitL L ns -> FitL (L.take i) (ns.take i)
 | [], [], i, _ => by rw [List.take_nil, List.take_nil]; trivial
 | [], _ :: _, _, h => h.elim
 | _ :: _, [], _, h => h.elim
 | x :: L, n :: ns, 0, _ => trivial
 | x :: L, n :: ns, i + 1, h => ⟨h.1, fitL_take i h.2⟩
theorem sum_take : ∀ (ns : List Nat) (i : Nat), (ns.take i).sum <= ns.sum
 | [], i => by rw [List.take_nil]; exact Nat.le_refl _
 | n :: ns, 0 => Nat.zero_le _
 | n :: ns, i + 1 => by rw [List.take_succ_cons, List.sum_cons, List.sum_cons]; have := sum_take ns i; omega
theorem fitL_at : ∀ {L : List Sd} {ns : List Nat}, FitL L ns -> ∀ x, x ∈ L -> Sv.fit ns.sum x.s
 | [], _, _, x, hx => by cases hx
 | _ :: _, [], h, _, _ => h.elim
 | y :: L, n :: ns, h, x, hx => by
   rw [List.sum_cons]
   rcases List.mem_cons.1 hx with rfl | hx
   . exact h.1.mono (by omega)
   . exact (fitL_at h.2 x hx).mono (by omega)
def SumPre (L : List Sd) (B : Nat) : Prop := (∀ i, i < L.length -> Sv.fit B (atD L i).s) /\ ∀ i, i <= L.length -> ∀ k, Sv.fit B (foldJ (L.take i) k)
theorem fitL_pre {L : List Sd} {ns : List Nat} (h : FitL L ns) (hs : ns.sum <= 100000000) : SumPre L ns.sum :=
 ⟨fun i hi => fitL_at h _ (atD_mem hi), fun i _ k => by
   have := fold_fit' k (L.take i) (ns.take i) (fitL_take i h) Sv.zero 0 fit_zero (by have := sum_take ns i; omega)
   exact this.mono (by have := sum_take ns i; omega)⟩
theorem ecl2 (e : En) : e.clean.clean = e.clean := clean_fixE (clean_tidyE e)
theorem join_cl (a b : Sv) : Sv.join a.clean b.clean = Sv.join a b := by
 rw [Sv.join_is, Sv.join_is]
 have h1 : En.join a.e.clean b.e.clean = En.join a.e b.e := by unfold En.join; rw [ecl2, ecl2]
 have h2 : Vl.join a.v.of b.v.of = Vl.join a.v b.v := by
  rw [Vl.join_eq, Vl.join_eq, of_rclean, of_rclean]; unfold Vl.rjoin; rw [rclean2, rclean2]; simp only [Vl.rclean, cleanS_idem]
 show (⟨En.join a.e.clean b.e.clean, Vl.join a.v.of b.v.of⟩ : Sv) = _
 rw [h1, h2]
theorem vjoin_of (x y : Vl) : Vl.join x.of y.of = Vl.join x y := by
 rw [Vl.join_eq, Vl.join_eq, of_rclean, of_rclean]; unfold Vl.rjoin; rw [rclean2, rclean2]; simp only [Vl.rclean, cleanS_idem]
theorem rI1 : rI 1 := by unfold rI; decide
def fLv : Nat -> List DV := (fun i => Go.Sx.rowAt 12 [.v (.string ⟨#[103]⟩), .v (.int .i64 (-1)), .v (.bool false), .v (.slice none 0 0), .v (.bool (Sp.of 1 1).some), .v (.int .i64 (Sp.of 1 1).lo), .v (.int .i64 (Sp.of 1 1).hi), .v (.bool (Cg.of 0 1).some), .v (.int .i64 (Cg.of 0 1).m), .v (.int .i64 (Cg.of 0 1).r), .v (.bool false), .lst 1 0 fun i => [st (atS [] i)], .v (.string ⟨#[103]⟩), .v (.int .i64 (-1)), .v (.bool false), .v (.slice none 0 0), .v (.bool (Sp.of 5 5).some), .v (.int .i64 (Sp.of 5 5).lo), .v (.int .i64 (Sp.of 5 5).hi), .v (.bool (Cg.of 0 5).some), .v (.int .i64 (Cg.of 0 5).m), .v (.int .i64 (Cg.of 0 5).r), .v (.bool false), .lst 1 0 fun i => [st (atS [] i)]] (0 + i))
def kLv : Ky := ⟨⟨#[103]⟩, -1⟩
def zLv (n : Int) : Sv := ⟨⟨false, []⟩, numV n⟩
def WV : Vl := Vl.join (numV 1).of (numV 5).of
theorem wv_i : WV.i = ⟨⟨true, 1, 5⟩, ⟨true, 4, 1⟩⟩ := by
 unfold WV Vl.join
 rw [Vl.of_of, Vl.of_of, num_of_i, num_of_i]
 show (⟨Sp.join ⟨true, 1, 1⟩ ⟨true, 5, 5⟩, Cg.join ⟨true, 0, 1⟩ ⟨true, 0, 5⟩⟩ : Ig) = _
 have e1 : Sp.join ⟨true, 1, 1⟩ ⟨true, 5, 5⟩ = ⟨true, 1, 5⟩ := by kernel_rfl
 have e2 : Cg.join ⟨true, 0, 1⟩ ⟨true, 0, 5⟩ = ⟨true, 4, 1⟩ := by kernel_rfl
 rw [e1, e2]
theorem wv_has : Vl.hasInt WV 5 = true /\ Vl.hasInt WV 4 = false := by
 unfold Vl.hasInt
 rw [wv_i]; decide
theorem wv_h5 (b : Bool) (l : List ByteArray) : Vl.hasInt ⟨⟨⟨WV.i.s.some, WV.i.s.lo, WV.i.s.hi⟩, ⟨WV.i.c.some, WV.i.c.m, WV.i.c.r⟩⟩, ⟨b, l⟩⟩ 5 = true := wv_has.1
theorem wv_h4 (b : Bool) (l : List ByteArray) : Vl.hasInt ⟨⟨⟨WV.i.s.some, WV.i.s.lo, WV.i.s.hi⟩, ⟨WV.i.c.some, WV.i.c.m, WV.i.c.r⟩⟩, ⟨b, l⟩⟩ 4 = false := wv_has.2
theorem wv_names : WV.t.names = [] := by
 show ofS (ofS (numV 1).of.t.names ++ ofS (numV 5).of.t.names) = []
 rw [of_names, of_names]
 show ofS (ofS (ofS []) ++ ofS (ofS [])) = []
 rw [ofS_eq, ofS_eq, ofS_eq]; rfl
theorem lv_join : Sv.join (Sv.join Sv.zero (zLv 1)) (zLv 5) = ⟨⟨false, []⟩, WV⟩ := by
 have h1 : Sv.join (zLv 1).clean (zLv 5) = Sv.join (zLv 1) (zLv 5) := by rw [<- join_cl (zLv 1).clean (zLv 5), Sv.clean2, join_cl]
 rw [sjoin_zero, h1, Sv.join_is]
 have e2 : En.join (zLv 1).e (zLv 5).e = ⟨false, []⟩ := by rw [join_case]; rfl
 rw [e2, <- vjoin_of]; rfl
theorem atD_one (x : Sd) : atD [x] 0 = x := rfl
theorem atD_one' (x : Sd) : atD [x] (Int.toNat 0) = x := rfl
theorem lv_none : Sv.none ⟨⟨false, []⟩, WV⟩ = false := by
 unfold Sv.none Vl.none
 have : WV.of = WV := Vl.of_fix (Vl.jn_tidy _ _)
 rw [this, wv_i]; rfl
theorem two_keys (k : Ky) (a b : Sv) : keysOf [⟨k, a⟩, ⟨k, b⟩] = [k.cl] := by
 show putK (putK [] k) k = _
 have e1 : putK [] k = [k.cl] := rfl
 have h := put_split (A := []) (B := [k.cl]) (k := k) (fun a ha => (by cases ha)) fun b hb => by
  obtain rfl := List.mem_singleton.1 hb
  rw [Ky.lt_cl1]; exact Ky.lt_irrefl k
 rw [e1]
 rw [List.nil_append] at h
 rw [h]; simp
theorem two_sum (k : Ky) (a b : Sv) (hn : Sv.none (Sv.join (Sv.join Sv.zero a) b) = false) : sumM [⟨k, a⟩, ⟨k, b⟩] = [⟨k.cl, Sv.join (Sv.join Sv.zero a) b⟩] := by
 have hf : foldJ [⟨k, a⟩, ⟨k, b⟩] k.cl = Sv.join (Sv.join Sv.zero a) b := by
  show (if k.cl = k.cl then _ else _) = _
  rw [if_pos rfl]
  show Sv.join (if k.cl = k.cl then _ else _) b = _
  rw [if_pos rfl]
 unfold sumM sumsK
 rw [two_keys, List.map_cons, List.map_nil, hf]
 simp [hn]
theorem gD_lv : gD 2 fLv = [⟨kLv, zLv 1⟩, ⟨kLv, zLv 5⟩] := by
 have h : ∀ n, (numV n).t.names = [] := fun _ => rfl
 rfl
theorem kLv_eq : (kLv.name.toList == (⟨#[103]⟩ : ByteArray).toList && (kLv.node == -1 && true)) = true := by simp [kLv]
theorem sum_lv : sumM (gD 2 (fun i => Go.Sx.rowAt 12 [.v (.string ⟨#[103]⟩), .v (.int .i64 (-1)), .v (.bool false), .v (.slice none 0 0), .v (.bool (Sp.of 1 1).some), .v (.int .i64 (Sp.of 1 1).lo), .v (.int .i64 (Sp.of 1 1).hi), .v (.bool (Cg.of 0 1).some), .v (.int .i64 (Cg.of 0 1).m), .v (.int .i64 (Cg.of 0 1).r), .v (.bool false), .lst 1 0 fun i => [st (atS [] i)], .v (.string ⟨#[103]⟩), .v (.int .i64 (-1)), .v (.bool false), .v (.slice none 0 0), .v (.bool (Sp.of 5 5).some), .v (.int .i64 (Sp.of 5 5).lo), .v (.int .i64 (Sp.of 5 5).hi), .v (.bool (Cg.of 0 5).some), .v (.int .i64 (Cg.of 0 5).m), .v (.int .i64 (Cg.of 0 5).r), .v (.bool false), .lst 1 0 fun i => [st (atS [] i)]] (0 + i))) = [⟨kLv, ⟨⟨false, []⟩, WV⟩⟩] := by
 show sumM (gD 2 fLv) = _
 rw [gD_lv, two_sum _ _ _ (by rw [lv_join]; exact lv_none), lv_join]; rfl
theorem num_r {n : Int} (h : rI n) : Sv.fit 0 (zLv n) := ⟨fun x hx => (by cases hx), ⟨⟨Nat.zero_le _, fun _ _ => rfl⟩, one_inR (n := n) h⟩, Nat.le_refl _, fun x hx => (by cases hx), Nat.le_refl _⟩
theorem rI5 : rI 5 := by unfold rI; decide
theorem pre_lv : ∃ B, B <= 100000000 /\ (∀ i, i < 2 -> Sv.fit B (atD (gD 2 (fun i => Go.Sx.rowAt 12 [.v (.string ⟨#[103]⟩), .v (.int .i64 (-1)), .v (.bool false), .v (.slice none 0 0), .v (.bool (Sp.of 1 1).some), .v (.int .i64 (Sp.of 1 1).lo), .v (.int .i64 (Sp.of 1 1).hi), .v (.bool (Cg.of 0 1).some), .v (.int .i64 (Cg.of 0 1).m), .v (.int .i64 (Cg.of 0 1).r), .v (.bool false), .lst 1 0 fun i => [st (atS [] i)], .v (.string ⟨#[103]⟩), .v (.int .i64 (-1)), .v (.bool false), .v (.slice none 0 0), .v (.bool (Sp.of 5 5).some), .v (.int .i64 (Sp.of 5 5).lo), .v (.int .i64 (Sp.of 5 5).hi), .v (.bool (Cg.of 0 5).some), .v (.int .i64 (Cg.of 0 5).m), .v (.int .i64 (Cg.of 0 5).r), .v (.bool false), .lst 1 0 fun i => [st (atS [] i)]] (0 + i))) i).s) /\ ∀ i, i <= 2 -> ∀ k, Sv.fit B (foldJ ((gD 2 (fun i => Go.Sx.rowAt 12 [.v (.string ⟨#[103]⟩), .v (.int .i64 (-1)), .v (.bool false), .v (.slice none 0 0), .v (.bool (Sp.of 1 1).some), .v (.int .i64 (Sp.of 1 1).lo), .v (.int .i64 (Sp.of 1 1).hi), .v (.bool (Cg.of 0 1).some), .v (.int .i64 (Cg.of 0 1).m), .v (.int .i64 (Cg.of 0 1).r), .v (.bool false), .lst 1 0 fun i => [st (atS [] i)], .v (.string ⟨#[103]⟩), .v (.int .i64 (-1)), .v (.bool false), .v (.slice none 0 0), .v (.bool (Sp.of 5 5).some), .v (.int .i64 (Sp.of 5 5).lo), .v (.int .i64 (Sp.of 5 5).hi), .v (.bool (Cg.of 0 5).some), .v (.int .i64 (Cg.of 0 5).m), .v (.int .i64 (Cg.of 0 5).r), .v (.bool false), .lst 1 0 fun i => [st (atS [] i)]] (0 + i))).take i) k) := by
 have h : SumPre (gD 2 fLv) [0, 0].sum := fitL_pre (by rw [gD_lv]; exact ⟨num_r rI1, num_r rI5, trivial⟩) (by decide)
 refine ⟨[0, 0].sum, by decide, fun i hi => ?_, fun i hi k => ?_⟩
 . exact h.1 i (by rw [gD_length]; exact hi)
 . exact h.2 i (by rw [gD_length]; exact hi) k
theorem rows_lv : RowsD 2 (fun i => Go.Sx.rowAt 12 [.v (.string ⟨#[103]⟩), .v (.int .i64 (-1)), .v (.bool false), .v (.slice none 0 0), .v (.bool (Sp.of 1 1).some), .v (.int .i64 (Sp.of 1 1).lo), .v (.int .i64 (Sp.of 1 1).hi), .v (.bool (Cg.of 0 1).some), .v (.int .i64 (Cg.of 0 1).m), .v (.int .i64 (Cg.of 0 1).r), .v (.bool false), .lst 1 0 fun i => [st (atS [] i)], .v (.string ⟨#[103]⟩), .v (.int .i64 (-1)), .v (.bool false), .v (.slice none 0 0), .v (.bool (Sp.of 5 5).some), .v (.int .i64 (Sp.of 5 5).lo), .v (.int .i64 (Sp.of 5 5).hi), .v (.bool (Cg.of 0 5).some), .v (.int .i64 (Cg.of 0 5).m), .v (.int .i64 (Cg.of 0 5).r), .v (.bool false), .lst 1 0 fun i => [st (atS [] i)]] (0 + i)) := ⟨fun i hi => by
 have : i = 0 \/ i = 1 := by omega
 have key : ∀ (n : Int), rI n -> rowOkD [st ⟨#[103]⟩, it (-1), bo false, .v (.slice none 0 0), bo (Sp.of n n).some, it (Sp.of n n).lo, it (Sp.of n n).hi, bo (Cg.of 0 n).some, it (Cg.of 0 n).m, it (Cg.of 0 n).r, bo false, .lst 1 0 fun i => [st (atS [] i)]] := fun n hn => by
  refine ⟨⟨rfl, fun j a b ha hb => ?_⟩, ⟨(show rI (-1) by unfold rI; decide), (num_r hn).l, (num_r hn).v, Nat.zero_le _⟩⟩
  match j with
  | 0 => cases ha; cases hb; exact .refl _
  | 1 => cases ha; cases hb; exact .refl _
  | 2 => cases ha; cases hb; exact .refl _
  | 3 => cases ha; cases hb; exact .nil
  | 4 => cases ha; cases hb; exact .refl _
  | 5 => cases ha; cases hb; exact .refl _
  | 6 => cases ha; cases hb; exact .refl _
  | 7 => cases ha; cases hb; exact .refl _
  | 8 => cases ha; cases hb; exact .refl _
  | 9 => cases ha; cases hb; exact .refl _
  | 10 => cases ha; cases hb; exact .refl _
  | 11 => cases ha; cases hb; exact .rows fun i hi => absurd hi (Nat.not_lt_zero i)
  | j + 12 => simp at ha
 rcases this with rfl | rfl
 . exact key 1 rI1
 . exact key 5 rI5⟩
def FCLives : List Ar -> Option Rs
 | [] => some ⟨True, .va (.c (.d (bo (true)))), []⟩
 | _ => none
theorem fcCLives : FC Tryz.prog 33 FCLives := by
 intro xs pre r us h hp
 unfold FCLives at h
 split at h
 . cases h
   refine fcat tys_ok (l := [(59, ⟨[], FVNum⟩), (28, ⟨[], FCSum⟩), (85, ⟨[], FVHasInt⟩)]) ⟨fcVNum, fcCSum, fcVHasInt, trivial⟩ Tryz.func33 rfl (by kernel_rfl) true ?_
   repeat' (first | exact trivial | ((with_reducible show ∃ _ : Nat, _); exact pre_lv) | refine ⟨?_, ?_⟩ | intro _)
   all_goals first | (with_reducible first | apply qa | apply qb | apply qc | apply qd) | (conv => whnf)
   all_goals (try simp only [sum_lv, atD_one, atD_one', wv_names, List.length_nil, List.length_cons, wv_h5, wv_h4] at *)
   all_goals first | omega | decide | exact rows_lv | exact Nat.zero_le _ | (intro h; exact absurd h (Nat.not_lt_zero _)) | (exact absurd ‹_ < 0› (Nat.not_lt_zero _)) | rfl | (exact absurd ‹true = false› (by decide)) | (exact absurd ‹(_ && _) = false› (by decide)) | (exact absurd ‹(_ == _) = false› (by decide)) | skip
   all_goals (exact absurd (kLv_eq.symm.trans ‹(_ && _) = false›) (by decide))
 . cases h
def FCellOps : List Ar -> Option Rs
 | [.agg [.d (.v (.bool e0)), .d (.lst 9 n0 f0), .d (.v (.bool s0)), .d (.v (.int .i64 l0)), .d (.v (.int .i64 h0)), .d (.v (.bool b0)), .d (.v (.int .i64 m0)), .d (.v (.int .i64 r0)), .d (.v (.bool z0)), .d (.lst 1 p0 g0)], .agg [.d (.v (.bool e1)), .d (.lst 9 n1 f1), .d (.v (.bool s1)), .d (.v (.int .i64 l1)), .d (.v (.int .i64 h1)), .d (.v (.bool b1)), .d (.v (.int .i64 m1)), .d (.v (.int .i64 r1)), .d (.v (.bool z1)), .d (.lst 1 p1 g1)], .c (.d (.lst 1 n2 f2))] => some ⟨((n0 <= 1099511627776 /\ RowsOk n0 f0) /\ ((p0 * 16 <= 140737488351232 /\ ∀ i, i < p0 -> g0 i = [st (gT (g0 i))]) /\ Sp.inR ⟨s0, l0, h0⟩ /\ Cg.inR ⟨b0, m0, r0⟩)) /\ ((n1 <= 1099511627776 /\ RowsOk n1 f1) /\ ((p1 * 16 <= 140737488351232 /\ ∀ i, i < p1 -> g1 i = [st (gT (g1 i))]) /\ Sp.inR ⟨s1, l1, h1⟩ /\ Cg.inR ⟨b1, m1, r1⟩)) /\ (n2 <= 9223372036854775807 /\ ∀ i, i < n2 -> f2 i = [it (gI (f2 i))] /\ rI (gI (f2 i))) /\ (∃ N, N <= 300000000 /\ Sv.fit N (⟨⟨e0, gBs n0 f0⟩, ⟨⟨⟨s0, l0, h0⟩, ⟨b0, m0, r0⟩⟩, ⟨z0, gN p0 g0⟩⟩⟩ : Sv) /\ Sv.fit N (⟨⟨e1, gBs n1 f1⟩, ⟨⟨⟨s1, l1, h1⟩, ⟨b1, m1, r1⟩⟩, ⟨z1, gN p1 g1⟩⟩⟩ : Sv)), .va (.c (.d (bo (true)))), []⟩
 | _ => none
theorem fcCellOps : FC Tryz.prog 11 FCellOps := by
 intro xs pre r us h hp
 unfold FCellOps at h
 split at h
 . rename_i e0 n0 f0 s0 l0 h0 b0 m0 r0 z0 p0 g0 e1 n1 f1 s1 l1 h1 b1 m1 r1 z1 p1 g1 n2 f2
   cases h
   obtain ⟨hp0, hp1, hp2, hp3⟩ := hp
   refine FCat.deep (ys := [.agg [.d (.v (.bool e0)), .d (.lst 9 n0 (rwB (gBs n0 f0))), .d (.v (.bool s0)), .d (.v (.int .i64 l0)), .d (.v (.int .i64 h0)), .d (.v (.bool b0)), .d (.v (.int .i64 m0)), .d (.v (.int .i64 r0)), .d (.v (.bool z0)), .d (.lst 1 p0 fun i => [st (gT (g0 i))])], .agg [.d (.v (.bool e1)), .d (.lst 9 n1 (rwB (gBs n1 f1))), .d (.v (.bool s1)), .d (.v (.int .i64 l1)), .d (.v (.int .i64 h1)), .d (.v (.bool b1)), .d (.v (.int .i64 m1)), .d (.v (.int .i64 r1)), .d (.v (.bool z1)), .d (.lst 1 p1 fun i => [st (gT (g1 i))])], .c (.d (.lst 1 n2 fun i => [it (gI (f2 i))]))]) ?_ ?_
   . repeat' (first | exact trivial | exact rfl | exact DvE.refl _ | refine ⟨?_, ?_⟩ | fail)
     all_goals first | first | exact canonB hp0.1.2.h | (exact .rows fun i hi => by rw [hp0.2.1.2 i hi]; exact ⟨rfl, fun j a b ha hb => by have hb : [st (gT (g0 i))][j]? = some b := hb; rw [ha] at hb; cases hb; exact .refl _⟩) | exact canonB hp1.1.2.h | (exact .rows fun i hi => by rw [hp1.2.1.2 i hi]; exact ⟨rfl, fun j a b ha hb => by have hb : [st (gT (g1 i))][j]? = some b := hb; rw [ha] at hb; cases hb; exact .refl _⟩) | (exact .rows fun i hi => by rw [(hp2.2 i hi).1]; exact ⟨rfl, fun j a b ha hb => by have hb : [it (gI (f2 i))][j]? = some b := hb; rw [ha] at hb; cases hb; exact .refl _⟩)
   refine fcat tys_ok (l := [(48, ⟨[], FTClean⟩), (49, ⟨[], FRTClean⟩), (36, ⟨[], FRTExact⟩), (50, ⟨[], FTNone⟩), (31, ⟨[], FRTNone⟩), (40, ⟨[], FTLeq⟩), (30, ⟨[], FRTLeq⟩), (51, ⟨[], FTSame⟩), (52, ⟨[], FTJoin⟩), (53, ⟨[], FN 1 FRTOp⟩), (54, ⟨[], FTWiden⟩), (55, ⟨[], FTNarrow⟩), (33, ⟨[], FCLives⟩)]) ⟨fcTClean, fcRTClean, fcRTExact, fcTNone, fcRTNone, fcTLeq, fcRTLeq, fcTSame, fcTJoin, fc_nil 1 fcRTOp, fcTWiden, fcTNarrow, fcCLives, trivial⟩ Tryz.func11 rfl (by kernel_rfl) true ?_
   obtain ⟨N, hN, hfa, hfb⟩ := hp3
   have hcan : ∀ i, i < n2 -> (fun i => [it (gI (f2 i))]) i = [it (gI ((fun i => [it (gI (f2 i))]) i))] /\ rI (gI ((fun i => [it (gI (f2 i))]) i)) := fun i hi => ⟨rfl, (hp2.2 i hi).2⟩
   have hlad : ∀ z, z ∈ (gL n2 (fun i => [it (gI (f2 i))])) -> rI z := fun z hz => gL_r hcan z hz
   have hA0 := hp0.1
   have hV0 := hp0.2
   have hvR0 := hV0.2
   simp only [Sp.inR, Cg.inR] at hvR0
   have hL0 := okL_rows hA0.2
   have hn0 := hA0.1
   have hlen0 := gBs_length n0 f0
   generalize gBs n0 f0 = L at *
   clear hA0 hp0
   subst hlen0
   have hrow0 := okL_row hL0
   have hvok0 : okV (⟨⟨⟨s0, l0, h0⟩, ⟨b0, m0, r0⟩⟩, ⟨z0, gN p0 fun i => [st (gT (g0 i))]⟩⟩ : Vl) := ⟨⟨(by rw [gN_length]; exact hV0.1.1), fun _ _ => rfl⟩, hV0.2⟩
   have hcr0 := okL_row (clean_ok (e := ⟨e0, L⟩) hL0)
   have hcl0 : (En.clean ⟨e0, L⟩).binds.length <= L.length := clean_len ⟨e0, L⟩
   have hA1 := hp1.1
   have hV1 := hp1.2
   have hvR1 := hV1.2
   simp only [Sp.inR, Cg.inR] at hvR1
   have hL1 := okL_rows hA1.2
   have hn1 := hA1.1
   have hlen1 := gBs_length n1 f1
   generalize gBs n1 f1 = M at *
   clear hA1 hp1
   subst hlen1
   have hrow1 := okL_row hL1
   have hvok1 : okV (⟨⟨⟨s1, l1, h1⟩, ⟨b1, m1, r1⟩⟩, ⟨z1, gN p1 fun i => [st (gT (g1 i))]⟩⟩ : Vl) := ⟨⟨(by rw [gN_length]; exact hV1.1.1), fun _ _ => rfl⟩, hV1.2⟩
   have hcr1 := okL_row (clean_ok (e := ⟨e1, M⟩) hL1)
   have hcl1 : (En.clean ⟨e1, M⟩).binds.length <= M.length := clean_len ⟨e1, M⟩
   have oS : Sv.fit (N) (⟨⟨e0, gBs L.length (rwB L)⟩, (⟨⟨⟨s0, l0, h0⟩, ⟨b0, m0, r0⟩⟩, ⟨z0, gN p0 fun i => [st (gT (g0 i))]⟩⟩ : Vl)⟩ : Sv) := by rw [gBs_row]; exact hfa
   have cS : ((L).length <= 1099511627776 /\ RowsOk (L).length (rwB L)) /\ ((p0 * 16 <= 140737488351232 /\ ∀ i, i < p0 -> [st (gT (g0 i))] = [st (gT [st (gT (g0 i))])]) /\ Sp.inR ⟨s0, l0, h0⟩ /\ Cg.inR ⟨b0, m0, r0⟩) := ⟨⟨hn0, hrow0⟩, ⟨⟨hV0.1.1, fun _ _ => rfl⟩, hV0.2⟩⟩
   have oU : Sv.fit (N) (⟨⟨e1, gBs M.length (rwB M)⟩, (⟨⟨⟨s1, l1, h1⟩, ⟨b1, m1, r1⟩⟩, ⟨z1, gN p1 fun i => [st (gT (g1 i))]⟩⟩ : Vl)⟩ : Sv) := by rw [gBs_row]; exact hfb
   have cU : ((M).length <= 1099511627776 /\ RowsOk (M).length (rwB M)) /\ ((p1 * 16 <= 140737488351232 /\ ∀ i, i < p1 -> [st (gT (g1 i))] = [st (gT [st (gT (g1 i))])]) /\ Sp.inR ⟨s1, l1, h1⟩ /\ Cg.inR ⟨b1, m1, r1⟩) := ⟨⟨hn1, hrow1⟩, ⟨⟨hV1.1.1, fun _ _ => rfl⟩, hV1.2⟩⟩
   have oC : Sv.fit (N) (Sv.again ((Sv.clean (⟨⟨e0, gBs L.length (rwB L)⟩, (⟨⟨⟨s0, l0, h0⟩, ⟨b0, m0, r0⟩⟩, ⟨z0, gN p0 fun i => [st (gT (g0 i))]⟩⟩ : Vl)⟩ : Sv)))) := (oS.clean).ag
   have cC := Sv.fit.cond (s := (Sv.clean (⟨⟨e0, gBs L.length (rwB L)⟩, (⟨⟨⟨s0, l0, h0⟩, ⟨b0, m0, r0⟩⟩, ⟨z0, gN p0 fun i => [st (gT (g0 i))]⟩⟩ : Vl)⟩ : Sv))) (by have := oC; rw [Sv.again_eq] at this; exact this) (by omega)
   have oD : Sv.fit (N) (Sv.again ((Sv.rclean (⟨⟨e0, gBs L.length (rwB L)⟩, (⟨⟨⟨s0, l0, h0⟩, ⟨b0, m0, r0⟩⟩, ⟨z0, gN p0 fun i => [st (gT (g0 i))]⟩⟩ : Vl)⟩ : Sv)))) := ((show Sv.fit N (Sv.rclean (⟨⟨e0, gBs L.length (rwB L)⟩, (⟨⟨⟨s0, l0, h0⟩, ⟨b0, m0, r0⟩⟩, ⟨z0, gN p0 fun i => [st (gT (g0 i))]⟩⟩ : Vl)⟩ : Sv)) by rw [<- Sv.clean_eq]; exact oS.clean)).ag
   have cD := Sv.fit.cond (s := (Sv.rclean (⟨⟨e0, gBs L.length (rwB L)⟩, (⟨⟨⟨s0, l0, h0⟩, ⟨b0, m0, r0⟩⟩, ⟨z0, gN p0 fun i => [st (gT (g0 i))]⟩⟩ : Vl)⟩ : Sv))) (by have := oD; rw [Sv.again_eq] at this; exact this) (by omega)
   have oJ : Sv.fit (N + N) (Sv.again ((Sv.join (⟨⟨e0, gBs L.length (rwB L)⟩, (⟨⟨⟨s0, l0, h0⟩, ⟨b0, m0, r0⟩⟩, ⟨z0, gN p0 fun i => [st (gT (g0 i))]⟩⟩ : Vl)⟩ : Sv) (⟨⟨e1, gBs M.length (rwB M)⟩, (⟨⟨⟨s1, l1, h1⟩, ⟨b1, m1, r1⟩⟩, ⟨z1, gN p1 fun i => [st (gT (g1 i))]⟩⟩ : Vl)⟩ : Sv)))) := (oS.join oU (by omega)).ag
   have cJ := Sv.fit.cond (s := (Sv.join (⟨⟨e0, gBs L.length (rwB L)⟩, (⟨⟨⟨s0, l0, h0⟩, ⟨b0, m0, r0⟩⟩, ⟨z0, gN p0 fun i => [st (gT (g0 i))]⟩⟩ : Vl)⟩ : Sv) (⟨⟨e1, gBs M.length (rwB M)⟩, (⟨⟨⟨s1, l1, h1⟩, ⟨b1, m1, r1⟩⟩, ⟨z1, gN p1 fun i => [st (gT (g1 i))]⟩⟩ : Vl)⟩ : Sv))) (by have := oJ; rw [Sv.again_eq] at this; exact this) (by omega)
   have oA : Sv.fit (N + N) (Sv.again ((Sv.rop 0 (⟨⟨e0, gBs L.length (rwB L)⟩, (⟨⟨⟨s0, l0, h0⟩, ⟨b0, m0, r0⟩⟩, ⟨z0, gN p0 fun i => [st (gT (g0 i))]⟩⟩ : Vl)⟩ : Sv) (⟨⟨e1, gBs M.length (rwB M)⟩, (⟨⟨⟨s1, l1, h1⟩, ⟨b1, m1, r1⟩⟩, ⟨z1, gN p1 fun i => [st (gT (g1 i))]⟩⟩ : Vl)⟩ : Sv) (gL 0 fun _ => [])))) := ((show Sv.fit (N + N) (Sv.rop 0 (⟨⟨e0, gBs L.length (rwB L)⟩, (⟨⟨⟨s0, l0, h0⟩, ⟨b0, m0, r0⟩⟩, ⟨z0, gN p0 fun i => [st (gT (g0 i))]⟩⟩ : Vl)⟩ : Sv) (⟨⟨e1, gBs M.length (rwB M)⟩, (⟨⟨⟨s1, l1, h1⟩, ⟨b1, m1, r1⟩⟩, ⟨z1, gN p1 fun i => [st (gT (g1 i))]⟩⟩ : Vl)⟩ : Sv) (gL 0 fun _ => [])) by rw [<- Sv.join_ref]; exact oS.join oU (by omega))).ag
   have cA := Sv.fit.cond (s := (Sv.rop 0 (⟨⟨e0, gBs L.length (rwB L)⟩, (⟨⟨⟨s0, l0, h0⟩, ⟨b0, m0, r0⟩⟩, ⟨z0, gN p0 fun i => [st (gT (g0 i))]⟩⟩ : Vl)⟩ : Sv) (⟨⟨e1, gBs M.length (rwB M)⟩, (⟨⟨⟨s1, l1, h1⟩, ⟨b1, m1, r1⟩⟩, ⟨z1, gN p1 fun i => [st (gT (g1 i))]⟩⟩ : Vl)⟩ : Sv) (gL 0 fun _ => []))) (by have := oA; rw [Sv.again_eq] at this; exact this) (by omega)
   have oW : Sv.fit (N + N) (Sv.again ((Sv.widen (⟨⟨e0, gBs L.length (rwB L)⟩, (⟨⟨⟨s0, l0, h0⟩, ⟨b0, m0, r0⟩⟩, ⟨z0, gN p0 fun i => [st (gT (g0 i))]⟩⟩ : Vl)⟩ : Sv) (⟨⟨e1, gBs M.length (rwB M)⟩, (⟨⟨⟨s1, l1, h1⟩, ⟨b1, m1, r1⟩⟩, ⟨z1, gN p1 fun i => [st (gT (g1 i))]⟩⟩ : Vl)⟩ : Sv) (gL n2 (fun i => [it (gI (f2 i))]))))) := (oS.widen oU (by omega) hlad).ag
   have cW := Sv.fit.cond (s := (Sv.widen (⟨⟨e0, gBs L.length (rwB L)⟩, (⟨⟨⟨s0, l0, h0⟩, ⟨b0, m0, r0⟩⟩, ⟨z0, gN p0 fun i => [st (gT (g0 i))]⟩⟩ : Vl)⟩ : Sv) (⟨⟨e1, gBs M.length (rwB M)⟩, (⟨⟨⟨s1, l1, h1⟩, ⟨b1, m1, r1⟩⟩, ⟨z1, gN p1 fun i => [st (gT (g1 i))]⟩⟩ : Vl)⟩ : Sv) (gL n2 (fun i => [it (gI (f2 i))])))) (by have := oW; rw [Sv.again_eq] at this; exact this) (by omega)
   have oB : Sv.fit (N + N) (Sv.again ((Sv.rop 1 (⟨⟨e0, gBs L.length (rwB L)⟩, (⟨⟨⟨s0, l0, h0⟩, ⟨b0, m0, r0⟩⟩, ⟨z0, gN p0 fun i => [st (gT (g0 i))]⟩⟩ : Vl)⟩ : Sv) (⟨⟨e1, gBs M.length (rwB M)⟩, (⟨⟨⟨s1, l1, h1⟩, ⟨b1, m1, r1⟩⟩, ⟨z1, gN p1 fun i => [st (gT (g1 i))]⟩⟩ : Vl)⟩ : Sv) (gL n2 (fun i => [it (gI (f2 i))]))))) := ((show Sv.fit (N + N) (Sv.rop 1 (⟨⟨e0, gBs L.length (rwB L)⟩, (⟨⟨⟨s0, l0, h0⟩, ⟨b0, m0, r0⟩⟩, ⟨z0, gN p0 fun i => [st (gT (g0 i))]⟩⟩ : Vl)⟩ : Sv) (⟨⟨e1, gBs M.length (rwB M)⟩, (⟨⟨⟨s1, l1, h1⟩, ⟨b1, m1, r1⟩⟩, ⟨z1, gN p1 fun i => [st (gT (g1 i))]⟩⟩ : Vl)⟩ : Sv) (gL n2 (fun i => [it (gI (f2 i))]))) by rw [<- Sv.widen_ref (gL n2 (fun i => [it (gI (f2 i))])) oU.inRE oU.inR]; exact oS.widen oU (by omega) hlad)).ag
   have cB := Sv.fit.cond (s := (Sv.rop 1 (⟨⟨e0, gBs L.length (rwB L)⟩, (⟨⟨⟨s0, l0, h0⟩, ⟨b0, m0, r0⟩⟩, ⟨z0, gN p0 fun i => [st (gT (g0 i))]⟩⟩ : Vl)⟩ : Sv) (⟨⟨e1, gBs M.length (rwB M)⟩, (⟨⟨⟨s1, l1, h1⟩, ⟨b1, m1, r1⟩⟩, ⟨z1, gN p1 fun i => [st (gT (g1 i))]⟩⟩ : Vl)⟩ : Sv) (gL n2 (fun i => [it (gI (f2 i))])))) (by have := oB; rw [Sv.again_eq] at this; exact this) (by omega)
   have oP : Sv.fit (N + N) (Sv.again ((Sv.narrow (⟨⟨e0, gBs L.length (rwB L)⟩, (⟨⟨⟨s0, l0, h0⟩, ⟨b0, m0, r0⟩⟩, ⟨z0, gN p0 fun i => [st (gT (g0 i))]⟩⟩ : Vl)⟩ : Sv) (⟨⟨e1, gBs M.length (rwB M)⟩, (⟨⟨⟨s1, l1, h1⟩, ⟨b1, m1, r1⟩⟩, ⟨z1, gN p1 fun i => [st (gT (g1 i))]⟩⟩ : Vl)⟩ : Sv)))) := (oS.narrow oU).ag
   have cP := Sv.fit.cond (s := (Sv.narrow (⟨⟨e0, gBs L.length (rwB L)⟩, (⟨⟨⟨s0, l0, h0⟩, ⟨b0, m0, r0⟩⟩, ⟨z0, gN p0 fun i => [st (gT (g0 i))]⟩⟩ : Vl)⟩ : Sv) (⟨⟨e1, gBs M.length (rwB M)⟩, (⟨⟨⟨s1, l1, h1⟩, ⟨b1, m1, r1⟩⟩, ⟨z1, gN p1 fun i => [st (gT (g1 i))]⟩⟩ : Vl)⟩ : Sv))) (by have := oP; rw [Sv.again_eq] at this; exact this) (by omega)
   have oQ : Sv.fit (N + N) (Sv.again ((Sv.rop 2 (⟨⟨e0, gBs L.length (rwB L)⟩, (⟨⟨⟨s0, l0, h0⟩, ⟨b0, m0, r0⟩⟩, ⟨z0, gN p0 fun i => [st (gT (g0 i))]⟩⟩ : Vl)⟩ : Sv) (⟨⟨e1, gBs M.length (rwB M)⟩, (⟨⟨⟨s1, l1, h1⟩, ⟨b1, m1, r1⟩⟩, ⟨z1, gN p1 fun i => [st (gT (g1 i))]⟩⟩ : Vl)⟩ : Sv) (gL 0 fun _ => [])))) := ((show Sv.fit (N + N) (Sv.rop 2 (⟨⟨e0, gBs L.length (rwB L)⟩, (⟨⟨⟨s0, l0, h0⟩, ⟨b0, m0, r0⟩⟩, ⟨z0, gN p0 fun i => [st (gT (g0 i))]⟩⟩ : Vl)⟩ : Sv) (⟨⟨e1, gBs M.length (rwB M)⟩, (⟨⟨⟨s1, l1, h1⟩, ⟨b1, m1, r1⟩⟩, ⟨z1, gN p1 fun i => [st (gT (g1 i))]⟩⟩ : Vl)⟩ : Sv) (gL 0 fun _ => [])) by rw [<- Sv.narrow_ref]; exact oS.narrow oU)).ag
   have cQ := Sv.fit.cond (s := (Sv.rop 2 (⟨⟨e0, gBs L.length (rwB L)⟩, (⟨⟨⟨s0, l0, h0⟩, ⟨b0, m0, r0⟩⟩, ⟨z0, gN p0 fun i => [st (gT (g0 i))]⟩⟩ : Vl)⟩ : Sv) (⟨⟨e1, gBs M.length (rwB M)⟩, (⟨⟨⟨s1, l1, h1⟩, ⟨b1, m1, r1⟩⟩, ⟨z1, gN p1 fun i => [st (gT (g1 i))]⟩⟩ : Vl)⟩ : Sv) (gL 0 fun _ => []))) (by have := oQ; rw [Sv.again_eq] at this; exact this) (by omega)
   have pSU := Sv.fit.pair oS oU (by omega)
   have qSU : L.length + M.length <= 1099511627776 := by have := pSU.s; simpa only [gBs_length] using this
   have ye1 : (Sv.again ((Sv.clean (⟨⟨e0, gBs L.length (rwB L)⟩, (⟨⟨⟨s0, l0, h0⟩, ⟨b0, m0, r0⟩⟩, ⟨z0, gN p0 fun i => [st (gT (g0 i))]⟩⟩ : Vl)⟩ : Sv)))) = (Sv.again ((Sv.rclean (⟨⟨e0, gBs L.length (rwB L)⟩, (⟨⟨⟨s0, l0, h0⟩, ⟨b0, m0, r0⟩⟩, ⟨z0, gN p0 fun i => [st (gT (g0 i))]⟩⟩ : Vl)⟩ : Sv)))) := by rw [Sv.clean_eq]
   have ye2 : (Sv.again ((Sv.join (⟨⟨e0, gBs L.length (rwB L)⟩, (⟨⟨⟨s0, l0, h0⟩, ⟨b0, m0, r0⟩⟩, ⟨z0, gN p0 fun i => [st (gT (g0 i))]⟩⟩ : Vl)⟩ : Sv) (⟨⟨e1, gBs M.length (rwB M)⟩, (⟨⟨⟨s1, l1, h1⟩, ⟨b1, m1, r1⟩⟩, ⟨z1, gN p1 fun i => [st (gT (g1 i))]⟩⟩ : Vl)⟩ : Sv)))) = (Sv.again ((Sv.rop 0 (⟨⟨e0, gBs L.length (rwB L)⟩, (⟨⟨⟨s0, l0, h0⟩, ⟨b0, m0, r0⟩⟩, ⟨z0, gN p0 fun i => [st (gT (g0 i))]⟩⟩ : Vl)⟩ : Sv) (⟨⟨e1, gBs M.length (rwB M)⟩, (⟨⟨⟨s1, l1, h1⟩, ⟨b1, m1, r1⟩⟩, ⟨z1, gN p1 fun i => [st (gT (g1 i))]⟩⟩ : Vl)⟩ : Sv) (gL 0 fun _ => [])))) := by rw [Sv.join_ref (⟨⟨e0, gBs L.length (rwB L)⟩, (⟨⟨⟨s0, l0, h0⟩, ⟨b0, m0, r0⟩⟩, ⟨z0, gN p0 fun i => [st (gT (g0 i))]⟩⟩ : Vl)⟩ : Sv) (⟨⟨e1, gBs M.length (rwB M)⟩, (⟨⟨⟨s1, l1, h1⟩, ⟨b1, m1, r1⟩⟩, ⟨z1, gN p1 fun i => [st (gT (g1 i))]⟩⟩ : Vl)⟩ : Sv) (gL 0 fun _ => [])]
   have ye3 : (Sv.again ((Sv.widen (⟨⟨e0, gBs L.length (rwB L)⟩, (⟨⟨⟨s0, l0, h0⟩, ⟨b0, m0, r0⟩⟩, ⟨z0, gN p0 fun i => [st (gT (g0 i))]⟩⟩ : Vl)⟩ : Sv) (⟨⟨e1, gBs M.length (rwB M)⟩, (⟨⟨⟨s1, l1, h1⟩, ⟨b1, m1, r1⟩⟩, ⟨z1, gN p1 fun i => [st (gT (g1 i))]⟩⟩ : Vl)⟩ : Sv) (gL n2 (fun i => [it (gI (f2 i))]))))) = (Sv.again ((Sv.rop 1 (⟨⟨e0, gBs L.length (rwB L)⟩, (⟨⟨⟨s0, l0, h0⟩, ⟨b0, m0, r0⟩⟩, ⟨z0, gN p0 fun i => [st (gT (g0 i))]⟩⟩ : Vl)⟩ : Sv) (⟨⟨e1, gBs M.length (rwB M)⟩, (⟨⟨⟨s1, l1, h1⟩, ⟨b1, m1, r1⟩⟩, ⟨z1, gN p1 fun i => [st (gT (g1 i))]⟩⟩ : Vl)⟩ : Sv) (gL n2 (fun i => [it (gI (f2 i))]))))) := by rw [Sv.widen_ref (gL n2 (fun i => [it (gI (f2 i))])) oU.inRE oU.inR]
   have ye4 : (Sv.again ((Sv.narrow (⟨⟨e0, gBs L.length (rwB L)⟩, (⟨⟨⟨s0, l0, h0⟩, ⟨b0, m0, r0⟩⟩, ⟨z0, gN p0 fun i => [st (gT (g0 i))]⟩⟩ : Vl)⟩ : Sv) (⟨⟨e1, gBs M.length (rwB M)⟩, (⟨⟨⟨s1, l1, h1⟩, ⟨b1, m1, r1⟩⟩, ⟨z1, gN p1 fun i => [st (gT (g1 i))]⟩⟩ : Vl)⟩ : Sv)))) = (Sv.again ((Sv.rop 2 (⟨⟨e0, gBs L.length (rwB L)⟩, (⟨⟨⟨s0, l0, h0⟩, ⟨b0, m0, r0⟩⟩, ⟨z0, gN p0 fun i => [st (gT (g0 i))]⟩⟩ : Vl)⟩ : Sv) (⟨⟨e1, gBs M.length (rwB M)⟩, (⟨⟨⟨s1, l1, h1⟩, ⟨b1, m1, r1⟩⟩, ⟨z1, gN p1 fun i => [st (gT (g1 i))]⟩⟩ : Vl)⟩ : Sv) (gL 0 fun _ => [])))) := by rw [Sv.narrow_ref (⟨⟨e0, gBs L.length (rwB L)⟩, (⟨⟨⟨s0, l0, h0⟩, ⟨b0, m0, r0⟩⟩, ⟨z0, gN p0 fun i => [st (gT (g0 i))]⟩⟩ : Vl)⟩ : Sv) (⟨⟨e1, gBs M.length (rwB M)⟩, (⟨⟨⟨s1, l1, h1⟩, ⟨b1, m1, r1⟩⟩, ⟨z1, gN p1 fun i => [st (gT (g1 i))]⟩⟩ : Vl)⟩ : Sv) (gL 0 fun _ => [])]
   have yb1 : (Sv.none (⟨⟨e0, gBs L.length (rwB L)⟩, (⟨⟨⟨s0, l0, h0⟩, ⟨b0, m0, r0⟩⟩, ⟨z0, gN p0 fun i => [st (gT (g0 i))]⟩⟩ : Vl)⟩ : Sv) == Sv.rnone (⟨⟨e0, gBs L.length (rwB L)⟩, (⟨⟨⟨s0, l0, h0⟩, ⟨b0, m0, r0⟩⟩, ⟨z0, gN p0 fun i => [st (gT (g0 i))]⟩⟩ : Vl)⟩ : Sv)) = true := by rw [Sv.none_eq]; exact beq_self_eq_true _
   have yb2 : (Sv.leq (⟨⟨e0, gBs L.length (rwB L)⟩, (⟨⟨⟨s0, l0, h0⟩, ⟨b0, m0, r0⟩⟩, ⟨z0, gN p0 fun i => [st (gT (g0 i))]⟩⟩ : Vl)⟩ : Sv) (⟨⟨e1, gBs M.length (rwB M)⟩, (⟨⟨⟨s1, l1, h1⟩, ⟨b1, m1, r1⟩⟩, ⟨z1, gN p1 fun i => [st (gT (g1 i))]⟩⟩ : Vl)⟩ : Sv) == Sv.rleq (⟨⟨e0, gBs L.length (rwB L)⟩, (⟨⟨⟨s0, l0, h0⟩, ⟨b0, m0, r0⟩⟩, ⟨z0, gN p0 fun i => [st (gT (g0 i))]⟩⟩ : Vl)⟩ : Sv) (⟨⟨e1, gBs M.length (rwB M)⟩, (⟨⟨⟨s1, l1, h1⟩, ⟨b1, m1, r1⟩⟩, ⟨z1, gN p1 fun i => [st (gT (g1 i))]⟩⟩ : Vl)⟩ : Sv)) = true := by rw [Sv.leq_eq]; exact beq_self_eq_true _
   have yb3 : Sv.rleq (⟨⟨e0, gBs L.length (rwB L)⟩, (⟨⟨⟨s0, l0, h0⟩, ⟨b0, m0, r0⟩⟩, ⟨z0, gN p0 fun i => [st (gT (g0 i))]⟩⟩ : Vl)⟩ : Sv) (⟨⟨e1, gBs M.length (rwB M)⟩, (⟨⟨⟨s1, l1, h1⟩, ⟨b1, m1, r1⟩⟩, ⟨z1, gN p1 fun i => [st (gT (g1 i))]⟩⟩ : Vl)⟩ : Sv) = true -> (Sv.same (⟨⟨e0, gBs L.length (rwB L)⟩, (⟨⟨⟨s0, l0, h0⟩, ⟨b0, m0, r0⟩⟩, ⟨z0, gN p0 fun i => [st (gT (g0 i))]⟩⟩ : Vl)⟩ : Sv) (⟨⟨e1, gBs M.length (rwB M)⟩, (⟨⟨⟨s1, l1, h1⟩, ⟨b1, m1, r1⟩⟩, ⟨z1, gN p1 fun i => [st (gT (g1 i))]⟩⟩ : Vl)⟩ : Sv) == Sv.rleq (⟨⟨e1, gBs M.length (rwB M)⟩, (⟨⟨⟨s1, l1, h1⟩, ⟨b1, m1, r1⟩⟩, ⟨z1, gN p1 fun i => [st (gT (g1 i))]⟩⟩ : Vl)⟩ : Sv) (⟨⟨e0, gBs L.length (rwB L)⟩, (⟨⟨⟨s0, l0, h0⟩, ⟨b0, m0, r0⟩⟩, ⟨z0, gN p0 fun i => [st (gT (g0 i))]⟩⟩ : Vl)⟩ : Sv)) = true := fun h => by unfold Sv.same; rw [Sv.leq_eq, Sv.leq_eq, h]; exact beq_self_eq_true _
   have yb4 : Sv.rleq (⟨⟨e0, gBs L.length (rwB L)⟩, (⟨⟨⟨s0, l0, h0⟩, ⟨b0, m0, r0⟩⟩, ⟨z0, gN p0 fun i => [st (gT (g0 i))]⟩⟩ : Vl)⟩ : Sv) (⟨⟨e1, gBs M.length (rwB M)⟩, (⟨⟨⟨s1, l1, h1⟩, ⟨b1, m1, r1⟩⟩, ⟨z1, gN p1 fun i => [st (gT (g1 i))]⟩⟩ : Vl)⟩ : Sv) = false -> (Sv.same (⟨⟨e0, gBs L.length (rwB L)⟩, (⟨⟨⟨s0, l0, h0⟩, ⟨b0, m0, r0⟩⟩, ⟨z0, gN p0 fun i => [st (gT (g0 i))]⟩⟩ : Vl)⟩ : Sv) (⟨⟨e1, gBs M.length (rwB M)⟩, (⟨⟨⟨s1, l1, h1⟩, ⟨b1, m1, r1⟩⟩, ⟨z1, gN p1 fun i => [st (gT (g1 i))]⟩⟩ : Vl)⟩ : Sv) == false) = true := fun h => by unfold Sv.same; rw [Sv.leq_eq, h]; rfl
   cases hd : Sv.rleq (⟨⟨e0, gBs L.length (rwB L)⟩, (⟨⟨⟨s0, l0, h0⟩, ⟨b0, m0, r0⟩⟩, ⟨z0, gN p0 fun i => [st (gT (g0 i))]⟩⟩ : Vl)⟩ : Sv) (⟨⟨e1, gBs M.length (rwB M)⟩, (⟨⟨⟨s1, l1, h1⟩, ⟨b1, m1, r1⟩⟩, ⟨z1, gN p1 fun i => [st (gT (g1 i))]⟩⟩ : Vl)⟩ : Sv) with
   | true =>
     have yb5 := yb3 hd
     clear yb3 yb4
     repeat' (first | exact trivial | (with_reducible first | exact (fun h => absurd (yb1.symm.trans h) (by decide)) | exact (fun h => absurd (yb2.symm.trans h) (by decide)) | exact (fun h => absurd (yb5.symm.trans h) (by decide)) | exact (fun h => absurd (hd.symm.trans h) (by decide)) | exact (fun h => absurd (h : true = false) (by decide)) | exact cS | exact cU | exact cC | exact cD | exact cJ | exact cA | exact cW | exact cB | exact cP | exact cQ | exact pSU.r | exact pSU.q | exact qSU | exact hp2 | exact hp2.1 | exact ye1 | exact ye2 | exact ye3 | exact ye4) | refine ⟨?_, ?_⟩ | intro _)
     all_goals first | (with_reducible first | apply qa | apply qb | apply qc | apply qd) | (conv => whnf)
     all_goals first | exact hrow0 | exact hn0 | exact hV0.1.1 | exact hvR0.1.1 | exact hvR0.1.2 | exact hvR0.2.1 | exact hvR0.2.2 | exact hcr0 | exact hrow1 | exact hn1 | exact hV1.1.1 | exact hvR1.1.1 | exact hvR1.1.2 | exact hvR1.2.1 | exact hvR1.2.2 | exact hcr1 | exact hp2.1 | exact (hcan _ ‹_›).1 | exact (hcan _ ‹_›).2 | exact (hcan _ ‹_›).2.1 | exact (hcan _ ‹_›).2.2 | omega | (intro i hi; rfl) | rfl | (exact absurd ‹true = false› (by decide)) | (intro h; exact absurd h (Nat.not_lt_zero _)) | (exfalso; simp_all; done)
   | false =>
     have yb5 := yb4 hd
     clear yb3 yb4
     repeat' (first | exact trivial | (with_reducible first | exact (fun h => absurd (yb1.symm.trans h) (by decide)) | exact (fun h => absurd (yb2.symm.trans h) (by decide)) | exact (fun h => absurd (yb5.symm.trans h) (by decide)) | exact (fun h => absurd (hd.symm.trans h) (by decide)) | exact (fun h => absurd (h : true = false) (by decide)) | exact cS | exact cU | exact cC | exact cD | exact cJ | exact cA | exact cW | exact cB | exact cP | exact cQ | exact pSU.r | exact pSU.q | exact qSU | exact hp2 | exact hp2.1 | exact ye1 | exact ye2 | exact ye3 | exact ye4) | refine ⟨?_, ?_⟩ | intro _)
     all_goals first | (with_reducible first | apply qa | apply qb | apply qc | apply qd) | (conv => whnf)
     all_goals first | exact hrow0 | exact hn0 | exact hV0.1.1 | exact hvR0.1.1 | exact hvR0.1.2 | exact hvR0.2.1 | exact hvR0.2.2 | exact hcr0 | exact hrow1 | exact hn1 | exact hV1.1.1 | exact hvR1.1.1 | exact hvR1.1.2 | exact hvR1.2.1 | exact hvR1.2.2 | exact hcr1 | exact hp2.1 | exact (hcan _ ‹_›).1 | exact (hcan _ ‹_›).2 | exact (hcan _ ‹_›).2.1 | exact (hcan _ ‹_›).2.2 | omega | (intro i hi; rfl) | rfl | (exact absurd ‹true = false› (by decide)) | (intro h; exact absurd h (Nat.not_lt_zero _)) | (exfalso; simp_all; done)
 . cases h
end Go.Proofs.YthkknkhpfffnbaaGreat
