/- What the layer of cells computes: clean, nothing, below, the same. No condition. -/
import Derived.Test.YthkknkhpfffnbaaGreatZ5
import Derived.Lib.Overlaps
set_option linter.all false
set_option maxHeartbeats 8000000
set_option maxRecDepth 100000
namespace Go.Proofs.YthkknkhpfffnbaaGreat
open Go.Sx
structure Sv where
 e : En
 v : Vl
abbrev Sv.ar (s : Sv) : Ar := .agg [.d (bo s.e.live), .d (lstB s.e.binds), .d (bo s.v.i.s.some), .d (it s.v.i.s.lo), .d (it s.v.i.s.hi), .d (bo s.v.i.c.some), .d (it s.v.i.c.m), .d (it s.v.i.c.r), .d (bo s.v.t.null), .d (lst s.v.t.names)]
namespace Sv
def clean (s : Sv) : Sv := ⟨s.e.clean, s.v.of⟩
def none (s : Sv) : Bool := !s.e.live && Vl.none s.v
def leq (a b : Sv) : Bool := En.leq a.e b.e && Vl.leq a.v b.v
def same (a b : Sv) : Bool := leq a b && leq b a
end Sv
def FTClean : List Ar -> Option Rs
 | [.agg [.d (.v (.bool e0)), .d (.lst 9 n0 f0), .d (.v (.bool s0)), .d (.v (.int .i64 l0)), .d (.v (.int .i64 h0)), .d (.v (.bool b0)), .d (.v (.int .i64 m0)), .d (.v (.int .i64 r0)), .d (.v (.bool z0)), .d (.lst 1 p0 g0)]] => some ⟨((n0 <= 1099511627776 /\ RowsOk n0 f0) /\ ((p0 * 16 <= 140737488351232 /\ ∀ i, i < p0 -> g0 i = [st (gT (g0 i))]) /\ Sp.inR ⟨s0, l0, h0⟩ /\ Cg.inR ⟨b0, m0, r0⟩)), .va (Sv.ar (Sv.clean (⟨⟨e0, gBs n0 f0⟩, ⟨⟨⟨s0, l0, h0⟩, ⟨b0, m0, r0⟩⟩, ⟨z0, gN p0 g0⟩⟩⟩ : Sv))), []⟩
 | _ => none
theorem fcTClean : FC Tryz.prog 48 FTClean := by
 intro xs pre r us h hp
 unfold FTClean at h
 split at h
 . rename_i e0 n0 f0 s0 l0 h0 b0 m0 r0 z0 p0 g0
   cases h
   have hp0 := hp
   refine FCat.deep (ys := [.agg [.d (.v (.bool e0)), .d (.lst 9 n0 (rwB (gBs n0 f0))), .d (.v (.bool s0)), .d (.v (.int .i64 l0)), .d (.v (.int .i64 h0)), .d (.v (.bool b0)), .d (.v (.int .i64 m0)), .d (.v (.int .i64 r0)), .d (.v (.bool z0)), .d (.lst 1 p0 fun i => [st (gT (g0 i))])]]) ?_ ?_
   . repeat' (first | exact trivial | exact rfl | exact DvE.refl _ | refine ⟨?_, ?_⟩ | fail)
     all_goals first | first | exact canonB hp0.1.2.h | (exact .rows fun i hi => by rw [hp0.2.1.2 i hi]; exact ⟨rfl, fun j a b ha hb => by have hb : [st (gT (g0 i))][j]? = some b := hb; rw [ha] at hb; cases hb; exact .refl _⟩)
   refine fcat tys_ok (l := [(22, ⟨[], FEClean⟩), (62, ⟨[], FVCleanV⟩)]) ⟨fcEClean, fcVCleanV, trivial⟩ Tryz.func48 rfl (by kernel_rfl) true ?_
   have hA0 := hp0.1
   have hV0 := hp0.2
   have hvR0 := hV0.2
   simp only [Sp.inR, Cg.inR] at hvR0
   have hL0 := okL_rows hA0.2
   have hn0 := hA0.1
   have hlen0 := gBs_length n0 f0
   generalize gBs n0 f0 = L at *
   clear hA0 hp0
   subst hlen0
   have hrow0 := okL_row hL0
   have hvok0 : okV (⟨⟨⟨s0, l0, h0⟩, ⟨b0, m0, r0⟩⟩, ⟨z0, gN p0 fun i => [st (gT (g0 i))]⟩⟩ : Vl) := ⟨⟨(by rw [gN_length]; exact hV0.1.1), fun _ _ => rfl⟩, hV0.2⟩
   have hcr0 := okL_row (clean_ok (e := ⟨e0, L⟩) hL0)
   have hcl0 : (En.clean ⟨e0, L⟩).binds.length <= L.length := clean_len ⟨e0, L⟩
   repeat' (first | exact trivial | refine ⟨?_, ?_⟩ | intro _)
   all_goals first | (with_reducible first | apply qa | apply qb | apply qc | apply qd) | (conv => whnf)
   all_goals (try simp only [gBs_row, gN_lst])
   all_goals first | exact hrow0 | exact hn0 | exact hV0.1.1 | exact hvR0.1.1 | exact hvR0.1.2 | exact hvR0.2.1 | exact hvR0.2.2 | exact hcr0 | omega | (intro i hi; rfl) | rfl
 . cases h
def FTNone : List Ar -> Option Rs
 | [.agg [.d (.v (.bool e0)), .d (.lst 9 n0 f0), .d (.v (.bool s0)), .d (.v (.int .i64 l0)), .d (.v (.int .i64 h0)), .d (.v (.bool b0)), .d (.v (.int .i64 m0)), .d (.v (.int .i64 r0)), .d (.v (.bool z0)), .d (.lst 1 p0 g0)]] => some ⟨((n0 <= 1099511627776 /\ RowsOk n0 f0) /\ ((p0 * 16 <= 140737488351232 /\ ∀ i, i < p0 -> g0 i = [st (gT (g0 i))]) /\ Sp.inR ⟨s0, l0, h0⟩ /\ Cg.inR ⟨b0, m0, r0⟩)), .va (.c (.d (bo (Sv.none (⟨⟨e0, gBs n0 f0⟩, ⟨⟨⟨s0, l0, h0⟩, ⟨b0, m0, r0⟩⟩, ⟨z0, gN p0 g0⟩⟩⟩ : Sv))))), []⟩
 | _ => none
theorem fcTNone : FC Tryz.prog 50 FTNone := by
 intro xs pre r us h hp
 unfold FTNone at h
 split at h
 . rename_i e0 n0 f0 s0 l0 h0 b0 m0 r0 z0 p0 g0
   cases h
   have hp0 := hp
   refine FCat.deep (ys := [.agg [.d (.v (.bool e0)), .d (.lst 9 n0 (rwB (gBs n0 f0))), .d (.v (.bool s0)), .d (.v (.int .i64 l0)), .d (.v (.int .i64 h0)), .d (.v (.bool b0)), .d (.v (.int .i64 m0)), .d (.v (.int .i64 r0)), .d (.v (.bool z0)), .d (.lst 1 p0 fun i => [st (gT (g0 i))])]]) ?_ ?_
   . repeat' (first | exact trivial | exact rfl | exact DvE.refl _ | refine ⟨?_, ?_⟩ | fail)
     all_goals first | first | exact canonB hp0.1.2.h | (exact .rows fun i hi => by rw [hp0.2.1.2 i hi]; exact ⟨rfl, fun j a b ha hb => by have hb : [st (gT (g0 i))][j]? = some b := hb; rw [ha] at hb; cases hb; exact .refl _⟩)
   refine fcat tys_ok (l := [(103, ⟨[], FVNoneV⟩)]) ⟨fcVNoneV, trivial⟩ Tryz.func50 rfl (by kernel_rfl) true ?_
   have hA0 := hp0.1
   have hV0 := hp0.2
   have hvR0 := hV0.2
   simp only [Sp.inR, Cg.inR] at hvR0
   have hL0 := okL_rows hA0.2
   have hn0 := hA0.1
   have hlen0 := gBs_length n0 f0
   generalize gBs n0 f0 = L at *
   clear hA0 hp0
   subst hlen0
   have hrow0 := okL_row hL0
   have hvok0 : okV (⟨⟨⟨s0, l0, h0⟩, ⟨b0, m0, r0⟩⟩, ⟨z0, gN p0 fun i => [st (gT (g0 i))]⟩⟩ : Vl) := ⟨⟨(by rw [gN_length]; exact hV0.1.1), fun _ _ => rfl⟩, hV0.2⟩
   have hcr0 := okL_row (clean_ok (e := ⟨e0, L⟩) hL0)
   have hcl0 : (En.clean ⟨e0, L⟩).binds.length <= L.length := clean_len ⟨e0, L⟩
   repeat' (first | exact trivial | refine ⟨?_, ?_⟩ | intro _)
   all_goals first | (with_reducible first | apply qa | apply qb | apply qc | apply qd) | (conv => whnf)
   all_goals (try simp only [gBs_row, gN_lst] at *)
   all_goals first | exact hrow0 | exact hn0 | exact hV0.1.1 | exact hvR0.1.1 | exact hvR0.1.2 | exact hvR0.2.1 | exact hvR0.2.2 | exact hcr0 | omega | (intro i hi; rfl) | rfl | (obtain rfl : e0 = false := nbF ‹(!e0) = true›; rfl) | (obtain rfl : e0 = true := nbT ‹(!e0) = false›; rfl)
 . cases h
def FTLeq : List Ar -> Option Rs
 | [.agg [.d (.v (.bool e0)), .d (.lst 9 n0 f0), .d (.v (.bool s0)), .d (.v (.int .i64 l0)), .d (.v (.int .i64 h0)), .d (.v (.bool b0)), .d (.v (.int .i64 m0)), .d (.v (.int .i64 r0)), .d (.v (.bool z0)), .d (.lst 1 p0 g0)], .agg [.d (.v (.bool e1)), .d (.lst 9 n1 f1), .d (.v (.bool s1)), .d (.v (.int .i64 l1)), .d (.v (.int .i64 h1)), .d (.v (.bool b1)), .d (.v (.int .i64 m1)), .d (.v (.int .i64 r1)), .d (.v (.bool z1)), .d (.lst 1 p1 g1)]] => some ⟨((n0 <= 1099511627776 /\ RowsOk n0 f0) /\ ((p0 * 16 <= 140737488351232 /\ ∀ i, i < p0 -> g0 i = [st (gT (g0 i))]) /\ Sp.inR ⟨s0, l0, h0⟩ /\ Cg.inR ⟨b0, m0, r0⟩)) /\ ((n1 <= 1099511627776 /\ RowsOk n1 f1) /\ ((p1 * 16 <= 140737488351232 /\ ∀ i, i < p1 -> g1 i = [st (gT (g1 i))]) /\ Sp.inR ⟨s1, l1, h1⟩ /\ Cg.inR ⟨b1, m1, r1⟩)), .va (.c (.d (bo (Sv.leq (⟨⟨e0, gBs n0 f0⟩, ⟨⟨⟨s0, l0, h0⟩, ⟨b0, m0, r0⟩⟩, ⟨z0, gN p0 g0⟩⟩⟩ : Sv) (⟨⟨e1, gBs n1 f1⟩, ⟨⟨⟨s1, l1, h1⟩, ⟨b1, m1, r1⟩⟩, ⟨z1, gN p1 g1⟩⟩⟩ : Sv))))), []⟩
 | _ => none
theorem fcTLeq : FC Tryz.prog 40 FTLeq := by
 intro xs pre r us h hp
 unfold FTLeq at h
 split at h
 . rename_i e0 n0 f0 s0 l0 h0 b0 m0 r0 z0 p0 g0 e1 n1 f1 s1 l1 h1 b1 m1 r1 z1 p1 g1
   cases h
   obtain ⟨hp0, hp1⟩ := hp
   refine FCat.deep (ys := [.agg [.d (.v (.bool e0)), .d (.lst 9 n0 (rwB (gBs n0 f0))), .d (.v (.bool s0)), .d (.v (.int .i64 l0)), .d (.v (.int .i64 h0)), .d (.v (.bool b0)), .d (.v (.int .i64 m0)), .d (.v (.int .i64 r0)), .d (.v (.bool z0)), .d (.lst 1 p0 fun i => [st (gT (g0 i))])], .agg [.d (.v (.bool e1)), .d (.lst 9 n1 (rwB (gBs n1 f1))), .d (.v (.bool s1)), .d (.v (.int .i64 l1)), .d (.v (.int .i64 h1)), .d (.v (.bool b1)), .d (.v (.int .i64 m1)), .d (.v (.int .i64 r1)), .d (.v (.bool z1)), .d (.lst 1 p1 fun i => [st (gT (g1 i))])]]) ?_ ?_
   . repeat' (first | exact trivial | exact rfl | exact DvE.refl _ | refine ⟨?_, ?_⟩ | fail)
     all_goals first | first | exact canonB hp0.1.2.h | (exact .rows fun i hi => by rw [hp0.2.1.2 i hi]; exact ⟨rfl, fun j a b ha hb => by have hb : [st (gT (g0 i))][j]? = some b := hb; rw [ha] at hb; cases hb; exact .refl _⟩) | exact canonB hp1.1.2.h | (exact .rows fun i hi => by rw [hp1.2.1.2 i hi]; exact ⟨rfl, fun j a b ha hb => by have hb : [st (gT (g1 i))][j]? = some b := hb; rw [ha] at hb; cases hb; exact .refl _⟩)
   refine fcat tys_ok (l := [(41, ⟨[], FELeq⟩), (91, ⟨[], FVLeq⟩)]) ⟨fcELeq, fcVLeq, trivial⟩ Tryz.func40 rfl (by kernel_rfl) true ?_
   have hA0 := hp0.1
   have hV0 := hp0.2
   have hvR0 := hV0.2
   simp only [Sp.inR, Cg.inR] at hvR0
   have hL0 := okL_rows hA0.2
   have hn0 := hA0.1
   have hlen0 := gBs_length n0 f0
   generalize gBs n0 f0 = L at *
   clear hA0 hp0
   subst hlen0
   have hrow0 := okL_row hL0
   have hvok0 : okV (⟨⟨⟨s0, l0, h0⟩, ⟨b0, m0, r0⟩⟩, ⟨z0, gN p0 fun i => [st (gT (g0 i))]⟩⟩ : Vl) := ⟨⟨(by rw [gN_length]; exact hV0.1.1), fun _ _ => rfl⟩, hV0.2⟩
   have hcr0 := okL_row (clean_ok (e := ⟨e0, L⟩) hL0)
   have hcl0 : (En.clean ⟨e0, L⟩).binds.length <= L.length := clean_len ⟨e0, L⟩
   have hA1 := hp1.1
   have hV1 := hp1.2
   have hvR1 := hV1.2
   simp only [Sp.inR, Cg.inR] at hvR1
   have hL1 := okL_rows hA1.2
   have hn1 := hA1.1
   have hlen1 := gBs_length n1 f1
   generalize gBs n1 f1 = M at *
   clear hA1 hp1
   subst hlen1
   have hrow1 := okL_row hL1
   have hvok1 : okV (⟨⟨⟨s1, l1, h1⟩, ⟨b1, m1, r1⟩⟩, ⟨z1, gN p1 fun i => [st (gT (g1 i))]⟩⟩ : Vl) := ⟨⟨(by rw [gN_length]; exact hV1.1.1), fun _ _ => rfl⟩, hV1.2⟩
   have hcr1 := okL_row (clean_ok (e := ⟨e1, M⟩) hL1)
   have hcl1 : (En.clean ⟨e1, M⟩).binds.length <= M.length := clean_len ⟨e1, M⟩
   repeat' (first | exact trivial | refine ⟨?_, ?_⟩ | intro _)
   all_goals first | (with_reducible first | apply qa | apply qb | apply qc | apply qd) | (conv => whnf)
   all_goals (try simp only [gBs_row, gN_lst] at *)
   all_goals first | exact hrow0 | exact hn0 | exact hV0.1.1 | exact hvR0.1.1 | exact hvR0.1.2 | exact hvR0.2.1 | exact hvR0.2.2 | exact hcr0 | exact hrow1 | exact hn1 | exact hV1.1.1 | exact hvR1.1.1 | exact hvR1.1.2 | exact hvR1.2.1 | exact hvR1.2.2 | exact hcr1 | omega | (intro i hi; rfl) | rfl | (unfold Sv.leq; first | (rw [‹En.leq _ _ = true›]; rfl) | (rw [‹En.leq _ _ = false›]; rfl))
 . cases h
def FTSame : List Ar -> Option Rs
 | [.agg [.d (.v (.bool e0)), .d (.lst 9 n0 f0), .d (.v (.bool s0)), .d (.v (.int .i64 l0)), .d (.v (.int .i64 h0)), .d (.v (.bool b0)), .d (.v (.int .i64 m0)), .d (.v (.int .i64 r0)), .d (.v (.bool z0)), .d (.lst 1 p0 g0)], .agg [.d (.v (.bool e1)), .d (.lst 9 n1 f1), .d (.v (.bool s1)), .d (.v (.int .i64 l1)), .d (.v (.int .i64 h1)), .d (.v (.bool b1)), .d (.v (.int .i64 m1)), .d (.v (.int .i64 r1)), .d (.v (.bool z1)), .d (.lst 1 p1 g1)]] => some ⟨((n0 <= 1099511627776 /\ RowsOk n0 f0) /\ ((p0 * 16 <= 140737488351232 /\ ∀ i, i < p0 -> g0 i = [st (gT (g0 i))]) /\ Sp.inR ⟨s0, l0, h0⟩ /\ Cg.inR ⟨b0, m0, r0⟩)) /\ ((n1 <= 1099511627776 /\ RowsOk n1 f1) /\ ((p1 * 16 <= 140737488351232 /\ ∀ i, i < p1 -> g1 i = [st (gT (g1 i))]) /\ Sp.inR ⟨s1, l1, h1⟩ /\ Cg.inR ⟨b1, m1, r1⟩)), .va (.c (.d (bo (Sv.same (⟨⟨e0, gBs n0 f0⟩, ⟨⟨⟨s0, l0, h0⟩, ⟨b0, m0, r0⟩⟩, ⟨z0, gN p0 g0⟩⟩⟩ : Sv) (⟨⟨e1, gBs n1 f1⟩, ⟨⟨⟨s1, l1, h1⟩, ⟨b1, m1, r1⟩⟩, ⟨z1, gN p1 g1⟩⟩⟩ : Sv))))), []⟩
 | _ => none
theorem fcTSame : FC Tryz.prog 51 FTSame := by
 intro xs pre r us h hp
 unfold FTSame at h
 split at h
 . rename_i e0 n0 f0 s0 l0 h0 b0 m0 r0 z0 p0 g0 e1 n1 f1 s1 l1 h1 b1 m1 r1 z1 p1 g1
   cases h
   obtain ⟨hp0, hp1⟩ := hp
   refine FCat.deep (ys := [.agg [.d (.v (.bool e0)), .d (.lst 9 n0 (rwB (gBs n0 f0))), .d (.v (.bool s0)), .d (.v (.int .i64 l0)), .d (.v (.int .i64 h0)), .d (.v (.bool b0)), .d (.v (.int .i64 m0)), .d (.v (.int .i64 r0)), .d (.v (.bool z0)), .d (.lst 1 p0 fun i => [st (gT (g0 i))])], .agg [.d (.v (.bool e1)), .d (.lst 9 n1 (rwB (gBs n1 f1))), .d (.v (.bool s1)), .d (.v (.int .i64 l1)), .d (.v (.int .i64 h1)), .d (.v (.bool b1)), .d (.v (.int .i64 m1)), .d (.v (.int .i64 r1)), .d (.v (.bool z1)), .d (.lst 1 p1 fun i => [st (gT (g1 i))])]]) ?_ ?_
   . repeat' (first | exact trivial | exact rfl | exact DvE.refl _ | refine ⟨?_, ?_⟩ | fail)
     all_goals first | first | exact canonB hp0.1.2.h | (exact .rows fun i hi => by rw [hp0.2.1.2 i hi]; exact ⟨rfl, fun j a b ha hb => by have hb : [st (gT (g0 i))][j]? = some b := hb; rw [ha] at hb; cases hb; exact .refl _⟩) | exact canonB hp1.1.2.h | (exact .rows fun i hi => by rw [hp1.2.1.2 i hi]; exact ⟨rfl, fun j a b ha hb => by have hb : [st (gT (g1 i))][j]? = some b := hb; rw [ha] at hb; cases hb; exact .refl _⟩)
   refine fcat tys_ok (l := [(40, ⟨[], FTLeq⟩)]) ⟨fcTLeq, trivial⟩ Tryz.func51 rfl (by kernel_rfl) true ?_
   have hA0 := hp0.1
   have hV0 := hp0.2
   have hvR0 := hV0.2
   simp only [Sp.inR, Cg.inR] at hvR0
   have hL0 := okL_rows hA0.2
   have hn0 := hA0.1
   have hlen0 := gBs_length n0 f0
   generalize gBs n0 f0 = L at *
   clear hA0 hp0
   subst hlen0
   have hrow0 := okL_row hL0
   have hvok0 : okV (⟨⟨⟨s0, l0, h0⟩, ⟨b0, m0, r0⟩⟩, ⟨z0, gN p0 fun i => [st (gT (g0 i))]⟩⟩ : Vl) := ⟨⟨(by rw [gN_length]; exact hV0.1.1), fun _ _ => rfl⟩, hV0.2⟩
   have hcr0 := okL_row (clean_ok (e := ⟨e0, L⟩) hL0)
   have hcl0 : (En.clean ⟨e0, L⟩).binds.length <= L.length := clean_len ⟨e0, L⟩
   have hA1 := hp1.1
   have hV1 := hp1.2
   have hvR1 := hV1.2
   simp only [Sp.inR, Cg.inR] at hvR1
   have hL1 := okL_rows hA1.2
   have hn1 := hA1.1
   have hlen1 := gBs_length n1 f1
   generalize gBs n1 f1 = M at *
   clear hA1 hp1
   subst hlen1
   have hrow1 := okL_row hL1
   have hvok1 : okV (⟨⟨⟨s1, l1, h1⟩, ⟨b1, m1, r1⟩⟩, ⟨z1, gN p1 fun i => [st (gT (g1 i))]⟩⟩ : Vl) := ⟨⟨(by rw [gN_length]; exact hV1.1.1), fun _ _ => rfl⟩, hV1.2⟩
   have hcr1 := okL_row (clean_ok (e := ⟨e1, M⟩) hL1)
   have hcl1 : (En.clean ⟨e1, M⟩).binds.length <= M.length := clean_len ⟨e1, M⟩
   repeat' (first | exact trivial | refine ⟨?_, ?_⟩ | intro _)
   all_goals first | (with_reducible first | apply qa | apply qb | apply qc | apply qd) | (conv => whnf)
   all_goals (try simp only [gBs_row, gN_lst] at *)
   all_goals first | exact hrow0 | exact hn0 | exact hV0.1.1 | exact hvR0.1.1 | exact hvR0.1.2 | exact hvR0.2.1 | exact hvR0.2.2 | exact hcr0 | exact hrow1 | exact hn1 | exact hV1.1.1 | exact hvR1.1.1 | exact hvR1.1.2 | exact hvR1.2.1 | exact hvR1.2.2 | exact hcr1 | omega | (intro i hi; rfl) | rfl | (refine congrArg Value.bool ?_; refine Eq.symm (Eq.trans (show _ = (Sv.leq ⟨⟨e0, L⟩, (⟨⟨⟨s0, l0, h0⟩, ⟨b0, m0, r0⟩⟩, ⟨z0, gN p0 fun i => [st (gT (g0 i))]⟩⟩ : Vl)⟩ ⟨⟨e1, M⟩, (⟨⟨⟨s1, l1, h1⟩, ⟨b1, m1, r1⟩⟩, ⟨z1, gN p1 fun i => [st (gT (g1 i))]⟩⟩ : Vl)⟩ && Sv.leq ⟨⟨e1, M⟩, (⟨⟨⟨s1, l1, h1⟩, ⟨b1, m1, r1⟩⟩, ⟨z1, gN p1 fun i => [st (gT (g1 i))]⟩⟩ : Vl)⟩ ⟨⟨e0, L⟩, (⟨⟨⟨s0, l0, h0⟩, ⟨b0, m0, r0⟩⟩, ⟨z0, gN p0 fun i => [st (gT (g0 i))]⟩⟩ : Vl)⟩) from rfl) ?_); first | (rw [‹Sv.leq _ _ = true›]; rfl) | (rw [‹Sv.leq _ _ = false›]; rfl))
 . cases h
abbrev enC (e : En) : List DV := [bo e.live, lstB e.binds]
def gEq (gz : List Cv -> Option Gs) (a b z : List DV) : Prop := ∃ p : Prop, gz [.agg a, .agg b] = some ⟨p, .va (.agg z)⟩ /\ p
theorem gEq_of {gz : List Cv -> Option Gs} {a b z z' : List DV} {p : Prop} (h : gz [.agg a, .agg b] = some ⟨p, .va (.agg z')⟩) (hz : z' = z) (hp : p) : gEq gz a b z := by subst hz; exact ⟨p, h, hp⟩
abbrev gEJ : List Cv -> Option Gs := mkFv (sums [(44, ⟨[], FEJoin⟩)]) 44 []
abbrev gEN : List Cv -> Option Gs := mkFv (sums [(47, ⟨[], FENarrow⟩)]) 47 []
theorem gEJ_ok {a b : En} (ha : a.binds.length <= 1099511627776 /\ RowsOk a.binds.length (rwB a.binds)) (hb : b.binds.length <= 1099511627776 /\ RowsOk b.binds.length (rwB b.binds)) (hr : Room a.binds b.binds) (hs : a.binds.length + b.binds.length <= 1099511627776) : gEq gEJ (enC a) (enC b) (enC (En.join a b)) :=
 gEq_of (z' := enC (En.join ⟨a.live, gBs a.binds.length (rwB a.binds)⟩ ⟨b.live, gBs b.binds.length (rwB b.binds)⟩)) rfl (by rw [gBs_row, gBs_row]) ⟨ha, hb, by rw [gBs_row, gBs_row]; exact hr, hs⟩
theorem gEN_ok {a b : En} (ha : a.binds.length <= 1099511627776 /\ RowsOk a.binds.length (rwB a.binds)) (hb : b.binds.length <= 1099511627776 /\ RowsOk b.binds.length (rwB b.binds)) (hs : a.binds.length + b.binds.length <= 1099511627776) : gEq gEN (enC a) (enC b) (enC (En.narrow a b)) :=
 gEq_of (z' := enC (En.narrow ⟨a.live, gBs a.binds.length (rwB a.binds)⟩ ⟨b.live, gBs b.binds.length (rwB b.binds)⟩)) rfl (by rw [gBs_row, gBs_row]) ⟨ha, hb, hs⟩
def FTParts (R : En) (W : Vl) (ge : List Cv -> Option Gs) (gv : List Cv -> Option Gs) : List Ar -> Option Rs
 | [.agg [.d (.v (.bool e0)), .d (.lst 9 n0 f0), .d (.v (.bool s0)), .d (.v (.int .i64 l0)), .d (.v (.int .i64 h0)), .d (.v (.bool b0)), .d (.v (.int .i64 m0)), .d (.v (.int .i64 r0)), .d (.v (.bool z0)), .d (.lst 1 p0 g0)], .agg [.d (.v (.bool e1)), .d (.lst 9 n1 f1), .d (.v (.bool s1)), .d (.v (.int .i64 l1)), .d (.v (.int .i64 h1)), .d (.v (.bool b1)), .d (.v (.int .i64 m1)), .d (.v (.int .i64 r1)), .d (.v (.bool z1)), .d (.lst 1 p1 g1)], .fv g2, .fv g3] => some ⟨((n0 <= 1099511627776 /\ RowsOk n0 f0) /\ ((p0 * 16 <= 140737488351232 /\ ∀ i, i < p0 -> g0 i = [st (gT (g0 i))]) /\ Sp.inR ⟨s0, l0, h0⟩ /\ Cg.inR ⟨b0, m0, r0⟩)) /\ ((n1 <= 1099511627776 /\ RowsOk n1 f1) /\ ((p1 * 16 <= 140737488351232 /\ ∀ i, i < p1 -> g1 i = [st (gT (g1 i))]) /\ Sp.inR ⟨s1, l1, h1⟩ /\ Cg.inR ⟨b1, m1, r1⟩)) /\ (g2 = ge /\ g3 = gv /\ gEq ge (enC (Sv.e (⟨⟨e0, gBs n0 f0⟩, ⟨⟨⟨s0, l0, h0⟩, ⟨b0, m0, r0⟩⟩, ⟨z0, gN p0 g0⟩⟩⟩ : Sv))) (enC (Sv.e (⟨⟨e1, gBs n1 f1⟩, ⟨⟨⟨s1, l1, h1⟩, ⟨b1, m1, r1⟩⟩, ⟨z1, gN p1 g1⟩⟩⟩ : Sv))) (enC R) /\ gEq gv [bo s0, it l0, it h0, bo b0, it m0, it r0, bo z0, .lst 1 p0 fun i => [st (gT (g0 i))]] [bo s1, it l1, it h1, bo b1, it m1, it r1, bo z1, .lst 1 p1 fun i => [st (gT (g1 i))]] (vlC W) /\ okL R.binds /\ R.binds.length <= 1099511627776 /\ okV W), .va (Sv.ar (Sv.clean ⟨R, W⟩)), []⟩
 | _ => none
theorem fcTParts (R : En) (W : Vl) (ge : List Cv -> Option Gs) (gv : List Cv -> Option Gs) : FC Tryz.prog 104 (FTParts R W ge gv) := by
 intro xs pre r us h hp
 unfold FTParts at h
 split at h
 . rename_i e0 n0 f0 s0 l0 h0 b0 m0 r0 z0 p0 g0 e1 n1 f1 s1 l1 h1 b1 m1 r1 z1 p1 g1 g2 g3
   cases h
   obtain ⟨hp0, hp1, hp2⟩ := hp
   refine FCat.deep (ys := [.agg [.d (.v (.bool e0)), .d (.lst 9 n0 (rwB (gBs n0 f0))), .d (.v (.bool s0)), .d (.v (.int .i64 l0)), .d (.v (.int .i64 h0)), .d (.v (.bool b0)), .d (.v (.int .i64 m0)), .d (.v (.int .i64 r0)), .d (.v (.bool z0)), .d (.lst 1 p0 fun i => [st (gT (g0 i))])], .agg [.d (.v (.bool e1)), .d (.lst 9 n1 (rwB (gBs n1 f1))), .d (.v (.bool s1)), .d (.v (.int .i64 l1)), .d (.v (.int .i64 h1)), .d (.v (.bool b1)), .d (.v (.int .i64 m1)), .d (.v (.int .i64 r1)), .d (.v (.bool z1)), .d (.lst 1 p1 fun i => [st (gT (g1 i))])], .fv g2, .fv g3]) ?_ ?_
   . repeat' (first | exact trivial | exact rfl | exact DvE.refl _ | refine ⟨?_, ?_⟩ | fail)
     all_goals first | first | exact canonB hp0.1.2.h | (exact .rows fun i hi => by rw [hp0.2.1.2 i hi]; exact ⟨rfl, fun j a b ha hb => by have hb : [st (gT (g0 i))][j]? = some b := hb; rw [ha] at hb; cases hb; exact .refl _⟩) | exact canonB hp1.1.2.h | (exact .rows fun i hi => by rw [hp1.2.1.2 i hi]; exact ⟨rfl, fun j a b ha hb => by have hb : [st (gT (g1 i))][j]? = some b := hb; rw [ha] at hb; cases hb; exact .refl _⟩)
   refine fcat tys_ok (l := [(48, ⟨[], FTClean⟩)]) ⟨fcTClean, trivial⟩ Tryz.func104 rfl (by kernel_rfl) true ?_
   obtain ⟨rfl, rfl, ⟨pe, hge, hpe⟩, ⟨pv, hgv, hpv⟩, hoR, hlR, hoW⟩ := hp2
   have hA0 := hp0.1
   have hV0 := hp0.2
   have hvR0 := hV0.2
   simp only [Sp.inR, Cg.inR] at hvR0
   have hL0 := okL_rows hA0.2
   have hn0 := hA0.1
   have hlen0 := gBs_length n0 f0
   generalize gBs n0 f0 = L at *
   clear hA0 hp0
   subst hlen0
   have hrow0 := okL_row hL0
   have hvok0 : okV (⟨⟨⟨s0, l0, h0⟩, ⟨b0, m0, r0⟩⟩, ⟨z0, gN p0 fun i => [st (gT (g0 i))]⟩⟩ : Vl) := ⟨⟨(by rw [gN_length]; exact hV0.1.1), fun _ _ => rfl⟩, hV0.2⟩
   have hcr0 := okL_row (clean_ok (e := ⟨e0, L⟩) hL0)
   have hcl0 : (En.clean ⟨e0, L⟩).binds.length <= L.length := clean_len ⟨e0, L⟩
   have hA1 := hp1.1
   have hV1 := hp1.2
   have hvR1 := hV1.2
   simp only [Sp.inR, Cg.inR] at hvR1
   have hL1 := okL_rows hA1.2
   have hn1 := hA1.1
   have hlen1 := gBs_length n1 f1
   generalize gBs n1 f1 = M at *
   clear hA1 hp1
   subst hlen1
   have hrow1 := okL_row hL1
   have hvok1 : okV (⟨⟨⟨s1, l1, h1⟩, ⟨b1, m1, r1⟩⟩, ⟨z1, gN p1 fun i => [st (gT (g1 i))]⟩⟩ : Vl) := ⟨⟨(by rw [gN_length]; exact hV1.1.1), fun _ _ => rfl⟩, hV1.2⟩
   have hcr1 := okL_row (clean_ok (e := ⟨e1, M⟩) hL1)
   have hcl1 : (En.clean ⟨e1, M⟩).binds.length <= M.length := clean_len ⟨e1, M⟩
   have hrR := okL_row hoR
   have hoW2 := hoW
   unfold okV at hoW2
   have hoWr := hoW2.2
   simp only [Sp.inR, Cg.inR] at hoWr
   dsimp only at hge hgv
   simp only [enC, vlC, gN_length] at hge hgv
   have hgv2 : ∀ i, [st (atS (gN p0 g0) i)] = [st (atS (gN p0 g0) i)] := fun _ => rfl
   repeat' (first | exact trivial | refine ⟨?_, ?_⟩ | intro _)
   all_goals first | (with_reducible first | apply qa | apply qb | apply qc | apply qd) | (conv => whnf)
   all_goals (try simp only [hge])
   all_goals repeat' (first | exact trivial | (with_reducible exact hpe) | refine ⟨?_, ?_⟩ | intro _)
   all_goals first | (with_reducible first | apply qa | apply qb | apply qc | apply qd) | (conv => whnf)
   all_goals (try simp only [hgv])
   all_goals repeat' (first | exact trivial | (with_reducible exact hpv) | refine ⟨?_, ?_⟩ | intro _)
   all_goals first | (with_reducible first | apply qa | apply qb | apply qc | apply qd) | (conv => whnf)
   all_goals (try simp only [gBs_row, gN_lst])
   all_goals first | exact hrR | exact hlR | exact hoW2.1.1 | exact hoWr.1.1 | exact hoWr.1.2 | exact hoWr.2.1 | exact hoWr.2.2 | omega | (intro i hi; rfl) | rfl
 . cases h
namespace Sv
def join (a b : Sv) : Sv := clean ⟨En.join a.e b.e, Vl.join a.v b.v⟩
def widen (a b : Sv) (l : List Int) : Sv := clean ⟨En.widen a.e b.e l, Vl.widen a.v b.v l⟩
def narrow (a b : Sv) : Sv := clean ⟨En.narrow a.e b.e, Vl.narrow a.v b.v⟩
end Sv
theorem vjoin_ok {x y : Vl} (hx : okV x) (hy : okV y) (hq : QJ x y) : okV (Vl.join x y) := by rw [Vl.join_eq]; exact okV_rj hx hy hq
theorem vwiden_ok {x y : Vl} {l : List Int} (hx : okV x) (hy : okV y) (hq : QJ x y) (hl : ∀ z, z ∈ l -> rI z) : okV (Vl.widen x y l) := by rw [widen_eq]; exact okV_rw hx hy hq hl
theorem vnarrow_ok {x y : Vl} (hx : okV x) (hy : okV y) : okV (Vl.narrow x y) := by rw [narrow_eq]; exact okV_rn hx hy
def FTJoin : List Ar -> Option Rs
 | [.agg [.d (.v (.bool e0)), .d (.lst 9 n0 f0), .d (.v (.bool s0)), .d (.v (.int .i64 l0)), .d (.v (.int .i64 h0)), .d (.v (.bool b0)), .d (.v (.int .i64 m0)), .d (.v (.int .i64 r0)), .d (.v (.bool z0)), .d (.lst 1 p0 g0)], .agg [.d (.v (.bool e1)), .d (.lst 9 n1 f1), .d (.v (.bool s1)), .d (.v (.int .i64 l1)), .d (.v (.int .i64 h1)), .d (.v (.bool b1)), .d (.v (.int .i64 m1)), .d (.v (.int .i64 r1)), .d (.v (.bool z1)), .d (.lst 1 p1 g1)]] => some ⟨((n0 <= 1099511627776 /\ RowsOk n0 f0) /\ ((p0 * 16 <= 140737488351232 /\ ∀ i, i < p0 -> g0 i = [st (gT (g0 i))]) /\ Sp.inR ⟨s0, l0, h0⟩ /\ Cg.inR ⟨b0, m0, r0⟩)) /\ ((n1 <= 1099511627776 /\ RowsOk n1 f1) /\ ((p1 * 16 <= 140737488351232 /\ ∀ i, i < p1 -> g1 i = [st (gT (g1 i))]) /\ Sp.inR ⟨s1, l1, h1⟩ /\ Cg.inR ⟨b1, m1, r1⟩)) /\ (Room (Sv.e (⟨⟨e0, gBs n0 f0⟩, ⟨⟨⟨s0, l0, h0⟩, ⟨b0, m0, r0⟩⟩, ⟨z0, gN p0 g0⟩⟩⟩ : Sv)).binds (Sv.e (⟨⟨e1, gBs n1 f1⟩, ⟨⟨⟨s1, l1, h1⟩, ⟨b1, m1, r1⟩⟩, ⟨z1, gN p1 g1⟩⟩⟩ : Sv)).binds /\ QJ (Sv.v (⟨⟨e0, gBs n0 f0⟩, ⟨⟨⟨s0, l0, h0⟩, ⟨b0, m0, r0⟩⟩, ⟨z0, gN p0 g0⟩⟩⟩ : Sv)) (Sv.v (⟨⟨e1, gBs n1 f1⟩, ⟨⟨⟨s1, l1, h1⟩, ⟨b1, m1, r1⟩⟩, ⟨z1, gN p1 g1⟩⟩⟩ : Sv)) /\ n0 + n1 <= 1099511627776), .va (Sv.ar (Sv.join (⟨⟨e0, gBs n0 f0⟩, ⟨⟨⟨s0, l0, h0⟩, ⟨b0, m0, r0⟩⟩, ⟨z0, gN p0 g0⟩⟩⟩ : Sv) (⟨⟨e1, gBs n1 f1⟩, ⟨⟨⟨s1, l1, h1⟩, ⟨b1, m1, r1⟩⟩, ⟨z1, gN p1 g1⟩⟩⟩ : Sv))), []⟩
 | _ => none
theorem fcTJoin : FC Tryz.prog 52 FTJoin := by
 intro xs pre r us h hp
 unfold FTJoin at h
 split at h
 . rename_i e0 n0 f0 s0 l0 h0 b0 m0 r0 z0 p0 g0 e1 n1 f1 s1 l1 h1 b1 m1 r1 z1 p1 g1
   cases h
   obtain ⟨hp0, hp1, hp2⟩ := hp
   refine FCat.deep (ys := [.agg [.d (.v (.bool e0)), .d (.lst 9 n0 (rwB (gBs n0 f0))), .d (.v (.bool s0)), .d (.v (.int .i64 l0)), .d (.v (.int .i64 h0)), .d (.v (.bool b0)), .d (.v (.int .i64 m0)), .d (.v (.int .i64 r0)), .d (.v (.bool z0)), .d (.lst 1 p0 fun i => [st (gT (g0 i))])], .agg [.d (.v (.bool e1)), .d (.lst 9 n1 (rwB (gBs n1 f1))), .d (.v (.bool s1)), .d (.v (.int .i64 l1)), .d (.v (.int .i64 h1)), .d (.v (.bool b1)), .d (.v (.int .i64 m1)), .d (.v (.int .i64 r1)), .d (.v (.bool z1)), .d (.lst 1 p1 fun i => [st (gT (g1 i))])]]) ?_ ?_
   . repeat' (first | exact trivial | exact rfl | exact DvE.refl _ | refine ⟨?_, ?_⟩ | fail)
     all_goals first | first | exact canonB hp0.1.2.h | (exact .rows fun i hi => by rw [hp0.2.1.2 i hi]; exact ⟨rfl, fun j a b ha hb => by have hb : [st (gT (g0 i))][j]? = some b := hb; rw [ha] at hb; cases hb; exact .refl _⟩) | exact canonB hp1.1.2.h | (exact .rows fun i hi => by rw [hp1.2.1.2 i hi]; exact ⟨rfl, fun j a b ha hb => by have hb : [st (gT (g1 i))][j]? = some b := hb; rw [ha] at hb; cases hb; exact .refl _⟩)
   refine fcat tys_ok (l := [(104, ⟨[], (FTParts (En.join ⟨e0, gBs n0 (rwB (gBs n0 f0))⟩ ⟨e1, gBs n1 (rwB (gBs n1 f1))⟩) (Vl.join (⟨⟨⟨s0, l0, h0⟩, ⟨b0, m0, r0⟩⟩, ⟨z0, gN p0 fun i => [st (gT (g0 i))]⟩⟩ : Vl) (⟨⟨⟨s1, l1, h1⟩, ⟨b1, m1, r1⟩⟩, ⟨z1, gN p1 fun i => [st (gT (g1 i))]⟩⟩ : Vl)) gEJ gJoin)⟩), (44, ⟨[], FEJoin⟩), (95, ⟨[], FN 1 FVJoin⟩)]) ⟨(fcTParts (En.join ⟨e0, gBs n0 (rwB (gBs n0 f0))⟩ ⟨e1, gBs n1 (rwB (gBs n1 f1))⟩) (Vl.join (⟨⟨⟨s0, l0, h0⟩, ⟨b0, m0, r0⟩⟩, ⟨z0, gN p0 fun i => [st (gT (g0 i))]⟩⟩ : Vl) (⟨⟨⟨s1, l1, h1⟩, ⟨b1, m1, r1⟩⟩, ⟨z1, gN p1 fun i => [st (gT (g1 i))]⟩⟩ : Vl)) gEJ gJoin), fcEJoin, fc_nil 1 fcVJoin, trivial⟩ Tryz.func52 rfl (by kernel_rfl) true ?_
   obtain ⟨hroom, hqj, hsum⟩ := hp2
   dsimp only at hroom
   have hA0 := hp0.1
   have hV0 := hp0.2
   have hvR0 := hV0.2
   simp only [Sp.inR, Cg.inR] at hvR0
   have hL0 := okL_rows hA0.2
   have hn0 := hA0.1
   have hlen0 := gBs_length n0 f0
   generalize gBs n0 f0 = L at *
   clear hA0 hp0
   subst hlen0
   have hrow0 := okL_row hL0
   have hvok0 : okV (⟨⟨⟨s0, l0, h0⟩, ⟨b0, m0, r0⟩⟩, ⟨z0, gN p0 fun i => [st (gT (g0 i))]⟩⟩ : Vl) := ⟨⟨(by rw [gN_length]; exact hV0.1.1), fun _ _ => rfl⟩, hV0.2⟩
   have hcr0 := okL_row (clean_ok (e := ⟨e0, L⟩) hL0)
   have hcl0 : (En.clean ⟨e0, L⟩).binds.length <= L.length := clean_len ⟨e0, L⟩
   have hA1 := hp1.1
   have hV1 := hp1.2
   have hvR1 := hV1.2
   simp only [Sp.inR, Cg.inR] at hvR1
   have hL1 := okL_rows hA1.2
   have hn1 := hA1.1
   have hlen1 := gBs_length n1 f1
   generalize gBs n1 f1 = M at *
   clear hA1 hp1
   subst hlen1
   have hrow1 := okL_row hL1
   have hvok1 : okV (⟨⟨⟨s1, l1, h1⟩, ⟨b1, m1, r1⟩⟩, ⟨z1, gN p1 fun i => [st (gT (g1 i))]⟩⟩ : Vl) := ⟨⟨(by rw [gN_length]; exact hV1.1.1), fun _ _ => rfl⟩, hV1.2⟩
   have hcr1 := okL_row (clean_ok (e := ⟨e1, M⟩) hL1)
   have hcl1 : (En.clean ⟨e1, M⟩).binds.length <= M.length := clean_len ⟨e1, M⟩
   have hqj2 : QJ (⟨⟨⟨s0, l0, h0⟩, ⟨b0, m0, r0⟩⟩, ⟨z0, gN p0 fun i => [st (gT (g0 i))]⟩⟩ : Vl) (⟨⟨⟨s1, l1, h1⟩, ⟨b1, m1, r1⟩⟩, ⟨z1, gN p1 fun i => [st (gT (g1 i))]⟩⟩ : Vl) := hqj
   have hsumV : (p0 + p1) * 16 <= 140737488351232 := by have := hqj; unfold QJ at this; simpa [gN_length] using this
   have hge := gEJ_ok (a := ⟨e0, gBs L.length (rwB L)⟩) (b := ⟨e1, gBs M.length (rwB M)⟩) (by rw [gBs_row]; exact ⟨hn0, hrow0⟩) (by rw [gBs_row]; exact ⟨hn1, hrow1⟩) (by rw [gBs_row, gBs_row]; exact hroom) (by rw [gBs_row, gBs_row]; exact hsum)
   have hokR : okL (En.join ⟨e0, gBs L.length (rwB L)⟩ ⟨e1, gBs M.length (rwB M)⟩).binds := join_okL (by rw [gBs_row]; exact hL0) (by rw [gBs_row]; exact hL1) (by rw [gBs_row, gBs_row]; exact hroom)
   have hlR : (En.join ⟨e0, gBs L.length (rwB L)⟩ ⟨e1, gBs M.length (rwB M)⟩).binds.length <= 1099511627776 := Nat.le_trans (join_len _ _) (by rw [gBs_row, gBs_row]; exact hsum)
   have hokW := vjoin_ok hvok0 hvok1 hqj2
   have hgv : gEq gJoin [bo s0, it l0, it h0, bo b0, it m0, it r0, bo z0, .lst 1 p0 fun i => [st (gT [st (gT (g0 i))])]] [bo s1, it l1, it h1, bo b1, it m1, it r1, bo z1, .lst 1 p1 fun i => [st (gT [st (gT (g1 i))])]] (vlC (Vl.join (⟨⟨⟨s0, l0, h0⟩, ⟨b0, m0, r0⟩⟩, ⟨z0, gN p0 fun i => [st (gT (g0 i))]⟩⟩ : Vl) (⟨⟨⟨s1, l1, h1⟩, ⟨b1, m1, r1⟩⟩, ⟨z1, gN p1 fun i => [st (gT (g1 i))]⟩⟩ : Vl))) := gEq_of rfl rfl ⟨⟨⟨hV0.1.1, fun i hi => rfl⟩, hV0.2⟩, ⟨⟨hV1.1.1, fun i hi => rfl⟩, hV1.2⟩, hsumV⟩
   repeat' (first | exact trivial | (with_reducible first | exact hge | exact hgv | exact hokR | exact hokW | exact hlR) | refine ⟨?_, ?_⟩ | intro _)
   all_goals first | (with_reducible first | apply qa | apply qb | apply qc | apply qd) | (conv => whnf)
   all_goals (try simp only [gBs_row, gN_lst])
   all_goals first | exact hlR | (rw [gBs_row, gBs_row] at hlR; exact hlR) | exact hrow0 | exact hn0 | exact hV0.1.1 | exact hvR0.1.1 | exact hvR0.1.2 | exact hvR0.2.1 | exact hvR0.2.2 | exact hcr0 | exact hrow1 | exact hn1 | exact hV1.1.1 | exact hvR1.1.1 | exact hvR1.1.2 | exact hvR1.2.1 | exact hvR1.2.2 | exact hcr1 | omega | (intro i hi; rfl) | rfl
 . cases h
def FTNarrow : List Ar -> Option Rs
 | [.agg [.d (.v (.bool e0)), .d (.lst 9 n0 f0), .d (.v (.bool s0)), .d (.v (.int .i64 l0)), .d (.v (.int .i64 h0)), .d (.v (.bool b0)), .d (.v (.int .i64 m0)), .d (.v (.int .i64 r0)), .d (.v (.bool z0)), .d (.lst 1 p0 g0)], .agg [.d (.v (.bool e1)), .d (.lst 9 n1 f1), .d (.v (.bool s1)), .d (.v (.int .i64 l1)), .d (.v (.int .i64 h1)), .d (.v (.bool b1)), .d (.v (.int .i64 m1)), .d (.v (.int .i64 r1)), .d (.v (.bool z1)), .d (.lst 1 p1 g1)]] => some ⟨((n0 <= 1099511627776 /\ RowsOk n0 f0) /\ ((p0 * 16 <= 140737488351232 /\ ∀ i, i < p0 -> g0 i = [st (gT (g0 i))]) /\ Sp.inR ⟨s0, l0, h0⟩ /\ Cg.inR ⟨b0, m0, r0⟩)) /\ ((n1 <= 1099511627776 /\ RowsOk n1 f1) /\ ((p1 * 16 <= 140737488351232 /\ ∀ i, i < p1 -> g1 i = [st (gT (g1 i))]) /\ Sp.inR ⟨s1, l1, h1⟩ /\ Cg.inR ⟨b1, m1, r1⟩)) /\ (n0 + n1 <= 1099511627776), .va (Sv.ar (Sv.narrow (⟨⟨e0, gBs n0 f0⟩, ⟨⟨⟨s0, l0, h0⟩, ⟨b0, m0, r0⟩⟩, ⟨z0, gN p0 g0⟩⟩⟩ : Sv) (⟨⟨e1, gBs n1 f1⟩, ⟨⟨⟨s1, l1, h1⟩, ⟨b1, m1, r1⟩⟩, ⟨z1, gN p1 g1⟩⟩⟩ : Sv))), []⟩
 | _ => none
theorem fcTNarrow : FC Tryz.prog 55 FTNarrow := by
 intro xs pre r us h hp
 unfold FTNarrow at h
 split at h
 . rename_i e0 n0 f0 s0 l0 h0 b0 m0 r0 z0 p0 g0 e1 n1 f1 s1 l1 h1 b1 m1 r1 z1 p1 g1
   cases h
   obtain ⟨hp0, hp1, hp2⟩ := hp
   refine FCat.deep (ys := [.agg [.d (.v (.bool e0)), .d (.lst 9 n0 (rwB (gBs n0 f0))), .d (.v (.bool s0)), .d (.v (.int .i64 l0)), .d (.v (.int .i64 h0)), .d (.v (.bool b0)), .d (.v (.int .i64 m0)), .d (.v (.int .i64 r0)), .d (.v (.bool z0)), .d (.lst 1 p0 fun i => [st (gT (g0 i))])], .agg [.d (.v (.bool e1)), .d (.lst 9 n1 (rwB (gBs n1 f1))), .d (.v (.bool s1)), .d (.v (.int .i64 l1)), .d (.v (.int .i64 h1)), .d (.v (.bool b1)), .d (.v (.int .i64 m1)), .d (.v (.int .i64 r1)), .d (.v (.bool z1)), .d (.lst 1 p1 fun i => [st (gT (g1 i))])]]) ?_ ?_
   . repeat' (first | exact trivial | exact rfl | exact DvE.refl _ | refine ⟨?_, ?_⟩ | fail)
     all_goals first | first | exact canonB hp0.1.2.h | (exact .rows fun i hi => by rw [hp0.2.1.2 i hi]; exact ⟨rfl, fun j a b ha hb => by have hb : [st (gT (g0 i))][j]? = some b := hb; rw [ha] at hb; cases hb; exact .refl _⟩) | exact canonB hp1.1.2.h | (exact .rows fun i hi => by rw [hp1.2.1.2 i hi]; exact ⟨rfl, fun j a b ha hb => by have hb : [st (gT (g1 i))][j]? = some b := hb; rw [ha] at hb; cases hb; exact .refl _⟩)
   refine fcat tys_ok (l := [(104, ⟨[], (FTParts (En.narrow ⟨e0, gBs n0 (rwB (gBs n0 f0))⟩ ⟨e1, gBs n1 (rwB (gBs n1 f1))⟩) (Vl.narrow (⟨⟨⟨s0, l0, h0⟩, ⟨b0, m0, r0⟩⟩, ⟨z0, gN p0 fun i => [st (gT (g0 i))]⟩⟩ : Vl) (⟨⟨⟨s1, l1, h1⟩, ⟨b1, m1, r1⟩⟩, ⟨z1, gN p1 fun i => [st (gT (g1 i))]⟩⟩ : Vl)) gEN gNarrow)⟩), (47, ⟨[], FENarrow⟩), (102, ⟨[], FN 1 FVNarrow⟩)]) ⟨(fcTParts (En.narrow ⟨e0, gBs n0 (rwB (gBs n0 f0))⟩ ⟨e1, gBs n1 (rwB (gBs n1 f1))⟩) (Vl.narrow (⟨⟨⟨s0, l0, h0⟩, ⟨b0, m0, r0⟩⟩, ⟨z0, gN p0 fun i => [st (gT (g0 i))]⟩⟩ : Vl) (⟨⟨⟨s1, l1, h1⟩, ⟨b1, m1, r1⟩⟩, ⟨z1, gN p1 fun i => [st (gT (g1 i))]⟩⟩ : Vl)) gEN gNarrow), fcENarrow, fc_nil 1 fcVNarrow, trivial⟩ Tryz.func55 rfl (by kernel_rfl) true ?_
   have hsum : n0 + n1 <= 1099511627776 := hp2
   have hA0 := hp0.1
   have hV0 := hp0.2
   have hvR0 := hV0.2
   simp only [Sp.inR, Cg.inR] at hvR0
   have hL0 := okL_rows hA0.2
   have hn0 := hA0.1
   have hlen0 := gBs_length n0 f0
   generalize gBs n0 f0 = L at *
   clear hA0 hp0
   subst hlen0
   have hrow0 := okL_row hL0
   have hvok0 : okV (⟨⟨⟨s0, l0, h0⟩, ⟨b0, m0, r0⟩⟩, ⟨z0, gN p0 fun i => [st (gT (g0 i))]⟩⟩ : Vl) := ⟨⟨(by rw [gN_length]; exact hV0.1.1), fun _ _ => rfl⟩, hV0.2⟩
   have hcr0 := okL_row (clean_ok (e := ⟨e0, L⟩) hL0)
   have hcl0 : (En.clean ⟨e0, L⟩).binds.length <= L.length := clean_len ⟨e0, L⟩
   have hA1 := hp1.1
   have hV1 := hp1.2
   have hvR1 := hV1.2
   simp only [Sp.inR, Cg.inR] at hvR1
   have hL1 := okL_rows hA1.2
   have hn1 := hA1.1
   have hlen1 := gBs_length n1 f1
   generalize gBs n1 f1 = M at *
   clear hA1 hp1
   subst hlen1
   have hrow1 := okL_row hL1
   have hvok1 : okV (⟨⟨⟨s1, l1, h1⟩, ⟨b1, m1, r1⟩⟩, ⟨z1, gN p1 fun i => [st (gT (g1 i))]⟩⟩ : Vl) := ⟨⟨(by rw [gN_length]; exact hV1.1.1), fun _ _ => rfl⟩, hV1.2⟩
   have hcr1 := okL_row (clean_ok (e := ⟨e1, M⟩) hL1)
   have hcl1 : (En.clean ⟨e1, M⟩).binds.length <= M.length := clean_len ⟨e1, M⟩
   have hge := gEN_ok (a := ⟨e0, gBs L.length (rwB L)⟩) (b := ⟨e1, gBs M.length (rwB M)⟩) (by rw [gBs_row]; exact ⟨hn0, hrow0⟩) (by rw [gBs_row]; exact ⟨hn1, hrow1⟩) (by rw [gBs_row, gBs_row]; exact hsum)
   have hokR : okL (En.narrow ⟨e0, gBs L.length (rwB L)⟩ ⟨e1, gBs M.length (rwB M)⟩).binds := narrow_okL (by rw [gBs_row]; exact hL0) (by rw [gBs_row]; exact hL1)
   have hlR : (En.narrow ⟨e0, gBs L.length (rwB L)⟩ ⟨e1, gBs M.length (rwB M)⟩).binds.length <= 1099511627776 := Nat.le_trans (narrow_len _ _) (by rw [gBs_row, gBs_row]; exact hsum)
   have hokW := vnarrow_ok hvok0 hvok1
   have hgv : gEq gNarrow [bo s0, it l0, it h0, bo b0, it m0, it r0, bo z0, .lst 1 p0 fun i => [st (gT [st (gT (g0 i))])]] [bo s1, it l1, it h1, bo b1, it m1, it r1, bo z1, .lst 1 p1 fun i => [st (gT [st (gT (g1 i))])]] (vlC (Vl.narrow (⟨⟨⟨s0, l0, h0⟩, ⟨b0, m0, r0⟩⟩, ⟨z0, gN p0 fun i => [st (gT (g0 i))]⟩⟩ : Vl) (⟨⟨⟨s1, l1, h1⟩, ⟨b1, m1, r1⟩⟩, ⟨z1, gN p1 fun i => [st (gT (g1 i))]⟩⟩ : Vl))) := gEq_of rfl rfl ⟨⟨⟨hV0.1.1, fun i hi => rfl⟩, hV0.2⟩, ⟨⟨hV1.1.1, fun i hi => rfl⟩, hV1.2⟩⟩
   repeat' (first | exact trivial | (with_reducible first | exact hge | exact hgv | exact hokR | exact hokW | exact hlR) | refine ⟨?_, ?_⟩ | intro _)
   all_goals first | (with_reducible first | apply qa | apply qb | apply qc | apply qd) | (conv => whnf)
   all_goals (try simp only [gBs_row, gN_lst])
   all_goals first | exact hlR | (rw [gBs_row, gBs_row] at hlR; exact hlR) | exact hrow0 | exact hn0 | exact hV0.1.1 | exact hvR0.1.1 | exact hvR0.1.2 | exact hvR0.2.1 | exact hvR0.2.2 | exact hcr0 | exact hrow1 | exact hn1 | exact hV1.1.1 | exact hvR1.1.1 | exact hvR1.1.2 | exact hvR1.2.1 | exact hvR1.2.2 | exact hcr1 | omega | (intro i hi; rfl) | rfl
 . cases h
def FWEC : List Ar -> Option Rs
 | [.agg [.d (.v (.bool e0)), .d (.lst 9 n0 f0)], .agg [.d (.v (.bool e1)), .d (.lst 9 n1 f1)], .rp [.lst 1 n2 f2]] => some ⟨(n0 <= 1099511627776 /\ RowsOk n0 f0) /\ (n1 <= 1099511627776 /\ RowsOk n1 f1) /\ (n2 <= 9223372036854775807 /\ ∀ i, i < n2 -> f2 i = [it (gI (f2 i))] /\ rI (gI (f2 i))) /\ (Room (gBs n0 f0) (gBs n1 f1) /\ n0 + n1 <= 1099511627776), .va (En.ar (En.widen (⟨e0, gBs n0 f0⟩ : En) (⟨e1, gBs n1 f1⟩ : En) (gL n2 f2))), []⟩
 | _ => none
theorem fcWEC : FC Tryz.prog 105 FWEC := by
 intro xs pre r us h hp
 unfold FWEC at h
 split at h
 . rename_i e0 n0 f0 e1 n1 f1 n2 f2
   cases h
   obtain ⟨hp0, hp1, hp2, hp3⟩ := hp
   refine FCat.deep (ys := [.agg [.d (.v (.bool e0)), .d (.lst 9 n0 (rwB (gBs n0 f0)))], .agg [.d (.v (.bool e1)), .d (.lst 9 n1 (rwB (gBs n1 f1)))], .rp [.lst 1 n2 f2]]) ?_ ?_
   . repeat' (first | exact trivial | exact rfl | exact DvE.refl _ | refine ⟨?_, ?_⟩ | fail)
     all_goals first | first | exact canonB hp0.2.h | exact canonB hp1.2.h
   refine fcat tys_ok (l := [(46, ⟨[], FEWiden⟩)]) ⟨fcEWiden, trivial⟩ Tryz.func105 rfl (by kernel_rfl) true ?_
   obtain ⟨hroom, hsum⟩ := hp3
   have hn := hp0.1
   have hL := okL_rows hp0.2
   have hlen := gBs_length n0 f0
   generalize gBs n0 f0 = L at *
   clear hp0
   subst hlen
   have hrow := okL_row hL
   have hb := gBs_row L
   have hm := hp1.1
   have hM := okL_rows hp1.2
   have hlen1 := gBs_length n1 f1
   generalize gBs n1 f1 = M at *
   clear hp1
   subst hlen1
   have hrow1 := okL_row hM
   have hb1 := gBs_row M
   repeat' (first | exact trivial | (with_reducible first | exact hroom | exact hp2 | exact hp2.1 | exact hp2.2) | refine ⟨?_, ?_⟩ | intro _)
   all_goals first | (with_reducible first | apply qa | apply qb | apply qc | apply qd) | (conv => whnf)
   all_goals (try simp only [gBs_row])
   all_goals first | exact hn | exact hm | exact hrow | exact hrow1 | exact hroom | exact hsum | rfl | exact (hp2.2 _ ‹_›).2.1 | exact (hp2.2 _ ‹_›).2.2 | exact (hp2.2 _ ‹_›).1
 . cases h
def FWVC : List Ar -> Option Rs
 | [.agg [.d (.v (.bool s0)), .d (.v (.int .i64 l0)), .d (.v (.int .i64 h0)), .d (.v (.bool b0)), .d (.v (.int .i64 m0)), .d (.v (.int .i64 r0)), .d (.v (.bool z0)), .d (.lst 1 n0 f0)], .agg [.d (.v (.bool s1)), .d (.v (.int .i64 l1)), .d (.v (.int .i64 h1)), .d (.v (.bool b1)), .d (.v (.int .i64 m1)), .d (.v (.int .i64 r1)), .d (.v (.bool z1)), .d (.lst 1 n1 f1)], .rp [.lst 1 n2 f2]] => some ⟨((n0 * 16 <= 140737488351232 /\ ∀ i, i < n0 -> f0 i = [st (gT (f0 i))]) /\ Sp.inR ⟨s0, l0, h0⟩ /\ Cg.inR ⟨b0, m0, r0⟩) /\ ((n1 * 16 <= 140737488351232 /\ ∀ i, i < n1 -> f1 i = [st (gT (f1 i))]) /\ Sp.inR ⟨s1, l1, h1⟩ /\ Cg.inR ⟨b1, m1, r1⟩) /\ (n2 <= 9223372036854775807 /\ ∀ i, i < n2 -> f2 i = [it (gI (f2 i))] /\ rI (gI (f2 i))) /\ ((n0 + n1) * 16 <= 140737488351232), .va (Vl.ar (Vl.widen (⟨⟨⟨s0, l0, h0⟩, ⟨b0, m0, r0⟩⟩, ⟨z0, gN n0 f0⟩⟩ : Vl) (⟨⟨⟨s1, l1, h1⟩, ⟨b1, m1, r1⟩⟩, ⟨z1, gN n1 f1⟩⟩ : Vl) (gL n2 f2))), []⟩
 | _ => none
theorem fcWVC : FC Tryz.prog 106 FWVC := by
 intro xs pre r us h hp
 unfold FWVC at h
 split at h
 . rename_i s0 l0 h0 b0 m0 r0 z0 n0 f0 s1 l1 h1 b1 m1 r1 z1 n1 f1 n2 f2
   cases h
   obtain ⟨hp0, hp1, hp2, hp3⟩ := hp
   refine FCat.of_eq (as' := [.agg [.d (.v (.bool s0)), .d (.v (.int .i64 l0)), .d (.v (.int .i64 h0)), .d (.v (.bool b0)), .d (.v (.int .i64 m0)), .d (.v (.int .i64 r0)), .d (.v (.bool z0)), .d (.lst 1 n0 fun i => [st (gT (f0 i))])], .agg [.d (.v (.bool s1)), .d (.v (.int .i64 l1)), .d (.v (.int .i64 h1)), .d (.v (.bool b1)), .d (.v (.int .i64 m1)), .d (.v (.int .i64 r1)), .d (.v (.bool z1)), .d (.lst 1 n1 fun i => [st (gT (f1 i))])], .rp [.lst 1 n2 f2]]) ?_ rfl rfl ?_
   . repeat' (first | exact trivial | exact rfl | refine ⟨?_, ?_⟩ | fail)
     all_goals first | exact hp0.1.2 | exact hp1.1.2 | exact hp0.2 | exact hp1.2 | exact hp2.2 | (intro i hi; exact (hp0.2 i hi).1) | (intro i hi; exact (hp1.2 i hi).1) | (intro i hi; exact (hp2.2 i hi).1) | grind
   refine fcat tys_ok (l := [(101, ⟨[], FVWiden⟩)]) ⟨fcVWiden, trivial⟩ Tryz.func106 rfl (by kernel_rfl) true ?_
   repeat' (first | exact trivial | (with_reducible first | exact hp0.1 | exact hp1.1 | exact hp0.1.1 | exact hp1.1.1 | exact hp0.2 | exact hp1.2 | exact hp0.2.1 | exact hp0.2.2 | exact hp1.2.1 | exact hp1.2.2 | exact hp2 | exact hp2.1 | exact hp2.2 | exact hp3) | refine ⟨?_, ?_⟩ | intro _)
   all_goals first | (with_reducible first | apply qa | apply qb | apply qc | apply qd) | (conv => whnf)
   all_goals (try simp only [gN_lst])
   all_goals first | rfl
 . cases h
abbrev gEWc (nk : Nat) (fk : Nat -> List DV) : List Cv -> Option Gs := mkFv (sums [(105, ⟨[], FWEC⟩)]) 105 [.rp [.lst 1 nk fk]]
abbrev gVWc (nk : Nat) (fk : Nat -> List DV) : List Cv -> Option Gs := mkFv (sums [(106, ⟨[], FWVC⟩)]) 106 [.rp [.lst 1 nk fk]]
theorem gEWc_ok {nk : Nat} {fk : Nat -> List DV} (hk : nk <= 9223372036854775807 /\ ∀ i, i < nk -> fk i = [it (gI (fk i))] /\ rI (gI (fk i))) {a b : En} (ha : a.binds.length <= 1099511627776 /\ RowsOk a.binds.length (rwB a.binds)) (hb : b.binds.length <= 1099511627776 /\ RowsOk b.binds.length (rwB b.binds)) (hr : Room a.binds b.binds) (hs : a.binds.length + b.binds.length <= 1099511627776) : gEq (gEWc nk fk) (enC a) (enC b) (enC (En.widen a b (gL nk fk))) :=
 gEq_of (z' := enC (En.widen ⟨a.live, gBs a.binds.length (rwB a.binds)⟩ ⟨b.live, gBs b.binds.length (rwB b.binds)⟩ (gL nk fk))) rfl (by rw [gBs_row, gBs_row]) ⟨ha, hb, hk, by rw [gBs_row, gBs_row]; exact hr, hs⟩
def FTWiden : List Ar -> Option Rs
 | [.agg [.d (.v (.bool e0)), .d (.lst 9 n0 f0), .d (.v (.bool s0)), .d (.v (.int .i64 l0)), .d (.v (.int .i64 h0)), .d (.v (.bool b0)), .d (.v (.int .i64 m0)), .d (.v (.int .i64 r0)), .d (.v (.bool z0)), .d (.lst 1 p0 g0)], .agg [.d (.v (.bool e1)), .d (.lst 9 n1 f1), .d (.v (.bool s1)), .d (.v (.int .i64 l1)), .d (.v (.int .i64 h1)), .d (.v (.bool b1)), .d (.v (.int .i64 m1)), .d (.v (.int .i64 r1)), .d (.v (.bool z1)), .d (.lst 1 p1 g1)], .c (.d (.lst 1 n2 f2))] => some ⟨((n0 <= 1099511627776 /\ RowsOk n0 f0) /\ ((p0 * 16 <= 140737488351232 /\ ∀ i, i < p0 -> g0 i = [st (gT (g0 i))]) /\ Sp.inR ⟨s0, l0, h0⟩ /\ Cg.inR ⟨b0, m0, r0⟩)) /\ ((n1 <= 1099511627776 /\ RowsOk n1 f1) /\ ((p1 * 16 <= 140737488351232 /\ ∀ i, i < p1 -> g1 i = [st (gT (g1 i))]) /\ Sp.inR ⟨s1, l1, h1⟩ /\ Cg.inR ⟨b1, m1, r1⟩)) /\ (n2 <= 9223372036854775807 /\ ∀ i, i < n2 -> f2 i = [it (gI (f2 i))] /\ rI (gI (f2 i))) /\ (Room (Sv.e (⟨⟨e0, gBs n0 f0⟩, ⟨⟨⟨s0, l0, h0⟩, ⟨b0, m0, r0⟩⟩, ⟨z0, gN p0 g0⟩⟩⟩ : Sv)).binds (Sv.e (⟨⟨e1, gBs n1 f1⟩, ⟨⟨⟨s1, l1, h1⟩, ⟨b1, m1, r1⟩⟩, ⟨z1, gN p1 g1⟩⟩⟩ : Sv)).binds /\ QJ (Sv.v (⟨⟨e0, gBs n0 f0⟩, ⟨⟨⟨s0, l0, h0⟩, ⟨b0, m0, r0⟩⟩, ⟨z0, gN p0 g0⟩⟩⟩ : Sv)) (Sv.v (⟨⟨e1, gBs n1 f1⟩, ⟨⟨⟨s1, l1, h1⟩, ⟨b1, m1, r1⟩⟩, ⟨z1, gN p1 g1⟩⟩⟩ : Sv)) /\ n0 + n1 <= 1099511627776), .va (Sv.ar (Sv.widen (⟨⟨e0, gBs n0 f0⟩, ⟨⟨⟨s0, l0, h0⟩, ⟨b0, m0, r0⟩⟩, ⟨z0, gN p0 g0⟩⟩⟩ : Sv) (⟨⟨e1, gBs n1 f1⟩, ⟨⟨⟨s1, l1, h1⟩, ⟨b1, m1, r1⟩⟩, ⟨z1, gN p1 g1⟩⟩⟩ : Sv) (gL n2 f2))), []⟩
 | _ => none
theorem fcTWiden : FC Tryz.prog 54 FTWiden := by
 intro xs pre r us h hp
 unfold FTWiden at h
 split at h
 . rename_i e0 n0 f0 s0 l0 h0 b0 m0 r0 z0 p0 g0 e1 n1 f1 s1 l1 h1 b1 m1 r1 z1 p1 g1 n2 f2
   cases h
   obtain ⟨hp0, hp1, hp2, hp3⟩ := hp
   refine FCat.deep (ys := [.agg [.d (.v (.bool e0)), .d (.lst 9 n0 (rwB (gBs n0 f0))), .d (.v (.bool s0)), .d (.v (.int .i64 l0)), .d (.v (.int .i64 h0)), .d (.v (.bool b0)), .d (.v (.int .i64 m0)), .d (.v (.int .i64 r0)), .d (.v (.bool z0)), .d (.lst 1 p0 fun i => [st (gT (g0 i))])], .agg [.d (.v (.bool e1)), .d (.lst 9 n1 (rwB (gBs n1 f1))), .d (.v (.bool s1)), .d (.v (.int .i64 l1)), .d (.v (.int .i64 h1)), .d (.v (.bool b1)), .d (.v (.int .i64 m1)), .d (.v (.int .i64 r1)), .d (.v (.bool z1)), .d (.lst 1 p1 fun i => [st (gT (g1 i))])], .c (.d (.lst 1 n2 fun i => [it (gI (f2 i))]))]) ?_ ?_
   . repeat' (first | exact trivial | exact rfl | exact DvE.refl _ | refine ⟨?_, ?_⟩ | fail)
     all_goals first | first | exact canonB hp0.1.2.h | (exact .rows fun i hi => by rw [hp0.2.1.2 i hi]; exact ⟨rfl, fun j a b ha hb => by have hb : [st (gT (g0 i))][j]? = some b := hb; rw [ha] at hb; cases hb; exact .refl _⟩) | exact canonB hp1.1.2.h | (exact .rows fun i hi => by rw [hp1.2.1.2 i hi]; exact ⟨rfl, fun j a b ha hb => by have hb : [st (gT (g1 i))][j]? = some b := hb; rw [ha] at hb; cases hb; exact .refl _⟩) | (exact .rows fun i hi => by rw [(hp2.2 i hi).1]; exact ⟨rfl, fun j a b ha hb => by have hb : [it (gI (f2 i))][j]? = some b := hb; rw [ha] at hb; cases hb; exact .refl _⟩)
   refine fcat tys_ok (l := [(104, ⟨[], (FTParts (En.widen ⟨e0, gBs n0 (rwB (gBs n0 f0))⟩ ⟨e1, gBs n1 (rwB (gBs n1 f1))⟩ (gL n2 (fun i => [it (gI (f2 i))]))) (Vl.widen (⟨⟨⟨s0, l0, h0⟩, ⟨b0, m0, r0⟩⟩, ⟨z0, gN p0 fun i => [st (gT (g0 i))]⟩⟩ : Vl) (⟨⟨⟨s1, l1, h1⟩, ⟨b1, m1, r1⟩⟩, ⟨z1, gN p1 fun i => [st (gT (g1 i))]⟩⟩ : Vl) (gL n2 (fun i => [it (gI (f2 i))]))) (gEWc n2 (fun i => [it (gI (f2 i))])) (gVWc n2 (fun i => [it (gI (f2 i))])))⟩), (105, ⟨[], FWEC⟩), (106, ⟨[], FWVC⟩)]) ⟨(fcTParts (En.widen ⟨e0, gBs n0 (rwB (gBs n0 f0))⟩ ⟨e1, gBs n1 (rwB (gBs n1 f1))⟩ (gL n2 (fun i => [it (gI (f2 i))]))) (Vl.widen (⟨⟨⟨s0, l0, h0⟩, ⟨b0, m0, r0⟩⟩, ⟨z0, gN p0 fun i => [st (gT (g0 i))]⟩⟩ : Vl) (⟨⟨⟨s1, l1, h1⟩, ⟨b1, m1, r1⟩⟩, ⟨z1, gN p1 fun i => [st (gT (g1 i))]⟩⟩ : Vl) (gL n2 (fun i => [it (gI (f2 i))]))) (gEWc n2 (fun i => [it (gI (f2 i))])) (gVWc n2 (fun i => [it (gI (f2 i))]))), fcWEC, fcWVC, trivial⟩ Tryz.func54 rfl (by kernel_rfl) true ?_
   obtain ⟨hroom, hqj, hsum⟩ := hp3
   dsimp only at hroom
   have hA0 := hp0.1
   have hV0 := hp0.2
   have hvR0 := hV0.2
   simp only [Sp.inR, Cg.inR] at hvR0
   have hL0 := okL_rows hA0.2
   have hn0 := hA0.1
   have hlen0 := gBs_length n0 f0
   generalize gBs n0 f0 = L at *
   clear hA0 hp0
   subst hlen0
   have hrow0 := okL_row hL0
   have hvok0 : okV (⟨⟨⟨s0, l0, h0⟩, ⟨b0, m0, r0⟩⟩, ⟨z0, gN p0 fun i => [st (gT (g0 i))]⟩⟩ : Vl) := ⟨⟨(by rw [gN_length]; exact hV0.1.1), fun _ _ => rfl⟩, hV0.2⟩
   have hcr0 := okL_row (clean_ok (e := ⟨e0, L⟩) hL0)
   have hcl0 : (En.clean ⟨e0, L⟩).binds.length <= L.length := clean_len ⟨e0, L⟩
   have hA1 := hp1.1
   have hV1 := hp1.2
   have hvR1 := hV1.2
   simp only [Sp.inR, Cg.inR] at hvR1
   have hL1 := okL_rows hA1.2
   have hn1 := hA1.1
   have hlen1 := gBs_length n1 f1
   generalize gBs n1 f1 = M at *
   clear hA1 hp1
   subst hlen1
   have hrow1 := okL_row hL1
   have hvok1 : okV (⟨⟨⟨s1, l1, h1⟩, ⟨b1, m1, r1⟩⟩, ⟨z1, gN p1 fun i => [st (gT (g1 i))]⟩⟩ : Vl) := ⟨⟨(by rw [gN_length]; exact hV1.1.1), fun _ _ => rfl⟩, hV1.2⟩
   have hcr1 := okL_row (clean_ok (e := ⟨e1, M⟩) hL1)
   have hcl1 : (En.clean ⟨e1, M⟩).binds.length <= M.length := clean_len ⟨e1, M⟩
   have hqj2 : QJ (⟨⟨⟨s0, l0, h0⟩, ⟨b0, m0, r0⟩⟩, ⟨z0, gN p0 fun i => [st (gT (g0 i))]⟩⟩ : Vl) (⟨⟨⟨s1, l1, h1⟩, ⟨b1, m1, r1⟩⟩, ⟨z1, gN p1 fun i => [st (gT (g1 i))]⟩⟩ : Vl) := hqj
   have hsumV : (p0 + p1) * 16 <= 140737488351232 := by have := hqj; unfold QJ at this; simpa [gN_length] using this
   have hcan : ∀ i, i < n2 -> (fun i => [it (gI (f2 i))]) i = [it (gI ((fun i => [it (gI (f2 i))]) i))] /\ rI (gI ((fun i => [it (gI (f2 i))]) i)) := fun i hi => ⟨rfl, (hp2.2 i hi).2⟩
   have hlad : ∀ z, z ∈ gL n2 (fun i => [it (gI (f2 i))]) -> rI z := fun z hz => gL_r hp2.2 z hz
   have hge := gEWc_ok (nk := n2) (fk := fun i => [it (gI (f2 i))]) ⟨hp2.1, hcan⟩ (a := ⟨e0, gBs L.length (rwB L)⟩) (b := ⟨e1, gBs M.length (rwB M)⟩) (by rw [gBs_row]; exact ⟨hn0, hrow0⟩) (by rw [gBs_row]; exact ⟨hn1, hrow1⟩) (by rw [gBs_row, gBs_row]; exact hroom) (by rw [gBs_row, gBs_row]; exact hsum)
   have hokR : okL (En.widen ⟨e0, gBs L.length (rwB L)⟩ ⟨e1, gBs M.length (rwB M)⟩ (gL n2 (fun i => [it (gI (f2 i))]))).binds := widen_okL (by rw [gBs_row]; exact hL0) (by rw [gBs_row]; exact hL1) (by rw [gBs_row, gBs_row]; exact hroom) hlad
   have hlR : (En.widen ⟨e0, gBs L.length (rwB L)⟩ ⟨e1, gBs M.length (rwB M)⟩ (gL n2 (fun i => [it (gI (f2 i))]))).binds.length <= 1099511627776 := Nat.le_trans (widen_len _ _ _) (by rw [gBs_row, gBs_row]; exact hsum)
   have hokW := vwiden_ok (l := gL n2 (fun i => [it (gI (f2 i))])) hvok0 hvok1 hqj2 hlad
   have hgv : gEq (gVWc n2 (fun i => [it (gI (f2 i))])) [bo s0, it l0, it h0, bo b0, it m0, it r0, bo z0, .lst 1 p0 fun i => [st (gT [st (gT (g0 i))])]] [bo s1, it l1, it h1, bo b1, it m1, it r1, bo z1, .lst 1 p1 fun i => [st (gT [st (gT (g1 i))])]] (vlC (Vl.widen (⟨⟨⟨s0, l0, h0⟩, ⟨b0, m0, r0⟩⟩, ⟨z0, gN p0 fun i => [st (gT (g0 i))]⟩⟩ : Vl) (⟨⟨⟨s1, l1, h1⟩, ⟨b1, m1, r1⟩⟩, ⟨z1, gN p1 fun i => [st (gT (g1 i))]⟩⟩ : Vl) (gL n2 (fun i => [it (gI (f2 i))])))) := gEq_of rfl rfl ⟨⟨⟨hV0.1.1, fun i hi => rfl⟩, hV0.2⟩, ⟨⟨hV1.1.1, fun i hi => rfl⟩, hV1.2⟩, ⟨hp2.1, hcan⟩, hsumV⟩
   repeat' (first | exact trivial | (with_reducible first | exact hge | exact hgv | exact hokR | exact hokW | exact hlR) | refine ⟨?_, ?_⟩ | intro _)
   all_goals first | (with_reducible first | apply qa | apply qb | apply qc | apply qd) | (conv => whnf)
   all_goals (try simp only [gBs_row, gN_lst])
   all_goals first | exact hlR | (rw [gBs_row, gBs_row] at hlR; exact hlR) | exact hrow0 | exact hn0 | exact hV0.1.1 | exact hvR0.1.1 | exact hvR0.1.2 | exact hvR0.2.1 | exact hvR0.2.2 | exact hcr0 | exact hrow1 | exact hn1 | exact hV1.1.1 | exact hvR1.1.1 | exact hvR1.1.2 | exact hvR1.2.1 | exact hvR1.2.2 | exact hcr1 | omega | (intro i hi; rfl) | rfl
 . cases h
theorem narrow_tidyE (a b : En) : (En.narrow a b).tidy := by
 rw [narrow_case]
 split
 . split
   . split
     . exact zip_tidy opN a b
     . exact clean_tidyE a
   . exact ⟨List.Pairwise.nil, fun x h => (by cases h), fun _ => rfl⟩
 . exact clean_tidyE b
theorem widen_tidyE {a b : En} (l : List Int) (hb : inRE b) : (En.widen a b l).tidy := by
 rw [widen_case]
 split
 . split
   . rename_i hb'
     have hs : SS (En.zipE (fun x y => Vl.widen x y l) a b).binds := ss_mrg (clean_ss a) (clean_ss b)
     have hz : Vl.inR Vl.zero := by unfold Vl.inR Vl.zero Ig.zero Sp.inR Cg.inR; decide
     have hbi : ∀ {s w}, b.hold s = some w -> w.of.inR := by
      intro s w hw
      unfold En.hold at hw
      rw [if_pos hb'] at hw
      exact Vl.of_inR (hb _ (lk_mem hw))
     refine ⟨hs, fun x hx => ?_, fun h => (by cases h)⟩
     have := lk_of_mem hs hx
     rw [zip_lk] at this
     cases h1 : (a.hold x.name).map Vl.of with
     | none =>
       rw [h1] at this
       cases h2 : (b.hold x.name).map Vl.of with
       | none => rw [h2] at this; cases this
       | some w =>
         rw [h2] at this
         obtain ⟨w', e, rfl⟩ := Option.map_eq_some_iff.1 h2
         have := Option.some.inj this
         rw [<- this]; exact Vl.widen_tidy (hbi e)
     | some v =>
       rw [h1] at this
       cases h2 : (b.hold x.name).map Vl.of with
       | none =>
         rw [h2] at this
         have := Option.some.inj this
         rw [<- this]; exact Vl.widen_tidy hz
       | some w =>
         rw [h2] at this
         obtain ⟨w', e, rfl⟩ := Option.map_eq_some_iff.1 h2
         have := Option.some.inj this
         rw [<- this]; exact Vl.widen_tidy (hbi e)
   . exact clean_tidyE a
 . exact clean_tidyE b
namespace Sv
theorem clean_fix {e : En} {v : Vl} (he : e.tidy) (hv : v.tidy) : Sv.clean ⟨e, v⟩ = ⟨e, v⟩ := by
 show (⟨e.clean, v.of⟩ : Sv) = _
 rw [clean_fixE he, Vl.of_fix hv]
theorem clean2 (a : Sv) : a.clean.clean = a.clean := clean_fix (clean_tidyE _) (Vl.of_tidy _)
theorem join_is (a b : Sv) : join a b = ⟨En.join a.e b.e, Vl.join a.v b.v⟩ := clean_fix (join_tidyE _ _) (Vl.jn_tidy _ _)
theorem narrow_is (a b : Sv) : narrow a b = ⟨En.narrow a.e b.e, Vl.narrow a.v b.v⟩ := clean_fix (narrow_tidyE _ _) (Vl.narrow_tidy _ _)
theorem widen_is {a b : Sv} (l : List Int) (he : inRE b.e) (hv : b.v.inR) : widen a b l = ⟨En.widen a.e b.e l, Vl.widen a.v b.v l⟩ := clean_fix (widen_tidyE l he) (Vl.widen_tidy hv)
theorem leq_refl (a : Sv) : leq a a = true := by unfold leq; rw [leqE_refl, Vl.l3_refl]; rfl
theorem leq_and {a b : Sv} : leq a b = true ↔ En.leq a.e b.e = true /\ Vl.leq a.v b.v = true := by unfold leq; exact Bool.and_eq_true_iff
theorem leq_trans {a b c : Sv} (h1 : leq a b = true) (h2 : leq b c = true) : leq a c = true :=
 leq_and.2 ⟨leqE_trans (leq_and.1 h1).1 (leq_and.1 h2).1, Vl.l3_trans (leq_and.1 h1).2 (leq_and.1 h2).2⟩
theorem join_comm (a b : Sv) : join a b = join b a := by rw [join_is, join_is, join_commE, Vl.l3_comm]
theorem leq_join1 (a b : Sv) : leq a (join a b) = true := by rw [join_is]; exact leq_and.2 ⟨leqE_join1 _ _, Vl.l3_join1 _ _⟩
theorem leq_join2 (a b : Sv) : leq b (join a b) = true := by rw [join_comm]; exact leq_join1 b a
theorem leq_widen {a b : Sv} {l : List Int} (he : inRE b.e) (hv : b.v.inR) : leq (join a b) (widen a b l) = true := by
 rw [join_is, widen_is l he hv]; exact leq_and.2 ⟨leqE_widen he, Vl.l3_widen hv⟩
theorem leq_dead {a b : Sv} (h1 : a.e.live = false) (h2 : Vl.leq a.v b.v = true) : leq a b = true := leq_and.2 ⟨leqE_dead h1, h2⟩
end Sv
theorem cat_len (x y : List ByteArray) : (ofS (ofS x ++ ofS y)).length <= x.length + y.length := by
 have a1 := ofS_len (ofS x ++ ofS y)
 have a2 := ofS_len x
 have a3 := ofS_len y
 rw [List.length_append] at a1; omega
theorem vjoin_len (x y : Vl) : (Vl.join x y).t.names.length <= x.t.names.length + y.t.names.length := cat_len _ _
theorem vwiden_len (x y : Vl) (l : List Int) : (Vl.widen x y l).t.names.length <= x.t.names.length + y.t.names.length := cat_len _ _
theorem vof_len (x : Vl) : x.of.t.names.length <= x.t.names.length := by rw [of_names]; exact ofS_len _
theorem vnarrow_len (x y : Vl) : (Vl.narrow x y).t.names.length <= x.t.names.length + y.t.names.length := by
 rw [Vl.narrow_cases]
 split
 . exact Nat.le_trans (vof_len x) (by omega)
 . split
   . exact Nat.zero_le _
   . show x.of.t.names.length <= _
     exact Nat.le_trans (vof_len x) (by omega)
theorem zip_len {op : Vl -> Vl -> Vl} (h : ∀ x y, (op x y).t.names.length <= x.t.names.length + y.t.names.length) {a b : En} {N M : Nat}
 (ha : ∀ x ∈ a.binds, x.v.t.names.length <= N) (hb : ∀ x ∈ b.binds, x.v.t.names.length <= M) : ∀ x ∈ (En.zipE op a b).binds, x.v.t.names.length <= N + M := by
 intro z hz
 have ca : ∀ x ∈ a.clean.binds, x.v.t.names.length <= N := fun x hx => by
  obtain ⟨y, hy, e⟩ := clean_sub a x hx
  exact Nat.le_trans e (ha y hy)
 have cb : ∀ x ∈ b.clean.binds, x.v.t.names.length <= M := fun x hx => by
  obtain ⟨y, hy, e⟩ := clean_sub b x hx
  exact Nat.le_trans e (hb y hy)
 have hz0 : Vl.zero.t.names.length = 0 := rfl
 rcases mrg_mem (A := a.clean.binds) (B := b.clean.binds) hz with ⟨x, hx, e⟩ | ⟨y, hy, e⟩ | ⟨x, hx, y, hy, e⟩
 . have := h x.v Vl.zero; have := ca x hx; rw [e]; omega
 . have := h Vl.zero y.v; have := cb y hy; rw [e]; omega
 . have := h x.v y.v; have := ca x hx; have := cb y hy; rw [e]; omega
structure Sv.fit (N : Nat) (s : Sv) : Prop where
 l : okL s.e.binds
 v : okV s.v
 len : s.e.binds.length <= N
 b : ∀ x ∈ s.e.binds, x.v.t.names.length <= N
 n : s.v.t.names.length <= N
namespace Sv.fit
theorem row {N : Nat} {s : Sv} (h : fit N s) : RowsOk s.e.binds.length (rwB s.e.binds) := okL_row h.l
theorem mono {N M : Nat} {s : Sv} (h : fit N s) (hn : N <= M) : fit M s := ⟨h.l, h.v, Nat.le_trans h.len hn, fun x hx => Nat.le_trans (h.b x hx) hn, Nat.le_trans h.n hn⟩
theorem clean {N : Nat} {s : Sv} (h : fit N s) : fit N s.clean where
 l := clean_ok h.l
 v := okV_of h.v
 len := Nat.le_trans (clean_len s.e) h.len
 b x hx := by
  obtain ⟨y, hy, e⟩ := clean_sub s.e x hx
  exact Nat.le_trans e (h.b y hy)
 n := Nat.le_trans (vof_len _) h.n
theorem room {N M : Nat} {a b : Sv} (ha : fit N a) (hb : fit M b) (hn : (N + M) * 16 <= 140737488351232) : Room a.e.binds b.e.binds :=
 ⟨fun x hx y hy => by have := ha.b x hx; have := hb.b y hy; unfold QJ; omega, fun x hx => by have := ha.b x hx; unfold QJ; show (_ + 0) * 16 <= _; omega, fun y hy => by have := hb.b y hy; unfold QJ; show (0 + _) * 16 <= _; omega⟩
theorem qj {N M : Nat} {a b : Sv} (ha : fit N a) (hb : fit M b) (hn : (N + M) * 16 <= 140737488351232) : QJ a.v b.v := by
 have := ha.n; have := hb.n; unfold QJ; omega
theorem inRE {N : Nat} {s : Sv} (h : fit N s) : _root_.Go.Proofs.YthkknkhpfffnbaaGreat.inRE s.e := inRE_of h.l
theorem inR {N : Nat} {s : Sv} (h : fit N s) : s.v.inR := by have := h.v; unfold okV at this; exact this.2
theorem join {N M : Nat} {a b : Sv} (ha : fit N a) (hb : fit M b) (hn : (N + M) * 16 <= 140737488351232) : fit (N + M) (join a b) := by
 rw [join_is]
 refine ⟨join_okL ha.l hb.l (room ha hb hn), vjoin_ok ha.v hb.v (qj ha hb hn), ?_, ?_, Nat.le_trans (vjoin_len _ _) (by have := ha.n; have := hb.n; omega)⟩
 . exact Nat.le_trans (join_len _ _) (by have := ha.len; have := hb.len; omega)
 . show ∀ x ∈ (En.join a.e b.e).binds, _
   rw [join_case]
   split
   . split
     . exact zip_len vjoin_len ha.b hb.b
     . exact (ha.clean.mono (by omega)).b
   . exact (hb.clean.mono (by omega)).b
theorem widen {N M : Nat} {a b : Sv} {l : List Int} (ha : fit N a) (hb : fit M b) (hn : (N + M) * 16 <= 140737488351232) (hl : ∀ z, z ∈ l -> rI z) : fit (N + M) (widen a b l) := by
 rw [widen_is l hb.inRE hb.inR]
 refine ⟨widen_okL ha.l hb.l (room ha hb hn) hl, vwiden_ok ha.v hb.v (qj ha hb hn) hl, ?_, ?_, Nat.le_trans (vwiden_len _ _ _) (by have := ha.n; have := hb.n; omega)⟩
 . exact Nat.le_trans (widen_len _ _ _) (by have := ha.len; have := hb.len; omega)
 . show ∀ x ∈ (En.widen a.e b.e l).binds, _
   rw [widen_case]
   split
   . split
     . exact zip_len (fun x y => vwiden_len x y l) ha.b hb.b
     . exact (ha.clean.mono (by omega)).b
   . exact (hb.clean.mono (by omega)).b
theorem narrow {N M : Nat} {a b : Sv} (ha : fit N a) (hb : fit M b) : fit (N + M) (narrow a b) := by
 rw [narrow_is]
 refine ⟨narrow_okL ha.l hb.l, vnarrow_ok ha.v hb.v, ?_, ?_, Nat.le_trans (vnarrow_len _ _) (by have := ha.n; have := hb.n; omega)⟩
 . exact Nat.le_trans (narrow_len _ _) (by have := ha.len; have := hb.len; omega)
 . show ∀ x ∈ (En.narrow a.e b.e).binds, _
   rw [narrow_case]
   split
   . split
     . split
       . exact zip_len vnarrow_len ha.b hb.b
       . exact (ha.clean.mono (by omega)).b
     . intro x hx; cases hx
   . exact (hb.clean.mono (by omega)).b
end Sv.fit
namespace Sv
@[reducible] def again (s : Sv) : Sv := ⟨⟨s.e.live, gBs s.e.binds.length (rwB s.e.binds)⟩, ⟨⟨⟨s.v.i.s.some, s.v.i.s.lo, s.v.i.s.hi⟩, ⟨s.v.i.c.some, s.v.i.c.m, s.v.i.c.r⟩⟩, ⟨s.v.t.null, gN s.v.t.names.length fun i => [st (atS s.v.t.names i)]⟩⟩⟩
theorem again_eq (s : Sv) : again s = s := by
 show (⟨⟨s.e.live, gBs s.e.binds.length (rwB s.e.binds)⟩, ⟨⟨⟨s.v.i.s.some, s.v.i.s.lo, s.v.i.s.hi⟩, ⟨s.v.i.c.some, s.v.i.c.m, s.v.i.c.r⟩⟩, ⟨s.v.t.null, gN s.v.t.names.length fun i => [st (atS s.v.t.names i)]⟩⟩⟩ : Sv) = s
 rw [gBs_row, gN_lst]
abbrev cond (s : Sv) : Prop := (s.e.binds.length <= 1099511627776 /\ RowsOk s.e.binds.length (rwB s.e.binds)) /\ ((s.v.t.names.length * 16 <= 140737488351232 /\ ∀ i, i < s.v.t.names.length -> [st (atS s.v.t.names i)] = [st (gT [st (atS s.v.t.names i)])]) /\ Sp.inR ⟨s.v.i.s.some, s.v.i.s.lo, s.v.i.s.hi⟩ /\ Cg.inR ⟨s.v.i.c.some, s.v.i.c.m, s.v.i.c.r⟩)
end Sv
theorem Sv.fit.cond {N : Nat} {s : Sv} (h : Sv.fit N s) (hN : N <= 8000000000) : Sv.cond s :=
 ⟨⟨Nat.le_trans h.len (by omega), h.row⟩, ⟨⟨by have := h.n; omega, fun _ _ => rfl⟩, h.inR⟩⟩
theorem Sv.fit.ag {N : Nat} {s : Sv} (h : Sv.fit N s) : Sv.fit N (Sv.again s) := by rw [Sv.again_eq]; exact h
structure Sv.pair (a b : Sv) : Prop where
 r : Room a.e.binds b.e.binds
 q : QJ a.v b.v
 s : a.e.binds.length + b.e.binds.length <= 1099511627776
theorem Sv.fit.pair {N M : Nat} {a b : Sv} (ha : Sv.fit N a) (hb : Sv.fit M b) (hn : N + M <= 8000000000) : Sv.pair a b :=
 ⟨ha.room hb (by omega), ha.qj hb (by omega), by have := ha.len; have := hb.len; omega⟩
def nilIp : List Nat -> List Ic -> List Ic
 | _, [] => []
 | [], x :: xs => nilI 1 x :: nilIp [] xs
 | z :: zs, x :: xs => nilI z x :: nilIp zs xs
def nilAp : List Nat -> Ar -> Ar
 | [], .c x => .c (nilI 1 x)
 | z :: _, .c x => .c (nilI z x)
 | zs, .agg xs => .agg (nilIp zs xs)
 | _, x => x
def nilP : List (List Nat) -> List Ar -> List Ar
 | _, [] => []
 | [], x :: xs => nilAp [] x :: nilP [] xs
 | z :: zs, x :: xs => nilAp z x :: nilP zs xs
def FP (zs : List (List Nat)) (F : List Ar -> Option Rs) (qs : List Ar) : Option Rs :=
 match arsRows qs with
 | [] => match F (nilP zs qs) with
   | some ⟨p, r, []⟩ => some ⟨p, r, []⟩
   | _ => none
 | _ => none
theorem nilIp_eq : ∀ (zs : List Nat) (xs : List Ic), icsEq xs (nilIp zs xs)
 | _, [] => by unfold nilIp; trivial
 | [], x :: xs => by unfold nilIp; exact ⟨nilI_eq 1 x, nilIp_eq [] xs⟩
 | z :: zs, x :: xs => by unfold nilIp; exact ⟨nilI_eq z x, nilIp_eq zs xs⟩
theorem nilAp_eq : ∀ (zs : List Nat) (x : Ar), arEq x (nilAp zs x)
 | [], .c x => nilI_eq 1 x
 | z :: _, .c x => nilI_eq z x
 | [], .agg xs => nilIp_eq [] xs
 | z :: zs, .agg xs => nilIp_eq (z :: zs) xs
 | [], .rp _ => rfl
 | _ :: _, .rp _ => rfl
 | [], .fv _ => rfl
 | _ :: _, .fv _ => rfl
theorem nilP_eq : ∀ (zs : List (List Nat)) (xs : List Ar), arsEq xs (nilP zs xs)
 | _, [] => by unfold nilP; trivial
 | [], x :: xs => by unfold nilP; exact ⟨nilAp_eq [] x, nilP_eq [] xs⟩
 | z :: zs, x :: xs => by unfold nilP; exact ⟨nilAp_eq z x, nilP_eq zs xs⟩
theorem nilI_rows (z : Nat) (x : Ic) (xs ys : List Ic) (h : icRows xs = icRows ys) : icRows (nilI z x :: xs) = icRows (x :: ys) := by
 cases x with
 | d x => simp only [nilI, icRows]; exact h
 | ow a b c => simp only [nilI, icRows]; rw [h]
theorem nilIp_rows : ∀ (zs : List Nat) (xs : List Ic), icRows (nilIp zs xs) = icRows xs
 | _, [] => by unfold nilIp; rfl
 | [], x :: xs => by unfold nilIp; exact nilI_rows 1 x _ _ (nilIp_rows [] xs)
 | z :: zs, x :: xs => by unfold nilIp; exact nilI_rows z x _ _ (nilIp_rows zs xs)
theorem nilAp_rows : ∀ (zs : List Nat) (x : Ar), arRows (nilAp zs x) = arRows x
 | [], .c x => by cases x <;> rfl
 | z :: _, .c x => by cases x <;> rfl
 | [], .agg xs => nilIp_rows [] xs
 | z :: zs, .agg xs => nilIp_rows (z :: zs) xs
 | [], .rp _ => rfl
 | _ :: _, .rp _ => rfl
 | [], .fv _ => rfl
 | _ :: _, .fv _ => rfl
theorem nilP_rows : ∀ (zs : List (List Nat)) (xs : List Ar), arsRows (nilP zs xs) = arsRows xs
 | _, [] => by unfold nilP; rfl
 | [], x :: xs => by unfold nilP; simp only [arsRows]; rw [nilAp_rows, nilP_rows [] xs]
 | z :: zs, x :: xs => by unfold nilP; simp only [arsRows]; rw [nilAp_rows, nilP_rows zs xs]
theorem fc_nilp {P : Program} {f : Nat} {F : List Ar -> Option Rs} (zs : List (List Nat)) (h : FC P f F) : FC P f (FP zs F) := by
 intro qs pre r us he hp
 unfold FP at he
 split at he
 . rename_i h0
   split at he
   . rename_i p r' hF
     cases he
     exact FCat.of_eq (nilP_eq zs qs) h0 (by rw [nilP_rows]; exact h0) (h _ _ _ _ hF hp)
   . cases he
 . cases he
abbrev zGG : List (List Nat) := [[1, 9], [1, 9]]
def Sv.zero : Sv := ⟨⟨false, []⟩, Vl.zero⟩
structure Ky where
 name : ByteArray
 node : Int
structure Sd where
 k : Ky
 s : Sv
instance : Inhabited Ky := ⟨⟨ByteArray.empty, 0⟩⟩
theorem Ky.ext_iff' {a b : Ky} : a = b ↔ a.name = b.name /\ a.node = b.node := by
 cases a; cases b; simp
instance : DecidableEq Ky := fun a b => decidable_of_iff (a.name = b.name /\ a.node = b.node) Ky.ext_iff'.symm
namespace Ky
def cl (k : Ky) : Ky := ⟨k.name, if k.node < 0 then -1 else k.node⟩
def lt (a b : Ky) : Bool := if a.name = b.name then decide (a.cl.node < b.cl.node) else decide (kS a.name < kS b.name)
theorem cl_cl (k : Ky) : k.cl.cl = k.cl := by unfold cl; simp only; split <;> rename_i h <;> simp [h]
theorem lt_cl1 (a b : Ky) : lt a.cl b = lt a b := by unfold lt; rw [cl_cl]; rfl
theorem lt_cl2 (a b : Ky) : lt a b.cl = lt a b := by unfold lt; rw [cl_cl]; rfl
theorem lt_iff {a b : Ky} : lt a b = true ↔ (a.name = b.name /\ a.cl.node < b.cl.node) \/ kS a.name < kS b.name := by
 unfold lt
 split
 . rename_i h
   rw [decide_eq_true_eq]
   constructor
   . exact fun q => .inl ⟨h, q⟩
   . rintro (q | q)
     . exact q.2
     . rw [h] at q; exact absurd q (List.lt_irrefl _)
 . rename_i h
   rw [decide_eq_true_eq]
   constructor
   . exact .inr
   . rintro (q | q)
     . exact absurd q.1 h
     . exact q
theorem lt_irrefl (a : Ky) : lt a a = false := by
 cases h : lt a a with
 | false => rfl
 | true =>
   rcases lt_iff.1 h with q | q
   . omega
   . exact absurd q (List.lt_irrefl _)
theorem lt_trans {a b c : Ky} (h1 : lt a b = true) (h2 : lt b c = true) : lt a c = true := by
 rw [lt_iff] at *
 rcases h1 with q | q <;> rcases h2 with p | p
 . exact .inl ⟨q.1.trans p.1, by omega⟩
 . exact .inr (by rw [q.1]; exact p)
 . exact .inr (by rw [<- p.1]; exact q)
 . exact .inr (List.lt_trans q p)
theorem lt_asymm {a b : Ky} (h : lt a b = true) : lt b a = false := by
 cases h2 : lt b a with
 | false => rfl
 | true => have := lt_trans h h2; rw [lt_irrefl] at this; cases this
theorem lt_tri {a b : Ky} (h1 : lt a b = false) (h2 : lt b a = false) : a.cl = b.cl := by
 have n1 : ¬ lt a b = true := by rw [h1]; exact Bool.false_ne_true
 have n2 : ¬ lt b a = true := by rw [h2]; exact Bool.false_ne_true
 rw [lt_iff] at n1 n2
 have e : a.name = b.name := by
  have hle : ¬ kS a.name < kS b.name := fun q => n1 (.inr q)
  have hge : ¬ kS b.name < kS a.name := fun q => n2 (.inr q)
  exact kS_inj (List.le_antisymm (List.not_lt.1 hge) (List.not_lt.1 hle))
 refine Ky.ext_iff'.2 ⟨e, ?_⟩
 have m1 : ¬ a.cl.node < b.cl.node := fun q => n1 (.inl ⟨e, q⟩)
 have m2 : ¬ b.cl.node < a.cl.node := fun q => n2 (.inl ⟨e.symm, q⟩)
 omega
theorem lt_ne {a b : Ky} (h : lt a b = true) : a.cl ≠ b.cl := fun e => by
 rw [<- lt_cl1, e, lt_cl1, lt_irrefl] at h; cases h
end Ky
def SK (l : List Ky) : Prop := l.Pairwise (fun a b => Ky.lt a b = true) /\ ∀ k, k ∈ l -> k.cl = k
theorem SK.tail {x : Ky} {l : List Ky} (h : SK (x :: l)) : SK l := ⟨(List.pairwise_cons.1 h.1).2, fun k hk => h.2 k (List.mem_cons_of_mem _ hk)⟩
theorem sk_split : ∀ {l : List Ky}, SK l -> ∀ k : Ky, ∃ A B, l = A ++ B /\ (∀ a, a ∈ A -> Ky.lt a k = true) /\ ∀ b, b ∈ B -> Ky.lt b k = false
 | [], _, k => ⟨[], [], rfl, fun a h => (by cases h), fun a h => (by cases h)⟩
 | x :: l, h, k => by
   cases hx : Ky.lt x k with
   | true =>
     obtain ⟨A, B, rfl, h1, h2⟩ := sk_split h.tail k
     exact ⟨x :: A, B, rfl, fun a ha => by rcases List.mem_cons.1 ha with rfl | ha; exact hx; exact h1 a ha, h2⟩
   | false =>
     refine ⟨[], x :: l, rfl, fun a ha => (by cases ha), fun b hb => ?_⟩
     rcases List.mem_cons.1 hb with rfl | hb
     . exact hx
     . cases hb2 : Ky.lt b k with
       | false => rfl
       | true => have := Ky.lt_trans ((List.pairwise_cons.1 h.1).1 b hb) hb2; rw [hx] at this; cases this
def putK (l : List Ky) (k : Ky) : List Ky := l.takeWhile (fun x => Ky.lt x k) ++ k.cl :: (l.dropWhile fun x => Ky.lt x k).filter fun x => decide (x ≠ k.cl)
theorem tw_split {A B : List Ky} {k : Ky} (h1 : ∀ a, a ∈ A -> Ky.lt a k = true) (h2 : ∀ b, b ∈ B -> Ky.lt b k = false) : (A ++ B).takeWhile (fun x => Ky.lt x k) = A /\ (A ++ B).dropWhile (fun x => Ky.lt x k) = B := by
 rw [List.takeWhile_append_of_pos h1, List.dropWhile_append_of_pos h1]
 cases B with
 | nil => exact ⟨by simp, rfl⟩
 | cons b B =>
   have := h2 b List.mem_cons_self
   rw [List.takeWhile_cons_of_neg (by rw [this]; exact Bool.false_ne_true), List.dropWhile_cons_of_neg (by rw [this]; exact Bool.false_ne_true)]
   exact ⟨List.append_nil _, rfl⟩
theorem put_split {A B : List Ky} {k : Ky} (h1 : ∀ a, a ∈ A -> Ky.lt a k = true) (h2 : ∀ b, b ∈ B -> Ky.lt b k = false) : putK (A ++ B) k = A ++ k.cl :: B.filter fun x => decide (x ≠ k.cl) := by
 unfold putK; rw [(tw_split h1 h2).1, (tw_split h1 h2).2]
theorem sk_behind {A B : List Ky} {k : Ky} (h : SK (A ++ B)) (h2 : ∀ b, b ∈ B -> Ky.lt b k = false) :
 (∃ B', B = k.cl :: B' /\ ∀ b, b ∈ B' -> b ≠ k.cl) \/ (∀ b, b ∈ B -> Ky.lt k b = true) := by
 cases B with
 | nil => exact .inr fun b hb => (by cases hb)
 | cons b B =>
   have hs := (List.pairwise_append.1 h.1).2.1
   have hb := List.pairwise_cons.1 hs
   have hcl : b.cl = b := h.2 b (List.mem_append_right _ List.mem_cons_self)
   cases hk : Ky.lt k b with
   | false =>
     have e := Ky.lt_tri (h2 b List.mem_cons_self) hk
     rw [hcl] at e
     refine .inl ⟨B, by rw [e], fun c hc q => ?_⟩
     have := hb.1 c hc
     rw [q, <- e, Ky.lt_irrefl] at this; cases this
   | true =>
     refine .inr fun c hc => ?_
     rcases List.mem_cons.1 hc with rfl | hc
     . exact hk
     . exact Ky.lt_trans hk (hb.1 c hc)
theorem filt_ne {B : List Ky} {k : Ky} (h : ∀ b, b ∈ B -> b ≠ k) : (B.filter fun x => decide (x ≠ k)) = B :=
 List.filter_eq_self.2 fun b hb => decide_eq_true (h b hb)
theorem ne_behind {B : List Ky} {k : Ky} (hc : ∀ b, b ∈ B -> b.cl = b) (h : ∀ b, b ∈ B -> Ky.lt k b = true) : ∀ b, b ∈ B -> b ≠ k.cl := fun b hb q => by
 have := Ky.lt_ne (h b hb)
 rw [hc b hb, q] at this; exact this rfl
theorem mem_put {l : List Ky} {k x : Ky} (h : SK l) : x ∈ putK l k ↔ x = k.cl \/ x ∈ l := by
 obtain ⟨A, B, rfl, h1, h2⟩ := sk_split h k
 rw [put_split h1 h2, List.mem_append, List.mem_cons, List.mem_filter, List.mem_append, decide_eq_true_eq]
 constructor
 . rintro (q | q | q)
   . exact .inr (.inl q)
   . exact .inl q
   . exact .inr (.inr q.1)
 . rintro (q | q | q)
   . exact .inr (.inl q)
   . exact .inl q
   . by_cases e : x = k.cl
     . exact .inr (.inl e)
     . exact .inr (.inr ⟨q, e⟩)
theorem put_sk {l : List Ky} (h : SK l) (k : Ky) : SK (putK l k) := by
 refine ⟨?_, fun x hx => ?_⟩
 . obtain ⟨A, B, rfl, h1, h2⟩ := sk_split h k
   rw [put_split h1 h2]
   have hp := List.pairwise_append.1 h.1
   have hcA : ∀ a, a ∈ A -> Ky.lt a k.cl = true := fun a ha => by rw [Ky.lt_cl2]; exact h1 a ha
   rcases sk_behind h h2 with ⟨B', rfl, hn⟩ | hn
   . have e : ((k.cl :: B').filter fun x => decide (x ≠ k.cl)) = B' := by
      rw [List.filter_cons_of_neg (by simp), filt_ne hn]
     rw [e]; exact h.1
   . rw [filt_ne (ne_behind (fun b hb => h.2 b (List.mem_append_right _ hb)) hn)]
     refine List.pairwise_append.2 ⟨hp.1, List.pairwise_cons.2 ⟨fun b hb => by rw [Ky.lt_cl1]; exact hn b hb, hp.2.1⟩, fun a ha b hb => ?_⟩
     rcases List.mem_cons.1 hb with rfl | hb
     . exact hcA a ha
     . exact hp.2.2 a ha b hb
 . rcases (mem_put h).1 hx with rfl | hx
   . exact Ky.cl_cl k
   . exact h.2 x hx
def keysOf (l : List Sd) : List Ky := l.foldl (fun ks x => putK ks x.k) []
theorem foldl_snoc' {α β : Type} (f : β -> α -> β) (b : β) (l : List α) (x : α) : (l ++ [x]).foldl f b = f (l.foldl f b) x := by rw [List.foldl_append]; rfl
theorem keys_snoc (l : List Sd) (x : Sd) : keysOf (l ++ [x]) = putK (keysOf l) x.k := foldl_snoc' _ _ _ _
theorem keys_sk (l : List Sd) : SK (keysOf l) := by
 refine snocRec (p := fun l => SK (keysOf l)) ⟨List.Pairwise.nil, fun k h => (by cases h)⟩ (fun l x ih => ?_) l
 rw [keys_snoc]; exact put_sk ih _
theorem mem_keys (l : List Sd) (k : Ky) : k ∈ keysOf l ↔ ∃ x, x ∈ l /\ x.k.cl = k := by
 refine snocRec (p := fun l => k ∈ keysOf l ↔ ∃ x, x ∈ l /\ x.k.cl = k) ?_ (fun l x ih => ?_) l
 . exact ⟨fun h => (by cases h), fun ⟨x, h, _⟩ => (by cases h)⟩
 . rw [keys_snoc, mem_put (keys_sk l), ih]
   constructor
   . rintro (rfl | ⟨y, hy, e⟩)
     . exact ⟨x, by simp, rfl⟩
     . exact ⟨y, by simp [hy], e⟩
   . rintro ⟨y, hy, e⟩
     rcases List.mem_append.1 hy with hy | hy
     . exact .inr ⟨y, hy, e⟩
     . obtain rfl := List.mem_singleton.1 hy
       exact .inl e.symm
theorem put_len (l : List Ky) (k : Ky) : (putK l k).length <= l.length + 1 := by
 unfold putK
 rw [List.length_append, List.length_cons]
 have h1 := List.length_filter_le (fun x => decide (x ≠ k.cl)) (l.dropWhile fun x => Ky.lt x k)
 have h2 : (l.takeWhile fun x => Ky.lt x k).length + (l.dropWhile fun x => Ky.lt x k).length = l.length := by
  rw [<- List.length_append, List.takeWhile_append_dropWhile]
 omega
theorem keys_len (l : List Sd) : (keysOf l).length <= l.length := by
 refine snocRec (p := fun l => (keysOf l).length <= l.length) (Nat.le_refl _) (fun l x ih => ?_) l
 rw [keys_snoc, List.length_append]
 have := put_len (keysOf l) x.k
 show _ <= l.length + 1
 omega
def foldJ (l : List Sd) (k : Ky) : Sv := l.foldl (fun s x => if x.k.cl = k then Sv.join s x.s else s) Sv.zero
theorem foldJ_snoc (l : List Sd) (x : Sd) (k : Ky) : foldJ (l ++ [x]) k = if x.k.cl = k then Sv.join (foldJ l k) x.s else foldJ l k := foldl_snoc' _ _ _ _
theorem foldJ_none {l : List Sd} {k : Ky} (h : ¬ k ∈ keysOf l) : foldJ l k = Sv.zero := by
 refine snocRec (p := fun l => ¬ k ∈ keysOf l -> foldJ l k = Sv.zero) (fun _ => rfl) (fun l x ih h => ?_) l h
 rw [keys_snoc, mem_put (keys_sk l)] at h
 rw [foldJ_snoc, if_neg fun e => h (.inl e.symm)]
 exact ih fun q => h (.inr q)
def sumsK (l : List Sd) : List Sd := (keysOf l).map fun k => ⟨k, foldJ l k⟩
def atD (l : List Sd) (i : Nat) : Sd := l.getD i ⟨default, Sv.zero⟩
def lowK (l : List Sd) (k : Ky) : Nat := l.countP fun x => Ky.lt x.k k
def foundK (l : List Sd) (k : Ky) : Bool := decide (lowK l k < l.length) && decide ((atD l (lowK l k)).k.cl = k.cl)
def sumIns (l : List Sd) (x : Sd) : List Sd :=
 if foundK l x.k = true then l.set (lowK l x.k) ⟨(atD l (lowK l x.k)).k, Sv.join (atD l (lowK l x.k)).s x.s⟩
 else l.take (lowK l x.k) ++ ⟨x.k.cl, Sv.join Sv.zero x.s⟩ :: l.drop (lowK l x.k)
theorem lowS_split {A B : List Sd} {k : Ky} (h1 : ∀ a, a ∈ A -> Ky.lt a.k k = true) (h2 : ∀ b, b ∈ B -> Ky.lt b.k k = false) : lowK (A ++ B) k = A.length := by
 unfold lowK
 rw [List.countP_append, List.countP_eq_length.2 h1, List.countP_eq_zero.2 fun b hb => by rw [h2 b hb]; exact Bool.false_ne_true]
 rfl
theorem atD_app (A B : List Sd) (b : Sd) : atD (A ++ b :: B) A.length = b := by
 unfold atD; rw [List.getD_eq_getElem?_getD, List.getElem?_append_right (Nat.le_refl _), Nat.sub_self]; rfl
theorem ins_found {A B : List Sd} {b x : Sd} (h1 : ∀ a, a ∈ A -> Ky.lt a.k x.k = true) (h2 : ∀ c, c ∈ b :: B -> Ky.lt c.k x.k = false) (e : b.k.cl = x.k.cl) : sumIns (A ++ b :: B) x = A ++ ⟨b.k, Sv.join b.s x.s⟩ :: B := by
 have hl := lowS_split h1 h2
 unfold sumIns foundK
 rw [hl, atD_app, decide_eq_true (by simp), decide_eq_true e, if_pos (show (true && true) = true from rfl), List.set_append_right _ _ (Nat.le_refl _), Nat.sub_self]; rfl
theorem ins_new {A B : List Sd} {x : Sd} (h1 : ∀ a, a ∈ A -> Ky.lt a.k x.k = true) (h2 : ∀ c, c ∈ B -> Ky.lt x.k c.k = true) : sumIns (A ++ B) x = A ++ ⟨x.k.cl, Sv.join Sv.zero x.s⟩ :: B := by
 have hl := lowS_split h1 fun c hc => Ky.lt_asymm (h2 c hc)
 have hf : foundK (A ++ B) x.k = false := by
  unfold foundK
  rw [hl]
  cases B with
  | nil => rw [decide_eq_false (by simp), Bool.false_and]
  | cons b B => rw [atD_app, decide_eq_false (p := b.k.cl = x.k.cl) fun e => Ky.lt_ne (h2 b List.mem_cons_self) e.symm, Bool.and_false]
 unfold sumIns
 rw [hf, if_neg Bool.false_ne_true, hl, List.take_left', List.drop_left'] <;> rfl
theorem sums_snoc (l : List Sd) (x : Sd) : sumsK (l ++ [x]) = sumIns (sumsK l) x := by
 have hk := keys_sk l
 unfold sumsK
 rw [keys_snoc]
 have hnone : ∀ k, ¬ k ∈ keysOf l -> foldJ l k = Sv.zero := fun k => foldJ_none
 generalize keysOf l = ks at *
 obtain ⟨A, B, rfl, h1, h2⟩ := sk_split hk x.k
 rw [put_split h1 h2, List.map_append, List.map_cons, List.map_append]
 have hA : ∀ a, a ∈ A -> a ≠ x.k.cl := fun a ha e => by
  have := Ky.lt_ne (h1 a ha)
  rw [hk.2 a (List.mem_append_left _ ha), e] at this; exact this rfl
 have mA : A.map (fun k => (⟨k, foldJ (l ++ [x]) k⟩ : Sd)) = A.map fun k => ⟨k, foldJ l k⟩ :=
  List.map_congr_left fun a ha => by rw [foldJ_snoc, if_neg (Ne.symm (hA a ha))]
 have mB : ∀ {B : List Ky}, (∀ b, b ∈ B -> b ≠ x.k.cl) -> B.map (fun k => (⟨k, foldJ (l ++ [x]) k⟩ : Sd)) = B.map fun k => ⟨k, foldJ l k⟩ := fun h =>
  List.map_congr_left fun b hb => by rw [foldJ_snoc, if_neg (Ne.symm (h b hb))]
 have l1 : ∀ a, a ∈ A.map (fun k => (⟨k, foldJ l k⟩ : Sd)) -> Ky.lt a.k x.k = true := fun a ha => by
  obtain ⟨k, hk, rfl⟩ := List.mem_map.1 ha
  exact h1 k hk
 rcases sk_behind hk h2 with ⟨B', rfl, hn⟩ | hn
 . have e : ((x.k.cl :: B').filter fun y => decide (y ≠ x.k.cl)) = B' := by
    rw [List.filter_cons_of_neg (by simp), filt_ne hn]
   rw [e, mA, mB hn, List.map_cons, ins_found l1 ?_ (Ky.cl_cl _)]
   . rw [foldJ_snoc, if_pos rfl]
   . intro c hc
     rcases List.mem_cons.1 hc with rfl | hc
     . exact h2 _ List.mem_cons_self
     . obtain ⟨k, hk, rfl⟩ := List.mem_map.1 hc
       exact h2 k (List.mem_cons_of_mem _ hk)
 . have hne := ne_behind (fun b hb => hk.2 b (List.mem_append_right _ hb)) hn
   have hno : ¬ x.k.cl ∈ A ++ B := fun q => by
    rcases List.mem_append.1 q with q | q
    . exact hA _ q rfl
    . exact hne _ q rfl
   rw [filt_ne hne, mA, mB hne, ins_new l1 ?_]
   . rw [foldJ_snoc, if_pos rfl, hnone _ hno]
   . intro c hc
     obtain ⟨k, hk, rfl⟩ := List.mem_map.1 hc
     exact hn k hk
def sumM (l : List Sd) : List Sd := (sumsK l).filter fun x => !Sv.none x.s
theorem sums_keys (l : List Sd) : (sumsK l).map (·.k) = keysOf l := by
 unfold sumsK; rw [List.map_map]; exact List.map_id _
abbrev sdC (x : Sd) : List DV := [st x.k.name, it x.k.node, bo x.s.e.live, lstB x.s.e.binds, bo x.s.v.i.s.some, it x.s.v.i.s.lo, it x.s.v.i.s.hi, bo x.s.v.i.c.some, it x.s.v.i.c.m, it x.s.v.i.c.r, bo x.s.v.t.null, lst x.s.v.t.names]
abbrev Ky.ar (k : Ky) : Ar := .agg [.d (st k.name), .d (it k.node)]
instance : Inhabited Sd := ⟨⟨default, Sv.zero⟩⟩
abbrev rwD (l : List Sd) : Nat -> List DV := fun i => sdC (atD l i)
abbrev lstD (l : List Sd) : DV := .lst 12 l.length (rwD l)
def gSx (l : List DV) (j : Nat) : ByteArray := match l[j]? with
 | some (.v (.string s)) => s
 | _ => ByteArray.empty
def gBb (l : List DV) (j : Nat) : List Bd := match l[j]? with
 | some (.lst _ n f) => gBs n f
 | _ => []
def gNn (l : List DV) (j : Nat) : List ByteArray := match l[j]? with
 | some (.lst _ n f) => gN n f
 | _ => []
def gSd (l : List DV) : Sd := ⟨⟨gSx l 0, gI9 l 1⟩, ⟨⟨gB9 l 2, gBb l 3⟩, ⟨⟨⟨gB9 l 4, gI9 l 5, gI9 l 6⟩, ⟨gB9 l 7, gI9 l 8, gI9 l 9⟩⟩, ⟨gB9 l 10, gNn l 11⟩⟩⟩⟩
theorem gSd_sdC (x : Sd) : gSd (sdC x) = x := by
 obtain ⟨⟨n, j⟩, ⟨⟨e, b⟩, ⟨⟨⟨a1, a2, a3⟩, ⟨c1, c2, c3⟩⟩, ⟨z, l⟩⟩⟩⟩ := x
 show Sd.mk ⟨n, j⟩ ⟨⟨e, gBs b.length (rwB b)⟩, ⟨⟨⟨a1, a2, a3⟩, ⟨c1, c2, c3⟩⟩, ⟨z, gN l.length (fun i => [st (atS l i)])⟩⟩⟩ = _
 rw [gN_lst, gBs_row]
def gD (n : Nat) (f : Nat -> List DV) : List Sd := (List.range n).map fun i => gSd (f i)
theorem gD_length (n : Nat) (f : Nat -> List DV) : (gD n f).length = n := by simp [gD]
theorem atD_gD {n i : Nat} {f : Nat -> List DV} (h : i < n) : atD (gD n f) i = gSd (f i) := by
 simp [atD, gD, List.getD_eq_getElem?_getD, h]
theorem gD_row (l : List Sd) : gD l.length (rwD l) = l := by
 unfold gD
 apply List.ext_getElem
 . simp
 . intro i h1 h2; simp [gSd_sdC, atD, List.getD_eq_getElem?_getD, h2]
structure Sd.ok (x : Sd) : Prop where
 n : rI x.k.node
 l : okL x.s.e.binds
 v : okV x.s.v
 s : x.s.e.binds.length <= 1099511627776
structure rowOkD (l : List DV) : Prop where
 e : rowE l (sdC (gSd l))
 o : (gSd l).ok
theorem rowOkD_sdC {x : Sd} (h : x.ok) : rowOkD (sdC x) := ⟨by rw [gSd_sdC]; exact ⟨rfl, fun j a b ha hb => by rw [ha] at hb; cases hb; exact .refl _⟩, by rw [gSd_sdC]; exact h⟩
structure RowsD (n : Nat) (f : Nat -> List DV) : Prop where
 h : ∀ i, i < n -> rowOkD (f i)
theorem canonD {n : Nat} {f : Nat -> List DV} (h : ∀ i, i < n -> rowOkD (f i)) : DvE (.lst 12 n f) (.lst 12 n (rwD (gD n f))) :=
 .rows fun i hi => by show rowE (f i) (sdC (atD (gD n f) i)); rw [atD_gD hi]; exact (h i hi).e
theorem canonDo {n : Nat} {f : Nat -> List DV} (h : ∀ i, i < n -> rowOkD (f i)) : icE (.ow 12 n f) (.ow 12 n (rwD (gD n f))) :=
 ⟨rfl, rfl, fun i hi => by show rowE (f i) (sdC (atD (gD n f) i)); rw [atD_gD hi]; exact (h i hi).e⟩
def okD (l : List Sd) : Prop := ∀ x, x ∈ l -> x.ok
theorem mem_atD {l : List Sd} {x : Sd} (h : x ∈ l) : ∃ i, i < l.length /\ atD l i = x := by
 obtain ⟨i, hi, e⟩ := List.mem_iff_getElem.1 h
 exact ⟨i, hi, by unfold atD; rw [List.getD_eq_getElem?_getD, List.getElem?_eq_getElem hi]; exact e⟩
theorem atD_mem {l : List Sd} {i : Nat} (h : i < l.length) : atD l i ∈ l := by
 unfold atD; rw [List.getD_eq_getElem?_getD, List.getElem?_eq_getElem h]; exact List.getElem_mem h
theorem okD_rows {n : Nat} {f : Nat -> List DV} (h : RowsD n f) : okD (gD n f) := by
 intro x hx
 obtain ⟨i, hi, rfl⟩ := mem_atD hx
 rw [gD_length] at hi
 rw [atD_gD hi]; exact (h.h i hi).o
theorem okD_row {l : List Sd} (h : okD l) : RowsD l.length (rwD l) := ⟨fun i hi => rowOkD_sdC (h _ (atD_mem hi))⟩
theorem Sd.ok.cond {x : Sd} (h : x.ok) : Sv.cond x.s := ⟨⟨h.s, okL_row h.l⟩, ⟨⟨h.v.1.1, fun _ _ => rfl⟩, h.v.2⟩⟩
theorem take_snoc {L : List Sd} {i : Nat} (h : i < L.length) : L.take (i + 1) = L.take i ++ [atD L i] := by
 rw [List.take_succ_eq_append_getElem h]
 congr 2
 unfold atD; rw [List.getD_eq_getElem?_getD, List.getElem?_eq_getElem h]; rfl
def icmp (x y : Int) : Int := if x < y then -1 else if x > y then 1 else 0
def Ky.cmp (a b : Ky) : Int := if cfL a.name.data.toList b.name.data.toList = 0 then icmp a.cl.node b.cl.node else cfL a.name.data.toList b.name.data.toList
theorem icmp_lt {x y : Int} : icmp x y < 0 ↔ x < y := by unfold icmp; split; omega; split <;> omega
theorem icmp_eq {x y : Int} : icmp x y = 0 ↔ x = y := by unfold icmp; split; omega; split <;> omega
theorem Ky.cmp_lt (a b : Ky) : Ky.cmp a b < 0 ↔ Ky.lt a b = true := by
 rw [Ky.lt_iff]
 unfold Ky.cmp
 split
 . rename_i h
   have e := kS_inj (a := a.name) (b := b.name) ((cfL_eq _ _).1 h)
   rw [icmp_lt]
   constructor
   . exact fun q => .inl ⟨e, q⟩
   . rintro (q | q)
     . exact q.2
     . rw [e] at q; exact absurd q (List.lt_irrefl _)
 . rename_i h
   rw [cfL_lt]
   constructor
   . exact .inr
   . rintro (q | q)
     . rw [q.1] at h; exact absurd ((cfL_eq _ _).2 rfl) h
     . exact q
theorem Ky.cmp_eq (a b : Ky) : Ky.cmp a b = 0 ↔ a.cl = b.cl := by
 rw [Ky.ext_iff']
 unfold Ky.cmp
 split
 . rename_i h
   have e := kS_inj (a := a.name) (b := b.name) ((cfL_eq _ _).1 h)
   rw [icmp_eq]
   exact ⟨fun q => ⟨e, q⟩, fun q => q.2⟩
 . rename_i h
   exact ⟨fun q => absurd q h, fun q => absurd ((cfL_eq _ _).2 (congrArg kS q.1)) h⟩
theorem Ky.cl_r {k : Ky} (h : rI k.node) : rI k.cl.node := by unfold rI at *; unfold Ky.cl; simp only; split <;> omega
def FIsNaN : List Ar -> Option Rs
 | [.c (.d (.v (.int .i64 i0)))] => some ⟨(-9223372036854775808 <= i0 /\ i0 < 9223372036854775808), .va (.c (.d (bo (false)))), []⟩
 | _ => none
theorem fcIsNaN : FC Tryz.prog 173 FIsNaN := by
 intro xs pre r us h hp
 unfold FIsNaN at h
 split at h
 . rename_i i0
   cases h
   have hp0 := hp
   refine fcat tys_ok (l := []) trivial Tryz.func173 rfl (by kernel_rfl) false ?_
   repeat' (first | exact trivial | refine ⟨?_, ?_⟩ | intro _)
   all_goals first | (with_reducible first | apply qa | apply qb | apply qc | apply qd) | (conv => whnf)
   all_goals first | (refine congrArg Value.bool ?_; simp; done)
 . cases h
def FKyClean : List Ar -> Option Rs
 | [.agg [.d (.v (.string x0)), .d (.v (.int .i64 i0))]] => some ⟨(rI i0), .va (Ky.ar (Ky.cl (⟨x0, i0⟩ : Ky))), []⟩
 | _ => none
theorem fcKyClean : FC Tryz.prog 79 FKyClean := by
 intro xs pre r us h hp
 unfold FKyClean at h
 split at h
 . rename_i x0 i0
   cases h
   have hp0 := hp
   refine fcat tys_ok (l := []) trivial Tryz.func79 rfl (by kernel_rfl) true ?_
   repeat' (first | exact trivial | refine ⟨?_, ?_⟩ | intro _)
   all_goals first | (with_reducible first | apply qa | apply qb | apply qc | apply qd) | (conv => whnf)
   all_goals first | rfl | (refine congrArg (Value.int .i64) ?_; unfold Ky.cl; dsimp only; split <;> split <;> omega)
 . cases h
def FRKyLess : List Ar -> Option Rs
 | [.agg [.d (.v (.string x0)), .d (.v (.int .i64 i0))], .agg [.d (.v (.string x1)), .d (.v (.int .i64 i1))]] => some ⟨(rI i0) /\ (rI i1) /\ (Ky.cl (⟨x0, i0⟩ : Ky) = (⟨x0, i0⟩ : Ky) /\ Ky.cl (⟨x1, i1⟩ : Ky) = (⟨x1, i1⟩ : Ky)), .va (.c (.d (bo (Ky.lt (⟨x0, i0⟩ : Ky) (⟨x1, i1⟩ : Ky))))), []⟩
 | _ => none
def FCmpInt : List Ar -> Option Rs
 | [.c (.d (.v (.int .i64 i0))), .c (.d (.v (.int .i64 i1)))] => some ⟨(-9223372036854775808 <= i0 /\ i0 < 9223372036854775808) /\ (-9223372036854775808 <= i1 /\ i1 < 9223372036854775808), .va (.c (.d (it (icmp i0 i1)))), []⟩
 | _ => none
theorem fcCmpInt : FC Tryz.prog 137 FCmpInt := by
 intro xs pre r us h hp
 unfold FCmpInt at h
 split at h
 . rename_i i0 i1
   cases h
   obtain ⟨hp0, hp1⟩ := hp
   refine fcat tys_ok (l := [(173, ⟨[], FIsNaN⟩)]) ⟨fcIsNaN, trivial⟩ Tryz.func137 rfl (by kernel_rfl) true ?_
   repeat' (first | exact trivial | (with_reducible first | exact hp0.1 | exact hp0.2 | exact hp1.1 | exact hp1.2 | exact (fun h => absurd (h : false = true) (by decide))) | refine ⟨?_, ?_⟩ | intro _)
   all_goals first | (with_reducible first | apply qa | apply qb | apply qc | apply qd) | (conv => whnf)
   all_goals first | (refine congrArg (Value.int .i64) ?_; unfold icmp; simp only [decide_eq_true_eq, decide_eq_false_iff_not] at *; first | (rw [if_pos ‹_›]; done) | (rw [if_neg ‹_›, if_pos ‹_›]; done) | (rw [if_neg ‹_›, if_neg ‹_›]; done) | (split <;> first | rfl | omega | (split <;> first | rfl | omega)))
 . cases h
theorem canon2 {f : Nat -> List DV} (h0 : f 0 = [it (gI (f 0))]) (h1 : f 1 = [it (gI (f 1))]) : DvE (.lst 1 2 f) (.lst 1 2 fun i => [it (gI (f i))]) :=
 .rows fun i hi => by
  have : i = 0 \/ i = 1 := by omega
  rcases this with rfl | rfl
  . rw [<- h0]; exact ⟨rfl, fun j a b ha hb => by rw [ha] at hb; cases hb; exact .refl _⟩
  . rw [<- h1]; exact ⟨rfl, fun j a b ha hb => by rw [ha] at hb; cases hb; exact .refl _⟩
def FCmpOr : List Ar -> Option Rs
 | [.c (.d (.lst 1 2 f0))] => some ⟨(f0 0 = [it (gI (f0 0))] /\ f0 1 = [it (gI (f0 1))]), .va (.c (.d (it (if gI (f0 0) = 0 then gI (f0 1) else gI (f0 0))))), []⟩
 | _ => none
theorem fcCmpOr : FC Tryz.prog 136 FCmpOr := by
 intro xs pre r us h hp
 unfold FCmpOr at h
 split at h
 . rename_i f0
   cases h
   have hp0 := hp
   refine FCat.deep (ys := [.c (.d (.lst 1 2 fun i => [it (gI (f0 i))]))]) ?_ ?_
   . repeat' (first | exact trivial | exact rfl | exact DvE.refl _ | refine ⟨?_, ?_⟩ | fail)
     all_goals first | exact canon2 hp0.1 hp0.2
   refine fcat tys_ok (l := []) trivial Tryz.func136 rfl (by kernel_rfl) true ?_
   repeat' (first | exact trivial | refine ⟨?_, ?_⟩ | intro _)
   all_goals first | (with_reducible first | apply qa | apply qb | apply qc | apply qd) | (conv => whnf)
   refine loop_unr tys_ok (l := []) trivial (by kernel_rfl) 3 ?_
   repeat' (first | exact trivial | refine ⟨?_, ?_⟩ | intro _)
   all_goals first | (with_reducible first | apply qa | apply qb | apply qc | apply qd) | (conv => whnf)
   all_goals (have w1 : IntKind.wrap .i64 (0 + 1) = 1 := wrap64 (by omega) (by omega))
   all_goals (have w2 : IntKind.wrap .i64 (IntKind.wrap .i64 (0 + 1) + 1) = 2 := by rw [w1]; exact wrap64 (by omega) (by omega))
   all_goals (simp only [w2, w1, Int.toNat_zero, Int.toNat_one] at *)
   all_goals first | omega | (exact absurd (of_decide_eq_true ‹decide ((2 : Int) < _) = true›) (by omega)) | (exact absurd (of_decide_eq_false ‹decide ((0 : Int) < _) = false›) (by omega)) | (exact absurd (of_decide_eq_false ‹decide ((1 : Int) < _) = false›) (by omega)) | skip
   all_goals (refine congrArg (Value.int .i64) ?_)
   all_goals first | (rw [if_neg (by simpa using ‹(gI (f0 0) != 0) = true›)]; done) | (rw [if_neg (by simpa using ‹(gI (f0 0) != 0) = true›)]; rfl) | (rw [if_pos (by simpa using ‹(gI (f0 0) != 0) = false›)]; done) | (rw [if_pos (by simpa using ‹(gI (f0 0) != 0) = false›)]; simpa using ‹(gI (f0 1) != 0) = false›) | (rw [if_pos (by simpa using ‹(gI (f0 0) != 0) = false›)]; exact (by simpa using ‹(gI (f0 1) != 0) = false› : gI (f0 1) = 0).symm)
 . cases h
def FKyCmp : List Ar -> Option Rs
 | [.agg [.d (.v (.string x0)), .d (.v (.int .i64 i0))], .agg [.d (.v (.string x1)), .d (.v (.int .i64 i1))]] => some ⟨(rI i0) /\ (rI i1), .va (.c (.d (it (Ky.cmp (⟨x0, i0⟩ : Ky) (⟨x1, i1⟩ : Ky))))), []⟩
 | _ => none
theorem fcKyCmp : FC Tryz.prog 88 FKyCmp := by
 intro xs pre r us h hp
 unfold FKyCmp at h
 split at h
 . rename_i x0 i0 x1 i1
   cases h
   obtain ⟨hp0, hp1⟩ := hp
   refine fcat tys_ok (l := [(79, ⟨[], FKyClean⟩), (70, ⟨[], FStrCmp⟩), (137, ⟨[], FCmpInt⟩), (136, ⟨[], FCmpOr⟩)]) ⟨fcKyClean, fcStrCmp, fcCmpInt, fcCmpOr, trivial⟩ Tryz.func88 rfl (by kernel_rfl) true ?_
   have hc0 := Ky.cl_r (k := ⟨x0, i0⟩) hp0
   have hc1 := Ky.cl_r (k := ⟨x1, i1⟩) hp1
   unfold rI at hc0 hc1
   repeat' (first | exact trivial | (with_reducible first | exact hp0 | exact hp1 | exact hc0 | exact hc1 | exact hc0.1 | exact hc0.2 | exact hc1.1 | exact hc1.2) | refine ⟨?_, ?_⟩ | intro _)
   all_goals first | (with_reducible first | apply qa | apply qb | apply qc | apply qd) | (conv => whnf)
   all_goals first | omega | rfl | (refine congrArg (Value.int .i64) ?_; exact rfl)
 . cases h
def FPlaceC : List Ar -> Option Rs
 | [.agg [.d (.v (.string x0)), .d (.v (.int .i64 i0)), .d (.v (.bool _)), .d (.lst 9 _ _), .d (.v (.bool _)), .d (.v (.int .i64 _)), .d (.v (.int .i64 _)), .d (.v (.bool _)), .d (.v (.int .i64 _)), .d (.v (.int .i64 _)), .d (.v (.bool _)), .d (.lst 1 _ _)], .agg [.d (.v (.string x1)), .d (.v (.int .i64 i1))]] => some ⟨(rI i0) /\ (rI i1), .va (.c (.d (it (Ky.cmp ⟨x0, i0⟩ (⟨x1, i1⟩ : Ky))))), []⟩
 | _ => none
theorem fcPlaceC : FC Tryz.prog 127 FPlaceC := by
 intro xs pre r us h hp
 unfold FPlaceC at h
 split at h
 . rename_i x0 i0 e0 n0 f0 s0 l0 h0 b0 m0 r0 z0 p0 g0 x1 i1
   cases h
   obtain ⟨hp0, hp1⟩ := hp
   refine fcat tys_ok (l := [(88, ⟨[], FKyCmp⟩)]) ⟨fcKyCmp, trivial⟩ Tryz.func127 rfl (by kernel_rfl) false ?_
   repeat' (first | exact trivial | (with_reducible first | exact hp0 | exact hp1) | refine ⟨?_, ?_⟩ | intro _)
   all_goals first | (with_reducible first | apply qa | apply qb | apply qc | apply qd) | (conv => whnf)
   all_goals first | rfl
 . cases h
abbrev gPlace : List Cv -> Option Gs := mkFv (sums [(127, ⟨[], FPlaceC⟩)]) 127 []
theorem cmp_lt (a b : Ky) : decide (Ky.cmp a b < 0) = Ky.lt a b := by
 cases h : Ky.lt a b with
 | true => exact decide_eq_true ((Ky.cmp_lt a b).2 h)
 | false => exact decide_eq_false fun q => by rw [(Ky.cmp_lt a b).1 q] at h; cases h
theorem cmp_eq (a b : Ky) : (Ky.cmp a b == 0) = decide (a.cl = b.cl) := by
 by_cases h : a.cl = b.cl
 . rw [decide_eq_true h, (Ky.cmp_eq a b).2 h]; rfl
 . rw [decide_eq_false h]; exact beq_eq_false_iff_ne.2 fun q => h ((Ky.cmp_eq a b).1 q)
theorem low_ofK {L : List Sd} {k : Ky} {i : Nat} (hi : i <= L.length) (h1 : ∀ q, q < i -> Ky.lt (atD L q).k k = true) (h2 : ∀ q, i <= q -> q < L.length -> Ky.lt (atD L q).k k = false) : lowK L k = i := by
 have := lowS_split (A := L.take i) (B := L.drop i) (k := k) (fun a ha => by
  obtain ⟨q, hq, rfl⟩ := mem_atD ha
  rw [List.length_take] at hq
  have e : atD (L.take i) q = atD L q := by unfold atD; rw [List.getD_eq_getElem?_getD, List.getElem?_take_of_lt (by omega), List.getD_eq_getElem?_getD]
  rw [e]; exact h1 q (by omega)) (fun b hb => by
  obtain ⟨q, hq, rfl⟩ := mem_atD hb
  rw [List.length_drop] at hq
  have e : atD (L.drop i) q = atD L (i + q) := by unfold atD; rw [List.getD_eq_getElem?_getD, List.getElem?_drop, List.getD_eq_getElem?_getD]
  rw [e]; exact h2 (i + q) (by omega) (by omega))
 rw [List.take_append_drop, List.length_take] at this
 omega
theorem sk_at {L : List Sd} (h : SK (L.map (·.k))) {i j : Nat} (hij : i < j) (hj : j < L.length) : Ky.lt (atD L i).k (atD L j).k = true := by
 have := List.pairwise_iff_getElem.1 h.1 i j (by rw [List.length_map]; omega) (by rw [List.length_map]; omega) hij
 rw [List.getElem_map, List.getElem_map] at this
 unfold atD
 rw [List.getD_eq_getElem?_getD, List.getElem?_eq_getElem (by omega), List.getD_eq_getElem?_getD, List.getElem?_eq_getElem hj]
 exact this
def FBSearchD : List Ar -> Option Rs
 | [.c (.ow 12 n0 f0), .agg [.d (.v (.string x1)), .d (.v (.int .i64 i1))], .fv g2] => some ⟨(n0 <= 1000000000 /\ RowsD n0 f0) /\ (rI i1) /\ (SK (((gD n0 f0)).map (·.k)) /\ g2 = gPlace), .tup [.c (.d (it (lowK (gD n0 f0) (⟨x1, i1⟩ : Ky) : Nat))), .c (.d (bo (foundK (gD n0 f0) (⟨x1, i1⟩ : Ky))))], [some (rwD (gD n0 f0))]⟩
 | _ => none
theorem fcBSearchD : FC Tryz.prog 126 FBSearchD := by
 intro xs pre r us h hp
 unfold FBSearchD at h
 split at h
 . rename_i n0 f0 x1 i1 g2
   cases h
   obtain ⟨hp0, hp1, hp2⟩ := hp
   refine FCat.deep (ys := [.c (.ow 12 n0 (rwD (gD n0 f0))), .agg [.d (.v (.string x1)), .d (.v (.int .i64 i1))], .fv g2]) ?_ ?_
   . repeat' (first | exact trivial | exact rfl | exact DvE.refl _ | refine ⟨?_, ?_⟩ | fail)
     all_goals first | exact (canonDo hp0.2.h).2.2
   refine fcat tys_ok (l := []) trivial Tryz.func126 rfl (by kernel_rfl) false ?_
   obtain ⟨hs, rfl⟩ := hp2
   have hn := hp0.1
   have hO := okD_rows hp0.2
   have hlen := gD_length n0 f0
   generalize gD n0 f0 = L at *
   clear hp0
   subst hlen
   have hri : ∀ k, k < L.length -> rI (atD L k).k.node := fun k hk => (hO _ (atD_mem hk)).n
   generalize hp : (fun k => Ky.lt (atD L k).k ⟨x1, i1⟩) = p
   have hpd : ∀ k, p k = decide (Ky.cmp (atD L k).k ⟨x1, i1⟩ < 0) := fun k => by rw [<- hp, cmp_lt]
   have hm : ∀ k q, k <= q -> q < L.length -> p q = true -> p k = true := fun k q h1 h2 h3 => by
    rw [<- hp] at h3 ⊢
    rcases Nat.lt_or_ge k q with h | h
    . exact Ky.lt_trans (sk_at hs h h2) h3
    . obtain rfl : k = q := by omega
      exact h3
   have hm2 : ∀ k q, q <= k -> k < L.length -> p q = false -> p k = false := fun k q h1 h2 h3 => by
    cases h : p k with
    | false => rfl
    | true => rw [hm q k h1 h2 h] at h3; cases h3
   have hlow : ∀ i, i <= L.length -> (∀ k, k < i -> p k = true) -> (∀ k, i <= k -> k < L.length -> p k = false) -> lowK L ⟨x1, i1⟩ = i := fun i h1 h2 h3 => by
    rw [<- hp] at h2 h3; exact low_ofK h1 h2 h3
   have hfe : ∀ k, (Ky.cmp (atD L k).k ⟨x1, i1⟩ == 0) = decide ((atD L k).k.cl = (⟨x1, i1⟩ : Ky).cl) := fun k => cmp_eq _ _
   clear hp
   repeat' (first | exact trivial | (with_reducible exact hp1) | refine ⟨?_, ?_⟩ | intro _)
   all_goals first | (with_reducible first | apply qa | apply qb | apply qc | apply qd) | (conv => whnf)
   refine loop_ok tys_ok (l := []) trivial (by kernel_rfl) (X := Nat × Nat)
    (fun x => ⟨[(9, vx (.int .i64 x.1)), (10, vx (.int .i64 x.2)), (0, .va (.c (.osl 0 12 0 L.length))), (4, .va (.c (.own 1 0))), (2, .va (.c (.fv gPlace))), (8, vx (.int .i64 L.length))], [(0, .row 12 L.length (rwD L)), (1, .cells [.d (st x1), .d (it i1)])], 2, 49⟩)
    (fun x => x.2 - x.1) (fun x => x.1 <= x.2 /\ x.2 <= L.length /\ (∀ k, k < x.1 -> p k = true) /\ (∀ k, x.2 <= k -> k < L.length -> p k = false)) [] []
    (fun x _ _ => if p ((x.1 + x.2) / 2) = true then ((x.1 + x.2) / 2 + 1, x.2) else (x.1, (x.1 + x.2) / 2)) [0, 1] [0, 1] 0 0 (0, L.length) ?_ ?_ ?_
   . exact ⟨Nat.zero_le _, Nat.le_refl _, fun k h => absurd h (Nat.not_lt_zero k), fun k h1 h2 => absurd h1 (Nat.not_le_of_lt h2)⟩
   . repeat' (first | exact trivial | exact rfl | (intro _ _; exact rfl) | refine ⟨?_, ?_⟩ | fail)
   . rintro ⟨i, j⟩ ⟨k2, k3, k4, k5⟩
     dsimp only at k2 k3 k4 k5
     rcases Nat.lt_or_ge i j with hij | hij
     . have hne : decide ((i : Int) < (j : Int)) = true := decide_eq_true (by omega)
       have hh : IntKind.wrap .i64 ((IntKind.wrap .u64 (IntKind.wrap .i64 ((i : Int) + (j : Int)))).fdiv (2 ^ min (Int.toNat 1) (IntKind.bits .u64))) = (((i + j) / 2 : Nat) : Int) := hlf (by omega)
       have hq1 : i <= (i + j) / 2 := by omega
       have hq2 : (i + j) / 2 < j := by omega
       generalize hq : (i + j) / 2 = q at *
       have hri' := hri q (by omega)
       cases hc : p q with
       | true =>
         repeat' (first | exact trivial | (with_reducible exact hp1) | refine ⟨?_, ?_⟩ | intro _)
         all_goals first | (with_reducible first | apply qa | apply qb | apply qc | apply qd) | (conv => whnf)
         all_goals first | (exact absurd (hne.symm.trans ‹_ = false›) (by decide)) | skip
         all_goals first | (have hd := ‹decide (Ky.cmp _ _ < 0) = false›; simp only [hh, Int.toNat_natCast, Nat.zero_add] at hd; exact absurd ((hc.symm.trans (hpd q)).trans hd) (by decide)) | skip
         all_goals (try simp only [hh, hq, hc, if_true, Int.toNat_natCast, Nat.zero_add])
         all_goals first | rfl | omega | exact hri'.1 | exact hri'.2 | (dsimp only; omega) | (exact congrArg (Value.int .i64) (by first | (rw [wI_id _ (by omega) (by omega)]; omega) | omega | (dsimp only; omega))) | (rename_i kk h1; simp only [hq, hc, if_true] at h1; exact hm _ q (by omega) (by omega) hc) | (rename_i kk h1 h2; simp only [hq, hc, if_true] at h1 h2; exact k5 _ h1 h2)
       | false =>
         repeat' (first | exact trivial | (with_reducible exact hp1) | refine ⟨?_, ?_⟩ | intro _)
         all_goals first | (with_reducible first | apply qa | apply qb | apply qc | apply qd) | (conv => whnf)
         all_goals first | (exact absurd (hne.symm.trans ‹_ = false›) (by decide)) | skip
         all_goals first | (have hd := ‹decide (Ky.cmp _ _ < 0) = true›; simp only [hh, Int.toNat_natCast, Nat.zero_add] at hd; exact absurd ((hc.symm.trans (hpd q)).trans hd) (by decide)) | skip
         all_goals (try simp only [hh, hq, hc, if_false, Bool.false_eq_true, Int.toNat_natCast, Nat.zero_add])
         all_goals first | rfl | omega | exact hri'.1 | exact hri'.2 | (dsimp only; omega) | (exact congrArg (Value.int .i64) (by first | (rw [wI_id _ (by omega) (by omega)]; omega) | omega | (dsimp only; omega))) | (rename_i kk h1; simp only [hq, hc, if_false, Bool.false_eq_true] at h1; exact k4 _ h1) | (rename_i kk h1 h2; simp only [hq, hc, if_false, Bool.false_eq_true] at h1 h2; exact hm2 _ q (by omega) h2 hc)
     . have hne : decide ((i : Int) < (j : Int)) = false := decide_eq_false (by omega)
       obtain rfl : i = j := by omega
       have hl := hlow i k3 k4 k5
       have hri' := fun h => hri i h
       repeat' (first | exact trivial | (with_reducible exact hp1) | refine ⟨?_, ?_⟩ | intro _)
       all_goals first | (with_reducible first | apply qa | apply qb | apply qc | apply qd) | (conv => whnf)
       all_goals first | (exact absurd (hne.symm.trans ‹_ = true›) (by decide)) | skip
       all_goals (try dsimp only)
       all_goals (try simp only [Int.toNat_natCast, Nat.zero_add])
       all_goals (try unfold foundK)
       all_goals (try rw [hl])
       all_goals first | omega | rfl | (have hd := of_decide_eq_true ‹decide (((i, i).1 : Int) < (L.length : Int)) = true›; exact hd) | (have hd := of_decide_eq_true ‹decide (((i, i).1 : Int) < _) = true›; exact (hri' (by dsimp only at hd; omega)).1) | (have hd := of_decide_eq_true ‹decide (((i, i).1 : Int) < _) = true›; exact (hri' (by dsimp only at hd; omega)).2) | (have hd := of_decide_eq_true ‹decide (((i, i).1 : Int) < _) = true›; rw [show decide (i < L.length) = true from decide_eq_true (by dsimp only at hd; omega), <- hfe i]; rfl) | (have hd := of_decide_eq_false ‹decide (((i, i).1 : Int) < (L.length : Int)) = false›; rw [show decide (i < L.length) = false from decide_eq_false (by dsimp only at hd; omega)]; rfl)
 . cases h
theorem rep_atD {P : Program} {base : Nat} {ψ : Psi} {S : Nat -> Prop} {w : World} {st : St} {a : Act} (hrel : Rel P base ψ S w st a) {k ln : Nat} {f : Nat -> List DV} (hb : lookB st.heap k = .row 12 ln f) {b m : Nat} (h1 : ψ k = some (.at b m)) :
 ∃ arr e, w.heap[b]? = some (.cells arr e (0, 0)) /\ arr.size = m := by
 have := hrel.sim.blk k _ h1
 rw [hb] at this
 obtain ⟨arr, e, h2, h3, _⟩ := this
 exact ⟨arr, e, h2, h3⟩
theorem rep_slD {P : Program} {ψ : Psi} {S : Nat -> Prop} {w : World} {k o len : Nat} {c : Cell} {v : Value} (hc : c = .osl k 12 o len \/ ∃ q, c = .osc k 12 o len q) (hl : 0 < len) (h : RepC P ψ S w c v) :
 ∃ b m q off, ψ k = some (.at b m) /\ v = .slice (some ⟨b, off, none⟩) len q /\ 0 < m := by
 rcases hc with rfl | ⟨q, rfl⟩
 . rcases h with ⟨_, h, _⟩ | ⟨b, m, c, off, h1, h2, h3, h4⟩
   . omega
   . obtain ⟨_, h5⟩ := h4 (by omega)
     exact ⟨b, m, c, off, h1, h2, by omega⟩
 . rcases h with ⟨_, h, _⟩ | ⟨b, m, off, h1, h2, h3, h4⟩
   . omega
   . obtain ⟨_, h5⟩ := h4 (by omega)
     exact ⟨b, m, q, off, h1, h2, by omega⟩
theorem acall_overlapsD {base : Nat} {k1 k2 o1 o2 len1 len2 ln1 ln2 : Nat} {f1 f2 : Nat -> List DV} {c1 c2 : Cell} {ts : List (Nat × Tm)} {h : List (Nat × Blk)} {n m : Nat} {K : Tm -> St -> Prop} (hc1 : c1 = .osl k1 12 o1 len1 \/ ∃ q, c1 = .osc k1 12 o1 len1 q) (hc2 : c2 = .osl k2 12 o2 len2 \/ ∃ q, c2 = .osc k2 12 o2 len2 q) (hne : k1 ≠ k2) (hb1 : lookB h k1 = .row 12 ln1 f1) (hb2 : lookB h k2 = .row 12 ln2 f2)
 (hl1 : 0 < len1) (hl2 : 0 < len2) (hk : K (.va (.c (.d (bo false)))) ⟨ts, h, n, m⟩) : ACall Tryz.prog base 128 [.c c1, .c c2] ⟨ts, h, n, m⟩ K := by
 refine ⟨fun ψ S w a vals hrel hvals => ?_⟩
 match vals, hvals with
 | [v1, v2], ⟨hv1, hv2, _⟩ =>
   obtain ⟨b1, m1, q1, off1, p1, rfl, r1⟩ := rep_slD hc1 hl1 hv1
   obtain ⟨b2, m2, q2, off2, p2, rfl, r2⟩ := rep_slD hc2 hl2 hv2
   obtain ⟨a1, e1, s1, u1⟩ := rep_atD hrel (f := f1) (ln := ln1) hb1 p1
   obtain ⟨a2, e2, s2, u2⟩ := rep_atD hrel (f := f2) (ln := ln2) hb2 p2
   have hbb : b1 ≠ b2 := by
    intro e
    subst e
    exact hne (hrel.sim.inj k1 k2 b1 m1 m2 p1 p2 (by show (lookB h k1).live; rw [hb1]; trivial) (by show (lookB h k2).live; rw [hb2]; trivial))
   have key : (callFunc 128 #[.slice (some ⟨b1, off1, none⟩) len1 q1, .slice (some ⟨b2, off2, none⟩) len2 q2]).run Tryz.prog w = .ok (.value (.bool false)) w := by
    rw [run_callFunc_extern (fn := Tryz.f128) (by kernel_rfl) (by kernel_rfl) (by kernel_rfl) (by kernel_rfl) (e := Extern.SlicesOverlaps.overlaps #[61, 61] #[4]) (by kernel_rfl),
     Lib.run_overlaps_apart w 61 4 70 (by kernel_rfl) 12 (fun w => by kernel_rfl) ⟨b1, off1, none⟩ ⟨b2, off2, none⟩ len1 q1 len2 q2 hbb e1 e2 a1.size a2.size
      (by simp [World.shape?, s1]) (by simp [World.shape?, s2]) (by omega) (by simp [World.frozen?, s1]) (by simp [World.frozen?, s1])]
    rfl
   exact .inr ⟨_, _, key, _, _, _, ψ, S, rfl, hk, hrel, .v trivial, Ext.refl _ _ _ _⟩
def insF (G : Nat -> List DV) (i : Nat) (x : List DV) : Nat -> List DV := fun k => if k < i then G k else if k = i then x else G (k - 1)
def FInsertD : List Ar -> Option Rs
 | [.c (.ow 12 n0 f0), .c (.d (.v (.int .i64 i1))), .c (.ow 12 n2 f2)] => some ⟨(n0 <= 1000000000) /\ (-9223372036854775808 <= i1 /\ i1 < 9223372036854775808) /\ (n2 <= 1000000000) /\ ((0 <= i1 /\ i1 <= n0) /\ n2 = 1), .va (.c (.ow 12 (n0 + 1) (insF f0 (i1).toNat (f2 0)))), [none, some f2]⟩
 | _ => none
theorem fcInsertD : FC Tryz.prog 78 FInsertD := by
 intro xs pre r us h hp
 unfold FInsertD at h
 split at h
 . rename_i n0 f0 i1 n2 f2
   cases h
   obtain ⟨hp0, hp1, hp2, hp3⟩ := hp
   refine fcatc tys_ok (l := []) trivial Tryz.func78 rfl (by kernel_rfl) false ?_
   obtain ⟨⟨ha, hb⟩, rfl⟩ := hp3
   obtain ⟨i, rfl⟩ := Int.eq_ofNat_of_zero_le ha
   have hn := hp0
   clear hp0 hp2
   generalize f0 = G at *
   generalize f2 = X at *
   simp only [Int.toNat_natCast] at *
   repeat' (first | exact trivial | refine ⟨?_, ?_⟩ | intro _)
   all_goals first | (with_reducible first | apply qa | apply qb | apply qc | apply qd) | (conv => whnf)
   all_goals (have hcap := ‹capLe _ _›; simp only [capLe] at hcap)
   all_goals first | omega | (exact absurd (eq_of_beq ‹(((1 : Nat) : Int) == 0) = true›) (by decide)) | skip
   all_goals (have hw1 : IntKind.wrap .i64 ((n0 : Int) + ((1 : Nat) : Int)) = (n0 : Int) + 1 := by rw [wI_id _ (by omega) (by omega)]; rfl)
   all_goals (have hw2 : IntKind.wrap .i64 ((i : Int) + ((1 : Nat) : Int)) = (i : Int) + 1 := by rw [wI_id _ (by omega) (by omega)]; rfl)
   all_goals (have hw3 : IntKind.wrap .i64 (IntKind.wrap .i64 ((n0 : Int) + ((1 : Nat) : Int)) - (i : Int)) = (n0 : Int) + 1 - i := by rw [hw1, wI_id _ (by omega) (by omega)])
   all_goals first | (have hin := eq_of_beq ‹((i : Int) == (n0 : Int)) = true›) | (have hin := ne_of_beq_false ‹((i : Int) == (n0 : Int)) = false›) | skip
   all_goals first | (have hgt := of_decide_eq_true ‹decide (_ > (_ : Int)) = true›) | (have hgt := of_decide_eq_false ‹decide (_ > (_ : Int)) = false›) | skip
   all_goals (simp only [hw3, hw1, hw2] at *)
   all_goals first | omega | skip
   all_goals first | (rename_i k hk; simp only [cpyRow, appRow, insF]; (repeat' split); all_goals first | (exfalso; omega) | exact (congrArg X (by omega)) | exact (congrArg G (by omega))) | skip
   apply acall_overlapsD
   . exact .inl rfl
   . exact .inr ⟨_, rfl⟩
   . decide
   . exact rfl
   . exact rfl
   . decide
   . omega
   have hw4 : IntKind.wrap .i64 ((i : Int) + ((1 : Nat) : Int)) = (i : Int) + 1 := by rw [wI_id _ (by omega) (by omega)]; rfl
   repeat' (first | exact trivial | refine ⟨?_, ?_⟩ | intro _)
   all_goals first | (with_reducible first | apply qa | apply qb | apply qc | apply qd) | (conv => whnf)
   all_goals first | (exact absurd ‹(!false) = false› (by decide)) | skip
   all_goals (try simp only [hw4])
   all_goals first | omega | (rename_i k hk; simp only [cpyRow, appRow, insF]; (repeat' split); all_goals first | (exfalso; omega) | exact (congrArg X (by omega)) | exact (congrArg G (by omega)))
 . cases h
def FNoneC : List Ar -> Option Rs
 | [.agg [.d (.v (.string x0)), .d (.v (.int .i64 i0)), .d (.v (.bool e0)), .d (.lst 9 n0 f0), .d (.v (.bool s0)), .d (.v (.int .i64 l0)), .d (.v (.int .i64 h0)), .d (.v (.bool b0)), .d (.v (.int .i64 m0)), .d (.v (.int .i64 r0)), .d (.v (.bool z0)), .d (.lst 1 p0 g0)]] => some ⟨(rI i0 /\ (n0 <= 1099511627776 /\ RowsOk n0 f0) /\ ((p0 * 16 <= 140737488351232 /\ ∀ i, i < p0 -> g0 i = [st (gT (g0 i))]) /\ Sp.inR ⟨s0, l0, h0⟩ /\ Cg.inR ⟨b0, m0, r0⟩)), .va (.c (.d (bo (Sv.none (Sd.s (⟨⟨x0, i0⟩, ⟨⟨e0, gBs n0 f0⟩, ⟨⟨⟨s0, l0, h0⟩, ⟨b0, m0, r0⟩⟩, ⟨z0, gN p0 g0⟩⟩⟩⟩ : Sd)))))), []⟩
 | _ => none
theorem fcNoneC : FC Tryz.prog 81 FNoneC := by
 intro xs pre r us h hp
 unfold FNoneC at h
 split at h
 . rename_i x0 i0 e0 n0 f0 s0 l0 h0 b0 m0 r0 z0 p0 g0
   cases h
   have hp0 := hp
   refine FCat.deep (ys := [.agg [.d (.v (.string x0)), .d (.v (.int .i64 i0)), .d (.v (.bool e0)), .d (.lst 9 n0 (rwB (gBs n0 f0))), .d (.v (.bool s0)), .d (.v (.int .i64 l0)), .d (.v (.int .i64 h0)), .d (.v (.bool b0)), .d (.v (.int .i64 m0)), .d (.v (.int .i64 r0)), .d (.v (.bool z0)), .d (.lst 1 p0 fun i => [st (gT (g0 i))])]]) ?_ ?_
   . repeat' (first | exact trivial | exact rfl | exact DvE.refl _ | refine ⟨?_, ?_⟩ | fail)
     all_goals first | first | exact canonB hp0.2.1.2.h | (exact .rows fun i hi => by rw [hp0.2.2.1.2 i hi]; exact ⟨rfl, fun j a b ha hb => by have hb : [st (gT (g0 i))][j]? = some b := hb; rw [ha] at hb; cases hb; exact .refl _⟩)
   refine fcat tys_ok (l := [(50, ⟨[], FTNone⟩)]) ⟨fcTNone, trivial⟩ Tryz.func81 rfl (by kernel_rfl) true ?_
   have hp0 := hp0.2
   have hA0 := hp0.1
   have hV0 := hp0.2
   have hvR0 := hV0.2
   simp only [Sp.inR, Cg.inR] at hvR0
   have hL0 := okL_rows hA0.2
   have hn0 := hA0.1
   have hlen0 := gBs_length n0 f0
   generalize gBs n0 f0 = L at *
   clear hA0 hp0
   subst hlen0
   have hrow0 := okL_row hL0
   have hvok0 : okV (⟨⟨⟨s0, l0, h0⟩, ⟨b0, m0, r0⟩⟩, ⟨z0, gN p0 fun i => [st (gT (g0 i))]⟩⟩ : Vl) := ⟨⟨(by rw [gN_length]; exact hV0.1.1), fun _ _ => rfl⟩, hV0.2⟩
   have hcr0 := okL_row (clean_ok (e := ⟨e0, L⟩) hL0)
   have hcl0 : (En.clean ⟨e0, L⟩).binds.length <= L.length := clean_len ⟨e0, L⟩
   repeat' (first | exact trivial | refine ⟨?_, ?_⟩ | intro _)
   all_goals first | (with_reducible first | apply qa | apply qb | apply qc | apply qd) | (conv => whnf)
   all_goals (try simp only [gBs_row, gN_lst] at *)
   all_goals first | exact hrow0 | exact hn0 | exact hV0.1.1 | exact hvR0.1.1 | exact hvR0.1.2 | exact hvR0.2.1 | exact hvR0.2.2 | exact hcr0 | omega | (intro i hi; rfl) | rfl
 . cases h
abbrev gNone : List Cv -> Option Gs := mkFv (sums [(81, ⟨[], FNoneC⟩)]) 81 []
abbrev pN (x : Sd) : Bool := Sv.none x.s
def ixD (p : Sd -> Bool) (L : List Sd) : Int := match L.findIdx? p with
 | some i => i
 | none => -1
theorem atD_get {L : List Sd} {k : Nat} (h : k < L.length) : atD L k = L[k] := by unfold atD; rw [List.getD_eq_getElem?_getD, List.getElem?_eq_getElem h]; rfl
theorem ixD_some {p : Sd -> Bool} {L : List Sd} {i : Nat} (hi : i < L.length) (h1 : ∀ k, k < i -> p (atD L k) = false) (h2 : p (atD L i) = true) : ixD p L = i := by
 unfold ixD
 have : L.findIdx? p = some i := by
  rw [List.findIdx?_eq_some_iff_getElem]
  refine ⟨hi, by rw [<- atD_get hi]; exact h2, fun j hj => ?_⟩
  rw [<- atD_get (by omega), h1 j hj]; exact Bool.false_ne_true
 rw [this]
theorem ixD_none {p : Sd -> Bool} {L : List Sd} (h1 : ∀ k, k < L.length -> p (atD L k) = false) : ixD p L = -1 := by
 unfold ixD
 have : L.findIdx? p = none := by
  rw [List.findIdx?_eq_none_iff]
  intro x hx
  obtain ⟨k, hk, rfl⟩ := mem_atD hx
  exact h1 k hk
 rw [this]
theorem ixD_cases (p : Sd -> Bool) (L : List Sd) : (ixD p L = -1 /\ ∀ k, k < L.length -> p (atD L k) = false) \/ ∃ i, ixD p L = (i : Nat) /\ i < L.length /\ (∀ k, k < i -> p (atD L k) = false) /\ p (atD L i) = true := by
 unfold ixD
 cases h : L.findIdx? p with
 | none =>
   rw [List.findIdx?_eq_none_iff] at h
   exact .inl ⟨rfl, fun k hk => h _ (atD_mem hk)⟩
 | some i =>
   rw [List.findIdx?_eq_some_iff_getElem] at h
   obtain ⟨h1, h2, h3⟩ := h
   refine .inr ⟨i, rfl, h1, fun k hk => ?_, by rw [atD_get h1]; exact h2⟩
   rw [atD_get (by omega)]
   simpa using h3 k hk
theorem seg_atD (L : List Sd) : seg (atD L) 0 L.length = L := by
 apply List.ext_getElem
 . rw [seg_length]; omega
 . intro i h1 h2
   have := seg_getD (g := atD L) (a := 0) (b := L.length) (k := i) (by omega)
   rw [List.getD_eq_getElem?_getD, List.getElem?_eq_getElem h1, Nat.zero_add, atD_get h2] at this
   exact this
theorem filD_len (p : Sd -> Bool) (G : Nat -> Sd) (j : Nat) : ((seg G 0 j).filter p).length <= j := by
 have := List.length_filter_le p (seg G 0 j)
 rw [seg_length] at this; omega
theorem filD_step (p : Sd -> Bool) (G : Nat -> Sd) (j : Nat) : (seg G 0 (j + 1)).filter p = (seg G 0 j).filter p ++ if p (G j) = true then [G j] else [] := by
 rw [seg_snoc G (Nat.zero_le j), List.filter_append]
 congr 1
 cases h : p (G j) <;> simp [List.filter, h]
theorem filD_all {p : Sd -> Bool} {G : Nat -> Sd} {j : Nat} (h : ∀ k, k < j -> p (G k) = true) : (seg G 0 j).filter p = seg G 0 j := by
 rw [List.filter_eq_self]
 intro x hx
 obtain ⟨k, _, hk, rfl⟩ := mem_seg.1 hx
 exact h k hk
theorem row_pushD {G : Nat -> Sd} {L : List Sd} {x : Sd} {i : Nat} {r : List DV} (hi : i = L.length) (hr : r = sdC x) (k : Nat) : setRow (fun k => sdC (put G 0 L k)) i r k = sdC (put G 0 (L ++ [x]) k) := by
 subst hi; subst hr
 rw [setRow_at]
 split
 . rename_i h; subst h
   have := put_mid G 0 L x []
   rw [Nat.zero_add] at this
   rw [this]
 . rename_i h
   unfold put
   rw [List.length_append]
   by_cases c : k < L.length
   . rw [if_pos (by omega), if_pos (by simp; omega), List.getD_eq_getElem?_getD, List.getD_eq_getElem?_getD, List.getElem?_append_left (by omega)]
   . rw [if_neg (by omega), if_neg (by simp; omega)]
theorem put_atD {G : Nat -> Sd} {l : List Sd} {k : Nat} (h : k < l.length) : put G 0 l k = atD l k := by
 have := putAt (g := G) (a := 0) h
 rw [Nat.zero_add] at this; exact this
def FIndexD : List Ar -> Option Rs
 | [.c (.ow 12 n0 f0), .fv g1] => some ⟨(n0 <= 1000000000 /\ RowsD n0 f0) /\ (g1 = gNone), .va (.c (.d (it (ixD pN (gD n0 f0))))), [some (rwD (gD n0 f0))]⟩
 | _ => none
theorem fcIndexD : FC Tryz.prog 86 FIndexD := by
 intro xs pre r us h hp
 unfold FIndexD at h
 split at h
 . rename_i n0 f0 g1
   cases h
   obtain ⟨hp0, hp1⟩ := hp
   refine FCat.deep (ys := [.c (.ow 12 n0 (rwD (gD n0 f0))), .fv g1]) ?_ ?_
   . repeat' (first | exact trivial | exact rfl | exact DvE.refl _ | refine ⟨?_, ?_⟩ | fail)
     all_goals first | exact (canonDo hp0.2.h).2.2
   refine fcat tys_ok (l := []) trivial Tryz.func86 rfl (by kernel_rfl) false ?_
   obtain rfl := hp1
   have hn := hp0.1
   have hO := okD_rows hp0.2
   have hlen := gD_length n0 f0
   generalize gD n0 f0 = L at *
   clear hp0
   subst hlen
   have hrow := okD_row hO
   have hat : ∀ k, k < L.length -> (atD L k).ok := fun k hk => hO _ (atD_mem hk)
   repeat' (first | exact trivial | refine ⟨?_, ?_⟩ | intro _)
   all_goals first | (with_reducible first | apply qa | apply qb | apply qc | apply qd) | (conv => whnf)
   refine loop_ok tys_ok (l := []) trivial (by kernel_rfl) (X := Nat)
    (fun i => ⟨[(8, vx (.int .i64 i)), (0, .va (.c (.osl 0 12 0 L.length))), (1, .va (.c (.fv gNone))), (7, vx (.int .i64 L.length))], [(0, .row 12 L.length (rwD L))], 1, 19⟩)
    (fun i => L.length - i) (fun i => i <= L.length /\ ∀ k, k < i -> pN (atD L k) = false) [] []
    (fun i _ _ => i + 1) [0] [0] 0 0 0 ?_ ?_ ?_
   . exact ⟨Nat.zero_le _, fun k h => absurd h (Nat.not_lt_zero k)⟩
   . repeat' (first | exact trivial | exact rfl | (intro _ _; exact rfl) | refine ⟨?_, ?_⟩ | fail)
   . rintro i ⟨k1, k2⟩
     rcases Nat.lt_or_ge i L.length with hi | hi
     . have hne : decide ((i : Int) < (L.length : Int)) = true := decide_eq_true (by omega)
       have hai := hat i hi
       have hac := hai.cond
       have har := hai.n
       have hacr := hac.2.2
       simp only [Sp.inR, Cg.inR] at hacr
       have hgg : (⟨⟨(atD L i).s.e.live, gBs (atD L i).s.e.binds.length (rwB (atD L i).s.e.binds)⟩, ⟨⟨⟨(atD L i).s.v.i.s.some, (atD L i).s.v.i.s.lo, (atD L i).s.v.i.s.hi⟩, ⟨(atD L i).s.v.i.c.some, (atD L i).s.v.i.c.m, (atD L i).s.v.i.c.r⟩⟩, ⟨(atD L i).s.v.t.null, gN (atD L i).s.v.t.names.length fun j => [st (atS (atD L i).s.v.t.names j)]⟩⟩⟩ : Sv) = (atD L i).s := Sv.again_eq _
       have hix := fun h => ixD_some (p := pN) hi k2 h
       have hall : pN (atD L i) = false -> ∀ k, k < i + 1 -> pN (atD L k) = false := fun h k hk => by
        rcases Nat.lt_or_ge k i with hki | hki
        . exact k2 k hki
        . rw [show k = i by omega]; exact h
       cases hc2 : Sv.none (atD L i).s with
       | true =>
         replace hix := hix hc2
         clear hall
         repeat' (first | exact trivial | refine ⟨?_, ?_⟩ | intro _)
         all_goals first | (with_reducible first | apply qa | apply qb | apply qc | apply qd) | (conv => whnf)
         all_goals first | (exact absurd (hne.symm.trans ‹_ = false›) (by decide)) | skip
         all_goals (try simp only [Int.toNat_natCast, Nat.zero_add, hgg, hc2] at *)
         all_goals first | (exact absurd ‹true = false› (by decide)) | omega | rfl | exact hac.1.1 | exact hac.1.2 | exact hac.2.1.1 | exact har | exact har.1 | exact har.2 | (exact congrArg (Value.int .i64) (by first | (rw [wI_id _ (by omega) (by omega)]; omega) | omega | (dsimp only; omega))) | exact congrArg (Value.int .i64) hix.symm
       | false =>
         replace hall := hall hc2
         clear hix
         repeat' (first | exact trivial | refine ⟨?_, ?_⟩ | intro _)
         all_goals first | (with_reducible first | apply qa | apply qb | apply qc | apply qd) | (conv => whnf)
         all_goals first | (exact absurd (hne.symm.trans ‹_ = false›) (by decide)) | skip
         all_goals (try simp only [Int.toNat_natCast, Nat.zero_add, hgg, hc2] at *)
         all_goals first | (exact absurd ‹false = true› (by decide)) | omega | rfl | exact hac.1.1 | exact hac.1.2 | exact hac.2.1.1 | exact har | exact har.1 | exact har.2 | (exact congrArg (Value.int .i64) (by first | (rw [wI_id _ (by omega) (by omega)]; omega) | omega | (dsimp only; omega))) | exact hall _ ‹_›
     . have hne : decide ((i : Int) < (L.length : Int)) = false := decide_eq_false (by omega)
       obtain rfl : i = L.length := by omega
       repeat' (first | exact trivial | refine ⟨?_, ?_⟩ | intro _)
       all_goals first | (with_reducible first | apply qa | apply qb | apply qc | apply qd) | (conv => whnf)
       all_goals first | (exact absurd (hne.symm.trans ‹_ = true›) (by decide)) | skip
       all_goals first | exact Nat.le_refl _ | (rw [ixD_none k2]; done) | (rw [ixD_none k2]; rfl)
 . cases h
def FDeleteD : List Ar -> Option Rs
 | [.c (.ow 12 n0 f0), .fv g1] => some ⟨(n0 <= 1000000000 /\ RowsD n0 f0) /\ (g1 = gNone), .va (.c (.ow 12 (((gD n0 f0)).filter fun x => !pN x).length (rwD (((gD n0 f0)).filter fun x => !pN x)))), [none]⟩
 | _ => none
theorem fcDeleteD : FC Tryz.prog 80 FDeleteD := by
 intro xs pre r us h hp
 unfold FDeleteD at h
 split at h
 . rename_i n0 f0 g1
   cases h
   obtain ⟨hp0, hp1⟩ := hp
   refine FCat.deep (ys := [.c (.ow 12 n0 (rwD (gD n0 f0))), .fv g1]) ?_ ?_
   . repeat' (first | exact trivial | exact rfl | exact DvE.refl _ | refine ⟨?_, ?_⟩ | fail)
     all_goals first | exact (canonDo hp0.2.h).2.2
   refine fcat tys_ok (l := [(86, ⟨[true], FIndexD⟩)]) ⟨fcIndexD, trivial⟩ Tryz.func80 rfl (by kernel_rfl) false ?_
   obtain rfl := hp1
   have hn := hp0.1
   have hO := okD_rows hp0.2
   have hlen := gD_length n0 f0
   generalize gD n0 f0 = L at *
   clear hp0
   subst hlen
   have hrow := okD_row hO
   have hat : ∀ k, k < L.length -> (atD L k).ok := fun k hk => hO _ (atD_mem hk)
   have hgb := gD_row L
   have hsl : (L.filter fun x => !pN x) = (seg (atD L) 0 L.length).filter fun x => !pN x := by rw [seg_atD]
   have hfl := filD_len (fun x => !pN x) (atD L)
   repeat' (first | exact trivial | (with_reducible exact hrow) | refine ⟨?_, ?_⟩ | intro _)
   all_goals first | (with_reducible first | apply qa | apply qb | apply qc | apply qd) | (conv => whnf)
   all_goals first | exact hn | exact Nat.le_refl _ | rfl | skip
   all_goals (rcases ixD_cases pN L with ⟨hix, hno⟩ | ⟨i, hix, hi, hlo, hatp⟩)
   all_goals (simp only [hgb, hix] at *)
   all_goals first | (exact absurd ‹((-1 : Int) == -1) = false› (by decide)) | (exact absurd (eq_of_beq ‹((i : Int) == -1) = true›) (by omega)) | skip
   . rw [List.filter_eq_self.2 (fun x hx => by obtain ⟨k, hk, rfl⟩ := mem_atD hx; rw [hno k hk]; rfl)]
   . rw [List.filter_eq_self.2 (fun x hx => by obtain ⟨k, hk, rfl⟩ := mem_atD hx; rw [hno k hk]; rfl)]
   have hF : (seg (atD L) 0 (i + 1)).filter (fun x => !pN x) = seg (atD L) 0 i := by
    rw [filD_step, hatp, filD_all fun k hk => by rw [hlo k hk]; rfl]
    simp
   have hgen : ∀ j, (seg (atD L) 0 (j + 1)).filter (fun x => !pN x) = (seg (atD L) 0 j).filter (fun x => !pN x) ++ if (!pN (atD L j)) = true then [atD L j] else [] := filD_step _ _
   generalize hFF : (fun j => (seg (atD L) 0 j).filter (fun x => !pN x)) = F
   have hFe : ∀ j, (seg (atD L) 0 j).filter (fun x => !pN x) = F j := fun j => congrFun hFF j
   simp only [hFe] at hF hgen hsl hfl
   have hw0 : IntKind.wrap .i64 ((i : Int) + 1) = ((i + 1 : Nat) : Int) := by rw [wI_id _ (by omega) (by omega)]; omega
   refine loop_ok tys_ok (l := [(86, ⟨[true], FIndexD⟩)]) ⟨fcIndexD, trivial⟩ (by kernel_rfl) (X := Nat)
    (fun j => ⟨[(6, vx (.int .i64 j)), (5, vx (.int .i64 (F j).length)), (0, .va (.c (.osl 0 12 0 L.length))), (1, .va (.c (.fv gNone)))], [(0, .row 12 L.length fun k => sdC (put (atD L) 0 (F j) k))], 1, 42⟩)
    (fun j => L.length - j) (fun j => i + 1 <= j /\ j <= L.length /\ (F j).length < j) [] []
    (fun j _ _ => j + 1) [0] [0] 0 0 (i + 1) ?_ ?_ ?_
   . exact ⟨Nat.le_refl _, hi, by rw [hF, seg_length]; omega⟩
   . rw [hF, put_seg]
     repeat' (first | exact trivial | exact rfl | (intro _ _; exact rfl) | refine ⟨?_, ?_⟩ | fail)
     all_goals (refine congrArg (Value.int .i64) ?_; first | rw [hw0] | (rw [seg_length]; omega))
   . rintro j ⟨k1, k2, k3⟩
     rcases Nat.lt_or_ge j L.length with hj | hj
     . have hne : decide ((j : Int) < (L.length : Int)) = true := decide_eq_true (by omega)
       have hg1 : put (atD L) 0 (F j) j = atD L j := put_out (.inr (by omega))
       have hs := hgen j
       have hai := hat j hj
       have hac := hai.cond
       have har := hai.n
       have hacr := hac.2.2
       simp only [Sp.inR, Cg.inR] at hacr
       have hgg : (⟨⟨(atD L j).s.e.live, gBs (atD L j).s.e.binds.length (rwB (atD L j).s.e.binds)⟩, ⟨⟨⟨(atD L j).s.v.i.s.some, (atD L j).s.v.i.s.lo, (atD L j).s.v.i.s.hi⟩, ⟨(atD L j).s.v.i.c.some, (atD L j).s.v.i.c.m, (atD L j).s.v.i.c.r⟩⟩, ⟨(atD L j).s.v.t.null, gN (atD L j).s.v.t.names.length fun q => [st (atS (atD L j).s.v.t.names q)]⟩⟩⟩ : Sv) = (atD L j).s := Sv.again_eq _
       cases hc : pN (atD L j) with
       | true =>
         rw [hc, if_neg (by decide), List.append_nil] at hs
         have hc2 : Sv.none (atD L j).s = true := hc
         repeat' (first | exact trivial | refine ⟨?_, ?_⟩ | intro _)
         all_goals first | (with_reducible first | apply qa | apply qb | apply qc | apply qd) | (conv => whnf)
         all_goals first | (exact absurd (hne.symm.trans ‹_ = false›) (by decide)) | skip
         all_goals (try simp only [Int.toNat_natCast, Nat.zero_add, hg1, hgg, hc2] at *)
         all_goals first | (exact absurd ‹(!true) = true› (by decide)) | skip
         all_goals (try simp only [hs])
         all_goals first | omega | rfl | exact hac.1.1 | exact hac.1.2 | exact hac.2.1.1 | exact hac.2.2 | exact har | exact har.1 | exact har.2 | (exact congrArg (Value.int .i64) (by first | (rw [wI_id _ (by omega) (by omega)]; omega) | omega | (dsimp only; omega)))
       | false =>
         rw [hc, if_pos (by decide)] at hs
         have hlen : (F (j + 1)).length = (F j).length + 1 := by rw [hs]; simp
         have hc2 : Sv.none (atD L j).s = false := hc
         repeat' (first | exact trivial | refine ⟨?_, ?_⟩ | intro _)
         all_goals first | (with_reducible first | apply qa | apply qb | apply qc | apply qd) | (conv => whnf)
         all_goals first | (exact absurd (hne.symm.trans ‹_ = false›) (by decide)) | skip
         all_goals (try simp only [Int.toNat_natCast, Nat.zero_add, hg1, hgg, hc2] at *)
         all_goals first | (exact absurd ‹(!false) = false› (by decide)) | skip
         all_goals (try simp only [hlen])
         all_goals first | omega | rfl | exact hac.1.1 | exact hac.1.2 | exact hac.2.1.1 | exact hac.2.2 | exact har | exact har.1 | exact har.2 | (exact congrArg (Value.int .i64) (by first | (rw [wI_id _ (by omega) (by omega)]; omega) | omega | (dsimp only; omega))) | (rw [hs]; exact row_pushD rfl rfl _)
     . have hne : decide ((j : Int) < (L.length : Int)) = false := decide_eq_false (by omega)
       obtain rfl : j = L.length := by omega
       repeat' (first | exact trivial | refine ⟨?_, ?_⟩ | intro _)
       all_goals first | (with_reducible first | apply qa | apply qb | apply qc | apply qd) | (conv => whnf)
       all_goals first | (exact absurd (hne.symm.trans ‹_ = true›) (by decide)) | skip
       all_goals (try simp only [Int.toNat_natCast, Nat.zero_add, hsl])
       all_goals first | rfl | omega | (rename_i k hk; rw [clr_lo (by omega)]; exact congrArg sdC (put_atD (by omega)))
 . cases h
def FPlaceO : List Ar -> Option Rs
 | [.c (.ow 12 n0 f0), .agg [.d (.v (.string x1)), .d (.v (.int .i64 i1))]] => some ⟨(n0 <= 1000000000 /\ RowsD n0 f0) /\ (rI i1) /\ (SK (((gD n0 f0)).map (·.k))), .tup [.c (.d (it (lowK (gD n0 f0) (⟨x1, i1⟩ : Ky) : Nat))), .c (.d (bo (foundK (gD n0 f0) (⟨x1, i1⟩ : Ky))))], [some (rwD (gD n0 f0))]⟩
 | _ => none
theorem fcPlaceO : FC Tryz.prog 77 FPlaceO := by
 intro xs pre r us h hp
 unfold FPlaceO at h
 split at h
 . rename_i n0 f0 x1 i1
   cases h
   obtain ⟨hp0, hp1, hp2⟩ := hp
   refine FCat.deep (ys := [.c (.ow 12 n0 (rwD (gD n0 f0))), .agg [.d (.v (.string x1)), .d (.v (.int .i64 i1))]]) ?_ ?_
   . repeat' (first | exact trivial | exact rfl | exact DvE.refl _ | refine ⟨?_, ?_⟩ | fail)
     all_goals first | exact (canonDo hp0.2.h).2.2
   refine fcat tys_ok (l := [(126, ⟨[true], FBSearchD⟩), (127, ⟨[], FPlaceC⟩)]) ⟨fcBSearchD, fcPlaceC, trivial⟩ Tryz.func77 rfl (by kernel_rfl) false ?_
   have hn := hp0.1
   have hO := okD_rows hp0.2
   have hlen := gD_length n0 f0
   generalize gD n0 f0 = L at *
   clear hp0
   subst hlen
   have hrow := okD_row hO
   have hgb := gD_row L
   have hp3 : SK ((gD L.length (rwD L)).map (·.k)) := by rw [hgb]; exact hp2
   repeat' (first | exact trivial | (with_reducible first | exact hrow | exact hp1 | exact hp1.1 | exact hp1.2 | exact hp3) | refine ⟨?_, ?_⟩ | intro _)
   all_goals first | (with_reducible first | apply qa | apply qb | apply qc | apply qd) | (conv => whnf)
   all_goals (try simp only [hgb])
   all_goals first | exact hn | exact hp2 | exact Nat.le_refl _ | rfl
 . cases h
theorem vjoin_zero (v : Vl) : Vl.join Vl.zero v = v.of := by
 have h1 : Vl.zero.of = Vl.zero := Vl.of_fix Vl.zero_tidy
 have ht := Vl.of_tidy v
 have ha := Vl.l3_join2 Vl.zero v
 unfold Vl.join
 rw [h1]
 have e1 : Sp.join Vl.zero.i.s v.of.i.s = v.of.i.s := by
  rcases ht.i with e | ⟨⟨e1, e2⟩, e3, _⟩
  . rw [e]; rfl
  . generalize v.of.i.s = x at *
    unfold Vl.zero Ig.zero
    grind [Sp.join, Sp.none, Sp.clean, Sp.of]
 have e2 : Cg.join Vl.zero.i.c v.of.i.c = v.of.i.c := join_no1 rfl (tidy_c ht.i)
 rw [e1, e2]
 have e3 : ofS (ofS Vl.zero.t.names ++ ofS v.t.names) = v.of.t.names := by
  show ofS (ofS [] ++ ofS v.t.names) = _
  rw [ofS_nil, List.nil_append, of_names, ofS_eq, ofS_eq, cleanS_idem]
 have e4 : (Vl.zero.t.null || v.t.null) = v.of.t.null := by rw [of_null]; rfl
 rw [e3, e4]
theorem ejoin_zero (e : En) : En.join ⟨false, []⟩ e = e.clean := by rw [join_case, if_neg Bool.false_ne_true]
theorem sjoin_zero (s : Sv) : Sv.join Sv.zero s = s.clean := by
 rw [Sv.join_is]
 show (⟨En.join ⟨false, []⟩ s.e, Vl.join Vl.zero s.v⟩ : Sv) = ⟨s.e.clean, s.v.of⟩
 rw [ejoin_zero, vjoin_zero]
theorem setD_row1 {D : List Sd} {x : Sd} {r : List DV} (h : foundK D x.k = true) (hr : r = sdC ⟨(atD D (lowK D x.k)).k, Sv.join (atD D (lowK D x.k)).s x.s⟩) {q : Nat} (hq : q < D.length) : setRow (rwD D) (lowK D x.k) r q = sdC (atD (sumIns D x) q) := by
 subst hr
 unfold sumIns
 rw [if_pos h, setRow_at]
 have : atD (D.set (lowK D x.k) ⟨(atD D (lowK D x.k)).k, Sv.join (atD D (lowK D x.k)).s x.s⟩) q = if q = lowK D x.k then ⟨(atD D (lowK D x.k)).k, Sv.join (atD D (lowK D x.k)).s x.s⟩ else atD D q := by
  generalize (⟨(atD D (lowK D x.k)).k, Sv.join (atD D (lowK D x.k)).s x.s⟩ : Sd) = y
  unfold atD
  rw [List.getD_eq_getElem?_getD, List.getElem?_set]
  by_cases h : lowK D x.k = q
  . subst h; rw [if_pos rfl, if_pos hq, if_pos rfl]; rfl
  . rw [if_neg h, if_neg (Ne.symm h), List.getD_eq_getElem?_getD]
 rw [this]; split <;> rfl
theorem lowK_le (D : List Sd) (k : Ky) : lowK D k <= D.length := List.countP_le_length
theorem atD_ins {D : List Sd} {i : Nat} {x : Sd} (hi : i <= D.length) (k : Nat) : atD (D.take i ++ x :: D.drop i) k = if k < i then atD D k else if k = i then x else atD D (k - 1) := by
 unfold atD
 have hl : (D.take i).length = i := by rw [List.length_take]; omega
 simp only [List.getD_eq_getElem?_getD]
 by_cases h : k < i
 . rw [if_pos h, List.getElem?_append_left (by omega), List.getElem?_take_of_lt h]
 . rw [if_neg h, List.getElem?_append_right (by omega), hl]
   by_cases h2 : k = i
   . subst h2; rw [if_pos rfl, Nat.sub_self]; rfl
   . rw [if_neg h2, show k - i = (k - i - 1) + 1 by omega, List.getElem?_cons_succ, List.getElem?_drop]
     congr 2; omega
theorem setD_row2 {D : List Sd} {x : Sd} {r y : List DV} (h : foundK D x.k = false) (hr : r = sdC ⟨x.k.cl, Sv.join Sv.zero x.s⟩) (q : Nat) : setRow (insF (rwD D) (lowK D x.k) y) (lowK D x.k) r q = sdC (atD (sumIns D x) q) := by
 subst hr
 unfold sumIns
 rw [if_neg (by rw [h]; exact Bool.false_ne_true), setRow_at, atD_ins (lowK_le D x.k)]
 by_cases hq : q = lowK D x.k
 . rw [if_pos hq, if_neg (by omega), if_pos hq]
 . rw [if_neg hq]; unfold insF; rw [if_neg hq]
   split <;> rfl
theorem sumIns_len (D : List Sd) (x : Sd) : (sumIns D x).length = if foundK D x.k = true then D.length else D.length + 1 := by
 unfold sumIns
 have := lowK_le D x.k
 split
 . rw [List.length_set]
 . rw [List.length_append, List.length_cons, List.length_take, List.length_drop]; omega
theorem foundK_lt {D : List Sd} {k : Ky} (h : foundK D k = true) : lowK D k < D.length := by
 unfold foundK at h
 rw [Bool.and_eq_true] at h
 exact of_decide_eq_true h.1
theorem insF_at (G : Nat -> List DV) (i : Nat) (x : List DV) : insF G i x i = x := by unfold insF; rw [if_neg (Nat.lt_irrefl _), if_pos rfl]
theorem okD_sums {L : List Sd} {B : Nat} (hB : B <= 1000000000) (hO : okD L) (hF : ∀ k, Sv.fit B (foldJ L k)) : okD (sumsK L) := by
 intro y hy
 obtain ⟨k, hk, rfl⟩ := List.mem_map.1 hy
 have h := hF k
 refine ⟨?_, h.l, h.v, Nat.le_trans h.len (by omega)⟩
 obtain ⟨x, hx, rfl⟩ := (mem_keys L k).1 hk
 exact Ky.cl_r (hO x hx).n
theorem sums_len (L : List Sd) : (sumsK L).length <= L.length := by
 have := keys_len L
 unfold sumsK; rw [List.length_map]; exact this
theorem sums_sk (L : List Sd) : SK ((sumsK L).map (·.k)) := by rw [sums_keys]; exact keys_sk L
theorem sums_at {L : List Sd} {i : Nat} (h : i < (sumsK L).length) : (atD (sumsK L) i).s = foldJ L (atD (sumsK L) i).k := by
 have hm := atD_mem h
 generalize atD (sumsK L) i = y at *
 obtain ⟨k, hk, rfl⟩ := List.mem_map.1 hm
 rfl
theorem fit_zero : Sv.fit 0 Sv.zero := ⟨fun x hx => (by cases hx), ⟨⟨Nat.zero_le _, fun _ _ => rfl⟩, (by unfold Sv.zero Vl.zero Ig.zero Sp.inR Cg.inR; decide)⟩, Nat.zero_le _, fun x hx => (by cases hx), Nat.zero_le _⟩
def FCSum : List Ar -> Option Rs
 | [.c (.d (.lst 12 n0 f0))] => some ⟨(n0 <= 1000000000 /\ RowsD n0 f0) /\ (∃ B, B <= 100000000 /\ (∀ i, i < n0 -> Sv.fit B (atD (gD n0 f0) i).s) /\ ∀ i, i <= n0 -> ∀ k, Sv.fit B (foldJ (((gD n0 f0)).take i) k)), .va (.c (.d (lstD (sumM (gD n0 f0))))), []⟩
 | _ => none
theorem fcCSum : FC Tryz.prog 28 FCSum := by
 intro xs pre r us h hp
 unfold FCSum at h
 split at h
 . rename_i n0 f0
   cases h
   obtain ⟨hp0, hp1⟩ := hp
   refine FCat.deep (ys := [.c (.d (.lst 12 n0 (rwD (gD n0 f0))))]) ?_ ?_
   . repeat' (first | exact trivial | exact rfl | exact DvE.refl _ | refine ⟨?_, ?_⟩ | fail)
     all_goals first | exact canonD hp0.2.h
   refine fcat tys_ok (l := [(77, ⟨[true], FPlaceO⟩), (79, ⟨[], FKyClean⟩), (78, ⟨[true, false, true], FInsertD⟩), (52, ⟨[], FP zGG FTJoin⟩), (80, ⟨[true], FDeleteD⟩), (81, ⟨[], FNoneC⟩), (127, ⟨[], FPlaceC⟩)]) ⟨fcPlaceO, fcKyClean, fcInsertD, fc_nilp zGG fcTJoin, fcDeleteD, fcNoneC, fcPlaceC, trivial⟩ Tryz.func28 rfl (by kernel_rfl) true ?_
   obtain ⟨Bn, hB, hf, hF⟩ := hp1
   have hn := hp0.1
   have hO := okD_rows hp0.2
   have hlen := gD_length n0 f0
   generalize gD n0 f0 = L at *
   clear hp0
   subst hlen
   have hrow := okD_row hO
   repeat' (first | exact trivial | refine ⟨?_, ?_⟩ | intro _)
   all_goals first | (with_reducible first | apply qa | apply qb | apply qc | apply qd) | (conv => whnf)
   refine loop_ids tys_ok (l := [(77, ⟨[true], FPlaceO⟩), (79, ⟨[], FKyClean⟩), (78, ⟨[true, false, true], FInsertD⟩), (52, ⟨[], FP zGG FTJoin⟩), (80, ⟨[true], FDeleteD⟩), (81, ⟨[], FNoneC⟩), (127, ⟨[], FPlaceC⟩)]) ⟨fcPlaceO, fcKyClean, fcInsertD, fc_nilp zGG fcTJoin, fcDeleteD, fcNoneC, fcPlaceC, trivial⟩ (by kernel_rfl) (X := Nat)
    (fun i => ⟨[(10, vx (.int .i64 i)), (3, .va (.c (.osl 0 12 0 (sumsK (L.take i)).length))), (8, .va (.c (.d (.lst 12 L.length (rwD L))))), (9, vx (.int .i64 L.length))], [(0, .row 12 (sumsK (L.take i)).length (rwD (sumsK (L.take i))))], 1, 46⟩)
    (fun i => L.length - i) (fun i => i <= L.length) [3] []
    (fun i _ _ => i + 1) (fun xs => match xs with | [t] => [oI t] | _ => []) [] 0 1 0 ?_ ?_ ?_
   . exact Nat.zero_le _
   . repeat' (first | exact trivial | exact rfl | (intro _ h; exact absurd h (Nat.not_lt_zero _)) | (intro _ _; exact rfl) | refine ⟨?_, ?_⟩ | fail)
     all_goals first | simp
   . rintro i k1
     rcases Nat.lt_or_ge i L.length with hi | hi
     . have hne : decide ((i : Int) < (L.length : Int)) = true := decide_eq_true (by omega)
       have hi0 : (0 : Int) <= (i : Int) /\ (i : Int) < (L.length : Int) := by omega
       have hOk : okD (sumsK (L.take i)) := okD_sums (by omega) (fun x hx => hO x (List.mem_of_mem_take hx)) (hF i (by omega))
       have hOs := sums_sk (L.take i)
       have hOl := sums_len (L.take i)
       have hOt := sums_snoc (L.take i) (atD L (Int.toNat (i : Int)))
       have htk : L.take i ++ [(atD L (Int.toNat (i : Int)))] = L.take (i + 1) := (take_snoc hi).symm
       rw [htk] at hOt
       have hOa : ∀ q, q < (sumsK (L.take i)).length -> Sv.fit Bn (atD (sumsK (L.take i)) q).s := fun q hq => by rw [sums_at hq]; exact hF i (by omega) _
       rw [List.length_take] at hOl
       have hOr := okD_row hOk
       have hgO := gD_row (sumsK (L.take i))
       have hO2 : (sumsK (L.take i)).length <= 1000000000 := by omega
       have hO3 : (sumsK (L.take i)).length <= (sumsK (L.take i)).length := Nat.le_refl _
       have hSK : SK (((gD (sumsK (L.take i)).length (rwD (sumsK (L.take i))))).map (·.k)) := by rw [hgO]; exact hOs
       have hXo := hO (atD L (Int.toNat (i : Int))) (atD_mem hi)
       have hxr := hXo.n
       have oX : Sv.fit Bn (Sv.again (atD L (Int.toNat (i : Int))).s) := (hf i hi).ag
       have cX := hXo.cond
       have hll := sumIns_len (sumsK (L.take i)) (atD L (Int.toNat (i : Int)))
       have hlow := lowK_le (sumsK (L.take i)) (atD L (Int.toNat (i : Int))).k
       cases hfd : foundK (gD (sumsK (L.take i)).length (rwD (sumsK (L.take i)))) (⟨(atD L (Int.toNat (i : Int))).k.name, (atD L (Int.toNat (i : Int))).k.node⟩ : Ky) with
       | true =>
         have hnf : (!foundK (gD (sumsK (L.take i)).length (rwD (sumsK (L.take i)))) (⟨(atD L (Int.toNat (i : Int))).k.name, (atD L (Int.toNat (i : Int))).k.node⟩ : Ky)) = false := by rw [hfd]; rfl
         have hfe : foundK (sumsK (L.take i)) (atD L (Int.toNat (i : Int))).k = true := by have := hfd; rw [hgO] at this; exact this
         rw [if_pos hfe] at hll
         have hlt : (lowK (gD (sumsK (L.take i)).length (rwD (sumsK (L.take i)))) (⟨(atD L (Int.toNat (i : Int))).k.name, (atD L (Int.toNat (i : Int))).k.node⟩ : Ky)) < (sumsK (L.take i)).length := by have := foundK_lt hfd; rw [gD_length] at this; exact this
         have hx0 : 0 + Int.toNat (((lowK (gD (sumsK (L.take i)).length (rwD (sumsK (L.take i)))) (⟨(atD L (Int.toNat (i : Int))).k.name, (atD L (Int.toNat (i : Int))).k.node⟩ : Ky)) : Nat) : Int) = (lowK (gD (sumsK (L.take i)).length (rwD (sumsK (L.take i)))) (⟨(atD L (Int.toNat (i : Int))).k.name, (atD L (Int.toNat (i : Int))).k.node⟩ : Ky)) := by rw [Int.toNat_natCast, Nat.zero_add]
         have oA : Sv.fit Bn (Sv.again (atD (gD (sumsK (L.take i)).length (rwD (sumsK (L.take i)))) (0 + Int.toNat (((lowK (gD (sumsK (L.take i)).length (rwD (sumsK (L.take i)))) (⟨(atD L (Int.toNat (i : Int))).k.name, (atD L (Int.toNat (i : Int))).k.node⟩ : Ky)) : Nat) : Int))).s) := by
          rw [hx0]
          rw [hgO] at hlt ⊢
          exact (hOa _ hlt).ag
         have cA : Sv.cond (atD (gD (sumsK (L.take i)).length (rwD (sumsK (L.take i)))) (0 + Int.toNat (((lowK (gD (sumsK (L.take i)).length (rwD (sumsK (L.take i)))) (⟨(atD L (Int.toNat (i : Int))).k.name, (atD L (Int.toNat (i : Int))).k.node⟩ : Ky)) : Nat) : Int))).s := by
          rw [hx0]
          rw [hgO] at hlt ⊢
          exact (hOk _ (atD_mem hlt)).cond
         have pr := Sv.fit.pair oA oX (by omega)
         have pq : (atD (gD (sumsK (L.take i)).length (rwD (sumsK (L.take i)))) (0 + Int.toNat (((lowK (gD (sumsK (L.take i)).length (rwD (sumsK (L.take i)))) (⟨(atD L (Int.toNat (i : Int))).k.name, (atD L (Int.toNat (i : Int))).k.node⟩ : Ky)) : Nat) : Int))).s.e.binds.length + (atD L (Int.toNat (i : Int))).s.e.binds.length <= 1099511627776 := by have := pr.s; simpa only [gBs_length] using this
         repeat' (first | exact trivial | (with_reducible first | exact (fun h => absurd (hne.symm.trans h) (by decide)) | exact (fun h => absurd (hfd.symm.trans h) (by decide)) | exact (fun h => absurd (hnf.symm.trans h) (by decide)) | exact hrow | exact hOr | exact hO2 | exact hO3 | exact hSK | exact hxr | exact hxr.1 | exact hxr.2 | exact cX | exact pr.r | exact pr.q | exact pq | exact cA | exact hi0) | refine ⟨?_, ?_⟩ | intro _)
         all_goals first | (with_reducible first | apply qa | apply qb | apply qc | apply qd) | (conv => whnf)
         all_goals (have hlw : (lowK (gD (sumsK (L.take i)).length (rwD (sumsK (L.take i)))) (⟨(atD L (Int.toNat (i : Int))).k.name, (atD L (Int.toNat (i : Int))).k.node⟩ : Ky)) <= (sumsK (L.take i)).length := by have := hlow; rw [hgO]; exact this)
         all_goals first | omega | exact Nat.le_refl _ | exact cA.1.1 | exact cA.1.2 | exact cA.2.1.1 | exact cX.1.1 | exact cX.1.2 | exact cX.2.1.1 | skip
         all_goals first | rfl | (dsimp only; omega) | decide | ((with_reducible show idsOk _ _ = true); rfl) | (exact congrArg (Value.int .i64) (by first | (rw [wI_id _ (by omega) (by omega)]; omega) | omega | (dsimp only; omega))) | (exact absurd ‹_ < 0› (Nat.not_lt_zero _)) | (intro h; exact absurd h (Nat.not_lt_zero _)) | (dsimp only; (exact congrArg (Value.int .i64) (by first | (rw [wI_id _ (by omega) (by omega)]; omega) | omega | (dsimp only; omega)))) | skip
         all_goals (dsimp only; rw [hOt])
         all_goals first | exact hll.symm | skip
         all_goals (simp only [hgO, Int.toNat_natCast, Nat.zero_add, gBs_row, gN_lst])
         all_goals first | exact setD_row1 hfe rfl ‹_›
       | false =>
         have hnf : (!foundK (gD (sumsK (L.take i)).length (rwD (sumsK (L.take i)))) (⟨(atD L (Int.toNat (i : Int))).k.name, (atD L (Int.toNat (i : Int))).k.node⟩ : Ky)) = true := by rw [hfd]; rfl
         have hfe : foundK (sumsK (L.take i)) (atD L (Int.toNat (i : Int))).k = false := by have := hfd; rw [hgO] at this; exact this
         rw [if_neg (by rw [hfe]; exact Bool.false_ne_true)] at hll
         have oA : Sv.fit Bn (⟨⟨false, gBs 0 fun _ => []⟩, ⟨⟨⟨false, 0, 0⟩, ⟨false, 0, 0⟩⟩, ⟨false, gN 0 fun _ => []⟩⟩⟩ : Sv) := fit_zero.mono (Nat.zero_le _)
         have rows0 : RowsOk 0 fun _ => [] := ⟨fun i h => absurd h (Nat.not_lt_zero i)⟩
         have pr := Sv.fit.pair oA oX (by omega)
         have pq : 0 + (atD L (Int.toNat (i : Int))).s.e.binds.length <= 1099511627776 := by have := pr.s; simpa only [gBs_length] using this
         repeat' (first | exact trivial | (with_reducible first | exact (fun h => absurd (hne.symm.trans h) (by decide)) | exact (fun h => absurd (hfd.symm.trans h) (by decide)) | exact (fun h => absurd (hnf.symm.trans h) (by decide)) | exact hrow | exact hOr | exact hO2 | exact hO3 | exact hSK | exact hxr | exact hxr.1 | exact hxr.2 | exact cX | exact pr.r | exact pr.q | exact pq | exact rows0 | exact hi0) | refine ⟨?_, ?_⟩ | intro _)
         all_goals first | (with_reducible first | apply qa | apply qb | apply qc | apply qd) | (conv => whnf)
         all_goals (have hlw : (lowK (gD (sumsK (L.take i)).length (rwD (sumsK (L.take i)))) (⟨(atD L (Int.toNat (i : Int))).k.name, (atD L (Int.toNat (i : Int))).k.node⟩ : Ky)) <= (sumsK (L.take i)).length := by have := hlow; rw [hgO]; exact this)
         all_goals first | omega | exact Nat.le_refl _ | exact cX.1.1 | exact cX.1.2 | exact cX.2.1.1 | skip
         all_goals (try simp only [Nat.zero_add, insF_at])
         all_goals repeat' (first | exact trivial | (with_reducible first | exact (fun h => absurd (hne.symm.trans h) (by decide)) | exact (fun h => absurd (hfd.symm.trans h) (by decide)) | exact (fun h => absurd (hnf.symm.trans h) (by decide)) | exact hrow | exact hOr | exact hO2 | exact hO3 | exact hSK | exact hxr | exact hxr.1 | exact hxr.2 | exact cX | exact pr.r | exact pr.q | exact pq | exact rows0 | exact hi0) | refine ⟨?_, ?_⟩ | intro _)
         all_goals first | (with_reducible first | apply qa | apply qb | apply qc | apply qd) | (conv => whnf)
         all_goals (try simp only [Nat.zero_add, insF_at])
         all_goals repeat' (first | exact trivial | (with_reducible first | exact (fun h => absurd (hne.symm.trans h) (by decide)) | exact (fun h => absurd (hfd.symm.trans h) (by decide)) | exact (fun h => absurd (hnf.symm.trans h) (by decide)) | exact hrow | exact hOr | exact hO2 | exact hO3 | exact hSK | exact hxr | exact hxr.1 | exact hxr.2 | exact cX | exact pr.r | exact pr.q | exact pq | exact rows0 | exact hi0) | refine ⟨?_, ?_⟩ | intro _)
         all_goals first | (with_reducible first | apply qa | apply qb | apply qc | apply qd) | (conv => whnf)
         all_goals first | exact cX.1.1 | exact cX.1.2 | exact cX.2.1.1 | omega | skip
         all_goals first | rfl | (dsimp only; omega) | decide | ((with_reducible show idsOk _ _ = true); rfl) | (exact congrArg (Value.int .i64) (by first | (rw [wI_id _ (by omega) (by omega)]; omega) | omega | (dsimp only; omega))) | (exact absurd ‹_ < 0› (Nat.not_lt_zero _)) | (intro h; exact absurd h (Nat.not_lt_zero _)) | (dsimp only; (exact congrArg (Value.int .i64) (by first | (rw [wI_id _ (by omega) (by omega)]; omega) | omega | (dsimp only; omega)))) | skip
         all_goals (dsimp only; rw [hOt])
         all_goals first | exact hll.symm | skip
         all_goals (simp only [hgO, Int.toNat_natCast, Nat.zero_add, gBs_row, gN_lst])
         all_goals first | exact setD_row2 hfe rfl _
     . have hne : decide ((i : Int) < (L.length : Int)) = false := decide_eq_false (by omega)
       obtain rfl : i = L.length := by omega
       have hOk : okD (sumsK L) := okD_sums (B := Bn) (by omega) hO (by have := hF L.length (Nat.le_refl _); rw [List.take_length] at this; exact this)
       have hgL := gD_row (sumsK L)
       have hOr := okD_row hOk
       have hOl := sums_len L
       rw [List.take_length]
       repeat' (first | exact trivial | (with_reducible exact hOr) | refine ⟨?_, ?_⟩ | intro _)
       all_goals first | (with_reducible first | apply qa | apply qb | apply qc | apply qd) | (conv => whnf)
       all_goals first | (exact absurd (hne.symm.trans ‹_ = true›) (by decide)) | skip
       all_goals (try simp only [hgL, Nat.zero_add])
       all_goals first | rfl | omega | exact Nat.le_refl _ | (intro i hi; rfl)
 . cases h
def FitL : List Sd -> List Nat -> Prop
 | [], [] => True
 | x :: L, n :: ns => Sv.fit n x.s /\ FitL L ns
 | _, _ => False
theorem fold_fit' (k : Ky) : ∀ (L : List Sd) (ns : List Nat), FitL L ns -> ∀ (s : Sv) (m : Nat), Sv.fit m s -> m + ns.sum <= 8000000000 -> Sv.fit (m + ns.sum) (L.foldl (fun s x => if x.k.cl = k then Sv.join s x.s else s) s)
 | [], [], _, s, m, h, _ => by simpa using h
 | [], _ :: _, h, _, _, _, _ => h.elim
 | _ :: _, [], h, _, _, _, _ => h.elim
 | x :: L, n :: ns, h, s, m, hs, hm => by
   rw [List.sum_cons] at hm ⊢
   rw [List.foldl_cons, <- Nat.add_assoc]
   refine fold_fit' k L ns h.2 _ (m + n) ?_ (by omega)
   split
   . exact hs.join h.1 (by omega)
   . exact hs.mono (by omega)
theorem fitL_take : ∀ {L : List Sd} {ns : List Nat} (i : Nat), FitL L ns -> FitL (L.take i) (ns.take i)
 | [], [], i, _ => by rw [List.take_nil, List.take_nil]; trivial
 | [], _ :: _, _, h => h.elim
 | _ :: _, [], _, h => h.elim
 | x :: L, n :: ns, 0, _ => trivial
 | x :: L, n :: ns, i + 1, h => ⟨h.1, fitL_take i h.2⟩
theorem sum_take : ∀ (ns : List Nat) (i : Nat), (ns.take i).sum <= ns.sum
 | [], i => by rw [List.take_nil]; exact Nat.le_refl _
 | n :: ns, 0 => Nat.zero_le _
 | n :: ns, i + 1 => by rw [List.take_succ_cons, List.sum_cons, List.sum_cons]; have := sum_take ns i; omega
theorem fitL_at : ∀ {L : List Sd} {ns : List Nat}, FitL L ns -> ∀ x, x ∈ L -> Sv.fit ns.sum x.s
 | [], _, _, x, hx => by cases hx
 | _ :: _, [], h, _, _ => h.elim
 | y :: L, n :: ns, h, x, hx => by
   rw [List.sum_cons]
   rcases List.mem_cons.1 hx with rfl | hx
   . exact h.1.mono (by omega)
   . exact (fitL_at h.2 x hx).mono (by omega)
def SumPre (L : List Sd) (B : Nat) : Prop := (∀ i, i < L.length -> Sv.fit B (atD L i).s) /\ ∀ i, i <= L.length -> ∀ k, Sv.fit B (foldJ (L.take i) k)
theorem fitL_pre {L : List Sd} {ns : List Nat} (h : FitL L ns) (hs : ns.sum <= 100000000) : SumPre L ns.sum :=
 ⟨fun i hi => fitL_at h _ (atD_mem hi), fun i _ k => by
   have := fold_fit' k (L.take i) (ns.take i) (fitL_take i h) Sv.zero 0 fit_zero (by have := sum_take ns i; omega)
   exact this.mono (by have := sum_take ns i; omega)⟩
theorem zero_clean : Sv.zero.clean = Sv.zero := by
 show (⟨En.clean ⟨false, []⟩, Vl.of Vl.zero⟩ : Sv) = _
 rw [Vl.of_fix Vl.zero_tidy]; rfl
theorem ecl2 (e : En) : e.clean.clean = e.clean := clean_fixE (clean_tidyE e)
theorem join_cl (a b : Sv) : Sv.join a.clean b.clean = Sv.join a b := by
 rw [Sv.join_is, Sv.join_is]
 have h1 : En.join a.e.clean b.e.clean = En.join a.e b.e := by unfold En.join; rw [ecl2, ecl2]
 have h2 : Vl.join a.v.of b.v.of = Vl.join a.v b.v := by
  rw [Vl.join_eq, Vl.join_eq, of_rclean, of_rclean]; unfold Vl.rjoin; rw [rclean2, rclean2]; simp only [Vl.rclean, cleanS_idem]
 show (⟨En.join a.e.clean b.e.clean, Vl.join a.v.of b.v.of⟩ : Sv) = _
 rw [h1, h2]
theorem vjoin_of (x y : Vl) : Vl.join x.of y.of = Vl.join x y := by
 rw [Vl.join_eq, Vl.join_eq, of_rclean, of_rclean]; unfold Vl.rjoin; rw [rclean2, rclean2]; simp only [Vl.rclean, cleanS_idem]
theorem rI1 : rI 1 := by unfold rI; decide
def fLv : Nat -> List DV := (fun i => Go.Sx.rowAt 12 [.v (.string ⟨#[103]⟩), .v (.int .i64 (-1)), .v (.bool false), .v (.slice none 0 0), .v (.bool (Sp.of 1 1).some), .v (.int .i64 (Sp.of 1 1).lo), .v (.int .i64 (Sp.of 1 1).hi), .v (.bool (Cg.of 0 1).some), .v (.int .i64 (Cg.of 0 1).m), .v (.int .i64 (Cg.of 0 1).r), .v (.bool false), .lst 1 0 fun i => [st (atS [] i)], .v (.string ⟨#[103]⟩), .v (.int .i64 (-1)), .v (.bool false), .v (.slice none 0 0), .v (.bool (Sp.of 5 5).some), .v (.int .i64 (Sp.of 5 5).lo), .v (.int .i64 (Sp.of 5 5).hi), .v (.bool (Cg.of 0 5).some), .v (.int .i64 (Cg.of 0 5).m), .v (.int .i64 (Cg.of 0 5).r), .v (.bool false), .lst 1 0 fun i => [st (atS [] i)]] (0 + i))
def kLv : Ky := ⟨⟨#[103]⟩, -1⟩
def zLv (n : Int) : Sv := ⟨⟨false, []⟩, numV n⟩
def WV : Vl := Vl.join (numV 1).of (numV 5).of
theorem wv_i : WV.i = ⟨⟨true, 1, 5⟩, ⟨true, 4, 1⟩⟩ := by
 unfold WV Vl.join
 rw [Vl.of_of, Vl.of_of, num_of_i, num_of_i]
 show (⟨Sp.join ⟨true, 1, 1⟩ ⟨true, 5, 5⟩, Cg.join ⟨true, 0, 1⟩ ⟨true, 0, 5⟩⟩ : Ig) = _
 have e1 : Sp.join ⟨true, 1, 1⟩ ⟨true, 5, 5⟩ = ⟨true, 1, 5⟩ := by kernel_rfl
 have e2 : Cg.join ⟨true, 0, 1⟩ ⟨true, 0, 5⟩ = ⟨true, 4, 1⟩ := by kernel_rfl
 rw [e1, e2]
theorem wv_has : Vl.hasInt WV 5 = true /\ Vl.hasInt WV 4 = false := by
 unfold Vl.hasInt
 rw [wv_i]; decide
theorem wv_h5 (b : Bool) (l : List ByteArray) : Vl.hasInt ⟨⟨⟨WV.i.s.some, WV.i.s.lo, WV.i.s.hi⟩, ⟨WV.i.c.some, WV.i.c.m, WV.i.c.r⟩⟩, ⟨b, l⟩⟩ 5 = true := wv_has.1
theorem wv_h4 (b : Bool) (l : List ByteArray) : Vl.hasInt ⟨⟨⟨WV.i.s.some, WV.i.s.lo, WV.i.s.hi⟩, ⟨WV.i.c.some, WV.i.c.m, WV.i.c.r⟩⟩, ⟨b, l⟩⟩ 4 = false := wv_has.2
theorem wv_names : WV.t.names = [] := by
 show ofS (ofS (numV 1).of.t.names ++ ofS (numV 5).of.t.names) = []
 rw [of_names, of_names]
 show ofS (ofS (ofS []) ++ ofS (ofS [])) = []
 rw [ofS_eq, ofS_eq, ofS_eq]; rfl
theorem lv_join : Sv.join (Sv.join Sv.zero (zLv 1)) (zLv 5) = ⟨⟨false, []⟩, WV⟩ := by
 have h1 : Sv.join (zLv 1).clean (zLv 5) = Sv.join (zLv 1) (zLv 5) := by rw [<- join_cl (zLv 1).clean (zLv 5), Sv.clean2, join_cl]
 rw [sjoin_zero, h1, Sv.join_is]
 have e2 : En.join (zLv 1).e (zLv 5).e = ⟨false, []⟩ := by rw [join_case]; rfl
 rw [e2, <- vjoin_of]; rfl
theorem atD_one (x : Sd) : atD [x] 0 = x := rfl
theorem atD_one' (x : Sd) : atD [x] (Int.toNat 0) = x := rfl
theorem lv_none : Sv.none ⟨⟨false, []⟩, WV⟩ = false := by
 unfold Sv.none Vl.none
 have : WV.of = WV := Vl.of_fix (Vl.jn_tidy _ _)
 rw [this, wv_i]; rfl
theorem two_keys (k : Ky) (a b : Sv) : keysOf [⟨k, a⟩, ⟨k, b⟩] = [k.cl] := by
 show putK (putK [] k) k = _
 have e1 : putK [] k = [k.cl] := rfl
 have h := put_split (A := []) (B := [k.cl]) (k := k) (fun a ha => (by cases ha)) fun b hb => by
  obtain rfl := List.mem_singleton.1 hb
  rw [Ky.lt_cl1]; exact Ky.lt_irrefl k
 rw [e1]
 rw [List.nil_append] at h
 rw [h]; simp
theorem two_sum (k : Ky) (a b : Sv) (hn : Sv.none (Sv.join (Sv.join Sv.zero a) b) = false) : sumM [⟨k, a⟩, ⟨k, b⟩] = [⟨k.cl, Sv.join (Sv.join Sv.zero a) b⟩] := by
 have hf : foldJ [⟨k, a⟩, ⟨k, b⟩] k.cl = Sv.join (Sv.join Sv.zero a) b := by
  show (if k.cl = k.cl then _ else _) = _
  rw [if_pos rfl]
  show Sv.join (if k.cl = k.cl then _ else _) b = _
  rw [if_pos rfl]
 unfold sumM sumsK
 rw [two_keys, List.map_cons, List.map_nil, hf]
 simp [hn]
theorem gD_lv : gD 2 fLv = [⟨kLv, zLv 1⟩, ⟨kLv, zLv 5⟩] := by
 have h : ∀ n, (numV n).t.names = [] := fun _ => rfl
 rfl
theorem kLv_eq : (kLv.name.toList == (⟨#[103]⟩ : ByteArray).toList && (kLv.node == -1 && true)) = true := by simp [kLv]
theorem sum_lv : sumM (gD 2 (fun i => Go.Sx.rowAt 12 [.v (.string ⟨#[103]⟩), .v (.int .i64 (-1)), .v (.bool false), .v (.slice none 0 0), .v (.bool (Sp.of 1 1).some), .v (.int .i64 (Sp.of 1 1).lo), .v (.int .i64 (Sp.of 1 1).hi), .v (.bool (Cg.of 0 1).some), .v (.int .i64 (Cg.of 0 1).m), .v (.int .i64 (Cg.of 0 1).r), .v (.bool false), .lst 1 0 fun i => [st (atS [] i)], .v (.string ⟨#[103]⟩), .v (.int .i64 (-1)), .v (.bool false), .v (.slice none 0 0), .v (.bool (Sp.of 5 5).some), .v (.int .i64 (Sp.of 5 5).lo), .v (.int .i64 (Sp.of 5 5).hi), .v (.bool (Cg.of 0 5).some), .v (.int .i64 (Cg.of 0 5).m), .v (.int .i64 (Cg.of 0 5).r), .v (.bool false), .lst 1 0 fun i => [st (atS [] i)]] (0 + i))) = [⟨kLv, ⟨⟨false, []⟩, WV⟩⟩] := by
 show sumM (gD 2 fLv) = _
 rw [gD_lv, two_sum _ _ _ (by rw [lv_join]; exact lv_none), lv_join]; rfl
theorem num_r {n : Int} (h : rI n) : Sv.fit 0 (zLv n) := ⟨fun x hx => (by cases hx), ⟨⟨Nat.zero_le _, fun _ _ => rfl⟩, one_inR (n := n) h⟩, Nat.le_refl _, fun x hx => (by cases hx), Nat.le_refl _⟩
theorem rI5 : rI 5 := by unfold rI; decide
theorem pre_lv : ∃ B, B <= 100000000 /\ (∀ i, i < 2 -> Sv.fit B (atD (gD 2 (fun i => Go.Sx.rowAt 12 [.v (.string ⟨#[103]⟩), .v (.int .i64 (-1)), .v (.bool false), .v (.slice none 0 0), .v (.bool (Sp.of 1 1).some), .v (.int .i64 (Sp.of 1 1).lo), .v (.int .i64 (Sp.of 1 1).hi), .v (.bool (Cg.of 0 1).some), .v (.int .i64 (Cg.of 0 1).m), .v (.int .i64 (Cg.of 0 1).r), .v (.bool false), .lst 1 0 fun i => [st (atS [] i)], .v (.string ⟨#[103]⟩), .v (.int .i64 (-1)), .v (.bool false), .v (.slice none 0 0), .v (.bool (Sp.of 5 5).some), .v (.int .i64 (Sp.of 5 5).lo), .v (.int .i64 (Sp.of 5 5).hi), .v (.bool (Cg.of 0 5).some), .v (.int .i64 (Cg.of 0 5).m), .v (.int .i64 (Cg.of 0 5).r), .v (.bool false), .lst 1 0 fun i => [st (atS [] i)]] (0 + i))) i).s) /\ ∀ i, i <= 2 -> ∀ k, Sv.fit B (foldJ ((gD 2 (fun i => Go.Sx.rowAt 12 [.v (.string ⟨#[103]⟩), .v (.int .i64 (-1)), .v (.bool false), .v (.slice none 0 0), .v (.bool (Sp.of 1 1).some), .v (.int .i64 (Sp.of 1 1).lo), .v (.int .i64 (Sp.of 1 1).hi), .v (.bool (Cg.of 0 1).some), .v (.int .i64 (Cg.of 0 1).m), .v (.int .i64 (Cg.of 0 1).r), .v (.bool false), .lst 1 0 fun i => [st (atS [] i)], .v (.string ⟨#[103]⟩), .v (.int .i64 (-1)), .v (.bool false), .v (.slice none 0 0), .v (.bool (Sp.of 5 5).some), .v (.int .i64 (Sp.of 5 5).lo), .v (.int .i64 (Sp.of 5 5).hi), .v (.bool (Cg.of 0 5).some), .v (.int .i64 (Cg.of 0 5).m), .v (.int .i64 (Cg.of 0 5).r), .v (.bool false), .lst 1 0 fun i => [st (atS [] i)]] (0 + i))).take i) k) := by
 have h : SumPre (gD 2 fLv) [0, 0].sum := fitL_pre (by rw [gD_lv]; exact ⟨num_r rI1, num_r rI5, trivial⟩) (by decide)
 refine ⟨[0, 0].sum, by decide, fun i hi => ?_, fun i hi k => ?_⟩
 . exact h.1 i (by rw [gD_length]; exact hi)
 . exact h.2 i (by rw [gD_length]; exact hi) k
theorem rows_lv : RowsD 2 (fun i => Go.Sx.rowAt 12 [.v (.string ⟨#[103]⟩), .v (.int .i64 (-1)), .v (.bool false), .v (.slice none 0 0), .v (.bool (Sp.of 1 1).some), .v (.int .i64 (Sp.of 1 1).lo), .v (.int .i64 (Sp.of 1 1).hi), .v (.bool (Cg.of 0 1).some), .v (.int .i64 (Cg.of 0 1).m), .v (.int .i64 (Cg.of 0 1).r), .v (.bool false), .lst 1 0 fun i => [st (atS [] i)], .v (.string ⟨#[103]⟩), .v (.int .i64 (-1)), .v (.bool false), .v (.slice none 0 0), .v (.bool (Sp.of 5 5).some), .v (.int .i64 (Sp.of 5 5).lo), .v (.int .i64 (Sp.of 5 5).hi), .v (.bool (Cg.of 0 5).some), .v (.int .i64 (Cg.of 0 5).m), .v (.int .i64 (Cg.of 0 5).r), .v (.bool false), .lst 1 0 fun i => [st (atS [] i)]] (0 + i)) := ⟨fun i hi => by
 have : i = 0 \/ i = 1 := by omega
 have key : ∀ (n : Int), rI n -> rowOkD [st ⟨#[103]⟩, it (-1), bo false, .v (.slice none 0 0), bo (Sp.of n n).some, it (Sp.of n n).lo, it (Sp.of n n).hi, bo (Cg.of 0 n).some, it (Cg.of 0 n).m, it (Cg.of 0 n).r, bo false, .lst 1 0 fun i => [st (atS [] i)]] := fun n hn => by
  refine ⟨⟨rfl, fun j a b ha hb => ?_⟩, ⟨(show rI (-1) by unfold rI; decide), (num_r hn).l, (num_r hn).v, Nat.zero_le _⟩⟩
  match j with
  | 0 => cases ha; cases hb; exact .refl _
  | 1 => cases ha; cases hb; exact .refl _
  | 2 => cases ha; cases hb; exact .refl _
  | 3 => cases ha; cases hb; exact .nil
  | 4 => cases ha; cases hb; exact .refl _
  | 5 => cases ha; cases hb; exact .refl _
  | 6 => cases ha; cases hb; exact .refl _
  | 7 => cases ha; cases hb; exact .refl _
  | 8 => cases ha; cases hb; exact .refl _
  | 9 => cases ha; cases hb; exact .refl _
  | 10 => cases ha; cases hb; exact .refl _
  | 11 => cases ha; cases hb; exact .rows fun i hi => absurd hi (Nat.not_lt_zero i)
  | j + 12 => simp at ha
 rcases this with rfl | rfl
 . exact key 1 rI1
 . exact key 5 rI5⟩
def FCLives : List Ar -> Option Rs
 | [] => some ⟨True, .va (.c (.d (bo (true)))), []⟩
 | _ => none
theorem fcCLives : FC Tryz.prog 33 FCLives := by
 intro xs pre r us h hp
 unfold FCLives at h
 split at h
 . cases h
   refine fcat tys_ok (l := [(59, ⟨[], FVNum⟩), (28, ⟨[], FCSum⟩), (85, ⟨[], FVHasInt⟩)]) ⟨fcVNum, fcCSum, fcVHasInt, trivial⟩ Tryz.func33 rfl (by kernel_rfl) true ?_
   repeat' (first | exact trivial | ((with_reducible show ∃ _ : Nat, _); exact pre_lv) | refine ⟨?_, ?_⟩ | intro _)
   all_goals first | (with_reducible first | apply qa | apply qb | apply qc | apply qd) | (conv => whnf)
   all_goals (try simp only [sum_lv, atD_one, atD_one', wv_names, List.length_nil, List.length_cons, wv_h5, wv_h4] at *)
   all_goals first | omega | decide | exact rows_lv | exact Nat.zero_le _ | (intro h; exact absurd h (Nat.not_lt_zero _)) | (exact absurd ‹_ < 0› (Nat.not_lt_zero _)) | rfl | (exact absurd ‹true = false› (by decide)) | (exact absurd ‹(_ && _) = false› (by decide)) | (exact absurd ‹(_ == _) = false› (by decide)) | skip
   all_goals (exact absurd (kLv_eq.symm.trans ‹(_ && _) = false›) (by decide))
 . cases h
theorem Sv.narrow_b {a b : Sv} (h : Sv.leq b a = true) : Sv.leq b (Sv.narrow a b) = true /\ Sv.leq (Sv.narrow a b) a = true := by
 rw [Sv.narrow_is]
 have h1 := Sv.leq_and.1 h
 have e : En.leq b.e (En.narrow a.e b.e) = true /\ En.leq (En.narrow a.e b.e) a.e = true := by
  cases hb : b.e.live with
  | true => exact leqE_narrow h1.1 hb
  | false =>
    refine ⟨leqE_dead hb, leqE_dead ?_⟩
    rw [narrow_case]
    split
    . rw [if_neg (by rw [hb]; decide)]
    . show b.e.clean.live = false
      rw [clean_rclean]; exact hb
 exact ⟨Sv.leq_and.2 ⟨e.1, Vl.l3_narrow1 h1.2⟩, Sv.leq_and.2 ⟨e.2, Vl.l3_narrow2 _ _⟩⟩
theorem zero_none : Vl.none (⟨⟨⟨false, 0, 0⟩, ⟨false, 0, 0⟩⟩, ⟨false, gN 0 fun _ => []⟩⟩ : Vl) = true := by
 have h := (zero_clean)
 have yh2 : Vl.of Vl.zero = Vl.zero := Vl.of_fix Vl.zero_tidy
 show Vl.none Vl.zero = true
 unfold Vl.none; rw [yh2, show ofS Vl.zero.t.names = [] from ofS_nil]; rfl
def FCellLattice : List Ar -> Option Rs
 | [.agg [.d (.v (.bool e0)), .d (.lst 9 n0 f0), .d (.v (.bool s0)), .d (.v (.int .i64 l0)), .d (.v (.int .i64 h0)), .d (.v (.bool b0)), .d (.v (.int .i64 m0)), .d (.v (.int .i64 r0)), .d (.v (.bool z0)), .d (.lst 1 p0 g0)], .agg [.d (.v (.bool e1)), .d (.lst 9 n1 f1), .d (.v (.bool s1)), .d (.v (.int .i64 l1)), .d (.v (.int .i64 h1)), .d (.v (.bool b1)), .d (.v (.int .i64 m1)), .d (.v (.int .i64 r1)), .d (.v (.bool z1)), .d (.lst 1 p1 g1)], .agg [.d (.v (.bool e2)), .d (.lst 9 n2 f2), .d (.v (.bool s2)), .d (.v (.int .i64 l2)), .d (.v (.int .i64 h2)), .d (.v (.bool b2)), .d (.v (.int .i64 m2)), .d (.v (.int .i64 r2)), .d (.v (.bool z2)), .d (.lst 1 p2 g2)]] => some ⟨((n0 <= 1099511627776 /\ RowsOk n0 f0) /\ ((p0 * 16 <= 140737488351232 /\ ∀ i, i < p0 -> g0 i = [st (gT (g0 i))]) /\ Sp.inR ⟨s0, l0, h0⟩ /\ Cg.inR ⟨b0, m0, r0⟩)) /\ ((n1 <= 1099511627776 /\ RowsOk n1 f1) /\ ((p1 * 16 <= 140737488351232 /\ ∀ i, i < p1 -> g1 i = [st (gT (g1 i))]) /\ Sp.inR ⟨s1, l1, h1⟩ /\ Cg.inR ⟨b1, m1, r1⟩)) /\ ((n2 <= 1099511627776 /\ RowsOk n2 f2) /\ ((p2 * 16 <= 140737488351232 /\ ∀ i, i < p2 -> g2 i = [st (gT (g2 i))]) /\ Sp.inR ⟨s2, l2, h2⟩ /\ Cg.inR ⟨b2, m2, r2⟩)) /\ (∃ N, N <= 100000000 /\ Sv.fit N (⟨⟨e0, gBs n0 f0⟩, ⟨⟨⟨s0, l0, h0⟩, ⟨b0, m0, r0⟩⟩, ⟨z0, gN p0 g0⟩⟩⟩ : Sv) /\ Sv.fit N (⟨⟨e1, gBs n1 f1⟩, ⟨⟨⟨s1, l1, h1⟩, ⟨b1, m1, r1⟩⟩, ⟨z1, gN p1 g1⟩⟩⟩ : Sv) /\ Sv.fit N (⟨⟨e2, gBs n2 f2⟩, ⟨⟨⟨s2, l2, h2⟩, ⟨b2, m2, r2⟩⟩, ⟨z2, gN p2 g2⟩⟩⟩ : Sv)), .va (.c (.d (bo (true)))), []⟩
 | _ => none
theorem fcCellLattice : FC Tryz.prog 12 FCellLattice := by
 intro xs pre r us h hp
 unfold FCellLattice at h
 split at h
 . rename_i e0 n0 f0 s0 l0 h0 b0 m0 r0 z0 p0 g0 e1 n1 f1 s1 l1 h1 b1 m1 r1 z1 p1 g1 e2 n2 f2 s2 l2 h2 b2 m2 r2 z2 p2 g2
   cases h
   obtain ⟨hp0, hp1, hp2, hp3⟩ := hp
   refine FCat.deep (ys := [.agg [.d (.v (.bool e0)), .d (.lst 9 n0 (rwB (gBs n0 f0))), .d (.v (.bool s0)), .d (.v (.int .i64 l0)), .d (.v (.int .i64 h0)), .d (.v (.bool b0)), .d (.v (.int .i64 m0)), .d (.v (.int .i64 r0)), .d (.v (.bool z0)), .d (.lst 1 p0 fun i => [st (gT (g0 i))])], .agg [.d (.v (.bool e1)), .d (.lst 9 n1 (rwB (gBs n1 f1))), .d (.v (.bool s1)), .d (.v (.int .i64 l1)), .d (.v (.int .i64 h1)), .d (.v (.bool b1)), .d (.v (.int .i64 m1)), .d (.v (.int .i64 r1)), .d (.v (.bool z1)), .d (.lst 1 p1 fun i => [st (gT (g1 i))])], .agg [.d (.v (.bool e2)), .d (.lst 9 n2 (rwB (gBs n2 f2))), .d (.v (.bool s2)), .d (.v (.int .i64 l2)), .d (.v (.int .i64 h2)), .d (.v (.bool b2)), .d (.v (.int .i64 m2)), .d (.v (.int .i64 r2)), .d (.v (.bool z2)), .d (.lst 1 p2 fun i => [st (gT (g2 i))])]]) ?_ ?_
   . repeat' (first | exact trivial | exact rfl | exact DvE.refl _ | refine ⟨?_, ?_⟩ | fail)
     all_goals first | first | exact canonB hp0.1.2.h | (exact .rows fun i hi => by rw [hp0.2.1.2 i hi]; exact ⟨rfl, fun j a b ha hb => by have hb : [st (gT (g0 i))][j]? = some b := hb; rw [ha] at hb; cases hb; exact .refl _⟩) | exact canonB hp1.1.2.h | (exact .rows fun i hi => by rw [hp1.2.1.2 i hi]; exact ⟨rfl, fun j a b ha hb => by have hb : [st (gT (g1 i))][j]? = some b := hb; rw [ha] at hb; cases hb; exact .refl _⟩) | exact canonB hp2.1.2.h | (exact .rows fun i hi => by rw [hp2.2.1.2 i hi]; exact ⟨rfl, fun j a b ha hb => by have hb : [st (gT (g2 i))][j]? = some b := hb; rw [ha] at hb; cases hb; exact .refl _⟩)
   refine fcat tys_ok (l := [(40, ⟨[], FP zGG FTLeq⟩), (52, ⟨[], FTJoin⟩), (54, ⟨[], FTWiden⟩), (55, ⟨[], FTNarrow⟩), (51, ⟨[], FTSame⟩), (33, ⟨[], FCLives⟩)]) ⟨fc_nilp zGG fcTLeq, fcTJoin, fcTWiden, fcTNarrow, fcTSame, fcCLives, trivial⟩ Tryz.func12 rfl (by kernel_rfl) true ?_
   obtain ⟨N, hN, hfa, hfb, hfc⟩ := hp3
   have hlad : ∀ z, z ∈ (gL 1 (Go.Sx.rowAt 1 [DV.v (.int .i64 5)])) -> rI z := by
    intro z hz
    have hz : z ∈ [(5 : Int)] := hz
    rcases List.mem_cons.1 hz with rfl | h
    . unfold rI; decide
    . cases h
   have rows0 : RowsOk 0 fun _ => [] := ⟨fun i h => absurd h (Nat.not_lt_zero i)⟩
   have hA0 := hp0.1
   have hV0 := hp0.2
   have hvR0 := hV0.2
   simp only [Sp.inR, Cg.inR] at hvR0
   have hL0 := okL_rows hA0.2
   have hn0 := hA0.1
   have hlen0 := gBs_length n0 f0
   generalize gBs n0 f0 = L at *
   clear hA0 hp0
   subst hlen0
   have hrow0 := okL_row hL0
   have hvok0 : okV (⟨⟨⟨s0, l0, h0⟩, ⟨b0, m0, r0⟩⟩, ⟨z0, gN p0 fun i => [st (gT (g0 i))]⟩⟩ : Vl) := ⟨⟨(by rw [gN_length]; exact hV0.1.1), fun _ _ => rfl⟩, hV0.2⟩
   have hcr0 := okL_row (clean_ok (e := ⟨e0, L⟩) hL0)
   have hcl0 : (En.clean ⟨e0, L⟩).binds.length <= L.length := clean_len ⟨e0, L⟩
   have hA1 := hp1.1
   have hV1 := hp1.2
   have hvR1 := hV1.2
   simp only [Sp.inR, Cg.inR] at hvR1
   have hL1 := okL_rows hA1.2
   have hn1 := hA1.1
   have hlen1 := gBs_length n1 f1
   generalize gBs n1 f1 = M at *
   clear hA1 hp1
   subst hlen1
   have hrow1 := okL_row hL1
   have hvok1 : okV (⟨⟨⟨s1, l1, h1⟩, ⟨b1, m1, r1⟩⟩, ⟨z1, gN p1 fun i => [st (gT (g1 i))]⟩⟩ : Vl) := ⟨⟨(by rw [gN_length]; exact hV1.1.1), fun _ _ => rfl⟩, hV1.2⟩
   have hcr1 := okL_row (clean_ok (e := ⟨e1, M⟩) hL1)
   have hcl1 : (En.clean ⟨e1, M⟩).binds.length <= M.length := clean_len ⟨e1, M⟩
   have hA2 := hp2.1
   have hV2 := hp2.2
   have hvR2 := hV2.2
   simp only [Sp.inR, Cg.inR] at hvR2
   have hL2 := okL_rows hA2.2
   have hn2 := hA2.1
   have hlen2 := gBs_length n2 f2
   generalize gBs n2 f2 = P at *
   clear hA2 hp2
   subst hlen2
   have hrow2 := okL_row hL2
   have hvok2 : okV (⟨⟨⟨s2, l2, h2⟩, ⟨b2, m2, r2⟩⟩, ⟨z2, gN p2 fun i => [st (gT (g2 i))]⟩⟩ : Vl) := ⟨⟨(by rw [gN_length]; exact hV2.1.1), fun _ _ => rfl⟩, hV2.2⟩
   have hcr2 := okL_row (clean_ok (e := ⟨e2, P⟩) hL2)
   have hcl2 : (En.clean ⟨e2, P⟩).binds.length <= P.length := clean_len ⟨e2, P⟩
   have oS : Sv.fit (N) (⟨⟨e0, gBs L.length (rwB L)⟩, (⟨⟨⟨s0, l0, h0⟩, ⟨b0, m0, r0⟩⟩, ⟨z0, gN p0 fun i => [st (gT (g0 i))]⟩⟩ : Vl)⟩ : Sv) := by rw [gBs_row]; exact hfa
   have cS : ((L).length <= 1099511627776 /\ RowsOk (L).length (rwB L)) /\ ((p0 * 16 <= 140737488351232 /\ ∀ i, i < p0 -> [st (gT (g0 i))] = [st (gT [st (gT (g0 i))])]) /\ Sp.inR ⟨s0, l0, h0⟩ /\ Cg.inR ⟨b0, m0, r0⟩) := ⟨⟨hn0, hrow0⟩, ⟨⟨hV0.1.1, fun _ _ => rfl⟩, hV0.2⟩⟩
   have oU : Sv.fit (N) (⟨⟨e1, gBs M.length (rwB M)⟩, (⟨⟨⟨s1, l1, h1⟩, ⟨b1, m1, r1⟩⟩, ⟨z1, gN p1 fun i => [st (gT (g1 i))]⟩⟩ : Vl)⟩ : Sv) := by rw [gBs_row]; exact hfb
   have cU : ((M).length <= 1099511627776 /\ RowsOk (M).length (rwB M)) /\ ((p1 * 16 <= 140737488351232 /\ ∀ i, i < p1 -> [st (gT (g1 i))] = [st (gT [st (gT (g1 i))])]) /\ Sp.inR ⟨s1, l1, h1⟩ /\ Cg.inR ⟨b1, m1, r1⟩) := ⟨⟨hn1, hrow1⟩, ⟨⟨hV1.1.1, fun _ _ => rfl⟩, hV1.2⟩⟩
   have oV : Sv.fit (N) (⟨⟨e2, gBs P.length (rwB P)⟩, (⟨⟨⟨s2, l2, h2⟩, ⟨b2, m2, r2⟩⟩, ⟨z2, gN p2 fun i => [st (gT (g2 i))]⟩⟩ : Vl)⟩ : Sv) := by rw [gBs_row]; exact hfc
   have cV : ((P).length <= 1099511627776 /\ RowsOk (P).length (rwB P)) /\ ((p2 * 16 <= 140737488351232 /\ ∀ i, i < p2 -> [st (gT (g2 i))] = [st (gT [st (gT (g2 i))])]) /\ Sp.inR ⟨s2, l2, h2⟩ /\ Cg.inR ⟨b2, m2, r2⟩) := ⟨⟨hn2, hrow2⟩, ⟨⟨hV2.1.1, fun _ _ => rfl⟩, hV2.2⟩⟩
   have oJ : Sv.fit (N + N) (Sv.again ((Sv.join (⟨⟨e0, gBs L.length (rwB L)⟩, (⟨⟨⟨s0, l0, h0⟩, ⟨b0, m0, r0⟩⟩, ⟨z0, gN p0 fun i => [st (gT (g0 i))]⟩⟩ : Vl)⟩ : Sv) (⟨⟨e1, gBs M.length (rwB M)⟩, (⟨⟨⟨s1, l1, h1⟩, ⟨b1, m1, r1⟩⟩, ⟨z1, gN p1 fun i => [st (gT (g1 i))]⟩⟩ : Vl)⟩ : Sv)))) := (oS.join oU (by omega)).ag
   have cJ := Sv.fit.cond (s := (Sv.join (⟨⟨e0, gBs L.length (rwB L)⟩, (⟨⟨⟨s0, l0, h0⟩, ⟨b0, m0, r0⟩⟩, ⟨z0, gN p0 fun i => [st (gT (g0 i))]⟩⟩ : Vl)⟩ : Sv) (⟨⟨e1, gBs M.length (rwB M)⟩, (⟨⟨⟨s1, l1, h1⟩, ⟨b1, m1, r1⟩⟩, ⟨z1, gN p1 fun i => [st (gT (g1 i))]⟩⟩ : Vl)⟩ : Sv))) (by have := oJ; rw [Sv.again_eq] at this; exact this) (by omega)
   have oK : Sv.fit (N + N) (Sv.again ((Sv.join (⟨⟨e1, gBs M.length (rwB M)⟩, (⟨⟨⟨s1, l1, h1⟩, ⟨b1, m1, r1⟩⟩, ⟨z1, gN p1 fun i => [st (gT (g1 i))]⟩⟩ : Vl)⟩ : Sv) (⟨⟨e0, gBs L.length (rwB L)⟩, (⟨⟨⟨s0, l0, h0⟩, ⟨b0, m0, r0⟩⟩, ⟨z0, gN p0 fun i => [st (gT (g0 i))]⟩⟩ : Vl)⟩ : Sv)))) := (oU.join oS (by omega)).ag
   have cK := Sv.fit.cond (s := (Sv.join (⟨⟨e1, gBs M.length (rwB M)⟩, (⟨⟨⟨s1, l1, h1⟩, ⟨b1, m1, r1⟩⟩, ⟨z1, gN p1 fun i => [st (gT (g1 i))]⟩⟩ : Vl)⟩ : Sv) (⟨⟨e0, gBs L.length (rwB L)⟩, (⟨⟨⟨s0, l0, h0⟩, ⟨b0, m0, r0⟩⟩, ⟨z0, gN p0 fun i => [st (gT (g0 i))]⟩⟩ : Vl)⟩ : Sv))) (by have := oK; rw [Sv.again_eq] at this; exact this) (by omega)
   have oW : Sv.fit (N + N) (Sv.again ((Sv.widen (⟨⟨e0, gBs L.length (rwB L)⟩, (⟨⟨⟨s0, l0, h0⟩, ⟨b0, m0, r0⟩⟩, ⟨z0, gN p0 fun i => [st (gT (g0 i))]⟩⟩ : Vl)⟩ : Sv) (⟨⟨e1, gBs M.length (rwB M)⟩, (⟨⟨⟨s1, l1, h1⟩, ⟨b1, m1, r1⟩⟩, ⟨z1, gN p1 fun i => [st (gT (g1 i))]⟩⟩ : Vl)⟩ : Sv) (gL 1 (Go.Sx.rowAt 1 [DV.v (.int .i64 5)]))))) := (oS.widen oU (by omega) hlad).ag
   have cW := Sv.fit.cond (s := (Sv.widen (⟨⟨e0, gBs L.length (rwB L)⟩, (⟨⟨⟨s0, l0, h0⟩, ⟨b0, m0, r0⟩⟩, ⟨z0, gN p0 fun i => [st (gT (g0 i))]⟩⟩ : Vl)⟩ : Sv) (⟨⟨e1, gBs M.length (rwB M)⟩, (⟨⟨⟨s1, l1, h1⟩, ⟨b1, m1, r1⟩⟩, ⟨z1, gN p1 fun i => [st (gT (g1 i))]⟩⟩ : Vl)⟩ : Sv) (gL 1 (Go.Sx.rowAt 1 [DV.v (.int .i64 5)])))) (by have := oW; rw [Sv.again_eq] at this; exact this) (by omega)
   have oQ : Sv.fit (N + N + N) (Sv.again ((Sv.narrow (Sv.again ((Sv.join (⟨⟨e0, gBs L.length (rwB L)⟩, (⟨⟨⟨s0, l0, h0⟩, ⟨b0, m0, r0⟩⟩, ⟨z0, gN p0 fun i => [st (gT (g0 i))]⟩⟩ : Vl)⟩ : Sv) (⟨⟨e1, gBs M.length (rwB M)⟩, (⟨⟨⟨s1, l1, h1⟩, ⟨b1, m1, r1⟩⟩, ⟨z1, gN p1 fun i => [st (gT (g1 i))]⟩⟩ : Vl)⟩ : Sv)))) (⟨⟨e0, gBs L.length (rwB L)⟩, (⟨⟨⟨s0, l0, h0⟩, ⟨b0, m0, r0⟩⟩, ⟨z0, gN p0 fun i => [st (gT (g0 i))]⟩⟩ : Vl)⟩ : Sv)))) := (oJ.narrow oS).ag
   have cQ := Sv.fit.cond (s := (Sv.narrow (Sv.again ((Sv.join (⟨⟨e0, gBs L.length (rwB L)⟩, (⟨⟨⟨s0, l0, h0⟩, ⟨b0, m0, r0⟩⟩, ⟨z0, gN p0 fun i => [st (gT (g0 i))]⟩⟩ : Vl)⟩ : Sv) (⟨⟨e1, gBs M.length (rwB M)⟩, (⟨⟨⟨s1, l1, h1⟩, ⟨b1, m1, r1⟩⟩, ⟨z1, gN p1 fun i => [st (gT (g1 i))]⟩⟩ : Vl)⟩ : Sv)))) (⟨⟨e0, gBs L.length (rwB L)⟩, (⟨⟨⟨s0, l0, h0⟩, ⟨b0, m0, r0⟩⟩, ⟨z0, gN p0 fun i => [st (gT (g0 i))]⟩⟩ : Vl)⟩ : Sv))) (by have := oQ; rw [Sv.again_eq] at this; exact this) (by omega)
   have pSU := Sv.fit.pair oS oU (by omega)
   have qSU : L.length + M.length <= 1099511627776 := by have := pSU.s; simpa only [gBs_length] using this
   have pUS := Sv.fit.pair oU oS (by omega)
   have qUS : M.length + L.length <= 1099511627776 := by have := pUS.s; simpa only [gBs_length] using this
   have pJS := Sv.fit.pair oJ oS (by omega)
   have qJS : (Sv.join (⟨⟨e0, gBs L.length (rwB L)⟩, (⟨⟨⟨s0, l0, h0⟩, ⟨b0, m0, r0⟩⟩, ⟨z0, gN p0 fun i => [st (gT (g0 i))]⟩⟩ : Vl)⟩ : Sv) (⟨⟨e1, gBs M.length (rwB M)⟩, (⟨⟨⟨s1, l1, h1⟩, ⟨b1, m1, r1⟩⟩, ⟨z1, gN p1 fun i => [st (gT (g1 i))]⟩⟩ : Vl)⟩ : Sv)).e.binds.length + L.length <= 1099511627776 := by have := pJS.s; simpa only [gBs_length] using this
   have yh1 : (!Sv.leq (⟨⟨e0, gBs L.length (rwB L)⟩, (⟨⟨⟨s0, l0, h0⟩, ⟨b0, m0, r0⟩⟩, ⟨z0, gN p0 fun i => [st (gT (g0 i))]⟩⟩ : Vl)⟩ : Sv) (Sv.again ((Sv.join (⟨⟨e0, gBs L.length (rwB L)⟩, (⟨⟨⟨s0, l0, h0⟩, ⟨b0, m0, r0⟩⟩, ⟨z0, gN p0 fun i => [st (gT (g0 i))]⟩⟩ : Vl)⟩ : Sv) (⟨⟨e1, gBs M.length (rwB M)⟩, (⟨⟨⟨s1, l1, h1⟩, ⟨b1, m1, r1⟩⟩, ⟨z1, gN p1 fun i => [st (gT (g1 i))]⟩⟩ : Vl)⟩ : Sv))))) = false := by rw [Sv.again_eq, Sv.leq_join1]; rfl
   have yh2 : (!Sv.leq (⟨⟨e1, gBs M.length (rwB M)⟩, (⟨⟨⟨s1, l1, h1⟩, ⟨b1, m1, r1⟩⟩, ⟨z1, gN p1 fun i => [st (gT (g1 i))]⟩⟩ : Vl)⟩ : Sv) (Sv.again ((Sv.join (⟨⟨e0, gBs L.length (rwB L)⟩, (⟨⟨⟨s0, l0, h0⟩, ⟨b0, m0, r0⟩⟩, ⟨z0, gN p0 fun i => [st (gT (g0 i))]⟩⟩ : Vl)⟩ : Sv) (⟨⟨e1, gBs M.length (rwB M)⟩, (⟨⟨⟨s1, l1, h1⟩, ⟨b1, m1, r1⟩⟩, ⟨z1, gN p1 fun i => [st (gT (g1 i))]⟩⟩ : Vl)⟩ : Sv))))) = false := by rw [Sv.again_eq, Sv.leq_join2]; rfl
   have yh3 : (!Sv.leq (Sv.again ((Sv.join (⟨⟨e0, gBs L.length (rwB L)⟩, (⟨⟨⟨s0, l0, h0⟩, ⟨b0, m0, r0⟩⟩, ⟨z0, gN p0 fun i => [st (gT (g0 i))]⟩⟩ : Vl)⟩ : Sv) (⟨⟨e1, gBs M.length (rwB M)⟩, (⟨⟨⟨s1, l1, h1⟩, ⟨b1, m1, r1⟩⟩, ⟨z1, gN p1 fun i => [st (gT (g1 i))]⟩⟩ : Vl)⟩ : Sv)))) (Sv.again ((Sv.widen (⟨⟨e0, gBs L.length (rwB L)⟩, (⟨⟨⟨s0, l0, h0⟩, ⟨b0, m0, r0⟩⟩, ⟨z0, gN p0 fun i => [st (gT (g0 i))]⟩⟩ : Vl)⟩ : Sv) (⟨⟨e1, gBs M.length (rwB M)⟩, (⟨⟨⟨s1, l1, h1⟩, ⟨b1, m1, r1⟩⟩, ⟨z1, gN p1 fun i => [st (gT (g1 i))]⟩⟩ : Vl)⟩ : Sv) (gL 1 (Go.Sx.rowAt 1 [DV.v (.int .i64 5)])))))) = false := by rw [Sv.again_eq, Sv.again_eq, Sv.leq_widen oU.inRE oU.inR]; rfl
   have yh4 := Sv.narrow_b (a := (Sv.again ((Sv.join (⟨⟨e0, gBs L.length (rwB L)⟩, (⟨⟨⟨s0, l0, h0⟩, ⟨b0, m0, r0⟩⟩, ⟨z0, gN p0 fun i => [st (gT (g0 i))]⟩⟩ : Vl)⟩ : Sv) (⟨⟨e1, gBs M.length (rwB M)⟩, (⟨⟨⟨s1, l1, h1⟩, ⟨b1, m1, r1⟩⟩, ⟨z1, gN p1 fun i => [st (gT (g1 i))]⟩⟩ : Vl)⟩ : Sv))))) (b := (⟨⟨e0, gBs L.length (rwB L)⟩, (⟨⟨⟨s0, l0, h0⟩, ⟨b0, m0, r0⟩⟩, ⟨z0, gN p0 fun i => [st (gT (g0 i))]⟩⟩ : Vl)⟩ : Sv)) (by rw [Sv.again_eq]; exact Sv.leq_join1 _ _)
   have yh5 : (!Sv.leq (⟨⟨e0, gBs L.length (rwB L)⟩, (⟨⟨⟨s0, l0, h0⟩, ⟨b0, m0, r0⟩⟩, ⟨z0, gN p0 fun i => [st (gT (g0 i))]⟩⟩ : Vl)⟩ : Sv) (Sv.again ((Sv.narrow (Sv.again ((Sv.join (⟨⟨e0, gBs L.length (rwB L)⟩, (⟨⟨⟨s0, l0, h0⟩, ⟨b0, m0, r0⟩⟩, ⟨z0, gN p0 fun i => [st (gT (g0 i))]⟩⟩ : Vl)⟩ : Sv) (⟨⟨e1, gBs M.length (rwB M)⟩, (⟨⟨⟨s1, l1, h1⟩, ⟨b1, m1, r1⟩⟩, ⟨z1, gN p1 fun i => [st (gT (g1 i))]⟩⟩ : Vl)⟩ : Sv)))) (⟨⟨e0, gBs L.length (rwB L)⟩, (⟨⟨⟨s0, l0, h0⟩, ⟨b0, m0, r0⟩⟩, ⟨z0, gN p0 fun i => [st (gT (g0 i))]⟩⟩ : Vl)⟩ : Sv))))) = false := by rw [Sv.again_eq (Sv.narrow _ _), yh4.1]; rfl
   have yh6 : (!Sv.leq (Sv.again ((Sv.narrow (Sv.again ((Sv.join (⟨⟨e0, gBs L.length (rwB L)⟩, (⟨⟨⟨s0, l0, h0⟩, ⟨b0, m0, r0⟩⟩, ⟨z0, gN p0 fun i => [st (gT (g0 i))]⟩⟩ : Vl)⟩ : Sv) (⟨⟨e1, gBs M.length (rwB M)⟩, (⟨⟨⟨s1, l1, h1⟩, ⟨b1, m1, r1⟩⟩, ⟨z1, gN p1 fun i => [st (gT (g1 i))]⟩⟩ : Vl)⟩ : Sv)))) (⟨⟨e0, gBs L.length (rwB L)⟩, (⟨⟨⟨s0, l0, h0⟩, ⟨b0, m0, r0⟩⟩, ⟨z0, gN p0 fun i => [st (gT (g0 i))]⟩⟩ : Vl)⟩ : Sv)))) (Sv.again ((Sv.join (⟨⟨e0, gBs L.length (rwB L)⟩, (⟨⟨⟨s0, l0, h0⟩, ⟨b0, m0, r0⟩⟩, ⟨z0, gN p0 fun i => [st (gT (g0 i))]⟩⟩ : Vl)⟩ : Sv) (⟨⟨e1, gBs M.length (rwB M)⟩, (⟨⟨⟨s1, l1, h1⟩, ⟨b1, m1, r1⟩⟩, ⟨z1, gN p1 fun i => [st (gT (g1 i))]⟩⟩ : Vl)⟩ : Sv))))) = false := by rw [Sv.again_eq (Sv.narrow _ _), yh4.2]; rfl
   have yh7 : Sv.same (Sv.again ((Sv.join (⟨⟨e0, gBs L.length (rwB L)⟩, (⟨⟨⟨s0, l0, h0⟩, ⟨b0, m0, r0⟩⟩, ⟨z0, gN p0 fun i => [st (gT (g0 i))]⟩⟩ : Vl)⟩ : Sv) (⟨⟨e1, gBs M.length (rwB M)⟩, (⟨⟨⟨s1, l1, h1⟩, ⟨b1, m1, r1⟩⟩, ⟨z1, gN p1 fun i => [st (gT (g1 i))]⟩⟩ : Vl)⟩ : Sv)))) (Sv.again ((Sv.join (⟨⟨e1, gBs M.length (rwB M)⟩, (⟨⟨⟨s1, l1, h1⟩, ⟨b1, m1, r1⟩⟩, ⟨z1, gN p1 fun i => [st (gT (g1 i))]⟩⟩ : Vl)⟩ : Sv) (⟨⟨e0, gBs L.length (rwB L)⟩, (⟨⟨⟨s0, l0, h0⟩, ⟨b0, m0, r0⟩⟩, ⟨z0, gN p0 fun i => [st (gT (g0 i))]⟩⟩ : Vl)⟩ : Sv)))) = true := by rw [Sv.again_eq, Sv.again_eq, Sv.join_comm (⟨⟨e1, gBs M.length (rwB M)⟩, (⟨⟨⟨s1, l1, h1⟩, ⟨b1, m1, r1⟩⟩, ⟨z1, gN p1 fun i => [st (gT (g1 i))]⟩⟩ : Vl)⟩ : Sv) (⟨⟨e0, gBs L.length (rwB L)⟩, (⟨⟨⟨s0, l0, h0⟩, ⟨b0, m0, r0⟩⟩, ⟨z0, gN p0 fun i => [st (gT (g0 i))]⟩⟩ : Vl)⟩ : Sv)]; unfold Sv.same; rw [Sv.leq_refl]; rfl
   have yh8 : Sv.leq (⟨⟨e0, gBs L.length (rwB L)⟩, (⟨⟨⟨s0, l0, h0⟩, ⟨b0, m0, r0⟩⟩, ⟨z0, gN p0 fun i => [st (gT (g0 i))]⟩⟩ : Vl)⟩ : Sv) (⟨⟨e0, gBs L.length (rwB L)⟩, (⟨⟨⟨s0, l0, h0⟩, ⟨b0, m0, r0⟩⟩, ⟨z0, gN p0 fun i => [st (gT (g0 i))]⟩⟩ : Vl)⟩ : Sv) = true := Sv.leq_refl _
   have yh9 : Sv.leq (⟨⟨false, gBs 0 fun _ => []⟩, ⟨⟨⟨false, 0, 0⟩, ⟨false, 0, 0⟩⟩, ⟨false, gN 0 fun _ => []⟩⟩⟩ : Sv) (⟨⟨e0, gBs L.length (rwB L)⟩, (⟨⟨⟨s0, l0, h0⟩, ⟨b0, m0, r0⟩⟩, ⟨z0, gN p0 fun i => [st (gT (g0 i))]⟩⟩ : Vl)⟩ : Sv) = true := Sv.leq_dead rfl (Vl.none_leq zero_none _)
   have yh10 : Sv.leq (⟨⟨e0, gBs L.length (rwB L)⟩, (⟨⟨⟨s0, l0, h0⟩, ⟨b0, m0, r0⟩⟩, ⟨z0, gN p0 fun i => [st (gT (g0 i))]⟩⟩ : Vl)⟩ : Sv) (⟨⟨e1, gBs M.length (rwB M)⟩, (⟨⟨⟨s1, l1, h1⟩, ⟨b1, m1, r1⟩⟩, ⟨z1, gN p1 fun i => [st (gT (g1 i))]⟩⟩ : Vl)⟩ : Sv) = true -> Sv.leq (⟨⟨e1, gBs M.length (rwB M)⟩, (⟨⟨⟨s1, l1, h1⟩, ⟨b1, m1, r1⟩⟩, ⟨z1, gN p1 fun i => [st (gT (g1 i))]⟩⟩ : Vl)⟩ : Sv) (⟨⟨e2, gBs P.length (rwB P)⟩, (⟨⟨⟨s2, l2, h2⟩, ⟨b2, m2, r2⟩⟩, ⟨z2, gN p2 fun i => [st (gT (g2 i))]⟩⟩ : Vl)⟩ : Sv) = true -> (!Sv.leq (⟨⟨e0, gBs L.length (rwB L)⟩, (⟨⟨⟨s0, l0, h0⟩, ⟨b0, m0, r0⟩⟩, ⟨z0, gN p0 fun i => [st (gT (g0 i))]⟩⟩ : Vl)⟩ : Sv) (⟨⟨e2, gBs P.length (rwB P)⟩, (⟨⟨⟨s2, l2, h2⟩, ⟨b2, m2, r2⟩⟩, ⟨z2, gN p2 fun i => [st (gT (g2 i))]⟩⟩ : Vl)⟩ : Sv)) = false := fun a b => by rw [Sv.leq_trans a b]; rfl
   clear yh4
   cases yh11 : Sv.leq (⟨⟨e0, gBs L.length (rwB L)⟩, (⟨⟨⟨s0, l0, h0⟩, ⟨b0, m0, r0⟩⟩, ⟨z0, gN p0 fun i => [st (gT (g0 i))]⟩⟩ : Vl)⟩ : Sv) (⟨⟨e1, gBs M.length (rwB M)⟩, (⟨⟨⟨s1, l1, h1⟩, ⟨b1, m1, r1⟩⟩, ⟨z1, gN p1 fun i => [st (gT (g1 i))]⟩⟩ : Vl)⟩ : Sv) with
   | false =>
      repeat' (first | exact trivial | (with_reducible first | exact (fun h => absurd (yh1.symm.trans h) (by decide)) | exact (fun h => absurd (yh2.symm.trans h) (by decide)) | exact (fun h => absurd (yh3.symm.trans h) (by decide)) | exact (fun h => absurd (yh5.symm.trans h) (by decide)) | exact (fun h => absurd (yh6.symm.trans h) (by decide)) | exact (fun h => absurd (yh7.symm.trans h) (by decide)) | exact (fun h => absurd (yh8.symm.trans h) (by decide)) | exact (fun h => absurd (yh9.symm.trans h) (by decide)) | exact (fun h => absurd (yh11.symm.trans h) (by decide)) | exact (fun h => absurd (h : true = false) (by decide)) | exact cS | exact cU | exact cV | exact cJ | exact cK | exact cW | exact cQ | exact pSU.r | exact pSU.q | exact qSU | exact pUS.r | exact pUS.q | exact qUS | exact pJS.r | exact pJS.q | exact qJS | exact rows0) | refine ⟨?_, ?_⟩ | intro _)
      all_goals first | (with_reducible first | apply qa | apply qb | apply qc | apply qd) | (conv => whnf)
      all_goals first | exact hrow0 | exact hn0 | exact hV0.1.1 | exact hvR0.1.1 | exact hvR0.1.2 | exact hvR0.2.1 | exact hvR0.2.2 | exact hcr0 | exact hrow1 | exact hn1 | exact hV1.1.1 | exact hvR1.1.1 | exact hvR1.1.2 | exact hvR1.2.1 | exact hvR1.2.2 | exact hcr1 | exact hrow2 | exact hn2 | exact hV2.1.1 | exact hvR2.1.1 | exact hvR2.1.2 | exact hvR2.2.1 | exact hvR2.2.2 | exact hcr2 | omega | (obtain rfl := Nat.lt_one_iff.1 ‹_ < 1›; first | rfl | decide) | (intro i hi; rfl) | rfl | exact rows0 | decide | (exact absurd ‹true = false› (by decide)) | (intro h; exact absurd h (Nat.not_lt_zero _)) | exact Nat.zero_le _
   | true =>
     cases yh12 : Sv.leq (⟨⟨e1, gBs M.length (rwB M)⟩, (⟨⟨⟨s1, l1, h1⟩, ⟨b1, m1, r1⟩⟩, ⟨z1, gN p1 fun i => [st (gT (g1 i))]⟩⟩ : Vl)⟩ : Sv) (⟨⟨e2, gBs P.length (rwB P)⟩, (⟨⟨⟨s2, l2, h2⟩, ⟨b2, m2, r2⟩⟩, ⟨z2, gN p2 fun i => [st (gT (g2 i))]⟩⟩ : Vl)⟩ : Sv) with
     | false =>
       repeat' (first | exact trivial | (with_reducible first | exact (fun h => absurd (yh1.symm.trans h) (by decide)) | exact (fun h => absurd (yh2.symm.trans h) (by decide)) | exact (fun h => absurd (yh3.symm.trans h) (by decide)) | exact (fun h => absurd (yh5.symm.trans h) (by decide)) | exact (fun h => absurd (yh6.symm.trans h) (by decide)) | exact (fun h => absurd (yh7.symm.trans h) (by decide)) | exact (fun h => absurd (yh8.symm.trans h) (by decide)) | exact (fun h => absurd (yh9.symm.trans h) (by decide)) | exact (fun h => absurd (yh11.symm.trans h) (by decide)) | exact (fun h => absurd (yh12.symm.trans h) (by decide)) | exact (fun h => absurd (h : true = false) (by decide)) | exact cS | exact cU | exact cV | exact cJ | exact cK | exact cW | exact cQ | exact pSU.r | exact pSU.q | exact qSU | exact pUS.r | exact pUS.q | exact qUS | exact pJS.r | exact pJS.q | exact qJS | exact rows0) | refine ⟨?_, ?_⟩ | intro _)
       all_goals first | (with_reducible first | apply qa | apply qb | apply qc | apply qd) | (conv => whnf)
       all_goals first | exact hrow0 | exact hn0 | exact hV0.1.1 | exact hvR0.1.1 | exact hvR0.1.2 | exact hvR0.2.1 | exact hvR0.2.2 | exact hcr0 | exact hrow1 | exact hn1 | exact hV1.1.1 | exact hvR1.1.1 | exact hvR1.1.2 | exact hvR1.2.1 | exact hvR1.2.2 | exact hcr1 | exact hrow2 | exact hn2 | exact hV2.1.1 | exact hvR2.1.1 | exact hvR2.1.2 | exact hvR2.2.1 | exact hvR2.2.2 | exact hcr2 | omega | (obtain rfl := Nat.lt_one_iff.1 ‹_ < 1›; first | rfl | decide) | (intro i hi; rfl) | rfl | exact rows0 | decide | (exact absurd ‹true = false› (by decide)) | (intro h; exact absurd h (Nat.not_lt_zero _)) | exact Nat.zero_le _
     | true =>
       have yh13 := yh10 yh11 yh12
       repeat' (first | exact trivial | (with_reducible first | exact (fun h => absurd (yh1.symm.trans h) (by decide)) | exact (fun h => absurd (yh2.symm.trans h) (by decide)) | exact (fun h => absurd (yh3.symm.trans h) (by decide)) | exact (fun h => absurd (yh5.symm.trans h) (by decide)) | exact (fun h => absurd (yh6.symm.trans h) (by decide)) | exact (fun h => absurd (yh7.symm.trans h) (by decide)) | exact (fun h => absurd (yh8.symm.trans h) (by decide)) | exact (fun h => absurd (yh9.symm.trans h) (by decide)) | exact (fun h => absurd (yh11.symm.trans h) (by decide)) | exact (fun h => absurd (yh12.symm.trans h) (by decide)) | exact (fun h => absurd (yh13.symm.trans h) (by decide)) | exact (fun h => absurd (h : true = false) (by decide)) | exact cS | exact cU | exact cV | exact cJ | exact cK | exact cW | exact cQ | exact pSU.r | exact pSU.q | exact qSU | exact pUS.r | exact pUS.q | exact qUS | exact pJS.r | exact pJS.q | exact qJS | exact rows0) | refine ⟨?_, ?_⟩ | intro _)
       all_goals first | (with_reducible first | apply qa | apply qb | apply qc | apply qd) | (conv => whnf)
       all_goals first | exact hrow0 | exact hn0 | exact hV0.1.1 | exact hvR0.1.1 | exact hvR0.1.2 | exact hvR0.2.1 | exact hvR0.2.2 | exact hcr0 | exact hrow1 | exact hn1 | exact hV1.1.1 | exact hvR1.1.1 | exact hvR1.1.2 | exact hvR1.2.1 | exact hvR1.2.2 | exact hcr1 | exact hrow2 | exact hn2 | exact hV2.1.1 | exact hvR2.1.1 | exact hvR2.1.2 | exact hvR2.2.1 | exact hvR2.2.2 | exact hcr2 | omega | (obtain rfl := Nat.lt_one_iff.1 ‹_ < 1›; first | rfl | decide) | (intro i hi; rfl) | rfl | exact rows0 | decide | (exact absurd ‹true = false› (by decide)) | (intro h; exact absurd h (Nat.not_lt_zero _)) | exact Nat.zero_le _
 . cases h
end Go.Proofs.YthkknkhpfffnbaaGreat
