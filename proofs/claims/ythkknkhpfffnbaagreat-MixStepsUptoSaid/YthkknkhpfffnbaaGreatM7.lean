/- One step of a mixed run. No condition. -/
import Derived.Test.YthkknkhpfffnbaaGreatM6
set_option linter.all false
set_option maxHeartbeats 8000000
set_option maxRecDepth 100000
namespace Go.Proofs.YthkknkhpfffnbaaGreat
open Go.Sx
def stepM (t : Tn) (a b : Sv) (l : List Int) : Tn × Sv :=
 if Sv.leq b.clean a.clean = true then
  (if (Sv.leq a.clean b.clean || decide (t.t ≥ 2)) = true then (t, a.clean) else (⟨t.j, true, t.t⟩, Sv.narrow a.clean b.clean))
 else if t.early = true then (t.up, Sv.join a.clean b.clean) else (t.up, Sv.widen a.clean (Sv.join a.clean b.clean) l)
def FMStep : List Ar -> Option Rs
 | [.agg [.d (.v (.int .i64 j0)), .d (.v (.bool d0)), .d (.v (.int .i64 t0))], .agg [.d (.v (.bool e1)), .d (.lst 9 n1 f1), .d (.v (.bool s1)), .d (.v (.int .i64 l1)), .d (.v (.int .i64 h1)), .d (.v (.bool b1)), .d (.v (.int .i64 m1)), .d (.v (.int .i64 r1)), .d (.v (.bool z1)), .d (.lst 1 p1 g1)], .agg [.d (.v (.bool e2)), .d (.lst 9 n2 f2), .d (.v (.bool s2)), .d (.v (.int .i64 l2)), .d (.v (.int .i64 h2)), .d (.v (.bool b2)), .d (.v (.int .i64 m2)), .d (.v (.int .i64 r2)), .d (.v (.bool z2)), .d (.lst 1 p2 g2)], .c (.d (.lst 1 n3 f3))] => some ⟨(rI j0 /\ rI t0) /\ ((n1 <= 1099511627776 /\ RowsOk n1 f1) /\ ((p1 * 16 <= 140737488351232 /\ ∀ i, i < p1 -> g1 i = [st (gT (g1 i))]) /\ Sp.inR ⟨s1, l1, h1⟩ /\ Cg.inR ⟨b1, m1, r1⟩)) /\ ((n2 <= 1099511627776 /\ RowsOk n2 f2) /\ ((p2 * 16 <= 140737488351232 /\ ∀ i, i < p2 -> g2 i = [st (gT (g2 i))]) /\ Sp.inR ⟨s2, l2, h2⟩ /\ Cg.inR ⟨b2, m2, r2⟩)) /\ (n3 <= 9223372036854775807 /\ ∀ i, i < n3 -> f3 i = [it (gI (f3 i))] /\ rI (gI (f3 i))) /\ (∃ N, N <= 1000000000 /\ Sv.fit N (⟨⟨e1, gBs n1 f1⟩, ⟨⟨⟨s1, l1, h1⟩, ⟨b1, m1, r1⟩⟩, ⟨z1, gN p1 g1⟩⟩⟩ : Sv) /\ Sv.fit N (⟨⟨e2, gBs n2 f2⟩, ⟨⟨⟨s2, l2, h2⟩, ⟨b2, m2, r2⟩⟩, ⟨z2, gN p2 g2⟩⟩⟩ : Sv)), .tup [Tn.ar (stepM (⟨j0, d0, t0⟩ : Tn) (⟨⟨e1, gBs n1 f1⟩, ⟨⟨⟨s1, l1, h1⟩, ⟨b1, m1, r1⟩⟩, ⟨z1, gN p1 g1⟩⟩⟩ : Sv) (⟨⟨e2, gBs n2 f2⟩, ⟨⟨⟨s2, l2, h2⟩, ⟨b2, m2, r2⟩⟩, ⟨z2, gN p2 g2⟩⟩⟩ : Sv) (gL n3 f3)).1, Sv.ar (stepM (⟨j0, d0, t0⟩ : Tn) (⟨⟨e1, gBs n1 f1⟩, ⟨⟨⟨s1, l1, h1⟩, ⟨b1, m1, r1⟩⟩, ⟨z1, gN p1 g1⟩⟩⟩ : Sv) (⟨⟨e2, gBs n2 f2⟩, ⟨⟨⟨s2, l2, h2⟩, ⟨b2, m2, r2⟩⟩, ⟨z2, gN p2 g2⟩⟩⟩ : Sv) (gL n3 f3)).2], []⟩
 | _ => none
abbrev pl7M : Plan := .all [(0, .all [(1, .all [(2, .all [(3, .done)])]), (2, .all [(1, .all [(3, .done)])])]), (1, .all [(0, .all [(2, .all [(3, .done)])])])]
abbrev sl8M : List (Nat × Sm) := [(48, ⟨[], FTClean⟩), (40, ⟨[], FTLeq⟩), (55, ⟨[], FTNarrow⟩), (90, ⟨[], FTUp⟩), (52, ⟨[], FTJoin⟩), (54, ⟨[], FTWiden⟩)]
theorem sp8M : sumsOk Tryz.prog sl8M := ⟨fcTClean, fcTLeq, fcTNarrow, fcTUp, fcTJoin, fcTWiden, trivial⟩
theorem fcMStep : FC Tryz.prog 37 FMStep := by
 intro xs pre r us h hp
 unfold FMStep at h
 split at h
 . rename_i j0 d0 t0 e1 n1 f1 s1 l1 h1 b1 m1 r1 z1 p1 g1 e2 n2 f2 s2 l2 h2 b2 m2 r2 z2 p2 g2 n3 f3
   cases h
   obtain ⟨hp0, hp1, hp2, hp3, hp4⟩ := hp
   refine FCat.deep (ys := [.agg [.d (.v (.int .i64 j0)), .d (.v (.bool d0)), .d (.v (.int .i64 t0))], .agg [.d (.v (.bool e1)), .d (.lst 9 n1 (rwB (gBs n1 f1))), .d (.v (.bool s1)), .d (.v (.int .i64 l1)), .d (.v (.int .i64 h1)), .d (.v (.bool b1)), .d (.v (.int .i64 m1)), .d (.v (.int .i64 r1)), .d (.v (.bool z1)), .d (.lst 1 p1 fun i => [st (gT (g1 i))])], .agg [.d (.v (.bool e2)), .d (.lst 9 n2 (rwB (gBs n2 f2))), .d (.v (.bool s2)), .d (.v (.int .i64 l2)), .d (.v (.int .i64 h2)), .d (.v (.bool b2)), .d (.v (.int .i64 m2)), .d (.v (.int .i64 r2)), .d (.v (.bool z2)), .d (.lst 1 p2 fun i => [st (gT (g2 i))])], .c (.d (.lst 1 n3 fun i => [it (gI (f3 i))]))]) ?_ ?_
   . repeat' (first | exact trivial | exact rfl | exact DvE.refl _ | refine ⟨?_, ?_⟩ | fail)
     all_goals first | first | exact canonB hp1.1.2.h | (exact .rows fun i hi => by rw [hp1.2.1.2 i hi]; exact ⟨rfl, fun j a b ha hb => by have hb : [st (gT (g1 i))][j]? = some b := hb; rw [ha] at hb; cases hb; exact .refl _⟩) | exact canonB hp2.1.2.h | (exact .rows fun i hi => by rw [hp2.2.1.2 i hi]; exact ⟨rfl, fun j a b ha hb => by have hb : [st (gT (g2 i))][j]? = some b := hb; rw [ha] at hb; cases hb; exact .refl _⟩) | (exact .rows fun i hi => by rw [(hp3.2 i hi).1]; exact ⟨rfl, fun j a b ha hb => by have hb : [it (gI (f3 i))][j]? = some b := hb; rw [ha] at hb; cases hb; exact .refl _⟩)
   refine fcat tys_ok (l := sl8M) sp8M Tryz.func37 rfl (by kernel_rfl) true ?_
   obtain ⟨N, hN, hfa, hfb⟩ := hp4
   unfold rI at hp0
   have hA1 := hp1.1
   have hV1 := hp1.2
   have hvR1 := hV1.2
   simp only [Sp.inR, Cg.inR] at hvR1
   have hL1 := okL_rows hA1.2
   have hn1 := hA1.1
   have hlen1 := gBs_length n1 f1
   generalize gBs n1 f1 = L at *
   clear hA1 hp1
   subst hlen1
   have hrow1 := okL_row hL1
   have hvok1 : okV (⟨⟨⟨s1, l1, h1⟩, ⟨b1, m1, r1⟩⟩, ⟨z1, gN p1 fun i => [st (gT (g1 i))]⟩⟩ : Vl) := ⟨⟨(by rw [gN_length]; exact hV1.1.1), fun _ _ => rfl⟩, hV1.2⟩
   have hcr1 := okL_row (clean_ok (e := ⟨e1, L⟩) hL1)
   have hcl1 : (En.clean ⟨e1, L⟩).binds.length <= L.length := clean_len ⟨e1, L⟩
   have hA2 := hp2.1
   have hV2 := hp2.2
   have hvR2 := hV2.2
   simp only [Sp.inR, Cg.inR] at hvR2
   have hL2 := okL_rows hA2.2
   have hn2 := hA2.1
   have hlen2 := gBs_length n2 f2
   generalize gBs n2 f2 = M at *
   clear hA2 hp2
   subst hlen2
   have hrow2 := okL_row hL2
   have hvok2 : okV (⟨⟨⟨s2, l2, h2⟩, ⟨b2, m2, r2⟩⟩, ⟨z2, gN p2 fun i => [st (gT (g2 i))]⟩⟩ : Vl) := ⟨⟨(by rw [gN_length]; exact hV2.1.1), fun _ _ => rfl⟩, hV2.2⟩
   have hcr2 := okL_row (clean_ok (e := ⟨e2, M⟩) hL2)
   have hcl2 : (En.clean ⟨e2, M⟩).binds.length <= M.length := clean_len ⟨e2, M⟩
   have hlad : ∀ z, z ∈ gL n3 f3 -> rI z := fun z hz => gL_r hp3.2 z hz
   have oS : Sv.fit (N) (⟨⟨e1, gBs L.length (rwB L)⟩, (⟨⟨⟨s1, l1, h1⟩, ⟨b1, m1, r1⟩⟩, ⟨z1, gN p1 fun i => [st (gT (g1 i))]⟩⟩ : Vl)⟩ : Sv) := by rw [gBs_row]; exact hfa
   have cS : ((L).length <= 1099511627776 /\ RowsOk (L).length (rwB L)) /\ ((p1 * 16 <= 140737488351232 /\ ∀ i, i < p1 -> [st (gT (g1 i))] = [st (gT [st (gT (g1 i))])]) /\ Sp.inR ⟨s1, l1, h1⟩ /\ Cg.inR ⟨b1, m1, r1⟩) := ⟨⟨hn1, hrow1⟩, ⟨⟨hV1.1.1, fun _ _ => rfl⟩, hV1.2⟩⟩
   have oU : Sv.fit (N) (⟨⟨e2, gBs M.length (rwB M)⟩, (⟨⟨⟨s2, l2, h2⟩, ⟨b2, m2, r2⟩⟩, ⟨z2, gN p2 fun i => [st (gT (g2 i))]⟩⟩ : Vl)⟩ : Sv) := by rw [gBs_row]; exact hfb
   have cU : ((M).length <= 1099511627776 /\ RowsOk (M).length (rwB M)) /\ ((p2 * 16 <= 140737488351232 /\ ∀ i, i < p2 -> [st (gT (g2 i))] = [st (gT [st (gT (g2 i))])]) /\ Sp.inR ⟨s2, l2, h2⟩ /\ Cg.inR ⟨b2, m2, r2⟩) := ⟨⟨hn2, hrow2⟩, ⟨⟨hV2.1.1, fun _ _ => rfl⟩, hV2.2⟩⟩
   have oA : Sv.fit (N) (Sv.again ((Sv.clean (⟨⟨e1, gBs L.length (rwB L)⟩, (⟨⟨⟨s1, l1, h1⟩, ⟨b1, m1, r1⟩⟩, ⟨z1, gN p1 fun i => [st (gT (g1 i))]⟩⟩ : Vl)⟩ : Sv)))) := (oS.clean).ag
   have cA := Sv.fit.cond (s := (Sv.clean (⟨⟨e1, gBs L.length (rwB L)⟩, (⟨⟨⟨s1, l1, h1⟩, ⟨b1, m1, r1⟩⟩, ⟨z1, gN p1 fun i => [st (gT (g1 i))]⟩⟩ : Vl)⟩ : Sv))) (by have := oA; rw [Sv.again_eq] at this; exact this) (by omega)
   have oB : Sv.fit (N) (Sv.again ((Sv.clean (⟨⟨e2, gBs M.length (rwB M)⟩, (⟨⟨⟨s2, l2, h2⟩, ⟨b2, m2, r2⟩⟩, ⟨z2, gN p2 fun i => [st (gT (g2 i))]⟩⟩ : Vl)⟩ : Sv)))) := (oU.clean).ag
   have cB := Sv.fit.cond (s := (Sv.clean (⟨⟨e2, gBs M.length (rwB M)⟩, (⟨⟨⟨s2, l2, h2⟩, ⟨b2, m2, r2⟩⟩, ⟨z2, gN p2 fun i => [st (gT (g2 i))]⟩⟩ : Vl)⟩ : Sv))) (by have := oB; rw [Sv.again_eq] at this; exact this) (by omega)
   have oJ : Sv.fit (N + N) (Sv.again ((Sv.join (Sv.again ((Sv.clean (⟨⟨e1, gBs L.length (rwB L)⟩, (⟨⟨⟨s1, l1, h1⟩, ⟨b1, m1, r1⟩⟩, ⟨z1, gN p1 fun i => [st (gT (g1 i))]⟩⟩ : Vl)⟩ : Sv)))) (Sv.again ((Sv.clean (⟨⟨e2, gBs M.length (rwB M)⟩, (⟨⟨⟨s2, l2, h2⟩, ⟨b2, m2, r2⟩⟩, ⟨z2, gN p2 fun i => [st (gT (g2 i))]⟩⟩ : Vl)⟩ : Sv))))))) := (Sv.fit.join oA oB (by omega)).ag
   have cJ := Sv.fit.cond (s := (Sv.join (Sv.again ((Sv.clean (⟨⟨e1, gBs L.length (rwB L)⟩, (⟨⟨⟨s1, l1, h1⟩, ⟨b1, m1, r1⟩⟩, ⟨z1, gN p1 fun i => [st (gT (g1 i))]⟩⟩ : Vl)⟩ : Sv)))) (Sv.again ((Sv.clean (⟨⟨e2, gBs M.length (rwB M)⟩, (⟨⟨⟨s2, l2, h2⟩, ⟨b2, m2, r2⟩⟩, ⟨z2, gN p2 fun i => [st (gT (g2 i))]⟩⟩ : Vl)⟩ : Sv)))))) (by have := oJ; rw [Sv.again_eq] at this; exact this) (by omega)
   have oR : Sv.fit (N + N) (Sv.again ((Sv.narrow (Sv.again ((Sv.clean (⟨⟨e1, gBs L.length (rwB L)⟩, (⟨⟨⟨s1, l1, h1⟩, ⟨b1, m1, r1⟩⟩, ⟨z1, gN p1 fun i => [st (gT (g1 i))]⟩⟩ : Vl)⟩ : Sv)))) (Sv.again ((Sv.clean (⟨⟨e2, gBs M.length (rwB M)⟩, (⟨⟨⟨s2, l2, h2⟩, ⟨b2, m2, r2⟩⟩, ⟨z2, gN p2 fun i => [st (gT (g2 i))]⟩⟩ : Vl)⟩ : Sv))))))) := (Sv.fit.narrow oA oB).ag
   have cR := Sv.fit.cond (s := (Sv.narrow (Sv.again ((Sv.clean (⟨⟨e1, gBs L.length (rwB L)⟩, (⟨⟨⟨s1, l1, h1⟩, ⟨b1, m1, r1⟩⟩, ⟨z1, gN p1 fun i => [st (gT (g1 i))]⟩⟩ : Vl)⟩ : Sv)))) (Sv.again ((Sv.clean (⟨⟨e2, gBs M.length (rwB M)⟩, (⟨⟨⟨s2, l2, h2⟩, ⟨b2, m2, r2⟩⟩, ⟨z2, gN p2 fun i => [st (gT (g2 i))]⟩⟩ : Vl)⟩ : Sv)))))) (by have := oR; rw [Sv.again_eq] at this; exact this) (by omega)
   have pAB := Sv.fit.pair oA oB (by omega)
   have qAB : (Sv.clean (⟨⟨e1, gBs L.length (rwB L)⟩, (⟨⟨⟨s1, l1, h1⟩, ⟨b1, m1, r1⟩⟩, ⟨z1, gN p1 fun i => [st (gT (g1 i))]⟩⟩ : Vl)⟩ : Sv)).e.binds.length + (Sv.clean (⟨⟨e2, gBs M.length (rwB M)⟩, (⟨⟨⟨s2, l2, h2⟩, ⟨b2, m2, r2⟩⟩, ⟨z2, gN p2 fun i => [st (gT (g2 i))]⟩⟩ : Vl)⟩ : Sv)).e.binds.length <= 1099511627776 := by have := pAB.s; simpa only [gBs_length] using this
   have pAJ := Sv.fit.pair oA oJ (by omega)
   have qAJ : (Sv.clean (⟨⟨e1, gBs L.length (rwB L)⟩, (⟨⟨⟨s1, l1, h1⟩, ⟨b1, m1, r1⟩⟩, ⟨z1, gN p1 fun i => [st (gT (g1 i))]⟩⟩ : Vl)⟩ : Sv)).e.binds.length + (Sv.join (Sv.again ((Sv.clean (⟨⟨e1, gBs L.length (rwB L)⟩, (⟨⟨⟨s1, l1, h1⟩, ⟨b1, m1, r1⟩⟩, ⟨z1, gN p1 fun i => [st (gT (g1 i))]⟩⟩ : Vl)⟩ : Sv)))) (Sv.again ((Sv.clean (⟨⟨e2, gBs M.length (rwB M)⟩, (⟨⟨⟨s2, l2, h2⟩, ⟨b2, m2, r2⟩⟩, ⟨z2, gN p2 fun i => [st (gT (g2 i))]⟩⟩ : Vl)⟩ : Sv))))).e.binds.length <= 1099511627776 := by have := pAJ.s; simpa only [gBs_length] using this
   cases hBA : Sv.leq (Sv.again ((Sv.clean (⟨⟨e2, gBs M.length (rwB M)⟩, (⟨⟨⟨s2, l2, h2⟩, ⟨b2, m2, r2⟩⟩, ⟨z2, gN p2 fun i => [st (gT (g2 i))]⟩⟩ : Vl)⟩ : Sv)))) (Sv.again ((Sv.clean (⟨⟨e1, gBs L.length (rwB L)⟩, (⟨⟨⟨s1, l1, h1⟩, ⟨b1, m1, r1⟩⟩, ⟨z1, gN p1 fun i => [st (gT (g1 i))]⟩⟩ : Vl)⟩ : Sv)))) with
   | true =>
     cases hAB : Sv.leq (Sv.again ((Sv.clean (⟨⟨e1, gBs L.length (rwB L)⟩, (⟨⟨⟨s1, l1, h1⟩, ⟨b1, m1, r1⟩⟩, ⟨z1, gN p1 fun i => [st (gT (g1 i))]⟩⟩ : Vl)⟩ : Sv)))) (Sv.again ((Sv.clean (⟨⟨e2, gBs M.length (rwB M)⟩, (⟨⟨⟨s2, l2, h2⟩, ⟨b2, m2, r2⟩⟩, ⟨z2, gN p2 fun i => [st (gT (g2 i))]⟩⟩ : Vl)⟩ : Sv)))) with
     | true =>
       have yhBA := hBA
       (try rw [Sv.again_eq, Sv.again_eq, gBs_row, gBs_row] at yhBA)
       have yhAB := hAB
       (try rw [Sv.again_eq, Sv.again_eq, gBs_row, gBs_row] at yhAB)
       have e0' : stepM ⟨j0, d0, t0⟩ (⟨⟨e1, L⟩, (⟨⟨⟨s1, l1, h1⟩, ⟨b1, m1, r1⟩⟩, ⟨z1, gN p1 fun i => [st (gT (g1 i))]⟩⟩ : Vl)⟩ : Sv) (⟨⟨e2, M⟩, (⟨⟨⟨s2, l2, h2⟩, ⟨b2, m2, r2⟩⟩, ⟨z2, gN p2 fun i => [st (gT (g2 i))]⟩⟩ : Vl)⟩ : Sv) (gL n3 f3) = (⟨j0, d0, t0⟩, (Sv.clean (⟨⟨e1, L⟩, (⟨⟨⟨s1, l1, h1⟩, ⟨b1, m1, r1⟩⟩, ⟨z1, gN p1 fun i => [st (gT (g1 i))]⟩⟩ : Vl)⟩ : Sv))) := by unfold stepM; rw [if_pos yhBA, yhAB]; rfl
       have e' : stepM ⟨j0, d0, t0⟩ (⟨⟨e1, L⟩, ⟨⟨⟨s1, l1, h1⟩, ⟨b1, m1, r1⟩⟩, ⟨z1, gN p1 g1⟩⟩⟩ : Sv) (⟨⟨e2, M⟩, ⟨⟨⟨s2, l2, h2⟩, ⟨b2, m2, r2⟩⟩, ⟨z2, gN p2 g2⟩⟩⟩ : Sv) (gL n3 f3) = (⟨j0, d0, t0⟩, (Sv.clean (⟨⟨e1, L⟩, (⟨⟨⟨s1, l1, h1⟩, ⟨b1, m1, r1⟩⟩, ⟨z1, gN p1 fun i => [st (gT (g1 i))]⟩⟩ : Vl)⟩ : Sv))) := e0'
       repeat' (first | exact trivial | (with_reducible first | exact cS | exact cU | exact cA | exact cB | exact cJ | exact cR | exact pAB.r | exact pAB.q | exact qAB | exact pAJ.r | exact pAJ.q | exact qAJ | exact hp3 | exact hp0 | exact hp0.1 | exact hp0.2 | exact (fun h => absurd (hBA.symm.trans h) (by decide)) | exact (fun h => absurd (hAB.symm.trans h) (by decide))) | refine ⟨?_, ?_⟩ | intro _)
       all_goals first | (with_reducible first | apply qa | apply qb | apply qc | apply qd) | (conv => whnf)
       all_goals first | ((with_reducible show ASat _ _ _ _ _); refine draw_cut tys_ok (l := sl8M) sp8M (by kernel_rfl) pl7M [0, 1, 2, 3, 4, 5, 6, 8, 9, 10, 17, 25, 38] (by kernel_rfl) ?_; apply tail_intro; · (repeat' (first | exact trivial | refine ⟨?_, ?_⟩ | intro _)) <;> (first | exact rfl | omega | assumption | (dsimp only; omega))) | skip
       all_goals repeat' (first | exact trivial | refine ⟨?_, ?_⟩ | intro _)
       all_goals first | (with_reducible first | apply qa | apply qb | apply qc | apply qd) | (conv => whnf)
       all_goals first | omega | rfl | exact (hp3.2 _ ‹_›).2.1 | exact (hp3.2 _ ‹_›).2.2 | (rw [e']; done) | (rw [e']; rfl) | (simp only [Sv.again_eq, gBs_row, gN_lst]; rw [e']; done) | (simp only [Sv.again_eq, gBs_row, gN_lst]; rw [e']; rfl)
     | false =>
       cases ht : decide (t0 ≥ 2) with
       | true =>
         have yhBA := hBA
         (try rw [Sv.again_eq, Sv.again_eq, gBs_row, gBs_row] at yhBA)
         have yhAB := hAB
         (try rw [Sv.again_eq, Sv.again_eq, gBs_row, gBs_row] at yhAB)
         have yht := ht
         (try rw [Sv.again_eq, Sv.again_eq, gBs_row, gBs_row] at yht)
         have e0' : stepM ⟨j0, d0, t0⟩ (⟨⟨e1, L⟩, (⟨⟨⟨s1, l1, h1⟩, ⟨b1, m1, r1⟩⟩, ⟨z1, gN p1 fun i => [st (gT (g1 i))]⟩⟩ : Vl)⟩ : Sv) (⟨⟨e2, M⟩, (⟨⟨⟨s2, l2, h2⟩, ⟨b2, m2, r2⟩⟩, ⟨z2, gN p2 fun i => [st (gT (g2 i))]⟩⟩ : Vl)⟩ : Sv) (gL n3 f3) = (⟨j0, d0, t0⟩, (Sv.clean (⟨⟨e1, L⟩, (⟨⟨⟨s1, l1, h1⟩, ⟨b1, m1, r1⟩⟩, ⟨z1, gN p1 fun i => [st (gT (g1 i))]⟩⟩ : Vl)⟩ : Sv))) := by unfold stepM; rw [if_pos yhBA, yhAB, if_pos (by simpa using ht)]
         have e' : stepM ⟨j0, d0, t0⟩ (⟨⟨e1, L⟩, ⟨⟨⟨s1, l1, h1⟩, ⟨b1, m1, r1⟩⟩, ⟨z1, gN p1 g1⟩⟩⟩ : Sv) (⟨⟨e2, M⟩, ⟨⟨⟨s2, l2, h2⟩, ⟨b2, m2, r2⟩⟩, ⟨z2, gN p2 g2⟩⟩⟩ : Sv) (gL n3 f3) = (⟨j0, d0, t0⟩, (Sv.clean (⟨⟨e1, L⟩, (⟨⟨⟨s1, l1, h1⟩, ⟨b1, m1, r1⟩⟩, ⟨z1, gN p1 fun i => [st (gT (g1 i))]⟩⟩ : Vl)⟩ : Sv))) := e0'
         repeat' (first | exact trivial | (with_reducible first | exact cS | exact cU | exact cA | exact cB | exact cJ | exact cR | exact pAB.r | exact pAB.q | exact qAB | exact pAJ.r | exact pAJ.q | exact qAJ | exact hp3 | exact hp0 | exact hp0.1 | exact hp0.2 | exact (fun h => absurd (hBA.symm.trans h) (by decide)) | exact (fun h => absurd (hAB.symm.trans h) (by decide)) | exact (fun h => absurd (ht.symm.trans h) (by decide))) | refine ⟨?_, ?_⟩ | intro _)
         all_goals first | (with_reducible first | apply qa | apply qb | apply qc | apply qd) | (conv => whnf)
         all_goals first | ((with_reducible show ASat _ _ _ _ _); refine draw_cut tys_ok (l := sl8M) sp8M (by kernel_rfl) pl7M [0, 1, 2, 3, 4, 5, 6, 8, 9, 10, 17, 25, 38] (by kernel_rfl) ?_; apply tail_intro; · (repeat' (first | exact trivial | refine ⟨?_, ?_⟩ | intro _)) <;> (first | exact rfl | omega | assumption | (dsimp only; omega))) | skip
         all_goals repeat' (first | exact trivial | refine ⟨?_, ?_⟩ | intro _)
         all_goals first | (with_reducible first | apply qa | apply qb | apply qc | apply qd) | (conv => whnf)
         all_goals first | omega | rfl | exact (hp3.2 _ ‹_›).2.1 | exact (hp3.2 _ ‹_›).2.2 | (rw [e']; done) | (rw [e']; rfl) | (simp only [Sv.again_eq, gBs_row, gN_lst]; rw [e']; done) | (simp only [Sv.again_eq, gBs_row, gN_lst]; rw [e']; rfl)
       | false =>
         have yhBA := hBA
         (try rw [Sv.again_eq, Sv.again_eq, gBs_row, gBs_row] at yhBA)
         have yhAB := hAB
         (try rw [Sv.again_eq, Sv.again_eq, gBs_row, gBs_row] at yhAB)
         have yht := ht
         (try rw [Sv.again_eq, Sv.again_eq, gBs_row, gBs_row] at yht)
         have e0' : stepM ⟨j0, d0, t0⟩ (⟨⟨e1, L⟩, (⟨⟨⟨s1, l1, h1⟩, ⟨b1, m1, r1⟩⟩, ⟨z1, gN p1 fun i => [st (gT (g1 i))]⟩⟩ : Vl)⟩ : Sv) (⟨⟨e2, M⟩, (⟨⟨⟨s2, l2, h2⟩, ⟨b2, m2, r2⟩⟩, ⟨z2, gN p2 fun i => [st (gT (g2 i))]⟩⟩ : Vl)⟩ : Sv) (gL n3 f3) = (⟨j0, true, t0⟩, Sv.narrow (Sv.clean (⟨⟨e1, L⟩, (⟨⟨⟨s1, l1, h1⟩, ⟨b1, m1, r1⟩⟩, ⟨z1, gN p1 fun i => [st (gT (g1 i))]⟩⟩ : Vl)⟩ : Sv)) (Sv.clean (⟨⟨e2, M⟩, (⟨⟨⟨s2, l2, h2⟩, ⟨b2, m2, r2⟩⟩, ⟨z2, gN p2 fun i => [st (gT (g2 i))]⟩⟩ : Vl)⟩ : Sv))) := by unfold stepM; rw [if_pos yhBA, yhAB, if_neg (by simpa using ht)]
         have e' : stepM ⟨j0, d0, t0⟩ (⟨⟨e1, L⟩, ⟨⟨⟨s1, l1, h1⟩, ⟨b1, m1, r1⟩⟩, ⟨z1, gN p1 g1⟩⟩⟩ : Sv) (⟨⟨e2, M⟩, ⟨⟨⟨s2, l2, h2⟩, ⟨b2, m2, r2⟩⟩, ⟨z2, gN p2 g2⟩⟩⟩ : Sv) (gL n3 f3) = (⟨j0, true, t0⟩, Sv.narrow (Sv.clean (⟨⟨e1, L⟩, (⟨⟨⟨s1, l1, h1⟩, ⟨b1, m1, r1⟩⟩, ⟨z1, gN p1 fun i => [st (gT (g1 i))]⟩⟩ : Vl)⟩ : Sv)) (Sv.clean (⟨⟨e2, M⟩, (⟨⟨⟨s2, l2, h2⟩, ⟨b2, m2, r2⟩⟩, ⟨z2, gN p2 fun i => [st (gT (g2 i))]⟩⟩ : Vl)⟩ : Sv))) := e0'
         repeat' (first | exact trivial | (with_reducible first | exact cS | exact cU | exact cA | exact cB | exact cJ | exact cR | exact pAB.r | exact pAB.q | exact qAB | exact pAJ.r | exact pAJ.q | exact qAJ | exact hp3 | exact hp0 | exact hp0.1 | exact hp0.2 | exact (fun h => absurd (hBA.symm.trans h) (by decide)) | exact (fun h => absurd (hAB.symm.trans h) (by decide)) | exact (fun h => absurd (ht.symm.trans h) (by decide))) | refine ⟨?_, ?_⟩ | intro _)
         all_goals first | (with_reducible first | apply qa | apply qb | apply qc | apply qd) | (conv => whnf)
         all_goals first | ((with_reducible show ASat _ _ _ _ _); refine draw_cut tys_ok (l := sl8M) sp8M (by kernel_rfl) pl7M [0, 1, 2, 3, 4, 5, 6, 8, 9, 10, 17, 25, 38] (by kernel_rfl) ?_; apply tail_intro; · (repeat' (first | exact trivial | refine ⟨?_, ?_⟩ | intro _)) <;> (first | exact rfl | omega | assumption | (dsimp only; omega))) | skip
         all_goals repeat' (first | exact trivial | refine ⟨?_, ?_⟩ | intro _)
         all_goals first | (with_reducible first | apply qa | apply qb | apply qc | apply qd) | (conv => whnf)
         all_goals first | omega | rfl | exact (hp3.2 _ ‹_›).2.1 | exact (hp3.2 _ ‹_›).2.2 | (rw [e']; done) | (rw [e']; rfl) | (simp only [Sv.again_eq, gBs_row, gN_lst]; rw [e']; done) | (simp only [Sv.again_eq, gBs_row, gN_lst]; rw [e']; rfl)
   | false =>
     cases hE : Tn.early ⟨j0, d0, t0⟩ with
     | true =>
       have yhBA := hBA
       (try rw [Sv.again_eq, Sv.again_eq, gBs_row, gBs_row] at yhBA)
       have yhE := hE
       (try rw [Sv.again_eq, Sv.again_eq, gBs_row, gBs_row] at yhE)
       have e0' : stepM ⟨j0, d0, t0⟩ (⟨⟨e1, L⟩, (⟨⟨⟨s1, l1, h1⟩, ⟨b1, m1, r1⟩⟩, ⟨z1, gN p1 fun i => [st (gT (g1 i))]⟩⟩ : Vl)⟩ : Sv) (⟨⟨e2, M⟩, (⟨⟨⟨s2, l2, h2⟩, ⟨b2, m2, r2⟩⟩, ⟨z2, gN p2 fun i => [st (gT (g2 i))]⟩⟩ : Vl)⟩ : Sv) (gL n3 f3) = (Tn.up ⟨j0, d0, t0⟩, Sv.join (Sv.clean (⟨⟨e1, L⟩, (⟨⟨⟨s1, l1, h1⟩, ⟨b1, m1, r1⟩⟩, ⟨z1, gN p1 fun i => [st (gT (g1 i))]⟩⟩ : Vl)⟩ : Sv)) (Sv.clean (⟨⟨e2, M⟩, (⟨⟨⟨s2, l2, h2⟩, ⟨b2, m2, r2⟩⟩, ⟨z2, gN p2 fun i => [st (gT (g2 i))]⟩⟩ : Vl)⟩ : Sv))) := by unfold stepM; rw [if_neg (by rw [yhBA]; decide), if_pos hE]
       have e' : stepM ⟨j0, d0, t0⟩ (⟨⟨e1, L⟩, ⟨⟨⟨s1, l1, h1⟩, ⟨b1, m1, r1⟩⟩, ⟨z1, gN p1 g1⟩⟩⟩ : Sv) (⟨⟨e2, M⟩, ⟨⟨⟨s2, l2, h2⟩, ⟨b2, m2, r2⟩⟩, ⟨z2, gN p2 g2⟩⟩⟩ : Sv) (gL n3 f3) = (Tn.up ⟨j0, d0, t0⟩, Sv.join (Sv.clean (⟨⟨e1, L⟩, (⟨⟨⟨s1, l1, h1⟩, ⟨b1, m1, r1⟩⟩, ⟨z1, gN p1 fun i => [st (gT (g1 i))]⟩⟩ : Vl)⟩ : Sv)) (Sv.clean (⟨⟨e2, M⟩, (⟨⟨⟨s2, l2, h2⟩, ⟨b2, m2, r2⟩⟩, ⟨z2, gN p2 fun i => [st (gT (g2 i))]⟩⟩ : Vl)⟩ : Sv))) := e0'
       repeat' (first | exact trivial | (with_reducible first | exact cS | exact cU | exact cA | exact cB | exact cJ | exact cR | exact pAB.r | exact pAB.q | exact qAB | exact pAJ.r | exact pAJ.q | exact qAJ | exact hp3 | exact hp0 | exact hp0.1 | exact hp0.2 | exact (fun h => absurd (hBA.symm.trans h) (by decide)) | exact (fun h => absurd (hE.symm.trans h) (by decide))) | refine ⟨?_, ?_⟩ | intro _)
       all_goals first | (with_reducible first | apply qa | apply qb | apply qc | apply qd) | (conv => whnf)
       all_goals first | ((with_reducible show ASat _ _ _ _ _); refine draw_cut tys_ok (l := sl8M) sp8M (by kernel_rfl) pl7M [0, 1, 2, 3, 4, 5, 6, 8, 9, 10, 17, 25, 38] (by kernel_rfl) ?_; apply tail_intro; · (repeat' (first | exact trivial | refine ⟨?_, ?_⟩ | intro _)) <;> (first | exact rfl | omega | assumption | (dsimp only; omega))) | skip
       all_goals repeat' (first | exact trivial | refine ⟨?_, ?_⟩ | intro _)
       all_goals first | (with_reducible first | apply qa | apply qb | apply qc | apply qd) | (conv => whnf)
       all_goals first | omega | rfl | exact (hp3.2 _ ‹_›).2.1 | exact (hp3.2 _ ‹_›).2.2 | (rw [e']; done) | (rw [e']; rfl) | (simp only [Sv.again_eq, gBs_row, gN_lst]; rw [e']; done) | (simp only [Sv.again_eq, gBs_row, gN_lst]; rw [e']; rfl)
     | false =>
       have yhBA := hBA
       (try rw [Sv.again_eq, Sv.again_eq, gBs_row, gBs_row] at yhBA)
       have yhE := hE
       (try rw [Sv.again_eq, Sv.again_eq, gBs_row, gBs_row] at yhE)
       have e0' : stepM ⟨j0, d0, t0⟩ (⟨⟨e1, L⟩, (⟨⟨⟨s1, l1, h1⟩, ⟨b1, m1, r1⟩⟩, ⟨z1, gN p1 fun i => [st (gT (g1 i))]⟩⟩ : Vl)⟩ : Sv) (⟨⟨e2, M⟩, (⟨⟨⟨s2, l2, h2⟩, ⟨b2, m2, r2⟩⟩, ⟨z2, gN p2 fun i => [st (gT (g2 i))]⟩⟩ : Vl)⟩ : Sv) (gL n3 f3) = (Tn.up ⟨j0, d0, t0⟩, Sv.widen (Sv.clean (⟨⟨e1, L⟩, (⟨⟨⟨s1, l1, h1⟩, ⟨b1, m1, r1⟩⟩, ⟨z1, gN p1 fun i => [st (gT (g1 i))]⟩⟩ : Vl)⟩ : Sv)) (Sv.join (Sv.clean (⟨⟨e1, L⟩, (⟨⟨⟨s1, l1, h1⟩, ⟨b1, m1, r1⟩⟩, ⟨z1, gN p1 fun i => [st (gT (g1 i))]⟩⟩ : Vl)⟩ : Sv)) (Sv.clean (⟨⟨e2, M⟩, (⟨⟨⟨s2, l2, h2⟩, ⟨b2, m2, r2⟩⟩, ⟨z2, gN p2 fun i => [st (gT (g2 i))]⟩⟩ : Vl)⟩ : Sv))) (gL n3 f3)) := by unfold stepM; rw [if_neg (by rw [yhBA]; decide), if_neg (by rw [hE]; decide)]
       have e' : stepM ⟨j0, d0, t0⟩ (⟨⟨e1, L⟩, ⟨⟨⟨s1, l1, h1⟩, ⟨b1, m1, r1⟩⟩, ⟨z1, gN p1 g1⟩⟩⟩ : Sv) (⟨⟨e2, M⟩, ⟨⟨⟨s2, l2, h2⟩, ⟨b2, m2, r2⟩⟩, ⟨z2, gN p2 g2⟩⟩⟩ : Sv) (gL n3 f3) = (Tn.up ⟨j0, d0, t0⟩, Sv.widen (Sv.clean (⟨⟨e1, L⟩, (⟨⟨⟨s1, l1, h1⟩, ⟨b1, m1, r1⟩⟩, ⟨z1, gN p1 fun i => [st (gT (g1 i))]⟩⟩ : Vl)⟩ : Sv)) (Sv.join (Sv.clean (⟨⟨e1, L⟩, (⟨⟨⟨s1, l1, h1⟩, ⟨b1, m1, r1⟩⟩, ⟨z1, gN p1 fun i => [st (gT (g1 i))]⟩⟩ : Vl)⟩ : Sv)) (Sv.clean (⟨⟨e2, M⟩, (⟨⟨⟨s2, l2, h2⟩, ⟨b2, m2, r2⟩⟩, ⟨z2, gN p2 fun i => [st (gT (g2 i))]⟩⟩ : Vl)⟩ : Sv))) (gL n3 f3)) := e0'
       repeat' (first | exact trivial | (with_reducible first | exact cS | exact cU | exact cA | exact cB | exact cJ | exact cR | exact pAB.r | exact pAB.q | exact qAB | exact pAJ.r | exact pAJ.q | exact qAJ | exact hp3 | exact hp0 | exact hp0.1 | exact hp0.2 | exact (fun h => absurd (hBA.symm.trans h) (by decide)) | exact (fun h => absurd (hE.symm.trans h) (by decide))) | refine ⟨?_, ?_⟩ | intro _)
       all_goals first | (with_reducible first | apply qa | apply qb | apply qc | apply qd) | (conv => whnf)
       all_goals first | ((with_reducible show ASat _ _ _ _ _); refine draw_cut tys_ok (l := sl8M) sp8M (by kernel_rfl) pl7M [0, 1, 2, 3, 4, 5, 6, 8, 9, 10, 17, 25, 38] (by kernel_rfl) ?_; apply tail_intro; · (repeat' (first | exact trivial | refine ⟨?_, ?_⟩ | intro _)) <;> (first | exact rfl | omega | assumption | (dsimp only; omega))) | skip
       all_goals repeat' (first | exact trivial | refine ⟨?_, ?_⟩ | intro _)
       all_goals first | (with_reducible first | apply qa | apply qb | apply qc | apply qd) | (conv => whnf)
       all_goals first | omega | rfl | exact (hp3.2 _ ‹_›).2.1 | exact (hp3.2 _ ‹_›).2.2 | (rw [e']; done) | (rw [e']; rfl) | (simp only [Sv.again_eq, gBs_row, gN_lst]; rw [e']; done) | (simp only [Sv.again_eq, gBs_row, gN_lst]; rw [e']; rfl)
 . cases h
def stepR (t : Tn) (a b : Sv) (l : List Int) : Tn × Sv :=
 if Sv.rleq b a = true then
  (if (Sv.rleq a b || decide (t.t > 1)) = true then (t, a.rclean) else (⟨t.j, true, t.t⟩, Sv.rop 2 a b []))
 else if t.j < 3 then (t.up, Sv.rop 0 a b []) else (t.up, Sv.rop 1 a (Sv.rop 0 a b []) l)
theorem Sv.fit.rop0 {N M : Nat} {a b : Sv} {l : List Int} (ha : Sv.fit N a) (hb : Sv.fit M b) (hn : (N + M) * 16 <= 140737488351232) : Sv.fit (N + M) (Sv.rop 0 a b l) := by rw [<- Sv.join_ref]; exact ha.join hb hn
theorem bump_t {t j : Int} (h : t < 2) : (Tn.up ⟨j, true, t⟩).t = t + 1 := if_pos ⟨rfl, h⟩
theorem bump_f {t j : Int} (h : ¬ t < 2) : (Tn.up ⟨j, true, t⟩).t = t := if_neg fun q => h q.2
def FRMStep : List Ar -> Option Rs
 | [.agg [.d (.v (.int .i64 j0)), .d (.v (.bool d0)), .d (.v (.int .i64 t0))], .agg [.d (.v (.bool e1)), .d (.lst 9 n1 f1), .d (.v (.bool s1)), .d (.v (.int .i64 l1)), .d (.v (.int .i64 h1)), .d (.v (.bool b1)), .d (.v (.int .i64 m1)), .d (.v (.int .i64 r1)), .d (.v (.bool z1)), .d (.lst 1 p1 g1)], .agg [.d (.v (.bool e2)), .d (.lst 9 n2 f2), .d (.v (.bool s2)), .d (.v (.int .i64 l2)), .d (.v (.int .i64 h2)), .d (.v (.bool b2)), .d (.v (.int .i64 m2)), .d (.v (.int .i64 r2)), .d (.v (.bool z2)), .d (.lst 1 p2 g2)], .c (.d (.lst 1 n3 f3))] => some ⟨(rI j0 /\ rI t0) /\ ((n1 <= 1099511627776 /\ RowsOk n1 f1) /\ ((p1 * 16 <= 140737488351232 /\ ∀ i, i < p1 -> g1 i = [st (gT (g1 i))]) /\ Sp.inR ⟨s1, l1, h1⟩ /\ Cg.inR ⟨b1, m1, r1⟩)) /\ ((n2 <= 1099511627776 /\ RowsOk n2 f2) /\ ((p2 * 16 <= 140737488351232 /\ ∀ i, i < p2 -> g2 i = [st (gT (g2 i))]) /\ Sp.inR ⟨s2, l2, h2⟩ /\ Cg.inR ⟨b2, m2, r2⟩)) /\ (n3 <= 9223372036854775807 /\ ∀ i, i < n3 -> f3 i = [it (gI (f3 i))] /\ rI (gI (f3 i))) /\ (∃ N, N <= 1000000000 /\ Sv.fit N (⟨⟨e1, gBs n1 f1⟩, ⟨⟨⟨s1, l1, h1⟩, ⟨b1, m1, r1⟩⟩, ⟨z1, gN p1 g1⟩⟩⟩ : Sv) /\ Sv.fit N (⟨⟨e2, gBs n2 f2⟩, ⟨⟨⟨s2, l2, h2⟩, ⟨b2, m2, r2⟩⟩, ⟨z2, gN p2 g2⟩⟩⟩ : Sv)), .tup [Tn.ar (stepR (⟨j0, d0, t0⟩ : Tn) (⟨⟨e1, gBs n1 f1⟩, ⟨⟨⟨s1, l1, h1⟩, ⟨b1, m1, r1⟩⟩, ⟨z1, gN p1 g1⟩⟩⟩ : Sv) (⟨⟨e2, gBs n2 f2⟩, ⟨⟨⟨s2, l2, h2⟩, ⟨b2, m2, r2⟩⟩, ⟨z2, gN p2 g2⟩⟩⟩ : Sv) (gL n3 f3)).1, Sv.ar (stepR (⟨j0, d0, t0⟩ : Tn) (⟨⟨e1, gBs n1 f1⟩, ⟨⟨⟨s1, l1, h1⟩, ⟨b1, m1, r1⟩⟩, ⟨z1, gN p1 g1⟩⟩⟩ : Sv) (⟨⟨e2, gBs n2 f2⟩, ⟨⟨⟨s2, l2, h2⟩, ⟨b2, m2, r2⟩⟩, ⟨z2, gN p2 g2⟩⟩⟩ : Sv) (gL n3 f3)).2], []⟩
 | _ => none
abbrev pl9M : Plan := .all [(0, .all [(1, .all [(2, .all [(3, .all [(4, .done)])])])]), (1, .all [(0, .all [(2, .all [(3, .all [(4, .done)])])]), (2, .all [(0, .all [(3, .all [(4, .done)])])])])]
abbrev pl10M : Plan := .all [(0, .all [(1, .all [(2, .all [(3, .done)])]), (2, .all [(1, .all [(3, .done)])])]), (1, .all [(0, .all [(2, .all [(3, .done)])])])]
abbrev sl11M : List (Nat × Sm) := [(30, ⟨[], FRTLeq⟩), (49, ⟨[], FRTClean⟩), (53, ⟨[], FN 1 FRTOp⟩)]
theorem sp11M : sumsOk Tryz.prog sl11M := ⟨fcRTLeq, fcRTClean, fc_nil 1 fcRTOp, trivial⟩
theorem fcRMStep : FC Tryz.prog 38 FRMStep := by
 intro xs pre r us h hp
 unfold FRMStep at h
 split at h
 . rename_i j0 d0 t0 e1 n1 f1 s1 l1 h1 b1 m1 r1 z1 p1 g1 e2 n2 f2 s2 l2 h2 b2 m2 r2 z2 p2 g2 n3 f3
   cases h
   obtain ⟨hp0, hp1, hp2, hp3, hp4⟩ := hp
   refine FCat.deep (ys := [.agg [.d (.v (.int .i64 j0)), .d (.v (.bool d0)), .d (.v (.int .i64 t0))], .agg [.d (.v (.bool e1)), .d (.lst 9 n1 (rwB (gBs n1 f1))), .d (.v (.bool s1)), .d (.v (.int .i64 l1)), .d (.v (.int .i64 h1)), .d (.v (.bool b1)), .d (.v (.int .i64 m1)), .d (.v (.int .i64 r1)), .d (.v (.bool z1)), .d (.lst 1 p1 fun i => [st (gT (g1 i))])], .agg [.d (.v (.bool e2)), .d (.lst 9 n2 (rwB (gBs n2 f2))), .d (.v (.bool s2)), .d (.v (.int .i64 l2)), .d (.v (.int .i64 h2)), .d (.v (.bool b2)), .d (.v (.int .i64 m2)), .d (.v (.int .i64 r2)), .d (.v (.bool z2)), .d (.lst 1 p2 fun i => [st (gT (g2 i))])], .c (.d (.lst 1 n3 fun i => [it (gI (f3 i))]))]) ?_ ?_
   . repeat' (first | exact trivial | exact rfl | exact DvE.refl _ | refine ⟨?_, ?_⟩ | fail)
     all_goals first | first | exact canonB hp1.1.2.h | (exact .rows fun i hi => by rw [hp1.2.1.2 i hi]; exact ⟨rfl, fun j a b ha hb => by have hb : [st (gT (g1 i))][j]? = some b := hb; rw [ha] at hb; cases hb; exact .refl _⟩) | exact canonB hp2.1.2.h | (exact .rows fun i hi => by rw [hp2.2.1.2 i hi]; exact ⟨rfl, fun j a b ha hb => by have hb : [st (gT (g2 i))][j]? = some b := hb; rw [ha] at hb; cases hb; exact .refl _⟩) | (exact .rows fun i hi => by rw [(hp3.2 i hi).1]; exact ⟨rfl, fun j a b ha hb => by have hb : [it (gI (f3 i))][j]? = some b := hb; rw [ha] at hb; cases hb; exact .refl _⟩)
   refine fcat tys_ok (l := sl11M) sp11M Tryz.func38 rfl (by kernel_rfl) true ?_
   obtain ⟨N, hN, hfa, hfb⟩ := hp4
   unfold rI at hp0
   have hA1 := hp1.1
   have hV1 := hp1.2
   have hvR1 := hV1.2
   simp only [Sp.inR, Cg.inR] at hvR1
   have hL1 := okL_rows hA1.2
   have hn1 := hA1.1
   have hlen1 := gBs_length n1 f1
   generalize gBs n1 f1 = L at *
   clear hA1 hp1
   subst hlen1
   have hrow1 := okL_row hL1
   have hvok1 : okV (⟨⟨⟨s1, l1, h1⟩, ⟨b1, m1, r1⟩⟩, ⟨z1, gN p1 fun i => [st (gT (g1 i))]⟩⟩ : Vl) := ⟨⟨(by rw [gN_length]; exact hV1.1.1), fun _ _ => rfl⟩, hV1.2⟩
   have hcr1 := okL_row (clean_ok (e := ⟨e1, L⟩) hL1)
   have hcl1 : (En.clean ⟨e1, L⟩).binds.length <= L.length := clean_len ⟨e1, L⟩
   have hA2 := hp2.1
   have hV2 := hp2.2
   have hvR2 := hV2.2
   simp only [Sp.inR, Cg.inR] at hvR2
   have hL2 := okL_rows hA2.2
   have hn2 := hA2.1
   have hlen2 := gBs_length n2 f2
   generalize gBs n2 f2 = M at *
   clear hA2 hp2
   subst hlen2
   have hrow2 := okL_row hL2
   have hvok2 : okV (⟨⟨⟨s2, l2, h2⟩, ⟨b2, m2, r2⟩⟩, ⟨z2, gN p2 fun i => [st (gT (g2 i))]⟩⟩ : Vl) := ⟨⟨(by rw [gN_length]; exact hV2.1.1), fun _ _ => rfl⟩, hV2.2⟩
   have hcr2 := okL_row (clean_ok (e := ⟨e2, M⟩) hL2)
   have hcl2 : (En.clean ⟨e2, M⟩).binds.length <= M.length := clean_len ⟨e2, M⟩
   have hlad : ∀ z, z ∈ gL n3 f3 -> rI z := fun z hz => gL_r hp3.2 z hz
   have hnil : (gL 0 fun _ => []) = [] := rfl
   have oS : Sv.fit (N) (⟨⟨e1, gBs L.length (rwB L)⟩, (⟨⟨⟨s1, l1, h1⟩, ⟨b1, m1, r1⟩⟩, ⟨z1, gN p1 fun i => [st (gT (g1 i))]⟩⟩ : Vl)⟩ : Sv) := by rw [gBs_row]; exact hfa
   have cS : ((L).length <= 1099511627776 /\ RowsOk (L).length (rwB L)) /\ ((p1 * 16 <= 140737488351232 /\ ∀ i, i < p1 -> [st (gT (g1 i))] = [st (gT [st (gT (g1 i))])]) /\ Sp.inR ⟨s1, l1, h1⟩ /\ Cg.inR ⟨b1, m1, r1⟩) := ⟨⟨hn1, hrow1⟩, ⟨⟨hV1.1.1, fun _ _ => rfl⟩, hV1.2⟩⟩
   have oU : Sv.fit (N) (⟨⟨e2, gBs M.length (rwB M)⟩, (⟨⟨⟨s2, l2, h2⟩, ⟨b2, m2, r2⟩⟩, ⟨z2, gN p2 fun i => [st (gT (g2 i))]⟩⟩ : Vl)⟩ : Sv) := by rw [gBs_row]; exact hfb
   have cU : ((M).length <= 1099511627776 /\ RowsOk (M).length (rwB M)) /\ ((p2 * 16 <= 140737488351232 /\ ∀ i, i < p2 -> [st (gT (g2 i))] = [st (gT [st (gT (g2 i))])]) /\ Sp.inR ⟨s2, l2, h2⟩ /\ Cg.inR ⟨b2, m2, r2⟩) := ⟨⟨hn2, hrow2⟩, ⟨⟨hV2.1.1, fun _ _ => rfl⟩, hV2.2⟩⟩
   have oJ : Sv.fit (N + N) (Sv.again ((Sv.rop 0 (⟨⟨e1, gBs L.length (rwB L)⟩, (⟨⟨⟨s1, l1, h1⟩, ⟨b1, m1, r1⟩⟩, ⟨z1, gN p1 fun i => [st (gT (g1 i))]⟩⟩ : Vl)⟩ : Sv) (⟨⟨e2, gBs M.length (rwB M)⟩, (⟨⟨⟨s2, l2, h2⟩, ⟨b2, m2, r2⟩⟩, ⟨z2, gN p2 fun i => [st (gT (g2 i))]⟩⟩ : Vl)⟩ : Sv) (gL 0 fun _ => [])))) := (Sv.fit.rop0 oS oU (by omega)).ag
   have cJ := Sv.fit.cond (s := (Sv.rop 0 (⟨⟨e1, gBs L.length (rwB L)⟩, (⟨⟨⟨s1, l1, h1⟩, ⟨b1, m1, r1⟩⟩, ⟨z1, gN p1 fun i => [st (gT (g1 i))]⟩⟩ : Vl)⟩ : Sv) (⟨⟨e2, gBs M.length (rwB M)⟩, (⟨⟨⟨s2, l2, h2⟩, ⟨b2, m2, r2⟩⟩, ⟨z2, gN p2 fun i => [st (gT (g2 i))]⟩⟩ : Vl)⟩ : Sv) (gL 0 fun _ => []))) (by have := oJ; rw [Sv.again_eq] at this; exact this) (by omega)
   have pSU := Sv.fit.pair oS oU (by omega)
   have qSU : L.length + M.length <= 1099511627776 := by have := pSU.s; simpa only [gBs_length] using this
   have pSJ := Sv.fit.pair oS oJ (by omega)
   have qSJ : L.length + (Sv.rop 0 (⟨⟨e1, gBs L.length (rwB L)⟩, (⟨⟨⟨s1, l1, h1⟩, ⟨b1, m1, r1⟩⟩, ⟨z1, gN p1 fun i => [st (gT (g1 i))]⟩⟩ : Vl)⟩ : Sv) (⟨⟨e2, gBs M.length (rwB M)⟩, (⟨⟨⟨s2, l2, h2⟩, ⟨b2, m2, r2⟩⟩, ⟨z2, gN p2 fun i => [st (gT (g2 i))]⟩⟩ : Vl)⟩ : Sv) (gL 0 fun _ => [])).e.binds.length <= 1099511627776 := by have := pSJ.s; simpa only [gBs_length] using this
   cases hBA : Sv.rleq (⟨⟨e2, gBs M.length (rwB M)⟩, (⟨⟨⟨s2, l2, h2⟩, ⟨b2, m2, r2⟩⟩, ⟨z2, gN p2 fun i => [st (gT (g2 i))]⟩⟩ : Vl)⟩ : Sv) (⟨⟨e1, gBs L.length (rwB L)⟩, (⟨⟨⟨s1, l1, h1⟩, ⟨b1, m1, r1⟩⟩, ⟨z1, gN p1 fun i => [st (gT (g1 i))]⟩⟩ : Vl)⟩ : Sv) with
   | true =>
     cases hAB : Sv.rleq (⟨⟨e1, gBs L.length (rwB L)⟩, (⟨⟨⟨s1, l1, h1⟩, ⟨b1, m1, r1⟩⟩, ⟨z1, gN p1 fun i => [st (gT (g1 i))]⟩⟩ : Vl)⟩ : Sv) (⟨⟨e2, gBs M.length (rwB M)⟩, (⟨⟨⟨s2, l2, h2⟩, ⟨b2, m2, r2⟩⟩, ⟨z2, gN p2 fun i => [st (gT (g2 i))]⟩⟩ : Vl)⟩ : Sv) with
     | true =>
       have yhBA := hBA
       (try simp only [Sv.again_eq, gBs_row] at yhBA)
       have yhAB := hAB
       (try simp only [Sv.again_eq, gBs_row] at yhAB)
       have e0' : stepR ⟨j0, d0, t0⟩ (⟨⟨e1, L⟩, (⟨⟨⟨s1, l1, h1⟩, ⟨b1, m1, r1⟩⟩, ⟨z1, gN p1 fun i => [st (gT (g1 i))]⟩⟩ : Vl)⟩ : Sv) (⟨⟨e2, M⟩, (⟨⟨⟨s2, l2, h2⟩, ⟨b2, m2, r2⟩⟩, ⟨z2, gN p2 fun i => [st (gT (g2 i))]⟩⟩ : Vl)⟩ : Sv) (gL n3 f3) = (⟨j0, d0, t0⟩, Sv.rclean (⟨⟨e1, L⟩, (⟨⟨⟨s1, l1, h1⟩, ⟨b1, m1, r1⟩⟩, ⟨z1, gN p1 fun i => [st (gT (g1 i))]⟩⟩ : Vl)⟩ : Sv)) := by unfold stepR; rw [if_pos yhBA, yhAB]; rfl
       have e' : stepR ⟨j0, d0, t0⟩ (⟨⟨e1, L⟩, ⟨⟨⟨s1, l1, h1⟩, ⟨b1, m1, r1⟩⟩, ⟨z1, gN p1 g1⟩⟩⟩ : Sv) (⟨⟨e2, M⟩, ⟨⟨⟨s2, l2, h2⟩, ⟨b2, m2, r2⟩⟩, ⟨z2, gN p2 g2⟩⟩⟩ : Sv) (gL n3 f3) = (⟨j0, d0, t0⟩, Sv.rclean (⟨⟨e1, L⟩, (⟨⟨⟨s1, l1, h1⟩, ⟨b1, m1, r1⟩⟩, ⟨z1, gN p1 fun i => [st (gT (g1 i))]⟩⟩ : Vl)⟩ : Sv)) := e0'
       repeat' (first | exact trivial | (with_reducible first | exact cS | exact cU | exact cJ | exact pSU.r | exact pSU.q | exact qSU | exact pSJ.r | exact pSJ.q | exact qSJ | exact hp3 | exact hp0 | exact hp0.1 | exact hp0.2 | exact (fun h => absurd (hBA.symm.trans h) (by decide)) | exact (fun h => absurd (hAB.symm.trans h) (by decide)) | exact (fun h => absurd (h : true = false) (by decide)) | exact (fun h => absurd (h : false = true) (by decide))) | refine ⟨?_, ?_⟩ | intro _)
       all_goals first | (with_reducible first | apply qa | apply qb | apply qc | apply qd) | (conv => whnf)
       all_goals first | ((with_reducible show ASat _ _ _ _ _); refine draw_cut tys_ok (l := sl11M) sp11M (by kernel_rfl) pl9M [0, 1, 2, 3, 4, 5, 6, 8, 9, 10, 11, 12, 26, 30, 50, 60] (by kernel_rfl) ?_; apply tail_intro; · (repeat' (first | exact trivial | refine ⟨?_, ?_⟩ | intro _)) <;> (first | exact rfl | omega | assumption | (dsimp only; omega))) | ((with_reducible show ASat _ _ _ _ _); refine draw_cut tys_ok (l := sl11M) sp11M (by kernel_rfl) pl10M [0, 1, 2, 3, 4, 5, 6, 8, 9, 10, 11, 12, 26, 30, 50, 60] (by kernel_rfl) ?_; apply tail_intro; · (repeat' (first | exact trivial | refine ⟨?_, ?_⟩ | intro _)) <;> (first | exact rfl | omega | assumption | (dsimp only; omega))) | skip
       all_goals repeat' (first | exact trivial | refine ⟨?_, ?_⟩ | intro _)
       all_goals first | (with_reducible first | apply qa | apply qb | apply qc | apply qd) | (conv => whnf)
       all_goals first | omega | rfl | exact (hp3.2 _ ‹_›).2.1 | exact (hp3.2 _ ‹_›).2.2 | exact absurd ‹_ < 0› (Nat.not_lt_zero _) | (rw [e']; done) | (rw [e']; rfl) | (simp only [Sv.again_eq, gBs_row, gN_lst]; rw [e']; done) | (simp only [Sv.again_eq, gBs_row, gN_lst]; rw [e']; rfl) | (rw [e', wrap64 (n := t0 + 1) (by omega) (by omega)]; have q := congrArg (Value.int .i64) (bump_t (j := j0) zt).symm; exact q) | (rw [e']; have q := congrArg (Value.int .i64) (bump_f (j := j0) zt).symm; exact q) | (rw [e']; refine congrArg (Value.int .i64) ?_; (try rw [wrap64 (by omega) (by omega)]); simp only [Tn.up, Tn.bump]; first | rfl | (rw [if_pos zj]; done) | (rw [if_neg zj]; done) | (rw [if_pos (show true = true /\ t0 < 2 from ⟨rfl, zt⟩)]; done) | (rw [if_neg (show ¬ (true = true /\ t0 < 2) from fun q => zt q.2)]; done) | (rw [if_neg (show ¬ (false = true /\ t0 < 2) from fun q => Bool.noConfusion q.1)]; done))
     | false =>
       cases ht : decide (t0 > 1) with
       | true =>
         have yhBA := hBA
         (try simp only [Sv.again_eq, gBs_row] at yhBA)
         have yhAB := hAB
         (try simp only [Sv.again_eq, gBs_row] at yhAB)
         have yht := ht
         (try simp only [Sv.again_eq, gBs_row] at yht)
         have e0' : stepR ⟨j0, d0, t0⟩ (⟨⟨e1, L⟩, (⟨⟨⟨s1, l1, h1⟩, ⟨b1, m1, r1⟩⟩, ⟨z1, gN p1 fun i => [st (gT (g1 i))]⟩⟩ : Vl)⟩ : Sv) (⟨⟨e2, M⟩, (⟨⟨⟨s2, l2, h2⟩, ⟨b2, m2, r2⟩⟩, ⟨z2, gN p2 fun i => [st (gT (g2 i))]⟩⟩ : Vl)⟩ : Sv) (gL n3 f3) = (⟨j0, d0, t0⟩, Sv.rclean (⟨⟨e1, L⟩, (⟨⟨⟨s1, l1, h1⟩, ⟨b1, m1, r1⟩⟩, ⟨z1, gN p1 fun i => [st (gT (g1 i))]⟩⟩ : Vl)⟩ : Sv)) := by unfold stepR; rw [if_pos yhBA, yhAB, if_pos (by simpa using ht)]
         have e' : stepR ⟨j0, d0, t0⟩ (⟨⟨e1, L⟩, ⟨⟨⟨s1, l1, h1⟩, ⟨b1, m1, r1⟩⟩, ⟨z1, gN p1 g1⟩⟩⟩ : Sv) (⟨⟨e2, M⟩, ⟨⟨⟨s2, l2, h2⟩, ⟨b2, m2, r2⟩⟩, ⟨z2, gN p2 g2⟩⟩⟩ : Sv) (gL n3 f3) = (⟨j0, d0, t0⟩, Sv.rclean (⟨⟨e1, L⟩, (⟨⟨⟨s1, l1, h1⟩, ⟨b1, m1, r1⟩⟩, ⟨z1, gN p1 fun i => [st (gT (g1 i))]⟩⟩ : Vl)⟩ : Sv)) := e0'
         repeat' (first | exact trivial | (with_reducible first | exact cS | exact cU | exact cJ | exact pSU.r | exact pSU.q | exact qSU | exact pSJ.r | exact pSJ.q | exact qSJ | exact hp3 | exact hp0 | exact hp0.1 | exact hp0.2 | exact (fun h => absurd (hBA.symm.trans h) (by decide)) | exact (fun h => absurd (hAB.symm.trans h) (by decide)) | exact (fun h => absurd (ht.symm.trans h) (by decide)) | exact (fun h => absurd (h : true = false) (by decide)) | exact (fun h => absurd (h : false = true) (by decide))) | refine ⟨?_, ?_⟩ | intro _)
         all_goals first | (with_reducible first | apply qa | apply qb | apply qc | apply qd) | (conv => whnf)
         all_goals first | ((with_reducible show ASat _ _ _ _ _); refine draw_cut tys_ok (l := sl11M) sp11M (by kernel_rfl) pl9M [0, 1, 2, 3, 4, 5, 6, 8, 9, 10, 11, 12, 26, 30, 50, 60] (by kernel_rfl) ?_; apply tail_intro; · (repeat' (first | exact trivial | refine ⟨?_, ?_⟩ | intro _)) <;> (first | exact rfl | omega | assumption | (dsimp only; omega))) | ((with_reducible show ASat _ _ _ _ _); refine draw_cut tys_ok (l := sl11M) sp11M (by kernel_rfl) pl10M [0, 1, 2, 3, 4, 5, 6, 8, 9, 10, 11, 12, 26, 30, 50, 60] (by kernel_rfl) ?_; apply tail_intro; · (repeat' (first | exact trivial | refine ⟨?_, ?_⟩ | intro _)) <;> (first | exact rfl | omega | assumption | (dsimp only; omega))) | skip
         all_goals repeat' (first | exact trivial | refine ⟨?_, ?_⟩ | intro _)
         all_goals first | (with_reducible first | apply qa | apply qb | apply qc | apply qd) | (conv => whnf)
         all_goals first | omega | rfl | exact (hp3.2 _ ‹_›).2.1 | exact (hp3.2 _ ‹_›).2.2 | exact absurd ‹_ < 0› (Nat.not_lt_zero _) | (rw [e']; done) | (rw [e']; rfl) | (simp only [Sv.again_eq, gBs_row, gN_lst]; rw [e']; done) | (simp only [Sv.again_eq, gBs_row, gN_lst]; rw [e']; rfl) | (rw [e', wrap64 (n := t0 + 1) (by omega) (by omega)]; have q := congrArg (Value.int .i64) (bump_t (j := j0) zt).symm; exact q) | (rw [e']; have q := congrArg (Value.int .i64) (bump_f (j := j0) zt).symm; exact q) | (rw [e']; refine congrArg (Value.int .i64) ?_; (try rw [wrap64 (by omega) (by omega)]); simp only [Tn.up, Tn.bump]; first | rfl | (rw [if_pos zj]; done) | (rw [if_neg zj]; done) | (rw [if_pos (show true = true /\ t0 < 2 from ⟨rfl, zt⟩)]; done) | (rw [if_neg (show ¬ (true = true /\ t0 < 2) from fun q => zt q.2)]; done) | (rw [if_neg (show ¬ (false = true /\ t0 < 2) from fun q => Bool.noConfusion q.1)]; done))
       | false =>
         have yhBA := hBA
         (try simp only [Sv.again_eq, gBs_row] at yhBA)
         have yhAB := hAB
         (try simp only [Sv.again_eq, gBs_row] at yhAB)
         have yht := ht
         (try simp only [Sv.again_eq, gBs_row] at yht)
         have e0' : stepR ⟨j0, d0, t0⟩ (⟨⟨e1, L⟩, (⟨⟨⟨s1, l1, h1⟩, ⟨b1, m1, r1⟩⟩, ⟨z1, gN p1 fun i => [st (gT (g1 i))]⟩⟩ : Vl)⟩ : Sv) (⟨⟨e2, M⟩, (⟨⟨⟨s2, l2, h2⟩, ⟨b2, m2, r2⟩⟩, ⟨z2, gN p2 fun i => [st (gT (g2 i))]⟩⟩ : Vl)⟩ : Sv) (gL n3 f3) = (⟨j0, true, t0⟩, Sv.rop 2 (⟨⟨e1, L⟩, (⟨⟨⟨s1, l1, h1⟩, ⟨b1, m1, r1⟩⟩, ⟨z1, gN p1 fun i => [st (gT (g1 i))]⟩⟩ : Vl)⟩ : Sv) (⟨⟨e2, M⟩, (⟨⟨⟨s2, l2, h2⟩, ⟨b2, m2, r2⟩⟩, ⟨z2, gN p2 fun i => [st (gT (g2 i))]⟩⟩ : Vl)⟩ : Sv) []) := by unfold stepR; rw [if_pos yhBA, yhAB, if_neg (by simpa using ht)]
         have e' : stepR ⟨j0, d0, t0⟩ (⟨⟨e1, L⟩, ⟨⟨⟨s1, l1, h1⟩, ⟨b1, m1, r1⟩⟩, ⟨z1, gN p1 g1⟩⟩⟩ : Sv) (⟨⟨e2, M⟩, ⟨⟨⟨s2, l2, h2⟩, ⟨b2, m2, r2⟩⟩, ⟨z2, gN p2 g2⟩⟩⟩ : Sv) (gL n3 f3) = (⟨j0, true, t0⟩, Sv.rop 2 (⟨⟨e1, L⟩, (⟨⟨⟨s1, l1, h1⟩, ⟨b1, m1, r1⟩⟩, ⟨z1, gN p1 fun i => [st (gT (g1 i))]⟩⟩ : Vl)⟩ : Sv) (⟨⟨e2, M⟩, (⟨⟨⟨s2, l2, h2⟩, ⟨b2, m2, r2⟩⟩, ⟨z2, gN p2 fun i => [st (gT (g2 i))]⟩⟩ : Vl)⟩ : Sv) []) := e0'
         repeat' (first | exact trivial | (with_reducible first | exact cS | exact cU | exact cJ | exact pSU.r | exact pSU.q | exact qSU | exact pSJ.r | exact pSJ.q | exact qSJ | exact hp3 | exact hp0 | exact hp0.1 | exact hp0.2 | exact (fun h => absurd (hBA.symm.trans h) (by decide)) | exact (fun h => absurd (hAB.symm.trans h) (by decide)) | exact (fun h => absurd (ht.symm.trans h) (by decide)) | exact (fun h => absurd (h : true = false) (by decide)) | exact (fun h => absurd (h : false = true) (by decide))) | refine ⟨?_, ?_⟩ | intro _)
         all_goals first | (with_reducible first | apply qa | apply qb | apply qc | apply qd) | (conv => whnf)
         all_goals first | ((with_reducible show ASat _ _ _ _ _); refine draw_cut tys_ok (l := sl11M) sp11M (by kernel_rfl) pl9M [0, 1, 2, 3, 4, 5, 6, 8, 9, 10, 11, 12, 26, 30, 50, 60] (by kernel_rfl) ?_; apply tail_intro; · (repeat' (first | exact trivial | refine ⟨?_, ?_⟩ | intro _)) <;> (first | exact rfl | omega | assumption | (dsimp only; omega))) | ((with_reducible show ASat _ _ _ _ _); refine draw_cut tys_ok (l := sl11M) sp11M (by kernel_rfl) pl10M [0, 1, 2, 3, 4, 5, 6, 8, 9, 10, 11, 12, 26, 30, 50, 60] (by kernel_rfl) ?_; apply tail_intro; · (repeat' (first | exact trivial | refine ⟨?_, ?_⟩ | intro _)) <;> (first | exact rfl | omega | assumption | (dsimp only; omega))) | skip
         all_goals repeat' (first | exact trivial | refine ⟨?_, ?_⟩ | intro _)
         all_goals first | (with_reducible first | apply qa | apply qb | apply qc | apply qd) | (conv => whnf)
         all_goals first | omega | rfl | exact (hp3.2 _ ‹_›).2.1 | exact (hp3.2 _ ‹_›).2.2 | exact absurd ‹_ < 0› (Nat.not_lt_zero _) | (rw [e']; done) | (rw [e']; rfl) | (simp only [Sv.again_eq, gBs_row, gN_lst]; rw [e']; done) | (simp only [Sv.again_eq, gBs_row, gN_lst]; rw [e']; rfl) | (rw [e', wrap64 (n := t0 + 1) (by omega) (by omega)]; have q := congrArg (Value.int .i64) (bump_t (j := j0) zt).symm; exact q) | (rw [e']; have q := congrArg (Value.int .i64) (bump_f (j := j0) zt).symm; exact q) | (rw [e']; refine congrArg (Value.int .i64) ?_; (try rw [wrap64 (by omega) (by omega)]); simp only [Tn.up, Tn.bump]; first | rfl | (rw [if_pos zj]; done) | (rw [if_neg zj]; done) | (rw [if_pos (show true = true /\ t0 < 2 from ⟨rfl, zt⟩)]; done) | (rw [if_neg (show ¬ (true = true /\ t0 < 2) from fun q => zt q.2)]; done) | (rw [if_neg (show ¬ (false = true /\ t0 < 2) from fun q => Bool.noConfusion q.1)]; done))
   | false =>
     cases d0 with
     | true =>
       cases hlt : decide (t0 < 2) with
       | true =>
         have zt := of_decide_eq_true hlt
         cases hj : decide (j0 < 3) with
         | true =>
           have zj := of_decide_eq_true hj
           have yhBA := hBA
           (try simp only [Sv.again_eq, gBs_row] at yhBA)
           have yhlt := hlt
           (try simp only [Sv.again_eq, gBs_row] at yhlt)
           have yhj := hj
           (try simp only [Sv.again_eq, gBs_row] at yhj)
           have e0' : stepR ⟨j0, true, t0⟩ (⟨⟨e1, L⟩, (⟨⟨⟨s1, l1, h1⟩, ⟨b1, m1, r1⟩⟩, ⟨z1, gN p1 fun i => [st (gT (g1 i))]⟩⟩ : Vl)⟩ : Sv) (⟨⟨e2, M⟩, (⟨⟨⟨s2, l2, h2⟩, ⟨b2, m2, r2⟩⟩, ⟨z2, gN p2 fun i => [st (gT (g2 i))]⟩⟩ : Vl)⟩ : Sv) (gL n3 f3) = (Tn.up ⟨j0, true, t0⟩, Sv.rop 0 (⟨⟨e1, L⟩, (⟨⟨⟨s1, l1, h1⟩, ⟨b1, m1, r1⟩⟩, ⟨z1, gN p1 fun i => [st (gT (g1 i))]⟩⟩ : Vl)⟩ : Sv) (⟨⟨e2, M⟩, (⟨⟨⟨s2, l2, h2⟩, ⟨b2, m2, r2⟩⟩, ⟨z2, gN p2 fun i => [st (gT (g2 i))]⟩⟩ : Vl)⟩ : Sv) []) := by unfold stepR; rw [if_neg (by rw [yhBA]; decide), if_pos zj]
           have e' : stepR ⟨j0, true, t0⟩ (⟨⟨e1, L⟩, ⟨⟨⟨s1, l1, h1⟩, ⟨b1, m1, r1⟩⟩, ⟨z1, gN p1 g1⟩⟩⟩ : Sv) (⟨⟨e2, M⟩, ⟨⟨⟨s2, l2, h2⟩, ⟨b2, m2, r2⟩⟩, ⟨z2, gN p2 g2⟩⟩⟩ : Sv) (gL n3 f3) = (Tn.up ⟨j0, true, t0⟩, Sv.rop 0 (⟨⟨e1, L⟩, (⟨⟨⟨s1, l1, h1⟩, ⟨b1, m1, r1⟩⟩, ⟨z1, gN p1 fun i => [st (gT (g1 i))]⟩⟩ : Vl)⟩ : Sv) (⟨⟨e2, M⟩, (⟨⟨⟨s2, l2, h2⟩, ⟨b2, m2, r2⟩⟩, ⟨z2, gN p2 fun i => [st (gT (g2 i))]⟩⟩ : Vl)⟩ : Sv) []) := e0'
           repeat' (first | exact trivial | (with_reducible first | exact cS | exact cU | exact cJ | exact pSU.r | exact pSU.q | exact qSU | exact pSJ.r | exact pSJ.q | exact qSJ | exact hp3 | exact hp0 | exact hp0.1 | exact hp0.2 | exact (fun h => absurd (hBA.symm.trans h) (by decide)) | exact (fun h => absurd (hlt.symm.trans h) (by decide)) | exact (fun h => absurd (hj.symm.trans h) (by decide)) | exact (fun h => absurd (h : true = false) (by decide)) | exact (fun h => absurd (h : false = true) (by decide))) | refine ⟨?_, ?_⟩ | intro _)
           all_goals first | (with_reducible first | apply qa | apply qb | apply qc | apply qd) | (conv => whnf)
           all_goals first | ((with_reducible show ASat _ _ _ _ _); refine draw_cut tys_ok (l := sl11M) sp11M (by kernel_rfl) pl9M [0, 1, 2, 3, 4, 5, 6, 8, 9, 10, 11, 12, 26, 30, 50, 60] (by kernel_rfl) ?_; apply tail_intro; · (repeat' (first | exact trivial | refine ⟨?_, ?_⟩ | intro _)) <;> (first | exact rfl | omega | assumption | (dsimp only; omega))) | ((with_reducible show ASat _ _ _ _ _); refine draw_cut tys_ok (l := sl11M) sp11M (by kernel_rfl) pl10M [0, 1, 2, 3, 4, 5, 6, 8, 9, 10, 11, 12, 26, 30, 50, 60] (by kernel_rfl) ?_; apply tail_intro; · (repeat' (first | exact trivial | refine ⟨?_, ?_⟩ | intro _)) <;> (first | exact rfl | omega | assumption | (dsimp only; omega))) | skip
           all_goals repeat' (first | exact trivial | refine ⟨?_, ?_⟩ | intro _)
           all_goals first | (with_reducible first | apply qa | apply qb | apply qc | apply qd) | (conv => whnf)
           all_goals first | omega | rfl | exact (hp3.2 _ ‹_›).2.1 | exact (hp3.2 _ ‹_›).2.2 | exact absurd ‹_ < 0› (Nat.not_lt_zero _) | (rw [e']; done) | (rw [e']; rfl) | (simp only [Sv.again_eq, gBs_row, gN_lst]; rw [e']; done) | (simp only [Sv.again_eq, gBs_row, gN_lst]; rw [e']; rfl) | (rw [e', wrap64 (n := t0 + 1) (by omega) (by omega)]; have q := congrArg (Value.int .i64) (bump_t (j := j0) zt).symm; exact q) | (rw [e']; have q := congrArg (Value.int .i64) (bump_f (j := j0) zt).symm; exact q) | (rw [e']; refine congrArg (Value.int .i64) ?_; (try rw [wrap64 (by omega) (by omega)]); simp only [Tn.up, Tn.bump]; first | rfl | (rw [if_pos zj]; done) | (rw [if_neg zj]; done) | (rw [if_pos (show true = true /\ t0 < 2 from ⟨rfl, zt⟩)]; done) | (rw [if_neg (show ¬ (true = true /\ t0 < 2) from fun q => zt q.2)]; done) | (rw [if_neg (show ¬ (false = true /\ t0 < 2) from fun q => Bool.noConfusion q.1)]; done))
         | false =>
           have zj := of_decide_eq_false hj
           have yhBA := hBA
           (try simp only [Sv.again_eq, gBs_row] at yhBA)
           have yhlt := hlt
           (try simp only [Sv.again_eq, gBs_row] at yhlt)
           have yhj := hj
           (try simp only [Sv.again_eq, gBs_row] at yhj)
           have e0' : stepR ⟨j0, true, t0⟩ (⟨⟨e1, L⟩, (⟨⟨⟨s1, l1, h1⟩, ⟨b1, m1, r1⟩⟩, ⟨z1, gN p1 fun i => [st (gT (g1 i))]⟩⟩ : Vl)⟩ : Sv) (⟨⟨e2, M⟩, (⟨⟨⟨s2, l2, h2⟩, ⟨b2, m2, r2⟩⟩, ⟨z2, gN p2 fun i => [st (gT (g2 i))]⟩⟩ : Vl)⟩ : Sv) (gL n3 f3) = (Tn.up ⟨j0, true, t0⟩, Sv.rop 1 (⟨⟨e1, L⟩, (⟨⟨⟨s1, l1, h1⟩, ⟨b1, m1, r1⟩⟩, ⟨z1, gN p1 fun i => [st (gT (g1 i))]⟩⟩ : Vl)⟩ : Sv) (Sv.rop 0 (⟨⟨e1, L⟩, (⟨⟨⟨s1, l1, h1⟩, ⟨b1, m1, r1⟩⟩, ⟨z1, gN p1 fun i => [st (gT (g1 i))]⟩⟩ : Vl)⟩ : Sv) (⟨⟨e2, M⟩, (⟨⟨⟨s2, l2, h2⟩, ⟨b2, m2, r2⟩⟩, ⟨z2, gN p2 fun i => [st (gT (g2 i))]⟩⟩ : Vl)⟩ : Sv) []) (gL n3 f3)) := by unfold stepR; rw [if_neg (by rw [yhBA]; decide), if_neg zj]
           have e' : stepR ⟨j0, true, t0⟩ (⟨⟨e1, L⟩, ⟨⟨⟨s1, l1, h1⟩, ⟨b1, m1, r1⟩⟩, ⟨z1, gN p1 g1⟩⟩⟩ : Sv) (⟨⟨e2, M⟩, ⟨⟨⟨s2, l2, h2⟩, ⟨b2, m2, r2⟩⟩, ⟨z2, gN p2 g2⟩⟩⟩ : Sv) (gL n3 f3) = (Tn.up ⟨j0, true, t0⟩, Sv.rop 1 (⟨⟨e1, L⟩, (⟨⟨⟨s1, l1, h1⟩, ⟨b1, m1, r1⟩⟩, ⟨z1, gN p1 fun i => [st (gT (g1 i))]⟩⟩ : Vl)⟩ : Sv) (Sv.rop 0 (⟨⟨e1, L⟩, (⟨⟨⟨s1, l1, h1⟩, ⟨b1, m1, r1⟩⟩, ⟨z1, gN p1 fun i => [st (gT (g1 i))]⟩⟩ : Vl)⟩ : Sv) (⟨⟨e2, M⟩, (⟨⟨⟨s2, l2, h2⟩, ⟨b2, m2, r2⟩⟩, ⟨z2, gN p2 fun i => [st (gT (g2 i))]⟩⟩ : Vl)⟩ : Sv) []) (gL n3 f3)) := e0'
           repeat' (first | exact trivial | (with_reducible first | exact cS | exact cU | exact cJ | exact pSU.r | exact pSU.q | exact qSU | exact pSJ.r | exact pSJ.q | exact qSJ | exact hp3 | exact hp0 | exact hp0.1 | exact hp0.2 | exact (fun h => absurd (hBA.symm.trans h) (by decide)) | exact (fun h => absurd (hlt.symm.trans h) (by decide)) | exact (fun h => absurd (hj.symm.trans h) (by decide)) | exact (fun h => absurd (h : true = false) (by decide)) | exact (fun h => absurd (h : false = true) (by decide))) | refine ⟨?_, ?_⟩ | intro _)
           all_goals first | (with_reducible first | apply qa | apply qb | apply qc | apply qd) | (conv => whnf)
           all_goals first | ((with_reducible show ASat _ _ _ _ _); refine draw_cut tys_ok (l := sl11M) sp11M (by kernel_rfl) pl9M [0, 1, 2, 3, 4, 5, 6, 8, 9, 10, 11, 12, 26, 30, 50, 60] (by kernel_rfl) ?_; apply tail_intro; · (repeat' (first | exact trivial | refine ⟨?_, ?_⟩ | intro _)) <;> (first | exact rfl | omega | assumption | (dsimp only; omega))) | ((with_reducible show ASat _ _ _ _ _); refine draw_cut tys_ok (l := sl11M) sp11M (by kernel_rfl) pl10M [0, 1, 2, 3, 4, 5, 6, 8, 9, 10, 11, 12, 26, 30, 50, 60] (by kernel_rfl) ?_; apply tail_intro; · (repeat' (first | exact trivial | refine ⟨?_, ?_⟩ | intro _)) <;> (first | exact rfl | omega | assumption | (dsimp only; omega))) | skip
           all_goals repeat' (first | exact trivial | refine ⟨?_, ?_⟩ | intro _)
           all_goals first | (with_reducible first | apply qa | apply qb | apply qc | apply qd) | (conv => whnf)
           all_goals first | omega | rfl | exact (hp3.2 _ ‹_›).2.1 | exact (hp3.2 _ ‹_›).2.2 | exact absurd ‹_ < 0› (Nat.not_lt_zero _) | (rw [e']; done) | (rw [e']; rfl) | (simp only [Sv.again_eq, gBs_row, gN_lst]; rw [e']; done) | (simp only [Sv.again_eq, gBs_row, gN_lst]; rw [e']; rfl) | (rw [e', wrap64 (n := t0 + 1) (by omega) (by omega)]; have q := congrArg (Value.int .i64) (bump_t (j := j0) zt).symm; exact q) | (rw [e']; have q := congrArg (Value.int .i64) (bump_f (j := j0) zt).symm; exact q) | (rw [e']; refine congrArg (Value.int .i64) ?_; (try rw [wrap64 (by omega) (by omega)]); simp only [Tn.up, Tn.bump]; first | rfl | (rw [if_pos zj]; done) | (rw [if_neg zj]; done) | (rw [if_pos (show true = true /\ t0 < 2 from ⟨rfl, zt⟩)]; done) | (rw [if_neg (show ¬ (true = true /\ t0 < 2) from fun q => zt q.2)]; done) | (rw [if_neg (show ¬ (false = true /\ t0 < 2) from fun q => Bool.noConfusion q.1)]; done))
       | false =>
         have zt := of_decide_eq_false hlt
         cases hj : decide (j0 < 3) with
         | true =>
           have zj := of_decide_eq_true hj
           have yhBA := hBA
           (try simp only [Sv.again_eq, gBs_row] at yhBA)
           have yhlt := hlt
           (try simp only [Sv.again_eq, gBs_row] at yhlt)
           have yhj := hj
           (try simp only [Sv.again_eq, gBs_row] at yhj)
           have e0' : stepR ⟨j0, true, t0⟩ (⟨⟨e1, L⟩, (⟨⟨⟨s1, l1, h1⟩, ⟨b1, m1, r1⟩⟩, ⟨z1, gN p1 fun i => [st (gT (g1 i))]⟩⟩ : Vl)⟩ : Sv) (⟨⟨e2, M⟩, (⟨⟨⟨s2, l2, h2⟩, ⟨b2, m2, r2⟩⟩, ⟨z2, gN p2 fun i => [st (gT (g2 i))]⟩⟩ : Vl)⟩ : Sv) (gL n3 f3) = (Tn.up ⟨j0, true, t0⟩, Sv.rop 0 (⟨⟨e1, L⟩, (⟨⟨⟨s1, l1, h1⟩, ⟨b1, m1, r1⟩⟩, ⟨z1, gN p1 fun i => [st (gT (g1 i))]⟩⟩ : Vl)⟩ : Sv) (⟨⟨e2, M⟩, (⟨⟨⟨s2, l2, h2⟩, ⟨b2, m2, r2⟩⟩, ⟨z2, gN p2 fun i => [st (gT (g2 i))]⟩⟩ : Vl)⟩ : Sv) []) := by unfold stepR; rw [if_neg (by rw [yhBA]; decide), if_pos zj]
           have e' : stepR ⟨j0, true, t0⟩ (⟨⟨e1, L⟩, ⟨⟨⟨s1, l1, h1⟩, ⟨b1, m1, r1⟩⟩, ⟨z1, gN p1 g1⟩⟩⟩ : Sv) (⟨⟨e2, M⟩, ⟨⟨⟨s2, l2, h2⟩, ⟨b2, m2, r2⟩⟩, ⟨z2, gN p2 g2⟩⟩⟩ : Sv) (gL n3 f3) = (Tn.up ⟨j0, true, t0⟩, Sv.rop 0 (⟨⟨e1, L⟩, (⟨⟨⟨s1, l1, h1⟩, ⟨b1, m1, r1⟩⟩, ⟨z1, gN p1 fun i => [st (gT (g1 i))]⟩⟩ : Vl)⟩ : Sv) (⟨⟨e2, M⟩, (⟨⟨⟨s2, l2, h2⟩, ⟨b2, m2, r2⟩⟩, ⟨z2, gN p2 fun i => [st (gT (g2 i))]⟩⟩ : Vl)⟩ : Sv) []) := e0'
           repeat' (first | exact trivial | (with_reducible first | exact cS | exact cU | exact cJ | exact pSU.r | exact pSU.q | exact qSU | exact pSJ.r | exact pSJ.q | exact qSJ | exact hp3 | exact hp0 | exact hp0.1 | exact hp0.2 | exact (fun h => absurd (hBA.symm.trans h) (by decide)) | exact (fun h => absurd (hlt.symm.trans h) (by decide)) | exact (fun h => absurd (hj.symm.trans h) (by decide)) | exact (fun h => absurd (h : true = false) (by decide)) | exact (fun h => absurd (h : false = true) (by decide))) | refine ⟨?_, ?_⟩ | intro _)
           all_goals first | (with_reducible first | apply qa | apply qb | apply qc | apply qd) | (conv => whnf)
           all_goals first | ((with_reducible show ASat _ _ _ _ _); refine draw_cut tys_ok (l := sl11M) sp11M (by kernel_rfl) pl9M [0, 1, 2, 3, 4, 5, 6, 8, 9, 10, 11, 12, 26, 30, 50, 60] (by kernel_rfl) ?_; apply tail_intro; · (repeat' (first | exact trivial | refine ⟨?_, ?_⟩ | intro _)) <;> (first | exact rfl | omega | assumption | (dsimp only; omega))) | ((with_reducible show ASat _ _ _ _ _); refine draw_cut tys_ok (l := sl11M) sp11M (by kernel_rfl) pl10M [0, 1, 2, 3, 4, 5, 6, 8, 9, 10, 11, 12, 26, 30, 50, 60] (by kernel_rfl) ?_; apply tail_intro; · (repeat' (first | exact trivial | refine ⟨?_, ?_⟩ | intro _)) <;> (first | exact rfl | omega | assumption | (dsimp only; omega))) | skip
           all_goals repeat' (first | exact trivial | refine ⟨?_, ?_⟩ | intro _)
           all_goals first | (with_reducible first | apply qa | apply qb | apply qc | apply qd) | (conv => whnf)
           all_goals first | omega | rfl | exact (hp3.2 _ ‹_›).2.1 | exact (hp3.2 _ ‹_›).2.2 | exact absurd ‹_ < 0› (Nat.not_lt_zero _) | (rw [e']; done) | (rw [e']; rfl) | (simp only [Sv.again_eq, gBs_row, gN_lst]; rw [e']; done) | (simp only [Sv.again_eq, gBs_row, gN_lst]; rw [e']; rfl) | (rw [e', wrap64 (n := t0 + 1) (by omega) (by omega)]; have q := congrArg (Value.int .i64) (bump_t (j := j0) zt).symm; exact q) | (rw [e']; have q := congrArg (Value.int .i64) (bump_f (j := j0) zt).symm; exact q) | (rw [e']; refine congrArg (Value.int .i64) ?_; (try rw [wrap64 (by omega) (by omega)]); simp only [Tn.up, Tn.bump]; first | rfl | (rw [if_pos zj]; done) | (rw [if_neg zj]; done) | (rw [if_pos (show true = true /\ t0 < 2 from ⟨rfl, zt⟩)]; done) | (rw [if_neg (show ¬ (true = true /\ t0 < 2) from fun q => zt q.2)]; done) | (rw [if_neg (show ¬ (false = true /\ t0 < 2) from fun q => Bool.noConfusion q.1)]; done))
         | false =>
           have zj := of_decide_eq_false hj
           have yhBA := hBA
           (try simp only [Sv.again_eq, gBs_row] at yhBA)
           have yhlt := hlt
           (try simp only [Sv.again_eq, gBs_row] at yhlt)
           have yhj := hj
           (try simp only [Sv.again_eq, gBs_row] at yhj)
           have e0' : stepR ⟨j0, true, t0⟩ (⟨⟨e1, L⟩, (⟨⟨⟨s1, l1, h1⟩, ⟨b1, m1, r1⟩⟩, ⟨z1, gN p1 fun i => [st (gT (g1 i))]⟩⟩ : Vl)⟩ : Sv) (⟨⟨e2, M⟩, (⟨⟨⟨s2, l2, h2⟩, ⟨b2, m2, r2⟩⟩, ⟨z2, gN p2 fun i => [st (gT (g2 i))]⟩⟩ : Vl)⟩ : Sv) (gL n3 f3) = (Tn.up ⟨j0, true, t0⟩, Sv.rop 1 (⟨⟨e1, L⟩, (⟨⟨⟨s1, l1, h1⟩, ⟨b1, m1, r1⟩⟩, ⟨z1, gN p1 fun i => [st (gT (g1 i))]⟩⟩ : Vl)⟩ : Sv) (Sv.rop 0 (⟨⟨e1, L⟩, (⟨⟨⟨s1, l1, h1⟩, ⟨b1, m1, r1⟩⟩, ⟨z1, gN p1 fun i => [st (gT (g1 i))]⟩⟩ : Vl)⟩ : Sv) (⟨⟨e2, M⟩, (⟨⟨⟨s2, l2, h2⟩, ⟨b2, m2, r2⟩⟩, ⟨z2, gN p2 fun i => [st (gT (g2 i))]⟩⟩ : Vl)⟩ : Sv) []) (gL n3 f3)) := by unfold stepR; rw [if_neg (by rw [yhBA]; decide), if_neg zj]
           have e' : stepR ⟨j0, true, t0⟩ (⟨⟨e1, L⟩, ⟨⟨⟨s1, l1, h1⟩, ⟨b1, m1, r1⟩⟩, ⟨z1, gN p1 g1⟩⟩⟩ : Sv) (⟨⟨e2, M⟩, ⟨⟨⟨s2, l2, h2⟩, ⟨b2, m2, r2⟩⟩, ⟨z2, gN p2 g2⟩⟩⟩ : Sv) (gL n3 f3) = (Tn.up ⟨j0, true, t0⟩, Sv.rop 1 (⟨⟨e1, L⟩, (⟨⟨⟨s1, l1, h1⟩, ⟨b1, m1, r1⟩⟩, ⟨z1, gN p1 fun i => [st (gT (g1 i))]⟩⟩ : Vl)⟩ : Sv) (Sv.rop 0 (⟨⟨e1, L⟩, (⟨⟨⟨s1, l1, h1⟩, ⟨b1, m1, r1⟩⟩, ⟨z1, gN p1 fun i => [st (gT (g1 i))]⟩⟩ : Vl)⟩ : Sv) (⟨⟨e2, M⟩, (⟨⟨⟨s2, l2, h2⟩, ⟨b2, m2, r2⟩⟩, ⟨z2, gN p2 fun i => [st (gT (g2 i))]⟩⟩ : Vl)⟩ : Sv) []) (gL n3 f3)) := e0'
           repeat' (first | exact trivial | (with_reducible first | exact cS | exact cU | exact cJ | exact pSU.r | exact pSU.q | exact qSU | exact pSJ.r | exact pSJ.q | exact qSJ | exact hp3 | exact hp0 | exact hp0.1 | exact hp0.2 | exact (fun h => absurd (hBA.symm.trans h) (by decide)) | exact (fun h => absurd (hlt.symm.trans h) (by decide)) | exact (fun h => absurd (hj.symm.trans h) (by decide)) | exact (fun h => absurd (h : true = false) (by decide)) | exact (fun h => absurd (h : false = true) (by decide))) | refine ⟨?_, ?_⟩ | intro _)
           all_goals first | (with_reducible first | apply qa | apply qb | apply qc | apply qd) | (conv => whnf)
           all_goals first | ((with_reducible show ASat _ _ _ _ _); refine draw_cut tys_ok (l := sl11M) sp11M (by kernel_rfl) pl9M [0, 1, 2, 3, 4, 5, 6, 8, 9, 10, 11, 12, 26, 30, 50, 60] (by kernel_rfl) ?_; apply tail_intro; · (repeat' (first | exact trivial | refine ⟨?_, ?_⟩ | intro _)) <;> (first | exact rfl | omega | assumption | (dsimp only; omega))) | ((with_reducible show ASat _ _ _ _ _); refine draw_cut tys_ok (l := sl11M) sp11M (by kernel_rfl) pl10M [0, 1, 2, 3, 4, 5, 6, 8, 9, 10, 11, 12, 26, 30, 50, 60] (by kernel_rfl) ?_; apply tail_intro; · (repeat' (first | exact trivial | refine ⟨?_, ?_⟩ | intro _)) <;> (first | exact rfl | omega | assumption | (dsimp only; omega))) | skip
           all_goals repeat' (first | exact trivial | refine ⟨?_, ?_⟩ | intro _)
           all_goals first | (with_reducible first | apply qa | apply qb | apply qc | apply qd) | (conv => whnf)
           all_goals first | omega | rfl | exact (hp3.2 _ ‹_›).2.1 | exact (hp3.2 _ ‹_›).2.2 | exact absurd ‹_ < 0› (Nat.not_lt_zero _) | (rw [e']; done) | (rw [e']; rfl) | (simp only [Sv.again_eq, gBs_row, gN_lst]; rw [e']; done) | (simp only [Sv.again_eq, gBs_row, gN_lst]; rw [e']; rfl) | (rw [e', wrap64 (n := t0 + 1) (by omega) (by omega)]; have q := congrArg (Value.int .i64) (bump_t (j := j0) zt).symm; exact q) | (rw [e']; have q := congrArg (Value.int .i64) (bump_f (j := j0) zt).symm; exact q) | (rw [e']; refine congrArg (Value.int .i64) ?_; (try rw [wrap64 (by omega) (by omega)]); simp only [Tn.up, Tn.bump]; first | rfl | (rw [if_pos zj]; done) | (rw [if_neg zj]; done) | (rw [if_pos (show true = true /\ t0 < 2 from ⟨rfl, zt⟩)]; done) | (rw [if_neg (show ¬ (true = true /\ t0 < 2) from fun q => zt q.2)]; done) | (rw [if_neg (show ¬ (false = true /\ t0 < 2) from fun q => Bool.noConfusion q.1)]; done))
     | false =>
       have zt : True := trivial
       cases hj : decide (j0 < 3) with
       | true =>
         have zj := of_decide_eq_true hj
         have yhBA := hBA
         (try simp only [Sv.again_eq, gBs_row] at yhBA)
         have yhj := hj
         (try simp only [Sv.again_eq, gBs_row] at yhj)
         have e0' : stepR ⟨j0, false, t0⟩ (⟨⟨e1, L⟩, (⟨⟨⟨s1, l1, h1⟩, ⟨b1, m1, r1⟩⟩, ⟨z1, gN p1 fun i => [st (gT (g1 i))]⟩⟩ : Vl)⟩ : Sv) (⟨⟨e2, M⟩, (⟨⟨⟨s2, l2, h2⟩, ⟨b2, m2, r2⟩⟩, ⟨z2, gN p2 fun i => [st (gT (g2 i))]⟩⟩ : Vl)⟩ : Sv) (gL n3 f3) = (Tn.up ⟨j0, false, t0⟩, Sv.rop 0 (⟨⟨e1, L⟩, (⟨⟨⟨s1, l1, h1⟩, ⟨b1, m1, r1⟩⟩, ⟨z1, gN p1 fun i => [st (gT (g1 i))]⟩⟩ : Vl)⟩ : Sv) (⟨⟨e2, M⟩, (⟨⟨⟨s2, l2, h2⟩, ⟨b2, m2, r2⟩⟩, ⟨z2, gN p2 fun i => [st (gT (g2 i))]⟩⟩ : Vl)⟩ : Sv) []) := by unfold stepR; rw [if_neg (by rw [yhBA]; decide), if_pos zj]
         have e' : stepR ⟨j0, false, t0⟩ (⟨⟨e1, L⟩, ⟨⟨⟨s1, l1, h1⟩, ⟨b1, m1, r1⟩⟩, ⟨z1, gN p1 g1⟩⟩⟩ : Sv) (⟨⟨e2, M⟩, ⟨⟨⟨s2, l2, h2⟩, ⟨b2, m2, r2⟩⟩, ⟨z2, gN p2 g2⟩⟩⟩ : Sv) (gL n3 f3) = (Tn.up ⟨j0, false, t0⟩, Sv.rop 0 (⟨⟨e1, L⟩, (⟨⟨⟨s1, l1, h1⟩, ⟨b1, m1, r1⟩⟩, ⟨z1, gN p1 fun i => [st (gT (g1 i))]⟩⟩ : Vl)⟩ : Sv) (⟨⟨e2, M⟩, (⟨⟨⟨s2, l2, h2⟩, ⟨b2, m2, r2⟩⟩, ⟨z2, gN p2 fun i => [st (gT (g2 i))]⟩⟩ : Vl)⟩ : Sv) []) := e0'
         repeat' (first | exact trivial | (with_reducible first | exact cS | exact cU | exact cJ | exact pSU.r | exact pSU.q | exact qSU | exact pSJ.r | exact pSJ.q | exact qSJ | exact hp3 | exact hp0 | exact hp0.1 | exact hp0.2 | exact (fun h => absurd (hBA.symm.trans h) (by decide)) | exact (fun h => absurd (hj.symm.trans h) (by decide)) | exact (fun h => absurd (h : true = false) (by decide)) | exact (fun h => absurd (h : false = true) (by decide))) | refine ⟨?_, ?_⟩ | intro _)
         all_goals first | (with_reducible first | apply qa | apply qb | apply qc | apply qd) | (conv => whnf)
         all_goals first | ((with_reducible show ASat _ _ _ _ _); refine draw_cut tys_ok (l := sl11M) sp11M (by kernel_rfl) pl9M [0, 1, 2, 3, 4, 5, 6, 8, 9, 10, 11, 12, 26, 30, 50, 60] (by kernel_rfl) ?_; apply tail_intro; · (repeat' (first | exact trivial | refine ⟨?_, ?_⟩ | intro _)) <;> (first | exact rfl | omega | assumption | (dsimp only; omega))) | ((with_reducible show ASat _ _ _ _ _); refine draw_cut tys_ok (l := sl11M) sp11M (by kernel_rfl) pl10M [0, 1, 2, 3, 4, 5, 6, 8, 9, 10, 11, 12, 26, 30, 50, 60] (by kernel_rfl) ?_; apply tail_intro; · (repeat' (first | exact trivial | refine ⟨?_, ?_⟩ | intro _)) <;> (first | exact rfl | omega | assumption | (dsimp only; omega))) | skip
         all_goals repeat' (first | exact trivial | refine ⟨?_, ?_⟩ | intro _)
         all_goals first | (with_reducible first | apply qa | apply qb | apply qc | apply qd) | (conv => whnf)
         all_goals first | omega | rfl | exact (hp3.2 _ ‹_›).2.1 | exact (hp3.2 _ ‹_›).2.2 | exact absurd ‹_ < 0› (Nat.not_lt_zero _) | (rw [e']; done) | (rw [e']; rfl) | (simp only [Sv.again_eq, gBs_row, gN_lst]; rw [e']; done) | (simp only [Sv.again_eq, gBs_row, gN_lst]; rw [e']; rfl) | (rw [e', wrap64 (n := t0 + 1) (by omega) (by omega)]; have q := congrArg (Value.int .i64) (bump_t (j := j0) zt).symm; exact q) | (rw [e']; have q := congrArg (Value.int .i64) (bump_f (j := j0) zt).symm; exact q) | (rw [e']; refine congrArg (Value.int .i64) ?_; (try rw [wrap64 (by omega) (by omega)]); simp only [Tn.up, Tn.bump]; first | rfl | (rw [if_pos zj]; done) | (rw [if_neg zj]; done) | (rw [if_pos (show true = true /\ t0 < 2 from ⟨rfl, zt⟩)]; done) | (rw [if_neg (show ¬ (true = true /\ t0 < 2) from fun q => zt q.2)]; done) | (rw [if_neg (show ¬ (false = true /\ t0 < 2) from fun q => Bool.noConfusion q.1)]; done))
       | false =>
         have zj := of_decide_eq_false hj
         have yhBA := hBA
         (try simp only [Sv.again_eq, gBs_row] at yhBA)
         have yhj := hj
         (try simp only [Sv.again_eq, gBs_row] at yhj)
         have e0' : stepR ⟨j0, false, t0⟩ (⟨⟨e1, L⟩, (⟨⟨⟨s1, l1, h1⟩, ⟨b1, m1, r1⟩⟩, ⟨z1, gN p1 fun i => [st (gT (g1 i))]⟩⟩ : Vl)⟩ : Sv) (⟨⟨e2, M⟩, (⟨⟨⟨s2, l2, h2⟩, ⟨b2, m2, r2⟩⟩, ⟨z2, gN p2 fun i => [st (gT (g2 i))]⟩⟩ : Vl)⟩ : Sv) (gL n3 f3) = (Tn.up ⟨j0, false, t0⟩, Sv.rop 1 (⟨⟨e1, L⟩, (⟨⟨⟨s1, l1, h1⟩, ⟨b1, m1, r1⟩⟩, ⟨z1, gN p1 fun i => [st (gT (g1 i))]⟩⟩ : Vl)⟩ : Sv) (Sv.rop 0 (⟨⟨e1, L⟩, (⟨⟨⟨s1, l1, h1⟩, ⟨b1, m1, r1⟩⟩, ⟨z1, gN p1 fun i => [st (gT (g1 i))]⟩⟩ : Vl)⟩ : Sv) (⟨⟨e2, M⟩, (⟨⟨⟨s2, l2, h2⟩, ⟨b2, m2, r2⟩⟩, ⟨z2, gN p2 fun i => [st (gT (g2 i))]⟩⟩ : Vl)⟩ : Sv) []) (gL n3 f3)) := by unfold stepR; rw [if_neg (by rw [yhBA]; decide), if_neg zj]
         have e' : stepR ⟨j0, false, t0⟩ (⟨⟨e1, L⟩, ⟨⟨⟨s1, l1, h1⟩, ⟨b1, m1, r1⟩⟩, ⟨z1, gN p1 g1⟩⟩⟩ : Sv) (⟨⟨e2, M⟩, ⟨⟨⟨s2, l2, h2⟩, ⟨b2, m2, r2⟩⟩, ⟨z2, gN p2 g2⟩⟩⟩ : Sv) (gL n3 f3) = (Tn.up ⟨j0, false, t0⟩, Sv.rop 1 (⟨⟨e1, L⟩, (⟨⟨⟨s1, l1, h1⟩, ⟨b1, m1, r1⟩⟩, ⟨z1, gN p1 fun i => [st (gT (g1 i))]⟩⟩ : Vl)⟩ : Sv) (Sv.rop 0 (⟨⟨e1, L⟩, (⟨⟨⟨s1, l1, h1⟩, ⟨b1, m1, r1⟩⟩, ⟨z1, gN p1 fun i => [st (gT (g1 i))]⟩⟩ : Vl)⟩ : Sv) (⟨⟨e2, M⟩, (⟨⟨⟨s2, l2, h2⟩, ⟨b2, m2, r2⟩⟩, ⟨z2, gN p2 fun i => [st (gT (g2 i))]⟩⟩ : Vl)⟩ : Sv) []) (gL n3 f3)) := e0'
         repeat' (first | exact trivial | (with_reducible first | exact cS | exact cU | exact cJ | exact pSU.r | exact pSU.q | exact qSU | exact pSJ.r | exact pSJ.q | exact qSJ | exact hp3 | exact hp0 | exact hp0.1 | exact hp0.2 | exact (fun h => absurd (hBA.symm.trans h) (by decide)) | exact (fun h => absurd (hj.symm.trans h) (by decide)) | exact (fun h => absurd (h : true = false) (by decide)) | exact (fun h => absurd (h : false = true) (by decide))) | refine ⟨?_, ?_⟩ | intro _)
         all_goals first | (with_reducible first | apply qa | apply qb | apply qc | apply qd) | (conv => whnf)
         all_goals first | ((with_reducible show ASat _ _ _ _ _); refine draw_cut tys_ok (l := sl11M) sp11M (by kernel_rfl) pl9M [0, 1, 2, 3, 4, 5, 6, 8, 9, 10, 11, 12, 26, 30, 50, 60] (by kernel_rfl) ?_; apply tail_intro; · (repeat' (first | exact trivial | refine ⟨?_, ?_⟩ | intro _)) <;> (first | exact rfl | omega | assumption | (dsimp only; omega))) | ((with_reducible show ASat _ _ _ _ _); refine draw_cut tys_ok (l := sl11M) sp11M (by kernel_rfl) pl10M [0, 1, 2, 3, 4, 5, 6, 8, 9, 10, 11, 12, 26, 30, 50, 60] (by kernel_rfl) ?_; apply tail_intro; · (repeat' (first | exact trivial | refine ⟨?_, ?_⟩ | intro _)) <;> (first | exact rfl | omega | assumption | (dsimp only; omega))) | skip
         all_goals repeat' (first | exact trivial | refine ⟨?_, ?_⟩ | intro _)
         all_goals first | (with_reducible first | apply qa | apply qb | apply qc | apply qd) | (conv => whnf)
         all_goals first | omega | rfl | exact (hp3.2 _ ‹_›).2.1 | exact (hp3.2 _ ‹_›).2.2 | exact absurd ‹_ < 0› (Nat.not_lt_zero _) | (rw [e']; done) | (rw [e']; rfl) | (simp only [Sv.again_eq, gBs_row, gN_lst]; rw [e']; done) | (simp only [Sv.again_eq, gBs_row, gN_lst]; rw [e']; rfl) | (rw [e', wrap64 (n := t0 + 1) (by omega) (by omega)]; have q := congrArg (Value.int .i64) (bump_t (j := j0) zt).symm; exact q) | (rw [e']; have q := congrArg (Value.int .i64) (bump_f (j := j0) zt).symm; exact q) | (rw [e']; refine congrArg (Value.int .i64) ?_; (try rw [wrap64 (by omega) (by omega)]); simp only [Tn.up, Tn.bump]; first | rfl | (rw [if_pos zj]; done) | (rw [if_neg zj]; done) | (rw [if_pos (show true = true /\ t0 < 2 from ⟨rfl, zt⟩)]; done) | (rw [if_neg (show ¬ (true = true /\ t0 < 2) from fun q => zt q.2)]; done) | (rw [if_neg (show ¬ (false = true /\ t0 < 2) from fun q => Bool.noConfusion q.1)]; done))
 . cases h
theorem ecl2 (e : En) : e.clean.clean = e.clean := clean_fixE (clean_tidyE e)
theorem join_cl (a b : Sv) : Sv.join a.clean b.clean = Sv.join a b := by
 rw [Sv.join_is, Sv.join_is]
 have h1 : En.join a.e.clean b.e.clean = En.join a.e b.e := by unfold En.join; rw [ecl2, ecl2]
 have h2 : Vl.join a.v.of b.v.of = Vl.join a.v b.v := by
  rw [Vl.join_eq, Vl.join_eq, of_rclean, of_rclean]; unfold Vl.rjoin; rw [rclean2, rclean2]; simp only [Vl.rclean, cleanS_idem]
 show (⟨En.join a.e.clean b.e.clean, Vl.join a.v.of b.v.of⟩ : Sv) = _
 rw [h1, h2]
theorem vjoin_of (x y : Vl) : Vl.join x.of y.of = Vl.join x y := by
 rw [Vl.join_eq, Vl.join_eq, of_rclean, of_rclean]; unfold Vl.rjoin; rw [rclean2, rclean2]; simp only [Vl.rclean, cleanS_idem]
theorem narrow_cl (a b : Sv) : Sv.narrow a.clean b.clean = Sv.narrow a b := by
 rw [Sv.narrow_is, Sv.narrow_is]
 have h1 : En.narrow a.e.clean b.e.clean = En.narrow a.e b.e := by unfold En.narrow; rw [ecl2, ecl2]
 have h2 : Vl.narrow a.v.of b.v.of = Vl.narrow a.v b.v := by
  rw [Vl.narrow_cases, Vl.narrow_cases, Vl.of_of, Vl.of_of, Vl.leq_of]
  have : Vl.none b.v.of = Vl.none b.v := by unfold Vl.none; rw [Vl.of_of, of_null, of_names, ofS_eq, ofS_eq, cleanS_idem]
  rw [this]
 show (⟨En.narrow a.e.clean b.e.clean, Vl.narrow a.v.of b.v.of⟩ : Sv) = _
 rw [h1, h2]
theorem widen_cl (a b : Sv) (l : List Int) (he : inRE b.e) (hv : b.v.inR) : Sv.widen a.clean b l = Sv.widen a b l := by
 rw [Sv.widen_is l he hv, Sv.widen_is l he hv]
 have h1 : En.widen a.e.clean b.e l = En.widen a.e b.e l := by unfold En.widen; rw [ecl2]
 have h2 : Vl.widen a.v.of b.v l = Vl.widen a.v b.v l := by
  unfold Vl.widen; rw [Vl.of_of, of_null, of_names]; simp only [ofS_eq, cleanS_idem]
 show (⟨En.widen a.e.clean b.e l, Vl.widen a.v.of b.v l⟩ : Sv) = _
 rw [h1, h2]
theorem step_eq {N : Nat} (t : Tn) {a b : Sv} (l : List Int) (ha : Sv.fit N a) (hb : Sv.fit N b) (hN : N <= 1000000000) : stepM t a b l = stepR t a b l := by
 unfold stepM stepR
 rw [Sv.leq_clean, Sv.leq_clean, Sv.leq_eq, Sv.leq_eq, Sv.clean_eq, <- Sv.clean_eq, narrow_cl, join_cl, Sv.narrow_ref a b [], Sv.join_ref a b []]
 have hj : Sv.fit (N + N) (Sv.rop 0 a b []) := Sv.fit.rop0 ha hb (by omega)
 rw [widen_cl a (Sv.rop 0 a b []) l hj.inRE hj.inR, Sv.widen_ref l hj.inRE hj.inR]
 have e1 : decide (t.t ≥ 2) = decide (t.t > 1) := by
  by_cases h : t.t ≥ 2
  . rw [decide_eq_true h, decide_eq_true (by omega)]
  . rw [decide_eq_false h, decide_eq_false (by omega)]
 rw [e1]
 have e2 : (t.early = true) ↔ (t.j < 3) := by unfold Tn.early; exact decide_eq_true_iff
 split
 . rw [Sv.clean_eq]
 . by_cases h : t.j < 3
   . rw [if_pos (e2.2 h), if_pos h]
   . rw [if_neg (fun q => h (e2.1 q)), if_neg h]
theorem step_fit {N : Nat} (t : Tn) {a b : Sv} {l : List Int} (ha : Sv.fit N a) (hb : Sv.fit N b) (hN : N <= 1000000000) (hl : ∀ z, z ∈ l -> rI z) : Sv.fit (N + (N + N)) (stepM t a b l).2 := by
 have hA := ha.clean
 have hB := hb.clean
 unfold stepM
 split
 . split
   . exact hA.mono (by omega)
   . exact (hA.narrow hB).mono (by omega)
 . have hJ := hA.join hB (by omega)
   split
   . exact hJ.mono (by omega)
   . exact hA.widen hJ (by omega) hl
theorem stepR_fit {N : Nat} (t : Tn) {a b : Sv} {l : List Int} (ha : Sv.fit N a) (hb : Sv.fit N b) (hN : N <= 1000000000) (hl : ∀ z, z ∈ l -> rI z) : Sv.fit (N + (N + N)) (stepR t a b l).2 := by
 rw [<- step_eq t l ha hb hN]; exact step_fit t ha hb hN hl
theorem num_nleq : Vl.leq (numV 3) (numV 1) = false := by
 unfold Vl.leq; rw [num_of_i, num_of_i]; kernel_rfl
theorem mlive {f f' h : Nat -> List DV} {V W : Vl} (hV : V = numV 1) (hW : W = numV 3) : stepM ⟨0, false, 0⟩ ⟨⟨false, gBs 0 f⟩, V⟩ ⟨⟨false, gBs 0 f'⟩, W⟩ (gL 0 h) = (⟨1, false, 0⟩, ⟨⟨false, []⟩, JV⟩) := by
 subst hV; subst hW
 unfold stepM
 have e1 : Sv.leq ⟨⟨false, gBs 0 f'⟩, numV 3⟩ ⟨⟨false, gBs 0 f⟩, numV 1⟩ = false := by
  unfold Sv.leq; rw [num_nleq, Bool.and_false]
 rw [Sv.leq_clean, e1, if_neg Bool.false_ne_true, if_pos (by decide), join_cl, Sv.join_is]
 have e2 : En.join ⟨false, gBs 0 f⟩ ⟨false, gBs 0 f'⟩ = ⟨false, []⟩ := by rw [join_case]; rfl
 show (_, (⟨En.join ⟨false, gBs 0 f⟩ ⟨false, gBs 0 f'⟩, Vl.join (numV 1) (numV 3)⟩ : Sv)) = _
 rw [e2, <- vjoin_of]; rfl
theorem num_fit {f : Nat -> List DV} {V : Vl} {n : Int} (hV : V = numV n) (hn : rI n) : Sv.fit 1 ⟨⟨false, gBs 0 f⟩, V⟩ := by
 subst hV
 exact ⟨fun x hx => (by cases hx), ⟨⟨Nat.zero_le _, fun _ _ => rfl⟩, one_inR (n := n) hn⟩, Nat.zero_le _, fun x hx => (by cases hx), Nat.zero_le _⟩
def nilIp : List Nat -> List Ic -> List Ic
 | _, [] => []
 | [], x :: xs => nilI 1 x :: nilIp [] xs
 | z :: zs, x :: xs => nilI z x :: nilIp zs xs
def nilAp : List Nat -> Ar -> Ar
 | [], .c x => .c (nilI 1 x)
 | z :: _, .c x => .c (nilI z x)
 | zs, .agg xs => .agg (nilIp zs xs)
 | _, x => x
def nilP : List (List Nat) -> List Ar -> List Ar
 | _, [] => []
 | [], x :: xs => nilAp [] x :: nilP [] xs
 | z :: zs, x :: xs => nilAp z x :: nilP zs xs
def FP (zs : List (List Nat)) (F : List Ar -> Option Rs) (qs : List Ar) : Option Rs :=
 match arsRows qs with
 | [] => match F (nilP zs qs) with
   | some ⟨p, r, []⟩ => some ⟨p, r, []⟩
   | _ => none
 | _ => none
theorem nilIp_eq : ∀ (zs : List Nat) (xs : List Ic), icsEq xs (nilIp zs xs)
 | _, [] => by unfold nilIp; trivial
 | [], x :: xs => by unfold nilIp; exact ⟨nilI_eq 1 x, nilIp_eq [] xs⟩
 | z :: zs, x :: xs => by unfold nilIp; exact ⟨nilI_eq z x, nilIp_eq zs xs⟩
theorem nilAp_eq : ∀ (zs : List Nat) (x : Ar), arEq x (nilAp zs x)
 | [], .c x => nilI_eq 1 x
 | z :: _, .c x => nilI_eq z x
 | [], .agg xs => nilIp_eq [] xs
 | z :: zs, .agg xs => nilIp_eq (z :: zs) xs
 | [], .rp _ => rfl
 | _ :: _, .rp _ => rfl
 | [], .fv _ => rfl
 | _ :: _, .fv _ => rfl
theorem nilP_eq : ∀ (zs : List (List Nat)) (xs : List Ar), arsEq xs (nilP zs xs)
 | _, [] => by unfold nilP; trivial
 | [], x :: xs => by unfold nilP; exact ⟨nilAp_eq [] x, nilP_eq [] xs⟩
 | z :: zs, x :: xs => by unfold nilP; exact ⟨nilAp_eq z x, nilP_eq zs xs⟩
theorem nilI_rows (z : Nat) (x : Ic) (xs ys : List Ic) (h : icRows xs = icRows ys) : icRows (nilI z x :: xs) = icRows (x :: ys) := by
 cases x with
 | d x => simp only [nilI, icRows]; exact h
 | ow a b c => simp only [nilI, icRows]; rw [h]
theorem nilIp_rows : ∀ (zs : List Nat) (xs : List Ic), icRows (nilIp zs xs) = icRows xs
 | _, [] => by unfold nilIp; rfl
 | [], x :: xs => by unfold nilIp; exact nilI_rows 1 x _ _ (nilIp_rows [] xs)
 | z :: zs, x :: xs => by unfold nilIp; exact nilI_rows z x _ _ (nilIp_rows zs xs)
theorem nilAp_rows : ∀ (zs : List Nat) (x : Ar), arRows (nilAp zs x) = arRows x
 | [], .c x => by cases x <;> rfl
 | z :: _, .c x => by cases x <;> rfl
 | [], .agg xs => nilIp_rows [] xs
 | z :: zs, .agg xs => nilIp_rows (z :: zs) xs
 | [], .rp _ => rfl
 | _ :: _, .rp _ => rfl
 | [], .fv _ => rfl
 | _ :: _, .fv _ => rfl
theorem nilP_rows : ∀ (zs : List (List Nat)) (xs : List Ar), arsRows (nilP zs xs) = arsRows xs
 | _, [] => by unfold nilP; rfl
 | [], x :: xs => by unfold nilP; simp only [arsRows]; rw [nilAp_rows, nilP_rows [] xs]
 | z :: zs, x :: xs => by unfold nilP; simp only [arsRows]; rw [nilAp_rows, nilP_rows zs xs]
theorem fc_nilp {P : Program} {f : Nat} {F : List Ar -> Option Rs} (zs : List (List Nat)) (h : FC P f F) : FC P f (FP zs F) := by
 intro qs pre r us he hp
 unfold FP at he
 split at he
 . rename_i h0
   split at he
   . rename_i p r' hF
     cases he
     exact FCat.of_eq (nilP_eq zs qs) h0 (by rw [nilP_rows]; exact h0) (h _ _ _ _ hF hp)
   . cases he
 . cases he
abbrev zTGG : List (List Nat) := [[], [1, 9], [1, 9]]
theorem mlive2 (f f' h : Nat -> List DV) : stepM ⟨0, false, 0⟩ ⟨⟨false, gBs 0 f⟩, ⟨⟨⟨(Sp.of 1 1).some, (Sp.of 1 1).lo, (Sp.of 1 1).hi⟩, ⟨(Cg.of 0 1).some, (Cg.of 0 1).m, (Cg.of 0 1).r⟩⟩, ⟨false, []⟩⟩⟩ ⟨⟨false, gBs 0 f'⟩, ⟨⟨⟨(Sp.of 3 3).some, (Sp.of 3 3).lo, (Sp.of 3 3).hi⟩, ⟨(Cg.of 0 3).some, (Cg.of 0 3).m, (Cg.of 0 3).r⟩⟩, ⟨false, []⟩⟩⟩ (gL 0 h) = (⟨1, false, 0⟩, ⟨⟨false, []⟩, JV⟩) := mlive rfl rfl
theorem rI1 : rI 1 := by unfold rI; decide
theorem rI3 : rI 3 := by unfold rI; decide
theorem jv_names : JV.t.names = [] := by
 show ofS (ofS (numV 1).of.t.names ++ ofS (numV 3).of.t.names) = []
 rw [of_names, of_names]
 show ofS (ofS (ofS []) ++ ofS (ofS [])) = []
 rw [ofS_eq, ofS_eq, ofS_eq]; rfl
theorem jv_has : Vl.hasInt JV 1 = true /\ Vl.hasInt JV 3 = true /\ Vl.hasInt JV 4 = false := by
 unfold Vl.hasInt
 rw [jv_i]; decide
theorem jv_h1 (b : Bool) (l : List ByteArray) : Vl.hasInt ⟨⟨⟨JV.i.s.some, JV.i.s.lo, JV.i.s.hi⟩, ⟨JV.i.c.some, JV.i.c.m, JV.i.c.r⟩⟩, ⟨b, l⟩⟩ 1 = true := jv_has.1
theorem jv_h3 (b : Bool) (l : List ByteArray) : Vl.hasInt ⟨⟨⟨JV.i.s.some, JV.i.s.lo, JV.i.s.hi⟩, ⟨JV.i.c.some, JV.i.c.m, JV.i.c.r⟩⟩, ⟨b, l⟩⟩ 3 = true := jv_has.2.1
theorem jv_h4 (b : Bool) (l : List ByteArray) : Vl.hasInt ⟨⟨⟨JV.i.s.some, JV.i.s.lo, JV.i.s.hi⟩, ⟨JV.i.c.some, JV.i.c.m, JV.i.c.r⟩⟩, ⟨b, l⟩⟩ 4 = false := jv_has.2.2
def FMLives : List Ar -> Option Rs
 | [] => some ⟨True, .va (.c (.d (bo (true)))), []⟩
 | _ => none
theorem fcMLives : FC Tryz.prog 39 FMLives := by
 intro xs pre r us h hp
 unfold FMLives at h
 split at h
 . cases h
   refine fcat tys_ok (l := [(59, ⟨[], FVNum⟩), (37, ⟨[], FP zTGG FMStep⟩), (85, ⟨[], FN 1 FVHasInt⟩)]) ⟨fcVNum, fc_nilp zTGG fcMStep, fc_nil 1 fcVHasInt, trivial⟩ Tryz.func39 rfl (by kernel_rfl) true ?_
   have rows0 : RowsOk 0 fun _ => [] := ⟨fun i h => absurd h (Nat.not_lt_zero i)⟩
   repeat' (first | exact trivial | (refine ⟨1, by decide, num_fit (n := 1) rfl rI1, num_fit (n := 3) rfl rI3⟩) | (with_reducible exact rows0) | refine ⟨?_, ?_⟩ | intro _)
   all_goals first | (with_reducible first | apply qa | apply qb | apply qc | apply qd) | (conv => whnf)
   all_goals (try simp only [gN_lst, mlive2, jv_names, jv_h1, jv_h3, jv_h4] at *)
   all_goals first | omega | decide | exact rows0 | exact Nat.zero_le _ | (intro h; exact absurd h (Nat.not_lt_zero _)) | (exact absurd ‹_ < 0› (Nat.not_lt_zero _)) | (exact absurd ‹_ < List.length []› (Nat.not_lt_zero _)) | rfl | (exact absurd ‹true = false› (by decide)) | (exact absurd ‹(_ && _) = false› (by decide))
 . cases h
def FMixSteps : List Ar -> Option Rs
 | [.agg [.d (.v (.int .i64 j0)), .d (.v (.bool _)), .d (.v (.int .i64 t0)), .d (.v (.bool e1)), .d (.lst 9 n1 f1), .d (.v (.bool s1)), .d (.v (.int .i64 l1)), .d (.v (.int .i64 h1)), .d (.v (.bool b1)), .d (.v (.int .i64 m1)), .d (.v (.int .i64 r1)), .d (.v (.bool z1)), .d (.lst 1 p1 g1), .d (.v (.bool e2)), .d (.lst 9 n2 f2), .d (.v (.bool s2)), .d (.v (.int .i64 l2)), .d (.v (.int .i64 h2)), .d (.v (.bool b2)), .d (.v (.int .i64 m2)), .d (.v (.int .i64 r2)), .d (.v (.bool z2)), .d (.lst 1 p2 g2), .d (.lst 1 n3 f3)]] => some ⟨((rI j0 /\ rI t0) /\ ((n1 <= 1099511627776 /\ RowsOk n1 f1) /\ ((p1 * 16 <= 140737488351232 /\ ∀ i, i < p1 -> g1 i = [st (gT (g1 i))]) /\ Sp.inR ⟨s1, l1, h1⟩ /\ Cg.inR ⟨b1, m1, r1⟩)) /\ ((n2 <= 1099511627776 /\ RowsOk n2 f2) /\ ((p2 * 16 <= 140737488351232 /\ ∀ i, i < p2 -> g2 i = [st (gT (g2 i))]) /\ Sp.inR ⟨s2, l2, h2⟩ /\ Cg.inR ⟨b2, m2, r2⟩)) /\ (n3 <= 9223372036854775807 /\ ∀ i, i < n3 -> f3 i = [it (gI (f3 i))] /\ rI (gI (f3 i))) /\ ∃ N, N <= 300000000 /\ Sv.fit N (⟨⟨e1, gBs n1 f1⟩, ⟨⟨⟨s1, l1, h1⟩, ⟨b1, m1, r1⟩⟩, ⟨z1, gN p1 g1⟩⟩⟩ : Sv) /\ Sv.fit N (⟨⟨e2, gBs n2 f2⟩, ⟨⟨⟨s2, l2, h2⟩, ⟨b2, m2, r2⟩⟩, ⟨z2, gN p2 g2⟩⟩⟩ : Sv)), .va (.c (.d (bo (true)))), []⟩
 | _ => none
abbrev pl12M : Plan := .all [(8, .take 9 (.take 10 (.take 11 (.all [(12, .all [(13, .all [(14, .all [(15, .done)])])]), (13, .all [(12, .all [(14, .all [(15, .done)])])])])))), (12, .all [(8, .take 9 (.take 10 (.take 11 (.all [(13, .all [(14, .all [(15, .done)])])])))), (13, .all [(8, .take 9 (.take 10 (.take 11 (.all [(14, .all [(15, .done)])]))))])]), (13, .all [(8, .take 9 (.take 10 (.take 11 (.all [(12, .all [(14, .all [(15, .done)])])])))), (12, .all [(8, .take 9 (.take 10 (.take 11 (.all [(14, .all [(15, .done)])]))))])])]
abbrev sl13M : List (Nat × Sm) := [(37, ⟨[], FMStep⟩), (38, ⟨[], FRMStep⟩), (36, ⟨[], FRTExact⟩), (39, ⟨[], FMLives⟩)]
theorem sp13M : sumsOk Tryz.prog sl13M := ⟨fcMStep, fcRMStep, fcRTExact, fcMLives, trivial⟩
theorem fcMixSteps : FC Tryz.prog 7 FMixSteps := by
 intro xs pre r us h hp
 unfold FMixSteps at h
 split at h
 . rename_i j0 d0 t0 e1 n1 f1 s1 l1 h1 b1 m1 r1 z1 p1 g1 e2 n2 f2 s2 l2 h2 b2 m2 r2 z2 p2 g2 n3 f3
   cases h
   have hp0 := hp
   refine FCat.deep (ys := [.agg [.d (.v (.int .i64 j0)), .d (.v (.bool d0)), .d (.v (.int .i64 t0)), .d (.v (.bool e1)), .d (.lst 9 n1 (rwB (gBs n1 f1))), .d (.v (.bool s1)), .d (.v (.int .i64 l1)), .d (.v (.int .i64 h1)), .d (.v (.bool b1)), .d (.v (.int .i64 m1)), .d (.v (.int .i64 r1)), .d (.v (.bool z1)), .d (.lst 1 p1 fun i => [st (gT (g1 i))]), .d (.v (.bool e2)), .d (.lst 9 n2 (rwB (gBs n2 f2))), .d (.v (.bool s2)), .d (.v (.int .i64 l2)), .d (.v (.int .i64 h2)), .d (.v (.bool b2)), .d (.v (.int .i64 m2)), .d (.v (.int .i64 r2)), .d (.v (.bool z2)), .d (.lst 1 p2 fun i => [st (gT (g2 i))]), .d (.lst 1 n3 fun i => [it (gI (f3 i))])]]) ?_ ?_
   . repeat' (first | exact trivial | exact rfl | exact DvE.refl _ | refine ⟨?_, ?_⟩ | fail)
     all_goals first | first | exact canonB hp0.2.1.1.2.h | exact canonB hp0.2.2.1.1.2.h | (exact .rows fun i hi => by rw [hp0.2.1.2.1.2 i hi]; exact ⟨rfl, fun j a b ha hb => by have hb : [st (gT (g1 i))][j]? = some b := hb; rw [ha] at hb; cases hb; exact .refl _⟩) | (exact .rows fun i hi => by rw [hp0.2.2.1.2.1.2 i hi]; exact ⟨rfl, fun j a b ha hb => by have hb : [st (gT (g2 i))][j]? = some b := hb; rw [ha] at hb; cases hb; exact .refl _⟩) | (exact .rows fun i hi => by rw [(hp0.2.2.2.1.2 i hi).1]; exact ⟨rfl, fun j a b ha hb => by have hb : [it (gI (f3 i))][j]? = some b := hb; rw [ha] at hb; cases hb; exact .refl _⟩)
   refine fcat tys_ok (l := sl13M) sp13M Tryz.func7 rfl (by kernel_rfl) true ?_
   obtain ⟨hT, hG1, hG2, hLd, N, hN, hfa, hfb⟩ := hp0
   have hp0 := hT
   have hp1 := hG1
   have hp2 := hG2
   have hp3 : n3 <= 9223372036854775807 /\ ∀ i, i < n3 -> (fun i => [it (gI (f3 i))]) i = [it (gI ((fun i => [it (gI (f3 i))]) i))] /\ rI (gI ((fun i => [it (gI (f3 i))]) i)) := ⟨hLd.1, fun i hi => ⟨rfl, (hLd.2 i hi).2⟩⟩
   unfold rI at hp0
   have hA1 := hp1.1
   have hV1 := hp1.2
   have hvR1 := hV1.2
   simp only [Sp.inR, Cg.inR] at hvR1
   have hL1 := okL_rows hA1.2
   have hn1 := hA1.1
   have hlen1 := gBs_length n1 f1
   generalize gBs n1 f1 = L at *
   clear hA1 hp1
   subst hlen1
   have hrow1 := okL_row hL1
   have hvok1 : okV (⟨⟨⟨s1, l1, h1⟩, ⟨b1, m1, r1⟩⟩, ⟨z1, gN p1 fun i => [st (gT (g1 i))]⟩⟩ : Vl) := ⟨⟨(by rw [gN_length]; exact hV1.1.1), fun _ _ => rfl⟩, hV1.2⟩
   have hcr1 := okL_row (clean_ok (e := ⟨e1, L⟩) hL1)
   have hcl1 : (En.clean ⟨e1, L⟩).binds.length <= L.length := clean_len ⟨e1, L⟩
   have hA2 := hp2.1
   have hV2 := hp2.2
   have hvR2 := hV2.2
   simp only [Sp.inR, Cg.inR] at hvR2
   have hL2 := okL_rows hA2.2
   have hn2 := hA2.1
   have hlen2 := gBs_length n2 f2
   generalize gBs n2 f2 = M at *
   clear hA2 hp2
   subst hlen2
   have hrow2 := okL_row hL2
   have hvok2 : okV (⟨⟨⟨s2, l2, h2⟩, ⟨b2, m2, r2⟩⟩, ⟨z2, gN p2 fun i => [st (gT (g2 i))]⟩⟩ : Vl) := ⟨⟨(by rw [gN_length]; exact hV2.1.1), fun _ _ => rfl⟩, hV2.2⟩
   have hcr2 := okL_row (clean_ok (e := ⟨e2, M⟩) hL2)
   have hcl2 : (En.clean ⟨e2, M⟩).binds.length <= M.length := clean_len ⟨e2, M⟩
   have hlad : ∀ z, z ∈ (gL n3 fun i => [it (gI (f3 i))]) -> rI z := fun z hz => gL_r hp3.2 z hz
   have oS : Sv.fit (N) (⟨⟨e1, gBs L.length (rwB L)⟩, (⟨⟨⟨s1, l1, h1⟩, ⟨b1, m1, r1⟩⟩, ⟨z1, gN p1 fun i => [st (gT (g1 i))]⟩⟩ : Vl)⟩ : Sv) := by rw [gBs_row]; exact hfa
   have cS : ((L).length <= 1099511627776 /\ RowsOk (L).length (rwB L)) /\ ((p1 * 16 <= 140737488351232 /\ ∀ i, i < p1 -> [st (gT (g1 i))] = [st (gT [st (gT (g1 i))])]) /\ Sp.inR ⟨s1, l1, h1⟩ /\ Cg.inR ⟨b1, m1, r1⟩) := ⟨⟨hn1, hrow1⟩, ⟨⟨hV1.1.1, fun _ _ => rfl⟩, hV1.2⟩⟩
   have oU : Sv.fit (N) (⟨⟨e2, gBs M.length (rwB M)⟩, (⟨⟨⟨s2, l2, h2⟩, ⟨b2, m2, r2⟩⟩, ⟨z2, gN p2 fun i => [st (gT (g2 i))]⟩⟩ : Vl)⟩ : Sv) := by rw [gBs_row]; exact hfb
   have cU : ((M).length <= 1099511627776 /\ RowsOk (M).length (rwB M)) /\ ((p2 * 16 <= 140737488351232 /\ ∀ i, i < p2 -> [st (gT (g2 i))] = [st (gT [st (gT (g2 i))])]) /\ Sp.inR ⟨s2, l2, h2⟩ /\ Cg.inR ⟨b2, m2, r2⟩) := ⟨⟨hn2, hrow2⟩, ⟨⟨hV2.1.1, fun _ _ => rfl⟩, hV2.2⟩⟩
   have oX : Sv.fit (N + (N + N)) (Sv.again ((stepM ⟨j0, d0, t0⟩ (⟨⟨e1, gBs L.length (rwB L)⟩, (⟨⟨⟨s1, l1, h1⟩, ⟨b1, m1, r1⟩⟩, ⟨z1, gN p1 fun i => [st (gT (g1 i))]⟩⟩ : Vl)⟩ : Sv) (⟨⟨e2, gBs M.length (rwB M)⟩, (⟨⟨⟨s2, l2, h2⟩, ⟨b2, m2, r2⟩⟩, ⟨z2, gN p2 fun i => [st (gT (g2 i))]⟩⟩ : Vl)⟩ : Sv) (gL n3 fun i => [it (gI (f3 i))])).2)) := (step_fit ⟨j0, d0, t0⟩ oS oU (by omega) hlad).ag
   have cX := Sv.fit.cond (s := (stepM ⟨j0, d0, t0⟩ (⟨⟨e1, gBs L.length (rwB L)⟩, (⟨⟨⟨s1, l1, h1⟩, ⟨b1, m1, r1⟩⟩, ⟨z1, gN p1 fun i => [st (gT (g1 i))]⟩⟩ : Vl)⟩ : Sv) (⟨⟨e2, gBs M.length (rwB M)⟩, (⟨⟨⟨s2, l2, h2⟩, ⟨b2, m2, r2⟩⟩, ⟨z2, gN p2 fun i => [st (gT (g2 i))]⟩⟩ : Vl)⟩ : Sv) (gL n3 fun i => [it (gI (f3 i))])).2) (by have := oX; rw [Sv.again_eq] at this; exact this) (by omega)
   have oY : Sv.fit (N + (N + N)) (Sv.again ((stepR ⟨j0, d0, t0⟩ (⟨⟨e1, gBs L.length (rwB L)⟩, (⟨⟨⟨s1, l1, h1⟩, ⟨b1, m1, r1⟩⟩, ⟨z1, gN p1 fun i => [st (gT (g1 i))]⟩⟩ : Vl)⟩ : Sv) (⟨⟨e2, gBs M.length (rwB M)⟩, (⟨⟨⟨s2, l2, h2⟩, ⟨b2, m2, r2⟩⟩, ⟨z2, gN p2 fun i => [st (gT (g2 i))]⟩⟩ : Vl)⟩ : Sv) (gL n3 fun i => [it (gI (f3 i))])).2)) := (stepR_fit ⟨j0, d0, t0⟩ oS oU (by omega) hlad).ag
   have cY := Sv.fit.cond (s := (stepR ⟨j0, d0, t0⟩ (⟨⟨e1, gBs L.length (rwB L)⟩, (⟨⟨⟨s1, l1, h1⟩, ⟨b1, m1, r1⟩⟩, ⟨z1, gN p1 fun i => [st (gT (g1 i))]⟩⟩ : Vl)⟩ : Sv) (⟨⟨e2, gBs M.length (rwB M)⟩, (⟨⟨⟨s2, l2, h2⟩, ⟨b2, m2, r2⟩⟩, ⟨z2, gN p2 fun i => [st (gT (g2 i))]⟩⟩ : Vl)⟩ : Sv) (gL n3 fun i => [it (gI (f3 i))])).2) (by have := oY; rw [Sv.again_eq] at this; exact this) (by omega)
   have pSU := Sv.fit.pair oS oU (by omega)
   have qSU : L.length + M.length <= 1099511627776 := by have := pSU.s; simpa only [gBs_length] using this
   have hSU : ∃ N, N <= 1000000000 /\ Sv.fit N (⟨⟨e1, gBs L.length (rwB L)⟩, (⟨⟨⟨s1, l1, h1⟩, ⟨b1, m1, r1⟩⟩, ⟨z1, gN p1 fun i => [st (gT (g1 i))]⟩⟩ : Vl)⟩ : Sv) /\ Sv.fit N (⟨⟨e2, gBs M.length (rwB M)⟩, (⟨⟨⟨s2, l2, h2⟩, ⟨b2, m2, r2⟩⟩, ⟨z2, gN p2 fun i => [st (gT (g2 i))]⟩⟩ : Vl)⟩ : Sv) := ⟨N, by omega, oS, oU⟩
   have hst := step_eq ⟨j0, d0, t0⟩ (gL n3 fun i => [it (gI (f3 i))]) oS oU (by omega)
   have hXY : (Sv.again ((stepM ⟨j0, d0, t0⟩ (⟨⟨e1, gBs L.length (rwB L)⟩, (⟨⟨⟨s1, l1, h1⟩, ⟨b1, m1, r1⟩⟩, ⟨z1, gN p1 fun i => [st (gT (g1 i))]⟩⟩ : Vl)⟩ : Sv) (⟨⟨e2, gBs M.length (rwB M)⟩, (⟨⟨⟨s2, l2, h2⟩, ⟨b2, m2, r2⟩⟩, ⟨z2, gN p2 fun i => [st (gT (g2 i))]⟩⟩ : Vl)⟩ : Sv) (gL n3 fun i => [it (gI (f3 i))])).2)) = (Sv.again ((stepR ⟨j0, d0, t0⟩ (⟨⟨e1, gBs L.length (rwB L)⟩, (⟨⟨⟨s1, l1, h1⟩, ⟨b1, m1, r1⟩⟩, ⟨z1, gN p1 fun i => [st (gT (g1 i))]⟩⟩ : Vl)⟩ : Sv) (⟨⟨e2, gBs M.length (rwB M)⟩, (⟨⟨⟨s2, l2, h2⟩, ⟨b2, m2, r2⟩⟩, ⟨z2, gN p2 fun i => [st (gT (g2 i))]⟩⟩ : Vl)⟩ : Sv) (gL n3 fun i => [it (gI (f3 i))])).2)) := by rw [hst]
   have hT1 := congrArg (fun q => q.1.j) hst
   have hT2 := congrArg (fun q => q.1.d) hst
   have hT3 := congrArg (fun q => q.1.t) hst
   repeat' (first | exact trivial | (with_reducible first | exact cS | exact cU | exact cX | exact cY | exact pSU.r | exact pSU.q | exact qSU | exact hSU | exact hp3 | exact hp0 | exact hp0.1 | exact hp0.2 | exact hXY) | refine ⟨?_, ?_⟩ | intro _)
   all_goals first | (with_reducible first | apply qa | apply qb | apply qc | apply qd) | (conv => whnf)
   all_goals first | ((with_reducible show ASat _ _ _ _ _); refine draw_sto tys_ok (l := sl13M) sp13M (by kernel_rfl) 8 [] pl12M [0, 1, 2, 3, 4, 5, 6] (by kernel_rfl) (by kernel_rfl) ?_) | ((with_reducible show ASat _ _ _ _ _); refine draw_sto tys_ok (l := sl13M) sp13M (by kernel_rfl) 8 [] pl12M [0, 1, 2, 3, 4, 5, 6] (by kernel_rfl) (by kernel_rfl) ?_) | skip
   all_goals repeat' (first | exact trivial | (with_reducible first | exact cS | exact cU | exact cX | exact cY | exact pSU.r | exact pSU.q | exact qSU | exact hSU | exact hp3 | exact hp0 | exact hp0.1 | exact hp0.2 | exact hXY) | refine ⟨?_, ?_⟩ | intro _)
   all_goals first | (with_reducible first | apply qa | apply qb | apply qc | apply qd) | (conv => whnf)
   all_goals first | ((with_reducible show Tl _ _); apply tl_intro; · (repeat' (first | exact trivial | refine ⟨?_, ?_⟩ | intro _)) <;> (first | exact rfl | omega | assumption | (dsimp only; omega))) | skip
   all_goals repeat' (first | exact trivial | (with_reducible first | exact cS | exact cU | exact cX | exact cY | exact pSU.r | exact pSU.q | exact qSU | exact hSU | exact hp3 | exact hp0 | exact hp0.1 | exact hp0.2 | exact hXY) | refine ⟨?_, ?_⟩ | intro _)
   all_goals first | (with_reducible first | apply qa | apply qb | apply qc | apply qd) | (conv => whnf)
   all_goals first | ((with_reducible show ASat _ _ _ _ _); refine draw_sto tys_ok (l := sl13M) sp13M (by kernel_rfl) 8 [] pl12M [0, 1, 2, 3, 4, 5, 6] (by kernel_rfl) (by kernel_rfl) ?_) | ((with_reducible show ASat _ _ _ _ _); refine draw_sto tys_ok (l := sl13M) sp13M (by kernel_rfl) 8 [] pl12M [0, 1, 2, 3, 4, 5, 6] (by kernel_rfl) (by kernel_rfl) ?_) | skip
   all_goals repeat' (first | exact trivial | (with_reducible first | exact cS | exact cU | exact cX | exact cY | exact pSU.r | exact pSU.q | exact qSU | exact hSU | exact hp3 | exact hp0 | exact hp0.1 | exact hp0.2 | exact hXY) | refine ⟨?_, ?_⟩ | intro _)
   all_goals first | (with_reducible first | apply qa | apply qb | apply qc | apply qd) | (conv => whnf)
   all_goals first | ((with_reducible show Tl _ _); apply tl_intro; · (repeat' (first | exact trivial | refine ⟨?_, ?_⟩ | intro _)) <;> (first | exact rfl | omega | assumption | (dsimp only; omega))) | skip
   all_goals repeat' (first | exact trivial | (with_reducible first | exact cS | exact cU | exact cX | exact cY | exact pSU.r | exact pSU.q | exact qSU | exact hSU | exact hp3 | exact hp0 | exact hp0.1 | exact hp0.2 | exact hXY) | refine ⟨?_, ?_⟩ | intro _)
   all_goals first | (with_reducible first | apply qa | apply qb | apply qc | apply qd) | (conv => whnf)
   all_goals first | exact hrow1 | exact hn1 | exact hV1.1.1 | exact hvR1.1.1 | exact hvR1.1.2 | exact hvR1.2.1 | exact hvR1.2.2 | exact hcr1 | exact hrow2 | exact hn2 | exact hV2.1.1 | exact hvR2.1.1 | exact hvR2.1.2 | exact hvR2.2.1 | exact hvR2.2.2 | exact hcr2 | exact (hp3.2 _ ‹_›).1 | exact (hp3.2 _ ‹_›).2 | exact (hp3.2 _ ‹_›).2.1 | exact (hp3.2 _ ‹_›).2.2 | omega | (intro i hi; rfl) | rfl | (exact absurd ‹true = false› (by decide)) | (exfalso; have hq := ‹(_ && _) = false›; rw [hst] at hq; simp at hq; done)
 . cases h
end Go.Proofs.YthkknkhpfffnbaaGreat
