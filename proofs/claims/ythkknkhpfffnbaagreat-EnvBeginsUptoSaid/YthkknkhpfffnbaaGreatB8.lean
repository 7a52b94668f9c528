/- What the layer of envs computes: what is clean. No condition. -/
import Derived.Test.YthkknkhpfffnbaaGreatB7
import Derived.Lib.Overlaps
set_option linter.all false
set_option maxHeartbeats 8000000
set_option maxRecDepth 100000
namespace Go.Proofs.YthkknkhpfffnbaaGreat
open Go.Sx
structure RowsOk (n : Nat) (f : Nat -> List DV) : Prop where
 h : ∀ i, i < n -> rowOkB (f i)
def FSortF : List Ar -> Option Rs
 | [.c (.ow 9 n0 f0), .fv g1] => some ⟨(n0 <= 1099511627776 /\ ∀ i, i < n0 -> rowSB (f0 i)) /\ (g1 = gLess), .tup [], [some fun k => bdC (put (gF f0) 0 (srt ltB (gBs n0 f0)) k)]⟩
 | _ => none
theorem fcSortF : FC Tryz.prog 68 FSortF := by
 intro xs pre r us h hp
 unfold FSortF at h
 split at h
 . rename_i n0 f0 g1
   cases h
   obtain ⟨hp0, hp1⟩ := hp
   refine FCat.deep (ys := [.c (.ow 9 n0 fun k => bdC (gF f0 k)), .fv g1]) ?_ ?_
   . repeat' (first | exact trivial | exact rfl | exact DvE.refl _ | refine ⟨?_, ?_⟩ | fail)
     all_goals first | exact (canonF hp0.2).2.2
   refine fcat tys_ok (l := [(121, ⟨[true], FStable⟩)]) ⟨fcStable, trivial⟩ Tryz.func68 rfl (by kernel_rfl) false ?_
   obtain rfl := hp1
   have hn := hp0.1
   clear hp0
   rw [<- seg_gBs]
   generalize gF f0 = G at *
   have hok : ∀ (H : Nat -> Bd) (i : Nat), i < n0 -> rowSB (bdC (H i)) := fun H i _ => rowSB_bdC _
   repeat' (first | exact trivial | (with_reducible exact (hok _)) | refine ⟨?_, ?_⟩ | intro _)
   all_goals first | (with_reducible first | apply qa | apply qb | apply qc | apply qd) | (conv => whnf)
   all_goals (try simp only [gF_bdC, Int.toNat_natCast])
   all_goals first | rfl | omega
 . cases h
def FBClone : List Ar -> Option Rs
 | [.c (.d (.lst 9 n0 f0))] => some ⟨(n0 <= 1099511627776 /\ RowsOk n0 f0), .va (.c (.ow 9 n0 (rwB (gBs n0 f0)))), []⟩
 | _ => none
theorem fcBClone : FC Tryz.prog 67 FBClone := by
 intro xs pre r us h hp
 unfold FBClone at h
 split at h
 . rename_i n0 f0
   cases h
   have hp0 := hp
   refine FCat.deep (ys := [.c (.d (.lst 9 n0 (rwB (gBs n0 f0))))]) ?_ ?_
   . repeat' (first | exact trivial | exact rfl | exact DvE.refl _ | refine ⟨?_, ?_⟩ | fail)
     all_goals first | exact canonB hp0.2.h
   refine fcat tys_ok (l := []) trivial Tryz.func67 rfl (by kernel_rfl) false ?_
   have hn := hp0.1
   generalize gBs n0 f0 = L at *
   clear hp0
   repeat' (first | exact trivial | refine ⟨?_, ?_⟩ | intro _)
   all_goals first | (with_reducible first | apply qa | apply qb | apply qc | apply qd) | (conv => whnf)
   all_goals first | omega | rfl | (simp_all; done) | (simp [appRow]; done) | exact ‹_ = true -> _› ‹_›
 . cases h
def FVCleanV : List Ar -> Option Rs
 | [.agg [.d (.v (.bool s0)), .d (.v (.int .i64 l0)), .d (.v (.int .i64 h0)), .d (.v (.bool b0)), .d (.v (.int .i64 m0)), .d (.v (.int .i64 r0)), .d (.v (.bool z0)), .d (.lst 1 n0 f0)]] => some ⟨((n0 * 16 <= 140737488351232 /\ ∀ i, i < n0 -> f0 i = [st (gT (f0 i))]) /\ Sp.inR ⟨s0, l0, h0⟩ /\ Cg.inR ⟨b0, m0, r0⟩), .va (Vl.ar (Vl.of (⟨⟨⟨s0, l0, h0⟩, ⟨b0, m0, r0⟩⟩, ⟨z0, gN n0 f0⟩⟩ : Vl))), []⟩
 | _ => none
theorem fcVCleanV : FC Tryz.prog 62 FVCleanV := by
 intro xs pre r us h hp
 unfold FVCleanV at h
 split at h
 . rename_i s0 l0 h0 b0 m0 r0 z0 n0 f0
   cases h
   have hp0 := hp
   refine FCat.of_eq (as' := [.agg [.d (.v (.bool s0)), .d (.v (.int .i64 l0)), .d (.v (.int .i64 h0)), .d (.v (.bool b0)), .d (.v (.int .i64 m0)), .d (.v (.int .i64 r0)), .d (.v (.bool z0)), .d (.lst 1 n0 fun i => [st (gT (f0 i))])]]) ?_ rfl rfl ?_
   . repeat' (first | exact trivial | exact rfl | refine ⟨?_, ?_⟩ | fail)
     all_goals first | exact hp0.2 | exact hp1.2 | exact hp2.2 | (intro i hi; exact (hp0.2 i hi).1) | (intro i hi; exact (hp1.2 i hi).1) | (intro i hi; exact (hp2.2 i hi).1) | grind
   refine fcat tys_ok (l := [(116, ⟨[], FVOf⟩), (117, ⟨[], FVValue⟩)]) ⟨fcVOf, fcVValue, trivial⟩ Tryz.func62 rfl (by kernel_rfl) true ?_
   have hv0 : okV (⟨⟨⟨s0, l0, h0⟩, ⟨b0, m0, r0⟩⟩, ⟨z0, gN n0 fun i => [st (gT (f0 i))]⟩⟩ : Vl) := ⟨⟨(by rw [gN_length]; exact hp0.1.1), fun _ _ => rfl⟩, hp0.2⟩
   have ho0 := okV_of hv0
   have hoo0 := okV_of ho0
   unfold okV at ho0 hoo0
   repeat' (first | exact trivial | (with_reducible first | exact ho0 | exact ho0.1 | exact ho0.2.1 | exact ho0.2.2 | exact hp0 | exact hp0.1 | exact hp0.2 | exact hp0.2.1 | exact hp0.2.2 | exact hoo0 | exact hoo0.1 | exact hoo0.2.1 | exact hoo0.2.2) | refine ⟨?_, ?_⟩ | intro _)
   all_goals first | (with_reducible first | apply qa | apply qb | apply qc | apply qd) | (conv => whnf)
   all_goals (try simp only [gN_lst] at *)
   all_goals first | rfl | (with_reducible exact hp0.1.1)
 . cases h
abbrev En.arO (e : En) : Ar := .agg [.d (bo e.live), .ow 9 e.binds.length (rwB e.binds)]
namespace En
def clean (e : En) : En := if e.live = true then ⟨true, (dd (srt ltB e.binds)).map fun b => ⟨b.name, b.v.of⟩⟩ else ⟨false, []⟩
end En
theorem srt_rows (L : List Bd) : (gBs L.length fun k => bdC (put (gF (rwB L)) 0 (srt ltB L) k)) = srt ltB L := by
 rw [<- seg_gBs, gF_bdC]
 exact seg_put _ _ _ _ (by rw [srt_length]; omega) (Nat.zero_le _)
def cln (D : List Bd) (i : Nat) : Nat -> Bd := fun k => if k < i then ⟨(atB D k).name, (atB D k).v.of⟩ else atB D k
theorem cln_at (D : List Bd) (i : Nat) : cln D i i = atB D i := if_neg (Nat.lt_irrefl i)
theorem cln_step {D : List Bd} {i : Nat} {r : List DV} (hr : r = bdC ⟨(atB D i).name, (atB D i).v.of⟩) (k : Nat) : setRow (fun k => bdC (cln D i k)) i r k = bdC (cln D (i + 1) k) := by
 subst hr
 rw [setRow_at]
 unfold cln
 split
 . rename_i h; subst h; rw [if_pos (Nat.lt_succ_self k)]
 . rename_i h
   by_cases c : k < i
   . rw [if_pos c, if_pos (by omega)]
   . rw [if_neg c, if_neg (by omega)]
theorem atB_map (D : List Bd) (f : Bd -> Bd) {k : Nat} (hk : k < D.length) : atB (D.map f) k = f (atB D k) := by
 unfold atB; simp [List.getD_eq_getElem?_getD, hk]
theorem ddA_sub (r : List Bd) (p : Bd) {x : Bd} (h : x ∈ ddA p r) : x ∈ r := by
 induction r generalizing p with
 | nil => cases h
 | cons y r ih =>
   rw [ddA] at h
   split at h
   . exact List.mem_cons_of_mem _ (ih _ h)
   . rcases List.mem_cons.1 h with rfl | h
     . exact List.mem_cons_self
     . exact List.mem_cons_of_mem _ (ih _ h)
theorem dd_sub {l : List Bd} {x : Bd} (h : x ∈ dd l) : x ∈ l := by
 cases l with
 | nil => exact h
 | cons y r =>
   rcases List.mem_cons.1 h with rfl | h
   . exact List.mem_cons_self
   . exact List.mem_cons_of_mem _ (ddA_sub _ _ h)
theorem atB_mem {l : List Bd} {k : Nat} (h : k < l.length) : atB l k ∈ l := by
 unfold atB; rw [List.getD_eq_getElem?_getD, List.getElem?_eq_getElem h]; exact List.getElem_mem h
theorem mem_atB {l : List Bd} {x : Bd} (h : x ∈ l) : ∃ k, k < l.length /\ atB l k = x := by
 obtain ⟨k, hk, e⟩ := List.mem_iff_getElem.1 h
 exact ⟨k, hk, by unfold atB; rw [List.getD_eq_getElem?_getD, List.getElem?_eq_getElem hk]; exact e⟩
def okL (l : List Bd) : Prop := ∀ x ∈ l, okB x
theorem okL_at {l : List Bd} (h : okL l) {k : Nat} (hk : k < l.length) : okB (atB l k) := h _ (atB_mem hk)
theorem okL_rows {n : Nat} {f : Nat -> List DV} (h : RowsOk n f) : okL (gBs n f) := by
 intro x hx
 obtain ⟨k, hk, rfl⟩ := mem_atB hx
 rw [gBs_length] at hk
 exact okB_at h.h k hk
theorem okL_row {l : List Bd} (h : okL l) : RowsOk l.length (rwB l) := ⟨fun i hi => rowOkB_bdC (okL_at h hi)⟩
theorem okL_srt {l : List Bd} (h : okL l) : okL (srt ltB l) := fun x hx => h x (srt_mem.1 hx)
theorem okL_dd {l : List Bd} (h : okL l) : okL (dd l) := fun x hx => h x (dd_sub hx)
theorem okL_of {l : List Bd} (h : okL l) : okL (l.map fun b => ⟨b.name, b.v.of⟩) := by
 intro x hx
 obtain ⟨b, hb, rfl⟩ := List.mem_map.1 hx
 exact okV_of (h b hb)
theorem clean_ok {e : En} (h : okL e.binds) : okL e.clean.binds := by
 unfold En.clean
 split
 . exact okL_of (okL_dd (okL_srt h))
 . intro x hx; cases hx
theorem clean_len (e : En) : e.clean.binds.length <= e.binds.length := by
 unfold En.clean
 split
 . show (List.map _ _).length <= _
   rw [List.length_map]
   have := dd_len (srt ltB e.binds)
   rw [srt_length] at this; exact this
 . exact Nat.zero_le _
def FEClean : List Ar -> Option Rs
 | [.agg [.d (.v (.bool e0)), .d (.lst 9 n0 f0)]] => some ⟨(n0 <= 1099511627776 /\ RowsOk n0 f0), .va (En.ar (En.clean (⟨e0, gBs n0 f0⟩ : En))), []⟩
 | _ => none
theorem fcEClean : FC Tryz.prog 22 FEClean := by
 intro xs pre r us h hp
 unfold FEClean at h
 split at h
 . rename_i e0 n0 f0
   cases h
   have hp0 := hp
   refine FCat.deep (ys := [.agg [.d (.v (.bool e0)), .d (.lst 9 n0 (rwB (gBs n0 f0)))]]) ?_ ?_
   . repeat' (first | exact trivial | exact rfl | exact DvE.refl _ | refine ⟨?_, ?_⟩ | fail)
     all_goals first | exact canonB hp0.2.h
   refine fcat tys_ok (l := [(67, ⟨[], FBClone⟩), (68, ⟨[true], FSortF⟩), (71, ⟨[true], FCompact⟩), (62, ⟨[], FVCleanV⟩), (69, ⟨[], FLess⟩), (72, ⟨[], FSameN⟩)]) ⟨fcBClone, fcSortF, fcCompact, fcVCleanV, fcLess, fcSameN, trivial⟩ Tryz.func22 rfl (by kernel_rfl) true ?_
   have hn := hp0.1
   have hL := okL_rows hp0.2
   have hlen := gBs_length n0 f0
   generalize gBs n0 f0 = L at *
   clear hp hp0
   subst hlen
   have hok : ∀ (H : Nat -> Bd) (i : Nat), i < L.length -> rowSB (bdC (H i)) := fun H i _ => rowSB_bdC _
   have hrow := okL_row hL
   repeat' (first | exact trivial | (with_reducible first | exact (hok _) | exact hrow) | refine ⟨?_, ?_⟩ | intro _)
   all_goals first | (with_reducible first | apply qa | apply qb | apply qc | apply qd) | (conv => whnf)
   all_goals first | exact hn | exact Nat.le_refl _ | rfl | skip
   . rw [show e0 = false by simpa using ‹(!e0) = true›]; rfl
   . rw [show e0 = false by simpa using ‹(!e0) = true›]; rfl
   obtain rfl : e0 = true := by simpa using ‹(!e0) = false›
   generalize hD : dd (gBs L.length fun k => bdC (put (gF (rwB (gBs L.length (rwB L)))) 0 (srt ltB (gBs L.length (rwB (gBs L.length (rwB L))))) k)) = D
   have hD2 : D = dd (srt ltB L) := by
    rw [<- hD, gBs_row, gBs_row, srt_rows]
   clear hD
   have hC : En.clean ⟨true, L⟩ = ⟨true, D.map fun b => ⟨b.name, b.v.of⟩⟩ := by rw [hD2]; rfl
   have hDl : D.length <= L.length := by have := dd_len (srt ltB L); rw [srt_length] at this; rw [hD2]; exact this
   have hDo : okL D := by rw [hD2]; exact okL_dd (okL_srt hL)
   refine loop_ok tys_ok (l := [(67, ⟨[], FBClone⟩), (68, ⟨[true], FSortF⟩), (71, ⟨[true], FCompact⟩), (62, ⟨[], FVCleanV⟩), (69, ⟨[], FLess⟩), (72, ⟨[], FSameN⟩)]) ⟨fcBClone, fcSortF, fcCompact, fcVCleanV, fcLess, fcSameN, trivial⟩ (by kernel_rfl) (X := Nat)
    (fun i => ⟨[(19, vx (.int .i64 i)), (18, vx (.int .i64 D.length)), (17, .va (.c (.osl 0 9 0 D.length))), (3, .va (.c (.osl 0 9 0 D.length))), (2, .va (.c (.own 1 0)))], [(0, .row 9 D.length fun k => bdC (cln D i k)), (1, .cells [.d (bo false), .d (.v (.slice none 0 0))])], 2, 34⟩)
    (fun i => D.length - i) (fun i => i <= D.length) [] [] (fun i _ _ => i + 1) [0, 1] [3, 1] 0 0 0 ?_ ?_ ?_
   . exact Nat.zero_le _
   . repeat' (first | exact trivial | exact rfl | (intro _ _; exact rfl) | refine ⟨?_, ?_⟩ | fail)
     all_goals trace_state
   . rintro i k1
     rcases Nat.lt_or_ge i D.length with hi | hi
     . have hne : decide ((i : Int) < (D.length : Int)) = true := decide_eq_true (by omega)
       have ho0 := okV_of (okL_at hDo hi)
       have ho1 := okL_at hDo hi
       repeat' (first | exact trivial | refine ⟨?_, ?_⟩ | intro _)
       all_goals first | (with_reducible first | apply qa | apply qb | apply qc | apply qd) | (conv => whnf)
       all_goals first | (exact absurd (hne.symm.trans ‹_ = false›) (by decide)) | skip
       all_goals (try simp only [Int.toNat_natCast, Nat.zero_add, cln_at])
       all_goals first | omega | rfl | exact ho1.1.1 | (have hq := ho1.2; unfold Sp.inR Cg.inR at hq; omega) | (exact congrArg (Value.int .i64) (by first | (rw [wI_id _ (by omega) (by omega)]; omega) | omega | (dsimp only; omega))) | (simp only [gN_lst]; exact cln_step rfl _)
     . have hne : decide ((i : Int) < (D.length : Int)) = false := decide_eq_false (by omega)
       obtain rfl : i = D.length := Nat.le_antisymm k1 hi
       repeat' (first | exact trivial | refine ⟨?_, ?_⟩ | intro _)
       all_goals first | (with_reducible first | apply qa | apply qb | apply qc | apply qd) | (conv => whnf)
       all_goals first | (exact absurd (hne.symm.trans ‹_ = true›) (by decide)) | skip
       all_goals (try rw [hC])
       all_goals first | rfl | omega | exact (List.length_map _).symm | (rename_i k hk; show bdC (cln D D.length (0 + k)) = bdC (atB _ k); rw [Nat.zero_add, atB_map _ _ (by omega)]; unfold cln; rw [if_pos (by omega)]) | (rename_i k hk; show bdC (cln D D.length k) = bdC (atB _ k); rw [atB_map _ _ (by omega)]; unfold cln; rw [if_pos (by omega)])
 . cases h
def FECleanO : List Ar -> Option Rs
 | [.agg [.d (.v (.bool e0)), .d (.lst 9 n0 f0)]] => some ⟨(n0 <= 1099511627776 /\ RowsOk n0 f0), .va (En.arO (En.clean (⟨e0, gBs n0 f0⟩ : En))), []⟩
 | _ => none
theorem fcECleanO : FC Tryz.prog 22 FECleanO := by
 intro xs pre r us h hp
 unfold FECleanO at h
 split at h
 . rename_i e0 n0 f0
   cases h
   have hp0 := hp
   refine FCat.deep (ys := [.agg [.d (.v (.bool e0)), .d (.lst 9 n0 (rwB (gBs n0 f0)))]]) ?_ ?_
   . repeat' (first | exact trivial | exact rfl | exact DvE.refl _ | refine ⟨?_, ?_⟩ | fail)
     all_goals first | exact canonB hp0.2.h
   refine fcat tys_ok (l := [(67, ⟨[], FBClone⟩), (68, ⟨[true], FSortF⟩), (71, ⟨[true], FCompact⟩), (62, ⟨[], FVCleanV⟩), (69, ⟨[], FLess⟩), (72, ⟨[], FSameN⟩)]) ⟨fcBClone, fcSortF, fcCompact, fcVCleanV, fcLess, fcSameN, trivial⟩ Tryz.func22 rfl (by kernel_rfl) false ?_
   have hn := hp0.1
   have hL := okL_rows hp0.2
   have hlen := gBs_length n0 f0
   generalize gBs n0 f0 = L at *
   clear hp hp0
   subst hlen
   have hok : ∀ (H : Nat -> Bd) (i : Nat), i < L.length -> rowSB (bdC (H i)) := fun H i _ => rowSB_bdC _
   have hrow := okL_row hL
   repeat' (first | exact trivial | (with_reducible first | exact (hok _) | exact hrow) | refine ⟨?_, ?_⟩ | intro _)
   all_goals first | (with_reducible first | apply qa | apply qb | apply qc | apply qd) | (conv => whnf)
   all_goals first | exact hn | exact Nat.le_refl _ | rfl | skip
   . rw [show e0 = false by simpa using ‹(!e0) = true›]; rfl
   . rw [show e0 = false by simpa using ‹(!e0) = true›]; rfl
   obtain rfl : e0 = true := by simpa using ‹(!e0) = false›
   generalize hD : dd (gBs L.length fun k => bdC (put (gF (rwB (gBs L.length (rwB L)))) 0 (srt ltB (gBs L.length (rwB (gBs L.length (rwB L))))) k)) = D
   have hD2 : D = dd (srt ltB L) := by
    rw [<- hD, gBs_row, gBs_row, srt_rows]
   clear hD
   have hC : En.clean ⟨true, L⟩ = ⟨true, D.map fun b => ⟨b.name, b.v.of⟩⟩ := by rw [hD2]; rfl
   have hDl : D.length <= L.length := by have := dd_len (srt ltB L); rw [srt_length] at this; rw [hD2]; exact this
   have hDo : okL D := by rw [hD2]; exact okL_dd (okL_srt hL)
   refine loop_ok tys_ok (l := [(67, ⟨[], FBClone⟩), (68, ⟨[true], FSortF⟩), (71, ⟨[true], FCompact⟩), (62, ⟨[], FVCleanV⟩), (69, ⟨[], FLess⟩), (72, ⟨[], FSameN⟩)]) ⟨fcBClone, fcSortF, fcCompact, fcVCleanV, fcLess, fcSameN, trivial⟩ (by kernel_rfl) (X := Nat)
    (fun i => ⟨[(19, vx (.int .i64 i)), (18, vx (.int .i64 D.length)), (17, .va (.c (.osl 0 9 0 D.length))), (3, .va (.c (.osl 0 9 0 D.length))), (2, .va (.c (.own 1 0)))], [(0, .row 9 D.length fun k => bdC (cln D i k)), (1, .cells [.d (bo false), .d (.v (.slice none 0 0))])], 2, 34⟩)
    (fun i => D.length - i) (fun i => i <= D.length) [] [] (fun i _ _ => i + 1) [0, 1] [3, 1] 0 0 0 ?_ ?_ ?_
   . exact Nat.zero_le _
   . repeat' (first | exact trivial | exact rfl | (intro _ _; exact rfl) | refine ⟨?_, ?_⟩ | fail)
     all_goals trace_state
   . rintro i k1
     rcases Nat.lt_or_ge i D.length with hi | hi
     . have hne : decide ((i : Int) < (D.length : Int)) = true := decide_eq_true (by omega)
       have ho0 := okV_of (okL_at hDo hi)
       have ho1 := okL_at hDo hi
       repeat' (first | exact trivial | refine ⟨?_, ?_⟩ | intro _)
       all_goals first | (with_reducible first | apply qa | apply qb | apply qc | apply qd) | (conv => whnf)
       all_goals first | (exact absurd (hne.symm.trans ‹_ = false›) (by decide)) | skip
       all_goals (try simp only [Int.toNat_natCast, Nat.zero_add, cln_at])
       all_goals first | omega | rfl | exact ho1.1.1 | (have hq := ho1.2; unfold Sp.inR Cg.inR at hq; omega) | (exact congrArg (Value.int .i64) (by first | (rw [wI_id _ (by omega) (by omega)]; omega) | omega | (dsimp only; omega))) | (simp only [gN_lst]; exact cln_step rfl _)
     . have hne : decide ((i : Int) < (D.length : Int)) = false := decide_eq_false (by omega)
       obtain rfl : i = D.length := Nat.le_antisymm k1 hi
       repeat' (first | exact trivial | refine ⟨?_, ?_⟩ | intro _)
       all_goals first | (with_reducible first | apply qa | apply qb | apply qc | apply qd) | (conv => whnf)
       all_goals first | (exact absurd (hne.symm.trans ‹_ = true›) (by decide)) | skip
       all_goals (try rw [hC])
       all_goals first | rfl | omega | exact (List.length_map _).symm | (rename_i k hk; show bdC (cln D D.length (0 + k)) = bdC (atB _ k); rw [Nat.zero_add, atB_map _ _ (by omega)]; unfold cln; rw [if_pos (by omega)]) | (rename_i k hk; show bdC (cln D D.length k) = bdC (atB _ k); rw [atB_map _ _ (by omega)]; unfold cln; rw [if_pos (by omega)])
 . cases h
theorem cfL_eq : ∀ (x y : List UInt8), (cfL x y = 0) ↔ x = y
 | [], [] => by simp [cfL, Lib.compareBytes]
 | [], _ :: _ => by simp [cfL, Lib.compareBytes]
 | _ :: _, [] => by simp [cfL, Lib.compareBytes]
 | a :: x, b :: y => by
   have ih := cfL_eq x y
   unfold cfL at ih ⊢
   rw [Lib.compareBytes]
   split
   . rename_i h
     constructor
     . intro h; omega
     . intro h; cases h; exact absurd h (UInt8.lt_irrefl _)
   . split
     . rename_i h
       constructor
       . intro h; omega
       . intro h; cases h; exact absurd h (UInt8.lt_irrefl _)
     . rename_i h1 h2
       have : a = b := UInt8.le_antisymm (UInt8.not_lt.1 h2) (UInt8.not_lt.1 h1)
       subst this
       rw [ih]; simp
theorem seg_atB (L : List Bd) : seg (atB L) 0 L.length = L := by
 apply List.ext_getElem
 . rw [seg_length]; omega
 . intro i h1 h2
   have := seg_getD (g := atB L) (a := 0) (b := L.length) (k := i) (by omega)
   rw [List.getD_eq_getElem?_getD, List.getElem?_eq_getElem h1, Nat.zero_add] at this
   unfold atB at this
   rw [List.getD_eq_getElem?_getD, List.getElem?_eq_getElem h2] at this
   exact this
def lowN (L : List Bd) (s : ByteArray) : Nat := L.countP fun b => ltB b ⟨s, Vl.zero⟩
def foundN (L : List Bd) (s : ByteArray) : Bool := decide (lowN L s < L.length) && (cfL (atB L (lowN L s)).name.data.toList s.data.toList == 0)
theorem low_of {L : List Bd} {s : ByteArray} {i : Nat} (hi : i <= L.length) (h1 : ∀ k, k < i -> ltB (atB L k) ⟨s, Vl.zero⟩ = true) (h2 : ∀ k, i <= k -> k < L.length -> ltB (atB L k) ⟨s, Vl.zero⟩ = false) : lowN L s = i := by
 unfold lowN
 conv => lhs; rw [<- seg_atB L, seg_app (atB L) (Nat.zero_le i) hi, List.countP_append]
 rw [List.countP_eq_length.2, List.countP_eq_zero.2, seg_length]
 . omega
 . intro x hx
   obtain ⟨k, k1, k2, rfl⟩ := mem_seg.1 hx
   rw [h2 k k1 k2]; exact Bool.false_ne_true
 . intro x hx
   obtain ⟨k, k1, k2, rfl⟩ := mem_seg.1 hx
   exact h1 k k2
def FFindC : List Ar -> Option Rs
 | [.agg [.d (.v (.string x0)), .d (.v (.bool _)), .d (.v (.int .i64 _)), .d (.v (.int .i64 _)), .d (.v (.bool _)), .d (.v (.int .i64 _)), .d (.v (.int .i64 _)), .d (.v (.bool _)), .d (.lst 1 _ _)], .c (.d (.v (.string x1)))] => some ⟨True, .va (.c (.d (it (cfL x0.data.toList x1.data.toList)))), []⟩
 | _ => none
theorem fcFindC : FC Tryz.prog 113 FFindC := by
 intro xs pre r us h hp
 unfold FFindC at h
 split at h
 . rename_i x0 s0 l0 h0 b0 m0 r0 z0 n0 f0 x1
   cases h
   refine fcat tys_ok (l := [(70, ⟨[], FStrCmp⟩)]) ⟨fcStrCmp, trivial⟩ Tryz.func113 rfl (by kernel_rfl) false ?_
   repeat' (first | exact trivial | refine ⟨?_, ?_⟩ | intro _)
   all_goals first | (with_reducible first | apply qa | apply qb | apply qc | apply qd) | (conv => whnf)
   all_goals grind
 . cases h
abbrev gFind : List Cv -> Option Gs := mkFv (sums [(113, ⟨[], FFindC⟩)]) 113 []
def FBSearch : List Ar -> Option Rs
 | [.c (.d (.lst 9 n0 f0)), .c (.d (.v (.string x1))), .fv g2] => some ⟨(n0 <= 1099511627776 /\ RowsOk n0 f0) /\ (Std ltB (gBs n0 f0) /\ g2 = gFind), .tup [.c (.d (it (lowN (gBs n0 f0) x1 : Nat))), .c (.d (bo (foundN (gBs n0 f0) x1)))], []⟩
 | _ => none
theorem fcBSearch : FC Tryz.prog 112 FBSearch := by
 intro xs pre r us h hp
 unfold FBSearch at h
 split at h
 . rename_i n0 f0 x1 g2
   cases h
   obtain ⟨hp0, hp1⟩ := hp
   refine FCat.deep (ys := [.c (.d (.lst 9 n0 (rwB (gBs n0 f0)))), .c (.d (.v (.string x1))), .fv g2]) ?_ ?_
   . repeat' (first | exact trivial | exact rfl | exact DvE.refl _ | refine ⟨?_, ?_⟩ | fail)
     all_goals first | first | exact canonB hp0.2.h | exact (canonBo hp0.2.h).2.2
   refine fcat tys_ok (l := []) trivial Tryz.func112 rfl (by kernel_rfl) false ?_
   obtain ⟨hs, rfl⟩ := hp1
   have hn := hp0.1
   have hlen := gBs_length n0 f0
   generalize gBs n0 f0 = L at *
   clear hp0
   subst hlen
   rw [<- seg_atB L] at hs
   have hdef : ∀ k, ltB (atB L k) ⟨x1, Vl.zero⟩ = decide (cfL (atB L k).name.data.toList x1.data.toList < 0) := fun _ => rfl
   generalize hp : (fun k => ltB (atB L k) ⟨x1, Vl.zero⟩) = p
   have hpd : ∀ k, p k = decide (cfL (atB L k).name.data.toList x1.data.toList < 0) := fun k => by rw [<- hp]; rfl
   have hm : ∀ k q, k <= q -> q < L.length -> p q = true -> p k = true := fun k q h1 h2 h3 => by
    rw [<- hp] at h3 ⊢; exact wkB.lt1 (std_le wkB hs (Nat.zero_le _) h1 h2) h3
   have hm2 : ∀ k q, q <= k -> k < L.length -> p q = false -> p k = false := fun k q h1 h2 h3 => by
    rw [<- hp] at h3 ⊢; exact wkB.le1 (std_le wkB hs (Nat.zero_le _) h1 h2) h3
   have hlow : ∀ i, i <= L.length -> (∀ k, k < i -> p k = true) -> (∀ k, i <= k -> k < L.length -> p k = false) -> lowN L x1 = i := fun i h1 h2 h3 => by
    rw [<- hp] at h2 h3; exact low_of h1 h2 h3
   clear hp hdef
   repeat' (first | exact trivial | refine ⟨?_, ?_⟩ | intro _)
   all_goals first | (with_reducible first | apply qa | apply qb | apply qc | apply qd) | (conv => whnf)
   refine loop_ok tys_ok (l := []) trivial (by kernel_rfl) (X := Nat × Nat)
    (fun x => ⟨[(9, vx (.int .i64 x.1)), (10, vx (.int .i64 x.2)), (0, .va (.c (.d (.lst 9 L.length (rwB L))))), (1, vx (.string x1)), (2, .va (.c (.fv gFind))), (8, vx (.int .i64 L.length))], [], 0, 49⟩)
    (fun x => x.2 - x.1) (fun x => x.1 <= x.2 /\ x.2 <= L.length /\ (∀ k, k < x.1 -> p k = true) /\ (∀ k, x.2 <= k -> k < L.length -> p k = false)) [] []
    (fun x _ _ => if p ((x.1 + x.2) / 2) = true then ((x.1 + x.2) / 2 + 1, x.2) else (x.1, (x.1 + x.2) / 2)) [] [] 0 0 (0, L.length) ?_ ?_ ?_
   . exact ⟨Nat.zero_le _, Nat.le_refl _, fun k h => absurd h (Nat.not_lt_zero k), fun k h1 h2 => absurd h1 (Nat.not_le_of_lt h2)⟩
   . repeat' (first | exact trivial | exact rfl | (intro _ _; exact rfl) | refine ⟨?_, ?_⟩ | fail)
   . rintro ⟨i, j⟩ ⟨k2, k3, k4, k5⟩
     dsimp only at k2 k3 k4 k5
     rcases Nat.lt_or_ge i j with hij | hij
     . have hne : decide ((i : Int) < (j : Int)) = true := decide_eq_true (by omega)
       have hh : IntKind.wrap .i64 ((IntKind.wrap .u64 (IntKind.wrap .i64 ((i : Int) + (j : Int)))).fdiv (2 ^ min (Int.toNat 1) (IntKind.bits .u64))) = (((i + j) / 2 : Nat) : Int) := hlf (by omega)
       have hq1 : i <= (i + j) / 2 := by omega
       have hq2 : (i + j) / 2 < j := by omega
       generalize hq : (i + j) / 2 = q at *
       cases hc : p q with
       | true =>
         repeat' (first | exact trivial | refine ⟨?_, ?_⟩ | intro _)
         all_goals first | (with_reducible first | apply qa | apply qb | apply qc | apply qd) | (conv => whnf)
         all_goals first | (exact absurd (hne.symm.trans ‹_ = false›) (by decide)) | skip
         all_goals first | (have hd := ‹decide (cfL _ _ < 0) = false›; simp only [hh, Int.toNat_natCast, Nat.zero_add] at hd; exact absurd ((hc.symm.trans (hpd q)).trans hd) (by decide)) | skip
         all_goals (try simp only [hh, hq, hc, if_true, Int.toNat_natCast, Nat.zero_add])
         all_goals first | rfl | omega | (dsimp only; omega) | (exact congrArg (Value.int .i64) (by first | (rw [wI_id _ (by omega) (by omega)]; omega) | omega | (dsimp only; omega))) | (rename_i kk h1; simp only [hq, hc, if_true] at h1; exact hm _ q (by omega) (by omega) hc) | (rename_i kk h1 h2; simp only [hq, hc, if_true] at h1 h2; exact k5 _ h1 h2)
       | false =>
         repeat' (first | exact trivial | refine ⟨?_, ?_⟩ | intro _)
         all_goals first | (with_reducible first | apply qa | apply qb | apply qc | apply qd) | (conv => whnf)
         all_goals first | (exact absurd (hne.symm.trans ‹_ = false›) (by decide)) | skip
         all_goals first | (have hd := ‹decide (cfL _ _ < 0) = true›; simp only [hh, Int.toNat_natCast, Nat.zero_add] at hd; exact absurd ((hc.symm.trans (hpd q)).trans hd) (by decide)) | skip
         all_goals (try simp only [hh, hq, hc, if_false, Bool.false_eq_true, Int.toNat_natCast, Nat.zero_add])
         all_goals first | rfl | omega | (dsimp only; omega) | (exact congrArg (Value.int .i64) (by first | (rw [wI_id _ (by omega) (by omega)]; omega) | omega | (dsimp only; omega))) | (rename_i kk h1; simp only [hq, hc, if_false, Bool.false_eq_true] at h1; exact k4 _ h1) | (rename_i kk h1 h2; simp only [hq, hc, if_false, Bool.false_eq_true] at h1 h2; exact hm2 _ q (by omega) h2 hc)
     . have hne : decide ((i : Int) < (j : Int)) = false := decide_eq_false (by omega)
       obtain rfl : i = j := by omega
       have hl := hlow i k3 k4 k5
       repeat' (first | exact trivial | refine ⟨?_, ?_⟩ | intro _)
       all_goals first | (with_reducible first | apply qa | apply qb | apply qc | apply qd) | (conv => whnf)
       all_goals first | (exact absurd (hne.symm.trans ‹_ = true›) (by decide)) | skip
       all_goals (try dsimp only)
       all_goals (try simp only [Int.toNat_natCast, Nat.zero_add])
       all_goals (try unfold foundN)
       all_goals (try rw [hl])
       all_goals first | omega | rfl | (have hd := of_decide_eq_true ‹decide (((i, i).1 : Int) < (L.length : Int)) = true›; exact hd) | (have hd := of_decide_eq_true ‹decide (((i, i).1 : Int) < _) = true›; rw [show decide (i < L.length) = true from decide_eq_true (by dsimp only at hd; omega)]; rfl) | (have hd := of_decide_eq_false ‹decide (((i, i).1 : Int) < (L.length : Int)) = false›; rw [show decide (i < L.length) = false from decide_eq_false (by dsimp only at hd; omega)]; rfl)
 . cases h
def FBSearchO : List Ar -> Option Rs
 | [.c (.ow 9 n0 f0), .c (.d (.v (.string x1))), .fv g2] => some ⟨(n0 <= 1099511627776 /\ RowsOk n0 f0) /\ (Std ltB (gBs n0 f0) /\ g2 = gFind), .tup [.c (.d (it (lowN (gBs n0 f0) x1 : Nat))), .c (.d (bo (foundN (gBs n0 f0) x1)))], [some (rwB (gBs n0 f0))]⟩
 | _ => none
theorem fcBSearchO : FC Tryz.prog 112 FBSearchO := by
 intro xs pre r us h hp
 unfold FBSearchO at h
 split at h
 . rename_i n0 f0 x1 g2
   cases h
   obtain ⟨hp0, hp1⟩ := hp
   refine FCat.deep (ys := [.c (.ow 9 n0 (rwB (gBs n0 f0))), .c (.d (.v (.string x1))), .fv g2]) ?_ ?_
   . repeat' (first | exact trivial | exact rfl | exact DvE.refl _ | refine ⟨?_, ?_⟩ | fail)
     all_goals first | first | exact canonB hp0.2.h | exact (canonBo hp0.2.h).2.2
   refine fcat tys_ok (l := []) trivial Tryz.func112 rfl (by kernel_rfl) false ?_
   obtain ⟨hs, rfl⟩ := hp1
   have hn := hp0.1
   have hlen := gBs_length n0 f0
   generalize gBs n0 f0 = L at *
   clear hp0
   subst hlen
   rw [<- seg_atB L] at hs
   have hdef : ∀ k, ltB (atB L k) ⟨x1, Vl.zero⟩ = decide (cfL (atB L k).name.data.toList x1.data.toList < 0) := fun _ => rfl
   generalize hp : (fun k => ltB (atB L k) ⟨x1, Vl.zero⟩) = p
   have hpd : ∀ k, p k = decide (cfL (atB L k).name.data.toList x1.data.toList < 0) := fun k => by rw [<- hp]; rfl
   have hm : ∀ k q, k <= q -> q < L.length -> p q = true -> p k = true := fun k q h1 h2 h3 => by
    rw [<- hp] at h3 ⊢; exact wkB.lt1 (std_le wkB hs (Nat.zero_le _) h1 h2) h3
   have hm2 : ∀ k q, q <= k -> k < L.length -> p q = false -> p k = false := fun k q h1 h2 h3 => by
    rw [<- hp] at h3 ⊢; exact wkB.le1 (std_le wkB hs (Nat.zero_le _) h1 h2) h3
   have hlow : ∀ i, i <= L.length -> (∀ k, k < i -> p k = true) -> (∀ k, i <= k -> k < L.length -> p k = false) -> lowN L x1 = i := fun i h1 h2 h3 => by
    rw [<- hp] at h2 h3; exact low_of h1 h2 h3
   clear hp hdef
   repeat' (first | exact trivial | refine ⟨?_, ?_⟩ | intro _)
   all_goals first | (with_reducible first | apply qa | apply qb | apply qc | apply qd) | (conv => whnf)
   refine loop_ok tys_ok (l := []) trivial (by kernel_rfl) (X := Nat × Nat)
    (fun x => ⟨[(9, vx (.int .i64 x.1)), (10, vx (.int .i64 x.2)), (0, .va (.c (.osl 0 9 0 L.length))), (1, vx (.string x1)), (2, .va (.c (.fv gFind))), (8, vx (.int .i64 L.length))], [(0, .row 9 L.length (rwB L))], 1, 49⟩)
    (fun x => x.2 - x.1) (fun x => x.1 <= x.2 /\ x.2 <= L.length /\ (∀ k, k < x.1 -> p k = true) /\ (∀ k, x.2 <= k -> k < L.length -> p k = false)) [] []
    (fun x _ _ => if p ((x.1 + x.2) / 2) = true then ((x.1 + x.2) / 2 + 1, x.2) else (x.1, (x.1 + x.2) / 2)) [0] [0] 0 0 (0, L.length) ?_ ?_ ?_
   . exact ⟨Nat.zero_le _, Nat.le_refl _, fun k h => absurd h (Nat.not_lt_zero k), fun k h1 h2 => absurd h1 (Nat.not_le_of_lt h2)⟩
   . repeat' (first | exact trivial | exact rfl | (intro _ _; exact rfl) | refine ⟨?_, ?_⟩ | fail)
   . rintro ⟨i, j⟩ ⟨k2, k3, k4, k5⟩
     dsimp only at k2 k3 k4 k5
     rcases Nat.lt_or_ge i j with hij | hij
     . have hne : decide ((i : Int) < (j : Int)) = true := decide_eq_true (by omega)
       have hh : IntKind.wrap .i64 ((IntKind.wrap .u64 (IntKind.wrap .i64 ((i : Int) + (j : Int)))).fdiv (2 ^ min (Int.toNat 1) (IntKind.bits .u64))) = (((i + j) / 2 : Nat) : Int) := hlf (by omega)
       have hq1 : i <= (i + j) / 2 := by omega
       have hq2 : (i + j) / 2 < j := by omega
       generalize hq : (i + j) / 2 = q at *
       cases hc : p q with
       | true =>
         repeat' (first | exact trivial | refine ⟨?_, ?_⟩ | intro _)
         all_goals first | (with_reducible first | apply qa | apply qb | apply qc | apply qd) | (conv => whnf)
         all_goals first | (exact absurd (hne.symm.trans ‹_ = false›) (by decide)) | skip
         all_goals first | (have hd := ‹decide (cfL _ _ < 0) = false›; simp only [hh, Int.toNat_natCast, Nat.zero_add] at hd; exact absurd ((hc.symm.trans (hpd q)).trans hd) (by decide)) | skip
         all_goals (try simp only [hh, hq, hc, if_true, Int.toNat_natCast, Nat.zero_add])
         all_goals first | rfl | omega | (dsimp only; omega) | (exact congrArg (Value.int .i64) (by first | (rw [wI_id _ (by omega) (by omega)]; omega) | omega | (dsimp only; omega))) | (rename_i kk h1; simp only [hq, hc, if_true] at h1; exact hm _ q (by omega) (by omega) hc) | (rename_i kk h1 h2; simp only [hq, hc, if_true] at h1 h2; exact k5 _ h1 h2)
       | false =>
         repeat' (first | exact trivial | refine ⟨?_, ?_⟩ | intro _)
         all_goals first | (with_reducible first | apply qa | apply qb | apply qc | apply qd) | (conv => whnf)
         all_goals first | (exact absurd (hne.symm.trans ‹_ = false›) (by decide)) | skip
         all_goals first | (have hd := ‹decide (cfL _ _ < 0) = true›; simp only [hh, Int.toNat_natCast, Nat.zero_add] at hd; exact absurd ((hc.symm.trans (hpd q)).trans hd) (by decide)) | skip
         all_goals (try simp only [hh, hq, hc, if_false, Bool.false_eq_true, Int.toNat_natCast, Nat.zero_add])
         all_goals first | rfl | omega | (dsimp only; omega) | (exact congrArg (Value.int .i64) (by first | (rw [wI_id _ (by omega) (by omega)]; omega) | omega | (dsimp only; omega))) | (rename_i kk h1; simp only [hq, hc, if_false, Bool.false_eq_true] at h1; exact k4 _ h1) | (rename_i kk h1 h2; simp only [hq, hc, if_false, Bool.false_eq_true] at h1 h2; exact hm2 _ q (by omega) h2 hc)
     . have hne : decide ((i : Int) < (j : Int)) = false := decide_eq_false (by omega)
       obtain rfl : i = j := by omega
       have hl := hlow i k3 k4 k5
       repeat' (first | exact trivial | refine ⟨?_, ?_⟩ | intro _)
       all_goals first | (with_reducible first | apply qa | apply qb | apply qc | apply qd) | (conv => whnf)
       all_goals first | (exact absurd (hne.symm.trans ‹_ = true›) (by decide)) | skip
       all_goals (try dsimp only)
       all_goals (try simp only [Int.toNat_natCast, Nat.zero_add])
       all_goals (try unfold foundN)
       all_goals (try rw [hl])
       all_goals first | omega | rfl | (have hd := of_decide_eq_true ‹decide (((i, i).1 : Int) < (L.length : Int)) = true›; exact hd) | (have hd := of_decide_eq_true ‹decide (((i, i).1 : Int) < _) = true›; rw [show decide (i < L.length) = true from decide_eq_true (by dsimp only at hd; omega)]; rfl) | (have hd := of_decide_eq_false ‹decide (((i, i).1 : Int) < (L.length : Int)) = false›; rw [show decide (i < L.length) = false from decide_eq_false (by dsimp only at hd; omega)]; rfl)
 . cases h
def FEFind : List Ar -> Option Rs
 | [.agg [.d (.v (.bool _)), .d (.lst 9 n0 f0)], .c (.d (.v (.string x1)))] => some ⟨(n0 <= 1099511627776 /\ RowsOk n0 f0) /\ (Std ltB (gBs n0 f0)), .tup [.c (.d (it (lowN (gBs n0 f0) x1 : Nat))), .c (.d (bo (foundN (gBs n0 f0) x1)))], []⟩
 | _ => none
theorem fcEFind : FC Tryz.prog 60 FEFind := by
 intro xs pre r us h hp
 unfold FEFind at h
 split at h
 . rename_i e0 n0 f0 x1
   cases h
   obtain ⟨hp0, hp1⟩ := hp
   refine FCat.deep (ys := [.agg [.d (.v (.bool e0)), .d (.lst 9 n0 (rwB (gBs n0 f0)))], .c (.d (.v (.string x1)))]) ?_ ?_
   . repeat' (first | exact trivial | exact rfl | exact DvE.refl _ | refine ⟨?_, ?_⟩ | fail)
     all_goals first | first | exact canonB hp0.2.h | exact (canonBo hp0.2.h).2.2
   refine fcat tys_ok (l := [(112, ⟨[], FBSearch⟩), (113, ⟨[], FFindC⟩)]) ⟨fcBSearch, fcFindC, trivial⟩ Tryz.func60 rfl (by kernel_rfl) false ?_
   have hn := hp0.1
   have hL := okL_rows hp0.2
   have hlen := gBs_length n0 f0
   generalize gBs n0 f0 = L at *
   clear hp0
   subst hlen
   have hrow := okL_row hL
   have hb := gBs_row L
   repeat' (first | exact trivial | (with_reducible exact hrow) | refine ⟨?_, ?_⟩ | intro _)
   all_goals first | (with_reducible first | apply qa | apply qb | apply qc | apply qd) | (conv => whnf)
   all_goals (try simp only [hb])
   all_goals first | exact hn | exact hp1 | exact Nat.le_refl _ | rfl
 . cases h
theorem ofS_nil : ofS [] = [] := List.eq_nil_of_length_eq_zero (Nat.le_zero.1 (ofS_len []))
theorem gN_zero (f : Nat -> List DV) : gN 0 f = [] := rfl
namespace Vl
def zeroV (p : Bool) : Vl := if p = true then ⟨Ig.zero, ⟨true, []⟩⟩ else ⟨⟨Sp.of 0 0, Cg.of 0 0⟩, ⟨false, []⟩⟩
end Vl
def FVZero : List Ar -> Option Rs
 | [.c (.d (.v (.bool b0)))] => some ⟨True, .va (Vl.ar (Vl.zeroV b0)), []⟩
 | _ => none
theorem fcVZero : FC Tryz.prog 58 FVZero := by
 intro xs pre r us h hp
 unfold FVZero at h
 split at h
 . rename_i b0
   cases h
   refine fcat tys_ok (l := [(109, ⟨[], FN 1 FNOf⟩), (108, ⟨[], FVPtr⟩), (59, ⟨[], FVNum⟩)]) ⟨fc_nil 1 fcNOf, fcVPtr, fcVNum, trivial⟩ Tryz.func58 rfl (by kernel_rfl) true ?_
   repeat' (first | exact trivial | refine ⟨?_, ?_⟩ | intro _)
   all_goals first | (with_reducible first | apply qa | apply qb | apply qc | apply qd) | (conv => whnf)
   all_goals first | (have hb := ‹b0 = true›; subst hb) | (have hb := ‹b0 = false›; subst hb)
   all_goals (try simp only [gN_zero, ofS_nil])
   all_goals (try simp only [show (Vl.zeroV true).t.names = [] from rfl, List.length_nil, gN_zero, ofS_nil])
   all_goals first | rfl | omega | (exact Nat.zero_le _) | (exact absurd ‹_ = true› (by decide)) | (exact absurd ‹_ = false› (by decide)) | (exact absurd ‹_ < 0› (Nat.not_lt_zero _))
 . cases h
theorem std_dd {l : List Bd} (h : Std ltB l) : Std ltB (dd l) := by
 have hA : ∀ (r : List Bd) (p : Bd), Std ltB (p :: r) -> Std ltB (p :: ddA p r) := by
  intro r
  induction r with
  | nil => intro p h; exact h
  | cons y r ih =>
    intro p h
    have h1 := List.pairwise_cons.1 h
    have h2 := List.pairwise_cons.1 h1.2
    rw [ddA]
    split
    . have := List.pairwise_cons.1 (ih y h1.2)
      exact List.pairwise_cons.2 ⟨fun x hx => h1.1 x (List.mem_cons_of_mem _ (ddA_sub _ _ hx)), this.2⟩
    . have h3 := ih y h1.2
      refine List.pairwise_cons.2 ⟨fun x hx => ?_, h3⟩
      rcases List.mem_cons.1 hx with rfl | hx
      . exact h1.1 _ List.mem_cons_self
      . exact h1.1 x (List.mem_cons_of_mem _ (ddA_sub _ _ hx))
 cases l with
 | nil => exact h
 | cons p r => exact hA r p h
theorem std_of {l : List Bd} (h : Std ltB l) : Std ltB (l.map fun b => ⟨b.name, b.v.of⟩) := by
 unfold Std
 rw [List.pairwise_map]
 exact h
theorem clean_std (e : En) : Std ltB e.clean.binds := by
 unfold En.clean
 split
 . exact std_of (std_dd (srt_srt wkB _))
 . exact List.Pairwise.nil
theorem found_lt {L : List Bd} {s : ByteArray} (h : foundN L s = true) : lowN L s < L.length := by
 unfold foundN at h
 rw [Bool.and_eq_true] at h
 exact of_decide_eq_true h.1
namespace En
def get (e : En) (s : ByteArray) : Vl := if foundN e.clean.binds s = true then (atB e.clean.binds (lowN e.clean.binds s)).v else Vl.zero
end En
def FEGet : List Ar -> Option Rs
 | [.agg [.d (.v (.bool e0)), .d (.lst 9 n0 f0)], .c (.d (.v (.string x1)))] => some ⟨(n0 <= 1099511627776 /\ RowsOk n0 f0), .va (Vl.ar (En.get (⟨e0, gBs n0 f0⟩ : En) x1)), []⟩
 | _ => none
theorem fcEGet : FC Tryz.prog 24 FEGet := by
 intro xs pre r us h hp
 unfold FEGet at h
 split at h
 . rename_i e0 n0 f0 x1
   cases h
   have hp0 := hp
   refine FCat.deep (ys := [.agg [.d (.v (.bool e0)), .d (.lst 9 n0 (rwB (gBs n0 f0)))], .c (.d (.v (.string x1)))]) ?_ ?_
   . repeat' (first | exact trivial | exact rfl | exact DvE.refl _ | refine ⟨?_, ?_⟩ | fail)
     all_goals first | exact canonB hp0.2.h
   refine fcat tys_ok (l := [(22, ⟨[], FEClean⟩), (60, ⟨[], FEFind⟩)]) ⟨fcEClean, fcEFind, trivial⟩ Tryz.func24 rfl (by kernel_rfl) true ?_
   have hn := hp0.1
   have hL := okL_rows hp0.2
   have hlen := gBs_length n0 f0
   generalize gBs n0 f0 = L at *
   clear hp0
   subst hlen
   have hrow := okL_row hL
   have hb := gBs_row L
   have hc := clean_ok (e := ⟨e0, L⟩) hL
   have hcr := okL_row hc
   have hcl := clean_len ⟨e0, L⟩
   have hcs := clean_std ⟨e0, L⟩
   have hcn : (En.clean ⟨e0, L⟩).binds.length <= 1099511627776 := Nat.le_trans hcl hn
   repeat' (first | exact trivial | refine ⟨?_, ?_⟩ | intro _)
   all_goals first | (with_reducible first | apply qa | apply qb | apply qc | apply qd) | (conv => whnf)
   all_goals (try simp only [gBs_row, Bool.not_eq_true', Bool.not_eq_false', Int.toNat_natCast, Nat.zero_add] at *)
   all_goals first | exact hrow | exact hcr | exact hn | exact hcn | exact hcs | (have hd := ‹foundN _ _ = true›; have hlt := found_lt hd; first | omega | (unfold En.get; rw [if_pos hd]; done) | (unfold En.get; rw [if_pos hd]; rfl)) | (have hd := ‹foundN _ _ = false›; unfold En.get; rw [if_neg (by rw [hd]; exact Bool.false_ne_true)]; rfl) | rfl
 . cases h
theorem rep_at {P : Program} {base : Nat} {ψ : Psi} {S : Nat -> Prop} {w : World} {st : St} {a : Act} (hrel : Rel P base ψ S w st a) {k ln : Nat} {f : Nat -> List DV} (hb : lookB st.heap k = .row 9 ln f) {b m : Nat} (h1 : ψ k = some (.at b m)) :
 ∃ arr e, w.heap[b]? = some (.cells arr e (0, 0)) /\ arr.size = m := by
 have := hrel.sim.blk k _ h1
 rw [hb] at this
 obtain ⟨arr, e, h2, h3, _⟩ := this
 exact ⟨arr, e, h2, h3⟩
theorem rep_sl {P : Program} {ψ : Psi} {S : Nat -> Prop} {w : World} {k o len : Nat} {c : Cell} {v : Value} (hc : c = .osl k 9 o len \/ ∃ q, c = .osc k 9 o len q) (hl : 0 < len) (h : RepC P ψ S w c v) :
 ∃ b m q off, ψ k = some (.at b m) /\ v = .slice (some ⟨b, off, none⟩) len q /\ 0 < m := by
 rcases hc with rfl | ⟨q, rfl⟩
 . rcases h with ⟨_, h, _⟩ | ⟨b, m, c, off, h1, h2, h3, h4⟩
   . omega
   . obtain ⟨_, h5⟩ := h4 (by omega)
     exact ⟨b, m, c, off, h1, h2, by omega⟩
 . rcases h with ⟨_, h, _⟩ | ⟨b, m, off, h1, h2, h3, h4⟩
   . omega
   . obtain ⟨_, h5⟩ := h4 (by omega)
     exact ⟨b, m, q, off, h1, h2, by omega⟩
theorem acall_overlaps {base : Nat} {k1 k2 o1 o2 len1 len2 ln1 ln2 : Nat} {f1 f2 : Nat -> List DV} {c1 c2 : Cell} {ts : List (Nat × Tm)} {h : List (Nat × Blk)} {n m : Nat} {K : Tm -> St -> Prop} (hc1 : c1 = .osl k1 9 o1 len1 \/ ∃ q, c1 = .osc k1 9 o1 len1 q) (hc2 : c2 = .osl k2 9 o2 len2 \/ ∃ q, c2 = .osc k2 9 o2 len2 q) (hne : k1 ≠ k2) (hb1 : lookB h k1 = .row 9 ln1 f1) (hb2 : lookB h k2 = .row 9 ln2 f2)
 (hl1 : 0 < len1) (hl2 : 0 < len2) (hk : K (.va (.c (.d (bo false)))) ⟨ts, h, n, m⟩) : ACall Tryz.prog base 114 [.c c1, .c c2] ⟨ts, h, n, m⟩ K := by
 refine ⟨fun ψ S w a vals hrel hvals => ?_⟩
 match vals, hvals with
 | [v1, v2], ⟨hv1, hv2, _⟩ =>
   obtain ⟨b1, m1, q1, off1, p1, rfl, r1⟩ := rep_sl hc1 hl1 hv1
   obtain ⟨b2, m2, q2, off2, p2, rfl, r2⟩ := rep_sl hc2 hl2 hv2
   obtain ⟨a1, e1, s1, u1⟩ := rep_at hrel (f := f1) (ln := ln1) hb1 p1
   obtain ⟨a2, e2, s2, u2⟩ := rep_at hrel (f := f2) (ln := ln2) hb2 p2
   have hbb : b1 ≠ b2 := by
    intro e
    subst e
    exact hne (hrel.sim.inj k1 k2 b1 m1 m2 p1 p2 (by show (lookB h k1).live; rw [hb1]; trivial) (by show (lookB h k2).live; rw [hb2]; trivial))
   have key : (callFunc 114 #[.slice (some ⟨b1, off1, none⟩) len1 q1, .slice (some ⟨b2, off2, none⟩) len2 q2]).run Tryz.prog w = .ok (.value (.bool false)) w := by
    rw [run_callFunc_extern (fn := Tryz.f114) (by kernel_rfl) (by kernel_rfl) (by kernel_rfl) (by kernel_rfl) (e := Extern.SlicesOverlaps.overlaps #[34, 34] #[4]) (by kernel_rfl),
     Lib.run_overlaps_apart w 34 4 56 (by kernel_rfl) 9 (fun w => by kernel_rfl) ⟨b1, off1, none⟩ ⟨b2, off2, none⟩ len1 q1 len2 q2 hbb e1 e2 a1.size a2.size
      (by simp [World.shape?, s1]) (by simp [World.shape?, s2]) (by omega) (by simp [World.frozen?, s1]) (by simp [World.frozen?, s1])]
    rfl
   exact .inr ⟨_, _, key, _, _, _, ψ, S, rfl, hk, hrel, .v trivial, Ext.refl _ _ _ _⟩
def insR (G : Nat -> Bd) (i : Nat) (x : Bd) : Nat -> Bd := fun k => if k < i then G k else if k = i then x else G (k - 1)
def FInsert : List Ar -> Option Rs
 | [.c (.ow 9 n0 f0), .c (.d (.v (.int .i64 i1))), .c (.ow 9 n2 f2)] => some ⟨(n0 <= 1099511627776 /\ ∀ i, i < n0 -> rowSB (f0 i)) /\ (-9223372036854775808 <= i1 /\ i1 < 9223372036854775808) /\ (n2 <= 1099511627776 /\ ∀ i, i < n2 -> rowSB (f2 i)) /\ ((0 <= i1 /\ i1 <= n0) /\ n2 = 1), .va (.c (.ow 9 (n0 + 1) fun k => bdC (insR (gF f0) (i1).toNat ((gF f2) 0) k))), [none, some fun k => bdC ((gF f2) k)]⟩
 | _ => none
theorem fcInsert : FC Tryz.prog 61 FInsert := by
 intro xs pre r us h hp
 unfold FInsert at h
 split at h
 . rename_i n0 f0 i1 n2 f2
   cases h
   obtain ⟨hp0, hp1, hp2, hp3⟩ := hp
   refine FCat.deep (ys := [.c (.ow 9 n0 fun k => bdC (gF f0 k)), .c (.d (.v (.int .i64 i1))), .c (.ow 9 n2 fun k => bdC (gF f2 k))]) ?_ ?_
   . repeat' (first | exact trivial | exact rfl | exact DvE.refl _ | refine ⟨?_, ?_⟩ | fail)
     all_goals first | first | exact (canonF hp0.2).2.2 | exact (canonF hp2.2).2.2
   refine fcatc tys_ok (l := []) trivial Tryz.func61 rfl (by kernel_rfl) false ?_
   obtain ⟨⟨ha, hb⟩, rfl⟩ := hp3
   obtain ⟨i, rfl⟩ := Int.eq_ofNat_of_zero_le ha
   have hn := hp0.1
   clear hp0 hp2
   generalize gF f0 = G at *
   generalize gF f2 = X at *
   simp only [Int.toNat_natCast] at *
   repeat' (first | exact trivial | refine ⟨?_, ?_⟩ | intro _)
   all_goals first | (with_reducible first | apply qa | apply qb | apply qc | apply qd) | (conv => whnf)
   all_goals (have hcap := ‹capLe _ _›; simp only [capLe] at hcap)
   all_goals first | omega | (exact absurd (eq_of_beq ‹(((1 : Nat) : Int) == 0) = true›) (by decide)) | skip
   all_goals (have hw1 : IntKind.wrap .i64 ((n0 : Int) + ((1 : Nat) : Int)) = (n0 : Int) + 1 := by rw [wI_id _ (by omega) (by omega)]; rfl)
   all_goals (have hw2 : IntKind.wrap .i64 ((i : Int) + ((1 : Nat) : Int)) = (i : Int) + 1 := by rw [wI_id _ (by omega) (by omega)]; rfl)
   all_goals (have hw3 : IntKind.wrap .i64 (IntKind.wrap .i64 ((n0 : Int) + ((1 : Nat) : Int)) - (i : Int)) = (n0 : Int) + 1 - i := by rw [hw1, wI_id _ (by omega) (by omega)])
   all_goals first | (have hin := eq_of_beq ‹((i : Int) == (n0 : Int)) = true›) | (have hin := ne_of_beq_false ‹((i : Int) == (n0 : Int)) = false›) | skip
   all_goals first | (have hgt := of_decide_eq_true ‹decide (_ > (_ : Int)) = true›) | (have hgt := of_decide_eq_false ‹decide (_ > (_ : Int)) = false›) | skip
   all_goals (simp only [hw3, hw1, hw2] at *)
   all_goals first | omega | skip
   all_goals first | (rename_i k hk; simp only [cpyRow, appRow, insR]; (repeat' split); all_goals first | (exfalso; omega) | exact congrArg bdC (congrArg X (by omega)) | exact congrArg bdC (congrArg G (by omega))) | skip
   apply acall_overlaps
   . exact .inl rfl
   . exact .inr ⟨_, rfl⟩
   . decide
   . exact rfl
   . exact rfl
   . decide
   . omega
   have hw4 : IntKind.wrap .i64 ((i : Int) + ((1 : Nat) : Int)) = (i : Int) + 1 := by rw [wI_id _ (by omega) (by omega)]; rfl
   repeat' (first | exact trivial | refine ⟨?_, ?_⟩ | intro _)
   all_goals first | (with_reducible first | apply qa | apply qb | apply qc | apply qd) | (conv => whnf)
   all_goals first | (exact absurd ‹(!false) = false› (by decide)) | skip
   all_goals (try simp only [hw4])
   all_goals first | omega | (rename_i k hk; simp only [cpyRow, appRow, insR]; (repeat' split); all_goals first | (exfalso; omega) | exact congrArg bdC (congrArg X (by omega)) | exact congrArg bdC (congrArg G (by omega)))
 . cases h
def setB (D : List Bd) (s : ByteArray) (w : Vl) : List Bd :=
 if foundN D s = true then D.set (lowN D s) ⟨(atB D (lowN D s)).name, w⟩ else D.take (lowN D s) ++ ⟨s, w⟩ :: D.drop (lowN D s)
theorem low_le (D : List Bd) (s : ByteArray) : lowN D s <= D.length := List.countP_le_length
theorem atB_set {D : List Bd} {i k : Nat} {x : Bd} (hk : k < D.length) : atB (D.set i x) k = if k = i then x else atB D k := by
 unfold atB
 rw [List.getD_eq_getElem?_getD, List.getElem?_set]
 by_cases h : i = k
 . subst h; rw [if_pos rfl, if_pos hk, if_pos rfl]; rfl
 . rw [if_neg h, if_neg (Ne.symm h), List.getD_eq_getElem?_getD]
theorem atB_ins {D : List Bd} {i : Nat} {x : Bd} (hi : i <= D.length) (k : Nat) : atB (D.take i ++ x :: D.drop i) k = insR (atB D) i x k := by
 unfold atB insR
 have hl : (D.take i).length = i := by rw [List.length_take]; omega
 simp only [List.getD_eq_getElem?_getD]
 by_cases h : k < i
 . rw [if_pos h, List.getElem?_append_left (by omega), List.getElem?_take_of_lt h]
 . rw [if_neg h, List.getElem?_append_right (by omega), hl]
   by_cases h2 : k = i
   . subst h2; rw [if_pos rfl, Nat.sub_self]; rfl
   . rw [if_neg h2, show k - i = (k - i - 1) + 1 by omega, List.getElem?_cons_succ, List.getElem?_drop]
     congr 2; omega
theorem set_len (D : List Bd) (s : ByteArray) (w : Vl) : (setB D s w).length = if foundN D s = true then D.length else D.length + 1 := by
 unfold setB
 have := low_le D s
 split
 . rw [List.length_set]
 . simp only [List.length_append, List.length_take, List.length_cons, List.length_drop]; omega
namespace En
def set (e : En) (s : ByteArray) (v : Vl) : En := if e.clean.live = true then ⟨true, setB e.clean.binds s v.of⟩ else e.clean
end En
theorem set_row1 {D : List Bd} {s : ByteArray} {w : Vl} {r : List DV} (h : foundN D s = true) (hr : r = bdC ⟨(atB D (lowN D s)).name, w⟩) {k : Nat} (hk : k < D.length) : setRow (rwB D) (lowN D s) r k = bdC (atB (setB D s w) k) := by
 subst hr
 unfold setB
 rw [if_pos h, atB_set hk, setRow_at]
 split <;> rfl
theorem gF_rwB (D : List Bd) : gF (rwB D) = atB D := gF_bdC (atB D)
theorem set_row2 {D : List Bd} {s : ByteArray} {w : Vl} {r : List DV} {x : Bd} (h : foundN D s = false) (hr : r = bdC ⟨s, w⟩) (k : Nat) : setRow (fun k => bdC (insR (gF (rwB D)) (lowN D s) x k)) (lowN D s) r k = bdC (atB (setB D s w) k) := by
 subst hr
 unfold setB
 rw [if_neg (by rw [h]; exact Bool.false_ne_true), atB_ins (low_le D s), setRow_at, gF_rwB]
 by_cases hk : k = lowN D s
 . subst hk; rw [if_pos rfl]; unfold insR; rw [if_neg (Nat.lt_irrefl _), if_pos rfl]
 . rw [if_neg hk]; unfold insR; rw [if_neg hk, if_neg hk]
theorem insR_at (G : Nat -> Bd) (i : Nat) (x : Bd) : insR G i x i = x := by unfold insR; rw [if_neg (Nat.lt_irrefl _), if_pos rfl]
theorem hok_rw (L : List Bd) : ∀ i, i < L.length -> rowSB (rwB L i) := fun i _ => rowSB_bdC _
def FESet : List Ar -> Option Rs
 | [.agg [.d (.v (.bool e0)), .d (.lst 9 n0 f0)], .c (.d (.v (.string x1))), .agg [.d (.v (.bool s2)), .d (.v (.int .i64 l2)), .d (.v (.int .i64 h2)), .d (.v (.bool b2)), .d (.v (.int .i64 m2)), .d (.v (.int .i64 r2)), .d (.v (.bool z2)), .d (.lst 1 n2 f2)]] => some ⟨(n0 <= 1099511627776 /\ RowsOk n0 f0) /\ ((n2 * 16 <= 140737488351232 /\ ∀ i, i < n2 -> f2 i = [st (gT (f2 i))]) /\ Sp.inR ⟨s2, l2, h2⟩ /\ Cg.inR ⟨b2, m2, r2⟩), .va (En.ar (En.set (⟨e0, gBs n0 f0⟩ : En) x1 (⟨⟨⟨s2, l2, h2⟩, ⟨b2, m2, r2⟩⟩, ⟨z2, gN n2 f2⟩⟩ : Vl))), []⟩
 | _ => none
theorem fcESet : FC Tryz.prog 18 FESet := by
 intro xs pre r us h hp
 unfold FESet at h
 split at h
 . rename_i e0 n0 f0 x1 s2 l2 h2 b2 m2 r2 z2 n2 f2
   cases h
   obtain ⟨hp0, hp1⟩ := hp
   refine FCat.deep (ys := [.agg [.d (.v (.bool e0)), .d (.lst 9 n0 (rwB (gBs n0 f0)))], .c (.d (.v (.string x1))), .agg [.d (.v (.bool s2)), .d (.v (.int .i64 l2)), .d (.v (.int .i64 h2)), .d (.v (.bool b2)), .d (.v (.int .i64 m2)), .d (.v (.int .i64 r2)), .d (.v (.bool z2)), .d (.lst 1 n2 fun i => [st (gT (f2 i))])]]) ?_ ?_
   . repeat' (first | exact trivial | exact rfl | exact DvE.refl _ | refine ⟨?_, ?_⟩ | fail)
     all_goals first | first | exact canonB hp0.2.h | (exact .rows fun i hi => by rw [hp1.1.2 i hi]; exact ⟨rfl, fun j a b ha hb => by have hb : [st (gT (f2 i))][j]? = some b := hb; rw [ha] at hb; cases hb; exact .refl _⟩)
   refine fcat tys_ok (l := [(22, ⟨[], FECleanO⟩), (112, ⟨[true], FBSearchO⟩), (61, ⟨[true, false, true], FInsert⟩), (62, ⟨[], FVCleanV⟩), (113, ⟨[], FFindC⟩)]) ⟨fcECleanO, fcBSearchO, fcInsert, fcVCleanV, fcFindC, trivial⟩ Tryz.func18 rfl (by kernel_rfl) true ?_
   have hn := hp0.1
   have hL := okL_rows hp0.2
   have hlen := gBs_length n0 f0
   generalize gBs n0 f0 = L at *
   clear hp0
   subst hlen
   have hrow := okL_row hL
   have hb := gBs_row L
   have hc := clean_ok (e := ⟨e0, L⟩) hL
   have hcr := okL_row hc
   have hcl := clean_len ⟨e0, L⟩
   have hcs := clean_std ⟨e0, L⟩
   have hcn : (En.clean ⟨e0, L⟩).binds.length <= 1099511627776 := Nat.le_trans hcl hn
   have hv2 : okV (⟨⟨⟨s2, l2, h2⟩, ⟨b2, m2, r2⟩⟩, ⟨z2, gN n2 fun i => [st (gT (f2 i))]⟩⟩ : Vl) := ⟨⟨(by rw [gN_length]; exact hp1.1.1), fun _ _ => rfl⟩, hp1.2⟩
   have ho2 := okV_of hv2
   have hoo2 := okV_of ho2
   unfold okV at ho2 hoo2
   repeat' (first | exact trivial | (with_reducible exact (hok_rw _)) | refine ⟨?_, ?_⟩ | intro _)
   all_goals first | (with_reducible first | apply qa | apply qb | apply qc | apply qd) | (conv => whnf)
   all_goals first | ((with_reducible show ACall _ _ _ _ _ _); refine inl tys_ok (l := [(22, ⟨[], FECleanO⟩), (112, ⟨[true], FBSearchO⟩), (61, ⟨[true, false, true], FInsert⟩), (62, ⟨[], FVCleanV⟩), (113, ⟨[], FFindC⟩)]) ⟨fcECleanO, fcBSearchO, fcInsert, fcVCleanV, fcFindC, trivial⟩ Tryz.func60 rfl (by kernel_rfl) (by kernel_rfl) rfl ?_) | skip
   all_goals repeat' (first | exact trivial | (with_reducible exact (hok_rw _)) | refine ⟨?_, ?_⟩ | intro _)
   all_goals first | (with_reducible first | apply qa | apply qb | apply qc | apply qd) | (conv => whnf)
   all_goals (try simp only [gBs_row, Bool.not_eq_true', Bool.not_eq_false', Int.toNat_natCast, Nat.zero_add] at *)
   all_goals (have hset : En.set ⟨e0, L⟩ x1 ⟨⟨⟨s2, l2, h2⟩, ⟨b2, m2, r2⟩⟩, ⟨z2, gN n2 f2⟩⟩ = if (En.clean ⟨e0, L⟩).live = true then ⟨true, setB (En.clean ⟨e0, L⟩).binds x1 (Vl.of (⟨⟨⟨s2, l2, h2⟩, ⟨b2, m2, r2⟩⟩, ⟨z2, gN n2 fun i => [st (gT (f2 i))]⟩⟩ : Vl))⟩ else En.clean ⟨e0, L⟩ := rfl)
   all_goals (generalize En.set ⟨e0, L⟩ x1 ⟨⟨⟨s2, l2, h2⟩, ⟨b2, m2, r2⟩⟩, ⟨z2, gN n2 f2⟩⟩ = R at *; generalize (⟨⟨⟨s2, l2, h2⟩, ⟨b2, m2, r2⟩⟩, ⟨z2, gN n2 fun i => [st (gT (f2 i))]⟩⟩ : Vl) = V at *; generalize En.clean ⟨e0, L⟩ = C at *; have hlow := low_le C.binds x1)
   all_goals first | (have hl := ‹C.live = true›; rw [if_pos hl] at hset; subst hset) | (have hl := ‹C.live = false›; rw [if_neg (by rw [hl]; exact Bool.false_ne_true)] at hset; subst hset) | skip
   all_goals first | rfl | exact hrow | exact hcr | exact hn | exact hcn | exact hcs | omega | exact .inl rfl | skip
   all_goals first | (obtain rfl := Nat.lt_one_iff.1 ‹_ < 1›; first | exact .inr rfl | exact absurd ‹_ < gn9 _› (Nat.not_lt_zero _)) | skip
   all_goals first | (have hd := ‹foundN _ _ = true›; have hlt := found_lt hd; have hle := set_len C.binds x1 V.of; rw [if_pos hd] at hle; first | omega | exact hle.symm | skip) | (have hd := ‹foundN _ _ = false›; have hle := set_len C.binds x1 V.of; rw [if_neg (by rw [hd]; exact Bool.false_ne_true)] at hle; first | omega | exact hle.symm | skip) | skip
   all_goals first | (have hq := hp1.2; simp only [Sp.inR, Cg.inR] at hq; omega) | skip
   all_goals first | (exact congrArg Value.bool hl) | (rename_i k hk; (try simp only [gN_lst]); first | (exact set_row1 hd rfl hk) | (exact set_row2 hd (by rw [insR_at]; rfl) _)) | skip
   all_goals (rename_i k hk; exact set_row1 (w := V.of) hd rfl hk)
 . cases h
namespace En
def names (e : En) : List ByteArray := if e.live = true then cleanS (e.binds.map (·.name)) else []
def rget (e : En) (s : ByteArray) : Vl := if e.live = true then ((e.binds.find? fun b => decide (b.name = s)).map fun b => b.v.rclean).getD Vl.zero else Vl.zero
def rclean (e : En) : En := ⟨e.live, e.names.map fun s => ⟨s, e.rget s⟩⟩
end En
def nmP (L : List Bd) (i : Nat) : List ByteArray := ((seg (atB L) 0 i).map (·.name)).foldl putS []
theorem nmP_all (L : List Bd) : nmP L L.length = cleanS (L.map (·.name)) := by unfold nmP cleanS; rw [seg_atB]
theorem nmP_succ (L : List Bd) (i : Nat) : nmP L (i + 1) = putS (nmP L i) (atB L i).name := by
 unfold nmP; rw [seg_snoc _ (Nat.zero_le i), List.map_append, List.foldl_append]; rfl
theorem nmP_len (L : List Bd) (i : Nat) : (nmP L i).length <= i := by
 induction i with
 | zero => exact Nat.le_refl _
 | succ i ih => rw [nmP_succ]; have := putS_len (nmP L i) (atB L i).name; omega
def FRNames : List Ar -> Option Rs
 | [.agg [.d (.v (.bool e0)), .d (.lst 9 n0 f0)]] => some ⟨(n0 <= 1099511627776 /\ RowsOk n0 f0), .va (.c (.d (lst (En.names (⟨e0, gBs n0 f0⟩ : En))))), []⟩
 | _ => none
theorem fcRNames : FC Tryz.prog 66 FRNames := by
 intro xs pre r us h hp
 unfold FRNames at h
 split at h
 . rename_i e0 n0 f0
   cases h
   have hp0 := hp
   refine FCat.deep (ys := [.agg [.d (.v (.bool e0)), .d (.lst 9 n0 (rwB (gBs n0 f0)))]]) ?_ ?_
   . repeat' (first | exact trivial | exact rfl | exact DvE.refl _ | refine ⟨?_, ?_⟩ | fail)
     all_goals first | exact canonB hp0.2.h
   refine fcat tys_ok (l := [(120, ⟨[], FRPut⟩)]) ⟨fcRPut, trivial⟩ Tryz.func66 rfl (by kernel_rfl) true ?_
   have hn := hp0.1
   have hL := okL_rows hp0.2
   have hlen := gBs_length n0 f0
   generalize gBs n0 f0 = L at *
   clear hp0
   subst hlen
   have hrow := okL_row hL
   have hb := gBs_row L
   repeat' (first | exact trivial | refine ⟨?_, ?_⟩ | intro _)
   all_goals first | (with_reducible first | apply qa | apply qb | apply qc | apply qd) | (conv => whnf)
   refine loop_ids tys_ok (l := [(120, ⟨[], FRPut⟩)]) ⟨fcRPut, trivial⟩ (by kernel_rfl) (X := Nat × List ByteArray)
    (fun x => ⟨[(4, vx (.int .i64 x.1)), (3, .va (.c (.d (lst x.2)))), (1, .va (.c (.own 0 0)))], [(0, .cells [.d (bo e0), .d (.lst 9 L.length (rwB L))])], 1, 25⟩)
    (fun x => L.length - x.1) (fun x => x.1 <= L.length /\ x.2 = nmP L x.1 /\ (e0 = false -> x.1 = 0)) [] []
    (fun x _ _ => (x.1 + 1, putS x.2 (atB L x.1).name)) (fun _ => [0]) [0] 0 0 (0, []) ?_ ?_ ?_
   . exact ⟨Nat.zero_le _, rfl, fun _ => rfl⟩
   . repeat' (first | exact trivial | exact rfl | (intro _ h; exact absurd h (Nat.not_lt_zero _)) | (intro _ _; exact rfl) | refine ⟨?_, ?_⟩ | fail)
   . rintro ⟨i, l⟩ ⟨k1, k2, k4⟩
     dsimp only at k1 k2 k4
     have k3 := nmP_len L i
     rw [<- k2] at k3
     have k5 := nmP_succ L i
     rw [<- k2] at k5
     cases e0 with
     | false =>
       obtain rfl := k4 rfl
       have hem : En.names ⟨false, L⟩ = [] := rfl
       have hl0 : l = [] := k2
       subst hl0
       repeat' (first | exact trivial | refine ⟨?_, ?_⟩ | intro _)
       all_goals first | (with_reducible first | apply qa | apply qb | apply qc | apply qd) | (conv => whnf)
       all_goals first | (exact absurd ‹false = true› (by decide)) | skip
       all_goals (try rw [hem])
       all_goals first | rfl | (rename_i k hk; exact absurd hk (Nat.not_lt_zero _))
     | true =>
       have hem : En.names ⟨true, L⟩ = nmP L L.length := (nmP_all L).symm
       rcases Nat.lt_or_ge i L.length with hi | hi
       . have hne : decide ((i : Int) < (L.length : Int)) = true := decide_eq_true (by omega)
         repeat' (first | exact trivial | refine ⟨?_, ?_⟩ | intro _)
         all_goals first | (with_reducible first | apply qa | apply qb | apply qc | apply qd) | (conv => whnf)
         all_goals first | (exact absurd (hne.symm.trans ‹_ = false›) (by decide)) | (exact absurd ‹true = false› (by decide)) | skip
         all_goals (try simp only [Int.toNat_natCast, Nat.zero_add, gN_lst] at *)
         all_goals first | omega | rfl | ((with_reducible show idsOk _ _ = true); rfl) | exact k5.symm | (exact congrArg (Value.int .i64) (by first | (rw [wI_id _ (by omega) (by omega)]; omega) | omega | (dsimp only; omega))) | (exact absurd ‹true = false› (by decide))
       . have hne : decide ((i : Int) < (L.length : Int)) = false := decide_eq_false (by omega)
         obtain rfl : i = L.length := by omega
         rw [<- k2] at hem
         repeat' (first | exact trivial | refine ⟨?_, ?_⟩ | intro _)
         all_goals first | (with_reducible first | apply qa | apply qb | apply qc | apply qd) | (conv => whnf)
         all_goals first | (exact absurd (hne.symm.trans ‹_ = true›) (by decide)) | skip
         all_goals (try rw [hem])
         all_goals first | rfl
 . cases h
theorem rget_hit {L : List Bd} {s : ByteArray} {i : Nat} (hi : i < L.length) (h1 : ∀ k, k < i -> (atB L k).name ≠ s) (h2 : (atB L i).name = s) : En.rget ⟨true, L⟩ s = (atB L i).v.rclean := by
 have hA : ∀ k (h : k < L.length), atB L k = L[k] := fun k h => by unfold atB; rw [List.getD_eq_getElem?_getD, List.getElem?_eq_getElem h]; rfl
 have : L.find? (fun b => decide (b.name = s)) = some (atB L i) := by
  rw [List.find?_eq_some_iff_getElem]
  refine ⟨decide_eq_true h2, i, hi, (hA i hi).symm, fun j hj => ?_⟩
  rw [<- hA j (by omega)]
  simpa using h1 j hj
 unfold En.rget
 rw [if_pos rfl]
 show Option.getD (Option.map _ (List.find? _ L)) _ = _
 rw [this]; rfl
theorem rget_miss {L : List Bd} {s : ByteArray} (h1 : ∀ k, k < L.length -> (atB L k).name ≠ s) : En.rget ⟨true, L⟩ s = Vl.zero := by
 have : L.find? (fun b => decide (b.name = s)) = none := by
  rw [List.find?_eq_none]
  intro x hx
  obtain ⟨k, hk, rfl⟩ := mem_atB hx
  simpa using h1 k hk
 unfold En.rget
 rw [if_pos rfl]
 show Option.getD (Option.map _ (List.find? _ L)) _ = _
 rw [this]; rfl
def FRGet : List Ar -> Option Rs
 | [.agg [.d (.v (.bool e0)), .d (.lst 9 n0 f0)], .c (.d (.v (.string x1)))] => some ⟨(n0 <= 1099511627776 /\ RowsOk n0 f0), .va (Vl.ar (En.rget (⟨e0, gBs n0 f0⟩ : En) x1)), []⟩
 | _ => none
theorem fcRGet : FC Tryz.prog 25 FRGet := by
 intro xs pre r us h hp
 unfold FRGet at h
 split at h
 . rename_i e0 n0 f0 x1
   cases h
   have hp0 := hp
   refine FCat.deep (ys := [.agg [.d (.v (.bool e0)), .d (.lst 9 n0 (rwB (gBs n0 f0)))], .c (.d (.v (.string x1)))]) ?_ ?_
   . repeat' (first | exact trivial | exact rfl | exact DvE.refl _ | refine ⟨?_, ?_⟩ | fail)
     all_goals first | exact canonB hp0.2.h
   refine fcat tys_ok (l := [(27, ⟨[], FRVClean⟩)]) ⟨fcRVClean, trivial⟩ Tryz.func25 rfl (by kernel_rfl) true ?_
   have hn := hp0.1
   have hL := okL_rows hp0.2
   have hlen := gBs_length n0 f0
   generalize gBs n0 f0 = L at *
   clear hp0
   subst hlen
   have hrow := okL_row hL
   have hb := gBs_row L
   repeat' (first | exact trivial | refine ⟨?_, ?_⟩ | intro _)
   all_goals first | (with_reducible first | apply qa | apply qb | apply qc | apply qd) | (conv => whnf)
   refine loop_ids tys_ok (l := [(27, ⟨[], FRVClean⟩)]) ⟨fcRVClean, trivial⟩ (by kernel_rfl) (X := Nat)
    (fun x => ⟨[(5, vx (.int .i64 x)), (1, vx (.string x1)), (2, .va (.c (.own 0 0))), (4, .va (.c (.own 1 0)))], [(0, .cells [.d (bo e0), .d (.lst 9 L.length (rwB L))]), (1, .cells [.d (bo false), .d (it 0), .d (it 0), .d (bo false), .d (it 0), .d (it 0), .d (bo false), .d (.v (.slice none 0 0))])], 2, 33⟩)
    (fun x => L.length - x) (fun x => x <= L.length /\ ∀ k, k < x -> (atB L k).name ≠ x1) [] []
    (fun x _ _ => x + 1) (fun _ => [0, 1]) [0, 1] 0 0 0 ?_ ?_ ?_
   . exact ⟨Nat.zero_le _, fun k h => absurd h (Nat.not_lt_zero k)⟩
   . repeat' (first | exact trivial | exact rfl | (intro _ h; exact absurd h (Nat.not_lt_zero _)) | (intro _ _; exact rfl) | refine ⟨?_, ?_⟩ | fail)
   . rintro i ⟨k1, k2⟩
     cases e0 with
     | false =>
       have hem : En.rget ⟨false, L⟩ x1 = Vl.zero := rfl
       repeat' (first | exact trivial | refine ⟨?_, ?_⟩ | intro _)
       all_goals first | (with_reducible first | apply qa | apply qb | apply qc | apply qd) | (conv => whnf)
       all_goals first | (exact absurd ‹false = true› (by decide)) | skip
       all_goals (try rw [hem])
       all_goals first | rfl | (rename_i k hk; exact absurd hk (Nat.not_lt_zero _))
     | true =>
       rcases Nat.lt_or_ge i L.length with hi | hi
       . have hne : decide ((i : Int) < (L.length : Int)) = true := decide_eq_true (by omega)
         have ho1 := okL_at hL hi
         repeat' (first | exact trivial | refine ⟨?_, ?_⟩ | intro _)
         all_goals first | (with_reducible first | apply qa | apply qb | apply qc | apply qd) | (conv => whnf)
         all_goals first | (exact absurd (hne.symm.trans ‹_ = false›) (by decide)) | (exact absurd ‹true = false› (by decide)) | skip
         all_goals (try simp only [Int.toNat_natCast, Nat.zero_add, gN_lst, seq_iff, decide_eq_true_eq, decide_eq_false_iff_not] at *)
         all_goals first | (have hh := ‹(atB L i).name = x1›; have hem := rget_hit hi k2 hh; rw [hem]; rfl) | skip
         all_goals first | omega | rfl | ((with_reducible show idsOk _ _ = true); rfl) | (exact congrArg (Value.int .i64) (by first | (rw [wI_id _ (by omega) (by omega)]; omega) | omega | (dsimp only; omega))) | (exact ho1.1.1) | (have hq := ho1.2; simp only [Sp.inR, Cg.inR] at hq; omega) | (rename_i k hk he _ _ hno; rcases Nat.lt_or_ge k i with hki | hki; exact k2 k hki he; exact hno (by rw [show i = k by omega]; exact he))
       . have hne : decide ((i : Int) < (L.length : Int)) = false := decide_eq_false (by omega)
         obtain rfl : i = L.length := by omega
         have hem := rget_miss k2
         repeat' (first | exact trivial | refine ⟨?_, ?_⟩ | intro _)
         all_goals first | (with_reducible first | apply qa | apply qb | apply qc | apply qd) | (conv => whnf)
         all_goals first | (exact absurd (hne.symm.trans ‹_ = true›) (by decide)) | skip
         all_goals (try rw [hem])
         all_goals first | rfl | (rename_i k hk; exact absurd hk (Nat.not_lt_zero _))
 . cases h
theorem rclean_at {e : En} {k : Nat} (hk : k < e.names.length) : atB e.rclean.binds k = ⟨atS e.names k, e.rget (atS e.names k)⟩ := by
 unfold En.rclean atB atS
 simp [List.getD_eq_getElem?_getD, hk]
theorem rclean_len (e : En) : e.rclean.binds.length = e.names.length := by unfold En.rclean; simp
theorem names_len (e : En) : e.names.length <= e.binds.length := by
 unfold En.names
 split
 . rw [<- nmP_all]; exact nmP_len _ _
 . exact Nat.zero_le _
theorem rclean_row {e : En} {i k : Nat} {g : Nat -> List DV} (hi : i < e.names.length) (hg : g 0 = bdC ⟨atS e.names i, e.rget (atS e.names i)⟩) (hk : k < i + 1) : appRow i (rwB e.rclean.binds) g k = rwB e.rclean.binds k := by
 unfold appRow
 split
 . rfl
 . rw [show k = i by omega, Nat.sub_self, hg]; show _ = bdC (atB _ i); rw [rclean_at hi]
def FREClean : List Ar -> Option Rs
 | [.agg [.d (.v (.bool e0)), .d (.lst 9 n0 f0)]] => some ⟨(n0 <= 1099511627776 /\ RowsOk n0 f0), .va (En.ar (En.rclean (⟨e0, gBs n0 f0⟩ : En))), []⟩
 | _ => none
theorem fcREClean : FC Tryz.prog 20 FREClean := by
 intro xs pre r us h hp
 unfold FREClean at h
 split at h
 . rename_i e0 n0 f0
   cases h
   have hp0 := hp
   refine FCat.deep (ys := [.agg [.d (.v (.bool e0)), .d (.lst 9 n0 (rwB (gBs n0 f0)))]]) ?_ ?_
   . repeat' (first | exact trivial | exact rfl | exact DvE.refl _ | refine ⟨?_, ?_⟩ | fail)
     all_goals first | exact canonB hp0.2.h
   refine fcat tys_ok (l := [(66, ⟨[], FRNames⟩), (25, ⟨[], FRGet⟩)]) ⟨fcRNames, fcRGet, trivial⟩ Tryz.func20 rfl (by kernel_rfl) true ?_
   have hn := hp0.1
   have hL := okL_rows hp0.2
   have hlen := gBs_length n0 f0
   generalize gBs n0 f0 = L at *
   clear hp0
   subst hlen
   have hrow := okL_row hL
   have hb := gBs_row L
   repeat' (first | exact trivial | refine ⟨?_, ?_⟩ | intro _)
   all_goals first | (with_reducible first | apply qa | apply qb | apply qc | apply qd) | (conv => whnf)
   all_goals first | exact hn | exact hrow | skip
   all_goals (simp only [hb] at *)
   have hnl := names_len ⟨e0, L⟩
   have hrl := rclean_len ⟨e0, L⟩
   have hra := @rclean_row ⟨e0, L⟩
   have hrv : (En.rclean ⟨e0, L⟩).live = e0 := rfl
   generalize hNL : En.names ⟨e0, L⟩ = NL at *
   generalize hRC : En.rclean ⟨e0, L⟩ = RC at *
   refine loop_ids tys_ok (l := [(66, ⟨[], FRNames⟩), (25, ⟨[], FRGet⟩)]) ⟨fcRNames, fcRGet, trivial⟩ (by kernel_rfl) (X := Nat)
    (fun x => ⟨[(5, vx (.int .i64 x)), (4, .va (.c (.d (lst NL)))), (1, .va (.c (.own 0 0))), (2, .va (.c (.own 1 0))), (3, .va (.c (.own 2 0)))], [(0, .cells [.d (bo e0), .d (.lst 9 L.length (rwB L))]), (1, .cells [.d (bo false), .d (.v (.slice none 0 0))]), (2, .cells [.d (bo e0), .osl 3 9 0 x]), (3, .row 9 x (rwB RC.binds))], 4, 34⟩)
    (fun x => NL.length - x) (fun x => x <= NL.length) [31] []
    (fun x _ _ => x + 1) (fun xs => match xs with | [t] => [0, 1, 2, oI t] | _ => []) [0, 1, 2] 0 1 0 ?_ ?_ ?_
   . exact Nat.zero_le _
   . repeat' (first | exact trivial | exact rfl | (intro _ h; exact absurd h (Nat.not_lt_zero _)) | (intro _ _; exact rfl) | refine ⟨?_, ?_⟩ | fail)
     all_goals first | simp
   . rintro i k1
     rcases Nat.lt_or_ge i NL.length with hi | hi
     . have hne : decide ((i : Int) < (NL.length : Int)) = true := decide_eq_true (by omega)
       repeat' (first | exact trivial | refine ⟨?_, ?_⟩ | intro _)
       all_goals first | (with_reducible first | apply qa | apply qb | apply qc | apply qd) | (conv => whnf)
       all_goals first | (exact absurd (hne.symm.trans ‹_ = false›) (by decide)) | skip
       all_goals (try simp only [Int.toNat_natCast, Nat.zero_add, gN_lst, hb] at *)
       all_goals first | omega | rfl | exact hn | exact hrow | ((with_reducible show idsOk _ _ = true); rfl) | (exact congrArg (Value.int .i64) (by first | (rw [wI_id _ (by omega) (by omega)]; omega) | omega | (dsimp only; omega))) | (simp only [gBs_row]; exact hra hi rfl ‹_›)
     . have hne : decide ((i : Int) < (NL.length : Int)) = false := decide_eq_false (by omega)
       obtain rfl : i = NL.length := by omega
       repeat' (first | exact trivial | refine ⟨?_, ?_⟩ | intro _)
       all_goals first | (with_reducible first | apply qa | apply qb | apply qc | apply qd) | (conv => whnf)
       all_goals first | (exact absurd (hne.symm.trans ‹_ = true›) (by decide)) | skip
       all_goals first | rfl | omega | exact hrl.symm | exact congrArg Value.bool hrv.symm | (rename_i k _; show rwB RC.binds (0 + k) = _; rw [Nat.zero_add])
 . cases h
def FREExact : List Ar -> Option Rs
 | [.agg [.d (.v (.bool e0)), .d (.lst 9 n0 f0)], .agg [.d (.v (.bool e1)), .d (.lst 9 n1 f1)]] => some ⟨(n0 <= 1099511627776 /\ RowsOk n0 f0) /\ (n1 <= 1099511627776 /\ RowsOk n1 f1) /\ ((⟨e0, gBs n0 f0⟩ : En) = (⟨e1, gBs n1 f1⟩ : En)), .va (.c (.d (bo (true)))), []⟩
 | _ => none
theorem fcREExact : FC Tryz.prog 14 FREExact := by
 intro xs pre r us h hp
 unfold FREExact at h
 split at h
 . rename_i e0 n0 f0 e1 n1 f1
   cases h
   obtain ⟨hp0, hp1, hp2⟩ := hp
   refine FCat.deep (ys := [.agg [.d (.v (.bool e0)), .d (.lst 9 n0 (rwB (gBs n0 f0)))], .agg [.d (.v (.bool e1)), .d (.lst 9 n1 (rwB (gBs n1 f1)))]]) ?_ ?_
   . repeat' (first | exact trivial | exact rfl | exact DvE.refl _ | refine ⟨?_, ?_⟩ | fail)
     all_goals first | first | exact canonB hp0.2.h | exact canonB hp1.2.h
   refine fcat tys_ok (l := [(23, ⟨[], FRVExact⟩)]) ⟨fcRVExact, trivial⟩ Tryz.func14 rfl (by kernel_rfl) true ?_
   have hn := hp0.1
   have hL := okL_rows hp0.2
   have hlen := gBs_length n0 f0
   have hlen1 := gBs_length n1 f1
   have he2 : gBs n0 f0 = gBs n1 f1 := congrArg En.binds hp2
   obtain rfl : e0 = e1 := congrArg En.live hp2
   generalize hg1 : gBs n1 f1 = M at *
   generalize gBs n0 f0 = L at *
   subst he2
   clear hp0 hp1 hp2
   subst hlen
   subst hlen1
   repeat' (first | exact trivial | refine ⟨?_, ?_⟩ | intro _)
   all_goals first | (with_reducible first | apply qa | apply qb | apply qc | apply qd) | (conv => whnf)
   all_goals first | ((with_reducible show ASat _ _ _ _ _); skip) | (exfalso; simp_all; done)
   refine loop_ids tys_ok (l := [(23, ⟨[], FRVExact⟩)]) ⟨fcRVExact, trivial⟩ (by kernel_rfl) (X := Nat)
    (fun x => ⟨[(5, vx (.int .i64 x)), (2, .va (.c (.own 0 0))), (3, .va (.c (.own 1 0)))], [(0, .cells [.d (bo e0), .d (.lst 9 L.length (rwB L))]), (1, .cells [.d (bo e0), .d (.lst 9 L.length (rwB L))])], 2, 56⟩)
    (fun x => L.length - x) (fun x => x <= L.length) [] []
    (fun x _ _ => x + 1) (fun _ => [0, 1]) [0, 1] 0 0 0 ?_ ?_ ?_
   . exact Nat.zero_le _
   . repeat' (first | exact trivial | exact rfl | (intro _ h; exact absurd h (Nat.not_lt_zero _)) | (intro _ _; exact rfl) | refine ⟨?_, ?_⟩ | fail)
   . rintro i k1
     rcases Nat.lt_or_ge i L.length with hi | hi
     . have hne : decide ((i : Int) < (L.length : Int)) = true := decide_eq_true (by omega)
       have ho1 := okL_at hL hi
       have hq := ho1.2
       simp only [Sp.inR, Cg.inR] at hq
       repeat' (first | exact trivial | refine ⟨?_, ?_⟩ | intro _)
       all_goals first | (with_reducible first | apply qa | apply qb | apply qc | apply qd) | (conv => whnf)
       all_goals first | (exact absurd (hne.symm.trans ‹_ = false›) (by decide)) | skip
       all_goals (try simp only [Int.toNat_natCast, Nat.zero_add, gN_lst] at *)
       all_goals first | omega | rfl | ((with_reducible show idsOk _ _ = true); rfl) | (exact congrArg (Value.int .i64) (by first | (rw [wI_id _ (by omega) (by omega)]; omega) | omega | (dsimp only; omega))) | exact ho1.1.1 | skip
       all_goals first | (have h := ‹(!((atB L i).name.toList == (atB L i).name.toList)) = true›; simp at h; done) | (have h := ‹(!Vl.exact _ _) = true›; rw [exact_refl] at h; cases h)
     . have hne : decide ((i : Int) < (L.length : Int)) = false := decide_eq_false (by omega)
       obtain rfl : i = L.length := by omega
       repeat' (first | exact trivial | refine ⟨?_, ?_⟩ | intro _)
       all_goals first | (with_reducible first | apply qa | apply qb | apply qc | apply qd) | (conv => whnf)
       all_goals first | (exact absurd (hne.symm.trans ‹_ = true›) (by decide)) | skip
       all_goals first | rfl
 . cases h
theorem ltB_iff {a b : Bd} : ltB a b = true ↔ kS a.name < kS b.name := by
 unfold ltB; rw [decide_eq_true_eq]; exact cfL_lt _ _
theorem ltB_iff' {a b : Bd} : ltB a b = false ↔ ¬ kS a.name < kS b.name := by
 rw [<- ltB_iff]
 cases ltB a b <;> simp
def SS (D : List Bd) : Prop := D.Pairwise fun a b => kS a.name < kS b.name
def lk : List Bd -> ByteArray -> Option Vl
 | [], _ => none
 | x :: r, s => if x.name = s then some x.v else lk r s
theorem lk_nil (s : ByteArray) : lk [] s = none := rfl
theorem lk_cons (x : Bd) (r : List Bd) (s : ByteArray) : lk (x :: r) s = if x.name = s then some x.v else lk r s := rfl
theorem lk_none {D : List Bd} {s : ByteArray} (h : ∀ b ∈ D, b.name ≠ s) : lk D s = none := by
 induction D with
 | nil => rfl
 | cons x r ih => rw [lk_cons, if_neg (h x List.mem_cons_self)]; exact ih fun b hb => h b (List.mem_cons_of_mem _ hb)
theorem lk_append (l m : List Bd) (s : ByteArray) : lk (l ++ m) s = (lk l s).or (lk m s) := by
 induction l with
 | nil => simp [lk]
 | cons x r ih =>
   rw [List.cons_append, lk_cons, lk_cons, ih]
   split <;> simp
theorem lk_mem {D : List Bd} {s : ByteArray} {v : Vl} (h : lk D s = some v) : (⟨s, v⟩ : Bd) ∈ D := by
 induction D with
 | nil => cases h
 | cons x r ih =>
   rw [lk_cons] at h
   split at h
   . rename_i e; subst e; cases h; exact List.mem_cons_self
   . exact List.mem_cons_of_mem _ (ih h)
theorem lk_of_mem {D : List Bd} (h : SS D) {b : Bd} (hb : b ∈ D) : lk D b.name = some b.v := by
 induction D with
 | nil => cases hb
 | cons x r ih =>
   have h1 := List.pairwise_cons.1 h
   rw [lk_cons]
   rcases List.mem_cons.1 hb with rfl | hb
   . rw [if_pos rfl]
   . rw [if_neg, ih h1.2 hb]
     intro e
     have := h1.1 b hb
     rw [e] at this; exact List.lt_irrefl _ this
theorem lk_isSome {D : List Bd} {s : ByteArray} : (lk D s).isSome = true ↔ s ∈ D.map (·.name) := by
 induction D with
 | nil => simp [lk]
 | cons x r ih =>
   rw [lk_cons, List.map_cons, List.mem_cons]
   split
   . rename_i h; simp [h]
   . rename_i h
     rw [ih]
     constructor
     . exact .inr
     . rintro (rfl | h2)
       . exact absurd rfl h
       . exact h2
theorem ss_head {x : Bd} {r : List Bd} (h : SS (x :: r)) {s : ByteArray} (hs : ¬ kS x.name < kS s) : lk r s = none := by
 refine lk_none fun b hb e => hs ?_
 have := (List.pairwise_cons.1 h).1 b hb
 rw [e] at this; exact this
theorem ss_ext : ∀ {D E : List Bd}, SS D -> SS E -> (∀ s, lk D s = lk E s) -> D = E
 | [], [], _, _, _ => rfl
 | [], y :: r, _, _, h => by have := h y.name; rw [lk_nil, lk_cons, if_pos rfl] at this; cases this
 | x :: r, [], _, _, h => by have := h x.name; rw [lk_nil, lk_cons, if_pos rfl] at this; cases this
 | x :: r, y :: q, hD, hE, h => by
   by_cases e : x.name = y.name
   . have h1 := h x.name
     rw [lk_cons, lk_cons, if_pos rfl, if_pos e.symm] at h1
     have hv := Option.some.inj h1
     have hxy : x = y := by cases x; cases y; simp_all
     subst hxy
     congr 1
     refine ss_ext (List.pairwise_cons.1 hD).2 (List.pairwise_cons.1 hE).2 fun s => ?_
     by_cases es : x.name = s
     . subst es
       rw [ss_head hD (List.lt_irrefl _), ss_head hE (List.lt_irrefl _)]
     . have := h s
       rw [lk_cons, lk_cons, if_neg es, if_neg es] at this
       exact this
   . exfalso
     by_cases c : kS x.name < kS y.name
     . have := h x.name
       rw [lk_cons, if_pos rfl, lk_cons, if_neg (Ne.symm e), ss_head hE (List.lt_asymm c)] at this
       cases this
     . have c2 := kS_tri c e
       have := h y.name
       rw [lk_cons, if_neg e, ss_head hD (List.lt_asymm c2), lk_cons, if_pos rfl] at this
       cases this
def mapV (f : Vl -> Vl) (D : List Bd) : List Bd := D.map fun b => ⟨b.name, f b.v⟩
theorem lk_mapV (f : Vl -> Vl) (D : List Bd) (s : ByteArray) : lk (mapV f D) s = (lk D s).map f := by
 induction D with
 | nil => rfl
 | cons x r ih =>
   show lk (⟨x.name, f x.v⟩ :: mapV f r) s = _
   rw [lk_cons, lk_cons, ih]
   split <;> rfl
theorem ss_mapV {f : Vl -> Vl} {D : List Bd} (h : SS D) : SS (mapV f D) := by
 unfold SS mapV; rw [List.pairwise_map]; exact h
theorem lk_mg {S : List Bd} (h : Std ltB S) (x : Bd) (s : ByteArray) : lk (mg ltB S [x]) s = (lk S s).or (lk [x] s) := by
 induction S with
 | nil => rw [mg_nil]; simp [lk]
 | cons y r ih =>
   have h1 := List.pairwise_cons.1 h
   rw [mg_cons]
   split
   . rename_i hlt
     have hlt := ltB_iff.1 hlt
     rw [mg_right]
     by_cases e : x.name = s
     . subst e
       have hn : lk (y :: r) x.name = none := by
        refine lk_none fun b hb e => ?_
        rcases List.mem_cons.1 hb with rfl | hb
        . rw [e] at hlt; exact List.lt_irrefl _ hlt
        . have := ltB_iff'.1 (h1.1 b hb)
          rw [e] at this; exact this hlt
       rw [hn, lk_cons, if_pos rfl, lk_cons, if_pos rfl]; rfl
     . rw [lk_cons, if_neg e, lk_cons x, if_neg e, lk_nil]; simp
   . rw [lk_cons, lk_cons, ih h1.2]
     split <;> simp
theorem lk_srt (L : List Bd) (s : ByteArray) : lk (srt ltB L) s = lk L s := by
 induction L using snocRec with
 | h0 => rfl
 | h1 l x ih => rw [srt_snoc, lk_mg (srt_srt wkB l), ih, lk_append]
theorem ddA_congr {p q : Bd} (h : p.name = q.name) (r : List Bd) : ddA p r = ddA q r := by
 cases r with
 | nil => rfl
 | cons y r => rw [ddA, ddA, h]
theorem lk_ddA (r : List Bd) (p : Bd) (s : ByteArray) : lk (p :: ddA p r) s = lk (p :: r) s := by
 induction r generalizing p with
 | nil => rfl
 | cons y r ih =>
   rw [ddA]
   split
   . rename_i h
     rw [ddA_congr h, ih p, lk_cons, lk_cons, lk_cons y]
     split
     . rfl
     . rename_i h2; rw [if_neg (by rw [h]; exact h2)]
   . rw [lk_cons, lk_cons p, ih y]
theorem lk_dd (l : List Bd) (s : ByteArray) : lk (dd l) s = lk l s := by
 cases l with
 | nil => rfl
 | cons p r => exact lk_ddA r p s
theorem ss_ddA (r : List Bd) (p : Bd) (h : Std ltB (p :: r)) : SS (p :: ddA p r) := by
 induction r generalizing p with
 | nil => simp [ddA, SS]
 | cons y r ih =>
   have h1 := List.pairwise_cons.1 h
   have hy := List.pairwise_cons.1 (ih y h1.2)
   rw [ddA]
   split
   . rename_i e
     refine List.pairwise_cons.2 ⟨fun x hx => ?_, hy.2⟩
     have := hy.1 x hx
     rw [e] at this; exact this
   . rename_i e
     have hpy : kS p.name < kS y.name := kS_tri (ltB_iff'.1 (h1.1 y List.mem_cons_self)) e
     refine List.pairwise_cons.2 ⟨fun x hx => ?_, ih y h1.2⟩
     rcases List.mem_cons.1 hx with rfl | hx
     . exact hpy
     . exact List.lt_trans hpy (hy.1 x hx)
theorem ss_dd {l : List Bd} (h : Std ltB l) : SS (dd l) := by
 cases l with
 | nil => exact List.Pairwise.nil
 | cons p r => exact ss_ddA r p h
namespace En
def hold (e : En) (s : ByteArray) : Option Vl := if e.live = true then lk e.binds s else none
end En
theorem clean_ss (e : En) : SS e.clean.binds := by
 unfold En.clean
 split
 . exact ss_mapV (ss_dd (srt_srt wkB _))
 . exact List.Pairwise.nil
theorem eclean_live (e : En) : e.clean.live = e.live := by
 unfold En.clean
 split
 . rename_i h; exact h.symm
 . rename_i h; simpa using h
theorem clean_lk (e : En) (s : ByteArray) : lk e.clean.binds s = (e.hold s).map Vl.of := by
 unfold En.clean En.hold
 split
 . show lk (mapV Vl.of _) s = _
   rw [lk_mapV, lk_dd, lk_srt]
 . rfl
theorem en_ext {a b : En} (h : a.live = b.live) (h1 : SS a.binds) (h2 : SS b.binds) (hs : ∀ s, lk a.binds s = lk b.binds s) : a = b := by
 obtain ⟨l, x⟩ := a
 obtain ⟨m, y⟩ := b
 simp only at h h1 h2 hs
 subst h
 rw [ss_ext h1 h2 hs]
end Go.Proofs.YthkknkhpfffnbaaGreat
