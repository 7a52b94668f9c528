/- What joins and widenings of values are. No condition. -/
import Derived.Test.YtehpbhpmkhlldaaGreatE4
set_option linter.all false
set_option maxHeartbeats 8000000
set_option maxRecDepth 100000
namespace Go.Proofs.YtehpbhpmkhlldaaGreat
open Go.Sx
theorem gcdJ_lt {x y : Cg} (h : ¬ Cg.gcdJ x y > 9223372036854775807) : Cg.gcdJ x y < 9223372036854775808 := by omega
theorem Cg.join_inR {a b : Cg} (ha : a.inR) (hb : b.inR) : (Cg.join a b).inR := by
 have h1 := Cg.clean_inR ha
 have h2 := Cg.clean_inR hb
 unfold Cg.join; split
 . exact h2
 . split
   . exact h1
   . split
     . unfold Cg.of Cg.inR md; decide
     . rename_i h
       exact Cg.of_inR _ _ (by have : 0 <= Cg.gcdJ a.clean b.clean := by unfold Cg.gcdJ; omega
                               omega) (gcdJ_lt h) h1.2.1 h1.2.2
namespace Vl
def join (a b : Vl) : Vl := ⟨⟨a.of.i.s.join b.of.i.s, a.of.i.c.join b.of.i.c⟩, ⟨a.t.null || b.t.null, ofS (ofS a.t.names ++ ofS b.t.names)⟩⟩
def widen (a b : Vl) (l : List Int) : Vl := ⟨⟨a.of.i.s.widen b.of.i.s l, a.of.i.c.join b.of.i.c⟩, ⟨a.t.null || b.t.null, ofS (ofS a.t.names ++ ofS b.t.names)⟩⟩
def none (v : Vl) : Bool := v.of.i.none && (!v.t.null && decide (ofS v.t.names = []))
def zero : Vl := ⟨Ig.zero, ⟨false, []⟩⟩
def narrow (a b : Vl) : Vl := if !leq b a then a.of else if none b then zero else ⟨Ig.clean ⟨a.of.i.s.narrow b.of.i.s, if Cg.eq a.of.i.c (Cg.of 1 0) then b.of.i.c else a.of.i.c⟩, a.of.t⟩
def same (a b : Vl) : Bool := (Sp.eq a.of.i.s b.of.i.s && Cg.eq a.of.i.c b.of.i.c) && (((!a.t.null || b.t.null) && subS (ofS a.t.names) (ofS b.t.names)) && ((!b.t.null || a.t.null) && subS (ofS b.t.names) (ofS a.t.names)))
def rjoin (a b : Vl) : Vl := ⟨⟨a.rclean.i.s.join b.rclean.i.s, a.rclean.i.c.join b.rclean.i.c⟩, ⟨a.t.null || b.t.null, cleanS (cleanS a.t.names ++ cleanS b.t.names)⟩⟩
def rwiden (a b : Vl) (l : List Int) : Vl := ⟨⟨a.rclean.i.s.widen b.rclean.i.s l, (rjoin a.rclean b.rclean).i.c⟩, (rjoin a.rclean b.rclean).t⟩
def rleq (a b : Vl) : Bool := (a.rclean.i.s.leq b.rclean.i.s && a.rclean.i.c.leq b.rclean.i.c) && ((!a.t.null || b.t.null) && subS (cleanS a.t.names) (cleanS b.t.names))
def rnone (v : Vl) : Bool := !v.rclean.i.s.some && decide (((cleanS (cleanS v.t.names)).length : Int) + (if v.t.null then 1 else 0) = 0)
def rnarrow (a b : Vl) : Vl := if !rleq b.rclean a.rclean then a.rclean else if rnone b.rclean then zero else rclean ⟨⟨a.rclean.i.s.narrow b.rclean.i.s, if a.rclean.i.c.m = 1 then b.rclean.i.c else a.rclean.i.c⟩, a.rclean.t⟩
end Vl
theorem same_c {a b : Vl} : ((a.of.i.s.some == b.of.i.s.some && (a.of.i.s.lo == b.of.i.s.lo && (a.of.i.s.hi == b.of.i.s.hi && true))) && ((a.of.i.c.some == b.of.i.c.some && (a.of.i.c.m == b.of.i.c.m && (a.of.i.c.r == b.of.i.c.r && true))) && true)) = (Sp.eq a.of.i.s b.of.i.s && Cg.eq a.of.i.c b.of.i.c) := by simp [Sp.eq, Cg.eq]
theorem same_t {a b : Vl} (h : ((a.of.i.s.some == b.of.i.s.some && (a.of.i.s.lo == b.of.i.s.lo && (a.of.i.s.hi == b.of.i.s.hi && true))) && ((a.of.i.c.some == b.of.i.c.some && (a.of.i.c.m == b.of.i.c.m && (a.of.i.c.r == b.of.i.c.r && true))) && true)) = true) : Value.bool (((!a.of.t.null || b.of.t.null) && subS a.of.t.names b.of.t.names) && ((!b.of.t.null || a.of.t.null) && subS b.of.t.names a.of.t.names)) = Value.bool (Vl.same a b) := by
 rw [same_c] at h; unfold Vl.same; rw [h]; rfl
theorem same_f {a b : Vl} (h : ((a.of.i.s.some == b.of.i.s.some && (a.of.i.s.lo == b.of.i.s.lo && (a.of.i.s.hi == b.of.i.s.hi && true))) && ((a.of.i.c.some == b.of.i.c.some && (a.of.i.c.m == b.of.i.c.m && (a.of.i.c.r == b.of.i.c.r && true))) && true)) = false) : Value.bool false = Value.bool (Vl.same a b) := by
 rw [same_c] at h; unfold Vl.same; rw [h]; rfl
theorem okV_of {v : Vl} (h : okV v) : okV v.of := by
 have h1 := Ig.clean_inR h.2.1 h.2.2
 have h2 := ofS_len v.t.names
 exact ⟨⟨by show (ofS v.t.names).length * 16 <= 140737488351232; have := h.1.1; omega, fun _ _ => rfl⟩, h1⟩
def FVJoin : List Ar -> Option Rs
 | [.agg [.d (.v (.bool s0)), .d (.v (.int .i64 l0)), .d (.v (.int .i64 h0)), .d (.v (.bool b0)), .d (.v (.int .i64 m0)), .d (.v (.int .i64 r0)), .d (.v (.bool z0)), .d (.lst 1 n0 f0)], .agg [.d (.v (.bool s1)), .d (.v (.int .i64 l1)), .d (.v (.int .i64 h1)), .d (.v (.bool b1)), .d (.v (.int .i64 m1)), .d (.v (.int .i64 r1)), .d (.v (.bool z1)), .d (.lst 1 n1 f1)]] => some ⟨((n0 * 16 <= 140737488351232 /\ ∀ i, i < n0 -> f0 i = [st (gT (f0 i))]) /\ Sp.inR ⟨s0, l0, h0⟩ /\ Cg.inR ⟨b0, m0, r0⟩) /\ ((n1 * 16 <= 140737488351232 /\ ∀ i, i < n1 -> f1 i = [st (gT (f1 i))]) /\ Sp.inR ⟨s1, l1, h1⟩ /\ Cg.inR ⟨b1, m1, r1⟩) /\ ((n0 + n1) * 16 <= 140737488351232), .va (Vl.ar (Vl.join (⟨⟨⟨s0, l0, h0⟩, ⟨b0, m0, r0⟩⟩, ⟨z0, gN n0 f0⟩⟩ : Vl) (⟨⟨⟨s1, l1, h1⟩, ⟨b1, m1, r1⟩⟩, ⟨z1, gN n1 f1⟩⟩ : Vl))), []⟩
 | _ => none
theorem fcVJoin : FC Tryz.prog 7 FVJoin := by
 intro xs pre r us h hp
 unfold FVJoin at h
 split at h
 . rename_i s0 l0 h0 b0 m0 r0 z0 n0 f0 s1 l1 h1 b1 m1 r1 z1 n1 f1
   cases h
   obtain ⟨hp0, hp1, hp2⟩ := hp
   refine FCat.of_eq (as' := [.agg [.d (.v (.bool s0)), .d (.v (.int .i64 l0)), .d (.v (.int .i64 h0)), .d (.v (.bool b0)), .d (.v (.int .i64 m0)), .d (.v (.int .i64 r0)), .d (.v (.bool z0)), .d (.lst 1 n0 fun i => [st (gT (f0 i))])], .agg [.d (.v (.bool s1)), .d (.v (.int .i64 l1)), .d (.v (.int .i64 h1)), .d (.v (.bool b1)), .d (.v (.int .i64 m1)), .d (.v (.int .i64 r1)), .d (.v (.bool z1)), .d (.lst 1 n1 fun i => [st (gT (f1 i))])]]) ?_ rfl rfl ?_
   . repeat' (first | exact trivial | exact rfl | refine ⟨?_, ?_⟩ | fail)
     all_goals first | exact hp0.2 | exact hp1.2 | exact hp2.2 | (intro i hi; exact (hp0.2 i hi).1) | (intro i hi; exact (hp1.2 i hi).1) | (intro i hi; exact (hp2.2 i hi).1) | grind
   refine fcat tys_ok (l := [(33, ⟨[], FVOf⟩), (34, ⟨[], FSJoin⟩), (35, ⟨[], FCJoin⟩), (36, ⟨[], FNJoin⟩), (37, ⟨[], FVValue⟩)]) ⟨fcVOf, fcSJoin, fcCJoin, fcNJoin, fcVValue, trivial⟩ Tryz.func7 rfl (by kernel_rfl) true ?_
   have hv0 : okV (⟨⟨⟨s0, l0, h0⟩, ⟨b0, m0, r0⟩⟩, ⟨z0, gN n0 fun i => [st (gT (f0 i))]⟩⟩ : Vl) := ⟨⟨(by rw [gN_length]; exact hp0.1.1), fun _ _ => rfl⟩, hp0.2⟩
   have hv1 : okV (⟨⟨⟨s1, l1, h1⟩, ⟨b1, m1, r1⟩⟩, ⟨z1, gN n1 fun i => [st (gT (f1 i))]⟩⟩ : Vl) := ⟨⟨(by rw [gN_length]; exact hp1.1.1), fun _ _ => rfl⟩, hp1.2⟩
   have ho0 := okV_of hv0
   have ho1 := okV_of hv1
   have hoo0 := okV_of ho0
   have hoo1 := okV_of ho1
   have hl0 : (Vl.of (⟨⟨⟨s0, l0, h0⟩, ⟨b0, m0, r0⟩⟩, ⟨z0, gN n0 fun i => [st (gT (f0 i))]⟩⟩ : Vl)).t.names.length <= n0 := by have := ofS_len (gN n0 f0); rw [gN_length] at this; exact this
   have hl1 : (Vl.of (⟨⟨⟨s1, l1, h1⟩, ⟨b1, m1, r1⟩⟩, ⟨z1, gN n1 fun i => [st (gT (f1 i))]⟩⟩ : Vl)).t.names.length <= n1 := by have := ofS_len (gN n1 f1); rw [gN_length] at this; exact this
   have hsj := Sp.join_inR ho0.2.1 ho1.2.1
   have hcj := Cg.join_inR ho0.2.2 ho1.2.2
   have hsum : ((Vl.of (⟨⟨⟨s0, l0, h0⟩, ⟨b0, m0, r0⟩⟩, ⟨z0, gN n0 fun i => [st (gT (f0 i))]⟩⟩ : Vl)).t.names.length + (Vl.of (⟨⟨⟨s1, l1, h1⟩, ⟨b1, m1, r1⟩⟩, ⟨z1, gN n1 fun i => [st (gT (f1 i))]⟩⟩ : Vl)).t.names.length) * 16 <= 140737488351232 := by have := hp2; omega
   have hjl : (ofS ((Vl.of (⟨⟨⟨s0, l0, h0⟩, ⟨b0, m0, r0⟩⟩, ⟨z0, gN n0 fun i => [st (gT (f0 i))]⟩⟩ : Vl)).t.names ++ (Vl.of (⟨⟨⟨s1, l1, h1⟩, ⟨b1, m1, r1⟩⟩, ⟨z1, gN n1 fun i => [st (gT (f1 i))]⟩⟩ : Vl)).t.names)).length * 16 <= 140737488351232 := by have := ofS_len ((Vl.of (⟨⟨⟨s0, l0, h0⟩, ⟨b0, m0, r0⟩⟩, ⟨z0, gN n0 fun i => [st (gT (f0 i))]⟩⟩ : Vl)).t.names ++ (Vl.of (⟨⟨⟨s1, l1, h1⟩, ⟨b1, m1, r1⟩⟩, ⟨z1, gN n1 fun i => [st (gT (f1 i))]⟩⟩ : Vl)).t.names); rw [List.length_append] at this; omega
   unfold okV at ho0 ho1 hoo0 hoo1
   repeat' (first | exact trivial | (with_reducible first | exact ho0 | exact ho1 | exact ho0.1 | exact ho1.1 | exact ho0.2.1 | exact ho0.2.2 | exact ho1.2.1 | exact ho1.2.2 | exact hp0.1 | exact hp1.1 | exact hp0.2.1 | exact hp0.2.2 | exact hp1.2.1 | exact hp1.2.2 | exact hp0 | exact hp1 | exact hsj | exact hcj) | refine ⟨?_, ?_⟩ | intro _)
   all_goals first | (with_reducible first | apply qa | apply qb | apply qc | apply qd) | (conv => whnf)
   all_goals (try simp only [gN_lst] at *)
   all_goals first | rfl | (with_reducible first | exact hp0.1.1 | exact hp1.1.1) | exact hsum | exact hjl
 . cases h
def FVSame : List Ar -> Option Rs
 | [.agg [.d (.v (.bool s0)), .d (.v (.int .i64 l0)), .d (.v (.int .i64 h0)), .d (.v (.bool b0)), .d (.v (.int .i64 m0)), .d (.v (.int .i64 r0)), .d (.v (.bool z0)), .d (.lst 1 n0 f0)], .agg [.d (.v (.bool s1)), .d (.v (.int .i64 l1)), .d (.v (.int .i64 h1)), .d (.v (.bool b1)), .d (.v (.int .i64 m1)), .d (.v (.int .i64 r1)), .d (.v (.bool z1)), .d (.lst 1 n1 f1)]] => some ⟨((n0 * 16 <= 140737488351232 /\ ∀ i, i < n0 -> f0 i = [st (gT (f0 i))]) /\ Sp.inR ⟨s0, l0, h0⟩ /\ Cg.inR ⟨b0, m0, r0⟩) /\ ((n1 * 16 <= 140737488351232 /\ ∀ i, i < n1 -> f1 i = [st (gT (f1 i))]) /\ Sp.inR ⟨s1, l1, h1⟩ /\ Cg.inR ⟨b1, m1, r1⟩), .va (.c (.d (bo (Vl.same (⟨⟨⟨s0, l0, h0⟩, ⟨b0, m0, r0⟩⟩, ⟨z0, gN n0 f0⟩⟩ : Vl) (⟨⟨⟨s1, l1, h1⟩, ⟨b1, m1, r1⟩⟩, ⟨z1, gN n1 f1⟩⟩ : Vl))))), []⟩
 | _ => none
theorem fcVSame : FC Tryz.prog 28 FVSame := by
 intro xs pre r us h hp
 unfold FVSame at h
 split at h
 . rename_i s0 l0 h0 b0 m0 r0 z0 n0 f0 s1 l1 h1 b1 m1 r1 z1 n1 f1
   cases h
   obtain ⟨hp0, hp1⟩ := hp
   refine FCat.of_eq (as' := [.agg [.d (.v (.bool s0)), .d (.v (.int .i64 l0)), .d (.v (.int .i64 h0)), .d (.v (.bool b0)), .d (.v (.int .i64 m0)), .d (.v (.int .i64 r0)), .d (.v (.bool z0)), .d (.lst 1 n0 fun i => [st (gT (f0 i))])], .agg [.d (.v (.bool s1)), .d (.v (.int .i64 l1)), .d (.v (.int .i64 h1)), .d (.v (.bool b1)), .d (.v (.int .i64 m1)), .d (.v (.int .i64 r1)), .d (.v (.bool z1)), .d (.lst 1 n1 fun i => [st (gT (f1 i))])]]) ?_ rfl rfl ?_
   . repeat' (first | exact trivial | exact rfl | refine ⟨?_, ?_⟩ | fail)
     all_goals first | exact hp0.2 | exact hp1.2 | exact hp2.2 | (intro i hi; exact (hp0.2 i hi).1) | (intro i hi; exact (hp1.2 i hi).1) | (intro i hi; exact (hp2.2 i hi).1) | grind
   refine fcat tys_ok (l := [(33, ⟨[], FVOf⟩), (75, ⟨[], FNSame⟩)]) ⟨fcVOf, fcNSame, trivial⟩ Tryz.func28 rfl (by kernel_rfl) true ?_
   have hv0 : okV (⟨⟨⟨s0, l0, h0⟩, ⟨b0, m0, r0⟩⟩, ⟨z0, gN n0 fun i => [st (gT (f0 i))]⟩⟩ : Vl) := ⟨⟨(by rw [gN_length]; exact hp0.1.1), fun _ _ => rfl⟩, hp0.2⟩
   have hv1 : okV (⟨⟨⟨s1, l1, h1⟩, ⟨b1, m1, r1⟩⟩, ⟨z1, gN n1 fun i => [st (gT (f1 i))]⟩⟩ : Vl) := ⟨⟨(by rw [gN_length]; exact hp1.1.1), fun _ _ => rfl⟩, hp1.2⟩
   have ho0 := okV_of hv0
   have ho1 := okV_of hv1
   have hoo0 := okV_of ho0
   have hoo1 := okV_of ho1
   have hl0 : (Vl.of (⟨⟨⟨s0, l0, h0⟩, ⟨b0, m0, r0⟩⟩, ⟨z0, gN n0 fun i => [st (gT (f0 i))]⟩⟩ : Vl)).t.names.length <= n0 := by have := ofS_len (gN n0 f0); rw [gN_length] at this; exact this
   have hl1 : (Vl.of (⟨⟨⟨s1, l1, h1⟩, ⟨b1, m1, r1⟩⟩, ⟨z1, gN n1 fun i => [st (gT (f1 i))]⟩⟩ : Vl)).t.names.length <= n1 := by have := ofS_len (gN n1 f1); rw [gN_length] at this; exact this
   have hsj := Sp.join_inR ho0.2.1 ho1.2.1
   have hcj := Cg.join_inR ho0.2.2 ho1.2.2
   unfold okV at ho0 ho1 hoo0 hoo1
   repeat' (first | exact trivial | (with_reducible first | exact ho0 | exact ho1 | exact ho0.1 | exact ho1.1 | exact ho0.2.1 | exact ho0.2.2 | exact ho1.2.1 | exact ho1.2.2 | exact hp0.1 | exact hp1.1 | exact hp0.2.1 | exact hp0.2.2 | exact hp1.2.1 | exact hp1.2.2 | exact hp0 | exact hp1 | exact hsj | exact hcj) | refine ⟨?_, ?_⟩ | intro _)
   all_goals first | (with_reducible first | apply qa | apply qb | apply qc | apply qd) | (conv => whnf)
   all_goals (try simp only [gN_lst] at *)
   all_goals first | rfl | (with_reducible first | exact hp0.1.1 | exact hp1.1.1) | exact same_t (a := (⟨⟨⟨s0, l0, h0⟩, ⟨b0, m0, r0⟩⟩, ⟨z0, gN n0 fun i => [st (gT (f0 i))]⟩⟩ : Vl)) (b := (⟨⟨⟨s1, l1, h1⟩, ⟨b1, m1, r1⟩⟩, ⟨z1, gN n1 fun i => [st (gT (f1 i))]⟩⟩ : Vl)) ‹_› | exact same_f (a := (⟨⟨⟨s0, l0, h0⟩, ⟨b0, m0, r0⟩⟩, ⟨z0, gN n0 fun i => [st (gT (f0 i))]⟩⟩ : Vl)) (b := (⟨⟨⟨s1, l1, h1⟩, ⟨b1, m1, r1⟩⟩, ⟨z1, gN n1 fun i => [st (gT (f1 i))]⟩⟩ : Vl)) ‹_›
 . cases h
theorem ig_clean2 (i : Ig) : i.clean.clean = i.clean := tidy_fix (clean_tidy i)
theorem rclean2 (v : Vl) : v.rclean.rclean = v.rclean := by
 unfold Vl.rclean; rw [ig_clean2, cleanS_idem]
theorem widen_eq (a b : Vl) (l : List Int) : Vl.widen a b l = Vl.rwiden a b l := by
 unfold Vl.widen Vl.rwiden Vl.rjoin
 rw [rclean2, rclean2, of_rclean, of_rclean]
 simp only [Vl.rclean, ofS_eq, cleanS_idem]
theorem leq_eq (a b : Vl) : Vl.leq a b = Vl.rleq a.rclean b.rclean := by
 unfold Vl.leq Vl.rleq Ig.leq
 rw [rclean2, rclean2, of_rclean, of_rclean]
 simp only [Vl.rclean, ofS_eq, cleanS_idem]
theorem tidy_none {i : Ig} (h : i.tidy) : i.none = !i.s.some := by
 unfold Ig.none Sp.none
 rcases h with rfl | ⟨⟨h1, h2⟩, h3, _⟩
 . rfl
 . rw [h1, h2]; simp; omega
theorem none_eq (b : Vl) : Vl.none b = Vl.rnone b.rclean := by
 unfold Vl.none Vl.rnone
 rw [rclean2, of_rclean, tidy_none (i := b.rclean.i) (clean_tidy b.i)]
 congr 1
 simp only [Vl.rclean, ofS_eq, cleanS_idem]
 have key : ∀ (x : Bool) (l : List ByteArray), (!x && decide (l = [])) = decide ((l.length : Int) + (if x = true then 1 else 0) = 0) := by
  intro x l
  cases x
  . simp
  . simp; omega
 exact key _ _
theorem tidy_all {i : Ig} (h : i.tidy) : Cg.eq i.c (Cg.of 1 0) = decide (i.c.m = 1) := by
 have e : Cg.of 1 0 = ⟨true, 1, 0⟩ := rfl
 rw [e]; unfold Cg.eq
 rcases h with rfl | ⟨⟨h1, h2⟩, h3, h4⟩
 . rfl
 . rw [h2, Bool.eq_iff_iff]
   simp only [Bool.and_eq_true, beq_iff_eq, decide_eq_true_eq, true_and]
   constructor
   . exact fun h => h.1
   . intro h
     have := h4.2 (by omega)
     omega
theorem narrow_eq (a b : Vl) : Vl.narrow a b = Vl.rnarrow a b := by
 unfold Vl.narrow Vl.rnarrow
 rw [leq_eq, none_eq, of_rclean, of_rclean, tidy_all (i := a.rclean.i) (clean_tidy a.i)]
 split
 . rfl
 . split
   . rfl
   . simp only [decide_eq_true_eq]
     unfold Vl.rclean
     simp only [cleanS_idem]
theorem w1 (a b : Vl) (l : List Int) : Vl.exact (Vl.widen a b l) (Vl.rwiden a b l) = true := by rw [widen_eq]; exact exact_refl _
theorem w2 (a b : Vl) : Vl.exact (Vl.narrow a b) (Vl.rnarrow a b) = true := by rw [narrow_eq]; exact exact_refl _
namespace Sp
end Sp
def Cg.tidy (c : Cg) : Prop := c = Cg.none \/ (c.some = true /\ c.red)
theorem Cg.tidy_fix {c : Cg} (h : c.tidy) : c.clean = c := by
 rcases h with rfl | ⟨h1, h2⟩
 . rfl
 . exact cg_fix h1 h2
theorem has_t {c : Cg} (h : c.tidy) (hs : c.some = true) (n : Int) : c.has n = decide (md n c.m = c.r) := by
 unfold Cg.has; rw [Cg.tidy_fix h, hs]; rfl
theorem tidy_c {i : Ig} (h : i.tidy) : i.c.tidy := by
 rcases h with rfl | ⟨⟨_, h2⟩, _, h4⟩
 . exact .inl rfl
 . exact .inr ⟨h2, h4⟩
namespace Sp
end Sp
theorem l3_md {n m r : Int} (h0 : 0 <= m) (h : 0 < m -> 0 <= r /\ r < m) : md n m = r ↔ m ∣ n - r := by
 rcases Int.lt_or_eq_of_le h0 with hm | hm
 . obtain ⟨h1, h2⟩ := h hm
   rw [md_eq0 hm h1 h2]; exact (Int.dvd_iff_emod_eq_zero).symm
 . subst hm; unfold md; rw [if_pos (Int.le_refl _), Int.zero_dvd]; omega
namespace Cg
end Cg
structure Vl.tidy (v : Vl) : Prop where
 i : v.i.tidy
 t : Srt v.t.names
theorem Vl.of_tidy (v : Vl) : v.of.tidy := ⟨by rw [of_rclean]; exact clean_tidy v.i, by rw [of_rclean]; exact cleanS_srt _⟩
def Vl.inR (v : Vl) : Prop := v.i.s.inR /\ v.i.c.inR
theorem Vl.of_inR {v : Vl} (h : v.inR) : v.of.inR := Ig.clean_inR h.1 h.2
theorem cop_dvd {m a z : Int} (hg : Int.gcd a m = 1) (h : m ∣ a * z) : m ∣ z := by
 rw [<- Int.natAbs_dvd_natAbs] at h ⊢
 rw [Int.natAbs_mul] at h
 exact Nat.Coprime.dvd_of_dvd_mul_left (by unfold Nat.Coprime; rw [Nat.gcd_comm]; exact hg) h
def invOk (a m y : Int) : Prop := (0 <= y /\ y < m) /\ (a * y) % m = 1 % m
def invI (a m : Int) : Int := (((List.range m.toNat).find? fun y : Nat => decide ((a * (y : Int)) % m = 1 % m)).getD 0 : Nat)
theorem inv_unique {a m y z : Int} (hg : Int.gcd a m = 1) (hy : invOk a m y) (hz : invOk a m z) : y = z := by
 have h1 : (a * y) % m = (a * z) % m := hy.2.trans hz.2.symm
 rw [Int.emod_eq_emod_iff_emod_sub_eq_zero] at h1
 have h2 : m ∣ a * (y - z) := by rw [Int.mul_sub]; exact Int.dvd_of_emod_eq_zero h1
 obtain ⟨t, ht⟩ := cop_dvd hg h2
 have h3 := hy.1; have h4 := hz.1
 have : t = 0 := by
  rcases Int.lt_trichotomy t 0 with h | h | h
  . have : m * t <= m * (-1) := Int.mul_le_mul_of_nonneg_left (by omega) (by omega)
    omega
  . exact h
  . have : m * 1 <= m * t := Int.mul_le_mul_of_nonneg_left (by omega) (by omega)
    omega
 subst this; omega
theorem invI_eq {a m y : Int} (hg : Int.gcd a m = 1) (h : invOk a m y) : invI a m = y := by
 obtain ⟨⟨h0, h1⟩, h2⟩ := h
 obtain ⟨n, rfl⟩ := Int.eq_ofNat_of_zero_le h0
 unfold invI
 cases hf : (List.range m.toNat).find? fun y : Nat => decide ((a * (y : Int)) % m = 1 % m) with
 | none =>
   have := List.find?_eq_none.1 hf n (List.mem_range.2 (by omega))
   exact absurd h2 (by simpa using this)
 | some z =>
   have h3 := List.find?_some hf
   have h4 := List.mem_range.1 (List.mem_of_find?_eq_some hf)
   exact inv_unique hg ⟨by dsimp only [Option.getD]; omega, by simpa using h3⟩ ⟨⟨h0, h1⟩, h2⟩
theorem inv_step {a m r s x y : Int} (h1 : m ∣ x * a - r) (h2 : m ∣ y * a - s) :
 m ∣ ((y + m - s / r % m * x % m) % m) * a - s % r := by
 have e1 : s % r = s - s / r * r := by have := Int.mul_ediv_add_emod s r; rw [Int.mul_comm] at this; omega
 have e2 : ((y + m - s / r % m * x % m) % m - (y - s / r * x)) % m = 0 := by
  rw [Int.emod_sub_emod, <- Int.emod_eq_emod_iff_emod_sub_eq_zero]
  have e3 : s / r % m * x % m = s / r * x % m := by rw [Int.mul_emod, Int.emod_emod_of_dvd _ (Int.dvd_refl m), <- Int.mul_emod]
  rw [e3]
  have e4 : y + m - s / r * x % m = (y - s / r * x % m) + m := by omega
  rw [e4, Int.add_emod_right, Int.sub_emod_emod]
 have e5 := Int.dvd_of_emod_eq_zero e2
 obtain ⟨p, hp⟩ := h1
 obtain ⟨q, hq⟩ := h2
 obtain ⟨t, ht⟩ := e5
 refine ⟨t * a + q - s / r * p, ?_⟩
 generalize (y + m - s / r % m * x % m) % m = n at *
 generalize s / r = k at *
 rw [e1]
 have : n = y - k * x + m * t := by omega
 subst this
 have hp' : x * a = r + m * p := by omega
 have hq' : y * a = s + m * q := by omega
 grind
theorem inv_end {a m y s : Int} (hs : s = 1) (h0 : 0 <= y /\ y < m) (h : m ∣ y * a - s) : invOk a m y := by
 subst hs
 refine ⟨h0, ?_⟩
 rw [Int.emod_eq_emod_iff_emod_sub_eq_zero, Int.mul_comm]
 exact Int.emod_eq_zero_of_dvd h
theorem inv_ex {a m : Int} : ∀ (r : Nat) (s x y : Int), m ∣ x * a - r -> m ∣ y * a - s -> 0 < s -> Int.gcd r s = 1 -> ∃ y, m ∣ y * a - 1
 | r, s, x, y, h1, h2, hs, hg => by
   rcases Nat.eq_zero_or_pos r with h | h
   . subst h
     have e : Int.gcd ((0 : Nat) : Int) s = s.natAbs := Int.zero_gcd
     rw [e] at hg
     exact ⟨y, by have : s = 1 := by omega
                  rw [<- this]; exact h2⟩
   . have hr : (0 : Int) < r := by omega
     have hb := Int.emod_nonneg s (show (r : Int) ≠ 0 by omega)
     have hl := Int.emod_lt_of_pos s hr
     have e : ((s % r).toNat : Int) = s % r := Int.toNat_of_nonneg hb
     refine inv_ex (s % r).toNat r _ x (by rw [e]; exact inv_step h1 h2) h1 hr ?_
     rw [e]
     obtain ⟨n, rfl⟩ := Int.eq_ofNat_of_zero_le (Int.le_of_lt hs)
     rw [<- Int.natCast_emod, Int.gcd_natCast_natCast, <- Nat.gcd_rec]
     rwa [Int.gcd_natCast_natCast] at hg
termination_by r => r
theorem gcd_quot {M N : Int} (hM : 0 < M) : Int.gcd (M / (Int.gcd M N : Int)) (N / (Int.gcd M N : Int)) = 1 := by
 have h := Int.gcd_ediv_gcd_ediv_gcd (i := M) (j := N) (Int.gcd_pos_of_ne_zero_left _ (by omega))
 exact h
section
variable {M N R S : Int} (hM : 0 < M) (hN : 0 < N)
def stepI (M N R S : Int) : Int := ((S - R) % N / (Int.gcd M N : Int)) % (N / (Int.gcd M N : Int)) * invI (M / (Int.gcd M N : Int)) (N / (Int.gcd M N : Int)) % (N / (Int.gcd M N : Int))
include hM hN
theorem quot_pos : 0 < N / (Int.gcd M N : Int) /\ 0 < M / (Int.gcd M N : Int) /\ 0 < (Int.gcd M N : Int) := by
 have hg : 0 < (Int.gcd M N : Int) := by have := Int.gcd_pos_of_ne_zero_left (a := M) N (by omega); omega
 exact ⟨Int.ediv_pos_of_pos_of_dvd hN (by omega) (Int.gcd_dvd_right ..), Int.ediv_pos_of_pos_of_dvd hM (by omega) (Int.gcd_dvd_left ..), hg⟩
theorem step_r : 0 <= stepI M N R S /\ stepI M N R S < N / (Int.gcd M N : Int) := by
 have h := quot_pos hM hN
 exact ⟨Int.emod_nonneg _ (by omega), Int.emod_lt_of_pos _ h.1⟩
theorem inv_has : invOk (M / (Int.gcd M N : Int)) (N / (Int.gcd M N : Int)) (invI (M / (Int.gcd M N : Int)) (N / (Int.gcd M N : Int))) := by
 have hp := quot_pos hM hN
 have hg := gcd_quot (N := N) hM
 generalize M / (Int.gcd M N : Int) = a at *
 generalize N / (Int.gcd M N : Int) = m at *
 obtain ⟨n, rfl⟩ := Int.eq_ofNat_of_zero_le (Int.le_of_lt hp.2.1)
 obtain ⟨y, hy⟩ := inv_ex (a := n) (m := m) n m 1 0 (by rw [Int.one_mul, Int.sub_self]; exact Int.dvd_zero m) (by rw [Int.zero_mul, Int.zero_sub]; exact Int.dvd_neg.2 (Int.dvd_refl m)) hp.1 hg
 have hk : invOk n m (y % m) := by
  refine inv_end rfl ⟨Int.emod_nonneg _ (by omega), Int.emod_lt_of_pos _ hp.1⟩ ?_
  have e : y % m * n - 1 = (y * n - 1) - m * (y / m * n) := by rw [Int.emod_def]; grind
  rw [e]; exact Int.dvd_sub hy (Int.dvd_mul_right ..)
 rw [invI_eq hg hk]; exact hk
theorem crt (hd : (Int.gcd M N : Int) ∣ S - R) : N ∣ R + M * stepI M N R S - S := by
 have hp := quot_pos hM hN
 have hi := (inv_has hM hN).2
 have eM : M = (Int.gcd M N : Int) * (M / (Int.gcd M N : Int)) := (Int.mul_ediv_cancel' (Int.gcd_dvd_left ..)).symm
 have eN : N = (Int.gcd M N : Int) * (N / (Int.gcd M N : Int)) := (Int.mul_ediv_cancel' (Int.gcd_dvd_right ..)).symm
 have h1 : (Int.gcd M N : Int) ∣ (S - R) % N := by
  rw [Int.emod_def]; exact Int.dvd_sub hd (Int.dvd_mul_of_dvd_left (Int.gcd_dvd_right ..))
 have e1 : (S - R) % N = (Int.gcd M N : Int) * ((S - R) % N / (Int.gcd M N : Int)) := (Int.mul_ediv_cancel' h1).symm
 have e2 : N ∣ (S - R) % N - (S - R) := by
  refine Int.dvd_of_emod_eq_zero ?_
  rw [Int.emod_sub_emod]; simp
 unfold stepI
 generalize invI (M / (Int.gcd M N : Int)) (N / (Int.gcd M N : Int)) = y at *
 generalize (S - R) % N / (Int.gcd M N : Int) = d at *
 generalize M / (Int.gcd M N : Int) = a at *
 generalize N / (Int.gcd M N : Int) = m at *
 generalize (Int.gcd M N : Int) = g at *
 have e3 : m ∣ a * (d % m * y % m) - d := by
  refine Int.dvd_of_emod_eq_zero ?_
  rw [<- Int.emod_eq_emod_iff_emod_sub_eq_zero]
  rw [Int.mul_emod, Int.emod_emod_of_dvd _ (Int.dvd_refl m), Int.mul_emod (d % m) y, Int.emod_emod_of_dvd _ (Int.dvd_refl m), <- Int.mul_emod d y, <- Int.mul_emod]
  rw [show a * (d * y) = (a * y) * d by grind, Int.mul_emod, hi, <- Int.mul_emod, Int.one_mul]
 obtain ⟨t, ht⟩ := e3
 obtain ⟨u, hu⟩ := e2
 rw [e1] at hu
 refine ⟨t + u, ?_⟩
 generalize d % m * y % m = k at *
 have : M * k = g * (a * k) := by rw [eM, Int.mul_assoc]
 have h5 : a * k = d + m * t := by omega
 rw [this, h5]
 have : N * (t + u) = g * m * t + N * u := by rw [Int.mul_add]; congr 1; rw [<- eN]
 rw [this]
 grind
theorem lcm_dvd' {z : Int} : (M * (N / (Int.gcd M N : Int)) ∣ z) ↔ (M ∣ z /\ N ∣ z) := by
 have hp := quot_pos hM hN
 have eM : M = (Int.gcd M N : Int) * (M / (Int.gcd M N : Int)) := (Int.mul_ediv_cancel' (Int.gcd_dvd_left ..)).symm
 have eN : N = (Int.gcd M N : Int) * (N / (Int.gcd M N : Int)) := (Int.mul_ediv_cancel' (Int.gcd_dvd_right ..)).symm
 constructor
 . intro h
   refine ⟨Int.dvd_trans (Int.dvd_mul_right ..) h, Int.dvd_trans ?_ h⟩
   have : M * (N / (Int.gcd M N : Int)) = N * (M / (Int.gcd M N : Int)) := by
    generalize M / (Int.gcd M N : Int) = a at *
    generalize N / (Int.gcd M N : Int) = m at *
    generalize (Int.gcd M N : Int) = g at *
    rw [eM, eN]; grind
   rw [this]; exact Int.dvd_mul_right ..
 . rintro ⟨⟨t, rfl⟩, h⟩
   have hq := gcd_quot (N := N) hM
   refine Int.mul_dvd_mul_left M ?_
   refine cop_dvd hq ?_
   generalize M / (Int.gcd M N : Int) = a at *
   generalize N / (Int.gcd M N : Int) = m at *
   generalize (Int.gcd M N : Int) = g at *
   obtain ⟨u, hu⟩ := h
   refine ⟨u, ?_⟩
   rw [eM, eN] at hu
   have : g * (a * t) = g * (m * u) := by rw [<- Int.mul_assoc, <- Int.mul_assoc]; exact hu
   exact Int.eq_of_mul_eq_mul_left (by omega) this
end
theorem dvd_shift {m a b n : Int} (h : m ∣ a - b) : (m ∣ n - a) ↔ (m ∣ n - b) :=
 ⟨fun q => by have := Int.dvd_add q h; rwa [show n - a + (a - b) = n - b by omega] at this, fun q => by have := Int.dvd_sub q h; rwa [show n - b - (a - b) = n - a by omega] at this⟩
theorem cg_has_dvd {c : Cg} (h : c.tidy) (hs : c.some = true) (n : Int) : c.has n = true ↔ c.m ∣ n - c.r := by
 rw [has_t h hs, decide_eq_true_eq]
 rcases h with rfl | ⟨_, hr⟩
 . cases hs
 . exact l3_md hr.1 hr.2
namespace Cg
abbrev gc (x y : Cg) : Int := (Int.gcd x.m y.m : Int)
abbrev lc (x y : Cg) : Int := x.m * (y.m / (Int.gcd x.m y.m : Int))
def meet0 (x y : Cg) : Cg :=
 if (!x.some || !y.some) = true then none
 else if x.m = 0 then (if y.has x.r = true then x else none)
 else if y.m = 0 then (if x.has y.r = true then y else none)
 else if apartI x.r y.r % gc x y = 0 then
  (if wIntB (lc x y) = true then of (lc x y) (x.r + x.m * stepI x.m y.m x.r y.r) else if y.m > x.m then y else x)
 else none
def meet (a b : Cg) : Cg := meet0 a.clean b.clean
def fits (x y : Cg) : Bool := !(decide (0 < x.m) && decide (0 < y.m)) || wIntB (lc x y)
end Cg
theorem apart_iff {g a b : Int} : (apartI a b % g = 0) ↔ g ∣ b - a := by
 rw [<- Int.dvd_iff_emod_eq_zero]
 unfold apartI
 split
 . rw [<- Int.neg_sub, Int.dvd_neg]
 . exact Iff.rfl
theorem meet_law {x y : Cg} (hx : x.tidy) (hy : y.tidy) : (Cg.meet0 x y).tidy /\ (∀ n, x.has n = true -> y.has n = true -> (Cg.meet0 x y).has n = true) /\ (x.fits y = true -> ∀ n, (Cg.meet0 x y).has n = true -> x.has n = true /\ y.has n = true) /\ (x.inR -> y.inR -> (Cg.meet0 x y).inR) := by
 have hn : ∀ n, Cg.none.has n = true -> False := fun n h => by cases h
 have t0 : Cg.none.tidy := .inl rfl
 have i0 : Cg.none.inR := by unfold Cg.none Cg.inR; dsimp only; omega
 rcases hx with rfl | ⟨hxs, hxr⟩
 . have e : Cg.meet0 Cg.none y = Cg.none := by unfold Cg.meet0; rw [if_pos (by rfl)]
   rw [e]; exact ⟨t0, fun n h => (hn n h).elim, fun _ n h => (hn n h).elim, fun _ _ => i0⟩
 rcases hy with rfl | ⟨hys, hyr⟩
 . have e : Cg.meet0 x Cg.none = Cg.none := by unfold Cg.meet0; rw [if_pos (by rw [hxs]; rfl)]
   rw [e]; exact ⟨t0, fun n _ h => (hn n h).elim, fun _ n h => (hn n h).elim, fun _ _ => i0⟩
 have tx : x.tidy := .inr ⟨hxs, hxr⟩
 have ty : y.tidy := .inr ⟨hys, hyr⟩
 have X := cg_has_dvd tx hxs
 have Y := cg_has_dvd ty hys
 unfold Cg.meet0
 rw [if_neg (by rw [hxs, hys]; decide)]
 by_cases zx : x.m = 0
 . rw [if_pos zx]
   have k : ∀ n, x.has n = true -> n = x.r := fun n h => by have := (X n).1 h; rw [zx, Int.zero_dvd] at this; omega
   by_cases h : y.has x.r = true
   . rw [if_pos h]
     exact ⟨tx, fun n h1 _ => h1, fun _ n h1 => ⟨h1, by rw [k n h1]; exact h⟩, fun h _ => h⟩
   . rw [if_neg h]
     exact ⟨t0, fun n h1 h2 => absurd (by rw [<- k n h1]; exact h2) h, fun _ n h1 => (hn n h1).elim, fun _ _ => i0⟩
 rw [if_neg zx]
 by_cases zy : y.m = 0
 . rw [if_pos zy]
   have k : ∀ n, y.has n = true -> n = y.r := fun n h => by have := (Y n).1 h; rw [zy, Int.zero_dvd] at this; omega
   by_cases h : x.has y.r = true
   . rw [if_pos h]
     exact ⟨ty, fun n _ h1 => h1, fun _ n h1 => ⟨by rw [k n h1]; exact h, h1⟩, fun _ h => h⟩
   . rw [if_neg h]
     exact ⟨t0, fun n h1 h2 => absurd (by rw [<- k n h2]; exact h1) h, fun _ n h1 => (hn n h1).elim, fun _ _ => i0⟩
 rw [if_neg zy]
 have px : 0 < x.m := by have := hxr.1; omega
 have py : 0 < y.m := by have := hyr.1; omega
 have hq := quot_pos px py
 have bx := hxr.2 px
 by_cases hd : apartI x.r y.r % Cg.gc x y = 0
 . rw [if_pos hd]
   have hc := crt px py (apart_iff.1 hd)
   by_cases hw : wIntB (Cg.lc x y) = true
   . rw [if_pos hw]
     have hL : 0 < Cg.lc x y := Int.mul_pos px hq.1
     have hL2 : ∀ {z : Int}, Cg.lc x y ∣ z ↔ (x.m ∣ z /\ y.m ∣ z) := fun {z} => lcm_dvd' px py
     have hs := step_r (M := x.m) (N := y.m) (R := x.r) (S := y.r) px py
     have hb : x.m * stepI x.m y.m x.r y.r <= Cg.lc x y - x.m := by
      have h1 : x.m * stepI x.m y.m x.r y.r <= x.m * (y.m / (Int.gcd x.m y.m : Int) - 1) := Int.mul_le_mul_of_nonneg_left (by omega) (by omega)
      rw [Int.mul_sub, Int.mul_one] at h1; exact h1
     have hb0 : 0 <= x.m * stepI x.m y.m x.r y.r := Int.mul_nonneg (by omega) hs.1
     have hwr : -9223372036854775808 <= Cg.lc x y /\ Cg.lc x y < 9223372036854775808 := by unfold wIntB at hw; exact of_decide_eq_true hw
     generalize Cg.lc x y = L at *
     have h1 : x.m ∣ x.r + x.m * stepI x.m y.m x.r y.r - x.r := ⟨stepI x.m y.m x.r y.r, by omega⟩
     generalize x.m * stepI x.m y.m x.r y.r = k at *
     have eo : Cg.of L (x.r + k) = ⟨true, L, md (x.r + k) L⟩ := by unfold Cg.of; rw [if_neg (by omega)]
     have to : (Cg.of L (x.r + k)).tidy := by
      rw [eo]; right; refine ⟨rfl, ?_⟩; unfold Cg.red; dsimp only; exact ⟨by omega, fun h => md_bound _ _ h⟩
     have e1 : md (x.r + k) L = x.r + k := by unfold md; rw [if_neg (by omega)]; exact Int.emod_eq_of_lt (by omega) (by omega)
     have O : ∀ n, (Cg.of L (x.r + k)).has n = true ↔ (x.has n = true /\ y.has n = true) := by
      intro n
      rw [cg_has_dvd to (by rw [eo]), X, Y, eo]
      dsimp only
      rw [e1, hL2, dvd_shift h1, dvd_shift hc]
     exact ⟨to, fun n h1 h2 => (O n).2 ⟨h1, h2⟩, fun _ n h => (O n).1 h, fun _ _ => Cg.of_inR _ _ hwr.1 hwr.2 (by omega) (by omega)⟩
   . rw [if_neg hw]
     have hf : ¬ x.fits y = true := by
      intro h; unfold Cg.fits at h; rw [decide_eq_true px, decide_eq_true py] at h
      exact hw (by simpa using h)
     split
     . exact ⟨ty, fun n _ h => h, fun h => absurd h hf, fun _ h => h⟩
     . exact ⟨tx, fun n h _ => h, fun h => absurd h hf, fun h _ => h⟩
 . rw [if_neg hd]
   refine ⟨t0, fun n h1 h2 => ?_, fun _ n h1 => (hn n h1).elim, fun _ _ => i0⟩
   refine absurd (apart_iff.2 ?_) hd
   have g1 : Cg.gc x y ∣ n - x.r := Int.dvd_trans (Int.gcd_dvd_left ..) ((X n).1 h1)
   have g2 : Cg.gc x y ∣ n - y.r := Int.dvd_trans (Int.gcd_dvd_right ..) ((Y n).1 h2)
   have := Int.dvd_sub g1 g2
   rwa [show n - x.r - (n - y.r) = y.r - x.r by omega] at this
def Vl.meetF (a b : Vl) : Vl := ⟨⟨a.of.i.s.meet b.of.i.s, Cg.meet a.of.i.c b.of.i.c⟩, ⟨a.t.null && b.t.null, ofS (meetS (ofS a.t.names) (ofS b.t.names))⟩⟩
def Vl.meet (a b : Vl) : Vl := (Vl.meetF a b).reduce
theorem cmeet_of (a b : Vl) : Cg.meet a.of.i.c b.of.i.c = Cg.meet0 a.of.i.c b.of.i.c := by
 unfold Cg.meet; rw [Cg.tidy_fix (tidy_c (Vl.of_tidy a).i), Cg.tidy_fix (tidy_c (Vl.of_tidy b).i)]
theorem meetF_inR {a b : Vl} (ha : a.inR) (hb : b.inR) : (Vl.meetF a b).inR := by
 have h1 := Vl.of_inR ha
 have h2 := Vl.of_inR hb
 refine ⟨Sp.meet_inR h1.1 h2.1, ?_⟩
 show (Cg.meet _ _).inR
 rw [cmeet_of]
 exact (meet_law (tidy_c (Vl.of_tidy a).i) (tidy_c (Vl.of_tidy b).i)).2.2.2 h1.2 h2.2
structure Iv (a m r s x y : Int) : Prop where
 r0 : 0 <= r
 rm : r < m
 s0 : 0 < s
 sm : s <= m
 x0 : 0 <= x /\ x < m
 y0 : 0 <= y /\ y < m
 g : Int.gcd r s = 1
 dx : m ∣ x * a - r
 dy : m ∣ y * a - s
theorem iv_start {a m : Int} (ha : 0 <= a) (hm : 0 < m) (hg : Int.gcd a m = 1) : Iv a m (a % m) m (1 % m) 0 := by
 have b1 := Int.emod_nonneg a (show m ≠ 0 by omega)
 have b3 := Int.emod_nonneg 1 (show m ≠ 0 by omega)
 have b4 := Int.emod_lt_of_pos 1 hm
 refine ⟨b1, Int.emod_lt_of_pos a hm, hm, Int.le_refl _, ⟨b3, b4⟩, ⟨Int.le_refl _, hm⟩, ?_, ?_, ?_⟩
 . obtain ⟨x, rfl⟩ := Int.eq_ofNat_of_zero_le ha
   obtain ⟨y, rfl⟩ := Int.eq_ofNat_of_zero_le (Int.le_of_lt hm)
   rw [<- Int.natCast_emod, Int.gcd_natCast_natCast]
   rw [Int.gcd_natCast_natCast] at hg
   rw [<- Nat.gcd_rec, Nat.gcd_comm]; exact hg
 . have e : 1 % m * a - a % m = (a - a % m) - (1 - 1 % m) * a := by rw [Int.sub_mul]; omega
   rw [e]
   exact Int.dvd_sub (Int.dvd_self_sub_emod) (Int.dvd_mul_of_dvd_left Int.dvd_self_sub_emod)
 . rw [Int.zero_mul, Int.zero_sub]; exact Int.dvd_neg.2 (Int.dvd_refl m)
theorem iv_step {a m r s x y : Int} (h : Iv a m r s x y) (hr : r ≠ 0) : Iv a m (s % r) r ((y + m - s / r % m * x % m) % m) x /\ (s % r) < r := by
 have h0 := h.r0
 have h1 := h.s0
 have h2 := h.rm
 have hm : 0 < m := by omega
 have b1 := Int.emod_nonneg s hr
 have b2 := Int.emod_lt_of_pos s (show 0 < r by omega)
 refine ⟨⟨b1, by omega, by omega, by omega, ⟨Int.emod_nonneg _ (by omega), Int.emod_lt_of_pos _ hm⟩, h.x0, ?_, inv_step h.dx h.dy, h.dx⟩, b2⟩
 have hg := h.g
 obtain ⟨n, rfl⟩ := Int.eq_ofNat_of_zero_le h0
 obtain ⟨k, rfl⟩ := Int.eq_ofNat_of_zero_le (Int.le_of_lt h1)
 rw [<- Int.natCast_emod, Int.gcd_natCast_natCast, <- Nat.gcd_rec]
 rwa [Int.gcd_natCast_natCast] at hg
theorem iv_prog {a m r s x y : Int} (h : Iv a m r s x y) (hr : r ≠ 0) (hm : m < 9223372036854775808) : (0 <= (IntKind.wrap .u64 (s.tdiv r)).tmod m /\ (IntKind.wrap .u64 (s.tdiv r)).tmod m < m) /\ s.tmod r = s % r /\ (IntKind.wrap .u64 (IntKind.wrap .u64 (y + m) - (IntKind.wrap .u64 (s.tdiv r)).tmod m * x % m)).tmod m = (y + m - s / r % m * x % m) % m := by
 have h0 := h.r0
 have h1 := h.s0
 have h2 := h.rm
 have h3 := h.sm
 have h4 := h.y0
 have hp : 0 < m := by omega
 have hs : 0 <= s := by omega
 have q0 := Int.ediv_nonneg hs h0
 have q1 : s / r <= s := Int.ediv_le_self _ hs
 have e1 : IntKind.wrap .u64 (s.tdiv r) = s / r := by rw [Int.tdiv_eq_ediv_of_nonneg hs, wU_id _ q0 (by omega)]
 have e2 : (s / r).tmod m = s / r % m := Int.tmod_eq_emod_of_nonneg q0
 rw [e1, e2]
 have t0 := Int.emod_nonneg (s / r % m * x) (show m ≠ 0 by omega)
 have t1 := Int.emod_lt_of_pos (s / r % m * x) hp
 refine ⟨⟨Int.emod_nonneg _ (by omega), Int.emod_lt_of_pos _ hp⟩, Int.tmod_eq_emod_of_nonneg hs, ?_⟩
 generalize s / r % m * x % m = t at *
 rw [wU_id (y + m) (by omega) (by omega), wU_id (y + m - t) (by omega) (by omega), Int.tmod_eq_emod_of_nonneg (by omega)]
theorem iv_end {a m s x y : Int} (h : Iv a m 0 s x y) (hg : Int.gcd a m = 1) : invI a m = y := by
 have e : s = 1 := by have := h.g; rw [Int.zero_gcd] at this; have := h.s0; omega
 exact invI_eq hg (inv_end e h.y0 h.dy)
def FCInv : List Ar -> Option Rs
 | [.c (.d (.v (.int .u64 u0))), .c (.d (.v (.int .u64 u1)))] => some ⟨(0 <= u0 /\ u0 < 18446744073709551616) /\ (0 <= u1 /\ u1 < 18446744073709551616) /\ ((0 < u1 /\ u1 < 9223372036854775808) /\ Int.gcd u0 u1 = 1), .va (.c (.d (ut (invI u0 u1)))), []⟩
 | _ => none
theorem fcCInv : FC Tryz.prog 136 FCInv := by
 intro xs pre r us h hp
 unfold FCInv at h
 split at h
 . rename_i u0 u1
   cases h
   obtain ⟨hp0, hp1, hp2⟩ := hp
   refine fcat tys_ok (l := [(135, ⟨[], FCTimes⟩)]) ⟨fcCTimes, trivial⟩ Tryz.func136 rfl (by kernel_rfl) false ?_
   have hst := iv_start hp0.1 hp2.1.1 hp2.2
   have t1 : u0.tmod u1 = u0 % u1 := Int.tmod_eq_emod_of_nonneg hp0.1
   have t2 : (1 : Int).tmod u1 = 1 % u1 := Int.tmod_eq_emod_of_nonneg (by decide)
   obtain ⟨⟨hm0, hm1⟩, hg⟩ := hp2
   repeat' (first | exact trivial | refine ⟨?_, ?_⟩ | intro _)
   all_goals first | (with_reducible first | apply qa | apply qb | apply qc | apply qd) | (conv => whnf)
   refine scope_ok tys_ok (ls := [(135, ⟨[], FCTimes⟩)]) ⟨fcCTimes, trivial⟩ (by kernel_rfl) 0 rfl (X := Int × Int × Int × Int) (fun x => ⟨[(5, vx (.int .u64 x.1)), (6, vx (.int .u64 x.2.1)), (7, vx (.int .u64 x.2.2.1)), (8, vx (.int .u64 x.2.2.2)), (1, vx (.int .u64 u1))], [], 0, 41⟩) (fun x => x.1.toNat)
    (fun x => Iv u0 u1 x.1 x.2.1 x.2.2.1 x.2.2.2) [5, 6, 7, 8] [] (fun xs _ => match xs with | [a, b, c, d] => (iT a, iT b, iT c, iT d) | _ => (0, 0, 0, 0)) (fun _ xs _ => match xs with | [a, b, c, d] => (iT a, iT b, iT c, iT d) | _ => (0, 0, 0, 0)) [] [] 0 0 ?_ ?_
   . repeat' (first | exact trivial | refine ⟨?_, ?_⟩ | intro _)
     all_goals first | (with_reducible first | apply qa | apply qb | apply qc | apply qd) | (conv => whnf)
     all_goals (try simp only [iT, beq_iff_eq, beq_eq_false_iff_ne, ne_eq] at *)
     all_goals (try simp only [t1, t2] at *)
     all_goals first | omega | ((with_reducible show idsOk _ _ = true); rfl) | rfl | skip
     all_goals first | (have hz : u0 % u1 = 0 := (by assumption); rw [hz] at hst; exact congrArg (Value.int .u64) (iv_end hst hg).symm) | (have b3 := hst.x0; first | omega | (obtain ⟨p1, p2, p3⟩ := iv_prog hst (by assumption) hm1; have p4 := iv_step hst (by assumption); first | omega | exact p1.1 | exact p1.2 | (rw [p2, p3]; exact p4.1) | (rw [p2]; omega)))
   . rintro ⟨r, s, x, y⟩ hi
     change Iv u0 u1 r s x y at hi
     have hr0 := hi.r0
     have hrm := hi.rm
     have hs0 := hi.s0
     have hsm := hi.sm
     have hx0 := hi.x0
     have hy0 := hi.y0
     repeat' (first | exact trivial | refine ⟨?_, ?_⟩ | intro _)
     all_goals first | (with_reducible first | apply qa | apply qb | apply qc | apply qd) | (conv => whnf)
     all_goals (try simp only [iT, beq_iff_eq, beq_eq_false_iff_ne, ne_eq] at *)
     all_goals first | omega | ((with_reducible show idsOk _ _ = true); rfl) | rfl | skip
     all_goals first | (have hz : r = 0 := (by assumption); subst hz; exact congrArg (Value.int .u64) (iv_end hi hg).symm) | (obtain ⟨p1, p2, p3⟩ := iv_prog hi (by assumption) hm1; have p4 := iv_step hi (by assumption); first | omega | exact p1.1 | exact p1.2 | (rw [p2, p3]; exact p4.1) | (rw [p2]; omega))
 . cases h
theorem mul_lo {lo a b c d x y : Int} (ha : a <= x) (hb : x <= b) (hc : c <= y) (hd : y <= d) (h1 : lo <= a * c) (h2 : lo <= a * d) (h3 : lo <= b * c) (h4 : lo <= b * d) : lo <= x * y := by
 have e1 : lo <= a * y := by
  rcases Int.le_total 0 a with h | h
  . exact Int.le_trans h1 (Int.mul_le_mul_of_nonneg_left hc h)
  . exact Int.le_trans h2 (Int.mul_le_mul_of_nonpos_left h hd)
 have e2 : lo <= b * y := by
  rcases Int.le_total 0 b with h | h
  . exact Int.le_trans h3 (Int.mul_le_mul_of_nonneg_left hc h)
  . exact Int.le_trans h4 (Int.mul_le_mul_of_nonpos_left h hd)
 rcases Int.le_total 0 y with h | h
 . exact Int.le_trans e1 (Int.mul_le_mul_of_nonneg_right ha h)
 . exact Int.le_trans e2 (Int.mul_le_mul_of_nonpos_right hb h)
theorem mul_hi {hi a b c d x y : Int} (ha : a <= x) (hb : x <= b) (hc : c <= y) (hd : y <= d) (h1 : a * c <= hi) (h2 : a * d <= hi) (h3 : b * c <= hi) (h4 : b * d <= hi) : x * y <= hi := by
 have := mul_lo (lo := -hi) (a := -b) (b := -a) (c := c) (d := d) (x := -x) (y := y) (by omega) (by omega) hc hd (by rw [Int.neg_mul]; omega) (by rw [Int.neg_mul]; omega) (by rw [Int.neg_mul]; omega) (by rw [Int.neg_mul]; omega)
 rw [Int.neg_mul] at this; omega
theorem td_den {x y z : Int} (hy : 0 < y) (hz : y <= z) : (0 <= x -> x.tdiv z <= x.tdiv y) /\ (x <= 0 -> x.tdiv y <= x.tdiv z) := by
 have key : ∀ x : Int, 0 <= x -> x.tdiv z <= x.tdiv y := by
  intro x hx
  rw [Int.tdiv_eq_ediv_of_nonneg hx, Int.tdiv_eq_ediv_of_nonneg hx]
  rw [Int.le_ediv_iff_mul_le hy]
  have h1 := Int.ediv_mul_le x (show z ≠ 0 by omega)
  have h2 := Int.ediv_nonneg hx (show 0 <= z by omega)
  have h3 : x / z * y <= x / z * z := Int.mul_le_mul_of_nonneg_left hz h2
  omega
 refine ⟨key x, fun h => ?_⟩
 have := key (-x) (by omega)
 rw [Int.neg_tdiv, Int.neg_tdiv] at this
 omega
theorem td_pos_lo {lo a b c d x y : Int} (ha : a <= x) (hb : x <= b) (hc : c <= y) (hd : y <= d) (hp : 0 < c) (h1 : lo <= a.tdiv c) (h2 : lo <= a.tdiv d) : lo <= x.tdiv y := by
 have e1 : lo <= a.tdiv y := by
  rcases Int.le_total 0 a with h | h
  . exact Int.le_trans h2 ((td_den (by omega) hd).1 h)
  . exact Int.le_trans h1 ((td_den hp hc).2 h)
 exact Int.le_trans e1 (Int.tdiv_le_tdiv (by omega) ha)
theorem td_pos_hi {hi a b c d x y : Int} (ha : a <= x) (hb : x <= b) (hc : c <= y) (hd : y <= d) (hp : 0 < c) (h3 : b.tdiv c <= hi) (h4 : b.tdiv d <= hi) : x.tdiv y <= hi := by
 have e1 : b.tdiv y <= hi := by
  rcases Int.le_total 0 b with h | h
  . exact Int.le_trans ((td_den hp hc).1 h) h3
  . exact Int.le_trans ((td_den (by omega) hd).2 h) h4
 exact Int.le_trans (Int.tdiv_le_tdiv (by omega) hb) e1
theorem td_neg_lo {lo a b c d x y : Int} (ha : a <= x) (hb : x <= b) (hc : c <= y) (hd : y <= d) (hp : d < 0) (h3 : lo <= b.tdiv c) (h4 : lo <= b.tdiv d) : lo <= x.tdiv y := by
 have := td_pos_hi (hi := -lo) (a := a) (b := b) (c := -d) (d := -c) (x := x) (y := -y) ha hb (by omega) (by omega) (by omega) (by rw [Int.tdiv_neg]; omega) (by rw [Int.tdiv_neg]; omega)
 rw [Int.tdiv_neg] at this; omega
theorem td_neg_hi {hi a b c d x y : Int} (ha : a <= x) (hb : x <= b) (hc : c <= y) (hd : y <= d) (hp : d < 0) (h1 : a.tdiv c <= hi) (h2 : a.tdiv d <= hi) : x.tdiv y <= hi := by
 have := td_pos_lo (lo := -hi) (a := a) (b := b) (c := -d) (d := -c) (x := x) (y := -y) ha hb (by omega) (by omega) (by omega) (by rw [Int.tdiv_neg]; omega) (by rw [Int.tdiv_neg]; omega)
 rw [Int.tdiv_neg] at this; omega
theorem tm_bound {x y m : Int} (hy : y ≠ 0) (h1 : y <= m + 1) (h2 : -y <= m + 1) : (0 <= x -> 0 <= x.tmod y /\ x.tmod y <= x /\ x.tmod y <= m) /\ (x <= 0 -> x <= x.tmod y /\ x.tmod y <= 0 /\ -m <= x.tmod y) := by
 have key : ∀ x : Int, 0 <= x -> 0 <= x.tmod y /\ x.tmod y <= x /\ x.tmod y <= m := by
  intro x hx
  rw [Int.tmod_eq_emod_of_nonneg hx]
  have g1 := Int.emod_nonneg x hy
  have g2 := Int.emod_lt x hy
  refine ⟨g1, ?_, by omega⟩
  rcases Int.lt_or_gt_of_ne hy with h | h
  . rw [<- Int.emod_neg]
    have := Int.mul_ediv_add_emod x (-y)
    have h2 := Int.mul_nonneg (show 0 <= -y by omega) (Int.ediv_nonneg hx (show 0 <= -y by omega))
    omega
  . have := Int.mul_ediv_add_emod x y
    have h2 := Int.mul_nonneg (show 0 <= y by omega) (Int.ediv_nonneg hx (show 0 <= y by omega))
    omega
 refine ⟨key x, fun h => ?_⟩
 have := key (-x) (by omega)
 rw [Int.neg_tmod] at this
 omega
def wr (n : Int) : Int := (n + 9223372036854775808) % 18446744073709551616 - 9223372036854775808
theorem wr_r (n : Int) : -9223372036854775808 <= wr n /\ wr n < 9223372036854775808 := by unfold wr; omega
theorem wr_id {n : Int} (h : -9223372036854775808 <= n /\ n < 9223372036854775808) : wr n = n := by unfold wr; omega
def exI (op a b : Int) : Int := if op = 10 then a + b else if op = 11 then a - b else if op = 7 then a * b else 0
def exB (op : Int) : Bool := op == 10 || (op == 11 || op == 7)
def cmpB (op a b : Int) : Bool := if op = 12 then decide (a < b) else if op = 13 then decide (a <= b) else if op = 14 then decide (a = b) else if op = 15 then decide (a ≠ b) else if op = 16 then decide (a ≠ 0) && decide (b ≠ 0) else decide (a ≠ 0) || decide (b ≠ 0)
def doI (op a b : Int) : Int := if exB op then wr (exI op a b) else if op = 8 then (if b = 0 then 0 else wr (a.tdiv b)) else if op = 9 then (if b = 0 then 0 else a.tmod b) else if 12 <= op /\ op <= 17 then (if cmpB op a b then 1 else 0) else 0
def doE (op b : Int) : Int := if exB op then 0 else if op = 8 \/ op = 9 then (if b = 0 then 10 else 0) else if 12 <= op /\ op <= 17 then 0 else 2
def allS : Sp := Sp.of (-9223372036854775808) 9223372036854775807
def noS : Sp := ⟨false, 0, 0⟩
def wrapI (lo hi : Int) : Sp := if hi - lo ≥ 18446744073709551616 then allS else if wr lo > wr hi then allS else Sp.of (wr lo) (wr hi)
theorem all_has {n : Int} (h : -9223372036854775808 <= n /\ n < 9223372036854775808) : allS.has n = true := by
 unfold allS Sp.of Sp.has; rw [if_neg (by decide)]; simp; omega
theorem of_has {l h n : Int} : (Sp.of l h).has n = true ↔ l <= n /\ n <= h := by
 unfold Sp.of Sp.has; split
 . simp; omega
 . simp
theorem wrapI_sound {lo hi e : Int} (h1 : lo <= e) (h2 : e <= hi) : (wrapI lo hi).has (wr e) = true := by
 unfold wrapI
 split
 . exact all_has (wr_r e)
 . split
   . exact all_has (wr_r e)
   . rw [of_has]; unfold wr at *; omega
def minL : Int -> List Int -> Int := fun a l => l.foldl (fun a b => if b < a then b else a) a
def maxL : Int -> List Int -> Int := fun a l => l.foldl (fun a b => if a < b then b else a) a
theorem minL_le : ∀ (l : List Int) (a : Int), minL a l <= a /\ ∀ x, x ∈ l -> minL a l <= x
 | [], a => ⟨Int.le_refl _, fun x h => by cases h⟩
 | b :: l, a => by
   have h := minL_le l (if b < a then b else a)
   have e : minL a (b :: l) = minL (if b < a then b else a) l := rfl
   rw [e]
   refine ⟨?_, fun x hx => ?_⟩
   . have := h.1; split at this <;> split <;> omega
   . rcases List.mem_cons.1 hx with rfl | hx
     . have := h.1; split at this <;> split <;> omega
     . exact h.2 x hx
theorem le_maxL : ∀ (l : List Int) (a : Int), a <= maxL a l /\ ∀ x, x ∈ l -> x <= maxL a l
 | [], a => ⟨Int.le_refl _, fun x h => by cases h⟩
 | b :: l, a => by
   have h := le_maxL l (if a < b then b else a)
   have e : maxL a (b :: l) = maxL (if a < b then b else a) l := rfl
   rw [e]
   refine ⟨?_, fun x hx => ?_⟩
   . have := h.1; split at this <;> split <;> omega
   . rcases List.mem_cons.1 hx with rfl | hx
     . have := h.1; split at this <;> split <;> omega
     . exact h.2 x hx
def around : List Int -> Sp
 | [] => noS
 | x :: l => wrapI (minL x (x :: l)) (maxL x (x :: l))
theorem around_sound {l : List Int} {e : Int} (hl : l ≠ []) (h1 : ∀ lo, (∀ x, x ∈ l -> lo <= x) -> lo <= e) (h2 : ∀ hi, (∀ x, x ∈ l -> x <= hi) -> e <= hi) : (around l).has (wr e) = true := by
 cases l with
 | nil => exact absurd rfl hl
 | cons x l => exact wrapI_sound (h1 _ (minL_le _ _).2) (h2 _ (le_maxL _ _).2)
def corners (f : Int -> Int -> Int) (a b : Sp) : List Int := [f a.lo b.lo, f a.lo b.hi, f a.hi b.lo, f a.hi b.hi]
theorem corners_lo {f : Int -> Int -> Int} {a b : Sp} {lo : Int} (h : ∀ x, x ∈ corners f a b -> lo <= x) : lo <= f a.lo b.lo /\ lo <= f a.lo b.hi /\ lo <= f a.hi b.lo /\ lo <= f a.hi b.hi :=
 ⟨h _ (by simp [corners]), h _ (by simp [corners]), h _ (by simp [corners]), h _ (by simp [corners])⟩
theorem corners_hi {f : Int -> Int -> Int} {a b : Sp} {hi : Int} (h : ∀ x, x ∈ corners f a b -> x <= hi) : f a.lo b.lo <= hi /\ f a.lo b.hi <= hi /\ f a.hi b.lo <= hi /\ f a.hi b.hi <= hi :=
 ⟨h _ (by simp [corners]), h _ (by simp [corners]), h _ (by simp [corners]), h _ (by simp [corners])⟩
theorem has_iff {s : Sp} {n : Int} : s.has n = true ↔ s.some = true /\ s.lo <= n /\ n <= s.hi := by unfold Sp.has; simp [and_assoc]
theorem ex_lo {op lo x y : Int} {a b : Sp} (hx : a.has x = true) (hy : b.has y = true) (h : ∀ z, z ∈ corners (exI op) a b -> lo <= z) : lo <= exI op x y := by
 obtain ⟨_, x1, x2⟩ := has_iff.1 hx
 obtain ⟨_, y1, y2⟩ := has_iff.1 hy
 obtain ⟨h1, h2, h3, h4⟩ := corners_lo h
 unfold exI at *
 split
 . simp_all; omega
 . split
   . simp_all; omega
   . split
     . simp_all; exact mul_lo x1 x2 y1 y2 h1 h2 h3 h4
     . simp_all
theorem ex_hi {op hi x y : Int} {a b : Sp} (hx : a.has x = true) (hy : b.has y = true) (h : ∀ z, z ∈ corners (exI op) a b -> z <= hi) : exI op x y <= hi := by
 obtain ⟨_, x1, x2⟩ := has_iff.1 hx
 obtain ⟨_, y1, y2⟩ := has_iff.1 hy
 obtain ⟨h1, h2, h3, h4⟩ := corners_hi h
 unfold exI at *
 split
 . simp_all; omega
 . split
   . simp_all; omega
   . split
     . simp_all; exact mul_hi x1 x2 y1 y2 h1 h2 h3 h4
     . simp_all
def negS (b : Sp) : Sp := b.meet ⟨true, -9223372036854775808, -1⟩
def posS (b : Sp) : Sp := b.meet ⟨true, 1, 9223372036854775807⟩
def parts (b : Sp) : List Sp := (if (negS b).none then [] else [negS b]) ++ (if (posS b).none then [] else [posS b])
def divS (a b : Sp) : Sp := around ((parts b).flatMap fun p => corners Int.tdiv a p)
theorem meet_has' (a b : Sp) (n : Int) : (a.meet b).has n = (a.has n && b.has n) := by grind [Sp.meet, Sp.has, Sp.none, Sp.of]
theorem has_nn {s : Sp} {n : Int} (h : s.has n = true) : s.none = false := by
 obtain ⟨h1, h2, h3⟩ := has_iff.1 h
 unfold Sp.none; rw [h1]; simp; omega
theorem div_sound {a b : Sp} {x y : Int} (hx : a.has x = true) (hy : b.has y = true) (ry : -9223372036854775808 <= y /\ y < 9223372036854775808) (h0 : y ≠ 0) : (divS a b).has (wr (x.tdiv y)) = true := by
 obtain ⟨_, x1, x2⟩ := has_iff.1 hx
 have hp : ∃ p, p ∈ parts b /\ p.has y = true /\ (0 < p.lo \/ p.hi < 0) := by
  unfold parts
  rcases Int.lt_or_gt_of_ne h0 with h | h
  . have e : (negS b).has y = true := by unfold negS; rw [meet_has', hy]; simp [Sp.has]; omega
    refine ⟨negS b, List.mem_append_left _ (by rw [has_nn e]; simp), e, .inr ?_⟩
    have := has_nn e
    unfold negS at *; grind [Sp.meet, Sp.has, Sp.none, Sp.of]
  . have e : (posS b).has y = true := by unfold posS; rw [meet_has', hy]; simp [Sp.has]; omega
    refine ⟨posS b, List.mem_append_right _ (by rw [has_nn e]; simp), e, .inl ?_⟩
    have := has_nn e
    unfold posS at *; grind [Sp.meet, Sp.has, Sp.none, Sp.of]
 obtain ⟨p, hm, hh, hs⟩ := hp
 obtain ⟨_, y1, y2⟩ := has_iff.1 hh
 refine around_sound ?_ ?_ ?_
 . intro e
   have : p.lo.tdiv p.lo ∈ [] \/ True := .inr trivial
   have h2 : a.lo.tdiv p.lo ∈ (parts b).flatMap fun p => corners Int.tdiv a p := List.mem_flatMap.2 ⟨p, hm, by simp [corners]⟩
   rw [e] at h2; cases h2
 . intro lo h
   have hc := corners_lo (f := Int.tdiv) (a := a) (b := p) fun z hz => h z (List.mem_flatMap.2 ⟨p, hm, hz⟩)
   rcases hs with hs | hs
   . exact td_pos_lo x1 x2 y1 y2 hs hc.1 hc.2.1
   . exact td_neg_lo x1 x2 y1 y2 hs hc.2.2.1 hc.2.2.2
 . intro hi h
   have hc := corners_hi (f := Int.tdiv) (a := a) (b := p) fun z hz => h z (List.mem_flatMap.2 ⟨p, hm, hz⟩)
   rcases hs with hs | hs
   . exact td_pos_hi x1 x2 y1 y2 hs hc.2.2.1 hc.2.2.2
   . exact td_neg_hi x1 x2 y1 y2 hs hc.1 hc.2.1
def absI (n : Int) : Int := if n < 0 then -n else n
def restM (b : Sp) : Int := (if absI b.lo < absI b.hi then absI b.hi else absI b.lo) - 1
def restS (a b : Sp) : Sp := if (parts b).isEmpty then noS else if a.lo = a.hi /\ b.lo = b.hi then Sp.of (doI 9 a.lo b.lo) (doI 9 a.lo b.lo) else Sp.of (if a.lo < 0 then (if a.lo < -restM b then -restM b else a.lo) else 0) (if 0 < a.hi then (if restM b < a.hi then restM b else a.hi) else 0)
theorem parts_has {b : Sp} {y : Int} (hy : b.has y = true) (ry : -9223372036854775808 <= y /\ y < 9223372036854775808) (h0 : y ≠ 0) : ∃ p, p ∈ parts b /\ p.has y = true /\ (0 < p.lo \/ p.hi < 0) := by
 unfold parts
 rcases Int.lt_or_gt_of_ne h0 with h | h
 . have e : (negS b).has y = true := by unfold negS; rw [meet_has', hy]; simp [Sp.has]; omega
   refine ⟨negS b, List.mem_append_left _ (by rw [has_nn e]; simp), e, .inr ?_⟩
   have := has_nn e
   unfold negS at *; grind [Sp.meet, Sp.has, Sp.none, Sp.of]
 . have e : (posS b).has y = true := by unfold posS; rw [meet_has', hy]; simp [Sp.has]; omega
   refine ⟨posS b, List.mem_append_right _ (by rw [has_nn e]; simp), e, .inl ?_⟩
   have := has_nn e
   unfold posS at *; grind [Sp.meet, Sp.has, Sp.none, Sp.of]
theorem doI_rem {x y : Int} (h : y ≠ 0) : doI 9 x y = x.tmod y := by
 unfold doI; rw [if_neg (by decide), if_neg (by decide), if_pos rfl, if_neg h]
theorem doI_div {x y : Int} (h : y ≠ 0) : doI 8 x y = wr (x.tdiv y) := by
 unfold doI; rw [if_neg (by decide), if_pos rfl, if_neg h]
theorem rest_sound {a b : Sp} {x y : Int} (hx : a.has x = true) (hy : b.has y = true) (ry : -9223372036854775808 <= y /\ y < 9223372036854775808) (h0 : y ≠ 0) : (restS a b).has (doI 9 x y) = true := by
 obtain ⟨_, x1, x2⟩ := has_iff.1 hx
 obtain ⟨_, y1, y2⟩ := has_iff.1 hy
 obtain ⟨p, hp, _⟩ := parts_has hy ry h0
 unfold restS
 rw [if_neg (by intro h; rw [List.isEmpty_iff.1 h] at hp; cases hp)]
 split
 . rename_i h
   have e1 : x = a.lo := by omega
   have e2 : y = b.lo := by omega
   subst e1 e2
   exact of_has.2 ⟨Int.le_refl _, Int.le_refl _⟩
 . rw [doI_rem h0, of_has]
   have hm1 : y <= restM b + 1 := by unfold restM absI; (repeat' split) <;> omega
   have hm2 : -y <= restM b + 1 := by unfold restM absI; (repeat' split) <;> omega
   have hb := tm_bound (x := x) (m := restM b) h0 hm1 hm2
   generalize x.tmod y = t at *
   generalize restM b = m at *
   rcases Int.le_total 0 x with h | h
   . have := hb.1 h
     constructor
     . (repeat' split) <;> omega
     . (repeat' split) <;> omega
   . have := hb.2 h
     constructor
     . (repeat' split) <;> omega
     . (repeat' split) <;> omega
def truthS (always never : Bool) : Sp := if always then Sp.of 1 1 else if never then Sp.of 0 0 else Sp.of 0 1
theorem truth_has {always never : Bool} {t : Bool} (h1 : always = true -> t = true) (h2 : never = true -> t = false) : (truthS always never).has (if t then 1 else 0) = true := by
 unfold truthS
 split
 . rw [h1 ‹_›]; rfl
 . split
   . rw [h2 ‹_›]; rfl
   . rw [of_has]; split <;> omega
def aloneS (a : Sp) (n : Int) : Bool := decide (a.lo = n) && decide (a.hi = n)
def eqS (a b : Sp) : Bool := (a.some == b.some) && (decide (a.lo = b.lo) && decide (a.hi = b.hi))
def cmpS (op : Int) (a b : Sp) : Sp :=
 if op = 12 then truthS (decide (a.hi < b.lo)) (decide (a.lo ≥ b.hi))
 else if op = 13 then truthS (decide (a.hi <= b.lo)) (decide (a.lo > b.hi))
 else if op = 14 then truthS (decide (a.lo = a.hi) && eqS b a) (decide (a.hi < b.lo) || decide (b.hi < a.lo))
 else if op = 15 then truthS (decide (a.hi < b.lo) || decide (b.hi < a.lo)) (decide (a.lo = a.hi) && eqS b a)
 else if op = 16 then truthS (!a.has 0 && !b.has 0) (aloneS a 0 || aloneS b 0)
 else if op = 17 then truthS (!a.has 0 || !b.has 0) (aloneS a 0 && aloneS b 0)
 else noS
theorem cmp_sound {op x y : Int} {a b : Sp} (ho : 12 <= op /\ op <= 17) (hx : a.has x = true) (hy : b.has y = true) : (cmpS op a b).has (if cmpB op x y then 1 else 0) = true := by
 obtain ⟨sx, x1, x2⟩ := has_iff.1 hx
 obtain ⟨sy, y1, y2⟩ := has_iff.1 hy
 have hc : op = 12 \/ op = 13 \/ op = 14 \/ op = 15 \/ op = 16 \/ op = 17 := by omega
 have zx : a.has 0 = false -> x ≠ 0 := fun h e => by rw [<- e, hx] at h; cases h
 have zy : b.has 0 = false -> y ≠ 0 := fun h e => by rw [<- e, hy] at h; cases h
 rcases hc with rfl | rfl | rfl | rfl | rfl | rfl
 all_goals refine truth_has ?_ ?_
 all_goals (intro h; simp only [cmpB, eqS, aloneS, Bool.and_eq_true, Bool.or_eq_true, Bool.not_eq_true', decide_eq_true_eq, decide_eq_false_iff_not, Bool.and_eq_false_iff, Bool.or_eq_false_iff, beq_iff_eq, Int.reduceEq, if_true, if_false, ne_eq] at h ⊢)
 all_goals first | omega | (have h1 := zx; have h2 := zy; rcases h with h | h <;> first | omega | simp_all) | (have h1 := zx h.1; have h2 := zy h.2; omega) | skip
def rkDo (op : Int) (a b : Sp) : Sp :=
 if a.none || b.none then noS
 else if exB op then around (corners (exI op) a b)
 else if op = 8 then divS a b
 else if op = 9 then restS a b
 else cmpS op a b
theorem rk_sound {op x y : Int} {a b : Sp} (hx : a.has x = true) (hy : b.has y = true) (ry : -9223372036854775808 <= y /\ y < 9223372036854775808) (he : doE op y = 0) : (rkDo op a b).has (doI op x y) = true := by
 unfold rkDo
 rw [has_nn hx, has_nn hy]
 simp only [Bool.or_self, Bool.false_eq_true, if_false]
 unfold doE at he
 by_cases h1 : exB op = true
 . rw [if_pos h1]
   have e : doI op x y = wr (exI op x y) := by unfold doI; rw [if_pos h1]
   rw [e]
   exact around_sound (by simp [corners]) (fun lo h => ex_lo hx hy h) (fun hi h => ex_hi hx hy h)
 . rw [if_neg h1] at he ⊢
   by_cases h2 : op = 8
   . subst h2
     have h0 : y ≠ 0 := by intro h; simp [h] at he
     rw [if_pos rfl, doI_div h0]; exact div_sound hx hy ry h0
   . rw [if_neg h2]
     by_cases h3 : op = 9
     . subst h3
       have h0 : y ≠ 0 := by intro h; simp [h] at he
       rw [if_pos rfl]; exact rest_sound hx hy ry h0
     . rw [if_neg h3]
       rw [if_neg (by omega)] at he
       have h4 : 12 <= op /\ op <= 17 := by
        by_cases h : 12 <= op /\ op <= 17
        . exact h
        . rw [if_neg h] at he; omega
       have e : doI op x y = if cmpB op x y then 1 else 0 := by unfold doI; rw [if_neg h1, if_neg h2, if_neg h3, if_pos h4]
       rw [e]; exact cmp_sound h4 hx hy
theorem quo_rng {x y : Int} (rx : -9223372036854775808 <= x /\ x < 9223372036854775808) (ry : -9223372036854775808 <= y /\ y < 9223372036854775808) (h0 : y ≠ 0) (hn : ¬ (x = -9223372036854775808 /\ y = -1)) : -9223372036854775808 <= x.tdiv y /\ x.tdiv y < 9223372036854775808 := by
 by_cases h1 : y = -1
 . subst h1
   rw [show (-1 : Int) = -(1) from rfl, Int.tdiv_neg, Int.tdiv_one]; omega
 by_cases h2 : y = 1
 . subst h2; rw [Int.tdiv_one]; exact rx
 have h3 : 2 <= y.natAbs := by omega
 have h4 : (x.tdiv y).natAbs = x.natAbs / y.natAbs := Int.natAbs_tdiv x y
 have h5 : x.natAbs / y.natAbs <= x.natAbs / 2 := Nat.div_le_div_left h3 (by decide)
 omega
theorem part_odd (k a : Nat) (h : a < 2 ^ k) : (2 * a + 1) &&& (2 ^ (k + 1) - (2 * a + 1)) = 1 := by
 have e : (2 ^ (k + 1) - (2 * a + 1)) / 2 = 2 ^ k - (a + 1) := by rw [Nat.pow_succ]; omega
 have e2 : (2 ^ (k + 1) - (2 * a + 1)) % 2 = 1 := by rw [Nat.pow_succ]; omega
 apply Nat.eq_of_testBit_eq
 intro i
 rw [Nat.testBit_and]
 cases i with
 | zero => rw [Nat.testBit_zero, Nat.testBit_zero, e2]; simp
 | succ i =>
   rw [Nat.testBit_succ, Nat.testBit_succ, e, show (2 * a + 1) / 2 = a by omega, Nat.testBit_two_pow_sub_succ h, Nat.testBit_succ]
   cases a.testBit i <;> simp
theorem part_even (k a : Nat) (h : a < 2 ^ k) : (2 * a) &&& (2 ^ (k + 1) - 2 * a) = 2 * (a &&& (2 ^ k - a)) := by
 have e : (2 ^ (k + 1) - 2 * a) / 2 = 2 ^ k - a := by rw [Nat.pow_succ]; omega
 apply Nat.eq_of_testBit_eq
 intro i
 rw [Nat.testBit_and]
 cases i with
 | zero => rw [Nat.testBit_zero, Nat.testBit_zero, Nat.testBit_zero]; simp
 | succ i => rw [Nat.testBit_succ, Nat.testBit_succ, Nat.testBit_succ, e, show 2 * a / 2 = a by omega, show 2 * (a &&& (2 ^ k - a)) / 2 = a &&& (2 ^ k - a) by omega, Nat.testBit_and]
theorem part_ok : ∀ (k m : Nat), 0 < m -> m < 2 ^ k -> (m &&& (2 ^ k - m)) ∣ m /\ (m &&& (2 ^ k - m)) ∣ 2 ^ k /\ 0 < (m &&& (2 ^ k - m))
 | 0, m, h0, h => by simp at h; omega
 | k + 1, m, h0, h => by
   rcases Nat.mod_two_eq_zero_or_one m with e | e
   . obtain ⟨a, rfl⟩ : ∃ a, m = 2 * a := ⟨m / 2, by omega⟩
     have ha : a < 2 ^ k := by rw [Nat.pow_succ] at h; omega
     have ih := part_ok k a (by omega) ha
     rw [part_even k a ha]
     refine ⟨Nat.mul_dvd_mul_left 2 ih.1, ?_, by have := ih.2.2; omega⟩
     rw [Nat.pow_succ, Nat.mul_comm (2 ^ k)]; exact Nat.mul_dvd_mul_left 2 ih.2.1
   . obtain ⟨a, rfl⟩ : ∃ a, m = 2 * a + 1 := ⟨m / 2, by omega⟩
     have ha : a < 2 ^ k := by rw [Nat.pow_succ] at h; omega
     rw [part_odd k a ha]
     exact ⟨Nat.one_dvd _, Nat.one_dvd _, by decide⟩
def partI (m : Int) : Int := ((m.toNat &&& (2 ^ 64 - m.toNat) : Nat) : Int)
theorem partI_ok {m : Int} (h : 0 < m) (h1 : m < 9223372036854775808) : partI m ∣ m /\ partI m ∣ 18446744073709551616 /\ 0 < partI m /\ partI m <= m := by
 obtain ⟨n, rfl⟩ := Int.eq_ofNat_of_zero_le (Int.le_of_lt h)
 obtain ⟨a, b, c⟩ := part_ok 64 n (by omega) (by omega)
 unfold partI
 rw [Int.toNat_natCast]
 have d := Nat.le_of_dvd (by omega) a
 generalize n &&& (2 ^ 64 - n) = p at *
 exact ⟨Int.natCast_dvd_natCast.2 a, Int.natCast_dvd_natCast.2 b, by omega, by omega⟩
theorem partI_0 : partI 0 = 0 := by unfold partI; rw [show Int.toNat 0 = 0 from rfl, Nat.zero_and]; rfl
def Cg.all : Cg := Cg.of 1 0
def linC (op m : Int) (a b : Cg) (wraps : Bool) : Cg :=
 let k := if wraps then partI m else m
 if exB op = false \/ k = 0 then Cg.all else Cg.of k (exI op a.r b.r % k)
def sclI (m c : Int) : Int := if sizeI c > 9223372036854775807 then m else if wIntB (m * sizeI c) = true then m * sizeI c else m
theorem scl_ok {m c z : Int} (hm : 0 <= m) (hm1 : m < 9223372036854775808) (hz : m ∣ z) : 0 <= sclI m c /\ sclI m c < 9223372036854775808 /\ sclI m c ∣ c * z := by
 have h0 : m ∣ c * z := Int.dvd_mul_of_dvd_right hz
 unfold sclI
 split
 . exact ⟨hm, hm1, h0⟩
 . split
   . rename_i hw
     have hw := of_decide_eq_true hw
     have hs : 0 <= sizeI c := by unfold sizeI; split <;> omega
     refine ⟨Int.mul_nonneg hm hs, hw.2, ?_⟩
     obtain ⟨k, rfl⟩ := hz
     unfold sizeI
     split
     . exact ⟨-k, by rw [Int.mul_neg, Int.mul_neg, Int.neg_mul, Int.neg_neg, <- Int.mul_assoc, Int.mul_comm c m]⟩
     . exact ⟨k, by rw [<- Int.mul_assoc, Int.mul_comm c m]⟩
   . exact ⟨hm, hm1, h0⟩
def alC (c : Cg) (n : Int) : Bool := c.m == 0 && c.r == n
def prod0 (a b : Cg) (wraps : Bool) : Cg :=
 if alC a 0 then Cg.of 0 0 else if a.m = 0 then linC 7 (sclI b.m a.r) a b wraps else linC 7 (Int.gcd a.m b.m : Int) a b wraps
def prodC (a b : Cg) (wraps : Bool) : Cg := if a.m ≠ 0 /\ b.m = 0 then prod0 b a wraps else prod0 a b wraps
def quoC (a b : Cg) (wraps : Bool) : Cg :=
 if alC b 0 then Cg.none else if b.m ≠ 0 \/ wraps = true then Cg.all
 else if a.m % sizeI b.r ≠ 0 \/ sizeI a.r % sizeI b.r ≠ 0 then Cg.all
 else Cg.of (a.m / sizeI b.r) (a.r.tdiv b.r)
def rstC (a b : Cg) : Cg := if alC b 0 then Cg.none else Cg.of (Int.gcd (Int.gcd a.m b.m : Int) (sizeI b.r) : Int) a.r
def aptC (a b : Cg) : Bool := !(Cg.meet (Cg.of (Int.gcd a.m b.m : Int) a.r) (Cg.of 0 b.r)).some
def cmpC (op : Int) (a b : Cg) : Cg :=
 if op = 15 then (if aptC a b then Cg.of 0 1 else Cg.all)
 else if op = 14 then (if aptC a b then Cg.of 0 0 else Cg.all)
 else if op = 16 then (if alC a 0 || alC b 0 then Cg.of 0 0 else if !a.has 0 && !b.has 0 then Cg.of 0 1 else Cg.all)
 else if op = 17 then (if !a.has 0 || !b.has 0 then Cg.of 0 1 else Cg.all)
 else if op = 12 \/ op = 13 then Cg.all else Cg.none
def rsDo0 (op : Int) (a b : Cg) (wraps : Bool) : Cg :=
 if !a.some || !b.some then Cg.none
 else if a.m = 0 /\ b.m = 0 then (if doE op b.r ≠ 0 then Cg.none else Cg.of 0 (doI op a.r b.r))
 else if op = 10 \/ op = 11 then linC op (Int.gcd a.m b.m : Int) a b wraps
 else if op = 7 then prodC a b wraps
 else if op = 8 then quoC a b wraps
 else if op = 9 then rstC a b
 else cmpC op a b
def rsDo (op : Int) (a b : Cg) (wraps : Bool) : Cg := rsDo0 op a.clean b.clean wraps
theorem gcd_lt {m n : Int} (hm : 0 <= m /\ m < 9223372036854775808) (hn : 0 <= n /\ n < 9223372036854775808) : (Int.gcd m n : Int) < 9223372036854775808 := by
 rcases Int.lt_or_eq_of_le hm.1 with h | rfl
 . have := Int.le_of_dvd h (Int.gcd_dvd_left m n); omega
 . rcases Int.lt_or_eq_of_le hn.1 with h | rfl
   . have := Int.le_of_dvd h (Int.gcd_dvd_right 0 n); omega
   . decide
theorem cg_clean_tidy (c : Cg) : c.clean.tidy := by
 unfold Cg.clean
 split
 . unfold Cg.of
   split
   . exact .inr ⟨rfl, by show (0 : Int) <= 1; decide, fun h => md_bound _ _ h⟩
   . exact .inr ⟨rfl, by show (0 : Int) <= c.m; omega, fun h => md_bound _ _ h⟩
 . exact .inl rfl
theorem size_pos {c : Int} (h : c ≠ 0) : 0 < sizeI c := by unfold sizeI; split <;> omega
def wrB (op : Int) (a b : Sp) : Bool :=
 if a.none || b.none then false
 else if op = 8 then a.has (-9223372036854775808) && b.has (-1)
 else (corners (exI op) a b).any fun e => exB op && !wIntB e
structure Bt (m0 r0 m1 r1 G : Int) : Prop where
 e : G = (Int.gcd m0 m1 : Int)
 p0 : 0 < m0
 p1 : 0 < m1
 a : 0 <= r0 /\ r0 < m0
 b : 0 <= r1 /\ r1 < m1
 h0 : m0 < 9223372036854775808
 h1 : m1 < 9223372036854775808
 l : m0 * (m1 / G) < 9223372036854775808
theorem bt_facts {m0 r0 m1 r1 G : Int} (h : Bt m0 r0 m1 r1 G) :
 (0 < G /\ G <= m0 /\ G <= m1) /\ (0 < m1 / G /\ m1 / G <= m1) /\ (0 < m0 / G /\ m0 / G <= m0) /\ Int.gcd (m0 / G) (m1 / G) = 1 /\ md (IntKind.wrap .i64 (r1 - md r0 m1)) m1 = (r1 - r0) % m1 /\ (0 <= md r0 m1 /\ md r0 m1 < m1) /\ (0 <= (r1 - r0) % m1 /\ (r1 - r0) % m1 < m1) /\ IntKind.wrap .u64 m0 = m0 /\ IntKind.wrap .u64 m1 = m1 /\ IntKind.wrap .u64 (m1.tdiv G) = m1 / G /\ IntKind.wrap .u64 (m0.tdiv G) = m0 / G /\ IntKind.wrap .u64 ((r1 - r0) % m1) = (r1 - r0) % m1 /\ IntKind.wrap .u64 (((r1 - r0) % m1).tdiv G) = (r1 - r0) % m1 / G /\ ((r1 - r0) % m1 / G).tmod (m1 / G) = (r1 - r0) % m1 / G % (m1 / G) /\ (0 <= (r1 - r0) % m1 / G % (m1 / G) /\ (r1 - r0) % m1 / G % (m1 / G) < m1 / G) := by
 obtain ⟨e, p0, p1, a, b, h0, h1, l⟩ := h
 have q := quot_pos p0 p1
 have gq := gcd_quot (N := m1) p0
 rw [<- e] at q gq
 have g0 : G <= m0 := by rw [e]; exact Int.le_of_dvd p0 (Int.gcd_dvd_left ..)
 have g1 : G <= m1 := by rw [e]; exact Int.le_of_dvd p1 (Int.gcd_dvd_right ..)
 have d0 : m0 / G <= m0 := Int.ediv_le_self _ (by omega)
 have d1 : m1 / G <= m1 := Int.ediv_le_self _ (by omega)
 have k1 := md_bound r0 m1 p1
 have k2 : IntKind.wrap .i64 (r1 - md r0 m1) = r1 - md r0 m1 := wI_id _ (by omega) (by omega)
 have k3 := sub_md r1 r0 m1 p1
 have k4 := Int.emod_nonneg (r1 - r0) (show m1 ≠ 0 by omega)
 have k5 := Int.emod_lt_of_pos (r1 - r0) p1
 have k6 : 0 <= (r1 - r0) % m1 / G := Int.ediv_nonneg k4 (by omega)
 have k7 : (r1 - r0) % m1 / G <= (r1 - r0) % m1 := Int.ediv_le_self _ k4
 refine ⟨⟨q.2.2, g0, g1⟩, ⟨q.1, d1⟩, ⟨q.2.1, d0⟩, gq, by rw [k2]; exact k3, k1, ⟨k4, k5⟩, wU_id _ (by omega) (by omega), wU_id _ (by omega) (by omega), ?_, ?_, wU_id _ (by omega) (by omega), ?_, Int.tmod_eq_emod_of_nonneg k6, Int.emod_nonneg _ (by omega), Int.emod_lt_of_pos _ q.1⟩
 . rw [Int.tdiv_eq_ediv_of_nonneg (by omega), wU_id _ (by omega) (by omega)]
 . rw [Int.tdiv_eq_ediv_of_nonneg (by omega), wU_id _ (by omega) (by omega)]
 . rw [Int.tdiv_eq_ediv_of_nonneg k4, wU_id _ k6 (by omega)]
theorem bt_end {m0 r0 m1 r1 G : Int} (h : Bt m0 r0 m1 r1 G) : (0 <= stepI m0 m1 r0 r1 /\ stepI m0 m1 r0 r1 < 9223372036854775808) /\ (Wd.val (wd (Wd.val (wd r0) + Wd.val (wd (m0 * stepI m0 m1 r0 r1)))) + 9223372036854775808) % 18446744073709551616 - 9223372036854775808 = r0 + m0 * stepI m0 m1 r0 r1 := by
 have f := bt_facts h
 obtain ⟨e, p0, p1, a, b, h0, h1, l⟩ := h
 have s := step_r (R := r0) (S := r1) p0 p1
 rw [<- e] at s
 have k1 : m0 * stepI m0 m1 r0 r1 <= m0 * (m1 / G - 1) := Int.mul_le_mul_of_nonneg_left (by omega) (by omega)
 have k2 : 0 <= m0 * stepI m0 m1 r0 r1 := Int.mul_nonneg (by omega) s.1
 rw [Int.mul_sub, Int.mul_one] at k1
 refine ⟨⟨s.1, by omega⟩, ?_⟩
 generalize m0 * stepI m0 m1 r0 r1 = p at *
 generalize m0 * (m1 / G) = q at *
 rw [wd_val (v := r0) (by omega) (by omega), wd_val (v := p) (by omega) (by omega), wd_val (v := r0 + p) (by omega) (by omega)]
 omega
theorem bt_rng {m0 r0 m1 r1 G : Int} (h : Bt m0 r0 m1 r1 G) : 0 <= r0 + m0 * stepI m0 m1 r0 r1 /\ r0 + m0 * stepI m0 m1 r0 r1 < 9223372036854775808 := by
 obtain ⟨e, p0, p1, a, b, h0, h1, l⟩ := h
 have s := step_r (R := r0) (S := r1) p0 p1
 rw [<- e] at s
 have k1 : m0 * stepI m0 m1 r0 r1 <= m0 * (m1 / G - 1) := Int.mul_le_mul_of_nonneg_left (by omega) (by omega)
 have k2 : 0 <= m0 * stepI m0 m1 r0 r1 := Int.mul_nonneg (by omega) s.1
 rw [Int.mul_sub, Int.mul_one] at k1
 omega
theorem invI_r {a m : Int} (h : invOk a m (invI a m)) : 0 <= invI a m /\ invI a m < m := h.1
theorem step_eq {m0 r0 m1 r1 G : Int} (e : G = (Int.gcd m0 m1 : Int)) : (r1 - r0) % m1 / G % (m1 / G) * invI (m0 / G) (m1 / G) % (m1 / G) = stepI m0 m1 r0 r1 := by subst e; rfl
def FCBoth : List Ar -> Option Rs
 | [.agg [.d (.v (.bool b0)), .d (.v (.int .i64 m0)), .d (.v (.int .i64 r0))], .agg [.d (.v (.bool b1)), .d (.v (.int .i64 m1)), .d (.v (.int .i64 r1))], .c (.d (.v (.int .u64 u2)))] => some ⟨(Cg.inR ⟨b0, m0, r0⟩) /\ (Cg.inR ⟨b1, m1, r1⟩) /\ (0 <= u2 /\ u2 < 18446744073709551616) /\ (Bt m0 r0 m1 r1 u2), .va (.c (.d (it (r0 + m0 * stepI m0 m1 r0 r1)))), []⟩
 | _ => none
theorem fcCBoth : FC Tryz.prog 96 FCBoth := by
 intro xs pre r us h hp
 unfold FCBoth at h
 split at h
 . rename_i b0 m0 r0 b1 m1 r1 u2
   cases h
   obtain ⟨hp0, hp1, hp2, hp3⟩ := hp
   refine fcat tys_ok (l := [(100, ⟨[], FCMod⟩), (136, ⟨[], FCInv⟩), (135, ⟨[], FCTimes⟩), (122, ⟨[], FWOf⟩), (95, ⟨[], FWMul⟩), (137, ⟨[], FWAdd⟩), (132, ⟨[], FWLow⟩)]) ⟨fcCMod, fcCInv, fcCTimes, fcWOf, fcWMul, fcWAdd, fcWLow, trivial⟩ Tryz.func96 rfl (by kernel_rfl) false ?_
   have hb := hp3
   obtain ⟨f1, f2, f3, f4, f5, f6, f7, f8, f9, f10, f11, f12, f13, f14, f15⟩ := bt_facts hb
   obtain ⟨z1, z2⟩ := bt_end hb
   have zw : IntKind.wrap .i64 (stepI m0 m1 r0 r1) = stepI m0 m1 r0 r1 := wI_id _ (by omega) z1.2
   have be := hb.e
   have q0 := hb.p0
   have q1 := hb.p1
   have hqa := hb.a
   have hqb := hb.b
   have q2 := hb.h0
   have q3 := hb.h1
   have gU := invI_r (a := m0 / u2) (m := m1 / u2) (by rw [be]; exact inv_has q0 q1)
   repeat' (first | exact trivial | refine ⟨?_, ?_⟩ | intro _)
   all_goals first | (with_reducible first | apply qa | apply qb | apply qc | apply qd) | (conv => whnf)
   all_goals (try simp only [f5, f8, f9, f10, f11, f12, f13, f14, step_eq be, zw])
   all_goals first | omega | (rw [wI]; omega) | exact f4 | exact f15.1 | exact f15.2 | (exfalso; have q := ‹(_ : Int) = 0›; (try simp only [f5, f8, f9, f10, f11, f12, f13, f14] at q); omega) | exact congrArg (Value.int .i64) z2 | exact wd_ok _ | exact (wd_ok _).1.1 | exact (wd_ok _).1.2 | exact (wd_ok _).2.1 | exact (wd_ok _).2.2
 . cases h
section
variable {a b : Cg}
theorem me_1 (h : (!a.clean.some) = true) : Cg.meet a b = Cg.none := by
 unfold Cg.meet Cg.meet0; rw [h]; rfl
theorem me_2 (ha : (!a.clean.some) = false) (h : (!b.clean.some) = true) : Cg.meet a b = Cg.none := by
 unfold Cg.meet Cg.meet0; rw [h, ha]; rfl
theorem me_s (ha : (!a.clean.some) = false) (hb : (!b.clean.some) = false) : ¬ ((!a.clean.some || !b.clean.some) = true) := by rw [ha, hb]; decide
variable (ha : (!a.clean.some) = false) (hb : (!b.clean.some) = false)
include ha hb
theorem me_3 (zx : (a.clean.m == 0) = true) (h : (!Cg.has b.clean a.clean.r) = true) : Cg.meet a b = Cg.none := by
 unfold Cg.meet Cg.meet0; rw [if_neg (me_s ha hb), if_pos (by simpa using zx), if_neg (by simpa using h)]
theorem me_4 (zx : (a.clean.m == 0) = true) (h : (!Cg.has b.clean a.clean.r) = false) : Cg.meet a b = a.clean := by
 unfold Cg.meet Cg.meet0; rw [if_neg (me_s ha hb), if_pos (by simpa using zx), if_pos (by simpa using h)]
theorem me_5 (zx : (a.clean.m == 0) = false) (zy : (b.clean.m == 0) = true) (h : (!Cg.has a.clean b.clean.r) = true) : Cg.meet a b = Cg.none := by
 unfold Cg.meet Cg.meet0; rw [if_neg (me_s ha hb), if_neg (by simpa using zx), if_pos (by simpa using zy), if_neg (by simpa using h)]
theorem me_6 (zx : (a.clean.m == 0) = false) (zy : (b.clean.m == 0) = true) (h : (!Cg.has a.clean b.clean.r) = false) : Cg.meet a b = b.clean := by
 unfold Cg.meet Cg.meet0; rw [if_neg (me_s ha hb), if_neg (by simpa using zx), if_pos (by simpa using zy), if_pos (by simpa using h)]
variable (zx : (a.clean.m == 0) = false) (zy : (b.clean.m == 0) = false)
include zx zy
theorem me_p : (0 < a.clean.m /\ 0 < b.clean.m) /\ (0 < (Int.gcd a.clean.m b.clean.m : Int) /\ (Int.gcd a.clean.m b.clean.m : Int) <= a.clean.m /\ (Int.gcd a.clean.m b.clean.m : Int) <= b.clean.m) := by
 have h1 := Cg.clean_nn a
 have h2 := Cg.clean_nn b
 have h3 : a.clean.m ≠ 0 := by simpa using zx
 have h4 : b.clean.m ≠ 0 := by simpa using zy
 have p0 : 0 < a.clean.m := by omega
 have p1 : 0 < b.clean.m := by omega
 exact ⟨⟨p0, p1⟩, (quot_pos p0 p1).2.2, Int.le_of_dvd p0 (Int.gcd_dvd_left ..), Int.le_of_dvd p1 (Int.gcd_dvd_right ..)⟩
theorem me_q (ra : a.clean.inR) (rb : b.clean.inR) : IntKind.wrap .i64 (Int.gcd a.clean.m b.clean.m : Int) = (Int.gcd a.clean.m b.clean.m : Int) /\ IntKind.wrap .i64 (b.clean.m.tdiv (Int.gcd a.clean.m b.clean.m : Int)) = b.clean.m / (Int.gcd a.clean.m b.clean.m : Int) /\ Wd.val (wd (a.clean.m * (b.clean.m / (Int.gcd a.clean.m b.clean.m : Int)))) = Cg.lc a.clean b.clean /\ (0 <= b.clean.m / (Int.gcd a.clean.m b.clean.m : Int) /\ b.clean.m / (Int.gcd a.clean.m b.clean.m : Int) < 9223372036854775808) := by
 obtain ⟨⟨p0, p1⟩, g0, g1, g2⟩ := me_p ha hb zx zy
 have q := quot_pos p0 p1
 have d := Int.ediv_le_self (Int.gcd a.clean.m b.clean.m : Int) (show 0 <= b.clean.m by omega)
 unfold Cg.inR at ra rb
 have m1 : a.clean.m * (b.clean.m / (Int.gcd a.clean.m b.clean.m : Int)) <= 9223372036854775808 * 9223372036854775808 := Int.mul_le_mul (by omega) (by omega) (by omega) (by decide)
 have m0 : 0 <= a.clean.m * (b.clean.m / (Int.gcd a.clean.m b.clean.m : Int)) := Int.mul_nonneg (by omega) (by omega)
 refine ⟨wI_id _ (by omega) (by omega), ?_, wd_val (by omega) (by omega), by omega, by omega⟩
 rw [Int.tdiv_eq_ediv_of_nonneg (by omega), wI_id _ (by omega) (by omega)]
theorem me_7 (ra : a.clean.inR) (rb : b.clean.inR) (h : ((apartI a.clean.r b.clean.r).tmod (Int.gcd a.clean.m b.clean.m : Int) != 0) = true) : Cg.meet a b = Cg.none := by
 rw [Int.tmod_eq_emod_of_nonneg (apart_u ra.2 rb.2).1] at h
 unfold Cg.meet Cg.meet0; rw [if_neg (me_s ha hb), if_neg (by simpa using zx), if_neg (by simpa using zy), if_neg (by simpa using h)]
theorem me_7' (ra : a.clean.inR) (rb : b.clean.inR) (h : ((apartI a.clean.r b.clean.r).tmod (Int.gcd a.clean.m b.clean.m : Int) != 0) = false) : Cg.meet a b = (if wIntB (Cg.lc a.clean b.clean) = true then Cg.of (Cg.lc a.clean b.clean) (a.clean.r + a.clean.m * stepI a.clean.m b.clean.m a.clean.r b.clean.r) else if b.clean.m > a.clean.m then b.clean else a.clean) := by
 rw [Int.tmod_eq_emod_of_nonneg (apart_u ra.2 rb.2).1] at h
 unfold Cg.meet Cg.meet0; rw [if_neg (me_s ha hb), if_neg (by simpa using zx), if_neg (by simpa using zy), if_pos (by simpa using h)]
theorem me_8 (ra : a.clean.inR) (rb : b.clean.inR) (h : ((apartI a.clean.r b.clean.r).tmod (Int.gcd a.clean.m b.clean.m : Int) != 0) = false) (hw : wIntB (Cg.lc a.clean b.clean) = true) : Cg.meet a b = Cg.of (wIntV (Cg.lc a.clean b.clean)) (a.clean.r + a.clean.m * stepI a.clean.m b.clean.m a.clean.r b.clean.r) := by
 have e : wIntV (Cg.lc a.clean b.clean) = Cg.lc a.clean b.clean := (wIn (of_decide_eq_true hw)).1
 rw [me_7' ha hb zx zy ra rb h, if_pos hw, e]
theorem me_9 (ra : a.clean.inR) (rb : b.clean.inR) (h : ((apartI a.clean.r b.clean.r).tmod (Int.gcd a.clean.m b.clean.m : Int) != 0) = false) (hw : wIntB (Cg.lc a.clean b.clean) = false) (hg : decide (b.clean.m > a.clean.m) = true) : Cg.meet a b = b.clean := by
 rw [me_7' ha hb zx zy ra rb h, if_neg (by rw [hw]; decide), if_pos (of_decide_eq_true hg)]
theorem me_10 (ra : a.clean.inR) (rb : b.clean.inR) (h : ((apartI a.clean.r b.clean.r).tmod (Int.gcd a.clean.m b.clean.m : Int) != 0) = false) (hw : wIntB (Cg.lc a.clean b.clean) = false) (hg : decide (b.clean.m > a.clean.m) = false) : Cg.meet a b = a.clean := by
 rw [me_7' ha hb zx zy ra rb h, if_neg (by rw [hw]; decide), if_neg (of_decide_eq_false hg)]
theorem me_bt (ra : a.clean.inR) (rb : b.clean.inR) (hw : wIntB (Cg.lc a.clean b.clean) = true) : Bt a.clean.m a.clean.r b.clean.m b.clean.r (Int.gcd a.clean.m b.clean.m : Int) := by
 obtain ⟨⟨p0, p1⟩, _⟩ := me_p ha hb zx zy
 have h := of_decide_eq_true hw
 exact ⟨rfl, p0, p1, (Cg.clean_red a).2 p0, (Cg.clean_red b).2 p1, ra.1.2, rb.1.2, h.2⟩
end
def FCMeet : List Ar -> Option Rs
 | [.agg [.d (.v (.bool b0)), .d (.v (.int .i64 m0)), .d (.v (.int .i64 r0))], .agg [.d (.v (.bool b1)), .d (.v (.int .i64 m1)), .d (.v (.int .i64 r1))]] => some ⟨(Cg.inR ⟨b0, m0, r0⟩) /\ (Cg.inR ⟨b1, m1, r1⟩), .va (Cg.ar (Cg.meet (⟨b0, m0, r0⟩ : Cg) (⟨b1, m1, r1⟩ : Cg))), []⟩
 | _ => none
theorem fcCMeet : FC Tryz.prog 40 FCMeet := by
 intro xs pre r us h hp
 unfold FCMeet at h
 split at h
 . rename_i b0 m0 r0 b1 m1 r1
   cases h
   obtain ⟨hp0, hp1⟩ := hp
   refine fcat tys_ok (l := [(86, ⟨[], FCClean⟩), (87, ⟨[], FCNone⟩), (48, ⟨[], FCHas⟩), (88, ⟨[], FCGcd⟩), (89, ⟨[], FCApart⟩), (95, ⟨[], FWMul⟩), (94, ⟨[], FWInt⟩), (96, ⟨[], FCBoth⟩), (90, ⟨[], FCOf⟩)]) ⟨fcCClean, fcCNone, fcCHas, fcCGcd, fcCApart, fcWMul, fcWInt, fcCBoth, fcCOf, trivial⟩ Tryz.func40 rfl (by kernel_rfl) false ?_
   have hx := Cg.clean_inR hp0
   have hy := Cg.clean_inR hp1
   have hxx := hx
   have hyy := hy
   unfold Cg.inR at hxx hyy
   have hx0 := Cg.clean_nn ⟨b0, m0, r0⟩
   have hy0 := Cg.clean_nn ⟨b1, m1, r1⟩
   have ux := wU_id (Cg.clean ⟨b0, m0, r0⟩).m hx0 (by have := hx.1.2; omega)
   have uy := wU_id (Cg.clean ⟨b1, m1, r1⟩).m hy0 (by have := hy.1.2; omega)
   have vx : 0 <= (Cg.clean ⟨b0, m0, r0⟩).m /\ (Cg.clean ⟨b0, m0, r0⟩).m < 18446744073709551616 := ⟨hx0, by have := hx.1.2; omega⟩
   have vy : 0 <= (Cg.clean ⟨b1, m1, r1⟩).m /\ (Cg.clean ⟨b1, m1, r1⟩).m < 18446744073709551616 := ⟨hy0, by have := hy.1.2; omega⟩
   have g1 := gcd_u vx vy
   have g2 := apart_u hx.2 hy.2
   have g3 := gcdJ_u hx hy hx0 hy0
   repeat' (first | exact trivial | (with_reducible first | exact hx | exact hy | exact hx.1 | exact hx.2 | exact hy.1 | exact hy.2 | exact hp0 | exact hp1 | exact vx | exact vy | exact g1 | exact g2) | refine ⟨?_, ?_⟩ | intro _)
   all_goals first | (with_reducible first | apply qa | apply qb | apply qc | apply qd) | (conv => whnf)
   all_goals (try rw [ux] at *)
   all_goals (try rw [uy] at *)
   all_goals first | (with_reducible first | exact hxx.1.1 | exact hxx.1.2 | exact hxx.2.1 | exact hxx.2.2 | exact hyy.1.1 | exact hyy.1.2 | exact hyy.2.1 | exact hyy.2.2 | exact vx.1 | exact vx.2 | exact vy.1 | exact vy.2) | skip
   all_goals first | (exfalso; simp_all; done) | (have e := me_1 (a := ⟨b0, m0, r0⟩) (b := ⟨b1, m1, r1⟩) ‹_›; first | exact congrArg (fun i : Cg => Value.bool i.some) e.symm | exact congrArg (fun i : Cg => Value.int .i64 i.m) e.symm | exact congrArg (fun i : Cg => Value.int .i64 i.r) e.symm | fail) | (have e := me_2 (a := ⟨b0, m0, r0⟩) (b := ⟨b1, m1, r1⟩) ‹_› ‹_›; first | exact congrArg (fun i : Cg => Value.bool i.some) e.symm | exact congrArg (fun i : Cg => Value.int .i64 i.m) e.symm | exact congrArg (fun i : Cg => Value.int .i64 i.r) e.symm | fail) | (have e := me_3 (a := ⟨b0, m0, r0⟩) (b := ⟨b1, m1, r1⟩) ‹_› ‹_› ‹_› ‹_›; first | exact congrArg (fun i : Cg => Value.bool i.some) e.symm | exact congrArg (fun i : Cg => Value.int .i64 i.m) e.symm | exact congrArg (fun i : Cg => Value.int .i64 i.r) e.symm | fail) | (have e := me_4 (a := ⟨b0, m0, r0⟩) (b := ⟨b1, m1, r1⟩) ‹_› ‹_› ‹_› ‹_›; first | exact congrArg (fun i : Cg => Value.bool i.some) e.symm | exact congrArg (fun i : Cg => Value.int .i64 i.m) e.symm | exact congrArg (fun i : Cg => Value.int .i64 i.r) e.symm | fail) | (have e := me_5 (a := ⟨b0, m0, r0⟩) (b := ⟨b1, m1, r1⟩) ‹_› ‹_› ‹_› ‹_› ‹_›; first | exact congrArg (fun i : Cg => Value.bool i.some) e.symm | exact congrArg (fun i : Cg => Value.int .i64 i.m) e.symm | exact congrArg (fun i : Cg => Value.int .i64 i.r) e.symm | fail) | (have e := me_6 (a := ⟨b0, m0, r0⟩) (b := ⟨b1, m1, r1⟩) ‹_› ‹_› ‹_› ‹_› ‹_›; first | exact congrArg (fun i : Cg => Value.bool i.some) e.symm | exact congrArg (fun i : Cg => Value.int .i64 i.m) e.symm | exact congrArg (fun i : Cg => Value.int .i64 i.r) e.symm | fail) | (have e := me_7 (a := ⟨b0, m0, r0⟩) (b := ⟨b1, m1, r1⟩) ‹_› ‹_› ‹_› ‹_› hx hy ‹_›; first | exact congrArg (fun i : Cg => Value.bool i.some) e.symm | exact congrArg (fun i : Cg => Value.int .i64 i.m) e.symm | exact congrArg (fun i : Cg => Value.int .i64 i.r) e.symm | fail) | skip
   all_goals (obtain ⟨⟨p0, p1⟩, g0, gl0, gl1⟩ := me_p (a := ⟨b0, m0, r0⟩) (b := ⟨b1, m1, r1⟩) ‹_› ‹_› ‹_› ‹_›; obtain ⟨q1, q2, q3, q4⟩ := me_q (a := ⟨b0, m0, r0⟩) (b := ⟨b1, m1, r1⟩) ‹_› ‹_› ‹_› ‹_› hx hy)
   all_goals (try simp only [q1, q2, q3, Wd.eta'] at *)
   all_goals first | omega | exact (wd_ok _).1.1 | exact (wd_ok _).1.2 | exact (wd_ok _).2.1 | exact (wd_ok _).2.2 | exact (wInt_r _).1 | exact (wInt_r _).2 | (have bt := me_bt (a := ⟨b0, m0, r0⟩) (b := ⟨b1, m1, r1⟩) ‹_› ‹_› ‹_› ‹_› hx hy ‹wIntB _ = true›; have br := bt_rng bt; first | exact bt | omega | fail) | (have e := me_8 (a := ⟨b0, m0, r0⟩) (b := ⟨b1, m1, r1⟩) ‹_› ‹_› ‹_› ‹_› hx hy ‹_› ‹_›; first | exact congrArg (fun i : Cg => Value.bool i.some) e.symm | exact congrArg (fun i : Cg => Value.int .i64 i.m) e.symm | exact congrArg (fun i : Cg => Value.int .i64 i.r) e.symm | fail) | (have e := me_9 (a := ⟨b0, m0, r0⟩) (b := ⟨b1, m1, r1⟩) ‹_› ‹_› ‹_› ‹_› hx hy ‹_› ‹_› ‹_›; first | exact congrArg (fun i : Cg => Value.bool i.some) e.symm | exact congrArg (fun i : Cg => Value.int .i64 i.m) e.symm | exact congrArg (fun i : Cg => Value.int .i64 i.r) e.symm | fail) | (have e := me_10 (a := ⟨b0, m0, r0⟩) (b := ⟨b1, m1, r1⟩) ‹_› ‹_› ‹_› ‹_› hx hy ‹_› ‹_› ‹_›; first | exact congrArg (fun i : Cg => Value.bool i.some) e.symm | exact congrArg (fun i : Cg => Value.int .i64 i.m) e.symm | exact congrArg (fun i : Cg => Value.int .i64 i.r) e.symm | fail)
 . cases h
theorem part_k {m : Int} (h : -9223372036854775808 <= m /\ m < 9223372036854775808) (h0 : 0 <= m) : IntKind.wrap .i64 ((BitVec.ofInt IntKind.i64.bits m &&& BitVec.ofInt IntKind.i64.bits (IntKind.wrap .i64 (0 - m))).toNat : Int) = partI m := by
 have hm : (m.toNat : Int) = m := Int.toNat_of_nonneg h0
 rcases Int.lt_or_le 0 m with hp | hp
 . have e1 : (BitVec.ofInt IntKind.i64.bits m).toNat = m.toNat := by
    rw [BitVec.toNat_ofInt]; show (m % 18446744073709551616).toNat = _; rw [Int.emod_eq_of_lt h0 (by omega)]
   have e2 : (BitVec.ofInt IntKind.i64.bits (IntKind.wrap .i64 (0 - m))).toNat = 2 ^ 64 - m.toNat := by
    rw [BitVec.toNat_ofInt, wI_id (0 - m) (by omega) (by omega)]
    show ((0 - m) % 18446744073709551616).toNat = _
    rw [show (0 - m) % 18446744073709551616 = 18446744073709551616 - m by omega]; omega
   rw [BitVec.toNat_and, e1, e2]
   have := partI_ok hp h.2
   show IntKind.wrap .i64 (partI m) = partI m
   exact wI_id _ (by omega) (by omega)
 . obtain rfl : m = 0 := by omega
   decide
theorem mod_raw {X m l : Int} (h0 : 0 <= X) (hm : 0 < m) : (X.tmod m * 18446744073709551616 + l) % m = (X * 18446744073709551616 + l) % m := by
 rw [Int.tmod_eq_emod_of_nonneg h0]
 have e : X * 18446744073709551616 + l = (X % m * 18446744073709551616 + l) + m * (X / m * 18446744073709551616) := by
  have := Int.emod_add_mul_ediv X m
  rw [<- Int.mul_assoc]
  have e2 : X * 18446744073709551616 = (X % m + m * (X / m)) * 18446744073709551616 := by rw [this]
  rw [e2, Int.add_mul]; omega
 rw [e, Int.add_mul_emod_self_left]
@[reducible] def rawM (X m l : Int) : Int := ((IntKind.wrap .u64 X).tmod (IntKind.wrap .u64 m) * 18446744073709551616 + l) % IntKind.wrap .u64 m
section
variable {h l m : Int} (k : Wd.ok ⟨h, l⟩) (hm : 0 < m) (hm2 : -9223372036854775808 ≤ m ∧ m < 9223372036854775808)
include k hm hm2
theorem raw_pos (h0 : decide (h < 0) = false) : rawM h m l = Wd.val ⟨h, l⟩ % m := by
 have h0 := of_decide_eq_false h0
 unfold Wd.ok at k; dsimp only at k
 unfold rawM
 rw [wU_id h (by omega) (by omega), wU_id m (by omega) (by omega), mod_raw (by omega) hm]; rfl
theorem raw_neg (h0 : decide (h < 0) = true) : rawM (wd (0 - Wd.val ⟨h, l⟩)).hi m (wd (0 - Wd.val ⟨h, l⟩)).lo = (-Wd.val ⟨h, l⟩) % m := by
 have h0 := of_decide_eq_true h0
 unfold Wd.ok at k; dsimp only at k
 unfold rawM
 have e : IntKind.wrap .u64 (wd (0 - Wd.val ⟨h, l⟩)).hi * 18446744073709551616 + (wd (0 - Wd.val ⟨h, l⟩)).lo = -Wd.val ⟨h, l⟩ := by rw [wU]; unfold wd Wd.val; dsimp only; omega
 rw [wU_id m (by omega) (by omega), mod_raw (by rw [wU]; omega) hm, e]
theorem tm_r {X : Int} : 0 <= (IntKind.wrap .u64 X).tmod (IntKind.wrap .u64 m) /\ (IntKind.wrap .u64 X).tmod (IntKind.wrap .u64 m) < 18446744073709551616 /\ (IntKind.wrap .u64 X).tmod (IntKind.wrap .u64 m) < IntKind.wrap .u64 m := by
 rw [wU_id m (by omega) (by omega), Int.tmod_eq_emod_of_nonneg (by rw [wU]; omega)]
 have h1 := Int.emod_nonneg (IntKind.wrap .u64 X) (b := m) (by omega)
 have h2 := Int.emod_lt_of_pos (IntKind.wrap .u64 X) hm
 omega
theorem lf_p (h0 : decide (h < 0) = false) : IntKind.wrap .i64 (rawM h m l) = Wd.val ⟨h, l⟩ % m := by
 rw [raw_pos k hm hm2 h0]
 have h1 := Int.emod_nonneg (Wd.val ⟨h, l⟩) (b := m) (by omega)
 have h2 := Int.emod_lt_of_pos (Wd.val ⟨h, l⟩) hm
 exact wI_id _ (by omega) (by omega)
theorem lf_n0 (h0 : decide (h < 0) = true) (hr : decide (rawM (wd (0 - Wd.val ⟨h, l⟩)).hi m (wd (0 - Wd.val ⟨h, l⟩)).lo > 0) = false) : IntKind.wrap .i64 (rawM (wd (0 - Wd.val ⟨h, l⟩)).hi m (wd (0 - Wd.val ⟨h, l⟩)).lo) = Wd.val ⟨h, l⟩ % m := by
 have hr := of_decide_eq_false hr
 rw [raw_neg k hm hm2 h0] at *
 have h1 := Int.emod_nonneg (-Wd.val ⟨h, l⟩) (b := m) (by omega)
 have e : (-Wd.val ⟨h, l⟩) % m = 0 := by omega
 have d : m ∣ Wd.val ⟨h, l⟩ := Int.dvd_neg.1 (Int.dvd_of_emod_eq_zero e)
 rw [e, Int.emod_eq_zero_of_dvd d]; rfl
theorem lf_n1 (h0 : decide (h < 0) = true) (hr : decide (rawM (wd (0 - Wd.val ⟨h, l⟩)).hi m (wd (0 - Wd.val ⟨h, l⟩)).lo > 0) = true) : IntKind.wrap .i64 (IntKind.wrap .u64 (IntKind.wrap .u64 m - rawM (wd (0 - Wd.val ⟨h, l⟩)).hi m (wd (0 - Wd.val ⟨h, l⟩)).lo)) = Wd.val ⟨h, l⟩ % m := by
 have hr := of_decide_eq_true hr
 rw [raw_neg k hm hm2 h0] at *
 have h2 := Int.emod_lt_of_pos (-Wd.val ⟨h, l⟩) hm
 rw [wU_id m (by omega) (by omega)]
 have h3 := Int.emod_add_mul_ediv (-Wd.val ⟨h, l⟩) m
 generalize (-Wd.val ⟨h, l⟩) % m = r at *
 generalize (-Wd.val ⟨h, l⟩) / m = q at *
 rw [wU_id (m - r) (by omega) (by omega), wI_id (m - r) (by omega) (by omega)]
 have e : Wd.val ⟨h, l⟩ = (m - r) + m * (-q - 1) := by rw [Int.mul_sub, Int.mul_neg]; omega
 rw [e, Int.add_mul_emod_self_left, Int.emod_eq_of_lt (by omega) (by omega)]
end
def FRsPart : List Ar -> Option Rs
 | [.c (.d (.v (.int .i64 i0)))] => some ⟨(-9223372036854775808 <= i0 /\ i0 < 9223372036854775808) /\ (0 <= i0), .va (.c (.d (it (partI i0)))), []⟩
 | _ => none
theorem fcRsPart : FC Tryz.prog 172 FRsPart := by
 intro xs pre r us h hp
 unfold FRsPart at h
 split at h
 . rename_i i0
   cases h
   obtain ⟨hp0, hp1⟩ := hp
   refine fcat tys_ok (l := []) trivial Tryz.func172 rfl (by kernel_rfl) false ?_
   repeat' (first | exact trivial | refine ⟨?_, ?_⟩ | intro _)
   all_goals first | (with_reducible first | apply qa | apply qb | apply qc | apply qd) | (conv => whnf)
   all_goals first | exact congrArg (Value.int .i64) (part_k hp0 hp1)
 . cases h
def FRsSize : List Ar -> Option Rs
 | [.c (.d (.v (.int .i64 i0)))] => some ⟨(-9223372036854775808 <= i0 /\ i0 < 9223372036854775808), .va (.c (.d (ut (sizeI i0)))), []⟩
 | _ => none
theorem fcRsSize : FC Tryz.prog 175 FRsSize := by
 intro xs pre r us h hp
 unfold FRsSize at h
 split at h
 . rename_i i0
   cases h
   have hp0 := hp
   refine fcat tys_ok (l := []) trivial Tryz.func175 rfl (by kernel_rfl) false ?_
   repeat' (first | exact trivial | refine ⟨?_, ?_⟩ | intro _)
   all_goals first | (with_reducible first | apply qa | apply qb | apply qc | apply qd) | (conv => whnf)
   all_goals first | exact congrArg (Value.int .u64) (size_t hp0 ‹_›) | exact congrArg (Value.int .u64) (size_f hp0 ‹_›)
 . cases h
def FRsAlone : List Ar -> Option Rs
 | [.agg [.d (.v (.bool b0)), .d (.v (.int .i64 m0)), .d (.v (.int .i64 r0))], .c (.d (.v (.int .i64 i1)))] => some ⟨(Cg.inR ⟨b0, m0, r0⟩) /\ (-9223372036854775808 <= i1 /\ i1 < 9223372036854775808), .va (.c (.d (bo (alC (⟨b0, m0, r0⟩ : Cg) i1)))), []⟩
 | _ => none
theorem fcRsAlone : FC Tryz.prog 120 FRsAlone := by
 intro xs pre r us h hp
 unfold FRsAlone at h
 split at h
 . rename_i b0 m0 r0 i1
   cases h
   obtain ⟨hp0, hp1⟩ := hp
   refine fcat tys_ok (l := []) trivial Tryz.func120 rfl (by kernel_rfl) false ?_
   repeat' (first | exact trivial | refine ⟨?_, ?_⟩ | intro _)
   all_goals first | (with_reducible first | apply qa | apply qb | apply qc | apply qd) | (conv => whnf)
   all_goals first | grind [alC]
 . cases h
def FRsGcd : List Ar -> Option Rs
 | [.c (.d (.v (.int .i64 i0))), .c (.d (.v (.int .i64 i1)))] => some ⟨(-9223372036854775808 <= i0 /\ i0 < 9223372036854775808) /\ (-9223372036854775808 <= i1 /\ i1 < 9223372036854775808) /\ (0 <= i0 /\ 0 <= i1), .va (.c (.d (it ((Int.gcd i0 i1 : Int))))), []⟩
 | _ => none
theorem fcRsGcd : FC Tryz.prog 148 FRsGcd := by
 intro xs pre r us h hp
 unfold FRsGcd at h
 split at h
 . rename_i i0 i1
   cases h
   obtain ⟨hp0, hp1, hp2⟩ := hp
   refine fcat tys_ok (l := [(88, ⟨[], FCGcd⟩)]) ⟨fcCGcd, trivial⟩ Tryz.func148 rfl (by kernel_rfl) false ?_
   have w0 := wU_id i0 hp2.1 (by omega)
   have w1 := wU_id i1 hp2.2 (by omega)
   have hl := gcd_lt (m := i0) (n := i1) ⟨hp2.1, hp0.2⟩ ⟨hp2.2, hp1.2⟩
   repeat' (first | exact trivial | refine ⟨?_, ?_⟩ | intro _)
   all_goals first | (with_reducible first | apply qa | apply qb | apply qc | apply qd) | (conv => whnf)
   all_goals (simp only [w0, w1])
   all_goals first | omega | exact congrArg (Value.int .i64) (wI_id _ (by omega) hl)
 . cases h
def FRsLeft : List Ar -> Option Rs
 | [.agg [.d (.v (.int .i64 h0)), .d (.v (.int .u64 l0))], .c (.d (.v (.int .i64 i1)))] => some ⟨(Wd.ok ⟨h0, l0⟩) /\ (-9223372036854775808 <= i1 /\ i1 < 9223372036854775808) /\ (0 < i1), .va (.c (.d (it (Wd.val (⟨h0, l0⟩ : Wd) % i1)))), []⟩
 | _ => none
theorem fcRsLeft : FC Tryz.prog 173 FRsLeft := by
 intro xs pre r us h hp
 unfold FRsLeft at h
 split at h
 . rename_i h0 l0 i1
   cases h
   obtain ⟨hp0, hp1, hp2⟩ := hp
   refine fcat tys_ok (l := [(161, ⟨[], FDiv64⟩), (124, ⟨[], FWNeg⟩)]) ⟨fcDiv64, fcWNeg, trivial⟩ Tryz.func173 rfl (by kernel_rfl) false ?_
   have hq := hp0
   unfold Wd.ok at hq
   cases hng : decide (h0 < 0)
   all_goals repeat' (first | exact trivial | (with_reducible first | exact hp0 | exact hp1 | exact hp2 | exact hp0.1 | exact hp0.2 | exact hp1.1 | exact hp1.2 | exact hp2.1 | exact hp2.2 | exact wd_ok _ | exact (wd_ok _).1.1 | exact (wd_ok _).1.2 | exact (wd_ok _).2.1 | exact (wd_ok _).2.2 | exact (fun h : false = true => absurd h (by decide)) | exact (fun h : true = false => absurd h (by decide)) | exact (fun h => absurd (hng.symm.trans h) (by decide)) | exact hq.2.1 | exact hq.2.2 | exact (fun h => absurd h (by rw [wU_id i1 (by omega) (by omega)]; omega))) | refine ⟨?_, ?_⟩ | intro _)
   all_goals first | (with_reducible first | apply qa | apply qb | apply qc | apply qd) | (conv => whnf)
   all_goals first | ((with_reducible show _ <= Int.tmod _ _); exact (tm_r hp0 hp2 hp1).1) | ((with_reducible show Int.tmod _ _ < IntKind.wrap _ _); exact (tm_r hp0 hp2 hp1).2.2) | ((with_reducible show Int.tmod _ _ < _); exact (tm_r hp0 hp2 hp1).2.1) | ((with_reducible show _ <= Wd.lo _); exact (wd_ok _).2.1) | ((with_reducible show Wd.lo _ < _); exact (wd_ok _).2.2) | (with_reducible first | exact hp0.2.1 | exact hp0.2.2) | (have k1 : decide (h0 < 0) = false := (by with_reducible exact hng); (with_reducible show Value.int _ _ = _); exact congrArg (Value.int .i64) (lf_p hp0 hp2 hp1 k1)) | (have k1 : decide (h0 < 0) = true := (by with_reducible exact hng); (with_reducible show Value.int _ (IntKind.wrap _ (IntKind.wrap _ _)) = _); exact congrArg (Value.int .i64) (lf_n1 hp0 hp2 hp1 k1 (by with_reducible_and_instances assumption))) | (have k1 : decide (h0 < 0) = true := (by with_reducible exact hng); (with_reducible show Value.int _ _ = _); exact congrArg (Value.int .i64) (lf_n0 hp0 hp2 hp1 k1 (by with_reducible_and_instances assumption))) | ((with_reducible show False); rename IntKind.wrap _ _ = _ => h; rw [wU_id i1 (by omega) (by omega)] at h; omega) | ((with_reducible show _ <= IntKind.wrap _ _); rw [wU_id i1 (by omega) (by omega)]; omega) | ((with_reducible show IntKind.wrap _ _ < _); rw [wU_id i1 (by omega) (by omega)]; omega)
 . cases h
section
variable {op a b : Int}
theorem ex_10 (h : (op == 10) = true) : exI op a b = a + b /\ exB op = true := by obtain rfl := eq_of_beq h; exact ⟨rfl, rfl⟩
theorem ex_11 (h : (op == 11) = true) : exI op a b = a - b /\ exB op = true := by obtain rfl := eq_of_beq h; exact ⟨rfl, rfl⟩
theorem ex_7 (h : (op == 7) = true) : exI op a b = a * b /\ exB op = true := by obtain rfl := eq_of_beq h; exact ⟨rfl, rfl⟩
theorem ex_no (h : (op == 10) = false) (h1 : (op == 11) = false) (h2 : (op == 7) = false) : exI op a b = 0 /\ exB op = false := by
 unfold exI exB
 rw [h, h1, h2, if_neg (ne_of_beq_false h), if_neg (ne_of_beq_false h1), if_neg (ne_of_beq_false h2)]; exact ⟨rfl, rfl⟩
end
theorem wd_addI (A B : Int) : wd ((wd A).val + (wd B).val) = wd (A + B) := by unfold wd Wd.val; dsimp only; congr 1 <;> omega
theorem wd_sub (A B : Int) : wd ((wd A).val - (wd B).val) = wd (A - B) := by unfold wd Wd.val; dsimp only; congr 1 <;> omega
theorem wr_wd (e : Int) : (Wd.val (wd e) + 9223372036854775808) % 18446744073709551616 - 9223372036854775808 = wr e := by unfold wr wd Wd.val; dsimp only; omega
theorem wr_lo (e : Int) : IntKind.wrap .i64 (wd e).lo = wr e := by rw [wI]; unfold wr wd; dsimp only; omega
def FXTruth : List Ar -> Option Rs
 | [.c (.d (.v (.bool b0)))] => some ⟨True, .va (.c (.d (it (if b0 = true then 1 else 0)))), []⟩
 | _ => none
theorem fcXTruth : FC Tryz.prog 171 FXTruth := by
 intro xs pre r us h hp
 unfold FXTruth at h
 split at h
 . rename_i b0
   cases h
   refine fcat tys_ok (l := []) trivial Tryz.func171 rfl (by kernel_rfl) false ?_
   repeat' (first | exact trivial | refine ⟨?_, ?_⟩ | intro _)
   all_goals first | (with_reducible first | apply qa | apply qb | apply qc | apply qd) | (conv => whnf)
   all_goals first | rfl | (simp_all; done)
 . cases h
def FXExact : List Ar -> Option Rs
 | [.c (.d (.v (.int .i64 i0))), .c (.d (.v (.int .i64 i1))), .c (.d (.v (.int .i64 i2)))] => some ⟨(-9223372036854775808 <= i0 /\ i0 < 9223372036854775808) /\ (-9223372036854775808 <= i1 /\ i1 < 9223372036854775808) /\ (-9223372036854775808 <= i2 /\ i2 < 9223372036854775808), .tup [Wd.ar (wd (exI i0 i1 i2)), .c (.d (bo (exB i0)))], []⟩
 | _ => none
theorem fcXExact : FC Tryz.prog 117 FXExact := by
 intro xs pre r us h hp
 unfold FXExact at h
 split at h
 . rename_i i0 i1 i2
   cases h
   obtain ⟨hp0, hp1, hp2⟩ := hp
   refine fcat tys_ok (l := [(122, ⟨[], FWOf⟩), (137, ⟨[], FWAdd⟩), (121, ⟨[], FWSub⟩), (95, ⟨[], FWMul⟩)]) ⟨fcWOf, fcWAdd, fcWSub, fcWMul, trivial⟩ Tryz.func117 rfl (by kernel_rfl) false ?_
   repeat' (first | exact trivial | (with_reducible first | exact hp0 | exact hp1 | exact hp2 | exact hp0.1 | exact hp0.2 | exact hp1.1 | exact hp1.2 | exact hp2.1 | exact hp2.2 | exact wd_ok _ | exact (wd_ok _).1.1 | exact (wd_ok _).1.2 | exact (wd_ok _).2.1 | exact (wd_ok _).2.2) | refine ⟨?_, ?_⟩ | intro _)
   all_goals first | (with_reducible first | apply qa | apply qb | apply qc | apply qd) | (conv => whnf)
   all_goals first | exact (wd_ok _).1.1 | exact (wd_ok _).1.2 | exact (wd_ok _).2.1 | exact (wd_ok _).2.2 | (rw [(ex_10 ‹_›).1]; first | exact (congrArg (fun w : Wd => Value.int .i64 w.hi) (wd_addI i1 i2)) | exact (congrArg (fun w : Wd => Value.int .u64 w.lo) (wd_addI i1 i2)) | done) | (rw [(ex_10 (a := 0) (b := 0) ‹_›).2]; done) | (rw [(ex_11 ‹_›).1]; first | exact (congrArg (fun w : Wd => Value.int .i64 w.hi) (wd_sub i1 i2)) | exact (congrArg (fun w : Wd => Value.int .u64 w.lo) (wd_sub i1 i2)) | done) | (rw [(ex_11 (a := 0) (b := 0) ‹_›).2]; done) | (rw [(ex_7 ‹_›).1]; done) | (rw [(ex_7 (a := 0) (b := 0) ‹_›).2]; done) | (rw [(ex_no ‹_› ‹_› ‹_›).1]; first | rfl | done) | (rw [(ex_no (a := 0) (b := 0) ‹_› ‹_› ‹_›).2]; done)
 . cases h
section
variable {op a b : Int}
theorem pa_0 (ho : op = 8 \/ op = 9) (h : (b == 0) = true) : doI op a b = 0 /\ doE op b = 10 := by
 obtain rfl := eq_of_beq h; rcases ho with rfl | rfl <;> exact ⟨rfl, rfl⟩
theorem pa_e (ho : op = 8 \/ op = 9) (h : (b == 0) = false) : doE op b = 0 := by
 have h := ne_of_beq_false h
 rcases ho with rfl | rfl <;> (unfold doE; rw [if_neg (by decide), if_pos (by decide), if_neg h])
theorem pa_1 (h : (b == -1) = true) (h8 : (op == 8) = true) : doI op a b = wr (-a) := by
 obtain rfl := eq_of_beq h; obtain rfl := eq_of_beq h8; rw [doI_div (by decide), show (-1 : Int) = -(1) from rfl, Int.tdiv_neg, Int.tdiv_one]
theorem pa_2 (ho : op = 8 \/ op = 9) (h : (b == -1) = true) (h8 : (op == 8) = false) : doI op a b = 0 := by
 obtain rfl := eq_of_beq h
 rcases ho with rfl | rfl
 . cases h8
 . rw [doI_rem (by decide), show (-1 : Int) = -(1) from rfl, Int.tmod_neg, Int.tmod_one]
theorem pa_3 (h0 : (b == 0) = false) (h8 : (op == 8) = true) : doI op a b = wr (a.tdiv b) := by
 obtain rfl := eq_of_beq h8
 exact doI_div (ne_of_beq_false h0)
theorem pa_4 (ho : op = 8 \/ op = 9) (h0 : (b == 0) = false) (h8 : (op == 8) = false) : doI op a b = a.tmod b := by
 rcases ho with rfl | rfl
 . cases h8
 . rw [doI_rem (ne_of_beq_false h0)]
theorem wr_neg (a : Int) : IntKind.wrap .i64 (0 - a) = wr (-a) := by rw [wI]; unfold wr; congr 2; omega
theorem wr_w (a : Int) : IntKind.wrap .i64 a = wr a := wI a
end
def FXParts : List Ar -> Option Rs
 | [.c (.d (.v (.int .i64 i0))), .c (.d (.v (.int .i64 i1))), .c (.d (.v (.int .i64 i2)))] => some ⟨(-9223372036854775808 <= i0 /\ i0 < 9223372036854775808) /\ (-9223372036854775808 <= i1 /\ i1 < 9223372036854775808) /\ (-9223372036854775808 <= i2 /\ i2 < 9223372036854775808) /\ (i0 = 8 \/ i0 = 9), .tup [.c (.d (it (doI i0 i1 i2))), .c (.d (it (doE i0 i2)))], []⟩
 | _ => none
theorem fcXParts : FC Tryz.prog 169 FXParts := by
 intro xs pre r us h hp
 unfold FXParts at h
 split at h
 . rename_i i0 i1 i2
   cases h
   obtain ⟨hp0, hp1, hp2, hp3⟩ := hp
   refine fcat tys_ok (l := []) trivial Tryz.func169 rfl (by kernel_rfl) false ?_
   repeat' (first | exact trivial | (with_reducible first | exact hp0 | exact hp1 | exact hp2 | exact hp0.1 | exact hp0.2 | exact hp1.1 | exact hp1.2 | exact hp2.1 | exact hp2.2 | exact wd_ok _ | exact (wd_ok _).1.1 | exact (wd_ok _).1.2 | exact (wd_ok _).2.1 | exact (wd_ok _).2.2) | refine ⟨?_, ?_⟩ | intro _)
   all_goals first | (with_reducible first | apply qa | apply qb | apply qc | apply qd) | (conv => whnf)
   all_goals first | (rw [(pa_0 hp3 ‹_›).1]; done) | (rw [(pa_0 (a := 0) hp3 ‹_›).2]; done) | (rw [pa_e hp3 ‹_›]; done) | (rw [pa_1 ‹_› ‹_›]; first | exact congrArg _ (wr_neg _) | done) | (rw [pa_2 hp3 ‹_› ‹_›]; done) | (rw [pa_3 ‹_› ‹_›]; exact congrArg (Value.int .i64) (wr_w _)) | (exact absurd ‹i2 = 0› (ne_of_beq_false ‹(i2 == 0) = false›)) | (rw [pa_4 hp3 ‹_› ‹_›]; first | rfl | done)
 . cases h
def hoB (op a b : Int) : Bool := decide (12 <= op /\ op <= 17) && cmpB op a b
theorem ho_k (a b : Int) : hoB 12 a b = decide (a < b) /\ hoB 13 a b = decide (a <= b) /\ hoB 14 a b = (a == b) /\ hoB 15 a b = (a != b) /\ hoB 16 a b = (a != 0 && b != 0) /\ hoB 17 a b = (a != 0 || b != 0) := by
 unfold hoB cmpB
 refine ⟨?_, ?_, ?_, ?_, ?_, ?_⟩ <;> (rw [Bool.eq_iff_iff]; simp)
theorem ho_no {op a b : Int} (h : ¬ (12 <= op /\ op <= 17)) : hoB op a b = false := by unfold hoB; rw [decide_eq_false h]; rfl
def FXHolds : List Ar -> Option Rs
 | [.c (.d (.v (.int .i64 i0))), .c (.d (.v (.int .i64 i1))), .c (.d (.v (.int .i64 i2)))] => some ⟨(-9223372036854775808 <= i0 /\ i0 < 9223372036854775808) /\ (-9223372036854775808 <= i1 /\ i1 < 9223372036854775808) /\ (-9223372036854775808 <= i2 /\ i2 < 9223372036854775808), .tup [.c (.d (bo (hoB i0 i1 i2))), .c (.d (bo (decide (12 <= i0 /\ i0 <= 17))))], []⟩
 | _ => none
theorem fcXHolds : FC Tryz.prog 170 FXHolds := by
 intro xs pre r us h hp
 unfold FXHolds at h
 split at h
 . rename_i i0 i1 i2
   cases h
   obtain ⟨hp0, hp1, hp2⟩ := hp
   refine fcat tys_ok (l := []) trivial Tryz.func170 rfl (by kernel_rfl) false ?_
   repeat' (first | exact trivial | (with_reducible first | exact hp0 | exact hp1 | exact hp2 | exact hp0.1 | exact hp0.2 | exact hp1.1 | exact hp1.2 | exact hp2.1 | exact hp2.2 | exact wd_ok _ | exact (wd_ok _).1.1 | exact (wd_ok _).1.2 | exact (wd_ok _).2.1 | exact (wd_ok _).2.2) | refine ⟨?_, ?_⟩ | intro _)
   all_goals first | (with_reducible first | apply qa | apply qb | apply qc | apply qd) | (conv => whnf)
   refine scope_ok tys_ok (ls := []) trivial (by kernel_rfl) 0 rfl (X := Bool) (fun x => ⟨[(8, vx (.bool x))], [], 0, 47⟩) (fun _ => 0)
    (fun x => x = hoB i0 i1 i2 /\ (12 <= i0 /\ i0 <= 17)) [8] [] (fun xs _ => match xs with | [a] => bT a | _ => false) (fun _ xs _ => match xs with | [a] => bT a | _ => false) [] [] 0 0 ?_ ?_
   . repeat' (first | exact trivial | refine ⟨?_, ?_⟩ | intro _)
     all_goals first | (with_reducible first | apply qa | apply qb | apply qc | apply qd) | (conv => whnf)
     all_goals first | ((with_reducible show idsOk _ _ = true); rfl) | skip
     all_goals (try simp only [bT])
     all_goals (try simp only [beq_iff_eq, beq_eq_false_iff_ne, ne_eq] at *)
     all_goals (have hk := ho_k i1 i2)
     all_goals first | omega | rfl | (exfalso; exact absurd ‹_› ‹¬ _›) | (have e := ‹i0 = 12›; rw [e]; first | exact hk.1.symm | done) | (have e := ‹i0 = 13›; rw [e]; exact hk.2.1.symm) | (have e := ‹i0 = 14›; rw [e]; exact hk.2.2.1.symm) | (have e := ‹i0 = 15›; rw [e]; exact hk.2.2.2.1.symm) | (have e := ‹i0 = 16›; rw [e, hk.2.2.2.2.1]; (try (simp_all; done))) | (have e := ‹i0 = 17›; rw [e, hk.2.2.2.2.2]; (try (simp_all; done))) | (exact congrArg Value.bool (ho_no (by omega)).symm) | (exact congrArg Value.bool (decide_eq_false (by omega)).symm)
   . rintro x ⟨rfl, hx⟩
     repeat' (first | exact trivial | refine ⟨?_, ?_⟩ | intro _)
     all_goals first | (with_reducible first | apply qa | apply qb | apply qc | apply qd) | (conv => whnf)
     all_goals first | rfl | exact congrArg Value.bool (decide_eq_true hx).symm
 . cases h
section
variable {op a b : Int}
theorem do_x (h : exB op = true) : doI op a b = wr (exI op a b) /\ doE op b = 0 := by unfold doI doE; rw [if_pos h, if_pos h]; exact ⟨rfl, rfl⟩
theorem do_h (h : exB op = false) (h8 : (op == 8) = false) (h9 : (op == 9) = false) (hh : decide (12 <= op /\ op <= 17) = true) : doI op a b = (if hoB op a b = true then 1 else 0) /\ doE op b = 0 := by
 have hh' := of_decide_eq_true hh
 have h' : ¬ exB op = true := by rw [h]; decide
 unfold doI doE hoB
 rw [if_neg h', if_neg h', if_neg (ne_of_beq_false h8), if_neg (ne_of_beq_false h9), if_pos hh', if_neg (c := _ \/ _) (by have := ne_of_beq_false h8; have := ne_of_beq_false h9; omega), if_pos hh', hh]
 exact ⟨rfl, rfl⟩
theorem do_n (h : exB op = false) (h8 : (op == 8) = false) (h9 : (op == 9) = false) (hh : decide (12 <= op /\ op <= 17) = false) : doI op a b = 0 /\ doE op b = 2 := by
 have hh' := of_decide_eq_false hh
 have h' : ¬ exB op = true := by rw [h]; decide
 unfold doI doE
 rw [if_neg h', if_neg h', if_neg (ne_of_beq_false h8), if_neg (ne_of_beq_false h9), if_neg hh', if_neg (by have := ne_of_beq_false h8; have := ne_of_beq_false h9; omega), if_neg hh']
 exact ⟨rfl, rfl⟩
end
def FXDo : List Ar -> Option Rs
 | [.c (.d (.v (.int .i64 i0))), .c (.d (.v (.int .i64 i1))), .c (.d (.v (.int .i64 i2)))] => some ⟨(-9223372036854775808 <= i0 /\ i0 < 9223372036854775808) /\ (-9223372036854775808 <= i1 /\ i1 < 9223372036854775808) /\ (-9223372036854775808 <= i2 /\ i2 < 9223372036854775808), .tup [.c (.d (it (doI i0 i1 i2))), .c (.d (it (doE i0 i2)))], []⟩
 | _ => none
theorem fcXDo : FC Tryz.prog 146 FXDo := by
 intro xs pre r us h hp
 unfold FXDo at h
 split at h
 . rename_i i0 i1 i2
   cases h
   obtain ⟨hp0, hp1, hp2⟩ := hp
   refine fcat tys_ok (l := [(117, ⟨[], FXExact⟩), (132, ⟨[], FWLow⟩), (169, ⟨[], FXParts⟩), (170, ⟨[], FXHolds⟩), (171, ⟨[], FXTruth⟩)]) ⟨fcXExact, fcWLow, fcXParts, fcXHolds, fcXTruth, trivial⟩ Tryz.func146 rfl (by kernel_rfl) false ?_
   repeat' (first | exact trivial | (with_reducible first | exact hp0 | exact hp1 | exact hp2 | exact hp0.1 | exact hp0.2 | exact hp1.1 | exact hp1.2 | exact hp2.1 | exact hp2.2 | exact wd_ok _ | exact (wd_ok _).1.1 | exact (wd_ok _).1.2 | exact (wd_ok _).2.1 | exact (wd_ok _).2.2) | refine ⟨?_, ?_⟩ | intro _)
   all_goals first | (with_reducible first | apply qa | apply qb | apply qc | apply qd) | (conv => whnf)
   all_goals (try simp only [Bool.not_eq_true', Bool.not_eq_false'] at *)
   all_goals first | exact (wd_ok _).1.1 | exact (wd_ok _).1.2 | exact (wd_ok _).2.1 | exact (wd_ok _).2.2 | (exact .inl (eq_of_beq ‹(i0 == 8) = true›)) | (exact .inr (eq_of_beq ‹(i0 == 9) = true›)) | (rw [(do_x ‹_›).1]; first | exact congrArg (Value.int .i64) (wr_wd _) | exact congrArg (Value.int .i64) (wr_lo _) | done) | (rw [(do_x (a := 0) ‹_›).2]; done) | (rw [(do_h ‹_› ‹_› ‹_› ‹_›).1]; first | rfl | done) | (rw [(do_h (a := 0) ‹_› ‹_› ‹_› ‹_›).2]; done) | (rw [(do_n ‹_› ‹_› ‹_› ‹_›).1]; done) | (rw [(do_n (a := 0) ‹_› ‹_› ‹_› ‹_›).2]; done)
 . cases h
def stW (s : Int) (a x : Wd) : Wd := if wCmp x.val a.val = s then x else a
def bsN (s : Int) (a : Wd) (f : Nat -> List DV) : Nat -> Wd
 | 0 => a
 | k + 1 => stW s (bsN s a f k) (gW (f k))
theorem stW_t {s : Int} {a x : Wd} (h : (wCmp x.val a.val == s) = true) : stW s a x = x := by unfold stW; rw [if_pos (by simpa using h)]
theorem stW_f {s : Int} {a x : Wd} (h : (wCmp x.val a.val == s) = false) : stW s a x = a := by unfold stW; rw [if_neg (by simpa using h)]
theorem bsN_ok {s : Int} {a : Wd} {f : Nat -> List DV} (ha : a.ok) : ∀ n, (∀ i, i < n -> Wd.ok (gW (f i))) -> (bsN s a f n).ok
 | 0, _ => ha
 | n + 1, h => by
   unfold bsN stW; split
   . exact h n (Nat.lt_succ_self n)
   . exact bsN_ok ha n fun i hi => h i (Nat.lt_succ_of_lt hi)
theorem bsN_canon (s : Int) (a : Wd) (f : Nat -> List DV) : ∀ n, bsN s a (fun i => [it (gW (f i)).hi, ut (gW (f i)).lo]) n = bsN s a f n
 | 0 => rfl
 | n + 1 => by unfold bsN; rw [bsN_canon s a f n]; rfl
def valsW (n : Nat) (f : Nat -> List DV) : List Int := (List.range n).map fun i => (gW (f i)).val
theorem valsW_succ (n : Nat) (f : Nat -> List DV) : valsW (n + 1) f = valsW n f ++ [(gW (f n)).val] := by unfold valsW; rw [List.range_succ, List.map_append]; rfl
theorem bs_max (a : Wd) (f : Nat -> List DV) : ∀ n, (bsN 1 a f n).val = maxL a.val (valsW n f)
 | 0 => rfl
 | n + 1 => by
   have ih := bs_max a f n
   rw [valsW_succ]; unfold maxL; rw [List.foldl_append]
   show (stW 1 (bsN 1 a f n) (gW (f n))).val = if maxL a.val (valsW n f) < (gW (f n)).val then (gW (f n)).val else maxL a.val (valsW n f)
   rw [<- ih]; unfold stW wCmp
   (repeat' split) <;> first | rfl | omega
theorem bs_min (a : Wd) (f : Nat -> List DV) : ∀ n, (bsN (-1) a f n).val = minL a.val (valsW n f)
 | 0 => rfl
 | n + 1 => by
   have ih := bs_min a f n
   rw [valsW_succ]; unfold minL; rw [List.foldl_append]
   show (stW (-1) (bsN (-1) a f n) (gW (f n))).val = if (gW (f n)).val < minL a.val (valsW n f) then (gW (f n)).val else minL a.val (valsW n f)
   rw [<- ih]; unfold stW wCmp
   (repeat' split) <;> first | rfl | omega
def FWBestN : List Ar -> Option Rs
 | [.agg [.d (.v (.int .i64 h0)), .d (.v (.int .u64 l0))], .c (.d (.v (.int .i64 i1))), .c (.d (.lst 2 n2 f2))] => some ⟨(Wd.ok ⟨h0, l0⟩) /\ (-9223372036854775808 <= i1 /\ i1 < 9223372036854775808) /\ ((n2 <= 1000000 /\ ∀ i, i < n2 -> f2 i = [it (gW (f2 i)).hi, ut (gW (f2 i)).lo] /\ Wd.ok (gW (f2 i)))), .va (Wd.ar (bsN i1 (⟨h0, l0⟩ : Wd) f2 n2)), []⟩
 | _ => none
theorem fcWBestN : FC Tryz.prog 157 FWBestN := by
 intro xs pre r us h hp
 unfold FWBestN at h
 split at h
 . rename_i h0 l0 i1 n2 f2
   cases h
   obtain ⟨hp0, hp1, hp2⟩ := hp
   refine FCat.of_eq (as' := [.agg [.d (.v (.int .i64 h0)), .d (.v (.int .u64 l0))], .c (.d (.v (.int .i64 i1))), .c (.d (.lst 2 n2 fun i => [it (gW (f2 i)).hi, ut (gW (f2 i)).lo]))]) ?_ rfl rfl ?_
   . repeat' (first | exact trivial | exact rfl | refine ⟨?_, ?_⟩ | fail)
     all_goals first | (intro i hi; exact (hp2.2 i hi).1) | exact hp0.2 | exact hp1.2 | exact hp2.2 | (intro i hi; exact (hp0.2 i hi).1) | (intro i hi; exact (hp1.2 i hi).1) | (intro i hi; exact (hp2.2 i hi).1) | grind
   refine fcat tys_ok (l := [(177, ⟨[], FWCmp⟩)]) ⟨fcWCmp, trivial⟩ Tryz.func157 rfl (by kernel_rfl) true ?_
   repeat' (first | exact trivial | refine ⟨?_, ?_⟩ | intro _)
   all_goals first | (with_reducible first | apply qa | apply qb | apply qc | apply qd) | (conv => whnf)
   refine loop_ok tys_ok (l := [(177, ⟨[], FWCmp⟩)]) ⟨fcWCmp, trivial⟩ (by kernel_rfl) (X := Nat)
    (fun x => ⟨[(11, vx (.int .i64 x)), (10, vx (.int .i64 n2)), (9, .va (.c (.d (.lst 2 n2 fun i => [it (gW (f2 i)).hi, ut (gW (f2 i)).lo])))), (1, vx (.int .i64 i1)), (3, .va (.c (.own 0 0))), (6, .va (.c (.own 1 0)))], [(0, .cells [.d (it (bsN i1 ⟨h0, l0⟩ f2 x).hi), .d (ut (bsN i1 ⟨h0, l0⟩ f2 x).lo)]), (1, .cells [.d (it 0), .d (ut 0)])], 2, 23⟩)
    (fun x => n2 - x) (fun x => x <= n2) [] [] (fun x _ _ => x + 1) [0, 1] [0, 1] 0 0 0 (Nat.zero_le _) ?_ ?_
   . repeat' (first | exact trivial | exact rfl | (intro _ h; exact absurd h (Nat.not_lt_zero _)) | (intro _ _; exact rfl) | refine ⟨?_, ?_⟩ | fail)
     all_goals first | rfl
   . intro i k1
     have f0 : Wd.ok (bsN i1 ⟨h0, l0⟩ f2 i) := bsN_ok hp0 i fun j hj => (hp2.2 j (by omega)).2
     rcases Nat.lt_or_ge i n2 with hi | hi
     . have hne : decide ((i : Int) < (n2 : Int)) = true := decide_eq_true (by omega)
       repeat' (first | exact trivial | (with_reducible first | exact hp2.1 | exact f0 | exact (hp2.2 i hi).2 | exact (fun h => absurd (hne.symm.trans h) (by decide))) | refine ⟨?_, ?_⟩ | intro _)
       all_goals first | (with_reducible first | apply qa | apply qb | apply qc | apply qd) | (conv => whnf)
       all_goals (try simp only [Int.toNat_natCast] at *)
       all_goals first | omega | rfl | decide | (exact hp0.1.1) | (exact hp0.1.2) | (exact hp0.2.1) | (exact hp0.2.2) | exact f0.1.1 | exact f0.1.2 | exact f0.2.1 | exact f0.2.2 | (exact ((hp2.2 i hi).2).1.1) | (exact ((hp2.2 i hi).2).1.2) | (exact ((hp2.2 i hi).2).2.1) | (exact ((hp2.2 i hi).2).2.2) | (exact congrArg (fun w : Wd => Value.int .i64 w.hi) (stW_t ‹(_ == i1) = true›).symm) | (exact congrArg (fun w : Wd => Value.int .u64 w.lo) (stW_t ‹(_ == i1) = true›).symm) | (exact congrArg (fun w : Wd => Value.int .i64 w.hi) (stW_f ‹(_ == i1) = false›).symm) | (exact congrArg (fun w : Wd => Value.int .u64 w.lo) (stW_f ‹(_ == i1) = false›).symm) | (exact congrArg (Value.int .i64) (by first | (rw [wI_id _ (by omega) (by omega)]; omega) | omega | (dsimp only; omega)))
     . have hne : decide ((i : Int) < (n2 : Int)) = false := decide_eq_false (by omega)
       obtain rfl : i = n2 := by omega
       repeat' (first | exact trivial | (with_reducible exact (fun h => absurd (hne.symm.trans h) (by decide))) | refine ⟨?_, ?_⟩ | intro _)
       all_goals first | (with_reducible first | apply qa | apply qb | apply qc | apply qd) | (conv => whnf)
       all_goals (try simp only [Int.toNat_natCast] at *)
       all_goals first | omega | rfl | decide | (exact hp0.1.1) | (exact hp0.1.2) | (exact hp0.2.1) | (exact hp0.2.2) | exact f0.1.1 | exact f0.1.2 | exact f0.2.1 | exact f0.2.2 | (exact congrArg (fun w : Wd => Value.int .i64 w.hi) (stW_t ‹(_ == i1) = true›).symm) | (exact congrArg (fun w : Wd => Value.int .u64 w.lo) (stW_t ‹(_ == i1) = true›).symm) | (exact congrArg (fun w : Wd => Value.int .i64 w.hi) (stW_f ‹(_ == i1) = false›).symm) | (exact congrArg (fun w : Wd => Value.int .u64 w.lo) (stW_f ‹(_ == i1) = false›).symm) | (exact congrArg (Value.int .i64) (by first | (rw [wI_id _ (by omega) (by omega)]; omega) | omega | (dsimp only; omega)))
 . cases h
def FWMaxN : List Ar -> Option Rs
 | [.agg [.d (.v (.int .i64 h0)), .d (.v (.int .u64 l0))], .c (.d (.lst 2 n1 f1))] => some ⟨(Wd.ok ⟨h0, l0⟩) /\ ((n1 <= 1000000 /\ ∀ i, i < n1 -> f1 i = [it (gW (f1 i)).hi, ut (gW (f1 i)).lo] /\ Wd.ok (gW (f1 i)))), .va (Wd.ar (bsN 1 (⟨h0, l0⟩ : Wd) f1 n1)), []⟩
 | _ => none
theorem fcWMaxN : FC Tryz.prog 123 FWMaxN := by
 intro xs pre r us h hp
 unfold FWMaxN at h
 split at h
 . rename_i h0 l0 n1 f1
   cases h
   obtain ⟨hp0, hp1⟩ := hp
   refine FCat.of_eq (as' := [.agg [.d (.v (.int .i64 h0)), .d (.v (.int .u64 l0))], .c (.d (.lst 2 n1 fun i => [it (gW (f1 i)).hi, ut (gW (f1 i)).lo]))]) ?_ rfl rfl ?_
   . repeat' (first | exact trivial | exact rfl | refine ⟨?_, ?_⟩ | fail)
     all_goals first | (intro i hi; exact (hp1.2 i hi).1) | exact hp0.2 | exact hp1.2 | exact hp2.2 | (intro i hi; exact (hp0.2 i hi).1) | (intro i hi; exact (hp1.2 i hi).1) | (intro i hi; exact (hp2.2 i hi).1) | grind
   refine fcat tys_ok (l := [(157, ⟨[], FWBestN⟩)]) ⟨fcWBestN, trivial⟩ Tryz.func123 rfl (by kernel_rfl) true ?_
   repeat' (first | exact trivial | refine ⟨?_, ?_⟩ | intro _)
   all_goals first | (with_reducible first | apply qa | apply qb | apply qc | apply qd) | (conv => whnf)
   all_goals (try simp only [bsN_canon])
   all_goals first | rfl | decide | exact hp0 | exact hp0.1.1 | exact hp0.1.2 | exact hp0.2.1 | exact hp0.2.2 | exact hp1.1 | exact (hp1.2 _ ‹_›).2.1.1 | exact (hp1.2 _ ‹_›).2.1.2 | exact (hp1.2 _ ‹_›).2.2.1 | exact (hp1.2 _ ‹_›).2.2.2
 . cases h
def FWMinN : List Ar -> Option Rs
 | [.agg [.d (.v (.int .i64 h0)), .d (.v (.int .u64 l0))], .c (.d (.lst 2 n1 f1))] => some ⟨(Wd.ok ⟨h0, l0⟩) /\ ((n1 <= 1000000 /\ ∀ i, i < n1 -> f1 i = [it (gW (f1 i)).hi, ut (gW (f1 i)).lo] /\ Wd.ok (gW (f1 i)))), .va (Wd.ar (bsN (-1) (⟨h0, l0⟩ : Wd) f1 n1)), []⟩
 | _ => none
theorem fcWMinN : FC Tryz.prog 164 FWMinN := by
 intro xs pre r us h hp
 unfold FWMinN at h
 split at h
 . rename_i h0 l0 n1 f1
   cases h
   obtain ⟨hp0, hp1⟩ := hp
   refine FCat.of_eq (as' := [.agg [.d (.v (.int .i64 h0)), .d (.v (.int .u64 l0))], .c (.d (.lst 2 n1 fun i => [it (gW (f1 i)).hi, ut (gW (f1 i)).lo]))]) ?_ rfl rfl ?_
   . repeat' (first | exact trivial | exact rfl | refine ⟨?_, ?_⟩ | fail)
     all_goals first | (intro i hi; exact (hp1.2 i hi).1) | exact hp0.2 | exact hp1.2 | exact hp2.2 | (intro i hi; exact (hp0.2 i hi).1) | (intro i hi; exact (hp1.2 i hi).1) | (intro i hi; exact (hp2.2 i hi).1) | grind
   refine fcat tys_ok (l := [(157, ⟨[], FWBestN⟩)]) ⟨fcWBestN, trivial⟩ Tryz.func164 rfl (by kernel_rfl) true ?_
   repeat' (first | exact trivial | refine ⟨?_, ?_⟩ | intro _)
   all_goals first | (with_reducible first | apply qa | apply qb | apply qc | apply qd) | (conv => whnf)
   all_goals (try simp only [bsN_canon])
   all_goals first | rfl | decide | exact hp0 | exact hp0.1.1 | exact hp0.1.2 | exact hp0.2.1 | exact hp0.2.2 | exact hp1.1 | exact (hp1.2 _ ‹_›).2.1.1 | exact (hp1.2 _ ‹_›).2.1.2 | exact (hp1.2 _ ‹_›).2.2.1 | exact (hp1.2 _ ‹_›).2.2.2
 . cases h
theorem rw_top {d : Int} (h0 : 0 <= d) (h1 : d < 170141183460469231731687303715884105728) : ((wd d).hi != 0) = decide (d ≥ 18446744073709551616) := by
 unfold wd; rw [Bool.eq_iff_iff]; simp; omega
theorem cmp_no {a b : Int} (h : a <= b) (h2 : decide (wCmp a b > 0) = true) : False := by
 have := of_decide_eq_true h2
 unfold wCmp at this; (repeat' split at this) <;> omega
section
variable {l h : Int} (hb : l ≤ h) (ht : h - l < 170141183460469231731687303715884105728)
include hb ht
theorem wr_1 (k : ((wd (h - l)).hi != 0) = true) : wrapI l h = allS := by
 rw [rw_top (by omega) ht] at k; have := of_decide_eq_true k; unfold wrapI; rw [if_pos (by omega)]
theorem wr_2 (k : ((wd (h - l)).hi != 0) = false) (k2 : decide (wr l > wr h) = true) : wrapI l h = allS := by
 rw [rw_top (by omega) ht] at k; have := of_decide_eq_false k; unfold wrapI; rw [if_neg (by omega), if_pos (of_decide_eq_true k2)]
theorem wr_3 (k : ((wd (h - l)).hi != 0) = false) (k2 : decide (wr l > wr h) = false) : wrapI l h = Sp.of (wr l) (wr h) := by
 rw [rw_top (by omega) ht] at k; have := of_decide_eq_false k; unfold wrapI; rw [if_neg (by omega), if_neg (of_decide_eq_false k2)]
end
theorem wr_low (w : Wd) : (w.val + 9223372036854775808) % 18446744073709551616 - 9223372036854775808 = wr w.val := rfl
def FReWrap : List Ar -> Option Rs
 | [.agg [.d (.v (.int .i64 h0)), .d (.v (.int .u64 l0))], .agg [.d (.v (.int .i64 h1)), .d (.v (.int .u64 l1))]] => some ⟨(Wd.ok ⟨h0, l0⟩) /\ (Wd.ok ⟨h1, l1⟩) /\ (Wd.val (⟨h0, l0⟩ : Wd) <= Wd.val (⟨h1, l1⟩ : Wd) /\ Wd.val (⟨h1, l1⟩ : Wd) - Wd.val (⟨h0, l0⟩ : Wd) < 170141183460469231731687303715884105728), .va (Sp.ar (wrapI (Wd.val (⟨h0, l0⟩ : Wd)) (Wd.val (⟨h1, l1⟩ : Wd)))), []⟩
 | _ => none
theorem fcReWrap : FC Tryz.prog 163 FReWrap := by
 intro xs pre r us h hp
 unfold FReWrap at h
 split at h
 . rename_i h0 l0 h1 l1
   cases h
   obtain ⟨hp0, hp1, hp2⟩ := hp
   refine fcat tys_ok (l := [(121, ⟨[], FWSub⟩), (177, ⟨[], FWCmp⟩), (132, ⟨[], FWLow⟩), (190, ⟨[], FSAll⟩), (85, ⟨[], FSOf⟩)]) ⟨fcWSub, fcWCmp, fcWLow, fcSAll, fcSOf, trivial⟩ Tryz.func163 rfl (by kernel_rfl) false ?_
   repeat' (first | exact trivial | (with_reducible first | exact hp0 | exact hp1 | exact hp2 | exact hp0.1 | exact hp0.2 | exact hp1.1 | exact hp1.2 | exact hp2.1 | exact hp2.2 | exact wd_ok _ | exact (wd_ok _).1.1 | exact (wd_ok _).1.2 | exact (wd_ok _).2.1 | exact (wd_ok _).2.2 | exact wr_r _ | exact (wr_r _).1 | exact (wr_r _).2) | refine ⟨?_, ?_⟩ | intro _)
   all_goals first | (with_reducible first | apply qa | apply qb | apply qc | apply qd) | (conv => whnf)
   all_goals (try simp only [wr_low] at *)
   all_goals first | exact (cmp_no hp2.1 ‹_›).elim | exact (wr_r _).1 | exact (wr_r _).2 | (have e := wr_1 hp2.1 hp2.2 ‹_›; first | exact congrArg (fun i : Sp => Value.bool i.some) e.symm | exact congrArg (fun i : Sp => Value.int .i64 i.lo) e.symm | exact congrArg (fun i : Sp => Value.int .i64 i.hi) e.symm | fail) | (have e := wr_2 hp2.1 hp2.2 ‹_› ‹_›; first | exact congrArg (fun i : Sp => Value.bool i.some) e.symm | exact congrArg (fun i : Sp => Value.int .i64 i.lo) e.symm | exact congrArg (fun i : Sp => Value.int .i64 i.hi) e.symm | fail) | (have e := wr_3 hp2.1 hp2.2 ‹_› ‹_›; first | exact congrArg (fun i : Sp => Value.bool i.some) e.symm | exact congrArg (fun i : Sp => Value.int .i64 i.lo) e.symm | exact congrArg (fun i : Sp => Value.int .i64 i.hi) e.symm | fail)
 . cases h
theorem foldl_mem {f : Int -> Int -> Int} (hf : ∀ a b, f a b = a \/ f a b = b) : ∀ (l : List Int) (a : Int), l.foldl f a = a \/ l.foldl f a ∈ l
 | [], a => .inl rfl
 | b :: l, a => by
   have ih := foldl_mem hf l (f a b)
   rw [List.foldl_cons]
   rcases ih with h | h
   . rcases hf a b with h2 | h2
     . left; rw [h, h2]
     . right; rw [h, h2]; exact List.mem_cons_self
   . right; exact List.mem_cons_of_mem _ h
theorem minL_mem (a : Int) (l : List Int) : minL a l = a \/ minL a l ∈ l := foldl_mem (fun a b => by split <;> simp) l a
theorem maxL_mem (a : Int) (l : List Int) : maxL a l = a \/ maxL a l ∈ l := foldl_mem (fun a b => by split <;> simp) l a
theorem valsW_mem {n : Nat} {f : Nat -> List DV} {x : Int} (h : x ∈ valsW n f) : ∃ i, i < n /\ x = (gW (f i)).val := by
 unfold valsW at h
 obtain ⟨i, hi, rfl⟩ := List.mem_map.1 h
 exact ⟨i, List.mem_range.1 hi, rfl⟩
theorem valsW_0 {n : Nat} {f : Nat -> List DV} (h : 0 < n) : ∃ l, valsW n f = (gW (f 0)).val :: l := by
 cases n with
 | zero => omega
 | succ n => unfold valsW; rw [List.range_succ_eq_map]; exact ⟨_, rfl⟩
theorem ar_key {n : Nat} {f : Nat -> List DV} (h : 0 < n) (hr : ∀ i, i < n -> -85070591730234615865843651857942052864 < (gW (f i)).val /\ (gW (f i)).val <= 85070591730234615865843651857942052864) : around (valsW n f) = wrapI (bsN (-1) (gW (f 0)) f n).val (bsN 1 (gW (f 0)) f n).val /\ (bsN (-1) (gW (f 0)) f n).val <= (bsN 1 (gW (f 0)) f n).val /\ (bsN 1 (gW (f 0)) f n).val - (bsN (-1) (gW (f 0)) f n).val < 170141183460469231731687303715884105728 := by
 rw [bs_min, bs_max]
 obtain ⟨l, hl⟩ := valsW_0 (f := f) h
 refine ⟨by rw [hl]; rfl, Int.le_trans (minL_le _ _).1 (le_maxL _ _).1, ?_⟩
 have b1 : -85070591730234615865843651857942052864 < minL (gW (f 0)).val (valsW n f) := by
  rcases minL_mem (gW (f 0)).val (valsW n f) with e | e
  . rw [e]; exact (hr 0 h).1
  . obtain ⟨i, hi, e⟩ := valsW_mem e; rw [e]; exact (hr i hi).1
 have b2 : maxL (gW (f 0)).val (valsW n f) <= 85070591730234615865843651857942052864 := by
  rcases maxL_mem (gW (f 0)).val (valsW n f) with e | e
  . rw [e]; exact (hr 0 h).2
  . obtain ⟨i, hi, e⟩ := valsW_mem e; rw [e]; exact (hr i hi).2
 generalize minL (gW (f 0)).val (valsW n f) = a at *
 generalize maxL (gW (f 0)).val (valsW n f) = b at *
 omega
def FReAround : List Ar -> Option Rs
 | [.c (.d (.lst 2 n0 f0))] => some ⟨((n0 <= 1000000 /\ ∀ i, i < n0 -> f0 i = [it (gW (f0 i)).hi, ut (gW (f0 i)).lo] /\ Wd.ok (gW (f0 i)))) /\ (∀ i, i < n0 -> -85070591730234615865843651857942052864 < (gW (f0 i)).val /\ (gW (f0 i)).val <= 85070591730234615865843651857942052864), .va (Sp.ar (around (valsW n0 f0))), []⟩
 | _ => none
theorem fcReAround : FC Tryz.prog 141 FReAround := by
 intro xs pre r us h hp
 unfold FReAround at h
 split at h
 . rename_i n0 f0
   cases h
   obtain ⟨hp0, hp1⟩ := hp
   refine FCat.of_eq (as' := [.c (.d (.lst 2 n0 fun i => [it (gW (f0 i)).hi, ut (gW (f0 i)).lo]))]) ?_ rfl rfl ?_
   . repeat' (first | exact trivial | exact rfl | refine ⟨?_, ?_⟩ | fail)
     all_goals first | (intro i hi; exact (hp0.2 i hi).1) | exact hp0.2 | exact hp1.2 | exact hp2.2 | (intro i hi; exact (hp0.2 i hi).1) | (intro i hi; exact (hp1.2 i hi).1) | (intro i hi; exact (hp2.2 i hi).1) | grind
   refine fcat tys_ok (l := [(164, ⟨[], FWMinN⟩), (123, ⟨[], FWMaxN⟩), (163, ⟨[], FReWrap⟩)]) ⟨fcWMinN, fcWMaxN, fcReWrap, trivial⟩ Tryz.func141 rfl (by kernel_rfl) true ?_
   rcases Nat.eq_zero_or_pos n0 with rfl | hn
   . have hne : (((0 : Nat) : Int) == 0) = true := rfl
     repeat' (first | exact trivial | (with_reducible exact (fun h => absurd (hne.symm.trans h) (by decide))) | refine ⟨?_, ?_⟩ | intro _)
     all_goals first | (with_reducible first | apply qa | apply qb | apply qc | apply qd) | (conv => whnf)
     all_goals first | rfl
   . have hne : ((n0 : Int) == 0) = false := beq_eq_false_iff_ne.2 (by omega)
     have hk := ar_key hn hp1
     have h1 := bsN_ok (s := 1) (hp0.2 0 hn).2 n0 fun i hi => (hp0.2 i hi).2
     have h2 := bsN_ok (s := -1) (hp0.2 0 hn).2 n0 fun i hi => (hp0.2 i hi).2
     have h3 := (hp0.2 0 hn).2
     repeat' (first | exact trivial | (with_reducible first | exact (fun h => absurd (hne.symm.trans h) (by decide)) | exact hp0.1) | refine ⟨?_, ?_⟩ | intro _)
     all_goals first | (with_reducible first | apply qa | apply qb | apply qc | apply qd) | (conv => whnf)
     all_goals (try simp only [bsN_canon, Int.toNat_zero] at *)
     all_goals first | exact Nat.le_refl _ | rfl | omega | exact h1.1.1 | exact h1.1.2 | exact h1.2.1 | exact h1.2.2 | exact h2.1.1 | exact h2.1.2 | exact h2.2.1 | exact h2.2.2 | exact h3.1.1 | exact h3.1.2 | exact h3.2.1 | exact h3.2.2 | exact hp0.1 | exact (hp0.2 _ ‹_›).2.1.1 | exact (hp0.2 _ ‹_›).2.1.2 | exact (hp0.2 _ ‹_›).2.2.1 | exact (hp0.2 _ ‹_›).2.2.2 | exact hk.2.1 | exact hk.2.2 | (have e := hk.1; first | exact congrArg (fun i : Sp => Value.bool i.some) e.symm | exact congrArg (fun i : Sp => Value.int .i64 i.lo) e.symm | exact congrArg (fun i : Sp => Value.int .i64 i.hi) e.symm | fail)
 . cases h
def FReDo1 : List Ar -> Option Rs
 | [.c (.d (.v (.int .i64 i0))), .c (.d (.v (.int .i64 i1))), .rp [.v (.int .i64 i2)]] => some ⟨(-9223372036854775808 <= i0 /\ i0 < 9223372036854775808) /\ (-9223372036854775808 <= i1 /\ i1 < 9223372036854775808) /\ (-9223372036854775808 <= i2 /\ i2 < 9223372036854775808), .va (Wd.ar (wd (exI i2 i0 i1))), []⟩
 | _ => none
theorem fcReDo1 : FC Tryz.prog 140 FReDo1 := by
 intro xs pre r us h hp
 unfold FReDo1 at h
 split at h
 . rename_i i0 i1 i2
   cases h
   obtain ⟨hp0, hp1, hp2⟩ := hp
   refine fcat tys_ok (l := [(117, ⟨[], FXExact⟩)]) ⟨fcXExact, trivial⟩ Tryz.func140 rfl (by kernel_rfl) false ?_
   repeat' (first | exact trivial | (with_reducible first | exact hp0 | exact hp1 | exact hp2 | exact hp0.1 | exact hp0.2 | exact hp1.1 | exact hp1.2 | exact hp2.1 | exact hp2.2 | exact wd_ok _ | exact (wd_ok _).1.1 | exact (wd_ok _).1.2 | exact (wd_ok _).2.1 | exact (wd_ok _).2.2) | refine ⟨?_, ?_⟩ | intro _)
   all_goals first | (with_reducible first | apply qa | apply qb | apply qc | apply qd) | (conv => whnf)
   all_goals first | exact (wd_ok _).1.1 | exact (wd_ok _).1.2 | exact (wd_ok _).2.1 | exact (wd_ok _).2.2 | rfl
 . cases h
theorem quo_m {x y : Int} (h : (y == -1) = true) : wd (0 - (wd x).val) = wd (x.tdiv y) := by
 obtain rfl := eq_of_beq h
 rw [show (-1 : Int) = -(1) from rfl, Int.tdiv_neg, Int.tdiv_one]; unfold wd Wd.val; dsimp only; congr 1 <;> omega
theorem quo_d {x y : Int} (hx : -9223372036854775808 <= x /\ x < 9223372036854775808) (hy : -9223372036854775808 <= y /\ y < 9223372036854775808) (h0 : y ≠ 0) (h : (y == -1) = false) : IntKind.wrap .i64 (x.tdiv y) = x.tdiv y := by
 have := quo_rng hx hy h0 (fun q => ne_of_beq_false h q.2)
 exact wI_id _ this.1 this.2
def FReQuo : List Ar -> Option Rs
 | [.c (.d (.v (.int .i64 i0))), .c (.d (.v (.int .i64 i1)))] => some ⟨(-9223372036854775808 <= i0 /\ i0 < 9223372036854775808) /\ (-9223372036854775808 <= i1 /\ i1 < 9223372036854775808) /\ (i1 ≠ 0), .va (Wd.ar (wd (i0.tdiv i1))), []⟩
 | _ => none
theorem fcReQuo : FC Tryz.prog 166 FReQuo := by
 intro xs pre r us h hp
 unfold FReQuo at h
 split at h
 . rename_i i0 i1
   cases h
   obtain ⟨hp0, hp1, hp2⟩ := hp
   refine fcat tys_ok (l := [(122, ⟨[], FWOf⟩), (124, ⟨[], FWNeg⟩)]) ⟨fcWOf, fcWNeg, trivial⟩ Tryz.func166 rfl (by kernel_rfl) false ?_
   repeat' (first | exact trivial | (with_reducible first | exact hp0 | exact hp1 | exact hp2 | exact hp0.1 | exact hp0.2 | exact hp1.1 | exact hp1.2 | exact hp2.1 | exact hp2.2 | exact wd_ok _ | exact (wd_ok _).1.1 | exact (wd_ok _).1.2 | exact (wd_ok _).2.1 | exact (wd_ok _).2.2) | refine ⟨?_, ?_⟩ | intro _)
   all_goals first | (with_reducible first | apply qa | apply qb | apply qc | apply qd) | (conv => whnf)
   all_goals first | exact (wd_ok _).1.1 | exact (wd_ok _).1.2 | exact (wd_ok _).2.1 | exact (wd_ok _).2.2 | (exact (hp2 ‹_›).elim) | exact (congrArg (fun w : Wd => Value.int .i64 w.hi) (quo_m ‹_›)) | exact (congrArg (fun w : Wd => Value.int .u64 w.lo) (quo_m ‹_›)) | (rw [quo_d hp0 hp1 hp2 ‹_›]; first | rfl | done) | (have := quo_rng hp0 hp1 hp2 (fun q => ne_of_beq_false ‹(i1 == -1) = false› q.2); first | (rw [quo_d hp0 hp1 hp2 ‹_›]; omega) | done)
 . cases h
def rwW (W : List Int) (i : Nat) : List DV := [it (wd (W.getD i 0)).hi, ut (wd (W.getD i 0)).lo]
abbrev gEx (op : Int) : List Cv -> Option Gs := mkFv (sums [(140, ⟨[], FReDo1⟩)]) 140 [.rp [.v (.int .i64 op)]]
abbrev gQu : List Cv -> Option Gs := mkFv (sums [(166, ⟨[], FReQuo⟩)]) 166 []
def crn (f : Int -> Int -> Int) (a b : Sp) : List Int := [f a.lo b.lo, f a.lo b.hi, f a.hi b.lo, f a.hi b.hi]
theorem crn_row {f : Int -> Int -> Int} {a b : Sp} {i : Nat} (h : i < 4) : Sx.rowAt 2 [it (wd (f a.lo b.lo)).hi, ut (wd (f a.lo b.lo)).lo, it (wd (f a.lo b.hi)).hi, ut (wd (f a.lo b.hi)).lo, it (wd (f a.hi b.lo)).hi, ut (wd (f a.hi b.lo)).lo, it (wd (f a.hi b.hi)).hi, ut (wd (f a.hi b.hi)).lo] (0 + i) = rwW (crn f a b) i := by
 have : i = 0 \/ i = 1 \/ i = 2 \/ i = 3 := by omega
 rcases this with rfl | rfl | rfl | rfl <;> rfl
def FReCornE (op : Int) : List Ar -> Option Rs
 | [.agg [.d (.v (.bool s0)), .d (.v (.int .i64 l0)), .d (.v (.int .i64 h0))], .agg [.d (.v (.bool s1)), .d (.v (.int .i64 l1)), .d (.v (.int .i64 h1))], .fv g2] => some ⟨(Sp.inR ⟨s0, l0, h0⟩) /\ (Sp.inR ⟨s1, l1, h1⟩) /\ (g2 = gEx op /\ (-9223372036854775808 <= op /\ op < 9223372036854775808)), .va (.c (.d (.lst 2 4 (rwW (crn (exI op) (⟨s0, l0, h0⟩ : Sp) (⟨s1, l1, h1⟩ : Sp)))))), []⟩
 | _ => none
theorem fcReCornE (op : Int) : FC Tryz.prog 142 (FReCornE op) := by
 intro xs pre r us h hp
 unfold FReCornE at h
 split at h
 . rename_i s0 l0 h0 s1 l1 h1 g2
   cases h
   obtain ⟨hp0, hp1, hp2⟩ := hp
   refine fcat tys_ok (l := [(140, ⟨[], FReDo1⟩)]) ⟨fcReDo1, trivial⟩ Tryz.func142 rfl (by kernel_rfl) true ?_
   obtain ⟨rfl, hop⟩ := hp2
   unfold Sp.inR at hp0 hp1
   have r1 := And.intro hp0.1 (And.intro hp1.1 hop)
   have r2 := And.intro hp0.1 (And.intro hp1.2 hop)
   have r3 := And.intro hp0.2 (And.intro hp1.1 hop)
   have r4 := And.intro hp0.2 (And.intro hp1.2 hop)
   repeat' (first | exact trivial | (with_reducible first | exact r1 | exact r2 | exact r3 | exact r4) | refine ⟨?_, ?_⟩ | intro _)
   all_goals first | (with_reducible first | apply qa | apply qb | apply qc | apply qd) | (conv => whnf)
   all_goals first | exact crn_row (a := ⟨s0, l0, h0⟩) (b := ⟨s1, l1, h1⟩) ‹_› | exact Nat.le_refl _
 . cases h
def FReCornQ : List Ar -> Option Rs
 | [.agg [.d (.v (.bool s0)), .d (.v (.int .i64 l0)), .d (.v (.int .i64 h0))], .agg [.d (.v (.bool s1)), .d (.v (.int .i64 l1)), .d (.v (.int .i64 h1))], .fv g2] => some ⟨(Sp.inR ⟨s0, l0, h0⟩) /\ (Sp.inR ⟨s1, l1, h1⟩) /\ (g2 = gQu /\ l1 ≠ 0 /\ h1 ≠ 0), .va (.c (.d (.lst 2 4 (rwW (crn Int.tdiv (⟨s0, l0, h0⟩ : Sp) (⟨s1, l1, h1⟩ : Sp)))))), []⟩
 | _ => none
theorem fcReCornQ : FC Tryz.prog 142 FReCornQ := by
 intro xs pre r us h hp
 unfold FReCornQ at h
 split at h
 . rename_i s0 l0 h0 s1 l1 h1 g2
   cases h
   obtain ⟨hp0, hp1, hp2⟩ := hp
   refine fcat tys_ok (l := [(166, ⟨[], FReQuo⟩)]) ⟨fcReQuo, trivial⟩ Tryz.func142 rfl (by kernel_rfl) true ?_
   obtain ⟨rfl, hz1, hz2⟩ := hp2
   unfold Sp.inR at hp0 hp1
   have r1 := And.intro hp0.1 (And.intro hp1.1 hz1)
   have r2 := And.intro hp0.1 (And.intro hp1.2 hz2)
   have r3 := And.intro hp0.2 (And.intro hp1.1 hz1)
   have r4 := And.intro hp0.2 (And.intro hp1.2 hz2)
   repeat' (first | exact trivial | (with_reducible first | exact r1 | exact r2 | exact r3 | exact r4) | refine ⟨?_, ?_⟩ | intro _)
   all_goals first | (with_reducible first | apply qa | apply qb | apply qc | apply qd) | (conv => whnf)
   all_goals first | exact crn_row (f := Int.tdiv) (a := ⟨s0, l0, h0⟩) (b := ⟨s1, l1, h1⟩) ‹_› | exact Nat.le_refl _
 . cases h
end Go.Proofs.YtehpbhpmkhlldaaGreat
namespace Go.Sx
section
variable {P : Program} {τ : Tys}
def thenJ (K : St -> Prop) (Q : Exit -> St -> Prop) : Exit -> St -> Prop
 | .normal, st => K st
 | .exit id, st => Q (.exit id) st
 | .goto l, st => Q (.goto l) st
 | .ret, st => Q .ret st
 | _, _ => False
variable {base : Nat} {x y z : Code} {st : St} {Q : Exit → St → Prop}
variable {t : TT} {l : List (Nat × Sm)}
end
def unrN (P : Program) (τ : Tys) (Γ : Sums) (calls : Nat -> List Va -> St -> (Tm -> St -> Prop) -> Prop) (base : Nat) (c : Code) (Q : Exit -> St -> Prop) : Nat -> St -> Prop
 | 0, _ => False
 | n + 1, st => vc P τ Γ calls base c st fun e st' => match e with
   | .normal => unrN P τ Γ calls base c Q n st'
   | .exit i => Q (.exit i) st'
   | .goto i => Q (.goto i) st'
   | .ret => Q .ret st'
   | _ => False
theorem loop_n {P : Program} {t : TT} (ht : t.ok P) {l : List (Nat × Sm)} (hl : sumsOk P l) (hmix : P.follows .mixedOrders = true) {base : Nat} {c : Code} {Q : Exit -> St -> Prop} {st : St} (n : Nat)
 (h : unrN P t.get (sums l) (vcCall P (sums l) base) base c Q n st) : ASat P base (.loop c) st Q := by
 refine ⟨fun ψ S w a hr => ?_⟩
 refine wp_loop_by (P := P) (fun k a' w' => ∃ st ψ' S', unrN P t.get (sums l) (vcCall P (sums l) base) base c Q k st /\ Rel P base ψ' S' w' st a' /\ Ext base ψ S w ψ' S' w') ?_ ⟨st, ψ, S, h, hr, Ext.refl _ _ _ _⟩
 rintro k a1 w1 ⟨st1, ψ1, S1, hk, hr1, he1⟩
 cases k with
 | zero => exact hk.elim
 | succ k =>
   refine wp_mono ((vc_ok (TT.tysOk ht) (TT.zeros ht) (sums_ok hl) hmix (vcCall_ok (sums_ok hl) base) c _ _ hk).run ψ1 S1 w1 a1 hr1) ?_
   rintro e a2 w2 ⟨st2, ψ2, S2, hq, hr2, he2⟩
   cases e with
   | normal => exact ⟨k, Nat.lt_succ_self k, st2, ψ2, S2, hq, hr2, he1.trans he2⟩
   | exit id => exact ⟨st2, ψ2, S2, hq, hr2, he1.trans he2⟩
   | goto l => exact ⟨st2, ψ2, S2, hq, hr2, he1.trans he2⟩
   | ret => exact ⟨st2, ψ2, S2, hq, hr2, he1.trans he2⟩
   | panic ch => exact hq.elim
   | outgrown => exact hq.elim
end Go.Sx
namespace Go.Proofs.YtehpbhpmkhlldaaGreat
open Go.Sx
abbrev atSp (L : List Sp) (i : Nat) : Sp := L.getD i noS
abbrev rwS (L : List Sp) (i : Nat) : List DV := [bo (atSp L i).some, it (atSp L i).lo, it (atSp L i).hi]
theorem lt1 {i : Nat} (h : i < 1) : i = 0 := by omega
theorem lt2 {i : Nat} (h : i < 1 + 1) : i = 0 \/ i = 1 := by omega
theorem of_negS : Sp.of (-9223372036854775808) (-1) = ⟨true, -9223372036854775808, -1⟩ := rfl
theorem of_posS : Sp.of 1 9223372036854775807 = ⟨true, 1, 9223372036854775807⟩ := rfl
theorem parts_k (b : Sp) (m n : Bool) (h : (negS b).none = m) (h2 : (posS b).none = n) : parts b = (if m = true then [] else [negS b]) ++ (if n = true then [] else [posS b]) := by unfold parts; rw [h, h2]
def FReParts (L : List Sp) (n : Nat) : List Ar -> Option Rs
 | [.agg [.d (.v (.bool s0)), .d (.v (.int .i64 l0)), .d (.v (.int .i64 h0))]] => some ⟨(Sp.inR ⟨s0, l0, h0⟩) /\ (parts (⟨s0, l0, h0⟩ : Sp) = L /\ L.length = n), .va (.c (.d (.lst 3 n (rwS L)))), []⟩
 | _ => none
theorem fcReParts (L : List Sp) (n : Nat) : FC Tryz.prog 165 (FReParts L n) := by
 intro xs pre r us h hp
 unfold FReParts at h
 split at h
 . rename_i s0 l0 h0
   cases h
   obtain ⟨hp0, hp1⟩ := hp
   refine fcat tys_ok (l := [(85, ⟨[], FSOf⟩), (39, ⟨[], FSMeet⟩), (83, ⟨[], FSNone⟩)]) ⟨fcSOf, fcSMeet, fcSNone, trivial⟩ Tryz.func165 rfl (by kernel_rfl) true ?_
   obtain ⟨rfl, rfl⟩ := hp1
   have hi0 : decide ((0 : Int) < 2) = true := rfl
   have hi1 : decide (IntKind.i64.wrap (0 + 1) < (2 : Int)) = true := rfl
   have hi2 : decide (IntKind.i64.wrap (IntKind.i64.wrap (0 + 1) + 1) < (2 : Int)) = false := rfl
   have rn : Sp.inR (Sp.of (-9223372036854775808) (-1)) := by unfold Sp.inR; decide
   have rq : Sp.inR (Sp.of 1 9223372036854775807) := by unfold Sp.inR; decide
   have hmn := Sp.meet_inR hp0 rn
   have hmq := Sp.meet_inR hp0 rq
   cases hn : (Sp.meet (⟨s0, l0, h0⟩ : Sp) (Sp.of (-9223372036854775808) (-1))).none <;> cases hq : (Sp.meet (⟨s0, l0, h0⟩ : Sp) (Sp.of 1 9223372036854775807)).none
   all_goals (have hk := parts_k (⟨s0, l0, h0⟩ : Sp) _ _ hn hq)
   all_goals (simp only [Bool.false_eq_true, if_false, if_true, List.nil_append, List.append_nil, List.cons_append] at hk; have hln := congrArg List.length hk; simp only [List.length_cons, List.length_nil, Nat.zero_add, Nat.reduceAdd] at hln)
   all_goals (have hn2 := congrArg Bool.not hn; have hq2 := congrArg Bool.not hq; simp only [Bool.not_true, Bool.not_false] at hn2 hq2)
   all_goals rw [hk]
   all_goals repeat' (first | exact trivial | (with_reducible first | exact hp0 | exact hp0.1 | exact hp0.2 | exact hp0.1.1 | exact hp0.1.2 | exact hp0.2.1 | exact hp0.2.2 | exact rn | exact rq | exact hmn | exact hmq | exact (fun h => absurd (hn.symm.trans h) (by decide)) | exact (fun h => absurd (hq.symm.trans h) (by decide)) | exact (fun h => absurd (hn2.symm.trans h) (by decide)) | exact (fun h => absurd (hq2.symm.trans h) (by decide)) | exact (fun h => absurd (hi0.symm.trans h) (by decide)) | exact (fun h => absurd (hi1.symm.trans h) (by decide)) | exact (fun h => absurd (hi2.symm.trans h) (by decide)) | exact (fun h : (0 : Int) = ((1 : Nat) : Int) => absurd h (by decide)) | exact (fun h : IntKind.i64.wrap (0 + 1) = ((0 : Nat) : Int) => absurd h (by decide))) | refine ⟨?_, ?_⟩ | intro _)
   all_goals first | (with_reducible first | apply qa | apply qb | apply qc | apply qd) | (conv => whnf)
   all_goals first | ((with_reducible show ASat _ _ _ _ _); refine loop_n tys_ok (l := [(85, ⟨[], FSOf⟩), (39, ⟨[], FSMeet⟩), (83, ⟨[], FSNone⟩)]) ⟨fcSOf, fcSMeet, fcSNone, trivial⟩ (by kernel_rfl) 3 ?_) | skip
   all_goals repeat' (first | exact trivial | (with_reducible first | exact hp0 | exact hp0.1 | exact hp0.2 | exact hp0.1.1 | exact hp0.1.2 | exact hp0.2.1 | exact hp0.2.2 | exact rn | exact rq | exact hmn | exact hmq | exact (fun h => absurd (hn.symm.trans h) (by decide)) | exact (fun h => absurd (hq.symm.trans h) (by decide)) | exact (fun h => absurd (hn2.symm.trans h) (by decide)) | exact (fun h => absurd (hq2.symm.trans h) (by decide)) | exact (fun h => absurd (hi0.symm.trans h) (by decide)) | exact (fun h => absurd (hi1.symm.trans h) (by decide)) | exact (fun h => absurd (hi2.symm.trans h) (by decide)) | exact (fun h : (0 : Int) = ((1 : Nat) : Int) => absurd h (by decide)) | exact (fun h : IntKind.i64.wrap (0 + 1) = ((0 : Nat) : Int) => absurd h (by decide))) | refine ⟨?_, ?_⟩ | intro _)
   all_goals first | (with_reducible first | apply qa | apply qb | apply qc | apply qd) | (conv => whnf)
   all_goals first | rfl | decide | omega | (rename _ < 1 + 1 => hlt; rcases lt2 hlt with e | e <;> (subst e; rfl)) | (rename _ < 1 => hlt; have e := lt1 hlt; subst e; rfl)
 . cases h
theorem meet_ends {b : Sp} {l h : Int} (k : (Sp.meet b (Sp.of l h)).none = false) (hlh : l <= h) : l <= (Sp.meet b (Sp.of l h)).lo /\ (Sp.meet b (Sp.of l h)).lo <= (Sp.meet b (Sp.of l h)).hi /\ (Sp.meet b (Sp.of l h)).hi <= h := by
 have e : Sp.of l h = ⟨true, l, h⟩ := by unfold Sp.of; rw [if_neg (by omega)]
 rw [e] at k ⊢
 cases hb : (b.none || Sp.none ⟨true, l, h⟩)
 . have e2 : Sp.meet b ⟨true, l, h⟩ = Sp.of (max b.lo l) (min b.hi h) := by unfold Sp.meet; rw [if_neg (by rw [hb]; decide)]
   rw [e2] at k ⊢
   unfold Sp.of at k ⊢
   by_cases h2 : max b.lo l > min b.hi h
   . rw [if_pos h2] at k; exact absurd k (by decide)
   . rw [if_neg h2]; exact ⟨Int.le_max_right _ _, Int.not_lt.1 h2, Int.min_le_right _ _⟩
 . have e2 : Sp.meet b ⟨true, l, h⟩ = ⟨false, 0, 0⟩ := by unfold Sp.meet; rw [if_pos hb]
   rw [e2] at k; exact absurd k (by decide)
theorem neg_ends {b : Sp} (k : (Sp.meet b (Sp.of (-9223372036854775808) (-1))).none = false) : (negS b).lo ≠ 0 /\ (negS b).hi ≠ 0 := by have := meet_ends k (by decide); rw [of_negS] at this; unfold negS; omega
theorem pos_ends {b : Sp} (k : (Sp.meet b (Sp.of 1 9223372036854775807)).none = false) : (posS b).lo ≠ 0 /\ (posS b).hi ≠ 0 := by have := meet_ends k (by decide); rw [of_posS] at this; unfold posS; omega
theorem gW_rwW (W : List Int) (i : Nat) : gW (rwW W i) = wd (W.getD i 0) := rfl
def Wok (n : Nat) (f : Nat -> List DV) : Prop := ∀ i, i < n -> f i = [it (gW (f i)).hi, ut (gW (f i)).lo] /\ Wd.ok (gW (f i))
def Wrg (n : Nat) (f : Nat -> List DV) : Prop := ∀ i, i < n -> -85070591730234615865843651857942052864 < (gW (f i)).val /\ (gW (f i)).val <= 85070591730234615865843651857942052864
theorem wok_rw (n : Nat) (W : List Int) : Wok n (rwW W) := fun i _ => ⟨rfl, wd_ok _⟩
theorem wok_app {n m : Nat} {f g : Nat -> List DV} (hf : Wok n f) (hg : Wok m g) : Wok (n + m) (appRow n f g) := fun i hi => by
 unfold appRow; split
 . exact hf i ‹_›
 . exact hg (i - n) (by omega)
theorem wrg_app {n m : Nat} {f g : Nat -> List DV} (hf : Wrg n f) (hg : Wrg m g) : Wrg (n + m) (appRow n f g) := fun i hi => by
 unfold appRow; split
 . exact hf i ‹_›
 . exact hg (i - n) (by omega)
theorem wd_valS {v : Int} (h0 : -85070591730234615865843651857942052864 < v) (h1 : v <= 85070591730234615865843651857942052864) : (wd v).val = v := wd_val (by omega) (by omega)
theorem lt4 {i : Nat} (h : i < 4) : i = 0 \/ i = 1 \/ i = 2 \/ i = 3 := by omega
theorem rw_vals {a b c d : Int} (ha : -85070591730234615865843651857942052864 < a /\ a <= 85070591730234615865843651857942052864) (hb : -85070591730234615865843651857942052864 < b /\ b <= 85070591730234615865843651857942052864) (hc : -85070591730234615865843651857942052864 < c /\ c <= 85070591730234615865843651857942052864) (hd : -85070591730234615865843651857942052864 < d /\ d <= 85070591730234615865843651857942052864) : valsW 4 (rwW [a, b, c, d]) = [a, b, c, d] /\ Wrg 4 (rwW [a, b, c, d]) := by
 constructor
 . show [(wd a).val, (wd b).val, (wd c).val, (wd d).val] = _
   rw [wd_valS ha.1 ha.2, wd_valS hb.1 hb.2, wd_valS hc.1 hc.2, wd_valS hd.1 hd.2]
 . intro i hi
   rw [gW_rwW]
   rcases lt4 hi with e | e | e | e <;> subst e
   . show _ < (wd a).val /\ (wd a).val <= _; rw [wd_valS ha.1 ha.2]; exact ha
   . show _ < (wd b).val /\ (wd b).val <= _; rw [wd_valS hb.1 hb.2]; exact hb
   . show _ < (wd c).val /\ (wd c).val <= _; rw [wd_valS hc.1 hc.2]; exact hc
   . show _ < (wd d).val /\ (wd d).val <= _; rw [wd_valS hd.1 hd.2]; exact hd
theorem valsW_app (n m : Nat) (f g : Nat -> List DV) : valsW (n + m) (appRow n f g) = valsW n f ++ valsW m g := by
 unfold valsW
 rw [List.range_add, List.map_append, List.map_map]
 congr 1
 . apply List.map_congr_left
   intro i hi
   have := List.mem_range.1 hi
   show (gW (appRow n f g i)).val = _
   unfold appRow; rw [if_pos this]
 . apply List.map_congr_left
   intro i _
   show (gW (appRow n f g (n + i))).val = _
   unfold appRow; rw [if_neg (by omega), Nat.add_sub_cancel_left]
theorem quo_rng' {x y : Int} (rx : -9223372036854775808 <= x /\ x < 9223372036854775808) (ry : -9223372036854775808 <= y /\ y < 9223372036854775808) (h0 : y ≠ 0) : -85070591730234615865843651857942052864 < x.tdiv y /\ x.tdiv y <= 85070591730234615865843651857942052864 := by
 by_cases h : x = -9223372036854775808 /\ y = -1
 . obtain ⟨rfl, rfl⟩ := h; decide
 . have := quo_rng rx ry h0 h; omega
theorem crn_q {a p : Sp} (ha : a.inR) (hp : p.inR) (h : p.lo ≠ 0 /\ p.hi ≠ 0) : valsW 4 (rwW (crn Int.tdiv a p)) = corners Int.tdiv a p /\ Wrg 4 (rwW (crn Int.tdiv a p)) :=
 rw_vals (quo_rng' ha.1 hp.1 h.1) (quo_rng' ha.1 hp.2 h.2) (quo_rng' ha.2 hp.1 h.1) (quo_rng' ha.2 hp.2 h.2)
theorem ex_rng {op x y : Int} (rx : -9223372036854775808 <= x /\ x < 9223372036854775808) (ry : -9223372036854775808 <= y /\ y < 9223372036854775808) : -85070591730234615865843651857942052864 < exI op x y /\ exI op x y <= 85070591730234615865843651857942052864 := by
 have m1 := mul_hi (a := -9223372036854775808) (b := 9223372036854775808 - 1) (c := -9223372036854775808) (d := 9223372036854775808 - 1) (x := x) (y := y) (hi := 85070591730234615865843651857942052864) (by omega) (by omega) (by omega) (by omega) (by decide) (by decide) (by decide) (by decide)
 have m2 := mul_lo (a := -9223372036854775808) (b := 9223372036854775808 - 1) (c := -9223372036854775808) (d := 9223372036854775808 - 1) (x := x) (y := y) (lo := -85070591730234615865843651857942052864 + 9223372036854775808) (by omega) (by omega) (by omega) (by omega) (by decide) (by decide) (by decide) (by decide)
 unfold exI; (repeat' split) <;> omega
theorem at00 (x y : Sp) : atSp [x, y] (Int.toNat 0) = x := rfl
theorem at01 (x y : Sp) : atSp [x, y] (IntKind.i64.wrap (0 + 1)).toNat = y := rfl
theorem at0 (x : Sp) : atSp [x] (Int.toNat 0) = x := rfl
theorem spEta (x : Sp) : (⟨x.some, x.lo, x.hi⟩ : Sp) = x := rfl
theorem dv_2 {a p q : Sp} (kp : valsW 4 (rwW (crn Int.tdiv a p)) = corners Int.tdiv a p) (kq : valsW 4 (rwW (crn Int.tdiv a q)) = corners Int.tdiv a q) : around (valsW (4 + 4) (appRow 4 (rwW (crn Int.tdiv a p)) (rwW (crn Int.tdiv a q)))) = around ([p, q].flatMap fun p => corners Int.tdiv a p) := by
 rw [valsW_app, kp, kq]; rfl
theorem dv_1 {a p : Sp} (kp : valsW 4 (rwW (crn Int.tdiv a p)) = corners Int.tdiv a p) : around (valsW 4 (rwW (crn Int.tdiv a p))) = around ([p].flatMap fun p => corners Int.tdiv a p) := by
 rw [kp]; rfl
def FReDiv : List Ar -> Option Rs
 | [.agg [.d (.v (.bool s0)), .d (.v (.int .i64 l0)), .d (.v (.int .i64 h0))], .agg [.d (.v (.bool s1)), .d (.v (.int .i64 l1)), .d (.v (.int .i64 h1))]] => some ⟨(Sp.inR ⟨s0, l0, h0⟩) /\ (Sp.inR ⟨s1, l1, h1⟩), .va (Sp.ar (divS (⟨s0, l0, h0⟩ : Sp) (⟨s1, l1, h1⟩ : Sp))), []⟩
 | _ => none
theorem fcReDiv : FC Tryz.prog 143 FReDiv := by
 intro xs pre r us h hp
 unfold FReDiv at h
 split at h
 . rename_i s0 l0 h0 s1 l1 h1
   cases h
   obtain ⟨hp0, hp1⟩ := hp
   refine fcat tys_ok (l := [(165, ⟨[], (FReParts (parts (⟨s1, l1, h1⟩ : Sp)) (parts (⟨s1, l1, h1⟩ : Sp)).length)⟩), (142, ⟨[], FReCornQ⟩), (141, ⟨[], FN 2 FReAround⟩), (166, ⟨[], FReQuo⟩)]) ⟨(fcReParts (parts (⟨s1, l1, h1⟩ : Sp)) (parts (⟨s1, l1, h1⟩ : Sp)).length), fcReCornQ, fc_nil 2 fcReAround, fcReQuo, trivial⟩ Tryz.func143 rfl (by kernel_rfl) true ?_
   unfold divS
   have hj00 : decide ((0 : Int) < ((0 : Nat) : Int)) = false := rfl
   have hs00 : ((0 : Int) < ((0 : Nat) : Int)) \/ True := .inr trivial
   have hj01 : decide ((0 : Int) < ((1 : Nat) : Int)) = true := rfl
   have hs01 : ((0 : Int) < ((1 : Nat) : Int)) := by decide
   have hj02 : decide ((0 : Int) < ((2 : Nat) : Int)) = true := rfl
   have hs02 : ((0 : Int) < ((2 : Nat) : Int)) := by decide
   have hj10 : decide (IntKind.i64.wrap (0 + 1) < ((0 : Nat) : Int)) = false := rfl
   have hs10 : (IntKind.i64.wrap (0 + 1) < ((0 : Nat) : Int)) \/ True := .inr trivial
   have hj11 : decide (IntKind.i64.wrap (0 + 1) < ((1 : Nat) : Int)) = false := rfl
   have hs11 : (IntKind.i64.wrap (0 + 1) < ((1 : Nat) : Int)) \/ True := .inr trivial
   have hj12 : decide (IntKind.i64.wrap (0 + 1) < ((2 : Nat) : Int)) = true := rfl
   have hs12 : (IntKind.i64.wrap (0 + 1) < ((2 : Nat) : Int)) := by decide
   have hj20 : decide (IntKind.i64.wrap (IntKind.i64.wrap (0 + 1) + 1) < ((0 : Nat) : Int)) = false := rfl
   have hs20 : (IntKind.i64.wrap (IntKind.i64.wrap (0 + 1) + 1) < ((0 : Nat) : Int)) \/ True := .inr trivial
   have hj21 : decide (IntKind.i64.wrap (IntKind.i64.wrap (0 + 1) + 1) < ((1 : Nat) : Int)) = false := rfl
   have hs21 : (IntKind.i64.wrap (IntKind.i64.wrap (0 + 1) + 1) < ((1 : Nat) : Int)) \/ True := .inr trivial
   have hj22 : decide (IntKind.i64.wrap (IntKind.i64.wrap (0 + 1) + 1) < ((2 : Nat) : Int)) = false := rfl
   have hs22 : (IntKind.i64.wrap (IntKind.i64.wrap (0 + 1) + 1) < ((2 : Nat) : Int)) \/ True := .inr trivial
   have hi0 : decide ((0 : Int) < 2) = true := rfl
   have hi1 : decide (IntKind.i64.wrap (0 + 1) < (2 : Int)) = true := rfl
   have hi2 : decide (IntKind.i64.wrap (IntKind.i64.wrap (0 + 1) + 1) < (2 : Int)) = false := rfl
   have rn : Sp.inR (Sp.of (-9223372036854775808) (-1)) := by unfold Sp.inR; decide
   have rq : Sp.inR (Sp.of 1 9223372036854775807) := by unfold Sp.inR; decide
   have hmn := Sp.meet_inR hp1 rn
   have hmq := Sp.meet_inR hp1 rq
   cases hn : (Sp.meet (⟨s1, l1, h1⟩ : Sp) (Sp.of (-9223372036854775808) (-1))).none <;> cases hq : (Sp.meet (⟨s1, l1, h1⟩ : Sp) (Sp.of 1 9223372036854775807)).none
   all_goals (have hk := parts_k (⟨s1, l1, h1⟩ : Sp) _ _ hn hq)
   all_goals (simp only [Bool.false_eq_true, if_false, if_true, List.nil_append, List.append_nil, List.cons_append] at hk; have hln := congrArg List.length hk; simp only [List.length_cons, List.length_nil, Nat.zero_add, Nat.reduceAdd] at hln)
   all_goals (have hn2 := congrArg Bool.not hn; have hq2 := congrArg Bool.not hq; simp only [Bool.not_true, Bool.not_false] at hn2 hq2)
   . have hN := neg_ends hn
     have kN := crn_q hp0 hmn hN
     have gN : Sp.inR (negS ⟨s1, l1, h1⟩) := hmn
     unfold Sp.inR at gN
     have hP := pos_ends hq
     have kP := crn_q hp0 hmq hP
     have gP : Sp.inR (posS ⟨s1, l1, h1⟩) := hmq
     unfold Sp.inR at gP
     rw [hln, hk]
     all_goals repeat' (first | exact trivial | (with_reducible first | exact hp0 | exact hp1 | exact And.intro hk hln | exact hk | exact hln | exact (fun h => absurd (hn.symm.trans h) (by decide)) | exact (fun h => absurd (hq.symm.trans h) (by decide)) | exact (fun h => absurd (hn2.symm.trans h) (by decide)) | exact (fun h => absurd (hq2.symm.trans h) (by decide)) | exact (fun h => absurd (hj00.symm.trans h) (by decide)) | exact (fun h => absurd (hj01.symm.trans h) (by decide)) | exact (fun h => absurd (hj02.symm.trans h) (by decide)) | exact (fun h => absurd (hj10.symm.trans h) (by decide)) | exact (fun h => absurd (hj11.symm.trans h) (by decide)) | exact (fun h => absurd (hj12.symm.trans h) (by decide)) | exact (fun h => absurd (hj20.symm.trans h) (by decide)) | exact (fun h => absurd (hj21.symm.trans h) (by decide)) | exact (fun h => absurd (hj22.symm.trans h) (by decide)) | exact hs01 | exact hs02 | exact hs12) | refine ⟨?_, ?_⟩ | intro _)
     all_goals first | (with_reducible first | apply qa | apply qb | apply qc | apply qd) | (conv => whnf)
     all_goals first | ((with_reducible show ASat _ _ _ _ _); refine loop_n tys_ok (l := [(165, ⟨[], (FReParts (parts (⟨s1, l1, h1⟩ : Sp)) (parts (⟨s1, l1, h1⟩ : Sp)).length)⟩), (142, ⟨[], FReCornQ⟩), (141, ⟨[], FN 2 FReAround⟩), (166, ⟨[], FReQuo⟩)]) ⟨fcReParts _ _, fcReCornQ, fc_nil 2 fcReAround, fcReQuo, trivial⟩ (by kernel_rfl) 3 ?_) | skip
     all_goals repeat' (first | exact trivial | (with_reducible first | exact hp0 | exact hp1 | exact And.intro hk hln | exact hk | exact hln | exact (fun h => absurd (hn.symm.trans h) (by decide)) | exact (fun h => absurd (hq.symm.trans h) (by decide)) | exact (fun h => absurd (hn2.symm.trans h) (by decide)) | exact (fun h => absurd (hq2.symm.trans h) (by decide)) | exact (fun h => absurd (hj00.symm.trans h) (by decide)) | exact (fun h => absurd (hj01.symm.trans h) (by decide)) | exact (fun h => absurd (hj02.symm.trans h) (by decide)) | exact (fun h => absurd (hj10.symm.trans h) (by decide)) | exact (fun h => absurd (hj11.symm.trans h) (by decide)) | exact (fun h => absurd (hj12.symm.trans h) (by decide)) | exact (fun h => absurd (hj20.symm.trans h) (by decide)) | exact (fun h => absurd (hj21.symm.trans h) (by decide)) | exact (fun h => absurd (hj22.symm.trans h) (by decide)) | exact hs01 | exact hs02 | exact hs12) | refine ⟨?_, ?_⟩ | intro _)
     all_goals first | (with_reducible first | apply qa | apply qb | apply qc | apply qd) | (conv => whnf)
     all_goals (try simp only [Nat.zero_add, at00, at01, at0, spEta])
     all_goals first | (with_reducible rfl) | ((with_reducible show Value.bool _ = _); exact congrArg (fun i : Sp => Value.bool i.some) ((dv_2 kN.1 kP.1))) | ((with_reducible show Value.int _ _ = _); first | exact congrArg (fun i : Sp => Value.int .i64 i.lo) ((dv_2 kN.1 kP.1)) | exact congrArg (fun i : Sp => Value.int .i64 i.hi) ((dv_2 kN.1 kP.1))) | (with_reducible first | exact gN.1.1 | exact gN.1.2 | exact gN.2.1 | exact gN.2.2) | ((with_reducible show False); exact hN.1 ‹_›) | ((with_reducible show False); exact hN.2 ‹_›) | ((with_reducible show _ < Wd.val _); exact (kN.2 _ ‹_›).1) | ((with_reducible show Wd.val _ <= _); exact (kN.2 _ ‹_›).2) | (with_reducible first | exact gP.1.1 | exact gP.1.2 | exact gP.2.1 | exact gP.2.2) | ((with_reducible show False); exact hP.1 ‹_›) | ((with_reducible show False); exact hP.2 ‹_›) | ((with_reducible show _ < Wd.val _); exact (kP.2 _ ‹_›).1) | ((with_reducible show Wd.val _ <= _); exact (kP.2 _ ‹_›).2) | ((with_reducible show _ < Wd.val _); exact (wrg_app kN.2 kP.2 _ ‹_›).1) | ((with_reducible show Wd.val _ <= _); exact (wrg_app kN.2 kP.2 _ ‹_›).2) | exact (wok_app (wok_rw 4 _) (wok_rw 4 _) _ ‹_›).1 | exact (wok_app (wok_rw 4 _) (wok_rw 4 _) _ ‹_›).2.1.1 | exact (wok_app (wok_rw 4 _) (wok_rw 4 _) _ ‹_›).2.1.2 | exact (wok_app (wok_rw 4 _) (wok_rw 4 _) _ ‹_›).2.2.1 | exact (wok_app (wok_rw 4 _) (wok_rw 4 _) _ ‹_›).2.2.2 | decide | rfl
   . have hN := neg_ends hn
     have kN := crn_q hp0 hmn hN
     have gN : Sp.inR (negS ⟨s1, l1, h1⟩) := hmn
     unfold Sp.inR at gN
     rw [hln, hk]
     all_goals repeat' (first | exact trivial | (with_reducible first | exact hp0 | exact hp1 | exact And.intro hk hln | exact hk | exact hln | exact (fun h => absurd (hn.symm.trans h) (by decide)) | exact (fun h => absurd (hq.symm.trans h) (by decide)) | exact (fun h => absurd (hn2.symm.trans h) (by decide)) | exact (fun h => absurd (hq2.symm.trans h) (by decide)) | exact (fun h => absurd (hj00.symm.trans h) (by decide)) | exact (fun h => absurd (hj01.symm.trans h) (by decide)) | exact (fun h => absurd (hj02.symm.trans h) (by decide)) | exact (fun h => absurd (hj10.symm.trans h) (by decide)) | exact (fun h => absurd (hj11.symm.trans h) (by decide)) | exact (fun h => absurd (hj12.symm.trans h) (by decide)) | exact (fun h => absurd (hj20.symm.trans h) (by decide)) | exact (fun h => absurd (hj21.symm.trans h) (by decide)) | exact (fun h => absurd (hj22.symm.trans h) (by decide)) | exact hs01 | exact hs02 | exact hs12) | refine ⟨?_, ?_⟩ | intro _)
     all_goals first | (with_reducible first | apply qa | apply qb | apply qc | apply qd) | (conv => whnf)
     all_goals first | ((with_reducible show ASat _ _ _ _ _); refine loop_n tys_ok (l := [(165, ⟨[], (FReParts (parts (⟨s1, l1, h1⟩ : Sp)) (parts (⟨s1, l1, h1⟩ : Sp)).length)⟩), (142, ⟨[], FReCornQ⟩), (141, ⟨[], FN 2 FReAround⟩), (166, ⟨[], FReQuo⟩)]) ⟨fcReParts _ _, fcReCornQ, fc_nil 2 fcReAround, fcReQuo, trivial⟩ (by kernel_rfl) 3 ?_) | skip
     all_goals repeat' (first | exact trivial | (with_reducible first | exact hp0 | exact hp1 | exact And.intro hk hln | exact hk | exact hln | exact (fun h => absurd (hn.symm.trans h) (by decide)) | exact (fun h => absurd (hq.symm.trans h) (by decide)) | exact (fun h => absurd (hn2.symm.trans h) (by decide)) | exact (fun h => absurd (hq2.symm.trans h) (by decide)) | exact (fun h => absurd (hj00.symm.trans h) (by decide)) | exact (fun h => absurd (hj01.symm.trans h) (by decide)) | exact (fun h => absurd (hj02.symm.trans h) (by decide)) | exact (fun h => absurd (hj10.symm.trans h) (by decide)) | exact (fun h => absurd (hj11.symm.trans h) (by decide)) | exact (fun h => absurd (hj12.symm.trans h) (by decide)) | exact (fun h => absurd (hj20.symm.trans h) (by decide)) | exact (fun h => absurd (hj21.symm.trans h) (by decide)) | exact (fun h => absurd (hj22.symm.trans h) (by decide)) | exact hs01 | exact hs02 | exact hs12) | refine ⟨?_, ?_⟩ | intro _)
     all_goals first | (with_reducible first | apply qa | apply qb | apply qc | apply qd) | (conv => whnf)
     all_goals (try simp only [Nat.zero_add, at00, at01, at0, spEta])
     all_goals first | (with_reducible rfl) | ((with_reducible show Value.bool _ = _); exact congrArg (fun i : Sp => Value.bool i.some) ((dv_1 kN.1))) | ((with_reducible show Value.int _ _ = _); first | exact congrArg (fun i : Sp => Value.int .i64 i.lo) ((dv_1 kN.1)) | exact congrArg (fun i : Sp => Value.int .i64 i.hi) ((dv_1 kN.1))) | (with_reducible first | exact gN.1.1 | exact gN.1.2 | exact gN.2.1 | exact gN.2.2) | ((with_reducible show False); exact hN.1 ‹_›) | ((with_reducible show False); exact hN.2 ‹_›) | ((with_reducible show _ < Wd.val _); exact (kN.2 _ ‹_›).1) | ((with_reducible show Wd.val _ <= _); exact (kN.2 _ ‹_›).2) | exact (wok_rw 4 _ _ ‹_›).1 | exact (wok_rw 4 _ _ ‹_›).2.1.1 | exact (wok_rw 4 _ _ ‹_›).2.1.2 | exact (wok_rw 4 _ _ ‹_›).2.2.1 | exact (wok_rw 4 _ _ ‹_›).2.2.2 | decide | rfl
   . have hP := pos_ends hq
     have kP := crn_q hp0 hmq hP
     have gP : Sp.inR (posS ⟨s1, l1, h1⟩) := hmq
     unfold Sp.inR at gP
     rw [hln, hk]
     all_goals repeat' (first | exact trivial | (with_reducible first | exact hp0 | exact hp1 | exact And.intro hk hln | exact hk | exact hln | exact (fun h => absurd (hn.symm.trans h) (by decide)) | exact (fun h => absurd (hq.symm.trans h) (by decide)) | exact (fun h => absurd (hn2.symm.trans h) (by decide)) | exact (fun h => absurd (hq2.symm.trans h) (by decide)) | exact (fun h => absurd (hj00.symm.trans h) (by decide)) | exact (fun h => absurd (hj01.symm.trans h) (by decide)) | exact (fun h => absurd (hj02.symm.trans h) (by decide)) | exact (fun h => absurd (hj10.symm.trans h) (by decide)) | exact (fun h => absurd (hj11.symm.trans h) (by decide)) | exact (fun h => absurd (hj12.symm.trans h) (by decide)) | exact (fun h => absurd (hj20.symm.trans h) (by decide)) | exact (fun h => absurd (hj21.symm.trans h) (by decide)) | exact (fun h => absurd (hj22.symm.trans h) (by decide)) | exact hs01 | exact hs02 | exact hs12) | refine ⟨?_, ?_⟩ | intro _)
     all_goals first | (with_reducible first | apply qa | apply qb | apply qc | apply qd) | (conv => whnf)
     all_goals first | ((with_reducible show ASat _ _ _ _ _); refine loop_n tys_ok (l := [(165, ⟨[], (FReParts (parts (⟨s1, l1, h1⟩ : Sp)) (parts (⟨s1, l1, h1⟩ : Sp)).length)⟩), (142, ⟨[], FReCornQ⟩), (141, ⟨[], FN 2 FReAround⟩), (166, ⟨[], FReQuo⟩)]) ⟨fcReParts _ _, fcReCornQ, fc_nil 2 fcReAround, fcReQuo, trivial⟩ (by kernel_rfl) 3 ?_) | skip
     all_goals repeat' (first | exact trivial | (with_reducible first | exact hp0 | exact hp1 | exact And.intro hk hln | exact hk | exact hln | exact (fun h => absurd (hn.symm.trans h) (by decide)) | exact (fun h => absurd (hq.symm.trans h) (by decide)) | exact (fun h => absurd (hn2.symm.trans h) (by decide)) | exact (fun h => absurd (hq2.symm.trans h) (by decide)) | exact (fun h => absurd (hj00.symm.trans h) (by decide)) | exact (fun h => absurd (hj01.symm.trans h) (by decide)) | exact (fun h => absurd (hj02.symm.trans h) (by decide)) | exact (fun h => absurd (hj10.symm.trans h) (by decide)) | exact (fun h => absurd (hj11.symm.trans h) (by decide)) | exact (fun h => absurd (hj12.symm.trans h) (by decide)) | exact (fun h => absurd (hj20.symm.trans h) (by decide)) | exact (fun h => absurd (hj21.symm.trans h) (by decide)) | exact (fun h => absurd (hj22.symm.trans h) (by decide)) | exact hs01 | exact hs02 | exact hs12) | refine ⟨?_, ?_⟩ | intro _)
     all_goals first | (with_reducible first | apply qa | apply qb | apply qc | apply qd) | (conv => whnf)
     all_goals (try simp only [Nat.zero_add, at00, at01, at0, spEta])
     all_goals first | (with_reducible rfl) | ((with_reducible show Value.bool _ = _); exact congrArg (fun i : Sp => Value.bool i.some) ((dv_1 kP.1))) | ((with_reducible show Value.int _ _ = _); first | exact congrArg (fun i : Sp => Value.int .i64 i.lo) ((dv_1 kP.1)) | exact congrArg (fun i : Sp => Value.int .i64 i.hi) ((dv_1 kP.1))) | (with_reducible first | exact gP.1.1 | exact gP.1.2 | exact gP.2.1 | exact gP.2.2) | ((with_reducible show False); exact hP.1 ‹_›) | ((with_reducible show False); exact hP.2 ‹_›) | ((with_reducible show _ < Wd.val _); exact (kP.2 _ ‹_›).1) | ((with_reducible show Wd.val _ <= _); exact (kP.2 _ ‹_›).2) | exact (wok_rw 4 _ _ ‹_›).1 | exact (wok_rw 4 _ _ ‹_›).2.1.1 | exact (wok_rw 4 _ _ ‹_›).2.1.2 | exact (wok_rw 4 _ _ ‹_›).2.2.1 | exact (wok_rw 4 _ _ ‹_›).2.2.2 | decide | rfl
   . rw [hln, hk]
     all_goals repeat' (first | exact trivial | (with_reducible first | exact hp0 | exact hp1 | exact And.intro hk hln | exact hk | exact hln | exact (fun h => absurd (hn.symm.trans h) (by decide)) | exact (fun h => absurd (hq.symm.trans h) (by decide)) | exact (fun h => absurd (hn2.symm.trans h) (by decide)) | exact (fun h => absurd (hq2.symm.trans h) (by decide)) | exact (fun h => absurd (hj00.symm.trans h) (by decide)) | exact (fun h => absurd (hj01.symm.trans h) (by decide)) | exact (fun h => absurd (hj02.symm.trans h) (by decide)) | exact (fun h => absurd (hj10.symm.trans h) (by decide)) | exact (fun h => absurd (hj11.symm.trans h) (by decide)) | exact (fun h => absurd (hj12.symm.trans h) (by decide)) | exact (fun h => absurd (hj20.symm.trans h) (by decide)) | exact (fun h => absurd (hj21.symm.trans h) (by decide)) | exact (fun h => absurd (hj22.symm.trans h) (by decide)) | exact hs01 | exact hs02 | exact hs12) | refine ⟨?_, ?_⟩ | intro _)
     all_goals first | (with_reducible first | apply qa | apply qb | apply qc | apply qd) | (conv => whnf)
     all_goals first | ((with_reducible show ASat _ _ _ _ _); refine loop_n tys_ok (l := [(165, ⟨[], (FReParts (parts (⟨s1, l1, h1⟩ : Sp)) (parts (⟨s1, l1, h1⟩ : Sp)).length)⟩), (142, ⟨[], FReCornQ⟩), (141, ⟨[], FN 2 FReAround⟩), (166, ⟨[], FReQuo⟩)]) ⟨fcReParts _ _, fcReCornQ, fc_nil 2 fcReAround, fcReQuo, trivial⟩ (by kernel_rfl) 3 ?_) | skip
     all_goals repeat' (first | exact trivial | (with_reducible first | exact hp0 | exact hp1 | exact And.intro hk hln | exact hk | exact hln | exact (fun h => absurd (hn.symm.trans h) (by decide)) | exact (fun h => absurd (hq.symm.trans h) (by decide)) | exact (fun h => absurd (hn2.symm.trans h) (by decide)) | exact (fun h => absurd (hq2.symm.trans h) (by decide)) | exact (fun h => absurd (hj00.symm.trans h) (by decide)) | exact (fun h => absurd (hj01.symm.trans h) (by decide)) | exact (fun h => absurd (hj02.symm.trans h) (by decide)) | exact (fun h => absurd (hj10.symm.trans h) (by decide)) | exact (fun h => absurd (hj11.symm.trans h) (by decide)) | exact (fun h => absurd (hj12.symm.trans h) (by decide)) | exact (fun h => absurd (hj20.symm.trans h) (by decide)) | exact (fun h => absurd (hj21.symm.trans h) (by decide)) | exact (fun h => absurd (hj22.symm.trans h) (by decide)) | exact hs01 | exact hs02 | exact hs12) | refine ⟨?_, ?_⟩ | intro _)
     all_goals first | (with_reducible first | apply qa | apply qb | apply qc | apply qd) | (conv => whnf)
     all_goals (try simp only [Nat.zero_add, at00, at01, at0, spEta])
     all_goals first | exact Nat.zero_le _ | rfl | decide | omega | (intro _ h; exact absurd h (Nat.not_lt_zero _)) | exact absurd ‹_ < 0› (Nat.not_lt_zero _)
 . cases h
theorem lt_of_nz {k : Int} (h : 0 <= k) (h2 : (k == 0) = false) : 0 < k := by have := ne_of_beq_false h2; omega
theorem part_r {m : Int} (h0 : 0 <= m) (h1 : m < 9223372036854775808) : 0 <= partI m /\ partI m < 9223372036854775808 := by
 rcases Int.lt_or_le 0 m with hp | hp
 . have := partI_ok hp h1; omega
 . obtain rfl : m = 0 := by omega
   rw [partI_0]; decide
section
variable {op m k : Int} {a b : Cg} {w : Bool} (hk : (if w = true then partI m else m) = k)
include hk
theorem lin_1 (h : exB op = false) : linC op m a b w = Cg.of 1 0 := by unfold linC; rw [hk]; dsimp only; rw [if_pos (.inl h)]; rfl
theorem lin_2 (h : (k == 0) = true) : linC op m a b w = Cg.of 1 0 := by unfold linC; rw [hk]; dsimp only; rw [if_pos (.inr (eq_of_beq h))]; rfl
theorem lin_3 (ra : -9223372036854775808 <= a.r /\ a.r < 9223372036854775808) (rb : -9223372036854775808 <= b.r /\ b.r < 9223372036854775808) (h : exB op = true) (h2 : (k == 0) = false) : linC op m a b w = Cg.of k ((wd (exI op a.r b.r)).val % k) := by
 have := ex_rng (op := op) ra rb
 unfold linC; rw [hk]; dsimp only; rw [if_neg (by rintro (x | x); exact absurd (h.symm.trans x) (by decide); exact ne_of_beq_false h2 x), wd_valS this.1 this.2]
end
theorem sc_r {c : Int} (h : -9223372036854775808 <= c /\ c < 9223372036854775808) : 0 <= sizeI c /\ sizeI c <= 9223372036854775808 := by unfold sizeI; split <;> omega
section
variable {m c : Int} (hm : -9223372036854775808 ≤ m ∧ m < 9223372036854775808) (hc : -9223372036854775808 ≤ c ∧ c < 9223372036854775808) (h0 : 0 ≤ m)
theorem sc_1 (h : decide (sizeI c > 9223372036854775807) = true) : sclI m c = m := by unfold sclI; rw [if_pos (of_decide_eq_true h)]
include hc in
theorem sc_w (h : decide (sizeI c > 9223372036854775807) = false) : IntKind.wrap .i64 (sizeI c) = sizeI c := by have := sc_r hc; have := of_decide_eq_false h; exact wI_id _ (by omega) (by omega)
include hm hc h0 in
theorem sc_v (h : decide (sizeI c > 9223372036854775807) = false) : (wd (m * IntKind.wrap .i64 (sizeI c))).val = m * sizeI c := by
 rw [sc_w hc h]
 have := sc_r hc
 have a1 := Int.mul_nonneg h0 this.1
 have a2 : m * sizeI c <= (9223372036854775808 - 1) * 9223372036854775808 := by
  have b1 := Int.mul_le_mul_of_nonneg_right (show m <= 9223372036854775808 - 1 by omega) this.1
  have b2 := Int.mul_le_mul_of_nonneg_left this.2 (show (0 : Int) <= 9223372036854775808 - 1 by decide)
  omega
 exact wd_val (by omega) (by omega)
include hm hc h0 in
theorem sc_2 (h : decide (sizeI c > 9223372036854775807) = false) (h2 : wIntB (wd (m * IntKind.wrap .i64 (sizeI c))).val = false) : sclI m c = m := by
 rw [sc_v hm hc h0 h] at h2
 unfold sclI; rw [if_neg (of_decide_eq_false h), if_neg (by rw [h2]; decide)]
include hm hc h0 in
theorem sc_3 (h : decide (sizeI c > 9223372036854775807) = false) (h2 : wIntB (wd (m * IntKind.wrap .i64 (sizeI c))).val = true) : sclI m c = wIntV (wd (m * IntKind.wrap .i64 (sizeI c))).val := by
 rw [sc_v hm hc h0 h] at *
 unfold sclI wIntV; rw [if_neg (of_decide_eq_false h), if_pos h2, if_pos (by unfold wIntB at h2; exact of_decide_eq_true h2)]
end
section
variable {a b : Cg} {w : Bool}
theorem pr_s (h : (a.m != 0) = true) (h2 : (b.m == 0) = true) : prodC a b w = prod0 b a w := by unfold prodC; rw [if_pos ⟨by simpa using h, by simpa using h2⟩]
theorem pr_n1 (h : (a.m != 0) = false) : prodC a b w = prod0 a b w := by unfold prodC; rw [if_neg (by rintro ⟨x, -⟩; simp at h; exact x h)]
theorem pr_n2 (h : (b.m == 0) = false) : prodC a b w = prod0 a b w := by unfold prodC; rw [if_neg (by rintro ⟨-, x⟩; simp at h; exact h x)]
theorem p0_1 (h : alC a 0 = true) : prod0 a b w = Cg.of 0 0 := by unfold prod0; rw [if_pos h]
theorem p0_2 (h : alC a 0 = false) (h2 : (a.m == 0) = true) : prod0 a b w = linC 7 (sclI b.m a.r) a b w := by unfold prod0; rw [if_neg (by rw [h]; decide), if_pos (eq_of_beq h2)]
theorem p0_3 (h : alC a 0 = false) (h2 : (a.m == 0) = false) : prod0 a b w = linC 7 (Int.gcd a.m b.m : Int) a b w := by unfold prod0; rw [if_neg (by rw [h]; decide), if_neg (ne_of_beq_false h2)]
end
theorem scl_r {m c : Int} (hm : -9223372036854775808 <= m /\ m < 9223372036854775808) (h0 : 0 <= m) : (-9223372036854775808 <= sclI m c /\ sclI m c < 9223372036854775808) /\ 0 <= sclI m c := by
 have := scl_ok (c := c) (z := m) h0 hm.2 (Int.dvd_refl _); omega
theorem gcd_r {m n : Int} (hm : -9223372036854775808 <= m /\ m < 9223372036854775808) (hn : -9223372036854775808 <= n /\ n < 9223372036854775808) (h0 : 0 <= m /\ 0 <= n) : (-9223372036854775808 <= (Int.gcd m n : Int) /\ (Int.gcd m n : Int) < 9223372036854775808) /\ 0 <= (Int.gcd m n : Int) := by
 have := gcd_lt ⟨h0.1, hm.2⟩ ⟨h0.2, hn.2⟩; omega
def FRsLinear : List Ar -> Option Rs
 | [.c (.d (.v (.int .i64 i0))), .c (.d (.v (.int .i64 i1))), .agg [.d (.v (.bool b2)), .d (.v (.int .i64 m2)), .d (.v (.int .i64 r2))], .agg [.d (.v (.bool b3)), .d (.v (.int .i64 m3)), .d (.v (.int .i64 r3))], .c (.d (.v (.bool b4)))] => some ⟨(-9223372036854775808 <= i0 /\ i0 < 9223372036854775808) /\ (-9223372036854775808 <= i1 /\ i1 < 9223372036854775808) /\ (Cg.inR ⟨b2, m2, r2⟩) /\ (Cg.inR ⟨b3, m3, r3⟩) /\ (0 <= i1), .va (Cg.ar (linC i0 i1 (⟨b2, m2, r2⟩ : Cg) (⟨b3, m3, r3⟩ : Cg) b4)), []⟩
 | _ => none
theorem fcRsLinear : FC Tryz.prog 147 FRsLinear := by
 intro xs pre r us h hp
 unfold FRsLinear at h
 split at h
 . rename_i i0 i1 b2 m2 r2 b3 m3 r3 b4
   cases h
   obtain ⟨hp0, hp1, hp2, hp3, hp4⟩ := hp
   refine fcat tys_ok (l := [(172, ⟨[], FRsPart⟩), (117, ⟨[], FXExact⟩), (57, ⟨[], FCAll⟩), (173, ⟨[], FRsLeft⟩), (90, ⟨[], FCOf⟩)]) ⟨fcRsPart, fcXExact, fcCAll, fcRsLeft, fcCOf, trivial⟩ Tryz.func147 rfl (by kernel_rfl) false ?_
   have hP := part_r hp4 hp1.2
   have q2 := hp2; unfold Cg.inR at q2; dsimp only at q2
   have q3 := hp3; unfold Cg.inR at q3; dsimp only at q3
   have hPP : -9223372036854775808 <= partI i1 /\ partI i1 < 9223372036854775808 := ⟨by omega, hP.2⟩
   cases b4
   . have hk0 := hp4
     have hk1 := hp1.2
     cases hx : exB i0
     . have hxn := congrArg Bool.not hx; simp only [Bool.not_true, Bool.not_false] at hxn
       repeat' (first | exact trivial | (with_reducible first | exact hp0 | exact hp1 | exact hp2 | exact hp0.1 | exact hp0.2 | exact hp1.1 | exact hp1.2 | exact hp2.1 | exact hp2.2 | exact wd_ok _ | exact (wd_ok _).1.1 | exact (wd_ok _).1.2 | exact (wd_ok _).2.1 | exact (wd_ok _).2.2 | exact (fun h : false = true => absurd h (by decide)) | exact (fun h : true = false => absurd h (by decide)) | exact hp0 | exact hp1 | exact hp2 | exact hp3 | exact hp4 | exact hPP | exact hPP.1 | exact hPP.2 | exact hP.1 | exact hP.2 | exact q2.1 | exact q2.2 | exact q2.1.1 | exact q2.1.2 | exact q2.2.1 | exact q2.2.2 | exact q3.1 | exact q3.2 | exact q3.1.1 | exact q3.1.2 | exact q3.2.1 | exact q3.2.2 | exact (fun h => absurd (hx.symm.trans h) (by decide)) | exact (fun h => absurd (hxn.symm.trans h) (by decide))) | refine ⟨?_, ?_⟩ | intro _)
       all_goals first | (with_reducible first | apply qa | apply qb | apply qc | apply qd) | (conv => whnf)
       all_goals first | (with_reducible rfl) | decide | ((with_reducible show Value.bool (Cg.some _) = _); exact congrArg (fun i : Cg => Value.bool i.some) ((lin_1 (a := (⟨b2, m2, r2⟩ : Cg)) (b := (⟨b3, m3, r3⟩ : Cg)) (w := false) rfl hx).symm)) | ((with_reducible show Value.int _ (Cg.m _) = _); exact congrArg (fun i : Cg => Value.int .i64 i.m) ((lin_1 (a := (⟨b2, m2, r2⟩ : Cg)) (b := (⟨b3, m3, r3⟩ : Cg)) (w := false) rfl hx).symm)) | ((with_reducible show Value.int _ (Cg.r _) = _); exact congrArg (fun i : Cg => Value.int .i64 i.r) ((lin_1 (a := (⟨b2, m2, r2⟩ : Cg)) (b := (⟨b3, m3, r3⟩ : Cg)) (w := false) rfl hx).symm))
     . cases hz : (i1 == 0)
       . have hxn := congrArg Bool.not hx; simp only [Bool.not_true, Bool.not_false] at hxn
         have hzn := congrArg Bool.not hz; simp only [Bool.not_true, Bool.not_false] at hzn
         repeat' (first | exact trivial | (with_reducible first | exact hp0 | exact hp1 | exact hp2 | exact hp0.1 | exact hp0.2 | exact hp1.1 | exact hp1.2 | exact hp2.1 | exact hp2.2 | exact wd_ok _ | exact (wd_ok _).1.1 | exact (wd_ok _).1.2 | exact (wd_ok _).2.1 | exact (wd_ok _).2.2 | exact (fun h : false = true => absurd h (by decide)) | exact (fun h : true = false => absurd h (by decide)) | exact hp0 | exact hp1 | exact hp2 | exact hp3 | exact hp4 | exact hPP | exact hPP.1 | exact hPP.2 | exact hP.1 | exact hP.2 | exact q2.1 | exact q2.2 | exact q2.1.1 | exact q2.1.2 | exact q2.2.1 | exact q2.2.2 | exact q3.1 | exact q3.2 | exact q3.1.1 | exact q3.1.2 | exact q3.2.1 | exact q3.2.2 | exact (fun h => absurd (hx.symm.trans h) (by decide)) | exact (fun h => absurd (hz.symm.trans h) (by decide)) | exact (fun h => absurd (hxn.symm.trans h) (by decide)) | exact (fun h => absurd (hzn.symm.trans h) (by decide))) | refine ⟨?_, ?_⟩ | intro _)
         all_goals first | (with_reducible first | apply qa | apply qb | apply qc | apply qd) | (conv => whnf)
         all_goals first | (with_reducible rfl) | decide | ((with_reducible show Value.bool (Cg.some _) = _); exact congrArg (fun i : Cg => Value.bool i.some) ((lin_3 (a := (⟨b2, m2, r2⟩ : Cg)) (b := (⟨b3, m3, r3⟩ : Cg)) (w := false) rfl q2.2 q3.2 hx hz).symm)) | ((with_reducible show Value.int _ (Cg.m _) = _); exact congrArg (fun i : Cg => Value.int .i64 i.m) ((lin_3 (a := (⟨b2, m2, r2⟩ : Cg)) (b := (⟨b3, m3, r3⟩ : Cg)) (w := false) rfl q2.2 q3.2 hx hz).symm)) | ((with_reducible show Value.int _ (Cg.r _) = _); exact congrArg (fun i : Cg => Value.int .i64 i.r) ((lin_3 (a := (⟨b2, m2, r2⟩ : Cg)) (b := (⟨b3, m3, r3⟩ : Cg)) (w := false) rfl q2.2 q3.2 hx hz).symm)) | ((with_reducible show _ <= HMod.hMod _ _); exact Int.le_trans (by decide) (Int.emod_nonneg _ (ne_of_beq_false hz))) | ((with_reducible show HMod.hMod _ _ < _); exact Int.lt_trans (Int.emod_lt_of_pos _ (lt_of_nz hk0 hz)) hk1) | exact lt_of_nz hk0 hz
       . have hxn := congrArg Bool.not hx; simp only [Bool.not_true, Bool.not_false] at hxn
         have hzn := congrArg Bool.not hz; simp only [Bool.not_true, Bool.not_false] at hzn
         repeat' (first | exact trivial | (with_reducible first | exact hp0 | exact hp1 | exact hp2 | exact hp0.1 | exact hp0.2 | exact hp1.1 | exact hp1.2 | exact hp2.1 | exact hp2.2 | exact wd_ok _ | exact (wd_ok _).1.1 | exact (wd_ok _).1.2 | exact (wd_ok _).2.1 | exact (wd_ok _).2.2 | exact (fun h : false = true => absurd h (by decide)) | exact (fun h : true = false => absurd h (by decide)) | exact hp0 | exact hp1 | exact hp2 | exact hp3 | exact hp4 | exact hPP | exact hPP.1 | exact hPP.2 | exact hP.1 | exact hP.2 | exact q2.1 | exact q2.2 | exact q2.1.1 | exact q2.1.2 | exact q2.2.1 | exact q2.2.2 | exact q3.1 | exact q3.2 | exact q3.1.1 | exact q3.1.2 | exact q3.2.1 | exact q3.2.2 | exact (fun h => absurd (hx.symm.trans h) (by decide)) | exact (fun h => absurd (hz.symm.trans h) (by decide)) | exact (fun h => absurd (hxn.symm.trans h) (by decide)) | exact (fun h => absurd (hzn.symm.trans h) (by decide))) | refine ⟨?_, ?_⟩ | intro _)
         all_goals first | (with_reducible first | apply qa | apply qb | apply qc | apply qd) | (conv => whnf)
         all_goals first | (with_reducible rfl) | decide | ((with_reducible show Value.bool (Cg.some _) = _); exact congrArg (fun i : Cg => Value.bool i.some) ((lin_2 (a := (⟨b2, m2, r2⟩ : Cg)) (b := (⟨b3, m3, r3⟩ : Cg)) (w := false) rfl hz).symm)) | ((with_reducible show Value.int _ (Cg.m _) = _); exact congrArg (fun i : Cg => Value.int .i64 i.m) ((lin_2 (a := (⟨b2, m2, r2⟩ : Cg)) (b := (⟨b3, m3, r3⟩ : Cg)) (w := false) rfl hz).symm)) | ((with_reducible show Value.int _ (Cg.r _) = _); exact congrArg (fun i : Cg => Value.int .i64 i.r) ((lin_2 (a := (⟨b2, m2, r2⟩ : Cg)) (b := (⟨b3, m3, r3⟩ : Cg)) (w := false) rfl hz).symm))
   . have hk0 := hP.1
     have hk1 := hP.2
     cases hx : exB i0
     . have hxn := congrArg Bool.not hx; simp only [Bool.not_true, Bool.not_false] at hxn
       repeat' (first | exact trivial | (with_reducible first | exact hp0 | exact hp1 | exact hp2 | exact hp0.1 | exact hp0.2 | exact hp1.1 | exact hp1.2 | exact hp2.1 | exact hp2.2 | exact wd_ok _ | exact (wd_ok _).1.1 | exact (wd_ok _).1.2 | exact (wd_ok _).2.1 | exact (wd_ok _).2.2 | exact (fun h : false = true => absurd h (by decide)) | exact (fun h : true = false => absurd h (by decide)) | exact hp0 | exact hp1 | exact hp2 | exact hp3 | exact hp4 | exact hPP | exact hPP.1 | exact hPP.2 | exact hP.1 | exact hP.2 | exact q2.1 | exact q2.2 | exact q2.1.1 | exact q2.1.2 | exact q2.2.1 | exact q2.2.2 | exact q3.1 | exact q3.2 | exact q3.1.1 | exact q3.1.2 | exact q3.2.1 | exact q3.2.2 | exact (fun h => absurd (hx.symm.trans h) (by decide)) | exact (fun h => absurd (hxn.symm.trans h) (by decide))) | refine ⟨?_, ?_⟩ | intro _)
       all_goals first | (with_reducible first | apply qa | apply qb | apply qc | apply qd) | (conv => whnf)
       all_goals first | (with_reducible rfl) | decide | ((with_reducible show Value.bool (Cg.some _) = _); exact congrArg (fun i : Cg => Value.bool i.some) ((lin_1 (a := (⟨b2, m2, r2⟩ : Cg)) (b := (⟨b3, m3, r3⟩ : Cg)) (w := true) rfl hx).symm)) | ((with_reducible show Value.int _ (Cg.m _) = _); exact congrArg (fun i : Cg => Value.int .i64 i.m) ((lin_1 (a := (⟨b2, m2, r2⟩ : Cg)) (b := (⟨b3, m3, r3⟩ : Cg)) (w := true) rfl hx).symm)) | ((with_reducible show Value.int _ (Cg.r _) = _); exact congrArg (fun i : Cg => Value.int .i64 i.r) ((lin_1 (a := (⟨b2, m2, r2⟩ : Cg)) (b := (⟨b3, m3, r3⟩ : Cg)) (w := true) rfl hx).symm))
     . cases hz : (partI i1 == 0)
       . have hxn := congrArg Bool.not hx; simp only [Bool.not_true, Bool.not_false] at hxn
         have hzn := congrArg Bool.not hz; simp only [Bool.not_true, Bool.not_false] at hzn
         repeat' (first | exact trivial | (with_reducible first | exact hp0 | exact hp1 | exact hp2 | exact hp0.1 | exact hp0.2 | exact hp1.1 | exact hp1.2 | exact hp2.1 | exact hp2.2 | exact wd_ok _ | exact (wd_ok _).1.1 | exact (wd_ok _).1.2 | exact (wd_ok _).2.1 | exact (wd_ok _).2.2 | exact (fun h : false = true => absurd h (by decide)) | exact (fun h : true = false => absurd h (by decide)) | exact hp0 | exact hp1 | exact hp2 | exact hp3 | exact hp4 | exact hPP | exact hPP.1 | exact hPP.2 | exact hP.1 | exact hP.2 | exact q2.1 | exact q2.2 | exact q2.1.1 | exact q2.1.2 | exact q2.2.1 | exact q2.2.2 | exact q3.1 | exact q3.2 | exact q3.1.1 | exact q3.1.2 | exact q3.2.1 | exact q3.2.2 | exact (fun h => absurd (hx.symm.trans h) (by decide)) | exact (fun h => absurd (hz.symm.trans h) (by decide)) | exact (fun h => absurd (hxn.symm.trans h) (by decide)) | exact (fun h => absurd (hzn.symm.trans h) (by decide))) | refine ⟨?_, ?_⟩ | intro _)
         all_goals first | (with_reducible first | apply qa | apply qb | apply qc | apply qd) | (conv => whnf)
         all_goals first | (with_reducible rfl) | decide | ((with_reducible show Value.bool (Cg.some _) = _); exact congrArg (fun i : Cg => Value.bool i.some) ((lin_3 (a := (⟨b2, m2, r2⟩ : Cg)) (b := (⟨b3, m3, r3⟩ : Cg)) (w := true) rfl q2.2 q3.2 hx hz).symm)) | ((with_reducible show Value.int _ (Cg.m _) = _); exact congrArg (fun i : Cg => Value.int .i64 i.m) ((lin_3 (a := (⟨b2, m2, r2⟩ : Cg)) (b := (⟨b3, m3, r3⟩ : Cg)) (w := true) rfl q2.2 q3.2 hx hz).symm)) | ((with_reducible show Value.int _ (Cg.r _) = _); exact congrArg (fun i : Cg => Value.int .i64 i.r) ((lin_3 (a := (⟨b2, m2, r2⟩ : Cg)) (b := (⟨b3, m3, r3⟩ : Cg)) (w := true) rfl q2.2 q3.2 hx hz).symm)) | ((with_reducible show _ <= HMod.hMod _ _); exact Int.le_trans (by decide) (Int.emod_nonneg _ (ne_of_beq_false hz))) | ((with_reducible show HMod.hMod _ _ < _); exact Int.lt_trans (Int.emod_lt_of_pos _ (lt_of_nz hk0 hz)) hk1) | exact lt_of_nz hk0 hz
       . have hxn := congrArg Bool.not hx; simp only [Bool.not_true, Bool.not_false] at hxn
         have hzn := congrArg Bool.not hz; simp only [Bool.not_true, Bool.not_false] at hzn
         repeat' (first | exact trivial | (with_reducible first | exact hp0 | exact hp1 | exact hp2 | exact hp0.1 | exact hp0.2 | exact hp1.1 | exact hp1.2 | exact hp2.1 | exact hp2.2 | exact wd_ok _ | exact (wd_ok _).1.1 | exact (wd_ok _).1.2 | exact (wd_ok _).2.1 | exact (wd_ok _).2.2 | exact (fun h : false = true => absurd h (by decide)) | exact (fun h : true = false => absurd h (by decide)) | exact hp0 | exact hp1 | exact hp2 | exact hp3 | exact hp4 | exact hPP | exact hPP.1 | exact hPP.2 | exact hP.1 | exact hP.2 | exact q2.1 | exact q2.2 | exact q2.1.1 | exact q2.1.2 | exact q2.2.1 | exact q2.2.2 | exact q3.1 | exact q3.2 | exact q3.1.1 | exact q3.1.2 | exact q3.2.1 | exact q3.2.2 | exact (fun h => absurd (hx.symm.trans h) (by decide)) | exact (fun h => absurd (hz.symm.trans h) (by decide)) | exact (fun h => absurd (hxn.symm.trans h) (by decide)) | exact (fun h => absurd (hzn.symm.trans h) (by decide))) | refine ⟨?_, ?_⟩ | intro _)
         all_goals first | (with_reducible first | apply qa | apply qb | apply qc | apply qd) | (conv => whnf)
         all_goals first | (with_reducible rfl) | decide | ((with_reducible show Value.bool (Cg.some _) = _); exact congrArg (fun i : Cg => Value.bool i.some) ((lin_2 (a := (⟨b2, m2, r2⟩ : Cg)) (b := (⟨b3, m3, r3⟩ : Cg)) (w := true) rfl hz).symm)) | ((with_reducible show Value.int _ (Cg.m _) = _); exact congrArg (fun i : Cg => Value.int .i64 i.m) ((lin_2 (a := (⟨b2, m2, r2⟩ : Cg)) (b := (⟨b3, m3, r3⟩ : Cg)) (w := true) rfl hz).symm)) | ((with_reducible show Value.int _ (Cg.r _) = _); exact congrArg (fun i : Cg => Value.int .i64 i.r) ((lin_2 (a := (⟨b2, m2, r2⟩ : Cg)) (b := (⟨b3, m3, r3⟩ : Cg)) (w := true) rfl hz).symm))
 . cases h
def FRsScaled : List Ar -> Option Rs
 | [.c (.d (.v (.int .i64 i0))), .c (.d (.v (.int .i64 i1)))] => some ⟨(-9223372036854775808 <= i0 /\ i0 < 9223372036854775808) /\ (-9223372036854775808 <= i1 /\ i1 < 9223372036854775808) /\ (0 <= i0), .va (.c (.d (it (sclI i0 i1)))), []⟩
 | _ => none
theorem fcRsScaled : FC Tryz.prog 174 FRsScaled := by
 intro xs pre r us h hp
 unfold FRsScaled at h
 split at h
 . rename_i i0 i1
   cases h
   obtain ⟨hp0, hp1, hp2⟩ := hp
   refine fcat tys_ok (l := [(175, ⟨[], FRsSize⟩), (95, ⟨[], FWMul⟩), (94, ⟨[], FWInt⟩)]) ⟨fcRsSize, fcWMul, fcWInt, trivial⟩ Tryz.func174 rfl (by kernel_rfl) false ?_
   have hw : ∀ _ : decide (sizeI i1 > 9223372036854775807) = false, -9223372036854775808 <= IntKind.wrap .i64 (sizeI i1) /\ IntKind.wrap .i64 (sizeI i1) < 9223372036854775808 := fun h => by have := sc_r hp1; rw [sc_w hp1 h]; have := of_decide_eq_false h; omega
   cases hs : decide (sizeI i1 > 9223372036854775807)
   . cases hv : wIntB (wd (i0 * IntKind.wrap .i64 (sizeI i1))).val
     . have hsn := congrArg Bool.not hs; simp only [Bool.not_true, Bool.not_false] at hsn
       have hvn := congrArg Bool.not hv; simp only [Bool.not_true, Bool.not_false] at hvn
       repeat' (first | exact trivial | (with_reducible first | exact hp0 | exact hp1 | exact hp2 | exact hp0.1 | exact hp0.2 | exact hp1.1 | exact hp1.2 | exact hp2.1 | exact hp2.2 | exact wd_ok _ | exact (wd_ok _).1.1 | exact (wd_ok _).1.2 | exact (wd_ok _).2.1 | exact (wd_ok _).2.2 | exact (fun h : false = true => absurd h (by decide)) | exact (fun h : true = false => absurd h (by decide)) | exact (fun h => absurd (hs.symm.trans h) (by decide)) | exact (fun h => absurd (hv.symm.trans h) (by decide)) | exact (fun h => absurd (hsn.symm.trans h) (by decide)) | exact (fun h => absurd (hvn.symm.trans h) (by decide))) | refine ⟨?_, ?_⟩ | intro _)
       all_goals first | (with_reducible first | apply qa | apply qb | apply qc | apply qd) | (conv => whnf)
       all_goals first | (with_reducible rfl) | decide | exact (hw hs).1 | exact (hw hs).2 | exact congrArg (Value.int .i64) (sc_2 hp0 hp1 hp2 hs hv).symm
     . have hsn := congrArg Bool.not hs; simp only [Bool.not_true, Bool.not_false] at hsn
       have hvn := congrArg Bool.not hv; simp only [Bool.not_true, Bool.not_false] at hvn
       repeat' (first | exact trivial | (with_reducible first | exact hp0 | exact hp1 | exact hp2 | exact hp0.1 | exact hp0.2 | exact hp1.1 | exact hp1.2 | exact hp2.1 | exact hp2.2 | exact wd_ok _ | exact (wd_ok _).1.1 | exact (wd_ok _).1.2 | exact (wd_ok _).2.1 | exact (wd_ok _).2.2 | exact (fun h : false = true => absurd h (by decide)) | exact (fun h : true = false => absurd h (by decide)) | exact (fun h => absurd (hs.symm.trans h) (by decide)) | exact (fun h => absurd (hv.symm.trans h) (by decide)) | exact (fun h => absurd (hsn.symm.trans h) (by decide)) | exact (fun h => absurd (hvn.symm.trans h) (by decide))) | refine ⟨?_, ?_⟩ | intro _)
       all_goals first | (with_reducible first | apply qa | apply qb | apply qc | apply qd) | (conv => whnf)
       all_goals first | (with_reducible rfl) | decide | exact (hw hs).1 | exact (hw hs).2 | exact congrArg (Value.int .i64) (sc_3 hp0 hp1 hp2 hs hv).symm
   . have hsn := congrArg Bool.not hs; simp only [Bool.not_true, Bool.not_false] at hsn
     repeat' (first | exact trivial | (with_reducible first | exact hp0 | exact hp1 | exact hp2 | exact hp0.1 | exact hp0.2 | exact hp1.1 | exact hp1.2 | exact hp2.1 | exact hp2.2 | exact wd_ok _ | exact (wd_ok _).1.1 | exact (wd_ok _).1.2 | exact (wd_ok _).2.1 | exact (wd_ok _).2.2 | exact (fun h : false = true => absurd h (by decide)) | exact (fun h : true = false => absurd h (by decide)) | exact (fun h => absurd (hs.symm.trans h) (by decide)) | exact (fun h => absurd (hsn.symm.trans h) (by decide))) | refine ⟨?_, ?_⟩ | intro _)
     all_goals first | (with_reducible first | apply qa | apply qb | apply qc | apply qd) | (conv => whnf)
     all_goals first | (with_reducible rfl) | decide | exact congrArg (Value.int .i64) (sc_1 hs).symm
 . cases h
def FRsProduct : List Ar -> Option Rs
 | [.agg [.d (.v (.bool b0)), .d (.v (.int .i64 m0)), .d (.v (.int .i64 r0))], .agg [.d (.v (.bool b1)), .d (.v (.int .i64 m1)), .d (.v (.int .i64 r1))], .c (.d (.v (.bool b2)))] => some ⟨(Cg.inR ⟨b0, m0, r0⟩) /\ (Cg.inR ⟨b1, m1, r1⟩) /\ (0 <= m0 /\ 0 <= m1), .va (Cg.ar (prodC (⟨b0, m0, r0⟩ : Cg) (⟨b1, m1, r1⟩ : Cg) b2)), []⟩
 | _ => none
theorem fcRsProduct : FC Tryz.prog 149 FRsProduct := by
 intro xs pre r us h hp
 unfold FRsProduct at h
 split at h
 . rename_i b0 m0 r0 b1 m1 r1 b2
   cases h
   obtain ⟨hp0, hp1, hp2⟩ := hp
   refine fcat tys_ok (l := [(120, ⟨[], FRsAlone⟩), (64, ⟨[], FCOne⟩), (174, ⟨[], FRsScaled⟩), (147, ⟨[], FRsLinear⟩), (148, ⟨[], FRsGcd⟩)]) ⟨fcRsAlone, fcCOne, fcRsScaled, fcRsLinear, fcRsGcd, trivial⟩ Tryz.func149 rfl (by kernel_rfl) false ?_
   have q0 := hp0; unfold Cg.inR at q0; dsimp only at q0
   have q1 := hp1; unfold Cg.inR at q1; dsimp only at q1
   have hg := gcd_r q0.1 q1.1 hp2
   have hg2 := gcd_r q1.1 q0.1 hp2.symm
   have hs1 := scl_r (c := r1) q0.1 hp2.1
   have hs2 := scl_r (c := r0) q1.1 hp2.2
   cases hA : (m0 != 0)
   . cases hl : alC (⟨b0, m0, r0⟩ : Cg) 0
     . cases hm : (m0 == 0)
       . have hAn := congrArg Bool.not hA; simp only [Bool.not_true, Bool.not_false] at hAn
         have hln := congrArg Bool.not hl; simp only [Bool.not_true, Bool.not_false] at hln
         have hmn := congrArg Bool.not hm; simp only [Bool.not_true, Bool.not_false] at hmn
         repeat' (first | exact trivial | (with_reducible first | exact hp0 | exact hp1 | exact hp2 | exact hp0.1 | exact hp0.2 | exact hp1.1 | exact hp1.2 | exact hp2.1 | exact hp2.2 | exact wd_ok _ | exact (wd_ok _).1.1 | exact (wd_ok _).1.2 | exact (wd_ok _).2.1 | exact (wd_ok _).2.2 | exact (fun h : false = true => absurd h (by decide)) | exact (fun h : true = false => absurd h (by decide)) | exact hp0 | exact hp1 | exact hp2.1 | exact hp2.2 | exact hp2 | exact hp2.symm | exact hg.1 | exact hg.2 | exact hg.1.1 | exact hg.1.2 | exact hg2.1 | exact hg2.2 | exact hg2.1.1 | exact hg2.1.2 | exact hs1.1 | exact hs1.2 | exact hs1.1.1 | exact hs1.1.2 | exact hs2.1 | exact hs2.2 | exact hs2.1.1 | exact hs2.1.2 | exact q0.1 | exact q0.2 | exact q0.1.1 | exact q0.1.2 | exact q0.2.1 | exact q0.2.2 | exact q1.1 | exact q1.2 | exact q1.1.1 | exact q1.1.2 | exact q1.2.1 | exact q1.2.2 | exact (fun h => absurd (hA.symm.trans h) (by decide)) | exact (fun h => absurd (hl.symm.trans h) (by decide)) | exact (fun h => absurd (hm.symm.trans h) (by decide)) | exact (fun h => absurd (hAn.symm.trans h) (by decide)) | exact (fun h => absurd (hln.symm.trans h) (by decide)) | exact (fun h => absurd (hmn.symm.trans h) (by decide))) | refine ⟨?_, ?_⟩ | intro _)
         all_goals first | (with_reducible first | apply qa | apply qb | apply qc | apply qd) | (conv => whnf)
         all_goals first | (with_reducible rfl) | decide | ((with_reducible show Value.bool (Cg.some _) = _); exact congrArg (fun i : Cg => Value.bool i.some) (((pr_n1 (a := (⟨b0, m0, r0⟩ : Cg)) (b := (⟨b1, m1, r1⟩ : Cg)) (w := b2) hA).trans (p0_3 (a := (⟨b0, m0, r0⟩ : Cg)) (b := (⟨b1, m1, r1⟩ : Cg)) (w := b2) hl hm)).symm)) | ((with_reducible show Value.int _ (Cg.m _) = _); exact congrArg (fun i : Cg => Value.int .i64 i.m) (((pr_n1 (a := (⟨b0, m0, r0⟩ : Cg)) (b := (⟨b1, m1, r1⟩ : Cg)) (w := b2) hA).trans (p0_3 (a := (⟨b0, m0, r0⟩ : Cg)) (b := (⟨b1, m1, r1⟩ : Cg)) (w := b2) hl hm)).symm)) | ((with_reducible show Value.int _ (Cg.r _) = _); exact congrArg (fun i : Cg => Value.int .i64 i.r) (((pr_n1 (a := (⟨b0, m0, r0⟩ : Cg)) (b := (⟨b1, m1, r1⟩ : Cg)) (w := b2) hA).trans (p0_3 (a := (⟨b0, m0, r0⟩ : Cg)) (b := (⟨b1, m1, r1⟩ : Cg)) (w := b2) hl hm)).symm))
       . have hAn := congrArg Bool.not hA; simp only [Bool.not_true, Bool.not_false] at hAn
         have hln := congrArg Bool.not hl; simp only [Bool.not_true, Bool.not_false] at hln
         have hmn := congrArg Bool.not hm; simp only [Bool.not_true, Bool.not_false] at hmn
         repeat' (first | exact trivial | (with_reducible first | exact hp0 | exact hp1 | exact hp2 | exact hp0.1 | exact hp0.2 | exact hp1.1 | exact hp1.2 | exact hp2.1 | exact hp2.2 | exact wd_ok _ | exact (wd_ok _).1.1 | exact (wd_ok _).1.2 | exact (wd_ok _).2.1 | exact (wd_ok _).2.2 | exact (fun h : false = true => absurd h (by decide)) | exact (fun h : true = false => absurd h (by decide)) | exact hp0 | exact hp1 | exact hp2.1 | exact hp2.2 | exact hp2 | exact hp2.symm | exact hg.1 | exact hg.2 | exact hg.1.1 | exact hg.1.2 | exact hg2.1 | exact hg2.2 | exact hg2.1.1 | exact hg2.1.2 | exact hs1.1 | exact hs1.2 | exact hs1.1.1 | exact hs1.1.2 | exact hs2.1 | exact hs2.2 | exact hs2.1.1 | exact hs2.1.2 | exact q0.1 | exact q0.2 | exact q0.1.1 | exact q0.1.2 | exact q0.2.1 | exact q0.2.2 | exact q1.1 | exact q1.2 | exact q1.1.1 | exact q1.1.2 | exact q1.2.1 | exact q1.2.2 | exact (fun h => absurd (hA.symm.trans h) (by decide)) | exact (fun h => absurd (hl.symm.trans h) (by decide)) | exact (fun h => absurd (hm.symm.trans h) (by decide)) | exact (fun h => absurd (hAn.symm.trans h) (by decide)) | exact (fun h => absurd (hln.symm.trans h) (by decide)) | exact (fun h => absurd (hmn.symm.trans h) (by decide))) | refine ⟨?_, ?_⟩ | intro _)
         all_goals first | (with_reducible first | apply qa | apply qb | apply qc | apply qd) | (conv => whnf)
         all_goals first | (with_reducible rfl) | decide | ((with_reducible show Value.bool (Cg.some _) = _); exact congrArg (fun i : Cg => Value.bool i.some) (((pr_n1 (a := (⟨b0, m0, r0⟩ : Cg)) (b := (⟨b1, m1, r1⟩ : Cg)) (w := b2) hA).trans (p0_2 (a := (⟨b0, m0, r0⟩ : Cg)) (b := (⟨b1, m1, r1⟩ : Cg)) (w := b2) hl hm)).symm)) | ((with_reducible show Value.int _ (Cg.m _) = _); exact congrArg (fun i : Cg => Value.int .i64 i.m) (((pr_n1 (a := (⟨b0, m0, r0⟩ : Cg)) (b := (⟨b1, m1, r1⟩ : Cg)) (w := b2) hA).trans (p0_2 (a := (⟨b0, m0, r0⟩ : Cg)) (b := (⟨b1, m1, r1⟩ : Cg)) (w := b2) hl hm)).symm)) | ((with_reducible show Value.int _ (Cg.r _) = _); exact congrArg (fun i : Cg => Value.int .i64 i.r) (((pr_n1 (a := (⟨b0, m0, r0⟩ : Cg)) (b := (⟨b1, m1, r1⟩ : Cg)) (w := b2) hA).trans (p0_2 (a := (⟨b0, m0, r0⟩ : Cg)) (b := (⟨b1, m1, r1⟩ : Cg)) (w := b2) hl hm)).symm))
     . have hAn := congrArg Bool.not hA; simp only [Bool.not_true, Bool.not_false] at hAn
       have hln := congrArg Bool.not hl; simp only [Bool.not_true, Bool.not_false] at hln
       repeat' (first | exact trivial | (with_reducible first | exact hp0 | exact hp1 | exact hp2 | exact hp0.1 | exact hp0.2 | exact hp1.1 | exact hp1.2 | exact hp2.1 | exact hp2.2 | exact wd_ok _ | exact (wd_ok _).1.1 | exact (wd_ok _).1.2 | exact (wd_ok _).2.1 | exact (wd_ok _).2.2 | exact (fun h : false = true => absurd h (by decide)) | exact (fun h : true = false => absurd h (by decide)) | exact hp0 | exact hp1 | exact hp2.1 | exact hp2.2 | exact hp2 | exact hp2.symm | exact hg.1 | exact hg.2 | exact hg.1.1 | exact hg.1.2 | exact hg2.1 | exact hg2.2 | exact hg2.1.1 | exact hg2.1.2 | exact hs1.1 | exact hs1.2 | exact hs1.1.1 | exact hs1.1.2 | exact hs2.1 | exact hs2.2 | exact hs2.1.1 | exact hs2.1.2 | exact q0.1 | exact q0.2 | exact q0.1.1 | exact q0.1.2 | exact q0.2.1 | exact q0.2.2 | exact q1.1 | exact q1.2 | exact q1.1.1 | exact q1.1.2 | exact q1.2.1 | exact q1.2.2 | exact (fun h => absurd (hA.symm.trans h) (by decide)) | exact (fun h => absurd (hl.symm.trans h) (by decide)) | exact (fun h => absurd (hAn.symm.trans h) (by decide)) | exact (fun h => absurd (hln.symm.trans h) (by decide))) | refine ⟨?_, ?_⟩ | intro _)
       all_goals first | (with_reducible first | apply qa | apply qb | apply qc | apply qd) | (conv => whnf)
       all_goals first | (with_reducible rfl) | decide | ((with_reducible show Value.bool (Cg.some _) = _); exact congrArg (fun i : Cg => Value.bool i.some) (((pr_n1 (a := (⟨b0, m0, r0⟩ : Cg)) (b := (⟨b1, m1, r1⟩ : Cg)) (w := b2) hA).trans (p0_1 (a := (⟨b0, m0, r0⟩ : Cg)) (b := (⟨b1, m1, r1⟩ : Cg)) (w := b2) hl)).symm)) | ((with_reducible show Value.int _ (Cg.m _) = _); exact congrArg (fun i : Cg => Value.int .i64 i.m) (((pr_n1 (a := (⟨b0, m0, r0⟩ : Cg)) (b := (⟨b1, m1, r1⟩ : Cg)) (w := b2) hA).trans (p0_1 (a := (⟨b0, m0, r0⟩ : Cg)) (b := (⟨b1, m1, r1⟩ : Cg)) (w := b2) hl)).symm)) | ((with_reducible show Value.int _ (Cg.r _) = _); exact congrArg (fun i : Cg => Value.int .i64 i.r) (((pr_n1 (a := (⟨b0, m0, r0⟩ : Cg)) (b := (⟨b1, m1, r1⟩ : Cg)) (w := b2) hA).trans (p0_1 (a := (⟨b0, m0, r0⟩ : Cg)) (b := (⟨b1, m1, r1⟩ : Cg)) (w := b2) hl)).symm))
   . cases hB : (m1 == 0)
     . cases hl : alC (⟨b0, m0, r0⟩ : Cg) 0
       . cases hm : (m0 == 0)
         . have hAn := congrArg Bool.not hA; simp only [Bool.not_true, Bool.not_false] at hAn
           have hBn := congrArg Bool.not hB; simp only [Bool.not_true, Bool.not_false] at hBn
           have hln := congrArg Bool.not hl; simp only [Bool.not_true, Bool.not_false] at hln
           have hmn := congrArg Bool.not hm; simp only [Bool.not_true, Bool.not_false] at hmn
           repeat' (first | exact trivial | (with_reducible first | exact hp0 | exact hp1 | exact hp2 | exact hp0.1 | exact hp0.2 | exact hp1.1 | exact hp1.2 | exact hp2.1 | exact hp2.2 | exact wd_ok _ | exact (wd_ok _).1.1 | exact (wd_ok _).1.2 | exact (wd_ok _).2.1 | exact (wd_ok _).2.2 | exact (fun h : false = true => absurd h (by decide)) | exact (fun h : true = false => absurd h (by decide)) | exact hp0 | exact hp1 | exact hp2.1 | exact hp2.2 | exact hp2 | exact hp2.symm | exact hg.1 | exact hg.2 | exact hg.1.1 | exact hg.1.2 | exact hg2.1 | exact hg2.2 | exact hg2.1.1 | exact hg2.1.2 | exact hs1.1 | exact hs1.2 | exact hs1.1.1 | exact hs1.1.2 | exact hs2.1 | exact hs2.2 | exact hs2.1.1 | exact hs2.1.2 | exact q0.1 | exact q0.2 | exact q0.1.1 | exact q0.1.2 | exact q0.2.1 | exact q0.2.2 | exact q1.1 | exact q1.2 | exact q1.1.1 | exact q1.1.2 | exact q1.2.1 | exact q1.2.2 | exact (fun h => absurd (hA.symm.trans h) (by decide)) | exact (fun h => absurd (hB.symm.trans h) (by decide)) | exact (fun h => absurd (hl.symm.trans h) (by decide)) | exact (fun h => absurd (hm.symm.trans h) (by decide)) | exact (fun h => absurd (hAn.symm.trans h) (by decide)) | exact (fun h => absurd (hBn.symm.trans h) (by decide)) | exact (fun h => absurd (hln.symm.trans h) (by decide)) | exact (fun h => absurd (hmn.symm.trans h) (by decide))) | refine ⟨?_, ?_⟩ | intro _)
           all_goals first | (with_reducible first | apply qa | apply qb | apply qc | apply qd) | (conv => whnf)
           all_goals first | (with_reducible rfl) | decide | ((with_reducible show Value.bool (Cg.some _) = _); exact congrArg (fun i : Cg => Value.bool i.some) (((pr_n2 (a := (⟨b0, m0, r0⟩ : Cg)) (b := (⟨b1, m1, r1⟩ : Cg)) (w := b2) hB).trans (p0_3 (a := (⟨b0, m0, r0⟩ : Cg)) (b := (⟨b1, m1, r1⟩ : Cg)) (w := b2) hl hm)).symm)) | ((with_reducible show Value.int _ (Cg.m _) = _); exact congrArg (fun i : Cg => Value.int .i64 i.m) (((pr_n2 (a := (⟨b0, m0, r0⟩ : Cg)) (b := (⟨b1, m1, r1⟩ : Cg)) (w := b2) hB).trans (p0_3 (a := (⟨b0, m0, r0⟩ : Cg)) (b := (⟨b1, m1, r1⟩ : Cg)) (w := b2) hl hm)).symm)) | ((with_reducible show Value.int _ (Cg.r _) = _); exact congrArg (fun i : Cg => Value.int .i64 i.r) (((pr_n2 (a := (⟨b0, m0, r0⟩ : Cg)) (b := (⟨b1, m1, r1⟩ : Cg)) (w := b2) hB).trans (p0_3 (a := (⟨b0, m0, r0⟩ : Cg)) (b := (⟨b1, m1, r1⟩ : Cg)) (w := b2) hl hm)).symm))
         . have hAn := congrArg Bool.not hA; simp only [Bool.not_true, Bool.not_false] at hAn
           have hBn := congrArg Bool.not hB; simp only [Bool.not_true, Bool.not_false] at hBn
           have hln := congrArg Bool.not hl; simp only [Bool.not_true, Bool.not_false] at hln
           have hmn := congrArg Bool.not hm; simp only [Bool.not_true, Bool.not_false] at hmn
           repeat' (first | exact trivial | (with_reducible first | exact hp0 | exact hp1 | exact hp2 | exact hp0.1 | exact hp0.2 | exact hp1.1 | exact hp1.2 | exact hp2.1 | exact hp2.2 | exact wd_ok _ | exact (wd_ok _).1.1 | exact (wd_ok _).1.2 | exact (wd_ok _).2.1 | exact (wd_ok _).2.2 | exact (fun h : false = true => absurd h (by decide)) | exact (fun h : true = false => absurd h (by decide)) | exact hp0 | exact hp1 | exact hp2.1 | exact hp2.2 | exact hp2 | exact hp2.symm | exact hg.1 | exact hg.2 | exact hg.1.1 | exact hg.1.2 | exact hg2.1 | exact hg2.2 | exact hg2.1.1 | exact hg2.1.2 | exact hs1.1 | exact hs1.2 | exact hs1.1.1 | exact hs1.1.2 | exact hs2.1 | exact hs2.2 | exact hs2.1.1 | exact hs2.1.2 | exact q0.1 | exact q0.2 | exact q0.1.1 | exact q0.1.2 | exact q0.2.1 | exact q0.2.2 | exact q1.1 | exact q1.2 | exact q1.1.1 | exact q1.1.2 | exact q1.2.1 | exact q1.2.2 | exact (fun h => absurd (hA.symm.trans h) (by decide)) | exact (fun h => absurd (hB.symm.trans h) (by decide)) | exact (fun h => absurd (hl.symm.trans h) (by decide)) | exact (fun h => absurd (hm.symm.trans h) (by decide)) | exact (fun h => absurd (hAn.symm.trans h) (by decide)) | exact (fun h => absurd (hBn.symm.trans h) (by decide)) | exact (fun h => absurd (hln.symm.trans h) (by decide)) | exact (fun h => absurd (hmn.symm.trans h) (by decide))) | refine ⟨?_, ?_⟩ | intro _)
           all_goals first | (with_reducible first | apply qa | apply qb | apply qc | apply qd) | (conv => whnf)
           all_goals first | (with_reducible rfl) | decide | ((with_reducible show Value.bool (Cg.some _) = _); exact congrArg (fun i : Cg => Value.bool i.some) (((pr_n2 (a := (⟨b0, m0, r0⟩ : Cg)) (b := (⟨b1, m1, r1⟩ : Cg)) (w := b2) hB).trans (p0_2 (a := (⟨b0, m0, r0⟩ : Cg)) (b := (⟨b1, m1, r1⟩ : Cg)) (w := b2) hl hm)).symm)) | ((with_reducible show Value.int _ (Cg.m _) = _); exact congrArg (fun i : Cg => Value.int .i64 i.m) (((pr_n2 (a := (⟨b0, m0, r0⟩ : Cg)) (b := (⟨b1, m1, r1⟩ : Cg)) (w := b2) hB).trans (p0_2 (a := (⟨b0, m0, r0⟩ : Cg)) (b := (⟨b1, m1, r1⟩ : Cg)) (w := b2) hl hm)).symm)) | ((with_reducible show Value.int _ (Cg.r _) = _); exact congrArg (fun i : Cg => Value.int .i64 i.r) (((pr_n2 (a := (⟨b0, m0, r0⟩ : Cg)) (b := (⟨b1, m1, r1⟩ : Cg)) (w := b2) hB).trans (p0_2 (a := (⟨b0, m0, r0⟩ : Cg)) (b := (⟨b1, m1, r1⟩ : Cg)) (w := b2) hl hm)).symm))
       . have hAn := congrArg Bool.not hA; simp only [Bool.not_true, Bool.not_false] at hAn
         have hBn := congrArg Bool.not hB; simp only [Bool.not_true, Bool.not_false] at hBn
         have hln := congrArg Bool.not hl; simp only [Bool.not_true, Bool.not_false] at hln
         repeat' (first | exact trivial | (with_reducible first | exact hp0 | exact hp1 | exact hp2 | exact hp0.1 | exact hp0.2 | exact hp1.1 | exact hp1.2 | exact hp2.1 | exact hp2.2 | exact wd_ok _ | exact (wd_ok _).1.1 | exact (wd_ok _).1.2 | exact (wd_ok _).2.1 | exact (wd_ok _).2.2 | exact (fun h : false = true => absurd h (by decide)) | exact (fun h : true = false => absurd h (by decide)) | exact hp0 | exact hp1 | exact hp2.1 | exact hp2.2 | exact hp2 | exact hp2.symm | exact hg.1 | exact hg.2 | exact hg.1.1 | exact hg.1.2 | exact hg2.1 | exact hg2.2 | exact hg2.1.1 | exact hg2.1.2 | exact hs1.1 | exact hs1.2 | exact hs1.1.1 | exact hs1.1.2 | exact hs2.1 | exact hs2.2 | exact hs2.1.1 | exact hs2.1.2 | exact q0.1 | exact q0.2 | exact q0.1.1 | exact q0.1.2 | exact q0.2.1 | exact q0.2.2 | exact q1.1 | exact q1.2 | exact q1.1.1 | exact q1.1.2 | exact q1.2.1 | exact q1.2.2 | exact (fun h => absurd (hA.symm.trans h) (by decide)) | exact (fun h => absurd (hB.symm.trans h) (by decide)) | exact (fun h => absurd (hl.symm.trans h) (by decide)) | exact (fun h => absurd (hAn.symm.trans h) (by decide)) | exact (fun h => absurd (hBn.symm.trans h) (by decide)) | exact (fun h => absurd (hln.symm.trans h) (by decide))) | refine ⟨?_, ?_⟩ | intro _)
         all_goals first | (with_reducible first | apply qa | apply qb | apply qc | apply qd) | (conv => whnf)
         all_goals first | (with_reducible rfl) | decide | ((with_reducible show Value.bool (Cg.some _) = _); exact congrArg (fun i : Cg => Value.bool i.some) (((pr_n2 (a := (⟨b0, m0, r0⟩ : Cg)) (b := (⟨b1, m1, r1⟩ : Cg)) (w := b2) hB).trans (p0_1 (a := (⟨b0, m0, r0⟩ : Cg)) (b := (⟨b1, m1, r1⟩ : Cg)) (w := b2) hl)).symm)) | ((with_reducible show Value.int _ (Cg.m _) = _); exact congrArg (fun i : Cg => Value.int .i64 i.m) (((pr_n2 (a := (⟨b0, m0, r0⟩ : Cg)) (b := (⟨b1, m1, r1⟩ : Cg)) (w := b2) hB).trans (p0_1 (a := (⟨b0, m0, r0⟩ : Cg)) (b := (⟨b1, m1, r1⟩ : Cg)) (w := b2) hl)).symm)) | ((with_reducible show Value.int _ (Cg.r _) = _); exact congrArg (fun i : Cg => Value.int .i64 i.r) (((pr_n2 (a := (⟨b0, m0, r0⟩ : Cg)) (b := (⟨b1, m1, r1⟩ : Cg)) (w := b2) hB).trans (p0_1 (a := (⟨b0, m0, r0⟩ : Cg)) (b := (⟨b1, m1, r1⟩ : Cg)) (w := b2) hl)).symm))
     . cases hl : alC (⟨b1, m1, r1⟩ : Cg) 0
       . cases hm : (m1 == 0)
         . have hAn := congrArg Bool.not hA; simp only [Bool.not_true, Bool.not_false] at hAn
           have hBn := congrArg Bool.not hB; simp only [Bool.not_true, Bool.not_false] at hBn
           have hln := congrArg Bool.not hl; simp only [Bool.not_true, Bool.not_false] at hln
           have hmn := congrArg Bool.not hm; simp only [Bool.not_true, Bool.not_false] at hmn
           repeat' (first | exact trivial | (with_reducible first | exact hp0 | exact hp1 | exact hp2 | exact hp0.1 | exact hp0.2 | exact hp1.1 | exact hp1.2 | exact hp2.1 | exact hp2.2 | exact wd_ok _ | exact (wd_ok _).1.1 | exact (wd_ok _).1.2 | exact (wd_ok _).2.1 | exact (wd_ok _).2.2 | exact (fun h : false = true => absurd h (by decide)) | exact (fun h : true = false => absurd h (by decide)) | exact hp0 | exact hp1 | exact hp2.1 | exact hp2.2 | exact hp2 | exact hp2.symm | exact hg.1 | exact hg.2 | exact hg.1.1 | exact hg.1.2 | exact hg2.1 | exact hg2.2 | exact hg2.1.1 | exact hg2.1.2 | exact hs1.1 | exact hs1.2 | exact hs1.1.1 | exact hs1.1.2 | exact hs2.1 | exact hs2.2 | exact hs2.1.1 | exact hs2.1.2 | exact q0.1 | exact q0.2 | exact q0.1.1 | exact q0.1.2 | exact q0.2.1 | exact q0.2.2 | exact q1.1 | exact q1.2 | exact q1.1.1 | exact q1.1.2 | exact q1.2.1 | exact q1.2.2 | exact (fun h => absurd (hA.symm.trans h) (by decide)) | exact (fun h => absurd (hB.symm.trans h) (by decide)) | exact (fun h => absurd (hl.symm.trans h) (by decide)) | exact (fun h => absurd (hm.symm.trans h) (by decide)) | exact (fun h => absurd (hAn.symm.trans h) (by decide)) | exact (fun h => absurd (hBn.symm.trans h) (by decide)) | exact (fun h => absurd (hln.symm.trans h) (by decide)) | exact (fun h => absurd (hmn.symm.trans h) (by decide))) | refine ⟨?_, ?_⟩ | intro _)
           all_goals first | (with_reducible first | apply qa | apply qb | apply qc | apply qd) | (conv => whnf)
           all_goals first | (with_reducible rfl) | decide | ((with_reducible show Value.bool (Cg.some _) = _); exact congrArg (fun i : Cg => Value.bool i.some) (((pr_s (a := (⟨b0, m0, r0⟩ : Cg)) (b := (⟨b1, m1, r1⟩ : Cg)) (w := b2) hA hB).trans (p0_3 (a := (⟨b1, m1, r1⟩ : Cg)) (b := (⟨b0, m0, r0⟩ : Cg)) (w := b2) hl hm)).symm)) | ((with_reducible show Value.int _ (Cg.m _) = _); exact congrArg (fun i : Cg => Value.int .i64 i.m) (((pr_s (a := (⟨b0, m0, r0⟩ : Cg)) (b := (⟨b1, m1, r1⟩ : Cg)) (w := b2) hA hB).trans (p0_3 (a := (⟨b1, m1, r1⟩ : Cg)) (b := (⟨b0, m0, r0⟩ : Cg)) (w := b2) hl hm)).symm)) | ((with_reducible show Value.int _ (Cg.r _) = _); exact congrArg (fun i : Cg => Value.int .i64 i.r) (((pr_s (a := (⟨b0, m0, r0⟩ : Cg)) (b := (⟨b1, m1, r1⟩ : Cg)) (w := b2) hA hB).trans (p0_3 (a := (⟨b1, m1, r1⟩ : Cg)) (b := (⟨b0, m0, r0⟩ : Cg)) (w := b2) hl hm)).symm))
         . have hAn := congrArg Bool.not hA; simp only [Bool.not_true, Bool.not_false] at hAn
           have hBn := congrArg Bool.not hB; simp only [Bool.not_true, Bool.not_false] at hBn
           have hln := congrArg Bool.not hl; simp only [Bool.not_true, Bool.not_false] at hln
           have hmn := congrArg Bool.not hm; simp only [Bool.not_true, Bool.not_false] at hmn
           repeat' (first | exact trivial | (with_reducible first | exact hp0 | exact hp1 | exact hp2 | exact hp0.1 | exact hp0.2 | exact hp1.1 | exact hp1.2 | exact hp2.1 | exact hp2.2 | exact wd_ok _ | exact (wd_ok _).1.1 | exact (wd_ok _).1.2 | exact (wd_ok _).2.1 | exact (wd_ok _).2.2 | exact (fun h : false = true => absurd h (by decide)) | exact (fun h : true = false => absurd h (by decide)) | exact hp0 | exact hp1 | exact hp2.1 | exact hp2.2 | exact hp2 | exact hp2.symm | exact hg.1 | exact hg.2 | exact hg.1.1 | exact hg.1.2 | exact hg2.1 | exact hg2.2 | exact hg2.1.1 | exact hg2.1.2 | exact hs1.1 | exact hs1.2 | exact hs1.1.1 | exact hs1.1.2 | exact hs2.1 | exact hs2.2 | exact hs2.1.1 | exact hs2.1.2 | exact q0.1 | exact q0.2 | exact q0.1.1 | exact q0.1.2 | exact q0.2.1 | exact q0.2.2 | exact q1.1 | exact q1.2 | exact q1.1.1 | exact q1.1.2 | exact q1.2.1 | exact q1.2.2 | exact (fun h => absurd (hA.symm.trans h) (by decide)) | exact (fun h => absurd (hB.symm.trans h) (by decide)) | exact (fun h => absurd (hl.symm.trans h) (by decide)) | exact (fun h => absurd (hm.symm.trans h) (by decide)) | exact (fun h => absurd (hAn.symm.trans h) (by decide)) | exact (fun h => absurd (hBn.symm.trans h) (by decide)) | exact (fun h => absurd (hln.symm.trans h) (by decide)) | exact (fun h => absurd (hmn.symm.trans h) (by decide))) | refine ⟨?_, ?_⟩ | intro _)
           all_goals first | (with_reducible first | apply qa | apply qb | apply qc | apply qd) | (conv => whnf)
           all_goals first | (with_reducible rfl) | decide | ((with_reducible show Value.bool (Cg.some _) = _); exact congrArg (fun i : Cg => Value.bool i.some) (((pr_s (a := (⟨b0, m0, r0⟩ : Cg)) (b := (⟨b1, m1, r1⟩ : Cg)) (w := b2) hA hB).trans (p0_2 (a := (⟨b1, m1, r1⟩ : Cg)) (b := (⟨b0, m0, r0⟩ : Cg)) (w := b2) hl hm)).symm)) | ((with_reducible show Value.int _ (Cg.m _) = _); exact congrArg (fun i : Cg => Value.int .i64 i.m) (((pr_s (a := (⟨b0, m0, r0⟩ : Cg)) (b := (⟨b1, m1, r1⟩ : Cg)) (w := b2) hA hB).trans (p0_2 (a := (⟨b1, m1, r1⟩ : Cg)) (b := (⟨b0, m0, r0⟩ : Cg)) (w := b2) hl hm)).symm)) | ((with_reducible show Value.int _ (Cg.r _) = _); exact congrArg (fun i : Cg => Value.int .i64 i.r) (((pr_s (a := (⟨b0, m0, r0⟩ : Cg)) (b := (⟨b1, m1, r1⟩ : Cg)) (w := b2) hA hB).trans (p0_2 (a := (⟨b1, m1, r1⟩ : Cg)) (b := (⟨b0, m0, r0⟩ : Cg)) (w := b2) hl hm)).symm))
       . have hAn := congrArg Bool.not hA; simp only [Bool.not_true, Bool.not_false] at hAn
         have hBn := congrArg Bool.not hB; simp only [Bool.not_true, Bool.not_false] at hBn
         have hln := congrArg Bool.not hl; simp only [Bool.not_true, Bool.not_false] at hln
         repeat' (first | exact trivial | (with_reducible first | exact hp0 | exact hp1 | exact hp2 | exact hp0.1 | exact hp0.2 | exact hp1.1 | exact hp1.2 | exact hp2.1 | exact hp2.2 | exact wd_ok _ | exact (wd_ok _).1.1 | exact (wd_ok _).1.2 | exact (wd_ok _).2.1 | exact (wd_ok _).2.2 | exact (fun h : false = true => absurd h (by decide)) | exact (fun h : true = false => absurd h (by decide)) | exact hp0 | exact hp1 | exact hp2.1 | exact hp2.2 | exact hp2 | exact hp2.symm | exact hg.1 | exact hg.2 | exact hg.1.1 | exact hg.1.2 | exact hg2.1 | exact hg2.2 | exact hg2.1.1 | exact hg2.1.2 | exact hs1.1 | exact hs1.2 | exact hs1.1.1 | exact hs1.1.2 | exact hs2.1 | exact hs2.2 | exact hs2.1.1 | exact hs2.1.2 | exact q0.1 | exact q0.2 | exact q0.1.1 | exact q0.1.2 | exact q0.2.1 | exact q0.2.2 | exact q1.1 | exact q1.2 | exact q1.1.1 | exact q1.1.2 | exact q1.2.1 | exact q1.2.2 | exact (fun h => absurd (hA.symm.trans h) (by decide)) | exact (fun h => absurd (hB.symm.trans h) (by decide)) | exact (fun h => absurd (hl.symm.trans h) (by decide)) | exact (fun h => absurd (hAn.symm.trans h) (by decide)) | exact (fun h => absurd (hBn.symm.trans h) (by decide)) | exact (fun h => absurd (hln.symm.trans h) (by decide))) | refine ⟨?_, ?_⟩ | intro _)
         all_goals first | (with_reducible first | apply qa | apply qb | apply qc | apply qd) | (conv => whnf)
         all_goals first | (with_reducible rfl) | decide | ((with_reducible show Value.bool (Cg.some _) = _); exact congrArg (fun i : Cg => Value.bool i.some) (((pr_s (a := (⟨b0, m0, r0⟩ : Cg)) (b := (⟨b1, m1, r1⟩ : Cg)) (w := b2) hA hB).trans (p0_1 (a := (⟨b1, m1, r1⟩ : Cg)) (b := (⟨b0, m0, r0⟩ : Cg)) (w := b2) hl)).symm)) | ((with_reducible show Value.int _ (Cg.m _) = _); exact congrArg (fun i : Cg => Value.int .i64 i.m) (((pr_s (a := (⟨b0, m0, r0⟩ : Cg)) (b := (⟨b1, m1, r1⟩ : Cg)) (w := b2) hA hB).trans (p0_1 (a := (⟨b1, m1, r1⟩ : Cg)) (b := (⟨b0, m0, r0⟩ : Cg)) (w := b2) hl)).symm)) | ((with_reducible show Value.int _ (Cg.r _) = _); exact congrArg (fun i : Cg => Value.int .i64 i.r) (((pr_s (a := (⟨b0, m0, r0⟩ : Cg)) (b := (⟨b1, m1, r1⟩ : Cg)) (w := b2) hA hB).trans (p0_1 (a := (⟨b1, m1, r1⟩ : Cg)) (b := (⟨b0, m0, r0⟩ : Cg)) (w := b2) hl)).symm))
 . cases h
theorem w64_r (x : Int) : -9223372036854775808 <= IntKind.wrap .i64 x /\ IntKind.wrap .i64 x < 9223372036854775808 := by rw [wI]; omega
theorem wu_r (x : Int) : 0 <= IntKind.wrap .u64 x /\ IntKind.wrap .u64 x < 18446744073709551616 := by rw [wU]; omega
theorem sz_r {c : Int} (h : -9223372036854775808 <= c /\ c < 9223372036854775808) : 0 <= sizeI c /\ sizeI c < 18446744073709551616 := by have := sc_r h; omega
theorem size0 {c : Int} (h : c ≠ 0) : sizeI c ≠ 0 := by have := size_pos h; omega
section
variable {a b : Cg} {w : Bool}
theorem al_r (h : alC b 0 = false) (hm : (b.m != 0) = false) : b.r ≠ 0 := by
 intro e; unfold alC at h; simp at h hm; exact h hm e
theorem qu_1 (h : alC b 0 = true) : quoC a b w = Cg.none := by unfold quoC; rw [if_pos h]
theorem qu_2 (h : alC b 0 = false) (hm : (b.m != 0) = true) : quoC a b w = Cg.of 1 0 := by unfold quoC; rw [if_neg (by rw [h]; decide), if_pos (.inl (by simpa using hm))]; rfl
theorem qu_3 (h : alC b 0 = false) : quoC a b true = Cg.of 1 0 := by unfold quoC; rw [if_neg (by rw [h]; decide), if_pos (.inr rfl)]; rfl
theorem qu_i (h : alC b 0 = false) (hm : (b.m != 0) = false) : quoC a b false = if a.m % sizeI b.r ≠ 0 \/ sizeI a.r % sizeI b.r ≠ 0 then Cg.all else Cg.of (a.m / sizeI b.r) (a.r.tdiv b.r) := by
 unfold quoC; rw [if_neg (by rw [h]; decide), if_neg (by rintro (x | x); exact absurd (by simpa using hm : b.m = 0) x; cases x)]
section
variable (ra : a.inR) (rb : b.inR) (h0 : 0 ≤ a.m)
include ra h0 in
theorem qu_u : IntKind.wrap .u64 a.m = a.m := by have := ra.1; exact wU_id _ h0 (by omega)
include ra rb h0
theorem qu_4 (h : alC b 0 = false) (hm : (b.m != 0) = false) (h1 : ((IntKind.wrap .u64 a.m).tmod (sizeI b.r) != 0) = true) : quoC a b false = Cg.of 1 0 := by
 rw [qu_u ra h0, Int.tmod_eq_emod_of_nonneg h0] at h1
 rw [qu_i h hm, if_pos (.inl (by simpa using h1))]; rfl
theorem qu_5 (h : alC b 0 = false) (hm : (b.m != 0) = false) (h2 : ((sizeI a.r).tmod (sizeI b.r) != 0) = true) : quoC a b false = Cg.of 1 0 := by
 rw [Int.tmod_eq_emod_of_nonneg (sc_r ra.2).1] at h2
 rw [qu_i h hm, if_pos (.inr (by simpa using h2))]; rfl
theorem qu_6 (hn : ¬ (a.r = -9223372036854775808 /\ b.r = -1)) (h : alC b 0 = false) (hm : (b.m != 0) = false) (h1 : ((IntKind.wrap .u64 a.m).tmod (sizeI b.r) != 0) = false) (h2 : ((sizeI a.r).tmod (sizeI b.r) != 0) = false) : quoC a b false = Cg.of (IntKind.wrap .i64 (IntKind.wrap .u64 ((IntKind.wrap .u64 a.m).tdiv (sizeI b.r)))) (IntKind.wrap .i64 (a.r.tdiv b.r)) := by
 have hz := al_r h hm
 have hp := size_pos hz
 rw [qu_u ra h0] at h1 ⊢
 rw [Int.tmod_eq_emod_of_nonneg h0] at h1
 rw [Int.tmod_eq_emod_of_nonneg (sc_r ra.2).1] at h2
 rw [qu_i h hm, if_neg (by rintro (x | x); exact absurd (by simpa using h1) x; exact absurd (by simpa using h2) x)]
 have q := quo_rng ra.2 rb.2 hz hn
 rw [wI_id (a.r.tdiv b.r) q.1 q.2, Int.tdiv_eq_ediv_of_nonneg h0]
 have d1 := Int.ediv_nonneg h0 (Int.le_of_lt hp)
 have d2 := Int.ediv_le_self (sizeI b.r) h0
 have := ra.1
 rw [wU_id _ d1 (by omega), wI_id _ (by omega) (by omega)]
end
theorem rt_1 (h : alC b 0 = true) : rstC a b = Cg.none := by unfold rstC; rw [if_pos h]
theorem rt_2 (ra : a.inR) (rb : b.inR) (h0 : 0 <= a.m /\ 0 <= b.m) (hz : a.m ≠ 0 \/ b.m ≠ 0) (h : alC b 0 = false) : rstC a b = Cg.of (IntKind.wrap .i64 (Int.gcd (IntKind.wrap .u64 (Int.gcd a.m b.m : Int)) (sizeI b.r) : Int)) a.r := by
 unfold rstC; rw [if_neg (by rw [h]; decide)]
 have hg := gcd_r ra.1 rb.1 h0
 rw [wU_id _ hg.2 (by omega)]
 have hp : 0 < Int.gcd a.m b.m := by
  rw [Int.gcd_pos_iff]; exact hz
 have hle : Int.gcd (Int.gcd a.m b.m : Int) (sizeI b.r) <= Int.gcd a.m b.m := Nat.le_of_dvd hp (Int.ofNat_dvd.1 (Int.gcd_dvd_left ..))
 rw [wI_id _ (by omega) (by omega)]
theorem aptC_eq (a b : Cg) : aptC a b = !(Cg.meet (Cg.of (Int.gcd a.m b.m : Int) a.r) (Cg.of 0 b.r)).some := rfl
theorem cmeet_inR (ra : a.inR) (rb : b.inR) : (Cg.meet a b).inR := (meet_law (cg_clean_tidy a) (cg_clean_tidy b)).2.2.2 (Cg.clean_inR ra) (Cg.clean_inR rb)
end
def FRsQuo : List Ar -> Option Rs
 | [.agg [.d (.v (.bool b0)), .d (.v (.int .i64 m0)), .d (.v (.int .i64 r0))], .agg [.d (.v (.bool b1)), .d (.v (.int .i64 m1)), .d (.v (.int .i64 r1))], .c (.d (.v (.bool b2)))] => some ⟨(Cg.inR ⟨b0, m0, r0⟩) /\ (Cg.inR ⟨b1, m1, r1⟩) /\ (0 <= m0 /\ ¬ (r0 = -9223372036854775808 /\ r1 = -1)), .va (Cg.ar (quoC (⟨b0, m0, r0⟩ : Cg) (⟨b1, m1, r1⟩ : Cg) b2)), []⟩
 | _ => none
theorem fcRsQuo : FC Tryz.prog 150 FRsQuo := by
 intro xs pre r us h hp
 unfold FRsQuo at h
 split at h
 . rename_i b0 m0 r0 b1 m1 r1 b2
   cases h
   obtain ⟨hp0, hp1, hp2⟩ := hp
   refine fcat tys_ok (l := [(175, ⟨[], FRsSize⟩), (120, ⟨[], FRsAlone⟩), (57, ⟨[], FCAll⟩), (90, ⟨[], FCOf⟩)]) ⟨fcRsSize, fcRsAlone, fcCAll, fcCOf, trivial⟩ Tryz.func150 rfl (by kernel_rfl) false ?_
   have q0 := hp0; unfold Cg.inR at q0; dsimp only at q0
   have q1 := hp1; unfold Cg.inR at q1; dsimp only at q1
   cases hl : alC (⟨b1, m1, r1⟩ : Cg) 0
   . cases hm : (m1 != 0)
     . cases hw : b2
       . cases h1 : ((IntKind.wrap .u64 m0).tmod (sizeI r1) != 0)
         . cases h2 : ((sizeI r0).tmod (sizeI r1) != 0)
           . have hln := congrArg Bool.not hl; simp only [Bool.not_true, Bool.not_false] at hln
             have hmn := congrArg Bool.not hm; simp only [Bool.not_true, Bool.not_false] at hmn
             have hwn := congrArg Bool.not hw; simp only [Bool.not_true, Bool.not_false] at hwn
             have h1n := congrArg Bool.not h1; simp only [Bool.not_true, Bool.not_false] at h1n
             have h2n := congrArg Bool.not h2; simp only [Bool.not_true, Bool.not_false] at h2n
             repeat' (first | exact trivial | (with_reducible first | exact hp0 | exact hp1 | exact hp2 | exact hp0.1 | exact hp0.2 | exact hp1.1 | exact hp1.2 | exact hp2.1 | exact hp2.2 | exact wd_ok _ | exact (wd_ok _).1.1 | exact (wd_ok _).1.2 | exact (wd_ok _).2.1 | exact (wd_ok _).2.2 | exact (fun h : false = true => absurd h (by decide)) | exact (fun h : true = false => absurd h (by decide)) | exact hp0 | exact hp1 | exact (w64_r _).1 | exact (w64_r _).2 | exact (wu_r _).1 | exact (wu_r _).2 | exact w64_r _ | exact wu_r _ | exact q0.1 | exact q0.2 | exact q0.1.1 | exact q0.1.2 | exact q0.2.1 | exact q0.2.2 | exact q1.1 | exact q1.2 | exact q1.1.1 | exact q1.1.2 | exact q1.2.1 | exact q1.2.2 | exact (fun h => absurd (hl.symm.trans h) (by decide)) | exact (fun h => absurd (hm.symm.trans h) (by decide)) | exact (fun h => absurd (hw.symm.trans h) (by decide)) | exact (fun h => absurd (h1.symm.trans h) (by decide)) | exact (fun h => absurd (h2.symm.trans h) (by decide)) | exact (fun h => absurd (hln.symm.trans h) (by decide)) | exact (fun h => absurd (hmn.symm.trans h) (by decide)) | exact (fun h => absurd (hwn.symm.trans h) (by decide)) | exact (fun h => absurd (h1n.symm.trans h) (by decide)) | exact (fun h => absurd (h2n.symm.trans h) (by decide))) | refine ⟨?_, ?_⟩ | intro _)
             all_goals first | (with_reducible first | apply qa | apply qb | apply qc | apply qd) | (conv => whnf)
             all_goals first | (with_reducible rfl) | decide | ((with_reducible show Value.bool (Cg.some _) = _); exact congrArg (fun i : Cg => Value.bool i.some) ((qu_6 (a := (⟨b0, m0, r0⟩ : Cg)) (b := (⟨b1, m1, r1⟩ : Cg)) hp0 hp1 hp2.1 hp2.2 hl hm h1 h2).symm)) | ((with_reducible show Value.int _ (Cg.m _) = _); exact congrArg (fun i : Cg => Value.int .i64 i.m) ((qu_6 (a := (⟨b0, m0, r0⟩ : Cg)) (b := (⟨b1, m1, r1⟩ : Cg)) hp0 hp1 hp2.1 hp2.2 hl hm h1 h2).symm)) | ((with_reducible show Value.int _ (Cg.r _) = _); exact congrArg (fun i : Cg => Value.int .i64 i.r) ((qu_6 (a := (⟨b0, m0, r0⟩ : Cg)) (b := (⟨b1, m1, r1⟩ : Cg)) hp0 hp1 hp2.1 hp2.2 hl hm h1 h2).symm)) | (exact False.elim (size0 (al_r (b := (⟨b1, m1, r1⟩ : Cg)) hl hm) (by with_reducible assumption))) | (exact False.elim (al_r (b := (⟨b1, m1, r1⟩ : Cg)) hl hm (by with_reducible assumption)))
           . have hln := congrArg Bool.not hl; simp only [Bool.not_true, Bool.not_false] at hln
             have hmn := congrArg Bool.not hm; simp only [Bool.not_true, Bool.not_false] at hmn
             have hwn := congrArg Bool.not hw; simp only [Bool.not_true, Bool.not_false] at hwn
             have h1n := congrArg Bool.not h1; simp only [Bool.not_true, Bool.not_false] at h1n
             have h2n := congrArg Bool.not h2; simp only [Bool.not_true, Bool.not_false] at h2n
             repeat' (first | exact trivial | (with_reducible first | exact hp0 | exact hp1 | exact hp2 | exact hp0.1 | exact hp0.2 | exact hp1.1 | exact hp1.2 | exact hp2.1 | exact hp2.2 | exact wd_ok _ | exact (wd_ok _).1.1 | exact (wd_ok _).1.2 | exact (wd_ok _).2.1 | exact (wd_ok _).2.2 | exact (fun h : false = true => absurd h (by decide)) | exact (fun h : true = false => absurd h (by decide)) | exact hp0 | exact hp1 | exact (w64_r _).1 | exact (w64_r _).2 | exact (wu_r _).1 | exact (wu_r _).2 | exact w64_r _ | exact wu_r _ | exact q0.1 | exact q0.2 | exact q0.1.1 | exact q0.1.2 | exact q0.2.1 | exact q0.2.2 | exact q1.1 | exact q1.2 | exact q1.1.1 | exact q1.1.2 | exact q1.2.1 | exact q1.2.2 | exact (fun h => absurd (hl.symm.trans h) (by decide)) | exact (fun h => absurd (hm.symm.trans h) (by decide)) | exact (fun h => absurd (hw.symm.trans h) (by decide)) | exact (fun h => absurd (h1.symm.trans h) (by decide)) | exact (fun h => absurd (h2.symm.trans h) (by decide)) | exact (fun h => absurd (hln.symm.trans h) (by decide)) | exact (fun h => absurd (hmn.symm.trans h) (by decide)) | exact (fun h => absurd (hwn.symm.trans h) (by decide)) | exact (fun h => absurd (h1n.symm.trans h) (by decide)) | exact (fun h => absurd (h2n.symm.trans h) (by decide))) | refine ⟨?_, ?_⟩ | intro _)
             all_goals first | (with_reducible first | apply qa | apply qb | apply qc | apply qd) | (conv => whnf)
             all_goals first | (with_reducible rfl) | decide | ((with_reducible show Value.bool (Cg.some _) = _); exact congrArg (fun i : Cg => Value.bool i.some) ((qu_5 (a := (⟨b0, m0, r0⟩ : Cg)) (b := (⟨b1, m1, r1⟩ : Cg)) hp0 hp1 hp2.1 hl hm h2).symm)) | ((with_reducible show Value.int _ (Cg.m _) = _); exact congrArg (fun i : Cg => Value.int .i64 i.m) ((qu_5 (a := (⟨b0, m0, r0⟩ : Cg)) (b := (⟨b1, m1, r1⟩ : Cg)) hp0 hp1 hp2.1 hl hm h2).symm)) | ((with_reducible show Value.int _ (Cg.r _) = _); exact congrArg (fun i : Cg => Value.int .i64 i.r) ((qu_5 (a := (⟨b0, m0, r0⟩ : Cg)) (b := (⟨b1, m1, r1⟩ : Cg)) hp0 hp1 hp2.1 hl hm h2).symm)) | (exact False.elim (size0 (al_r (b := (⟨b1, m1, r1⟩ : Cg)) hl hm) (by with_reducible assumption))) | (exact False.elim (al_r (b := (⟨b1, m1, r1⟩ : Cg)) hl hm (by with_reducible assumption)))
         . have hln := congrArg Bool.not hl; simp only [Bool.not_true, Bool.not_false] at hln
           have hmn := congrArg Bool.not hm; simp only [Bool.not_true, Bool.not_false] at hmn
           have hwn := congrArg Bool.not hw; simp only [Bool.not_true, Bool.not_false] at hwn
           have h1n := congrArg Bool.not h1; simp only [Bool.not_true, Bool.not_false] at h1n
           repeat' (first | exact trivial | (with_reducible first | exact hp0 | exact hp1 | exact hp2 | exact hp0.1 | exact hp0.2 | exact hp1.1 | exact hp1.2 | exact hp2.1 | exact hp2.2 | exact wd_ok _ | exact (wd_ok _).1.1 | exact (wd_ok _).1.2 | exact (wd_ok _).2.1 | exact (wd_ok _).2.2 | exact (fun h : false = true => absurd h (by decide)) | exact (fun h : true = false => absurd h (by decide)) | exact hp0 | exact hp1 | exact (w64_r _).1 | exact (w64_r _).2 | exact (wu_r _).1 | exact (wu_r _).2 | exact w64_r _ | exact wu_r _ | exact q0.1 | exact q0.2 | exact q0.1.1 | exact q0.1.2 | exact q0.2.1 | exact q0.2.2 | exact q1.1 | exact q1.2 | exact q1.1.1 | exact q1.1.2 | exact q1.2.1 | exact q1.2.2 | exact (fun h => absurd (hl.symm.trans h) (by decide)) | exact (fun h => absurd (hm.symm.trans h) (by decide)) | exact (fun h => absurd (hw.symm.trans h) (by decide)) | exact (fun h => absurd (h1.symm.trans h) (by decide)) | exact (fun h => absurd (hln.symm.trans h) (by decide)) | exact (fun h => absurd (hmn.symm.trans h) (by decide)) | exact (fun h => absurd (hwn.symm.trans h) (by decide)) | exact (fun h => absurd (h1n.symm.trans h) (by decide))) | refine ⟨?_, ?_⟩ | intro _)
           all_goals first | (with_reducible first | apply qa | apply qb | apply qc | apply qd) | (conv => whnf)
           all_goals first | (with_reducible rfl) | decide | ((with_reducible show Value.bool (Cg.some _) = _); exact congrArg (fun i : Cg => Value.bool i.some) ((qu_4 (a := (⟨b0, m0, r0⟩ : Cg)) (b := (⟨b1, m1, r1⟩ : Cg)) hp0 hp1 hp2.1 hl hm h1).symm)) | ((with_reducible show Value.int _ (Cg.m _) = _); exact congrArg (fun i : Cg => Value.int .i64 i.m) ((qu_4 (a := (⟨b0, m0, r0⟩ : Cg)) (b := (⟨b1, m1, r1⟩ : Cg)) hp0 hp1 hp2.1 hl hm h1).symm)) | ((with_reducible show Value.int _ (Cg.r _) = _); exact congrArg (fun i : Cg => Value.int .i64 i.r) ((qu_4 (a := (⟨b0, m0, r0⟩ : Cg)) (b := (⟨b1, m1, r1⟩ : Cg)) hp0 hp1 hp2.1 hl hm h1).symm)) | (exact False.elim (size0 (al_r (b := (⟨b1, m1, r1⟩ : Cg)) hl hm) (by with_reducible assumption))) | (exact False.elim (al_r (b := (⟨b1, m1, r1⟩ : Cg)) hl hm (by with_reducible assumption)))
       . have hln := congrArg Bool.not hl; simp only [Bool.not_true, Bool.not_false] at hln
         have hmn := congrArg Bool.not hm; simp only [Bool.not_true, Bool.not_false] at hmn
         have hwn := congrArg Bool.not hw; simp only [Bool.not_true, Bool.not_false] at hwn
         repeat' (first | exact trivial | (with_reducible first | exact hp0 | exact hp1 | exact hp2 | exact hp0.1 | exact hp0.2 | exact hp1.1 | exact hp1.2 | exact hp2.1 | exact hp2.2 | exact wd_ok _ | exact (wd_ok _).1.1 | exact (wd_ok _).1.2 | exact (wd_ok _).2.1 | exact (wd_ok _).2.2 | exact (fun h : false = true => absurd h (by decide)) | exact (fun h : true = false => absurd h (by decide)) | exact hp0 | exact hp1 | exact (w64_r _).1 | exact (w64_r _).2 | exact (wu_r _).1 | exact (wu_r _).2 | exact w64_r _ | exact wu_r _ | exact q0.1 | exact q0.2 | exact q0.1.1 | exact q0.1.2 | exact q0.2.1 | exact q0.2.2 | exact q1.1 | exact q1.2 | exact q1.1.1 | exact q1.1.2 | exact q1.2.1 | exact q1.2.2 | exact (fun h => absurd (hl.symm.trans h) (by decide)) | exact (fun h => absurd (hm.symm.trans h) (by decide)) | exact (fun h => absurd (hw.symm.trans h) (by decide)) | exact (fun h => absurd (hln.symm.trans h) (by decide)) | exact (fun h => absurd (hmn.symm.trans h) (by decide)) | exact (fun h => absurd (hwn.symm.trans h) (by decide))) | refine ⟨?_, ?_⟩ | intro _)
         all_goals first | (with_reducible first | apply qa | apply qb | apply qc | apply qd) | (conv => whnf)
         all_goals first | (with_reducible rfl) | decide | ((with_reducible show Value.bool (Cg.some _) = _); exact congrArg (fun i : Cg => Value.bool i.some) ((qu_3 (a := (⟨b0, m0, r0⟩ : Cg)) (b := (⟨b1, m1, r1⟩ : Cg)) hl).symm)) | ((with_reducible show Value.int _ (Cg.m _) = _); exact congrArg (fun i : Cg => Value.int .i64 i.m) ((qu_3 (a := (⟨b0, m0, r0⟩ : Cg)) (b := (⟨b1, m1, r1⟩ : Cg)) hl).symm)) | ((with_reducible show Value.int _ (Cg.r _) = _); exact congrArg (fun i : Cg => Value.int .i64 i.r) ((qu_3 (a := (⟨b0, m0, r0⟩ : Cg)) (b := (⟨b1, m1, r1⟩ : Cg)) hl).symm)) | (exact False.elim (size0 (al_r (b := (⟨b1, m1, r1⟩ : Cg)) hl hm) (by with_reducible assumption))) | (exact False.elim (al_r (b := (⟨b1, m1, r1⟩ : Cg)) hl hm (by with_reducible assumption)))
     . have hln := congrArg Bool.not hl; simp only [Bool.not_true, Bool.not_false] at hln
       have hmn := congrArg Bool.not hm; simp only [Bool.not_true, Bool.not_false] at hmn
       repeat' (first | exact trivial | (with_reducible first | exact hp0 | exact hp1 | exact hp2 | exact hp0.1 | exact hp0.2 | exact hp1.1 | exact hp1.2 | exact hp2.1 | exact hp2.2 | exact wd_ok _ | exact (wd_ok _).1.1 | exact (wd_ok _).1.2 | exact (wd_ok _).2.1 | exact (wd_ok _).2.2 | exact (fun h : false = true => absurd h (by decide)) | exact (fun h : true = false => absurd h (by decide)) | exact hp0 | exact hp1 | exact (w64_r _).1 | exact (w64_r _).2 | exact (wu_r _).1 | exact (wu_r _).2 | exact w64_r _ | exact wu_r _ | exact q0.1 | exact q0.2 | exact q0.1.1 | exact q0.1.2 | exact q0.2.1 | exact q0.2.2 | exact q1.1 | exact q1.2 | exact q1.1.1 | exact q1.1.2 | exact q1.2.1 | exact q1.2.2 | exact (fun h => absurd (hl.symm.trans h) (by decide)) | exact (fun h => absurd (hm.symm.trans h) (by decide)) | exact (fun h => absurd (hln.symm.trans h) (by decide)) | exact (fun h => absurd (hmn.symm.trans h) (by decide))) | refine ⟨?_, ?_⟩ | intro _)
       all_goals first | (with_reducible first | apply qa | apply qb | apply qc | apply qd) | (conv => whnf)
       all_goals first | (with_reducible rfl) | decide | ((with_reducible show Value.bool (Cg.some _) = _); exact congrArg (fun i : Cg => Value.bool i.some) ((qu_2 (a := (⟨b0, m0, r0⟩ : Cg)) (b := (⟨b1, m1, r1⟩ : Cg)) (w := b2) hl hm).symm)) | ((with_reducible show Value.int _ (Cg.m _) = _); exact congrArg (fun i : Cg => Value.int .i64 i.m) ((qu_2 (a := (⟨b0, m0, r0⟩ : Cg)) (b := (⟨b1, m1, r1⟩ : Cg)) (w := b2) hl hm).symm)) | ((with_reducible show Value.int _ (Cg.r _) = _); exact congrArg (fun i : Cg => Value.int .i64 i.r) ((qu_2 (a := (⟨b0, m0, r0⟩ : Cg)) (b := (⟨b1, m1, r1⟩ : Cg)) (w := b2) hl hm).symm))
   . have hln := congrArg Bool.not hl; simp only [Bool.not_true, Bool.not_false] at hln
     repeat' (first | exact trivial | (with_reducible first | exact hp0 | exact hp1 | exact hp2 | exact hp0.1 | exact hp0.2 | exact hp1.1 | exact hp1.2 | exact hp2.1 | exact hp2.2 | exact wd_ok _ | exact (wd_ok _).1.1 | exact (wd_ok _).1.2 | exact (wd_ok _).2.1 | exact (wd_ok _).2.2 | exact (fun h : false = true => absurd h (by decide)) | exact (fun h : true = false => absurd h (by decide)) | exact hp0 | exact hp1 | exact (w64_r _).1 | exact (w64_r _).2 | exact (wu_r _).1 | exact (wu_r _).2 | exact w64_r _ | exact wu_r _ | exact q0.1 | exact q0.2 | exact q0.1.1 | exact q0.1.2 | exact q0.2.1 | exact q0.2.2 | exact q1.1 | exact q1.2 | exact q1.1.1 | exact q1.1.2 | exact q1.2.1 | exact q1.2.2 | exact (fun h => absurd (hl.symm.trans h) (by decide)) | exact (fun h => absurd (hln.symm.trans h) (by decide))) | refine ⟨?_, ?_⟩ | intro _)
     all_goals first | (with_reducible first | apply qa | apply qb | apply qc | apply qd) | (conv => whnf)
     all_goals first | (with_reducible rfl) | decide | ((with_reducible show Value.bool false = _); exact congrArg (fun i : Cg => Value.bool i.some) ((qu_1 (a := (⟨b0, m0, r0⟩ : Cg)) (b := (⟨b1, m1, r1⟩ : Cg)) (w := b2) hl).symm)) | ((with_reducible show Value.int _ 0 = _); first | exact congrArg (fun i : Cg => Value.int .i64 i.m) ((qu_1 (a := (⟨b0, m0, r0⟩ : Cg)) (b := (⟨b1, m1, r1⟩ : Cg)) (w := b2) hl).symm) | exact congrArg (fun i : Cg => Value.int .i64 i.r) ((qu_1 (a := (⟨b0, m0, r0⟩ : Cg)) (b := (⟨b1, m1, r1⟩ : Cg)) (w := b2) hl).symm))
 . cases h
def FRsRest : List Ar -> Option Rs
 | [.agg [.d (.v (.bool b0)), .d (.v (.int .i64 m0)), .d (.v (.int .i64 r0))], .agg [.d (.v (.bool b1)), .d (.v (.int .i64 m1)), .d (.v (.int .i64 r1))]] => some ⟨(Cg.inR ⟨b0, m0, r0⟩) /\ (Cg.inR ⟨b1, m1, r1⟩) /\ ((0 <= m0 /\ 0 <= m1) /\ (m0 ≠ 0 \/ m1 ≠ 0)), .va (Cg.ar (rstC (⟨b0, m0, r0⟩ : Cg) (⟨b1, m1, r1⟩ : Cg))), []⟩
 | _ => none
theorem fcRsRest : FC Tryz.prog 151 FRsRest := by
 intro xs pre r us h hp
 unfold FRsRest at h
 split at h
 . rename_i b0 m0 r0 b1 m1 r1
   cases h
   obtain ⟨hp0, hp1, hp2⟩ := hp
   refine fcat tys_ok (l := [(120, ⟨[], FRsAlone⟩), (148, ⟨[], FRsGcd⟩), (175, ⟨[], FRsSize⟩), (88, ⟨[], FCGcd⟩), (90, ⟨[], FCOf⟩)]) ⟨fcRsAlone, fcRsGcd, fcRsSize, fcCGcd, fcCOf, trivial⟩ Tryz.func151 rfl (by kernel_rfl) false ?_
   have q0 := hp0; unfold Cg.inR at q0; dsimp only at q0
   have q1 := hp1; unfold Cg.inR at q1; dsimp only at q1
   have hs := sz_r q1.2
   cases hl : alC (⟨b1, m1, r1⟩ : Cg) 0
   . have hln := congrArg Bool.not hl; simp only [Bool.not_true, Bool.not_false] at hln
     repeat' (first | exact trivial | (with_reducible first | exact hp0 | exact hp1 | exact hp2 | exact hp0.1 | exact hp0.2 | exact hp1.1 | exact hp1.2 | exact hp2.1 | exact hp2.2 | exact wd_ok _ | exact (wd_ok _).1.1 | exact (wd_ok _).1.2 | exact (wd_ok _).2.1 | exact (wd_ok _).2.2 | exact (fun h : false = true => absurd h (by decide)) | exact (fun h : true = false => absurd h (by decide)) | exact hp0 | exact hp1 | exact hp2.1 | exact hp2.1.1 | exact hp2.1.2 | exact hs | exact hs.1 | exact hs.2 | exact (w64_r _).1 | exact (w64_r _).2 | exact (wu_r _).1 | exact (wu_r _).2 | exact w64_r _ | exact wu_r _ | exact q0.1 | exact q0.2 | exact q0.1.1 | exact q0.1.2 | exact q0.2.1 | exact q0.2.2 | exact q1.1 | exact q1.2 | exact q1.1.1 | exact q1.1.2 | exact q1.2.1 | exact q1.2.2 | exact (fun h => absurd (hl.symm.trans h) (by decide)) | exact (fun h => absurd (hln.symm.trans h) (by decide))) | refine ⟨?_, ?_⟩ | intro _)
     all_goals first | (with_reducible first | apply qa | apply qb | apply qc | apply qd) | (conv => whnf)
     all_goals first | (with_reducible rfl) | decide | ((with_reducible show Value.bool (Cg.some _) = _); exact congrArg (fun i : Cg => Value.bool i.some) ((rt_2 (a := (⟨b0, m0, r0⟩ : Cg)) (b := (⟨b1, m1, r1⟩ : Cg)) hp0 hp1 hp2.1 hp2.2 hl).symm)) | ((with_reducible show Value.int _ (Cg.m _) = _); exact congrArg (fun i : Cg => Value.int .i64 i.m) ((rt_2 (a := (⟨b0, m0, r0⟩ : Cg)) (b := (⟨b1, m1, r1⟩ : Cg)) hp0 hp1 hp2.1 hp2.2 hl).symm)) | ((with_reducible show Value.int _ (Cg.r _) = _); exact congrArg (fun i : Cg => Value.int .i64 i.r) ((rt_2 (a := (⟨b0, m0, r0⟩ : Cg)) (b := (⟨b1, m1, r1⟩ : Cg)) hp0 hp1 hp2.1 hp2.2 hl).symm))
   . have hln := congrArg Bool.not hl; simp only [Bool.not_true, Bool.not_false] at hln
     repeat' (first | exact trivial | (with_reducible first | exact hp0 | exact hp1 | exact hp2 | exact hp0.1 | exact hp0.2 | exact hp1.1 | exact hp1.2 | exact hp2.1 | exact hp2.2 | exact wd_ok _ | exact (wd_ok _).1.1 | exact (wd_ok _).1.2 | exact (wd_ok _).2.1 | exact (wd_ok _).2.2 | exact (fun h : false = true => absurd h (by decide)) | exact (fun h : true = false => absurd h (by decide)) | exact hp0 | exact hp1 | exact hp2.1 | exact hp2.1.1 | exact hp2.1.2 | exact hs | exact hs.1 | exact hs.2 | exact (w64_r _).1 | exact (w64_r _).2 | exact (wu_r _).1 | exact (wu_r _).2 | exact w64_r _ | exact wu_r _ | exact q0.1 | exact q0.2 | exact q0.1.1 | exact q0.1.2 | exact q0.2.1 | exact q0.2.2 | exact q1.1 | exact q1.2 | exact q1.1.1 | exact q1.1.2 | exact q1.2.1 | exact q1.2.2 | exact (fun h => absurd (hl.symm.trans h) (by decide)) | exact (fun h => absurd (hln.symm.trans h) (by decide))) | refine ⟨?_, ?_⟩ | intro _)
     all_goals first | (with_reducible first | apply qa | apply qb | apply qc | apply qd) | (conv => whnf)
     all_goals first | (with_reducible rfl) | decide | ((with_reducible show Value.bool false = _); exact congrArg (fun i : Cg => Value.bool i.some) ((rt_1 (a := (⟨b0, m0, r0⟩ : Cg)) (b := (⟨b1, m1, r1⟩ : Cg)) hl).symm)) | ((with_reducible show Value.int _ 0 = _); first | exact congrArg (fun i : Cg => Value.int .i64 i.m) ((rt_1 (a := (⟨b0, m0, r0⟩ : Cg)) (b := (⟨b1, m1, r1⟩ : Cg)) hl).symm) | exact congrArg (fun i : Cg => Value.int .i64 i.r) ((rt_1 (a := (⟨b0, m0, r0⟩ : Cg)) (b := (⟨b1, m1, r1⟩ : Cg)) hl).symm))
 . cases h
def FRsApart : List Ar -> Option Rs
 | [.agg [.d (.v (.bool b0)), .d (.v (.int .i64 m0)), .d (.v (.int .i64 r0))], .agg [.d (.v (.bool b1)), .d (.v (.int .i64 m1)), .d (.v (.int .i64 r1))]] => some ⟨(Cg.inR ⟨b0, m0, r0⟩) /\ (Cg.inR ⟨b1, m1, r1⟩) /\ (0 <= m0 /\ 0 <= m1), .va (.c (.d (bo (aptC (⟨b0, m0, r0⟩ : Cg) (⟨b1, m1, r1⟩ : Cg))))), []⟩
 | _ => none
theorem fcRsApart : FC Tryz.prog 176 FRsApart := by
 intro xs pre r us h hp
 unfold FRsApart at h
 split at h
 . rename_i b0 m0 r0 b1 m1 r1
   cases h
   obtain ⟨hp0, hp1, hp2⟩ := hp
   refine fcat tys_ok (l := [(148, ⟨[], FRsGcd⟩), (90, ⟨[], FCOf⟩), (64, ⟨[], FCOne⟩), (40, ⟨[], FCMeet⟩), (87, ⟨[], FCNone⟩)]) ⟨fcRsGcd, fcCOf, fcCOne, fcCMeet, fcCNone, trivial⟩ Tryz.func176 rfl (by kernel_rfl) false ?_
   have q0 := hp0; unfold Cg.inR at q0; dsimp only at q0
   have q1 := hp1; unfold Cg.inR at q1; dsimp only at q1
   have hg := gcd_r q0.1 q1.1 hp2
   have c1 := Cg.of_inR (Int.gcd m0 m1 : Int) r0 hg.1.1 hg.1.2 q0.2.1 q0.2.2
   have c2 := Cg.of_inR 0 r1 (by omega) (by omega) q1.2.1 q1.2.2
   have c3 := cmeet_inR c1 c2
   unfold Cg.inR at c1 c2 c3
   repeat' (first | exact trivial | (with_reducible first | exact hp0 | exact hp1 | exact hp2 | exact hp0.1 | exact hp0.2 | exact hp1.1 | exact hp1.2 | exact hp2.1 | exact hp2.2 | exact wd_ok _ | exact (wd_ok _).1.1 | exact (wd_ok _).1.2 | exact (wd_ok _).2.1 | exact (wd_ok _).2.2 | exact (fun h : false = true => absurd h (by decide)) | exact (fun h : true = false => absurd h (by decide)) | exact hp0 | exact hp1 | exact hp2 | exact hp2.1 | exact hp2.2 | exact hg.1 | exact hg.2 | exact hg.1.1 | exact hg.1.2 | exact (w64_r _).1 | exact (w64_r _).2 | exact (wu_r _).1 | exact (wu_r _).2 | exact w64_r _ | exact wu_r _ | exact q0.1 | exact q0.2 | exact q0.1.1 | exact q0.1.2 | exact q0.2.1 | exact q0.2.2 | exact q1.1 | exact q1.2 | exact q1.1.1 | exact q1.1.2 | exact q1.2.1 | exact q1.2.2) | refine ⟨?_, ?_⟩ | intro _)
   all_goals first | (with_reducible first | apply qa | apply qb | apply qc | apply qd) | (conv => whnf)
   all_goals first | decide | (with_reducible first | exact c1.1.1 | exact c1.1.2 | exact c1.2.1 | exact c1.2.2 | exact c2.1.1 | exact c2.1.2 | exact c2.2.1 | exact c2.2.2 | exact c3.1.1 | exact c3.1.2 | exact c3.2.1 | exact c3.2.2) | ((with_reducible show Value.bool _ = _); simp only [Cg.eta]; exact congrArg Value.bool (aptC_eq ⟨b0, m0, r0⟩ ⟨b1, m1, r1⟩).symm)
 . cases h
def clampI (v : Int) : Int := if wIntB v = true then wIntV v else if v < 0 then -9223372036854775808 else 9223372036854775808 - 1
theorem neg_1 {h l : Int} (k : Wd.ok ⟨h, l⟩) (k1 : h < 0) : Wd.val ⟨h, l⟩ < 0 := by unfold Wd.ok at k; unfold Wd.val; dsimp only at *; omega
theorem neg_0 {h l : Int} (k : Wd.ok ⟨h, l⟩) (k1 : ¬ h < 0) : ¬ Wd.val ⟨h, l⟩ < 0 := by unfold Wd.ok at k; unfold Wd.val; dsimp only at *; omega
theorem size_k {n : Int} (h : -9223372036854775808 <= n /\ n < 9223372036854775808) : maxW (wd n) (wd (0 - (wd n).val)) = wd (absI n) := by
 have e : (wd n).val = n := wd_val (by omega) (by omega)
 rw [e]; unfold maxW wCmp absI
 rw [e, wd_val (by omega) (by omega)]
 (repeat' split) <;> first | omega | rfl | (congr 1; omega)
def FWClamp : List Ar -> Option Rs
 | [.agg [.d (.v (.int .i64 h0)), .d (.v (.int .u64 l0))]] => some ⟨(Wd.ok ⟨h0, l0⟩), .va (.c (.d (it (clampI (Wd.val (⟨h0, l0⟩ : Wd)))))), []⟩
 | _ => none
theorem fcWClamp : FC Tryz.prog 167 FWClamp := by
 intro xs pre r us h hp
 unfold FWClamp at h
 split at h
 . rename_i h0 l0
   cases h
   have hp0 := hp
   refine fcat tys_ok (l := [(94, ⟨[], FWInt⟩)]) ⟨fcWInt, trivial⟩ Tryz.func167 rfl (by kernel_rfl) false ?_
   repeat' (first | exact trivial | (with_reducible first | exact hp0 | exact hp1 | exact hp2 | exact hp0.1 | exact hp0.2 | exact hp1.1 | exact hp1.2 | exact hp2.1 | exact hp2.2 | exact wd_ok _ | exact (wd_ok _).1.1 | exact (wd_ok _).1.2 | exact (wd_ok _).2.1 | exact (wd_ok _).2.2) | refine ⟨?_, ?_⟩ | intro _)
   all_goals first | (with_reducible first | apply qa | apply qb | apply qc | apply qd) | (conv => whnf)
   all_goals first | (unfold clampI; rw [if_pos ‹_›]; done) | (unfold clampI; rw [if_neg (by rw [‹wIntB _ = false›]; decide), if_pos (neg_1 hp0 (of_decide_eq_true ‹_›))]; done) | (unfold clampI; rw [if_neg (by rw [‹wIntB _ = false›]; decide), if_neg (neg_0 hp0 (of_decide_eq_false ‹_›))]; rfl)
 . cases h
def FReSize : List Ar -> Option Rs
 | [.c (.d (.v (.int .i64 i0)))] => some ⟨(-9223372036854775808 <= i0 /\ i0 < 9223372036854775808), .va (Wd.ar (wd (absI i0))), []⟩
 | _ => none
theorem fcReSize : FC Tryz.prog 168 FReSize := by
 intro xs pre r us h hp
 unfold FReSize at h
 split at h
 . rename_i i0
   cases h
   have hp0 := hp
   refine fcat tys_ok (l := [(122, ⟨[], FWOf⟩), (124, ⟨[], FWNeg⟩), (123, ⟨[], FWMax⟩)]) ⟨fcWOf, fcWNeg, fcWMax, trivial⟩ Tryz.func168 rfl (by kernel_rfl) false ?_
   repeat' (first | exact trivial | (with_reducible first | exact hp0 | exact hp1 | exact hp2 | exact hp0.1 | exact hp0.2 | exact hp1.1 | exact hp1.2 | exact hp2.1 | exact hp2.2 | exact wd_ok _ | exact (wd_ok _).1.1 | exact (wd_ok _).1.2 | exact (wd_ok _).2.1 | exact (wd_ok _).2.2) | refine ⟨?_, ?_⟩ | intro _)
   all_goals first | (with_reducible first | apply qa | apply qb | apply qc | apply qd) | (conv => whnf)
   all_goals first | exact (congrArg (fun w : Wd => Value.int .i64 w.hi) (size_k hp0)) | exact (congrArg (fun w : Wd => Value.int .u64 w.lo) (size_k hp0)) | exact (wd_ok _).1.1 | exact (wd_ok _).1.2 | exact (wd_ok _).2.1 | exact (wd_ok _).2.2 | rfl
 . cases h
def FReTruth : List Ar -> Option Rs
 | [.c (.d (.v (.bool b0))), .c (.d (.v (.bool b1)))] => some ⟨True, .va (Sp.ar (truthS b0 b1)), []⟩
 | _ => none
theorem fcReTruth : FC Tryz.prog 118 FReTruth := by
 intro xs pre r us h hp
 unfold FReTruth at h
 split at h
 . rename_i b0 b1
   cases h
   refine fcat tys_ok (l := [(63, ⟨[], FSOne⟩), (85, ⟨[], FSOf⟩)]) ⟨fcSOne, fcSOf, trivial⟩ Tryz.func118 rfl (by kernel_rfl) false ?_
   cases b0 <;> cases b1
   all_goals repeat' (first | exact trivial | (with_reducible first | exact (fun h : false = true => absurd h (by decide)) | exact (fun h : true = false => absurd h (by decide))) | refine ⟨?_, ?_⟩ | intro _)
   all_goals first | (with_reducible first | apply qa | apply qb | apply qc | apply qd) | (conv => whnf)
   all_goals first | rfl | decide
 . cases h
def FReAlone : List Ar -> Option Rs
 | [.agg [.d (.v (.bool s0)), .d (.v (.int .i64 l0)), .d (.v (.int .i64 h0))], .c (.d (.v (.int .i64 i1)))] => some ⟨(Sp.inR ⟨s0, l0, h0⟩) /\ (-9223372036854775808 <= i1 /\ i1 < 9223372036854775808), .va (.c (.d (bo (aloneS (⟨s0, l0, h0⟩ : Sp) i1)))), []⟩
 | _ => none
theorem fcReAlone : FC Tryz.prog 119 FReAlone := by
 intro xs pre r us h hp
 unfold FReAlone at h
 split at h
 . rename_i s0 l0 h0 i1
   cases h
   obtain ⟨hp0, hp1⟩ := hp
   refine fcat tys_ok (l := []) trivial Tryz.func119 rfl (by kernel_rfl) false ?_
   repeat' (first | exact trivial | refine ⟨?_, ?_⟩ | intro _)
   all_goals first | (with_reducible first | apply qa | apply qb | apply qc | apply qd) | (conv => whnf)
   all_goals first | grind [aloneS]
 . cases h
theorem truth_eq {a b a' b' : Bool} (h : a = a') (h2 : b = b') : truthS a b = truthS a' b' := by rw [h, h2]
theorem beqd (a b : Int) : decide (a = b) = (a == b) := by rw [Bool.eq_iff_iff]; simp
section
variable (a b : Sp)
theorem cmp12 : cmpS 12 a b = truthS (decide (a.hi < b.lo)) (decide (a.lo ≥ b.hi)) := rfl
theorem cmp13 : cmpS 13 a b = truthS (decide (a.hi <= b.lo)) (decide (a.lo > b.hi)) := rfl
theorem cmp14 : cmpS 14 a b = truthS (a.lo == a.hi && (b.some == a.some && (b.lo == a.lo && b.hi == a.hi))) (decide (a.hi < b.lo) || decide (b.hi < a.lo)) := by rw [<- beqd, <- beqd, <- beqd]; rfl
theorem cmp15 : cmpS 15 a b = truthS (decide (a.hi < b.lo) || decide (b.hi < a.lo)) (a.lo == a.hi && (b.some == a.some && (b.lo == a.lo && b.hi == a.hi))) := by rw [<- beqd, <- beqd, <- beqd]; rfl
theorem cmp16 : cmpS 16 a b = truthS (!a.has 0 && !b.has 0) (aloneS a 0 || aloneS b 0) := rfl
theorem cmp17 : cmpS 17 a b = truthS (!a.has 0 || !b.has 0) (aloneS a 0 && aloneS b 0) := rfl
end
def FReCmp : List Ar -> Option Rs
 | [.c (.d (.v (.int .i64 i0))), .agg [.d (.v (.bool s1)), .d (.v (.int .i64 l1)), .d (.v (.int .i64 h1))], .agg [.d (.v (.bool s2)), .d (.v (.int .i64 l2)), .d (.v (.int .i64 h2))]] => some ⟨(-9223372036854775808 <= i0 /\ i0 < 9223372036854775808) /\ (Sp.inR ⟨s1, l1, h1⟩) /\ (Sp.inR ⟨s2, l2, h2⟩), .va (Sp.ar (cmpS i0 (⟨s1, l1, h1⟩ : Sp) (⟨s2, l2, h2⟩ : Sp))), []⟩
 | _ => none
theorem fcReCmp : FC Tryz.prog 145 FReCmp := by
 intro xs pre r us h hp
 unfold FReCmp at h
 split at h
 . rename_i i0 s1 l1 h1 s2 l2 h2
   cases h
   obtain ⟨hp0, hp1, hp2⟩ := hp
   refine fcat tys_ok (l := [(118, ⟨[], FReTruth⟩), (47, ⟨[], FSHas⟩), (119, ⟨[], FReAlone⟩)]) ⟨fcReTruth, fcSHas, fcReAlone, trivial⟩ Tryz.func145 rfl (by kernel_rfl) false ?_
   by_cases e12 : i0 = 12
   . subst e12
     have q12 : ((12 : Int) == 12) = true := by decide
     have q13 : ((12 : Int) == 13) = false := by decide
     have q14 : ((12 : Int) == 14) = false := by decide
     have q15 : ((12 : Int) == 15) = false := by decide
     have q16 : ((12 : Int) == 16) = false := by decide
     have q17 : ((12 : Int) == 17) = false := by decide
     repeat' (first | exact trivial | (with_reducible first | exact hp1 | exact hp2 | exact (fun h : false = true => absurd h (by decide)) | exact (fun h : true = false => absurd h (by decide)) | exact (fun h => absurd (q12.symm.trans h) (by decide)) | exact (fun h => absurd (q13.symm.trans h) (by decide)) | exact (fun h => absurd (q14.symm.trans h) (by decide)) | exact (fun h => absurd (q15.symm.trans h) (by decide)) | exact (fun h => absurd (q16.symm.trans h) (by decide)) | exact (fun h => absurd (q17.symm.trans h) (by decide))) | refine ⟨?_, ?_⟩ | intro _)
     all_goals first | (with_reducible first | apply qa | apply qb | apply qc | apply qd) | (conv => whnf)
     all_goals (try simp only [cmp12, cmp13, cmp14, cmp15, cmp16, cmp17])
     all_goals first | (with_reducible rfl) | decide | omega | ((with_reducible show Value.bool _ = _); refine congrArg (fun i : Sp => Value.bool i.some) (truth_eq ?_ ?_) <;> first | rfl | (simp only [*, Bool.true_and, Bool.and_true, Bool.false_and, Bool.and_false, Bool.true_or, Bool.or_true, Bool.false_or, Bool.or_false, Bool.not_true, Bool.not_false]; done)) | ((with_reducible show Value.int _ _ = _); refine congrArg (fun i : Sp => Value.int .i64 i.lo) (truth_eq ?_ ?_) <;> first | rfl | (simp only [*, Bool.true_and, Bool.and_true, Bool.false_and, Bool.and_false, Bool.true_or, Bool.or_true, Bool.false_or, Bool.or_false, Bool.not_true, Bool.not_false]; done)) | ((with_reducible show Value.int _ _ = _); refine congrArg (fun i : Sp => Value.int .i64 i.hi) (truth_eq ?_ ?_) <;> first | rfl | (simp only [*, Bool.true_and, Bool.and_true, Bool.false_and, Bool.and_false, Bool.true_or, Bool.or_true, Bool.false_or, Bool.or_false, Bool.not_true, Bool.not_false]; done))
   by_cases e13 : i0 = 13
   . subst e13
     have q12 : ((13 : Int) == 12) = false := by decide
     have q13 : ((13 : Int) == 13) = true := by decide
     have q14 : ((13 : Int) == 14) = false := by decide
     have q15 : ((13 : Int) == 15) = false := by decide
     have q16 : ((13 : Int) == 16) = false := by decide
     have q17 : ((13 : Int) == 17) = false := by decide
     repeat' (first | exact trivial | (with_reducible first | exact hp1 | exact hp2 | exact (fun h : false = true => absurd h (by decide)) | exact (fun h : true = false => absurd h (by decide)) | exact (fun h => absurd (q12.symm.trans h) (by decide)) | exact (fun h => absurd (q13.symm.trans h) (by decide)) | exact (fun h => absurd (q14.symm.trans h) (by decide)) | exact (fun h => absurd (q15.symm.trans h) (by decide)) | exact (fun h => absurd (q16.symm.trans h) (by decide)) | exact (fun h => absurd (q17.symm.trans h) (by decide))) | refine ⟨?_, ?_⟩ | intro _)
     all_goals first | (with_reducible first | apply qa | apply qb | apply qc | apply qd) | (conv => whnf)
     all_goals (try simp only [cmp12, cmp13, cmp14, cmp15, cmp16, cmp17])
     all_goals first | (with_reducible rfl) | decide | omega | ((with_reducible show Value.bool _ = _); refine congrArg (fun i : Sp => Value.bool i.some) (truth_eq ?_ ?_) <;> first | rfl | (simp only [*, Bool.true_and, Bool.and_true, Bool.false_and, Bool.and_false, Bool.true_or, Bool.or_true, Bool.false_or, Bool.or_false, Bool.not_true, Bool.not_false]; done)) | ((with_reducible show Value.int _ _ = _); refine congrArg (fun i : Sp => Value.int .i64 i.lo) (truth_eq ?_ ?_) <;> first | rfl | (simp only [*, Bool.true_and, Bool.and_true, Bool.false_and, Bool.and_false, Bool.true_or, Bool.or_true, Bool.false_or, Bool.or_false, Bool.not_true, Bool.not_false]; done)) | ((with_reducible show Value.int _ _ = _); refine congrArg (fun i : Sp => Value.int .i64 i.hi) (truth_eq ?_ ?_) <;> first | rfl | (simp only [*, Bool.true_and, Bool.and_true, Bool.false_and, Bool.and_false, Bool.true_or, Bool.or_true, Bool.false_or, Bool.or_false, Bool.not_true, Bool.not_false]; done))
   by_cases e14 : i0 = 14
   . subst e14
     have q12 : ((14 : Int) == 12) = false := by decide
     have q13 : ((14 : Int) == 13) = false := by decide
     have q14 : ((14 : Int) == 14) = true := by decide
     have q15 : ((14 : Int) == 15) = false := by decide
     have q16 : ((14 : Int) == 16) = false := by decide
     have q17 : ((14 : Int) == 17) = false := by decide
     repeat' (first | exact trivial | (with_reducible first | exact hp1 | exact hp2 | exact (fun h : false = true => absurd h (by decide)) | exact (fun h : true = false => absurd h (by decide)) | exact (fun h => absurd (q12.symm.trans h) (by decide)) | exact (fun h => absurd (q13.symm.trans h) (by decide)) | exact (fun h => absurd (q14.symm.trans h) (by decide)) | exact (fun h => absurd (q15.symm.trans h) (by decide)) | exact (fun h => absurd (q16.symm.trans h) (by decide)) | exact (fun h => absurd (q17.symm.trans h) (by decide))) | refine ⟨?_, ?_⟩ | intro _)
     all_goals first | (with_reducible first | apply qa | apply qb | apply qc | apply qd) | (conv => whnf)
     all_goals (try simp only [cmp12, cmp13, cmp14, cmp15, cmp16, cmp17])
     all_goals first | (with_reducible rfl) | decide | omega | ((with_reducible show Value.bool _ = _); refine congrArg (fun i : Sp => Value.bool i.some) (truth_eq ?_ ?_) <;> first | rfl | (simp only [*, Bool.true_and, Bool.and_true, Bool.false_and, Bool.and_false, Bool.true_or, Bool.or_true, Bool.false_or, Bool.or_false, Bool.not_true, Bool.not_false]; done)) | ((with_reducible show Value.int _ _ = _); refine congrArg (fun i : Sp => Value.int .i64 i.lo) (truth_eq ?_ ?_) <;> first | rfl | (simp only [*, Bool.true_and, Bool.and_true, Bool.false_and, Bool.and_false, Bool.true_or, Bool.or_true, Bool.false_or, Bool.or_false, Bool.not_true, Bool.not_false]; done)) | ((with_reducible show Value.int _ _ = _); refine congrArg (fun i : Sp => Value.int .i64 i.hi) (truth_eq ?_ ?_) <;> first | rfl | (simp only [*, Bool.true_and, Bool.and_true, Bool.false_and, Bool.and_false, Bool.true_or, Bool.or_true, Bool.false_or, Bool.or_false, Bool.not_true, Bool.not_false]; done))
   by_cases e15 : i0 = 15
   . subst e15
     have q12 : ((15 : Int) == 12) = false := by decide
     have q13 : ((15 : Int) == 13) = false := by decide
     have q14 : ((15 : Int) == 14) = false := by decide
     have q15 : ((15 : Int) == 15) = true := by decide
     have q16 : ((15 : Int) == 16) = false := by decide
     have q17 : ((15 : Int) == 17) = false := by decide
     repeat' (first | exact trivial | (with_reducible first | exact hp1 | exact hp2 | exact (fun h : false = true => absurd h (by decide)) | exact (fun h : true = false => absurd h (by decide)) | exact (fun h => absurd (q12.symm.trans h) (by decide)) | exact (fun h => absurd (q13.symm.trans h) (by decide)) | exact (fun h => absurd (q14.symm.trans h) (by decide)) | exact (fun h => absurd (q15.symm.trans h) (by decide)) | exact (fun h => absurd (q16.symm.trans h) (by decide)) | exact (fun h => absurd (q17.symm.trans h) (by decide))) | refine ⟨?_, ?_⟩ | intro _)
     all_goals first | (with_reducible first | apply qa | apply qb | apply qc | apply qd) | (conv => whnf)
     all_goals (try simp only [cmp12, cmp13, cmp14, cmp15, cmp16, cmp17])
     all_goals first | (with_reducible rfl) | decide | omega | ((with_reducible show Value.bool _ = _); refine congrArg (fun i : Sp => Value.bool i.some) (truth_eq ?_ ?_) <;> first | rfl | (simp only [*, Bool.true_and, Bool.and_true, Bool.false_and, Bool.and_false, Bool.true_or, Bool.or_true, Bool.false_or, Bool.or_false, Bool.not_true, Bool.not_false]; done)) | ((with_reducible show Value.int _ _ = _); refine congrArg (fun i : Sp => Value.int .i64 i.lo) (truth_eq ?_ ?_) <;> first | rfl | (simp only [*, Bool.true_and, Bool.and_true, Bool.false_and, Bool.and_false, Bool.true_or, Bool.or_true, Bool.false_or, Bool.or_false, Bool.not_true, Bool.not_false]; done)) | ((with_reducible show Value.int _ _ = _); refine congrArg (fun i : Sp => Value.int .i64 i.hi) (truth_eq ?_ ?_) <;> first | rfl | (simp only [*, Bool.true_and, Bool.and_true, Bool.false_and, Bool.and_false, Bool.true_or, Bool.or_true, Bool.false_or, Bool.or_false, Bool.not_true, Bool.not_false]; done))
   by_cases e16 : i0 = 16
   . subst e16
     have q12 : ((16 : Int) == 12) = false := by decide
     have q13 : ((16 : Int) == 13) = false := by decide
     have q14 : ((16 : Int) == 14) = false := by decide
     have q15 : ((16 : Int) == 15) = false := by decide
     have q16 : ((16 : Int) == 16) = true := by decide
     have q17 : ((16 : Int) == 17) = false := by decide
     repeat' (first | exact trivial | (with_reducible first | exact hp1 | exact hp2 | exact (fun h : false = true => absurd h (by decide)) | exact (fun h : true = false => absurd h (by decide)) | exact (fun h => absurd (q12.symm.trans h) (by decide)) | exact (fun h => absurd (q13.symm.trans h) (by decide)) | exact (fun h => absurd (q14.symm.trans h) (by decide)) | exact (fun h => absurd (q15.symm.trans h) (by decide)) | exact (fun h => absurd (q16.symm.trans h) (by decide)) | exact (fun h => absurd (q17.symm.trans h) (by decide))) | refine ⟨?_, ?_⟩ | intro _)
     all_goals first | (with_reducible first | apply qa | apply qb | apply qc | apply qd) | (conv => whnf)
     all_goals (try simp only [cmp12, cmp13, cmp14, cmp15, cmp16, cmp17])
     all_goals first | (with_reducible rfl) | decide | omega | ((with_reducible show Value.bool _ = _); refine congrArg (fun i : Sp => Value.bool i.some) (truth_eq ?_ ?_) <;> first | rfl | (simp only [*, Bool.true_and, Bool.and_true, Bool.false_and, Bool.and_false, Bool.true_or, Bool.or_true, Bool.false_or, Bool.or_false, Bool.not_true, Bool.not_false]; done)) | ((with_reducible show Value.int _ _ = _); refine congrArg (fun i : Sp => Value.int .i64 i.lo) (truth_eq ?_ ?_) <;> first | rfl | (simp only [*, Bool.true_and, Bool.and_true, Bool.false_and, Bool.and_false, Bool.true_or, Bool.or_true, Bool.false_or, Bool.or_false, Bool.not_true, Bool.not_false]; done)) | ((with_reducible show Value.int _ _ = _); refine congrArg (fun i : Sp => Value.int .i64 i.hi) (truth_eq ?_ ?_) <;> first | rfl | (simp only [*, Bool.true_and, Bool.and_true, Bool.false_and, Bool.and_false, Bool.true_or, Bool.or_true, Bool.false_or, Bool.or_false, Bool.not_true, Bool.not_false]; done))
   by_cases e17 : i0 = 17
   . subst e17
     have q12 : ((17 : Int) == 12) = false := by decide
     have q13 : ((17 : Int) == 13) = false := by decide
     have q14 : ((17 : Int) == 14) = false := by decide
     have q15 : ((17 : Int) == 15) = false := by decide
     have q16 : ((17 : Int) == 16) = false := by decide
     have q17 : ((17 : Int) == 17) = true := by decide
     repeat' (first | exact trivial | (with_reducible first | exact hp1 | exact hp2 | exact (fun h : false = true => absurd h (by decide)) | exact (fun h : true = false => absurd h (by decide)) | exact (fun h => absurd (q12.symm.trans h) (by decide)) | exact (fun h => absurd (q13.symm.trans h) (by decide)) | exact (fun h => absurd (q14.symm.trans h) (by decide)) | exact (fun h => absurd (q15.symm.trans h) (by decide)) | exact (fun h => absurd (q16.symm.trans h) (by decide)) | exact (fun h => absurd (q17.symm.trans h) (by decide))) | refine ⟨?_, ?_⟩ | intro _)
     all_goals first | (with_reducible first | apply qa | apply qb | apply qc | apply qd) | (conv => whnf)
     all_goals (try simp only [cmp12, cmp13, cmp14, cmp15, cmp16, cmp17])
     all_goals first | (with_reducible rfl) | decide | omega | ((with_reducible show Value.bool _ = _); refine congrArg (fun i : Sp => Value.bool i.some) (truth_eq ?_ ?_) <;> first | rfl | (simp only [*, Bool.true_and, Bool.and_true, Bool.false_and, Bool.and_false, Bool.true_or, Bool.or_true, Bool.false_or, Bool.or_false, Bool.not_true, Bool.not_false]; done)) | ((with_reducible show Value.int _ _ = _); refine congrArg (fun i : Sp => Value.int .i64 i.lo) (truth_eq ?_ ?_) <;> first | rfl | (simp only [*, Bool.true_and, Bool.and_true, Bool.false_and, Bool.and_false, Bool.true_or, Bool.or_true, Bool.false_or, Bool.or_false, Bool.not_true, Bool.not_false]; done)) | ((with_reducible show Value.int _ _ = _); refine congrArg (fun i : Sp => Value.int .i64 i.hi) (truth_eq ?_ ?_) <;> first | rfl | (simp only [*, Bool.true_and, Bool.and_true, Bool.false_and, Bool.and_false, Bool.true_or, Bool.or_true, Bool.false_or, Bool.or_false, Bool.not_true, Bool.not_false]; done))
   have q12 : (i0 == 12) = false := beq_eq_false_iff_ne.2 e12
   have q13 : (i0 == 13) = false := beq_eq_false_iff_ne.2 e13
   have q14 : (i0 == 14) = false := beq_eq_false_iff_ne.2 e14
   have q15 : (i0 == 15) = false := beq_eq_false_iff_ne.2 e15
   have q16 : (i0 == 16) = false := beq_eq_false_iff_ne.2 e16
   have q17 : (i0 == 17) = false := beq_eq_false_iff_ne.2 e17
   repeat' (first | exact trivial | (with_reducible first | exact hp1 | exact hp2 | exact (fun h : false = true => absurd h (by decide)) | exact (fun h : true = false => absurd h (by decide)) | exact (fun h => absurd (q12.symm.trans h) (by decide)) | exact (fun h => absurd (q13.symm.trans h) (by decide)) | exact (fun h => absurd (q14.symm.trans h) (by decide)) | exact (fun h => absurd (q15.symm.trans h) (by decide)) | exact (fun h => absurd (q16.symm.trans h) (by decide)) | exact (fun h => absurd (q17.symm.trans h) (by decide))) | refine ⟨?_, ?_⟩ | intro _)
   all_goals first | (with_reducible first | apply qa | apply qb | apply qc | apply qd) | (conv => whnf)
   all_goals (try (unfold cmpS; simp only [e12, e13, e14, e15, e16, e17, if_false]))
   all_goals first | rfl
 . cases h
end Go.Proofs.YtehpbhpmkhlldaaGreat
