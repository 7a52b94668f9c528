/- What more functions of the layer of values compute. No condition. -/
import Derived.Test.YtbfinmfdcbghfaaVal
namespace Go.Proofs.Ytbfinmfdcbghfaa
set_option linter.all false
open Go.Sx

namespace Vl
def of (v : Vl) : Vl := ⟨v.i.clean, ⟨v.t.null, ofS v.t.names⟩⟩
def reduce (v : Vl) : Vl := ⟨v.of.i.red, v.of.t⟩
def hasInt (v : Vl) (n : Int) : Bool := v.i.s.has n && v.i.c.has n
def leq (a b : Vl) : Bool := a.of.i.leq b.of.i && ((!a.t.null || b.t.null) && subS (ofS a.t.names) (ofS b.t.names))
def rclean (v : Vl) : Vl := ⟨v.i.clean, ⟨v.t.null, cleanS v.t.names⟩⟩
def rreduce (v : Vl) : Vl := ⟨v.rclean.i.red, v.rclean.t⟩
def exact (a b : Vl) : Bool := (Sp.eq a.i.s b.i.s && Cg.eq a.i.c b.i.c) && (a.t.null == b.t.null && decide (a.t.names = b.t.names))
end Vl
theorem atS_gN {n i : Nat} {f : Nat → List DV} (h : i < n) : atS (gN n f) i = gT (f i) := by
  simp [atS, gN, List.getD_eq_getElem?_getD, h]
theorem ofS_room {n : Nat} {f : Nat → List DV} (h : n * 16 ≤ 140737488351232) : (ofS (gN n f)).length * 16 ≤ 140737488351232 := by
  have := ofS_len (gN n f)
  rw [gN_length] at this
  omega
theorem red_inR {i : Ig} (h1 : i.s.inR) (h2 : i.c.inR) : i.red.s.inR ∧ i.red.c.inR := by
  have e1 := upV_r (n := i.s.lo) h2
  have e2 := dnV_r (n := i.s.hi) h2
  unfold Ig.red
  split
  · unfold Ig.zero Sp.inR Cg.inR; decide
  · split
    · unfold Ig.zero Sp.inR Cg.inR; decide
    · split
      · refine ⟨?_, Cg.of_inR _ _ (by omega) (by omega) e1.1 e1.2⟩
        unfold Sp.of Sp.inR; split
        · dsimp only; omega
        · exact ⟨e1, e1⟩
      · refine ⟨?_, h2⟩
        unfold Sp.of Sp.inR; split
        · dsimp only; omega
        · exact ⟨e1, e2⟩
theorem clean_red {i : Ig} : i.clean.c.red := by
  unfold Ig.clean; split
  · unfold Ig.zero Cg.red; decide
  · exact Cg.clean_red _

def FVOf : List Ar → Option Rs
  | [.agg [.d (.v (.bool s0)), .d (.v (.int .i64 l0)), .d (.v (.int .i64 h0)), .d (.v (.bool b0)), .d (.v (.int .i64 m0)), .d (.v (.int .i64 r0)), .d (.v (.bool z0)), .d (.lst 1 n0 f0)]] => some ⟨((n0 * 16 ≤ 140737488351232 ∧ ∀ i, i < n0 → f0 i = [st (gT (f0 i))]) ∧ Sp.inR ⟨s0, l0, h0⟩ ∧ Cg.inR ⟨b0, m0, r0⟩), .va (Vl.ar (Vl.of (⟨⟨⟨s0, l0, h0⟩, ⟨b0, m0, r0⟩⟩, ⟨z0, gN n0 f0⟩⟩ : Vl))), []⟩
  | _ => none
set_option maxHeartbeats 1000000 in
set_option maxRecDepth 100000 in
theorem fcVOf : FC Try.prog 20 FVOf := by
  intro xs pre r us h hp
  unfold FVOf at h
  split at h
  · rename_i s0 l0 h0 b0 m0 r0 z0 n0 f0
    cases h
    have hp0 := hp
    refine FCat.of_eq (as' := [.agg [.d (.v (.bool s0)), .d (.v (.int .i64 l0)), .d (.v (.int .i64 h0)), .d (.v (.bool b0)), .d (.v (.int .i64 m0)), .d (.v (.int .i64 r0)), .d (.v (.bool z0)), .d (.lst 1 n0 fun i => [st (gT (f0 i))])]]) ?_ rfl rfl ?_
    · repeat' (first | exact trivial | exact rfl | refine ⟨?_, ?_⟩ | fail)
      all_goals first | exact hp0.2 | exact hp1.2 | exact hp2.2 | (intro i hi; exact (hp0.2 i hi).1) | (intro i hi; exact (hp1.2 i hi).1) | (intro i hi; exact (hp2.2 i hi).1) | grind
    refine fcat tys_ok (l := [(47, ⟨[], FVClean⟩), (39, ⟨[], FNClean⟩)]) ⟨fcVClean, fcNClean, trivial⟩ Try.func20 rfl (by kernel_rfl) true ?_
    repeat' (first | exact trivial | refine ⟨?_, ?_⟩ | intro _)
    all_goals first | (with_reducible show (_ : Int) ≤ _) | (with_reducible show (_ : Int) < _) | (with_reducible show (_ : Nat) ≤ _) | (with_reducible show (_ : Nat) < _) | (conv => whnf)
    all_goals first | exact hp0.2 | exact hp0.1.1 | exact (hp0.1.2 _ ‹_›) | exact hp0.2.1 | exact hp0.2.2 | exact hp0.2.1.1.1 | exact hp0.2.1.1.2 | exact hp0.2.1.2.1 | exact hp0.2.1.2.2 | exact hp0.2.2.1.1 | exact hp0.2.2.1.2 | exact hp0.2.2.2.1 | exact hp0.2.2.2.2 | rfl | trace_state
  · cases h
def FVValue : List Ar → Option Rs
  | [.agg [.d (.v (.bool s0)), .d (.v (.int .i64 l0)), .d (.v (.int .i64 h0)), .d (.v (.bool b0)), .d (.v (.int .i64 m0)), .d (.v (.int .i64 r0)), .d (.v (.bool z0)), .d (.lst 1 n0 f0)]] => some ⟨((n0 * 16 ≤ 140737488351232 ∧ ∀ i, i < n0 → f0 i = [st (gT (f0 i))]) ∧ Sp.inR ⟨s0, l0, h0⟩ ∧ Cg.inR ⟨b0, m0, r0⟩), .va (.agg [.d (.v (.bool s0)), .d (.v (.int .i64 l0)), .d (.v (.int .i64 h0)), .d (.v (.bool b0)), .d (.v (.int .i64 m0)), .d (.v (.int .i64 r0)), .d (.v (.bool z0)), .d (.lst 1 n0 fun i => [st (gT (f0 i))])]), []⟩
  | _ => none
set_option maxHeartbeats 1000000 in
set_option maxRecDepth 100000 in
theorem fcVValue : FC Try.prog 22 FVValue := by
  intro xs pre r us h hp
  unfold FVValue at h
  split at h
  · rename_i s0 l0 h0 b0 m0 r0 z0 n0 f0
    cases h
    have hp0 := hp
    refine FCat.of_eq (as' := [.agg [.d (.v (.bool s0)), .d (.v (.int .i64 l0)), .d (.v (.int .i64 h0)), .d (.v (.bool b0)), .d (.v (.int .i64 m0)), .d (.v (.int .i64 r0)), .d (.v (.bool z0)), .d (.lst 1 n0 fun i => [st (gT (f0 i))])]]) ?_ rfl rfl ?_
    · repeat' (first | exact trivial | exact rfl | refine ⟨?_, ?_⟩ | fail)
      all_goals first | exact hp0.2 | exact hp1.2 | exact hp2.2 | (intro i hi; exact (hp0.2 i hi).1) | (intro i hi; exact (hp1.2 i hi).1) | (intro i hi; exact (hp2.2 i hi).1) | grind
    refine fcat tys_ok (l := []) trivial Try.func22 rfl (by kernel_rfl) false ?_
    repeat' (first | exact trivial | refine ⟨?_, ?_⟩ | intro _)
    all_goals first | (with_reducible show (_ : Int) ≤ _) | (with_reducible show (_ : Int) < _) | (with_reducible show (_ : Nat) ≤ _) | (with_reducible show (_ : Nat) < _) | (conv => whnf)
    all_goals first | exact hp0.2 | exact hp0.1.1 | exact (hp0.1.2 _ ‹_›) | exact hp0.2.1 | exact hp0.2.2 | exact hp0.2.1.1.1 | exact hp0.2.1.1.2 | exact hp0.2.1.2.1 | exact hp0.2.1.2.2 | exact hp0.2.2.1.1 | exact hp0.2.2.1.2 | exact hp0.2.2.2.1 | exact hp0.2.2.2.2 | rfl | trace_state
  · cases h
def FVReduce : List Ar → Option Rs
  | [.agg [.d (.v (.bool s0)), .d (.v (.int .i64 l0)), .d (.v (.int .i64 h0)), .d (.v (.bool b0)), .d (.v (.int .i64 m0)), .d (.v (.int .i64 r0)), .d (.v (.bool z0)), .d (.lst 1 n0 f0)]] => some ⟨((n0 * 16 ≤ 140737488351232 ∧ ∀ i, i < n0 → f0 i = [st (gT (f0 i))]) ∧ Sp.inR ⟨s0, l0, h0⟩ ∧ Cg.inR ⟨b0, m0, r0⟩), .va (Vl.ar (Vl.reduce (⟨⟨⟨s0, l0, h0⟩, ⟨b0, m0, r0⟩⟩, ⟨z0, gN n0 f0⟩⟩ : Vl))), []⟩
  | _ => none
set_option maxHeartbeats 1000000 in
set_option maxRecDepth 100000 in
theorem fcVReduce : FC Try.prog 5 FVReduce := by
  intro xs pre r us h hp
  unfold FVReduce at h
  split at h
  · rename_i s0 l0 h0 b0 m0 r0 z0 n0 f0
    cases h
    have hp0 := hp
    refine FCat.of_eq (as' := [.agg [.d (.v (.bool s0)), .d (.v (.int .i64 l0)), .d (.v (.int .i64 h0)), .d (.v (.bool b0)), .d (.v (.int .i64 m0)), .d (.v (.int .i64 r0)), .d (.v (.bool z0)), .d (.lst 1 n0 fun i => [st (gT (f0 i))])]]) ?_ rfl rfl ?_
    · repeat' (first | exact trivial | exact rfl | refine ⟨?_, ?_⟩ | fail)
      all_goals first | exact hp0.2 | exact hp1.2 | exact hp2.2 | (intro i hi; exact (hp0.2 i hi).1) | (intro i hi; exact (hp1.2 i hi).1) | (intro i hi; exact (hp2.2 i hi).1) | grind
    refine fcat tys_ok (l := [(20, ⟨[], FVOf⟩), (21, ⟨[], FVRed⟩), (22, ⟨[], FVValue⟩)]) ⟨fcVOf, fcVRed, fcVValue, trivial⟩ Try.func5 rfl (by kernel_rfl) true ?_
    have hc := Ig.clean_inR (i := ⟨⟨s0, l0, h0⟩, ⟨b0, m0, r0⟩⟩) hp0.2.1 hp0.2.2
    have hr := red_inR hc.1 hc.2
    have hd := clean_red (i := ⟨⟨s0, l0, h0⟩, ⟨b0, m0, r0⟩⟩)
    have hm := ofS_room (f := f0) hp0.1.1
    repeat' (first | exact trivial | refine ⟨?_, ?_⟩ | intro _)
    all_goals first | (with_reducible show (_ : Int) ≤ _) | (with_reducible show (_ : Int) < _) | (with_reducible show (_ : Nat) ≤ _) | (with_reducible show (_ : Nat) < _) | (conv => whnf)
    all_goals first | exact hp0.2 | exact hp0.1.1 | exact (hp0.1.2 _ ‹_›) | exact hp0.2.1 | exact hp0.2.2 | exact hp0.2.1.1.1 | exact hp0.2.1.1.2 | exact hp0.2.1.2.1 | exact hp0.2.1.2.2 | exact hp0.2.2.1.1 | exact hp0.2.2.1.2 | exact hp0.2.2.2.1 | exact hp0.2.2.2.2 | rfl | exact hc.1.1.1 | exact hc.1.1.2 | exact hc.1.2.1 | exact hc.1.2.2 | exact hc.2.1.1 | exact hc.2.1.2 | exact hc.2.2.1 | exact hc.2.2.2 | exact hc.1 | exact hc.2 | exact hr.1.1.1 | exact hr.1.1.2 | exact hr.1.2.1 | exact hr.1.2.2 | exact hr.2.1.1 | exact hr.2.1.2 | exact hr.2.2.1 | exact hr.2.2.2 | exact hr.1 | exact hr.2 | exact hd.1 | exact (hd.2 (by assumption)).1 | exact (hd.2 (by assumption)).2 | exact hd | exact hm | rfl | trace_state
  · cases h
def FVNum : List Ar → Option Rs
  | [.c (.d (.v (.int .i64 i0)))] => some ⟨(-9223372036854775808 ≤ i0 ∧ i0 < 9223372036854775808), .va (Vl.ar (⟨⟨Sp.of i0 i0, Cg.of 0 i0⟩, ⟨false, []⟩⟩)), []⟩
  | _ => none
set_option maxHeartbeats 1000000 in
set_option maxRecDepth 100000 in
theorem fcVNum : FC Try.prog 6 FVNum := by
  intro xs pre r us h hp
  unfold FVNum at h
  split at h
  · rename_i i0
    cases h
    have hp0 := hp
    refine fcat tys_ok (l := [(23, ⟨[], FSOne⟩), (24, ⟨[], FCOne⟩)]) ⟨fcSOne, fcCOne, trivial⟩ Try.func6 rfl (by kernel_rfl) false ?_
    repeat' (first | exact trivial | refine ⟨?_, ?_⟩ | intro _)
    all_goals first | (with_reducible show (_ : Int) ≤ _) | (with_reducible show (_ : Int) < _) | (with_reducible show (_ : Nat) ≤ _) | (with_reducible show (_ : Nat) < _) | (conv => whnf)
    all_goals first | omega | rfl | trace_state
  · cases h
def FVInts : List Ar → Option Rs
  | [] => some ⟨True, .va (Vl.ar (⟨⟨Sp.of (-9223372036854775808) 9223372036854775807, Cg.of 1 0⟩, ⟨false, []⟩⟩)), []⟩
  | _ => none
set_option maxHeartbeats 1000000 in
set_option maxRecDepth 100000 in
theorem fcVInts : FC Try.prog 15 FVInts := by
  intro xs pre r us h hp
  unfold FVInts at h
  split at h
  · cases h
    refine fcat tys_ok (l := [(41, ⟨[], FSAll⟩), (42, ⟨[], FCAll⟩)]) ⟨fcSAll, fcCAll, trivial⟩ Try.func15 rfl (by kernel_rfl) false ?_
    repeat' (first | exact trivial | refine ⟨?_, ?_⟩ | intro _)
    all_goals first | (with_reducible show (_ : Int) ≤ _) | (with_reducible show (_ : Int) < _) | (with_reducible show (_ : Nat) ≤ _) | (with_reducible show (_ : Nat) < _) | (conv => whnf)
    all_goals first | omega | rfl | trace_state
  · cases h
def FVHasInt : List Ar → Option Rs
  | [.agg [.d (.v (.bool s0)), .d (.v (.int .i64 l0)), .d (.v (.int .i64 h0)), .d (.v (.bool b0)), .d (.v (.int .i64 m0)), .d (.v (.int .i64 r0)), .d (.v (.bool z0)), .d (.lst 1 n0 f0)], .c (.d (.v (.int .i64 i1)))] => some ⟨((n0 * 16 ≤ 140737488351232 ∧ ∀ i, i < n0 → f0 i = [st (gT (f0 i))]) ∧ Sp.inR ⟨s0, l0, h0⟩ ∧ Cg.inR ⟨b0, m0, r0⟩) ∧ (-9223372036854775808 ≤ i1 ∧ i1 < 9223372036854775808), .va (.c (.d (bo (Vl.hasInt (⟨⟨⟨s0, l0, h0⟩, ⟨b0, m0, r0⟩⟩, ⟨z0, gN n0 f0⟩⟩ : Vl) i1)))), []⟩
  | _ => none
set_option maxHeartbeats 1000000 in
set_option maxRecDepth 100000 in
theorem fcVHasInt : FC Try.prog 9 FVHasInt := by
  intro xs pre r us h hp
  unfold FVHasInt at h
  split at h
  · rename_i s0 l0 h0 b0 m0 r0 z0 n0 f0 i1
    cases h
    obtain ⟨hp0, hp1⟩ := hp
    refine FCat.of_eq (as' := [.agg [.d (.v (.bool s0)), .d (.v (.int .i64 l0)), .d (.v (.int .i64 h0)), .d (.v (.bool b0)), .d (.v (.int .i64 m0)), .d (.v (.int .i64 r0)), .d (.v (.bool z0)), .d (.lst 1 n0 fun i => [st (gT (f0 i))])], .c (.d (.v (.int .i64 i1)))]) ?_ rfl rfl ?_
    · repeat' (first | exact trivial | exact rfl | refine ⟨?_, ?_⟩ | fail)
      all_goals first | exact hp0.2 | exact hp1.2 | exact hp2.2 | (intro i hi; exact (hp0.2 i hi).1) | (intro i hi; exact (hp1.2 i hi).1) | (intro i hi; exact (hp2.2 i hi).1) | grind
    refine fcat tys_ok (l := [(34, ⟨[], FSHas⟩), (35, ⟨[], FCHas⟩)]) ⟨fcSHas, fcCHas, trivial⟩ Try.func9 rfl (by kernel_rfl) false ?_
    repeat' (first | exact trivial | refine ⟨?_, ?_⟩ | intro _)
    all_goals first | (with_reducible show (_ : Int) ≤ _) | (with_reducible show (_ : Int) < _) | (with_reducible show (_ : Nat) ≤ _) | (with_reducible show (_ : Nat) < _) | (conv => whnf)
    all_goals first | exact hp0.2 | exact hp0.1.1 | exact (hp0.1.2 _ ‹_›) | exact hp0.2.1 | exact hp0.2.2 | exact hp0.2.1.1.1 | exact hp0.2.1.1.2 | exact hp0.2.1.2.1 | exact hp0.2.1.2.2 | exact hp0.2.2.1.1 | exact hp0.2.2.1.2 | exact hp0.2.2.2.1 | exact hp0.2.2.2.2 | rfl | exact hp1 | exact hp1.1 | exact hp1.2 | (unfold Vl.hasInt; simp_all; done) | trace_state
  · cases h
def FVPtr : List Ar → Option Rs
  | [.agg [.d (.v (.bool b0)), .d (.lst 1 n0 f0)]] => some ⟨(n0 * 16 ≤ 140737488351232 ∧ ∀ i, i < n0 → f0 i = [st (gT (f0 i))]), .va (Vl.ar (⟨Ig.zero, ⟨b0, ofS (gN n0 f0)⟩⟩)), []⟩
  | _ => none
set_option maxHeartbeats 1000000 in
set_option maxRecDepth 100000 in
theorem fcVPtr : FC Try.prog 13 FVPtr := by
  intro xs pre r us h hp
  unfold FVPtr at h
  split at h
  · rename_i b0 n0 f0
    cases h
    have hp0 := hp
    refine FCat.of_eq (as' := [.agg [.d (.v (.bool b0)), .d (.lst 1 n0 fun i => [st (gT (f0 i))])]]) ?_ rfl rfl ?_
    · repeat' (first | exact trivial | exact rfl | refine ⟨?_, ?_⟩ | fail)
      all_goals first | exact hp0.2 | exact hp1.2 | exact hp2.2 | (intro i hi; exact (hp0.2 i hi).1) | (intro i hi; exact (hp1.2 i hi).1) | (intro i hi; exact (hp2.2 i hi).1) | grind
    refine fcat tys_ok (l := [(39, ⟨[], FNClean⟩)]) ⟨fcNClean, trivial⟩ Try.func13 rfl (by kernel_rfl) true ?_
    repeat' (first | exact trivial | refine ⟨?_, ?_⟩ | intro _)
    all_goals first | (with_reducible show (_ : Int) ≤ _) | (with_reducible show (_ : Int) < _) | (with_reducible show (_ : Nat) ≤ _) | (with_reducible show (_ : Nat) < _) | (conv => whnf)
    all_goals first | exact hp0.1 | rfl | trace_state
  · cases h
def FRVHasInt : List Ar → Option Rs
  | [.agg [.d (.v (.bool s0)), .d (.v (.int .i64 l0)), .d (.v (.int .i64 h0)), .d (.v (.bool b0)), .d (.v (.int .i64 m0)), .d (.v (.int .i64 r0)), .d (.v (.bool z0)), .d (.lst 1 n0 f0)], .c (.d (.v (.int .i64 i1)))] => some ⟨((n0 * 16 ≤ 140737488351232 ∧ ∀ i, i < n0 → f0 i = [st (gT (f0 i))]) ∧ Sp.inR ⟨s0, l0, h0⟩ ∧ Cg.inR ⟨b0, m0, r0⟩) ∧ (-9223372036854775808 ≤ i1 ∧ i1 < 9223372036854775808), .va (.c (.d (bo (Vl.hasInt (⟨⟨⟨s0, l0, h0⟩, ⟨b0, m0, r0⟩⟩, ⟨z0, gN n0 f0⟩⟩ : Vl) i1)))), []⟩
  | _ => none
set_option maxHeartbeats 1000000 in
set_option maxRecDepth 100000 in
theorem fcRVHasInt : FC Try.prog 10 FRVHasInt := by
  intro xs pre r us h hp
  unfold FRVHasInt at h
  split at h
  · rename_i s0 l0 h0 b0 m0 r0 z0 n0 f0 i1
    cases h
    obtain ⟨hp0, hp1⟩ := hp
    refine FCat.of_eq (as' := [.agg [.d (.v (.bool s0)), .d (.v (.int .i64 l0)), .d (.v (.int .i64 h0)), .d (.v (.bool b0)), .d (.v (.int .i64 m0)), .d (.v (.int .i64 r0)), .d (.v (.bool z0)), .d (.lst 1 n0 fun i => [st (gT (f0 i))])], .c (.d (.v (.int .i64 i1)))]) ?_ rfl rfl ?_
    · repeat' (first | exact trivial | exact rfl | refine ⟨?_, ?_⟩ | fail)
      all_goals first | exact hp0.2 | exact hp1.2 | exact hp2.2 | (intro i hi; exact (hp0.2 i hi).1) | (intro i hi; exact (hp1.2 i hi).1) | (intro i hi; exact (hp2.2 i hi).1) | grind
    refine fcat tys_ok (l := [(27, ⟨[], FRSHas⟩), (36, ⟨[], FRCHas⟩)]) ⟨fcRSHas, fcRCHas, trivial⟩ Try.func10 rfl (by kernel_rfl) false ?_
    repeat' (first | exact trivial | refine ⟨?_, ?_⟩ | intro _)
    all_goals first | (with_reducible show (_ : Int) ≤ _) | (with_reducible show (_ : Int) < _) | (with_reducible show (_ : Nat) ≤ _) | (with_reducible show (_ : Nat) < _) | (conv => whnf)
    all_goals first | exact hp0.2 | exact hp0.1.1 | exact (hp0.1.2 _ ‹_›) | exact hp0.2.1 | exact hp0.2.2 | exact hp0.2.1.1.1 | exact hp0.2.1.1.2 | exact hp0.2.1.2.1 | exact hp0.2.1.2.2 | exact hp0.2.2.1.1 | exact hp0.2.2.1.2 | exact hp0.2.2.2.1 | exact hp0.2.2.2.2 | rfl | exact hp1 | exact hp1.1 | exact hp1.2 | (unfold Vl.hasInt; simp_all; done) | trace_state
  · cases h
theorem rc_join {s : Sp} : s.join ⟨false, 0, 0⟩ = s.clean := by
  unfold Sp.join Sp.clean Sp.none
  cases s.some <;> by_cases h : s.lo > s.hi <;> simp [h]
theorem sp_clean_some {s : Sp} : s.clean.some = !s.none := by
  unfold Sp.clean Sp.none
  cases h1 : s.some <;> by_cases h : s.lo > s.hi <;> simp [h, h1]
theorem cg_clean_some {c : Cg} : c.clean.some = c.some := by
  unfold Cg.clean Cg.of Cg.none
  cases h : c.some <;> simp
  split <;> rfl
theorem rc_no1 {s : Sp} {c : Cg} (h : (!(s.join ⟨false, 0, 0⟩).some) = true) : Ig.clean ⟨s, c⟩ = Ig.zero := by
  rw [rc_join, sp_clean_some] at h
  unfold Ig.clean Ig.none; simp_all
theorem rc_no2 {s : Sp} {c : Cg} (h : (!c.clean.some) = true) : Ig.clean ⟨s, c⟩ = Ig.zero := by
  rw [cg_clean_some] at h
  unfold Ig.clean Ig.none; simp_all
theorem rc_yes {s : Sp} {c : Cg} (h : (!(s.join ⟨false, 0, 0⟩).some) = false) (h2 : (!c.clean.some) = false) : Ig.clean ⟨s, c⟩ = ⟨s.join ⟨false, 0, 0⟩, c.clean⟩ := by
  rw [rc_join] at h ⊢
  rw [cg_clean_some] at h2
  rw [sp_clean_some] at h
  unfold Ig.clean Ig.none; simp_all

def FRVClean : List Ar → Option Rs
  | [.agg [.d (.v (.bool s0)), .d (.v (.int .i64 l0)), .d (.v (.int .i64 h0)), .d (.v (.bool b0)), .d (.v (.int .i64 m0)), .d (.v (.int .i64 r0)), .d (.v (.bool z0)), .d (.lst 1 n0 f0)]] => some ⟨((n0 * 16 ≤ 140737488351232 ∧ ∀ i, i < n0 → f0 i = [st (gT (f0 i))]) ∧ Sp.inR ⟨s0, l0, h0⟩ ∧ Cg.inR ⟨b0, m0, r0⟩), .va (Vl.ar (⟨Ig.clean ⟨⟨s0, l0, h0⟩, ⟨b0, m0, r0⟩⟩, ⟨z0, cleanS (gN n0 f0)⟩⟩)), []⟩
  | _ => none
set_option maxHeartbeats 1000000 in
set_option maxRecDepth 100000 in
theorem fcRVClean : FC Try.prog 26 FRVClean := by
  intro xs pre r us h hp
  unfold FRVClean at h
  split at h
  · rename_i s0 l0 h0 b0 m0 r0 z0 n0 f0
    cases h
    have hp0 := hp
    refine FCat.of_eq (as' := [.agg [.d (.v (.bool s0)), .d (.v (.int .i64 l0)), .d (.v (.int .i64 h0)), .d (.v (.bool b0)), .d (.v (.int .i64 m0)), .d (.v (.int .i64 r0)), .d (.v (.bool z0)), .d (.lst 1 n0 fun i => [st (gT (f0 i))])]]) ?_ rfl rfl ?_
    · repeat' (first | exact trivial | exact rfl | refine ⟨?_, ?_⟩ | fail)
      all_goals first | exact hp0.2 | exact hp1.2 | exact hp2.2 | (intro i hi; exact (hp0.2 i hi).1) | (intro i hi; exact (hp1.2 i hi).1) | (intro i hi; exact (hp2.2 i hi).1) | grind
    refine fcat tys_ok (l := [(53, ⟨[], FRSJoin⟩), (54, ⟨[], FRCClean⟩), (14, ⟨[], FRClean⟩)]) ⟨fcRSJoin, fcRCClean, fcRClean, trivial⟩ Try.func26 rfl (by kernel_rfl) true ?_
    repeat' (first | exact trivial | refine ⟨?_, ?_⟩ | intro _)
    all_goals first | (with_reducible show (_ : Int) ≤ _) | (with_reducible show (_ : Int) < _) | (with_reducible show (_ : Nat) ≤ _) | (with_reducible show (_ : Nat) < _) | (conv => whnf)
    all_goals first | (show (_ : Int) ≤ _; decide) | (show (_ : Int) < _; decide) | first | exact hp0.2 | exact hp0.1.1 | exact (hp0.1.2 _ ‹_›) | exact hp0.2.1 | exact hp0.2.2 | exact hp0.2.1.1.1 | exact hp0.2.1.1.2 | exact hp0.2.1.2.1 | exact hp0.2.1.2.2 | exact hp0.2.2.1.1 | exact hp0.2.2.1.2 | exact hp0.2.2.2.1 | exact hp0.2.2.2.2 | rfl | (have e := rc_yes (s := ⟨s0, l0, h0⟩) (c := ⟨b0, m0, r0⟩) ‹_› ‹_›; first | exact congrArg (fun i : Ig => Value.bool i.s.some) e.symm | exact congrArg (fun i : Ig => Value.int .i64 i.s.lo) e.symm | exact congrArg (fun i : Ig => Value.int .i64 i.s.hi) e.symm | exact congrArg (fun i : Ig => Value.bool i.c.some) e.symm | exact congrArg (fun i : Ig => Value.int .i64 i.c.m) e.symm | exact congrArg (fun i : Ig => Value.int .i64 i.c.r) e.symm | fail) | (have e := rc_no1 (s := ⟨s0, l0, h0⟩) (c := ⟨b0, m0, r0⟩) ‹_›; first | exact congrArg (fun i : Ig => Value.bool i.s.some) e.symm | exact congrArg (fun i : Ig => Value.int .i64 i.s.lo) e.symm | exact congrArg (fun i : Ig => Value.int .i64 i.s.hi) e.symm | exact congrArg (fun i : Ig => Value.bool i.c.some) e.symm | exact congrArg (fun i : Ig => Value.int .i64 i.c.m) e.symm | exact congrArg (fun i : Ig => Value.int .i64 i.c.r) e.symm | fail) | (have e := rc_no2 (s := ⟨s0, l0, h0⟩) (c := ⟨b0, m0, r0⟩) ‹_›; first | exact congrArg (fun i : Ig => Value.bool i.s.some) e.symm | exact congrArg (fun i : Ig => Value.int .i64 i.s.lo) e.symm | exact congrArg (fun i : Ig => Value.int .i64 i.s.hi) e.symm | exact congrArg (fun i : Ig => Value.bool i.c.some) e.symm | exact congrArg (fun i : Ig => Value.int .i64 i.c.m) e.symm | exact congrArg (fun i : Ig => Value.int .i64 i.c.r) e.symm | fail) | trace_state
  · cases h
theorem sp_eq4 {s0 s1 : Bool} {l0 l1 h0 h1 : Int} : (s0 == s1 && (l0 == l1 && (h0 == h1 && true))) = Sp.eq ⟨s0, l0, h0⟩ ⟨s1, l1, h1⟩ := by simp [Sp.eq]
theorem cg_eq4 {s0 s1 : Bool} {l0 l1 h0 h1 : Int} : (s0 == s1 && (l0 == l1 && (h0 == h1 && true))) = Cg.eq ⟨s0, l0, h0⟩ ⟨s1, l1, h1⟩ := by simp [Cg.eq]

def FRVExact : List Ar → Option Rs
  | [.agg [.d (.v (.bool s0)), .d (.v (.int .i64 l0)), .d (.v (.int .i64 h0)), .d (.v (.bool b0)), .d (.v (.int .i64 m0)), .d (.v (.int .i64 r0)), .d (.v (.bool z0)), .d (.lst 1 n0 f0)], .agg [.d (.v (.bool s1)), .d (.v (.int .i64 l1)), .d (.v (.int .i64 h1)), .d (.v (.bool b1)), .d (.v (.int .i64 m1)), .d (.v (.int .i64 r1)), .d (.v (.bool z1)), .d (.lst 1 n1 f1)]] => some ⟨((n0 * 16 ≤ 140737488351232 ∧ ∀ i, i < n0 → f0 i = [st (gT (f0 i))]) ∧ Sp.inR ⟨s0, l0, h0⟩ ∧ Cg.inR ⟨b0, m0, r0⟩) ∧ ((n1 * 16 ≤ 140737488351232 ∧ ∀ i, i < n1 → f1 i = [st (gT (f1 i))]) ∧ Sp.inR ⟨s1, l1, h1⟩ ∧ Cg.inR ⟨b1, m1, r1⟩), .va (.c (.d (bo (Vl.exact (⟨⟨⟨s0, l0, h0⟩, ⟨b0, m0, r0⟩⟩, ⟨z0, gN n0 f0⟩⟩ : Vl) (⟨⟨⟨s1, l1, h1⟩, ⟨b1, m1, r1⟩⟩, ⟨z1, gN n1 f1⟩⟩ : Vl))))), []⟩
  | _ => none
set_option maxHeartbeats 1000000 in
set_option maxRecDepth 100000 in
theorem fcRVExact : FC Try.prog 7 FRVExact := by
  intro xs pre r us h hp
  unfold FRVExact at h
  split at h
  · rename_i s0 l0 h0 b0 m0 r0 z0 n0 f0 s1 l1 h1 b1 m1 r1 z1 n1 f1
    cases h
    obtain ⟨hp0, hp1⟩ := hp
    refine FCat.of_eq (as' := [.agg [.d (.v (.bool s0)), .d (.v (.int .i64 l0)), .d (.v (.int .i64 h0)), .d (.v (.bool b0)), .d (.v (.int .i64 m0)), .d (.v (.int .i64 r0)), .d (.v (.bool z0)), .d (.lst 1 n0 fun i => [st (gT (f0 i))])], .agg [.d (.v (.bool s1)), .d (.v (.int .i64 l1)), .d (.v (.int .i64 h1)), .d (.v (.bool b1)), .d (.v (.int .i64 m1)), .d (.v (.int .i64 r1)), .d (.v (.bool z1)), .d (.lst 1 n1 fun i => [st (gT (f1 i))])]]) ?_ rfl rfl ?_
    · repeat' (first | exact trivial | exact rfl | refine ⟨?_, ?_⟩ | fail)
      all_goals first | exact hp0.2 | exact hp1.2 | exact hp2.2 | (intro i hi; exact (hp0.2 i hi).1) | (intro i hi; exact (hp1.2 i hi).1) | (intro i hi; exact (hp2.2 i hi).1) | grind
    refine fcat tys_ok (l := [(25, ⟨[], FRExact⟩)]) ⟨fcRExact, trivial⟩ Try.func7 rfl (by kernel_rfl) false ?_
    repeat' (first | exact trivial | refine ⟨?_, ?_⟩ | intro _)
    all_goals first | (with_reducible show (_ : Int) ≤ _) | (with_reducible show (_ : Int) < _) | (with_reducible show (_ : Nat) ≤ _) | (with_reducible show (_ : Nat) < _) | (conv => whnf)
    all_goals first | exact hp0.1.1 | exact hp1.1.1 | rfl | skip
    all_goals (simp only [sp_eq4 (s0 := s0)] at *; try simp only [cg_eq4 (s0 := b0)] at *)
    all_goals (unfold Vl.exact; dsimp only)
    all_goals first | (simp only [*, gN_canon, Bool.true_and, Bool.false_and, Bool.and_false]; done) | (rw [‹Sp.eq _ _ = true›, ‹Cg.eq _ _ = true›, Bool.true_and, Bool.true_and]; rfl) | trace_state
  · cases h

end Go.Proofs.Ytbfinmfdcbghfaa
