/- What the law ValueWidens answers. No condition. -/
import Derived.Test.YtbfinmfdcbghfaaGreatVLaw2
namespace Go.Proofs.YtbfinmfdcbghfaaGreat
set_option linter.all false
open Go.Sx

theorem okV_zero : okV Vl.zero := ⟨⟨by show (0 : Nat) * 16 ≤ 140737488351232; omega, fun _ _ => rfl⟩, by unfold Vl.zero Ig.zero Sp.inR Cg.inR; decide⟩
theorem okV_narrow {a b : Vl} (ha : okV a) (hb : okV b) : okV (Vl.narrow a b) := by
  have h1 := okV_of ha
  have h2 := okV_of hb
  have h3 := Sp.narrow_inR h1.2.1 h2.2.1
  unfold Vl.narrow
  split
  · exact h1
  · split
    · exact okV_zero
    · refine ⟨h1.1, ?_⟩
      split
      · exact Ig.clean_inR h3 h2.2.2
      · exact Ig.clean_inR h3 h1.2.2
theorem w1f (a b : Vl) (l : List Int) (h : Vl.exact (Vl.widen a b l) (Vl.rwiden a b l) = false) : False := nF (w1 a b l) h
theorem w2f (a b : Vl) (h : Vl.exact (Vl.narrow a b) (Vl.rnarrow a b) = false) : False := nF (w2 a b) h

def FValueWidens : List Ar → Option Rs
  | [.agg [.d (.v (.bool s0)), .d (.v (.int .i64 l0)), .d (.v (.int .i64 h0)), .d (.v (.bool b0)), .d (.v (.int .i64 m0)), .d (.v (.int .i64 r0)), .d (.v (.bool _)), .d (.lst 1 n0 f0)], .agg [.d (.v (.bool s1)), .d (.v (.int .i64 l1)), .d (.v (.int .i64 h1)), .d (.v (.bool b1)), .d (.v (.int .i64 m1)), .d (.v (.int .i64 r1)), .d (.v (.bool _)), .d (.lst 1 n1 f1)], .c (.d (.lst 1 n2 f2))] => some ⟨((n0 * 16 ≤ 140737488351232 ∧ ∀ i, i < n0 → f0 i = [st (gT (f0 i))]) ∧ Sp.inR ⟨s0, l0, h0⟩ ∧ Cg.inR ⟨b0, m0, r0⟩) ∧ ((n1 * 16 ≤ 140737488351232 ∧ ∀ i, i < n1 → f1 i = [st (gT (f1 i))]) ∧ Sp.inR ⟨s1, l1, h1⟩ ∧ Cg.inR ⟨b1, m1, r1⟩) ∧ (n2 ≤ 9223372036854775807 ∧ ∀ i, i < n2 → f2 i = [it (gI (f2 i))] ∧ rI (gI (f2 i))) ∧ ((n0 + n1) * 16 ≤ 140737488351232), .va (.c (.d (bo (true)))), []⟩
  | _ => none
set_option maxHeartbeats 1000000 in
set_option maxRecDepth 100000 in
theorem fcValueWidens : FC Tryz.prog 3 FValueWidens := by
  intro xs pre r us h hp
  unfold FValueWidens at h
  split at h
  · rename_i s0 l0 h0 b0 m0 r0 z0 n0 f0 s1 l1 h1 b1 m1 r1 z1 n1 f1 n2 f2
    cases h
    obtain ⟨hp0, hp1, hp2, hp3⟩ := hp
    refine FCat.of_eq (as' := [.agg [.d (.v (.bool s0)), .d (.v (.int .i64 l0)), .d (.v (.int .i64 h0)), .d (.v (.bool b0)), .d (.v (.int .i64 m0)), .d (.v (.int .i64 r0)), .d (.v (.bool z0)), .d (.lst 1 n0 fun i => [st (gT (f0 i))])], .agg [.d (.v (.bool s1)), .d (.v (.int .i64 l1)), .d (.v (.int .i64 h1)), .d (.v (.bool b1)), .d (.v (.int .i64 m1)), .d (.v (.int .i64 r1)), .d (.v (.bool z1)), .d (.lst 1 n1 fun i => [st (gT (f1 i))])], .c (.d (.lst 1 n2 fun i => [it (gI (f2 i))]))]) ?_ rfl rfl ?_
    · repeat' (first | exact trivial | exact rfl | refine ⟨?_, ?_⟩ | fail)
      all_goals first | exact hp0.2 | exact hp1.2 | exact hp2.2 | (intro i hi; exact (hp0.2 i hi).1) | (intro i hi; exact (hp1.2 i hi).1) | (intro i hi; exact (hp2.2 i hi).1) | grind
    refine fcat tys_ok (l := [(6, ⟨[], FVWiden⟩), (7, ⟨[], FRVWiden⟩), (5, ⟨[], FRVExact⟩), (8, ⟨[], FVNarrow⟩), (9, ⟨[], FRVNarrow⟩), (10, ⟨[], FVLives⟩)]) ⟨fcVWiden, fcRVWiden, fcRVExact, fcVNarrow, fcRVNarrow, fcVLives, trivial⟩ Tryz.func3 rfl (by kernel_rfl) true ?_
    have hv0 : okV (⟨⟨⟨s0, l0, h0⟩, ⟨b0, m0, r0⟩⟩, ⟨z0, gN n0 fun i => [st (gT (f0 i))]⟩⟩ : Vl) := ⟨⟨(by rw [gN_length]; exact hp0.1.1), fun _ _ => rfl⟩, hp0.2⟩
    have hv1 : okV (⟨⟨⟨s1, l1, h1⟩, ⟨b1, m1, r1⟩⟩, ⟨z1, gN n1 fun i => [st (gT (f1 i))]⟩⟩ : Vl) := ⟨⟨(by rw [gN_length]; exact hp1.1.1), fun _ _ => rfl⟩, hp1.2⟩
    have ho0 := okV_of hv0
    have ho1 := okV_of hv1
    have hoo0 := okV_of ho0
    have hoo1 := okV_of ho1
    have hl0 : (Vl.of (⟨⟨⟨s0, l0, h0⟩, ⟨b0, m0, r0⟩⟩, ⟨z0, gN n0 fun i => [st (gT (f0 i))]⟩⟩ : Vl)).t.names.length ≤ n0 := by have := ofS_len (gN n0 f0); rw [gN_length] at this; exact this
    have hl1 : (Vl.of (⟨⟨⟨s1, l1, h1⟩, ⟨b1, m1, r1⟩⟩, ⟨z1, gN n1 fun i => [st (gT (f1 i))]⟩⟩ : Vl)).t.names.length ≤ n1 := by have := ofS_len (gN n1 f1); rw [gN_length] at this; exact this
    have hsj := Sp.join_inR ho0.2.1 ho1.2.1
    have hcj := Cg.join_inR ho0.2.2 ho1.2.2
    have hsum : ((Vl.of (⟨⟨⟨s0, l0, h0⟩, ⟨b0, m0, r0⟩⟩, ⟨z0, gN n0 fun i => [st (gT (f0 i))]⟩⟩ : Vl)).t.names.length + (Vl.of (⟨⟨⟨s1, l1, h1⟩, ⟨b1, m1, r1⟩⟩, ⟨z1, gN n1 fun i => [st (gT (f1 i))]⟩⟩ : Vl)).t.names.length) * 16 ≤ 140737488351232 := by have := hp3; omega
    have hjl : (ofS ((Vl.of (⟨⟨⟨s0, l0, h0⟩, ⟨b0, m0, r0⟩⟩, ⟨z0, gN n0 fun i => [st (gT (f0 i))]⟩⟩ : Vl)).t.names ++ (Vl.of (⟨⟨⟨s1, l1, h1⟩, ⟨b1, m1, r1⟩⟩, ⟨z1, gN n1 fun i => [st (gT (f1 i))]⟩⟩ : Vl)).t.names)).length * 16 ≤ 140737488351232 := by have := ofS_len ((Vl.of (⟨⟨⟨s0, l0, h0⟩, ⟨b0, m0, r0⟩⟩, ⟨z0, gN n0 fun i => [st (gT (f0 i))]⟩⟩ : Vl)).t.names ++ (Vl.of (⟨⟨⟨s1, l1, h1⟩, ⟨b1, m1, r1⟩⟩, ⟨z1, gN n1 fun i => [st (gT (f1 i))]⟩⟩ : Vl)).t.names); rw [List.length_append] at this; omega
    unfold okV at ho0 ho1 hoo0 hoo1
    have hws := Sp.widen_inR (l := gL n2 fun i => [it (gI (f2 i))]) ho0.2.1 ho1.2.1 (fun x hx => gL_r hp2.2 x hx)
    have hwl : (ofS ((Vl.of (⟨⟨⟨s0, l0, h0⟩, ⟨b0, m0, r0⟩⟩, ⟨z0, gN n0 fun i => [st (gT (f0 i))]⟩⟩ : Vl)).t.names ++ (Vl.of (⟨⟨⟨s1, l1, h1⟩, ⟨b1, m1, r1⟩⟩, ⟨z1, gN n1 fun i => [st (gT (f1 i))]⟩⟩ : Vl)).t.names)).length * 16 ≤ 140737488351232 := hjl
    have hw : okV (Vl.widen (⟨⟨⟨s0, l0, h0⟩, ⟨b0, m0, r0⟩⟩, ⟨z0, gN n0 fun i => [st (gT (f0 i))]⟩⟩ : Vl) (⟨⟨⟨s1, l1, h1⟩, ⟨b1, m1, r1⟩⟩, ⟨z1, gN n1 fun i => [st (gT (f1 i))]⟩⟩ : Vl) (gL n2 fun i => [it (gI (f2 i))])) := ⟨⟨hwl, fun _ _ => rfl⟩, hws, hcj⟩
    have hrw : okV (Vl.rwiden (⟨⟨⟨s0, l0, h0⟩, ⟨b0, m0, r0⟩⟩, ⟨z0, gN n0 fun i => [st (gT (f0 i))]⟩⟩ : Vl) (⟨⟨⟨s1, l1, h1⟩, ⟨b1, m1, r1⟩⟩, ⟨z1, gN n1 fun i => [st (gT (f1 i))]⟩⟩ : Vl) (gL n2 fun i => [it (gI (f2 i))])) := by rw [← widen_eq]; exact hw
    have hn : okV (Vl.narrow (⟨⟨⟨s0, l0, h0⟩, ⟨b0, m0, r0⟩⟩, ⟨z0, gN n0 fun i => [st (gT (f0 i))]⟩⟩ : Vl) (⟨⟨⟨s1, l1, h1⟩, ⟨b1, m1, r1⟩⟩, ⟨z1, gN n1 fun i => [st (gT (f1 i))]⟩⟩ : Vl)) := okV_narrow hv0 hv1
    have hrn : okV (Vl.rnarrow (⟨⟨⟨s0, l0, h0⟩, ⟨b0, m0, r0⟩⟩, ⟨z0, gN n0 fun i => [st (gT (f0 i))]⟩⟩ : Vl) (⟨⟨⟨s1, l1, h1⟩, ⟨b1, m1, r1⟩⟩, ⟨z1, gN n1 fun i => [st (gT (f1 i))]⟩⟩ : Vl)) := by rw [← narrow_eq]; exact hn
    unfold okV at hw hrw hn hrn
    repeat' (first | exact trivial | (with_reducible exact hw) | (with_reducible exact hrw) | (with_reducible exact hn) | (with_reducible exact hrn) | (with_reducible exact hw.1) | (with_reducible exact hrw.1) | (with_reducible exact hn.1) | (with_reducible exact hrn.1) | (with_reducible exact hw.2.1) | (with_reducible exact hw.2.2) | (with_reducible exact hrw.2.1) | (with_reducible exact hrw.2.2) | (with_reducible exact hn.2.1) | (with_reducible exact hn.2.2) | (with_reducible exact hrn.2.1) | (with_reducible exact hrn.2.2) | (with_reducible exact hp0) | (with_reducible exact hp1) | (with_reducible exact hp2) | (with_reducible exact hp3) | (with_reducible exact hp0.1) | (with_reducible exact hp0.2.1) | (with_reducible exact hp0.2.2) | (with_reducible exact hp1.1) | (with_reducible exact hp1.2.1) | (with_reducible exact hp1.2.2) | refine ⟨?_, ?_⟩ | intro _)
    all_goals first | (with_reducible show (_ : Int) ≤ _) | (with_reducible show (_ : Int) < _) | (with_reducible show (_ : Nat) ≤ _) | (with_reducible show (_ : Nat) < _) | (conv => whnf)
    all_goals (try simp only [gN_lst, gN_canon, gL_canon] at *)
    all_goals first | rfl | (with_reducible exact hp0.1.1) | (with_reducible exact hp1.1.1) | (with_reducible exact hp2.1) | (exact (hp2.2 _ ‹_›).2.1) | (exact (hp2.2 _ ‹_›).2.2) | (with_reducible exact hw.1.1) | (with_reducible exact hrw.1.1) | (with_reducible exact hn.1.1) | (with_reducible exact hrn.1.1) | skip
    all_goals first | (exfalso; first | exact w1f (⟨⟨⟨s0, l0, h0⟩, ⟨b0, m0, r0⟩⟩, ⟨z0, gN n0 f0⟩⟩ : Vl) (⟨⟨⟨s1, l1, h1⟩, ⟨b1, m1, r1⟩⟩, ⟨z1, gN n1 f1⟩⟩ : Vl) (gL n2 f2) ‹_› | exact w2f (⟨⟨⟨s0, l0, h0⟩, ⟨b0, m0, r0⟩⟩, ⟨z0, gN n0 f0⟩⟩ : Vl) (⟨⟨⟨s1, l1, h1⟩, ⟨b1, m1, r1⟩⟩, ⟨z1, gN n1 f1⟩⟩ : Vl) ‹_›) | trace_state
  · cases h

end Go.Proofs.YtbfinmfdcbghfaaGreat
