/- What the law ValueReduces answers. No condition. -/
import Derived.Test.YtbfinmfdcbghfaaVal5
namespace Go.Proofs.Ytbfinmfdcbghfaa
set_option linter.all false
open Go.Sx

theorem zero_inR : Sp.inR Ig.zero.s ∧ Cg.inR Ig.zero.c := by unfold Ig.zero Sp.inR Cg.inR; decide
def FValueReduces : List Ar → Option Rs
  | [.agg [.d (.v (.bool s0)), .d (.v (.int .i64 l0)), .d (.v (.int .i64 h0)), .d (.v (.bool b0)), .d (.v (.int .i64 m0)), .d (.v (.int .i64 r0)), .d (.v (.bool _)), .d (.lst 1 n0 f0)], .c (.d (.v (.int .i64 i1)))] => some ⟨((n0 * 16 ≤ 140737488351232 ∧ ∀ i, i < n0 → f0 i = [st (gT (f0 i))]) ∧ Sp.inR ⟨s0, l0, h0⟩ ∧ Cg.inR ⟨b0, m0, r0⟩) ∧ (-9223372036854775808 ≤ i1 ∧ i1 < 9223372036854775808), .va (.c (.d (bo (true)))), []⟩
  | _ => none
set_option maxHeartbeats 2000000 in
set_option maxRecDepth 100000 in
theorem fcValueReduces : FC Try.prog 3 FValueReduces := by
  intro xs pre r us h hp
  unfold FValueReduces at h
  split at h
  · rename_i s0 l0 h0 b0 m0 r0 z0 n0 f0 i1
    cases h
    obtain ⟨hp0, hp1⟩ := hp
    refine FCat.of_eq (as' := [.agg [.d (.v (.bool s0)), .d (.v (.int .i64 l0)), .d (.v (.int .i64 h0)), .d (.v (.bool b0)), .d (.v (.int .i64 m0)), .d (.v (.int .i64 r0)), .d (.v (.bool z0)), .d (.lst 1 n0 fun i => [st (gT (f0 i))])], .c (.d (.v (.int .i64 i1)))]) ?_ rfl rfl ?_
    · repeat' (first | exact trivial | exact rfl | refine ⟨?_, ?_⟩ | fail)
      all_goals first | exact hp0.2 | exact hp1.2 | exact hp2.2 | (intro i hi; exact (hp0.2 i hi).1) | (intro i hi; exact (hp1.2 i hi).1) | (intro i hi; exact (hp2.2 i hi).1) | grind
    refine fcat tys_ok (l := [(5, ⟨[], FN 1 FVReduce⟩), (6, ⟨[], FVNum⟩), (8, ⟨[], FN 1 FRVReduce⟩), (7, ⟨[], FN 1 FRVExact⟩), (9, ⟨[], FN 1 FVHasInt⟩), (10, ⟨[], FN 1 FRVHasInt⟩), (11, ⟨[], FN 1 FVLeq⟩), (12, ⟨[], FVInt⟩), (13, ⟨[], FVPtr⟩), (14, ⟨[], FRClean⟩), (15, ⟨[], FVInts⟩), (16, ⟨[], FVLives⟩)]) ⟨fc_nil 1 fcVReduce, fcVNum, fc_nil 1 fcRVReduce, fc_nil 1 fcRVExact, fc_nil 1 fcVHasInt, fc_nil 1 fcRVHasInt, fc_nil 1 fcVLeq, fcVInt, fcVPtr, fcRClean, fcVInts, fcVLives, trivial⟩ Try.func3 rfl (by kernel_rfl) true ?_
    have hv : okV (⟨(⟨⟨s0, l0, h0⟩, ⟨b0, m0, r0⟩⟩ : Ig), ⟨z0, gN n0 fun i => [st (gT (f0 i))]⟩⟩ : Vl) := ⟨⟨(by rw [gN_length]; exact hp0.1.1), fun _ _ => rfl⟩, hp0.2⟩
    have hw : (n0 * 16 ≤ 140737488351232 ∧ ∀ i, i < n0 → (fun i => [st (gT (f0 i))]) i = [st (gT ((fun i => [st (gT (f0 i))]) i))]) ∧ Sp.inR ⟨s0, l0, h0⟩ ∧ Cg.inR ⟨b0, m0, r0⟩ := ⟨⟨hp0.1.1, fun _ _ => rfl⟩, hp0.2⟩
    have hR : okV (Vl.reduce (⟨(⟨⟨s0, l0, h0⟩, ⟨b0, m0, r0⟩⟩ : Ig), ⟨z0, gN n0 fun i => [st (gT (f0 i))]⟩⟩ : Vl)) := ok_reduce hp0.1.1 hp0.2.1 hp0.2.2
    have hS : okV (Vl.rreduce (⟨(⟨⟨s0, l0, h0⟩, ⟨b0, m0, r0⟩⟩ : Ig), ⟨z0, gN n0 fun i => [st (gT (f0 i))]⟩⟩ : Vl)) := ok_rreduce hp0.1.1 hp0.2.1 hp0.2.2
    have hR2 : okV (Vl.reduce ⟨(Vl.reduce (⟨(⟨⟨s0, l0, h0⟩, ⟨b0, m0, r0⟩⟩ : Ig), ⟨z0, gN n0 fun i => [st (gT (f0 i))]⟩⟩ : Vl)).i, ⟨(Vl.reduce (⟨(⟨⟨s0, l0, h0⟩, ⟨b0, m0, r0⟩⟩ : Ig), ⟨z0, gN n0 fun i => [st (gT (f0 i))]⟩⟩ : Vl)).t.null, gN (Vl.reduce (⟨(⟨⟨s0, l0, h0⟩, ⟨b0, m0, r0⟩⟩ : Ig), ⟨z0, gN n0 fun i => [st (gT (f0 i))]⟩⟩ : Vl)).t.names.length fun i => [st (atS (Vl.reduce (⟨(⟨⟨s0, l0, h0⟩, ⟨b0, m0, r0⟩⟩ : Ig), ⟨z0, gN n0 fun i => [st (gT (f0 i))]⟩⟩ : Vl)).t.names i)]⟩⟩) := ok_reduce hR.1.1 hR.2.1 hR.2.2
    have hI : okV (Vl.reduce ⟨(⟨⟨s0, l0, h0⟩, ⟨b0, m0, r0⟩⟩ : Ig), ⟨false, []⟩⟩) := ok_reduce (n := 0) (f := fun _ => []) (Nat.zero_le _) hp0.2.1 hp0.2.2
    have hJ : okV (Vl.rreduce ⟨(⟨⟨s0, l0, h0⟩, ⟨b0, m0, r0⟩⟩ : Ig), ⟨false, gN 0 fun _ => []⟩⟩) := ok_rreduce (Nat.zero_le _) hp0.2.1 hp0.2.2
    have hO : okV (⟨⟨Sp.of i1 i1, Cg.of 0 i1⟩, ⟨false, []⟩⟩ : Vl) := ⟨⟨Nat.zero_le _, fun _ _ => rfl⟩, one_inR hp1⟩
    have hO2 : okV (Vl.rreduce ⟨⟨Sp.of i1 i1, Cg.of 0 i1⟩, ⟨false, gN ([] : List ByteArray).length fun i => [st (atS [] i)]⟩⟩) := ok_rreduce (Nat.zero_le _) (one_inR hp1).1 (one_inR hp1).2
    have hA : okV ⟨⟨Sp.of (-9223372036854775808) 9223372036854775807, Cg.of 1 0⟩, ⟨false, []⟩⟩ := ⟨⟨Nat.zero_le _, fun _ _ => rfl⟩, all_inR⟩
    have hP : okV ⟨Ig.zero, ⟨z0, ofS (gN n0 fun i => [st (gT (f0 i))])⟩⟩ := ⟨⟨ofS_room hp0.1.1, fun _ _ => rfl⟩, zero_inR⟩
    have hQ : okV ⟨Ig.zero, ⟨z0, cleanS (gN n0 fun i => [st (gT (f0 i))])⟩⟩ := ⟨⟨cleanS_room hp0.1.1, fun _ _ => rfl⟩, zero_inR⟩
    unfold okV at hR hS hR2 hI hJ hO hO2 hA hP hQ
    repeat' (first | exact trivial | (with_reducible exact hw) | (with_reducible exact hR) | (with_reducible exact hS) | (with_reducible exact hR2) | (with_reducible exact hI) | (with_reducible exact hJ) | (with_reducible exact hO) | (with_reducible exact hO2) | (with_reducible exact hA) | (with_reducible exact hP) | (with_reducible exact hQ) | (with_reducible exact hp1) | (with_reducible exact hp0.2) | (with_reducible exact hp0.2.1) | (with_reducible exact hp0.2.2) | refine ⟨?_, ?_⟩ | intro _)
    all_goals first | (with_reducible show (_ : Int) ≤ _) | (with_reducible show (_ : Int) < _) | (with_reducible show (_ : Nat) ≤ _) | (with_reducible show (_ : Nat) < _) | (conv => whnf)
    all_goals first | rfl | exact hQ.1.1 | exact hP.1.1 | exact Nat.zero_le _ | (exact absurd ‹_ < 0› (Nat.not_lt_zero _)) | exact hp0.1.1 | exact hp1.1 | exact hp1.2 | (first | exact hw | exact hR | exact hS | exact hR2 | exact hI | exact hJ | exact hO | exact hO2 | exact hA | exact hP | exact hQ | exact hp1 | exact hp0.2 | exact hp0.2.1 | exact hp0.2.2 | fail) | (with_reducible show (_ : Int) ≤ _; decide) | (with_reducible show (_ : Int) < _; decide) | skip
    all_goals (try simp only [gN_lst] at *)
    all_goals first | (exfalso; first | exact v1f (⟨(⟨⟨s0, l0, h0⟩, ⟨b0, m0, r0⟩⟩ : Ig), ⟨z0, gN n0 fun i => [st (gT (f0 i))]⟩⟩ : Vl) ‹_› | exact v2f (⟨(⟨⟨s0, l0, h0⟩, ⟨b0, m0, r0⟩⟩ : Ig), ⟨z0, gN n0 fun i => [st (gT (f0 i))]⟩⟩ : Vl) hp0.2.1 hp0.2.2 ‹_› | exact v3f (⟨(⟨⟨s0, l0, h0⟩, ⟨b0, m0, r0⟩⟩ : Ig), ⟨z0, gN n0 fun i => [st (gT (f0 i))]⟩⟩ : Vl) i1 hp0.2.1 hp0.2.2 hp1 ‹_› | exact v4f (⟨(⟨⟨s0, l0, h0⟩, ⟨b0, m0, r0⟩⟩ : Ig), ⟨z0, gN n0 fun i => [st (gT (f0 i))]⟩⟩ : Vl) hp0.2.1 hp0.2.2 ‹_› | exact v1f ⟨(⟨⟨s0, l0, h0⟩, ⟨b0, m0, r0⟩⟩ : Ig), ⟨false, []⟩⟩ ‹_› | exact v6f z0 (gN n0 f0) ‹_› | exact v7f i1 ‹_› | exact v8f i1 ‹_› | exact v9f i1 hp1 ‹_› | fail) | trace_state
  · cases h

end Go.Proofs.Ytbfinmfdcbghfaa
