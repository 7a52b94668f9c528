/- What the document's joins and widenings of values are. No condition. -/
import Derived.Test.YtbfinmfdcbghfaaGreatVal6
namespace Go.Proofs.YtbfinmfdcbghfaaGreat
set_option linter.all false
open Go.Sx

theorem okV_rc {i : Ig} {z : Bool} {l : List ByteArray} (h : okV ⟨i, ⟨z, l⟩⟩) : okV ⟨i.clean, ⟨z, cleanS l⟩⟩ := by
  have e : (⟨i.clean, ⟨z, cleanS l⟩⟩ : Vl) = Vl.rclean ⟨i, ⟨z, l⟩⟩ := rfl
  rw [e]; exact okV_rclean h
theorem rnone_key {v : Vl} : (((cleanS (cleanS v.t.names)).length : Int) + (if v.t.null then 1 else 0) == 0) = decide (((cleanS (cleanS v.t.names)).length : Int) + (if v.t.null then 1 else 0) = 0) := by rw [Bool.eq_iff_iff]; simp
theorem rnone_t {v : Vl} (h : (!v.rclean.i.s.some) = true) : Value.bool (((cleanS (cleanS v.t.names)).length : Int) + (if v.t.null then 1 else 0) == 0) = Value.bool v.rnone := by unfold Vl.rnone; rw [h, rnone_key]; rfl
theorem rnone_f {v : Vl} (h : (!v.rclean.i.s.some) = false) : Value.bool false = Value.bool v.rnone := by unfold Vl.rnone; rw [h]; rfl
theorem rleq_1 {a b : Vl} (h : a.rclean.i.s.leq b.rclean.i.s = true) (h2 : a.rclean.i.c.leq b.rclean.i.c = true) : Value.bool ((!a.t.null || b.t.null) && subS (cleanS a.t.names) (cleanS b.t.names)) = Value.bool (Vl.rleq a b) := by unfold Vl.rleq; rw [h, h2]; rfl
theorem rleq_2 {a b : Vl} (h : a.rclean.i.s.leq b.rclean.i.s = true) (h2 : a.rclean.i.c.leq b.rclean.i.c = false) : Value.bool false = Value.bool (Vl.rleq a b) := by unfold Vl.rleq; rw [h, h2]; rfl
theorem rleq_3 {a b : Vl} (h : a.rclean.i.s.leq b.rclean.i.s = false) : Value.bool false = Value.bool (Vl.rleq a b) := by unfold Vl.rleq; rw [h]; rfl
theorem rnarrow_1 {a b : Vl} (h : (!Vl.rleq b.rclean a.rclean) = true) : Vl.rnarrow a b = a.rclean := by unfold Vl.rnarrow; rw [if_pos h]
theorem rnarrow_2 {a b : Vl} (h : (!Vl.rleq b.rclean a.rclean) = false) (h2 : b.rclean.rnone = true) : Vl.rnarrow a b = Vl.zero := by unfold Vl.rnarrow; rw [if_neg (by rw [h]; decide), if_pos h2]
theorem rnarrow_3 {a b : Vl} (h : (!Vl.rleq b.rclean a.rclean) = false) (h2 : b.rclean.rnone = false) (h3 : (a.rclean.i.c.m == 1) = true) : Vl.rnarrow a b = Vl.rclean ⟨⟨a.rclean.i.s.narrow b.rclean.i.s, b.rclean.i.c⟩, a.rclean.t⟩ := by unfold Vl.rnarrow; rw [if_neg (by rw [h]; decide), if_neg (by rw [h2]; decide), if_pos (by simpa using h3)]
theorem rnarrow_4 {a b : Vl} (h : (!Vl.rleq b.rclean a.rclean) = false) (h2 : b.rclean.rnone = false) (h3 : (a.rclean.i.c.m == 1) = false) : Vl.rnarrow a b = Vl.rclean ⟨⟨a.rclean.i.s.narrow b.rclean.i.s, a.rclean.i.c⟩, a.rclean.t⟩ := by unfold Vl.rnarrow; rw [if_neg (by rw [h]; decide), if_neg (by rw [h2]; decide), if_neg (by simpa using h3)]

def FRVNone : List Ar → Option Rs
  | [.agg [.d (.v (.bool s0)), .d (.v (.int .i64 l0)), .d (.v (.int .i64 h0)), .d (.v (.bool b0)), .d (.v (.int .i64 m0)), .d (.v (.int .i64 r0)), .d (.v (.bool z0)), .d (.lst 1 n0 f0)]] => some ⟨((n0 * 16 ≤ 140737488351232 ∧ ∀ i, i < n0 → f0 i = [st (gT (f0 i))]) ∧ Sp.inR ⟨s0, l0, h0⟩ ∧ Cg.inR ⟨b0, m0, r0⟩), .va (.c (.d (bo (Vl.rnone (⟨⟨⟨s0, l0, h0⟩, ⟨b0, m0, r0⟩⟩, ⟨z0, gN n0 f0⟩⟩ : Vl))))), []⟩
  | _ => none
set_option maxHeartbeats 1000000 in
set_option maxRecDepth 100000 in
theorem fcRVNone : FC Tryz.prog 36 FRVNone := by
  intro xs pre r us h hp
  unfold FRVNone at h
  split at h
  · rename_i s0 l0 h0 b0 m0 r0 z0 n0 f0
    cases h
    have hp0 := hp
    refine FCat.of_eq (as' := [.agg [.d (.v (.bool s0)), .d (.v (.int .i64 l0)), .d (.v (.int .i64 h0)), .d (.v (.bool b0)), .d (.v (.int .i64 m0)), .d (.v (.int .i64 r0)), .d (.v (.bool z0)), .d (.lst 1 n0 fun i => [st (gT (f0 i))])]]) ?_ rfl rfl ?_
    · repeat' (first | exact trivial | exact rfl | refine ⟨?_, ?_⟩ | fail)
      all_goals first | exact hp0.2 | exact hp1.2 | exact hp2.2 | (intro i hi; exact (hp0.2 i hi).1) | (intro i hi; exact (hp1.2 i hi).1) | (intro i hi; exact (hp2.2 i hi).1) | grind
    refine fcat tys_ok (l := [(28, ⟨[], FRVClean⟩), (81, ⟨[], FRNLen⟩)]) ⟨fcRVClean, fcRNLen, trivial⟩ Tryz.func36 rfl (by kernel_rfl) true ?_
    have hv0 : okV (⟨⟨⟨s0, l0, h0⟩, ⟨b0, m0, r0⟩⟩, ⟨z0, gN n0 fun i => [st (gT (f0 i))]⟩⟩ : Vl) := ⟨⟨(by rw [gN_length]; exact hp0.1.1), fun _ _ => rfl⟩, hp0.2⟩
    have ho0 : okV (⟨Ig.clean ⟨⟨s0, l0, h0⟩, ⟨b0, m0, r0⟩⟩, ⟨z0, cleanS (gN n0 fun i => [st (gT (f0 i))])⟩⟩ : Vl) := okV_rc hv0
    unfold okV at ho0
    dsimp only at ho0
    repeat' (first | exact trivial | (with_reducible exact ho0) | (with_reducible exact ho0.1) | (with_reducible exact ho0.2.1) | (with_reducible exact ho0.2.2) | (with_reducible exact hp0) | (with_reducible exact hp0.1) | (with_reducible exact hp0.2) | (with_reducible exact hp0.2.1) | (with_reducible exact hp0.2.2) | refine ⟨?_, ?_⟩ | intro _)
    all_goals first | (with_reducible show (_ : Int) ≤ _) | (with_reducible show (_ : Int) < _) | (with_reducible show (_ : Nat) ≤ _) | (with_reducible show (_ : Nat) < _) | (conv => whnf)
    all_goals (try simp only [gN_lst] at *)
    all_goals first | rfl | exact rnone_t (v := (⟨⟨⟨s0, l0, h0⟩, ⟨b0, m0, r0⟩⟩, ⟨z0, gN n0 fun i => [st (gT (f0 i))]⟩⟩ : Vl)) ‹_› | exact rnone_f (v := (⟨⟨⟨s0, l0, h0⟩, ⟨b0, m0, r0⟩⟩, ⟨z0, gN n0 fun i => [st (gT (f0 i))]⟩⟩ : Vl)) ‹_› | (with_reducible exact hp0.1.1) | (with_reducible exact ho0.1.1) | trace_state
  · cases h
def FRVLeq : List Ar → Option Rs
  | [.agg [.d (.v (.bool s0)), .d (.v (.int .i64 l0)), .d (.v (.int .i64 h0)), .d (.v (.bool b0)), .d (.v (.int .i64 m0)), .d (.v (.int .i64 r0)), .d (.v (.bool z0)), .d (.lst 1 n0 f0)], .agg [.d (.v (.bool s1)), .d (.v (.int .i64 l1)), .d (.v (.int .i64 h1)), .d (.v (.bool b1)), .d (.v (.int .i64 m1)), .d (.v (.int .i64 r1)), .d (.v (.bool z1)), .d (.lst 1 n1 f1)]] => some ⟨((n0 * 16 ≤ 140737488351232 ∧ ∀ i, i < n0 → f0 i = [st (gT (f0 i))]) ∧ Sp.inR ⟨s0, l0, h0⟩ ∧ Cg.inR ⟨b0, m0, r0⟩) ∧ ((n1 * 16 ≤ 140737488351232 ∧ ∀ i, i < n1 → f1 i = [st (gT (f1 i))]) ∧ Sp.inR ⟨s1, l1, h1⟩ ∧ Cg.inR ⟨b1, m1, r1⟩), .va (.c (.d (bo (Vl.rleq (⟨⟨⟨s0, l0, h0⟩, ⟨b0, m0, r0⟩⟩, ⟨z0, gN n0 f0⟩⟩ : Vl) (⟨⟨⟨s1, l1, h1⟩, ⟨b1, m1, r1⟩⟩, ⟨z1, gN n1 f1⟩⟩ : Vl))))), []⟩
  | _ => none
set_option maxHeartbeats 1000000 in
set_option maxRecDepth 100000 in
theorem fcRVLeq : FC Tryz.prog 35 FRVLeq := by
  intro xs pre r us h hp
  unfold FRVLeq at h
  split at h
  · rename_i s0 l0 h0 b0 m0 r0 z0 n0 f0 s1 l1 h1 b1 m1 r1 z1 n1 f1
    cases h
    obtain ⟨hp0, hp1⟩ := hp
    refine FCat.of_eq (as' := [.agg [.d (.v (.bool s0)), .d (.v (.int .i64 l0)), .d (.v (.int .i64 h0)), .d (.v (.bool b0)), .d (.v (.int .i64 m0)), .d (.v (.int .i64 r0)), .d (.v (.bool z0)), .d (.lst 1 n0 fun i => [st (gT (f0 i))])], .agg [.d (.v (.bool s1)), .d (.v (.int .i64 l1)), .d (.v (.int .i64 h1)), .d (.v (.bool b1)), .d (.v (.int .i64 m1)), .d (.v (.int .i64 r1)), .d (.v (.bool z1)), .d (.lst 1 n1 fun i => [st (gT (f1 i))])]]) ?_ rfl rfl ?_
    · repeat' (first | exact trivial | exact rfl | refine ⟨?_, ?_⟩ | fail)
      all_goals first | exact hp0.2 | exact hp1.2 | exact hp2.2 | (intro i hi; exact (hp0.2 i hi).1) | (intro i hi; exact (hp1.2 i hi).1) | (intro i hi; exact (hp2.2 i hi).1) | grind
    refine fcat tys_ok (l := [(28, ⟨[], FRVClean⟩), (75, ⟨[], FRSLeq⟩), (79, ⟨[], FRCLeq⟩), (80, ⟨[], FRNLeq⟩)]) ⟨fcRVClean, fcRSLeq, fcRCLeq, fcRNLeq, trivial⟩ Tryz.func35 rfl (by kernel_rfl) true ?_
    have hv0 : okV (⟨⟨⟨s0, l0, h0⟩, ⟨b0, m0, r0⟩⟩, ⟨z0, gN n0 fun i => [st (gT (f0 i))]⟩⟩ : Vl) := ⟨⟨(by rw [gN_length]; exact hp0.1.1), fun _ _ => rfl⟩, hp0.2⟩
    have hv1 : okV (⟨⟨⟨s1, l1, h1⟩, ⟨b1, m1, r1⟩⟩, ⟨z1, gN n1 fun i => [st (gT (f1 i))]⟩⟩ : Vl) := ⟨⟨(by rw [gN_length]; exact hp1.1.1), fun _ _ => rfl⟩, hp1.2⟩
    have ho0 : okV (⟨Ig.clean ⟨⟨s0, l0, h0⟩, ⟨b0, m0, r0⟩⟩, ⟨z0, cleanS (gN n0 fun i => [st (gT (f0 i))])⟩⟩ : Vl) := okV_rc hv0
    have ho1 : okV (⟨Ig.clean ⟨⟨s1, l1, h1⟩, ⟨b1, m1, r1⟩⟩, ⟨z1, cleanS (gN n1 fun i => [st (gT (f1 i))])⟩⟩ : Vl) := okV_rc hv1
    have hoo0 := okV_rc ho0
    have hoo1 := okV_rc ho1
    have hl0 : (cleanS (gN n0 fun i => [st (gT (f0 i))])).length ≤ n0 := by exact cleanS_len n0 f0
    have hl1 : (cleanS (gN n1 fun i => [st (gT (f1 i))])).length ≤ n1 := by exact cleanS_len n1 f1
    have hsj := Sp.join_inR ho0.2.1 ho1.2.1
    have hcj := Cg.join_inR ho0.2.2 ho1.2.2
    unfold okV at ho0 ho1 hoo0 hoo1
    dsimp only at ho0 ho1
    repeat' (first | exact trivial | (with_reducible exact ho0) | (with_reducible exact ho1) | (with_reducible exact ho0.1) | (with_reducible exact ho1.1) | (with_reducible exact ho0.2.1) | (with_reducible exact ho0.2.2) | (with_reducible exact ho1.2.1) | (with_reducible exact ho1.2.2) | (with_reducible exact hp0.1) | (with_reducible exact hp1.1) | (with_reducible exact hp0.2.1) | (with_reducible exact hp0.2.2) | (with_reducible exact hp1.2.1) | (with_reducible exact hp1.2.2) | (with_reducible exact hp0) | (with_reducible exact hp1) | (with_reducible exact hsj) | (with_reducible exact hcj) | refine ⟨?_, ?_⟩ | intro _)
    all_goals first | (with_reducible show (_ : Int) ≤ _) | (with_reducible show (_ : Int) < _) | (with_reducible show (_ : Nat) ≤ _) | (with_reducible show (_ : Nat) < _) | (conv => whnf)
    all_goals (try simp only [gN_lst] at *)
    all_goals first | rfl | exact rleq_1 (a := (⟨⟨⟨s0, l0, h0⟩, ⟨b0, m0, r0⟩⟩, ⟨z0, gN n0 fun i => [st (gT (f0 i))]⟩⟩ : Vl)) (b := (⟨⟨⟨s1, l1, h1⟩, ⟨b1, m1, r1⟩⟩, ⟨z1, gN n1 fun i => [st (gT (f1 i))]⟩⟩ : Vl)) ‹_› ‹_› | exact rleq_2 (a := (⟨⟨⟨s0, l0, h0⟩, ⟨b0, m0, r0⟩⟩, ⟨z0, gN n0 fun i => [st (gT (f0 i))]⟩⟩ : Vl)) (b := (⟨⟨⟨s1, l1, h1⟩, ⟨b1, m1, r1⟩⟩, ⟨z1, gN n1 fun i => [st (gT (f1 i))]⟩⟩ : Vl)) ‹_› ‹_› | exact rleq_3 (a := (⟨⟨⟨s0, l0, h0⟩, ⟨b0, m0, r0⟩⟩, ⟨z0, gN n0 fun i => [st (gT (f0 i))]⟩⟩ : Vl)) (b := (⟨⟨⟨s1, l1, h1⟩, ⟨b1, m1, r1⟩⟩, ⟨z1, gN n1 fun i => [st (gT (f1 i))]⟩⟩ : Vl)) ‹_› | (with_reducible exact hp0.1.1) | (with_reducible exact hp1.1.1) | (with_reducible exact ho0.1.1) | (with_reducible exact ho1.1.1) | trace_state
  · cases h
def FRVJoin : List Ar → Option Rs
  | [.agg [.d (.v (.bool s0)), .d (.v (.int .i64 l0)), .d (.v (.int .i64 h0)), .d (.v (.bool b0)), .d (.v (.int .i64 m0)), .d (.v (.int .i64 r0)), .d (.v (.bool z0)), .d (.lst 1 n0 f0)], .agg [.d (.v (.bool s1)), .d (.v (.int .i64 l1)), .d (.v (.int .i64 h1)), .d (.v (.bool b1)), .d (.v (.int .i64 m1)), .d (.v (.int .i64 r1)), .d (.v (.bool z1)), .d (.lst 1 n1 f1)]] => some ⟨((n0 * 16 ≤ 140737488351232 ∧ ∀ i, i < n0 → f0 i = [st (gT (f0 i))]) ∧ Sp.inR ⟨s0, l0, h0⟩ ∧ Cg.inR ⟨b0, m0, r0⟩) ∧ ((n1 * 16 ≤ 140737488351232 ∧ ∀ i, i < n1 → f1 i = [st (gT (f1 i))]) ∧ Sp.inR ⟨s1, l1, h1⟩ ∧ Cg.inR ⟨b1, m1, r1⟩) ∧ ((n0 + n1) * 16 ≤ 140737488351232), .va (Vl.ar (Vl.rjoin (⟨⟨⟨s0, l0, h0⟩, ⟨b0, m0, r0⟩⟩, ⟨z0, gN n0 f0⟩⟩ : Vl) (⟨⟨⟨s1, l1, h1⟩, ⟨b1, m1, r1⟩⟩, ⟨z1, gN n1 f1⟩⟩ : Vl))), []⟩
  | _ => none
set_option maxHeartbeats 1000000 in
set_option maxRecDepth 100000 in
theorem fcRVJoin : FC Tryz.prog 29 FRVJoin := by
  intro xs pre r us h hp
  unfold FRVJoin at h
  split at h
  · rename_i s0 l0 h0 b0 m0 r0 z0 n0 f0 s1 l1 h1 b1 m1 r1 z1 n1 f1
    cases h
    obtain ⟨hp0, hp1, hp2⟩ := hp
    refine FCat.of_eq (as' := [.agg [.d (.v (.bool s0)), .d (.v (.int .i64 l0)), .d (.v (.int .i64 h0)), .d (.v (.bool b0)), .d (.v (.int .i64 m0)), .d (.v (.int .i64 r0)), .d (.v (.bool z0)), .d (.lst 1 n0 fun i => [st (gT (f0 i))])], .agg [.d (.v (.bool s1)), .d (.v (.int .i64 l1)), .d (.v (.int .i64 h1)), .d (.v (.bool b1)), .d (.v (.int .i64 m1)), .d (.v (.int .i64 r1)), .d (.v (.bool z1)), .d (.lst 1 n1 fun i => [st (gT (f1 i))])]]) ?_ rfl rfl ?_
    · repeat' (first | exact trivial | exact rfl | refine ⟨?_, ?_⟩ | fail)
      all_goals first | exact hp0.2 | exact hp1.2 | exact hp2.2 | (intro i hi; exact (hp0.2 i hi).1) | (intro i hi; exact (hp1.2 i hi).1) | (intro i hi; exact (hp2.2 i hi).1) | grind
    refine fcat tys_ok (l := [(28, ⟨[], FRVClean⟩), (70, ⟨[], FRSJoin⟩), (72, ⟨[], FRCJoin⟩), (73, ⟨[], FRNJoin⟩)]) ⟨fcRVClean, fcRSJoin, fcRCJoin, fcRNJoin, trivial⟩ Tryz.func29 rfl (by kernel_rfl) true ?_
    have hv0 : okV (⟨⟨⟨s0, l0, h0⟩, ⟨b0, m0, r0⟩⟩, ⟨z0, gN n0 fun i => [st (gT (f0 i))]⟩⟩ : Vl) := ⟨⟨(by rw [gN_length]; exact hp0.1.1), fun _ _ => rfl⟩, hp0.2⟩
    have hv1 : okV (⟨⟨⟨s1, l1, h1⟩, ⟨b1, m1, r1⟩⟩, ⟨z1, gN n1 fun i => [st (gT (f1 i))]⟩⟩ : Vl) := ⟨⟨(by rw [gN_length]; exact hp1.1.1), fun _ _ => rfl⟩, hp1.2⟩
    have ho0 : okV (⟨Ig.clean ⟨⟨s0, l0, h0⟩, ⟨b0, m0, r0⟩⟩, ⟨z0, cleanS (gN n0 fun i => [st (gT (f0 i))])⟩⟩ : Vl) := okV_rc hv0
    have ho1 : okV (⟨Ig.clean ⟨⟨s1, l1, h1⟩, ⟨b1, m1, r1⟩⟩, ⟨z1, cleanS (gN n1 fun i => [st (gT (f1 i))])⟩⟩ : Vl) := okV_rc hv1
    have hoo0 := okV_rc ho0
    have hoo1 := okV_rc ho1
    have hl0 : (cleanS (gN n0 fun i => [st (gT (f0 i))])).length ≤ n0 := by exact cleanS_len n0 f0
    have hl1 : (cleanS (gN n1 fun i => [st (gT (f1 i))])).length ≤ n1 := by exact cleanS_len n1 f1
    have hsj := Sp.join_inR ho0.2.1 ho1.2.1
    have hcj := Cg.join_inR ho0.2.2 ho1.2.2
    unfold okV at ho0 ho1 hoo0 hoo1
    dsimp only at ho0 ho1
    have hsum : ((cleanS (gN n0 fun i => [st (gT (f0 i))])).length + (cleanS (gN n1 fun i => [st (gT (f1 i))])).length) * 16 ≤ 140737488351232 := by have := hp2; omega
    
    repeat' (first | exact trivial | (with_reducible exact ho0) | (with_reducible exact ho1) | (with_reducible exact ho0.1) | (with_reducible exact ho1.1) | (with_reducible exact ho0.2.1) | (with_reducible exact ho0.2.2) | (with_reducible exact ho1.2.1) | (with_reducible exact ho1.2.2) | (with_reducible exact hp0.1) | (with_reducible exact hp1.1) | (with_reducible exact hp0.2.1) | (with_reducible exact hp0.2.2) | (with_reducible exact hp1.2.1) | (with_reducible exact hp1.2.2) | (with_reducible exact hp0) | (with_reducible exact hp1) | (with_reducible exact hsj) | (with_reducible exact hcj) | refine ⟨?_, ?_⟩ | intro _)
    all_goals first | (with_reducible show (_ : Int) ≤ _) | (with_reducible show (_ : Int) < _) | (with_reducible show (_ : Nat) ≤ _) | (with_reducible show (_ : Nat) < _) | (conv => whnf)
    all_goals (try simp only [gN_lst] at *)
    all_goals first | rfl | (with_reducible exact hp0.1.1) | (with_reducible exact hp1.1.1) | (with_reducible exact ho0.1.1) | (with_reducible exact ho1.1.1) | (with_reducible exact hsum) | trace_state
  · cases h
def FRVWiden : List Ar → Option Rs
  | [.agg [.d (.v (.bool s0)), .d (.v (.int .i64 l0)), .d (.v (.int .i64 h0)), .d (.v (.bool b0)), .d (.v (.int .i64 m0)), .d (.v (.int .i64 r0)), .d (.v (.bool z0)), .d (.lst 1 n0 f0)], .agg [.d (.v (.bool s1)), .d (.v (.int .i64 l1)), .d (.v (.int .i64 h1)), .d (.v (.bool b1)), .d (.v (.int .i64 m1)), .d (.v (.int .i64 r1)), .d (.v (.bool z1)), .d (.lst 1 n1 f1)], .c (.d (.lst 1 n2 f2))] => some ⟨((n0 * 16 ≤ 140737488351232 ∧ ∀ i, i < n0 → f0 i = [st (gT (f0 i))]) ∧ Sp.inR ⟨s0, l0, h0⟩ ∧ Cg.inR ⟨b0, m0, r0⟩) ∧ ((n1 * 16 ≤ 140737488351232 ∧ ∀ i, i < n1 → f1 i = [st (gT (f1 i))]) ∧ Sp.inR ⟨s1, l1, h1⟩ ∧ Cg.inR ⟨b1, m1, r1⟩) ∧ (n2 ≤ 9223372036854775807 ∧ ∀ i, i < n2 → f2 i = [it (gI (f2 i))] ∧ rI (gI (f2 i))) ∧ ((n0 + n1) * 16 ≤ 140737488351232), .va (Vl.ar (Vl.rwiden (⟨⟨⟨s0, l0, h0⟩, ⟨b0, m0, r0⟩⟩, ⟨z0, gN n0 f0⟩⟩ : Vl) (⟨⟨⟨s1, l1, h1⟩, ⟨b1, m1, r1⟩⟩, ⟨z1, gN n1 f1⟩⟩ : Vl) (gL n2 f2))), []⟩
  | _ => none
set_option maxHeartbeats 1000000 in
set_option maxRecDepth 100000 in
theorem fcRVWiden : FC Tryz.prog 7 FRVWiden := by
  intro xs pre r us h hp
  unfold FRVWiden at h
  split at h
  · rename_i s0 l0 h0 b0 m0 r0 z0 n0 f0 s1 l1 h1 b1 m1 r1 z1 n1 f1 n2 f2
    cases h
    obtain ⟨hp0, hp1, hp2, hp3⟩ := hp
    refine FCat.of_eq (as' := [.agg [.d (.v (.bool s0)), .d (.v (.int .i64 l0)), .d (.v (.int .i64 h0)), .d (.v (.bool b0)), .d (.v (.int .i64 m0)), .d (.v (.int .i64 r0)), .d (.v (.bool z0)), .d (.lst 1 n0 fun i => [st (gT (f0 i))])], .agg [.d (.v (.bool s1)), .d (.v (.int .i64 l1)), .d (.v (.int .i64 h1)), .d (.v (.bool b1)), .d (.v (.int .i64 m1)), .d (.v (.int .i64 r1)), .d (.v (.bool z1)), .d (.lst 1 n1 fun i => [st (gT (f1 i))])], .c (.d (.lst 1 n2 fun i => [it (gI (f2 i))]))]) ?_ rfl rfl ?_
    · repeat' (first | exact trivial | exact rfl | refine ⟨?_, ?_⟩ | fail)
      all_goals first | exact hp0.2 | exact hp1.2 | exact hp2.2 | (intro i hi; exact (hp0.2 i hi).1) | (intro i hi; exact (hp1.2 i hi).1) | (intro i hi; exact (hp2.2 i hi).1) | grind
    refine fcat tys_ok (l := [(28, ⟨[], FRVClean⟩), (29, ⟨[], FRVJoin⟩), (30, ⟨[], FRSWiden⟩)]) ⟨fcRVClean, fcRVJoin, fcRSWiden, trivial⟩ Tryz.func7 rfl (by kernel_rfl) true ?_
    have hv0 : okV (⟨⟨⟨s0, l0, h0⟩, ⟨b0, m0, r0⟩⟩, ⟨z0, gN n0 fun i => [st (gT (f0 i))]⟩⟩ : Vl) := ⟨⟨(by rw [gN_length]; exact hp0.1.1), fun _ _ => rfl⟩, hp0.2⟩
    have hv1 : okV (⟨⟨⟨s1, l1, h1⟩, ⟨b1, m1, r1⟩⟩, ⟨z1, gN n1 fun i => [st (gT (f1 i))]⟩⟩ : Vl) := ⟨⟨(by rw [gN_length]; exact hp1.1.1), fun _ _ => rfl⟩, hp1.2⟩
    have ho0 : okV (⟨Ig.clean ⟨⟨s0, l0, h0⟩, ⟨b0, m0, r0⟩⟩, ⟨z0, cleanS (gN n0 fun i => [st (gT (f0 i))])⟩⟩ : Vl) := okV_rc hv0
    have ho1 : okV (⟨Ig.clean ⟨⟨s1, l1, h1⟩, ⟨b1, m1, r1⟩⟩, ⟨z1, cleanS (gN n1 fun i => [st (gT (f1 i))])⟩⟩ : Vl) := okV_rc hv1
    have hoo0 := okV_rc ho0
    have hoo1 := okV_rc ho1
    have hl0 : (cleanS (gN n0 fun i => [st (gT (f0 i))])).length ≤ n0 := by exact cleanS_len n0 f0
    have hl1 : (cleanS (gN n1 fun i => [st (gT (f1 i))])).length ≤ n1 := by exact cleanS_len n1 f1
    have hsj := Sp.join_inR ho0.2.1 ho1.2.1
    have hcj := Cg.join_inR ho0.2.2 ho1.2.2
    unfold okV at ho0 ho1 hoo0 hoo1
    dsimp only at ho0 ho1
    have hsum : ((cleanS (gN n0 fun i => [st (gT (f0 i))])).length + (cleanS (gN n1 fun i => [st (gT (f1 i))])).length) * 16 ≤ 140737488351232 := by have := hp3; omega
    have hll0 : (cleanS (cleanS (gN n0 fun i => [st (gT (f0 i))]))).length ≤ n0 := by have := cleanS_len (cleanS (gN n0 fun i => [st (gT (f0 i))])).length (fun i => [st (atS (cleanS (gN n0 fun i => [st (gT (f0 i))])) i)]); rw [gN_lst] at this; exact Nat.le_trans this hl0
    have hll1 : (cleanS (cleanS (gN n1 fun i => [st (gT (f1 i))]))).length ≤ n1 := by have := cleanS_len (cleanS (gN n1 fun i => [st (gT (f1 i))])).length (fun i => [st (atS (cleanS (gN n1 fun i => [st (gT (f1 i))])) i)]); rw [gN_lst] at this; exact Nat.le_trans this hl1
    have hws := Sp.widen_inR (l := gL n2 fun i => [it (gI (f2 i))]) ho0.2.1 ho1.2.1 (fun x hx => gL_r hp2.2 x hx)
    have hsj2 := Sp.join_inR hoo0.2.1 hoo1.2.1
    have hcj2 := Cg.join_inR hoo0.2.2 hoo1.2.2
    repeat' (first | exact trivial | (with_reducible exact ho0) | (with_reducible exact ho1) | (with_reducible exact ho0.1) | (with_reducible exact ho1.1) | (with_reducible exact ho0.2.1) | (with_reducible exact ho0.2.2) | (with_reducible exact ho1.2.1) | (with_reducible exact ho1.2.2) | (with_reducible exact hp0.1) | (with_reducible exact hp1.1) | (with_reducible exact hp0.2.1) | (with_reducible exact hp0.2.2) | (with_reducible exact hp1.2.1) | (with_reducible exact hp1.2.2) | (with_reducible exact hp0) | (with_reducible exact hp1) | (with_reducible exact hsj) | (with_reducible exact hcj) | (with_reducible exact hws) | (with_reducible exact hp2) | (with_reducible exact hp2.1) | (with_reducible exact hsj2) | (with_reducible exact hcj2) | refine ⟨?_, ?_⟩ | intro _)
    all_goals first | (with_reducible show (_ : Int) ≤ _) | (with_reducible show (_ : Int) < _) | (with_reducible show (_ : Nat) ≤ _) | (with_reducible show (_ : Nat) < _) | (conv => whnf)
    all_goals (try simp only [gN_lst] at *)
    all_goals first | rfl | (exact (hp2.2 _ ‹_›).2.1) | (exact (hp2.2 _ ‹_›).2.2) | (with_reducible exact hp2.1) | (with_reducible exact hp0.1.1) | (with_reducible exact hp1.1.1) | (with_reducible exact ho0.1.1) | (with_reducible exact ho1.1.1) | (with_reducible exact hsum) | trace_state
  · cases h
def FRVNarrow : List Ar → Option Rs
  | [.agg [.d (.v (.bool s0)), .d (.v (.int .i64 l0)), .d (.v (.int .i64 h0)), .d (.v (.bool b0)), .d (.v (.int .i64 m0)), .d (.v (.int .i64 r0)), .d (.v (.bool z0)), .d (.lst 1 n0 f0)], .agg [.d (.v (.bool s1)), .d (.v (.int .i64 l1)), .d (.v (.int .i64 h1)), .d (.v (.bool b1)), .d (.v (.int .i64 m1)), .d (.v (.int .i64 r1)), .d (.v (.bool z1)), .d (.lst 1 n1 f1)]] => some ⟨((n0 * 16 ≤ 140737488351232 ∧ ∀ i, i < n0 → f0 i = [st (gT (f0 i))]) ∧ Sp.inR ⟨s0, l0, h0⟩ ∧ Cg.inR ⟨b0, m0, r0⟩) ∧ ((n1 * 16 ≤ 140737488351232 ∧ ∀ i, i < n1 → f1 i = [st (gT (f1 i))]) ∧ Sp.inR ⟨s1, l1, h1⟩ ∧ Cg.inR ⟨b1, m1, r1⟩), .va (Vl.ar (Vl.rnarrow (⟨⟨⟨s0, l0, h0⟩, ⟨b0, m0, r0⟩⟩, ⟨z0, gN n0 f0⟩⟩ : Vl) (⟨⟨⟨s1, l1, h1⟩, ⟨b1, m1, r1⟩⟩, ⟨z1, gN n1 f1⟩⟩ : Vl))), []⟩
  | _ => none
set_option maxHeartbeats 1000000 in
set_option maxRecDepth 100000 in
theorem fcRVNarrow : FC Tryz.prog 9 FRVNarrow := by
  intro xs pre r us h hp
  unfold FRVNarrow at h
  split at h
  · rename_i s0 l0 h0 b0 m0 r0 z0 n0 f0 s1 l1 h1 b1 m1 r1 z1 n1 f1
    cases h
    obtain ⟨hp0, hp1⟩ := hp
    refine FCat.of_eq (as' := [.agg [.d (.v (.bool s0)), .d (.v (.int .i64 l0)), .d (.v (.int .i64 h0)), .d (.v (.bool b0)), .d (.v (.int .i64 m0)), .d (.v (.int .i64 r0)), .d (.v (.bool z0)), .d (.lst 1 n0 fun i => [st (gT (f0 i))])], .agg [.d (.v (.bool s1)), .d (.v (.int .i64 l1)), .d (.v (.int .i64 h1)), .d (.v (.bool b1)), .d (.v (.int .i64 m1)), .d (.v (.int .i64 r1)), .d (.v (.bool z1)), .d (.lst 1 n1 fun i => [st (gT (f1 i))])]]) ?_ rfl rfl ?_
    · repeat' (first | exact trivial | exact rfl | refine ⟨?_, ?_⟩ | fail)
      all_goals first | exact hp0.2 | exact hp1.2 | exact hp2.2 | (intro i hi; exact (hp0.2 i hi).1) | (intro i hi; exact (hp1.2 i hi).1) | (intro i hi; exact (hp2.2 i hi).1) | grind
    refine fcat tys_ok (l := [(28, ⟨[], FRVClean⟩), (35, ⟨[], FRVLeq⟩), (36, ⟨[], FRVNone⟩), (37, ⟨[], FRSNarrow⟩)]) ⟨fcRVClean, fcRVLeq, fcRVNone, fcRSNarrow, trivial⟩ Tryz.func9 rfl (by kernel_rfl) true ?_
    have hv0 : okV (⟨⟨⟨s0, l0, h0⟩, ⟨b0, m0, r0⟩⟩, ⟨z0, gN n0 fun i => [st (gT (f0 i))]⟩⟩ : Vl) := ⟨⟨(by rw [gN_length]; exact hp0.1.1), fun _ _ => rfl⟩, hp0.2⟩
    have hv1 : okV (⟨⟨⟨s1, l1, h1⟩, ⟨b1, m1, r1⟩⟩, ⟨z1, gN n1 fun i => [st (gT (f1 i))]⟩⟩ : Vl) := ⟨⟨(by rw [gN_length]; exact hp1.1.1), fun _ _ => rfl⟩, hp1.2⟩
    have ho0 : okV (⟨Ig.clean ⟨⟨s0, l0, h0⟩, ⟨b0, m0, r0⟩⟩, ⟨z0, cleanS (gN n0 fun i => [st (gT (f0 i))])⟩⟩ : Vl) := okV_rc hv0
    have ho1 : okV (⟨Ig.clean ⟨⟨s1, l1, h1⟩, ⟨b1, m1, r1⟩⟩, ⟨z1, cleanS (gN n1 fun i => [st (gT (f1 i))])⟩⟩ : Vl) := okV_rc hv1
    have hoo0 := okV_rc ho0
    have hoo1 := okV_rc ho1
    have hl0 : (cleanS (gN n0 fun i => [st (gT (f0 i))])).length ≤ n0 := by exact cleanS_len n0 f0
    have hl1 : (cleanS (gN n1 fun i => [st (gT (f1 i))])).length ≤ n1 := by exact cleanS_len n1 f1
    have hsj := Sp.join_inR ho0.2.1 ho1.2.1
    have hcj := Cg.join_inR ho0.2.2 ho1.2.2
    unfold okV at ho0 ho1 hoo0 hoo1
    dsimp only at ho0 ho1
    have hns := Sp.narrow_inR ho0.2.1 ho1.2.1
    repeat' (first | exact trivial | (with_reducible exact ho0) | (with_reducible exact ho1) | (with_reducible exact ho0.1) | (with_reducible exact ho1.1) | (with_reducible exact ho0.2.1) | (with_reducible exact ho0.2.2) | (with_reducible exact ho1.2.1) | (with_reducible exact ho1.2.2) | (with_reducible exact hp0.1) | (with_reducible exact hp1.1) | (with_reducible exact hp0.2.1) | (with_reducible exact hp0.2.2) | (with_reducible exact hp1.2.1) | (with_reducible exact hp1.2.2) | (with_reducible exact hp0) | (with_reducible exact hp1) | (with_reducible exact hsj) | (with_reducible exact hcj) | (with_reducible exact hns) | refine ⟨?_, ?_⟩ | intro _)
    all_goals first | (with_reducible show (_ : Int) ≤ _) | (with_reducible show (_ : Int) < _) | (with_reducible show (_ : Nat) ≤ _) | (with_reducible show (_ : Nat) < _) | (conv => whnf)
    all_goals (try simp only [gN_lst] at *)
    all_goals first | rfl | (with_reducible exact hp0.1.1) | (with_reducible exact hp1.1.1) | (with_reducible exact ho0.1.1) | (with_reducible exact ho1.1.1) | (have e := rnarrow_1 (a := (⟨⟨⟨s0, l0, h0⟩, ⟨b0, m0, r0⟩⟩, ⟨z0, gN n0 fun i => [st (gT (f0 i))]⟩⟩ : Vl)) (b := (⟨⟨⟨s1, l1, h1⟩, ⟨b1, m1, r1⟩⟩, ⟨z1, gN n1 fun i => [st (gT (f1 i))]⟩⟩ : Vl)) ‹_›; first | (have e2 := congrArg (fun v : Vl => Value.bool v.i.s.some) e.symm; exact e2) | (have e2 := congrArg (fun v : Vl => Value.int .i64 v.i.s.lo) e.symm; exact e2) | (have e2 := congrArg (fun v : Vl => Value.int .i64 v.i.s.hi) e.symm; exact e2) | (have e2 := congrArg (fun v : Vl => Value.bool v.i.c.some) e.symm; exact e2) | (have e2 := congrArg (fun v : Vl => Value.int .i64 v.i.c.m) e.symm; exact e2) | (have e2 := congrArg (fun v : Vl => Value.int .i64 v.i.c.r) e.symm; exact e2) | (have e2 := congrArg (fun v : Vl => Value.bool v.t.null) e.symm; exact e2) | (have e2 := congrArg (fun v : Vl => v.t.names.length) e.symm; exact e2) | (have e2 := congrArg (fun v : Vl => v.t.names.length) e; exact e2) | (have e2 := congrArg (fun v : Vl => [st (atS v.t.names (by assumption))]) e.symm; exact e2) | fail) | (have e := rnarrow_2 (a := (⟨⟨⟨s0, l0, h0⟩, ⟨b0, m0, r0⟩⟩, ⟨z0, gN n0 fun i => [st (gT (f0 i))]⟩⟩ : Vl)) (b := (⟨⟨⟨s1, l1, h1⟩, ⟨b1, m1, r1⟩⟩, ⟨z1, gN n1 fun i => [st (gT (f1 i))]⟩⟩ : Vl)) ‹_› ‹_›; first | (have e2 := congrArg (fun v : Vl => Value.bool v.i.s.some) e.symm; exact e2) | (have e2 := congrArg (fun v : Vl => Value.int .i64 v.i.s.lo) e.symm; exact e2) | (have e2 := congrArg (fun v : Vl => Value.int .i64 v.i.s.hi) e.symm; exact e2) | (have e2 := congrArg (fun v : Vl => Value.bool v.i.c.some) e.symm; exact e2) | (have e2 := congrArg (fun v : Vl => Value.int .i64 v.i.c.m) e.symm; exact e2) | (have e2 := congrArg (fun v : Vl => Value.int .i64 v.i.c.r) e.symm; exact e2) | (have e2 := congrArg (fun v : Vl => Value.bool v.t.null) e.symm; exact e2) | (have e2 := congrArg (fun v : Vl => v.t.names.length) e.symm; exact e2) | (have e2 := congrArg (fun v : Vl => v.t.names.length) e; exact e2) | (have e2 := congrArg (fun v : Vl => [st (atS v.t.names (by assumption))]) e.symm; exact e2) | fail) | (have e := rnarrow_3 (a := (⟨⟨⟨s0, l0, h0⟩, ⟨b0, m0, r0⟩⟩, ⟨z0, gN n0 fun i => [st (gT (f0 i))]⟩⟩ : Vl)) (b := (⟨⟨⟨s1, l1, h1⟩, ⟨b1, m1, r1⟩⟩, ⟨z1, gN n1 fun i => [st (gT (f1 i))]⟩⟩ : Vl)) ‹_› ‹_› ‹_›; first | (have e2 := congrArg (fun v : Vl => Value.bool v.i.s.some) e.symm; exact e2) | (have e2 := congrArg (fun v : Vl => Value.int .i64 v.i.s.lo) e.symm; exact e2) | (have e2 := congrArg (fun v : Vl => Value.int .i64 v.i.s.hi) e.symm; exact e2) | (have e2 := congrArg (fun v : Vl => Value.bool v.i.c.some) e.symm; exact e2) | (have e2 := congrArg (fun v : Vl => Value.int .i64 v.i.c.m) e.symm; exact e2) | (have e2 := congrArg (fun v : Vl => Value.int .i64 v.i.c.r) e.symm; exact e2) | (have e2 := congrArg (fun v : Vl => Value.bool v.t.null) e.symm; exact e2) | (have e2 := congrArg (fun v : Vl => v.t.names.length) e.symm; exact e2) | (have e2 := congrArg (fun v : Vl => v.t.names.length) e; exact e2) | (have e2 := congrArg (fun v : Vl => [st (atS v.t.names (by assumption))]) e.symm; exact e2) | fail) | (have e := rnarrow_4 (a := (⟨⟨⟨s0, l0, h0⟩, ⟨b0, m0, r0⟩⟩, ⟨z0, gN n0 fun i => [st (gT (f0 i))]⟩⟩ : Vl)) (b := (⟨⟨⟨s1, l1, h1⟩, ⟨b1, m1, r1⟩⟩, ⟨z1, gN n1 fun i => [st (gT (f1 i))]⟩⟩ : Vl)) ‹_› ‹_› ‹_›; first | (have e2 := congrArg (fun v : Vl => Value.bool v.i.s.some) e.symm; exact e2) | (have e2 := congrArg (fun v : Vl => Value.int .i64 v.i.s.lo) e.symm; exact e2) | (have e2 := congrArg (fun v : Vl => Value.int .i64 v.i.s.hi) e.symm; exact e2) | (have e2 := congrArg (fun v : Vl => Value.bool v.i.c.some) e.symm; exact e2) | (have e2 := congrArg (fun v : Vl => Value.int .i64 v.i.c.m) e.symm; exact e2) | (have e2 := congrArg (fun v : Vl => Value.int .i64 v.i.c.r) e.symm; exact e2) | (have e2 := congrArg (fun v : Vl => Value.bool v.t.null) e.symm; exact e2) | (have e2 := congrArg (fun v : Vl => v.t.names.length) e.symm; exact e2) | (have e2 := congrArg (fun v : Vl => v.t.names.length) e; exact e2) | (have e2 := congrArg (fun v : Vl => [st (atS v.t.names (by assumption))]) e.symm; exact e2) | fail) | trace_state
  · cases h

end Go.Proofs.YtbfinmfdcbghfaaGreat
