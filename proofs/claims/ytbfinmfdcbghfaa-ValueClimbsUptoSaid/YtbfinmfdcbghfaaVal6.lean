/- What joins and widenings of values are. No condition. -/
import Derived.Test.YtbfinmfdcbghfaaVal5
import Derived.Test.YtbfinmfdcbghfaaSpan2
import Derived.Test.YtbfinmfdcbghfaaCong3
import Derived.Test.YtbfinmfdcbghfaaNames6
namespace Go.Proofs.Ytbfinmfdcbghfaa
set_option linter.all false
open Go.Sx

theorem ofS_idem (l : List ByteArray) : ofS (ofS l) = ofS l := by rw [ofS_eq, ofS_eq, cleanS_idem]
theorem gcdJ_lt {x y : Cg} (h : ¬ Cg.gcdJ x y > 9223372036854775807) : Cg.gcdJ x y < 9223372036854775808 := by omega
theorem Cg.join_inR {a b : Cg} (ha : a.inR) (hb : b.inR) : (Cg.join a b).inR := by
  have h1 := Cg.clean_inR ha
  have h2 := Cg.clean_inR hb
  unfold Cg.join; split
  · exact h2
  · split
    · exact h1
    · split
      · unfold Cg.of Cg.inR md; decide
      · rename_i h
        exact Cg.of_inR _ _ (by have : 0 ≤ Cg.gcdJ a.clean b.clean := by unfold Cg.gcdJ; omega
                                omega) (gcdJ_lt h) h1.2.1 h1.2.2
namespace Vl
def join (a b : Vl) : Vl := ⟨⟨a.of.i.s.join b.of.i.s, a.of.i.c.join b.of.i.c⟩, ⟨a.t.null || b.t.null, ofS (ofS a.t.names ++ ofS b.t.names)⟩⟩
def widen (a b : Vl) (l : List Int) : Vl := ⟨⟨a.of.i.s.widen b.of.i.s l, a.of.i.c.join b.of.i.c⟩, ⟨a.t.null || b.t.null, ofS (ofS a.t.names ++ ofS b.t.names)⟩⟩
def none (v : Vl) : Bool := v.of.i.none && (!v.t.null && decide (ofS v.t.names = []))
def zero : Vl := ⟨Ig.zero, ⟨false, []⟩⟩
def narrow (a b : Vl) : Vl := if !leq b a then a.of else if none b then zero else ⟨Ig.clean ⟨a.of.i.s.narrow b.of.i.s, if Cg.eq a.of.i.c (Cg.of 1 0) then b.of.i.c else a.of.i.c⟩, a.of.t⟩
def same (a b : Vl) : Bool := (Sp.eq a.of.i.s b.of.i.s && Cg.eq a.of.i.c b.of.i.c) && (((!a.t.null || b.t.null) && subS (ofS a.t.names) (ofS b.t.names)) && ((!b.t.null || a.t.null) && subS (ofS b.t.names) (ofS a.t.names)))
def rjoin (a b : Vl) : Vl := ⟨⟨a.rclean.i.s.join b.rclean.i.s, a.rclean.i.c.join b.rclean.i.c⟩, ⟨a.t.null || b.t.null, cleanS (cleanS a.t.names ++ cleanS b.t.names)⟩⟩
def rwiden (a b : Vl) (l : List Int) : Vl := ⟨⟨a.rclean.i.s.widen b.rclean.i.s l, (rjoin a.rclean b.rclean).i.c⟩, (rjoin a.rclean b.rclean).t⟩
def rleq (a b : Vl) : Bool := (a.rclean.i.s.leq b.rclean.i.s && a.rclean.i.c.leq b.rclean.i.c) && ((!a.t.null || b.t.null) && subS (cleanS a.t.names) (cleanS b.t.names))
def rnone (v : Vl) : Bool := !v.rclean.i.s.some && decide (((cleanS (cleanS v.t.names)).length : Int) + (if v.t.null then 1 else 0) = 0)
def rnarrow (a b : Vl) : Vl := if !rleq b.rclean a.rclean then a.rclean else if rnone b.rclean then zero else rclean ⟨⟨a.rclean.i.s.narrow b.rclean.i.s, if a.rclean.i.c.m = 1 then b.rclean.i.c else a.rclean.i.c⟩, a.rclean.t⟩
end Vl
theorem none_t {v : Vl} (h : v.of.i.none = true) : Value.bool (!v.t.null && decide (ofS v.t.names = [])) = Value.bool v.none := by unfold Vl.none; rw [h]; rfl
theorem none_f {v : Vl} (h : v.of.i.none = false) : Value.bool false = Value.bool v.none := by unfold Vl.none; rw [h]; rfl
theorem same_c {a b : Vl} : ((a.of.i.s.some == b.of.i.s.some && (a.of.i.s.lo == b.of.i.s.lo && (a.of.i.s.hi == b.of.i.s.hi && true))) && ((a.of.i.c.some == b.of.i.c.some && (a.of.i.c.m == b.of.i.c.m && (a.of.i.c.r == b.of.i.c.r && true))) && true)) = (Sp.eq a.of.i.s b.of.i.s && Cg.eq a.of.i.c b.of.i.c) := by simp [Sp.eq, Cg.eq]
theorem same_t {a b : Vl} (h : ((a.of.i.s.some == b.of.i.s.some && (a.of.i.s.lo == b.of.i.s.lo && (a.of.i.s.hi == b.of.i.s.hi && true))) && ((a.of.i.c.some == b.of.i.c.some && (a.of.i.c.m == b.of.i.c.m && (a.of.i.c.r == b.of.i.c.r && true))) && true)) = true) : Value.bool (((!a.of.t.null || b.of.t.null) && subS a.of.t.names b.of.t.names) && ((!b.of.t.null || a.of.t.null) && subS b.of.t.names a.of.t.names)) = Value.bool (Vl.same a b) := by
  rw [same_c] at h; unfold Vl.same; rw [h]; rfl
theorem same_f {a b : Vl} (h : ((a.of.i.s.some == b.of.i.s.some && (a.of.i.s.lo == b.of.i.s.lo && (a.of.i.s.hi == b.of.i.s.hi && true))) && ((a.of.i.c.some == b.of.i.c.some && (a.of.i.c.m == b.of.i.c.m && (a.of.i.c.r == b.of.i.c.r && true))) && true)) = false) : Value.bool false = Value.bool (Vl.same a b) := by
  rw [same_c] at h; unfold Vl.same; rw [h]; rfl
theorem narrow_1 {a b : Vl} (h : (!Vl.leq b a) = true) : Vl.narrow a b = a.of := by unfold Vl.narrow; rw [if_pos h]
theorem narrow_2 {a b : Vl} (h : (!Vl.leq b a) = false) (h2 : b.none = true) : Vl.narrow a b = Vl.zero := by unfold Vl.narrow; rw [if_neg (by rw [h]; decide), if_pos h2]
theorem narrow_3 {a b : Vl} (h : (!Vl.leq b a) = false) (h2 : b.none = false) (h3 : (a.of.i.c.some == (Cg.of 1 0).some && (a.of.i.c.m == (Cg.of 1 0).m && (a.of.i.c.r == (Cg.of 1 0).r && true))) = true) : Vl.narrow a b = ⟨Ig.clean ⟨a.of.i.s.narrow b.of.i.s, b.of.i.c⟩, a.of.t⟩ := by
  have h3 : Cg.eq a.of.i.c (Cg.of 1 0) = true := cg_eq4.symm.trans h3
  unfold Vl.narrow; rw [if_neg (by rw [h]; decide), if_neg (by rw [h2]; decide), if_pos h3]
theorem narrow_4 {a b : Vl} (h : (!Vl.leq b a) = false) (h2 : b.none = false) (h3 : (a.of.i.c.some == (Cg.of 1 0).some && (a.of.i.c.m == (Cg.of 1 0).m && (a.of.i.c.r == (Cg.of 1 0).r && true))) = false) : Vl.narrow a b = ⟨Ig.clean ⟨a.of.i.s.narrow b.of.i.s, a.of.i.c⟩, a.of.t⟩ := by
  have h3 : Cg.eq a.of.i.c (Cg.of 1 0) = false := cg_eq4.symm.trans h3
  unfold Vl.narrow; rw [if_neg (by rw [h]; decide), if_neg (by rw [h2]; decide), if_neg (by rw [h3]; decide)]
theorem okV_of {v : Vl} (h : okV v) : okV v.of := by
  have h1 := Ig.clean_inR h.2.1 h.2.2
  have h2 := ofS_len v.t.names
  exact ⟨⟨by show (ofS v.t.names).length * 16 ≤ 140737488351232; have := h.1.1; omega, fun _ _ => rfl⟩, h1⟩
theorem okV_rclean {v : Vl} (h : okV v) : okV v.rclean := by rw [← of_rclean]; exact okV_of h

def FVWiden : List Ar → Option Rs
  | [.agg [.d (.v (.bool s0)), .d (.v (.int .i64 l0)), .d (.v (.int .i64 h0)), .d (.v (.bool b0)), .d (.v (.int .i64 m0)), .d (.v (.int .i64 r0)), .d (.v (.bool z0)), .d (.lst 1 n0 f0)], .agg [.d (.v (.bool s1)), .d (.v (.int .i64 l1)), .d (.v (.int .i64 h1)), .d (.v (.bool b1)), .d (.v (.int .i64 m1)), .d (.v (.int .i64 r1)), .d (.v (.bool z1)), .d (.lst 1 n1 f1)], .c (.d (.lst 1 n2 f2))] => some ⟨((n0 * 16 ≤ 140737488351232 ∧ ∀ i, i < n0 → f0 i = [st (gT (f0 i))]) ∧ Sp.inR ⟨s0, l0, h0⟩ ∧ Cg.inR ⟨b0, m0, r0⟩) ∧ ((n1 * 16 ≤ 140737488351232 ∧ ∀ i, i < n1 → f1 i = [st (gT (f1 i))]) ∧ Sp.inR ⟨s1, l1, h1⟩ ∧ Cg.inR ⟨b1, m1, r1⟩) ∧ (n2 ≤ 9223372036854775807 ∧ ∀ i, i < n2 → f2 i = [it (gI (f2 i))] ∧ rI (gI (f2 i))) ∧ ((n0 + n1) * 16 ≤ 140737488351232), .va (Vl.ar (Vl.widen (⟨⟨⟨s0, l0, h0⟩, ⟨b0, m0, r0⟩⟩, ⟨z0, gN n0 f0⟩⟩ : Vl) (⟨⟨⟨s1, l1, h1⟩, ⟨b1, m1, r1⟩⟩, ⟨z1, gN n1 f1⟩⟩ : Vl) (gL n2 f2))), []⟩
  | _ => none
set_option maxHeartbeats 1000000 in
set_option maxRecDepth 100000 in
theorem fcVWiden : FC Try.prog 17 FVWiden := by
  intro xs pre r us h hp
  unfold FVWiden at h
  split at h
  · rename_i s0 l0 h0 b0 m0 r0 z0 n0 f0 s1 l1 h1 b1 m1 r1 z1 n1 f1 n2 f2
    cases h
    obtain ⟨hp0, hp1, hp2, hp3⟩ := hp
    refine FCat.of_eq (as' := [.agg [.d (.v (.bool s0)), .d (.v (.int .i64 l0)), .d (.v (.int .i64 h0)), .d (.v (.bool b0)), .d (.v (.int .i64 m0)), .d (.v (.int .i64 r0)), .d (.v (.bool z0)), .d (.lst 1 n0 fun i => [st (gT (f0 i))])], .agg [.d (.v (.bool s1)), .d (.v (.int .i64 l1)), .d (.v (.int .i64 h1)), .d (.v (.bool b1)), .d (.v (.int .i64 m1)), .d (.v (.int .i64 r1)), .d (.v (.bool z1)), .d (.lst 1 n1 fun i => [st (gT (f1 i))])], .c (.d (.lst 1 n2 fun i => [it (gI (f2 i))]))]) ?_ rfl rfl ?_
    · repeat' (first | exact trivial | exact rfl | refine ⟨?_, ?_⟩ | fail)
      all_goals first | exact hp0.2 | exact hp1.2 | exact hp2.2 | (intro i hi; exact (hp0.2 i hi).1) | (intro i hi; exact (hp1.2 i hi).1) | (intro i hi; exact (hp2.2 i hi).1) | grind
    refine fcat tys_ok (l := [(20, ⟨[], FVOf⟩), (43, ⟨[], FSWiden⟩), (44, ⟨[], FCJoin⟩), (45, ⟨[], FNJoin⟩), (22, ⟨[], FVValue⟩)]) ⟨fcVOf, fcSWiden, fcCJoin, fcNJoin, fcVValue, trivial⟩ Try.func17 rfl (by kernel_rfl) true ?_
    have hv0 : okV (⟨⟨⟨s0, l0, h0⟩, ⟨b0, m0, r0⟩⟩, ⟨z0, gN n0 fun i => [st (gT (f0 i))]⟩⟩ : Vl) := ⟨⟨(by rw [gN_length]; exact hp0.1.1), fun _ _ => rfl⟩, hp0.2⟩
    have hv1 : okV (⟨⟨⟨s1, l1, h1⟩, ⟨b1, m1, r1⟩⟩, ⟨z1, gN n1 fun i => [st (gT (f1 i))]⟩⟩ : Vl) := ⟨⟨(by rw [gN_length]; exact hp1.1.1), fun _ _ => rfl⟩, hp1.2⟩
    have ho0 := okV_of hv0
    have ho1 := okV_of hv1
    have hoo0 := okV_of ho0
    have hoo1 := okV_of ho1
    have hl0 : (Vl.of (⟨⟨⟨s0, l0, h0⟩, ⟨b0, m0, r0⟩⟩, ⟨z0, gN n0 fun i => [st (gT (f0 i))]⟩⟩ : Vl)).t.names.length ≤ n0 := by have := ofS_len (gN n0 f0); rw [gN_length] at this; exact this
    have hl1 : (Vl.of (⟨⟨⟨s1, l1, h1⟩, ⟨b1, m1, r1⟩⟩, ⟨z1, gN n1 fun i => [st (gT (f1 i))]⟩⟩ : Vl)).t.names.length ≤ n1 := by have := ofS_len (gN n1 f1); rw [gN_length] at this; exact this
    have hsj := Sp.join_inR ho0.2.1 ho1.2.1
    have hcj := Cg.join_inR ho0.2.2 ho1.2.2
    have hsum : ((Vl.of (⟨⟨⟨s0, l0, h0⟩, ⟨b0, m0, r0⟩⟩, ⟨z0, gN n0 fun i => [st (gT (f0 i))]⟩⟩ : Vl)).t.names.length + (Vl.of (⟨⟨⟨s1, l1, h1⟩, ⟨b1, m1, r1⟩⟩, ⟨z1, gN n1 fun i => [st (gT (f1 i))]⟩⟩ : Vl)).t.names.length) * 16 ≤ 140737488351232 := by have := hp3; omega
    have hjl : (ofS ((Vl.of (⟨⟨⟨s0, l0, h0⟩, ⟨b0, m0, r0⟩⟩, ⟨z0, gN n0 fun i => [st (gT (f0 i))]⟩⟩ : Vl)).t.names ++ (Vl.of (⟨⟨⟨s1, l1, h1⟩, ⟨b1, m1, r1⟩⟩, ⟨z1, gN n1 fun i => [st (gT (f1 i))]⟩⟩ : Vl)).t.names)).length * 16 ≤ 140737488351232 := by have := ofS_len ((Vl.of (⟨⟨⟨s0, l0, h0⟩, ⟨b0, m0, r0⟩⟩, ⟨z0, gN n0 fun i => [st (gT (f0 i))]⟩⟩ : Vl)).t.names ++ (Vl.of (⟨⟨⟨s1, l1, h1⟩, ⟨b1, m1, r1⟩⟩, ⟨z1, gN n1 fun i => [st (gT (f1 i))]⟩⟩ : Vl)).t.names); rw [List.length_append] at this; omega
    unfold okV at ho0 ho1 hoo0 hoo1
    have hws := Sp.widen_inR (l := gL n2 fun i => [it (gI (f2 i))]) ho0.2.1 ho1.2.1 (fun x hx => gL_r hp2.2 x hx)
    repeat' (first | exact trivial | (with_reducible exact ho0) | (with_reducible exact ho1) | (with_reducible exact ho0.1) | (with_reducible exact ho1.1) | (with_reducible exact ho0.2.1) | (with_reducible exact ho0.2.2) | (with_reducible exact ho1.2.1) | (with_reducible exact ho1.2.2) | (with_reducible exact hp0.1) | (with_reducible exact hp1.1) | (with_reducible exact hp0.2.1) | (with_reducible exact hp0.2.2) | (with_reducible exact hp1.2.1) | (with_reducible exact hp1.2.2) | (with_reducible exact hp0) | (with_reducible exact hp1) | (with_reducible exact hsj) | (with_reducible exact hcj) | (with_reducible exact hws) | (with_reducible exact hp2) | (with_reducible exact hp2.1) | refine ⟨?_, ?_⟩ | intro _)
    all_goals first | (with_reducible show (_ : Int) ≤ _) | (with_reducible show (_ : Int) < _) | (with_reducible show (_ : Nat) ≤ _) | (with_reducible show (_ : Nat) < _) | (conv => whnf)
    all_goals (try simp only [gN_lst] at *)
    all_goals first | rfl | (exact (hp2.2 _ ‹_›).2.1) | (exact (hp2.2 _ ‹_›).2.2) | (with_reducible exact hp2.1) | (with_reducible exact hp0.1.1) | (with_reducible exact hp1.1.1) | exact hsum | exact hjl | trace_state
  · cases h
def FVSame : List Ar → Option Rs
  | [.agg [.d (.v (.bool s0)), .d (.v (.int .i64 l0)), .d (.v (.int .i64 h0)), .d (.v (.bool b0)), .d (.v (.int .i64 m0)), .d (.v (.int .i64 r0)), .d (.v (.bool z0)), .d (.lst 1 n0 f0)], .agg [.d (.v (.bool s1)), .d (.v (.int .i64 l1)), .d (.v (.int .i64 h1)), .d (.v (.bool b1)), .d (.v (.int .i64 m1)), .d (.v (.int .i64 r1)), .d (.v (.bool z1)), .d (.lst 1 n1 f1)]] => some ⟨((n0 * 16 ≤ 140737488351232 ∧ ∀ i, i < n0 → f0 i = [st (gT (f0 i))]) ∧ Sp.inR ⟨s0, l0, h0⟩ ∧ Cg.inR ⟨b0, m0, r0⟩) ∧ ((n1 * 16 ≤ 140737488351232 ∧ ∀ i, i < n1 → f1 i = [st (gT (f1 i))]) ∧ Sp.inR ⟨s1, l1, h1⟩ ∧ Cg.inR ⟨b1, m1, r1⟩), .va (.c (.d (bo (Vl.same (⟨⟨⟨s0, l0, h0⟩, ⟨b0, m0, r0⟩⟩, ⟨z0, gN n0 f0⟩⟩ : Vl) (⟨⟨⟨s1, l1, h1⟩, ⟨b1, m1, r1⟩⟩, ⟨z1, gN n1 f1⟩⟩ : Vl))))), []⟩
  | _ => none
set_option maxHeartbeats 1000000 in
set_option maxRecDepth 100000 in
theorem fcVSame : FC Try.prog 18 FVSame := by
  intro xs pre r us h hp
  unfold FVSame at h
  split at h
  · rename_i s0 l0 h0 b0 m0 r0 z0 n0 f0 s1 l1 h1 b1 m1 r1 z1 n1 f1
    cases h
    obtain ⟨hp0, hp1⟩ := hp
    refine FCat.of_eq (as' := [.agg [.d (.v (.bool s0)), .d (.v (.int .i64 l0)), .d (.v (.int .i64 h0)), .d (.v (.bool b0)), .d (.v (.int .i64 m0)), .d (.v (.int .i64 r0)), .d (.v (.bool z0)), .d (.lst 1 n0 fun i => [st (gT (f0 i))])], .agg [.d (.v (.bool s1)), .d (.v (.int .i64 l1)), .d (.v (.int .i64 h1)), .d (.v (.bool b1)), .d (.v (.int .i64 m1)), .d (.v (.int .i64 r1)), .d (.v (.bool z1)), .d (.lst 1 n1 fun i => [st (gT (f1 i))])]]) ?_ rfl rfl ?_
    · repeat' (first | exact trivial | exact rfl | refine ⟨?_, ?_⟩ | fail)
      all_goals first | exact hp0.2 | exact hp1.2 | exact hp2.2 | (intro i hi; exact (hp0.2 i hi).1) | (intro i hi; exact (hp1.2 i hi).1) | (intro i hi; exact (hp2.2 i hi).1) | grind
    refine fcat tys_ok (l := [(20, ⟨[], FVOf⟩), (46, ⟨[], FNSame⟩)]) ⟨fcVOf, fcNSame, trivial⟩ Try.func18 rfl (by kernel_rfl) true ?_
    have hv0 : okV (⟨⟨⟨s0, l0, h0⟩, ⟨b0, m0, r0⟩⟩, ⟨z0, gN n0 fun i => [st (gT (f0 i))]⟩⟩ : Vl) := ⟨⟨(by rw [gN_length]; exact hp0.1.1), fun _ _ => rfl⟩, hp0.2⟩
    have hv1 : okV (⟨⟨⟨s1, l1, h1⟩, ⟨b1, m1, r1⟩⟩, ⟨z1, gN n1 fun i => [st (gT (f1 i))]⟩⟩ : Vl) := ⟨⟨(by rw [gN_length]; exact hp1.1.1), fun _ _ => rfl⟩, hp1.2⟩
    have ho0 := okV_of hv0
    have ho1 := okV_of hv1
    have hoo0 := okV_of ho0
    have hoo1 := okV_of ho1
    have hl0 : (Vl.of (⟨⟨⟨s0, l0, h0⟩, ⟨b0, m0, r0⟩⟩, ⟨z0, gN n0 fun i => [st (gT (f0 i))]⟩⟩ : Vl)).t.names.length ≤ n0 := by have := ofS_len (gN n0 f0); rw [gN_length] at this; exact this
    have hl1 : (Vl.of (⟨⟨⟨s1, l1, h1⟩, ⟨b1, m1, r1⟩⟩, ⟨z1, gN n1 fun i => [st (gT (f1 i))]⟩⟩ : Vl)).t.names.length ≤ n1 := by have := ofS_len (gN n1 f1); rw [gN_length] at this; exact this
    have hsj := Sp.join_inR ho0.2.1 ho1.2.1
    have hcj := Cg.join_inR ho0.2.2 ho1.2.2
    unfold okV at ho0 ho1 hoo0 hoo1
    repeat' (first | exact trivial | (with_reducible exact ho0) | (with_reducible exact ho1) | (with_reducible exact ho0.1) | (with_reducible exact ho1.1) | (with_reducible exact ho0.2.1) | (with_reducible exact ho0.2.2) | (with_reducible exact ho1.2.1) | (with_reducible exact ho1.2.2) | (with_reducible exact hp0.1) | (with_reducible exact hp1.1) | (with_reducible exact hp0.2.1) | (with_reducible exact hp0.2.2) | (with_reducible exact hp1.2.1) | (with_reducible exact hp1.2.2) | (with_reducible exact hp0) | (with_reducible exact hp1) | (with_reducible exact hsj) | (with_reducible exact hcj) | refine ⟨?_, ?_⟩ | intro _)
    all_goals first | (with_reducible show (_ : Int) ≤ _) | (with_reducible show (_ : Int) < _) | (with_reducible show (_ : Nat) ≤ _) | (with_reducible show (_ : Nat) < _) | (conv => whnf)
    all_goals (try simp only [gN_lst] at *)
    all_goals first | rfl | (with_reducible exact hp0.1.1) | (with_reducible exact hp1.1.1) | exact same_t (a := (⟨⟨⟨s0, l0, h0⟩, ⟨b0, m0, r0⟩⟩, ⟨z0, gN n0 fun i => [st (gT (f0 i))]⟩⟩ : Vl)) (b := (⟨⟨⟨s1, l1, h1⟩, ⟨b1, m1, r1⟩⟩, ⟨z1, gN n1 fun i => [st (gT (f1 i))]⟩⟩ : Vl)) ‹_› | exact same_f (a := (⟨⟨⟨s0, l0, h0⟩, ⟨b0, m0, r0⟩⟩, ⟨z0, gN n0 fun i => [st (gT (f0 i))]⟩⟩ : Vl)) (b := (⟨⟨⟨s1, l1, h1⟩, ⟨b1, m1, r1⟩⟩, ⟨z1, gN n1 fun i => [st (gT (f1 i))]⟩⟩ : Vl)) ‹_› | trace_state
  · cases h

end Go.Proofs.Ytbfinmfdcbghfaa
