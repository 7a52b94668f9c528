/- What the law ValueClimbs answers. No condition. -/
import Derived.Test.YtbfinmfdcbghfaaClimb
import Derived.Test.YtbfinmfdcbghfaaVal7
namespace Go.Proofs.Ytbfinmfdcbghfaa
set_option linter.all false
open Go.Sx

def gBa (l : List DV) (j : Nat) : Bool := match l[j]? with
  | some (.v (.bool b)) => b
  | _ => false
def gIa (l : List DV) (j : Nat) : Int := match l[j]? with
  | some (.v (.int _ n)) => n
  | _ => 0
def gna (l : List DV) : Nat := match l[(7 : Nat)]? with
  | some (.lst _ n _) => n
  | _ => 0
def gfa (l : List DV) : Nat → List DV := match l[(7 : Nat)]? with
  | some (.lst _ _ f) => f
  | _ => fun _ => []
abbrev rowM (l : List DV) : List DV := [bo (gBa l 0), it (gIa l 1), it (gIa l 2), bo (gBa l 3), it (gIa l 4), it (gIa l 5), bo (gBa l 6), .lst 1 (gna l) (gfa l)]
def gVa (l : List DV) : Vl := ⟨⟨⟨gBa l 0, gIa l 1, gIa l 2⟩, ⟨gBa l 3, gIa l 4, gIa l 5⟩⟩, ⟨gBa l 6, gN (gna l) (gfa l)⟩⟩
def rowOk (l : List DV) : Prop := l = rowM l ∧ (∀ i, i < gna l → gfa l i = [st (gT (gfa l i))]) ∧ (gVa l).i.s.inR ∧ (gVa l).i.c.inR
def sumM : Nat → (Nat → List DV) → Nat
  | 0, _ => 0
  | n + 1, f => sumM n f + gna (f n)
theorem sumM_le {f : Nat → List DV} : ∀ {i n : Nat}, i ≤ n → sumM i f ≤ sumM n f
  | i, 0, h => by have : i = 0 := by omega
                  subst this; exact Nat.le_refl _
  | i, n + 1, h => by
    rcases Nat.lt_or_eq_of_le h with h | rfl
    · have := sumM_le (f := f) (show i ≤ n by omega); simp only [sumM]; omega
    · exact Nat.le_refl _
theorem canonM {n : Nat} {f : Nat → List DV} {p : Prop} (h : p ∧ ∀ i, i < n → rowOk (f i)) (i : Nat) (hi : i < n) : f i = rowM (f i) := (h.2 i hi).1
abbrev vlC (v : Vl) : List Cell := [.d (bo v.i.s.some), .d (it v.i.s.lo), .d (it v.i.s.hi), .d (bo v.i.c.some), .d (it v.i.c.m), .d (it v.i.c.r), .d (bo v.t.null), .d (lst v.t.names)]
theorem vl_eta (v : Vl) : (⟨⟨⟨v.i.s.some, v.i.s.lo, v.i.s.hi⟩, ⟨v.i.c.some, v.i.c.m, v.i.c.r⟩⟩, ⟨v.t.null, v.t.names⟩⟩ : Vl) = v := rfl
theorem gVa_eta (l : List DV) : (⟨⟨⟨gBa l 0, gIa l 1, gIa l 2⟩, ⟨gBa l 3, gIa l 4, gIa l 5⟩⟩, ⟨gBa l 6, gN (gna l) (gfa l)⟩⟩ : Vl) = gVa l := rfl
theorem notT {b : Bool} (h : b = true) (h2 : (!b) = true) : False := by rw [h] at h2; cases h2
theorem notP {b : Bool} (h : (!b) = true) : ¬ b = true := by cases b <;> simp_all
theorem notN {b : Bool} (h : (!b) = false) : b = true := by cases b <;> simp_all
theorem end_f {n : Int} {k m : Nat} (h : decide (n ≤ IntKind.i64.wrap (IntKind.i64.wrap (IntKind.i64.wrap (2 * (k : Int)) + (m : Int)) + 71)) = false) (hk : k ≤ 1048576) (hm : m ≤ 1048576) (hn : n ≤ 2 * k + m + 71) : False := by
  rw [wI_id (2 * (k : Int)) (by omega) (by omega), wI_id (2 * (k : Int) + m) (by omega) (by omega), wI_id (2 * (k : Int) + m + 71) (by omega) (by omega)] at h
  have := of_decide_eq_false h
  omega
theorem cleanL_len (l : List ByteArray) : (cleanS l).length ≤ l.length := by
  have := cleanS_len l.length (fun i => [st (atS l i)]); rwa [gN_lst] at this

def FValueClimbs : List Ar → Option Rs
  | [.c (.d (.lst 8 n0 f0)), .c (.d (.lst 1 n1 f1))] => some ⟨((n0 ≤ 9223372036854775807 ∧ sumM n0 f0 ≤ 1048576) ∧ ∀ i, i < n0 → rowOk (f0 i)) ∧ (n1 ≤ 1048576 ∧ ∀ i, i < n1 → f1 i = [it (gI (f1 i))] ∧ rI (gI (f1 i))), .va (.c (.d (bo (true)))), []⟩
  | _ => none
set_option maxHeartbeats 1000000 in
set_option maxRecDepth 100000 in
theorem fcValueClimbs : FC Try.prog 4 FValueClimbs := by
  intro xs pre r us h hp
  unfold FValueClimbs at h
  split at h
  · rename_i n0 f0 n1 f1
    cases h
    obtain ⟨hp0, hp1⟩ := hp
    refine FCat.of_eq (as' := [.c (.d (.lst 8 n0 fun i => rowM (f0 i))), .c (.d (.lst 1 n1 fun i => [it (gI (f1 i))]))]) ?_ rfl rfl ?_
    · repeat' (first | exact trivial | exact rfl | refine ⟨?_, ?_⟩ | fail)
      all_goals first | (intro i hi; exact canonM hp0 i hi) | exact hp0.2 | exact hp1.2 | exact hp2.2 | (intro i hi; exact (hp0.2 i hi).1) | (intro i hi; exact (hp1.2 i hi).1) | (intro i hi; exact (hp2.2 i hi).1) | grind
    refine fcat tys_ok (l := [(17, ⟨[], FVWiden⟩), (11, ⟨[], FVLeq⟩), (18, ⟨[], FVSame⟩), (19, ⟨[], FRNJoin⟩), (16, ⟨[], FVLives⟩)]) ⟨fcVWiden, fcVLeq, fcVSame, fcRNJoin, fcVLives, trivial⟩ Try.func4 rfl (by kernel_rfl) true ?_
    repeat' (first | exact trivial | refine ⟨?_, ?_⟩ | intro _)
    all_goals first | (with_reducible show (_ : Int) ≤ _) | (with_reducible show (_ : Int) < _) | (with_reducible show (_ : Nat) ≤ _) | (with_reducible show (_ : Nat) < _) | (conv => whnf)
    refine loop_ok tys_ok (l := [(17, ⟨[], FVWiden⟩), (11, ⟨[], FVLeq⟩), (18, ⟨[], FVSame⟩), (19, ⟨[], FRNJoin⟩), (16, ⟨[], FVLives⟩)]) ⟨fcVWiden, fcVLeq, fcVSame, fcRNJoin, fcVLives, trivial⟩ (by kernel_rfl) (X := Nat × Int × Vl × Bool × List ByteArray)
      (fun x => ⟨[(8, vx (.int .i64 x.1)), (7, vx (.int .i64 x.2.1)), (5, .va (.c (.own 0 0))), (6, .va (.c (.own 1 0))), (0, .va (.c (.d (.lst 8 n0 fun i => rowM (f0 i))))), (1, .va (.c (.d (.lst 1 n1 fun i => [it (gI (f1 i))]))))], [(0, .cells (vlC x.2.2.1)), (1, .cells [.d (bo x.2.2.2.1), .d (lst x.2.2.2.2)])], 2, 63⟩)
      (fun x => n0 - x.1) (fun x => x.1 ≤ n0 ∧ CInv (gL n1 fun i => [it (gI (f1 i))]) x.2.2.1 x.2.2.2.2 x.2.1 ∧ x.2.2.2.2.length ≤ sumM x.1 f0) [] []
      (fun x _ _ => (x.1 + 1, x.2.1 + (if Vl.same (Vl.widen x.2.2.1 (gVa (f0 x.1)) (gL n1 fun i => [it (gI (f1 i))])) x.2.2.1 = true then 0 else 1), Vl.widen x.2.2.1 (gVa (f0 x.1)) (gL n1 fun i => [it (gI (f1 i))]), x.2.2.2.1 || (gVa (f0 x.1)).t.null, cleanS (x.2.2.2.2 ++ (gVa (f0 x.1)).t.names))) [0, 1] [0, 1] 0 0 (0, 0, Vl.zero, false, []) ?_ ?_ ?_
    · exact ⟨Nat.zero_le _, climb_start _, Nat.le_refl _⟩
    · repeat' (first | exact trivial | exact rfl | (intro _ h; exact absurd h (Nat.not_lt_zero _)) | (intro _ _; exact rfl) | refine ⟨?_, ?_⟩ | fail)
      all_goals trace_state
    · rintro ⟨i, n, v, an, all⟩ ⟨k1, k2, k3⟩
      dsimp only at k1 k2 k3
      have k4 : v.t.names.length ≤ all.length := sub_len (srt_nodup k2.srt) k2.sub
      have k5 := climb_end k2
      have k6 := k2.nn
      have k7 : (gL n1 fun i => [it (gI (f1 i))]).length = n1 := by simp [gL]
      rcases Nat.lt_or_ge i n0 with hi | hi
      · have k8 := sumM_le (f := f0) (show i + 1 ≤ n0 by omega)
        simp only [sumM] at k8
        have hs0 := hp0.1.2
        have hn1 := hp1.1
        have hr := hp0.2 i hi
        have hx : okV (gVa (f0 i)) := ⟨⟨by show (gN (gna (f0 i)) (gfa (f0 i))).length * 16 ≤ 140737488351232; rw [gN_length]; omega, fun _ _ => rfl⟩, hr.2.2⟩
        have hv : okV v := ⟨⟨by omega, fun _ _ => rfl⟩, k2.inr⟩
        have hw := climb_step k2 hr.2.2 (fun x hx => gL_r hp1.2 x hx)
        have hwl : (Vl.widen v (gVa (f0 i)) (gL n1 fun i => [it (gI (f1 i))])).t.names.length * 16 ≤ 140737488351232 := by
          have := sub_len (srt_nodup hw.2.2.srt) hw.2.2.sub
          have h2 := cleanL_len (all ++ (gVa (f0 i)).t.names)
          rw [List.length_append] at h2
          have h3 : (gVa (f0 i)).t.names.length = gna (f0 i) := gN_length _ _
          omega
        have hwo : okV (Vl.widen v (gVa (f0 i)) (gL n1 fun i => [it (gI (f1 i))])) := ⟨⟨hwl, fun _ _ => rfl⟩, hw.2.2.inr⟩
        unfold okV at hx hv hwo
        have xb := hx.2
        have wb := hwo.2
        have vb := hv.2
        have hal : (cleanS (all ++ (gVa (f0 i)).t.names)).length ≤ sumM i f0 + gna (f0 i) := by
          have h2 := cleanL_len (all ++ (gVa (f0 i)).t.names)
          rw [List.length_append] at h2
          have h3 : (gVa (f0 i)).t.names.length = gna (f0 i) := gN_length _ _
          omega
        unfold Sp.inR Cg.inR at xb wb vb
        repeat' (first | exact trivial | (with_reducible exact hx) | (with_reducible exact hv) | (with_reducible exact hwo) | (with_reducible exact hx.1) | (with_reducible exact hv.1) | (with_reducible exact hwo.1) | (with_reducible exact hx.2.1) | (with_reducible exact hx.2.2) | (with_reducible exact hv.2.1) | (with_reducible exact hv.2.2) | (with_reducible exact hwo.2.1) | (with_reducible exact hwo.2.2) | (with_reducible exact hp1) | refine ⟨?_, ?_⟩ | intro _)
        all_goals first | (with_reducible show (_ : Int) ≤ _) | (with_reducible show (_ : Int) < _) | (with_reducible show (_ : Nat) ≤ _) | (with_reducible show (_ : Nat) < _) | (conv => whnf)
        all_goals (try simp only [gN_lst, Int.toNat_natCast, vl_eta, gVa_eta])
        all_goals first | rfl | omega | exact hr.2.1 _ ‹_› | exact (hp1.2 _ ‹_›).2.1 | exact (hp1.2 _ ‹_›).2.2 | exact hwl | exact hw.2.2 | exact hal | exact xb.1.1.1 | exact xb.1.1.2 | exact xb.1.2.1 | exact xb.1.2.2 | exact xb.2.1.1 | exact xb.2.1.2 | exact xb.2.2.1 | exact xb.2.2.2 | exact wb.1.1.1 | exact wb.1.1.2 | exact wb.1.2.1 | exact wb.1.2.2 | exact wb.2.1.1 | exact wb.2.1.2 | exact wb.2.2.1 | exact wb.2.2.2 | exact vb.1.1.1 | exact vb.1.1.2 | exact vb.1.2.1 | exact vb.1.2.2 | exact vb.2.1.1 | exact vb.2.1.2 | exact vb.2.2.1 | exact vb.2.2.2 | exact congrArg (Value.int .i64) (wI_id _ (by omega) (by omega)) | skip
        all_goals (try simp only [gN_lst, Int.toNat_natCast, vl_eta, gVa_eta] at *)
        all_goals first | exact (notT hw.1 ‹_›).elim | exact (notT hw.2.1 ‹_›).elim | (rw [if_neg (notP ‹(!Vl.same _ _) = true›)]; exact congrArg (Value.int .i64) (wI_id _ (by omega) (by omega))) | (rw [if_pos (notN ‹(!Vl.same _ _) = false›), Int.add_zero]) | (exfalso; have := of_decide_eq_false ‹decide ((i : Int) < (n0 : Int)) = false›; omega) | (exfalso; have := of_decide_eq_true ‹decide ((i : Int) < (n0 : Int)) = true›; omega) | trace_state
      · have hs0 := hp0.1.2
        have hn1 := hp1.1
        have k8 := sumM_le (f := f0) k1
        have vb := k2.inr
        unfold Sp.inR Cg.inR at vb
        repeat' (first | exact trivial | refine ⟨?_, ?_⟩ | intro _)
        all_goals first | (with_reducible show (_ : Int) ≤ _) | (with_reducible show (_ : Int) < _) | (with_reducible show (_ : Nat) ≤ _) | (with_reducible show (_ : Nat) < _) | (conv => whnf)
        all_goals (try simp only [gN_lst, Int.toNat_natCast, vl_eta, gVa_eta])
        all_goals first | rfl | omega | exact vb.1.1.1 | exact vb.1.1.2 | exact vb.1.2.1 | exact vb.1.2.2 | exact vb.2.1.1 | exact vb.2.1.2 | exact vb.2.2.1 | exact vb.2.2.2 | skip
        all_goals (try simp only [gN_lst, Int.toNat_natCast, vl_eta, gVa_eta] at *)
        all_goals first | (exfalso; have := of_decide_eq_false ‹decide ((i : Int) < (n0 : Int)) = false›; omega) | (exfalso; have := of_decide_eq_true ‹decide ((i : Int) < (n0 : Int)) = true›; omega) | exact (end_f ‹decide (n ≤ _) = false› hn1 (by omega) (by omega)).elim | trace_state
  · cases h

end Go.Proofs.Ytbfinmfdcbghfaa
