/- Keys: their order. No condition. -/
import Derived.Test.YtakcacejpbiogaaDoorKey1
import Derived.Test.YtakcacejpbiogaaDoorSx9
import Derived.Test.YtakcacejpbiogaaDoorShelf
namespace Go.Proofs.YtakcacejpbiogaaDoor
set_option linter.all false
open Go.Sx

theorem fc_calls {P : Program} {f : Nat} {F : List Ar → Option Rs} (hc : Callable P f) (h : ∀ xs pre r us, F xs = some ⟨pre, r, us⟩ → pre →
    ∃ (vs : List Value) (v : Value), xs = vs.map (fun x => Ar.c (.d (.v x))) ∧ us = [] ∧ (∀ w, Calls P f vs.toArray w fun e w' => e = .returned v ∧ w' = w) ∧ ∀ S w, RepRt P S w r v []) : FC P f F := by
  intro xs pre r us hF hpre S w vals ls hS hr hsep
  obtain ⟨vs, v, rfl, rfl, hrun, hrep⟩ := h _ _ _ _ hF hpre
  have hrows : ∀ (vs : List Value), arsRows (vs.map fun x => Ar.c (.d (.v x))) = [] := by
    intro vs
    induction vs with
    | nil => rfl
    | cons v vs ih => simp [arsRows, arRows, icRows, ih]
  have e := repArs_rows hr (hrows vs)
  subst e
  have hv : vals = vs := by
    clear hrun hF hrows
    induction vs generalizing vals with
    | nil => cases vals with | nil => rfl | cons _ _ => simp [RepArs] at hr
    | cons x vs ih => cases vals with
      | nil => simp [RepArs] at hr
      | cons u vals =>
        simp only [List.map_cons, RepArs] at hr
        obtain ⟨l1, l2, e, h1, h2⟩ := hr
        obtain ⟨rfl, rfl⟩ := List.append_eq_nil_iff.1 e.symm
        have h1 : RepIcs S w [.d (.v x)] [u] [] := h1
        have h1 : RepD S w (.v x) u := h1.1
        cases h1
        rw [ih _ h2]
  subst hv
  refine .inl ⟨hc, (hrun w).mono ?_⟩
  rintro e w' ⟨rfl, rfl⟩
  refine ⟨v, S, [], rfl, hrep S w', ?_, trivial, ⟨rfl, rfl, rfl, Nat.le_refl _, fun _ _ _ => rfl, Later.refl _ _, fun _ h => .inl h, fun b hb => .inl hb, hS⟩⟩
  rw [hrows]; trivial
def FStrCmp : List Ar → Option Rs
  | [.c (.d (.v (.string x))), .c (.d (.v (.string y)))] => some ⟨True, .va (.c (.d (it (cfL x.data.toList y.data.toList)))), []⟩
  | _ => none
theorem fcStrCmp : FC Tryd.prog 37 FStrCmp := by
  refine fc_calls (callable_of Tryd.func37 rfl rfl) fun xs pre r us h hp => ?_
  unfold FStrCmp at h
  split at h
  · rename_i x y
    cases h
    exact ⟨[.string x, .string y], _, rfl, rfl, fun w => Tryd.strings_Compare x y w, fun S w => And.intro (.v trivial) trivial⟩
  · cases h

def FIsNaN : List Ar → Option Rs
  | [.c (.d (.v (.int .i64 i0)))] => some ⟨(-9223372036854775808 ≤ i0 ∧ i0 < 9223372036854775808), .va (.c (.d (bo (false)))), []⟩
  | _ => none
set_option maxHeartbeats 1000000 in
set_option maxRecDepth 100000 in
theorem fcIsNaN : FC Tryd.prog 62 FIsNaN := by
  intro xs pre r us h hp
  unfold FIsNaN at h
  split at h
  · rename_i i0
    cases h
    have hp0 := hp
    refine fcat tys_ok (l := []) trivial Tryd.func62 rfl (by kernel_rfl) false ?_
    repeat' (first | exact trivial | refine ⟨?_, ?_⟩ | intro _)
    all_goals first | (with_reducible show (_ : Int) ≤ _) | (with_reducible show (_ : Int) < _) | (with_reducible show (_ : Nat) ≤ _) | (with_reducible show (_ : Nat) < _) | (conv => whnf)
    all_goals first | (refine congrArg Value.bool ?_; simp; done) | trace_state
  · cases h
def FKyClean : List Ar → Option Rs
  | [.agg [.d (.v (.string x0)), .d (.v (.int .i64 i0))]] => some ⟨(rI i0), .va (Ky.ar (Ky.cl (⟨x0, i0⟩ : Ky))), []⟩
  | _ => none
set_option maxHeartbeats 1000000 in
set_option maxRecDepth 100000 in
theorem fcKyClean : FC Tryd.prog 29 FKyClean := by
  intro xs pre r us h hp
  unfold FKyClean at h
  split at h
  · rename_i x0 i0
    cases h
    have hp0 := hp
    refine fcat tys_ok (l := []) trivial Tryd.func29 rfl (by kernel_rfl) true ?_
    repeat' (first | exact trivial | refine ⟨?_, ?_⟩ | intro _)
    all_goals first | (with_reducible show (_ : Int) ≤ _) | (with_reducible show (_ : Int) < _) | (with_reducible show (_ : Nat) ≤ _) | (with_reducible show (_ : Nat) < _) | (conv => whnf)
    all_goals first | rfl | (refine congrArg (Value.int .i64) ?_; unfold Ky.cl; dsimp only; split <;> split <;> omega) | trace_state
  · cases h
def FRKyClean : List Ar → Option Rs
  | [.agg [.d (.v (.string x0)), .d (.v (.int .i64 i0))]] => some ⟨(rI i0), .va (Ky.ar (Ky.cl (⟨x0, i0⟩ : Ky))), []⟩
  | _ => none
set_option maxHeartbeats 1000000 in
set_option maxRecDepth 100000 in
theorem fcRKyClean : FC Tryd.prog 12 FRKyClean := by
  intro xs pre r us h hp
  unfold FRKyClean at h
  split at h
  · rename_i x0 i0
    cases h
    have hp0 := hp
    refine fcat tys_ok (l := []) trivial Tryd.func12 rfl (by kernel_rfl) true ?_
    repeat' (first | exact trivial | refine ⟨?_, ?_⟩ | intro _)
    all_goals first | (with_reducible show (_ : Int) ≤ _) | (with_reducible show (_ : Int) < _) | (with_reducible show (_ : Nat) ≤ _) | (with_reducible show (_ : Nat) < _) | (conv => whnf)
    all_goals first | rfl | (have hd := of_decide_eq_true ‹decide (i0 < 0) = true›; refine congrArg (Value.int .i64) ?_; unfold Ky.cl; dsimp only; rw [if_pos hd]) | (have hd := of_decide_eq_false ‹decide (i0 < 0) = false›; refine congrArg (Value.int .i64) ?_; unfold Ky.cl; dsimp only; rw [if_neg hd]) | trace_state
  · cases h
def FRKyLess : List Ar → Option Rs
  | [.agg [.d (.v (.string x0)), .d (.v (.int .i64 i0))], .agg [.d (.v (.string x1)), .d (.v (.int .i64 i1))]] => some ⟨(rI i0) ∧ (rI i1) ∧ (Ky.cl (⟨x0, i0⟩ : Ky) = (⟨x0, i0⟩ : Ky) ∧ Ky.cl (⟨x1, i1⟩ : Ky) = (⟨x1, i1⟩ : Ky)), .va (.c (.d (bo (Ky.lt (⟨x0, i0⟩ : Ky) (⟨x1, i1⟩ : Ky))))), []⟩
  | _ => none
set_option maxHeartbeats 1000000 in
set_option maxRecDepth 100000 in
theorem fcRKyLess : FC Tryd.prog 13 FRKyLess := by
  intro xs pre r us h hp
  unfold FRKyLess at h
  split at h
  · rename_i x0 i0 x1 i1
    cases h
    obtain ⟨hp0, hp1, hp2⟩ := hp
    refine fcat tys_ok (l := []) trivial Tryd.func13 rfl (by kernel_rfl) true ?_
    repeat' (first | exact trivial | refine ⟨?_, ?_⟩ | intro _)
    all_goals first | (with_reducible show (_ : Int) ≤ _) | (with_reducible show (_ : Int) < _) | (with_reducible show (_ : Nat) ≤ _) | (with_reducible show (_ : Nat) < _) | (conv => whnf)
    all_goals (refine congrArg Value.bool ?_; unfold Ky.lt; rw [hp2.1, hp2.2]; dsimp only)
    all_goals (have hs := seq_iff x0 x1)
    all_goals first | (have hd := ‹(!_) = true›; rw [hs] at hd; rw [if_neg (by simpa using hd)]; exact slt_eq x0 x1) | (have hd := ‹(!_) = false›; rw [hs] at hd; rw [if_pos (by simpa using hd)]) | trace_state
  · cases h
def FCmpInt : List Ar → Option Rs
  | [.c (.d (.v (.int .i64 i0))), .c (.d (.v (.int .i64 i1)))] => some ⟨(-9223372036854775808 ≤ i0 ∧ i0 < 9223372036854775808) ∧ (-9223372036854775808 ≤ i1 ∧ i1 < 9223372036854775808), .va (.c (.d (it (icmp i0 i1)))), []⟩
  | _ => none
set_option maxHeartbeats 1000000 in
set_option maxRecDepth 100000 in
theorem fcCmpInt : FC Tryd.prog 38 FCmpInt := by
  intro xs pre r us h hp
  unfold FCmpInt at h
  split at h
  · rename_i i0 i1
    cases h
    obtain ⟨hp0, hp1⟩ := hp
    refine fcat tys_ok (l := [(62, ⟨[], FIsNaN⟩)]) ⟨fcIsNaN, trivial⟩ Tryd.func38 rfl (by kernel_rfl) true ?_
    repeat' (first | exact trivial | (with_reducible exact hp0.1) | (with_reducible exact hp0.2) | (with_reducible exact hp1.1) | (with_reducible exact hp1.2) | (with_reducible exact (fun h => absurd (h : false = true) (by decide))) | refine ⟨?_, ?_⟩ | intro _)
    all_goals first | (with_reducible show (_ : Int) ≤ _) | (with_reducible show (_ : Int) < _) | (with_reducible show (_ : Nat) ≤ _) | (with_reducible show (_ : Nat) < _) | (conv => whnf)
    all_goals first | (refine congrArg (Value.int .i64) ?_; unfold icmp; simp only [decide_eq_true_eq, decide_eq_false_iff_not] at *; first | (rw [if_pos ‹_›]; done) | (rw [if_neg ‹_›, if_pos ‹_›]; done) | (rw [if_neg ‹_›, if_neg ‹_›]; done) | (split <;> first | rfl | omega | (split <;> first | rfl | omega))) | trace_state
  · cases h
def FCmpOr : List Ar → Option Rs
  | [.c (.d (.lst 1 2 f0))] => some ⟨(f0 0 = [it (gI (f0 0))] ∧ f0 1 = [it (gI (f0 1))]), .va (.c (.d (it (if gI (f0 0) = 0 then gI (f0 1) else gI (f0 0))))), []⟩
  | _ => none
set_option maxHeartbeats 1000000 in
set_option maxRecDepth 100000 in
theorem fcCmpOr : FC Tryd.prog 36 FCmpOr := by
  intro xs pre r us h hp
  unfold FCmpOr at h
  split at h
  · rename_i f0
    cases h
    have hp0 := hp
    refine FCat.deep (ys := [.c (.d (.lst 1 2 fun i => [it (gI (f0 i))]))]) ?_ ?_
    · repeat' (first | exact trivial | exact rfl | exact DvE.refl _ | refine ⟨?_, ?_⟩ | fail)
      all_goals first | exact canon2 hp0.1 hp0.2
    refine fcat tys_ok (l := []) trivial Tryd.func36 rfl (by kernel_rfl) true ?_
    repeat' (first | exact trivial | refine ⟨?_, ?_⟩ | intro _)
    all_goals first | (with_reducible show (_ : Int) ≤ _) | (with_reducible show (_ : Int) < _) | (with_reducible show (_ : Nat) ≤ _) | (with_reducible show (_ : Nat) < _) | (conv => whnf)
    refine loop_unr tys_ok (l := []) trivial (by kernel_rfl) 3 ?_
    repeat' (first | exact trivial | refine ⟨?_, ?_⟩ | intro _)
    all_goals first | (with_reducible show (_ : Int) ≤ _) | (with_reducible show (_ : Int) < _) | (with_reducible show (_ : Nat) ≤ _) | (with_reducible show (_ : Nat) < _) | (conv => whnf)
    all_goals (have w1 : IntKind.wrap .i64 (0 + 1) = 1 := wrap64 (by omega) (by omega))
    all_goals (have w2 : IntKind.wrap .i64 (IntKind.wrap .i64 (0 + 1) + 1) = 2 := by rw [w1]; exact wrap64 (by omega) (by omega))
    all_goals (simp only [w2, w1, Int.toNat_zero, Int.toNat_one] at *)
    all_goals first | omega | (exact absurd (of_decide_eq_true ‹decide ((2 : Int) < _) = true›) (by omega)) | (exact absurd (of_decide_eq_false ‹decide ((0 : Int) < _) = false›) (by omega)) | (exact absurd (of_decide_eq_false ‹decide ((1 : Int) < _) = false›) (by omega)) | skip
    all_goals (refine congrArg (Value.int .i64) ?_)
    all_goals first | (rw [if_neg (by simpa using ‹(gI (f0 0) != 0) = true›)]; done) | (rw [if_neg (by simpa using ‹(gI (f0 0) != 0) = true›)]; rfl) | (rw [if_pos (by simpa using ‹(gI (f0 0) != 0) = false›)]; done) | (rw [if_pos (by simpa using ‹(gI (f0 0) != 0) = false›)]; simpa using ‹(gI (f0 1) != 0) = false›) | (rw [if_pos (by simpa using ‹(gI (f0 0) != 0) = false›)]; exact (by simpa using ‹(gI (f0 1) != 0) = false› : gI (f0 1) = 0).symm) | trace_state
  · cases h
def FKyCmp : List Ar → Option Rs
  | [.agg [.d (.v (.string x0)), .d (.v (.int .i64 i0))], .agg [.d (.v (.string x1)), .d (.v (.int .i64 i1))]] => some ⟨(rI i0) ∧ (rI i1), .va (.c (.d (it (Ky.cmp (⟨x0, i0⟩ : Ky) (⟨x1, i1⟩ : Ky))))), []⟩
  | _ => none
set_option maxHeartbeats 1000000 in
set_option maxRecDepth 100000 in
theorem fcKyCmp : FC Tryd.prog 11 FKyCmp := by
  intro xs pre r us h hp
  unfold FKyCmp at h
  split at h
  · rename_i x0 i0 x1 i1
    cases h
    obtain ⟨hp0, hp1⟩ := hp
    refine fcat tys_ok (l := [(29, ⟨[], FKyClean⟩), (37, ⟨[], FStrCmp⟩), (38, ⟨[], FCmpInt⟩), (36, ⟨[], FCmpOr⟩)]) ⟨fcKyClean, fcStrCmp, fcCmpInt, fcCmpOr, trivial⟩ Tryd.func11 rfl (by kernel_rfl) true ?_
    have hc0 := Ky.cl_r (k := ⟨x0, i0⟩) hp0
    have hc1 := Ky.cl_r (k := ⟨x1, i1⟩) hp1
    unfold rI at hc0 hc1
    repeat' (first | exact trivial | (with_reducible exact hp0) | (with_reducible exact hp1) | (with_reducible exact hc0) | (with_reducible exact hc1) | (with_reducible exact hc0.1) | (with_reducible exact hc0.2) | (with_reducible exact hc1.1) | (with_reducible exact hc1.2) | refine ⟨?_, ?_⟩ | intro _)
    all_goals first | (with_reducible show (_ : Int) ≤ _) | (with_reducible show (_ : Int) < _) | (with_reducible show (_ : Nat) ≤ _) | (with_reducible show (_ : Nat) < _) | (conv => whnf)
    all_goals first | omega | rfl | (refine congrArg (Value.int .i64) ?_; exact rfl) | trace_state
  · cases h

end Go.Proofs.YtakcacejpbiogaaDoor
