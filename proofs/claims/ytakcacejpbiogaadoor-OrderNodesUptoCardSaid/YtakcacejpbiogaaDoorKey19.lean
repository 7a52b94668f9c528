/- The laws of keys. No condition. -/
import Derived.Test.YtakcacejpbiogaaDoorKey18
namespace Go.Proofs.YtakcacejpbiogaaDoor
set_option linter.all false
open Go.Sx

open Go.RowKit Go.Lib Go.Sort
theorem cfL_rng : ∀ (x y : List UInt8), cfL x y = -1 ∨ cfL x y = 0 ∨ cfL x y = 1
  | [], [] => .inr (.inl rfl)
  | [], _ :: _ => .inl rfl
  | _ :: _, [] => .inr (.inr rfl)
  | a :: x, b :: y => by
    have ih := cfL_rng x y
    unfold cfL at ih ⊢
    unfold Lib.compareBytes
    split
    · exact .inl rfl
    · split
      · exact .inr (.inr rfl)
      · exact ih
theorem icmp_rng (x y : Int) : icmp x y = -1 ∨ icmp x y = 0 ∨ icmp x y = 1 := by unfold icmp; split; simp; split <;> simp
theorem Ky.cmp_rng (a b : Ky) : Ky.cmp a b = -1 ∨ Ky.cmp a b = 0 ∨ Ky.cmp a b = 1 := by
  unfold Ky.cmp; split
  · exact icmp_rng _ _
  · exact cfL_rng _ _
theorem Ky.cmp_neg (a b : Ky) : Ky.cmp a b = - Ky.cmp b a := by
  have h1 := Ky.cmp_rng a b
  have h2 := Ky.cmp_rng b a
  have l1 := Ky.cmp_lt a b
  have l2 := Ky.cmp_lt b a
  have e1 := Ky.cmp_eq a b
  have e2 := Ky.cmp_eq b a
  have e3 : (Ky.cl a = Ky.cl b) ↔ (Ky.cl b = Ky.cl a) := ⟨Eq.symm, Eq.symm⟩
  rw [e3, ← e2] at e1
  cases p : Ky.lt a b with
  | true =>
    have q := Ky.lt_asymm p
    rw [p] at l1; rw [q] at l2
    have : ¬ Ky.cmp b a < 0 := fun h => absurd (l2.1 h) (by decide)
    have := l1.2 rfl
    omega
  | false =>
    rw [p] at l1
    have n1 : ¬ Ky.cmp a b < 0 := fun h => absurd (l1.1 h) (by decide)
    cases q : Ky.lt b a with
    | true => rw [q] at l2; have := l2.2 rfl; omega
    | false =>
      have := Ky.lt_tri p q
      have := e1.2 (e2.2 this.symm)
      rw [q] at l2
      have n2 : ¬ Ky.cmp b a < 0 := fun h => absurd (l2.1 h) (by decide)
      omega
theorem Ky.cmp_trans {a b c : Ky} (h1 : Ky.cmp a b ≤ 0) (h2 : Ky.cmp b c ≤ 0) : Ky.cmp a c ≤ 0 := by
  -- a ≤ c: else c < a
  have key : ∀ x y : Ky, Ky.cmp x y ≤ 0 ↔ Ky.lt y x = false := fun x y => by
    have := Ky.cmp_neg x y
    have l := Ky.cmp_lt y x
    cases p : Ky.lt y x with
    | true => rw [p] at l; have := l.2 rfl; constructor; intro; omega; intro h; cases h
    | false => rw [p] at l; have n : ¬ Ky.cmp y x < 0 := fun h => absurd (l.1 h) (by decide); exact ⟨fun _ => rfl, fun _ => by omega⟩
  rw [key] at *
  cases p : Ky.lt c a with
  | false => rfl
  | true =>
    cases q : Ky.lt a b with
    | true => have := Ky.lt_trans p q; rw [this] at h2; cases h2
    | false =>
      have e := Ky.lt_tri q h1
      rw [← Ky.lt_cl2, e, Ky.lt_cl2, h2] at p; cases p
def f3S : ByteArray := ⟨#[102, 46, 51]⟩
def f3K : Ky := ⟨⟨#[102]⟩, 3⟩
theorem f3_read : readM ⟨#[102, 46, 51]⟩ = (f3K, 0) := by kernel_rfl
theorem f3_text : textS f3K = f3S := by kernel_rfl
theorem f3_teq : ((textS ⟨f3K.name, f3K.node⟩).toList == (⟨#[102, 46, 51]⟩ : ByteArray).toList) = true := by rw [show textS ⟨f3K.name, f3K.node⟩ = ⟨#[102, 46, 51]⟩ from f3_text]; exact beq_self_eq_true _
theorem one_rows {k : Ky} (h : rI k.node) : RowsK 1 fun i => Sx.rowAt 2 [DV.v (Value.string k.name), DV.v (Value.int IntKind.i64 k.node)] (0 + i) := ⟨fun i hi => match i, hi with
  | 0, _ => ⟨rfl, h⟩
  | i + 1, hi => absurd hi (by omega)⟩
theorem f3_put : (rowK ([f3K] ++ [f3K])).length = 1 := by kernel_rfl
def FKLives : List Ar → Option Rs
  | [] => some ⟨True, .va (.c (.d (bo (true)))), []⟩
  | _ => none
set_option maxHeartbeats 1000000 in
set_option maxRecDepth 100000 in
theorem fcKLives : FC Tryd.prog 14 FKLives := by
  intro xs pre r us h hp
  unfold FKLives at h
  split at h
  · cases h
    refine fcat tys_ok (l := [(17, ⟨[], FKRead⟩), (15, ⟨[], FKText⟩), (25, ⟨[], FPutK⟩)]) ⟨fcKRead, fcKText, fcPutK, trivial⟩ Tryd.func14 rfl (by kernel_rfl) false ?_
    have k1 : ((readM ⟨#[102, 46, 51]⟩).2 == 0) = true := by rw [f3_read]; rfl
    have k2 : ((readM ⟨#[102, 46, 51]⟩).1.name.toList == (⟨#[102]⟩ : ByteArray).toList && ((readM ⟨#[102, 46, 51]⟩).1.node == 3 && true)) = true := by rw [f3_read]; kernel_rfl
    have k3 : ((textS ⟨(readM ⟨#[102, 46, 51]⟩).1.name, (readM ⟨#[102, 46, 51]⟩).1.node⟩).toList == (⟨#[102, 46, 51]⟩ : ByteArray).toList) = true := by rw [f3_read]; exact f3_teq
    repeat' (first | exact trivial | (with_reducible exact (fun h => absurd (k1.symm.trans h) (by decide))) | (with_reducible exact (fun h => absurd (k2.symm.trans h) (by decide))) | (with_reducible exact (fun h => absurd (k3.symm.trans h) (by decide))) | refine ⟨?_, ?_⟩ | intro _)
    all_goals first | (with_reducible show (_ : Int) ≤ _) | (with_reducible show (_ : Int) < _) | (with_reducible show (_ : Nat) ≤ _) | (with_reducible show (_ : Nat) < _) | (conv => whnf)
    all_goals (try simp only [f3_read] at *)
    all_goals first | decide | (exact one_rows (k := f3K) (by unfold rI; decide)) | (refine congrArg Value.bool ?_; kernel_rfl) | skip
    all_goals trace_state
  · cases h
def FKeyReads : List Ar → Option Rs
  | [.c (.d (.v (.string x0)))] => some ⟨(x0.size < 4294967281), .va (.c (.d (bo (true)))), []⟩
  | _ => none
set_option maxHeartbeats 1000000 in
set_option maxRecDepth 100000 in
theorem fcKeyReads : FC Tryd.prog 5 FKeyReads := by
  intro xs pre r us h hp
  unfold FKeyReads at h
  split at h
  · rename_i x0
    cases h
    have hp0 := hp
    refine fcat tys_ok (l := [(17, ⟨[], FKRead⟩), (19, ⟨[], FRRead⟩), (14, ⟨[], FKLives⟩)]) ⟨fcKRead, fcRRead, fcKLives, trivial⟩ Tryd.func5 rfl (by kernel_rfl) false ?_
    have hk : ((readM x0).1.name.toList == (readM x0).1.name.toList && ((readM x0).1.node == (readM x0).1.node && true)) = true := by simp
    have he : ((readM x0).2 == (readM x0).2) = true := by simp
    repeat' (first | exact trivial | (with_reducible exact (fun h => absurd (hk.symm.trans h) (by decide))) | (with_reducible exact (fun h => absurd (he.symm.trans h) (by decide))) | refine ⟨?_, ?_⟩ | intro _)
    all_goals first | (with_reducible show (_ : Int) ≤ _) | (with_reducible show (_ : Int) < _) | (with_reducible show (_ : Nat) ≤ _) | (with_reducible show (_ : Nat) < _) | (conv => whnf)
    all_goals first | omega | exact hp0 | rfl
    all_goals trace_state
  · cases h
def FKeyOrder : List Ar → Option Rs
  | [.agg [.d (.v (.string _)), .d (.v (.int .i64 i0))], .agg [.d (.v (.string _)), .d (.v (.int .i64 i1))], .agg [.d (.v (.string _)), .d (.v (.int .i64 i2))]] => some ⟨(rI i0) ∧ (rI i1) ∧ (rI i2), .va (.c (.d (bo (true)))), []⟩
  | _ => none
set_option maxHeartbeats 4000000 in
set_option maxRecDepth 100000 in
theorem fcKeyOrder : FC Tryd.prog 3 FKeyOrder := by
  intro xs pre r us h hp
  unfold FKeyOrder at h
  split at h
  · rename_i x0 i0 x1 i1 x2 i2
    cases h
    obtain ⟨hp0, hp1, hp2⟩ := hp
    refine fcat tys_ok (l := [(11, ⟨[], FKyCmp⟩), (12, ⟨[], FRKyClean⟩), (13, ⟨[], FRKyLess⟩), (14, ⟨[], FKLives⟩)]) ⟨fcKyCmp, fcRKyClean, fcRKyLess, fcKLives, trivial⟩ Tryd.func3 rfl (by kernel_rfl) true ?_
    have hn := Ky.cmp_neg ⟨x0, i0⟩ ⟨x1, i1⟩
    have hr := Ky.cmp_rng ⟨x0, i0⟩ ⟨x1, i1⟩
    have hr2 := Ky.cmp_rng ⟨x1, i1⟩ ⟨x0, i0⟩
    have hw : IntKind.wrap .i64 (0 - Ky.cmp ⟨x1, i1⟩ ⟨x0, i0⟩) = Ky.cmp ⟨x0, i0⟩ ⟨x1, i1⟩ := by rw [wI_id _ (by omega) (by omega)]; omega
    have e1 : (Ky.cmp ⟨x0, i0⟩ ⟨x1, i1⟩ != IntKind.wrap .i64 (0 - Ky.cmp ⟨x1, i1⟩ ⟨x0, i0⟩)) = false := by rw [hw]; simp
    have e2 : (!(Ky.cmp ⟨x0, i0⟩ ⟨x1, i1⟩ == 0) == ((Ky.cl ⟨x0, i0⟩).name.toList == (Ky.cl ⟨x1, i1⟩).name.toList && ((Ky.cl ⟨x0, i0⟩).node == (Ky.cl ⟨x1, i1⟩).node && true))) = false := by
      rw [keyEq_iff, cmp_eq]; cases decide (Ky.cl ⟨x0, i0⟩ = Ky.cl ⟨x1, i1⟩) <;> rfl
    have e3 : decide (Ky.cmp ⟨x0, i0⟩ ⟨x1, i1⟩ < -1) = false := decide_eq_false (by omega)
    have e4 : decide (Ky.cmp ⟨x0, i0⟩ ⟨x1, i1⟩ > 1) = false := decide_eq_false (by omega)
    have e5 : (!decide (Ky.cmp ⟨x0, i0⟩ ⟨x1, i1⟩ < 0) == Ky.lt (Ky.cl ⟨x0, i0⟩) (Ky.cl ⟨x1, i1⟩)) = false := by
      rw [cmp_lt, Ky.lt_cl1, Ky.lt_cl2]; cases Ky.lt ⟨x0, i0⟩ ⟨x1, i1⟩ <;> rfl
    have e6 : Ky.cmp ⟨x0, i0⟩ ⟨x1, i1⟩ ≤ 0 → Ky.cmp ⟨x1, i1⟩ ⟨x2, i2⟩ ≤ 0 → Ky.cmp ⟨x0, i0⟩ ⟨x2, i2⟩ ≤ 0 := Ky.cmp_trans
    have hc0 := Ky.cl_r (k := ⟨x0, i0⟩) hp0
    have hc1 := Ky.cl_r (k := ⟨x1, i1⟩) hp1
    have q0 := Ky.cl_cl ⟨x0, i0⟩
    have q1 := Ky.cl_cl ⟨x1, i1⟩
    unfold rI at hp0 hp1 hp2 hc0 hc1
    repeat' (first | exact trivial | (with_reducible exact (fun h => absurd (e1.symm.trans h) (by decide))) | (with_reducible exact (fun h => absurd (e2.symm.trans h) (by decide))) | (with_reducible exact (fun h => absurd (e3.symm.trans h) (by decide))) | (with_reducible exact (fun h => absurd (e4.symm.trans h) (by decide))) | (with_reducible exact (fun h => absurd (e5.symm.trans h) (by decide))) | (with_reducible exact hp0) | (with_reducible exact hp1) | (with_reducible exact hp2) | (with_reducible exact hp0.1) | (with_reducible exact hp0.2) | (with_reducible exact hp1.1) | (with_reducible exact hp1.2) | (with_reducible exact hp2.1) | (with_reducible exact hp2.2) | (with_reducible exact hc0.1) | (with_reducible exact hc0.2) | (with_reducible exact hc1.1) | (with_reducible exact hc1.2) | refine ⟨?_, ?_⟩ | intro _)
    all_goals first | (with_reducible show (_ : Int) ≤ _) | (with_reducible show (_ : Int) < _) | (with_reducible show (_ : Nat) ≤ _) | (with_reducible show (_ : Nat) < _) | (conv => whnf)
    all_goals first | exact q0 | exact q1 | rfl | (have h1 := of_decide_eq_false ‹decide (Ky.cmp ⟨x0, i0⟩ ⟨x1, i1⟩ > 0) = false›; have h2 := of_decide_eq_false ‹decide (Ky.cmp ⟨x1, i1⟩ ⟨x2, i2⟩ > 0) = false›; have h3 := of_decide_eq_false ‹decide (Ky.cmp ⟨x0, i0⟩ ⟨x2, i2⟩ ≤ 0) = false›; exact absurd (e6 (by omega) (by omega)) h3)
    all_goals trace_state
  · cases h

end Go.Proofs.YtakcacejpbiogaaDoor
