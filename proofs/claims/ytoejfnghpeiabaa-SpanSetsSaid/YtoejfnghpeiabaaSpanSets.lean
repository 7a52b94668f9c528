/- The statement on SpanSets, for every input, no condition: from what its function computes. -/
import Derived.Test.YtoejfnghpeiabaaRows
import Derived.Test.YtoejfnghpeiabaaSpan
namespace Go.Proofs.Ytoejfnghpeiabaa
open Go.Sx Go.ChangeShapes Go.WideShapes Go.RowKit
def FSpanSets : List Ar → Option Rs
  | [.agg [.d (.v (.bool s0)), .d (.v (.int .i64 l0)), .d (.v (.int .i64 h0))], .agg [.d (.v (.bool s1)), .d (.v (.int .i64 l1)), .d (.v (.int .i64 h1))], .c (.d (.v (.int .i64 i2)))] => some ⟨(True), .va (.c (.d (bo (true)))), []⟩
  | _ => none
theorem cSpanSets : Callable Try.prog 8 := callable_of Try.func8 rfl rfl
set_option maxHeartbeats 2000000 in
set_option maxRecDepth 100000 in
theorem fcSpanSets : FC Try.prog 8 FSpanSets := by
  intro xs pre r us h hp
  unfold FSpanSets at h
  split at h
  · rename_i s0 l0 h0 s1 l1 h1 i2
    cases h
    have hpre := hp
    refine fcat tys_ok (l := [(30, ⟨[], FHas⟩), (31, ⟨[], FRHas⟩), (32, ⟨[], FNone⟩), (33, ⟨[], FRNone⟩), (29, ⟨[], FLeq⟩), (34, ⟨[], FRLeq⟩), (35, ⟨[], FSame⟩), (36, ⟨[], FJoin⟩), (26, ⟨[], FRJoin⟩), (37, ⟨[], FMeet⟩), (38, ⟨[], FRMeet⟩), (27, ⟨[], FLives⟩)]) ⟨⟨cHas, fcHas⟩, ⟨cRHas, fcRHas⟩, ⟨cNone, fcNone⟩, ⟨cRNone, fcRNone⟩, ⟨cLeq, fcLeq⟩, ⟨cRLeq, fcRLeq⟩, ⟨cSame, fcSame⟩, ⟨cJoin, fcJoin⟩, ⟨cRJoin, fcRJoin⟩, ⟨cMeet, fcMeet⟩, ⟨cRMeet, fcRMeet⟩, ⟨cLives, fcLives⟩, trivial⟩ Try.func8 rfl (by kernel_rfl) false ?_
    repeat' (first | exact trivial | refine ⟨?_, ?_⟩ | intro _)
    all_goals first | (with_reducible show (_ : Int) ≤ _) | (with_reducible show (_ : Int) < _) | (with_reducible show (_ : Nat) ≤ _) | (with_reducible show (_ : Nat) < _) | (conv => whnf)
    all_goals grind [Sp.same, Sp.eq, Sp.clean, Sp.leq, Sp.has, Sp.none]
  · cases h
theorem ownSpanSets : ownKnob Try.prog.godebug = none := by kernel_rfl
set_option maxRecDepth 100000 in
theorem specSpanSets : ∀ (H : Type) (ds : List (DataW H)), ds.length = Try.f8.params.size → (Rows.spanSetsSpec.fn H (ds ++ [])).results = [.lit (.bool true)] ∧ (Rows.spanSetsSpec.fn H (ds ++ [])).args = ds ∧ (Rows.spanSetsSpec.fn H (ds ++ [])).vars = [] := by
  intro H ds h
  have h : ds.length = 3 := h
  match ds, h with
  | [d0, d1, d2], _ => exact ⟨rfl, rfl, rfl⟩
theorem contractSpanSets (H : Type) (enc : TypeId × Value → H) (W : World) (base : Nat) (args : Array Value) (ds gs : List (DataW H)) (before : List MemPlace)
    (hval : ∀ (j : Nat) t v, Try.f8.params[j]? = some t → args[j]? = some v → Value.okWide Try.prog W .any base t v)
    (hW : DataW.Whole enc Try.prog Try.f8.params.toList Rows.spanSetsSpec.vars false W args.toList ds gs before) :
    Calls Try.prog 8 args W fun e W' => ∃ v, e = .returned v ∧ Rows.spanSetsSpec.post enc Try.prog Try.f8 false true false false W args v W' := by
  refine law_post (TT.tysOk tys_ok) (by kernel_rfl) (ts0 := [3, 4, 38]) (by kernel_rfl) (tb := 4) (by kernel_rfl) (by kernel_rfl) rfl (by kernel_rfl) rfl specSpanSets ?_ hval hW
  intro n vs h
  have h := rdArs_le (Nat.le_add_right n 12) h
  obtain ⟨a0, z0, d0, ds0, e0, _, k0, r0⟩ := h
  obtain ⟨x0, q0, _, _, c1, c2, _, _, f1, _, ⟨b0, f2, _⟩, c3, c4, _, _, f3, _, ⟨l0, f4, _, _⟩, c5, c6, _, _, f5, _, ⟨h0, f6, _, _⟩, f7, _⟩ := k0
  subst f2 f4 f6 f7 f5 f3 f1
  obtain ⟨a1, z1, d1, ds1, e1, _, k1, r1⟩ := r0
  obtain ⟨x1, q1, _, _, c1, c2, _, _, f1, _, ⟨b1, f2, _⟩, c3, c4, _, _, f3, _, ⟨l1, f4, _, _⟩, c5, c6, _, _, f5, _, ⟨h1, f6, _, _⟩, f7, _⟩ := k1
  subst f2 f4 f6 f7 f5 f3 f1
  obtain ⟨a2, z2, d2, ds2, e2, _, k2, r2⟩ := r1
  obtain ⟨x2, q2, i2, u2, w2, _⟩ := k2
  cases u2
  obtain ⟨e3, _⟩ := r2
  subst e3
  subst q2
  subst e2
  subst q1
  subst e1
  subst q0
  subst e0
  exact fcSpanSets _ _ _ _ rfl trivial
set_option maxRecDepth 100000 in
theorem liftedSpanSets (os : Os) (started : os.Started) (H : Type) (enc : TypeId × Value → H) :
    ReturnsInHanded {} Try.checked os 8 .any (Rows.spanSetsSpec.pre6 enc Try.prog Try.f8 Rows.spanSetsRow.domain false) (Rows.spanSetsSpec.post enc Try.prog Try.f8 false true false false) := by
  refine returnsInHanded_of_change (C := Try.checked) ownSpanSets started (by kernel_rfl) Try.func8
    (ChangeSpec.witness6 (enc := enc) (C := Try.checked) false ⟨#[], #[.agg #[.bool false, .int .i64 0, .int .i64 0], .agg #[.bool false, .int .i64 0, .int .i64 0], .int .i64 0], []⟩ 8 (by kernel_rfl) (by kernel_rfl) (by kernel_rfl) (by kernel_rfl)) ?_
  intro W base args ds gs before hval hW _ _
  exact contractSpanSets H enc W base args ds gs before hval hW
theorem provedSpanSets : Rows.SpanSetsSaid :=
  OpenClaim.holds_of_wide 8 Try.f8 rfl rfl rfl rfl rfl rfl rfl ⟨rfl, rfl, rfl, rfl, rfl⟩ rfl rfl rfl rfl rfl (by kernel_rfl) Try.func8 (by kernel_rfl)
    (of_decide_eq_true (by kernel_rfl)) (by unfold Func.isWrapper; first | (rw [if_pos (by decide +kernel)]; kernel_rfl) | (rw [if_neg (by decide +kernel)]; exact ⟨rfl, rfl⟩))
    (fun os started H enc _ => liftedSpanSets os started H enc)
end Go.Proofs.Ytoejfnghpeiabaa
