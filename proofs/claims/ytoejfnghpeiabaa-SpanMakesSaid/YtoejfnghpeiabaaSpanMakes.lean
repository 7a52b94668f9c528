/- The statement on SpanMakes, for every input, no condition: from what its function computes. -/
import Derived.Test.YtoejfnghpeiabaaRows
import Derived.Test.YtoejfnghpeiabaaSpan
namespace Go.Proofs.Ytoejfnghpeiabaa
open Go.Sx Go.ChangeShapes Go.WideShapes Go.RowKit
def FSpanMakes : List Ar → Option Rs
  | [.c (.d (.v (.int .i64 _))), .c (.d (.v (.int .i64 _))), .agg [.d (.v (.bool _)), .d (.v (.int .i64 _)), .d (.v (.int .i64 _))]] => some ⟨(True), .va (.c (.d (bo (true)))), []⟩
  | _ => none
theorem cSpanMakes : Callable Try.prog 6 := callable_of Try.func6 rfl rfl
set_option maxHeartbeats 2000000 in
set_option maxRecDepth 100000 in
theorem fcSpanMakes : FC Try.prog 6 FSpanMakes := by
  intro xs pre r us h hp
  unfold FSpanMakes at h
  split at h
  · rename_i i0 i1 s2 l2 h2
    cases h
    have hpre := hp
    refine fcat tys_ok (l := [(21, ⟨[], FOf⟩), (22, ⟨[], FMake⟩), (23, ⟨[], FOne⟩), (24, ⟨[], FAll⟩), (25, ⟨[], FClean⟩), (26, ⟨[], FRJoin⟩), (27, ⟨[], FLives⟩)]) ⟨⟨cOf, fcOf⟩, ⟨cMake, fcMake⟩, ⟨cOne, fcOne⟩, ⟨cAll, fcAll⟩, ⟨cClean, fcClean⟩, ⟨cRJoin, fcRJoin⟩, ⟨cLives, fcLives⟩, trivial⟩ Try.func6 rfl (by kernel_rfl) false ?_
    repeat' (first | exact trivial | refine ⟨?_, ?_⟩ | intro _)
    all_goals first | (with_reducible show (_ : Int) ≤ _) | (with_reducible show (_ : Int) < _) | (with_reducible show (_ : Nat) ≤ _) | (with_reducible show (_ : Nat) < _) | (conv => whnf)
    all_goals grind [Sp.clean, Sp.join, Sp.none]
  · cases h
theorem ownSpanMakes : ownKnob Try.prog.godebug = none := by kernel_rfl
set_option maxRecDepth 100000 in
theorem specSpanMakes : ∀ (H : Type) (ds : List (DataW H)), ds.length = Try.f6.params.size → (Rows.spanMakesSpec.fn H (ds ++ [])).results = [.lit (.bool true)] ∧ (Rows.spanMakesSpec.fn H (ds ++ [])).args = ds ∧ (Rows.spanMakesSpec.fn H (ds ++ [])).vars = [] := by
  intro H ds h
  have h : ds.length = 3 := h
  match ds, h with
  | [d0, d1, d2], _ => exact ⟨rfl, rfl, rfl⟩
theorem contractSpanMakes (H : Type) (enc : TypeId × Value → H) (W : World) (base : Nat) (args : Array Value) (ds gs : List (DataW H)) (before : List MemPlace)
    (hval : ∀ (j : Nat) t v, Try.f6.params[j]? = some t → args[j]? = some v → Value.okWide Try.prog W .any base t v)
    (hW : DataW.Whole enc Try.prog Try.f6.params.toList Rows.spanMakesSpec.vars false W args.toList ds gs before) :
    Calls Try.prog 6 args W fun e W' => ∃ v, e = .returned v ∧ Rows.spanMakesSpec.post enc Try.prog Try.f6 false true false false W args v W' := by
  refine law_post (TT.tysOk tys_ok) (by kernel_rfl) (ts0 := [3, 4, 38]) (by kernel_rfl) (tb := 4) (by kernel_rfl) (by kernel_rfl) rfl (by kernel_rfl) rfl specSpanMakes ?_ hval hW
  intro n vs h
  have h := rdArs_le (Nat.le_add_right n 12) h
  obtain ⟨a0, z0, d0, ds0, e0, _, k0, r0⟩ := h
  obtain ⟨x0, q0, i0, u0, w0, _⟩ := k0
  cases u0
  obtain ⟨a1, z1, d1, ds1, e1, _, k1, r1⟩ := r0
  obtain ⟨x1, q1, i1, u1, w1, _⟩ := k1
  cases u1
  obtain ⟨a2, z2, d2, ds2, e2, _, k2, r2⟩ := r1
  obtain ⟨x2, q2, _, _, c1, c2, _, _, f1, _, ⟨b2, f2, _⟩, c3, c4, _, _, f3, _, ⟨l2, f4, wl2, _⟩, c5, c6, _, _, f5, _, ⟨h2, f6, wh2, _⟩, f7, _⟩ := k2
  subst f2 f4 f6 f7 f5 f3 f1
  obtain ⟨e3, _⟩ := r2
  subst e3
  subst q2
  subst e2
  subst q1
  subst e1
  subst q0
  subst e0
  exact fcSpanMakes _ _ _ _ rfl trivial
set_option maxRecDepth 100000 in
theorem liftedSpanMakes (os : Os) (started : os.Started) (H : Type) (enc : TypeId × Value → H) :
    ReturnsInHanded {} Try.checked os 6 .any (Rows.spanMakesSpec.pre6 enc Try.prog Try.f6 Rows.spanMakesRow.domain false) (Rows.spanMakesSpec.post enc Try.prog Try.f6 false true false false) := by
  refine returnsInHanded_of_change (C := Try.checked) ownSpanMakes started (by kernel_rfl) Try.func6
    (ChangeSpec.witness6 (enc := enc) (C := Try.checked) false ⟨#[], #[.int .i64 0, .int .i64 0, .agg #[.bool false, .int .i64 0, .int .i64 0]], []⟩ 8 (by kernel_rfl) (by kernel_rfl) (by kernel_rfl) (by kernel_rfl)) ?_
  intro W base args ds gs before hval hW _ _
  exact contractSpanMakes H enc W base args ds gs before hval hW
theorem provedSpanMakes : Rows.SpanMakesSaid :=
  OpenClaim.holds_of_wide 6 Try.f6 rfl rfl rfl rfl rfl rfl rfl ⟨rfl, rfl, rfl, rfl, rfl⟩ rfl rfl rfl rfl rfl (by kernel_rfl) Try.func6 (by kernel_rfl)
    (of_decide_eq_true (by kernel_rfl)) (by unfold Func.isWrapper; first | (rw [if_pos (by decide +kernel)]; kernel_rfl) | (rw [if_neg (by decide +kernel)]; exact ⟨rfl, rfl⟩))
    (fun os started H enc _ => liftedSpanMakes os started H enc)
end Go.Proofs.Ytoejfnghpeiabaa
