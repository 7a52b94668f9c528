/- The statement on SpanWidens, for every input, no condition: from what its function computes. -/
import Derived.Test.YtoejfnghpeiabaaRows
import Derived.SizedLaws
import Derived.Test.YtoejfnghpeiabaaSpanW
namespace Go.Proofs.Ytoejfnghpeiabaa
open Go.Sx Go.ChangeShapes Go.WideShapes Go.RowKit
def FSpanWidens : List Ar → Option Rs
  | [.agg [.d (.v (.bool _)), .d (.v (.int .i64 _)), .d (.v (.int .i64 _))], .agg [.d (.v (.bool _)), .d (.v (.int .i64 l1)), .d (.v (.int .i64 h1))], .c (.d (.lst 1 n2 f2))] => some ⟨(n2 ≤ 9223372036854775807 ∧ ∀ i, i < n2 → f2 i = [it (gI (f2 i))]) ∧ (-9223372036854775808 ≤ l1 ∧ h1 ≤ 9223372036854775807), .va (.c (.d (bo (true)))), []⟩
  | _ => none
theorem cSpanWidens : Callable Try.prog 9 := callable_of Try.func9 rfl rfl
set_option maxHeartbeats 2000000 in
set_option maxRecDepth 100000 in
theorem fcSpanWidens : FC Try.prog 9 FSpanWidens := by
  intro xs pre r us h hp
  unfold FSpanWidens at h
  split at h
  · rename_i s0 l0 h0 s1 l1 h1 n2 f2
    cases h
    obtain ⟨hp0, hpre⟩ := hp
    refine FCat.of_eq (as' := [.agg [.d (.v (.bool s0)), .d (.v (.int .i64 l0)), .d (.v (.int .i64 h0))], .agg [.d (.v (.bool s1)), .d (.v (.int .i64 l1)), .d (.v (.int .i64 h1))], .c (.d (.lst 1 n2 fun i => [it (gI (f2 i))]))]) ?_ rfl rfl ?_
    · repeat' (first | exact trivial | exact rfl | exact hp0.2 | (intro i hi; exact (hp0.2 i hi).1) | (intro i hi; exact hp1.2 i hi) | (intro i hi; exact (hp1.2 i hi).1) | refine ⟨?_, ?_⟩)
      all_goals first | exact hp0.2 | (intro i hi; exact (hp0.2 i hi).1) | (intro i hi; exact hp1.2 i hi) | (intro i hi; exact (hp1.2 i hi).1) | grind
    refine fcat tys_ok (l := [(28, ⟨[], FWiden⟩), (39, ⟨[], FRWiden⟩), (40, ⟨[], FNarrow⟩), (41, ⟨[], FRNarrow⟩), (27, ⟨[], FLives⟩)]) ⟨⟨cWiden, fcWiden⟩, ⟨cRWiden, fcRWiden⟩, ⟨cNarrow, fcNarrow⟩, ⟨cRNarrow, fcRNarrow⟩, ⟨cLives, fcLives⟩, trivial⟩ Try.func9 rfl (by kernel_rfl) false ?_
    repeat' (first | exact trivial | refine ⟨?_, ?_⟩ | intro _)
    all_goals first | (with_reducible show (_ : Int) ≤ _) | (with_reducible show (_ : Int) < _) | (with_reducible show (_ : Nat) ≤ _) | (with_reducible show (_ : Nat) < _) | (conv => whnf)
    all_goals first | assumption | grind
  · cases h
theorem ownSpanWidens : ownKnob Try.prog.godebug = none := by kernel_rfl
set_option maxRecDepth 100000 in
theorem specSpanWidens : ∀ (H : Type) (ds : List (DataW H)), ds.length = Try.f9.params.size → (Rows.spanWidensSpec.fn H (ds ++ [])).results = [.lit (.bool true)] ∧ (Rows.spanWidensSpec.fn H (ds ++ [])).args = ds ∧ (Rows.spanWidensSpec.fn H (ds ++ [])).vars = [] := by
  intro H ds h
  have h : ds.length = 3 := h
  match ds, h with
  | [d0, d1, d2], _ => exact ⟨rfl, rfl, rfl⟩
theorem contractSpanWidens (H : Type) (enc : TypeId × Value → H) (W : World) (base : Nat) (args : Array Value) (ds gs : List (DataW H)) (before : List MemPlace)
    (hval : ∀ (j : Nat) t v, Try.f9.params[j]? = some t → args[j]? = some v → Value.okWide Try.prog W .any base t v)
    (hW : DataW.Whole enc Try.prog Try.f9.params.toList Rows.spanWidensSpec.vars false W args.toList ds gs before) (_hsz : (DataW.weightsEach Try.prog (Try.f9.params.toList ++ Rows.spanWidensSpec.plain.varTypes Try.prog) (ds ++ gs)).all (· ≤ reachBytes) = true) :
    Calls Try.prog 9 args W fun e W' => ∃ v, e = .returned v ∧ Rows.spanWidensSpec.post enc Try.prog Try.f9 false true false false W args v W' := by
  refine law_post (TT.tysOk tys_ok) (by kernel_rfl) (ts0 := [3, 4, 38, 46]) (by kernel_rfl) (tb := 4) (by kernel_rfl) (by kernel_rfl) rfl (by kernel_rfl) rfl specSpanWidens ?_ hval hW
  intro n vs h
  have h := rdArs_le (Nat.le_add_right n 12) h
  obtain ⟨a0, z0, d0, ds0, e0, _, k0, r0⟩ := h
  obtain ⟨x0, q0, _, _, c1, c2, _, _, f1, _, ⟨b0, f2, _⟩, c3, c4, _, _, f3, _, ⟨l0, f4, wl0, _⟩, c5, c6, _, _, f5, _, ⟨h0, f6, wh0, _⟩, f7, _⟩ := k0
  subst f2 f4 f6 f7 f5 f3 f1
  obtain ⟨a1, z1, d1, ds1, e1, _, k1, r1⟩ := r0
  obtain ⟨x1, q1, _, _, c1, c2, _, _, f1, _, ⟨b1, f2, _⟩, c3, c4, _, _, f3, _, ⟨l1, f4, wl1, _⟩, c5, c6, _, _, f5, _, ⟨h1, f6, wh1, _⟩, f7, _⟩ := k1
  subst f2 f4 f6 f7 f5 f3 f1
  obtain ⟨a2, z2, d2, ds2, e2, _, k2, r2⟩ := r1
  obtain ⟨x2, q2, sz2, m2, g2, u2, s2, b2, y2⟩ := k2
  cases u2
  have s2 : sz2 = 1 := s2
  subst s2
  obtain ⟨e3, _⟩ := r2
  subst e3
  subst q2
  subst e2
  subst q1
  subst e1
  subst q0
  subst e0
  have p2 : ∀ i, i < m2 → g2 i = [it (gI (g2 i))] := by
    intro i hi
    rcases y2 with ⟨hm, _⟩ | ⟨xs, _, _, hl, hx⟩
    · omega
    · obtain ⟨z, f1, _, _⟩ := hx i (xs[i]'(by omega)) (by simp)
      rw [f1]; rfl
  have wl1 : (decide (-9223372036854775808 ≤ l1) && decide (l1 ≤ 9223372036854775807)) = true := wl1
  have wh1 : (decide (-9223372036854775808 ≤ h1) && decide (h1 ≤ 9223372036854775807)) = true := wh1
  simp at wl1 wh1
  exact fcSpanWidens _ _ _ _ rfl ⟨⟨b2, p2⟩, wl1.1, wh1.2⟩
set_option maxRecDepth 100000 in
theorem liftedSpanWidens (os : Os) (started : os.Started) (H : Type) (enc : TypeId × Value → H) :
    ReturnsInHanded {} Try.checked os 9 .any (Rows.spanWidensSpec.pre6 enc Try.prog Try.f9 Rows.spanWidensRow.domain false) (Rows.spanWidensSpec.post enc Try.prog Try.f9 false true false false) := by
  refine returnsInHanded_of_change_sized (C := Try.checked) ownSpanWidens started (by kernel_rfl) Try.func9
    (ChangeSpec.witness6 (enc := enc) (C := Try.checked) false ⟨#[], #[.agg #[.bool false, .int .i64 0, .int .i64 0], .agg #[.bool false, .int .i64 0, .int .i64 0], .slice none 0 0], []⟩ 8 (by kernel_rfl) (by kernel_rfl) (by kernel_rfl) (by kernel_rfl)) ?_
  intro W base args ds gs before hval hW _ hsz _
  exact contractSpanWidens H enc W base args ds gs before hval hW hsz
theorem provedSpanWidens : Rows.SpanWidensSaid :=
  OpenClaim.holds_of_wide 9 Try.f9 rfl rfl rfl rfl rfl rfl rfl ⟨rfl, rfl, rfl, rfl, rfl⟩ rfl rfl rfl rfl rfl (by kernel_rfl) Try.func9 (by kernel_rfl)
    (of_decide_eq_true (by kernel_rfl)) (by unfold Func.isWrapper; first | (rw [if_pos (by decide +kernel)]; kernel_rfl) | (rw [if_neg (by decide +kernel)]; exact ⟨rfl, rfl⟩))
    (fun os started H enc _ => liftedSpanWidens os started H enc)
end Go.Proofs.Ytoejfnghpeiabaa
