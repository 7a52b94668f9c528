/- The statement on SpanFalls, for every input, no condition: from what its function computes. -/
import Derived.Test.YtoejfnghpeiabaaRows
import Derived.SizedLaws
import Derived.Test.YtoejfnghpeiabaaSpanW
namespace Go.Proofs.Ytoejfnghpeiabaa
open Go.Sx Go.ChangeShapes Go.WideShapes Go.RowKit
def FSpanFalls : List Ar → Option Rs
  | [.agg [.d (.v (.bool _)), .d (.v (.int .i64 _)), .d (.v (.int .i64 _))], .c (.d (.lst 3 n1 f1))] => some ⟨(n1 ≤ 9223372036854775807 ∧ ∀ i, i < n1 → f1 i = spC (gS (f1 i)) ∧ Sp.inR (gS (f1 i)) = true), .va (.c (.d (bo (true)))), []⟩
  | _ => none
theorem cSpanFalls : Callable Try.prog 11 := callable_of Try.func11 rfl rfl
set_option maxHeartbeats 2000000 in
set_option maxRecDepth 100000 in
theorem fcSpanFalls : FC Try.prog 11 FSpanFalls := by
  intro xs pre r us h hp
  unfold FSpanFalls at h
  split at h
  · rename_i s0 l0 h0 n1 f1
    cases h
    have hp0 := hp
    refine FCat.of_eq (as' := [.agg [.d (.v (.bool s0)), .d (.v (.int .i64 l0)), .d (.v (.int .i64 h0))], .c (.d (.lst 3 n1 fun i => spC (gS (f1 i))))]) ?_ rfl rfl ?_
    · repeat' (first | exact trivial | exact rfl | exact hp0.2 | (intro i hi; exact (hp0.2 i hi).1) | (intro i hi; exact hp1.2 i hi) | (intro i hi; exact (hp1.2 i hi).1) | refine ⟨?_, ?_⟩)
      all_goals first | exact hp0.2 | (intro i hi; exact (hp0.2 i hi).1) | (intro i hi; exact hp1.2 i hi) | (intro i hi; exact (hp1.2 i hi).1) | grind
    refine fcat tys_ok (l := [(25, ⟨[], FClean⟩), (40, ⟨[], FNarrow⟩), (29, ⟨[], FLeq⟩), (27, ⟨[], FLives⟩)]) ⟨⟨cClean, fcClean⟩, ⟨cNarrow, fcNarrow⟩, ⟨cLeq, fcLeq⟩, ⟨cLives, fcLives⟩, trivial⟩ Try.func11 rfl (by kernel_rfl) false ?_
    repeat' (first | exact trivial | refine ⟨?_, ?_⟩ | intro _)
    all_goals first | (with_reducible show (_ : Int) ≤ _) | (with_reducible show (_ : Int) < _) | (with_reducible show (_ : Nat) ≤ _) | (with_reducible show (_ : Nat) < _) | (conv => whnf)
    all_goals first | (with_reducible show ASat _ _ _ _ _; skip) | rfl | grind
    refine loop_ok tys_ok (l := [(25, ⟨[], FClean⟩), (40, ⟨[], FNarrow⟩), (29, ⟨[], FLeq⟩), (27, ⟨[], FLives⟩)]) ⟨⟨cClean, fcClean⟩, ⟨cNarrow, fcNarrow⟩, ⟨cLeq, fcLeq⟩, ⟨cLives, fcLives⟩, trivial⟩ (by kernel_rfl) (X := Nat × Int × Sp)
      (fun | (i, n, s) => ⟨[(6, vx (.int .i64 i)), (5, vx (.int .i64 n)), (1, .va (.c (.d (.lst 3 n1 fun i => spC (gS (f1 i)))))), (2, .va (.c (.own 0 0)))], [(0, .cells [.d (bo s.some), .d (it s.lo), .d (it s.hi)])], 1, 54⟩)
      (fun | (i, _, _) => n1 - i) (fun | (i, n, s) => i ≤ n1 ∧ s.isC = true ∧ 0 ≤ n ∧ n + s.pot ≤ 3) [5] [0] (fun | (i, _, _), [n], [b] => (i + 1, iT n, spB b) | x, _, _ => x) [0] [0] 0 0 (0, 0, Sp.clean ⟨s0, l0, h0⟩)
      ⟨Nat.zero_le _, Sp.isC_clean _, Int.le_refl _, by have := Sp.pot_le (Sp.clean ⟨s0, l0, h0⟩); omega⟩ ?_ ?_
    · repeat' (first | exact trivial | exact rfl | (intro _ _; exact rfl) | refine ⟨?_, ?_⟩)
    · rintro ⟨i, n, s⟩ ⟨h1', hc, hn0, hn⟩
      have q1 := Sp.narrow_leq s (gS (f1 i))
      have q2 := Sp.leq_narrow s (gS (f1 i))
      have q3 := Sp.pot_narrow s (gS (f1 i)) hc
      have q4 := Sp.pot_same s (Sp.narrow s (gS (f1 i)))
      have q5 := Sp.isC_narrow s (gS (f1 i)) hc
      have q6 := Sp.pot_le (Sp.narrow s (gS (f1 i)))
      repeat' (first | exact trivial | refine ⟨?_, ?_⟩ | intro _)
      all_goals first | (with_reducible show (_ : Int) ≤ _) | (with_reducible show (_ : Int) < _) | (with_reducible show (_ : Nat) ≤ _) | (with_reducible show (_ : Nat) < _) | (conv => whnf)
      all_goals (try simp only [iT, spB, Int.toNat_natCast, Sp.eta] at *)
      all_goals first | rfl | (intro _ _; rfl) | grind [Sp.eq, Go.Sx.wrap64]
  · cases h
theorem ownSpanFalls : ownKnob Try.prog.godebug = none := by kernel_rfl
set_option maxRecDepth 100000 in
theorem specSpanFalls : ∀ (H : Type) (ds : List (DataW H)), ds.length = Try.f11.params.size → (Rows.spanFallsSpec.fn H (ds ++ [])).results = [.lit (.bool true)] ∧ (Rows.spanFallsSpec.fn H (ds ++ [])).args = ds ∧ (Rows.spanFallsSpec.fn H (ds ++ [])).vars = [] := by
  intro H ds h
  have h : ds.length = 2 := h
  match ds, h with
  | [d0, d1], _ => exact ⟨rfl, rfl, rfl⟩
theorem contractSpanFalls (H : Type) (enc : TypeId × Value → H) (W : World) (base : Nat) (args : Array Value) (ds gs : List (DataW H)) (before : List MemPlace)
    (hval : ∀ (j : Nat) t v, Try.f11.params[j]? = some t → args[j]? = some v → Value.okWide Try.prog W .any base t v)
    (hW : DataW.Whole enc Try.prog Try.f11.params.toList Rows.spanFallsSpec.vars false W args.toList ds gs before) (_hsz : (DataW.weightsEach Try.prog (Try.f11.params.toList ++ Rows.spanFallsSpec.plain.varTypes Try.prog) (ds ++ gs)).all (· ≤ reachBytes) = true) :
    Calls Try.prog 11 args W fun e W' => ∃ v, e = .returned v ∧ Rows.spanFallsSpec.post enc Try.prog Try.f11 false true false false W args v W' := by
  refine law_post (TT.tysOk tys_ok) (by kernel_rfl) (ts0 := [3, 4, 38, 45]) (by kernel_rfl) (tb := 4) (by kernel_rfl) (by kernel_rfl) rfl (by kernel_rfl) rfl specSpanFalls ?_ hval hW
  intro n vs h
  have h := rdArs_le (Nat.le_add_right n 12) h
  obtain ⟨a0, z0, d0, ds0, e0, _, k0, r0⟩ := h
  obtain ⟨x0, q0, _, _, c1, c2, _, _, f1, _, ⟨b0, f2, _⟩, c3, c4, _, _, f3, _, ⟨l0, f4, wl0, _⟩, c5, c6, _, _, f5, _, ⟨h0, f6, wh0, _⟩, f7, _⟩ := k0
  subst f2 f4 f6 f7 f5 f3 f1
  obtain ⟨a1, z1, d1, ds1, e1, _, k1, r1⟩ := r0
  obtain ⟨x1, q1, sz1, m1, g1, u1, s1, b1, y1⟩ := k1
  cases u1
  have s1 : sz1 = 3 := s1
  subst s1
  obtain ⟨e2, _⟩ := r1
  subst e2
  subst q1
  subst e1
  subst q0
  subst e0
  have p1 : ∀ i, i < m1 → g1 i = spC (gS (g1 i)) ∧ Sp.inR (gS (g1 i)) = true := by
    intro i hi
    rcases y1 with ⟨hm, _⟩ | ⟨xs, _, _, hl, hx⟩
    · omega
    · obtain ⟨_, _, c1, c2, _, _, f1, _, ⟨b, f2, _⟩, c3, c4, _, _, f3, _, ⟨l, f4, wl, _⟩, c5, c6, _, _, f5, _, ⟨h, f6, wh, _⟩, f7, _⟩ := hx i (xs[i]'(by omega)) (by simp)
      subst f2 f4 f6 f7 f5 f3
      rw [f1]
      refine ⟨rfl, ?_⟩
      have wl : (decide (-9223372036854775808 ≤ l) && decide (l ≤ 9223372036854775807)) = true := wl
      have wh : (decide (-9223372036854775808 ≤ h) && decide (h ≤ 9223372036854775807)) = true := wh
      show (decide (-9223372036854775808 ≤ l) && decide (h ≤ 9223372036854775807)) = true
      simp at wl wh ⊢
      omega
  exact fcSpanFalls _ _ _ _ rfl ⟨b1, p1⟩
set_option maxRecDepth 100000 in
theorem liftedSpanFalls (os : Os) (started : os.Started) (H : Type) (enc : TypeId × Value → H) :
    ReturnsInHanded {} Try.checked os 11 .any (Rows.spanFallsSpec.pre6 enc Try.prog Try.f11 Rows.spanFallsRow.domain false) (Rows.spanFallsSpec.post enc Try.prog Try.f11 false true false false) := by
  refine returnsInHanded_of_change_sized (C := Try.checked) ownSpanFalls started (by kernel_rfl) Try.func11
    (ChangeSpec.witness6 (enc := enc) (C := Try.checked) false ⟨#[], #[.agg #[.bool false, .int .i64 0, .int .i64 0], .slice none 0 0], []⟩ 8 (by kernel_rfl) (by kernel_rfl) (by kernel_rfl) (by kernel_rfl)) ?_
  intro W base args ds gs before hval hW _ hsz _
  exact contractSpanFalls H enc W base args ds gs before hval hW hsz
theorem provedSpanFalls : Rows.SpanFallsSaid :=
  OpenClaim.holds_of_wide 11 Try.f11 rfl rfl rfl rfl rfl rfl rfl ⟨rfl, rfl, rfl, rfl, rfl⟩ rfl rfl rfl rfl rfl (by kernel_rfl) Try.func11 (by kernel_rfl)
    (of_decide_eq_true (by kernel_rfl)) (by unfold Func.isWrapper; first | (rw [if_pos (by decide +kernel)]; kernel_rfl) | (rw [if_neg (by decide +kernel)]; exact ⟨rfl, rfl⟩))
    (fun os started H enc _ => liftedSpanFalls os started H enc)
end Go.Proofs.Ytoejfnghpeiabaa
