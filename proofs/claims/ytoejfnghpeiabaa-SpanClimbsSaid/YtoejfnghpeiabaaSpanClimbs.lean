/- The statement on SpanClimbs, for every input, no condition: from what its function computes. -/
import Derived.Test.YtoejfnghpeiabaaRows
import Derived.SizedLaws
import Derived.Test.YtoejfnghpeiabaaSpanW
namespace Go.Proofs.Ytoejfnghpeiabaa
open Go.Sx Go.ChangeShapes Go.WideShapes Go.RowKit
def FSpanClimbs : List Ar → Option Rs
  | [.c (.d (.lst 3 n0 f0)), .c (.d (.lst 1 n1 f1))] => some ⟨(n0 ≤ 9223372036854775807 ∧ ∀ i, i < n0 → f0 i = spC (gS (f0 i)) ∧ Sp.inR (gS (f0 i)) = true) ∧ (n1 ≤ 9223372036854775807 ∧ ∀ i, i < n1 → f1 i = [it (gI (f1 i))]) ∧ (n1 ≤ 1152921504606846976), .va (.c (.d (bo (true)))), []⟩
  | _ => none
theorem cSpanClimbs : Callable Try.prog 7 := callable_of Try.func7 rfl rfl
set_option maxHeartbeats 2000000 in
set_option maxRecDepth 100000 in
theorem fcSpanClimbs : FC Try.prog 7 FSpanClimbs := by
  intro xs pre r us h hp
  unfold FSpanClimbs at h
  split at h
  · rename_i n0 f0 n1 f1
    cases h
    obtain ⟨hp0, hp1, hpre⟩ := hp
    refine FCat.of_eq (as' := [.c (.d (.lst 3 n0 fun i => spC (gS (f0 i)))), .c (.d (.lst 1 n1 fun i => [it (gI (f1 i))]))]) ?_ rfl rfl ?_
    · repeat' (first | exact trivial | exact rfl | exact hp0.2 | (intro i hi; exact (hp0.2 i hi).1) | (intro i hi; exact hp1.2 i hi) | (intro i hi; exact (hp1.2 i hi).1) | refine ⟨?_, ?_⟩)
      all_goals first | exact hp0.2 | (intro i hi; exact (hp0.2 i hi).1) | (intro i hi; exact hp1.2 i hi) | (intro i hi; exact (hp1.2 i hi).1) | grind
    refine fcat tys_ok (l := [(28, ⟨[], FWiden⟩), (29, ⟨[], FLeq⟩), (27, ⟨[], FLives⟩)]) ⟨⟨cWiden, fcWiden⟩, ⟨cLeq, fcLeq⟩, ⟨cLives, fcLives⟩, trivial⟩ Try.func7 rfl (by kernel_rfl) false ?_
    repeat' (first | exact trivial | refine ⟨?_, ?_⟩ | intro _)
    all_goals first | (with_reducible show (_ : Int) ≤ _) | (with_reducible show (_ : Int) < _) | (with_reducible show (_ : Nat) ≤ _) | (with_reducible show (_ : Nat) < _) | (conv => whnf)
    all_goals first | (with_reducible show ASat _ _ _ _ _; skip) | rfl | grind
    refine loop_ok tys_ok (l := [(28, ⟨[], FWiden⟩), (29, ⟨[], FLeq⟩), (27, ⟨[], FLives⟩)]) ⟨⟨cWiden, fcWiden⟩, ⟨cLeq, fcLeq⟩, ⟨cLives, fcLives⟩, trivial⟩ (by kernel_rfl) (X := Nat × Int × Sp)
      (fun | (i, n, s) => ⟨[(7, vx (.int .i64 i)), (6, vx (.int .i64 n)), (0, .va (.c (.d (.lst 3 n0 fun i => spC (gS (f0 i)))))), (1, .va (.c (.d (.lst 1 n1 fun i => [it (gI (f1 i))])))), (5, .va (.c (.own 0 0)))], [(0, .cells [.d (bo s.some), .d (it s.lo), .d (it s.hi)])], 1, 51⟩)
      (fun | (i, _, _) => n0 - i) (fun | (i, n, s) => i ≤ n0 ∧ s.isC = true ∧ 0 ≤ n ∧ n + s.wpot (gL n1 f1) ≤ 2 * n1 + 3) [6] [0] (fun | (i, _, _), [n], [b] => (i + 1, iT n, spB b) | x, _, _ => x) [0] [0] 0 0 (0, 0, ⟨false, 0, 0⟩)
      ⟨Nat.zero_le _, rfl, Int.le_refl _, by simp [Sp.wpot, Sp.none, gL]⟩ ?_ ?_
    · repeat' (first | exact trivial | exact rfl | (intro _ _; exact rfl) | refine ⟨?_, ?_⟩)
    · rintro ⟨i, n, s⟩ ⟨h1', hc, hn0, hn⟩
      have hr : i < n0 → Sp.inR (gS (f0 i)) = true := fun h => (hp0.2 i h).2
      have q1 := Sp.leq_widen1 s (gS (f0 i)) (gL n1 f1)
      have q2 := Sp.leq_widen2 s (gS (f0 i)) (gL n1 f1)
      have q3 := Sp.wpot_widen s (gS (f0 i)) (gL n1 f1) hc
      have q4 := Sp.wpot_same (gL n1 f1) s (Sp.widen s (gS (f0 i)) (gL n1 f1))
      have q5 := Sp.isC_widen s (gS (f0 i)) (gL n1 f1) hc
      have q6 := Sp.wpot_le (gL n1 f1) (Sp.widen s (gS (f0 i)) (gL n1 f1))
      have q7 := Sp.wpot_le (gL n1 f1) s
      repeat' (first | exact trivial | refine ⟨?_, ?_⟩ | intro _)
      all_goals first | (with_reducible show (_ : Int) ≤ _) | (with_reducible show (_ : Int) < _) | (with_reducible show (_ : Nat) ≤ _) | (with_reducible show (_ : Nat) < _) | (conv => whnf)
      all_goals (try simp only [iT, spB, Int.toNat_natCast, Sp.eta, gL_canon] at *)
      all_goals first | rfl | (intro _ _; rfl) | grind [Sp.eq, Go.Sx.wrap64]
  · cases h
theorem ownSpanClimbs : ownKnob Try.prog.godebug = none := by kernel_rfl
set_option maxRecDepth 100000 in
theorem specSpanClimbs : ∀ (H : Type) (ds : List (DataW H)), ds.length = Try.f7.params.size → (Rows.spanClimbsSpec.fn H (ds ++ [])).results = [.lit (.bool true)] ∧ (Rows.spanClimbsSpec.fn H (ds ++ [])).args = ds ∧ (Rows.spanClimbsSpec.fn H (ds ++ [])).vars = [] := by
  intro H ds h
  have h : ds.length = 2 := h
  match ds, h with
  | [d0, d1], _ => exact ⟨rfl, rfl, rfl⟩
theorem contractSpanClimbs (H : Type) (enc : TypeId × Value → H) (W : World) (base : Nat) (args : Array Value) (ds gs : List (DataW H)) (before : List MemPlace)
    (hval : ∀ (j : Nat) t v, Try.f7.params[j]? = some t → args[j]? = some v → Value.okWide Try.prog W .any base t v)
    (hW : DataW.Whole enc Try.prog Try.f7.params.toList Rows.spanClimbsSpec.vars false W args.toList ds gs before) (hsz : (DataW.weightsEach Try.prog (Try.f7.params.toList ++ Rows.spanClimbsSpec.plain.varTypes Try.prog) (ds ++ gs)).all (· ≤ reachBytes) = true) :
    Calls Try.prog 7 args W fun e W' => ∃ v, e = .returned v ∧ Rows.spanClimbsSpec.post enc Try.prog Try.f7 false true false false W args v W' := by
  refine law_post (TT.tysOk tys_ok) (by kernel_rfl) (ts0 := [3, 4, 38, 45, 46]) (by kernel_rfl) (tb := 4) (by kernel_rfl) (by kernel_rfl) rfl (by kernel_rfl) rfl specSpanClimbs ?_ hval hW
  intro n vs h
  have h := rdArs_le (Nat.le_add_right n 12) h
  obtain ⟨a0, z0, d0, ds0, e0, v0, k0, r0⟩ := h
  obtain ⟨x0, q0, sz0, m0, g0, u0, s0, b0, y0⟩ := k0
  cases u0
  have s0 : sz0 = 3 := s0
  subst s0
  obtain ⟨a1, z1, d1, ds1, e1, v1, k1, r1⟩ := r0
  obtain ⟨x1, q1, sz1, m1, g1, u1, s1, b1, y1⟩ := k1
  cases u1
  have s1 : sz1 = 1 := s1
  subst s1
  obtain ⟨e2, _⟩ := r1
  subst e2
  subst q1
  subst e1
  subst q0
  subst e0
  have p0 : ∀ i, i < m0 → g0 i = spC (gS (g0 i)) ∧ Sp.inR (gS (g0 i)) = true := by
    intro i hi
    rcases y0 with ⟨hm, _⟩ | ⟨xs, _, _, hl, hx⟩
    · omega
    · obtain ⟨_, _, c1, c2, _, _, f1, _, ⟨b, f2, _⟩, c3, c4, _, _, f3, _, ⟨l, f4, wl, _⟩, c5, c6, _, _, f5, _, ⟨h, f6, wh, _⟩, f7, _⟩ := hx i (xs[i]'(by omega)) (by simp)
      subst f2 f4 f6 f7 f5 f3
      rw [f1]
      refine ⟨rfl, ?_⟩
      have wl : (decide (-9223372036854775808 ≤ l) && decide (l ≤ 9223372036854775807)) = true := wl
      have wh : (decide (-9223372036854775808 ≤ h) && decide (h ≤ 9223372036854775807)) = true := wh
      show (decide (-9223372036854775808 ≤ l) && decide (h ≤ 9223372036854775807)) = true
      simp at wl wh ⊢
      omega
  have p1 : ∀ i, i < m1 → g1 i = [it (gI (g1 i))] := by
    intro i hi
    rcases y1 with ⟨hm, _⟩ | ⟨xs, _, _, hl, hx⟩
    · omega
    · obtain ⟨z, f1, _, _⟩ := hx i (xs[i]'(by omega)) (by simp)
      rw [f1]; rfl
  have hz : m1 ≤ 1152921504606846976 := by
    rcases y1 with ⟨hm, _⟩ | ⟨xs, sp, hd, hl, _⟩
    · omega
    · have := sized_slice hsz (j := 1) rfl (by rw [v0, v1, hd]; rfl) Try.underlying46
      have h8 : Try.prog.bytesOf 3 = 8 := by kernel_rfl
      rw [h8, hl] at this
      have := reachBytes_lt
      omega
  exact fcSpanClimbs _ _ _ _ rfl ⟨⟨b0, p0⟩, ⟨b1, p1⟩, hz⟩
set_option maxRecDepth 100000 in
theorem liftedSpanClimbs (os : Os) (started : os.Started) (H : Type) (enc : TypeId × Value → H) :
    ReturnsInHanded {} Try.checked os 7 .any (Rows.spanClimbsSpec.pre6 enc Try.prog Try.f7 Rows.spanClimbsRow.domain false) (Rows.spanClimbsSpec.post enc Try.prog Try.f7 false true false false) := by
  refine returnsInHanded_of_change_sized (C := Try.checked) ownSpanClimbs started (by kernel_rfl) Try.func7
    (ChangeSpec.witness6 (enc := enc) (C := Try.checked) false ⟨#[], #[.slice none 0 0, .slice none 0 0], []⟩ 8 (by kernel_rfl) (by kernel_rfl) (by kernel_rfl) (by kernel_rfl)) ?_
  intro W base args ds gs before hval hW _ hsz _
  exact contractSpanClimbs H enc W base args ds gs before hval hW hsz
theorem provedSpanClimbs : Rows.SpanClimbsSaid :=
  OpenClaim.holds_of_wide 7 Try.f7 rfl rfl rfl rfl rfl rfl rfl ⟨rfl, rfl, rfl, rfl, rfl⟩ rfl rfl rfl rfl rfl (by kernel_rfl) Try.func7 (by kernel_rfl)
    (of_decide_eq_true (by kernel_rfl)) (by unfold Func.isWrapper; first | (rw [if_pos (by decide +kernel)]; kernel_rfl) | (rw [if_neg (by decide +kernel)]; exact ⟨rfl, rfl⟩))
    (fun os started H enc _ => liftedSpanClimbs os started H enc)
end Go.Proofs.Ytoejfnghpeiabaa
