/- The statement on GaugeOrder: from what its function computes. -/
import Derived.Test.YtdjkcdgngdbdjaaRows
import Derived.SizedLaws
import Derived.Test.YtdjkcdgngdbdjaaG4
namespace Go.Proofs.Ytdjkcdgngdbdjaa
set_option linter.all false
open Go.Sx Go.ChangeShapes Go.WideShapes Go.RowKit
theorem rowI {i : Int} (h : (Lit.int .i64 i).wf = true) : -9223372036854775808 ≤ i ∧ i < 9223372036854775808 := by
  have h : (decide (-9223372036854775808 ≤ i) && decide (i ≤ 9223372036854775807)) = true := h
  simp at h; omega
theorem ownGaugeOrder : ownKnob Try.prog.godebug = none := by kernel_rfl
set_option maxRecDepth 100000 in
theorem specGaugeOrder : ∀ (H : Type) (ds : List (DataW H)), ds.length = Try.f4.params.size → (Rows.gaugeOrderSpec.fn H (ds ++ [])).results = [.lit (.bool true)] ∧ (Rows.gaugeOrderSpec.fn H (ds ++ [])).args = ds ∧ (Rows.gaugeOrderSpec.fn H (ds ++ [])).vars = [] := by
  intro H ds h
  have h : ds.length = 2 := h
  match ds, h with
  | [d0, d1], _ => exact ⟨rfl, rfl, rfl⟩
set_option maxRecDepth 100000 in
theorem contractGaugeOrder (H : Type) (enc : TypeId × Value → H) (W : World) (base : Nat) (args : Array Value) (ds gs : List (DataW H)) (before : List MemPlace)
    (hval : ∀ (j : Nat) t v, Try.f4.params[j]? = some t → args[j]? = some v → Value.okWide Try.prog W .any base t v)
    (hW : DataW.Whole enc Try.prog Try.f4.params.toList Rows.gaugeOrderSpec.vars false W args.toList ds gs before) (hsz : (DataW.weightsEach Try.prog (Try.f4.params.toList ++ Rows.gaugeOrderSpec.plain.varTypes Try.prog) (ds ++ gs)).all (· ≤ reachBytes) = true) :
    Calls Try.prog 4 args W fun e W' => ∃ v, e = .returned v ∧ Rows.gaugeOrderSpec.post enc Try.prog Try.f4 false true false false W args v W' := by
  refine law_post (TT.tysOk tys_ok) (by kernel_rfl) (ts0 := [3, 4, 22, 26]) (by kernel_rfl) (tb := 4) (by kernel_rfl) (by kernel_rfl) rfl (by kernel_rfl) rfl specGaugeOrder (callable_of Try.func4 rfl rfl) ?_ hval hW
  intro n vs h
  have h := rdArs_le (Nat.le_add_right n 12) h
  obtain ⟨_, _, _, _, rfl, rfl, ⟨_, rfl, ⟨sz_1, m_1, f_1, e_2, q_1, lm_1, y_1⟩⟩, ⟨_, _, _, _, rfl, rfl, ⟨_, rfl, ⟨sz_3, m_3, f_3, e_4, q_3, lm_3, y_3⟩⟩, ⟨rfl, rfl⟩⟩⟩ := h
  cases e_4
  cases e_2
  have q_1 : sz_1 = 3 := q_1; subst q_1
  have q_3 : sz_3 = 3 := q_3; subst q_3
  have hp_1 : ∀ i, i < m_1 → f_1 i = stp (f_1 i) ∧ stpR (f_1 i) := by
    intro i hi
    rcases y_1 with ⟨hm, _⟩ | ⟨xs, _, _, hl, hx⟩
    · omega
    · obtain ⟨ys, _, c1, c2, x, xs', e1, e2, ⟨i1, e3, w1, _⟩, c3, c4, x2, xs2, e4, e5, ⟨i2, e6, w2, _⟩, c5, c6, x3, xs3, e7, e8, ⟨b, e9, _⟩, e10, e11⟩ := hx i (xs[i]'(by omega)) (by simp)
      subst e10 e9 e7 e6 e4 e3
      rw [e1]
      exact ⟨rfl, rowI w1, rowI w2⟩
  have hl_1 : m_1 ≤ 9223372036854775807 := Nat.le_trans lm_1 (by decide)
  have hp_3 : ∀ i, i < m_3 → f_3 i = stp (f_3 i) ∧ stpR (f_3 i) := by
    intro i hi
    rcases y_3 with ⟨hm, _⟩ | ⟨xs, _, _, hl, hx⟩
    · omega
    · obtain ⟨ys, _, c1, c2, x, xs', e1, e2, ⟨i1, e3, w1, _⟩, c3, c4, x2, xs2, e4, e5, ⟨i2, e6, w2, _⟩, c5, c6, x3, xs3, e7, e8, ⟨b, e9, _⟩, e10, e11⟩ := hx i (xs[i]'(by omega)) (by simp)
      subst e10 e9 e7 e6 e4 e3
      rw [e1]
      exact ⟨rfl, rowI w1, rowI w2⟩
  have hl_3 : m_3 ≤ 9223372036854775807 := Nat.le_trans lm_3 (by decide)
  exact fcGOrder _ _ _ _ rfl ⟨⟨hl_1, hp_1⟩, hl_3, hp_3⟩
  -- hsz
set_option maxRecDepth 100000 in
theorem liftedGaugeOrder (os : Os) (started : os.Started) (H : Type) (enc : TypeId × Value → H) :
    ReturnsInHanded {} Try.checked os 4 .any (Rows.gaugeOrderSpec.pre6 enc Try.prog Try.f4 Rows.gaugeOrderRow.domain false) (Rows.gaugeOrderSpec.post enc Try.prog Try.f4 false true false false) := by
  refine returnsInHanded_of_change_sized (C := Try.checked) ownGaugeOrder started (by kernel_rfl) Try.func4
    (ChangeSpec.witness6 (enc := enc) (C := Try.checked) false ⟨#[], #[.slice none 0 0, .slice none 0 0], []⟩ 8 (by kernel_rfl) (by kernel_rfl) (by kernel_rfl) (by kernel_rfl)) ?_
  intro W base args ds gs before hval hW _ hsz _
  exact contractGaugeOrder H enc W base args ds gs before hval hW hsz
theorem provedGaugeOrder : Rows.GaugeOrderSaid :=
  OpenClaim.holds_of_wide 4 Try.f4 rfl rfl rfl rfl rfl rfl rfl ⟨rfl, rfl, rfl, rfl, rfl⟩ rfl rfl rfl rfl rfl (by kernel_rfl) Try.func4 (by kernel_rfl)
    (of_decide_eq_true (by kernel_rfl)) (by unfold Func.isWrapper; first | (rw [if_pos (by decide +kernel)]; kernel_rfl) | (rw [if_neg (by decide +kernel)]; exact ⟨rfl, rfl⟩))
    (fun os started H enc _ => liftedGaugeOrder os started H enc)
end Go.Proofs.Ytdjkcdgngdbdjaa
