/- The statement on GaugeNone: from what its function computes. -/
import Derived.Test.YtdjkcdgngdbdjaaRows
import Derived.SizedLaws
import Derived.Test.YtdjkcdgngdbdjaaG2
namespace Go.Proofs.Ytdjkcdgngdbdjaa
set_option linter.all false
open Go.Sx Go.ChangeShapes Go.WideShapes Go.RowKit
theorem rowI {i : Int} (h : (Lit.int .i64 i).wf = true) : -9223372036854775808 ≤ i ∧ i < 9223372036854775808 := by
  have h : (decide (-9223372036854775808 ≤ i) && decide (i ≤ 9223372036854775807)) = true := h
  simp at h; omega
theorem ownGaugeNone : ownKnob Try.prog.godebug = none := by kernel_rfl
set_option maxRecDepth 100000 in
theorem specGaugeNone : ∀ (H : Type) (ds : List (DataW H)), ds.length = Try.f5.params.size → (Rows.gaugeNoneSpec.fn H (ds ++ [])).results = [.lit (.bool true)] ∧ (Rows.gaugeNoneSpec.fn H (ds ++ [])).args = ds ∧ (Rows.gaugeNoneSpec.fn H (ds ++ [])).vars = [] := by
  intro H ds h
  have h : ds.length = 2 := h
  match ds, h with
  | [d0, d1], _ => exact ⟨rfl, rfl, rfl⟩
set_option maxRecDepth 100000 in
theorem contractGaugeNone (H : Type) (enc : TypeId × Value → H) (W : World) (base : Nat) (args : Array Value) (ds gs : List (DataW H)) (before : List MemPlace)
    (hval : ∀ (j : Nat) t v, Try.f5.params[j]? = some t → args[j]? = some v → Value.okWide Try.prog W .any base t v)
    (hW : DataW.Whole enc Try.prog Try.f5.params.toList Rows.gaugeNoneSpec.vars false W args.toList ds gs before) (hsz : (DataW.weightsEach Try.prog (Try.f5.params.toList ++ Rows.gaugeNoneSpec.plain.varTypes Try.prog) (ds ++ gs)).all (· ≤ reachBytes) = true) :
    Calls Try.prog 5 args W fun e W' => ∃ v, e = .returned v ∧ Rows.gaugeNoneSpec.post enc Try.prog Try.f5 false true false false W args v W' := by
  refine law_post (TT.tysOk tys_ok) (by kernel_rfl) (ts0 := [3, 4, 22, 26]) (by kernel_rfl) (tb := 4) (by kernel_rfl) (by kernel_rfl) rfl (by kernel_rfl) rfl specGaugeNone (callable_of Try.func5 rfl rfl) ?_ hval hW
  intro n vs h
  have h := rdArs_le (Nat.le_add_right n 12) h
  obtain ⟨_, _, _, _, rfl, rfl, ⟨_, rfl, ⟨n_1, e_2, wn_1, rfl⟩⟩, ⟨_, _, _, _, rfl, rfl, ⟨_, rfl, ⟨n_3, e_4, wn_3, rfl⟩⟩, ⟨rfl, rfl⟩⟩⟩ := h
  cases e_4
  cases e_2
  have wn_1 := rowI wn_1
  have wn_3 := rowI wn_3
  exact fcGNone _ _ _ _ rfl ⟨wn_1, wn_3⟩
  -- hsz
set_option maxRecDepth 100000 in
theorem liftedGaugeNone (os : Os) (started : os.Started) (H : Type) (enc : TypeId × Value → H) :
    ReturnsInHanded {} Try.checked os 5 .any (Rows.gaugeNoneSpec.pre6 enc Try.prog Try.f5 Rows.gaugeNoneRow.domain false) (Rows.gaugeNoneSpec.post enc Try.prog Try.f5 false true false false) := by
  refine returnsInHanded_of_change_sized (C := Try.checked) ownGaugeNone started (by kernel_rfl) Try.func5
    (ChangeSpec.witness6 (enc := enc) (C := Try.checked) false ⟨#[], #[.int .i64 0, .int .i64 0], []⟩ 8 (by kernel_rfl) (by kernel_rfl) (by kernel_rfl) (by kernel_rfl)) ?_
  intro W base args ds gs before hval hW _ hsz _
  exact contractGaugeNone H enc W base args ds gs before hval hW hsz
theorem provedGaugeNone : Rows.GaugeNoneSaid :=
  OpenClaim.holds_of_wide 5 Try.f5 rfl rfl rfl rfl rfl rfl rfl ⟨rfl, rfl, rfl, rfl, rfl⟩ rfl rfl rfl rfl rfl (by kernel_rfl) Try.func5 (by kernel_rfl)
    (of_decide_eq_true (by kernel_rfl)) (by unfold Func.isWrapper; first | (rw [if_pos (by decide +kernel)]; kernel_rfl) | (rw [if_neg (by decide +kernel)]; exact ⟨rfl, rfl⟩))
    (fun os started H enc _ => liftedGaugeNone os started H enc)
end Go.Proofs.Ytdjkcdgngdbdjaa
