/- The statement on ValueReduces: from what its function computes. -/
import Derived.Test.YtbfinmfdcbghfaaRows
import Derived.SizedLaws
import Derived.Test.YtbfinmfdcbghfaaValueReduces
namespace Go.Proofs.Ytbfinmfdcbghfaa
set_option linter.all false
open Go.Sx Go.ChangeShapes Go.WideShapes Go.RowKit
theorem rowI {i : Int} (h : (Lit.int .i64 i).wf = true) : -9223372036854775808 ≤ i ∧ i < 9223372036854775808 := by
  have h : (decide (-9223372036854775808 ≤ i) && decide (i ≤ 9223372036854775807)) = true := h
  simp at h; omega
theorem ownValueReduces : ownKnob Try.prog.godebug = none := by kernel_rfl
set_option maxRecDepth 100000 in
theorem specValueReduces : ∀ (H : Type) (ds : List (DataW H)), ds.length = Try.f3.params.size → (Rows.valueReducesSpec.fn H (ds ++ [])).results = [.lit (.bool true)] ∧ (Rows.valueReducesSpec.fn H (ds ++ [])).args = ds ∧ (Rows.valueReducesSpec.fn H (ds ++ [])).vars = [] := by
  intro H ds h
  have h : ds.length = 2 := h
  match ds, h with
  | [d0, d1], _ => exact ⟨rfl, rfl, rfl⟩
set_option maxRecDepth 100000 in
theorem contractValueReduces (H : Type) (enc : TypeId × Value → H) (W : World) (base : Nat) (args : Array Value) (ds gs : List (DataW H)) (before : List MemPlace)
    (hval : ∀ (j : Nat) t v, Try.f3.params[j]? = some t → args[j]? = some v → Value.okWide Try.prog W .any base t v)
    (hW : DataW.Whole enc Try.prog Try.f3.params.toList Rows.valueReducesSpec.vars false W args.toList ds gs before) (hsz : (DataW.weightsEach Try.prog (Try.f3.params.toList ++ Rows.valueReducesSpec.plain.varTypes Try.prog) (ds ++ gs)).all (· ≤ reachBytes) = true) :
    Calls Try.prog 3 args W fun e W' => ∃ v, e = .returned v ∧ Rows.valueReducesSpec.post enc Try.prog Try.f3 false true false false W args v W' := by
  refine law_post (TT.tysOk tys_ok) (by kernel_rfl) (ts0 := [3, 4, 9, 23, 25, 26, 28, 30]) (by kernel_rfl) (tb := 4) (by kernel_rfl) (by kernel_rfl) rfl (by kernel_rfl) rfl specValueReduces (callable_of Try.func3 rfl rfl) ?_ hval hW
  intro n vs h
  have h := rdArs_le (Nat.le_add_right n 12) h
  obtain ⟨_, _, _, _, rfl, rfl, ⟨_, rfl, ⟨_, rfl, ⟨_, _, _, _, rfl, rfl, ⟨_, rfl, ⟨_, _, _, _, rfl, rfl, ⟨b_1, rfl, rfl⟩, ⟨_, _, _, _, rfl, rfl, ⟨n_2, rfl, wn_2, rfl⟩, ⟨_, _, _, _, rfl, rfl, ⟨n_3, rfl, wn_3, rfl⟩, ⟨rfl, rfl⟩⟩⟩⟩⟩, ⟨_, _, _, _, rfl, rfl, ⟨_, rfl, ⟨_, _, _, _, rfl, rfl, ⟨b_4, rfl, rfl⟩, ⟨_, _, _, _, rfl, rfl, ⟨n_5, rfl, wn_5, rfl⟩, ⟨_, _, _, _, rfl, rfl, ⟨n_6, rfl, wn_6, rfl⟩, ⟨rfl, rfl⟩⟩⟩⟩⟩, ⟨_, _, _, _, rfl, rfl, ⟨_, rfl, ⟨_, _, _, _, rfl, rfl, ⟨b_7, rfl, rfl⟩, ⟨_, _, _, _, rfl, rfl, ⟨sz_8, m_8, f_8, rfl, q_8, _, y_8⟩, ⟨rfl, rfl⟩⟩⟩⟩, ⟨rfl, rfl⟩⟩⟩⟩⟩⟩, ⟨_, _, _, _, rfl, rfl, ⟨_, rfl, ⟨n_9, e_10, wn_9, rfl⟩⟩, ⟨rfl, rfl⟩⟩⟩ := h
  cases e_10
  have wn_2 := rowI wn_2
  have wn_3 := rowI wn_3
  have wn_5 := rowI wn_5
  have wn_6 := rowI wn_6
  have q_8 : sz_8 = 1 := q_8; subst q_8
  have wn_9 := rowI wn_9
  have hp_8 : ∀ i, i < m_8 → f_8 i = [st (gT (f_8 i))] := by
    intro i hi
    rcases y_8 with ⟨hm, _⟩ | ⟨xs, _, _, hl, hx⟩
    · omega
    · obtain ⟨z, f1, _, _⟩ := hx i (xs[i]'(by omega)) (by simp)
      rw [f1]; rfl
  have hr_8 : m_8 * 16 ≤ 140737488351232 := by
    rcases y_8 with ⟨hm, rfl⟩ | ⟨xs, sp, rfl, hl, _⟩
    · omega
    · have h1 := List.all_eq_true.1 hsz ((xs.length + sp.length) * Try.prog.bytesOf 9) (DataW.weights_mem_each (j := 0) (t := 30) rfl rfl _ (by simp [DataW.weights, DataW.weightsEach, Try.underlying30, Try.underlying28, Try.underlying26]))
      have h2 : (xs.length + sp.length) * Try.prog.bytesOf 9 ≤ reachBytes := by simpa using h1
      have h4 : reachBytes = 140737488351232 := by decide
      have h3 : Try.prog.bytesOf 9 = 16 := by kernel_rfl
      rw [h3, h4] at h2
      omega
  exact fcValueReduces _ _ _ _ rfl ⟨⟨⟨hr_8, hp_8⟩, ⟨wn_2, wn_3⟩, ⟨wn_5, wn_6⟩⟩, wn_9⟩
  -- hsz
set_option maxRecDepth 100000 in
theorem liftedValueReduces (os : Os) (started : os.Started) (H : Type) (enc : TypeId × Value → H) :
    ReturnsInHanded {} Try.checked os 3 .any (Rows.valueReducesSpec.pre6 enc Try.prog Try.f3 Rows.valueReducesRow.domain false) (Rows.valueReducesSpec.post enc Try.prog Try.f3 false true false false) := by
  refine returnsInHanded_of_change_sized (C := Try.checked) ownValueReduces started (by kernel_rfl) Try.func3
    (ChangeSpec.witness6 (enc := enc) (C := Try.checked) false ⟨#[], #[.agg #[.bool false, .int .i64 0, .int .i64 0, .bool false, .int .i64 0, .int .i64 0, .bool false, .slice none 0 0], .int .i64 0], []⟩ 8 (by kernel_rfl) (by kernel_rfl) (by kernel_rfl) (by kernel_rfl)) ?_
  intro W base args ds gs before hval hW _ hsz _
  exact contractValueReduces H enc W base args ds gs before hval hW hsz
theorem provedValueReduces : Rows.ValueReducesSaid :=
  OpenClaim.holds_of_wide 3 Try.f3 rfl rfl rfl rfl rfl rfl rfl ⟨rfl, rfl, rfl, rfl, rfl⟩ rfl rfl rfl rfl rfl (by kernel_rfl) Try.func3 (by kernel_rfl)
    (of_decide_eq_true (by kernel_rfl)) (by unfold Func.isWrapper; first | (rw [if_pos (by decide +kernel)]; kernel_rfl) | (rw [if_neg (by decide +kernel)]; exact ⟨rfl, rfl⟩))
    (fun os started H enc _ => liftedValueReduces os started H enc)
end Go.Proofs.Ytbfinmfdcbghfaa
