/- The statement on OrderBack (its card): from what its function computes; what the listed variables hold is given by the row. Condition: the row's own. -/
import Derived.Test.YtakcacejpbiogaaDoorOrd9
import Derived.Test.YtakcacejpbiogaaDoorKeyW
import Derived.Lay
namespace Go.Proofs.YtakcacejpbiogaaDoor
set_option linter.all false
open Go.Sx Go.ChangeShapes Go.WideShapes Go.RowKit
theorem rowI {i : Int} (h : (Lit.int .i64 i).wf = true) : -9223372036854775808 ≤ i ∧ i < 9223372036854775808 := by
  have h : (decide (-9223372036854775808 ≤ i) && decide (i ≤ 9223372036854775807)) = true := h
  simp at h; omega
theorem bulk_pos {H : Type} (d : DataW H) : 1 ≤ Rows.uptoBulk d := by
  cases d with
  | lit l => cases l <;> simp [Rows.uptoBulk]
  | _ => simp [Rows.uptoBulk]
theorem bulk_len {H : Type} : ∀ (l : List (DataW H)), l.length ≤ Rows.uptoBulkAll l
  | [] => Nat.zero_le _
  | d :: l => by
    have h1 := bulk_pos d
    have h2 := bulk_len l
    simp only [Rows.uptoBulkAll, List.length_cons]; omega
set_option maxRecDepth 100000 in
theorem open_by {H : Type} {n : Nat} {a : Ar} {d : DataW H} (h : RdAr (TT.get ((.node (.node (.node (.node (.node (.node (.node (.leaf 128 Tryd.t128 Tryd.t127 false) (.leaf 64 Tryd.t64 Tryd.t64 false)) (.node (.node (.leaf 32 Tryd.t32 Tryd.t32 false) (.leaf 160 Tryd.t160 Tryd.t160 false)) (.leaf 96 Tryd.t96 Tryd.t96 false))) (.node (.node (.node (.leaf 16 Tryd.t16 Tryd.t16 false) (.leaf 144 Tryd.t144 Tryd.t143 false)) (.leaf 80 Tryd.t80 Tryd.t80 false)) (.leaf 112 Tryd.t112 Tryd.t112 false))) (.node (.node (.node (.node (.leaf 8 Tryd.t8 Tryd.t7 false) (.leaf 136 Tryd.t136 Tryd.t136 false)) (.leaf 72 Tryd.t72 Tryd.t72 false)) (.node (.node (.leaf 40 Tryd.t40 Tryd.t40 false) (.leaf 168 Tryd.t168 Tryd.t5 false)) (.leaf 104 Tryd.t104 Tryd.t104 false))) (.node (.node (.node (.leaf 24 Tryd.t24 Tryd.t24 false) (.leaf 152 Tryd.t152 Tryd.t152 false)) (.leaf 88 Tryd.t88 Tryd.t88 false)) (.node (.leaf 56 Tryd.t56 Tryd.t56 false) (.leaf 120 Tryd.t120 Tryd.t120 false))))) (.node (.node (.node (.node (.node (.leaf 4 Tryd.t4 Tryd.t4 false) (.leaf 132 Tryd.t132 Tryd.t132 false)) (.leaf 68 Tryd.t68 Tryd.t68 false)) (.node (.node (.leaf 36 Tryd.t36 Tryd.t36 false) (.leaf 164 Tryd.t164 Tryd.t164 false)) (.leaf 100 Tryd.t100 Tryd.t100 false))) (.node (.node (.node (.leaf 20 Tryd.t20 Tryd.t20 false) (.leaf 148 Tryd.t148 Tryd.t148 false)) (.leaf 84 Tryd.t84 Tryd.t84 false)) (.node (.leaf 52 Tryd.t52 Tryd.t52 false) (.leaf 116 Tryd.t116 Tryd.t116 false)))) (.node (.node (.node (.leaf 12 Tryd.t12 Tryd.t12 false) (.leaf 76 Tryd.t76 Tryd.t76 false)) (.node (.node (.leaf 44 Tryd.t44 Tryd.t44 false) (.leaf 172 Tryd.t172 Tryd.t21 false)) (.leaf 108 Tryd.t108 Tryd.t108 false))) (.node (.node (.node (.leaf 28 Tryd.t28 Tryd.t28 false) (.leaf 156 Tryd.t156 Tryd.t155 false)) .nil) (.leaf 60 Tryd.t60 Tryd.t60 false))))) (.node (.node (.node (.node (.node (.node (.leaf 2 Tryd.t2 Tryd.t2 false) (.leaf 130 Tryd.t130 Tryd.t130 false)) .nil) (.node (.node (.leaf 34 Tryd.t34 Tryd.t34 false) (.leaf 162 Tryd.t162 Tryd.t162 false)) (.leaf 98 Tryd.t98 Tryd.t98 false))) (.node (.node (.node (.leaf 18 Tryd.t18 Tryd.t18 false) (.leaf 146 Tryd.t146 Tryd.t146 false)) (.leaf 82 Tryd.t82 Tryd.t81 false)) (.leaf 114 Tryd.t114 Tryd.t114 false))) (.node (.node (.node (.leaf 10 Tryd.t10 Tryd.t9 false) (.leaf 74 Tryd.t74 Tryd.t74 false)) (.node (.node (.leaf 42 Tryd.t42 Tryd.t42 false) (.leaf 170 Tryd.t170 Tryd.t170 false)) (.leaf 106 Tryd.t106 Tryd.t106 false))) (.node (.node (.node (.leaf 26 Tryd.t26 Tryd.t26 false) (.leaf 154 Tryd.t154 Tryd.t154 false)) (.leaf 90 Tryd.t90 Tryd.t90 false)) (.node (.leaf 58 Tryd.t58 Tryd.t58 false) (.leaf 122 Tryd.t122 Tryd.t122 false))))) (.node (.node (.node (.node (.node (.leaf 6 Tryd.t6 Tryd.t5 false) (.leaf 134 Tryd.t134 Tryd.t134 false)) (.leaf 70 Tryd.t70 Tryd.t69 false)) (.node (.node (.leaf 38 Tryd.t38 Tryd.t38 false) (.leaf 166 Tryd.t166 Tryd.t165 false)) (.leaf 102 Tryd.t102 Tryd.t102 false))) (.node (.node (.node (.leaf 22 Tryd.t22 Tryd.t22 false) (.leaf 150 Tryd.t150 Tryd.t150 false)) (.leaf 86 Tryd.t86 Tryd.t86 false)) (.node (.leaf 54 Tryd.t54 Tryd.t54 false) (.leaf 118 Tryd.t118 Tryd.t3 false)))) (.node (.node (.node (.node (.leaf 14 Tryd.t14 Tryd.t13 false) (.leaf 142 Tryd.t142 Tryd.t142 false)) (.leaf 78 Tryd.t78 Tryd.t78 false)) (.node (.node (.leaf 46 Tryd.t46 Tryd.t46 false) (.leaf 174 Tryd.t174 Tryd.t173 false)) (.leaf 110 Tryd.t110 Tryd.t110 false))) (.node (.node (.node (.leaf 30 Tryd.t30 Tryd.t3 false) (.leaf 158 Tryd.t158 Tryd.t158 false)) (.leaf 94 Tryd.t94 Tryd.t94 false)) (.node (.leaf 62 Tryd.t62 Tryd.t62 false) (.leaf 126 Tryd.t126 Tryd.t126 false))))))) (.node (.node (.node (.node (.node (.node (.leaf 1 Tryd.t1 Tryd.t1 false) (.leaf 65 Tryd.t65 Tryd.t65 false)) (.node (.node (.leaf 33 Tryd.t33 Tryd.t33 false) (.leaf 161 Tryd.t161 Tryd.t161 false)) (.leaf 97 Tryd.t97 Tryd.t97 false))) (.node (.node (.node (.leaf 17 Tryd.t17 Tryd.t17 false) (.leaf 145 Tryd.t145 Tryd.t145 false)) (.leaf 81 Tryd.t81 Tryd.t81 false)) (.leaf 49 Tryd.t49 Tryd.t49 false))) (.node (.node (.node (.node (.leaf 9 Tryd.t9 Tryd.t9 false) (.leaf 137 Tryd.t137 Tryd.t137 false)) (.leaf 73 Tryd.t73 Tryd.t73 false)) (.node (.node (.leaf 41 Tryd.t41 Tryd.t41 false) (.leaf 169 Tryd.t169 Tryd.t5 false)) (.leaf 105 Tryd.t105 Tryd.t105 false))) (.node (.node (.node (.leaf 25 Tryd.t25 Tryd.t25 false) (.leaf 153 Tryd.t153 Tryd.t152 false)) (.leaf 89 Tryd.t89 Tryd.t89 false)) (.node (.leaf 57 Tryd.t57 Tryd.t57 false) (.leaf 121 Tryd.t121 Tryd.t121 false))))) (.node (.node (.node (.node (.node (.leaf 5 Tryd.t5 Tryd.t5 false) (.leaf 133 Tryd.t133 Tryd.t133 false)) (.leaf 69 Tryd.t69 Tryd.t69 false)) (.node (.node (.leaf 37 Tryd.t37 Tryd.t37 false) (.leaf 165 Tryd.t165 Tryd.t165 false)) (.leaf 101 Tryd.t101 Tryd.t101 false))) (.node (.node (.node (.leaf 21 Tryd.t21 Tryd.t21 false) (.leaf 149 Tryd.t149 Tryd.t149 false)) (.leaf 85 Tryd.t85 Tryd.t85 false)) (.node (.leaf 53 Tryd.t53 Tryd.t53 false) (.leaf 117 Tryd.t117 Tryd.t117 false)))) (.node (.node (.node (.node (.leaf 13 Tryd.t13 Tryd.t13 false) (.leaf 141 Tryd.t141 Tryd.t141 false)) (.leaf 77 Tryd.t77 Tryd.t77 false)) (.node (.node (.leaf 45 Tryd.t45 Tryd.t45 false) (.leaf 173 Tryd.t173 Tryd.t173 false)) (.leaf 109 Tryd.t109 Tryd.t109 false))) (.node (.node (.node (.leaf 29 Tryd.t29 Tryd.t29 false) (.leaf 157 Tryd.t157 Tryd.t157 false)) (.leaf 93 Tryd.t93 Tryd.t93 false)) (.leaf 125 Tryd.t125 Tryd.t125 false))))) (.node (.node (.node (.node (.node (.node (.leaf 3 Tryd.t3 Tryd.t3 false) (.leaf 131 Tryd.t131 Tryd.t131 false)) (.leaf 67 Tryd.t67 Tryd.t67 false)) (.node (.leaf 163 Tryd.t163 Tryd.t162 false) (.leaf 99 Tryd.t99 Tryd.t99 false))) (.node (.node (.node (.leaf 19 Tryd.t19 Tryd.t18 false) (.leaf 147 Tryd.t147 Tryd.t147 false)) (.leaf 83 Tryd.t83 Tryd.t83 false)) (.node (.leaf 51 Tryd.t51 Tryd.t51 false) (.leaf 115 Tryd.t115 Tryd.t115 false)))) (.node (.node (.node (.node (.leaf 11 Tryd.t11 Tryd.t9 false) (.leaf 139 Tryd.t139 Tryd.t139 false)) (.leaf 75 Tryd.t75 Tryd.t75 false)) (.node (.node (.leaf 43 Tryd.t43 Tryd.t43 false) (.leaf 171 Tryd.t171 Tryd.t21 false)) (.leaf 107 Tryd.t107 Tryd.t107 false))) (.node (.node (.node (.leaf 27 Tryd.t27 Tryd.t27 false) (.leaf 155 Tryd.t155 Tryd.t155 false)) (.leaf 91 Tryd.t91 Tryd.t90 false)) (.node (.leaf 59 Tryd.t59 Tryd.t59 false) (.leaf 123 Tryd.t123 Tryd.t123 false))))) (.node (.node (.node (.node (.node (.leaf 7 Tryd.t7 Tryd.t7 false) (.leaf 135 Tryd.t135 Tryd.t135 false)) (.leaf 71 Tryd.t71 Tryd.t71 false)) (.node (.node (.leaf 39 Tryd.t39 Tryd.t39 false) (.leaf 167 Tryd.t167 Tryd.t167 false)) (.leaf 103 Tryd.t103 Tryd.t103 false))) (.node (.node (.node (.leaf 23 Tryd.t23 Tryd.t22 true) (.leaf 151 Tryd.t151 Tryd.t151 false)) (.leaf 87 Tryd.t87 Tryd.t87 false)) (.leaf 55 Tryd.t55 Tryd.t55 false))) (.node (.node (.node (.node (.leaf 15 Tryd.t15 Tryd.t15 false) (.leaf 143 Tryd.t143 Tryd.t143 false)) (.leaf 79 Tryd.t79 Tryd.t79 false)) (.node (.node (.leaf 47 Tryd.t47 Tryd.t46 true) (.leaf 175 Tryd.t175 Tryd.t175 false)) (.leaf 111 Tryd.t111 Tryd.t111 false))) (.node (.leaf 159 Tryd.t159 Tryd.t159 false) (.leaf 127 Tryd.t127 Tryd.t127 false))))))))) (n + 12) 45 a d) : ∃ k f, a = .c (.d (.lst 1 k f)) ∧ (∀ i, i < k → f i = [.v (.int .u8 (bI (f i)))]) ∧ k ≤ Rows.uptoBulk d := by
  obtain ⟨_, rfl, ⟨sz_1, m_1, f_1, e0, q_1, lm_1, y_1⟩⟩ := h
  cases e0
  have q_1 : sz_1 = 1 := q_1; subst q_1
  refine ⟨_, _, rfl, fun i hi => ?_, ?_⟩
  · rcases y_1 with ⟨hm, _⟩ | ⟨xs, _, _, hl, hx⟩
    · omega
    · obtain ⟨z, f1, w1, _⟩ := hx i (xs[i]'(by omega)) (by simp)
      rw [f1]; rfl
  · rcases y_1 with ⟨hm, rfl⟩ | ⟨xs, sp, rfl, hl, hx⟩
    · subst hm; exact Nat.zero_le _
    · have := bulk_len xs
      simp only [Rows.uptoBulk]; omega
theorem laidMetH_plain (P : Program) (l : List (String × DataW Unit)) (w : World) (h : (l.filter fun x => x.2.handleName?.isSome) = []) : laidMetH P l w = laidMet P l w := by
  unfold laidMetH; rw [h]
/-- the listed variables, laid -/
noncomputable def layWOrderBack (os : Os) : World := World.laidAll Tryd.prog os Rows.orderBackUptoRow.laid
set_option maxRecDepth 100000 in
theorem specOrderBack : ∀ (H : Type) (ds : List (DataW H)), ds.length = Tryd.f9.params.size → (Rows.orderBackSpec.fn H (ds ++ [])).results = [.lit (.bool true)] ∧ (Rows.orderBackSpec.fn H (ds ++ [])).args = ds ∧ (Rows.orderBackSpec.fn H (ds ++ [])).vars = [] := by
  intro H ds h
  have h : ds.length = 1 := h
  match ds, h with
  | [d0], _ => exact ⟨rfl, rfl, rfl⟩
set_option maxRecDepth 100000 in
theorem contractOrderBack (H : Type) (enc : TypeId × Value → H) (W : World) (base : Nat) (args : Array Value) (ds gs : List (DataW H)) (before : List MemPlace)
    (hval : ∀ (j : Nat) t v, Tryd.f9.params[j]? = some t → args[j]? = some v → Value.okWide Tryd.prog W .any base t v)
    (hW : DataW.Whole enc Tryd.prog Tryd.f9.params.toList Rows.orderBackSpec.vars false W args.toList ds gs before) (hk : Rows.uptoSmall H (ds ++ gs) = true) (hL : laidMetH Tryd.prog Rows.orderBackUptoRow.laid W) (hsh : W.ShapedOpen Tryd.prog) :
    Calls Tryd.prog 9 args W fun e W' => ∃ v, e = .returned v ∧ Rows.orderBackSpec.post enc Tryd.prog Tryd.f9 false true false false W args v W' := by
  have hL2 : laidMet Tryd.prog Rows.orderBackUptoRow.laid W := by rw [laidMetH_plain _ _ _ (by kernel_rfl)] at hL; exact hL
  refine law_post (TT.tysOk tys_ok) (by kernel_rfl) (ts0 := [3, 4, 5, 45]) (by kernel_rfl) (tb := 4) (by kernel_rfl) (by kernel_rfl) rfl (by kernel_rfl) rfl specOrderBack (gInv_of hL2 hsh (by simp [Rows.orderBackUptoRow]) (by simp [Rows.orderBackUptoRow]) (by simp [Rows.orderBackUptoRow])) (callable_of Tryd.func9 rfl rfl) ?_ hval hW
  intro n vs h
  have h := rdArs_le (Nat.le_add_right n 12) h
  obtain ⟨a0, as0, d0, ds0, ea0, ed0, h0, ⟨rfl, rfl⟩⟩ := h
  subst ed0
  subst ea0
  obtain ⟨k0, f0, ar0, pf0, pz0⟩ := open_by h0
  subst ar0
  have hk := of_decide_eq_true hk
  simp only [List.cons_append, List.nil_append, Rows.uptoBulkAll] at hk
  exact fcOBack _ _ _ _ rfl ⟨⟨by omega, pf0⟩, by omega⟩
set_option maxRecDepth 100000 in
theorem readsOrderBack (os : Os) {H : Type} (enc : TypeId × Value → H) : ∃ places, DataW.whole enc Tryd.prog ((layWOrderBack os).forCall (fun _ _ => 0) ⟨#[], #[.slice none 0 0], []⟩).memory Tryd.f9.params.toList Rows.orderBackSpec.vars false (#[.slice none 0 0] : Array Value).toList 8 = some ([.nil], [], places) := ⟨[], by kernel_rfl⟩
theorem metOrderBack (os : Os) : laidMetH Tryd.prog Rows.orderBackUptoRow.laid ((layWOrderBack os).forCall (fun _ _ => 0) ⟨#[], #[.slice none 0 0], []⟩).memory := by
  rw [laidMetH_plain _ _ _ (by kernel_rfl)]; exact laidMet_laidAll _ (by kernel_rfl) (by kernel_rfl)
set_option maxRecDepth 100000 in
theorem liftedOrderBack (os : Os) (started : os.Started) (H : Type) (enc : TypeId × Value → H) (F : Stop.Interp) :
    ReturnsInHanded {} Tryd.checked os 9 .any ((Rows.OpenSpec.upto Rows.orderBackSpec).preRow enc Tryd.prog Tryd.f9 Rows.orderBackUptoRow.domain false Rows.orderBackUptoRow.laid) (((Rows.OpenSpec.upto Rows.orderBackSpec).at F).post enc Tryd.prog Tryd.f9 false true false false) := by
  obtain ⟨places, hx⟩ := readsOrderBack os enc
  refine returnsInHanded_of_row (C := Tryd.checked) (s := (Rows.OpenSpec.upto Rows.orderBackSpec)) ownKey started (by kernel_rfl) Tryd.func9
    (witness_row_atRef (enc := enc) (C := Tryd.checked) false (layWOrderBack os) #[.slice none 0 0] (World.laidAll_os _ _ _) (by kernel_rfl) (by kernel_rfl) (by kernel_rfl)
      (OpenSpec.preRow_of_cond 8 hx (by kernel_rfl) (fun k hk => by cases hk; kernel_rfl) (by kernel_rfl) (metOrderBack os))) ?_
  intro W base args ds gs before hval hW _ hk _ hL hsh _
  exact contractOrderBack H enc W base args ds gs before hval hW (hk _ rfl) hL hsh
theorem saidOrderBack : Rows.OrderBackUptoSaid :=
  OpenClaim.holds_of_cond 9 Tryd.f9 rfl rfl rfl rfl rfl rfl rfl ⟨rfl, rfl, rfl, rfl, rfl⟩ rfl rfl rfl rfl rfl (by kernel_rfl) Tryd.func9 (by kernel_rfl)
    (of_decide_eq_true (by kernel_rfl)) (by unfold Func.isWrapper; first | (rw [if_pos (by decide +kernel)]; kernel_rfl) | (rw [if_neg (by decide +kernel)]; exact ⟨rfl, rfl⟩))
    (fun os started H enc _ F => by rw [OpenClaim.pre_eq_preRow]; exact liftedOrderBack os started H enc F)
theorem plainOrderBack (f : FuncId) (fn : Func) (hf : Tryd.pinned.checked.prog.funcNamed "sondage/sondagelaw37.OrderBack" = some f) (hfn : Tryd.pinned.checked.prog.funcs[f]? = some fn) :
    true = Tryd.pinned.checked.prog.looks [] ∧ ∀ (j : Nat) t, fn.params[j]? = some t → Tryd.pinned.checked.prog.wantsStandIn t = false := by
  obtain rfl : f = 9 := Option.some.inj ((show Tryd.prog.funcNamed "sondage/sondagelaw37.OrderBack" = some 9 by kernel_rfl).symm.trans hf) |>.symm
  obtain rfl : fn = Tryd.f9 := (Option.some.inj (Tryd.func9.symm.trans hfn)).symm
  refine ⟨by kernel_rfl, fun j t ht => ?_⟩
  have hall : (Tryd.f9.params.toList.all fun u => !Tryd.prog.wantsStandIn u) = true := by kernel_rfl
  have hm : t ∈ Tryd.f9.params.toList := by have := Array.mem_of_getElem? ht; simpa using this
  exact (show Tryd.prog.wantsStandIn t = false by simpa using List.all_eq_true.1 hall t hm)
theorem provedOrderBack : Rows.OrderBackUptoCardSaid :=
  Claim7.holds_tied_plain_at .later [] _ _ _ _ saidOrderBack (fun _ h => by cases h) (by kernel_rfl) (fun _ h => by cases h) orderBackUpto_row_tie rfl ⟨rfl, rfl⟩ (by kernel_rfl) rfl plainOrderBack (by kernel_rfl)
end Go.Proofs.YtakcacejpbiogaaDoor
