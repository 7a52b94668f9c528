/- The statement on ReplyOne (its card): from what its function computes; what the listed variables hold is given by the row. Condition: the row's own. -/
import Derived.Test.YtakcacejpbiogaaGreatDoorR14
import Derived.Lay
set_option linter.all false
set_option maxHeartbeats 8000000
set_option maxRecDepth 100000
namespace Go.Proofs.YtakcacejpbiogaaGreatDoor
open Go.Sx Go.ChangeShapes Go.WideShapes Go.RowKit
theorem rowI_One {i : Int} (h : (Lit.int .i64 i).wf = true) : -9223372036854775808 <= i /\ i < 9223372036854775808 := by
 have h : (decide (-9223372036854775808 <= i) && decide (i <= 9223372036854775807)) = true := h
 simp at h; omega
theorem bulk_pos_One {H : Type} (d : DataW H) : 1 <= Rows.uptoBulk d := by
 cases d with
 | lit l => cases l <;> simp [Rows.uptoBulk]
 | _ => simp [Rows.uptoBulk]
theorem bulk_len_One {H : Type} : ∀ (l : List (DataW H)), l.length <= Rows.uptoBulkAll l
 | [] => Nat.zero_le _
 | d :: l => by
   have h1 := bulk_pos_One d
   have h2 := bulk_len_One l
   simp only [Rows.uptoBulkAll, List.length_cons]; omega
theorem open_str_One {H : Type} {n : Nat} {a : Ar} {d : DataW H} (h : RdAr (TT.get ((.node (.node (.node (.node (.node (.node (.node (.leaf 128 Tryz.t128 Tryz.t128 false) (.node (.leaf 64 Tryz.t64 Tryz.t64 false) (.leaf 192 Tryz.t192 Tryz.t192 false))) (.node (.leaf 160 Tryz.t160 Tryz.t159 false) (.leaf 96 Tryz.t96 Tryz.t96 false))) (.node (.node (.node (.leaf 16 Tryz.t16 Tryz.t16 false) (.leaf 144 Tryz.t144 Tryz.t144 false)) (.leaf 80 Tryz.t80 Tryz.t80 false)) (.node (.node (.leaf 48 Tryz.t48 Tryz.t48 false) (.leaf 176 Tryz.t176 Tryz.t176 false)) (.leaf 112 Tryz.t112 Tryz.t112 false)))) (.node (.node (.node (.node (.leaf 8 Tryz.t8 Tryz.t7 false) (.leaf 136 Tryz.t136 Tryz.t136 false)) (.leaf 72 Tryz.t72 Tryz.t72 false)) (.node (.node (.leaf 40 Tryz.t40 Tryz.t40 false) (.leaf 168 Tryz.t168 Tryz.t167 false)) (.leaf 104 Tryz.t104 Tryz.t104 false))) (.node (.leaf 24 Tryz.t24 Tryz.t24 false) (.node (.leaf 184 Tryz.t184 Tryz.t184 false) (.leaf 120 Tryz.t120 Tryz.t120 false))))) (.node (.node (.node (.node (.node (.leaf 4 Tryz.t4 Tryz.t4 false) (.leaf 132 Tryz.t132 Tryz.t132 false)) (.node (.leaf 68 Tryz.t68 Tryz.t68 false) (.leaf 196 Tryz.t196 Tryz.t21 false))) (.node (.node (.leaf 36 Tryz.t36 Tryz.t36 false) (.leaf 164 Tryz.t164 Tryz.t164 false)) (.leaf 100 Tryz.t100 Tryz.t100 false))) (.node (.node (.node (.leaf 20 Tryz.t20 Tryz.t20 false) (.leaf 148 Tryz.t148 Tryz.t148 false)) (.leaf 84 Tryz.t84 Tryz.t83 false)) (.node (.node (.leaf 52 Tryz.t52 Tryz.t52 false) (.leaf 180 Tryz.t180 Tryz.t180 false)) (.leaf 116 Tryz.t116 Tryz.t116 false)))) (.node (.node (.node (.node (.leaf 12 Tryz.t12 Tryz.t12 false) (.leaf 140 Tryz.t140 Tryz.t140 false)) (.leaf 76 Tryz.t76 Tryz.t75 true)) (.node (.node (.leaf 44 Tryz.t44 Tryz.t43 true) (.leaf 172 Tryz.t172 Tryz.t172 false)) (.leaf 108 Tryz.t108 Tryz.t108 false))) (.node (.node (.node (.leaf 28 Tryz.t28 Tryz.t27 false) (.leaf 156 Tryz.t156 Tryz.t155 false)) (.leaf 92 Tryz.t92 Tryz.t92 false)) (.node (.node (.leaf 60 Tryz.t60 Tryz.t60 false) (.leaf 188 Tryz.t188 Tryz.t187 false)) .nil))))) (.node (.node (.node (.node (.node (.node (.leaf 2 Tryz.t2 Tryz.t2 false) (.leaf 130 Tryz.t130 Tryz.t130 false)) (.leaf 194 Tryz.t194 Tryz.t5 false)) (.node (.leaf 162 Tryz.t162 Tryz.t162 false) (.leaf 98 Tryz.t98 Tryz.t98 false))) (.node (.node (.node (.leaf 18 Tryz.t18 Tryz.t18 false) (.leaf 146 Tryz.t146 Tryz.t146 false)) (.leaf 82 Tryz.t82 Tryz.t82 false)) (.node (.node (.leaf 50 Tryz.t50 Tryz.t49 true) (.leaf 178 Tryz.t178 Tryz.t178 false)) (.leaf 114 Tryz.t114 Tryz.t114 false)))) (.node (.node (.node (.node (.leaf 10 Tryz.t10 Tryz.t9 false) (.leaf 138 Tryz.t138 Tryz.t138 false)) (.leaf 74 Tryz.t74 Tryz.t74 false)) (.node (.node (.leaf 42 Tryz.t42 Tryz.t42 false) (.leaf 170 Tryz.t170 Tryz.t3 false)) (.leaf 106 Tryz.t106 Tryz.t106 false))) (.node (.node (.node (.leaf 26 Tryz.t26 Tryz.t26 false) (.leaf 154 Tryz.t154 Tryz.t154 false)) (.leaf 90 Tryz.t90 Tryz.t90 false)) (.node (.node (.leaf 58 Tryz.t58 Tryz.t58 false) (.leaf 186 Tryz.t186 Tryz.t186 false)) (.leaf 122 Tryz.t122 Tryz.t122 false))))) (.node (.node (.node (.node (.node (.leaf 6 Tryz.t6 Tryz.t5 false) (.leaf 134 Tryz.t134 Tryz.t3 false)) (.node (.leaf 70 Tryz.t70 Tryz.t70 false) (.leaf 198 Tryz.t198 Tryz.t198 false))) (.node (.node (.leaf 38 Tryz.t38 Tryz.t38 false) (.leaf 166 Tryz.t166 Tryz.t166 false)) (.leaf 102 Tryz.t102 Tryz.t102 false))) (.node (.node (.node (.leaf 22 Tryz.t22 Tryz.t22 false) (.leaf 150 Tryz.t150 Tryz.t150 false)) (.leaf 86 Tryz.t86 Tryz.t86 false)) (.node (.node (.leaf 54 Tryz.t54 Tryz.t54 false) (.leaf 182 Tryz.t182 Tryz.t182 false)) (.leaf 118 Tryz.t118 Tryz.t118 false)))) (.node (.node (.node (.node (.leaf 14 Tryz.t14 Tryz.t13 false) (.leaf 142 Tryz.t142 Tryz.t142 false)) (.leaf 78 Tryz.t78 Tryz.t77 false)) (.node (.node (.leaf 46 Tryz.t46 Tryz.t45 false) (.leaf 174 Tryz.t174 Tryz.t174 false)) .nil)) (.node (.node (.node (.leaf 30 Tryz.t30 Tryz.t29 false) (.leaf 158 Tryz.t158 Tryz.t158 false)) (.leaf 94 Tryz.t94 Tryz.t94 false)) (.node (.node (.leaf 62 Tryz.t62 Tryz.t62 false) (.leaf 190 Tryz.t190 Tryz.t190 false)) (.leaf 126 Tryz.t126 Tryz.t126 false))))))) (.node (.node (.node (.node (.node (.node (.node (.leaf 1 Tryz.t1 Tryz.t1 false) (.leaf 129 Tryz.t129 Tryz.t129 false)) (.node (.leaf 65 Tryz.t65 Tryz.t65 false) (.leaf 193 Tryz.t193 Tryz.t5 false))) (.node (.node (.leaf 33 Tryz.t33 Tryz.t33 false) (.leaf 161 Tryz.t161 Tryz.t161 false)) (.leaf 97 Tryz.t97 Tryz.t97 false))) (.node (.node (.node (.leaf 17 Tryz.t17 Tryz.t17 false) (.leaf 145 Tryz.t145 Tryz.t145 false)) (.leaf 81 Tryz.t81 Tryz.t81 false)) (.node (.node (.leaf 49 Tryz.t49 Tryz.t49 false) (.leaf 177 Tryz.t177 Tryz.t177 false)) (.leaf 113 Tryz.t113 Tryz.t113 false)))) (.node (.node (.node (.node (.leaf 9 Tryz.t9 Tryz.t9 false) (.leaf 137 Tryz.t137 Tryz.t137 false)) .nil) (.node (.node (.leaf 41 Tryz.t41 Tryz.t41 false) (.leaf 169 Tryz.t169 Tryz.t169 false)) (.leaf 105 Tryz.t105 Tryz.t105 false))) (.node (.node (.node (.leaf 25 Tryz.t25 Tryz.t24 true) (.leaf 153 Tryz.t153 Tryz.t153 false)) (.leaf 89 Tryz.t89 Tryz.t89 false)) (.node (.node (.leaf 57 Tryz.t57 Tryz.t57 false) (.leaf 185 Tryz.t185 Tryz.t185 false)) (.leaf 121 Tryz.t121 Tryz.t121 false))))) (.node (.node (.node (.node (.node (.leaf 5 Tryz.t5 Tryz.t5 false) (.leaf 133 Tryz.t133 Tryz.t133 false)) (.leaf 197 Tryz.t197 Tryz.t21 false)) (.node (.node (.leaf 37 Tryz.t37 Tryz.t37 false) (.leaf 165 Tryz.t165 Tryz.t165 false)) (.leaf 101 Tryz.t101 Tryz.t101 false))) (.node (.node (.leaf 21 Tryz.t21 Tryz.t21 false) (.leaf 85 Tryz.t85 Tryz.t85 false)) (.node (.node (.leaf 53 Tryz.t53 Tryz.t53 false) (.leaf 181 Tryz.t181 Tryz.t181 false)) (.leaf 117 Tryz.t117 Tryz.t117 false)))) (.node (.node (.node (.node (.leaf 13 Tryz.t13 Tryz.t13 false) (.leaf 141 Tryz.t141 Tryz.t141 false)) (.leaf 77 Tryz.t77 Tryz.t77 false)) (.node (.node (.leaf 45 Tryz.t45 Tryz.t45 false) (.leaf 173 Tryz.t173 Tryz.t173 false)) (.leaf 109 Tryz.t109 Tryz.t108 false))) (.node (.node (.node (.leaf 29 Tryz.t29 Tryz.t29 false) (.leaf 157 Tryz.t157 Tryz.t157 false)) (.leaf 93 Tryz.t93 Tryz.t93 false)) (.node (.node (.leaf 61 Tryz.t61 Tryz.t61 false) (.leaf 189 Tryz.t189 Tryz.t189 false)) (.leaf 125 Tryz.t125 Tryz.t125 false)))))) (.node (.node (.node (.node (.node (.node (.leaf 3 Tryz.t3 Tryz.t3 false) (.leaf 131 Tryz.t131 Tryz.t131 false)) (.node (.leaf 67 Tryz.t67 Tryz.t67 false) (.leaf 195 Tryz.t195 Tryz.t195 false))) (.node (.node (.leaf 35 Tryz.t35 Tryz.t35 false) (.leaf 163 Tryz.t163 Tryz.t163 false)) (.leaf 99 Tryz.t99 Tryz.t99 false))) (.node (.node (.node (.leaf 19 Tryz.t19 Tryz.t18 false) (.leaf 147 Tryz.t147 Tryz.t147 false)) (.leaf 83 Tryz.t83 Tryz.t83 false)) (.node (.node (.leaf 51 Tryz.t51 Tryz.t51 false) (.leaf 179 Tryz.t179 Tryz.t121 false)) .nil))) (.node (.node (.node (.node (.leaf 11 Tryz.t11 Tryz.t9 false) (.leaf 139 Tryz.t139 Tryz.t139 false)) (.leaf 75 Tryz.t75 Tryz.t75 false)) (.node (.leaf 43 Tryz.t43 Tryz.t43 false) (.leaf 107 Tryz.t107 Tryz.t107 false))) (.node (.node (.node (.leaf 27 Tryz.t27 Tryz.t27 false) (.leaf 155 Tryz.t155 Tryz.t155 false)) (.leaf 91 Tryz.t91 Tryz.t91 false)) (.node (.node (.leaf 59 Tryz.t59 Tryz.t59 false) (.leaf 187 Tryz.t187 Tryz.t187 false)) (.leaf 123 Tryz.t123 Tryz.t123 false))))) (.node (.node (.node (.node (.leaf 7 Tryz.t7 Tryz.t7 false) (.node (.leaf 71 Tryz.t71 Tryz.t71 false) (.leaf 199 Tryz.t199 Tryz.t198 false))) (.node (.node (.leaf 39 Tryz.t39 Tryz.t39 false) (.leaf 167 Tryz.t167 Tryz.t167 false)) (.leaf 103 Tryz.t103 Tryz.t103 false))) (.node (.node (.node (.leaf 23 Tryz.t23 Tryz.t22 true) (.leaf 151 Tryz.t151 Tryz.t151 false)) (.leaf 87 Tryz.t87 Tryz.t86 false)) (.node (.node (.leaf 55 Tryz.t55 Tryz.t55 false) (.leaf 183 Tryz.t183 Tryz.t183 false)) (.leaf 119 Tryz.t119 Tryz.t119 false)))) (.node (.node (.node (.node (.leaf 15 Tryz.t15 Tryz.t15 false) (.leaf 143 Tryz.t143 Tryz.t143 false)) (.leaf 79 Tryz.t79 Tryz.t79 false)) (.node (.leaf 47 Tryz.t47 Tryz.t47 false) (.leaf 111 Tryz.t111 Tryz.t111 false))) (.node (.node (.node (.leaf 31 Tryz.t31 Tryz.t3 false) (.leaf 159 Tryz.t159 Tryz.t159 false)) (.leaf 95 Tryz.t95 Tryz.t95 false)) (.node (.node (.leaf 63 Tryz.t63 Tryz.t63 false) (.leaf 191 Tryz.t191 Tryz.t190 false)) (.leaf 127 Tryz.t127 Tryz.t127 false)))))))))) (n + 12) 9 a d) : ∃ x, a = .c (.d (st x)) /\ x.size + 1 <= Rows.uptoBulk d := by
 obtain ⟨_, rfl, ⟨t_1, e0, _, rfl⟩⟩ := h
 cases e0
 refine ⟨_, rfl, ?_⟩
 simp only [Rows.uptoBulk, Array.length_toList]
 show t_1.data.size + 1 <= _; omega
theorem laidMetH_plain_One (P : Program) (l : List (String × DataW Unit)) (w : World) (h : (l.filter fun x => x.2.handleName?.isSome) = []) : laidMetH P l w = laidMet P l w := by
 unfold laidMetH; rw [h]
noncomputable def layWReplyOne (os : Os) : World := World.laidAll Tryz.prog os Rows.replyOneUptoRow.laid
theorem specReplyOne : ∀ (H : Type) (ds : List (DataW H)), ds.length = Tryz.f5.params.size -> (Rows.replyOneSpec.fn H (ds ++ [])).results = [.lit (.bool true)] /\ (Rows.replyOneSpec.fn H (ds ++ [])).args = ds /\ (Rows.replyOneSpec.fn H (ds ++ [])).vars = [] := by
 intro H ds h
 have h : ds.length = 1 := h
 match ds, h with
 | [d0], _ => exact ⟨rfl, rfl, rfl⟩
theorem contractReplyOne (H : Type) (enc : TypeId × Value -> H) (W : World) (base : Nat) (args : Array Value) (ds gs : List (DataW H)) (before : List MemPlace)
 (hval : ∀ (j : Nat) t v, Tryz.f5.params[j]? = some t -> args[j]? = some v -> Value.okWide Tryz.prog W .any base t v)
 (hW : DataW.Whole enc Tryz.prog Tryz.f5.params.toList Rows.replyOneSpec.vars false W args.toList ds gs before) (hk : Rows.uptoSmall H (ds ++ gs) = true) (hL : laidMetH Tryz.prog Rows.replyOneUptoRow.laid W) (hsh : W.ShapedOpen Tryz.prog) :
 Calls Tryz.prog 5 args W fun e W' => ∃ v, e = .returned v /\ Rows.replyOneSpec.post enc Tryz.prog Tryz.f5 false true false false W args v W' := by
 have hL2 : laidMet Tryz.prog Rows.replyOneUptoRow.laid W := by rw [laidMetH_plain_One _ _ _ (by kernel_rfl)] at hL; exact hL
 refine law_post (TT.tysOk tys_ok) (by kernel_rfl) (ts0 := [9, 4]) (by kernel_rfl) (tb := 4) (by kernel_rfl) (by kernel_rfl) rfl (by kernel_rfl) rfl specReplyOne (gInv_of hL2 hsh (by simp [Rows.replyOneUptoRow]) (by simp [Rows.replyOneUptoRow]) (by simp [Rows.replyOneUptoRow])) (callable_of Tryz.func5 rfl rfl) ?_ hval hW
 intro n vs h
 have h := rdArs_le (Nat.le_add_right n 12) h
 obtain ⟨a0, as0, d0, ds0, ea0, ed0, h0, ⟨rfl, rfl⟩⟩ := h
 subst ed0
 subst ea0
 obtain ⟨x0, ar0, pz0⟩ := open_str_One h0
 subst ar0
 have hk := of_decide_eq_true hk
 simp only [List.cons_append, List.nil_append, Rows.uptoBulkAll] at hk
 exact fcReplyOne _ _ _ _ rfl (by omega)
theorem readsReplyOne (os : Os) {H : Type} (enc : TypeId × Value -> H) : ∃ places, DataW.whole enc Tryz.prog ((layWReplyOne os).forCall (fun _ _ => 0) ⟨#[], #[.string ByteArray.empty], []⟩).memory Tryz.f5.params.toList Rows.replyOneSpec.vars false (#[.string ByteArray.empty] : Array Value).toList 8 = some ([.lit (.string [])], [], places) := ⟨[], by kernel_rfl⟩
theorem metReplyOne (os : Os) : laidMetH Tryz.prog Rows.replyOneUptoRow.laid ((layWReplyOne os).forCall (fun _ _ => 0) ⟨#[], #[.string ByteArray.empty], []⟩).memory := by
 rw [laidMetH_plain_One _ _ _ (by kernel_rfl)]; exact laidMet_laidAll _ (by kernel_rfl) (by kernel_rfl)
theorem liftedReplyOne (os : Os) (started : os.Started) (H : Type) (enc : TypeId × Value -> H) (F : Stop.Interp) :
 ReturnsInHanded {} Tryz.checked os 5 .any ((Rows.OpenSpec.upto Rows.replyOneSpec).preRow enc Tryz.prog Tryz.f5 Rows.replyOneUptoRow.domain false Rows.replyOneUptoRow.laid) (((Rows.OpenSpec.upto Rows.replyOneSpec).at F).post enc Tryz.prog Tryz.f5 false true false false) := by
 obtain ⟨places, hx⟩ := readsReplyOne os enc
 refine returnsInHanded_of_row (C := Tryz.checked) (s := (Rows.OpenSpec.upto Rows.replyOneSpec)) ownKey started (by kernel_rfl) Tryz.func5
  (witness_row_atRef (enc := enc) (C := Tryz.checked) false (layWReplyOne os) #[.string ByteArray.empty] (World.laidAll_os _ _ _) (by kernel_rfl) (by kernel_rfl) (by kernel_rfl)
    (OpenSpec.preRow_of_cond 8 hx (by kernel_rfl) (fun k hk => by cases hk; kernel_rfl) (by kernel_rfl) (metReplyOne os))) ?_
 intro W base args ds gs before hval hW _ hk _ hL hsh _
 exact contractReplyOne H enc W base args ds gs before hval hW (hk _ rfl) hL hsh
theorem saidReplyOne : Rows.ReplyOneUptoSaid :=
 OpenClaim.holds_of_cond 5 Tryz.f5 rfl rfl rfl rfl rfl rfl rfl ⟨rfl, rfl, rfl, rfl, rfl⟩ rfl rfl rfl rfl rfl (by kernel_rfl) Tryz.func5 (by kernel_rfl)
  (of_decide_eq_true (by kernel_rfl)) (by unfold Func.isWrapper; first | (rw [if_pos (by decide +kernel)]; kernel_rfl) | (rw [if_neg (by decide +kernel)]; exact ⟨rfl, rfl⟩))
  (fun os started H enc _ F => by rw [OpenClaim.pre_eq_preRow]; exact liftedReplyOne os started H enc F)
theorem plainReplyOne (f : FuncId) (fn : Func) (hf : Tryz.pinned.checked.prog.funcNamed "sondage/sondagelaw40.ReplyOne" = some f) (hfn : Tryz.pinned.checked.prog.funcs[f]? = some fn) :
 true = Tryz.pinned.checked.prog.looks [] /\ ∀ (j : Nat) t, fn.params[j]? = some t -> Tryz.pinned.checked.prog.wantsStandIn t = false := by
 obtain rfl : f = 5 := Option.some.inj ((show Tryz.prog.funcNamed "sondage/sondagelaw40.ReplyOne" = some 5 by kernel_rfl).symm.trans hf) |>.symm
 obtain rfl : fn = Tryz.f5 := (Option.some.inj (Tryz.func5.symm.trans hfn)).symm
 refine ⟨by kernel_rfl, fun j t ht => ?_⟩
 have hall : (Tryz.f5.params.toList.all fun u => !Tryz.prog.wantsStandIn u) = true := by kernel_rfl
 have hm : t ∈ Tryz.f5.params.toList := by have := Array.mem_of_getElem? ht; simpa using this
 exact (show Tryz.prog.wantsStandIn t = false by simpa using List.all_eq_true.1 hall t hm)
theorem provedReplyOne : Rows.ReplyOneUptoCardSaid :=
 Claim7.holds_tied_plain_at .later [] _ _ _ _ saidReplyOne (fun _ h => by cases h) (by kernel_rfl) (fun _ h => by cases h) replyOneUpto_row_tie rfl ⟨rfl, rfl⟩ (by kernel_rfl) rfl plainReplyOne (by kernel_rfl)
end Go.Proofs.YtakcacejpbiogaaGreatDoor
