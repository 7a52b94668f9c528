/- The statement on ReplyBack (its card): from what its function computes; what the listed variables hold is given by the row. Condition: the row's own. -/
import Derived.Test.YtakcacejpbiogaaGreatDoorR15
import Derived.Lay
set_option linter.all false
set_option maxHeartbeats 8000000
set_option maxRecDepth 100000
namespace Go.Proofs.YtakcacejpbiogaaGreatDoor
open Go.Sx Go.ChangeShapes Go.WideShapes Go.RowKit
theorem rowI_Back {i : Int} (h : (Lit.int .i64 i).wf = true) : -9223372036854775808 <= i /\ i < 9223372036854775808 := by
 have h : (decide (-9223372036854775808 <= i) && decide (i <= 9223372036854775807)) = true := h
 simp at h; omega
theorem bulk_pos_Back {H : Type} (d : DataW H) : 1 <= Rows.uptoBulk d := by
 cases d with
 | lit l => cases l <;> simp [Rows.uptoBulk]
 | _ => simp [Rows.uptoBulk]
theorem bulk_len_Back {H : Type} : ∀ (l : List (DataW H)), l.length <= Rows.uptoBulkAll l
 | [] => Nat.zero_le _
 | d :: l => by
   have h1 := bulk_pos_Back d
   have h2 := bulk_len_Back l
   simp only [Rows.uptoBulkAll, List.length_cons]; omega
theorem gN_cons_Back (n : Nat) (f : Nat -> List DV) : gN (n + 1) f = gT (f 0) :: gN n (fun i => f (i + 1)) := by
 unfold gN
 rw [List.range_succ_eq_map, List.map_cons, List.map_map]; rfl
theorem szL_bulk_Back {H : Type} : ∀ (xs : List (DataW H)) (f : Nat -> List DV), (∀ (i : Nat) (x : DataW H), xs[i]? = some x -> (gT (f i)).size + 1 <= Rows.uptoBulk x) -> szL (gN xs.length f) + xs.length <= Rows.uptoBulkAll xs
 | [], _, _ => Nat.zero_le _
 | x :: xs, f, h => by
   have h1 := szL_bulk_Back xs (fun i => f (i + 1)) (fun i y hy => h (i + 1) y (by simpa using hy))
   have h2 := h 0 x rfl
   rw [List.length_cons, gN_cons_Back, szL_cons]
   simp only [Rows.uptoBulkAll]; omega
theorem open_val_Back {H : Type} {n : Nat} {a : Ar} {d : DataW H} (h : RdAr (TT.get ((.node (.node (.node (.node (.node (.node (.node (.leaf 128 Tryz.t128 Tryz.t128 false) (.node (.leaf 64 Tryz.t64 Tryz.t64 false) (.leaf 192 Tryz.t192 Tryz.t192 false))) (.node (.leaf 160 Tryz.t160 Tryz.t159 false) (.leaf 96 Tryz.t96 Tryz.t96 false))) (.node (.node (.node (.leaf 16 Tryz.t16 Tryz.t16 false) (.leaf 144 Tryz.t144 Tryz.t144 false)) (.leaf 80 Tryz.t80 Tryz.t80 false)) (.node (.node (.leaf 48 Tryz.t48 Tryz.t48 false) (.leaf 176 Tryz.t176 Tryz.t176 false)) (.leaf 112 Tryz.t112 Tryz.t112 false)))) (.node (.node (.node (.node (.leaf 8 Tryz.t8 Tryz.t7 false) (.leaf 136 Tryz.t136 Tryz.t136 false)) (.leaf 72 Tryz.t72 Tryz.t72 false)) (.node (.node (.leaf 40 Tryz.t40 Tryz.t40 false) (.leaf 168 Tryz.t168 Tryz.t167 false)) (.leaf 104 Tryz.t104 Tryz.t104 false))) (.node (.leaf 24 Tryz.t24 Tryz.t24 false) (.node (.leaf 184 Tryz.t184 Tryz.t184 false) (.leaf 120 Tryz.t120 Tryz.t120 false))))) (.node (.node (.node (.node (.node (.leaf 4 Tryz.t4 Tryz.t4 false) (.leaf 132 Tryz.t132 Tryz.t132 false)) (.node (.leaf 68 Tryz.t68 Tryz.t68 false) (.leaf 196 Tryz.t196 Tryz.t21 false))) (.node (.node (.leaf 36 Tryz.t36 Tryz.t36 false) (.leaf 164 Tryz.t164 Tryz.t164 false)) (.leaf 100 Tryz.t100 Tryz.t100 false))) (.node (.node (.node (.leaf 20 Tryz.t20 Tryz.t20 false) (.leaf 148 Tryz.t148 Tryz.t148 false)) (.leaf 84 Tryz.t84 Tryz.t83 false)) (.node (.node (.leaf 52 Tryz.t52 Tryz.t52 false) (.leaf 180 Tryz.t180 Tryz.t180 false)) (.leaf 116 Tryz.t116 Tryz.t116 false)))) (.node (.node (.node (.node (.leaf 12 Tryz.t12 Tryz.t12 false) (.leaf 140 Tryz.t140 Tryz.t140 false)) (.leaf 76 Tryz.t76 Tryz.t75 true)) (.node (.node (.leaf 44 Tryz.t44 Tryz.t43 true) (.leaf 172 Tryz.t172 Tryz.t172 false)) (.leaf 108 Tryz.t108 Tryz.t108 false))) (.node (.node (.node (.leaf 28 Tryz.t28 Tryz.t27 false) (.leaf 156 Tryz.t156 Tryz.t155 false)) (.leaf 92 Tryz.t92 Tryz.t92 false)) (.node (.node (.leaf 60 Tryz.t60 Tryz.t60 false) (.leaf 188 Tryz.t188 Tryz.t187 false)) .nil))))) (.node (.node (.node (.node (.node (.node (.leaf 2 Tryz.t2 Tryz.t2 false) (.leaf 130 Tryz.t130 Tryz.t130 false)) (.leaf 194 Tryz.t194 Tryz.t5 false)) (.node (.leaf 162 Tryz.t162 Tryz.t162 false) (.leaf 98 Tryz.t98 Tryz.t98 false))) (.node (.node (.node (.leaf 18 Tryz.t18 Tryz.t18 false) (.leaf 146 Tryz.t146 Tryz.t146 false)) (.leaf 82 Tryz.t82 Tryz.t82 false)) (.node (.node (.leaf 50 Tryz.t50 Tryz.t49 true) (.leaf 178 Tryz.t178 Tryz.t178 false)) (.leaf 114 Tryz.t114 Tryz.t114 false)))) (.node (.node (.node (.node (.leaf 10 Tryz.t10 Tryz.t9 false) (.leaf 138 Tryz.t138 Tryz.t138 false)) (.leaf 74 Tryz.t74 Tryz.t74 false)) (.node (.node (.leaf 42 Tryz.t42 Tryz.t42 false) (.leaf 170 Tryz.t170 Tryz.t3 false)) (.leaf 106 Tryz.t106 Tryz.t106 false))) (.node (.node (.node (.leaf 26 Tryz.t26 Tryz.t26 false) (.leaf 154 Tryz.t154 Tryz.t154 false)) (.leaf 90 Tryz.t90 Tryz.t90 false)) (.node (.node (.leaf 58 Tryz.t58 Tryz.t58 false) (.leaf 186 Tryz.t186 Tryz.t186 false)) (.leaf 122 Tryz.t122 Tryz.t122 false))))) (.node (.node (.node (.node (.node (.leaf 6 Tryz.t6 Tryz.t5 false) (.leaf 134 Tryz.t134 Tryz.t3 false)) (.node (.leaf 70 Tryz.t70 Tryz.t70 false) (.leaf 198 Tryz.t198 Tryz.t198 false))) (.node (.node (.leaf 38 Tryz.t38 Tryz.t38 false) (.leaf 166 Tryz.t166 Tryz.t166 false)) (.leaf 102 Tryz.t102 Tryz.t102 false))) (.node (.node (.node (.leaf 22 Tryz.t22 Tryz.t22 false) (.leaf 150 Tryz.t150 Tryz.t150 false)) (.leaf 86 Tryz.t86 Tryz.t86 false)) (.node (.node (.leaf 54 Tryz.t54 Tryz.t54 false) (.leaf 182 Tryz.t182 Tryz.t182 false)) (.leaf 118 Tryz.t118 Tryz.t118 false)))) (.node (.node (.node (.node (.leaf 14 Tryz.t14 Tryz.t13 false) (.leaf 142 Tryz.t142 Tryz.t142 false)) (.leaf 78 Tryz.t78 Tryz.t77 false)) (.node (.node (.leaf 46 Tryz.t46 Tryz.t45 false) (.leaf 174 Tryz.t174 Tryz.t174 false)) .nil)) (.node (.node (.node (.leaf 30 Tryz.t30 Tryz.t29 false) (.leaf 158 Tryz.t158 Tryz.t158 false)) (.leaf 94 Tryz.t94 Tryz.t94 false)) (.node (.node (.leaf 62 Tryz.t62 Tryz.t62 false) (.leaf 190 Tryz.t190 Tryz.t190 false)) (.leaf 126 Tryz.t126 Tryz.t126 false))))))) (.node (.node (.node (.node (.node (.node (.node (.leaf 1 Tryz.t1 Tryz.t1 false) (.leaf 129 Tryz.t129 Tryz.t129 false)) (.node (.leaf 65 Tryz.t65 Tryz.t65 false) (.leaf 193 Tryz.t193 Tryz.t5 false))) (.node (.node (.leaf 33 Tryz.t33 Tryz.t33 false) (.leaf 161 Tryz.t161 Tryz.t161 false)) (.leaf 97 Tryz.t97 Tryz.t97 false))) (.node (.node (.node (.leaf 17 Tryz.t17 Tryz.t17 false) (.leaf 145 Tryz.t145 Tryz.t145 false)) (.leaf 81 Tryz.t81 Tryz.t81 false)) (.node (.node (.leaf 49 Tryz.t49 Tryz.t49 false) (.leaf 177 Tryz.t177 Tryz.t177 false)) (.leaf 113 Tryz.t113 Tryz.t113 false)))) (.node (.node (.node (.node (.leaf 9 Tryz.t9 Tryz.t9 false) (.leaf 137 Tryz.t137 Tryz.t137 false)) .nil) (.node (.node (.leaf 41 Tryz.t41 Tryz.t41 false) (.leaf 169 Tryz.t169 Tryz.t169 false)) (.leaf 105 Tryz.t105 Tryz.t105 false))) (.node (.node (.node (.leaf 25 Tryz.t25 Tryz.t24 true) (.leaf 153 Tryz.t153 Tryz.t153 false)) (.leaf 89 Tryz.t89 Tryz.t89 false)) (.node (.node (.leaf 57 Tryz.t57 Tryz.t57 false) (.leaf 185 Tryz.t185 Tryz.t185 false)) (.leaf 121 Tryz.t121 Tryz.t121 false))))) (.node (.node (.node (.node (.node (.leaf 5 Tryz.t5 Tryz.t5 false) (.leaf 133 Tryz.t133 Tryz.t133 false)) (.leaf 197 Tryz.t197 Tryz.t21 false)) (.node (.node (.leaf 37 Tryz.t37 Tryz.t37 false) (.leaf 165 Tryz.t165 Tryz.t165 false)) (.leaf 101 Tryz.t101 Tryz.t101 false))) (.node (.node (.leaf 21 Tryz.t21 Tryz.t21 false) (.leaf 85 Tryz.t85 Tryz.t85 false)) (.node (.node (.leaf 53 Tryz.t53 Tryz.t53 false) (.leaf 181 Tryz.t181 Tryz.t181 false)) (.leaf 117 Tryz.t117 Tryz.t117 false)))) (.node (.node (.node (.node (.leaf 13 Tryz.t13 Tryz.t13 false) (.leaf 141 Tryz.t141 Tryz.t141 false)) (.leaf 77 Tryz.t77 Tryz.t77 false)) (.node (.node (.leaf 45 Tryz.t45 Tryz.t45 false) (.leaf 173 Tryz.t173 Tryz.t173 false)) (.leaf 109 Tryz.t109 Tryz.t108 false))) (.node (.node (.node (.leaf 29 Tryz.t29 Tryz.t29 false) (.leaf 157 Tryz.t157 Tryz.t157 false)) (.leaf 93 Tryz.t93 Tryz.t93 false)) (.node (.node (.leaf 61 Tryz.t61 Tryz.t61 false) (.leaf 189 Tryz.t189 Tryz.t189 false)) (.leaf 125 Tryz.t125 Tryz.t125 false)))))) (.node (.node (.node (.node (.node (.node (.leaf 3 Tryz.t3 Tryz.t3 false) (.leaf 131 Tryz.t131 Tryz.t131 false)) (.node (.leaf 67 Tryz.t67 Tryz.t67 false) (.leaf 195 Tryz.t195 Tryz.t195 false))) (.node (.node (.leaf 35 Tryz.t35 Tryz.t35 false) (.leaf 163 Tryz.t163 Tryz.t163 false)) (.leaf 99 Tryz.t99 Tryz.t99 false))) (.node (.node (.node (.leaf 19 Tryz.t19 Tryz.t18 false) (.leaf 147 Tryz.t147 Tryz.t147 false)) (.leaf 83 Tryz.t83 Tryz.t83 false)) (.node (.node (.leaf 51 Tryz.t51 Tryz.t51 false) (.leaf 179 Tryz.t179 Tryz.t121 false)) .nil))) (.node (.node (.node (.node (.leaf 11 Tryz.t11 Tryz.t9 false) (.leaf 139 Tryz.t139 Tryz.t139 false)) (.leaf 75 Tryz.t75 Tryz.t75 false)) (.node (.leaf 43 Tryz.t43 Tryz.t43 false) (.leaf 107 Tryz.t107 Tryz.t107 false))) (.node (.node (.node (.leaf 27 Tryz.t27 Tryz.t27 false) (.leaf 155 Tryz.t155 Tryz.t155 false)) (.leaf 91 Tryz.t91 Tryz.t91 false)) (.node (.node (.leaf 59 Tryz.t59 Tryz.t59 false) (.leaf 187 Tryz.t187 Tryz.t187 false)) (.leaf 123 Tryz.t123 Tryz.t123 false))))) (.node (.node (.node (.node (.leaf 7 Tryz.t7 Tryz.t7 false) (.node (.leaf 71 Tryz.t71 Tryz.t71 false) (.leaf 199 Tryz.t199 Tryz.t198 false))) (.node (.node (.leaf 39 Tryz.t39 Tryz.t39 false) (.leaf 167 Tryz.t167 Tryz.t167 false)) (.leaf 103 Tryz.t103 Tryz.t103 false))) (.node (.node (.node (.leaf 23 Tryz.t23 Tryz.t22 true) (.leaf 151 Tryz.t151 Tryz.t151 false)) (.leaf 87 Tryz.t87 Tryz.t86 false)) (.node (.node (.leaf 55 Tryz.t55 Tryz.t55 false) (.leaf 183 Tryz.t183 Tryz.t183 false)) (.leaf 119 Tryz.t119 Tryz.t119 false)))) (.node (.node (.node (.node (.leaf 15 Tryz.t15 Tryz.t15 false) (.leaf 143 Tryz.t143 Tryz.t143 false)) (.leaf 79 Tryz.t79 Tryz.t79 false)) (.node (.leaf 47 Tryz.t47 Tryz.t47 false) (.leaf 111 Tryz.t111 Tryz.t111 false))) (.node (.node (.node (.leaf 31 Tryz.t31 Tryz.t3 false) (.leaf 159 Tryz.t159 Tryz.t159 false)) (.leaf 95 Tryz.t95 Tryz.t95 false)) (.node (.node (.leaf 63 Tryz.t63 Tryz.t63 false) (.leaf 191 Tryz.t191 Tryz.t190 false)) (.leaf 127 Tryz.t127 Tryz.t127 false)))))))))) (n + 12) 30 a d) : ∃ s l h b m r z k f, a = .agg [.d (.v (.bool s)), .d (.v (.int .i64 l)), .d (.v (.int .i64 h)), .d (.v (.bool b)), .d (.v (.int .i64 m)), .d (.v (.int .i64 r)), .d (.v (.bool z)), .d (.lst 1 k f)] /\ ((-9223372036854775808 <= l /\ l < 9223372036854775808) /\ -9223372036854775808 <= h /\ h < 9223372036854775808) /\ ((-9223372036854775808 <= m /\ m < 9223372036854775808) /\ -9223372036854775808 <= r /\ r < 9223372036854775808) /\ (∀ i, i < k -> f i = [st (gT (f i))]) /\ szL (gN k f) + k <= Rows.uptoBulk d := by
 obtain ⟨_, rfl, ⟨_, rfl, ⟨_, _, _, _, rfl, rfl, ⟨_, rfl, ⟨_, _, _, _, rfl, rfl, ⟨b_1, rfl, rfl⟩, ⟨_, _, _, _, rfl, rfl, ⟨n_2, rfl, wn_2, rfl⟩, ⟨_, _, _, _, rfl, rfl, ⟨n_3, rfl, wn_3, rfl⟩, ⟨rfl, rfl⟩⟩⟩⟩⟩, ⟨_, _, _, _, rfl, rfl, ⟨_, rfl, ⟨_, _, _, _, rfl, rfl, ⟨b_4, rfl, rfl⟩, ⟨_, _, _, _, rfl, rfl, ⟨n_5, rfl, wn_5, rfl⟩, ⟨_, _, _, _, rfl, rfl, ⟨n_6, rfl, wn_6, rfl⟩, ⟨rfl, rfl⟩⟩⟩⟩⟩, ⟨_, _, _, _, rfl, rfl, ⟨_, rfl, ⟨_, _, _, _, rfl, rfl, ⟨b_7, rfl, rfl⟩, ⟨_, _, _, _, rfl, rfl, ⟨sz_8, m_8, f_8, rfl, q_8, lm_8, y_8⟩, ⟨rfl, rfl⟩⟩⟩⟩, ⟨rfl, rfl⟩⟩⟩⟩⟩⟩ := h
 have wn_2 := rowI_Back wn_2
 have wn_3 := rowI_Back wn_3
 have wn_5 := rowI_Back wn_5
 have wn_6 := rowI_Back wn_6
 have q_8 : sz_8 = 1 := q_8; subst q_8
 refine ⟨_, _, _, _, _, _, _, _, _, rfl, ⟨wn_2, wn_3⟩, ⟨wn_5, wn_6⟩, ?_, ?_⟩
 . intro i hi
   rcases y_8 with ⟨hm, _⟩ | ⟨xs, _, _, hl, hx⟩
   . omega
   . obtain ⟨z, f1, _, _⟩ := hx i (xs[i]'(by omega)) (by simp)
     rw [f1]; rfl
 . rcases y_8 with ⟨hm, rfl⟩ | ⟨xs, sp, rfl, hl, hx⟩
   . subst hm; exact Nat.zero_le _
   . have hb := szL_bulk_Back xs f_8 (fun i x h => by
      obtain ⟨z, f1, _, d1⟩ := hx i x h
      subst d1
      rw [f1]
      simp only [Rows.uptoBulk, Array.length_toList]
      show z.data.size + 1 <= _
      omega)
     rw [hl] at hb
     simp only [Rows.uptoBulk, Rows.uptoBulkAll]; omega
theorem laidMetH_plain_Back (P : Program) (l : List (String × DataW Unit)) (w : World) (h : (l.filter fun x => x.2.handleName?.isSome) = []) : laidMetH P l w = laidMet P l w := by
 unfold laidMetH; rw [h]
noncomputable def layWReplyBack (os : Os) : World := World.laidAll Tryz.prog os Rows.replyBackUptoRow.laid
theorem specReplyBack : ∀ (H : Type) (ds : List (DataW H)), ds.length = Tryz.f4.params.size -> (Rows.replyBackSpec.fn H (ds ++ [])).results = [.lit (.bool true)] /\ (Rows.replyBackSpec.fn H (ds ++ [])).args = ds /\ (Rows.replyBackSpec.fn H (ds ++ [])).vars = [] := by
 intro H ds h
 have h : ds.length = 1 := h
 match ds, h with
 | [d0], _ => exact ⟨rfl, rfl, rfl⟩
theorem contractReplyBack (H : Type) (enc : TypeId × Value -> H) (W : World) (base : Nat) (args : Array Value) (ds gs : List (DataW H)) (before : List MemPlace)
 (hval : ∀ (j : Nat) t v, Tryz.f4.params[j]? = some t -> args[j]? = some v -> Value.okWide Tryz.prog W .any base t v)
 (hW : DataW.Whole enc Tryz.prog Tryz.f4.params.toList Rows.replyBackSpec.vars false W args.toList ds gs before) (hk : Rows.uptoSmall H (ds ++ gs) = true) (hL : laidMetH Tryz.prog Rows.replyBackUptoRow.laid W) (hsh : W.ShapedOpen Tryz.prog) :
 Calls Tryz.prog 4 args W fun e W' => ∃ v, e = .returned v /\ Rows.replyBackSpec.post enc Tryz.prog Tryz.f4 false true false false W args v W' := by
 have hL2 : laidMet Tryz.prog Rows.replyBackUptoRow.laid W := by rw [laidMetH_plain_Back _ _ _ (by kernel_rfl)] at hL; exact hL
 refine law_post (TT.tysOk tys_ok) (by kernel_rfl) (ts0 := [3, 4, 9, 26, 23, 25, 28, 30]) (by kernel_rfl) (tb := 4) (by kernel_rfl) (by kernel_rfl) rfl (by kernel_rfl) rfl specReplyBack (gInv_of hL2 hsh (by simp [Rows.replyBackUptoRow]) (by simp [Rows.replyBackUptoRow]) (by simp [Rows.replyBackUptoRow])) (callable_of Tryz.func4 rfl rfl) ?_ hval hW
 intro n vs h
 have h := rdArs_le (Nat.le_add_right n 12) h
 obtain ⟨a0, as0, d0, ds0, ea0, ed0, h0, ⟨rfl, rfl⟩⟩ := h
 subst ed0
 subst ea0
 obtain ⟨s0, l0, h0, b0, m0, r0, z0, k0, f0, ar0, ps0, pc0, pf0, pk0⟩ := open_val_Back h0
 subst ar0
 have hk := of_decide_eq_true hk
 simp only [List.cons_append, List.nil_append, Rows.uptoBulkAll] at hk
 exact fcReplyBack _ _ _ _ rfl ⟨⟨⟨by omega, pf0⟩, ps0, pc0⟩, by omega, by omega⟩
theorem readsReplyBack (os : Os) {H : Type} (enc : TypeId × Value -> H) : ∃ places, DataW.whole enc Tryz.prog ((layWReplyBack os).forCall (fun _ _ => 0) ⟨#[], #[.agg #[.bool false, .int .i64 0, .int .i64 0, .bool false, .int .i64 0, .int .i64 0, .bool false, .slice none 0 0]], []⟩).memory Tryz.f4.params.toList Rows.replyBackSpec.vars false (#[.agg #[.bool false, .int .i64 0, .int .i64 0, .bool false, .int .i64 0, .int .i64 0, .bool false, .slice none 0 0]] : Array Value).toList 8 = some ([.agg [.agg [.lit (.bool false), .lit (.int .i64 0), .lit (.int .i64 0)], .agg [.lit (.bool false), .lit (.int .i64 0), .lit (.int .i64 0)], .agg [.lit (.bool false), .nil]]], [], places) := ⟨[], by kernel_rfl⟩
theorem metReplyBack (os : Os) : laidMetH Tryz.prog Rows.replyBackUptoRow.laid ((layWReplyBack os).forCall (fun _ _ => 0) ⟨#[], #[.agg #[.bool false, .int .i64 0, .int .i64 0, .bool false, .int .i64 0, .int .i64 0, .bool false, .slice none 0 0]], []⟩).memory := by
 rw [laidMetH_plain_Back _ _ _ (by kernel_rfl)]; exact laidMet_laidAll _ (by kernel_rfl) (by kernel_rfl)
theorem liftedReplyBack (os : Os) (started : os.Started) (H : Type) (enc : TypeId × Value -> H) (F : Stop.Interp) :
 ReturnsInHanded {} Tryz.checked os 4 .any ((Rows.OpenSpec.upto Rows.replyBackSpec).preRow enc Tryz.prog Tryz.f4 Rows.replyBackUptoRow.domain false Rows.replyBackUptoRow.laid) (((Rows.OpenSpec.upto Rows.replyBackSpec).at F).post enc Tryz.prog Tryz.f4 false true false false) := by
 obtain ⟨places, hx⟩ := readsReplyBack os enc
 refine returnsInHanded_of_row (C := Tryz.checked) (s := (Rows.OpenSpec.upto Rows.replyBackSpec)) ownKey started (by kernel_rfl) Tryz.func4
  (witness_row_atRef (enc := enc) (C := Tryz.checked) false (layWReplyBack os) #[.agg #[.bool false, .int .i64 0, .int .i64 0, .bool false, .int .i64 0, .int .i64 0, .bool false, .slice none 0 0]] (World.laidAll_os _ _ _) (by kernel_rfl) (by kernel_rfl) (by kernel_rfl)
    (OpenSpec.preRow_of_cond 8 hx (by kernel_rfl) (fun k hk => by cases hk; kernel_rfl) (by kernel_rfl) (metReplyBack os))) ?_
 intro W base args ds gs before hval hW _ hk _ hL hsh _
 exact contractReplyBack H enc W base args ds gs before hval hW (hk _ rfl) hL hsh
theorem saidReplyBack : Rows.ReplyBackUptoSaid :=
 OpenClaim.holds_of_cond 4 Tryz.f4 rfl rfl rfl rfl rfl rfl rfl ⟨rfl, rfl, rfl, rfl, rfl⟩ rfl rfl rfl rfl rfl (by kernel_rfl) Tryz.func4 (by kernel_rfl)
  (of_decide_eq_true (by kernel_rfl)) (by unfold Func.isWrapper; first | (rw [if_pos (by decide +kernel)]; kernel_rfl) | (rw [if_neg (by decide +kernel)]; exact ⟨rfl, rfl⟩))
  (fun os started H enc _ F => by rw [OpenClaim.pre_eq_preRow]; exact liftedReplyBack os started H enc F)
theorem plainReplyBack (f : FuncId) (fn : Func) (hf : Tryz.pinned.checked.prog.funcNamed "sondage/sondagelaw40.ReplyBack" = some f) (hfn : Tryz.pinned.checked.prog.funcs[f]? = some fn) :
 true = Tryz.pinned.checked.prog.looks [] /\ ∀ (j : Nat) t, fn.params[j]? = some t -> Tryz.pinned.checked.prog.wantsStandIn t = false := by
 obtain rfl : f = 4 := Option.some.inj ((show Tryz.prog.funcNamed "sondage/sondagelaw40.ReplyBack" = some 4 by kernel_rfl).symm.trans hf) |>.symm
 obtain rfl : fn = Tryz.f4 := (Option.some.inj (Tryz.func4.symm.trans hfn)).symm
 refine ⟨by kernel_rfl, fun j t ht => ?_⟩
 have hall : (Tryz.f4.params.toList.all fun u => !Tryz.prog.wantsStandIn u) = true := by kernel_rfl
 have hm : t ∈ Tryz.f4.params.toList := by have := Array.mem_of_getElem? ht; simpa using this
 exact (show Tryz.prog.wantsStandIn t = false by simpa using List.all_eq_true.1 hall t hm)
theorem provedReplyBack : Rows.ReplyBackUptoCardSaid :=
 Claim7.holds_tied_plain_at .later [] _ _ _ _ saidReplyBack (fun _ h => by cases h) (by kernel_rfl) (fun _ h => by cases h) replyBackUpto_row_tie rfl ⟨rfl, rfl⟩ (by kernel_rfl) rfl plainReplyBack (by kernel_rfl)
end Go.Proofs.YtakcacejpbiogaaGreatDoor
