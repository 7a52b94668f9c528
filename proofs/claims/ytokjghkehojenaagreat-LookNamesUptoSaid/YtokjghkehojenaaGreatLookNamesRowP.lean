/- The statement on LookNames: from what its function computes. -/
import Derived.Test.YtokjghkehojenaaGreatP13
import Derived.Test.YtokjghkehojenaaGreatRows
import Derived.SizedLaws
set_option linter.all false
set_option maxHeartbeats 8000000
set_option maxRecDepth 100000
namespace Go.Proofs.YtokjghkehojenaaGreat
open Go.Sx Go.ChangeShapes Go.WideShapes Go.RowKit
theorem rowI {i:Int} (h:(Lit.int .i64 i).wf=true): -9223372036854775808<=i/\ i<9223372036854775808:=by
 have h:(decide (-9223372036854775808<=i)&&decide (i<=9223372036854775807))=true:=h
 simp at h;omega
theorem bulk_pos {H:Type} (d:DataW H):1<=Rows.uptoBulk d:=by
 cases d with
 |lit l=>cases l<;>simp [Rows.uptoBulk]
 |_=>simp [Rows.uptoBulk]
theorem bulk_len {H:Type}: ∀(l:List (DataW H)),l.length<=Rows.uptoBulkAll l
 | []=>Nat.zero_le _
 |d::l=>by
  have h1:=bulk_pos d
  have h2:=bulk_len l
  simp only [Rows.uptoBulkAll,List.length_cons];omega
def isT (t:TT):Prop:=t=((.node (.node (.node (.node (.node (.node (.node (.node (.leaf 256 Tryz.t256 Tryz.t256 false) (.leaf 128 Tryz.t128 Tryz.t128 false)) (.node (.leaf 64 Tryz.t64 Tryz.t30 false) (.leaf 192 Tryz.t192 Tryz.t192 false))) (.node (.node (.leaf 32 Tryz.t32 Tryz.t32 false) (.leaf 160 Tryz.t160 Tryz.t160 false)) (.node (.leaf 96 Tryz.t96 Tryz.t96 false) (.leaf 224 Tryz.t224 Tryz.t224 false)))) (.node (.node (.node (.leaf 16 Tryz.t16 Tryz.t16 false) (.leaf 144 Tryz.t144 Tryz.t144 false)) (.node (.leaf 80 Tryz.t80 Tryz.t80 false) (.leaf 208 Tryz.t208 Tryz.t3 false))) (.node (.node (.leaf 48 Tryz.t48 Tryz.t47 false) (.leaf 176 Tryz.t176 Tryz.t176 false)) (.leaf 112 Tryz.t112 Tryz.t112 false)))) (.node (.node (.node (.node (.node (.leaf 8 Tryz.t8 Tryz.t7 false) (.leaf 264 Tryz.t264 Tryz.t264 false)) (.leaf 136 Tryz.t136 Tryz.t136 false)) (.node (.leaf 72 Tryz.t72 Tryz.t72 false) (.leaf 200 Tryz.t200 Tryz.t200 false))) (.node (.node (.leaf 40 Tryz.t40 Tryz.t40 false) (.leaf 168 Tryz.t168 Tryz.t168 false)) (.node (.leaf 104 Tryz.t104 Tryz.t104 false) (.leaf 232 Tryz.t232 Tryz.t232 false)))) (.node (.node (.node (.leaf 24 Tryz.t24 Tryz.t24 false) (.leaf 152 Tryz.t152 Tryz.t152 false)) (.node (.leaf 88 Tryz.t88 Tryz.t88 false) (.leaf 216 Tryz.t216 Tryz.t216 false))) (.node (.node (.leaf 56 Tryz.t56 Tryz.t47 false) (.leaf 184 Tryz.t184 Tryz.t184 false)) (.node (.leaf 120 Tryz.t120 Tryz.t120 false) (.leaf 248 Tryz.t248 Tryz.t247 false)))))) (.node (.node (.node (.node (.node (.node (.leaf 4 Tryz.t4 Tryz.t4 false) (.leaf 260 Tryz.t260 Tryz.t260 false)) (.leaf 132 Tryz.t132 Tryz.t132 false)) (.leaf 68 Tryz.t68 Tryz.t68 false)) (.node (.node (.leaf 36 Tryz.t36 Tryz.t35 true) (.leaf 164 Tryz.t164 Tryz.t164 false)) (.node (.leaf 100 Tryz.t100 Tryz.t100 false) (.leaf 228 Tryz.t228 Tryz.t228 false)))) (.node (.node (.node (.leaf 20 Tryz.t20 Tryz.t20 false) (.leaf 148 Tryz.t148 Tryz.t148 false)) (.node (.leaf 84 Tryz.t84 Tryz.t84 false) (.leaf 212 Tryz.t212 Tryz.t212 false))) (.node (.leaf 52 Tryz.t52 Tryz.t51 false) (.node (.leaf 116 Tryz.t116 Tryz.t115 true) (.leaf 244 Tryz.t244 Tryz.t244 false))))) (.node (.node (.node (.node (.node (.leaf 12 Tryz.t12 Tryz.t12 false) (.leaf 268 Tryz.t268 Tryz.t267 false)) (.leaf 140 Tryz.t140 Tryz.t140 false)) (.node (.leaf 76 Tryz.t76 Tryz.t75 true) (.leaf 204 Tryz.t204 Tryz.t204 false))) (.node (.node (.leaf 44 Tryz.t44 Tryz.t44 false) (.leaf 172 Tryz.t172 Tryz.t172 false)) (.node (.leaf 108 Tryz.t108 Tryz.t108 false) (.leaf 236 Tryz.t236 Tryz.t236 false)))) (.node (.node (.node (.leaf 28 Tryz.t28 Tryz.t27 false) (.leaf 156 Tryz.t156 Tryz.t156 false)) (.node (.leaf 92 Tryz.t92 Tryz.t92 false) (.leaf 220 Tryz.t220 Tryz.t220 false))) (.node (.leaf 60 Tryz.t60 Tryz.t60 false) (.node (.leaf 124 Tryz.t124 Tryz.t124 false) (.leaf 252 Tryz.t252 Tryz.t252 false))))))) (.node (.node (.node (.node (.node (.node (.node (.leaf 2 Tryz.t2 Tryz.t2 false) (.leaf 258 Tryz.t258 Tryz.t258 false)) (.leaf 130 Tryz.t130 Tryz.t130 false)) (.node (.leaf 66 Tryz.t66 Tryz.t66 false) (.leaf 194 Tryz.t194 Tryz.t194 false))) (.node (.node (.leaf 34 Tryz.t34 Tryz.t33 false) (.leaf 162 Tryz.t162 Tryz.t162 false)) (.node (.leaf 98 Tryz.t98 Tryz.t98 false) (.leaf 226 Tryz.t226 Tryz.t226 false)))) (.node (.node (.node (.leaf 18 Tryz.t18 Tryz.t18 false) (.leaf 146 Tryz.t146 Tryz.t146 false)) (.node (.leaf 82 Tryz.t82 Tryz.t82 false) (.leaf 210 Tryz.t210 Tryz.t210 false))) (.node (.node (.leaf 50 Tryz.t50 Tryz.t50 false) (.leaf 178 Tryz.t178 Tryz.t178 false)) (.node (.leaf 114 Tryz.t114 Tryz.t114 false) (.leaf 242 Tryz.t242 Tryz.t242 false))))) (.node (.node (.node (.node (.node (.leaf 10 Tryz.t10 Tryz.t9 false) (.leaf 266 Tryz.t266 Tryz.t265 true)) (.leaf 138 Tryz.t138 Tryz.t138 false)) (.leaf 74 Tryz.t74 Tryz.t74 false)) (.node (.node (.leaf 42 Tryz.t42 Tryz.t42 false) (.leaf 170 Tryz.t170 Tryz.t170 false)) (.node (.leaf 106 Tryz.t106 Tryz.t106 false) (.leaf 234 Tryz.t234 Tryz.t234 false)))) (.node (.node (.node (.leaf 26 Tryz.t26 Tryz.t26 false) (.leaf 154 Tryz.t154 Tryz.t154 false)) (.node (.leaf 90 Tryz.t90 Tryz.t90 false) (.leaf 218 Tryz.t218 Tryz.t218 false))) (.node (.node (.leaf 58 Tryz.t58 Tryz.t58 false) (.leaf 186 Tryz.t186 Tryz.t186 false)) (.node (.leaf 122 Tryz.t122 Tryz.t122 false) (.leaf 250 Tryz.t250 Tryz.t5 false)))))) (.node (.node (.node (.node (.node (.node (.leaf 6 Tryz.t6 Tryz.t5 false) (.leaf 262 Tryz.t262 Tryz.t262 false)) (.leaf 134 Tryz.t134 Tryz.t134 false)) (.node (.leaf 70 Tryz.t70 Tryz.t70 false) (.leaf 198 Tryz.t198 Tryz.t198 false))) (.node (.leaf 38 Tryz.t38 Tryz.t37 true) (.node (.leaf 102 Tryz.t102 Tryz.t102 false) (.leaf 230 Tryz.t230 Tryz.t229 false)))) (.node (.node (.node (.leaf 22 Tryz.t22 Tryz.t22 false) (.leaf 150 Tryz.t150 Tryz.t150 false)) (.leaf 214 Tryz.t214 Tryz.t214 false)) (.node (.node (.leaf 54 Tryz.t54 Tryz.t53 false) (.leaf 182 Tryz.t182 Tryz.t182 false)) (.node (.leaf 118 Tryz.t118 Tryz.t117 false) (.leaf 246 Tryz.t246 Tryz.t246 false))))) (.node (.node (.node (.node (.leaf 14 Tryz.t14 Tryz.t13 false) (.leaf 142 Tryz.t142 Tryz.t142 false)) (.node (.leaf 78 Tryz.t78 Tryz.t78 false) (.leaf 206 Tryz.t206 Tryz.t206 false))) (.node (.node (.leaf 46 Tryz.t46 Tryz.t45 true) (.leaf 174 Tryz.t174 Tryz.t174 false)) (.node (.leaf 110 Tryz.t110 Tryz.t110 false) (.leaf 238 Tryz.t238 Tryz.t238 false)))) (.node (.node (.node (.leaf 30 Tryz.t30 Tryz.t30 false) (.leaf 158 Tryz.t158 Tryz.t158 false)) (.node (.leaf 94 Tryz.t94 Tryz.t94 false) (.leaf 222 Tryz.t222 Tryz.t222 false))) (.node (.node (.leaf 62 Tryz.t62 Tryz.t62 false) (.leaf 190 Tryz.t190 Tryz.t190 false)) (.node (.leaf 126 Tryz.t126 Tryz.t126 false) (.leaf 254 Tryz.t254 Tryz.t21 false)))))))) (.node (.node (.node (.node (.node (.node (.node (.node (.leaf 1 Tryz.t1 Tryz.t1 false) (.leaf 257 Tryz.t257 Tryz.t256 false)) (.leaf 129 Tryz.t129 Tryz.t128 true)) (.node (.leaf 65 Tryz.t65 Tryz.t65 false) (.leaf 193 Tryz.t193 Tryz.t193 false))) (.node (.node (.leaf 33 Tryz.t33 Tryz.t33 false) (.leaf 161 Tryz.t161 Tryz.t161 false)) (.node (.leaf 97 Tryz.t97 Tryz.t97 false) (.leaf 225 Tryz.t225 Tryz.t225 false)))) (.node (.node (.node (.leaf 17 Tryz.t17 Tryz.t17 false) (.leaf 145 Tryz.t145 Tryz.t145 false)) (.leaf 81 Tryz.t81 Tryz.t81 false)) (.node (.node (.leaf 49 Tryz.t49 Tryz.t49 false) (.leaf 177 Tryz.t177 Tryz.t177 false)) (.node (.leaf 113 Tryz.t113 Tryz.t113 false) (.leaf 241 Tryz.t241 Tryz.t241 false))))) (.node (.node (.node (.node (.node (.leaf 9 Tryz.t9 Tryz.t9 false) (.leaf 265 Tryz.t265 Tryz.t265 false)) (.leaf 137 Tryz.t137 Tryz.t137 false)) (.node (.leaf 73 Tryz.t73 Tryz.t73 false) (.leaf 201 Tryz.t201 Tryz.t201 false))) (.node (.node (.leaf 41 Tryz.t41 Tryz.t40 false) (.leaf 169 Tryz.t169 Tryz.t169 false)) (.node (.leaf 105 Tryz.t105 Tryz.t105 false) (.leaf 233 Tryz.t233 Tryz.t233 false)))) (.node (.node (.node (.leaf 25 Tryz.t25 Tryz.t24 false) (.leaf 153 Tryz.t153 Tryz.t153 false)) (.node (.leaf 89 Tryz.t89 Tryz.t89 false) (.leaf 217 Tryz.t217 Tryz.t217 false))) (.node (.node (.leaf 57 Tryz.t57 Tryz.t57 false) (.leaf 185 Tryz.t185 Tryz.t185 false)) (.node (.leaf 121 Tryz.t121 Tryz.t121 false) (.leaf 249 Tryz.t249 Tryz.t249 false)))))) (.node (.node (.node (.node (.node (.node (.leaf 5 Tryz.t5 Tryz.t5 false) (.leaf 261 Tryz.t261 Tryz.t260 false)) (.leaf 133 Tryz.t133 Tryz.t133 false)) (.node (.leaf 69 Tryz.t69 Tryz.t69 false) (.leaf 197 Tryz.t197 Tryz.t197 false))) (.node (.node (.leaf 37 Tryz.t37 Tryz.t37 false) (.leaf 165 Tryz.t165 Tryz.t165 false)) (.node (.leaf 101 Tryz.t101 Tryz.t101 false) (.leaf 229 Tryz.t229 Tryz.t229 false)))) (.node (.node (.node (.leaf 21 Tryz.t21 Tryz.t21 false) (.leaf 149 Tryz.t149 Tryz.t149 false)) (.node (.leaf 85 Tryz.t85 Tryz.t85 false) (.leaf 213 Tryz.t213 Tryz.t213 false))) (.node (.node (.leaf 53 Tryz.t53 Tryz.t53 false) (.leaf 181 Tryz.t181 Tryz.t181 false)) (.node (.leaf 117 Tryz.t117 Tryz.t117 false) (.leaf 245 Tryz.t245 Tryz.t244 false))))) (.node (.node (.node (.node (.leaf 13 Tryz.t13 Tryz.t13 false) (.leaf 141 Tryz.t141 Tryz.t141 false)) (.node (.leaf 77 Tryz.t77 Tryz.t77 false) (.leaf 205 Tryz.t205 Tryz.t205 false))) (.node (.node (.leaf 45 Tryz.t45 Tryz.t45 false) (.leaf 173 Tryz.t173 Tryz.t173 false)) (.leaf 237 Tryz.t237 Tryz.t237 false))) (.node (.node (.node (.leaf 29 Tryz.t29 Tryz.t29 false) (.leaf 157 Tryz.t157 Tryz.t157 false)) (.node (.leaf 93 Tryz.t93 Tryz.t93 false) (.leaf 221 Tryz.t221 Tryz.t221 false))) (.node (.node (.leaf 61 Tryz.t61 Tryz.t61 false) (.leaf 189 Tryz.t189 Tryz.t189 false)) (.leaf 253 Tryz.t253 Tryz.t253 false)))))) (.node (.node (.node (.node (.node (.node (.node (.leaf 3 Tryz.t3 Tryz.t3 false) (.leaf 259 Tryz.t259 Tryz.t259 false)) (.leaf 131 Tryz.t131 Tryz.t131 false)) (.node (.leaf 67 Tryz.t67 Tryz.t67 false) (.leaf 195 Tryz.t195 Tryz.t3 false))) (.node (.node (.leaf 35 Tryz.t35 Tryz.t35 false) (.leaf 163 Tryz.t163 Tryz.t163 false)) (.node (.leaf 99 Tryz.t99 Tryz.t99 false) (.leaf 227 Tryz.t227 Tryz.t227 false)))) (.node (.node (.node (.leaf 19 Tryz.t19 Tryz.t18 false) (.leaf 147 Tryz.t147 Tryz.t147 false)) (.leaf 211 Tryz.t211 Tryz.t211 false)) (.node (.node (.leaf 51 Tryz.t51 Tryz.t51 false) (.leaf 179 Tryz.t179 Tryz.t179 false)) (.node (.leaf 115 Tryz.t115 Tryz.t115 false) (.leaf 243 Tryz.t243 Tryz.t243 false))))) (.node (.node (.node (.node (.node (.leaf 11 Tryz.t11 Tryz.t9 false) (.leaf 267 Tryz.t267 Tryz.t267 false)) (.leaf 139 Tryz.t139 Tryz.t139 false)) (.node (.leaf 75 Tryz.t75 Tryz.t75 false) (.leaf 203 Tryz.t203 Tryz.t203 false))) (.node (.node (.leaf 43 Tryz.t43 Tryz.t42 false) (.leaf 171 Tryz.t171 Tryz.t171 false)) (.node (.leaf 107 Tryz.t107 Tryz.t107 false) (.leaf 235 Tryz.t235 Tryz.t235 false)))) (.node (.node (.node (.leaf 27 Tryz.t27 Tryz.t27 false) (.leaf 155 Tryz.t155 Tryz.t155 false)) (.node (.leaf 91 Tryz.t91 Tryz.t91 false) (.leaf 219 Tryz.t219 Tryz.t219 false))) (.node (.leaf 187 Tryz.t187 Tryz.t187 false) (.node (.leaf 123 Tryz.t123 Tryz.t123 false) (.leaf 251 Tryz.t251 Tryz.t5 false)))))) (.node (.node (.node (.node (.node (.node (.leaf 7 Tryz.t7 Tryz.t7 false) (.leaf 263 Tryz.t263 Tryz.t262 false)) (.leaf 135 Tryz.t135 Tryz.t135 false)) (.node (.leaf 71 Tryz.t71 Tryz.t70 false) (.leaf 199 Tryz.t199 Tryz.t199 false))) (.node (.node (.leaf 39 Tryz.t39 Tryz.t39 false) (.leaf 167 Tryz.t167 Tryz.t167 false)) (.node (.leaf 103 Tryz.t103 Tryz.t103 false) (.leaf 231 Tryz.t231 Tryz.t127 false)))) (.node (.node (.node (.leaf 23 Tryz.t23 Tryz.t23 false) (.leaf 151 Tryz.t151 Tryz.t151 false)) (.node (.leaf 87 Tryz.t87 Tryz.t87 false) (.leaf 215 Tryz.t215 Tryz.t215 false))) (.node (.node (.leaf 55 Tryz.t55 Tryz.t55 false) (.leaf 183 Tryz.t183 Tryz.t183 false)) (.node (.leaf 119 Tryz.t119 Tryz.t119 false) (.leaf 247 Tryz.t247 Tryz.t247 false))))) (.node (.node (.node (.node (.leaf 15 Tryz.t15 Tryz.t15 false) (.leaf 143 Tryz.t143 Tryz.t143 false)) (.node (.leaf 79 Tryz.t79 Tryz.t78 false) (.leaf 207 Tryz.t207 Tryz.t207 false))) (.node (.node (.leaf 47 Tryz.t47 Tryz.t47 false) (.leaf 175 Tryz.t175 Tryz.t175 false)) (.node (.leaf 111 Tryz.t111 Tryz.t111 false) (.leaf 239 Tryz.t239 Tryz.t239 false)))) (.node (.node (.node (.leaf 31 Tryz.t31 Tryz.t30 false) (.leaf 159 Tryz.t159 Tryz.t159 false)) (.node (.leaf 95 Tryz.t95 Tryz.t95 false) (.leaf 223 Tryz.t223 Tryz.t223 false))) (.node (.node (.leaf 63 Tryz.t63 Tryz.t63 false) (.leaf 191 Tryz.t191 Tryz.t191 false)) (.node (.leaf 127 Tryz.t127 Tryz.t127 false) (.leaf 255 Tryz.t255 Tryz.t21 false))))))))))
theorem bulk_at {H:Type}: ∀{xs:List (DataW H)} {i:Nat} {x:DataW H},xs[i]? =some x->Rows.uptoBulk x<=Rows.uptoBulkAll xs
 | [],_,_,h=>by simp at h
 |y::xs,0,x,h=>by
  have h:y=x:=by simpa using h
  subst h;simp only [Rows.uptoBulkAll];omega
 |y::xs,i+1,x,h=>by
  have:=bulk_at (xs:=xs) (i:=i) (x:=x) (by simpa using h)
  simp only [Rows.uptoBulkAll];omega
structure RowN (l:List DV) (N:Nat):Prop where
 sb:rowSB l
 s:(gB l).v.i.s.inR
 c:(gB l).v.i.c.inR
 n:gn9 l<=N
theorem RowN.ok {l:List DV} {N:Nat} (h:RowN l N) (hN:N*16<=140737488351232):rowOkB l:=⟨h.sb.1,h.sb.2,⟨by show (gN (gn9 l) (gf9 l)).length*16<=_;rw [gN_length];have:=h.n;omega,fun _ _=>rfl⟩,h.s,h.c⟩
theorem rows_of {k:Nat} {f:Nat->List DV} {N:Nat} (h: ∀i,i<k->RowN (f i) N) (hN:N*16<=140737488351232):RowsOk k f:=⟨fun i hi=>(h i hi).ok hN⟩
theorem names_of {k:Nat} {f:Nat->List DV} {N:Nat} (h: ∀i,i<k->RowN (f i) N): ∀x∈gBs k f,x.v.t.names.length<=N:=by
 intro x hx;obtain ⟨j,hj,rfl⟩:=mem_atB hx
 rw [gBs_length] at hj;rw [atB_gBs hj];show (gN (gn9 (f j)) (gf9 (f j))).length<=N
 rw [gN_length];exact (h j hj).n
theorem open_bd {H:Type} {n:Nat} {cs:List DV} {d:DataW H} {tt:TT} (htt:isT tt) (h:Rd tt.get (n+5) 79 cs d):RowN cs (Rows.uptoBulk d):=by
 unfold isT at htt;subst htt;obtain ⟨_,rfl,⟨_,_,_,_,rfl,rfl,⟨t_1,rfl,_,rfl⟩,⟨_,_,_,_,rfl,rfl,⟨_,rfl,⟨_,_,_,_,rfl,rfl,⟨_,rfl,⟨_,_,_,_,rfl,rfl,⟨b_2,rfl,rfl⟩,⟨_,_,_,_,rfl,rfl,⟨n_3,rfl,wn_3,rfl⟩,⟨_,_,_,_,rfl,rfl,⟨n_4,rfl,wn_4,rfl⟩,⟨rfl,rfl⟩⟩⟩⟩⟩,⟨_,_,_,_,rfl,rfl,⟨_,rfl,⟨_,_,_,_,rfl,rfl,⟨b_5,rfl,rfl⟩,⟨_,_,_,_,rfl,rfl,⟨n_6,rfl,wn_6,rfl⟩,⟨_,_,_,_,rfl,rfl,⟨n_7,rfl,wn_7,rfl⟩,⟨rfl,rfl⟩⟩⟩⟩⟩,⟨_,_,_,_,rfl,rfl,⟨_,rfl,⟨_,_,_,_,rfl,rfl,⟨b_8,rfl,rfl⟩,⟨_,_,_,_,rfl,rfl,⟨sz_9,m_9,f_9,rfl,q_9,lm_9,y_9⟩,⟨rfl,rfl⟩⟩⟩⟩,⟨rfl,rfl⟩⟩⟩⟩⟩,⟨rfl,rfl⟩⟩⟩⟩:=h
 have wn_3:=rowI wn_3
 have wn_4:=rowI wn_4
 have wn_6:=rowI wn_6
 have wn_7:=rowI wn_7
 have q_9:sz_9=1:=q_9;subst q_9
 refine ⟨⟨.inl rfl, ?_⟩,⟨wn_3,wn_4⟩,⟨wn_6,wn_7⟩, ?_⟩
 . intro i hi;have hi:i<m_9:=hi
   show f_9 i= [st (gT (f_9 i))]
   rcases y_9 with ⟨hm,_⟩|⟨xs,_,_,hl,hx⟩
   . omega
   . obtain ⟨z,f1,_,_⟩:=hx i (xs[i]'(by omega)) (by simp)
     rw [f1];rfl
 . show m_9<=_
   rcases y_9 with ⟨hm,rfl⟩|⟨xs,sp,rfl,hl,_⟩
   . omega
   . have:=bulk_len xs
     simp only [Rows.uptoBulk,Rows.uptoBulkAll];omega
theorem open_st {H:Type} {n:Nat} {cs:List DV} {d:DataW H} {tt:TT} (htt:isT tt) (h:Rd tt.get (n+9) 52 cs d): ∃eA kA fA sA lA hA bA mA rA zA pA gA,cs= [.v (.bool eA),.lst 9 kA fA,.v (.bool sA),.v (.int .i64 lA),.v (.int .i64 hA),.v (.bool bA),.v (.int .i64 mA),.v (.int .i64 rA),.v (.bool zA),.lst 1 pA gA]/\ (∀i,i<kA->RowN (fA i) (Rows.uptoBulk d))/\ kA<=Rows.uptoBulk d/\ Sp.inR ⟨sA,lA,hA⟩/\ Cg.inR ⟨bA,mA,rA⟩/\ (∀i,i<pA->gA i= [st (gT (gA i))])/\ pA<=Rows.uptoBulk d:=by
 unfold isT at htt;subst htt;obtain ⟨_,rfl,⟨_,_,_,_,rfl,rfl,⟨_,rfl,⟨_,_,_,_,rfl,rfl,⟨b_1,rfl,rfl⟩,⟨_,_,_,_,rfl,rfl,⟨sz_2,m_2,f_2,rfl,q_2,lm_2,y_2⟩,⟨rfl,rfl⟩⟩⟩⟩,⟨_,_,_,_,rfl,rfl,⟨_,rfl,⟨_,_,_,_,rfl,rfl,⟨_,rfl,⟨_,_,_,_,rfl,rfl,⟨b_3,rfl,rfl⟩,⟨_,_,_,_,rfl,rfl,⟨n_4,rfl,wn_4,rfl⟩,⟨_,_,_,_,rfl,rfl,⟨n_5,rfl,wn_5,rfl⟩,⟨rfl,rfl⟩⟩⟩⟩⟩,⟨_,_,_,_,rfl,rfl,⟨_,rfl,⟨_,_,_,_,rfl,rfl,⟨b_6,rfl,rfl⟩,⟨_,_,_,_,rfl,rfl,⟨n_7,rfl,wn_7,rfl⟩,⟨_,_,_,_,rfl,rfl,⟨n_8,rfl,wn_8,rfl⟩,⟨rfl,rfl⟩⟩⟩⟩⟩,⟨_,_,_,_,rfl,rfl,⟨_,rfl,⟨_,_,_,_,rfl,rfl,⟨b_9,rfl,rfl⟩,⟨_,_,_,_,rfl,rfl,⟨sz_10,m_10,f_10,rfl,q_10,lm_10,y_10⟩,⟨rfl,rfl⟩⟩⟩⟩,⟨rfl,rfl⟩⟩⟩⟩⟩,⟨rfl,rfl⟩⟩⟩⟩:=h
 have q_2:sz_2=9:=q_2;subst q_2
 have wn_4:=rowI wn_4
 have wn_5:=rowI wn_5
 have wn_7:=rowI wn_7
 have wn_8:=rowI wn_8
 have q_10:sz_10=1:=q_10;subst q_10
 refine ⟨_,_,_,_,_,_,_,_,_,_,_,_,rfl, ?_⟩
 refine ⟨?_, ?_,⟨wn_4,wn_5⟩,⟨wn_7,wn_8⟩, ?_, ?_⟩
 . intro i hi;rcases y_2 with ⟨hm,_⟩|⟨xs,sp,rfl,hl,hx⟩
   . omega
   . have hg:xs[i]? =some (xs[i]'(by omega)):=by simp
     have h1:=open_bd (by exact rfl) (hx i _ hg)
     have h2:=bulk_at hg
     exact ⟨h1.sb,h1.s,h1.c,by have:=h1.n;simp only [Rows.uptoBulk,Rows.uptoBulkAll];omega⟩
 . rcases y_2 with ⟨hm,rfl⟩|⟨xs,sp,rfl,hl,_⟩
   . omega
   . have:=bulk_len xs
     simp only [Rows.uptoBulk,Rows.uptoBulkAll];omega
 . intro i hi;rcases y_10 with ⟨hm,_⟩|⟨xs,_,_,hl,hx⟩
   . omega
   . obtain ⟨z,f1,_,_⟩:=hx i (xs[i]'(by omega)) (by simp)
     rw [f1];rfl
 . rcases y_10 with ⟨hm,rfl⟩|⟨xs,sp,rfl,hl,_⟩
   . omega
   . have:=bulk_len xs
     simp only [Rows.uptoBulk,Rows.uptoBulkAll];omega
theorem open_sd {H:Type} {n:Nat} {cs:List DV} {d:DataW H} {tt:TT} (htt:isT tt) (h:Rd tt.get (n+11) 54 cs d) (hN:Rows.uptoBulk d<=100000000):rowOkD cs/\ (gSd cs).s.v.t.names.length<=Rows.uptoBulk d:=by
 unfold isT at htt;subst htt;obtain ⟨_,rfl,⟨_,_,_,_,rfl,rfl,⟨_,rfl,⟨_,_,_,_,rfl,rfl,⟨t_1,rfl,_,rfl⟩,⟨_,_,_,_,rfl,rfl,⟨n_2,rfl,wn_2,rfl⟩,⟨rfl,rfl⟩⟩⟩⟩,⟨cs_3,_,dx_3,_,rfl,rfl,hs_3,⟨rfl,rfl⟩⟩⟩⟩:=h
 have wn_2:=rowI wn_2
 obtain ⟨eA,kA,fA,sA,lA,hA,bA,mA,rA,zA,pA,gA,rfl,fB,vk,vs,vc,gp,vp⟩:=open_st (by exact rfl) hs_3
 have hb0:=bulk_pos dx_3
 have hN2:=hN
 simp only [Rows.uptoBulk,Rows.uptoBulkAll] at hN2;have hl0:okL (gBs kA fA):=okL_rows (rows_of fB (by omega))
 have hv0:okV ⟨⟨⟨sA,lA,hA⟩,⟨bA,mA,rA⟩⟩,⟨zA,gN pA gA⟩⟩:=⟨⟨by show (gN pA gA).length*16<=_;rw [gN_length];omega,fun _ _=>rfl⟩,vs,vc⟩
 refine ⟨⟨?_,⟨wn_2,hl0,hv0,by show (gBs kA fA).length<=_;rw [gBs_length];omega⟩⟩,by show (gN pA gA).length<=_;rw [gN_length];simp only [Rows.uptoBulk,Rows.uptoBulkAll];omega⟩
 refine ⟨rfl,fun j a b ha hb=> ?_⟩
 match j with
 |0=>cases ha;cases hb;exact .refl _
 |1=>cases ha;cases hb;exact .refl _
 |2=>cases ha;cases hb;exact .refl _
 |3=>
  cases ha;cases hb
  show DvE (.lst 9 kA fA) (.lst 9 (gBs kA fA).length (rwB (gBs kA fA)))
  rw [gBs_length];exact canonB (rows_of fB (by omega)).h
 |4=>cases ha;cases hb;exact .refl _
 |5=>cases ha;cases hb;exact .refl _
 |6=>cases ha;cases hb;exact .refl _
 |7=>cases ha;cases hb;exact .refl _
 |8=>cases ha;cases hb;exact .refl _
 |9=>cases ha;cases hb;exact .refl _
 |10=>cases ha;cases hb;exact .refl _
 |11=>
  cases ha;cases hb
  have e:lst (gN pA gA)= .lst 1 pA fun i=> [st (atS (gN pA gA) i)]:=by show DV.lst 1 (gN pA gA).length _=_;rw [gN_length]
  show DvE (.lst 1 pA gA) (lst (gN pA gA))
  rw [e];exact .rows fun i hi=>by
   have e2: [st (atS (gN pA gA) i)]=gA i:=by rw [gp i hi];congr 2;simp [atS,gN,hi,List.getD_eq_getElem?_getD]
   rw [e2];exact ⟨rfl,fun j a b ha hb=>by rw [ha] at hb;cases hb;exact .refl _⟩
 |j+12=>exact absurd ha (by simp)
theorem open_gl {H:Type} {n:Nat} {cs:List DV} {d:DataW H} {tt:TT} (htt:isT tt) (h:Rd tt.get (n+5) 76 cs d):cs=glC (gGl cs)/\ (gGl cs).ok:=by
 unfold isT at htt;subst htt;obtain ⟨_,rfl,⟨_,_,_,_,rfl,rfl,⟨t_1,rfl,_,rfl⟩,⟨_,_,_,_,rfl,rfl,⟨b_2,rfl,rfl⟩,⟨_,_,_,_,rfl,rfl,⟨n_3,rfl,wn_3,rfl⟩,⟨_,_,_,_,rfl,rfl,⟨n_4,rfl,wn_4,rfl⟩,⟨rfl,rfl⟩⟩⟩⟩⟩⟩:=h
 have wn_3:=rowI wn_3
 have wn_4:=rowI wn_4
 exact ⟨rfl,wn_3,wn_4⟩
theorem open_room {H:Type} {n:Nat} {a:Ar} {d:DataW H} {tt:TT} (htt:isT tt) (h:RdAr tt.get (n+16) 31 a d): ∃n f c w e p q u z,a= .agg [.d (.lst 4 n f),.d (.lst 5 c w),.d (.v (.bool e)),.d (.lst 9 p q),.d (.lst 12 u z)]/\ n<=Rows.uptoBulk d/\ (∀i,i<n->f i=glC (gGl (f i))/\ (gGl (f i)).ok)/\ p<=Rows.uptoBulk d/\ (∀i,i<p->RowN (q i) (Rows.uptoBulk d))/\ u<=Rows.uptoBulk d/\ (Rows.uptoBulk d<=100000000-> ∀i,i<u->rowOkD (z i)/\ (gSd (z i)).s.v.t.names.length<=Rows.uptoBulk d):=by
 unfold isT at htt;subst htt;obtain ⟨_,rfl,⟨_,rfl,⟨_,_,_,_,rfl,rfl,⟨_,rfl,⟨_,_,_,_,rfl,rfl,⟨sz_1,m_1,f_1,rfl,q_1,lm_1,y_1⟩,⟨_,_,_,_,rfl,rfl,⟨sz_2,m_2,f_2,rfl,q_2,lm_2,y_2⟩,⟨rfl,rfl⟩⟩⟩⟩,⟨_,_,_,_,rfl,rfl,⟨_,rfl,⟨_,_,_,_,rfl,rfl,⟨b_3,rfl,rfl⟩,⟨_,_,_,_,rfl,rfl,⟨sz_4,m_4,f_4,rfl,q_4,lm_4,y_4⟩,⟨rfl,rfl⟩⟩⟩⟩,⟨_,_,_,_,rfl,rfl,⟨sz_5,m_5,f_5,rfl,q_5,lm_5,y_5⟩,⟨rfl,rfl⟩⟩⟩⟩⟩⟩:=h
 have q_1:sz_1=4:=q_1;subst q_1
 have q_2:sz_2=5:=q_2;subst q_2
 have q_4:sz_4=9:=q_4;subst q_4
 have q_5:sz_5=12:=q_5;subst q_5
 refine ⟨_,_,_,_,_,_,_,_,_,rfl, ?_, ?_, ?_, ?_, ?_, ?_⟩
 . rcases y_1 with ⟨hm,rfl⟩|⟨xs,sp,rfl,hl,_⟩
   . omega
   . have:=bulk_len xs
     simp only [Rows.uptoBulk,Rows.uptoBulkAll];omega
 . intro i hi;rcases y_1 with ⟨hm,_⟩|⟨xs,sp,rfl,hl,hx⟩
   . omega
   . exact open_gl (by exact rfl) (hx i (xs[i]'(by omega)) (by simp))
 . rcases y_4 with ⟨hm,rfl⟩|⟨xs,sp,rfl,hl,_⟩
   . omega
   . have:=bulk_len xs
     simp only [Rows.uptoBulk,Rows.uptoBulkAll];omega
 . intro i hi;rcases y_4 with ⟨hm,_⟩|⟨xs,sp,rfl,hl,hx⟩
   . omega
   . have hg:xs[i]? =some (xs[i]'(by omega)):=by simp
     have h1:=open_bd (by exact rfl) (hx i _ hg)
     have h2:=bulk_at hg
     exact ⟨h1.sb,h1.s,h1.c,by have:=h1.n;simp only [Rows.uptoBulk,Rows.uptoBulkAll];omega⟩
 . rcases y_5 with ⟨hm,rfl⟩|⟨xs,sp,rfl,hl,_⟩
   . omega
   . have:=bulk_len xs
     simp only [Rows.uptoBulk,Rows.uptoBulkAll];omega
 . intro hN i hi;rcases y_5 with ⟨hm,_⟩|⟨xs,sp,rfl,hl,hx⟩
   . omega
   . have hg:xs[i]? =some (xs[i]'(by omega)):=by simp
     have h2:=bulk_at hg
     have h1:=open_sd (by exact rfl) (hx i _ hg) (by simp only [Rows.uptoBulk,Rows.uptoBulkAll] at hN;omega)
     exact ⟨h1.1,by have:=h1.2;simp only [Rows.uptoBulk,Rows.uptoBulkAll];omega⟩
theorem open_txt {H:Type} {n:Nat} {a:Ar} {d:DataW H} {tt:TT} (htt:isT tt) (h:RdAr tt.get (n+16) 9 a d): ∃x,a= .c (.d (.v (.string x))):=by
 unfold isT at htt;subst htt;obtain ⟨_,rfl,⟨t_1,e0,_,rfl⟩⟩:=h
 cases e0;exact ⟨_,rfl⟩
theorem open_val {H:Type} {n:Nat} {a:Ar} {d:DataW H} {tt:TT} (htt:isT tt) (h:RdAr tt.get (n+16) 43 a d): ∃s l h b m r z k f,a= .agg [.d (.v (.bool s)),.d (.v (.int .i64 l)),.d (.v (.int .i64 h)),.d (.v (.bool b)),.d (.v (.int .i64 m)),.d (.v (.int .i64 r)),.d (.v (.bool z)),.d (.lst 1 k f)]/\ ((-9223372036854775808<=l/\ l<9223372036854775808)/\ -9223372036854775808<=h/\ h<9223372036854775808)/\ ((-9223372036854775808<=m/\ m<9223372036854775808)/\ -9223372036854775808<=r/\ r<9223372036854775808)/\ (∀i,i<k->f i= [st (gT (f i))])/\ k<=Rows.uptoBulk d:=by
 unfold isT at htt;subst htt;obtain ⟨_,rfl,⟨_,rfl,⟨_,_,_,_,rfl,rfl,⟨_,rfl,⟨_,_,_,_,rfl,rfl,⟨b_1,rfl,rfl⟩,⟨_,_,_,_,rfl,rfl,⟨n_2,rfl,wn_2,rfl⟩,⟨_,_,_,_,rfl,rfl,⟨n_3,rfl,wn_3,rfl⟩,⟨rfl,rfl⟩⟩⟩⟩⟩,⟨_,_,_,_,rfl,rfl,⟨_,rfl,⟨_,_,_,_,rfl,rfl,⟨b_4,rfl,rfl⟩,⟨_,_,_,_,rfl,rfl,⟨n_5,rfl,wn_5,rfl⟩,⟨_,_,_,_,rfl,rfl,⟨n_6,rfl,wn_6,rfl⟩,⟨rfl,rfl⟩⟩⟩⟩⟩,⟨_,_,_,_,rfl,rfl,⟨_,rfl,⟨_,_,_,_,rfl,rfl,⟨b_7,rfl,rfl⟩,⟨_,_,_,_,rfl,rfl,⟨sz_8,m_8,f_8,rfl,q_8,lm_8,y_8⟩,⟨rfl,rfl⟩⟩⟩⟩,⟨rfl,rfl⟩⟩⟩⟩⟩⟩:=h
 have wn_2:=rowI wn_2
 have wn_3:=rowI wn_3
 have wn_5:=rowI wn_5
 have wn_6:=rowI wn_6
 have q_8:sz_8=1:=q_8;subst q_8
 refine ⟨_,_,_,_,_,_,_,_,_,rfl,⟨wn_2,wn_3⟩,⟨wn_5,wn_6⟩, ?_, ?_⟩
 . intro i hi;rcases y_8 with ⟨hm,_⟩|⟨xs,_,_,hl,hx⟩
   . omega
   . obtain ⟨z,f1,_,_⟩:=hx i (xs[i]'(by omega)) (by simp)
     rw [f1];rfl
 . rcases y_8 with ⟨hm,rfl⟩|⟨xs,sp,rfl,hl,_⟩
   . omega
   . have:=bulk_len xs
     simp only [Rows.uptoBulk,Rows.uptoBulkAll];omega
theorem ownLookNames:ownKnob Tryz.prog.godebug=none:=by kernel_rfl
theorem specLookNames: ∀(H:Type) (ds:List (DataW H)),ds.length=Tryz.f4.params.size->(Rows.lookNamesSpec.fn H (ds++ [])).results= [.lit (.bool true)]/\ (Rows.lookNamesSpec.fn H (ds++ [])).args=ds/\ (Rows.lookNamesSpec.fn H (ds++ [])).vars= []:=by
 intro H ds h;have h:ds.length=3:=h
 match ds,h with
 | [d0,d1,d2],_=>exact ⟨rfl,rfl,rfl⟩
theorem contractLookNames (H:Type) (enc:TypeId×Value->H) (W:World) (base:Nat) (args:Array Value) (ds gs:List (DataW H)) (before:List MemPlace)
 (hval: ∀(j:Nat) t v,Tryz.f4.params[j]? =some t->args[j]? =some v->Value.okWide Tryz.prog W .any base t v)
 (hW:DataW.Whole enc Tryz.prog Tryz.f4.params.toList Rows.lookNamesSpec.vars false W args.toList ds gs before) (hk:Rows.uptoSmall H (ds++gs)=true):
 Calls Tryz.prog 4 args W fun e W'=> ∃v,e= .returned v/\ Rows.lookNamesSpec.post enc Tryz.prog Tryz.f4 false true false false W args v W':=by
 refine law_post (TT.tysOk tys_ok) (by kernel_rfl) (ts0:= [3,4,9,39,36,38,41,43,79,26,28,52,46,54,29,76,22,266,258,268,259,34,32,261,23,25,31]) (by kernel_rfl) (tb:=4) (by kernel_rfl) (by kernel_rfl) rfl (by kernel_rfl) rfl specLookNames (GInv.of_none (by kernel_rfl)) (callable_of Tryz.func4 rfl rfl) ?_ hval hW
 intro n vs h;have h:=rdArs_le (Nat.le_add_right n 16) h
 obtain ⟨a0,as0,d0,ds0,ea0,ed0,h0,⟨a1,as1,d1,ds1,ea1,ed1,h1,⟨a2,as2,d2,ds2,ea2,ed2,h2,⟨rfl,rfl⟩⟩⟩⟩:=h
 subst ed2 ed1 ed0;subst ea2 ea1 ea0;obtain ⟨n0,f0,c0,w0,e0,p0,q0,u0,z0,ar0,pn0,pg0,pp0,pb0,pu0,ps0⟩:=open_room (by exact rfl) h0
 obtain ⟨x1,ar1⟩:=open_txt (by exact rfl) h1
 obtain ⟨s2,l2,h2,b2,m2,r2,z2,k2,f2,ar2,ps2,pc2,pf2,pk2⟩:=open_val (by exact rfl) h2
 subst ar0;subst ar1;subst ar2;have hk:=of_decide_eq_true hk
 simp only [List.cons_append,List.nil_append,Rows.uptoBulkAll] at hk;obtain hs:=ps0 (by omega)
 have hg:RowsG n0 f0:=⟨fun i hi=>pg0 i hi⟩
 have hb:RowsOk p0 q0:=rows_of pb0 (by omega)
 have hnm:=names_of pb0
 exact fcLNames _ _ _ _ rfl ⟨⟨⟨by omega,hg⟩,⟨by omega,hb⟩,⟨by omega,⟨fun i hi=>(hs i hi).1⟩⟩,fun x hx=>Nat.le_trans (hnm x hx) (by omega),fun x hx=>by
  obtain ⟨i,hi,rfl⟩:=mem_atD hx
  rw [gD_length] at hi;rw [atD_gD hi];exact Nat.le_trans (hs i hi).2 (by omega)⟩,⟨⟨by omega,pf2⟩,ps2,pc2⟩⟩
theorem liftedLookNames (os:Os) (started:os.Started) (H:Type) (enc:TypeId×Value->H) (F:Stop.Interp):
 ReturnsInHanded {} Tryz.checked os 4 .any ((Rows.OpenSpec.upto Rows.lookNamesSpec).pre6 enc Tryz.prog Tryz.f4 Rows.lookNamesUptoRow.domain false) (((Rows.OpenSpec.upto Rows.lookNamesSpec).at F).post enc Tryz.prog Tryz.f4 false true false false):=by
 refine returnsInHanded_of_cond (C:=Tryz.checked) (s:=Rows.OpenSpec.upto Rows.lookNamesSpec) (k:=Rows.uptoSmall) rfl ownLookNames started (by kernel_rfl) Tryz.func4
  (OpenSpec.witness (enc:=enc) (C:=Tryz.checked) (s:=Rows.OpenSpec.upto Rows.lookNamesSpec) (k:=Rows.uptoSmall) rfl false ⟨#[], #[.agg #[.slice none 0 0,.slice none 0 0,.bool false,.slice none 0 0,.slice none 0 0],.string ByteArray.empty,.agg #[.bool false,.int .i64 0,.int .i64 0,.bool false,.int .i64 0,.int .i64 0,.bool false,.slice none 0 0]],[]⟩ 8 (by kernel_rfl) (by kernel_rfl) (by kernel_rfl)
   (x:=([.agg [.agg [.nil,.nil],.agg [.lit (.bool false),.nil],.nil],.lit (.string []),.agg [.agg [.lit (.bool false),.lit (.int .i64 0),.lit (.int .i64 0)],.agg [.lit (.bool false),.lit (.int .i64 0),.lit (.int .i64 0)],.agg [.lit (.bool false),.nil]]],[],[])) (by kernel_rfl) rfl (by kernel_rfl)) ?_
 intro W base args ds gs before hval hW _ hk _;exact contractLookNames H enc W base args ds gs before hval hW hk
theorem provedLookNames:Rows.LookNamesUptoSaid:=
 OpenClaim.holds_of_cond 4 Tryz.f4 rfl rfl rfl rfl rfl rfl rfl ⟨rfl,rfl,rfl,rfl,rfl⟩ rfl rfl rfl rfl rfl (by kernel_rfl) Tryz.func4 (by kernel_rfl)
  (of_decide_eq_true (by kernel_rfl)) (by unfold Func.isWrapper;first|(rw [if_pos (by decide+kernel)];kernel_rfl)|(rw [if_neg (by decide+kernel)];exact ⟨rfl,rfl⟩))
  (fun os started H enc _ F=>liftedLookNames os started H enc F)
end Go.Proofs.YtokjghkehojenaaGreat
