/- The types of this seat as a table for the symbolic executor: each entry is what the program has. -/
import Derived.Test.YtiblbnhknemloaaGreatG3
import Derived.Test.YtiblbnhknemloaaGreatProg
import Derived.Laws.Externs
import Derived.Laws.Strings
import Derived.Shelf.Small.Strs
import Derived.Shelf.Slices.CompactS
import Derived.Ground.SlsfProg
import Derived.Shelf.SlSortCmp.NoneTotal
import Derived.WalkKit
import Derived.Sort.Walk0
set_option linter.all false
set_option maxHeartbeats 8000000
set_option maxRecDepth 100000
namespace Go.Sx
theorem qa {a b:Int} (h:a<=b):a<=b:=h
theorem qb {a b:Int} (h:a<b):a<b:=h
theorem qc {a b:Nat} (h:a<=b):a<=b:=h
theorem qd {a b:Nat} (h:a<b):a<b:=h
class Gq (p:Prop):Prop where
 t:True
instance {a b:Int}:Gq (a<=b):=⟨trivial⟩
instance {a b:Int}:Gq (a<b):=⟨trivial⟩
instance {a b:Nat}:Gq (a<=b):=⟨trivial⟩
instance {a b:Nat}:Gq (a<b):=⟨trivial⟩
theorem qq {p:Prop} [Gq p] (h:p):p:=h
theorem nx {a b c:Bool} {C:Prop} (h:a=b) (n: ¬b=c:=by decide):a=c->C:=fun k=>absurd (h.symm.trans k) n
theorem n1 {C:Prop}:true=false->C:=fun h=>absurd h j5
theorem n2 {C:Prop}:false=true->C:=fun h=>absurd h j5
theorem nd {p C:Prop} [Decidable p] (n: ¬p:=by decide):p->C:=fun h=>absurd h n
end Go.Sx
namespace Go.Proofs.YtiblbnhknemloaaGreat
open Tryz
open Go.Sx
set_option maxRecDepth 100000
abbrev lf (k:Nat) (i u:TypeInfo):TT:= .leaf k i u false
abbrev lg (k:Nat) (i:TypeInfo):TT:= .leaf k i i false
theorem aA:TT.ok prog (.node (.node (.node (.node (.node (.node (.node (.node (lg 256 t256) (.leaf 128 t128 t127 true)) (.node (.node (lg 64 t64) (lg 320 t320)) (lg 192 t192))) (.node (.node (.node (lg 32 t32) (lg 288 t288)) (lg 160 t160)) (.node (.node (lg 96 t96) (lg 352 t352)) .nil))) (.node (.node (.node (.node (lg 16 t16) (lg 272 t272)) (lg 144 t144)) (.node (.node (lf 80 t80 t79) (lg 336 t336)) (lg 208 t208))) (.node (.node (.node (lg 48 t48) (lg 304 t304)) (lg 176 t176)) (.node (.node (lg 112 t112) (lf 368 t368 Tryz.t5)) (lg 240 t240))))) (.node (.node (.node (.node (.node (lf 8 t8 t7) (lg 264 t264)) (lg 136 t136)) (.node (.node (lg 72 t72) (lg 328 t328)) (lf 200 t200 t199))) (.node (.node (.node (lf 40 t40 Tryz.t39) (lg 296 t296)) (lg 168 t168)) (.node (.node (lg 104 t104) (lg 360 t360)) (lg 232 t232)))) (.node (.node (.node (.node (lg 24 t24) (lg 280 t280)) (lg 152 t152)) (.node (.node (lg 88 t88) (lg 344 t344)) (lg 216 t216))) (.node (.node (.node (lf 56 t56 Tryz.t55) (lg 312 t312)) (lg 184 t184)) (.node (.node (lg 120 t120) (lf 376 t376 t375)) (lg 248 t248)))))) (.node (.node (.node (.node (.node (.node (lg 4 Tryz.t4) (lg 260 t260)) (lg 132 t132)) (.node (.node (lg 68 t68) (lg 324 t324)) (lg 196 t196))) (.node (.node (.node (lg 36 t36) (lg 292 t292)) (lg 164 t164)) (.node (lg 100 t100) (lg 228 t228)))) (.node (.node (.node (.node (lg 20 t20) (lg 276 t276)) (lg 148 t148)) (.node (.node (lg 84 t84) (lg 340 t340)) (lg 212 t212))) (.node (.node (.node (lg 52 t52) (lg 308 t308)) (lg 180 t180)) (.node (.node (lg 116 t116) (lf 372 t372 t21)) (lg 244 t244))))) (.node (.node (.node (.node (.node (lg 12 t12) (lg 268 t268)) .nil) (.node (.node (lg 76 Tryz.t76) (lg 332 t332)) (lg 204 t204))) (.node (.node (.node (.leaf 44 t44 t43 true) (lg 300 t300)) (lg 172 t172)) (.node (.node (lg 108 t108) (lg 364 t364)) (lf 236 t236 t235)))) (.node (.node (.node (.node (.leaf 28 t28 t27 true) (lg 284 t284)) (lg 156 t156)) (.node (.node (lg 92 t92) (lg 348 t348)) (lg 220 t220))) (.node (.node (.node (lg 60 t60) (.leaf 316 t316 t316 true)) (lg 188 t188)) (.node (lg 124 t124) (.leaf 252 t252 t251 true))))))) (.node (.node (.node (.node (.node (.node (.node (lg 2 Tryz.t2) (lg 258 t258)) (lg 130 t130)) (.node (.node (lg 66 Tryz.t66) (lf 322 t322 Tryz.t3)) (lg 194 t194))) (.node (.node (.node (.leaf 34 t34 t33 true) (lg 290 t290)) (lg 162 t162)) (.node (.node (lg 98 t98) (.leaf 354 t354 t354 true)) (lg 226 t226)))) (.node (.node (.node (.node (lg 18 t18) (lg 274 t274)) (lg 146 t146)) (.node (.node (lf 82 t82 t81) (lg 338 t338)) (lg 210 t210))) (.node (.node (.node (lg 50 Tryz.t50) (lg 306 t306)) (lg 178 t178)) (.node (.node (lg 114 t114) (lg 370 t370)) (lg 242 t242))))) (.node (.node (.node (.node (.node (lf 10 t10 Tryz.t9) (lg 266 t266)) (lg 138 t138)) (.node (.node (lg 74 t74) (lg 330 t330)) (lg 202 t202))) (.node (.node (.node (.leaf 42 t42 t41 true) (lg 298 t298)) (lg 170 t170)) (.node (lg 362 t362) (lg 234 t234)))) (.node (.node (.node (.node (lg 26 t26) (lg 282 t282)) (lg 154 t154)) (.node (.node (lg 90 t90) (lg 346 t346)) (lg 218 t218))) (.node (.node (.node (lg 58 t58) (lg 314 t314)) (lg 186 t186)) (.node (lg 122 t122) (lg 250 t250)))))) (.node (.node (.node (.node (.node (.node (lf 6 t6 Tryz.t5) (lg 262 t262)) (lg 134 t134)) (.node (.node (lg 70 Tryz.t70) (lg 326 t326)) (lg 198 t198))) (.node (.node (.node (lg 38 t38) (lg 294 t294)) (lg 166 t166)) (.node (.node (lg 102 t102) (lg 358 t358)) (lg 230 t230)))) (.node (.node (.node (.node (lg 22 Tryz.t22) (lg 278 t278)) .nil) (.node (.node (lg 86 t86) (lg 342 t342)) (lg 214 t214))) (.node (.node (.node (lf 54 t54 Tryz.t3) (lg 310 t310)) (lg 182 t182)) (.node (.node (lf 118 t118 t117) (lf 374 t374 t373)) (lg 246 t246))))) (.node (.node (.node (.node (.node (lf 14 t14 t13) (lf 270 t270 t269)) (lg 142 t142)) (.node (.node (lg 78 t78) (lg 334 t334)) (lg 206 t206))) (.node (.node (.node (lg 46 Tryz.t46) (lg 302 t302)) (lg 174 t174)) (.node (.node (lf 110 t110 t109) (lf 366 t366 t365)) (lg 238 t238)))) (.node (.node (.node (.node (lg 30 t30) (lg 286 t286)) (lg 158 t158)) (.node (.node (lg 94 t94) (lg 350 t350)) (lg 222 t222))) (.node (.node (.node (lf 62 t62 t61) (lg 318 t318)) (lg 190 t190)) (.node (lf 126 t126 t125) (lg 254 t254)))))))) (.node (.node (.node (.node (.node (.node (.node (.node (lg 1 Tryz.t1) (lg 257 t257)) (lg 129 t129)) (.node (.node (lf 65 t65 t64) (lg 321 t321)) (lg 193 t193))) (.node (.node (lg 33 t33) (lg 161 t161)) (.node (.node (lf 97 t97 t96) (lg 353 t353)) (lg 225 t225)))) (.node (.node (.node (.node (lg 17 t17) (lg 273 t273)) (lf 145 t145 t144)) (.node (.node (lg 81 t81) (lg 337 t337)) (lg 209 t209))) (.node (.node (.node (lf 49 t49 t48) (lg 305 t305)) (lg 177 t177)) (.node (.node (lg 113 t113) (lg 369 t369)) (lg 241 t241))))) (.node (.node (.node (.node (.node (lg 9 Tryz.t9) (lg 265 t265)) (lf 137 t137 t136)) (.node (.node (lg 73 t73) (lg 329 t329)) (lg 201 t201))) (.node (.node (.node (lg 41 t41) (lg 297 t297)) (lg 169 t169)) (.node (.node (lf 105 t105 t104) (lg 361 t361)) (lg 233 t233)))) (.node (.node (.node (.node (lf 25 Tryz.t25 t24) (lg 281 t281)) (lg 153 t153)) (.node (lf 345 t345 t209) (lg 217 t217))) (.node (.node (.node (lg 57 t57) (lg 313 t313)) (lg 185 t185)) (.node (lg 377 t377) (lg 249 t249)))))) (.node (.node (.node (.node (.node (.node (lg 5 Tryz.t5) (lg 261 t261)) (.leaf 133 t133 t132 true)) (.node (.node (lg 69 t69) (lg 325 t325)) (lg 197 t197))) (.node (.node (.node (lg 37 t37) (lg 293 t293)) (lg 165 t165)) (.node (.node (lg 101 t101) (lg 357 t357)) (lg 229 t229)))) (.node (.node (.node (.node (lg 21 t21) (lg 277 t277)) (lg 149 t149)) (.node (.node (lf 85 t85 t81) (lg 341 t341)) (lg 213 t213))) (.node (.node (.node (lf 53 Tryz.t53 t52) (lg 309 t309)) (lg 181 t181)) (.node (.node (lg 117 t117) (lg 373 t373)) (lg 245 t245))))) (.node (.node (.node (.node (.node (lg 13 t13) (lg 269 t269)) (lg 141 t141)) (.node (.node (lg 77 Tryz.t77) (lg 333 t333)) (lg 205 t205))) (.node (.node (.node (lg 45 Tryz.t45) (lg 301 t301)) .nil) (.node (.node (lg 109 t109) (lg 365 t365)) (lg 237 t237)))) (.node (.node (.node (lg 29 t29) (lg 157 t157)) (.node (.node (lg 93 t93) (lg 349 t349)) (lg 221 t221))) (.node (.node (.node (lg 61 t61) (lg 317 t317)) (.leaf 189 t189 t188 true)) (.node (lg 125 t125) (lg 253 t253))))))) (.node (.node (.node (.node (.node (.node (.node (lg 3 Tryz.t3) (lg 259 t259)) (lg 131 t131)) (.node (lf 67 t67 Tryz.t66) (lg 195 t195))) (.node (.node (lg 291 t291) (lg 163 t163)) (.node (.node (lg 99 t99) (lg 355 t355)) (lg 227 t227)))) (.node (.node (.node (.node (lf 19 t19 t18) (lg 275 t275)) (lg 147 t147)) (.node (.node (lg 83 t83) (lg 339 t339)) (lg 211 t211))) (.node (.node (lf 51 t51 Tryz.t50) (lg 179 t179)) (.node (.node (lg 115 t115) (lf 371 t371 t21)) (lg 243 t243))))) (.node (.node (.node (.node (.node (lf 11 t11 Tryz.t9) (lg 267 t267)) (lg 139 t139)) (.node (.node (lg 75 t75) (lg 331 t331)) .nil)) (.node (.node (.node (lg 43 t43) (lg 299 t299)) (lg 171 t171)) (.node (.node (lg 107 t107) (lf 363 t363 t362)) (lg 235 t235)))) (.node (.node (.node (.node (lg 27 t27) (lg 283 t283)) (lg 155 t155)) (.node (.node (lg 91 t91) (lg 347 t347)) (lg 219 t219))) (.node (.node (.node (lg 59 t59) (lg 315 t315)) (lg 187 t187)) (.node (lg 123 t123) (lg 251 t251)))))) (.node (.node (.node (.node (.node (.node (lg 7 t7) (lg 263 t263)) (.leaf 135 t135 t134 true)) (.node (.node (lf 71 t71 Tryz.t66) (lg 327 t327)) (lg 199 t199))) (.node (.node (.node (lg 39 Tryz.t39) (lg 295 t295)) (lg 167 t167)) (.node (.node (lg 103 t103) (lf 359 t359 t358)) (lf 231 t231 t230)))) (.node (.node (.node (.node (lg 23 t23) (lg 279 t279)) (lg 151 t151)) (.node (.node (lg 87 t87) (lg 343 t343)) (lg 215 t215))) (.node (.node (lg 55 Tryz.t55) (lg 183 t183)) (.node (.node (lg 119 t119) (lg 375 t375)) (lg 247 t247))))) (.node (.node (.node (.node (.node (lg 15 t15) (lg 271 t271)) (lg 143 t143)) (.node (.node (lg 79 t79) (lg 335 t335)) (lg 207 t207))) (.node (.node (.node (lf 47 t47 Tryz.t46) (lg 303 t303)) (lg 175 t175)) (.node (.node (lg 111 t111) (lf 367 t367 Tryz.t5)) (lg 239 t239)))) (.node (.node (.node (.node (lf 31 Tryz.t31 t30) (lg 287 t287)) (lg 159 t159)) (.node (.node (lf 95 t95 t94) (lg 351 t351)) (lg 223 t223))) (.node (.node (.node (lg 63 t63) (lg 319 t319)) (lg 191 t191)) (.node (lg 127 t127) (lg 255 t255))))))))):=by
 repeat' (first|exact trivial|exact ⟨⟨by kernel_rfl,by kernel_rfl,by kernel_rfl⟩,trivial⟩|exact ⟨⟨by kernel_rfl,by kernel_rfl,by kernel_rfl⟩,by kernel_rfl,by kernel_rfl,by kernel_rfl⟩|refine And.intro ?_ ?_|fail)
abbrev bo (b:Bool):DV:= .v (.bool b)
abbrev it (n:Int):DV:= .v (.int .i64 n)
abbrev ut (n:Int):DV:= .v (.int .u64 n)
structure Wd where
 hi:Int
 lo:Int
abbrev Wd.ar (w:Wd):Ar:= .agg [.d (it w.hi),.d (ut w.lo)]
def Wd.val (w:Wd):Int:=w.hi*18446744073709551616+w.lo
def Wd.ok (w:Wd):Prop:=(-9223372036854775808<=w.hi/\ w.hi<9223372036854775808)/\ 0<=w.lo/\ w.lo<18446744073709551616
def wd (v:Int):Wd:=⟨(v/18446744073709551616+9223372036854775808)%18446744073709551616-9223372036854775808,v%18446744073709551616⟩
theorem bL (v:Int):(wd v).ok:=by unfold Wd.ok wd;dsimp only;omega
theorem dH {v:Int} (h0: -170141183460469231731687303715884105728<=v) (h1:v<170141183460469231731687303715884105728):(wd v).val=v:=by unfold Wd.val wd;dsimp only;omega
theorem wU (n:Int):IntKind.wrap .u64 n=n%18446744073709551616:=by simp [IntKind.wrap,IntKind.signed,IntKind.bits]
theorem wI (n:Int):IntKind.wrap .i64 n=(n+9223372036854775808)%18446744073709551616-9223372036854775808:=by
 simp [IntKind.wrap,IntKind.signed,IntKind.bits]
 split<;>omega
theorem aR (n:Int) (h0: -9223372036854775808<=n) (h1:n<9223372036854775808):IntKind.wrap .i64 n=n:=by rw [wI];omega
theorem fQ (n:Int) (h0:0<=n) (h1:n<18446744073709551616):IntKind.wrap .u64 n=n:=j1a
def cI (v:Int):Int:=if-9223372036854775808<=v/\ v<9223372036854775808 then v else 0
def bJ (v:Int):Bool:=decide (-9223372036854775808<=v/\ v<9223372036854775808)
def aK4:List Ar->Option Rs
 | [.c (.d (.v (.int .u64 x))),.c (.d (.v (.int .u64 y))),.c (.d (.v (.int .u64 c)))]=>some ⟨(0<=x/\ 0<=y)/\ 0<=c/\ c<=1,.tup [.c (.d (ut ((x+y+c)%18446744073709551616))),.c (.d (ut ((x+y+c)/18446744073709551616)))],[]⟩
 |_=>none
theorem aZ9:FC prog 280 aK4:=by
 refine aPS fun xs pre r us h hp=> ?_
 unfold aK4 at h;split at h
 . rename_i x y c
   cases h;refine ⟨[.int .u64 x,.int .u64 y,.int .u64 c],.tuple #[.int .u64 ((x+y+c)%18446744073709551616),.int .u64 ((x+y+c)/18446744073709551616)],rfl,rfl,fun w=> ?_,fun S w=>⟨_,rfl,[],[],rfl,⟨.v trivial,trivial⟩,[],[],rfl,⟨.v trivial,trivial⟩,rfl⟩⟩
   rw [run_callFunc_extern func280 j4 j4 j4 (e:=add64Entry) j4,run_add64 x y c hp.1.1 hp.1.2 hp.2.1 hp.2.2];rfl
 . cases h
def aK5:List Ar->Option Rs
 | [.c (.d (.v (.int .u64 x))),.c (.d (.v (.int .u64 y))),.c (.d (.v (.int .u64 c)))]=>some ⟨((0<=x/\ x<18446744073709551616)/\ 0<=y/\ y<18446744073709551616)/\ 0<=c/\ c<=1,.tup [.c (.d (ut ((x-y-c)%18446744073709551616))),.c (.d (ut (if x<y+c then 1 else 0)))],[]⟩
 |_=>none
theorem bAa (x y b:Nat) (hb:b<=1) (w:World):((Extern.MathBitsCarry.rows[1]'j5).2 #[.int .u64 x,.int .u64 y,.int .u64 b]).run prog w=
 .ok (.tuple #[.int .u64 (((x+Extern.MathBitsCarry.m64-y-b)%Extern.MathBitsCarry.m64:Nat):Int),.int .u64 ((if x<y+b then 1 else 0:Nat):Int)]) w:=by
 have:b=0 \/b=1:=j3
 rcases this with rfl|rfl<;>rfl
theorem bAb:FC prog 220 aK5:=by
 refine aPS fun xs pre r us h hp=> ?_
 unfold aK5 at h;split at h
 . rename_i x y c
   cases h;refine ⟨[.int .u64 x,.int .u64 y,.int .u64 c],.tuple #[.int .u64 ((x-y-c)%18446744073709551616),.int .u64 (if x<y+c then 1 else 0)],rfl,rfl,fun w=> ?_,fun S w=>⟨_,rfl,[],[],rfl,⟨.v trivial,trivial⟩,[],[],rfl,⟨.v trivial,trivial⟩,rfl⟩⟩
   obtain ⟨x,rfl⟩:=Int.eq_ofNat_of_zero_le hp.1.1.1
   obtain ⟨y,rfl⟩:=Int.eq_ofNat_of_zero_le hp.1.2.1
   obtain ⟨c,rfl⟩:=Int.eq_ofNat_of_zero_le hp.2.1
   rw [run_callFunc_extern func220 j4 j4 j4 (e:=(Extern.MathBitsCarry.rows[1]'j5).2) j4];have:=bAa x y c (by have:=hp.2.2;omega) w
   rw [this];simp only [Result.andThen_ok,Extern.MathBitsCarry.m64];have h1:=hp.1.1.2
   have h2:=hp.1.2.2
   have h3:=hp.2.2
   have e1:(((x+2^64-y-c)%2^64:Nat):Int)=((x:Int)-y-c)%18446744073709551616:=j3
   have e2:((if x<y+c then 1 else 0:Nat):Int)=if (x:Int)<(y:Int)+(c:Int) then 1 else 0:=by split<;>split<;>omega
   rw [e1,e2]
 . cases h
theorem aEj (n:Int):n.fdiv (2^min (Int.toNat 63) IntKind.i64.bits)=n/9223372036854775808:=by
 have e:(2^min (Int.toNat 63) IntKind.i64.bits:Int)=9223372036854775808:=j5
 rw [e,Int.fdiv_eq_ediv_of_nonneg _ j5]
def qH:List Ar->Option Rs
 | [.c (.d (.v (.int .i64 i0)))]=>some ⟨(-9223372036854775808<=i0/\ i0<9223372036854775808),.va (Wd.ar (wd i0)),[]⟩
 |_=>none
theorem sW:FC prog 177 qH:=by
 intro xs pre r us h hp;unfold qH at h;split at h
 . rename_i i0
   cases h;have a7:=hp
   refine aE aA (l:= []) trivial func177 rfl j4 false ?_
   repeat' (first|exact trivial|refine ⟨?_,?_⟩|fail)
   all_goals first|(conv=>whnf)
   all_goals (try simp only [wU,wI,aEj,wd,Wd.val,Wd.ok,Bool.not_eq_true',Bool.not_eq_false',Bool.and_eq_true,Bool.or_eq_true,Bool.and_eq_false_imp,Bool.or_eq_false_iff,beq_iff_eq,beq_eq_false_iff_ne,ne_eq,decide_eq_true_eq,decide_eq_false_iff_not,Bool.true_eq_false,Bool.false_eq_true,true_and,and_true,false_and,and_false,imp_false,Value.int.injEq] at*)
   all_goals first|omega
 . cases h
def aBS:List Ar->Option Rs
 | [.agg [.d (.v (.int .i64 h0)),.d (.v (.int .u64 l0))],.agg [.d (.v (.int .i64 h1)),.d (.v (.int .u64 l1))]]=>some ⟨(Wd.ok ⟨h0,l0⟩)/\ (Wd.ok ⟨h1,l1⟩),.va (Wd.ar (wd (Wd.val (⟨h0,l0⟩:Wd)+Wd.val (⟨h1,l1⟩:Wd)))),[]⟩
 |_=>none
theorem aGn:FC prog 237 aBS:=by
 intro xs pre r us h hp;unfold aBS at h;split at h
 . rename_i h0 l0 h1 l1
   cases h;obtain ⟨a7,a8⟩:=hp
   refine aE aA (l:= [(280,⟨[],aK4⟩)]) ⟨aZ9,trivial⟩ func237 rfl j4 false ?_
   (repeat' (first|exact trivial|refine ⟨?_,?_⟩|intro _));all_goals first|apply qq|conv=>whnf
   all_goals (try simp only [wU,wI,aEj,wd,Wd.val,Wd.ok,Bool.not_eq_true',Bool.not_eq_false',Bool.and_eq_true,Bool.or_eq_true,Bool.and_eq_false_imp,Bool.or_eq_false_iff,beq_iff_eq,beq_eq_false_iff_ne,ne_eq,decide_eq_true_eq,decide_eq_false_iff_not,Bool.true_eq_false,Bool.false_eq_true,true_and,and_true,false_and,and_false,imp_false,Value.int.injEq] at*)
   all_goals first|omega
 . cases h
def uU:List Ar->Option Rs
 | [.agg [.d (.v (.int .i64 h0)),.d (.v (.int .u64 l0))],.agg [.d (.v (.int .i64 h1)),.d (.v (.int .u64 l1))]]=>some ⟨(Wd.ok ⟨h0,l0⟩)/\ (Wd.ok ⟨h1,l1⟩),.va (Wd.ar (wd (Wd.val (⟨h0,l0⟩:Wd)-Wd.val (⟨h1,l1⟩:Wd)))),[]⟩
 |_=>none
theorem zQ:FC prog 176 uU:=by
 intro xs pre r us h hp;unfold uU at h;split at h
 . rename_i h0 l0 h1 l1
   cases h;obtain ⟨a7,a8⟩:=hp
   refine aE aA (l:= [(220,⟨[],aK5⟩)]) ⟨bAb,trivial⟩ func176 rfl j4 false ?_
   (repeat' (first|exact trivial|refine ⟨?_,?_⟩|intro _));all_goals first|apply qq|conv=>whnf
   all_goals (try simp only [wU,wI,aEj,wd,Wd.val,Wd.ok,Bool.not_eq_true',Bool.not_eq_false',Bool.and_eq_true,Bool.or_eq_true,Bool.and_eq_false_imp,Bool.or_eq_false_iff,beq_iff_eq,beq_eq_false_iff_ne,ne_eq,decide_eq_true_eq,decide_eq_false_iff_not,Bool.true_eq_false,Bool.false_eq_true,true_and,and_true,false_and,and_false,imp_false,Value.int.injEq] at*)
   all_goals first|omega
 . cases h
def aBT:List Ar->Option Rs
 | [.agg [.d (.v (.int .i64 h0)),.d (.v (.int .u64 l0))]]=>some ⟨(Wd.ok ⟨h0,l0⟩),.va (.c (.d (it ((Wd.val (⟨h0,l0⟩:Wd)+9223372036854775808)%18446744073709551616-9223372036854775808)))),[]⟩
 |_=>none
theorem aGo:FC prog 269 aBT:=by
 intro xs pre r us h hp;unfold aBT at h;split at h
 . rename_i h0 l0
   cases h;have a7:=hp
   refine aE aA (l:= []) trivial func269 rfl j4 false ?_
   repeat' (first|exact trivial|refine ⟨?_,?_⟩|fail)
   all_goals first|(conv=>whnf)
   all_goals (try simp only [wU,wI,aEj,wd,Wd.val,Wd.ok,Bool.not_eq_true',Bool.not_eq_false',Bool.and_eq_true,Bool.or_eq_true,Bool.and_eq_false_imp,Bool.or_eq_false_iff,beq_iff_eq,beq_eq_false_iff_ne,ne_eq,decide_eq_true_eq,decide_eq_false_iff_not,Bool.true_eq_false,Bool.false_eq_true,true_and,and_true,false_and,and_false,imp_false,Value.int.injEq] at*)
   all_goals first|omega
 . cases h
def uV:List Ar->Option Rs
 | [.agg [.d (.v (.int .i64 h0)),.d (.v (.int .u64 l0))]]=>some ⟨(Wd.ok ⟨h0,l0⟩),.tup [.c (.d (it (cI (Wd.val (⟨h0,l0⟩:Wd))))),.c (.d (bo (bJ (Wd.val (⟨h0,l0⟩:Wd)))))],[]⟩
 |_=>none
theorem zR:FC prog 226 uV:=by
 intro xs pre r us h hp;unfold uV at h;split at h
 . rename_i h0 l0
   cases h;have a7:=hp
   refine aE aA (l:= [(177,⟨[],qH⟩),(269,⟨[],aBT⟩)]) ⟨sW,aGo,trivial⟩ func226 rfl j4 false ?_
   (repeat' (first|exact trivial|refine ⟨?_,?_⟩|intro _));all_goals first|apply qq|conv=>whnf
   all_goals (try (refine congrArg Value.bool (Bool.eq_iff_iff.2 ?_));try simp only [cI,bJ,Bool.not_eq_true',Bool.not_eq_false',Bool.and_eq_true,Bool.or_eq_true,Bool.and_eq_false_imp,Bool.or_eq_false_iff,beq_iff_eq,beq_eq_false_iff_ne,ne_eq,decide_eq_true_eq,decide_eq_false_iff_not,Bool.true_eq_false,Bool.false_eq_true,true_and,and_true,false_and,and_false,imp_false,Value.int.injEq,true_iff,false_iff,iff_true,iff_false,iff_self])
   all_goals (try simp only [wU,wI,aEj,wd,Wd.val,Wd.ok,cI,bJ,Bool.not_eq_true',Bool.not_eq_false',Bool.and_eq_true,Bool.or_eq_true,Bool.and_eq_false_imp,Bool.or_eq_false_iff,beq_iff_eq,beq_eq_false_iff_ne,ne_eq,decide_eq_true_eq,decide_eq_false_iff_not,Bool.true_eq_false,Bool.false_eq_true,true_and,and_true,false_and,and_false,imp_false,Value.int.injEq] at*)
   all_goals first|omega
 . cases h
abbrev st (s:ByteArray):DV:= .v (.string s)
def gT:List DV->ByteArray
 | [.v (.string s)]=>s
 |_=>ByteArray.empty
def gN (n:Nat) (f:Nat->List DV):List ByteArray:=(List.range n).map fun i=>gT (f i)
def aN (l:List ByteArray) (i:Nat):ByteArray:=l.getD i ByteArray.empty
abbrev lst (l:List ByteArray):DV:= .lst 1 l.length fun i=> [st (aN l i)]
structure Ns where
 null:Bool
 names:List ByteArray
abbrev Ns.ar (s:Ns):Ar:= .agg [.d (bo s.null),.d (lst s.names)]
theorem bBM (i:Nat) (f:Nat->List DV):gN (i+1) f=gN i f++ [gT (f i)]:=by simp [gN,List.range_succ]
theorem bU (n:Nat) (f:Nat->List DV):(gN n f).length=n:=j2i
theorem eZ (n:Nat) (f:Nat->List DV):(gN n fun i=> [st (gT (f i))])=gN n f:=rfl
theorem bI (l:List ByteArray):gN l.length (fun i=> [st (aN l i)])=l:=by
 unfold gN aN;apply List.ext_getElem
 . simp
 . intro i h1 h2;simp [gT,h2]
def slt (a b:ByteArray):Bool:=Op.bytesLess a.toList b.toList
def sle (a b:ByteArray):Bool:=Op.bytesLess a.toList b.toList||a.toList==b.toList
def seq (a b:ByteArray):Bool:=a.toList==b.toList
def nI (x:ByteArray) (s:List ByteArray×Bool) (y:ByteArray):List ByteArray×Bool:=
 if !s.2&&sle x y then (if slt x y then s.1++ [x]++ [y] else s.1++ [y],true) else (s.1++ [y],s.2)
def aHz (l:List ByteArray) (x:ByteArray):List ByteArray:=
 if (l.foldl (nI x) ([],false)).2 then (l.foldl (nI x) ([],false)).1 else (l.foldl (nI x) ([],false)).1++ [x]
theorem aYg {x y:ByteArray} {out:List ByteArray}:nI x (out,true) y=(out++ [y],true):=rfl
theorem aYh {x y:ByteArray} {out:List ByteArray} (h1:sle x y=true) (h2:slt x y=true):nI x (out,false) y=(out++ [x]++ [y],true):=by unfold nI;simp [h1,h2]
theorem aYi {x y:ByteArray} {out:List ByteArray} (h1:sle x y=true) (h2:slt x y=false):nI x (out,false) y=(out++ [y],true):=by unfold nI;simp [h1,h2]
theorem aYj {x y:ByteArray} {out:List ByteArray} (h1:sle x y=false):nI x (out,false) y=(out++ [y],false):=by unfold nI;simp [h1]
theorem aU5 {l:List ByteArray} {n:Nat} (hn:l.length=n) {F g:Nat->List DV} {y:ByteArray} (hF: ∀j,j<n->F j= [st (aN l j)]) (hg:g 0= [st y]) (i:Nat) (hi:i<n+1):dG n F g i= [st (aN (l++ [y]) i)]:=by
 unfold dG;by_cases h:i<n
 . rw [if_pos h,hF i h];simp [aN,List.getD_eq_getElem?_getD,List.getElem?_append_left (show i<l.length by omega)]
 . have:i=n:=by omega
   subst this;subst hn;rw [if_neg j3,Nat.sub_self,hg];simp [aN]
def jL (l:List ByteArray):List ByteArray:=l.foldl aHz []
theorem qW (a b:ByteArray):(a.toList==b.toList)=decide (a=b):=by
 rw [ByteArray.toList_eq,ByteArray.toList_eq];rw [Bool.eq_iff_iff];simp only [beq_iff_eq,decide_eq_true_eq];constructor
 . intro h;have:a.data=b.data:=Array.ext' h
   cases a;cases b;simp_all
 . rintro rfl;rfl
theorem aTi {n m:Nat} {f g:Nat->List DV}:gN n f=gN m g↔n=m/\ ∀j,j<n->gT (f j)=gT (g j):=by
 constructor
 . intro h;have h1:=congrArg List.length h
   rw [bU,bU] at h1;subst h1;refine ⟨rfl,fun j hj=> ?_⟩
   have:=congrArg (fun l=>l[j]?) h
   simpa [gN,hj] using this
 . rintro ⟨rfl,h⟩
   unfold gN;exact List.map_congr_left fun j hj=>h j u6
theorem aPT {b0 b1:Bool} {n m:Nat} {f g:Nat->List DV} (h: ¬(n=m/\ ∀j,j<n->gT (f j)=gT (g j))):Value.bool false=Value.bool (b0==b1&&decide (gN n f=gN m g)):=by
 rw [decide_eq_false (by rw [aTi];exact h)];simp
theorem bAc {b0 b1:Bool} {p:Bool} (h:(!b0==b1)=true):Value.bool false=Value.bool (b0==b1&&p):=by
 cases b0<;>cases b1<;>simp_all
theorem aWD {b0 b1:Bool} {n m:Nat} {f g:Nat->List DV} (hb:(!b0==b1)=false) (h:n=m/\ ∀j,j<n->gT (f j)=gT (g j)):Value.bool true=Value.bool (b0==b1&&decide (gN n f=gN m g)):=by
 rw [decide_eq_true (by rw [aTi];exact h)];cases b0<;>cases b1<;>simp_all
theorem bAd {b0 b1:Bool} {n m:Nat} {f g:Nat->List DV} (h:((n:Int) !=(m:Int))=true):Value.bool false=Value.bool (b0==b1&&decide (gN n f=gN m g)):=
 aPT (fun e=>by rw [e.1] at h;simp at h)
theorem aYk {b0 b1:Bool} {n m i:Nat} {f g:Nat->List DV} (h:(!decide (gT (f i)=gT (g i)))=true) (hi:i<n):Value.bool false=Value.bool (b0==b1&&decide (gN n f=gN m g)):=
 aPT (fun e=>by rw [e.2 i hi] at h;simp at h)
theorem aVB {i:Nat} {f g:Nat->List DV} (k: ∀j,j<i->gT (f j)=gT (g j)) (h:(!decide (gT (f i)=gT (g i)))=false) (j:Nat) (hj:j<i+1):gT (f j)=gT (g j):=by
 rcases Nat.lt_or_ge j i with h1|h1
 . exact k j h1
 . have:j=i:=by omega
   subst this
   simpa using h
theorem aGp {n:Nat} {f:Nat->List DV} {x:ByteArray}:x∈gN n f↔ ∃i,i<n/\ gT (f i)=x:=j2i
def bFj:List Ar->Option Rs
 | [.agg [.d (.v (.bool b0)),.d (.lst 1 n0 f0)]]=>some ⟨(n0*16<=140737488351232/\ ∀i,i<n0->f0 i= [st (gT (f0 i))]),.va (Ns.ar (⟨b0,jL (Ns.names (⟨b0,gN n0 f0⟩:Ns))⟩)),[]⟩
 |_=>none
def aJ8:List Ar->Option Rs
 | [.agg [.d (.v (.bool b0)),.d (.lst 1 n0 f0)],.agg [.d (.v (.bool b1)),.d (.lst 1 n1 f1)]]=>some ⟨(n0*16<=140737488351232/\ ∀i,i<n0->f0 i= [st (gT (f0 i))])/\ (n1*16<=140737488351232/\ ∀i,i<n1->f1 i= [st (gT (f1 i))]),.va (.c (.d (bo (b0==b1&&decide (gN n0 f0=gN n1 f1))))),[]⟩
 |_=>none
theorem aYl:FC prog 46 aJ8:=by
 intro xs pre r us h hp;unfold aJ8 at h;split at h
 . rename_i b0 n0 f0 b1 n1 f1
   cases h;obtain ⟨a7,a8⟩:=hp
   refine aU.of_eq (as':= [.agg [.d (.v (.bool b0)),.d (.lst 1 n0 fun i=> [st (gT (f0 i))])],.agg [.d (.v (.bool b1)),.d (.lst 1 n1 fun i=> [st (gT (f1 i))])]]) ?_ rfl rfl ?_
   . repeat' (first|exact j2t|refine ⟨?_,?_⟩|fail)
     all_goals first|exact j5s
   refine aE aA (l:= []) trivial func46 rfl j4 false ?_
   repeat' (first|exact trivial|refine ⟨?_,?_⟩|intro _)
   all_goals first|(conv=>whnf)
   all_goals first|((with_reducible show aO _ _ _ _ _);skip)|(exact bAc j9)|(exact bAd j9)
   refine yU aA (l:= []) trivial j4 (X:=Nat)
    (fun x=>⟨[(5,vx (.int .i64 x)),(2,.va (.c (.own 0 0))),(3,.va (.c (.own 1 0)))],[(0,.cells [.d (bo b0),.d (.lst 1 n0 fun i=> [st (gT (f0 i))])]),(1,.cells [.d (bo b1),.d (.lst 1 n1 fun i=> [st (gT (f1 i))])])],2,38⟩)
    (fun x=>n0-x) (fun x=>x<=n0/\ ∀j,j<x->gT (f0 j)=gT (f1 j)) [] []
    (fun x _ _=>x+1) (fun _=> [0,1]) [0,1] 0 0 0 ?_ ?_ ?_
   . exact ⟨Nat.zero_le _,fun j h=>absurd h (Nat.not_lt_zero _)⟩
   . repeat' (first|exact j2w|refine ⟨?_,?_⟩|fail)
   . have rh:n0=n1:=by
      have:=‹((n0:Int) !=(n1:Int))=false›
      simp only [bne_eq_false_iff_eq] at this;omega
     rintro i ⟨k1,k2⟩
     (repeat' (first|exact trivial|refine ⟨?_,?_⟩|intro _));all_goals first|apply qq|conv=>whnf
     all_goals (try simp only [Int.toNat_natCast,decide_eq_true_eq,decide_eq_false_iff_not,qW] at*)
     all_goals first|exact j3v|(exact aYk j9 j3)|(refine aWD j9 ⟨rh,fun j hj=>k2 j j3⟩)|(exact aVB k2 j9 _ j9)|rfl
 . cases h
def iI (x:ByteArray) (l:List ByteArray):Bool:=l.any fun y=>decide (x=y)
theorem aAY {x:ByteArray} {l:List ByteArray}:iI x l=true↔x∈l:=by
 unfold iI;simp
def ixS (l:List ByteArray) (x:ByteArray):Int:=if iI x l=true then (l.findIdx fun y=>decide (x=y):Nat) else-1
def jU (l m:List ByteArray):Bool:=l.all fun x=>iI x m
theorem bBN {n:Nat} {f:Nat->List DV} {x:ByteArray} (h: ∀j,j<n-> ¬x=gT (f j)):(-1:Int)=ixS (gN n f) x:=by
 unfold ixS;rw [if_neg];rw [aAY,aGp]
 rintro ⟨i,hi,e⟩
 exact h i hi e.symm
theorem bBO {n i:Nat} {f:Nat->List DV} {x:ByteArray} (h: ∀j,j<i-> ¬x=gT (f j)) (hi:i<n) (he:x=gT (f i)):(i:Int)=ixS (gN n f) x:=by
 unfold ixS;rw [if_pos (aAY.2 (aGp.2 ⟨i,hi,he.symm⟩))];have hl:i<(gN n f).length:=by rw [bU];exact hi
 have hg: ∀j (hj:j<(gN n f).length),(gN n f)[j]=gT (f j):=fun j hj=>by simp [gN]
 have:(gN n f).findIdx (fun y=>decide (x=y))=i:=by
  rw [List.findIdx_eq hl];refine ⟨by rw [hg i hl];simpa using he,fun j hj=> ?_⟩
  rw [hg j j3];simpa using h j hj
 rw [this]
theorem bBP {l:List ByteArray} {x:ByteArray}:decide (ixS l x≥0)=iI x l:=by
 unfold ixS;split
 . rename_i h;simp [h]
 . rename_i h;simp [h]
theorem aYm {i:Nat} {f:Nat->List DV} {x:ByteArray} (k: ∀j,j<i-> ¬x=gT (f j)) (h: ¬x=gT (f i)) (j:Nat) (hj:j<i+1): ¬x=gT (f j):=by
 rcases Nat.lt_or_ge j i with h1|h1
 . exact k j h1
 . have:j=i:=by omega
   subst this;exact h
theorem bAe {n i:Nat} {f:Nat->List DV} {m:List ByteArray} {p:Bool} (hi:i<n) (h:(!iI (gT (f i)) m)=true):Value.bool false=Value.bool (p&&jU (gN n f) m):=by
 have:jU (gN n f) m=false:=by
  unfold jU;rw [List.all_eq_false];exact ⟨gT (f i),aGp.2 ⟨i,hi,rfl⟩,by simpa using h⟩
 rw [this];simp
theorem aYn {n:Nat} {f:Nat->List DV} {m:List ByteArray} {b0 b1:Bool} (h0:b0=true->b1=true) (h: ∀j,j<n->gT (f j)∈m):Value.bool true=Value.bool ((!b0||b1)&&jU (gN n f) m):=by
 have:jU (gN n f) m=true:=by
  unfold jU;rw [List.all_eq_true];intro x hx;obtain ⟨i,hi,rfl⟩:=aGp.1 hx
  exact aAY.2 (h i hi)
 rw [this];cases b0<;>simp_all
theorem bAf {i:Nat} {f:Nat->List DV} {m:List ByteArray} (k: ∀j,j<i->gT (f j)∈m) (h:(!iI (gT (f i)) m)=false) (j:Nat) (hj:j<i+1):gT (f j)∈m:=by
 rcases Nat.lt_or_ge j i with h1|h1
 . exact k j h1
 . have:j=i:=by omega
   subst this;exact aAY.1 w7
def aJ9:List Ar->Option Rs
 | [.c (.d (.lst 1 n0 f0)),.c (.d (.v (.string x1)))]=>some ⟨(n0*16<=140737488351232/\ ∀i,i<n0->f0 i= [st (gT (f0 i))]),.va (.c (.d (it (ixS (gN n0 f0) x1)))),[]⟩
 |_=>none
theorem aYo:FC prog 206 aJ9:=by
 intro xs pre r us h hp;unfold aJ9 at h;split at h
 . rename_i n0 f0 x1
   cases h;have a7:=hp
   refine aU.of_eq (as':= [.c (.d (.lst 1 n0 fun i=> [st (gT (f0 i))])),.c (.d (.v (.string x1)))]) ?_ rfl rfl ?_
   . repeat' (first|exact j2t|refine ⟨?_,?_⟩|fail)
     all_goals first|exact a7.2
   refine aE aA (l:= []) trivial func206 rfl j4 false ?_
   repeat' (fail)
   all_goals first|(conv=>whnf)
   refine yU aA (l:= []) trivial j4 (X:=Nat)
    (fun x=>⟨[(8,vx (.int .i64 x)),(7,vx (.int .i64 n0)),(0,.va (.c (.d (.lst 1 n0 fun i=> [st (gT (f0 i))])))),(1,vx (.string x1))],[],0,19⟩)
    (fun x=>n0-x) (fun x=>x<=n0/\ ∀j,j<x-> ¬x1=gT (f0 j)) [] []
    (fun x _ _=>x+1) (fun _=> []) [] 0 0 0 ?_ ?_ ?_
   . exact ⟨Nat.zero_le _,fun j h=>absurd h (Nat.not_lt_zero _)⟩
   . repeat' (first|exact j2w|refine ⟨?_,?_⟩|fail)
   . rintro i ⟨k1,k2⟩
     (repeat' (first|exact trivial|refine ⟨?_,?_⟩|intro _));all_goals first|apply qq|conv=>whnf
     all_goals (try simp only [Int.toNat_natCast,decide_eq_true_eq,decide_eq_false_iff_not,qW,eZ] at*)
     all_goals first|exact j3v|(rw [<-bBN (fun j hj=>k2 j j3)])|(rw [<-bBO k2 j3 j9])|(exact absurd j9 (aYm k2 j9 _ ‹_<i+1›))|rfl
 . cases h
def wD:List Ar->Option Rs
 | [.c (.d (.lst 1 n0 f0)),.c (.d (.v (.string x1)))]=>some ⟨(n0*16<=140737488351232/\ ∀i,i<n0->f0 i= [st (gT (f0 i))]),.va (.c (.d (bo (iI x1 (gN n0 f0))))),[]⟩
 |_=>none
theorem aAK:FC prog 166 wD:=by
 intro xs pre r us h hp;unfold wD at h;split at h
 . rename_i n0 f0 x1
   cases h;have a7:=hp
   refine aU.of_eq (as':= [.c (.d (.lst 1 n0 fun i=> [st (gT (f0 i))])),.c (.d (.v (.string x1)))]) ?_ rfl rfl ?_
   . repeat' (first|exact j2t|refine ⟨?_,?_⟩|fail)
     all_goals first|exact a7.2
   refine aE aA (l:= [(206,⟨[],aJ9⟩)]) ⟨aYo,trivial⟩ func166 rfl j4 false ?_
   (repeat' (first|exact trivial|refine ⟨?_,?_⟩|intro _));all_goals first|apply qq|conv=>whnf
   all_goals first|(rw [eZ,bBP])|omega|rfl
 . cases h
def aG0:List Ar->Option Rs
 | [.agg [.d (.v (.bool b0)),.d (.lst 1 n0 f0)],.agg [.d (.v (.bool b1)),.d (.lst 1 n1 f1)]]=>some ⟨(n0*16<=140737488351232/\ ∀i,i<n0->f0 i= [st (gT (f0 i))])/\ (n1*16<=140737488351232/\ ∀i,i<n1->f1 i= [st (gT (f1 i))]),.va (.c (.d (bo ((!b0||b1)&&jU (gN n0 f0) (gN n1 f1))))),[]⟩
 |_=>none
theorem aSe:FC prog 139 aG0:=by
 intro xs pre r us h hp;unfold aG0 at h;split at h
 . rename_i b0 n0 f0 b1 n1 f1
   cases h;obtain ⟨a7,a8⟩:=hp
   refine aU.of_eq (as':= [.agg [.d (.v (.bool b0)),.d (.lst 1 n0 fun i=> [st (gT (f0 i))])],.agg [.d (.v (.bool b1)),.d (.lst 1 n1 fun i=> [st (gT (f1 i))])]]) ?_ rfl rfl ?_
   . repeat' (first|exact j2t|refine ⟨?_,?_⟩|fail)
     all_goals first|exact j5s
   refine aE aA (l:= [(166,⟨[],wD⟩)]) ⟨aAK,trivial⟩ func139 rfl j4 false ?_
   repeat' (first|exact trivial|refine ⟨?_,?_⟩|intro _)
   all_goals first|(conv=>whnf)
   all_goals first|((with_reducible show aO _ _ _ _ _);skip)|(simp_all;done)
   all_goals (have hb:b0=true->b1=true:=(by intro e;simp_all))
   all_goals (
    refine yU aA (l:= [(166,⟨[],wD⟩)]) ⟨aAK,trivial⟩ j4 (X:=Nat)
     (fun x=>⟨[(17,vx (.int .i64 x)),(16,vx (.int .i64 n0)),(15,.va (.c (.d (.lst 1 n0 fun i=> [st (gT (f0 i))])))),(3,.va (.c (.own 1 0)))],[(1,.cells [.d (bo b1),.d (.lst 1 n1 fun i=> [st (gT (f1 i))])])],2,27⟩)
     (fun x=>n0-x) (fun x=>x<=n0/\ ∀j,j<x->gT (f0 j)∈gN n1 f1) [] []
     (fun x _ _=>x+1) (fun _=> [0,1]) [0,1] 0 0 0 ?_ ?_ ?_
    . exact ⟨Nat.zero_le _,fun j h=>absurd h (Nat.not_lt_zero _)⟩
    . repeat' (first|exact j2w|refine ⟨?_,?_⟩|fail)
    . rintro i ⟨k1,k2⟩
      (repeat' (first|exact trivial|refine ⟨?_,?_⟩|intro _));all_goals first|apply qq|conv=>whnf
      all_goals (try simp only [Int.toNat_natCast,decide_eq_true_eq,decide_eq_false_iff_not,qW,eZ] at*)
      all_goals first|exact j3v|(exact bAe (i:=i) j3 j9)|(exact aYn hb (fun j hj=>k2 j j3))|(exact bAf k2 j9 _ j9)|rfl)
 . cases h
end Go.Proofs.YtiblbnhknemloaaGreat
namespace Go.Proofs
open Go.Shelf
def Tryz.lays213_ren:Go.Shelf.Ren:=⟨fun|213=>129|265=>175|n=>n,fun|9=>9|3=>3|n=>n,fun|n=>n⟩
open Go.RowKit in
def Tryz.lays106_ren:Go.Shelf.Ren:=⟨fun|106=>75|213=>129|265=>175|n=>n,fun|9=>9|3=>3|n=>n,fun|n=>n⟩
theorem Tryz.lays106:Go.Proofs.Lays.n106 prog Tryz.lays106_ren:={
 mixed:=j4
 f106:=func75.trans (congrArg some j4)
 f213:=func129.trans (congrArg some j4)
 f265:=func175.trans (congrArg some j4)
 t3:=underlying3
 a3:=isAgg3
 z3:=sizeOf3
 v3:=zeroValue3
 t9:=underlying9
 a9:=isAgg9
 z9:=sizeOf9
 v9:=zeroValue9}
open Go.RowKit in
theorem Tryz.strings_Compare (a b:ByteArray) (w:World):
 Calls prog 75 #[.string a,.string b] w fun e w'=>e= .returned (.int .i64 (Lib.compareBytes a.data.toList b.data.toList))/\ w'=w:=Any.strings_Compare Tryz.lays106 a b w
def Tryz.lays194_ren:Go.Shelf.Ren:=⟨fun|194=>184|n=>n,fun|31=>45|9=>9|3=>3|4=>4|0=>0|n=>n,fun|n=>n⟩
theorem Tryz.lays194:Go.Proofs.Lays.n194 prog Tryz.lays194_ren:={
 mixed:=j4
 f194:=func184.trans (congrArg some j4)
 t0:=underlying0
 a0:=isAgg0
 z0:=sizeOf0
 v0:=zeroValue0
 t3:=underlying3
 a3:=isAgg3
 z3:=sizeOf3
 v3:=zeroValue3
 t4:=underlying4
 a4:=isAgg4
 z4:=sizeOf4
 v4:=zeroValue4
 t9:=underlying9
 a9:=isAgg9
 z9:=sizeOf9
 v9:=zeroValue9
 t31:=underlying45
 a31:=isAgg45
 z31:=sizeOf45
 v31:=zeroValue45}
open Go.RowKit Go.Lib Go.Sort in
open Go.RowKit Go.Lib Go.Sort in
theorem Tryz.slices_Compact_string (blk off cap:Nat) (zs:List (List UInt8)) (w:World) (hH:Holds encStr w blk off zs.toArray) (hsz:zs.length<=9223372036854775807) (yz:zs.length<=cap):
 Calls prog 184 #[.slice (some ⟨blk,off,none⟩) zs.length cap] w fun e w'=>e= .returned (.slice (some ⟨blk,off,none⟩) (Lib.compact zs).length cap)/\ ∃q,w'=putRow encStr (Sort.ahead w q) blk off (Lib.compact zs++List.replicate (zs.length-(Lib.compact zs).length) []).toArray:=Any.slices_Compact_string Tryz.lays194 blk off cap zs w hH hsz yz
open Go.RowKit Go.Lib Go.Sort in
theorem Tryz.slices_Compact_string_empty (a:Option Addr) (cap:Nat) (w:World):
 Calls prog 184 #[.slice a 0 cap] w fun e w'=>e= .returned (.slice a 0 cap)/\ w'=w:=Any.slices_Compact_string_empty Tryz.lays194 a cap w
open Go.RowKit Go.Lib Go.Sort in
open Go.RowKit Go.Lib Go.Sort in
def Tryz.laysSlF06_f82_ren:Go.Shelf.Ren:=⟨fun|6=>182|15=>223|14=>222|28=>266|29=>267|20=>258|21=>259|22=>260|23=>261|24=>262|25=>263|26=>264|27=>265|46=>298|47=>299|48=>300|49=>301|50=>302|57=>307|n=>n,fun|22=>45|24=>9|25=>157|3=>3|39=>216|0=>0|53=>329|55=>209|4=>4|46=>323|45=>322|50=>121|5=>5|9=>9|66=>345|70=>349|76=>355|77=>356|n=>n,fun|n=>n⟩
theorem Tryz.laysSlF06_f82:Go.Proofs.SlLaysF0.n6 prog Tryz.laysSlF06_f82_ren:={
 mixed:=j4
 f6:=⟨f182.name,by decide,func182.trans (congrArg some j4)⟩
 f14:=⟨f222.name,by decide,func222.trans (congrArg some j4)⟩
 f15:=func223.trans (congrArg some j4)
 f20:=⟨f258.name,by decide,func258.trans (congrArg some j4)⟩
 f21:=⟨f259.name,by decide,func259.trans (congrArg some j4)⟩
 f22:=⟨f260.name,by decide,func260.trans (congrArg some j4)⟩
 f23:=⟨f261.name,by decide,func261.trans (congrArg some j4)⟩
 f24:=⟨f262.name,by decide,func262.trans (congrArg some j4)⟩
 f25:=⟨f263.name,by decide,func263.trans (congrArg some j4)⟩
 f26:=⟨f264.name,by decide,func264.trans (congrArg some j4)⟩
 f27:=⟨Tryz.f265.name,by decide,func265.trans (congrArg some j4)⟩
 f28:=func266.trans (congrArg some j4)
 f29:=func267.trans (congrArg some j4)
 f46:=⟨f298.name,by decide,func298.trans (congrArg some j4)⟩
 f47:=func299.trans (congrArg some j4)
 f48:=func300.trans (congrArg some j4)
 f49:=⟨f301.name,by decide,func301.trans (congrArg some j4)⟩
 f50:=⟨f302.name,by decide,func302.trans (congrArg some j4)⟩
 f57:=⟨f307.name,by decide,func307.trans (congrArg some j4)⟩
 t0:=underlying0
 a0:=isAgg0
 z0:=sizeOf0
 v0:=zeroValue0
 t3:=underlying3
 a3:=isAgg3
 z3:=sizeOf3
 v3:=zeroValue3
 t4:=underlying4
 a4:=isAgg4
 z4:=sizeOf4
 v4:=zeroValue4
 t5:=underlying5
 a5:=isAgg5
 z5:=sizeOf5
 v5:=zeroValue5
 t9:=underlying9
 a9:=isAgg9
 z9:=sizeOf9
 v9:=zeroValue9
 t22:=underlying45
 a22:=isAgg45
 z22:=sizeOf45
 v22:=zeroValue45
 t25:=underlying157
 a25:=isAgg157
 z25:=sizeOf157
 v25:=zeroValue157
 t39:=underlying216
 a39:=isAgg216
 z39:=sizeOf216
 v39:=zeroValue216
 t45:=underlying322
 a45:=isAgg322
 z45:=sizeOf322
 v45:=zeroValue322
 t46:=underlying323
 a46:=isAgg323
 z46:=sizeOf323
 v46:=zeroValue323
 t50:=underlying121
 a50:=isAgg121
 z50:=sizeOf121
 v50:=zeroValue121
 t53:=underlying329
 a53:=isAgg329
 z53:=sizeOf329
 v53:=zeroValue329
 t55:=underlying209
 a55:=isAgg209
 z55:=sizeOf209
 v55:=zeroValue209
 t66:=underlying345
 a66:=isAgg345
 z66:=sizeOf345
 v66:=zeroValue345
 t70:=underlying349
 a70:=isAgg349
 z70:=sizeOf349
 v70:=zeroValue349
 t76:=underlying355
 a76:=isAgg355
 z76:=sizeOf355
 v76:=zeroValue355
 t77:=underlying356
 a77:=isAgg356
 z77:=sizeOf356
 v77:=zeroValue356}
open Go.RowKit Go.Lib Go.Sort in
theorem Tryz.slices_SortFunc_none {α:Type} [Inhabited α] (p:Option Addr) (cap:Nat) (fv:Value) (w:World):
 Calls prog 182 #[.slice p 0 cap,fv] w fun e w'=>e= .returned (.tuple #[])/\ w'=w:=AnyF.slices_SortFunc_none Tryz.laysSlF06_f82 p cap fv w
def Tryz.laysSlF6_f82_ren:Go.Shelf.Ren:=⟨fun|6=>182|15=>223|14=>222|28=>266|29=>267|20=>258|21=>259|22=>260|23=>261|24=>262|25=>263|26=>264|27=>265|46=>298|47=>299|48=>300|49=>301|50=>302|57=>307|n=>n,fun|22=>45|24=>9|25=>157|3=>3|39=>216|0=>0|53=>329|55=>209|4=>4|46=>323|45=>322|50=>121|5=>5|9=>9|66=>345|70=>349|76=>355|77=>356|n=>n,fun|n=>n⟩
theorem Tryz.laysSlF6_f82:Go.Proofs.SlLaysF.n6 prog Tryz.laysSlF6_f82_ren:={
 mixed:=j4
 f6:=⟨f182.name,by decide,func182.trans (congrArg some j4)⟩
 f14:=⟨f222.name,by decide,func222.trans (congrArg some j4)⟩
 f15:=func223.trans (congrArg some j4)
 f20:=⟨f258.name,by decide,func258.trans (congrArg some j4)⟩
 f21:=⟨f259.name,by decide,func259.trans (congrArg some j4)⟩
 f22:=⟨f260.name,by decide,func260.trans (congrArg some j4)⟩
 f23:=⟨f261.name,by decide,func261.trans (congrArg some j4)⟩
 f24:=⟨f262.name,by decide,func262.trans (congrArg some j4)⟩
 f25:=⟨f263.name,by decide,func263.trans (congrArg some j4)⟩
 f26:=⟨f264.name,by decide,func264.trans (congrArg some j4)⟩
 f27:=⟨Tryz.f265.name,by decide,func265.trans (congrArg some j4)⟩
 f28:=func266.trans (congrArg some j4)
 f29:=func267.trans (congrArg some j4)
 f46:=⟨f298.name,by decide,func298.trans (congrArg some j4)⟩
 f47:=func299.trans (congrArg some j4)
 f48:=func300.trans (congrArg some j4)
 f49:=⟨f301.name,by decide,func301.trans (congrArg some j4)⟩
 f50:=⟨f302.name,by decide,func302.trans (congrArg some j4)⟩
 f57:=⟨f307.name,by decide,func307.trans (congrArg some j4)⟩
 t0:=underlying0
 a0:=isAgg0
 z0:=sizeOf0
 v0:=zeroValue0
 t3:=underlying3
 a3:=isAgg3
 z3:=sizeOf3
 v3:=zeroValue3
 t4:=underlying4
 a4:=isAgg4
 z4:=sizeOf4
 v4:=zeroValue4
 t5:=underlying5
 a5:=isAgg5
 z5:=sizeOf5
 v5:=zeroValue5
 t9:=underlying9
 a9:=isAgg9
 z9:=sizeOf9
 v9:=zeroValue9
 t22:=underlying45
 a22:=isAgg45
 z22:=sizeOf45
 v22:=zeroValue45
 a24:=isAgg9
 z24:=sizeOf9
 t25:=underlying157
 a25:=isAgg157
 z25:=sizeOf157
 v25:=zeroValue157
 t39:=underlying216
 a39:=isAgg216
 z39:=sizeOf216
 v39:=zeroValue216
 t45:=underlying322
 a45:=isAgg322
 z45:=sizeOf322
 v45:=zeroValue322
 t46:=underlying323
 a46:=isAgg323
 z46:=sizeOf323
 v46:=zeroValue323
 t50:=underlying121
 a50:=isAgg121
 z50:=sizeOf121
 v50:=zeroValue121
 t53:=underlying329
 a53:=isAgg329
 z53:=sizeOf329
 v53:=zeroValue329
 t55:=underlying209
 a55:=isAgg209
 z55:=sizeOf209
 v55:=zeroValue209
 t66:=underlying345
 a66:=isAgg345
 z66:=sizeOf345
 v66:=zeroValue345
 t70:=underlying349
 a70:=isAgg349
 z70:=sizeOf349
 v70:=zeroValue349
 t76:=underlying355
 a76:=isAgg355
 z76:=sizeOf355
 v76:=zeroValue355
 t77:=underlying356
 a77:=isAgg356
 z77:=sizeOf356
 v77:=zeroValue356}
open Go.RowKit Go.Lib Go.Sort in
theorem Tryz.slices_SortFunc_total {α:Type} [Inhabited α] (enc:α->Value) (h1:OneCell enc) (cf:α->α->Int) (hO:SWO (ltOf cf)) (g:Nat) (cb:Array Value) (blk off cap:Nat) (d:Array α) (w:World) (eg: ∀args w,(callFunc g args).run prog w= .ok (.enter g args) w) (DZ:CmpLays1 prog g cb enc cf blk off d.size w) (hH:Holds enc w blk off d) (hblk:blk<w.heap.size) (hsz:d.size<4611686018427387904) (hT: ∀x y,(ltOf cf) x y=false->(ltOf cf) y x=false->x=y):
 Calls prog 182 #[.slice (some ⟨blk,off,none⟩) d.size cap,.func (.func g) #[] cb] w fun e w'=>
  e= .returned (.tuple #[])/\ ∃n os,w'=sortWorld enc w blk off n (d.toList.mergeSort fun x y=> !(ltOf cf) y x).toArray os:=Any.slices_SortFunc_total Tryz.laysSlF6_f82 enc h1 cf hO g cb blk off cap d w eg DZ hH hblk hsz hT
end Go.Proofs
namespace Go.Proofs.YtiblbnhknemloaaGreat
open Tryz
open Go.Sx
open Go.RowKit Go.Lib Go.Sort
section
variable {P:Program} {base:Nat} {ψ:aJ} {S:Nat→Prop} {w:World} {a:Act}
theorem aC.put {α:Type} [Inhabited α] (enc:α->Value) (sj: ∀x,mC (enc x)) {ts:List (Nat×Tm)} {h:List (Nat×aB)} {n m k b mm ln:Nat} {f:Nat->List DV} (hr:aC P base ψ S w ⟨ts,h,n,m⟩ a) (bg:ψ k=some (.at b mm))
 (hb:aF h k= .row 1 ln f) (d:Array α) (hd:d.size<=ln) (q:Nat) (os:Array Obj):
 aC P base ψ S (Sort.grow (putRow enc (Sort.ahead w q) b 0 d) os) ⟨ts,(k,.row 1 ln (fun i=>if i<d.size then [.v (enc d[i]!)] else f i))::h,n,m⟩ a/\
  aI base ψ S w ψ S (Sort.grow (putRow enc (Sort.ahead w q) b 0 d) os):=by
 have aw:=hr.sim.blk k _ bg
 simp only [hb] at aw;obtain ⟨arr,e,g1,g2,g3,g4,g5⟩:=aw
 have gy:(putRow enc (Sort.ahead w q) b 0 d).heap=w.heap.modify b (onCells (putCells enc 0 d)):=rfl
 have ua:(putRow enc (Sort.ahead w q) b 0 d).heap[b]? =some (.cells (putCells enc 0 d arr) e (0,0)):=by
  rw [gy,Array.getElem?_modify,if_pos rfl,g1];rfl
 obtain ⟨r1,r2⟩:=hr.write (w':=putRow enc (Sort.ahead w q) b 0 d) (blk:= .row 1 ln (fun i=>if i<d.size then [.v (enc d[i]!)] else f i)) bg (by simp only [hb];trivial) rfl rfl rfl (by rw [gy];simp)
  (fun b' fu=>by rw [gy,Array.getElem?_modify,if_neg (fun h=>fu h.symm)]) (fun hl=>by
   refine ⟨putCells enc 0 d arr,e,ua,by simp [putCells,g2],by omega,fun i hi=> ?_,fun i j hi hj=> ?_⟩
   . dsimp only;split
     . rfl
     . exact g4 i hi
   . have DR:j=0:=by omega
     subst DR;have hlt:i<arr.size:=j3
     have cu:(putCells enc 0 d arr).getD (i*1+0) undef=if i<d.size then enc d[i]! else arr.getD (i*1+0) undef:=by
      rw [Array.getD_eq_getD_getElem?,Array.getD_eq_getD_getElem?];simp only [putCells,Nat.mul_one,Nat.add_zero,Array.getElem?_mapIdx,Array.getElem?_eq_getElem hlt,Option.map_some,Option.getD_some,Nat.zero_le,true_and,Nat.zero_add,Nat.sub_zero]
     rw [cu];dsimp only;split
     . exact .v (sj _)
     . exact (g5 i 0 hi hj).later hl)
 obtain ⟨r3,r4⟩:=r1.ext0 (S':=S) (w':=Sort.grow (putRow enc (Sort.ahead w q) b 0 d) os) ⟨rfl,rfl,rfl,by simp [Sort.grow],fun b' fu=>by
  show ((putRow enc (Sort.ahead w q) b 0 d).heap++os)[b']? =_
  rw [Array.getElem?_append_left fu],fun _ h=>h,fun _ h=> .inl h,fun b' fu=>by
  have h1:=r1.sim.sdom b' fu
  have h2:(Sort.grow (putRow enc (Sort.ahead w q) b 0 d) os).heap.size=(putRow enc (Sort.ahead w q) b 0 d).heap.size+os.size:=by simp [Sort.grow]
  omega⟩
 exact ⟨r3,r2.trans r4⟩
theorem aO2 {ts:List (Nat×Tm)} {h:List (Nat×aB)} {n m k b mm ln len:Nat} {f:Nat->List DV} (hr:aC P base ψ S w ⟨ts,h,n,m⟩ a) (bg:ψ k=some (.at b mm))
 (hb:aF h k= .row 1 ln f) (hle:len<=ln) (hf: ∀i,i<len->f i= [st (gT (f i))]):Holds encStr w b 0 ((gN len f).map fun s=>s.data.toList).toArray:=by
 have aw:=hr.sim.blk k _ bg
 simp only [hb] at aw;obtain ⟨arr,e,g1,g2,g3,g4,g5⟩:=aw
 intro j hj;have jv:j<len:=by simpa [gN] using hj
 have h5:=g5 j 0 j3 j3
 rw [hf j jv] at h5;have hlt:j<arr.size:=j3
 have hv:arr[j]? =some (.string (gT (f j))):=by
  rw [Array.getElem?_eq_getElem hlt];have e1:arr.getD (j*1+0) undef=arr[j]:=by rw [Array.getD_eq_getD_getElem?,Nat.mul_one,Nat.add_zero,Array.getElem?_eq_getElem hlt];rfl
  rw [e1] at h5
  generalize arr[j]=v at h5
  have h5:aZ S w (st (gT (f j))) v:=h5
  cases h5;rfl
 refine ⟨?_,?_⟩
 . rw [Nat.zero_add,oB g1,hv]
   congr 1
   rw [getElem!_pos _ j hj];simp [gN,encStr]
 . simp [World.frozen?,g1]
theorem bBQ {ts:List (Nat×Tm)} {h:List (Nat×aB)} {n m k b mm:Nat} (hr:aC P base ψ S w ⟨ts,h,n,m⟩ a) (bg:ψ k=some (.at b mm)):b<w.heap.size:=hr.sim.pdom k b mm bg
theorem aC.empty {ts:List (Nat×Tm)} {h:List (Nat×aB)} {n m k ln:Nat} {f:Nat->List DV} (hr:aC P base ψ S w ⟨ts,h,n,m⟩ a) (hb:aF h k= .row 1 ln f) (g:Nat->List DV):
 aC P base ψ S w ⟨ts,(k,.row 1 ln fun i=>if i<0 then g i else f i)::h,n,m⟩ a:=by
 have e:(fun i=>if i<0 then g i else f i)=f:=by funext i;simp
 rw [e];have c5: ∀j,aF ((k,.row 1 ln f)::h) j=aF h j:=by
  intro j;rw [cY];split
  . rename_i e;subst e;exact hb.symm
  . rfl
 refine ⟨hr.bas,⟨hr.sim.dom,fun j l hj=>by rw [c5];exact hr.sim.blk j l hj,fun j j' b m1 m2 h1 h2 l1 l2=>hr.sim.inj j j' b m1 m2 h1 h2 (by simpa only [c5] using l1) (by simpa only [c5] using l2),
  fun j b m1 h1 l1=>hr.sim.dis j b m1 h1 (by simpa only [c5] using l1),hr.sim.pdom,hr.sim.sdom⟩,hr.lim,hr.defers,hr.tmps⟩
end
def bS (l:List UInt8):ByteArray:=⟨l.toArray⟩
def bR (x y:List UInt8):Int:=Lib.compareBytes x y
theorem zS: ∀(x y:List UInt8),(bR x y<0)↔x<y
 | [],[]=>by simp [bR,Lib.compareBytes]
 | [],_::_=>by simp [bR,Lib.compareBytes]
 |_::_,[]=>by simp [bR,Lib.compareBytes]
 |a::x,b::y=>by
  have ih:=zS x y
  unfold bR at ih⊢
  unfold Lib.compareBytes;rw [List.cons_lt_cons_iff];by_cases h1:a<b
  . simp [h1]
  . by_cases h2:b<a
    . have ag:a≠b:=fun e=>by subst e;exact h1 h2
      simp [h1,h2,ag]
    . have he:a=b:=by
       have h1:=UInt8.not_lt.1 h1
       have h2:=UInt8.not_lt.1 h2
       exact UInt8.le_antisymm h2 h1
      subst he;simp [h1,ih]
theorem wQ (x y:List UInt8):ltOf bR x y=decide (x<y):=by
 unfold ltOf;rw [Bool.eq_iff_iff];simp only [decide_eq_true_eq];exact zS x y
theorem bEO:SWO (ltOf bR) where
 irrefl x:=by rw [wQ];simpa using List.lt_irrefl x
 trans x y z h1 h2:=by
  rw [wQ] at*
  simp only [decide_eq_true_eq] at*
  exact List.lt_trans h1 h2
 ntrans x y z h1 h2:=by
  rw [wQ] at*
  simp only [decide_eq_false_iff_not,List.not_lt] at*
  exact List.le_trans h2 h1
theorem bEP (x y:List UInt8) (h1:ltOf bR x y=false) (h2:ltOf bR y x=false):x=y:=by
 rw [wQ] at*
 simp only [decide_eq_false_iff_not,List.not_lt] at*
 exact List.le_antisymm h2 h1
theorem aWE (x y:List UInt8) (W:World):Calls prog 183 #[encStr x,encStr y] W fun e w'=>e= .returned (.int .i64 (bR x y))/\ ∃q,w'=W.drewN q:=by
 have xd:=Tryz.strings_Compare (bS x) (bS y) W
 unfold bR;have e1:(bS x).data.toList=x:=rfl
 have e2:(bS y).data.toList=y:=rfl
 rw [e1,e2] at xd;unfold bS at xd
 generalize Lib.compareBytes x y=r at xd⊢
 go_enter func183,ntmps183
 go_wp2_with (go_at_call 75;refine xd.mono ?_;rintro e w' ⟨rfl,rfl⟩)
 go_ret
 exact ⟨rfl,0,rfl⟩
def nJ (l:List ByteArray):List (List UInt8):=(l.map fun s=>s.data.toList).mergeSort fun x y=> !(ltOf bR) y x
theorem aNI (l:List ByteArray):(nJ l).length=l.length:=by simp [nJ]
theorem aYp {P:Program} {ψ:aJ} {S:Nat->Prop} {w:World} {f:Nat} {v:Value} (h:bB P ψ S w (.c (.fn f [])) v):v= .func (.func f) #[] #[]:=by
 obtain ⟨vs,rfl,h⟩:=h
 have:vs= #[]:=by
  apply Array.ext'
  generalize vs.toList=l at h
  cases l with
  |nil=>rfl
  |cons _ _=>exact h.elim
 rw [this]
theorem aVC {base:Nat} {k len ln:Nat} {f:Nat->List DV} {ts:List (Nat×Tm)} {h:List (Nat×aB)} {n m:Nat} {K:Tm->St->Prop} (hb:aF h k= .row 1 ln f) (hle:len<=ln) (hf: ∀i,i<len->f i= [st (gT (f i))]) (hn:len<4611686018427387904)
 (hk:K (.tup []) ⟨ts,(k,.row 1 ln fun i=>if i<len then [.v (encStr (nJ (gN len f)).toArray[i]!)] else f i)::h,n,m⟩):bM prog base 182 [.c (.osl k 1 0 len),.c (.fn 183 [])] ⟨ts,h,n,m⟩ K:=by
 refine ⟨fun ψ S w a ak a6 cr=> ?_⟩
 match ak,cr with
 | [v1,v2],⟨bj,fi,_⟩=>
   have fi:=aYp fi
   subst fi;refine .inl ⟨aEK func182 rfl rfl, ?_⟩
   have jl: ∀p c,len=0->v1= .slice p 0 c->Calls prog 182 [v1,.func (.func 183) #[] #[]].toArray w fun e w'=> ∃r st' v aa S',e= .returned v/\ K r st'/\ aC prog base aa S' w' st' a/\ dL prog aa S' w' r v/\ aI base ψ S w aa S' w':=by
    intro p c h0 hv;subst h0;subst hv
    refine (Tryz.slices_SortFunc_none (α:=List UInt8) p c _ w).mono ?_
    rintro e w' ⟨rfl,rfl⟩
    exact ⟨_,_,_,ψ,S,rfl,hk,aC.empty a6 hb _,⟨#[],rfl,trivial⟩,aI.refl _ _ _ _⟩
   rcases bj with ⟨_,h0,a0,hv⟩|⟨b,mm,c,off,h1,hv,h2,h3⟩
   . exact jl a0 0 h0 hv
   . by_cases h0:len=0
     . exact jl (some ⟨b,off,none⟩) c h0 (by rw [hv,h0])
     . obtain ⟨ig,_⟩:=h3 j3
       have ig:off=0:=j3
       subst ig;have hsz:((gN len f).map fun s=>s.data.toList).toArray.size=len:=j2i
       have hH:=aO2 a6 h1 hb hle hf
       have hS:=Tryz.slices_SortFunc_total encStr (fun _=>rfl) bR bEO 183 #[] b 0 c ((gN len f).map fun s=>s.data.toList).toArray w (enters_of func183 j4 rfl)
        (CmpReads.lays (fun _ _ _ _ x y=>aWE x y _)) hH (bBQ a6 h1) (by rw [hsz];exact hn) bEP
       rw [hsz] at hS;subst hv;refine hS.mono ?_
       rintro e w' ⟨rfl,q,os,rfl⟩
       have hd:(((gN len f).map fun s=>s.data.toList).toArray.toList.mergeSort fun x y=> !(ltOf bR) y x).toArray.size=len:=j2i
       obtain ⟨r1,r2⟩:=aC.put encStr (fun _=>trivial) a6 h1 hb (((gN len f).map fun s=>s.data.toList).toArray.toList.mergeSort fun x y=> !(ltOf bR) y x).toArray (by rw [hd];exact hle) q os
       rw [hd] at r1;exact ⟨_,_,_,ψ,S,rfl,hk,r1,⟨#[],rfl,trivial⟩,r2⟩
theorem aOd (zs:List (List UInt8)):(Lib.compact zs).length<=zs.length:=by
 unfold Lib.compact Lib.compactUpTo;rw [List.length_map];exact Nat.le_trans (List.length_filter_le _ _) j8
def oR (l:List ByteArray):List (List UInt8):=Lib.compact (l.map fun s=>s.data.toList)
def sR (l:List ByteArray):List (List UInt8):=oR l++List.replicate (l.length-(oR l).length) []
theorem aUC {base:Nat} {k len ln:Nat} {f:Nat->List DV} {ts:List (Nat×Tm)} {h:List (Nat×aB)} {n m:Nat} {K:Tm->St->Prop} (hb:aF h k= .row 1 ln f) (hle:len<=ln) (hf: ∀i,i<len->f i= [st (gT (f i))]) (hn:len<4611686018427387904)
 (hk:K (.va (.c (.osl k 1 0 (oR (gN len f)).length))) ⟨ts,(k,.row 1 ln fun i=>if i<len then [.v (encStr (sR (gN len f)).toArray[i]!)] else f i)::h,n,m⟩):bM prog base 184 [.c (.osl k 1 0 len)] ⟨ts,h,n,m⟩ K:=by
 refine ⟨fun ψ S w a ak a6 cr=> ?_⟩
 match ak,cr with
 | [v1],⟨bj,_⟩=>
   refine .inl ⟨aEK func184 rfl rfl, ?_⟩
   have fk:(oR (gN len f)).length<=len:=by
    have:=aOd ((gN len f).map fun s=>s.data.toList)
    simpa [oR,gN] using this
   have jl: ∀p c,len=0->v1= .slice p 0 c->bB prog ψ S w (.c (.osl k 1 0 0)) v1->Calls prog 184 [v1].toArray w fun e w'=> ∃r st' v aa S',e= .returned v/\ K r st'/\ aC prog base aa S' w' st' a/\ dL prog aa S' w' r v/\ aI base ψ S w aa S' w':=by
    intro p c h0 hv bh;subst h0;subst hv
    refine (Tryz.slices_Compact_string_empty p c w).mono ?_
    rintro e w' ⟨rfl,rfl⟩
    have e0:(oR (gN 0 f)).length=0:=j3
    rw [e0] at hk;exact ⟨_,_,_,ψ,S,rfl,hk,aC.empty a6 hb _,bh,aI.refl _ _ _ _⟩
   rcases bj with ⟨Cw,h0,a0,hv⟩|⟨b,mm,c,off,h1,hv,h2,h3⟩
   . exact jl a0 0 h0 hv (.inl ⟨Cw,rfl,a0,hv⟩)
   . by_cases h0:len=0
     . exact jl (some ⟨b,off,none⟩) c h0 (by rw [hv,h0]) (.inr ⟨b,mm,c,off,h1,by rw [hv,h0],Nat.zero_le _,h3⟩)
     . obtain ⟨ig,rf⟩:=h3 j3
       have ig:off=0:=j3
       subst ig;have hsz:((gN len f).map fun s=>s.data.toList).length=len:=j2i
       have hH:=aO2 a6 h1 hb hle hf
       have hS:=Tryz.slices_Compact_string b 0 c ((gN len f).map fun s=>s.data.toList) w hH (by rw [hsz];omega) (by rw [hsz];exact h2)
       rw [hsz] at hS;subst hv;refine hS.mono ?_
       rintro e w' ⟨rfl,q,rfl⟩
       have hd:(sR (gN len f)).toArray.size=len:=by
        unfold sR;simp [gN] at fk⊢
        omega
       have hg:(gN len f).length=len:=j2i
       obtain ⟨r1,r2⟩:=aC.put encStr (fun _=>trivial) a6 h1 hb (sR (gN len f)).toArray (by rw [hd];exact hle) q #[]
       rw [hd] at r1;have hw:Sort.grow (putRow encStr (Sort.ahead w q) b 0 (sR (gN len f)).toArray) #[]=putRow encStr (Sort.ahead w q) b 0 (Lib.compact ((gN len f).map fun (s:ByteArray)=>s.data.toList)++List.replicate (len-(Lib.compact ((gN len f).map fun (s:ByteArray)=>s.data.toList)).length) []).toArray:=by
        rw [grow_empty];unfold sR oR;rw [hg]
       rw [hw] at r1 r2;exact ⟨_,_,_,ψ,S,rfl,hk,r1,.inr ⟨b,mm,c,0,h1,rfl,Nat.le_trans fk h2,fun hc=>⟨rfl,rf⟩⟩,r2⟩
end Go.Proofs.YtiblbnhknemloaaGreat
namespace Go.Proofs.YtiblbnhknemloaaGreat
open Tryz
open Go.Sx
open Go.RowKit Go.Lib Go.Sort
def aP (l:List ByteArray):List ByteArray:=(oR ((nJ l).map bS)).map bS
theorem aTj (x:ByteArray):gT [st x]=x:=rfl
theorem dF (l:List ByteArray):(aP l).length<=l.length:=by
 have:=aOd (((nJ l).map bS).map fun s=>s.data.toList)
 simpa [aP,oR,aNI] using this
theorem aJm (l:List ByteArray):(oR ((nJ l).map bS)).length=(aP l).length:=by simp [aP]
theorem bBR {len:Nat} {L:List (List UInt8)} (hL:L.length=len) (f:Nat->List DV):gN len (fun i=>if i<len then [.v (encStr L.toArray[i]!)] else f i)=L.map bS:=by
 subst hL;unfold gN;apply List.ext_getElem
 . simp
 . intro i h1 h2;have h3:i<L.length:=by simpa using h2
   simp [h3,gT,encStr,bS]
theorem bBS {l:List ByteArray} {i:Nat} {M:List ByteArray} (hM:M=(nJ l).map bS) (hi:i<(oR M).length): [DV.v (encStr (sR M).toArray[i]!)]= [st (aN (aP l) i)]:=by
 subst hM;have h2:i<(sR ((nJ l).map bS)).length:=by unfold sR;simp;omega
 unfold aP aN;simp only [List.getD_eq_getElem?_getD,List.getElem?_map,List.getElem?_eq_getElem hi,Option.map_some,Option.getD_some];simp only [List.getElem!_toArray];rw [getElem!_pos _ i h2];simp only [sR,List.getElem_append_left hi];rfl
def aFM:List Ar->Option Rs
 | [.c (.d (.lst 1 n0 f0))]=>some ⟨(n0*16<=140737488351232/\ ∀i,i<n0->f0 i= [st (gT (f0 i))]),.va (.c (.ow 1 n0 fun i=> [st (gT (f0 i))])),[]⟩
 |_=>none
theorem aPU:FC prog 181 aFM:=by
 intro xs pre r us h hp;unfold aFM at h;split at h
 . rename_i n0 f0
   cases h;have a7:=hp
   refine aU.of_eq (as':= [.c (.d (.lst 1 n0 fun i=> [st (gT (f0 i))]))]) ?_ rfl rfl ?_
   . repeat' (first|exact j2t|refine ⟨?_,?_⟩|fail)
     all_goals first|exact a7.2
   refine aE aA (l:= []) trivial func181 rfl j4 false ?_
   (repeat' (first|exact trivial|refine ⟨?_,?_⟩|intro _));all_goals first|apply qq|conv=>whnf
   all_goals first|omega|(simp [dG];done)|exact ‹_=true->_› ‹_›
 . cases h
def rR:List Ar->Option Rs
 | [.c (.d (.v (.bool b0))),.c (.d (.lst 1 n1 f1))]=>some ⟨(n1*16<=140737488351232/\ ∀i,i<n1->f1 i= [st (gT (f1 i))]),.va (Ns.ar (⟨b0,aP (gN n1 f1)⟩)),[]⟩
 |_=>none
theorem uW:FC prog 137 rR:=by
 intro xs pre r us h hp;unfold rR at h;split at h
 . rename_i b0 n1 f1
   cases h;have a7:=hp
   refine aU.of_eq (as':= [.c (.d (.v (.bool b0))),.c (.d (.lst 1 n1 fun i=> [st (gT (f1 i))]))]) ?_ rfl rfl ?_
   . repeat' (first|exact j2t|refine ⟨?_,?_⟩|fail)
     all_goals first|exact a7.2
   refine aE aA (l:= [(181,⟨[],aFM⟩)]) ⟨aPU,trivial⟩ func137 rfl j4 true ?_
   (repeat' (first|refine ⟨?_,?_⟩|intro _));all_goals first|apply qq|conv=>whnf
   all_goals first|exact a7.1|rfl|refine aVC rfl (Nat.le_refl _) (fun _ _=>rfl) j3 ?_
   refine aUC rfl (Nat.le_refl _) (fun i hi=>by simp [hi,gT,encStr]) j3 ?_
   (repeat' (first|exact trivial|refine ⟨?_,?_⟩|intro _));all_goals first|apply qq|conv=>whnf
   all_goals (have hE:=bBR (len:=n1) (L:=nJ (gN n1 f1)) (by rw [aNI,bU]) (fun i=> [st (gT (f1 i))]))
   all_goals (try simp only [eZ,aTj,hE,aJm])
   all_goals (have hL:=dF (gN n1 f1);rw [bU] at hL)
   all_goals first|omega|skip
   rename_i i hi
   simp only [eZ,aTj,hE,aJm] at hi;have e0:0+Int.toNat 0+i=i:=j8
   rw [e0,if_pos j3];exact bBS rfl (by rw [aJm];omega)
 . cases h
def aBc:List Ar->Option Rs
 | [.agg [.d (.v (.bool b0)),.d (.lst 1 n0 f0)]]=>some ⟨(n0*16<=140737488351232/\ ∀i,i<n0->f0 i= [st (gT (f0 i))]),.va (Ns.ar (⟨b0,aP (gN n0 f0)⟩)),[]⟩
 |_=>none
theorem aFl:FC prog 101 aBc:=by
 intro xs pre r us h hp;unfold aBc at h;split at h
 . rename_i b0 n0 f0
   cases h;have a7:=hp
   refine aU.of_eq (as':= [.agg [.d (.v (.bool b0)),.d (.lst 1 n0 fun i=> [st (gT (f0 i))])]]) ?_ rfl rfl ?_
   . repeat' (first|exact j2t|refine ⟨?_,?_⟩|fail)
     all_goals first|exact a7.2
   refine aE aA (l:= [(137,⟨[],rR⟩)]) ⟨uW,trivial⟩ func101 rfl j4 true ?_
   (repeat' (first|exact trivial|refine ⟨?_,?_⟩|intro _));all_goals first|apply qq|conv=>whnf
   all_goals first|exact a7.1|rfl
 . cases h
end Go.Proofs.YtiblbnhknemloaaGreat
namespace Go.Proofs.YtiblbnhknemloaaGreat
open Tryz
open Go.Sx
structure Cg where
 some:Bool
 m:Int
 r:Int
abbrev Cg.ar (c:Cg):Ar:= .agg [.d (bo c.some),.d (it c.m),.d (it c.r)]
def Cg.inR (c:Cg):Prop:=(-9223372036854775808<=c.m/\ c.m<9223372036854775808)/\ -9223372036854775808<=c.r/\ c.r<9223372036854775808
def md (n m:Int):Int:=if m<=0 then n else n%m
namespace Cg
def none:Cg:=⟨false,0,0⟩
def of (m r:Int):Cg:=if m<0 then ⟨true,1,md r 1⟩ else ⟨true,m,md r m⟩
def clean (c:Cg):Cg:=if c.some then of c.m c.r else none
def has (c:Cg) (n:Int):Bool:=c.clean.some&&decide (md n c.clean.m=c.clean.r)
def factor (a b:Int):Bool:=if a=0 then decide (b=0) else decide (b%a=0)
def leq (a b:Cg):Bool:=if a.clean.some&&b.clean.some then factor b.clean.m a.clean.m&&has b.clean a.clean.r else !a.clean.some
def eq (a b:Cg):Bool:=a.some==b.some&&(a.m==b.m&&a.r==b.r)
end Cg
theorem aYq (n m:Int) (h:0<m):(n.tmod m<0->n.tmod m+m=n%m)/\ (¬n.tmod m<0->n.tmod m=n%m):=by
 have h1:=Int.emod_nonneg n (show m≠0 by omega)
 have h2:=Int.emod_lt_of_pos n h
 have h3:n.tmod m=n%m-if 0<=n \/m∣n then 0 else m:=by rw [Int.tmod_eq_emod];split<;>simp<;>omega
 rw [h3];split<;>omega
theorem aWF (n m:Int):n.tmod m=0↔n%m=0:=by rw [<-Int.dvd_iff_tmod_eq_zero, <-Int.dvd_iff_emod_eq_zero]
theorem oA (n m:Int) (h:0<m):0<=md n m/\ md n m<m:=by
 unfold md;rw [if_neg j3];exact ⟨Int.emod_nonneg _ j3,Int.emod_lt_of_pos _ h⟩
theorem Cg.of_inR (m r:Int) (h0: -9223372036854775808<=m) (h1:m<9223372036854775808) (h2: -9223372036854775808<=r) (h3:r<9223372036854775808):(Cg.of m r).inR:=by
 unfold Cg.of;by_cases hm:m<0
 . rw [if_pos hm];have:=oA r 1 j3
   unfold Cg.inR;dsimp only;omega
 . rw [if_neg hm];by_cases h0:m=0
   . subst h0;unfold Cg.inR md;dsimp only;rw [if_pos j3];omega
   . have:=oA r m j3
     unfold Cg.inR;dsimp only;omega
theorem Cg.eta (c:Cg):(⟨c.some,c.m,c.r⟩:Cg)=c:=rfl
theorem Cg.clean_nn (c:Cg):0<=c.clean.m:=by
 unfold Cg.clean Cg.of Cg.none;split
 . split
   . dsimp only;omega
   . dsimp only;omega
 . decide
theorem Cg.clean_inR {c:Cg} (h:c.inR):c.clean.inR:=by
 unfold Cg.clean;split
 . exact Cg.of_inR _ _ h.1.1 h.1.2 h.2.1 h.2.2
 . unfold Cg.none Cg.inR;decide
def aAc:List Ar->Option Rs
 | [.c (.d (.v (.int .i64 i0))),.c (.d (.v (.int .i64 i1)))]=>some ⟨(-9223372036854775808<=i0/\ i0<9223372036854775808)/\ (-9223372036854775808<=i1/\ i1<9223372036854775808),.va (.c (.d (it (md i0 i1)))),[]⟩
 |_=>none
theorem aDR:FC prog 180 aAc:=by
 intro xs pre r us h hp;unfold aAc at h;split at h
 . rename_i i0 i1
   cases h;obtain ⟨a7,a8⟩:=hp
   refine aE aA (l:= []) trivial func180 rfl j4 false ?_
   repeat' (first|exact trivial|refine ⟨?_,?_⟩|intro _)
   all_goals first|(conv=>whnf)
   all_goals (try simp only [decide_eq_true_eq,decide_eq_false_iff_not] at*)
   all_goals first|omega|(have q:=aYq i0 i1 j3;have q2:=oA i0 i1 j3;unfold md at*;rw [if_neg j3] at*;first|(rw [q.2 j9])|(rw [aR _ j3 j3,q.1 j9]))|(unfold md;rw [if_pos j9])
 . cases h
def rS:List Ar->Option Rs
 | [.c (.d (.v (.int .i64 i0))),.c (.d (.v (.int .i64 i1)))]=>some ⟨(-9223372036854775808<=i0/\ i0<9223372036854775808)/\ (-9223372036854775808<=i1/\ i1<9223372036854775808),.va (Cg.ar (Cg.of i0 i1)),[]⟩
 |_=>none
theorem uX:FC prog 136 rS:=by
 intro xs pre r us h hp;unfold rS at h;split at h
 . rename_i i0 i1
   cases h;obtain ⟨a7,a8⟩:=hp
   refine aE aA (l:= [(180,⟨[],aAc⟩)]) ⟨aDR,trivial⟩ func136 rfl j4 false ?_
   (repeat' (first|exact trivial|refine ⟨?_,?_⟩|intro _));all_goals first|apply qq|conv=>whnf
   all_goals grind [Cg.of]
 . cases h
def uY:List Ar->Option Rs
 | [.c (.d (.v (.int .i64 i0)))]=>some ⟨(-9223372036854775808<=i0/\ i0<9223372036854775808),.va (Cg.ar (Cg.of 0 i0)),[]⟩
 |_=>none
theorem zT:FC prog 84 uY:=by
 intro xs pre r us h hp;unfold uY at h;split at h
 . rename_i i0
   cases h;have a7:=hp
   refine aE aA (l:= [(136,⟨[],rS⟩)]) ⟨uX,trivial⟩ func84 rfl j4 false ?_
   (repeat' (first|exact trivial|refine ⟨?_,?_⟩|intro _));all_goals first|apply qq|conv=>whnf
   all_goals first|omega
 . cases h
def uZ:List Ar->Option Rs
 | []=>some ⟨True,.va (Cg.ar (Cg.of 1 0)),[]⟩
 |_=>none
theorem zU:FC prog 135 uZ:=by
 intro xs pre r us h hp;unfold uZ at h;split at h
 . cases h;refine aE aA (l:= [(136,⟨[],rS⟩)]) ⟨uX,trivial⟩ func135 rfl j4 false ?_
   (repeat' (first|exact trivial|refine ⟨?_,?_⟩|intro _));all_goals first|apply qq|conv=>whnf
   all_goals first|omega
 . cases h
def rF:List Ar->Option Rs
 | [.agg [.d (.v (.bool b0)),.d (.v (.int .i64 m0)),.d (.v (.int .i64 r0))]]=>some ⟨(Cg.inR ⟨b0,m0,r0⟩),.va (.c (.d (bo (!b0)))),[]⟩
 |_=>none
theorem uF:FC prog 103 rF:=by
 intro xs pre r us h hp;unfold rF at h;split at h
 . rename_i b0 m0 r0
   cases h;have a7:=hp
   refine aE aA (l:= []) trivial func103 rfl j4 false ?_
   repeat' (first|exact trivial|refine ⟨?_,?_⟩|fail)
   all_goals first|(conv=>whnf)
   all_goals rfl
 . cases h
def uG:List Ar->Option Rs
 | [.agg [.d (.v (.bool b0)),.d (.v (.int .i64 m0)),.d (.v (.int .i64 r0))]]=>some ⟨(Cg.inR ⟨b0,m0,r0⟩),.va (Cg.ar (Cg.clean (⟨b0,m0,r0⟩:Cg))),[]⟩
 |_=>none
theorem yV:FC prog 132 uG:=by
 intro xs pre r us h hp;unfold uG at h;split at h
 . rename_i b0 m0 r0
   cases h;have a7:=hp
   refine aE aA (l:= [(136,⟨[],rS⟩)]) ⟨uX,trivial⟩ func132 rfl j4 false ?_
   (repeat' (first|exact trivial|refine ⟨?_,?_⟩|intro _));all_goals first|apply qq|conv=>whnf
   all_goals first|grind [Cg.clean,Cg.none,Cg.inR]
 . cases h
def aAd:List Ar->Option Rs
 | [.agg [.d (.v (.bool b0)),.d (.v (.int .i64 m0)),.d (.v (.int .i64 r0))],.c (.d (.v (.int .i64 i1)))]=>some ⟨(Cg.inR ⟨b0,m0,r0⟩)/\ (-9223372036854775808<=i1/\ i1<9223372036854775808),.va (.c (.d (bo (Cg.has (⟨b0,m0,r0⟩:Cg) i1)))),[]⟩
 |_=>none
theorem aDS:FC prog 161 aAd:=by
 intro xs pre r us h hp;unfold aAd at h;split at h
 . rename_i b0 m0 r0 i1
   cases h;obtain ⟨a7,a8⟩:=hp
   refine aE aA (l:= [(132,⟨[],uG⟩),(180,⟨[],aAc⟩)]) ⟨yV,aDR,trivial⟩ func161 rfl j4 false ?_
   (repeat' (first|exact trivial|refine ⟨?_,?_⟩|intro _));all_goals first|apply qq|conv=>whnf
   all_goals first|grind [Cg.has,Cg.inR,Cg.clean_inR]
 . cases h
def aJn:List Ar->Option Rs
 | [.c (.d (.v (.int .i64 i0))),.c (.d (.v (.int .i64 i1)))]=>some ⟨(-9223372036854775808<=i0/\ i0<9223372036854775808)/\ (-9223372036854775808<=i1/\ i1<9223372036854775808),.va (.c (.d (bo (Cg.factor i0 i1)))),[]⟩
 |_=>none
theorem aWG:FC prog 238 aJn:=by
 intro xs pre r us h hp;unfold aJn at h;split at h
 . rename_i i0 i1
   cases h;obtain ⟨a7,a8⟩:=hp
   refine aE aA (l:= []) trivial func238 rfl j4 false ?_
   repeat' (first|exact trivial|refine ⟨?_,?_⟩|intro _)
   all_goals first|(conv=>whnf)
   all_goals first|grind [Cg.factor,aWF]
 . cases h
def aL0:List Ar->Option Rs
 | [.agg [.d (.v (.bool b0)),.d (.v (.int .i64 m0)),.d (.v (.int .i64 r0))],.agg [.d (.v (.bool b1)),.d (.v (.int .i64 m1)),.d (.v (.int .i64 r1))]]=>some ⟨(Cg.inR ⟨b0,m0,r0⟩)/\ (Cg.inR ⟨b1,m1,r1⟩),.va (.c (.d (bo (Cg.leq (⟨b0,m0,r0⟩:Cg) (⟨b1,m1,r1⟩:Cg))))),[]⟩
 |_=>none
theorem bBT:FC prog 204 aL0:=by
 intro xs pre r us h hp;unfold aL0 at h;split at h
 . rename_i b0 m0 r0 b1 m1 r1
   cases h;obtain ⟨a7,a8⟩:=hp
   refine aE aA (l:= [(132,⟨[],uG⟩),(103,⟨[],rF⟩),(238,⟨[],aJn⟩),(161,⟨[],aAd⟩)]) ⟨yV,uF,aWG,aDS,trivial⟩ func204 rfl j4 false ?_
   (repeat' (first|exact trivial|refine ⟨?_,?_⟩|intro _));all_goals first|apply qq|conv=>whnf
   all_goals (try simp only [Cg.eta] at*)
   all_goals first|grind [Cg.leq,Cg.inR,Cg.clean_inR]
 . cases h
structure Sp where
 some:Bool
 lo:Int
 hi:Int
abbrev Sp.ar (s:Sp):Ar:= .agg [.d (bo s.some),.d (it s.lo),.d (it s.hi)]
namespace Sp
def none (s:Sp):Bool:= !s.some||decide (s.lo>s.hi)
def has (s:Sp) (n:Int):Bool:=s.some&&decide (s.lo<=n)&&decide (n<=s.hi)
def clean (s:Sp):Sp:=if s.none then ⟨false,0,0⟩ else s
def leq (a b:Sp):Bool:=a.none||(b.has a.lo&&b.has a.hi)
def of (lo hi:Int):Sp:=if lo>hi then ⟨false,0,0⟩ else ⟨true,lo,hi⟩
def eq (a b:Sp):Bool:=a.some==b.some&&(a.lo==b.lo&&a.hi==b.hi)
def join (a b:Sp):Sp:=if a.none then b.clean else if b.none then a else of (min a.lo b.lo) (max a.hi b.hi)
def meet (a b:Sp):Sp:=if a.none||b.none then ⟨false,0,0⟩ else of (max a.lo b.lo) (min a.hi b.hi)
def narrow (a b:Sp):Sp:=if !leq b a then a.clean else if b.none then ⟨false,0,0⟩ else ⟨a.some,if a.lo= -9223372036854775808 then b.lo else a.lo,if a.hi=9223372036854775807 then b.hi else a.hi⟩
def inR (s:Sp):Prop:=(-9223372036854775808<=s.lo/\ s.lo<9223372036854775808)/\ -9223372036854775808<=s.hi/\ s.hi<9223372036854775808
theorem clean_inR {s:Sp} (h:s.inR):s.clean.inR:=by
 unfold clean;split
 . unfold inR;decide
 . exact h
end Sp
def mE:List Ar->Option Rs
 | [.agg [.d (.v (.bool s0)),.d (.v (.int .i64 l0)),.d (.v (.int .i64 h0))]]=>some ⟨(Sp.inR ⟨s0,l0,h0⟩),.va (.c (.d (bo (Sp.none (⟨s0,l0,h0⟩:Sp))))),[]⟩
 |_=>none
theorem oD:FC prog 102 mE:=by
 intro xs pre r us h hp;unfold mE at h;split at h
 . rename_i s0 l0 h0
   cases h;have a7:=hp
   refine aE aA (l:= []) trivial func102 rfl j4 false ?_
   repeat' (first|exact trivial|refine ⟨?_,?_⟩|intro _)
   all_goals first|(conv=>whnf)
   all_goals grind [Sp.none,Sp.inR]
 . cases h
def aAe:List Ar->Option Rs
 | [.agg [.d (.v (.bool s0)),.d (.v (.int .i64 l0)),.d (.v (.int .i64 h0))],.c (.d (.v (.int .i64 i1)))]=>some ⟨(Sp.inR ⟨s0,l0,h0⟩)/\ (-9223372036854775808<=i1/\ i1<9223372036854775808),.va (.c (.d (bo (Sp.has (⟨s0,l0,h0⟩:Sp) i1)))),[]⟩
 |_=>none
theorem aDT:FC prog 160 aAe:=by
 intro xs pre r us h hp;unfold aAe at h;split at h
 . rename_i s0 l0 h0 i1
   cases h;obtain ⟨a7,a8⟩:=hp
   refine aE aA (l:= []) trivial func160 rfl j4 false ?_
   repeat' (first|exact trivial|refine ⟨?_,?_⟩|intro _)
   all_goals first|(conv=>whnf)
   all_goals grind [Sp.has,Sp.inR]
 . cases h
def lN:List Ar->Option Rs
 | [.c (.d (.v (.int .i64 i0))),.c (.d (.v (.int .i64 i1)))]=>some ⟨(-9223372036854775808<=i0/\ i0<9223372036854775808)/\ (-9223372036854775808<=i1/\ i1<9223372036854775808),.va (Sp.ar (Sp.of i0 i1)),[]⟩
 |_=>none
theorem nK:FC prog 131 lN:=by
 intro xs pre r us h hp;unfold lN at h;split at h
 . rename_i i0 i1
   cases h;obtain ⟨a7,a8⟩:=hp
   refine aE aA (l:= []) trivial func131 rfl j4 false ?_
   repeat' (first|exact trivial|refine ⟨?_,?_⟩|intro _)
   all_goals first|(conv=>whnf)
   all_goals grind [Sp.of]
 . cases h
def xH:List Ar->Option Rs
 | [.c (.d (.v (.int .i64 i0)))]=>some ⟨(-9223372036854775808<=i0/\ i0<9223372036854775808),.va (Sp.ar (Sp.of i0 i0)),[]⟩
 |_=>none
theorem aBr:FC prog 83 xH:=by
 intro xs pre r us h hp;unfold xH at h;split at h
 . rename_i i0
   cases h;have a7:=hp
   refine aE aA (l:= [(131,⟨[],lN⟩)]) ⟨nK,trivial⟩ func83 rfl j4 false ?_
   (repeat' (first|exact trivial|refine ⟨?_,?_⟩|intro _));all_goals first|apply qq|conv=>whnf
   all_goals first|omega
 . cases h
def aL1:List Ar->Option Rs
 | []=>some ⟨True,.va (Sp.ar (Sp.of (-9223372036854775808) 9223372036854775807)),[]⟩
 |_=>none
theorem bBU:FC prog 148 aL1:=by
 intro xs pre r us h hp;unfold aL1 at h;split at h
 . cases h;refine aE aA (l:= [(131,⟨[],lN⟩)]) ⟨nK,trivial⟩ func148 rfl j4 false ?_
   (repeat' (first|exact trivial|refine ⟨?_,?_⟩|intro _));all_goals first|apply qq|conv=>whnf
   all_goals first|omega
 . cases h
def aFN:List Ar->Option Rs
 | [.agg [.d (.v (.bool s0)),.d (.v (.int .i64 l0)),.d (.v (.int .i64 h0))]]=>some ⟨(Sp.inR ⟨s0,l0,h0⟩),.va (Sp.ar (Sp.clean (⟨s0,l0,h0⟩:Sp))),[]⟩
 |_=>none
theorem aPV:FC prog 130 aFN:=by
 intro xs pre r us h hp;unfold aFN at h;split at h
 . rename_i s0 l0 h0
   cases h;have a7:=hp
   refine aE aA (l:= [(102,⟨[],mE⟩)]) ⟨oD,trivial⟩ func130 rfl j4 false ?_
   (repeat' (first|exact trivial|refine ⟨?_,?_⟩|intro _));all_goals first|apply qq|conv=>whnf
   all_goals grind [Sp.clean,Sp.inR]
 . cases h
def aL2:List Ar->Option Rs
 | [.agg [.d (.v (.bool s0)),.d (.v (.int .i64 l0)),.d (.v (.int .i64 h0))],.agg [.d (.v (.bool s1)),.d (.v (.int .i64 l1)),.d (.v (.int .i64 h1))]]=>some ⟨(Sp.inR ⟨s0,l0,h0⟩)/\ (Sp.inR ⟨s1,l1,h1⟩),.va (.c (.d (bo (Sp.leq (⟨s0,l0,h0⟩:Sp) (⟨s1,l1,h1⟩:Sp))))),[]⟩
 |_=>none
theorem bBV:FC prog 203 aL2:=by
 intro xs pre r us h hp;unfold aL2 at h;split at h
 . rename_i s0 l0 h0 s1 l1 h1
   cases h;obtain ⟨a7,a8⟩:=hp
   refine aE aA (l:= [(102,⟨[],mE⟩),(160,⟨[],aAe⟩)]) ⟨oD,aDT,trivial⟩ func203 rfl j4 false ?_
   (repeat' (first|exact trivial|refine ⟨?_,?_⟩|intro _));all_goals first|apply qq|conv=>whnf
   all_goals grind [Sp.leq,Sp.inR]
 . cases h
def mM (a b:Int):Int:=if a<b then-1 else if b<a then 1 else 0
structure Ig where
 s:Sp
 c:Cg
abbrev Ig.ar (i:Ig):Ar:= .agg [.d (bo i.s.some),.d (it i.s.lo),.d (it i.s.hi),.d (bo i.c.some),.d (it i.c.m),.d (it i.c.r)]
structure Vl where
 i:Ig
 t:Ns
abbrev Vl.ar (v:Vl):Ar:= .agg [.d (bo v.i.s.some),.d (it v.i.s.lo),.d (it v.i.s.hi),.d (bo v.i.c.some),.d (it v.i.c.m),.d (it v.i.c.r),.d (bo v.t.null),.d (lst v.t.names)]
def Cg.red (c:Cg):Prop:=0<=c.m/\ (0<c.m->0<=c.r/\ c.r<c.m)
theorem Cg.clean_red (c:Cg):c.clean.red:=by
 unfold Cg.clean Cg.of Cg.none Cg.red;split
 . split
   . have:=oA c.r 1 j3
     dsimp only;omega
   . refine ⟨by dsimp only;omega,fun h=> ?_⟩
     exact oA c.r c.m h
 . dsimp only;omega
theorem aSf (a b m:Int) (h:0<m):md (a-md b m) m=(a-b)%m:=by
 unfold md;rw [if_neg j3,if_neg j3,Int.sub_emod,Int.emod_emod_of_dvd _ (Int.dvd_refl m), <-Int.sub_emod]
theorem bBW (a b m:Int) (h:0<m):md (md a m-b) m=(a-b)%m:=by
 unfold md;rw [if_neg j3,if_neg j3,Int.sub_emod,Int.emod_emod_of_dvd _ (Int.dvd_refl m), <-Int.sub_emod]
def gR (n:Int) (c:Cg):Int:=n+(c.r-n)%c.m
def iM (n:Int) (c:Cg):Int:=n-(n-c.r)%c.m
def nU (n:Int) (c:Cg):Int:=if c.m=0 then c.r else cI (gR n c)
def upB (n:Int) (c:Cg):Bool:=if c.m=0 then decide (c.r≥n) else bJ (gR n c)
def sE (n:Int) (c:Cg):Int:=if c.m=0 then c.r else cI (iM n c)
def dnB (n:Int) (c:Cg):Bool:=if c.m=0 then decide (c.r<=n) else bJ (iM n c)
namespace Ig
def zero:Ig:=⟨⟨false,0,0⟩,⟨false,0,0⟩⟩
def none (i:Ig):Bool:=i.s.none|| !i.c.some
def clean (i:Ig):Ig:=if i.none then zero else ⟨i.s.clean,i.c.clean⟩
def leq (i j:Ig):Bool:=i.s.leq j.s&&i.c.leq j.c
def red (i:Ig):Ig:=if i.none then zero else if (!upB i.s.lo i.c|| !dnB i.s.hi i.c)||decide (nU i.s.lo i.c>sE i.s.hi i.c) then zero else
 if nU i.s.lo i.c=sE i.s.hi i.c then ⟨Sp.of (nU i.s.lo i.c) (nU i.s.lo i.c),Cg.of 0 (nU i.s.lo i.c)⟩ else ⟨Sp.of (nU i.s.lo i.c) (sE i.s.hi i.c),i.c⟩
theorem clean_inR {i:Ig} (h1:i.s.inR) (h2:i.c.inR):i.clean.s.inR/\ i.clean.c.inR:=by
 unfold clean;split
 . unfold zero Sp.inR Cg.inR;decide
 . exact ⟨Sp.clean_inR h1,Cg.clean_inR h2⟩
end Ig
theorem aBs (v:Int): -9223372036854775808<=cI v/\ cI v<9223372036854775808:=by unfold cI;split<;>omega
def aDU:List Ar->Option Rs
 | [.agg [.d (.v (.bool s0)),.d (.v (.int .i64 l0)),.d (.v (.int .i64 h0)),.d (.v (.bool b0)),.d (.v (.int .i64 m0)),.d (.v (.int .i64 r0))]]=>some ⟨(Sp.inR ⟨s0,l0,h0⟩/\ Cg.inR ⟨b0,m0,r0⟩),.va (.c (.d (bo (Ig.none (⟨⟨s0,l0,h0⟩,⟨b0,m0,r0⟩⟩:Ig))))),[]⟩
 |_=>none
theorem aKa:FC prog 54 aDU:=by
 intro xs pre r us h hp;unfold aDU at h;split at h
 . rename_i s0 l0 h0 b0 m0 r0
   cases h;have a7:=hp
   refine aE aA (l:= [(102,⟨[],mE⟩),(103,⟨[],rF⟩)]) ⟨oD,uF,trivial⟩ func54 rfl j4 false ?_
   (repeat' (first|exact trivial|refine ⟨?_,?_⟩|intro _));all_goals first|apply qq|conv=>whnf
   all_goals first|grind [Ig.none,Sp.inR,Cg.inR]
 . cases h
def aKb:List Ar->Option Rs
 | [.agg [.d (.v (.bool s0)),.d (.v (.int .i64 l0)),.d (.v (.int .i64 h0)),.d (.v (.bool b0)),.d (.v (.int .i64 m0)),.d (.v (.int .i64 r0))]]=>some ⟨(Sp.inR ⟨s0,l0,h0⟩/\ Cg.inR ⟨b0,m0,r0⟩),.va (Ig.ar (Ig.clean (⟨⟨s0,l0,h0⟩,⟨b0,m0,r0⟩⟩:Ig))),[]⟩
 |_=>none
theorem aYr:FC prog 100 aKb:=by
 intro xs pre r us h hp;unfold aKb at h;split at h
 . rename_i s0 l0 h0 b0 m0 r0
   cases h;have a7:=hp
   refine aE aA (l:= [(54,⟨[],aDU⟩),(130,⟨[],aFN⟩),(132,⟨[],uG⟩)]) ⟨aKa,aPV,yV,trivial⟩ func100 rfl j4 false ?_
   (repeat' (first|exact trivial|refine ⟨?_,?_⟩|intro _));all_goals first|apply qq|conv=>whnf
   all_goals first|grind [Ig.clean,Ig.zero,Sp.inR,Cg.inR]
 . cases h
def aK6:List Ar->Option Rs
 | [.agg [.d (.v (.bool s0)),.d (.v (.int .i64 l0)),.d (.v (.int .i64 h0)),.d (.v (.bool b0)),.d (.v (.int .i64 m0)),.d (.v (.int .i64 r0))],.agg [.d (.v (.bool s1)),.d (.v (.int .i64 l1)),.d (.v (.int .i64 h1)),.d (.v (.bool b1)),.d (.v (.int .i64 m1)),.d (.v (.int .i64 r1))]]=>some ⟨(Sp.inR ⟨s0,l0,h0⟩/\ Cg.inR ⟨b0,m0,r0⟩)/\ (Sp.inR ⟨s1,l1,h1⟩/\ Cg.inR ⟨b1,m1,r1⟩),.va (.c (.d (bo (Ig.leq (⟨⟨s0,l0,h0⟩,⟨b0,m0,r0⟩⟩:Ig) (⟨⟨s1,l1,h1⟩,⟨b1,m1,r1⟩⟩:Ig))))),[]⟩
 |_=>none
theorem bAg:FC prog 159 aK6:=by
 intro xs pre r us h hp;unfold aK6 at h;split at h
 . rename_i s0 l0 h0 b0 m0 r0 s1 l1 h1 b1 m1 r1
   cases h;obtain ⟨a7,a8⟩:=hp
   refine aE aA (l:= [(203,⟨[],aL2⟩),(204,⟨[],aL0⟩)]) ⟨bBV,bBT,trivial⟩ func159 rfl j4 false ?_
   (repeat' (first|exact trivial|refine ⟨?_,?_⟩|intro _));all_goals first|apply qq|conv=>whnf
   all_goals first|grind [Ig.leq,Sp.inR,Cg.inR]
 . cases h
theorem aSg {n m r:Int} {b:Bool} (hm: ¬m=0) (hr:Cg.red ⟨b,m,r⟩) (hi:Cg.inR ⟨b,m,r⟩):IntKind.wrap .i64 (r-md n m)=r-md n m/\ md (IntKind.wrap .i64 (r-md n m)) m=(r-n)%m/\ 0<=(r-n)%m/\ (r-n)%m<9223372036854775808:=by
 unfold Cg.red at hr;unfold Cg.inR at hi
 dsimp only at hr hi
 have h0:0<m:=j3
 have h1:=oA n m h0
 have h2:=hr.2 h0
 rw [aR _ j3 j3,aSf _ _ _ h0];have h3:=Int.emod_nonneg (r-n) (show m≠0 by omega)
 have h4:=Int.emod_lt_of_pos (r-n) h0
 omega
theorem aSh {n m r:Int} {b:Bool} (hm: ¬m=0) (hr:Cg.red ⟨b,m,r⟩) (hi:Cg.inR ⟨b,m,r⟩):IntKind.wrap .i64 (md n m-r)=md n m-r/\ md (IntKind.wrap .i64 (md n m-r)) m=(n-r)%m/\ 0<=(n-r)%m/\ (n-r)%m<9223372036854775808:=by
 unfold Cg.red at hr;unfold Cg.inR at hi
 dsimp only at hr hi
 have h0:0<m:=j3
 have h1:=oA n m h0
 have h2:=hr.2 h0
 rw [aR _ j3 j3,bBW _ _ _ h0];have h3:=Int.emod_nonneg (n-r) (show m≠0 by omega)
 have h4:=Int.emod_lt_of_pos (n-r) h0
 omega
theorem bBX {n k:Int} (hn: -9223372036854775808<=n/\ n<9223372036854775808) (h0:0<=k) (h1:k<9223372036854775808):Wd.val (wd (Wd.val (wd n)+Wd.val (wd k)))=n+k:=by
 rw [dH j0g j0g,dH (v:=n) j3 j3,dH (v:=k) j3 j3]
theorem bBY {n k:Int} (hn: -9223372036854775808<=n/\ n<9223372036854775808) (h0:0<=k) (h1:k<9223372036854775808):Wd.val (wd (Wd.val (wd n)-Wd.val (wd k)))=n-k:=by
 rw [dH j0g j0g,dH (v:=n) j3 j3,dH (v:=k) j3 j3]
theorem bEQ {n m r:Int} {b:Bool} (hm: ¬m=0) (hr:Cg.red ⟨b,m,r⟩) (hi:Cg.inR ⟨b,m,r⟩) (hn: -9223372036854775808<=n/\ n<9223372036854775808):Wd.val (wd (Wd.val (wd n)+Wd.val (wd (md (IntKind.wrap .i64 (r-md n m)) m))))=gR n ⟨b,m,r⟩:=by
 have hk:=aSg (n:=n) hm hr hi
 rw [hk.2.1,bBX hn hk.2.2.1 hk.2.2.2];rfl
theorem bER {n m r:Int} {b:Bool} (hm: ¬m=0) (hr:Cg.red ⟨b,m,r⟩) (hi:Cg.inR ⟨b,m,r⟩) (hn: -9223372036854775808<=n/\ n<9223372036854775808):Wd.val (wd (Wd.val (wd n)-Wd.val (wd (md (IntKind.wrap .i64 (md n m-r)) m))))=iM n ⟨b,m,r⟩:=by
 have hk:=aSh (n:=n) hm hr hi
 rw [hk.2.1,bBY hn hk.2.2.1 hk.2.2.2];rfl
theorem xI {n m r:Int} {b:Bool} (hm:m=0):nU n ⟨b,m,r⟩=r/\ upB n ⟨b,m,r⟩=decide (r≥n)/\ sE n ⟨b,m,r⟩=r/\ dnB n ⟨b,m,r⟩=decide (r<=n):=by unfold nU upB sE dnB;simp [hm]
theorem aBU {n m r:Int} {b:Bool} (hm: ¬m=0):nU n ⟨b,m,r⟩=cI (gR n ⟨b,m,r⟩)/\ upB n ⟨b,m,r⟩=bJ (gR n ⟨b,m,r⟩)/\ sE n ⟨b,m,r⟩=cI (iM n ⟨b,m,r⟩)/\ dnB n ⟨b,m,r⟩=bJ (iM n ⟨b,m,r⟩):=by unfold nU upB sE dnB;simp [hm]
def aNc:List Ar->Option Rs
 | [.c (.d (.v (.int .i64 i0))),.agg [.d (.v (.bool b1)),.d (.v (.int .i64 m1)),.d (.v (.int .i64 r1))]]=>some ⟨(-9223372036854775808<=i0/\ i0<9223372036854775808)/\ (Cg.inR ⟨b1,m1,r1⟩)/\ (Cg.red (⟨b1,m1,r1⟩:Cg)),.tup [.c (.d (it (nU i0 (⟨b1,m1,r1⟩:Cg)))),.c (.d (bo (upB i0 (⟨b1,m1,r1⟩:Cg))))],[]⟩
 |_=>none
theorem bDl:FC prog 201 aNc:=by
 intro xs pre r us h hp;unfold aNc at h;split at h
 . rename_i i0 b1 m1 r1
   cases h;obtain ⟨a7,a8,af⟩:=hp
   refine aE aA (l:= [(180,⟨[],aAc⟩),(177,⟨[],qH⟩),(237,⟨[],aBS⟩),(226,⟨[],uV⟩)]) ⟨aDR,sW,aGn,zR,trivial⟩ func201 rfl j4 false ?_
   (repeat' (first|exact trivial|refine ⟨?_,?_⟩|intro _));all_goals first|apply qq|conv=>whnf
   all_goals (try simp only [beq_iff_eq,beq_eq_false_iff_ne,ne_eq] at*)
   all_goals first|omega|exact j3o|(unfold Cg.inR at a8;dsimp only at a8;omega)|skip
   all_goals first|((with_reducible show Value.int _ _=Value.int _ _);rw [(xI j9).1])|((with_reducible show Value.bool _=Value.bool _);rw [(xI j9).2.1])|(have hk:=aSg (n:=i0) ‹¬m1=0› af a8;have hv:=bEQ ‹¬m1=0› af a8 a7;have hw:=aBU (n:=i0) (r:=r1) (b:=b1) ‹¬m1=0›;first|(rw [hw.1];exact congrArg (fun x=>Value.int .i64 (cI x)) hv)|(rw [hw.2.1];exact congrArg (fun x=>Value.bool (bJ x)) hv)|exact j4y)
 . cases h
def aK7:List Ar->Option Rs
 | [.c (.d (.v (.int .i64 i0))),.agg [.d (.v (.bool b1)),.d (.v (.int .i64 m1)),.d (.v (.int .i64 r1))]]=>some ⟨(-9223372036854775808<=i0/\ i0<9223372036854775808)/\ (Cg.inR ⟨b1,m1,r1⟩)/\ (Cg.red (⟨b1,m1,r1⟩:Cg)),.tup [.c (.d (it (sE i0 (⟨b1,m1,r1⟩:Cg)))),.c (.d (bo (dnB i0 (⟨b1,m1,r1⟩:Cg))))],[]⟩
 |_=>none
theorem bAh:FC prog 202 aK7:=by
 intro xs pre r us h hp;unfold aK7 at h;split at h
 . rename_i i0 b1 m1 r1
   cases h;obtain ⟨a7,a8,af⟩:=hp
   refine aE aA (l:= [(180,⟨[],aAc⟩),(177,⟨[],qH⟩),(176,⟨[],uU⟩),(226,⟨[],uV⟩)]) ⟨aDR,sW,zQ,zR,trivial⟩ func202 rfl j4 false ?_
   (repeat' (first|exact trivial|refine ⟨?_,?_⟩|intro _));all_goals first|apply qq|conv=>whnf
   all_goals (try simp only [beq_iff_eq,beq_eq_false_iff_ne,ne_eq] at*)
   all_goals first|omega|exact j3o|(unfold Cg.inR at a8;dsimp only at a8;omega)|skip
   all_goals first|((with_reducible show Value.int _ _=Value.int _ _);rw [(xI j9).2.2.1])|((with_reducible show Value.bool _=Value.bool _);rw [(xI j9).2.2.2])|(have hk:=aSh (n:=i0) ‹¬m1=0› af a8;have hv:=bER ‹¬m1=0› af a8 a7;have hw:=aBU (n:=i0) (r:=r1) (b:=b1) ‹¬m1=0›;first|(rw [hw.2.2.1];exact congrArg (fun x=>Value.int .i64 (cI x)) hv)|(rw [hw.2.2.2];exact congrArg (fun x=>Value.bool (bJ x)) hv)|exact j4y)
 . cases h
theorem aL3 {n:Int} {c:Cg} (h:c.inR): -9223372036854775808<=nU n c/\ nU n c<9223372036854775808:=by
 unfold nU;split
 . exact h.2
 . exact aBs _
theorem aL4 {n:Int} {c:Cg} (h:c.inR): -9223372036854775808<=sE n c/\ sE n c<9223372036854775808:=by
 unfold sE;split
 . exact h.2
 . exact aBs _
def aL5:List Ar->Option Rs
 | [.agg [.d (.v (.bool s0)),.d (.v (.int .i64 l0)),.d (.v (.int .i64 h0)),.d (.v (.bool b0)),.d (.v (.int .i64 m0)),.d (.v (.int .i64 r0))]]=>some ⟨(Sp.inR ⟨s0,l0,h0⟩/\ Cg.inR ⟨b0,m0,r0⟩)/\ (Cg.red ⟨b0,m0,r0⟩),.va (Ig.ar (Ig.red (⟨⟨s0,l0,h0⟩,⟨b0,m0,r0⟩⟩:Ig))),[]⟩
 |_=>none
theorem bBZ:FC prog 158 aL5:=by
 intro xs pre r us h hp;unfold aL5 at h;split at h
 . rename_i s0 l0 h0 b0 m0 r0
   cases h;obtain ⟨a7,a8⟩:=hp
   refine aE aA (l:= [(54,⟨[],aDU⟩),(201,⟨[],aNc⟩),(202,⟨[],aK7⟩),(83,⟨[],xH⟩),(84,⟨[],uY⟩),(131,⟨[],lN⟩)]) ⟨aKa,bDl,bAh,aBr,zT,nK,trivial⟩ func158 rfl j4 false ?_
   (repeat' (first|exact trivial|refine ⟨?_,?_⟩|intro _));all_goals first|apply qq|conv=>whnf
   all_goals first|exact a7.1.1.1|exact a7.1.1.2|exact a7.1.2.1|exact a7.1.2.2|exact a7.2.1.1|exact a7.2.1.2|exact a7.2.2.1|exact a7.2.2.2|exact a8.1|exact (a8.2 j9).1|exact (a8.2 j9).2|exact (aL3 a7.2).1|exact (aL3 a7.2).2|exact (aL4 a7.2).1|exact (aL4 a7.2).2|grind [Ig.red,Ig.zero]
 . cases h
end Go.Proofs.YtiblbnhknemloaaGreat
