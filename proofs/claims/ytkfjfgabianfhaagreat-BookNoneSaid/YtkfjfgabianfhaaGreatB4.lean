/- The types of this seat as a table for the symbolic executor: each entry is what the program has. -/
import Derived.Test.YtkfjfgabianfhaaGreatB3
import Derived.Test.YtkfjfgabianfhaaGreatProg
import Derived.Laws.Externs
import Derived.Laws.Strings
import Derived.Shelf.Small.Strs
import Derived.Shelf.Slices.CompactS
import Derived.Ground.SlsfProg
import Derived.Shelf.SlSortCmp.NoneTotal
import Derived.WalkKit
import Derived.Sort.Walk0
set_option linter.all false
set_option maxHeartbeats 8000000
set_option maxRecDepth 100000
namespace Go.Sx
theorem qa {a b:Int} (h:a<=b):a<=b:=h
theorem qb {a b:Int} (h:a<b):a<b:=h
theorem qc {a b:Nat} (h:a<=b):a<=b:=h
theorem qd {a b:Nat} (h:a<b):a<b:=h
class Gq (p:Prop):Prop where
 t:True
instance {a b:Int}:Gq (a<=b):=⟨trivial⟩
instance {a b:Int}:Gq (a<b):=⟨trivial⟩
instance {a b:Nat}:Gq (a<=b):=⟨trivial⟩
instance {a b:Nat}:Gq (a<b):=⟨trivial⟩
theorem qq {p:Prop} [Gq p] (h:p):p:=h
theorem nx {a b c:Bool} {C:Prop} (h:a=b) (n: ¬b=c:=by decide):a=c->C:=fun k=>absurd (h.symm.trans k) n
theorem n1 {C:Prop}:true=false->C:=fun h=>absurd h (by decide)
theorem n2 {C:Prop}:false=true->C:=fun h=>absurd h (by decide)
theorem nd {p C:Prop} [Decidable p] (n: ¬p:=by decide):p->C:=fun h=>absurd h n
end Go.Sx
namespace Go.Proofs.YtkfjfgabianfhaaGreat
open Go.Sx
set_option maxRecDepth 100000
theorem ty1:tyB Tryz.prog 1 Tryz.t1 Tryz.t1:=⟨by kernel_rfl,by kernel_rfl,by kernel_rfl⟩
theorem ty2:tyB Tryz.prog 2 Tryz.t2 Tryz.t2:=⟨by kernel_rfl,by kernel_rfl,by kernel_rfl⟩
theorem ty3:tyB Tryz.prog 3 Tryz.t3 Tryz.t3:=⟨by kernel_rfl,by kernel_rfl,by kernel_rfl⟩
theorem ty4:tyB Tryz.prog 4 Tryz.t4 Tryz.t4:=⟨by kernel_rfl,by kernel_rfl,by kernel_rfl⟩
theorem ty5:tyB Tryz.prog 5 Tryz.t5 Tryz.t5:=⟨by kernel_rfl,by kernel_rfl,by kernel_rfl⟩
theorem ty6:tyB Tryz.prog 6 Tryz.t6 Tryz.t5:=⟨by kernel_rfl,by kernel_rfl,by kernel_rfl⟩
theorem ty7:tyB Tryz.prog 7 Tryz.t7 Tryz.t7:=⟨by kernel_rfl,by kernel_rfl,by kernel_rfl⟩
theorem ty8:tyB Tryz.prog 8 Tryz.t8 Tryz.t7:=⟨by kernel_rfl,by kernel_rfl,by kernel_rfl⟩
theorem ty9:tyB Tryz.prog 9 Tryz.t9 Tryz.t9:=⟨by kernel_rfl,by kernel_rfl,by kernel_rfl⟩
theorem ty10:tyB Tryz.prog 10 Tryz.t10 Tryz.t9:=⟨by kernel_rfl,by kernel_rfl,by kernel_rfl⟩
theorem ty11:tyB Tryz.prog 11 Tryz.t11 Tryz.t9:=⟨by kernel_rfl,by kernel_rfl,by kernel_rfl⟩
theorem ty12:tyB Tryz.prog 12 Tryz.t12 Tryz.t12:=⟨by kernel_rfl,by kernel_rfl,by kernel_rfl⟩
theorem ty13:tyB Tryz.prog 13 Tryz.t13 Tryz.t13:=⟨by kernel_rfl,by kernel_rfl,by kernel_rfl⟩
theorem ty14:tyB Tryz.prog 14 Tryz.t14 Tryz.t13:=⟨by kernel_rfl,by kernel_rfl,by kernel_rfl⟩
theorem ty15:tyB Tryz.prog 15 Tryz.t15 Tryz.t15:=⟨by kernel_rfl,by kernel_rfl,by kernel_rfl⟩
theorem ty16:tyB Tryz.prog 16 Tryz.t16 Tryz.t16:=⟨by kernel_rfl,by kernel_rfl,by kernel_rfl⟩
theorem ty17:tyB Tryz.prog 17 Tryz.t17 Tryz.t17:=⟨by kernel_rfl,by kernel_rfl,by kernel_rfl⟩
theorem ty18:tyB Tryz.prog 18 Tryz.t18 Tryz.t18:=⟨by kernel_rfl,by kernel_rfl,by kernel_rfl⟩
theorem ty19:tyB Tryz.prog 19 Tryz.t19 Tryz.t18:=⟨by kernel_rfl,by kernel_rfl,by kernel_rfl⟩
theorem ty20:tyB Tryz.prog 20 Tryz.t20 Tryz.t20:=⟨by kernel_rfl,by kernel_rfl,by kernel_rfl⟩
theorem ty21:tyB Tryz.prog 21 Tryz.t21 Tryz.t21:=⟨by kernel_rfl,by kernel_rfl,by kernel_rfl⟩
theorem ty22:tyB Tryz.prog 22 Tryz.t22 Tryz.t22:=⟨by kernel_rfl,by kernel_rfl,by kernel_rfl⟩
theorem ty23:tyB Tryz.prog 23 Tryz.t23 Tryz.t22:=⟨by kernel_rfl,by kernel_rfl,by kernel_rfl⟩
theorem ty24:tyB Tryz.prog 24 Tryz.t24 Tryz.t24:=⟨by kernel_rfl,by kernel_rfl,by kernel_rfl⟩
theorem ty25:tyB Tryz.prog 25 Tryz.t25 Tryz.t25:=⟨by kernel_rfl,by kernel_rfl,by kernel_rfl⟩
theorem ty26:tyB Tryz.prog 26 Tryz.t26 Tryz.t26:=⟨by kernel_rfl,by kernel_rfl,by kernel_rfl⟩
theorem ty27:tyB Tryz.prog 27 Tryz.t27 Tryz.t27:=⟨by kernel_rfl,by kernel_rfl,by kernel_rfl⟩
theorem ty28:tyB Tryz.prog 28 Tryz.t28 Tryz.t28:=⟨by kernel_rfl,by kernel_rfl,by kernel_rfl⟩
theorem ty29:tyB Tryz.prog 29 Tryz.t29 Tryz.t29:=⟨by kernel_rfl,by kernel_rfl,by kernel_rfl⟩
theorem ty30:tyB Tryz.prog 30 Tryz.t30 Tryz.t30:=⟨by kernel_rfl,by kernel_rfl,by kernel_rfl⟩
theorem ty31:tyB Tryz.prog 31 Tryz.t31 Tryz.t31:=⟨by kernel_rfl,by kernel_rfl,by kernel_rfl⟩
theorem ty32:tyB Tryz.prog 32 Tryz.t32 Tryz.t32:=⟨by kernel_rfl,by kernel_rfl,by kernel_rfl⟩
theorem ty33:tyB Tryz.prog 33 Tryz.t33 Tryz.t32:=⟨by kernel_rfl,by kernel_rfl,by kernel_rfl⟩
theorem ty34:tyB Tryz.prog 34 Tryz.t34 Tryz.t34:=⟨by kernel_rfl,by kernel_rfl,by kernel_rfl⟩
theorem ty35:tyB Tryz.prog 35 Tryz.t35 Tryz.t34:=⟨by kernel_rfl,by kernel_rfl,by kernel_rfl⟩
theorem ty36:tyB Tryz.prog 36 Tryz.t36 Tryz.t36:=⟨by kernel_rfl,by kernel_rfl,by kernel_rfl⟩
theorem ty37:tyB Tryz.prog 37 Tryz.t37 Tryz.t36:=⟨by kernel_rfl,by kernel_rfl,by kernel_rfl⟩
theorem ty38:tyB Tryz.prog 38 Tryz.t38 Tryz.t38:=⟨by kernel_rfl,by kernel_rfl,by kernel_rfl⟩
theorem ty39:tyB Tryz.prog 39 Tryz.t39 Tryz.t39:=⟨by kernel_rfl,by kernel_rfl,by kernel_rfl⟩
theorem ty40:tyB Tryz.prog 40 Tryz.t40 Tryz.t39:=⟨by kernel_rfl,by kernel_rfl,by kernel_rfl⟩
theorem ty41:tyB Tryz.prog 41 Tryz.t41 Tryz.t41:=⟨by kernel_rfl,by kernel_rfl,by kernel_rfl⟩
theorem ty42:tyB Tryz.prog 42 Tryz.t42 Tryz.t41:=⟨by kernel_rfl,by kernel_rfl,by kernel_rfl⟩
theorem ty43:tyB Tryz.prog 43 Tryz.t43 Tryz.t43:=⟨by kernel_rfl,by kernel_rfl,by kernel_rfl⟩
theorem ty44:tyB Tryz.prog 44 Tryz.t44 Tryz.t43:=⟨by kernel_rfl,by kernel_rfl,by kernel_rfl⟩
theorem ty45:tyB Tryz.prog 45 Tryz.t45 Tryz.t45:=⟨by kernel_rfl,by kernel_rfl,by kernel_rfl⟩
theorem ty46:tyB Tryz.prog 46 Tryz.t46 Tryz.t46:=⟨by kernel_rfl,by kernel_rfl,by kernel_rfl⟩
theorem ty47:tyB Tryz.prog 47 Tryz.t47 Tryz.t47:=⟨by kernel_rfl,by kernel_rfl,by kernel_rfl⟩
theorem ty48:tyB Tryz.prog 48 Tryz.t48 Tryz.t48:=⟨by kernel_rfl,by kernel_rfl,by kernel_rfl⟩
theorem ty49:tyB Tryz.prog 49 Tryz.t49 Tryz.t49:=⟨by kernel_rfl,by kernel_rfl,by kernel_rfl⟩
theorem ty50:tyB Tryz.prog 50 Tryz.t50 Tryz.t50:=⟨by kernel_rfl,by kernel_rfl,by kernel_rfl⟩
theorem ty51:tyB Tryz.prog 51 Tryz.t51 Tryz.t51:=⟨by kernel_rfl,by kernel_rfl,by kernel_rfl⟩
theorem ty52:tyB Tryz.prog 52 Tryz.t52 Tryz.t51:=⟨by kernel_rfl,by kernel_rfl,by kernel_rfl⟩
theorem ty53:tyB Tryz.prog 53 Tryz.t53 Tryz.t53:=⟨by kernel_rfl,by kernel_rfl,by kernel_rfl⟩
theorem ty54:tyB Tryz.prog 54 Tryz.t54 Tryz.t54:=⟨by kernel_rfl,by kernel_rfl,by kernel_rfl⟩
theorem ty55:tyB Tryz.prog 55 Tryz.t55 Tryz.t54:=⟨by kernel_rfl,by kernel_rfl,by kernel_rfl⟩
theorem ty56:tyB Tryz.prog 56 Tryz.t56 Tryz.t56:=⟨by kernel_rfl,by kernel_rfl,by kernel_rfl⟩
theorem ty57:tyB Tryz.prog 57 Tryz.t57 Tryz.t57:=⟨by kernel_rfl,by kernel_rfl,by kernel_rfl⟩
theorem ty58:tyB Tryz.prog 58 Tryz.t58 Tryz.t58:=⟨by kernel_rfl,by kernel_rfl,by kernel_rfl⟩
theorem ty59:tyB Tryz.prog 59 Tryz.t59 Tryz.t59:=⟨by kernel_rfl,by kernel_rfl,by kernel_rfl⟩
theorem ty60:tyB Tryz.prog 60 Tryz.t60 Tryz.t60:=⟨by kernel_rfl,by kernel_rfl,by kernel_rfl⟩
theorem ty62:tyB Tryz.prog 62 Tryz.t62 Tryz.t62:=⟨by kernel_rfl,by kernel_rfl,by kernel_rfl⟩
theorem ty63:tyB Tryz.prog 63 Tryz.t63 Tryz.t63:=⟨by kernel_rfl,by kernel_rfl,by kernel_rfl⟩
theorem ty64:tyB Tryz.prog 64 Tryz.t64 Tryz.t64:=⟨by kernel_rfl,by kernel_rfl,by kernel_rfl⟩
theorem ty65:tyB Tryz.prog 65 Tryz.t65 Tryz.t65:=⟨by kernel_rfl,by kernel_rfl,by kernel_rfl⟩
theorem ty66:tyB Tryz.prog 66 Tryz.t66 Tryz.t66:=⟨by kernel_rfl,by kernel_rfl,by kernel_rfl⟩
theorem ty68:tyB Tryz.prog 68 Tryz.t68 Tryz.t68:=⟨by kernel_rfl,by kernel_rfl,by kernel_rfl⟩
theorem ty69:tyB Tryz.prog 69 Tryz.t69 Tryz.t69:=⟨by kernel_rfl,by kernel_rfl,by kernel_rfl⟩
theorem ty70:tyB Tryz.prog 70 Tryz.t70 Tryz.t70:=⟨by kernel_rfl,by kernel_rfl,by kernel_rfl⟩
theorem ty71:tyB Tryz.prog 71 Tryz.t71 Tryz.t71:=⟨by kernel_rfl,by kernel_rfl,by kernel_rfl⟩
theorem ty72:tyB Tryz.prog 72 Tryz.t72 Tryz.t72:=⟨by kernel_rfl,by kernel_rfl,by kernel_rfl⟩
theorem ty73:tyB Tryz.prog 73 Tryz.t73 Tryz.t73:=⟨by kernel_rfl,by kernel_rfl,by kernel_rfl⟩
theorem ty74:tyB Tryz.prog 74 Tryz.t74 Tryz.t74:=⟨by kernel_rfl,by kernel_rfl,by kernel_rfl⟩
theorem ty75:tyB Tryz.prog 75 Tryz.t75 Tryz.t75:=⟨by kernel_rfl,by kernel_rfl,by kernel_rfl⟩
theorem ty76:tyB Tryz.prog 76 Tryz.t76 Tryz.t76:=⟨by kernel_rfl,by kernel_rfl,by kernel_rfl⟩
theorem ty77:tyB Tryz.prog 77 Tryz.t77 Tryz.t76:=⟨by kernel_rfl,by kernel_rfl,by kernel_rfl⟩
theorem ty78:tyB Tryz.prog 78 Tryz.t78 Tryz.t78:=⟨by kernel_rfl,by kernel_rfl,by kernel_rfl⟩
theorem ty79:tyB Tryz.prog 79 Tryz.t79 Tryz.t79:=⟨by kernel_rfl,by kernel_rfl,by kernel_rfl⟩
theorem ty80:tyB Tryz.prog 80 Tryz.t80 Tryz.t80:=⟨by kernel_rfl,by kernel_rfl,by kernel_rfl⟩
theorem ty81:tyB Tryz.prog 81 Tryz.t81 Tryz.t80:=⟨by kernel_rfl,by kernel_rfl,by kernel_rfl⟩
theorem ty82:tyB Tryz.prog 82 Tryz.t82 Tryz.t82:=⟨by kernel_rfl,by kernel_rfl,by kernel_rfl⟩
theorem ty83:tyB Tryz.prog 83 Tryz.t83 Tryz.t83:=⟨by kernel_rfl,by kernel_rfl,by kernel_rfl⟩
theorem ty84:tyB Tryz.prog 84 Tryz.t84 Tryz.t84:=⟨by kernel_rfl,by kernel_rfl,by kernel_rfl⟩
theorem ty85:tyB Tryz.prog 85 Tryz.t85 Tryz.t85:=⟨by kernel_rfl,by kernel_rfl,by kernel_rfl⟩
theorem ty86:tyB Tryz.prog 86 Tryz.t86 Tryz.t86:=⟨by kernel_rfl,by kernel_rfl,by kernel_rfl⟩
theorem ty87:tyB Tryz.prog 87 Tryz.t87 Tryz.t87:=⟨by kernel_rfl,by kernel_rfl,by kernel_rfl⟩
theorem ty88:tyB Tryz.prog 88 Tryz.t88 Tryz.t88:=⟨by kernel_rfl,by kernel_rfl,by kernel_rfl⟩
theorem ty89:tyB Tryz.prog 89 Tryz.t89 Tryz.t89:=⟨by kernel_rfl,by kernel_rfl,by kernel_rfl⟩
theorem ty90:tyB Tryz.prog 90 Tryz.t90 Tryz.t90:=⟨by kernel_rfl,by kernel_rfl,by kernel_rfl⟩
theorem ty91:tyB Tryz.prog 91 Tryz.t91 Tryz.t91:=⟨by kernel_rfl,by kernel_rfl,by kernel_rfl⟩
theorem ty92:tyB Tryz.prog 92 Tryz.t92 Tryz.t92:=⟨by kernel_rfl,by kernel_rfl,by kernel_rfl⟩
theorem ty93:tyB Tryz.prog 93 Tryz.t93 Tryz.t93:=⟨by kernel_rfl,by kernel_rfl,by kernel_rfl⟩
theorem ty94:tyB Tryz.prog 94 Tryz.t94 Tryz.t94:=⟨by kernel_rfl,by kernel_rfl,by kernel_rfl⟩
theorem ty95:tyB Tryz.prog 95 Tryz.t95 Tryz.t95:=⟨by kernel_rfl,by kernel_rfl,by kernel_rfl⟩
theorem ty96:tyB Tryz.prog 96 Tryz.t96 Tryz.t96:=⟨by kernel_rfl,by kernel_rfl,by kernel_rfl⟩
theorem ty97:tyB Tryz.prog 97 Tryz.t97 Tryz.t97:=⟨by kernel_rfl,by kernel_rfl,by kernel_rfl⟩
theorem ty98:tyB Tryz.prog 98 Tryz.t98 Tryz.t98:=⟨by kernel_rfl,by kernel_rfl,by kernel_rfl⟩
theorem ty99:tyB Tryz.prog 99 Tryz.t99 Tryz.t99:=⟨by kernel_rfl,by kernel_rfl,by kernel_rfl⟩
theorem ty100:tyB Tryz.prog 100 Tryz.t100 Tryz.t100:=⟨by kernel_rfl,by kernel_rfl,by kernel_rfl⟩
theorem ty101:tyB Tryz.prog 101 Tryz.t101 Tryz.t101:=⟨by kernel_rfl,by kernel_rfl,by kernel_rfl⟩
theorem ty102:tyB Tryz.prog 102 Tryz.t102 Tryz.t102:=⟨by kernel_rfl,by kernel_rfl,by kernel_rfl⟩
theorem ty103:tyB Tryz.prog 103 Tryz.t103 Tryz.t103:=⟨by kernel_rfl,by kernel_rfl,by kernel_rfl⟩
theorem ty104:tyB Tryz.prog 104 Tryz.t104 Tryz.t104:=⟨by kernel_rfl,by kernel_rfl,by kernel_rfl⟩
theorem ty105:tyB Tryz.prog 105 Tryz.t105 Tryz.t105:=⟨by kernel_rfl,by kernel_rfl,by kernel_rfl⟩
theorem ty106:tyB Tryz.prog 106 Tryz.t106 Tryz.t106:=⟨by kernel_rfl,by kernel_rfl,by kernel_rfl⟩
theorem ty107:tyB Tryz.prog 107 Tryz.t107 Tryz.t107:=⟨by kernel_rfl,by kernel_rfl,by kernel_rfl⟩
theorem ty108:tyB Tryz.prog 108 Tryz.t108 Tryz.t108:=⟨by kernel_rfl,by kernel_rfl,by kernel_rfl⟩
theorem ty109:tyB Tryz.prog 109 Tryz.t109 Tryz.t109:=⟨by kernel_rfl,by kernel_rfl,by kernel_rfl⟩
theorem ty110:tyB Tryz.prog 110 Tryz.t110 Tryz.t110:=⟨by kernel_rfl,by kernel_rfl,by kernel_rfl⟩
theorem ty111:tyB Tryz.prog 111 Tryz.t111 Tryz.t110:=⟨by kernel_rfl,by kernel_rfl,by kernel_rfl⟩
theorem ty112:tyB Tryz.prog 112 Tryz.t112 Tryz.t112:=⟨by kernel_rfl,by kernel_rfl,by kernel_rfl⟩
theorem ty113:tyB Tryz.prog 113 Tryz.t113 Tryz.t112:=⟨by kernel_rfl,by kernel_rfl,by kernel_rfl⟩
theorem ty114:tyB Tryz.prog 114 Tryz.t114 Tryz.t114:=⟨by kernel_rfl,by kernel_rfl,by kernel_rfl⟩
theorem ty115:tyB Tryz.prog 115 Tryz.t115 Tryz.t115:=⟨by kernel_rfl,by kernel_rfl,by kernel_rfl⟩
theorem ty116:tyB Tryz.prog 116 Tryz.t116 Tryz.t116:=⟨by kernel_rfl,by kernel_rfl,by kernel_rfl⟩
theorem ty117:tyB Tryz.prog 117 Tryz.t117 Tryz.t117:=⟨by kernel_rfl,by kernel_rfl,by kernel_rfl⟩
theorem ty118:tyB Tryz.prog 118 Tryz.t118 Tryz.t118:=⟨by kernel_rfl,by kernel_rfl,by kernel_rfl⟩
theorem ty119:tyB Tryz.prog 119 Tryz.t119 Tryz.t119:=⟨by kernel_rfl,by kernel_rfl,by kernel_rfl⟩
theorem ty120:tyB Tryz.prog 120 Tryz.t120 Tryz.t120:=⟨by kernel_rfl,by kernel_rfl,by kernel_rfl⟩
theorem ty121:tyB Tryz.prog 121 Tryz.t121 Tryz.t121:=⟨by kernel_rfl,by kernel_rfl,by kernel_rfl⟩
theorem ty122:tyB Tryz.prog 122 Tryz.t122 Tryz.t122:=⟨by kernel_rfl,by kernel_rfl,by kernel_rfl⟩
theorem ty123:tyB Tryz.prog 123 Tryz.t123 Tryz.t123:=⟨by kernel_rfl,by kernel_rfl,by kernel_rfl⟩
theorem ty124:tyB Tryz.prog 124 Tryz.t124 Tryz.t124:=⟨by kernel_rfl,by kernel_rfl,by kernel_rfl⟩
theorem ty125:tyB Tryz.prog 125 Tryz.t125 Tryz.t125:=⟨by kernel_rfl,by kernel_rfl,by kernel_rfl⟩
theorem ty126:tyB Tryz.prog 126 Tryz.t126 Tryz.t126:=⟨by kernel_rfl,by kernel_rfl,by kernel_rfl⟩
theorem ty127:tyB Tryz.prog 127 Tryz.t127 Tryz.t127:=⟨by kernel_rfl,by kernel_rfl,by kernel_rfl⟩
theorem ty128:tyB Tryz.prog 128 Tryz.t128 Tryz.t128:=⟨by kernel_rfl,by kernel_rfl,by kernel_rfl⟩
theorem ty129:tyB Tryz.prog 129 Tryz.t129 Tryz.t129:=⟨by kernel_rfl,by kernel_rfl,by kernel_rfl⟩
theorem ty130:tyB Tryz.prog 130 Tryz.t130 Tryz.t130:=⟨by kernel_rfl,by kernel_rfl,by kernel_rfl⟩
theorem ty131:tyB Tryz.prog 131 Tryz.t131 Tryz.t131:=⟨by kernel_rfl,by kernel_rfl,by kernel_rfl⟩
theorem ty132:tyB Tryz.prog 132 Tryz.t132 Tryz.t132:=⟨by kernel_rfl,by kernel_rfl,by kernel_rfl⟩
theorem ty133:tyB Tryz.prog 133 Tryz.t133 Tryz.t133:=⟨by kernel_rfl,by kernel_rfl,by kernel_rfl⟩
theorem ty134:tyB Tryz.prog 134 Tryz.t134 Tryz.t134:=⟨by kernel_rfl,by kernel_rfl,by kernel_rfl⟩
theorem ty135:tyB Tryz.prog 135 Tryz.t135 Tryz.t135:=⟨by kernel_rfl,by kernel_rfl,by kernel_rfl⟩
theorem ty136:tyB Tryz.prog 136 Tryz.t136 Tryz.t136:=⟨by kernel_rfl,by kernel_rfl,by kernel_rfl⟩
theorem ty137:tyB Tryz.prog 137 Tryz.t137 Tryz.t137:=⟨by kernel_rfl,by kernel_rfl,by kernel_rfl⟩
theorem ty138:tyB Tryz.prog 138 Tryz.t138 Tryz.t138:=⟨by kernel_rfl,by kernel_rfl,by kernel_rfl⟩
theorem ty139:tyB Tryz.prog 139 Tryz.t139 Tryz.t139:=⟨by kernel_rfl,by kernel_rfl,by kernel_rfl⟩
theorem ty140:tyB Tryz.prog 140 Tryz.t140 Tryz.t140:=⟨by kernel_rfl,by kernel_rfl,by kernel_rfl⟩
theorem ty141:tyB Tryz.prog 141 Tryz.t141 Tryz.t141:=⟨by kernel_rfl,by kernel_rfl,by kernel_rfl⟩
theorem ty142:tyB Tryz.prog 142 Tryz.t142 Tryz.t142:=⟨by kernel_rfl,by kernel_rfl,by kernel_rfl⟩
theorem ty143:tyB Tryz.prog 143 Tryz.t143 Tryz.t143:=⟨by kernel_rfl,by kernel_rfl,by kernel_rfl⟩
theorem ty144:tyB Tryz.prog 144 Tryz.t144 Tryz.t144:=⟨by kernel_rfl,by kernel_rfl,by kernel_rfl⟩
theorem ty145:tyB Tryz.prog 145 Tryz.t145 Tryz.t145:=⟨by kernel_rfl,by kernel_rfl,by kernel_rfl⟩
theorem ty146:tyB Tryz.prog 146 Tryz.t146 Tryz.t146:=⟨by kernel_rfl,by kernel_rfl,by kernel_rfl⟩
theorem ty147:tyB Tryz.prog 147 Tryz.t147 Tryz.t147:=⟨by kernel_rfl,by kernel_rfl,by kernel_rfl⟩
theorem ty148:tyB Tryz.prog 148 Tryz.t148 Tryz.t148:=⟨by kernel_rfl,by kernel_rfl,by kernel_rfl⟩
theorem ty149:tyB Tryz.prog 149 Tryz.t149 Tryz.t149:=⟨by kernel_rfl,by kernel_rfl,by kernel_rfl⟩
theorem ty150:tyB Tryz.prog 150 Tryz.t150 Tryz.t150:=⟨by kernel_rfl,by kernel_rfl,by kernel_rfl⟩
theorem ty151:tyB Tryz.prog 151 Tryz.t151 Tryz.t151:=⟨by kernel_rfl,by kernel_rfl,by kernel_rfl⟩
theorem ty152:tyB Tryz.prog 152 Tryz.t152 Tryz.t152:=⟨by kernel_rfl,by kernel_rfl,by kernel_rfl⟩
theorem ty153:tyB Tryz.prog 153 Tryz.t153 Tryz.t153:=⟨by kernel_rfl,by kernel_rfl,by kernel_rfl⟩
theorem ty154:tyB Tryz.prog 154 Tryz.t154 Tryz.t153:=⟨by kernel_rfl,by kernel_rfl,by kernel_rfl⟩
theorem ty155:tyB Tryz.prog 155 Tryz.t155 Tryz.t155:=⟨by kernel_rfl,by kernel_rfl,by kernel_rfl⟩
theorem ty156:tyB Tryz.prog 156 Tryz.t156 Tryz.t156:=⟨by kernel_rfl,by kernel_rfl,by kernel_rfl⟩
theorem ty157:tyB Tryz.prog 157 Tryz.t157 Tryz.t157:=⟨by kernel_rfl,by kernel_rfl,by kernel_rfl⟩
theorem ty158:tyB Tryz.prog 158 Tryz.t158 Tryz.t158:=⟨by kernel_rfl,by kernel_rfl,by kernel_rfl⟩
theorem ty159:tyB Tryz.prog 159 Tryz.t159 Tryz.t159:=⟨by kernel_rfl,by kernel_rfl,by kernel_rfl⟩
theorem ty160:tyB Tryz.prog 160 Tryz.t160 Tryz.t160:=⟨by kernel_rfl,by kernel_rfl,by kernel_rfl⟩
theorem ty161:tyB Tryz.prog 161 Tryz.t161 Tryz.t161:=⟨by kernel_rfl,by kernel_rfl,by kernel_rfl⟩
theorem ty162:tyB Tryz.prog 162 Tryz.t162 Tryz.t162:=⟨by kernel_rfl,by kernel_rfl,by kernel_rfl⟩
theorem ty163:tyB Tryz.prog 163 Tryz.t163 Tryz.t163:=⟨by kernel_rfl,by kernel_rfl,by kernel_rfl⟩
theorem ty164:tyB Tryz.prog 164 Tryz.t164 Tryz.t164:=⟨by kernel_rfl,by kernel_rfl,by kernel_rfl⟩
theorem ty165:tyB Tryz.prog 165 Tryz.t165 Tryz.t165:=⟨by kernel_rfl,by kernel_rfl,by kernel_rfl⟩
theorem ty166:tyB Tryz.prog 166 Tryz.t166 Tryz.t166:=⟨by kernel_rfl,by kernel_rfl,by kernel_rfl⟩
theorem ty167:tyB Tryz.prog 167 Tryz.t167 Tryz.t167:=⟨by kernel_rfl,by kernel_rfl,by kernel_rfl⟩
theorem ty168:tyB Tryz.prog 168 Tryz.t168 Tryz.t168:=⟨by kernel_rfl,by kernel_rfl,by kernel_rfl⟩
theorem ty169:tyB Tryz.prog 169 Tryz.t169 Tryz.t169:=⟨by kernel_rfl,by kernel_rfl,by kernel_rfl⟩
theorem ty170:tyB Tryz.prog 170 Tryz.t170 Tryz.t170:=⟨by kernel_rfl,by kernel_rfl,by kernel_rfl⟩
theorem ty172:tyB Tryz.prog 172 Tryz.t172 Tryz.t172:=⟨by kernel_rfl,by kernel_rfl,by kernel_rfl⟩
theorem ty173:tyB Tryz.prog 173 Tryz.t173 Tryz.t173:=⟨by kernel_rfl,by kernel_rfl,by kernel_rfl⟩
theorem ty174:tyB Tryz.prog 174 Tryz.t174 Tryz.t174:=⟨by kernel_rfl,by kernel_rfl,by kernel_rfl⟩
theorem ty175:tyB Tryz.prog 175 Tryz.t175 Tryz.t175:=⟨by kernel_rfl,by kernel_rfl,by kernel_rfl⟩
theorem ty176:tyB Tryz.prog 176 Tryz.t176 Tryz.t176:=⟨by kernel_rfl,by kernel_rfl,by kernel_rfl⟩
theorem ty177:tyB Tryz.prog 177 Tryz.t177 Tryz.t177:=⟨by kernel_rfl,by kernel_rfl,by kernel_rfl⟩
theorem ty178:tyB Tryz.prog 178 Tryz.t178 Tryz.t178:=⟨by kernel_rfl,by kernel_rfl,by kernel_rfl⟩
theorem ty179:tyB Tryz.prog 179 Tryz.t179 Tryz.t179:=⟨by kernel_rfl,by kernel_rfl,by kernel_rfl⟩
theorem ty180:tyB Tryz.prog 180 Tryz.t180 Tryz.t180:=⟨by kernel_rfl,by kernel_rfl,by kernel_rfl⟩
theorem ty181:tyB Tryz.prog 181 Tryz.t181 Tryz.t181:=⟨by kernel_rfl,by kernel_rfl,by kernel_rfl⟩
theorem ty182:tyB Tryz.prog 182 Tryz.t182 Tryz.t182:=⟨by kernel_rfl,by kernel_rfl,by kernel_rfl⟩
theorem ty183:tyB Tryz.prog 183 Tryz.t183 Tryz.t3:=⟨by kernel_rfl,by kernel_rfl,by kernel_rfl⟩
theorem ty185:tyB Tryz.prog 185 Tryz.t185 Tryz.t185:=⟨by kernel_rfl,by kernel_rfl,by kernel_rfl⟩
theorem ty186:tyB Tryz.prog 186 Tryz.t186 Tryz.t186:=⟨by kernel_rfl,by kernel_rfl,by kernel_rfl⟩
theorem ty187:tyB Tryz.prog 187 Tryz.t187 Tryz.t187:=⟨by kernel_rfl,by kernel_rfl,by kernel_rfl⟩
theorem ty188:tyB Tryz.prog 188 Tryz.t188 Tryz.t188:=⟨by kernel_rfl,by kernel_rfl,by kernel_rfl⟩
theorem ty189:tyB Tryz.prog 189 Tryz.t189 Tryz.t189:=⟨by kernel_rfl,by kernel_rfl,by kernel_rfl⟩
theorem ty190:tyB Tryz.prog 190 Tryz.t190 Tryz.t190:=⟨by kernel_rfl,by kernel_rfl,by kernel_rfl⟩
theorem ty191:tyB Tryz.prog 191 Tryz.t191 Tryz.t191:=⟨by kernel_rfl,by kernel_rfl,by kernel_rfl⟩
theorem ty192:tyB Tryz.prog 192 Tryz.t192 Tryz.t141:=⟨by kernel_rfl,by kernel_rfl,by kernel_rfl⟩
theorem ty193:tyB Tryz.prog 193 Tryz.t193 Tryz.t193:=⟨by kernel_rfl,by kernel_rfl,by kernel_rfl⟩
theorem ty194:tyB Tryz.prog 194 Tryz.t194 Tryz.t194:=⟨by kernel_rfl,by kernel_rfl,by kernel_rfl⟩
theorem ty195:tyB Tryz.prog 195 Tryz.t195 Tryz.t195:=⟨by kernel_rfl,by kernel_rfl,by kernel_rfl⟩
theorem ty196:tyB Tryz.prog 196 Tryz.t196 Tryz.t196:=⟨by kernel_rfl,by kernel_rfl,by kernel_rfl⟩
theorem ty197:tyB Tryz.prog 197 Tryz.t197 Tryz.t197:=⟨by kernel_rfl,by kernel_rfl,by kernel_rfl⟩
theorem ty198:tyB Tryz.prog 198 Tryz.t198 Tryz.t198:=⟨by kernel_rfl,by kernel_rfl,by kernel_rfl⟩
theorem ty200:tyB Tryz.prog 200 Tryz.t200 Tryz.t200:=⟨by kernel_rfl,by kernel_rfl,by kernel_rfl⟩
theorem ty201:tyB Tryz.prog 201 Tryz.t201 Tryz.t201:=⟨by kernel_rfl,by kernel_rfl,by kernel_rfl⟩
theorem ty202:tyB Tryz.prog 202 Tryz.t202 Tryz.t202:=⟨by kernel_rfl,by kernel_rfl,by kernel_rfl⟩
theorem ty203:tyB Tryz.prog 203 Tryz.t203 Tryz.t202:=⟨by kernel_rfl,by kernel_rfl,by kernel_rfl⟩
theorem ty204:tyB Tryz.prog 204 Tryz.t204 Tryz.t204:=⟨by kernel_rfl,by kernel_rfl,by kernel_rfl⟩
theorem ty205:tyB Tryz.prog 205 Tryz.t205 Tryz.t205:=⟨by kernel_rfl,by kernel_rfl,by kernel_rfl⟩
theorem ty206:tyB Tryz.prog 206 Tryz.t206 Tryz.t205:=⟨by kernel_rfl,by kernel_rfl,by kernel_rfl⟩
theorem ty207:tyB Tryz.prog 207 Tryz.t207 Tryz.t207:=⟨by kernel_rfl,by kernel_rfl,by kernel_rfl⟩
theorem ty208:tyB Tryz.prog 208 Tryz.t208 Tryz.t5:=⟨by kernel_rfl,by kernel_rfl,by kernel_rfl⟩
theorem ty209:tyB Tryz.prog 209 Tryz.t209 Tryz.t5:=⟨by kernel_rfl,by kernel_rfl,by kernel_rfl⟩
theorem ty210:tyB Tryz.prog 210 Tryz.t210 Tryz.t210:=⟨by kernel_rfl,by kernel_rfl,by kernel_rfl⟩
theorem ty211:tyB Tryz.prog 211 Tryz.t211 Tryz.t211:=⟨by kernel_rfl,by kernel_rfl,by kernel_rfl⟩
theorem ty212:tyB Tryz.prog 212 Tryz.t212 Tryz.t21:=⟨by kernel_rfl,by kernel_rfl,by kernel_rfl⟩
theorem ty213:tyB Tryz.prog 213 Tryz.t213 Tryz.t21:=⟨by kernel_rfl,by kernel_rfl,by kernel_rfl⟩
theorem ty214:tyB Tryz.prog 214 Tryz.t214 Tryz.t214:=⟨by kernel_rfl,by kernel_rfl,by kernel_rfl⟩
theorem ty215:tyB Tryz.prog 215 Tryz.t215 Tryz.t214:=⟨by kernel_rfl,by kernel_rfl,by kernel_rfl⟩
theorem ty216:tyB Tryz.prog 216 Tryz.t216 Tryz.t216:=⟨by kernel_rfl,by kernel_rfl,by kernel_rfl⟩
theorem cm23:cmpB Tryz.prog 23 Tryz.t22:=⟨by kernel_rfl,by kernel_rfl,by kernel_rfl⟩
theorem cm35:cmpB Tryz.prog 35 Tryz.t34:=⟨by kernel_rfl,by kernel_rfl,by kernel_rfl⟩
theorem cm37:cmpB Tryz.prog 37 Tryz.t36:=⟨by kernel_rfl,by kernel_rfl,by kernel_rfl⟩
theorem cm111:cmpB Tryz.prog 111 Tryz.t110:=⟨by kernel_rfl,by kernel_rfl,by kernel_rfl⟩
theorem cm154:cmpB Tryz.prog 154 Tryz.t153:=⟨by kernel_rfl,by kernel_rfl,by kernel_rfl⟩
theorem tys_ok:TT.ok Tryz.prog (.node (.node (.node (.node (.node (.node (.node (.leaf 128 Tryz.t128 Tryz.t128 false) (.node (.leaf 64 Tryz.t64 Tryz.t64 false) (.leaf 192 Tryz.t192 Tryz.t141 false))) (.node (.node (.leaf 32 Tryz.t32 Tryz.t32 false) (.leaf 160 Tryz.t160 Tryz.t160 false)) (.leaf 96 Tryz.t96 Tryz.t96 false))) (.node (.node (.node (.leaf 16 Tryz.t16 Tryz.t16 false) (.leaf 144 Tryz.t144 Tryz.t144 false)) (.node (.leaf 80 Tryz.t80 Tryz.t80 false) (.leaf 208 Tryz.t208 Tryz.t5 false))) (.node (.node (.leaf 48 Tryz.t48 Tryz.t48 false) (.leaf 176 Tryz.t176 Tryz.t176 false)) (.leaf 112 Tryz.t112 Tryz.t112 false)))) (.node (.node (.node (.node (.leaf 8 Tryz.t8 Tryz.t7 false) (.leaf 136 Tryz.t136 Tryz.t136 false)) (.node (.leaf 72 Tryz.t72 Tryz.t72 false) (.leaf 200 Tryz.t200 Tryz.t200 false))) (.node (.node (.leaf 40 Tryz.t40 Tryz.t39 false) (.leaf 168 Tryz.t168 Tryz.t168 false)) (.leaf 104 Tryz.t104 Tryz.t104 false))) (.node (.node (.node (.leaf 24 Tryz.t24 Tryz.t24 false) (.leaf 152 Tryz.t152 Tryz.t152 false)) (.node (.leaf 88 Tryz.t88 Tryz.t88 false) (.leaf 216 Tryz.t216 Tryz.t216 false))) (.node (.leaf 56 Tryz.t56 Tryz.t56 false) (.leaf 120 Tryz.t120 Tryz.t120 false))))) (.node (.node (.node (.node (.node (.leaf 4 Tryz.t4 Tryz.t4 false) (.leaf 132 Tryz.t132 Tryz.t132 false)) (.node (.leaf 68 Tryz.t68 Tryz.t68 false) (.leaf 196 Tryz.t196 Tryz.t196 false))) (.node (.node (.leaf 36 Tryz.t36 Tryz.t36 false) (.leaf 164 Tryz.t164 Tryz.t164 false)) (.leaf 100 Tryz.t100 Tryz.t100 false))) (.node (.node (.node (.leaf 20 Tryz.t20 Tryz.t20 false) (.leaf 148 Tryz.t148 Tryz.t148 false)) (.node (.leaf 84 Tryz.t84 Tryz.t84 false) (.leaf 212 Tryz.t212 Tryz.t21 false))) (.node (.node (.leaf 52 Tryz.t52 Tryz.t51 false) (.leaf 180 Tryz.t180 Tryz.t180 false)) (.leaf 116 Tryz.t116 Tryz.t116 false)))) (.node (.node (.node (.node (.leaf 12 Tryz.t12 Tryz.t12 false) (.leaf 140 Tryz.t140 Tryz.t140 false)) (.node (.leaf 76 Tryz.t76 Tryz.t76 false) (.leaf 204 Tryz.t204 Tryz.t204 false))) (.node (.node (.leaf 44 Tryz.t44 Tryz.t43 false) (.leaf 172 Tryz.t172 Tryz.t172 false)) (.leaf 108 Tryz.t108 Tryz.t108 false))) (.node (.node (.node (.leaf 28 Tryz.t28 Tryz.t28 false) (.leaf 156 Tryz.t156 Tryz.t156 false)) (.leaf 92 Tryz.t92 Tryz.t92 false)) (.node (.node (.leaf 60 Tryz.t60 Tryz.t60 false) (.leaf 188 Tryz.t188 Tryz.t188 false)) (.leaf 124 Tryz.t124 Tryz.t124 false)))))) (.node (.node (.node (.node (.node (.node (.leaf 2 Tryz.t2 Tryz.t2 false) (.leaf 130 Tryz.t130 Tryz.t130 false)) (.node (.leaf 66 Tryz.t66 Tryz.t66 false) (.leaf 194 Tryz.t194 Tryz.t194 false))) (.node (.node (.leaf 34 Tryz.t34 Tryz.t34 false) (.leaf 162 Tryz.t162 Tryz.t162 false)) (.leaf 98 Tryz.t98 Tryz.t98 false))) (.node (.node (.node (.leaf 18 Tryz.t18 Tryz.t18 false) (.leaf 146 Tryz.t146 Tryz.t146 false)) (.node (.leaf 82 Tryz.t82 Tryz.t82 false) (.leaf 210 Tryz.t210 Tryz.t210 false))) (.node (.node (.leaf 50 Tryz.t50 Tryz.t50 false) (.leaf 178 Tryz.t178 Tryz.t178 false)) (.leaf 114 Tryz.t114 Tryz.t114 false)))) (.node (.node (.node (.node (.leaf 10 Tryz.t10 Tryz.t9 false) (.leaf 138 Tryz.t138 Tryz.t138 false)) (.node (.leaf 74 Tryz.t74 Tryz.t74 false) (.leaf 202 Tryz.t202 Tryz.t202 false))) (.node (.node (.leaf 42 Tryz.t42 Tryz.t41 false) (.leaf 170 Tryz.t170 Tryz.t170 false)) (.leaf 106 Tryz.t106 Tryz.t106 false))) (.node (.node (.node (.leaf 26 Tryz.t26 Tryz.t26 false) (.leaf 154 Tryz.t154 Tryz.t153 true)) (.leaf 90 Tryz.t90 Tryz.t90 false)) (.node (.node (.leaf 58 Tryz.t58 Tryz.t58 false) (.leaf 186 Tryz.t186 Tryz.t186 false)) (.leaf 122 Tryz.t122 Tryz.t122 false))))) (.node (.node (.node (.node (.node (.leaf 6 Tryz.t6 Tryz.t5 false) (.leaf 134 Tryz.t134 Tryz.t134 false)) (.node (.leaf 70 Tryz.t70 Tryz.t70 false) (.leaf 198 Tryz.t198 Tryz.t198 false))) (.node (.node (.leaf 38 Tryz.t38 Tryz.t38 false) (.leaf 166 Tryz.t166 Tryz.t166 false)) (.leaf 102 Tryz.t102 Tryz.t102 false))) (.node (.node (.node (.leaf 22 Tryz.t22 Tryz.t22 false) (.leaf 150 Tryz.t150 Tryz.t150 false)) (.node (.leaf 86 Tryz.t86 Tryz.t86 false) (.leaf 214 Tryz.t214 Tryz.t214 false))) (.node (.node (.leaf 54 Tryz.t54 Tryz.t54 false) (.leaf 182 Tryz.t182 Tryz.t182 false)) (.leaf 118 Tryz.t118 Tryz.t118 false)))) (.node (.node (.node (.node (.leaf 14 Tryz.t14 Tryz.t13 false) (.leaf 142 Tryz.t142 Tryz.t142 false)) (.node (.leaf 78 Tryz.t78 Tryz.t78 false) (.leaf 206 Tryz.t206 Tryz.t205 false))) (.node (.node (.leaf 46 Tryz.t46 Tryz.t46 false) (.leaf 174 Tryz.t174 Tryz.t174 false)) (.leaf 110 Tryz.t110 Tryz.t110 false))) (.node (.node (.node (.leaf 30 Tryz.t30 Tryz.t30 false) (.leaf 158 Tryz.t158 Tryz.t158 false)) (.leaf 94 Tryz.t94 Tryz.t94 false)) (.node (.node (.leaf 62 Tryz.t62 Tryz.t62 false) (.leaf 190 Tryz.t190 Tryz.t190 false)) (.leaf 126 Tryz.t126 Tryz.t126 false))))))) (.node (.node (.node (.node (.node (.node (.node (.leaf 1 Tryz.t1 Tryz.t1 false) (.leaf 129 Tryz.t129 Tryz.t129 false)) (.node (.leaf 65 Tryz.t65 Tryz.t65 false) (.leaf 193 Tryz.t193 Tryz.t193 false))) (.node (.node (.leaf 33 Tryz.t33 Tryz.t32 false) (.leaf 161 Tryz.t161 Tryz.t161 false)) (.leaf 97 Tryz.t97 Tryz.t97 false))) (.node (.node (.node (.leaf 17 Tryz.t17 Tryz.t17 false) (.leaf 145 Tryz.t145 Tryz.t145 false)) (.node (.leaf 81 Tryz.t81 Tryz.t80 false) (.leaf 209 Tryz.t209 Tryz.t5 false))) (.node (.node (.leaf 49 Tryz.t49 Tryz.t49 false) (.leaf 177 Tryz.t177 Tryz.t177 false)) (.leaf 113 Tryz.t113 Tryz.t112 false)))) (.node (.node (.node (.node (.leaf 9 Tryz.t9 Tryz.t9 false) (.leaf 137 Tryz.t137 Tryz.t137 false)) (.node (.leaf 73 Tryz.t73 Tryz.t73 false) (.leaf 201 Tryz.t201 Tryz.t201 false))) (.node (.node (.leaf 41 Tryz.t41 Tryz.t41 false) (.leaf 169 Tryz.t169 Tryz.t169 false)) (.leaf 105 Tryz.t105 Tryz.t105 false))) (.node (.node (.node (.leaf 25 Tryz.t25 Tryz.t25 false) (.leaf 153 Tryz.t153 Tryz.t153 false)) (.leaf 89 Tryz.t89 Tryz.t89 false)) (.node (.node (.leaf 57 Tryz.t57 Tryz.t57 false) (.leaf 185 Tryz.t185 Tryz.t185 false)) (.leaf 121 Tryz.t121 Tryz.t121 false))))) (.node (.node (.node (.node (.node (.leaf 5 Tryz.t5 Tryz.t5 false) (.leaf 133 Tryz.t133 Tryz.t133 false)) (.node (.leaf 69 Tryz.t69 Tryz.t69 false) (.leaf 197 Tryz.t197 Tryz.t197 false))) (.node (.node (.leaf 37 Tryz.t37 Tryz.t36 true) (.leaf 165 Tryz.t165 Tryz.t165 false)) (.leaf 101 Tryz.t101 Tryz.t101 false))) (.node (.node (.node (.leaf 21 Tryz.t21 Tryz.t21 false) (.leaf 149 Tryz.t149 Tryz.t149 false)) (.node (.leaf 85 Tryz.t85 Tryz.t85 false) (.leaf 213 Tryz.t213 Tryz.t21 false))) (.node (.node (.leaf 53 Tryz.t53 Tryz.t53 false) (.leaf 181 Tryz.t181 Tryz.t181 false)) (.leaf 117 Tryz.t117 Tryz.t117 false)))) (.node (.node (.node (.node (.leaf 13 Tryz.t13 Tryz.t13 false) (.leaf 141 Tryz.t141 Tryz.t141 false)) (.node (.leaf 77 Tryz.t77 Tryz.t76 false) (.leaf 205 Tryz.t205 Tryz.t205 false))) (.node (.node (.leaf 45 Tryz.t45 Tryz.t45 false) (.leaf 173 Tryz.t173 Tryz.t173 false)) (.leaf 109 Tryz.t109 Tryz.t109 false))) (.node (.node (.node (.leaf 29 Tryz.t29 Tryz.t29 false) (.leaf 157 Tryz.t157 Tryz.t157 false)) (.leaf 93 Tryz.t93 Tryz.t93 false)) (.node (.leaf 189 Tryz.t189 Tryz.t189 false) (.leaf 125 Tryz.t125 Tryz.t125 false)))))) (.node (.node (.node (.node (.node (.node (.leaf 3 Tryz.t3 Tryz.t3 false) (.leaf 131 Tryz.t131 Tryz.t131 false)) (.leaf 195 Tryz.t195 Tryz.t195 false)) (.node (.node (.leaf 35 Tryz.t35 Tryz.t34 true) (.leaf 163 Tryz.t163 Tryz.t163 false)) (.leaf 99 Tryz.t99 Tryz.t99 false))) (.node (.node (.node (.leaf 19 Tryz.t19 Tryz.t18 false) (.leaf 147 Tryz.t147 Tryz.t147 false)) (.node (.leaf 83 Tryz.t83 Tryz.t83 false) (.leaf 211 Tryz.t211 Tryz.t211 false))) (.node (.node (.leaf 51 Tryz.t51 Tryz.t51 false) (.leaf 179 Tryz.t179 Tryz.t179 false)) (.leaf 115 Tryz.t115 Tryz.t115 false)))) (.node (.node (.node (.node (.leaf 11 Tryz.t11 Tryz.t9 false) (.leaf 139 Tryz.t139 Tryz.t139 false)) (.node (.leaf 75 Tryz.t75 Tryz.t75 false) (.leaf 203 Tryz.t203 Tryz.t202 false))) (.node (.leaf 43 Tryz.t43 Tryz.t43 false) (.leaf 107 Tryz.t107 Tryz.t107 false))) (.node (.node (.node (.leaf 27 Tryz.t27 Tryz.t27 false) (.leaf 155 Tryz.t155 Tryz.t155 false)) (.leaf 91 Tryz.t91 Tryz.t91 false)) (.node (.node (.leaf 59 Tryz.t59 Tryz.t59 false) (.leaf 187 Tryz.t187 Tryz.t187 false)) (.leaf 123 Tryz.t123 Tryz.t123 false))))) (.node (.node (.node (.node (.node (.leaf 7 Tryz.t7 Tryz.t7 false) (.leaf 135 Tryz.t135 Tryz.t135 false)) (.leaf 71 Tryz.t71 Tryz.t71 false)) (.node (.node (.leaf 39 Tryz.t39 Tryz.t39 false) (.leaf 167 Tryz.t167 Tryz.t167 false)) (.leaf 103 Tryz.t103 Tryz.t103 false))) (.node (.node (.node (.leaf 23 Tryz.t23 Tryz.t22 true) (.leaf 151 Tryz.t151 Tryz.t151 false)) (.node (.leaf 87 Tryz.t87 Tryz.t87 false) (.leaf 215 Tryz.t215 Tryz.t214 false))) (.node (.node (.leaf 55 Tryz.t55 Tryz.t54 false) (.leaf 183 Tryz.t183 Tryz.t3 false)) (.leaf 119 Tryz.t119 Tryz.t119 false)))) (.node (.node (.node (.node (.leaf 15 Tryz.t15 Tryz.t15 false) (.leaf 143 Tryz.t143 Tryz.t143 false)) (.node (.leaf 79 Tryz.t79 Tryz.t79 false) (.leaf 207 Tryz.t207 Tryz.t207 false))) (.node (.node (.leaf 47 Tryz.t47 Tryz.t47 false) (.leaf 175 Tryz.t175 Tryz.t175 false)) (.leaf 111 Tryz.t111 Tryz.t110 true))) (.node (.node (.node (.leaf 31 Tryz.t31 Tryz.t31 false) (.leaf 159 Tryz.t159 Tryz.t159 false)) (.leaf 95 Tryz.t95 Tryz.t95 false)) (.node (.node (.leaf 63 Tryz.t63 Tryz.t63 false) (.leaf 191 Tryz.t191 Tryz.t191 false)) (.leaf 127 Tryz.t127 Tryz.t127 false)))))))):=⟨⟨⟨⟨⟨⟨⟨⟨ty128,trivial⟩,⟨⟨ty64,trivial⟩,⟨ty192,trivial⟩⟩⟩,⟨⟨⟨ty32,trivial⟩,⟨ty160,trivial⟩⟩,⟨ty96,trivial⟩⟩⟩,⟨⟨⟨⟨ty16,trivial⟩,⟨ty144,trivial⟩⟩,⟨⟨ty80,trivial⟩,⟨ty208,trivial⟩⟩⟩,⟨⟨⟨ty48,trivial⟩,⟨ty176,trivial⟩⟩,⟨ty112,trivial⟩⟩⟩⟩,⟨⟨⟨⟨⟨ty8,trivial⟩,⟨ty136,trivial⟩⟩,⟨⟨ty72,trivial⟩,⟨ty200,trivial⟩⟩⟩,⟨⟨⟨ty40,trivial⟩,⟨ty168,trivial⟩⟩,⟨ty104,trivial⟩⟩⟩,⟨⟨⟨⟨ty24,trivial⟩,⟨ty152,trivial⟩⟩,⟨⟨ty88,trivial⟩,⟨ty216,trivial⟩⟩⟩,⟨⟨ty56,trivial⟩,⟨ty120,trivial⟩⟩⟩⟩⟩,⟨⟨⟨⟨⟨⟨ty4,trivial⟩,⟨ty132,trivial⟩⟩,⟨⟨ty68,trivial⟩,⟨ty196,trivial⟩⟩⟩,⟨⟨⟨ty36,trivial⟩,⟨ty164,trivial⟩⟩,⟨ty100,trivial⟩⟩⟩,⟨⟨⟨⟨ty20,trivial⟩,⟨ty148,trivial⟩⟩,⟨⟨ty84,trivial⟩,⟨ty212,trivial⟩⟩⟩,⟨⟨⟨ty52,trivial⟩,⟨ty180,trivial⟩⟩,⟨ty116,trivial⟩⟩⟩⟩,⟨⟨⟨⟨⟨ty12,trivial⟩,⟨ty140,trivial⟩⟩,⟨⟨ty76,trivial⟩,⟨ty204,trivial⟩⟩⟩,⟨⟨⟨ty44,trivial⟩,⟨ty172,trivial⟩⟩,⟨ty108,trivial⟩⟩⟩,⟨⟨⟨⟨ty28,trivial⟩,⟨ty156,trivial⟩⟩,⟨ty92,trivial⟩⟩,⟨⟨⟨ty60,trivial⟩,⟨ty188,trivial⟩⟩,⟨ty124,trivial⟩⟩⟩⟩⟩⟩,⟨⟨⟨⟨⟨⟨⟨ty2,trivial⟩,⟨ty130,trivial⟩⟩,⟨⟨ty66,trivial⟩,⟨ty194,trivial⟩⟩⟩,⟨⟨⟨ty34,trivial⟩,⟨ty162,trivial⟩⟩,⟨ty98,trivial⟩⟩⟩,⟨⟨⟨⟨ty18,trivial⟩,⟨ty146,trivial⟩⟩,⟨⟨ty82,trivial⟩,⟨ty210,trivial⟩⟩⟩,⟨⟨⟨ty50,trivial⟩,⟨ty178,trivial⟩⟩,⟨ty114,trivial⟩⟩⟩⟩,⟨⟨⟨⟨⟨ty10,trivial⟩,⟨ty138,trivial⟩⟩,⟨⟨ty74,trivial⟩,⟨ty202,trivial⟩⟩⟩,⟨⟨⟨ty42,trivial⟩,⟨ty170,trivial⟩⟩,⟨ty106,trivial⟩⟩⟩,⟨⟨⟨⟨ty26,trivial⟩,⟨ty154,cm154⟩⟩,⟨ty90,trivial⟩⟩,⟨⟨⟨ty58,trivial⟩,⟨ty186,trivial⟩⟩,⟨ty122,trivial⟩⟩⟩⟩⟩,⟨⟨⟨⟨⟨⟨ty6,trivial⟩,⟨ty134,trivial⟩⟩,⟨⟨ty70,trivial⟩,⟨ty198,trivial⟩⟩⟩,⟨⟨⟨ty38,trivial⟩,⟨ty166,trivial⟩⟩,⟨ty102,trivial⟩⟩⟩,⟨⟨⟨⟨ty22,trivial⟩,⟨ty150,trivial⟩⟩,⟨⟨ty86,trivial⟩,⟨ty214,trivial⟩⟩⟩,⟨⟨⟨ty54,trivial⟩,⟨ty182,trivial⟩⟩,⟨ty118,trivial⟩⟩⟩⟩,⟨⟨⟨⟨⟨ty14,trivial⟩,⟨ty142,trivial⟩⟩,⟨⟨ty78,trivial⟩,⟨ty206,trivial⟩⟩⟩,⟨⟨⟨ty46,trivial⟩,⟨ty174,trivial⟩⟩,⟨ty110,trivial⟩⟩⟩,⟨⟨⟨⟨ty30,trivial⟩,⟨ty158,trivial⟩⟩,⟨ty94,trivial⟩⟩,⟨⟨⟨ty62,trivial⟩,⟨ty190,trivial⟩⟩,⟨ty126,trivial⟩⟩⟩⟩⟩⟩⟩,⟨⟨⟨⟨⟨⟨⟨⟨ty1,trivial⟩,⟨ty129,trivial⟩⟩,⟨⟨ty65,trivial⟩,⟨ty193,trivial⟩⟩⟩,⟨⟨⟨ty33,trivial⟩,⟨ty161,trivial⟩⟩,⟨ty97,trivial⟩⟩⟩,⟨⟨⟨⟨ty17,trivial⟩,⟨ty145,trivial⟩⟩,⟨⟨ty81,trivial⟩,⟨ty209,trivial⟩⟩⟩,⟨⟨⟨ty49,trivial⟩,⟨ty177,trivial⟩⟩,⟨ty113,trivial⟩⟩⟩⟩,⟨⟨⟨⟨⟨ty9,trivial⟩,⟨ty137,trivial⟩⟩,⟨⟨ty73,trivial⟩,⟨ty201,trivial⟩⟩⟩,⟨⟨⟨ty41,trivial⟩,⟨ty169,trivial⟩⟩,⟨ty105,trivial⟩⟩⟩,⟨⟨⟨⟨ty25,trivial⟩,⟨ty153,trivial⟩⟩,⟨ty89,trivial⟩⟩,⟨⟨⟨ty57,trivial⟩,⟨ty185,trivial⟩⟩,⟨ty121,trivial⟩⟩⟩⟩⟩,⟨⟨⟨⟨⟨⟨ty5,trivial⟩,⟨ty133,trivial⟩⟩,⟨⟨ty69,trivial⟩,⟨ty197,trivial⟩⟩⟩,⟨⟨⟨ty37,cm37⟩,⟨ty165,trivial⟩⟩,⟨ty101,trivial⟩⟩⟩,⟨⟨⟨⟨ty21,trivial⟩,⟨ty149,trivial⟩⟩,⟨⟨ty85,trivial⟩,⟨ty213,trivial⟩⟩⟩,⟨⟨⟨ty53,trivial⟩,⟨ty181,trivial⟩⟩,⟨ty117,trivial⟩⟩⟩⟩,⟨⟨⟨⟨⟨ty13,trivial⟩,⟨ty141,trivial⟩⟩,⟨⟨ty77,trivial⟩,⟨ty205,trivial⟩⟩⟩,⟨⟨⟨ty45,trivial⟩,⟨ty173,trivial⟩⟩,⟨ty109,trivial⟩⟩⟩,⟨⟨⟨⟨ty29,trivial⟩,⟨ty157,trivial⟩⟩,⟨ty93,trivial⟩⟩,⟨⟨ty189,trivial⟩,⟨ty125,trivial⟩⟩⟩⟩⟩⟩,⟨⟨⟨⟨⟨⟨⟨ty3,trivial⟩,⟨ty131,trivial⟩⟩,⟨ty195,trivial⟩⟩,⟨⟨⟨ty35,cm35⟩,⟨ty163,trivial⟩⟩,⟨ty99,trivial⟩⟩⟩,⟨⟨⟨⟨ty19,trivial⟩,⟨ty147,trivial⟩⟩,⟨⟨ty83,trivial⟩,⟨ty211,trivial⟩⟩⟩,⟨⟨⟨ty51,trivial⟩,⟨ty179,trivial⟩⟩,⟨ty115,trivial⟩⟩⟩⟩,⟨⟨⟨⟨⟨ty11,trivial⟩,⟨ty139,trivial⟩⟩,⟨⟨ty75,trivial⟩,⟨ty203,trivial⟩⟩⟩,⟨⟨ty43,trivial⟩,⟨ty107,trivial⟩⟩⟩,⟨⟨⟨⟨ty27,trivial⟩,⟨ty155,trivial⟩⟩,⟨ty91,trivial⟩⟩,⟨⟨⟨ty59,trivial⟩,⟨ty187,trivial⟩⟩,⟨ty123,trivial⟩⟩⟩⟩⟩,⟨⟨⟨⟨⟨⟨ty7,trivial⟩,⟨ty135,trivial⟩⟩,⟨ty71,trivial⟩⟩,⟨⟨⟨ty39,trivial⟩,⟨ty167,trivial⟩⟩,⟨ty103,trivial⟩⟩⟩,⟨⟨⟨⟨ty23,cm23⟩,⟨ty151,trivial⟩⟩,⟨⟨ty87,trivial⟩,⟨ty215,trivial⟩⟩⟩,⟨⟨⟨ty55,trivial⟩,⟨ty183,trivial⟩⟩,⟨ty119,trivial⟩⟩⟩⟩,⟨⟨⟨⟨⟨ty15,trivial⟩,⟨ty143,trivial⟩⟩,⟨⟨ty79,trivial⟩,⟨ty207,trivial⟩⟩⟩,⟨⟨⟨ty47,trivial⟩,⟨ty175,trivial⟩⟩,⟨ty111,cm111⟩⟩⟩,⟨⟨⟨⟨ty31,trivial⟩,⟨ty159,trivial⟩⟩,⟨ty95,trivial⟩⟩,⟨⟨⟨ty63,trivial⟩,⟨ty191,trivial⟩⟩,⟨ty127,trivial⟩⟩⟩⟩⟩⟩⟩⟩
abbrev bo (b:Bool):DV:= .v (.bool b)
abbrev it (n:Int):DV:= .v (.int .i64 n)
abbrev ut (n:Int):DV:= .v (.int .u64 n)
structure Wd where
 hi:Int
 lo:Int
abbrev Wd.ar (w:Wd):Ar:= .agg [.d (it w.hi),.d (ut w.lo)]
def Wd.val (w:Wd):Int:=w.hi*18446744073709551616+w.lo
def Wd.ok (w:Wd):Prop:=(-9223372036854775808<=w.hi/\ w.hi<9223372036854775808)/\ 0<=w.lo/\ w.lo<18446744073709551616
def wd (v:Int):Wd:=⟨(v/18446744073709551616+9223372036854775808)%18446744073709551616-9223372036854775808,v%18446744073709551616⟩
theorem wd_ok (v:Int):(wd v).ok:=by unfold Wd.ok wd;dsimp only;omega
theorem wd_val {v:Int} (h0: -170141183460469231731687303715884105728<=v) (h1:v<170141183460469231731687303715884105728):(wd v).val=v:=by unfold Wd.val wd;dsimp only;omega
theorem wU (n:Int):IntKind.wrap .u64 n=n%18446744073709551616:=by simp [IntKind.wrap,IntKind.signed,IntKind.bits]
theorem wI (n:Int):IntKind.wrap .i64 n=(n+9223372036854775808)%18446744073709551616-9223372036854775808:=by
 simp [IntKind.wrap,IntKind.signed,IntKind.bits]
 split<;>omega
theorem wI_id (n:Int) (h0: -9223372036854775808<=n) (h1:n<9223372036854775808):IntKind.wrap .i64 n=n:=by rw [wI];omega
theorem wU_id (n:Int) (h0:0<=n) (h1:n<18446744073709551616):IntKind.wrap .u64 n=n:=by rw [wU];omega
def wIntV (v:Int):Int:=if-9223372036854775808<=v/\ v<9223372036854775808 then v else 0
def wIntB (v:Int):Bool:=decide (-9223372036854775808<=v/\ v<9223372036854775808)
def FSub64:List Ar->Option Rs
 | [.c (.d (.v (.int .u64 x))),.c (.d (.v (.int .u64 y))),.c (.d (.v (.int .u64 c)))]=>some ⟨((0<=x/\ x<18446744073709551616)/\ 0<=y/\ y<18446744073709551616)/\ 0<=c/\ c<=1,.tup [.c (.d (ut ((x-y-c)%18446744073709551616))),.c (.d (ut (if x<y+c then 1 else 0)))],[]⟩
 |_=>none
theorem run_sub (x y b:Nat) (hb:b<=1) (w:World):((Extern.MathBitsCarry.rows[1]'(by decide)).2 #[.int .u64 x,.int .u64 y,.int .u64 b]).run Tryz.prog w=
 .ok (.tuple #[.int .u64 (((x+Extern.MathBitsCarry.m64-y-b)%Extern.MathBitsCarry.m64:Nat):Int),.int .u64 ((if x<y+b then 1 else 0:Nat):Int)]) w:=by
 have:b=0 \/b=1:=by omega
 rcases this with rfl|rfl<;>rfl
theorem fcSub64:FC Tryz.prog 126 FSub64:=by
 refine fc_stand fun xs pre r us h hp=> ?_
 unfold FSub64 at h;split at h
 . rename_i x y c
   cases h;refine ⟨[.int .u64 x,.int .u64 y,.int .u64 c],.tuple #[.int .u64 ((x-y-c)%18446744073709551616),.int .u64 (if x<y+c then 1 else 0)],rfl,rfl,fun w=> ?_,fun S w=>⟨_,rfl,[],[],rfl,⟨.v trivial,trivial⟩,[],[],rfl,⟨.v trivial,trivial⟩,rfl⟩⟩
   obtain ⟨x,rfl⟩:=Int.eq_ofNat_of_zero_le hp.1.1.1
   obtain ⟨y,rfl⟩:=Int.eq_ofNat_of_zero_le hp.1.2.1
   obtain ⟨c,rfl⟩:=Int.eq_ofNat_of_zero_le hp.2.1
   rw [run_callFunc_extern Tryz.func126 (by kernel_rfl) (by kernel_rfl) (by kernel_rfl) (e:=(Extern.MathBitsCarry.rows[1]'(by decide)).2) (by kernel_rfl)];have:=run_sub x y c (by have:=hp.2.2;omega) w
   rw [this];simp only [Result.andThen_ok,Extern.MathBitsCarry.m64];have h1:=hp.1.1.2
   have h2:=hp.1.2.2
   have h3:=hp.2.2
   have e1:(((x+2^64-y-c)%2^64:Nat):Int)=((x:Int)-y-c)%18446744073709551616:=by omega
   have e2:((if x<y+c then 1 else 0:Nat):Int)=if (x:Int)<(y:Int)+(c:Int) then 1 else 0:=by split<;>split<;>omega
   rw [e1,e2]
 . cases h
theorem shr63 (n:Int):n.fdiv (2^min (Int.toNat 63) IntKind.i64.bits)=n/9223372036854775808:=by
 have e:(2^min (Int.toNat 63) IntKind.i64.bits:Int)=9223372036854775808:=by decide
 rw [e,Int.fdiv_eq_ediv_of_nonneg _ (by decide)]
def FWOf:List Ar->Option Rs
 | [.c (.d (.v (.int .i64 i0)))]=>some ⟨(-9223372036854775808<=i0/\ i0<9223372036854775808),.va (Wd.ar (wd i0)),[]⟩
 |_=>none
theorem fcWOf:FC Tryz.prog 110 FWOf:=by
 intro xs pre r us h hp;unfold FWOf at h;split at h
 . rename_i i0
   cases h;have hp0:=hp
   refine fcat tys_ok (l:= []) trivial Tryz.func110 rfl (by kernel_rfl) false ?_
   repeat' (first|exact trivial|refine ⟨?_, ?_⟩|intro _)
   all_goals first|(with_reducible apply qq)|(conv=>whnf)
   all_goals (try (refine congrArg Value.bool (Bool.eq_iff_iff.2 ?_));try simp only [Bool.not_eq_true',Bool.not_eq_false',Bool.and_eq_true,Bool.or_eq_true,Bool.and_eq_false_imp,Bool.or_eq_false_iff,beq_iff_eq,beq_eq_false_iff_ne,ne_eq,decide_eq_true_eq,decide_eq_false_iff_not,Bool.true_eq_false,Bool.false_eq_true,true_and,and_true,false_and,and_false,imp_false,Value.int.injEq,true_iff,false_iff,iff_true,iff_false,iff_self])
   all_goals (try simp only [wU,wI,shr63,wd,Wd.val,Wd.ok,Bool.not_eq_true',Bool.not_eq_false',Bool.and_eq_true,Bool.or_eq_true,Bool.and_eq_false_imp,Bool.or_eq_false_iff,beq_iff_eq,beq_eq_false_iff_ne,ne_eq,decide_eq_true_eq,decide_eq_false_iff_not,Bool.true_eq_false,Bool.false_eq_true,true_and,and_true,false_and,and_false,imp_false,Value.int.injEq] at*)
   all_goals first|omega|(split<;>omega)|(split<;>split<;>omega)
 . cases h
def FWSub:List Ar->Option Rs
 | [.agg [.d (.v (.int .i64 h0)),.d (.v (.int .u64 l0))],.agg [.d (.v (.int .i64 h1)),.d (.v (.int .u64 l1))]]=>some ⟨(Wd.ok ⟨h0,l0⟩)/\ (Wd.ok ⟨h1,l1⟩),.va (Wd.ar (wd (Wd.val (⟨h0,l0⟩:Wd)-Wd.val (⟨h1,l1⟩:Wd)))),[]⟩
 |_=>none
theorem fcWSub:FC Tryz.prog 109 FWSub:=by
 intro xs pre r us h hp;unfold FWSub at h;split at h
 . rename_i h0 l0 h1 l1
   cases h;obtain ⟨hp0,hp1⟩:=hp
   refine fcat tys_ok (l:= [(126,⟨[],FSub64⟩)]) ⟨fcSub64,trivial⟩ Tryz.func109 rfl (by kernel_rfl) false ?_
   repeat' (first|exact trivial|refine ⟨?_, ?_⟩|intro _)
   all_goals first|(with_reducible apply qq)|(conv=>whnf)
   all_goals (try (refine congrArg Value.bool (Bool.eq_iff_iff.2 ?_));try simp only [Bool.not_eq_true',Bool.not_eq_false',Bool.and_eq_true,Bool.or_eq_true,Bool.and_eq_false_imp,Bool.or_eq_false_iff,beq_iff_eq,beq_eq_false_iff_ne,ne_eq,decide_eq_true_eq,decide_eq_false_iff_not,Bool.true_eq_false,Bool.false_eq_true,true_and,and_true,false_and,and_false,imp_false,Value.int.injEq,true_iff,false_iff,iff_true,iff_false,iff_self])
   all_goals (try simp only [wU,wI,shr63,wd,Wd.val,Wd.ok,Bool.not_eq_true',Bool.not_eq_false',Bool.and_eq_true,Bool.or_eq_true,Bool.and_eq_false_imp,Bool.or_eq_false_iff,beq_iff_eq,beq_eq_false_iff_ne,ne_eq,decide_eq_true_eq,decide_eq_false_iff_not,Bool.true_eq_false,Bool.false_eq_true,true_and,and_true,false_and,and_false,imp_false,Value.int.injEq] at*)
   all_goals first|omega|(split<;>omega)|(split<;>split<;>omega)
 . cases h
abbrev st (s:ByteArray):DV:= .v (.string s)
def gT:List DV->ByteArray
 | [.v (.string s)]=>s
 |_=>ByteArray.empty
def gN (n:Nat) (f:Nat->List DV):List ByteArray:=(List.range n).map fun i=>gT (f i)
def atS (l:List ByteArray) (i:Nat):ByteArray:=l.getD i ByteArray.empty
abbrev lst (l:List ByteArray):DV:= .lst 1 l.length fun i=> [st (atS l i)]
structure Ns where
 null:Bool
 names:List ByteArray
abbrev Ns.ar (s:Ns):Ar:= .agg [.d (bo s.null),.d (lst s.names)]
theorem gN_length (n:Nat) (f:Nat->List DV):(gN n f).length=n:=by simp [gN]
theorem gN_canon (n:Nat) (f:Nat->List DV):(gN n fun i=> [st (gT (f i))])=gN n f:=rfl
theorem gN_lst (l:List ByteArray):gN l.length (fun i=> [st (atS l i)])=l:=by
 unfold gN atS;apply List.ext_getElem
 . simp
 . intro i h1 h2;simp [gT,h2]
def slt (a b:ByteArray):Bool:=Op.bytesLess a.toList b.toList
def sle (a b:ByteArray):Bool:=Op.bytesLess a.toList b.toList||a.toList==b.toList
def seq (a b:ByteArray):Bool:=a.toList==b.toList
def stepP (x:ByteArray) (s:List ByteArray×Bool) (y:ByteArray):List ByteArray×Bool:=
 if !s.2&&sle x y then (if slt x y then s.1++ [x]++ [y] else s.1++ [y],true) else (s.1++ [y],s.2)
def putS (l:List ByteArray) (x:ByteArray):List ByteArray:=
 if (l.foldl (stepP x) ([],false)).2 then (l.foldl (stepP x) ([],false)).1 else (l.foldl (stepP x) ([],false)).1++ [x]
theorem stepP_in {x y:ByteArray} {out:List ByteArray}:stepP x (out,true) y=(out++ [y],true):=rfl
theorem stepP_lt {x y:ByteArray} {out:List ByteArray} (h1:sle x y=true) (h2:slt x y=true):stepP x (out,false) y=(out++ [x]++ [y],true):=by unfold stepP;simp [h1,h2]
theorem stepP_eq {x y:ByteArray} {out:List ByteArray} (h1:sle x y=true) (h2:slt x y=false):stepP x (out,false) y=(out++ [y],true):=by unfold stepP;simp [h1,h2]
theorem stepP_gt {x y:ByteArray} {out:List ByteArray} (h1:sle x y=false):stepP x (out,false) y=(out++ [y],false):=by unfold stepP;simp [h1]
def cleanS (l:List ByteArray):List ByteArray:=l.foldl putS []
theorem seq_iff (a b:ByteArray):(a.toList==b.toList)=decide (a=b):=by
 rw [ByteArray.toList_eq,ByteArray.toList_eq];rw [Bool.eq_iff_iff];simp only [beq_iff_eq,decide_eq_true_eq];constructor
 . intro h;have:a.data=b.data:=Array.ext' h
   cases a;cases b;simp_all
 . rintro rfl;rfl
theorem gN_mem {n:Nat} {f:Nat->List DV} {x:ByteArray}:x∈gN n f↔ ∃i,i<n/\ gT (f i)=x:=by simp [gN]
def memS (x:ByteArray) (l:List ByteArray):Bool:=l.any fun y=>decide (x=y)
theorem memS_iff {x:ByteArray} {l:List ByteArray}:memS x l=true↔x∈l:=by
 unfold memS;simp
def ixS (l:List ByteArray) (x:ByteArray):Int:=if memS x l=true then (l.findIdx fun y=>decide (x=y):Nat) else-1
def subS (l m:List ByteArray):Bool:=l.all fun x=>memS x m
theorem ixS_no {n:Nat} {f:Nat->List DV} {x:ByteArray} (h: ∀j,j<n-> ¬x=gT (f j)):(-1:Int)=ixS (gN n f) x:=by
 unfold ixS;rw [if_neg];rw [memS_iff,gN_mem]
 rintro ⟨i,hi,e⟩
 exact h i hi e.symm
theorem ixS_at {n i:Nat} {f:Nat->List DV} {x:ByteArray} (h: ∀j,j<i-> ¬x=gT (f j)) (hi:i<n) (he:x=gT (f i)):(i:Int)=ixS (gN n f) x:=by
 unfold ixS;rw [if_pos (memS_iff.2 (gN_mem.2 ⟨i,hi,he.symm⟩))];have hl:i<(gN n f).length:=by rw [gN_length];exact hi
 have hg: ∀j (hj:j<(gN n f).length),(gN n f)[j]=gT (f j):=fun j hj=>by simp [gN]
 have:(gN n f).findIdx (fun y=>decide (x=y))=i:=by
  rw [List.findIdx_eq hl];refine ⟨by rw [hg i hl];simpa using he,fun j hj=> ?_⟩
  rw [hg j (by omega)];simpa using h j hj
 rw [this]
theorem ixS_ge {l:List ByteArray} {x:ByteArray}:decide (ixS l x≥0)=memS x l:=by
 unfold ixS;split
 . rename_i h;simp [h]
 . rename_i h;simp [h]
theorem not_step {i:Nat} {f:Nat->List DV} {x:ByteArray} (k: ∀j,j<i-> ¬x=gT (f j)) (h: ¬x=gT (f i)) (j:Nat) (hj:j<i+1): ¬x=gT (f j):=by
 rcases Nat.lt_or_ge j i with h1|h1
 . exact k j h1
 . have:j=i:=by omega
   subst this;exact h
theorem subS_no {n i:Nat} {f:Nat->List DV} {m:List ByteArray} {p:Bool} (hi:i<n) (h:(!memS (gT (f i)) m)=true):Value.bool false=Value.bool (p&&subS (gN n f) m):=by
 have:subS (gN n f) m=false:=by
  unfold subS;rw [List.all_eq_false];exact ⟨gT (f i),gN_mem.2 ⟨i,hi,rfl⟩,by simpa using h⟩
 rw [this];simp
theorem subS_yes {n:Nat} {f:Nat->List DV} {m:List ByteArray} {b0 b1:Bool} (h0:b0=true->b1=true) (h: ∀j,j<n->gT (f j)∈m):Value.bool true=Value.bool ((!b0||b1)&&subS (gN n f) m):=by
 have:subS (gN n f) m=true:=by
  unfold subS;rw [List.all_eq_true];intro x hx;obtain ⟨i,hi,rfl⟩:=gN_mem.1 hx
  exact memS_iff.2 (h i hi)
 rw [this];cases b0<;>simp_all
theorem in_step {i:Nat} {f:Nat->List DV} {m:List ByteArray} (k: ∀j,j<i->gT (f j)∈m) (h:(!memS (gT (f i)) m)=false) (j:Nat) (hj:j<i+1):gT (f j)∈m:=by
 rcases Nat.lt_or_ge j i with h1|h1
 . exact k j h1
 . have:j=i:=by omega
   subst this;exact memS_iff.1 (by simpa using h)
def FNIndex:List Ar->Option Rs
 | [.c (.d (.lst 1 n0 f0)),.c (.d (.v (.string x1)))]=>some ⟨(n0*16<=140737488351232/\ ∀i,i<n0->f0 i= [st (gT (f0 i))]),.va (.c (.d (it (ixS (gN n0 f0) x1)))),[]⟩
 |_=>none
theorem fcNIndex:FC Tryz.prog 133 FNIndex:=by
 intro xs pre r us h hp;unfold FNIndex at h;split at h
 . rename_i n0 f0 x1
   cases h;have hp0:=hp
   refine FCat.of_eq (as':= [.c (.d (.lst 1 n0 fun i=> [st (gT (f0 i))])),.c (.d (.v (.string x1)))]) ?_ rfl rfl ?_
   . repeat' (first|exact trivial|exact rfl|refine ⟨?_, ?_⟩|fail)
     all_goals first|exact hp0.2|exact hp1.2|exact hp2.2|(intro i hi;exact (hp0.2 i hi).1)|(intro i hi;exact (hp1.2 i hi).1)|(intro i hi;exact (hp2.2 i hi).1)|grind
   refine fcat tys_ok (l:= []) trivial Tryz.func133 rfl (by kernel_rfl) false ?_
   repeat' (first|exact trivial|refine ⟨?_, ?_⟩|intro _)
   all_goals first|(with_reducible apply qq)|(conv=>whnf)
   refine loop_ids tys_ok (l:= []) trivial (by kernel_rfl) (X:=Nat)
    (fun x=>⟨[(8,vx (.int .i64 x)),(7,vx (.int .i64 n0)),(0,.va (.c (.d (.lst 1 n0 fun i=> [st (gT (f0 i))])))),(1,vx (.string x1))],[],0,19⟩)
    (fun x=>n0-x) (fun x=>x<=n0/\ ∀j,j<x-> ¬x1=gT (f0 j)) [] []
    (fun x _ _=>x+1) (fun _=> []) [] 0 0 0 ?_ ?_ ?_
   . exact ⟨Nat.zero_le _,fun j h=>absurd h (Nat.not_lt_zero _)⟩
   . repeat' (first|exact trivial|exact rfl|(intro _ h;exact absurd h (Nat.not_lt_zero _))|(intro _ _;exact rfl)|refine ⟨?_, ?_⟩|fail)
   . rintro i ⟨k1,k2⟩
     repeat' (first|exact trivial|refine ⟨?_, ?_⟩|intro _)
     all_goals first|(with_reducible apply qq)|(conv=>whnf)
     all_goals (try simp only [Int.toNat_natCast,decide_eq_true_eq,decide_eq_false_iff_not,seq_iff,gN_canon] at*)
     all_goals first|omega|((with_reducible show idsOk _ _=true);rfl)|((with_reducible show Value.int _ _=Value.int _ _);rw [wI_id _ (by omega) (by omega)];rfl)|(rw [<-ixS_no (fun j hj=>k2 j (by omega))])|(rw [<-ixS_at k2 (by omega) (by assumption)])|(exact absurd (by assumption) (not_step k2 (by assumption) _ ‹_<i+1›))|rfl
 . cases h
def FNContains:List Ar->Option Rs
 | [.c (.d (.lst 1 n0 f0)),.c (.d (.v (.string x1)))]=>some ⟨(n0*16<=140737488351232/\ ∀i,i<n0->f0 i= [st (gT (f0 i))]),.va (.c (.d (bo (memS x1 (gN n0 f0))))),[]⟩
 |_=>none
theorem fcNContains:FC Tryz.prog 123 FNContains:=by
 intro xs pre r us h hp;unfold FNContains at h;split at h
 . rename_i n0 f0 x1
   cases h;have hp0:=hp
   refine FCat.of_eq (as':= [.c (.d (.lst 1 n0 fun i=> [st (gT (f0 i))])),.c (.d (.v (.string x1)))]) ?_ rfl rfl ?_
   . repeat' (first|exact trivial|exact rfl|refine ⟨?_, ?_⟩|fail)
     all_goals first|exact hp0.2|exact hp1.2|exact hp2.2|(intro i hi;exact (hp0.2 i hi).1)|(intro i hi;exact (hp1.2 i hi).1)|(intro i hi;exact (hp2.2 i hi).1)|grind
   refine fcat tys_ok (l:= [(133,⟨[],FNIndex⟩)]) ⟨fcNIndex,trivial⟩ Tryz.func123 rfl (by kernel_rfl) false ?_
   repeat' (first|exact trivial|refine ⟨?_, ?_⟩|intro _)
   all_goals first|(with_reducible apply qq)|(conv=>whnf)
   all_goals first|(rw [gN_canon,ixS_ge])|omega|rfl|(exact hp0.1)
 . cases h
def FNLeq:List Ar->Option Rs
 | [.agg [.d (.v (.bool b0)),.d (.lst 1 n0 f0)],.agg [.d (.v (.bool b1)),.d (.lst 1 n1 f1)]]=>some ⟨(n0*16<=140737488351232/\ ∀i,i<n0->f0 i= [st (gT (f0 i))])/\ (n1*16<=140737488351232/\ ∀i,i<n1->f1 i= [st (gT (f1 i))]),.va (.c (.d (bo ((!b0||b1)&&subS (gN n0 f0) (gN n1 f1))))),[]⟩
 |_=>none
theorem fcNLeq:FC Tryz.prog 106 FNLeq:=by
 intro xs pre r us h hp;unfold FNLeq at h;split at h
 . rename_i b0 n0 f0 b1 n1 f1
   cases h;obtain ⟨hp0,hp1⟩:=hp
   refine FCat.of_eq (as':= [.agg [.d (.v (.bool b0)),.d (.lst 1 n0 fun i=> [st (gT (f0 i))])],.agg [.d (.v (.bool b1)),.d (.lst 1 n1 fun i=> [st (gT (f1 i))])]]) ?_ rfl rfl ?_
   . repeat' (first|exact trivial|exact rfl|refine ⟨?_, ?_⟩|fail)
     all_goals first|exact hp0.2|exact hp1.2|exact hp2.2|(intro i hi;exact (hp0.2 i hi).1)|(intro i hi;exact (hp1.2 i hi).1)|(intro i hi;exact (hp2.2 i hi).1)|grind
   refine fcat tys_ok (l:= [(123,⟨[],FNContains⟩)]) ⟨fcNContains,trivial⟩ Tryz.func106 rfl (by kernel_rfl) false ?_
   repeat' (first|exact trivial|refine ⟨?_, ?_⟩|intro _)
   all_goals first|(with_reducible apply qq)|(conv=>whnf)
   all_goals first|((with_reducible show ASat _ _ _ _ _);skip)|(simp_all;done)
   all_goals (have hb:b0=true->b1=true:=(by intro e;simp_all))
   all_goals (
    refine loop_ids tys_ok (l:= [(123,⟨[],FNContains⟩)]) ⟨fcNContains,trivial⟩ (by kernel_rfl) (X:=Nat)
     (fun x=>⟨[(17,vx (.int .i64 x)),(16,vx (.int .i64 n0)),(15,.va (.c (.d (.lst 1 n0 fun i=> [st (gT (f0 i))])))),(3,.va (.c (.own 1 0)))],[(1,.cells [.d (bo b1),.d (.lst 1 n1 fun i=> [st (gT (f1 i))])])],2,27⟩)
     (fun x=>n0-x) (fun x=>x<=n0/\ ∀j,j<x->gT (f0 j)∈gN n1 f1) [] []
     (fun x _ _=>x+1) (fun _=> [0,1]) [0,1] 0 0 0 ?_ ?_ ?_
    . exact ⟨Nat.zero_le _,fun j h=>absurd h (Nat.not_lt_zero _)⟩
    . repeat' (first|exact trivial|exact rfl|(intro _ h;exact absurd h (Nat.not_lt_zero _))|(intro _ _;exact rfl)|refine ⟨?_, ?_⟩|fail)
    . rintro i ⟨k1,k2⟩
      repeat' (first|exact trivial|refine ⟨?_, ?_⟩|intro _)
      all_goals first|(with_reducible apply qq)|(conv=>whnf)
      all_goals (try simp only [Int.toNat_natCast,decide_eq_true_eq,decide_eq_false_iff_not,seq_iff,gN_canon] at*)
      all_goals first|omega|((with_reducible show idsOk _ _=true);rfl)|((with_reducible show Value.int _ _=Value.int _ _);rw [wI_id _ (by omega) (by omega)];rfl)|(exact subS_no (i:=i) (by omega) (by assumption))|(exact subS_yes hb (fun j hj=>k2 j (by omega)))|(exact in_step k2 (by assumption) _ (by assumption))|rfl)
 . cases h
end Go.Proofs.YtkfjfgabianfhaaGreat
namespace Go.Proofs
open Go.Shelf
def Tryz.lays213_ren:Go.Shelf.Ren:=⟨fun|213=>80|265=>107|n=>n,fun|9=>9|3=>3|n=>n,fun|n=>n⟩
open Go.RowKit in
def Tryz.lays106_ren:Go.Shelf.Ren:=⟨fun|106=>59|213=>80|265=>107|n=>n,fun|9=>9|3=>3|n=>n,fun|n=>n⟩
theorem Tryz.lays106:Go.Proofs.Lays.n106 Tryz.prog Tryz.lays106_ren:={
 mixed:=by kernel_rfl
 f106:=Tryz.func59.trans (congrArg some (by kernel_rfl))
 f213:=Tryz.func80.trans (congrArg some (by kernel_rfl))
 f265:=Tryz.func107.trans (congrArg some (by kernel_rfl))
 t3:=Tryz.underlying3
 a3:=Tryz.isAgg3
 z3:=Tryz.sizeOf3
 v3:=Tryz.zeroValue3
 t9:=Tryz.underlying9
 a9:=Tryz.isAgg9
 z9:=Tryz.sizeOf9
 v9:=Tryz.zeroValue9}
open Go.RowKit in
theorem Tryz.strings_Compare (a b:ByteArray) (w:World):
 Calls Tryz.prog 59 #[.string a,.string b] w fun e w'=>e= .returned (.int .i64 (Lib.compareBytes a.data.toList b.data.toList))/\ w'=w:=Any.strings_Compare Tryz.lays106 a b w
def Tryz.lays194_ren:Go.Shelf.Ren:=⟨fun|194=>116|n=>n,fun|31=>38|9=>9|3=>3|4=>4|0=>0|n=>n,fun|n=>n⟩
theorem Tryz.lays194:Go.Proofs.Lays.n194 Tryz.prog Tryz.lays194_ren:={
 mixed:=by kernel_rfl
 f194:=Tryz.func116.trans (congrArg some (by kernel_rfl))
 t0:=Tryz.underlying0
 a0:=Tryz.isAgg0
 z0:=Tryz.sizeOf0
 v0:=Tryz.zeroValue0
 t3:=Tryz.underlying3
 a3:=Tryz.isAgg3
 z3:=Tryz.sizeOf3
 v3:=Tryz.zeroValue3
 t4:=Tryz.underlying4
 a4:=Tryz.isAgg4
 z4:=Tryz.sizeOf4
 v4:=Tryz.zeroValue4
 t9:=Tryz.underlying9
 a9:=Tryz.isAgg9
 z9:=Tryz.sizeOf9
 v9:=Tryz.zeroValue9
 t31:=Tryz.underlying38
 a31:=Tryz.isAgg38
 z31:=Tryz.sizeOf38
 v31:=Tryz.zeroValue38}
open Go.RowKit Go.Lib Go.Sort in
open Go.RowKit Go.Lib Go.Sort in
theorem Tryz.slices_Compact_string (blk off cap:Nat) (zs:List (List UInt8)) (w:World) (hH:Holds encStr w blk off zs.toArray) (hsz:zs.length<=9223372036854775807) (hcap:zs.length<=cap):
 Calls Tryz.prog 116 #[.slice (some ⟨blk,off,none⟩) zs.length cap] w fun e w'=>e= .returned (.slice (some ⟨blk,off,none⟩) (Lib.compact zs).length cap)/\ ∃q,w'=putRow encStr (Sort.ahead w q) blk off (Lib.compact zs++List.replicate (zs.length-(Lib.compact zs).length) []).toArray:=Any.slices_Compact_string Tryz.lays194 blk off cap zs w hH hsz hcap
open Go.RowKit Go.Lib Go.Sort in
theorem Tryz.slices_Compact_string_empty (a:Option Addr) (cap:Nat) (w:World):
 Calls Tryz.prog 116 #[.slice a 0 cap] w fun e w'=>e= .returned (.slice a 0 cap)/\ w'=w:=Any.slices_Compact_string_empty Tryz.lays194 a cap w
open Go.RowKit Go.Lib Go.Sort in
open Go.RowKit Go.Lib Go.Sort in
def Tryz.laysSlF06_f82_ren:Go.Shelf.Ren:=⟨fun|6=>114|15=>129|14=>128|28=>144|29=>145|20=>136|21=>137|22=>138|23=>139|24=>140|25=>141|26=>142|27=>143|46=>147|47=>148|48=>149|49=>150|50=>151|57=>152|n=>n,fun|22=>38|24=>9|25=>105|3=>3|39=>122|0=>0|53=>190|55=>141|4=>4|46=>184|45=>183|50=>67|5=>5|9=>9|66=>192|70=>196|76=>198|77=>199|n=>n,fun|n=>n⟩
theorem Tryz.laysSlF06_f82:Go.Proofs.SlLaysF0.n6 Tryz.prog Tryz.laysSlF06_f82_ren:={
 mixed:=by kernel_rfl
 f6:=⟨Tryz.f114.name,by decide,Tryz.func114.trans (congrArg some (by kernel_rfl))⟩
 f14:=⟨Tryz.f128.name,by decide,Tryz.func128.trans (congrArg some (by kernel_rfl))⟩
 f15:=Tryz.func129.trans (congrArg some (by kernel_rfl))
 f20:=⟨Tryz.f136.name,by decide,Tryz.func136.trans (congrArg some (by kernel_rfl))⟩
 f21:=⟨Tryz.f137.name,by decide,Tryz.func137.trans (congrArg some (by kernel_rfl))⟩
 f22:=⟨Tryz.f138.name,by decide,Tryz.func138.trans (congrArg some (by kernel_rfl))⟩
 f23:=⟨Tryz.f139.name,by decide,Tryz.func139.trans (congrArg some (by kernel_rfl))⟩
 f24:=⟨Tryz.f140.name,by decide,Tryz.func140.trans (congrArg some (by kernel_rfl))⟩
 f25:=⟨Tryz.f141.name,by decide,Tryz.func141.trans (congrArg some (by kernel_rfl))⟩
 f26:=⟨Tryz.f142.name,by decide,Tryz.func142.trans (congrArg some (by kernel_rfl))⟩
 f27:=⟨Tryz.f143.name,by decide,Tryz.func143.trans (congrArg some (by kernel_rfl))⟩
 f28:=Tryz.func144.trans (congrArg some (by kernel_rfl))
 f29:=Tryz.func145.trans (congrArg some (by kernel_rfl))
 f46:=⟨Tryz.f147.name,by decide,Tryz.func147.trans (congrArg some (by kernel_rfl))⟩
 f47:=Tryz.func148.trans (congrArg some (by kernel_rfl))
 f48:=Tryz.func149.trans (congrArg some (by kernel_rfl))
 f49:=⟨Tryz.f150.name,by decide,Tryz.func150.trans (congrArg some (by kernel_rfl))⟩
 f50:=⟨Tryz.f151.name,by decide,Tryz.func151.trans (congrArg some (by kernel_rfl))⟩
 f57:=⟨Tryz.f152.name,by decide,Tryz.func152.trans (congrArg some (by kernel_rfl))⟩
 t0:=Tryz.underlying0
 a0:=Tryz.isAgg0
 z0:=Tryz.sizeOf0
 v0:=Tryz.zeroValue0
 t3:=Tryz.underlying3
 a3:=Tryz.isAgg3
 z3:=Tryz.sizeOf3
 v3:=Tryz.zeroValue3
 t4:=Tryz.underlying4
 a4:=Tryz.isAgg4
 z4:=Tryz.sizeOf4
 v4:=Tryz.zeroValue4
 t5:=Tryz.underlying5
 a5:=Tryz.isAgg5
 z5:=Tryz.sizeOf5
 v5:=Tryz.zeroValue5
 t9:=Tryz.underlying9
 a9:=Tryz.isAgg9
 z9:=Tryz.sizeOf9
 v9:=Tryz.zeroValue9
 t22:=Tryz.underlying38
 a22:=Tryz.isAgg38
 z22:=Tryz.sizeOf38
 v22:=Tryz.zeroValue38
 t25:=Tryz.underlying105
 a25:=Tryz.isAgg105
 z25:=Tryz.sizeOf105
 v25:=Tryz.zeroValue105
 t39:=Tryz.underlying122
 a39:=Tryz.isAgg122
 z39:=Tryz.sizeOf122
 v39:=Tryz.zeroValue122
 t45:=Tryz.underlying183
 a45:=Tryz.isAgg183
 z45:=Tryz.sizeOf183
 v45:=Tryz.zeroValue183
 t46:=Tryz.underlying184
 a46:=Tryz.isAgg184
 z46:=Tryz.sizeOf184
 v46:=Tryz.zeroValue184
 t50:=Tryz.underlying67
 a50:=Tryz.isAgg67
 z50:=Tryz.sizeOf67
 v50:=Tryz.zeroValue67
 t53:=Tryz.underlying190
 a53:=Tryz.isAgg190
 z53:=Tryz.sizeOf190
 v53:=Tryz.zeroValue190
 t55:=Tryz.underlying141
 a55:=Tryz.isAgg141
 z55:=Tryz.sizeOf141
 v55:=Tryz.zeroValue141
 t66:=Tryz.underlying192
 a66:=Tryz.isAgg192
 z66:=Tryz.sizeOf192
 v66:=Tryz.zeroValue192
 t70:=Tryz.underlying196
 a70:=Tryz.isAgg196
 z70:=Tryz.sizeOf196
 v70:=Tryz.zeroValue196
 t76:=Tryz.underlying198
 a76:=Tryz.isAgg198
 z76:=Tryz.sizeOf198
 v76:=Tryz.zeroValue198
 t77:=Tryz.underlying199
 a77:=Tryz.isAgg199
 z77:=Tryz.sizeOf199
 v77:=Tryz.zeroValue199}
open Go.RowKit Go.Lib Go.Sort in
theorem Tryz.slices_SortFunc_none {α:Type} [Inhabited α] (p:Option Addr) (cap:Nat) (fv:Value) (w:World):
 Calls Tryz.prog 114 #[.slice p 0 cap,fv] w fun e w'=>e= .returned (.tuple #[])/\ w'=w:=AnyF.slices_SortFunc_none Tryz.laysSlF06_f82 p cap fv w
def Tryz.laysSlF6_f82_ren:Go.Shelf.Ren:=⟨fun|6=>114|15=>129|14=>128|28=>144|29=>145|20=>136|21=>137|22=>138|23=>139|24=>140|25=>141|26=>142|27=>143|46=>147|47=>148|48=>149|49=>150|50=>151|57=>152|n=>n,fun|22=>38|24=>9|25=>105|3=>3|39=>122|0=>0|53=>190|55=>141|4=>4|46=>184|45=>183|50=>67|5=>5|9=>9|66=>192|70=>196|76=>198|77=>199|n=>n,fun|n=>n⟩
theorem Tryz.laysSlF6_f82:Go.Proofs.SlLaysF.n6 Tryz.prog Tryz.laysSlF6_f82_ren:={
 mixed:=by kernel_rfl
 f6:=⟨Tryz.f114.name,by decide,Tryz.func114.trans (congrArg some (by kernel_rfl))⟩
 f14:=⟨Tryz.f128.name,by decide,Tryz.func128.trans (congrArg some (by kernel_rfl))⟩
 f15:=Tryz.func129.trans (congrArg some (by kernel_rfl))
 f20:=⟨Tryz.f136.name,by decide,Tryz.func136.trans (congrArg some (by kernel_rfl))⟩
 f21:=⟨Tryz.f137.name,by decide,Tryz.func137.trans (congrArg some (by kernel_rfl))⟩
 f22:=⟨Tryz.f138.name,by decide,Tryz.func138.trans (congrArg some (by kernel_rfl))⟩
 f23:=⟨Tryz.f139.name,by decide,Tryz.func139.trans (congrArg some (by kernel_rfl))⟩
 f24:=⟨Tryz.f140.name,by decide,Tryz.func140.trans (congrArg some (by kernel_rfl))⟩
 f25:=⟨Tryz.f141.name,by decide,Tryz.func141.trans (congrArg some (by kernel_rfl))⟩
 f26:=⟨Tryz.f142.name,by decide,Tryz.func142.trans (congrArg some (by kernel_rfl))⟩
 f27:=⟨Tryz.f143.name,by decide,Tryz.func143.trans (congrArg some (by kernel_rfl))⟩
 f28:=Tryz.func144.trans (congrArg some (by kernel_rfl))
 f29:=Tryz.func145.trans (congrArg some (by kernel_rfl))
 f46:=⟨Tryz.f147.name,by decide,Tryz.func147.trans (congrArg some (by kernel_rfl))⟩
 f47:=Tryz.func148.trans (congrArg some (by kernel_rfl))
 f48:=Tryz.func149.trans (congrArg some (by kernel_rfl))
 f49:=⟨Tryz.f150.name,by decide,Tryz.func150.trans (congrArg some (by kernel_rfl))⟩
 f50:=⟨Tryz.f151.name,by decide,Tryz.func151.trans (congrArg some (by kernel_rfl))⟩
 f57:=⟨Tryz.f152.name,by decide,Tryz.func152.trans (congrArg some (by kernel_rfl))⟩
 t0:=Tryz.underlying0
 a0:=Tryz.isAgg0
 z0:=Tryz.sizeOf0
 v0:=Tryz.zeroValue0
 t3:=Tryz.underlying3
 a3:=Tryz.isAgg3
 z3:=Tryz.sizeOf3
 v3:=Tryz.zeroValue3
 t4:=Tryz.underlying4
 a4:=Tryz.isAgg4
 z4:=Tryz.sizeOf4
 v4:=Tryz.zeroValue4
 t5:=Tryz.underlying5
 a5:=Tryz.isAgg5
 z5:=Tryz.sizeOf5
 v5:=Tryz.zeroValue5
 t9:=Tryz.underlying9
 a9:=Tryz.isAgg9
 z9:=Tryz.sizeOf9
 v9:=Tryz.zeroValue9
 t22:=Tryz.underlying38
 a22:=Tryz.isAgg38
 z22:=Tryz.sizeOf38
 v22:=Tryz.zeroValue38
 a24:=Tryz.isAgg9
 z24:=Tryz.sizeOf9
 t25:=Tryz.underlying105
 a25:=Tryz.isAgg105
 z25:=Tryz.sizeOf105
 v25:=Tryz.zeroValue105
 t39:=Tryz.underlying122
 a39:=Tryz.isAgg122
 z39:=Tryz.sizeOf122
 v39:=Tryz.zeroValue122
 t45:=Tryz.underlying183
 a45:=Tryz.isAgg183
 z45:=Tryz.sizeOf183
 v45:=Tryz.zeroValue183
 t46:=Tryz.underlying184
 a46:=Tryz.isAgg184
 z46:=Tryz.sizeOf184
 v46:=Tryz.zeroValue184
 t50:=Tryz.underlying67
 a50:=Tryz.isAgg67
 z50:=Tryz.sizeOf67
 v50:=Tryz.zeroValue67
 t53:=Tryz.underlying190
 a53:=Tryz.isAgg190
 z53:=Tryz.sizeOf190
 v53:=Tryz.zeroValue190
 t55:=Tryz.underlying141
 a55:=Tryz.isAgg141
 z55:=Tryz.sizeOf141
 v55:=Tryz.zeroValue141
 t66:=Tryz.underlying192
 a66:=Tryz.isAgg192
 z66:=Tryz.sizeOf192
 v66:=Tryz.zeroValue192
 t70:=Tryz.underlying196
 a70:=Tryz.isAgg196
 z70:=Tryz.sizeOf196
 v70:=Tryz.zeroValue196
 t76:=Tryz.underlying198
 a76:=Tryz.isAgg198
 z76:=Tryz.sizeOf198
 v76:=Tryz.zeroValue198
 t77:=Tryz.underlying199
 a77:=Tryz.isAgg199
 z77:=Tryz.sizeOf199
 v77:=Tryz.zeroValue199}
open Go.RowKit Go.Lib Go.Sort in
theorem Tryz.slices_SortFunc_total {α:Type} [Inhabited α] (enc:α->Value) (h1:OneCell enc) (cf:α->α->Int) (hO:SWO (ltOf cf)) (g:Nat) (cb:Array Value) (blk off cap:Nat) (d:Array α) (w:World) (eg: ∀args w,(callFunc g args).run Tryz.prog w= .ok (.enter g args) w) (hcmp:CmpLays1 Tryz.prog g cb enc cf blk off d.size w) (hH:Holds enc w blk off d) (hblk:blk<w.heap.size) (hsz:d.size<4611686018427387904) (hT: ∀x y,(ltOf cf) x y=false->(ltOf cf) y x=false->x=y):
 Calls Tryz.prog 114 #[.slice (some ⟨blk,off,none⟩) d.size cap,.func (.func g) #[] cb] w fun e w'=>
  e= .returned (.tuple #[])/\ ∃n os,w'=sortWorld enc w blk off n (d.toList.mergeSort fun x y=> !(ltOf cf) y x).toArray os:=Any.slices_SortFunc_total Tryz.laysSlF6_f82 enc h1 cf hO g cb blk off cap d w eg hcmp hH hblk hsz hT
end Go.Proofs
namespace Go.Proofs.YtkfjfgabianfhaaGreat
open Go.Sx
open Go.RowKit Go.Lib Go.Sort
section
variable {P:Program} {base:Nat} {ψ:Psi} {S:Nat→Prop} {w:World} {a:Act}
theorem Rel.put {α:Type} [Inhabited α] (enc:α->Value) (hsc: ∀x,Scalar (enc x)) {ts:List (Nat×Tm)} {h:List (Nat×Blk)} {n m k b mm ln:Nat} {f:Nat->List DV} (hr:Rel P base ψ S w ⟨ts,h,n,m⟩ a) (hψ:ψ k=some (.at b mm))
 (hb:lookB h k= .row 1 ln f) (d:Array α) (hd:d.size<=ln) (q:Nat) (os:Array Obj):
 Rel P base ψ S (Sort.grow (putRow enc (Sort.ahead w q) b 0 d) os) ⟨ts,(k,.row 1 ln (fun i=>if i<d.size then [.v (enc d[i]!)] else f i))::h,n,m⟩ a/\
  Ext base ψ S w ψ S (Sort.grow (putRow enc (Sort.ahead w q) b 0 d) os):=by
 have hbk:=hr.sim.blk k _ hψ
 simp only [hb] at hbk;obtain ⟨arr,e,g1,g2,g3,g4,g5⟩:=hbk
 have hheap:(putRow enc (Sort.ahead w q) b 0 d).heap=w.heap.modify b (onCells (putCells enc 0 d)):=rfl
 have hnew:(putRow enc (Sort.ahead w q) b 0 d).heap[b]? =some (.cells (putCells enc 0 d arr) e (0,0)):=by
  rw [hheap,Array.getElem?_modify,if_pos rfl,g1];rfl
 obtain ⟨r1,r2⟩:=hr.write (w':=putRow enc (Sort.ahead w q) b 0 d) (blk:= .row 1 ln (fun i=>if i<d.size then [.v (enc d[i]!)] else f i)) hψ (by simp only [hb];trivial) rfl rfl rfl (by rw [hheap];simp)
  (fun b' hb'=>by rw [hheap,Array.getElem?_modify,if_neg (fun h=>hb' h.symm)]) (fun hl=>by
   refine ⟨putCells enc 0 d arr,e,hnew,by simp [putCells,g2],by omega,fun i hi=> ?_,fun i j hi hj=> ?_⟩
   . dsimp only;split
     . rfl
     . exact g4 i hi
   . have hj0:j=0:=by omega
     subst hj0;have hlt:i<arr.size:=by omega
     have hget:(putCells enc 0 d arr).getD (i*1+0) undef=if i<d.size then enc d[i]! else arr.getD (i*1+0) undef:=by
      rw [Array.getD_eq_getD_getElem?,Array.getD_eq_getD_getElem?];simp only [putCells,Nat.mul_one,Nat.add_zero,Array.getElem?_mapIdx,Array.getElem?_eq_getElem hlt,Option.map_some,Option.getD_some,Nat.zero_le,true_and,Nat.zero_add,Nat.sub_zero]
     rw [hget];dsimp only;split
     . exact .v (hsc _)
     . exact (g5 i 0 hi hj).later hl)
 obtain ⟨r3,r4⟩:=r1.ext0 (S':=S) (w':=Sort.grow (putRow enc (Sort.ahead w q) b 0 d) os) ⟨rfl,rfl,rfl,by simp [Sort.grow],fun b' hb'=>by
  show ((putRow enc (Sort.ahead w q) b 0 d).heap++os)[b']? =_
  rw [Array.getElem?_append_left hb'],fun _ h=>h,fun _ h=> .inl h,fun b' hb'=>by
  have h1:=r1.sim.sdom b' hb'
  have h2:(Sort.grow (putRow enc (Sort.ahead w q) b 0 d) os).heap.size=(putRow enc (Sort.ahead w q) b 0 d).heap.size+os.size:=by simp [Sort.grow]
  omega⟩
 exact ⟨r3,r2.trans r4⟩
theorem row_holds {ts:List (Nat×Tm)} {h:List (Nat×Blk)} {n m k b mm ln len:Nat} {f:Nat->List DV} (hr:Rel P base ψ S w ⟨ts,h,n,m⟩ a) (hψ:ψ k=some (.at b mm))
 (hb:lookB h k= .row 1 ln f) (hle:len<=ln) (hf: ∀i,i<len->f i= [st (gT (f i))]):Holds encStr w b 0 ((gN len f).map fun s=>s.data.toList).toArray:=by
 have hbk:=hr.sim.blk k _ hψ
 simp only [hb] at hbk;obtain ⟨arr,e,g1,g2,g3,g4,g5⟩:=hbk
 intro j hj;have hj2:j<len:=by simpa [gN] using hj
 have h5:=g5 j 0 (by omega) (by omega)
 rw [hf j hj2] at h5;have hlt:j<arr.size:=by omega
 have hv:arr[j]? =some (.string (gT (f j))):=by
  rw [Array.getElem?_eq_getElem hlt];have e1:arr.getD (j*1+0) undef=arr[j]:=by rw [Array.getD_eq_getD_getElem?,Nat.mul_one,Nat.add_zero,Array.getElem?_eq_getElem hlt];rfl
  rw [e1] at h5
  generalize arr[j]=v at h5
  have h5:RepD S w (st (gT (f j))) v:=h5
  cases h5;rfl
 refine ⟨?_, ?_⟩
 . rw [Nat.zero_add,cell_at g1,hv]
   congr 1
   rw [getElem!_pos _ j hj];simp [gN,encStr]
 . simp [World.frozen?,g1]
theorem row_lt {ts:List (Nat×Tm)} {h:List (Nat×Blk)} {n m k b mm:Nat} (hr:Rel P base ψ S w ⟨ts,h,n,m⟩ a) (hψ:ψ k=some (.at b mm)):b<w.heap.size:=hr.sim.pdom k b mm hψ
theorem Rel.empty {ts:List (Nat×Tm)} {h:List (Nat×Blk)} {n m k ln:Nat} {f:Nat->List DV} (hr:Rel P base ψ S w ⟨ts,h,n,m⟩ a) (hb:lookB h k= .row 1 ln f) (g:Nat->List DV):
 Rel P base ψ S w ⟨ts,(k,.row 1 ln fun i=>if i<0 then g i else f i)::h,n,m⟩ a:=by
 have e:(fun i=>if i<0 then g i else f i)=f:=by funext i;simp
 rw [e];have hlook: ∀j,lookB ((k,.row 1 ln f)::h) j=lookB h j:=by
  intro j;rw [lookB_cons];split
  . rename_i e;subst e;exact hb.symm
  . rfl
 refine ⟨hr.bas,⟨hr.sim.dom,fun j l hj=>by rw [hlook];exact hr.sim.blk j l hj,fun j j' b m1 m2 h1 h2 l1 l2=>hr.sim.inj j j' b m1 m2 h1 h2 (by simpa only [hlook] using l1) (by simpa only [hlook] using l2),
  fun j b m1 h1 l1=>hr.sim.dis j b m1 h1 (by simpa only [hlook] using l1),hr.sim.pdom,hr.sim.sdom⟩,hr.lim,hr.defers,hr.tmps⟩
end
def bS (l:List UInt8):ByteArray:=⟨l.toArray⟩
def cfL (x y:List UInt8):Int:=Lib.compareBytes x y
theorem cfL_lt: ∀(x y:List UInt8),(cfL x y<0)↔x<y
 | [],[]=>by simp [cfL,Lib.compareBytes]
 | [],_::_=>by simp [cfL,Lib.compareBytes]
 |_::_,[]=>by simp [cfL,Lib.compareBytes]
 |a::x,b::y=>by
  have ih:=cfL_lt x y
  unfold cfL at ih⊢
  unfold Lib.compareBytes;rw [List.cons_lt_cons_iff];by_cases h1:a<b
  . simp [h1]
  . by_cases h2:b<a
    . have hne:a≠b:=fun e=>by subst e;exact h1 h2
      simp [h1,h2,hne]
    . have he:a=b:=by
       have h1:=UInt8.not_lt.1 h1
       have h2:=UInt8.not_lt.1 h2
       exact UInt8.le_antisymm h2 h1
      subst he;simp [h1,ih]
theorem ltOf_cfL (x y:List UInt8):ltOf cfL x y=decide (x<y):=by
 unfold ltOf;rw [Bool.eq_iff_iff];simp only [decide_eq_true_eq];exact cfL_lt x y
theorem swoL:SWO (ltOf cfL) where
 irrefl x:=by rw [ltOf_cfL];simpa using List.lt_irrefl x
 trans x y z h1 h2:=by
  rw [ltOf_cfL] at*
  simp only [decide_eq_true_eq] at*
  exact List.lt_trans h1 h2
 ntrans x y z h1 h2:=by
  rw [ltOf_cfL] at*
  simp only [decide_eq_false_iff_not,List.not_lt] at*
  exact List.le_trans h2 h1
theorem totL (x y:List UInt8) (h1:ltOf cfL x y=false) (h2:ltOf cfL y x=false):x=y:=by
 rw [ltOf_cfL] at*
 simp only [decide_eq_false_iff_not,List.not_lt] at*
 exact List.le_antisymm h2 h1
theorem closureOf (x y:List UInt8) (W:World):Calls Tryz.prog 115 #[encStr x,encStr y] W fun e w'=>e= .returned (.int .i64 (cfL x y))/\ ∃q,w'=W.drewN q:=by
 have hcon:=Tryz.strings_Compare (bS x) (bS y) W
 unfold cfL;have e1:(bS x).data.toList=x:=rfl
 have e2:(bS y).data.toList=y:=rfl
 rw [e1,e2] at hcon;unfold bS at hcon
 generalize Lib.compareBytes x y=r at hcon⊢
 go_enter Tryz.func115,Tryz.ntmps115
 go_wp2_with (go_at_call 59;refine hcon.mono ?_;rintro e w' ⟨rfl,rfl⟩)
 go_ret
 exact ⟨rfl,0,rfl⟩
def sortL (l:List ByteArray):List (List UInt8):=(l.map fun s=>s.data.toList).mergeSort fun x y=> !(ltOf cfL) y x
theorem sortL_length (l:List ByteArray):(sortL l).length=l.length:=by simp [sortL]
theorem fn_plain {P:Program} {ψ:Psi} {S:Nat->Prop} {w:World} {f:Nat} {v:Value} (h:RepVa P ψ S w (.c (.fn f [])) v):v= .func (.func f) #[] #[]:=by
 obtain ⟨vs,rfl,h⟩:=h
 have:vs= #[]:=by
  apply Array.ext'
  generalize vs.toList=l at h
  cases l with
  |nil=>rfl
  |cons _ _=>exact h.elim
 rw [this]
theorem acall_sort {base:Nat} {k len ln:Nat} {f:Nat->List DV} {ts:List (Nat×Tm)} {h:List (Nat×Blk)} {n m:Nat} {K:Tm->St->Prop} (hb:lookB h k= .row 1 ln f) (hle:len<=ln) (hf: ∀i,i<len->f i= [st (gT (f i))]) (hn:len<4611686018427387904)
 (hk:K (.tup []) ⟨ts,(k,.row 1 ln fun i=>if i<len then [.v (encStr (sortL (gN len f)).toArray[i]!)] else f i)::h,n,m⟩):ACall Tryz.prog base 114 [.c (.osl k 1 0 len),.c (.fn 115 [])] ⟨ts,h,n,m⟩ K:=by
 refine ⟨fun ψ S w a vals hrel hvals=> ?_⟩
 match vals,hvals with
 | [v1,v2],⟨hv1,hv2,_⟩=>
   have hv2:=fn_plain hv2
   subst hv2;refine .inl ⟨callable_of Tryz.func114 rfl rfl, ?_⟩
   have none0: ∀p c,len=0->v1= .slice p 0 c->Calls Tryz.prog 114 [v1,.func (.func 115) #[] #[]].toArray w fun e w'=> ∃r st' v ψ' S',e= .returned v/\ K r st'/\ Rel Tryz.prog base ψ' S' w' st' a/\ RepT Tryz.prog ψ' S' w' r v/\ Ext base ψ S w ψ' S' w':=by
    intro p c h0 hv;subst h0;subst hv
    refine (Tryz.slices_SortFunc_none (α:=List UInt8) p c _ w).mono ?_
    rintro e w' ⟨rfl,rfl⟩
    exact ⟨_,_,_,ψ,S,rfl,hk,Rel.empty hrel hb _,⟨#[],rfl,trivial⟩,Ext.refl _ _ _ _⟩
   rcases hv1 with ⟨_,h0,a0,hv⟩|⟨b,mm,c,off,h1,hv,h2,h3⟩
   . exact none0 a0 0 h0 hv
   . by_cases h0:len=0
     . exact none0 (some ⟨b,off,none⟩) c h0 (by rw [hv,h0])
     . obtain ⟨hoff,_⟩:=h3 (by omega)
       have hoff:off=0:=by omega
       subst hoff;have hsz:((gN len f).map fun s=>s.data.toList).toArray.size=len:=by simp [gN]
       have hH:=row_holds hrel h1 hb hle hf
       have hS:=Tryz.slices_SortFunc_total encStr (fun _=>rfl) cfL swoL 115 #[] b 0 c ((gN len f).map fun s=>s.data.toList).toArray w (enters_of Tryz.func115 (by kernel_rfl) rfl)
        (CmpReads.lays (fun _ _ _ _ x y=>closureOf x y _)) hH (row_lt hrel h1) (by rw [hsz];exact hn) totL
       rw [hsz] at hS;subst hv;refine hS.mono ?_
       rintro e w' ⟨rfl,q,os,rfl⟩
       have hd:(((gN len f).map fun s=>s.data.toList).toArray.toList.mergeSort fun x y=> !(ltOf cfL) y x).toArray.size=len:=by simp [gN]
       obtain ⟨r1,r2⟩:=Rel.put encStr (fun _=>trivial) hrel h1 hb (((gN len f).map fun s=>s.data.toList).toArray.toList.mergeSort fun x y=> !(ltOf cfL) y x).toArray (by rw [hd];exact hle) q os
       rw [hd] at r1;exact ⟨_,_,_,ψ,S,rfl,hk,r1,⟨#[],rfl,trivial⟩,r2⟩
theorem compact_le (zs:List (List UInt8)):(Lib.compact zs).length<=zs.length:=by
 unfold Lib.compact Lib.compactUpTo;rw [List.length_map];exact Nat.le_trans (List.length_filter_le _ _) (by simp)
def compL (l:List ByteArray):List (List UInt8):=Lib.compact (l.map fun s=>s.data.toList)
def compRow (l:List ByteArray):List (List UInt8):=compL l++List.replicate (l.length-(compL l).length) []
theorem acall_compact {base:Nat} {k len ln:Nat} {f:Nat->List DV} {ts:List (Nat×Tm)} {h:List (Nat×Blk)} {n m:Nat} {K:Tm->St->Prop} (hb:lookB h k= .row 1 ln f) (hle:len<=ln) (hf: ∀i,i<len->f i= [st (gT (f i))]) (hn:len<4611686018427387904)
 (hk:K (.va (.c (.osl k 1 0 (compL (gN len f)).length))) ⟨ts,(k,.row 1 ln fun i=>if i<len then [.v (encStr (compRow (gN len f)).toArray[i]!)] else f i)::h,n,m⟩):ACall Tryz.prog base 116 [.c (.osl k 1 0 len)] ⟨ts,h,n,m⟩ K:=by
 refine ⟨fun ψ S w a vals hrel hvals=> ?_⟩
 match vals,hvals with
 | [v1],⟨hv1,_⟩=>
   refine .inl ⟨callable_of Tryz.func116 rfl rfl, ?_⟩
   have hcl:(compL (gN len f)).length<=len:=by
    have:=compact_le ((gN len f).map fun s=>s.data.toList)
    simpa [compL,gN] using this
   have none0: ∀p c,len=0->v1= .slice p 0 c->RepVa Tryz.prog ψ S w (.c (.osl k 1 0 0)) v1->Calls Tryz.prog 116 [v1].toArray w fun e w'=> ∃r st' v ψ' S',e= .returned v/\ K r st'/\ Rel Tryz.prog base ψ' S' w' st' a/\ RepT Tryz.prog ψ' S' w' r v/\ Ext base ψ S w ψ' S' w':=by
    intro p c h0 hv hrep;subst h0;subst hv
    refine (Tryz.slices_Compact_string_empty p c w).mono ?_
    rintro e w' ⟨rfl,rfl⟩
    have e0:(compL (gN 0 f)).length=0:=by omega
    rw [e0] at hk;exact ⟨_,_,_,ψ,S,rfl,hk,Rel.empty hrel hb _,hrep,Ext.refl _ _ _ _⟩
   rcases hv1 with ⟨hvirt,h0,a0,hv⟩|⟨b,mm,c,off,h1,hv,h2,h3⟩
   . exact none0 a0 0 h0 hv (.inl ⟨hvirt,rfl,a0,hv⟩)
   . by_cases h0:len=0
     . exact none0 (some ⟨b,off,none⟩) c h0 (by rw [hv,h0]) (.inr ⟨b,mm,c,off,h1,by rw [hv,h0],Nat.zero_le _,h3⟩)
     . obtain ⟨hoff,hcm⟩:=h3 (by omega)
       have hoff:off=0:=by omega
       subst hoff;have hsz:((gN len f).map fun s=>s.data.toList).length=len:=by simp [gN]
       have hH:=row_holds hrel h1 hb hle hf
       have hS:=Tryz.slices_Compact_string b 0 c ((gN len f).map fun s=>s.data.toList) w hH (by rw [hsz];omega) (by rw [hsz];exact h2)
       rw [hsz] at hS;subst hv;refine hS.mono ?_
       rintro e w' ⟨rfl,q,rfl⟩
       have hd:(compRow (gN len f)).toArray.size=len:=by
        unfold compRow;simp [gN] at hcl⊢
        omega
       have hg:(gN len f).length=len:=by simp [gN]
       obtain ⟨r1,r2⟩:=Rel.put encStr (fun _=>trivial) hrel h1 hb (compRow (gN len f)).toArray (by rw [hd];exact hle) q #[]
       rw [hd] at r1;have hw:Sort.grow (putRow encStr (Sort.ahead w q) b 0 (compRow (gN len f)).toArray) #[]=putRow encStr (Sort.ahead w q) b 0 (Lib.compact ((gN len f).map fun (s:ByteArray)=>s.data.toList)++List.replicate (len-(Lib.compact ((gN len f).map fun (s:ByteArray)=>s.data.toList)).length) []).toArray:=by
        rw [grow_empty];unfold compRow compL;rw [hg]
       rw [hw] at r1 r2;exact ⟨_,_,_,ψ,S,rfl,hk,r1,.inr ⟨b,mm,c,0,h1,rfl,Nat.le_trans hcl h2,fun hc=>⟨rfl,hcm⟩⟩,r2⟩
end Go.Proofs.YtkfjfgabianfhaaGreat
namespace Go.Proofs.YtkfjfgabianfhaaGreat
open Go.Sx
open Go.RowKit Go.Lib Go.Sort
def ofS (l:List ByteArray):List ByteArray:=(compL ((sortL l).map bS)).map bS
theorem gT_st (x:ByteArray):gT [st x]=x:=rfl
theorem ofS_len (l:List ByteArray):(ofS l).length<=l.length:=by
 have:=compact_le (((sortL l).map bS).map fun s=>s.data.toList)
 simpa [ofS,compL,sortL_length] using this
theorem ofS_len2 (l:List ByteArray):(compL ((sortL l).map bS)).length=(ofS l).length:=by simp [ofS]
theorem gN_put {len:Nat} {L:List (List UInt8)} (hL:L.length=len) (f:Nat->List DV):gN len (fun i=>if i<len then [.v (encStr L.toArray[i]!)] else f i)=L.map bS:=by
 subst hL;unfold gN;apply List.ext_getElem
 . simp
 . intro i h1 h2;have h3:i<L.length:=by simpa using h2
   simp [h3,gT,encStr,bS]
theorem ofS_at {l:List ByteArray} {i:Nat} {M:List ByteArray} (hM:M=(sortL l).map bS) (hi:i<(compL M).length): [DV.v (encStr (compRow M).toArray[i]!)]= [st (atS (ofS l) i)]:=by
 subst hM;have h2:i<(compRow ((sortL l).map bS)).length:=by unfold compRow;simp;omega
 unfold ofS atS;simp only [List.getD_eq_getElem?_getD,List.getElem?_map,List.getElem?_eq_getElem hi,Option.map_some,Option.getD_some];simp only [List.getElem!_toArray];rw [getElem!_pos _ i h2];simp only [compRow,List.getElem_append_left hi];rfl
def FNClone:List Ar->Option Rs
 | [.c (.d (.lst 1 n0 f0))]=>some ⟨(n0*16<=140737488351232/\ ∀i,i<n0->f0 i= [st (gT (f0 i))]),.va (.c (.ow 1 n0 fun i=> [st (gT (f0 i))])),[]⟩
 |_=>none
theorem fcNClone:FC Tryz.prog 113 FNClone:=by
 intro xs pre r us h hp;unfold FNClone at h;split at h
 . rename_i n0 f0
   cases h;have hp0:=hp
   refine FCat.of_eq (as':= [.c (.d (.lst 1 n0 fun i=> [st (gT (f0 i))]))]) ?_ rfl rfl ?_
   . repeat' (first|exact trivial|exact rfl|refine ⟨?_, ?_⟩|fail)
     all_goals first|exact hp0.2|exact hp1.2|exact hp2.2|(intro i hi;exact (hp0.2 i hi).1)|(intro i hi;exact (hp1.2 i hi).1)|(intro i hi;exact (hp2.2 i hi).1)|grind
   refine fcat tys_ok (l:= []) trivial Tryz.func113 rfl (by kernel_rfl) false ?_
   repeat' (first|exact trivial|refine ⟨?_, ?_⟩|intro _)
   all_goals first|(with_reducible apply qq)|(conv=>whnf)
   all_goals first|omega|(simp_all;done)|(simp [appRow];done)|exact ‹_=true->_› ‹_›
 . cases h
def FNOf:List Ar->Option Rs
 | [.c (.d (.v (.bool b0))),.c (.d (.lst 1 n1 f1))]=>some ⟨(n1*16<=140737488351232/\ ∀i,i<n1->f1 i= [st (gT (f1 i))]),.va (Ns.ar (⟨b0,ofS (gN n1 f1)⟩)),[]⟩
 |_=>none
theorem fcNOf:FC Tryz.prog 98 FNOf:=by
 intro xs pre r us h hp;unfold FNOf at h;split at h
 . rename_i b0 n1 f1
   cases h;have hp0:=hp
   refine FCat.of_eq (as':= [.c (.d (.v (.bool b0))),.c (.d (.lst 1 n1 fun i=> [st (gT (f1 i))]))]) ?_ rfl rfl ?_
   . repeat' (first|exact trivial|exact rfl|refine ⟨?_, ?_⟩|fail)
     all_goals first|exact hp0.2|exact hp1.2|exact hp2.2|(intro i hi;exact (hp0.2 i hi).1)|(intro i hi;exact (hp1.2 i hi).1)|(intro i hi;exact (hp2.2 i hi).1)|grind
   refine fcat tys_ok (l:= [(113,⟨[],FNClone⟩)]) ⟨fcNClone,trivial⟩ Tryz.func98 rfl (by kernel_rfl) true ?_
   repeat' (first|exact trivial|refine ⟨?_, ?_⟩|intro _)
   all_goals first|(with_reducible apply qq)|(conv=>whnf)
   all_goals first|exact hp0.1|rfl|refine acall_sort rfl (Nat.le_refl _) (fun _ _=>rfl) (by omega) ?_
   refine acall_compact rfl (Nat.le_refl _) (fun i hi=>by simp [hi,gT,encStr]) (by omega) ?_
   repeat' (first|exact trivial|refine ⟨?_, ?_⟩|intro _)
   all_goals first|(with_reducible apply qq)|(conv=>whnf)
   all_goals (have hE:=gN_put (len:=n1) (L:=sortL (gN n1 f1)) (by rw [sortL_length,gN_length]) (fun i=> [st (gT (f1 i))]))
   all_goals (try simp only [gN_canon,gT_st,hE,ofS_len2])
   all_goals (have hL:=ofS_len (gN n1 f1);rw [gN_length] at hL)
   all_goals first|omega|skip
   rename_i i hi
   simp only [gN_canon,gT_st,hE,ofS_len2] at hi;have e0:0+Int.toNat 0+i=i:=by simp
   rw [e0,if_pos (by omega)];exact ofS_at rfl (by rw [ofS_len2];omega)
 . cases h
def FNClean:List Ar->Option Rs
 | [.agg [.d (.v (.bool b0)),.d (.lst 1 n0 f0)]]=>some ⟨(n0*16<=140737488351232/\ ∀i,i<n0->f0 i= [st (gT (f0 i))]),.va (Ns.ar (⟨b0,ofS (gN n0 f0)⟩)),[]⟩
 |_=>none
theorem fcNClean:FC Tryz.prog 91 FNClean:=by
 intro xs pre r us h hp;unfold FNClean at h;split at h
 . rename_i b0 n0 f0
   cases h;have hp0:=hp
   refine FCat.of_eq (as':= [.agg [.d (.v (.bool b0)),.d (.lst 1 n0 fun i=> [st (gT (f0 i))])]]) ?_ rfl rfl ?_
   . repeat' (first|exact trivial|exact rfl|refine ⟨?_, ?_⟩|fail)
     all_goals first|exact hp0.2|exact hp1.2|exact hp2.2|(intro i hi;exact (hp0.2 i hi).1)|(intro i hi;exact (hp1.2 i hi).1)|(intro i hi;exact (hp2.2 i hi).1)|grind
   refine fcat tys_ok (l:= [(98,⟨[],FNOf⟩)]) ⟨fcNOf,trivial⟩ Tryz.func91 rfl (by kernel_rfl) true ?_
   repeat' (first|exact trivial|refine ⟨?_, ?_⟩|intro _)
   all_goals first|(with_reducible apply qq)|(conv=>whnf)
   all_goals first|exact hp0.1|rfl
 . cases h
end Go.Proofs.YtkfjfgabianfhaaGreat
