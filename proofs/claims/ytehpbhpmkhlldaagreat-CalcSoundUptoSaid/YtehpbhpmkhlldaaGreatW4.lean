/- The types of this seat as a table for the symbolic executor: each entry is what the program has. -/
import Derived.Test.YtehpbhpmkhlldaaGreatW3
import Derived.Test.YtehpbhpmkhlldaaGreatProg
import Derived.Laws.Externs
set_option linter.all false
set_option maxHeartbeats 8000000
set_option maxRecDepth 100000
namespace Go.Sx
theorem qa {a b:Int} (h:a<=b):a<=b:=h
theorem qb {a b:Int} (h:a<b):a<b:=h
theorem qc {a b:Nat} (h:a<=b):a<=b:=h
theorem qd {a b:Nat} (h:a<b):a<b:=h
end Go.Sx
namespace Go.Proofs.YtehpbhpmkhlldaaGreat
open Go.Sx
set_option maxRecDepth 100000
theorem ty1:tyB Tryz.prog 1 Tryz.t1 Tryz.t1:=⟨by kernel_rfl,by kernel_rfl,by kernel_rfl⟩
theorem ty2:tyB Tryz.prog 2 Tryz.t2 Tryz.t2:=⟨by kernel_rfl,by kernel_rfl,by kernel_rfl⟩
theorem ty3:tyB Tryz.prog 3 Tryz.t3 Tryz.t3:=⟨by kernel_rfl,by kernel_rfl,by kernel_rfl⟩
theorem ty4:tyB Tryz.prog 4 Tryz.t4 Tryz.t4:=⟨by kernel_rfl,by kernel_rfl,by kernel_rfl⟩
theorem ty5:tyB Tryz.prog 5 Tryz.t5 Tryz.t5:=⟨by kernel_rfl,by kernel_rfl,by kernel_rfl⟩
theorem ty6:tyB Tryz.prog 6 Tryz.t6 Tryz.t5:=⟨by kernel_rfl,by kernel_rfl,by kernel_rfl⟩
theorem ty7:tyB Tryz.prog 7 Tryz.t7 Tryz.t7:=⟨by kernel_rfl,by kernel_rfl,by kernel_rfl⟩
theorem ty8:tyB Tryz.prog 8 Tryz.t8 Tryz.t7:=⟨by kernel_rfl,by kernel_rfl,by kernel_rfl⟩
theorem ty9:tyB Tryz.prog 9 Tryz.t9 Tryz.t9:=⟨by kernel_rfl,by kernel_rfl,by kernel_rfl⟩
theorem ty10:tyB Tryz.prog 10 Tryz.t10 Tryz.t9:=⟨by kernel_rfl,by kernel_rfl,by kernel_rfl⟩
theorem ty11:tyB Tryz.prog 11 Tryz.t11 Tryz.t9:=⟨by kernel_rfl,by kernel_rfl,by kernel_rfl⟩
theorem ty12:tyB Tryz.prog 12 Tryz.t12 Tryz.t12:=⟨by kernel_rfl,by kernel_rfl,by kernel_rfl⟩
theorem ty13:tyB Tryz.prog 13 Tryz.t13 Tryz.t13:=⟨by kernel_rfl,by kernel_rfl,by kernel_rfl⟩
theorem ty14:tyB Tryz.prog 14 Tryz.t14 Tryz.t13:=⟨by kernel_rfl,by kernel_rfl,by kernel_rfl⟩
theorem ty15:tyB Tryz.prog 15 Tryz.t15 Tryz.t15:=⟨by kernel_rfl,by kernel_rfl,by kernel_rfl⟩
theorem ty16:tyB Tryz.prog 16 Tryz.t16 Tryz.t16:=⟨by kernel_rfl,by kernel_rfl,by kernel_rfl⟩
theorem ty17:tyB Tryz.prog 17 Tryz.t17 Tryz.t17:=⟨by kernel_rfl,by kernel_rfl,by kernel_rfl⟩
theorem ty18:tyB Tryz.prog 18 Tryz.t18 Tryz.t18:=⟨by kernel_rfl,by kernel_rfl,by kernel_rfl⟩
theorem ty19:tyB Tryz.prog 19 Tryz.t19 Tryz.t18:=⟨by kernel_rfl,by kernel_rfl,by kernel_rfl⟩
theorem ty20:tyB Tryz.prog 20 Tryz.t20 Tryz.t20:=⟨by kernel_rfl,by kernel_rfl,by kernel_rfl⟩
theorem ty21:tyB Tryz.prog 21 Tryz.t21 Tryz.t21:=⟨by kernel_rfl,by kernel_rfl,by kernel_rfl⟩
theorem ty22:tyB Tryz.prog 22 Tryz.t22 Tryz.t22:=⟨by kernel_rfl,by kernel_rfl,by kernel_rfl⟩
theorem ty23:tyB Tryz.prog 23 Tryz.t23 Tryz.t22:=⟨by kernel_rfl,by kernel_rfl,by kernel_rfl⟩
theorem ty24:tyB Tryz.prog 24 Tryz.t24 Tryz.t24:=⟨by kernel_rfl,by kernel_rfl,by kernel_rfl⟩
theorem ty25:tyB Tryz.prog 25 Tryz.t25 Tryz.t24:=⟨by kernel_rfl,by kernel_rfl,by kernel_rfl⟩
theorem ty26:tyB Tryz.prog 26 Tryz.t26 Tryz.t26:=⟨by kernel_rfl,by kernel_rfl,by kernel_rfl⟩
theorem ty27:tyB Tryz.prog 27 Tryz.t27 Tryz.t27:=⟨by kernel_rfl,by kernel_rfl,by kernel_rfl⟩
theorem ty28:tyB Tryz.prog 28 Tryz.t28 Tryz.t27:=⟨by kernel_rfl,by kernel_rfl,by kernel_rfl⟩
theorem ty29:tyB Tryz.prog 29 Tryz.t29 Tryz.t29:=⟨by kernel_rfl,by kernel_rfl,by kernel_rfl⟩
theorem ty30:tyB Tryz.prog 30 Tryz.t30 Tryz.t29:=⟨by kernel_rfl,by kernel_rfl,by kernel_rfl⟩
theorem ty31:tyB Tryz.prog 31 Tryz.t31 Tryz.t31:=⟨by kernel_rfl,by kernel_rfl,by kernel_rfl⟩
theorem ty32:tyB Tryz.prog 32 Tryz.t32 Tryz.t31:=⟨by kernel_rfl,by kernel_rfl,by kernel_rfl⟩
theorem ty33:tyB Tryz.prog 33 Tryz.t33 Tryz.t33:=⟨by kernel_rfl,by kernel_rfl,by kernel_rfl⟩
theorem ty34:tyB Tryz.prog 34 Tryz.t34 Tryz.t34:=⟨by kernel_rfl,by kernel_rfl,by kernel_rfl⟩
theorem ty35:tyB Tryz.prog 35 Tryz.t35 Tryz.t35:=⟨by kernel_rfl,by kernel_rfl,by kernel_rfl⟩
theorem ty36:tyB Tryz.prog 36 Tryz.t36 Tryz.t36:=⟨by kernel_rfl,by kernel_rfl,by kernel_rfl⟩
theorem ty37:tyB Tryz.prog 37 Tryz.t37 Tryz.t37:=⟨by kernel_rfl,by kernel_rfl,by kernel_rfl⟩
theorem ty38:tyB Tryz.prog 38 Tryz.t38 Tryz.t38:=⟨by kernel_rfl,by kernel_rfl,by kernel_rfl⟩
theorem ty40:tyB Tryz.prog 40 Tryz.t40 Tryz.t40:=⟨by kernel_rfl,by kernel_rfl,by kernel_rfl⟩
theorem ty41:tyB Tryz.prog 41 Tryz.t41 Tryz.t41:=⟨by kernel_rfl,by kernel_rfl,by kernel_rfl⟩
theorem ty42:tyB Tryz.prog 42 Tryz.t42 Tryz.t42:=⟨by kernel_rfl,by kernel_rfl,by kernel_rfl⟩
theorem ty43:tyB Tryz.prog 43 Tryz.t43 Tryz.t42:=⟨by kernel_rfl,by kernel_rfl,by kernel_rfl⟩
theorem ty44:tyB Tryz.prog 44 Tryz.t44 Tryz.t44:=⟨by kernel_rfl,by kernel_rfl,by kernel_rfl⟩
theorem ty45:tyB Tryz.prog 45 Tryz.t45 Tryz.t45:=⟨by kernel_rfl,by kernel_rfl,by kernel_rfl⟩
theorem ty46:tyB Tryz.prog 46 Tryz.t46 Tryz.t46:=⟨by kernel_rfl,by kernel_rfl,by kernel_rfl⟩
theorem ty47:tyB Tryz.prog 47 Tryz.t47 Tryz.t47:=⟨by kernel_rfl,by kernel_rfl,by kernel_rfl⟩
theorem ty48:tyB Tryz.prog 48 Tryz.t48 Tryz.t48:=⟨by kernel_rfl,by kernel_rfl,by kernel_rfl⟩
theorem ty49:tyB Tryz.prog 49 Tryz.t49 Tryz.t49:=⟨by kernel_rfl,by kernel_rfl,by kernel_rfl⟩
theorem ty50:tyB Tryz.prog 50 Tryz.t50 Tryz.t50:=⟨by kernel_rfl,by kernel_rfl,by kernel_rfl⟩
theorem ty51:tyB Tryz.prog 51 Tryz.t51 Tryz.t51:=⟨by kernel_rfl,by kernel_rfl,by kernel_rfl⟩
theorem ty53:tyB Tryz.prog 53 Tryz.t53 Tryz.t53:=⟨by kernel_rfl,by kernel_rfl,by kernel_rfl⟩
theorem ty54:tyB Tryz.prog 54 Tryz.t54 Tryz.t54:=⟨by kernel_rfl,by kernel_rfl,by kernel_rfl⟩
theorem ty55:tyB Tryz.prog 55 Tryz.t55 Tryz.t55:=⟨by kernel_rfl,by kernel_rfl,by kernel_rfl⟩
theorem ty57:tyB Tryz.prog 57 Tryz.t57 Tryz.t57:=⟨by kernel_rfl,by kernel_rfl,by kernel_rfl⟩
theorem ty58:tyB Tryz.prog 58 Tryz.t58 Tryz.t58:=⟨by kernel_rfl,by kernel_rfl,by kernel_rfl⟩
theorem ty59:tyB Tryz.prog 59 Tryz.t59 Tryz.t59:=⟨by kernel_rfl,by kernel_rfl,by kernel_rfl⟩
theorem ty60:tyB Tryz.prog 60 Tryz.t60 Tryz.t60:=⟨by kernel_rfl,by kernel_rfl,by kernel_rfl⟩
theorem ty61:tyB Tryz.prog 61 Tryz.t61 Tryz.t60:=⟨by kernel_rfl,by kernel_rfl,by kernel_rfl⟩
theorem ty62:tyB Tryz.prog 62 Tryz.t62 Tryz.t62:=⟨by kernel_rfl,by kernel_rfl,by kernel_rfl⟩
theorem ty63:tyB Tryz.prog 63 Tryz.t63 Tryz.t63:=⟨by kernel_rfl,by kernel_rfl,by kernel_rfl⟩
theorem ty64:tyB Tryz.prog 64 Tryz.t64 Tryz.t64:=⟨by kernel_rfl,by kernel_rfl,by kernel_rfl⟩
theorem ty65:tyB Tryz.prog 65 Tryz.t65 Tryz.t65:=⟨by kernel_rfl,by kernel_rfl,by kernel_rfl⟩
theorem ty66:tyB Tryz.prog 66 Tryz.t66 Tryz.t66:=⟨by kernel_rfl,by kernel_rfl,by kernel_rfl⟩
theorem ty67:tyB Tryz.prog 67 Tryz.t67 Tryz.t66:=⟨by kernel_rfl,by kernel_rfl,by kernel_rfl⟩
theorem ty68:tyB Tryz.prog 68 Tryz.t68 Tryz.t68:=⟨by kernel_rfl,by kernel_rfl,by kernel_rfl⟩
theorem ty69:tyB Tryz.prog 69 Tryz.t69 Tryz.t68:=⟨by kernel_rfl,by kernel_rfl,by kernel_rfl⟩
theorem ty70:tyB Tryz.prog 70 Tryz.t70 Tryz.t70:=⟨by kernel_rfl,by kernel_rfl,by kernel_rfl⟩
theorem ty71:tyB Tryz.prog 71 Tryz.t71 Tryz.t71:=⟨by kernel_rfl,by kernel_rfl,by kernel_rfl⟩
theorem ty72:tyB Tryz.prog 72 Tryz.t72 Tryz.t72:=⟨by kernel_rfl,by kernel_rfl,by kernel_rfl⟩
theorem ty73:tyB Tryz.prog 73 Tryz.t73 Tryz.t73:=⟨by kernel_rfl,by kernel_rfl,by kernel_rfl⟩
theorem ty74:tyB Tryz.prog 74 Tryz.t74 Tryz.t74:=⟨by kernel_rfl,by kernel_rfl,by kernel_rfl⟩
theorem ty75:tyB Tryz.prog 75 Tryz.t75 Tryz.t75:=⟨by kernel_rfl,by kernel_rfl,by kernel_rfl⟩
theorem ty76:tyB Tryz.prog 76 Tryz.t76 Tryz.t76:=⟨by kernel_rfl,by kernel_rfl,by kernel_rfl⟩
theorem ty77:tyB Tryz.prog 77 Tryz.t77 Tryz.t77:=⟨by kernel_rfl,by kernel_rfl,by kernel_rfl⟩
theorem ty78:tyB Tryz.prog 78 Tryz.t78 Tryz.t78:=⟨by kernel_rfl,by kernel_rfl,by kernel_rfl⟩
theorem ty79:tyB Tryz.prog 79 Tryz.t79 Tryz.t79:=⟨by kernel_rfl,by kernel_rfl,by kernel_rfl⟩
theorem ty80:tyB Tryz.prog 80 Tryz.t80 Tryz.t80:=⟨by kernel_rfl,by kernel_rfl,by kernel_rfl⟩
theorem ty81:tyB Tryz.prog 81 Tryz.t81 Tryz.t81:=⟨by kernel_rfl,by kernel_rfl,by kernel_rfl⟩
theorem ty82:tyB Tryz.prog 82 Tryz.t82 Tryz.t82:=⟨by kernel_rfl,by kernel_rfl,by kernel_rfl⟩
theorem ty83:tyB Tryz.prog 83 Tryz.t83 Tryz.t83:=⟨by kernel_rfl,by kernel_rfl,by kernel_rfl⟩
theorem ty84:tyB Tryz.prog 84 Tryz.t84 Tryz.t84:=⟨by kernel_rfl,by kernel_rfl,by kernel_rfl⟩
theorem ty85:tyB Tryz.prog 85 Tryz.t85 Tryz.t85:=⟨by kernel_rfl,by kernel_rfl,by kernel_rfl⟩
theorem ty86:tyB Tryz.prog 86 Tryz.t86 Tryz.t86:=⟨by kernel_rfl,by kernel_rfl,by kernel_rfl⟩
theorem ty87:tyB Tryz.prog 87 Tryz.t87 Tryz.t87:=⟨by kernel_rfl,by kernel_rfl,by kernel_rfl⟩
theorem ty88:tyB Tryz.prog 88 Tryz.t88 Tryz.t88:=⟨by kernel_rfl,by kernel_rfl,by kernel_rfl⟩
theorem ty89:tyB Tryz.prog 89 Tryz.t89 Tryz.t89:=⟨by kernel_rfl,by kernel_rfl,by kernel_rfl⟩
theorem ty90:tyB Tryz.prog 90 Tryz.t90 Tryz.t90:=⟨by kernel_rfl,by kernel_rfl,by kernel_rfl⟩
theorem ty91:tyB Tryz.prog 91 Tryz.t91 Tryz.t91:=⟨by kernel_rfl,by kernel_rfl,by kernel_rfl⟩
theorem ty92:tyB Tryz.prog 92 Tryz.t92 Tryz.t92:=⟨by kernel_rfl,by kernel_rfl,by kernel_rfl⟩
theorem ty93:tyB Tryz.prog 93 Tryz.t93 Tryz.t93:=⟨by kernel_rfl,by kernel_rfl,by kernel_rfl⟩
theorem ty95:tyB Tryz.prog 95 Tryz.t95 Tryz.t95:=⟨by kernel_rfl,by kernel_rfl,by kernel_rfl⟩
theorem ty96:tyB Tryz.prog 96 Tryz.t96 Tryz.t96:=⟨by kernel_rfl,by kernel_rfl,by kernel_rfl⟩
theorem ty97:tyB Tryz.prog 97 Tryz.t97 Tryz.t97:=⟨by kernel_rfl,by kernel_rfl,by kernel_rfl⟩
theorem ty98:tyB Tryz.prog 98 Tryz.t98 Tryz.t98:=⟨by kernel_rfl,by kernel_rfl,by kernel_rfl⟩
theorem ty99:tyB Tryz.prog 99 Tryz.t99 Tryz.t99:=⟨by kernel_rfl,by kernel_rfl,by kernel_rfl⟩
theorem ty100:tyB Tryz.prog 100 Tryz.t100 Tryz.t100:=⟨by kernel_rfl,by kernel_rfl,by kernel_rfl⟩
theorem ty101:tyB Tryz.prog 101 Tryz.t101 Tryz.t101:=⟨by kernel_rfl,by kernel_rfl,by kernel_rfl⟩
theorem ty102:tyB Tryz.prog 102 Tryz.t102 Tryz.t102:=⟨by kernel_rfl,by kernel_rfl,by kernel_rfl⟩
theorem ty103:tyB Tryz.prog 103 Tryz.t103 Tryz.t103:=⟨by kernel_rfl,by kernel_rfl,by kernel_rfl⟩
theorem ty104:tyB Tryz.prog 104 Tryz.t104 Tryz.t104:=⟨by kernel_rfl,by kernel_rfl,by kernel_rfl⟩
theorem ty105:tyB Tryz.prog 105 Tryz.t105 Tryz.t105:=⟨by kernel_rfl,by kernel_rfl,by kernel_rfl⟩
theorem ty106:tyB Tryz.prog 106 Tryz.t106 Tryz.t106:=⟨by kernel_rfl,by kernel_rfl,by kernel_rfl⟩
theorem ty107:tyB Tryz.prog 107 Tryz.t107 Tryz.t107:=⟨by kernel_rfl,by kernel_rfl,by kernel_rfl⟩
theorem ty108:tyB Tryz.prog 108 Tryz.t108 Tryz.t108:=⟨by kernel_rfl,by kernel_rfl,by kernel_rfl⟩
theorem ty109:tyB Tryz.prog 109 Tryz.t109 Tryz.t109:=⟨by kernel_rfl,by kernel_rfl,by kernel_rfl⟩
theorem ty110:tyB Tryz.prog 110 Tryz.t110 Tryz.t110:=⟨by kernel_rfl,by kernel_rfl,by kernel_rfl⟩
theorem ty111:tyB Tryz.prog 111 Tryz.t111 Tryz.t111:=⟨by kernel_rfl,by kernel_rfl,by kernel_rfl⟩
theorem ty112:tyB Tryz.prog 112 Tryz.t112 Tryz.t112:=⟨by kernel_rfl,by kernel_rfl,by kernel_rfl⟩
theorem ty113:tyB Tryz.prog 113 Tryz.t113 Tryz.t113:=⟨by kernel_rfl,by kernel_rfl,by kernel_rfl⟩
theorem ty114:tyB Tryz.prog 114 Tryz.t114 Tryz.t114:=⟨by kernel_rfl,by kernel_rfl,by kernel_rfl⟩
theorem ty115:tyB Tryz.prog 115 Tryz.t115 Tryz.t115:=⟨by kernel_rfl,by kernel_rfl,by kernel_rfl⟩
theorem ty116:tyB Tryz.prog 116 Tryz.t116 Tryz.t116:=⟨by kernel_rfl,by kernel_rfl,by kernel_rfl⟩
theorem ty117:tyB Tryz.prog 117 Tryz.t117 Tryz.t117:=⟨by kernel_rfl,by kernel_rfl,by kernel_rfl⟩
theorem ty118:tyB Tryz.prog 118 Tryz.t118 Tryz.t118:=⟨by kernel_rfl,by kernel_rfl,by kernel_rfl⟩
theorem ty119:tyB Tryz.prog 119 Tryz.t119 Tryz.t119:=⟨by kernel_rfl,by kernel_rfl,by kernel_rfl⟩
theorem ty120:tyB Tryz.prog 120 Tryz.t120 Tryz.t120:=⟨by kernel_rfl,by kernel_rfl,by kernel_rfl⟩
theorem ty122:tyB Tryz.prog 122 Tryz.t122 Tryz.t122:=⟨by kernel_rfl,by kernel_rfl,by kernel_rfl⟩
theorem ty123:tyB Tryz.prog 123 Tryz.t123 Tryz.t123:=⟨by kernel_rfl,by kernel_rfl,by kernel_rfl⟩
theorem ty124:tyB Tryz.prog 124 Tryz.t124 Tryz.t124:=⟨by kernel_rfl,by kernel_rfl,by kernel_rfl⟩
theorem ty125:tyB Tryz.prog 125 Tryz.t125 Tryz.t125:=⟨by kernel_rfl,by kernel_rfl,by kernel_rfl⟩
theorem ty127:tyB Tryz.prog 127 Tryz.t127 Tryz.t127:=⟨by kernel_rfl,by kernel_rfl,by kernel_rfl⟩
theorem ty128:tyB Tryz.prog 128 Tryz.t128 Tryz.t128:=⟨by kernel_rfl,by kernel_rfl,by kernel_rfl⟩
theorem ty129:tyB Tryz.prog 129 Tryz.t129 Tryz.t129:=⟨by kernel_rfl,by kernel_rfl,by kernel_rfl⟩
theorem ty130:tyB Tryz.prog 130 Tryz.t130 Tryz.t130:=⟨by kernel_rfl,by kernel_rfl,by kernel_rfl⟩
theorem ty131:tyB Tryz.prog 131 Tryz.t131 Tryz.t131:=⟨by kernel_rfl,by kernel_rfl,by kernel_rfl⟩
theorem ty132:tyB Tryz.prog 132 Tryz.t132 Tryz.t132:=⟨by kernel_rfl,by kernel_rfl,by kernel_rfl⟩
theorem ty133:tyB Tryz.prog 133 Tryz.t133 Tryz.t133:=⟨by kernel_rfl,by kernel_rfl,by kernel_rfl⟩
theorem ty134:tyB Tryz.prog 134 Tryz.t134 Tryz.t134:=⟨by kernel_rfl,by kernel_rfl,by kernel_rfl⟩
theorem ty135:tyB Tryz.prog 135 Tryz.t135 Tryz.t135:=⟨by kernel_rfl,by kernel_rfl,by kernel_rfl⟩
theorem ty136:tyB Tryz.prog 136 Tryz.t136 Tryz.t136:=⟨by kernel_rfl,by kernel_rfl,by kernel_rfl⟩
theorem ty137:tyB Tryz.prog 137 Tryz.t137 Tryz.t137:=⟨by kernel_rfl,by kernel_rfl,by kernel_rfl⟩
theorem ty138:tyB Tryz.prog 138 Tryz.t138 Tryz.t138:=⟨by kernel_rfl,by kernel_rfl,by kernel_rfl⟩
theorem ty139:tyB Tryz.prog 139 Tryz.t139 Tryz.t139:=⟨by kernel_rfl,by kernel_rfl,by kernel_rfl⟩
theorem ty141:tyB Tryz.prog 141 Tryz.t141 Tryz.t141:=⟨by kernel_rfl,by kernel_rfl,by kernel_rfl⟩
theorem ty142:tyB Tryz.prog 142 Tryz.t142 Tryz.t142:=⟨by kernel_rfl,by kernel_rfl,by kernel_rfl⟩
theorem ty143:tyB Tryz.prog 143 Tryz.t143 Tryz.t143:=⟨by kernel_rfl,by kernel_rfl,by kernel_rfl⟩
theorem ty144:tyB Tryz.prog 144 Tryz.t144 Tryz.t144:=⟨by kernel_rfl,by kernel_rfl,by kernel_rfl⟩
theorem ty145:tyB Tryz.prog 145 Tryz.t145 Tryz.t145:=⟨by kernel_rfl,by kernel_rfl,by kernel_rfl⟩
theorem ty146:tyB Tryz.prog 146 Tryz.t146 Tryz.t146:=⟨by kernel_rfl,by kernel_rfl,by kernel_rfl⟩
theorem ty147:tyB Tryz.prog 147 Tryz.t147 Tryz.t147:=⟨by kernel_rfl,by kernel_rfl,by kernel_rfl⟩
theorem ty148:tyB Tryz.prog 148 Tryz.t148 Tryz.t3:=⟨by kernel_rfl,by kernel_rfl,by kernel_rfl⟩
theorem ty150:tyB Tryz.prog 150 Tryz.t150 Tryz.t150:=⟨by kernel_rfl,by kernel_rfl,by kernel_rfl⟩
theorem ty151:tyB Tryz.prog 151 Tryz.t151 Tryz.t151:=⟨by kernel_rfl,by kernel_rfl,by kernel_rfl⟩
theorem ty152:tyB Tryz.prog 152 Tryz.t152 Tryz.t152:=⟨by kernel_rfl,by kernel_rfl,by kernel_rfl⟩
theorem ty153:tyB Tryz.prog 153 Tryz.t153 Tryz.t153:=⟨by kernel_rfl,by kernel_rfl,by kernel_rfl⟩
theorem ty154:tyB Tryz.prog 154 Tryz.t154 Tryz.t154:=⟨by kernel_rfl,by kernel_rfl,by kernel_rfl⟩
theorem ty155:tyB Tryz.prog 155 Tryz.t155 Tryz.t155:=⟨by kernel_rfl,by kernel_rfl,by kernel_rfl⟩
theorem ty156:tyB Tryz.prog 156 Tryz.t156 Tryz.t156:=⟨by kernel_rfl,by kernel_rfl,by kernel_rfl⟩
theorem ty157:tyB Tryz.prog 157 Tryz.t157 Tryz.t157:=⟨by kernel_rfl,by kernel_rfl,by kernel_rfl⟩
theorem ty158:tyB Tryz.prog 158 Tryz.t158 Tryz.t158:=⟨by kernel_rfl,by kernel_rfl,by kernel_rfl⟩
theorem ty159:tyB Tryz.prog 159 Tryz.t159 Tryz.t159:=⟨by kernel_rfl,by kernel_rfl,by kernel_rfl⟩
theorem ty160:tyB Tryz.prog 160 Tryz.t160 Tryz.t160:=⟨by kernel_rfl,by kernel_rfl,by kernel_rfl⟩
theorem ty161:tyB Tryz.prog 161 Tryz.t161 Tryz.t161:=⟨by kernel_rfl,by kernel_rfl,by kernel_rfl⟩
theorem ty162:tyB Tryz.prog 162 Tryz.t162 Tryz.t162:=⟨by kernel_rfl,by kernel_rfl,by kernel_rfl⟩
theorem ty163:tyB Tryz.prog 163 Tryz.t163 Tryz.t163:=⟨by kernel_rfl,by kernel_rfl,by kernel_rfl⟩
theorem ty164:tyB Tryz.prog 164 Tryz.t164 Tryz.t164:=⟨by kernel_rfl,by kernel_rfl,by kernel_rfl⟩
theorem ty165:tyB Tryz.prog 165 Tryz.t165 Tryz.t165:=⟨by kernel_rfl,by kernel_rfl,by kernel_rfl⟩
theorem ty166:tyB Tryz.prog 166 Tryz.t166 Tryz.t166:=⟨by kernel_rfl,by kernel_rfl,by kernel_rfl⟩
theorem ty167:tyB Tryz.prog 167 Tryz.t167 Tryz.t167:=⟨by kernel_rfl,by kernel_rfl,by kernel_rfl⟩
theorem ty168:tyB Tryz.prog 168 Tryz.t168 Tryz.t168:=⟨by kernel_rfl,by kernel_rfl,by kernel_rfl⟩
theorem ty169:tyB Tryz.prog 169 Tryz.t169 Tryz.t3:=⟨by kernel_rfl,by kernel_rfl,by kernel_rfl⟩
theorem ty171:tyB Tryz.prog 171 Tryz.t171 Tryz.t171:=⟨by kernel_rfl,by kernel_rfl,by kernel_rfl⟩
theorem ty172:tyB Tryz.prog 172 Tryz.t172 Tryz.t172:=⟨by kernel_rfl,by kernel_rfl,by kernel_rfl⟩
theorem ty173:tyB Tryz.prog 173 Tryz.t173 Tryz.t173:=⟨by kernel_rfl,by kernel_rfl,by kernel_rfl⟩
theorem ty174:tyB Tryz.prog 174 Tryz.t174 Tryz.t174:=⟨by kernel_rfl,by kernel_rfl,by kernel_rfl⟩
theorem ty175:tyB Tryz.prog 175 Tryz.t175 Tryz.t175:=⟨by kernel_rfl,by kernel_rfl,by kernel_rfl⟩
theorem ty176:tyB Tryz.prog 176 Tryz.t176 Tryz.t176:=⟨by kernel_rfl,by kernel_rfl,by kernel_rfl⟩
theorem ty177:tyB Tryz.prog 177 Tryz.t177 Tryz.t177:=⟨by kernel_rfl,by kernel_rfl,by kernel_rfl⟩
theorem ty178:tyB Tryz.prog 178 Tryz.t178 Tryz.t178:=⟨by kernel_rfl,by kernel_rfl,by kernel_rfl⟩
theorem ty179:tyB Tryz.prog 179 Tryz.t179 Tryz.t178:=⟨by kernel_rfl,by kernel_rfl,by kernel_rfl⟩
theorem ty180:tyB Tryz.prog 180 Tryz.t180 Tryz.t180:=⟨by kernel_rfl,by kernel_rfl,by kernel_rfl⟩
theorem ty181:tyB Tryz.prog 181 Tryz.t181 Tryz.t181:=⟨by kernel_rfl,by kernel_rfl,by kernel_rfl⟩
theorem ty182:tyB Tryz.prog 182 Tryz.t182 Tryz.t41:=⟨by kernel_rfl,by kernel_rfl,by kernel_rfl⟩
theorem ty183:tyB Tryz.prog 183 Tryz.t183 Tryz.t183:=⟨by kernel_rfl,by kernel_rfl,by kernel_rfl⟩
theorem ty184:tyB Tryz.prog 184 Tryz.t184 Tryz.t184:=⟨by kernel_rfl,by kernel_rfl,by kernel_rfl⟩
theorem ty185:tyB Tryz.prog 185 Tryz.t185 Tryz.t185:=⟨by kernel_rfl,by kernel_rfl,by kernel_rfl⟩
theorem ty186:tyB Tryz.prog 186 Tryz.t186 Tryz.t186:=⟨by kernel_rfl,by kernel_rfl,by kernel_rfl⟩
theorem ty187:tyB Tryz.prog 187 Tryz.t187 Tryz.t187:=⟨by kernel_rfl,by kernel_rfl,by kernel_rfl⟩
theorem ty188:tyB Tryz.prog 188 Tryz.t188 Tryz.t188:=⟨by kernel_rfl,by kernel_rfl,by kernel_rfl⟩
theorem ty189:tyB Tryz.prog 189 Tryz.t189 Tryz.t189:=⟨by kernel_rfl,by kernel_rfl,by kernel_rfl⟩
theorem ty190:tyB Tryz.prog 190 Tryz.t190 Tryz.t190:=⟨by kernel_rfl,by kernel_rfl,by kernel_rfl⟩
theorem ty191:tyB Tryz.prog 191 Tryz.t191 Tryz.t191:=⟨by kernel_rfl,by kernel_rfl,by kernel_rfl⟩
theorem ty192:tyB Tryz.prog 192 Tryz.t192 Tryz.t192:=⟨by kernel_rfl,by kernel_rfl,by kernel_rfl⟩
theorem ty193:tyB Tryz.prog 193 Tryz.t193 Tryz.t192:=⟨by kernel_rfl,by kernel_rfl,by kernel_rfl⟩
theorem ty194:tyB Tryz.prog 194 Tryz.t194 Tryz.t194:=⟨by kernel_rfl,by kernel_rfl,by kernel_rfl⟩
theorem ty195:tyB Tryz.prog 195 Tryz.t195 Tryz.t195:=⟨by kernel_rfl,by kernel_rfl,by kernel_rfl⟩
theorem ty196:tyB Tryz.prog 196 Tryz.t196 Tryz.t195:=⟨by kernel_rfl,by kernel_rfl,by kernel_rfl⟩
theorem ty197:tyB Tryz.prog 197 Tryz.t197 Tryz.t197:=⟨by kernel_rfl,by kernel_rfl,by kernel_rfl⟩
theorem ty198:tyB Tryz.prog 198 Tryz.t198 Tryz.t5:=⟨by kernel_rfl,by kernel_rfl,by kernel_rfl⟩
theorem ty199:tyB Tryz.prog 199 Tryz.t199 Tryz.t5:=⟨by kernel_rfl,by kernel_rfl,by kernel_rfl⟩
theorem ty200:tyB Tryz.prog 200 Tryz.t200 Tryz.t200:=⟨by kernel_rfl,by kernel_rfl,by kernel_rfl⟩
theorem ty201:tyB Tryz.prog 201 Tryz.t201 Tryz.t201:=⟨by kernel_rfl,by kernel_rfl,by kernel_rfl⟩
theorem ty202:tyB Tryz.prog 202 Tryz.t202 Tryz.t21:=⟨by kernel_rfl,by kernel_rfl,by kernel_rfl⟩
theorem ty203:tyB Tryz.prog 203 Tryz.t203 Tryz.t21:=⟨by kernel_rfl,by kernel_rfl,by kernel_rfl⟩
theorem ty204:tyB Tryz.prog 204 Tryz.t204 Tryz.t204:=⟨by kernel_rfl,by kernel_rfl,by kernel_rfl⟩
theorem ty205:tyB Tryz.prog 205 Tryz.t205 Tryz.t204:=⟨by kernel_rfl,by kernel_rfl,by kernel_rfl⟩
theorem ty206:tyB Tryz.prog 206 Tryz.t206 Tryz.t206:=⟨by kernel_rfl,by kernel_rfl,by kernel_rfl⟩
theorem ty207:tyB Tryz.prog 207 Tryz.t207 Tryz.t206:=⟨by kernel_rfl,by kernel_rfl,by kernel_rfl⟩
theorem ty208:tyB Tryz.prog 208 Tryz.t208 Tryz.t208:=⟨by kernel_rfl,by kernel_rfl,by kernel_rfl⟩
theorem cm23:cmpB Tryz.prog 23 Tryz.t22:=⟨by kernel_rfl,by kernel_rfl,by kernel_rfl⟩
theorem cm25:cmpB Tryz.prog 25 Tryz.t24:=⟨by kernel_rfl,by kernel_rfl,by kernel_rfl⟩
theorem cm43:cmpB Tryz.prog 43 Tryz.t42:=⟨by kernel_rfl,by kernel_rfl,by kernel_rfl⟩
theorem cm67:cmpB Tryz.prog 67 Tryz.t66:=⟨by kernel_rfl,by kernel_rfl,by kernel_rfl⟩
theorem tys_ok:TT.ok Tryz.prog (.node (.node (.node (.node (.node (.node (.node (.leaf 128 Tryz.t128 Tryz.t128 false) (.node (.leaf 64 Tryz.t64 Tryz.t64 false) (.leaf 192 Tryz.t192 Tryz.t192 false))) (.node (.node (.leaf 32 Tryz.t32 Tryz.t31 false) (.leaf 160 Tryz.t160 Tryz.t160 false)) (.leaf 96 Tryz.t96 Tryz.t96 false))) (.node (.node (.node (.leaf 16 Tryz.t16 Tryz.t16 false) (.leaf 144 Tryz.t144 Tryz.t144 false)) (.node (.leaf 80 Tryz.t80 Tryz.t80 false) (.leaf 208 Tryz.t208 Tryz.t208 false))) (.node (.node (.leaf 48 Tryz.t48 Tryz.t48 false) (.leaf 176 Tryz.t176 Tryz.t176 false)) (.leaf 112 Tryz.t112 Tryz.t112 false)))) (.node (.node (.node (.node (.leaf 8 Tryz.t8 Tryz.t7 false) (.leaf 136 Tryz.t136 Tryz.t136 false)) (.node (.leaf 72 Tryz.t72 Tryz.t72 false) (.leaf 200 Tryz.t200 Tryz.t200 false))) (.node (.node (.leaf 40 Tryz.t40 Tryz.t40 false) (.leaf 168 Tryz.t168 Tryz.t168 false)) (.leaf 104 Tryz.t104 Tryz.t104 false))) (.node (.node (.node (.leaf 24 Tryz.t24 Tryz.t24 false) (.leaf 152 Tryz.t152 Tryz.t152 false)) (.leaf 88 Tryz.t88 Tryz.t88 false)) (.node (.leaf 184 Tryz.t184 Tryz.t184 false) (.leaf 120 Tryz.t120 Tryz.t120 false))))) (.node (.node (.node (.node (.node (.leaf 4 Tryz.t4 Tryz.t4 false) (.leaf 132 Tryz.t132 Tryz.t132 false)) (.node (.leaf 68 Tryz.t68 Tryz.t68 false) (.leaf 196 Tryz.t196 Tryz.t195 false))) (.node (.node (.leaf 36 Tryz.t36 Tryz.t36 false) (.leaf 164 Tryz.t164 Tryz.t164 false)) (.leaf 100 Tryz.t100 Tryz.t100 false))) (.node (.node (.node (.leaf 20 Tryz.t20 Tryz.t20 false) (.leaf 148 Tryz.t148 Tryz.t3 false)) (.leaf 84 Tryz.t84 Tryz.t84 false)) (.node (.leaf 180 Tryz.t180 Tryz.t180 false) (.leaf 116 Tryz.t116 Tryz.t116 false)))) (.node (.node (.node (.leaf 12 Tryz.t12 Tryz.t12 false) (.node (.leaf 76 Tryz.t76 Tryz.t76 false) (.leaf 204 Tryz.t204 Tryz.t204 false))) (.node (.node (.leaf 44 Tryz.t44 Tryz.t44 false) (.leaf 172 Tryz.t172 Tryz.t172 false)) (.leaf 108 Tryz.t108 Tryz.t108 false))) (.node (.node (.node (.leaf 28 Tryz.t28 Tryz.t27 false) (.leaf 156 Tryz.t156 Tryz.t156 false)) (.leaf 92 Tryz.t92 Tryz.t92 false)) (.node (.node (.leaf 60 Tryz.t60 Tryz.t60 false) (.leaf 188 Tryz.t188 Tryz.t188 false)) (.leaf 124 Tryz.t124 Tryz.t124 false)))))) (.node (.node (.node (.node (.node (.node (.leaf 2 Tryz.t2 Tryz.t2 false) (.leaf 130 Tryz.t130 Tryz.t130 false)) (.node (.leaf 66 Tryz.t66 Tryz.t66 false) (.leaf 194 Tryz.t194 Tryz.t194 false))) (.node (.node (.leaf 34 Tryz.t34 Tryz.t34 false) (.leaf 162 Tryz.t162 Tryz.t162 false)) (.leaf 98 Tryz.t98 Tryz.t98 false))) (.node (.node (.node (.leaf 18 Tryz.t18 Tryz.t18 false) (.leaf 146 Tryz.t146 Tryz.t146 false)) (.leaf 82 Tryz.t82 Tryz.t82 false)) (.node (.node (.leaf 50 Tryz.t50 Tryz.t50 false) (.leaf 178 Tryz.t178 Tryz.t178 false)) (.leaf 114 Tryz.t114 Tryz.t114 false)))) (.node (.node (.node (.node (.leaf 10 Tryz.t10 Tryz.t9 false) (.leaf 138 Tryz.t138 Tryz.t138 false)) (.node (.leaf 74 Tryz.t74 Tryz.t74 false) (.leaf 202 Tryz.t202 Tryz.t21 false))) (.node (.leaf 42 Tryz.t42 Tryz.t42 false) (.leaf 106 Tryz.t106 Tryz.t106 false))) (.node (.node (.node (.leaf 26 Tryz.t26 Tryz.t26 false) (.leaf 154 Tryz.t154 Tryz.t154 false)) (.leaf 90 Tryz.t90 Tryz.t90 false)) (.node (.node (.leaf 58 Tryz.t58 Tryz.t58 false) (.leaf 186 Tryz.t186 Tryz.t186 false)) (.leaf 122 Tryz.t122 Tryz.t122 false))))) (.node (.node (.node (.node (.node (.leaf 6 Tryz.t6 Tryz.t5 false) (.leaf 134 Tryz.t134 Tryz.t134 false)) (.node (.leaf 70 Tryz.t70 Tryz.t70 false) (.leaf 198 Tryz.t198 Tryz.t5 false))) (.node (.node (.leaf 38 Tryz.t38 Tryz.t38 false) (.leaf 166 Tryz.t166 Tryz.t166 false)) (.leaf 102 Tryz.t102 Tryz.t102 false))) (.node (.node (.node (.leaf 22 Tryz.t22 Tryz.t22 false) (.leaf 150 Tryz.t150 Tryz.t150 false)) (.leaf 86 Tryz.t86 Tryz.t86 false)) (.node (.node (.leaf 54 Tryz.t54 Tryz.t54 false) (.leaf 182 Tryz.t182 Tryz.t41 false)) (.leaf 118 Tryz.t118 Tryz.t118 false)))) (.node (.node (.node (.node (.leaf 14 Tryz.t14 Tryz.t13 false) (.leaf 142 Tryz.t142 Tryz.t142 false)) (.node (.leaf 78 Tryz.t78 Tryz.t78 false) (.leaf 206 Tryz.t206 Tryz.t206 false))) (.node (.node (.leaf 46 Tryz.t46 Tryz.t46 false) (.leaf 174 Tryz.t174 Tryz.t174 false)) (.leaf 110 Tryz.t110 Tryz.t110 false))) (.node (.node (.node (.leaf 30 Tryz.t30 Tryz.t29 false) (.leaf 158 Tryz.t158 Tryz.t158 false)) .nil) (.node (.node (.leaf 62 Tryz.t62 Tryz.t62 false) (.leaf 190 Tryz.t190 Tryz.t190 false)) .nil)))))) (.node (.node (.node (.node (.node (.node (.node (.leaf 1 Tryz.t1 Tryz.t1 false) (.leaf 129 Tryz.t129 Tryz.t129 false)) (.node (.leaf 65 Tryz.t65 Tryz.t65 false) (.leaf 193 Tryz.t193 Tryz.t192 false))) (.node (.node (.leaf 33 Tryz.t33 Tryz.t33 false) (.leaf 161 Tryz.t161 Tryz.t161 false)) (.leaf 97 Tryz.t97 Tryz.t97 false))) (.node (.node (.node (.leaf 17 Tryz.t17 Tryz.t17 false) (.leaf 145 Tryz.t145 Tryz.t145 false)) (.leaf 81 Tryz.t81 Tryz.t81 false)) (.node (.node (.leaf 49 Tryz.t49 Tryz.t49 false) (.leaf 177 Tryz.t177 Tryz.t177 false)) (.leaf 113 Tryz.t113 Tryz.t113 false)))) (.node (.node (.node (.node (.leaf 9 Tryz.t9 Tryz.t9 false) (.leaf 137 Tryz.t137 Tryz.t137 false)) (.node (.leaf 73 Tryz.t73 Tryz.t73 false) (.leaf 201 Tryz.t201 Tryz.t201 false))) (.node (.node (.leaf 41 Tryz.t41 Tryz.t41 false) (.leaf 169 Tryz.t169 Tryz.t3 false)) (.leaf 105 Tryz.t105 Tryz.t105 false))) (.node (.node (.node (.leaf 25 Tryz.t25 Tryz.t24 true) (.leaf 153 Tryz.t153 Tryz.t153 false)) (.leaf 89 Tryz.t89 Tryz.t89 false)) (.node (.node (.leaf 57 Tryz.t57 Tryz.t57 false) (.leaf 185 Tryz.t185 Tryz.t185 false)) .nil)))) (.node (.node (.node (.node (.node (.leaf 5 Tryz.t5 Tryz.t5 false) (.leaf 133 Tryz.t133 Tryz.t133 false)) (.node (.leaf 69 Tryz.t69 Tryz.t68 false) (.leaf 197 Tryz.t197 Tryz.t197 false))) (.node (.node (.leaf 37 Tryz.t37 Tryz.t37 false) (.leaf 165 Tryz.t165 Tryz.t165 false)) (.leaf 101 Tryz.t101 Tryz.t101 false))) (.node (.node (.leaf 21 Tryz.t21 Tryz.t21 false) (.leaf 85 Tryz.t85 Tryz.t85 false)) (.node (.node (.leaf 53 Tryz.t53 Tryz.t53 false) (.leaf 181 Tryz.t181 Tryz.t181 false)) (.leaf 117 Tryz.t117 Tryz.t117 false)))) (.node (.node (.node (.node (.leaf 13 Tryz.t13 Tryz.t13 false) (.leaf 141 Tryz.t141 Tryz.t141 false)) (.node (.leaf 77 Tryz.t77 Tryz.t77 false) (.leaf 205 Tryz.t205 Tryz.t204 false))) (.node (.node (.leaf 45 Tryz.t45 Tryz.t45 false) (.leaf 173 Tryz.t173 Tryz.t173 false)) (.leaf 109 Tryz.t109 Tryz.t109 false))) (.node (.node (.node (.leaf 29 Tryz.t29 Tryz.t29 false) (.leaf 157 Tryz.t157 Tryz.t157 false)) (.leaf 93 Tryz.t93 Tryz.t93 false)) (.node (.node (.leaf 61 Tryz.t61 Tryz.t60 false) (.leaf 189 Tryz.t189 Tryz.t189 false)) (.leaf 125 Tryz.t125 Tryz.t125 false)))))) (.node (.node (.node (.node (.node (.node (.leaf 3 Tryz.t3 Tryz.t3 false) (.leaf 131 Tryz.t131 Tryz.t131 false)) (.node (.leaf 67 Tryz.t67 Tryz.t66 true) (.leaf 195 Tryz.t195 Tryz.t195 false))) (.node (.node (.leaf 35 Tryz.t35 Tryz.t35 false) (.leaf 163 Tryz.t163 Tryz.t163 false)) (.leaf 99 Tryz.t99 Tryz.t99 false))) (.node (.node (.node (.leaf 19 Tryz.t19 Tryz.t18 false) (.leaf 147 Tryz.t147 Tryz.t147 false)) (.leaf 83 Tryz.t83 Tryz.t83 false)) (.node (.node (.leaf 51 Tryz.t51 Tryz.t51 false) (.leaf 179 Tryz.t179 Tryz.t178 false)) (.leaf 115 Tryz.t115 Tryz.t115 false)))) (.node (.node (.node (.node (.leaf 11 Tryz.t11 Tryz.t9 false) (.leaf 139 Tryz.t139 Tryz.t139 false)) (.node (.leaf 75 Tryz.t75 Tryz.t75 false) (.leaf 203 Tryz.t203 Tryz.t21 false))) (.node (.node (.leaf 43 Tryz.t43 Tryz.t42 true) (.leaf 171 Tryz.t171 Tryz.t171 false)) (.leaf 107 Tryz.t107 Tryz.t107 false))) (.node (.node (.node (.leaf 27 Tryz.t27 Tryz.t27 false) (.leaf 155 Tryz.t155 Tryz.t155 false)) (.leaf 91 Tryz.t91 Tryz.t91 false)) (.node (.node (.leaf 59 Tryz.t59 Tryz.t59 false) (.leaf 187 Tryz.t187 Tryz.t187 false)) (.leaf 123 Tryz.t123 Tryz.t123 false))))) (.node (.node (.node (.node (.node (.leaf 7 Tryz.t7 Tryz.t7 false) (.leaf 135 Tryz.t135 Tryz.t135 false)) (.node (.leaf 71 Tryz.t71 Tryz.t71 false) (.leaf 199 Tryz.t199 Tryz.t5 false))) (.node (.leaf 167 Tryz.t167 Tryz.t167 false) (.leaf 103 Tryz.t103 Tryz.t103 false))) (.node (.node (.node (.leaf 23 Tryz.t23 Tryz.t22 true) (.leaf 151 Tryz.t151 Tryz.t151 false)) (.leaf 87 Tryz.t87 Tryz.t87 false)) (.node (.node (.leaf 55 Tryz.t55 Tryz.t55 false) (.leaf 183 Tryz.t183 Tryz.t183 false)) (.leaf 119 Tryz.t119 Tryz.t119 false)))) (.node (.node (.node (.node (.leaf 15 Tryz.t15 Tryz.t15 false) (.leaf 143 Tryz.t143 Tryz.t143 false)) (.node (.leaf 79 Tryz.t79 Tryz.t79 false) (.leaf 207 Tryz.t207 Tryz.t206 false))) (.node (.node (.leaf 47 Tryz.t47 Tryz.t47 false) (.leaf 175 Tryz.t175 Tryz.t175 false)) (.leaf 111 Tryz.t111 Tryz.t111 false))) (.node (.node (.node (.leaf 31 Tryz.t31 Tryz.t31 false) (.leaf 159 Tryz.t159 Tryz.t159 false)) (.leaf 95 Tryz.t95 Tryz.t95 false)) (.node (.node (.leaf 63 Tryz.t63 Tryz.t63 false) (.leaf 191 Tryz.t191 Tryz.t191 false)) (.leaf 127 Tryz.t127 Tryz.t127 false)))))))):=⟨⟨⟨⟨⟨⟨⟨⟨ty128,trivial⟩,⟨⟨ty64,trivial⟩,⟨ty192,trivial⟩⟩⟩,⟨⟨⟨ty32,trivial⟩,⟨ty160,trivial⟩⟩,⟨ty96,trivial⟩⟩⟩,⟨⟨⟨⟨ty16,trivial⟩,⟨ty144,trivial⟩⟩,⟨⟨ty80,trivial⟩,⟨ty208,trivial⟩⟩⟩,⟨⟨⟨ty48,trivial⟩,⟨ty176,trivial⟩⟩,⟨ty112,trivial⟩⟩⟩⟩,⟨⟨⟨⟨⟨ty8,trivial⟩,⟨ty136,trivial⟩⟩,⟨⟨ty72,trivial⟩,⟨ty200,trivial⟩⟩⟩,⟨⟨⟨ty40,trivial⟩,⟨ty168,trivial⟩⟩,⟨ty104,trivial⟩⟩⟩,⟨⟨⟨⟨ty24,trivial⟩,⟨ty152,trivial⟩⟩,⟨ty88,trivial⟩⟩,⟨⟨ty184,trivial⟩,⟨ty120,trivial⟩⟩⟩⟩⟩,⟨⟨⟨⟨⟨⟨ty4,trivial⟩,⟨ty132,trivial⟩⟩,⟨⟨ty68,trivial⟩,⟨ty196,trivial⟩⟩⟩,⟨⟨⟨ty36,trivial⟩,⟨ty164,trivial⟩⟩,⟨ty100,trivial⟩⟩⟩,⟨⟨⟨⟨ty20,trivial⟩,⟨ty148,trivial⟩⟩,⟨ty84,trivial⟩⟩,⟨⟨ty180,trivial⟩,⟨ty116,trivial⟩⟩⟩⟩,⟨⟨⟨⟨ty12,trivial⟩,⟨⟨ty76,trivial⟩,⟨ty204,trivial⟩⟩⟩,⟨⟨⟨ty44,trivial⟩,⟨ty172,trivial⟩⟩,⟨ty108,trivial⟩⟩⟩,⟨⟨⟨⟨ty28,trivial⟩,⟨ty156,trivial⟩⟩,⟨ty92,trivial⟩⟩,⟨⟨⟨ty60,trivial⟩,⟨ty188,trivial⟩⟩,⟨ty124,trivial⟩⟩⟩⟩⟩⟩,⟨⟨⟨⟨⟨⟨⟨ty2,trivial⟩,⟨ty130,trivial⟩⟩,⟨⟨ty66,trivial⟩,⟨ty194,trivial⟩⟩⟩,⟨⟨⟨ty34,trivial⟩,⟨ty162,trivial⟩⟩,⟨ty98,trivial⟩⟩⟩,⟨⟨⟨⟨ty18,trivial⟩,⟨ty146,trivial⟩⟩,⟨ty82,trivial⟩⟩,⟨⟨⟨ty50,trivial⟩,⟨ty178,trivial⟩⟩,⟨ty114,trivial⟩⟩⟩⟩,⟨⟨⟨⟨⟨ty10,trivial⟩,⟨ty138,trivial⟩⟩,⟨⟨ty74,trivial⟩,⟨ty202,trivial⟩⟩⟩,⟨⟨ty42,trivial⟩,⟨ty106,trivial⟩⟩⟩,⟨⟨⟨⟨ty26,trivial⟩,⟨ty154,trivial⟩⟩,⟨ty90,trivial⟩⟩,⟨⟨⟨ty58,trivial⟩,⟨ty186,trivial⟩⟩,⟨ty122,trivial⟩⟩⟩⟩⟩,⟨⟨⟨⟨⟨⟨ty6,trivial⟩,⟨ty134,trivial⟩⟩,⟨⟨ty70,trivial⟩,⟨ty198,trivial⟩⟩⟩,⟨⟨⟨ty38,trivial⟩,⟨ty166,trivial⟩⟩,⟨ty102,trivial⟩⟩⟩,⟨⟨⟨⟨ty22,trivial⟩,⟨ty150,trivial⟩⟩,⟨ty86,trivial⟩⟩,⟨⟨⟨ty54,trivial⟩,⟨ty182,trivial⟩⟩,⟨ty118,trivial⟩⟩⟩⟩,⟨⟨⟨⟨⟨ty14,trivial⟩,⟨ty142,trivial⟩⟩,⟨⟨ty78,trivial⟩,⟨ty206,trivial⟩⟩⟩,⟨⟨⟨ty46,trivial⟩,⟨ty174,trivial⟩⟩,⟨ty110,trivial⟩⟩⟩,⟨⟨⟨⟨ty30,trivial⟩,⟨ty158,trivial⟩⟩,trivial⟩,⟨⟨⟨ty62,trivial⟩,⟨ty190,trivial⟩⟩,trivial⟩⟩⟩⟩⟩⟩,⟨⟨⟨⟨⟨⟨⟨⟨ty1,trivial⟩,⟨ty129,trivial⟩⟩,⟨⟨ty65,trivial⟩,⟨ty193,trivial⟩⟩⟩,⟨⟨⟨ty33,trivial⟩,⟨ty161,trivial⟩⟩,⟨ty97,trivial⟩⟩⟩,⟨⟨⟨⟨ty17,trivial⟩,⟨ty145,trivial⟩⟩,⟨ty81,trivial⟩⟩,⟨⟨⟨ty49,trivial⟩,⟨ty177,trivial⟩⟩,⟨ty113,trivial⟩⟩⟩⟩,⟨⟨⟨⟨⟨ty9,trivial⟩,⟨ty137,trivial⟩⟩,⟨⟨ty73,trivial⟩,⟨ty201,trivial⟩⟩⟩,⟨⟨⟨ty41,trivial⟩,⟨ty169,trivial⟩⟩,⟨ty105,trivial⟩⟩⟩,⟨⟨⟨⟨ty25,cm25⟩,⟨ty153,trivial⟩⟩,⟨ty89,trivial⟩⟩,⟨⟨⟨ty57,trivial⟩,⟨ty185,trivial⟩⟩,trivial⟩⟩⟩⟩,⟨⟨⟨⟨⟨⟨ty5,trivial⟩,⟨ty133,trivial⟩⟩,⟨⟨ty69,trivial⟩,⟨ty197,trivial⟩⟩⟩,⟨⟨⟨ty37,trivial⟩,⟨ty165,trivial⟩⟩,⟨ty101,trivial⟩⟩⟩,⟨⟨⟨ty21,trivial⟩,⟨ty85,trivial⟩⟩,⟨⟨⟨ty53,trivial⟩,⟨ty181,trivial⟩⟩,⟨ty117,trivial⟩⟩⟩⟩,⟨⟨⟨⟨⟨ty13,trivial⟩,⟨ty141,trivial⟩⟩,⟨⟨ty77,trivial⟩,⟨ty205,trivial⟩⟩⟩,⟨⟨⟨ty45,trivial⟩,⟨ty173,trivial⟩⟩,⟨ty109,trivial⟩⟩⟩,⟨⟨⟨⟨ty29,trivial⟩,⟨ty157,trivial⟩⟩,⟨ty93,trivial⟩⟩,⟨⟨⟨ty61,trivial⟩,⟨ty189,trivial⟩⟩,⟨ty125,trivial⟩⟩⟩⟩⟩⟩,⟨⟨⟨⟨⟨⟨⟨ty3,trivial⟩,⟨ty131,trivial⟩⟩,⟨⟨ty67,cm67⟩,⟨ty195,trivial⟩⟩⟩,⟨⟨⟨ty35,trivial⟩,⟨ty163,trivial⟩⟩,⟨ty99,trivial⟩⟩⟩,⟨⟨⟨⟨ty19,trivial⟩,⟨ty147,trivial⟩⟩,⟨ty83,trivial⟩⟩,⟨⟨⟨ty51,trivial⟩,⟨ty179,trivial⟩⟩,⟨ty115,trivial⟩⟩⟩⟩,⟨⟨⟨⟨⟨ty11,trivial⟩,⟨ty139,trivial⟩⟩,⟨⟨ty75,trivial⟩,⟨ty203,trivial⟩⟩⟩,⟨⟨⟨ty43,cm43⟩,⟨ty171,trivial⟩⟩,⟨ty107,trivial⟩⟩⟩,⟨⟨⟨⟨ty27,trivial⟩,⟨ty155,trivial⟩⟩,⟨ty91,trivial⟩⟩,⟨⟨⟨ty59,trivial⟩,⟨ty187,trivial⟩⟩,⟨ty123,trivial⟩⟩⟩⟩⟩,⟨⟨⟨⟨⟨⟨ty7,trivial⟩,⟨ty135,trivial⟩⟩,⟨⟨ty71,trivial⟩,⟨ty199,trivial⟩⟩⟩,⟨⟨ty167,trivial⟩,⟨ty103,trivial⟩⟩⟩,⟨⟨⟨⟨ty23,cm23⟩,⟨ty151,trivial⟩⟩,⟨ty87,trivial⟩⟩,⟨⟨⟨ty55,trivial⟩,⟨ty183,trivial⟩⟩,⟨ty119,trivial⟩⟩⟩⟩,⟨⟨⟨⟨⟨ty15,trivial⟩,⟨ty143,trivial⟩⟩,⟨⟨ty79,trivial⟩,⟨ty207,trivial⟩⟩⟩,⟨⟨⟨ty47,trivial⟩,⟨ty175,trivial⟩⟩,⟨ty111,trivial⟩⟩⟩,⟨⟨⟨⟨ty31,trivial⟩,⟨ty159,trivial⟩⟩,⟨ty95,trivial⟩⟩,⟨⟨⟨ty63,trivial⟩,⟨ty191,trivial⟩⟩,⟨ty127,trivial⟩⟩⟩⟩⟩⟩⟩⟩
abbrev bo (b:Bool):DV:= .v (.bool b)
abbrev it (n:Int):DV:= .v (.int .i64 n)
abbrev ut (n:Int):DV:= .v (.int .u64 n)
structure Wd where
 hi:Int
 lo:Int
abbrev Wd.ar (w:Wd):Ar:= .agg [.d (it w.hi),.d (ut w.lo)]
def Wd.val (w:Wd):Int:=w.hi*18446744073709551616+w.lo
def Wd.ok (w:Wd):Prop:=(-9223372036854775808<=w.hi/\ w.hi<9223372036854775808)/\ 0<=w.lo/\ w.lo<18446744073709551616
def wd (v:Int):Wd:=⟨(v/18446744073709551616+9223372036854775808)%18446744073709551616-9223372036854775808,v%18446744073709551616⟩
theorem wd_ok (v:Int):(wd v).ok:=by unfold Wd.ok wd;dsimp only;omega
theorem wd_val {v:Int} (h0: -170141183460469231731687303715884105728<=v) (h1:v<170141183460469231731687303715884105728):(wd v).val=v:=by unfold Wd.val wd;dsimp only;omega
theorem wU (n:Int):IntKind.wrap .u64 n=n%18446744073709551616:=by simp [IntKind.wrap,IntKind.signed,IntKind.bits]
theorem wI (n:Int):IntKind.wrap .i64 n=(n+9223372036854775808)%18446744073709551616-9223372036854775808:=by
 simp [IntKind.wrap,IntKind.signed,IntKind.bits]
 split<;>omega
theorem wI_id (n:Int) (h0: -9223372036854775808<=n) (h1:n<9223372036854775808):IntKind.wrap .i64 n=n:=by rw [wI];omega
theorem wU_id (n:Int) (h0:0<=n) (h1:n<18446744073709551616):IntKind.wrap .u64 n=n:=by rw [wU];omega
def wIntV (v:Int):Int:=if-9223372036854775808<=v/\ v<9223372036854775808 then v else 0
def wIntB (v:Int):Bool:=decide (-9223372036854775808<=v/\ v<9223372036854775808)
def FAdd64:List Ar->Option Rs
 | [.c (.d (.v (.int .u64 x))),.c (.d (.v (.int .u64 y))),.c (.d (.v (.int .u64 c)))]=>some ⟨(0<=x/\ 0<=y)/\ 0<=c/\ c<=1,.tup [.c (.d (ut ((x+y+c)%18446744073709551616))),.c (.d (ut ((x+y+c)/18446744073709551616)))],[]⟩
 |_=>none
theorem fcAdd64:FC Tryz.prog 162 FAdd64:=by
 refine fc_stand fun xs pre r us h hp=> ?_
 unfold FAdd64 at h
 split at h
 . rename_i x y c
   cases h
   refine ⟨[.int .u64 x,.int .u64 y,.int .u64 c],.tuple #[.int .u64 ((x+y+c)%18446744073709551616),.int .u64 ((x+y+c)/18446744073709551616)],rfl,rfl,fun w=> ?_,fun S w=>⟨_,rfl,[],[],rfl,⟨.v trivial,trivial⟩,[],[],rfl,⟨.v trivial,trivial⟩,rfl⟩⟩
   rw [run_callFunc_extern Tryz.func162 (by kernel_rfl) (by kernel_rfl) (by kernel_rfl) (e:=add64Entry) (by kernel_rfl),run_add64 x y c hp.1.1 hp.1.2 hp.2.1 hp.2.2]
   rfl
 . cases h
def FSub64:List Ar->Option Rs
 | [.c (.d (.v (.int .u64 x))),.c (.d (.v (.int .u64 y))),.c (.d (.v (.int .u64 c)))]=>some ⟨((0<=x/\ x<18446744073709551616)/\ 0<=y/\ y<18446744073709551616)/\ 0<=c/\ c<=1,.tup [.c (.d (ut ((x-y-c)%18446744073709551616))),.c (.d (ut (if x<y+c then 1 else 0)))],[]⟩
 |_=>none
theorem run_sub (x y b:Nat) (hb:b<=1) (w:World):((Extern.MathBitsCarry.rows[1]'(by decide)).2 #[.int .u64 x,.int .u64 y,.int .u64 b]).run Tryz.prog w=
 .ok (.tuple #[.int .u64 (((x+Extern.MathBitsCarry.m64-y-b)%Extern.MathBitsCarry.m64:Nat):Int),.int .u64 ((if x<y+b then 1 else 0:Nat):Int)]) w:=by
 have:b=0 \/b=1:=by omega
 rcases this with rfl|rfl<;>rfl
theorem fcSub64:FC Tryz.prog 156 FSub64:=by
 refine fc_stand fun xs pre r us h hp=> ?_
 unfold FSub64 at h
 split at h
 . rename_i x y c
   cases h
   refine ⟨[.int .u64 x,.int .u64 y,.int .u64 c],.tuple #[.int .u64 ((x-y-c)%18446744073709551616),.int .u64 (if x<y+c then 1 else 0)],rfl,rfl,fun w=> ?_,fun S w=>⟨_,rfl,[],[],rfl,⟨.v trivial,trivial⟩,[],[],rfl,⟨.v trivial,trivial⟩,rfl⟩⟩
   obtain ⟨x,rfl⟩:=Int.eq_ofNat_of_zero_le hp.1.1.1
   obtain ⟨y,rfl⟩:=Int.eq_ofNat_of_zero_le hp.1.2.1
   obtain ⟨c,rfl⟩:=Int.eq_ofNat_of_zero_le hp.2.1
   rw [run_callFunc_extern Tryz.func156 (by kernel_rfl) (by kernel_rfl) (by kernel_rfl) (e:=(Extern.MathBitsCarry.rows[1]'(by decide)).2) (by kernel_rfl)]
   have:=run_sub x y c (by have:=hp.2.2;omega) w
   rw [this]
   simp only [Result.andThen_ok,Extern.MathBitsCarry.m64]
   have h1:=hp.1.1.2
   have h2:=hp.1.2.2
   have h3:=hp.2.2
   have e1:(((x+2^64-y-c)%2^64:Nat):Int)=((x:Int)-y-c)%18446744073709551616:=by omega
   have e2:((if x<y+c then 1 else 0:Nat):Int)=if (x:Int)<(y:Int)+(c:Int) then 1 else 0:=by split<;>split<;>omega
   rw [e1,e2]
 . cases h
theorem shr63 (n:Int):n.fdiv (2^min (Int.toNat 63) IntKind.i64.bits)=n/9223372036854775808:=by
 have e:(2^min (Int.toNat 63) IntKind.i64.bits:Int)=9223372036854775808:=by decide
 rw [e,Int.fdiv_eq_ediv_of_nonneg _ (by decide)]
def FWOf:List Ar->Option Rs
 | [.c (.d (.v (.int .i64 i0)))]=>some ⟨(-9223372036854775808<=i0/\ i0<9223372036854775808),.va (Wd.ar (wd i0)),[]⟩
 |_=>none
theorem fcWOf:FC Tryz.prog 122 FWOf:=by
 intro xs pre r us h hp
 unfold FWOf at h
 split at h
 . rename_i i0
   cases h
   have hp0:=hp
   refine fcat tys_ok (l:= []) trivial Tryz.func122 rfl (by kernel_rfl) false ?_
   repeat' (first|exact trivial|refine ⟨?_, ?_⟩|intro _)
   all_goals first|(with_reducible first|apply qa|apply qb|apply qc|apply qd)|(conv=>whnf)
   all_goals (try (refine congrArg Value.bool (Bool.eq_iff_iff.2 ?_));try simp only [Bool.not_eq_true',Bool.not_eq_false',Bool.and_eq_true,Bool.or_eq_true,Bool.and_eq_false_imp,Bool.or_eq_false_iff,beq_iff_eq,beq_eq_false_iff_ne,ne_eq,decide_eq_true_eq,decide_eq_false_iff_not,Bool.true_eq_false,Bool.false_eq_true,true_and,and_true,false_and,and_false,imp_false,Value.int.injEq,true_iff,false_iff,iff_true,iff_false,iff_self])
   all_goals (try simp only [wU,wI,shr63,wd,Wd.val,Wd.ok,Bool.not_eq_true',Bool.not_eq_false',Bool.and_eq_true,Bool.or_eq_true,Bool.and_eq_false_imp,Bool.or_eq_false_iff,beq_iff_eq,beq_eq_false_iff_ne,ne_eq,decide_eq_true_eq,decide_eq_false_iff_not,Bool.true_eq_false,Bool.false_eq_true,true_and,and_true,false_and,and_false,imp_false,Value.int.injEq] at*)
   all_goals first|omega|(split<;>omega)|(split<;>split<;>omega)
 . cases h
def FWAdd:List Ar->Option Rs
 | [.agg [.d (.v (.int .i64 h0)),.d (.v (.int .u64 l0))],.agg [.d (.v (.int .i64 h1)),.d (.v (.int .u64 l1))]]=>some ⟨(Wd.ok ⟨h0,l0⟩)/\ (Wd.ok ⟨h1,l1⟩),.va (Wd.ar (wd (Wd.val (⟨h0,l0⟩:Wd)+Wd.val (⟨h1,l1⟩:Wd)))),[]⟩
 |_=>none
theorem fcWAdd:FC Tryz.prog 137 FWAdd:=by
 intro xs pre r us h hp
 unfold FWAdd at h
 split at h
 . rename_i h0 l0 h1 l1
   cases h
   obtain ⟨hp0,hp1⟩:=hp
   refine fcat tys_ok (l:= [(162,⟨[],FAdd64⟩)]) ⟨fcAdd64,trivial⟩ Tryz.func137 rfl (by kernel_rfl) false ?_
   repeat' (first|exact trivial|refine ⟨?_, ?_⟩|intro _)
   all_goals first|(with_reducible first|apply qa|apply qb|apply qc|apply qd)|(conv=>whnf)
   all_goals (try (refine congrArg Value.bool (Bool.eq_iff_iff.2 ?_));try simp only [Bool.not_eq_true',Bool.not_eq_false',Bool.and_eq_true,Bool.or_eq_true,Bool.and_eq_false_imp,Bool.or_eq_false_iff,beq_iff_eq,beq_eq_false_iff_ne,ne_eq,decide_eq_true_eq,decide_eq_false_iff_not,Bool.true_eq_false,Bool.false_eq_true,true_and,and_true,false_and,and_false,imp_false,Value.int.injEq,true_iff,false_iff,iff_true,iff_false,iff_self])
   all_goals (try simp only [wU,wI,shr63,wd,Wd.val,Wd.ok,Bool.not_eq_true',Bool.not_eq_false',Bool.and_eq_true,Bool.or_eq_true,Bool.and_eq_false_imp,Bool.or_eq_false_iff,beq_iff_eq,beq_eq_false_iff_ne,ne_eq,decide_eq_true_eq,decide_eq_false_iff_not,Bool.true_eq_false,Bool.false_eq_true,true_and,and_true,false_and,and_false,imp_false,Value.int.injEq] at*)
   all_goals first|omega|(split<;>omega)|(split<;>split<;>omega)
 . cases h
def FWSub:List Ar->Option Rs
 | [.agg [.d (.v (.int .i64 h0)),.d (.v (.int .u64 l0))],.agg [.d (.v (.int .i64 h1)),.d (.v (.int .u64 l1))]]=>some ⟨(Wd.ok ⟨h0,l0⟩)/\ (Wd.ok ⟨h1,l1⟩),.va (Wd.ar (wd (Wd.val (⟨h0,l0⟩:Wd)-Wd.val (⟨h1,l1⟩:Wd)))),[]⟩
 |_=>none
theorem fcWSub:FC Tryz.prog 121 FWSub:=by
 intro xs pre r us h hp
 unfold FWSub at h
 split at h
 . rename_i h0 l0 h1 l1
   cases h
   obtain ⟨hp0,hp1⟩:=hp
   refine fcat tys_ok (l:= [(156,⟨[],FSub64⟩)]) ⟨fcSub64,trivial⟩ Tryz.func121 rfl (by kernel_rfl) false ?_
   repeat' (first|exact trivial|refine ⟨?_, ?_⟩|intro _)
   all_goals first|(with_reducible first|apply qa|apply qb|apply qc|apply qd)|(conv=>whnf)
   all_goals (try (refine congrArg Value.bool (Bool.eq_iff_iff.2 ?_));try simp only [Bool.not_eq_true',Bool.not_eq_false',Bool.and_eq_true,Bool.or_eq_true,Bool.and_eq_false_imp,Bool.or_eq_false_iff,beq_iff_eq,beq_eq_false_iff_ne,ne_eq,decide_eq_true_eq,decide_eq_false_iff_not,Bool.true_eq_false,Bool.false_eq_true,true_and,and_true,false_and,and_false,imp_false,Value.int.injEq,true_iff,false_iff,iff_true,iff_false,iff_self])
   all_goals (try simp only [wU,wI,shr63,wd,Wd.val,Wd.ok,Bool.not_eq_true',Bool.not_eq_false',Bool.and_eq_true,Bool.or_eq_true,Bool.and_eq_false_imp,Bool.or_eq_false_iff,beq_iff_eq,beq_eq_false_iff_ne,ne_eq,decide_eq_true_eq,decide_eq_false_iff_not,Bool.true_eq_false,Bool.false_eq_true,true_and,and_true,false_and,and_false,imp_false,Value.int.injEq] at*)
   all_goals first|omega|(split<;>omega)|(split<;>split<;>omega)
 . cases h
def FWLow:List Ar->Option Rs
 | [.agg [.d (.v (.int .i64 h0)),.d (.v (.int .u64 l0))]]=>some ⟨(Wd.ok ⟨h0,l0⟩),.va (.c (.d (it ((Wd.val (⟨h0,l0⟩:Wd)+9223372036854775808)%18446744073709551616-9223372036854775808)))),[]⟩
 |_=>none
theorem fcWLow:FC Tryz.prog 132 FWLow:=by
 intro xs pre r us h hp
 unfold FWLow at h
 split at h
 . rename_i h0 l0
   cases h
   have hp0:=hp
   refine fcat tys_ok (l:= []) trivial Tryz.func132 rfl (by kernel_rfl) false ?_
   repeat' (first|exact trivial|refine ⟨?_, ?_⟩|intro _)
   all_goals first|(with_reducible first|apply qa|apply qb|apply qc|apply qd)|(conv=>whnf)
   all_goals (try (refine congrArg Value.bool (Bool.eq_iff_iff.2 ?_));try simp only [Bool.not_eq_true',Bool.not_eq_false',Bool.and_eq_true,Bool.or_eq_true,Bool.and_eq_false_imp,Bool.or_eq_false_iff,beq_iff_eq,beq_eq_false_iff_ne,ne_eq,decide_eq_true_eq,decide_eq_false_iff_not,Bool.true_eq_false,Bool.false_eq_true,true_and,and_true,false_and,and_false,imp_false,Value.int.injEq,true_iff,false_iff,iff_true,iff_false,iff_self])
   all_goals (try simp only [wU,wI,shr63,wd,Wd.val,Wd.ok,Bool.not_eq_true',Bool.not_eq_false',Bool.and_eq_true,Bool.or_eq_true,Bool.and_eq_false_imp,Bool.or_eq_false_iff,beq_iff_eq,beq_eq_false_iff_ne,ne_eq,decide_eq_true_eq,decide_eq_false_iff_not,Bool.true_eq_false,Bool.false_eq_true,true_and,and_true,false_and,and_false,imp_false,Value.int.injEq] at*)
   all_goals first|omega|(split<;>omega)|(split<;>split<;>omega)
 . cases h
def FWInt:List Ar->Option Rs
 | [.agg [.d (.v (.int .i64 h0)),.d (.v (.int .u64 l0))]]=>some ⟨(Wd.ok ⟨h0,l0⟩),.tup [.c (.d (it (wIntV (Wd.val (⟨h0,l0⟩:Wd))))),.c (.d (bo (wIntB (Wd.val (⟨h0,l0⟩:Wd)))))],[]⟩
 |_=>none
theorem fcWInt:FC Tryz.prog 94 FWInt:=by
 intro xs pre r us h hp
 unfold FWInt at h
 split at h
 . rename_i h0 l0
   cases h
   have hp0:=hp
   refine fcat tys_ok (l:= [(122,⟨[],FWOf⟩),(132,⟨[],FWLow⟩)]) ⟨fcWOf,fcWLow,trivial⟩ Tryz.func94 rfl (by kernel_rfl) false ?_
   repeat' (first|exact trivial|refine ⟨?_, ?_⟩|intro _)
   all_goals first|(with_reducible first|apply qa|apply qb|apply qc|apply qd)|(conv=>whnf)
   all_goals (try (refine congrArg Value.bool (Bool.eq_iff_iff.2 ?_));try simp only [wIntV,wIntB,Bool.not_eq_true',Bool.not_eq_false',Bool.and_eq_true,Bool.or_eq_true,Bool.and_eq_false_imp,Bool.or_eq_false_iff,beq_iff_eq,beq_eq_false_iff_ne,ne_eq,decide_eq_true_eq,decide_eq_false_iff_not,Bool.true_eq_false,Bool.false_eq_true,true_and,and_true,false_and,and_false,imp_false,Value.int.injEq,true_iff,false_iff,iff_true,iff_false,iff_self])
   all_goals (try simp only [wU,wI,shr63,wd,Wd.val,Wd.ok,wIntV,wIntB,Bool.not_eq_true',Bool.not_eq_false',Bool.and_eq_true,Bool.or_eq_true,Bool.and_eq_false_imp,Bool.or_eq_false_iff,beq_iff_eq,beq_eq_false_iff_ne,ne_eq,decide_eq_true_eq,decide_eq_false_iff_not,Bool.true_eq_false,Bool.false_eq_true,true_and,and_true,false_and,and_false,imp_false,Value.int.injEq] at*)
   all_goals first|omega|(split<;>omega)|(split<;>split<;>omega)
 . cases h
end Go.Proofs.YtehpbhpmkhlldaaGreat
