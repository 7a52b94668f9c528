/- The types of this seat as a table for the symbolic executor: each entry is what the program has. -/
import Derived.Test.YtehpbhpmkhlldaaGreatE3
import Derived.Test.YtehpbhpmkhlldaaGreatProg
import Derived.Laws.Externs
import Derived.Laws.Strings
import Derived.Shelf.Small.Strs
import Derived.Shelf.Slices.CompactS
import Derived.Ground.SlsfProg
import Derived.Shelf.SlSortCmp.NoneTotal
import Derived.WalkKit
import Derived.Sort.Walk0
set_option linter.all false
set_option maxHeartbeats 8000000
set_option maxRecDepth 100000
namespace Go.Sx
theorem qa {a b : Int} (h : a <= b) : a <= b := h
theorem qb {a b : Int} (h : a < b) : a < b := h
theorem qc {a b : Nat} (h : a <= b) : a <= b := h
theorem qd {a b : Nat} (h : a < b) : a < b := h
end Go.Sx
namespace Go.Proofs.YtehpbhpmkhlldaaGreat
open Go.Sx
set_option maxRecDepth 100000
theorem ty1 : tyB Tryz.prog 1 Tryz.t1 Tryz.t1 := ⟨by kernel_rfl, by kernel_rfl, by kernel_rfl⟩
theorem ty2 : tyB Tryz.prog 2 Tryz.t2 Tryz.t2 := ⟨by kernel_rfl, by kernel_rfl, by kernel_rfl⟩
theorem ty3 : tyB Tryz.prog 3 Tryz.t3 Tryz.t3 := ⟨by kernel_rfl, by kernel_rfl, by kernel_rfl⟩
theorem ty4 : tyB Tryz.prog 4 Tryz.t4 Tryz.t4 := ⟨by kernel_rfl, by kernel_rfl, by kernel_rfl⟩
theorem ty5 : tyB Tryz.prog 5 Tryz.t5 Tryz.t5 := ⟨by kernel_rfl, by kernel_rfl, by kernel_rfl⟩
theorem ty6 : tyB Tryz.prog 6 Tryz.t6 Tryz.t5 := ⟨by kernel_rfl, by kernel_rfl, by kernel_rfl⟩
theorem ty7 : tyB Tryz.prog 7 Tryz.t7 Tryz.t7 := ⟨by kernel_rfl, by kernel_rfl, by kernel_rfl⟩
theorem ty8 : tyB Tryz.prog 8 Tryz.t8 Tryz.t7 := ⟨by kernel_rfl, by kernel_rfl, by kernel_rfl⟩
theorem ty9 : tyB Tryz.prog 9 Tryz.t9 Tryz.t9 := ⟨by kernel_rfl, by kernel_rfl, by kernel_rfl⟩
theorem ty10 : tyB Tryz.prog 10 Tryz.t10 Tryz.t9 := ⟨by kernel_rfl, by kernel_rfl, by kernel_rfl⟩
theorem ty11 : tyB Tryz.prog 11 Tryz.t11 Tryz.t9 := ⟨by kernel_rfl, by kernel_rfl, by kernel_rfl⟩
theorem ty12 : tyB Tryz.prog 12 Tryz.t12 Tryz.t12 := ⟨by kernel_rfl, by kernel_rfl, by kernel_rfl⟩
theorem ty13 : tyB Tryz.prog 13 Tryz.t13 Tryz.t13 := ⟨by kernel_rfl, by kernel_rfl, by kernel_rfl⟩
theorem ty14 : tyB Tryz.prog 14 Tryz.t14 Tryz.t13 := ⟨by kernel_rfl, by kernel_rfl, by kernel_rfl⟩
theorem ty15 : tyB Tryz.prog 15 Tryz.t15 Tryz.t15 := ⟨by kernel_rfl, by kernel_rfl, by kernel_rfl⟩
theorem ty16 : tyB Tryz.prog 16 Tryz.t16 Tryz.t16 := ⟨by kernel_rfl, by kernel_rfl, by kernel_rfl⟩
theorem ty17 : tyB Tryz.prog 17 Tryz.t17 Tryz.t17 := ⟨by kernel_rfl, by kernel_rfl, by kernel_rfl⟩
theorem ty18 : tyB Tryz.prog 18 Tryz.t18 Tryz.t18 := ⟨by kernel_rfl, by kernel_rfl, by kernel_rfl⟩
theorem ty19 : tyB Tryz.prog 19 Tryz.t19 Tryz.t18 := ⟨by kernel_rfl, by kernel_rfl, by kernel_rfl⟩
theorem ty20 : tyB Tryz.prog 20 Tryz.t20 Tryz.t20 := ⟨by kernel_rfl, by kernel_rfl, by kernel_rfl⟩
theorem ty21 : tyB Tryz.prog 21 Tryz.t21 Tryz.t21 := ⟨by kernel_rfl, by kernel_rfl, by kernel_rfl⟩
theorem ty22 : tyB Tryz.prog 22 Tryz.t22 Tryz.t22 := ⟨by kernel_rfl, by kernel_rfl, by kernel_rfl⟩
theorem ty23 : tyB Tryz.prog 23 Tryz.t23 Tryz.t22 := ⟨by kernel_rfl, by kernel_rfl, by kernel_rfl⟩
theorem ty24 : tyB Tryz.prog 24 Tryz.t24 Tryz.t24 := ⟨by kernel_rfl, by kernel_rfl, by kernel_rfl⟩
theorem ty25 : tyB Tryz.prog 25 Tryz.t25 Tryz.t24 := ⟨by kernel_rfl, by kernel_rfl, by kernel_rfl⟩
theorem ty26 : tyB Tryz.prog 26 Tryz.t26 Tryz.t26 := ⟨by kernel_rfl, by kernel_rfl, by kernel_rfl⟩
theorem ty27 : tyB Tryz.prog 27 Tryz.t27 Tryz.t27 := ⟨by kernel_rfl, by kernel_rfl, by kernel_rfl⟩
theorem ty28 : tyB Tryz.prog 28 Tryz.t28 Tryz.t27 := ⟨by kernel_rfl, by kernel_rfl, by kernel_rfl⟩
theorem ty29 : tyB Tryz.prog 29 Tryz.t29 Tryz.t29 := ⟨by kernel_rfl, by kernel_rfl, by kernel_rfl⟩
theorem ty30 : tyB Tryz.prog 30 Tryz.t30 Tryz.t29 := ⟨by kernel_rfl, by kernel_rfl, by kernel_rfl⟩
theorem ty31 : tyB Tryz.prog 31 Tryz.t31 Tryz.t31 := ⟨by kernel_rfl, by kernel_rfl, by kernel_rfl⟩
theorem ty32 : tyB Tryz.prog 32 Tryz.t32 Tryz.t31 := ⟨by kernel_rfl, by kernel_rfl, by kernel_rfl⟩
theorem ty33 : tyB Tryz.prog 33 Tryz.t33 Tryz.t33 := ⟨by kernel_rfl, by kernel_rfl, by kernel_rfl⟩
theorem ty34 : tyB Tryz.prog 34 Tryz.t34 Tryz.t34 := ⟨by kernel_rfl, by kernel_rfl, by kernel_rfl⟩
theorem ty35 : tyB Tryz.prog 35 Tryz.t35 Tryz.t35 := ⟨by kernel_rfl, by kernel_rfl, by kernel_rfl⟩
theorem ty36 : tyB Tryz.prog 36 Tryz.t36 Tryz.t36 := ⟨by kernel_rfl, by kernel_rfl, by kernel_rfl⟩
theorem ty37 : tyB Tryz.prog 37 Tryz.t37 Tryz.t37 := ⟨by kernel_rfl, by kernel_rfl, by kernel_rfl⟩
theorem ty38 : tyB Tryz.prog 38 Tryz.t38 Tryz.t38 := ⟨by kernel_rfl, by kernel_rfl, by kernel_rfl⟩
theorem ty40 : tyB Tryz.prog 40 Tryz.t40 Tryz.t40 := ⟨by kernel_rfl, by kernel_rfl, by kernel_rfl⟩
theorem ty41 : tyB Tryz.prog 41 Tryz.t41 Tryz.t41 := ⟨by kernel_rfl, by kernel_rfl, by kernel_rfl⟩
theorem ty42 : tyB Tryz.prog 42 Tryz.t42 Tryz.t42 := ⟨by kernel_rfl, by kernel_rfl, by kernel_rfl⟩
theorem ty43 : tyB Tryz.prog 43 Tryz.t43 Tryz.t42 := ⟨by kernel_rfl, by kernel_rfl, by kernel_rfl⟩
theorem ty44 : tyB Tryz.prog 44 Tryz.t44 Tryz.t44 := ⟨by kernel_rfl, by kernel_rfl, by kernel_rfl⟩
theorem ty45 : tyB Tryz.prog 45 Tryz.t45 Tryz.t45 := ⟨by kernel_rfl, by kernel_rfl, by kernel_rfl⟩
theorem ty46 : tyB Tryz.prog 46 Tryz.t46 Tryz.t46 := ⟨by kernel_rfl, by kernel_rfl, by kernel_rfl⟩
theorem ty47 : tyB Tryz.prog 47 Tryz.t47 Tryz.t47 := ⟨by kernel_rfl, by kernel_rfl, by kernel_rfl⟩
theorem ty48 : tyB Tryz.prog 48 Tryz.t48 Tryz.t48 := ⟨by kernel_rfl, by kernel_rfl, by kernel_rfl⟩
theorem ty49 : tyB Tryz.prog 49 Tryz.t49 Tryz.t49 := ⟨by kernel_rfl, by kernel_rfl, by kernel_rfl⟩
theorem ty50 : tyB Tryz.prog 50 Tryz.t50 Tryz.t50 := ⟨by kernel_rfl, by kernel_rfl, by kernel_rfl⟩
theorem ty51 : tyB Tryz.prog 51 Tryz.t51 Tryz.t51 := ⟨by kernel_rfl, by kernel_rfl, by kernel_rfl⟩
theorem ty53 : tyB Tryz.prog 53 Tryz.t53 Tryz.t53 := ⟨by kernel_rfl, by kernel_rfl, by kernel_rfl⟩
theorem ty54 : tyB Tryz.prog 54 Tryz.t54 Tryz.t54 := ⟨by kernel_rfl, by kernel_rfl, by kernel_rfl⟩
theorem ty55 : tyB Tryz.prog 55 Tryz.t55 Tryz.t55 := ⟨by kernel_rfl, by kernel_rfl, by kernel_rfl⟩
theorem ty57 : tyB Tryz.prog 57 Tryz.t57 Tryz.t57 := ⟨by kernel_rfl, by kernel_rfl, by kernel_rfl⟩
theorem ty58 : tyB Tryz.prog 58 Tryz.t58 Tryz.t58 := ⟨by kernel_rfl, by kernel_rfl, by kernel_rfl⟩
theorem ty59 : tyB Tryz.prog 59 Tryz.t59 Tryz.t59 := ⟨by kernel_rfl, by kernel_rfl, by kernel_rfl⟩
theorem ty60 : tyB Tryz.prog 60 Tryz.t60 Tryz.t60 := ⟨by kernel_rfl, by kernel_rfl, by kernel_rfl⟩
theorem ty61 : tyB Tryz.prog 61 Tryz.t61 Tryz.t60 := ⟨by kernel_rfl, by kernel_rfl, by kernel_rfl⟩
theorem ty62 : tyB Tryz.prog 62 Tryz.t62 Tryz.t62 := ⟨by kernel_rfl, by kernel_rfl, by kernel_rfl⟩
theorem ty63 : tyB Tryz.prog 63 Tryz.t63 Tryz.t63 := ⟨by kernel_rfl, by kernel_rfl, by kernel_rfl⟩
theorem ty64 : tyB Tryz.prog 64 Tryz.t64 Tryz.t64 := ⟨by kernel_rfl, by kernel_rfl, by kernel_rfl⟩
theorem ty65 : tyB Tryz.prog 65 Tryz.t65 Tryz.t65 := ⟨by kernel_rfl, by kernel_rfl, by kernel_rfl⟩
theorem ty66 : tyB Tryz.prog 66 Tryz.t66 Tryz.t66 := ⟨by kernel_rfl, by kernel_rfl, by kernel_rfl⟩
theorem ty67 : tyB Tryz.prog 67 Tryz.t67 Tryz.t66 := ⟨by kernel_rfl, by kernel_rfl, by kernel_rfl⟩
theorem ty68 : tyB Tryz.prog 68 Tryz.t68 Tryz.t68 := ⟨by kernel_rfl, by kernel_rfl, by kernel_rfl⟩
theorem ty69 : tyB Tryz.prog 69 Tryz.t69 Tryz.t68 := ⟨by kernel_rfl, by kernel_rfl, by kernel_rfl⟩
theorem ty70 : tyB Tryz.prog 70 Tryz.t70 Tryz.t70 := ⟨by kernel_rfl, by kernel_rfl, by kernel_rfl⟩
theorem ty71 : tyB Tryz.prog 71 Tryz.t71 Tryz.t71 := ⟨by kernel_rfl, by kernel_rfl, by kernel_rfl⟩
theorem ty72 : tyB Tryz.prog 72 Tryz.t72 Tryz.t72 := ⟨by kernel_rfl, by kernel_rfl, by kernel_rfl⟩
theorem ty73 : tyB Tryz.prog 73 Tryz.t73 Tryz.t73 := ⟨by kernel_rfl, by kernel_rfl, by kernel_rfl⟩
theorem ty74 : tyB Tryz.prog 74 Tryz.t74 Tryz.t74 := ⟨by kernel_rfl, by kernel_rfl, by kernel_rfl⟩
theorem ty75 : tyB Tryz.prog 75 Tryz.t75 Tryz.t75 := ⟨by kernel_rfl, by kernel_rfl, by kernel_rfl⟩
theorem ty76 : tyB Tryz.prog 76 Tryz.t76 Tryz.t76 := ⟨by kernel_rfl, by kernel_rfl, by kernel_rfl⟩
theorem ty77 : tyB Tryz.prog 77 Tryz.t77 Tryz.t77 := ⟨by kernel_rfl, by kernel_rfl, by kernel_rfl⟩
theorem ty78 : tyB Tryz.prog 78 Tryz.t78 Tryz.t78 := ⟨by kernel_rfl, by kernel_rfl, by kernel_rfl⟩
theorem ty79 : tyB Tryz.prog 79 Tryz.t79 Tryz.t79 := ⟨by kernel_rfl, by kernel_rfl, by kernel_rfl⟩
theorem ty80 : tyB Tryz.prog 80 Tryz.t80 Tryz.t80 := ⟨by kernel_rfl, by kernel_rfl, by kernel_rfl⟩
theorem ty81 : tyB Tryz.prog 81 Tryz.t81 Tryz.t81 := ⟨by kernel_rfl, by kernel_rfl, by kernel_rfl⟩
theorem ty82 : tyB Tryz.prog 82 Tryz.t82 Tryz.t82 := ⟨by kernel_rfl, by kernel_rfl, by kernel_rfl⟩
theorem ty83 : tyB Tryz.prog 83 Tryz.t83 Tryz.t83 := ⟨by kernel_rfl, by kernel_rfl, by kernel_rfl⟩
theorem ty84 : tyB Tryz.prog 84 Tryz.t84 Tryz.t84 := ⟨by kernel_rfl, by kernel_rfl, by kernel_rfl⟩
theorem ty85 : tyB Tryz.prog 85 Tryz.t85 Tryz.t85 := ⟨by kernel_rfl, by kernel_rfl, by kernel_rfl⟩
theorem ty86 : tyB Tryz.prog 86 Tryz.t86 Tryz.t86 := ⟨by kernel_rfl, by kernel_rfl, by kernel_rfl⟩
theorem ty87 : tyB Tryz.prog 87 Tryz.t87 Tryz.t87 := ⟨by kernel_rfl, by kernel_rfl, by kernel_rfl⟩
theorem ty88 : tyB Tryz.prog 88 Tryz.t88 Tryz.t88 := ⟨by kernel_rfl, by kernel_rfl, by kernel_rfl⟩
theorem ty89 : tyB Tryz.prog 89 Tryz.t89 Tryz.t89 := ⟨by kernel_rfl, by kernel_rfl, by kernel_rfl⟩
theorem ty90 : tyB Tryz.prog 90 Tryz.t90 Tryz.t90 := ⟨by kernel_rfl, by kernel_rfl, by kernel_rfl⟩
theorem ty91 : tyB Tryz.prog 91 Tryz.t91 Tryz.t91 := ⟨by kernel_rfl, by kernel_rfl, by kernel_rfl⟩
theorem ty92 : tyB Tryz.prog 92 Tryz.t92 Tryz.t92 := ⟨by kernel_rfl, by kernel_rfl, by kernel_rfl⟩
theorem ty93 : tyB Tryz.prog 93 Tryz.t93 Tryz.t93 := ⟨by kernel_rfl, by kernel_rfl, by kernel_rfl⟩
theorem ty95 : tyB Tryz.prog 95 Tryz.t95 Tryz.t95 := ⟨by kernel_rfl, by kernel_rfl, by kernel_rfl⟩
theorem ty96 : tyB Tryz.prog 96 Tryz.t96 Tryz.t96 := ⟨by kernel_rfl, by kernel_rfl, by kernel_rfl⟩
theorem ty97 : tyB Tryz.prog 97 Tryz.t97 Tryz.t97 := ⟨by kernel_rfl, by kernel_rfl, by kernel_rfl⟩
theorem ty98 : tyB Tryz.prog 98 Tryz.t98 Tryz.t98 := ⟨by kernel_rfl, by kernel_rfl, by kernel_rfl⟩
theorem ty99 : tyB Tryz.prog 99 Tryz.t99 Tryz.t99 := ⟨by kernel_rfl, by kernel_rfl, by kernel_rfl⟩
theorem ty100 : tyB Tryz.prog 100 Tryz.t100 Tryz.t100 := ⟨by kernel_rfl, by kernel_rfl, by kernel_rfl⟩
theorem ty101 : tyB Tryz.prog 101 Tryz.t101 Tryz.t101 := ⟨by kernel_rfl, by kernel_rfl, by kernel_rfl⟩
theorem ty102 : tyB Tryz.prog 102 Tryz.t102 Tryz.t102 := ⟨by kernel_rfl, by kernel_rfl, by kernel_rfl⟩
theorem ty103 : tyB Tryz.prog 103 Tryz.t103 Tryz.t103 := ⟨by kernel_rfl, by kernel_rfl, by kernel_rfl⟩
theorem ty104 : tyB Tryz.prog 104 Tryz.t104 Tryz.t104 := ⟨by kernel_rfl, by kernel_rfl, by kernel_rfl⟩
theorem ty105 : tyB Tryz.prog 105 Tryz.t105 Tryz.t105 := ⟨by kernel_rfl, by kernel_rfl, by kernel_rfl⟩
theorem ty106 : tyB Tryz.prog 106 Tryz.t106 Tryz.t106 := ⟨by kernel_rfl, by kernel_rfl, by kernel_rfl⟩
theorem ty107 : tyB Tryz.prog 107 Tryz.t107 Tryz.t107 := ⟨by kernel_rfl, by kernel_rfl, by kernel_rfl⟩
theorem ty108 : tyB Tryz.prog 108 Tryz.t108 Tryz.t108 := ⟨by kernel_rfl, by kernel_rfl, by kernel_rfl⟩
theorem ty109 : tyB Tryz.prog 109 Tryz.t109 Tryz.t109 := ⟨by kernel_rfl, by kernel_rfl, by kernel_rfl⟩
theorem ty110 : tyB Tryz.prog 110 Tryz.t110 Tryz.t110 := ⟨by kernel_rfl, by kernel_rfl, by kernel_rfl⟩
theorem ty111 : tyB Tryz.prog 111 Tryz.t111 Tryz.t111 := ⟨by kernel_rfl, by kernel_rfl, by kernel_rfl⟩
theorem ty112 : tyB Tryz.prog 112 Tryz.t112 Tryz.t112 := ⟨by kernel_rfl, by kernel_rfl, by kernel_rfl⟩
theorem ty113 : tyB Tryz.prog 113 Tryz.t113 Tryz.t113 := ⟨by kernel_rfl, by kernel_rfl, by kernel_rfl⟩
theorem ty114 : tyB Tryz.prog 114 Tryz.t114 Tryz.t114 := ⟨by kernel_rfl, by kernel_rfl, by kernel_rfl⟩
theorem ty115 : tyB Tryz.prog 115 Tryz.t115 Tryz.t115 := ⟨by kernel_rfl, by kernel_rfl, by kernel_rfl⟩
theorem ty116 : tyB Tryz.prog 116 Tryz.t116 Tryz.t116 := ⟨by kernel_rfl, by kernel_rfl, by kernel_rfl⟩
theorem ty117 : tyB Tryz.prog 117 Tryz.t117 Tryz.t117 := ⟨by kernel_rfl, by kernel_rfl, by kernel_rfl⟩
theorem ty118 : tyB Tryz.prog 118 Tryz.t118 Tryz.t118 := ⟨by kernel_rfl, by kernel_rfl, by kernel_rfl⟩
theorem ty119 : tyB Tryz.prog 119 Tryz.t119 Tryz.t119 := ⟨by kernel_rfl, by kernel_rfl, by kernel_rfl⟩
theorem ty120 : tyB Tryz.prog 120 Tryz.t120 Tryz.t120 := ⟨by kernel_rfl, by kernel_rfl, by kernel_rfl⟩
theorem ty122 : tyB Tryz.prog 122 Tryz.t122 Tryz.t122 := ⟨by kernel_rfl, by kernel_rfl, by kernel_rfl⟩
theorem ty123 : tyB Tryz.prog 123 Tryz.t123 Tryz.t123 := ⟨by kernel_rfl, by kernel_rfl, by kernel_rfl⟩
theorem ty124 : tyB Tryz.prog 124 Tryz.t124 Tryz.t124 := ⟨by kernel_rfl, by kernel_rfl, by kernel_rfl⟩
theorem ty125 : tyB Tryz.prog 125 Tryz.t125 Tryz.t125 := ⟨by kernel_rfl, by kernel_rfl, by kernel_rfl⟩
theorem ty127 : tyB Tryz.prog 127 Tryz.t127 Tryz.t127 := ⟨by kernel_rfl, by kernel_rfl, by kernel_rfl⟩
theorem ty128 : tyB Tryz.prog 128 Tryz.t128 Tryz.t128 := ⟨by kernel_rfl, by kernel_rfl, by kernel_rfl⟩
theorem ty129 : tyB Tryz.prog 129 Tryz.t129 Tryz.t129 := ⟨by kernel_rfl, by kernel_rfl, by kernel_rfl⟩
theorem ty130 : tyB Tryz.prog 130 Tryz.t130 Tryz.t130 := ⟨by kernel_rfl, by kernel_rfl, by kernel_rfl⟩
theorem ty131 : tyB Tryz.prog 131 Tryz.t131 Tryz.t131 := ⟨by kernel_rfl, by kernel_rfl, by kernel_rfl⟩
theorem ty132 : tyB Tryz.prog 132 Tryz.t132 Tryz.t132 := ⟨by kernel_rfl, by kernel_rfl, by kernel_rfl⟩
theorem ty133 : tyB Tryz.prog 133 Tryz.t133 Tryz.t133 := ⟨by kernel_rfl, by kernel_rfl, by kernel_rfl⟩
theorem ty134 : tyB Tryz.prog 134 Tryz.t134 Tryz.t134 := ⟨by kernel_rfl, by kernel_rfl, by kernel_rfl⟩
theorem ty135 : tyB Tryz.prog 135 Tryz.t135 Tryz.t135 := ⟨by kernel_rfl, by kernel_rfl, by kernel_rfl⟩
theorem ty136 : tyB Tryz.prog 136 Tryz.t136 Tryz.t136 := ⟨by kernel_rfl, by kernel_rfl, by kernel_rfl⟩
theorem ty137 : tyB Tryz.prog 137 Tryz.t137 Tryz.t137 := ⟨by kernel_rfl, by kernel_rfl, by kernel_rfl⟩
theorem ty138 : tyB Tryz.prog 138 Tryz.t138 Tryz.t138 := ⟨by kernel_rfl, by kernel_rfl, by kernel_rfl⟩
theorem ty139 : tyB Tryz.prog 139 Tryz.t139 Tryz.t139 := ⟨by kernel_rfl, by kernel_rfl, by kernel_rfl⟩
theorem ty141 : tyB Tryz.prog 141 Tryz.t141 Tryz.t141 := ⟨by kernel_rfl, by kernel_rfl, by kernel_rfl⟩
theorem ty142 : tyB Tryz.prog 142 Tryz.t142 Tryz.t142 := ⟨by kernel_rfl, by kernel_rfl, by kernel_rfl⟩
theorem ty143 : tyB Tryz.prog 143 Tryz.t143 Tryz.t143 := ⟨by kernel_rfl, by kernel_rfl, by kernel_rfl⟩
theorem ty144 : tyB Tryz.prog 144 Tryz.t144 Tryz.t144 := ⟨by kernel_rfl, by kernel_rfl, by kernel_rfl⟩
theorem ty145 : tyB Tryz.prog 145 Tryz.t145 Tryz.t145 := ⟨by kernel_rfl, by kernel_rfl, by kernel_rfl⟩
theorem ty146 : tyB Tryz.prog 146 Tryz.t146 Tryz.t146 := ⟨by kernel_rfl, by kernel_rfl, by kernel_rfl⟩
theorem ty147 : tyB Tryz.prog 147 Tryz.t147 Tryz.t147 := ⟨by kernel_rfl, by kernel_rfl, by kernel_rfl⟩
theorem ty148 : tyB Tryz.prog 148 Tryz.t148 Tryz.t3 := ⟨by kernel_rfl, by kernel_rfl, by kernel_rfl⟩
theorem ty150 : tyB Tryz.prog 150 Tryz.t150 Tryz.t150 := ⟨by kernel_rfl, by kernel_rfl, by kernel_rfl⟩
theorem ty151 : tyB Tryz.prog 151 Tryz.t151 Tryz.t151 := ⟨by kernel_rfl, by kernel_rfl, by kernel_rfl⟩
theorem ty152 : tyB Tryz.prog 152 Tryz.t152 Tryz.t152 := ⟨by kernel_rfl, by kernel_rfl, by kernel_rfl⟩
theorem ty153 : tyB Tryz.prog 153 Tryz.t153 Tryz.t153 := ⟨by kernel_rfl, by kernel_rfl, by kernel_rfl⟩
theorem ty154 : tyB Tryz.prog 154 Tryz.t154 Tryz.t154 := ⟨by kernel_rfl, by kernel_rfl, by kernel_rfl⟩
theorem ty155 : tyB Tryz.prog 155 Tryz.t155 Tryz.t155 := ⟨by kernel_rfl, by kernel_rfl, by kernel_rfl⟩
theorem ty156 : tyB Tryz.prog 156 Tryz.t156 Tryz.t156 := ⟨by kernel_rfl, by kernel_rfl, by kernel_rfl⟩
theorem ty157 : tyB Tryz.prog 157 Tryz.t157 Tryz.t157 := ⟨by kernel_rfl, by kernel_rfl, by kernel_rfl⟩
theorem ty158 : tyB Tryz.prog 158 Tryz.t158 Tryz.t158 := ⟨by kernel_rfl, by kernel_rfl, by kernel_rfl⟩
theorem ty159 : tyB Tryz.prog 159 Tryz.t159 Tryz.t159 := ⟨by kernel_rfl, by kernel_rfl, by kernel_rfl⟩
theorem ty160 : tyB Tryz.prog 160 Tryz.t160 Tryz.t160 := ⟨by kernel_rfl, by kernel_rfl, by kernel_rfl⟩
theorem ty161 : tyB Tryz.prog 161 Tryz.t161 Tryz.t161 := ⟨by kernel_rfl, by kernel_rfl, by kernel_rfl⟩
theorem ty162 : tyB Tryz.prog 162 Tryz.t162 Tryz.t162 := ⟨by kernel_rfl, by kernel_rfl, by kernel_rfl⟩
theorem ty163 : tyB Tryz.prog 163 Tryz.t163 Tryz.t163 := ⟨by kernel_rfl, by kernel_rfl, by kernel_rfl⟩
theorem ty164 : tyB Tryz.prog 164 Tryz.t164 Tryz.t164 := ⟨by kernel_rfl, by kernel_rfl, by kernel_rfl⟩
theorem ty165 : tyB Tryz.prog 165 Tryz.t165 Tryz.t165 := ⟨by kernel_rfl, by kernel_rfl, by kernel_rfl⟩
theorem ty166 : tyB Tryz.prog 166 Tryz.t166 Tryz.t166 := ⟨by kernel_rfl, by kernel_rfl, by kernel_rfl⟩
theorem ty167 : tyB Tryz.prog 167 Tryz.t167 Tryz.t167 := ⟨by kernel_rfl, by kernel_rfl, by kernel_rfl⟩
theorem ty168 : tyB Tryz.prog 168 Tryz.t168 Tryz.t168 := ⟨by kernel_rfl, by kernel_rfl, by kernel_rfl⟩
theorem ty169 : tyB Tryz.prog 169 Tryz.t169 Tryz.t3 := ⟨by kernel_rfl, by kernel_rfl, by kernel_rfl⟩
theorem ty171 : tyB Tryz.prog 171 Tryz.t171 Tryz.t171 := ⟨by kernel_rfl, by kernel_rfl, by kernel_rfl⟩
theorem ty172 : tyB Tryz.prog 172 Tryz.t172 Tryz.t172 := ⟨by kernel_rfl, by kernel_rfl, by kernel_rfl⟩
theorem ty173 : tyB Tryz.prog 173 Tryz.t173 Tryz.t173 := ⟨by kernel_rfl, by kernel_rfl, by kernel_rfl⟩
theorem ty174 : tyB Tryz.prog 174 Tryz.t174 Tryz.t174 := ⟨by kernel_rfl, by kernel_rfl, by kernel_rfl⟩
theorem ty175 : tyB Tryz.prog 175 Tryz.t175 Tryz.t175 := ⟨by kernel_rfl, by kernel_rfl, by kernel_rfl⟩
theorem ty176 : tyB Tryz.prog 176 Tryz.t176 Tryz.t176 := ⟨by kernel_rfl, by kernel_rfl, by kernel_rfl⟩
theorem ty177 : tyB Tryz.prog 177 Tryz.t177 Tryz.t177 := ⟨by kernel_rfl, by kernel_rfl, by kernel_rfl⟩
theorem ty178 : tyB Tryz.prog 178 Tryz.t178 Tryz.t178 := ⟨by kernel_rfl, by kernel_rfl, by kernel_rfl⟩
theorem ty179 : tyB Tryz.prog 179 Tryz.t179 Tryz.t178 := ⟨by kernel_rfl, by kernel_rfl, by kernel_rfl⟩
theorem ty180 : tyB Tryz.prog 180 Tryz.t180 Tryz.t180 := ⟨by kernel_rfl, by kernel_rfl, by kernel_rfl⟩
theorem ty181 : tyB Tryz.prog 181 Tryz.t181 Tryz.t181 := ⟨by kernel_rfl, by kernel_rfl, by kernel_rfl⟩
theorem ty182 : tyB Tryz.prog 182 Tryz.t182 Tryz.t41 := ⟨by kernel_rfl, by kernel_rfl, by kernel_rfl⟩
theorem ty183 : tyB Tryz.prog 183 Tryz.t183 Tryz.t183 := ⟨by kernel_rfl, by kernel_rfl, by kernel_rfl⟩
theorem ty184 : tyB Tryz.prog 184 Tryz.t184 Tryz.t184 := ⟨by kernel_rfl, by kernel_rfl, by kernel_rfl⟩
theorem ty185 : tyB Tryz.prog 185 Tryz.t185 Tryz.t185 := ⟨by kernel_rfl, by kernel_rfl, by kernel_rfl⟩
theorem ty186 : tyB Tryz.prog 186 Tryz.t186 Tryz.t186 := ⟨by kernel_rfl, by kernel_rfl, by kernel_rfl⟩
theorem ty187 : tyB Tryz.prog 187 Tryz.t187 Tryz.t187 := ⟨by kernel_rfl, by kernel_rfl, by kernel_rfl⟩
theorem ty188 : tyB Tryz.prog 188 Tryz.t188 Tryz.t188 := ⟨by kernel_rfl, by kernel_rfl, by kernel_rfl⟩
theorem ty189 : tyB Tryz.prog 189 Tryz.t189 Tryz.t189 := ⟨by kernel_rfl, by kernel_rfl, by kernel_rfl⟩
theorem ty190 : tyB Tryz.prog 190 Tryz.t190 Tryz.t190 := ⟨by kernel_rfl, by kernel_rfl, by kernel_rfl⟩
theorem ty191 : tyB Tryz.prog 191 Tryz.t191 Tryz.t191 := ⟨by kernel_rfl, by kernel_rfl, by kernel_rfl⟩
theorem ty192 : tyB Tryz.prog 192 Tryz.t192 Tryz.t192 := ⟨by kernel_rfl, by kernel_rfl, by kernel_rfl⟩
theorem ty193 : tyB Tryz.prog 193 Tryz.t193 Tryz.t192 := ⟨by kernel_rfl, by kernel_rfl, by kernel_rfl⟩
theorem ty194 : tyB Tryz.prog 194 Tryz.t194 Tryz.t194 := ⟨by kernel_rfl, by kernel_rfl, by kernel_rfl⟩
theorem ty195 : tyB Tryz.prog 195 Tryz.t195 Tryz.t195 := ⟨by kernel_rfl, by kernel_rfl, by kernel_rfl⟩
theorem ty196 : tyB Tryz.prog 196 Tryz.t196 Tryz.t195 := ⟨by kernel_rfl, by kernel_rfl, by kernel_rfl⟩
theorem ty197 : tyB Tryz.prog 197 Tryz.t197 Tryz.t197 := ⟨by kernel_rfl, by kernel_rfl, by kernel_rfl⟩
theorem ty198 : tyB Tryz.prog 198 Tryz.t198 Tryz.t5 := ⟨by kernel_rfl, by kernel_rfl, by kernel_rfl⟩
theorem ty199 : tyB Tryz.prog 199 Tryz.t199 Tryz.t5 := ⟨by kernel_rfl, by kernel_rfl, by kernel_rfl⟩
theorem ty200 : tyB Tryz.prog 200 Tryz.t200 Tryz.t200 := ⟨by kernel_rfl, by kernel_rfl, by kernel_rfl⟩
theorem ty201 : tyB Tryz.prog 201 Tryz.t201 Tryz.t201 := ⟨by kernel_rfl, by kernel_rfl, by kernel_rfl⟩
theorem ty202 : tyB Tryz.prog 202 Tryz.t202 Tryz.t21 := ⟨by kernel_rfl, by kernel_rfl, by kernel_rfl⟩
theorem ty203 : tyB Tryz.prog 203 Tryz.t203 Tryz.t21 := ⟨by kernel_rfl, by kernel_rfl, by kernel_rfl⟩
theorem ty204 : tyB Tryz.prog 204 Tryz.t204 Tryz.t204 := ⟨by kernel_rfl, by kernel_rfl, by kernel_rfl⟩
theorem ty205 : tyB Tryz.prog 205 Tryz.t205 Tryz.t204 := ⟨by kernel_rfl, by kernel_rfl, by kernel_rfl⟩
theorem ty206 : tyB Tryz.prog 206 Tryz.t206 Tryz.t206 := ⟨by kernel_rfl, by kernel_rfl, by kernel_rfl⟩
theorem ty207 : tyB Tryz.prog 207 Tryz.t207 Tryz.t206 := ⟨by kernel_rfl, by kernel_rfl, by kernel_rfl⟩
theorem ty208 : tyB Tryz.prog 208 Tryz.t208 Tryz.t208 := ⟨by kernel_rfl, by kernel_rfl, by kernel_rfl⟩
theorem cm23 : cmpB Tryz.prog 23 Tryz.t22 := ⟨by kernel_rfl, by kernel_rfl, by kernel_rfl⟩
theorem cm25 : cmpB Tryz.prog 25 Tryz.t24 := ⟨by kernel_rfl, by kernel_rfl, by kernel_rfl⟩
theorem cm43 : cmpB Tryz.prog 43 Tryz.t42 := ⟨by kernel_rfl, by kernel_rfl, by kernel_rfl⟩
theorem cm67 : cmpB Tryz.prog 67 Tryz.t66 := ⟨by kernel_rfl, by kernel_rfl, by kernel_rfl⟩
theorem tys_ok : TT.ok Tryz.prog (.node (.node (.node (.node (.node (.node (.node (.leaf 128 Tryz.t128 Tryz.t128 false) (.node (.leaf 64 Tryz.t64 Tryz.t64 false) (.leaf 192 Tryz.t192 Tryz.t192 false))) (.node (.node (.leaf 32 Tryz.t32 Tryz.t31 false) (.leaf 160 Tryz.t160 Tryz.t160 false)) (.leaf 96 Tryz.t96 Tryz.t96 false))) (.node (.node (.node (.leaf 16 Tryz.t16 Tryz.t16 false) (.leaf 144 Tryz.t144 Tryz.t144 false)) (.node (.leaf 80 Tryz.t80 Tryz.t80 false) (.leaf 208 Tryz.t208 Tryz.t208 false))) (.node (.node (.leaf 48 Tryz.t48 Tryz.t48 false) (.leaf 176 Tryz.t176 Tryz.t176 false)) (.leaf 112 Tryz.t112 Tryz.t112 false)))) (.node (.node (.node (.node (.leaf 8 Tryz.t8 Tryz.t7 false) (.leaf 136 Tryz.t136 Tryz.t136 false)) (.node (.leaf 72 Tryz.t72 Tryz.t72 false) (.leaf 200 Tryz.t200 Tryz.t200 false))) (.node (.node (.leaf 40 Tryz.t40 Tryz.t40 false) (.leaf 168 Tryz.t168 Tryz.t168 false)) (.leaf 104 Tryz.t104 Tryz.t104 false))) (.node (.node (.node (.leaf 24 Tryz.t24 Tryz.t24 false) (.leaf 152 Tryz.t152 Tryz.t152 false)) (.leaf 88 Tryz.t88 Tryz.t88 false)) (.node (.leaf 184 Tryz.t184 Tryz.t184 false) (.leaf 120 Tryz.t120 Tryz.t120 false))))) (.node (.node (.node (.node (.node (.leaf 4 Tryz.t4 Tryz.t4 false) (.leaf 132 Tryz.t132 Tryz.t132 false)) (.node (.leaf 68 Tryz.t68 Tryz.t68 false) (.leaf 196 Tryz.t196 Tryz.t195 false))) (.node (.node (.leaf 36 Tryz.t36 Tryz.t36 false) (.leaf 164 Tryz.t164 Tryz.t164 false)) (.leaf 100 Tryz.t100 Tryz.t100 false))) (.node (.node (.node (.leaf 20 Tryz.t20 Tryz.t20 false) (.leaf 148 Tryz.t148 Tryz.t3 false)) (.leaf 84 Tryz.t84 Tryz.t84 false)) (.node (.leaf 180 Tryz.t180 Tryz.t180 false) (.leaf 116 Tryz.t116 Tryz.t116 false)))) (.node (.node (.node (.leaf 12 Tryz.t12 Tryz.t12 false) (.node (.leaf 76 Tryz.t76 Tryz.t76 false) (.leaf 204 Tryz.t204 Tryz.t204 false))) (.node (.node (.leaf 44 Tryz.t44 Tryz.t44 false) (.leaf 172 Tryz.t172 Tryz.t172 false)) (.leaf 108 Tryz.t108 Tryz.t108 false))) (.node (.node (.node (.leaf 28 Tryz.t28 Tryz.t27 false) (.leaf 156 Tryz.t156 Tryz.t156 false)) (.leaf 92 Tryz.t92 Tryz.t92 false)) (.node (.node (.leaf 60 Tryz.t60 Tryz.t60 false) (.leaf 188 Tryz.t188 Tryz.t188 false)) (.leaf 124 Tryz.t124 Tryz.t124 false)))))) (.node (.node (.node (.node (.node (.node (.leaf 2 Tryz.t2 Tryz.t2 false) (.leaf 130 Tryz.t130 Tryz.t130 false)) (.node (.leaf 66 Tryz.t66 Tryz.t66 false) (.leaf 194 Tryz.t194 Tryz.t194 false))) (.node (.node (.leaf 34 Tryz.t34 Tryz.t34 false) (.leaf 162 Tryz.t162 Tryz.t162 false)) (.leaf 98 Tryz.t98 Tryz.t98 false))) (.node (.node (.node (.leaf 18 Tryz.t18 Tryz.t18 false) (.leaf 146 Tryz.t146 Tryz.t146 false)) (.leaf 82 Tryz.t82 Tryz.t82 false)) (.node (.node (.leaf 50 Tryz.t50 Tryz.t50 false) (.leaf 178 Tryz.t178 Tryz.t178 false)) (.leaf 114 Tryz.t114 Tryz.t114 false)))) (.node (.node (.node (.node (.leaf 10 Tryz.t10 Tryz.t9 false) (.leaf 138 Tryz.t138 Tryz.t138 false)) (.node (.leaf 74 Tryz.t74 Tryz.t74 false) (.leaf 202 Tryz.t202 Tryz.t21 false))) (.node (.leaf 42 Tryz.t42 Tryz.t42 false) (.leaf 106 Tryz.t106 Tryz.t106 false))) (.node (.node (.node (.leaf 26 Tryz.t26 Tryz.t26 false) (.leaf 154 Tryz.t154 Tryz.t154 false)) (.leaf 90 Tryz.t90 Tryz.t90 false)) (.node (.node (.leaf 58 Tryz.t58 Tryz.t58 false) (.leaf 186 Tryz.t186 Tryz.t186 false)) (.leaf 122 Tryz.t122 Tryz.t122 false))))) (.node (.node (.node (.node (.node (.leaf 6 Tryz.t6 Tryz.t5 false) (.leaf 134 Tryz.t134 Tryz.t134 false)) (.node (.leaf 70 Tryz.t70 Tryz.t70 false) (.leaf 198 Tryz.t198 Tryz.t5 false))) (.node (.node (.leaf 38 Tryz.t38 Tryz.t38 false) (.leaf 166 Tryz.t166 Tryz.t166 false)) (.leaf 102 Tryz.t102 Tryz.t102 false))) (.node (.node (.node (.leaf 22 Tryz.t22 Tryz.t22 false) (.leaf 150 Tryz.t150 Tryz.t150 false)) (.leaf 86 Tryz.t86 Tryz.t86 false)) (.node (.node (.leaf 54 Tryz.t54 Tryz.t54 false) (.leaf 182 Tryz.t182 Tryz.t41 false)) (.leaf 118 Tryz.t118 Tryz.t118 false)))) (.node (.node (.node (.node (.leaf 14 Tryz.t14 Tryz.t13 false) (.leaf 142 Tryz.t142 Tryz.t142 false)) (.node (.leaf 78 Tryz.t78 Tryz.t78 false) (.leaf 206 Tryz.t206 Tryz.t206 false))) (.node (.node (.leaf 46 Tryz.t46 Tryz.t46 false) (.leaf 174 Tryz.t174 Tryz.t174 false)) (.leaf 110 Tryz.t110 Tryz.t110 false))) (.node (.node (.node (.leaf 30 Tryz.t30 Tryz.t29 false) (.leaf 158 Tryz.t158 Tryz.t158 false)) .nil) (.node (.node (.leaf 62 Tryz.t62 Tryz.t62 false) (.leaf 190 Tryz.t190 Tryz.t190 false)) .nil)))))) (.node (.node (.node (.node (.node (.node (.node (.leaf 1 Tryz.t1 Tryz.t1 false) (.leaf 129 Tryz.t129 Tryz.t129 false)) (.node (.leaf 65 Tryz.t65 Tryz.t65 false) (.leaf 193 Tryz.t193 Tryz.t192 false))) (.node (.node (.leaf 33 Tryz.t33 Tryz.t33 false) (.leaf 161 Tryz.t161 Tryz.t161 false)) (.leaf 97 Tryz.t97 Tryz.t97 false))) (.node (.node (.node (.leaf 17 Tryz.t17 Tryz.t17 false) (.leaf 145 Tryz.t145 Tryz.t145 false)) (.leaf 81 Tryz.t81 Tryz.t81 false)) (.node (.node (.leaf 49 Tryz.t49 Tryz.t49 false) (.leaf 177 Tryz.t177 Tryz.t177 false)) (.leaf 113 Tryz.t113 Tryz.t113 false)))) (.node (.node (.node (.node (.leaf 9 Tryz.t9 Tryz.t9 false) (.leaf 137 Tryz.t137 Tryz.t137 false)) (.node (.leaf 73 Tryz.t73 Tryz.t73 false) (.leaf 201 Tryz.t201 Tryz.t201 false))) (.node (.node (.leaf 41 Tryz.t41 Tryz.t41 false) (.leaf 169 Tryz.t169 Tryz.t3 false)) (.leaf 105 Tryz.t105 Tryz.t105 false))) (.node (.node (.node (.leaf 25 Tryz.t25 Tryz.t24 true) (.leaf 153 Tryz.t153 Tryz.t153 false)) (.leaf 89 Tryz.t89 Tryz.t89 false)) (.node (.node (.leaf 57 Tryz.t57 Tryz.t57 false) (.leaf 185 Tryz.t185 Tryz.t185 false)) .nil)))) (.node (.node (.node (.node (.node (.leaf 5 Tryz.t5 Tryz.t5 false) (.leaf 133 Tryz.t133 Tryz.t133 false)) (.node (.leaf 69 Tryz.t69 Tryz.t68 false) (.leaf 197 Tryz.t197 Tryz.t197 false))) (.node (.node (.leaf 37 Tryz.t37 Tryz.t37 false) (.leaf 165 Tryz.t165 Tryz.t165 false)) (.leaf 101 Tryz.t101 Tryz.t101 false))) (.node (.node (.leaf 21 Tryz.t21 Tryz.t21 false) (.leaf 85 Tryz.t85 Tryz.t85 false)) (.node (.node (.leaf 53 Tryz.t53 Tryz.t53 false) (.leaf 181 Tryz.t181 Tryz.t181 false)) (.leaf 117 Tryz.t117 Tryz.t117 false)))) (.node (.node (.node (.node (.leaf 13 Tryz.t13 Tryz.t13 false) (.leaf 141 Tryz.t141 Tryz.t141 false)) (.node (.leaf 77 Tryz.t77 Tryz.t77 false) (.leaf 205 Tryz.t205 Tryz.t204 false))) (.node (.node (.leaf 45 Tryz.t45 Tryz.t45 false) (.leaf 173 Tryz.t173 Tryz.t173 false)) (.leaf 109 Tryz.t109 Tryz.t109 false))) (.node (.node (.node (.leaf 29 Tryz.t29 Tryz.t29 false) (.leaf 157 Tryz.t157 Tryz.t157 false)) (.leaf 93 Tryz.t93 Tryz.t93 false)) (.node (.node (.leaf 61 Tryz.t61 Tryz.t60 false) (.leaf 189 Tryz.t189 Tryz.t189 false)) (.leaf 125 Tryz.t125 Tryz.t125 false)))))) (.node (.node (.node (.node (.node (.node (.leaf 3 Tryz.t3 Tryz.t3 false) (.leaf 131 Tryz.t131 Tryz.t131 false)) (.node (.leaf 67 Tryz.t67 Tryz.t66 true) (.leaf 195 Tryz.t195 Tryz.t195 false))) (.node (.node (.leaf 35 Tryz.t35 Tryz.t35 false) (.leaf 163 Tryz.t163 Tryz.t163 false)) (.leaf 99 Tryz.t99 Tryz.t99 false))) (.node (.node (.node (.leaf 19 Tryz.t19 Tryz.t18 false) (.leaf 147 Tryz.t147 Tryz.t147 false)) (.leaf 83 Tryz.t83 Tryz.t83 false)) (.node (.node (.leaf 51 Tryz.t51 Tryz.t51 false) (.leaf 179 Tryz.t179 Tryz.t178 false)) (.leaf 115 Tryz.t115 Tryz.t115 false)))) (.node (.node (.node (.node (.leaf 11 Tryz.t11 Tryz.t9 false) (.leaf 139 Tryz.t139 Tryz.t139 false)) (.node (.leaf 75 Tryz.t75 Tryz.t75 false) (.leaf 203 Tryz.t203 Tryz.t21 false))) (.node (.node (.leaf 43 Tryz.t43 Tryz.t42 true) (.leaf 171 Tryz.t171 Tryz.t171 false)) (.leaf 107 Tryz.t107 Tryz.t107 false))) (.node (.node (.node (.leaf 27 Tryz.t27 Tryz.t27 false) (.leaf 155 Tryz.t155 Tryz.t155 false)) (.leaf 91 Tryz.t91 Tryz.t91 false)) (.node (.node (.leaf 59 Tryz.t59 Tryz.t59 false) (.leaf 187 Tryz.t187 Tryz.t187 false)) (.leaf 123 Tryz.t123 Tryz.t123 false))))) (.node (.node (.node (.node (.node (.leaf 7 Tryz.t7 Tryz.t7 false) (.leaf 135 Tryz.t135 Tryz.t135 false)) (.node (.leaf 71 Tryz.t71 Tryz.t71 false) (.leaf 199 Tryz.t199 Tryz.t5 false))) (.node (.leaf 167 Tryz.t167 Tryz.t167 false) (.leaf 103 Tryz.t103 Tryz.t103 false))) (.node (.node (.node (.leaf 23 Tryz.t23 Tryz.t22 true) (.leaf 151 Tryz.t151 Tryz.t151 false)) (.leaf 87 Tryz.t87 Tryz.t87 false)) (.node (.node (.leaf 55 Tryz.t55 Tryz.t55 false) (.leaf 183 Tryz.t183 Tryz.t183 false)) (.leaf 119 Tryz.t119 Tryz.t119 false)))) (.node (.node (.node (.node (.leaf 15 Tryz.t15 Tryz.t15 false) (.leaf 143 Tryz.t143 Tryz.t143 false)) (.node (.leaf 79 Tryz.t79 Tryz.t79 false) (.leaf 207 Tryz.t207 Tryz.t206 false))) (.node (.node (.leaf 47 Tryz.t47 Tryz.t47 false) (.leaf 175 Tryz.t175 Tryz.t175 false)) (.leaf 111 Tryz.t111 Tryz.t111 false))) (.node (.node (.node (.leaf 31 Tryz.t31 Tryz.t31 false) (.leaf 159 Tryz.t159 Tryz.t159 false)) (.leaf 95 Tryz.t95 Tryz.t95 false)) (.node (.node (.leaf 63 Tryz.t63 Tryz.t63 false) (.leaf 191 Tryz.t191 Tryz.t191 false)) (.leaf 127 Tryz.t127 Tryz.t127 false)))))))) := ⟨⟨⟨⟨⟨⟨⟨⟨ty128, trivial⟩, ⟨⟨ty64, trivial⟩, ⟨ty192, trivial⟩⟩⟩, ⟨⟨⟨ty32, trivial⟩, ⟨ty160, trivial⟩⟩, ⟨ty96, trivial⟩⟩⟩, ⟨⟨⟨⟨ty16, trivial⟩, ⟨ty144, trivial⟩⟩, ⟨⟨ty80, trivial⟩, ⟨ty208, trivial⟩⟩⟩, ⟨⟨⟨ty48, trivial⟩, ⟨ty176, trivial⟩⟩, ⟨ty112, trivial⟩⟩⟩⟩, ⟨⟨⟨⟨⟨ty8, trivial⟩, ⟨ty136, trivial⟩⟩, ⟨⟨ty72, trivial⟩, ⟨ty200, trivial⟩⟩⟩, ⟨⟨⟨ty40, trivial⟩, ⟨ty168, trivial⟩⟩, ⟨ty104, trivial⟩⟩⟩, ⟨⟨⟨⟨ty24, trivial⟩, ⟨ty152, trivial⟩⟩, ⟨ty88, trivial⟩⟩, ⟨⟨ty184, trivial⟩, ⟨ty120, trivial⟩⟩⟩⟩⟩, ⟨⟨⟨⟨⟨⟨ty4, trivial⟩, ⟨ty132, trivial⟩⟩, ⟨⟨ty68, trivial⟩, ⟨ty196, trivial⟩⟩⟩, ⟨⟨⟨ty36, trivial⟩, ⟨ty164, trivial⟩⟩, ⟨ty100, trivial⟩⟩⟩, ⟨⟨⟨⟨ty20, trivial⟩, ⟨ty148, trivial⟩⟩, ⟨ty84, trivial⟩⟩, ⟨⟨ty180, trivial⟩, ⟨ty116, trivial⟩⟩⟩⟩, ⟨⟨⟨⟨ty12, trivial⟩, ⟨⟨ty76, trivial⟩, ⟨ty204, trivial⟩⟩⟩, ⟨⟨⟨ty44, trivial⟩, ⟨ty172, trivial⟩⟩, ⟨ty108, trivial⟩⟩⟩, ⟨⟨⟨⟨ty28, trivial⟩, ⟨ty156, trivial⟩⟩, ⟨ty92, trivial⟩⟩, ⟨⟨⟨ty60, trivial⟩, ⟨ty188, trivial⟩⟩, ⟨ty124, trivial⟩⟩⟩⟩⟩⟩, ⟨⟨⟨⟨⟨⟨⟨ty2, trivial⟩, ⟨ty130, trivial⟩⟩, ⟨⟨ty66, trivial⟩, ⟨ty194, trivial⟩⟩⟩, ⟨⟨⟨ty34, trivial⟩, ⟨ty162, trivial⟩⟩, ⟨ty98, trivial⟩⟩⟩, ⟨⟨⟨⟨ty18, trivial⟩, ⟨ty146, trivial⟩⟩, ⟨ty82, trivial⟩⟩, ⟨⟨⟨ty50, trivial⟩, ⟨ty178, trivial⟩⟩, ⟨ty114, trivial⟩⟩⟩⟩, ⟨⟨⟨⟨⟨ty10, trivial⟩, ⟨ty138, trivial⟩⟩, ⟨⟨ty74, trivial⟩, ⟨ty202, trivial⟩⟩⟩, ⟨⟨ty42, trivial⟩, ⟨ty106, trivial⟩⟩⟩, ⟨⟨⟨⟨ty26, trivial⟩, ⟨ty154, trivial⟩⟩, ⟨ty90, trivial⟩⟩, ⟨⟨⟨ty58, trivial⟩, ⟨ty186, trivial⟩⟩, ⟨ty122, trivial⟩⟩⟩⟩⟩, ⟨⟨⟨⟨⟨⟨ty6, trivial⟩, ⟨ty134, trivial⟩⟩, ⟨⟨ty70, trivial⟩, ⟨ty198, trivial⟩⟩⟩, ⟨⟨⟨ty38, trivial⟩, ⟨ty166, trivial⟩⟩, ⟨ty102, trivial⟩⟩⟩, ⟨⟨⟨⟨ty22, trivial⟩, ⟨ty150, trivial⟩⟩, ⟨ty86, trivial⟩⟩, ⟨⟨⟨ty54, trivial⟩, ⟨ty182, trivial⟩⟩, ⟨ty118, trivial⟩⟩⟩⟩, ⟨⟨⟨⟨⟨ty14, trivial⟩, ⟨ty142, trivial⟩⟩, ⟨⟨ty78, trivial⟩, ⟨ty206, trivial⟩⟩⟩, ⟨⟨⟨ty46, trivial⟩, ⟨ty174, trivial⟩⟩, ⟨ty110, trivial⟩⟩⟩, ⟨⟨⟨⟨ty30, trivial⟩, ⟨ty158, trivial⟩⟩, trivial⟩, ⟨⟨⟨ty62, trivial⟩, ⟨ty190, trivial⟩⟩, trivial⟩⟩⟩⟩⟩⟩, ⟨⟨⟨⟨⟨⟨⟨⟨ty1, trivial⟩, ⟨ty129, trivial⟩⟩, ⟨⟨ty65, trivial⟩, ⟨ty193, trivial⟩⟩⟩, ⟨⟨⟨ty33, trivial⟩, ⟨ty161, trivial⟩⟩, ⟨ty97, trivial⟩⟩⟩, ⟨⟨⟨⟨ty17, trivial⟩, ⟨ty145, trivial⟩⟩, ⟨ty81, trivial⟩⟩, ⟨⟨⟨ty49, trivial⟩, ⟨ty177, trivial⟩⟩, ⟨ty113, trivial⟩⟩⟩⟩, ⟨⟨⟨⟨⟨ty9, trivial⟩, ⟨ty137, trivial⟩⟩, ⟨⟨ty73, trivial⟩, ⟨ty201, trivial⟩⟩⟩, ⟨⟨⟨ty41, trivial⟩, ⟨ty169, trivial⟩⟩, ⟨ty105, trivial⟩⟩⟩, ⟨⟨⟨⟨ty25, cm25⟩, ⟨ty153, trivial⟩⟩, ⟨ty89, trivial⟩⟩, ⟨⟨⟨ty57, trivial⟩, ⟨ty185, trivial⟩⟩, trivial⟩⟩⟩⟩, ⟨⟨⟨⟨⟨⟨ty5, trivial⟩, ⟨ty133, trivial⟩⟩, ⟨⟨ty69, trivial⟩, ⟨ty197, trivial⟩⟩⟩, ⟨⟨⟨ty37, trivial⟩, ⟨ty165, trivial⟩⟩, ⟨ty101, trivial⟩⟩⟩, ⟨⟨⟨ty21, trivial⟩, ⟨ty85, trivial⟩⟩, ⟨⟨⟨ty53, trivial⟩, ⟨ty181, trivial⟩⟩, ⟨ty117, trivial⟩⟩⟩⟩, ⟨⟨⟨⟨⟨ty13, trivial⟩, ⟨ty141, trivial⟩⟩, ⟨⟨ty77, trivial⟩, ⟨ty205, trivial⟩⟩⟩, ⟨⟨⟨ty45, trivial⟩, ⟨ty173, trivial⟩⟩, ⟨ty109, trivial⟩⟩⟩, ⟨⟨⟨⟨ty29, trivial⟩, ⟨ty157, trivial⟩⟩, ⟨ty93, trivial⟩⟩, ⟨⟨⟨ty61, trivial⟩, ⟨ty189, trivial⟩⟩, ⟨ty125, trivial⟩⟩⟩⟩⟩⟩, ⟨⟨⟨⟨⟨⟨⟨ty3, trivial⟩, ⟨ty131, trivial⟩⟩, ⟨⟨ty67, cm67⟩, ⟨ty195, trivial⟩⟩⟩, ⟨⟨⟨ty35, trivial⟩, ⟨ty163, trivial⟩⟩, ⟨ty99, trivial⟩⟩⟩, ⟨⟨⟨⟨ty19, trivial⟩, ⟨ty147, trivial⟩⟩, ⟨ty83, trivial⟩⟩, ⟨⟨⟨ty51, trivial⟩, ⟨ty179, trivial⟩⟩, ⟨ty115, trivial⟩⟩⟩⟩, ⟨⟨⟨⟨⟨ty11, trivial⟩, ⟨ty139, trivial⟩⟩, ⟨⟨ty75, trivial⟩, ⟨ty203, trivial⟩⟩⟩, ⟨⟨⟨ty43, cm43⟩, ⟨ty171, trivial⟩⟩, ⟨ty107, trivial⟩⟩⟩, ⟨⟨⟨⟨ty27, trivial⟩, ⟨ty155, trivial⟩⟩, ⟨ty91, trivial⟩⟩, ⟨⟨⟨ty59, trivial⟩, ⟨ty187, trivial⟩⟩, ⟨ty123, trivial⟩⟩⟩⟩⟩, ⟨⟨⟨⟨⟨⟨ty7, trivial⟩, ⟨ty135, trivial⟩⟩, ⟨⟨ty71, trivial⟩, ⟨ty199, trivial⟩⟩⟩, ⟨⟨ty167, trivial⟩, ⟨ty103, trivial⟩⟩⟩, ⟨⟨⟨⟨ty23, cm23⟩, ⟨ty151, trivial⟩⟩, ⟨ty87, trivial⟩⟩, ⟨⟨⟨ty55, trivial⟩, ⟨ty183, trivial⟩⟩, ⟨ty119, trivial⟩⟩⟩⟩, ⟨⟨⟨⟨⟨ty15, trivial⟩, ⟨ty143, trivial⟩⟩, ⟨⟨ty79, trivial⟩, ⟨ty207, trivial⟩⟩⟩, ⟨⟨⟨ty47, trivial⟩, ⟨ty175, trivial⟩⟩, ⟨ty111, trivial⟩⟩⟩, ⟨⟨⟨⟨ty31, trivial⟩, ⟨ty159, trivial⟩⟩, ⟨ty95, trivial⟩⟩, ⟨⟨⟨ty63, trivial⟩, ⟨ty191, trivial⟩⟩, ⟨ty127, trivial⟩⟩⟩⟩⟩⟩⟩⟩
abbrev bo (b : Bool) : DV := .v (.bool b)
abbrev it (n : Int) : DV := .v (.int .i64 n)
abbrev ut (n : Int) : DV := .v (.int .u64 n)
structure Wd where
 hi : Int
 lo : Int
abbrev Wd.ar (w : Wd) : Ar := .agg [.d (it w.hi), .d (ut w.lo)]
def Wd.val (w : Wd) : Int := w.hi * 18446744073709551616 + w.lo
def Wd.ok (w : Wd) : Prop := (-9223372036854775808 <= w.hi /\ w.hi < 9223372036854775808) /\ 0 <= w.lo /\ w.lo < 18446744073709551616
def wd (v : Int) : Wd := ⟨(v / 18446744073709551616 + 9223372036854775808) % 18446744073709551616 - 9223372036854775808, v % 18446744073709551616⟩
theorem wd_ok (v : Int) : (wd v).ok := by unfold Wd.ok wd; dsimp only; omega
theorem wd_val {v : Int} (h0 : -170141183460469231731687303715884105728 <= v) (h1 : v < 170141183460469231731687303715884105728) : (wd v).val = v := by unfold Wd.val wd; dsimp only; omega
theorem wU (n : Int) : IntKind.wrap .u64 n = n % 18446744073709551616 := by simp [IntKind.wrap, IntKind.signed, IntKind.bits]
theorem wI (n : Int) : IntKind.wrap .i64 n = (n + 9223372036854775808) % 18446744073709551616 - 9223372036854775808 := by
 simp [IntKind.wrap, IntKind.signed, IntKind.bits]
 split <;> omega
theorem wI_id (n : Int) (h0 : -9223372036854775808 <= n) (h1 : n < 9223372036854775808) : IntKind.wrap .i64 n = n := by rw [wI]; omega
theorem wU_id (n : Int) (h0 : 0 <= n) (h1 : n < 18446744073709551616) : IntKind.wrap .u64 n = n := by rw [wU]; omega
def wIntV (v : Int) : Int := if -9223372036854775808 <= v /\ v < 9223372036854775808 then v else 0
def wIntB (v : Int) : Bool := decide (-9223372036854775808 <= v /\ v < 9223372036854775808)
def FAdd64 : List Ar -> Option Rs
 | [.c (.d (.v (.int .u64 x))), .c (.d (.v (.int .u64 y))), .c (.d (.v (.int .u64 c)))] => some ⟨(0 <= x /\ 0 <= y) /\ 0 <= c /\ c <= 1, .tup [.c (.d (ut ((x + y + c) % 18446744073709551616))), .c (.d (ut ((x + y + c) / 18446744073709551616)))], []⟩
 | _ => none
theorem fcAdd64 : FC Tryz.prog 162 FAdd64 := by
 refine fc_stand fun xs pre r us h hp => ?_
 unfold FAdd64 at h
 split at h
 . rename_i x y c
   cases h
   refine ⟨[.int .u64 x, .int .u64 y, .int .u64 c], .tuple #[.int .u64 ((x + y + c) % 18446744073709551616), .int .u64 ((x + y + c) / 18446744073709551616)], rfl, rfl, fun w => ?_, fun S w => ⟨_, rfl, [], [], rfl, ⟨.v trivial, trivial⟩, [], [], rfl, ⟨.v trivial, trivial⟩, rfl⟩⟩
   rw [run_callFunc_extern Tryz.func162 (by kernel_rfl) (by kernel_rfl) (by kernel_rfl) (e := add64Entry) (by kernel_rfl), run_add64 x y c hp.1.1 hp.1.2 hp.2.1 hp.2.2]
   rfl
 . cases h
def FSub64 : List Ar -> Option Rs
 | [.c (.d (.v (.int .u64 x))), .c (.d (.v (.int .u64 y))), .c (.d (.v (.int .u64 c)))] => some ⟨((0 <= x /\ x < 18446744073709551616) /\ 0 <= y /\ y < 18446744073709551616) /\ 0 <= c /\ c <= 1, .tup [.c (.d (ut ((x - y - c) % 18446744073709551616))), .c (.d (ut (if x < y + c then 1 else 0)))], []⟩
 | _ => none
theorem run_sub (x y b : Nat) (hb : b <= 1) (w : World) : ((Extern.MathBitsCarry.rows[1]'(by decide)).2 #[.int .u64 x, .int .u64 y, .int .u64 b]).run Tryz.prog w =
 .ok (.tuple #[.int .u64 (((x + Extern.MathBitsCarry.m64 - y - b) % Extern.MathBitsCarry.m64 : Nat) : Int), .int .u64 ((if x < y + b then 1 else 0 : Nat) : Int)]) w := by
 have : b = 0 \/ b = 1 := by omega
 rcases this with rfl | rfl <;> rfl
theorem fcSub64 : FC Tryz.prog 156 FSub64 := by
 refine fc_stand fun xs pre r us h hp => ?_
 unfold FSub64 at h
 split at h
 . rename_i x y c
   cases h
   refine ⟨[.int .u64 x, .int .u64 y, .int .u64 c], .tuple #[.int .u64 ((x - y - c) % 18446744073709551616), .int .u64 (if x < y + c then 1 else 0)], rfl, rfl, fun w => ?_, fun S w => ⟨_, rfl, [], [], rfl, ⟨.v trivial, trivial⟩, [], [], rfl, ⟨.v trivial, trivial⟩, rfl⟩⟩
   obtain ⟨x, rfl⟩ := Int.eq_ofNat_of_zero_le hp.1.1.1
   obtain ⟨y, rfl⟩ := Int.eq_ofNat_of_zero_le hp.1.2.1
   obtain ⟨c, rfl⟩ := Int.eq_ofNat_of_zero_le hp.2.1
   rw [run_callFunc_extern Tryz.func156 (by kernel_rfl) (by kernel_rfl) (by kernel_rfl) (e := (Extern.MathBitsCarry.rows[1]'(by decide)).2) (by kernel_rfl)]
   have := run_sub x y c (by have := hp.2.2; omega) w
   rw [this]
   simp only [Result.andThen_ok, Extern.MathBitsCarry.m64]
   have h1 := hp.1.1.2
   have h2 := hp.1.2.2
   have h3 := hp.2.2
   have e1 : (((x + 2 ^ 64 - y - c) % 2 ^ 64 : Nat) : Int) = ((x : Int) - y - c) % 18446744073709551616 := by omega
   have e2 : ((if x < y + c then 1 else 0 : Nat) : Int) = if (x : Int) < (y : Int) + (c : Int) then 1 else 0 := by split <;> split <;> omega
   rw [e1, e2]
 . cases h
theorem shr63 (n : Int) : n.fdiv (2 ^ min (Int.toNat 63) IntKind.i64.bits) = n / 9223372036854775808 := by
 have e : (2 ^ min (Int.toNat 63) IntKind.i64.bits : Int) = 9223372036854775808 := by decide
 rw [e, Int.fdiv_eq_ediv_of_nonneg _ (by decide)]
def FWOf : List Ar -> Option Rs
 | [.c (.d (.v (.int .i64 i0)))] => some ⟨(-9223372036854775808 <= i0 /\ i0 < 9223372036854775808), .va (Wd.ar (wd i0)), []⟩
 | _ => none
theorem fcWOf : FC Tryz.prog 122 FWOf := by
 intro xs pre r us h hp
 unfold FWOf at h
 split at h
 . rename_i i0
   cases h
   have hp0 := hp
   refine fcat tys_ok (l := []) trivial Tryz.func122 rfl (by kernel_rfl) false ?_
   repeat' (first | exact trivial | refine ⟨?_, ?_⟩ | intro _)
   all_goals first | (with_reducible first | apply qa | apply qb | apply qc | apply qd) | (conv => whnf)
   all_goals (try (refine congrArg Value.bool (Bool.eq_iff_iff.2 ?_)); try simp only [Bool.not_eq_true', Bool.not_eq_false', Bool.and_eq_true, Bool.or_eq_true, Bool.and_eq_false_imp, Bool.or_eq_false_iff, beq_iff_eq, beq_eq_false_iff_ne, ne_eq, decide_eq_true_eq, decide_eq_false_iff_not, Bool.true_eq_false, Bool.false_eq_true, true_and, and_true, false_and, and_false, imp_false, Value.int.injEq, true_iff, false_iff, iff_true, iff_false, iff_self])
   all_goals (try simp only [wU, wI, shr63, wd, Wd.val, Wd.ok, Bool.not_eq_true', Bool.not_eq_false', Bool.and_eq_true, Bool.or_eq_true, Bool.and_eq_false_imp, Bool.or_eq_false_iff, beq_iff_eq, beq_eq_false_iff_ne, ne_eq, decide_eq_true_eq, decide_eq_false_iff_not, Bool.true_eq_false, Bool.false_eq_true, true_and, and_true, false_and, and_false, imp_false, Value.int.injEq] at *)
   all_goals first | omega | (split <;> omega) | (split <;> split <;> omega)
 . cases h
def FWAdd : List Ar -> Option Rs
 | [.agg [.d (.v (.int .i64 h0)), .d (.v (.int .u64 l0))], .agg [.d (.v (.int .i64 h1)), .d (.v (.int .u64 l1))]] => some ⟨(Wd.ok ⟨h0, l0⟩) /\ (Wd.ok ⟨h1, l1⟩), .va (Wd.ar (wd (Wd.val (⟨h0, l0⟩ : Wd) + Wd.val (⟨h1, l1⟩ : Wd)))), []⟩
 | _ => none
theorem fcWAdd : FC Tryz.prog 137 FWAdd := by
 intro xs pre r us h hp
 unfold FWAdd at h
 split at h
 . rename_i h0 l0 h1 l1
   cases h
   obtain ⟨hp0, hp1⟩ := hp
   refine fcat tys_ok (l := [(162, ⟨[], FAdd64⟩)]) ⟨fcAdd64, trivial⟩ Tryz.func137 rfl (by kernel_rfl) false ?_
   repeat' (first | exact trivial | refine ⟨?_, ?_⟩ | intro _)
   all_goals first | (with_reducible first | apply qa | apply qb | apply qc | apply qd) | (conv => whnf)
   all_goals (try (refine congrArg Value.bool (Bool.eq_iff_iff.2 ?_)); try simp only [Bool.not_eq_true', Bool.not_eq_false', Bool.and_eq_true, Bool.or_eq_true, Bool.and_eq_false_imp, Bool.or_eq_false_iff, beq_iff_eq, beq_eq_false_iff_ne, ne_eq, decide_eq_true_eq, decide_eq_false_iff_not, Bool.true_eq_false, Bool.false_eq_true, true_and, and_true, false_and, and_false, imp_false, Value.int.injEq, true_iff, false_iff, iff_true, iff_false, iff_self])
   all_goals (try simp only [wU, wI, shr63, wd, Wd.val, Wd.ok, Bool.not_eq_true', Bool.not_eq_false', Bool.and_eq_true, Bool.or_eq_true, Bool.and_eq_false_imp, Bool.or_eq_false_iff, beq_iff_eq, beq_eq_false_iff_ne, ne_eq, decide_eq_true_eq, decide_eq_false_iff_not, Bool.true_eq_false, Bool.false_eq_true, true_and, and_true, false_and, and_false, imp_false, Value.int.injEq] at *)
   all_goals first | omega | (split <;> omega) | (split <;> split <;> omega)
 . cases h
def FWSub : List Ar -> Option Rs
 | [.agg [.d (.v (.int .i64 h0)), .d (.v (.int .u64 l0))], .agg [.d (.v (.int .i64 h1)), .d (.v (.int .u64 l1))]] => some ⟨(Wd.ok ⟨h0, l0⟩) /\ (Wd.ok ⟨h1, l1⟩), .va (Wd.ar (wd (Wd.val (⟨h0, l0⟩ : Wd) - Wd.val (⟨h1, l1⟩ : Wd)))), []⟩
 | _ => none
theorem fcWSub : FC Tryz.prog 121 FWSub := by
 intro xs pre r us h hp
 unfold FWSub at h
 split at h
 . rename_i h0 l0 h1 l1
   cases h
   obtain ⟨hp0, hp1⟩ := hp
   refine fcat tys_ok (l := [(156, ⟨[], FSub64⟩)]) ⟨fcSub64, trivial⟩ Tryz.func121 rfl (by kernel_rfl) false ?_
   repeat' (first | exact trivial | refine ⟨?_, ?_⟩ | intro _)
   all_goals first | (with_reducible first | apply qa | apply qb | apply qc | apply qd) | (conv => whnf)
   all_goals (try (refine congrArg Value.bool (Bool.eq_iff_iff.2 ?_)); try simp only [Bool.not_eq_true', Bool.not_eq_false', Bool.and_eq_true, Bool.or_eq_true, Bool.and_eq_false_imp, Bool.or_eq_false_iff, beq_iff_eq, beq_eq_false_iff_ne, ne_eq, decide_eq_true_eq, decide_eq_false_iff_not, Bool.true_eq_false, Bool.false_eq_true, true_and, and_true, false_and, and_false, imp_false, Value.int.injEq, true_iff, false_iff, iff_true, iff_false, iff_self])
   all_goals (try simp only [wU, wI, shr63, wd, Wd.val, Wd.ok, Bool.not_eq_true', Bool.not_eq_false', Bool.and_eq_true, Bool.or_eq_true, Bool.and_eq_false_imp, Bool.or_eq_false_iff, beq_iff_eq, beq_eq_false_iff_ne, ne_eq, decide_eq_true_eq, decide_eq_false_iff_not, Bool.true_eq_false, Bool.false_eq_true, true_and, and_true, false_and, and_false, imp_false, Value.int.injEq] at *)
   all_goals first | omega | (split <;> omega) | (split <;> split <;> omega)
 . cases h
def FWLow : List Ar -> Option Rs
 | [.agg [.d (.v (.int .i64 h0)), .d (.v (.int .u64 l0))]] => some ⟨(Wd.ok ⟨h0, l0⟩), .va (.c (.d (it ((Wd.val (⟨h0, l0⟩ : Wd) + 9223372036854775808) % 18446744073709551616 - 9223372036854775808)))), []⟩
 | _ => none
theorem fcWLow : FC Tryz.prog 132 FWLow := by
 intro xs pre r us h hp
 unfold FWLow at h
 split at h
 . rename_i h0 l0
   cases h
   have hp0 := hp
   refine fcat tys_ok (l := []) trivial Tryz.func132 rfl (by kernel_rfl) false ?_
   repeat' (first | exact trivial | refine ⟨?_, ?_⟩ | intro _)
   all_goals first | (with_reducible first | apply qa | apply qb | apply qc | apply qd) | (conv => whnf)
   all_goals (try (refine congrArg Value.bool (Bool.eq_iff_iff.2 ?_)); try simp only [Bool.not_eq_true', Bool.not_eq_false', Bool.and_eq_true, Bool.or_eq_true, Bool.and_eq_false_imp, Bool.or_eq_false_iff, beq_iff_eq, beq_eq_false_iff_ne, ne_eq, decide_eq_true_eq, decide_eq_false_iff_not, Bool.true_eq_false, Bool.false_eq_true, true_and, and_true, false_and, and_false, imp_false, Value.int.injEq, true_iff, false_iff, iff_true, iff_false, iff_self])
   all_goals (try simp only [wU, wI, shr63, wd, Wd.val, Wd.ok, Bool.not_eq_true', Bool.not_eq_false', Bool.and_eq_true, Bool.or_eq_true, Bool.and_eq_false_imp, Bool.or_eq_false_iff, beq_iff_eq, beq_eq_false_iff_ne, ne_eq, decide_eq_true_eq, decide_eq_false_iff_not, Bool.true_eq_false, Bool.false_eq_true, true_and, and_true, false_and, and_false, imp_false, Value.int.injEq] at *)
   all_goals first | omega | (split <;> omega) | (split <;> split <;> omega)
 . cases h
def FWInt : List Ar -> Option Rs
 | [.agg [.d (.v (.int .i64 h0)), .d (.v (.int .u64 l0))]] => some ⟨(Wd.ok ⟨h0, l0⟩), .tup [.c (.d (it (wIntV (Wd.val (⟨h0, l0⟩ : Wd))))), .c (.d (bo (wIntB (Wd.val (⟨h0, l0⟩ : Wd)))))], []⟩
 | _ => none
theorem fcWInt : FC Tryz.prog 94 FWInt := by
 intro xs pre r us h hp
 unfold FWInt at h
 split at h
 . rename_i h0 l0
   cases h
   have hp0 := hp
   refine fcat tys_ok (l := [(122, ⟨[], FWOf⟩), (132, ⟨[], FWLow⟩)]) ⟨fcWOf, fcWLow, trivial⟩ Tryz.func94 rfl (by kernel_rfl) false ?_
   repeat' (first | exact trivial | refine ⟨?_, ?_⟩ | intro _)
   all_goals first | (with_reducible first | apply qa | apply qb | apply qc | apply qd) | (conv => whnf)
   all_goals (try (refine congrArg Value.bool (Bool.eq_iff_iff.2 ?_)); try simp only [wIntV, wIntB, Bool.not_eq_true', Bool.not_eq_false', Bool.and_eq_true, Bool.or_eq_true, Bool.and_eq_false_imp, Bool.or_eq_false_iff, beq_iff_eq, beq_eq_false_iff_ne, ne_eq, decide_eq_true_eq, decide_eq_false_iff_not, Bool.true_eq_false, Bool.false_eq_true, true_and, and_true, false_and, and_false, imp_false, Value.int.injEq, true_iff, false_iff, iff_true, iff_false, iff_self])
   all_goals (try simp only [wU, wI, shr63, wd, Wd.val, Wd.ok, wIntV, wIntB, Bool.not_eq_true', Bool.not_eq_false', Bool.and_eq_true, Bool.or_eq_true, Bool.and_eq_false_imp, Bool.or_eq_false_iff, beq_iff_eq, beq_eq_false_iff_ne, ne_eq, decide_eq_true_eq, decide_eq_false_iff_not, Bool.true_eq_false, Bool.false_eq_true, true_and, and_true, false_and, and_false, imp_false, Value.int.injEq] at *)
   all_goals first | omega | (split <;> omega) | (split <;> split <;> omega)
 . cases h
theorem shr32 (n : Int) : n.fdiv (2 ^ min (Int.toNat 32) IntKind.u64.bits) = n / 4294967296 := by
 have e : (2 ^ min (Int.toNat 32) IntKind.u64.bits : Int) = 4294967296 := by decide
 rw [e, Int.fdiv_eq_ediv_of_nonneg _ (by decide)]
theorem and32 (n : Int) : ((BitVec.ofInt IntKind.u64.bits n &&& BitVec.ofInt IntKind.u64.bits 4294967295).toNat : Int) = n % 4294967296 := by
 have e : (BitVec.ofInt IntKind.u64.bits 4294967295).toNat = 2 ^ 32 - 1 := by decide
 have e2 : ((BitVec.ofInt IntKind.u64.bits n).toNat : Int) = n % 18446744073709551616 := by
  rw [BitVec.toNat_ofInt]
  have : (0 : Int) <= n % ((2 ^ IntKind.u64.bits : Nat) : Int) := Int.emod_nonneg _ (by decide)
  rw [Int.toNat_of_nonneg this]; rfl
 rw [BitVec.toNat_and, e, Nat.and_two_pow_sub_one_eq_mod]
 omega
theorem mod32 (n : Int) : n % 4294967296 % 18446744073709551616 = n % 4294967296 := by omega
theorem mul_le32 {a b : Int} (ha : 0 <= a /\ a < 4294967296) (hb : 0 <= b /\ b < 4294967296) : 0 <= a * b /\ a * b <= 18446744065119617025 :=
 ⟨Int.mul_nonneg ha.1 hb.1, by have := Int.mul_le_mul (show a <= 4294967295 by omega) (show b <= 4294967295 by omega) hb.1 (by decide); omega⟩
theorem mul_split (x1 x0 y1 y0 : Int) : (x1 * 4294967296 + x0) * (y1 * 4294967296 + y0) = (x1 * y1) * 18446744073709551616 + (x1 * y0 + x0 * y1) * 4294967296 + x0 * y0 := by grind
theorem mul64_law {u v : Int} (hu : 0 <= u /\ u < 18446744073709551616) (hv : 0 <= v /\ v < 18446744073709551616) :
 ((u / 4294967296 * (v / 4294967296) + (u / 4294967296 * (v % 4294967296) + u % 4294967296 * (v % 4294967296) / 4294967296) / 4294967296) + ((u / 4294967296 * (v % 4294967296) + u % 4294967296 * (v % 4294967296) / 4294967296) % 4294967296 + u % 4294967296 * (v / 4294967296)) / 4294967296) = u * v / 18446744073709551616
 /\ (0 <= u / 4294967296 * (v / 4294967296) /\ u / 4294967296 * (v / 4294967296) <= 18446744065119617025) /\ (0 <= u / 4294967296 * (v % 4294967296) /\ u / 4294967296 * (v % 4294967296) <= 18446744065119617025) /\ (0 <= u % 4294967296 * (v / 4294967296) /\ u % 4294967296 * (v / 4294967296) <= 18446744065119617025) /\ (0 <= u % 4294967296 * (v % 4294967296) /\ u % 4294967296 * (v % 4294967296) <= 18446744065119617025) /\ u * v / 18446744073709551616 < 18446744073709551616 := by
 have e := mul_split (u / 4294967296) (u % 4294967296) (v / 4294967296) (v % 4294967296)
 have eu : u / 4294967296 * 4294967296 + u % 4294967296 = u := by omega
 have ev : v / 4294967296 * 4294967296 + v % 4294967296 = v := by omega
 rw [eu, ev] at e
 have b1 := mul_le32 (a := u / 4294967296) (b := v / 4294967296) (by omega) (by omega)
 have b2 := mul_le32 (a := u / 4294967296) (b := v % 4294967296) (by omega) (by omega)
 have b3 := mul_le32 (a := u % 4294967296) (b := v / 4294967296) (by omega) (by omega)
 have b4 := mul_le32 (a := u % 4294967296) (b := v % 4294967296) (by omega) (by omega)
 refine ⟨?_, b1, b2, b3, b4, ?_⟩
 . rw [e]
   generalize u / 4294967296 * (v / 4294967296) = d at *
   generalize u / 4294967296 * (v % 4294967296) = b at *
   generalize u % 4294967296 * (v / 4294967296) = c at *
   generalize u % 4294967296 * (v % 4294967296) = a at *
   clear e eu ev hu hv
   omega
 . rw [e]
   generalize u / 4294967296 * (v / 4294967296) = d at *
   generalize u / 4294967296 * (v % 4294967296) = b at *
   generalize u % 4294967296 * (v / 4294967296) = c at *
   generalize u % 4294967296 * (v % 4294967296) = a at *
   clear e eu ev hu hv
   omega
def FMul64 : List Ar -> Option Rs
 | [.c (.d (.v (.int .u64 u0))), .c (.d (.v (.int .u64 u1)))] => some ⟨(0 <= u0 /\ u0 < 18446744073709551616) /\ (0 <= u1 /\ u1 < 18446744073709551616), .tup [.c (.d (ut (u0 * u1 / 18446744073709551616))), .c (.d (ut (u0 * u1 % 18446744073709551616)))], []⟩
 | _ => none
theorem fcMul64 : FC Tryz.prog 133 FMul64 := by
 intro xs pre r us h hp
 unfold FMul64 at h
 split at h
 . rename_i u0 u1
   cases h
   obtain ⟨hp0, hp1⟩ := hp
   refine fcat tys_ok (l := []) trivial Tryz.func133 rfl (by kernel_rfl) false ?_
   repeat' (first | exact trivial | refine ⟨?_, ?_⟩ | intro _)
   all_goals first | (with_reducible first | apply qa | apply qb | apply qc | apply qd) | (conv => whnf)
   all_goals refine congrArg (Value.int .u64) ?_
   all_goals simp only [shr32, and32, wU, mod32]
   all_goals first | rfl | skip
   obtain ⟨e, b1, b2, b3, b4, b5⟩ := mul64_law hp0 hp1
   rw [<- e] at b5 ⊢
   generalize u0 / 4294967296 * (u1 / 4294967296) = d at *
   generalize u0 / 4294967296 * (u1 % 4294967296) = b at *
   generalize u0 % 4294967296 * (u1 / 4294967296) = c at *
   generalize u0 % 4294967296 * (u1 % 4294967296) = a at *
   omega
 . cases h
def lenI (x : Int) : Int := if x = 0 then 0 else ((x.toNat.log2 + 1 : Nat) : Int)
theorem len_key {a l x : Nat} (h0 : 2 ^ l <= x / 2 ^ a) (h1 : x / 2 ^ a < 2 ^ (l + 1)) : x ≠ 0 /\ x.log2 = a + l := by
 have p := Nat.two_pow_pos a
 have q := Nat.two_pow_pos l
 have k0 : 2 ^ l * 2 ^ a <= x := (Nat.le_div_iff_mul_le p).1 h0
 have k1 : x < 2 ^ (l + 1) * 2 ^ a := (Nat.div_lt_iff_lt_mul p).1 h1
 have hx : x ≠ 0 := by
  intro e; subst e; have := Nat.mul_pos q p; omega
 refine ⟨hx, (Nat.log2_eq_iff hx).2 ⟨?_, ?_⟩⟩
 . rw [Nat.add_comm, Nat.pow_add]; exact k0
 . rw [show a + l + 1 = (l + 1) + a by omega, Nat.pow_add]; exact k1
theorem lenI_r {x : Int} (h : 0 <= x /\ x < 18446744073709551616) : 0 <= lenI x /\ lenI x <= 64 := by
 unfold lenI
 split
 . omega
 . have := (Nat.log2_lt (n := x.toNat) (k := 64) (by omega)).2 (by omega)
   omega
theorem u8r (e : Int) : 0 <= IntKind.u8.wrap e /\ IntKind.u8.wrap e < 256 := by simp only [IntKind.wrap, IntKind.signed, IntKind.bits]; simp; omega
theorem u8i {e : Int} (h0 : 0 <= e) (h1 : e < 256) : IntKind.u8.wrap e = e := by simp only [IntKind.wrap, IntKind.signed, IntKind.bits]; simp; omega
theorem lt_tab {t : ByteArray} (h : t.size = 256) (e : Int) : IntKind.u8.wrap e < (t.size : Int) := by rw [h]; exact (u8r e).2
theorem shr8 (n : Int) : n.fdiv (2 ^ min (Int.toNat 8) IntKind.u64.bits) = n / 256 := by
 have e : (2 ^ min (Int.toNat 8) IntKind.u64.bits : Int) = 256 := by decide
 rw [e, Int.fdiv_eq_ediv_of_nonneg _ (by decide)]
theorem shr16 (n : Int) : n.fdiv (2 ^ min (Int.toNat 16) IntKind.u64.bits) = n / 65536 := by
 have e : (2 ^ min (Int.toNat 16) IntKind.u64.bits : Int) = 65536 := by decide
 rw [e, Int.fdiv_eq_ediv_of_nonneg _ (by decide)]
theorem len_fin {t : ByteArray} (ht : ((List.range 256).all fun x => byteAt t x == lenI x) = true) (a P : Nat) (hP : 2 ^ a = P) {u E N : Int} (hN : N = a) (ha : a <= 56) (h0 : 0 <= u) (hE : E = u / P) (h1 : E < 256) (h2 : a = 0 \/ 0 < E) : IntKind.i64.wrap (N + IntKind.i64.wrap (byteAt t (IntKind.u8.wrap E).toNat)) = lenI u := by
 obtain ⟨n, rfl⟩ := Int.eq_ofNat_of_zero_le h0
 subst hP hN
 rw [<- Int.natCast_ediv] at hE
 subst hE
 have hb : n / 2 ^ a < 256 := Int.ofNat_lt.1 h1
 rw [u8i (Int.natCast_nonneg _) h1, Int.toNat_natCast]
 have h3 := List.all_eq_true.1 ht (n / 2 ^ a) (List.mem_range.2 hb)
 rw [eq_of_beq h3]
 unfold lenI
 by_cases hz : n / 2 ^ a = 0
 . have ea : a = 0 := by omega
   subst ea
   have : n = 0 := by omega
   subst this; rfl
 . have q1 := Nat.log2_self_le hz
   have q2 : n / 2 ^ a < 2 ^ ((n / 2 ^ a).log2 + 1) := Nat.lt_log2_self
   have q3 := len_key q1 q2
   have q4 : (n / 2 ^ a).log2 < 8 := (Nat.log2_lt hz).2 hb
   rw [if_neg (by omega), if_neg (by omega), Int.toNat_natCast, Int.toNat_natCast, q3.2]
   generalize (n / 2 ^ a).log2 = l at *
   rw [wI_id ((l + 1 : Nat) : Int) (by omega) (by omega), wI_id _ (by omega) (by omega)]
   omega
def FLen64 : List Ar -> Option Rs
 | [.c (.d (.v (.int .u64 u0)))] => some ⟨(0 <= u0 /\ u0 < 18446744073709551616), .va (.c (.d (it (lenI u0)))), []⟩
 | _ => none
theorem fcLen64 : FC Tryz.prog 187 FLen64 := by
 intro xs pre r us h hp
 unfold FLen64 at h
 split at h
 . rename_i u0
   cases h
   have hp0 := hp
   refine fcat tys_ok (l := []) trivial Tryz.func187 rfl (by kernel_rfl) false ?_
   repeat' (first | exact trivial | refine ⟨?_, ?_⟩ | intro _)
   all_goals first | (with_reducible first | apply qa | apply qb | apply qc | apply qd) | (conv => whnf)
   all_goals (try simp only [decide_eq_true_eq, decide_eq_false_iff_not, shr8, shr16, shr32] at *)
   all_goals first | exact (u8r _).1 | exact lt_tab (by kernel_rfl) _ | skip
   all_goals first | exact congrArg (Value.int .i64) (len_fin (by kernel_rfl) 0 1 (by decide) (by decide) (by decide) hp0.1 (by omega) (by omega) (by omega)) | exact congrArg (Value.int .i64) (len_fin (by kernel_rfl) 8 256 (by decide) (by decide) (by decide) hp0.1 (by omega) (by omega) (by omega)) | exact congrArg (Value.int .i64) (len_fin (by kernel_rfl) 16 65536 (by decide) (by decide) (by decide) hp0.1 (by omega) (by omega) (by omega)) | exact congrArg (Value.int .i64) (len_fin (by kernel_rfl) 24 16777216 (by decide) (by decide) (by decide) hp0.1 (by omega) (by omega) (by omega)) | exact congrArg (Value.int .i64) (len_fin (by kernel_rfl) 32 4294967296 (by decide) (by decide) (by decide) hp0.1 (by omega) (by omega) (by omega)) | exact congrArg (Value.int .i64) (len_fin (by kernel_rfl) 40 1099511627776 (by decide) (by decide) (by decide) hp0.1 (by omega) (by omega) (by omega)) | exact congrArg (Value.int .i64) (len_fin (by kernel_rfl) 48 281474976710656 (by decide) (by decide) (by decide) hp0.1 (by omega) (by omega) (by omega)) | exact congrArg (Value.int .i64) (len_fin (by kernel_rfl) 56 72057594037927936 (by decide) (by decide) (by decide) hp0.1 (by omega) (by omega) (by omega))
 . cases h
def FLead : List Ar -> Option Rs
 | [.c (.d (.v (.int .u64 u0)))] => some ⟨(0 <= u0 /\ u0 < 18446744073709551616), .va (.c (.d (it (64 - lenI u0)))), []⟩
 | _ => none
theorem fcLead : FC Tryz.prog 189 FLead := by
 intro xs pre r us h hp
 unfold FLead at h
 split at h
 . rename_i u0
   cases h
   have hp0 := hp
   refine fcat tys_ok (l := [(187, ⟨[], FLen64⟩)]) ⟨fcLen64, trivial⟩ Tryz.func189 rfl (by kernel_rfl) false ?_
   repeat' (first | exact trivial | refine ⟨?_, ?_⟩ | intro _)
   all_goals first | (with_reducible first | apply qa | apply qb | apply qc | apply qd) | (conv => whnf)
   all_goals first | exact hp0.1 | exact hp0.2 | (refine congrArg (Value.int .i64) (wI_id _ ?_ ?_) <;> (have := lenI_r hp0; omega))
 . cases h
theorem q_mul (q a c : Nat) : q * (a * 4294967296 + c) = (q * a) * 4294967296 + q * c := by
 rw [Nat.mul_add, <- Nat.mul_assoc]
structure Gq (a c u d q r : Nat) : Prop where
 eq : q * a + r = u
 ge : u * 4294967296 + d < (q + 1) * (a * 4294967296 + c)
 le : q <= 4294967297
section
variable {a c u d q r : Nat} (ha : 2147483648 ≤ a) (ha2 : a < 4294967296) (hc : c < 4294967296) (hu : u < a * 4294967296 + c) (hd : d < 4294967296)
include ha ha2 hc hu hd
theorem gq_start : Gq a c u d (u / a) (u % a) := by
 have h1 := Nat.div_add_mod u a
 have h2 := Nat.mod_lt u (show 0 < a by omega)
 have h3 : u / a * a + u % a = u := by rw [Nat.mul_comm]; exact h1
 refine ⟨h3, ?_, ?_⟩
 . rw [q_mul, Nat.add_mul, Nat.one_mul]
   have h4 : 0 <= (u / a + 1) * c := Nat.zero_le _
   generalize u / a * a = p at *
   omega
 . rcases Nat.lt_or_ge 4294967297 (u / a) with h | h
   . have h4 : 4294967298 * a <= u / a * a := Nat.mul_le_mul_right a h
     omega
   . exact h
theorem gq_big (g : Gq a c u d q r) (h : 4294967296 <= q \/ 4294967296 * r + d < q * c) : u * 4294967296 + d < q * (a * 4294967296 + c) := by
 have h1 := g.eq
 rcases h with h | h
 . have h2 : 4294967296 * (a * 4294967296 + c) <= q * (a * 4294967296 + c) := Nat.mul_le_mul_right _ h
   omega
 . rw [q_mul]; omega
theorem gq_next (g : Gq a c u d q r) (h : 4294967296 <= q \/ 4294967296 * r + d < q * c) : 1 <= q /\ Gq a c u d (q - 1) (r + a) := by
 have h1 := gq_big ha ha2 hc hu hd g h
 have hq : 1 <= q := by
  rcases Nat.eq_zero_or_pos q with h0 | h0
  . subst h0; rw [Nat.zero_mul] at h1; omega
  . exact h0
 refine ⟨hq, ?_, ?_, ?_⟩
 . have h2 := g.eq
   have h3 : (q - 1) * a = q * a - a := by rw [Nat.sub_mul, Nat.one_mul]
   have h4 : a <= q * a := Nat.le_mul_of_pos_left a hq
   rw [h3]; omega
 . rw [Nat.sub_add_cancel hq]; exact h1
 . have := g.le; omega
theorem gq_done (g : Gq a c u d q r) (h1 : q < 4294967296) (h2 : q * c <= 4294967296 * r + d) : (u * 4294967296 + d) / (a * 4294967296 + c) = q := by
 refine Nat.div_eq_of_lt_le ?_ g.ge
 rw [q_mul]
 have := g.eq
 omega
theorem gq_out (g : Gq a c u d q r) (h1 : q <= 4294967296) (h2 : 4294967296 <= r) : (u * 4294967296 + d) / (a * 4294967296 + c) = q := by
 refine Nat.div_eq_of_lt_le ?_ g.ge
 rw [q_mul]
 have h3 := g.eq
 have h4 : q * c <= 4294967296 * c := Nat.mul_le_mul_right c h1
 omega
theorem digit_lt : (u * 4294967296 + d) / (a * 4294967296 + c) < 4294967296 := by
 rw [Nat.div_lt_iff_lt_mul (by omega)]
 have : 4294967296 * (a * 4294967296 + c) ≥ 4294967296 * (u + 1) := Nat.mul_le_mul_left _ hu
 omega
end
theorem halves (u d e y : Nat) : ((u * 4294967296 + d) % y * 4294967296 + e) % y = ((u * 4294967296 + d) * 4294967296 + e) % y := by
 rw [Nat.add_mod, Nat.mul_mod, Nat.mod_mod, <- Nat.mul_mod, <- Nat.add_mod]
theorem halves_n (n e y : Nat) (hy : 0 < y) : n / y * 4294967296 + (n % y * 4294967296 + e) / y = (n * 4294967296 + e) / y := by
 have h := Nat.div_add_mod n y
 have e1 : n * 4294967296 + e = y * (n / y * 4294967296) + (n % y * 4294967296 + e) := by
  have : n * 4294967296 = (y * (n / y) + n % y) * 4294967296 := by rw [h]
  rw [this, Nat.add_mul, Nat.mul_assoc]; omega
 rw [e1, Nat.mul_add_div hy]
theorem halves_div (u d e y : Nat) (hy : 0 < y) : (u * 4294967296 + d) / y * 4294967296 + ((u * 4294967296 + d) % y * 4294967296 + e) / y = ((u * 4294967296 + d) * 4294967296 + e) / y := halves_n _ e y hy
theorem shift_mod (v y s : Nat) : (v * 2 ^ s) % (y * 2 ^ s) = (v % y) * 2 ^ s := by
 rw [Nat.mul_comm v, Nat.mul_comm y, Nat.mul_mod_mul_left, Nat.mul_comm]
theorem shift_div (v y s : Nat) : (v * 2 ^ s) / (y * 2 ^ s) = v / y := Nat.mul_div_mul_right _ _ (Nat.two_pow_pos s)
theorem quoN {u a : Nat} (ha : 0 < a) (hu : u < 18446744073709551616) : IntKind.u64.wrap ((u : Int).tdiv (a : Int)) = ((u / a : Nat) : Int) := by
 have h := Nat.div_le_self u a
 rw [Int.tdiv_eq_ediv_of_nonneg (Int.natCast_nonneg _), <- Int.natCast_ediv]
 generalize u / a = m at *
 rw [wU]; omega
theorem remN {u a : Nat} (ha : 0 < a) (hu : u < 18446744073709551616) : IntKind.u64.wrap ((u : Int) - IntKind.u64.wrap (((u / a : Nat) : Int) * (a : Int))) = ((u % a : Nat) : Int) := by
 have h := Nat.div_add_mod u a
 rw [<- Int.natCast_mul, Nat.mul_comm (u / a)]
 generalize a * (u / a) = p at *
 generalize u % a = m at *
 rw [wU, wU]; omega
theorem condN {q c r d : Nat} (hq : q <= 4294967297) (hc : c < 4294967296) (hr : r < 4294967296) (hd : d < 4294967296) : IntKind.u64.wrap ((q : Int) * (c : Int)) = ((q * c : Nat) : Int) /\ IntKind.u64.wrap (IntKind.u64.wrap (4294967296 * (r : Int)) + (d : Int)) = ((4294967296 * r + d : Nat) : Int) := by
 have h : q * c <= 4294967297 * 4294967295 := Nat.mul_le_mul hq (by omega)
 rw [<- Int.natCast_mul]
 generalize q * c = p at *
 rw [wU, wU, wU]; omega
theorem subN {q u d y : Nat} (hq : q = (u * 4294967296 + d) / y) (hd : d < 4294967296) (hy : 0 < y) (hY : y < 18446744073709551616) : IntKind.u64.wrap (IntKind.u64.wrap (IntKind.u64.wrap ((u : Int) * 4294967296) + (d : Int)) - IntKind.u64.wrap ((q : Int) * (y : Int))) = (((u * 4294967296 + d) % y : Nat) : Int) := by
 have h := Nat.div_add_mod (u * 4294967296 + d) y
 have h2 := Nat.mod_lt (u * 4294967296 + d) hy
 subst hq
 rw [<- Int.natCast_mul, Nat.mul_comm _ y]
 generalize (u * 4294967296 + d) % y = m at *
 generalize y * ((u * 4294967296 + d) / y) = p at *
 rw [wU, wU, wU, wU]; omega
theorem predN {q : Nat} (h : 1 <= q) (h2 : q < 18446744073709551616) : IntKind.u64.wrap ((q : Int) - 1) = ((q - 1 : Nat) : Int) := by rw [wU]; omega
theorem addN {r a : Nat} (h : r + a < 18446744073709551616) : IntKind.u64.wrap ((r : Int) + (a : Int)) = ((r + a : Nat) : Int) := by rw [wU]; omega
theorem dig_a {A C U D q r : Nat} (rA : 2147483648 <= A) (rA2 : A < 4294967296) (rC : C < 4294967296) (rU : U < A * 4294967296 + C) (rD : D < 4294967296) (g : Gq A C U D q r) (_ : r < 4294967296) (h : decide ((q : Int) ≥ 4294967296) = true) : 1 <= q /\ Gq A C U D (q - 1) (r + A) := gq_next rA rA2 rC rU rD g (.inl (by have := of_decide_eq_true h; omega))
theorem dig_b {A C U D q r : Nat} (rA : 2147483648 <= A) (rA2 : A < 4294967296) (rC : C < 4294967296) (rU : U < A * 4294967296 + C) (rD : D < 4294967296) (g : Gq A C U D q r) (rr : r < 4294967296) (h : decide (IntKind.u64.wrap ((q : Int) * (C : Int)) > IntKind.u64.wrap (IntKind.u64.wrap (4294967296 * (r : Int)) + (D : Int))) = true) : 1 <= q /\ Gq A C U D (q - 1) (r + A) := by
 have h := of_decide_eq_true h
 rw [(condN g.le rC rr rD).1, (condN g.le rC rr rD).2] at h
 exact gq_next rA rA2 rC rU rD g (.inr (by omega))
theorem dig_end {A C U D q r : Nat} (rA : 2147483648 <= A) (rA2 : A < 4294967296) (rC : C < 4294967296) (rU : U < A * 4294967296 + C) (rD : D < 4294967296) (g : Gq A C U D q r) (rr : r < 4294967296) (h0 : decide ((q : Int) ≥ 4294967296) = false) (h : decide (IntKind.u64.wrap ((q : Int) * (C : Int)) > IntKind.u64.wrap (IntKind.u64.wrap (4294967296 * (r : Int)) + (D : Int))) = false) : q = (U * 4294967296 + D) / (A * 4294967296 + C) := by
 have h := of_decide_eq_false h
 have h0 := of_decide_eq_false h0
 rw [(condN g.le rC rr rD).1, (condN g.le rC rr rD).2] at h
 exact (gq_done rA rA2 rC rU rD g (by omega) (by omega)).symm
theorem dig_out {A C U D q r : Nat} (rA : 2147483648 <= A) (rA2 : A < 4294967296) (rC : C < 4294967296) (rU : U < A * 4294967296 + C) (rD : D < 4294967296) (g : 1 <= q /\ Gq A C U D (q - 1) (r + A)) (rr : r < 4294967296) (hl : q <= 4294967297) (h : decide (IntKind.u64.wrap ((r : Int) + (A : Int)) ≥ 4294967296) = true) : q - 1 = (U * 4294967296 + D) / (A * 4294967296 + C) := by
 have h := of_decide_eq_true h
 rw [addN (by omega)] at h
 exact (gq_out rA rA2 rC rU rD g.2 (by omega) (by omega)).symm
theorem dig_in {A r : Nat} (rA2 : A < 4294967296) (rr : r < 4294967296) (h : decide (IntKind.u64.wrap ((r : Int) + (A : Int)) ≥ 4294967296) = false) : r + A < 4294967296 := by
 have h := of_decide_eq_false h
 rw [addN (by omega)] at h
 omega
theorem shlN {a k : Nat} (hk : k <= 63) : IntKind.u64.wrap ((a : Int) * 2 ^ min (k : Int).toNat IntKind.u64.bits) = ((a * 2 ^ k % 18446744073709551616 : Nat) : Int) := by
 have e : min (k : Int).toNat IntKind.u64.bits = k := by rw [Int.toNat_natCast]; exact Nat.min_eq_left (by show k <= 64; omega)
 have e2 : (a : Int) * 2 ^ k = ((a * 2 ^ k : Nat) : Int) := by rw [Int.natCast_mul, Int.natCast_pow]; rfl
 rw [e, e2, wU]; omega
theorem shrN {a k : Nat} (hk : k <= 64) : (a : Int).fdiv (2 ^ min (k : Int).toNat IntKind.u64.bits) = ((a / 2 ^ k : Nat) : Int) := by
 have e : min (k : Int).toNat IntKind.u64.bits = k := by rw [Int.toNat_natCast]; exact Nat.min_eq_left (by show k <= 64; omega)
 have e2 : (2 : Int) ^ k = ((2 ^ k : Nat) : Int) := by rw [Int.natCast_pow]; rfl
 rw [e, e2, Int.fdiv_eq_ediv_of_nonneg _ (Int.natCast_nonneg _)]; rfl
theorem shr32N (a : Nat) : (a : Int).fdiv (2 ^ min (Int.toNat 32) IntKind.u64.bits) = ((a / 4294967296 : Nat) : Int) := by rw [shr32]; omega
theorem and32N (a : Nat) : IntKind.u64.wrap ((BitVec.ofInt IntKind.u64.bits (a : Int) &&& BitVec.ofInt IntKind.u64.bits 4294967295).toNat : Int) = ((a % 4294967296 : Nat) : Int) := by rw [and32, wU]; omega
theorem bv_nat {a : Nat} (h : a < 18446744073709551616) : (BitVec.ofInt IntKind.u64.bits (a : Int)).toNat = a := by
 rw [BitVec.toNat_ofInt]
 have e : ((2 ^ IntKind.u64.bits : Nat) : Int) = 18446744073709551616 := by decide
 rw [e]; omega
theorem orN {a b k : Nat} (hb : b < 2 ^ k) (h : 2 ^ k * a + b < 18446744073709551616) : IntKind.u64.wrap ((BitVec.ofInt IntKind.u64.bits ((2 ^ k * a : Nat) : Int) ||| BitVec.ofInt IntKind.u64.bits (b : Int)).toNat : Int) = ((2 ^ k * a + b : Nat) : Int) := by
 rw [BitVec.toNat_or, bv_nat (by omega), bv_nat (by omega), <- Nat.two_pow_add_eq_or_of_lt hb, wU]; omega
theorem div_shift {h l y k : Nat} (hl : l < 18446744073709551616) (hy : h < y) (hk : k <= 63) (hY : y * 2 ^ k < 18446744073709551616) : (h * 2 ^ k < 18446744073709551616 /\ l / 2 ^ (64 - k) < 2 ^ k) /\ 2 ^ k * h + l / 2 ^ (64 - k) < y * 2 ^ k /\ (2 ^ k * h + l / 2 ^ (64 - k)) * 18446744073709551616 + l * 2 ^ k % 18446744073709551616 = (h * 18446744073709551616 + l) * 2 ^ k := by
 have e : 18446744073709551616 = 2 ^ (64 - k) * 2 ^ k := by rw [<- Nat.pow_add, show 64 - k + k = 64 by omega]
 have p := Nat.two_pow_pos k
 have p2 := Nat.two_pow_pos (64 - k)
 have h1 : l * 2 ^ k / 18446744073709551616 = l / 2 ^ (64 - k) := by rw [e]; exact Nat.mul_div_mul_right _ _ p
 have h2 := Nat.div_add_mod (l * 2 ^ k) 18446744073709551616
 have h3 : l / 2 ^ (64 - k) < 2 ^ k := by rw [Nat.div_lt_iff_lt_mul p2, Nat.mul_comm, <- e]; exact hl
 have h4 : (h + 1) * 2 ^ k <= y * 2 ^ k := Nat.mul_le_mul_right _ hy
 rw [Nat.add_mul, Nat.one_mul] at h4
 have h5 : (h * 18446744073709551616 + l) * 2 ^ k = h * 2 ^ k * 18446744073709551616 + l * 2 ^ k := by rw [Nat.add_mul, Nat.mul_right_comm]
 rw [h5, Nat.mul_comm (2 ^ k) h]
 rw [h1] at h2
 generalize h * 2 ^ k = a at *
 generalize l / 2 ^ (64 - k) = b at *
 generalize l * 2 ^ k % 18446744073709551616 = c at *
 refine ⟨⟨by omega, h3⟩, by omega, by omega⟩
theorem lead_ok {y : Nat} (h0 : 0 < y) (h : y < 18446744073709551616) : ∃ k : Nat, IntKind.u64.wrap (64 - lenI (y : Int)) = (k : Int) /\ IntKind.u64.wrap (64 - (k : Int)) = ((64 - k : Nat) : Int) /\ k <= 63 /\ 9223372036854775808 <= y * 2 ^ k /\ y * 2 ^ k < 18446744073709551616 := by
 have hz : y ≠ 0 := by omega
 have q1 := Nat.log2_self_le hz
 have q2 : y < 2 ^ (y.log2 + 1) := Nat.lt_log2_self
 have q3 : y.log2 < 64 := (Nat.log2_lt hz).2 h
 refine ⟨63 - y.log2, ?_, ?_, by omega, ?_, ?_⟩
 . unfold lenI; rw [if_neg (by omega), Int.toNat_natCast, wU]; omega
 . rw [wU]; omega
 . have := Nat.mul_le_mul_right (2 ^ (63 - y.log2)) q1
   rw [<- Nat.pow_add, show y.log2 + (63 - y.log2) = 63 by omega] at this
   exact this
 . have := (Nat.mul_lt_mul_right (Nat.two_pow_pos (63 - y.log2))).2 q2
   rw [<- Nat.pow_add, show y.log2 + 1 + (63 - y.log2) = 64 by omega] at this
   exact this
theorem dm_eq {Y A C : Nat} (h1 : A = Y / 4294967296) (h2 : C = Y % 4294967296) : A * 4294967296 + C = Y := by omega
theorem hvv {U X D E V : Nat} (h1 : D = X / 4294967296) (h2 : E = X % 4294967296) (h : U * 18446744073709551616 + X = V) : (U * 4294967296 + D) * 4294967296 + E = V := by
 have e : X = D * 4294967296 + E := by omega
 have e2 : U * 4294967296 * 4294967296 = U * 18446744073709551616 := Nat.mul_assoc U 4294967296 4294967296
 rw [Nat.add_mul, e2, Nat.add_assoc, <- e]; exact h
theorem div_fin {h l y k U D E W Y q1 q0 : Nat} (hy : 0 < y) (hY : Y = y * 2 ^ k) (hV : (U * 4294967296 + D) * 4294967296 + E = (h * 18446744073709551616 + l) * 2 ^ k) (hW : W = (U * 4294967296 + D) % Y) (h1 : q1 = (U * 4294967296 + D) / Y) (h0 : q0 = (W * 4294967296 + E) / Y) : q1 * 4294967296 + q0 = (h * 18446744073709551616 + l) / y /\ (W * 4294967296 + E) % Y / 2 ^ k = (h * 18446744073709551616 + l) % y := by
 have p := Nat.two_pow_pos k
 have pY : 0 < Y := by rw [hY]; exact Nat.mul_pos hy p
 subst hW h1 h0
 rw [halves_div U D E Y pY, halves U D E Y, hV, hY, shift_div, shift_mod]
 exact ⟨rfl, Nat.mul_div_cancel _ p⟩
theorem hl_div {h l y : Nat} : ((h : Int) * 18446744073709551616 + (l : Int)) / (y : Int) = (((h * 18446744073709551616 + l) / y : Nat) : Int) := by rw [Int.natCast_ediv, Int.natCast_add, Int.natCast_mul]; rfl
theorem hl_mod {h l y : Nat} : ((h : Int) * 18446744073709551616 + (l : Int)) % (y : Int) = (((h * 18446744073709551616 + l) % y : Nat) : Int) := by rw [Int.natCast_emod, Int.natCast_add, Int.natCast_mul]; rfl
theorem fin_q {h l y k U D E W Y q1 q0 : Nat} (hy : 0 < y) (hY : Y = y * 2 ^ k) (hV : (U * 4294967296 + D) * 4294967296 + E = (h * 18446744073709551616 + l) * 2 ^ k) (hW : W = (U * 4294967296 + D) % Y) (h1 : q1 = (U * 4294967296 + D) / Y) (h0 : q0 = (W * 4294967296 + E) / Y) (b1 : q1 < 4294967296) (b0 : q0 < 4294967296) : IntKind.u64.wrap (IntKind.u64.wrap ((q1 : Int) * 4294967296) + (q0 : Int)) = ((h : Int) * 18446744073709551616 + (l : Int)) / (y : Int) := by
 have := (div_fin hy hY hV hW h1 h0).1
 rw [hl_div, <- this, wU, wU]; omega
theorem fin_r {h l y k U D E W Y q1 q0 : Nat} (hy : 0 < y) (hY : Y = y * 2 ^ k) (hV : (U * 4294967296 + D) * 4294967296 + E = (h * 18446744073709551616 + l) * 2 ^ k) (hW : W = (U * 4294967296 + D) % Y) (h1 : q1 = (U * 4294967296 + D) / Y) (h0 : q0 = (W * 4294967296 + E) / Y) (rE : E < 4294967296) (pY : 0 < Y) (rY : Y < 18446744073709551616) (hk : k <= 63) : (IntKind.u64.wrap (IntKind.u64.wrap (IntKind.u64.wrap ((W : Int) * 4294967296) + (E : Int)) - IntKind.u64.wrap ((q0 : Int) * (Y : Int)))).fdiv (2 ^ min (k : Int).toNat IntKind.u64.bits) = ((h : Int) * 18446744073709551616 + (l : Int)) % (y : Int) := by
 have := (div_fin hy hY hV hW h1 h0).2
 rw [subN h0 rE pY rY, shrN (by omega), hl_mod, <- this]
theorem zero_q {l y : Nat} (hl : l < 18446744073709551616) : IntKind.u64.wrap ((l : Int).tdiv (y : Int)) = (((0 : Nat) : Int) * 18446744073709551616 + (l : Int)) / (y : Int) := by
 have h := Nat.div_le_self l y
 rw [hl_div, Int.tdiv_eq_ediv_of_nonneg (Int.natCast_nonneg _), <- Int.natCast_ediv, Nat.zero_mul, Nat.zero_add]
 generalize l / y = m at *
 rw [wU]; omega
theorem zero_r {l y : Nat} : (l : Int).tmod (y : Int) = (((0 : Nat) : Int) * 18446744073709551616 + (l : Int)) % (y : Int) := by
 rw [hl_mod, Int.tmod_eq_emod_of_nonneg (Int.natCast_nonneg _), <- Int.natCast_emod, Nat.zero_mul, Nat.zero_add]
theorem run_shl {P : Program} {t : TypeId} {xo yo : Operand} {k k' : IntKind} {a b : Int} (h : 0 <= b) : pureRun P (do eqGuard .shl t xo yo (.int k a) (.int k' b); binOp .shl t (.int k a) (.int k' b)) = some (.int k (k.wrap (a * 2 ^ min b.toNat k.bits))) := by
 show pureRun P (Op.shift .shl k a k' b) = _
 unfold Op.shift
 rw [if_neg (by omega)]; rfl
theorem run_shr {P : Program} {t : TypeId} {xo yo : Operand} {k k' : IntKind} {a b : Int} (h : 0 <= b) : pureRun P (do eqGuard .shr t xo yo (.int k a) (.int k' b); binOp .shr t (.int k a) (.int k' b)) = some (.int k (a.fdiv (2 ^ min b.toNat k.bits))) := by
 show pureRun P (Op.shift .shr k a k' b) = _
 unfold Op.shift
 rw [if_neg (by omega)]; rfl
def FDiv64 : List Ar -> Option Rs
 | [.c (.d (.v (.int .u64 u0))), .c (.d (.v (.int .u64 u1))), .c (.d (.v (.int .u64 u2)))] => some ⟨(0 <= u0 /\ u0 < 18446744073709551616) /\ (0 <= u1 /\ u1 < 18446744073709551616) /\ (0 <= u2 /\ u2 < 18446744073709551616) /\ (u0 < u2), .tup [.c (.d (ut ((u0 * 18446744073709551616 + u1) / u2))), .c (.d (ut ((u0 * 18446744073709551616 + u1) % u2)))], []⟩
 | _ => none
abbrev sl1E : List (Nat × Sm) := [(189, ⟨[], FLead⟩)]
theorem sp1E : sumsOk Tryz.prog sl1E := ⟨fcLead, trivial⟩
theorem fcDiv64 : FC Tryz.prog 161 FDiv64 := by
 intro xs pre r us h hp
 unfold FDiv64 at h
 split at h
 . rename_i u0 u1 u2
   cases h
   obtain ⟨hp0, hp1, hp2, hp3⟩ := hp
   refine fcat tys_ok (l := sl1E) sp1E Tryz.func161 rfl (by kernel_rfl) false ?_
   obtain ⟨h, rfl⟩ := Int.eq_ofNat_of_zero_le hp0.1
   obtain ⟨l, rfl⟩ := Int.eq_ofNat_of_zero_le hp1.1
   obtain ⟨y, rfl⟩ := Int.eq_ofNat_of_zero_le hp2.1
   obtain ⟨k, e1, e2, hk, hY0, hY⟩ := lead_ok (y := y) (by omega) (by omega)
   obtain ⟨⟨hh, hb⟩, hUY, hV⟩ := div_shift (h := h) (l := l) (by omega) (by omega) hk hY
   obtain ⟨Y, hYd⟩ : ∃ Y, Y = y * 2 ^ k := ⟨_, rfl⟩
   have eY : y * 2 ^ k % 18446744073709551616 = Y := by rw [hYd]; exact Nat.mod_eq_of_lt hY
   have eH : h * 2 ^ k % 18446744073709551616 = 2 ^ k * h := by rw [Nat.mod_eq_of_lt hh, Nat.mul_comm]
   have hU : 2 ^ k * h + l / 2 ^ (64 - k) < 18446744073709551616 := by omega
   obtain ⟨U, hUd⟩ : ∃ U, U = 2 ^ k * h + l / 2 ^ (64 - k) := ⟨_, rfl⟩
   have qY0 : 9223372036854775808 <= Y := by rw [hYd]; exact hY0
   have qY : Y < 18446744073709551616 := by rw [hYd]; exact hY
   have qU : U < Y := by rw [hYd, hUd]; exact hUY
   obtain ⟨A, hAd⟩ : ∃ A, A = Y / 4294967296 := ⟨_, rfl⟩
   obtain ⟨C, hCd⟩ : ∃ C, C = Y % 4294967296 := ⟨_, rfl⟩
   obtain ⟨X, hXd⟩ : ∃ X, X = l * 2 ^ k % 18446744073709551616 := ⟨_, rfl⟩
   obtain ⟨D, hDd⟩ : ∃ D, D = X / 4294967296 := ⟨_, rfl⟩
   obtain ⟨E, hEd⟩ : ∃ E, E = X % 4294967296 := ⟨_, rfl⟩
   have rX : X < 18446744073709551616 := by rw [hXd]; omega
   have eYA : A * 4294967296 + C = Y := dm_eq hAd hCd
   have rA : 2147483648 <= A := by omega
   have rA2 : A < 4294967296 := by omega
   have rC : C < 4294967296 := by omega
   have rD : D < 4294967296 := by omega
   have rE : E < 4294967296 := by omega
   have hVV : (U * 4294967296 + D) * 4294967296 + E = (h * 18446744073709551616 + l) * 2 ^ k := by rw [<- hUd, <- hXd] at hV; exact hvv hDd hEd hV
   have rU : U < A * 4294967296 + C := by omega
   have eQ := quoN (u := U) (a := A) (by omega) (by omega)
   have eR := remN (u := U) (a := A) (by omega) (by omega)
   repeat' (first | exact trivial | refine ⟨?_, ?_⟩ | intro _)
   all_goals first | (with_reducible first | apply qa | apply qb | apply qc | apply qd) | (conv => whnf)
   all_goals first | (exfalso; have q0 := ‹Int.fdiv _ _ = 0›; rw [shr32N] at q0; omega) | (with_reducible show Value.int _ _ = Value.int _ _) | (simp only [decide_eq_true_eq, decide_eq_false_iff_not, beq_iff_eq, beq_eq_false_iff_ne] at *; omega) | skip
   all_goals first | (with_reducible show Value.int _ _ = Value.int _ _) | (rw [e1, run_shl (Int.natCast_nonneg k), shlN hk, eY]) | skip
   repeat' (first | exact trivial | refine ⟨?_, ?_⟩ | intro _)
   all_goals first | (with_reducible first | apply qa | apply qb | apply qc | apply qd) | (conv => whnf)
   all_goals first | (exfalso; have q0 := ‹Int.fdiv _ _ = 0›; rw [shr32N] at q0; omega) | (with_reducible show Value.int _ _ = Value.int _ _) | (simp only [decide_eq_true_eq, decide_eq_false_iff_not, beq_iff_eq, beq_eq_false_iff_ne] at *; omega) | skip
   all_goals first | (with_reducible show Value.int _ _ = Value.int _ _) | (rw [shr32N, and32N, <- hAd, <- hCd, shlN hk, eH, e2, run_shr (Int.natCast_nonneg (64 - k)), shrN (by omega)]) | skip
   repeat' (first | exact trivial | refine ⟨?_, ?_⟩ | intro _)
   all_goals first | (with_reducible first | apply qa | apply qb | apply qc | apply qd) | (conv => whnf)
   all_goals first | (exfalso; have q0 := ‹Int.fdiv _ _ = 0›; rw [shr32N] at q0; omega) | (with_reducible show Value.int _ _ = Value.int _ _) | (simp only [decide_eq_true_eq, decide_eq_false_iff_not, beq_iff_eq, beq_eq_false_iff_ne] at *; omega) | skip
   all_goals first | (with_reducible show Value.int _ _ = Value.int _ _) | (rw [orN hb hU, <- hUd, shlN hk, <- hXd, shr32N, and32N, <- hDd, <- hEd, eQ, eR]) | skip
   all_goals first | (have hz : h = 0 := (by have := ‹((h : Int) == 0) = true›; rw [beq_iff_eq] at this; omega); subst hz; refine congrArg (Value.int .u64) ?_; first | exact zero_r | exact zero_q (by omega)) | skip
   refine loop_ok tys_ok (l := sl1E) sp1E (by kernel_rfl) (X := Nat × Nat) (fun x => ⟨[(15, vx (.int .u64 x.1)), (16, vx (.int .u64 x.2)), (2, vx (.int .u64 Y)), (8, vx (.int .u64 k)), (9, vx (.int .u64 A)), (10, vx (.int .u64 C)), (11, vx (.int .u64 U)), (13, vx (.int .u64 D)), (14, vx (.int .u64 E))], [], 0, 135⟩) (fun x => x.1)
    (fun x => Gq A C U D x.1 x.2 /\ x.2 < 4294967296) [15, 16] [] (fun x _ _ => (x.1 - 1, x.2 + A)) [] [] 0 0 (U / A, U % A) ?_ ?_ ?_
   . exact ⟨gq_start rA rA2 rC rU rD, by have := Nat.mod_lt U (show 0 < A by omega); omega⟩
   . repeat' (first | exact trivial | exact rfl | (intro _ _; exact rfl) | refine ⟨?_, ?_⟩)
   . rintro ⟨q, r⟩ ⟨g, rr⟩
     change Gq A C U D q r at g
     change r < 4294967296 at rr
     have gl := g.le
     repeat' (first | exact trivial | refine ⟨?_, ?_⟩ | intro _)
     all_goals first | (with_reducible first | apply qa | apply qb | apply qc | apply qd) | (conv => whnf)
     all_goals first | (with_reducible show ASat _ _ _ _ _) | rfl | ((with_reducible show idsOk _ _ = true); rfl) | (exfalso; have q0 := ‹(_ : Int) = 0›; omega) | skip
     all_goals first | (have gn := dig_a rA rA2 rC rU rD g rr ‹_›) | (have gn := dig_b rA rA2 rC rU rD g rr ‹decide (_ > _) = true›) | (have ge := dig_end rA rA2 rC rU rD g rr ‹_› ‹decide (_ > _) = false›)
     all_goals first | (have go := dig_out rA rA2 rC rU rD gn rr gl ‹decide (IntKind.u64.wrap (_ + _) ≥ _) = true›) | (have gi := dig_in rA2 rr ‹decide (IntKind.u64.wrap (_ + _) ≥ _) = false›) | skip
     all_goals first | exact gn.2 | exact gi | (show q - 1 < q; omega) | exact congrArg (Value.int .u64) (predN gn.1 (by omega)) | exact congrArg (Value.int .u64) (addN (by omega)) | skip
     all_goals (with_reducible show ASat _ _ _ _ _)
     all_goals first | (obtain ⟨q1, hq1⟩ : ∃ q1, q1 = q - 1 := ⟨_, rfl⟩; rw [predN gn.1 (by omega)]; rw [<- hq1] at go ⊢; have gq := go) | (obtain ⟨q1, hq1⟩ : ∃ q1, q1 = q := ⟨_, rfl⟩; rw [<- hq1] at ge ⊢; have gq := ge)
     all_goals (rw [eYA] at gq; obtain ⟨W, hWd⟩ : ∃ W, W = (U * 4294967296 + D) % Y := ⟨_, rfl⟩; have rW : W < A * 4294967296 + C := by rw [eYA, hWd]; exact Nat.mod_lt _ (by omega))
     all_goals (rw [subN gq rD (by omega) qY, <- hWd, quoN (u := W) (a := A) (by omega) (by omega), remN (u := W) (a := A) (by omega) (by omega)])
     all_goals
      refine loop_ok tys_ok (l := sl1E) sp1E (by kernel_rfl) (X := Nat × Nat) (fun x => ⟨[(18, vx (.int .u64 x.1)), (16, vx (.int .u64 x.2)), (2, vx (.int .u64 Y)), (8, vx (.int .u64 k)), (9, vx (.int .u64 A)), (10, vx (.int .u64 C)), (15, vx (.int .u64 q1)), (17, vx (.int .u64 W)), (14, vx (.int .u64 E))], [], 0, 135⟩) (fun x => x.1)
       (fun x => Gq A C W E x.1 x.2 /\ x.2 < 4294967296) [18, 16] [] (fun x _ _ => (x.1 - 1, x.2 + A)) [] [] 0 0 (W / A, W % A) ?_ ?_ ?_
      . exact ⟨gq_start rA rA2 rC rW rE, by have := Nat.mod_lt W (show 0 < A by omega); omega⟩
      . repeat' (first | exact trivial | exact rfl | (intro _ _; exact rfl) | refine ⟨?_, ?_⟩)
      . rintro ⟨q, r⟩ ⟨g, rr⟩
        change Gq A C W E q r at g
        change r < 4294967296 at rr
        have gl := g.le
        repeat' (first | exact trivial | refine ⟨?_, ?_⟩ | intro _)
        all_goals first | (with_reducible first | apply qa | apply qb | apply qc | apply qd) | (conv => whnf)
        all_goals first | (with_reducible show ASat _ _ _ _ _) | rfl | ((with_reducible show idsOk _ _ = true); rfl) | (exfalso; have q0 := ‹(_ : Int) = 0›; omega) | skip
        all_goals first | (have gn := dig_a rA rA2 rC rW rE g rr ‹_›) | (have gn := dig_b rA rA2 rC rW rE g rr ‹decide (_ > _) = true›) | (have ge := dig_end rA rA2 rC rW rE g rr ‹_› ‹decide (_ > _) = false›)
        all_goals first | (have go := dig_out rA rA2 rC rW rE gn rr gl ‹decide (IntKind.u64.wrap (_ + _) ≥ _) = true›) | (have gi := dig_in rA2 rr ‹decide (IntKind.u64.wrap (_ + _) ≥ _) = false›) | skip
        all_goals first | exact gn.2 | exact gi | (show q - 1 < q; omega) | exact congrArg (Value.int .u64) (predN gn.1 (by omega)) | exact congrArg (Value.int .u64) (addN (by omega)) | skip
        all_goals first | (rw [predN gn.1 (by omega)]; obtain ⟨q0, hq0⟩ : ∃ q0, q0 = q - 1 := ⟨_, rfl⟩; rw [<- hq0] at go ⊢; have gq0 := go) | (obtain ⟨q0, hq0⟩ : ∃ q0, q0 = q := ⟨_, rfl⟩; rw [<- hq0] at ge ⊢; have gq0 := ge)
        all_goals rw [eYA] at gq0
        all_goals refine congrArg (Value.int .u64) ?_
        all_goals first | exact fin_r (by omega) hYd hVV hWd gq gq0 rE (by omega) qY hk | exact fin_q (by omega) hYd hVV hWd gq gq0 (by rw [gq, <- eYA]; exact digit_lt rA rA2 rC rU rD) (by rw [gq0, <- eYA]; exact digit_lt rA rA2 rC rW rE)
 . cases h
structure Cg where
 some : Bool
 m : Int
 r : Int
abbrev Cg.ar (c : Cg) : Ar := .agg [.d (bo c.some), .d (it c.m), .d (it c.r)]
def Cg.inR (c : Cg) : Prop := (-9223372036854775808 <= c.m /\ c.m < 9223372036854775808) /\ -9223372036854775808 <= c.r /\ c.r < 9223372036854775808
def md (n m : Int) : Int := if m <= 0 then n else n % m
namespace Cg
def none : Cg := ⟨false, 0, 0⟩
def of (m r : Int) : Cg := if m < 0 then ⟨true, 1, md r 1⟩ else ⟨true, m, md r m⟩
def clean (c : Cg) : Cg := if c.some then of c.m c.r else none
def has (c : Cg) (n : Int) : Bool := c.clean.some && decide (md n c.clean.m = c.clean.r)
def factor (a b : Int) : Bool := if a = 0 then decide (b = 0) else decide (b % a = 0)
def leq (a b : Cg) : Bool := if a.clean.some && b.clean.some then factor b.clean.m a.clean.m && has b.clean a.clean.r else !a.clean.some
def eq (a b : Cg) : Bool := a.some == b.some && (a.m == b.m && a.r == b.r)
end Cg
theorem tmod_fix (n m : Int) (h : 0 < m) : (n.tmod m < 0 -> n.tmod m + m = n % m) /\ (¬ n.tmod m < 0 -> n.tmod m = n % m) := by
 have h1 := Int.emod_nonneg n (show m ≠ 0 by omega)
 have h2 := Int.emod_lt_of_pos n h
 have h3 : n.tmod m = n % m - if 0 <= n \/ m ∣ n then 0 else m := by rw [Int.tmod_eq_emod]; split <;> simp <;> omega
 rw [h3]
 split <;> omega
theorem md_bound (n m : Int) (h : 0 < m) : 0 <= md n m /\ md n m < m := by
 unfold md; rw [if_neg (by omega)]; exact ⟨Int.emod_nonneg _ (by omega), Int.emod_lt_of_pos _ h⟩
theorem Cg.of_inR (m r : Int) (h0 : -9223372036854775808 <= m) (h1 : m < 9223372036854775808) (h2 : -9223372036854775808 <= r) (h3 : r < 9223372036854775808) : (Cg.of m r).inR := by
 unfold Cg.of
 by_cases hm : m < 0
 . rw [if_pos hm]
   have := md_bound r 1 (by omega)
   unfold Cg.inR; dsimp only; omega
 . rw [if_neg hm]
   by_cases h0 : m = 0
   . subst h0; unfold Cg.inR md; dsimp only; rw [if_pos (by omega)]; omega
   . have := md_bound r m (by omega)
     unfold Cg.inR; dsimp only; omega
theorem Cg.eta (c : Cg) : (⟨c.some, c.m, c.r⟩ : Cg) = c := rfl
theorem Cg.clean_nn (c : Cg) : 0 <= c.clean.m := by
 unfold Cg.clean Cg.of Cg.none
 split
 . split
   . dsimp only; omega
   . dsimp only; omega
 . decide
theorem Cg.clean_inR {c : Cg} (h : c.inR) : c.clean.inR := by
 unfold Cg.clean
 split
 . exact Cg.of_inR _ _ h.1.1 h.1.2 h.2.1 h.2.2
 . unfold Cg.none Cg.inR; decide
def FCMod : List Ar -> Option Rs
 | [.c (.d (.v (.int .i64 i0))), .c (.d (.v (.int .i64 i1)))] => some ⟨(-9223372036854775808 <= i0 /\ i0 < 9223372036854775808) /\ (-9223372036854775808 <= i1 /\ i1 < 9223372036854775808), .va (.c (.d (it (md i0 i1)))), []⟩
 | _ => none
theorem fcCMod : FC Tryz.prog 100 FCMod := by
 intro xs pre r us h hp
 unfold FCMod at h
 split at h
 . rename_i i0 i1
   cases h
   obtain ⟨hp0, hp1⟩ := hp
   refine fcat tys_ok (l := []) trivial Tryz.func100 rfl (by kernel_rfl) false ?_
   repeat' (first | exact trivial | refine ⟨?_, ?_⟩ | intro _)
   all_goals first | (with_reducible first | apply qa | apply qb | apply qc | apply qd) | (conv => whnf)
   all_goals (try simp only [decide_eq_true_eq, decide_eq_false_iff_not] at *)
   all_goals first | omega | (have q := tmod_fix i0 i1 (by omega); have q2 := md_bound i0 i1 (by omega); unfold md at *; rw [if_neg (by omega)] at *; first | (rw [q.2 (by assumption)]) | (rw [wI_id _ (by omega) (by omega), q.1 (by assumption)])) | (unfold md; rw [if_pos (by assumption)])
 . cases h
def FCOf : List Ar -> Option Rs
 | [.c (.d (.v (.int .i64 i0))), .c (.d (.v (.int .i64 i1)))] => some ⟨(-9223372036854775808 <= i0 /\ i0 < 9223372036854775808) /\ (-9223372036854775808 <= i1 /\ i1 < 9223372036854775808), .va (Cg.ar (Cg.of i0 i1)), []⟩
 | _ => none
theorem fcCOf : FC Tryz.prog 90 FCOf := by
 intro xs pre r us h hp
 unfold FCOf at h
 split at h
 . rename_i i0 i1
   cases h
   obtain ⟨hp0, hp1⟩ := hp
   refine fcat tys_ok (l := [(100, ⟨[], FCMod⟩)]) ⟨fcCMod, trivial⟩ Tryz.func90 rfl (by kernel_rfl) false ?_
   repeat' (first | exact trivial | refine ⟨?_, ?_⟩ | intro _)
   all_goals first | (with_reducible first | apply qa | apply qb | apply qc | apply qd) | (conv => whnf)
   all_goals grind [Cg.of]
 . cases h
def FCOne : List Ar -> Option Rs
 | [.c (.d (.v (.int .i64 i0)))] => some ⟨(-9223372036854775808 <= i0 /\ i0 < 9223372036854775808), .va (Cg.ar (Cg.of 0 i0)), []⟩
 | _ => none
theorem fcCOne : FC Tryz.prog 64 FCOne := by
 intro xs pre r us h hp
 unfold FCOne at h
 split at h
 . rename_i i0
   cases h
   have hp0 := hp
   refine fcat tys_ok (l := [(90, ⟨[], FCOf⟩)]) ⟨fcCOf, trivial⟩ Tryz.func64 rfl (by kernel_rfl) false ?_
   repeat' (first | exact trivial | refine ⟨?_, ?_⟩ | intro _)
   all_goals first | (with_reducible first | apply qa | apply qb | apply qc | apply qd) | (conv => whnf)
   all_goals first | rfl | omega
 . cases h
def FCAll : List Ar -> Option Rs
 | [] => some ⟨True, .va (Cg.ar (Cg.of 1 0)), []⟩
 | _ => none
theorem fcCAll : FC Tryz.prog 57 FCAll := by
 intro xs pre r us h hp
 unfold FCAll at h
 split at h
 . cases h
   refine fcat tys_ok (l := [(90, ⟨[], FCOf⟩)]) ⟨fcCOf, trivial⟩ Tryz.func57 rfl (by kernel_rfl) false ?_
   repeat' (first | exact trivial | refine ⟨?_, ?_⟩ | intro _)
   all_goals first | (with_reducible first | apply qa | apply qb | apply qc | apply qd) | (conv => whnf)
   all_goals first | rfl | omega
 . cases h
def FCNone : List Ar -> Option Rs
 | [.agg [.d (.v (.bool b0)), .d (.v (.int .i64 m0)), .d (.v (.int .i64 r0))]] => some ⟨(Cg.inR ⟨b0, m0, r0⟩), .va (.c (.d (bo (!b0)))), []⟩
 | _ => none
theorem fcCNone : FC Tryz.prog 87 FCNone := by
 intro xs pre r us h hp
 unfold FCNone at h
 split at h
 . rename_i b0 m0 r0
   cases h
   have hp0 := hp
   refine fcat tys_ok (l := []) trivial Tryz.func87 rfl (by kernel_rfl) false ?_
   repeat' (first | exact trivial | refine ⟨?_, ?_⟩ | intro _)
   all_goals first | (with_reducible first | apply qa | apply qb | apply qc | apply qd) | (conv => whnf)
   all_goals rfl
 . cases h
def FCClean : List Ar -> Option Rs
 | [.agg [.d (.v (.bool b0)), .d (.v (.int .i64 m0)), .d (.v (.int .i64 r0))]] => some ⟨(Cg.inR ⟨b0, m0, r0⟩), .va (Cg.ar (Cg.clean (⟨b0, m0, r0⟩ : Cg))), []⟩
 | _ => none
theorem fcCClean : FC Tryz.prog 86 FCClean := by
 intro xs pre r us h hp
 unfold FCClean at h
 split at h
 . rename_i b0 m0 r0
   cases h
   have hp0 := hp
   refine fcat tys_ok (l := [(90, ⟨[], FCOf⟩)]) ⟨fcCOf, trivial⟩ Tryz.func86 rfl (by kernel_rfl) false ?_
   repeat' (first | exact trivial | refine ⟨?_, ?_⟩ | intro _)
   all_goals first | (with_reducible first | apply qa | apply qb | apply qc | apply qd) | (conv => whnf)
   all_goals first | grind [Cg.clean, Cg.none, Cg.inR]
 . cases h
def FCHas : List Ar -> Option Rs
 | [.agg [.d (.v (.bool b0)), .d (.v (.int .i64 m0)), .d (.v (.int .i64 r0))], .c (.d (.v (.int .i64 i1)))] => some ⟨(Cg.inR ⟨b0, m0, r0⟩) /\ (-9223372036854775808 <= i1 /\ i1 < 9223372036854775808), .va (.c (.d (bo (Cg.has (⟨b0, m0, r0⟩ : Cg) i1)))), []⟩
 | _ => none
theorem fcCHas : FC Tryz.prog 48 FCHas := by
 intro xs pre r us h hp
 unfold FCHas at h
 split at h
 . rename_i b0 m0 r0 i1
   cases h
   obtain ⟨hp0, hp1⟩ := hp
   refine fcat tys_ok (l := [(86, ⟨[], FCClean⟩), (100, ⟨[], FCMod⟩)]) ⟨fcCClean, fcCMod, trivial⟩ Tryz.func48 rfl (by kernel_rfl) false ?_
   repeat' (first | exact trivial | refine ⟨?_, ?_⟩ | intro _)
   all_goals first | (with_reducible first | apply qa | apply qb | apply qc | apply qd) | (conv => whnf)
   all_goals first | grind [Cg.has, Cg.inR, Cg.clean_inR]
 . cases h
def cI : Cell -> Int
 | .d (.v (.int _ n)) => n
 | _ => 0
def aB (b : Blk) (j : Nat) : Int := cI ((csB b)[j]?.getD .top)
def pw8 : Nat -> Int
 | 0 => 1
 | 1 => 65536
 | 2 => 4294967296
 | 3 => 281474976710656
 | 4 => 18446744073709551616
 | 5 => 1208925819614629174706176
 | 6 => 79228162514264337593543950336
 | 7 => 5192296858534827628530496329220096
 | _ => 340282366920938463463374607431768211456
def Wd.un (w : Wd) : Int := (w.hi % 18446744073709551616) * 18446744073709551616 + w.lo
def dgt (w : Wd) : Nat -> Int
 | 0 => w.lo / 1 % 65536
 | 1 => w.lo / 65536 % 65536
 | 2 => w.lo / 4294967296 % 65536
 | 3 => w.lo / 281474976710656 % 65536
 | 4 => w.hi % 18446744073709551616 / 1 % 65536
 | 5 => w.hi % 18446744073709551616 / 65536 % 65536
 | 6 => w.hi % 18446744073709551616 / 4294967296 % 65536
 | 7 => w.hi % 18446744073709551616 / 281474976710656 % 65536
 | _ => 0
def preS : Nat -> (Nat -> Int) -> Int
 | 0, _ => 0
 | i + 1, f => preS i f + pw8 i * f i
theorem dgt_bound (w : Wd) (j : Nat) : 0 <= dgt w j /\ dgt w j < 65536 := by unfold dgt; split <;> omega
theorem hor_eq (v : Int) (h0 : 0 <= v) (h1 : v < 18446744073709551616) : v / 1 % 65536 + 65536 * (v / 65536 % 65536) + 4294967296 * (v / 4294967296 % 65536) + 281474976710656 * (v / 281474976710656 % 65536) = v := by omega
theorem dgt_sum (w : Wd) (h : w.ok) : preS 8 (dgt w) = w.un := by
 have h1 := hor_eq w.lo h.2.1 h.2.2
 have h2 := hor_eq (w.hi % 18446744073709551616) (by omega) (by omega)
 simp only [preS, pw8, dgt, Wd.un] at *
 omega
def w8 (a b c d e f g h : Int) : Int := a + 65536 * b + 4294967296 * c + 281474976710656 * d + 18446744073709551616 * (e + 65536 * f + 4294967296 * g + 281474976710656 * h)
theorem tdivM (x b : Int) : (x % 18446744073709551616).tdiv b = x % 18446744073709551616 / b := Int.tdiv_eq_ediv_of_nonneg (Int.emod_nonneg _ (by decide))
theorem tmodM (x b : Int) : (x % 18446744073709551616).tmod b = x % 18446744073709551616 % b := Int.tmod_eq_emod_of_nonneg (Int.emod_nonneg _ (by decide))
theorem wd_shift (v k : Int) : wd (v + k * 340282366920938463463374607431768211456) = wd v := by
 unfold wd
 have h1 : (v + k * 340282366920938463463374607431768211456) % 18446744073709551616 = v % 18446744073709551616 := by omega
 have h2 : (v + k * 340282366920938463463374607431768211456) / 18446744073709551616 = v / 18446744073709551616 + k * 18446744073709551616 := by omega
 rw [h1, h2]
 congr 1
 omega
theorem wd_un {w : Wd} (h : w.ok) (v : Int) : wd (w.un + v) = wd (w.val + v) := by
 unfold Wd.ok at h
 have : w.un + v = w.val + v + (if w.hi < 0 then 1 else 0) * 340282366920938463463374607431768211456 := by
  unfold Wd.un Wd.val
  split <;> omega
 rw [this, wd_shift]
theorem wd_val_add (v k : Int) : wd ((wd v).val + k) = wd (v + k) := by
 obtain ⟨q, hq⟩ : ∃ q, (wd v).val = v + q * 340282366920938463463374607431768211456 := ⟨-((v / 18446744073709551616 + 9223372036854775808) / 18446744073709551616), by unfold wd Wd.val; dsimp only; omega⟩
 rw [hq, show v + q * 340282366920938463463374607431768211456 + k = v + k + q * 340282366920938463463374607431768211456 by omega, wd_shift]
def wCmp (a b : Int) : Int := if a < b then -1 else if b < a then 1 else 0
def pw : Nat -> Int
 | 0 => 1
 | 1 => 65536
 | 2 => 4294967296
 | 3 => 281474976710656
 | _ => 18446744073709551616
theorem preS8 (d : Nat -> Int) : preS 8 d = w8 (d 0) (d 1) (d 2) (d 3) (d 4) (d 5) (d 6) (d 7) := by simp only [preS, pw8, w8]; omega
theorem add_key {a b : Wd} (ha : a.ok) (hb : b.ok) {d : Nat -> Int} {c : Int} (h : preS 8 d + c * 340282366920938463463374607431768211456 = preS 8 (dgt a) + preS 8 (dgt b)) : wd (w8 (d 0) (d 1) (d 2) (d 3) (d 4) (d 5) (d 6) (d 7)) = wd (a.val + b.val) := by
 rw [dgt_sum a ha, dgt_sum b hb, preS8] at h
 rw [show w8 (d 0) (d 1) (d 2) (d 3) (d 4) (d 5) (d 6) (d 7) = a.un + (b.un + -c * 340282366920938463463374607431768211456) by omega, wd_un ha, show a.val + (b.un + -c * 340282366920938463463374607431768211456) = b.un + a.val + -c * 340282366920938463463374607431768211456 by omega, wd_shift, wd_un hb, Int.add_comm]
def FDigits : List Ar -> Option Rs
 | [.agg [.d (.v (.int .i64 h0)), .d (.v (.int .u64 l0))]] => some ⟨(Wd.ok ⟨h0, l0⟩), .va (.agg [.d (ut (dgt (⟨h0, l0⟩ : Wd) 0)), .d (ut (dgt (⟨h0, l0⟩ : Wd) 1)), .d (ut (dgt (⟨h0, l0⟩ : Wd) 2)), .d (ut (dgt (⟨h0, l0⟩ : Wd) 3)), .d (ut (dgt (⟨h0, l0⟩ : Wd) 4)), .d (ut (dgt (⟨h0, l0⟩ : Wd) 5)), .d (ut (dgt (⟨h0, l0⟩ : Wd) 6)), .d (ut (dgt (⟨h0, l0⟩ : Wd) 7))]), []⟩
 | _ => none
theorem fcDigits : FC Tryz.prog 101 FDigits := by
 intro xs pre r us h hp
 unfold FDigits at h
 split at h
 . rename_i h0 l0
   cases h
   have hp0 := hp
   refine fcat tys_ok (l := []) trivial Tryz.func101 rfl (by kernel_rfl) false ?_
   repeat' (first | exact trivial | refine ⟨?_, ?_⟩ | intro _)
   all_goals first | (with_reducible first | apply qa | apply qb | apply qc | apply qd) | (conv => whnf)
   refine loop_ok tys_ok (l := []) trivial (by kernel_rfl) (X := Nat × Int × Int × (Nat -> Int))
    (fun | (i, lo, hi, d) => ⟨[(6, vx (.int .i64 i)), (4, vx (.int .u64 lo)), (5, vx (.int .u64 hi)), (3, .va (.c (.own 2 0))), (2, .va (.c (.own 1 0)))], [(1, .cells [.d (ut (0)), .d (ut (0)), .d (ut (0)), .d (ut (0)), .d (ut (0)), .d (ut (0)), .d (ut (0)), .d (ut (0))]), (2, .cells [.d (ut (d 0)), .d (ut (d 1)), .d (ut (d 2)), .d (ut (d 3)), .d (ut (d 4)), .d (ut (d 5)), .d (ut (d 6)), .d (ut (d 7))])], 3, 30⟩)
    (fun | (i, _) => 4 - i) (fun | (i, lo, hi, d) => ((0 <= lo /\ lo < 18446744073709551616) /\ 0 <= hi /\ hi < 18446744073709551616) /\ i <= 4 /\ lo = l0 / pw i /\ hi = h0 % 18446744073709551616 / pw i /\ (0 < i -> d 0 = dgt ⟨h0, l0⟩ 0 /\ d 4 = dgt ⟨h0, l0⟩ 4) /\ (1 < i -> d 1 = dgt ⟨h0, l0⟩ 1 /\ d 5 = dgt ⟨h0, l0⟩ 5) /\ (2 < i -> d 2 = dgt ⟨h0, l0⟩ 2 /\ d 6 = dgt ⟨h0, l0⟩ 6) /\ (3 < i -> d 3 = dgt ⟨h0, l0⟩ 3 /\ d 7 = dgt ⟨h0, l0⟩ 7)) [4, 5] [2]
    (fun | (i, _), [t, u], [b] => (i + 1, iT t, iT u, aB b) | x, _, _ => x) [0, 1, 2] [0, 1, 2] 0 0 (0, l0, IntKind.wrap .u64 h0, fun _ => 0) ?_ ?_ ?_
   . rw [wU]; simp only [Wd.ok, pw] at *; omega
   . repeat' (first | exact trivial | exact rfl | (intro _ _; exact rfl) | refine ⟨?_, ?_⟩)
   . rintro ⟨i, lo, hi, d⟩ ⟨⟨⟨k1, k2⟩, k3, k4⟩, h1, h2, h3, h4⟩
     repeat' (first | exact trivial | refine ⟨?_, ?_⟩ | intro _)
     all_goals first | (with_reducible first | apply qa | apply qb | apply qc | apply qd) | (conv => whnf)
     all_goals first | with_reducible rfl | ((with_reducible show idsOk _ _ = true); rfl) | (exact absurd ‹(65536 : Int) = 0› (by decide)) | (clear hp; rcases (show i = 0 \/ i = 1 \/ i = 2 \/ i = 3 \/ i = 4 by omega) with rfl | rfl | rfl | rfl | rfl <;> first | omega | (simp [aB, csB, cI, pw, iT, wU, wI, dgt, Wd.ok, Int.tdiv_eq_ediv_of_nonneg, Int.tmod_eq_emod_of_nonneg, k1, k3] at * <;> omega))
 . cases h
def hor (a b c d : Int) : Nat -> Int
 | 0 => a + 65536 * (b + 65536 * (c + 65536 * d))
 | 1 => b + 65536 * (c + 65536 * d)
 | 2 => c + 65536 * d
 | 3 => d
 | _ => 0
def FWide : List Ar -> Option Rs
 | [.agg [.d (.v (.int .u64 q0_0)), .d (.v (.int .u64 q0_1)), .d (.v (.int .u64 q0_2)), .d (.v (.int .u64 q0_3)), .d (.v (.int .u64 q0_4)), .d (.v (.int .u64 q0_5)), .d (.v (.int .u64 q0_6)), .d (.v (.int .u64 q0_7))]] => some ⟨(((0 <= q0_0 /\ q0_0 < 65536) /\ (0 <= q0_1 /\ q0_1 < 65536) /\ (0 <= q0_2 /\ q0_2 < 65536) /\ (0 <= q0_3 /\ q0_3 < 65536) /\ (0 <= q0_4 /\ q0_4 < 65536) /\ (0 <= q0_5 /\ q0_5 < 65536) /\ (0 <= q0_6 /\ q0_6 < 65536) /\ (0 <= q0_7 /\ q0_7 < 65536))), .va (Wd.ar (wd (w8 q0_0 q0_1 q0_2 q0_3 q0_4 q0_5 q0_6 q0_7))), []⟩
 | _ => none
theorem fcWide : FC Tryz.prog 102 FWide := by
 intro xs pre r us h hp
 unfold FWide at h
 split at h
 . rename_i q0_0 q0_1 q0_2 q0_3 q0_4 q0_5 q0_6 q0_7
   cases h
   have hp0 := hp
   refine fcat tys_ok (l := []) trivial Tryz.func102 rfl (by kernel_rfl) false ?_
   repeat' (first | exact trivial | refine ⟨?_, ?_⟩ | intro _)
   all_goals first | (with_reducible first | apply qa | apply qb | apply qc | apply qd) | (conv => whnf)
   refine loop_ok tys_ok (l := []) trivial (by kernel_rfl) (X := Nat × Int × Int)
    (fun | (n, lo, hi) => ⟨[(5, vx (.int .i64 ((n : Int) - 1))), (3, vx (.int .u64 lo)), (4, vx (.int .u64 hi)), (1, .va (.c (.own 0 0))), (2, .va (.c (.own 1 0)))], [(0, .cells [.d (ut (q0_0)), .d (ut (q0_1)), .d (ut (q0_2)), .d (ut (q0_3)), .d (ut (q0_4)), .d (ut (q0_5)), .d (ut (q0_6)), .d (ut (q0_7))]), (1, .cells [.d (it 0), .d (ut 0)])], 2, 27⟩)
    (fun | (n, _) => n) (fun | (n, lo, hi) => n <= 4 /\ lo = hor q0_0 q0_1 q0_2 q0_3 n /\ hi = hor q0_4 q0_5 q0_6 q0_7 n) [3, 4] []
    (fun | (n, _), [t, u], _ => (n - 1, iT t, iT u) | x, _, _ => x) [0, 1] [0, 1] 0 0 (4, 0, 0) ?_ ?_ ?_
   . exact ⟨Nat.le_refl _, rfl, rfl⟩
   . repeat' (first | exact trivial | exact rfl | (intro _ _; exact rfl) | refine ⟨?_, ?_⟩)
   . rintro ⟨n, lo, hi⟩ ⟨h1, h2, h3⟩
     repeat' (first | exact trivial | refine ⟨?_, ?_⟩ | intro _)
     all_goals first | (with_reducible first | apply qa | apply qb | apply qc | apply qd) | (conv => whnf)
     all_goals first | with_reducible rfl | ((with_reducible show idsOk _ _ = true); rfl) | (exact absurd ‹(65536 : Int) = 0› (by decide)) | (clear hp; rcases (show n = 0 \/ n = 1 \/ n = 2 \/ n = 3 \/ n = 4 by omega) with rfl | rfl | rfl | rfl | rfl <;> first | omega | (simp [hor, w8, iT, wU, wI, wd, selI] at * <;> omega))
 . cases h
def FRAdd : List Ar -> Option Rs
 | [.agg [.d (.v (.int .i64 h0)), .d (.v (.int .u64 l0))], .agg [.d (.v (.int .i64 h1)), .d (.v (.int .u64 l1))]] => some ⟨(Wd.ok ⟨h0, l0⟩) /\ (Wd.ok ⟨h1, l1⟩), .va (Wd.ar (wd (Wd.val (⟨h0, l0⟩ : Wd) + Wd.val (⟨h1, l1⟩ : Wd)))), []⟩
 | _ => none
theorem fcRAdd : FC Tryz.prog 54 FRAdd := by
 intro xs pre r us h hp
 unfold FRAdd at h
 split at h
 . rename_i h0 l0 h1 l1
   cases h
   obtain ⟨hp0, hp1⟩ := hp
   refine fcat tys_ok (l := [(101, ⟨[], FDigits⟩), (102, ⟨[], FWide⟩)]) ⟨fcDigits, fcWide, trivial⟩ Tryz.func54 rfl (by kernel_rfl) false ?_
   repeat' (first | exact trivial | refine ⟨?_, ?_⟩ | intro _)
   all_goals first | (with_reducible first | apply qa | apply qb | apply qc | apply qd) | (conv => whnf)
   all_goals first | ((with_reducible show ASat _ _ _ _ _); skip) | (simp only [Wd.ok] at *; omega)
   refine loop_ok tys_ok (l := [(101, ⟨[], FDigits⟩), (102, ⟨[], FWide⟩)]) ⟨fcDigits, fcWide, trivial⟩ (by kernel_rfl) (X := Nat × Int × (Nat -> Int))
    (fun | (i, c, d) => ⟨[(8, vx (.int .i64 i)), (7, vx (.int .u64 c)), (5, .va (.c (.own 3 0))), (6, .va (.c (.own 4 0))), (4, .va (.c (.own 2 0)))], [(2, .cells [.d (it 0), .d (ut 0)]), (3, .cells [.d (ut (d 0)), .d (ut (d 1)), .d (ut (d 2)), .d (ut (d 3)), .d (ut (d 4)), .d (ut (d 5)), .d (ut (d 6)), .d (ut (d 7))]), (4, .cells [.d (ut (dgt ⟨h1, l1⟩ 0)), .d (ut (dgt ⟨h1, l1⟩ 1)), .d (ut (dgt ⟨h1, l1⟩ 2)), .d (ut (dgt ⟨h1, l1⟩ 3)), .d (ut (dgt ⟨h1, l1⟩ 4)), .d (ut (dgt ⟨h1, l1⟩ 5)), .d (ut (dgt ⟨h1, l1⟩ 6)), .d (ut (dgt ⟨h1, l1⟩ 7))])], 5, 35⟩)
    (fun | (i, _) => 8 - i) (fun | (i, c, d) => i <= 8 /\ (0 <= c /\ c <= 1) /\ preS i d + c * pw8 i = preS i (dgt ⟨h0, l0⟩) + preS i (dgt ⟨h1, l1⟩) /\ ((0 <= d 0 /\ d 0 < 65536) /\ (0 <= d 1 /\ d 1 < 65536) /\ (0 <= d 2 /\ d 2 < 65536) /\ (0 <= d 3 /\ d 3 < 65536) /\ (0 <= d 4 /\ d 4 < 65536) /\ (0 <= d 5 /\ d 5 < 65536) /\ (0 <= d 6 /\ d 6 < 65536) /\ (0 <= d 7 /\ d 7 < 65536)) /\ (i <= 0 -> d 0 = dgt ⟨h0, l0⟩ 0) /\ (i <= 1 -> d 1 = dgt ⟨h0, l0⟩ 1) /\ (i <= 2 -> d 2 = dgt ⟨h0, l0⟩ 2) /\ (i <= 3 -> d 3 = dgt ⟨h0, l0⟩ 3) /\ (i <= 4 -> d 4 = dgt ⟨h0, l0⟩ 4) /\ (i <= 5 -> d 5 = dgt ⟨h0, l0⟩ 5) /\ (i <= 6 -> d 6 = dgt ⟨h0, l0⟩ 6) /\ (i <= 7 -> d 7 = dgt ⟨h0, l0⟩ 7)) [7] [3]
    (fun | (i, _), [t], [b] => (i + 1, iT t, aB b) | x, _, _ => x) [0, 1, 2, 3, 4] [0, 1, 2, 7, 8] 0 0 (0, 0, dgt ⟨h0, l0⟩) ?_ ?_ ?_
   . refine ⟨by omega, by omega, rfl, ?_, ?_⟩
     . exact ⟨dgt_bound _ _, dgt_bound _ _, dgt_bound _ _, dgt_bound _ _, dgt_bound _ _, dgt_bound _ _, dgt_bound _ _, dgt_bound _ _⟩
     . simp
   . repeat' (first | exact trivial | exact rfl | (intro _ _; exact rfl) | refine ⟨?_, ?_⟩)
   . rintro ⟨i, c, d⟩ ⟨k1, k2, k3, k4, k5⟩
     have kk : i = 8 -> wd (w8 (d 0) (d 1) (d 2) (d 3) (d 4) (d 5) (d 6) (d 7)) = wd (Wd.val ⟨h0, l0⟩ + Wd.val ⟨h1, l1⟩) := fun e => by subst e; exact add_key hp0 hp1 (c := c) k3
     repeat' (first | exact trivial | refine ⟨?_, ?_⟩ | intro _)
     all_goals first | (with_reducible first | apply qa | apply qb | apply qc | apply qd) | (conv => whnf)
     all_goals first | with_reducible rfl | ((with_reducible show idsOk _ _ = true); rfl) | (exact absurd ‹(65536 : Int) = 0› (by decide)) | omega | (simp only [decide_eq_false_iff_not] at *; rw [kk (by omega)]) | (clear kk; have a0 := dgt_bound ⟨h0, l0⟩ 0; have b0 := dgt_bound ⟨h1, l1⟩ 0; have a1 := dgt_bound ⟨h0, l0⟩ 1; have b1 := dgt_bound ⟨h1, l1⟩ 1; have a2 := dgt_bound ⟨h0, l0⟩ 2; have b2 := dgt_bound ⟨h1, l1⟩ 2; have a3 := dgt_bound ⟨h0, l0⟩ 3; have b3 := dgt_bound ⟨h1, l1⟩ 3; have a4 := dgt_bound ⟨h0, l0⟩ 4; have b4 := dgt_bound ⟨h1, l1⟩ 4; have a5 := dgt_bound ⟨h0, l0⟩ 5; have b5 := dgt_bound ⟨h1, l1⟩ 5; have a6 := dgt_bound ⟨h0, l0⟩ 6; have b6 := dgt_bound ⟨h1, l1⟩ 6; have a7 := dgt_bound ⟨h0, l0⟩ 7; have b7 := dgt_bound ⟨h1, l1⟩ 7; rcases (show i = 0 \/ i = 1 \/ i = 2 \/ i = 3 \/ i = 4 \/ i = 5 \/ i = 6 \/ i = 7 \/ i = 8 by omega) with rfl | rfl | rfl | rfl | rfl | rfl | rfl | rfl | rfl <;> first | omega | (simp [aB, csB, cI, iT, wU, wI, preS, pw8, selI, tdivM, tmodM] at * <;> omega))
 . cases h
theorem un_val (w : Wd) (h : w.ok) : ∃ k, w.un = w.val + k * 340282366920938463463374607431768211456 := ⟨if w.hi < 0 then 1 else 0, by
 unfold Wd.ok at h; unfold Wd.un Wd.val; split <;> omega⟩
theorem val_wd (v : Int) : ∃ k, (wd v).val = v + k * 340282366920938463463374607431768211456 := ⟨-((v / 18446744073709551616 + 9223372036854775808) / 18446744073709551616), by unfold wd Wd.val; dsimp only; omega⟩
theorem wd_neg_val (v : Int) : wd (-(wd v).val) = wd (-v) := by
 obtain ⟨k, hk⟩ := val_wd v
 rw [hk, show -(v + k * 340282366920938463463374607431768211456) = -v + -k * 340282366920938463463374607431768211456 by omega, wd_shift]
theorem neg_key {a : Wd} (ha : a.ok) {d : Nat -> Int} (h : (d 0 = 65535 - dgt a 0 /\ d 1 = 65535 - dgt a 1) /\ (d 2 = 65535 - dgt a 2 /\ d 3 = 65535 - dgt a 3) /\ (d 4 = 65535 - dgt a 4 /\ d 5 = 65535 - dgt a 5) /\ d 6 = 65535 - dgt a 6 /\ d 7 = 65535 - dgt a 7) :
 wd (Wd.val ⟨(wd (w8 (d 0) (d 1) (d 2) (d 3) (d 4) (d 5) (d 6) (d 7))).hi, (wd (w8 (d 0) (d 1) (d 2) (d 3) (d 4) (d 5) (d 6) (d 7))).lo⟩ + Wd.val ⟨0, 1⟩) = wd (-a.val) := by
 have h2 := dgt_sum a ha
 rw [preS8] at h2
 have h3 : w8 (d 0) (d 1) (d 2) (d 3) (d 4) (d 5) (d 6) (d 7) = 340282366920938463463374607431768211456 - 1 - a.un := by unfold w8 at *; omega
 have h4 : Wd.val ⟨0, 1⟩ = 1 := by decide
 obtain ⟨k, hk⟩ := un_val a ha
 show wd ((wd (w8 (d 0) (d 1) (d 2) (d 3) (d 4) (d 5) (d 6) (d 7))).val + Wd.val ⟨0, 1⟩) = _
 rw [h4, wd_val_add, h3, hk, show 340282366920938463463374607431768211456 - 1 - (a.val + k * 340282366920938463463374607431768211456) + 1 = -a.val + (1 - k) * 340282366920938463463374607431768211456 by omega, wd_shift]
theorem of_key (n : Int) : wd (-(Wd.val ⟨(wd (Wd.val ⟨0, -(n + 1)⟩ + Wd.val ⟨0, 1⟩)).hi, (wd (Wd.val ⟨0, -(n + 1)⟩ + Wd.val ⟨0, 1⟩)).lo⟩)) = wd n := by
 show wd (-(wd (Wd.val ⟨0, -(n + 1)⟩ + Wd.val ⟨0, 1⟩)).val) = _
 rw [wd_neg_val]
 congr 1
 unfold Wd.val
 dsimp only
 omega
theorem cmp_sign {h0 l0 h1 l1 : Int} (hp0 : Wd.ok ⟨h0, l0⟩) (hp1 : Wd.ok ⟨h1, l1⟩) (h : (!decide (h0 < 0) == decide (h1 < 0)) = true) :
 (decide (h0 < 0) = true -> -1 = wCmp (Wd.val ⟨h0, l0⟩) (Wd.val ⟨h1, l1⟩)) /\ (decide (h0 < 0) = false -> 1 = wCmp (Wd.val ⟨h0, l0⟩) (Wd.val ⟨h1, l1⟩)) := by
 have q : (h0 < 0 /\ ¬ h1 < 0) \/ (¬ h0 < 0 /\ h1 < 0) := by
  by_cases a : h0 < 0 <;> by_cases b : h1 < 0 <;> simp_all
 clear h
 unfold Wd.ok at hp0 hp1
 dsimp only at hp0 hp1
 unfold wCmp Wd.val
 dsimp only
 constructor
 . intro h
   have h := of_decide_eq_true h
   rw [if_pos (by omega)]
 . intro h
   have h := of_decide_eq_false h
   rw [if_neg (by omega), if_pos (by omega)]
theorem cmp_un {h0 l0 h1 l1 : Int} (hp0 : Wd.ok ⟨h0, l0⟩) (hp1 : Wd.ok ⟨h1, l1⟩) (h : (!decide (h0 < 0) == decide (h1 < 0)) = false) :
 wCmp (Wd.val ⟨h0, l0⟩) (Wd.val ⟨h1, l1⟩) = wCmp (preS 8 (dgt ⟨h0, l0⟩)) (preS 8 (dgt ⟨h1, l1⟩)) := by
 rw [dgt_sum _ hp0, dgt_sum _ hp1]
 have q : (h0 < 0 /\ h1 < 0) \/ (¬ h0 < 0 /\ ¬ h1 < 0) := by
  by_cases a : h0 < 0 <;> by_cases b : h1 < 0 <;> simp_all
 clear h
 unfold Wd.ok at hp0 hp1
 dsimp only at hp0 hp1
 unfold wCmp Wd.val Wd.un
 dsimp only
 split <;> split <;> first | omega | (split <;> split <;> omega) | (split <;> omega)
theorem sub_key (a b : Wd) : wd (a.val + Wd.val ⟨(wd (-b.val)).hi, (wd (-b.val)).lo⟩) = wd (a.val - b.val) := by
 show wd (a.val + (wd (-b.val)).val) = _
 rw [Int.add_comm, wd_val_add]
 congr 1; omega
def FRNeg : List Ar -> Option Rs
 | [.agg [.d (.v (.int .i64 h0)), .d (.v (.int .u64 l0))]] => some ⟨(Wd.ok ⟨h0, l0⟩), .va (Wd.ar (wd (-Wd.val (⟨h0, l0⟩ : Wd)))), []⟩
 | _ => none
theorem fcRNeg : FC Tryz.prog 53 FRNeg := by
 intro xs pre r us h hp
 unfold FRNeg at h
 split at h
 . rename_i h0 l0
   cases h
   have hp0 := hp
   refine fcat tys_ok (l := [(101, ⟨[], FDigits⟩), (102, ⟨[], FWide⟩), (54, ⟨[], FRAdd⟩)]) ⟨fcDigits, fcWide, fcRAdd, trivial⟩ Tryz.func53 rfl (by kernel_rfl) false ?_
   repeat' (first | exact trivial | refine ⟨?_, ?_⟩ | intro _)
   all_goals first | (with_reducible first | apply qa | apply qb | apply qc | apply qd) | (conv => whnf)
   all_goals first | ((with_reducible show ASat _ _ _ _ _); skip) | (simp only [Wd.ok] at *; omega)
   refine loop_ok tys_ok (l := [(101, ⟨[], FDigits⟩), (102, ⟨[], FWide⟩), (54, ⟨[], FRAdd⟩)]) ⟨fcDigits, fcWide, fcRAdd, trivial⟩ (by kernel_rfl) (X := Nat × (Nat -> Int))
    (fun | (i, d) => ⟨[(4, vx (.int .i64 i)), (3, .va (.c (.own 2 0))), (2, .va (.c (.own 1 0)))], [(1, .cells [.d (it 0), .d (ut 0)]), (2, .cells [.d (ut (d 0)), .d (ut (d 1)), .d (ut (d 2)), .d (ut (d 3)), .d (ut (d 4)), .d (ut (d 5)), .d (ut (d 6)), .d (ut (d 7))])], 3, 21⟩)
    (fun | (i, _) => 8 - i) (fun | (i, d) => i <= 8 /\ ((0 < i -> d 0 = 65535 - dgt ⟨h0, l0⟩ 0) /\ (i <= 0 -> d 0 = dgt ⟨h0, l0⟩ 0)) /\ ((1 < i -> d 1 = 65535 - dgt ⟨h0, l0⟩ 1) /\ (i <= 1 -> d 1 = dgt ⟨h0, l0⟩ 1)) /\ ((2 < i -> d 2 = 65535 - dgt ⟨h0, l0⟩ 2) /\ (i <= 2 -> d 2 = dgt ⟨h0, l0⟩ 2)) /\ ((3 < i -> d 3 = 65535 - dgt ⟨h0, l0⟩ 3) /\ (i <= 3 -> d 3 = dgt ⟨h0, l0⟩ 3)) /\ ((4 < i -> d 4 = 65535 - dgt ⟨h0, l0⟩ 4) /\ (i <= 4 -> d 4 = dgt ⟨h0, l0⟩ 4)) /\ ((5 < i -> d 5 = 65535 - dgt ⟨h0, l0⟩ 5) /\ (i <= 5 -> d 5 = dgt ⟨h0, l0⟩ 5)) /\ ((6 < i -> d 6 = 65535 - dgt ⟨h0, l0⟩ 6) /\ (i <= 6 -> d 6 = dgt ⟨h0, l0⟩ 6)) /\ ((7 < i -> d 7 = 65535 - dgt ⟨h0, l0⟩ 7) /\ (i <= 7 -> d 7 = dgt ⟨h0, l0⟩ 7))) [] [2]
    (fun | (i, _), _, [b] => (i + 1, aB b) | x, _, _ => x) [0, 1, 2] [0, 1, 2] 0 0 (0, dgt ⟨h0, l0⟩) ?_ ?_ ?_
   . simp
   . repeat' (first | exact trivial | exact rfl | (intro _ _; exact rfl) | refine ⟨?_, ?_⟩)
   . rintro ⟨i, d⟩ ⟨k1, k5⟩
     have kk : i = 8 -> _ := fun e => neg_key hp0 (d := d) (by subst e; omega)
     repeat' (first | exact trivial | refine ⟨?_, ?_⟩ | intro _)
     all_goals first | (with_reducible first | apply qa | apply qb | apply qc | apply qd) | (conv => whnf)
     all_goals first | with_reducible rfl | ((with_reducible show idsOk _ _ = true); rfl) | (exact absurd ‹(65536 : Int) = 0› (by decide)) | omega | (simp only [decide_eq_false_iff_not] at *; rw [kk (by omega)]) | (exact (wd_ok _).1.1) | (exact (wd_ok _).1.2) | (exact (wd_ok _).2.1) | (exact (wd_ok _).2.2) | (clear kk; have a0 := dgt_bound ⟨h0, l0⟩ 0; have a1 := dgt_bound ⟨h0, l0⟩ 1; have a2 := dgt_bound ⟨h0, l0⟩ 2; have a3 := dgt_bound ⟨h0, l0⟩ 3; have a4 := dgt_bound ⟨h0, l0⟩ 4; have a5 := dgt_bound ⟨h0, l0⟩ 5; have a6 := dgt_bound ⟨h0, l0⟩ 6; have a7 := dgt_bound ⟨h0, l0⟩ 7; rcases (show i = 0 \/ i = 1 \/ i = 2 \/ i = 3 \/ i = 4 \/ i = 5 \/ i = 6 \/ i = 7 \/ i = 8 by omega) with rfl | rfl | rfl | rfl | rfl | rfl | rfl | rfl | rfl <;> first | omega | (simp [aB, csB, cI, iT, wU, wI, preS, pw8, selI, tdivM, tmodM] at * <;> omega))
 . cases h
def FRSub : List Ar -> Option Rs
 | [.agg [.d (.v (.int .i64 h0)), .d (.v (.int .u64 l0))], .agg [.d (.v (.int .i64 h1)), .d (.v (.int .u64 l1))]] => some ⟨(Wd.ok ⟨h0, l0⟩) /\ (Wd.ok ⟨h1, l1⟩), .va (Wd.ar (wd (Wd.val (⟨h0, l0⟩ : Wd) - Wd.val (⟨h1, l1⟩ : Wd)))), []⟩
 | _ => none
theorem fcRSub : FC Tryz.prog 67 FRSub := by
 intro xs pre r us h hp
 unfold FRSub at h
 split at h
 . rename_i h0 l0 h1 l1
   cases h
   obtain ⟨hp0, hp1⟩ := hp
   refine fcat tys_ok (l := [(53, ⟨[], FRNeg⟩), (54, ⟨[], FRAdd⟩)]) ⟨fcRNeg, fcRAdd, trivial⟩ Tryz.func67 rfl (by kernel_rfl) false ?_
   repeat' (first | exact trivial | refine ⟨?_, ?_⟩ | intro _)
   all_goals first | (with_reducible first | apply qa | apply qb | apply qc | apply qd) | (conv => whnf)
   all_goals first | rfl | (exact (wd_ok _).1.1) | (exact (wd_ok _).1.2) | (exact (wd_ok _).2.1) | (exact (wd_ok _).2.2) | (simp only [Wd.ok] at *; omega) | (rw [sub_key])
 . cases h
def FROf : List Ar -> Option Rs
 | [.c (.d (.v (.int .i64 i0)))] => some ⟨(-9223372036854775808 <= i0 /\ i0 < 9223372036854775808), .va (Wd.ar (wd i0)), []⟩
 | _ => none
theorem fcROf : FC Tryz.prog 52 FROf := by
 intro xs pre r us h hp
 unfold FROf at h
 split at h
 . rename_i i0
   cases h
   have hp0 := hp
   refine fcat tys_ok (l := [(53, ⟨[], FRNeg⟩), (54, ⟨[], FRAdd⟩)]) ⟨fcRNeg, fcRAdd, trivial⟩ Tryz.func52 rfl (by kernel_rfl) false ?_
   repeat' (first | exact trivial | refine ⟨?_, ?_⟩ | intro _)
   all_goals first | (with_reducible first | apply qa | apply qb | apply qc | apply qd) | (conv => whnf)
   all_goals (try simp only [wI, wU, decide_eq_true_eq, decide_eq_false_iff_not] at *)
   all_goals (try (rw [show ((0 - ((i0 + 1 + 9223372036854775808) % 18446744073709551616 - 9223372036854775808) + 9223372036854775808) % 18446744073709551616 - 9223372036854775808) % 18446744073709551616 = -(i0 + 1) by omega]))
   all_goals first | (exact (wd_ok _).1.1) | (exact (wd_ok _).1.2) | (exact (wd_ok _).2.1) | (exact (wd_ok _).2.2) | omega | (rw [of_key]) | (simp only [Wd.ok, wd, Value.int.injEq, true_and] at * <;> omega)
 . cases h
def FRCmp : List Ar -> Option Rs
 | [.agg [.d (.v (.int .i64 h0)), .d (.v (.int .u64 l0))], .agg [.d (.v (.int .i64 h1)), .d (.v (.int .u64 l1))]] => some ⟨(Wd.ok ⟨h0, l0⟩) /\ (Wd.ok ⟨h1, l1⟩), .va (.c (.d (it (wCmp (Wd.val (⟨h0, l0⟩ : Wd)) (Wd.val (⟨h1, l1⟩ : Wd)))))), []⟩
 | _ => none
theorem fcRCmp : FC Tryz.prog 51 FRCmp := by
 intro xs pre r us h hp
 unfold FRCmp at h
 split at h
 . rename_i h0 l0 h1 l1
   cases h
   obtain ⟨hp0, hp1⟩ := hp
   refine fcat tys_ok (l := [(101, ⟨[], FDigits⟩)]) ⟨fcDigits, trivial⟩ Tryz.func51 rfl (by kernel_rfl) false ?_
   repeat' (first | exact trivial | refine ⟨?_, ?_⟩ | intro _)
   all_goals first | (with_reducible first | apply qa | apply qb | apply qc | apply qd) | (conv => whnf)
   all_goals first | ((with_reducible show ASat _ _ _ _ _); skip) | (simp only [Wd.ok] at *; omega) | (rw [<- (cmp_sign hp0 hp1 ‹_›).1 ‹_›]) | (rw [<- (cmp_sign hp0 hp1 ‹_›).2 ‹_›]) | (trace_state; skip)
   refine loop_ok tys_ok (l := [(101, ⟨[], FDigits⟩)]) ⟨fcDigits, trivial⟩ (by kernel_rfl) (X := Nat)
    (fun n => ⟨[(7, vx (.int .i64 ((n : Int) - 1))), (5, .va (.c (.own 6 0))), (6, .va (.c (.own 7 0)))], [(6, .cells [.d (ut (dgt ⟨h0, l0⟩ 0)), .d (ut (dgt ⟨h0, l0⟩ 1)), .d (ut (dgt ⟨h0, l0⟩ 2)), .d (ut (dgt ⟨h0, l0⟩ 3)), .d (ut (dgt ⟨h0, l0⟩ 4)), .d (ut (dgt ⟨h0, l0⟩ 5)), .d (ut (dgt ⟨h0, l0⟩ 6)), .d (ut (dgt ⟨h0, l0⟩ 7))]), (7, .cells [.d (ut (dgt ⟨h1, l1⟩ 0)), .d (ut (dgt ⟨h1, l1⟩ 1)), .d (ut (dgt ⟨h1, l1⟩ 2)), .d (ut (dgt ⟨h1, l1⟩ 3)), .d (ut (dgt ⟨h1, l1⟩ 4)), .d (ut (dgt ⟨h1, l1⟩ 5)), .d (ut (dgt ⟨h1, l1⟩ 6)), .d (ut (dgt ⟨h1, l1⟩ 7))])], 8, 40⟩)
    (fun n => n) (fun n => n <= 8 /\ (n <= 0 -> dgt ⟨h0, l0⟩ 0 = dgt ⟨h1, l1⟩ 0) /\ (n <= 1 -> dgt ⟨h0, l0⟩ 1 = dgt ⟨h1, l1⟩ 1) /\ (n <= 2 -> dgt ⟨h0, l0⟩ 2 = dgt ⟨h1, l1⟩ 2) /\ (n <= 3 -> dgt ⟨h0, l0⟩ 3 = dgt ⟨h1, l1⟩ 3) /\ (n <= 4 -> dgt ⟨h0, l0⟩ 4 = dgt ⟨h1, l1⟩ 4) /\ (n <= 5 -> dgt ⟨h0, l0⟩ 5 = dgt ⟨h1, l1⟩ 5) /\ (n <= 6 -> dgt ⟨h0, l0⟩ 6 = dgt ⟨h1, l1⟩ 6) /\ (n <= 7 -> dgt ⟨h0, l0⟩ 7 = dgt ⟨h1, l1⟩ 7)) [] []
    (fun n _ _ => n - 1) [0, 1, 2, 3, 4, 5, 6, 7] [0, 1, 2, 3, 4, 5, 6, 7] 0 0 8 ?_ ?_ ?_
   . omega
   . repeat' (first | exact trivial | exact rfl | (intro _ _; exact rfl) | refine ⟨?_, ?_⟩)
   . rintro n ⟨k1, k5⟩
     repeat' (first | exact trivial | refine ⟨?_, ?_⟩ | intro _)
     all_goals first | (with_reducible first | apply qa | apply qb | apply qc | apply qd) | (conv => whnf)
     all_goals first | with_reducible rfl | ((with_reducible show idsOk _ _ = true); rfl) | (exact absurd ‹(65536 : Int) = 0› (by decide)) | omega | (refine congrArg (Value.int IntKind.i64) ?_; rw [cmp_un hp0 hp1 ‹_›]; have a0 := dgt_bound ⟨h0, l0⟩ 0; have a1 := dgt_bound ⟨h0, l0⟩ 1; have a2 := dgt_bound ⟨h0, l0⟩ 2; have a3 := dgt_bound ⟨h0, l0⟩ 3; have a4 := dgt_bound ⟨h0, l0⟩ 4; have a5 := dgt_bound ⟨h0, l0⟩ 5; have a6 := dgt_bound ⟨h0, l0⟩ 6; have a7 := dgt_bound ⟨h0, l0⟩ 7; have b0 := dgt_bound ⟨h1, l1⟩ 0; have b1 := dgt_bound ⟨h1, l1⟩ 1; have b2 := dgt_bound ⟨h1, l1⟩ 2; have b3 := dgt_bound ⟨h1, l1⟩ 3; have b4 := dgt_bound ⟨h1, l1⟩ 4; have b5 := dgt_bound ⟨h1, l1⟩ 5; have b6 := dgt_bound ⟨h1, l1⟩ 6; have b7 := dgt_bound ⟨h1, l1⟩ 7; rcases (show n = 0 \/ n = 1 \/ n = 2 \/ n = 3 \/ n = 4 \/ n = 5 \/ n = 6 \/ n = 7 \/ n = 8 by omega) with rfl | rfl | rfl | rfl | rfl | rfl | rfl | rfl | rfl <;> simp [selI] at * <;> simp only [wCmp, preS, pw8] at * <;> first | omega | (rw [if_pos (by omega)]) | (rw [if_neg (by omega), if_pos (by omega)]) | (rw [if_neg (by omega), if_neg (by omega)])) | (rcases (show n = 0 \/ n = 1 \/ n = 2 \/ n = 3 \/ n = 4 \/ n = 5 \/ n = 6 \/ n = 7 \/ n = 8 by omega) with rfl | rfl | rfl | rfl | rfl | rfl | rfl | rfl | rfl <;> simp [selI, wI] at * <;> omega)
 . cases h
def gW : List DV -> Wd
 | [.v (.int .i64 h), .v (.int .u64 l)] => ⟨h, l⟩
 | _ => ⟨0, 0⟩
theorem Wd.eta' (w : Wd) : (⟨w.hi, w.lo⟩ : Wd) = w := rfl
def FWNeg : List Ar -> Option Rs
 | [.agg [.d (.v (.int .i64 h0)), .d (.v (.int .u64 l0))]] => some ⟨(Wd.ok ⟨h0, l0⟩), .va (Wd.ar (wd (0 - Wd.val (⟨h0, l0⟩ : Wd)))), []⟩
 | _ => none
theorem fcWNeg : FC Tryz.prog 124 FWNeg := by
 intro xs pre r us h hp
 unfold FWNeg at h
 split at h
 . rename_i h0 l0
   cases h
   have hp0 := hp
   refine fcat tys_ok (l := [(121, ⟨[], FWSub⟩)]) ⟨fcWSub, trivial⟩ Tryz.func124 rfl (by kernel_rfl) false ?_
   repeat' (first | exact trivial | refine ⟨?_, ?_⟩ | intro _)
   all_goals first | (with_reducible first | apply qa | apply qb | apply qc | apply qd) | (conv => whnf)
   all_goals first | rfl | decide | omega | exact hp0.1.1 | exact hp0.1.2 | exact hp0.2.1 | exact hp0.2.2
 . cases h
def FWCmp : List Ar -> Option Rs
 | [.agg [.d (.v (.int .i64 h0)), .d (.v (.int .u64 l0))], .agg [.d (.v (.int .i64 h1)), .d (.v (.int .u64 l1))]] => some ⟨(Wd.ok ⟨h0, l0⟩) /\ (Wd.ok ⟨h1, l1⟩), .va (.c (.d (it (wCmp (Wd.val (⟨h0, l0⟩ : Wd)) (Wd.val (⟨h1, l1⟩ : Wd)))))), []⟩
 | _ => none
theorem fcWCmp : FC Tryz.prog 177 FWCmp := by
 intro xs pre r us h hp
 unfold FWCmp at h
 split at h
 . rename_i h0 l0 h1 l1
   cases h
   obtain ⟨hp0, hp1⟩ := hp
   refine fcat tys_ok (l := []) trivial Tryz.func177 rfl (by kernel_rfl) false ?_
   repeat' (first | exact trivial | refine ⟨?_, ?_⟩ | intro _)
   all_goals first | (with_reducible first | apply qa | apply qb | apply qc | apply qd) | (conv => whnf)
   all_goals (simp only [decide_eq_true_eq, decide_eq_false_iff_not, beq_iff_eq, beq_eq_false_iff_ne, ne_eq, Bool.and_true, Bool.and_eq_true, Bool.and_eq_false_imp, Wd.val, Wd.ok] at *; refine congrArg (Value.int .i64) ?_; unfold wCmp; (repeat' split) <;> omega)
 . cases h
def maxW (a x : Wd) : Wd := if wCmp x.val a.val = 1 then x else a
theorem maxW_t {a x : Wd} {i : Int} (hi : i = 1) (h : (wCmp x.val a.val == i) = true) : maxW a x = x := by subst hi; unfold maxW; rw [if_pos (by simpa using h)]
theorem maxW_f {a x : Wd} {i : Int} (hi : i = 1) (h : (wCmp x.val a.val == i) = false) : maxW a x = a := by subst hi; unfold maxW; rw [if_neg (by simpa using h)]
theorem maxW_ok {a x : Wd} (h : a.ok) (h' : x.ok) : (maxW a x).ok := by unfold maxW; split <;> assumption
def atW (i : Nat) (a x : Wd) : Wd := if i = 0 then a else maxW a x
def FWBest : List Ar -> Option Rs
 | [.agg [.d (.v (.int .i64 h0)), .d (.v (.int .u64 l0))], .c (.d (.v (.int .i64 i1))), .c (.d (.lst 2 1 f2))] => some ⟨(Wd.ok ⟨h0, l0⟩) /\ (-9223372036854775808 <= i1 /\ i1 < 9223372036854775808) /\ (f2 0 = [it (gW (f2 0)).hi, ut (gW (f2 0)).lo] /\ Wd.ok (gW (f2 0))) /\ (i1 = 1), .va (Wd.ar (maxW (⟨h0, l0⟩ : Wd) (gW (f2 0)))), []⟩
 | _ => none
theorem fcWBest : FC Tryz.prog 157 FWBest := by
 intro xs pre r us h hp
 unfold FWBest at h
 split at h
 . rename_i h0 l0 i1 f2
   cases h
   obtain ⟨hp0, hp1, hp2, hp3⟩ := hp
   refine FCat.of_eq (as' := [.agg [.d (.v (.int .i64 h0)), .d (.v (.int .u64 l0))], .c (.d (.v (.int .i64 i1))), .c (.d (.lst 2 1 fun _ => [it (gW (f2 0)).hi, ut (gW (f2 0)).lo]))]) ?_ rfl rfl ?_
   . repeat' (first | exact trivial | exact rfl | refine ⟨?_, ?_⟩ | fail)
     all_goals first | exact hp0.2 | exact hp1.2 | exact hp2.2 | (intro i hi; exact (hp0.2 i hi).1) | (intro i hi; exact (hp1.2 i hi).1) | (intro i hi; exact (hp2.2 i hi).1) | grind
   refine fcat tys_ok (l := [(177, ⟨[], FWCmp⟩)]) ⟨fcWCmp, trivial⟩ Tryz.func157 rfl (by kernel_rfl) false ?_
   repeat' (first | exact trivial | refine ⟨?_, ?_⟩ | intro _)
   all_goals first | (with_reducible first | apply qa | apply qb | apply qc | apply qd) | (conv => whnf)
   refine loop_ok tys_ok (l := [(177, ⟨[], FWCmp⟩)]) ⟨fcWCmp, trivial⟩ (by kernel_rfl) (X := Nat)
    (fun x => ⟨[(11, vx (.int .i64 x)), (10, vx (.int .i64 1)), (9, .va (.c (.d (.lst 2 1 fun _ => [it (gW (f2 0)).hi, ut (gW (f2 0)).lo])))), (1, vx (.int .i64 i1)), (3, .va (.c (.own 0 0))), (6, .va (.c (.own 1 0)))], [(0, .cells [.d (it (atW x ⟨h0, l0⟩ (gW (f2 0))).hi), .d (ut (atW x ⟨h0, l0⟩ (gW (f2 0))).lo)]), (1, .cells [.d (it 0), .d (ut 0)])], 2, 23⟩)
    (fun x => 1 - x) (fun x => x <= 1) [] [] (fun x _ _ => x + 1) [0, 1] [0, 1] 0 0 0 (Nat.zero_le _) ?_ ?_
   . repeat' (first | exact trivial | exact rfl | (intro _ h; exact absurd h (Nat.not_lt_zero _)) | (intro _ _; exact rfl) | refine ⟨?_, ?_⟩ | fail)
   . intro i k1
     have hc : i = 0 \/ i = 1 := by omega
     rcases hc with rfl | rfl
     . have f0 : Wd.ok (atW 0 ⟨h0, l0⟩ (gW (f2 0))) := hp0
       repeat' (first | exact trivial | (with_reducible first | exact hp2.2 | exact f0) | refine ⟨?_, ?_⟩ | intro _)
       all_goals first | (with_reducible first | apply qa | apply qb | apply qc | apply qd) | (conv => whnf)
       all_goals first | omega | rfl | decide | (exact hp0.1.1) | (exact hp0.1.2) | (exact hp0.2.1) | (exact hp0.2.2) | (exact hp2.2.1.1) | (exact hp2.2.1.2) | (exact hp2.2.2.1) | (exact hp2.2.2.2) | (exfalso; exact absurd ‹decide _ = false› (by decide)) | (exfalso; exact absurd ‹decide _ = true› (by decide)) | (exact congrArg (fun w : Wd => Value.int .i64 w.hi) (maxW_t hp3 ‹(_ == i1) = true›).symm) | (exact congrArg (fun w : Wd => Value.int .u64 w.lo) (maxW_t hp3 ‹(_ == i1) = true›).symm) | (exact congrArg (fun w : Wd => Value.int .i64 w.hi) (maxW_f hp3 ‹(_ == i1) = false›).symm) | (exact congrArg (fun w : Wd => Value.int .u64 w.lo) (maxW_f hp3 ‹(_ == i1) = false›).symm)
     . repeat' (first | exact trivial | refine ⟨?_, ?_⟩ | intro _)
       all_goals first | (with_reducible first | apply qa | apply qb | apply qc | apply qd) | (conv => whnf)
       all_goals first | omega | rfl | decide | (exact hp0.1.1) | (exact hp0.1.2) | (exact hp0.2.1) | (exact hp0.2.2) | (exact hp2.2.1.1) | (exact hp2.2.1.2) | (exact hp2.2.2.1) | (exact hp2.2.2.2) | (exfalso; exact absurd ‹decide _ = false› (by decide)) | (exfalso; exact absurd ‹decide _ = true› (by decide)) | (exact congrArg (fun w : Wd => Value.int .i64 w.hi) (maxW_t hp3 ‹(_ == i1) = true›).symm) | (exact congrArg (fun w : Wd => Value.int .u64 w.lo) (maxW_t hp3 ‹(_ == i1) = true›).symm) | (exact congrArg (fun w : Wd => Value.int .i64 w.hi) (maxW_f hp3 ‹(_ == i1) = false›).symm) | (exact congrArg (fun w : Wd => Value.int .u64 w.lo) (maxW_f hp3 ‹(_ == i1) = false›).symm)
 . cases h
def FWMax : List Ar -> Option Rs
 | [.agg [.d (.v (.int .i64 h0)), .d (.v (.int .u64 l0))], .c (.d (.lst 2 1 f1))] => some ⟨(Wd.ok ⟨h0, l0⟩) /\ (f1 0 = [it (gW (f1 0)).hi, ut (gW (f1 0)).lo] /\ Wd.ok (gW (f1 0))), .va (Wd.ar (maxW (⟨h0, l0⟩ : Wd) (gW (f1 0)))), []⟩
 | _ => none
theorem fcWMax : FC Tryz.prog 123 FWMax := by
 intro xs pre r us h hp
 unfold FWMax at h
 split at h
 . rename_i h0 l0 f1
   cases h
   obtain ⟨hp0, hp1⟩ := hp
   refine FCat.of_eq (as' := [.agg [.d (.v (.int .i64 h0)), .d (.v (.int .u64 l0))], .c (.d (.lst 2 1 fun _ => [it (gW (f1 0)).hi, ut (gW (f1 0)).lo]))]) ?_ rfl rfl ?_
   . repeat' (first | exact trivial | exact rfl | refine ⟨?_, ?_⟩ | fail)
     all_goals first | exact hp0.2 | exact hp1.2 | exact hp2.2 | (intro i hi; exact (hp0.2 i hi).1) | (intro i hi; exact (hp1.2 i hi).1) | (intro i hi; exact (hp2.2 i hi).1) | grind
   refine fcat tys_ok (l := [(157, ⟨[], FWBest⟩)]) ⟨fcWBest, trivial⟩ Tryz.func123 rfl (by kernel_rfl) false ?_
   have hq : (-9223372036854775808 : Int) <= 1 /\ (1 : Int) < 9223372036854775808 := by decide
   repeat' (first | exact trivial | refine ⟨?_, ?_⟩ | intro _)
   all_goals first | (with_reducible first | apply qa | apply qb | apply qc | apply qd) | (conv => whnf)
   all_goals first | rfl | decide | exact hp0 | exact hp0.1.1 | exact hp0.1.2 | exact hp0.2.1 | exact hp0.2.2 | exact hp1.2.1.1 | exact hp1.2.1.2 | exact hp1.2.2.1 | exact hp1.2.2.2
 . cases h
def apartI (a b : Int) : Int := if a ≥ b then a - b else b - a
theorem apart_key {a b : Int} (ha : -9223372036854775808 <= a /\ a < 9223372036854775808) (hb : -9223372036854775808 <= b /\ b < 9223372036854775808) : (maxW (wd ((wd a).val - (wd b).val)) (wd (0 - (wd ((wd a).val - (wd b).val)).val))).lo = if a ≥ b then a - b else b - a := by
 rw [wd_val (v := a) (by omega) (by omega), wd_val (v := b) (by omega) (by omega), wd_val (v := a - b) (by omega) (by omega)]
 unfold maxW wCmp
 rw [wd_val (v := a - b) (by omega) (by omega), wd_val (v := 0 - (a - b)) (by omega) (by omega)]
 unfold wd
 (repeat' split) <;> dsimp only <;> omega
def FCApart : List Ar -> Option Rs
 | [.c (.d (.v (.int .i64 i0))), .c (.d (.v (.int .i64 i1)))] => some ⟨(-9223372036854775808 <= i0 /\ i0 < 9223372036854775808) /\ (-9223372036854775808 <= i1 /\ i1 < 9223372036854775808), .va (.c (.d (ut (apartI i0 i1)))), []⟩
 | _ => none
theorem fcCApart : FC Tryz.prog 89 FCApart := by
 intro xs pre r us h hp
 unfold FCApart at h
 split at h
 . rename_i i0 i1
   cases h
   obtain ⟨hp0, hp1⟩ := hp
   refine fcat tys_ok (l := [(122, ⟨[], FWOf⟩), (121, ⟨[], FWSub⟩), (124, ⟨[], FWNeg⟩), (123, ⟨[], FWMax⟩)]) ⟨fcWOf, fcWSub, fcWNeg, fcWMax, trivial⟩ Tryz.func89 rfl (by kernel_rfl) false ?_
   repeat' (first | exact trivial | (with_reducible first | exact wd_ok _ | exact (wd_ok _).1.1 | exact (wd_ok _).1.2 | exact (wd_ok _).2.1 | exact (wd_ok _).2.2) | refine ⟨?_, ?_⟩ | intro _)
   all_goals first | (with_reducible first | apply qa | apply qb | apply qc | apply qd) | (conv => whnf)
   all_goals first | omega | rfl | exact (wd_ok _).1.1 | exact (wd_ok _).1.2 | exact (wd_ok _).2.1 | exact (wd_ok _).2.2 | (exact congrArg (Value.int .u64) (apart_key hp0 hp1))
 . cases h
theorem gcd_step {a b : Int} (hb : b ≠ 0) (h0 : 0 <= a) (h1 : 0 <= b) : 0 <= a.tmod b /\ a.tmod b < b /\ Int.gcd b (a.tmod b) = Int.gcd a b := by
 rw [Int.tmod_eq_emod_of_nonneg h0]
 refine ⟨Int.emod_nonneg _ hb, Int.emod_lt_of_pos _ (by omega), ?_⟩
 obtain ⟨x, rfl⟩ := Int.eq_ofNat_of_zero_le h0
 obtain ⟨y, rfl⟩ := Int.eq_ofNat_of_zero_le h1
 rw [<- Int.natCast_emod, Int.gcd_natCast_natCast, Int.gcd_natCast_natCast, Nat.gcd_comm x y, Nat.gcd_rec y x, Nat.gcd_comm]
def FCGcd : List Ar -> Option Rs
 | [.c (.d (.v (.int .u64 u0))), .c (.d (.v (.int .u64 u1)))] => some ⟨(0 <= u0 /\ u0 < 18446744073709551616) /\ (0 <= u1 /\ u1 < 18446744073709551616), .va (.c (.d (ut ((Int.gcd u0 u1 : Int))))), []⟩
 | _ => none
theorem fcCGcd : FC Tryz.prog 88 FCGcd := by
 intro xs pre r us h hp
 unfold FCGcd at h
 split at h
 . rename_i u0 u1
   cases h
   obtain ⟨hp0, hp1⟩ := hp
   refine fcat tys_ok (l := []) trivial Tryz.func88 rfl (by kernel_rfl) false ?_
   repeat' (first | exact trivial | refine ⟨?_, ?_⟩ | intro _)
   all_goals first | (with_reducible first | apply qa | apply qb | apply qc | apply qd) | (conv => whnf)
   refine scope_ok tys_ok (ls := []) trivial (by kernel_rfl) 0 rfl (X := Int × Int) (fun x => ⟨[(0, vx (.int .u64 x.1)), (1, vx (.int .u64 x.2))], [], 0, 12⟩) (fun x => x.2.toNat)
    (fun x => (0 <= x.1 /\ x.1 < 18446744073709551616) /\ (0 <= x.2 /\ x.2 < 18446744073709551616) /\ Int.gcd x.1 x.2 = Int.gcd u0 u1) [0, 1] [] (fun xs _ => match xs with | [a, b] => (iT a, iT b) | _ => (0, 0)) (fun _ xs _ => match xs with | [a, b] => (iT a, iT b) | _ => (0, 0)) [] [] 0 0 ?_ ?_
   . repeat' (first | exact trivial | refine ⟨?_, ?_⟩ | intro _)
     all_goals first | (with_reducible first | apply qa | apply qb | apply qc | apply qd) | (conv => whnf)
     all_goals (try simp only [beq_iff_eq, beq_eq_false_iff_ne, ne_eq, iT] at *)
     all_goals first | omega | ((with_reducible show idsOk _ _ = true); rfl) | (exact absurd ‹_› ‹¬ _›) | (have e : u1 = 0 := ‹u1 = 0›; rw [e, Int.gcd_zero, Int.natAbs_of_nonneg (by omega)]; done) | (have q := gcd_step (a := u0) (b := u1) ‹_› (by omega) (by omega); first | omega | (rw [q.2.2]) | rfl) | rfl
   . rintro ⟨a, b⟩ ⟨k1, k2, k3⟩
     dsimp only at k1 k2 k3
     repeat' (first | exact trivial | refine ⟨?_, ?_⟩ | intro _)
     all_goals first | (with_reducible first | apply qa | apply qb | apply qc | apply qd) | (conv => whnf)
     all_goals (try simp only [beq_iff_eq, beq_eq_false_iff_ne, ne_eq, iT] at *)
     all_goals first | omega | ((with_reducible show idsOk _ _ = true); rfl) | (exact absurd ‹_› ‹¬ _›) | (rw [<- k3]; have e : b = 0 := ‹b = 0›; rw [e, Int.gcd_zero, Int.natAbs_of_nonneg (by omega)]; done) | (have q := gcd_step (a := a) (b := b) ‹_› (by omega) (by omega); first | omega | (rw [q.2.2]; exact k3) | rfl) | rfl
 . cases h
namespace Cg
def gcdJ (x y : Cg) : Int := (Int.gcd (Int.gcd x.m y.m : Int) (apartI x.r y.r) : Int)
def join (a b : Cg) : Cg := if !a.clean.some then b.clean else if !b.clean.some then a.clean else if gcdJ a.clean b.clean > 9223372036854775807 then Cg.of 1 0 else Cg.of (gcdJ a.clean b.clean) a.clean.r
end Cg
theorem gcd_u {a b : Int} (ha : 0 <= a /\ a < 18446744073709551616) (hb : 0 <= b /\ b < 18446744073709551616) : 0 <= (Int.gcd a b : Int) /\ (Int.gcd a b : Int) < 18446744073709551616 := by
 refine ⟨by omega, ?_⟩
 rcases Int.lt_or_eq_of_le ha.1 with h | h
 . have := Int.gcd_le_left (b := b) h; omega
 . subst h
   rw [Int.zero_gcd]; omega
theorem apart_u {a b : Int} (ha : -9223372036854775808 <= a /\ a < 9223372036854775808) (hb : -9223372036854775808 <= b /\ b < 9223372036854775808) : 0 <= apartI a b /\ apartI a b < 18446744073709551616 := by unfold apartI; split <;> omega
theorem gcdJ_u {x y : Cg} (hx : x.inR) (hy : y.inR) (h0 : 0 <= x.m) (h1 : 0 <= y.m) : 0 <= Cg.gcdJ x y /\ Cg.gcdJ x y < 18446744073709551616 := by
 unfold Cg.inR at hx hy
 exact gcd_u (gcd_u (by omega) (by omega)) (apart_u hx.2 hy.2)
theorem join_1 {a b : Cg} (h : (!a.clean.some) = true) : Cg.join a b = b.clean := by unfold Cg.join; rw [if_pos h]
theorem join_2 {a b : Cg} (h : (!a.clean.some) = false) (h2 : (!b.clean.some) = true) : Cg.join a b = a.clean := by unfold Cg.join; rw [if_neg (by rw [h]; decide), if_pos h2]
theorem join_3 {a b : Cg} (h : (!a.clean.some) = false) (h2 : (!b.clean.some) = false) (h3 : decide (Cg.gcdJ a.clean b.clean > 9223372036854775807) = true) : Cg.join a b = Cg.of 1 0 := by unfold Cg.join; rw [if_neg (by rw [h]; decide), if_neg (by rw [h2]; decide), if_pos (by simpa using h3)]
theorem join_4 {a b : Cg} (h : (!a.clean.some) = false) (h2 : (!b.clean.some) = false) (h3 : decide (Cg.gcdJ a.clean b.clean > 9223372036854775807) = false) (h0 : 0 <= Cg.gcdJ a.clean b.clean) : Cg.join a b = Cg.of (IntKind.wrap .i64 (Cg.gcdJ a.clean b.clean)) a.clean.r := by
 unfold Cg.join; rw [if_neg (by rw [h]; decide), if_neg (by rw [h2]; decide), if_neg (by simpa using h3), wI_id _ (by omega) (by have := of_decide_eq_false h3; omega)]
theorem wrapJ {g : Int} (h0 : 0 <= g) (h3 : decide (g > 9223372036854775807) = false) : -9223372036854775808 <= IntKind.wrap .i64 g /\ IntKind.wrap .i64 g < 9223372036854775808 := by
 have := of_decide_eq_false h3
 rw [wI_id _ (by omega) (by omega)]; omega
def FCJoin : List Ar -> Option Rs
 | [.agg [.d (.v (.bool b0)), .d (.v (.int .i64 m0)), .d (.v (.int .i64 r0))], .agg [.d (.v (.bool b1)), .d (.v (.int .i64 m1)), .d (.v (.int .i64 r1))]] => some ⟨(Cg.inR ⟨b0, m0, r0⟩) /\ (Cg.inR ⟨b1, m1, r1⟩), .va (Cg.ar (Cg.join (⟨b0, m0, r0⟩ : Cg) (⟨b1, m1, r1⟩ : Cg))), []⟩
 | _ => none
theorem fcCJoin : FC Tryz.prog 35 FCJoin := by
 intro xs pre r us h hp
 unfold FCJoin at h
 split at h
 . rename_i b0 m0 r0 b1 m1 r1
   cases h
   obtain ⟨hp0, hp1⟩ := hp
   refine fcat tys_ok (l := [(86, ⟨[], FCClean⟩), (87, ⟨[], FCNone⟩), (88, ⟨[], FCGcd⟩), (89, ⟨[], FCApart⟩), (57, ⟨[], FCAll⟩), (90, ⟨[], FCOf⟩)]) ⟨fcCClean, fcCNone, fcCGcd, fcCApart, fcCAll, fcCOf, trivial⟩ Tryz.func35 rfl (by kernel_rfl) false ?_
   have hx := Cg.clean_inR hp0
   have hy := Cg.clean_inR hp1
   have hxx := hx
   have hyy := hy
   unfold Cg.inR at hxx hyy
   have hx0 := Cg.clean_nn ⟨b0, m0, r0⟩
   have hy0 := Cg.clean_nn ⟨b1, m1, r1⟩
   have ux := wU_id (Cg.clean ⟨b0, m0, r0⟩).m hx0 (by have := hx.1.2; omega)
   have uy := wU_id (Cg.clean ⟨b1, m1, r1⟩).m hy0 (by have := hy.1.2; omega)
   have vx : 0 <= (Cg.clean ⟨b0, m0, r0⟩).m /\ (Cg.clean ⟨b0, m0, r0⟩).m < 18446744073709551616 := ⟨hx0, by have := hx.1.2; omega⟩
   have vy : 0 <= (Cg.clean ⟨b1, m1, r1⟩).m /\ (Cg.clean ⟨b1, m1, r1⟩).m < 18446744073709551616 := ⟨hy0, by have := hy.1.2; omega⟩
   have g1 := gcd_u vx vy
   have g2 := apart_u hx.2 hy.2
   have g3 := gcdJ_u hx hy hx0 hy0
   repeat' (first | exact trivial | (with_reducible first | exact hx | exact hy | exact hx.1 | exact hx.2 | exact hy.1 | exact hy.2 | exact hp0 | exact hp1 | exact vx | exact vy | exact g1 | exact g2) | refine ⟨?_, ?_⟩ | intro _)
   all_goals first | (with_reducible first | apply qa | apply qb | apply qc | apply qd) | (conv => whnf)
   all_goals (try rw [ux] at *)
   all_goals (try rw [uy] at *)
   all_goals first | (with_reducible first | exact vx.1 | exact vx.2 | exact vy.1 | exact vy.2 | exact hxx.1.1 | exact hxx.1.2 | exact hxx.2.1 | exact hxx.2.2 | exact hyy.1.1 | exact hyy.1.2 | exact hyy.2.1 | exact hyy.2.2 | exact g1.1 | exact g1.2 | exact g2.1 | exact g2.2) | exact (wrapJ g3.1 ‹decide (_ > _) = false›).1 | exact (wrapJ g3.1 ‹decide (_ > _) = false›).2 | (have e := join_1 (a := ⟨b0, m0, r0⟩) (b := ⟨b1, m1, r1⟩) ‹_›; first | exact congrArg (fun i : Cg => Value.bool i.some) e.symm | exact congrArg (fun i : Cg => Value.int .i64 i.m) e.symm | exact congrArg (fun i : Cg => Value.int .i64 i.r) e.symm | fail) | (have e := join_2 (a := ⟨b0, m0, r0⟩) (b := ⟨b1, m1, r1⟩) ‹_› ‹_›; first | exact congrArg (fun i : Cg => Value.bool i.some) e.symm | exact congrArg (fun i : Cg => Value.int .i64 i.m) e.symm | exact congrArg (fun i : Cg => Value.int .i64 i.r) e.symm | fail) | (have e := join_3 (a := ⟨b0, m0, r0⟩) (b := ⟨b1, m1, r1⟩) ‹_› ‹_› ‹_›; first | exact congrArg (fun i : Cg => Value.bool i.some) e.symm | exact congrArg (fun i : Cg => Value.int .i64 i.m) e.symm | exact congrArg (fun i : Cg => Value.int .i64 i.r) e.symm | fail) | (have e := join_4 (a := ⟨b0, m0, r0⟩) (b := ⟨b1, m1, r1⟩) ‹_› ‹_› ‹_› g3.1; first | exact congrArg (fun i : Cg => Value.bool i.some) e.symm | exact congrArg (fun i : Cg => Value.int .i64 i.m) e.symm | exact congrArg (fun i : Cg => Value.int .i64 i.r) e.symm | fail)
 . cases h
def sizeI (n : Int) : Int := if n < 0 then -n else n
theorem sizeI_r {n : Int} (h : -9223372036854775808 <= n /\ n < 9223372036854775808) : 0 <= sizeI n /\ sizeI n <= 9223372036854775808 := by unfold sizeI; split <;> omega
theorem size_t {n : Int} (h : -9223372036854775808 <= n /\ n < 9223372036854775808) (h2 : decide (n < 0) = true) : IntKind.u64.wrap (0 - IntKind.u64.wrap n) = sizeI n := by
 have := of_decide_eq_true h2
 unfold sizeI; rw [if_pos this, wU, wU]; omega
theorem size_f {n : Int} (h : -9223372036854775808 <= n /\ n < 9223372036854775808) (h2 : decide (n < 0) = false) : IntKind.u64.wrap n = sizeI n := by
 have := of_decide_eq_false h2
 unfold sizeI; rw [if_neg this, wU]; omega
theorem size_mul {a b : Int} (ha : -9223372036854775808 <= a /\ a < 9223372036854775808) (hb : -9223372036854775808 <= b /\ b < 9223372036854775808) : (0 <= sizeI a * sizeI b /\ sizeI a * sizeI b <= 85070591730234615865843651857942052864) /\ ((decide (a < 0) != decide (b < 0)) = true -> sizeI a * sizeI b = -(a * b)) /\ ((decide (a < 0) != decide (b < 0)) = false -> sizeI a * sizeI b = a * b) := by
 have h1 := sizeI_r ha
 have h2 := sizeI_r hb
 refine ⟨⟨Int.mul_nonneg h1.1 h2.1, by have := Int.mul_le_mul h1.2 h2.2 h2.1 (by decide); omega⟩, ?_, ?_⟩
 . intro h
   unfold sizeI
   by_cases h3 : a < 0 <;> by_cases h4 : b < 0 <;> simp [h3, h4, Int.neg_mul, Int.mul_neg] at h ⊢
 . intro h
   unfold sizeI
   by_cases h3 : a < 0 <;> by_cases h4 : b < 0 <;> simp [h3, h4, Int.neg_mul, Int.mul_neg] at h ⊢
theorem wd_parts {p : Int} (h : 0 <= p /\ p <= 85070591730234615865843651857942052864) : (⟨IntKind.wrap .i64 (p / 18446744073709551616), p % 18446744073709551616⟩ : Wd) = wd p := by
 rw [wI]; unfold wd; congr 1
theorem wd_nn {p q : Int} (h : 0 <= p /\ p <= 85070591730234615865843651857942052864) (e : p = -q) : wd (0 - (wd p).val) = wd q := by
 rw [wd_val (v := p) (by omega) (by omega)]; congr 1; omega
theorem mul64_r {p : Int} (h : 0 <= p /\ p <= 85070591730234615865843651857942052864) : (0 <= p / 18446744073709551616 /\ p / 18446744073709551616 < 18446744073709551616) /\ 0 <= p % 18446744073709551616 /\ p % 18446744073709551616 < 18446744073709551616 := by omega
def FWSize : List Ar -> Option Rs
 | [.c (.d (.v (.int .i64 i0)))] => some ⟨(-9223372036854775808 <= i0 /\ i0 < 9223372036854775808), .va (.c (.d (ut (sizeI i0)))), []⟩
 | _ => none
theorem fcWSize : FC Tryz.prog 134 FWSize := by
 intro xs pre r us h hp
 unfold FWSize at h
 split at h
 . rename_i i0
   cases h
   have hp0 := hp
   refine fcat tys_ok (l := []) trivial Tryz.func134 rfl (by kernel_rfl) false ?_
   repeat' (first | exact trivial | refine ⟨?_, ?_⟩ | intro _)
   all_goals first | (with_reducible first | apply qa | apply qb | apply qc | apply qd) | (conv => whnf)
   all_goals first | exact congrArg (Value.int .u64) (size_t hp0 ‹_›) | exact congrArg (Value.int .u64) (size_f hp0 ‹_›)
 . cases h
def FWMul : List Ar -> Option Rs
 | [.c (.d (.v (.int .i64 i0))), .c (.d (.v (.int .i64 i1)))] => some ⟨(-9223372036854775808 <= i0 /\ i0 < 9223372036854775808) /\ (-9223372036854775808 <= i1 /\ i1 < 9223372036854775808), .va (Wd.ar (wd (i0 * i1))), []⟩
 | _ => none
theorem fcWMul : FC Tryz.prog 95 FWMul := by
 intro xs pre r us h hp
 unfold FWMul at h
 split at h
 . rename_i i0 i1
   cases h
   obtain ⟨hp0, hp1⟩ := hp
   refine fcat tys_ok (l := [(134, ⟨[], FWSize⟩), (133, ⟨[], FMul64⟩), (124, ⟨[], FWNeg⟩)]) ⟨fcWSize, fcMul64, fcWNeg, trivial⟩ Tryz.func95 rfl (by kernel_rfl) false ?_
   have s0 := sizeI_r hp0
   have s1 := sizeI_r hp1
   have z0 : 0 <= sizeI i0 /\ sizeI i0 < 18446744073709551616 := by omega
   have z1 : 0 <= sizeI i1 /\ sizeI i1 < 18446744073709551616 := by omega
   obtain ⟨mr, m1, m2⟩ := size_mul hp0 hp1
   have mr2 := mul64_r mr
   have ew := wd_parts mr
   have eh : IntKind.wrap .i64 (sizeI i0 * sizeI i1 / 18446744073709551616) = (wd (sizeI i0 * sizeI i1)).hi := congrArg Wd.hi ew
   have el : sizeI i0 * sizeI i1 % 18446744073709551616 = (wd (sizeI i0 * sizeI i1)).lo := congrArg Wd.lo ew
   have ok := wd_ok (sizeI i0 * sizeI i1)
   unfold Wd.ok at ok
   repeat' (first | exact trivial | (with_reducible first | exact hp0 | exact hp1 | exact hp0.1 | exact hp0.2 | exact hp1.1 | exact hp1.2 | exact z0 | exact z1 | exact z0.1 | exact z0.2 | exact z1.1 | exact z1.2 | exact ok | exact ok.1 | exact ok.2) | refine ⟨?_, ?_⟩ | intro _)
   all_goals first | (with_reducible first | apply qa | apply qb | apply qc | apply qd) | (conv => whnf)
   all_goals first | (rw [eh, m2 ‹_›]; done) | (rw [el, m2 ‹_›]; done) | (rw [ew, wd_nn mr (m1 ‹_›)]; done) | (rw [eh]; first | exact ok.1.1 | exact ok.1.2 | exact ok.1 | exact ok) | exact mr2.2.1 | exact mr2.2.2 | exact mr2.2
 . cases h
theorem hi_lt {a b m : Int} (ha : 0 <= a /\ a < m) (hb : 0 <= b /\ b < 18446744073709551616) : a * b / 18446744073709551616 < m := by
 have h : a * b <= (m - 1) * b := Int.mul_le_mul_of_nonneg_right (by omega) hb.1
 have h2 : (m - 1) * b <= (m - 1) * (18446744073709551616 - 1) := Int.mul_le_mul_of_nonneg_left (by omega) (by omega)
 generalize a * b = p at *
 generalize (m - 1) * b = q at *
 omega
theorem mul_r {a b : Int} (ha : 0 <= a /\ a < 18446744073709551616) (hb : 0 <= b /\ b < 18446744073709551616) : (0 <= a * b / 18446744073709551616 /\ a * b / 18446744073709551616 < 18446744073709551616) /\ (0 <= a * b % 18446744073709551616 /\ a * b % 18446744073709551616 < 18446744073709551616) /\ a * b / 18446744073709551616 * 18446744073709551616 + a * b % 18446744073709551616 = a * b := by
 have h := Int.mul_nonneg ha.1 hb.1
 have h1 : a * b <= (18446744073709551616 - 1) * (18446744073709551616 - 1) := Int.mul_le_mul (by omega) (by omega) hb.1 (by decide)
 generalize a * b = p at *
 omega
def FCTimes : List Ar -> Option Rs
 | [.c (.d (.v (.int .u64 u0))), .c (.d (.v (.int .u64 u1))), .c (.d (.v (.int .u64 u2)))] => some ⟨(0 <= u0 /\ u0 < 18446744073709551616) /\ (0 <= u1 /\ u1 < 18446744073709551616) /\ (0 <= u2 /\ u2 < 18446744073709551616) /\ (u0 < u2), .va (.c (.d (ut (u0 * u1 % u2)))), []⟩
 | _ => none
theorem fcCTimes : FC Tryz.prog 135 FCTimes := by
 intro xs pre r us h hp
 unfold FCTimes at h
 split at h
 . rename_i u0 u1 u2
   cases h
   obtain ⟨hp0, hp1, hp2, hp3⟩ := hp
   refine fcat tys_ok (l := [(133, ⟨[], FMul64⟩), (161, ⟨[], FDiv64⟩)]) ⟨fcMul64, fcDiv64, trivial⟩ Tryz.func135 rfl (by kernel_rfl) false ?_
   have hh := hi_lt (a := u0) (b := u1) (m := u2) (by omega) hp1
   obtain ⟨mr, mr1, mr2⟩ := mul_r hp0 hp1
   repeat' (first | exact trivial | (with_reducible first | exact hp0 | exact hp1 | exact hp2 | exact hh | exact mr | exact mr1 | exact mr.1 | exact mr.2 | exact mr1.1 | exact mr1.2) | refine ⟨?_, ?_⟩ | intro _)
   all_goals first | (with_reducible first | apply qa | apply qb | apply qc | apply qd) | (conv => whnf)
   all_goals first | (rw [mr2]; done) | exact hp2
 . cases h
abbrev st (s : ByteArray) : DV := .v (.string s)
def gT : List DV -> ByteArray
 | [.v (.string s)] => s
 | _ => ByteArray.empty
def gN (n : Nat) (f : Nat -> List DV) : List ByteArray := (List.range n).map fun i => gT (f i)
def atS (l : List ByteArray) (i : Nat) : ByteArray := l.getD i ByteArray.empty
abbrev lst (l : List ByteArray) : DV := .lst 1 l.length fun i => [st (atS l i)]
structure Ns where
 null : Bool
 names : List ByteArray
abbrev Ns.ar (s : Ns) : Ar := .agg [.d (bo s.null), .d (lst s.names)]
theorem gN_add (i : Nat) (f : Nat -> List DV) : gN (i + 1) f = gN i f ++ [gT (f i)] := by simp [gN, List.range_succ]
theorem gN_length (n : Nat) (f : Nat -> List DV) : (gN n f).length = n := by simp [gN]
theorem gN_canon (n : Nat) (f : Nat -> List DV) : (gN n fun i => [st (gT (f i))]) = gN n f := rfl
theorem gN_lst (l : List ByteArray) : gN l.length (fun i => [st (atS l i)]) = l := by
 unfold gN atS
 apply List.ext_getElem
 . simp
 . intro i h1 h2; simp [gT, h2]
def slt (a b : ByteArray) : Bool := Op.bytesLess a.toList b.toList
def sle (a b : ByteArray) : Bool := Op.bytesLess a.toList b.toList || a.toList == b.toList
def seq (a b : ByteArray) : Bool := a.toList == b.toList
def stepP (x : ByteArray) (s : List ByteArray × Bool) (y : ByteArray) : List ByteArray × Bool :=
 if !s.2 && sle x y then (if slt x y then s.1 ++ [x] ++ [y] else s.1 ++ [y], true) else (s.1 ++ [y], s.2)
def putS (l : List ByteArray) (x : ByteArray) : List ByteArray :=
 if (l.foldl (stepP x) ([], false)).2 then (l.foldl (stepP x) ([], false)).1 else (l.foldl (stepP x) ([], false)).1 ++ [x]
theorem stepP_in {x y : ByteArray} {out : List ByteArray} : stepP x (out, true) y = (out ++ [y], true) := rfl
theorem stepP_lt {x y : ByteArray} {out : List ByteArray} (h1 : sle x y = true) (h2 : slt x y = true) : stepP x (out, false) y = (out ++ [x] ++ [y], true) := by unfold stepP; simp [h1, h2]
theorem stepP_eq {x y : ByteArray} {out : List ByteArray} (h1 : sle x y = true) (h2 : slt x y = false) : stepP x (out, false) y = (out ++ [y], true) := by unfold stepP; simp [h1, h2]
theorem stepP_gt {x y : ByteArray} {out : List ByteArray} (h1 : sle x y = false) : stepP x (out, false) y = (out ++ [y], false) := by unfold stepP; simp [h1]
theorem appRow_snoc {l : List ByteArray} {n : Nat} (hn : l.length = n) {F g : Nat -> List DV} {y : ByteArray} (hF : ∀ j, j < n -> F j = [st (atS l j)]) (hg : g 0 = [st y]) (i : Nat) (hi : i < n + 1) : appRow n F g i = [st (atS (l ++ [y]) i)] := by
 unfold appRow
 by_cases h : i < n
 . rw [if_pos h, hF i h]; simp [atS, List.getD_eq_getElem?_getD, List.getElem?_append_left (show i < l.length by omega)]
 . have : i = n := by omega
   subst this
   subst hn
   rw [if_neg (by omega), Nat.sub_self, hg]; simp [atS]
def cleanS (l : List ByteArray) : List ByteArray := l.foldl putS []
theorem seq_iff (a b : ByteArray) : (a.toList == b.toList) = decide (a = b) := by
 rw [ByteArray.toList_eq, ByteArray.toList_eq]
 rw [Bool.eq_iff_iff]
 simp only [beq_iff_eq, decide_eq_true_eq]
 constructor
 . intro h
   have : a.data = b.data := Array.ext' h
   cases a; cases b; simp_all
 . rintro rfl; rfl
theorem gN_eq {n m : Nat} {f g : Nat -> List DV} : gN n f = gN m g ↔ n = m /\ ∀ j, j < n -> gT (f j) = gT (g j) := by
 constructor
 . intro h
   have h1 := congrArg List.length h
   rw [gN_length, gN_length] at h1
   subst h1
   refine ⟨rfl, fun j hj => ?_⟩
   have := congrArg (fun l => l[j]?) h
   simpa [gN, hj] using this
 . rintro ⟨rfl, h⟩
   unfold gN
   exact List.map_congr_left fun j hj => h j (by simpa using hj)
theorem exact_no {b0 b1 : Bool} {n m : Nat} {f g : Nat -> List DV} (h : ¬ (n = m /\ ∀ j, j < n -> gT (f j) = gT (g j))) : Value.bool false = Value.bool (b0 == b1 && decide (gN n f = gN m g)) := by
 rw [decide_eq_false (by rw [gN_eq]; exact h)]; simp
theorem exact_b {b0 b1 : Bool} {p : Bool} (h : (!b0 == b1) = true) : Value.bool false = Value.bool (b0 == b1 && p) := by
 cases b0 <;> cases b1 <;> simp_all
theorem exact_yes {b0 b1 : Bool} {n m : Nat} {f g : Nat -> List DV} (hb : (!b0 == b1) = false) (h : n = m /\ ∀ j, j < n -> gT (f j) = gT (g j)) : Value.bool true = Value.bool (b0 == b1 && decide (gN n f = gN m g)) := by
 rw [decide_eq_true (by rw [gN_eq]; exact h)]; cases b0 <;> cases b1 <;> simp_all
theorem exact_n {b0 b1 : Bool} {n m : Nat} {f g : Nat -> List DV} (h : ((n : Int) != (m : Int)) = true) : Value.bool false = Value.bool (b0 == b1 && decide (gN n f = gN m g)) :=
 exact_no (fun e => by rw [e.1] at h; simp at h)
theorem exact_at {b0 b1 : Bool} {n m i : Nat} {f g : Nat -> List DV} (h : (!decide (gT (f i) = gT (g i))) = true) (hi : i < n) : Value.bool false = Value.bool (b0 == b1 && decide (gN n f = gN m g)) :=
 exact_no (fun e => by rw [e.2 i hi] at h; simp at h)
theorem below_step {i : Nat} {f g : Nat -> List DV} (k : ∀ j, j < i -> gT (f j) = gT (g j)) (h : (!decide (gT (f i) = gT (g i))) = false) (j : Nat) (hj : j < i + 1) : gT (f j) = gT (g j) := by
 rcases Nat.lt_or_ge j i with h1 | h1
 . exact k j h1
 . have : j = i := by omega
   subst this
   simpa using h
theorem gN_mem {n : Nat} {f : Nat -> List DV} {x : ByteArray} : x ∈ gN n f ↔ ∃ i, i < n /\ gT (f i) = x := by simp [gN]
def FRExact : List Ar -> Option Rs
 | [.agg [.d (.v (.bool b0)), .d (.lst 1 n0 f0)], .agg [.d (.v (.bool b1)), .d (.lst 1 n1 f1)]] => some ⟨(n0 * 16 <= 140737488351232 /\ ∀ i, i < n0 -> f0 i = [st (gT (f0 i))]) /\ (n1 * 16 <= 140737488351232 /\ ∀ i, i < n1 -> f1 i = [st (gT (f1 i))]), .va (.c (.d (bo (b0 == b1 && decide (gN n0 f0 = gN n1 f1))))), []⟩
 | _ => none
theorem fcRExact : FC Tryz.prog 70 FRExact := by
 intro xs pre r us h hp
 unfold FRExact at h
 split at h
 . rename_i b0 n0 f0 b1 n1 f1
   cases h
   obtain ⟨hp0, hp1⟩ := hp
   refine FCat.of_eq (as' := [.agg [.d (.v (.bool b0)), .d (.lst 1 n0 fun i => [st (gT (f0 i))])], .agg [.d (.v (.bool b1)), .d (.lst 1 n1 fun i => [st (gT (f1 i))])]]) ?_ rfl rfl ?_
   . repeat' (first | exact trivial | exact rfl | refine ⟨?_, ?_⟩ | fail)
     all_goals first | exact hp0.2 | exact hp1.2 | exact hp2.2 | (intro i hi; exact (hp0.2 i hi).1) | (intro i hi; exact (hp1.2 i hi).1) | (intro i hi; exact (hp2.2 i hi).1) | grind
   refine fcat tys_ok (l := []) trivial Tryz.func70 rfl (by kernel_rfl) false ?_
   repeat' (first | exact trivial | refine ⟨?_, ?_⟩ | intro _)
   all_goals first | (with_reducible first | apply qa | apply qb | apply qc | apply qd) | (conv => whnf)
   all_goals first | ((with_reducible show ASat _ _ _ _ _); skip) | (exact exact_b (by assumption)) | (exact exact_n (by assumption))
   refine loop_ids tys_ok (l := []) trivial (by kernel_rfl) (X := Nat)
    (fun x => ⟨[(5, vx (.int .i64 x)), (2, .va (.c (.own 0 0))), (3, .va (.c (.own 1 0)))], [(0, .cells [.d (bo b0), .d (.lst 1 n0 fun i => [st (gT (f0 i))])]), (1, .cells [.d (bo b1), .d (.lst 1 n1 fun i => [st (gT (f1 i))])])], 2, 38⟩)
    (fun x => n0 - x) (fun x => x <= n0 /\ ∀ j, j < x -> gT (f0 j) = gT (f1 j)) [] []
    (fun x _ _ => x + 1) (fun _ => [0, 1]) [0, 1] 0 0 0 ?_ ?_ ?_
   . exact ⟨Nat.zero_le _, fun j h => absurd h (Nat.not_lt_zero _)⟩
   . repeat' (first | exact trivial | exact rfl | (intro _ h; exact absurd h (Nat.not_lt_zero _)) | (intro _ _; exact rfl) | refine ⟨?_, ?_⟩ | fail)
   . have hnn : n0 = n1 := by
      have := ‹((n0 : Int) != (n1 : Int)) = false›
      simp only [bne_eq_false_iff_eq] at this
      omega
     rintro i ⟨k1, k2⟩
     repeat' (first | exact trivial | refine ⟨?_, ?_⟩ | intro _)
     all_goals first | (with_reducible first | apply qa | apply qb | apply qc | apply qd) | (conv => whnf)
     all_goals (try simp only [Int.toNat_natCast, decide_eq_true_eq, decide_eq_false_iff_not, seq_iff] at *)
     all_goals first | omega | (exact absurd rfl (by assumption)) | ((with_reducible show idsOk _ _ = true); rfl) | ((with_reducible show Value.int _ _ = Value.int _ _); rw [wI_id _ (by omega) (by omega)]; rfl) | (exact exact_at (by assumption) (by omega)) | (refine exact_yes (by assumption) ⟨hnn, fun j hj => k2 j (by omega)⟩) | (exact below_step k2 (by assumption) _ (by assumption)) | rfl
 . cases h
def memS (x : ByteArray) (l : List ByteArray) : Bool := l.any fun y => decide (x = y)
theorem memS_iff {x : ByteArray} {l : List ByteArray} : memS x l = true ↔ x ∈ l := by
 unfold memS; simp
def ixS (l : List ByteArray) (x : ByteArray) : Int := if memS x l = true then (l.findIdx fun y => decide (x = y) : Nat) else -1
def subS (l m : List ByteArray) : Bool := l.all fun x => memS x m
theorem ixS_no {n : Nat} {f : Nat -> List DV} {x : ByteArray} (h : ∀ j, j < n -> ¬ x = gT (f j)) : (-1 : Int) = ixS (gN n f) x := by
 unfold ixS
 rw [if_neg]
 rw [memS_iff, gN_mem]
 rintro ⟨i, hi, e⟩
 exact h i hi e.symm
theorem ixS_at {n i : Nat} {f : Nat -> List DV} {x : ByteArray} (h : ∀ j, j < i -> ¬ x = gT (f j)) (hi : i < n) (he : x = gT (f i)) : (i : Int) = ixS (gN n f) x := by
 unfold ixS
 rw [if_pos (memS_iff.2 (gN_mem.2 ⟨i, hi, he.symm⟩))]
 have hl : i < (gN n f).length := by rw [gN_length]; exact hi
 have hg : ∀ j (hj : j < (gN n f).length), (gN n f)[j] = gT (f j) := fun j hj => by simp [gN]
 have : (gN n f).findIdx (fun y => decide (x = y)) = i := by
  rw [List.findIdx_eq hl]
  refine ⟨by rw [hg i hl]; simpa using he, fun j hj => ?_⟩
  rw [hg j (by omega)]; simpa using h j hj
 rw [this]
theorem ixS_ge {l : List ByteArray} {x : ByteArray} : decide (ixS l x ≥ 0) = memS x l := by
 unfold ixS
 split
 . rename_i h; simp [h]
 . rename_i h; simp [h]
theorem not_step {i : Nat} {f : Nat -> List DV} {x : ByteArray} (k : ∀ j, j < i -> ¬ x = gT (f j)) (h : ¬ x = gT (f i)) (j : Nat) (hj : j < i + 1) : ¬ x = gT (f j) := by
 rcases Nat.lt_or_ge j i with h1 | h1
 . exact k j h1
 . have : j = i := by omega
   subst this
   exact h
theorem subS_no {n i : Nat} {f : Nat -> List DV} {m : List ByteArray} {p : Bool} (hi : i < n) (h : (!memS (gT (f i)) m) = true) : Value.bool false = Value.bool (p && subS (gN n f) m) := by
 have : subS (gN n f) m = false := by
  unfold subS
  rw [List.all_eq_false]
  exact ⟨gT (f i), gN_mem.2 ⟨i, hi, rfl⟩, by simpa using h⟩
 rw [this]; simp
theorem subS_yes {n : Nat} {f : Nat -> List DV} {m : List ByteArray} {b0 b1 : Bool} (h0 : b0 = true -> b1 = true) (h : ∀ j, j < n -> gT (f j) ∈ m) : Value.bool true = Value.bool ((!b0 || b1) && subS (gN n f) m) := by
 have : subS (gN n f) m = true := by
  unfold subS
  rw [List.all_eq_true]
  intro x hx
  obtain ⟨i, hi, rfl⟩ := gN_mem.1 hx
  exact memS_iff.2 (h i hi)
 rw [this]
 cases b0 <;> simp_all
theorem in_step {i : Nat} {f : Nat -> List DV} {m : List ByteArray} (k : ∀ j, j < i -> gT (f j) ∈ m) (h : (!memS (gT (f i)) m) = false) (j : Nat) (hj : j < i + 1) : gT (f j) ∈ m := by
 rcases Nat.lt_or_ge j i with h1 | h1
 . exact k j h1
 . have : j = i := by omega
   subst this
   exact memS_iff.1 (by simpa using h)
def FNIndex : List Ar -> Option Rs
 | [.c (.d (.lst 1 n0 f0)), .c (.d (.v (.string x1)))] => some ⟨(n0 * 16 <= 140737488351232 /\ ∀ i, i < n0 -> f0 i = [st (gT (f0 i))]), .va (.c (.d (it (ixS (gN n0 f0) x1)))), []⟩
 | _ => none
theorem fcNIndex : FC Tryz.prog 138 FNIndex := by
 intro xs pre r us h hp
 unfold FNIndex at h
 split at h
 . rename_i n0 f0 x1
   cases h
   have hp0 := hp
   refine FCat.of_eq (as' := [.c (.d (.lst 1 n0 fun i => [st (gT (f0 i))])), .c (.d (.v (.string x1)))]) ?_ rfl rfl ?_
   . repeat' (first | exact trivial | exact rfl | refine ⟨?_, ?_⟩ | fail)
     all_goals first | exact hp0.2 | exact hp1.2 | exact hp2.2 | (intro i hi; exact (hp0.2 i hi).1) | (intro i hi; exact (hp1.2 i hi).1) | (intro i hi; exact (hp2.2 i hi).1) | grind
   refine fcat tys_ok (l := []) trivial Tryz.func138 rfl (by kernel_rfl) false ?_
   repeat' (first | exact trivial | refine ⟨?_, ?_⟩ | intro _)
   all_goals first | (with_reducible first | apply qa | apply qb | apply qc | apply qd) | (conv => whnf)
   refine loop_ids tys_ok (l := []) trivial (by kernel_rfl) (X := Nat)
    (fun x => ⟨[(8, vx (.int .i64 x)), (7, vx (.int .i64 n0)), (0, .va (.c (.d (.lst 1 n0 fun i => [st (gT (f0 i))])))), (1, vx (.string x1))], [], 0, 19⟩)
    (fun x => n0 - x) (fun x => x <= n0 /\ ∀ j, j < x -> ¬ x1 = gT (f0 j)) [] []
    (fun x _ _ => x + 1) (fun _ => []) [] 0 0 0 ?_ ?_ ?_
   . exact ⟨Nat.zero_le _, fun j h => absurd h (Nat.not_lt_zero _)⟩
   . repeat' (first | exact trivial | exact rfl | (intro _ h; exact absurd h (Nat.not_lt_zero _)) | (intro _ _; exact rfl) | refine ⟨?_, ?_⟩ | fail)
   . rintro i ⟨k1, k2⟩
     repeat' (first | exact trivial | refine ⟨?_, ?_⟩ | intro _)
     all_goals first | (with_reducible first | apply qa | apply qb | apply qc | apply qd) | (conv => whnf)
     all_goals (try simp only [Int.toNat_natCast, decide_eq_true_eq, decide_eq_false_iff_not, seq_iff, gN_canon] at *)
     all_goals first | omega | ((with_reducible show idsOk _ _ = true); rfl) | ((with_reducible show Value.int _ _ = Value.int _ _); rw [wI_id _ (by omega) (by omega)]; rfl) | (rw [<- ixS_no (fun j hj => k2 j (by omega))]) | (rw [<- ixS_at k2 (by omega) (by assumption)]) | (exact absurd (by assumption) (not_step k2 (by assumption) _ ‹_ < i + 1›)) | rfl
 . cases h
def FNContains : List Ar -> Option Rs
 | [.c (.d (.lst 1 n0 f0)), .c (.d (.v (.string x1)))] => some ⟨(n0 * 16 <= 140737488351232 /\ ∀ i, i < n0 -> f0 i = [st (gT (f0 i))]), .va (.c (.d (bo (memS x1 (gN n0 f0))))), []⟩
 | _ => none
theorem fcNContains : FC Tryz.prog 97 FNContains := by
 intro xs pre r us h hp
 unfold FNContains at h
 split at h
 . rename_i n0 f0 x1
   cases h
   have hp0 := hp
   refine FCat.of_eq (as' := [.c (.d (.lst 1 n0 fun i => [st (gT (f0 i))])), .c (.d (.v (.string x1)))]) ?_ rfl rfl ?_
   . repeat' (first | exact trivial | exact rfl | refine ⟨?_, ?_⟩ | fail)
     all_goals first | exact hp0.2 | exact hp1.2 | exact hp2.2 | (intro i hi; exact (hp0.2 i hi).1) | (intro i hi; exact (hp1.2 i hi).1) | (intro i hi; exact (hp2.2 i hi).1) | grind
   refine fcat tys_ok (l := [(138, ⟨[], FNIndex⟩)]) ⟨fcNIndex, trivial⟩ Tryz.func97 rfl (by kernel_rfl) false ?_
   repeat' (first | exact trivial | refine ⟨?_, ?_⟩ | intro _)
   all_goals first | (with_reducible first | apply qa | apply qb | apply qc | apply qd) | (conv => whnf)
   all_goals first | (rw [gN_canon, ixS_ge]) | omega | rfl | (exact hp0.1)
 . cases h
def FNLeq : List Ar -> Option Rs
 | [.agg [.d (.v (.bool b0)), .d (.lst 1 n0 f0)], .agg [.d (.v (.bool b1)), .d (.lst 1 n1 f1)]] => some ⟨(n0 * 16 <= 140737488351232 /\ ∀ i, i < n0 -> f0 i = [st (gT (f0 i))]) /\ (n1 * 16 <= 140737488351232 /\ ∀ i, i < n1 -> f1 i = [st (gT (f1 i))]), .va (.c (.d (bo ((!b0 || b1) && subS (gN n0 f0) (gN n1 f1))))), []⟩
 | _ => none
theorem fcNLeq : FC Tryz.prog 46 FNLeq := by
 intro xs pre r us h hp
 unfold FNLeq at h
 split at h
 . rename_i b0 n0 f0 b1 n1 f1
   cases h
   obtain ⟨hp0, hp1⟩ := hp
   refine FCat.of_eq (as' := [.agg [.d (.v (.bool b0)), .d (.lst 1 n0 fun i => [st (gT (f0 i))])], .agg [.d (.v (.bool b1)), .d (.lst 1 n1 fun i => [st (gT (f1 i))])]]) ?_ rfl rfl ?_
   . repeat' (first | exact trivial | exact rfl | refine ⟨?_, ?_⟩ | fail)
     all_goals first | exact hp0.2 | exact hp1.2 | exact hp2.2 | (intro i hi; exact (hp0.2 i hi).1) | (intro i hi; exact (hp1.2 i hi).1) | (intro i hi; exact (hp2.2 i hi).1) | grind
   refine fcat tys_ok (l := [(97, ⟨[], FNContains⟩)]) ⟨fcNContains, trivial⟩ Tryz.func46 rfl (by kernel_rfl) false ?_
   repeat' (first | exact trivial | refine ⟨?_, ?_⟩ | intro _)
   all_goals first | (with_reducible first | apply qa | apply qb | apply qc | apply qd) | (conv => whnf)
   all_goals first | ((with_reducible show ASat _ _ _ _ _); skip) | (simp_all; done)
   all_goals (have hb : b0 = true -> b1 = true := (by intro e; simp_all))
   all_goals (
    refine loop_ids tys_ok (l := [(97, ⟨[], FNContains⟩)]) ⟨fcNContains, trivial⟩ (by kernel_rfl) (X := Nat)
     (fun x => ⟨[(17, vx (.int .i64 x)), (16, vx (.int .i64 n0)), (15, .va (.c (.d (.lst 1 n0 fun i => [st (gT (f0 i))])))), (3, .va (.c (.own 1 0)))], [(1, .cells [.d (bo b1), .d (.lst 1 n1 fun i => [st (gT (f1 i))])])], 2, 27⟩)
     (fun x => n0 - x) (fun x => x <= n0 /\ ∀ j, j < x -> gT (f0 j) ∈ gN n1 f1) [] []
     (fun x _ _ => x + 1) (fun _ => [0, 1]) [0, 1] 0 0 0 ?_ ?_ ?_
    . exact ⟨Nat.zero_le _, fun j h => absurd h (Nat.not_lt_zero _)⟩
    . repeat' (first | exact trivial | exact rfl | (intro _ h; exact absurd h (Nat.not_lt_zero _)) | (intro _ _; exact rfl) | refine ⟨?_, ?_⟩ | fail)
    . rintro i ⟨k1, k2⟩
      repeat' (first | exact trivial | refine ⟨?_, ?_⟩ | intro _)
      all_goals first | (with_reducible first | apply qa | apply qb | apply qc | apply qd) | (conv => whnf)
      all_goals (try simp only [Int.toNat_natCast, decide_eq_true_eq, decide_eq_false_iff_not, seq_iff, gN_canon] at *)
      all_goals first | omega | ((with_reducible show idsOk _ _ = true); rfl) | ((with_reducible show Value.int _ _ = Value.int _ _); rw [wI_id _ (by omega) (by omega)]; rfl) | (exact subS_no (i := i) (by omega) (by assumption)) | (exact subS_yes hb (fun j hj => k2 j (by omega))) | (exact in_step k2 (by assumption) _ (by assumption)) | rfl)
 . cases h
end Go.Proofs.YtehpbhpmkhlldaaGreat
namespace Go.Proofs
open Go.Shelf
def Tryz.lays213_ren : Go.Shelf.Ren := ⟨fun | 213 => 160 | 265 => 188 | n => n, fun | 9 => 9 | 3 => 3 | n => n, fun | n => n⟩
open Go.RowKit in
def Tryz.lays106_ren : Go.Shelf.Ren := ⟨fun | 106 => 127 | 213 => 160 | 265 => 188 | n => n, fun | 9 => 9 | 3 => 3 | n => n, fun | n => n⟩
theorem Tryz.lays106 : Go.Proofs.Lays.n106 Tryz.prog Tryz.lays106_ren := {
 mixed := by kernel_rfl
 f106 := Tryz.func127.trans (congrArg some (by kernel_rfl))
 f213 := Tryz.func160.trans (congrArg some (by kernel_rfl))
 f265 := Tryz.func188.trans (congrArg some (by kernel_rfl))
 t3 := Tryz.underlying3
 a3 := Tryz.isAgg3
 z3 := Tryz.sizeOf3
 v3 := Tryz.zeroValue3
 t9 := Tryz.underlying9
 a9 := Tryz.isAgg9
 z9 := Tryz.sizeOf9
 v9 := Tryz.zeroValue9 }
open Go.RowKit in
theorem Tryz.strings_Compare (a b : ByteArray) (w : World) :
 Calls Tryz.prog 127 #[.string a, .string b] w fun e w' => e = .returned (.int .i64 (Lib.compareBytes a.data.toList b.data.toList)) /\ w' = w := Any.strings_Compare Tryz.lays106 a b w
def Tryz.lays194_ren : Go.Shelf.Ren := ⟨fun | 194 => 128 | n => n, fun | 31 => 26 | 9 => 9 | 3 => 3 | 4 => 4 | 0 => 0 | n => n, fun | n => n⟩
theorem Tryz.lays194 : Go.Proofs.Lays.n194 Tryz.prog Tryz.lays194_ren := {
 mixed := by kernel_rfl
 f194 := Tryz.func128.trans (congrArg some (by kernel_rfl))
 t0 := Tryz.underlying0
 a0 := Tryz.isAgg0
 z0 := Tryz.sizeOf0
 v0 := Tryz.zeroValue0
 t3 := Tryz.underlying3
 a3 := Tryz.isAgg3
 z3 := Tryz.sizeOf3
 v3 := Tryz.zeroValue3
 t4 := Tryz.underlying4
 a4 := Tryz.isAgg4
 z4 := Tryz.sizeOf4
 v4 := Tryz.zeroValue4
 t9 := Tryz.underlying9
 a9 := Tryz.isAgg9
 z9 := Tryz.sizeOf9
 v9 := Tryz.zeroValue9
 t31 := Tryz.underlying26
 a31 := Tryz.isAgg26
 z31 := Tryz.sizeOf26
 v31 := Tryz.zeroValue26 }
open Go.RowKit Go.Lib Go.Sort in
open Go.RowKit Go.Lib Go.Sort in
theorem Tryz.slices_Compact_string (blk off cap : Nat) (zs : List (List UInt8)) (w : World) (hH : Holds encStr w blk off zs.toArray) (hsz : zs.length <= 9223372036854775807) (hcap : zs.length <= cap) :
 Calls Tryz.prog 128 #[.slice (some ⟨blk, off, none⟩) zs.length cap] w fun e w' => e = .returned (.slice (some ⟨blk, off, none⟩) (Lib.compact zs).length cap) /\ ∃ q, w' = putRow encStr (Sort.ahead w q) blk off (Lib.compact zs ++ List.replicate (zs.length - (Lib.compact zs).length) []).toArray := Any.slices_Compact_string Tryz.lays194 blk off cap zs w hH hsz hcap
open Go.RowKit Go.Lib Go.Sort in
theorem Tryz.slices_Compact_string_empty (a : Option Addr) (cap : Nat) (w : World) :
 Calls Tryz.prog 128 #[.slice a 0 cap] w fun e w' => e = .returned (.slice a 0 cap) /\ w' = w := Any.slices_Compact_string_empty Tryz.lays194 a cap w
open Go.RowKit Go.Lib Go.Sort in
open Go.RowKit Go.Lib Go.Sort in
def Tryz.laysSlF06_f82_ren : Go.Shelf.Ren := ⟨fun | 6 => 125 | 15 => 159 | 14 => 158 | 28 => 186 | 29 => 187 | 20 => 178 | 21 => 179 | 22 => 180 | 23 => 181 | 24 => 182 | 25 => 183 | 26 => 184 | 27 => 185 | 46 => 191 | 47 => 192 | 48 => 193 | 49 => 194 | 50 => 195 | 57 => 196 | n => n, fun | 22 => 26 | 24 => 9 | 25 => 136 | 3 => 3 | 39 => 158 | 0 => 0 | 53 => 176 | 55 => 41 | 4 => 4 | 46 => 170 | 45 => 169 | 50 => 39 | 5 => 5 | 9 => 9 | 66 => 182 | 70 => 186 | 76 => 188 | 77 => 52 | n => n, fun | n => n⟩
theorem Tryz.laysSlF06_f82 : Go.Proofs.SlLaysF0.n6 Tryz.prog Tryz.laysSlF06_f82_ren := {
 mixed := by kernel_rfl
 f6 := ⟨Tryz.f125.name, by decide, Tryz.func125.trans (congrArg some (by kernel_rfl))⟩
 f14 := ⟨Tryz.f158.name, by decide, Tryz.func158.trans (congrArg some (by kernel_rfl))⟩
 f15 := Tryz.func159.trans (congrArg some (by kernel_rfl))
 f20 := ⟨Tryz.f178.name, by decide, Tryz.func178.trans (congrArg some (by kernel_rfl))⟩
 f21 := ⟨Tryz.f179.name, by decide, Tryz.func179.trans (congrArg some (by kernel_rfl))⟩
 f22 := ⟨Tryz.f180.name, by decide, Tryz.func180.trans (congrArg some (by kernel_rfl))⟩
 f23 := ⟨Tryz.f181.name, by decide, Tryz.func181.trans (congrArg some (by kernel_rfl))⟩
 f24 := ⟨Tryz.f182.name, by decide, Tryz.func182.trans (congrArg some (by kernel_rfl))⟩
 f25 := ⟨Tryz.f183.name, by decide, Tryz.func183.trans (congrArg some (by kernel_rfl))⟩
 f26 := ⟨Tryz.f184.name, by decide, Tryz.func184.trans (congrArg some (by kernel_rfl))⟩
 f27 := ⟨Tryz.f185.name, by decide, Tryz.func185.trans (congrArg some (by kernel_rfl))⟩
 f28 := Tryz.func186.trans (congrArg some (by kernel_rfl))
 f29 := Tryz.func187.trans (congrArg some (by kernel_rfl))
 f46 := ⟨Tryz.f191.name, by decide, Tryz.func191.trans (congrArg some (by kernel_rfl))⟩
 f47 := Tryz.func192.trans (congrArg some (by kernel_rfl))
 f48 := Tryz.func193.trans (congrArg some (by kernel_rfl))
 f49 := ⟨Tryz.f194.name, by decide, Tryz.func194.trans (congrArg some (by kernel_rfl))⟩
 f50 := ⟨Tryz.f195.name, by decide, Tryz.func195.trans (congrArg some (by kernel_rfl))⟩
 f57 := ⟨Tryz.f196.name, by decide, Tryz.func196.trans (congrArg some (by kernel_rfl))⟩
 t0 := Tryz.underlying0
 a0 := Tryz.isAgg0
 z0 := Tryz.sizeOf0
 v0 := Tryz.zeroValue0
 t3 := Tryz.underlying3
 a3 := Tryz.isAgg3
 z3 := Tryz.sizeOf3
 v3 := Tryz.zeroValue3
 t4 := Tryz.underlying4
 a4 := Tryz.isAgg4
 z4 := Tryz.sizeOf4
 v4 := Tryz.zeroValue4
 t5 := Tryz.underlying5
 a5 := Tryz.isAgg5
 z5 := Tryz.sizeOf5
 v5 := Tryz.zeroValue5
 t9 := Tryz.underlying9
 a9 := Tryz.isAgg9
 z9 := Tryz.sizeOf9
 v9 := Tryz.zeroValue9
 t22 := Tryz.underlying26
 a22 := Tryz.isAgg26
 z22 := Tryz.sizeOf26
 v22 := Tryz.zeroValue26
 t25 := Tryz.underlying136
 a25 := Tryz.isAgg136
 z25 := Tryz.sizeOf136
 v25 := Tryz.zeroValue136
 t39 := Tryz.underlying158
 a39 := Tryz.isAgg158
 z39 := Tryz.sizeOf158
 v39 := Tryz.zeroValue158
 t45 := Tryz.underlying169
 a45 := Tryz.isAgg169
 z45 := Tryz.sizeOf169
 v45 := Tryz.zeroValue169
 t46 := Tryz.underlying170
 a46 := Tryz.isAgg170
 z46 := Tryz.sizeOf170
 v46 := Tryz.zeroValue170
 t50 := Tryz.underlying39
 a50 := Tryz.isAgg39
 z50 := Tryz.sizeOf39
 v50 := Tryz.zeroValue39
 t53 := Tryz.underlying176
 a53 := Tryz.isAgg176
 z53 := Tryz.sizeOf176
 v53 := Tryz.zeroValue176
 t55 := Tryz.underlying41
 a55 := Tryz.isAgg41
 z55 := Tryz.sizeOf41
 v55 := Tryz.zeroValue41
 t66 := Tryz.underlying182
 a66 := Tryz.isAgg182
 z66 := Tryz.sizeOf182
 v66 := Tryz.zeroValue182
 t70 := Tryz.underlying186
 a70 := Tryz.isAgg186
 z70 := Tryz.sizeOf186
 v70 := Tryz.zeroValue186
 t76 := Tryz.underlying188
 a76 := Tryz.isAgg188
 z76 := Tryz.sizeOf188
 v76 := Tryz.zeroValue188
 t77 := Tryz.underlying52
 a77 := Tryz.isAgg52
 z77 := Tryz.sizeOf52
 v77 := Tryz.zeroValue52 }
open Go.RowKit Go.Lib Go.Sort in
theorem Tryz.slices_SortFunc_none {α : Type} [Inhabited α] (p : Option Addr) (cap : Nat) (fv : Value) (w : World) :
 Calls Tryz.prog 125 #[.slice p 0 cap, fv] w fun e w' => e = .returned (.tuple #[]) /\ w' = w := AnyF.slices_SortFunc_none Tryz.laysSlF06_f82 p cap fv w
def Tryz.laysSlF6_f82_ren : Go.Shelf.Ren := ⟨fun | 6 => 125 | 15 => 159 | 14 => 158 | 28 => 186 | 29 => 187 | 20 => 178 | 21 => 179 | 22 => 180 | 23 => 181 | 24 => 182 | 25 => 183 | 26 => 184 | 27 => 185 | 46 => 191 | 47 => 192 | 48 => 193 | 49 => 194 | 50 => 195 | 57 => 196 | n => n, fun | 22 => 26 | 24 => 9 | 25 => 136 | 3 => 3 | 39 => 158 | 0 => 0 | 53 => 176 | 55 => 41 | 4 => 4 | 46 => 170 | 45 => 169 | 50 => 39 | 5 => 5 | 9 => 9 | 66 => 182 | 70 => 186 | 76 => 188 | 77 => 52 | n => n, fun | n => n⟩
theorem Tryz.laysSlF6_f82 : Go.Proofs.SlLaysF.n6 Tryz.prog Tryz.laysSlF6_f82_ren := {
 mixed := by kernel_rfl
 f6 := ⟨Tryz.f125.name, by decide, Tryz.func125.trans (congrArg some (by kernel_rfl))⟩
 f14 := ⟨Tryz.f158.name, by decide, Tryz.func158.trans (congrArg some (by kernel_rfl))⟩
 f15 := Tryz.func159.trans (congrArg some (by kernel_rfl))
 f20 := ⟨Tryz.f178.name, by decide, Tryz.func178.trans (congrArg some (by kernel_rfl))⟩
 f21 := ⟨Tryz.f179.name, by decide, Tryz.func179.trans (congrArg some (by kernel_rfl))⟩
 f22 := ⟨Tryz.f180.name, by decide, Tryz.func180.trans (congrArg some (by kernel_rfl))⟩
 f23 := ⟨Tryz.f181.name, by decide, Tryz.func181.trans (congrArg some (by kernel_rfl))⟩
 f24 := ⟨Tryz.f182.name, by decide, Tryz.func182.trans (congrArg some (by kernel_rfl))⟩
 f25 := ⟨Tryz.f183.name, by decide, Tryz.func183.trans (congrArg some (by kernel_rfl))⟩
 f26 := ⟨Tryz.f184.name, by decide, Tryz.func184.trans (congrArg some (by kernel_rfl))⟩
 f27 := ⟨Tryz.f185.name, by decide, Tryz.func185.trans (congrArg some (by kernel_rfl))⟩
 f28 := Tryz.func186.trans (congrArg some (by kernel_rfl))
 f29 := Tryz.func187.trans (congrArg some (by kernel_rfl))
 f46 := ⟨Tryz.f191.name, by decide, Tryz.func191.trans (congrArg some (by kernel_rfl))⟩
 f47 := Tryz.func192.trans (congrArg some (by kernel_rfl))
 f48 := Tryz.func193.trans (congrArg some (by kernel_rfl))
 f49 := ⟨Tryz.f194.name, by decide, Tryz.func194.trans (congrArg some (by kernel_rfl))⟩
 f50 := ⟨Tryz.f195.name, by decide, Tryz.func195.trans (congrArg some (by kernel_rfl))⟩
 f57 := ⟨Tryz.f196.name, by decide, Tryz.func196.trans (congrArg some (by kernel_rfl))⟩
 t0 := Tryz.underlying0
 a0 := Tryz.isAgg0
 z0 := Tryz.sizeOf0
 v0 := Tryz.zeroValue0
 t3 := Tryz.underlying3
 a3 := Tryz.isAgg3
 z3 := Tryz.sizeOf3
 v3 := Tryz.zeroValue3
 t4 := Tryz.underlying4
 a4 := Tryz.isAgg4
 z4 := Tryz.sizeOf4
 v4 := Tryz.zeroValue4
 t5 := Tryz.underlying5
 a5 := Tryz.isAgg5
 z5 := Tryz.sizeOf5
 v5 := Tryz.zeroValue5
 t9 := Tryz.underlying9
 a9 := Tryz.isAgg9
 z9 := Tryz.sizeOf9
 v9 := Tryz.zeroValue9
 t22 := Tryz.underlying26
 a22 := Tryz.isAgg26
 z22 := Tryz.sizeOf26
 v22 := Tryz.zeroValue26
 a24 := Tryz.isAgg9
 z24 := Tryz.sizeOf9
 t25 := Tryz.underlying136
 a25 := Tryz.isAgg136
 z25 := Tryz.sizeOf136
 v25 := Tryz.zeroValue136
 t39 := Tryz.underlying158
 a39 := Tryz.isAgg158
 z39 := Tryz.sizeOf158
 v39 := Tryz.zeroValue158
 t45 := Tryz.underlying169
 a45 := Tryz.isAgg169
 z45 := Tryz.sizeOf169
 v45 := Tryz.zeroValue169
 t46 := Tryz.underlying170
 a46 := Tryz.isAgg170
 z46 := Tryz.sizeOf170
 v46 := Tryz.zeroValue170
 t50 := Tryz.underlying39
 a50 := Tryz.isAgg39
 z50 := Tryz.sizeOf39
 v50 := Tryz.zeroValue39
 t53 := Tryz.underlying176
 a53 := Tryz.isAgg176
 z53 := Tryz.sizeOf176
 v53 := Tryz.zeroValue176
 t55 := Tryz.underlying41
 a55 := Tryz.isAgg41
 z55 := Tryz.sizeOf41
 v55 := Tryz.zeroValue41
 t66 := Tryz.underlying182
 a66 := Tryz.isAgg182
 z66 := Tryz.sizeOf182
 v66 := Tryz.zeroValue182
 t70 := Tryz.underlying186
 a70 := Tryz.isAgg186
 z70 := Tryz.sizeOf186
 v70 := Tryz.zeroValue186
 t76 := Tryz.underlying188
 a76 := Tryz.isAgg188
 z76 := Tryz.sizeOf188
 v76 := Tryz.zeroValue188
 t77 := Tryz.underlying52
 a77 := Tryz.isAgg52
 z77 := Tryz.sizeOf52
 v77 := Tryz.zeroValue52 }
open Go.RowKit Go.Lib Go.Sort in
theorem Tryz.slices_SortFunc_total {α : Type} [Inhabited α] (enc : α -> Value) (h1 : OneCell enc) (cf : α -> α -> Int) (hO : SWO (ltOf cf)) (g : Nat) (cb : Array Value) (blk off cap : Nat) (d : Array α) (w : World) (eg : ∀ args w, (callFunc g args).run Tryz.prog w = .ok (.enter g args) w) (hcmp : CmpLays1 Tryz.prog g cb enc cf blk off d.size w) (hH : Holds enc w blk off d) (hblk : blk < w.heap.size) (hsz : d.size < 4611686018427387904) (hT : ∀ x y, (ltOf cf) x y = false -> (ltOf cf) y x = false -> x = y) :
 Calls Tryz.prog 125 #[.slice (some ⟨blk, off, none⟩) d.size cap, .func (.func g) #[] cb] w fun e w' =>
  e = .returned (.tuple #[]) /\ ∃ n os, w' = sortWorld enc w blk off n (d.toList.mergeSort fun x y => !(ltOf cf) y x).toArray os := Any.slices_SortFunc_total Tryz.laysSlF6_f82 enc h1 cf hO g cb blk off cap d w eg hcmp hH hblk hsz hT
end Go.Proofs
namespace Go.Proofs.YtehpbhpmkhlldaaGreat
open Go.Sx
open Go.RowKit Go.Lib Go.Sort
section
variable {P : Program} {base : Nat} {ψ : Psi} {S : Nat → Prop} {w : World} {a : Act}
theorem Rel.put {α : Type} [Inhabited α] (enc : α -> Value) (hsc : ∀ x, Scalar (enc x)) {ts : List (Nat × Tm)} {h : List (Nat × Blk)} {n m k b mm ln : Nat} {f : Nat -> List DV} (hr : Rel P base ψ S w ⟨ts, h, n, m⟩ a) (hψ : ψ k = some (.at b mm))
 (hb : lookB h k = .row 1 ln f) (d : Array α) (hd : d.size <= ln) (q : Nat) (os : Array Obj) :
 Rel P base ψ S (Sort.grow (putRow enc (Sort.ahead w q) b 0 d) os) ⟨ts, (k, .row 1 ln (fun i => if i < d.size then [.v (enc d[i]!)] else f i)) :: h, n, m⟩ a /\
  Ext base ψ S w ψ S (Sort.grow (putRow enc (Sort.ahead w q) b 0 d) os) := by
 have hbk := hr.sim.blk k _ hψ
 simp only [hb] at hbk
 obtain ⟨arr, e, g1, g2, g3, g4, g5⟩ := hbk
 have hheap : (putRow enc (Sort.ahead w q) b 0 d).heap = w.heap.modify b (onCells (putCells enc 0 d)) := rfl
 have hnew : (putRow enc (Sort.ahead w q) b 0 d).heap[b]? = some (.cells (putCells enc 0 d arr) e (0, 0)) := by
  rw [hheap, Array.getElem?_modify, if_pos rfl, g1]; rfl
 obtain ⟨r1, r2⟩ := hr.write (w' := putRow enc (Sort.ahead w q) b 0 d) (blk := .row 1 ln (fun i => if i < d.size then [.v (enc d[i]!)] else f i)) hψ (by simp only [hb]; trivial) rfl rfl rfl (by rw [hheap]; simp)
  (fun b' hb' => by rw [hheap, Array.getElem?_modify, if_neg (fun h => hb' h.symm)]) (fun hl => by
    refine ⟨putCells enc 0 d arr, e, hnew, by simp [putCells, g2], by omega, fun i hi => ?_, fun i j hi hj => ?_⟩
    . dsimp only
      split
      . rfl
      . exact g4 i hi
    . have hj0 : j = 0 := by omega
      subst hj0
      have hlt : i < arr.size := by omega
      have hget : (putCells enc 0 d arr).getD (i * 1 + 0) undef = if i < d.size then enc d[i]! else arr.getD (i * 1 + 0) undef := by
       rw [Array.getD_eq_getD_getElem?, Array.getD_eq_getD_getElem?]
       simp only [putCells, Nat.mul_one, Nat.add_zero, Array.getElem?_mapIdx, Array.getElem?_eq_getElem hlt, Option.map_some, Option.getD_some, Nat.zero_le, true_and, Nat.zero_add, Nat.sub_zero]
      rw [hget]
      dsimp only
      split
      . exact .v (hsc _)
      . exact (g5 i 0 hi hj).later hl)
 obtain ⟨r3, r4⟩ := r1.ext0 (S' := S) (w' := Sort.grow (putRow enc (Sort.ahead w q) b 0 d) os) ⟨rfl, rfl, rfl, by simp [Sort.grow], fun b' hb' => by
  show ((putRow enc (Sort.ahead w q) b 0 d).heap ++ os)[b']? = _
  rw [Array.getElem?_append_left hb'], fun _ h => h, fun _ h => .inl h, fun b' hb' => by
  have h1 := r1.sim.sdom b' hb'
  have h2 : (Sort.grow (putRow enc (Sort.ahead w q) b 0 d) os).heap.size = (putRow enc (Sort.ahead w q) b 0 d).heap.size + os.size := by simp [Sort.grow]
  omega⟩
 exact ⟨r3, r2.trans r4⟩
theorem row_holds {ts : List (Nat × Tm)} {h : List (Nat × Blk)} {n m k b mm ln len : Nat} {f : Nat -> List DV} (hr : Rel P base ψ S w ⟨ts, h, n, m⟩ a) (hψ : ψ k = some (.at b mm))
 (hb : lookB h k = .row 1 ln f) (hle : len <= ln) (hf : ∀ i, i < len -> f i = [st (gT (f i))]) : Holds encStr w b 0 ((gN len f).map fun s => s.data.toList).toArray := by
 have hbk := hr.sim.blk k _ hψ
 simp only [hb] at hbk
 obtain ⟨arr, e, g1, g2, g3, g4, g5⟩ := hbk
 intro j hj
 have hj2 : j < len := by simpa [gN] using hj
 have h5 := g5 j 0 (by omega) (by omega)
 rw [hf j hj2] at h5
 have hlt : j < arr.size := by omega
 have hv : arr[j]? = some (.string (gT (f j))) := by
  rw [Array.getElem?_eq_getElem hlt]
  have e1 : arr.getD (j * 1 + 0) undef = arr[j] := by rw [Array.getD_eq_getD_getElem?, Nat.mul_one, Nat.add_zero, Array.getElem?_eq_getElem hlt]; rfl
  rw [e1] at h5
  generalize arr[j] = v at h5
  have h5 : RepD S w (st (gT (f j))) v := h5
  cases h5
  rfl
 refine ⟨?_, ?_⟩
 . rw [Nat.zero_add, cell_at g1, hv]
   congr 1
   rw [getElem!_pos _ j hj]
   simp [gN, encStr]
 . simp [World.frozen?, g1]
theorem row_lt {ts : List (Nat × Tm)} {h : List (Nat × Blk)} {n m k b mm : Nat} (hr : Rel P base ψ S w ⟨ts, h, n, m⟩ a) (hψ : ψ k = some (.at b mm)) : b < w.heap.size := hr.sim.pdom k b mm hψ
theorem Rel.empty {ts : List (Nat × Tm)} {h : List (Nat × Blk)} {n m k ln : Nat} {f : Nat -> List DV} (hr : Rel P base ψ S w ⟨ts, h, n, m⟩ a) (hb : lookB h k = .row 1 ln f) (g : Nat -> List DV) :
 Rel P base ψ S w ⟨ts, (k, .row 1 ln fun i => if i < 0 then g i else f i) :: h, n, m⟩ a := by
 have e : (fun i => if i < 0 then g i else f i) = f := by funext i; simp
 rw [e]
 have hlook : ∀ j, lookB ((k, .row 1 ln f) :: h) j = lookB h j := by
  intro j
  rw [lookB_cons]
  split
  . rename_i e; subst e; exact hb.symm
  . rfl
 refine ⟨hr.bas, ⟨hr.sim.dom, fun j l hj => by rw [hlook]; exact hr.sim.blk j l hj, fun j j' b m1 m2 h1 h2 l1 l2 => hr.sim.inj j j' b m1 m2 h1 h2 (by simpa only [hlook] using l1) (by simpa only [hlook] using l2),
  fun j b m1 h1 l1 => hr.sim.dis j b m1 h1 (by simpa only [hlook] using l1), hr.sim.pdom, hr.sim.sdom⟩, hr.lim, hr.defers, hr.tmps⟩
end
def bS (l : List UInt8) : ByteArray := ⟨l.toArray⟩
def cfL (x y : List UInt8) : Int := Lib.compareBytes x y
theorem cfL_lt : ∀ (x y : List UInt8), (cfL x y < 0) ↔ x < y
 | [], [] => by simp [cfL, Lib.compareBytes]
 | [], _ :: _ => by simp [cfL, Lib.compareBytes]
 | _ :: _, [] => by simp [cfL, Lib.compareBytes]
 | a :: x, b :: y => by
   have ih := cfL_lt x y
   unfold cfL at ih ⊢
   unfold Lib.compareBytes
   rw [List.cons_lt_cons_iff]
   by_cases h1 : a < b
   . simp [h1]
   . by_cases h2 : b < a
     . have hne : a ≠ b := fun e => by subst e; exact h1 h2
       simp [h1, h2, hne]
     . have he : a = b := by
        have h1 := UInt8.not_lt.1 h1
        have h2 := UInt8.not_lt.1 h2
        exact UInt8.le_antisymm h2 h1
       subst he
       simp [h1, ih]
theorem ltOf_cfL (x y : List UInt8) : ltOf cfL x y = decide (x < y) := by
 unfold ltOf
 rw [Bool.eq_iff_iff]
 simp only [decide_eq_true_eq]
 exact cfL_lt x y
theorem swoL : SWO (ltOf cfL) where
 irrefl x := by rw [ltOf_cfL]; simpa using List.lt_irrefl x
 trans x y z h1 h2 := by
  rw [ltOf_cfL] at *
  simp only [decide_eq_true_eq] at *
  exact List.lt_trans h1 h2
 ntrans x y z h1 h2 := by
  rw [ltOf_cfL] at *
  simp only [decide_eq_false_iff_not, List.not_lt] at *
  exact List.le_trans h2 h1
theorem totL (x y : List UInt8) (h1 : ltOf cfL x y = false) (h2 : ltOf cfL y x = false) : x = y := by
 rw [ltOf_cfL] at *
 simp only [decide_eq_false_iff_not, List.not_lt] at *
 exact List.le_antisymm h2 h1
theorem closureOf (x y : List UInt8) (W : World) : Calls Tryz.prog 126 #[encStr x, encStr y] W fun e w' => e = .returned (.int .i64 (cfL x y)) /\ ∃ q, w' = W.drewN q := by
 have hcon := Tryz.strings_Compare (bS x) (bS y) W
 unfold cfL
 have e1 : (bS x).data.toList = x := rfl
 have e2 : (bS y).data.toList = y := rfl
 rw [e1, e2] at hcon
 unfold bS at hcon
 generalize Lib.compareBytes x y = r at hcon ⊢
 go_enter Tryz.func126, Tryz.ntmps126
 go_wp2_with (go_at_call 127; refine hcon.mono ?_; rintro e w' ⟨rfl, rfl⟩)
 go_ret
 exact ⟨rfl, 0, rfl⟩
def sortL (l : List ByteArray) : List (List UInt8) := (l.map fun s => s.data.toList).mergeSort fun x y => !(ltOf cfL) y x
theorem sortL_length (l : List ByteArray) : (sortL l).length = l.length := by simp [sortL]
theorem fn_plain {P : Program} {ψ : Psi} {S : Nat -> Prop} {w : World} {f : Nat} {v : Value} (h : RepVa P ψ S w (.c (.fn f [])) v) : v = .func (.func f) #[] #[] := by
 obtain ⟨vs, rfl, h⟩ := h
 have : vs = #[] := by
  apply Array.ext'
  generalize vs.toList = l at h
  cases l with
  | nil => rfl
  | cons _ _ => exact h.elim
 rw [this]
theorem acall_sort {base : Nat} {k len ln : Nat} {f : Nat -> List DV} {ts : List (Nat × Tm)} {h : List (Nat × Blk)} {n m : Nat} {K : Tm -> St -> Prop} (hb : lookB h k = .row 1 ln f) (hle : len <= ln) (hf : ∀ i, i < len -> f i = [st (gT (f i))]) (hn : len < 4611686018427387904)
 (hk : K (.tup []) ⟨ts, (k, .row 1 ln fun i => if i < len then [.v (encStr (sortL (gN len f)).toArray[i]!)] else f i) :: h, n, m⟩) : ACall Tryz.prog base 125 [.c (.osl k 1 0 len), .c (.fn 126 [])] ⟨ts, h, n, m⟩ K := by
 refine ⟨fun ψ S w a vals hrel hvals => ?_⟩
 match vals, hvals with
 | [v1, v2], ⟨hv1, hv2, _⟩ =>
   have hv2 := fn_plain hv2
   subst hv2
   refine .inl ⟨callable_of Tryz.func125 rfl rfl, ?_⟩
   have none0 : ∀ p c, len = 0 -> v1 = .slice p 0 c -> Calls Tryz.prog 125 [v1, .func (.func 126) #[] #[]].toArray w fun e w' => ∃ r st' v ψ' S', e = .returned v /\ K r st' /\ Rel Tryz.prog base ψ' S' w' st' a /\ RepT Tryz.prog ψ' S' w' r v /\ Ext base ψ S w ψ' S' w' := by
    intro p c h0 hv
    subst h0; subst hv
    refine (Tryz.slices_SortFunc_none (α := List UInt8) p c _ w).mono ?_
    rintro e w' ⟨rfl, rfl⟩
    exact ⟨_, _, _, ψ, S, rfl, hk, Rel.empty hrel hb _, ⟨#[], rfl, trivial⟩, Ext.refl _ _ _ _⟩
   rcases hv1 with ⟨_, h0, a0, hv⟩ | ⟨b, mm, c, off, h1, hv, h2, h3⟩
   . exact none0 a0 0 h0 hv
   . by_cases h0 : len = 0
     . exact none0 (some ⟨b, off, none⟩) c h0 (by rw [hv, h0])
     . obtain ⟨hoff, _⟩ := h3 (by omega)
       have hoff : off = 0 := by omega
       subst hoff
       have hsz : ((gN len f).map fun s => s.data.toList).toArray.size = len := by simp [gN]
       have hH := row_holds hrel h1 hb hle hf
       have hS := Tryz.slices_SortFunc_total encStr (fun _ => rfl) cfL swoL 126 #[] b 0 c ((gN len f).map fun s => s.data.toList).toArray w (enters_of Tryz.func126 (by kernel_rfl) rfl)
        (CmpReads.lays (fun _ _ _ _ x y => closureOf x y _)) hH (row_lt hrel h1) (by rw [hsz]; exact hn) totL
       rw [hsz] at hS
       subst hv
       refine hS.mono ?_
       rintro e w' ⟨rfl, q, os, rfl⟩
       have hd : (((gN len f).map fun s => s.data.toList).toArray.toList.mergeSort fun x y => !(ltOf cfL) y x).toArray.size = len := by simp [gN]
       obtain ⟨r1, r2⟩ := Rel.put encStr (fun _ => trivial) hrel h1 hb (((gN len f).map fun s => s.data.toList).toArray.toList.mergeSort fun x y => !(ltOf cfL) y x).toArray (by rw [hd]; exact hle) q os
       rw [hd] at r1
       exact ⟨_, _, _, ψ, S, rfl, hk, r1, ⟨#[], rfl, trivial⟩, r2⟩
theorem compact_le (zs : List (List UInt8)) : (Lib.compact zs).length <= zs.length := by
 unfold Lib.compact Lib.compactUpTo
 rw [List.length_map]
 exact Nat.le_trans (List.length_filter_le _ _) (by simp)
def compL (l : List ByteArray) : List (List UInt8) := Lib.compact (l.map fun s => s.data.toList)
def compRow (l : List ByteArray) : List (List UInt8) := compL l ++ List.replicate (l.length - (compL l).length) []
theorem acall_compact {base : Nat} {k len ln : Nat} {f : Nat -> List DV} {ts : List (Nat × Tm)} {h : List (Nat × Blk)} {n m : Nat} {K : Tm -> St -> Prop} (hb : lookB h k = .row 1 ln f) (hle : len <= ln) (hf : ∀ i, i < len -> f i = [st (gT (f i))]) (hn : len < 4611686018427387904)
 (hk : K (.va (.c (.osl k 1 0 (compL (gN len f)).length))) ⟨ts, (k, .row 1 ln fun i => if i < len then [.v (encStr (compRow (gN len f)).toArray[i]!)] else f i) :: h, n, m⟩) : ACall Tryz.prog base 128 [.c (.osl k 1 0 len)] ⟨ts, h, n, m⟩ K := by
 refine ⟨fun ψ S w a vals hrel hvals => ?_⟩
 match vals, hvals with
 | [v1], ⟨hv1, _⟩ =>
   refine .inl ⟨callable_of Tryz.func128 rfl rfl, ?_⟩
   have hcl : (compL (gN len f)).length <= len := by
    have := compact_le ((gN len f).map fun s => s.data.toList)
    simpa [compL, gN] using this
   have none0 : ∀ p c, len = 0 -> v1 = .slice p 0 c -> RepVa Tryz.prog ψ S w (.c (.osl k 1 0 0)) v1 -> Calls Tryz.prog 128 [v1].toArray w fun e w' => ∃ r st' v ψ' S', e = .returned v /\ K r st' /\ Rel Tryz.prog base ψ' S' w' st' a /\ RepT Tryz.prog ψ' S' w' r v /\ Ext base ψ S w ψ' S' w' := by
    intro p c h0 hv hrep
    subst h0; subst hv
    refine (Tryz.slices_Compact_string_empty p c w).mono ?_
    rintro e w' ⟨rfl, rfl⟩
    have e0 : (compL (gN 0 f)).length = 0 := by omega
    rw [e0] at hk
    exact ⟨_, _, _, ψ, S, rfl, hk, Rel.empty hrel hb _, hrep, Ext.refl _ _ _ _⟩
   rcases hv1 with ⟨hvirt, h0, a0, hv⟩ | ⟨b, mm, c, off, h1, hv, h2, h3⟩
   . exact none0 a0 0 h0 hv (.inl ⟨hvirt, rfl, a0, hv⟩)
   . by_cases h0 : len = 0
     . exact none0 (some ⟨b, off, none⟩) c h0 (by rw [hv, h0]) (.inr ⟨b, mm, c, off, h1, by rw [hv, h0], Nat.zero_le _, h3⟩)
     . obtain ⟨hoff, hcm⟩ := h3 (by omega)
       have hoff : off = 0 := by omega
       subst hoff
       have hsz : ((gN len f).map fun s => s.data.toList).length = len := by simp [gN]
       have hH := row_holds hrel h1 hb hle hf
       have hS := Tryz.slices_Compact_string b 0 c ((gN len f).map fun s => s.data.toList) w hH (by rw [hsz]; omega) (by rw [hsz]; exact h2)
       rw [hsz] at hS
       subst hv
       refine hS.mono ?_
       rintro e w' ⟨rfl, q, rfl⟩
       have hd : (compRow (gN len f)).toArray.size = len := by
        unfold compRow
        simp [gN] at hcl ⊢
        omega
       have hg : (gN len f).length = len := by simp [gN]
       obtain ⟨r1, r2⟩ := Rel.put encStr (fun _ => trivial) hrel h1 hb (compRow (gN len f)).toArray (by rw [hd]; exact hle) q #[]
       rw [hd] at r1
       have hw : Sort.grow (putRow encStr (Sort.ahead w q) b 0 (compRow (gN len f)).toArray) #[] = putRow encStr (Sort.ahead w q) b 0 (Lib.compact ((gN len f).map fun (s : ByteArray) => s.data.toList) ++ List.replicate (len - (Lib.compact ((gN len f).map fun (s : ByteArray) => s.data.toList)).length) []).toArray := by
        rw [grow_empty]
        unfold compRow compL
        rw [hg]
       rw [hw] at r1 r2
       exact ⟨_, _, _, ψ, S, rfl, hk, r1, .inr ⟨b, mm, c, 0, h1, rfl, Nat.le_trans hcl h2, fun hc => ⟨rfl, hcm⟩⟩, r2⟩
end Go.Proofs.YtehpbhpmkhlldaaGreat
namespace Go.Proofs.YtehpbhpmkhlldaaGreat
open Go.Sx
open Go.RowKit Go.Lib Go.Sort
def ofS (l : List ByteArray) : List ByteArray := (compL ((sortL l).map bS)).map bS
theorem gT_st (x : ByteArray) : gT [st x] = x := rfl
theorem ofS_len (l : List ByteArray) : (ofS l).length <= l.length := by
 have := compact_le (((sortL l).map bS).map fun s => s.data.toList)
 simpa [ofS, compL, sortL_length] using this
theorem ofS_len2 (l : List ByteArray) : (compL ((sortL l).map bS)).length = (ofS l).length := by simp [ofS]
theorem gN_put {len : Nat} {L : List (List UInt8)} (hL : L.length = len) (f : Nat -> List DV) : gN len (fun i => if i < len then [.v (encStr L.toArray[i]!)] else f i) = L.map bS := by
 subst hL
 unfold gN
 apply List.ext_getElem
 . simp
 . intro i h1 h2
   have h3 : i < L.length := by simpa using h2
   simp [h3, gT, encStr, bS]
theorem ofS_at {l : List ByteArray} {i : Nat} {M : List ByteArray} (hM : M = (sortL l).map bS) (hi : i < (compL M).length) : [DV.v (encStr (compRow M).toArray[i]!)] = [st (atS (ofS l) i)] := by
 subst hM
 have h2 : i < (compRow ((sortL l).map bS)).length := by unfold compRow; simp; omega
 unfold ofS atS
 simp only [List.getD_eq_getElem?_getD, List.getElem?_map, List.getElem?_eq_getElem hi, Option.map_some, Option.getD_some]
 simp only [List.getElem!_toArray]
 rw [getElem!_pos _ i h2]
 simp only [compRow, List.getElem_append_left hi]
 rfl
def FNClone : List Ar -> Option Rs
 | [.c (.d (.lst 1 n0 f0))] => some ⟨(n0 * 16 <= 140737488351232 /\ ∀ i, i < n0 -> f0 i = [st (gT (f0 i))]), .va (.c (.ow 1 n0 fun i => [st (gT (f0 i))])), []⟩
 | _ => none
theorem fcNClone : FC Tryz.prog 115 FNClone := by
 intro xs pre r us h hp
 unfold FNClone at h
 split at h
 . rename_i n0 f0
   cases h
   have hp0 := hp
   refine FCat.of_eq (as' := [.c (.d (.lst 1 n0 fun i => [st (gT (f0 i))]))]) ?_ rfl rfl ?_
   . repeat' (first | exact trivial | exact rfl | refine ⟨?_, ?_⟩ | fail)
     all_goals first | exact hp0.2 | exact hp1.2 | exact hp2.2 | (intro i hi; exact (hp0.2 i hi).1) | (intro i hi; exact (hp1.2 i hi).1) | (intro i hi; exact (hp2.2 i hi).1) | grind
   refine fcat tys_ok (l := []) trivial Tryz.func115 rfl (by kernel_rfl) false ?_
   repeat' (first | exact trivial | refine ⟨?_, ?_⟩ | intro _)
   all_goals first | (with_reducible first | apply qa | apply qb | apply qc | apply qd) | (conv => whnf)
   all_goals first | omega | (simp_all; done) | (simp [appRow]; done) | exact ‹_ = true -> _› ‹_›
 . cases h
def FNOf : List Ar -> Option Rs
 | [.c (.d (.v (.bool b0))), .c (.d (.lst 1 n1 f1))] => some ⟨(n1 * 16 <= 140737488351232 /\ ∀ i, i < n1 -> f1 i = [st (gT (f1 i))]), .va (Ns.ar (⟨b0, ofS (gN n1 f1)⟩)), []⟩
 | _ => none
theorem fcNOf : FC Tryz.prog 91 FNOf := by
 intro xs pre r us h hp
 unfold FNOf at h
 split at h
 . rename_i b0 n1 f1
   cases h
   have hp0 := hp
   refine FCat.of_eq (as' := [.c (.d (.v (.bool b0))), .c (.d (.lst 1 n1 fun i => [st (gT (f1 i))]))]) ?_ rfl rfl ?_
   . repeat' (first | exact trivial | exact rfl | refine ⟨?_, ?_⟩ | fail)
     all_goals first | exact hp0.2 | exact hp1.2 | exact hp2.2 | (intro i hi; exact (hp0.2 i hi).1) | (intro i hi; exact (hp1.2 i hi).1) | (intro i hi; exact (hp2.2 i hi).1) | grind
   refine fcat tys_ok (l := [(115, ⟨[], FNClone⟩)]) ⟨fcNClone, trivial⟩ Tryz.func91 rfl (by kernel_rfl) true ?_
   repeat' (first | exact trivial | refine ⟨?_, ?_⟩ | intro _)
   all_goals first | (with_reducible first | apply qa | apply qb | apply qc | apply qd) | (conv => whnf)
   all_goals first | exact hp0.1 | rfl | refine acall_sort rfl (Nat.le_refl _) (fun _ _ => rfl) (by omega) ?_
   refine acall_compact rfl (Nat.le_refl _) (fun i hi => by simp [hi, gT, encStr]) (by omega) ?_
   repeat' (first | exact trivial | refine ⟨?_, ?_⟩ | intro _)
   all_goals first | (with_reducible first | apply qa | apply qb | apply qc | apply qd) | (conv => whnf)
   all_goals (have hE := gN_put (len := n1) (L := sortL (gN n1 f1)) (by rw [sortL_length, gN_length]) (fun i => [st (gT (f1 i))]))
   all_goals (try simp only [gN_canon, gT_st, hE, ofS_len2])
   all_goals (have hL := ofS_len (gN n1 f1); rw [gN_length] at hL)
   all_goals first | omega | skip
   rename_i i hi
   simp only [gN_canon, gT_st, hE, ofS_len2] at hi
   have e0 : 0 + Int.toNat 0 + i = i := by simp
   rw [e0, if_pos (by omega)]
   exact ofS_at rfl (by rw [ofS_len2]; omega)
 . cases h
def FNClean : List Ar -> Option Rs
 | [.agg [.d (.v (.bool b0)), .d (.lst 1 n0 f0)]] => some ⟨(n0 * 16 <= 140737488351232 /\ ∀ i, i < n0 -> f0 i = [st (gT (f0 i))]), .va (Ns.ar (⟨b0, ofS (gN n0 f0)⟩)), []⟩
 | _ => none
theorem fcNClean : FC Tryz.prog 82 FNClean := by
 intro xs pre r us h hp
 unfold FNClean at h
 split at h
 . rename_i b0 n0 f0
   cases h
   have hp0 := hp
   refine FCat.of_eq (as' := [.agg [.d (.v (.bool b0)), .d (.lst 1 n0 fun i => [st (gT (f0 i))])]]) ?_ rfl rfl ?_
   . repeat' (first | exact trivial | exact rfl | refine ⟨?_, ?_⟩ | fail)
     all_goals first | exact hp0.2 | exact hp1.2 | exact hp2.2 | (intro i hi; exact (hp0.2 i hi).1) | (intro i hi; exact (hp1.2 i hi).1) | (intro i hi; exact (hp2.2 i hi).1) | grind
   refine fcat tys_ok (l := [(91, ⟨[], FNOf⟩)]) ⟨fcNOf, trivial⟩ Tryz.func82 rfl (by kernel_rfl) true ?_
   repeat' (first | exact trivial | refine ⟨?_, ?_⟩ | intro _)
   all_goals first | (with_reducible first | apply qa | apply qb | apply qc | apply qd) | (conv => whnf)
   all_goals first | exact hp0.1 | rfl
 . cases h
end Go.Proofs.YtehpbhpmkhlldaaGreat
namespace Go.Proofs.YtehpbhpmkhlldaaGreat
open Go.Sx
structure Sp where
 some : Bool
 lo : Int
 hi : Int
abbrev Sp.ar (s : Sp) : Ar := .agg [.d (bo s.some), .d (it s.lo), .d (it s.hi)]
namespace Sp
def none (s : Sp) : Bool := !s.some || decide (s.lo > s.hi)
def has (s : Sp) (n : Int) : Bool := s.some && decide (s.lo <= n) && decide (n <= s.hi)
def clean (s : Sp) : Sp := if s.none then ⟨false, 0, 0⟩ else s
def leq (a b : Sp) : Bool := a.none || (b.has a.lo && b.has a.hi)
def of (lo hi : Int) : Sp := if lo > hi then ⟨false, 0, 0⟩ else ⟨true, lo, hi⟩
def eq (a b : Sp) : Bool := a.some == b.some && (a.lo == b.lo && a.hi == b.hi)
def join (a b : Sp) : Sp := if a.none then b.clean else if b.none then a else of (min a.lo b.lo) (max a.hi b.hi)
def meet (a b : Sp) : Sp := if a.none || b.none then ⟨false, 0, 0⟩ else of (max a.lo b.lo) (min a.hi b.hi)
def narrow (a b : Sp) : Sp := if !leq b a then a.clean else if b.none then ⟨false, 0, 0⟩ else ⟨a.some, if a.lo = -9223372036854775808 then b.lo else a.lo, if a.hi = 9223372036854775807 then b.hi else a.hi⟩
def inR (s : Sp) : Prop := (-9223372036854775808 <= s.lo /\ s.lo < 9223372036854775808) /\ -9223372036854775808 <= s.hi /\ s.hi < 9223372036854775808
theorem clean_inR {s : Sp} (h : s.inR) : s.clean.inR := by
 unfold clean; split
 . unfold inR; decide
 . exact h
end Sp
def FSNone : List Ar -> Option Rs
 | [.agg [.d (.v (.bool s0)), .d (.v (.int .i64 l0)), .d (.v (.int .i64 h0))]] => some ⟨(Sp.inR ⟨s0, l0, h0⟩), .va (.c (.d (bo (Sp.none (⟨s0, l0, h0⟩ : Sp))))), []⟩
 | _ => none
theorem fcSNone : FC Tryz.prog 83 FSNone := by
 intro xs pre r us h hp
 unfold FSNone at h
 split at h
 . rename_i s0 l0 h0
   cases h
   have hp0 := hp
   refine fcat tys_ok (l := []) trivial Tryz.func83 rfl (by kernel_rfl) false ?_
   repeat' (first | exact trivial | refine ⟨?_, ?_⟩ | intro _)
   all_goals first | (with_reducible first | apply qa | apply qb | apply qc | apply qd) | (conv => whnf)
   all_goals grind [Sp.none, Sp.inR]
 . cases h
def FRSNone0 : List Ar -> Option Rs
 | [.agg [.d (.v (.bool s0)), .d (.v (.int .i64 l0)), .d (.v (.int .i64 h0))]] => some ⟨(Sp.inR ⟨s0, l0, h0⟩), .va (.c (.d (bo (Sp.none (⟨s0, l0, h0⟩ : Sp))))), []⟩
 | _ => none
theorem fcRSNone0 : FC Tryz.prog 71 FRSNone0 := by
 intro xs pre r us h hp
 unfold FRSNone0 at h
 split at h
 . rename_i s0 l0 h0
   cases h
   have hp0 := hp
   refine fcat tys_ok (l := []) trivial Tryz.func71 rfl (by kernel_rfl) false ?_
   repeat' (first | exact trivial | refine ⟨?_, ?_⟩ | intro _)
   all_goals first | (with_reducible first | apply qa | apply qb | apply qc | apply qd) | (conv => whnf)
   all_goals grind [Sp.none, Sp.inR]
 . cases h
def FSHas : List Ar -> Option Rs
 | [.agg [.d (.v (.bool s0)), .d (.v (.int .i64 l0)), .d (.v (.int .i64 h0))], .c (.d (.v (.int .i64 i1)))] => some ⟨(Sp.inR ⟨s0, l0, h0⟩) /\ (-9223372036854775808 <= i1 /\ i1 < 9223372036854775808), .va (.c (.d (bo (Sp.has (⟨s0, l0, h0⟩ : Sp) i1)))), []⟩
 | _ => none
theorem fcSHas : FC Tryz.prog 47 FSHas := by
 intro xs pre r us h hp
 unfold FSHas at h
 split at h
 . rename_i s0 l0 h0 i1
   cases h
   obtain ⟨hp0, hp1⟩ := hp
   refine fcat tys_ok (l := []) trivial Tryz.func47 rfl (by kernel_rfl) false ?_
   repeat' (first | exact trivial | refine ⟨?_, ?_⟩ | intro _)
   all_goals first | (with_reducible first | apply qa | apply qb | apply qc | apply qd) | (conv => whnf)
   all_goals grind [Sp.has, Sp.inR]
 . cases h
def FSOf : List Ar -> Option Rs
 | [.c (.d (.v (.int .i64 i0))), .c (.d (.v (.int .i64 i1)))] => some ⟨(-9223372036854775808 <= i0 /\ i0 < 9223372036854775808) /\ (-9223372036854775808 <= i1 /\ i1 < 9223372036854775808), .va (Sp.ar (Sp.of i0 i1)), []⟩
 | _ => none
theorem fcSOf : FC Tryz.prog 85 FSOf := by
 intro xs pre r us h hp
 unfold FSOf at h
 split at h
 . rename_i i0 i1
   cases h
   obtain ⟨hp0, hp1⟩ := hp
   refine fcat tys_ok (l := []) trivial Tryz.func85 rfl (by kernel_rfl) false ?_
   repeat' (first | exact trivial | refine ⟨?_, ?_⟩ | intro _)
   all_goals first | (with_reducible first | apply qa | apply qb | apply qc | apply qd) | (conv => whnf)
   all_goals grind [Sp.of]
 . cases h
def FSMake : List Ar -> Option Rs
 | [.c (.d (.v (.int .i64 i0))), .c (.d (.v (.int .i64 i1)))] => some ⟨(-9223372036854775808 <= i0 /\ i0 < 9223372036854775808) /\ (-9223372036854775808 <= i1 /\ i1 < 9223372036854775808), .va (Sp.ar (Sp.of i0 i1)), []⟩
 | _ => none
theorem fcSMake : FC Tryz.prog 26 FSMake := by
 intro xs pre r us h hp
 unfold FSMake at h
 split at h
 . rename_i i0 i1
   cases h
   obtain ⟨hp0, hp1⟩ := hp
   refine fcat tys_ok (l := [(71, ⟨[], FRSNone0⟩)]) ⟨fcRSNone0, trivial⟩ Tryz.func26 rfl (by kernel_rfl) false ?_
   repeat' (first | exact trivial | refine ⟨?_, ?_⟩ | intro _)
   all_goals first | (with_reducible first | apply qa | apply qb | apply qc | apply qd) | (conv => whnf)
   all_goals grind [Sp.of, Sp.none, Sp.inR]
 . cases h
def FSOne : List Ar -> Option Rs
 | [.c (.d (.v (.int .i64 i0)))] => some ⟨(-9223372036854775808 <= i0 /\ i0 < 9223372036854775808), .va (Sp.ar (Sp.of i0 i0)), []⟩
 | _ => none
theorem fcSOne : FC Tryz.prog 63 FSOne := by
 intro xs pre r us h hp
 unfold FSOne at h
 split at h
 . rename_i i0
   cases h
   have hp0 := hp
   refine fcat tys_ok (l := [(85, ⟨[], FSOf⟩)]) ⟨fcSOf, trivial⟩ Tryz.func63 rfl (by kernel_rfl) false ?_
   repeat' (first | exact trivial | refine ⟨?_, ?_⟩ | intro _)
   all_goals first | (with_reducible first | apply qa | apply qb | apply qc | apply qd) | (conv => whnf)
   all_goals first | rfl | omega
 . cases h
def FSAll : List Ar -> Option Rs
 | [] => some ⟨True, .va (Sp.ar (Sp.of (-9223372036854775808) 9223372036854775807)), []⟩
 | _ => none
theorem fcSAll : FC Tryz.prog 190 FSAll := by
 intro xs pre r us h hp
 unfold FSAll at h
 split at h
 . cases h
   refine fcat tys_ok (l := [(85, ⟨[], FSOf⟩)]) ⟨fcSOf, trivial⟩ Tryz.func190 rfl (by kernel_rfl) false ?_
   repeat' (first | exact trivial | refine ⟨?_, ?_⟩ | intro _)
   all_goals first | (with_reducible first | apply qa | apply qb | apply qc | apply qd) | (conv => whnf)
   all_goals first | rfl | omega
 . cases h
def FSClean : List Ar -> Option Rs
 | [.agg [.d (.v (.bool s0)), .d (.v (.int .i64 l0)), .d (.v (.int .i64 h0))]] => some ⟨(Sp.inR ⟨s0, l0, h0⟩), .va (Sp.ar (Sp.clean (⟨s0, l0, h0⟩ : Sp))), []⟩
 | _ => none
theorem fcSClean : FC Tryz.prog 84 FSClean := by
 intro xs pre r us h hp
 unfold FSClean at h
 split at h
 . rename_i s0 l0 h0
   cases h
   have hp0 := hp
   refine fcat tys_ok (l := [(83, ⟨[], FSNone⟩)]) ⟨fcSNone, trivial⟩ Tryz.func84 rfl (by kernel_rfl) false ?_
   repeat' (first | exact trivial | refine ⟨?_, ?_⟩ | intro _)
   all_goals first | (with_reducible first | apply qa | apply qb | apply qc | apply qd) | (conv => whnf)
   all_goals grind [Sp.clean, Sp.inR]
 . cases h
structure Ig where
 s : Sp
 c : Cg
abbrev Ig.ar (i : Ig) : Ar := .agg [.d (bo i.s.some), .d (it i.s.lo), .d (it i.s.hi), .d (bo i.c.some), .d (it i.c.m), .d (it i.c.r)]
structure Vl where
 i : Ig
 t : Ns
abbrev Vl.ar (v : Vl) : Ar := .agg [.d (bo v.i.s.some), .d (it v.i.s.lo), .d (it v.i.s.hi), .d (bo v.i.c.some), .d (it v.i.c.m), .d (it v.i.c.r), .d (bo v.t.null), .d (lst v.t.names)]
def Cg.red (c : Cg) : Prop := 0 <= c.m /\ (0 < c.m -> 0 <= c.r /\ c.r < c.m)
theorem Cg.clean_red (c : Cg) : c.clean.red := by
 unfold Cg.clean Cg.of Cg.none Cg.red
 split
 . split
   . have := md_bound c.r 1 (by omega)
     dsimp only; omega
   . refine ⟨by dsimp only; omega, fun h => ?_⟩
     exact md_bound c.r c.m h
 . dsimp only; omega
theorem sub_md (a b m : Int) (h : 0 < m) : md (a - md b m) m = (a - b) % m := by
 unfold md
 rw [if_neg (by omega), if_neg (by omega), Int.sub_emod, Int.emod_emod_of_dvd _ (Int.dvd_refl m), <- Int.sub_emod]
theorem md_sub (a b m : Int) (h : 0 < m) : md (md a m - b) m = (a - b) % m := by
 unfold md
 rw [if_neg (by omega), if_neg (by omega), Int.sub_emod, Int.emod_emod_of_dvd _ (Int.dvd_refl m), <- Int.sub_emod]
def upW (n : Int) (c : Cg) : Int := n + (c.r - n) % c.m
def dnW (n : Int) (c : Cg) : Int := n - (n - c.r) % c.m
def upV (n : Int) (c : Cg) : Int := if c.m = 0 then c.r else wIntV (upW n c)
def upB (n : Int) (c : Cg) : Bool := if c.m = 0 then decide (c.r ≥ n) else wIntB (upW n c)
def dnV (n : Int) (c : Cg) : Int := if c.m = 0 then c.r else wIntV (dnW n c)
def dnB (n : Int) (c : Cg) : Bool := if c.m = 0 then decide (c.r <= n) else wIntB (dnW n c)
namespace Ig
def zero : Ig := ⟨⟨false, 0, 0⟩, ⟨false, 0, 0⟩⟩
def none (i : Ig) : Bool := i.s.none || !i.c.some
def clean (i : Ig) : Ig := if i.none then zero else ⟨i.s.clean, i.c.clean⟩
def leq (i j : Ig) : Bool := i.s.leq j.s && i.c.leq j.c
def red (i : Ig) : Ig := if i.none then zero else if (!upB i.s.lo i.c || !dnB i.s.hi i.c) || decide (upV i.s.lo i.c > dnV i.s.hi i.c) then zero else
 if upV i.s.lo i.c = dnV i.s.hi i.c then ⟨Sp.of (upV i.s.lo i.c) (upV i.s.lo i.c), Cg.of 0 (upV i.s.lo i.c)⟩ else ⟨Sp.of (upV i.s.lo i.c) (dnV i.s.hi i.c), i.c⟩
theorem clean_inR {i : Ig} (h1 : i.s.inR) (h2 : i.c.inR) : i.clean.s.inR /\ i.clean.c.inR := by
 unfold clean
 split
 . unfold zero Sp.inR Cg.inR; decide
 . exact ⟨Sp.clean_inR h1, Cg.clean_inR h2⟩
end Ig
theorem wInt_r (v : Int) : -9223372036854775808 <= wIntV v /\ wIntV v < 9223372036854775808 := by unfold wIntV; split <;> omega
def FVNone : List Ar -> Option Rs
 | [.agg [.d (.v (.bool s0)), .d (.v (.int .i64 l0)), .d (.v (.int .i64 h0)), .d (.v (.bool b0)), .d (.v (.int .i64 m0)), .d (.v (.int .i64 r0))]] => some ⟨(Sp.inR ⟨s0, l0, h0⟩ /\ Cg.inR ⟨b0, m0, r0⟩), .va (.c (.d (bo (Ig.none (⟨⟨s0, l0, h0⟩, ⟨b0, m0, r0⟩⟩ : Ig))))), []⟩
 | _ => none
theorem fcVNone : FC Tryz.prog 76 FVNone := by
 intro xs pre r us h hp
 unfold FVNone at h
 split at h
 . rename_i s0 l0 h0 b0 m0 r0
   cases h
   have hp0 := hp
   refine fcat tys_ok (l := [(83, ⟨[], FSNone⟩), (87, ⟨[], FCNone⟩)]) ⟨fcSNone, fcCNone, trivial⟩ Tryz.func76 rfl (by kernel_rfl) false ?_
   repeat' (first | exact trivial | refine ⟨?_, ?_⟩ | intro _)
   all_goals first | (with_reducible first | apply qa | apply qb | apply qc | apply qd) | (conv => whnf)
   all_goals first | grind [Ig.none, Sp.inR, Cg.inR]
 . cases h
def FVClean : List Ar -> Option Rs
 | [.agg [.d (.v (.bool s0)), .d (.v (.int .i64 l0)), .d (.v (.int .i64 h0)), .d (.v (.bool b0)), .d (.v (.int .i64 m0)), .d (.v (.int .i64 r0))]] => some ⟨(Sp.inR ⟨s0, l0, h0⟩ /\ Cg.inR ⟨b0, m0, r0⟩), .va (Ig.ar (Ig.clean (⟨⟨s0, l0, h0⟩, ⟨b0, m0, r0⟩⟩ : Ig))), []⟩
 | _ => none
theorem fcVClean : FC Tryz.prog 58 FVClean := by
 intro xs pre r us h hp
 unfold FVClean at h
 split at h
 . rename_i s0 l0 h0 b0 m0 r0
   cases h
   have hp0 := hp
   refine fcat tys_ok (l := [(76, ⟨[], FVNone⟩), (84, ⟨[], FSClean⟩), (86, ⟨[], FCClean⟩)]) ⟨fcVNone, fcSClean, fcCClean, trivial⟩ Tryz.func58 rfl (by kernel_rfl) false ?_
   repeat' (first | exact trivial | refine ⟨?_, ?_⟩ | intro _)
   all_goals first | (with_reducible first | apply qa | apply qb | apply qc | apply qd) | (conv => whnf)
   all_goals first | grind [Ig.clean, Ig.zero, Sp.inR, Cg.inR]
 . cases h
theorem up_key {n m r : Int} {b : Bool} (hm : ¬ m = 0) (hr : Cg.red ⟨b, m, r⟩) (hi : Cg.inR ⟨b, m, r⟩) : IntKind.wrap .i64 (r - md n m) = r - md n m /\ md (IntKind.wrap .i64 (r - md n m)) m = (r - n) % m /\ 0 <= (r - n) % m /\ (r - n) % m < 9223372036854775808 := by
 unfold Cg.red at hr; unfold Cg.inR at hi
 dsimp only at hr hi
 have h0 : 0 < m := by omega
 have h1 := md_bound n m h0
 have h2 := hr.2 h0
 rw [wI_id _ (by omega) (by omega), sub_md _ _ _ h0]
 have h3 := Int.emod_nonneg (r - n) (show m ≠ 0 by omega)
 have h4 := Int.emod_lt_of_pos (r - n) h0
 omega
theorem dn_key {n m r : Int} {b : Bool} (hm : ¬ m = 0) (hr : Cg.red ⟨b, m, r⟩) (hi : Cg.inR ⟨b, m, r⟩) : IntKind.wrap .i64 (md n m - r) = md n m - r /\ md (IntKind.wrap .i64 (md n m - r)) m = (n - r) % m /\ 0 <= (n - r) % m /\ (n - r) % m < 9223372036854775808 := by
 unfold Cg.red at hr; unfold Cg.inR at hi
 dsimp only at hr hi
 have h0 : 0 < m := by omega
 have h1 := md_bound n m h0
 have h2 := hr.2 h0
 rw [wI_id _ (by omega) (by omega), md_sub _ _ _ h0]
 have h3 := Int.emod_nonneg (n - r) (show m ≠ 0 by omega)
 have h4 := Int.emod_lt_of_pos (n - r) h0
 omega
theorem up_val {n k : Int} (hn : -9223372036854775808 <= n /\ n < 9223372036854775808) (h0 : 0 <= k) (h1 : k < 9223372036854775808) : Wd.val (wd (Wd.val (wd n) + Wd.val (wd k))) = n + k := by
 rw [wd_val (by rw [wd_val (v := n) (by omega) (by omega), wd_val (v := k) (by omega) (by omega)]; omega) (by rw [wd_val (v := n) (by omega) (by omega), wd_val (v := k) (by omega) (by omega)]; omega), wd_val (v := n) (by omega) (by omega), wd_val (v := k) (by omega) (by omega)]
theorem dn_val {n k : Int} (hn : -9223372036854775808 <= n /\ n < 9223372036854775808) (h0 : 0 <= k) (h1 : k < 9223372036854775808) : Wd.val (wd (Wd.val (wd n) - Wd.val (wd k))) = n - k := by
 rw [wd_val (by rw [wd_val (v := n) (by omega) (by omega), wd_val (v := k) (by omega) (by omega)]; omega) (by rw [wd_val (v := n) (by omega) (by omega), wd_val (v := k) (by omega) (by omega)]; omega), wd_val (v := n) (by omega) (by omega), wd_val (v := k) (by omega) (by omega)]
theorem up_V {n m r : Int} {b : Bool} (hm : ¬ m = 0) (hr : Cg.red ⟨b, m, r⟩) (hi : Cg.inR ⟨b, m, r⟩) (hn : -9223372036854775808 <= n /\ n < 9223372036854775808) : Wd.val (wd (Wd.val (wd n) + Wd.val (wd (md (IntKind.wrap .i64 (r - md n m)) m)))) = upW n ⟨b, m, r⟩ := by
 have hk := up_key (n := n) hm hr hi
 rw [hk.2.1, up_val hn hk.2.2.1 hk.2.2.2]; rfl
theorem dn_V {n m r : Int} {b : Bool} (hm : ¬ m = 0) (hr : Cg.red ⟨b, m, r⟩) (hi : Cg.inR ⟨b, m, r⟩) (hn : -9223372036854775808 <= n /\ n < 9223372036854775808) : Wd.val (wd (Wd.val (wd n) - Wd.val (wd (md (IntKind.wrap .i64 (md n m - r)) m)))) = dnW n ⟨b, m, r⟩ := by
 have hk := dn_key (n := n) hm hr hi
 rw [hk.2.1, dn_val hn hk.2.2.1 hk.2.2.2]; rfl
theorem upV_0 {n m r : Int} {b : Bool} (hm : m = 0) : upV n ⟨b, m, r⟩ = r /\ upB n ⟨b, m, r⟩ = decide (r ≥ n) /\ dnV n ⟨b, m, r⟩ = r /\ dnB n ⟨b, m, r⟩ = decide (r <= n) := by unfold upV upB dnV dnB; simp [hm]
theorem upV_1 {n m r : Int} {b : Bool} (hm : ¬ m = 0) : upV n ⟨b, m, r⟩ = wIntV (upW n ⟨b, m, r⟩) /\ upB n ⟨b, m, r⟩ = wIntB (upW n ⟨b, m, r⟩) /\ dnV n ⟨b, m, r⟩ = wIntV (dnW n ⟨b, m, r⟩) /\ dnB n ⟨b, m, r⟩ = wIntB (dnW n ⟨b, m, r⟩) := by unfold upV upB dnV dnB; simp [hm]
def FVUp : List Ar -> Option Rs
 | [.c (.d (.v (.int .i64 i0))), .agg [.d (.v (.bool b1)), .d (.v (.int .i64 m1)), .d (.v (.int .i64 r1))]] => some ⟨(-9223372036854775808 <= i0 /\ i0 < 9223372036854775808) /\ (Cg.inR ⟨b1, m1, r1⟩) /\ (Cg.red (⟨b1, m1, r1⟩ : Cg)), .tup [.c (.d (it (upV i0 (⟨b1, m1, r1⟩ : Cg)))), .c (.d (bo (upB i0 (⟨b1, m1, r1⟩ : Cg))))], []⟩
 | _ => none
theorem fcVUp : FC Tryz.prog 130 FVUp := by
 intro xs pre r us h hp
 unfold FVUp at h
 split at h
 . rename_i i0 b1 m1 r1
   cases h
   obtain ⟨hp0, hp1, hp2⟩ := hp
   refine fcat tys_ok (l := [(100, ⟨[], FCMod⟩), (122, ⟨[], FWOf⟩), (137, ⟨[], FWAdd⟩), (94, ⟨[], FWInt⟩)]) ⟨fcCMod, fcWOf, fcWAdd, fcWInt, trivial⟩ Tryz.func130 rfl (by kernel_rfl) false ?_
   repeat' (first | exact trivial | refine ⟨?_, ?_⟩ | intro _)
   all_goals first | (with_reducible first | apply qa | apply qb | apply qc | apply qd) | (conv => whnf)
   all_goals (try simp only [beq_iff_eq, beq_eq_false_iff_ne, ne_eq] at *)
   all_goals first | omega | exact (wd_ok _).1.1 | exact (wd_ok _).1.2 | exact (wd_ok _).2.1 | exact (wd_ok _).2.2 | (unfold Cg.inR at hp1; dsimp only at hp1; omega) | skip
   all_goals first | ((with_reducible show Value.int _ _ = Value.int _ _); rw [(upV_0 (by assumption)).1]) | ((with_reducible show Value.bool _ = Value.bool _); rw [(upV_0 (by assumption)).2.1]) | (have hk := up_key (n := i0) ‹¬ m1 = 0› hp2 hp1; have hv := up_V ‹¬ m1 = 0› hp2 hp1 hp0; have hw := upV_1 (n := i0) (r := r1) (b := b1) ‹¬ m1 = 0›; first | (rw [hw.1]; exact congrArg (fun x => Value.int .i64 (wIntV x)) hv) | (rw [hw.2.1]; exact congrArg (fun x => Value.bool (wIntB x)) hv) | (unfold md at *; unfold Cg.inR at hp1; dsimp only at hp1; rw [hk.2.1]; omega) | (rw [hk.2.1]; omega) | (have hb := md_bound i0 m1; unfold Cg.inR Cg.red at *; dsimp only at *; rw [hk.1]; omega))
 . cases h
def FVDown : List Ar -> Option Rs
 | [.c (.d (.v (.int .i64 i0))), .agg [.d (.v (.bool b1)), .d (.v (.int .i64 m1)), .d (.v (.int .i64 r1))]] => some ⟨(-9223372036854775808 <= i0 /\ i0 < 9223372036854775808) /\ (Cg.inR ⟨b1, m1, r1⟩) /\ (Cg.red (⟨b1, m1, r1⟩ : Cg)), .tup [.c (.d (it (dnV i0 (⟨b1, m1, r1⟩ : Cg)))), .c (.d (bo (dnB i0 (⟨b1, m1, r1⟩ : Cg))))], []⟩
 | _ => none
theorem fcVDown : FC Tryz.prog 131 FVDown := by
 intro xs pre r us h hp
 unfold FVDown at h
 split at h
 . rename_i i0 b1 m1 r1
   cases h
   obtain ⟨hp0, hp1, hp2⟩ := hp
   refine fcat tys_ok (l := [(100, ⟨[], FCMod⟩), (122, ⟨[], FWOf⟩), (121, ⟨[], FWSub⟩), (94, ⟨[], FWInt⟩)]) ⟨fcCMod, fcWOf, fcWSub, fcWInt, trivial⟩ Tryz.func131 rfl (by kernel_rfl) false ?_
   repeat' (first | exact trivial | refine ⟨?_, ?_⟩ | intro _)
   all_goals first | (with_reducible first | apply qa | apply qb | apply qc | apply qd) | (conv => whnf)
   all_goals (try simp only [beq_iff_eq, beq_eq_false_iff_ne, ne_eq] at *)
   all_goals first | omega | exact (wd_ok _).1.1 | exact (wd_ok _).1.2 | exact (wd_ok _).2.1 | exact (wd_ok _).2.2 | (unfold Cg.inR at hp1; dsimp only at hp1; omega) | skip
   all_goals first | ((with_reducible show Value.int _ _ = Value.int _ _); rw [(upV_0 (by assumption)).2.2.1]) | ((with_reducible show Value.bool _ = Value.bool _); rw [(upV_0 (by assumption)).2.2.2]) | (have hk := dn_key (n := i0) ‹¬ m1 = 0› hp2 hp1; have hv := dn_V ‹¬ m1 = 0› hp2 hp1 hp0; have hw := upV_1 (n := i0) (r := r1) (b := b1) ‹¬ m1 = 0›; first | (rw [hw.2.2.1]; exact congrArg (fun x => Value.int .i64 (wIntV x)) hv) | (rw [hw.2.2.2]; exact congrArg (fun x => Value.bool (wIntB x)) hv) | (unfold md at *; unfold Cg.inR at hp1; dsimp only at hp1; rw [hk.2.1]; omega) | (rw [hk.2.1]; omega) | (have hb := md_bound i0 m1; unfold Cg.inR Cg.red at *; dsimp only at *; rw [hk.1]; omega))
 . cases h
theorem upV_r {n : Int} {c : Cg} (h : c.inR) : -9223372036854775808 <= upV n c /\ upV n c < 9223372036854775808 := by
 unfold upV; split
 . exact h.2
 . exact wInt_r _
theorem dnV_r {n : Int} {c : Cg} (h : c.inR) : -9223372036854775808 <= dnV n c /\ dnV n c < 9223372036854775808 := by
 unfold dnV; split
 . exact h.2
 . exact wInt_r _
def FVRed : List Ar -> Option Rs
 | [.agg [.d (.v (.bool s0)), .d (.v (.int .i64 l0)), .d (.v (.int .i64 h0)), .d (.v (.bool b0)), .d (.v (.int .i64 m0)), .d (.v (.int .i64 r0))]] => some ⟨(Sp.inR ⟨s0, l0, h0⟩ /\ Cg.inR ⟨b0, m0, r0⟩) /\ (Cg.red ⟨b0, m0, r0⟩), .va (Ig.ar (Ig.red (⟨⟨s0, l0, h0⟩, ⟨b0, m0, r0⟩⟩ : Ig))), []⟩
 | _ => none
theorem fcVRed : FC Tryz.prog 93 FVRed := by
 intro xs pre r us h hp
 unfold FVRed at h
 split at h
 . rename_i s0 l0 h0 b0 m0 r0
   cases h
   obtain ⟨hp0, hp1⟩ := hp
   refine fcat tys_ok (l := [(76, ⟨[], FVNone⟩), (130, ⟨[], FVUp⟩), (131, ⟨[], FVDown⟩), (63, ⟨[], FSOne⟩), (64, ⟨[], FCOne⟩), (85, ⟨[], FSOf⟩)]) ⟨fcVNone, fcVUp, fcVDown, fcSOne, fcCOne, fcSOf, trivial⟩ Tryz.func93 rfl (by kernel_rfl) false ?_
   repeat' (first | exact trivial | refine ⟨?_, ?_⟩ | intro _)
   all_goals first | (with_reducible first | apply qa | apply qb | apply qc | apply qd) | (conv => whnf)
   all_goals first | exact hp0.1.1.1 | exact hp0.1.1.2 | exact hp0.1.2.1 | exact hp0.1.2.2 | exact hp0.2.1.1 | exact hp0.2.1.2 | exact hp0.2.2.1 | exact hp0.2.2.2 | exact hp1.1 | exact (hp1.2 (by assumption)).1 | exact (hp1.2 (by assumption)).2 | exact hp1 | exact hp0.2 | exact hp0.1 | exact (upV_r hp0.2).1 | exact (upV_r hp0.2).2 | exact (dnV_r hp0.2).1 | exact (dnV_r hp0.2).2 | grind [Ig.red, Ig.zero]
 . cases h
namespace Vl
def of (v : Vl) : Vl := ⟨v.i.clean, ⟨v.t.null, ofS v.t.names⟩⟩
def reduce (v : Vl) : Vl := ⟨v.of.i.red, v.of.t⟩
def hasInt (v : Vl) (n : Int) : Bool := v.i.s.has n && v.i.c.has n
def leq (a b : Vl) : Bool := a.of.i.leq b.of.i && ((!a.t.null || b.t.null) && subS (ofS a.t.names) (ofS b.t.names))
def rclean (v : Vl) : Vl := ⟨v.i.clean, ⟨v.t.null, cleanS v.t.names⟩⟩
def rreduce (v : Vl) : Vl := ⟨v.rclean.i.red, v.rclean.t⟩
def exact (a b : Vl) : Bool := (Sp.eq a.i.s b.i.s && Cg.eq a.i.c b.i.c) && (a.t.null == b.t.null && decide (a.t.names = b.t.names))
end Vl
theorem ofS_room {n : Nat} {f : Nat -> List DV} (h : n * 16 <= 140737488351232) : (ofS (gN n f)).length * 16 <= 140737488351232 := by
 have := ofS_len (gN n f)
 rw [gN_length] at this
 omega
theorem red_inR {i : Ig} (h1 : i.s.inR) (h2 : i.c.inR) : i.red.s.inR /\ i.red.c.inR := by
 have e1 := upV_r (n := i.s.lo) h2
 have e2 := dnV_r (n := i.s.hi) h2
 unfold Ig.red
 split
 . unfold Ig.zero Sp.inR Cg.inR; decide
 . split
   . unfold Ig.zero Sp.inR Cg.inR; decide
   . split
     . refine ⟨?_, Cg.of_inR _ _ (by omega) (by omega) e1.1 e1.2⟩
       unfold Sp.of Sp.inR; split
       . dsimp only; omega
       . exact ⟨e1, e1⟩
     . refine ⟨?_, h2⟩
       unfold Sp.of Sp.inR; split
       . dsimp only; omega
       . exact ⟨e1, e2⟩
theorem clean_red {i : Ig} : i.clean.c.red := by
 unfold Ig.clean; split
 . unfold Ig.zero Cg.red; decide
 . exact Cg.clean_red _
def FVOf : List Ar -> Option Rs
 | [.agg [.d (.v (.bool s0)), .d (.v (.int .i64 l0)), .d (.v (.int .i64 h0)), .d (.v (.bool b0)), .d (.v (.int .i64 m0)), .d (.v (.int .i64 r0)), .d (.v (.bool z0)), .d (.lst 1 n0 f0)]] => some ⟨((n0 * 16 <= 140737488351232 /\ ∀ i, i < n0 -> f0 i = [st (gT (f0 i))]) /\ Sp.inR ⟨s0, l0, h0⟩ /\ Cg.inR ⟨b0, m0, r0⟩), .va (Vl.ar (Vl.of (⟨⟨⟨s0, l0, h0⟩, ⟨b0, m0, r0⟩⟩, ⟨z0, gN n0 f0⟩⟩ : Vl))), []⟩
 | _ => none
theorem fcVOf : FC Tryz.prog 33 FVOf := by
 intro xs pre r us h hp
 unfold FVOf at h
 split at h
 . rename_i s0 l0 h0 b0 m0 r0 z0 n0 f0
   cases h
   have hp0 := hp
   refine FCat.of_eq (as' := [.agg [.d (.v (.bool s0)), .d (.v (.int .i64 l0)), .d (.v (.int .i64 h0)), .d (.v (.bool b0)), .d (.v (.int .i64 m0)), .d (.v (.int .i64 r0)), .d (.v (.bool z0)), .d (.lst 1 n0 fun i => [st (gT (f0 i))])]]) ?_ rfl rfl ?_
   . repeat' (first | exact trivial | exact rfl | refine ⟨?_, ?_⟩ | fail)
     all_goals first | exact hp0.2 | exact hp1.2 | exact hp2.2 | (intro i hi; exact (hp0.2 i hi).1) | (intro i hi; exact (hp1.2 i hi).1) | (intro i hi; exact (hp2.2 i hi).1) | grind
   refine fcat tys_ok (l := [(58, ⟨[], FVClean⟩), (82, ⟨[], FNClean⟩)]) ⟨fcVClean, fcNClean, trivial⟩ Tryz.func33 rfl (by kernel_rfl) true ?_
   repeat' (first | exact trivial | refine ⟨?_, ?_⟩ | intro _)
   all_goals first | (with_reducible first | apply qa | apply qb | apply qc | apply qd) | (conv => whnf)
   all_goals first | exact hp0.2 | exact hp0.1.1 | exact (hp0.1.2 _ ‹_›) | exact hp0.2.1 | exact hp0.2.2 | exact hp0.2.1.1.1 | exact hp0.2.1.1.2 | exact hp0.2.1.2.1 | exact hp0.2.1.2.2 | exact hp0.2.2.1.1 | exact hp0.2.2.1.2 | exact hp0.2.2.2.1 | exact hp0.2.2.2.2 | rfl
 . cases h
def FVValue : List Ar -> Option Rs
 | [.agg [.d (.v (.bool s0)), .d (.v (.int .i64 l0)), .d (.v (.int .i64 h0)), .d (.v (.bool b0)), .d (.v (.int .i64 m0)), .d (.v (.int .i64 r0)), .d (.v (.bool z0)), .d (.lst 1 n0 f0)]] => some ⟨((n0 * 16 <= 140737488351232 /\ ∀ i, i < n0 -> f0 i = [st (gT (f0 i))]) /\ Sp.inR ⟨s0, l0, h0⟩ /\ Cg.inR ⟨b0, m0, r0⟩), .va (.agg [.d (.v (.bool s0)), .d (.v (.int .i64 l0)), .d (.v (.int .i64 h0)), .d (.v (.bool b0)), .d (.v (.int .i64 m0)), .d (.v (.int .i64 r0)), .d (.v (.bool z0)), .d (.lst 1 n0 fun i => [st (gT (f0 i))])]), []⟩
 | _ => none
theorem fcVValue : FC Tryz.prog 37 FVValue := by
 intro xs pre r us h hp
 unfold FVValue at h
 split at h
 . rename_i s0 l0 h0 b0 m0 r0 z0 n0 f0
   cases h
   have hp0 := hp
   refine FCat.of_eq (as' := [.agg [.d (.v (.bool s0)), .d (.v (.int .i64 l0)), .d (.v (.int .i64 h0)), .d (.v (.bool b0)), .d (.v (.int .i64 m0)), .d (.v (.int .i64 r0)), .d (.v (.bool z0)), .d (.lst 1 n0 fun i => [st (gT (f0 i))])]]) ?_ rfl rfl ?_
   . repeat' (first | exact trivial | exact rfl | refine ⟨?_, ?_⟩ | fail)
     all_goals first | exact hp0.2 | exact hp1.2 | exact hp2.2 | (intro i hi; exact (hp0.2 i hi).1) | (intro i hi; exact (hp1.2 i hi).1) | (intro i hi; exact (hp2.2 i hi).1) | grind
   refine fcat tys_ok (l := []) trivial Tryz.func37 rfl (by kernel_rfl) false ?_
   repeat' (first | exact trivial | refine ⟨?_, ?_⟩ | intro _)
   all_goals first | (with_reducible first | apply qa | apply qb | apply qc | apply qd) | (conv => whnf)
   all_goals first | exact hp0.2 | exact hp0.1.1 | exact (hp0.1.2 _ ‹_›) | exact hp0.2.1 | exact hp0.2.2 | exact hp0.2.1.1.1 | exact hp0.2.1.1.2 | exact hp0.2.1.2.1 | exact hp0.2.1.2.2 | exact hp0.2.2.1.1 | exact hp0.2.2.1.2 | exact hp0.2.2.2.1 | exact hp0.2.2.2.2 | rfl
 . cases h
def FVReduce : List Ar -> Option Rs
 | [.agg [.d (.v (.bool s0)), .d (.v (.int .i64 l0)), .d (.v (.int .i64 h0)), .d (.v (.bool b0)), .d (.v (.int .i64 m0)), .d (.v (.int .i64 r0)), .d (.v (.bool z0)), .d (.lst 1 n0 f0)]] => some ⟨((n0 * 16 <= 140737488351232 /\ ∀ i, i < n0 -> f0 i = [st (gT (f0 i))]) /\ Sp.inR ⟨s0, l0, h0⟩ /\ Cg.inR ⟨b0, m0, r0⟩), .va (Vl.ar (Vl.reduce (⟨⟨⟨s0, l0, h0⟩, ⟨b0, m0, r0⟩⟩, ⟨z0, gN n0 f0⟩⟩ : Vl))), []⟩
 | _ => none
theorem fcVReduce : FC Tryz.prog 38 FVReduce := by
 intro xs pre r us h hp
 unfold FVReduce at h
 split at h
 . rename_i s0 l0 h0 b0 m0 r0 z0 n0 f0
   cases h
   have hp0 := hp
   refine FCat.of_eq (as' := [.agg [.d (.v (.bool s0)), .d (.v (.int .i64 l0)), .d (.v (.int .i64 h0)), .d (.v (.bool b0)), .d (.v (.int .i64 m0)), .d (.v (.int .i64 r0)), .d (.v (.bool z0)), .d (.lst 1 n0 fun i => [st (gT (f0 i))])]]) ?_ rfl rfl ?_
   . repeat' (first | exact trivial | exact rfl | refine ⟨?_, ?_⟩ | fail)
     all_goals first | exact hp0.2 | exact hp1.2 | exact hp2.2 | (intro i hi; exact (hp0.2 i hi).1) | (intro i hi; exact (hp1.2 i hi).1) | (intro i hi; exact (hp2.2 i hi).1) | grind
   refine fcat tys_ok (l := [(33, ⟨[], FVOf⟩), (93, ⟨[], FVRed⟩), (37, ⟨[], FVValue⟩)]) ⟨fcVOf, fcVRed, fcVValue, trivial⟩ Tryz.func38 rfl (by kernel_rfl) true ?_
   have hc := Ig.clean_inR (i := ⟨⟨s0, l0, h0⟩, ⟨b0, m0, r0⟩⟩) hp0.2.1 hp0.2.2
   have hr := red_inR hc.1 hc.2
   have hd := clean_red (i := ⟨⟨s0, l0, h0⟩, ⟨b0, m0, r0⟩⟩)
   have hm := ofS_room (f := f0) hp0.1.1
   repeat' (first | exact trivial | refine ⟨?_, ?_⟩ | intro _)
   all_goals first | (with_reducible first | apply qa | apply qb | apply qc | apply qd) | (conv => whnf)
   all_goals first | exact hp0.2 | exact hp0.1.1 | exact (hp0.1.2 _ ‹_›) | exact hp0.2.1 | exact hp0.2.2 | exact hp0.2.1.1.1 | exact hp0.2.1.1.2 | exact hp0.2.1.2.1 | exact hp0.2.1.2.2 | exact hp0.2.2.1.1 | exact hp0.2.2.1.2 | exact hp0.2.2.2.1 | exact hp0.2.2.2.2 | rfl | exact hc.1.1.1 | exact hc.1.1.2 | exact hc.1.2.1 | exact hc.1.2.2 | exact hc.2.1.1 | exact hc.2.1.2 | exact hc.2.2.1 | exact hc.2.2.2 | exact hc.1 | exact hc.2 | exact hr.1.1.1 | exact hr.1.1.2 | exact hr.1.2.1 | exact hr.1.2.2 | exact hr.2.1.1 | exact hr.2.1.2 | exact hr.2.2.1 | exact hr.2.2.2 | exact hr.1 | exact hr.2 | exact hd.1 | exact (hd.2 (by assumption)).1 | exact (hd.2 (by assumption)).2 | exact hd | exact hm | rfl
 . cases h
def FVNum : List Ar -> Option Rs
 | [.c (.d (.v (.int .i64 i0)))] => some ⟨(-9223372036854775808 <= i0 /\ i0 < 9223372036854775808), .va (Vl.ar (⟨⟨Sp.of i0 i0, Cg.of 0 i0⟩, ⟨false, []⟩⟩)), []⟩
 | _ => none
theorem fcVNum : FC Tryz.prog 22 FVNum := by
 intro xs pre r us h hp
 unfold FVNum at h
 split at h
 . rename_i i0
   cases h
   have hp0 := hp
   refine fcat tys_ok (l := [(63, ⟨[], FSOne⟩), (64, ⟨[], FCOne⟩)]) ⟨fcSOne, fcCOne, trivial⟩ Tryz.func22 rfl (by kernel_rfl) false ?_
   repeat' (first | exact trivial | refine ⟨?_, ?_⟩ | intro _)
   all_goals first | (with_reducible first | apply qa | apply qb | apply qc | apply qd) | (conv => whnf)
   all_goals first | omega | rfl
 . cases h
theorem rc_join {s : Sp} : s.join ⟨false, 0, 0⟩ = s.clean := by
 unfold Sp.join Sp.clean Sp.none
 cases s.some <;> by_cases h : s.lo > s.hi <;> simp [h]
theorem sp_clean_some {s : Sp} : s.clean.some = !s.none := by
 unfold Sp.clean Sp.none
 cases h1 : s.some <;> by_cases h : s.lo > s.hi <;> simp [h, h1]
theorem cg_clean_some {c : Cg} : c.clean.some = c.some := by
 unfold Cg.clean Cg.of Cg.none
 cases h : c.some <;> simp
 split <;> rfl
theorem sp_eq4 {s0 s1 : Bool} {l0 l1 h0 h1 : Int} : (s0 == s1 && (l0 == l1 && (h0 == h1 && true))) = Sp.eq ⟨s0, l0, h0⟩ ⟨s1, l1, h1⟩ := by simp [Sp.eq]
theorem cg_eq4 {s0 s1 : Bool} {l0 l1 h0 h1 : Int} : (s0 == s1 && (l0 == l1 && (h0 == h1 && true))) = Cg.eq ⟨s0, l0, h0⟩ ⟨s1, l1, h1⟩ := by simp [Cg.eq]
def FRVExact : List Ar -> Option Rs
 | [.agg [.d (.v (.bool s0)), .d (.v (.int .i64 l0)), .d (.v (.int .i64 h0)), .d (.v (.bool b0)), .d (.v (.int .i64 m0)), .d (.v (.int .i64 r0)), .d (.v (.bool z0)), .d (.lst 1 n0 f0)], .agg [.d (.v (.bool s1)), .d (.v (.int .i64 l1)), .d (.v (.int .i64 h1)), .d (.v (.bool b1)), .d (.v (.int .i64 m1)), .d (.v (.int .i64 r1)), .d (.v (.bool z1)), .d (.lst 1 n1 f1)]] => some ⟨((n0 * 16 <= 140737488351232 /\ ∀ i, i < n0 -> f0 i = [st (gT (f0 i))]) /\ Sp.inR ⟨s0, l0, h0⟩ /\ Cg.inR ⟨b0, m0, r0⟩) /\ ((n1 * 16 <= 140737488351232 /\ ∀ i, i < n1 -> f1 i = [st (gT (f1 i))]) /\ Sp.inR ⟨s1, l1, h1⟩ /\ Cg.inR ⟨b1, m1, r1⟩), .va (.c (.d (bo (Vl.exact (⟨⟨⟨s0, l0, h0⟩, ⟨b0, m0, r0⟩⟩, ⟨z0, gN n0 f0⟩⟩ : Vl) (⟨⟨⟨s1, l1, h1⟩, ⟨b1, m1, r1⟩⟩, ⟨z1, gN n1 f1⟩⟩ : Vl))))), []⟩
 | _ => none
theorem fcRVExact : FC Tryz.prog 24 FRVExact := by
 intro xs pre r us h hp
 unfold FRVExact at h
 split at h
 . rename_i s0 l0 h0 b0 m0 r0 z0 n0 f0 s1 l1 h1 b1 m1 r1 z1 n1 f1
   cases h
   obtain ⟨hp0, hp1⟩ := hp
   refine FCat.of_eq (as' := [.agg [.d (.v (.bool s0)), .d (.v (.int .i64 l0)), .d (.v (.int .i64 h0)), .d (.v (.bool b0)), .d (.v (.int .i64 m0)), .d (.v (.int .i64 r0)), .d (.v (.bool z0)), .d (.lst 1 n0 fun i => [st (gT (f0 i))])], .agg [.d (.v (.bool s1)), .d (.v (.int .i64 l1)), .d (.v (.int .i64 h1)), .d (.v (.bool b1)), .d (.v (.int .i64 m1)), .d (.v (.int .i64 r1)), .d (.v (.bool z1)), .d (.lst 1 n1 fun i => [st (gT (f1 i))])]]) ?_ rfl rfl ?_
   . repeat' (first | exact trivial | exact rfl | refine ⟨?_, ?_⟩ | fail)
     all_goals first | exact hp0.2 | exact hp1.2 | exact hp2.2 | (intro i hi; exact (hp0.2 i hi).1) | (intro i hi; exact (hp1.2 i hi).1) | (intro i hi; exact (hp2.2 i hi).1) | grind
   refine fcat tys_ok (l := [(70, ⟨[], FRExact⟩)]) ⟨fcRExact, trivial⟩ Tryz.func24 rfl (by kernel_rfl) false ?_
   repeat' (first | exact trivial | refine ⟨?_, ?_⟩ | intro _)
   all_goals first | (with_reducible first | apply qa | apply qb | apply qc | apply qd) | (conv => whnf)
   all_goals first | exact hp0.1.1 | exact hp1.1.1 | rfl | skip
   all_goals (simp only [sp_eq4 (s0 := s0)] at *; try simp only [cg_eq4 (s0 := b0)] at *)
   all_goals (unfold Vl.exact; dsimp only)
   all_goals first | (simp only [*, gN_canon, Bool.true_and, Bool.false_and, Bool.and_false]; done) | (rw [‹Sp.eq _ _ = true›, ‹Cg.eq _ _ = true›, Bool.true_and, Bool.true_and]; rfl)
 . cases h
def nilD (sz : Nat) : DV -> DV
 | .v (.slice none 0 0) => .lst sz 0 (fun _ => [])
 | x => x
def nilI (sz : Nat) : Ic -> Ic
 | .d x => .d (nilD sz x)
 | x => x
def nilA (sz : Nat) : Ar -> Ar
 | .c x => .c (nilI sz x)
 | .agg xs => .agg (xs.map (nilI sz))
 | x => x
def FN (sz : Nat) (F : List Ar -> Option Rs) (qs : List Ar) : Option Rs :=
 match arsRows qs with
 | [] => match F (qs.map (nilA sz)) with
   | some ⟨p, r, []⟩ => some ⟨p, r, []⟩
   | _ => none
 | _ => none
theorem dvEq_refl (x : DV) : dvEq x x := by cases x <;> simp [dvEq]
theorem nilD_eq (sz : Nat) (x : DV) : dvEq x (nilD sz x) := by
 unfold nilD; split
 . exact ⟨rfl, rfl⟩
 . exact dvEq_refl x
theorem nilI_eq (sz : Nat) (x : Ic) : icEq x (nilI sz x) := by
 cases x with
 | d x => exact nilD_eq sz x
 | ow a b c => exact ⟨rfl, rfl, fun _ _ => rfl⟩
theorem nilIs_eq (sz : Nat) : ∀ xs : List Ic, icsEq xs (xs.map (nilI sz))
 | [] => trivial
 | x :: xs => ⟨nilI_eq sz x, nilIs_eq sz xs⟩
theorem nilA_eq (sz : Nat) (x : Ar) : arEq x (nilA sz x) := by
 cases x with
 | c x => exact nilI_eq sz x
 | agg xs => exact nilIs_eq sz xs
 | rp _ => rfl
 | fv _ => rfl
theorem nilAs_eq (sz : Nat) : ∀ xs : List Ar, arsEq xs (xs.map (nilA sz))
 | [] => trivial
 | x :: xs => ⟨nilA_eq sz x, nilAs_eq sz xs⟩
theorem nil_icRows (sz : Nat) : ∀ xs : List Ic, icRows (xs.map (nilI sz)) = icRows xs
 | [] => rfl
 | .d x :: xs => by simp only [List.map_cons, nilI, icRows]; exact nil_icRows sz xs
 | .ow a b c :: xs => by simp only [List.map_cons, nilI, icRows]; rw [nil_icRows sz xs]
theorem nil_arRows (sz : Nat) (x : Ar) : arRows (nilA sz x) = arRows x := by
 cases x with
 | c x => cases x <;> rfl
 | agg xs => exact nil_icRows sz xs
 | rp _ => rfl
 | fv _ => rfl
theorem nil_arsRows (sz : Nat) : ∀ xs : List Ar, arsRows (xs.map (nilA sz)) = arsRows xs
 | [] => rfl
 | x :: xs => by simp only [List.map_cons, arsRows]; rw [nil_arRows, nil_arsRows sz xs]
theorem fc_nil {P : Program} {f : Nat} {F : List Ar -> Option Rs} (sz : Nat) (h : FC P f F) : FC P f (FN sz F) := by
 intro qs pre r us he hp
 unfold FN at he
 split at he
 . rename_i h0
   split at he
   . rename_i p r' hF
     cases he
     exact FCat.of_eq (nilAs_eq sz qs) h0 (by rw [nil_arsRows]; exact h0) (h _ _ _ _ hF hp)
   . cases he
 . cases he
theorem far_val {a b : Int} (ha : -9223372036854775808 <= a /\ a < 9223372036854775808) (hb : -9223372036854775808 <= b /\ b < 9223372036854775808) : Wd.val (wd (Wd.val (wd a) - Wd.val (wd b))) = a - b := by
 rw [wd_val (by rw [wd_val (v := a) (by omega) (by omega), wd_val (v := b) (by omega) (by omega)]; omega) (by rw [wd_val (v := a) (by omega) (by omega), wd_val (v := b) (by omega) (by omega)]; omega), wd_val (v := a) (by omega) (by omega), wd_val (v := b) (by omega) (by omega)]
def FVInt : List Ar -> Option Rs
 | [.agg [.d (.v (.bool s0)), .d (.v (.int .i64 l0)), .d (.v (.int .i64 h0))], .agg [.d (.v (.bool b1)), .d (.v (.int .i64 m1)), .d (.v (.int .i64 r1))]] => some ⟨(Sp.inR ⟨s0, l0, h0⟩) /\ (Cg.inR ⟨b1, m1, r1⟩), .va (Vl.ar (Vl.reduce ⟨⟨(⟨s0, l0, h0⟩ : Sp), (⟨b1, m1, r1⟩ : Cg)⟩, ⟨false, []⟩⟩)), []⟩
 | _ => none
theorem fcVInt : FC Tryz.prog 59 FVInt := by
 intro xs pre r us h hp
 unfold FVInt at h
 split at h
 . rename_i s0 l0 h0 b1 m1 r1
   cases h
   obtain ⟨hp0, hp1⟩ := hp
   refine fcat tys_ok (l := [(38, ⟨[], FN 1 FVReduce⟩)]) ⟨fc_nil 1 fcVReduce, trivial⟩ Tryz.func59 rfl (by kernel_rfl) true ?_
   repeat' (first | exact trivial | refine ⟨?_, ?_⟩ | intro _)
   all_goals first | (with_reducible first | apply qa | apply qb | apply qc | apply qd) | (conv => whnf)
   all_goals first | exact hp0.1.1 | exact hp0.1.2 | exact hp0.2.1 | exact hp0.2.2 | exact hp1.1.1 | exact hp1.1.2 | exact hp1.2.1 | exact hp1.2.2 | exact hp0 | exact hp1 | exact Nat.zero_le _ | rfl | (intro _ h; exact absurd h (Nat.not_lt_zero _)) | (exact absurd ‹_ < 0› (Nat.not_lt_zero _))
 . cases h
theorem clean_live {i : Ig} (h : i.clean.s.some = true) : i.clean.c.some = true /\ i.clean.s.lo <= i.clean.s.hi := by
 unfold Ig.clean at *
 split at h
 . simp [Ig.zero] at h
 . rename_i hn
   rw [if_neg hn]
   rw [sp_clean_some] at h
   rw [cg_clean_some]
   unfold Ig.none at hn
   have hs : i.s.none = false := by simpa using h
   have hcs : i.c.some = true := by simpa [hs] using hn
   have e : i.s.clean = i.s := by unfold Sp.clean; rw [hs]; rfl
   refine ⟨hcs, ?_⟩
   dsimp only
   rw [e]
   unfold Sp.none at hs
   simp at hs
   omega
theorem clean_dead {i : Ig} (h : i.clean.s.some = false) : i.clean = Ig.zero := by
 unfold Ig.clean at *
 split at h
 . rename_i hn; rw [if_pos hn]
 . rename_i hn
   rw [sp_clean_some] at h
   unfold Ig.none at hn
   simp_all
theorem rd_has {S : Bool} {L H R : Int} (hS : S = true) : Sp.has ⟨S, L, H⟩ R = (decide (R ≥ L) && decide (R <= H)) := by unfold Sp.has; simp [hS]
theorem rd_nn {S B : Bool} {L H M R : Int} (hS : S = true) (hl : S = true -> B = true /\ L <= H) : Ig.none ⟨⟨S, L, H⟩, ⟨B, M, R⟩⟩ = false := by
 have := hl hS
 unfold Ig.none Sp.none; simp_all
theorem rd_2 {S B : Bool} {L H M R : Int} (hS : S = true) (hM : M = 0) (h : Sp.has ⟨S, L, H⟩ R = false) : Ig.red ⟨⟨S, L, H⟩, ⟨B, M, R⟩⟩ = Ig.zero := by
 rw [rd_has hS] at h
 unfold Ig.red
 split
 . rfl
 . rw [if_pos]
   have h1 := upV_0 (n := L) (r := R) (b := B) hM
   have h2 := upV_0 (n := H) (r := R) (b := B) hM
   rw [h1.2.1, h2.2.2.2, h1.1, h2.2.2.1]
   simp only [Bool.and_eq_false_iff, decide_eq_false_iff_not] at h
   simp; omega
theorem rd_3 {S B : Bool} {L H M R : Int} (hS : S = true) (hl : S = true -> B = true /\ L <= H) (hM : M = 0) (h : Sp.has ⟨S, L, H⟩ R = true) : Ig.red ⟨⟨S, L, H⟩, ⟨B, M, R⟩⟩ = ⟨Sp.of R R, ⟨true, 0, R⟩⟩ := by
 rw [rd_has hS] at h
 unfold Ig.red
 have h1 := upV_0 (n := L) (r := R) (b := B) hM
 have h2 := upV_0 (n := H) (r := R) (b := B) hM
 rw [rd_nn hS hl, h1.2.1, h2.2.2.2, h1.1, h2.2.2.1]
 simp only [Bool.and_eq_true, decide_eq_true_eq] at h
 simp [h.1, h.2, Cg.of, md]
theorem rd_4 {S B : Bool} {L H M R : Int} (hM : ¬ M = 0) (h : ((!wIntB (upW L ⟨B, M, R⟩) || !wIntB (dnW H ⟨B, M, R⟩)) || decide (wIntV (upW L ⟨B, M, R⟩) > wIntV (dnW H ⟨B, M, R⟩))) = true) : Ig.red ⟨⟨S, L, H⟩, ⟨B, M, R⟩⟩ = Ig.zero := by
 unfold Ig.red
 have h1 := upV_1 (n := L) (r := R) (b := B) hM
 have h2 := upV_1 (n := H) (r := R) (b := B) hM
 rw [h1.2.1, h2.2.2.2, h1.1, h2.2.2.1]
 rw [if_pos (c := _ = true) h]
 split <;> rfl
theorem rd_5 {S B : Bool} {L H M R : Int} (hS : S = true) (hl : S = true -> B = true /\ L <= H) (hM : ¬ M = 0) (h : ((!wIntB (upW L ⟨B, M, R⟩) || !wIntB (dnW H ⟨B, M, R⟩)) || decide (wIntV (upW L ⟨B, M, R⟩) > wIntV (dnW H ⟨B, M, R⟩))) = false) :
 Ig.red ⟨⟨S, L, H⟩, ⟨B, M, R⟩⟩ = if wIntV (upW L ⟨B, M, R⟩) = wIntV (dnW H ⟨B, M, R⟩) then ⟨Sp.of (wIntV (upW L ⟨B, M, R⟩)) (wIntV (upW L ⟨B, M, R⟩)), ⟨true, 0, wIntV (upW L ⟨B, M, R⟩)⟩⟩ else ⟨Sp.of (wIntV (upW L ⟨B, M, R⟩)) (wIntV (dnW H ⟨B, M, R⟩)), ⟨B, M, R⟩⟩ := by
 unfold Ig.red
 have h1 := upV_1 (n := L) (r := R) (b := B) hM
 have h2 := upV_1 (n := H) (r := R) (b := B) hM
 rw [rd_nn hS hl, h1.2.1, h2.2.2.2, h1.1, h2.2.2.1, h]
 rw [if_neg (by decide), if_neg (by decide)]
 split
 . simp [Cg.of, md]
 . rfl
theorem rd_4a {S B : Bool} {L H M R : Int} (hM : ¬ M = 0) (h : (!wIntB (upW L ⟨B, M, R⟩)) = true) : Ig.red ⟨⟨S, L, H⟩, ⟨B, M, R⟩⟩ = Ig.zero := rd_4 hM (by rw [h]; rfl)
theorem rd_4b {S B : Bool} {L H M R : Int} (hM : ¬ M = 0) (h : (!wIntB (dnW H ⟨B, M, R⟩)) = true) : Ig.red ⟨⟨S, L, H⟩, ⟨B, M, R⟩⟩ = Ig.zero := rd_4 hM (by rw [h]; simp)
theorem rd_4c {S B : Bool} {L H M R : Int} (hM : ¬ M = 0) (h : decide (wIntV (upW L ⟨B, M, R⟩) > wIntV (dnW H ⟨B, M, R⟩)) = true) : Ig.red ⟨⟨S, L, H⟩, ⟨B, M, R⟩⟩ = Ig.zero := rd_4 hM (by rw [h]; simp)
open Go.Lib Go.Sort
abbrev kS (s : ByteArray) : List UInt8 := s.data.toList
theorem kS_inj {a b : ByteArray} (h : kS a = kS b) : a = b := by
 have : a.data = b.data := Array.ext' h
 cases a; cases b; simp_all
theorem kS_tl (s : ByteArray) : s.toList = kS s := ByteArray.toList_eq s
theorem slt_eq (a b : ByteArray) : slt a b = decide (kS a < kS b) := by unfold slt; rw [bytesLess_eq, kS_tl, kS_tl]
theorem sle_eq (a b : ByteArray) : sle a b = (decide (kS a < kS b) || decide (a = b)) := by unfold sle; rw [bytesLess_eq, seq_iff, kS_tl, kS_tl]
def Srt (l : List ByteArray) : Prop := l.Pairwise fun a b => kS a < kS b
def insS (x : ByteArray) : List ByteArray -> List ByteArray
 | [] => [x]
 | y :: ys => if kS x < kS y then x :: y :: ys else if x = y then y :: ys else y :: insS x ys
theorem foldl_in (x : ByteArray) (l : List ByteArray) : ∀ out, l.foldl (stepP x) (out, true) = (out ++ l, true) := by
 induction l with
 | nil => intro out; simp
 | cons y ys ih => intro out; rw [List.foldl_cons, stepP_in, ih]; simp
theorem foldl_put (x : ByteArray) (l : List ByteArray) : ∀ out, (if (l.foldl (stepP x) (out, false)).2 then (l.foldl (stepP x) (out, false)).1 else (l.foldl (stepP x) (out, false)).1 ++ [x]) = out ++ insS x l := by
 induction l with
 | nil => intro out; simp [insS]
 | cons y ys ih =>
   intro out
   rw [List.foldl_cons]
   unfold insS
   by_cases h1 : kS x < kS y
   . rw [if_pos h1, stepP_lt (by rw [sle_eq]; simp [h1]) (by rw [slt_eq]; simp [h1]), foldl_in]; simp
   . rw [if_neg h1]
     by_cases h2 : x = y
     . rw [if_pos h2, stepP_eq (by rw [sle_eq]; simp [h2]) (by rw [slt_eq]; simp [h1]), foldl_in]; simp
     . rw [if_neg h2, stepP_gt (by rw [sle_eq]; simp [h1, h2]), ih]; simp
theorem putS_ins (l : List ByteArray) (x : ByteArray) : putS l x = insS x l := by
 have := foldl_put x l []
 rw [List.nil_append] at this
 rw [<- this]; rfl
theorem mem_ins {x z : ByteArray} {l : List ByteArray} : z ∈ insS x l ↔ z = x \/ z ∈ l := by
 induction l with
 | nil => simp [insS]
 | cons y ys ih =>
   unfold insS
   split
   . simp
   . split
     . rename_i h; subst h; simp
     . simp only [List.mem_cons, ih]
       constructor
       . rintro (h | h | h) <;> simp [h]
       . rintro (h | h | h) <;> simp [h]
theorem kS_tri {a b : ByteArray} (h1 : ¬ kS a < kS b) (h2 : ¬ a = b) : kS b < kS a := by
 rcases Decidable.em (kS b < kS a) with h | h
 . exact h
 . exact absurd (kS_inj (List.le_antisymm (List.not_lt.1 h) (List.not_lt.1 h1))) h2
theorem srt_ins {x : ByteArray} {l : List ByteArray} (h : Srt l) : Srt (insS x l) := by
 induction l with
 | nil => simp [insS, Srt]
 | cons y ys ih =>
   unfold Srt at h ih ⊢
   rw [List.pairwise_cons] at h
   unfold insS
   split
   . rename_i hx
     rw [List.pairwise_cons, List.pairwise_cons]
     refine ⟨fun a ha => ?_, h⟩
     rcases List.mem_cons.1 ha with rfl | ha
     . exact hx
     . exact List.lt_trans hx (h.1 a ha)
   . split
     . rw [List.pairwise_cons]; exact h
     . rename_i h1 h2
       rw [List.pairwise_cons]
       refine ⟨fun a ha => ?_, ih h.2⟩
       rcases mem_ins.1 ha with rfl | ha
       . exact kS_tri h1 h2
       . exact h.1 a ha
theorem cleanS_fold (l : List ByteArray) : ∀ s, Srt s -> Srt (l.foldl putS s) /\ ∀ z, z ∈ l.foldl putS s ↔ z ∈ s \/ z ∈ l := by
 induction l with
 | nil => intro s h; exact ⟨h, fun z => by simp⟩
 | cons x l ih =>
   intro s h
   rw [List.foldl_cons, putS_ins]
   obtain ⟨h1, h2⟩ := ih _ (srt_ins (x := x) h)
   refine ⟨h1, fun z => ?_⟩
   rw [h2, mem_ins]
   simp only [List.mem_cons]
   constructor
   . rintro ((h | h) | h) <;> simp [h]
   . rintro (h | h | h) <;> simp [h]
theorem srt_nil : Srt [] := by simp [Srt]
theorem cleanS_srt (l : List ByteArray) : Srt (cleanS l) := (cleanS_fold l [] srt_nil).1
theorem cleanS_mem {l : List ByteArray} {z : ByteArray} : z ∈ cleanS l ↔ z ∈ l := by
 have := (cleanS_fold l [] srt_nil).2 z
 simpa [cleanS] using this
theorem srt_ext : ∀ {l m : List ByteArray}, Srt l -> Srt m -> (∀ z, z ∈ l ↔ z ∈ m) -> l = m
 | [], [], _, _, _ => rfl
 | [], y :: m, _, _, h => absurd ((h y).2 (by simp)) (by simp)
 | x :: l, [], _, _, h => absurd ((h x).1 (by simp)) (by simp)
 | x :: l, y :: m, h1, h2, h => by
   unfold Srt at h1 h2
   rw [List.pairwise_cons] at h1 h2
   have hxy : x = y := by
    rcases List.mem_cons.1 ((h x).1 (by simp)) with e | e
    . exact e
    . rcases List.mem_cons.1 ((h y).2 (by simp)) with e' | e'
      . exact e'.symm
      . exact absurd (List.lt_trans (h1.1 y e') (h2.1 x e)) (List.lt_irrefl _)
   subst hxy
   congr 1
   refine srt_ext h1.2 h2.2 fun z => ?_
   have hz := h z
   simp only [List.mem_cons] at hz
   constructor
   . intro hl
     rcases hz.1 (.inr hl) with e | e
     . subst e; exact absurd (h1.1 z hl) (List.lt_irrefl _)
     . exact e
   . intro hm
     rcases hz.2 (.inr hm) with e | e
     . subst e; exact absurd (h2.1 z hm) (List.lt_irrefl _)
     . exact e
theorem compact_law {xs : List (List UInt8)} (hs : xs.Pairwise fun a b => ¬ b < a) : ∀ n, n <= xs.length ->
 ((compactUpTo xs.toArray n).Pairwise fun a b => a < b) /\ (∀ z, z ∈ compactUpTo xs.toArray n ↔ z ∈ xs.take n) := by
 intro n
 induction n with
 | zero => intro _; simp [compactUpTo]
 | succ n ih =>
   intro hn
   obtain ⟨h1, h2⟩ := ih (by omega)
   have hlt : n < xs.length := by omega
   have hget : (xs.toArray)[n]! = xs[n] := by simp [hlt]
   rw [compactUpTo_succ, hget]
   have htake : ∀ z, z ∈ xs.take (n + 1) ↔ z ∈ xs.take n \/ z = xs[n] := by
    intro z
    rw [List.take_succ_eq_append_getElem hlt, List.mem_append, List.mem_singleton]
   have hle : ∀ z, z ∈ xs.take n -> ¬ xs[n] < z := by
    intro z hz
    obtain ⟨i, hi, rfl⟩ := List.mem_take_iff_getElem.1 hz
    exact List.pairwise_iff_getElem.1 hs i n (by omega) hlt (by omega)
   by_cases hk : keeps xs.toArray n = true
   . rw [if_pos hk]
     refine ⟨?_, fun z => ?_⟩
     . rw [List.pairwise_append]
       refine ⟨h1, by simp, fun a ha b hb => ?_⟩
       simp only [List.mem_singleton] at hb
       subst hb
       have ha := (h2 a).1 ha
       have h3 := hle a ha
       rcases Decidable.em (a < xs[n]) with h | h
       . exact h
       . exfalso
         have he : a = xs[n] := List.le_antisymm (List.not_lt.1 h3) (List.not_lt.1 h)
         unfold keeps at hk
         rcases Nat.eq_zero_or_pos n with h0 | h0
         . subst h0; simp at ha
         . have hp : (xs.toArray)[n - 1]! = xs[n-1]'(by omega) := by
            rw [getElem!_pos _ _ (by simp; omega)]; simp
           rw [hget, hp] at hk
           have hne : ¬ xs[n] = xs[n-1]'(by omega) := by
            intro e
            simp [e] at hk
            omega
           obtain ⟨i, hi, rfl⟩ := List.mem_take_iff_getElem.1 ha
           rcases Nat.lt_or_ge i (n - 1) with h4 | h4
           . have q1 := List.pairwise_iff_getElem.1 hs i (n - 1) (by omega) (by omega) (by omega)
             have q2 := List.pairwise_iff_getElem.1 hs (n - 1) n (by omega) hlt (by omega)
             rw [he] at q1
             exact hne (List.le_antisymm (List.not_lt.1 q1) (List.not_lt.1 q2))
           . have : i = n - 1 := by omega
             subst this
             exact hne he.symm
     . rw [List.mem_append, h2, htake]; simp
   . rw [if_neg hk, List.append_nil]
     refine ⟨h1, fun z => ?_⟩
     rw [h2, htake]
     constructor
     . exact .inl
     . rintro (h | h)
       . exact h
       . subst h
         unfold keeps at hk
         rcases Nat.eq_zero_or_pos n with h0 | h0
         . subst h0; simp at hk
         . have hp : (xs.toArray)[n - 1]! = xs[n-1]'(by omega) := by
            rw [getElem!_pos _ _ (by simp; omega)]; simp
           rw [hget, hp] at hk
           have he : xs[n] = xs[n-1]'(by omega) := by
            simp at hk
            exact hk.2
           rw [he]
           exact List.mem_take_iff_getElem.2 ⟨n - 1, by omega, rfl⟩
theorem bS_kS (s : ByteArray) : bS (kS s) = s := by unfold bS kS; cases s; rfl
theorem kS_bS (l : List UInt8) : kS (bS l) = l := by unfold bS kS; simp
theorem map_kb (l : List (List UInt8)) : (l.map bS).map (fun s => s.data.toList) = l := by
 rw [List.map_map]
 have : (fun s : ByteArray => s.data.toList) ∘ bS = id := by funext x; exact kS_bS x
 rw [this, List.map_id]
theorem ofS_eq (l : List ByteArray) : ofS l = cleanS l := by
 have hs : (sortL l).Pairwise fun a b => ¬ b < a := by
  have := List.pairwise_mergeSort (le := fun x y : List UInt8 => !(ltOf cfL) y x) (fun a b c h1 h2 => by
   rw [ltOf_cfL] at *
   simp only [Bool.not_eq_true', decide_eq_false_iff_not, List.not_lt] at *
   exact List.le_trans h1 h2) (fun a b => by
   rw [ltOf_cfL, ltOf_cfL]
   simp only [Bool.or_eq_true, Bool.not_eq_true', decide_eq_false_iff_not, List.not_lt]
   exact List.le_total a b) (l.map fun s => s.data.toList)
  refine this.imp fun {a b} h => ?_
  rw [ltOf_cfL] at h
  simpa using h
 have hc := compact_law hs (sortL l).length (Nat.le_refl _)
 rw [List.take_length] at hc
 have he : compL ((sortL l).map bS) = compactUpTo (sortL l).toArray (sortL l).length := by
  unfold compL; rw [map_kb]; rfl
 refine srt_ext ?_ (cleanS_srt l) fun z => ?_
 . unfold ofS Srt
   rw [List.pairwise_map, he]
   exact hc.1.imp fun h => by rw [kS_bS, kS_bS]; exact h
 . rw [cleanS_mem]
   unfold ofS
   rw [List.mem_map, he]
   constructor
   . rintro ⟨x, hx, rfl⟩
     rw [hc.2] at hx
     have hx : x ∈ l.map fun s => s.data.toList := List.mem_mergeSort.1 hx
     obtain ⟨s, hs, rfl⟩ := List.mem_map.1 hx
     rw [show bS s.data.toList = s from bS_kS s]
     exact hs
   . intro hz
     refine ⟨kS z, ?_, bS_kS z⟩
     rw [hc.2]
     exact List.mem_mergeSort.2 (List.mem_map.2 ⟨z, hz, rfl⟩)
theorem cleanS_fix {l : List ByteArray} (h : Srt l) : cleanS l = l := srt_ext (cleanS_srt l) h fun _ => cleanS_mem
theorem cleanS_idem (l : List ByteArray) : cleanS (cleanS l) = cleanS l := cleanS_fix (cleanS_srt l)
theorem subS_iff {l m : List ByteArray} : subS l m = true ↔ ∀ z, z ∈ l -> z ∈ m := by
 unfold subS
 rw [List.all_eq_true]
 exact ⟨fun h z hz => memS_iff.1 (h z hz), fun h z hz => memS_iff.2 (h z hz)⟩
end Go.Proofs.YtehpbhpmkhlldaaGreat
namespace Go.Proofs.YtehpbhpmkhlldaaGreat
open Go.Sx
theorem of_rclean (v : Vl) : v.of = v.rclean := by unfold Vl.of Vl.rclean; rw [ofS_eq]
theorem reduce_eq (v : Vl) : v.reduce = v.rreduce := by unfold Vl.reduce Vl.rreduce; rw [of_rclean]
theorem sp_eq_refl (a : Sp) : Sp.eq a a = true := by simp [Sp.eq]
theorem cg_eq_refl (a : Cg) : Cg.eq a a = true := by simp [Cg.eq]
theorem exact_refl (v : Vl) : v.exact v = true := by unfold Vl.exact; simp [sp_eq_refl, cg_eq_refl]
def Ig.tidy (i : Ig) : Prop := i = Ig.zero \/ ((i.s.some = true /\ i.c.some = true) /\ i.s.lo <= i.s.hi /\ i.c.red)
theorem clean_tidy (i : Ig) : i.clean.tidy := by
 cases h : i.clean.s.some with
 | false => exact .inl (clean_dead h)
 | true => exact .inr ⟨⟨h, (clean_live h).1⟩, (clean_live h).2, clean_red⟩
theorem cg_fix {c : Cg} (h : c.some = true) (hr : c.red) : c.clean = c := by
 obtain ⟨b, m, r⟩ := c
 unfold Cg.clean Cg.of md
 unfold Cg.red at hr
 dsimp only at *
 subst h
 rw [if_pos rfl, if_neg (by omega)]
 split
 . rfl
 . have := hr.2 (by omega)
   rw [Int.emod_eq_of_lt this.1 this.2]
theorem tidy_fix {i : Ig} (h : i.tidy) : i.clean = i := by
 rcases h with rfl | ⟨⟨h1, h2⟩, h3, h4⟩
 . rfl
 . obtain ⟨⟨s, l, h⟩, c⟩ := i
   dsimp only at *
   subst h1
   have hn : Sp.none ⟨true, l, h⟩ = false := by unfold Sp.none; simp; omega
   unfold Ig.clean Ig.none
   dsimp only
   rw [hn, h2]
   rw [cg_fix h2 h4]
   unfold Sp.clean
   rw [hn]
   rfl
theorem of_le {a b : Int} (h : a <= b) : Sp.of a b = ⟨true, a, b⟩ := by unfold Sp.of; rw [if_neg (by omega)]
theorem up_facts {n m r : Int} (h : 0 < m) : 0 <= (r - n) % m /\ (r - n) % m < m /\ (n + (r - n) % m - r) % m = 0 := by
 refine ⟨Int.emod_nonneg _ (by omega), Int.emod_lt_of_pos _ h, ?_⟩
 have h1 : n + (r - n) % m - r = (r - n) % m - (r - n) := by omega
 rw [h1]
 have h2 := Int.emod_add_mul_ediv (r - n) m
 have h3 : (r - n) % m - (r - n) = m * (-((r - n) / m)) := by rw [Int.mul_neg]; omega
 rw [h3, Int.mul_emod_right]
theorem md_eq0 {n m r : Int} (hm : 0 < m) (h0 : 0 <= r) (h1 : r < m) : md n m = r ↔ (n - r) % m = 0 := by
 unfold md
 rw [if_neg (by omega)]
 have h2 := Int.emod_nonneg n (show m ≠ 0 by omega)
 have h3 := Int.emod_lt_of_pos n hm
 have h4 := Int.emod_add_mul_ediv n m
 have h5 := Int.emod_add_mul_ediv (n - r) m
 have h6 := Int.emod_nonneg (n - r) (show m ≠ 0 by omega)
 have h7 := Int.emod_lt_of_pos (n - r) hm
 constructor
 . intro h
   have : n - r = m * (n / m) := by omega
   rw [this, Int.mul_emod_right]
 . intro h
   have : n = r + m * ((n - r) / m) := by omega
   rw [this, Int.add_mul_emod_self_left, Int.emod_eq_of_lt h0 h1]
def Cg.on (c : Cg) (n : Int) : Prop := md n c.m = c.r
instance (c : Cg) (n : Int) : Decidable (c.on n) := inferInstanceAs (Decidable (md n c.m = c.r))
theorem has_on {c : Cg} (h : c.some = true) (hr : c.red) (n : Int) : c.has n = decide (c.on n) := by
 unfold Cg.has Cg.on
 rw [cg_fix h hr, h]; rfl
theorem wIn {n : Int} (h : -9223372036854775808 <= n /\ n < 9223372036854775808) : wIntV n = n /\ wIntB n = true := by unfold wIntV wIntB; simp [h]
theorem wOut {n : Int} (h : ¬ (-9223372036854775808 <= n /\ n < 9223372036854775808)) : wIntB n = false := by unfold wIntB; simp [h]
theorem modge {a m : Int} (hm : 0 < m) (ha : 0 <= a) : a % m <= a := by
 have h4 := Int.emod_add_mul_ediv a m
 have h5 : 0 <= m * (a / m) := Int.mul_nonneg (by omega) (Int.ediv_nonneg ha (by omega))
 omega
theorem emod_of_sub {a b m : Int} (h : (a - b) % m = 0) : a % m = b % m := by
 have h4 := Int.emod_add_mul_ediv (a - b) m
 rw [h] at h4
 have : a = b + m * ((a - b) / m) := by omega
 rw [this, Int.add_mul_emod_self_left]
theorem red_cases {L H M R : Int} (hl : L <= H) (hr : Cg.red ⟨true, M, R⟩) (hs : Sp.inR ⟨true, L, H⟩) (hc : Cg.inR ⟨true, M, R⟩) :
 (Ig.red ⟨⟨true, L, H⟩, ⟨true, M, R⟩⟩ = Ig.zero /\ ∀ n, -9223372036854775808 <= n -> n < 9223372036854775808 -> L <= n -> n <= H -> ¬ Cg.on ⟨true, M, R⟩ n) \/
 ∃ x y, (L <= x /\ x <= y /\ y <= H) /\ (Cg.on ⟨true, M, R⟩ x /\ Cg.on ⟨true, M, R⟩ y) /\ (∀ n, L <= n -> n <= H -> Cg.on ⟨true, M, R⟩ n -> x <= n /\ n <= y) /\ (x ≠ y -> 0 < M) /\
  Ig.red ⟨⟨true, L, H⟩, ⟨true, M, R⟩⟩ = if x = y then ⟨⟨true, x, x⟩, ⟨true, 0, x⟩⟩ else ⟨⟨true, x, y⟩, ⟨true, M, R⟩⟩ := by
 unfold Sp.inR at hs
 dsimp only at hs
 by_cases hM : M = 0
 . subst hM
   have hon : ∀ n, Cg.on ⟨true, 0, R⟩ n ↔ n = R := by intro n; unfold Cg.on md; simp
   by_cases h : L <= R /\ R <= H
   . refine .inr ⟨R, R, ⟨h.1, Int.le_refl _, h.2⟩, ⟨(hon R).2 rfl, (hon R).2 rfl⟩, fun n _ _ h => ?_, fun h => absurd rfl h, ?_⟩
     . rw [hon] at h; omega
     . rw [rd_3 rfl (fun _ => ⟨rfl, hl⟩) rfl (by rw [rd_has rfl]; simp; omega), if_pos rfl, of_le (Int.le_refl _)]
   . refine .inl ⟨rd_2 rfl rfl (by rw [rd_has rfl]; simp; omega), fun n _ _ h1 h2 h3 => ?_⟩
     rw [hon] at h3; omega
 . have hm : 0 < M := by unfold Cg.red at hr; dsimp only at hr; omega
   have hR := hr.2 hm
   dsimp only at hR
   have hon : ∀ n, Cg.on ⟨true, M, R⟩ n ↔ (n - R) % M = 0 := fun n => md_eq0 hm hR.1 hR.2
   have u := up_facts (n := L) (r := R) hm
   have hx : (upW L ⟨true, M, R⟩ - R) % M = 0 := u.2.2
   have hxL : L <= upW L ⟨true, M, R⟩ := by unfold upW; dsimp only; omega
   have d1 := Int.emod_nonneg (H - R) (show M ≠ 0 by omega)
   have hy : (dnW H ⟨true, M, R⟩ - R) % M = 0 := by
    unfold dnW; dsimp only
    have h2 := Int.emod_add_mul_ediv (H - R) M
    have h3 : H - (H - R) % M - R = M * ((H - R) / M) := by omega
    rw [h3, Int.mul_emod_right]
   have hyH : dnW H ⟨true, M, R⟩ <= H := by unfold dnW; dsimp only; omega
   have hlow : ∀ n, L <= n -> Cg.on ⟨true, M, R⟩ n -> upW L ⟨true, M, R⟩ <= n := by
    intro n h1 h2
    rw [hon] at h2
    have e := emod_of_sub (a := R - L) (b := n - L) (m := M) (by
     have : R - L - (n - L) = -(n - R) := by omega
     rw [this]; exact Int.emod_eq_zero_of_dvd (Int.dvd_neg.2 (Int.dvd_of_emod_eq_zero h2)))
    have := modge (a := n - L) hm (by omega)
    unfold upW; dsimp only; omega
   have hhigh : ∀ n, n <= H -> Cg.on ⟨true, M, R⟩ n -> n <= dnW H ⟨true, M, R⟩ := by
    intro n h1 h2
    rw [hon] at h2
    have e := emod_of_sub (a := H - R) (b := H - n) (m := M) (by
     have : H - R - (H - n) = n - R := by omega
     rw [this, h2])
    have := modge (a := H - n) hm (by omega)
    unfold dnW; dsimp only; omega
   generalize hX : upW L ⟨true, M, R⟩ = x at *
   generalize hY : dnW H ⟨true, M, R⟩ = y at *
   by_cases hxr : x < 9223372036854775808
   . by_cases hyr : -9223372036854775808 <= y
     . have wx := wIn (n := x) ⟨by omega, hxr⟩
       have wy := wIn (n := y) ⟨hyr, by omega⟩
       by_cases hxy : x <= y
       . refine .inr ⟨x, y, ⟨hxL, hxy, hyH⟩, ⟨(hon x).2 hx, (hon y).2 hy⟩, fun n h1 h2 h3 => ⟨hlow n h1 h3, hhigh n h2 h3⟩, fun _ => hm, ?_⟩
         rw [rd_5 rfl (fun _ => ⟨rfl, hl⟩) hM (by rw [hX, hY, wx.1, wx.2, wy.1, wy.2]; simp; omega), hX, hY, wx.1, wy.1]
         split
         . rw [of_le (Int.le_refl _)]
         . rw [of_le hxy]
       . refine .inl ⟨rd_4c hM (by rw [hX, hY, wx.1, wy.1]; simp; omega), fun n _ _ h1 h2 h3 => ?_⟩
         have := hlow n h1 h3
         have := hhigh n h2 h3
         omega
     . refine .inl ⟨rd_4b hM (by rw [hY, wOut (by omega)]; rfl), fun n h0 _ h1 h2 h3 => ?_⟩
       have := hhigh n h2 h3
       omega
   . refine .inl ⟨rd_4a hM (by rw [hX, wOut (by omega)]; rfl), fun n _ h0 h1 h2 h3 => ?_⟩
     have := hlow n h1 h3
     omega
theorem red_one (x : Int) : Ig.red ⟨⟨true, x, x⟩, ⟨true, 0, x⟩⟩ = ⟨⟨true, x, x⟩, ⟨true, 0, x⟩⟩ := by
 rw [rd_3 rfl (fun _ => ⟨rfl, Int.le_refl _⟩) rfl (by rw [rd_has rfl]; simp), of_le (Int.le_refl _)]
theorem up_on {n m r : Int} {b : Bool} (hm : 0 < m) (hr : Cg.red ⟨b, m, r⟩) (h : Cg.on ⟨b, m, r⟩ n) : upW n ⟨b, m, r⟩ = n /\ dnW n ⟨b, m, r⟩ = n := by
 have hR := hr.2 hm
 dsimp only at hR
 have h1 : (n - r) % m = 0 := (md_eq0 hm hR.1 hR.2).1 h
 have h2 : (r - n) % m = 0 := by
  have : r - n = -(n - r) := by omega
  rw [this]; exact Int.emod_eq_zero_of_dvd (Int.dvd_neg.2 (Int.dvd_of_emod_eq_zero h1))
 unfold upW dnW
 dsimp only
 rw [h1, h2]; omega
theorem red_two {x y M R : Int} (hx : -9223372036854775808 <= x) (hy : y < 9223372036854775808) (hxy : x < y) (hM : 0 < M) (hr : Cg.red ⟨true, M, R⟩) (h1 : Cg.on ⟨true, M, R⟩ x) (h2 : Cg.on ⟨true, M, R⟩ y) : Ig.red ⟨⟨true, x, y⟩, ⟨true, M, R⟩⟩ = ⟨⟨true, x, y⟩, ⟨true, M, R⟩⟩ := by
 have e1 := (up_on hM hr h1).1
 have e2 := (up_on hM hr h2).2
 have wx := wIn (n := x) ⟨hx, by omega⟩
 have wy := wIn (n := y) ⟨by omega, hy⟩
 rw [rd_5 rfl (fun _ => ⟨rfl, by omega⟩) (by omega) (by rw [e1, e2, wx.1, wx.2, wy.1, wy.2]; simp; omega), e1, e2, wx.1, wy.1, if_neg (by omega), of_le (by omega)]
theorem zero_tidy : Ig.zero.tidy := .inl rfl
theorem one_red (x : Int) : Cg.red ⟨true, 0, x⟩ := by unfold Cg.red; dsimp only; omega
theorem red_law {i : Ig} (ht : i.tidy) (hs : i.s.inR) (hc : i.c.inR) :
 i.red.tidy /\ i.red.red = i.red /\ i.red.leq i = true /\ ∀ n, -9223372036854775808 <= n -> n < 9223372036854775808 -> (i.red.s.has n && i.red.c.has n) = (i.s.has n && i.c.has n) := by
 rcases ht with rfl | ⟨⟨h1, h2⟩, h3, h4⟩
 . exact ⟨zero_tidy, rfl, by decide, fun _ _ _ => rfl⟩
 . obtain ⟨⟨s, L, H⟩, ⟨b, M, R⟩⟩ := i
   dsimp only at *
   subst h1; subst h2
   have hfix := cg_fix (c := ⟨true, M, R⟩) rfl h4
   have hh : ∀ n, (Sp.has ⟨true, L, H⟩ n && Cg.has ⟨true, M, R⟩ n) = decide ((L <= n /\ n <= H) /\ Cg.on ⟨true, M, R⟩ n) := by
    intro n
    rw [has_on rfl h4]
    unfold Sp.has
    simp [Bool.and_assoc]
   rcases red_cases h3 h4 hs hc with ⟨e, hn⟩ | ⟨x, y, ⟨k1, k2, k3⟩, ⟨o1, o2⟩, hb, hm, e⟩
   . rw [e]
     refine ⟨zero_tidy, rfl, by unfold Ig.leq; rfl, fun n n0 n1 => ?_⟩
     rw [hh]
     have : ¬ ((L <= n /\ n <= H) /\ Cg.on ⟨true, M, R⟩ n) := fun h => hn n n0 n1 h.1.1 h.1.2 h.2
     rw [decide_eq_false this]; rfl
   . unfold Sp.inR at hs
     dsimp only at hs
     have hleq : ∀ a : Int, Sp.has ⟨true, L, H⟩ a = decide (L <= a /\ a <= H) := by intro a; unfold Sp.has; simp
     by_cases hxy : x = y
     . rw [if_pos hxy] at e
       rw [e]
       refine ⟨.inr ⟨⟨rfl, rfl⟩, Int.le_refl _, one_red x⟩, red_one x, ?_, fun n n0 n1 => ?_⟩
       . unfold Ig.leq Sp.leq Cg.leq
         dsimp only
         rw [hleq, cg_fix rfl (one_red x), hfix]
         have h0 : Cg.has ⟨true, M, R⟩ x = true := by rw [has_on rfl h4]; exact decide_eq_true o1
         have hf : Cg.factor M 0 = true := by unfold Cg.factor; split <;> simp
         rw [h0, hf]
         simp; omega
       . rw [hh]
         have h5 : (Sp.has ⟨true, x, x⟩ n && Cg.has ⟨true, 0, x⟩ n) = decide (n = x) := by
          rw [has_on rfl (one_red x)]
          unfold Sp.has Cg.on md
          rw [Bool.eq_iff_iff]
          simp
          omega
         rw [h5]
         rw [decide_eq_decide]
         constructor
         . rintro rfl; exact ⟨⟨k1, by omega⟩, o1⟩
         . rintro ⟨⟨q1, q2⟩, q3⟩
           have := hb n q1 q2 q3
           omega
     . have hm := hm hxy
       rw [if_neg hxy] at e
       rw [e]
       refine ⟨.inr ⟨⟨rfl, rfl⟩, k2, h4⟩, red_two (by omega) (by omega) (by omega) hm h4 o1 o2, ?_, fun n n0 n1 => ?_⟩
       . unfold Ig.leq Sp.leq Cg.leq
         dsimp only
         rw [hleq, hleq, hfix]
         have h0 : Cg.has ⟨true, M, R⟩ R = true := by
          rw [has_on rfl h4]
          refine decide_eq_true ?_
          unfold Cg.on md
          dsimp only
          have := h4.2 hm
          dsimp only at this
          rw [if_neg (by omega), Int.emod_eq_of_lt this.1 this.2]
         have hf : Cg.factor M M = true := by unfold Cg.factor; split <;> simp_all
         rw [h0, hf]
         simp; omega
       . rw [hh]
         have h5 : (Sp.has ⟨true, x, y⟩ n && Cg.has ⟨true, M, R⟩ n) = decide ((x <= n /\ n <= y) /\ Cg.on ⟨true, M, R⟩ n) := by
          rw [has_on rfl h4]
          unfold Sp.has
          simp [Bool.and_assoc]
         rw [h5, decide_eq_decide]
         constructor
         . rintro ⟨q, q3⟩; exact ⟨⟨by omega, by omega⟩, q3⟩
         . rintro ⟨⟨q1, q2⟩, q3⟩; exact ⟨hb n q1 q2 q3, q3⟩
theorem has_clean {i : Ig} (n : Int) : (i.clean.s.has n && i.clean.c.has n) = (i.s.has n && i.c.has n) := by
 have hcc : i.c.clean.has n = i.c.has n := by
  unfold Cg.has
  cases h : i.c.some with
  | false => have : i.c.clean = Cg.none := by unfold Cg.clean; simp [h]
             rw [this]; rfl
  | true => rw [cg_fix (c := i.c.clean) (by rw [cg_clean_some]; exact h) (Cg.clean_red _)]
 have hsc : i.s.clean.has n = i.s.has n := by
  unfold Sp.clean
  split
  . rename_i h
    unfold Sp.none at h
    unfold Sp.has
    rw [Bool.eq_iff_iff]
    simp at h ⊢
    intro h1 h2
    rcases h with h | h
    . simp [h] at h1
    . omega
  . rfl
 unfold Ig.clean
 split
 . rename_i h
   unfold Ig.none Sp.none at h
   have : (i.s.has n && i.c.has n) = false := by
    cases h1 : i.c.some with
    | false => have : i.c.has n = false := by unfold Cg.has; rw [cg_clean_some, h1]; rfl
               rw [this]; simp
    | true =>
      rw [h1] at h
      have : i.s.has n = false := by
       unfold Sp.has
       cases h2 : i.s.some with
       | false => rfl
       | true => rw [h2] at h; simp at h; simp; omega
      rw [this]; rfl
   rw [this]; rfl
 . dsimp only
   rw [hcc, hsc]
theorem v1 (v : Vl) : v.reduce.exact v.rreduce = true := by rw [reduce_eq]; exact exact_refl _
theorem v2 {v : Vl} (h1 : v.i.s.inR) (h2 : v.i.c.inR) : v.reduce.reduce.exact v.reduce = true := by
 have hc := Ig.clean_inR h1 h2
 have h := red_law (clean_tidy v.i) hc.1 hc.2
 have e : v.reduce.reduce = v.reduce := by
  unfold Vl.reduce Vl.of
  dsimp only
  rw [tidy_fix h.1, h.2.1, ofS_eq, ofS_eq, cleanS_idem]
 rw [e]; exact exact_refl _
theorem v3 {v : Vl} {n : Int} (h1 : v.i.s.inR) (h2 : v.i.c.inR) (hn : -9223372036854775808 <= n /\ n < 9223372036854775808) : v.reduce.hasInt n = v.hasInt n := by
 have hc := Ig.clean_inR h1 h2
 have h := red_law (clean_tidy v.i) hc.1 hc.2
 unfold Vl.hasInt Vl.reduce Vl.of
 dsimp only
 rw [h.2.2.2 n hn.1 hn.2, has_clean]
theorem v4 {v : Vl} (h1 : v.i.s.inR) (h2 : v.i.c.inR) : v.reduce.leq v = true := by
 have hc := Ig.clean_inR h1 h2
 have h := red_law (clean_tidy v.i) hc.1 hc.2
 unfold Vl.leq Vl.reduce Vl.of
 dsimp only
 rw [tidy_fix h.1, h.2.2.1, ofS_eq, ofS_eq, cleanS_idem]
 have : subS (cleanS v.t.names) (cleanS v.t.names) = true := subS_iff.2 fun _ h => h
 rw [this]; cases v.t.null <;> rfl
theorem v9 {n : Int} (hn : -9223372036854775808 <= n /\ n < 9223372036854775808) : Vl.hasInt ⟨⟨Sp.of (-9223372036854775808) 9223372036854775807, Cg.of 1 0⟩, ⟨false, []⟩⟩ n = true := by
 unfold Vl.hasInt
 dsimp only
 rw [of_le (by decide)]
 have e : Cg.of 1 0 = ⟨true, 1, 0⟩ := rfl
 have hr : Cg.red ⟨true, 1, 0⟩ := by unfold Cg.red; decide
 rw [e, has_on rfl hr]
 unfold Sp.has Cg.on md
 simp; omega
def okV (v : Vl) : Prop := (v.t.names.length * 16 <= 140737488351232 /\ ∀ i, i < v.t.names.length -> [st (atS v.t.names i)] = [st (gT [st (atS v.t.names i)])]) /\ v.i.s.inR /\ v.i.c.inR
def rI (n : Int) : Prop := -9223372036854775808 <= n /\ n < 9223372036854775808
def gI : List DV -> Int
 | [.v (.int .i64 n)] => n
 | _ => 0
def under (l : List Int) (n : Int) : Int := l.foldl (fun b r => if r <= n /\ b < r then r else b) (-9223372036854775808)
def over (l : List Int) (n : Int) : Int := l.foldl (fun b r => if n <= r /\ r < b then r else b) 9223372036854775807
namespace Sp
def widen (a b : Sp) (l : List Int) : Sp := if a.none then b.clean else if leq b a then a else ⟨a.some, if b.lo < a.lo then under l b.lo else a.lo, if b.hi > a.hi then over l b.hi else a.hi⟩
theorem of_inR {l h : Int} (h0 : rI l) (h1 : rI h) : (of l h).inR := by unfold of; split; unfold inR; decide; exact ⟨h0, h1⟩
theorem join_inR {a b : Sp} (ha : a.inR) (hb : b.inR) : (join a b).inR := by
 unfold join; split
 . exact clean_inR hb
 . split
   . exact ha
   . unfold inR at ha hb; exact of_inR (by unfold rI; omega) (by unfold rI; omega)
theorem meet_inR {a b : Sp} (ha : a.inR) (hb : b.inR) : (meet a b).inR := by
 unfold meet; split
 . unfold inR; decide
 . unfold inR at ha hb; exact of_inR (by unfold rI; omega) (by unfold rI; omega)
end Sp
def FSJoin : List Ar -> Option Rs
 | [.agg [.d (.v (.bool s0)), .d (.v (.int .i64 l0)), .d (.v (.int .i64 h0))], .agg [.d (.v (.bool s1)), .d (.v (.int .i64 l1)), .d (.v (.int .i64 h1))]] => some ⟨(Sp.inR ⟨s0, l0, h0⟩) /\ (Sp.inR ⟨s1, l1, h1⟩), .va (Sp.ar (Sp.join (⟨s0, l0, h0⟩ : Sp) (⟨s1, l1, h1⟩ : Sp))), []⟩
 | _ => none
theorem fcSJoin : FC Tryz.prog 34 FSJoin := by
 intro xs pre r us h hp
 unfold FSJoin at h
 split at h
 . rename_i s0 l0 h0 s1 l1 h1
   cases h
   obtain ⟨hp0, hp1⟩ := hp
   refine fcat tys_ok (l := [(83, ⟨[], FSNone⟩), (84, ⟨[], FSClean⟩), (85, ⟨[], FSOf⟩)]) ⟨fcSNone, fcSClean, fcSOf, trivial⟩ Tryz.func34 rfl (by kernel_rfl) false ?_
   repeat' (first | exact trivial | refine ⟨?_, ?_⟩ | intro _)
   all_goals first | (with_reducible first | apply qa | apply qb | apply qc | apply qd) | (conv => whnf)
   all_goals grind [Sp.join, Sp.clean, Sp.none, Sp.of, Sp.inR]
 . cases h
def FSMeet : List Ar -> Option Rs
 | [.agg [.d (.v (.bool s0)), .d (.v (.int .i64 l0)), .d (.v (.int .i64 h0))], .agg [.d (.v (.bool s1)), .d (.v (.int .i64 l1)), .d (.v (.int .i64 h1))]] => some ⟨(Sp.inR ⟨s0, l0, h0⟩) /\ (Sp.inR ⟨s1, l1, h1⟩), .va (Sp.ar (Sp.meet (⟨s0, l0, h0⟩ : Sp) (⟨s1, l1, h1⟩ : Sp))), []⟩
 | _ => none
theorem fcSMeet : FC Tryz.prog 39 FSMeet := by
 intro xs pre r us h hp
 unfold FSMeet at h
 split at h
 . rename_i s0 l0 h0 s1 l1 h1
   cases h
   obtain ⟨hp0, hp1⟩ := hp
   refine fcat tys_ok (l := [(83, ⟨[], FSNone⟩), (85, ⟨[], FSOf⟩)]) ⟨fcSNone, fcSOf, trivial⟩ Tryz.func39 rfl (by kernel_rfl) false ?_
   repeat' (first | exact trivial | refine ⟨?_, ?_⟩ | intro _)
   all_goals first | (with_reducible first | apply qa | apply qb | apply qc | apply qd) | (conv => whnf)
   all_goals grind [Sp.meet, Sp.none, Sp.of, Sp.inR]
 . cases h
def gLn : List DV -> Nat
 | [.lst _ n _] => n
 | _ => 0
def gLf : List DV -> Nat -> List DV
 | [.lst _ _ f] => f
 | _ => fun _ => []
abbrev cLL (l : List DV) : List DV := [.lst 1 (gLn l) fun j => [st (gT (gLf l j))]]
def rLL (l : List DV) : Prop := l = cLL l
def gLL (l : List DV) : List ByteArray := gN (gLn l) (gLf l)
def catL (f : Nat -> List DV) : Nat -> List ByteArray
 | 0 => []
 | 1 => gLL (f 0)
 | _ => gLL (f 0) ++ gLL (f 1)
def rowN : Blk -> Nat
 | .row _ n _ => n
 | .fzr _ n _ => n
 | _ => 0
theorem canonY {f : Nat -> List DV} {p : Prop} (h : (rLL (f 0) /\ rLL (f 1)) /\ p) (i : Nat) (hi : i < 2) : f i = cLL (f i) := by
 have hc : i = 0 \/ i = 1 := by omega
 rcases hc with rfl | rfl
 . exact h.1.1
 . exact h.1.2
theorem catL_len (f : Nat -> List DV) : (catL f 0).length = 0 /\ (catL f 1).length = gLn (f 0) /\ (catL f 2).length = gLn (f 0) + gLn (f 1) := by simp [catL, gLL, gN_length]
theorem appRow_cat {l : List ByteArray} {m len : Nat} (hl : l.length = len) {F g : Nat -> List DV} (hF : ∀ j, j < len -> F j = [st (atS l j)]) (hg : ∀ j, j < m -> g j = [st (gT (g j))]) (i : Nat) (hi : i < len + m) : appRow len F g i = [st (atS (l ++ gN m g) i)] := by
 unfold appRow
 by_cases h : i < len
 . rw [if_pos h, hF i h]; simp [atS, List.getD_eq_getElem?_getD, List.getElem?_append_left (show i < l.length by omega)]
 . rw [if_neg h, hg _ (by omega)]
   have h2 : i - len < m := by omega
   have h3 : (gN m g)[i - len]? = some (gT (g (i - len))) := by simp [gN, h2]
   simp only [atS, List.getD_eq_getElem?_getD, List.getElem?_append_right (show l.length <= i by omega), hl, h3, Option.getD_some]
theorem cat_step {f0 : Nat -> List DV} {f : Nat -> List DV} {i : Nat} (hi : i < 2) (k3 : ∀ j, j < (catL f0 i).length -> f j = [st (atS (catL f0 i) j)]) (j : Nat) (hj : j < (catL f0 (i + 1)).length) :
 appRow (catL f0 i).length f (fun j => [st (gT (gLf (f0 i) j))]) j = [st (atS (catL f0 (i + 1)) j)] := by
 have hc : i = 0 \/ i = 1 := by omega
 rcases hc with rfl | rfl
 . exact appRow_cat (l := catL f0 0) rfl k3 (fun _ _ => rfl) j (by simpa [catL, gLL, gN_length] using hj)
 . exact appRow_cat (l := catL f0 1) rfl k3 (fun _ _ => rfl) j (by simpa [catL, gLL, gN_length] using hj)
def FNConcat : List Ar -> Option Rs
 | [.c (.d (.lst 1 2 f0))] => some ⟨((rLL (f0 0) /\ rLL (f0 1)) /\ ((gLn (f0 0)) + (gLn (f0 1))) * 16 <= 140737488351232), .va (.c (.d (lst (catL f0 2)))), []⟩
 | _ => none
theorem fcNConcat : FC Tryz.prog 92 FNConcat := by
 intro xs pre r us h hp
 unfold FNConcat at h
 split at h
 . rename_i f0
   cases h
   have hp0 := hp
   refine FCat.of_eq (as' := [.c (.d (.lst 1 2 fun i => cLL (f0 i)))]) ?_ rfl rfl ?_
   . repeat' (first | exact trivial | exact rfl | refine ⟨?_, ?_⟩ | fail)
     all_goals first | (intro i hi; exact canonY hp0 i hi) | exact hp0.2 | exact hp1.2 | exact hp2.2 | (intro i hi; exact (hp0.2 i hi).1) | (intro i hi; exact (hp1.2 i hi).1) | (intro i hi; exact (hp2.2 i hi).1) | grind
   refine fcat tys_ok (l := []) trivial Tryz.func92 rfl (by kernel_rfl) true ?_
   have hl := catL_len f0
   have h16 := hp0.2
   repeat' (first | exact trivial | refine ⟨?_, ?_⟩ | intro _)
   all_goals first | (with_reducible first | apply qa | apply qb | apply qc | apply qd) | (conv => whnf)
   refine loop_ok tys_ok (l := []) trivial (by kernel_rfl) (X := Nat)
    (fun x => ⟨[(11, vx (.int .i64 x)), (10, vx (.int .i64 2)), (9, .va (.c (.d (.lst 1 2 fun i => cLL (f0 i))))), (0, .va (.c (.d (.lst 1 2 fun i => cLL (f0 i))))), (3, vx (.int .i64 ((catL f0 x).length : Int)))], [], 0, 36⟩)
    (fun x => 2 - x) (fun x => x <= 2) [] [] (fun x _ _ => x + 1) [] [] 0 0 0 (Nat.zero_le _) ?_ ?_
   . repeat' (first | exact trivial | exact rfl | (intro _ h; exact absurd h (Nat.not_lt_zero _)) | (intro _ _; exact rfl) | refine ⟨?_, ?_⟩ | fail)
   . intro i k1
     have hc : i = 0 \/ i = 1 \/ i = 2 := by omega
     rcases hc with rfl | rfl | rfl
     . repeat' (first | exact trivial | refine ⟨?_, ?_⟩ | intro _)
       all_goals first | (with_reducible first | apply qa | apply qb | apply qc | apply qd) | (conv => whnf)
       all_goals (try simp only [Int.toNat_natCast, hl.1, hl.2.1, hl.2.2, decide_eq_true_eq, decide_eq_false_iff_not] at *)
       all_goals first | omega | ((with_reducible show idsOk _ _ = true); rfl) | (exact absurd ‹decide _ = false› (by decide)) | rfl | (rw [wI_id _ (by omega) (by omega)] at *; omega) | (rw [wI_id _ (by omega) (by omega)]; first | rfl | (congr 1; omega))
     . repeat' (first | exact trivial | refine ⟨?_, ?_⟩ | intro _)
       all_goals first | (with_reducible first | apply qa | apply qb | apply qc | apply qd) | (conv => whnf)
       all_goals (try simp only [Int.toNat_natCast, hl.1, hl.2.1, hl.2.2, decide_eq_true_eq, decide_eq_false_iff_not] at *)
       all_goals first | omega | ((with_reducible show idsOk _ _ = true); rfl) | (exact absurd ‹decide _ = false› (by decide)) | rfl | (rw [wI_id _ (by omega) (by omega)] at *; omega) | (rw [wI_id _ (by omega) (by omega)]; first | rfl | (congr 1; omega))
     . repeat' (first | exact trivial | refine ⟨?_, ?_⟩ | intro _)
       all_goals first | (with_reducible first | apply qa | apply qb | apply qc | apply qd) | (conv => whnf)
       all_goals first | (exact absurd ‹decide _ = true› (by decide)) | skip
       all_goals first | ((with_reducible show ACall _ _ _ _ _ _); refine inl tys_ok (l := []) trivial Tryz.func129 rfl (by kernel_rfl) (by kernel_rfl) rfl ?_; (conv => whnf)) | skip
       all_goals repeat' (first | exact trivial | refine ⟨?_, ?_⟩ | intro _)
       all_goals first | (with_reducible first | apply qa | apply qb | apply qc | apply qd) | (conv => whnf)
       all_goals first | (exact absurd ‹decide _ = false› (by decide)) | ((with_reducible show ASat _ _ _ _ _); skip) | skip
       all_goals (have hw : IntKind.wrap .i64 (((catL f0 2).length : Int) - IntKind.wrap .i64 (((0 : Nat) : Int) - ((0 : Nat) : Int))) = ((gLn (f0 0) + gLn (f0 1) : Nat) : Int) := by rw [hl.2.2]; simp only [Int.sub_self]; rw [wI_id 0 (by omega) (by omega), wI_id _ (by omega) (by omega)]; omega)
       all_goals first | omega | (rw [hw]; omega) | (exfalso; rw [hl.2.2] at *; simp only [decide_eq_true_eq] at *; omega) | skip
       . refine loop_ok tys_ok (l := []) trivial (by kernel_rfl) (X := Nat × Nat × (Nat -> List DV))
          (fun x => ⟨[(27, vx (.int .i64 x.1)), (26, vx (.int .i64 2)), (25, .va (.c (.d (.lst 1 2 fun i => cLL (f0 i))))), (6, .va (.c (.osl 0 1 0 (catL f0 x.1).length)))], [(0, .row 1 x.2.1 x.2.2)], 1, 36⟩)
          (fun x => 2 - x.1) (fun x => x.1 <= 2 /\ (catL f0 x.1).length <= x.2.1 /\ ∀ j, j < (catL f0 x.1).length -> x.2.2 j = [st (atS (catL f0 x.1) j)]) [] [1] (fun x _ bs => match bs with | [b] => (x.1 + 1, rowN b, rowB b) | _ => x) [1] [0] 0 0 (0, gLn (f0 0) + gLn (f0 1), fun _ => [st ByteArray.empty]) ?_ ?_ ?_
         . exact ⟨Nat.zero_le _, by simp [catL], fun j hj => absurd hj (by simp [catL])⟩
         . repeat' (first | exact trivial | exact rfl | (intro _ h; exact absurd h (Nat.not_lt_zero _)) | (intro _ _; exact rfl) | refine ⟨?_, ?_⟩ | fail)
           all_goals first | (rw [hw]; rfl) | (simp; done)
         . rintro ⟨i, n, f⟩ ⟨k1, k2, k3⟩
           dsimp only at k1 k2 k3
           have hs := fun h => cat_step (f0 := f0) (f := f) (i := i) h k3
           have hc : i = 0 \/ i = 1 \/ i = 2 := by omega
           rcases hc with rfl | rfl | rfl
           . repeat' (first | exact trivial | refine ⟨?_, ?_⟩ | intro _)
             all_goals first | (with_reducible first | apply qa | apply qb | apply qc | apply qd) | (conv => whnf)
             all_goals (try dsimp only [rowN, rowB] at *)
             all_goals (try simp only [Int.toNat_natCast, Nat.zero_add, Nat.reduceAdd, decide_eq_true_eq, decide_eq_false_iff_not] at *)
             all_goals first | omega | ((with_reducible show idsOk _ _ = true); rfl) | rfl | (exact hs (by decide) _ ‹_›) | (rw [wI_id _ (by omega) (by omega)]; first | rfl | (congr 1; omega)) | (exact k3 _ ‹_›)
           . repeat' (first | exact trivial | refine ⟨?_, ?_⟩ | intro _)
             all_goals first | (with_reducible first | apply qa | apply qb | apply qc | apply qd) | (conv => whnf)
             all_goals (try dsimp only [rowN, rowB] at *)
             all_goals (try simp only [Int.toNat_natCast, Nat.zero_add, Nat.reduceAdd, decide_eq_true_eq, decide_eq_false_iff_not] at *)
             all_goals first | omega | ((with_reducible show idsOk _ _ = true); rfl) | rfl | (exact hs (by decide) _ ‹_›) | (rw [wI_id _ (by omega) (by omega)]; first | rfl | (congr 1; omega)) | (exact k3 _ ‹_›)
           . repeat' (first | exact trivial | refine ⟨?_, ?_⟩ | intro _)
             all_goals first | (with_reducible first | apply qa | apply qb | apply qc | apply qd) | (conv => whnf)
             all_goals (try dsimp only [rowN, rowB] at *)
             all_goals (try simp only [Int.toNat_natCast, Nat.zero_add, Nat.reduceAdd, decide_eq_true_eq, decide_eq_false_iff_not] at *)
             all_goals first | omega | ((with_reducible show idsOk _ _ = true); rfl) | rfl | (exact hs (by decide) _ ‹_›) | (rw [wI_id _ (by omega) (by omega)]; first | rfl | (congr 1; omega)) | (exact k3 _ ‹_›)
       . refine loop_ok tys_ok (l := []) trivial (by kernel_rfl) (X := Nat × Nat × (Nat -> List DV))
          (fun x => ⟨[(27, vx (.int .i64 x.1)), (26, vx (.int .i64 2)), (25, .va (.c (.d (.lst 1 2 fun i => cLL (f0 i))))), (6, .va (.c (.osl 0 1 0 (catL f0 x.1).length)))], [(0, .row 1 x.2.1 x.2.2)], 1, 36⟩)
          (fun x => 2 - x.1) (fun x => x.1 <= 2 /\ (catL f0 x.1).length <= x.2.1 /\ ∀ j, j < (catL f0 x.1).length -> x.2.2 j = [st (atS (catL f0 x.1) j)]) [] [1] (fun x _ bs => match bs with | [b] => (x.1 + 1, rowN b, rowB b) | _ => x) [1] [] 0 1 (0, 0, fun _ => []) ?_ ?_ ?_
         . exact ⟨Nat.zero_le _, by simp [catL], fun j hj => absurd hj (by simp [catL])⟩
         . repeat' (first | exact trivial | exact rfl | (intro _ h; exact absurd h (Nat.not_lt_zero _)) | (intro _ _; exact rfl) | refine ⟨?_, ?_⟩ | fail)
           all_goals first | (rw [hw]; rfl) | (simp; done)
         . rintro ⟨i, n, f⟩ ⟨k1, k2, k3⟩
           dsimp only at k1 k2 k3
           have hs := fun h => cat_step (f0 := f0) (f := f) (i := i) h k3
           have hc : i = 0 \/ i = 1 \/ i = 2 := by omega
           rcases hc with rfl | rfl | rfl
           . repeat' (first | exact trivial | refine ⟨?_, ?_⟩ | intro _)
             all_goals first | (with_reducible first | apply qa | apply qb | apply qc | apply qd) | (conv => whnf)
             all_goals (try dsimp only [rowN, rowB] at *)
             all_goals (try simp only [Int.toNat_natCast, Nat.zero_add, Nat.reduceAdd, decide_eq_true_eq, decide_eq_false_iff_not] at *)
             all_goals first | omega | ((with_reducible show idsOk _ _ = true); rfl) | rfl | (exact hs (by decide) _ ‹_›) | (rw [wI_id _ (by omega) (by omega)]; first | rfl | (congr 1; omega)) | (exact k3 _ ‹_›)
           . repeat' (first | exact trivial | refine ⟨?_, ?_⟩ | intro _)
             all_goals first | (with_reducible first | apply qa | apply qb | apply qc | apply qd) | (conv => whnf)
             all_goals (try dsimp only [rowN, rowB] at *)
             all_goals (try simp only [Int.toNat_natCast, Nat.zero_add, Nat.reduceAdd, decide_eq_true_eq, decide_eq_false_iff_not] at *)
             all_goals first | omega | ((with_reducible show idsOk _ _ = true); rfl) | rfl | (exact hs (by decide) _ ‹_›) | (rw [wI_id _ (by omega) (by omega)]; first | rfl | (congr 1; omega)) | (exact k3 _ ‹_›)
           . repeat' (first | exact trivial | refine ⟨?_, ?_⟩ | intro _)
             all_goals first | (with_reducible first | apply qa | apply qb | apply qc | apply qd) | (conv => whnf)
             all_goals (try dsimp only [rowN, rowB] at *)
             all_goals (try simp only [Int.toNat_natCast, Nat.zero_add, Nat.reduceAdd, decide_eq_true_eq, decide_eq_false_iff_not] at *)
             all_goals first | omega | ((with_reducible show idsOk _ _ = true); rfl) | rfl | (exact hs (by decide) _ ‹_›) | (rw [wI_id _ (by omega) (by omega)]; first | rfl | (congr 1; omega)) | (exact k3 _ ‹_›)
 . cases h
def meetS (l m : List ByteArray) : List ByteArray := l.filter fun x => memS x m
theorem meet_add (i : Nat) (f : Nat -> List DV) (m : List ByteArray) : meetS (gN (i + 1) f) m = if memS (gT (f i)) m = true then meetS (gN i f) m ++ [gT (f i)] else meetS (gN i f) m := by
 unfold meetS; rw [gN_add, List.filter_append]
 split <;> rename_i h <;> simp [h]
theorem meet_len (n : Nat) (f : Nat -> List DV) (m : List ByteArray) : (meetS (gN n f) m).length <= n := by
 have := List.length_filter_le (fun x => memS x m) (gN n f)
 rw [gN_length] at this; exact this
theorem none_key {b0 : Bool} {n : Nat} {f : Nat -> List DV} (h : (!b0) = true) : Value.bool ((n : Int) == 0) = Value.bool (!b0 && decide (gN n f = [])) := by
 rw [h, Bool.true_and]
 refine congrArg Value.bool (Bool.eq_iff_iff.2 ?_)
 rw [beq_iff_eq, decide_eq_true_eq, <- List.length_eq_zero_iff, gN_length]; omega
def FNJoin : List Ar -> Option Rs
 | [.agg [.d (.v (.bool b0)), .d (.lst 1 n0 f0)], .agg [.d (.v (.bool b1)), .d (.lst 1 n1 f1)]] => some ⟨(n0 * 16 <= 140737488351232 /\ ∀ i, i < n0 -> f0 i = [st (gT (f0 i))]) /\ (n1 * 16 <= 140737488351232 /\ ∀ i, i < n1 -> f1 i = [st (gT (f1 i))]) /\ ((n0 + n1) * 16 <= 140737488351232), .va (Ns.ar (⟨b0 || b1, ofS (gN n0 f0 ++ gN n1 f1)⟩)), []⟩
 | _ => none
theorem fcNJoin : FC Tryz.prog 36 FNJoin := by
 intro xs pre r us h hp
 unfold FNJoin at h
 split at h
 . rename_i b0 n0 f0 b1 n1 f1
   cases h
   obtain ⟨hp0, hp1, hp2⟩ := hp
   refine FCat.of_eq (as' := [.agg [.d (.v (.bool b0)), .d (.lst 1 n0 fun i => [st (gT (f0 i))])], .agg [.d (.v (.bool b1)), .d (.lst 1 n1 fun i => [st (gT (f1 i))])]]) ?_ rfl rfl ?_
   . repeat' (first | exact trivial | exact rfl | refine ⟨?_, ?_⟩ | fail)
     all_goals first | exact hp0.2 | exact hp1.2 | exact hp2.2 | (intro i hi; exact (hp0.2 i hi).1) | (intro i hi; exact (hp1.2 i hi).1) | (intro i hi; exact (hp2.2 i hi).1) | grind
   refine fcat tys_ok (l := [(92, ⟨[], FNConcat⟩), (91, ⟨[], FNOf⟩)]) ⟨fcNConcat, fcNOf, trivial⟩ Tryz.func36 rfl (by kernel_rfl) true ?_
   repeat' (first | exact trivial | refine ⟨?_, ?_⟩ | intro _)
   all_goals first | (with_reducible first | apply qa | apply qb | apply qc | apply qd) | (conv => whnf)
   all_goals first | (with_reducible exact hp2) | rfl | skip
   all_goals (try subst ‹b0 = _›)
   all_goals (try simp only [gN_lst] at *)
   all_goals first | rfl | (exact hp2) | (show ((gN n0 f0 ++ gN n1 f1).length) * 16 <= _; rw [List.length_append, gN_length, gN_length]; exact hp2)
 . cases h
def FNSame : List Ar -> Option Rs
 | [.agg [.d (.v (.bool b0)), .d (.lst 1 n0 f0)], .agg [.d (.v (.bool b1)), .d (.lst 1 n1 f1)]] => some ⟨(n0 * 16 <= 140737488351232 /\ ∀ i, i < n0 -> f0 i = [st (gT (f0 i))]) /\ (n1 * 16 <= 140737488351232 /\ ∀ i, i < n1 -> f1 i = [st (gT (f1 i))]), .va (.c (.d (bo (((!b0 || b1) && subS (gN n0 f0) (gN n1 f1)) && ((!b1 || b0) && subS (gN n1 f1) (gN n0 f0)))))), []⟩
 | _ => none
theorem fcNSame : FC Tryz.prog 75 FNSame := by
 intro xs pre r us h hp
 unfold FNSame at h
 split at h
 . rename_i b0 n0 f0 b1 n1 f1
   cases h
   obtain ⟨hp0, hp1⟩ := hp
   refine FCat.of_eq (as' := [.agg [.d (.v (.bool b0)), .d (.lst 1 n0 fun i => [st (gT (f0 i))])], .agg [.d (.v (.bool b1)), .d (.lst 1 n1 fun i => [st (gT (f1 i))])]]) ?_ rfl rfl ?_
   . repeat' (first | exact trivial | exact rfl | refine ⟨?_, ?_⟩ | fail)
     all_goals first | exact hp0.2 | exact hp1.2 | exact hp2.2 | (intro i hi; exact (hp0.2 i hi).1) | (intro i hi; exact (hp1.2 i hi).1) | (intro i hi; exact (hp2.2 i hi).1) | grind
   refine fcat tys_ok (l := [(46, ⟨[], FNLeq⟩)]) ⟨fcNLeq, trivial⟩ Tryz.func75 rfl (by kernel_rfl) false ?_
   repeat' (first | exact trivial | refine ⟨?_, ?_⟩ | intro _)
   all_goals first | (with_reducible first | apply qa | apply qb | apply qc | apply qd) | (conv => whnf)
   all_goals first | rfl | exact hp0.1 | exact hp1.1 | skip
   all_goals (try simp only [gN_canon] at *)
   all_goals first | rfl | (simp only [*, Bool.true_and, Bool.false_and, Bool.and_true, Bool.and_false]; done) | (simp_all; done)
 . cases h
def FNNone : List Ar -> Option Rs
 | [.agg [.d (.v (.bool b0)), .d (.lst 1 n0 f0)]] => some ⟨(n0 * 16 <= 140737488351232 /\ ∀ i, i < n0 -> f0 i = [st (gT (f0 i))]), .va (.c (.d (bo (!b0 && decide (gN n0 f0 = []))))), []⟩
 | _ => none
theorem fcNNone : FC Tryz.prog 73 FNNone := by
 intro xs pre r us h hp
 unfold FNNone at h
 split at h
 . rename_i b0 n0 f0
   cases h
   have hp0 := hp
   refine FCat.of_eq (as' := [.agg [.d (.v (.bool b0)), .d (.lst 1 n0 fun i => [st (gT (f0 i))])]]) ?_ rfl rfl ?_
   . repeat' (first | exact trivial | exact rfl | refine ⟨?_, ?_⟩ | fail)
     all_goals first | exact hp0.2 | exact hp1.2 | exact hp2.2 | (intro i hi; exact (hp0.2 i hi).1) | (intro i hi; exact (hp1.2 i hi).1) | (intro i hi; exact (hp2.2 i hi).1) | grind
   refine fcat tys_ok (l := []) trivial Tryz.func73 rfl (by kernel_rfl) false ?_
   repeat' (first | exact trivial | refine ⟨?_, ?_⟩ | intro _)
   all_goals first | (with_reducible first | apply qa | apply qb | apply qc | apply qd) | (conv => whnf)
   all_goals first | (exact none_key ‹_›) | (rw [‹(!b0) = false›]; rfl)
 . cases h
def FNMeet : List Ar -> Option Rs
 | [.agg [.d (.v (.bool b0)), .d (.lst 1 n0 f0)], .agg [.d (.v (.bool b1)), .d (.lst 1 n1 f1)]] => some ⟨(n0 * 16 <= 140737488351232 /\ ∀ i, i < n0 -> f0 i = [st (gT (f0 i))]) /\ (n1 * 16 <= 140737488351232 /\ ∀ i, i < n1 -> f1 i = [st (gT (f1 i))]), .va (Ns.ar (⟨b0 && b1, ofS (meetS (gN n0 f0) (gN n1 f1))⟩)), []⟩
 | _ => none
theorem fcNMeet : FC Tryz.prog 41 FNMeet := by
 intro xs pre r us h hp
 unfold FNMeet at h
 split at h
 . rename_i b0 n0 f0 b1 n1 f1
   cases h
   obtain ⟨hp0, hp1⟩ := hp
   refine FCat.of_eq (as' := [.agg [.d (.v (.bool b0)), .d (.lst 1 n0 fun i => [st (gT (f0 i))])], .agg [.d (.v (.bool b1)), .d (.lst 1 n1 fun i => [st (gT (f1 i))])]]) ?_ rfl rfl ?_
   . repeat' (first | exact trivial | exact rfl | refine ⟨?_, ?_⟩ | fail)
     all_goals first | exact hp0.2 | exact hp1.2 | exact hp2.2 | (intro i hi; exact (hp0.2 i hi).1) | (intro i hi; exact (hp1.2 i hi).1) | (intro i hi; exact (hp2.2 i hi).1) | grind
   refine fcat tys_ok (l := [(97, ⟨[], FNContains⟩), (91, ⟨[], FNOf⟩)]) ⟨fcNContains, fcNOf, trivial⟩ Tryz.func41 rfl (by kernel_rfl) true ?_
   repeat' (first | exact trivial | refine ⟨?_, ?_⟩ | intro _)
   all_goals first | (with_reducible first | apply qa | apply qb | apply qc | apply qd) | (conv => whnf)
   refine loop_ids tys_ok (l := [(97, ⟨[], FNContains⟩), (91, ⟨[], FNOf⟩)]) ⟨fcNContains, fcNOf, trivial⟩ (by kernel_rfl) (X := Nat × List ByteArray)
    (fun x => ⟨[(11, vx (.int .i64 x.1)), (10, vx (.int .i64 n0)), (9, .va (.c (.d (.lst 1 n0 fun i => [st (gT (f0 i))])))), (5, .va (.c (.osl 3 1 0 x.2.length))), (2, .va (.c (.own 0 0))), (3, .va (.c (.own 1 0))), (4, .va (.c (.own 2 0)))],
      [(3, .row 1 x.2.length fun j => [st (atS x.2 j)]), (0, .cells [.d (bo b0), .d (.lst 1 n0 fun i => [st (gT (f0 i))])]), (1, .cells [.d (bo b1), .d (.lst 1 n1 fun i => [st (gT (f1 i))])]), (2, .cells [.d (bo false), .d (.v (.slice none 0 0))])], 4, 32⟩)
    (fun x => n0 - x.1) (fun x => x.1 <= n0 /\ x.2 = meetS (gN x.1 f0) (gN n1 f1)) [5] []
    (fun x _ _ => (x.1 + 1, meetS (gN (x.1 + 1) f0) (gN n1 f1))) (fun xs => match xs with | [t] => [0, 1, 2, oI t] | _ => []) [0, 1, 2] 0 1 (0, []) ?_ ?_ ?_
   . exact ⟨Nat.zero_le _, rfl⟩
   . repeat' (first | exact trivial | exact rfl | (intro _ h; exact absurd h (Nat.not_lt_zero _)) | (intro _ _; exact rfl) | refine ⟨?_, ?_⟩ | fail)
     all_goals decide
   . rintro ⟨i, l⟩ ⟨k1, k2⟩
     dsimp only at k1 k2
     have k3 := meet_len i f0 (gN n1 f1)
     rw [<- k2] at k3
     repeat' (first | exact trivial | refine ⟨?_, ?_⟩ | intro _)
     all_goals first | (with_reducible first | apply qa | apply qb | apply qc | apply qd) | (conv => whnf)
     all_goals (try simp only [Int.toNat_natCast, decide_eq_true_eq, decide_eq_false_iff_not, seq_iff, gN_canon] at *)
     all_goals first | omega | ((with_reducible show idsOk _ _ = true); rfl) | ((with_reducible show Value.int _ _ = Value.int _ _); rw [wI_id _ (by omega) (by omega)]; rfl) | rfl | (with_reducible exact hp1.1) | (simp; done) | skip
     all_goals first | (rw [meet_add, if_pos ‹memS _ _ = true›, <- k2]; first | (simp; done) | (exact appRow_snoc rfl (fun _ _ => rfl) rfl _ ‹_›)) | (rw [meet_add, if_neg (by rw [‹memS _ _ = false›]; decide), <- k2]; done) | (rw [meet_add, if_neg (by rw [‹memS _ _ = false›]; decide), <- k2]; rfl) | skip
     all_goals (have hi : i = n0 := by omega)
     all_goals (subst hi; try simp only [Nat.zero_add, gN_lst])
     all_goals first | (rw [k2]; done) | (rw [‹b0 = true›]; rfl) | (rw [‹b0 = false›]; rfl)
 . cases h
end Go.Proofs.YtehpbhpmkhlldaaGreat
