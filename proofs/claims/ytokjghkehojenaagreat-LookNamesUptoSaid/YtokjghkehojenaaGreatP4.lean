/- The types of this seat as a table for the symbolic executor: each entry is what the program has. -/
import Derived.Test.YtokjghkehojenaaGreatP3
import Derived.Test.YtokjghkehojenaaGreatProg
import Derived.Laws.Externs
import Derived.Laws.Strings
import Derived.Shelf.Small.Strs
import Derived.Shelf.Slices.CompactS
import Derived.Ground.SlsfProg
import Derived.Shelf.SlSortCmp.NoneTotal
set_option linter.all false
set_option maxHeartbeats 8000000
set_option maxRecDepth 100000
namespace Go.Sx
theorem qa {a b : Int} (h : a <= b) : a <= b := h
theorem qb {a b : Int} (h : a < b) : a < b := h
theorem qc {a b : Nat} (h : a <= b) : a <= b := h
theorem qd {a b : Nat} (h : a < b) : a < b := h
class Gq (p : Prop) : Prop where
 t : True
instance {a b : Int} : Gq (a <= b) := ⟨trivial⟩
instance {a b : Int} : Gq (a < b) := ⟨trivial⟩
instance {a b : Nat} : Gq (a <= b) := ⟨trivial⟩
instance {a b : Nat} : Gq (a < b) := ⟨trivial⟩
theorem qq {p : Prop} [Gq p] (h : p) : p := h
theorem nx {a b c : Bool} {C : Prop} (h : a = b) (n : ¬ b = c := by decide) : a = c -> C := fun k => absurd (h.symm.trans k) n
theorem n1 {C : Prop} : true = false -> C := fun h => absurd h (by decide)
theorem n2 {C : Prop} : false = true -> C := fun h => absurd h (by decide)
theorem nd {p C : Prop} [Decidable p] (n : ¬ p := by decide) : p -> C := fun h => absurd h n
end Go.Sx
namespace Go.Proofs.YtokjghkehojenaaGreat
open Go.Sx
set_option maxRecDepth 100000
theorem ty1 : tyB Tryz.prog 1 Tryz.t1 Tryz.t1 := ⟨by kernel_rfl, by kernel_rfl, by kernel_rfl⟩
theorem ty2 : tyB Tryz.prog 2 Tryz.t2 Tryz.t2 := ⟨by kernel_rfl, by kernel_rfl, by kernel_rfl⟩
theorem ty3 : tyB Tryz.prog 3 Tryz.t3 Tryz.t3 := ⟨by kernel_rfl, by kernel_rfl, by kernel_rfl⟩
theorem ty4 : tyB Tryz.prog 4 Tryz.t4 Tryz.t4 := ⟨by kernel_rfl, by kernel_rfl, by kernel_rfl⟩
theorem ty5 : tyB Tryz.prog 5 Tryz.t5 Tryz.t5 := ⟨by kernel_rfl, by kernel_rfl, by kernel_rfl⟩
theorem ty6 : tyB Tryz.prog 6 Tryz.t6 Tryz.t5 := ⟨by kernel_rfl, by kernel_rfl, by kernel_rfl⟩
theorem ty7 : tyB Tryz.prog 7 Tryz.t7 Tryz.t7 := ⟨by kernel_rfl, by kernel_rfl, by kernel_rfl⟩
theorem ty8 : tyB Tryz.prog 8 Tryz.t8 Tryz.t7 := ⟨by kernel_rfl, by kernel_rfl, by kernel_rfl⟩
theorem ty9 : tyB Tryz.prog 9 Tryz.t9 Tryz.t9 := ⟨by kernel_rfl, by kernel_rfl, by kernel_rfl⟩
theorem ty10 : tyB Tryz.prog 10 Tryz.t10 Tryz.t9 := ⟨by kernel_rfl, by kernel_rfl, by kernel_rfl⟩
theorem ty11 : tyB Tryz.prog 11 Tryz.t11 Tryz.t9 := ⟨by kernel_rfl, by kernel_rfl, by kernel_rfl⟩
theorem ty12 : tyB Tryz.prog 12 Tryz.t12 Tryz.t12 := ⟨by kernel_rfl, by kernel_rfl, by kernel_rfl⟩
theorem ty13 : tyB Tryz.prog 13 Tryz.t13 Tryz.t13 := ⟨by kernel_rfl, by kernel_rfl, by kernel_rfl⟩
theorem ty14 : tyB Tryz.prog 14 Tryz.t14 Tryz.t13 := ⟨by kernel_rfl, by kernel_rfl, by kernel_rfl⟩
theorem ty15 : tyB Tryz.prog 15 Tryz.t15 Tryz.t15 := ⟨by kernel_rfl, by kernel_rfl, by kernel_rfl⟩
theorem ty16 : tyB Tryz.prog 16 Tryz.t16 Tryz.t16 := ⟨by kernel_rfl, by kernel_rfl, by kernel_rfl⟩
theorem ty17 : tyB Tryz.prog 17 Tryz.t17 Tryz.t17 := ⟨by kernel_rfl, by kernel_rfl, by kernel_rfl⟩
theorem ty18 : tyB Tryz.prog 18 Tryz.t18 Tryz.t18 := ⟨by kernel_rfl, by kernel_rfl, by kernel_rfl⟩
theorem ty19 : tyB Tryz.prog 19 Tryz.t19 Tryz.t18 := ⟨by kernel_rfl, by kernel_rfl, by kernel_rfl⟩
theorem ty20 : tyB Tryz.prog 20 Tryz.t20 Tryz.t20 := ⟨by kernel_rfl, by kernel_rfl, by kernel_rfl⟩
theorem ty21 : tyB Tryz.prog 21 Tryz.t21 Tryz.t21 := ⟨by kernel_rfl, by kernel_rfl, by kernel_rfl⟩
theorem ty22 : tyB Tryz.prog 22 Tryz.t22 Tryz.t22 := ⟨by kernel_rfl, by kernel_rfl, by kernel_rfl⟩
theorem ty23 : tyB Tryz.prog 23 Tryz.t23 Tryz.t23 := ⟨by kernel_rfl, by kernel_rfl, by kernel_rfl⟩
theorem ty24 : tyB Tryz.prog 24 Tryz.t24 Tryz.t24 := ⟨by kernel_rfl, by kernel_rfl, by kernel_rfl⟩
theorem ty25 : tyB Tryz.prog 25 Tryz.t25 Tryz.t24 := ⟨by kernel_rfl, by kernel_rfl, by kernel_rfl⟩
theorem ty26 : tyB Tryz.prog 26 Tryz.t26 Tryz.t26 := ⟨by kernel_rfl, by kernel_rfl, by kernel_rfl⟩
theorem ty27 : tyB Tryz.prog 27 Tryz.t27 Tryz.t27 := ⟨by kernel_rfl, by kernel_rfl, by kernel_rfl⟩
theorem ty28 : tyB Tryz.prog 28 Tryz.t28 Tryz.t27 := ⟨by kernel_rfl, by kernel_rfl, by kernel_rfl⟩
theorem ty29 : tyB Tryz.prog 29 Tryz.t29 Tryz.t29 := ⟨by kernel_rfl, by kernel_rfl, by kernel_rfl⟩
theorem ty30 : tyB Tryz.prog 30 Tryz.t30 Tryz.t30 := ⟨by kernel_rfl, by kernel_rfl, by kernel_rfl⟩
theorem ty31 : tyB Tryz.prog 31 Tryz.t31 Tryz.t30 := ⟨by kernel_rfl, by kernel_rfl, by kernel_rfl⟩
theorem ty32 : tyB Tryz.prog 32 Tryz.t32 Tryz.t32 := ⟨by kernel_rfl, by kernel_rfl, by kernel_rfl⟩
theorem ty33 : tyB Tryz.prog 33 Tryz.t33 Tryz.t33 := ⟨by kernel_rfl, by kernel_rfl, by kernel_rfl⟩
theorem ty34 : tyB Tryz.prog 34 Tryz.t34 Tryz.t33 := ⟨by kernel_rfl, by kernel_rfl, by kernel_rfl⟩
theorem ty35 : tyB Tryz.prog 35 Tryz.t35 Tryz.t35 := ⟨by kernel_rfl, by kernel_rfl, by kernel_rfl⟩
theorem ty36 : tyB Tryz.prog 36 Tryz.t36 Tryz.t35 := ⟨by kernel_rfl, by kernel_rfl, by kernel_rfl⟩
theorem ty37 : tyB Tryz.prog 37 Tryz.t37 Tryz.t37 := ⟨by kernel_rfl, by kernel_rfl, by kernel_rfl⟩
theorem ty38 : tyB Tryz.prog 38 Tryz.t38 Tryz.t37 := ⟨by kernel_rfl, by kernel_rfl, by kernel_rfl⟩
theorem ty39 : tyB Tryz.prog 39 Tryz.t39 Tryz.t39 := ⟨by kernel_rfl, by kernel_rfl, by kernel_rfl⟩
theorem ty40 : tyB Tryz.prog 40 Tryz.t40 Tryz.t40 := ⟨by kernel_rfl, by kernel_rfl, by kernel_rfl⟩
theorem ty41 : tyB Tryz.prog 41 Tryz.t41 Tryz.t40 := ⟨by kernel_rfl, by kernel_rfl, by kernel_rfl⟩
theorem ty42 : tyB Tryz.prog 42 Tryz.t42 Tryz.t42 := ⟨by kernel_rfl, by kernel_rfl, by kernel_rfl⟩
theorem ty43 : tyB Tryz.prog 43 Tryz.t43 Tryz.t42 := ⟨by kernel_rfl, by kernel_rfl, by kernel_rfl⟩
theorem ty44 : tyB Tryz.prog 44 Tryz.t44 Tryz.t44 := ⟨by kernel_rfl, by kernel_rfl, by kernel_rfl⟩
theorem ty45 : tyB Tryz.prog 45 Tryz.t45 Tryz.t45 := ⟨by kernel_rfl, by kernel_rfl, by kernel_rfl⟩
theorem ty46 : tyB Tryz.prog 46 Tryz.t46 Tryz.t45 := ⟨by kernel_rfl, by kernel_rfl, by kernel_rfl⟩
theorem ty47 : tyB Tryz.prog 47 Tryz.t47 Tryz.t47 := ⟨by kernel_rfl, by kernel_rfl, by kernel_rfl⟩
theorem ty48 : tyB Tryz.prog 48 Tryz.t48 Tryz.t47 := ⟨by kernel_rfl, by kernel_rfl, by kernel_rfl⟩
theorem ty49 : tyB Tryz.prog 49 Tryz.t49 Tryz.t49 := ⟨by kernel_rfl, by kernel_rfl, by kernel_rfl⟩
theorem ty50 : tyB Tryz.prog 50 Tryz.t50 Tryz.t50 := ⟨by kernel_rfl, by kernel_rfl, by kernel_rfl⟩
theorem ty51 : tyB Tryz.prog 51 Tryz.t51 Tryz.t51 := ⟨by kernel_rfl, by kernel_rfl, by kernel_rfl⟩
theorem ty52 : tyB Tryz.prog 52 Tryz.t52 Tryz.t51 := ⟨by kernel_rfl, by kernel_rfl, by kernel_rfl⟩
theorem ty53 : tyB Tryz.prog 53 Tryz.t53 Tryz.t53 := ⟨by kernel_rfl, by kernel_rfl, by kernel_rfl⟩
theorem ty54 : tyB Tryz.prog 54 Tryz.t54 Tryz.t53 := ⟨by kernel_rfl, by kernel_rfl, by kernel_rfl⟩
theorem ty55 : tyB Tryz.prog 55 Tryz.t55 Tryz.t55 := ⟨by kernel_rfl, by kernel_rfl, by kernel_rfl⟩
theorem ty56 : tyB Tryz.prog 56 Tryz.t56 Tryz.t47 := ⟨by kernel_rfl, by kernel_rfl, by kernel_rfl⟩
theorem ty57 : tyB Tryz.prog 57 Tryz.t57 Tryz.t57 := ⟨by kernel_rfl, by kernel_rfl, by kernel_rfl⟩
theorem ty58 : tyB Tryz.prog 58 Tryz.t58 Tryz.t58 := ⟨by kernel_rfl, by kernel_rfl, by kernel_rfl⟩
theorem ty60 : tyB Tryz.prog 60 Tryz.t60 Tryz.t60 := ⟨by kernel_rfl, by kernel_rfl, by kernel_rfl⟩
theorem ty61 : tyB Tryz.prog 61 Tryz.t61 Tryz.t61 := ⟨by kernel_rfl, by kernel_rfl, by kernel_rfl⟩
theorem ty62 : tyB Tryz.prog 62 Tryz.t62 Tryz.t62 := ⟨by kernel_rfl, by kernel_rfl, by kernel_rfl⟩
theorem ty63 : tyB Tryz.prog 63 Tryz.t63 Tryz.t63 := ⟨by kernel_rfl, by kernel_rfl, by kernel_rfl⟩
theorem ty64 : tyB Tryz.prog 64 Tryz.t64 Tryz.t30 := ⟨by kernel_rfl, by kernel_rfl, by kernel_rfl⟩
theorem ty65 : tyB Tryz.prog 65 Tryz.t65 Tryz.t65 := ⟨by kernel_rfl, by kernel_rfl, by kernel_rfl⟩
theorem ty66 : tyB Tryz.prog 66 Tryz.t66 Tryz.t66 := ⟨by kernel_rfl, by kernel_rfl, by kernel_rfl⟩
theorem ty67 : tyB Tryz.prog 67 Tryz.t67 Tryz.t67 := ⟨by kernel_rfl, by kernel_rfl, by kernel_rfl⟩
theorem ty68 : tyB Tryz.prog 68 Tryz.t68 Tryz.t68 := ⟨by kernel_rfl, by kernel_rfl, by kernel_rfl⟩
theorem ty69 : tyB Tryz.prog 69 Tryz.t69 Tryz.t69 := ⟨by kernel_rfl, by kernel_rfl, by kernel_rfl⟩
theorem ty70 : tyB Tryz.prog 70 Tryz.t70 Tryz.t70 := ⟨by kernel_rfl, by kernel_rfl, by kernel_rfl⟩
theorem ty71 : tyB Tryz.prog 71 Tryz.t71 Tryz.t70 := ⟨by kernel_rfl, by kernel_rfl, by kernel_rfl⟩
theorem ty72 : tyB Tryz.prog 72 Tryz.t72 Tryz.t72 := ⟨by kernel_rfl, by kernel_rfl, by kernel_rfl⟩
theorem ty73 : tyB Tryz.prog 73 Tryz.t73 Tryz.t73 := ⟨by kernel_rfl, by kernel_rfl, by kernel_rfl⟩
theorem ty74 : tyB Tryz.prog 74 Tryz.t74 Tryz.t74 := ⟨by kernel_rfl, by kernel_rfl, by kernel_rfl⟩
theorem ty75 : tyB Tryz.prog 75 Tryz.t75 Tryz.t75 := ⟨by kernel_rfl, by kernel_rfl, by kernel_rfl⟩
theorem ty76 : tyB Tryz.prog 76 Tryz.t76 Tryz.t75 := ⟨by kernel_rfl, by kernel_rfl, by kernel_rfl⟩
theorem ty77 : tyB Tryz.prog 77 Tryz.t77 Tryz.t77 := ⟨by kernel_rfl, by kernel_rfl, by kernel_rfl⟩
theorem ty78 : tyB Tryz.prog 78 Tryz.t78 Tryz.t78 := ⟨by kernel_rfl, by kernel_rfl, by kernel_rfl⟩
theorem ty79 : tyB Tryz.prog 79 Tryz.t79 Tryz.t78 := ⟨by kernel_rfl, by kernel_rfl, by kernel_rfl⟩
theorem ty80 : tyB Tryz.prog 80 Tryz.t80 Tryz.t80 := ⟨by kernel_rfl, by kernel_rfl, by kernel_rfl⟩
theorem ty81 : tyB Tryz.prog 81 Tryz.t81 Tryz.t81 := ⟨by kernel_rfl, by kernel_rfl, by kernel_rfl⟩
theorem ty82 : tyB Tryz.prog 82 Tryz.t82 Tryz.t82 := ⟨by kernel_rfl, by kernel_rfl, by kernel_rfl⟩
theorem ty84 : tyB Tryz.prog 84 Tryz.t84 Tryz.t84 := ⟨by kernel_rfl, by kernel_rfl, by kernel_rfl⟩
theorem ty85 : tyB Tryz.prog 85 Tryz.t85 Tryz.t85 := ⟨by kernel_rfl, by kernel_rfl, by kernel_rfl⟩
theorem ty87 : tyB Tryz.prog 87 Tryz.t87 Tryz.t87 := ⟨by kernel_rfl, by kernel_rfl, by kernel_rfl⟩
theorem ty88 : tyB Tryz.prog 88 Tryz.t88 Tryz.t88 := ⟨by kernel_rfl, by kernel_rfl, by kernel_rfl⟩
theorem ty89 : tyB Tryz.prog 89 Tryz.t89 Tryz.t89 := ⟨by kernel_rfl, by kernel_rfl, by kernel_rfl⟩
theorem ty90 : tyB Tryz.prog 90 Tryz.t90 Tryz.t90 := ⟨by kernel_rfl, by kernel_rfl, by kernel_rfl⟩
theorem ty91 : tyB Tryz.prog 91 Tryz.t91 Tryz.t91 := ⟨by kernel_rfl, by kernel_rfl, by kernel_rfl⟩
theorem ty92 : tyB Tryz.prog 92 Tryz.t92 Tryz.t92 := ⟨by kernel_rfl, by kernel_rfl, by kernel_rfl⟩
theorem ty93 : tyB Tryz.prog 93 Tryz.t93 Tryz.t93 := ⟨by kernel_rfl, by kernel_rfl, by kernel_rfl⟩
theorem ty94 : tyB Tryz.prog 94 Tryz.t94 Tryz.t94 := ⟨by kernel_rfl, by kernel_rfl, by kernel_rfl⟩
theorem ty95 : tyB Tryz.prog 95 Tryz.t95 Tryz.t95 := ⟨by kernel_rfl, by kernel_rfl, by kernel_rfl⟩
theorem ty96 : tyB Tryz.prog 96 Tryz.t96 Tryz.t96 := ⟨by kernel_rfl, by kernel_rfl, by kernel_rfl⟩
theorem ty97 : tyB Tryz.prog 97 Tryz.t97 Tryz.t97 := ⟨by kernel_rfl, by kernel_rfl, by kernel_rfl⟩
theorem ty98 : tyB Tryz.prog 98 Tryz.t98 Tryz.t98 := ⟨by kernel_rfl, by kernel_rfl, by kernel_rfl⟩
theorem ty99 : tyB Tryz.prog 99 Tryz.t99 Tryz.t99 := ⟨by kernel_rfl, by kernel_rfl, by kernel_rfl⟩
theorem ty100 : tyB Tryz.prog 100 Tryz.t100 Tryz.t100 := ⟨by kernel_rfl, by kernel_rfl, by kernel_rfl⟩
theorem ty101 : tyB Tryz.prog 101 Tryz.t101 Tryz.t101 := ⟨by kernel_rfl, by kernel_rfl, by kernel_rfl⟩
theorem ty102 : tyB Tryz.prog 102 Tryz.t102 Tryz.t102 := ⟨by kernel_rfl, by kernel_rfl, by kernel_rfl⟩
theorem ty103 : tyB Tryz.prog 103 Tryz.t103 Tryz.t103 := ⟨by kernel_rfl, by kernel_rfl, by kernel_rfl⟩
theorem ty104 : tyB Tryz.prog 104 Tryz.t104 Tryz.t104 := ⟨by kernel_rfl, by kernel_rfl, by kernel_rfl⟩
theorem ty105 : tyB Tryz.prog 105 Tryz.t105 Tryz.t105 := ⟨by kernel_rfl, by kernel_rfl, by kernel_rfl⟩
theorem ty106 : tyB Tryz.prog 106 Tryz.t106 Tryz.t106 := ⟨by kernel_rfl, by kernel_rfl, by kernel_rfl⟩
theorem ty107 : tyB Tryz.prog 107 Tryz.t107 Tryz.t107 := ⟨by kernel_rfl, by kernel_rfl, by kernel_rfl⟩
theorem ty108 : tyB Tryz.prog 108 Tryz.t108 Tryz.t108 := ⟨by kernel_rfl, by kernel_rfl, by kernel_rfl⟩
theorem ty110 : tyB Tryz.prog 110 Tryz.t110 Tryz.t110 := ⟨by kernel_rfl, by kernel_rfl, by kernel_rfl⟩
theorem ty111 : tyB Tryz.prog 111 Tryz.t111 Tryz.t111 := ⟨by kernel_rfl, by kernel_rfl, by kernel_rfl⟩
theorem ty112 : tyB Tryz.prog 112 Tryz.t112 Tryz.t112 := ⟨by kernel_rfl, by kernel_rfl, by kernel_rfl⟩
theorem ty113 : tyB Tryz.prog 113 Tryz.t113 Tryz.t113 := ⟨by kernel_rfl, by kernel_rfl, by kernel_rfl⟩
theorem ty114 : tyB Tryz.prog 114 Tryz.t114 Tryz.t114 := ⟨by kernel_rfl, by kernel_rfl, by kernel_rfl⟩
theorem ty115 : tyB Tryz.prog 115 Tryz.t115 Tryz.t115 := ⟨by kernel_rfl, by kernel_rfl, by kernel_rfl⟩
theorem ty116 : tyB Tryz.prog 116 Tryz.t116 Tryz.t115 := ⟨by kernel_rfl, by kernel_rfl, by kernel_rfl⟩
theorem ty117 : tyB Tryz.prog 117 Tryz.t117 Tryz.t117 := ⟨by kernel_rfl, by kernel_rfl, by kernel_rfl⟩
theorem ty118 : tyB Tryz.prog 118 Tryz.t118 Tryz.t117 := ⟨by kernel_rfl, by kernel_rfl, by kernel_rfl⟩
theorem ty119 : tyB Tryz.prog 119 Tryz.t119 Tryz.t119 := ⟨by kernel_rfl, by kernel_rfl, by kernel_rfl⟩
theorem ty120 : tyB Tryz.prog 120 Tryz.t120 Tryz.t120 := ⟨by kernel_rfl, by kernel_rfl, by kernel_rfl⟩
theorem ty121 : tyB Tryz.prog 121 Tryz.t121 Tryz.t121 := ⟨by kernel_rfl, by kernel_rfl, by kernel_rfl⟩
theorem ty122 : tyB Tryz.prog 122 Tryz.t122 Tryz.t122 := ⟨by kernel_rfl, by kernel_rfl, by kernel_rfl⟩
theorem ty123 : tyB Tryz.prog 123 Tryz.t123 Tryz.t123 := ⟨by kernel_rfl, by kernel_rfl, by kernel_rfl⟩
theorem ty124 : tyB Tryz.prog 124 Tryz.t124 Tryz.t124 := ⟨by kernel_rfl, by kernel_rfl, by kernel_rfl⟩
theorem ty126 : tyB Tryz.prog 126 Tryz.t126 Tryz.t126 := ⟨by kernel_rfl, by kernel_rfl, by kernel_rfl⟩
theorem ty127 : tyB Tryz.prog 127 Tryz.t127 Tryz.t127 := ⟨by kernel_rfl, by kernel_rfl, by kernel_rfl⟩
theorem ty128 : tyB Tryz.prog 128 Tryz.t128 Tryz.t128 := ⟨by kernel_rfl, by kernel_rfl, by kernel_rfl⟩
theorem ty129 : tyB Tryz.prog 129 Tryz.t129 Tryz.t128 := ⟨by kernel_rfl, by kernel_rfl, by kernel_rfl⟩
theorem ty130 : tyB Tryz.prog 130 Tryz.t130 Tryz.t130 := ⟨by kernel_rfl, by kernel_rfl, by kernel_rfl⟩
theorem ty131 : tyB Tryz.prog 131 Tryz.t131 Tryz.t131 := ⟨by kernel_rfl, by kernel_rfl, by kernel_rfl⟩
theorem ty132 : tyB Tryz.prog 132 Tryz.t132 Tryz.t132 := ⟨by kernel_rfl, by kernel_rfl, by kernel_rfl⟩
theorem ty133 : tyB Tryz.prog 133 Tryz.t133 Tryz.t133 := ⟨by kernel_rfl, by kernel_rfl, by kernel_rfl⟩
theorem ty134 : tyB Tryz.prog 134 Tryz.t134 Tryz.t134 := ⟨by kernel_rfl, by kernel_rfl, by kernel_rfl⟩
theorem ty135 : tyB Tryz.prog 135 Tryz.t135 Tryz.t135 := ⟨by kernel_rfl, by kernel_rfl, by kernel_rfl⟩
theorem ty136 : tyB Tryz.prog 136 Tryz.t136 Tryz.t136 := ⟨by kernel_rfl, by kernel_rfl, by kernel_rfl⟩
theorem ty137 : tyB Tryz.prog 137 Tryz.t137 Tryz.t137 := ⟨by kernel_rfl, by kernel_rfl, by kernel_rfl⟩
theorem ty138 : tyB Tryz.prog 138 Tryz.t138 Tryz.t138 := ⟨by kernel_rfl, by kernel_rfl, by kernel_rfl⟩
theorem ty139 : tyB Tryz.prog 139 Tryz.t139 Tryz.t139 := ⟨by kernel_rfl, by kernel_rfl, by kernel_rfl⟩
theorem ty140 : tyB Tryz.prog 140 Tryz.t140 Tryz.t140 := ⟨by kernel_rfl, by kernel_rfl, by kernel_rfl⟩
theorem ty141 : tyB Tryz.prog 141 Tryz.t141 Tryz.t141 := ⟨by kernel_rfl, by kernel_rfl, by kernel_rfl⟩
theorem ty142 : tyB Tryz.prog 142 Tryz.t142 Tryz.t142 := ⟨by kernel_rfl, by kernel_rfl, by kernel_rfl⟩
theorem ty143 : tyB Tryz.prog 143 Tryz.t143 Tryz.t143 := ⟨by kernel_rfl, by kernel_rfl, by kernel_rfl⟩
theorem ty144 : tyB Tryz.prog 144 Tryz.t144 Tryz.t144 := ⟨by kernel_rfl, by kernel_rfl, by kernel_rfl⟩
theorem ty145 : tyB Tryz.prog 145 Tryz.t145 Tryz.t145 := ⟨by kernel_rfl, by kernel_rfl, by kernel_rfl⟩
theorem ty146 : tyB Tryz.prog 146 Tryz.t146 Tryz.t146 := ⟨by kernel_rfl, by kernel_rfl, by kernel_rfl⟩
theorem ty147 : tyB Tryz.prog 147 Tryz.t147 Tryz.t147 := ⟨by kernel_rfl, by kernel_rfl, by kernel_rfl⟩
theorem ty148 : tyB Tryz.prog 148 Tryz.t148 Tryz.t148 := ⟨by kernel_rfl, by kernel_rfl, by kernel_rfl⟩
theorem ty149 : tyB Tryz.prog 149 Tryz.t149 Tryz.t149 := ⟨by kernel_rfl, by kernel_rfl, by kernel_rfl⟩
theorem ty150 : tyB Tryz.prog 150 Tryz.t150 Tryz.t150 := ⟨by kernel_rfl, by kernel_rfl, by kernel_rfl⟩
theorem ty151 : tyB Tryz.prog 151 Tryz.t151 Tryz.t151 := ⟨by kernel_rfl, by kernel_rfl, by kernel_rfl⟩
theorem ty152 : tyB Tryz.prog 152 Tryz.t152 Tryz.t152 := ⟨by kernel_rfl, by kernel_rfl, by kernel_rfl⟩
theorem ty153 : tyB Tryz.prog 153 Tryz.t153 Tryz.t153 := ⟨by kernel_rfl, by kernel_rfl, by kernel_rfl⟩
theorem ty154 : tyB Tryz.prog 154 Tryz.t154 Tryz.t154 := ⟨by kernel_rfl, by kernel_rfl, by kernel_rfl⟩
theorem ty155 : tyB Tryz.prog 155 Tryz.t155 Tryz.t155 := ⟨by kernel_rfl, by kernel_rfl, by kernel_rfl⟩
theorem ty156 : tyB Tryz.prog 156 Tryz.t156 Tryz.t156 := ⟨by kernel_rfl, by kernel_rfl, by kernel_rfl⟩
theorem ty157 : tyB Tryz.prog 157 Tryz.t157 Tryz.t157 := ⟨by kernel_rfl, by kernel_rfl, by kernel_rfl⟩
theorem ty158 : tyB Tryz.prog 158 Tryz.t158 Tryz.t158 := ⟨by kernel_rfl, by kernel_rfl, by kernel_rfl⟩
theorem ty159 : tyB Tryz.prog 159 Tryz.t159 Tryz.t159 := ⟨by kernel_rfl, by kernel_rfl, by kernel_rfl⟩
theorem ty160 : tyB Tryz.prog 160 Tryz.t160 Tryz.t160 := ⟨by kernel_rfl, by kernel_rfl, by kernel_rfl⟩
theorem ty161 : tyB Tryz.prog 161 Tryz.t161 Tryz.t161 := ⟨by kernel_rfl, by kernel_rfl, by kernel_rfl⟩
theorem ty162 : tyB Tryz.prog 162 Tryz.t162 Tryz.t162 := ⟨by kernel_rfl, by kernel_rfl, by kernel_rfl⟩
theorem ty163 : tyB Tryz.prog 163 Tryz.t163 Tryz.t163 := ⟨by kernel_rfl, by kernel_rfl, by kernel_rfl⟩
theorem ty164 : tyB Tryz.prog 164 Tryz.t164 Tryz.t164 := ⟨by kernel_rfl, by kernel_rfl, by kernel_rfl⟩
theorem ty165 : tyB Tryz.prog 165 Tryz.t165 Tryz.t165 := ⟨by kernel_rfl, by kernel_rfl, by kernel_rfl⟩
theorem ty167 : tyB Tryz.prog 167 Tryz.t167 Tryz.t167 := ⟨by kernel_rfl, by kernel_rfl, by kernel_rfl⟩
theorem ty168 : tyB Tryz.prog 168 Tryz.t168 Tryz.t168 := ⟨by kernel_rfl, by kernel_rfl, by kernel_rfl⟩
theorem ty169 : tyB Tryz.prog 169 Tryz.t169 Tryz.t169 := ⟨by kernel_rfl, by kernel_rfl, by kernel_rfl⟩
theorem ty170 : tyB Tryz.prog 170 Tryz.t170 Tryz.t170 := ⟨by kernel_rfl, by kernel_rfl, by kernel_rfl⟩
theorem ty171 : tyB Tryz.prog 171 Tryz.t171 Tryz.t171 := ⟨by kernel_rfl, by kernel_rfl, by kernel_rfl⟩
theorem ty172 : tyB Tryz.prog 172 Tryz.t172 Tryz.t172 := ⟨by kernel_rfl, by kernel_rfl, by kernel_rfl⟩
theorem ty173 : tyB Tryz.prog 173 Tryz.t173 Tryz.t173 := ⟨by kernel_rfl, by kernel_rfl, by kernel_rfl⟩
theorem ty174 : tyB Tryz.prog 174 Tryz.t174 Tryz.t174 := ⟨by kernel_rfl, by kernel_rfl, by kernel_rfl⟩
theorem ty175 : tyB Tryz.prog 175 Tryz.t175 Tryz.t175 := ⟨by kernel_rfl, by kernel_rfl, by kernel_rfl⟩
theorem ty176 : tyB Tryz.prog 176 Tryz.t176 Tryz.t176 := ⟨by kernel_rfl, by kernel_rfl, by kernel_rfl⟩
theorem ty177 : tyB Tryz.prog 177 Tryz.t177 Tryz.t177 := ⟨by kernel_rfl, by kernel_rfl, by kernel_rfl⟩
theorem ty178 : tyB Tryz.prog 178 Tryz.t178 Tryz.t178 := ⟨by kernel_rfl, by kernel_rfl, by kernel_rfl⟩
theorem ty179 : tyB Tryz.prog 179 Tryz.t179 Tryz.t179 := ⟨by kernel_rfl, by kernel_rfl, by kernel_rfl⟩
theorem ty181 : tyB Tryz.prog 181 Tryz.t181 Tryz.t181 := ⟨by kernel_rfl, by kernel_rfl, by kernel_rfl⟩
theorem ty182 : tyB Tryz.prog 182 Tryz.t182 Tryz.t182 := ⟨by kernel_rfl, by kernel_rfl, by kernel_rfl⟩
theorem ty183 : tyB Tryz.prog 183 Tryz.t183 Tryz.t183 := ⟨by kernel_rfl, by kernel_rfl, by kernel_rfl⟩
theorem ty184 : tyB Tryz.prog 184 Tryz.t184 Tryz.t184 := ⟨by kernel_rfl, by kernel_rfl, by kernel_rfl⟩
theorem ty185 : tyB Tryz.prog 185 Tryz.t185 Tryz.t185 := ⟨by kernel_rfl, by kernel_rfl, by kernel_rfl⟩
theorem ty186 : tyB Tryz.prog 186 Tryz.t186 Tryz.t186 := ⟨by kernel_rfl, by kernel_rfl, by kernel_rfl⟩
theorem ty187 : tyB Tryz.prog 187 Tryz.t187 Tryz.t187 := ⟨by kernel_rfl, by kernel_rfl, by kernel_rfl⟩
theorem ty189 : tyB Tryz.prog 189 Tryz.t189 Tryz.t189 := ⟨by kernel_rfl, by kernel_rfl, by kernel_rfl⟩
theorem ty190 : tyB Tryz.prog 190 Tryz.t190 Tryz.t190 := ⟨by kernel_rfl, by kernel_rfl, by kernel_rfl⟩
theorem ty191 : tyB Tryz.prog 191 Tryz.t191 Tryz.t191 := ⟨by kernel_rfl, by kernel_rfl, by kernel_rfl⟩
theorem ty192 : tyB Tryz.prog 192 Tryz.t192 Tryz.t192 := ⟨by kernel_rfl, by kernel_rfl, by kernel_rfl⟩
theorem ty193 : tyB Tryz.prog 193 Tryz.t193 Tryz.t193 := ⟨by kernel_rfl, by kernel_rfl, by kernel_rfl⟩
theorem ty194 : tyB Tryz.prog 194 Tryz.t194 Tryz.t194 := ⟨by kernel_rfl, by kernel_rfl, by kernel_rfl⟩
theorem ty195 : tyB Tryz.prog 195 Tryz.t195 Tryz.t3 := ⟨by kernel_rfl, by kernel_rfl, by kernel_rfl⟩
theorem ty197 : tyB Tryz.prog 197 Tryz.t197 Tryz.t197 := ⟨by kernel_rfl, by kernel_rfl, by kernel_rfl⟩
theorem ty198 : tyB Tryz.prog 198 Tryz.t198 Tryz.t198 := ⟨by kernel_rfl, by kernel_rfl, by kernel_rfl⟩
theorem ty199 : tyB Tryz.prog 199 Tryz.t199 Tryz.t199 := ⟨by kernel_rfl, by kernel_rfl, by kernel_rfl⟩
theorem ty200 : tyB Tryz.prog 200 Tryz.t200 Tryz.t200 := ⟨by kernel_rfl, by kernel_rfl, by kernel_rfl⟩
theorem ty201 : tyB Tryz.prog 201 Tryz.t201 Tryz.t201 := ⟨by kernel_rfl, by kernel_rfl, by kernel_rfl⟩
theorem ty203 : tyB Tryz.prog 203 Tryz.t203 Tryz.t203 := ⟨by kernel_rfl, by kernel_rfl, by kernel_rfl⟩
theorem ty204 : tyB Tryz.prog 204 Tryz.t204 Tryz.t204 := ⟨by kernel_rfl, by kernel_rfl, by kernel_rfl⟩
theorem ty205 : tyB Tryz.prog 205 Tryz.t205 Tryz.t205 := ⟨by kernel_rfl, by kernel_rfl, by kernel_rfl⟩
theorem ty206 : tyB Tryz.prog 206 Tryz.t206 Tryz.t206 := ⟨by kernel_rfl, by kernel_rfl, by kernel_rfl⟩
theorem ty207 : tyB Tryz.prog 207 Tryz.t207 Tryz.t207 := ⟨by kernel_rfl, by kernel_rfl, by kernel_rfl⟩
theorem ty208 : tyB Tryz.prog 208 Tryz.t208 Tryz.t3 := ⟨by kernel_rfl, by kernel_rfl, by kernel_rfl⟩
theorem ty210 : tyB Tryz.prog 210 Tryz.t210 Tryz.t210 := ⟨by kernel_rfl, by kernel_rfl, by kernel_rfl⟩
theorem ty211 : tyB Tryz.prog 211 Tryz.t211 Tryz.t211 := ⟨by kernel_rfl, by kernel_rfl, by kernel_rfl⟩
theorem ty212 : tyB Tryz.prog 212 Tryz.t212 Tryz.t212 := ⟨by kernel_rfl, by kernel_rfl, by kernel_rfl⟩
theorem ty213 : tyB Tryz.prog 213 Tryz.t213 Tryz.t213 := ⟨by kernel_rfl, by kernel_rfl, by kernel_rfl⟩
theorem ty214 : tyB Tryz.prog 214 Tryz.t214 Tryz.t214 := ⟨by kernel_rfl, by kernel_rfl, by kernel_rfl⟩
theorem ty215 : tyB Tryz.prog 215 Tryz.t215 Tryz.t215 := ⟨by kernel_rfl, by kernel_rfl, by kernel_rfl⟩
theorem ty216 : tyB Tryz.prog 216 Tryz.t216 Tryz.t216 := ⟨by kernel_rfl, by kernel_rfl, by kernel_rfl⟩
theorem ty217 : tyB Tryz.prog 217 Tryz.t217 Tryz.t217 := ⟨by kernel_rfl, by kernel_rfl, by kernel_rfl⟩
theorem ty218 : tyB Tryz.prog 218 Tryz.t218 Tryz.t218 := ⟨by kernel_rfl, by kernel_rfl, by kernel_rfl⟩
theorem ty219 : tyB Tryz.prog 219 Tryz.t219 Tryz.t219 := ⟨by kernel_rfl, by kernel_rfl, by kernel_rfl⟩
theorem ty220 : tyB Tryz.prog 220 Tryz.t220 Tryz.t220 := ⟨by kernel_rfl, by kernel_rfl, by kernel_rfl⟩
theorem ty221 : tyB Tryz.prog 221 Tryz.t221 Tryz.t221 := ⟨by kernel_rfl, by kernel_rfl, by kernel_rfl⟩
theorem ty222 : tyB Tryz.prog 222 Tryz.t222 Tryz.t222 := ⟨by kernel_rfl, by kernel_rfl, by kernel_rfl⟩
theorem ty223 : tyB Tryz.prog 223 Tryz.t223 Tryz.t223 := ⟨by kernel_rfl, by kernel_rfl, by kernel_rfl⟩
theorem ty224 : tyB Tryz.prog 224 Tryz.t224 Tryz.t224 := ⟨by kernel_rfl, by kernel_rfl, by kernel_rfl⟩
theorem ty225 : tyB Tryz.prog 225 Tryz.t225 Tryz.t225 := ⟨by kernel_rfl, by kernel_rfl, by kernel_rfl⟩
theorem ty226 : tyB Tryz.prog 226 Tryz.t226 Tryz.t226 := ⟨by kernel_rfl, by kernel_rfl, by kernel_rfl⟩
theorem ty227 : tyB Tryz.prog 227 Tryz.t227 Tryz.t227 := ⟨by kernel_rfl, by kernel_rfl, by kernel_rfl⟩
theorem ty228 : tyB Tryz.prog 228 Tryz.t228 Tryz.t228 := ⟨by kernel_rfl, by kernel_rfl, by kernel_rfl⟩
theorem ty229 : tyB Tryz.prog 229 Tryz.t229 Tryz.t229 := ⟨by kernel_rfl, by kernel_rfl, by kernel_rfl⟩
theorem ty230 : tyB Tryz.prog 230 Tryz.t230 Tryz.t229 := ⟨by kernel_rfl, by kernel_rfl, by kernel_rfl⟩
theorem ty231 : tyB Tryz.prog 231 Tryz.t231 Tryz.t127 := ⟨by kernel_rfl, by kernel_rfl, by kernel_rfl⟩
theorem ty232 : tyB Tryz.prog 232 Tryz.t232 Tryz.t232 := ⟨by kernel_rfl, by kernel_rfl, by kernel_rfl⟩
theorem ty233 : tyB Tryz.prog 233 Tryz.t233 Tryz.t233 := ⟨by kernel_rfl, by kernel_rfl, by kernel_rfl⟩
theorem ty234 : tyB Tryz.prog 234 Tryz.t234 Tryz.t234 := ⟨by kernel_rfl, by kernel_rfl, by kernel_rfl⟩
theorem ty235 : tyB Tryz.prog 235 Tryz.t235 Tryz.t235 := ⟨by kernel_rfl, by kernel_rfl, by kernel_rfl⟩
theorem ty236 : tyB Tryz.prog 236 Tryz.t236 Tryz.t236 := ⟨by kernel_rfl, by kernel_rfl, by kernel_rfl⟩
theorem ty237 : tyB Tryz.prog 237 Tryz.t237 Tryz.t237 := ⟨by kernel_rfl, by kernel_rfl, by kernel_rfl⟩
theorem ty238 : tyB Tryz.prog 238 Tryz.t238 Tryz.t238 := ⟨by kernel_rfl, by kernel_rfl, by kernel_rfl⟩
theorem ty239 : tyB Tryz.prog 239 Tryz.t239 Tryz.t239 := ⟨by kernel_rfl, by kernel_rfl, by kernel_rfl⟩
theorem ty241 : tyB Tryz.prog 241 Tryz.t241 Tryz.t241 := ⟨by kernel_rfl, by kernel_rfl, by kernel_rfl⟩
theorem ty242 : tyB Tryz.prog 242 Tryz.t242 Tryz.t242 := ⟨by kernel_rfl, by kernel_rfl, by kernel_rfl⟩
theorem ty243 : tyB Tryz.prog 243 Tryz.t243 Tryz.t243 := ⟨by kernel_rfl, by kernel_rfl, by kernel_rfl⟩
theorem ty244 : tyB Tryz.prog 244 Tryz.t244 Tryz.t244 := ⟨by kernel_rfl, by kernel_rfl, by kernel_rfl⟩
theorem ty245 : tyB Tryz.prog 245 Tryz.t245 Tryz.t244 := ⟨by kernel_rfl, by kernel_rfl, by kernel_rfl⟩
theorem ty246 : tyB Tryz.prog 246 Tryz.t246 Tryz.t246 := ⟨by kernel_rfl, by kernel_rfl, by kernel_rfl⟩
theorem ty247 : tyB Tryz.prog 247 Tryz.t247 Tryz.t247 := ⟨by kernel_rfl, by kernel_rfl, by kernel_rfl⟩
theorem ty248 : tyB Tryz.prog 248 Tryz.t248 Tryz.t247 := ⟨by kernel_rfl, by kernel_rfl, by kernel_rfl⟩
theorem ty249 : tyB Tryz.prog 249 Tryz.t249 Tryz.t249 := ⟨by kernel_rfl, by kernel_rfl, by kernel_rfl⟩
theorem ty250 : tyB Tryz.prog 250 Tryz.t250 Tryz.t5 := ⟨by kernel_rfl, by kernel_rfl, by kernel_rfl⟩
theorem ty251 : tyB Tryz.prog 251 Tryz.t251 Tryz.t5 := ⟨by kernel_rfl, by kernel_rfl, by kernel_rfl⟩
theorem ty252 : tyB Tryz.prog 252 Tryz.t252 Tryz.t252 := ⟨by kernel_rfl, by kernel_rfl, by kernel_rfl⟩
theorem ty253 : tyB Tryz.prog 253 Tryz.t253 Tryz.t253 := ⟨by kernel_rfl, by kernel_rfl, by kernel_rfl⟩
theorem ty254 : tyB Tryz.prog 254 Tryz.t254 Tryz.t21 := ⟨by kernel_rfl, by kernel_rfl, by kernel_rfl⟩
theorem ty255 : tyB Tryz.prog 255 Tryz.t255 Tryz.t21 := ⟨by kernel_rfl, by kernel_rfl, by kernel_rfl⟩
theorem ty256 : tyB Tryz.prog 256 Tryz.t256 Tryz.t256 := ⟨by kernel_rfl, by kernel_rfl, by kernel_rfl⟩
theorem ty257 : tyB Tryz.prog 257 Tryz.t257 Tryz.t256 := ⟨by kernel_rfl, by kernel_rfl, by kernel_rfl⟩
theorem ty258 : tyB Tryz.prog 258 Tryz.t258 Tryz.t258 := ⟨by kernel_rfl, by kernel_rfl, by kernel_rfl⟩
theorem ty259 : tyB Tryz.prog 259 Tryz.t259 Tryz.t259 := ⟨by kernel_rfl, by kernel_rfl, by kernel_rfl⟩
theorem ty260 : tyB Tryz.prog 260 Tryz.t260 Tryz.t260 := ⟨by kernel_rfl, by kernel_rfl, by kernel_rfl⟩
theorem ty261 : tyB Tryz.prog 261 Tryz.t261 Tryz.t260 := ⟨by kernel_rfl, by kernel_rfl, by kernel_rfl⟩
theorem ty262 : tyB Tryz.prog 262 Tryz.t262 Tryz.t262 := ⟨by kernel_rfl, by kernel_rfl, by kernel_rfl⟩
theorem ty263 : tyB Tryz.prog 263 Tryz.t263 Tryz.t262 := ⟨by kernel_rfl, by kernel_rfl, by kernel_rfl⟩
theorem ty264 : tyB Tryz.prog 264 Tryz.t264 Tryz.t264 := ⟨by kernel_rfl, by kernel_rfl, by kernel_rfl⟩
theorem ty265 : tyB Tryz.prog 265 Tryz.t265 Tryz.t265 := ⟨by kernel_rfl, by kernel_rfl, by kernel_rfl⟩
theorem ty266 : tyB Tryz.prog 266 Tryz.t266 Tryz.t265 := ⟨by kernel_rfl, by kernel_rfl, by kernel_rfl⟩
theorem ty267 : tyB Tryz.prog 267 Tryz.t267 Tryz.t267 := ⟨by kernel_rfl, by kernel_rfl, by kernel_rfl⟩
theorem ty268 : tyB Tryz.prog 268 Tryz.t268 Tryz.t267 := ⟨by kernel_rfl, by kernel_rfl, by kernel_rfl⟩
theorem cm36 : cmpB Tryz.prog 36 Tryz.t35 := ⟨by kernel_rfl, by kernel_rfl, by kernel_rfl⟩
theorem cm38 : cmpB Tryz.prog 38 Tryz.t37 := ⟨by kernel_rfl, by kernel_rfl, by kernel_rfl⟩
theorem cm46 : cmpB Tryz.prog 46 Tryz.t45 := ⟨by kernel_rfl, by kernel_rfl, by kernel_rfl⟩
theorem cm76 : cmpB Tryz.prog 76 Tryz.t75 := ⟨by kernel_rfl, by kernel_rfl, by kernel_rfl⟩
theorem cm116 : cmpB Tryz.prog 116 Tryz.t115 := ⟨by kernel_rfl, by kernel_rfl, by kernel_rfl⟩
theorem cm129 : cmpB Tryz.prog 129 Tryz.t128 := ⟨by kernel_rfl, by kernel_rfl, by kernel_rfl⟩
theorem cm266 : cmpB Tryz.prog 266 Tryz.t265 := ⟨by kernel_rfl, by kernel_rfl, by kernel_rfl⟩
theorem tys_ok : TT.ok Tryz.prog (.node (.node (.node (.node (.node (.node (.node (.node (.leaf 256 Tryz.t256 Tryz.t256 false) (.leaf 128 Tryz.t128 Tryz.t128 false)) (.node (.leaf 64 Tryz.t64 Tryz.t30 false) (.leaf 192 Tryz.t192 Tryz.t192 false))) (.node (.node (.leaf 32 Tryz.t32 Tryz.t32 false) (.leaf 160 Tryz.t160 Tryz.t160 false)) (.node (.leaf 96 Tryz.t96 Tryz.t96 false) (.leaf 224 Tryz.t224 Tryz.t224 false)))) (.node (.node (.node (.leaf 16 Tryz.t16 Tryz.t16 false) (.leaf 144 Tryz.t144 Tryz.t144 false)) (.node (.leaf 80 Tryz.t80 Tryz.t80 false) (.leaf 208 Tryz.t208 Tryz.t3 false))) (.node (.node (.leaf 48 Tryz.t48 Tryz.t47 false) (.leaf 176 Tryz.t176 Tryz.t176 false)) (.leaf 112 Tryz.t112 Tryz.t112 false)))) (.node (.node (.node (.node (.node (.leaf 8 Tryz.t8 Tryz.t7 false) (.leaf 264 Tryz.t264 Tryz.t264 false)) (.leaf 136 Tryz.t136 Tryz.t136 false)) (.node (.leaf 72 Tryz.t72 Tryz.t72 false) (.leaf 200 Tryz.t200 Tryz.t200 false))) (.node (.node (.leaf 40 Tryz.t40 Tryz.t40 false) (.leaf 168 Tryz.t168 Tryz.t168 false)) (.node (.leaf 104 Tryz.t104 Tryz.t104 false) (.leaf 232 Tryz.t232 Tryz.t232 false)))) (.node (.node (.node (.leaf 24 Tryz.t24 Tryz.t24 false) (.leaf 152 Tryz.t152 Tryz.t152 false)) (.node (.leaf 88 Tryz.t88 Tryz.t88 false) (.leaf 216 Tryz.t216 Tryz.t216 false))) (.node (.node (.leaf 56 Tryz.t56 Tryz.t47 false) (.leaf 184 Tryz.t184 Tryz.t184 false)) (.node (.leaf 120 Tryz.t120 Tryz.t120 false) (.leaf 248 Tryz.t248 Tryz.t247 false)))))) (.node (.node (.node (.node (.node (.node (.leaf 4 Tryz.t4 Tryz.t4 false) (.leaf 260 Tryz.t260 Tryz.t260 false)) (.leaf 132 Tryz.t132 Tryz.t132 false)) (.leaf 68 Tryz.t68 Tryz.t68 false)) (.node (.node (.leaf 36 Tryz.t36 Tryz.t35 true) (.leaf 164 Tryz.t164 Tryz.t164 false)) (.node (.leaf 100 Tryz.t100 Tryz.t100 false) (.leaf 228 Tryz.t228 Tryz.t228 false)))) (.node (.node (.node (.leaf 20 Tryz.t20 Tryz.t20 false) (.leaf 148 Tryz.t148 Tryz.t148 false)) (.node (.leaf 84 Tryz.t84 Tryz.t84 false) (.leaf 212 Tryz.t212 Tryz.t212 false))) (.node (.leaf 52 Tryz.t52 Tryz.t51 false) (.node (.leaf 116 Tryz.t116 Tryz.t115 true) (.leaf 244 Tryz.t244 Tryz.t244 false))))) (.node (.node (.node (.node (.node (.leaf 12 Tryz.t12 Tryz.t12 false) (.leaf 268 Tryz.t268 Tryz.t267 false)) (.leaf 140 Tryz.t140 Tryz.t140 false)) (.node (.leaf 76 Tryz.t76 Tryz.t75 true) (.leaf 204 Tryz.t204 Tryz.t204 false))) (.node (.node (.leaf 44 Tryz.t44 Tryz.t44 false) (.leaf 172 Tryz.t172 Tryz.t172 false)) (.node (.leaf 108 Tryz.t108 Tryz.t108 false) (.leaf 236 Tryz.t236 Tryz.t236 false)))) (.node (.node (.node (.leaf 28 Tryz.t28 Tryz.t27 false) (.leaf 156 Tryz.t156 Tryz.t156 false)) (.node (.leaf 92 Tryz.t92 Tryz.t92 false) (.leaf 220 Tryz.t220 Tryz.t220 false))) (.node (.leaf 60 Tryz.t60 Tryz.t60 false) (.node (.leaf 124 Tryz.t124 Tryz.t124 false) (.leaf 252 Tryz.t252 Tryz.t252 false))))))) (.node (.node (.node (.node (.node (.node (.node (.leaf 2 Tryz.t2 Tryz.t2 false) (.leaf 258 Tryz.t258 Tryz.t258 false)) (.leaf 130 Tryz.t130 Tryz.t130 false)) (.node (.leaf 66 Tryz.t66 Tryz.t66 false) (.leaf 194 Tryz.t194 Tryz.t194 false))) (.node (.node (.leaf 34 Tryz.t34 Tryz.t33 false) (.leaf 162 Tryz.t162 Tryz.t162 false)) (.node (.leaf 98 Tryz.t98 Tryz.t98 false) (.leaf 226 Tryz.t226 Tryz.t226 false)))) (.node (.node (.node (.leaf 18 Tryz.t18 Tryz.t18 false) (.leaf 146 Tryz.t146 Tryz.t146 false)) (.node (.leaf 82 Tryz.t82 Tryz.t82 false) (.leaf 210 Tryz.t210 Tryz.t210 false))) (.node (.node (.leaf 50 Tryz.t50 Tryz.t50 false) (.leaf 178 Tryz.t178 Tryz.t178 false)) (.node (.leaf 114 Tryz.t114 Tryz.t114 false) (.leaf 242 Tryz.t242 Tryz.t242 false))))) (.node (.node (.node (.node (.node (.leaf 10 Tryz.t10 Tryz.t9 false) (.leaf 266 Tryz.t266 Tryz.t265 true)) (.leaf 138 Tryz.t138 Tryz.t138 false)) (.leaf 74 Tryz.t74 Tryz.t74 false)) (.node (.node (.leaf 42 Tryz.t42 Tryz.t42 false) (.leaf 170 Tryz.t170 Tryz.t170 false)) (.node (.leaf 106 Tryz.t106 Tryz.t106 false) (.leaf 234 Tryz.t234 Tryz.t234 false)))) (.node (.node (.node (.leaf 26 Tryz.t26 Tryz.t26 false) (.leaf 154 Tryz.t154 Tryz.t154 false)) (.node (.leaf 90 Tryz.t90 Tryz.t90 false) (.leaf 218 Tryz.t218 Tryz.t218 false))) (.node (.node (.leaf 58 Tryz.t58 Tryz.t58 false) (.leaf 186 Tryz.t186 Tryz.t186 false)) (.node (.leaf 122 Tryz.t122 Tryz.t122 false) (.leaf 250 Tryz.t250 Tryz.t5 false)))))) (.node (.node (.node (.node (.node (.node (.leaf 6 Tryz.t6 Tryz.t5 false) (.leaf 262 Tryz.t262 Tryz.t262 false)) (.leaf 134 Tryz.t134 Tryz.t134 false)) (.node (.leaf 70 Tryz.t70 Tryz.t70 false) (.leaf 198 Tryz.t198 Tryz.t198 false))) (.node (.leaf 38 Tryz.t38 Tryz.t37 true) (.node (.leaf 102 Tryz.t102 Tryz.t102 false) (.leaf 230 Tryz.t230 Tryz.t229 false)))) (.node (.node (.node (.leaf 22 Tryz.t22 Tryz.t22 false) (.leaf 150 Tryz.t150 Tryz.t150 false)) (.leaf 214 Tryz.t214 Tryz.t214 false)) (.node (.node (.leaf 54 Tryz.t54 Tryz.t53 false) (.leaf 182 Tryz.t182 Tryz.t182 false)) (.node (.leaf 118 Tryz.t118 Tryz.t117 false) (.leaf 246 Tryz.t246 Tryz.t246 false))))) (.node (.node (.node (.node (.leaf 14 Tryz.t14 Tryz.t13 false) (.leaf 142 Tryz.t142 Tryz.t142 false)) (.node (.leaf 78 Tryz.t78 Tryz.t78 false) (.leaf 206 Tryz.t206 Tryz.t206 false))) (.node (.node (.leaf 46 Tryz.t46 Tryz.t45 true) (.leaf 174 Tryz.t174 Tryz.t174 false)) (.node (.leaf 110 Tryz.t110 Tryz.t110 false) (.leaf 238 Tryz.t238 Tryz.t238 false)))) (.node (.node (.node (.leaf 30 Tryz.t30 Tryz.t30 false) (.leaf 158 Tryz.t158 Tryz.t158 false)) (.node (.leaf 94 Tryz.t94 Tryz.t94 false) (.leaf 222 Tryz.t222 Tryz.t222 false))) (.node (.node (.leaf 62 Tryz.t62 Tryz.t62 false) (.leaf 190 Tryz.t190 Tryz.t190 false)) (.node (.leaf 126 Tryz.t126 Tryz.t126 false) (.leaf 254 Tryz.t254 Tryz.t21 false)))))))) (.node (.node (.node (.node (.node (.node (.node (.node (.leaf 1 Tryz.t1 Tryz.t1 false) (.leaf 257 Tryz.t257 Tryz.t256 false)) (.leaf 129 Tryz.t129 Tryz.t128 true)) (.node (.leaf 65 Tryz.t65 Tryz.t65 false) (.leaf 193 Tryz.t193 Tryz.t193 false))) (.node (.node (.leaf 33 Tryz.t33 Tryz.t33 false) (.leaf 161 Tryz.t161 Tryz.t161 false)) (.node (.leaf 97 Tryz.t97 Tryz.t97 false) (.leaf 225 Tryz.t225 Tryz.t225 false)))) (.node (.node (.node (.leaf 17 Tryz.t17 Tryz.t17 false) (.leaf 145 Tryz.t145 Tryz.t145 false)) (.leaf 81 Tryz.t81 Tryz.t81 false)) (.node (.node (.leaf 49 Tryz.t49 Tryz.t49 false) (.leaf 177 Tryz.t177 Tryz.t177 false)) (.node (.leaf 113 Tryz.t113 Tryz.t113 false) (.leaf 241 Tryz.t241 Tryz.t241 false))))) (.node (.node (.node (.node (.node (.leaf 9 Tryz.t9 Tryz.t9 false) (.leaf 265 Tryz.t265 Tryz.t265 false)) (.leaf 137 Tryz.t137 Tryz.t137 false)) (.node (.leaf 73 Tryz.t73 Tryz.t73 false) (.leaf 201 Tryz.t201 Tryz.t201 false))) (.node (.node (.leaf 41 Tryz.t41 Tryz.t40 false) (.leaf 169 Tryz.t169 Tryz.t169 false)) (.node (.leaf 105 Tryz.t105 Tryz.t105 false) (.leaf 233 Tryz.t233 Tryz.t233 false)))) (.node (.node (.node (.leaf 25 Tryz.t25 Tryz.t24 false) (.leaf 153 Tryz.t153 Tryz.t153 false)) (.node (.leaf 89 Tryz.t89 Tryz.t89 false) (.leaf 217 Tryz.t217 Tryz.t217 false))) (.node (.node (.leaf 57 Tryz.t57 Tryz.t57 false) (.leaf 185 Tryz.t185 Tryz.t185 false)) (.node (.leaf 121 Tryz.t121 Tryz.t121 false) (.leaf 249 Tryz.t249 Tryz.t249 false)))))) (.node (.node (.node (.node (.node (.node (.leaf 5 Tryz.t5 Tryz.t5 false) (.leaf 261 Tryz.t261 Tryz.t260 false)) (.leaf 133 Tryz.t133 Tryz.t133 false)) (.node (.leaf 69 Tryz.t69 Tryz.t69 false) (.leaf 197 Tryz.t197 Tryz.t197 false))) (.node (.node (.leaf 37 Tryz.t37 Tryz.t37 false) (.leaf 165 Tryz.t165 Tryz.t165 false)) (.node (.leaf 101 Tryz.t101 Tryz.t101 false) (.leaf 229 Tryz.t229 Tryz.t229 false)))) (.node (.node (.node (.leaf 21 Tryz.t21 Tryz.t21 false) (.leaf 149 Tryz.t149 Tryz.t149 false)) (.node (.leaf 85 Tryz.t85 Tryz.t85 false) (.leaf 213 Tryz.t213 Tryz.t213 false))) (.node (.node (.leaf 53 Tryz.t53 Tryz.t53 false) (.leaf 181 Tryz.t181 Tryz.t181 false)) (.node (.leaf 117 Tryz.t117 Tryz.t117 false) (.leaf 245 Tryz.t245 Tryz.t244 false))))) (.node (.node (.node (.node (.leaf 13 Tryz.t13 Tryz.t13 false) (.leaf 141 Tryz.t141 Tryz.t141 false)) (.node (.leaf 77 Tryz.t77 Tryz.t77 false) (.leaf 205 Tryz.t205 Tryz.t205 false))) (.node (.node (.leaf 45 Tryz.t45 Tryz.t45 false) (.leaf 173 Tryz.t173 Tryz.t173 false)) (.leaf 237 Tryz.t237 Tryz.t237 false))) (.node (.node (.node (.leaf 29 Tryz.t29 Tryz.t29 false) (.leaf 157 Tryz.t157 Tryz.t157 false)) (.node (.leaf 93 Tryz.t93 Tryz.t93 false) (.leaf 221 Tryz.t221 Tryz.t221 false))) (.node (.node (.leaf 61 Tryz.t61 Tryz.t61 false) (.leaf 189 Tryz.t189 Tryz.t189 false)) (.leaf 253 Tryz.t253 Tryz.t253 false)))))) (.node (.node (.node (.node (.node (.node (.node (.leaf 3 Tryz.t3 Tryz.t3 false) (.leaf 259 Tryz.t259 Tryz.t259 false)) (.leaf 131 Tryz.t131 Tryz.t131 false)) (.node (.leaf 67 Tryz.t67 Tryz.t67 false) (.leaf 195 Tryz.t195 Tryz.t3 false))) (.node (.node (.leaf 35 Tryz.t35 Tryz.t35 false) (.leaf 163 Tryz.t163 Tryz.t163 false)) (.node (.leaf 99 Tryz.t99 Tryz.t99 false) (.leaf 227 Tryz.t227 Tryz.t227 false)))) (.node (.node (.node (.leaf 19 Tryz.t19 Tryz.t18 false) (.leaf 147 Tryz.t147 Tryz.t147 false)) (.leaf 211 Tryz.t211 Tryz.t211 false)) (.node (.node (.leaf 51 Tryz.t51 Tryz.t51 false) (.leaf 179 Tryz.t179 Tryz.t179 false)) (.node (.leaf 115 Tryz.t115 Tryz.t115 false) (.leaf 243 Tryz.t243 Tryz.t243 false))))) (.node (.node (.node (.node (.node (.leaf 11 Tryz.t11 Tryz.t9 false) (.leaf 267 Tryz.t267 Tryz.t267 false)) (.leaf 139 Tryz.t139 Tryz.t139 false)) (.node (.leaf 75 Tryz.t75 Tryz.t75 false) (.leaf 203 Tryz.t203 Tryz.t203 false))) (.node (.node (.leaf 43 Tryz.t43 Tryz.t42 false) (.leaf 171 Tryz.t171 Tryz.t171 false)) (.node (.leaf 107 Tryz.t107 Tryz.t107 false) (.leaf 235 Tryz.t235 Tryz.t235 false)))) (.node (.node (.node (.leaf 27 Tryz.t27 Tryz.t27 false) (.leaf 155 Tryz.t155 Tryz.t155 false)) (.node (.leaf 91 Tryz.t91 Tryz.t91 false) (.leaf 219 Tryz.t219 Tryz.t219 false))) (.node (.leaf 187 Tryz.t187 Tryz.t187 false) (.node (.leaf 123 Tryz.t123 Tryz.t123 false) (.leaf 251 Tryz.t251 Tryz.t5 false)))))) (.node (.node (.node (.node (.node (.node (.leaf 7 Tryz.t7 Tryz.t7 false) (.leaf 263 Tryz.t263 Tryz.t262 false)) (.leaf 135 Tryz.t135 Tryz.t135 false)) (.node (.leaf 71 Tryz.t71 Tryz.t70 false) (.leaf 199 Tryz.t199 Tryz.t199 false))) (.node (.node (.leaf 39 Tryz.t39 Tryz.t39 false) (.leaf 167 Tryz.t167 Tryz.t167 false)) (.node (.leaf 103 Tryz.t103 Tryz.t103 false) (.leaf 231 Tryz.t231 Tryz.t127 false)))) (.node (.node (.node (.leaf 23 Tryz.t23 Tryz.t23 false) (.leaf 151 Tryz.t151 Tryz.t151 false)) (.node (.leaf 87 Tryz.t87 Tryz.t87 false) (.leaf 215 Tryz.t215 Tryz.t215 false))) (.node (.node (.leaf 55 Tryz.t55 Tryz.t55 false) (.leaf 183 Tryz.t183 Tryz.t183 false)) (.node (.leaf 119 Tryz.t119 Tryz.t119 false) (.leaf 247 Tryz.t247 Tryz.t247 false))))) (.node (.node (.node (.node (.leaf 15 Tryz.t15 Tryz.t15 false) (.leaf 143 Tryz.t143 Tryz.t143 false)) (.node (.leaf 79 Tryz.t79 Tryz.t78 false) (.leaf 207 Tryz.t207 Tryz.t207 false))) (.node (.node (.leaf 47 Tryz.t47 Tryz.t47 false) (.leaf 175 Tryz.t175 Tryz.t175 false)) (.node (.leaf 111 Tryz.t111 Tryz.t111 false) (.leaf 239 Tryz.t239 Tryz.t239 false)))) (.node (.node (.node (.leaf 31 Tryz.t31 Tryz.t30 false) (.leaf 159 Tryz.t159 Tryz.t159 false)) (.node (.leaf 95 Tryz.t95 Tryz.t95 false) (.leaf 223 Tryz.t223 Tryz.t223 false))) (.node (.node (.leaf 63 Tryz.t63 Tryz.t63 false) (.leaf 191 Tryz.t191 Tryz.t191 false)) (.node (.leaf 127 Tryz.t127 Tryz.t127 false) (.leaf 255 Tryz.t255 Tryz.t21 false))))))))) := ⟨⟨⟨⟨⟨⟨⟨⟨⟨ty256, trivial⟩, ⟨ty128, trivial⟩⟩, ⟨⟨ty64, trivial⟩, ⟨ty192, trivial⟩⟩⟩, ⟨⟨⟨ty32, trivial⟩, ⟨ty160, trivial⟩⟩, ⟨⟨ty96, trivial⟩, ⟨ty224, trivial⟩⟩⟩⟩, ⟨⟨⟨⟨ty16, trivial⟩, ⟨ty144, trivial⟩⟩, ⟨⟨ty80, trivial⟩, ⟨ty208, trivial⟩⟩⟩, ⟨⟨⟨ty48, trivial⟩, ⟨ty176, trivial⟩⟩, ⟨ty112, trivial⟩⟩⟩⟩, ⟨⟨⟨⟨⟨⟨ty8, trivial⟩, ⟨ty264, trivial⟩⟩, ⟨ty136, trivial⟩⟩, ⟨⟨ty72, trivial⟩, ⟨ty200, trivial⟩⟩⟩, ⟨⟨⟨ty40, trivial⟩, ⟨ty168, trivial⟩⟩, ⟨⟨ty104, trivial⟩, ⟨ty232, trivial⟩⟩⟩⟩, ⟨⟨⟨⟨ty24, trivial⟩, ⟨ty152, trivial⟩⟩, ⟨⟨ty88, trivial⟩, ⟨ty216, trivial⟩⟩⟩, ⟨⟨⟨ty56, trivial⟩, ⟨ty184, trivial⟩⟩, ⟨⟨ty120, trivial⟩, ⟨ty248, trivial⟩⟩⟩⟩⟩⟩, ⟨⟨⟨⟨⟨⟨⟨ty4, trivial⟩, ⟨ty260, trivial⟩⟩, ⟨ty132, trivial⟩⟩, ⟨ty68, trivial⟩⟩, ⟨⟨⟨ty36, cm36⟩, ⟨ty164, trivial⟩⟩, ⟨⟨ty100, trivial⟩, ⟨ty228, trivial⟩⟩⟩⟩, ⟨⟨⟨⟨ty20, trivial⟩, ⟨ty148, trivial⟩⟩, ⟨⟨ty84, trivial⟩, ⟨ty212, trivial⟩⟩⟩, ⟨⟨ty52, trivial⟩, ⟨⟨ty116, cm116⟩, ⟨ty244, trivial⟩⟩⟩⟩⟩, ⟨⟨⟨⟨⟨⟨ty12, trivial⟩, ⟨ty268, trivial⟩⟩, ⟨ty140, trivial⟩⟩, ⟨⟨ty76, cm76⟩, ⟨ty204, trivial⟩⟩⟩, ⟨⟨⟨ty44, trivial⟩, ⟨ty172, trivial⟩⟩, ⟨⟨ty108, trivial⟩, ⟨ty236, trivial⟩⟩⟩⟩, ⟨⟨⟨⟨ty28, trivial⟩, ⟨ty156, trivial⟩⟩, ⟨⟨ty92, trivial⟩, ⟨ty220, trivial⟩⟩⟩, ⟨⟨ty60, trivial⟩, ⟨⟨ty124, trivial⟩, ⟨ty252, trivial⟩⟩⟩⟩⟩⟩⟩, ⟨⟨⟨⟨⟨⟨⟨⟨ty2, trivial⟩, ⟨ty258, trivial⟩⟩, ⟨ty130, trivial⟩⟩, ⟨⟨ty66, trivial⟩, ⟨ty194, trivial⟩⟩⟩, ⟨⟨⟨ty34, trivial⟩, ⟨ty162, trivial⟩⟩, ⟨⟨ty98, trivial⟩, ⟨ty226, trivial⟩⟩⟩⟩, ⟨⟨⟨⟨ty18, trivial⟩, ⟨ty146, trivial⟩⟩, ⟨⟨ty82, trivial⟩, ⟨ty210, trivial⟩⟩⟩, ⟨⟨⟨ty50, trivial⟩, ⟨ty178, trivial⟩⟩, ⟨⟨ty114, trivial⟩, ⟨ty242, trivial⟩⟩⟩⟩⟩, ⟨⟨⟨⟨⟨⟨ty10, trivial⟩, ⟨ty266, cm266⟩⟩, ⟨ty138, trivial⟩⟩, ⟨ty74, trivial⟩⟩, ⟨⟨⟨ty42, trivial⟩, ⟨ty170, trivial⟩⟩, ⟨⟨ty106, trivial⟩, ⟨ty234, trivial⟩⟩⟩⟩, ⟨⟨⟨⟨ty26, trivial⟩, ⟨ty154, trivial⟩⟩, ⟨⟨ty90, trivial⟩, ⟨ty218, trivial⟩⟩⟩, ⟨⟨⟨ty58, trivial⟩, ⟨ty186, trivial⟩⟩, ⟨⟨ty122, trivial⟩, ⟨ty250, trivial⟩⟩⟩⟩⟩⟩, ⟨⟨⟨⟨⟨⟨⟨ty6, trivial⟩, ⟨ty262, trivial⟩⟩, ⟨ty134, trivial⟩⟩, ⟨⟨ty70, trivial⟩, ⟨ty198, trivial⟩⟩⟩, ⟨⟨ty38, cm38⟩, ⟨⟨ty102, trivial⟩, ⟨ty230, trivial⟩⟩⟩⟩, ⟨⟨⟨⟨ty22, trivial⟩, ⟨ty150, trivial⟩⟩, ⟨ty214, trivial⟩⟩, ⟨⟨⟨ty54, trivial⟩, ⟨ty182, trivial⟩⟩, ⟨⟨ty118, trivial⟩, ⟨ty246, trivial⟩⟩⟩⟩⟩, ⟨⟨⟨⟨⟨ty14, trivial⟩, ⟨ty142, trivial⟩⟩, ⟨⟨ty78, trivial⟩, ⟨ty206, trivial⟩⟩⟩, ⟨⟨⟨ty46, cm46⟩, ⟨ty174, trivial⟩⟩, ⟨⟨ty110, trivial⟩, ⟨ty238, trivial⟩⟩⟩⟩, ⟨⟨⟨⟨ty30, trivial⟩, ⟨ty158, trivial⟩⟩, ⟨⟨ty94, trivial⟩, ⟨ty222, trivial⟩⟩⟩, ⟨⟨⟨ty62, trivial⟩, ⟨ty190, trivial⟩⟩, ⟨⟨ty126, trivial⟩, ⟨ty254, trivial⟩⟩⟩⟩⟩⟩⟩⟩, ⟨⟨⟨⟨⟨⟨⟨⟨⟨ty1, trivial⟩, ⟨ty257, trivial⟩⟩, ⟨ty129, cm129⟩⟩, ⟨⟨ty65, trivial⟩, ⟨ty193, trivial⟩⟩⟩, ⟨⟨⟨ty33, trivial⟩, ⟨ty161, trivial⟩⟩, ⟨⟨ty97, trivial⟩, ⟨ty225, trivial⟩⟩⟩⟩, ⟨⟨⟨⟨ty17, trivial⟩, ⟨ty145, trivial⟩⟩, ⟨ty81, trivial⟩⟩, ⟨⟨⟨ty49, trivial⟩, ⟨ty177, trivial⟩⟩, ⟨⟨ty113, trivial⟩, ⟨ty241, trivial⟩⟩⟩⟩⟩, ⟨⟨⟨⟨⟨⟨ty9, trivial⟩, ⟨ty265, trivial⟩⟩, ⟨ty137, trivial⟩⟩, ⟨⟨ty73, trivial⟩, ⟨ty201, trivial⟩⟩⟩, ⟨⟨⟨ty41, trivial⟩, ⟨ty169, trivial⟩⟩, ⟨⟨ty105, trivial⟩, ⟨ty233, trivial⟩⟩⟩⟩, ⟨⟨⟨⟨ty25, trivial⟩, ⟨ty153, trivial⟩⟩, ⟨⟨ty89, trivial⟩, ⟨ty217, trivial⟩⟩⟩, ⟨⟨⟨ty57, trivial⟩, ⟨ty185, trivial⟩⟩, ⟨⟨ty121, trivial⟩, ⟨ty249, trivial⟩⟩⟩⟩⟩⟩, ⟨⟨⟨⟨⟨⟨⟨ty5, trivial⟩, ⟨ty261, trivial⟩⟩, ⟨ty133, trivial⟩⟩, ⟨⟨ty69, trivial⟩, ⟨ty197, trivial⟩⟩⟩, ⟨⟨⟨ty37, trivial⟩, ⟨ty165, trivial⟩⟩, ⟨⟨ty101, trivial⟩, ⟨ty229, trivial⟩⟩⟩⟩, ⟨⟨⟨⟨ty21, trivial⟩, ⟨ty149, trivial⟩⟩, ⟨⟨ty85, trivial⟩, ⟨ty213, trivial⟩⟩⟩, ⟨⟨⟨ty53, trivial⟩, ⟨ty181, trivial⟩⟩, ⟨⟨ty117, trivial⟩, ⟨ty245, trivial⟩⟩⟩⟩⟩, ⟨⟨⟨⟨⟨ty13, trivial⟩, ⟨ty141, trivial⟩⟩, ⟨⟨ty77, trivial⟩, ⟨ty205, trivial⟩⟩⟩, ⟨⟨⟨ty45, trivial⟩, ⟨ty173, trivial⟩⟩, ⟨ty237, trivial⟩⟩⟩, ⟨⟨⟨⟨ty29, trivial⟩, ⟨ty157, trivial⟩⟩, ⟨⟨ty93, trivial⟩, ⟨ty221, trivial⟩⟩⟩, ⟨⟨⟨ty61, trivial⟩, ⟨ty189, trivial⟩⟩, ⟨ty253, trivial⟩⟩⟩⟩⟩⟩, ⟨⟨⟨⟨⟨⟨⟨⟨ty3, trivial⟩, ⟨ty259, trivial⟩⟩, ⟨ty131, trivial⟩⟩, ⟨⟨ty67, trivial⟩, ⟨ty195, trivial⟩⟩⟩, ⟨⟨⟨ty35, trivial⟩, ⟨ty163, trivial⟩⟩, ⟨⟨ty99, trivial⟩, ⟨ty227, trivial⟩⟩⟩⟩, ⟨⟨⟨⟨ty19, trivial⟩, ⟨ty147, trivial⟩⟩, ⟨ty211, trivial⟩⟩, ⟨⟨⟨ty51, trivial⟩, ⟨ty179, trivial⟩⟩, ⟨⟨ty115, trivial⟩, ⟨ty243, trivial⟩⟩⟩⟩⟩, ⟨⟨⟨⟨⟨⟨ty11, trivial⟩, ⟨ty267, trivial⟩⟩, ⟨ty139, trivial⟩⟩, ⟨⟨ty75, trivial⟩, ⟨ty203, trivial⟩⟩⟩, ⟨⟨⟨ty43, trivial⟩, ⟨ty171, trivial⟩⟩, ⟨⟨ty107, trivial⟩, ⟨ty235, trivial⟩⟩⟩⟩, ⟨⟨⟨⟨ty27, trivial⟩, ⟨ty155, trivial⟩⟩, ⟨⟨ty91, trivial⟩, ⟨ty219, trivial⟩⟩⟩, ⟨⟨ty187, trivial⟩, ⟨⟨ty123, trivial⟩, ⟨ty251, trivial⟩⟩⟩⟩⟩⟩, ⟨⟨⟨⟨⟨⟨⟨ty7, trivial⟩, ⟨ty263, trivial⟩⟩, ⟨ty135, trivial⟩⟩, ⟨⟨ty71, trivial⟩, ⟨ty199, trivial⟩⟩⟩, ⟨⟨⟨ty39, trivial⟩, ⟨ty167, trivial⟩⟩, ⟨⟨ty103, trivial⟩, ⟨ty231, trivial⟩⟩⟩⟩, ⟨⟨⟨⟨ty23, trivial⟩, ⟨ty151, trivial⟩⟩, ⟨⟨ty87, trivial⟩, ⟨ty215, trivial⟩⟩⟩, ⟨⟨⟨ty55, trivial⟩, ⟨ty183, trivial⟩⟩, ⟨⟨ty119, trivial⟩, ⟨ty247, trivial⟩⟩⟩⟩⟩, ⟨⟨⟨⟨⟨ty15, trivial⟩, ⟨ty143, trivial⟩⟩, ⟨⟨ty79, trivial⟩, ⟨ty207, trivial⟩⟩⟩, ⟨⟨⟨ty47, trivial⟩, ⟨ty175, trivial⟩⟩, ⟨⟨ty111, trivial⟩, ⟨ty239, trivial⟩⟩⟩⟩, ⟨⟨⟨⟨ty31, trivial⟩, ⟨ty159, trivial⟩⟩, ⟨⟨ty95, trivial⟩, ⟨ty223, trivial⟩⟩⟩, ⟨⟨⟨ty63, trivial⟩, ⟨ty191, trivial⟩⟩, ⟨⟨ty127, trivial⟩, ⟨ty255, trivial⟩⟩⟩⟩⟩⟩⟩⟩⟩
abbrev bo (b : Bool) : DV := .v (.bool b)
abbrev it (n : Int) : DV := .v (.int .i64 n)
abbrev ut (n : Int) : DV := .v (.int .u64 n)
structure Wd where
 hi : Int
 lo : Int
abbrev Wd.ar (w : Wd) : Ar := .agg [.d (it w.hi), .d (ut w.lo)]
def Wd.val (w : Wd) : Int := w.hi * 18446744073709551616 + w.lo
def Wd.ok (w : Wd) : Prop := (-9223372036854775808 <= w.hi /\ w.hi < 9223372036854775808) /\ 0 <= w.lo /\ w.lo < 18446744073709551616
def wd (v : Int) : Wd := ⟨(v / 18446744073709551616 + 9223372036854775808) % 18446744073709551616 - 9223372036854775808, v % 18446744073709551616⟩
theorem wd_ok (v : Int) : (wd v).ok := by unfold Wd.ok wd; dsimp only; omega
theorem wd_val {v : Int} (h0 : -170141183460469231731687303715884105728 <= v) (h1 : v < 170141183460469231731687303715884105728) : (wd v).val = v := by unfold Wd.val wd; dsimp only; omega
theorem wU (n : Int) : IntKind.wrap .u64 n = n % 18446744073709551616 := by simp [IntKind.wrap, IntKind.signed, IntKind.bits]
theorem wI (n : Int) : IntKind.wrap .i64 n = (n + 9223372036854775808) % 18446744073709551616 - 9223372036854775808 := by
 simp [IntKind.wrap, IntKind.signed, IntKind.bits]
 split <;> omega
theorem wI_id (n : Int) (h0 : -9223372036854775808 <= n) (h1 : n < 9223372036854775808) : IntKind.wrap .i64 n = n := by rw [wI]; omega
theorem wU_id (n : Int) (h0 : 0 <= n) (h1 : n < 18446744073709551616) : IntKind.wrap .u64 n = n := by rw [wU]; omega
def wIntV (v : Int) : Int := if -9223372036854775808 <= v /\ v < 9223372036854775808 then v else 0
def wIntB (v : Int) : Bool := decide (-9223372036854775808 <= v /\ v < 9223372036854775808)
def FAdd64 : List Ar -> Option Rs
 | [.c (.d (.v (.int .u64 x))), .c (.d (.v (.int .u64 y))), .c (.d (.v (.int .u64 c)))] => some ⟨(0 <= x /\ 0 <= y) /\ 0 <= c /\ c <= 1, .tup [.c (.d (ut ((x + y + c) % 18446744073709551616))), .c (.d (ut ((x + y + c) / 18446744073709551616)))], []⟩
 | _ => none
theorem fcAdd64 : FC Tryz.prog 174 FAdd64 := by
 refine fc_stand fun xs pre r us h hp => ?_
 unfold FAdd64 at h
 split at h
 . rename_i x y c
   cases h
   refine ⟨[.int .u64 x, .int .u64 y, .int .u64 c], .tuple #[.int .u64 ((x + y + c) % 18446744073709551616), .int .u64 ((x + y + c) / 18446744073709551616)], rfl, rfl, fun w => ?_, fun S w => ⟨_, rfl, [], [], rfl, ⟨.v trivial, trivial⟩, [], [], rfl, ⟨.v trivial, trivial⟩, rfl⟩⟩
   rw [run_callFunc_extern Tryz.func174 (by kernel_rfl) (by kernel_rfl) (by kernel_rfl) (e := add64Entry) (by kernel_rfl), run_add64 x y c hp.1.1 hp.1.2 hp.2.1 hp.2.2]
   rfl
 . cases h
def FSub64 : List Ar -> Option Rs
 | [.c (.d (.v (.int .u64 x))), .c (.d (.v (.int .u64 y))), .c (.d (.v (.int .u64 c)))] => some ⟨((0 <= x /\ x < 18446744073709551616) /\ 0 <= y /\ y < 18446744073709551616) /\ 0 <= c /\ c <= 1, .tup [.c (.d (ut ((x - y - c) % 18446744073709551616))), .c (.d (ut (if x < y + c then 1 else 0)))], []⟩
 | _ => none
theorem run_sub (x y b : Nat) (hb : b <= 1) (w : World) : ((Extern.MathBitsCarry.rows[1]'(by decide)).2 #[.int .u64 x, .int .u64 y, .int .u64 b]).run Tryz.prog w =
 .ok (.tuple #[.int .u64 (((x + Extern.MathBitsCarry.m64 - y - b) % Extern.MathBitsCarry.m64 : Nat) : Int), .int .u64 ((if x < y + b then 1 else 0 : Nat) : Int)]) w := by
 have : b = 0 \/ b = 1 := by omega
 rcases this with rfl | rfl <;> rfl
theorem fcSub64 : FC Tryz.prog 171 FSub64 := by
 refine fc_stand fun xs pre r us h hp => ?_
 unfold FSub64 at h
 split at h
 . rename_i x y c
   cases h
   refine ⟨[.int .u64 x, .int .u64 y, .int .u64 c], .tuple #[.int .u64 ((x - y - c) % 18446744073709551616), .int .u64 (if x < y + c then 1 else 0)], rfl, rfl, fun w => ?_, fun S w => ⟨_, rfl, [], [], rfl, ⟨.v trivial, trivial⟩, [], [], rfl, ⟨.v trivial, trivial⟩, rfl⟩⟩
   obtain ⟨x, rfl⟩ := Int.eq_ofNat_of_zero_le hp.1.1.1
   obtain ⟨y, rfl⟩ := Int.eq_ofNat_of_zero_le hp.1.2.1
   obtain ⟨c, rfl⟩ := Int.eq_ofNat_of_zero_le hp.2.1
   rw [run_callFunc_extern Tryz.func171 (by kernel_rfl) (by kernel_rfl) (by kernel_rfl) (e := (Extern.MathBitsCarry.rows[1]'(by decide)).2) (by kernel_rfl)]
   have := run_sub x y c (by have := hp.2.2; omega) w
   rw [this]
   simp only [Result.andThen_ok, Extern.MathBitsCarry.m64]
   have h1 := hp.1.1.2
   have h2 := hp.1.2.2
   have h3 := hp.2.2
   have e1 : (((x + 2 ^ 64 - y - c) % 2 ^ 64 : Nat) : Int) = ((x : Int) - y - c) % 18446744073709551616 := by omega
   have e2 : ((if x < y + c then 1 else 0 : Nat) : Int) = if (x : Int) < (y : Int) + (c : Int) then 1 else 0 := by split <;> split <;> omega
   rw [e1, e2]
 . cases h
theorem shr63 (n : Int) : n.fdiv (2 ^ min (Int.toNat 63) IntKind.i64.bits) = n / 9223372036854775808 := by
 have e : (2 ^ min (Int.toNat 63) IntKind.i64.bits : Int) = 9223372036854775808 := by decide
 rw [e, Int.fdiv_eq_ediv_of_nonneg _ (by decide)]
def FWOf : List Ar -> Option Rs
 | [.c (.d (.v (.int .i64 i0)))] => some ⟨(-9223372036854775808 <= i0 /\ i0 < 9223372036854775808), .va (Wd.ar (wd i0)), []⟩
 | _ => none
theorem fcWOf : FC Tryz.prog 138 FWOf := by
 intro xs pre r us h hp
 unfold FWOf at h
 split at h
 . rename_i i0
   cases h
   have hp0 := hp
   refine fcat tys_ok (l := []) trivial Tryz.func138 rfl (by kernel_rfl) false ?_
   repeat' (first | exact trivial | refine ⟨?_, ?_⟩ | intro _)
   all_goals first | (with_reducible apply qq) | (conv => whnf)
   all_goals (try (refine congrArg Value.bool (Bool.eq_iff_iff.2 ?_)); try simp only [Bool.not_eq_true', Bool.not_eq_false', Bool.and_eq_true, Bool.or_eq_true, Bool.and_eq_false_imp, Bool.or_eq_false_iff, beq_iff_eq, beq_eq_false_iff_ne, ne_eq, decide_eq_true_eq, decide_eq_false_iff_not, Bool.true_eq_false, Bool.false_eq_true, true_and, and_true, false_and, and_false, imp_false, Value.int.injEq, true_iff, false_iff, iff_true, iff_false, iff_self])
   all_goals (try simp only [wU, wI, shr63, wd, Wd.val, Wd.ok, Bool.not_eq_true', Bool.not_eq_false', Bool.and_eq_true, Bool.or_eq_true, Bool.and_eq_false_imp, Bool.or_eq_false_iff, beq_iff_eq, beq_eq_false_iff_ne, ne_eq, decide_eq_true_eq, decide_eq_false_iff_not, Bool.true_eq_false, Bool.false_eq_true, true_and, and_true, false_and, and_false, imp_false, Value.int.injEq] at *)
   all_goals first | omega | (split <;> omega) | (split <;> split <;> omega)
 . cases h
def FWAdd : List Ar -> Option Rs
 | [.agg [.d (.v (.int .i64 h0)), .d (.v (.int .u64 l0))], .agg [.d (.v (.int .i64 h1)), .d (.v (.int .u64 l1))]] => some ⟨(Wd.ok ⟨h0, l0⟩) /\ (Wd.ok ⟨h1, l1⟩), .va (Wd.ar (wd (Wd.val (⟨h0, l0⟩ : Wd) + Wd.val (⟨h1, l1⟩ : Wd)))), []⟩
 | _ => none
theorem fcWAdd : FC Tryz.prog 146 FWAdd := by
 intro xs pre r us h hp
 unfold FWAdd at h
 split at h
 . rename_i h0 l0 h1 l1
   cases h
   obtain ⟨hp0, hp1⟩ := hp
   refine fcat tys_ok (l := [(174, ⟨[], FAdd64⟩)]) ⟨fcAdd64, trivial⟩ Tryz.func146 rfl (by kernel_rfl) false ?_
   repeat' (first | exact trivial | refine ⟨?_, ?_⟩ | intro _)
   all_goals first | (with_reducible apply qq) | (conv => whnf)
   all_goals (try (refine congrArg Value.bool (Bool.eq_iff_iff.2 ?_)); try simp only [Bool.not_eq_true', Bool.not_eq_false', Bool.and_eq_true, Bool.or_eq_true, Bool.and_eq_false_imp, Bool.or_eq_false_iff, beq_iff_eq, beq_eq_false_iff_ne, ne_eq, decide_eq_true_eq, decide_eq_false_iff_not, Bool.true_eq_false, Bool.false_eq_true, true_and, and_true, false_and, and_false, imp_false, Value.int.injEq, true_iff, false_iff, iff_true, iff_false, iff_self])
   all_goals (try simp only [wU, wI, shr63, wd, Wd.val, Wd.ok, Bool.not_eq_true', Bool.not_eq_false', Bool.and_eq_true, Bool.or_eq_true, Bool.and_eq_false_imp, Bool.or_eq_false_iff, beq_iff_eq, beq_eq_false_iff_ne, ne_eq, decide_eq_true_eq, decide_eq_false_iff_not, Bool.true_eq_false, Bool.false_eq_true, true_and, and_true, false_and, and_false, imp_false, Value.int.injEq] at *)
   all_goals first | omega | (split <;> omega) | (split <;> split <;> omega)
 . cases h
def FWSub : List Ar -> Option Rs
 | [.agg [.d (.v (.int .i64 h0)), .d (.v (.int .u64 l0))], .agg [.d (.v (.int .i64 h1)), .d (.v (.int .u64 l1))]] => some ⟨(Wd.ok ⟨h0, l0⟩) /\ (Wd.ok ⟨h1, l1⟩), .va (Wd.ar (wd (Wd.val (⟨h0, l0⟩ : Wd) - Wd.val (⟨h1, l1⟩ : Wd)))), []⟩
 | _ => none
theorem fcWSub : FC Tryz.prog 137 FWSub := by
 intro xs pre r us h hp
 unfold FWSub at h
 split at h
 . rename_i h0 l0 h1 l1
   cases h
   obtain ⟨hp0, hp1⟩ := hp
   refine fcat tys_ok (l := [(171, ⟨[], FSub64⟩)]) ⟨fcSub64, trivial⟩ Tryz.func137 rfl (by kernel_rfl) false ?_
   repeat' (first | exact trivial | refine ⟨?_, ?_⟩ | intro _)
   all_goals first | (with_reducible apply qq) | (conv => whnf)
   all_goals (try (refine congrArg Value.bool (Bool.eq_iff_iff.2 ?_)); try simp only [Bool.not_eq_true', Bool.not_eq_false', Bool.and_eq_true, Bool.or_eq_true, Bool.and_eq_false_imp, Bool.or_eq_false_iff, beq_iff_eq, beq_eq_false_iff_ne, ne_eq, decide_eq_true_eq, decide_eq_false_iff_not, Bool.true_eq_false, Bool.false_eq_true, true_and, and_true, false_and, and_false, imp_false, Value.int.injEq, true_iff, false_iff, iff_true, iff_false, iff_self])
   all_goals (try simp only [wU, wI, shr63, wd, Wd.val, Wd.ok, Bool.not_eq_true', Bool.not_eq_false', Bool.and_eq_true, Bool.or_eq_true, Bool.and_eq_false_imp, Bool.or_eq_false_iff, beq_iff_eq, beq_eq_false_iff_ne, ne_eq, decide_eq_true_eq, decide_eq_false_iff_not, Bool.true_eq_false, Bool.false_eq_true, true_and, and_true, false_and, and_false, imp_false, Value.int.injEq] at *)
   all_goals first | omega | (split <;> omega) | (split <;> split <;> omega)
 . cases h
def FWLow : List Ar -> Option Rs
 | [.agg [.d (.v (.int .i64 h0)), .d (.v (.int .u64 l0))]] => some ⟨(Wd.ok ⟨h0, l0⟩), .va (.c (.d (it ((Wd.val (⟨h0, l0⟩ : Wd) + 9223372036854775808) % 18446744073709551616 - 9223372036854775808)))), []⟩
 | _ => none
theorem fcWLow : FC Tryz.prog 141 FWLow := by
 intro xs pre r us h hp
 unfold FWLow at h
 split at h
 . rename_i h0 l0
   cases h
   have hp0 := hp
   refine fcat tys_ok (l := []) trivial Tryz.func141 rfl (by kernel_rfl) false ?_
   repeat' (first | exact trivial | refine ⟨?_, ?_⟩ | intro _)
   all_goals first | (with_reducible apply qq) | (conv => whnf)
   all_goals (try (refine congrArg Value.bool (Bool.eq_iff_iff.2 ?_)); try simp only [Bool.not_eq_true', Bool.not_eq_false', Bool.and_eq_true, Bool.or_eq_true, Bool.and_eq_false_imp, Bool.or_eq_false_iff, beq_iff_eq, beq_eq_false_iff_ne, ne_eq, decide_eq_true_eq, decide_eq_false_iff_not, Bool.true_eq_false, Bool.false_eq_true, true_and, and_true, false_and, and_false, imp_false, Value.int.injEq, true_iff, false_iff, iff_true, iff_false, iff_self])
   all_goals (try simp only [wU, wI, shr63, wd, Wd.val, Wd.ok, Bool.not_eq_true', Bool.not_eq_false', Bool.and_eq_true, Bool.or_eq_true, Bool.and_eq_false_imp, Bool.or_eq_false_iff, beq_iff_eq, beq_eq_false_iff_ne, ne_eq, decide_eq_true_eq, decide_eq_false_iff_not, Bool.true_eq_false, Bool.false_eq_true, true_and, and_true, false_and, and_false, imp_false, Value.int.injEq] at *)
   all_goals first | omega | (split <;> omega) | (split <;> split <;> omega)
 . cases h
def FWInt : List Ar -> Option Rs
 | [.agg [.d (.v (.int .i64 h0)), .d (.v (.int .u64 l0))]] => some ⟨(Wd.ok ⟨h0, l0⟩), .tup [.c (.d (it (wIntV (Wd.val (⟨h0, l0⟩ : Wd))))), .c (.d (bo (wIntB (Wd.val (⟨h0, l0⟩ : Wd)))))], []⟩
 | _ => none
theorem fcWInt : FC Tryz.prog 99 FWInt := by
 intro xs pre r us h hp
 unfold FWInt at h
 split at h
 . rename_i h0 l0
   cases h
   have hp0 := hp
   refine fcat tys_ok (l := [(138, ⟨[], FWOf⟩), (141, ⟨[], FWLow⟩)]) ⟨fcWOf, fcWLow, trivial⟩ Tryz.func99 rfl (by kernel_rfl) false ?_
   repeat' (first | exact trivial | refine ⟨?_, ?_⟩ | intro _)
   all_goals first | (with_reducible apply qq) | (conv => whnf)
   all_goals (try (refine congrArg Value.bool (Bool.eq_iff_iff.2 ?_)); try simp only [wIntV, wIntB, Bool.not_eq_true', Bool.not_eq_false', Bool.and_eq_true, Bool.or_eq_true, Bool.and_eq_false_imp, Bool.or_eq_false_iff, beq_iff_eq, beq_eq_false_iff_ne, ne_eq, decide_eq_true_eq, decide_eq_false_iff_not, Bool.true_eq_false, Bool.false_eq_true, true_and, and_true, false_and, and_false, imp_false, Value.int.injEq, true_iff, false_iff, iff_true, iff_false, iff_self])
   all_goals (try simp only [wU, wI, shr63, wd, Wd.val, Wd.ok, wIntV, wIntB, Bool.not_eq_true', Bool.not_eq_false', Bool.and_eq_true, Bool.or_eq_true, Bool.and_eq_false_imp, Bool.or_eq_false_iff, beq_iff_eq, beq_eq_false_iff_ne, ne_eq, decide_eq_true_eq, decide_eq_false_iff_not, Bool.true_eq_false, Bool.false_eq_true, true_and, and_true, false_and, and_false, imp_false, Value.int.injEq] at *)
   all_goals first | omega | (split <;> omega) | (split <;> split <;> omega)
 . cases h
abbrev st (s : ByteArray) : DV := .v (.string s)
def gT : List DV -> ByteArray
 | [.v (.string s)] => s
 | _ => ByteArray.empty
def gN (n : Nat) (f : Nat -> List DV) : List ByteArray := (List.range n).map fun i => gT (f i)
def atS (l : List ByteArray) (i : Nat) : ByteArray := l.getD i ByteArray.empty
abbrev lst (l : List ByteArray) : DV := .lst 1 l.length fun i => [st (atS l i)]
structure Ns where
 null : Bool
 names : List ByteArray
abbrev Ns.ar (s : Ns) : Ar := .agg [.d (bo s.null), .d (lst s.names)]
theorem gN_add (i : Nat) (f : Nat -> List DV) : gN (i + 1) f = gN i f ++ [gT (f i)] := by simp [gN, List.range_succ]
theorem gN_length (n : Nat) (f : Nat -> List DV) : (gN n f).length = n := by simp [gN]
theorem gN_canon (n : Nat) (f : Nat -> List DV) : (gN n fun i => [st (gT (f i))]) = gN n f := rfl
theorem gN_lst (l : List ByteArray) : gN l.length (fun i => [st (atS l i)]) = l := by
 unfold gN atS
 apply List.ext_getElem
 . simp
 . intro i h1 h2; simp [gT, h2]
def slt (a b : ByteArray) : Bool := Op.bytesLess a.toList b.toList
def sle (a b : ByteArray) : Bool := Op.bytesLess a.toList b.toList || a.toList == b.toList
def seq (a b : ByteArray) : Bool := a.toList == b.toList
def stepP (x : ByteArray) (s : List ByteArray × Bool) (y : ByteArray) : List ByteArray × Bool :=
 if !s.2 && sle x y then (if slt x y then s.1 ++ [x] ++ [y] else s.1 ++ [y], true) else (s.1 ++ [y], s.2)
def putS (l : List ByteArray) (x : ByteArray) : List ByteArray :=
 if (l.foldl (stepP x) ([], false)).2 then (l.foldl (stepP x) ([], false)).1 else (l.foldl (stepP x) ([], false)).1 ++ [x]
theorem stepP_len (x : ByteArray) (n : Nat) (f : Nat -> List DV) : ((gN n f).foldl (stepP x) ([], false)).1.length <= n + 1 /\ (((gN n f).foldl (stepP x) ([], false)).2 = false -> ((gN n f).foldl (stepP x) ([], false)).1.length = n) := by
 induction n with
 | zero => simp [gN]
 | succ n ih =>
   rw [gN_add, List.foldl_append, List.foldl_cons, List.foldl_nil]
   generalize (gN n f).foldl (stepP x) ([], false) = s at ih
   obtain ⟨out, b⟩ := s
   unfold stepP
   cases b <;> cases sle x (gT (f n)) <;> cases slt x (gT (f n)) <;> simp at ih ⊢ <;> omega
theorem stepP_in {x y : ByteArray} {out : List ByteArray} : stepP x (out, true) y = (out ++ [y], true) := rfl
theorem stepP_lt {x y : ByteArray} {out : List ByteArray} (h1 : sle x y = true) (h2 : slt x y = true) : stepP x (out, false) y = (out ++ [x] ++ [y], true) := by unfold stepP; simp [h1, h2]
theorem stepP_eq {x y : ByteArray} {out : List ByteArray} (h1 : sle x y = true) (h2 : slt x y = false) : stepP x (out, false) y = (out ++ [y], true) := by unfold stepP; simp [h1, h2]
theorem stepP_gt {x y : ByteArray} {out : List ByteArray} (h1 : sle x y = false) : stepP x (out, false) y = (out ++ [y], false) := by unfold stepP; simp [h1]
theorem appRow_snoc {l : List ByteArray} {n : Nat} (hn : l.length = n) {F g : Nat -> List DV} {y : ByteArray} (hF : ∀ j, j < n -> F j = [st (atS l j)]) (hg : g 0 = [st y]) (i : Nat) (hi : i < n + 1) : appRow n F g i = [st (atS (l ++ [y]) i)] := by
 unfold appRow
 by_cases h : i < n
 . rw [if_pos h, hF i h]; simp [atS, List.getD_eq_getElem?_getD, List.getElem?_append_left (show i < l.length by omega)]
 . have : i = n := by omega
   subst this
   subst hn
   rw [if_neg (by omega), Nat.sub_self, hg]; simp [atS]
def FRPut : List Ar -> Option Rs
 | [.c (.d (.lst 1 n0 f0)), .c (.d (.v (.string x1)))] => some ⟨(n0 * 16 <= 140737488351232 /\ ∀ i, i < n0 -> f0 i = [st (gT (f0 i))]), .va (.c (.d (lst (putS (gN n0 f0) x1)))), []⟩
 | _ => none
theorem fcRPut : FC Tryz.prog 103 FRPut := by
 intro xs pre r us h hp
 unfold FRPut at h
 split at h
 . rename_i n0 f0 x1
   cases h
   have hp0 := hp
   refine FCat.of_eq (as' := [.c (.d (.lst 1 n0 fun i => [st (gT (f0 i))])), .c (.d (.v (.string x1)))]) ?_ rfl rfl ?_
   . repeat' (first | exact trivial | exact rfl | refine ⟨?_, ?_⟩ | fail)
     all_goals first | exact hp0.2 | exact hp1.2 | exact hp2.2 | (intro i hi; exact (hp0.2 i hi).1) | (intro i hi; exact (hp1.2 i hi).1) | (intro i hi; exact (hp2.2 i hi).1) | grind
   refine fcat tys_ok (l := []) trivial Tryz.func103 rfl (by kernel_rfl) true ?_
   repeat' (first | exact trivial | refine ⟨?_, ?_⟩ | intro _)
   all_goals first | (with_reducible apply qq) | (conv => whnf)
   refine loop_ids tys_ok (l := []) trivial (by kernel_rfl) (X := Nat × List ByteArray × Bool)
    (fun x => ⟨[(7, vx (.int .i64 x.1)), (6, vx (.bool x.2.2)), (5, .va (.c (.osl 0 1 0 x.2.1.length))), (0, .va (.c (.d (.lst 1 n0 fun i => [st (gT (f0 i))])))), (1, vx (.string x1))], [(0, .row 1 x.2.1.length fun j => [st (atS x.2.1 j)])], 1, 48⟩)
    (fun x => n0 - x.1) (fun x => x.1 <= n0 /\ x.2 = (gN x.1 f0).foldl (stepP x1) ([], false)) [5] []
    (fun x _ _ => (x.1 + 1, stepP x1 x.2 (gT (f0 x.1)))) (fun xs => match xs with | [t] => [oI t] | _ => []) [] 0 1 (0, [], false) ?_ ?_ ?_
   . exact ⟨Nat.zero_le _, rfl⟩
   . repeat' (first | exact trivial | exact rfl | (intro _ h; exact absurd h (Nat.not_lt_zero _)) | (intro _ _; exact rfl) | refine ⟨?_, ?_⟩ | fail)
     all_goals simp
   . rintro ⟨i, out, _ | _⟩ ⟨k1, k2⟩
     all_goals (have k3 := stepP_len x1 i f0; rw [<- k2] at k3; dsimp only at k1 k2 k3)
     . have kE : i = n0 -> putS (gN n0 f0) x1 = out ++ [x1] := fun e => by subst e; unfold putS; rw [<- k2]; rfl
       repeat' (first | exact trivial | refine ⟨?_, ?_⟩ | intro _)
       all_goals first | (with_reducible apply qq) | (conv => whnf)
       all_goals (try simp only [Int.toNat_natCast, decide_eq_true_eq, decide_eq_false_iff_not] at *)
       all_goals first | (exact absurd ‹(!true) = true› (by decide)) | (exact absurd ‹(!false) = false› (by decide)) | omega | ((with_reducible show idsOk _ _ = true); rfl) | ((with_reducible show stepP _ _ _ = List.foldl _ _ _); rw [gN_add, List.foldl_append, <- k2]; rfl) | ((with_reducible show Value.int _ _ = Value.int _ _); rw [wI_id _ (by omega) (by omega)]; rfl) | skip
       all_goals first | (have E := stepP_lt (x := x1) (y := gT (f0 i)) (out := out) (by assumption) (by assumption); rw [E]) | (have E := stepP_eq (x := x1) (y := gT (f0 i)) (out := out) (by assumption) (by assumption); rw [E]) | (have E := stepP_gt (x := x1) (y := gT (f0 i)) (out := out) (by assumption); rw [E]) | (rw [stepP_in]) | (rw [kE (by omega)]) | skip
       all_goals (try rw [Nat.zero_add])
       all_goals first | rfl | (simp; done) | (exact appRow_snoc rfl (fun _ _ => rfl) rfl _ (by assumption)) | (exact appRow_snoc (l := out ++ [x1]) (by simp) (fun j hj => appRow_snoc rfl (fun _ _ => rfl) rfl j hj) rfl _ (by assumption))
     . have kE : i = n0 -> putS (gN n0 f0) x1 = out := fun e => by subst e; unfold putS; rw [<- k2]; rfl
       repeat' (first | exact trivial | refine ⟨?_, ?_⟩ | intro _)
       all_goals first | (with_reducible apply qq) | (conv => whnf)
       all_goals (try simp only [Int.toNat_natCast, decide_eq_true_eq, decide_eq_false_iff_not] at *)
       all_goals first | (exact absurd ‹(!true) = true› (by decide)) | (exact absurd ‹(!false) = false› (by decide)) | omega | ((with_reducible show idsOk _ _ = true); rfl) | ((with_reducible show stepP _ _ _ = List.foldl _ _ _); rw [gN_add, List.foldl_append, <- k2]; rfl) | ((with_reducible show Value.int _ _ = Value.int _ _); rw [wI_id _ (by omega) (by omega)]; rfl) | skip
       all_goals first | (have E := stepP_lt (x := x1) (y := gT (f0 i)) (out := out) (by assumption) (by assumption); rw [E]) | (have E := stepP_eq (x := x1) (y := gT (f0 i)) (out := out) (by assumption) (by assumption); rw [E]) | (have E := stepP_gt (x := x1) (y := gT (f0 i)) (out := out) (by assumption); rw [E]) | (rw [stepP_in]) | (rw [kE (by omega)]) | skip
       all_goals (try rw [Nat.zero_add])
       all_goals first | rfl | (simp; done) | (exact appRow_snoc rfl (fun _ _ => rfl) rfl _ (by assumption)) | (exact appRow_snoc (l := out ++ [x1]) (by simp) (fun j hj => appRow_snoc rfl (fun _ _ => rfl) rfl j hj) rfl _ (by assumption))
 . cases h
def cleanS (l : List ByteArray) : List ByteArray := l.foldl putS []
theorem putS_len (l : List ByteArray) (x : ByteArray) : (putS l x).length <= l.length + 1 := by
 have := stepP_len x l.length (fun i => [st (atS l i)])
 rw [gN_lst] at this
 unfold putS
 split
 . omega
 . rename_i h
   have := this.2 (by simpa using h)
   simp [this]
theorem cleanS_len (n : Nat) (f : Nat -> List DV) : ((gN n f).foldl putS []).length <= n := by
 induction n with
 | zero => simp [gN]
 | succ n ih =>
   rw [gN_add, List.foldl_append, List.foldl_cons, List.foldl_nil]
   have := putS_len ((gN n f).foldl putS []) (gT (f n))
   omega
theorem seq_iff (a b : ByteArray) : (a.toList == b.toList) = decide (a = b) := by
 rw [ByteArray.toList_eq, ByteArray.toList_eq]
 rw [Bool.eq_iff_iff]
 simp only [beq_iff_eq, decide_eq_true_eq]
 constructor
 . intro h
   have : a.data = b.data := Array.ext' h
   cases a; cases b; simp_all
 . rintro rfl; rfl
theorem gN_eq {n m : Nat} {f g : Nat -> List DV} : gN n f = gN m g ↔ n = m /\ ∀ j, j < n -> gT (f j) = gT (g j) := by
 constructor
 . intro h
   have h1 := congrArg List.length h
   rw [gN_length, gN_length] at h1
   subst h1
   refine ⟨rfl, fun j hj => ?_⟩
   have := congrArg (fun l => l[j]?) h
   simpa [gN, hj] using this
 . rintro ⟨rfl, h⟩
   unfold gN
   exact List.map_congr_left fun j hj => h j (by simpa using hj)
theorem exact_no {b0 b1 : Bool} {n m : Nat} {f g : Nat -> List DV} (h : ¬ (n = m /\ ∀ j, j < n -> gT (f j) = gT (g j))) : Value.bool false = Value.bool (b0 == b1 && decide (gN n f = gN m g)) := by
 rw [decide_eq_false (by rw [gN_eq]; exact h)]; simp
theorem exact_b {b0 b1 : Bool} {p : Bool} (h : (!b0 == b1) = true) : Value.bool false = Value.bool (b0 == b1 && p) := by
 cases b0 <;> cases b1 <;> simp_all
theorem exact_yes {b0 b1 : Bool} {n m : Nat} {f g : Nat -> List DV} (hb : (!b0 == b1) = false) (h : n = m /\ ∀ j, j < n -> gT (f j) = gT (g j)) : Value.bool true = Value.bool (b0 == b1 && decide (gN n f = gN m g)) := by
 rw [decide_eq_true (by rw [gN_eq]; exact h)]; cases b0 <;> cases b1 <;> simp_all
theorem exact_n {b0 b1 : Bool} {n m : Nat} {f g : Nat -> List DV} (h : ((n : Int) != (m : Int)) = true) : Value.bool false = Value.bool (b0 == b1 && decide (gN n f = gN m g)) :=
 exact_no (fun e => by rw [e.1] at h; simp at h)
theorem exact_at {b0 b1 : Bool} {n m i : Nat} {f g : Nat -> List DV} (h : (!decide (gT (f i) = gT (g i))) = true) (hi : i < n) : Value.bool false = Value.bool (b0 == b1 && decide (gN n f = gN m g)) :=
 exact_no (fun e => by rw [e.2 i hi] at h; simp at h)
theorem below_step {i : Nat} {f g : Nat -> List DV} (k : ∀ j, j < i -> gT (f j) = gT (g j)) (h : (!decide (gT (f i) = gT (g i))) = false) (j : Nat) (hj : j < i + 1) : gT (f j) = gT (g j) := by
 rcases Nat.lt_or_ge j i with h1 | h1
 . exact k j h1
 . have : j = i := by omega
   subst this
   simpa using h
theorem gN_mem {n : Nat} {f : Nat -> List DV} {x : ByteArray} : x ∈ gN n f ↔ ∃ i, i < n /\ gT (f i) = x := by simp [gN]
def FRClean : List Ar -> Option Rs
 | [.agg [.d (.v (.bool b0)), .d (.lst 1 n0 f0)]] => some ⟨(n0 * 16 <= 140737488351232 /\ ∀ i, i < n0 -> f0 i = [st (gT (f0 i))]), .va (Ns.ar (⟨b0, cleanS (Ns.names (⟨b0, gN n0 f0⟩ : Ns))⟩)), []⟩
 | _ => none
theorem fcRClean : FC Tryz.prog 69 FRClean := by
 intro xs pre r us h hp
 unfold FRClean at h
 split at h
 . rename_i b0 n0 f0
   cases h
   have hp0 := hp
   refine FCat.of_eq (as' := [.agg [.d (.v (.bool b0)), .d (.lst 1 n0 fun i => [st (gT (f0 i))])]]) ?_ rfl rfl ?_
   . repeat' (first | exact trivial | exact rfl | refine ⟨?_, ?_⟩ | fail)
     all_goals first | exact hp0.2 | exact hp1.2 | exact hp2.2 | (intro i hi; exact (hp0.2 i hi).1) | (intro i hi; exact (hp1.2 i hi).1) | (intro i hi; exact (hp2.2 i hi).1) | grind
   refine fcat tys_ok (l := [(103, ⟨[], FRPut⟩)]) ⟨fcRPut, trivial⟩ Tryz.func69 rfl (by kernel_rfl) true ?_
   repeat' (first | exact trivial | refine ⟨?_, ?_⟩ | intro _)
   all_goals first | (with_reducible apply qq) | (conv => whnf)
   refine loop_ids tys_ok (l := [(103, ⟨[], FRPut⟩)]) ⟨fcRPut, trivial⟩ (by kernel_rfl) (X := Nat × List ByteArray)
    (fun x => ⟨[(4, vx (.int .i64 x.1)), (3, .va (.c (.d (lst x.2)))), (1, .va (.c (.own 0 0))), (2, .va (.c (.own 1 0)))], [(0, .cells [.d (bo b0), .d (.lst 1 n0 fun i => [st (gT (f0 i))])]), (1, .cells [.d (bo false), .d (.v (.slice none 0 0))])], 2, 23⟩)
    (fun x => n0 - x.1) (fun x => x.1 <= n0 /\ x.2 = (gN x.1 f0).foldl putS []) [] []
    (fun x _ _ => (x.1 + 1, putS x.2 (gT (f0 x.1)))) (fun _ => [0, 1]) [0, 1] 0 0 (0, []) ?_ ?_ ?_
   . exact ⟨Nat.zero_le _, rfl⟩
   . repeat' (first | exact trivial | exact rfl | (intro _ h; exact absurd h (Nat.not_lt_zero _)) | (intro _ _; exact rfl) | refine ⟨?_, ?_⟩ | fail)
   . rintro ⟨i, l⟩ ⟨k1, k2⟩
     dsimp only at k1 k2
     have k3 := cleanS_len i f0
     rw [<- k2] at k3
     have kE : i = n0 -> cleanS (gN n0 f0) = l := fun e => by subst e; exact k2.symm
     repeat' (first | exact trivial | refine ⟨?_, ?_⟩ | intro _)
     all_goals first | (with_reducible apply qq) | (conv => whnf)
     all_goals (try simp only [Int.toNat_natCast, decide_eq_true_eq, decide_eq_false_iff_not, gN_lst] at *)
     all_goals first | omega | ((with_reducible show idsOk _ _ = true); rfl) | ((with_reducible show putS _ _ = List.foldl _ _ _); rw [gN_add, List.foldl_append, <- k2]; rfl) | ((with_reducible show Value.int _ _ = Value.int _ _); rw [wI_id _ (by omega) (by omega)]; rfl) | (rw [kE (by omega)]) | rfl
 . cases h
def FRExact : List Ar -> Option Rs
 | [.agg [.d (.v (.bool b0)), .d (.lst 1 n0 f0)], .agg [.d (.v (.bool b1)), .d (.lst 1 n1 f1)]] => some ⟨(n0 * 16 <= 140737488351232 /\ ∀ i, i < n0 -> f0 i = [st (gT (f0 i))]) /\ (n1 * 16 <= 140737488351232 /\ ∀ i, i < n1 -> f1 i = [st (gT (f1 i))]), .va (.c (.d (bo (b0 == b1 && decide (gN n0 f0 = gN n1 f1))))), []⟩
 | _ => none
theorem fcRExact : FC Tryz.prog 24 FRExact := by
 intro xs pre r us h hp
 unfold FRExact at h
 split at h
 . rename_i b0 n0 f0 b1 n1 f1
   cases h
   obtain ⟨hp0, hp1⟩ := hp
   refine FCat.of_eq (as' := [.agg [.d (.v (.bool b0)), .d (.lst 1 n0 fun i => [st (gT (f0 i))])], .agg [.d (.v (.bool b1)), .d (.lst 1 n1 fun i => [st (gT (f1 i))])]]) ?_ rfl rfl ?_
   . repeat' (first | exact trivial | exact rfl | refine ⟨?_, ?_⟩ | fail)
     all_goals first | exact hp0.2 | exact hp1.2 | exact hp2.2 | (intro i hi; exact (hp0.2 i hi).1) | (intro i hi; exact (hp1.2 i hi).1) | (intro i hi; exact (hp2.2 i hi).1) | grind
   refine fcat tys_ok (l := []) trivial Tryz.func24 rfl (by kernel_rfl) false ?_
   repeat' (first | exact trivial | refine ⟨?_, ?_⟩ | intro _)
   all_goals first | (with_reducible apply qq) | (conv => whnf)
   all_goals first | ((with_reducible show ASat _ _ _ _ _); skip) | (exact exact_b (by assumption)) | (exact exact_n (by assumption))
   refine loop_ids tys_ok (l := []) trivial (by kernel_rfl) (X := Nat)
    (fun x => ⟨[(5, vx (.int .i64 x)), (2, .va (.c (.own 0 0))), (3, .va (.c (.own 1 0)))], [(0, .cells [.d (bo b0), .d (.lst 1 n0 fun i => [st (gT (f0 i))])]), (1, .cells [.d (bo b1), .d (.lst 1 n1 fun i => [st (gT (f1 i))])])], 2, 38⟩)
    (fun x => n0 - x) (fun x => x <= n0 /\ ∀ j, j < x -> gT (f0 j) = gT (f1 j)) [] []
    (fun x _ _ => x + 1) (fun _ => [0, 1]) [0, 1] 0 0 0 ?_ ?_ ?_
   . exact ⟨Nat.zero_le _, fun j h => absurd h (Nat.not_lt_zero _)⟩
   . repeat' (first | exact trivial | exact rfl | (intro _ h; exact absurd h (Nat.not_lt_zero _)) | (intro _ _; exact rfl) | refine ⟨?_, ?_⟩ | fail)
   . have hnn : n0 = n1 := by
      have := ‹((n0 : Int) != (n1 : Int)) = false›
      simp only [bne_eq_false_iff_eq] at this
      omega
     rintro i ⟨k1, k2⟩
     repeat' (first | exact trivial | refine ⟨?_, ?_⟩ | intro _)
     all_goals first | (with_reducible apply qq) | (conv => whnf)
     all_goals (try simp only [Int.toNat_natCast, decide_eq_true_eq, decide_eq_false_iff_not, seq_iff] at *)
     all_goals first | omega | (exact absurd rfl (by assumption)) | ((with_reducible show idsOk _ _ = true); rfl) | ((with_reducible show Value.int _ _ = Value.int _ _); rw [wI_id _ (by omega) (by omega)]; rfl) | (exact exact_at (by assumption) (by omega)) | (refine exact_yes (by assumption) ⟨hnn, fun j hj => k2 j (by omega)⟩) | (exact below_step k2 (by assumption) _ (by assumption)) | rfl
 . cases h
def memS (x : ByteArray) (l : List ByteArray) : Bool := l.any fun y => decide (x = y)
theorem memS_iff {x : ByteArray} {l : List ByteArray} : memS x l = true ↔ x ∈ l := by
 unfold memS; simp
theorem memS_not {x : ByteArray} {l : List ByteArray} : memS x l = false ↔ ¬ x ∈ l := by
 rw [<- memS_iff]; simp
def ixS (l : List ByteArray) (x : ByteArray) : Int := if memS x l = true then (l.findIdx fun y => decide (x = y) : Nat) else -1
def subS (l m : List ByteArray) : Bool := l.all fun x => memS x m
theorem ixS_no {n : Nat} {f : Nat -> List DV} {x : ByteArray} (h : ∀ j, j < n -> ¬ x = gT (f j)) : (-1 : Int) = ixS (gN n f) x := by
 unfold ixS
 rw [if_neg]
 rw [memS_iff, gN_mem]
 rintro ⟨i, hi, e⟩
 exact h i hi e.symm
theorem ixS_at {n i : Nat} {f : Nat -> List DV} {x : ByteArray} (h : ∀ j, j < i -> ¬ x = gT (f j)) (hi : i < n) (he : x = gT (f i)) : (i : Int) = ixS (gN n f) x := by
 unfold ixS
 rw [if_pos (memS_iff.2 (gN_mem.2 ⟨i, hi, he.symm⟩))]
 have hl : i < (gN n f).length := by rw [gN_length]; exact hi
 have hg : ∀ j (hj : j < (gN n f).length), (gN n f)[j] = gT (f j) := fun j hj => by simp [gN]
 have : (gN n f).findIdx (fun y => decide (x = y)) = i := by
  rw [List.findIdx_eq hl]
  refine ⟨by rw [hg i hl]; simpa using he, fun j hj => ?_⟩
  rw [hg j (by omega)]; simpa using h j hj
 rw [this]
theorem ixS_ge {l : List ByteArray} {x : ByteArray} : decide (ixS l x ≥ 0) = memS x l := by
 unfold ixS
 split
 . rename_i h; simp [h]
 . rename_i h; simp [h]
theorem not_step {i : Nat} {f : Nat -> List DV} {x : ByteArray} (k : ∀ j, j < i -> ¬ x = gT (f j)) (h : ¬ x = gT (f i)) (j : Nat) (hj : j < i + 1) : ¬ x = gT (f j) := by
 rcases Nat.lt_or_ge j i with h1 | h1
 . exact k j h1
 . have : j = i := by omega
   subst this
   exact h
def FNIndex : List Ar -> Option Rs
 | [.c (.d (.lst 1 n0 f0)), .c (.d (.v (.string x1)))] => some ⟨(n0 * 16 <= 140737488351232 /\ ∀ i, i < n0 -> f0 i = [st (gT (f0 i))]), .va (.c (.d (it (ixS (gN n0 f0) x1)))), []⟩
 | _ => none
theorem fcNIndex : FC Tryz.prog 59 FNIndex := by
 intro xs pre r us h hp
 unfold FNIndex at h
 split at h
 . rename_i n0 f0 x1
   cases h
   have hp0 := hp
   refine FCat.of_eq (as' := [.c (.d (.lst 1 n0 fun i => [st (gT (f0 i))])), .c (.d (.v (.string x1)))]) ?_ rfl rfl ?_
   . repeat' (first | exact trivial | exact rfl | refine ⟨?_, ?_⟩ | fail)
     all_goals first | exact hp0.2 | exact hp1.2 | exact hp2.2 | (intro i hi; exact (hp0.2 i hi).1) | (intro i hi; exact (hp1.2 i hi).1) | (intro i hi; exact (hp2.2 i hi).1) | grind
   refine fcat tys_ok (l := []) trivial Tryz.func59 rfl (by kernel_rfl) false ?_
   repeat' (first | exact trivial | refine ⟨?_, ?_⟩ | intro _)
   all_goals first | (with_reducible apply qq) | (conv => whnf)
   refine loop_ids tys_ok (l := []) trivial (by kernel_rfl) (X := Nat)
    (fun x => ⟨[(8, vx (.int .i64 x)), (7, vx (.int .i64 n0)), (0, .va (.c (.d (.lst 1 n0 fun i => [st (gT (f0 i))])))), (1, vx (.string x1))], [], 0, 19⟩)
    (fun x => n0 - x) (fun x => x <= n0 /\ ∀ j, j < x -> ¬ x1 = gT (f0 j)) [] []
    (fun x _ _ => x + 1) (fun _ => []) [] 0 0 0 ?_ ?_ ?_
   . exact ⟨Nat.zero_le _, fun j h => absurd h (Nat.not_lt_zero _)⟩
   . repeat' (first | exact trivial | exact rfl | (intro _ h; exact absurd h (Nat.not_lt_zero _)) | (intro _ _; exact rfl) | refine ⟨?_, ?_⟩ | fail)
   . rintro i ⟨k1, k2⟩
     repeat' (first | exact trivial | refine ⟨?_, ?_⟩ | intro _)
     all_goals first | (with_reducible apply qq) | (conv => whnf)
     all_goals (try simp only [Int.toNat_natCast, decide_eq_true_eq, decide_eq_false_iff_not, seq_iff, gN_canon] at *)
     all_goals first | omega | ((with_reducible show idsOk _ _ = true); rfl) | ((with_reducible show Value.int _ _ = Value.int _ _); rw [wI_id _ (by omega) (by omega)]; rfl) | (rw [<- ixS_no (fun j hj => k2 j (by omega))]) | (rw [<- ixS_at k2 (by omega) (by assumption)]) | (exact absurd (by assumption) (not_step k2 (by assumption) _ ‹_ < i + 1›)) | rfl
 . cases h
def FNContains : List Ar -> Option Rs
 | [.c (.d (.lst 1 n0 f0)), .c (.d (.v (.string x1)))] => some ⟨(n0 * 16 <= 140737488351232 /\ ∀ i, i < n0 -> f0 i = [st (gT (f0 i))]), .va (.c (.d (bo (memS x1 (gN n0 f0))))), []⟩
 | _ => none
theorem fcNContains : FC Tryz.prog 29 FNContains := by
 intro xs pre r us h hp
 unfold FNContains at h
 split at h
 . rename_i n0 f0 x1
   cases h
   have hp0 := hp
   refine FCat.of_eq (as' := [.c (.d (.lst 1 n0 fun i => [st (gT (f0 i))])), .c (.d (.v (.string x1)))]) ?_ rfl rfl ?_
   . repeat' (first | exact trivial | exact rfl | refine ⟨?_, ?_⟩ | fail)
     all_goals first | exact hp0.2 | exact hp1.2 | exact hp2.2 | (intro i hi; exact (hp0.2 i hi).1) | (intro i hi; exact (hp1.2 i hi).1) | (intro i hi; exact (hp2.2 i hi).1) | grind
   refine fcat tys_ok (l := [(59, ⟨[], FNIndex⟩)]) ⟨fcNIndex, trivial⟩ Tryz.func29 rfl (by kernel_rfl) false ?_
   repeat' (first | exact trivial | refine ⟨?_, ?_⟩ | intro _)
   all_goals first | (with_reducible apply qq) | (conv => whnf)
   all_goals first | (rw [gN_canon, ixS_ge]) | omega | rfl | (exact hp0.1)
 . cases h
end Go.Proofs.YtokjghkehojenaaGreat
namespace Go.Proofs
open Go.Shelf
def Tryz.lays213_ren : Go.Shelf.Ren := ⟨fun | 213 => 149 | 265 => 185 | n => n, fun | 9 => 9 | 3 => 3 | n => n, fun | n => n⟩
open Go.RowKit in
def Tryz.lays106_ren : Go.Shelf.Ren := ⟨fun | 106 => 111 | 213 => 149 | 265 => 185 | n => n, fun | 9 => 9 | 3 => 3 | n => n, fun | n => n⟩
theorem Tryz.lays106 : Go.Proofs.Lays.n106 Tryz.prog Tryz.lays106_ren := {
 mixed := by kernel_rfl
 f106 := Tryz.func111.trans (congrArg some (by kernel_rfl))
 f213 := Tryz.func149.trans (congrArg some (by kernel_rfl))
 f265 := Tryz.func185.trans (congrArg some (by kernel_rfl))
 t3 := Tryz.underlying3
 a3 := Tryz.isAgg3
 z3 := Tryz.sizeOf3
 v3 := Tryz.zeroValue3
 t9 := Tryz.underlying9
 a9 := Tryz.isAgg9
 z9 := Tryz.sizeOf9
 v9 := Tryz.zeroValue9 }
open Go.RowKit in
theorem Tryz.strings_Compare (a b : ByteArray) (w : World) :
 Calls Tryz.prog 111 #[.string a, .string b] w fun e w' => e = .returned (.int .i64 (Lib.compareBytes a.data.toList b.data.toList)) /\ w' = w := Any.strings_Compare Tryz.lays106 a b w
def Tryz.lays194_ren : Go.Shelf.Ren := ⟨fun | 194 => 112 | n => n, fun | 31 => 39 | 9 => 9 | 3 => 3 | 4 => 4 | 0 => 0 | n => n, fun | n => n⟩
theorem Tryz.lays194 : Go.Proofs.Lays.n194 Tryz.prog Tryz.lays194_ren := {
 mixed := by kernel_rfl
 f194 := Tryz.func112.trans (congrArg some (by kernel_rfl))
 t0 := Tryz.underlying0
 a0 := Tryz.isAgg0
 z0 := Tryz.sizeOf0
 v0 := Tryz.zeroValue0
 t3 := Tryz.underlying3
 a3 := Tryz.isAgg3
 z3 := Tryz.sizeOf3
 v3 := Tryz.zeroValue3
 t4 := Tryz.underlying4
 a4 := Tryz.isAgg4
 z4 := Tryz.sizeOf4
 v4 := Tryz.zeroValue4
 t9 := Tryz.underlying9
 a9 := Tryz.isAgg9
 z9 := Tryz.sizeOf9
 v9 := Tryz.zeroValue9
 t31 := Tryz.underlying39
 a31 := Tryz.isAgg39
 z31 := Tryz.sizeOf39
 v31 := Tryz.zeroValue39 }
open Go.RowKit Go.Lib Go.Sort in
open Go.RowKit Go.Lib Go.Sort in
theorem Tryz.slices_Compact_string (blk off cap : Nat) (zs : List (List UInt8)) (w : World) (hH : Holds encStr w blk off zs.toArray) (hsz : zs.length <= 9223372036854775807) (hcap : zs.length <= cap) :
 Calls Tryz.prog 112 #[.slice (some ⟨blk, off, none⟩) zs.length cap] w fun e w' => e = .returned (.slice (some ⟨blk, off, none⟩) (Lib.compact zs).length cap) /\ ∃ q, w' = putRow encStr (Sort.ahead w q) blk off (Lib.compact zs ++ List.replicate (zs.length - (Lib.compact zs).length) []).toArray := Any.slices_Compact_string Tryz.lays194 blk off cap zs w hH hsz hcap
open Go.RowKit Go.Lib Go.Sort in
theorem Tryz.slices_Compact_string_empty (a : Option Addr) (cap : Nat) (w : World) :
 Calls Tryz.prog 112 #[.slice a 0 cap] w fun e w' => e = .returned (.slice a 0 cap) /\ w' = w := Any.slices_Compact_string_empty Tryz.lays194 a cap w
open Go.RowKit Go.Lib Go.Sort in
open Go.RowKit Go.Lib Go.Sort in
def Tryz.laysSlF06_f82_ren : Go.Shelf.Ren := ⟨fun | 6 => 109 | 15 => 148 | 14 => 147 | 28 => 183 | 29 => 184 | 20 => 175 | 21 => 176 | 22 => 177 | 23 => 178 | 24 => 179 | 25 => 180 | 26 => 181 | 27 => 182 | 46 => 206 | 47 => 207 | 48 => 208 | 49 => 209 | 50 => 210 | 57 => 213 | n => n, fun | 22 => 39 | 24 => 9 | 25 => 158 | 3 => 3 | 39 => 186 | 0 => 0 | 53 => 215 | 55 => 127 | 4 => 4 | 46 => 209 | 45 => 208 | 50 => 125 | 5 => 5 | 9 => 9 | 66 => 231 | 70 => 235 | 76 => 239 | 77 => 240 | n => n, fun | n => n⟩
theorem Tryz.laysSlF06_f82 : Go.Proofs.SlLaysF0.n6 Tryz.prog Tryz.laysSlF06_f82_ren := {
 mixed := by kernel_rfl
 f6 := ⟨Tryz.f109.name, by decide, Tryz.func109.trans (congrArg some (by kernel_rfl))⟩
 f14 := ⟨Tryz.f147.name, by decide, Tryz.func147.trans (congrArg some (by kernel_rfl))⟩
 f15 := Tryz.func148.trans (congrArg some (by kernel_rfl))
 f20 := ⟨Tryz.f175.name, by decide, Tryz.func175.trans (congrArg some (by kernel_rfl))⟩
 f21 := ⟨Tryz.f176.name, by decide, Tryz.func176.trans (congrArg some (by kernel_rfl))⟩
 f22 := ⟨Tryz.f177.name, by decide, Tryz.func177.trans (congrArg some (by kernel_rfl))⟩
 f23 := ⟨Tryz.f178.name, by decide, Tryz.func178.trans (congrArg some (by kernel_rfl))⟩
 f24 := ⟨Tryz.f179.name, by decide, Tryz.func179.trans (congrArg some (by kernel_rfl))⟩
 f25 := ⟨Tryz.f180.name, by decide, Tryz.func180.trans (congrArg some (by kernel_rfl))⟩
 f26 := ⟨Tryz.f181.name, by decide, Tryz.func181.trans (congrArg some (by kernel_rfl))⟩
 f27 := ⟨Tryz.f182.name, by decide, Tryz.func182.trans (congrArg some (by kernel_rfl))⟩
 f28 := Tryz.func183.trans (congrArg some (by kernel_rfl))
 f29 := Tryz.func184.trans (congrArg some (by kernel_rfl))
 f46 := ⟨Tryz.f206.name, by decide, Tryz.func206.trans (congrArg some (by kernel_rfl))⟩
 f47 := Tryz.func207.trans (congrArg some (by kernel_rfl))
 f48 := Tryz.func208.trans (congrArg some (by kernel_rfl))
 f49 := ⟨Tryz.f209.name, by decide, Tryz.func209.trans (congrArg some (by kernel_rfl))⟩
 f50 := ⟨Tryz.f210.name, by decide, Tryz.func210.trans (congrArg some (by kernel_rfl))⟩
 f57 := ⟨Tryz.f213.name, by decide, Tryz.func213.trans (congrArg some (by kernel_rfl))⟩
 t0 := Tryz.underlying0
 a0 := Tryz.isAgg0
 z0 := Tryz.sizeOf0
 v0 := Tryz.zeroValue0
 t3 := Tryz.underlying3
 a3 := Tryz.isAgg3
 z3 := Tryz.sizeOf3
 v3 := Tryz.zeroValue3
 t4 := Tryz.underlying4
 a4 := Tryz.isAgg4
 z4 := Tryz.sizeOf4
 v4 := Tryz.zeroValue4
 t5 := Tryz.underlying5
 a5 := Tryz.isAgg5
 z5 := Tryz.sizeOf5
 v5 := Tryz.zeroValue5
 t9 := Tryz.underlying9
 a9 := Tryz.isAgg9
 z9 := Tryz.sizeOf9
 v9 := Tryz.zeroValue9
 t22 := Tryz.underlying39
 a22 := Tryz.isAgg39
 z22 := Tryz.sizeOf39
 v22 := Tryz.zeroValue39
 t25 := Tryz.underlying158
 a25 := Tryz.isAgg158
 z25 := Tryz.sizeOf158
 v25 := Tryz.zeroValue158
 t39 := Tryz.underlying186
 a39 := Tryz.isAgg186
 z39 := Tryz.sizeOf186
 v39 := Tryz.zeroValue186
 t45 := Tryz.underlying208
 a45 := Tryz.isAgg208
 z45 := Tryz.sizeOf208
 v45 := Tryz.zeroValue208
 t46 := Tryz.underlying209
 a46 := Tryz.isAgg209
 z46 := Tryz.sizeOf209
 v46 := Tryz.zeroValue209
 t50 := Tryz.underlying125
 a50 := Tryz.isAgg125
 z50 := Tryz.sizeOf125
 v50 := Tryz.zeroValue125
 t53 := Tryz.underlying215
 a53 := Tryz.isAgg215
 z53 := Tryz.sizeOf215
 v53 := Tryz.zeroValue215
 t55 := Tryz.underlying127
 a55 := Tryz.isAgg127
 z55 := Tryz.sizeOf127
 v55 := Tryz.zeroValue127
 t66 := Tryz.underlying231
 a66 := Tryz.isAgg231
 z66 := Tryz.sizeOf231
 v66 := Tryz.zeroValue231
 t70 := Tryz.underlying235
 a70 := Tryz.isAgg235
 z70 := Tryz.sizeOf235
 v70 := Tryz.zeroValue235
 t76 := Tryz.underlying239
 a76 := Tryz.isAgg239
 z76 := Tryz.sizeOf239
 v76 := Tryz.zeroValue239
 t77 := Tryz.underlying240
 a77 := Tryz.isAgg240
 z77 := Tryz.sizeOf240
 v77 := Tryz.zeroValue240 }
open Go.RowKit Go.Lib Go.Sort in
theorem Tryz.slices_SortFunc_none {α : Type} [Inhabited α] (p : Option Addr) (cap : Nat) (fv : Value) (w : World) :
 Calls Tryz.prog 109 #[.slice p 0 cap, fv] w fun e w' => e = .returned (.tuple #[]) /\ w' = w := AnyF.slices_SortFunc_none Tryz.laysSlF06_f82 p cap fv w
def Tryz.laysSlF6_f82_ren : Go.Shelf.Ren := ⟨fun | 6 => 109 | 15 => 148 | 14 => 147 | 28 => 183 | 29 => 184 | 20 => 175 | 21 => 176 | 22 => 177 | 23 => 178 | 24 => 179 | 25 => 180 | 26 => 181 | 27 => 182 | 46 => 206 | 47 => 207 | 48 => 208 | 49 => 209 | 50 => 210 | 57 => 213 | n => n, fun | 22 => 39 | 24 => 9 | 25 => 158 | 3 => 3 | 39 => 186 | 0 => 0 | 53 => 215 | 55 => 127 | 4 => 4 | 46 => 209 | 45 => 208 | 50 => 125 | 5 => 5 | 9 => 9 | 66 => 231 | 70 => 235 | 76 => 239 | 77 => 240 | n => n, fun | n => n⟩
theorem Tryz.laysSlF6_f82 : Go.Proofs.SlLaysF.n6 Tryz.prog Tryz.laysSlF6_f82_ren := {
 mixed := by kernel_rfl
 f6 := ⟨Tryz.f109.name, by decide, Tryz.func109.trans (congrArg some (by kernel_rfl))⟩
 f14 := ⟨Tryz.f147.name, by decide, Tryz.func147.trans (congrArg some (by kernel_rfl))⟩
 f15 := Tryz.func148.trans (congrArg some (by kernel_rfl))
 f20 := ⟨Tryz.f175.name, by decide, Tryz.func175.trans (congrArg some (by kernel_rfl))⟩
 f21 := ⟨Tryz.f176.name, by decide, Tryz.func176.trans (congrArg some (by kernel_rfl))⟩
 f22 := ⟨Tryz.f177.name, by decide, Tryz.func177.trans (congrArg some (by kernel_rfl))⟩
 f23 := ⟨Tryz.f178.name, by decide, Tryz.func178.trans (congrArg some (by kernel_rfl))⟩
 f24 := ⟨Tryz.f179.name, by decide, Tryz.func179.trans (congrArg some (by kernel_rfl))⟩
 f25 := ⟨Tryz.f180.name, by decide, Tryz.func180.trans (congrArg some (by kernel_rfl))⟩
 f26 := ⟨Tryz.f181.name, by decide, Tryz.func181.trans (congrArg some (by kernel_rfl))⟩
 f27 := ⟨Tryz.f182.name, by decide, Tryz.func182.trans (congrArg some (by kernel_rfl))⟩
 f28 := Tryz.func183.trans (congrArg some (by kernel_rfl))
 f29 := Tryz.func184.trans (congrArg some (by kernel_rfl))
 f46 := ⟨Tryz.f206.name, by decide, Tryz.func206.trans (congrArg some (by kernel_rfl))⟩
 f47 := Tryz.func207.trans (congrArg some (by kernel_rfl))
 f48 := Tryz.func208.trans (congrArg some (by kernel_rfl))
 f49 := ⟨Tryz.f209.name, by decide, Tryz.func209.trans (congrArg some (by kernel_rfl))⟩
 f50 := ⟨Tryz.f210.name, by decide, Tryz.func210.trans (congrArg some (by kernel_rfl))⟩
 f57 := ⟨Tryz.f213.name, by decide, Tryz.func213.trans (congrArg some (by kernel_rfl))⟩
 t0 := Tryz.underlying0
 a0 := Tryz.isAgg0
 z0 := Tryz.sizeOf0
 v0 := Tryz.zeroValue0
 t3 := Tryz.underlying3
 a3 := Tryz.isAgg3
 z3 := Tryz.sizeOf3
 v3 := Tryz.zeroValue3
 t4 := Tryz.underlying4
 a4 := Tryz.isAgg4
 z4 := Tryz.sizeOf4
 v4 := Tryz.zeroValue4
 t5 := Tryz.underlying5
 a5 := Tryz.isAgg5
 z5 := Tryz.sizeOf5
 v5 := Tryz.zeroValue5
 t9 := Tryz.underlying9
 a9 := Tryz.isAgg9
 z9 := Tryz.sizeOf9
 v9 := Tryz.zeroValue9
 t22 := Tryz.underlying39
 a22 := Tryz.isAgg39
 z22 := Tryz.sizeOf39
 v22 := Tryz.zeroValue39
 a24 := Tryz.isAgg9
 z24 := Tryz.sizeOf9
 t25 := Tryz.underlying158
 a25 := Tryz.isAgg158
 z25 := Tryz.sizeOf158
 v25 := Tryz.zeroValue158
 t39 := Tryz.underlying186
 a39 := Tryz.isAgg186
 z39 := Tryz.sizeOf186
 v39 := Tryz.zeroValue186
 t45 := Tryz.underlying208
 a45 := Tryz.isAgg208
 z45 := Tryz.sizeOf208
 v45 := Tryz.zeroValue208
 t46 := Tryz.underlying209
 a46 := Tryz.isAgg209
 z46 := Tryz.sizeOf209
 v46 := Tryz.zeroValue209
 t50 := Tryz.underlying125
 a50 := Tryz.isAgg125
 z50 := Tryz.sizeOf125
 v50 := Tryz.zeroValue125
 t53 := Tryz.underlying215
 a53 := Tryz.isAgg215
 z53 := Tryz.sizeOf215
 v53 := Tryz.zeroValue215
 t55 := Tryz.underlying127
 a55 := Tryz.isAgg127
 z55 := Tryz.sizeOf127
 v55 := Tryz.zeroValue127
 t66 := Tryz.underlying231
 a66 := Tryz.isAgg231
 z66 := Tryz.sizeOf231
 v66 := Tryz.zeroValue231
 t70 := Tryz.underlying235
 a70 := Tryz.isAgg235
 z70 := Tryz.sizeOf235
 v70 := Tryz.zeroValue235
 t76 := Tryz.underlying239
 a76 := Tryz.isAgg239
 z76 := Tryz.sizeOf239
 v76 := Tryz.zeroValue239
 t77 := Tryz.underlying240
 a77 := Tryz.isAgg240
 z77 := Tryz.sizeOf240
 v77 := Tryz.zeroValue240 }
open Go.RowKit Go.Lib Go.Sort in
theorem Tryz.slices_SortFunc_total {α : Type} [Inhabited α] (enc : α -> Value) (h1 : OneCell enc) (cf : α -> α -> Int) (hO : SWO (ltOf cf)) (g : Nat) (cb : Array Value) (blk off cap : Nat) (d : Array α) (w : World) (eg : ∀ args w, (callFunc g args).run Tryz.prog w = .ok (.enter g args) w) (hcmp : CmpLays1 Tryz.prog g cb enc cf blk off d.size w) (hH : Holds enc w blk off d) (hblk : blk < w.heap.size) (hsz : d.size < 4611686018427387904) (hT : ∀ x y, (ltOf cf) x y = false -> (ltOf cf) y x = false -> x = y) :
 Calls Tryz.prog 109 #[.slice (some ⟨blk, off, none⟩) d.size cap, .func (.func g) #[] cb] w fun e w' =>
  e = .returned (.tuple #[]) /\ ∃ n os, w' = sortWorld enc w blk off n (d.toList.mergeSort fun x y => !(ltOf cf) y x).toArray os := Any.slices_SortFunc_total Tryz.laysSlF6_f82 enc h1 cf hO g cb blk off cap d w eg hcmp hH hblk hsz hT
end Go.Proofs
