/- The types of this seat as a table for the symbolic executor: each entry is what the program has. -/
import Derived.Test.YtoejfnghpeiabaaSx
import Derived.Test.YtoejfnghpeiabaaProg
namespace Go.Proofs.Ytoejfnghpeiabaa
open Go.Sx
set_option maxRecDepth 100000

theorem ty1 : tyB Try.prog 1 Try.t1 Try.t1 := ⟨by kernel_rfl, by kernel_rfl, by kernel_rfl⟩
theorem ty2 : tyB Try.prog 2 Try.t2 Try.t2 := ⟨by kernel_rfl, by kernel_rfl, by kernel_rfl⟩
theorem ty3 : tyB Try.prog 3 Try.t3 Try.t3 := ⟨by kernel_rfl, by kernel_rfl, by kernel_rfl⟩
theorem ty4 : tyB Try.prog 4 Try.t4 Try.t4 := ⟨by kernel_rfl, by kernel_rfl, by kernel_rfl⟩
theorem ty5 : tyB Try.prog 5 Try.t5 Try.t5 := ⟨by kernel_rfl, by kernel_rfl, by kernel_rfl⟩
theorem ty6 : tyB Try.prog 6 Try.t6 Try.t5 := ⟨by kernel_rfl, by kernel_rfl, by kernel_rfl⟩
theorem ty7 : tyB Try.prog 7 Try.t7 Try.t7 := ⟨by kernel_rfl, by kernel_rfl, by kernel_rfl⟩
theorem ty8 : tyB Try.prog 8 Try.t8 Try.t7 := ⟨by kernel_rfl, by kernel_rfl, by kernel_rfl⟩
theorem ty9 : tyB Try.prog 9 Try.t9 Try.t9 := ⟨by kernel_rfl, by kernel_rfl, by kernel_rfl⟩
theorem ty10 : tyB Try.prog 10 Try.t10 Try.t9 := ⟨by kernel_rfl, by kernel_rfl, by kernel_rfl⟩
theorem ty11 : tyB Try.prog 11 Try.t11 Try.t9 := ⟨by kernel_rfl, by kernel_rfl, by kernel_rfl⟩
theorem ty12 : tyB Try.prog 12 Try.t12 Try.t12 := ⟨by kernel_rfl, by kernel_rfl, by kernel_rfl⟩
theorem ty13 : tyB Try.prog 13 Try.t13 Try.t13 := ⟨by kernel_rfl, by kernel_rfl, by kernel_rfl⟩
theorem ty14 : tyB Try.prog 14 Try.t14 Try.t13 := ⟨by kernel_rfl, by kernel_rfl, by kernel_rfl⟩
theorem ty15 : tyB Try.prog 15 Try.t15 Try.t15 := ⟨by kernel_rfl, by kernel_rfl, by kernel_rfl⟩
theorem ty16 : tyB Try.prog 16 Try.t16 Try.t16 := ⟨by kernel_rfl, by kernel_rfl, by kernel_rfl⟩
theorem ty17 : tyB Try.prog 17 Try.t17 Try.t17 := ⟨by kernel_rfl, by kernel_rfl, by kernel_rfl⟩
theorem ty18 : tyB Try.prog 18 Try.t18 Try.t18 := ⟨by kernel_rfl, by kernel_rfl, by kernel_rfl⟩
theorem ty19 : tyB Try.prog 19 Try.t19 Try.t18 := ⟨by kernel_rfl, by kernel_rfl, by kernel_rfl⟩
theorem ty20 : tyB Try.prog 20 Try.t20 Try.t20 := ⟨by kernel_rfl, by kernel_rfl, by kernel_rfl⟩
theorem ty21 : tyB Try.prog 21 Try.t21 Try.t21 := ⟨by kernel_rfl, by kernel_rfl, by kernel_rfl⟩
theorem ty22 : tyB Try.prog 22 Try.t22 Try.t22 := ⟨by kernel_rfl, by kernel_rfl, by kernel_rfl⟩
theorem ty23 : tyB Try.prog 23 Try.t23 Try.t23 := ⟨by kernel_rfl, by kernel_rfl, by kernel_rfl⟩
theorem ty24 : tyB Try.prog 24 Try.t24 Try.t24 := ⟨by kernel_rfl, by kernel_rfl, by kernel_rfl⟩
theorem ty25 : tyB Try.prog 25 Try.t25 Try.t25 := ⟨by kernel_rfl, by kernel_rfl, by kernel_rfl⟩
theorem ty26 : tyB Try.prog 26 Try.t26 Try.t25 := ⟨by kernel_rfl, by kernel_rfl, by kernel_rfl⟩
theorem ty27 : tyB Try.prog 27 Try.t27 Try.t27 := ⟨by kernel_rfl, by kernel_rfl, by kernel_rfl⟩
theorem ty28 : tyB Try.prog 28 Try.t28 Try.t28 := ⟨by kernel_rfl, by kernel_rfl, by kernel_rfl⟩
theorem ty29 : tyB Try.prog 29 Try.t29 Try.t29 := ⟨by kernel_rfl, by kernel_rfl, by kernel_rfl⟩
theorem ty31 : tyB Try.prog 31 Try.t31 Try.t31 := ⟨by kernel_rfl, by kernel_rfl, by kernel_rfl⟩
theorem ty32 : tyB Try.prog 32 Try.t32 Try.t32 := ⟨by kernel_rfl, by kernel_rfl, by kernel_rfl⟩
theorem ty33 : tyB Try.prog 33 Try.t33 Try.t33 := ⟨by kernel_rfl, by kernel_rfl, by kernel_rfl⟩
theorem ty34 : tyB Try.prog 34 Try.t34 Try.t34 := ⟨by kernel_rfl, by kernel_rfl, by kernel_rfl⟩
theorem ty35 : tyB Try.prog 35 Try.t35 Try.t35 := ⟨by kernel_rfl, by kernel_rfl, by kernel_rfl⟩
theorem ty36 : tyB Try.prog 36 Try.t36 Try.t36 := ⟨by kernel_rfl, by kernel_rfl, by kernel_rfl⟩
theorem ty37 : tyB Try.prog 37 Try.t37 Try.t37 := ⟨by kernel_rfl, by kernel_rfl, by kernel_rfl⟩
theorem ty38 : tyB Try.prog 38 Try.t38 Try.t37 := ⟨by kernel_rfl, by kernel_rfl, by kernel_rfl⟩
theorem ty39 : tyB Try.prog 39 Try.t39 Try.t39 := ⟨by kernel_rfl, by kernel_rfl, by kernel_rfl⟩
theorem ty40 : tyB Try.prog 40 Try.t40 Try.t40 := ⟨by kernel_rfl, by kernel_rfl, by kernel_rfl⟩
theorem ty41 : tyB Try.prog 41 Try.t41 Try.t41 := ⟨by kernel_rfl, by kernel_rfl, by kernel_rfl⟩
theorem ty42 : tyB Try.prog 42 Try.t42 Try.t42 := ⟨by kernel_rfl, by kernel_rfl, by kernel_rfl⟩
theorem ty43 : tyB Try.prog 43 Try.t43 Try.t43 := ⟨by kernel_rfl, by kernel_rfl, by kernel_rfl⟩
theorem ty44 : tyB Try.prog 44 Try.t44 Try.t44 := ⟨by kernel_rfl, by kernel_rfl, by kernel_rfl⟩
theorem ty45 : tyB Try.prog 45 Try.t45 Try.t45 := ⟨by kernel_rfl, by kernel_rfl, by kernel_rfl⟩
theorem ty46 : tyB Try.prog 46 Try.t46 Try.t46 := ⟨by kernel_rfl, by kernel_rfl, by kernel_rfl⟩
theorem ty47 : tyB Try.prog 47 Try.t47 Try.t47 := ⟨by kernel_rfl, by kernel_rfl, by kernel_rfl⟩
theorem ty48 : tyB Try.prog 48 Try.t48 Try.t48 := ⟨by kernel_rfl, by kernel_rfl, by kernel_rfl⟩
theorem ty49 : tyB Try.prog 49 Try.t49 Try.t49 := ⟨by kernel_rfl, by kernel_rfl, by kernel_rfl⟩
theorem ty50 : tyB Try.prog 50 Try.t50 Try.t50 := ⟨by kernel_rfl, by kernel_rfl, by kernel_rfl⟩
theorem ty51 : tyB Try.prog 51 Try.t51 Try.t51 := ⟨by kernel_rfl, by kernel_rfl, by kernel_rfl⟩
theorem ty52 : tyB Try.prog 52 Try.t52 Try.t52 := ⟨by kernel_rfl, by kernel_rfl, by kernel_rfl⟩
theorem ty53 : tyB Try.prog 53 Try.t53 Try.t53 := ⟨by kernel_rfl, by kernel_rfl, by kernel_rfl⟩
theorem ty54 : tyB Try.prog 54 Try.t54 Try.t54 := ⟨by kernel_rfl, by kernel_rfl, by kernel_rfl⟩
theorem ty55 : tyB Try.prog 55 Try.t55 Try.t55 := ⟨by kernel_rfl, by kernel_rfl, by kernel_rfl⟩
theorem ty56 : tyB Try.prog 56 Try.t56 Try.t56 := ⟨by kernel_rfl, by kernel_rfl, by kernel_rfl⟩
theorem ty57 : tyB Try.prog 57 Try.t57 Try.t57 := ⟨by kernel_rfl, by kernel_rfl, by kernel_rfl⟩
theorem ty58 : tyB Try.prog 58 Try.t58 Try.t57 := ⟨by kernel_rfl, by kernel_rfl, by kernel_rfl⟩
theorem ty59 : tyB Try.prog 59 Try.t59 Try.t59 := ⟨by kernel_rfl, by kernel_rfl, by kernel_rfl⟩
theorem ty60 : tyB Try.prog 60 Try.t60 Try.t60 := ⟨by kernel_rfl, by kernel_rfl, by kernel_rfl⟩
theorem ty61 : tyB Try.prog 61 Try.t61 Try.t61 := ⟨by kernel_rfl, by kernel_rfl, by kernel_rfl⟩
theorem ty62 : tyB Try.prog 62 Try.t62 Try.t62 := ⟨by kernel_rfl, by kernel_rfl, by kernel_rfl⟩
theorem ty63 : tyB Try.prog 63 Try.t63 Try.t63 := ⟨by kernel_rfl, by kernel_rfl, by kernel_rfl⟩
theorem ty64 : tyB Try.prog 64 Try.t64 Try.t64 := ⟨by kernel_rfl, by kernel_rfl, by kernel_rfl⟩
theorem ty65 : tyB Try.prog 65 Try.t65 Try.t64 := ⟨by kernel_rfl, by kernel_rfl, by kernel_rfl⟩
theorem ty66 : tyB Try.prog 66 Try.t66 Try.t66 := ⟨by kernel_rfl, by kernel_rfl, by kernel_rfl⟩
theorem ty67 : tyB Try.prog 67 Try.t67 Try.t67 := ⟨by kernel_rfl, by kernel_rfl, by kernel_rfl⟩
theorem ty68 : tyB Try.prog 68 Try.t68 Try.t67 := ⟨by kernel_rfl, by kernel_rfl, by kernel_rfl⟩
theorem ty69 : tyB Try.prog 69 Try.t69 Try.t69 := ⟨by kernel_rfl, by kernel_rfl, by kernel_rfl⟩
theorem ty70 : tyB Try.prog 70 Try.t70 Try.t5 := ⟨by kernel_rfl, by kernel_rfl, by kernel_rfl⟩
theorem ty71 : tyB Try.prog 71 Try.t71 Try.t5 := ⟨by kernel_rfl, by kernel_rfl, by kernel_rfl⟩
theorem ty72 : tyB Try.prog 72 Try.t72 Try.t72 := ⟨by kernel_rfl, by kernel_rfl, by kernel_rfl⟩
theorem ty73 : tyB Try.prog 73 Try.t73 Try.t73 := ⟨by kernel_rfl, by kernel_rfl, by kernel_rfl⟩
theorem ty74 : tyB Try.prog 74 Try.t74 Try.t21 := ⟨by kernel_rfl, by kernel_rfl, by kernel_rfl⟩
theorem ty75 : tyB Try.prog 75 Try.t75 Try.t21 := ⟨by kernel_rfl, by kernel_rfl, by kernel_rfl⟩
theorem ty76 : tyB Try.prog 76 Try.t76 Try.t76 := ⟨by kernel_rfl, by kernel_rfl, by kernel_rfl⟩
theorem ty77 : tyB Try.prog 77 Try.t77 Try.t76 := ⟨by kernel_rfl, by kernel_rfl, by kernel_rfl⟩
theorem ty78 : tyB Try.prog 78 Try.t78 Try.t78 := ⟨by kernel_rfl, by kernel_rfl, by kernel_rfl⟩
theorem cm26 : cmpB Try.prog 26 Try.t25 := ⟨by kernel_rfl, by kernel_rfl, by kernel_rfl⟩
theorem cm38 : cmpB Try.prog 38 Try.t37 := ⟨by kernel_rfl, by kernel_rfl, by kernel_rfl⟩
theorem tys_ok : TT.ok Try.prog (.node (.node (.node (.node (.node (.node (.leaf 64 Try.t64 Try.t64 false) (.leaf 32 Try.t32 Try.t32 false)) (.node (.leaf 16 Try.t16 Try.t16 false) (.leaf 48 Try.t48 Try.t48 false))) (.node (.node (.node (.leaf 8 Try.t8 Try.t7 false) (.leaf 72 Try.t72 Try.t72 false)) (.leaf 40 Try.t40 Try.t40 false)) (.node (.leaf 24 Try.t24 Try.t24 false) (.leaf 56 Try.t56 Try.t56 false)))) (.node (.node (.node (.node (.leaf 4 Try.t4 Try.t4 false) (.leaf 68 Try.t68 Try.t67 false)) (.leaf 36 Try.t36 Try.t36 false)) (.node (.leaf 20 Try.t20 Try.t20 false) (.leaf 52 Try.t52 Try.t52 false))) (.node (.node (.node (.leaf 12 Try.t12 Try.t12 false) (.leaf 76 Try.t76 Try.t76 false)) (.leaf 44 Try.t44 Try.t44 false)) (.node (.leaf 28 Try.t28 Try.t28 false) (.leaf 60 Try.t60 Try.t60 false))))) (.node (.node (.node (.node (.node (.leaf 2 Try.t2 Try.t2 false) (.leaf 66 Try.t66 Try.t66 false)) (.leaf 34 Try.t34 Try.t34 false)) (.node (.leaf 18 Try.t18 Try.t18 false) (.leaf 50 Try.t50 Try.t50 false))) (.node (.node (.node (.leaf 10 Try.t10 Try.t9 false) (.leaf 74 Try.t74 Try.t21 false)) (.leaf 42 Try.t42 Try.t42 false)) (.node (.leaf 26 Try.t26 Try.t25 true) (.leaf 58 Try.t58 Try.t57 false)))) (.node (.node (.node (.node (.leaf 6 Try.t6 Try.t5 false) (.leaf 70 Try.t70 Try.t5 false)) (.leaf 38 Try.t38 Try.t37 true)) (.node (.leaf 22 Try.t22 Try.t22 false) (.leaf 54 Try.t54 Try.t54 false))) (.node (.node (.node (.leaf 14 Try.t14 Try.t13 false) (.leaf 78 Try.t78 Try.t78 false)) (.leaf 46 Try.t46 Try.t46 false)) (.leaf 62 Try.t62 Try.t62 false))))) (.node (.node (.node (.node (.node (.node (.leaf 1 Try.t1 Try.t1 false) (.leaf 65 Try.t65 Try.t64 false)) (.leaf 33 Try.t33 Try.t33 false)) (.node (.leaf 17 Try.t17 Try.t17 false) (.leaf 49 Try.t49 Try.t49 false))) (.node (.node (.node (.leaf 9 Try.t9 Try.t9 false) (.leaf 73 Try.t73 Try.t73 false)) (.leaf 41 Try.t41 Try.t41 false)) (.node (.leaf 25 Try.t25 Try.t25 false) (.leaf 57 Try.t57 Try.t57 false)))) (.node (.node (.node (.node (.leaf 5 Try.t5 Try.t5 false) (.leaf 69 Try.t69 Try.t69 false)) (.leaf 37 Try.t37 Try.t37 false)) (.node (.leaf 21 Try.t21 Try.t21 false) (.leaf 53 Try.t53 Try.t53 false))) (.node (.node (.node (.leaf 13 Try.t13 Try.t13 false) (.leaf 77 Try.t77 Try.t76 false)) (.leaf 45 Try.t45 Try.t45 false)) (.node (.leaf 29 Try.t29 Try.t29 false) (.leaf 61 Try.t61 Try.t61 false))))) (.node (.node (.node (.node (.node (.leaf 3 Try.t3 Try.t3 false) (.leaf 67 Try.t67 Try.t67 false)) (.leaf 35 Try.t35 Try.t35 false)) (.node (.leaf 19 Try.t19 Try.t18 false) (.leaf 51 Try.t51 Try.t51 false))) (.node (.node (.node (.leaf 11 Try.t11 Try.t9 false) (.leaf 75 Try.t75 Try.t21 false)) (.leaf 43 Try.t43 Try.t43 false)) (.node (.leaf 27 Try.t27 Try.t27 false) (.leaf 59 Try.t59 Try.t59 false)))) (.node (.node (.node (.node (.leaf 7 Try.t7 Try.t7 false) (.leaf 71 Try.t71 Try.t5 false)) (.leaf 39 Try.t39 Try.t39 false)) (.node (.leaf 23 Try.t23 Try.t23 false) (.leaf 55 Try.t55 Try.t55 false))) (.node (.node (.leaf 15 Try.t15 Try.t15 false) (.leaf 47 Try.t47 Try.t47 false)) (.node (.leaf 31 Try.t31 Try.t31 false) (.leaf 63 Try.t63 Try.t63 false))))))) := ⟨⟨⟨⟨⟨⟨⟨ty64, trivial⟩, ⟨ty32, trivial⟩⟩, ⟨⟨ty16, trivial⟩, ⟨ty48, trivial⟩⟩⟩, ⟨⟨⟨⟨ty8, trivial⟩, ⟨ty72, trivial⟩⟩, ⟨ty40, trivial⟩⟩, ⟨⟨ty24, trivial⟩, ⟨ty56, trivial⟩⟩⟩⟩, ⟨⟨⟨⟨⟨ty4, trivial⟩, ⟨ty68, trivial⟩⟩, ⟨ty36, trivial⟩⟩, ⟨⟨ty20, trivial⟩, ⟨ty52, trivial⟩⟩⟩, ⟨⟨⟨⟨ty12, trivial⟩, ⟨ty76, trivial⟩⟩, ⟨ty44, trivial⟩⟩, ⟨⟨ty28, trivial⟩, ⟨ty60, trivial⟩⟩⟩⟩⟩, ⟨⟨⟨⟨⟨⟨ty2, trivial⟩, ⟨ty66, trivial⟩⟩, ⟨ty34, trivial⟩⟩, ⟨⟨ty18, trivial⟩, ⟨ty50, trivial⟩⟩⟩, ⟨⟨⟨⟨ty10, trivial⟩, ⟨ty74, trivial⟩⟩, ⟨ty42, trivial⟩⟩, ⟨⟨ty26, cm26⟩, ⟨ty58, trivial⟩⟩⟩⟩, ⟨⟨⟨⟨⟨ty6, trivial⟩, ⟨ty70, trivial⟩⟩, ⟨ty38, cm38⟩⟩, ⟨⟨ty22, trivial⟩, ⟨ty54, trivial⟩⟩⟩, ⟨⟨⟨⟨ty14, trivial⟩, ⟨ty78, trivial⟩⟩, ⟨ty46, trivial⟩⟩, ⟨ty62, trivial⟩⟩⟩⟩⟩, ⟨⟨⟨⟨⟨⟨⟨ty1, trivial⟩, ⟨ty65, trivial⟩⟩, ⟨ty33, trivial⟩⟩, ⟨⟨ty17, trivial⟩, ⟨ty49, trivial⟩⟩⟩, ⟨⟨⟨⟨ty9, trivial⟩, ⟨ty73, trivial⟩⟩, ⟨ty41, trivial⟩⟩, ⟨⟨ty25, trivial⟩, ⟨ty57, trivial⟩⟩⟩⟩, ⟨⟨⟨⟨⟨ty5, trivial⟩, ⟨ty69, trivial⟩⟩, ⟨ty37, trivial⟩⟩, ⟨⟨ty21, trivial⟩, ⟨ty53, trivial⟩⟩⟩, ⟨⟨⟨⟨ty13, trivial⟩, ⟨ty77, trivial⟩⟩, ⟨ty45, trivial⟩⟩, ⟨⟨ty29, trivial⟩, ⟨ty61, trivial⟩⟩⟩⟩⟩, ⟨⟨⟨⟨⟨⟨ty3, trivial⟩, ⟨ty67, trivial⟩⟩, ⟨ty35, trivial⟩⟩, ⟨⟨ty19, trivial⟩, ⟨ty51, trivial⟩⟩⟩, ⟨⟨⟨⟨ty11, trivial⟩, ⟨ty75, trivial⟩⟩, ⟨ty43, trivial⟩⟩, ⟨⟨ty27, trivial⟩, ⟨ty59, trivial⟩⟩⟩⟩, ⟨⟨⟨⟨⟨ty7, trivial⟩, ⟨ty71, trivial⟩⟩, ⟨ty39, trivial⟩⟩, ⟨⟨ty23, trivial⟩, ⟨ty55, trivial⟩⟩⟩, ⟨⟨⟨ty15, trivial⟩, ⟨ty47, trivial⟩⟩, ⟨⟨ty31, trivial⟩, ⟨ty63, trivial⟩⟩⟩⟩⟩⟩⟩
end Go.Proofs.Ytoejfnghpeiabaa
