/- The types of this seat as a table for the symbolic executor: each entry is what the program has. -/
import Derived.Test.YtdjkcdgngdbdjaaSx
import Derived.Test.YtdjkcdgngdbdjaaProg
namespace Go.Proofs.Ytdjkcdgngdbdjaa
open Go.Sx
set_option maxRecDepth 100000

theorem ty1 : tyB Try.prog 1 Try.t1 Try.t1 := ⟨by kernel_rfl, by kernel_rfl, by kernel_rfl⟩
theorem ty2 : tyB Try.prog 2 Try.t2 Try.t2 := ⟨by kernel_rfl, by kernel_rfl, by kernel_rfl⟩
theorem ty3 : tyB Try.prog 3 Try.t3 Try.t3 := ⟨by kernel_rfl, by kernel_rfl, by kernel_rfl⟩
theorem ty4 : tyB Try.prog 4 Try.t4 Try.t4 := ⟨by kernel_rfl, by kernel_rfl, by kernel_rfl⟩
theorem ty5 : tyB Try.prog 5 Try.t5 Try.t5 := ⟨by kernel_rfl, by kernel_rfl, by kernel_rfl⟩
theorem ty6 : tyB Try.prog 6 Try.t6 Try.t5 := ⟨by kernel_rfl, by kernel_rfl, by kernel_rfl⟩
theorem ty7 : tyB Try.prog 7 Try.t7 Try.t7 := ⟨by kernel_rfl, by kernel_rfl, by kernel_rfl⟩
theorem ty8 : tyB Try.prog 8 Try.t8 Try.t7 := ⟨by kernel_rfl, by kernel_rfl, by kernel_rfl⟩
theorem ty9 : tyB Try.prog 9 Try.t9 Try.t9 := ⟨by kernel_rfl, by kernel_rfl, by kernel_rfl⟩
theorem ty10 : tyB Try.prog 10 Try.t10 Try.t9 := ⟨by kernel_rfl, by kernel_rfl, by kernel_rfl⟩
theorem ty11 : tyB Try.prog 11 Try.t11 Try.t9 := ⟨by kernel_rfl, by kernel_rfl, by kernel_rfl⟩
theorem ty12 : tyB Try.prog 12 Try.t12 Try.t12 := ⟨by kernel_rfl, by kernel_rfl, by kernel_rfl⟩
theorem ty13 : tyB Try.prog 13 Try.t13 Try.t13 := ⟨by kernel_rfl, by kernel_rfl, by kernel_rfl⟩
theorem ty14 : tyB Try.prog 14 Try.t14 Try.t13 := ⟨by kernel_rfl, by kernel_rfl, by kernel_rfl⟩
theorem ty15 : tyB Try.prog 15 Try.t15 Try.t15 := ⟨by kernel_rfl, by kernel_rfl, by kernel_rfl⟩
theorem ty16 : tyB Try.prog 16 Try.t16 Try.t16 := ⟨by kernel_rfl, by kernel_rfl, by kernel_rfl⟩
theorem ty17 : tyB Try.prog 17 Try.t17 Try.t17 := ⟨by kernel_rfl, by kernel_rfl, by kernel_rfl⟩
theorem ty18 : tyB Try.prog 18 Try.t18 Try.t18 := ⟨by kernel_rfl, by kernel_rfl, by kernel_rfl⟩
theorem ty19 : tyB Try.prog 19 Try.t19 Try.t18 := ⟨by kernel_rfl, by kernel_rfl, by kernel_rfl⟩
theorem ty20 : tyB Try.prog 20 Try.t20 Try.t20 := ⟨by kernel_rfl, by kernel_rfl, by kernel_rfl⟩
theorem ty21 : tyB Try.prog 21 Try.t21 Try.t21 := ⟨by kernel_rfl, by kernel_rfl, by kernel_rfl⟩
theorem ty22 : tyB Try.prog 22 Try.t22 Try.t22 := ⟨by kernel_rfl, by kernel_rfl, by kernel_rfl⟩
theorem ty23 : tyB Try.prog 23 Try.t23 Try.t23 := ⟨by kernel_rfl, by kernel_rfl, by kernel_rfl⟩
theorem ty24 : tyB Try.prog 24 Try.t24 Try.t24 := ⟨by kernel_rfl, by kernel_rfl, by kernel_rfl⟩
theorem ty25 : tyB Try.prog 25 Try.t25 Try.t25 := ⟨by kernel_rfl, by kernel_rfl, by kernel_rfl⟩
theorem ty26 : tyB Try.prog 26 Try.t26 Try.t25 := ⟨by kernel_rfl, by kernel_rfl, by kernel_rfl⟩
theorem ty27 : tyB Try.prog 27 Try.t27 Try.t27 := ⟨by kernel_rfl, by kernel_rfl, by kernel_rfl⟩
theorem ty28 : tyB Try.prog 28 Try.t28 Try.t28 := ⟨by kernel_rfl, by kernel_rfl, by kernel_rfl⟩
theorem ty29 : tyB Try.prog 29 Try.t29 Try.t29 := ⟨by kernel_rfl, by kernel_rfl, by kernel_rfl⟩
theorem ty31 : tyB Try.prog 31 Try.t31 Try.t31 := ⟨by kernel_rfl, by kernel_rfl, by kernel_rfl⟩
theorem ty32 : tyB Try.prog 32 Try.t32 Try.t32 := ⟨by kernel_rfl, by kernel_rfl, by kernel_rfl⟩
theorem ty33 : tyB Try.prog 33 Try.t33 Try.t33 := ⟨by kernel_rfl, by kernel_rfl, by kernel_rfl⟩
theorem ty34 : tyB Try.prog 34 Try.t34 Try.t34 := ⟨by kernel_rfl, by kernel_rfl, by kernel_rfl⟩
theorem ty35 : tyB Try.prog 35 Try.t35 Try.t35 := ⟨by kernel_rfl, by kernel_rfl, by kernel_rfl⟩
theorem ty36 : tyB Try.prog 36 Try.t36 Try.t36 := ⟨by kernel_rfl, by kernel_rfl, by kernel_rfl⟩
theorem ty37 : tyB Try.prog 37 Try.t37 Try.t37 := ⟨by kernel_rfl, by kernel_rfl, by kernel_rfl⟩
theorem ty38 : tyB Try.prog 38 Try.t38 Try.t38 := ⟨by kernel_rfl, by kernel_rfl, by kernel_rfl⟩
theorem ty39 : tyB Try.prog 39 Try.t39 Try.t38 := ⟨by kernel_rfl, by kernel_rfl, by kernel_rfl⟩
theorem ty40 : tyB Try.prog 40 Try.t40 Try.t40 := ⟨by kernel_rfl, by kernel_rfl, by kernel_rfl⟩
theorem ty41 : tyB Try.prog 41 Try.t41 Try.t41 := ⟨by kernel_rfl, by kernel_rfl, by kernel_rfl⟩
theorem ty42 : tyB Try.prog 42 Try.t42 Try.t42 := ⟨by kernel_rfl, by kernel_rfl, by kernel_rfl⟩
theorem ty43 : tyB Try.prog 43 Try.t43 Try.t43 := ⟨by kernel_rfl, by kernel_rfl, by kernel_rfl⟩
theorem ty44 : tyB Try.prog 44 Try.t44 Try.t44 := ⟨by kernel_rfl, by kernel_rfl, by kernel_rfl⟩
theorem ty45 : tyB Try.prog 45 Try.t45 Try.t44 := ⟨by kernel_rfl, by kernel_rfl, by kernel_rfl⟩
theorem ty46 : tyB Try.prog 46 Try.t46 Try.t46 := ⟨by kernel_rfl, by kernel_rfl, by kernel_rfl⟩
theorem ty47 : tyB Try.prog 47 Try.t47 Try.t47 := ⟨by kernel_rfl, by kernel_rfl, by kernel_rfl⟩
theorem ty48 : tyB Try.prog 48 Try.t48 Try.t47 := ⟨by kernel_rfl, by kernel_rfl, by kernel_rfl⟩
theorem ty49 : tyB Try.prog 49 Try.t49 Try.t49 := ⟨by kernel_rfl, by kernel_rfl, by kernel_rfl⟩
theorem ty50 : tyB Try.prog 50 Try.t50 Try.t5 := ⟨by kernel_rfl, by kernel_rfl, by kernel_rfl⟩
theorem ty51 : tyB Try.prog 51 Try.t51 Try.t5 := ⟨by kernel_rfl, by kernel_rfl, by kernel_rfl⟩
theorem ty52 : tyB Try.prog 52 Try.t52 Try.t52 := ⟨by kernel_rfl, by kernel_rfl, by kernel_rfl⟩
theorem ty53 : tyB Try.prog 53 Try.t53 Try.t53 := ⟨by kernel_rfl, by kernel_rfl, by kernel_rfl⟩
theorem ty54 : tyB Try.prog 54 Try.t54 Try.t21 := ⟨by kernel_rfl, by kernel_rfl, by kernel_rfl⟩
theorem ty55 : tyB Try.prog 55 Try.t55 Try.t21 := ⟨by kernel_rfl, by kernel_rfl, by kernel_rfl⟩
theorem ty56 : tyB Try.prog 56 Try.t56 Try.t56 := ⟨by kernel_rfl, by kernel_rfl, by kernel_rfl⟩
theorem ty57 : tyB Try.prog 57 Try.t57 Try.t56 := ⟨by kernel_rfl, by kernel_rfl, by kernel_rfl⟩
theorem ty58 : tyB Try.prog 58 Try.t58 Try.t58 := ⟨by kernel_rfl, by kernel_rfl, by kernel_rfl⟩
theorem cm26 : cmpB Try.prog 26 Try.t25 := ⟨by kernel_rfl, by kernel_rfl, by kernel_rfl⟩
theorem tys_ok : TT.ok Try.prog (.node (.node (.node (.node (.node (.leaf 32 Try.t32 Try.t32 false) (.node (.leaf 16 Try.t16 Try.t16 false) (.leaf 48 Try.t48 Try.t47 false))) (.node (.node (.leaf 8 Try.t8 Try.t7 false) (.leaf 40 Try.t40 Try.t40 false)) (.node (.leaf 24 Try.t24 Try.t24 false) (.leaf 56 Try.t56 Try.t56 false)))) (.node (.node (.node (.leaf 4 Try.t4 Try.t4 false) (.leaf 36 Try.t36 Try.t36 false)) (.node (.leaf 20 Try.t20 Try.t20 false) (.leaf 52 Try.t52 Try.t52 false))) (.node (.node (.leaf 12 Try.t12 Try.t12 false) (.leaf 44 Try.t44 Try.t44 false)) (.leaf 28 Try.t28 Try.t28 false)))) (.node (.node (.node (.node (.leaf 2 Try.t2 Try.t2 false) (.leaf 34 Try.t34 Try.t34 false)) (.node (.leaf 18 Try.t18 Try.t18 false) (.leaf 50 Try.t50 Try.t5 false))) (.node (.node (.leaf 10 Try.t10 Try.t9 false) (.leaf 42 Try.t42 Try.t42 false)) (.node (.leaf 26 Try.t26 Try.t25 true) (.leaf 58 Try.t58 Try.t58 false)))) (.node (.node (.node (.leaf 6 Try.t6 Try.t5 false) (.leaf 38 Try.t38 Try.t38 false)) (.node (.leaf 22 Try.t22 Try.t22 false) (.leaf 54 Try.t54 Try.t21 false))) (.node (.node (.leaf 14 Try.t14 Try.t13 false) (.leaf 46 Try.t46 Try.t46 false)) .nil)))) (.node (.node (.node (.node (.node (.leaf 1 Try.t1 Try.t1 false) (.leaf 33 Try.t33 Try.t33 false)) (.node (.leaf 17 Try.t17 Try.t17 false) (.leaf 49 Try.t49 Try.t49 false))) (.node (.node (.leaf 9 Try.t9 Try.t9 false) (.leaf 41 Try.t41 Try.t41 false)) (.node (.leaf 25 Try.t25 Try.t25 false) (.leaf 57 Try.t57 Try.t56 false)))) (.node (.node (.node (.leaf 5 Try.t5 Try.t5 false) (.leaf 37 Try.t37 Try.t37 false)) (.node (.leaf 21 Try.t21 Try.t21 false) (.leaf 53 Try.t53 Try.t53 false))) (.node (.node (.leaf 13 Try.t13 Try.t13 false) (.leaf 45 Try.t45 Try.t44 false)) (.leaf 29 Try.t29 Try.t29 false)))) (.node (.node (.node (.node (.leaf 3 Try.t3 Try.t3 false) (.leaf 35 Try.t35 Try.t35 false)) (.node (.leaf 19 Try.t19 Try.t18 false) (.leaf 51 Try.t51 Try.t5 false))) (.node (.node (.leaf 11 Try.t11 Try.t9 false) (.leaf 43 Try.t43 Try.t43 false)) (.leaf 27 Try.t27 Try.t27 false))) (.node (.node (.node (.leaf 7 Try.t7 Try.t7 false) (.leaf 39 Try.t39 Try.t38 false)) (.node (.leaf 23 Try.t23 Try.t23 false) (.leaf 55 Try.t55 Try.t21 false))) (.node (.node (.leaf 15 Try.t15 Try.t15 false) (.leaf 47 Try.t47 Try.t47 false)) (.leaf 31 Try.t31 Try.t31 false)))))) := ⟨⟨⟨⟨⟨⟨ty32, trivial⟩, ⟨⟨ty16, trivial⟩, ⟨ty48, trivial⟩⟩⟩, ⟨⟨⟨ty8, trivial⟩, ⟨ty40, trivial⟩⟩, ⟨⟨ty24, trivial⟩, ⟨ty56, trivial⟩⟩⟩⟩, ⟨⟨⟨⟨ty4, trivial⟩, ⟨ty36, trivial⟩⟩, ⟨⟨ty20, trivial⟩, ⟨ty52, trivial⟩⟩⟩, ⟨⟨⟨ty12, trivial⟩, ⟨ty44, trivial⟩⟩, ⟨ty28, trivial⟩⟩⟩⟩, ⟨⟨⟨⟨⟨ty2, trivial⟩, ⟨ty34, trivial⟩⟩, ⟨⟨ty18, trivial⟩, ⟨ty50, trivial⟩⟩⟩, ⟨⟨⟨ty10, trivial⟩, ⟨ty42, trivial⟩⟩, ⟨⟨ty26, cm26⟩, ⟨ty58, trivial⟩⟩⟩⟩, ⟨⟨⟨⟨ty6, trivial⟩, ⟨ty38, trivial⟩⟩, ⟨⟨ty22, trivial⟩, ⟨ty54, trivial⟩⟩⟩, ⟨⟨⟨ty14, trivial⟩, ⟨ty46, trivial⟩⟩, trivial⟩⟩⟩⟩, ⟨⟨⟨⟨⟨⟨ty1, trivial⟩, ⟨ty33, trivial⟩⟩, ⟨⟨ty17, trivial⟩, ⟨ty49, trivial⟩⟩⟩, ⟨⟨⟨ty9, trivial⟩, ⟨ty41, trivial⟩⟩, ⟨⟨ty25, trivial⟩, ⟨ty57, trivial⟩⟩⟩⟩, ⟨⟨⟨⟨ty5, trivial⟩, ⟨ty37, trivial⟩⟩, ⟨⟨ty21, trivial⟩, ⟨ty53, trivial⟩⟩⟩, ⟨⟨⟨ty13, trivial⟩, ⟨ty45, trivial⟩⟩, ⟨ty29, trivial⟩⟩⟩⟩, ⟨⟨⟨⟨⟨ty3, trivial⟩, ⟨ty35, trivial⟩⟩, ⟨⟨ty19, trivial⟩, ⟨ty51, trivial⟩⟩⟩, ⟨⟨⟨ty11, trivial⟩, ⟨ty43, trivial⟩⟩, ⟨ty27, trivial⟩⟩⟩, ⟨⟨⟨⟨ty7, trivial⟩, ⟨ty39, trivial⟩⟩, ⟨⟨ty23, trivial⟩, ⟨ty55, trivial⟩⟩⟩, ⟨⟨⟨ty15, trivial⟩, ⟨ty47, trivial⟩⟩, ⟨ty31, trivial⟩⟩⟩⟩⟩⟩
end Go.Proofs.Ytdjkcdgngdbdjaa
