/- One fact about the program. No condition. -/
import Derived.Test.YtbjfogojoalnpaaGreatRows
import Derived.JoinedOf
import Derived.KernelRfl
namespace Go.Proofs.YtbjfogojoalnpaaGreat
set_option maxRecDepth 1000000
theorem sj7 : (Rows.solveNoneRow.loops == (Tryz.f3.params.toList ++ Rows.solveNoneSpec.plain.varTypes Tryz.prog).any (Tryz.prog.loopsFrom ·)) = true := by kernel_rfl
end Go.Proofs.YtbjfogojoalnpaaGreat
