/- One fact about the program. No condition. -/
import Derived.Test.YtbjfogojoalnpaaGreatRows
import Derived.JoinedOf
import Derived.KernelRfl
namespace Go.Proofs.YtbjfogojoalnpaaGreat
set_option maxRecDepth 1000000
theorem sj8 : Tryz.prog.stopsHeard = true := by kernel_rfl
end Go.Proofs.YtbjfogojoalnpaaGreat
