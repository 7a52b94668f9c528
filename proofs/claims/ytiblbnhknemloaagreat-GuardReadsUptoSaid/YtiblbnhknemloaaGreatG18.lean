/- What the law reaches, joined. No condition. -/
import Derived.Test.YtiblbnhknemloaaGreatRows
import Derived.SizedLaws
import Derived.JoinedCond
import Derived.KernelRfl
import Derived.Test.YtiblbnhknemloaaGreatProg
set_option maxRecDepth 100000
namespace Go.Proofs.YtiblbnhknemloaaGreat
open Go.ChangeShapes Go.WideShapes
theorem aUh:joinedFacts Tryz.pinned.checked.prog 4 Tryz.f4 (Rows.OpenSpec.upto Rows.guardReadsSpec).bare Rows.guardReadsUptoRow=true:=by kernel_rfl
end Go.Proofs.YtiblbnhknemloaaGreat
