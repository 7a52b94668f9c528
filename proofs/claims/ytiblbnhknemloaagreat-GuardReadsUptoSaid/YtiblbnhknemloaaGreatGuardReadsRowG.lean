/- GuardReads is proved. No condition. -/
import Derived.Test.YtiblbnhknemloaaGreatG17
import Derived.Test.YtiblbnhknemloaaGreatG18
set_option maxRecDepth 100000
namespace Go.Proofs.YtiblbnhknemloaaGreat
open Go.Sx Go.ChangeShapes Go.WideShapes Go.RowKit
theorem provedGuardReads:Rows.GuardReadsUptoSaid:=
 OpenClaim.holds_of_cond 4 Tryz.f4 rfl rfl rfl rfl rfl rfl rfl ⟨rfl,rfl,rfl,rfl,rfl⟩ rfl rfl rfl rfl rfl j4 Tryz.func4 aUh
  (of_decide_eq_true j4) (by unfold Func.isWrapper;first|(rw [if_pos (by decide+kernel)];kernel_rfl)|(rw [if_neg (by decide+kernel)];exact ⟨rfl,rfl⟩))
  (fun os started H enc _ F=>aUf os started H enc F)
end Go.Proofs.YtiblbnhknemloaaGreat
