/-
  NARROWER THAN 'FOR EVERY INPUT', by the rows' own cells (each row's printed sentence says how): EnvBegins: loops.
  DERIVED. THE GIVEN ROWS OF THIS SEAT. 10 by the template 'for every input the law returns true; each argument reads behind the call as it read before'; 0 by the template 'total and deterministic' (their statements: YthkknkhpfffnbaaGreatTotals.lean).
  GIVEN WITH THE SEED: the statements are not yours to turn. If you find one false, say at which input.
  Laid BY PROGRAM, IN A SANDBOX (cutbox-rows.mjs): the forced cells as the released guide's own fill.sh prints them over the translation 6acc9c7b1cdcad43… (all of the seat's roots in one cut). By AI agents, Wed Nov 11 2026. No macro, syntax, notation, axiom, sorry.
-/
import Derived.Test.YthkknkhpfffnbaaGreatChecked
import GoSem.Claim
import GoSem.ClaimJoined
import GoSem.ClaimMapViews
import Derived.JoinedTies
import Derived.KernelRfl
namespace Go.Proofs.YthkknkhpfffnbaaGreat
/- THE CELL 'sum', in the pinned program and in every row, IS THE sha256 OF THE DUMP (.gsa) THAT YthkknkhpfffnbaaGreatProg.lean LOADS. Nothing in Lean hashes anything: it is a label: what it is worth is what the hold of that sum in a sandbox is worth. -/
noncomputable def Tryz.pinned : Pinned := { name := "ythkknkhpfffnbaagreat", sum := "6acc9c7b1cdcad4367bc6ef1670840888250c68286ddd77efa3bb1a87f4605dc", checked := Tryz.checked }
namespace Rows
def none {H : Type} : Left H := { results := [], args := [] }

/-- 'sondagelaw22.EnvBegins': WHATEVER THE INPUT: true; the input reads as it did. -/
def envBeginsSpec : ChangeSpec := { name := "envBegins", fn := fun _ => fun
  | [d1, d2] => { results := [.lit (.bool true)], args := [d1, d2] }
  | _ => none }
def envBeginsRow : OpenClaim := { program := "ythkknkhpfffnbaagreat", sum := "6acc9c7b1cdcad4367bc6ef1670840888250c68286ddd77efa3bb1a87f4605dc", func := "sondage/sondagelaw22.EnvBegins", spec := "envBegins", inPlace := ["internal/bytealg.abigen_runtime_cmpstring", "slices.overlaps[sondage/api.Bind]", "math/bits.Sub64"], unfollowed := true, recurses := true, loops := true, apart := false }
def EnvBeginsSaid : Prop := envBeginsRow.holds Tryz.pinned (OpenSpec.ofChange envBeginsSpec)

/-- ITS FALSE NEIGHBOUR: 'it returns false'. Refute it at one input. -/
def envBeginsWrong : ChangeSpec := { name := "envBegins", fn := fun _ => fun
  | [d1, d2] => { results := [.lit (.bool false)], args := [d1, d2] }
  | _ => none }
def EnvBeginsWrongFalsely : Prop := envBeginsRow.holds Tryz.pinned (OpenSpec.ofChange envBeginsWrong)

/-- 'sondagelaw22.EnvBinds': WHATEVER THE INPUT: true; the input reads as it did. -/
def envBindsSpec : ChangeSpec := { name := "envBinds", fn := fun _ => fun
  | [d] => { results := [.lit (.bool true)], args := [d] }
  | _ => none }
def envBindsRow : OpenClaim := { program := "ythkknkhpfffnbaagreat", sum := "6acc9c7b1cdcad4367bc6ef1670840888250c68286ddd77efa3bb1a87f4605dc", func := "sondage/sondagelaw22.EnvBinds", spec := "envBinds", inPlace := ["internal/bytealg.abigen_runtime_cmpstring", "slices.overlaps[sondage/api.Bind]", "math/bits.Sub64"], unfollowed := true, recurses := true, apart := false }
def EnvBindsSaid : Prop := envBindsRow.holds Tryz.pinned (OpenSpec.ofChange envBindsSpec)

/-- ITS FALSE NEIGHBOUR: 'it returns false'. Refute it at one input. -/
def envBindsWrong : ChangeSpec := { name := "envBinds", fn := fun _ => fun
  | [d] => { results := [.lit (.bool false)], args := [d] }
  | _ => none }
def EnvBindsWrongFalsely : Prop := envBindsRow.holds Tryz.pinned (OpenSpec.ofChange envBindsWrong)

/-- 'sondagelaw27.CellAll': WHATEVER THE INPUT: true; the input reads as it did. -/
def cellAllSpec : ChangeSpec := { name := "cellAll", fn := fun _ => fun
  | [d] => { results := [.lit (.bool true)], args := [d] }
  | _ => none }
def cellAllRow : OpenClaim := { program := "ythkknkhpfffnbaagreat", sum := "6acc9c7b1cdcad4367bc6ef1670840888250c68286ddd77efa3bb1a87f4605dc", func := "sondage/sondagelaw27.CellAll", spec := "cellAll", inPlace := ["internal/bytealg.abigen_runtime_cmpstring", "slices.overlaps[sondage/api.Side]", "math/bits.Sub64"], unfollowed := true, recurses := true, apart := false }
def CellAllSaid : Prop := cellAllRow.holds Tryz.pinned (OpenSpec.ofChange cellAllSpec)

/-- ITS FALSE NEIGHBOUR: 'it returns false'. Refute it at one input. -/
def cellAllWrong : ChangeSpec := { name := "cellAll", fn := fun _ => fun
  | [d] => { results := [.lit (.bool false)], args := [d] }
  | _ => none }
def CellAllWrongFalsely : Prop := cellAllRow.holds Tryz.pinned (OpenSpec.ofChange cellAllWrong)

/-- 'sondagelaw27.CellSums': WHATEVER THE INPUT: true; the input reads as it did. -/
def cellSumsSpec : ChangeSpec := { name := "cellSums", fn := fun _ => fun
  | [d1, d2] => { results := [.lit (.bool true)], args := [d1, d2] }
  | _ => none }
def cellSumsRow : OpenClaim := { program := "ythkknkhpfffnbaagreat", sum := "6acc9c7b1cdcad4367bc6ef1670840888250c68286ddd77efa3bb1a87f4605dc", func := "sondage/sondagelaw27.CellSums", spec := "cellSums", inPlace := ["internal/bytealg.abigen_runtime_cmpstring", "slices.overlaps[sondage/api.Side]", "math/bits.Sub64"], unfollowed := true, recurses := true, apart := false }
def CellSumsSaid : Prop := cellSumsRow.holds Tryz.pinned (OpenSpec.ofChange cellSumsSpec)

/-- ITS FALSE NEIGHBOUR: 'it returns false'. Refute it at one input. -/
def cellSumsWrong : ChangeSpec := { name := "cellSums", fn := fun _ => fun
  | [d1, d2] => { results := [.lit (.bool false)], args := [d1, d2] }
  | _ => none }
def CellSumsWrongFalsely : Prop := cellSumsRow.holds Tryz.pinned (OpenSpec.ofChange cellSumsWrong)

/-- 'sondagelaw31.MixSteps': WHATEVER THE INPUT: true; the input reads as it did. -/
def mixStepsSpec : ChangeSpec := { name := "mixSteps", fn := fun _ => fun
  | [d] => { results := [.lit (.bool true)], args := [d] }
  | _ => none }
def mixStepsRow : OpenClaim := { program := "ythkknkhpfffnbaagreat", sum := "6acc9c7b1cdcad4367bc6ef1670840888250c68286ddd77efa3bb1a87f4605dc", func := "sondage/sondagelaw31.MixSteps", spec := "mixSteps", inPlace := ["internal/bytealg.abigen_runtime_cmpstring", "math/bits.Sub64"], unfollowed := true, recurses := true, apart := false }
def MixStepsSaid : Prop := mixStepsRow.holds Tryz.pinned (OpenSpec.ofChange mixStepsSpec)

/-- ITS FALSE NEIGHBOUR: 'it returns false'. Refute it at one input. -/
def mixStepsWrong : ChangeSpec := { name := "mixSteps", fn := fun _ => fun
  | [d] => { results := [.lit (.bool false)], args := [d] }
  | _ => none }
def MixStepsWrongFalsely : Prop := mixStepsRow.holds Tryz.pinned (OpenSpec.ofChange mixStepsWrong)

/-- 'sondagelaw31.MixBetween': WHATEVER THE INPUT: true; the input reads as it did. -/
def mixBetweenSpec : ChangeSpec := { name := "mixBetween", fn := fun _ => fun
  | [d] => { results := [.lit (.bool true)], args := [d] }
  | _ => none }
def mixBetweenRow : OpenClaim := { program := "ythkknkhpfffnbaagreat", sum := "6acc9c7b1cdcad4367bc6ef1670840888250c68286ddd77efa3bb1a87f4605dc", func := "sondage/sondagelaw31.MixBetween", spec := "mixBetween", inPlace := ["internal/bytealg.abigen_runtime_cmpstring", "math/bits.Sub64"], unfollowed := true, recurses := true, apart := false }
def MixBetweenSaid : Prop := mixBetweenRow.holds Tryz.pinned (OpenSpec.ofChange mixBetweenSpec)

/-- ITS FALSE NEIGHBOUR: 'it returns false'. Refute it at one input. -/
def mixBetweenWrong : ChangeSpec := { name := "mixBetween", fn := fun _ => fun
  | [d] => { results := [.lit (.bool false)], args := [d] }
  | _ => none }
def MixBetweenWrongFalsely : Prop := mixBetweenRow.holds Tryz.pinned (OpenSpec.ofChange mixBetweenWrong)

/-- 'sondagelaw22.EnvMerges': WHATEVER THE INPUT: true; the input reads as it did. -/
def envMergesSpec : ChangeSpec := { name := "envMerges", fn := fun _ => fun
  | [d1, d2, d3] => { results := [.lit (.bool true)], args := [d1, d2, d3] }
  | _ => none }
def envMergesRow : OpenClaim := { program := "ythkknkhpfffnbaagreat", sum := "6acc9c7b1cdcad4367bc6ef1670840888250c68286ddd77efa3bb1a87f4605dc", func := "sondage/sondagelaw22.EnvMerges", spec := "envMerges", inPlace := ["internal/bytealg.abigen_runtime_cmpstring", "math/bits.Sub64", "slices.overlaps[sondage/api.Bind]"], unfollowed := true, recurses := true, apart := false }
def EnvMergesSaid : Prop := envMergesRow.holds Tryz.pinned (OpenSpec.ofChange envMergesSpec)

/-- ITS FALSE NEIGHBOUR: 'it returns false'. Refute it at one input. -/
def envMergesWrong : ChangeSpec := { name := "envMerges", fn := fun _ => fun
  | [d1, d2, d3] => { results := [.lit (.bool false)], args := [d1, d2, d3] }
  | _ => none }
def EnvMergesWrongFalsely : Prop := envMergesRow.holds Tryz.pinned (OpenSpec.ofChange envMergesWrong)

/-- 'sondagelaw22.EnvLattice': WHATEVER THE INPUT: true; the input reads as it did. -/
def envLatticeSpec : ChangeSpec := { name := "envLattice", fn := fun _ => fun
  | [d1, d2, d3] => { results := [.lit (.bool true)], args := [d1, d2, d3] }
  | _ => none }
def envLatticeRow : OpenClaim := { program := "ythkknkhpfffnbaagreat", sum := "6acc9c7b1cdcad4367bc6ef1670840888250c68286ddd77efa3bb1a87f4605dc", func := "sondage/sondagelaw22.EnvLattice", spec := "envLattice", inPlace := ["internal/bytealg.abigen_runtime_cmpstring", "math/bits.Sub64", "slices.overlaps[sondage/api.Bind]"], unfollowed := true, recurses := true, apart := false }
def EnvLatticeSaid : Prop := envLatticeRow.holds Tryz.pinned (OpenSpec.ofChange envLatticeSpec)

/-- ITS FALSE NEIGHBOUR: 'it returns false'. Refute it at one input. -/
def envLatticeWrong : ChangeSpec := { name := "envLattice", fn := fun _ => fun
  | [d1, d2, d3] => { results := [.lit (.bool false)], args := [d1, d2, d3] }
  | _ => none }
def EnvLatticeWrongFalsely : Prop := envLatticeRow.holds Tryz.pinned (OpenSpec.ofChange envLatticeWrong)

/-- 'sondagelaw27.CellOps': WHATEVER THE INPUT: true; the input reads as it did. -/
def cellOpsSpec : ChangeSpec := { name := "cellOps", fn := fun _ => fun
  | [d1, d2, d3] => { results := [.lit (.bool true)], args := [d1, d2, d3] }
  | _ => none }
def cellOpsRow : OpenClaim := { program := "ythkknkhpfffnbaagreat", sum := "6acc9c7b1cdcad4367bc6ef1670840888250c68286ddd77efa3bb1a87f4605dc", func := "sondage/sondagelaw27.CellOps", spec := "cellOps", inPlace := ["internal/bytealg.abigen_runtime_cmpstring", "math/bits.Sub64", "slices.overlaps[sondage/api.Side]"], unfollowed := true, recurses := true, apart := false }
def CellOpsSaid : Prop := cellOpsRow.holds Tryz.pinned (OpenSpec.ofChange cellOpsSpec)

/-- ITS FALSE NEIGHBOUR: 'it returns false'. Refute it at one input. -/
def cellOpsWrong : ChangeSpec := { name := "cellOps", fn := fun _ => fun
  | [d1, d2, d3] => { results := [.lit (.bool false)], args := [d1, d2, d3] }
  | _ => none }
def CellOpsWrongFalsely : Prop := cellOpsRow.holds Tryz.pinned (OpenSpec.ofChange cellOpsWrong)

/-- 'sondagelaw27.CellLattice': WHATEVER THE INPUT: true; the input reads as it did. -/
def cellLatticeSpec : ChangeSpec := { name := "cellLattice", fn := fun _ => fun
  | [d1, d2, d3] => { results := [.lit (.bool true)], args := [d1, d2, d3] }
  | _ => none }
def cellLatticeRow : OpenClaim := { program := "ythkknkhpfffnbaagreat", sum := "6acc9c7b1cdcad4367bc6ef1670840888250c68286ddd77efa3bb1a87f4605dc", func := "sondage/sondagelaw27.CellLattice", spec := "cellLattice", inPlace := ["internal/bytealg.abigen_runtime_cmpstring", "math/bits.Sub64", "slices.overlaps[sondage/api.Side]"], unfollowed := true, recurses := true, apart := false }
def CellLatticeSaid : Prop := cellLatticeRow.holds Tryz.pinned (OpenSpec.ofChange cellLatticeSpec)

/-- ITS FALSE NEIGHBOUR: 'it returns false'. Refute it at one input. -/
def cellLatticeWrong : ChangeSpec := { name := "cellLattice", fn := fun _ => fun
  | [d1, d2, d3] => { results := [.lit (.bool false)], args := [d1, d2, d3] }
  | _ => none }
def CellLatticeWrongFalsely : Prop := cellLatticeRow.holds Tryz.pinned (OpenSpec.ofChange cellLatticeWrong)

/- THE SECOND FORM. 'bulk': how many values and letters a reading holds, each counted each time it is reached (what is shared counts as often as it is met; a slice's spare places count too). A statement '..UptoSaid' is the law's where the arguments, and the package variables that the reading takes, are together of bulk at most 1048576: NARROWER than '..Said'. Prove '..Said' where nothing that the law and all that it calls make is longer than what came in: it says more and counts as full. Else prove '..UptoSaid'. A law counts once. -/
mutual
def uptoBulk {H : Type} : DataW H → Nat
  | .lit (.string bytes) => bytes.length + 1
  | .lit _ => 1
  | .nil => 1
  | .ptr d => uptoBulk d + 1
  | .slice elems spare => uptoBulkAll elems + uptoBulkAll spare + 1
  | .agg parts => uptoBulkAll parts + 1
  | .iface _ d => uptoBulk d + 1
  | .map entries => uptoBulkEntries entries + 1
  | .held _ => 1
def uptoBulkAll {H : Type} : List (DataW H) → Nat
  | [] => 0
  | d :: r => uptoBulk d + uptoBulkAll r
def uptoBulkEntries {H : Type} : List (Lit × DataW H) → Nat
  | [] => 0
  | x :: r => uptoBulkEntry x + uptoBulkEntries r
def uptoBulkEntry {H : Type} : Lit × DataW H → Nat
  | (.string bytes, d) => bytes.length + uptoBulk d + 1
  | (_, d) => uptoBulk d + 1
 end
def uptoSmall : (H : Type) → List (DataW H) → Bool := fun _ ds => decide (uptoBulkAll ds ≤ 1048576)
def OpenSpec.upto (s : _root_.Go.ChangeSpec) : _root_.Go.OpenSpec := { _root_.Go.OpenSpec.ofChange s with cond := some uptoSmall }

/-- 'sondagelaw22.EnvBegins', WHERE WHAT IT READS IS OF BULK AT MOST 1048576: true; the input reads as it did. -/
def envBeginsUptoRow : OpenClaim := { program := "ythkknkhpfffnbaagreat", sum := "6acc9c7b1cdcad4367bc6ef1670840888250c68286ddd77efa3bb1a87f4605dc", func := "sondage/sondagelaw22.EnvBegins", spec := "envBegins", inPlace := ["internal/bytealg.abigen_runtime_cmpstring", "slices.overlaps[sondage/api.Bind]", "math/bits.Sub64"], unfollowed := true, recurses := true, loops := true, apart := false, narrowed := true }
def EnvBeginsUptoSaid : Prop := envBeginsUptoRow.holds Tryz.pinned (OpenSpec.upto envBeginsSpec)

/-- 'sondagelaw22.EnvBinds', WHERE WHAT IT READS IS OF BULK AT MOST 1048576: true; the input reads as it did. -/
def envBindsUptoRow : OpenClaim := { program := "ythkknkhpfffnbaagreat", sum := "6acc9c7b1cdcad4367bc6ef1670840888250c68286ddd77efa3bb1a87f4605dc", func := "sondage/sondagelaw22.EnvBinds", spec := "envBinds", inPlace := ["internal/bytealg.abigen_runtime_cmpstring", "slices.overlaps[sondage/api.Bind]", "math/bits.Sub64"], unfollowed := true, recurses := true, apart := false, narrowed := true }
def EnvBindsUptoSaid : Prop := envBindsUptoRow.holds Tryz.pinned (OpenSpec.upto envBindsSpec)

/-- 'sondagelaw27.CellAll', WHERE WHAT IT READS IS OF BULK AT MOST 1048576: true; the input reads as it did. -/
def cellAllUptoRow : OpenClaim := { program := "ythkknkhpfffnbaagreat", sum := "6acc9c7b1cdcad4367bc6ef1670840888250c68286ddd77efa3bb1a87f4605dc", func := "sondage/sondagelaw27.CellAll", spec := "cellAll", inPlace := ["internal/bytealg.abigen_runtime_cmpstring", "slices.overlaps[sondage/api.Side]", "math/bits.Sub64"], unfollowed := true, recurses := true, apart := false, narrowed := true }
def CellAllUptoSaid : Prop := cellAllUptoRow.holds Tryz.pinned (OpenSpec.upto cellAllSpec)

/-- 'sondagelaw27.CellSums', WHERE WHAT IT READS IS OF BULK AT MOST 1048576: true; the input reads as it did. -/
def cellSumsUptoRow : OpenClaim := { program := "ythkknkhpfffnbaagreat", sum := "6acc9c7b1cdcad4367bc6ef1670840888250c68286ddd77efa3bb1a87f4605dc", func := "sondage/sondagelaw27.CellSums", spec := "cellSums", inPlace := ["internal/bytealg.abigen_runtime_cmpstring", "slices.overlaps[sondage/api.Side]", "math/bits.Sub64"], unfollowed := true, recurses := true, apart := false, narrowed := true }
def CellSumsUptoSaid : Prop := cellSumsUptoRow.holds Tryz.pinned (OpenSpec.upto cellSumsSpec)

/-- 'sondagelaw31.MixSteps', WHERE WHAT IT READS IS OF BULK AT MOST 1048576: true; the input reads as it did. -/
def mixStepsUptoRow : OpenClaim := { program := "ythkknkhpfffnbaagreat", sum := "6acc9c7b1cdcad4367bc6ef1670840888250c68286ddd77efa3bb1a87f4605dc", func := "sondage/sondagelaw31.MixSteps", spec := "mixSteps", inPlace := ["internal/bytealg.abigen_runtime_cmpstring", "math/bits.Sub64"], unfollowed := true, recurses := true, apart := false, narrowed := true }
def MixStepsUptoSaid : Prop := mixStepsUptoRow.holds Tryz.pinned (OpenSpec.upto mixStepsSpec)

/-- 'sondagelaw31.MixBetween', WHERE WHAT IT READS IS OF BULK AT MOST 1048576: true; the input reads as it did. -/
def mixBetweenUptoRow : OpenClaim := { program := "ythkknkhpfffnbaagreat", sum := "6acc9c7b1cdcad4367bc6ef1670840888250c68286ddd77efa3bb1a87f4605dc", func := "sondage/sondagelaw31.MixBetween", spec := "mixBetween", inPlace := ["internal/bytealg.abigen_runtime_cmpstring", "math/bits.Sub64"], unfollowed := true, recurses := true, apart := false, narrowed := true }
def MixBetweenUptoSaid : Prop := mixBetweenUptoRow.holds Tryz.pinned (OpenSpec.upto mixBetweenSpec)

/-- 'sondagelaw22.EnvMerges', WHERE WHAT IT READS IS OF BULK AT MOST 1048576: true; the input reads as it did. -/
def envMergesUptoRow : OpenClaim := { program := "ythkknkhpfffnbaagreat", sum := "6acc9c7b1cdcad4367bc6ef1670840888250c68286ddd77efa3bb1a87f4605dc", func := "sondage/sondagelaw22.EnvMerges", spec := "envMerges", inPlace := ["internal/bytealg.abigen_runtime_cmpstring", "math/bits.Sub64", "slices.overlaps[sondage/api.Bind]"], unfollowed := true, recurses := true, apart := false, narrowed := true }
def EnvMergesUptoSaid : Prop := envMergesUptoRow.holds Tryz.pinned (OpenSpec.upto envMergesSpec)

/-- 'sondagelaw22.EnvLattice', WHERE WHAT IT READS IS OF BULK AT MOST 1048576: true; the input reads as it did. -/
def envLatticeUptoRow : OpenClaim := { program := "ythkknkhpfffnbaagreat", sum := "6acc9c7b1cdcad4367bc6ef1670840888250c68286ddd77efa3bb1a87f4605dc", func := "sondage/sondagelaw22.EnvLattice", spec := "envLattice", inPlace := ["internal/bytealg.abigen_runtime_cmpstring", "math/bits.Sub64", "slices.overlaps[sondage/api.Bind]"], unfollowed := true, recurses := true, apart := false, narrowed := true }
def EnvLatticeUptoSaid : Prop := envLatticeUptoRow.holds Tryz.pinned (OpenSpec.upto envLatticeSpec)

/-- 'sondagelaw27.CellOps', WHERE WHAT IT READS IS OF BULK AT MOST 1048576: true; the input reads as it did. -/
def cellOpsUptoRow : OpenClaim := { program := "ythkknkhpfffnbaagreat", sum := "6acc9c7b1cdcad4367bc6ef1670840888250c68286ddd77efa3bb1a87f4605dc", func := "sondage/sondagelaw27.CellOps", spec := "cellOps", inPlace := ["internal/bytealg.abigen_runtime_cmpstring", "math/bits.Sub64", "slices.overlaps[sondage/api.Side]"], unfollowed := true, recurses := true, apart := false, narrowed := true }
def CellOpsUptoSaid : Prop := cellOpsUptoRow.holds Tryz.pinned (OpenSpec.upto cellOpsSpec)

/-- 'sondagelaw27.CellLattice', WHERE WHAT IT READS IS OF BULK AT MOST 1048576: true; the input reads as it did. -/
def cellLatticeUptoRow : OpenClaim := { program := "ythkknkhpfffnbaagreat", sum := "6acc9c7b1cdcad4367bc6ef1670840888250c68286ddd77efa3bb1a87f4605dc", func := "sondage/sondagelaw27.CellLattice", spec := "cellLattice", inPlace := ["internal/bytealg.abigen_runtime_cmpstring", "math/bits.Sub64", "slices.overlaps[sondage/api.Side]"], unfollowed := true, recurses := true, apart := false, narrowed := true }
def CellLatticeUptoSaid : Prop := cellLatticeUptoRow.holds Tryz.pinned (OpenSpec.upto cellLatticeSpec)

end Rows
end Go.Proofs.YthkknkhpfffnbaaGreat
