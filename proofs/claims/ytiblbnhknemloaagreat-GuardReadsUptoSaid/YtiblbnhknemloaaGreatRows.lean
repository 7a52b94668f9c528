/-
  NARROWER THAN 'FOR EVERY INPUT', by the rows' own cells (each row's printed sentence says how): QueryEnds: loops · GuardReads: loops · GuardKeeps: loops · EdgeReads: loops · EdgeTargets: loops.
  DERIVED. THE GIVEN ROWS OF THIS SEAT. 5 by the template 'for every input the law returns true; each argument reads behind the call as it read before'; 0 by the template 'total and deterministic' (their statements: YtiblbnhknemloaaGreatTotals.lean).
  GIVEN WITH THE SEED: the statements are not yours to turn. If you find one false, say at which input.
  Laid BY PROGRAM, IN A SANDBOX (cutbox-rows.mjs): the forced cells as the released guide's own fill.sh prints them over the translation e487d852c0e56f72… (all of the seat's roots in one cut). By AI agents, Wed Nov 11 2026. No macro, syntax, notation, axiom, sorry.
-/
import Derived.Test.YtiblbnhknemloaaGreatChecked
import GoSem.Claim
import GoSem.ClaimJoined
import GoSem.ClaimMapViews
import Derived.JoinedTies
import Derived.KernelRfl
namespace Go.Proofs.YtiblbnhknemloaaGreat
/- THE CELL 'sum', in the pinned program and in every row, IS THE sha256 OF THE DUMP (.gsa) THAT YtiblbnhknemloaaGreatProg.lean LOADS. Nothing in Lean hashes anything: it is a label: what it is worth is what the hold of that sum in a sandbox is worth. -/
noncomputable def Tryz.pinned : Pinned := { name := "ytiblbnhknemloaagreat", sum := "e487d852c0e56f7221f7c5060a805293faf2bb71faae34de0169770d7bf7b912", checked := Tryz.checked }
namespace Rows
def none {H : Type} : Left H := { results := [], args := [] }

/-- 'sondagelaw38.QueryEnds': WHATEVER THE INPUT: true; the input reads as it did. -/
def queryEndsSpec : ChangeSpec := { name := "queryEnds", fn := fun _ => fun
  | [d] => { results := [.lit (.bool true)], args := [d] }
  | _ => none }
def queryEndsRow : OpenClaim := { program := "ytiblbnhknemloaagreat", sum := "e487d852c0e56f7221f7c5060a805293faf2bb71faae34de0169770d7bf7b912", func := "sondage/sondagelaw38.QueryEnds", spec := "queryEnds", inPlace := ["internal/bytealg.abigen_runtime_cmpstring", "math/bits.Sub64", "math/bits.Add64"], unfollowed := true, recurses := true, named := ["math/bits.divideError", "math/bits.overflowError"], loops := true, apart := false }
def QueryEndsSaid : Prop := queryEndsRow.holds Tryz.pinned (OpenSpec.ofChange queryEndsSpec)

/-- ITS FALSE NEIGHBOUR: 'it returns false'. Refute it at one input. -/
def queryEndsWrong : ChangeSpec := { name := "queryEnds", fn := fun _ => fun
  | [d] => { results := [.lit (.bool false)], args := [d] }
  | _ => none }
def QueryEndsWrongFalsely : Prop := queryEndsRow.holds Tryz.pinned (OpenSpec.ofChange queryEndsWrong)

/-- 'sondagelaw24.GuardReads': WHATEVER THE INPUT: true; the input reads as it did. -/
def guardReadsSpec : ChangeSpec := { name := "guardReads", fn := fun _ => fun
  | [d1, d2, d3] => { results := [.lit (.bool true)], args := [d1, d2, d3] }
  | _ => none }
def guardReadsRow : OpenClaim := { program := "ytiblbnhknemloaagreat", sum := "e487d852c0e56f7221f7c5060a805293faf2bb71faae34de0169770d7bf7b912", func := "sondage/sondagelaw24.GuardReads", spec := "guardReads", inPlace := ["internal/bytealg.abigen_runtime_cmpstring", "math/bits.Sub64", "math/bits.Add64", "slices.overlaps[sondage/api.Bind]"], unfollowed := true, recurses := true, named := ["math/bits.divideError", "math/bits.overflowError"], loops := true, apart := false }
def GuardReadsSaid : Prop := guardReadsRow.holds Tryz.pinned (OpenSpec.ofChange guardReadsSpec)

/-- ITS FALSE NEIGHBOUR: 'it returns false'. Refute it at one input. -/
def guardReadsWrong : ChangeSpec := { name := "guardReads", fn := fun _ => fun
  | [d1, d2, d3] => { results := [.lit (.bool false)], args := [d1, d2, d3] }
  | _ => none }
def GuardReadsWrongFalsely : Prop := guardReadsRow.holds Tryz.pinned (OpenSpec.ofChange guardReadsWrong)

/-- 'sondagelaw24.GuardKeeps': WHATEVER THE INPUT: true; the input reads as it did. -/
def guardKeepsSpec : ChangeSpec := { name := "guardKeeps", fn := fun _ => fun
  | [d1, d2, d3] => { results := [.lit (.bool true)], args := [d1, d2, d3] }
  | _ => none }
def guardKeepsRow : OpenClaim := { program := "ytiblbnhknemloaagreat", sum := "e487d852c0e56f7221f7c5060a805293faf2bb71faae34de0169770d7bf7b912", func := "sondage/sondagelaw24.GuardKeeps", spec := "guardKeeps", inPlace := ["internal/bytealg.abigen_runtime_cmpstring", "math/bits.Sub64", "math/bits.Add64", "slices.overlaps[sondage/api.Bind]"], unfollowed := true, recurses := true, named := ["math/bits.divideError", "math/bits.overflowError"], loops := true, apart := false }
def GuardKeepsSaid : Prop := guardKeepsRow.holds Tryz.pinned (OpenSpec.ofChange guardKeepsSpec)

/-- ITS FALSE NEIGHBOUR: 'it returns false'. Refute it at one input. -/
def guardKeepsWrong : ChangeSpec := { name := "guardKeeps", fn := fun _ => fun
  | [d1, d2, d3] => { results := [.lit (.bool false)], args := [d1, d2, d3] }
  | _ => none }
def GuardKeepsWrongFalsely : Prop := guardKeepsRow.holds Tryz.pinned (OpenSpec.ofChange guardKeepsWrong)

/-- 'sondagelaw25.EdgeReads': WHATEVER THE INPUT: true; the input reads as it did. -/
def edgeReadsSpec : ChangeSpec := { name := "edgeReads", fn := fun _ => fun
  | [d1, d2] => { results := [.lit (.bool true)], args := [d1, d2] }
  | _ => none }
def edgeReadsRow : OpenClaim := { program := "ytiblbnhknemloaagreat", sum := "e487d852c0e56f7221f7c5060a805293faf2bb71faae34de0169770d7bf7b912", func := "sondage/sondagelaw25.EdgeReads", spec := "edgeReads", inPlace := ["internal/bytealg.abigen_runtime_cmpstring", "math/bits.Sub64", "math/bits.Add64", "slices.overlaps[sondage/api.Bind]"], unfollowed := true, recurses := true, named := ["math/bits.divideError", "math/bits.overflowError"], loops := true, apart := false }
def EdgeReadsSaid : Prop := edgeReadsRow.holds Tryz.pinned (OpenSpec.ofChange edgeReadsSpec)

/-- ITS FALSE NEIGHBOUR: 'it returns false'. Refute it at one input. -/
def edgeReadsWrong : ChangeSpec := { name := "edgeReads", fn := fun _ => fun
  | [d1, d2] => { results := [.lit (.bool false)], args := [d1, d2] }
  | _ => none }
def EdgeReadsWrongFalsely : Prop := edgeReadsRow.holds Tryz.pinned (OpenSpec.ofChange edgeReadsWrong)

/-- 'sondagelaw25.EdgeTargets': WHATEVER THE INPUT: true; the input reads as it did. -/
def edgeTargetsSpec : ChangeSpec := { name := "edgeTargets", fn := fun _ => fun
  | [d1, d2] => { results := [.lit (.bool true)], args := [d1, d2] }
  | _ => none }
def edgeTargetsRow : OpenClaim := { program := "ytiblbnhknemloaagreat", sum := "e487d852c0e56f7221f7c5060a805293faf2bb71faae34de0169770d7bf7b912", func := "sondage/sondagelaw25.EdgeTargets", spec := "edgeTargets", inPlace := ["internal/bytealg.abigen_runtime_cmpstring", "math/bits.Sub64", "math/bits.Add64", "slices.overlaps[sondage/api.Bind]"], unfollowed := true, recurses := true, named := ["math/bits.divideError", "math/bits.overflowError"], loops := true, apart := false }
def EdgeTargetsSaid : Prop := edgeTargetsRow.holds Tryz.pinned (OpenSpec.ofChange edgeTargetsSpec)

/-- ITS FALSE NEIGHBOUR: 'it returns false'. Refute it at one input. -/
def edgeTargetsWrong : ChangeSpec := { name := "edgeTargets", fn := fun _ => fun
  | [d1, d2] => { results := [.lit (.bool false)], args := [d1, d2] }
  | _ => none }
def EdgeTargetsWrongFalsely : Prop := edgeTargetsRow.holds Tryz.pinned (OpenSpec.ofChange edgeTargetsWrong)

/- THE SECOND FORM. 'bulk': how many values and letters a reading holds, each counted each time it is reached (what is shared counts as often as it is met; a slice's spare places count too). A statement '..UptoSaid' is the law's where the arguments, and the package variables that the reading takes, are together of bulk at most 1048576: NARROWER than '..Said'. Prove '..Said' where nothing that the law and all that it calls make is longer than what came in: it says more and counts as full. Else prove '..UptoSaid'. A law counts once. -/
mutual
def uptoBulk {H : Type} : DataW H → Nat
  | .lit (.string bytes) => bytes.length + 1
  | .lit _ => 1
  | .nil => 1
  | .ptr d => uptoBulk d + 1
  | .slice elems spare => uptoBulkAll elems + uptoBulkAll spare + 1
  | .agg parts => uptoBulkAll parts + 1
  | .iface _ d => uptoBulk d + 1
  | .map entries => uptoBulkEntries entries + 1
  | .held _ => 1
def uptoBulkAll {H : Type} : List (DataW H) → Nat
  | [] => 0
  | d :: r => uptoBulk d + uptoBulkAll r
def uptoBulkEntries {H : Type} : List (Lit × DataW H) → Nat
  | [] => 0
  | x :: r => uptoBulkEntry x + uptoBulkEntries r
def uptoBulkEntry {H : Type} : Lit × DataW H → Nat
  | (.string bytes, d) => bytes.length + uptoBulk d + 1
  | (_, d) => uptoBulk d + 1
 end
def uptoSmall : (H : Type) → List (DataW H) → Bool := fun _ ds => decide (uptoBulkAll ds ≤ 1048576)
def OpenSpec.upto (s : _root_.Go.ChangeSpec) : _root_.Go.OpenSpec := { _root_.Go.OpenSpec.ofChange s with cond := some uptoSmall }

/-- 'sondagelaw38.QueryEnds', WHERE WHAT IT READS IS OF BULK AT MOST 1048576: true; the input reads as it did. -/
def queryEndsUptoRow : OpenClaim := { program := "ytiblbnhknemloaagreat", sum := "e487d852c0e56f7221f7c5060a805293faf2bb71faae34de0169770d7bf7b912", func := "sondage/sondagelaw38.QueryEnds", spec := "queryEnds", inPlace := ["internal/bytealg.abigen_runtime_cmpstring", "math/bits.Sub64", "math/bits.Add64"], unfollowed := true, recurses := true, named := ["math/bits.divideError", "math/bits.overflowError"], loops := true, apart := false, narrowed := true }
def QueryEndsUptoSaid : Prop := queryEndsUptoRow.holds Tryz.pinned (OpenSpec.upto queryEndsSpec)

/-- 'sondagelaw24.GuardReads', WHERE WHAT IT READS IS OF BULK AT MOST 1048576: true; the input reads as it did. -/
def guardReadsUptoRow : OpenClaim := { program := "ytiblbnhknemloaagreat", sum := "e487d852c0e56f7221f7c5060a805293faf2bb71faae34de0169770d7bf7b912", func := "sondage/sondagelaw24.GuardReads", spec := "guardReads", inPlace := ["internal/bytealg.abigen_runtime_cmpstring", "math/bits.Sub64", "math/bits.Add64", "slices.overlaps[sondage/api.Bind]"], unfollowed := true, recurses := true, named := ["math/bits.divideError", "math/bits.overflowError"], loops := true, apart := false, narrowed := true }
def GuardReadsUptoSaid : Prop := guardReadsUptoRow.holds Tryz.pinned (OpenSpec.upto guardReadsSpec)

/-- 'sondagelaw24.GuardKeeps', WHERE WHAT IT READS IS OF BULK AT MOST 1048576: true; the input reads as it did. -/
def guardKeepsUptoRow : OpenClaim := { program := "ytiblbnhknemloaagreat", sum := "e487d852c0e56f7221f7c5060a805293faf2bb71faae34de0169770d7bf7b912", func := "sondage/sondagelaw24.GuardKeeps", spec := "guardKeeps", inPlace := ["internal/bytealg.abigen_runtime_cmpstring", "math/bits.Sub64", "math/bits.Add64", "slices.overlaps[sondage/api.Bind]"], unfollowed := true, recurses := true, named := ["math/bits.divideError", "math/bits.overflowError"], loops := true, apart := false, narrowed := true }
def GuardKeepsUptoSaid : Prop := guardKeepsUptoRow.holds Tryz.pinned (OpenSpec.upto guardKeepsSpec)

/-- 'sondagelaw25.EdgeReads', WHERE WHAT IT READS IS OF BULK AT MOST 1048576: true; the input reads as it did. -/
def edgeReadsUptoRow : OpenClaim := { program := "ytiblbnhknemloaagreat", sum := "e487d852c0e56f7221f7c5060a805293faf2bb71faae34de0169770d7bf7b912", func := "sondage/sondagelaw25.EdgeReads", spec := "edgeReads", inPlace := ["internal/bytealg.abigen_runtime_cmpstring", "math/bits.Sub64", "math/bits.Add64", "slices.overlaps[sondage/api.Bind]"], unfollowed := true, recurses := true, named := ["math/bits.divideError", "math/bits.overflowError"], loops := true, apart := false, narrowed := true }
def EdgeReadsUptoSaid : Prop := edgeReadsUptoRow.holds Tryz.pinned (OpenSpec.upto edgeReadsSpec)

/-- 'sondagelaw25.EdgeTargets', WHERE WHAT IT READS IS OF BULK AT MOST 1048576: true; the input reads as it did. -/
def edgeTargetsUptoRow : OpenClaim := { program := "ytiblbnhknemloaagreat", sum := "e487d852c0e56f7221f7c5060a805293faf2bb71faae34de0169770d7bf7b912", func := "sondage/sondagelaw25.EdgeTargets", spec := "edgeTargets", inPlace := ["internal/bytealg.abigen_runtime_cmpstring", "math/bits.Sub64", "math/bits.Add64", "slices.overlaps[sondage/api.Bind]"], unfollowed := true, recurses := true, named := ["math/bits.divideError", "math/bits.overflowError"], loops := true, apart := false, narrowed := true }
def EdgeTargetsUptoSaid : Prop := edgeTargetsUptoRow.holds Tryz.pinned (OpenSpec.upto edgeTargetsSpec)

end Rows
end Go.Proofs.YtiblbnhknemloaaGreat
