/-
  NARROWER THAN 'FOR EVERY INPUT', by the rows' own cells (each row's printed sentence says how): LookReads: loops · LookNames: loops.
  DERIVED. THE GIVEN ROWS OF THIS SEAT. 2 by the template 'for every input the law returns true; each argument reads behind the call as it read before'; 0 by the template 'total and deterministic' (their statements: YtokjghkehojenaaGreatTotals.lean).
  GIVEN WITH THE SEED: the statements are not yours to turn. If you find one false, say at which input.
  Laid BY PROGRAM, IN A SANDBOX (cutbox-rows.mjs): the forced cells as the released guide's own fill.sh prints them over the translation b0cc828f2892bd04… (all of the seat's roots in one cut). By AI agents, Wed Nov 11 2026. No macro, syntax, notation, axiom, sorry.
-/
import Derived.Test.YtokjghkehojenaaGreatChecked
import GoSem.Claim
import GoSem.ClaimJoined
import GoSem.ClaimMapViews
import Derived.JoinedTies
import Derived.KernelRfl
namespace Go.Proofs.YtokjghkehojenaaGreat
/- THE CELL 'sum', in the pinned program and in every row, IS THE sha256 OF THE DUMP (.gsa) THAT YtokjghkehojenaaGreatProg.lean LOADS. Nothing in Lean hashes anything: it is a label: what it is worth is what the hold of that sum in a sandbox is worth. -/
noncomputable def Tryz.pinned : Pinned := { name := "ytokjghkehojenaagreat", sum := "b0cc828f2892bd04f05ae1c76a4e0baad26765461b615860f3969213809fc582", checked := Tryz.checked }
namespace Rows
def none {H : Type} : Left H := { results := [], args := [] }

/-- 'sondagelaw23.LookReads': WHATEVER THE INPUT: true; the input reads as it did. -/
def lookReadsSpec : ChangeSpec := { name := "lookReads", fn := fun _ => fun
  | [d1, d2] => { results := [.lit (.bool true)], args := [d1, d2] }
  | _ => none }
def lookReadsRow : OpenClaim := { program := "ytokjghkehojenaagreat", sum := "b0cc828f2892bd04f05ae1c76a4e0baad26765461b615860f3969213809fc582", func := "sondage/sondagelaw23.LookReads", spec := "lookReads", inPlace := ["internal/bytealg.abigen_runtime_cmpstring", "math/bits.Sub64", "math/bits.Add64"], unfollowed := true, recurses := true, named := ["math/bits.divideError", "math/bits.overflowError"], loops := true, apart := false }
def LookReadsSaid : Prop := lookReadsRow.holds Tryz.pinned (OpenSpec.ofChange lookReadsSpec)

/-- ITS FALSE NEIGHBOUR: 'it returns false'. Refute it at one input. -/
def lookReadsWrong : ChangeSpec := { name := "lookReads", fn := fun _ => fun
  | [d1, d2] => { results := [.lit (.bool false)], args := [d1, d2] }
  | _ => none }
def LookReadsWrongFalsely : Prop := lookReadsRow.holds Tryz.pinned (OpenSpec.ofChange lookReadsWrong)

/-- 'sondagelaw23.LookNames': WHATEVER THE INPUT: true; the input reads as it did. -/
def lookNamesSpec : ChangeSpec := { name := "lookNames", fn := fun _ => fun
  | [d1, d2, d3] => { results := [.lit (.bool true)], args := [d1, d2, d3] }
  | _ => none }
def lookNamesRow : OpenClaim := { program := "ytokjghkehojenaagreat", sum := "b0cc828f2892bd04f05ae1c76a4e0baad26765461b615860f3969213809fc582", func := "sondage/sondagelaw23.LookNames", spec := "lookNames", inPlace := ["internal/bytealg.abigen_runtime_cmpstring", "math/bits.Add64", "math/bits.Sub64"], unfollowed := true, recurses := true, named := ["math/bits.divideError", "math/bits.overflowError"], loops := true, apart := false }
def LookNamesSaid : Prop := lookNamesRow.holds Tryz.pinned (OpenSpec.ofChange lookNamesSpec)

/-- ITS FALSE NEIGHBOUR: 'it returns false'. Refute it at one input. -/
def lookNamesWrong : ChangeSpec := { name := "lookNames", fn := fun _ => fun
  | [d1, d2, d3] => { results := [.lit (.bool false)], args := [d1, d2, d3] }
  | _ => none }
def LookNamesWrongFalsely : Prop := lookNamesRow.holds Tryz.pinned (OpenSpec.ofChange lookNamesWrong)

/- THE SECOND FORM. 'bulk': how many values and letters a reading holds, each counted each time it is reached (what is shared counts as often as it is met; a slice's spare places count too). A statement '..UptoSaid' is the law's where the arguments, and the package variables that the reading takes, are together of bulk at most 1048576: NARROWER than '..Said'. Prove '..Said' where nothing that the law and all that it calls make is longer than what came in: it says more and counts as full. Else prove '..UptoSaid'. A law counts once. -/
mutual
def uptoBulk {H : Type} : DataW H → Nat
  | .lit (.string bytes) => bytes.length + 1
  | .lit _ => 1
  | .nil => 1
  | .ptr d => uptoBulk d + 1
  | .slice elems spare => uptoBulkAll elems + uptoBulkAll spare + 1
  | .agg parts => uptoBulkAll parts + 1
  | .iface _ d => uptoBulk d + 1
  | .map entries => uptoBulkEntries entries + 1
  | .held _ => 1
def uptoBulkAll {H : Type} : List (DataW H) → Nat
  | [] => 0
  | d :: r => uptoBulk d + uptoBulkAll r
def uptoBulkEntries {H : Type} : List (Lit × DataW H) → Nat
  | [] => 0
  | x :: r => uptoBulkEntry x + uptoBulkEntries r
def uptoBulkEntry {H : Type} : Lit × DataW H → Nat
  | (.string bytes, d) => bytes.length + uptoBulk d + 1
  | (_, d) => uptoBulk d + 1
 end
def uptoSmall : (H : Type) → List (DataW H) → Bool := fun _ ds => decide (uptoBulkAll ds ≤ 1048576)
def OpenSpec.upto (s : _root_.Go.ChangeSpec) : _root_.Go.OpenSpec := { _root_.Go.OpenSpec.ofChange s with cond := some uptoSmall }

/-- 'sondagelaw23.LookReads', WHERE WHAT IT READS IS OF BULK AT MOST 1048576: true; the input reads as it did. -/
def lookReadsUptoRow : OpenClaim := { program := "ytokjghkehojenaagreat", sum := "b0cc828f2892bd04f05ae1c76a4e0baad26765461b615860f3969213809fc582", func := "sondage/sondagelaw23.LookReads", spec := "lookReads", inPlace := ["internal/bytealg.abigen_runtime_cmpstring", "math/bits.Sub64", "math/bits.Add64"], unfollowed := true, recurses := true, named := ["math/bits.divideError", "math/bits.overflowError"], loops := true, apart := false, narrowed := true }
def LookReadsUptoSaid : Prop := lookReadsUptoRow.holds Tryz.pinned (OpenSpec.upto lookReadsSpec)

/-- 'sondagelaw23.LookNames', WHERE WHAT IT READS IS OF BULK AT MOST 1048576: true; the input reads as it did. -/
def lookNamesUptoRow : OpenClaim := { program := "ytokjghkehojenaagreat", sum := "b0cc828f2892bd04f05ae1c76a4e0baad26765461b615860f3969213809fc582", func := "sondage/sondagelaw23.LookNames", spec := "lookNames", inPlace := ["internal/bytealg.abigen_runtime_cmpstring", "math/bits.Add64", "math/bits.Sub64"], unfollowed := true, recurses := true, named := ["math/bits.divideError", "math/bits.overflowError"], loops := true, apart := false, narrowed := true }
def LookNamesUptoSaid : Prop := lookNamesUptoRow.holds Tryz.pinned (OpenSpec.upto lookNamesSpec)

end Rows
end Go.Proofs.YtokjghkehojenaaGreat
