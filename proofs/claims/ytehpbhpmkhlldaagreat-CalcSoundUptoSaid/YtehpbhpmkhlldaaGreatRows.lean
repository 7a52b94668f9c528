/-
  No cell of these rows narrows 'for every input' (looked for: loops, veiled, ifaces, maps, wideKeys, modest, calm, conditions, laid).
  DERIVED. THE GIVEN ROWS OF THIS SEAT. 4 by the template 'for every input the law returns true; each argument reads behind the call as it read before'; 0 by the template 'total and deterministic' (their statements: YtehpbhpmkhlldaaGreatTotals.lean).
  GIVEN WITH THE SEED: the statements are not yours to turn. If you find one false, say at which input.
  Laid BY PROGRAM, IN A SANDBOX (cutbox-rows.mjs): the forced cells as the released guide's own fill.sh prints them over the translation 17744908f76ed3b5… (all of the seat's roots in one cut). By AI agents, Wed Nov 11 2026. No macro, syntax, notation, axiom, sorry.
-/
import Derived.Test.YtehpbhpmkhlldaaGreatChecked
import GoSem.Claim
import GoSem.ClaimJoined
import GoSem.ClaimMapViews
import Derived.JoinedTies
import Derived.KernelRfl
namespace Go.Proofs.YtehpbhpmkhlldaaGreat
/- THE CELL 'sum', in the pinned program and in every row, IS THE sha256 OF THE DUMP (.gsa) THAT YtehpbhpmkhlldaaGreatProg.lean LOADS. Nothing in Lean hashes anything: it is a label: what it is worth is what the hold of that sum in a sandbox is worth. -/
noncomputable def Tryz.pinned : Pinned := { name := "ytehpbhpmkhlldaagreat", sum := "17744908f76ed3b52998450c0af8b9c976084fd6e917adf4b4a6b8ed10a5c587", checked := Tryz.checked }
namespace Rows
def none {H : Type} : Left H := { results := [], args := [] }

/-- 'sondagelaw08.ValueMeets': WHATEVER THE INPUT: true; the input reads as it did. -/
def valueMeetsSpec : ChangeSpec := { name := "valueMeets", fn := fun _ => fun
  | [d] => { results := [.lit (.bool true)], args := [d] }
  | _ => none }
def valueMeetsRow : OpenClaim := { program := "ytehpbhpmkhlldaagreat", sum := "17744908f76ed3b52998450c0af8b9c976084fd6e917adf4b4a6b8ed10a5c587", func := "sondage/sondagelaw08.ValueMeets", spec := "valueMeets", inPlace := ["internal/bytealg.abigen_runtime_cmpstring", "math/bits.Sub64", "math/bits.Add64"], unfollowed := true, recurses := true, named := ["math/bits.divideError", "math/bits.overflowError"], apart := false }
def ValueMeetsSaid : Prop := valueMeetsRow.holds Tryz.pinned (OpenSpec.ofChange valueMeetsSpec)

/-- ITS FALSE NEIGHBOUR: 'it returns false'. Refute it at one input. -/
def valueMeetsWrong : ChangeSpec := { name := "valueMeets", fn := fun _ => fun
  | [d] => { results := [.lit (.bool false)], args := [d] }
  | _ => none }
def ValueMeetsWrongFalsely : Prop := valueMeetsRow.holds Tryz.pinned (OpenSpec.ofChange valueMeetsWrong)

/-- 'sondagelaw09.CalcExact': WHATEVER THE INPUT: true; the input reads as it did. -/
def calcExactSpec : ChangeSpec := { name := "calcExact", fn := fun _ => fun
  | [d1, d2, d3] => { results := [.lit (.bool true)], args := [d1, d2, d3] }
  | _ => none }
def calcExactRow : OpenClaim := { program := "ytehpbhpmkhlldaagreat", sum := "17744908f76ed3b52998450c0af8b9c976084fd6e917adf4b4a6b8ed10a5c587", func := "sondage/sondagelaw09.CalcExact", spec := "calcExact", inPlace := ["internal/bytealg.abigen_runtime_cmpstring", "math/bits.Add64", "math/bits.Sub64"], unfollowed := true, recurses := true, named := ["math/bits.divideError", "math/bits.overflowError"], apart := false }
def CalcExactSaid : Prop := calcExactRow.holds Tryz.pinned (OpenSpec.ofChange calcExactSpec)

/-- ITS FALSE NEIGHBOUR: 'it returns false'. Refute it at one input. -/
def calcExactWrong : ChangeSpec := { name := "calcExact", fn := fun _ => fun
  | [d1, d2, d3] => { results := [.lit (.bool false)], args := [d1, d2, d3] }
  | _ => none }
def CalcExactWrongFalsely : Prop := calcExactRow.holds Tryz.pinned (OpenSpec.ofChange calcExactWrong)

/-- 'sondagelaw09.CalcTo': WHATEVER THE INPUT: true; the input reads as it did. -/
def calcToSpec : ChangeSpec := { name := "calcTo", fn := fun _ => fun
  | [d1, d2, d3] => { results := [.lit (.bool true)], args := [d1, d2, d3] }
  | _ => none }
def calcToRow : OpenClaim := { program := "ytehpbhpmkhlldaagreat", sum := "17744908f76ed3b52998450c0af8b9c976084fd6e917adf4b4a6b8ed10a5c587", func := "sondage/sondagelaw09.CalcTo", spec := "calcTo", inPlace := ["internal/bytealg.abigen_runtime_cmpstring", "math/bits.Add64", "math/bits.Sub64"], unfollowed := true, recurses := true, named := ["math/bits.divideError", "math/bits.overflowError"], apart := false }
def CalcToSaid : Prop := calcToRow.holds Tryz.pinned (OpenSpec.ofChange calcToSpec)

/-- ITS FALSE NEIGHBOUR: 'it returns false'. Refute it at one input. -/
def calcToWrong : ChangeSpec := { name := "calcTo", fn := fun _ => fun
  | [d1, d2, d3] => { results := [.lit (.bool false)], args := [d1, d2, d3] }
  | _ => none }
def CalcToWrongFalsely : Prop := calcToRow.holds Tryz.pinned (OpenSpec.ofChange calcToWrong)

/-- 'sondagelaw09.CalcSound': WHATEVER THE INPUT: true; the input reads as it did. -/
def calcSoundSpec : ChangeSpec := { name := "calcSound", fn := fun _ => fun
  | [d] => { results := [.lit (.bool true)], args := [d] }
  | _ => none }
def calcSoundRow : OpenClaim := { program := "ytehpbhpmkhlldaagreat", sum := "17744908f76ed3b52998450c0af8b9c976084fd6e917adf4b4a6b8ed10a5c587", func := "sondage/sondagelaw09.CalcSound", spec := "calcSound", inPlace := ["internal/bytealg.abigen_runtime_cmpstring", "math/bits.Add64", "math/bits.Sub64"], unfollowed := true, recurses := true, named := ["math/bits.divideError", "math/bits.overflowError"], apart := false }
def CalcSoundSaid : Prop := calcSoundRow.holds Tryz.pinned (OpenSpec.ofChange calcSoundSpec)

/-- ITS FALSE NEIGHBOUR: 'it returns false'. Refute it at one input. -/
def calcSoundWrong : ChangeSpec := { name := "calcSound", fn := fun _ => fun
  | [d] => { results := [.lit (.bool false)], args := [d] }
  | _ => none }
def CalcSoundWrongFalsely : Prop := calcSoundRow.holds Tryz.pinned (OpenSpec.ofChange calcSoundWrong)

/- THE SECOND FORM. 'bulk': how many values and letters a reading holds, each counted each time it is reached (what is shared counts as often as it is met; a slice's spare places count too). A statement '..UptoSaid' is the law's where the arguments, and the package variables that the reading takes, are together of bulk at most 1048576: NARROWER than '..Said'. Prove '..Said' where nothing that the law and all that it calls make is longer than what came in: it says more and counts as full. Else prove '..UptoSaid'. A law counts once. -/
mutual
def uptoBulk {H : Type} : DataW H → Nat
  | .lit (.string bytes) => bytes.length + 1
  | .lit _ => 1
  | .nil => 1
  | .ptr d => uptoBulk d + 1
  | .slice elems spare => uptoBulkAll elems + uptoBulkAll spare + 1
  | .agg parts => uptoBulkAll parts + 1
  | .iface _ d => uptoBulk d + 1
  | .map entries => uptoBulkEntries entries + 1
  | .held _ => 1
def uptoBulkAll {H : Type} : List (DataW H) → Nat
  | [] => 0
  | d :: r => uptoBulk d + uptoBulkAll r
def uptoBulkEntries {H : Type} : List (Lit × DataW H) → Nat
  | [] => 0
  | x :: r => uptoBulkEntry x + uptoBulkEntries r
def uptoBulkEntry {H : Type} : Lit × DataW H → Nat
  | (.string bytes, d) => bytes.length + uptoBulk d + 1
  | (_, d) => uptoBulk d + 1
 end
def uptoSmall : (H : Type) → List (DataW H) → Bool := fun _ ds => decide (uptoBulkAll ds ≤ 1048576)
def OpenSpec.upto (s : _root_.Go.ChangeSpec) : _root_.Go.OpenSpec := { _root_.Go.OpenSpec.ofChange s with cond := some uptoSmall }

/-- 'sondagelaw08.ValueMeets', WHERE WHAT IT READS IS OF BULK AT MOST 1048576: true; the input reads as it did. -/
def valueMeetsUptoRow : OpenClaim := { program := "ytehpbhpmkhlldaagreat", sum := "17744908f76ed3b52998450c0af8b9c976084fd6e917adf4b4a6b8ed10a5c587", func := "sondage/sondagelaw08.ValueMeets", spec := "valueMeets", inPlace := ["internal/bytealg.abigen_runtime_cmpstring", "math/bits.Sub64", "math/bits.Add64"], unfollowed := true, recurses := true, named := ["math/bits.divideError", "math/bits.overflowError"], apart := false, narrowed := true }
def ValueMeetsUptoSaid : Prop := valueMeetsUptoRow.holds Tryz.pinned (OpenSpec.upto valueMeetsSpec)

/-- 'sondagelaw09.CalcExact', WHERE WHAT IT READS IS OF BULK AT MOST 1048576: true; the input reads as it did. -/
def calcExactUptoRow : OpenClaim := { program := "ytehpbhpmkhlldaagreat", sum := "17744908f76ed3b52998450c0af8b9c976084fd6e917adf4b4a6b8ed10a5c587", func := "sondage/sondagelaw09.CalcExact", spec := "calcExact", inPlace := ["internal/bytealg.abigen_runtime_cmpstring", "math/bits.Add64", "math/bits.Sub64"], unfollowed := true, recurses := true, named := ["math/bits.divideError", "math/bits.overflowError"], apart := false, narrowed := true }
def CalcExactUptoSaid : Prop := calcExactUptoRow.holds Tryz.pinned (OpenSpec.upto calcExactSpec)

/-- 'sondagelaw09.CalcTo', WHERE WHAT IT READS IS OF BULK AT MOST 1048576: true; the input reads as it did. -/
def calcToUptoRow : OpenClaim := { program := "ytehpbhpmkhlldaagreat", sum := "17744908f76ed3b52998450c0af8b9c976084fd6e917adf4b4a6b8ed10a5c587", func := "sondage/sondagelaw09.CalcTo", spec := "calcTo", inPlace := ["internal/bytealg.abigen_runtime_cmpstring", "math/bits.Add64", "math/bits.Sub64"], unfollowed := true, recurses := true, named := ["math/bits.divideError", "math/bits.overflowError"], apart := false, narrowed := true }
def CalcToUptoSaid : Prop := calcToUptoRow.holds Tryz.pinned (OpenSpec.upto calcToSpec)

/-- 'sondagelaw09.CalcSound', WHERE WHAT IT READS IS OF BULK AT MOST 1048576: true; the input reads as it did. -/
def calcSoundUptoRow : OpenClaim := { program := "ytehpbhpmkhlldaagreat", sum := "17744908f76ed3b52998450c0af8b9c976084fd6e917adf4b4a6b8ed10a5c587", func := "sondage/sondagelaw09.CalcSound", spec := "calcSound", inPlace := ["internal/bytealg.abigen_runtime_cmpstring", "math/bits.Add64", "math/bits.Sub64"], unfollowed := true, recurses := true, named := ["math/bits.divideError", "math/bits.overflowError"], apart := false, narrowed := true }
def CalcSoundUptoSaid : Prop := calcSoundUptoRow.holds Tryz.pinned (OpenSpec.upto calcSoundSpec)

end Rows
end Go.Proofs.YtehpbhpmkhlldaaGreat
