/-
  No cell of these rows narrows 'for every input' (looked for: loops, veiled, ifaces, maps, wideKeys, modest, calm, conditions, laid).
  DERIVED. THE GIVEN ROWS OF THIS SEAT. 9 by the template 'for every input the law returns true; each argument reads behind the call as it read before'; 0 by the template 'total and deterministic' (their statements: YtoejfnghpeiabaaTotals.lean).
  GIVEN WITH THE SEED: the statements are not yours to turn. If you find one false, say at which input.
  Laid BY PROGRAM, IN A SANDBOX (cutbox-rows.mjs): the forced cells as the released guide's own fill.sh prints them over the translation 40aa2c4032f12444… (all of the seat's roots in one cut). By AI agents, Wed Nov 11 2026. No macro, syntax, notation, axiom, sorry.
-/
import Derived.Test.YtoejfnghpeiabaaChecked
import GoSem.Claim
import GoSem.ClaimJoined
import GoSem.ClaimMapViews
import Derived.JoinedTies
import Derived.KernelRfl
namespace Go.Proofs.Ytoejfnghpeiabaa
/- THE CELL 'sum', in the pinned program and in every row, IS THE sha256 OF THE DUMP (.gsa) THAT YtoejfnghpeiabaaProg.lean LOADS. Nothing in Lean hashes anything: it is a label: what it is worth is what the hold of that sum in a sandbox is worth. -/
noncomputable def Try.pinned : Pinned := { name := "ytoejfnghpeiabaa", sum := "40aa2c4032f12444270931e52c81cfd2060f41e10e6397d32112d1de2458e60a", checked := Try.checked }
namespace Rows
def none {H : Type} : Left H := { results := [], args := [] }

/-- 'sondagelaw35.GaugeCounts': WHATEVER THE INPUT: true; the input reads as it did. -/
def gaugeCountsSpec : ChangeSpec := { name := "gaugeCounts", fn := fun _ => fun
  | [d] => { results := [.lit (.bool true)], args := [d] }
  | _ => none }
def gaugeCountsRow : OpenClaim := { program := "ytoejfnghpeiabaa", sum := "40aa2c4032f12444270931e52c81cfd2060f41e10e6397d32112d1de2458e60a", func := "sondage/sondagelaw35.GaugeCounts", spec := "gaugeCounts", apart := false }
def GaugeCountsSaid : Prop := gaugeCountsRow.holds Try.pinned (OpenSpec.ofChange gaugeCountsSpec)

/-- ITS FALSE NEIGHBOUR: 'it returns false'. Refute it at one input. -/
def gaugeCountsWrong : ChangeSpec := { name := "gaugeCounts", fn := fun _ => fun
  | [d] => { results := [.lit (.bool false)], args := [d] }
  | _ => none }
def GaugeCountsWrongFalsely : Prop := gaugeCountsRow.holds Try.pinned (OpenSpec.ofChange gaugeCountsWrong)

/-- 'sondagelaw35.GaugeOrder': WHATEVER THE INPUT: true; the input reads as it did. -/
def gaugeOrderSpec : ChangeSpec := { name := "gaugeOrder", fn := fun _ => fun
  | [d1, d2] => { results := [.lit (.bool true)], args := [d1, d2] }
  | _ => none }
def gaugeOrderRow : OpenClaim := { program := "ytoejfnghpeiabaa", sum := "40aa2c4032f12444270931e52c81cfd2060f41e10e6397d32112d1de2458e60a", func := "sondage/sondagelaw35.GaugeOrder", spec := "gaugeOrder", apart := false }
def GaugeOrderSaid : Prop := gaugeOrderRow.holds Try.pinned (OpenSpec.ofChange gaugeOrderSpec)

/-- ITS FALSE NEIGHBOUR: 'it returns false'. Refute it at one input. -/
def gaugeOrderWrong : ChangeSpec := { name := "gaugeOrder", fn := fun _ => fun
  | [d1, d2] => { results := [.lit (.bool false)], args := [d1, d2] }
  | _ => none }
def GaugeOrderWrongFalsely : Prop := gaugeOrderRow.holds Try.pinned (OpenSpec.ofChange gaugeOrderWrong)

/-- 'sondagelaw35.GaugeNone': WHATEVER THE INPUT: true; the input reads as it did. -/
def gaugeNoneSpec : ChangeSpec := { name := "gaugeNone", fn := fun _ => fun
  | [d1, d2] => { results := [.lit (.bool true)], args := [d1, d2] }
  | _ => none }
def gaugeNoneRow : OpenClaim := { program := "ytoejfnghpeiabaa", sum := "40aa2c4032f12444270931e52c81cfd2060f41e10e6397d32112d1de2458e60a", func := "sondage/sondagelaw35.GaugeNone", spec := "gaugeNone", apart := false }
def GaugeNoneSaid : Prop := gaugeNoneRow.holds Try.pinned (OpenSpec.ofChange gaugeNoneSpec)

/-- ITS FALSE NEIGHBOUR: 'it returns false'. Refute it at one input. -/
def gaugeNoneWrong : ChangeSpec := { name := "gaugeNone", fn := fun _ => fun
  | [d1, d2] => { results := [.lit (.bool false)], args := [d1, d2] }
  | _ => none }
def GaugeNoneWrongFalsely : Prop := gaugeNoneRow.holds Try.pinned (OpenSpec.ofChange gaugeNoneWrong)

/-- 'sondagelaw03.SpanMakes': WHATEVER THE INPUT: true; the input reads as it did. -/
def spanMakesSpec : ChangeSpec := { name := "spanMakes", fn := fun _ => fun
  | [d1, d2, d3] => { results := [.lit (.bool true)], args := [d1, d2, d3] }
  | _ => none }
def spanMakesRow : OpenClaim := { program := "ytoejfnghpeiabaa", sum := "40aa2c4032f12444270931e52c81cfd2060f41e10e6397d32112d1de2458e60a", func := "sondage/sondagelaw03.SpanMakes", spec := "spanMakes", apart := false }
def SpanMakesSaid : Prop := spanMakesRow.holds Try.pinned (OpenSpec.ofChange spanMakesSpec)

/-- ITS FALSE NEIGHBOUR: 'it returns false'. Refute it at one input. -/
def spanMakesWrong : ChangeSpec := { name := "spanMakes", fn := fun _ => fun
  | [d1, d2, d3] => { results := [.lit (.bool false)], args := [d1, d2, d3] }
  | _ => none }
def SpanMakesWrongFalsely : Prop := spanMakesRow.holds Try.pinned (OpenSpec.ofChange spanMakesWrong)

/-- 'sondagelaw03.SpanClimbs': WHATEVER THE INPUT: true; the input reads as it did. -/
def spanClimbsSpec : ChangeSpec := { name := "spanClimbs", fn := fun _ => fun
  | [d1, d2] => { results := [.lit (.bool true)], args := [d1, d2] }
  | _ => none }
def spanClimbsRow : OpenClaim := { program := "ytoejfnghpeiabaa", sum := "40aa2c4032f12444270931e52c81cfd2060f41e10e6397d32112d1de2458e60a", func := "sondage/sondagelaw03.SpanClimbs", spec := "spanClimbs", apart := false }
def SpanClimbsSaid : Prop := spanClimbsRow.holds Try.pinned (OpenSpec.ofChange spanClimbsSpec)

/-- ITS FALSE NEIGHBOUR: 'it returns false'. Refute it at one input. -/
def spanClimbsWrong : ChangeSpec := { name := "spanClimbs", fn := fun _ => fun
  | [d1, d2] => { results := [.lit (.bool false)], args := [d1, d2] }
  | _ => none }
def SpanClimbsWrongFalsely : Prop := spanClimbsRow.holds Try.pinned (OpenSpec.ofChange spanClimbsWrong)

/-- 'sondagelaw03.SpanSets': WHATEVER THE INPUT: true; the input reads as it did. -/
def spanSetsSpec : ChangeSpec := { name := "spanSets", fn := fun _ => fun
  | [d1, d2, d3] => { results := [.lit (.bool true)], args := [d1, d2, d3] }
  | _ => none }
def spanSetsRow : OpenClaim := { program := "ytoejfnghpeiabaa", sum := "40aa2c4032f12444270931e52c81cfd2060f41e10e6397d32112d1de2458e60a", func := "sondage/sondagelaw03.SpanSets", spec := "spanSets", apart := false }
def SpanSetsSaid : Prop := spanSetsRow.holds Try.pinned (OpenSpec.ofChange spanSetsSpec)

/-- ITS FALSE NEIGHBOUR: 'it returns false'. Refute it at one input. -/
def spanSetsWrong : ChangeSpec := { name := "spanSets", fn := fun _ => fun
  | [d1, d2, d3] => { results := [.lit (.bool false)], args := [d1, d2, d3] }
  | _ => none }
def SpanSetsWrongFalsely : Prop := spanSetsRow.holds Try.pinned (OpenSpec.ofChange spanSetsWrong)

/-- 'sondagelaw03.SpanWidens': WHATEVER THE INPUT: true; the input reads as it did. -/
def spanWidensSpec : ChangeSpec := { name := "spanWidens", fn := fun _ => fun
  | [d1, d2, d3] => { results := [.lit (.bool true)], args := [d1, d2, d3] }
  | _ => none }
def spanWidensRow : OpenClaim := { program := "ytoejfnghpeiabaa", sum := "40aa2c4032f12444270931e52c81cfd2060f41e10e6397d32112d1de2458e60a", func := "sondage/sondagelaw03.SpanWidens", spec := "spanWidens", apart := false }
def SpanWidensSaid : Prop := spanWidensRow.holds Try.pinned (OpenSpec.ofChange spanWidensSpec)

/-- ITS FALSE NEIGHBOUR: 'it returns false'. Refute it at one input. -/
def spanWidensWrong : ChangeSpec := { name := "spanWidens", fn := fun _ => fun
  | [d1, d2, d3] => { results := [.lit (.bool false)], args := [d1, d2, d3] }
  | _ => none }
def SpanWidensWrongFalsely : Prop := spanWidensRow.holds Try.pinned (OpenSpec.ofChange spanWidensWrong)

/-- 'sondagelaw03.SpanLattice': WHATEVER THE INPUT: true; the input reads as it did. -/
def spanLatticeSpec : ChangeSpec := { name := "spanLattice", fn := fun _ => fun
  | [d1, d2, d3] => { results := [.lit (.bool true)], args := [d1, d2, d3] }
  | _ => none }
def spanLatticeRow : OpenClaim := { program := "ytoejfnghpeiabaa", sum := "40aa2c4032f12444270931e52c81cfd2060f41e10e6397d32112d1de2458e60a", func := "sondage/sondagelaw03.SpanLattice", spec := "spanLattice", apart := false }
def SpanLatticeSaid : Prop := spanLatticeRow.holds Try.pinned (OpenSpec.ofChange spanLatticeSpec)

/-- ITS FALSE NEIGHBOUR: 'it returns false'. Refute it at one input. -/
def spanLatticeWrong : ChangeSpec := { name := "spanLattice", fn := fun _ => fun
  | [d1, d2, d3] => { results := [.lit (.bool false)], args := [d1, d2, d3] }
  | _ => none }
def SpanLatticeWrongFalsely : Prop := spanLatticeRow.holds Try.pinned (OpenSpec.ofChange spanLatticeWrong)

/-- 'sondagelaw03.SpanFalls': WHATEVER THE INPUT: true; the input reads as it did. -/
def spanFallsSpec : ChangeSpec := { name := "spanFalls", fn := fun _ => fun
  | [d1, d2] => { results := [.lit (.bool true)], args := [d1, d2] }
  | _ => none }
def spanFallsRow : OpenClaim := { program := "ytoejfnghpeiabaa", sum := "40aa2c4032f12444270931e52c81cfd2060f41e10e6397d32112d1de2458e60a", func := "sondage/sondagelaw03.SpanFalls", spec := "spanFalls", apart := false }
def SpanFallsSaid : Prop := spanFallsRow.holds Try.pinned (OpenSpec.ofChange spanFallsSpec)

/-- ITS FALSE NEIGHBOUR: 'it returns false'. Refute it at one input. -/
def spanFallsWrong : ChangeSpec := { name := "spanFalls", fn := fun _ => fun
  | [d1, d2] => { results := [.lit (.bool false)], args := [d1, d2] }
  | _ => none }
def SpanFallsWrongFalsely : Prop := spanFallsRow.holds Try.pinned (OpenSpec.ofChange spanFallsWrong)

/- THE SECOND FORM. 'bulk': how many values and letters a reading holds, each counted each time it is reached (what is shared counts as often as it is met; a slice's spare places count too). A statement '..UptoSaid' is the law's where the arguments, and the package variables that the reading takes, are together of bulk at most 1048576: NARROWER than '..Said'. Prove '..Said' where nothing that the law and all that it calls make is longer than what came in: it says more and counts as full. Else prove '..UptoSaid'. A law counts once. -/
mutual
def uptoBulk {H : Type} : DataW H → Nat
  | .lit (.string bytes) => bytes.length + 1
  | .lit _ => 1
  | .nil => 1
  | .ptr d => uptoBulk d + 1
  | .slice elems spare => uptoBulkAll elems + uptoBulkAll spare + 1
  | .agg parts => uptoBulkAll parts + 1
  | .iface _ d => uptoBulk d + 1
  | .map entries => uptoBulkEntries entries + 1
  | .held _ => 1
def uptoBulkAll {H : Type} : List (DataW H) → Nat
  | [] => 0
  | d :: r => uptoBulk d + uptoBulkAll r
def uptoBulkEntries {H : Type} : List (Lit × DataW H) → Nat
  | [] => 0
  | x :: r => uptoBulkEntry x + uptoBulkEntries r
def uptoBulkEntry {H : Type} : Lit × DataW H → Nat
  | (.string bytes, d) => bytes.length + uptoBulk d + 1
  | (_, d) => uptoBulk d + 1
 end
def uptoSmall : (H : Type) → List (DataW H) → Bool := fun _ ds => decide (uptoBulkAll ds ≤ 1048576)
def OpenSpec.upto (s : _root_.Go.ChangeSpec) : _root_.Go.OpenSpec := { _root_.Go.OpenSpec.ofChange s with cond := some uptoSmall }

/-- 'sondagelaw35.GaugeCounts', WHERE WHAT IT READS IS OF BULK AT MOST 1048576: true; the input reads as it did. -/
def gaugeCountsUptoRow : OpenClaim := { program := "ytoejfnghpeiabaa", sum := "40aa2c4032f12444270931e52c81cfd2060f41e10e6397d32112d1de2458e60a", func := "sondage/sondagelaw35.GaugeCounts", spec := "gaugeCounts", apart := false, narrowed := true }
def GaugeCountsUptoSaid : Prop := gaugeCountsUptoRow.holds Try.pinned (OpenSpec.upto gaugeCountsSpec)

/-- 'sondagelaw35.GaugeOrder', WHERE WHAT IT READS IS OF BULK AT MOST 1048576: true; the input reads as it did. -/
def gaugeOrderUptoRow : OpenClaim := { program := "ytoejfnghpeiabaa", sum := "40aa2c4032f12444270931e52c81cfd2060f41e10e6397d32112d1de2458e60a", func := "sondage/sondagelaw35.GaugeOrder", spec := "gaugeOrder", apart := false, narrowed := true }
def GaugeOrderUptoSaid : Prop := gaugeOrderUptoRow.holds Try.pinned (OpenSpec.upto gaugeOrderSpec)

/-- 'sondagelaw35.GaugeNone', WHERE WHAT IT READS IS OF BULK AT MOST 1048576: true; the input reads as it did. -/
def gaugeNoneUptoRow : OpenClaim := { program := "ytoejfnghpeiabaa", sum := "40aa2c4032f12444270931e52c81cfd2060f41e10e6397d32112d1de2458e60a", func := "sondage/sondagelaw35.GaugeNone", spec := "gaugeNone", apart := false, narrowed := true }
def GaugeNoneUptoSaid : Prop := gaugeNoneUptoRow.holds Try.pinned (OpenSpec.upto gaugeNoneSpec)

/-- 'sondagelaw03.SpanMakes', WHERE WHAT IT READS IS OF BULK AT MOST 1048576: true; the input reads as it did. -/
def spanMakesUptoRow : OpenClaim := { program := "ytoejfnghpeiabaa", sum := "40aa2c4032f12444270931e52c81cfd2060f41e10e6397d32112d1de2458e60a", func := "sondage/sondagelaw03.SpanMakes", spec := "spanMakes", apart := false, narrowed := true }
def SpanMakesUptoSaid : Prop := spanMakesUptoRow.holds Try.pinned (OpenSpec.upto spanMakesSpec)

/-- 'sondagelaw03.SpanClimbs', WHERE WHAT IT READS IS OF BULK AT MOST 1048576: true; the input reads as it did. -/
def spanClimbsUptoRow : OpenClaim := { program := "ytoejfnghpeiabaa", sum := "40aa2c4032f12444270931e52c81cfd2060f41e10e6397d32112d1de2458e60a", func := "sondage/sondagelaw03.SpanClimbs", spec := "spanClimbs", apart := false, narrowed := true }
def SpanClimbsUptoSaid : Prop := spanClimbsUptoRow.holds Try.pinned (OpenSpec.upto spanClimbsSpec)

/-- 'sondagelaw03.SpanSets', WHERE WHAT IT READS IS OF BULK AT MOST 1048576: true; the input reads as it did. -/
def spanSetsUptoRow : OpenClaim := { program := "ytoejfnghpeiabaa", sum := "40aa2c4032f12444270931e52c81cfd2060f41e10e6397d32112d1de2458e60a", func := "sondage/sondagelaw03.SpanSets", spec := "spanSets", apart := false, narrowed := true }
def SpanSetsUptoSaid : Prop := spanSetsUptoRow.holds Try.pinned (OpenSpec.upto spanSetsSpec)

/-- 'sondagelaw03.SpanWidens', WHERE WHAT IT READS IS OF BULK AT MOST 1048576: true; the input reads as it did. -/
def spanWidensUptoRow : OpenClaim := { program := "ytoejfnghpeiabaa", sum := "40aa2c4032f12444270931e52c81cfd2060f41e10e6397d32112d1de2458e60a", func := "sondage/sondagelaw03.SpanWidens", spec := "spanWidens", apart := false, narrowed := true }
def SpanWidensUptoSaid : Prop := spanWidensUptoRow.holds Try.pinned (OpenSpec.upto spanWidensSpec)

/-- 'sondagelaw03.SpanLattice', WHERE WHAT IT READS IS OF BULK AT MOST 1048576: true; the input reads as it did. -/
def spanLatticeUptoRow : OpenClaim := { program := "ytoejfnghpeiabaa", sum := "40aa2c4032f12444270931e52c81cfd2060f41e10e6397d32112d1de2458e60a", func := "sondage/sondagelaw03.SpanLattice", spec := "spanLattice", apart := false, narrowed := true }
def SpanLatticeUptoSaid : Prop := spanLatticeUptoRow.holds Try.pinned (OpenSpec.upto spanLatticeSpec)

/-- 'sondagelaw03.SpanFalls', WHERE WHAT IT READS IS OF BULK AT MOST 1048576: true; the input reads as it did. -/
def spanFallsUptoRow : OpenClaim := { program := "ytoejfnghpeiabaa", sum := "40aa2c4032f12444270931e52c81cfd2060f41e10e6397d32112d1de2458e60a", func := "sondage/sondagelaw03.SpanFalls", spec := "spanFalls", apart := false, narrowed := true }
def SpanFallsUptoSaid : Prop := spanFallsUptoRow.holds Try.pinned (OpenSpec.upto spanFallsSpec)

end Rows
end Go.Proofs.Ytoejfnghpeiabaa
