/- The function of the layer of values that tells whether anything is done. No condition. -/
import Derived.Test.YtbfinmfdcbghfaaVLaw
namespace Go.Proofs.Ytbfinmfdcbghfaa
set_option linter.all false
open Go.Sx

def FVLives : List Ar → Option Rs
  | [] => some ⟨True, .va (.c (.d (bo (true)))), []⟩
  | _ => none
set_option maxHeartbeats 1000000 in
set_option maxRecDepth 100000 in
theorem fcVLives : FC Try.prog 16 FVLives := by
  intro xs pre r us h hp
  unfold FVLives at h
  split at h
  · cases h
    refine fcat tys_ok (l := [(12, ⟨[], FVInt⟩), (9, ⟨[], FN 1 FVHasInt⟩)]) ⟨fcVInt, fc_nil 1 fcVHasInt, trivial⟩ Try.func16 rfl (by kernel_rfl) true ?_
    repeat' (first | exact trivial | refine ⟨?_, ?_⟩ | intro _)
    all_goals first | (with_reducible show (_ : Int) ≤ _) | (with_reducible show (_ : Int) < _) | (with_reducible show (_ : Nat) ≤ _) | (with_reducible show (_ : Nat) < _) | (conv => whnf)
    all_goals (try simp only [live0] at *)
    all_goals first | exact Nat.zero_le _ | (show (_ : Int) ≤ _; decide) | (show (_ : Int) < _; decide) | rfl | (exact absurd ‹(true == true && _) = false› (by decide)) | (exact (nF rfl ‹Vl.hasInt _ 5 = false›).elim) | trace_state
  · cases h

end Go.Proofs.Ytbfinmfdcbghfaa
