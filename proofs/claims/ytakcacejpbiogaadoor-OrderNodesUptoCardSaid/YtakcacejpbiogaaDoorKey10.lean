/- Keys out of texts. No condition. -/
import Derived.Test.YtakcacejpbiogaaDoorKey9
import Derived.Lib.ItoaLen
namespace Go.Proofs.YtakcacejpbiogaaDoor
set_option linter.all false
open Go.Sx

def textS (k : Ky) : ByteArray := if k.node < 0 then k.name else k.name ++ ⟨#[46]⟩ ++ itoaS k.node
def k0 : Ky := ⟨⟨#[]⟩, 0⟩
def dotS : ByteArray := ⟨#[46]⟩
def readM (s : ByteArray) : Ky × Int :=
  if nameB (cutS s dotS).1 = false then (k0, 3) else if (cutS s dotS).2.2 = false then (⟨(cutS s dotS).1, -1⟩, 0)
  else if (numM (cutS s dotS).2.1).2 = 0 then (⟨(cutS s dotS).1, (numM (cutS s dotS).2.1).1⟩, 0) else (k0, (numM (cutS s dotS).2.1).2)
theorem cut_len (a b : List UInt8) : (Lib.cut a b).1.length ≤ a.length ∧ (Lib.cut a b).2.1.length ≤ a.length := by
  unfold Lib.cut
  split
  · constructor
    · rw [List.length_take]; omega
    · rw [List.length_drop]; omega
  · exact ⟨Nat.le_refl _, Nat.zero_le _⟩
theorem itoa_sz {n : Int} (h : rI n) : (itoaS n).size ≤ 21 := by
  unfold rI at h
  exact Lib.itoa_length_le n h.1 (by omega)
theorem dot_sz (a : ByteArray) : (a ++ (⟨#[46]⟩ : ByteArray)).size = a.size + 1 := by rw [ByteArray.size_append]; rfl
theorem i64max : IntKind.i64.max = 9223372036854775807 := rfl
theorem rd_no {s : ByteArray} (h : (!nameB (cutS s dotS).1) = true) : readM s = (k0, 3) := by unfold readM; rw [if_pos (by simpa using h)]
theorem rd_of {s : ByteArray} (h : (!nameB (cutS s dotS).1) = false) (h2 : (!(cutS s dotS).2.2) = true) : readM s = (⟨(cutS s dotS).1, -1⟩, 0) := by unfold readM; rw [if_neg (by simpa using h), if_pos (by simpa using h2)]
theorem rd_ok {s : ByteArray} (h : (!nameB (cutS s dotS).1) = false) (h2 : (!(cutS s dotS).2.2) = false) (h3 : ((numM (cutS s dotS).2.1).2 != 0) = false) : readM s = (⟨(cutS s dotS).1, (numM (cutS s dotS).2.1).1⟩, 0) := by unfold readM; rw [if_neg (by simpa using h), if_neg (by simpa using h2), if_pos (by simpa using h3)]
theorem rd_er {s : ByteArray} (h : (!nameB (cutS s dotS).1) = false) (h2 : (!(cutS s dotS).2.2) = false) (h3 : ((numM (cutS s dotS).2.1).2 != 0) = true) : readM s = (k0, (numM (cutS s dotS).2.1).2) := by unfold readM; rw [if_neg (by simpa using h), if_neg (by simpa using h2), if_neg (by simpa using h3)]
theorem cut_sz (a b : ByteArray) : (cutS a b).1.size ≤ a.size ∧ (cutS a b).2.1.size ≤ a.size := by
  have h := cut_len a.data.toList b.data.toList
  unfold cutS
  exact ⟨h.1, h.2⟩
def FKOf : List Ar → Option Rs
  | [.c (.d (.v (.string x0)))] => some ⟨True, .va (Ky.ar (⟨x0, -1⟩)), []⟩
  | _ => none
set_option maxHeartbeats 1000000 in
set_option maxRecDepth 100000 in
theorem fcKOf : FC Tryd.prog 30 FKOf := by
  intro xs pre r us h hp
  unfold FKOf at h
  split at h
  · rename_i x0
    cases h
    refine fcat tys_ok (l := []) trivial Tryd.func30 rfl (by kernel_rfl) true ?_
    repeat' (first | exact trivial | refine ⟨?_, ?_⟩ | intro _)
    all_goals first | (with_reducible show (_ : Int) ≤ _) | (with_reducible show (_ : Int) < _) | (with_reducible show (_ : Nat) ≤ _) | (with_reducible show (_ : Nat) < _) | (conv => whnf)
    all_goals grind
  · cases h
def FKText : List Ar → Option Rs
  | [.agg [.d (.v (.string x0)), .d (.v (.int .i64 i0))]] => some ⟨(rI i0) ∧ (x0.size ≤ 1000000000000), .va (.c (.d (st (textS (⟨x0, i0⟩ : Ky))))), []⟩
  | _ => none
set_option maxHeartbeats 3000000 in
set_option maxRecDepth 100000 in
theorem fcKText : FC Tryd.prog 15 FKText := by
  intro xs pre r us h hp
  unfold FKText at h
  split at h
  · rename_i x0 i0
    cases h
    obtain ⟨hp0, hp1⟩ := hp
    refine fcat tys_ok (l := [(39, ⟨[], FItoa⟩)]) ⟨fcItoa, trivial⟩ Tryd.func15 rfl (by kernel_rfl) true ?_
    have hit := itoa_sz hp0
    repeat' (first | exact trivial | (with_reducible exact hp0) | refine ⟨?_, ?_⟩ | intro _)
    all_goals first | (with_reducible show (_ : Int) ≤ _) | (with_reducible show (_ : Int) < _) | (with_reducible show (_ : Nat) ≤ _) | (with_reducible show (_ : Nat) < _) | (conv => whnf)
    all_goals first | (rw [i64max, dot_sz]; omega) | (rw [i64max]; show ((x0.size + 1 : Nat) : Int) ≤ _; omega) | (refine congrArg Value.string ?_; unfold textS; first | (rw [if_pos (of_decide_eq_true ‹decide (i0 < 0) = true›)]; done) | (rw [if_neg (of_decide_eq_false ‹decide (i0 < 0) = false›)]; done)) | trace_state
  · cases h
def FKRead : List Ar → Option Rs
  | [.c (.d (.v (.string x0)))] => some ⟨(x0.size < 4294967281), .tup [Ky.ar (readM x0).1, .c (.d (it (readM x0).2))], []⟩
  | _ => none
set_option maxHeartbeats 3000000 in
set_option maxRecDepth 100000 in
theorem fcKRead : FC Tryd.prog 17 FKRead := by
  intro xs pre r us h hp
  unfold FKRead at h
  split at h
  · rename_i x0
    cases h
    have hp0 := hp
    refine fcat tys_ok (l := [(41, ⟨[], FCut⟩), (42, ⟨[], FName⟩), (30, ⟨[], FKOf⟩), (43, ⟨[], FKNum⟩)]) ⟨fcCut, fcName, fcKOf, fcKNum, trivial⟩ Tryd.func17 rfl (by kernel_rfl) true ?_
    have hcz := cut_sz x0 dotS
    repeat' (first | exact trivial | refine ⟨?_, ?_⟩ | intro _)
    all_goals first | (with_reducible show (_ : Int) ≤ _) | (with_reducible show (_ : Int) < _) | (with_reducible show (_ : Nat) ≤ _) | (with_reducible show (_ : Nat) < _) | (conv => whnf)
    all_goals first | omega | (have h := hcz.1; show (cutS x0 dotS).1.size ≤ _; omega) | (have h := hcz.2; show (cutS x0 dotS).2.1.size ≤ _; omega) | (rw [rd_no (s := x0) ‹_›] <;> rfl) | (rw [rd_of (s := x0) ‹_› ‹_›] <;> rfl) | (rw [rd_ok (s := x0) ‹_› ‹_› ‹_›] <;> rfl) | (rw [rd_er (s := x0) ‹_› ‹_› ‹_›] <;> rfl) | (rw [rd_er (s := x0) ‹_› ‹_› ‹_›]; done) | trace_state
  · cases h

end Go.Proofs.YtakcacejpbiogaaDoor
