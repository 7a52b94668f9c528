/- Names, as the program tells them, whole. No condition. -/
import Derived.Test.YtakcacejpbiogaaDoorKey4
namespace Go.Proofs.YtakcacejpbiogaaDoor
set_option linter.all false
open Go.Sx

def wordL : List ByteArray := [(⟨#[105, 110, 116]⟩ : ByteArray), (⟨#[105, 102]⟩ : ByteArray), (⟨#[101, 108, 115, 101]⟩ : ByteArray), (⟨#[119, 104, 105, 108, 101]⟩ : ByteArray), (⟨#[114, 101, 116, 117, 114, 110]⟩ : ByteArray), (⟨#[97, 115, 115, 101, 114, 116]⟩ : ByteArray), (⟨#[105, 110, 112, 117, 116]⟩ : ByteArray), (⟨#[110, 117, 108, 108]⟩ : ByteArray)]
def wordR : List ByteArray := [(⟨#[97, 115, 115, 101, 114, 116]⟩ : ByteArray), (⟨#[101, 108, 115, 101]⟩ : ByteArray), (⟨#[105, 102]⟩ : ByteArray), (⟨#[105, 110, 112, 117, 116]⟩ : ByteArray), (⟨#[105, 110, 116]⟩ : ByteArray), (⟨#[110, 117, 108, 108]⟩ : ByteArray), (⟨#[114, 101, 116, 117, 114, 110]⟩ : ByteArray), (⟨#[119, 104, 105, 108, 101]⟩ : ByteArray)]
def nameB (s : ByteArray) : Bool := decide (s.size ≤ 20) && plainB s && !memS s wordL
theorem word_same (s : ByteArray) : memS s wordR = memS s wordL := by
  unfold memS wordL wordR
  simp only [List.any_cons, List.any_nil, Bool.or_false]
  ac_rfl
theorem byte_bAt {s : ByteArray} {i : Nat} (h : i < s.size) : byteAt s i = (bAt s i : Nat) := by
  unfold byteAt bAt
  rw [getElem?_pos s i h]
  show ((s[i].toNat : Nat) : Int) = _
  congr 2
  obtain ⟨a⟩ := s
  have h : i < a.size := h
  show a[i] = ByteArray.get! ⟨a⟩ i
  simp [ByteArray.get!, h]
def FWord : List Ar → Option Rs
  | [.c (.d (.v (.string x0)))] => some ⟨True, .va (.c (.d (bo (memS x0 wordL)))), []⟩
  | _ => none
set_option maxHeartbeats 1000000 in
set_option maxRecDepth 100000 in
theorem fcWord : FC Tryd.prog 66 FWord := by
  intro xs pre r us h hp
  unfold FWord at h
  split at h
  · rename_i x0
    cases h
    refine fcat tys_ok (l := [(83, ⟨[], FNContains⟩)]) ⟨fcNContains, trivial⟩ Tryd.func66 rfl (by kernel_rfl) false ?_
    have h8 : ∀ i, i < 8 → (Go.Sx.rowAt 1 [.v (.string ⟨#[105, 110, 116]⟩), .v (.string ⟨#[105, 102]⟩), .v (.string ⟨#[101, 108, 115, 101]⟩), .v (.string ⟨#[119, 104, 105, 108, 101]⟩), .v (.string ⟨#[114, 101, 116, 117, 114, 110]⟩), .v (.string ⟨#[97, 115, 115, 101, 114, 116]⟩), .v (.string ⟨#[105, 110, 112, 117, 116]⟩), .v (.string ⟨#[110, 117, 108, 108]⟩)]) (0 + i) = [st (gT ((Go.Sx.rowAt 1 [.v (.string ⟨#[105, 110, 116]⟩), .v (.string ⟨#[105, 102]⟩), .v (.string ⟨#[101, 108, 115, 101]⟩), .v (.string ⟨#[119, 104, 105, 108, 101]⟩), .v (.string ⟨#[114, 101, 116, 117, 114, 110]⟩), .v (.string ⟨#[97, 115, 115, 101, 114, 116]⟩), .v (.string ⟨#[105, 110, 112, 117, 116]⟩), .v (.string ⟨#[110, 117, 108, 108]⟩)]) (0 + i)))] := fun i hi => by
      have : i = 0 ∨ i = 1 ∨ i = 2 ∨ i = 3 ∨ i = 4 ∨ i = 5 ∨ i = 6 ∨ i = 7 := by omega
      rcases this with rfl | rfl | rfl | rfl | rfl | rfl | rfl | rfl <;> rfl
    repeat' (first | exact trivial | refine ⟨?_, ?_⟩ | intro _)
    all_goals first | (with_reducible show (_ : Int) ≤ _) | (with_reducible show (_ : Int) < _) | (with_reducible show (_ : Nat) ≤ _) | (with_reducible show (_ : Nat) < _) | (conv => whnf)
    all_goals first | exact h8 _ ‹_› | (intro i hi; exact h8 i hi) | omega | decide | rfl | trace_state
  · cases h
def FName : List Ar → Option Rs
  | [.c (.d (.v (.string x0)))] => some ⟨(x0.size ≤ 9223372036854775807), .va (.c (.d (bo (nameB x0)))), []⟩
  | _ => none
set_option maxHeartbeats 1000000 in
set_option maxRecDepth 100000 in
theorem fcName : FC Tryd.prog 42 FName := by
  intro xs pre r us h hp
  unfold FName at h
  split at h
  · rename_i x0
    cases h
    have hp0 := hp
    refine fcat tys_ok (l := [(65, ⟨[], FPlain⟩), (66, ⟨[], FWord⟩)]) ⟨fcPlain, fcWord, trivial⟩ Tryd.func42 rfl (by kernel_rfl) false ?_
    repeat' (first | exact trivial | refine ⟨?_, ?_⟩ | intro _)
    all_goals first | (with_reducible show (_ : Int) ≤ _) | (with_reducible show (_ : Int) < _) | (with_reducible show (_ : Nat) ≤ _) | (with_reducible show (_ : Nat) < _) | (conv => whnf)
    all_goals first | omega | (refine congrArg Value.bool ?_; unfold nameB; have hd := ‹decide ((x0.size : Int) ≤ 20) = true›; rw [decide_eq_true_eq] at hd; rw [decide_eq_true (show x0.size ≤ 20 by omega)]; first | rfl | (rw [‹plainB x0 = true›]; rfl) | (rw [‹plainB x0 = false›]; rfl)) | (refine congrArg Value.bool ?_; unfold nameB; have hd := ‹decide ((x0.size : Int) ≤ 20) = false›; rw [decide_eq_false_iff_not] at hd; rw [decide_eq_false (show ¬ x0.size ≤ 20 by omega)]; rfl) | trace_state
  · cases h

end Go.Proofs.YtakcacejpbiogaaDoor
