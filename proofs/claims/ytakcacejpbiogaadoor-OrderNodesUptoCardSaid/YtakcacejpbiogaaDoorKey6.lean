/- Names, as the reference tells them. No condition. -/
import Derived.Test.YtakcacejpbiogaaDoorKey5
namespace Go.Proofs.YtakcacejpbiogaaDoor
set_option linter.all false
open Go.Sx

def FRLetter : List Ar → Option Rs
  | [.c (.d (.v (.int .u8 i0)))] => some ⟨True, .va (.c (.d (bo (letB i0)))), []⟩
  | _ => none
set_option maxHeartbeats 1000000 in
set_option maxRecDepth 100000 in
theorem fcRLetter : FC Tryd.prog 46 FRLetter := by
  intro xs pre r us h hp
  unfold FRLetter at h
  split at h
  · rename_i i0
    cases h
    refine fcat tys_ok (l := []) trivial Tryd.func46 rfl (by kernel_rfl) false ?_
    repeat' (first | exact trivial | refine ⟨?_, ?_⟩ | intro _)
    all_goals first | (with_reducible show (_ : Int) ≤ _) | (with_reducible show (_ : Int) < _) | (with_reducible show (_ : Nat) ≤ _) | (with_reducible show (_ : Nat) < _) | (conv => whnf)
    all_goals (refine congrArg Value.bool (Bool.eq_iff_iff.2 ?_); unfold letB; (try simp only [decide_eq_true_eq, decide_eq_false_iff_not, ge_iff_le, gt_iff_lt] at *); (try simp only [Bool.or_eq_true, decide_eq_true_eq, beq_iff_eq, Bool.false_eq_true, Bool.true_eq_false, false_iff, true_iff, iff_true, iff_false]); omega)
  · cases h
def FRDigit : List Ar → Option Rs
  | [.c (.d (.v (.int .u8 i0)))] => some ⟨True, .va (.c (.d (bo (digB i0)))), []⟩
  | _ => none
set_option maxHeartbeats 1000000 in
set_option maxRecDepth 100000 in
theorem fcRDigit : FC Tryd.prog 44 FRDigit := by
  intro xs pre r us h hp
  unfold FRDigit at h
  split at h
  · rename_i i0
    cases h
    refine fcat tys_ok (l := []) trivial Tryd.func44 rfl (by kernel_rfl) false ?_
    repeat' (first | exact trivial | refine ⟨?_, ?_⟩ | intro _)
    all_goals first | (with_reducible show (_ : Int) ≤ _) | (with_reducible show (_ : Int) < _) | (with_reducible show (_ : Nat) ≤ _) | (with_reducible show (_ : Nat) < _) | (conv => whnf)
    all_goals (refine congrArg Value.bool (Bool.eq_iff_iff.2 ?_); unfold digB; (try simp only [decide_eq_true_eq, decide_eq_false_iff_not, ge_iff_le, gt_iff_lt] at *); (try simp only [Bool.or_eq_true, decide_eq_true_eq, beq_iff_eq, Bool.false_eq_true, Bool.true_eq_false, false_iff, true_iff, iff_true, iff_false]); omega)
  · cases h
def FRIn : List Ar → Option Rs
  | [.c (.d (.lst 1 n0 f0)), .c (.d (.v (.string x1)))] => some ⟨(n0 * 16 ≤ 140737488351232 ∧ ∀ i, i < n0 → f0 i = [st (gT (f0 i))]), .va (.c (.d (bo (memS x1 (gN n0 f0))))), []⟩
  | _ => none
set_option maxHeartbeats 1000000 in
set_option maxRecDepth 100000 in
theorem fcRIn : FC Tryd.prog 70 FRIn := by
  intro xs pre r us h hp
  unfold FRIn at h
  split at h
  · rename_i n0 f0 x1
    cases h
    have hp0 := hp
    refine FCat.of_eq (as' := [.c (.d (.lst 1 n0 fun i => [st (gT (f0 i))])), .c (.d (.v (.string x1)))]) ?_ rfl rfl ?_
    · repeat' (first | exact trivial | exact rfl | refine ⟨?_, ?_⟩ | fail)
      all_goals first | exact hp0.2 | exact hp1.2 | exact hp2.2 | (intro i hi; exact (hp0.2 i hi).1) | (intro i hi; exact (hp1.2 i hi).1) | (intro i hi; exact (hp2.2 i hi).1) | grind
    refine fcat tys_ok (l := []) trivial Tryd.func70 rfl (by kernel_rfl) false ?_
    repeat' (first | exact trivial | refine ⟨?_, ?_⟩ | intro _)
    all_goals first | (with_reducible show (_ : Int) ≤ _) | (with_reducible show (_ : Int) < _) | (with_reducible show (_ : Nat) ≤ _) | (with_reducible show (_ : Nat) < _) | (conv => whnf)
    refine loop_ids tys_ok (l := []) trivial (by kernel_rfl) (X := Nat)
      (fun x => ⟨[(5, vx (.int .i64 x)), (0, .va (.c (.d (.lst 1 n0 fun i => [st (gT (f0 i))])))), (1, vx (.string x1))], [], 0, 18⟩)
      (fun x => n0 - x) (fun x => x ≤ n0 ∧ ∀ j, j < x → ¬ x1 = gT (f0 j)) [] []
      (fun x _ _ => x + 1) (fun _ => []) [] 0 0 0 ?_ ?_ ?_
    · exact ⟨Nat.zero_le _, fun j h => absurd h (Nat.not_lt_zero _)⟩
    · repeat' (first | exact trivial | exact rfl | (intro _ h; exact absurd h (Nat.not_lt_zero _)) | (intro _ _; exact rfl) | refine ⟨?_, ?_⟩ | fail)
    · rintro i ⟨k1, k2⟩
      repeat' (first | exact trivial | refine ⟨?_, ?_⟩ | intro _)
      all_goals first | (with_reducible show (_ : Int) ≤ _) | (with_reducible show (_ : Int) < _) | (with_reducible show (_ : Nat) ≤ _) | (with_reducible show (_ : Nat) < _) | (conv => whnf)
      all_goals (try simp only [Int.toNat_natCast, decide_eq_true_eq, decide_eq_false_iff_not, seq_iff, gN_canon] at *)
      all_goals first | omega | ((with_reducible show idsOk _ _ = true); rfl) | ((with_reducible show Value.int _ _ = Value.int _ _); rw [wI_id _ (by omega) (by omega)]; rfl) | (exact congrArg Value.bool (memS_iff.2 (gN_mem.2 ⟨i, by omega, by first | exact ‹_ = _› | exact ‹_ = _›.symm⟩)).symm) | (exact congrArg Value.bool (memS_not.2 (by rw [gN_mem]; rintro ⟨j, hj, e⟩; exact k2 j (by omega) e.symm)).symm) | (exact not_step k2 (by first | assumption | (intro e; exact absurd e.symm (by assumption))) _ ‹_ < i + 1›) | (exact absurd (by assumption) (not_step k2 (by first | assumption | (intro e; exact absurd e.symm (by assumption))) _ ‹_ < i + 1›)) | rfl | trace_state
  · cases h
def FRWord : List Ar → Option Rs
  | [.c (.d (.v (.string x0)))] => some ⟨True, .va (.c (.d (bo (memS x0 wordL)))), []⟩
  | _ => none
set_option maxHeartbeats 1000000 in
set_option maxRecDepth 100000 in
theorem fcRWord : FC Tryd.prog 45 FRWord := by
  intro xs pre r us h hp
  unfold FRWord at h
  split at h
  · rename_i x0
    cases h
    refine fcat tys_ok (l := [(70, ⟨[], FRIn⟩)]) ⟨fcRIn, trivial⟩ Tryd.func45 rfl (by kernel_rfl) false ?_
    have h8 : ∀ i, i < 8 → (Go.Sx.rowAt 1 [.v (.string ⟨#[97, 115, 115, 101, 114, 116]⟩), .v (.string ⟨#[101, 108, 115, 101]⟩), .v (.string ⟨#[105, 102]⟩), .v (.string ⟨#[105, 110, 112, 117, 116]⟩), .v (.string ⟨#[105, 110, 116]⟩), .v (.string ⟨#[110, 117, 108, 108]⟩), .v (.string ⟨#[114, 101, 116, 117, 114, 110]⟩), .v (.string ⟨#[119, 104, 105, 108, 101]⟩)]) (0 + i) = [st (gT ((Go.Sx.rowAt 1 [.v (.string ⟨#[97, 115, 115, 101, 114, 116]⟩), .v (.string ⟨#[101, 108, 115, 101]⟩), .v (.string ⟨#[105, 102]⟩), .v (.string ⟨#[105, 110, 112, 117, 116]⟩), .v (.string ⟨#[105, 110, 116]⟩), .v (.string ⟨#[110, 117, 108, 108]⟩), .v (.string ⟨#[114, 101, 116, 117, 114, 110]⟩), .v (.string ⟨#[119, 104, 105, 108, 101]⟩)]) (0 + i)))] := fun i hi => by
      have : i = 0 ∨ i = 1 ∨ i = 2 ∨ i = 3 ∨ i = 4 ∨ i = 5 ∨ i = 6 ∨ i = 7 := by omega
      rcases this with rfl | rfl | rfl | rfl | rfl | rfl | rfl | rfl <;> rfl
    repeat' (first | exact trivial | refine ⟨?_, ?_⟩ | intro _)
    all_goals first | (with_reducible show (_ : Int) ≤ _) | (with_reducible show (_ : Int) < _) | (with_reducible show (_ : Nat) ≤ _) | (with_reducible show (_ : Nat) < _) | (conv => whnf)
    all_goals first | exact h8 _ ‹_› | (intro i hi; exact h8 i hi) | omega | decide | (exact congrArg Value.bool (word_same x0)) | rfl | trace_state
  · cases h
theorem good_i {s : ByteArray} {i : Nat} : goodB s i = (letB (bAt s i) || (digB (bAt s i) && decide (i ≠ 0))) := rfl
theorem dig_first {s : ByteArray} (h : 0 < s.size) (hd : digB (byteAt s (Int.toNat 0)) = true) : goodB s 0 = false := by
  rw [byte_bAt (show Int.toNat 0 < s.size from h)] at hd
  have hd : digB (bAt s 0) = true := hd
  unfold goodB
  have : letB (bAt s 0) = false := by
    unfold digB at hd; unfold letB
    simp only [decide_eq_true_eq] at hd
    simp only [Bool.or_eq_false_iff, decide_eq_false_iff_not]
    omega
  rw [this]; simp
theorem name_empty {s : ByteArray} (h : (s.toList == (⟨#[]⟩ : ByteArray).toList) = true) : nameB s = false := by
  have h1 := plain_end s
  rw [h] at h1
  have h2 : s.size = 0 := by
    have : decide (s.size ≠ 0) = false := h1.symm
    simpa using this
  unfold nameB plainB
  rw [decide_eq_false (show ¬ s.size ≠ 0 by omega)]; simp
theorem not_empty {s : ByteArray} (h : (s.toList == (⟨#[]⟩ : ByteArray).toList) = false) : s.size ≠ 0 := by
  have h1 := plain_end s
  rw [h] at h1
  simpa using h1.symm
theorem name_long {s : ByteArray} (h : ¬ s.size ≤ 20) : nameB s = false := by unfold nameB; rw [decide_eq_false h]; rfl
theorem name_plain {s : ByteArray} (h : plainB s = false) : nameB s = false := by unfold nameB; rw [h]; simp
theorem name_word {s : ByteArray} (h : memS s wordL = true) : nameB s = false := by unfold nameB; rw [h]; simp
theorem name_ok {s : ByteArray} (h0 : s.size ≠ 0) (h1 : s.size ≤ 20) (h2 : ∀ i, i < s.size → goodB s i = true) (h3 : memS s wordL = false) : nameB s = true := by
  unfold nameB; rw [decide_eq_true h1, plain_yes h2, h3, decide_eq_true h0]; rfl
def FRName : List Ar → Option Rs
  | [.c (.d (.v (.string x0)))] => some ⟨(x0.size ≤ 9223372036854775807), .va (.c (.d (bo (nameB x0)))), []⟩
  | _ => none
set_option maxHeartbeats 3000000 in
set_option maxRecDepth 100000 in
theorem fcRName : FC Tryd.prog 18 FRName := by
  intro xs pre r us h hp
  unfold FRName at h
  split at h
  · rename_i x0
    cases h
    have hp0 := hp
    refine fcat tys_ok (l := [(46, ⟨[], FRLetter⟩), (44, ⟨[], FRDigit⟩), (45, ⟨[], FRWord⟩)]) ⟨fcRLetter, fcRDigit, fcRWord, trivial⟩ Tryd.func18 rfl (by kernel_rfl) true ?_
    repeat' (first | exact trivial | refine ⟨?_, ?_⟩ | intro _)
    all_goals first | (with_reducible show (_ : Int) ≤ _) | (with_reducible show (_ : Int) < _) | (with_reducible show (_ : Nat) ≤ _) | (with_reducible show (_ : Nat) < _) | (conv => whnf)
    all_goals first | exact congrArg Value.bool (name_empty ‹_›).symm | (exact congrArg Value.bool (name_long (by have := of_decide_eq_true ‹decide ((x0.size : Int) > 20) = true›; omega)).symm) | (have := not_empty ‹_›; omega) | (exact congrArg Value.bool (name_word ‹memS x0 wordL = true›).symm) | (exact congrArg Value.bool (name_plain (plain_no (i := 0) (by have := not_empty ‹_›; omega) (dig_first (by have := not_empty ‹_›; omega) ‹digB _ = true›))).symm) | skip
    have hz : x0.size ≠ 0 := not_empty ‹_›
    have hl : x0.size ≤ 20 := by have := of_decide_eq_false ‹decide ((x0.size : Int) > 20) = false›; omega
    have hd0 : digB (bAt x0 0) = false := by have h := ‹digB _ = false›; rw [byte_bAt (by show Int.toNat 0 < _; exact Nat.pos_of_ne_zero hz)] at h; exact h
    have hmw := ‹memS x0 wordL = false›
    refine loop_ok tys_ok (l := [(46, ⟨[], FRLetter⟩), (44, ⟨[], FRDigit⟩), (45, ⟨[], FRWord⟩)]) ⟨fcRLetter, fcRDigit, fcRWord, trivial⟩ (by kernel_rfl) (X := Nat)
      (fun i => ⟨[(3, vx (.int .i64 i)), (0, vx (.string x0))], [], 0, 38⟩)
      (fun i => x0.size - i) (fun i => i ≤ x0.size ∧ ∀ j, j < i → goodB x0 j = true) [] []
      (fun i _ _ => i + 1) [] [] 0 0 0 ?_ ?_ ?_
    · exact ⟨Nat.zero_le _, fun j h => absurd h (Nat.not_lt_zero j)⟩
    · repeat' (first | exact trivial | exact rfl | (intro _ _; exact rfl) | refine ⟨?_, ?_⟩ | fail)
    · rintro i ⟨k1, k2⟩
      rcases Nat.lt_or_ge i x0.size with hi | hi
      · have hne : decide ((i : Int) < (x0.size : Int)) = true := decide_eq_true (by omega)
        have hib : (0 : Int) ≤ (i : Int) ∧ (i : Int) < (x0.size : Int) := by omega
        have hby : byteAt x0 (Int.toNat (i : Int)) = (bAt x0 i : Nat) := byte_bAt hi
        cases h1 : letB (byteAt x0 (Int.toNat (i : Int))) with
        | true =>
          have h3 : (!letB (byteAt x0 (Int.toNat (i : Int)))) = false := by rw [h1]; rfl
          have hg : goodB x0 i = true := by rw [good_i, ← hby, h1]; rfl
          have hn : ∀ j, j < i + 1 → goodB x0 j = true := fun j hj => by
            rcases Nat.lt_or_ge j i with h | h
            · exact k2 j h
            · rw [show j = i by omega]; exact hg
          repeat' (first | exact trivial | (with_reducible exact (fun h => absurd (hne.symm.trans h) (by decide))) | (with_reducible exact (fun h => absurd (h1.symm.trans h) (by decide))) | (with_reducible exact (fun h => absurd (h3.symm.trans h) (by decide))) | (with_reducible exact hib) | refine ⟨?_, ?_⟩ | intro _)
          all_goals first | (with_reducible show (_ : Int) ≤ _) | (with_reducible show (_ : Int) < _) | (with_reducible show (_ : Nat) ≤ _) | (with_reducible show (_ : Nat) < _) | (conv => whnf)
          all_goals first | omega | rfl | (exact congrArg Value.bool hn.symm) | exact hn _ ‹_› | ((with_reducible show idsOk _ _ = true); rfl) | (dsimp only; omega) | (exact congrArg (Value.int .i64) (by first | (rw [wI_id _ (by omega) (by omega)]; omega) | omega | (dsimp only; omega))) | (dsimp only; (exact congrArg (Value.int .i64) (by first | (rw [wI_id _ (by omega) (by omega)]; omega) | omega | (dsimp only; omega)))) | trace_state
        | false =>
          have h3 : (!letB (byteAt x0 (Int.toNat (i : Int)))) = true := by rw [h1]; rfl
          cases h2 : digB (byteAt x0 (Int.toNat (i : Int))) with
          | true =>
            have h4 : (!digB (byteAt x0 (Int.toNat (i : Int)))) = false := by rw [h2]; rfl
            have hi0 : i ≠ 0 := fun e => by subst e; rw [hby, hd0] at h2; cases h2
            have hg : goodB x0 i = true := by rw [good_i, ← hby, h1, h2, decide_eq_true hi0]; rfl
            have hn : ∀ j, j < i + 1 → goodB x0 j = true := fun j hj => by
              rcases Nat.lt_or_ge j i with h | h
              · exact k2 j h
              · rw [show j = i by omega]; exact hg
            repeat' (first | exact trivial | (with_reducible exact (fun h => absurd (hne.symm.trans h) (by decide))) | (with_reducible exact (fun h => absurd (h1.symm.trans h) (by decide))) | (with_reducible exact (fun h => absurd (h2.symm.trans h) (by decide))) | (with_reducible exact (fun h => absurd (h3.symm.trans h) (by decide))) | (with_reducible exact (fun h => absurd (h4.symm.trans h) (by decide))) | (with_reducible exact hib) | refine ⟨?_, ?_⟩ | intro _)
            all_goals first | (with_reducible show (_ : Int) ≤ _) | (with_reducible show (_ : Int) < _) | (with_reducible show (_ : Nat) ≤ _) | (with_reducible show (_ : Nat) < _) | (conv => whnf)
            all_goals first | omega | rfl | (exact congrArg Value.bool hn.symm) | exact hn _ ‹_› | ((with_reducible show idsOk _ _ = true); rfl) | (dsimp only; omega) | (exact congrArg (Value.int .i64) (by first | (rw [wI_id _ (by omega) (by omega)]; omega) | omega | (dsimp only; omega))) | (dsimp only; (exact congrArg (Value.int .i64) (by first | (rw [wI_id _ (by omega) (by omega)]; omega) | omega | (dsimp only; omega)))) | trace_state
          | false =>
            have h4 : (!digB (byteAt x0 (Int.toNat (i : Int)))) = true := by rw [h2]; rfl
            have hg : goodB x0 i = false := by rw [good_i, ← hby, h1, h2]; rfl
            have hn : nameB x0 = false := name_plain (plain_no hi hg)
            repeat' (first | exact trivial | (with_reducible exact (fun h => absurd (hne.symm.trans h) (by decide))) | (with_reducible exact (fun h => absurd (h1.symm.trans h) (by decide))) | (with_reducible exact (fun h => absurd (h2.symm.trans h) (by decide))) | (with_reducible exact (fun h => absurd (h3.symm.trans h) (by decide))) | (with_reducible exact (fun h => absurd (h4.symm.trans h) (by decide))) | (with_reducible exact hib) | refine ⟨?_, ?_⟩ | intro _)
            all_goals first | (with_reducible show (_ : Int) ≤ _) | (with_reducible show (_ : Int) < _) | (with_reducible show (_ : Nat) ≤ _) | (with_reducible show (_ : Nat) < _) | (conv => whnf)
            all_goals first | omega | rfl | (exact congrArg Value.bool hn.symm) | exact hn _ ‹_› | ((with_reducible show idsOk _ _ = true); rfl) | (dsimp only; omega) | (exact congrArg (Value.int .i64) (by first | (rw [wI_id _ (by omega) (by omega)]; omega) | omega | (dsimp only; omega))) | (dsimp only; (exact congrArg (Value.int .i64) (by first | (rw [wI_id _ (by omega) (by omega)]; omega) | omega | (dsimp only; omega)))) | trace_state
      · have hne : decide ((i : Int) < (x0.size : Int)) = false := decide_eq_false (by omega)
        have hn : nameB x0 = true := name_ok hz hl (fun j hj => k2 j (by omega)) hmw
        repeat' (first | exact trivial | (with_reducible exact (fun h => absurd (hne.symm.trans h) (by decide))) | refine ⟨?_, ?_⟩ | intro _)
        all_goals first | (with_reducible show (_ : Int) ≤ _) | (with_reducible show (_ : Int) < _) | (with_reducible show (_ : Nat) ≤ _) | (with_reducible show (_ : Nat) < _) | (conv => whnf)
        all_goals first | omega | rfl | (exact congrArg Value.bool hn.symm) | exact hn _ ‹_› | ((with_reducible show idsOk _ _ = true); rfl) | (dsimp only; omega) | (exact congrArg (Value.int .i64) (by first | (rw [wI_id _ (by omega) (by omega)]; omega) | omega | (dsimp only; omega))) | (dsimp only; (exact congrArg (Value.int .i64) (by first | (rw [wI_id _ (by omega) (by omega)]; omega) | omega | (dsimp only; omega)))) | trace_state
  · cases h

end Go.Proofs.YtakcacejpbiogaaDoor
