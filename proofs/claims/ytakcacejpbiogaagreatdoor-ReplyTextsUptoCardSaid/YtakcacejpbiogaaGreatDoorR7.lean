/- Names, as the program tells them. No condition. -/
import Derived.Test.YtakcacejpbiogaaGreatDoorR6
import Derived.Shelf.Strings.SlTrimAscii
set_option linter.all false
set_option maxHeartbeats 8000000
set_option maxRecDepth 100000
namespace Go.Proofs.YtakcacejpbiogaaGreatDoor
open Go.Sx
theorem good_letD {s : ByteArray} {i : Nat} (h : bAt s i < 128) : goodB s i = false ↔ (kindB (Utf8.decode s i).1 ≠ 2 /\ (kindB (Utf8.decode s i).1 ≠ 3 \/ i = 0)) := by
 rw [decode_lo h]
 unfold goodB kindB
 generalize ((bAt s i : Nat) : Int) = c
 have hx : ¬ ((c = 32 \/ c = 9 \/ c = 10 \/ c = 13) /\ (letB c = true \/ digB c = true)) := by unfold letB digB; simp only [Bool.or_eq_true, decide_eq_true_eq]; omega
 cases h1 : letB c <;> cases h2 : digB c <;> simp_all <;> (split <;> simp_all)
theorem kind_hi {c : Int} (h : 128 <= c) : kindB c = 0 := by
 unfold kindB letB digB
 simp only [Bool.or_eq_true, decide_eq_true_eq]
 (repeat' split) <;> omega
theorem good_iff (s : ByteArray) (i : Nat) : goodB s i = false ↔ (kindB (Utf8.decode s i).1 ≠ 2 /\ (kindB (Utf8.decode s i).1 ≠ 3 \/ i = 0)) := by
 by_cases h : bAt s i < 128
 . exact good_letD h
 . have h1 := decode_hi h
   have h2 := kind_hi (c := (Utf8.decode s i).1) (by omega)
   rw [h2, not_good_hi h]
   simp
theorem good_lo {s : ByteArray} {i : Nat} (h : goodB s i = true) : (Utf8.decode s i).2 = 1 := by
 by_cases h1 : bAt s i < 128
 . rw [decode_lo h1]
 . rw [not_good_hi h1] at h; cases h
theorem plain_end (s : ByteArray) : (!(s.toList == (⟨#[]⟩ : ByteArray).toList)) = decide (s.size ≠ 0) := by
 rw [seq_iff]
 by_cases h : s.size = 0
 . have : s = ⟨#[]⟩ := by
    obtain ⟨a⟩ := s
    have : a = #[] := Array.eq_empty_of_size_eq_zero h
    rw [this]
   rw [decide_eq_true this, decide_eq_false (by omega)]; rfl
 . rw [decide_eq_true h, decide_eq_false]; rfl
   intro e; rw [e] at h; exact h rfl
def FPlain : List Ar -> Option Rs
 | [.c (.d (.v (.string x0)))] => some ⟨(x0.size <= 9223372036854775807), .va (.c (.d (bo (plainB x0)))), []⟩
 | _ => none
theorem fcPlain : FC Tryz.prog 59 FPlain := by
 intro xs pre r us h hp
 unfold FPlain at h
 split at h
 . rename_i x0
   cases h
   have hp0 := hp
   refine fcat tys_ok (l := [(77, ⟨[], FKind⟩)]) ⟨fcKind, trivial⟩ Tryz.func59 rfl (by kernel_rfl) true ?_
   repeat' (first | exact trivial | refine ⟨?_, ?_⟩ | intro _)
   all_goals first | (with_reducible first | apply qa | apply qb | apply qc | apply qd) | (conv => whnf)
   refine loop_ok tys_ok (l := [(77, ⟨[], FKind⟩)]) ⟨fcKind, trivial⟩ (by kernel_rfl) (X := Nat)
    (fun i => ⟨[(7, .va (.c (.own 0 0))), (0, vx (.string x0))], [(0, .it x0 i)], 1, 26⟩)
    (fun i => x0.size - i) (fun i => i <= x0.size /\ ∀ j, j < i -> goodB x0 j = true) [] []
    (fun i _ _ => i + 1) [0] [0] 0 0 0 ?_ ?_ ?_
   . exact ⟨Nat.zero_le _, fun j h => absurd h (Nat.not_lt_zero j)⟩
   . repeat' (first | exact trivial | exact rfl | (intro _ _; exact rfl) | refine ⟨?_, ?_⟩ | fail)
   . rintro i ⟨k1, k2⟩
     cases hg : goodB x0 i with
     | false =>
       have h0 := (good_iff x0 i).1 hg
       repeat' (first | exact trivial | refine ⟨?_, ?_⟩ | intro _)
       all_goals first | (with_reducible first | apply qa | apply qb | apply qc | apply qd) | (conv => whnf)
       all_goals (try simp only [bne_iff_ne, ne_eq, bne_eq_false_iff_eq, beq_iff_eq, beq_eq_false_iff_ne] at *)
       all_goals first | exact congrArg Value.bool (plain_no ‹i < x0.size› hg).symm | omega | (exact congrArg Value.bool (by rw [plain_yes fun j hj => k2 j (by omega)]; exact (plain_end x0)))
     | true =>
       have h0 : ¬ (kindB (Utf8.decode x0 i).1 ≠ 2 /\ (kindB (Utf8.decode x0 i).1 ≠ 3 \/ i = 0)) := fun q => by rw [(good_iff x0 i).2 q] at hg; cases hg
       have hw := good_lo hg
       have hn : ∀ j, j < i + 1 -> goodB x0 j = true := fun j hj => by
        rcases Nat.lt_or_ge j i with h | h
        . exact k2 j h
        . rw [show j = i by omega]; exact hg
       repeat' (first | exact trivial | refine ⟨?_, ?_⟩ | intro _)
       all_goals first | (with_reducible first | apply qa | apply qb | apply qc | apply qd) | (conv => whnf)
       all_goals (try simp only [bne_iff_ne, ne_eq, bne_eq_false_iff_eq, beq_iff_eq, beq_eq_false_iff_ne] at *)
       all_goals first | omega | rfl | ((with_reducible show idsOk _ _ = true); rfl) | exact hn _ ‹_› | (dsimp only; omega) | (rw [hw]; done) | (dsimp only; rw [hw]; done) | (exact congrArg Value.bool (by rw [plain_yes fun j hj => k2 j (by omega)]; exact (plain_end x0)))
 . cases h
def wordL : List ByteArray := [(⟨#[105, 110, 116]⟩ : ByteArray), (⟨#[105, 102]⟩ : ByteArray), (⟨#[101, 108, 115, 101]⟩ : ByteArray), (⟨#[119, 104, 105, 108, 101]⟩ : ByteArray), (⟨#[114, 101, 116, 117, 114, 110]⟩ : ByteArray), (⟨#[97, 115, 115, 101, 114, 116]⟩ : ByteArray), (⟨#[105, 110, 112, 117, 116]⟩ : ByteArray), (⟨#[110, 117, 108, 108]⟩ : ByteArray)]
def wordR : List ByteArray := [(⟨#[97, 115, 115, 101, 114, 116]⟩ : ByteArray), (⟨#[101, 108, 115, 101]⟩ : ByteArray), (⟨#[105, 102]⟩ : ByteArray), (⟨#[105, 110, 112, 117, 116]⟩ : ByteArray), (⟨#[105, 110, 116]⟩ : ByteArray), (⟨#[110, 117, 108, 108]⟩ : ByteArray), (⟨#[114, 101, 116, 117, 114, 110]⟩ : ByteArray), (⟨#[119, 104, 105, 108, 101]⟩ : ByteArray)]
def nameB (s : ByteArray) : Bool := decide (s.size <= 20) && plainB s && !memS s wordL
theorem word_same (s : ByteArray) : memS s wordR = memS s wordL := by
 unfold memS wordL wordR
 simp only [List.any_cons, List.any_nil, Bool.or_false]
 ac_rfl
theorem byte_bAt {s : ByteArray} {i : Nat} (h : i < s.size) : byteAt s i = (bAt s i : Nat) := by
 unfold byteAt bAt
 rw [getElem?_pos s i h]
 show ((s[i].toNat : Nat) : Int) = _
 congr 2
 obtain ⟨a⟩ := s
 have h : i < a.size := h
 show a[i] = ByteArray.get! ⟨a⟩ i
 simp [ByteArray.get!, h]
def FWord : List Ar -> Option Rs
 | [.c (.d (.v (.string x0)))] => some ⟨True, .va (.c (.d (bo (memS x0 wordL)))), []⟩
 | _ => none
theorem fcWord : FC Tryz.prog 60 FWord := by
 intro xs pre r us h hp
 unfold FWord at h
 split at h
 . rename_i x0
   cases h
   refine fcat tys_ok (l := [(75, ⟨[], FNContains⟩)]) ⟨fcNContains, trivial⟩ Tryz.func60 rfl (by kernel_rfl) false ?_
   have h8 : ∀ i, i < 8 -> (Go.Sx.rowAt 1 [.v (.string ⟨#[105, 110, 116]⟩), .v (.string ⟨#[105, 102]⟩), .v (.string ⟨#[101, 108, 115, 101]⟩), .v (.string ⟨#[119, 104, 105, 108, 101]⟩), .v (.string ⟨#[114, 101, 116, 117, 114, 110]⟩), .v (.string ⟨#[97, 115, 115, 101, 114, 116]⟩), .v (.string ⟨#[105, 110, 112, 117, 116]⟩), .v (.string ⟨#[110, 117, 108, 108]⟩)]) (0 + i) = [st (gT ((Go.Sx.rowAt 1 [.v (.string ⟨#[105, 110, 116]⟩), .v (.string ⟨#[105, 102]⟩), .v (.string ⟨#[101, 108, 115, 101]⟩), .v (.string ⟨#[119, 104, 105, 108, 101]⟩), .v (.string ⟨#[114, 101, 116, 117, 114, 110]⟩), .v (.string ⟨#[97, 115, 115, 101, 114, 116]⟩), .v (.string ⟨#[105, 110, 112, 117, 116]⟩), .v (.string ⟨#[110, 117, 108, 108]⟩)]) (0 + i)))] := fun i hi => by
    have : i = 0 \/ i = 1 \/ i = 2 \/ i = 3 \/ i = 4 \/ i = 5 \/ i = 6 \/ i = 7 := by omega
    rcases this with rfl | rfl | rfl | rfl | rfl | rfl | rfl | rfl <;> rfl
   repeat' (first | exact trivial | refine ⟨?_, ?_⟩ | intro _)
   all_goals first | (with_reducible first | apply qa | apply qb | apply qc | apply qd) | (conv => whnf)
   all_goals first | exact h8 _ ‹_› | (intro i hi; exact h8 i hi) | omega | decide | rfl
 . cases h
def FName : List Ar -> Option Rs
 | [.c (.d (.v (.string x0)))] => some ⟨(x0.size <= 9223372036854775807), .va (.c (.d (bo (nameB x0)))), []⟩
 | _ => none
theorem fcName : FC Tryz.prog 38 FName := by
 intro xs pre r us h hp
 unfold FName at h
 split at h
 . rename_i x0
   cases h
   have hp0 := hp
   refine fcat tys_ok (l := [(59, ⟨[], FPlain⟩), (60, ⟨[], FWord⟩)]) ⟨fcPlain, fcWord, trivial⟩ Tryz.func38 rfl (by kernel_rfl) false ?_
   repeat' (first | exact trivial | refine ⟨?_, ?_⟩ | intro _)
   all_goals first | (with_reducible first | apply qa | apply qb | apply qc | apply qd) | (conv => whnf)
   all_goals first | omega | (refine congrArg Value.bool ?_; unfold nameB; have hd := ‹decide ((x0.size : Int) <= 20) = true›; rw [decide_eq_true_eq] at hd; rw [decide_eq_true (show x0.size <= 20 by omega)]; first | rfl | (rw [‹plainB x0 = true›]; rfl) | (rw [‹plainB x0 = false›]; rfl)) | (refine congrArg Value.bool ?_; unfold nameB; have hd := ‹decide ((x0.size : Int) <= 20) = false›; rw [decide_eq_false_iff_not] at hd; rw [decide_eq_false (show ¬ x0.size <= 20 by omega)]; rfl)
 . cases h
def FRLetter : List Ar -> Option Rs
 | [.c (.d (.v (.int .u8 i0)))] => some ⟨True, .va (.c (.d (bo (letB i0)))), []⟩
 | _ => none
theorem fcRLetter : FC Tryz.prog 35 FRLetter := by
 intro xs pre r us h hp
 unfold FRLetter at h
 split at h
 . rename_i i0
   cases h
   refine fcat tys_ok (l := []) trivial Tryz.func35 rfl (by kernel_rfl) false ?_
   repeat' (first | exact trivial | refine ⟨?_, ?_⟩ | intro _)
   all_goals first | (with_reducible first | apply qa | apply qb | apply qc | apply qd) | (conv => whnf)
   all_goals (refine congrArg Value.bool (Bool.eq_iff_iff.2 ?_); unfold letB; (try simp only [decide_eq_true_eq, decide_eq_false_iff_not, ge_iff_le, gt_iff_lt] at *); (try simp only [Bool.or_eq_true, decide_eq_true_eq, beq_iff_eq, Bool.false_eq_true, Bool.true_eq_false, false_iff, true_iff, iff_true, iff_false]); omega)
 . cases h
def FRDigit : List Ar -> Option Rs
 | [.c (.d (.v (.int .u8 i0)))] => some ⟨True, .va (.c (.d (bo (digB i0)))), []⟩
 | _ => none
theorem fcRDigit : FC Tryz.prog 33 FRDigit := by
 intro xs pre r us h hp
 unfold FRDigit at h
 split at h
 . rename_i i0
   cases h
   refine fcat tys_ok (l := []) trivial Tryz.func33 rfl (by kernel_rfl) false ?_
   repeat' (first | exact trivial | refine ⟨?_, ?_⟩ | intro _)
   all_goals first | (with_reducible first | apply qa | apply qb | apply qc | apply qd) | (conv => whnf)
   all_goals (refine congrArg Value.bool (Bool.eq_iff_iff.2 ?_); unfold digB; (try simp only [decide_eq_true_eq, decide_eq_false_iff_not, ge_iff_le, gt_iff_lt] at *); (try simp only [Bool.or_eq_true, decide_eq_true_eq, beq_iff_eq, Bool.false_eq_true, Bool.true_eq_false, false_iff, true_iff, iff_true, iff_false]); omega)
 . cases h
def FRIn : List Ar -> Option Rs
 | [.c (.d (.lst 1 n0 f0)), .c (.d (.v (.string x1)))] => some ⟨(n0 * 16 <= 140737488351232 /\ ∀ i, i < n0 -> f0 i = [st (gT (f0 i))]), .va (.c (.d (bo (memS x1 (gN n0 f0))))), []⟩
 | _ => none
theorem fcRIn : FC Tryz.prog 57 FRIn := by
 intro xs pre r us h hp
 unfold FRIn at h
 split at h
 . rename_i n0 f0 x1
   cases h
   have hp0 := hp
   refine FCat.of_eq (as' := [.c (.d (.lst 1 n0 fun i => [st (gT (f0 i))])), .c (.d (.v (.string x1)))]) ?_ rfl rfl ?_
   . repeat' (first | exact trivial | exact rfl | refine ⟨?_, ?_⟩ | fail)
     all_goals first | exact hp0.2 | exact hp1.2 | exact hp2.2 | (intro i hi; exact (hp0.2 i hi).1) | (intro i hi; exact (hp1.2 i hi).1) | (intro i hi; exact (hp2.2 i hi).1) | grind
   refine fcat tys_ok (l := []) trivial Tryz.func57 rfl (by kernel_rfl) false ?_
   repeat' (first | exact trivial | refine ⟨?_, ?_⟩ | intro _)
   all_goals first | (with_reducible first | apply qa | apply qb | apply qc | apply qd) | (conv => whnf)
   refine loop_ids tys_ok (l := []) trivial (by kernel_rfl) (X := Nat)
    (fun x => ⟨[(5, vx (.int .i64 x)), (0, .va (.c (.d (.lst 1 n0 fun i => [st (gT (f0 i))])))), (1, vx (.string x1))], [], 0, 18⟩)
    (fun x => n0 - x) (fun x => x <= n0 /\ ∀ j, j < x -> ¬ x1 = gT (f0 j)) [] []
    (fun x _ _ => x + 1) (fun _ => []) [] 0 0 0 ?_ ?_ ?_
   . exact ⟨Nat.zero_le _, fun j h => absurd h (Nat.not_lt_zero _)⟩
   . repeat' (first | exact trivial | exact rfl | (intro _ h; exact absurd h (Nat.not_lt_zero _)) | (intro _ _; exact rfl) | refine ⟨?_, ?_⟩ | fail)
   . rintro i ⟨k1, k2⟩
     repeat' (first | exact trivial | refine ⟨?_, ?_⟩ | intro _)
     all_goals first | (with_reducible first | apply qa | apply qb | apply qc | apply qd) | (conv => whnf)
     all_goals (try simp only [Int.toNat_natCast, decide_eq_true_eq, decide_eq_false_iff_not, seq_iff, gN_canon] at *)
     all_goals first | omega | ((with_reducible show idsOk _ _ = true); rfl) | ((with_reducible show Value.int _ _ = Value.int _ _); rw [wI_id _ (by omega) (by omega)]; rfl) | (exact congrArg Value.bool (memS_iff.2 (gN_mem.2 ⟨i, by omega, by first | exact ‹_ = _› | exact ‹_ = _›.symm⟩)).symm) | (exact congrArg Value.bool (memS_not.2 (by rw [gN_mem]; rintro ⟨j, hj, e⟩; exact k2 j (by omega) e.symm)).symm) | (exact not_step k2 (by first | assumption | (intro e; exact absurd e.symm (by assumption))) _ ‹_ < i + 1›) | (exact absurd (by assumption) (not_step k2 (by first | assumption | (intro e; exact absurd e.symm (by assumption))) _ ‹_ < i + 1›)) | rfl
 . cases h
def FRWord : List Ar -> Option Rs
 | [.c (.d (.v (.string x0)))] => some ⟨True, .va (.c (.d (bo (memS x0 wordL)))), []⟩
 | _ => none
theorem fcRWord : FC Tryz.prog 34 FRWord := by
 intro xs pre r us h hp
 unfold FRWord at h
 split at h
 . rename_i x0
   cases h
   refine fcat tys_ok (l := [(57, ⟨[], FRIn⟩)]) ⟨fcRIn, trivial⟩ Tryz.func34 rfl (by kernel_rfl) false ?_
   have h8 : ∀ i, i < 8 -> (Go.Sx.rowAt 1 [.v (.string ⟨#[97, 115, 115, 101, 114, 116]⟩), .v (.string ⟨#[101, 108, 115, 101]⟩), .v (.string ⟨#[105, 102]⟩), .v (.string ⟨#[105, 110, 112, 117, 116]⟩), .v (.string ⟨#[105, 110, 116]⟩), .v (.string ⟨#[110, 117, 108, 108]⟩), .v (.string ⟨#[114, 101, 116, 117, 114, 110]⟩), .v (.string ⟨#[119, 104, 105, 108, 101]⟩)]) (0 + i) = [st (gT ((Go.Sx.rowAt 1 [.v (.string ⟨#[97, 115, 115, 101, 114, 116]⟩), .v (.string ⟨#[101, 108, 115, 101]⟩), .v (.string ⟨#[105, 102]⟩), .v (.string ⟨#[105, 110, 112, 117, 116]⟩), .v (.string ⟨#[105, 110, 116]⟩), .v (.string ⟨#[110, 117, 108, 108]⟩), .v (.string ⟨#[114, 101, 116, 117, 114, 110]⟩), .v (.string ⟨#[119, 104, 105, 108, 101]⟩)]) (0 + i)))] := fun i hi => by
    have : i = 0 \/ i = 1 \/ i = 2 \/ i = 3 \/ i = 4 \/ i = 5 \/ i = 6 \/ i = 7 := by omega
    rcases this with rfl | rfl | rfl | rfl | rfl | rfl | rfl | rfl <;> rfl
   repeat' (first | exact trivial | refine ⟨?_, ?_⟩ | intro _)
   all_goals first | (with_reducible first | apply qa | apply qb | apply qc | apply qd) | (conv => whnf)
   all_goals first | exact h8 _ ‹_› | (intro i hi; exact h8 i hi) | omega | decide | (exact congrArg Value.bool (word_same x0)) | rfl
 . cases h
theorem good_i {s : ByteArray} {i : Nat} : goodB s i = (letB (bAt s i) || (digB (bAt s i) && decide (i ≠ 0))) := rfl
theorem dig_first {s : ByteArray} (h : 0 < s.size) (hd : digB (byteAt s (Int.toNat 0)) = true) : goodB s 0 = false := by
 rw [byte_bAt (show Int.toNat 0 < s.size from h)] at hd
 have hd : digB (bAt s 0) = true := hd
 unfold goodB
 have : letB (bAt s 0) = false := by
  unfold digB at hd; unfold letB
  simp only [decide_eq_true_eq] at hd
  simp only [Bool.or_eq_false_iff, decide_eq_false_iff_not]
  omega
 rw [this]; simp
theorem name_empty {s : ByteArray} (h : (s.toList == (⟨#[]⟩ : ByteArray).toList) = true) : nameB s = false := by
 have h1 := plain_end s
 rw [h] at h1
 have h2 : s.size = 0 := by
  have : decide (s.size ≠ 0) = false := h1.symm
  simpa using this
 unfold nameB plainB
 rw [decide_eq_false (show ¬ s.size ≠ 0 by omega)]; simp
theorem not_empty {s : ByteArray} (h : (s.toList == (⟨#[]⟩ : ByteArray).toList) = false) : s.size ≠ 0 := by
 have h1 := plain_end s
 rw [h] at h1
 simpa using h1.symm
theorem name_long {s : ByteArray} (h : ¬ s.size <= 20) : nameB s = false := by unfold nameB; rw [decide_eq_false h]; rfl
theorem name_plain {s : ByteArray} (h : plainB s = false) : nameB s = false := by unfold nameB; rw [h]; simp
theorem name_word {s : ByteArray} (h : memS s wordL = true) : nameB s = false := by unfold nameB; rw [h]; simp
theorem name_ok {s : ByteArray} (h0 : s.size ≠ 0) (h1 : s.size <= 20) (h2 : ∀ i, i < s.size -> goodB s i = true) (h3 : memS s wordL = false) : nameB s = true := by
 unfold nameB; rw [decide_eq_true h1, plain_yes h2, h3, decide_eq_true h0]; rfl
def FRName : List Ar -> Option Rs
 | [.c (.d (.v (.string x0)))] => some ⟨(x0.size <= 9223372036854775807), .va (.c (.d (bo (nameB x0)))), []⟩
 | _ => none
theorem fcRName : FC Tryz.prog 14 FRName := by
 intro xs pre r us h hp
 unfold FRName at h
 split at h
 . rename_i x0
   cases h
   have hp0 := hp
   refine fcat tys_ok (l := [(35, ⟨[], FRLetter⟩), (33, ⟨[], FRDigit⟩), (34, ⟨[], FRWord⟩)]) ⟨fcRLetter, fcRDigit, fcRWord, trivial⟩ Tryz.func14 rfl (by kernel_rfl) true ?_
   repeat' (first | exact trivial | refine ⟨?_, ?_⟩ | intro _)
   all_goals first | (with_reducible first | apply qa | apply qb | apply qc | apply qd) | (conv => whnf)
   all_goals first | exact congrArg Value.bool (name_empty ‹_›).symm | (exact congrArg Value.bool (name_long (by have := of_decide_eq_true ‹decide ((x0.size : Int) > 20) = true›; omega)).symm) | (have := not_empty ‹_›; omega) | (exact congrArg Value.bool (name_word ‹memS x0 wordL = true›).symm) | (exact congrArg Value.bool (name_plain (plain_no (i := 0) (by have := not_empty ‹_›; omega) (dig_first (by have := not_empty ‹_›; omega) ‹digB _ = true›))).symm) | skip
   have hz : x0.size ≠ 0 := not_empty ‹_›
   have hl : x0.size <= 20 := by have := of_decide_eq_false ‹decide ((x0.size : Int) > 20) = false›; omega
   have hd0 : digB (bAt x0 0) = false := by have h := ‹digB _ = false›; rw [byte_bAt (by show Int.toNat 0 < _; exact Nat.pos_of_ne_zero hz)] at h; exact h
   have hmw := ‹memS x0 wordL = false›
   refine loop_ok tys_ok (l := [(35, ⟨[], FRLetter⟩), (33, ⟨[], FRDigit⟩), (34, ⟨[], FRWord⟩)]) ⟨fcRLetter, fcRDigit, fcRWord, trivial⟩ (by kernel_rfl) (X := Nat)
    (fun i => ⟨[(3, vx (.int .i64 i)), (0, vx (.string x0))], [], 0, 38⟩)
    (fun i => x0.size - i) (fun i => i <= x0.size /\ ∀ j, j < i -> goodB x0 j = true) [] []
    (fun i _ _ => i + 1) [] [] 0 0 0 ?_ ?_ ?_
   . exact ⟨Nat.zero_le _, fun j h => absurd h (Nat.not_lt_zero j)⟩
   . repeat' (first | exact trivial | exact rfl | (intro _ _; exact rfl) | refine ⟨?_, ?_⟩ | fail)
   . rintro i ⟨k1, k2⟩
     rcases Nat.lt_or_ge i x0.size with hi | hi
     . have hne : decide ((i : Int) < (x0.size : Int)) = true := decide_eq_true (by omega)
       have hib : (0 : Int) <= (i : Int) /\ (i : Int) < (x0.size : Int) := by omega
       have hby : byteAt x0 (Int.toNat (i : Int)) = (bAt x0 i : Nat) := byte_bAt hi
       cases h1 : letB (byteAt x0 (Int.toNat (i : Int))) with
       | true =>
         have h3 : (!letB (byteAt x0 (Int.toNat (i : Int)))) = false := by rw [h1]; rfl
         have hg : goodB x0 i = true := by rw [good_i, <- hby, h1]; rfl
         have hn : ∀ j, j < i + 1 -> goodB x0 j = true := fun j hj => by
          rcases Nat.lt_or_ge j i with h | h
          . exact k2 j h
          . rw [show j = i by omega]; exact hg
         repeat' (first | exact trivial | (with_reducible first | exact (fun h => absurd (hne.symm.trans h) (by decide)) | exact (fun h => absurd (h1.symm.trans h) (by decide)) | exact (fun h => absurd (h3.symm.trans h) (by decide)) | exact hib) | refine ⟨?_, ?_⟩ | intro _)
         all_goals first | (with_reducible first | apply qa | apply qb | apply qc | apply qd) | (conv => whnf)
         all_goals first | omega | rfl | (exact congrArg Value.bool hn.symm) | exact hn _ ‹_› | ((with_reducible show idsOk _ _ = true); rfl) | (dsimp only; omega) | (exact congrArg (Value.int .i64) (by first | (rw [wI_id _ (by omega) (by omega)]; omega) | omega | (dsimp only; omega))) | (dsimp only; (exact congrArg (Value.int .i64) (by first | (rw [wI_id _ (by omega) (by omega)]; omega) | omega | (dsimp only; omega))))
       | false =>
         have h3 : (!letB (byteAt x0 (Int.toNat (i : Int)))) = true := by rw [h1]; rfl
         cases h2 : digB (byteAt x0 (Int.toNat (i : Int))) with
         | true =>
           have h4 : (!digB (byteAt x0 (Int.toNat (i : Int)))) = false := by rw [h2]; rfl
           have hi0 : i ≠ 0 := fun e => by subst e; rw [hby, hd0] at h2; cases h2
           have hg : goodB x0 i = true := by rw [good_i, <- hby, h1, h2, decide_eq_true hi0]; rfl
           have hn : ∀ j, j < i + 1 -> goodB x0 j = true := fun j hj => by
            rcases Nat.lt_or_ge j i with h | h
            . exact k2 j h
            . rw [show j = i by omega]; exact hg
           repeat' (first | exact trivial | (with_reducible first | exact (fun h => absurd (hne.symm.trans h) (by decide)) | exact (fun h => absurd (h1.symm.trans h) (by decide)) | exact (fun h => absurd (h2.symm.trans h) (by decide)) | exact (fun h => absurd (h3.symm.trans h) (by decide)) | exact (fun h => absurd (h4.symm.trans h) (by decide)) | exact hib) | refine ⟨?_, ?_⟩ | intro _)
           all_goals first | (with_reducible first | apply qa | apply qb | apply qc | apply qd) | (conv => whnf)
           all_goals first | omega | rfl | (exact congrArg Value.bool hn.symm) | exact hn _ ‹_› | ((with_reducible show idsOk _ _ = true); rfl) | (dsimp only; omega) | (exact congrArg (Value.int .i64) (by first | (rw [wI_id _ (by omega) (by omega)]; omega) | omega | (dsimp only; omega))) | (dsimp only; (exact congrArg (Value.int .i64) (by first | (rw [wI_id _ (by omega) (by omega)]; omega) | omega | (dsimp only; omega))))
         | false =>
           have h4 : (!digB (byteAt x0 (Int.toNat (i : Int)))) = true := by rw [h2]; rfl
           have hg : goodB x0 i = false := by rw [good_i, <- hby, h1, h2]; rfl
           have hn : nameB x0 = false := name_plain (plain_no hi hg)
           repeat' (first | exact trivial | (with_reducible first | exact (fun h => absurd (hne.symm.trans h) (by decide)) | exact (fun h => absurd (h1.symm.trans h) (by decide)) | exact (fun h => absurd (h2.symm.trans h) (by decide)) | exact (fun h => absurd (h3.symm.trans h) (by decide)) | exact (fun h => absurd (h4.symm.trans h) (by decide)) | exact hib) | refine ⟨?_, ?_⟩ | intro _)
           all_goals first | (with_reducible first | apply qa | apply qb | apply qc | apply qd) | (conv => whnf)
           all_goals first | omega | rfl | (exact congrArg Value.bool hn.symm) | exact hn _ ‹_› | ((with_reducible show idsOk _ _ = true); rfl) | (dsimp only; omega) | (exact congrArg (Value.int .i64) (by first | (rw [wI_id _ (by omega) (by omega)]; omega) | omega | (dsimp only; omega))) | (dsimp only; (exact congrArg (Value.int .i64) (by first | (rw [wI_id _ (by omega) (by omega)]; omega) | omega | (dsimp only; omega))))
     . have hne : decide ((i : Int) < (x0.size : Int)) = false := decide_eq_false (by omega)
       have hn : nameB x0 = true := name_ok hz hl (fun j hj => k2 j (by omega)) hmw
       repeat' (first | exact trivial | (with_reducible exact (fun h => absurd (hne.symm.trans h) (by decide))) | refine ⟨?_, ?_⟩ | intro _)
       all_goals first | (with_reducible first | apply qa | apply qb | apply qc | apply qd) | (conv => whnf)
       all_goals first | omega | rfl | (exact congrArg Value.bool hn.symm) | exact hn _ ‹_› | ((with_reducible show idsOk _ _ = true); rfl) | (dsimp only; omega) | (exact congrArg (Value.int .i64) (by first | (rw [wI_id _ (by omega) (by omega)]; omega) | omega | (dsimp only; omega))) | (dsimp only; (exact congrArg (Value.int .i64) (by first | (rw [wI_id _ (by omega) (by omega)]; omega) | omega | (dsimp only; omega))))
 . cases h
open Go.RowKit Go.Lib Go.Sort
theorem ext0_same {S : Nat -> Prop} {w w' : World} (hs : ∀ b, S b -> b < w.heap.size) (h1 : w'.os = w.os) (h2 : w'.tape = w.tape) (h3 : w'.output = w.output) (h4 : w.heap.size <= w'.heap.size) (h5 : ∀ b, b < w.heap.size -> w'.heap[b]? = w.heap[b]?) : Ext0 S w S w' :=
 ⟨h1, h2, h3, h4, h5, fun _ h => h, fun _ h => .inl h, fun b hb => Nat.lt_of_lt_of_le (hs b hb) h4⟩
theorem ext0_drewN {S : Nat -> Prop} {w : World} (hs : ∀ b, S b -> b < w.heap.size) (n : Nat) : Ext0 S w S (w.drewN n) := ext0_same hs rfl rfl rfl (Nat.le_refl _) fun _ _ => rfl
theorem ext0_grow {S : Nat -> Prop} {w : World} (hs : ∀ b, S b -> b < w.heap.size) (n : Nat) (os : Array Obj) : Ext0 S w S (grow (w.drewN n) os) :=
 ext0_same hs rfl rfl rfl (by show w.heap.size <= (w.heap ++ os).size; simp) fun b hb => by
  show (w.heap ++ os)[b]? = _
  rw [Array.getElem?_append_left hb]
theorem ext0_below {S : Nat -> Prop} {w w' : World} (hs : ∀ b, S b -> b < w.heap.size) (h : Below w.heap.size w w') : Ext0 S w S w' :=
 ext0_same hs h.os h.tape h.output h.size h.block
theorem fc_callsG {P : Program} {f : Nat} {F : List Ar -> Option Rs} (hc : Callable P f) (h : ∀ xs pre r us, F xs = some ⟨pre, r, us⟩ -> pre ->
 ∃ (vs : List Value) (v : Value), xs = vs.map (fun x => Ar.c (.d (.v x))) /\ us = [] /\ (∀ S w, SOk P S w -> Calls P f vs.toArray w fun e w' => e = .returned v /\ Ext0 S w S w') /\ ∀ S w, RepRt P S w r v []) : FC P f F := by
 intro xs pre r us hF hpre S w vals ls hS hr hsep
 obtain ⟨vs, v, rfl, rfl, hrun, hrep⟩ := h _ _ _ _ hF hpre
 have hrows : ∀ (vs : List Value), arsRows (vs.map fun x => Ar.c (.d (.v x))) = [] := by
  intro vs
  induction vs with
  | nil => rfl
  | cons v vs ih => simp [arsRows, arRows, icRows, ih]
 have e := repArs_rows hr (hrows vs)
 subst e
 have hv : vals = vs := by
  clear hrun hF hrows
  induction vs generalizing vals with
  | nil => cases vals with | nil => rfl | cons _ _ => simp [RepArs] at hr
  | cons x vs ih => cases vals with
    | nil => simp [RepArs] at hr
    | cons u vals =>
      simp only [List.map_cons, RepArs] at hr
      obtain ⟨l1, l2, e, h1, h2⟩ := hr
      obtain ⟨rfl, rfl⟩ := List.append_eq_nil_iff.1 e.symm
      have h1 : RepIcs S w [.d (.v x)] [u] [] := h1
      have h1 : RepD S w (.v x) u := h1.1
      cases h1
      rw [ih _ h2]
 subst hv
 refine .inl ⟨hc, (hrun S w hS).mono ?_⟩
 rintro e w' ⟨rfl, hx⟩
 refine ⟨v, S, [], rfl, hrep S w', ?_, trivial, ⟨hx.os, hx.tape, hx.output, hx.grow, fun b hb _ => hx.old b hb, ⟨fun _ h => h, fun b hb => hx.old b (hS b hb)⟩, fun _ h => .inl h, fun b hb => .inl hb, hx.sdom⟩⟩
 rw [hrows]; trivial
theorem pow_tab {S : Nat -> Prop} {w : World} (h : GInv Tryz.prog S w) : TabIs Tryz.prog w "internal/strconv.uint64pow10" .u64 pow10Tab := by
 obtain ⟨gl, hgl, hn⟩ := Option.map_eq_some_iff.1 (show (Tryz.prog.globals[1]?).map (·.name) = some "internal/strconv.uint64pow10" by kernel_rfl)
 obtain ⟨_, arr, e, fr, h1, h2⟩ := h 1 gl hgl (by rw [hn]; simp [gNames])
 have h3 := h2.pow hn
 unfold TabIs World.var?
 rw [show Tryz.prog.globalNamed "internal/strconv.uint64pow10" = some 1 by kernel_rfl]
 show (match w.heap[1]? with | some (.cells cs _ _) => some cs | _ => none) = _
 rw [h1, h3]
 unfold pow10Tab
 rw [List.map_map]; rfl
theorem max_int {S : Nat -> Prop} {w : World} (h : GInv Tryz.prog S w) : ∃ m, w.cell? ⟨0, 0, none⟩ = some (.int .i64 m) := by
 obtain ⟨gl, hgl, hn⟩ := Option.map_eq_some_iff.1 (show (Tryz.prog.globals[0]?).map (·.name) = some "internal/bytealg.MaxLen" by kernel_rfl)
 obtain ⟨_, arr, e, fr, h1, h2⟩ := h 0 gl hgl (by rw [hn]; simp [gNames])
 obtain ⟨m, h3⟩ := h2.max hn
 exact ⟨m, by rw [cell_at h1, h3]; rfl⟩
def cutS (a b : ByteArray) : ByteArray × ByteArray × Bool := (⟨(Lib.cut a.data.toList b.data.toList).1.toArray⟩, ⟨(Lib.cut a.data.toList b.data.toList).2.1.toArray⟩, (Lib.cut a.data.toList b.data.toList).2.2)
def itoaS (n : Int) : ByteArray := ⟨(Lib.itoa n).toArray⟩
def FCut : List Ar -> Option Rs
 | [.c (.d (.v (.string x))), .c (.d (.v (.string y)))] => some ⟨x.size < 4294967281, .tup [.c (.d (st (cutS x y).1)), .c (.d (st (cutS x y).2.1)), .c (.d (bo (cutS x y).2.2))], []⟩
 | _ => none
theorem fcCut : FC Tryz.prog 39 FCut := by
 refine fc_callsG (callable_of Tryz.func39 rfl rfl) fun xs pre r us h hp => ?_
 unfold FCut at h
 split at h
 . rename_i x y
   cases h
   refine ⟨[.string x, .string y], .tuple #[.string (cutS x y).1, .string (cutS x y).2.1, .bool (cutS x y).2.2], rfl, rfl, fun S w hS => ?_, fun S w => ⟨_, rfl, [], [], rfl, And.intro (.v trivial) trivial, [], [], rfl, And.intro (.v trivial) trivial, [], [], rfl, And.intro (.v trivial) trivial, rfl⟩⟩
   obtain ⟨m, hm⟩ := max_int hS.glob
   refine (Tryz.strings_Cut x y m w hp hm).mono ?_
   rintro e w' ⟨rfl, n, rfl⟩
   exact ⟨rfl, ext0_drewN hS.lt n⟩
 . cases h
def FItoa : List Ar -> Option Rs
 | [.c (.d (.v (.int .i64 n)))] => some ⟨rI n, .va (.c (.d (st (itoaS n)))), []⟩
 | _ => none
theorem fcItoa : FC Tryz.prog 24 FItoa := by
 refine fc_callsG (callable_of Tryz.func24 rfl rfl) fun xs pre r us h hp => ?_
 unfold FItoa at h
 split at h
 . rename_i n
   cases h
   refine ⟨[.int .i64 n], .string (itoaS n), rfl, rfl, fun S w hS => ?_, fun S w => And.intro (.v trivial) trivial⟩
   unfold rI at hp
   refine (Tryz.strconv_Itoa n hp.1 (by omega) w (pow_tab hS.glob)).mono ?_
   rintro e w' ⟨rfl, k, os, rfl⟩
   exact ⟨rfl, ext0_grow hS.lt k os⟩
 . cases h
end Go.Proofs.YtakcacejpbiogaaGreatDoor
namespace Go.Proofs.YtakcacejpbiogaaGreatDoor
open Go.Sx
open Go.RowKit Go.Lib Go.Sort
theorem lst_rep {S : Nat -> Prop} {w : World} {L : List ByteArray} {b c : Nat} {e : TypeId} {fr : Nat × Nat} (hS : S b) (hc : L.length <= c) (hh : w.heap[b]? = some (.cells (L.map Value.string).toArray e fr)) : RepD S w (lst L) (.slice (some ⟨b, 0, none⟩) L.length c) := by
 refine .lst (fun i _ => .string (atS L i)) hS (fun i hi => rfl) (fun i j hi hj => ?_) (fun i j hi hj => ?_) hc
 . obtain rfl : j = 0 := by omega
   rw [cell_at hh]
   have : 0 + i * 1 + 0 < (L.map Value.string).toArray.size := by simp; omega
   rw [Array.getElem?_eq_getElem this]
   simp [atS, List.getD_eq_getElem?_getD, hi]
 . obtain rfl : j = 0 := by omega
   exact .v trivial
theorem fc_texts {P : Program} {f : Nat} {F : List Ar -> Option Rs} (hc : Callable P f) (h : ∀ xs pre r us, F xs = some ⟨pre, r, us⟩ -> pre ->
 ∃ (vs : List Value) (L : List ByteArray), xs = vs.map (fun x => Ar.c (.d (.v x))) /\ us = [] /\ r = .va (.c (.d (lst L))) /\ ∀ S w, SOk P S w -> Calls P f vs.toArray w fun e w' => ∃ b c t fr, e = .returned (.slice (some ⟨b, 0, none⟩) L.length c) /\ L.length <= c /\ w.heap.size <= b /\ w'.heap[b]? = some (.cells (L.map Value.string).toArray t fr) /\ Ext0 S w S w') : FC P f F := by
 intro xs pre r us hF hpre S w vals ls hS hr hsep
 obtain ⟨vs, L, rfl, rfl, rfl, hrun⟩ := h _ _ _ _ hF hpre
 have hrows : ∀ (vs : List Value), arsRows (vs.map fun x => Ar.c (.d (.v x))) = [] := by
  intro vs
  induction vs with
  | nil => rfl
  | cons v vs ih => simp [arsRows, arRows, icRows, ih]
 have e := repArs_rows hr (hrows vs)
 subst e
 have hv : vals = vs := by
  clear hrun hF hrows
  induction vs generalizing vals with
  | nil => cases vals with | nil => rfl | cons _ _ => simp [RepArs] at hr
  | cons x vs ih => cases vals with
    | nil => simp [RepArs] at hr
    | cons u vals =>
      simp only [List.map_cons, RepArs] at hr
      obtain ⟨l1, l2, e, h1, h2⟩ := hr
      obtain ⟨rfl, rfl⟩ := List.append_eq_nil_iff.1 e.symm
      have h1 : RepIcs S w [.d (.v x)] [u] [] := h1
      have h1 : RepD S w (.v x) u := h1.1
      cases h1
      rw [ih _ h2]
 subst hv
 refine .inl ⟨hc, (hrun S w hS).mono ?_⟩
 rintro e w' ⟨b, c, t, fr, rfl, hLc, hb, hh, hx⟩
 have hlt : b < w'.heap.size := (Array.getElem?_eq_some_iff.1 hh).1
 refine ⟨_, fun b' => S b' \/ b' = b, [], rfl, ⟨lst_rep (.inr rfl) hLc hh, trivial⟩, ?_, trivial, ⟨hx.os, hx.tape, hx.output, hx.grow, fun b hb _ => hx.old b hb, ⟨fun _ h => .inl h, fun b hb => hx.old b (hS b hb)⟩, fun b' hb' => ?_, fun b hb => .inl hb, fun b' hb' => ?_⟩⟩
 . rw [hrows]; trivial
 . rcases hb' with h | rfl
   . exact .inl h
   . exact .inr (.inr hb)
 . rcases hb' with h | rfl
   . exact hx.sdom b' h
   . exact hlt
abbrev blS : ByteArray := ⟨#[32]⟩
def digS : ByteArray := ⟨#[48, 49, 50, 51, 52, 53, 54, 55, 56, 57]⟩
def splitS (a : ByteArray) : List ByteArray := Lib.splitB blS 0 (Lib.countB a blS) a
def FSplit : List Ar -> Option Rs
 | [.c (.d (.v (.string x))), .c (.d (.v (.string y)))] => some ⟨y = blS /\ x.size < 4294967281, .va (.c (.d (lst (splitS x)))), []⟩
 | _ => none
theorem fcSplit : FC Tryz.prog 20 FSplit := by
 refine fc_texts (callable_of Tryz.func20 rfl rfl) fun xs pre r us h hp => ?_
 unfold FSplit at h
 split at h
 . rename_i x y
   cases h
   obtain ⟨rfl, hp⟩ := hp
   refine ⟨[.string x, .string blS], splitS x, rfl, rfl, rfl, fun S w hS => ?_⟩
   obtain ⟨m, hm⟩ := max_int hS.glob
   refine (Tryz.strings_Split x blS m w hp hm (by decide)).mono ?_
   rintro e w' ⟨rfl, rfl⟩
   have hlen : (splitS x).length = Lib.countB x blS + 1 := Lib.splitB_all blS (by decide) 0 _ x rfl
   refine ⟨w.heap.size, Lib.countB x blS + 1, 9, (0, 0), by rw [hlen], by rw [hlen]; exact Nat.le_refl _, Nat.le_refl _, ?_, ?_⟩
   . show (w.heap.push _)[w.heap.size]? = _
     rw [Array.getElem?_push_size]; rfl
   . refine ext0_same hS.lt rfl rfl rfl ?_ fun b hb => ?_
     . show _ <= (w.heap.push _).size; simp
     . show (w.heap.push _)[b]? = _
       rw [Array.getElem?_push_lt hb]; simp [hb]
 . cases h
theorem err_var {S : Nat -> Prop} {w : World} (h : GInv Tryz.prog S w) : (∃ ev, w.cell? ⟨2, 0, none⟩ = some ev /\ (ev = .nilIface \/ ∃ te pe, ev = .iface te pe)) /\ ∃ ev, w.cell? ⟨3, 0, none⟩ = some ev /\ (ev = .nilIface \/ ∃ te pe, ev = .iface te pe) := by
 constructor
 . obtain ⟨gl, hgl, hn⟩ := Option.map_eq_some_iff.1 (show (Tryz.prog.globals[2]?).map (·.name) = some "strconv.ErrSyntax" by kernel_rfl)
   obtain ⟨_, arr, e, fr, h1, h2⟩ := h 2 gl hgl (by rw [hn]; simp [gNames])
   obtain ⟨ev, h3, h4⟩ := h2.err (.inr (.inl hn))
   exact ⟨ev, by rw [cell_at h1, h3]; rfl, h4⟩
 . obtain ⟨gl, hgl, hn⟩ := Option.map_eq_some_iff.1 (show (Tryz.prog.globals[3]?).map (·.name) = some "strconv.ErrRange" by kernel_rfl)
   obtain ⟨_, arr, e, fr, h1, h2⟩ := h 3 gl hgl (by rw [hn]; simp [gNames])
   obtain ⟨ev, h3, h4⟩ := h2.err (.inl hn)
   exact ⟨ev, by rw [cell_at h1, h3]; rfl, h4⟩
theorem acall_atoi {base : Nat} {st1 : St} {K : Tm -> St -> Prop} {s : ByteArray} (hs : s.size <= 281474976710656)
 (hok : ∀ v, Lib.atoiAll s.data.toList = .ok v -> K (.tup [.c (.d (it v)), .c (.d (.v .nilIface))]) st1)
 (herr : (∀ v, Lib.atoiAll s.data.toList ≠ .ok v) -> ∀ n t a, K (.tup [.c (.d (it n)), .c (.d (.v (.iface t (.pointer a))))]) st1) :
 ACall Tryz.prog base 64 [.c (.d (.v (.string s)))] st1 K := by
 refine ⟨fun ψ S w a vals hr hv => ?_⟩
 obtain ⟨v0, vs, rfl⟩ : ∃ v0 vs, vals = v0 :: vs := by
  cases vals with
  | nil => exact hv.elim
  | cons v vs => exact ⟨v, vs, rfl⟩
 obtain ⟨h1, h2⟩ := hv
 cases vs with
 | cons _ _ => exact h2.elim
 | nil =>
   have h1 : RepD S w (.v (.string s)) v0 := h1
   cases h1
   have hS := hr.sim.sdom
   have fin : ∀ (w' : World) (n : Int) (x : Value), Ext0 S w S w' -> Scalar x -> K (.tup [.c (.d (it n)), .c (.d (.v x))]) st1 ->
    ∃ r st' v ψ' S', Ending.returned (.tuple #[.int .i64 n, x]) = .returned v /\ K r st' /\ Rel Tryz.prog base ψ' S' w' st' a /\ RepT Tryz.prog ψ' S' w' r v /\ Ext base ψ S w ψ' S' w' := fun w' n x hx hsc hK => by
    obtain ⟨g1, g2⟩ := hr.ext0 hx
    exact ⟨_, _, _, ψ, S, rfl, hK, g1, ⟨_, rfl, .v trivial, .v hsc, trivial⟩, g2⟩
   refine .inl ⟨callable_of Tryz.func64 rfl rfl, ?_⟩
   obtain ⟨⟨e1, q1, q2⟩, e2, q3, q4⟩ := err_var hS.glob
   cases hat : Lib.atoiAll s.data.toList with
   | ok v =>
     refine (Tryz.strconv_Atoi_ok s (by omega) v hat w).mono ?_
     rintro e w' ⟨rfl, hw⟩
     refine fin w' v .nilIface ?_ trivial (hok v hat)
     rcases hw with rfl | ⟨t, rfl⟩
     . exact ext0_same hS.lt rfl rfl rfl (Nat.le_refl _) fun _ _ => rfl
     . exact ext0_below hS.lt (Lib.bytesWorld_below _ _ _)
   | range =>
     refine (Tryz.strconv_Atoi_range s hs hat e2 w q3 q4).mono ?_
     rintro e w' ⟨n, rfl, _, _, hb⟩
     exact fin w' _ _ (ext0_below hS.lt hb) trivial (herr (fun v h => by rw [hat] at h; cases h) _ _ _)
   | _ =>
     refine (Tryz.strconv_Atoi_syntax s hs hat e1 w q1 q2).mono ?_
     rintro e w' ⟨n, rfl, _, _, hb⟩
     exact fin w' 0 _ (ext0_below hS.lt hb) trivial (herr (fun v h => by rw [hat] at h; cases h) _ _ _)
def trimP (s p : ByteArray) : ByteArray := ⟨(Lib.trimPrefix s.data.toList p.data.toList).toArray⟩
def hasP (s p : ByteArray) : Bool := Lib.hasPrefix s.data.toList p.data.toList
def trimD (s p : ByteArray) : ByteArray := ⟨(Lib.trimS s.data.toList p.data.toList).toArray⟩
def joinS (l : List ByteArray) (p : ByteArray) : ByteArray := ⟨(Lib.join (l.map (·.data.toList)) p.data.toList).toArray⟩
def FTrimP : List Ar -> Option Rs
 | [.c (.d (.v (.string x))), .c (.d (.v (.string y)))] => some ⟨True, .va (.c (.d (st (trimP x y)))), []⟩
 | _ => none
theorem fcTrimP : FC Tryz.prog 62 FTrimP := by
 refine fc_calls (callable_of Tryz.func62 rfl rfl) fun xs pre r us h hp => ?_
 unfold FTrimP at h
 split at h
 . rename_i x y
   cases h
   exact ⟨[.string x, .string y], _, rfl, rfl, fun w => Tryz.strings_TrimPrefix x y w, fun S w => And.intro (.v trivial) trivial⟩
 . cases h
def FCutP : List Ar -> Option Rs
 | [.c (.d (.v (.string x))), .c (.d (.v (.string y)))] => some ⟨True, .tup [.c (.d (st (trimP x y))), .c (.d (bo (hasP x y)))], []⟩
 | _ => none
theorem fcCutP : FC Tryz.prog 36 FCutP := by
 refine fc_calls (callable_of Tryz.func36 rfl rfl) fun xs pre r us h hp => ?_
 unfold FCutP at h
 split at h
 . rename_i x y
   cases h
   exact ⟨[.string x, .string y], .tuple #[.string (trimP x y), .bool (hasP x y)], rfl, rfl, fun w => Tryz.strings_CutPrefix x y w, fun S w => ⟨_, rfl, [], [], rfl, And.intro (.v trivial) trivial, [], [], rfl, And.intro (.v trivial) trivial, rfl⟩⟩
 . cases h
def FTrim : List Ar -> Option Rs
 | [.c (.d (.v (.string x))), .c (.d (.v (.string y)))] => some ⟨y = digS /\ x.size <= 9223372036854775807, .va (.c (.d (st (trimD x y)))), []⟩
 | _ => none
theorem fcTrim : FC Tryz.prog 63 FTrim := by
 refine fc_callsG (callable_of Tryz.func63 rfl rfl) fun xs pre r us h hp => ?_
 unfold FTrim at h
 split at h
 . rename_i x y
   cases h
   obtain ⟨rfl, hx⟩ := hp
   refine ⟨[.string x, .string digS], .string (trimD x digS), rfl, rfl, fun S w hS => ?_, fun S w => And.intro (.v trivial) trivial⟩
   refine (Any.strings_Trim_laid Tryz.lays160 (by kernel_rfl) x digS w hx (by decide) (ascii_of_all (by decide))).mono ?_
   rintro e w' ⟨rfl, hb⟩
   exact ⟨rfl, ext0_below hS.lt hb⟩
 . cases h
def FJoin : List Ar -> Option Rs
 | [.c (.d (.lst 1 n f)), .c (.d (.v (.string y)))] => some ⟨n <= 140737488355328 /\ (∀ i, i < n -> f i = [st (gT (f i))]) /\ (joinS (gN n f) y).size <= 140737488355328, .va (.c (.d (st (joinS (gN n f) y)))), []⟩
 | _ => none
theorem fcJoin : FC Tryz.prog 25 FJoin := by
 intro xs pre r us hF hpre S w vals ls hS hr hsep
 unfold FJoin at hF
 split at hF
 . rename_i n f y
   cases hF
   obtain ⟨hn, hf, hl⟩ := hpre
   have e := repArs_rows hr rfl
   subst e
   obtain ⟨v0, v1, rfl, h1, h2⟩ : ∃ v0 v1, vals = [v0, v1] /\ RepD S w (.lst 1 n f) v0 /\ RepD S w (.v (.string y)) v1 := by
    cases vals with
    | nil => simp [RepArs] at hr
    | cons v0 vals =>
      simp only [RepArs] at hr
      obtain ⟨l1, l2, e, h1, h2⟩ := hr
      obtain ⟨rfl, rfl⟩ := List.append_eq_nil_iff.1 e.symm
      have h1 : RepIcs S w [.d (.lst 1 n f)] [v0] [] := h1
      cases vals with
      | nil => simp [RepArs] at h2
      | cons v1 vals =>
        simp only [RepArs] at h2
        obtain ⟨l3, l4, e2, h3, h4⟩ := h2
        obtain ⟨rfl, rfl⟩ := List.append_eq_nil_iff.1 e2.symm
        have h3 : RepIcs S w [.d (.v (.string y))] [v1] [] := h3
        cases vals with
        | nil => exact ⟨v0, v1, rfl, h1.1, h3.1⟩
        | cons _ _ => simp [RepArs] at h4
   cases h2
   have fin : ∀ (w' : World), Ext0 S w S w' -> ∃ v S' ls', Ending.returned (.string (joinS (gN n f) y)) = .returned v /\ RepRt Tryz.prog S' w' (.va (.c (.d (st (joinS (gN n f) y))))) v ls' /\ RepUs S' w' [] [] [] /\
    Sep S' w' (keptLocs [] [] ++ ls') /\ ExtA S w [] S' w' ls' := fun w' hx =>
    ⟨_, S, [], rfl, And.intro (.v trivial) trivial, trivial, trivial, ⟨hx.os, hx.tape, hx.output, hx.grow, fun b hb _ => hx.old b hb, ⟨fun _ h => h, fun b hb => hx.old b (hS b hb)⟩, fun _ h => .inl h, fun b hb => .inl hb, hx.sdom⟩⟩
   cases h1 with
   | nil =>
     refine .inl ⟨callable_of Tryz.func25 rfl rfl, (Tryz.strings_Join_none _ _ y w).mono ?_⟩
     rintro e w' ⟨rfl, rfl⟩
     exact fin w' (ext0_same hS.lt rfl rfl rfl (Nat.le_refl _) fun _ _ => rfl)
   | lst g k1 k2 k3 k4 k5 =>
     rename_i b off c
     have hgl := gN_length n f
     have := Tryz.strings_Join b off c (gN n f) y w (fun j x hj => ?_) (hS b k1) (by rw [hgl]; exact hn) (by rw [hgl]; exact k5) (by
      have : (joinS (gN n f) y).size = (Lib.join ((gN n f).map (·.data.toList)) y.data.toList).length := by show ((Lib.join ((gN n f).map (·.data.toList)) y.data.toList).toArray).size = _; simp
      rw [<- this]; exact hl)
     . rw [hgl] at this
       refine .inl ⟨callable_of Tryz.func25 rfl rfl, this.mono ?_⟩
       rintro e w' ⟨rfl, hb⟩
       exact fin w' (ext0_below hS.lt hb)
     . have hjn : j < n := by
        have := (List.getElem?_eq_some_iff.1 hj).1
        rwa [hgl] at this
       have hx : x = gT (f j) := by
        unfold gN at hj
        simp [hjn] at hj
        exact hj.symm
       have h3 := k3 j 0 hjn (by omega)
       have h4 := k4 j 0 hjn (by omega)
       rw [hf j hjn] at h4
       have h4 : RepD S w (.v (.string (gT (f j)))) (g j 0) := h4
       have hg : g j 0 = .string x := by rw [hx]; generalize g j 0 = u at h4; cases h4; rfl
       rw [hg, show off + j * 1 + 0 = off + j by omega] at h3
       exact h3
 . cases hF
end Go.Proofs.YtakcacejpbiogaaGreatDoor
namespace Go.Sx
section
variable {P : Program} {τ : Tys} {Γ : Sums} {base : Nat}
structure PCall (P : Program) (base : Nat) (f : Nat) (as0 : List Va) (st : St) (K : List PanicEntry -> St -> Prop) : Prop where
 run : ∀ ψ S w a vals, Rel P base ψ S w st a -> All2 (RepVa P ψ S w) as0 vals ->
  Callable P f /\ Calls P f vals.toArray w fun e w' => ∃ ch st' ψ' S', e = .panicked ch /\ K ch st' /\ Rel P base ψ' S' w' st' a /\ Ext base ψ S w ψ' S' w'
theorem PanOp.call {o : Oper} {st : St} {Q : Exit -> St -> Prop} {f : Operand} {args : Array Operand} {ts : Array TypeId} {g : Nat} {caps : List (Nat × Nat)} {as0 : List Va}
 (hop : o.op = .call { callee := .value f, args, argTypes := ts }) (hf : fnOf (ev st f) = .va (.c (.fn g caps))) (ha : mapO (fun x => asVa (ev st x)) args.toList = some as0)
 (h : PCall P base g (as0 ++ caps.map fun p => .c (.own p.1 p.2)) st fun ch st => Q (.panic ch) st) : PanOp P base o st Q := by
 refine ⟨fun ψ S w a hrel next R hn => ?_⟩
 have hfv := fnOf_rep (ev_rep hrel f)
 rw [hf] at hfv
 obtain ⟨vs, hv, hcaps⟩ := hfv
 have hargs := args_rep hrel ha
 have hall : All2 (RepVa P ψ S w) (as0 ++ caps.map fun p => .c (.own p.1 p.2)) (args.toList.map a.eval ++ vs.toList) :=
  hargs.append (All2.map_left (R' := RepVa P ψ S w) (fun p : Nat × Nat => Va.c (.own p.1 p.2)) (fun p y h => h) hcaps)
 obtain ⟨hc, hcall⟩ := h.run ψ S w a _ hrel hall
 have e : (args.toList.map a.eval ++ vs.toList).toArray = #[] ++ args.map a.eval ++ vs := by apply Array.ext'; simp
 rw [e] at hcall
 have e2 : (execOp a.eval o).run P w = (callFunc g (#[] ++ args.map a.eval ++ vs)).run P w := by
  simp only [execOp, hop, resolve, hv, Deferred.ofValue, Sem.run_bind, Sem.run_pure, Result.andThen_ok, invoke]
 simp only [Oper.wp, e2, run_enter hc, Oper.upon]
 refine hcall.mono ?_
 rintro e w' ⟨ch, st', ψ', S', rfl, hK, h1, h2⟩
 exact hn _ _ _ _ _ hK h1 h2
theorem vcOps_then (hτ : TysOk P τ) (hz : ∀ t i, τ t = some i -> zeroOk i.zero) {calls : Nat -> List Va -> St -> (Tm -> St -> Prop) -> Prop} (hcalls : CallsOk P base calls)
 {ops : Array Oper} {Q : Exit -> Act -> World -> Prop} {l2 : List Nat} : ∀ (rest : List Oper) (k : Nat) (ψ : Psi) (S : Nat -> Prop) (w : World) (st : St) (a : Act) (K : St -> Prop),
 (∀ i o, rest[i]? = some o -> ops[k + i]? = some o) -> Rel P base ψ S w st a -> vcOps P τ calls ops.toList rest st K ->
 (∀ st' ψ' S' w' a', K st' -> Rel P base ψ' S' w' st' a' -> Ext base ψ S w ψ' S' w' -> wpOps P ops Q l2 a' w') -> wpOps P ops Q (List.range' k rest.length ++ l2) a w
 | [], k, ψ, S, w, st, a, K, _, hrel, hk, hq => hq _ _ _ _ _ hk hrel (Ext.refl _ _ _ _)
 | o :: rest, k, ψ, S, w, st, a, K, hall, hrel, hk, hq => by
   have ho : ops[k]? = some o := by simpa using hall 0 o (by simp)
   have hrest : ∀ (i : Nat) (x : Oper), rest[i]? = some x -> ops[k + 1 + i]? = some x := fun i x hx => by
    have := hall (i + 1) x (by simpa using hx)
    rwa [show k + (i + 1) = k + 1 + i by omega] at this
   simp only [List.length_cons, List.range'_succ, List.cons_append, wpOps, ho]
   have go : ∀ st, Rel P base ψ S w st a -> vcOp P τ calls o st (fun st => vcOps P τ calls ops.toList rest st K) -> o.wp P a w (wpOps P ops Q (List.range' (k + 1) rest.length ++ l2)) Q := by
    intro st hrel h
    refine vcOp_ok hτ hz hcalls hrel h _ _ ?_
    intro st' ψ' S' w' a' h1 h2 h3
    exact vcOps_then hτ hz hcalls rest (k + 1) ψ' S' w' st' a' K hrest h2 h1 fun st2 ψ2 S2 w2 a2 g1 g2 g3 => hq _ _ _ _ _ g1 g2 (h3.trans g3)
   rw [vcOps_cons] at hk
   split at hk
   . rename_i hg
     have : Region.wanted o (yielded ops a.tmps) = true := by simp [Region.wanted, hg]
     rw [if_pos this]
     exact .inl (go st hrel hk)
   . rename_i j want hg
     split at hk
     . exact hk.elim
     . rename_i s hs
       obtain ⟨st', b, hk, hrel', hb, _⟩ := onBool_ok hrel hk
       have hy : yielded ops a.tmps j = b := by
        have hd : (ops[j]?).bind (·.dst) = some s := by
         unfold dstOf at hs
         rw [Array.getElem?_toList] at hs
         split at hs
         . rename_i hj; rw [hj]; exact hs
         . simp at hs
        simp only [yielded, hd, Option.bind_some]
        rw [<- hb]
        split <;> simp_all
       split at hk
       . rename_i he
         have : Region.wanted o (yielded ops a.tmps) = true := by simp only [Region.wanted, hg, hy]; exact he
         rw [if_pos this]
         exact .inl (go st' hrel' hk)
       . rename_i he
         have : ¬ Region.wanted o (yielded ops a.tmps) = true := by simp only [Region.wanted, hg, hy]; simpa using he
         rw [if_neg this]
         obtain ⟨st2, h1, h2⟩ := putK_rel (v := undef) hk hrel' rfl
         exact vcOps_then hτ hz hcalls rest (k + 1) ψ S w st2 _ K hrest h2 h1 hq
variable {t : TT} {l : List (Nat × Sm)} {x y z c : Code} {st : St} {Q : Exit → St → Prop}
theorem regP_ops (ht : t.ok P) (hl : sumsOk P l) {ops : Array Oper} (j : Nat) {o : Oper} (ho : ops.toList[j]? = some o) (hg : o.guard = none)
 (h : vcOps P t.get (vcCall P (sums l) base) ops.toList (ops.toList.take j) st fun st' => PanOp P base o st' Q) (ψ : Psi) (S : Nat -> Prop) (w : World) (a : Act) (hr : Rel P base ψ S w st a) :
 wpOps P ops (fun e a' w' => ∃ st' ψ' S', Q e st' /\ Rel P base ψ' S' w' st' a' /\ Ext base ψ S w ψ' S' w') (List.range ops.size) a w := by
 have hj : j < ops.size := by
  have := (List.getElem?_eq_some_iff.1 ho).1
  simpa using this
 have hlen : (ops.toList.take j).length = j := by rw [List.length_take, Array.length_toList]; omega
 have e : List.range ops.size = List.range' 0 (ops.toList.take j).length ++ (j :: List.range' (j + 1) (ops.size - j - 1)) := by
  rw [hlen, List.range_eq_range', <- List.range'_succ]
  have h2 := List.range'_append (s := 0) (m := j) (n := ops.size - j - 1 + 1) (step := 1)
  rw [show 0 + 1 * j = j by omega] at h2
  rw [h2]; congr 1; omega
 rw [e]
 refine vcOps_then (TT.tysOk ht) (TT.zeros ht) (vcCall_ok (sums_ok hl) base) (ops := ops) (ops.toList.take j) 0 ψ S w st a _ (fun i o hi => ?_) hr h ?_
 . rw [List.getElem?_take] at hi
   split at hi
   . simpa using hi
   . cases hi
 . intro st' ψ' S' w' a' hp hr' he
   have ho' : ops[j]? = some o := by simpa using ho
   simp only [wpOps, ho']
   have : Region.wanted o (yielded ops a'.tmps) = true := by simp [Region.wanted, hg]
   rw [if_pos this]
   exact .inl (hp.run ψ' S' w' a' hr' _ _ fun e st2 ψ2 S2 w2 h1 h2 h3 => ⟨st2, ψ2, S2, h1, h2, he.trans h3⟩)
theorem ASat.regP (ht : t.ok P) (hl : sumsOk P l) {id : Nat} {ops : Array Oper} (j : Nat) {o : Oper} (ho : ops.toList[j]? = some o) (hg : o.guard = none)
 (h : vcOps P t.get (vcCall P (sums l) base) ops.toList (ops.toList.take j) st fun st' => PanOp P base o st' Q) : ASat P base (.region id ops false) st Q :=
 ⟨fun ψ S w a hr => wp_region (regP_ops ht hl j ho hg h ψ S w a hr)⟩
def thenP (K : St -> Prop) (Q : Exit -> St -> Prop) : Exit -> St -> Prop
 | .normal, st => K st
 | .outgrown, _ => False
 | e, st => Q e st
theorem ASat.seqP (h : ASat P base x st (thenP (fun st => ASat P base y st Q) Q)) : ASat P base (.seq x y) st Q := by
 refine ⟨fun ψ S w a hr => wp_seq (wp_mono (h.run ψ S w a hr) ?_)⟩
 rintro e a' w' ⟨st', ψ', S', hq, hr', he⟩
 cases e with
 | normal =>
   refine wp_mono ((show ASat P base y st' Q from hq).run ψ' S' w' a' hr') ?_
   rintro e a2 w2 ⟨st2, ψ2, S2, hq2, hr2, he2⟩
   exact ⟨st2, ψ2, S2, hq2, hr2, he.trans he2⟩
 | exit id => exact ⟨st', ψ', S', hq, hr', he⟩
 | goto l => exact ⟨st', ψ', S', hq, hr', he⟩
 | ret => exact ⟨st', ψ', S', hq, hr', he⟩
 | panic ch => exact ⟨st', ψ', S', hq, hr', he⟩
 | outgrown => exact hq.elim
theorem ASat.condP {s : Nat} (h : onBool st s fun st b => match b with
 | some true => ASat P base x st Q
 | some false => ASat P base y st Q
 | none => False) : ASat P base (.cond (.tmp s) x y) st Q := by
 refine ⟨fun ψ S w a hr => ?_⟩
 obtain ⟨st', b, hk, hrel', _, hb⟩ := onBool_ok hr h
 split at hk
 . exact wp_cond_true (hb true rfl) (hk.run ψ S w a hrel')
 . exact wp_cond_false (hb false rfl) (hk.run ψ S w a hrel')
 . exact hk.elim
theorem ASat.blockP {id : Nat} (h : ASat P base c st fun e st => match e with
 | .exit id' => match Nat.beq id' id with
   | true => Q .normal st
   | false => Q (.exit id') st
 | e => Q e st) : ASat P base (.block id c) st Q := by
 refine ⟨fun ψ S w a hr => wp_block (wp_mono (h.run ψ S w a hr) ?_)⟩
 rintro e a' w' ⟨st', ψ', S', hq, hr', he⟩
 cases e with
 | exit id' =>
   simp only at hq
   simp only [Exit.inBlock]
   cases hb : Nat.beq id' id with
   | true =>
     rw [hb] at hq
     rw [if_pos (Nat.eq_of_beq_eq_true hb)]
     exact ⟨st', ψ', S', hq, hr', he⟩
   | false =>
     rw [hb] at hq
     rw [if_neg (Nat.ne_of_beq_eq_false hb)]
     exact ⟨st', ψ', S', hq, hr', he⟩
 | _ => exact ⟨st', ψ', S', hq, hr', he⟩
def FPat (P : Program) (f : Nat) (cs : List Cv) (x : Value) : Prop :=
 ∀ (S : Nat -> Prop) (w : World) (vals : List Value), SOk P S w -> All2 (RepCv S w) cs vals ->
  Callable P f /\ Calls P f vals.toArray w fun e w' => e = .panicked [{ v := x, recovered := false }] /\ ∃ S', Ext0 S w S' w'
theorem PCall.of {f : Nat} {as0 : List Va} {x : Value} {K : List PanicEntry -> St -> Prop} (h : closeVas st.heap as0 fun cs => FPat P f cs x /\ K [{ v := x, recovered := false }] st) : PCall P base f as0 st K := by
 refine ⟨fun ψ S w a vals hrel hvals => ?_⟩
 obtain ⟨cs, hcv, hf, hk⟩ := closeVas_rep hrel.sim h hvals
 obtain ⟨h1, h2⟩ := hf S w vals hrel.sim.sdom hcv
 refine ⟨h1, h2.mono ?_⟩
 rintro e w' ⟨rfl, S', hx⟩
 obtain ⟨g1, g2⟩ := hrel.ext0 hx
 exact ⟨_, st, ψ, S', rfl, hk, g1, g2⟩
theorem FPat.of {f : Nat} {fn : Func} (hf : P.funcs[f]? = some fn) (hb : fn.body = some c) (hname : (fn.name == "runtime.NumGoroutine") = false) {cs : List Cv} {v : Value} (hlen : Nat.ble cs.length fn.ntmps = true)
 (h : ASat P 0 c ⟨zipN 0 (cs.map fun x => .va (cvVa x)), [], 0, fn.ntmps⟩ fun e _ => e = .panic [{ v := v, recovered := false }]) : FPat P f cs v := by
 intro S w vals hS hvals
 obtain ⟨nm, orig, targs, params, rts, nfree, ntmps, rs, body, nr, ours, file, el, ln, met, tn⟩ := fn
 have hb : body = some c := hb
 subst hb
 have hlen : cs.length <= ntmps := Nat.le_of_ble_eq_true hlen
 refine ⟨⟨_, c, hf, rfl, hname⟩, calls_of_wp hf rfl ?_⟩
 have hvl := hvals.length
 have hsim : Sim P (fun _ => none) S w [] 0 := ⟨fun _ _ => rfl, fun k l h => (nomatch h), fun k k' b m m' h => (nomatch h), fun k b m h => (nomatch h), fun k b m h => (nomatch h), hS⟩
 have hv2 : All2 (RepVa P (fun _ => none) S w) (cs.map cvVa) vals := All2.map_left (R' := RepVa P (fun _ => none) S w) cvVa (fun x y h => cv_rep h) hvals
 have hrel : Rel P 0 (fun _ => none) S w ⟨zipN 0 (cs.map fun x => .va (cvVa x)), [], 0, ntmps⟩ { tmps := vals.toArray ++ Array.replicate (ntmps - vals.toArray.size) undef, defers := [] } :=
  ⟨Nat.le_refl _, hsim, by simp; omega, rfl, fun t => by
    have := start_tmps hv2 ntmps t
    rwa [List.map_map] at this⟩
 refine wp_mono (h.run _ S w _ hrel) ?_
 rintro e a' w' ⟨st', ψ', S', rfl, hr', he⟩
 refine ⟨hr'.defers, rfl, S', he.os, he.tape, he.output, he.grow, fun b hb => he.old b hb (fun k m hk => (nomatch hk)), he.later.1, fun b hb => ?_, hr'.sim.sdom.lt⟩
 rcases he.newS b hb with h1 | ⟨k, m, h1⟩ | h1
 . exact .inl h1
 . cases h1
 . exact .inr h1
end
end Go.Sx
namespace Go.Sx
def plusD (ds : List Deferred) (a : Act) : Act := ⟨a.tmps, a.defers ++ ds⟩
theorem plusD_eval (ds : List Deferred) (a : Act) : (plusD ds a).eval = a.eval := by funext x; cases x <;> rfl
theorem plusD_put (ds : List Deferred) (a : Act) (d : Option Tmp) (v : Value) : (plusD ds a).put d v = plusD ds (a.put d v) := by cases d <;> rfl
section
variable {P : Program} {base : Nat} {ds : List Deferred}
theorem upon_plus {o : Oper} {a : Act} {next next' : Act -> World -> Prop} {Q Q' : Exit -> Act -> World -> Prop} (hn : ∀ a w, next a w -> next' (plusD ds a) w) (hq : ∀ e a w, Q e a w -> Q' e (plusD ds a) w)
 {r : Result Next} (h : o.upon P a next Q r) : o.upon P (plusD ds a) next' Q' r := by
 unfold Oper.upon at h ⊢
 split at h
 . show next' ((plusD ds a).put _ _) _; rw [plusD_put]; exact hn _ _ h
 . show next' ((plusD ds a).put _ _) _; rw [plusD_put]; exact hn _ _ h
 . rename_i d w'
   show next' (Act.put (plusD ds { a with defers := d :: a.defers }) _ _) _
   rw [plusD_put]; exact hn _ _ h
 . refine Calls.mono h ?_
   intro e w' he
   cases e with
   | returned v => show next' ((plusD ds a).put _ _) _; rw [plusD_put]; exact hn _ _ he
   | panicked ch => exact hq _ _ _ he
   | outgrown => obtain ⟨a0, w0, h0⟩ := he; exact ⟨_, _, hq _ _ _ h0⟩
 . refine Rows.mono h ?_
   intro v w' he
   show next' ((plusD ds a).put _ _) _; rw [plusD_put]; exact hn _ _ he
 . exact hq _ _ _ h
 . exact h.elim
theorem wpOps_plus {ops : Array Oper} {Q Q' : Exit -> Act -> World -> Prop} (hq : ∀ e a w, Q e a w -> Q' e (plusD ds a) w) : ∀ (l : List Nat) (a : Act) (w : World), wpOps P ops Q l a w -> wpOps P ops Q' l (plusD ds a) w
 | [], a, w, h => hq _ _ _ h
 | i :: rest, a, w, h => by
   simp only [wpOps] at h ⊢
   cases ho : ops[i]? with
   | none => simp only [ho] at h ⊢; exact wpOps_plus hq rest a w h
   | some o =>
     simp only [ho] at h ⊢
     have ht : (plusD ds a).tmps = a.tmps := rfl
     rw [ht]
     split at h
     . rename_i hw
       rw [if_pos hw]
       rcases h with h | ⟨h1, a0, w0, h2⟩
       . refine .inl ?_
         unfold Oper.wp at h ⊢
         rw [plusD_eval]
         exact upon_plus (fun a w h => wpOps_plus hq rest a w h) hq h
       . refine .inr ⟨?_, _, _, hq _ _ _ h2⟩
         unfold Oper.asks at h1 ⊢
         rw [plusD_eval]; exact h1
     . rename_i hw
       rw [if_neg hw, plusD_put]
       exact wpOps_plus hq rest _ w h
structure DSat (P : Program) (base : Nat) (ds : List Deferred) (c : Code) (st : St) (Q : Exit -> St -> Prop) : Prop where
 run : ∀ ψ S w a, Rel P base ψ S w st a -> c.wp P (fun e a' w' => ∃ st' ψ' S' a0, Q e st' /\ Rel P base ψ' S' w' st' a0 /\ a' = plusD ds a0 /\ Ext base ψ S w ψ' S' w') (plusD ds a) w
variable {t : TT} {l : List (Nat × Sm)} {x y c : Code} {st : St} {Q : Exit → St → Prop}
theorem DSat.region (ht : t.ok P) (hl : sumsOk P l) {id : Nat} {ops : Array Oper} (h : vcOps P t.get (vcCall P (sums l) base) ops.toList ops.toList st (Q .normal)) : DSat P base ds (.region id ops false) st Q := by
 refine ⟨fun ψ S w a hr => wp_region ?_⟩
 have := vcOps_ok (TT.tysOk ht) (TT.zeros ht) (vcCall_ok (sums_ok hl) base) (ops := ops) (Q := fun e a' w' => ∃ st' ψ' S', Q e st' /\ Rel P base ψ' S' w' st' a' /\ Ext base ψ S w ψ' S' w') ops.toList 0 ψ S w st a (Q .normal) (fun i o ho => by simpa using ho) hr h
  (fun st' ψ' S' w' a' h1 h2 h3 => ⟨st', ψ', S', h1, h2, h3⟩)
 rw [List.range_eq_range']
 refine wpOps_plus (Q := fun e a' w' => ∃ st' ψ' S', Q e st' /\ Rel P base ψ' S' w' st' a' /\ Ext base ψ S w ψ' S' w') ?_ _ _ _ (by simpa using this)
 rintro e a' w' ⟨st', ψ', S', h1, h2, h3⟩
 exact ⟨st', ψ', S', a', h1, h2, rfl, h3⟩
theorem DSat.seq (h : DSat P base ds x st (thenP (fun st => DSat P base ds y st Q) Q)) : DSat P base ds (.seq x y) st Q := by
 refine ⟨fun ψ S w a hr => wp_seq (wp_mono (h.run ψ S w a hr) ?_)⟩
 rintro e a' w' ⟨st', ψ', S', a0, hq, hr', rfl, he⟩
 cases e with
 | normal =>
   refine wp_mono ((show DSat P base ds y st' Q from hq).run ψ' S' w' a0 hr') ?_
   rintro e a2 w2 ⟨st2, ψ2, S2, a3, hq2, hr2, rfl, he2⟩
   exact ⟨st2, ψ2, S2, a3, hq2, hr2, rfl, he.trans he2⟩
 | exit id => exact ⟨st', ψ', S', a0, hq, hr', rfl, he⟩
 | goto l => exact ⟨st', ψ', S', a0, hq, hr', rfl, he⟩
 | ret => exact ⟨st', ψ', S', a0, hq, hr', rfl, he⟩
 | panic ch => exact ⟨st', ψ', S', a0, hq, hr', rfl, he⟩
 | outgrown => exact hq.elim
theorem DSat.cond {s : Nat} (h : onBool st s fun st b => match b with
 | some true => DSat P base ds x st Q
 | some false => DSat P base ds y st Q
 | none => False) : DSat P base ds (.cond (.tmp s) x y) st Q := by
 refine ⟨fun ψ S w a hr => ?_⟩
 obtain ⟨st', b, hk, hrel', _, hb⟩ := onBool_ok hr h
 split at hk
 . exact wp_cond_true (hb true rfl) (hk.run ψ S w a hrel')
 . exact wp_cond_false (hb false rfl) (hk.run ψ S w a hrel')
 . exact hk.elim
theorem DSat.ret (h : Q .ret st) : DSat P base ds .ret st Q := ⟨fun ψ S w a hr => wp_ret ⟨st, ψ, S, a, h, hr, rfl, Ext.refl _ _ _ _⟩⟩
theorem DSat.skip (h : Q .normal st) : DSat P base ds .skip st Q := ⟨fun ψ S w a hr => wp_skip ⟨st, ψ, S, a, h, hr, rfl, Ext.refl _ _ _ _⟩⟩
structure CallA (P : Program) (base : Nat) (f : Nat) (as0 : List Va) (st : St) (K : Tm -> St -> Prop) (KP : List PanicEntry -> St -> Prop) : Prop where
 run : ∀ ψ S w a vals, Rel P base ψ S w st a -> All2 (RepVa P ψ S w) as0 vals ->
  Callable P f /\ Calls P f vals.toArray w fun e w' => (∃ r st' v ψ' S', e = .returned v /\ K r st' /\ Rel P base ψ' S' w' st' a /\ RepT P ψ' S' w' r v /\ Ext base ψ S w ψ' S' w') \/
   ∃ ch st' ψ' S', e = .panicked ch /\ KP ch st' /\ Rel P base ψ' S' w' st' a /\ Ext base ψ S w ψ' S' w'
structure OSat (P : Program) (base : Nat) (ops : Array Oper) (k : Nat) (st : St) (Q : Exit -> St -> Prop) : Prop where
 run : ∀ ψ S w a, Rel P base ψ S w st a -> ∀ R : Exit -> Act -> World -> Prop, (∀ e st' ψ' S' w' a', Q e st' -> Rel P base ψ' S' w' st' a' -> Ext base ψ S w ψ' S' w' -> R e a' w') ->
  wpOps P ops R (List.range' k (ops.size - k)) a w
variable {ops : Array Oper} {k : Nat}
theorem OSat.vc (ht : t.ok P) (hl : sumsOk P l) (j : Nat) (hj : Nat.ble k j = true) (hs : Nat.ble j ops.size = true)
 (h : vcOps P t.get (vcCall P (sums l) base) ops.toList ((ops.toList.drop k).take (j - k)) st fun st' => OSat P base ops j st' Q) : OSat P base ops k st Q := by
 have hj := Nat.le_of_ble_eq_true hj
 have hs := Nat.le_of_ble_eq_true hs
 refine ⟨fun ψ S w a hr R hR => ?_⟩
 have hlen : ((ops.toList.drop k).take (j - k)).length = j - k := by rw [List.length_take, List.length_drop, Array.length_toList]; omega
 have e : List.range' k (ops.size - k) = List.range' k ((ops.toList.drop k).take (j - k)).length ++ List.range' j (ops.size - j) := by
  rw [hlen]
  have h2 := List.range'_append (s := k) (m := j - k) (n := ops.size - j) (step := 1)
  rw [show k + 1 * (j - k) = j by omega] at h2
  rw [h2]; congr 1; omega
 rw [e]
 refine vcOps_then (TT.tysOk ht) (TT.zeros ht) (vcCall_ok (sums_ok hl) base) (ops := ops) _ k ψ S w st a _ (fun i o hi => ?_) hr h fun st' ψ' S' w' a' hp hr' he => hp.run ψ' S' w' a' hr' R fun e st2 ψ2 S2 w2 a2 q1 q2 q3 => hR _ _ _ _ _ _ q1 q2 (he.trans q3)
 rw [List.getElem?_take] at hi
 split at hi
 . rw [List.getElem?_drop] at hi; simpa using hi
 . cases hi
theorem OSat.done (ht : t.ok P) (hl : sumsOk P l) (h : vcOps P t.get (vcCall P (sums l) base) ops.toList (ops.toList.drop k) st (Q .normal)) : OSat P base ops k st Q := by
 refine ⟨fun ψ S w a hr R hR => ?_⟩
 have := vcOps_then (P := P) (TT.tysOk ht) (TT.zeros ht) (vcCall_ok (sums_ok hl) base) (ops := ops) (Q := R) (l2 := []) (ops.toList.drop k) k ψ S w st a (Q .normal) (fun i o hi => by rw [List.getElem?_drop] at hi; simpa using hi) hr h
  fun st' ψ' S' w' a' h1 h2 h3 => hR _ _ _ _ _ _ h1 h2 h3
 rw [List.append_nil, List.length_drop, Array.length_toList] at this
 exact this
theorem OSat.call {o : Oper} {f : Operand} {args : Array Operand} {ts : Array TypeId} {g : Nat} {caps : List (Nat × Nat)} {as0 : List Va} (ho : ops.toList[k]? = some o) (hg : o.guard = none)
 (hop : o.op = .call { callee := .value f, args, argTypes := ts }) (hf : fnOf (ev st f) = .va (.c (.fn g caps))) (ha : mapO (fun x => asVa (ev st x)) args.toList = some as0)
 (h : CallA P base g (as0 ++ caps.map fun p => .c (.own p.1 p.2)) st (fun r st => putK st o.dst r fun st => OSat P base ops (k + 1) st Q) fun ch st => Q (.panic ch) st) : OSat P base ops k st Q := by
 refine ⟨fun ψ S w a hrel R hR => ?_⟩
 have hk : k < ops.size := by
  have := (List.getElem?_eq_some_iff.1 ho).1
  simpa using this
 have ho' : ops[k]? = some o := by simpa using ho
 rw [show ops.size - k = (ops.size - (k + 1)) + 1 by omega, List.range'_succ]
 simp only [wpOps, ho']
 have hw : Region.wanted o (yielded ops a.tmps) = true := by simp [Region.wanted, hg]
 rw [if_pos hw]
 refine .inl ?_
 have hfv := fnOf_rep (ev_rep hrel f)
 rw [hf] at hfv
 obtain ⟨vs, hv, hcaps⟩ := hfv
 have hargs := args_rep hrel ha
 have hall : All2 (RepVa P ψ S w) (as0 ++ caps.map fun p => .c (.own p.1 p.2)) (args.toList.map a.eval ++ vs.toList) :=
  hargs.append (All2.map_left (R' := RepVa P ψ S w) (fun p : Nat × Nat => Va.c (.own p.1 p.2)) (fun p y h => h) hcaps)
 obtain ⟨hc, hcall⟩ := h.run ψ S w a _ hrel hall
 have e : (args.toList.map a.eval ++ vs.toList).toArray = #[] ++ args.map a.eval ++ vs := by apply Array.ext'; simp
 rw [e] at hcall
 have e2 : (execOp a.eval o).run P w = (callFunc g (#[] ++ args.map a.eval ++ vs)).run P w := by
  simp only [execOp, hop, resolve, hv, Deferred.ofValue, Sem.run_bind, Sem.run_pure, Result.andThen_ok, invoke]
 simp only [Oper.wp, e2, run_enter hc, Oper.upon]
 refine hcall.mono ?_
 rintro e w' (⟨r, st', v, ψ', S', rfl, hK, h1, h2, h3⟩ | ⟨ch, st', ψ', S', rfl, hK, h1, h2⟩)
 . obtain ⟨st2, h4, h5⟩ := putK_rel hK h1 h2
   exact h4.run ψ' S' w' _ h5 R fun e st3 ψ3 S3 w3 a3 q1 q2 q3 => hR _ _ _ _ _ _ q1 q2 (h3.trans q3)
 . exact hR _ _ _ _ _ _ hK h1 h2
theorem DSat.regO {id : Nat} (h : OSat P base ops 0 st Q) : DSat P base ds (.region id ops false) st Q := by
 refine ⟨fun ψ S w a hr => wp_region ?_⟩
 have := h.run ψ S w a hr (fun e a' w' => ∃ st' ψ' S', Q e st' /\ Rel P base ψ' S' w' st' a' /\ Ext base ψ S w ψ' S' w') fun e st' ψ' S' w' a' h1 h2 h3 => ⟨st', ψ', S', h1, h2, h3⟩
 rw [Nat.sub_zero, <- List.range_eq_range'] at this
 refine wpOps_plus (Q := fun e a' w' => ∃ st' ψ' S', Q e st' /\ Rel P base ψ' S' w' st' a' /\ Ext base ψ S w ψ' S' w') ?_ _ _ _ this
 rintro e a' w' ⟨st', ψ', S', h1, h2, h3⟩
 exact ⟨st', ψ', S', a', h1, h2, rfl, h3⟩
def inlAQ (τ : Tys) (rs : List ResultVar) (ts : List (Nat × Tm)) (m : Nat) (K : Tm -> St -> Prop) (KP : List PanicEntry -> St -> Prop) : Exit -> St -> Prop
 | .ret, ⟨ts', h, n, m'⟩ => resVars τ ⟨ts', h, n, m'⟩ rs fun xs => K (tmOf xs) ⟨ts, h, n, m⟩
 | .normal, ⟨ts', h, n, m'⟩ => resVars τ ⟨ts', h, n, m'⟩ rs fun xs => K (tmOf xs) ⟨ts, h, n, m⟩
 | .panic ch, ⟨_, h, n, _⟩ => KP ch ⟨ts, h, n, m⟩
 | _, _ => False
theorem inlA (hx : t.ok P) {f : Nat} {fn : Func} (hf : P.funcs[f]? = some fn) (hb : fn.body = some c) (hname : (fn.name == "runtime.NumGoroutine") = false) {vas : List Va} {ts : List (Nat × Tm)} {h : List (Nat × Blk)} {n m : Nat} {K : Tm -> St -> Prop} {KP : List PanicEntry -> St -> Prop} (hlen : Nat.ble vas.length fn.ntmps = true)
 (hk : ASat P n c ⟨zipN 0 (vas.map .va), h, n, fn.ntmps⟩ (inlAQ t.get fn.results.toList ts m K KP)) : CallA P base f vas ⟨ts, h, n, m⟩ K KP := by
 have hτ := TT.tysOk hx
 refine ⟨fun ψ S w a vals hrel hvals => ?_⟩
 obtain ⟨nm, orig, targs, params, rts, nfree, ntmps, rs, body, nr, ours, file, el, ln, met, tn⟩ := fn
 have hb : body = some c := hb
 subst hb
 have hvl := hvals.length
 have hlen : vas.length <= ntmps := Nat.le_of_ble_eq_true hlen
 refine ⟨⟨_, c, hf, rfl, hname⟩, calls_of_wp hf rfl ?_⟩
 have hrel2 : Rel P n ψ S w ⟨zipN 0 (vas.map .va), h, n, ntmps⟩ { tmps := vals.toArray ++ Array.replicate (ntmps - vals.toArray.size) undef, defers := [] } :=
  ⟨Nat.le_refl _, hrel.sim, by simp; omega, rfl, fun t => start_tmps hvals ntmps t⟩
 refine wp_mono (hk.run _ S w _ hrel2) ?_
 rintro e a' w' ⟨⟨ts', h', n', m'⟩, ψ', S', hq, hr', he⟩
 have hdom : ∀ k l, ψ k = some l -> k < n := fun k l hk => by
  rcases Nat.lt_or_ge k n with h1 | h1
  . exact h1
  . have := hrel.sim.dom k h1
    rw [hk] at this; cases this
 have hsub : PsiSub ψ ψ' := fun k l hk => by rw [he.agr k (hdom k l hk)]; exact hk
 have hrl : Rel P base ψ' S' w' ⟨ts, h', n', m⟩ a := ⟨Nat.le_trans hrel.bas hr'.bas, hr'.sim, hrel.lim, hrel.defers, fun t => (hrel.tmps t).later hsub he.later⟩
 have hex : Ext base ψ S w ψ' S' w' := ⟨he.os, he.tape, he.output, he.grow, he.old, he.later, he.newS, he.newP, fun k hk => he.agr k (Nat.lt_of_lt_of_le hk hrel.bas)⟩
 have main : resVars t.get ⟨ts', h', n', m'⟩ rs.toList (fun xs => K (tmOf xs) ⟨ts, h', n', m⟩) ->
  a'.defers = [] /\ ∃ v, (results ⟨nm, orig, targs, params, rts, nfree, ntmps, rs, some c, nr, ours, file, el, ln, met, tn⟩ a'.tmps).run P w' = .ok v w' /\
   ((∃ r st' v' ψ' S', Ending.returned v = .returned v' /\ K r st' /\ Rel P base ψ' S' w' st' a /\ RepT P ψ' S' w' r v' /\ Ext base ψ S w ψ' S' w') \/
     ∃ ch st' ψ' S', Ending.returned v = .panicked ch /\ KP ch st' /\ Rel P base ψ' S' w' st' a /\ Ext base ψ S w ψ' S' w') := by
  intro hq
  refine ⟨hr'.defers, ?_⟩
  obtain ⟨xs, vs, k1, k2, k3⟩ := resVars_ok hτ hr' hq
  exact ⟨_, results_run k3, .inl ⟨_, _, _, ψ', S', rfl, k2, hrl, tmOf_rep k1, hex⟩⟩
 cases e with
 | normal => exact main hq
 | ret => exact main hq
 | exit id => exact hq.elim
 | goto l => exact hq.elim
 | panic ch => exact ⟨hr'.defers, .inr ⟨ch, ⟨ts, h', n', m⟩, ψ', S', rfl, hq, hrl, hex⟩⟩
 | outgrown => exact hq.elim
end
end Go.Sx
namespace Go.Sx
section
variable {P : Program} {τ : Tys}
def satF (P : Program) (τ : Tys) (fr : Bool) (fn : Func) (as0 : List Ar) (K : Rt -> List (Option (Nat -> List DV)) -> Prop) : Prop :=
 match fn, arsVa 0 as0 with
 | ⟨_, _, _, _, _, _, ntmps, results, some c, _, _, _, _, _, _, _⟩, (vas, h, n) => as0.length <= ntmps /\ ASat P n c ⟨zipN 0 (vas.map .va), h, n, ntmps⟩ (finQ τ fr (arsRows as0) results.toList K)
 | _, _ => False
structure EndSat (P : Program) (n : Nat) (f : Nat) (fn : Func) (vas : List Va) (h : List (Nat × Blk)) (K : St -> Prop) : Prop where
 run : ∀ ψ S w (vals : List Value), Rel P n ψ S w ⟨zipN 0 (vas.map .va), h, n, fn.ntmps⟩ { tmps := vals.toArray ++ Array.replicate (fn.ntmps - vals.toArray.size) undef, defers := [] } ->
  Calls P f vals.toArray w fun e w' => ∃ v st' ψ' S' a', e = .returned v /\ (results fn a'.tmps).run P w' = .ok v w' /\ K st' /\ Rel P n ψ' S' w' st' a' /\ Ext n ψ S w ψ' S' w'
def satE (P : Program) (τ : Tys) (fr : Bool) (f : Nat) (fn : Func) (as0 : List Ar) (K : Rt -> List (Option (Nat -> List DV)) -> Prop) : Prop :=
 match fn, arsVa 0 as0 with
 | ⟨nm, orig, targs, params, rts, nfree, ntmps, rs, some c, nr, ours, file, el, ln, met, tn⟩, (vas, h, n) => as0.length <= ntmps /\ EndSat P n f ⟨nm, orig, targs, params, rts, nfree, ntmps, rs, some c, nr, ours, file, el, ln, met, tn⟩ vas h (fin τ fr (arsRows as0) rs.toList K)
 | _, _ => False
theorem FCat_coreE (hτ : TysOk P τ)
 {f : Nat} {fn : Func} (hf : P.funcs[f]? = some fn) (hname : (fn.name == "runtime.NumGoroutine") = false) {fr : Bool} {as0 : List Ar} {r : Rt} {us : List (Option (Nat -> List DV))}
 (hk : satE P τ fr f fn as0 fun r' us' => rtEq r' r /\ usEq (arsRows as0) us' us) : FCat P f as0 r us := by
 unfold satE at hk
 split at hk
 . rename_i nm orig targs params rts nfree ntmps rs c nr ours file el ln met tn vas h n hars
   . obtain ⟨hlen, hk⟩ := hk
     intro S w vals ls hS hargs hsep
     obtain ⟨g1, g2, g3⟩ := ars_rep (ψ := psiFrom 0 ls) as0 vals ls 0 hargs (fun j l hj => by simpa [psiFrom] using hj)
     have hnx := arsVa_next as0 0
     rw [hars] at g1 g2 hnx
     simp only [Nat.zero_add] at g1 g2 hnx
     have hsim := start_sim (P := P) hS g2 hsep
     rw [g3, <- hnx] at hsim
     have hvl : vals.length = as0.length := by
      have h1 := g1.length
      have : ∀ (xs : List Ar) (i : Nat), (arsVa i xs).1.length = xs.length := by
       intro xs
       induction xs with
       | nil => intro i; rfl
       | cons x xs ih => intro i; simp [arsVa, ih]
      have h2 := this as0 0
      rw [hars] at h2
      simp only at h2
      omega
     have hrel : Rel P n (psiFrom 0 ls) S w ⟨zipN 0 (vas.map .va), h, n, ntmps⟩ { tmps := vals.toArray ++ Array.replicate (ntmps - vals.toArray.size) undef, defers := [] } :=
      ⟨Nat.le_refl _, hsim, by simp; omega, rfl, fun t => start_tmps g1 ntmps t⟩
     refine .inl ⟨⟨_, c, hf, rfl, hname⟩, Calls.mono (hk.run _ S w _ hrel) ?_⟩
     rintro e w' ⟨v, st', ψ', S', a', rfl, hv, hq, hr', he⟩
     have main : ∃ v2 S' ls', Ending.returned v = .returned v2 /\ RepRt P S' w' r v2 ls' /\ RepUs S' w' (arsRows as0) us ls /\ Sep S' w' (keptLocs us ls ++ ls') /\ ExtA S w ls S' w' ls' := by
      unfold fin at hq
      obtain ⟨xs, vs, k1, k2, k3⟩ := resVars_ok hτ hr' hq
      have hv2 := results_run (fn := ⟨nm, orig, targs, params, rts, nfree, ntmps, rs, some c, nr, ours, file, el, ln, met, tn⟩) k3
      rw [hv] at hv2
      cases hv2
      -- one state, frozen or not
      have go : ∀ (S2 : Nat -> Prop) (h2 : List (Nat × Blk)), Rel P n ψ' S2 w' ⟨st'.tmps, h2, st'.next, st'.lim⟩ a' -> Ext n (psiFrom 0 ls) S w ψ' S2 w' -> All2 (RepVa P ψ' S2 w') xs vs ->
       (resVas h2 [] xs fun xs used => restRows h2 used 0 (arsRows as0) fun us' => rtEq (rtOf xs) r /\ usEq (arsRows as0) us' us) ->
       ∃ v2 S' ls', Ending.returned (valOf vs) = .returned v2 /\ RepRt P S' w' r v2 ls' /\ RepUs S' w' (arsRows as0) us ls /\ Sep S' w' (keptLocs us ls ++ ls') /\ ExtA S w ls S' w' ls' := by
       intro S2 h2 hr2 he2 hxs hres
       obtain ⟨ars, ids, ls2, p1, p2, p3, p4⟩ := resVas_ok hr2.sim (used := []) ⟨by simp, by simp⟩ hxs hres
       simp only [List.append_nil] at p3 p4
       obtain ⟨us2, ids2, q1, q2, q3, q4, q5, q6⟩ := restRows_ok hr2.sim (i := 0) (ls := ls) (by simpa using g3.symm) (fun j l hj => by
        rw [he2.agr (0 + j) (by rw [hnx, <- g3]; simpa using (List.getElem?_eq_some_iff.1 hj).1)]
        simpa [psiFrom] using hj) p3 p4
       have hsepA : Sep S2 w' (keptLocs us2 ls ++ ls2) := by
        refine sep_of_ids (h := h2) hr2.sim (ids := ids2 ++ ids) (q2.append p2) ⟨?_, ?_⟩
        . have := q3.1
          rw [List.nodup_append] at this ⊢
          refine ⟨this.1, (List.Perm.nodup_iff (List.reverse_perm ids)).1 this.2.1, fun a ha b hb => this.2.2 a ha b (by simpa using hb)⟩
        . intro k hk; exact q3.2 k (by simpa using hk)
       have hrt : RepRt P S2 w' (rtOf ars) (valOf vs) ls2 := by
        cases ars with
        | nil => cases vs with
          | nil => exact ⟨#[], rfl, p1⟩
          | cons _ _ => exact p1.elim
        | cons x ars => cases vs with
          | nil => exact p1.elim
          | cons v vs => cases ars with
            | nil => cases vs with
              | nil =>
                obtain ⟨l1, l2, e, p5, p6⟩ := p1
                have : l2 = [] := p6
                subst this
                simp at e; subst e
                exact p5
              | cons _ _ => obtain ⟨l1, l2, e, p5, p6⟩ := p1; exact p6.elim
            | cons y ars => cases vs with
              | nil => obtain ⟨l1, l2, e, p5, p6⟩ := p1; exact p6.elim
              | cons u vs => exact ⟨(v :: u :: vs).toArray, rfl, p1⟩
       obtain ⟨ls3, r1, r2⟩ := q5.rep hrt
       obtain ⟨r3, r4⟩ := q6.rep q1
       refine ⟨_, S2, ls3, rfl, r1, r3, ?_, ?_⟩
       . exact ((Ins.refl _).append r2).sep (sep_sub (r4.append (List.Sublist.refl _)) hsepA)
       . have himg : ∀ k m b, psiFrom 0 ls k = some (.at b m) -> blkIn ls b := fun k m b hk => ⟨m, List.mem_of_getElem? (by simpa [psiFrom] using hk)⟩
         refine ⟨he2.os, he2.tape, he2.output, he2.grow, fun b hb hno => he2.old b hb fun k m hk => hno (himg k m b hk), he2.later, ?_, ?_, hr2.sim.sdom⟩
         . intro b hb
           rcases he2.newS b hb with h1 | ⟨k, m, h1⟩ | h1
           . exact .inl h1
           . exact .inr (.inl (himg k m b h1))
           . exact .inr (.inr h1)
         . intro b hb
           obtain ⟨m, hm⟩ := r2.blkIn hb
           obtain ⟨j, hj, e⟩ := List.mem_iff_getElem.1 hm
           have hlen2 := p2.length
           obtain ⟨y, e1, e2⟩ := p2.get j (ids[j]'(by omega)) (by simp)
           have e3 : ls2[j]? = some (.at b m) := by rw [List.getElem?_eq_getElem hj, e]
           rw [e3] at e1; cases e1
           rcases he2.newP _ b m e2 with ⟨k, m', h1⟩ | h1
           . exact .inl (himg k m' b h1)
           . exact .inr h1
      cases fr with
      | false => exact go S' st'.heap hr' he k1 k2
      | true =>
        obtain ⟨h2, S2, p1, p2, p3⟩ := frVas_ok (ts := st'.tmps) (n := st'.next) (m := st'.lim) xs vs st'.heap S' hr' k1 k2
        exact go S2 h2 p2 (he.trans p3) (k1.mono fun _ _ h => h.later (PsiSub.refl _) p3.later) p1
     exact main
 . exact hk.elim
theorem FCat_coreA (hτ : TysOk P τ)
 {f : Nat} {fn : Func} (hf : P.funcs[f]? = some fn) (hname : (fn.name == "runtime.NumGoroutine") = false) {fr : Bool} {as0 : List Ar} {r : Rt} {us : List (Option (Nat -> List DV))}
 (hk : satF P τ fr fn as0 fun r' us' => rtEq r' r /\ usEq (arsRows as0) us' us) : FCat P f as0 r us := by
 refine FCat_coreE (fr := fr) hτ hf hname ?_
 unfold satF at hk
 unfold satE
 split at hk
 . rename_i nm orig targs params rts nfree ntmps rs c nr ours file el ln met tn vas h n hars
   refine ⟨hk.1, ⟨fun ψ S w vals hrel => calls_of_wp hf rfl (wp_mono (hk.2.run ψ S w _ hrel) ?_)⟩⟩
   rintro e a' w' ⟨st', ψ', S', hq, hr', he⟩
   have main : fin τ fr (arsRows as0) rs.toList (fun r' us' => rtEq r' r /\ usEq (arsRows as0) us' us) st' ->
    a'.defers = [] /\ ∃ v, (results ⟨nm, orig, targs, params, rts, nfree, ntmps, rs, some c, nr, ours, file, el, ln, met, tn⟩ a'.tmps).run P w' = .ok v w' /\
     ∃ v2 st' ψ' S' a2, Ending.returned v = .returned v2 /\ (results ⟨nm, orig, targs, params, rts, nfree, ntmps, rs, some c, nr, ours, file, el, ln, met, tn⟩ a2.tmps).run P w' = .ok v2 w' /\
      fin τ fr (arsRows as0) rs.toList (fun r' us' => rtEq r' r /\ usEq (arsRows as0) us' us) st' /\ Rel P n ψ' S' w' st' a2 /\ Ext n ψ S w ψ' S' w' := by
    intro hq
    have hq' := hq
    unfold fin at hq'
    obtain ⟨xs, vs, k1, k2, k3⟩ := resVars_ok hτ hr' hq'
    exact ⟨hr'.defers, _, results_run k3, _, st', ψ', S', a', rfl, results_run k3, hq, hr', he⟩
   cases e with
   | normal => exact main hq
   | ret => exact main hq
   | exit id => exact hq.elim
   | goto l => exact hq.elim
   | panic ch => exact hq.elim
   | outgrown => exact hq.elim
 . exact hk.elim
theorem fcatA {x : TT} (hx : x.ok P) {f : Nat} {fn : Func} (hf : P.funcs[f]? = some fn) (hname : (fn.name == "runtime.NumGoroutine") = false) (fr : Bool) {as0 : List Ar} {r : Rt} {us : List (Option (Nat -> List DV))}
 (hk : satF P x.get fr fn as0 fun r' us' => rtEq r' r /\ usEq (arsRows as0) us' us) : FCat P f as0 r us := FCat_coreA (TT.tysOk hx) hf hname hk
def thenJ (K : St -> Prop) (Q : Exit -> St -> Prop) : Exit -> St -> Prop
 | .normal, st => K st
 | .exit id, st => Q (.exit id) st
 | .goto l, st => Q (.goto l) st
 | .ret, st => Q .ret st
 | _, _ => False
variable {base : Nat} {x y z : Code} {st : St} {Q : Exit → St → Prop}
theorem ASat.seq (h : ASat P base x st (thenJ (fun st => ASat P base y st Q) Q)) : ASat P base (.seq x y) st Q := by
 refine ⟨fun ψ S w a hr => wp_seq (wp_mono (h.run ψ S w a hr) ?_)⟩
 rintro e a' w' ⟨st', ψ', S', hq, hr', he⟩
 cases e with
 | normal =>
   refine wp_mono ((show ASat P base y st' Q from hq).run ψ' S' w' a' hr') ?_
   rintro e a2 w2 ⟨st2, ψ2, S2, hq2, hr2, he2⟩
   exact ⟨st2, ψ2, S2, hq2, hr2, he.trans he2⟩
 | exit id => exact ⟨st', ψ', S', hq, hr', he⟩
 | goto l => exact ⟨st', ψ', S', hq, hr', he⟩
 | ret => exact ⟨st', ψ', S', hq, hr', he⟩
 | panic ch => exact hq.elim
 | outgrown => exact hq.elim
theorem ASat.norm {c : Code} (live : List Nat) (h : ASat P base c (Go.Sx.norm live st) Q) : ASat P base c st Q := ⟨fun ψ S w a hr => h.run ψ S w a (hr.norm live)⟩
variable {t : TT} {l : List (Nat × Sm)}
theorem ASat.vc (ht : t.ok P) (hl : sumsOk P l) (hmix : P.follows .mixedOrders = true) (h : Go.Sx.vc P t.get (sums l) (vcCall P (sums l) base) base x st Q) : ASat P base x st Q :=
 vc_ok (TT.tysOk ht) (TT.zeros ht) (sums_ok hl) hmix (vcCall_ok (sums_ok hl) base) x _ _ h
theorem ASat.seqA (ht : t.ok P) (hl : sumsOk P l) (hmix : P.follows .mixedOrders = true) (h : Go.Sx.vc P t.get (sums l) (vcCall P (sums l) base) base x st (thenJ (fun st => ASat P base y st Q) Q)) : ASat P base (.seq x y) st Q :=
 .seq (.vc ht hl hmix h)
end
end Go.Sx
