/- Keys out of texts, as the reference reads them. No condition. -/
import Derived.Test.YtakcacejpbiogaaDoorKey12
namespace Go.Proofs.YtakcacejpbiogaaDoor
set_option linter.all false
open Go.Sx

open Go.RowKit Go.Lib Go.Sort
theorem occ_iff {l : List UInt8} {i : Nat} : Lib.occAt l [46] i = true ↔ l[i]? = some 46 := by
  unfold Lib.occAt
  cases h : l.drop i with
  | nil =>
    have : l[i]? = none := by rw [List.drop_eq_nil_iff] at h; exact List.getElem?_eq_none h
    rw [this]; simp
  | cons c r =>
    have : l[i]? = some c := by
      have := List.getElem?_drop (xs := l) (i := i) (j := 0)
      rw [h] at this; rw [Nat.add_zero] at this; exact this.symm
    rw [this]
    simp only [List.isPrefixOf, Bool.and_true, beq_iff_eq, Option.some.injEq]
    exact eq_comm
theorem occ_b {s : ByteArray} {i : Nat} (h : i < s.size) : Lib.occAt s.data.toList [46] i = decide (bAt s i = 46) := by
  rw [Bool.eq_iff_iff, occ_iff, bAt_get h, decide_eq_true_eq]
  unfold bAt
  rw [Option.some.injEq, ← UInt8.toNat_inj]; rfl
theorem occ_end {l : List UInt8} {i : Nat} (h : l.length ≤ i) : Lib.occAt l [46] i = false := by
  cases hh : Lib.occAt l [46] i with
  | false => rfl
  | true => rw [occ_iff, List.getElem?_eq_none h] at hh; cases hh
theorem sz_len (s : ByteArray) : s.data.toList.length = s.size := Array.length_toList
theorem cut_no {s : ByteArray} (h : ∀ j, j < s.size → bAt s j ≠ 46) : cutS s dotS = (s, ⟨#[]⟩, false) := by
  have hi : Lib.index s.data.toList [46] = -1 := Lib.index_none fun j hj => by
    rcases Nat.lt_or_ge j s.size with h1 | h1
    · rw [occ_b h1, decide_eq_false (h j h1)]
    · exact occ_end (by rw [sz_len]; exact h1)
  unfold cutS dotS
  show (ByteArray.mk (Lib.cut s.data.toList [46]).1.toArray, ByteArray.mk (Lib.cut s.data.toList [46]).2.1.toArray, (Lib.cut s.data.toList [46]).2.2) = _
  unfold Lib.cut
  rw [hi, if_neg (by decide)]
theorem cut_at {s : ByteArray} {i : Nat} (hi : i < s.size) (h0 : bAt s i = 46) (h : ∀ j, j < i → bAt s j ≠ 46) : cutS s dotS = (s.extract 0 i, s.extract (i + 1) s.size, true) := by
  have hx : Lib.index s.data.toList [46] = i := Lib.index_first (by rw [sz_len]; omega) (by rw [occ_b hi, decide_eq_true h0]) fun j hj => by rw [occ_b (by omega), decide_eq_false (h j hj)]
  unfold cutS dotS
  show (ByteArray.mk (Lib.cut s.data.toList [46]).1.toArray, ByteArray.mk (Lib.cut s.data.toList [46]).2.1.toArray, (Lib.cut s.data.toList [46]).2.2) = _
  unfold Lib.cut
  rw [hx, if_pos (by omega)]
  have e1 : (ByteArray.mk (s.data.toList.take (Int.toNat (i : Int))).toArray) = s.extract 0 i := by
    apply ByteArray.ext
    rw [ByteArray.data_extract]
    apply Array.ext'
    rw [Array.toList_extract]
    simp [List.extract_eq_take_drop]
  have e2 : (ByteArray.mk (s.data.toList.drop (Int.toNat (i : Int) + [(46 : UInt8)].length)).toArray) = s.extract (i + 1) s.size := by
    apply ByteArray.ext
    rw [ByteArray.data_extract]
    apply Array.ext'
    rw [Array.toList_extract]
    rw [List.extract_eq_take_drop]
    show s.data.toList.drop (i + 1) = _
    exact (List.take_of_length_le (by rw [List.length_drop, sz_len]; omega)).symm
  show (ByteArray.mk (s.data.toList.take (Int.toNat (i : Int))).toArray, ByteArray.mk (s.data.toList.drop (Int.toNat (i : Int) + [(46 : UInt8)].length)).toArray, true) = _
  rw [e1, e2]
theorem ext_all (s : ByteArray) : s.extract 0 s.size = s := by
  apply ByteArray.ext
  rw [ByteArray.data_extract]
  apply Array.ext'
  rw [Array.toList_extract, List.extract_eq_take_drop]
  show (s.data.toList.drop 0).take (s.size - 0) = _
  rw [List.drop_zero]; exact List.take_of_length_le (by rw [sz_len]; omega)
theorem rd_at {s a b : ByteArray} (h : cutS s dotS = (a, b, true)) : readM s = if nameB a = false then (k0, 3) else if (numM b).2 = 0 then (⟨a, (numM b).1⟩, 0) else (k0, (numM b).2) := by
  unfold readM; rw [h]; rfl
theorem rd_un {s a b : ByteArray} (h : cutS s dotS = (a, b, false)) : readM s = if nameB a = false then (k0, 3) else (⟨a, -1⟩, 0) := by
  unfold readM; rw [h]; rfl
theorem ext_sz (s : ByteArray) (a b : Nat) : (s.extract a b).size ≤ s.size := by rw [ByteArray.size_extract]; omega
def FRRead : List Ar → Option Rs
  | [.c (.d (.v (.string x0)))] => some ⟨(x0.size < 4294967281), .tup [Ky.ar (readM x0).1, .c (.d (it (readM x0).2))], []⟩
  | _ => none
set_option maxHeartbeats 4000000 in
set_option maxRecDepth 100000 in
theorem fcRRead : FC Tryd.prog 19 FRRead := by
  intro xs pre r us h hp
  unfold FRRead at h
  split at h
  · rename_i x0
    cases h
    have hp0 := hp
    refine fcat tys_ok (l := [(18, ⟨[], FRName⟩), (47, ⟨[], FRNum⟩)]) ⟨fcRName, fcRNum, trivial⟩ Tryd.func19 rfl (by kernel_rfl) true ?_
    repeat' (first | exact trivial | refine ⟨?_, ?_⟩ | intro _)
    all_goals first | (with_reducible show (_ : Int) ≤ _) | (with_reducible show (_ : Int) < _) | (with_reducible show (_ : Nat) ≤ _) | (with_reducible show (_ : Nat) < _) | (conv => whnf)
    refine loop_ok tys_ok (l := [(18, ⟨[], FRName⟩), (47, ⟨[], FRNum⟩)]) ⟨fcRName, fcRNum, trivial⟩ (by kernel_rfl) (X := Nat)
      (fun i => ⟨[(4, vx (.int .i64 i)), (0, vx (.string x0)), (2, .va (.c (.own 0 0)))], [(0, .cells [.d (.v (.string ⟨#[]⟩)), .d (it 0)])], 1, 48⟩)
      (fun i => x0.size - i) (fun i => i ≤ x0.size ∧ ∀ j, j < i → bAt x0 j ≠ 46) [] []
      (fun i _ _ => i + 1) [0] [0] 0 0 0 ?_ ?_ ?_
    · exact ⟨Nat.zero_le _, fun j h => absurd h (Nat.not_lt_zero j)⟩
    · repeat' (first | exact trivial | exact rfl | (intro _ _; exact rfl) | refine ⟨?_, ?_⟩ | fail)
    · rintro i ⟨k1, k2⟩
      rcases Nat.lt_or_ge i x0.size with hi | hi
      · have hne : decide ((i : Int) < (x0.size : Int)) = true := decide_eq_true (by omega)
        have hib : (0 : Int) ≤ (i : Int) ∧ (i : Int) < (x0.size : Int) := by omega
        have hby : byteAt x0 (Int.toNat (i : Int)) = (bAt x0 i : Nat) := byte_bAt hi
        by_cases hd : bAt x0 i = 46
        · have hb : (byteAt x0 (Int.toNat (i : Int)) != 46) = false := by rw [hby, hd]; rfl
          have hcut := cut_at hi hd k2
          have hw : IntKind.wrap .i64 ((i : Int) + 1) = ((i + 1 : Nat) : Int) := by rw [wI_id _ (by omega) (by omega)]; omega
          have hx1 := ext_sz x0 0 i
          have hx2 := ext_sz x0 (i + 1) x0.size
          have hir : ((i : Int) == (x0.size : Int)) = false := beq_eq_false_iff_ne.2 (by omega)
          have hrd := rd_at hcut
          have hz0 : Int.toNat 0 = 0 := rfl
          repeat' (first | exact trivial | (with_reducible exact (fun h => absurd (hne.symm.trans h) (by decide))) | (with_reducible exact (fun h => absurd (hb.symm.trans h) (by decide))) | (with_reducible exact (fun h => absurd (hir.symm.trans h) (by decide))) | (with_reducible exact hib) | refine ⟨?_, ?_⟩ | intro _)
          all_goals first | (with_reducible show (_ : Int) ≤ _) | (with_reducible show (_ : Int) < _) | (with_reducible show (_ : Nat) ≤ _) | (with_reducible show (_ : Nat) < _) | (conv => whnf)
          all_goals (try simp only [hw, hz0, Int.toNat_natCast] at *)
          all_goals first | omega | (rw [hrd, if_pos (by simpa using ‹(!nameB _) = true›)] <;> rfl) | (rw [hrd, if_neg (by simpa using ‹(!nameB _) = false›), if_pos (by simpa using ‹((numM _).2 != 0) = false›)] <;> rfl) | (rw [hrd, if_neg (by simpa using ‹(!nameB _) = false›), if_neg (by simpa using ‹((numM _).2 != 0) = true›)] <;> rfl) | trace_state
        · have hb : (byteAt x0 (Int.toNat (i : Int)) != 46) = true := by rw [hby]; simpa using fun e => hd (by omega)
          have hn : ∀ j, j < i + 1 → bAt x0 j ≠ 46 := fun j hj => by
            rcases Nat.lt_or_ge j i with h | h
            · exact k2 j h
            · rw [show j = i by omega]; exact hd
          repeat' (first | exact trivial | (with_reducible exact (fun h => absurd (hne.symm.trans h) (by decide))) | (with_reducible exact (fun h => absurd (hb.symm.trans h) (by decide))) | (with_reducible exact hib) | refine ⟨?_, ?_⟩ | intro _)
          all_goals first | (with_reducible show (_ : Int) ≤ _) | (with_reducible show (_ : Int) < _) | (with_reducible show (_ : Nat) ≤ _) | (with_reducible show (_ : Nat) < _) | (conv => whnf)
          all_goals first | omega | rfl | ((with_reducible show idsOk _ _ = true); rfl) | exact hn _ ‹_› | exact hn _ ‹_› ‹_› | (dsimp only; omega) | (exact congrArg (Value.int .i64) (by first | (rw [wI_id _ (by omega) (by omega)]; omega) | omega | (dsimp only; omega))) | (dsimp only; (exact congrArg (Value.int .i64) (by first | (rw [wI_id _ (by omega) (by omega)]; omega) | omega | (dsimp only; omega)))) | trace_state
      · have hne : decide ((i : Int) < (x0.size : Int)) = false := decide_eq_false (by omega)
        obtain rfl : i = x0.size := by omega
        have hcut := cut_no k2
        have hir : ((x0.size : Int) == (x0.size : Int)) = true := beq_self_eq_true _
        have hx1 := ext_sz x0 0 x0.size
        have hrd := rd_un hcut
        have hz0 : Int.toNat 0 = 0 := rfl
        have hea := ext_all x0
        repeat' (first | exact trivial | (with_reducible exact (fun h => absurd (hne.symm.trans h) (by decide))) | (with_reducible exact (fun h => absurd (hir.symm.trans h) (by decide))) | refine ⟨?_, ?_⟩ | intro _)
        all_goals first | (with_reducible show (_ : Int) ≤ _) | (with_reducible show (_ : Int) < _) | (with_reducible show (_ : Nat) ≤ _) | (with_reducible show (_ : Nat) < _) | (conv => whnf)
        all_goals (try simp only [hz0, Int.toNat_natCast, hea] at *)
        all_goals first | omega | (rw [hrd, if_pos (by simpa using ‹(!nameB _) = true›)] <;> rfl) | (rw [hrd, if_neg (by simpa using ‹(!nameB _) = false›)] <;> rfl) | trace_state
  · cases h

end Go.Proofs.YtakcacejpbiogaaDoor
