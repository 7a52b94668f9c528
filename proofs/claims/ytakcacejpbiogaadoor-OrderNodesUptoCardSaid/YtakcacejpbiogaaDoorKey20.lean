/- Texts of keys. No condition. -/
import Derived.Test.YtakcacejpbiogaaDoorKey19
import Derived.Lib.ItoaNum
namespace Go.Proofs.YtakcacejpbiogaaDoor
set_option linter.all false
open Go.Sx

open Go.RowKit Go.Lib Go.Sort
/-! digits -/
theorem dd_small {u : Nat} (h : u < 10) : decDigits u = [UInt8.ofNat (48 + u)] := by rw [decDigits, dif_pos h]
theorem dd_big {u : Nat} (h : ¬ u < 10) : decDigits u = decDigits (u / 10) ++ [UInt8.ofNat (48 + u % 10)] := by rw [decDigits, dif_neg h]
theorem dd_ne (u : Nat) : decDigits u ≠ [] := by
  by_cases h : u < 10
  · rw [dd_small h]; simp
  · rw [dd_big h]; simp
theorem u8_nat {k : Nat} (h : k < 256) : (UInt8.ofNat k).toNat = k := by rw [UInt8.toNat_ofNat']; omega
theorem dd_dig (u : Nat) : ∀ c, c ∈ decDigits u → 48 ≤ c.toNat ∧ c.toNat ≤ 57 := by
  induction u using Nat.strongRecOn with
  | ind u ih =>
    intro c hc
    by_cases h : u < 10
    · rw [dd_small h, List.mem_singleton] at hc
      rw [hc, u8_nat (by omega)]; omega
    · rw [dd_big h] at hc
      rcases List.mem_append.1 hc with h1 | h1
      · exact ih (u / 10) (by omega) c h1
      · rw [List.mem_singleton.1 h1, u8_nat (by omega)]; omega
theorem dd_val (u : Nat) : vL 0 (decDigits u) = u := by
  induction u using Nat.strongRecOn with
  | ind u ih =>
    by_cases h : u < 10
    · rw [dd_small h]
      show 0 * 10 + ((UInt8.ofNat (48 + u)).toNat - 48) = u
      rw [u8_nat (by omega)]; omega
    · rw [dd_big h, vL_snoc, ih (u / 10) (by omega), u8_nat (by omega)]; omega
/-- no nought ahead -/
theorem dd_head (u : Nat) (h : 0 < u) : ∀ c r, decDigits u = c :: r → c.toNat ≠ 48 := by
  induction u using Nat.strongRecOn with
  | ind u ih =>
    intro c r e
    by_cases h1 : u < 10
    · rw [dd_small h1] at e
      cases e
      rw [u8_nat (by omega)]; omega
    · rw [dd_big h1] at e
      cases hd : decDigits (u / 10) with
      | nil => exact absurd hd (dd_ne _)
      | cons c' r' =>
        rw [hd] at e
        have e : c' :: (r' ++ [UInt8.ofNat (48 + u % 10)]) = c :: r := e
        cases e
        exact ih (u / 10) (by omega) (by omega) _ _ hd
/-- the digits that are left, and those that are told -/
def dgs (u : Nat) : List UInt8 := if u = 0 then [] else decDigits u
theorem dgs_step {u : Nat} (h : u ≠ 0) : dgs u = dgs (u / 10) ++ [UInt8.ofNat (48 + u % 10)] := by
  unfold dgs
  rw [if_neg h]
  by_cases h1 : u < 10
  · rw [dd_small h1, if_pos (by omega), show u % 10 = u by omega]; rfl
  · rw [dd_big h1, if_neg (by omega)]
def mkB (l : List UInt8) : ByteArray := ⟨l.toArray⟩
theorem mkB_app (a b : List UInt8) : mkB a ++ mkB b = mkB (a ++ b) := by
  apply ByteArray.ext
  rw [ByteArray.data_append]
  show a.toArray ++ b.toArray = (a ++ b).toArray
  simp
theorem mkB_sz (l : List UInt8) : (mkB l).size = l.length := by show l.toArray.size = _; simp
theorem mkB_nil : mkB [] = ⟨#[]⟩ := rfl
theorem itoa_mk (n : Int) : itoaS n = mkB (Lib.itoa n) := rfl
theorem app_nil (s : ByteArray) : s ++ (⟨#[]⟩ : ByteArray) = s := by
  apply ByteArray.ext; rw [ByteArray.data_append]; exact Array.append_empty
theorem one_byte (d : Int) : bytesOf 1 (fun i => Sx.rowAt 1 [DV.v (.int .u8 d)] (0 + i)) = mkB [UInt8.ofNat d.toNat] := rfl
/-- one digit more is told -/
theorem num_step {m : Int} {L : List UInt8} (hm : m ≠ 0) {r : Nat} (hr : r = m.natAbs % 10) : mkB (dgs m.natAbs ++ L) = mkB (dgs (m.tdiv 10).natAbs ++ (UInt8.ofNat (48 + r) :: L)) := by
  subst hr
  have e : (m.tdiv 10).natAbs = m.natAbs / 10 := by rw [Int.natAbs_tdiv]; rfl
  rw [e, dgs_step (by omega), List.append_assoc]; rfl
theorem dgs_len {n : Int} (h : rI n) : (dgs n.natAbs).length ≤ 21 := by
  have h2 := itoa_sz h
  unfold rI at h
  unfold dgs
  split
  · simp
  · rw [itoa_mk, mkB_sz] at h2
    unfold Lib.itoa at h2
    split at h2
    · simp at h2; omega
    · rw [show n.toNat = n.natAbs by omega] at h2; exact h2
theorem num_neg {n : Int} {L : List UInt8} (h : n < 0) (hL : dgs 0 ++ L = dgs n.natAbs) : mkB [45] ++ mkB L = itoaS n := by
  have h0 : dgs 0 ++ L = L := rfl
  rw [h0] at hL
  rw [itoa_mk, mkB_app, hL]
  unfold Lib.itoa dgs
  rw [if_neg (by omega), if_pos h]; rfl
theorem num_pos {n : Int} {L : List UInt8} (h : ¬ n < 0) (h1 : n ≠ 0) (hL : dgs 0 ++ L = dgs n.natAbs) : mkB L = itoaS n := by
  have h0 : dgs 0 ++ L = L := rfl
  rw [h0] at hL
  rw [itoa_mk, hL]
  unfold Lib.itoa dgs
  rw [if_neg (by omega), if_neg h, show n.toNat = n.natAbs by omega]
theorem itoa_zero : itoaS 0 = ⟨#[48]⟩ := by
  rw [itoa_mk]; unfold Lib.itoa; rw [if_neg (by decide), dd_small (by decide)]; rfl
theorem one_row {d : Int} {i : Nat} (h : i < 1) : Sx.rowAt 1 [DV.v (.int .u8 d)] (0 + i) = [.v (.int .u8 (bI (Sx.rowAt 1 [DV.v (.int .u8 d)] (0 + i))))] := by
  obtain rfl : i = 0 := by omega
  rfl
theorem one_sz (d : Int) : (bytesOf 1 (fun i => Sx.rowAt 1 [DV.v (.int .u8 d)] (0 + i))).size = 1 := rfl
theorem mod_abs (m : Int) : (m.tmod 10).natAbs = m.natAbs % 10 := by rw [Int.natAbs_tmod]; rfl
theorem dig_pos {m : Int} (h : ¬ m.tmod 10 < 0) : m.tmod 10 = ((m.natAbs % 10 : Nat) : Int) := by rw [← mod_abs]; omega
theorem dig_neg {m : Int} (h : m.tmod 10 < 0) : IntKind.wrap .i64 (0 - m.tmod 10) = ((m.natAbs % 10 : Nat) : Int) := by
  have := mod_abs m
  have h2 : m.natAbs % 10 < 10 := Nat.mod_lt _ (by decide)
  rw [wI_id _ (by omega) (by omega)]; omega
theorem to_u8 {r : Nat} (h : r < 10) : IntKind.wrap .u8 (IntKind.wrap .i64 (48 + (r : Int))) = ((48 + r : Nat) : Int) := by
  rw [wI_id _ (by omega) (by omega)]
  simp [IntKind.wrap, IntKind.signed, IntKind.bits]; omega
theorem dstep {x : Int} {r : Nat} {L : List UInt8} (hr : r < 10) (hx : x = (r : Int)) : bytesOf 1 (fun i => Sx.rowAt 1 [DV.v (.int .u8 (IntKind.wrap .u8 (IntKind.wrap .i64 (48 + x))))] (0 + i)) ++ mkB L = mkB (UInt8.ofNat (48 + r) :: L) := by
  subst hx
  rw [to_u8 hr, one_byte, mkB_app]; rfl
theorem itoa_bound {n : Int} (h : rI n) : (itoaS n).size ≤ 21 := itoa_sz h
def FRNumC : List Ar → Option Rs
  | [.c (.d (.v (.int .i64 i0)))] => some ⟨(-9223372036854775808 ≤ i0 ∧ i0 < 9223372036854775808), .va (.c (.d (st (itoaS i0)))), []⟩
  | _ => none
set_option maxHeartbeats 3000000 in
set_option maxRecDepth 100000 in
theorem fcRNumC : FC Tryd.prog 40 FRNumC := by
  intro xs pre r us h hp
  unfold FRNumC at h
  split at h
  · rename_i i0
    cases h
    have hp0 := hp
    refine fcat tys_ok (l := []) trivial Tryd.func40 rfl (by kernel_rfl) true ?_
    repeat' (first | exact trivial | refine ⟨?_, ?_⟩ | intro _)
    all_goals first | (with_reducible show (_ : Int) ≤ _) | (with_reducible show (_ : Int) < _) | (with_reducible show (_ : Nat) ≤ _) | (with_reducible show (_ : Nat) < _) | (conv => whnf)
    all_goals first | (have hz : i0 = 0 := eq_of_beq ‹(i0 == 0) = true›; subst hz; exact congrArg Value.string itoa_zero.symm) | skip
    have hz : i0 ≠ 0 := beq_eq_false_iff_ne.1 ‹(i0 == 0) = false›
    have hlen := dgs_len (n := i0) hp0
    refine loop_ok tys_ok (l := []) trivial (by kernel_rfl) (X := Int × List UInt8)
      (fun x => ⟨[(3, vx (.string (mkB x.2))), (4, vx (.int .i64 x.1)), (0, vx (.int .i64 i0))], [], 0, 31⟩)
      (fun x => x.1.natAbs) (fun x => (-9223372036854775808 ≤ x.1 ∧ x.1 < 9223372036854775808) ∧ dgs x.1.natAbs ++ x.2 = dgs i0.natAbs) [] []
      (fun x _ _ => (x.1.tdiv 10, UInt8.ofNat (48 + x.1.natAbs % 10) :: x.2)) [] [] 0 0 (i0, []) ?_ ?_ ?_
    · exact ⟨hp0, List.append_nil _⟩
    · repeat' (first | exact trivial | exact rfl | (intro _ _; exact rfl) | refine ⟨?_, ?_⟩ | fail)
    · rintro ⟨m, L⟩ ⟨hm, hd⟩
      dsimp only at hm hd
      have hr : m.natAbs % 10 < 10 := Nat.mod_lt _ (by decide)
      have hL : L.length ≤ 21 := by have := congrArg List.length hd; rw [List.length_append] at this; omega
      have hsz : (mkB L).size ≤ 21 := by rw [mkB_sz]; exact hL
      have htd : (m.tdiv 10).natAbs = m.natAbs / 10 := by rw [Int.natAbs_tdiv]; rfl
      have hd2 : m ≠ 0 → dgs (m.tdiv 10).natAbs ++ (UInt8.ofNat (48 + m.natAbs % 10) :: L) = dgs i0.natAbs := fun hm0 => by rw [← hd, dgs_step (u := m.natAbs) (by omega), htd, List.append_assoc]; rfl
      repeat' (first | exact trivial | refine ⟨?_, ?_⟩ | intro _)
      all_goals first | (with_reducible show (_ : Int) ≤ _) | (with_reducible show (_ : Int) < _) | (with_reducible show (_ : Nat) ≤ _) | (with_reducible show (_ : Nat) < _) | (conv => whnf)
      all_goals (try dsimp only at *)
      all_goals first | omega | (exact absurd ‹(10 : Int) = 0› (by decide)) | (exact one_row ‹_›) | (rw [i64max, one_sz]; omega) | (rw [i64max]; show ((1 + (mkB L).size : Nat) : Int) ≤ _; omega) | (exact hd2 (by simpa using ‹(m != 0) = true›)) | (refine congrArg Value.string ?_; first | (exact dstep hr (dig_pos (by simpa using ‹decide (m.tmod 10 < 0) = false›))) | (exact dstep hr (dig_neg (of_decide_eq_true ‹decide (m.tmod 10 < 0) = true›)))) | (exact congrArg (Value.int .i64) (wI_id _ (by omega) (by omega))) | skip
      all_goals first | rfl | (have h0 : m ≠ 0 := (by simpa using ‹(m != 0) = true›); omega) | skip
      all_goals (have h0 : m = 0 := by simpa using ‹(m != 0) = false›)
      all_goals subst h0
      all_goals first | (exact congrArg Value.string (num_neg (of_decide_eq_true ‹decide (i0 < 0) = true›) hd)) | (exact congrArg Value.string (num_pos (of_decide_eq_false ‹decide (i0 < 0) = false›) hz hd)) | skip
      all_goals trace_state
  · cases h
def FRText : List Ar → Option Rs
  | [.agg [.d (.v (.string x0)), .d (.v (.int .i64 i0))]] => some ⟨(rI i0) ∧ (x0.size ≤ 1000000000000), .va (.c (.d (st (textS (⟨x0, i0⟩ : Ky))))), []⟩
  | _ => none
set_option maxHeartbeats 3000000 in
set_option maxRecDepth 100000 in
theorem fcRText : FC Tryd.prog 16 FRText := by
  intro xs pre r us h hp
  unfold FRText at h
  split at h
  · rename_i x0 i0
    cases h
    obtain ⟨hp0, hp1⟩ := hp
    refine fcat tys_ok (l := [(40, ⟨[], FRNumC⟩)]) ⟨fcRNumC, trivial⟩ Tryd.func16 rfl (by kernel_rfl) true ?_
    have hit := itoa_sz hp0
    repeat' (first | exact trivial | (with_reducible exact hp0) | refine ⟨?_, ?_⟩ | intro _)
    all_goals first | (with_reducible show (_ : Int) ≤ _) | (with_reducible show (_ : Int) < _) | (with_reducible show (_ : Nat) ≤ _) | (with_reducible show (_ : Nat) < _) | (conv => whnf)
    all_goals first | (unfold rI at hp0; omega) | (rw [i64max, dot_sz]; omega) | (rw [i64max]; show ((x0.size + 1 : Nat) : Int) ≤ _; omega) | (refine congrArg Value.string ?_; unfold textS; first | (rw [if_pos (of_decide_eq_true ‹decide (i0 < 0) = true›)]; done) | (rw [if_neg (of_decide_eq_false ‹decide (i0 < 0) = false›)]; done)) | trace_state
  · cases h
/-! a key's text is read as that key -/
theorem bAt_list {s : ByteArray} {i : Nat} (h : i < s.size) : bAt s i = ((s.data.toList[i]?).getD 0).toNat := by
  rw [bAt_get h]; rfl
theorem bAt_mk {l : List UInt8} {i : Nat} (h : i < l.length) : bAt (mkB l) i = (l[i]'h).toNat := by
  rw [bAt_list (by rw [mkB_sz]; exact h)]
  show ((l.toArray.toList[i]?).getD 0).toNat = _
  rw [List.toList_toArray, List.getElem?_eq_getElem h]; rfl
theorem mkB_of (s : ByteArray) : mkB s.data.toList = s := by
  apply ByteArray.ext; show s.data.toList.toArray = s.data; simp
theorem good_ne {s : ByteArray} {i : Nat} (h : goodB s i = true) : bAt s i ≠ 46 := by
  intro e
  unfold goodB letB digB at h
  rw [e] at h
  simp at h
theorem name_good {s : ByteArray} (h : nameB s = true) : ∀ i, i < s.size → goodB s i = true := by
  intro i hi
  unfold nameB plainB at h
  simp only [Bool.and_eq_true] at h
  exact List.all_eq_true.1 h.1.2.2 i (List.mem_range.2 hi)
theorem text_pos {k : Ky} (h : ¬ k.node < 0) : textS k = mkB (k.name.data.toList ++ 46 :: decDigits k.node.toNat) := by
  unfold textS
  rw [if_neg h, itoa_mk]
  unfold Lib.itoa
  rw [if_neg h]
  conv => lhs; rw [← mkB_of k.name, show (⟨#[46]⟩ : ByteArray) = mkB [46] from rfl, mkB_app, mkB_app]
  rw [List.append_assoc]; rfl
theorem num_dd (u : Nat) (h : u ≤ 9223372036854775807) : numM (mkB (decDigits u)) = ((u : Int), 0) := by
  have hne := dd_ne u
  have hsz : (mkB (decDigits u)).size ≠ 0 := by rw [mkB_sz]; intro e; exact hne (List.eq_nil_of_length_eq_zero e)
  have hdig : ∀ j, j < (mkB (decDigits u)).size → digB (bAt (mkB (decDigits u)) j) = true := fun j hj => by
    rw [mkB_sz] at hj
    rw [bAt_mk hj]
    have := dd_dig u _ (List.getElem_mem hj)
    unfold digB
    rw [decide_eq_true_eq]; omega
  have hz : ¬ ((mkB (decDigits u)).size > 1 ∧ byteAt (mkB (decDigits u)) 0 = 48) := by
    rintro ⟨h1, h2⟩
    rw [byte_bAt (by omega)] at h2
    rw [mkB_sz] at h1
    rw [bAt_mk (by omega)] at h2
    by_cases h0 : u < 10
    · rw [dd_small h0] at h1; simp at h1
    · cases hd : decDigits u with
      | nil => exact hne hd
      | cons c r =>
        have := dd_head u (by omega) c r hd
        have e : ((decDigits u)[0]'(by omega)) = c := by simp [hd]
        rw [e] at h2; omega
  have hv : vS (mkB (decDigits u)) (mkB (decDigits u)).size = u := by
    rw [vS_all]
    show vL 0 (decDigits u).toArray.toList = u
    rw [List.toList_toArray, dd_val]
  rw [num_ref_ok hsz hz hdig, hv, if_pos h]
theorem ext_mk {l : List UInt8} {a b : Nat} : (mkB l).extract a b = mkB ((l.drop a).take (b - a)) := by
  apply ByteArray.ext
  rw [ByteArray.data_extract]
  apply Array.ext'
  rw [Array.toList_extract, List.extract_eq_take_drop]
  show (l.toArray.toList.drop a).take (b - a) = ((l.drop a).take (b - a)).toArray.toList
  rw [List.toList_toArray, List.toList_toArray]
theorem read_text {k : Ky} (hn : nameB k.name = true) (hk : rI k.node) : readM (textS k) = (k.cl, 0) := by
  have hg := name_good hn
  by_cases h : k.node < 0
  · have e : textS k = k.name := by unfold textS; rw [if_pos h]
    rw [e, rd_un (cut_no fun j hj => good_ne (hg j hj)), hn]
    unfold Ky.cl
    rw [if_pos h]; rfl
  · have e := text_pos h
    have hlen : (textS k).size = k.name.size + 1 + (decDigits k.node.toNat).length := by
      rw [e, mkB_sz, List.length_append, List.length_cons, sz_len]; omega
    have hat : bAt (textS k) k.name.size = 46 := by
      rw [e, bAt_mk (by rw [List.length_append, List.length_cons, sz_len]; omega)]
      rw [List.getElem_append_right (by rw [sz_len]; omega)]
      simp [sz_len]
    have hne : ∀ j, j < k.name.size → bAt (textS k) j ≠ 46 := fun j hj => by
      have h1 := good_ne (hg j hj)
      have h2 : j < (k.name.data.toList).length := by rw [sz_len]; exact hj
      rw [e, bAt_mk (by rw [List.length_append]; omega), List.getElem_append_left h2]
      have h3 := bAt_list hj
      rw [List.getElem?_eq_getElem h2] at h3
      have h3 : bAt k.name j = (k.name.data.toList[j]).toNat := h3
      rw [← h3]; exact h1
    have hc := cut_at (s := textS k) (by omega) hat hne
    have e1 : (textS k).extract 0 k.name.size = k.name := by
      rw [e, ext_mk, List.drop_zero, Nat.sub_zero, List.take_append_of_le_length (by rw [sz_len]; omega), List.take_of_length_le (by rw [sz_len]; omega), mkB_of]
    have e2 : (textS k).extract (k.name.size + 1) (textS k).size = mkB (decDigits k.node.toNat) := by
      rw [hlen, e, ext_mk]
      have : (k.name.data.toList ++ 46 :: decDigits k.node.toNat).drop (k.name.size + 1) = decDigits k.node.toNat := by
        rw [List.drop_append, sz_len, List.drop_eq_nil_of_le (by rw [sz_len]; omega), show k.name.size + 1 - k.name.size = 1 by omega]; rfl
      rw [this, List.take_of_length_le (by omega)]
    unfold rI at hk
    rw [rd_at hc, e1, e2, hn, num_dd _ (by omega)]
    unfold Ky.cl
    rw [if_neg h, if_neg (by simp), if_pos rfl, show ((k.node.toNat : Nat) : Int) = k.node by omega]
theorem text_sz {k : Ky} (hk : rI k.node) : (textS k).size ≤ k.name.size + 22 := by
  unfold textS
  split
  · omega
  · have := itoa_sz hk
    rw [ByteArray.size_append, dot_sz]; omega
def FKeyTexts : List Ar → Option Rs
  | [.agg [.d (.v (.string x0)), .d (.v (.int .i64 i0))]] => some ⟨(rI i0) ∧ (x0.size ≤ 1000000000), .va (.c (.d (bo (true)))), []⟩
  | _ => none
set_option maxHeartbeats 4000000 in
set_option maxRecDepth 100000 in
theorem fcKeyTexts : FC Tryd.prog 4 FKeyTexts := by
  intro xs pre r us h hp
  unfold FKeyTexts at h
  split at h
  · rename_i x0 i0
    cases h
    obtain ⟨hp0, hp1⟩ := hp
    refine fcat tys_ok (l := [(15, ⟨[], FKText⟩), (16, ⟨[], FRText⟩), (17, ⟨[], FKRead⟩), (18, ⟨[], FRName⟩), (12, ⟨[], FRKyClean⟩), (14, ⟨[], FKLives⟩)]) ⟨fcKText, fcRText, fcKRead, fcRName, fcRKyClean, fcKLives, trivial⟩ Tryd.func4 rfl (by kernel_rfl) true ?_
    have hz := text_sz (k := ⟨x0, i0⟩) hp0
    have hz : (textS ⟨x0, i0⟩).size ≤ x0.size + 22 := hz
    have hrt := fun h => read_text (k := ⟨x0, i0⟩) h hp0
    repeat' (first | exact trivial | (with_reducible exact hp0) | refine ⟨?_, ?_⟩ | intro _)
    all_goals first | (with_reducible show (_ : Int) ≤ _) | (with_reducible show (_ : Int) < _) | (with_reducible show (_ : Nat) ≤ _) | (with_reducible show (_ : Nat) < _) | (conv => whnf)
    all_goals first | omega | rfl | (exact absurd ‹(!_) = true› (by simp)) | (have hn : nameB x0 = true := by simpa using ‹(!nameB x0) = false›
                                                                              rw [hrt hn] at *
                                                                              first | (exact absurd ‹((0 : Int) == 0) = false› (by decide)) | (exfalso; rename_i q; exact absurd q (by simp))) | skip
    all_goals trace_state
  · cases h

end Go.Proofs.YtakcacejpbiogaaDoor
