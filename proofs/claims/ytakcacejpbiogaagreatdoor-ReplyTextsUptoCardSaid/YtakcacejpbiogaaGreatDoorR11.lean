/- Dots and words, the reference. No condition. -/
import Derived.Test.YtakcacejpbiogaaGreatDoorR10
import Derived.Lib.Join
set_option linter.all false
set_option maxHeartbeats 8000000
set_option maxRecDepth 100000
namespace Go.Proofs.YtakcacejpbiogaaGreatDoor
open Go.Sx
open Go.RowKit Go.Lib Go.Sort
def dotI (s : ByteArray) : Int := Lib.index s.data.toList [46, 46]
theorem occ2 {s : ByteArray} {i : Nat} : Lib.occAt s.data.toList [46, 46] i = true ↔ i + 1 < s.size /\ bAt s i = 46 /\ bAt s (i + 1) = 46 := by
 unfold Lib.occAt
 have hl := sz_len s
 constructor
 . intro h
   have h2 : [46, 46] <+: s.data.toList.drop i := by simpa using h
   obtain ⟨t, ht⟩ := h2
   have hlen : i + 2 <= s.size := by
    have := congrArg List.length ht
    simp only [List.length_append, List.length_cons, List.length_nil, List.length_drop] at this; omega
   have g0 : s.data.toList[i]? = some 46 := by
    have := List.getElem?_drop (xs := s.data.toList) (i := i) (j := 0)
    rw [<- ht] at this; rw [Nat.add_zero] at this; exact this.symm
   have g1 : s.data.toList[i + 1]? = some 46 := by
    have := List.getElem?_drop (xs := s.data.toList) (i := i) (j := 1)
    rw [<- ht] at this; exact this.symm
   refine ⟨by omega, ?_, ?_⟩
   . rw [bAt_list (by omega), g0]; rfl
   . rw [bAt_list (by omega), g1]; rfl
 . rintro ⟨h0, h1, h2⟩
   have e1 : s.data.toList[i]'(by omega) = 46 := by
    have := bAt_list (s := s) (i := i) (by omega)
    rw [List.getElem?_eq_getElem (by omega), h1] at this
    exact UInt8.toNat_inj.1 this.symm
   have e2 : s.data.toList[i + 1]'(by omega) = 46 := by
    have := bAt_list (s := s) (i := i + 1) (by omega)
    rw [List.getElem?_eq_getElem (by omega), h2] at this
    exact UInt8.toNat_inj.1 this.symm
   rw [List.drop_eq_getElem_cons (by omega), List.drop_eq_getElem_cons (by omega), e1, e2]
   simp [List.isPrefixOf]
theorem occ2_no {s : ByteArray} {i : Nat} (h : ¬ (i + 1 < s.size /\ bAt s i = 46 /\ bAt s (i + 1) = 46)) : Lib.occAt s.data.toList [46, 46] i = false := by
 cases hh : Lib.occAt s.data.toList [46, 46] i with
 | false => rfl
 | true => exact absurd (occ2.1 hh) h
theorem dot_yes {s : ByteArray} {i : Nat} (h : ∀ j, j < i -> Lib.occAt s.data.toList [46, 46] j = false) (h1 : i + 1 < s.size /\ bAt s i = 46 /\ bAt s (i + 1) = 46) : dotI s = i :=
 Lib.index_first (by have := sz_len s; omega) (occ2.2 h1) h
theorem dot_no {s : ByteArray} {i : Nat} (h : ∀ j, j < i -> Lib.occAt s.data.toList [46, 46] j = false) (h1 : s.size <= i + 1) : dotI s = -1 :=
 Lib.index_none fun j _ => by
  rcases Nat.lt_or_ge j i with hj | hj
  . exact h j hj
  . exact occ2_no fun q => by omega
theorem step_no {s : ByteArray} {i : Nat} (h : ∀ j, j < i -> Lib.occAt s.data.toList [46, 46] j = false) (h1 : ¬ (bAt s i = 46 /\ bAt s (i + 1) = 46)) : ∀ j, j < i + 1 -> Lib.occAt s.data.toList [46, 46] j = false := fun j hj => by
 rcases Nat.lt_or_ge j i with q | q
 . exact h j q
 . obtain rfl : j = i := by omega
   exact occ2_no fun q => h1 q.2
def FRDots : List Ar -> Option Rs
 | [.c (.d (.v (.string x0)))] => some ⟨(x0.size < 4294967281), .va (.c (.d (it (dotI x0)))), []⟩
 | _ => none
theorem fcRDots : FC Tryz.prog 42 FRDots := by
 intro xs pre r us h hp
 unfold FRDots at h
 split at h
 . rename_i x0
   cases h
   have hp0 := hp
   refine fcat tys_ok (l := []) trivial Tryz.func42 rfl (by kernel_rfl) false ?_
   repeat' (first | exact trivial | refine ⟨?_, ?_⟩ | intro _)
   all_goals first | (with_reducible first | apply qa | apply qb | apply qc | apply qd) | (conv => whnf)
   refine loop_ids tys_ok (l := []) trivial (by kernel_rfl) (X := Nat) (fun i => ⟨[(3, vx (.int .i64 i)), (0, vx (.string x0))], [], 0, Tryz.f42.ntmps⟩) (fun i => x0.size - i) (fun i => i <= x0.size /\ ∀ j, j < i -> Lib.occAt x0.data.toList [46, 46] j = false) [] [] (fun x _ _ => x + 1) (fun _ => []) [] 0 0 0 ?_ ?_ ?_
   . exact ⟨Nat.zero_le _, fun j hj => absurd hj (Nat.not_lt_zero j)⟩
   . exact ⟨rfl, rfl, rfl, ⟨rfl, rfl, trivial⟩, trivial⟩
   . rintro i ⟨hi, hno⟩
     have hw : IntKind.wrap .i64 ((i : Int) + 1) = ((i + 1 : Nat) : Int) := by rw [wI_id _ (by omega) (by omega)]; omega
     rcases Nat.lt_or_ge (i + 1) x0.size with hi2 | hi2
     . have hne : decide (IntKind.wrap .i64 ((i : Int) + 1) < (x0.size : Int)) = true := decide_eq_true (by rw [hw]; omega)
       have hb1 : (0 : Int) <= (i : Int) /\ (i : Int) < (x0.size : Int) := by omega
       have hb2 : (0 : Int) <= IntKind.wrap .i64 ((i : Int) + 1) /\ IntKind.wrap .i64 ((i : Int) + 1) < (x0.size : Int) := by rw [hw]; omega
       have b1 : (byteAt x0 (Int.toNat (i : Int)) == 46) = true ↔ bAt x0 i = 46 := by rw [Int.toNat_natCast, byte_bAt (by omega), beq_iff_eq]; omega
       have b2 : (byteAt x0 (Int.toNat (IntKind.wrap .i64 ((i : Int) + 1))) == 46) = true ↔ bAt x0 (i + 1) = 46 := by rw [hw, Int.toNat_natCast, byte_bAt (by omega), beq_iff_eq]; omega
       cases hc1 : (byteAt x0 (Int.toNat (i : Int)) == 46) with
       | true =>
         cases hc2 : (byteAt x0 (Int.toNat (IntKind.wrap .i64 ((i : Int) + 1))) == 46) with
         | true =>
           have hv : dotI x0 = i := dot_yes hno ⟨hi2, b1.1 hc1, b2.1 hc2⟩
           repeat' (first | exact trivial | (with_reducible first | exact (fun (h : true = false) => absurd h (by decide)) | exact (fun (h : false = true) => absurd h (by decide)) | exact hb1.1 | exact hb1.2 | exact hb1 | exact hb2.1 | exact hb2.2 | exact hb2 | exact (fun h => absurd (hne.symm.trans h) (by decide)) | exact (fun h => absurd (hc1.symm.trans h) (by decide)) | exact (fun h => absurd (hc2.symm.trans h) (by decide))) | refine ⟨?_, ?_⟩ | intro _)
           all_goals first | (with_reducible first | apply qa | apply qb | apply qc | apply qd) | (conv => whnf)
           all_goals first | rfl | omega | (rw [hv]; done)
         | false =>
           have hst := step_no hno fun q => absurd (b2.2 q.2) (by rw [hc2]; decide)
           repeat' (first | exact trivial | (with_reducible first | exact (fun (h : true = false) => absurd h (by decide)) | exact (fun (h : false = true) => absurd h (by decide)) | exact hb1.1 | exact hb1.2 | exact hb1 | exact hb2.1 | exact hb2.2 | exact hb2 | exact (fun h => absurd (hne.symm.trans h) (by decide)) | exact (fun h => absurd (hc1.symm.trans h) (by decide)) | exact (fun h => absurd (hc2.symm.trans h) (by decide))) | refine ⟨?_, ?_⟩ | intro _)
           all_goals first | (with_reducible first | apply qa | apply qb | apply qc | apply qd) | (conv => whnf)
           all_goals (try dsimp only)
           all_goals first | rfl | omega | exact hst | (exact hst _ ‹_›) | (rw [hw]; done)
       | false =>
         have hst := step_no hno fun q => absurd (b1.2 q.1) (by rw [hc1]; decide)
         repeat' (first | exact trivial | (with_reducible first | exact (fun (h : true = false) => absurd h (by decide)) | exact (fun (h : false = true) => absurd h (by decide)) | exact hb1.1 | exact hb1.2 | exact hb1 | exact hb2.1 | exact hb2.2 | exact hb2 | exact (fun h => absurd (hne.symm.trans h) (by decide)) | exact (fun h => absurd (hc1.symm.trans h) (by decide))) | refine ⟨?_, ?_⟩ | intro _)
         all_goals first | (with_reducible first | apply qa | apply qb | apply qc | apply qd) | (conv => whnf)
         all_goals (try dsimp only)
         all_goals first | rfl | omega | exact hst | (exact hst _ ‹_›) | (rw [hw]; done)
     . have hne : decide (IntKind.wrap .i64 ((i : Int) + 1) < (x0.size : Int)) = false := decide_eq_false (by rw [hw]; omega)
       have hv : dotI x0 = -1 := dot_no hno (by omega)
       repeat' (first | exact trivial | (with_reducible exact (fun h => absurd (hne.symm.trans h) (by decide))) | refine ⟨?_, ?_⟩ | intro _)
       all_goals first | (with_reducible first | apply qa | apply qb | apply qc | apply qd) | (conv => whnf)
       all_goals first | rfl | omega | (rw [hv]; done)
 . cases h
theorem not_mem_of {s : ByteArray} {l : List UInt8} (hs : s = mkB l) {p q : Nat} (h : ∀ j, p <= j -> j < q -> bAt s j ≠ 32) (hq : q <= l.length) : (32 : UInt8) ∉ (l.drop p).take (q - p) := by
 subst hs
 intro hm
 obtain ⟨j, hj, e⟩ := List.mem_iff_getElem.1 hm
 rw [List.length_take, List.length_drop] at hj
 rw [List.getElem_take, List.getElem_drop] at e
 have h1 := h (p + j) (by omega) (by omega)
 rw [bAt_mk (by omega), e] at h1
 exact h1 rfl
theorem split_step {s : ByteArray} {p q : Nat} (hpq : p <= q) (hq : q <= s.size) (h : ∀ j, p <= j -> j < q -> bAt s j ≠ 32) (he : q = s.size \/ bAt s q = 32) :
 splitS (s.extract p s.size) = s.extract p q :: if q = s.size then [] else splitS (s.extract (q + 1) s.size) := by
 have hs : s = mkB s.data.toList := (mkB_of s).symm
 generalize hl : s.data.toList = l at hs
 have hsz : s.size = l.length := by rw [hs, mkB_sz]
 have hn := not_mem_of hs h (by omega)
 have e1 : s.extract p q = mkB ((l.drop p).take (q - p)) := by rw [hs, ext_mk]
 have e2 : s.extract p s.size = mkB (l.drop p) := by rw [hs, ext_mk, mkB_sz, List.take_of_length_le (by rw [List.length_drop]; exact Nat.le_refl _)]
 have e3 : s.extract (q + 1) s.size = mkB (l.drop (q + 1)) := by rw [hs, ext_mk, mkB_sz, List.take_of_length_le (by rw [List.length_drop]; exact Nat.le_refl _)]
 rw [e1, e2, e3]
 by_cases hqs : q = s.size
 . rw [if_pos hqs]
   have e4 : (l.drop p).take (q - p) = l.drop p := List.take_of_length_le (by rw [List.length_drop]; omega)
   rw [e4] at hn ⊢
   exact split_none hn
 . rw [if_neg hqs]
   have hb : bAt s q = 32 := by rcases he with h | h; exact absurd h hqs; exact h
   have hlt : q < l.length := by omega
   have hc : l[q] = 32 := by
    rw [hs, bAt_mk hlt] at hb
    apply UInt8.toNat_inj.1; exact hb
   have e4 : l.drop p = (l.drop p).take (q - p) ++ 32 :: l.drop (q + 1) := by
    conv => lhs; rw [<- List.take_append_drop (q - p) (l.drop p)]
    rw [List.drop_drop, show p + (q - p) = q by omega, List.drop_eq_getElem_cons hlt, hc]
   conv => lhs; rw [e4]
   exact split_app hn
theorem atS_snoc {l : List ByteArray} {s : ByteArray} {q : Nat} (h : q < l.length + 1) : appRow l.length (fun i => [st (atS l i)]) (fun i => Sx.rowAt 1 [DV.v (.string s)] (0 + i)) q = [st (atS (l ++ [s]) q)] := by
 unfold appRow
 by_cases hq : q < l.length
 . rw [if_pos hq]
   show [st (atS l q)] = [st (atS (l ++ [s]) q)]
   unfold atS
   rw [List.getD_eq_getElem?_getD, List.getD_eq_getElem?_getD, List.getElem?_append_left hq]
 . rw [if_neg hq]
   obtain rfl : q = l.length := by omega
   rw [Nat.sub_self]
   unfold atS
   rw [List.getD_eq_getElem?_getD, List.getElem?_append_right (Nat.le_refl _), Nat.sub_self]; rfl
theorem ext_same (s : ByteArray) (k : Nat) : s.extract k k = ⟨#[]⟩ := by
 exact ba_empty (by rw [ByteArray.size_extract]; omega)
theorem ext_snoc (s : ByteArray) {p i : Nat} (h : p <= i) (h2 : i + 1 <= s.size) : s.extract p i ++ s.extract i (i + 1) = s.extract p (i + 1) := by
 apply ByteArray.ext
 rw [ByteArray.data_append, ByteArray.data_extract, ByteArray.data_extract, ByteArray.data_extract, Array.extract_append_extract]
 congr 1 <;> omega
structure WpI where
 i : Nat
 p : Nat
 out : List ByteArray
structure WpI.ok (s : ByteArray) (x : WpI) : Prop where
 pi : x.p <= x.i
 len : x.out.length <= x.i
 le : x.i <= s.size
 mid : x.out ++ splitS (s.extract x.p s.size) = splitS s
 no : ∀ j, x.p <= j -> j < x.i -> bAt s j ≠ 32
def WpI.nx (s : ByteArray) (x : WpI) : WpI := if bAt s x.i = 32 then ⟨x.i + 1, x.i + 1, x.out ++ [s.extract x.p x.i]⟩ else ⟨x.i + 1, x.p, x.out⟩
theorem WpI.yes {s : ByteArray} {x : WpI} (h : bAt s x.i = 32) : x.nx s = ⟨x.i + 1, x.i + 1, x.out ++ [s.extract x.p x.i]⟩ := if_pos h
theorem WpI.not {s : ByteArray} {x : WpI} (h : bAt s x.i ≠ 32) : x.nx s = ⟨x.i + 1, x.p, x.out⟩ := if_neg h
theorem WpI.step {s : ByteArray} {x : WpI} (h : x.ok s) (hi : x.i < s.size) : (x.nx s).ok s := by
 obtain ⟨i, p, out⟩ := x
 obtain ⟨h1, h2, h3, h4, h5⟩ := h
 dsimp only at *
 unfold WpI.nx
 dsimp only
 split
 . rename_i hc
   have e := split_step h1 (by omega) h5 (.inr hc)
   rw [if_neg (by omega)] at e
   refine ⟨Nat.le_refl _, by dsimp only; rw [List.length_append]; simp; omega, by dsimp only; omega, ?_, fun j a b => by dsimp only at a b; omega⟩
   dsimp only
   rw [List.append_assoc, <- h4, e]; rfl
 . rename_i hc
   refine ⟨by dsimp only; omega, by dsimp only; omega, by dsimp only; omega, h4, fun j a b => ?_⟩
   dsimp only at a b
   rcases Nat.lt_or_ge j i with h | h
   . exact h5 j a h
   . rw [show j = i by omega]; exact hc
theorem WpI.fin {s : ByteArray} {x : WpI} (h : x.ok s) (hi : x.i = s.size) : x.out ++ [s.extract x.p x.i] = splitS s := by
 have e := split_step h.pi h.le h.no (.inl hi)
 rw [if_pos hi] at e
 rw [<- h.mid, e]
def FRWords : List Ar -> Option Rs
 | [.c (.d (.v (.string x0)))] => some ⟨(x0.size < 4294967281), .va (.c (.d (lst (splitS x0)))), []⟩
 | _ => none
theorem fcRWords : FC Tryz.prog 21 FRWords := by
 intro xs pre r us h hp
 unfold FRWords at h
 split at h
 . rename_i x0
   cases h
   have hp0 := hp
   refine fcat tys_ok (l := []) trivial Tryz.func21 rfl (by kernel_rfl) true ?_
   repeat' (first | exact trivial | refine ⟨?_, ?_⟩ | intro _)
   all_goals first | (with_reducible first | apply qa | apply qb | apply qc | apply qd) | (conv => whnf)
   refine loop_ids tys_ok (l := []) trivial (by kernel_rfl) (X := WpI)
    (fun x => ⟨[(5, vx (.int .i64 x.i)), (4, vx (.string (x0.extract x.p x.i))), (3, .va (.c (.osl 0 1 0 x.out.length))), (0, vx (.string x0))], [(0, .row 1 x.out.length fun i => [st (atS x.out i)])], 1, Tryz.f21.ntmps⟩)
    (fun x => x0.size - x.i) (fun x => x.ok x0) [3] []
    (fun x _ _ => x.nx x0) (fun xs => match xs with | [t] => [oI t] | _ => []) [] 0 1 ⟨0, 0, []⟩ ?_ ?_ ?_
   . exact ⟨Nat.le_refl _, Nat.le_refl _, Nat.zero_le _, by rw [ext_all]; rfl, fun j _ h => absurd h (Nat.not_lt_zero j)⟩
   . repeat' (first | exact trivial | exact rfl | (intro _ h; exact absurd h (Nat.not_lt_zero _)) | (intro _ _; exact rfl) | refine ⟨?_, ?_⟩ | fail)
     all_goals first | (exact congrArg Value.string (ext_same _ _).symm) | (simp; done)
   . rintro x hok
     have h1 := hok.pi
     have h2 := hok.len
     have h3 := hok.le
     rcases Nat.lt_or_ge x.i x0.size with hi | hi
     . have hne : decide ((x.i : Int) < (x0.size : Int)) = true := decide_eq_true (by omega)
       have hst := WpI.step hok hi
       have hw1 : IntKind.wrap .i64 ((x.i : Int) + 1) = ((x.i + 1 : Nat) : Int) := by rw [wI_id _ (by omega) (by omega)]; omega
       have hb1 : (0 : Int) <= (x.i : Int) /\ (x.i : Int) < (x0.size : Int) := by omega
       have hb2 : True := trivial
       have hes : (x0.extract x.p x.i).size <= x0.size := ext_sz _ _ _
       have hes2 : (x0.extract x.i (x.i + 1)).size <= x0.size := ext_sz _ _ _
       by_cases hb : bAt x0 x.i = 32
       . have hc1 : (byteAt x0 (Int.toNat (x.i : Int)) == 32) = true := by rw [Int.toNat_natCast, byte_bAt hi, hb]; rfl
         have hn := WpI.yes (s := x0) (x := x) hb
         rw [hn] at hst
         repeat' (first | exact trivial | (with_reducible first | exact (fun (h : true = false) => absurd h (by decide)) | exact (fun (h : false = true) => absurd h (by decide)) | exact hb1.1 | exact hb1.2 | exact hb1 | exact (fun h => absurd (hne.symm.trans h) (by decide)) | exact (fun h => absurd (hc1.symm.trans h) (by decide))) | refine ⟨?_, ?_⟩ | intro _)
         all_goals first | (with_reducible first | apply qa | apply qb | apply qc | apply qd) | (conv => whnf)
         all_goals first | omega | rfl | (dsimp only; rw [hn]; exact hst) | (dsimp only; rw [hn, hw1]; done) | (dsimp only; rw [hn]; dsimp only; omega) | (dsimp only; rw [hn, hw1]; rfl) | (dsimp only; rw [hn]; done) | (dsimp only; rw [hn]; rfl) | (dsimp only; rw [hn]; simp; done) | (dsimp only; rw [hn]; exact atS_snoc ‹_›) | (dsimp only; rw [hn]; exact congrArg Value.string (ext_same _ _).symm) | (dsimp only; rw [hn, hw1]; refine congrArg Value.string ?_; simp only [Int.toNat_natCast]; exact hsn) | (rw [i64max, hw1]; simp only [Int.toNat_natCast]; omega) | (rw [hw1]; omega)
       . have hc1 : (byteAt x0 (Int.toNat (x.i : Int)) == 32) = false := by rw [Int.toNat_natCast, byte_bAt hi]; exact beq_eq_false_iff_ne.2 (by omega)
         have hn := WpI.not (s := x0) (x := x) hb
         rw [hn] at hst
         have hsn := ext_snoc x0 h1 (by omega)
         repeat' (first | exact trivial | (with_reducible first | exact (fun (h : true = false) => absurd h (by decide)) | exact (fun (h : false = true) => absurd h (by decide)) | exact hb1.1 | exact hb1.2 | exact hb1 | exact (fun h => absurd (hne.symm.trans h) (by decide)) | exact (fun h => absurd (hc1.symm.trans h) (by decide))) | refine ⟨?_, ?_⟩ | intro _)
         all_goals first | (with_reducible first | apply qa | apply qb | apply qc | apply qd) | (conv => whnf)
         all_goals first | omega | rfl | (dsimp only; rw [hn]; exact hst) | (dsimp only; rw [hn, hw1]; done) | (dsimp only; rw [hn]; dsimp only; omega) | (dsimp only; rw [hn, hw1]; rfl) | (dsimp only; rw [hn]; done) | (dsimp only; rw [hn]; rfl) | (dsimp only; rw [hn]; simp; done) | (dsimp only; rw [hn]; exact atS_snoc ‹_›) | (dsimp only; rw [hn]; exact congrArg Value.string (ext_same _ _).symm) | (dsimp only; rw [hn, hw1]; refine congrArg Value.string ?_; simp only [Int.toNat_natCast]; exact hsn) | (rw [i64max, hw1]; simp only [Int.toNat_natCast]; omega) | (rw [hw1]; omega)
     . have hne : decide ((x.i : Int) < (x0.size : Int)) = false := decide_eq_false (by omega)
       have hfin := WpI.fin hok (by omega)
       have hfl := congrArg List.length hfin
       rw [List.length_append] at hfl
       have hfl : x.out.length + 1 = (splitS x0).length := hfl
       repeat' (first | exact trivial | (with_reducible exact (fun h => absurd (hne.symm.trans h) (by decide))) | refine ⟨?_, ?_⟩ | intro _)
       all_goals first | (with_reducible first | apply qa | apply qb | apply qc | apply qd) | (conv => whnf)
       all_goals first | rfl | omega | (intro q hq; dsimp only; rw [<- hfin, Nat.zero_add]; exact atS_snoc ‹_›) | (rename_i q hq; dsimp only; rw [<- hfin, Nat.zero_add q]; exact atS_snoc hq)
 . cases h
end Go.Proofs.YtakcacejpbiogaaGreatDoor
namespace Go.Proofs.YtakcacejpbiogaaGreatDoor
open Go.Sx
open Go.RowKit Go.Lib Go.Sort
theorem dropW_nil {α : Type} {p : α -> Bool} : ∀ {l : List α}, l.dropWhile p = [] ↔ ∀ x, x ∈ l -> p x = true
 | [] => by simp
 | a :: l => by
   rw [List.dropWhile_cons]
   cases h : p a with
   | true => rw [if_pos rfl, dropW_nil]; simp [h]
   | false => rw [if_neg (by simp)]; simp [h]
theorem dig_cont (x : UInt8) : digS.data.toList.contains x = digB (x.toNat : Int) := by
 have key : ∀ n, n < 256 -> digS.data.toList.contains (UInt8.ofNat n) = digB ((UInt8.ofNat n).toNat : Int) := by decide +kernel
 have := key x.toNat (UInt8.toNat_lt x)
 rwa [UInt8.ofNat_toNat] at this
abbrev dS (s : ByteArray) : ByteArray := trimP s ⟨#[45]⟩
def rnS (s : ByteArray) : Int × Int := (if numE s = 0 then numI s else 0, numE s)
theorem dS_cases (s : ByteArray) : (∃ r, s.data.toList = 45 :: r /\ (dS s).data.toList = r) \/ ((∀ r, s.data.toList ≠ 45 :: r) /\ dS s = s) := by
 have e : (dS s).data.toList = Lib.trimPrefix s.data.toList [45] := by show (Lib.trimPrefix s.data.toList [45]).toArray.toList = _; simp
 have e2 : dS s = mkB (Lib.trimPrefix s.data.toList [45]) := rfl
 cases hl : s.data.toList with
 | nil =>
   refine .inr ⟨fun r h => (by cases h), ?_⟩
   rw [e2, hl]
   show mkB [] = s
   rw [<- hl, mkB_of]
 | cons c r =>
   by_cases hc : c = 45
   . subst hc
     refine .inl ⟨r, rfl, ?_⟩
     rw [e, hl]; simp [Lib.trimPrefix, Lib.hasPrefix]
   . refine .inr ⟨fun r' h => hc (by injection h), ?_⟩
     rw [e2, hl]
     have : Lib.trimPrefix (c :: r) [45] = c :: r := by
      unfold Lib.trimPrefix Lib.hasPrefix
      rw [if_neg]; simp [List.isPrefixOf, Ne.symm hc]
     rw [this, <- hl, mkB_of]
theorem nB_iff {s : ByteArray} : nB s = true ↔ ∀ j, j < (dS s).size -> digB (bAt (dS s) j) = true := by
 unfold nB
 rw [seq_iff]
 have e1 : trimD (dS s) ⟨#[48, 49, 50, 51, 52, 53, 54, 55, 56, 57]⟩ = ⟨#[]⟩ ↔ Lib.trimS (dS s).data.toList digS.data.toList = [] := by
  constructor
  . intro h; have := congrArg (fun x : ByteArray => x.data.toList) h; show Lib.trimS (dS s).data.toList [48, 49, 50, 51, 52, 53, 54, 55, 56, 57] = []; simpa [trimD] using this
  . intro h
    show ByteArray.mk (Lib.trimS (dS s).data.toList digS.data.toList).toArray = _
    rw [h]
 rw [decide_eq_true_eq, e1]
 generalize dS s = d
 unfold Lib.trimS Lib.trimLeftS Lib.trimRightS
 have key : ((d.data.toList.reverse.dropWhile (digS.data.toList.contains ·)).reverse.dropWhile (digS.data.toList.contains ·) = []) ↔ ∀ x, x ∈ d.data.toList -> digS.data.toList.contains x = true := by
  constructor
  . intro h
    have h2 := dropW_nil.1 h
    cases hm : d.data.toList.reverse.dropWhile (digS.data.toList.contains ·) with
    | nil =>
      intro x hx
      exact dropW_nil.1 hm x (List.mem_reverse.2 hx)
    | cons y t =>
      have h3 := h2 y (by rw [hm]; simp)
      have h4 : (d.data.toList.reverse.dropWhile (digS.data.toList.contains ·)).head? = some y := by rw [hm]; rfl
      have h5 := List.head?_dropWhile_not (p := fun x => digS.data.toList.contains x) (l := d.data.toList.reverse)
      rw [h4] at h5
      simp only at h5
      rw [h3] at h5; cases h5
  . intro h
    have : d.data.toList.reverse.dropWhile (digS.data.toList.contains ·) = [] := dropW_nil.2 fun x hx => h x (List.mem_reverse.1 hx)
    rw [this]; rfl
 rw [key]
 constructor
 . intro h j hj
   have hj2 : j < d.data.toList.length := by rw [sz_len]; exact hj
   have := h _ (List.getElem_mem hj2)
   rw [dig_cont] at this
   rw [bAt_list hj, List.getElem?_eq_getElem hj2]; exact this
 . intro h x hx
   obtain ⟨j, hj, rfl⟩ := List.mem_iff_getElem.1 hx
   have hj' : j < d.size := by rw [<- sz_len]; exact hj
   have := h j hj'
   rw [bAt_list hj', List.getElem?_eq_getElem hj] at this
   rw [dig_cont]; exact this
theorem atoi_neg {r : List UInt8} (hl : r ≠ []) (hc : ∀ c, c ∈ r -> 48 <= c.toNat /\ c.toNat <= 57) : Lib.atoiAll (45 :: r) = if vL 0 r <= 9223372036854775808 then .ok (-((vL 0 r : Nat) : Int)) else .range := by
 unfold Lib.atoiAll
 dsimp only
 have h45 : (45 : UInt8).toNat = 45 := rfl
 have hp : parseMag r = if vL 0 r < 18446744073709551616 then .ok (vL 0 r) else .range := by
  unfold parseMag
  rw [if_neg hl]; exact parse_dig _ 0 hc (by omega)
 rw [if_pos (.inr h45), hp]
 by_cases h : vL 0 r < 18446744073709551616
 . rw [if_pos h]
   dsimp only
   rw [if_neg (by simp [h45])]
   by_cases h2 : vL 0 r <= 9223372036854775808
   . rw [if_neg (by omega), if_pos h45, if_pos h2]
   . rw [if_pos ⟨h45, by omega⟩, if_neg h2]
 . rw [if_neg h, if_neg (by omega)]
section
variable {s : ByteArray}
theorem rn_three (h : numE s = 3) : rnS s = (0, 3) := by unfold rnS; rw [h]; rfl
theorem rn_empty (h : (dS s).size = 0) : rnS s = (0, 3) := rn_three (numE_three fun q => by have := nA_pos q.1; have h : (trimP s ⟨#[45]⟩).size = 0 := h; omega)
theorem rn_zero (h : byteAt (dS s) (Int.toNat 0) = 48) (hs : s ≠ ⟨#[48]⟩) : rnS s = (0, 3) := rn_three (numE_three fun q => by
 rcases q.2.2 with h1 | h1
 . unfold nC at h1; rw [h] at h1; exact absurd h1 (by decide)
 . unfold nZ at h1; rw [seq_iff, decide_eq_true_eq] at h1; exact hs h1)
theorem rn_bad {j : Nat} (hj : j < (dS s).size) (h : digB (bAt (dS s) j) = false) : rnS s = (0, 3) := rn_three (numE_three fun q => by
 have := nB_iff.1 q.2.1 j hj
 rw [h] at this; cases this)
structure DigW (s : ByteArray) : Prop where
 ne : (dS s).size ≠ 0
 z : byteAt (dS s) (Int.toNat 0) ≠ 48 \/ s = ⟨#[48]⟩
 d : ∀ j, j < (dS s).size -> digB (bAt (dS s) j) = true
theorem DigW.num (h : DigW s) : numE s = match Lib.atoiAll s.data.toList with
 | .ok _ => 0
 | _ => 4 := by
 unfold numE
 have h1 : nA s = true := by
  unfold nA
  rw [seq_iff]
  have : dS s ≠ ⟨#[]⟩ := fun e => h.ne (by rw [e]; rfl)
  simpa using this
 have h3 : nC s = true \/ nZ s = true := by
  rcases h.z with h | h
  . exact .inl (by unfold nC; exact bne_iff_ne.2 h)
  . exact .inr (by unfold nZ; rw [seq_iff]; exact decide_eq_true h)
 exact if_pos (by simpa only [Bool.and_eq_true, Bool.or_eq_true] using And.intro h1 (And.intro (nB_iff.2 h.d) h3))
theorem DigW.list (h : DigW s) : (dS s).data.toList ≠ [] /\ ∀ c, c ∈ (dS s).data.toList -> 48 <= c.toNat /\ c.toNat <= 57 :=
 ⟨fun e => h.ne (by have := sz_len (dS s); rw [e] at this; exact this.symm), dig_all h.d⟩
theorem rn_neg (h : DigW s) (r : List UInt8) (hr : s.data.toList = 45 :: r) : rnS s = if vS (dS s) (dS s).size <= 9223372036854775808 then (-((vS (dS s) (dS s).size : Nat) : Int), 0) else (0, 4) := by
 have hm : (dS s).data.toList = r := by
  rcases dS_cases s with ⟨r', h1, h2⟩ | ⟨h1, _⟩
  . rw [hr] at h1; injection h1 with _ h1; rw [h2, h1]
  . exact absurd hr (h1 r)
 obtain ⟨l1, l2⟩ := h.list
 rw [hm] at l1 l2
 have ha := atoi_neg l1 l2
 rw [vS_all, hm]
 have hn := h.num
 rw [hr, ha] at hn
 unfold rnS
 by_cases hv : vL 0 r <= 9223372036854775808
 . rw [if_pos hv] at hn ha ⊢
   have hn : numE s = 0 := hn
   rw [hn, if_pos rfl]
   unfold numI
   rw [hr, ha]
 . rw [if_neg hv] at hn ⊢
   have hn : numE s = 4 := hn
   rw [hn, if_neg (by decide)]
theorem rn_pos (h : DigW s) (hr : ∀ r, s.data.toList ≠ 45 :: r) : rnS s = if vS (dS s) (dS s).size <= 9223372036854775807 then (((vS (dS s) (dS s).size : Nat) : Int), 0) else (0, 4) := by
 have hm : dS s = s := by
  rcases dS_cases s with ⟨r', h1, h2⟩ | ⟨_, h1⟩
  . exact absurd h1 (hr r')
  . exact h1
 obtain ⟨l1, l2⟩ := h.list
 have hn := h.num
 rw [hm] at l1 l2 ⊢
 have ha := atoi_dig l1 l2
 rw [vS_all]
 rw [ha] at hn
 unfold rnS
 by_cases hv : vL 0 s.data.toList <= 9223372036854775807
 . rw [if_pos hv] at hn ha ⊢
   have hn : numE s = 0 := hn
   rw [hn, if_pos rfl]
   unfold numI
   rw [ha]
 . rw [if_neg hv] at hn ⊢
   have hn : numE s = 4 := hn
   rw [hn, if_neg (by decide)]
end
end Go.Proofs.YtakcacejpbiogaaGreatDoor
namespace Go.Proofs.YtakcacejpbiogaaGreatDoor
open Go.Sx
open Go.RowKit Go.Lib Go.Sort
theorem take_mk (s : ByteArray) (i : Nat) : (⟨(s.data.toList.take i).toArray⟩ : ByteArray) = s.extract 0 i := by
 conv => rhs; rw [<- mkB_of s, ext_mk, List.drop_zero, Nat.sub_zero]
 rfl
theorem drop_mk (s : ByteArray) (i : Nat) : (⟨(s.data.toList.drop i).toArray⟩ : ByteArray) = s.extract i s.size := by
 conv => rhs; rw [<- mkB_of s, ext_mk, mkB_sz]
 rw [List.take_of_length_le (by rw [List.length_drop]; exact Nat.le_refl _)]; rfl
theorem vL_pos {c : UInt8} {t : List UInt8} (h : 48 < c.toNat) : 0 < vL 0 (c :: t) := by
 have := vL_ge t (0 * 10 + (c.toNat - 48))
 show 0 < vL (0 * 10 + (c.toNat - 48)) t
 omega
theorem dd_back : ∀ (n : Nat) (r : List UInt8), r.length = n -> r ≠ [] -> (∀ c, c ∈ r -> 48 <= c.toNat /\ c.toNat <= 57) -> ((∀ c t, r = c :: t -> c.toNat ≠ 48) \/ r.length = 1) -> decDigits (vL 0 r) = r := by
 intro n
 induction n with
 | zero => intro r hn hr; exact absurd (List.eq_nil_of_length_eq_zero hn) hr
 | succ n ih =>
   intro r hn hr hd hh
   rcases List.eq_nil_or_concat r with rfl | ⟨r', c, rfl⟩
   . exact absurd rfl hr
   rw [List.concat_eq_append] at *
   have hc := hd c (by simp)
   have hcc : UInt8.ofNat (48 + (c.toNat - 48)) = c := by
    rw [show 48 + (c.toNat - 48) = c.toNat by omega]; exact UInt8.ofNat_toNat
   by_cases h0 : r' = []
   . subst h0
     rw [List.nil_append]
     have e : vL 0 [c] = c.toNat - 48 := by show 0 * 10 + (c.toNat - 48) = _; omega
     rw [e, dd_small (by omega), hcc]
   . have hl : r'.length = n := by rw [List.length_append] at hn; simp at hn; exact hn
     have hh' : ∀ x t, r' = x :: t -> x.toNat ≠ 48 := by
      rcases hh with h | h
      . intro x t e; exact h x (t ++ [c]) (by rw [e]; rfl)
      . exfalso
        rw [List.length_append] at h
        simp at h
        exact h0 h
     have hi := ih r' hl h0 (fun x hx => hd x (by simp [hx])) (.inl hh')
     have hp : 0 < vL 0 r' := by
      cases r' with
      | nil => exact absurd rfl h0
      | cons x t =>
        have h1 := hd x (by simp)
        have h2 := hh' x t rfl
        exact vL_pos (by omega)
     rw [vL_snoc, dd_big (by omega), show (vL 0 r' * 10 + (c.toNat - 48)) / 10 = vL 0 r' by omega, show (vL 0 r' * 10 + (c.toNat - 48)) % 10 = c.toNat - 48 by omega, hi, hcc]
theorem rn_ok {s : ByteArray} {v : Int} (h : rnS s = (v, 0)) : numE s = 0 /\ numI s = v := by
 unfold rnS at h
 injection h with h1 h2
 rw [if_pos h2] at h1
 exact ⟨h2, h1⟩
theorem byteAt_list {s : ByteArray} {c : UInt8} {t : List UInt8} (h : s.data.toList = c :: t) : byteAt s (Int.toNat 0) = (c.toNat : Int) := by
 have hs : 0 < s.size := by rw [<- sz_len, h]; simp
 rw [show Int.toNat 0 = 0 from rfl, byte_bAt hs, bAt_list hs, h]; rfl
theorem digW_of {s : ByteArray} (hn : (dS s).data.toList ≠ []) (hd : ∀ c, c ∈ (dS s).data.toList -> 48 <= c.toNat /\ c.toNat <= 57) (hz : (∀ c t, (dS s).data.toList = c :: t -> c.toNat ≠ 48) \/ s = ⟨#[48]⟩) : DigW s where
 ne := by rw [<- sz_len]; intro e; exact hn (List.eq_nil_of_length_eq_zero e)
 z := by
  rcases hz with h | h
  . left
    cases hl : (dS s).data.toList with
    | nil => exact absurd hl hn
    | cons c t => rw [byteAt_list hl]; have := h c t hl; omega
  . exact .inr h
 d := fun j hj => by
  have hj2 : j < (dS s).data.toList.length := by rw [sz_len]; exact hj
  have := hd _ (List.getElem_mem hj2)
  rw [bAt_list hj, List.getElem?_eq_getElem hj2]
  unfold digB
  rw [decide_eq_true_eq]
  show (48 : Int) <= (((dS s).data.toList[j]).toNat : Nat) /\ ((((dS s).data.toList[j]).toNat : Nat) : Int) <= 57
  omega
theorem itoa_list (n : Int) : (itoaS n).data.toList = Lib.itoa n := by show (Lib.itoa n).toArray.toList = _; simp
theorem num_itoa {n : Int} (h : rI n) : numE (itoaS n) = 0 /\ numI (itoaS n) = n := by
 unfold rI at h
 apply rn_ok
 by_cases hn : n < 0
 . have hl : (itoaS n).data.toList = 45 :: decDigits n.natAbs := by rw [itoa_list]; unfold Lib.itoa; rw [if_pos hn]
   have hd : (dS (itoaS n)).data.toList = decDigits n.natAbs := by
    rcases dS_cases (itoaS n) with ⟨r, h1, h2⟩ | ⟨h1, _⟩
    . rw [hl] at h1; injection h1 with _ h1; rw [h2, h1]
    . exact absurd hl (h1 _)
   have hw : DigW (itoaS n) := digW_of (by rw [hd]; exact dd_ne _) (by rw [hd]; exact dd_dig _) (.inl fun c t e => dd_head n.natAbs (by omega) c t (by rw [<- hd]; exact e))
   rw [rn_neg hw _ hl, vS_all, hd, dd_val, if_pos (by omega)]
   congr 1; omega
 . have hl : (itoaS n).data.toList = decDigits n.toNat := by rw [itoa_list]; unfold Lib.itoa; rw [if_neg hn]
   have hno : ∀ r, (itoaS n).data.toList ≠ 45 :: r := fun r e => by
    have := dd_dig n.toNat 45 (by rw [<- hl, e]; exact List.mem_cons_self)
    have h45 : (45 : UInt8).toNat = 45 := rfl
    omega
   have hd : dS (itoaS n) = itoaS n := by
    rcases dS_cases (itoaS n) with ⟨r, h1, _⟩ | ⟨_, h2⟩
    . exact absurd h1 (hno _)
    . exact h2
   have hw : DigW (itoaS n) := digW_of (by rw [hd, hl]; exact dd_ne _) (by rw [hd, hl]; exact dd_dig _) (by
    by_cases h0 : n = 0
    . right; subst h0
      rw [itoa_mk]
      unfold Lib.itoa
      rw [if_neg (by omega), show Int.toNat 0 = 0 from rfl, dd_small (by omega)]; rfl
    . left
      rw [hd, hl]
      exact dd_head n.toNat (by omega))
   rw [rn_pos hw hno, vS_all, hd, hl, dd_val, if_pos (by omega)]
   congr 1; omega
theorem num_digW {s : ByteArray} (h : numE s = 0) : DigW s := by
 obtain ⟨hA, hB, hCZ⟩ := numE_frm (s := s) (by rw [h]; decide)
 have hp := nA_pos hA
 have hd := nB_iff.1 hB
 refine ⟨by have : 0 < ((dS s).size : Int) := hp; omega, ?_, hd⟩
 rcases hCZ with h1 | h1
 . unfold nC at h1; exact .inl (bne_iff_ne.1 h1)
 . unfold nZ at h1; rw [seq_iff] at h1; exact .inr (of_decide_eq_true h1)
theorem num_back {s : ByteArray} (h : numE s = 0) : s = itoaS (numI s) /\ rI (numI s) := by
 have hw := num_digW h
 obtain ⟨l1, l2⟩ := hw.list
 have hrn : rnS s = (numI s, 0) := by unfold rnS; rw [h, if_pos rfl]
 have hz : (∀ c t, (dS s).data.toList = c :: t -> c.toNat ≠ 48) \/ s = ⟨#[48]⟩ := by
  rcases hw.z with h1 | h1
  . left
    intro c t e
    rw [byteAt_list e] at h1; omega
  . exact .inr h1
 unfold rI
 rw [itoa_mk]
 unfold Lib.itoa
 rcases dS_cases s with ⟨r, h1, h2⟩ | ⟨h1, h2⟩
 . have hv := rn_neg hw r h1
   rw [hrn, vS_all, h2] at hv
   rw [h2] at l1 l2 hz
   have hz : ∀ c t, r = c :: t -> c.toNat ≠ 48 := by
    rcases hz with h3 | h3
    . exact h3
    . rw [h3] at h1; cases h1
   have hb := dd_back _ r rfl l1 l2 (.inl hz)
   have hp : 0 < vL 0 r := by
    cases r with
    | nil => exact absurd rfl l1
    | cons x t =>
      have h3 := l2 x List.mem_cons_self
      have h4 := hz x t rfl
      exact vL_pos (by omega)
   by_cases hq : vL 0 r <= 9223372036854775808
   . rw [if_pos hq] at hv
     injection hv with hv _
     rw [hv, if_pos (by omega)]
     refine ⟨?_, by omega, by omega⟩
     rw [show (-((vL 0 r : Nat) : Int)).natAbs = vL 0 r by omega, hb, <- h1, mkB_of]
   . rw [if_neg hq] at hv
     injection hv with _ hv
     exact absurd hv (by decide)
 . have hv := rn_pos hw h1
   rw [hrn, vS_all, h2] at hv
   rw [h2] at l1 l2 hz
   have hb := dd_back _ s.data.toList rfl l1 l2 (hz.imp id fun e => by rw [e]; rfl)
   by_cases hq : vL 0 s.data.toList <= 9223372036854775807
   . rw [if_pos hq] at hv
     injection hv with hv _
     rw [hv, if_neg (by omega)]
     refine ⟨?_, by omega, by omega⟩
     rw [show (((vL 0 s.data.toList : Nat) : Int)).toNat = vL 0 s.data.toList by omega, hb, mkB_of]
   . rw [if_neg hq] at hv
     injection hv with _ hv
     exact absurd hv (by decide)
theorem itoa_chr {n : Int} {c : UInt8} (h : c ∈ Lib.itoa n) : c.toNat = 45 \/ (48 <= c.toNat /\ c.toNat <= 57) := by
 unfold Lib.itoa at h
 split at h
 . rcases List.mem_cons.1 h with rfl | h
   . exact .inl rfl
   . exact .inr (dd_dig _ _ h)
 . exact .inr (dd_dig _ _ h)
theorem split_join : ∀ (L : List ByteArray), L ≠ [] -> (∀ x, x ∈ L -> (32 : UInt8) ∉ x.data.toList) -> splitS (joinS L blS) = L
 | [], h, _ => absurd rfl h
 | [x], _, h => by
   have e : joinS [x] blS = x := by
    show mkB (Lib.join [x.data.toList] blS.data.toList) = x
    rw [Lib.join_one, mkB_of]
   rw [e]
   have := split_none (h x (by simp))
   rwa [mkB_of] at this
 | x :: y :: L, _, h => by
   have e : joinS (x :: y :: L) blS = mkB (x.data.toList ++ 32 :: (joinS (y :: L) blS).data.toList) := by
    have : (joinS (y :: L) blS).data.toList = Lib.join ((y :: L).map (·.data.toList)) blS.data.toList := by
     show (Lib.join ((y :: L).map (·.data.toList)) blS.data.toList).toArray.toList = _; simp
    rw [this]
    show mkB (Lib.join ((x :: y :: L).map (·.data.toList)) blS.data.toList) = _
    simp [Lib.join, blS]
   rw [e, split_app (h x (by simp)), mkB_of, mkB_of, split_join (y :: L) (by simp) fun z hz => h z (by simp [hz])]
theorem join_split (n : Nat) : ∀ s : ByteArray, s.size <= n -> joinS (splitS s) blS = s := by
 induction n using Nat.strongRecOn with
 | ind n ih =>
   intro s hs
   rcases parts s with ⟨a, rfl, h⟩ | ⟨a, b, rfl, h⟩
   . rw [split_none h]
     show mkB (Lib.join [(mkB a).data.toList] blS.data.toList) = _
     rw [Lib.join_one, mkB_of]
   . rw [split_app h]
     rw [mkB_sz] at hs
     simp only [List.length_append, List.length_cons] at hs
     have hb := ih b.length (by omega) (mkB b) (by rw [mkB_sz]; exact Nat.le_refl _)
     obtain ⟨y, L, e⟩ := split_ne (mkB b)
     rw [e] at hb ⊢
     have hb : mkB (Lib.join ((y :: L).map (·.data.toList)) blS.data.toList) = mkB b := hb
     show mkB (Lib.join ((mkB a :: y :: L).map (·.data.toList)) blS.data.toList) = _
     have hj : Lib.join ((y :: L).map (·.data.toList)) blS.data.toList = b := by
      have := congrArg (fun x : ByteArray => x.data.toList) hb
      simpa [mkB] using this
     have e2 : Lib.join ((mkB a :: y :: L).map (·.data.toList)) blS.data.toList = (mkB a).data.toList ++ 32 :: Lib.join ((y :: L).map (·.data.toList)) blS.data.toList := by
      simp [Lib.join, blS]
     rw [e2, hj]
     have e3 : (mkB a).data.toList = a := List.toList_toArray ..
     rw [e3]
end Go.Proofs.YtakcacejpbiogaaGreatDoor
namespace Go.Proofs.YtakcacejpbiogaaGreatDoor
open Go.Sx
open Go.RowKit Go.Lib Go.Sort
theorem wrap8 {n : Int} (h0 : 0 <= n) (h1 : n < 256) : IntKind.wrap .u8 n = n := by
 have : IntKind.wrap .u8 n = n % 256 := rfl
 rw [this]; omega
theorem num_walk {s d : ByteArray} {b : Bool} (hd : d = dS s) (hsz : d.size <= 4294967281) (hb : b = true -> ∃ r, s.data.toList = 45 :: r) (hb0 : b = false -> ∀ r, s.data.toList ≠ 45 :: r)
 {Q : Exit -> St -> Prop} (hQ0 : ∀ st, lookT st.tmps 2 = vx (.int .i64 (rnS s).1) -> lookT st.tmps 3 = vx (.int .i64 (rnS s).2) -> Q .ret st) :
 ASat Tryz.prog 0 (sndC (sndC (sndC (sndC (Option.get Tryz.f43.body rfl))))) ⟨[(0, vx (.string s)), (4, vx (.bool b)), (5, vx (.string d))], [], 0, Tryz.f43.ntmps⟩ Q := by
 cases h1 : (d.toList == (⟨#[]⟩ : ByteArray).toList) with
 | true =>
   have hr : rnS s = (0, 3) := rn_empty (by rw [<- hd]; rw [seq_iff] at h1; rw [of_decide_eq_true h1]; rfl)
   refine ASat.vc tys_ok (l := []) trivial (by kernel_rfl) ?_
   repeat' (first | exact trivial | (with_reducible first | exact (fun (h : true = false) => absurd h (by decide)) | exact (fun (h : false = true) => absurd h (by decide)) | exact (fun h => absurd (h1.symm.trans h) (by decide))) | refine ⟨?_, ?_⟩ | intro _)
   all_goals first | (with_reducible first | apply qa | apply qb | apply qc | apply qd) | (conv => whnf)
   all_goals first | (refine hQ0 _ ?_ ?_ <;> (rw [hr]; rfl)) | omega
 | false =>
   have hne0 : d.size ≠ 0 := fun e => by rw [seq_iff] at h1; exact of_decide_eq_false h1 (ba_empty e)
   have hp0 : (0 : Int) <= 0 /\ (0 : Int) < (d.size : Int) := by omega
   have hbad : ∀ i, i < d.size -> digB (bAt d i) = false -> rnS s = (0, 3) := fun i hi h => rn_bad (s := s) (j := i) (by rw [<- hd]; exact hi) (by rw [<- hd]; exact h)
   cases h2 : (byteAt d (Int.toNat 0) == 48) with
   | true =>
     cases h3 : (!(s.toList == (⟨#[48]⟩ : ByteArray).toList)) with
     | true =>
       have hr : rnS s = (0, 3) := rn_zero (by rw [<- hd]; exact eq_of_beq h2) (by
        rw [seq_iff] at h3
        have h3 : ¬ s = ⟨#[48]⟩ := by simpa using h3
        exact h3)
       refine ASat.vc tys_ok (l := []) trivial (by kernel_rfl) ?_
       repeat' (first | exact trivial | (with_reducible first | exact (fun (h : true = false) => absurd h (by decide)) | exact (fun (h : false = true) => absurd h (by decide)) | exact (fun h => absurd (h1.symm.trans h) (by decide)) | exact (fun h => absurd (h2.symm.trans h) (by decide)) | exact (fun h => absurd (h3.symm.trans h) (by decide)) | exact hp0 | exact hp0.1 | exact hp0.2) | refine ⟨?_, ?_⟩ | intro _)
       all_goals first | (with_reducible first | apply qa | apply qb | apply qc | apply qd) | (conv => whnf)
       all_goals first | (refine hQ0 _ ?_ ?_ <;> (rw [hr]; rfl)) | omega
     | false =>
       have hz : byteAt (dS s) (Int.toNat 0) ≠ 48 \/ s = ⟨#[48]⟩ := .inr (by
        have h4 : (s.toList == (⟨#[48]⟩ : ByteArray).toList) = true := by simpa using h3
        rw [seq_iff] at h4; exact of_decide_eq_true h4)
       refine ASat.vc tys_ok (l := []) trivial (by kernel_rfl) ?_
       repeat' (first | exact trivial | (with_reducible first | exact (fun (h : true = false) => absurd h (by decide)) | exact (fun (h : false = true) => absurd h (by decide)) | exact (fun h => absurd (h1.symm.trans h) (by decide)) | exact (fun h => absurd (h2.symm.trans h) (by decide)) | exact (fun h => absurd (h3.symm.trans h) (by decide)) | exact hp0 | exact hp0.1 | exact hp0.2) | refine ⟨?_, ?_⟩ | intro _)
       all_goals first | (with_reducible first | apply qa | apply qb | apply qc | apply qd) | (conv => whnf)
       refine loop_ok tys_ok (l := []) trivial (by kernel_rfl) (X := Nat)
        (fun i => ⟨[(6, vx (.int .i64 i)), (4, vx (.bool b)), (5, vx (.string d))], [], 0, Tryz.f43.ntmps⟩)
        (fun i => d.size - i) (fun i => i <= d.size /\ ∀ j, j < i -> digB (bAt d j) = true) [] []
        (fun i _ _ => i + 1) [] [] 0 0 0 ?_ ?_ ?_
       . exact ⟨Nat.zero_le _, fun j h => absurd h (Nat.not_lt_zero j)⟩
       . repeat' (first | exact trivial | exact rfl | refine ⟨?_, ?_⟩ | fail)
       . rintro i ⟨k1, k2⟩
         rcases Nat.lt_or_ge i d.size with hi | hi
         . have hne : decide ((i : Int) < (d.size : Int)) = true := decide_eq_true (by omega)
           have hib : (0 : Int) <= (i : Int) /\ (i : Int) < (d.size : Int) := by omega
           have hby : byteAt d (Int.toNat (i : Int)) = (bAt d i : Nat) := byte_bAt hi
           cases hg : digB (bAt d i) with
           | false =>
             have hgd : ¬ (48 <= bAt d i /\ bAt d i <= 57) := by unfold digB at hg; rw [decide_eq_false_iff_not] at hg; omega
             have hr := hbad i hi hg
             repeat' (first | exact trivial | (with_reducible first | exact (fun (h : true = false) => absurd h (by decide)) | exact (fun (h : false = true) => absurd h (by decide)) | exact (fun h => absurd (hne.symm.trans h) (by decide)) | exact hib) | refine ⟨?_, ?_⟩ | intro _)
             all_goals first | (with_reducible first | apply qa | apply qb | apply qc | apply qd) | (conv => whnf)
             all_goals (try simp only [hby, decide_eq_true_eq, decide_eq_false_iff_not, gt_iff_lt] at *)
             all_goals first | omega | (refine hQ0 _ ?_ ?_ <;> (rw [hr]; rfl))
           | true =>
             have hgd : 48 <= bAt d i /\ bAt d i <= 57 := by unfold digB at hg; rw [decide_eq_true_eq] at hg; omega
             have hn : ∀ j, j < i + 1 -> digB (bAt d j) = true := fun j hj => by
              rcases Nat.lt_or_ge j i with h | h
              . exact k2 j h
              . rw [show j = i by omega]; exact hg
             repeat' (first | exact trivial | (with_reducible first | exact (fun (h : true = false) => absurd h (by decide)) | exact (fun (h : false = true) => absurd h (by decide)) | exact (fun h => absurd (hne.symm.trans h) (by decide)) | exact hib) | refine ⟨?_, ?_⟩ | intro _)
             all_goals first | (with_reducible first | apply qa | apply qb | apply qc | apply qd) | (conv => whnf)
             all_goals (try simp only [hby, decide_eq_true_eq, decide_eq_false_iff_not, gt_iff_lt] at *)
             all_goals first | omega | rfl | exact hn | exact hn _ ‹_› | (rw [wI_id _ (by omega) (by omega)]; first | rfl | omega | (congr 1; omega)) | (dsimp only; (rw [wI_id _ (by omega) (by omega)]; first | rfl | omega | (congr 1; omega)))
         . have hne : decide ((i : Int) < (d.size : Int)) = false := decide_eq_false (by omega)
           obtain rfl : i = d.size := by omega
           have hall := k2
           clear hi k1 k2 hbad
           have hdw : DigW s := ⟨by rw [<- hd]; exact hne0, hz, by rw [<- hd]; exact hall⟩
           have hbig : 9223372036854775808 < vS d d.size -> rnS s = (0, 4) := fun h => by
            cases b with
            | true => obtain ⟨r, hr⟩ := hb rfl; rw [rn_neg hdw r hr, <- hd, if_neg (by omega)]
            | false => rw [rn_pos hdw (hb0 rfl), <- hd, if_neg (by omega)]
           have hneg : b = true -> vS d d.size <= 9223372036854775808 -> rnS s = (-((vS d d.size : Nat) : Int), 0) := fun h q => by
            obtain ⟨r, hr⟩ := hb h; rw [rn_neg hdw r hr, <- hd, if_pos q]
           have hpos : b = false -> vS d d.size <= 9223372036854775807 -> rnS s = (((vS d d.size : Nat) : Int), 0) := fun h q => by
            rw [rn_pos hdw (hb0 h), <- hd, if_pos q]
           have hpos2 : b = false -> 9223372036854775807 < vS d d.size -> rnS s = (0, 4) := fun h q => by
            rw [rn_pos hdw (hb0 h), <- hd, if_neg (by omega)]
           repeat' (first | exact trivial | (with_reducible exact (fun h => absurd (hne.symm.trans h) (by decide))) | refine ⟨?_, ?_⟩ | intro _)
           all_goals first | (with_reducible first | apply qa | apply qb | apply qc | apply qd) | (conv => whnf)
           refine loop_ok tys_ok (l := []) trivial (by kernel_rfl) (X := Nat)
            (fun i => ⟨[(8, vx (.int .i64 i)), (7, vx (.int .i64 (-((vS d i : Nat) : Int)))), (4, vx (.bool b)), (5, vx (.string d))], [], 0, Tryz.f43.ntmps⟩)
            (fun i => d.size - i) (fun i => i <= d.size /\ vS d i <= 9223372036854775808) [] []
            (fun i _ _ => i + 1) [] [] 0 0 0 ?_ ?_ ?_
           . exact ⟨Nat.zero_le _, Nat.zero_le _⟩
           . repeat' (first | exact trivial | exact rfl | refine ⟨?_, ?_⟩ | fail)
           . rintro i ⟨k1, k2⟩
             rcases Nat.lt_or_ge i d.size with hi | hi
             . have hne : decide ((i : Int) < (d.size : Int)) = true := decide_eq_true (by omega)
               have hib : (0 : Int) <= (i : Int) /\ (i : Int) < (d.size : Int) := by omega
               have hby : byteAt d (Int.toNat (i : Int)) = (bAt d i : Nat) := byte_bAt hi
               have hdg := hall i hi
               unfold digB at hdg
               rw [decide_eq_true_eq] at hdg
               have hsu := vS_succ hi
               have hvl := vS_le (s := d) (i := i + 1) (by omega)
               have hD : IntKind.wrap .i64 (IntKind.wrap .u8 (byteAt d (Int.toNat (i : Int)) - 48)) = ((bAt d i - 48 : Nat) : Int) := by
                rw [hby, wrap8 (by omega) (by omega), wI_id _ (by omega) (by omega)]; omega
               generalize hde : bAt d i - 48 = D at *
               have hD9 : D <= 9 := by omega
               have hQ : IntKind.wrap .i64 ((IntKind.wrap .i64 (-9223372036854775808 + IntKind.wrap .i64 (IntKind.wrap .u8 (byteAt d (Int.toNat (i : Int)) - 48)))).tdiv 10) = -(((9223372036854775808 - D) / 10 : Nat) : Int) := by
                have e : -9223372036854775808 + (D : Int) = -((9223372036854775808 - D : Nat) : Int) := by omega
                rw [hD, wI_id (-9223372036854775808 + (D : Int)) (by omega) (by omega), e, Int.neg_tdiv, Int.tdiv_eq_ediv_of_nonneg (by omega), wI_id _ (by omega) (by omega)]; omega
               by_cases hov : vS d (i + 1) <= 9223372036854775808
               . have hlt : decide ((-((vS d i : Nat) : Int)) < IntKind.wrap .i64 ((IntKind.wrap .i64 (-9223372036854775808 + IntKind.wrap .i64 (IntKind.wrap .u8 (byteAt d (Int.toNat (i : Int)) - 48)))).tdiv 10)) = false := by
                  rw [hQ]; exact decide_eq_false (by omega)
                 repeat' (first | exact trivial | (with_reducible first | exact (fun (h : true = false) => absurd h (by decide)) | exact (fun (h : false = true) => absurd h (by decide)) | exact (fun h => absurd (hne.symm.trans h) (by decide)) | exact (fun h => absurd (hlt.symm.trans h) (by decide)) | exact hib) | refine ⟨?_, ?_⟩ | intro _)
                 all_goals first | (with_reducible first | apply qa | apply qb | apply qc | apply qd) | (conv => whnf)
                 all_goals (try dsimp only)
                 all_goals first | omega | rfl | ((with_reducible show idsOk _ _ = true); rfl) | (rw [hD]; refine congrArg (Value.int .i64) ?_; rw [wI_id (-((vS d i : Nat) : Int) * 10) (by omega) (by omega), wI_id _ (by omega) (by omega)]; (try dsimp only); omega) | (rw [wI_id _ (by omega) (by omega)]; first | rfl | omega | (congr 1; omega))
               . have hlt : decide ((-((vS d i : Nat) : Int)) < IntKind.wrap .i64 ((IntKind.wrap .i64 (-9223372036854775808 + IntKind.wrap .i64 (IntKind.wrap .u8 (byteAt d (Int.toNat (i : Int)) - 48)))).tdiv 10)) = true := by
                  rw [hQ]; exact decide_eq_true (by omega)
                 have hr := hbig (by omega)
                 repeat' (first | exact trivial | (with_reducible first | exact (fun (h : true = false) => absurd h (by decide)) | exact (fun (h : false = true) => absurd h (by decide)) | exact (fun h => absurd (hne.symm.trans h) (by decide)) | exact (fun h => absurd (hlt.symm.trans h) (by decide)) | exact hib) | refine ⟨?_, ?_⟩ | intro _)
                 all_goals first | (with_reducible first | apply qa | apply qb | apply qc | apply qd) | (conv => whnf)
                 all_goals first | (refine hQ0 _ ?_ ?_ <;> (rw [hr]; rfl)) | omega
             . have hne : decide ((i : Int) < (d.size : Int)) = false := decide_eq_false (by omega)
               obtain rfl : i = d.size := by omega
               cases b with
               | true =>
                 have hr := hneg rfl k2
                 repeat' (first | exact trivial | (with_reducible first | exact (fun (h : true = false) => absurd h (by decide)) | exact (fun (h : false = true) => absurd h (by decide)) | exact (fun h => absurd (hne.symm.trans h) (by decide))) | refine ⟨?_, ?_⟩ | intro _)
                 all_goals first | (with_reducible first | apply qa | apply qb | apply qc | apply qd) | (conv => whnf)
                 all_goals first | (refine hQ0 _ ?_ ?_ <;> (rw [hr]; rfl))
               | false =>
                 by_cases hm : vS d d.size = 9223372036854775808
                 . have hq : ((-((vS d d.size : Nat) : Int)) == -9223372036854775808) = true := by rw [beq_iff_eq]; omega
                   have hr := hpos2 rfl (by omega)
                   repeat' (first | exact trivial | (with_reducible first | exact (fun (h : true = false) => absurd h (by decide)) | exact (fun (h : false = true) => absurd h (by decide)) | exact (fun h => absurd (hne.symm.trans h) (by decide)) | exact (fun h => absurd (hq.symm.trans h) (by decide))) | refine ⟨?_, ?_⟩ | intro _)
                   all_goals first | (with_reducible first | apply qa | apply qb | apply qc | apply qd) | (conv => whnf)
                   all_goals first | (refine hQ0 _ ?_ ?_ <;> (rw [hr]; rfl))
                 . have hq : ((-((vS d d.size : Nat) : Int)) == -9223372036854775808) = false := by rw [beq_eq_false_iff_ne]; omega
                   have hr := hpos rfl (by omega)
                   repeat' (first | exact trivial | (with_reducible first | exact (fun (h : true = false) => absurd h (by decide)) | exact (fun (h : false = true) => absurd h (by decide)) | exact (fun h => absurd (hne.symm.trans h) (by decide)) | exact (fun h => absurd (hq.symm.trans h) (by decide))) | refine ⟨?_, ?_⟩ | intro _)
                   all_goals first | (with_reducible first | apply qa | apply qb | apply qc | apply qd) | (conv => whnf)
                   all_goals first | (refine hQ0 _ ?_ ?_ <;> (rw [hr]; first | rfl | (show vx (.int .i64 (IntKind.wrap .i64 (0 - -((vS d d.size : Nat) : Int)))) = _; rw [wI_id _ (by omega) (by omega)]; refine congrArg (fun x => vx (.int .i64 x)) ?_; (try dsimp only); omega)))
   | false =>
     have hz : byteAt (dS s) (Int.toNat 0) ≠ 48 \/ s = ⟨#[48]⟩ := .inl (by rw [<- hd]; exact beq_eq_false_iff_ne.1 h2)
     refine ASat.vc tys_ok (l := []) trivial (by kernel_rfl) ?_
     repeat' (first | exact trivial | (with_reducible first | exact (fun (h : true = false) => absurd h (by decide)) | exact (fun (h : false = true) => absurd h (by decide)) | exact (fun h => absurd (h1.symm.trans h) (by decide)) | exact (fun h => absurd (h2.symm.trans h) (by decide)) | exact hp0 | exact hp0.1 | exact hp0.2) | refine ⟨?_, ?_⟩ | intro _)
     all_goals first | (with_reducible first | apply qa | apply qb | apply qc | apply qd) | (conv => whnf)
     refine loop_ok tys_ok (l := []) trivial (by kernel_rfl) (X := Nat)
      (fun i => ⟨[(6, vx (.int .i64 i)), (4, vx (.bool b)), (5, vx (.string d))], [], 0, Tryz.f43.ntmps⟩)
      (fun i => d.size - i) (fun i => i <= d.size /\ ∀ j, j < i -> digB (bAt d j) = true) [] []
      (fun i _ _ => i + 1) [] [] 0 0 0 ?_ ?_ ?_
     . exact ⟨Nat.zero_le _, fun j h => absurd h (Nat.not_lt_zero j)⟩
     . repeat' (first | exact trivial | exact rfl | refine ⟨?_, ?_⟩ | fail)
     . rintro i ⟨k1, k2⟩
       rcases Nat.lt_or_ge i d.size with hi | hi
       . have hne : decide ((i : Int) < (d.size : Int)) = true := decide_eq_true (by omega)
         have hib : (0 : Int) <= (i : Int) /\ (i : Int) < (d.size : Int) := by omega
         have hby : byteAt d (Int.toNat (i : Int)) = (bAt d i : Nat) := byte_bAt hi
         cases hg : digB (bAt d i) with
         | false =>
           have hgd : ¬ (48 <= bAt d i /\ bAt d i <= 57) := by unfold digB at hg; rw [decide_eq_false_iff_not] at hg; omega
           have hr := hbad i hi hg
           repeat' (first | exact trivial | (with_reducible first | exact (fun (h : true = false) => absurd h (by decide)) | exact (fun (h : false = true) => absurd h (by decide)) | exact (fun h => absurd (hne.symm.trans h) (by decide)) | exact hib) | refine ⟨?_, ?_⟩ | intro _)
           all_goals first | (with_reducible first | apply qa | apply qb | apply qc | apply qd) | (conv => whnf)
           all_goals (try simp only [hby, decide_eq_true_eq, decide_eq_false_iff_not, gt_iff_lt] at *)
           all_goals first | omega | (refine hQ0 _ ?_ ?_ <;> (rw [hr]; rfl))
         | true =>
           have hgd : 48 <= bAt d i /\ bAt d i <= 57 := by unfold digB at hg; rw [decide_eq_true_eq] at hg; omega
           have hn : ∀ j, j < i + 1 -> digB (bAt d j) = true := fun j hj => by
            rcases Nat.lt_or_ge j i with h | h
            . exact k2 j h
            . rw [show j = i by omega]; exact hg
           repeat' (first | exact trivial | (with_reducible first | exact (fun (h : true = false) => absurd h (by decide)) | exact (fun (h : false = true) => absurd h (by decide)) | exact (fun h => absurd (hne.symm.trans h) (by decide)) | exact hib) | refine ⟨?_, ?_⟩ | intro _)
           all_goals first | (with_reducible first | apply qa | apply qb | apply qc | apply qd) | (conv => whnf)
           all_goals (try simp only [hby, decide_eq_true_eq, decide_eq_false_iff_not, gt_iff_lt] at *)
           all_goals first | omega | rfl | exact hn | exact hn _ ‹_› | (rw [wI_id _ (by omega) (by omega)]; first | rfl | omega | (congr 1; omega)) | (dsimp only; (rw [wI_id _ (by omega) (by omega)]; first | rfl | omega | (congr 1; omega)))
       . have hne : decide ((i : Int) < (d.size : Int)) = false := decide_eq_false (by omega)
         obtain rfl : i = d.size := by omega
         have hall := k2
         clear hi k1 k2 hbad
         have hdw : DigW s := ⟨by rw [<- hd]; exact hne0, hz, by rw [<- hd]; exact hall⟩
         have hbig : 9223372036854775808 < vS d d.size -> rnS s = (0, 4) := fun h => by
          cases b with
          | true => obtain ⟨r, hr⟩ := hb rfl; rw [rn_neg hdw r hr, <- hd, if_neg (by omega)]
          | false => rw [rn_pos hdw (hb0 rfl), <- hd, if_neg (by omega)]
         have hneg : b = true -> vS d d.size <= 9223372036854775808 -> rnS s = (-((vS d d.size : Nat) : Int), 0) := fun h q => by
          obtain ⟨r, hr⟩ := hb h; rw [rn_neg hdw r hr, <- hd, if_pos q]
         have hpos : b = false -> vS d d.size <= 9223372036854775807 -> rnS s = (((vS d d.size : Nat) : Int), 0) := fun h q => by
          rw [rn_pos hdw (hb0 h), <- hd, if_pos q]
         have hpos2 : b = false -> 9223372036854775807 < vS d d.size -> rnS s = (0, 4) := fun h q => by
          rw [rn_pos hdw (hb0 h), <- hd, if_neg (by omega)]
         repeat' (first | exact trivial | (with_reducible exact (fun h => absurd (hne.symm.trans h) (by decide))) | refine ⟨?_, ?_⟩ | intro _)
         all_goals first | (with_reducible first | apply qa | apply qb | apply qc | apply qd) | (conv => whnf)
         refine loop_ok tys_ok (l := []) trivial (by kernel_rfl) (X := Nat)
          (fun i => ⟨[(8, vx (.int .i64 i)), (7, vx (.int .i64 (-((vS d i : Nat) : Int)))), (4, vx (.bool b)), (5, vx (.string d))], [], 0, Tryz.f43.ntmps⟩)
          (fun i => d.size - i) (fun i => i <= d.size /\ vS d i <= 9223372036854775808) [] []
          (fun i _ _ => i + 1) [] [] 0 0 0 ?_ ?_ ?_
         . exact ⟨Nat.zero_le _, Nat.zero_le _⟩
         . repeat' (first | exact trivial | exact rfl | refine ⟨?_, ?_⟩ | fail)
         . rintro i ⟨k1, k2⟩
           rcases Nat.lt_or_ge i d.size with hi | hi
           . have hne : decide ((i : Int) < (d.size : Int)) = true := decide_eq_true (by omega)
             have hib : (0 : Int) <= (i : Int) /\ (i : Int) < (d.size : Int) := by omega
             have hby : byteAt d (Int.toNat (i : Int)) = (bAt d i : Nat) := byte_bAt hi
             have hdg := hall i hi
             unfold digB at hdg
             rw [decide_eq_true_eq] at hdg
             have hsu := vS_succ hi
             have hvl := vS_le (s := d) (i := i + 1) (by omega)
             have hD : IntKind.wrap .i64 (IntKind.wrap .u8 (byteAt d (Int.toNat (i : Int)) - 48)) = ((bAt d i - 48 : Nat) : Int) := by
              rw [hby, wrap8 (by omega) (by omega), wI_id _ (by omega) (by omega)]; omega
             generalize hde : bAt d i - 48 = D at *
             have hD9 : D <= 9 := by omega
             have hQ : IntKind.wrap .i64 ((IntKind.wrap .i64 (-9223372036854775808 + IntKind.wrap .i64 (IntKind.wrap .u8 (byteAt d (Int.toNat (i : Int)) - 48)))).tdiv 10) = -(((9223372036854775808 - D) / 10 : Nat) : Int) := by
              have e : -9223372036854775808 + (D : Int) = -((9223372036854775808 - D : Nat) : Int) := by omega
              rw [hD, wI_id (-9223372036854775808 + (D : Int)) (by omega) (by omega), e, Int.neg_tdiv, Int.tdiv_eq_ediv_of_nonneg (by omega), wI_id _ (by omega) (by omega)]; omega
             by_cases hov : vS d (i + 1) <= 9223372036854775808
             . have hlt : decide ((-((vS d i : Nat) : Int)) < IntKind.wrap .i64 ((IntKind.wrap .i64 (-9223372036854775808 + IntKind.wrap .i64 (IntKind.wrap .u8 (byteAt d (Int.toNat (i : Int)) - 48)))).tdiv 10)) = false := by
                rw [hQ]; exact decide_eq_false (by omega)
               repeat' (first | exact trivial | (with_reducible first | exact (fun (h : true = false) => absurd h (by decide)) | exact (fun (h : false = true) => absurd h (by decide)) | exact (fun h => absurd (hne.symm.trans h) (by decide)) | exact (fun h => absurd (hlt.symm.trans h) (by decide)) | exact hib) | refine ⟨?_, ?_⟩ | intro _)
               all_goals first | (with_reducible first | apply qa | apply qb | apply qc | apply qd) | (conv => whnf)
               all_goals (try dsimp only)
               all_goals first | omega | rfl | ((with_reducible show idsOk _ _ = true); rfl) | (rw [hD]; refine congrArg (Value.int .i64) ?_; rw [wI_id (-((vS d i : Nat) : Int) * 10) (by omega) (by omega), wI_id _ (by omega) (by omega)]; (try dsimp only); omega) | (rw [wI_id _ (by omega) (by omega)]; first | rfl | omega | (congr 1; omega))
             . have hlt : decide ((-((vS d i : Nat) : Int)) < IntKind.wrap .i64 ((IntKind.wrap .i64 (-9223372036854775808 + IntKind.wrap .i64 (IntKind.wrap .u8 (byteAt d (Int.toNat (i : Int)) - 48)))).tdiv 10)) = true := by
                rw [hQ]; exact decide_eq_true (by omega)
               have hr := hbig (by omega)
               repeat' (first | exact trivial | (with_reducible first | exact (fun (h : true = false) => absurd h (by decide)) | exact (fun (h : false = true) => absurd h (by decide)) | exact (fun h => absurd (hne.symm.trans h) (by decide)) | exact (fun h => absurd (hlt.symm.trans h) (by decide)) | exact hib) | refine ⟨?_, ?_⟩ | intro _)
               all_goals first | (with_reducible first | apply qa | apply qb | apply qc | apply qd) | (conv => whnf)
               all_goals first | (refine hQ0 _ ?_ ?_ <;> (rw [hr]; rfl)) | omega
           . have hne : decide ((i : Int) < (d.size : Int)) = false := decide_eq_false (by omega)
             obtain rfl : i = d.size := by omega
             cases b with
             | true =>
               have hr := hneg rfl k2
               repeat' (first | exact trivial | (with_reducible first | exact (fun (h : true = false) => absurd h (by decide)) | exact (fun (h : false = true) => absurd h (by decide)) | exact (fun h => absurd (hne.symm.trans h) (by decide))) | refine ⟨?_, ?_⟩ | intro _)
               all_goals first | (with_reducible first | apply qa | apply qb | apply qc | apply qd) | (conv => whnf)
               all_goals first | (refine hQ0 _ ?_ ?_ <;> (rw [hr]; rfl))
             | false =>
               by_cases hm : vS d d.size = 9223372036854775808
               . have hq : ((-((vS d d.size : Nat) : Int)) == -9223372036854775808) = true := by rw [beq_iff_eq]; omega
                 have hr := hpos2 rfl (by omega)
                 repeat' (first | exact trivial | (with_reducible first | exact (fun (h : true = false) => absurd h (by decide)) | exact (fun (h : false = true) => absurd h (by decide)) | exact (fun h => absurd (hne.symm.trans h) (by decide)) | exact (fun h => absurd (hq.symm.trans h) (by decide))) | refine ⟨?_, ?_⟩ | intro _)
                 all_goals first | (with_reducible first | apply qa | apply qb | apply qc | apply qd) | (conv => whnf)
                 all_goals first | (refine hQ0 _ ?_ ?_ <;> (rw [hr]; rfl))
               . have hq : ((-((vS d d.size : Nat) : Int)) == -9223372036854775808) = false := by rw [beq_eq_false_iff_ne]; omega
                 have hr := hpos rfl (by omega)
                 repeat' (first | exact trivial | (with_reducible first | exact (fun (h : true = false) => absurd h (by decide)) | exact (fun (h : false = true) => absurd h (by decide)) | exact (fun h => absurd (hne.symm.trans h) (by decide)) | exact (fun h => absurd (hq.symm.trans h) (by decide))) | refine ⟨?_, ?_⟩ | intro _)
                 all_goals first | (with_reducible first | apply qa | apply qb | apply qc | apply qd) | (conv => whnf)
                 all_goals first | (refine hQ0 _ ?_ ?_ <;> (rw [hr]; first | rfl | (show vx (.int .i64 (IntKind.wrap .i64 (0 - -((vS d d.size : Nat) : Int)))) = _; rw [wI_id _ (by omega) (by omega)]; refine congrArg (fun x => vx (.int .i64 x)) ?_; (try dsimp only); omega)))
theorem fin_two {τ : Tys} {K : Rt -> List (Option (Nat -> List DV)) -> Prop} {st : St} {t1 t2 : Nat} {a b : Int} (h1 : lookT st.tmps t1 = vx (.int .i64 a)) (h2 : lookT st.tmps t2 = vx (.int .i64 b)) (hK : K (.tup [.c (.d (it a)), .c (.d (it b))]) []) : fin τ false [] [.tmp t1, .tmp t2] K st := by
 unfold fin resVars resVar
 dsimp only
 rw [h1]
 dsimp only
 unfold resVars resVar
 dsimp only
 rw [h2]
 exact hK
def FRNumber : List Ar -> Option Rs
 | [.c (.d (.v (.string x0)))] => some ⟨(x0.size <= 4294967280), .tup [.c (.d (it (rnS x0).1)), .c (.d (it (rnS x0).2))], []⟩
 | _ => none
theorem fcRNumber : FC Tryz.prog 43 FRNumber := by
 intro xs pre r us h hp
 unfold FRNumber at h
 split at h
 . rename_i x0
   cases h
   have hp0 := hp
   refine fcatA tys_ok Tryz.func43 rfl false ?_
   refine ⟨Nat.le_of_ble_eq_true rfl, ?_⟩
   have hs0 : True := trivial
   have hs1 : True := trivial
   rcases dS_cases x0 with ⟨r, h1, h2⟩ | ⟨h1, h2⟩
   . have hsz : 0 < x0.size := by rw [<- sz_len, h1]; simp
     have hs0 : (0 : Int) <= 0 /\ (0 : Int) < (x0.size : Int) := by omega
     have hs1 : (0 : Int) <= 1 /\ (1 : Int) <= (x0.size : Int) := by omega
     have ha : decide ((x0.size : Int) > 0) = true := decide_eq_true (by omega)
     have hb : (byteAt x0 (Int.toNat 0) == 45) = true := by rw [byteAt_list h1]; rfl
     have hd : x0.extract (Int.toNat 1) (Int.toNat (x0.size : Int)) = dS x0 := by
      rw [Int.toNat_natCast, show Int.toNat 1 = 1 from rfl, <- drop_mk, h1]
      show mkB r = _
      rw [<- h2, mkB_of]
     have hdz : (x0.extract (Int.toNat 1) (Int.toNat (x0.size : Int))).size <= 4294967281 := by have := ext_sz x0 (Int.toNat 1) (Int.toNat (x0.size : Int)); omega
     refine ASat.seqA tys_ok (l := []) trivial (by kernel_rfl) ?_
     repeat' (first | exact trivial | (with_reducible first | exact (fun (h : true = false) => absurd h (by decide)) | exact (fun (h : false = true) => absurd h (by decide)) | exact hs0 | exact hs0.1 | exact hs0.2 | exact hs1 | exact hs1.1 | exact hs1.2 | exact (fun h => absurd (ha.symm.trans h) (by decide)) | exact (fun h => absurd (hb.symm.trans h) (by decide))) | refine ⟨?_, ?_⟩ | intro _)
     all_goals first | (with_reducible first | apply qa | apply qb | apply qc | apply qd) | (conv => whnf)
     all_goals first | omega | skip
     refine ASat.seqA tys_ok (l := []) trivial (by kernel_rfl) ?_
     repeat' (first | exact trivial | (with_reducible first | exact (fun (h : true = false) => absurd h (by decide)) | exact (fun (h : false = true) => absurd h (by decide)) | exact hs0 | exact hs0.1 | exact hs0.2 | exact hs1 | exact hs1.1 | exact hs1.2 | exact (fun h => absurd (ha.symm.trans h) (by decide)) | exact (fun h => absurd (hb.symm.trans h) (by decide))) | refine ⟨?_, ?_⟩ | intro _)
     all_goals first | (with_reducible first | apply qa | apply qb | apply qc | apply qd) | (conv => whnf)
     all_goals first | omega | skip
     refine ASat.seqA tys_ok (l := []) trivial (by kernel_rfl) ?_
     repeat' (first | exact trivial | (with_reducible first | exact (fun (h : true = false) => absurd h (by decide)) | exact (fun (h : false = true) => absurd h (by decide)) | exact hs0 | exact hs0.1 | exact hs0.2 | exact hs1 | exact hs1.1 | exact hs1.2 | exact (fun h => absurd (ha.symm.trans h) (by decide)) | exact (fun h => absurd (hb.symm.trans h) (by decide))) | refine ⟨?_, ?_⟩ | intro _)
     all_goals first | (with_reducible first | apply qa | apply qb | apply qc | apply qd) | (conv => whnf)
     all_goals first | omega | skip
     refine ASat.seqA tys_ok (l := []) trivial (by kernel_rfl) ?_
     repeat' (first | exact trivial | (with_reducible first | exact (fun (h : true = false) => absurd h (by decide)) | exact (fun (h : false = true) => absurd h (by decide)) | exact hs0 | exact hs0.1 | exact hs0.2 | exact hs1 | exact hs1.1 | exact hs1.2 | exact (fun h => absurd (ha.symm.trans h) (by decide)) | exact (fun h => absurd (hb.symm.trans h) (by decide))) | refine ⟨?_, ?_⟩ | intro _)
     all_goals first | (with_reducible first | apply qa | apply qb | apply qc | apply qd) | (conv => whnf)
     all_goals first | omega | skip
     refine ASat.norm [0, 4, 5] ?_
     have hw := @num_walk x0 (x0.extract (Int.toNat 1) (Int.toNat (x0.size : Int))) (byteAt x0 (Int.toNat 0) == 45) hd hdz (fun _ => ⟨r, h1⟩) (fun h => absurd (hb.symm.trans h) (by decide))
     refine hw fun st e2 e3 => ?_
     exact fin_two (K := fun r' us' => rtEq r' _ /\ usEq _ us' _) e2 e3 ⟨⟨rfl, rfl, trivial⟩, trivial⟩
   . rcases Nat.eq_zero_or_pos x0.size with hz | hsz
     . have ha : decide ((x0.size : Int) > 0) = false := decide_eq_false (by omega)
       refine ASat.seqA tys_ok (l := []) trivial (by kernel_rfl) ?_
       repeat' (first | exact trivial | (with_reducible first | exact (fun (h : true = false) => absurd h (by decide)) | exact (fun (h : false = true) => absurd h (by decide)) | exact hs0 | exact hs0.1 | exact hs0.2 | exact hs1 | exact hs1.1 | exact hs1.2 | exact (fun h => absurd (ha.symm.trans h) (by decide))) | refine ⟨?_, ?_⟩ | intro _)
       all_goals first | (with_reducible first | apply qa | apply qb | apply qc | apply qd) | (conv => whnf)
       all_goals first | omega | skip
       refine ASat.seqA tys_ok (l := []) trivial (by kernel_rfl) ?_
       repeat' (first | exact trivial | (with_reducible first | exact (fun (h : true = false) => absurd h (by decide)) | exact (fun (h : false = true) => absurd h (by decide)) | exact hs0 | exact hs0.1 | exact hs0.2 | exact hs1 | exact hs1.1 | exact hs1.2 | exact (fun h => absurd (ha.symm.trans h) (by decide))) | refine ⟨?_, ?_⟩ | intro _)
       all_goals first | (with_reducible first | apply qa | apply qb | apply qc | apply qd) | (conv => whnf)
       all_goals first | omega | skip
       refine ASat.seqA tys_ok (l := []) trivial (by kernel_rfl) ?_
       repeat' (first | exact trivial | (with_reducible first | exact (fun (h : true = false) => absurd h (by decide)) | exact (fun (h : false = true) => absurd h (by decide)) | exact hs0 | exact hs0.1 | exact hs0.2 | exact hs1 | exact hs1.1 | exact hs1.2 | exact (fun h => absurd (ha.symm.trans h) (by decide))) | refine ⟨?_, ?_⟩ | intro _)
       all_goals first | (with_reducible first | apply qa | apply qb | apply qc | apply qd) | (conv => whnf)
       all_goals first | omega | skip
       refine ASat.seqA tys_ok (l := []) trivial (by kernel_rfl) ?_
       repeat' (first | exact trivial | (with_reducible first | exact (fun (h : true = false) => absurd h (by decide)) | exact (fun (h : false = true) => absurd h (by decide)) | exact hs0 | exact hs0.1 | exact hs0.2 | exact hs1 | exact hs1.1 | exact hs1.2 | exact (fun h => absurd (ha.symm.trans h) (by decide))) | refine ⟨?_, ?_⟩ | intro _)
       all_goals first | (with_reducible first | apply qa | apply qb | apply qc | apply qd) | (conv => whnf)
       all_goals first | omega | skip
       refine ASat.norm [0, 4, 5] ?_
       refine ASat.le [] 0 (st' := ⟨[(0, vx (.string x0)), (4, vx (.bool false)), (5, vx (.string x0))], [], 0, Tryz.f43.ntmps⟩) ?_ ?_
       . repeat' (first | exact trivial | exact rfl | refine ⟨?_, ?_⟩ | fail)
       have hw := @num_walk x0 (x0) false h2.symm (by omega) (fun h => absurd h (by decide)) (fun _ => h1)
       refine hw fun st e2 e3 => ?_
       exact fin_two (K := fun r' us' => rtEq r' _ /\ usEq _ us' _) e2 e3 ⟨⟨rfl, rfl, trivial⟩, trivial⟩
     . have hs0 : (0 : Int) <= 0 /\ (0 : Int) < (x0.size : Int) := by omega
       have ha : decide ((x0.size : Int) > 0) = true := decide_eq_true (by omega)
       have hb : (byteAt x0 (Int.toNat 0) == 45) = false := by
        cases hl : x0.data.toList with
        | nil => rw [<- sz_len, hl] at hsz; exact absurd hsz (by simp)
        | cons c t =>
          rw [byteAt_list hl]
          exact beq_eq_false_iff_ne.2 fun e => h1 t (by rw [hl]; congr 1; exact UInt8.toNat_inj.1 (by show c.toNat = 45; omega))
       refine ASat.seqA tys_ok (l := []) trivial (by kernel_rfl) ?_
       repeat' (first | exact trivial | (with_reducible first | exact (fun (h : true = false) => absurd h (by decide)) | exact (fun (h : false = true) => absurd h (by decide)) | exact hs0 | exact hs0.1 | exact hs0.2 | exact hs1 | exact hs1.1 | exact hs1.2 | exact (fun h => absurd (ha.symm.trans h) (by decide)) | exact (fun h => absurd (hb.symm.trans h) (by decide))) | refine ⟨?_, ?_⟩ | intro _)
       all_goals first | (with_reducible first | apply qa | apply qb | apply qc | apply qd) | (conv => whnf)
       all_goals first | omega | skip
       refine ASat.seqA tys_ok (l := []) trivial (by kernel_rfl) ?_
       repeat' (first | exact trivial | (with_reducible first | exact (fun (h : true = false) => absurd h (by decide)) | exact (fun (h : false = true) => absurd h (by decide)) | exact hs0 | exact hs0.1 | exact hs0.2 | exact hs1 | exact hs1.1 | exact hs1.2 | exact (fun h => absurd (ha.symm.trans h) (by decide)) | exact (fun h => absurd (hb.symm.trans h) (by decide))) | refine ⟨?_, ?_⟩ | intro _)
       all_goals first | (with_reducible first | apply qa | apply qb | apply qc | apply qd) | (conv => whnf)
       all_goals first | omega | skip
       refine ASat.seqA tys_ok (l := []) trivial (by kernel_rfl) ?_
       repeat' (first | exact trivial | (with_reducible first | exact (fun (h : true = false) => absurd h (by decide)) | exact (fun (h : false = true) => absurd h (by decide)) | exact hs0 | exact hs0.1 | exact hs0.2 | exact hs1 | exact hs1.1 | exact hs1.2 | exact (fun h => absurd (ha.symm.trans h) (by decide)) | exact (fun h => absurd (hb.symm.trans h) (by decide))) | refine ⟨?_, ?_⟩ | intro _)
       all_goals first | (with_reducible first | apply qa | apply qb | apply qc | apply qd) | (conv => whnf)
       all_goals first | omega | skip
       refine ASat.seqA tys_ok (l := []) trivial (by kernel_rfl) ?_
       repeat' (first | exact trivial | (with_reducible first | exact (fun (h : true = false) => absurd h (by decide)) | exact (fun (h : false = true) => absurd h (by decide)) | exact hs0 | exact hs0.1 | exact hs0.2 | exact hs1 | exact hs1.1 | exact hs1.2 | exact (fun h => absurd (ha.symm.trans h) (by decide)) | exact (fun h => absurd (hb.symm.trans h) (by decide))) | refine ⟨?_, ?_⟩ | intro _)
       all_goals first | (with_reducible first | apply qa | apply qb | apply qc | apply qd) | (conv => whnf)
       all_goals first | omega | skip
       refine ASat.norm [0, 4, 5] ?_
       have hw := @num_walk x0 (x0) (byteAt x0 (Int.toNat 0) == 45) h2.symm (by omega) (fun h => absurd (hb.symm.trans h) (by decide)) (fun _ => h1)
       refine hw fun st e2 e3 => ?_
       exact fin_two (K := fun r' us' => rtEq r' _ /\ usEq _ us' _) e2 e3 ⟨⟨rfl, rfl, trivial⟩, trivial⟩
 . cases h
end Go.Proofs.YtakcacejpbiogaaGreatDoor
