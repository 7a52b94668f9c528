/- Texts cut at two full stops; the words of pointers. No condition. -/
import Derived.Test.YtakcacejpbiogaaGreatDoorR11
import Derived.Lib.IndexMore
set_option linter.all false
set_option maxHeartbeats 8000000
set_option maxRecDepth 100000
namespace Go.Proofs.YtakcacejpbiogaaGreatDoor
open Go.Sx
open Go.RowKit Go.Lib Go.Sort
abbrev ddS : ByteArray := ⟨#[46, 46]⟩
theorem dot_le (s : ByteArray) (h : 0 <= dotI s) : dotI s + 2 <= s.size := by
 have := Lib.index_room s.data.toList [46, 46] h
 rw [sz_len] at this
 exact this
theorem cut_dot {s : ByteArray} (h : 0 <= dotI s) : cutS s ddS = (s.extract 0 (dotI s).toNat, s.extract ((dotI s).toNat + 2) s.size, true) := by
 have e : Lib.cut s.data.toList ddS.data.toList = (s.data.toList.take (dotI s).toNat, s.data.toList.drop ((dotI s).toNat + 2), true) := by
  show Lib.cut s.data.toList [46, 46] = _
  unfold Lib.cut
  exact if_pos h
 unfold cutS
 rw [e]
 dsimp only
 rw [take_mk, drop_mk]
theorem cut_nodot {s : ByteArray} (h : dotI s < 0) : cutS s ddS = (s, eS, false) := by
 have e : Lib.cut s.data.toList ddS.data.toList = (s.data.toList, [], false) := by
  show Lib.cut s.data.toList [46, 46] = _
  unfold Lib.cut
  exact if_neg (by have h : Lib.index s.data.toList [46, 46] < 0 := h; omega)
 unfold cutS
 rw [e]
theorem dot_cat {s : ByteArray} (h : (cutS s ddS).2.2 = true) : s = (cutS s ddS).1 ++ ddS ++ (cutS s ddS).2.1 := by
 have h0 : 0 <= dotI s := by
  rcases Int.lt_or_le (dotI s) 0 with q | q
  . rw [cut_nodot q] at h; exact absurd h Bool.false_ne_true
  . exact q
 rw [cut_dot h0]
 dsimp only
 rcases Lib.index_spec s.data.toList [46, 46] with ⟨h1, _⟩ | ⟨i, h1, h2, h3, _⟩
 . have h0 : 0 <= Lib.index s.data.toList [46, 46] := h0
   omega
 have hd : dotI s = i := h1
 have hl := dot_le s h0
 rw [hd] at hl ⊢
 rw [Int.toNat_natCast]
 have hdr : s.data.toList.drop i = 46 :: 46 :: s.data.toList.drop (i + 2) := by
  have h3 : [46, 46].isPrefixOf (s.data.toList.drop i) = true := h3
  have h4 : [46, 46] <+: s.data.toList.drop i := by simpa using h3
  obtain ⟨t, ht⟩ := h4
  have : s.data.toList.drop (i + 2) = t := by
   rw [show i + 2 = i + [46, 46].length from rfl, <- List.drop_drop, <- ht]; rfl
  rw [this, <- ht]; rfl
 conv => lhs; rw [<- mkB_of s, <- List.take_append_drop i s.data.toList, hdr]
 rw [<- take_mk, <- drop_mk]
 show _ = mkB _ ++ mkB [46, 46] ++ mkB _
 rw [mkB_app, mkB_app, List.append_assoc]; rfl
theorem dot_txt {a b : List UInt8} (ha : ∀ c, c ∈ a -> c ≠ 46) : dotI (mkB (a ++ 46 :: 46 :: b)) = (a.length : Nat) := by
 have hl : (mkB (a ++ 46 :: 46 :: b)).size = a.length + b.length + 2 := by rw [mkB_sz, List.length_append, List.length_cons, List.length_cons]; omega
 refine dot_yes (fun j hj => occ2_no fun q => ?_) ⟨by omega, ?_, ?_⟩
 . have := q.2.1
   rw [bAt_mk (by rw [List.length_append]; omega), List.getElem_append_left hj] at this
   exact ha _ (List.getElem_mem hj) (UInt8.toNat_inj.1 this)
 . rw [bAt_mk (by simp), List.getElem_append_right (Nat.le_refl _)]
   simp
 . rw [bAt_mk (by simp), List.getElem_append_right (by omega)]
   simp
theorem dot_free {s : ByteArray} (h : ∀ c, c ∈ s.data.toList -> c ≠ 46) : dotI s = -1 :=
 Lib.index_none fun j hj => occ2_no fun q => by
  have h1 := q.2.1
  have hj : j < s.size := by have := q.1; omega
  have hj2 : j < s.data.toList.length := by rw [sz_len]; exact hj
  rw [bAt_list hj, List.getElem?_eq_getElem hj2] at h1
  exact h _ (List.getElem_mem hj2) (UInt8.toNat_inj.1 h1)
theorem cut_txt {a b : ByteArray} (ha : ∀ c, c ∈ a.data.toList -> c ≠ 46) : cutS (a ++ ddS ++ b) ddS = (a, b, true) := by
 have e : a ++ ddS ++ b = mkB (a.data.toList ++ 46 :: 46 :: b.data.toList) := by
  conv => lhs; rw [<- mkB_of a, <- mkB_of b, show ddS = mkB [46, 46] from rfl, mkB_app, mkB_app]
  rw [List.append_assoc]; rfl
 have hd : dotI (a ++ ddS ++ b) = (a.data.toList.length : Nat) := by rw [e]; exact dot_txt ha
 rw [cut_dot (by omega), hd, Int.toNat_natCast]
 have hs : (a ++ ddS ++ b).size = a.data.toList.length + 2 + b.data.toList.length := by rw [e, mkB_sz, List.length_append, List.length_cons, List.length_cons]; omega
 rw [hs]
 rw [e, ext_mk, ext_mk]
 congr 2
 . rw [List.drop_zero, Nat.sub_zero, List.take_left]
 . congr 1
   have : (a.data.toList ++ 46 :: 46 :: b.data.toList).drop (a.data.toList.length + 2) = b.data.toList := by
    rw [show a.data.toList ++ 46 :: 46 :: b.data.toList = (a.data.toList ++ [46, 46]) ++ b.data.toList by simp, show a.data.toList.length + 2 = (a.data.toList ++ [46, 46]).length by simp]
    exact List.drop_left
   rw [this, List.take_of_length_le (by omega)]
theorem amp_list (x : ByteArray) : (amp x).data.toList = 38 :: x.data.toList := by
 unfold amp
 rw [ByteArray.data_append, Array.toList_append]; rfl
theorem p3_amp (x : ByteArray) : p3 (amp x) = true := by
 show Lib.hasPrefix (amp x).data.toList [38] = true
 rw [amp_list]; simp [Lib.hasPrefix]
theorem nm_amp (x : ByteArray) : nmW (amp x) = x := by
 show mkB (Lib.trimPrefix (amp x).data.toList [38]) = x
 have h : Lib.hasPrefix (amp x).data.toList [38] = true := p3_amp x
 unfold Lib.trimPrefix
 rw [if_pos h, amp_list]
 exact mkB_of x
theorem amp_nm {s : ByteArray} (h : p3 s = true) : amp (nmW s) = s := by
 have h : Lib.hasPrefix s.data.toList [38] = true := h
 have e : nmW s = mkB (s.data.toList.drop 1) := by
  show mkB (Lib.trimPrefix s.data.toList [38]) = _
  unfold Lib.trimPrefix
  rw [if_pos h]; rfl
 have h2 : [38] <+: s.data.toList := by simpa [Lib.hasPrefix] using h
 obtain ⟨t, ht⟩ := h2
 rw [e]
 unfold amp
 show mkB [38] ++ _ = s
 rw [mkB_app, <- ht]
 conv => rhs; rw [<- mkB_of s, <- ht]
 rfl
theorem p2_amp (x : ByteArray) : p2 (amp x) = false := by
 unfold p2
 rw [seq_iff]
 refine decide_eq_false fun e => ?_
 have := congrArg (fun y : ByteArray => y.data.toList) e
 dsimp only at this
 rw [amp_list] at this
 injection this with h _
 exact absurd h (by decide)
theorem p5_eq (s t : ByteArray) : p5 s t = !(decide (kS s < kS t) || decide (s = t)) := by
 have := sle_eq s t
 unfold sle at this
 unfold p5
 rw [this]
theorem name_ne {s : ByteArray} (h : nameB s = true) : s.data.toList ≠ [] := by
 intro e
 unfold nameB plainB at h
 simp only [Bool.and_eq_true, decide_eq_true_eq] at h
 exact h.1.2.1 (by rw [<- sz_len, e]; rfl)
abbrev nullS : ByteArray := ⟨#[110, 117, 108, 108]⟩
def headP (z : Bool) : List ByteArray := if z = true then [nullS] else []
def wordsP (z : Bool) (M : List ByteArray) : List ByteArray := headP z ++ M.map amp
theorem headP_len (z : Bool) : (headP z).length = if z = true then 1 else 0 := by unfold headP; split <;> rfl
theorem wordsP_len (z : Bool) (M : List ByteArray) : (wordsP z M).length = (if z = true then 1 else 0) + M.length := by
 unfold wordsP
 rw [List.length_append, headP_len, List.length_map]
theorem wordsP_amp {z : Bool} {M : List ByteArray} {i : Nat} (h : i < M.length) : atS (wordsP z M) ((if z = true then 1 else 0) + i) = amp (atS M i) := by
 unfold wordsP atS
 rw [List.getD_eq_getElem?_getD, List.getElem?_append_right (by rw [headP_len]; omega), headP_len, Nat.add_sub_cancel_left, List.getElem?_map, List.getElem?_eq_getElem h, List.getD_eq_getElem?_getD, List.getElem?_eq_getElem h]; rfl
structure PtI (z : Bool) (M : List ByteArray) (W : Nat -> ByteArray) (i : Nat) : Prop where
 ok : ∀ j, j < i -> okP W j = true
 n : ptN W i = M.take (i - if z = true then 1 else 0)
 b : ptB W i = (z && decide (0 < i))
 l : ptL W i = if i - (if z = true then 1 else 0) = 0 then ⟨#[]⟩ else atS M (i - (if z = true then 1 else 0) - 1)
theorem atS_mem {M : List ByteArray} {i : Nat} (h : i < M.length) : atS M i = M[i] := by
 unfold atS
 rw [List.getD_eq_getElem?_getD, List.getElem?_eq_getElem h]; rfl
theorem ptr_of {z : Bool} {M : List ByteArray} (hS : Srt M) (hn : ∀ x, x ∈ M -> nameB x = true) {W : Nat -> ByteArray} (hW : ∀ i, i < (wordsP z M).length -> W i = atS (wordsP z M) i) : ∀ i, i <= (wordsP z M).length -> PtI z M W i := by
 intro i
 induction i with
 | zero =>
   intro _
   refine ⟨fun j hj => absurd hj (Nat.not_lt_zero _), ?_, ?_, ?_⟩
   . rw [Nat.zero_sub]; rfl
   . simp [ptB]
   . rw [Nat.zero_sub]; rfl
 | succ i ih =>
   intro hi
   obtain ⟨h1, h2, h3, h4⟩ := ih (by omega)
   have hwi := hW i (by omega)
   rw [wordsP_len] at hi
   by_cases hz : z = true /\ i = 0
   . obtain ⟨rfl, rfl⟩ := hz
     have hw : W 0 = nullS := by rw [hwi]; rfl
     have hN : isN W 0 = true := by unfold isN p2; rw [hw, seq_iff, decide_eq_true rfl]; rfl
     refine ⟨fun j hj => ?_, ?_, ?_, ?_⟩
     . obtain rfl : j = 0 := by omega
       unfold okP; rw [hN]; rfl
     . exact (if_pos hN : ptN W 1 = ptN W 0)
     . exact (if_pos hN : ptB W 1 = true)
     . exact (if_pos hN : ptL W 1 = ptL W 0)
   . have hd : (if z = true then 1 else 0) <= i := by
      split
      . rename_i h; have : i ≠ 0 := fun e => hz ⟨h, e⟩
        omega
      . omega
     obtain ⟨d, hd0⟩ : ∃ d, d = (if z = true then 1 else 0) := ⟨_, rfl⟩
     rw [<- hd0] at h2 h4 hi hd
     have hm : i - d < M.length := by omega
     have hw : W i = amp (atS M (i - d)) := by
      have := wordsP_amp (z := z) hm
      rw [<- hd0, show d + (i - d) = i by omega] at this
      rw [hwi, this]
     have hN : isN W i = false := by unfold isN; rw [hw, p2_amp]; simp
     have hmem : atS M (i - d) ∈ M := by rw [atS_mem hm]; exact List.getElem_mem hm
     have hok : okP W i = true := by
      unfold okP
      rw [hN, hw, p3_amp, nm_amp, hn _ hmem, p5_eq, h4]
      by_cases h0 : i - d = 0
      . rw [if_pos h0]
        have e1 : decide (kS (atS M (i - d)) < kS (⟨#[]⟩ : ByteArray)) = false := decide_eq_false (List.not_lt_nil _)
        have e2 : decide (atS M (i - d) = (⟨#[]⟩ : ByteArray)) = false := decide_eq_false fun e => name_ne (hn _ hmem) (by rw [e])
        rw [e1, e2]; rfl
      . rw [if_neg h0]
        have hlt : kS (atS M (i - d - 1)) < kS (atS M (i - d)) := by
         rw [atS_mem hm, atS_mem (i := i - d - 1) (by omega)]
         exact List.pairwise_iff_getElem.1 hS (i - d - 1) (i - d) (by omega) hm (by omega)
        have e1 : decide (kS (atS M (i - d)) < kS (atS M (i - d - 1))) = false := decide_eq_false (List.lt_asymm hlt)
        have e2 : decide (atS M (i - d) = atS M (i - d - 1)) = false := decide_eq_false fun e => by rw [e] at hlt; exact List.lt_irrefl _ hlt
        rw [e1, e2]; rfl
     have hs : i + 1 - d = i - d + 1 := by omega
     refine ⟨fun j hj => ?_, ?_, ?_, ?_⟩
     . rcases Nat.lt_or_ge j i with q | q
       . exact h1 j q
       . rw [show j = i by omega]; exact hok
     . have e : ptN W (i + 1) = ptN W i ++ [nmW (W i)] := if_neg (by rw [hN]; decide)
       rw [<- hd0, e, h2, hw, nm_amp, hs, List.take_add_one, List.getElem?_eq_getElem hm, atS_mem hm]; rfl
     . have e : ptB W (i + 1) = ptB W i := if_neg (by rw [hN]; decide)
       rw [e, h3]
       cases z with
       | false => rfl
       | true =>
         have : d = 1 := hd0
         rw [decide_eq_true (show 0 < i by omega), decide_eq_true (show 0 < i + 1 by omega)]
     . have e : ptL W (i + 1) = nmW (W i) := if_neg (by rw [hN]; decide)
       rw [<- hd0, e, hw, nm_amp, hs, if_neg (by omega), Nat.add_sub_cancel]
structure PtK (W : Nat -> ByteArray) (i : Nat) : Prop where
 w : wordsP (ptB W i) (ptN W i) = (List.range i).map W
 s : Srt (ptN W i)
 l : ∀ x, x ∈ ptN W i -> kS x < kS (ptL W i) \/ x = ptL W i
 z : ptN W i ≠ [] -> 0 < i
theorem ptr_back {W : Nat -> ByteArray} : ∀ i, (∀ j, j < i -> okP W j = true) -> PtK W i := by
 intro i
 induction i with
 | zero =>
   intro _
   exact ⟨rfl, srt_nil, fun x hx => absurd hx (by simp [ptN]), fun h => absurd rfl h⟩
 | succ i ih =>
   intro h
   obtain ⟨h1, h2, h3, h4⟩ := ih fun j hj => h j (by omega)
   have hk := h i (by omega)
   have hR : (List.range (i + 1)).map W = (List.range i).map W ++ [W i] := by rw [List.range_succ, List.map_append]; rfl
   cases hN : isN W i with
   | true =>
     have hi : i = 0 /\ W i = nullS := by
      have hN := hN
      unfold isN p1 p2 at hN
      rw [Bool.and_eq_true, seq_iff] at hN
      exact ⟨by have := eq_of_beq hN.1; omega, of_decide_eq_true hN.2⟩
     obtain ⟨rfl, hw⟩ := hi
     have e1 : ptN W 1 = [] := if_pos hN
     have e2 : ptB W 1 = true := if_pos hN
     refine ⟨?_, ?_, ?_, ?_⟩
     . rw [hR, Nat.zero_add, e1, e2, hw]; rfl
     . rw [Nat.zero_add, e1]; exact srt_nil
     . rw [Nat.zero_add, e1]; exact fun x hx => absurd hx (by simp)
     . rw [Nat.zero_add, e1]; exact fun h => absurd rfl h
   | false =>
     unfold okP at hk
     rw [hN, Bool.false_or, Bool.and_eq_true, Bool.and_eq_true, p5_eq] at hk
     obtain ⟨k1, k2, k3⟩ := hk
     have e1 : ptN W (i + 1) = ptN W i ++ [nmW (W i)] := if_neg (by rw [hN]; decide)
     have e2 : ptB W (i + 1) = ptB W i := if_neg (by rw [hN]; decide)
     have e3 : ptL W (i + 1) = nmW (W i) := if_neg (by rw [hN]; decide)
     have hlt : kS (ptL W i) < kS (nmW (W i)) := by
      simp only [Bool.not_eq_true', Bool.or_eq_false_iff, decide_eq_false_iff_not] at k3
      exact kS_tri k3.1 k3.2
     have hall : ∀ x, x ∈ ptN W i -> kS x < kS (nmW (W i)) := fun x hx => by
      rcases h3 x hx with q | q
      . exact List.lt_trans q hlt
      . rw [q]; exact hlt
     refine ⟨?_, ?_, ?_, fun _ => Nat.succ_pos _⟩
     . rw [hR, e1, e2, <- h1]
       unfold wordsP
       rw [List.map_append, List.append_assoc, List.map_singleton, amp_nm k1]
     . rw [e1]
       unfold Srt at *
       rw [List.pairwise_append]
       exact ⟨h2, List.pairwise_singleton _ _, fun a ha b hb => by rw [List.mem_singleton] at hb; subst hb; exact hall a ha⟩
     . rw [e1, e3]
       intro x hx
       rcases List.mem_append.1 hx with q | q
       . exact .inl (hall x q)
       . rw [List.mem_singleton] at q; exact .inr q
end Go.Proofs.YtakcacejpbiogaaGreatDoor
namespace Go.Proofs.YtakcacejpbiogaaGreatDoor
open Go.Sx
open Go.RowKit Go.Lib Go.Sort
theorem atS_gNf {n : Nat} {f : Nat -> List DV} (h : ∀ i, i < n -> f i = [st (gT (f i))]) : ∀ i, i < n -> f i = [st (atS (gN n f) i)] := fun i hi => by
 rw [h i hi]
 unfold gN atS
 simp [List.getD_eq_getElem?_getD, hi]
abbrev j0 (L : List ByteArray) : ByteArray := atS L (Int.toNat 0)
abbrev jlo (L : List ByteArray) : ByteArray := (j0 L).extract (Int.toNat 0) (Int.toNat (dotI (j0 L)))
abbrev jhi (L : List ByteArray) : ByteArray := (j0 L).extract (Int.toNat (IntKind.wrap .i64 (dotI (j0 L) + 2))) (Int.toNat ((j0 L).size : Int))
theorem lohi {L : List ByteArray} (h : 0 <= dotI (j0 L)) (hs : (j0 L).size <= 4294967280) : loS L = jlo L /\ hiS L = jhi L /\ i1 L = true := by
 have hd := cut_dot h
 have hl := dot_le _ h
 have e : IntKind.wrap .i64 (dotI (j0 L) + 2) = dotI (j0 L) + 2 := wI_id _ (by omega) (by omega)
 refine ⟨?_, ?_, ?_⟩
 . show (cutS (j0 L) ddS).1 = _; rw [hd]; rfl
 . show (cutS (j0 L) ddS).2.1 = _
   rw [hd]
   show (j0 L).extract ((dotI (j0 L)).toNat + 2) (j0 L).size = (j0 L).extract (Int.toNat (IntKind.wrap .i64 (dotI (j0 L) + 2))) (Int.toNat ((j0 L).size : Int))
   rw [e, Int.toNat_natCast, show (dotI (j0 L) + 2).toNat = (dotI (j0 L)).toNat + 2 by omega]
 . show (cutS (j0 L) ddS).2.2 = _; rw [hd]
theorem nodot {L : List ByteArray} (h : dotI (j0 L) < 0) : i1 L = false := by show (cutS (j0 L) ddS).2.2 = _; rw [cut_nodot h]
theorem rn_2 (s : ByteArray) : (rnS s).2 = numE s := rfl
theorem rn_1 {s : ByteArray} (h : numE s = 0) : (rnS s).1 = numI s := by unfold rnS; rw [if_pos h]
abbrev narI (g : Ig) : Ar := .agg [.d (bo g.s.some), .d (it g.s.lo), .d (it g.s.hi), .d (bo g.c.some), .d (it g.c.m), .d (it g.c.r), .d (bo false), .d (.v (.slice none 0 0))]
def FRInts : List Ar -> Option Rs
 | [.c (.d (.lst 1 n0 f0))] => some ⟨(n0 <= 4294967290 /\ ∀ i, i < n0 -> f0 i = [st (gT (f0 i))]) /\ (1 <= n0 /\ ∀ i, (atS (gN n0 f0) i).size <= 4294967280), .tup [narI (intsR (gN n0 f0)).2.1, .c (.d (it ((intsR (gN n0 f0)).2.2 : Nat))), .c (.d (it (intsR (gN n0 f0)).1))], []⟩
 | _ => none
abbrev sl6R : List (Nat × Sm) := [(42, ⟨[], FRDots⟩), (43, ⟨[], FRNumber⟩)]
theorem sp6R : sumsOk Tryz.prog sl6R := ⟨fcRDots, fcRNumber, trivial⟩
theorem fcRInts : FC Tryz.prog 22 FRInts := by
 intro xs pre r us h hp
 unfold FRInts at h
 split at h
 . rename_i n0 f0
   cases h
   obtain ⟨hp0, hp1⟩ := hp
   refine FCat.of_eq (as' := [.c (.d (.lst 1 n0 fun i => [st (atS (gN n0 f0) i)]))]) ?_ rfl rfl ?_
   . repeat' (first | exact trivial | exact rfl | refine ⟨?_, ?_⟩ | fail)
     all_goals first | exact atS_gNf hp0.2 | exact hp0.2 | exact hp1.2 | exact hp2.2 | (intro i hi; exact (hp0.2 i hi).1) | (intro i hi; exact (hp1.2 i hi).1) | (intro i hi; exact (hp2.2 i hi).1) | grind
   refine fcatA tys_ok Tryz.func22 rfl true ?_
   refine ⟨Nat.le_of_ble_eq_true rfl, ?_⟩
   obtain ⟨hL1, hsz⟩ := hp1
   have hln : (gN n0 f0).length = n0 := gN_length _ _
   generalize gN n0 f0 = L at *
   subst hln
   have hL0 : (0 : Int) <= 0 /\ (0 : Int) < (L.length : Int) := by omega
   have sz0 : (j0 L).size < 4294967281 := by have : (j0 L).size <= 4294967280 := hsz (Int.toNat 0); omega
   have sz2 : (atS L (Int.toNat 2)).size <= 4294967280 := hsz _
   have sz4 : (atS L (Int.toNat 4)).size <= 4294967280 := hsz _
   have szlo : True := trivial
   have szhi : True := trivial
   have hs1 : True /\ True := ⟨trivial, trivial⟩
   have hs2 : True /\ True := hs1
   have hl1 : True /\ True := hs1
   have hl2 : True /\ True := hs1
   have hl3 : True /\ True := hs1
   have hl4 : True /\ True := hs1
   refine ASat.seqA tys_ok (l := sl6R) sp6R (by kernel_rfl) ?_
   repeat' (first | exact trivial | (with_reducible first | exact (fun (h : true = false) => absurd h (by decide)) | exact (fun (h : false = true) => absurd h (by decide)) | exact hL0 | exact hL0.1 | exact hL0.2 | exact sz0 | exact szlo | exact szhi | exact hs1 | exact hs1.1 | exact hs1.2 | exact hs2 | exact hs2.1 | exact hs2.2 | exact hl1 | exact hl1.1 | exact hl1.2 | exact hl2 | exact hl2.1 | exact hl2.2 | exact hl3 | exact hl3.1 | exact hl3.2 | exact hl4 | exact hl4.1 | exact hl4.2 | exact sz2 | exact sz4) | refine ⟨?_, ?_⟩ | intro _)
   all_goals first | (with_reducible first | apply qa | apply qb | apply qc | apply qd) | (conv => whnf)
   all_goals first | rfl | omega | (with_reducible assumption) | skip
   refine ASat.seqA tys_ok (l := sl6R) sp6R (by kernel_rfl) ?_
   repeat' (first | exact trivial | (with_reducible first | exact (fun (h : true = false) => absurd h (by decide)) | exact (fun (h : false = true) => absurd h (by decide)) | exact hL0 | exact hL0.1 | exact hL0.2 | exact sz0 | exact szlo | exact szhi | exact hs1 | exact hs1.1 | exact hs1.2 | exact hs2 | exact hs2.1 | exact hs2.2 | exact hl1 | exact hl1.1 | exact hl1.2 | exact hl2 | exact hl2.1 | exact hl2.2 | exact hl3 | exact hl3.1 | exact hl3.2 | exact hl4 | exact hl4.1 | exact hl4.2 | exact sz2 | exact sz4) | refine ⟨?_, ?_⟩ | intro _)
   all_goals first | (with_reducible first | apply qa | apply qb | apply qc | apply qd) | (conv => whnf)
   all_goals first | rfl | omega | (with_reducible assumption) | skip
   cases c1 : decide (dotI (j0 L) < 0) with
   | true =>
     have tt : i1 L = false := nodot (of_decide_eq_true c1)
     have hR : intsR L = (0, Ig.zero, 0) := by unfold intsR; rw [if_pos tt]
     refine ASat.seqA tys_ok (l := sl6R) sp6R (by kernel_rfl) ?_
     repeat' (first | exact trivial | (with_reducible first | exact (fun (h : true = false) => absurd h (by decide)) | exact (fun (h : false = true) => absurd h (by decide)) | exact hL0 | exact hL0.1 | exact hL0.2 | exact sz0 | exact szlo | exact szhi | exact hs1 | exact hs1.1 | exact hs1.2 | exact hs2 | exact hs2.1 | exact hs2.2 | exact hl1 | exact hl1.1 | exact hl1.2 | exact hl2 | exact hl2.1 | exact hl2.2 | exact hl3 | exact hl3.1 | exact hl3.2 | exact hl4 | exact hl4.1 | exact hl4.2 | exact sz2 | exact sz4 | exact (fun h => absurd (c1.symm.trans h) (by decide))) | refine ⟨?_, ?_⟩ | intro _)
     all_goals first | (with_reducible first | apply qa | apply qb | apply qc | apply qd) | (conv => whnf)
     all_goals first | rfl | omega | (with_reducible assumption) | skip
     all_goals first | (rw [hR]; done) | (rw [hR]; with_reducible exact congrArg (Value.int .i64) ((rn_1 e2).trans (congrArg numI hlo.symm))) | (rw [hR]; with_reducible exact congrArg (Value.int .i64) ((rn_1 e3).trans (congrArg numI hhi.symm))) | (rw [hR]; with_reducible exact congrArg (Value.int .i64) (rn_1 e7)) | (rw [hR]; with_reducible exact congrArg (Value.int .i64) (rn_1 e10)) | (rw [hR, hlo]; with_reducible exact congrArg (Value.int .i64) (rn_2 _)) | (rw [hR, hhi]; with_reducible exact congrArg (Value.int .i64) (rn_2 _)) | (rw [hR]; with_reducible exact congrArg (Value.int .i64) (rn_2 _)) | (rw [hR]; rfl)
   | false =>
     have hD0 : 0 <= dotI (j0 L) := by have := of_decide_eq_false c1; omega
     have hD2 := dot_le _ hD0
     have hs1 : (0 : Int) <= dotI (j0 L) /\ dotI (j0 L) <= ((j0 L).size : Int) := by omega
     have hs2 : (0 : Int) <= IntKind.wrap .i64 (dotI (j0 L) + 2) /\ IntKind.wrap .i64 (dotI (j0 L) + 2) <= ((j0 L).size : Int) := by rw [wI_id _ (by omega) (by omega)]; omega
     obtain ⟨hlo, hhi, hi1⟩ := lohi hD0 (by omega)
     have n1 : ¬ i1 L = false := by rw [hi1]; decide
     have szlo : (jlo L).size <= 4294967280 := Nat.le_trans (ext_sz _ _ _) (by omega)
     have szhi : (jhi L).size <= 4294967280 := Nat.le_trans (ext_sz _ _ _) (by omega)
     refine ASat.seqA tys_ok (l := sl6R) sp6R (by kernel_rfl) ?_
     repeat' (first | exact trivial | (with_reducible first | exact (fun (h : true = false) => absurd h (by decide)) | exact (fun (h : false = true) => absurd h (by decide)) | exact hL0 | exact hL0.1 | exact hL0.2 | exact sz0 | exact szlo | exact szhi | exact hs1 | exact hs1.1 | exact hs1.2 | exact hs2 | exact hs2.1 | exact hs2.2 | exact hl1 | exact hl1.1 | exact hl1.2 | exact hl2 | exact hl2.1 | exact hl2.2 | exact hl3 | exact hl3.1 | exact hl3.2 | exact hl4 | exact hl4.1 | exact hl4.2 | exact sz2 | exact sz4 | exact (fun h => absurd (c1.symm.trans h) (by decide))) | refine ⟨?_, ?_⟩ | intro _)
     all_goals first | (with_reducible first | apply qa | apply qb | apply qc | apply qd) | (conv => whnf)
     all_goals first | rfl | omega | (with_reducible assumption) | skip
     refine ASat.seqA tys_ok (l := sl6R) sp6R (by kernel_rfl) ?_
     repeat' (first | exact trivial | (with_reducible first | exact (fun (h : true = false) => absurd h (by decide)) | exact (fun (h : false = true) => absurd h (by decide)) | exact hL0 | exact hL0.1 | exact hL0.2 | exact sz0 | exact szlo | exact szhi | exact hs1 | exact hs1.1 | exact hs1.2 | exact hs2 | exact hs2.1 | exact hs2.2 | exact hl1 | exact hl1.1 | exact hl1.2 | exact hl2 | exact hl2.1 | exact hl2.2 | exact hl3 | exact hl3.1 | exact hl3.2 | exact hl4 | exact hl4.1 | exact hl4.2 | exact sz2 | exact sz4) | refine ⟨?_, ?_⟩ | intro _)
     all_goals first | (with_reducible first | apply qa | apply qb | apply qc | apply qd) | (conv => whnf)
     all_goals first | rfl | omega | (with_reducible assumption) | skip
     refine ASat.seqA tys_ok (l := sl6R) sp6R (by kernel_rfl) ?_
     repeat' (first | exact trivial | (with_reducible first | exact (fun (h : true = false) => absurd h (by decide)) | exact (fun (h : false = true) => absurd h (by decide)) | exact hL0 | exact hL0.1 | exact hL0.2 | exact sz0 | exact szlo | exact szhi | exact hs1 | exact hs1.1 | exact hs1.2 | exact hs2 | exact hs2.1 | exact hs2.2 | exact hl1 | exact hl1.1 | exact hl1.2 | exact hl2 | exact hl2.1 | exact hl2.2 | exact hl3 | exact hl3.1 | exact hl3.2 | exact hl4 | exact hl4.1 | exact hl4.2 | exact sz2 | exact sz4) | refine ⟨?_, ?_⟩ | intro _)
     all_goals first | (with_reducible first | apply qa | apply qb | apply qc | apply qd) | (conv => whnf)
     all_goals first | rfl | omega | (with_reducible assumption) | skip
     cases c2 : ((rnS (jlo L)).2 != 0) with
     | true =>
       have tt : numE (loS L) ≠ 0 := by have := c2; rw [rn_2] at this; rw [hlo]; simpa using this
       have hR : intsR L = (numE (loS L), Ig.zero, 0) := by unfold intsR; rw [if_neg n1, if_pos tt]
       refine ASat.seqA tys_ok (l := sl6R) sp6R (by kernel_rfl) ?_
       repeat' (first | exact trivial | (with_reducible first | exact (fun (h : true = false) => absurd h (by decide)) | exact (fun (h : false = true) => absurd h (by decide)) | exact hL0 | exact hL0.1 | exact hL0.2 | exact sz0 | exact szlo | exact szhi | exact hs1 | exact hs1.1 | exact hs1.2 | exact hs2 | exact hs2.1 | exact hs2.2 | exact hl1 | exact hl1.1 | exact hl1.2 | exact hl2 | exact hl2.1 | exact hl2.2 | exact hl3 | exact hl3.1 | exact hl3.2 | exact hl4 | exact hl4.1 | exact hl4.2 | exact sz2 | exact sz4 | exact (fun h => absurd (c2.symm.trans h) (by decide))) | refine ⟨?_, ?_⟩ | intro _)
       all_goals first | (with_reducible first | apply qa | apply qb | apply qc | apply qd) | (conv => whnf)
       all_goals first | rfl | omega | (with_reducible assumption) | skip
       all_goals first | (rw [hR]; done) | (rw [hR]; with_reducible exact congrArg (Value.int .i64) ((rn_1 e2).trans (congrArg numI hlo.symm))) | (rw [hR]; with_reducible exact congrArg (Value.int .i64) ((rn_1 e3).trans (congrArg numI hhi.symm))) | (rw [hR]; with_reducible exact congrArg (Value.int .i64) (rn_1 e7)) | (rw [hR]; with_reducible exact congrArg (Value.int .i64) (rn_1 e10)) | (rw [hR, hlo]; with_reducible exact congrArg (Value.int .i64) (rn_2 _)) | (rw [hR, hhi]; with_reducible exact congrArg (Value.int .i64) (rn_2 _)) | (rw [hR]; with_reducible exact congrArg (Value.int .i64) (rn_2 _)) | (rw [hR]; rfl)
     | false =>
       have e2 : numE (jlo L) = 0 := by have := c2; rw [rn_2] at this; simpa using this
       have n2 : ¬ numE (loS L) ≠ 0 := by rw [hlo]; exact fun h => h e2
       refine ASat.seqA tys_ok (l := sl6R) sp6R (by kernel_rfl) ?_
       repeat' (first | exact trivial | (with_reducible first | exact (fun (h : true = false) => absurd h (by decide)) | exact (fun (h : false = true) => absurd h (by decide)) | exact hL0 | exact hL0.1 | exact hL0.2 | exact sz0 | exact szlo | exact szhi | exact hs1 | exact hs1.1 | exact hs1.2 | exact hs2 | exact hs2.1 | exact hs2.2 | exact hl1 | exact hl1.1 | exact hl1.2 | exact hl2 | exact hl2.1 | exact hl2.2 | exact hl3 | exact hl3.1 | exact hl3.2 | exact hl4 | exact hl4.1 | exact hl4.2 | exact sz2 | exact sz4 | exact (fun h => absurd (c2.symm.trans h) (by decide))) | refine ⟨?_, ?_⟩ | intro _)
       all_goals first | (with_reducible first | apply qa | apply qb | apply qc | apply qd) | (conv => whnf)
       all_goals first | rfl | omega | (with_reducible assumption) | skip
       cases c3 : ((rnS (jhi L)).2 != 0) with
       | true =>
         have tt : numE (hiS L) ≠ 0 := by have := c3; rw [rn_2] at this; rw [hhi]; simpa using this
         have hR : intsR L = (numE (hiS L), Ig.zero, 0) := by unfold intsR; rw [if_neg n1, if_neg n2, if_pos tt]
         refine ASat.seqA tys_ok (l := sl6R) sp6R (by kernel_rfl) ?_
         repeat' (first | exact trivial | (with_reducible first | exact (fun (h : true = false) => absurd h (by decide)) | exact (fun (h : false = true) => absurd h (by decide)) | exact hL0 | exact hL0.1 | exact hL0.2 | exact sz0 | exact szlo | exact szhi | exact hs1 | exact hs1.1 | exact hs1.2 | exact hs2 | exact hs2.1 | exact hs2.2 | exact hl1 | exact hl1.1 | exact hl1.2 | exact hl2 | exact hl2.1 | exact hl2.2 | exact hl3 | exact hl3.1 | exact hl3.2 | exact hl4 | exact hl4.1 | exact hl4.2 | exact sz2 | exact sz4 | exact (fun h => absurd (c3.symm.trans h) (by decide))) | refine ⟨?_, ?_⟩ | intro _)
         all_goals first | (with_reducible first | apply qa | apply qb | apply qc | apply qd) | (conv => whnf)
         all_goals first | rfl | omega | (with_reducible assumption) | skip
         all_goals first | (rw [hR]; done) | (rw [hR]; with_reducible exact congrArg (Value.int .i64) ((rn_1 e2).trans (congrArg numI hlo.symm))) | (rw [hR]; with_reducible exact congrArg (Value.int .i64) ((rn_1 e3).trans (congrArg numI hhi.symm))) | (rw [hR]; with_reducible exact congrArg (Value.int .i64) (rn_1 e7)) | (rw [hR]; with_reducible exact congrArg (Value.int .i64) (rn_1 e10)) | (rw [hR, hlo]; with_reducible exact congrArg (Value.int .i64) (rn_2 _)) | (rw [hR, hhi]; with_reducible exact congrArg (Value.int .i64) (rn_2 _)) | (rw [hR]; with_reducible exact congrArg (Value.int .i64) (rn_2 _)) | (rw [hR]; rfl)
       | false =>
         have e3 : numE (jhi L) = 0 := by have := c3; rw [rn_2] at this; simpa using this
         have n3 : ¬ numE (hiS L) ≠ 0 := by rw [hhi]; exact fun h => h e3
         refine ASat.seqA tys_ok (l := sl6R) sp6R (by kernel_rfl) ?_
         repeat' (first | exact trivial | (with_reducible first | exact (fun (h : true = false) => absurd h (by decide)) | exact (fun (h : false = true) => absurd h (by decide)) | exact hL0 | exact hL0.1 | exact hL0.2 | exact sz0 | exact szlo | exact szhi | exact hs1 | exact hs1.1 | exact hs1.2 | exact hs2 | exact hs2.1 | exact hs2.2 | exact hl1 | exact hl1.1 | exact hl1.2 | exact hl2 | exact hl2.1 | exact hl2.2 | exact hl3 | exact hl3.1 | exact hl3.2 | exact hl4 | exact hl4.1 | exact hl4.2 | exact sz2 | exact sz4 | exact (fun h => absurd (c3.symm.trans h) (by decide))) | refine ⟨?_, ?_⟩ | intro _)
         all_goals first | (with_reducible first | apply qa | apply qb | apply qc | apply qd) | (conv => whnf)
         all_goals first | rfl | omega | (with_reducible assumption) | skip
         cases c4 : decide ((rnS (jlo L)).1 > (rnS (jhi L)).1) with
         | true =>
           have tt : i4 L = false := by unfold i4; rw [hlo, hhi, <- rn_1 e2, <- rn_1 e3]; exact decide_eq_false (by have := of_decide_eq_true c4; omega)
           have hR : intsR L = (3, Ig.zero, 0) := by unfold intsR; rw [if_neg n1, if_neg n2, if_neg n3, if_pos tt]
           refine ASat.seqA tys_ok (l := sl6R) sp6R (by kernel_rfl) ?_
           repeat' (first | exact trivial | (with_reducible first | exact (fun (h : true = false) => absurd h (by decide)) | exact (fun (h : false = true) => absurd h (by decide)) | exact hL0 | exact hL0.1 | exact hL0.2 | exact sz0 | exact szlo | exact szhi | exact hs1 | exact hs1.1 | exact hs1.2 | exact hs2 | exact hs2.1 | exact hs2.2 | exact hl1 | exact hl1.1 | exact hl1.2 | exact hl2 | exact hl2.1 | exact hl2.2 | exact hl3 | exact hl3.1 | exact hl3.2 | exact hl4 | exact hl4.1 | exact hl4.2 | exact sz2 | exact sz4 | exact (fun h => absurd (c4.symm.trans h) (by decide))) | refine ⟨?_, ?_⟩ | intro _)
           all_goals first | (with_reducible first | apply qa | apply qb | apply qc | apply qd) | (conv => whnf)
           all_goals first | rfl | omega | (with_reducible assumption) | skip
           all_goals first | (rw [hR]; done) | (rw [hR]; with_reducible exact congrArg (Value.int .i64) ((rn_1 e2).trans (congrArg numI hlo.symm))) | (rw [hR]; with_reducible exact congrArg (Value.int .i64) ((rn_1 e3).trans (congrArg numI hhi.symm))) | (rw [hR]; with_reducible exact congrArg (Value.int .i64) (rn_1 e7)) | (rw [hR]; with_reducible exact congrArg (Value.int .i64) (rn_1 e10)) | (rw [hR, hlo]; with_reducible exact congrArg (Value.int .i64) (rn_2 _)) | (rw [hR, hhi]; with_reducible exact congrArg (Value.int .i64) (rn_2 _)) | (rw [hR]; with_reducible exact congrArg (Value.int .i64) (rn_2 _)) | (rw [hR]; rfl)
         | false =>
           have n4 : ¬ i4 L = false := by unfold i4; rw [hlo, hhi, <- rn_1 e2, <- rn_1 e3, decide_eq_true (by have := of_decide_eq_false c4; omega)]; decide
           refine ASat.seqA tys_ok (l := sl6R) sp6R (by kernel_rfl) ?_
           repeat' (first | exact trivial | (with_reducible first | exact (fun (h : true = false) => absurd h (by decide)) | exact (fun (h : false = true) => absurd h (by decide)) | exact hL0 | exact hL0.1 | exact hL0.2 | exact sz0 | exact szlo | exact szhi | exact hs1 | exact hs1.1 | exact hs1.2 | exact hs2 | exact hs2.1 | exact hs2.2 | exact hl1 | exact hl1.1 | exact hl1.2 | exact hl2 | exact hl2.1 | exact hl2.2 | exact hl3 | exact hl3.1 | exact hl3.2 | exact hl4 | exact hl4.1 | exact hl4.2 | exact sz2 | exact sz4 | exact (fun h => absurd (c4.symm.trans h) (by decide))) | refine ⟨?_, ?_⟩ | intro _)
           all_goals first | (with_reducible first | apply qa | apply qb | apply qc | apply qd) | (conv => whnf)
           all_goals first | rfl | omega | (with_reducible assumption) | skip
           refine ASat.seqA tys_ok (l := sl6R) sp6R (by kernel_rfl) ?_
           repeat' (first | exact trivial | (with_reducible first | exact (fun (h : true = false) => absurd h (by decide)) | exact (fun (h : false = true) => absurd h (by decide)) | exact hL0 | exact hL0.1 | exact hL0.2 | exact sz0 | exact szlo | exact szhi | exact hs1 | exact hs1.1 | exact hs1.2 | exact hs2 | exact hs2.1 | exact hs2.2 | exact hl1 | exact hl1.1 | exact hl1.2 | exact hl2 | exact hl2.1 | exact hl2.2 | exact hl3 | exact hl3.1 | exact hl3.2 | exact hl4 | exact hl4.1 | exact hl4.2 | exact sz2 | exact sz4) | refine ⟨?_, ?_⟩ | intro _)
           all_goals first | (with_reducible first | apply qa | apply qb | apply qc | apply qd) | (conv => whnf)
           all_goals first | rfl | omega | (with_reducible assumption) | skip
           cases c5 : ((L.length : Int) == 1) with
           | true =>
             have tt : (i5a L || i5b L) = true := by unfold i5a; rw [decide_eq_true (by have := eq_of_beq c5; omega)]; rfl
             have hR : intsR L = (0, ⟨⟨true, numI (loS L), numI (hiS L)⟩, ⟨true, 1, 0⟩⟩, 1) := by unfold intsR; rw [if_neg n1, if_neg n2, if_neg n3, if_neg n4, if_pos tt]
             refine ASat.seqA tys_ok (l := sl6R) sp6R (by kernel_rfl) ?_
             repeat' (first | exact trivial | (with_reducible first | exact (fun (h : true = false) => absurd h (by decide)) | exact (fun (h : false = true) => absurd h (by decide)) | exact hL0 | exact hL0.1 | exact hL0.2 | exact sz0 | exact szlo | exact szhi | exact hs1 | exact hs1.1 | exact hs1.2 | exact hs2 | exact hs2.1 | exact hs2.2 | exact hl1 | exact hl1.1 | exact hl1.2 | exact hl2 | exact hl2.1 | exact hl2.2 | exact hl3 | exact hl3.1 | exact hl3.2 | exact hl4 | exact hl4.1 | exact hl4.2 | exact sz2 | exact sz4 | exact (fun h => absurd (c5.symm.trans h) (by decide))) | refine ⟨?_, ?_⟩ | intro _)
             all_goals first | (with_reducible first | apply qa | apply qb | apply qc | apply qd) | (conv => whnf)
             all_goals first | rfl | omega | (with_reducible assumption) | skip
             all_goals first | (rw [hR]; done) | (rw [hR]; with_reducible exact congrArg (Value.int .i64) ((rn_1 e2).trans (congrArg numI hlo.symm))) | (rw [hR]; with_reducible exact congrArg (Value.int .i64) ((rn_1 e3).trans (congrArg numI hhi.symm))) | (rw [hR]; with_reducible exact congrArg (Value.int .i64) (rn_1 e7)) | (rw [hR]; with_reducible exact congrArg (Value.int .i64) (rn_1 e10)) | (rw [hR, hlo]; with_reducible exact congrArg (Value.int .i64) (rn_2 _)) | (rw [hR, hhi]; with_reducible exact congrArg (Value.int .i64) (rn_2 _)) | (rw [hR]; with_reducible exact congrArg (Value.int .i64) (rn_2 _)) | (rw [hR]; rfl)
           | false =>
             have hl1 : (0 : Int) <= 1 /\ (1 : Int) < (L.length : Int) := by have := beq_eq_false_iff_ne.1 c5; omega
             cases c5b : i5b L with
             | true =>
               have tt : (i5a L || i5b L) = true := by rw [c5b, Bool.or_true]
               have hR : intsR L = (0, ⟨⟨true, numI (loS L), numI (hiS L)⟩, ⟨true, 1, 0⟩⟩, 1) := by unfold intsR; rw [if_neg n1, if_neg n2, if_neg n3, if_neg n4, if_pos tt]
               refine ASat.seqA tys_ok (l := sl6R) sp6R (by kernel_rfl) ?_
               repeat' (first | exact trivial | (with_reducible first | exact (fun (h : true = false) => absurd h (by decide)) | exact (fun (h : false = true) => absurd h (by decide)) | exact hL0 | exact hL0.1 | exact hL0.2 | exact sz0 | exact szlo | exact szhi | exact hs1 | exact hs1.1 | exact hs1.2 | exact hs2 | exact hs2.1 | exact hs2.2 | exact hl1 | exact hl1.1 | exact hl1.2 | exact hl2 | exact hl2.1 | exact hl2.2 | exact hl3 | exact hl3.1 | exact hl3.2 | exact hl4 | exact hl4.1 | exact hl4.2 | exact sz2 | exact sz4 | exact (fun h => absurd (c5.symm.trans h) (by decide)) | exact (fun h => absurd (c5b.symm.trans h) (by decide))) | refine ⟨?_, ?_⟩ | intro _)
               all_goals first | (with_reducible first | apply qa | apply qb | apply qc | apply qd) | (conv => whnf)
               all_goals first | rfl | omega | (with_reducible assumption) | skip
               all_goals first | (rw [hR]; done) | (rw [hR]; with_reducible exact congrArg (Value.int .i64) ((rn_1 e2).trans (congrArg numI hlo.symm))) | (rw [hR]; with_reducible exact congrArg (Value.int .i64) ((rn_1 e3).trans (congrArg numI hhi.symm))) | (rw [hR]; with_reducible exact congrArg (Value.int .i64) (rn_1 e7)) | (rw [hR]; with_reducible exact congrArg (Value.int .i64) (rn_1 e10)) | (rw [hR, hlo]; with_reducible exact congrArg (Value.int .i64) (rn_2 _)) | (rw [hR, hhi]; with_reducible exact congrArg (Value.int .i64) (rn_2 _)) | (rw [hR]; with_reducible exact congrArg (Value.int .i64) (rn_2 _)) | (rw [hR]; rfl)
             | false =>
               have n5 : ¬ (i5a L || i5b L) = true := by unfold i5a; rw [decide_eq_false (by have := beq_eq_false_iff_ne.1 c5; omega), Bool.false_or, show i5b L = false from c5b]; decide
               refine ASat.seqA tys_ok (l := sl6R) sp6R (by kernel_rfl) ?_
               repeat' (first | exact trivial | (with_reducible first | exact (fun (h : true = false) => absurd h (by decide)) | exact (fun (h : false = true) => absurd h (by decide)) | exact hL0 | exact hL0.1 | exact hL0.2 | exact sz0 | exact szlo | exact szhi | exact hs1 | exact hs1.1 | exact hs1.2 | exact hs2 | exact hs2.1 | exact hs2.2 | exact hl1 | exact hl1.1 | exact hl1.2 | exact hl2 | exact hl2.1 | exact hl2.2 | exact hl3 | exact hl3.1 | exact hl3.2 | exact hl4 | exact hl4.1 | exact hl4.2 | exact sz2 | exact sz4 | exact (fun h => absurd (c5.symm.trans h) (by decide)) | exact (fun h => absurd (c5b.symm.trans h) (by decide))) | refine ⟨?_, ?_⟩ | intro _)
               all_goals first | (with_reducible first | apply qa | apply qb | apply qc | apply qd) | (conv => whnf)
               all_goals first | rfl | omega | (with_reducible assumption) | skip
               cases c6 : ((L.length : Int) == 2) with
               | true =>
                 have tt : i6 L = false := decide_eq_false (by have := eq_of_beq c6; omega)
                 have hR : intsR L = (3, Ig.zero, 0) := by unfold intsR; rw [if_neg n1, if_neg n2, if_neg n3, if_neg n4, if_neg n5, if_pos tt]
                 refine ASat.seqA tys_ok (l := sl6R) sp6R (by kernel_rfl) ?_
                 repeat' (first | exact trivial | (with_reducible first | exact (fun (h : true = false) => absurd h (by decide)) | exact (fun (h : false = true) => absurd h (by decide)) | exact hL0 | exact hL0.1 | exact hL0.2 | exact sz0 | exact szlo | exact szhi | exact hs1 | exact hs1.1 | exact hs1.2 | exact hs2 | exact hs2.1 | exact hs2.2 | exact hl1 | exact hl1.1 | exact hl1.2 | exact hl2 | exact hl2.1 | exact hl2.2 | exact hl3 | exact hl3.1 | exact hl3.2 | exact hl4 | exact hl4.1 | exact hl4.2 | exact sz2 | exact sz4 | exact (fun h => absurd (c6.symm.trans h) (by decide))) | refine ⟨?_, ?_⟩ | intro _)
                 all_goals first | (with_reducible first | apply qa | apply qb | apply qc | apply qd) | (conv => whnf)
                 all_goals first | rfl | omega | (with_reducible assumption) | skip
                 all_goals first | (rw [hR]; done) | (rw [hR]; with_reducible exact congrArg (Value.int .i64) ((rn_1 e2).trans (congrArg numI hlo.symm))) | (rw [hR]; with_reducible exact congrArg (Value.int .i64) ((rn_1 e3).trans (congrArg numI hhi.symm))) | (rw [hR]; with_reducible exact congrArg (Value.int .i64) (rn_1 e7)) | (rw [hR]; with_reducible exact congrArg (Value.int .i64) (rn_1 e10)) | (rw [hR, hlo]; with_reducible exact congrArg (Value.int .i64) (rn_2 _)) | (rw [hR, hhi]; with_reducible exact congrArg (Value.int .i64) (rn_2 _)) | (rw [hR]; with_reducible exact congrArg (Value.int .i64) (rn_2 _)) | (rw [hR]; rfl)
               | false =>
                 have n6 : ¬ i6 L = false := by unfold i6; rw [decide_eq_true (by have := beq_eq_false_iff_ne.1 c5; have := beq_eq_false_iff_ne.1 c6; omega)]; decide
                 have hl2 : (0 : Int) <= 2 /\ (2 : Int) < (L.length : Int) := by have := beq_eq_false_iff_ne.1 c5; have := beq_eq_false_iff_ne.1 c6; omega
                 refine ASat.seqA tys_ok (l := sl6R) sp6R (by kernel_rfl) ?_
                 repeat' (first | exact trivial | (with_reducible first | exact (fun (h : true = false) => absurd h (by decide)) | exact (fun (h : false = true) => absurd h (by decide)) | exact hL0 | exact hL0.1 | exact hL0.2 | exact sz0 | exact szlo | exact szhi | exact hs1 | exact hs1.1 | exact hs1.2 | exact hs2 | exact hs2.1 | exact hs2.2 | exact hl1 | exact hl1.1 | exact hl1.2 | exact hl2 | exact hl2.1 | exact hl2.2 | exact hl3 | exact hl3.1 | exact hl3.2 | exact hl4 | exact hl4.1 | exact hl4.2 | exact sz2 | exact sz4 | exact (fun h => absurd (c6.symm.trans h) (by decide))) | refine ⟨?_, ?_⟩ | intro _)
                 all_goals first | (with_reducible first | apply qa | apply qb | apply qc | apply qd) | (conv => whnf)
                 all_goals first | rfl | omega | (with_reducible assumption) | skip
                 refine ASat.seqA tys_ok (l := sl6R) sp6R (by kernel_rfl) ?_
                 repeat' (first | exact trivial | (with_reducible first | exact (fun (h : true = false) => absurd h (by decide)) | exact (fun (h : false = true) => absurd h (by decide)) | exact hL0 | exact hL0.1 | exact hL0.2 | exact sz0 | exact szlo | exact szhi | exact hs1 | exact hs1.1 | exact hs1.2 | exact hs2 | exact hs2.1 | exact hs2.2 | exact hl1 | exact hl1.1 | exact hl1.2 | exact hl2 | exact hl2.1 | exact hl2.2 | exact hl3 | exact hl3.1 | exact hl3.2 | exact hl4 | exact hl4.1 | exact hl4.2 | exact sz2 | exact sz4) | refine ⟨?_, ?_⟩ | intro _)
                 all_goals first | (with_reducible first | apply qa | apply qb | apply qc | apply qd) | (conv => whnf)
                 all_goals first | rfl | omega | (with_reducible assumption) | skip
                 cases c7 : ((rnS (atS L (Int.toNat 2))).2 != 0) with
                 | true =>
                   have tt : numE (atS L (Int.toNat 2)) ≠ 0 := by have := c7; rw [rn_2] at this; simpa using this
                   have hR : intsR L = (numE (atS L (Int.toNat 2)), Ig.zero, 0) := by unfold intsR; rw [if_neg n1, if_neg n2, if_neg n3, if_neg n4, if_neg n5, if_neg n6, if_pos tt]
                   refine ASat.seqA tys_ok (l := sl6R) sp6R (by kernel_rfl) ?_
                   repeat' (first | exact trivial | (with_reducible first | exact (fun (h : true = false) => absurd h (by decide)) | exact (fun (h : false = true) => absurd h (by decide)) | exact hL0 | exact hL0.1 | exact hL0.2 | exact sz0 | exact szlo | exact szhi | exact hs1 | exact hs1.1 | exact hs1.2 | exact hs2 | exact hs2.1 | exact hs2.2 | exact hl1 | exact hl1.1 | exact hl1.2 | exact hl2 | exact hl2.1 | exact hl2.2 | exact hl3 | exact hl3.1 | exact hl3.2 | exact hl4 | exact hl4.1 | exact hl4.2 | exact sz2 | exact sz4 | exact (fun h => absurd (c7.symm.trans h) (by decide))) | refine ⟨?_, ?_⟩ | intro _)
                   all_goals first | (with_reducible first | apply qa | apply qb | apply qc | apply qd) | (conv => whnf)
                   all_goals first | rfl | omega | (with_reducible assumption) | skip
                   all_goals first | (rw [hR]; done) | (rw [hR]; with_reducible exact congrArg (Value.int .i64) ((rn_1 e2).trans (congrArg numI hlo.symm))) | (rw [hR]; with_reducible exact congrArg (Value.int .i64) ((rn_1 e3).trans (congrArg numI hhi.symm))) | (rw [hR]; with_reducible exact congrArg (Value.int .i64) (rn_1 e7)) | (rw [hR]; with_reducible exact congrArg (Value.int .i64) (rn_1 e10)) | (rw [hR, hlo]; with_reducible exact congrArg (Value.int .i64) (rn_2 _)) | (rw [hR, hhi]; with_reducible exact congrArg (Value.int .i64) (rn_2 _)) | (rw [hR]; with_reducible exact congrArg (Value.int .i64) (rn_2 _)) | (rw [hR]; rfl)
                 | false =>
                   have e7 : numE (atS L (Int.toNat 2)) = 0 := by have := c7; rw [rn_2] at this; simpa using this
                   have n7 : ¬ numE (atS L (Int.toNat 2)) ≠ 0 := fun h => h e7
                   refine ASat.seqA tys_ok (l := sl6R) sp6R (by kernel_rfl) ?_
                   repeat' (first | exact trivial | (with_reducible first | exact (fun (h : true = false) => absurd h (by decide)) | exact (fun (h : false = true) => absurd h (by decide)) | exact hL0 | exact hL0.1 | exact hL0.2 | exact sz0 | exact szlo | exact szhi | exact hs1 | exact hs1.1 | exact hs1.2 | exact hs2 | exact hs2.1 | exact hs2.2 | exact hl1 | exact hl1.1 | exact hl1.2 | exact hl2 | exact hl2.1 | exact hl2.2 | exact hl3 | exact hl3.1 | exact hl3.2 | exact hl4 | exact hl4.1 | exact hl4.2 | exact sz2 | exact sz4 | exact (fun h => absurd (c7.symm.trans h) (by decide))) | refine ⟨?_, ?_⟩ | intro _)
                   all_goals first | (with_reducible first | apply qa | apply qb | apply qc | apply qd) | (conv => whnf)
                   all_goals first | rfl | omega | (with_reducible assumption) | skip
                   cases c8 : ((rnS (atS L (Int.toNat 2))).1 == 1) with
                   | true =>
                     have tt : (i8a L && i8b L) = false := by unfold i8a; rw [<- rn_1 e7, eq_of_beq c8]; rfl
                     have hR : intsR L = (3, Ig.zero, 0) := by unfold intsR; rw [if_neg n1, if_neg n2, if_neg n3, if_neg n4, if_neg n5, if_neg n6, if_neg n7, if_pos tt]
                     refine ASat.seqA tys_ok (l := sl6R) sp6R (by kernel_rfl) ?_
                     repeat' (first | exact trivial | (with_reducible first | exact (fun (h : true = false) => absurd h (by decide)) | exact (fun (h : false = true) => absurd h (by decide)) | exact hL0 | exact hL0.1 | exact hL0.2 | exact sz0 | exact szlo | exact szhi | exact hs1 | exact hs1.1 | exact hs1.2 | exact hs2 | exact hs2.1 | exact hs2.2 | exact hl1 | exact hl1.1 | exact hl1.2 | exact hl2 | exact hl2.1 | exact hl2.2 | exact hl3 | exact hl3.1 | exact hl3.2 | exact hl4 | exact hl4.1 | exact hl4.2 | exact sz2 | exact sz4 | exact (fun h => absurd (c8.symm.trans h) (by decide))) | refine ⟨?_, ?_⟩ | intro _)
                     all_goals first | (with_reducible first | apply qa | apply qb | apply qc | apply qd) | (conv => whnf)
                     all_goals first | rfl | omega | (with_reducible assumption) | skip
                     all_goals first | (rw [hR]; done) | (rw [hR]; with_reducible exact congrArg (Value.int .i64) ((rn_1 e2).trans (congrArg numI hlo.symm))) | (rw [hR]; with_reducible exact congrArg (Value.int .i64) ((rn_1 e3).trans (congrArg numI hhi.symm))) | (rw [hR]; with_reducible exact congrArg (Value.int .i64) (rn_1 e7)) | (rw [hR]; with_reducible exact congrArg (Value.int .i64) (rn_1 e10)) | (rw [hR, hlo]; with_reducible exact congrArg (Value.int .i64) (rn_2 _)) | (rw [hR, hhi]; with_reducible exact congrArg (Value.int .i64) (rn_2 _)) | (rw [hR]; with_reducible exact congrArg (Value.int .i64) (rn_2 _)) | (rw [hR]; rfl)
                   | false =>
                     cases c9 : decide ((rnS (atS L (Int.toNat 2))).1 < 0) with
                     | true =>
                       have tt : (i8a L && i8b L) = false := by unfold i8b; rw [<- rn_1 e7, decide_eq_false (by have := of_decide_eq_true c9; omega), Bool.and_false]
                       have hR : intsR L = (3, Ig.zero, 0) := by unfold intsR; rw [if_neg n1, if_neg n2, if_neg n3, if_neg n4, if_neg n5, if_neg n6, if_neg n7, if_pos tt]
                       refine ASat.seqA tys_ok (l := sl6R) sp6R (by kernel_rfl) ?_
                       repeat' (first | exact trivial | (with_reducible first | exact (fun (h : true = false) => absurd h (by decide)) | exact (fun (h : false = true) => absurd h (by decide)) | exact hL0 | exact hL0.1 | exact hL0.2 | exact sz0 | exact szlo | exact szhi | exact hs1 | exact hs1.1 | exact hs1.2 | exact hs2 | exact hs2.1 | exact hs2.2 | exact hl1 | exact hl1.1 | exact hl1.2 | exact hl2 | exact hl2.1 | exact hl2.2 | exact hl3 | exact hl3.1 | exact hl3.2 | exact hl4 | exact hl4.1 | exact hl4.2 | exact sz2 | exact sz4 | exact (fun h => absurd (c8.symm.trans h) (by decide)) | exact (fun h => absurd (c9.symm.trans h) (by decide))) | refine ⟨?_, ?_⟩ | intro _)
                       all_goals first | (with_reducible first | apply qa | apply qb | apply qc | apply qd) | (conv => whnf)
                       all_goals first | rfl | omega | (with_reducible assumption) | skip
                       all_goals first | (rw [hR]; done) | (rw [hR]; with_reducible exact congrArg (Value.int .i64) ((rn_1 e2).trans (congrArg numI hlo.symm))) | (rw [hR]; with_reducible exact congrArg (Value.int .i64) ((rn_1 e3).trans (congrArg numI hhi.symm))) | (rw [hR]; with_reducible exact congrArg (Value.int .i64) (rn_1 e7)) | (rw [hR]; with_reducible exact congrArg (Value.int .i64) (rn_1 e10)) | (rw [hR, hlo]; with_reducible exact congrArg (Value.int .i64) (rn_2 _)) | (rw [hR, hhi]; with_reducible exact congrArg (Value.int .i64) (rn_2 _)) | (rw [hR]; with_reducible exact congrArg (Value.int .i64) (rn_2 _)) | (rw [hR]; rfl)
                     | false =>
                       have n8 : ¬ (i8a L && i8b L) = false := by unfold i8a i8b; rw [<- rn_1 e7, bne_iff_ne.2 (beq_eq_false_iff_ne.1 c8), decide_eq_true (by have := of_decide_eq_false c9; omega)]; decide
                       have hm0 : 0 <= (rnS (atS L (Int.toNat 2))).1 := by have := of_decide_eq_false c9; omega
                       cases c10 : decide ((L.length : Int) < 5) with
                       | true =>
                         have tt : (i9a L && i9b L) = false := by unfold i9a; rw [decide_eq_false (by have := of_decide_eq_true c10; omega), Bool.false_and]
                         have hR : intsR L = (3, Ig.zero, 0) := by unfold intsR; rw [if_neg n1, if_neg n2, if_neg n3, if_neg n4, if_neg n5, if_neg n6, if_neg n7, if_neg n8, if_pos tt]
                         refine ASat.seqA tys_ok (l := sl6R) sp6R (by kernel_rfl) ?_
                         repeat' (first | exact trivial | (with_reducible first | exact (fun (h : true = false) => absurd h (by decide)) | exact (fun (h : false = true) => absurd h (by decide)) | exact hL0 | exact hL0.1 | exact hL0.2 | exact sz0 | exact szlo | exact szhi | exact hs1 | exact hs1.1 | exact hs1.2 | exact hs2 | exact hs2.1 | exact hs2.2 | exact hl1 | exact hl1.1 | exact hl1.2 | exact hl2 | exact hl2.1 | exact hl2.2 | exact hl3 | exact hl3.1 | exact hl3.2 | exact hl4 | exact hl4.1 | exact hl4.2 | exact sz2 | exact sz4 | exact (fun h => absurd (c8.symm.trans h) (by decide)) | exact (fun h => absurd (c9.symm.trans h) (by decide)) | exact (fun h => absurd (c10.symm.trans h) (by decide))) | refine ⟨?_, ?_⟩ | intro _)
                         all_goals first | (with_reducible first | apply qa | apply qb | apply qc | apply qd) | (conv => whnf)
                         all_goals first | rfl | omega | (with_reducible assumption) | skip
                         all_goals first | (rw [hR]; done) | (rw [hR]; with_reducible exact congrArg (Value.int .i64) ((rn_1 e2).trans (congrArg numI hlo.symm))) | (rw [hR]; with_reducible exact congrArg (Value.int .i64) ((rn_1 e3).trans (congrArg numI hhi.symm))) | (rw [hR]; with_reducible exact congrArg (Value.int .i64) (rn_1 e7)) | (rw [hR]; with_reducible exact congrArg (Value.int .i64) (rn_1 e10)) | (rw [hR, hlo]; with_reducible exact congrArg (Value.int .i64) (rn_2 _)) | (rw [hR, hhi]; with_reducible exact congrArg (Value.int .i64) (rn_2 _)) | (rw [hR]; with_reducible exact congrArg (Value.int .i64) (rn_2 _)) | (rw [hR]; rfl)
                       | false =>
                         have hl3 : (0 : Int) <= 3 /\ (3 : Int) < (L.length : Int) := by have := of_decide_eq_false c10; omega
                         have hl4 : (0 : Int) <= 4 /\ (4 : Int) < (L.length : Int) := by have := of_decide_eq_false c10; omega
                         cases c11 : (!((atS L (Int.toNat 3)).toList == (⟨#[97, 116]⟩ : ByteArray).toList)) with
                         | true =>
                           have tt : (i9a L && i9b L) = false := by unfold i9b; rw [show ((atS L (Int.toNat 3)).toList == (⟨#[97, 116]⟩ : ByteArray).toList) = false by simpa using c11, Bool.and_false]
                           have hR : intsR L = (3, Ig.zero, 0) := by unfold intsR; rw [if_neg n1, if_neg n2, if_neg n3, if_neg n4, if_neg n5, if_neg n6, if_neg n7, if_neg n8, if_pos tt]
                           refine ASat.seqA tys_ok (l := sl6R) sp6R (by kernel_rfl) ?_
                           repeat' (first | exact trivial | (with_reducible first | exact (fun (h : true = false) => absurd h (by decide)) | exact (fun (h : false = true) => absurd h (by decide)) | exact hL0 | exact hL0.1 | exact hL0.2 | exact sz0 | exact szlo | exact szhi | exact hs1 | exact hs1.1 | exact hs1.2 | exact hs2 | exact hs2.1 | exact hs2.2 | exact hl1 | exact hl1.1 | exact hl1.2 | exact hl2 | exact hl2.1 | exact hl2.2 | exact hl3 | exact hl3.1 | exact hl3.2 | exact hl4 | exact hl4.1 | exact hl4.2 | exact sz2 | exact sz4 | exact (fun h => absurd (c8.symm.trans h) (by decide)) | exact (fun h => absurd (c9.symm.trans h) (by decide)) | exact (fun h => absurd (c10.symm.trans h) (by decide)) | exact (fun h => absurd (c11.symm.trans h) (by decide))) | refine ⟨?_, ?_⟩ | intro _)
                           all_goals first | (with_reducible first | apply qa | apply qb | apply qc | apply qd) | (conv => whnf)
                           all_goals first | rfl | omega | (with_reducible assumption) | skip
                           all_goals first | (rw [hR]; done) | (rw [hR]; with_reducible exact congrArg (Value.int .i64) ((rn_1 e2).trans (congrArg numI hlo.symm))) | (rw [hR]; with_reducible exact congrArg (Value.int .i64) ((rn_1 e3).trans (congrArg numI hhi.symm))) | (rw [hR]; with_reducible exact congrArg (Value.int .i64) (rn_1 e7)) | (rw [hR]; with_reducible exact congrArg (Value.int .i64) (rn_1 e10)) | (rw [hR, hlo]; with_reducible exact congrArg (Value.int .i64) (rn_2 _)) | (rw [hR, hhi]; with_reducible exact congrArg (Value.int .i64) (rn_2 _)) | (rw [hR]; with_reducible exact congrArg (Value.int .i64) (rn_2 _)) | (rw [hR]; rfl)
                         | false =>
                           have n9 : ¬ (i9a L && i9b L) = false := by unfold i9a i9b; rw [show ((atS L (Int.toNat 3)).toList == (⟨#[97, 116]⟩ : ByteArray).toList) = true by simpa using c11, decide_eq_true (by have := of_decide_eq_false c10; omega)]; decide
                           refine ASat.seqA tys_ok (l := sl6R) sp6R (by kernel_rfl) ?_
                           repeat' (first | exact trivial | (with_reducible first | exact (fun (h : true = false) => absurd h (by decide)) | exact (fun (h : false = true) => absurd h (by decide)) | exact hL0 | exact hL0.1 | exact hL0.2 | exact sz0 | exact szlo | exact szhi | exact hs1 | exact hs1.1 | exact hs1.2 | exact hs2 | exact hs2.1 | exact hs2.2 | exact hl1 | exact hl1.1 | exact hl1.2 | exact hl2 | exact hl2.1 | exact hl2.2 | exact hl3 | exact hl3.1 | exact hl3.2 | exact hl4 | exact hl4.1 | exact hl4.2 | exact sz2 | exact sz4 | exact (fun h => absurd (c8.symm.trans h) (by decide)) | exact (fun h => absurd (c9.symm.trans h) (by decide)) | exact (fun h => absurd (c10.symm.trans h) (by decide)) | exact (fun h => absurd (c11.symm.trans h) (by decide))) | refine ⟨?_, ?_⟩ | intro _)
                           all_goals first | (with_reducible first | apply qa | apply qb | apply qc | apply qd) | (conv => whnf)
                           all_goals first | rfl | omega | (with_reducible assumption) | skip
                           refine ASat.seqA tys_ok (l := sl6R) sp6R (by kernel_rfl) ?_
                           repeat' (first | exact trivial | (with_reducible first | exact (fun (h : true = false) => absurd h (by decide)) | exact (fun (h : false = true) => absurd h (by decide)) | exact hL0 | exact hL0.1 | exact hL0.2 | exact sz0 | exact szlo | exact szhi | exact hs1 | exact hs1.1 | exact hs1.2 | exact hs2 | exact hs2.1 | exact hs2.2 | exact hl1 | exact hl1.1 | exact hl1.2 | exact hl2 | exact hl2.1 | exact hl2.2 | exact hl3 | exact hl3.1 | exact hl3.2 | exact hl4 | exact hl4.1 | exact hl4.2 | exact sz2 | exact sz4) | refine ⟨?_, ?_⟩ | intro _)
                           all_goals first | (with_reducible first | apply qa | apply qb | apply qc | apply qd) | (conv => whnf)
                           all_goals first | rfl | omega | (with_reducible assumption) | skip
                           cases c12 : ((rnS (atS L (Int.toNat 4))).2 != 0) with
                           | true =>
                             have tt : numE (atS L (Int.toNat 4)) ≠ 0 := by have := c12; rw [rn_2] at this; simpa using this
                             have hR : intsR L = (numE (atS L (Int.toNat 4)), Ig.zero, 0) := by unfold intsR; rw [if_neg n1, if_neg n2, if_neg n3, if_neg n4, if_neg n5, if_neg n6, if_neg n7, if_neg n8, if_neg n9, if_pos tt]
                             refine ASat.seqA tys_ok (l := sl6R) sp6R (by kernel_rfl) ?_
                             repeat' (first | exact trivial | (with_reducible first | exact (fun (h : true = false) => absurd h (by decide)) | exact (fun (h : false = true) => absurd h (by decide)) | exact hL0 | exact hL0.1 | exact hL0.2 | exact sz0 | exact szlo | exact szhi | exact hs1 | exact hs1.1 | exact hs1.2 | exact hs2 | exact hs2.1 | exact hs2.2 | exact hl1 | exact hl1.1 | exact hl1.2 | exact hl2 | exact hl2.1 | exact hl2.2 | exact hl3 | exact hl3.1 | exact hl3.2 | exact hl4 | exact hl4.1 | exact hl4.2 | exact sz2 | exact sz4 | exact (fun h => absurd (c12.symm.trans h) (by decide))) | refine ⟨?_, ?_⟩ | intro _)
                             all_goals first | (with_reducible first | apply qa | apply qb | apply qc | apply qd) | (conv => whnf)
                             all_goals first | rfl | omega | (with_reducible assumption) | skip
                             all_goals first | (rw [hR]; done) | (rw [hR]; with_reducible exact congrArg (Value.int .i64) ((rn_1 e2).trans (congrArg numI hlo.symm))) | (rw [hR]; with_reducible exact congrArg (Value.int .i64) ((rn_1 e3).trans (congrArg numI hhi.symm))) | (rw [hR]; with_reducible exact congrArg (Value.int .i64) (rn_1 e7)) | (rw [hR]; with_reducible exact congrArg (Value.int .i64) (rn_1 e10)) | (rw [hR, hlo]; with_reducible exact congrArg (Value.int .i64) (rn_2 _)) | (rw [hR, hhi]; with_reducible exact congrArg (Value.int .i64) (rn_2 _)) | (rw [hR]; with_reducible exact congrArg (Value.int .i64) (rn_2 _)) | (rw [hR]; rfl)
                           | false =>
                             have e10 : numE (atS L (Int.toNat 4)) = 0 := by have := c12; rw [rn_2] at this; simpa using this
                             have n10 : ¬ numE (atS L (Int.toNat 4)) ≠ 0 := fun h => h e10
                             refine ASat.seqA tys_ok (l := sl6R) sp6R (by kernel_rfl) ?_
                             repeat' (first | exact trivial | (with_reducible first | exact (fun (h : true = false) => absurd h (by decide)) | exact (fun (h : false = true) => absurd h (by decide)) | exact hL0 | exact hL0.1 | exact hL0.2 | exact sz0 | exact szlo | exact szhi | exact hs1 | exact hs1.1 | exact hs1.2 | exact hs2 | exact hs2.1 | exact hs2.2 | exact hl1 | exact hl1.1 | exact hl1.2 | exact hl2 | exact hl2.1 | exact hl2.2 | exact hl3 | exact hl3.1 | exact hl3.2 | exact hl4 | exact hl4.1 | exact hl4.2 | exact sz2 | exact sz4 | exact (fun h => absurd (c12.symm.trans h) (by decide))) | refine ⟨?_, ?_⟩ | intro _)
                             all_goals first | (with_reducible first | apply qa | apply qb | apply qc | apply qd) | (conv => whnf)
                             all_goals first | rfl | omega | (with_reducible assumption) | skip
                             cases c13 : decide ((rnS (atS L (Int.toNat 2))).1 > 0) with
                             | true =>
                               cases c14 : decide ((rnS (atS L (Int.toNat 4))).1 < 0) with
                               | true =>
                                 have tt : (i11a L || (i11b L && i11c L)) = false := by have := of_decide_eq_true c13; have := of_decide_eq_true c14; unfold i11a i11b i11c; rw [<- rn_1 e7, <- rn_1 e10]; simp only [Bool.or_eq_false_iff, Bool.and_eq_false_iff, beq_eq_false_iff_ne, decide_eq_false_iff_not, ne_eq]; omega
                                 have hR : intsR L = (3, Ig.zero, 0) := by unfold intsR; rw [if_neg n1, if_neg n2, if_neg n3, if_neg n4, if_neg n5, if_neg n6, if_neg n7, if_neg n8, if_neg n9, if_neg n10, if_pos tt]
                                 refine ASat.seqA tys_ok (l := sl6R) sp6R (by kernel_rfl) ?_
                                 repeat' (first | exact trivial | (with_reducible first | exact (fun (h : true = false) => absurd h (by decide)) | exact (fun (h : false = true) => absurd h (by decide)) | exact hL0 | exact hL0.1 | exact hL0.2 | exact sz0 | exact szlo | exact szhi | exact hs1 | exact hs1.1 | exact hs1.2 | exact hs2 | exact hs2.1 | exact hs2.2 | exact hl1 | exact hl1.1 | exact hl1.2 | exact hl2 | exact hl2.1 | exact hl2.2 | exact hl3 | exact hl3.1 | exact hl3.2 | exact hl4 | exact hl4.1 | exact hl4.2 | exact sz2 | exact sz4 | exact (fun h => absurd (c13.symm.trans h) (by decide)) | exact (fun h => absurd (c14.symm.trans h) (by decide))) | refine ⟨?_, ?_⟩ | intro _)
                                 all_goals first | (with_reducible first | apply qa | apply qb | apply qc | apply qd) | (conv => whnf)
                                 all_goals first | rfl | omega | (with_reducible assumption) | skip
                                 all_goals first | (rw [hR]; done) | (rw [hR]; with_reducible exact congrArg (Value.int .i64) ((rn_1 e2).trans (congrArg numI hlo.symm))) | (rw [hR]; with_reducible exact congrArg (Value.int .i64) ((rn_1 e3).trans (congrArg numI hhi.symm))) | (rw [hR]; with_reducible exact congrArg (Value.int .i64) (rn_1 e7)) | (rw [hR]; with_reducible exact congrArg (Value.int .i64) (rn_1 e10)) | (rw [hR, hlo]; with_reducible exact congrArg (Value.int .i64) (rn_2 _)) | (rw [hR, hhi]; with_reducible exact congrArg (Value.int .i64) (rn_2 _)) | (rw [hR]; with_reducible exact congrArg (Value.int .i64) (rn_2 _)) | (rw [hR]; rfl)
                               | false =>
                                 cases c15 : decide ((rnS (atS L (Int.toNat 4))).1 ≥ (rnS (atS L (Int.toNat 2))).1) with
                                 | true =>
                                   have tt : (i11a L || (i11b L && i11c L)) = false := by have := of_decide_eq_true c13; have := of_decide_eq_true c15; unfold i11a i11b i11c; rw [<- rn_1 e7, <- rn_1 e10]; simp only [Bool.or_eq_false_iff, Bool.and_eq_false_iff, beq_eq_false_iff_ne, decide_eq_false_iff_not, ne_eq]; omega
                                   have hR : intsR L = (3, Ig.zero, 0) := by unfold intsR; rw [if_neg n1, if_neg n2, if_neg n3, if_neg n4, if_neg n5, if_neg n6, if_neg n7, if_neg n8, if_neg n9, if_neg n10, if_pos tt]
                                   refine ASat.seqA tys_ok (l := sl6R) sp6R (by kernel_rfl) ?_
                                   repeat' (first | exact trivial | (with_reducible first | exact (fun (h : true = false) => absurd h (by decide)) | exact (fun (h : false = true) => absurd h (by decide)) | exact hL0 | exact hL0.1 | exact hL0.2 | exact sz0 | exact szlo | exact szhi | exact hs1 | exact hs1.1 | exact hs1.2 | exact hs2 | exact hs2.1 | exact hs2.2 | exact hl1 | exact hl1.1 | exact hl1.2 | exact hl2 | exact hl2.1 | exact hl2.2 | exact hl3 | exact hl3.1 | exact hl3.2 | exact hl4 | exact hl4.1 | exact hl4.2 | exact sz2 | exact sz4 | exact (fun h => absurd (c13.symm.trans h) (by decide)) | exact (fun h => absurd (c14.symm.trans h) (by decide)) | exact (fun h => absurd (c15.symm.trans h) (by decide))) | refine ⟨?_, ?_⟩ | intro _)
                                   all_goals first | (with_reducible first | apply qa | apply qb | apply qc | apply qd) | (conv => whnf)
                                   all_goals first | rfl | omega | (with_reducible assumption) | skip
                                   all_goals first | (rw [hR]; done) | (rw [hR]; with_reducible exact congrArg (Value.int .i64) ((rn_1 e2).trans (congrArg numI hlo.symm))) | (rw [hR]; with_reducible exact congrArg (Value.int .i64) ((rn_1 e3).trans (congrArg numI hhi.symm))) | (rw [hR]; with_reducible exact congrArg (Value.int .i64) (rn_1 e7)) | (rw [hR]; with_reducible exact congrArg (Value.int .i64) (rn_1 e10)) | (rw [hR, hlo]; with_reducible exact congrArg (Value.int .i64) (rn_2 _)) | (rw [hR, hhi]; with_reducible exact congrArg (Value.int .i64) (rn_2 _)) | (rw [hR]; with_reducible exact congrArg (Value.int .i64) (rn_2 _)) | (rw [hR]; rfl)
                                 | false =>
                                   have n11 : ¬ (i11a L || (i11b L && i11c L)) = false := by have := of_decide_eq_true c13; have := of_decide_eq_false c14; have := of_decide_eq_false c15; unfold i11a i11b i11c; rw [<- rn_1 e7, <- rn_1 e10]; simp only [Bool.or_eq_false_iff, Bool.and_eq_false_iff, beq_eq_false_iff_ne, decide_eq_false_iff_not, ne_eq]; omega
                                   have hR : intsR L = (0, ⟨⟨true, numI (loS L), numI (hiS L)⟩, ⟨true, numI (atS L (Int.toNat 2)), numI (atS L (Int.toNat 4))⟩⟩, 5) := by unfold intsR; rw [if_neg n1, if_neg n2, if_neg n3, if_neg n4, if_neg n5, if_neg n6, if_neg n7, if_neg n8, if_neg n9, if_neg n10, if_neg n11]
                                   refine ASat.seqA tys_ok (l := sl6R) sp6R (by kernel_rfl) ?_
                                   repeat' (first | exact trivial | (with_reducible first | exact (fun (h : true = false) => absurd h (by decide)) | exact (fun (h : false = true) => absurd h (by decide)) | exact hL0 | exact hL0.1 | exact hL0.2 | exact sz0 | exact szlo | exact szhi | exact hs1 | exact hs1.1 | exact hs1.2 | exact hs2 | exact hs2.1 | exact hs2.2 | exact hl1 | exact hl1.1 | exact hl1.2 | exact hl2 | exact hl2.1 | exact hl2.2 | exact hl3 | exact hl3.1 | exact hl3.2 | exact hl4 | exact hl4.1 | exact hl4.2 | exact sz2 | exact sz4 | exact (fun h => absurd (c13.symm.trans h) (by decide)) | exact (fun h => absurd (c14.symm.trans h) (by decide)) | exact (fun h => absurd (c15.symm.trans h) (by decide))) | refine ⟨?_, ?_⟩ | intro _)
                                   all_goals first | (with_reducible first | apply qa | apply qb | apply qc | apply qd) | (conv => whnf)
                                   all_goals first | rfl | omega | (with_reducible assumption) | skip
                                   refine ASat.seqA tys_ok (l := sl6R) sp6R (by kernel_rfl) ?_
                                   repeat' (first | exact trivial | (with_reducible first | exact (fun (h : true = false) => absurd h (by decide)) | exact (fun (h : false = true) => absurd h (by decide)) | exact hL0 | exact hL0.1 | exact hL0.2 | exact sz0 | exact szlo | exact szhi | exact hs1 | exact hs1.1 | exact hs1.2 | exact hs2 | exact hs2.1 | exact hs2.2 | exact hl1 | exact hl1.1 | exact hl1.2 | exact hl2 | exact hl2.1 | exact hl2.2 | exact hl3 | exact hl3.1 | exact hl3.2 | exact hl4 | exact hl4.1 | exact hl4.2 | exact sz2 | exact sz4) | refine ⟨?_, ?_⟩ | intro _)
                                   all_goals first | (with_reducible first | apply qa | apply qb | apply qc | apply qd) | (conv => whnf)
                                   all_goals first | rfl | omega | (with_reducible assumption) | skip
                                   refine ASat.seqA tys_ok (l := sl6R) sp6R (by kernel_rfl) ?_
                                   repeat' (first | exact trivial | (with_reducible first | exact (fun (h : true = false) => absurd h (by decide)) | exact (fun (h : false = true) => absurd h (by decide)) | exact hL0 | exact hL0.1 | exact hL0.2 | exact sz0 | exact szlo | exact szhi | exact hs1 | exact hs1.1 | exact hs1.2 | exact hs2 | exact hs2.1 | exact hs2.2 | exact hl1 | exact hl1.1 | exact hl1.2 | exact hl2 | exact hl2.1 | exact hl2.2 | exact hl3 | exact hl3.1 | exact hl3.2 | exact hl4 | exact hl4.1 | exact hl4.2 | exact sz2 | exact sz4) | refine ⟨?_, ?_⟩ | intro _)
                                   all_goals first | (with_reducible first | apply qa | apply qb | apply qc | apply qd) | (conv => whnf)
                                   all_goals first | rfl | omega | (with_reducible assumption) | skip
                                   refine ASat.seqA tys_ok (l := sl6R) sp6R (by kernel_rfl) ?_
                                   repeat' (first | exact trivial | (with_reducible first | exact (fun (h : true = false) => absurd h (by decide)) | exact (fun (h : false = true) => absurd h (by decide)) | exact hL0 | exact hL0.1 | exact hL0.2 | exact sz0 | exact szlo | exact szhi | exact hs1 | exact hs1.1 | exact hs1.2 | exact hs2 | exact hs2.1 | exact hs2.2 | exact hl1 | exact hl1.1 | exact hl1.2 | exact hl2 | exact hl2.1 | exact hl2.2 | exact hl3 | exact hl3.1 | exact hl3.2 | exact hl4 | exact hl4.1 | exact hl4.2 | exact sz2 | exact sz4) | refine ⟨?_, ?_⟩ | intro _)
                                   all_goals first | (with_reducible first | apply qa | apply qb | apply qc | apply qd) | (conv => whnf)
                                   all_goals first | rfl | omega | (with_reducible assumption) | skip
                                   refine ASat.vc tys_ok (l := []) trivial (by kernel_rfl) ?_
                                   repeat' (first | exact trivial | refine ⟨?_, ?_⟩ | intro _)
                                   all_goals first | (with_reducible first | apply qa | apply qb | apply qc | apply qd) | (conv => whnf)
                                   all_goals first | (rw [hR]; done) | (rw [hR]; with_reducible exact congrArg (Value.int .i64) ((rn_1 e2).trans (congrArg numI hlo.symm))) | (rw [hR]; with_reducible exact congrArg (Value.int .i64) ((rn_1 e3).trans (congrArg numI hhi.symm))) | (rw [hR]; with_reducible exact congrArg (Value.int .i64) (rn_1 e7)) | (rw [hR]; with_reducible exact congrArg (Value.int .i64) (rn_1 e10)) | (rw [hR, hlo]; with_reducible exact congrArg (Value.int .i64) (rn_2 _)) | (rw [hR, hhi]; with_reducible exact congrArg (Value.int .i64) (rn_2 _)) | (rw [hR]; with_reducible exact congrArg (Value.int .i64) (rn_2 _)) | (rw [hR]; rfl)
                             | false =>
                               have n11 : ¬ (i11a L || (i11b L && i11c L)) = false := by have := of_decide_eq_false c13; have := hm0; unfold i11a i11b i11c; rw [<- rn_1 e7, <- rn_1 e10]; simp only [Bool.or_eq_false_iff, Bool.and_eq_false_iff, beq_eq_false_iff_ne, decide_eq_false_iff_not, ne_eq]; omega
                               have hR : intsR L = (0, ⟨⟨true, numI (loS L), numI (hiS L)⟩, ⟨true, numI (atS L (Int.toNat 2)), numI (atS L (Int.toNat 4))⟩⟩, 5) := by unfold intsR; rw [if_neg n1, if_neg n2, if_neg n3, if_neg n4, if_neg n5, if_neg n6, if_neg n7, if_neg n8, if_neg n9, if_neg n10, if_neg n11]
                               refine ASat.seqA tys_ok (l := sl6R) sp6R (by kernel_rfl) ?_
                               repeat' (first | exact trivial | (with_reducible first | exact (fun (h : true = false) => absurd h (by decide)) | exact (fun (h : false = true) => absurd h (by decide)) | exact hL0 | exact hL0.1 | exact hL0.2 | exact sz0 | exact szlo | exact szhi | exact hs1 | exact hs1.1 | exact hs1.2 | exact hs2 | exact hs2.1 | exact hs2.2 | exact hl1 | exact hl1.1 | exact hl1.2 | exact hl2 | exact hl2.1 | exact hl2.2 | exact hl3 | exact hl3.1 | exact hl3.2 | exact hl4 | exact hl4.1 | exact hl4.2 | exact sz2 | exact sz4 | exact (fun h => absurd (c13.symm.trans h) (by decide))) | refine ⟨?_, ?_⟩ | intro _)
                               all_goals first | (with_reducible first | apply qa | apply qb | apply qc | apply qd) | (conv => whnf)
                               all_goals first | rfl | omega | (with_reducible assumption) | skip
                               refine ASat.seqA tys_ok (l := sl6R) sp6R (by kernel_rfl) ?_
                               repeat' (first | exact trivial | (with_reducible first | exact (fun (h : true = false) => absurd h (by decide)) | exact (fun (h : false = true) => absurd h (by decide)) | exact hL0 | exact hL0.1 | exact hL0.2 | exact sz0 | exact szlo | exact szhi | exact hs1 | exact hs1.1 | exact hs1.2 | exact hs2 | exact hs2.1 | exact hs2.2 | exact hl1 | exact hl1.1 | exact hl1.2 | exact hl2 | exact hl2.1 | exact hl2.2 | exact hl3 | exact hl3.1 | exact hl3.2 | exact hl4 | exact hl4.1 | exact hl4.2 | exact sz2 | exact sz4) | refine ⟨?_, ?_⟩ | intro _)
                               all_goals first | (with_reducible first | apply qa | apply qb | apply qc | apply qd) | (conv => whnf)
                               all_goals first | rfl | omega | (with_reducible assumption) | skip
                               refine ASat.seqA tys_ok (l := sl6R) sp6R (by kernel_rfl) ?_
                               repeat' (first | exact trivial | (with_reducible first | exact (fun (h : true = false) => absurd h (by decide)) | exact (fun (h : false = true) => absurd h (by decide)) | exact hL0 | exact hL0.1 | exact hL0.2 | exact sz0 | exact szlo | exact szhi | exact hs1 | exact hs1.1 | exact hs1.2 | exact hs2 | exact hs2.1 | exact hs2.2 | exact hl1 | exact hl1.1 | exact hl1.2 | exact hl2 | exact hl2.1 | exact hl2.2 | exact hl3 | exact hl3.1 | exact hl3.2 | exact hl4 | exact hl4.1 | exact hl4.2 | exact sz2 | exact sz4) | refine ⟨?_, ?_⟩ | intro _)
                               all_goals first | (with_reducible first | apply qa | apply qb | apply qc | apply qd) | (conv => whnf)
                               all_goals first | rfl | omega | (with_reducible assumption) | skip
                               refine ASat.seqA tys_ok (l := sl6R) sp6R (by kernel_rfl) ?_
                               repeat' (first | exact trivial | (with_reducible first | exact (fun (h : true = false) => absurd h (by decide)) | exact (fun (h : false = true) => absurd h (by decide)) | exact hL0 | exact hL0.1 | exact hL0.2 | exact sz0 | exact szlo | exact szhi | exact hs1 | exact hs1.1 | exact hs1.2 | exact hs2 | exact hs2.1 | exact hs2.2 | exact hl1 | exact hl1.1 | exact hl1.2 | exact hl2 | exact hl2.1 | exact hl2.2 | exact hl3 | exact hl3.1 | exact hl3.2 | exact hl4 | exact hl4.1 | exact hl4.2 | exact sz2 | exact sz4) | refine ⟨?_, ?_⟩ | intro _)
                               all_goals first | (with_reducible first | apply qa | apply qb | apply qc | apply qd) | (conv => whnf)
                               all_goals first | rfl | omega | (with_reducible assumption) | skip
                               refine ASat.vc tys_ok (l := []) trivial (by kernel_rfl) ?_
                               repeat' (first | exact trivial | refine ⟨?_, ?_⟩ | intro _)
                               all_goals first | (with_reducible first | apply qa | apply qb | apply qc | apply qd) | (conv => whnf)
                               all_goals first | (rw [hR]; done) | (rw [hR]; with_reducible exact congrArg (Value.int .i64) ((rn_1 e2).trans (congrArg numI hlo.symm))) | (rw [hR]; with_reducible exact congrArg (Value.int .i64) ((rn_1 e3).trans (congrArg numI hhi.symm))) | (rw [hR]; with_reducible exact congrArg (Value.int .i64) (rn_1 e7)) | (rw [hR]; with_reducible exact congrArg (Value.int .i64) (rn_1 e10)) | (rw [hR, hlo]; with_reducible exact congrArg (Value.int .i64) (rn_2 _)) | (rw [hR, hhi]; with_reducible exact congrArg (Value.int .i64) (rn_2 _)) | (rw [hR]; with_reducible exact congrArg (Value.int .i64) (rn_2 _)) | (rw [hR]; rfl)
 . cases h
end Go.Proofs.YtakcacejpbiogaaGreatDoor
