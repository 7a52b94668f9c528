/- Values read out of their texts. No condition. -/
import Derived.Test.YtakcacejpbiogaaGreatDoorR12
set_option linter.all false
set_option maxHeartbeats 8000000
set_option maxRecDepth 100000
namespace Go.Proofs.YtakcacejpbiogaaGreatDoor
open Go.Sx
open Go.RowKit Go.Lib Go.Sort
theorem of_told {v : Vl} (h : v.i.tidy) (hs : Srt v.t.names) : v.of = v := by
 unfold Vl.of; rw [tidy_fix h, ofS_eq, cleanS_fix hs]
abbrev byS : ByteArray := ⟨#[98, 121]⟩
abbrev attS : ByteArray := ⟨#[97, 116]⟩
def firstV (g : Ig) : List ByteArray := if g.s.some = true then (itoaS g.s.lo ++ ⟨#[46, 46]⟩ ++ itoaS g.s.hi) :: (if g.c.m = 1 then [] else [⟨#[98, 121]⟩, itoaS g.c.m, ⟨#[97, 116]⟩, itoaS g.c.r]) else []
theorem partsV_eq (w : Vl) : partsV w = firstV w.i ++ wordsP w.t.null w.t.names := by
 unfold partsV headV firstV wordsP headP
 rw [List.append_assoc]
theorem at_app {A B : List ByteArray} {i : Nat} : atS (A ++ B) (A.length + i) = atS B i := by
 unfold atS
 rw [List.getD_eq_getElem?_getD, List.getElem?_append_right (by omega), Nat.add_sub_cancel_left, List.getD_eq_getElem?_getD]
theorem range_at (L : List ByteArray) (n : Nat) : (List.range (L.length - n)).map (fun i => atS L (n + i)) = L.drop n := by
 apply List.ext_getElem
 . simp
 . intro i h1 h2
   rw [List.length_map, List.length_range] at h1
   rw [List.getElem_map, List.getElem_range, List.getElem_drop, atS_mem (by omega)]
theorem cons_at {L : List ByteArray} (h : 1 <= L.length) : L.take 1 = [atS L 0] := by
 cases L with
 | nil => exact absurd h (by simp)
 | cons a l => rfl
theorem five_at {L : List ByteArray} (h : 5 <= L.length) : L.take 5 = [atS L 0, atS L 1, atS L 2, atS L 3, atS L 4] := by
 match L, h with
 | a :: b :: c :: d :: e :: l, _ => rfl
theorem ne_false {b : Bool} (h : ¬ b = false) : b = true := by cases b with | true => rfl | false => exact absurd rfl h
theorem ints_back {L : List ByteArray} (hL : 1 <= L.length) (h : (intsR L).1 = 0) : firstV (intsR L).2.1 = L.take (intsR L).2.2 /\ (intsR L).2.1.tidy := by
 unfold intsR at h ⊢
 by_cases c1 : i1 L = false
 . rw [if_pos c1]; exact ⟨rfl, .inl rfl⟩
 rw [if_neg c1] at h ⊢
 have c1 := ne_false c1
 by_cases c2 : numE (loS L) ≠ 0
 . rw [if_pos c2] at h; exact absurd h c2
 rw [if_neg c2] at h ⊢
 by_cases c3 : numE (hiS L) ≠ 0
 . rw [if_pos c3] at h; exact absurd h c3
 rw [if_neg c3] at h ⊢
 by_cases c4 : i4 L = false
 . rw [if_pos c4] at h; exact absurd h (by decide)
 rw [if_neg c4] at h ⊢
 have c4 := of_decide_eq_true (ne_false c4)
 have nlo := num_back (Decidable.not_not.1 c2)
 have nhi := num_back (Decidable.not_not.1 c3)
 have h0 : itoaS (numI (loS L)) ++ ddS ++ itoaS (numI (hiS L)) = atS L 0 := by
  rw [<- nlo.1, <- nhi.1]; exact (dot_cat c1).symm
 by_cases c5 : (i5a L || i5b L) = true
 . rw [if_pos c5] at h ⊢
   refine ⟨?_, .inr ⟨⟨rfl, rfl⟩, c4, by unfold Cg.red; dsimp only; omega⟩⟩
   rw [cons_at hL, <- h0]; rfl
 rw [if_neg c5] at h ⊢
 rw [Bool.or_eq_true, not_or] at c5
 have hby : atS L 1 = byS := by
  have := c5.2
  unfold i5b at this
  rw [seq_iff] at this
  simpa using this
 by_cases c6 : i6 L = false
 . rw [if_pos c6] at h; exact absurd h (by decide)
 rw [if_neg c6] at h ⊢
 by_cases c7 : numE (atS L (Int.toNat 2)) ≠ 0
 . rw [if_pos c7] at h; exact absurd h c7
 rw [if_neg c7] at h ⊢
 by_cases c8 : (i8a L && i8b L) = false
 . rw [if_pos c8] at h; exact absurd h (by decide)
 rw [if_neg c8] at h ⊢
 have c8 := ne_false c8
 rw [Bool.and_eq_true] at c8
 by_cases c9 : (i9a L && i9b L) = false
 . rw [if_pos c9] at h; exact absurd h (by decide)
 rw [if_neg c9] at h ⊢
 have c9 := ne_false c9
 rw [Bool.and_eq_true] at c9
 by_cases c10 : numE (atS L (Int.toNat 4)) ≠ 0
 . rw [if_pos c10] at h; exact absurd h c10
 rw [if_neg c10] at h ⊢
 by_cases c11 : (i11a L || (i11b L && i11c L)) = false
 . rw [if_pos c11] at h; exact absurd h (by decide)
 rw [if_neg c11] at h ⊢
 have c11 := ne_false c11
 rw [Bool.or_eq_true, Bool.and_eq_true] at c11
 have hm1 : numI (atS L (Int.toNat 2)) ≠ 1 := bne_iff_ne.1 c8.1
 have hm0 : 0 <= numI (atS L (Int.toNat 2)) := of_decide_eq_true c8.2
 have h5 : 5 <= L.length := by have := of_decide_eq_true c9.1; omega
 have hat : atS L 3 = attS := by
  have := c9.2
  unfold i9b at this
  rw [seq_iff] at this
  exact of_decide_eq_true this
 have nm := num_back (Decidable.not_not.1 c7)
 have nr := num_back (Decidable.not_not.1 c10)
 refine ⟨?_, .inr ⟨⟨rfl, rfl⟩, c4, ?_⟩⟩
 . rw [five_at h5, <- h0, hby, hat]
   unfold firstV
   dsimp only
   rw [if_pos rfl, if_neg hm1, <- nm.1, <- nr.1]; rfl
 . unfold Cg.red
   dsimp only
   refine ⟨hm0, fun hp => ?_⟩
   rcases c11 with q | q
   . have : numI (atS L (Int.toNat 2)) = 0 := eq_of_beq q
     omega
   . exact ⟨of_decide_eq_true q.1, of_decide_eq_true q.2⟩
theorem intsR_len {L : List ByteArray} (hL : 1 <= L.length) : (intsR L).2.2 <= L.length := by
 rcases (intsR_N L).ok with h | h | h
 . omega
 . omega
 . omega
theorem read_err {s : ByteArray} (h : (readR s).2 ≠ 0) : (readR s).1 = v0 := by
 unfold readR readL at h ⊢
 split
 . rfl
 . rename_i h1
   rw [if_neg h1] at h
   split
   . rfl
   . rename_i h2
     rw [if_neg h2] at h
     split
     . rfl
     . rename_i h3
       rw [if_neg h3] at h
       exact absurd rfl h
theorem v0_tidy : v0.i.tidy /\ Srt v0.t.names := ⟨.inl rfl, srt_nil⟩
theorem read_one {s : ByteArray} (h : (readR s).2 = 0) : textV (readR s).1 = s /\ (readR s).1.of = (readR s).1 := by
 unfold readR at h ⊢
 by_cases h0 : (s.toList == nilS.toList) = true
 . rw [if_pos h0]
   rw [seq_iff] at h0
   refine ⟨?_, of_told v0_tidy.1 v0_tidy.2⟩
   rw [of_decide_eq_true h0]; rfl
 rw [if_neg h0] at h ⊢
 have hp := split_pos s
 generalize hL : splitS s = L at h hp ⊢
 unfold readL at h ⊢
 by_cases h1 : (intsR L).1 ≠ 0
 . rw [if_pos h1] at h; exact absurd h h1
 rw [if_neg h1] at h ⊢
 by_cases h2 : allP (wdR L) (kR L) = false
 . rw [if_pos h2] at h; exact absurd h (by decide)
 rw [if_neg h2]
 have h2 := allP_iff.1 (ne_false h2)
 obtain ⟨b1, b2⟩ := ints_back hp (Decidable.not_not.1 h1)
 obtain ⟨p1, p2, _, _⟩ := ptr_back _ h2
 refine ⟨?_, of_told b2 p2⟩
 have hpv : partsV ⟨(intsR L).2.1, ⟨ptB (wdR L) (kR L), ptN (wdR L) (kR L)⟩⟩ = L := by
  rw [partsV_eq]
  dsimp only
  rw [b1, p1]
  unfold kR
  have := range_at L (intsR L).2.2
  have e : wdR L = fun i => atS L ((intsR L).2.2 + i) := rfl
  rw [e, this, List.take_append_drop]
 unfold textV
 rw [hpv, if_neg (by intro e; rw [e] at hp; exact absurd hp (by simp)), <- hL, join_split _ _ (Nat.le_refl _)]
theorem itoa_no (n : Int) (k : UInt8) (hk : k.toNat = 46 \/ k.toNat = 32) : ∀ c, c ∈ (itoaS n).data.toList -> c ≠ k := fun c hc e => by
 rw [itoa_list] at hc
 have := itoa_chr hc
 subst e; omega
theorem good_byte {s : ByteArray} (h : nameB s = true) (k : UInt8) (hk : k.toNat = 46 \/ k.toNat = 32) : ∀ c, c ∈ s.data.toList -> c ≠ k := fun c hc e => by
 unfold nameB plainB at h
 simp only [Bool.and_eq_true] at h
 obtain ⟨i, hi, e2⟩ := List.mem_iff_getElem.1 hc
 have hi' : i < s.size := by rw [<- sz_len]; exact hi
 have hg := List.all_eq_true.1 h.1.2.2 i (List.mem_range.2 hi')
 have hb : bAt s i = k.toNat := by rw [bAt_list hi', List.getElem?_eq_getElem hi, e2, e]; rfl
 unfold goodB letB digB at hg
 rw [hb] at hg
 rcases hk with q | q <;> (rw [q] at hg; simp at hg)
theorem amp_byte {s : ByteArray} (h : nameB s = true) (k : UInt8) (hk : k.toNat = 46 \/ k.toNat = 32) : ∀ c, c ∈ (amp s).data.toList -> c ≠ k := fun c hc e => by
 rw [amp_list] at hc
 rcases List.mem_cons.1 hc with q | q
 . subst q; subst e; exact absurd hk (by decide)
 . exact good_byte h k hk c q e
theorem wordsP_mem {z : Bool} {M : List ByteArray} {x : ByteArray} (h : x ∈ wordsP z M) : x = nullS \/ ∃ y, y ∈ M /\ x = amp y := by
 unfold wordsP headP at h
 rcases List.mem_append.1 h with q | q
 . split at q
   . rw [List.mem_singleton] at q; exact .inl q
   . exact absurd q (by simp)
 . rw [List.mem_map] at q
   obtain ⟨y, hy, e⟩ := q
   exact .inr ⟨y, hy, e.symm⟩
theorem wordsP_byte {z : Bool} {M : List ByteArray} (hn : ∀ x, x ∈ M -> nameB x = true) {x : ByteArray} (h : x ∈ wordsP z M) (k : UInt8) (hk : k.toNat = 46 \/ k.toNat = 32) : ∀ c, c ∈ x.data.toList -> c ≠ k := by
 rcases wordsP_mem h with rfl | ⟨y, hy, rfl⟩
 . intro c hc e
   subst e
   have : c = 110 \/ c = 117 \/ c = 108 \/ c = 108 := by simpa using hc
   rcases this with rfl | rfl | rfl | rfl <;> exact absurd hk (by decide)
 . exact amp_byte (hn y hy) k hk
theorem wordsP_by {z : Bool} {M : List ByteArray} {x : ByteArray} (h : x ∈ wordsP z M) : x ≠ byS := by
 rcases wordsP_mem h with rfl | ⟨y, hy, rfl⟩
 . intro e; exact absurd (congrArg (fun y : ByteArray => y.size) e) (by decide)
 . intro e
   have := congrArg (fun y : ByteArray => y.data.toList) e
   dsimp only at this
   rw [amp_list] at this
   injection this with h1 _
   exact absurd h1 (by decide)
theorem ints_of {w : Ig} {R : List ByteArray} (hw : w.tidy) (hr : w.s.inR /\ w.c.inR) (hd : ∀ x, x ∈ R -> ∀ c, c ∈ x.data.toList -> c ≠ 46) (hb : ∀ x, x ∈ R -> x ≠ byS) (hne : firstV w ++ R ≠ []) :
 intsR (firstV w ++ R) = (0, w, (firstV w).length) := by
 unfold Sp.inR Cg.inR at hr
 rcases hw with rfl | ⟨⟨h1, h2⟩, h3, h4⟩
 . have e : firstV Ig.zero = [] := rfl
   rw [e, List.nil_append] at hne ⊢
   cases R with
   | nil => exact absurd rfl hne
   | cons x R =>
     have hc : i1 (x :: R) = false := by
      show (cutS x ddS).2.2 = false
      rw [cut_nodot (by rw [dot_free (hd x (by simp))]; decide)]
     unfold intsR
     rw [if_pos hc]; rfl
 . obtain ⟨⟨s, lo, hi⟩, ⟨b, m, r⟩⟩ := w
   dsimp only at *
   subst h1 h2
   have zlo : rI lo := hr.1.1
   have zhi : rI hi := hr.1.2
   have zm : rI m := hr.2.1
   have zr : rI r := hr.2.2
   obtain ⟨L, hL⟩ : ∃ L, L = firstV ⟨⟨true, lo, hi⟩, ⟨true, m, r⟩⟩ ++ R := ⟨_, rfl⟩
   have hF : firstV ⟨⟨true, lo, hi⟩, ⟨true, m, r⟩⟩ = (itoaS lo ++ ddS ++ itoaS hi) :: (if m = 1 then [] else [byS, itoaS m, attS, itoaS r]) := rfl
   have hcut : cutS (atS L (Int.toNat 0)) ddS = (itoaS lo, itoaS hi, true) := by
    rw [hL, hF]
    exact cut_txt (itoa_no lo 46 (.inl rfl))
   have hlo : loS L = itoaS lo := by show (cutS _ _).1 = _; rw [hcut]
   have hhi : hiS L = itoaS hi := by show (cutS _ _).2.1 = _; rw [hcut]
   have q1 : ¬ i1 L = false := by show ¬ (cutS _ _).2.2 = false; rw [hcut]; exact fun h => Bool.noConfusion h
   have nlo := num_itoa zlo
   have nhi := num_itoa zhi
   have q2 : ¬ numE (loS L) ≠ 0 := by rw [hlo, nlo.1]; decide
   have q3 : ¬ numE (hiS L) ≠ 0 := by rw [hhi, nhi.1]; decide
   have q4 : ¬ i4 L = false := by unfold i4; rw [hlo, hhi, nlo.2, nhi.2, decide_eq_true h3]; decide
   rw [<- hL]
   unfold intsR
   rw [if_neg q1, if_neg q2, if_neg q3, if_neg q4, hlo, hhi, nlo.2, nhi.2]
   unfold Cg.red at h4
   dsimp only at h4
   by_cases hm : m = 1
   . subst hm
     obtain rfl : r = 0 := by have := h4.2 (by decide); omega
     rw [hF, if_pos rfl] at hL ⊢
     have q5 : (i5a L || i5b L) = true := by
      rw [Bool.or_eq_true]
      cases R with
      | nil => left; rw [hL]; rfl
      | cons x R =>
        right
        have hx := hb x (by simp)
        have e1 : atS L (Int.toNat 1) = x := by rw [hL]; rfl
        unfold i5b
        rw [seq_iff, e1, decide_eq_false hx]; rfl
     rw [if_pos q5]; rfl
   . rw [hF, if_neg hm] at hL ⊢
     have e1 : atS L (Int.toNat 1) = byS := by rw [hL]; rfl
     have e2 : atS L (Int.toNat 2) = itoaS m := by rw [hL]; rfl
     have e3 : atS L (Int.toNat 3) = attS := by rw [hL]; rfl
     have e4 : atS L (Int.toNat 4) = itoaS r := by rw [hL]; rfl
     have hlen : 5 <= L.length := by rw [hL]; simp
     have nm := num_itoa zm
     have nr := num_itoa zr
     have q5 : ¬ (i5a L || i5b L) = true := by
      unfold i5a i5b
      rw [e1, decide_eq_false (by omega), seq_iff]
      decide
     have q6 : ¬ i6 L = false := by unfold i6; rw [decide_eq_true (by omega)]; decide
     have q7 : ¬ numE (atS L (Int.toNat 2)) ≠ 0 := by rw [e2, nm.1]; decide
     have q8 : ¬ (i8a L && i8b L) = false := by
      unfold i8a i8b
      rw [e2, nm.2, decide_eq_true h4.1, bne_iff_ne.2 hm]; decide
     have q9 : ¬ (i9a L && i9b L) = false := by
      unfold i9a i9b
      rw [e3, decide_eq_true (by omega), seq_iff]
      decide
     have q10 : ¬ numE (atS L (Int.toNat 4)) ≠ 0 := by rw [e4, nr.1]; decide
     have q11 : ¬ (i11a L || (i11b L && i11c L)) = false := by
      unfold i11a i11b i11c
      rw [e2, e4, nm.2, nr.2]
      by_cases h0 : m = 0
      . subst h0; simp
      . have := h4.2 (by omega)
        rw [decide_eq_true this.1, decide_eq_true this.2]; simp
     rw [if_neg q5, if_neg q6, if_neg q7, if_neg q8, if_neg q9, if_neg q10, if_neg q11, e2, e4, nm.2, nr.2]; rfl
theorem read_back {w : Vl} (hi : w.i.tidy) (hs : Srt w.t.names) (hr : w.i.s.inR /\ w.i.c.inR) (hn : ∀ x, x ∈ w.t.names -> nameB x = true) : readR (textV w) = (w, 0) := by
 have hP := partsV_eq w
 by_cases h0 : partsV w = []
 . have e : textV w = nilS := if_pos h0
   rw [e]
   rw [hP, List.append_eq_nil_iff] at h0
   have hz : w.i = Ig.zero := by
    rcases hi with h | ⟨⟨h1, _⟩, _⟩
    . exact h
    . have := h0.1
      unfold firstV at this
      rw [if_pos h1] at this; cases this
   have hl := congrArg List.length h0.2
   rw [wordsP_len] at hl
   obtain ⟨i, ⟨z, M⟩⟩ := w
   dsimp only at *
   have hl : (if z = true then 1 else 0) + M.length = 0 := hl
   have hM : M = [] := List.eq_nil_of_length_eq_zero (by omega)
   have hzz : z = false := by cases z with
    | false => rfl
    | true => rw [if_pos rfl] at hl; omega
   rw [hz, hM, hzz]
   exact if_pos (by rw [seq_iff, decide_eq_true rfl])
 . have e : textV w = joinS (partsV w) blS := if_neg h0
   have hby : ∀ x, x ∈ partsV w -> (32 : UInt8) ∉ x.data.toList := by
    rw [hP]
    intro x hx hm
    rcases List.mem_append.1 hx with q | q
    . unfold firstV at q
      split at q
      . rcases List.mem_cons.1 q with rfl | q
        . rw [ByteArray.data_append, ByteArray.data_append, Array.toList_append, Array.toList_append, List.mem_append, List.mem_append] at hm
          rcases hm with (hm | hm) | hm
          . exact itoa_no _ 32 (.inr rfl) _ hm rfl
          . exact absurd hm (by decide)
          . exact itoa_no _ 32 (.inr rfl) _ hm rfl
        . split at q
          . exact absurd q (by simp)
          . simp only [List.mem_cons, List.not_mem_nil, or_false] at q
            rcases q with rfl | rfl | rfl | rfl
            . exact absurd hm (by decide)
            . exact itoa_no _ 32 (.inr rfl) _ hm rfl
            . exact absurd hm (by decide)
            . exact itoa_no _ 32 (.inr rfl) _ hm rfl
      . exact absurd q (by simp)
    . exact wordsP_byte hn q 32 (.inr rfl) _ hm rfl
   have hsp : splitS (textV w) = partsV w := by rw [e, split_join _ h0 hby]
   have hnn : ¬ ((textV w).toList == nilS.toList) = true := by
    rw [seq_iff, decide_eq_true_eq]
    intro q
    rw [q] at hsp
    have hns : splitS nilS = [nilS] := by
     have := split_none (a := [110, 111, 116, 104, 105, 110, 103]) (by decide)
     exact this
    rw [hns, hP] at hsp
    have hm : nilS ∈ firstV w.i ++ wordsP w.t.null w.t.names := by rw [<- hsp]; simp
    rcases List.mem_append.1 hm with q | q
    . have hdot : ∃ x t, firstV w.i = x :: t /\ (46 : UInt8) ∈ x.data.toList := by
       unfold firstV at q ⊢
       split at q
       . rename_i h
         rw [if_pos h]
         refine ⟨_, _, rfl, ?_⟩
         rw [ByteArray.data_append, ByteArray.data_append, Array.toList_append, Array.toList_append]
         simp
       . exact absurd q (by simp)
      obtain ⟨x, t, hx, hx2⟩ := hdot
      rw [hx] at hsp
      injection hsp with hsp _
      rw [<- hsp] at hx2
      exact absurd hx2 (by decide)
    . rcases wordsP_mem q with h | ⟨y, _, h⟩
      . exact absurd (congrArg (fun y : ByteArray => y.size) h) (by decide)
      . have := congrArg (fun y : ByteArray => y.data.toList) h
        dsimp only at this
        rw [amp_list] at this
        injection this with h1 _
        exact absurd h1 (by decide)
   unfold readR
   rw [if_neg hnn, hsp, hP]
   rw [hP] at h0
   have hI := ints_of (R := wordsP w.t.null w.t.names) hi hr (fun x hx c hc => wordsP_byte hn hx 46 (.inl rfl) c hc) (fun x hx => wordsP_by hx) h0
   have hk : kR (firstV w.i ++ wordsP w.t.null w.t.names) = (wordsP w.t.null w.t.names).length := by
    unfold kR; rw [hI, List.length_append]; dsimp only; omega
   have hW : ∀ i, i < (wordsP w.t.null w.t.names).length -> wdR (firstV w.i ++ wordsP w.t.null w.t.names) i = atS (wordsP w.t.null w.t.names) i := fun i _ => by
    unfold wdR; rw [hI]; exact at_app
   obtain ⟨a1, a2, a3, _⟩ := ptr_of hs hn hW _ (Nat.le_refl _)
   unfold readL
   rw [hk, if_neg (by rw [hI]; exact fun h => h rfl), if_neg (by rw [allP_iff.2 a1]; decide), hI, a2, a3]
   rw [wordsP_len]
   have e1 : (if w.t.null = true then 1 else 0) + w.t.names.length - (if w.t.null = true then 1 else 0) = w.t.names.length := by omega
   have e2 : (w.t.null && decide (0 < (if w.t.null = true then 1 else 0) + w.t.names.length)) = w.t.null := by
    cases w.t.null with
    | false => rfl
    | true => rw [if_pos rfl, decide_eq_true (by omega)]; rfl
   rw [e1, e2, List.take_length]
end Go.Proofs.YtakcacejpbiogaaGreatDoor
namespace Go.Proofs.YtakcacejpbiogaaGreatDoor
open Go.Sx
open Go.RowKit Go.Lib Go.Sort
theorem hasP_at {s : ByteArray} (h : 0 < s.size) : p3 s = (byteAt s (Int.toNat 0) == 38) := by
 show Lib.hasPrefix s.data.toList [38] = _
 cases hl : s.data.toList with
 | nil => rw [<- sz_len, hl] at h; exact absurd h (by simp)
 | cons c t =>
   rw [byteAt_list hl]
   by_cases hc : c = 38
   . subst hc; simp [Lib.hasPrefix]
   . have : (((c.toNat : Nat) : Int) == 38) = false := beq_eq_false_iff_ne.2 fun e => hc (UInt8.toNat_inj.1 (by show c.toNat = 38; omega))
     rw [this]
     simp [Lib.hasPrefix, List.isPrefixOf, Ne.symm hc]
theorem nm_ext {s : ByteArray} (h : p3 s = true) : nmW s = s.extract 1 s.size := by
 have h : Lib.hasPrefix s.data.toList [38] = true := h
 have e : nmW s = mkB (s.data.toList.drop 1) := by
  show mkB (Lib.trimPrefix s.data.toList [38]) = _
  unfold Lib.trimPrefix
  rw [if_pos h]; rfl
 rw [e]; exact drop_mk s 1
theorem okP_short {W : Nat -> ByteArray} {i : Nat} (h1 : isN W i = false) (h : (W i).size < 2) : okP W i = false := by
 unfold okP
 rw [h1]
 cases h3 : p3 (W i) with
 | false => rfl
 | true =>
   have hn : nameB (nmW (W i)) = false := by
    cases hn : nameB (nmW (W i)) with
    | false => rfl
    | true =>
      have h2 := name_ne hn
      have h4 := amp_nm h3
      have h5 : (amp (nmW (W i))).size = (W i).size := by rw [h4]
      unfold amp at h5
      rw [ByteArray.size_append, show (⟨#[38]⟩ : ByteArray).size = 1 from rfl] at h5
      have h6 : (nmW (W i)).data.toList.length = 0 := by rw [sz_len]; omega
      exact absurd (List.eq_nil_of_length_eq_zero h6) h2
   rw [hn]; rfl
theorem okP_amp {W : Nat -> ByteArray} {i : Nat} (h1 : isN W i = false) (h : p3 (W i) = false) : okP W i = false := by
 unfold okP; rw [h1, h]; rfl
theorem okP_name {W : Nat -> ByteArray} {i : Nat} (h1 : isN W i = false) (h3 : p3 (W i) = true) (h : nameB (nmW (W i)) = false) : okP W i = false := by
 unfold okP; rw [h1, h3, h]; rfl
theorem okP_ord {W : Nat -> ByteArray} {i : Nat} (h1 : isN W i = false) (h3 : p3 (W i) = true) (h4 : nameB (nmW (W i)) = true) : okP W i = p5 (nmW (W i)) (ptL W i) := by
 unfold okP; rw [h1, h3, h4]; rfl
theorem p5_empty {s : ByteArray} (h : nameB s = true) : p5 s ⟨#[]⟩ = true := by
 rw [p5_eq]
 have e1 : decide (kS s < kS (⟨#[]⟩ : ByteArray)) = false := decide_eq_false (List.not_lt_nil _)
 have e2 : decide (s = (⟨#[]⟩ : ByteArray)) = false := decide_eq_false fun e => name_ne h (by rw [e])
 rw [e1, e2]; rfl
theorem ptL_eq (W : Nat -> ByteArray) : ∀ i, ptL W i = if (ptN W i).length = 0 then ⟨#[]⟩ else atS (ptN W i) ((ptN W i).length - 1)
 | 0 => rfl
 | i + 1 => by
   have ih := ptL_eq W i
   unfold ptL ptN
   split
   . exact ih
   . rw [List.length_append, List.length_singleton, if_neg (by omega), Nat.add_sub_cancel]
     unfold atS
     rw [List.getD_eq_getElem?_getD, List.getElem?_append_right (Nat.le_refl _), Nat.sub_self]; rfl
theorem geq_p5 (s t : ByteArray) : (!Op.bytesLess t.toList s.toList) = !p5 s t := by
 rw [p5_eq]
 have := slt_eq t s
 unfold slt at this
 rw [this]
 by_cases h : kS t < kS s
 . have h1 : decide (kS s < kS t) = false := decide_eq_false (List.lt_asymm h)
   have h2 : decide (s = t) = false := decide_eq_false fun e => by rw [e] at h; exact List.lt_irrefl _ h
   rw [decide_eq_true h, h1, h2]; rfl
 . rw [decide_eq_false h]
   by_cases h2 : s = t
   . rw [decide_eq_true h2]; simp
   . rw [decide_eq_true (kS_tri h fun e => h2 e.symm)]; rfl
theorem bnt {b : Bool} (h : (!b) = true) : b = false := by cases b with | true => exact Bool.noConfusion h | false => rfl
theorem bnf {b : Bool} (h : (!b) = false) : b = true := by cases b with | true => rfl | false => exact Bool.noConfusion h
inductive Clo (p : Prop) : Prop
 | mk (h : p)
 | no (h : False)
def rndQ (Q : Exit -> St -> Prop) : Exit -> St -> Prop
 | .normal, st => Clo (Q .normal st)
 | e, st => Q e st
theorem rnd {P : Program} {b : Nat} {c : Code} {st : St} {Q : Exit -> St -> Prop} (h : ASat P b c st (rndQ Q)) : ASat P b c st Q := h.mono fun e st q => by
 cases e with
 | normal => cases q with
   | mk h => exact h
   | no h => exact h.elim
 | ret => exact q
 | panic ch => exact q
 | exit id => exact q
 | goto l => exact q
 | outgrown => exact q
def FRRead40 : List Ar -> Option Rs
 | [.c (.d (.v (.string x0)))] => some ⟨(x0.size < 4294967281), .tup [Vl.ar (readR x0).1, .c (.d (it (readR x0).2))], []⟩
 | _ => none
abbrev sl7R : List (Nat × Sm) := [(21, ⟨[], FRWords⟩), (22, ⟨[], FRInts⟩), (14, ⟨[], FRName⟩)]
theorem sp7R : sumsOk Tryz.prog sl7R := ⟨fcRWords, fcRInts, fcRName, trivial⟩
theorem fcRRead40 : FC Tryz.prog 8 FRRead40 := by
 intro xs pre r us h hp
 unfold FRRead40 at h
 split at h
 . rename_i x0
   cases h
   have hp0 := hp
   refine fcatA tys_ok Tryz.func8 rfl true ?_
   refine ⟨Nat.le_of_ble_eq_true rfl, ?_⟩
   have hsz : ∀ i, (atS (splitS x0) i).size <= 4294967280 := fun i => by have := at_sz x0 i; omega
   have hlen : (splitS x0).length <= 4294967290 := by have := split_len x0.size x0 (Nat.le_refl _); omega
   have hl1 := split_pos x0
   have hib : True /\ True := ⟨trivial, trivial⟩
   have hs1 := hib
   refine ASat.seqA tys_ok (l := sl7R) sp7R (by kernel_rfl) ?_
   repeat' (first | exact trivial | (with_reducible first | exact (fun (h : true = false) => absurd h (by decide)) | exact (fun (h : false = true) => absurd h (by decide)) | exact hlen | exact hl1 | exact hib | exact hib.1 | exact hib.2 | exact hs1 | exact hs1.1 | exact hs1.2) | refine ⟨?_, ?_⟩ | intro _)
   all_goals first | (with_reducible first | apply qa | apply qb | apply qc | apply qd) | (conv => whnf)
   all_goals first | omega | ((with_reducible show (_ : List DV) = _); rfl) | (with_reducible assumption) | exact hsz _ | (intro _ _; rfl) | (rw [gN_lst]; exact hsz _) | skip
   cases hN : (x0.toList == nilS.toList) with
   | true =>
     have hR : readR x0 = (v0, 0) := if_pos hN
     refine ASat.seqA tys_ok (l := sl7R) sp7R (by kernel_rfl) ?_
     repeat' (first | exact trivial | (with_reducible first | exact (fun (h : true = false) => absurd h (by decide)) | exact (fun (h : false = true) => absurd h (by decide)) | exact hlen | exact hl1 | exact hib | exact hib.1 | exact hib.2 | exact hs1 | exact hs1.1 | exact hs1.2 | exact (fun h => absurd (hN.symm.trans h) (by decide))) | refine ⟨?_, ?_⟩ | intro _)
     all_goals first | (with_reducible first | apply qa | apply qb | apply qc | apply qd) | (conv => whnf)
     all_goals first | omega | ((with_reducible show (_ : List DV) = _); rfl) | (with_reducible assumption) | exact hsz _ | (intro _ _; rfl) | (rw [gN_lst]; exact hsz _) | skip
     all_goals first | omega | (rw [hR]; done) | (rw [hR, Nat.zero_add]; done) | (intro _ _; rw [hR, Nat.zero_add]; done) | (dsimp only; rw [hR, Nat.zero_add]; done) | (rw [hR]; rfl)
   | false =>
     have hR0 : readR x0 = readL (splitS x0) := if_neg (by rw [hN]; decide)
     refine ASat.seqA tys_ok (l := sl7R) sp7R (by kernel_rfl) ?_
     repeat' (first | exact trivial | (with_reducible first | exact (fun (h : true = false) => absurd h (by decide)) | exact (fun (h : false = true) => absurd h (by decide)) | exact hlen | exact hl1 | exact hib | exact hib.1 | exact hib.2 | exact hs1 | exact hs1.1 | exact hs1.2 | exact (fun h => absurd (hN.symm.trans h) (by decide))) | refine ⟨?_, ?_⟩ | intro _)
     all_goals first | (with_reducible first | apply qa | apply qb | apply qc | apply qd) | (conv => whnf)
     all_goals first | omega | ((with_reducible show (_ : List DV) = _); rfl) | (with_reducible assumption) | exact hsz _ | (intro _ _; rfl) | (rw [gN_lst]; exact hsz _) | skip
     refine ASat.seqA tys_ok (l := sl7R) sp7R (by kernel_rfl) ?_
     repeat' (first | exact trivial | (with_reducible first | exact (fun (h : true = false) => absurd h (by decide)) | exact (fun (h : false = true) => absurd h (by decide)) | exact hlen | exact hl1 | exact hib | exact hib.1 | exact hib.2 | exact hs1 | exact hs1.1 | exact hs1.2) | refine ⟨?_, ?_⟩ | intro _)
     all_goals first | (with_reducible first | apply qa | apply qb | apply qc | apply qd) | (conv => whnf)
     all_goals first | omega | ((with_reducible show (_ : List DV) = _); rfl) | (with_reducible assumption) | exact hsz _ | (intro _ _; rfl) | (rw [gN_lst]; exact hsz _) | skip
     generalize splitS x0 = L at *
     refine ASat.seqA tys_ok (l := sl7R) sp7R (by kernel_rfl) ?_
     repeat' (first | exact trivial | (with_reducible first | exact (fun (h : true = false) => absurd h (by decide)) | exact (fun (h : false = true) => absurd h (by decide)) | exact hlen | exact hl1 | exact hib | exact hib.1 | exact hib.2 | exact hs1 | exact hs1.1 | exact hs1.2) | refine ⟨?_, ?_⟩ | intro _)
     all_goals first | (with_reducible first | apply qa | apply qb | apply qc | apply qd) | (conv => whnf)
     all_goals first | omega | ((with_reducible show (_ : List DV) = _); rfl) | (with_reducible assumption) | exact hsz _ | (intro _ _; rfl) | (rw [gN_lst]; exact hsz _) | skip
     all_goals (try simp only [gN_lst])
     cases he : ((intsR L).1 != 0) with
     | true =>
       have hR : readR x0 = (v0, (intsR L).1) := by rw [hR0]; unfold readL; rw [if_pos (bne_iff_ne.1 he)]
       refine ASat.seqA tys_ok (l := sl7R) sp7R (by kernel_rfl) ?_
       repeat' (first | exact trivial | (with_reducible first | exact (fun (h : true = false) => absurd h (by decide)) | exact (fun (h : false = true) => absurd h (by decide)) | exact hlen | exact hl1 | exact hib | exact hib.1 | exact hib.2 | exact hs1 | exact hs1.1 | exact hs1.2 | exact (fun h => absurd (he.symm.trans h) (by decide))) | refine ⟨?_, ?_⟩ | intro _)
       all_goals first | (with_reducible first | apply qa | apply qb | apply qc | apply qd) | (conv => whnf)
       all_goals first | omega | ((with_reducible show (_ : List DV) = _); rfl) | (with_reducible assumption) | exact hsz _ | (intro _ _; rfl) | (rw [gN_lst]; exact hsz _) | skip
       all_goals first | omega | (rw [hR]; done) | (rw [hR, Nat.zero_add]; done) | (intro _ _; rw [hR, Nat.zero_add]; done) | (dsimp only; rw [hR, Nat.zero_add]; done) | (rw [hR]; rfl)
     | false =>
       have hR1 : readL L = if allP (wdR L) (kR L) = false then (v0, 3) else (⟨(intsR L).2.1, ⟨ptB (wdR L) (kR L), ptN (wdR L) (kR L)⟩⟩, 0) := by unfold readL; exact if_neg (fun h => h (by simpa using he))
       refine ASat.seqA tys_ok (l := sl7R) sp7R (by kernel_rfl) ?_
       repeat' (first | exact trivial | (with_reducible first | exact (fun (h : true = false) => absurd h (by decide)) | exact (fun (h : false = true) => absurd h (by decide)) | exact hlen | exact hl1 | exact hib | exact hib.1 | exact hib.2 | exact hs1 | exact hs1.1 | exact hs1.2 | exact (fun h => absurd (he.symm.trans h) (by decide))) | refine ⟨?_, ?_⟩ | intro _)
       all_goals first | (with_reducible first | apply qa | apply qb | apply qc | apply qd) | (conv => whnf)
       all_goals first | omega | ((with_reducible show (_ : List DV) = _); rfl) | (with_reducible assumption) | exact hsz _ | (intro _ _; rfl) | (rw [gN_lst]; exact hsz _) | skip
       refine ASat.seqA tys_ok (l := sl7R) sp7R (by kernel_rfl) ?_
       repeat' (first | exact trivial | (with_reducible first | exact (fun (h : true = false) => absurd h (by decide)) | exact (fun (h : false = true) => absurd h (by decide)) | exact hlen | exact hl1 | exact hib | exact hib.1 | exact hib.2 | exact hs1 | exact hs1.1 | exact hs1.2) | refine ⟨?_, ?_⟩ | intro _)
       all_goals first | (with_reducible first | apply qa | apply qb | apply qc | apply qd) | (conv => whnf)
       all_goals first | omega | ((with_reducible show (_ : List DV) = _); rfl) | (with_reducible assumption) | exact hsz _ | (intro _ _; rfl) | (rw [gN_lst]; exact hsz _) | skip
       refine ASat.norm [2, 3, 4, 5, 6, 8] ?_
       have hNl := intsR_len hl1
       have hkl : (intsR L).2.2 + kR L = L.length := by unfold kR; omega
       refine ASat.le [0, 1] 1 ?_ (ASat.loop (X := Nat) (fun j => ⟨[(2, .va (.c (.own 0 0))), (3, vx (.int .i64 0)), (4, .va (.c (.d (lst L)))), (5, .va (.c (.own 1 0))), (6, vx (.int .i64 ((intsR L).2.2 : Nat))), (8, vx (.int .i64 (((intsR L).2.2 + j : Nat) : Int)))], [(0, .cells vZc), (1, .cells [.d (bo (intsR L).2.1.s.some), .d (it (intsR L).2.1.s.lo), .d (it (intsR L).2.1.s.hi), .d (bo (intsR L).2.1.c.some), .d (it (intsR L).2.1.c.m), .d (it (intsR L).2.1.c.r), .d (bo (ptB (wdR L) j)), .osl 2 1 0 (ptN (wdR L) j).length]), (2, .row 1 (ptN (wdR L) j).length fun i => [st (atS (ptN (wdR L) j) i)])], 3, Tryz.f8.ntmps⟩) (fun j => kR L - j) (fun j => j <= kR L /\ ∀ i, i < j -> okP (wdR L) i = true) (fun j hx => ?_) 0 ⟨Nat.zero_le _, fun i hi => absurd hi (Nat.not_lt_zero i)⟩)
       . repeat' (first | exact trivial | exact rfl | (intro _ h; exact absurd h (Nat.not_lt_zero _)) | (intro _ _; exact rfl) | refine ⟨?_, ?_⟩ | fail)
         all_goals (simp; done)
       . obtain ⟨hx1, hx2⟩ := hx
         rcases Nat.lt_or_ge j (kR L) with hi | hi
         . have hib : (0 : Int) <= (((intsR L).2.2 + j : Nat) : Int) /\ (((intsR L).2.2 + j : Nat) : Int) < (L.length : Int) := by omega
           have hne : decide ((((intsR L).2.2 + j : Nat) : Int) < (L.length : Int)) = true := decide_eq_true (by omega)
           have hwr : IntKind.wrap .i64 ((((intsR L).2.2 + j : Nat) : Int) + 1) = (((intsR L).2.2 + (j + 1) : Nat) : Int) := by rw [wI_id _ (by omega) (by omega)]; omega
           have hw : (atS L (Int.toNat (((intsR L).2.2 + j : Nat) : Int))) = wdR L j := by rw [Int.toNat_natCast]; rfl
           have hnl := ptN_len (wdR L) j
           cases c1 : ((((intsR L).2.2 + j : Nat) : Int) == ((intsR L).2.2 : Nat)) with
           | true =>
             have hj0 : ((j : Int) == 0) = true := by have := eq_of_beq c1; exact beq_iff_eq.2 (by omega)
             cases c2 : ((atS L (Int.toNat (((intsR L).2.2 + j : Nat) : Int))).toList == (⟨#[110, 117, 108, 108]⟩ : ByteArray).toList) with
             | true =>
               have h1 : isN (wdR L) j = true := by unfold isN p2; rw [<- hw, c2, Bool.and_true]; exact hj0
               have hok : okP (wdR L) j = true := by unfold okP; rw [h1]; rfl
               have hs1 : ptN (wdR L) (j + 1) = ptN (wdR L) j := if_pos h1
               have hs2 : ptB (wdR L) (j + 1) = true := if_pos h1
               refine rnd (ASat.vc tys_ok (l := sl7R) sp7R (by kernel_rfl) ?_)
               repeat' (first | exact trivial | (with_reducible first | exact (fun (h : true = false) => absurd h (by decide)) | exact (fun (h : false = true) => absurd h (by decide)) | exact hib | exact hib.1 | exact hib.2 | exact hb0 | exact hb0.1 | exact hb0.2 | exact hb1 | exact hb1.1 | exact hb1.2 | exact hk1 | exact hk1.1 | exact hk1.2 | exact hns | exact (fun h => absurd (hne.symm.trans h) (by decide)) | exact (fun h => absurd (c1.symm.trans h) (by decide)) | exact (fun h => absurd (c2.symm.trans h) (by decide))) | refine ⟨?_, ?_⟩ | intro _)
               all_goals first | (with_reducible first | apply qa | apply qb | apply qc | apply qd) | (conv => whnf)
               all_goals first | omega | (with_reducible assumption) | skip
               refine Clo.mk ?_
               conv => whnf
               rw [hwr]
               refine ⟨j + 1, ⟨hi, fun q hq => by rcases Nat.lt_or_ge q j with h | h; exact hx2 q h; exact (show q = j by omega) ▸ hok⟩, by dsimp only; omega, [0, 1, 2], 0, ?_⟩
               dsimp only
               rw [hs1, hs2]
               repeat' (first | exact trivial | exact rfl | (intro _ h; exact absurd h (Nat.not_lt_zero _)) | (intro _ _; exact rfl) | refine ⟨?_, ?_⟩ | fail)
               all_goals first | exact row_snoc rfl | (simp; done)
             | false =>
               have h1 : isN (wdR L) j = false := by unfold isN p2; rw [<- hw, c2, Bool.and_false]
               cases c3 : decide (((atS L (Int.toNat (((intsR L).2.2 + j : Nat) : Int))).size : Int) < 2) with
               | true =>
                 have hno : okP (wdR L) j = false := okP_short h1 (by rw [<- hw]; have := of_decide_eq_true c3; omega)
                 have hR : readR x0 = (v0, 3) := by rw [hR0, hR1]; exact if_pos (by cases ha : allP (wdR L) (kR L) with | false => rfl | true => exact absurd (allP_iff.1 ha) (okP_no hi hno))
                 refine rnd (ASat.vc tys_ok (l := sl7R) sp7R (by kernel_rfl) ?_)
                 repeat' (first | exact trivial | (with_reducible first | exact (fun (h : true = false) => absurd h (by decide)) | exact (fun (h : false = true) => absurd h (by decide)) | exact hib | exact hib.1 | exact hib.2 | exact hb0 | exact hb0.1 | exact hb0.2 | exact hb1 | exact hb1.1 | exact hb1.2 | exact hk1 | exact hk1.1 | exact hk1.2 | exact hns | exact (fun h => absurd (hne.symm.trans h) (by decide)) | exact (fun h => absurd (c1.symm.trans h) (by decide)) | exact (fun h => absurd (c2.symm.trans h) (by decide)) | exact (fun h => absurd (c3.symm.trans h) (by decide))) | refine ⟨?_, ?_⟩ | intro _)
                 all_goals first | (with_reducible first | apply qa | apply qb | apply qc | apply qd) | (conv => whnf)
                 all_goals first | omega | (with_reducible assumption) | skip
                 all_goals first | omega | (rw [hR]; done) | (rw [hR, Nat.zero_add]; done) | (intro _ _; rw [hR, Nat.zero_add]; done) | (dsimp only; rw [hR, Nat.zero_add]; done) | (rw [hR]; rfl)
               | false =>
                 have hwz : 2 <= (atS L (Int.toNat (((intsR L).2.2 + j : Nat) : Int))).size := by have := of_decide_eq_false c3; omega
                 have hb0 : (0 : Int) <= 0 /\ (0 : Int) < ((atS L (Int.toNat (((intsR L).2.2 + j : Nat) : Int))).size : Int) := by omega
                 have hb1 : (0 : Int) <= 1 /\ (1 : Int) <= ((atS L (Int.toNat (((intsR L).2.2 + j : Nat) : Int))).size : Int) := by omega
                 have h3e := hasP_at (s := (atS L (Int.toNat (((intsR L).2.2 + j : Nat) : Int)))) (by omega)
                 cases c4 : (byteAt (atS L (Int.toNat (((intsR L).2.2 + j : Nat) : Int))) (Int.toNat 0) != 38) with
                 | true =>
                   have hno : okP (wdR L) j = false := okP_amp h1 (by rw [<- hw, h3e]; simpa [bne] using c4)
                   have hR : readR x0 = (v0, 3) := by rw [hR0, hR1]; exact if_pos (by cases ha : allP (wdR L) (kR L) with | false => rfl | true => exact absurd (allP_iff.1 ha) (okP_no hi hno))
                   refine rnd (ASat.vc tys_ok (l := sl7R) sp7R (by kernel_rfl) ?_)
                   repeat' (first | exact trivial | (with_reducible first | exact (fun (h : true = false) => absurd h (by decide)) | exact (fun (h : false = true) => absurd h (by decide)) | exact hib | exact hib.1 | exact hib.2 | exact hb0 | exact hb0.1 | exact hb0.2 | exact hb1 | exact hb1.1 | exact hb1.2 | exact hk1 | exact hk1.1 | exact hk1.2 | exact hns | exact (fun h => absurd (hne.symm.trans h) (by decide)) | exact (fun h => absurd (c1.symm.trans h) (by decide)) | exact (fun h => absurd (c2.symm.trans h) (by decide)) | exact (fun h => absurd (c3.symm.trans h) (by decide)) | exact (fun h => absurd (c4.symm.trans h) (by decide))) | refine ⟨?_, ?_⟩ | intro _)
                   all_goals first | (with_reducible first | apply qa | apply qb | apply qc | apply qd) | (conv => whnf)
                   all_goals first | omega | (with_reducible assumption) | skip
                   all_goals first | omega | (rw [hR]; done) | (rw [hR, Nat.zero_add]; done) | (intro _ _; rw [hR, Nat.zero_add]; done) | (dsimp only; rw [hR, Nat.zero_add]; done) | (rw [hR]; rfl)
                 | false =>
                   have h3 : p3 (wdR L j) = true := by rw [<- hw, h3e]; simpa [bne] using c4
                   have hnm : (((atS L (Int.toNat (((intsR L).2.2 + j : Nat) : Int)))).extract (Int.toNat 1) (Int.toNat (((atS L (Int.toNat (((intsR L).2.2 + j : Nat) : Int)))).size : Int))) = nmW (wdR L j) := by rw [nm_ext h3, <- hw, Int.toNat_natCast]; rfl
                   have hns : (((atS L (Int.toNat (((intsR L).2.2 + j : Nat) : Int)))).extract (Int.toNat 1) (Int.toNat (((atS L (Int.toNat (((intsR L).2.2 + j : Nat) : Int)))).size : Int))).size <= 9223372036854775807 := Nat.le_trans (ext_sz _ _ _) (by have := hsz (Int.toNat (((intsR L).2.2 + j : Nat) : Int)); omega)
                   cases c5 : nameB (((atS L (Int.toNat (((intsR L).2.2 + j : Nat) : Int)))).extract (Int.toNat 1) (Int.toNat (((atS L (Int.toNat (((intsR L).2.2 + j : Nat) : Int)))).size : Int))) with
                   | true =>
                     cases c6 : decide (((ptN (wdR L) j).length : Int) > 0) with
                     | true =>
                       have hk0 : 0 < (ptN (wdR L) j).length := by have := of_decide_eq_true c6; omega
                       have hkw : IntKind.wrap .i64 (((ptN (wdR L) j).length : Int) - 1) = (((ptN (wdR L) j).length - 1 : Nat) : Int) := by rw [wI_id _ (by omega) (by omega)]; omega
                       have hk1 : (0 : Int) <= IntKind.wrap .i64 (((ptN (wdR L) j).length : Int) - 1) /\ IntKind.wrap .i64 (((ptN (wdR L) j).length : Int) - 1) < ((ptN (wdR L) j).length : Int) := by rw [hkw]; omega
                       have hlast : atS (ptN (wdR L) j) (0 + Int.toNat (IntKind.wrap .i64 (((ptN (wdR L) j).length : Int) - 1))) = ptL (wdR L) j := by rw [hkw, Int.toNat_natCast, Nat.zero_add, ptL_eq, if_neg (by omega)]
                       have h7e := geq_p5 (((atS L (Int.toNat (((intsR L).2.2 + j : Nat) : Int)))).extract (Int.toNat 1) (Int.toNat (((atS L (Int.toNat (((intsR L).2.2 + j : Nat) : Int)))).size : Int))) (atS (ptN (wdR L) j) (0 + Int.toNat (IntKind.wrap .i64 (((ptN (wdR L) j).length : Int) - 1))))
                       cases c7 : (!Op.bytesLess (atS (ptN (wdR L) j) (0 + Int.toNat (IntKind.wrap .i64 (((ptN (wdR L) j).length : Int) - 1)))).toList (((atS L (Int.toNat (((intsR L).2.2 + j : Nat) : Int)))).extract (Int.toNat 1) (Int.toNat (((atS L (Int.toNat (((intsR L).2.2 + j : Nat) : Int)))).size : Int))).toList) with
                       | true =>
                         have hno : okP (wdR L) j = false := by rw [okP_ord h1 h3 (by rw [<- hnm]; exact c5), <- hnm, <- hlast]; exact bnt (h7e.symm.trans c7)
                         have hR : readR x0 = (v0, 3) := by rw [hR0, hR1]; exact if_pos (by cases ha : allP (wdR L) (kR L) with | false => rfl | true => exact absurd (allP_iff.1 ha) (okP_no hi hno))
                         refine rnd (ASat.vc tys_ok (l := sl7R) sp7R (by kernel_rfl) ?_)
                         repeat' (first | exact trivial | (with_reducible first | exact (fun (h : true = false) => absurd h (by decide)) | exact (fun (h : false = true) => absurd h (by decide)) | exact hib | exact hib.1 | exact hib.2 | exact hb0 | exact hb0.1 | exact hb0.2 | exact hb1 | exact hb1.1 | exact hb1.2 | exact hk1 | exact hk1.1 | exact hk1.2 | exact hns | exact (fun h => absurd (hne.symm.trans h) (by decide)) | exact (fun h => absurd (c1.symm.trans h) (by decide)) | exact (fun h => absurd (c2.symm.trans h) (by decide)) | exact (fun h => absurd (c3.symm.trans h) (by decide)) | exact (fun h => absurd (c4.symm.trans h) (by decide)) | exact (fun h => absurd (c5.symm.trans h) (by decide)) | exact (fun h => absurd (c6.symm.trans h) (by decide)) | exact (fun h => absurd (c7.symm.trans h) (by decide)) | exact (fun h => absurd ((congrArg Bool.not c5).symm.trans h) (by decide)) | exact (fun h => absurd ((congrArg Bool.not c7).symm.trans h) (by decide))) | refine ⟨?_, ?_⟩ | intro _)
                         all_goals first | (with_reducible first | apply qa | apply qb | apply qc | apply qd) | (conv => whnf)
                         all_goals first | omega | (with_reducible assumption) | exact absurd (c6.symm.trans ‹_›) (by decide) | skip
                         all_goals first | omega | (rw [hR]; done) | (rw [hR, Nat.zero_add]; done) | (intro _ _; rw [hR, Nat.zero_add]; done) | (dsimp only; rw [hR, Nat.zero_add]; done) | (rw [hR]; rfl)
                       | false =>
                         have hok : okP (wdR L) j = true := by rw [okP_ord h1 h3 (by rw [<- hnm]; exact c5), <- hnm, <- hlast]; exact bnf (h7e.symm.trans c7)
                         have hs1 : ptN (wdR L) (j + 1) = ptN (wdR L) j ++ [(((atS L (Int.toNat (((intsR L).2.2 + j : Nat) : Int)))).extract (Int.toNat 1) (Int.toNat (((atS L (Int.toNat (((intsR L).2.2 + j : Nat) : Int)))).size : Int)))] := by rw [hnm]; exact if_neg (by rw [h1]; decide)
                         have hs2 : ptB (wdR L) (j + 1) = ptB (wdR L) j := if_neg (by rw [h1]; decide)
                         refine rnd (ASat.vc tys_ok (l := sl7R) sp7R (by kernel_rfl) ?_)
                         repeat' (first | exact trivial | (with_reducible first | exact (fun (h : true = false) => absurd h (by decide)) | exact (fun (h : false = true) => absurd h (by decide)) | exact hib | exact hib.1 | exact hib.2 | exact hb0 | exact hb0.1 | exact hb0.2 | exact hb1 | exact hb1.1 | exact hb1.2 | exact hk1 | exact hk1.1 | exact hk1.2 | exact hns | exact (fun h => absurd (hne.symm.trans h) (by decide)) | exact (fun h => absurd (c1.symm.trans h) (by decide)) | exact (fun h => absurd (c2.symm.trans h) (by decide)) | exact (fun h => absurd (c3.symm.trans h) (by decide)) | exact (fun h => absurd (c4.symm.trans h) (by decide)) | exact (fun h => absurd (c5.symm.trans h) (by decide)) | exact (fun h => absurd (c6.symm.trans h) (by decide)) | exact (fun h => absurd (c7.symm.trans h) (by decide)) | exact (fun h => absurd ((congrArg Bool.not c5).symm.trans h) (by decide)) | exact (fun h => absurd ((congrArg Bool.not c7).symm.trans h) (by decide))) | refine ⟨?_, ?_⟩ | intro _)
                         all_goals first | (with_reducible first | apply qa | apply qb | apply qc | apply qd) | (conv => whnf)
                         all_goals first | omega | (with_reducible assumption) | exact absurd (c6.symm.trans ‹_›) (by decide) | skip
                         refine Clo.mk ?_
                         conv => whnf
                         rw [hwr]
                         refine ⟨j + 1, ⟨hi, fun q hq => by rcases Nat.lt_or_ge q j with h | h; exact hx2 q h; exact (show q = j by omega) ▸ hok⟩, by dsimp only; omega, [0, 1, 29], 0, ?_⟩
                         dsimp only
                         rw [hs1, hs2]
                         repeat' (first | exact trivial | exact rfl | (intro _ h; exact absurd h (Nat.not_lt_zero _)) | (intro _ _; exact rfl) | refine ⟨?_, ?_⟩ | fail)
                         all_goals first | exact row_snoc rfl | (simp; done)
                     | false =>
                       have hok : okP (wdR L) j = true := by rw [okP_ord h1 h3 (by rw [<- hnm]; exact c5), ptL_eq, if_pos (by have := of_decide_eq_false c6; omega)]; exact p5_empty (by rw [<- hnm]; exact c5)
                       have hs1 : ptN (wdR L) (j + 1) = ptN (wdR L) j ++ [(((atS L (Int.toNat (((intsR L).2.2 + j : Nat) : Int)))).extract (Int.toNat 1) (Int.toNat (((atS L (Int.toNat (((intsR L).2.2 + j : Nat) : Int)))).size : Int)))] := by rw [hnm]; exact if_neg (by rw [h1]; decide)
                       have hs2 : ptB (wdR L) (j + 1) = ptB (wdR L) j := if_neg (by rw [h1]; decide)
                       refine rnd (ASat.vc tys_ok (l := sl7R) sp7R (by kernel_rfl) ?_)
                       repeat' (first | exact trivial | (with_reducible first | exact (fun (h : true = false) => absurd h (by decide)) | exact (fun (h : false = true) => absurd h (by decide)) | exact hib | exact hib.1 | exact hib.2 | exact hb0 | exact hb0.1 | exact hb0.2 | exact hb1 | exact hb1.1 | exact hb1.2 | exact hk1 | exact hk1.1 | exact hk1.2 | exact hns | exact (fun h => absurd (hne.symm.trans h) (by decide)) | exact (fun h => absurd (c1.symm.trans h) (by decide)) | exact (fun h => absurd (c2.symm.trans h) (by decide)) | exact (fun h => absurd (c3.symm.trans h) (by decide)) | exact (fun h => absurd (c4.symm.trans h) (by decide)) | exact (fun h => absurd (c5.symm.trans h) (by decide)) | exact (fun h => absurd (c6.symm.trans h) (by decide)) | exact (fun h => absurd ((congrArg Bool.not c5).symm.trans h) (by decide))) | refine ⟨?_, ?_⟩ | intro _)
                       all_goals first | (with_reducible first | apply qa | apply qb | apply qc | apply qd) | (conv => whnf)
                       all_goals first | omega | (with_reducible assumption) | exact absurd (c6.symm.trans ‹_›) (by decide) | skip
                       refine Clo.mk ?_
                       conv => whnf
                       rw [hwr]
                       refine ⟨j + 1, ⟨hi, fun q hq => by rcases Nat.lt_or_ge q j with h | h; exact hx2 q h; exact (show q = j by omega) ▸ hok⟩, by dsimp only; omega, [0, 1, 29], 0, ?_⟩
                       dsimp only
                       rw [hs1, hs2]
                       repeat' (first | exact trivial | exact rfl | (intro _ h; exact absurd h (Nat.not_lt_zero _)) | (intro _ _; exact rfl) | refine ⟨?_, ?_⟩ | fail)
                       all_goals first | exact row_snoc rfl | (simp; done)
                   | false =>
                     have hno : okP (wdR L) j = false := okP_name h1 h3 (by rw [<- hnm]; exact c5)
                     have hR : readR x0 = (v0, 3) := by rw [hR0, hR1]; exact if_pos (by cases ha : allP (wdR L) (kR L) with | false => rfl | true => exact absurd (allP_iff.1 ha) (okP_no hi hno))
                     refine rnd (ASat.vc tys_ok (l := sl7R) sp7R (by kernel_rfl) ?_)
                     repeat' (first | exact trivial | (with_reducible first | exact (fun (h : true = false) => absurd h (by decide)) | exact (fun (h : false = true) => absurd h (by decide)) | exact hib | exact hib.1 | exact hib.2 | exact hb0 | exact hb0.1 | exact hb0.2 | exact hb1 | exact hb1.1 | exact hb1.2 | exact hk1 | exact hk1.1 | exact hk1.2 | exact hns | exact (fun h => absurd (hne.symm.trans h) (by decide)) | exact (fun h => absurd (c1.symm.trans h) (by decide)) | exact (fun h => absurd (c2.symm.trans h) (by decide)) | exact (fun h => absurd (c3.symm.trans h) (by decide)) | exact (fun h => absurd (c4.symm.trans h) (by decide)) | exact (fun h => absurd (c5.symm.trans h) (by decide)) | exact (fun h => absurd ((congrArg Bool.not c5).symm.trans h) (by decide))) | refine ⟨?_, ?_⟩ | intro _)
                     all_goals first | (with_reducible first | apply qa | apply qb | apply qc | apply qd) | (conv => whnf)
                     all_goals first | omega | (with_reducible assumption) | skip
                     all_goals first | omega | (rw [hR]; done) | (rw [hR, Nat.zero_add]; done) | (intro _ _; rw [hR, Nat.zero_add]; done) | (dsimp only; rw [hR, Nat.zero_add]; done) | (rw [hR]; rfl)
           | false =>
             have h1 : isN (wdR L) j = false := by unfold isN p1; rw [show ((j : Int) == 0) = false from beq_eq_false_iff_ne.2 (by have := beq_eq_false_iff_ne.1 c1; omega), Bool.false_and]
             cases c3 : decide (((atS L (Int.toNat (((intsR L).2.2 + j : Nat) : Int))).size : Int) < 2) with
             | true =>
               have hno : okP (wdR L) j = false := okP_short h1 (by rw [<- hw]; have := of_decide_eq_true c3; omega)
               have hR : readR x0 = (v0, 3) := by rw [hR0, hR1]; exact if_pos (by cases ha : allP (wdR L) (kR L) with | false => rfl | true => exact absurd (allP_iff.1 ha) (okP_no hi hno))
               refine rnd (ASat.vc tys_ok (l := sl7R) sp7R (by kernel_rfl) ?_)
               repeat' (first | exact trivial | (with_reducible first | exact (fun (h : true = false) => absurd h (by decide)) | exact (fun (h : false = true) => absurd h (by decide)) | exact hib | exact hib.1 | exact hib.2 | exact hb0 | exact hb0.1 | exact hb0.2 | exact hb1 | exact hb1.1 | exact hb1.2 | exact hk1 | exact hk1.1 | exact hk1.2 | exact hns | exact (fun h => absurd (hne.symm.trans h) (by decide)) | exact (fun h => absurd (c1.symm.trans h) (by decide)) | exact (fun h => absurd (c3.symm.trans h) (by decide))) | refine ⟨?_, ?_⟩ | intro _)
               all_goals first | (with_reducible first | apply qa | apply qb | apply qc | apply qd) | (conv => whnf)
               all_goals first | omega | (with_reducible assumption) | skip
               all_goals first | omega | (rw [hR]; done) | (rw [hR, Nat.zero_add]; done) | (intro _ _; rw [hR, Nat.zero_add]; done) | (dsimp only; rw [hR, Nat.zero_add]; done) | (rw [hR]; rfl)
             | false =>
               have hwz : 2 <= (atS L (Int.toNat (((intsR L).2.2 + j : Nat) : Int))).size := by have := of_decide_eq_false c3; omega
               have hb0 : (0 : Int) <= 0 /\ (0 : Int) < ((atS L (Int.toNat (((intsR L).2.2 + j : Nat) : Int))).size : Int) := by omega
               have hb1 : (0 : Int) <= 1 /\ (1 : Int) <= ((atS L (Int.toNat (((intsR L).2.2 + j : Nat) : Int))).size : Int) := by omega
               have h3e := hasP_at (s := (atS L (Int.toNat (((intsR L).2.2 + j : Nat) : Int)))) (by omega)
               cases c4 : (byteAt (atS L (Int.toNat (((intsR L).2.2 + j : Nat) : Int))) (Int.toNat 0) != 38) with
               | true =>
                 have hno : okP (wdR L) j = false := okP_amp h1 (by rw [<- hw, h3e]; simpa [bne] using c4)
                 have hR : readR x0 = (v0, 3) := by rw [hR0, hR1]; exact if_pos (by cases ha : allP (wdR L) (kR L) with | false => rfl | true => exact absurd (allP_iff.1 ha) (okP_no hi hno))
                 refine rnd (ASat.vc tys_ok (l := sl7R) sp7R (by kernel_rfl) ?_)
                 repeat' (first | exact trivial | (with_reducible first | exact (fun (h : true = false) => absurd h (by decide)) | exact (fun (h : false = true) => absurd h (by decide)) | exact hib | exact hib.1 | exact hib.2 | exact hb0 | exact hb0.1 | exact hb0.2 | exact hb1 | exact hb1.1 | exact hb1.2 | exact hk1 | exact hk1.1 | exact hk1.2 | exact hns | exact (fun h => absurd (hne.symm.trans h) (by decide)) | exact (fun h => absurd (c1.symm.trans h) (by decide)) | exact (fun h => absurd (c3.symm.trans h) (by decide)) | exact (fun h => absurd (c4.symm.trans h) (by decide))) | refine ⟨?_, ?_⟩ | intro _)
                 all_goals first | (with_reducible first | apply qa | apply qb | apply qc | apply qd) | (conv => whnf)
                 all_goals first | omega | (with_reducible assumption) | skip
                 all_goals first | omega | (rw [hR]; done) | (rw [hR, Nat.zero_add]; done) | (intro _ _; rw [hR, Nat.zero_add]; done) | (dsimp only; rw [hR, Nat.zero_add]; done) | (rw [hR]; rfl)
               | false =>
                 have h3 : p3 (wdR L j) = true := by rw [<- hw, h3e]; simpa [bne] using c4
                 have hnm : (((atS L (Int.toNat (((intsR L).2.2 + j : Nat) : Int)))).extract (Int.toNat 1) (Int.toNat (((atS L (Int.toNat (((intsR L).2.2 + j : Nat) : Int)))).size : Int))) = nmW (wdR L j) := by rw [nm_ext h3, <- hw, Int.toNat_natCast]; rfl
                 have hns : (((atS L (Int.toNat (((intsR L).2.2 + j : Nat) : Int)))).extract (Int.toNat 1) (Int.toNat (((atS L (Int.toNat (((intsR L).2.2 + j : Nat) : Int)))).size : Int))).size <= 9223372036854775807 := Nat.le_trans (ext_sz _ _ _) (by have := hsz (Int.toNat (((intsR L).2.2 + j : Nat) : Int)); omega)
                 cases c5 : nameB (((atS L (Int.toNat (((intsR L).2.2 + j : Nat) : Int)))).extract (Int.toNat 1) (Int.toNat (((atS L (Int.toNat (((intsR L).2.2 + j : Nat) : Int)))).size : Int))) with
                 | true =>
                   cases c6 : decide (((ptN (wdR L) j).length : Int) > 0) with
                   | true =>
                     have hk0 : 0 < (ptN (wdR L) j).length := by have := of_decide_eq_true c6; omega
                     have hkw : IntKind.wrap .i64 (((ptN (wdR L) j).length : Int) - 1) = (((ptN (wdR L) j).length - 1 : Nat) : Int) := by rw [wI_id _ (by omega) (by omega)]; omega
                     have hk1 : (0 : Int) <= IntKind.wrap .i64 (((ptN (wdR L) j).length : Int) - 1) /\ IntKind.wrap .i64 (((ptN (wdR L) j).length : Int) - 1) < ((ptN (wdR L) j).length : Int) := by rw [hkw]; omega
                     have hlast : atS (ptN (wdR L) j) (0 + Int.toNat (IntKind.wrap .i64 (((ptN (wdR L) j).length : Int) - 1))) = ptL (wdR L) j := by rw [hkw, Int.toNat_natCast, Nat.zero_add, ptL_eq, if_neg (by omega)]
                     have h7e := geq_p5 (((atS L (Int.toNat (((intsR L).2.2 + j : Nat) : Int)))).extract (Int.toNat 1) (Int.toNat (((atS L (Int.toNat (((intsR L).2.2 + j : Nat) : Int)))).size : Int))) (atS (ptN (wdR L) j) (0 + Int.toNat (IntKind.wrap .i64 (((ptN (wdR L) j).length : Int) - 1))))
                     cases c7 : (!Op.bytesLess (atS (ptN (wdR L) j) (0 + Int.toNat (IntKind.wrap .i64 (((ptN (wdR L) j).length : Int) - 1)))).toList (((atS L (Int.toNat (((intsR L).2.2 + j : Nat) : Int)))).extract (Int.toNat 1) (Int.toNat (((atS L (Int.toNat (((intsR L).2.2 + j : Nat) : Int)))).size : Int))).toList) with
                     | true =>
                       have hno : okP (wdR L) j = false := by rw [okP_ord h1 h3 (by rw [<- hnm]; exact c5), <- hnm, <- hlast]; exact bnt (h7e.symm.trans c7)
                       have hR : readR x0 = (v0, 3) := by rw [hR0, hR1]; exact if_pos (by cases ha : allP (wdR L) (kR L) with | false => rfl | true => exact absurd (allP_iff.1 ha) (okP_no hi hno))
                       refine rnd (ASat.vc tys_ok (l := sl7R) sp7R (by kernel_rfl) ?_)
                       repeat' (first | exact trivial | (with_reducible first | exact (fun (h : true = false) => absurd h (by decide)) | exact (fun (h : false = true) => absurd h (by decide)) | exact hib | exact hib.1 | exact hib.2 | exact hb0 | exact hb0.1 | exact hb0.2 | exact hb1 | exact hb1.1 | exact hb1.2 | exact hk1 | exact hk1.1 | exact hk1.2 | exact hns | exact (fun h => absurd (hne.symm.trans h) (by decide)) | exact (fun h => absurd (c1.symm.trans h) (by decide)) | exact (fun h => absurd (c3.symm.trans h) (by decide)) | exact (fun h => absurd (c4.symm.trans h) (by decide)) | exact (fun h => absurd (c5.symm.trans h) (by decide)) | exact (fun h => absurd (c6.symm.trans h) (by decide)) | exact (fun h => absurd (c7.symm.trans h) (by decide)) | exact (fun h => absurd ((congrArg Bool.not c5).symm.trans h) (by decide)) | exact (fun h => absurd ((congrArg Bool.not c7).symm.trans h) (by decide))) | refine ⟨?_, ?_⟩ | intro _)
                       all_goals first | (with_reducible first | apply qa | apply qb | apply qc | apply qd) | (conv => whnf)
                       all_goals first | omega | (with_reducible assumption) | exact absurd (c6.symm.trans ‹_›) (by decide) | skip
                       all_goals first | omega | (rw [hR]; done) | (rw [hR, Nat.zero_add]; done) | (intro _ _; rw [hR, Nat.zero_add]; done) | (dsimp only; rw [hR, Nat.zero_add]; done) | (rw [hR]; rfl)
                     | false =>
                       have hok : okP (wdR L) j = true := by rw [okP_ord h1 h3 (by rw [<- hnm]; exact c5), <- hnm, <- hlast]; exact bnf (h7e.symm.trans c7)
                       have hs1 : ptN (wdR L) (j + 1) = ptN (wdR L) j ++ [(((atS L (Int.toNat (((intsR L).2.2 + j : Nat) : Int)))).extract (Int.toNat 1) (Int.toNat (((atS L (Int.toNat (((intsR L).2.2 + j : Nat) : Int)))).size : Int)))] := by rw [hnm]; exact if_neg (by rw [h1]; decide)
                       have hs2 : ptB (wdR L) (j + 1) = ptB (wdR L) j := if_neg (by rw [h1]; decide)
                       refine rnd (ASat.vc tys_ok (l := sl7R) sp7R (by kernel_rfl) ?_)
                       repeat' (first | exact trivial | (with_reducible first | exact (fun (h : true = false) => absurd h (by decide)) | exact (fun (h : false = true) => absurd h (by decide)) | exact hib | exact hib.1 | exact hib.2 | exact hb0 | exact hb0.1 | exact hb0.2 | exact hb1 | exact hb1.1 | exact hb1.2 | exact hk1 | exact hk1.1 | exact hk1.2 | exact hns | exact (fun h => absurd (hne.symm.trans h) (by decide)) | exact (fun h => absurd (c1.symm.trans h) (by decide)) | exact (fun h => absurd (c3.symm.trans h) (by decide)) | exact (fun h => absurd (c4.symm.trans h) (by decide)) | exact (fun h => absurd (c5.symm.trans h) (by decide)) | exact (fun h => absurd (c6.symm.trans h) (by decide)) | exact (fun h => absurd (c7.symm.trans h) (by decide)) | exact (fun h => absurd ((congrArg Bool.not c5).symm.trans h) (by decide)) | exact (fun h => absurd ((congrArg Bool.not c7).symm.trans h) (by decide))) | refine ⟨?_, ?_⟩ | intro _)
                       all_goals first | (with_reducible first | apply qa | apply qb | apply qc | apply qd) | (conv => whnf)
                       all_goals first | omega | (with_reducible assumption) | exact absurd (c6.symm.trans ‹_›) (by decide) | skip
                       refine Clo.mk ?_
                       conv => whnf
                       rw [hwr]
                       refine ⟨j + 1, ⟨hi, fun q hq => by rcases Nat.lt_or_ge q j with h | h; exact hx2 q h; exact (show q = j by omega) ▸ hok⟩, by dsimp only; omega, [0, 1, 29], 0, ?_⟩
                       dsimp only
                       rw [hs1, hs2]
                       repeat' (first | exact trivial | exact rfl | (intro _ h; exact absurd h (Nat.not_lt_zero _)) | (intro _ _; exact rfl) | refine ⟨?_, ?_⟩ | fail)
                       all_goals first | exact row_snoc rfl | (simp; done)
                   | false =>
                     have hok : okP (wdR L) j = true := by rw [okP_ord h1 h3 (by rw [<- hnm]; exact c5), ptL_eq, if_pos (by have := of_decide_eq_false c6; omega)]; exact p5_empty (by rw [<- hnm]; exact c5)
                     have hs1 : ptN (wdR L) (j + 1) = ptN (wdR L) j ++ [(((atS L (Int.toNat (((intsR L).2.2 + j : Nat) : Int)))).extract (Int.toNat 1) (Int.toNat (((atS L (Int.toNat (((intsR L).2.2 + j : Nat) : Int)))).size : Int)))] := by rw [hnm]; exact if_neg (by rw [h1]; decide)
                     have hs2 : ptB (wdR L) (j + 1) = ptB (wdR L) j := if_neg (by rw [h1]; decide)
                     refine rnd (ASat.vc tys_ok (l := sl7R) sp7R (by kernel_rfl) ?_)
                     repeat' (first | exact trivial | (with_reducible first | exact (fun (h : true = false) => absurd h (by decide)) | exact (fun (h : false = true) => absurd h (by decide)) | exact hib | exact hib.1 | exact hib.2 | exact hb0 | exact hb0.1 | exact hb0.2 | exact hb1 | exact hb1.1 | exact hb1.2 | exact hk1 | exact hk1.1 | exact hk1.2 | exact hns | exact (fun h => absurd (hne.symm.trans h) (by decide)) | exact (fun h => absurd (c1.symm.trans h) (by decide)) | exact (fun h => absurd (c3.symm.trans h) (by decide)) | exact (fun h => absurd (c4.symm.trans h) (by decide)) | exact (fun h => absurd (c5.symm.trans h) (by decide)) | exact (fun h => absurd (c6.symm.trans h) (by decide)) | exact (fun h => absurd ((congrArg Bool.not c5).symm.trans h) (by decide))) | refine ⟨?_, ?_⟩ | intro _)
                     all_goals first | (with_reducible first | apply qa | apply qb | apply qc | apply qd) | (conv => whnf)
                     all_goals first | omega | (with_reducible assumption) | exact absurd (c6.symm.trans ‹_›) (by decide) | skip
                     refine Clo.mk ?_
                     conv => whnf
                     rw [hwr]
                     refine ⟨j + 1, ⟨hi, fun q hq => by rcases Nat.lt_or_ge q j with h | h; exact hx2 q h; exact (show q = j by omega) ▸ hok⟩, by dsimp only; omega, [0, 1, 29], 0, ?_⟩
                     dsimp only
                     rw [hs1, hs2]
                     repeat' (first | exact trivial | exact rfl | (intro _ h; exact absurd h (Nat.not_lt_zero _)) | (intro _ _; exact rfl) | refine ⟨?_, ?_⟩ | fail)
                     all_goals first | exact row_snoc rfl | (simp; done)
                 | false =>
                   have hno : okP (wdR L) j = false := okP_name h1 h3 (by rw [<- hnm]; exact c5)
                   have hR : readR x0 = (v0, 3) := by rw [hR0, hR1]; exact if_pos (by cases ha : allP (wdR L) (kR L) with | false => rfl | true => exact absurd (allP_iff.1 ha) (okP_no hi hno))
                   refine rnd (ASat.vc tys_ok (l := sl7R) sp7R (by kernel_rfl) ?_)
                   repeat' (first | exact trivial | (with_reducible first | exact (fun (h : true = false) => absurd h (by decide)) | exact (fun (h : false = true) => absurd h (by decide)) | exact hib | exact hib.1 | exact hib.2 | exact hb0 | exact hb0.1 | exact hb0.2 | exact hb1 | exact hb1.1 | exact hb1.2 | exact hk1 | exact hk1.1 | exact hk1.2 | exact hns | exact (fun h => absurd (hne.symm.trans h) (by decide)) | exact (fun h => absurd (c1.symm.trans h) (by decide)) | exact (fun h => absurd (c3.symm.trans h) (by decide)) | exact (fun h => absurd (c4.symm.trans h) (by decide)) | exact (fun h => absurd (c5.symm.trans h) (by decide)) | exact (fun h => absurd ((congrArg Bool.not c5).symm.trans h) (by decide))) | refine ⟨?_, ?_⟩ | intro _)
                   all_goals first | (with_reducible first | apply qa | apply qb | apply qc | apply qd) | (conv => whnf)
                   all_goals first | omega | (with_reducible assumption) | skip
                   all_goals first | omega | (rw [hR]; done) | (rw [hR, Nat.zero_add]; done) | (intro _ _; rw [hR, Nat.zero_add]; done) | (dsimp only; rw [hR, Nat.zero_add]; done) | (rw [hR]; rfl)
         . have hne : decide ((((intsR L).2.2 + j : Nat) : Int) < (L.length : Int)) = false := decide_eq_false (by omega)
           obtain rfl : j = kR L := by omega
           have hR : readR x0 = (⟨(intsR L).2.1, ⟨ptB (wdR L) (kR L), ptN (wdR L) (kR L)⟩⟩, 0) := by rw [hR0, hR1]; exact if_neg (by rw [allP_iff.2 hx2]; decide)
           refine rnd (ASat.vc tys_ok (l := sl7R) sp7R (by kernel_rfl) ?_)
           repeat' (first | exact trivial | (with_reducible first | exact (fun (h : true = false) => absurd h (by decide)) | exact (fun (h : false = true) => absurd h (by decide)) | exact hib | exact hib.1 | exact hib.2 | exact hb0 | exact hb0.1 | exact hb0.2 | exact hb1 | exact hb1.1 | exact hb1.2 | exact hk1 | exact hk1.1 | exact hk1.2 | exact hns | exact (fun h => absurd (hne.symm.trans h) (by decide))) | refine ⟨?_, ?_⟩ | intro _)
           all_goals first | (with_reducible first | apply qa | apply qb | apply qc | apply qd) | (conv => whnf)
           all_goals first | omega | (with_reducible assumption) | skip
           refine ASat.vc tys_ok (l := []) trivial (by kernel_rfl) ?_
           repeat' (first | exact trivial | refine ⟨?_, ?_⟩ | intro _)
           all_goals first | (with_reducible first | apply qa | apply qb | apply qc | apply qd) | (conv => whnf)
           all_goals first | omega | (rw [hR]; done) | (rw [hR, Nat.zero_add]; done) | (intro _ _; rw [hR, Nat.zero_add]; done) | (dsimp only; rw [hR, Nat.zero_add]; done) | (rw [hR]; rfl)
 . cases h
end Go.Proofs.YtakcacejpbiogaaGreatDoor
