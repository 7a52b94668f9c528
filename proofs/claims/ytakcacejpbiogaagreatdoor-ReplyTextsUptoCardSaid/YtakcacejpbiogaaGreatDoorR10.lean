/- What a text is read as. No condition. -/
import Derived.Test.YtakcacejpbiogaaGreatDoorR9
set_option linter.all false
set_option maxHeartbeats 8000000
set_option maxRecDepth 100000
namespace Go.Proofs.YtakcacejpbiogaaGreatDoor
open Go.Sx
def wdR (L : List ByteArray) (i : Nat) : ByteArray := atS L ((intsR L).2.2 + i)
def allP (W : Nat -> ByteArray) (k : Nat) : Bool := (List.range k).all (okP W)
theorem allP_iff {W : Nat -> ByteArray} {k : Nat} : allP W k = true ↔ ∀ i, i < k -> okP W i = true := by
 unfold allP
 rw [List.all_eq_true]
 exact ⟨fun h i hi => h i (List.mem_range.2 hi), fun h i hi => h i (List.mem_range.1 hi)⟩
abbrev nilS : ByteArray := ⟨#[110, 111, 116, 104, 105, 110, 103]⟩
abbrev v0 : Vl := ⟨Ig.zero, ⟨false, []⟩⟩
def kR (L : List ByteArray) : Nat := L.length - (intsR L).2.2
def readL (L : List ByteArray) : Vl × Int :=
 if (intsR L).1 ≠ 0 then (v0, (intsR L).1)
 else if allP (wdR L) (kR L) = false then (v0, 3)
 else (⟨(intsR L).2.1, ⟨ptB (wdR L) (kR L), ptN (wdR L) (kR L)⟩⟩, 0)
def readR (s : ByteArray) : Vl × Int := if (s.toList == nilS.toList) = true then (v0, 0) else readL (splitS s)
theorem len8 {α : Type} {l : List α} (h : l.length = 8) : ∃ a b c d e f g i, l = [a, b, c, d, e, f, g, i] := by
 match l, h with
 | [a, b, c, d, e, f, g, i], _ => exact ⟨a, b, c, d, e, f, g, i, rfl⟩
structure NOk (L : List ByteArray) (r : Int × Ig × Nat) : Prop where
 ok : (r.2.2 = 0 /\ r.2.1 = Ig.zero) \/ (r.2.2 = 1 /\ r.2.1.s.some = true /\ r.2.1.c.some = true) \/ (r.2.2 = 5 /\ 5 <= L.length /\ r.2.1.s.some = true /\ r.2.1.c.some = true)
theorem intsR_N (L : List ByteArray) : NOk L (intsR L) := by
 by_cases c1 : i1 L = false
 . have tt := c1
   have hR : intsR L = (0, Ig.zero, 0) := by unfold intsR; rw [if_pos tt]
   rw [hR]
   exact ⟨.inl ⟨rfl, rfl⟩⟩
 . have n1 := c1
   by_cases c2 : numE (loS L) ≠ 0
   . have tt := c2
     have hR : intsR L = (numE (loS L), Ig.zero, 0) := by unfold intsR; rw [if_neg n1, if_pos tt]
     rw [hR]
     exact ⟨.inl ⟨rfl, rfl⟩⟩
   . have n2 := c2
     by_cases c3 : numE (hiS L) ≠ 0
     . have tt := c3
       have hR : intsR L = (numE (hiS L), Ig.zero, 0) := by unfold intsR; rw [if_neg n1, if_neg n2, if_pos tt]
       rw [hR]
       exact ⟨.inl ⟨rfl, rfl⟩⟩
     . have n3 := c3
       by_cases c4 : i4 L = false
       . have tt := c4
         have hR : intsR L = (3, Ig.zero, 0) := by unfold intsR; rw [if_neg n1, if_neg n2, if_neg n3, if_pos tt]
         rw [hR]
         exact ⟨.inl ⟨rfl, rfl⟩⟩
       . have n4 := c4
         by_cases c5 : (i5a L || i5b L) = true
         . have tt := c5
           have hR : intsR L = (0, ⟨⟨true, numI (loS L), numI (hiS L)⟩, ⟨true, 1, 0⟩⟩, 1) := by unfold intsR; rw [if_neg n1, if_neg n2, if_neg n3, if_neg n4, if_pos tt]
           rw [hR]
           exact ⟨.inr (.inl ⟨rfl, rfl, rfl⟩)⟩
         . have n5 := c5
           by_cases c6 : i6 L = false
           . have tt := c6
             have hR : intsR L = (3, Ig.zero, 0) := by unfold intsR; rw [if_neg n1, if_neg n2, if_neg n3, if_neg n4, if_neg n5, if_pos tt]
             rw [hR]
             exact ⟨.inl ⟨rfl, rfl⟩⟩
           . have n6 := c6
             by_cases c7 : numE (atS L (Int.toNat 2)) ≠ 0
             . have tt := c7
               have hR : intsR L = (numE (atS L (Int.toNat 2)), Ig.zero, 0) := by unfold intsR; rw [if_neg n1, if_neg n2, if_neg n3, if_neg n4, if_neg n5, if_neg n6, if_pos tt]
               rw [hR]
               exact ⟨.inl ⟨rfl, rfl⟩⟩
             . have n7 := c7
               by_cases c8 : (i8a L && i8b L) = false
               . have tt := c8
                 have hR : intsR L = (3, Ig.zero, 0) := by unfold intsR; rw [if_neg n1, if_neg n2, if_neg n3, if_neg n4, if_neg n5, if_neg n6, if_neg n7, if_pos tt]
                 rw [hR]
                 exact ⟨.inl ⟨rfl, rfl⟩⟩
               . have n8 := c8
                 by_cases c9 : (i9a L && i9b L) = false
                 . have tt := c9
                   have hR : intsR L = (3, Ig.zero, 0) := by unfold intsR; rw [if_neg n1, if_neg n2, if_neg n3, if_neg n4, if_neg n5, if_neg n6, if_neg n7, if_neg n8, if_pos tt]
                   rw [hR]
                   exact ⟨.inl ⟨rfl, rfl⟩⟩
                 . have n9 := c9
                   by_cases c10 : numE (atS L (Int.toNat 4)) ≠ 0
                   . have tt := c10
                     have hR : intsR L = (numE (atS L (Int.toNat 4)), Ig.zero, 0) := by unfold intsR; rw [if_neg n1, if_neg n2, if_neg n3, if_neg n4, if_neg n5, if_neg n6, if_neg n7, if_neg n8, if_neg n9, if_pos tt]
                     rw [hR]
                     exact ⟨.inl ⟨rfl, rfl⟩⟩
                   . have n10 := c10
                     by_cases c11 : (i11a L || (i11b L && i11c L)) = false
                     . have tt := c11
                       have hR : intsR L = (3, Ig.zero, 0) := by unfold intsR; rw [if_neg n1, if_neg n2, if_neg n3, if_neg n4, if_neg n5, if_neg n6, if_neg n7, if_neg n8, if_neg n9, if_neg n10, if_pos tt]
                       rw [hR]
                       exact ⟨.inl ⟨rfl, rfl⟩⟩
                     . have n11 := c11
                       have hR : intsR L = (0, ⟨⟨true, numI (loS L), numI (hiS L)⟩, ⟨true, numI (atS L (Int.toNat 2)), numI (atS L (Int.toNat 4))⟩⟩, 5) := by unfold intsR; rw [if_neg n1, if_neg n2, if_neg n3, if_neg n4, if_neg n5, if_neg n6, if_neg n7, if_neg n8, if_neg n9, if_neg n10, if_neg n11]
                       rw [hR]
                       refine ⟨.inr (.inr ⟨rfl, ?_, rfl, rfl⟩)⟩
                       have h : i9a L = true := by
                        cases h : i9a L with
                        | true => rfl
                        | false => exact absurd (by rw [h]; rfl) n9
                       have := of_decide_eq_true h
                       omega
theorem vIc_le {L : List ByteArray} {ids : List Nat} {nv : Nat} : cellsLe ids nv (vIc (intsR L).2.1 (intsR L).2.2) [.d (bo (intsR L).2.1.s.some), .d (it (intsR L).2.1.s.lo), .d (it (intsR L).2.1.s.hi), .d (bo (intsR L).2.1.c.some), .d (it (intsR L).2.1.c.m), .d (it (intsR L).2.1.c.r), .d (bo false), .d (.v (.slice none 0 0))] := by
 obtain ⟨h⟩ := intsR_N L
 generalize intsR L = r at h
 obtain ⟨e, g, N⟩ := r
 dsimp only at h ⊢
 rcases h with ⟨rfl, rfl⟩ | ⟨rfl, h1, h2⟩ | ⟨rfl, _, h1, h2⟩
 . refine ⟨rfl, rfl, rfl, rfl, rfl, rfl, rfl, rfl, trivial⟩
 . rw [h1, h2]; exact ⟨rfl, rfl, rfl, rfl, rfl, rfl, rfl, rfl, trivial⟩
 . rw [h1, h2]; exact ⟨rfl, rfl, rfl, rfl, rfl, rfl, rfl, rfl, trivial⟩
theorem lsI_row {L : List ByteArray} (hL : 1 <= L.length) : lsI L (intsR L).2.2 = .lst 1 (kR L) fun i => [st (wdR L i)] := by
 obtain ⟨h⟩ := intsR_N L
 unfold kR wdR
 generalize intsR L = r at h
 obtain ⟨e, g, N⟩ := r
 dsimp only at h ⊢
 rcases h with ⟨rfl, rfl⟩ | ⟨rfl, h1, h2⟩ | ⟨rfl, h5, h1, h2⟩
 . show DV.lst 1 L.length _ = .lst 1 (L.length - 0) _
   rw [Nat.sub_zero]
   congr 1
   funext i; rw [Nat.zero_add]
 . show DV.lst 1 (Int.toNat ((L.length : Int) - 1)) _ = _
   rw [show Int.toNat ((L.length : Int) - 1) = L.length - 1 by omega]; rfl
 . show DV.lst 1 (Int.toNat ((L.length : Int) - 5)) _ = _
   rw [show Int.toNat ((L.length : Int) - 5) = L.length - 5 by omega]; rfl
theorem qI_inl {L : List ByteArray} {ts : List (Nat × Tm)} {m : Nat} {K : Tm -> St -> Prop} {KP : List PanicEntry -> St -> Prop} {τ : Tys}
 (hret : (intsR L).1 = 0 -> ∀ hp n, normH hp n [] = [(0, .cells (vIc (intsR L).2.1 (intsR L).2.2)), (1, .cells [.d (it 0)])] -> K (.va (.c (.d (lsI L (intsR L).2.2)))) ⟨ts, hp, n, m⟩)
 (hpan : (intsR L).1 ≠ 0 -> ∀ hp n c0 c1 c2 c3 c4 c5 c6 c7, normH hp n [] = [(0, .cells [c0, c1, c2, c3, c4, c5, c6, c7]), (1, .cells [.d (it 0)])] -> KP [{ v := wrV (intsR L).1, recovered := false }] ⟨ts, hp, n, m⟩) :
 ∀ e st, qI L e st -> inlAQ τ Tryz.f19.results.toList ts m K KP e st := by
 rintro e ⟨ts', h, n, m'⟩ hq
 cases e with
 | ret =>
   obtain ⟨h0, hn⟩ := hq
   rw [normK_eq] at hn
   injection hn with h1 h2
   have h1 : [(4, lookT ts' 4)] = [(4, Tm.va (.c (.d (lsI L (intsR L).2.2))))] := h1
   injection h1 with h1 _
   injection h1 with _ h1
   show match lookT ts' 4 with | .va x => fVa x fun x => K (.va x) ⟨ts, h, n, m⟩ | _ => False
   rw [h1]
   show fVa _ _
   rw [fVa_eq]
   exact hret h0 h n h2
 | panic ch =>
   obtain ⟨rfl, h0, cs, hn, hl⟩ := hq
   rw [normK_eq] at hn
   injection hn with _ h2
   obtain ⟨c0, c1, c2, c3, c4, c5, c6, c7, rfl⟩ := len8 hl
   exact hpan h0 h n _ _ _ _ _ _ _ _ h2
 | normal => exact hq.elim
 | exit id => exact hq.elim
 | goto l => exact hq.elim
 | outgrown => exact hq.elim
theorem qP_inl {W : Nat -> ByteArray} {k : Nat} {b0 b1 : Bool} {l0 h0 m0 r0 : Int} {ts : List (Nat × Tm)} {m : Nat} {K : Tm -> St -> Prop} {KP : List PanicEntry -> St -> Prop} {τ : Tys}
 (hret : allP W k = true -> ∀ hp n, normH hp n [] = [(0, .cells [.d (bo b0), .d (it l0), .d (it h0), .d (bo b1), .d (it m0), .d (it r0), .d (bo (ptB W k)), .osl 2 1 0 (ptN W k).length]), (1, .cells [.d (it 0)]), (2, .row 1 (ptN W k).length fun j => [st (atS (ptN W k) j)])] -> K (.tup []) ⟨ts, hp, n, m⟩)
 (hpan : allP W k = false -> ∀ hp n c0 c1 c2 c3 c4 c5 c6 c7 rest, normH hp n [] = (0, .cells [c0, c1, c2, c3, c4, c5, c6, c7]) :: (1, .cells [.d (it 0)]) :: rest -> KP [{ v := wrV 3, recovered := false }] ⟨ts, hp, n, m⟩) :
 ∀ e st, qP W k b0 l0 h0 b1 m0 r0 e st -> inlAQ τ Tryz.f18.results.toList ts m K KP e st := by
 rintro e ⟨ts', h, n, m'⟩ hq
 cases e with
 | normal =>
   obtain ⟨h0, hn⟩ := hq
   rw [normK_eq] at hn
   injection hn with _ h2
   exact hret (allP_iff.2 h0) h n h2
 | panic ch =>
   obtain ⟨rfl, h0, cs, rest, hn, hl⟩ := hq
   rw [normK_eq] at hn
   injection hn with _ h2
   obtain ⟨c0, c1, c2, c3, c4, c5, c6, c7, rfl⟩ := len8 hl
   refine hpan ?_ h n _ _ _ _ _ _ _ _ _ h2
   cases ha : allP W k with
   | false => rfl
   | true => exact absurd (allP_iff.1 ha) h0
 | ret => exact hq.elim
 | exit id => exact hq.elim
 | goto l => exact hq.elim
 | outgrown => exact hq.elim
def FRead : List Ar -> Option Rs
 | [.c (.d (.v (.string x)))] => some ⟨x.size < 4294967281, .tup [Vl.ar (readR x).1, .c (.d (it (readR x).2))], []⟩
 | _ => none
theorem fcRead : FC Tryz.prog 7 FRead := by
 intro xs pre r us h hp
 unfold FRead at h
 split at h
 . rename_i x0
   cases h
   refine FCat_coreE (TT.tysOk tys_ok) Tryz.func7 rfl (fr := true) ?_
   refine ⟨Nat.le_of_ble_eq_true rfl, ?_⟩
   refine EndSat.defers (caps := [(0, 0), (1, 0)]) tys_ok (l := []) trivial Tryz.func7 rfl rfl rfl rfl rfl rfl (callable_of Tryz.func17 rfl rfl) ?_
   refine ASat.vc tys_ok (l := []) trivial (by kernel_rfl) ?_
   repeat' (first | exact trivial | refine ⟨?_, ?_⟩ | intro _)
   all_goals first | (with_reducible first | apply qa | apply qb | apply qc | apply qd) | (conv => whnf)
   . exact rfl
   . exact Nat.zero_le _
   show DSat _ _ _ _ _ _
   refine DSat.seq ?_
   refine DSat.seq ?_
   refine DSat.region tys_ok (l := []) trivial ?_
   repeat' (first | exact trivial | refine ⟨?_, ?_⟩ | intro _)
   all_goals first | (with_reducible first | apply qa | apply qb | apply qc | apply qd) | (conv => whnf)
   show DSat _ _ _ _ _ _
   cases hN : (x0.toList == nilS.toList) with
   | true =>
     have hR : readR x0 = (v0, 0) := if_pos hN
     refine DSat.cond ?_
     repeat' (first | exact trivial | exact (fun (h : true = false) => absurd h (by decide)) | exact (fun (h : false = true) => absurd h (by decide)) | (with_reducible exact (fun h => absurd (hN.symm.trans h) (by decide))) | refine ⟨?_, ?_⟩ | intro _)
     refine DSat.seq ?_
     refine DSat.region tys_ok (l := []) trivial ?_
     repeat' (first | exact trivial | refine ⟨?_, ?_⟩ | intro _)
     all_goals first | (with_reducible first | apply qa | apply qb | apply qc | apply qd) | (conv => whnf)
     show DSat _ _ _ _ _ _
     refine DSat.ret ?_
     show CloK _ _ _ _ _ _ _
     refine clo_nil ?_
     repeat' (first | exact trivial | refine ⟨?_, ?_⟩ | intro _)
     all_goals first | (with_reducible first | apply qa | apply qb | apply qc | apply qd) | (conv => whnf)
     all_goals first | (rw [hR]; done) | (rw [hR]; rfl)
   | false =>
     have hsz : ∀ i, (atS (splitS x0) i).size <= 4294967280 := fun i => by have := at_sz x0 i; omega
     have hlo : (loS (splitS x0)).size <= 281474976710656 := by have := (cut_sz (atS (splitS x0) (Int.toNat 0)) ⟨#[46, 46]⟩).1; have := hsz (Int.toNat 0); show (cutS _ _).1.size <= _; omega
     have hhi : (hiS (splitS x0)).size <= 281474976710656 := by have := (cut_sz (atS (splitS x0) (Int.toNat 0)) ⟨#[46, 46]⟩).2; have := hsz (Int.toNat 0); show (cutS _ _).2.1.size <= _; omega
     have hR : readR x0 = readL (splitS x0) := if_neg (by rw [hN]; decide)
     refine DSat.cond ?_
     repeat' (first | exact trivial | exact (fun (h : true = false) => absurd h (by decide)) | exact (fun (h : false = true) => absurd h (by decide)) | (with_reducible exact (fun h => absurd (hN.symm.trans h) (by decide))) | refine ⟨?_, ?_⟩ | intro _)
     show DSat _ _ _ _ _ _
     refine DSat.skip ?_
     show DSat _ _ _ _ _ _
     refine DSat.seq ?_
     refine DSat.regO ?_
     refine OSat.vc tys_ok (l := [(20, ⟨[], FSplit⟩)]) ⟨fcSplit, trivial⟩ 2 rfl rfl ?_
     repeat' (first | exact trivial | refine ⟨?_, ?_⟩ | intro _)
     all_goals first | (with_reducible first | apply qa | apply qb | apply qc | apply qd) | (conv => whnf)
     . exact hp
     refine OSat.call rfl rfl rfl rfl rfl ?_
     refine inlA tys_ok Tryz.func19 rfl rfl rfl ?_
     refine ASat.mono (ints_walk (L := splitS x0) (split_pos _) hsz hlo hhi) (qI_inl (fun h0 hb n hn => ?_) fun h0 hb n c0 c1 c2 c3 c4 c5 c6 c7 hn => ?_)
     . have hk : kR (splitS x0) <= 4294967290 := by
        have := split_len x0.size x0 (Nat.le_refl _)
        unfold kR; omega
       rw [lsI_row (split_pos x0)]
       conv => whnf
       refine OSat.norm [2, 3, 10] ?_
       show OSat _ 2 _ 3 ⟨[(2, .va (.c (.own 0 0))), (3, .va (.c (.own 1 0))), (10, .va (.c (.d (.lst 1 (kR (splitS x0)) fun i => [st (wdR (splitS x0) i)]))))], normH hb n [], n, _⟩ _
       rw [hn]
       refine OSat.le [0, 1] 0 (st' := ⟨[(2, .va (.c (.own 0 0))), (3, .va (.c (.own 1 0))), (10, .va (.c (.d (.lst 1 (kR (splitS x0)) fun i => [st (wdR (splitS x0) i)]))))], [(0, .cells [.d (bo (intsR (splitS x0)).2.1.s.some), .d (it (intsR (splitS x0)).2.1.s.lo), .d (it (intsR (splitS x0)).2.1.s.hi), .d (bo (intsR (splitS x0)).2.1.c.some), .d (it (intsR (splitS x0)).2.1.c.m), .d (it (intsR (splitS x0)).2.1.c.r), .d (bo false), .d (.v (.slice none 0 0))]), (1, .cells [.d (it 0)])], 2, Tryz.f7.ntmps⟩) ?_ ?_
       . exact ⟨rfl, rfl, rfl, ⟨⟨rfl, rfl⟩, ⟨rfl, rfl⟩, ⟨rfl, rfl, fun _ _ => rfl⟩, trivial⟩, vIc_le, ⟨rfl, trivial⟩, trivial⟩
       refine OSat.call rfl rfl rfl rfl rfl ?_
       refine inlA tys_ok Tryz.func18 rfl rfl rfl ?_
       refine ASat.mono (ptr_walk (W := wdR (splitS x0)) hk (fun i => hsz _)) (qP_inl (fun h1 hb n hn => ?_) fun h1 hb n c0 c1 c2 c3 c4 c5 c6 c7 rest hn => ?_)
       . have hR2 : readL (splitS x0) = (⟨(intsR (splitS x0)).2.1, ⟨ptB (wdR (splitS x0)) (kR (splitS x0)), ptN (wdR (splitS x0)) (kR (splitS x0))⟩⟩, 0) := by unfold readL; rw [if_neg (by rw [h0]; decide), if_neg (by rw [h1]; decide)]
         conv => whnf
         refine OSat.norm [2, 3] ?_
         show OSat _ 2 _ 4 ⟨[(2, .va (.c (.own 0 0))), (3, .va (.c (.own 1 0)))], normH hb n [], n, _⟩ _
         rw [hn]
         refine OSat.done tys_ok (l := []) trivial ?_
         show DSat _ _ _ _ _ _
         refine DSat.le [0, 1, 2] 0 (st' := ⟨[(2, .va (.c (.own 0 0))), (3, .va (.c (.own 1 0)))], [(0, .cells [.d (bo (intsR (splitS x0)).2.1.s.some), .d (it (intsR (splitS x0)).2.1.s.lo), .d (it (intsR (splitS x0)).2.1.s.hi), .d (bo (intsR (splitS x0)).2.1.c.some), .d (it (intsR (splitS x0)).2.1.c.m), .d (it (intsR (splitS x0)).2.1.c.r), .d (bo (ptB (wdR (splitS x0)) (kR (splitS x0)))), .osl 2 1 0 (ptN (wdR (splitS x0)) (kR (splitS x0))).length]), (1, .cells [.d (it 0)]), (2, .row 1 (ptN (wdR (splitS x0)) (kR (splitS x0))).length fun j => [st (atS (ptN (wdR (splitS x0)) (kR (splitS x0))) j)])], 3, Tryz.f7.ntmps⟩) ?_ ?_
         . exact ⟨rfl, rfl, rfl, ⟨⟨rfl, rfl⟩, ⟨rfl, rfl⟩, trivial⟩, ⟨rfl, rfl, rfl, rfl, rfl, rfl, rfl, ⟨rfl, rfl, rfl, rfl⟩, trivial⟩, ⟨rfl, trivial⟩, ⟨rfl, rfl, fun _ _ => rfl⟩, trivial⟩
         refine DSat.seq ?_
         refine DSat.region tys_ok (l := []) trivial ?_
         repeat' (first | exact trivial | refine ⟨?_, ?_⟩ | intro _)
         all_goals first | (with_reducible first | apply qa | apply qb | apply qc | apply qd) | (conv => whnf)
         show DSat _ _ _ _ _ _
         refine DSat.ret ?_
         show CloK _ _ _ _ _ _ _
         refine clo_nil ?_
         repeat' (first | exact trivial | refine ⟨?_, ?_⟩ | intro _)
         all_goals first | (with_reducible first | apply qa | apply qb | apply qc | apply qd) | (conv => whnf)
         all_goals first | (rw [hR, hR2]; done) | (rw [hR, hR2]; rfl) | omega | (simp only [hR, hR2, Nat.zero_add]; done)
       . refine ⟨_, rfl, ?_⟩
         have hR2 : readL (splitS x0) = (v0, 3) := by unfold readL; rw [if_neg (by rw [h0]; decide), if_pos h1]
         refine CloK.norm [2, 3] ?_
         show CloK _ _ _ _ _ ⟨[(2, .va (.c (.own 0 0))), (3, .va (.c (.own 1 0)))], normH hb n [], n, _⟩ _
         rw [hn]
         refine CloK.le [0, 1] 0 rfl (st' := ⟨[(2, .va (.c (.own 0 0))), (3, .va (.c (.own 1 0)))], [(0, .cells [.top, .top, .top, .top, .top, .top, .top, .top]), (1, .cells [.d (it 0)])], 2, Tryz.f7.ntmps⟩) ?_ ?_
         . exact ⟨rfl, rfl, rfl, ⟨⟨rfl, rfl⟩, ⟨rfl, rfl⟩, trivial⟩, ⟨trivial, trivial, trivial, trivial, trivial, trivial, trivial, trivial, trivial⟩, ⟨rfl, trivial⟩, trivial⟩
         refine clo_wr ?_
         repeat' (first | exact trivial | refine ⟨?_, ?_⟩ | intro _)
         all_goals first | (with_reducible first | apply qa | apply qb | apply qc | apply qd) | (conv => whnf)
         all_goals first | (rw [hR, hR2]; done) | (rw [hR, hR2]; rfl) | omega | (simp only [hR, hR2, Nat.zero_add]; done)
     . refine ⟨_, rfl, ?_⟩
       have hR2 : readL (splitS x0) = (v0, (intsR (splitS x0)).1) := if_pos h0
       refine CloK.norm [2, 3] ?_
       show CloK _ _ _ _ _ ⟨[(2, .va (.c (.own 0 0))), (3, .va (.c (.own 1 0)))], normH hb n [], n, _⟩ _
       rw [hn]
       refine CloK.le [0, 1] 0 rfl (st' := ⟨[(2, .va (.c (.own 0 0))), (3, .va (.c (.own 1 0)))], [(0, .cells [.top, .top, .top, .top, .top, .top, .top, .top]), (1, .cells [.d (it 0)])], 2, Tryz.f7.ntmps⟩) ?_ ?_
       . exact ⟨rfl, rfl, rfl, ⟨⟨rfl, rfl⟩, ⟨rfl, rfl⟩, trivial⟩, ⟨trivial, trivial, trivial, trivial, trivial, trivial, trivial, trivial, trivial⟩, ⟨rfl, trivial⟩, trivial⟩
       refine clo_wr ?_
       repeat' (first | exact trivial | refine ⟨?_, ?_⟩ | intro _)
       all_goals first | (with_reducible first | apply qa | apply qb | apply qc | apply qd) | (conv => whnf)
       all_goals first | (rw [hR, hR2]; done) | (rw [hR, hR2]; rfl) | omega | (simp only [hR, hR2, Nat.zero_add]; done)
 . cases h
def hasS (b : Bool) (l : List ByteArray) (x : ByteArray) : Bool := if x = ByteArray.empty then b else memS x l
theorem has_e {b : Bool} {l : List ByteArray} {x : ByteArray} (h : (x.toList == ByteArray.empty.toList) = true) : hasS b l x = b := by
 rw [seq_iff] at h; unfold hasS; rw [if_pos (by simpa using h)]
theorem has_n {b : Bool} {l : List ByteArray} {x : ByteArray} (h : (x.toList == ByteArray.empty.toList) = false) : hasS b l x = memS x l := by
 rw [seq_iff] at h; unfold hasS; rw [if_neg (by simpa using h)]
theorem okV_of {v : Vl} (h : okV v) : okV v.of := by
 have h1 := Ig.clean_inR h.2.1 h.2.2
 have h2 := ofS_len v.t.names
 exact ⟨⟨by show (ofS v.t.names).length * 16 <= 140737488351232; have := h.1.1; omega, fun _ _ => rfl⟩, h1⟩
def FNHas : List Ar -> Option Rs
 | [.agg [.d (.v (.bool b0)), .d (.lst 1 n0 f0)], .c (.d (.v (.string x1)))] => some ⟨(n0 * 16 <= 140737488351232 /\ ∀ i, i < n0 -> f0 i = [st (gT (f0 i))]), .va (.c (.d (bo (hasS b0 (gN n0 f0) x1)))), []⟩
 | _ => none
theorem fcNHas : FC Tryz.prog 52 FNHas := by
 intro xs pre r us h hp
 unfold FNHas at h
 split at h
 . rename_i b0 n0 f0 x1
   cases h
   have hp0 := hp
   refine FCat.of_eq (as' := [.agg [.d (.v (.bool b0)), .d (.lst 1 n0 fun i => [st (gT (f0 i))])], .c (.d (.v (.string x1)))]) ?_ rfl rfl ?_
   . repeat' (first | exact trivial | exact rfl | refine ⟨?_, ?_⟩ | fail)
     all_goals first | exact hp0.2 | exact hp1.2 | exact hp2.2 | (intro i hi; exact (hp0.2 i hi).1) | (intro i hi; exact (hp1.2 i hi).1) | (intro i hi; exact (hp2.2 i hi).1) | grind
   refine fcat tys_ok (l := [(75, ⟨[], FNContains⟩)]) ⟨fcNContains, trivial⟩ Tryz.func52 rfl (by kernel_rfl) false ?_
   repeat' (first | exact trivial | refine ⟨?_, ?_⟩ | intro _)
   all_goals first | (with_reducible first | apply qa | apply qb | apply qc | apply qd) | (conv => whnf)
   all_goals first | exact hp0.1 | rfl | (rw [has_e ‹_›]; done) | (rw [has_e ‹_›]; rfl) | (rw [has_n ‹_›]; done) | (rw [has_n ‹_›]; rfl)
 . cases h
def FVCleanV : List Ar -> Option Rs
 | [.agg [.d (.v (.bool s0)), .d (.v (.int .i64 l0)), .d (.v (.int .i64 h0)), .d (.v (.bool b0)), .d (.v (.int .i64 m0)), .d (.v (.int .i64 r0)), .d (.v (.bool z0)), .d (.lst 1 n0 f0)]] => some ⟨((n0 * 16 <= 140737488351232 /\ ∀ i, i < n0 -> f0 i = [st (gT (f0 i))]) /\ Sp.inR ⟨s0, l0, h0⟩ /\ Cg.inR ⟨b0, m0, r0⟩), .va (Vl.ar (Vl.of (⟨⟨⟨s0, l0, h0⟩, ⟨b0, m0, r0⟩⟩, ⟨z0, gN n0 f0⟩⟩ : Vl))), []⟩
 | _ => none
theorem fcVCleanV : FC Tryz.prog 23 FVCleanV := by
 intro xs pre r us h hp
 unfold FVCleanV at h
 split at h
 . rename_i s0 l0 h0 b0 m0 r0 z0 n0 f0
   cases h
   have hp0 := hp
   refine FCat.of_eq (as' := [.agg [.d (.v (.bool s0)), .d (.v (.int .i64 l0)), .d (.v (.int .i64 h0)), .d (.v (.bool b0)), .d (.v (.int .i64 m0)), .d (.v (.int .i64 r0)), .d (.v (.bool z0)), .d (.lst 1 n0 fun i => [st (gT (f0 i))])]]) ?_ rfl rfl ?_
   . repeat' (first | exact trivial | exact rfl | refine ⟨?_, ?_⟩ | fail)
     all_goals first | exact hp0.2 | exact hp1.2 | exact hp2.2 | (intro i hi; exact (hp0.2 i hi).1) | (intro i hi; exact (hp1.2 i hi).1) | (intro i hi; exact (hp2.2 i hi).1) | grind
   refine fcat tys_ok (l := [(44, ⟨[], FVOf⟩), (45, ⟨[], FVValue⟩)]) ⟨fcVOf, fcVValue, trivial⟩ Tryz.func23 rfl (by kernel_rfl) true ?_
   have hv0 : okV (⟨⟨⟨s0, l0, h0⟩, ⟨b0, m0, r0⟩⟩, ⟨z0, gN n0 fun i => [st (gT (f0 i))]⟩⟩ : Vl) := ⟨⟨(by rw [gN_length]; exact hp0.1.1), fun _ _ => rfl⟩, hp0.2⟩
   have ho0 := okV_of hv0
   have hoo0 := okV_of ho0
   unfold okV at ho0 hoo0
   repeat' (first | exact trivial | (with_reducible first | exact ho0 | exact ho0.1 | exact ho0.2.1 | exact ho0.2.2 | exact hp0 | exact hp0.1 | exact hp0.2 | exact hp0.2.1 | exact hp0.2.2 | exact hoo0 | exact hoo0.1 | exact hoo0.2.1 | exact hoo0.2.2) | refine ⟨?_, ?_⟩ | intro _)
   all_goals first | (with_reducible first | apply qa | apply qb | apply qc | apply qd) | (conv => whnf)
   all_goals (try simp only [gN_lst] at *)
   all_goals first | rfl | (with_reducible exact hp0.1.1)
 . cases h
def FVHasPtr : List Ar -> Option Rs
 | [.agg [.d (.v (.bool s0)), .d (.v (.int .i64 l0)), .d (.v (.int .i64 h0)), .d (.v (.bool b0)), .d (.v (.int .i64 m0)), .d (.v (.int .i64 r0)), .d (.v (.bool z0)), .d (.lst 1 n0 f0)], .c (.d (.v (.string x1)))] => some ⟨((n0 * 16 <= 140737488351232 /\ ∀ i, i < n0 -> f0 i = [st (gT (f0 i))]) /\ Sp.inR ⟨s0, l0, h0⟩ /\ Cg.inR ⟨b0, m0, r0⟩), .va (.c (.d (bo (hasS z0 (gN n0 f0) x1)))), []⟩
 | _ => none
theorem fcVHasPtr : FC Tryz.prog 29 FVHasPtr := by
 intro xs pre r us h hp
 unfold FVHasPtr at h
 split at h
 . rename_i s0 l0 h0 b0 m0 r0 z0 n0 f0 x1
   cases h
   have hp0 := hp
   refine FCat.of_eq (as' := [.agg [.d (.v (.bool s0)), .d (.v (.int .i64 l0)), .d (.v (.int .i64 h0)), .d (.v (.bool b0)), .d (.v (.int .i64 m0)), .d (.v (.int .i64 r0)), .d (.v (.bool z0)), .d (.lst 1 n0 fun i => [st (gT (f0 i))])], .c (.d (.v (.string x1)))]) ?_ rfl rfl ?_
   . repeat' (first | exact trivial | exact rfl | refine ⟨?_, ?_⟩ | fail)
     all_goals first | exact hp0.2 | exact hp1.2 | exact hp2.2 | (intro i hi; exact (hp0.2 i hi).1) | (intro i hi; exact (hp1.2 i hi).1) | (intro i hi; exact (hp2.2 i hi).1) | grind
   refine fcat tys_ok (l := [(52, ⟨[], FNHas⟩)]) ⟨fcNHas, trivial⟩ Tryz.func29 rfl (by kernel_rfl) true ?_
   repeat' (first | exact trivial | (with_reducible first | exact hp0 | exact hp0.1 | exact hp0.2.1 | exact hp0.2.2) | refine ⟨?_, ?_⟩ | intro _)
   all_goals first | (with_reducible first | apply qa | apply qb | apply qc | apply qd) | (conv => whnf)
   all_goals (try simp only [gN_lst] at *)
   all_goals first | rfl | (with_reducible exact hp0.1.1)
 . cases h
def FRNumC : List Ar -> Option Rs
 | [.c (.d (.v (.int .i64 i0)))] => some ⟨(-9223372036854775808 <= i0 /\ i0 < 9223372036854775808), .va (.c (.d (st (itoaS i0)))), []⟩
 | _ => none
theorem fcRNumC : FC Tryz.prog 26 FRNumC := by
 intro xs pre r us h hp
 unfold FRNumC at h
 split at h
 . rename_i i0
   cases h
   have hp0 := hp
   refine fcat tys_ok (l := []) trivial Tryz.func26 rfl (by kernel_rfl) true ?_
   repeat' (first | exact trivial | refine ⟨?_, ?_⟩ | intro _)
   all_goals first | (with_reducible first | apply qa | apply qb | apply qc | apply qd) | (conv => whnf)
   all_goals first | (have hz : i0 = 0 := eq_of_beq ‹(i0 == 0) = true›; subst hz; exact congrArg Value.string itoa_zero.symm) | skip
   have hz : i0 ≠ 0 := beq_eq_false_iff_ne.1 ‹(i0 == 0) = false›
   have hlen := dgs_len (n := i0) hp0
   refine loop_ok tys_ok (l := []) trivial (by kernel_rfl) (X := Int × List UInt8)
    (fun x => ⟨[(3, vx (.string (mkB x.2))), (4, vx (.int .i64 x.1)), (0, vx (.int .i64 i0))], [], 0, 31⟩)
    (fun x => x.1.natAbs) (fun x => (-9223372036854775808 <= x.1 /\ x.1 < 9223372036854775808) /\ dgs x.1.natAbs ++ x.2 = dgs i0.natAbs) [] []
    (fun x _ _ => (x.1.tdiv 10, UInt8.ofNat (48 + x.1.natAbs % 10) :: x.2)) [] [] 0 0 (i0, []) ?_ ?_ ?_
   . exact ⟨hp0, List.append_nil _⟩
   . repeat' (first | exact trivial | exact rfl | (intro _ _; exact rfl) | refine ⟨?_, ?_⟩ | fail)
   . rintro ⟨m, L⟩ ⟨hm, hd⟩
     dsimp only at hm hd
     have hr : m.natAbs % 10 < 10 := Nat.mod_lt _ (by decide)
     have hL : L.length <= 21 := by have := congrArg List.length hd; rw [List.length_append] at this; omega
     have hsz : (mkB L).size <= 21 := by rw [mkB_sz]; exact hL
     have htd : (m.tdiv 10).natAbs = m.natAbs / 10 := by rw [Int.natAbs_tdiv]; rfl
     have hd2 : m ≠ 0 -> dgs (m.tdiv 10).natAbs ++ (UInt8.ofNat (48 + m.natAbs % 10) :: L) = dgs i0.natAbs := fun hm0 => by rw [<- hd, dgs_step (u := m.natAbs) (by omega), htd, List.append_assoc]; rfl
     repeat' (first | exact trivial | refine ⟨?_, ?_⟩ | intro _)
     all_goals first | (with_reducible first | apply qa | apply qb | apply qc | apply qd) | (conv => whnf)
     all_goals (try dsimp only at *)
     all_goals first | omega | (exact absurd ‹(10 : Int) = 0› (by decide)) | (exact one_row ‹_›) | (rw [i64max, one_sz]; omega) | (rw [i64max]; show ((1 + (mkB L).size : Nat) : Int) <= _; omega) | (exact hd2 (by simpa using ‹(m != 0) = true›)) | (refine congrArg Value.string ?_; first | (exact dstep hr (dig_pos (by simpa using ‹decide (m.tmod 10 < 0) = false›))) | (exact dstep hr (dig_neg (of_decide_eq_true ‹decide (m.tmod 10 < 0) = true›)))) | (exact congrArg (Value.int .i64) (wI_id _ (by omega) (by omega))) | skip
     all_goals first | rfl | (have h0 : m ≠ 0 := (by simpa using ‹(m != 0) = true›); omega) | skip
     all_goals (have h0 : m = 0 := by simpa using ‹(m != 0) = false›)
     all_goals subst h0
     all_goals first | (exact congrArg Value.string (num_neg (of_decide_eq_true ‹decide (i0 < 0) = true›) hd)) | (exact congrArg Value.string (num_pos (of_decide_eq_false ‹decide (i0 < 0) = false›) hz hd)) | skip
     all_goals trace_state
 . cases h
open Go.RowKit Go.Lib Go.Sort
def szL (l : List ByteArray) : Nat := (l.map (·.size)).sum
theorem szL_app (l m : List ByteArray) : szL (l ++ m) = szL l + szL m := by unfold szL; simp
theorem szL_cons (x : ByteArray) (m : List ByteArray) : szL (x :: m) = x.size + szL m := by unfold szL; simp
theorem szL_sub : ∀ {m l : List ByteArray}, m.Nodup -> (∀ x, x ∈ m -> x ∈ l) -> szL m <= szL l
 | [], _, _, _ => Nat.zero_le _
 | x :: m, l, hn, h => by
   obtain ⟨a, b, rfl⟩ := List.append_of_mem (h x List.mem_cons_self)
   rw [List.nodup_cons] at hn
   have := szL_sub (m := m) (l := a ++ b) hn.2 fun y hy => by
    have h1 := h y (List.mem_cons_of_mem _ hy)
    rw [List.mem_append, List.mem_cons] at h1
    rw [List.mem_append]
    rcases h1 with h1 | rfl | h1
    . exact .inl h1
    . exact absurd hy hn.1
    . exact .inr h1
   rw [szL_cons, szL_app, szL_cons]
   rw [szL_app] at this; omega
theorem srt_nodup {l : List ByteArray} (h : Srt l) : l.Nodup := List.Pairwise.imp (fun {a b} hab e => by subst e; exact absurd hab (List.lt_irrefl _)) h
theorem szL_of (l : List ByteArray) : szL (ofS l) <= szL l := by
 rw [ofS_eq]
 exact szL_sub (srt_nodup (cleanS_srt l)) fun x h => cleanS_mem.1 h
theorem at_szL {l : List ByteArray} {i : Nat} : (atS l i).size <= szL l := by
 unfold atS
 rw [List.getD_eq_getElem?_getD]
 rcases Nat.lt_or_ge i l.length with h | h
 . rw [List.getElem?_eq_getElem h]
   obtain ⟨a, b, e⟩ := List.append_of_mem (List.getElem_mem h)
   show (l[i]).size <= _
   generalize l[i] = x at e
   rw [e, szL_app, szL_cons]; omega
 . rw [List.getElem?_eq_none h]; exact Nat.zero_le _
def amp (x : ByteArray) : ByteArray := ⟨#[38]⟩ ++ x
def headV (w : Vl) : List ByteArray := (if w.i.s.some = true then (itoaS w.i.s.lo ++ ⟨#[46, 46]⟩ ++ itoaS w.i.s.hi) :: (if w.i.c.m = 1 then [] else [⟨#[98, 121]⟩, itoaS w.i.c.m, ⟨#[97, 116]⟩, itoaS w.i.c.r]) else []) ++ if w.t.null = true then [⟨#[110, 117, 108, 108]⟩] else []
def partsV (w : Vl) : List ByteArray := headV w ++ w.t.names.map amp
def textV (w : Vl) : ByteArray := if partsV w = [] then nilS else joinS (partsV w) blS
theorem fin_text {τ : Tys} {K : Rt -> List (Option (Nat -> List DV)) -> Prop} {st : St} {t : Nat} {s : ByteArray} (h : lookT st.tmps t = vx (.string s)) (hK : K (.va (.c (.d (.v (.string s))))) []) : fin τ false [] [.tmp t] K st := by
 unfold fin resVars resVar
 dsimp only
 rw [h]
 exact hK
def sndC : Code -> Code
 | .seq _ y => y
 | c => c
theorem szL_amp : ∀ (L : List ByteArray), szL (L.map amp) = szL L + L.length
 | [] => rfl
 | x :: L => by
   rw [List.map_cons, szL_cons, szL_cons, szL_amp L, List.length_cons]
   unfold amp
   rw [ByteArray.size_append, show (⟨#[38]⟩ : ByteArray).size = 1 from rfl]; omega
theorem join_sz (L : List ByteArray) : (joinS L blS).size <= szL L + L.length := by
 show ((Lib.join (L.map (·.data.toList)) blS.data.toList).toArray).size <= _
 rw [List.size_toArray]
 induction L with
 | nil => exact Nat.zero_le _
 | cons x L ih =>
   rw [szL_cons, List.length_cons]
   have hx : x.data.toList.length = x.size := Array.length_toList
   cases L with
   | nil =>
     show (Lib.join [x.data.toList] _).length <= _
     rw [show Lib.join [x.data.toList] blS.data.toList = x.data.toList by simp [Lib.join]]
     omega
   | cons y L =>
     have e : Lib.join ((x :: y :: L).map (·.data.toList)) blS.data.toList = x.data.toList ++ blS.data.toList ++ Lib.join ((y :: L).map (·.data.toList)) blS.data.toList := by simp [Lib.join]
     rw [e, List.length_append, List.length_append, show blS.data.toList.length = 1 from rfl]
     omega
def idOf (ts : List (Nat × Tm)) (t : Nat) : Nat := match lookT ts t with
 | .va (.c (.osl k _ _ _)) => k
 | _ => 0
theorem le_row {c : Code} {ts : List (Nat × Tm)} {h : List (Nat × Blk)} {n m : Nat} {st' : St} {Q : Exit -> St -> Prop} (hl : leSt 0 [0, idOf ts 3] 0 ⟨ts, h, n, m⟩ st') (hk : ASat Tryz.prog 0 c st' Q) : ASat Tryz.prog 0 c ⟨ts, h, n, m⟩ Q := ASat.le _ _ hl hk
noncomputable def hdS (w : Vl) (H : List ByteArray) : St := ⟨[(1, .va (.c (.own 0 0))), (3, .va (.c (.osl 1 1 0 H.length)))], [(0, .cells [.d (bo w.i.s.some), .d (it w.i.s.lo), .d (it w.i.s.hi), .d (bo w.i.c.some), .d (it w.i.c.m), .d (it w.i.c.r), .d (bo w.t.null), .d (lst w.t.names)]), (1, .row 1 H.length fun i => [st (atS H i)])], 2, Tryz.f9.ntmps⟩
def pM (w : Vl) (H : List ByteArray) (i : Nat) : List ByteArray := H ++ (w.t.names.take i).map amp
theorem pM_0 {w : Vl} {H : List ByteArray} : pM w H 0 = H := by unfold pM; simp
theorem pM_len {w : Vl} {H : List ByteArray} {i : Nat} (h : i <= w.t.names.length) : (pM w H i).length = H.length + i := by unfold pM; simp; omega
theorem pM_s {w : Vl} {H : List ByteArray} {i : Nat} (h : i < w.t.names.length) : pM w H (i + 1) = pM w H i ++ [amp (atS w.t.names i)] := by
 unfold pM
 rw [List.take_add_one, List.map_append, List.append_assoc]
 unfold atS
 simp [List.getD_eq_getElem?_getD, h]
theorem pM_all {w : Vl} {H : List ByteArray} : pM w H w.t.names.length = H ++ w.t.names.map amp := by unfold pM; simp
abbrev sl4R : List (Nat × Sm) := [(23, ⟨[], FVCleanV⟩), (24, ⟨[], FItoa⟩), (25, ⟨[], FJoin⟩)]
theorem sp4R : sumsOk Tryz.prog sl4R := ⟨fcVCleanV, fcItoa, fcJoin, trivial⟩
theorem tail_walk {w : Vl} {H : List ByteArray} (hH : H.length <= 6) (hHs : szL H <= 1000) (hn : w.t.names.length <= 1048576) (hs : szL w.t.names <= 1048576) {T : ByteArray} (hT : T = if H ++ w.t.names.map amp = [] then nilS else joinS (H ++ w.t.names.map amp) blS) {Q : Exit -> St -> Prop} (hQ : ∀ st, lookT st.tmps 2 = vx (.string T) -> Q .ret st) :
 ASat Tryz.prog 0 (sndC (sndC (sndC (sndC (sndC (Option.get Tryz.f9.body rfl)))))) (hdS w H) Q := by
 unfold hdS
 refine ASat.seqA tys_ok (l := sl4R) sp4R (by kernel_rfl) ?_
 repeat' (first | exact trivial | (with_reducible first | exact (fun (h : true = false) => absurd h (by decide)) | exact (fun (h : false = true) => absurd h (by decide))) | refine ⟨?_, ?_⟩ | intro _)
 all_goals first | (with_reducible first | apply qa | apply qb | apply qc | apply qd) | (conv => whnf)
 refine ASat.le [0, 1] 0 ?_ (ASat.loop (X := Nat) (fun i => ⟨[(49, vx (.int .i64 i)), (48, vx (.int .i64 w.t.names.length)), (47, .va (.c (.d (lst w.t.names)))), (1, .va (.c (.own 0 0))), (3, .va (.c (.osl 1 1 0 (pM w H i).length)))], [(0, .cells [.d (bo w.i.s.some), .d (it w.i.s.lo), .d (it w.i.s.hi), .d (bo w.i.c.some), .d (it w.i.c.m), .d (it w.i.c.r), .d (bo w.t.null), .d (lst w.t.names)]), (1, .row 1 (pM w H i).length fun j => [st (atS (pM w H i) j)])], 2, Tryz.f9.ntmps⟩) (fun i => w.t.names.length - i) (fun i => i <= w.t.names.length) (fun i hx => ?_) 0 (Nat.zero_le _))
 . refine ⟨rfl, rfl, rfl, ⟨rfl, rfl, ⟨rfl, rfl, fun _ _ => rfl⟩, ⟨rfl, rfl⟩, ⟨rfl, rfl, rfl, ?_⟩, trivial⟩, ⟨⟨rfl, rfl, rfl, rfl, rfl, rfl, rfl, ⟨rfl, rfl, fun _ _ => rfl⟩, trivial⟩, ⟨rfl, ?_, ?_⟩, trivial⟩⟩
   all_goals (first | (show H.length = (pM w H 0).length; rw [pM_0]) | (intro i hi; show [st (atS H i)] = [st (atS (pM w H 0) i)]; rw [pM_0]))
 . rcases Nat.lt_or_ge i w.t.names.length with hi | hi
   . have hib : (0 : Int) <= (i : Int) /\ (i : Int) < (w.t.names.length : Int) := by omega
     have hne : decide ((i : Int) < (w.t.names.length : Int)) = true := decide_eq_true (by omega)
     have hw : IntKind.wrap .i64 ((i : Int) + 1) = ((i + 1 : Nat) : Int) := by rw [wI_id _ (by omega) (by omega)]; omega
     have hml : (pM w H i).length <= 1048582 := by rw [pM_len hx]; omega
     have has : (atS w.t.names (Int.toNat (i : Int))).size <= 1048576 := Nat.le_trans at_szL hs
     have ha1 : (((⟨#[38]⟩ : ByteArray).size + (atS w.t.names (Int.toNat (i : Int))).size : Nat) : Int) <= IntKind.i64.max := by rw [i64max, show (⟨#[38]⟩ : ByteArray).size = 1 from rfl]; omega
     refine ASat.seqA tys_ok (l := sl4R) sp4R (by kernel_rfl) ?_
     repeat' (first | exact trivial | (with_reducible first | exact (fun (h : true = false) => absurd h (by decide)) | exact (fun (h : false = true) => absurd h (by decide)) | exact hib.1 | exact hib.2 | exact hib | exact ha1 | exact (fun h => absurd (hne.symm.trans h) (by decide))) | refine ⟨?_, ?_⟩ | intro _)
     all_goals first | (with_reducible first | apply qa | apply qb | apply qc | apply qd) | (conv => whnf)
     all_goals first | omega | exact ha1 | skip
     refine ASat.seqA tys_ok (l := sl4R) sp4R (by kernel_rfl) ?_
     repeat' (first | exact trivial | (with_reducible first | exact (fun (h : true = false) => absurd h (by decide)) | exact (fun (h : false = true) => absurd h (by decide)) | exact hib.1 | exact hib.2 | exact hib | exact ha1 | exact (fun h => absurd (hne.symm.trans h) (by decide))) | refine ⟨?_, ?_⟩ | intro _)
     all_goals first | (with_reducible first | apply qa | apply qb | apply qc | apply qd) | (conv => whnf)
     all_goals first | omega | exact ha1 | skip
     refine ASat.seqA tys_ok (l := sl4R) sp4R (by kernel_rfl) ?_
     repeat' (first | exact trivial | (with_reducible first | exact (fun (h : true = false) => absurd h (by decide)) | exact (fun (h : false = true) => absurd h (by decide)) | exact hib.1 | exact hib.2 | exact hib | exact ha1 | exact (fun h => absurd (hne.symm.trans h) (by decide))) | refine ⟨?_, ?_⟩ | intro _)
     all_goals first | (with_reducible first | apply qa | apply qb | apply qc | apply qd) | (conv => whnf)
     all_goals first | omega | exact ha1 | skip
     refine ASat.vc tys_ok (l := sl4R) sp4R (by kernel_rfl) ?_
     conv => whnf
     rw [hw]
     have hpl : (pM w H i).length + 1 = (pM w H (i + 1)).length := by rw [pM_s hi]; simp
     refine ⟨i + 1, hi, by dsimp only; omega, [0, 3], 0, ?_⟩
     refine ⟨rfl, rfl, rfl, ⟨rfl, rfl, ⟨rfl, rfl, fun _ _ => rfl⟩, ⟨rfl, rfl⟩, ⟨rfl, rfl, rfl, hpl⟩, trivial⟩, ⟨⟨rfl, rfl, rfl, rfl, rfl, rfl, rfl, ⟨rfl, rfl, fun _ _ => rfl⟩, trivial⟩, ⟨rfl, hpl, ?_⟩, trivial⟩⟩
     rw [pM_s hi]
     exact row_snoc rfl
   . have hne : decide ((i : Int) < (w.t.names.length : Int)) = false := decide_eq_false (by omega)
     obtain rfl : i = w.t.names.length := by omega
     refine ASat.vc tys_ok (l := sl4R) sp4R (by kernel_rfl) ?_
     repeat' (first | exact trivial | (with_reducible first | exact (fun (h : true = false) => absurd h (by decide)) | exact (fun (h : false = true) => absurd h (by decide)) | exact (fun h => absurd (hne.symm.trans h) (by decide))) | refine ⟨?_, ?_⟩ | intro _)
     all_goals first | (with_reducible first | apply qa | apply qb | apply qc | apply qd) | (conv => whnf)
     have hsz : (joinS (pM w H w.t.names.length) blS).size <= 140737488355328 := by
      have h1 := join_sz (pM w H w.t.names.length)
      have h2 := pM_len (w := w) (H := H) (Nat.le_refl _)
      have h3 : szL (pM w H w.t.names.length) = szL H + (szL w.t.names + w.t.names.length) := by rw [pM_all, szL_app, szL_amp]
      omega
     have hpl : (pM w H w.t.names.length).length <= 140737488355328 := by have h2 := pM_len (w := w) (H := H) (Nat.le_refl _); omega
     cases hE : (((pM w H w.t.names.length).length : Int) == 0) with
     | true =>
       refine ASat.seqA tys_ok (l := sl4R) sp4R (by kernel_rfl) ?_
       repeat' (first | exact trivial | (with_reducible first | exact (fun (h : true = false) => absurd h (by decide)) | exact (fun (h : false = true) => absurd h (by decide)) | exact hsz | exact (fun h => absurd (hE.symm.trans h) (by decide))) | refine ⟨?_, ?_⟩ | intro _)
       all_goals first | (with_reducible first | apply qa | apply qb | apply qc | apply qd) | (conv => whnf)
       refine hQ _ ?_
       show vx (.string nilS) = _
       rw [hT, if_pos (by rw [<- pM_all]; exact List.eq_nil_of_length_eq_zero (by have := eq_of_beq hE; omega))]
     | false =>
       refine ASat.seqA tys_ok (l := sl4R) sp4R (by kernel_rfl) ?_
       repeat' (first | exact trivial | (with_reducible first | exact (fun (h : true = false) => absurd h (by decide)) | exact (fun (h : false = true) => absurd h (by decide)) | exact hsz | exact (fun h => absurd (hE.symm.trans h) (by decide))) | refine ⟨?_, ?_⟩ | intro _)
       all_goals first | (with_reducible first | apply qa | apply qb | apply qc | apply qd) | (conv => whnf)
       refine ASat.seqA tys_ok (l := sl4R) sp4R (by kernel_rfl) ?_
       repeat' (first | exact trivial | (with_reducible first | exact (fun (h : true = false) => absurd h (by decide)) | exact (fun (h : false = true) => absurd h (by decide)) | exact hsz | exact (fun h => absurd (hE.symm.trans h) (by decide))) | refine ⟨?_, ?_⟩ | intro _)
       all_goals first | (with_reducible first | apply qa | apply qb | apply qc | apply qd) | (conv => whnf)
       all_goals (try simp only [Nat.zero_add, gN_lst])
       all_goals first | omega | exact hpl | exact hsz | rfl | (intro _ _; rfl) | (rename_i q _; exact absurd (q.symm.trans hE) (by decide)) | skip
       refine ASat.vc tys_ok (l := sl4R) sp4R (by kernel_rfl) ?_
       repeat' (first | exact trivial | (with_reducible first | exact (fun (h : true = false) => absurd h (by decide)) | exact (fun (h : false = true) => absurd h (by decide)) | exact hsz | exact (fun h => absurd (hE.symm.trans h) (by decide))) | refine ⟨?_, ?_⟩ | intro _)
       all_goals first | (with_reducible first | apply qa | apply qb | apply qc | apply qd) | (conv => whnf)
       refine hQ _ ?_
       first | (show vx (.string (joinS (pM w H w.t.names.length) blS)) = _; rw [hT, if_neg (fun e => by rw [<- pM_all] at e; rw [e] at hE; exact absurd hE (by decide)), pM_all])
abbrev sl5R : List (Nat × Sm) := [(23, ⟨[], FVCleanV⟩), (24, ⟨[], FItoa⟩), (25, ⟨[], FJoin⟩)]
theorem sp5R : sumsOk Tryz.prog sl5R := ⟨fcVCleanV, fcItoa, fcJoin, trivial⟩
theorem val_walk {w : Vl} (hr1 : w.i.s.inR) (hr2 : w.i.c.inR) (hn : w.t.names.length <= 1048576) (hs : szL w.t.names <= 1048576) {Q : Exit -> St -> Prop} (hQ : ∀ st, lookT st.tmps 2 = vx (.string (textV w)) -> Q .ret st) :
 ASat Tryz.prog 0 (sndC (sndC (Option.get Tryz.f9.body rfl))) ⟨[(1, .va (.c (.own 0 0)))], [(0, .cells [.d (bo w.i.s.some), .d (it w.i.s.lo), .d (it w.i.s.hi), .d (bo w.i.c.some), .d (it w.i.c.m), .d (it w.i.c.r), .d (bo w.t.null), .d (lst w.t.names)])], 1, Tryz.f9.ntmps⟩ Q := by
 unfold Sp.inR at hr1
 unfold Cg.inR at hr2
 have hlo : rI w.i.s.lo := hr1.1
 have hhi : rI w.i.s.hi := hr1.2
 have hm : rI w.i.c.m := hr2.1
 have hr : rI w.i.c.r := hr2.2
 have z1 := itoa_sz hlo
 have z2 := itoa_sz hhi
 have z3 := itoa_sz hm
 have z4 := itoa_sz hr
 have e1 : (((itoaS w.i.s.lo).size + (⟨#[46, 46]⟩ : ByteArray).size : Nat) : Int) <= IntKind.i64.max := by rw [i64max, show (⟨#[46, 46]⟩ : ByteArray).size = 2 from rfl]; omega
 have e2 : (((itoaS w.i.s.lo ++ ⟨#[46, 46]⟩).size + (itoaS w.i.s.hi).size : Nat) : Int) <= IntKind.i64.max := by rw [i64max, ByteArray.size_append, show (⟨#[46, 46]⟩ : ByteArray).size = 2 from rfl]; omega
 have q2 : (⟨#[46, 46]⟩ : ByteArray).size = 2 := rfl
 have q3 : (⟨#[98, 121]⟩ : ByteArray).size = 2 := rfl
 have q4 : (⟨#[97, 116]⟩ : ByteArray).size = 2 := rfl
 have q5 : (⟨#[110, 117, 108, 108]⟩ : ByteArray).size = 4 := rfl
 have zz : (itoaS w.i.s.lo ++ ⟨#[46, 46]⟩ ++ itoaS w.i.s.hi).size <= 44 := by rw [ByteArray.size_append, ByteArray.size_append, show (⟨#[46, 46]⟩ : ByteArray).size = 2 from rfl]; omega
 rcases Bool.eq_false_or_eq_true w.i.s.some with h1 | h1
 . rcases Bool.eq_false_or_eq_true (w.i.c.m != 1) with h2 | h2
   . rcases Bool.eq_false_or_eq_true w.t.null with h3 | h3
     . refine ASat.seqA tys_ok (l := sl5R) sp5R (by kernel_rfl) ?_
       repeat' (first | exact trivial | (with_reducible first | exact (fun (h : true = false) => absurd h (by decide)) | exact (fun (h : false = true) => absurd h (by decide)) | exact hlo | exact hhi | exact hm | exact hr | exact e1 | exact e2 | exact (fun h => absurd (h1.symm.trans h) (by decide)) | exact (fun h => absurd (h2.symm.trans h) (by decide)) | exact (fun h => absurd (h3.symm.trans h) (by decide))) | refine ⟨?_, ?_⟩ | intro _)
       all_goals first | (with_reducible first | apply qa | apply qb | apply qc | apply qd) | (conv => whnf)
       all_goals first | omega | exact hlo | exact hhi | exact hm | exact hr | exact e1 | exact e2 | decide | skip
       refine ASat.seqA tys_ok (l := sl5R) sp5R (by kernel_rfl) ?_
       repeat' (first | exact trivial | (with_reducible first | exact (fun (h : true = false) => absurd h (by decide)) | exact (fun (h : false = true) => absurd h (by decide)) | exact hlo | exact hhi | exact hm | exact hr | exact e1 | exact e2 | exact (fun h => absurd (h1.symm.trans h) (by decide)) | exact (fun h => absurd (h2.symm.trans h) (by decide)) | exact (fun h => absurd (h3.symm.trans h) (by decide))) | refine ⟨?_, ?_⟩ | intro _)
       all_goals first | (with_reducible first | apply qa | apply qb | apply qc | apply qd) | (conv => whnf)
       all_goals first | omega | exact hlo | exact hhi | exact hm | exact hr | exact e1 | exact e2 | decide | skip
       refine ASat.seqA tys_ok (l := sl5R) sp5R (by kernel_rfl) ?_
       repeat' (first | exact trivial | (with_reducible first | exact (fun (h : true = false) => absurd h (by decide)) | exact (fun (h : false = true) => absurd h (by decide)) | exact hlo | exact hhi | exact hm | exact hr | exact e1 | exact e2 | exact (fun h => absurd (h1.symm.trans h) (by decide)) | exact (fun h => absurd (h2.symm.trans h) (by decide)) | exact (fun h => absurd (h3.symm.trans h) (by decide))) | refine ⟨?_, ?_⟩ | intro _)
       all_goals first | (with_reducible first | apply qa | apply qb | apply qc | apply qd) | (conv => whnf)
       all_goals first | omega | exact hlo | exact hhi | exact hm | exact hr | exact e1 | exact e2 | decide | skip
       have hH : headV w = [itoaS w.i.s.lo ++ (⟨#[46, 46]⟩ : ByteArray) ++ itoaS w.i.s.hi, ⟨#[98, 121]⟩, itoaS w.i.c.m, ⟨#[97, 116]⟩, itoaS w.i.c.r, ⟨#[110, 117, 108, 108]⟩] := by unfold headV; rw [if_pos h1, if_neg (by simpa using h2), if_pos h3]; first | rfl | (simp; done)
       refine le_row (st' := hdS w [itoaS w.i.s.lo ++ (⟨#[46, 46]⟩ : ByteArray) ++ itoaS w.i.s.hi, ⟨#[98, 121]⟩, itoaS w.i.c.m, ⟨#[97, 116]⟩, itoaS w.i.c.r, ⟨#[110, 117, 108, 108]⟩]) ?_ (tail_walk (H := [itoaS w.i.s.lo ++ (⟨#[46, 46]⟩ : ByteArray) ++ itoaS w.i.s.hi, ⟨#[98, 121]⟩, itoaS w.i.c.m, ⟨#[97, 116]⟩, itoaS w.i.c.r, ⟨#[110, 117, 108, 108]⟩]) (by simp) ?_ hn hs (T := textV w) (by unfold textV partsV; rw [hH]) hQ)
       . exact ⟨rfl, rfl, rfl, ⟨⟨rfl, rfl⟩, ⟨rfl, rfl, rfl, rfl⟩, trivial⟩, ⟨⟨rfl, rfl, rfl, rfl, rfl, rfl, rfl, ⟨rfl, rfl, fun _ _ => rfl⟩, trivial⟩, ⟨rfl, rfl, fun i hi => by have hi : i < 6 := hi; have : i = 0 \/ i = 1 \/ i = 2 \/ i = 3 \/ i = 4 \/ i = 5 := (by omega); rcases this with rfl | rfl | rfl | rfl | rfl | rfl <;> rfl⟩, trivial⟩⟩
       . unfold szL; simp <;> first | omega | (simp only [ByteArray.size_append] at *; omega)
     . refine ASat.seqA tys_ok (l := sl5R) sp5R (by kernel_rfl) ?_
       repeat' (first | exact trivial | (with_reducible first | exact (fun (h : true = false) => absurd h (by decide)) | exact (fun (h : false = true) => absurd h (by decide)) | exact hlo | exact hhi | exact hm | exact hr | exact e1 | exact e2 | exact (fun h => absurd (h1.symm.trans h) (by decide)) | exact (fun h => absurd (h2.symm.trans h) (by decide)) | exact (fun h => absurd (h3.symm.trans h) (by decide))) | refine ⟨?_, ?_⟩ | intro _)
       all_goals first | (with_reducible first | apply qa | apply qb | apply qc | apply qd) | (conv => whnf)
       all_goals first | omega | exact hlo | exact hhi | exact hm | exact hr | exact e1 | exact e2 | decide | skip
       refine ASat.seqA tys_ok (l := sl5R) sp5R (by kernel_rfl) ?_
       repeat' (first | exact trivial | (with_reducible first | exact (fun (h : true = false) => absurd h (by decide)) | exact (fun (h : false = true) => absurd h (by decide)) | exact hlo | exact hhi | exact hm | exact hr | exact e1 | exact e2 | exact (fun h => absurd (h1.symm.trans h) (by decide)) | exact (fun h => absurd (h2.symm.trans h) (by decide)) | exact (fun h => absurd (h3.symm.trans h) (by decide))) | refine ⟨?_, ?_⟩ | intro _)
       all_goals first | (with_reducible first | apply qa | apply qb | apply qc | apply qd) | (conv => whnf)
       all_goals first | omega | exact hlo | exact hhi | exact hm | exact hr | exact e1 | exact e2 | decide | skip
       refine ASat.seqA tys_ok (l := sl5R) sp5R (by kernel_rfl) ?_
       repeat' (first | exact trivial | (with_reducible first | exact (fun (h : true = false) => absurd h (by decide)) | exact (fun (h : false = true) => absurd h (by decide)) | exact hlo | exact hhi | exact hm | exact hr | exact e1 | exact e2 | exact (fun h => absurd (h1.symm.trans h) (by decide)) | exact (fun h => absurd (h2.symm.trans h) (by decide)) | exact (fun h => absurd (h3.symm.trans h) (by decide))) | refine ⟨?_, ?_⟩ | intro _)
       all_goals first | (with_reducible first | apply qa | apply qb | apply qc | apply qd) | (conv => whnf)
       all_goals first | omega | exact hlo | exact hhi | exact hm | exact hr | exact e1 | exact e2 | decide | skip
       have hH : headV w = [itoaS w.i.s.lo ++ (⟨#[46, 46]⟩ : ByteArray) ++ itoaS w.i.s.hi, ⟨#[98, 121]⟩, itoaS w.i.c.m, ⟨#[97, 116]⟩, itoaS w.i.c.r] := by unfold headV; rw [if_pos h1, if_neg (by simpa using h2), if_neg (by rw [h3]; decide)]; first | rfl | (simp; done)
       refine le_row (st' := hdS w [itoaS w.i.s.lo ++ (⟨#[46, 46]⟩ : ByteArray) ++ itoaS w.i.s.hi, ⟨#[98, 121]⟩, itoaS w.i.c.m, ⟨#[97, 116]⟩, itoaS w.i.c.r]) ?_ (tail_walk (H := [itoaS w.i.s.lo ++ (⟨#[46, 46]⟩ : ByteArray) ++ itoaS w.i.s.hi, ⟨#[98, 121]⟩, itoaS w.i.c.m, ⟨#[97, 116]⟩, itoaS w.i.c.r]) (by simp) ?_ hn hs (T := textV w) (by unfold textV partsV; rw [hH]) hQ)
       . exact ⟨rfl, rfl, rfl, ⟨⟨rfl, rfl⟩, ⟨rfl, rfl, rfl, rfl⟩, trivial⟩, ⟨⟨rfl, rfl, rfl, rfl, rfl, rfl, rfl, ⟨rfl, rfl, fun _ _ => rfl⟩, trivial⟩, ⟨rfl, rfl, fun i hi => by have hi : i < 5 := hi; have : i = 0 \/ i = 1 \/ i = 2 \/ i = 3 \/ i = 4 := (by omega); rcases this with rfl | rfl | rfl | rfl | rfl <;> rfl⟩, trivial⟩⟩
       . unfold szL; simp <;> first | omega | (simp only [ByteArray.size_append] at *; omega)
   . rcases Bool.eq_false_or_eq_true w.t.null with h3 | h3
     . refine ASat.seqA tys_ok (l := sl5R) sp5R (by kernel_rfl) ?_
       repeat' (first | exact trivial | (with_reducible first | exact (fun (h : true = false) => absurd h (by decide)) | exact (fun (h : false = true) => absurd h (by decide)) | exact hlo | exact hhi | exact hm | exact hr | exact e1 | exact e2 | exact (fun h => absurd (h1.symm.trans h) (by decide)) | exact (fun h => absurd (h2.symm.trans h) (by decide)) | exact (fun h => absurd (h3.symm.trans h) (by decide))) | refine ⟨?_, ?_⟩ | intro _)
       all_goals first | (with_reducible first | apply qa | apply qb | apply qc | apply qd) | (conv => whnf)
       all_goals first | omega | exact hlo | exact hhi | exact hm | exact hr | exact e1 | exact e2 | decide | skip
       refine ASat.seqA tys_ok (l := sl5R) sp5R (by kernel_rfl) ?_
       repeat' (first | exact trivial | (with_reducible first | exact (fun (h : true = false) => absurd h (by decide)) | exact (fun (h : false = true) => absurd h (by decide)) | exact hlo | exact hhi | exact hm | exact hr | exact e1 | exact e2 | exact (fun h => absurd (h1.symm.trans h) (by decide)) | exact (fun h => absurd (h2.symm.trans h) (by decide)) | exact (fun h => absurd (h3.symm.trans h) (by decide))) | refine ⟨?_, ?_⟩ | intro _)
       all_goals first | (with_reducible first | apply qa | apply qb | apply qc | apply qd) | (conv => whnf)
       all_goals first | omega | exact hlo | exact hhi | exact hm | exact hr | exact e1 | exact e2 | decide | skip
       refine ASat.seqA tys_ok (l := sl5R) sp5R (by kernel_rfl) ?_
       repeat' (first | exact trivial | (with_reducible first | exact (fun (h : true = false) => absurd h (by decide)) | exact (fun (h : false = true) => absurd h (by decide)) | exact hlo | exact hhi | exact hm | exact hr | exact e1 | exact e2 | exact (fun h => absurd (h1.symm.trans h) (by decide)) | exact (fun h => absurd (h2.symm.trans h) (by decide)) | exact (fun h => absurd (h3.symm.trans h) (by decide))) | refine ⟨?_, ?_⟩ | intro _)
       all_goals first | (with_reducible first | apply qa | apply qb | apply qc | apply qd) | (conv => whnf)
       all_goals first | omega | exact hlo | exact hhi | exact hm | exact hr | exact e1 | exact e2 | decide | skip
       have hH : headV w = [itoaS w.i.s.lo ++ (⟨#[46, 46]⟩ : ByteArray) ++ itoaS w.i.s.hi, ⟨#[110, 117, 108, 108]⟩] := by unfold headV; rw [if_pos h1, if_pos (by simpa using h2), if_pos h3]; first | rfl | (simp; done)
       refine le_row (st' := hdS w [itoaS w.i.s.lo ++ (⟨#[46, 46]⟩ : ByteArray) ++ itoaS w.i.s.hi, ⟨#[110, 117, 108, 108]⟩]) ?_ (tail_walk (H := [itoaS w.i.s.lo ++ (⟨#[46, 46]⟩ : ByteArray) ++ itoaS w.i.s.hi, ⟨#[110, 117, 108, 108]⟩]) (by simp) ?_ hn hs (T := textV w) (by unfold textV partsV; rw [hH]) hQ)
       . exact ⟨rfl, rfl, rfl, ⟨⟨rfl, rfl⟩, ⟨rfl, rfl, rfl, rfl⟩, trivial⟩, ⟨⟨rfl, rfl, rfl, rfl, rfl, rfl, rfl, ⟨rfl, rfl, fun _ _ => rfl⟩, trivial⟩, ⟨rfl, rfl, fun i hi => by have hi : i < 2 := hi; have : i = 0 \/ i = 1 := (by omega); rcases this with rfl | rfl <;> rfl⟩, trivial⟩⟩
       . unfold szL; simp <;> first | omega | (simp only [ByteArray.size_append] at *; omega)
     . refine ASat.seqA tys_ok (l := sl5R) sp5R (by kernel_rfl) ?_
       repeat' (first | exact trivial | (with_reducible first | exact (fun (h : true = false) => absurd h (by decide)) | exact (fun (h : false = true) => absurd h (by decide)) | exact hlo | exact hhi | exact hm | exact hr | exact e1 | exact e2 | exact (fun h => absurd (h1.symm.trans h) (by decide)) | exact (fun h => absurd (h2.symm.trans h) (by decide)) | exact (fun h => absurd (h3.symm.trans h) (by decide))) | refine ⟨?_, ?_⟩ | intro _)
       all_goals first | (with_reducible first | apply qa | apply qb | apply qc | apply qd) | (conv => whnf)
       all_goals first | omega | exact hlo | exact hhi | exact hm | exact hr | exact e1 | exact e2 | decide | skip
       refine ASat.seqA tys_ok (l := sl5R) sp5R (by kernel_rfl) ?_
       repeat' (first | exact trivial | (with_reducible first | exact (fun (h : true = false) => absurd h (by decide)) | exact (fun (h : false = true) => absurd h (by decide)) | exact hlo | exact hhi | exact hm | exact hr | exact e1 | exact e2 | exact (fun h => absurd (h1.symm.trans h) (by decide)) | exact (fun h => absurd (h2.symm.trans h) (by decide)) | exact (fun h => absurd (h3.symm.trans h) (by decide))) | refine ⟨?_, ?_⟩ | intro _)
       all_goals first | (with_reducible first | apply qa | apply qb | apply qc | apply qd) | (conv => whnf)
       all_goals first | omega | exact hlo | exact hhi | exact hm | exact hr | exact e1 | exact e2 | decide | skip
       refine ASat.seqA tys_ok (l := sl5R) sp5R (by kernel_rfl) ?_
       repeat' (first | exact trivial | (with_reducible first | exact (fun (h : true = false) => absurd h (by decide)) | exact (fun (h : false = true) => absurd h (by decide)) | exact hlo | exact hhi | exact hm | exact hr | exact e1 | exact e2 | exact (fun h => absurd (h1.symm.trans h) (by decide)) | exact (fun h => absurd (h2.symm.trans h) (by decide)) | exact (fun h => absurd (h3.symm.trans h) (by decide))) | refine ⟨?_, ?_⟩ | intro _)
       all_goals first | (with_reducible first | apply qa | apply qb | apply qc | apply qd) | (conv => whnf)
       all_goals first | omega | exact hlo | exact hhi | exact hm | exact hr | exact e1 | exact e2 | decide | skip
       have hH : headV w = [itoaS w.i.s.lo ++ (⟨#[46, 46]⟩ : ByteArray) ++ itoaS w.i.s.hi] := by unfold headV; rw [if_pos h1, if_pos (by simpa using h2), if_neg (by rw [h3]; decide)]; first | rfl | (simp; done)
       refine le_row (st' := hdS w [itoaS w.i.s.lo ++ (⟨#[46, 46]⟩ : ByteArray) ++ itoaS w.i.s.hi]) ?_ (tail_walk (H := [itoaS w.i.s.lo ++ (⟨#[46, 46]⟩ : ByteArray) ++ itoaS w.i.s.hi]) (by simp) ?_ hn hs (T := textV w) (by unfold textV partsV; rw [hH]) hQ)
       . exact ⟨rfl, rfl, rfl, ⟨⟨rfl, rfl⟩, ⟨rfl, rfl, rfl, rfl⟩, trivial⟩, ⟨⟨rfl, rfl, rfl, rfl, rfl, rfl, rfl, ⟨rfl, rfl, fun _ _ => rfl⟩, trivial⟩, ⟨rfl, rfl, fun i hi => by have hi : i < 1 := hi; have : i = 0 := (by omega); rcases this with rfl <;> rfl⟩, trivial⟩⟩
       . unfold szL; simp <;> first | omega | (simp only [ByteArray.size_append] at *; omega)
 . rcases Bool.eq_false_or_eq_true w.t.null with h3 | h3
   . refine ASat.seqA tys_ok (l := sl5R) sp5R (by kernel_rfl) ?_
     repeat' (first | exact trivial | (with_reducible first | exact (fun (h : true = false) => absurd h (by decide)) | exact (fun (h : false = true) => absurd h (by decide)) | exact hlo | exact hhi | exact hm | exact hr | exact e1 | exact e2 | exact (fun h => absurd (h1.symm.trans h) (by decide)) | exact (fun h => absurd (h3.symm.trans h) (by decide))) | refine ⟨?_, ?_⟩ | intro _)
     all_goals first | (with_reducible first | apply qa | apply qb | apply qc | apply qd) | (conv => whnf)
     all_goals first | omega | exact hlo | exact hhi | exact hm | exact hr | exact e1 | exact e2 | decide | skip
     refine ASat.seqA tys_ok (l := sl5R) sp5R (by kernel_rfl) ?_
     repeat' (first | exact trivial | (with_reducible first | exact (fun (h : true = false) => absurd h (by decide)) | exact (fun (h : false = true) => absurd h (by decide)) | exact hlo | exact hhi | exact hm | exact hr | exact e1 | exact e2 | exact (fun h => absurd (h1.symm.trans h) (by decide)) | exact (fun h => absurd (h3.symm.trans h) (by decide))) | refine ⟨?_, ?_⟩ | intro _)
     all_goals first | (with_reducible first | apply qa | apply qb | apply qc | apply qd) | (conv => whnf)
     all_goals first | omega | exact hlo | exact hhi | exact hm | exact hr | exact e1 | exact e2 | decide | skip
     refine ASat.seqA tys_ok (l := sl5R) sp5R (by kernel_rfl) ?_
     repeat' (first | exact trivial | (with_reducible first | exact (fun (h : true = false) => absurd h (by decide)) | exact (fun (h : false = true) => absurd h (by decide)) | exact hlo | exact hhi | exact hm | exact hr | exact e1 | exact e2 | exact (fun h => absurd (h1.symm.trans h) (by decide)) | exact (fun h => absurd (h3.symm.trans h) (by decide))) | refine ⟨?_, ?_⟩ | intro _)
     all_goals first | (with_reducible first | apply qa | apply qb | apply qc | apply qd) | (conv => whnf)
     all_goals first | omega | exact hlo | exact hhi | exact hm | exact hr | exact e1 | exact e2 | decide | skip
     have hH : headV w = [⟨#[110, 117, 108, 108]⟩] := by unfold headV; rw [if_neg (by rw [h1]; decide), if_pos h3]; first | rfl | (simp; done)
     refine le_row (st' := hdS w [⟨#[110, 117, 108, 108]⟩]) ?_ (tail_walk (H := [⟨#[110, 117, 108, 108]⟩]) (by simp) ?_ hn hs (T := textV w) (by unfold textV partsV; rw [hH]) hQ)
     . exact ⟨rfl, rfl, rfl, ⟨⟨rfl, rfl⟩, ⟨rfl, rfl, rfl, rfl⟩, trivial⟩, ⟨⟨rfl, rfl, rfl, rfl, rfl, rfl, rfl, ⟨rfl, rfl, fun _ _ => rfl⟩, trivial⟩, ⟨rfl, rfl, fun i hi => by have hi : i < 1 := hi; have : i = 0 := (by omega); rcases this with rfl <;> rfl⟩, trivial⟩⟩
     . unfold szL; simp <;> first | omega | (simp only [ByteArray.size_append] at *; omega)
   . refine ASat.seqA tys_ok (l := sl5R) sp5R (by kernel_rfl) ?_
     repeat' (first | exact trivial | (with_reducible first | exact (fun (h : true = false) => absurd h (by decide)) | exact (fun (h : false = true) => absurd h (by decide)) | exact hlo | exact hhi | exact hm | exact hr | exact e1 | exact e2 | exact (fun h => absurd (h1.symm.trans h) (by decide)) | exact (fun h => absurd (h3.symm.trans h) (by decide))) | refine ⟨?_, ?_⟩ | intro _)
     all_goals first | (with_reducible first | apply qa | apply qb | apply qc | apply qd) | (conv => whnf)
     all_goals first | omega | exact hlo | exact hhi | exact hm | exact hr | exact e1 | exact e2 | decide | skip
     refine ASat.seqA tys_ok (l := sl5R) sp5R (by kernel_rfl) ?_
     repeat' (first | exact trivial | (with_reducible first | exact (fun (h : true = false) => absurd h (by decide)) | exact (fun (h : false = true) => absurd h (by decide)) | exact hlo | exact hhi | exact hm | exact hr | exact e1 | exact e2 | exact (fun h => absurd (h1.symm.trans h) (by decide)) | exact (fun h => absurd (h3.symm.trans h) (by decide))) | refine ⟨?_, ?_⟩ | intro _)
     all_goals first | (with_reducible first | apply qa | apply qb | apply qc | apply qd) | (conv => whnf)
     all_goals first | omega | exact hlo | exact hhi | exact hm | exact hr | exact e1 | exact e2 | decide | skip
     refine ASat.seqA tys_ok (l := sl5R) sp5R (by kernel_rfl) ?_
     repeat' (first | exact trivial | (with_reducible first | exact (fun (h : true = false) => absurd h (by decide)) | exact (fun (h : false = true) => absurd h (by decide)) | exact hlo | exact hhi | exact hm | exact hr | exact e1 | exact e2 | exact (fun h => absurd (h1.symm.trans h) (by decide)) | exact (fun h => absurd (h3.symm.trans h) (by decide))) | refine ⟨?_, ?_⟩ | intro _)
     all_goals first | (with_reducible first | apply qa | apply qb | apply qc | apply qd) | (conv => whnf)
     all_goals first | omega | exact hlo | exact hhi | exact hm | exact hr | exact e1 | exact e2 | decide | skip
     have hH : headV w = [] := by unfold headV; rw [if_neg (by rw [h1]; decide), if_neg (by rw [h3]; decide)]; first | rfl | (simp; done)
     refine ASat.le [0] 1 (st' := hdS w []) ?_ (tail_walk (H := []) (by simp) ?_ hn hs (T := textV w) (by unfold textV partsV; rw [hH]) hQ)
     . exact ⟨rfl, rfl, rfl, ⟨⟨rfl, rfl⟩, ⟨rfl, rfl, Nat.le_refl _, by decide⟩, trivial⟩, ⟨⟨rfl, rfl, rfl, rfl, rfl, rfl, rfl, ⟨rfl, rfl, fun _ _ => rfl⟩, trivial⟩, rfl, trivial⟩⟩
     . unfold szL; simp <;> first | omega | (simp only [ByteArray.size_append] at *; omega)
def FRpValue : List Ar -> Option Rs
 | [.agg [.d (.v (.bool s0)), .d (.v (.int .i64 l0)), .d (.v (.int .i64 h0)), .d (.v (.bool b0)), .d (.v (.int .i64 m0)), .d (.v (.int .i64 r0)), .d (.v (.bool z0)), .d (.lst 1 n0 f0)]] => some ⟨((n0 * 16 <= 140737488351232 /\ ∀ i, i < n0 -> f0 i = [st (gT (f0 i))]) /\ Sp.inR ⟨s0, l0, h0⟩ /\ Cg.inR ⟨b0, m0, r0⟩) /\ (n0 <= 1048576 /\ szL (gN n0 f0) <= 1048576), .va (.c (.d (st (textV (Vl.of (⟨⟨⟨s0, l0, h0⟩, ⟨b0, m0, r0⟩⟩, ⟨z0, gN n0 f0⟩⟩ : Vl)))))), []⟩
 | _ => none
theorem fcRpValue : FC Tryz.prog 9 FRpValue := by
 intro xs pre r us h hp
 unfold FRpValue at h
 split at h
 . rename_i s0 l0 h0 b0 m0 r0 z0 n0 f0
   cases h
   obtain ⟨hp0, hp1⟩ := hp
   refine FCat.of_eq (as' := [.agg [.d (.v (.bool s0)), .d (.v (.int .i64 l0)), .d (.v (.int .i64 h0)), .d (.v (.bool b0)), .d (.v (.int .i64 m0)), .d (.v (.int .i64 r0)), .d (.v (.bool z0)), .d (.lst 1 n0 fun i => [st (gT (f0 i))])]]) ?_ rfl rfl ?_
   . repeat' (first | exact trivial | exact rfl | refine ⟨?_, ?_⟩ | fail)
     all_goals first | exact hp0.2 | exact hp1.2 | exact hp2.2 | (intro i hi; exact (hp0.2 i hi).1) | (intro i hi; exact (hp1.2 i hi).1) | (intro i hi; exact (hp2.2 i hi).1) | grind
   refine fcatA tys_ok Tryz.func9 rfl false ?_
   refine ⟨Nat.le_of_ble_eq_true rfl, ?_⟩
   have hv0 : okV (⟨⟨⟨s0, l0, h0⟩, ⟨b0, m0, r0⟩⟩, ⟨z0, gN n0 fun i => [st (gT (f0 i))]⟩⟩ : Vl) := ⟨⟨(by rw [gN_length]; exact hp0.1.1), fun _ _ => rfl⟩, hp0.2⟩
   have ho0 := okV_of hv0
   have hoo0 := okV_of ho0
   have hk := ho0
   unfold okV at hk
   refine ASat.seqA tys_ok (l := [(23, ⟨[], FVCleanV⟩), (24, ⟨[], FItoa⟩), (25, ⟨[], FJoin⟩)]) ⟨fcVCleanV, fcItoa, fcJoin, trivial⟩ (by kernel_rfl) ?_
   repeat' (first | exact trivial | (with_reducible first | exact ho0 | exact ho0.1 | exact ho0.2.1 | exact ho0.2.2 | exact hp0 | exact hp0.1 | exact hp0.2 | exact hp0.2.1 | exact hp0.2.2 | exact hoo0 | exact hoo0.1 | exact hoo0.2.1 | exact hoo0.2.2) | refine ⟨?_, ?_⟩ | intro _)
   all_goals first | (with_reducible first | apply qa | apply qb | apply qc | apply qd) | (conv => whnf)
   refine ASat.seqA tys_ok (l := [(23, ⟨[], FVCleanV⟩), (24, ⟨[], FItoa⟩), (25, ⟨[], FJoin⟩)]) ⟨fcVCleanV, fcItoa, fcJoin, trivial⟩ (by kernel_rfl) ?_
   repeat' (first | exact trivial | (with_reducible first | exact hp0 | exact hp0.1 | exact hp0.2 | exact hp0.2.1 | exact hp0.2.2) | refine ⟨?_, ?_⟩ | intro _)
   all_goals first | (with_reducible first | apply qa | apply qb | apply qc | apply qd) | (conv => whnf)
   all_goals first | exact hp0.1.1 | (intro _ _; rfl) | skip
   all_goals (try simp only [gN_lst])
   all_goals first | (intro i hi; rfl) | (exact rfl) | skip
   refine ASat.norm [1] ?_
   have hle : (ofS (gN n0 fun i => [st (gT (f0 i))])).length <= 1048576 := Nat.le_trans (ofS_len _) (by rw [gN_length]; exact hp1.1)
   have hls : szL (ofS (gN n0 fun i => [st (gT (f0 i))])) <= 1048576 := Nat.le_trans (szL_of _) hp1.2
   have hvw := @val_walk (Vl.of (⟨⟨⟨s0, l0, h0⟩, ⟨b0, m0, r0⟩⟩, ⟨z0, gN n0 fun i => [st (gT (f0 i))]⟩⟩ : Vl)) hk.2.1 hk.2.2 hle hls
   refine hvw fun st h => ?_
   exact fin_text (K := fun r' us' => rtEq r' _ /\ usEq _ us' _) h ⟨rfl, trivial⟩
 . cases h
end Go.Proofs.YtakcacejpbiogaaGreatDoor
