/- What the library's stable sort of binds computes: the whole of it. No condition. -/
import Derived.Test.YtokjghkehojenaaGreatP7
set_option linter.all false
set_option maxHeartbeats 8000000
set_option maxRecDepth 100000
namespace Go.Proofs.YtokjghkehojenaaGreat
open Go.Sx
section
variable {α : Type} [Inhabited α] {lt : α → α → Bool}
def BS (lt : α -> α -> Bool) (G H : Nat -> α) (D n : Nat) : Prop := (∀ c, D ∣ c -> c < n -> seg H c (min (c + D) n) = srt lt (seg G c (min (c + D) n))) /\ ∀ k, n <= k -> H k = G k
def PB (lt : α -> α -> Bool) (G H H' : Nat -> α) (D a : Nat) : Prop := D ∣ a /\ (∀ c, D ∣ c -> c + D <= a -> seg H' c (c + D) = srt lt (seg G c (c + D))) /\ ∀ k, a <= k -> H' k = H k
theorem dvd_gap {D c a : Nat} (h1 : D ∣ c) (h2 : D ∣ a) (h : c < a) : c + D <= a := by
 have := Nat.le_of_dvd (by omega) (Nat.dvd_sub h2 h1)
 omega
theorem PB.start (G H : Nat -> α) (D : Nat) (hD : 0 < D) : PB lt G H H D 0 := ⟨Nat.dvd_zero _, fun c _ h => by omega, fun _ _ => rfl⟩
theorem PB.step {G H H' : Nat -> α} {D a : Nat} (h : PB lt G H H' D a) (hD : 0 < D) : PB lt G H (put H' a (srt lt (seg G a (a + D)))) D (a + D) := by
 obtain ⟨h1, h2, h3⟩ := h
 have hl : (srt lt (seg G a (a + D))).length = a + D - a := by rw [srt_length, seg_length]
 refine ⟨(Nat.dvd_add_right h1).2 (Nat.dvd_refl D), fun c hc hcd => ?_, fun k hk => ?_⟩
 . rcases Nat.lt_or_ge c a with hca | hca
   . have := dvd_gap hc h1 hca
     rw [<- h2 c hc this]
     exact seg_eq fun k _ hk => put_out (.inl (by omega))
   . have : c = a := by omega
     subst this
     exact seg_put _ _ _ _ hl (by omega)
 . rw [put_out (.inr (by omega)), h3 k (by omega)]
theorem PB.done {G H H' : Nat -> α} {D a n : Nat} (h : PB lt G H H' D a) (hD : 0 < D) (ha : a <= n) (hn : n < a + D) (hH : ∀ k, n <= k -> H k = G k) : BS lt G (put H' a (srt lt (seg G a n))) D n := by
 obtain ⟨h1, h2, h3⟩ := h
 have hl : (srt lt (seg G a n)).length = n - a := by rw [srt_length, seg_length]
 refine ⟨fun c hc hcn => ?_, fun k hk => ?_⟩
 . rcases Nat.lt_or_ge c a with hca | hca
   . have := dvd_gap hc h1 hca
     have e : min (c + D) n = c + D := by omega
     rw [e, <- h2 c hc this]
     exact seg_eq fun k _ hk => put_out (.inl (by omega))
   . have : c = a := by
      rcases Nat.lt_or_ge a c with h4 | h4
      . have := dvd_gap h1 hc h4; omega
      . omega
     subst this
     have e : min (c + D) n = n := by omega
     rw [e]
     exact seg_put _ _ _ _ hl (by omega)
 . rw [put_out (.inr (by omega)), h3 k (by omega), hH k hk]
theorem BS.two (hw : Wk lt) {G H H' : Nat -> α} {B a e n : Nat} (h : BS lt G H B n) (hp : PB lt G H H' (2 * B) a) (hB : 0 < B) (h1 : a + B < e) (h2 : e <= a + 2 * B) (h3 : e <= n) (h4 : e = a + 2 * B \/ e = n) :
 seg H' a (a + B) = srt lt (seg G a (a + B)) /\ seg H' (a + B) e = srt lt (seg G (a + B) e) /\ mg lt (seg H' a (a + B)) (seg H' (a + B) e) = srt lt (seg G a e) := by
 have d1 : B ∣ a := Nat.dvd_trans ⟨2, Nat.mul_comm 2 B⟩ hp.1
 have d2 : B ∣ a + B := (Nat.dvd_add_right d1).2 (Nat.dvd_refl B)
 have k1 := h.1 a d1 (by omega)
 have k2 := h.1 (a + B) d2 (by omega)
 rw [show min (a + B) n = a + B by omega] at k1
 rw [show min (a + B + B) n = e by omega] at k2
 have e1 : seg H' a (a + B) = seg H a (a + B) := seg_eq fun k hk _ => hp.2.2 k hk
 have e2 : seg H' (a + B) e = seg H (a + B) e := seg_eq fun k hk _ => hp.2.2 k (by omega)
 rw [e1, e2, k1, k2]
 refine ⟨rfl, rfl, ?_⟩
 rw [<- srt_append hw, <- seg_app G (by omega) (by omega)]
theorem BS.one {G H H' : Nat -> α} {B a n : Nat} (h : BS lt G H B n) (hp : PB lt G H H' (2 * B) a) (h1 : n <= a + B) (h2 : a <= n) : put H' a (srt lt (seg G a n)) = H' := by
 have e1 : seg H' a n = srt lt (seg G a n) := by
  rcases Nat.lt_or_ge a n with h3 | h3
  . have k1 := h.1 a (Nat.dvd_trans ⟨2, Nat.mul_comm 2 B⟩ hp.1) h3
    rw [show min (a + B) n = n by omega] at k1
    rw [<- k1]
    exact seg_eq fun k hk _ => hp.2.2 k hk
  . rw [seg_nil _ h3, seg_nil _ h3]; rfl
 rw [<- e1, put_seg]
theorem BS.fin {G H : Nat -> α} {B n : Nat} (h : BS lt G H B n) (hn : n <= B) : H = put G 0 (srt lt (seg G 0 n)) := by
 rcases Nat.eq_zero_or_pos n with h0 | h0
 . subst h0
   funext k
   rw [h.2 k (Nat.zero_le _)]
   exact (put_out (by rw [srt_length, seg_length]; omega)).symm
 . have k1 := h.1 0 (Nat.dvd_zero _) h0
   rw [show min (0 + B) n = n by omega] at k1
   rw [<- k1]
   funext k
   rcases Nat.lt_or_ge k n with hk | hk
   . have := putAt (g := G) (a := 0) (l := seg H 0 n) (k := k) (by rw [seg_length]; omega)
     rw [Nat.zero_add] at this
     rw [this, seg_getD (by omega), Nat.zero_add]
   . rw [put_out (by rw [seg_length]; omega)]; exact h.2 k hk
end
def FStable : List Ar -> Option Rs
 | [.c (.ow 9 n0 f0), .c (.d (.v (.int .i64 i1))), .fv g2] => some ⟨(n0 <= 1099511627776 /\ ∀ i, i < n0 -> rowSB (f0 i)) /\ (-9223372036854775808 <= i1 /\ i1 < 9223372036854775808) /\ ((0 <= i1 /\ i1 <= n0) /\ g2 = gLess), .tup [], [some fun k => bdC (put (gF f0) 0 (srt ltB (seg (gF f0) 0 (i1).toNat)) k)]⟩
 | _ => none
theorem fcStable : FC Tryz.prog 170 FStable := by
 intro xs pre r us h hp
 unfold FStable at h
 split at h
 . rename_i n0 f0 i1 g2
   cases h
   obtain ⟨hp0, hp1, hp2⟩ := hp
   refine FCat.deep (ys := [.c (.ow 9 n0 fun k => bdC (gF f0 k)), .c (.d (.v (.int .i64 i1))), .fv g2]) ?_ ?_
   . repeat' (first | exact trivial | exact rfl | exact DvE.refl _ | refine ⟨?_, ?_⟩ | fail)
     all_goals first | exact (canonF hp0.2).2.2
   refine fcat tys_ok (l := [(202, ⟨[true], FInsSort⟩), (203, ⟨[true], (FSym 2199023255552)⟩)]) ⟨fcInsSort, (fcSym 2199023255552), trivial⟩ Tryz.func170 rfl (by kernel_rfl) false ?_
   obtain ⟨⟨ha, hb⟩, rfl⟩ := hp2
   obtain ⟨n, rfl⟩ := Int.eq_ofNat_of_zero_le ha
   have hn := hp0.1
   clear hp0
   generalize gF f0 = G at *
   have hok : ∀ (H : Nat -> Bd) (i : Nat), i < n0 -> rowSB (bdC (H i)) := fun H i _ => rowSB_bdC _
   simp only [Int.toNat_natCast] at *
   repeat' (first | exact trivial | refine ⟨?_, ?_⟩ | intro _)
   all_goals first | (with_reducible apply qq) | (conv => whnf)
   refine loop_ok tys_ok (l := [(202, ⟨[true], FInsSort⟩), (203, ⟨[true], (FSym 2199023255552)⟩)]) ⟨fcInsSort, (fcSym 2199023255552), trivial⟩ (by kernel_rfl) (X := Nat × (Nat -> Bd))
    (fun x => ⟨[(6, vx (.int .i64 20)), (7, vx (.int .i64 x.1)), (8, vx (.int .i64 (x.1 + 20 : Nat))), (0, .va (.c (.osl 0 9 0 n0))), (1, vx (.int .i64 n)), (2, .va (.c (.fv gLess)))], [(0, .row 9 n0 fun k => bdC (x.2 k))], 1, 63⟩)
    (fun x => n - x.1) (fun x => x.1 <= n /\ PB ltB G G x.2 20 x.1) [] []
    (fun x _ _ => (x.1 + 20, put x.2 x.1 (srt ltB (seg x.2 x.1 (x.1 + 20))))) [0] [0] 0 0 (0, G) ?_ ?_ ?_
   . exact ⟨Nat.zero_le _, PB.start G G 20 (by decide)⟩
   . repeat' (first | exact trivial | exact rfl | (intro _ _; exact rfl) | refine ⟨?_, ?_⟩ | fail)
   . rintro ⟨a, H⟩ ⟨k1, k2⟩
     dsimp only at k1 k2
     have hE : ∀ e, seg H a e = seg G a e := fun e => seg_eq fun k hk _ => k2.2.2 k hk
     have hw : IntKind.wrap .i64 (((a + 20 : Nat) : Int) + 20) = ((a + 20 + 20 : Nat) : Int) := by rw [wI_id _ (by omega) (by omega)]; omega
     rcases Nat.lt_or_ge n (a + 20) with hc | hc
     . have hne : decide (((a + 20 : Nat) : Int) <= (n : Int)) = false := decide_eq_false (by omega)
       repeat' (first | exact trivial | (with_reducible exact (hok _)) | refine ⟨?_, ?_⟩ | intro _)
       all_goals first | (with_reducible apply qq) | (conv => whnf)
       all_goals first | (exact absurd (hne.symm.trans ‹_ = true›) (by decide)) | skip
       all_goals first | omega | (dsimp only; omega) | exact hok _ _ ‹_› | skip
       have hd := k2.done (by decide) k1 hc (fun _ _ => rfl)
       refine loop_ok tys_ok (l := [(202, ⟨[true], FInsSort⟩), (203, ⟨[true], (FSym 2199023255552)⟩)]) ⟨fcInsSort, (fcSym 2199023255552), trivial⟩ (by kernel_rfl) (X := Nat × (Nat -> Bd))
        (fun x => ⟨[(6, vx (.int .i64 x.1)), (0, .va (.c (.osl 0 9 0 n0))), (1, vx (.int .i64 n)), (2, .va (.c (.fv gLess)))], [(0, .row 9 n0 fun k => bdC (x.2 k))], 1, 63⟩)
        (fun x => n - x.1) (fun x => 0 < x.1 /\ (x.1 = 20 \/ x.1 < 2 * n) /\ BS ltB G x.2 x.1 n) [] [0]
        (fun x _ bs => (2 * x.1, match bs with | [.row _ _ f] => gF f | _ => G)) [0] [0] 0 0 (20, put H a (srt ltB (seg G a n))) ?_ ?_ ?_
       . exact ⟨Nat.zero_lt_succ _, .inl rfl, hd⟩
       . repeat' (first | exact trivial | exact rfl | (intro _ _; exact rfl) | refine ⟨?_, ?_⟩ | fail)
         all_goals (intro i _; dsimp only; simp only [gF_bdC, hE, Int.toNat_natCast])
       . rintro ⟨B, H1⟩ ⟨q1, q2, q3⟩
         dsimp only at q1 q2 q3
         clear hd k1 k2 hE hw hc hne
         rcases Nat.lt_or_ge B n with hc | hc
         . have hne : decide ((B : Int) < (n : Int)) = true := decide_eq_true (by omega)
           have hw2 : IntKind.wrap .i64 (2 * (B : Int)) = ((2 * B : Nat) : Int) := by rw [wI_id _ (by omega) (by omega)]; omega
           have hw5 : IntKind.wrap .i64 ((B : Int) * 2) = ((2 * B : Nat) : Int) := by rw [wI_id _ (by omega) (by omega)]; omega
           repeat' (first | exact trivial | refine ⟨?_, ?_⟩ | intro _)
           all_goals first | (with_reducible apply qq) | (conv => whnf)
           all_goals first | (exact absurd (hne.symm.trans ‹_ = false›) (by decide)) | skip
           refine loop_ok tys_ok (l := [(202, ⟨[true], FInsSort⟩), (203, ⟨[true], (FSym 2199023255552)⟩)]) ⟨fcInsSort, (fcSym 2199023255552), trivial⟩ (by kernel_rfl) (X := Nat × (Nat -> Bd))
            (fun x => ⟨[(6, vx (.int .i64 B)), (7, vx (.int .i64 x.1)), (8, vx (.int .i64 (x.1 + 2 * B : Nat))), (0, .va (.c (.osl 0 9 0 n0))), (1, vx (.int .i64 n)), (2, .va (.c (.fv gLess)))], [(0, .row 9 n0 fun k => bdC (x.2 k))], 1, 63⟩)
            (fun x => n - x.1) (fun x => x.1 <= n /\ PB ltB G H1 x.2 (2 * B) x.1) [] []
            (fun x _ _ => (x.1 + 2 * B, put x.2 x.1 (srt ltB (seg G x.1 (x.1 + 2 * B))))) [0] [0] 0 0 (0, H1) ?_ ?_ ?_
           . exact ⟨Nat.zero_le _, PB.start G H1 (2 * B) (by omega)⟩
           . repeat' (first | exact trivial | exact rfl | (intro _ _; exact rfl) | refine ⟨?_, ?_⟩ | fail)
             all_goals (refine congrArg (Value.int .i64) ?_; rw [hw2]; dsimp only; omega)
           . rintro ⟨a, H⟩ ⟨k1, k2⟩
             dsimp only at k1 k2
             have hw3 : IntKind.wrap .i64 ((a : Int) + (B : Int)) = ((a + B : Nat) : Int) := by rw [wI_id _ (by omega) (by omega)]; omega
             have hw4 : IntKind.wrap .i64 (((a + 2 * B : Nat) : Int) + ((2 * B : Nat) : Int)) = ((a + 2 * B + 2 * B : Nat) : Int) := by rw [wI_id _ (by omega) (by omega)]; omega
             rcases Nat.lt_or_ge n (a + 2 * B) with hd | hd
             . have hn2 : decide (((a + 2 * B : Nat) : Int) <= (n : Int)) = false := decide_eq_false (by omega)
               have hfin := k2.done (by omega) k1 hd q3.2
               rcases Nat.lt_or_ge (a + B) n with hm | hm
               . have hn3 : decide (IntKind.wrap .i64 ((a : Int) + (B : Int)) < (n : Int)) = true := by rw [hw3]; exact decide_eq_true (by omega)
                 have ht := q3.two wkB k2 q1 hm (by omega) (Nat.le_refl n) (.inr rfl)
                 have hs1 : Std ltB (seg H a (a + B)) := by rw [ht.1]; exact srt_srt wkB _
                 have hs2 : Std ltB (seg H (a + B) n) := by rw [ht.2.1]; exact srt_srt wkB _
                 repeat' (first | exact trivial | (with_reducible first | exact (hok _) | exact (fun h => absurd (hn2.symm.trans h) Bool.false_ne_true) | exact (fun h => absurd (h.symm.trans hn2) Bool.false_ne_true) | exact (fun h => absurd (hn3.symm.trans h) Bool.false_ne_true) | exact (fun h => absurd (h.symm.trans hn3) Bool.false_ne_true)) | refine ⟨?_, ?_⟩ | intro _)
                 all_goals first | (with_reducible apply qq) | (conv => whnf)
                 all_goals first | (exact absurd (hn2.symm.trans ‹_ = true›) (by decide)) | (exact absurd (hn3.symm.trans ‹_ = false›) (by decide)) | skip
                 all_goals (try dsimp only)
                 all_goals (try simp only [hw2, hw3, hw4, hw5, gF_bdC, ht.2.2, Int.toNat_natCast])
                 all_goals first | rfl | omega | exact hs1 | exact hs2 | exact hfin.1 _ ‹_› ‹_› | exact hfin.2 _ ‹_›
               . have hn3 : decide (IntKind.wrap .i64 ((a : Int) + (B : Int)) < (n : Int)) = false := by rw [hw3]; exact decide_eq_false (by omega)
                 rw [q3.one k2 hm k1] at hfin
                 repeat' (first | exact trivial | (with_reducible first | exact (hok _) | exact (fun h => absurd (hn2.symm.trans h) Bool.false_ne_true) | exact (fun h => absurd (h.symm.trans hn2) Bool.false_ne_true) | exact (fun h => absurd (hn3.symm.trans h) Bool.false_ne_true) | exact (fun h => absurd (h.symm.trans hn3) Bool.false_ne_true)) | refine ⟨?_, ?_⟩ | intro _)
                 all_goals first | (with_reducible apply qq) | (conv => whnf)
                 all_goals first | (exact absurd (hn2.symm.trans ‹_ = true›) (by decide)) | (exact absurd (hn3.symm.trans ‹_ = true›) (by decide)) | skip
                 all_goals (try dsimp only)
                 all_goals (try simp only [hw2, hw3, hw4, hw5, gF_bdC, Int.toNat_natCast])
                 all_goals first | rfl | omega | exact hfin.1 _ ‹_› ‹_› | exact hfin.2 _ ‹_›
             . have hn2 : decide (((a + 2 * B : Nat) : Int) <= (n : Int)) = true := decide_eq_true (by omega)
               have ht := q3.two wkB k2 q1 (by omega : a + B < a + 2 * B) (Nat.le_refl _) hd (.inl rfl)
               have hs1 : Std ltB (seg H a (a + B)) := by rw [ht.1]; exact srt_srt wkB _
               have hs2 : Std ltB (seg H (a + B) (a + 2 * B)) := by rw [ht.2.1]; exact srt_srt wkB _
               have hs := k2.step (by omega)
               have hdv := hs.1
               repeat' (first | exact trivial | (with_reducible first | exact (hok _) | exact hdv) | refine ⟨?_, ?_⟩ | intro _)
               all_goals first | (with_reducible apply qq) | (conv => whnf)
               all_goals first | (exact absurd (hn2.symm.trans ‹_ = false›) (by decide)) | skip
               all_goals (try dsimp only)
               all_goals (try simp only [hw2, hw3, hw4, hw5, gF_bdC, ht.2.2, Int.toNat_natCast])
               all_goals first | rfl | omega | exact hs1 | exact hs2 | exact hs.1 | exact hs.2.1 _ ‹_› ‹_› | exact hs.2.2 _ ‹_›
         . have hne : decide ((B : Int) < (n : Int)) = false := decide_eq_false (by omega)
           have hf := q3.fin hc
           repeat' (first | exact trivial | refine ⟨?_, ?_⟩ | intro _)
           all_goals first | (with_reducible apply qq) | (conv => whnf)
           all_goals first | (exact absurd (hne.symm.trans ‹_ = true›) (by decide)) | skip
           all_goals first | exact Nat.le_refl _ | exact congrArg bdC (congrFun hf _)
     . have hne : decide (((a + 20 : Nat) : Int) <= (n : Int)) = true := decide_eq_true (by omega)
       have hs := k2.step (by decide)
       have hdv := hs.1
       repeat' (first | exact trivial | (with_reducible first | exact (hok _) | exact hdv) | refine ⟨?_, ?_⟩ | intro _)
       all_goals first | (with_reducible apply qq) | (conv => whnf)
       all_goals first | (exact absurd (hne.symm.trans ‹_ = false›) (by decide)) | skip
       all_goals (try dsimp only)
       all_goals (try simp only [hE, hw, gF_bdC, Int.toNat_natCast])
       all_goals first | rfl | omega | exact hs.1 | exact hs.2.1 _ ‹_› ‹_› | exact hs.2.2 _ ‹_›
 . cases h
def ddA (p : Bd) : List Bd -> List Bd
 | [] => []
 | y :: r => if y.name = p.name then ddA y r else y :: ddA y r
def dd : List Bd -> List Bd
 | [] => []
 | x :: r => x :: ddA x r
theorem ddA_snoc (r : List Bd) (p y : Bd) : ddA p (r ++ [y]) = if y.name = (r.getLastD p).name then ddA p r else ddA p r ++ [y] := by
 induction r generalizing p with
 | nil => simp only [List.nil_append, ddA]; rfl
 | cons x r ih =>
   have e : (x :: r).getLastD p = r.getLastD x := by cases r <;> simp [List.getLastD]
   rw [List.cons_append, ddA, ddA, ih x, e]
   split <;> split <;> rfl
theorem dd_snoc (l : List Bd) (x y : Bd) : dd (l ++ [x] ++ [y]) = if y.name = x.name then dd (l ++ [x]) else dd (l ++ [x]) ++ [y] := by
 cases l with
 | nil => simp only [List.nil_append, List.cons_append, dd, ddA]; split <;> rfl
 | cons a l =>
   have e : (l ++ [x]).getLastD a = x := by simp
   simp only [List.cons_append, dd]
   rw [ddA_snoc, e]
   split <;> rfl
theorem ddA_len (r : List Bd) (p : Bd) : (ddA p r).length <= r.length := by
 induction r generalizing p with
 | nil => exact Nat.le_refl _
 | cons x r ih => rw [ddA]; have := ih x; split <;> simp <;> omega
theorem dd_len (l : List Bd) : (dd l).length <= l.length := by
 cases l with
 | nil => exact Nat.le_refl _
 | cons x r => simp only [dd, List.length_cons]; have := ddA_len r x; omega
theorem dd_seg (G : Nat -> Bd) (k : Nat) : dd (seg G 0 (k + 1 + 1)) = if (G (k + 1)).name = (G k).name then dd (seg G 0 (k + 1)) else dd (seg G 0 (k + 1)) ++ [G (k + 1)] := by
 rw [seg_snoc G (Nat.zero_le (k + 1)), seg_snoc G (Nat.zero_le k), dd_snoc]
theorem dd_small (G : Nat -> Bd) {n : Nat} (h : n < 2) : dd (seg G 0 n) = seg G 0 n := by
 rcases (by omega : n = 0 \/ n = 1) with rfl | rfl <;> rfl
theorem row_push {G : Nat -> Bd} {L : List Bd} {x : Bd} {i : Nat} {r : List DV} (hi : i = L.length) (hr : r = bdC x) (k : Nat) : setRow (fun k => bdC (put G 0 L k)) i r k = bdC (put G 0 (L ++ [x]) k) := by
 subst hi; subst hr
 rw [setRow_at]
 split
 . rename_i h; subst h
   have := put_mid G 0 L x []
   rw [Nat.zero_add] at this
   rw [this]
 . rename_i h
   unfold put
   rw [List.length_append]
   by_cases c : k < L.length
   . rw [if_pos (by omega), if_pos (by simp; omega), List.getD_eq_getElem?_getD, List.getD_eq_getElem?_getD, List.getElem?_append_left (by omega)]
   . rw [if_neg (by omega), if_neg (by simp; omega)]
theorem clr_lo {f : Nat -> List DV} {o len : Nat} {ds : List DV} {k : Nat} (h : k < o) : clrRow f o len ds k = f k := by
 unfold clrRow; rw [if_neg (by omega)]
theorem seg_gBs (n : Nat) (f : Nat -> List DV) : seg (gF f) 0 n = gBs n f := by
 unfold seg gBs gF
 rw [Nat.sub_zero, List.range_eq_range']
theorem put_atB {G : Nat -> Bd} {l : List Bd} {k : Nat} (h : k < l.length) : put G 0 l k = atB l k := by
 have := putAt (g := G) (a := 0) h
 rw [Nat.zero_add] at this; exact this
theorem seg_at {G : Nat -> Bd} {n k : Nat} (h : k < n) : atB (seg G 0 n) k = G k := by
 unfold atB; rw [seg_getD (by omega), Nat.zero_add]
def FSameN : List Ar -> Option Rs
 | [.agg [.d (.v (.string x0)), .d (.v (.bool _)), .d (.v (.int .i64 _)), .d (.v (.int .i64 _)), .d (.v (.bool _)), .d (.v (.int .i64 _)), .d (.v (.int .i64 _)), .d (.v (.bool _)), .d (.lst 1 _ _)], .agg [.d (.v (.string x1)), .d (.v (.bool _)), .d (.v (.int .i64 _)), .d (.v (.int .i64 _)), .d (.v (.bool _)), .d (.v (.int .i64 _)), .d (.v (.int .i64 _)), .d (.v (.bool _)), .d (.lst 1 _ _)]] => some ⟨True, .va (.c (.d (bo (decide (x0 = x1))))), []⟩
 | _ => none
theorem fcSameN : FC Tryz.prog 129 FSameN := by
 intro xs pre r us h hp
 unfold FSameN at h
 split at h
 . rename_i x0 s0 l0 h0 b0 m0 r0 z0 n0 f0 x1 s1 l1 h1 b1 m1 r1 z1 n1 f1
   cases h
   refine fcat tys_ok (l := []) trivial Tryz.func129 rfl (by kernel_rfl) false ?_
   repeat' (first | exact trivial | refine ⟨?_, ?_⟩ | intro _)
   all_goals first | (with_reducible apply qq) | (conv => whnf)
   all_goals exact congrArg Value.bool (seq_iff _ _)
 . cases h
abbrev gSame : List Cv -> Option Gs := mkFv (sums [(129, ⟨[], FSameN⟩)]) 129 []
def FCompact : List Ar -> Option Rs
 | [.c (.ow 9 n0 f0), .fv g1] => some ⟨(n0 <= 1099511627776 /\ ∀ i, i < n0 -> rowSB (f0 i)) /\ (g1 = gSame), .va (.c (.ow 9 (dd (gBs n0 f0)).length (rwB (dd (gBs n0 f0))))), [none]⟩
 | _ => none
theorem fcCompact : FC Tryz.prog 128 FCompact := by
 intro xs pre r us h hp
 unfold FCompact at h
 split at h
 . rename_i n0 f0 g1
   cases h
   obtain ⟨hp0, hp1⟩ := hp
   refine FCat.deep (ys := [.c (.ow 9 n0 fun k => bdC (gF f0 k)), .fv g1]) ?_ ?_
   . repeat' (first | exact trivial | exact rfl | exact DvE.refl _ | refine ⟨?_, ?_⟩ | fail)
     all_goals first | exact (canonF hp0.2).2.2
   refine fcat tys_ok (l := []) trivial Tryz.func128 rfl (by kernel_rfl) false ?_
   obtain rfl := hp1
   have hn := hp0.1
   clear hp0
   rw [<- seg_gBs]
   generalize gF f0 = G at *
   have hl := dd_len (seg G 0 n0)
   rw [seg_length] at hl
   repeat' (first | exact trivial | refine ⟨?_, ?_⟩ | intro _)
   all_goals first | (with_reducible apply qq) | (conv => whnf)
   all_goals first | (have hlt := of_decide_eq_true ‹_ = true›; have hd := dd_small G (n := n0) (by omega); first | omega | (rw [hd, seg_length]; rfl) | (rename_i i hi; rw [hd]; exact congrArg bdC (seg_at hi).symm)) | skip
   have hge := of_decide_eq_false ‹_ = false›
   refine loop_ok tys_ok (l := []) trivial (by kernel_rfl) (X := Nat)
    (fun k => ⟨[(5, vx (.int .i64 (k + 1 : Nat))), (0, .va (.c (.osl 0 9 0 n0))), (1, .va (.c (.fv gSame)))], [(0, .row 9 n0 fun k => bdC (G k))], 1, 66⟩)
    (fun k => n0 - k) (fun k => k + 1 <= n0 /\ dd (seg G 0 (k + 1)) = seg G 0 (k + 1)) [] [] (fun k _ _ => k + 1) [0] [0] 0 0 0 ?_ ?_ ?_
   . exact ⟨by omega, dd_small G (by decide)⟩
   . repeat' (first | exact trivial | exact rfl | (intro _ _; exact rfl) | refine ⟨?_, ?_⟩ | fail)
   . rintro k ⟨k1, k2⟩
     have hw : IntKind.wrap .i64 (((k + 1 : Nat) : Int) - 1) = (k : Int) := by rw [wI_id _ (by omega) (by omega)]; omega
     rcases Nat.lt_or_ge (k + 1) n0 with hk | hk
     . have hne : decide (((k + 1 : Nat) : Int) < (n0 : Int)) = true := decide_eq_true (by omega)
       have hs := dd_seg G k
       by_cases hc : (G (k + 1)).name = (G k).name
       . have hcd : decide ((G (k + 1)).name = (G k).name) = true := decide_eq_true hc
         rw [if_pos hc] at hs
         repeat' (first | exact trivial | refine ⟨?_, ?_⟩ | intro _)
         all_goals first | (with_reducible apply qq) | (conv => whnf)
         all_goals first | (exact absurd (hne.symm.trans ‹_ = false›) (by decide)) | skip
         all_goals first | (have hd := ‹decide ((G _).name = _) = false›; simp only [hw, Int.toNat_natCast, Nat.zero_add] at hd; exact absurd (hcd.symm.trans hd) (by decide)) | skip
         all_goals (try simp only [hw, Int.toNat_natCast, Nat.zero_add])
         all_goals first | omega | skip
         refine loop_ok tys_ok (l := []) trivial (by kernel_rfl) (X := Nat)
          (fun j => ⟨[(7, vx (.int .i64 (j + 1 : Nat))), (6, .va (.c (.osl 0 9 (k + 1) (n0 - (k + 1))))), (5, vx (.int .i64 (dd (seg G 0 (k + 1 + (j + 1)))).length)), (0, .va (.c (.osl 0 9 0 n0))), (1, .va (.c (.fv gSame)))], [(0, .row 9 n0 fun x => bdC (put G 0 (dd (seg G 0 (k + 1 + (j + 1)))) x))], 1, 66⟩)
          (fun j => n0 - j) (fun j => k + 1 + (j + 1) <= n0 /\ (dd (seg G 0 (k + 1 + (j + 1)))).length <= k + 1 + j) [] [] (fun j _ _ => j + 1) [0] [0] 0 0 0 ?_ ?_ ?_
         . exact ⟨by omega, by rw [hs, k2, seg_length]; omega⟩
         . rw [hs, k2, put_seg, seg_length]
           repeat' (first | exact trivial | exact rfl | (intro _ _; exact rfl) | refine ⟨?_, ?_⟩ | fail)
           all_goals omega
         . rintro j ⟨q1, q2⟩
           have hw2 : IntKind.wrap .i64 (((j + 1 : Nat) : Int) - 1) = (j : Int) := by rw [wI_id _ (by omega) (by omega)]; omega
           have hg1 : put G 0 (dd (seg G 0 (k + 1 + (j + 1)))) (k + 1 + (j + 1)) = G (k + 1 + (j + 1)) := put_out (.inr (by omega))
           have hg2 : put G 0 (dd (seg G 0 (k + 1 + (j + 1)))) (k + 1 + j) = G (k + 1 + j) := put_out (.inr (by omega))
           rcases Nat.lt_or_ge (k + 1 + (j + 1)) n0 with hj | hj
           . have hne2 : decide (((j + 1 : Nat) : Int) < ((n0 - (k + 1) : Nat) : Int)) = true := decide_eq_true (by omega)
             have hs2 := dd_seg G (k + 1 + j)
             rw [show k + 1 + j + 1 = k + 1 + (j + 1) by omega, show k + 1 + (j + 1) + 1 = k + 1 + (j + 1 + 1) by omega] at hs2
             by_cases hc2 : (G (k + 1 + (j + 1))).name = (G (k + 1 + j)).name
             . have hcd2 : decide ((G (k + 1 + (j + 1))).name = (G (k + 1 + j)).name) = true := decide_eq_true hc2
               rw [if_pos hc2] at hs2
               repeat' (first | exact trivial | refine ⟨?_, ?_⟩ | intro _)
               all_goals first | (with_reducible apply qq) | (conv => whnf)
               all_goals first | (exact absurd (hne2.symm.trans ‹_ = false›) (by decide)) | skip
               all_goals first | (have hd := ‹(!decide ((put G 0 _ _).name = _)) = true›; simp only [hw2, hg1, hg2, hcd2, Int.toNat_natCast] at hd; exact absurd hd (by decide)) | skip
               all_goals (try simp only [hw2, hs2, Int.toNat_natCast])
               all_goals first | rfl | omega | (exact congrArg (Value.int .i64) (by first | (rw [wI_id _ (by omega) (by omega)]; omega) | omega | (dsimp only; omega)))
             . have hcd2 : decide ((G (k + 1 + (j + 1))).name = (G (k + 1 + j)).name) = false := decide_eq_false hc2
               rw [if_neg hc2] at hs2
               have hlen : (dd (seg G 0 (k + 1 + (j + 1 + 1)))).length = (dd (seg G 0 (k + 1 + (j + 1)))).length + 1 := by rw [hs2]; simp
               repeat' (first | exact trivial | refine ⟨?_, ?_⟩ | intro _)
               all_goals first | (with_reducible apply qq) | (conv => whnf)
               all_goals first | (exact absurd (hne2.symm.trans ‹_ = false›) (by decide)) | skip
               all_goals first | (have hd := ‹(!decide ((put G 0 _ _).name = _)) = false›; simp only [hw2, hg1, hg2, hcd2, Int.toNat_natCast] at hd; exact absurd hd (by decide)) | skip
               all_goals (try simp only [hw2, hlen, Int.toNat_natCast, Nat.zero_add])
               all_goals first | rfl | omega | (exact congrArg (Value.int .i64) (by first | (rw [wI_id _ (by omega) (by omega)]; omega) | omega | (dsimp only; omega))) | (rw [hs2]; exact row_push rfl (by rw [hg1]) _)
           . have hne2 : decide (((j + 1 : Nat) : Int) < ((n0 - (k + 1) : Nat) : Int)) = false := decide_eq_false (by omega)
             obtain rfl : n0 = k + 1 + (j + 1) := by omega
             repeat' (first | exact trivial | refine ⟨?_, ?_⟩ | intro _)
             all_goals first | (with_reducible apply qq) | (conv => whnf)
             all_goals first | (exact absurd (hne2.symm.trans ‹_ = true›) (by decide)) | skip
             all_goals (try simp only [Int.toNat_natCast, Nat.zero_add])
             all_goals first | rfl | omega | (rename_i i hi; rw [clr_lo (by omega)]; exact congrArg bdC (put_atB (by omega)))
       . have hcd : decide ((G (k + 1)).name = (G k).name) = false := decide_eq_false hc
         rw [if_neg hc, k2, <- seg_snoc G (Nat.zero_le _)] at hs
         repeat' (first | exact trivial | refine ⟨?_, ?_⟩ | intro _)
         all_goals first | (with_reducible apply qq) | (conv => whnf)
         all_goals first | (exact absurd (hne.symm.trans ‹_ = false›) (by decide)) | skip
         all_goals first | (have hd := ‹decide ((G _).name = _) = true›; simp only [hw, Int.toNat_natCast, Nat.zero_add] at hd; exact absurd (hcd.symm.trans hd) (by decide)) | skip
         all_goals (try simp only [hw, Int.toNat_natCast, Nat.zero_add])
         all_goals first | rfl | omega | exact hs | (exact congrArg (Value.int .i64) (by first | (rw [wI_id _ (by omega) (by omega)]; omega) | omega | (dsimp only; omega)))
     . have hne : decide (((k + 1 : Nat) : Int) < (n0 : Int)) = false := decide_eq_false (by omega)
       obtain rfl : n0 = k + 1 := by omega
       repeat' (first | exact trivial | refine ⟨?_, ?_⟩ | intro _)
       all_goals first | (with_reducible apply qq) | (conv => whnf)
       all_goals first | (exact absurd (hne.symm.trans ‹_ = true›) (by decide)) | skip
       all_goals first | omega | (rw [k2, seg_length]; rfl) | (rename_i i hi; rw [k2]; exact congrArg bdC (seg_at hi).symm)
 . cases h
structure RowsOk (n : Nat) (f : Nat -> List DV) : Prop where
 h : ∀ i, i < n -> rowOkB (f i)
def FSortF : List Ar -> Option Rs
 | [.c (.ow 9 n0 f0), .fv g1] => some ⟨(n0 <= 1099511627776 /\ ∀ i, i < n0 -> rowSB (f0 i)) /\ (g1 = gLess), .tup [], [some fun k => bdC (put (gF f0) 0 (srt ltB (gBs n0 f0)) k)]⟩
 | _ => none
theorem fcSortF : FC Tryz.prog 126 FSortF := by
 intro xs pre r us h hp
 unfold FSortF at h
 split at h
 . rename_i n0 f0 g1
   cases h
   obtain ⟨hp0, hp1⟩ := hp
   refine FCat.deep (ys := [.c (.ow 9 n0 fun k => bdC (gF f0 k)), .fv g1]) ?_ ?_
   . repeat' (first | exact trivial | exact rfl | exact DvE.refl _ | refine ⟨?_, ?_⟩ | fail)
     all_goals first | exact (canonF hp0.2).2.2
   refine fcat tys_ok (l := [(170, ⟨[true], FStable⟩)]) ⟨fcStable, trivial⟩ Tryz.func126 rfl (by kernel_rfl) false ?_
   obtain rfl := hp1
   have hn := hp0.1
   clear hp0
   rw [<- seg_gBs]
   generalize gF f0 = G at *
   have hok : ∀ (H : Nat -> Bd) (i : Nat), i < n0 -> rowSB (bdC (H i)) := fun H i _ => rowSB_bdC _
   repeat' (first | exact trivial | (with_reducible exact (hok _)) | refine ⟨?_, ?_⟩ | intro _)
   all_goals first | (with_reducible apply qq) | (conv => whnf)
   all_goals (try simp only [gF_bdC, Int.toNat_natCast])
   all_goals first | rfl | omega
 . cases h
def FBClone : List Ar -> Option Rs
 | [.c (.d (.lst 9 n0 f0))] => some ⟨(n0 <= 1099511627776 /\ RowsOk n0 f0), .va (.c (.ow 9 n0 (rwB (gBs n0 f0)))), []⟩
 | _ => none
theorem fcBClone : FC Tryz.prog 125 FBClone := by
 intro xs pre r us h hp
 unfold FBClone at h
 split at h
 . rename_i n0 f0
   cases h
   have hp0 := hp
   refine FCat.deep (ys := [.c (.d (.lst 9 n0 (rwB (gBs n0 f0))))]) ?_ ?_
   . repeat' (first | exact trivial | exact rfl | exact DvE.refl _ | refine ⟨?_, ?_⟩ | fail)
     all_goals first | exact canonB hp0.2.h
   refine fcat tys_ok (l := []) trivial Tryz.func125 rfl (by kernel_rfl) false ?_
   have hn := hp0.1
   generalize gBs n0 f0 = L at *
   clear hp0
   repeat' (first | exact trivial | refine ⟨?_, ?_⟩ | intro _)
   all_goals first | (with_reducible apply qq) | (conv => whnf)
   all_goals first | omega | rfl | (simp_all; done) | (simp [appRow]; done) | exact ‹_ = true -> _› ‹_›
 . cases h
def FVCleanV : List Ar -> Option Rs
 | [.agg [.d (.v (.bool s0)), .d (.v (.int .i64 l0)), .d (.v (.int .i64 h0)), .d (.v (.bool b0)), .d (.v (.int .i64 m0)), .d (.v (.int .i64 r0)), .d (.v (.bool z0)), .d (.lst 1 n0 f0)]] => some ⟨((n0 * 16 <= 140737488351232 /\ ∀ i, i < n0 -> f0 i = [st (gT (f0 i))]) /\ Sp.inR ⟨s0, l0, h0⟩ /\ Cg.inR ⟨b0, m0, r0⟩), .va (Vl.ar (Vl.of (⟨⟨⟨s0, l0, h0⟩, ⟨b0, m0, r0⟩⟩, ⟨z0, gN n0 f0⟩⟩ : Vl))), []⟩
 | _ => none
theorem fcVCleanV : FC Tryz.prog 40 FVCleanV := by
 intro xs pre r us h hp
 unfold FVCleanV at h
 split at h
 . rename_i s0 l0 h0 b0 m0 r0 z0 n0 f0
   cases h
   have hp0 := hp
   refine FCat.of_eq (as' := [.agg [.d (.v (.bool s0)), .d (.v (.int .i64 l0)), .d (.v (.int .i64 h0)), .d (.v (.bool b0)), .d (.v (.int .i64 m0)), .d (.v (.int .i64 r0)), .d (.v (.bool z0)), .d (.lst 1 n0 fun i => [st (gT (f0 i))])]]) ?_ rfl rfl ?_
   . repeat' (first | exact trivial | exact rfl | refine ⟨?_, ?_⟩ | fail)
     all_goals first | exact hp0.2 | exact hp1.2 | exact hp2.2 | (intro i hi; exact (hp0.2 i hi).1) | (intro i hi; exact (hp1.2 i hi).1) | (intro i hi; exact (hp2.2 i hi).1) | grind
   refine fcat tys_ok (l := [(62, ⟨[], FVOf⟩), (66, ⟨[], FVValue⟩)]) ⟨fcVOf, fcVValue, trivial⟩ Tryz.func40 rfl (by kernel_rfl) true ?_
   have hv0 : okV (⟨⟨⟨s0, l0, h0⟩, ⟨b0, m0, r0⟩⟩, ⟨z0, gN n0 fun i => [st (gT (f0 i))]⟩⟩ : Vl) := ⟨⟨(by rw [gN_length]; exact hp0.1.1), fun _ _ => rfl⟩, hp0.2⟩
   have ho0 := okV_of hv0
   have hoo0 := okV_of ho0
   unfold okV at ho0 hoo0
   repeat' (first | exact trivial | (with_reducible first | assumption | exact ho0.1 | exact ho0.2.1 | exact ho0.2.2 | exact hp0.1 | exact hp0.2 | exact hp0.2.1 | exact hp0.2.2 | exact hoo0.1 | exact hoo0.2.1 | exact hoo0.2.2) | refine ⟨?_, ?_⟩ | intro _)
   all_goals first | (with_reducible apply qq) | (conv => whnf)
   all_goals (try simp only [gN_lst] at *)
   all_goals first | rfl | (with_reducible exact hp0.1.1)
 . cases h
namespace En
def clean (e : En) : En := if e.live = true then ⟨true, (dd (srt ltB e.binds)).map fun b => ⟨b.name, b.v.of⟩⟩ else ⟨false, []⟩
end En
theorem srt_rows (L : List Bd) : (gBs L.length fun k => bdC (put (gF (rwB L)) 0 (srt ltB L) k)) = srt ltB L := by
 rw [<- seg_gBs, gF_bdC]
 exact seg_put _ _ _ _ (by rw [srt_length]; omega) (Nat.zero_le _)
def cln (D : List Bd) (i : Nat) : Nat -> Bd := fun k => if k < i then ⟨(atB D k).name, (atB D k).v.of⟩ else atB D k
theorem cln_at (D : List Bd) (i : Nat) : cln D i i = atB D i := if_neg (Nat.lt_irrefl i)
theorem cln_step {D : List Bd} {i : Nat} {r : List DV} (hr : r = bdC ⟨(atB D i).name, (atB D i).v.of⟩) (k : Nat) : setRow (fun k => bdC (cln D i k)) i r k = bdC (cln D (i + 1) k) := by
 subst hr
 rw [setRow_at]
 unfold cln
 split
 . rename_i h; subst h; rw [if_pos (Nat.lt_succ_self k)]
 . rename_i h
   by_cases c : k < i
   . rw [if_pos c, if_pos (by omega)]
   . rw [if_neg c, if_neg (by omega)]
theorem atB_map (D : List Bd) (f : Bd -> Bd) {k : Nat} (hk : k < D.length) : atB (D.map f) k = f (atB D k) := by
 unfold atB; simp [List.getD_eq_getElem?_getD, hk]
theorem ddA_sub (r : List Bd) (p : Bd) {x : Bd} (h : x ∈ ddA p r) : x ∈ r := by
 induction r generalizing p with
 | nil => cases h
 | cons y r ih =>
   rw [ddA] at h
   split at h
   . exact List.mem_cons_of_mem _ (ih _ h)
   . rcases List.mem_cons.1 h with rfl | h
     . exact List.mem_cons_self
     . exact List.mem_cons_of_mem _ (ih _ h)
theorem dd_sub {l : List Bd} {x : Bd} (h : x ∈ dd l) : x ∈ l := by
 cases l with
 | nil => exact h
 | cons y r =>
   rcases List.mem_cons.1 h with rfl | h
   . exact List.mem_cons_self
   . exact List.mem_cons_of_mem _ (ddA_sub _ _ h)
theorem atB_mem {l : List Bd} {k : Nat} (h : k < l.length) : atB l k ∈ l := by
 unfold atB; rw [List.getD_eq_getElem?_getD, List.getElem?_eq_getElem h]; exact List.getElem_mem h
theorem mem_atB {l : List Bd} {x : Bd} (h : x ∈ l) : ∃ k, k < l.length /\ atB l k = x := by
 obtain ⟨k, hk, e⟩ := List.mem_iff_getElem.1 h
 exact ⟨k, hk, by unfold atB; rw [List.getD_eq_getElem?_getD, List.getElem?_eq_getElem hk]; exact e⟩
def okL (l : List Bd) : Prop := ∀ x ∈ l, okB x
theorem okL_at {l : List Bd} (h : okL l) {k : Nat} (hk : k < l.length) : okB (atB l k) := h _ (atB_mem hk)
theorem okL_rows {n : Nat} {f : Nat -> List DV} (h : RowsOk n f) : okL (gBs n f) := by
 intro x hx
 obtain ⟨k, hk, rfl⟩ := mem_atB hx
 rw [gBs_length] at hk
 exact okB_at h.h k hk
theorem okL_row {l : List Bd} (h : okL l) : RowsOk l.length (rwB l) := ⟨fun i hi => rowOkB_bdC (okL_at h hi)⟩
theorem okL_srt {l : List Bd} (h : okL l) : okL (srt ltB l) := fun x hx => h x (srt_mem.1 hx)
theorem okL_dd {l : List Bd} (h : okL l) : okL (dd l) := fun x hx => h x (dd_sub hx)
theorem okL_of {l : List Bd} (h : okL l) : okL (l.map fun b => ⟨b.name, b.v.of⟩) := by
 intro x hx
 obtain ⟨b, hb, rfl⟩ := List.mem_map.1 hx
 exact okV_of (h b hb)
theorem clean_ok {e : En} (h : okL e.binds) : okL e.clean.binds := by
 unfold En.clean
 split
 . exact okL_of (okL_dd (okL_srt h))
 . intro x hx; cases hx
theorem clean_len (e : En) : e.clean.binds.length <= e.binds.length := by
 unfold En.clean
 split
 . show (List.map _ _).length <= _
   rw [List.length_map]
   have := dd_len (srt ltB e.binds)
   rw [srt_length] at this; exact this
 . exact Nat.zero_le _
def FEClean : List Ar -> Option Rs
 | [.agg [.d (.v (.bool e0)), .d (.lst 9 n0 f0)]] => some ⟨(n0 <= 1099511627776 /\ RowsOk n0 f0), .va (En.ar (En.clean (⟨e0, gBs n0 f0⟩ : En))), []⟩
 | _ => none
theorem fcEClean : FC Tryz.prog 88 FEClean := by
 intro xs pre r us h hp
 unfold FEClean at h
 split at h
 . rename_i e0 n0 f0
   cases h
   have hp0 := hp
   refine FCat.deep (ys := [.agg [.d (.v (.bool e0)), .d (.lst 9 n0 (rwB (gBs n0 f0)))]]) ?_ ?_
   . repeat' (first | exact trivial | exact rfl | exact DvE.refl _ | refine ⟨?_, ?_⟩ | fail)
     all_goals first | exact canonB hp0.2.h
   refine fcat tys_ok (l := [(125, ⟨[], FBClone⟩), (126, ⟨[true], FSortF⟩), (128, ⟨[true], FCompact⟩), (40, ⟨[], FVCleanV⟩), (127, ⟨[], FLess⟩), (129, ⟨[], FSameN⟩)]) ⟨fcBClone, fcSortF, fcCompact, fcVCleanV, fcLess, fcSameN, trivial⟩ Tryz.func88 rfl (by kernel_rfl) true ?_
   have hn := hp0.1
   have hL := okL_rows hp0.2
   have hlen := gBs_length n0 f0
   generalize gBs n0 f0 = L at *
   clear hp hp0
   subst hlen
   have hok : ∀ (H : Nat -> Bd) (i : Nat), i < L.length -> rowSB (bdC (H i)) := fun H i _ => rowSB_bdC _
   have hrow := okL_row hL
   repeat' (first | exact trivial | (with_reducible first | exact (hok _) | exact hrow) | refine ⟨?_, ?_⟩ | intro _)
   all_goals first | (with_reducible apply qq) | (conv => whnf)
   all_goals first | exact hn | exact Nat.le_refl _ | rfl | skip
   . rw [show e0 = false by simpa using ‹(!e0) = true›]; rfl
   . rw [show e0 = false by simpa using ‹(!e0) = true›]; rfl
   obtain rfl : e0 = true := by simpa using ‹(!e0) = false›
   generalize hD : dd (gBs L.length fun k => bdC (put (gF (rwB (gBs L.length (rwB L)))) 0 (srt ltB (gBs L.length (rwB (gBs L.length (rwB L))))) k)) = D
   have hD2 : D = dd (srt ltB L) := by
    rw [<- hD, gBs_row, gBs_row, srt_rows]
   clear hD
   have hC : En.clean ⟨true, L⟩ = ⟨true, D.map fun b => ⟨b.name, b.v.of⟩⟩ := by rw [hD2]; rfl
   have hDl : D.length <= L.length := by have := dd_len (srt ltB L); rw [srt_length] at this; rw [hD2]; exact this
   have hDo : okL D := by rw [hD2]; exact okL_dd (okL_srt hL)
   refine loop_ok tys_ok (l := [(125, ⟨[], FBClone⟩), (126, ⟨[true], FSortF⟩), (128, ⟨[true], FCompact⟩), (40, ⟨[], FVCleanV⟩), (127, ⟨[], FLess⟩), (129, ⟨[], FSameN⟩)]) ⟨fcBClone, fcSortF, fcCompact, fcVCleanV, fcLess, fcSameN, trivial⟩ (by kernel_rfl) (X := Nat)
    (fun i => ⟨[(19, vx (.int .i64 i)), (18, vx (.int .i64 D.length)), (17, .va (.c (.osl 0 9 0 D.length))), (3, .va (.c (.osl 0 9 0 D.length))), (2, .va (.c (.own 1 0)))], [(0, .row 9 D.length fun k => bdC (cln D i k)), (1, .cells [.d (bo false), .d (.v (.slice none 0 0))])], 2, 34⟩)
    (fun i => D.length - i) (fun i => i <= D.length) [] [] (fun i _ _ => i + 1) [0, 1] [3, 1] 0 0 0 ?_ ?_ ?_
   . exact Nat.zero_le _
   . repeat' (first | exact trivial | exact rfl | (intro _ _; exact rfl) | refine ⟨?_, ?_⟩ | fail)
     all_goals trace_state
   . rintro i k1
     rcases Nat.lt_or_ge i D.length with hi | hi
     . have hne : decide ((i : Int) < (D.length : Int)) = true := decide_eq_true (by omega)
       have ho0 := okV_of (okL_at hDo hi)
       have ho1 := okL_at hDo hi
       repeat' (first | exact trivial | refine ⟨?_, ?_⟩ | intro _)
       all_goals first | (with_reducible apply qq) | (conv => whnf)
       all_goals first | (exact absurd (hne.symm.trans ‹_ = false›) (by decide)) | skip
       all_goals (try simp only [Int.toNat_natCast, Nat.zero_add, cln_at])
       all_goals first | omega | rfl | exact ho1.1.1 | (have hq := ho1.2; unfold Sp.inR Cg.inR at hq; omega) | (exact congrArg (Value.int .i64) (by first | (rw [wI_id _ (by omega) (by omega)]; omega) | omega | (dsimp only; omega))) | (simp only [gN_lst]; exact cln_step rfl _)
     . have hne : decide ((i : Int) < (D.length : Int)) = false := decide_eq_false (by omega)
       obtain rfl : i = D.length := Nat.le_antisymm k1 hi
       repeat' (first | exact trivial | refine ⟨?_, ?_⟩ | intro _)
       all_goals first | (with_reducible apply qq) | (conv => whnf)
       all_goals first | (exact absurd (hne.symm.trans ‹_ = true›) (by decide)) | skip
       all_goals (try rw [hC])
       all_goals first | rfl | omega | exact (List.length_map _).symm | (rename_i k hk; show bdC (cln D D.length (0 + k)) = bdC (atB _ k); rw [Nat.zero_add, atB_map _ _ (by omega)]; unfold cln; rw [if_pos (by omega)]) | (rename_i k hk; show bdC (cln D D.length k) = bdC (atB _ k); rw [atB_map _ _ (by omega)]; unfold cln; rw [if_pos (by omega)])
 . cases h
theorem cfL_eq : ∀ (x y : List UInt8), (cfL x y = 0) ↔ x = y
 | [], [] => by simp [cfL, Lib.compareBytes]
 | [], _ :: _ => by simp [cfL, Lib.compareBytes]
 | _ :: _, [] => by simp [cfL, Lib.compareBytes]
 | a :: x, b :: y => by
   have ih := cfL_eq x y
   unfold cfL at ih ⊢
   rw [Lib.compareBytes]
   split
   . rename_i h
     constructor
     . intro h; omega
     . intro h; cases h; exact absurd h (UInt8.lt_irrefl _)
   . split
     . rename_i h
       constructor
       . intro h; omega
       . intro h; cases h; exact absurd h (UInt8.lt_irrefl _)
     . rename_i h1 h2
       have : a = b := UInt8.le_antisymm (UInt8.not_lt.1 h2) (UInt8.not_lt.1 h1)
       subst this
       rw [ih]; simp
theorem seg_atB (L : List Bd) : seg (atB L) 0 L.length = L := by
 apply List.ext_getElem
 . rw [seg_length]; omega
 . intro i h1 h2
   have := seg_getD (g := atB L) (a := 0) (b := L.length) (k := i) (by omega)
   rw [List.getD_eq_getElem?_getD, List.getElem?_eq_getElem h1, Nat.zero_add] at this
   unfold atB at this
   rw [List.getD_eq_getElem?_getD, List.getElem?_eq_getElem h2] at this
   exact this
def lowN (L : List Bd) (s : ByteArray) : Nat := L.countP fun b => ltB b ⟨s, Vl.zero⟩
def foundN (L : List Bd) (s : ByteArray) : Bool := decide (lowN L s < L.length) && (cfL (atB L (lowN L s)).name.data.toList s.data.toList == 0)
theorem low_of {L : List Bd} {s : ByteArray} {i : Nat} (hi : i <= L.length) (h1 : ∀ k, k < i -> ltB (atB L k) ⟨s, Vl.zero⟩ = true) (h2 : ∀ k, i <= k -> k < L.length -> ltB (atB L k) ⟨s, Vl.zero⟩ = false) : lowN L s = i := by
 unfold lowN
 conv => lhs; rw [<- seg_atB L, seg_app (atB L) (Nat.zero_le i) hi, List.countP_append]
 rw [List.countP_eq_length.2, List.countP_eq_zero.2, seg_length]
 . omega
 . intro x hx
   obtain ⟨k, k1, k2, rfl⟩ := mem_seg.1 hx
   rw [h2 k k1 k2]; exact Bool.false_ne_true
 . intro x hx
   obtain ⟨k, k1, k2, rfl⟩ := mem_seg.1 hx
   exact h1 k k2
def FFindC : List Ar -> Option Rs
 | [.agg [.d (.v (.string x0)), .d (.v (.bool _)), .d (.v (.int .i64 _)), .d (.v (.int .i64 _)), .d (.v (.bool _)), .d (.v (.int .i64 _)), .d (.v (.int .i64 _)), .d (.v (.bool _)), .d (.lst 1 _ _)], .c (.d (.v (.string x1)))] => some ⟨True, .va (.c (.d (it (cfL x0.data.toList x1.data.toList)))), []⟩
 | _ => none
theorem fcFindC : FC Tryz.prog 131 FFindC := by
 intro xs pre r us h hp
 unfold FFindC at h
 split at h
 . rename_i x0 s0 l0 h0 b0 m0 r0 z0 n0 f0 x1
   cases h
   refine fcat tys_ok (l := [(111, ⟨[], FStrCmp⟩)]) ⟨fcStrCmp, trivial⟩ Tryz.func131 rfl (by kernel_rfl) false ?_
   repeat' (first | exact trivial | refine ⟨?_, ?_⟩ | intro _)
   all_goals first | (with_reducible apply qq) | (conv => whnf)
   all_goals grind
 . cases h
abbrev gFind : List Cv -> Option Gs := mkFv (sums [(131, ⟨[], FFindC⟩)]) 131 []
def FBSearch : List Ar -> Option Rs
 | [.c (.d (.lst 9 n0 f0)), .c (.d (.v (.string x1))), .fv g2] => some ⟨(n0 <= 1099511627776 /\ RowsOk n0 f0) /\ (Std ltB (gBs n0 f0) /\ g2 = gFind), .tup [.c (.d (it (lowN (gBs n0 f0) x1 : Nat))), .c (.d (bo (foundN (gBs n0 f0) x1)))], []⟩
 | _ => none
theorem fcBSearch : FC Tryz.prog 130 FBSearch := by
 intro xs pre r us h hp
 unfold FBSearch at h
 split at h
 . rename_i n0 f0 x1 g2
   cases h
   obtain ⟨hp0, hp1⟩ := hp
   refine FCat.deep (ys := [.c (.d (.lst 9 n0 (rwB (gBs n0 f0)))), .c (.d (.v (.string x1))), .fv g2]) ?_ ?_
   . repeat' (first | exact trivial | exact rfl | exact DvE.refl _ | refine ⟨?_, ?_⟩ | fail)
     all_goals first | first | exact canonB hp0.2.h | exact (canonBo hp0.2.h).2.2
   refine fcat tys_ok (l := []) trivial Tryz.func130 rfl (by kernel_rfl) false ?_
   obtain ⟨hs, rfl⟩ := hp1
   have hn := hp0.1
   have hlen := gBs_length n0 f0
   generalize gBs n0 f0 = L at *
   clear hp0
   subst hlen
   rw [<- seg_atB L] at hs
   have hdef : ∀ k, ltB (atB L k) ⟨x1, Vl.zero⟩ = decide (cfL (atB L k).name.data.toList x1.data.toList < 0) := fun _ => rfl
   generalize hp : (fun k => ltB (atB L k) ⟨x1, Vl.zero⟩) = p
   have hpd : ∀ k, p k = decide (cfL (atB L k).name.data.toList x1.data.toList < 0) := fun k => by rw [<- hp]; rfl
   have hm : ∀ k q, k <= q -> q < L.length -> p q = true -> p k = true := fun k q h1 h2 h3 => by
    rw [<- hp] at h3 ⊢; exact wkB.lt1 (std_le wkB hs (Nat.zero_le _) h1 h2) h3
   have hm2 : ∀ k q, q <= k -> k < L.length -> p q = false -> p k = false := fun k q h1 h2 h3 => by
    rw [<- hp] at h3 ⊢; exact wkB.le1 (std_le wkB hs (Nat.zero_le _) h1 h2) h3
   have hlow : ∀ i, i <= L.length -> (∀ k, k < i -> p k = true) -> (∀ k, i <= k -> k < L.length -> p k = false) -> lowN L x1 = i := fun i h1 h2 h3 => by
    rw [<- hp] at h2 h3; exact low_of h1 h2 h3
   clear hp hdef
   repeat' (first | exact trivial | refine ⟨?_, ?_⟩ | intro _)
   all_goals first | (with_reducible apply qq) | (conv => whnf)
   refine loop_ok tys_ok (l := []) trivial (by kernel_rfl) (X := Nat × Nat)
    (fun x => ⟨[(9, vx (.int .i64 x.1)), (10, vx (.int .i64 x.2)), (0, .va (.c (.d (.lst 9 L.length (rwB L))))), (1, vx (.string x1)), (2, .va (.c (.fv gFind))), (8, vx (.int .i64 L.length))], [], 0, 49⟩)
    (fun x => x.2 - x.1) (fun x => x.1 <= x.2 /\ x.2 <= L.length /\ (∀ k, k < x.1 -> p k = true) /\ (∀ k, x.2 <= k -> k < L.length -> p k = false)) [] []
    (fun x _ _ => if p ((x.1 + x.2) / 2) = true then ((x.1 + x.2) / 2 + 1, x.2) else (x.1, (x.1 + x.2) / 2)) [] [] 0 0 (0, L.length) ?_ ?_ ?_
   . exact ⟨Nat.zero_le _, Nat.le_refl _, fun k h => absurd h (Nat.not_lt_zero k), fun k h1 h2 => absurd h1 (Nat.not_le_of_lt h2)⟩
   . repeat' (first | exact trivial | exact rfl | (intro _ _; exact rfl) | refine ⟨?_, ?_⟩ | fail)
   . rintro ⟨i, j⟩ ⟨k2, k3, k4, k5⟩
     dsimp only at k2 k3 k4 k5
     rcases Nat.lt_or_ge i j with hij | hij
     . have hne : decide ((i : Int) < (j : Int)) = true := decide_eq_true (by omega)
       have hh : IntKind.wrap .i64 ((IntKind.wrap .u64 (IntKind.wrap .i64 ((i : Int) + (j : Int)))).fdiv (2 ^ min (Int.toNat 1) (IntKind.bits .u64))) = (((i + j) / 2 : Nat) : Int) := hlf (by omega)
       have hq1 : i <= (i + j) / 2 := by omega
       have hq2 : (i + j) / 2 < j := by omega
       generalize hq : (i + j) / 2 = q at *
       cases hc : p q with
       | true =>
         repeat' (first | exact trivial | refine ⟨?_, ?_⟩ | intro _)
         all_goals first | (with_reducible apply qq) | (conv => whnf)
         all_goals first | (exact absurd (hne.symm.trans ‹_ = false›) (by decide)) | skip
         all_goals first | (have hd := ‹decide (cfL _ _ < 0) = false›; simp only [hh, Int.toNat_natCast, Nat.zero_add] at hd; exact absurd ((hc.symm.trans (hpd q)).trans hd) (by decide)) | skip
         all_goals (try simp only [hh, hq, hc, if_true, Int.toNat_natCast, Nat.zero_add])
         all_goals first | rfl | omega | (dsimp only; omega) | (exact congrArg (Value.int .i64) (by first | (rw [wI_id _ (by omega) (by omega)]; omega) | omega | (dsimp only; omega))) | (rename_i kk h1; simp only [hq, hc, if_true] at h1; exact hm _ q (by omega) (by omega) hc) | (rename_i kk h1 h2; simp only [hq, hc, if_true] at h1 h2; exact k5 _ h1 h2)
       | false =>
         repeat' (first | exact trivial | refine ⟨?_, ?_⟩ | intro _)
         all_goals first | (with_reducible apply qq) | (conv => whnf)
         all_goals first | (exact absurd (hne.symm.trans ‹_ = false›) (by decide)) | skip
         all_goals first | (have hd := ‹decide (cfL _ _ < 0) = true›; simp only [hh, Int.toNat_natCast, Nat.zero_add] at hd; exact absurd ((hc.symm.trans (hpd q)).trans hd) (by decide)) | skip
         all_goals (try simp only [hh, hq, hc, if_false, Bool.false_eq_true, Int.toNat_natCast, Nat.zero_add])
         all_goals first | rfl | omega | (dsimp only; omega) | (exact congrArg (Value.int .i64) (by first | (rw [wI_id _ (by omega) (by omega)]; omega) | omega | (dsimp only; omega))) | (rename_i kk h1; simp only [hq, hc, if_false, Bool.false_eq_true] at h1; exact k4 _ h1) | (rename_i kk h1 h2; simp only [hq, hc, if_false, Bool.false_eq_true] at h1 h2; exact hm2 _ q (by omega) h2 hc)
     . have hne : decide ((i : Int) < (j : Int)) = false := decide_eq_false (by omega)
       obtain rfl : i = j := by omega
       have hl := hlow i k3 k4 k5
       repeat' (first | exact trivial | refine ⟨?_, ?_⟩ | intro _)
       all_goals first | (with_reducible apply qq) | (conv => whnf)
       all_goals first | (exact absurd (hne.symm.trans ‹_ = true›) (by decide)) | skip
       all_goals (try dsimp only)
       all_goals (try simp only [Int.toNat_natCast, Nat.zero_add])
       all_goals (try unfold foundN)
       all_goals (try rw [hl])
       all_goals first | omega | rfl | (have hd := of_decide_eq_true ‹decide (((i, i).1 : Int) < (L.length : Int)) = true›; exact hd) | (have hd := of_decide_eq_true ‹decide (((i, i).1 : Int) < _) = true›; rw [show decide (i < L.length) = true from decide_eq_true (by dsimp only at hd; omega)]; rfl) | (have hd := of_decide_eq_false ‹decide (((i, i).1 : Int) < (L.length : Int)) = false›; rw [show decide (i < L.length) = false from decide_eq_false (by dsimp only at hd; omega)]; rfl)
 . cases h
def FEFind : List Ar -> Option Rs
 | [.agg [.d (.v (.bool _)), .d (.lst 9 n0 f0)], .c (.d (.v (.string x1)))] => some ⟨(n0 <= 1099511627776 /\ RowsOk n0 f0) /\ (Std ltB (gBs n0 f0)), .tup [.c (.d (it (lowN (gBs n0 f0) x1 : Nat))), .c (.d (bo (foundN (gBs n0 f0) x1)))], []⟩
 | _ => none
theorem fcEFind : FC Tryz.prog 89 FEFind := by
 intro xs pre r us h hp
 unfold FEFind at h
 split at h
 . rename_i e0 n0 f0 x1
   cases h
   obtain ⟨hp0, hp1⟩ := hp
   refine FCat.deep (ys := [.agg [.d (.v (.bool e0)), .d (.lst 9 n0 (rwB (gBs n0 f0)))], .c (.d (.v (.string x1)))]) ?_ ?_
   . repeat' (first | exact trivial | exact rfl | exact DvE.refl _ | refine ⟨?_, ?_⟩ | fail)
     all_goals first | first | exact canonB hp0.2.h | exact (canonBo hp0.2.h).2.2
   refine fcat tys_ok (l := [(130, ⟨[], FBSearch⟩), (131, ⟨[], FFindC⟩)]) ⟨fcBSearch, fcFindC, trivial⟩ Tryz.func89 rfl (by kernel_rfl) false ?_
   have hn := hp0.1
   have hL := okL_rows hp0.2
   have hlen := gBs_length n0 f0
   generalize gBs n0 f0 = L at *
   clear hp0
   subst hlen
   have hrow := okL_row hL
   have hb := gBs_row L
   repeat' (first | exact trivial | (with_reducible exact hrow) | refine ⟨?_, ?_⟩ | intro _)
   all_goals first | (with_reducible apply qq) | (conv => whnf)
   all_goals (try simp only [hb])
   all_goals first | exact hn | exact hp1 | exact Nat.le_refl _ | rfl
 . cases h
namespace Vl
end Vl
theorem std_dd {l : List Bd} (h : Std ltB l) : Std ltB (dd l) := by
 have hA : ∀ (r : List Bd) (p : Bd), Std ltB (p :: r) -> Std ltB (p :: ddA p r) := by
  intro r
  induction r with
  | nil => intro p h; exact h
  | cons y r ih =>
    intro p h
    have h1 := List.pairwise_cons.1 h
    have h2 := List.pairwise_cons.1 h1.2
    rw [ddA]
    split
    . have := List.pairwise_cons.1 (ih y h1.2)
      exact List.pairwise_cons.2 ⟨fun x hx => h1.1 x (List.mem_cons_of_mem _ (ddA_sub _ _ hx)), this.2⟩
    . have h3 := ih y h1.2
      refine List.pairwise_cons.2 ⟨fun x hx => ?_, h3⟩
      rcases List.mem_cons.1 hx with rfl | hx
      . exact h1.1 _ List.mem_cons_self
      . exact h1.1 x (List.mem_cons_of_mem _ (ddA_sub _ _ hx))
 cases l with
 | nil => exact h
 | cons p r => exact hA r p h
theorem std_of {l : List Bd} (h : Std ltB l) : Std ltB (l.map fun b => ⟨b.name, b.v.of⟩) := by
 unfold Std
 rw [List.pairwise_map]
 exact h
theorem clean_std (e : En) : Std ltB e.clean.binds := by
 unfold En.clean
 split
 . exact std_of (std_dd (srt_srt wkB _))
 . exact List.Pairwise.nil
theorem found_lt {L : List Bd} {s : ByteArray} (h : foundN L s = true) : lowN L s < L.length := by
 unfold foundN at h
 rw [Bool.and_eq_true] at h
 exact of_decide_eq_true h.1
namespace En
def get (e : En) (s : ByteArray) : Vl := if foundN e.clean.binds s = true then (atB e.clean.binds (lowN e.clean.binds s)).v else Vl.zero
end En
def FEGet : List Ar -> Option Rs
 | [.agg [.d (.v (.bool e0)), .d (.lst 9 n0 f0)], .c (.d (.v (.string x1)))] => some ⟨(n0 <= 1099511627776 /\ RowsOk n0 f0), .va (Vl.ar (En.get (⟨e0, gBs n0 f0⟩ : En) x1)), []⟩
 | _ => none
theorem fcEGet : FC Tryz.prog 51 FEGet := by
 intro xs pre r us h hp
 unfold FEGet at h
 split at h
 . rename_i e0 n0 f0 x1
   cases h
   have hp0 := hp
   refine FCat.deep (ys := [.agg [.d (.v (.bool e0)), .d (.lst 9 n0 (rwB (gBs n0 f0)))], .c (.d (.v (.string x1)))]) ?_ ?_
   . repeat' (first | exact trivial | exact rfl | exact DvE.refl _ | refine ⟨?_, ?_⟩ | fail)
     all_goals first | exact canonB hp0.2.h
   refine fcat tys_ok (l := [(88, ⟨[], FEClean⟩), (89, ⟨[], FEFind⟩)]) ⟨fcEClean, fcEFind, trivial⟩ Tryz.func51 rfl (by kernel_rfl) true ?_
   have hn := hp0.1
   have hL := okL_rows hp0.2
   have hlen := gBs_length n0 f0
   generalize gBs n0 f0 = L at *
   clear hp0
   subst hlen
   have hrow := okL_row hL
   have hb := gBs_row L
   have hc := clean_ok (e := ⟨e0, L⟩) hL
   have hcr := okL_row hc
   have hcl := clean_len ⟨e0, L⟩
   have hcs := clean_std ⟨e0, L⟩
   have hcn : (En.clean ⟨e0, L⟩).binds.length <= 1099511627776 := Nat.le_trans hcl hn
   repeat' (first | exact trivial | refine ⟨?_, ?_⟩ | intro _)
   all_goals first | (with_reducible apply qq) | (conv => whnf)
   all_goals (try simp only [gBs_row, Bool.not_eq_true', Bool.not_eq_false', Int.toNat_natCast, Nat.zero_add] at *)
   all_goals first | exact hrow | exact hcr | exact hn | exact hcn | exact hcs | (have hd := ‹foundN _ _ = true›; have hlt := found_lt hd; first | omega | (unfold En.get; rw [if_pos hd]; done) | (unfold En.get; rw [if_pos hd]; rfl)) | (have hd := ‹foundN _ _ = false›; unfold En.get; rw [if_neg (by rw [hd]; exact Bool.false_ne_true)]; rfl) | rfl
 . cases h
open Go.RowKit Go.Lib Go.Sort
structure Gl where
 name : ByteArray
 ptr : Bool
 size : Int
 at_ : Int
instance : Inhabited Gl := ⟨⟨ByteArray.empty, false, 0, 0⟩⟩
abbrev Gl.ar (x : Gl) : Ar := .agg [.d (st x.name), .d (bo x.ptr), .d (it x.size), .d (it x.at_)]
abbrev glC (x : Gl) : List DV := [st x.name, bo x.ptr, it x.size, it x.at_]
def Gl.ok (x : Gl) : Prop := rI x.size /\ rI x.at_
def gGl (l : List DV) : Gl := match l with
 | [.v (.string s), .v (.bool b), .v (.int .i64 i), .v (.int .i64 j)] => ⟨s, b, i, j⟩
 | _ => default
def atG (l : List Gl) (i : Nat) : Gl := l.getD i default
abbrev rwG (l : List Gl) : Nat -> List DV := fun i => glC (atG l i)
abbrev lstG (l : List Gl) : DV := .lst 4 l.length (rwG l)
def gGs (n : Nat) (f : Nat -> List DV) : List Gl := (List.range n).map fun i => gGl (f i)
theorem gGs_length (n : Nat) (f : Nat -> List DV) : (gGs n f).length = n := by simp [gGs]
theorem atG_gGs {n i : Nat} {f : Nat -> List DV} (h : i < n) : atG (gGs n f) i = gGl (f i) := by simp [atG, gGs, List.getD_eq_getElem?_getD, h]
theorem gGs_row (l : List Gl) : gGs l.length (rwG l) = l := by
 unfold gGs
 apply List.ext_getElem
 . simp
 . intro i h1 h2; simp [gGl, atG, List.getD_eq_getElem?_getD, h2]
structure RowsG (n : Nat) (f : Nat -> List DV) : Prop where
 h : ∀ i, i < n -> f i = glC (gGl (f i)) /\ (gGl (f i)).ok
theorem rowG_eq {n : Nat} {f : Nat -> List DV} (h : RowsG n f) : ∀ i, i < n -> f i = rwG (gGs n f) i := fun i hi => by
 show f i = glC (atG (gGs n f) i)
 rw [atG_gGs hi]; exact (h.h i hi).1
def okG (l : List Gl) : Prop := ∀ i, i < l.length -> (atG l i).ok
theorem okG_rows {n : Nat} {f : Nat -> List DV} (h : RowsG n f) : okG (gGs n f) := fun i hi => by
 rw [gGs_length] at hi; rw [atG_gGs hi]; exact (h.h i hi).2
theorem rows_okG {l : List Gl} (h : okG l) : RowsG l.length (rwG l) := ⟨fun i hi => ⟨rfl, h i hi⟩⟩
def ixG (G : List Gl) (s : ByteArray) : Int := match G.findIdx? (fun x => x.name.toList == s.toList) with
 | some i => i
 | none => -1
theorem mem_atG {l : List Gl} {x : Gl} (h : x ∈ l) : ∃ i, i < l.length /\ atG l i = x := by
 obtain ⟨i, hi, e⟩ := List.mem_iff_getElem.1 h
 exact ⟨i, hi, by unfold atG; rw [List.getD_eq_getElem?_getD, List.getElem?_eq_getElem hi]; exact e⟩
theorem ixG_some {s : ByteArray} {L : List Gl} {i : Nat} (hi : i < L.length) (h1 : ∀ k, k < i -> ((atG L k).name.toList == s.toList) = false) (h2 : ((atG L i).name.toList == s.toList) = true) : ixG L s = i := by
 have hA : ∀ k (h : k < L.length), atG L k = L[k] := fun k h => by unfold atG; rw [List.getD_eq_getElem?_getD, List.getElem?_eq_getElem h]; rfl
 unfold ixG
 have : L.findIdx? (fun x => x.name.toList == s.toList) = some i := by
  rw [List.findIdx?_eq_some_iff_getElem]
  refine ⟨hi, by rw [<- hA i hi]; exact h2, fun j hj => ?_⟩
  rw [<- hA j (by omega), h1 j hj]; exact Bool.false_ne_true
 rw [this]
theorem ixG_none {s : ByteArray} {L : List Gl} (h1 : ∀ k, k < L.length -> ((atG L k).name.toList == s.toList) = false) : ixG L s = -1 := by
 unfold ixG
 have : L.findIdx? (fun x => x.name.toList == s.toList) = none := by
  rw [List.findIdx?_eq_none_iff]
  intro x hx
  obtain ⟨k, hk, rfl⟩ := mem_atG hx
  exact h1 k hk
 rw [this]
theorem ixG_lt (L : List Gl) (s : ByteArray) : -1 <= ixG L s /\ ixG L s < L.length := by
 unfold ixG
 split
 . rename_i i h
   rw [List.findIdx?_eq_some_iff_getElem] at h
   have := h.1; omega
 . omega
def glI (G : List Gl) (s : ByteArray) : Bool := !decide (ixG G s < 0)
def glG (G : List Gl) (s : ByteArray) : Gl := if ixG G s < 0 then ⟨⟨#[]⟩, false, 0, 0⟩ else atG G (ixG G s).toNat
def FGlobC : List Ar -> Option Rs
 | [.agg [.d (.v (.string x0)), .d (.v (.bool _)), .d (.v (.int .i64 _)), .d (.v (.int .i64 _))], .rp [.v (.string x1)]] => some ⟨True, .va (.c (.d (bo (x0.toList == x1.toList)))), []⟩
 | _ => none
theorem fcGlobC : FC Tryz.prog 58 FGlobC := by
 intro xs pre r us h hp
 unfold FGlobC at h
 split at h
 . rename_i x0 b0 i0 j0 x1
   cases h
   refine fcat tys_ok (l := []) trivial Tryz.func58 rfl (by kernel_rfl) false ?_
   repeat' (first | exact trivial | refine ⟨?_, ?_⟩ | intro _)
   all_goals first | (with_reducible apply qq) | (conv => whnf)
   all_goals first | rfl
 . cases h
abbrev gName (nm : ByteArray) : List Cv -> Option Gs := mkFv (sums [(58, ⟨[], FGlobC⟩)]) 58 [.rp [.v (.string nm)]]
def FIxG (nm : ByteArray) : List Ar -> Option Rs
 | [.c (.d (.lst 4 n0 f0)), .fv g1] => some ⟨(n0 <= 1099511627776 /\ RowsG n0 f0) /\ (g1 = gName nm /\ True), .va (.c (.d (it (ixG (gGs n0 f0) nm)))), []⟩
 | _ => none
theorem fcIxG (nm : ByteArray) : FC Tryz.prog 57 (FIxG nm) := by
 intro xs pre r us h hp
 unfold FIxG at h
 split at h
 . rename_i n0 f0 g1
   cases h
   obtain ⟨hp0, hp1⟩ := hp
   refine FCat.of_eq (as' := [.c (.d (.lst 4 n0 (rwG (gGs n0 f0)))), .fv g1]) ?_ rfl rfl ?_
   . repeat' (first | exact trivial | exact rfl | refine ⟨?_, ?_⟩ | fail)
     all_goals first | exact rowG_eq hp0.2 | exact hp0.2 | exact hp1.2 | exact hp2.2 | (intro i hi; exact (hp0.2 i hi).1) | (intro i hi; exact (hp1.2 i hi).1) | (intro i hi; exact (hp2.2 i hi).1) | grind
   refine fcat tys_ok (l := []) trivial Tryz.func57 rfl (by kernel_rfl) false ?_
   obtain ⟨rfl, _⟩ := hp1
   have hn := hp0.1
   have hL := okG_rows hp0.2
   have hlen := gGs_length n0 f0
   generalize gGs n0 f0 = L at *
   clear hp0
   subst hlen
   repeat' (first | exact trivial | refine ⟨?_, ?_⟩ | intro _)
   all_goals first | (with_reducible apply qq) | (conv => whnf)
   refine loop_ok tys_ok (l := []) trivial (by kernel_rfl) (X := Nat)
    (fun i => ⟨[(8, vx (.int .i64 i)), (0, .va (.c (.d (lstG L)))), (1, .va (.c (.fv (gName nm)))), (7, vx (.int .i64 L.length))], [], 0, 19⟩)
    (fun i => L.length - i) (fun i => i <= L.length /\ ∀ k, k < i -> ((atG L k).name.toList == nm.toList) = false) [] []
    (fun i _ _ => i + 1) [] [] 0 0 0 ?_ ?_ ?_
   . exact ⟨Nat.zero_le _, fun k h => absurd h (Nat.not_lt_zero k)⟩
   . repeat' (first | exact trivial | exact rfl | (intro _ _; exact rfl) | refine ⟨?_, ?_⟩ | fail)
   . rintro i ⟨k1, k2⟩
     rcases Nat.lt_or_ge i L.length with hi | hi
     . have hne : decide ((i : Int) < (L.length : Int)) = true := decide_eq_true (by omega)
       have hib : (0 : Int) <= (i : Int) /\ (i : Int) < (L.length : Int) := by omega
       cases hq : ((atG L (Int.toNat (i : Int))).name.toList == nm.toList) with
       | true =>
         have hv : ixG L nm = i := ixG_some hi k2 (by rw [Int.toNat_natCast] at hq; exact hq)
         repeat' (first | exact trivial | (with_reducible first | exact n1 | exact n2 | exact hib | exact hib.1 | exact hib.2 | exact nx hne | exact nx hq) | refine ⟨?_, ?_⟩ | intro _)
         all_goals first | (with_reducible apply qq) | (conv => whnf)
         all_goals first | omega | (rw [hv]; done)
       | false =>
         have hk : ∀ k, k < i + 1 -> ((atG L k).name.toList == nm.toList) = false := fun k h => by
          rcases Nat.lt_or_ge k i with h1 | h1
          . exact k2 k h1
          . rw [show k = i by omega]; rw [Int.toNat_natCast] at hq; exact hq
         repeat' (first | exact trivial | (with_reducible first | exact n1 | exact n2 | exact hib | exact hib.1 | exact hib.2 | exact nx hne | exact nx hq) | refine ⟨?_, ?_⟩ | intro _)
         all_goals first | (with_reducible apply qq) | (conv => whnf)
         all_goals (try dsimp only)
         all_goals first | omega | exact hk _ ‹_› | rfl | (exact congrArg (Value.int .i64) (by first | (rw [wI_id _ (by omega) (by omega)]; omega) | omega | (dsimp only; omega)))
     . have hne : decide ((i : Int) < (L.length : Int)) = false := decide_eq_false (by omega)
       obtain rfl : i = L.length := by omega
       have hv : ixG L nm = -1 := ixG_none k2
       repeat' (first | exact trivial | (with_reducible first | exact n1 | exact n2 | exact nx hne) | refine ⟨?_, ?_⟩ | intro _)
       all_goals first | (with_reducible apply qq) | (conv => whnf)
       all_goals first | omega | (rw [hv]; done)
 . cases h
def FGlob : List Ar -> Option Rs
 | [.agg [.d (.lst 4 n0 f0), .d (.lst 5 _ _)], .c (.d (.v (.string x1)))] => some ⟨(n0 <= 1099511627776 /\ RowsG n0 f0), .tup [Gl.ar (glG (gGs n0 f0) x1), .c (.d (bo (glI (gGs n0 f0) x1)))], []⟩
 | _ => none
theorem fcGlob : FC Tryz.prog 28 FGlob := by
 intro xs pre r us h hp
 unfold FGlob at h
 split at h
 . rename_i n0 f0 c0 d0 x1
   cases h
   have hp0 := hp
   refine FCat.of_eq (as' := [.agg [.d (.lst 4 n0 (rwG (gGs n0 f0))), .d (.lst 5 c0 d0)], .c (.d (.v (.string x1)))]) ?_ rfl rfl ?_
   . repeat' (first | exact trivial | exact rfl | refine ⟨?_, ?_⟩ | fail)
     all_goals first | exact rowG_eq hp0.2 | (intro _ _; rfl) | exact hp0.2 | exact hp1.2 | exact hp2.2 | (intro i hi; exact (hp0.2 i hi).1) | (intro i hi; exact (hp1.2 i hi).1) | (intro i hi; exact (hp2.2 i hi).1) | grind
   refine fcat tys_ok (l := [(57, ⟨[], (FIxG x1)⟩), (58, ⟨[], FGlobC⟩)]) ⟨(fcIxG x1), fcGlobC, trivial⟩ Tryz.func28 rfl (by kernel_rfl) true ?_
   have hn := hp0.1
   have hL := okG_rows hp0.2
   have hlen := gGs_length n0 f0
   generalize gGs n0 f0 = L at *
   clear hp0
   subst hlen
   have hrw := rows_okG hL
   have hix := ixG_lt L x1
   repeat' (first | exact trivial | (with_reducible first | assumption) | refine ⟨?_, ?_⟩ | intro _)
   all_goals first | (with_reducible apply qq) | (conv => whnf)
   all_goals (try simp only [gGs_row] at *)
   all_goals first | ((with_reducible show _ = gName _); rfl) | (simp only [decide_eq_true_eq, decide_eq_false_iff_not] at *; omega) | (have hd := of_decide_eq_true ‹decide (ixG L x1 < 0) = true›; first | (unfold glG; rw [if_pos hd]; done) | (unfold glG; rw [if_pos hd]; rfl) | (unfold glI; rw [decide_eq_true hd]; rfl)) | (have hd := of_decide_eq_false ‹decide (ixG L x1 < 0) = false›; first | (unfold glG; rw [if_neg hd]; done) | (unfold glG; rw [if_neg hd]; rfl) | (unfold glI; rw [decide_eq_false hd]; rfl))
 . cases h
def needsI (op : Int) : Int := if op = 1 \/ op = 2 \/ op = 4 \/ op = 18 \/ op = 19 then 0 else if op = 3 \/ op = 20 \/ op = 5 \/ op = 6 then 1 else if 7 <= op /\ op <= 17 then 2 else -1
def FNeeds : List Ar -> Option Rs
 | [.c (.d (.v (.int .i64 i0)))] => some ⟨(-9223372036854775808 <= i0 /\ i0 < 9223372036854775808), .va (.c (.d (it (needsI i0)))), []⟩
 | _ => none
theorem fcNeeds : FC Tryz.prog 41 FNeeds := by
 intro xs pre r us h hp
 unfold FNeeds at h
 split at h
 . rename_i i0
   cases h
   have hp0 := hp
   refine fcat tys_ok (l := []) trivial Tryz.func41 rfl (by kernel_rfl) false ?_
   repeat' (first | exact trivial | refine ⟨?_, ?_⟩ | intro _)
   all_goals first | (with_reducible apply qq) | (conv => whnf)
   all_goals (simp only [beq_iff_eq, beq_eq_false_iff_ne, decide_eq_true_eq, decide_eq_false_iff_not, ne_eq] at *)
   all_goals first | omega | (refine congrArg (Value.int .i64) ?_; unfold needsI; (repeat' split) <;> omega)
 . cases h
end Go.Proofs.YtokjghkehojenaaGreat
namespace Go.Proofs.YtokjghkehojenaaGreat
open Go.Sx
open Go.RowKit Go.Lib Go.Sort
structure Sv where
 e : En
 v : Vl
abbrev Sv.ar (s : Sv) : Ar := .agg [.d (bo s.e.live), .d (lstB s.e.binds), .d (bo s.v.i.s.some), .d (it s.v.i.s.lo), .d (it s.v.i.s.hi), .d (bo s.v.i.c.some), .d (it s.v.i.c.m), .d (it s.v.i.c.r), .d (bo s.v.t.null), .d (lst s.v.t.names)]
structure Ky where
 name : ByteArray
 node : Int
structure Sd where
 k : Ky
 s : Sv
instance : Inhabited Ky := ⟨⟨ByteArray.empty, 0⟩⟩
theorem Ky.ext_iff' {a b : Ky} : a = b ↔ a.name = b.name /\ a.node = b.node := by
 cases a; cases b; simp
instance : DecidableEq Ky := fun a b => decidable_of_iff (a.name = b.name /\ a.node = b.node) Ky.ext_iff'.symm
def atD (l : List Sd) (i : Nat) : Sd := l.getD i ⟨⟨ByteArray.empty, 0⟩, ⟨⟨false, []⟩, Vl.zero⟩⟩
def Sv.zero : Sv := ⟨⟨false, []⟩, Vl.zero⟩
abbrev sdC (x : Sd) : List DV := [st x.k.name, it x.k.node, bo x.s.e.live, lstB x.s.e.binds, bo x.s.v.i.s.some, it x.s.v.i.s.lo, it x.s.v.i.s.hi, bo x.s.v.i.c.some, it x.s.v.i.c.m, it x.s.v.i.c.r, bo x.s.v.t.null, lst x.s.v.t.names]
instance : Inhabited Sd := ⟨⟨default, Sv.zero⟩⟩
abbrev rwD (l : List Sd) : Nat -> List DV := fun i => sdC (atD l i)
abbrev lstD (l : List Sd) : DV := .lst 12 l.length (rwD l)
def gSx (l : List DV) (j : Nat) : ByteArray := match l[j]? with
 | some (.v (.string s)) => s
 | _ => ByteArray.empty
def gBb (l : List DV) (j : Nat) : List Bd := match l[j]? with
 | some (.lst _ n f) => gBs n f
 | _ => []
def gNn (l : List DV) (j : Nat) : List ByteArray := match l[j]? with
 | some (.lst _ n f) => gN n f
 | _ => []
def gSd (l : List DV) : Sd := ⟨⟨gSx l 0, gI9 l 1⟩, ⟨⟨gB9 l 2, gBb l 3⟩, ⟨⟨⟨gB9 l 4, gI9 l 5, gI9 l 6⟩, ⟨gB9 l 7, gI9 l 8, gI9 l 9⟩⟩, ⟨gB9 l 10, gNn l 11⟩⟩⟩⟩
theorem gSd_sdC (x : Sd) : gSd (sdC x) = x := by
 obtain ⟨⟨n, j⟩, ⟨⟨e, b⟩, ⟨⟨⟨a1, a2, a3⟩, ⟨c1, c2, c3⟩⟩, ⟨z, l⟩⟩⟩⟩ := x
 show Sd.mk ⟨n, j⟩ ⟨⟨e, gBs b.length (rwB b)⟩, ⟨⟨⟨a1, a2, a3⟩, ⟨c1, c2, c3⟩⟩, ⟨z, gN l.length (fun i => [st (atS l i)])⟩⟩⟩ = _
 rw [gN_lst, gBs_row]
def gD (n : Nat) (f : Nat -> List DV) : List Sd := (List.range n).map fun i => gSd (f i)
theorem gD_length (n : Nat) (f : Nat -> List DV) : (gD n f).length = n := by simp [gD]
theorem atD_gD {n i : Nat} {f : Nat -> List DV} (h : i < n) : atD (gD n f) i = gSd (f i) := by
 simp [atD, gD, List.getD_eq_getElem?_getD, h]
theorem gD_row (l : List Sd) : gD l.length (rwD l) = l := by
 unfold gD
 apply List.ext_getElem
 . simp
 . intro i h1 h2; simp [gSd_sdC, atD, List.getD_eq_getElem?_getD, h2]
structure Sd.ok (x : Sd) : Prop where
 n : rI x.k.node
 l : okL x.s.e.binds
 v : okV x.s.v
 s : x.s.e.binds.length <= 1099511627776
structure rowOkD (l : List DV) : Prop where
 e : rowE l (sdC (gSd l))
 o : (gSd l).ok
theorem rowOkD_sdC {x : Sd} (h : x.ok) : rowOkD (sdC x) := ⟨by rw [gSd_sdC]; exact ⟨rfl, fun j a b ha hb => by rw [ha] at hb; cases hb; exact .refl _⟩, by rw [gSd_sdC]; exact h⟩
structure RowsD (n : Nat) (f : Nat -> List DV) : Prop where
 h : ∀ i, i < n -> rowOkD (f i)
theorem canonD {n : Nat} {f : Nat -> List DV} (h : ∀ i, i < n -> rowOkD (f i)) : DvE (.lst 12 n f) (.lst 12 n (rwD (gD n f))) :=
 .rows fun i hi => by show rowE (f i) (sdC (atD (gD n f) i)); rw [atD_gD hi]; exact (h i hi).e
def okD (l : List Sd) : Prop := ∀ x, x ∈ l -> x.ok
theorem mem_atD {l : List Sd} {x : Sd} (h : x ∈ l) : ∃ i, i < l.length /\ atD l i = x := by
 obtain ⟨i, hi, e⟩ := List.mem_iff_getElem.1 h
 exact ⟨i, hi, by unfold atD; rw [List.getD_eq_getElem?_getD, List.getElem?_eq_getElem hi]; exact e⟩
theorem atD_mem {l : List Sd} {i : Nat} (h : i < l.length) : atD l i ∈ l := by
 unfold atD; rw [List.getD_eq_getElem?_getD, List.getElem?_eq_getElem h]; exact List.getElem_mem h
theorem okD_rows {n : Nat} {f : Nat -> List DV} (h : RowsD n f) : okD (gD n f) := by
 intro x hx
 obtain ⟨i, hi, rfl⟩ := mem_atD hx
 rw [gD_length] at hi
 rw [atD_gD hi]; exact (h.h i hi).o
theorem okD_row {l : List Sd} (h : okD l) : RowsD l.length (rwD l) := ⟨fun i hi => rowOkD_sdC (h _ (atD_mem hi))⟩
abbrev kyC (k : Ky) : List DV := [st k.name, it k.node]
def gKy (l : List DV) : Ky := match l with
 | [.v (.string s), .v (.int .i64 i)] => ⟨s, i⟩
 | _ => default
def atK (l : List Ky) (i : Nat) : Ky := l.getD i default
abbrev rwK (l : List Ky) : Nat -> List DV := fun i => kyC (atK l i)
abbrev lstK (l : List Ky) : DV := .lst 2 l.length (rwK l)
def gKs (n : Nat) (f : Nat -> List DV) : List Ky := (List.range n).map fun i => gKy (f i)
theorem gKs_length (n : Nat) (f : Nat -> List DV) : (gKs n f).length = n := by simp [gKs]
theorem atK_gKs {n i : Nat} {f : Nat -> List DV} (h : i < n) : atK (gKs n f) i = gKy (f i) := by simp [atK, gKs, List.getD_eq_getElem?_getD, h]
theorem gKs_row (l : List Ky) : gKs l.length (rwK l) = l := by
 unfold gKs
 apply List.ext_getElem
 . simp
 . intro i h1 h2; simp [gKy, atK, List.getD_eq_getElem?_getD, h2]
structure RowsK (n : Nat) (f : Nat -> List DV) : Prop where
 h : ∀ i, i < n -> f i = kyC (gKy (f i))
theorem rowK_eq {n : Nat} {f : Nat -> List DV} (h : RowsK n f) : ∀ i, i < n -> f i = rwK (gKs n f) i := fun i hi => by
 show f i = kyC (atK (gKs n f) i)
 rw [atK_gKs hi]; exact h.h i hi
theorem canonKo {n : Nat} {f : Nat -> List DV} (h : RowsK n f) : icE (.ow 2 n f) (.ow 2 n (rwK (gKs n f))) :=
 ⟨rfl, rfl, fun i hi => by rw [rowK_eq h i hi]; exact ⟨rfl, fun j a b ha hb => by rw [ha] at hb; cases hb; exact .refl _⟩⟩
theorem rows_K (l : List Ky) : RowsK l.length (rwK l) := ⟨fun i hi => rfl⟩
abbrev eqK (a b : Ky) : Bool := a.name.toList == b.name.toList && (a.node == b.node && true)
theorem eqK_iff {a b : Ky} : eqK a b = true ↔ a = b := by
 unfold eqK
 rw [Bool.and_true, Bool.and_eq_true, seq_iff, decide_eq_true_eq, beq_iff_eq, Ky.ext_iff']
def hasKy (l : List Ky) (k : Ky) : Bool := decide (k ∈ l)
theorem mem_atK {l : List Ky} {x : Ky} (h : x ∈ l) : ∃ i, i < l.length /\ atK l i = x := by
 obtain ⟨i, hi, e⟩ := List.mem_iff_getElem.1 h
 exact ⟨i, hi, by unfold atK; rw [List.getD_eq_getElem?_getD, List.getElem?_eq_getElem hi]; exact e⟩
theorem atK_mem {l : List Ky} {i : Nat} (h : i < l.length) : atK l i ∈ l := by
 unfold atK; rw [List.getD_eq_getElem?_getD, List.getElem?_eq_getElem h]; exact List.getElem_mem h
def ixK (l : List Ky) (k : Ky) : Int := match l.findIdx? (fun x => eqK k x) with
 | some i => i
 | none => -1
theorem ixK_some {k : Ky} {L : List Ky} {i : Nat} (hi : i < L.length) (h1 : ∀ j, j < i -> eqK k (atK L j) = false) (h2 : eqK k (atK L i) = true) : ixK L k = i := by
 have hA : ∀ k (h : k < L.length), atK L k = L[k] := fun k h => by unfold atK; rw [List.getD_eq_getElem?_getD, List.getElem?_eq_getElem h]; rfl
 unfold ixK
 have : L.findIdx? (fun x => eqK k x) = some i := by
  rw [List.findIdx?_eq_some_iff_getElem]
  refine ⟨hi, by rw [<- hA i hi]; exact h2, fun j hj => ?_⟩
  rw [<- hA j (by omega), h1 j hj]; exact Bool.false_ne_true
 rw [this]
theorem ixK_none {k : Ky} {L : List Ky} (h1 : ∀ j, j < L.length -> eqK k (atK L j) = false) : ixK L k = -1 := by
 unfold ixK
 have : L.findIdx? (fun x => eqK k x) = none := by
  rw [List.findIdx?_eq_none_iff]
  intro x hx
  obtain ⟨j, hj, rfl⟩ := mem_atK hx
  exact h1 j hj
 rw [this]
theorem ixK_ge (L : List Ky) (k : Ky) : decide (ixK L k ≥ 0) = hasKy L k := by
 unfold ixK hasKy
 cases h : L.findIdx? (fun x => eqK k x) with
 | some i =>
   rw [List.findIdx?_eq_some_iff_getElem] at h
   obtain ⟨h1, h2, _⟩ := h
   have e := eqK_iff.1 h2
   show decide ((i : Int) ≥ 0) = _
   rw [decide_eq_true (by omega), e, decide_eq_true (List.getElem_mem h1)]
 | none =>
   rw [List.findIdx?_eq_none_iff] at h
   have : k ∉ L := fun hm => by
    have := h k hm
    rw [eqK_iff.2 rfl] at this; cases this
   rw [decide_eq_false (by decide), decide_eq_false this]
def FKIx : List Ar -> Option Rs
 | [.c (.ow 2 n0 f0), .agg [.d (.v (.string x1)), .d (.v (.int .i64 i1))]] => some ⟨(n0 <= 1099511627776 /\ RowsK n0 f0), .va (.c (.d (it (ixK (gKs n0 f0) (⟨x1, i1⟩ : Ky))))), [some (rwK (gKs n0 f0))]⟩
 | _ => none
theorem fcKIx : FC Tryz.prog 132 FKIx := by
 intro xs pre r us h hp
 unfold FKIx at h
 split at h
 . rename_i n0 f0 x1 i1
   cases h
   have hp0 := hp
   refine FCat.deep (ys := [.c (.ow 2 n0 (rwK (gKs n0 f0))), .agg [.d (.v (.string x1)), .d (.v (.int .i64 i1))]]) ?_ ?_
   . repeat' (first | exact trivial | exact rfl | exact DvE.refl _ | refine ⟨?_, ?_⟩ | fail)
     all_goals first | exact (canonKo hp0.2).2.2
   refine fcat tys_ok (l := []) trivial Tryz.func132 rfl (by kernel_rfl) false ?_
   have hn := hp0.1
   have hlen := gKs_length n0 f0
   generalize gKs n0 f0 = L at *
   clear hp0
   subst hlen
   repeat' (first | exact trivial | refine ⟨?_, ?_⟩ | intro _)
   all_goals first | (with_reducible apply qq) | (conv => whnf)
   refine loop_ok tys_ok (l := []) trivial (by kernel_rfl) (X := Nat)
    (fun i => ⟨[(8, vx (.int .i64 i)), (0, .va (.c (.osl 0 2 0 L.length))), (3, .va (.c (.own 1 0))), (7, vx (.int .i64 L.length))], [(1, .cells [.d (st x1), .d (it i1)]), (0, .row 2 L.length (rwK L))], 2, 19⟩)
    (fun i => L.length - i) (fun i => i <= L.length /\ ∀ k, k < i -> eqK ⟨x1, i1⟩ (atK L k) = false) [] []
    (fun i _ _ => i + 1) [0, 1] [0, 1] 0 0 0 ?_ ?_ ?_
   . exact ⟨Nat.zero_le _, fun k h => absurd h (Nat.not_lt_zero k)⟩
   . repeat' (first | exact trivial | exact rfl | (intro _ _; exact rfl) | refine ⟨?_, ?_⟩ | fail)
   . rintro i ⟨k1, k2⟩
     rcases Nat.lt_or_ge i L.length with hi | hi
     . have hne : decide ((i : Int) < (L.length : Int)) = true := decide_eq_true (by omega)
       have hib : (0 : Int) <= (i : Int) /\ (i : Int) < (L.length : Int) := by omega
       cases hq : eqK ⟨x1, i1⟩ (atK L i) with
       | true =>
         have hv : ixK L ⟨x1, i1⟩ = i := ixK_some hi k2 hq
         repeat' (first | exact trivial | (with_reducible first | exact n1 | exact n2 | exact hib | exact hib.1 | exact hib.2 | exact nx hne) | refine ⟨?_, ?_⟩ | intro _)
         all_goals first | (with_reducible apply qq) | (conv => whnf)
         all_goals (try simp only [Int.toNat_natCast, Nat.zero_add] at *)
         all_goals first | omega | (rw [hv]; done) | exact absurd (hq.symm.trans ‹_ = false›) (by decide) | rfl | (intro _ _; rfl)
       | false =>
         have hk : ∀ k, k < i + 1 -> eqK ⟨x1, i1⟩ (atK L k) = false := fun k h => by
          rcases Nat.lt_or_ge k i with h1 | h1
          . exact k2 k h1
          . rw [show k = i by omega]; exact hq
         repeat' (first | exact trivial | (with_reducible first | exact n1 | exact n2 | exact hib | exact hib.1 | exact hib.2 | exact nx hne) | refine ⟨?_, ?_⟩ | intro _)
         all_goals first | (with_reducible apply qq) | (conv => whnf)
         all_goals (try dsimp only)
         all_goals (try simp only [Int.toNat_natCast, Nat.zero_add] at *)
         all_goals first | omega | exact absurd (hq.symm.trans ‹_ = true›) (by decide) | exact hk _ ‹_› | rfl | (exact congrArg (Value.int .i64) (by first | (rw [wI_id _ (by omega) (by omega)]; omega) | omega | (dsimp only; omega))) | (intro _ _; rfl)
     . have hne : decide ((i : Int) < (L.length : Int)) = false := decide_eq_false (by omega)
       obtain rfl : i = L.length := by omega
       have hv : ixK L ⟨x1, i1⟩ = -1 := ixK_none k2
       repeat' (first | exact trivial | (with_reducible first | exact n1 | exact n2 | exact nx hne) | refine ⟨?_, ?_⟩ | intro _)
       all_goals first | (with_reducible apply qq) | (conv => whnf)
       all_goals first | omega | (rw [hv]; done) | rfl | (intro _ _; rfl)
 . cases h
def FKHas : List Ar -> Option Rs
 | [.c (.ow 2 n0 f0), .agg [.d (.v (.string x1)), .d (.v (.int .i64 i1))]] => some ⟨(n0 <= 1099511627776 /\ RowsK n0 f0), .va (.c (.d (bo (hasKy (gKs n0 f0) (⟨x1, i1⟩ : Ky))))), [some (rwK (gKs n0 f0))]⟩
 | _ => none
theorem fcKHas : FC Tryz.prog 90 FKHas := by
 intro xs pre r us h hp
 unfold FKHas at h
 split at h
 . rename_i n0 f0 x1 i1
   cases h
   have hp0 := hp
   refine FCat.deep (ys := [.c (.ow 2 n0 (rwK (gKs n0 f0))), .agg [.d (.v (.string x1)), .d (.v (.int .i64 i1))]]) ?_ ?_
   . repeat' (first | exact trivial | exact rfl | exact DvE.refl _ | refine ⟨?_, ?_⟩ | fail)
     all_goals first | exact (canonKo hp0.2).2.2
   refine fcat tys_ok (l := [(132, ⟨[true], FKIx⟩)]) ⟨fcKIx, trivial⟩ Tryz.func90 rfl (by kernel_rfl) false ?_
   have hn := hp0.1
   have hlen := gKs_length n0 f0
   generalize gKs n0 f0 = L at *
   clear hp0
   subst hlen
   have hix := ixK_ge L ⟨x1, i1⟩
   have hrk := rows_K L
   repeat' (first | exact trivial | (with_reducible first | assumption) | refine ⟨?_, ?_⟩ | intro _)
   all_goals first | (with_reducible apply qq) | (conv => whnf)
   all_goals (try simp only [gKs_row] at *)
   all_goals first | (rw [hix]; done) | omega | rfl | (intro _ _; rfl)
 . cases h
def FBindC : List Ar -> Option Rs
 | [.agg [.d (.v (.string x0)), .d (.v (.bool _)), .d (.v (.int .i64 _)), .d (.v (.int .i64 _)), .d (.v (.bool _)), .d (.v (.int .i64 _)), .d (.v (.int .i64 _)), .d (.v (.bool _)), .d (.lst 1 _ _)], .rp [.v (.string x1)]] => some ⟨True, .va (.c (.d (bo (x0.toList == x1.toList)))), []⟩
 | _ => none
theorem fcBindC : FC Tryz.prog 50 FBindC := by
 intro xs pre r us h hp
 unfold FBindC at h
 split at h
 . rename_i x0 s0 l0 h0 b0 m0 r0 z0 n0 f0 x1
   cases h
   refine fcat tys_ok (l := []) trivial Tryz.func50 rfl (by kernel_rfl) false ?_
   repeat' (first | exact trivial | refine ⟨?_, ?_⟩ | intro _)
   all_goals first | (with_reducible apply qq) | (conv => whnf)
   all_goals first | rfl
 . cases h
abbrev gBn (nm : ByteArray) : List Cv -> Option Gs := mkFv (sums [(50, ⟨[], FBindC⟩)]) 50 [.rp [.v (.string nm)]]
end Go.Proofs.YtokjghkehojenaaGreat
namespace Go.Proofs.YtokjghkehojenaaGreat
open Go.Sx
open Go.RowKit Go.Lib Go.Sort
def ixN (L : List Bd) (s : ByteArray) : Int := match L.findIdx? (fun x => x.name.toList == s.toList) with
 | some i => i
 | none => -1
def bndN (L : List Bd) (s : ByteArray) : Bool := decide (ixN L s ≥ 0)
theorem ixN_some {s : ByteArray} {L : List Bd} {i : Nat} (hi : i < L.length) (h1 : ∀ k, k < i -> ((atB L k).name.toList == s.toList) = false) (h2 : ((atB L i).name.toList == s.toList) = true) : ixN L s = i := by
 have hA : ∀ k (h : k < L.length), atB L k = L[k] := fun k h => by unfold atB; rw [List.getD_eq_getElem?_getD, List.getElem?_eq_getElem h]; rfl
 unfold ixN
 have : L.findIdx? (fun x => x.name.toList == s.toList) = some i := by
  rw [List.findIdx?_eq_some_iff_getElem]
  refine ⟨hi, by rw [<- hA i hi]; exact h2, fun j hj => ?_⟩
  rw [<- hA j (by omega), h1 j hj]; exact Bool.false_ne_true
 rw [this]
theorem ixN_none {s : ByteArray} {L : List Bd} (h1 : ∀ k, k < L.length -> ((atB L k).name.toList == s.toList) = false) : ixN L s = -1 := by
 unfold ixN
 have : L.findIdx? (fun x => x.name.toList == s.toList) = none := by
  rw [List.findIdx?_eq_none_iff]
  intro x hx
  obtain ⟨k, hk, rfl⟩ := mem_atB hx
  exact h1 k hk
 rw [this]
def knF (L : List Sd) (k : Ky) : Option Sv := (L.find? fun x => eqK x.k k).map (·.s)
def knS (L : List Sd) (k : Ky) : Sv := (knF L k).getD ⟨⟨false, []⟩, ⟨⟨⟨false, 0, 0⟩, ⟨false, 0, 0⟩⟩, ⟨false, []⟩⟩⟩
def knB (L : List Sd) (k : Ky) : Bool := (knF L k).isSome
theorem knF_some {L : List Sd} {k : Ky} {i : Nat} (hi : i < L.length) (h1 : ∀ j, j < i -> eqK (atD L j).k k = false) (h2 : eqK (atD L i).k k = true) : knF L k = some (atD L i).s := by
 have hA : ∀ k (h : k < L.length), atD L k = L[k] := fun k h => by unfold atD; rw [List.getD_eq_getElem?_getD, List.getElem?_eq_getElem h]; rfl
 unfold knF
 have : L.find? (fun x => eqK x.k k) = some (atD L i) := by
  rw [List.find?_eq_some_iff_getElem]
  refine ⟨h2, i, hi, (hA i hi).symm, fun j hj => ?_⟩
  rw [<- hA j (by omega), h1 j hj]; rfl
 rw [this]; rfl
theorem knF_none {L : List Sd} {k : Ky} (h1 : ∀ j, j < L.length -> eqK (atD L j).k k = false) : knF L k = none := by
 unfold knF
 have : L.find? (fun x => eqK x.k k) = none := by
  rw [List.find?_eq_none]
  intro x hx
  obtain ⟨j, hj, rfl⟩ := mem_atD hx
  rw [h1 j hj]; exact Bool.false_ne_true
 rw [this]; rfl
def FIxB (nm : ByteArray) : List Ar -> Option Rs
 | [.c (.d (.lst 9 n0 f0)), .fv g1] => some ⟨(n0 <= 1099511627776 /\ RowsOk n0 f0) /\ (g1 = gBn nm /\ True), .va (.c (.d (it (ixN (gBs n0 f0) nm)))), []⟩
 | _ => none
theorem fcIxB (nm : ByteArray) : FC Tryz.prog 87 (FIxB nm) := by
 intro xs pre r us h hp
 unfold FIxB at h
 split at h
 . rename_i n0 f0 g1
   cases h
   obtain ⟨hp0, hp1⟩ := hp
   refine FCat.deep (ys := [.c (.d (.lst 9 n0 (rwB (gBs n0 f0)))), .fv g1]) ?_ ?_
   . repeat' (first | exact trivial | exact rfl | exact DvE.refl _ | refine ⟨?_, ?_⟩ | fail)
     all_goals first | exact canonB hp0.2.h
   refine fcat tys_ok (l := []) trivial Tryz.func87 rfl (by kernel_rfl) false ?_
   obtain ⟨rfl, _⟩ := hp1
   have hn := hp0.1
   have hL := okL_rows hp0.2
   have hlen := gBs_length n0 f0
   generalize gBs n0 f0 = L at *
   clear hp0
   subst hlen
   have hrow := okL_row hL
   repeat' (first | exact trivial | refine ⟨?_, ?_⟩ | intro _)
   all_goals first | (with_reducible apply qq) | (conv => whnf)
   refine loop_ok tys_ok (l := []) trivial (by kernel_rfl) (X := Nat)
    (fun i => ⟨[(8, vx (.int .i64 i)), (0, .va (.c (.d (lstB L)))), (1, .va (.c (.fv (gBn nm)))), (7, vx (.int .i64 L.length))], [], 0, 19⟩)
    (fun i => L.length - i) (fun i => i <= L.length /\ ∀ k, k < i -> ((atB L k).name.toList == nm.toList) = false) [] []
    (fun i _ _ => i + 1) [] [] 0 0 0 ?_ ?_ ?_
   . exact ⟨Nat.zero_le _, fun k h => absurd h (Nat.not_lt_zero k)⟩
   . repeat' (first | exact trivial | exact rfl | (intro _ _; exact rfl) | refine ⟨?_, ?_⟩ | fail)
   . rintro i ⟨k1, k2⟩
     rcases Nat.lt_or_ge i L.length with hi | hi
     . have hne : decide ((i : Int) < (L.length : Int)) = true := decide_eq_true (by omega)
       have hib : (0 : Int) <= (i : Int) /\ (i : Int) < (L.length : Int) := by omega
       cases hq : ((atB L i).name.toList == nm.toList) with
       | true =>
         have hv := ixN_some hi k2 hq
         repeat' (first | exact trivial | (with_reducible first | exact n1 | exact n2 | exact hib | exact hib.1 | exact hib.2 | exact nx hne) | refine ⟨?_, ?_⟩ | intro _)
         all_goals first | (with_reducible apply qq) | (conv => whnf)
         all_goals (try simp only [Int.toNat_natCast, Nat.zero_add] at *)
         all_goals first | omega | (rw [hv]; done) | exact absurd (hq.symm.trans ‹_ = false›) (by decide) | rfl | (intro _ _; rfl) | (rw [hv]; rfl)
       | false =>
         have hk : ∀ k, k < i + 1 -> ((atB L k).name.toList == nm.toList) = false := fun k h => by
          rcases Nat.lt_or_ge k i with h1 | h1
          . exact k2 k h1
          . rw [show k = i by omega]; exact hq
         repeat' (first | exact trivial | (with_reducible first | exact n1 | exact n2 | exact hib | exact hib.1 | exact hib.2 | exact nx hne) | refine ⟨?_, ?_⟩ | intro _)
         all_goals first | (with_reducible apply qq) | (conv => whnf)
         all_goals (try dsimp only)
         all_goals (try simp only [Int.toNat_natCast, Nat.zero_add] at *)
         all_goals first | omega | exact absurd (hq.symm.trans ‹_ = true›) (by decide) | exact hk _ ‹_› | rfl | (exact congrArg (Value.int .i64) (by first | (rw [wI_id _ (by omega) (by omega)]; omega) | omega | (dsimp only; omega))) | (intro _ _; rfl)
     . have hne : decide ((i : Int) < (L.length : Int)) = false := decide_eq_false (by omega)
       obtain rfl : i = L.length := by omega
       have hv := ixN_none k2
       repeat' (first | exact trivial | (with_reducible first | exact n1 | exact n2 | exact nx hne) | refine ⟨?_, ?_⟩ | intro _)
       all_goals first | (with_reducible apply qq) | (conv => whnf)
       all_goals first | omega | (rw [hv]; done) | rfl | (intro _ _; rfl) | (rw [hv]; rfl)
 . cases h
def FContB (nm : ByteArray) : List Ar -> Option Rs
 | [.c (.d (.lst 9 n0 f0)), .fv g1] => some ⟨(n0 <= 1099511627776 /\ RowsOk n0 f0) /\ (g1 = gBn nm /\ True), .va (.c (.d (bo (bndN (gBs n0 f0) nm)))), []⟩
 | _ => none
theorem fcContB (nm : ByteArray) : FC Tryz.prog 49 (FContB nm) := by
 intro xs pre r us h hp
 unfold FContB at h
 split at h
 . rename_i n0 f0 g1
   cases h
   obtain ⟨hp0, hp1⟩ := hp
   refine FCat.deep (ys := [.c (.d (.lst 9 n0 (rwB (gBs n0 f0)))), .fv g1]) ?_ ?_
   . repeat' (first | exact trivial | exact rfl | exact DvE.refl _ | refine ⟨?_, ?_⟩ | fail)
     all_goals first | exact canonB hp0.2.h
   refine fcat tys_ok (l := [(87, ⟨[], (FIxB nm)⟩)]) ⟨(fcIxB nm), trivial⟩ Tryz.func49 rfl (by kernel_rfl) false ?_
   obtain ⟨rfl, _⟩ := hp1
   have hn := hp0.1
   have hL := okL_rows hp0.2
   have hlen := gBs_length n0 f0
   generalize gBs n0 f0 = L at *
   clear hp0
   subst hlen
   have hrow := okL_row hL
   repeat' (first | exact trivial | (with_reducible first | assumption) | refine ⟨?_, ?_⟩ | intro _)
   all_goals first | (with_reducible apply qq) | (conv => whnf)
   all_goals (try simp only [gBs_row] at *)
   all_goals first | rfl | exact hrow | omega
 . cases h
def FKnown : List Ar -> Option Rs
 | [.c (.d (.lst 12 n0 f0)), .agg [.d (.v (.string x1)), .d (.v (.int .i64 i1))]] => some ⟨(n0 <= 1099511627776 /\ RowsD n0 f0), .tup [Sv.ar (knS (gD n0 f0) (⟨x1, i1⟩ : Ky)), .c (.d (bo (knB (gD n0 f0) (⟨x1, i1⟩ : Ky))))], []⟩
 | _ => none
theorem fcKnown : FC Tryz.prog 9 FKnown := by
 intro xs pre r us h hp
 unfold FKnown at h
 split at h
 . rename_i n0 f0 x1 i1
   cases h
   have hp0 := hp
   refine FCat.deep (ys := [.c (.d (.lst 12 n0 (rwD (gD n0 f0)))), .agg [.d (.v (.string x1)), .d (.v (.int .i64 i1))]]) ?_ ?_
   . repeat' (first | exact trivial | exact rfl | exact DvE.refl _ | refine ⟨?_, ?_⟩ | fail)
     all_goals first | exact canonD hp0.2.h
   refine fcat tys_ok (l := []) trivial Tryz.func9 rfl (by kernel_rfl) true ?_
   have hn := hp0.1
   have hL := okD_rows hp0.2
   have hlen := gD_length n0 f0
   generalize gD n0 f0 = L at *
   clear hp0
   subst hlen
   repeat' (first | exact trivial | refine ⟨?_, ?_⟩ | intro _)
   all_goals first | (with_reducible apply qq) | (conv => whnf)
   refine loop_ok tys_ok (l := []) trivial (by kernel_rfl) (X := Nat)
    (fun i => ⟨[(9, vx (.int .i64 i)), (0, .va (.c (.d (lstD L)))), (3, .va (.c (.own 0 0))), (4, .va (.c (.own 1 0))), (5, vx (.bool false)), (8, vx (.int .i64 L.length))], [(1, .cells [.d (bo false), .d (.v (.slice none 0 0)), .d (bo false), .d (it 0), .d (it 0), .d (bo false), .d (it 0), .d (it 0), .d (bo false), .d (.v (.slice none 0 0))]), (0, .cells [.d (st x1), .d (it i1)])], 2, 26⟩)
    (fun i => L.length - i) (fun i => i <= L.length /\ ∀ k, k < i -> eqK (atD L k).k ⟨x1, i1⟩ = false) [] []
    (fun i _ _ => i + 1) [0, 1] [0, 1] 0 0 0 ?_ ?_ ?_
   . exact ⟨Nat.zero_le _, fun k h => absurd h (Nat.not_lt_zero k)⟩
   . repeat' (first | exact trivial | exact rfl | (intro _ _; exact rfl) | refine ⟨?_, ?_⟩ | fail)
   . rintro i ⟨k1, k2⟩
     rcases Nat.lt_or_ge i L.length with hi | hi
     . have hne : decide ((i : Int) < (L.length : Int)) = true := decide_eq_true (by omega)
       have hib : (0 : Int) <= (i : Int) /\ (i : Int) < (L.length : Int) := by omega
       cases hq : eqK (atD L i).k ⟨x1, i1⟩ with
       | true =>
         have hv := knF_some (k := ⟨x1, i1⟩) hi k2 hq
         repeat' (first | exact trivial | (with_reducible first | exact n1 | exact n2 | exact hib | exact hib.1 | exact hib.2 | exact nx hne) | refine ⟨?_, ?_⟩ | intro _)
         all_goals first | (with_reducible apply qq) | (conv => whnf)
         all_goals (try simp only [Int.toNat_natCast, Nat.zero_add] at *)
         all_goals first | omega | (rw [hv]; done) | exact absurd (hq.symm.trans ‹_ = false›) (by decide) | rfl | (intro _ _; rfl) | (unfold knS knB; rw [hv]; done) | (unfold knS; rw [hv]; rfl) | (unfold knB; rw [hv]; rfl)
       | false =>
         have hk : ∀ k, k < i + 1 -> eqK (atD L k).k ⟨x1, i1⟩ = false := fun k h => by
          rcases Nat.lt_or_ge k i with h1 | h1
          . exact k2 k h1
          . rw [show k = i by omega]; exact hq
         repeat' (first | exact trivial | (with_reducible first | exact n1 | exact n2 | exact hib | exact hib.1 | exact hib.2 | exact nx hne) | refine ⟨?_, ?_⟩ | intro _)
         all_goals first | (with_reducible apply qq) | (conv => whnf)
         all_goals (try dsimp only)
         all_goals (try simp only [Int.toNat_natCast, Nat.zero_add] at *)
         all_goals first | omega | exact absurd (hq.symm.trans ‹_ = true›) (by decide) | exact hk _ ‹_› | rfl | (exact congrArg (Value.int .i64) (by first | (rw [wI_id _ (by omega) (by omega)]; omega) | omega | (dsimp only; omega))) | (intro _ _; rfl)
     . have hne : decide ((i : Int) < (L.length : Int)) = false := decide_eq_false (by omega)
       obtain rfl : i = L.length := by omega
       have hv := knF_none (k := ⟨x1, i1⟩) k2
       repeat' (first | exact trivial | (with_reducible first | exact n1 | exact n2 | exact nx hne) | refine ⟨?_, ?_⟩ | intro _)
       all_goals first | (with_reducible apply qq) | (conv => whnf)
       all_goals first | omega | (rw [hv]; done) | rfl | (intro _ _; rfl) | (unfold knS knB; rw [hv]; done) | (unfold knS; rw [hv]; rfl) | (unfold knB; rw [hv]; rfl)
 . cases h
end Go.Proofs.YtokjghkehojenaaGreat
namespace Go.Proofs.YtokjghkehojenaaGreat
open Go.Sx
theorem shr32 (n : Int) : n.fdiv (2 ^ min (Int.toNat 32) IntKind.u64.bits) = n / 4294967296 := by
 have e : (2 ^ min (Int.toNat 32) IntKind.u64.bits : Int) = 4294967296 := by decide
 rw [e, Int.fdiv_eq_ediv_of_nonneg _ (by decide)]
theorem and32 (n : Int) : ((BitVec.ofInt IntKind.u64.bits n &&& BitVec.ofInt IntKind.u64.bits 4294967295).toNat : Int) = n % 4294967296 := by
 have e : (BitVec.ofInt IntKind.u64.bits 4294967295).toNat = 2 ^ 32 - 1 := by decide
 have e2 : ((BitVec.ofInt IntKind.u64.bits n).toNat : Int) = n % 18446744073709551616 := by
  rw [BitVec.toNat_ofInt]
  have : (0 : Int) <= n % ((2 ^ IntKind.u64.bits : Nat) : Int) := Int.emod_nonneg _ (by decide)
  rw [Int.toNat_of_nonneg this]; rfl
 rw [BitVec.toNat_and, e, Nat.and_two_pow_sub_one_eq_mod]
 omega
theorem mod32 (n : Int) : n % 4294967296 % 18446744073709551616 = n % 4294967296 := by omega
theorem mul_le32 {a b : Int} (ha : 0 <= a /\ a < 4294967296) (hb : 0 <= b /\ b < 4294967296) : 0 <= a * b /\ a * b <= 18446744065119617025 :=
 ⟨Int.mul_nonneg ha.1 hb.1, by have := Int.mul_le_mul (show a <= 4294967295 by omega) (show b <= 4294967295 by omega) hb.1 (by decide); omega⟩
theorem mul_split (x1 x0 y1 y0 : Int) : (x1 * 4294967296 + x0) * (y1 * 4294967296 + y0) = (x1 * y1) * 18446744073709551616 + (x1 * y0 + x0 * y1) * 4294967296 + x0 * y0 := by grind
theorem mul64_law {u v : Int} (hu : 0 <= u /\ u < 18446744073709551616) (hv : 0 <= v /\ v < 18446744073709551616) :
 ((u / 4294967296 * (v / 4294967296) + (u / 4294967296 * (v % 4294967296) + u % 4294967296 * (v % 4294967296) / 4294967296) / 4294967296) + ((u / 4294967296 * (v % 4294967296) + u % 4294967296 * (v % 4294967296) / 4294967296) % 4294967296 + u % 4294967296 * (v / 4294967296)) / 4294967296) = u * v / 18446744073709551616
 /\ (0 <= u / 4294967296 * (v / 4294967296) /\ u / 4294967296 * (v / 4294967296) <= 18446744065119617025) /\ (0 <= u / 4294967296 * (v % 4294967296) /\ u / 4294967296 * (v % 4294967296) <= 18446744065119617025) /\ (0 <= u % 4294967296 * (v / 4294967296) /\ u % 4294967296 * (v / 4294967296) <= 18446744065119617025) /\ (0 <= u % 4294967296 * (v % 4294967296) /\ u % 4294967296 * (v % 4294967296) <= 18446744065119617025) /\ u * v / 18446744073709551616 < 18446744073709551616 := by
 have e := mul_split (u / 4294967296) (u % 4294967296) (v / 4294967296) (v % 4294967296)
 have eu : u / 4294967296 * 4294967296 + u % 4294967296 = u := by omega
 have ev : v / 4294967296 * 4294967296 + v % 4294967296 = v := by omega
 rw [eu, ev] at e
 have b1 := mul_le32 (a := u / 4294967296) (b := v / 4294967296) (by omega) (by omega)
 have b2 := mul_le32 (a := u / 4294967296) (b := v % 4294967296) (by omega) (by omega)
 have b3 := mul_le32 (a := u % 4294967296) (b := v / 4294967296) (by omega) (by omega)
 have b4 := mul_le32 (a := u % 4294967296) (b := v % 4294967296) (by omega) (by omega)
 refine ⟨?_, b1, b2, b3, b4, ?_⟩
 . rw [e]
   generalize u / 4294967296 * (v / 4294967296) = d at *
   generalize u / 4294967296 * (v % 4294967296) = b at *
   generalize u % 4294967296 * (v / 4294967296) = c at *
   generalize u % 4294967296 * (v % 4294967296) = a at *
   clear e eu ev hu hv
   omega
 . rw [e]
   generalize u / 4294967296 * (v / 4294967296) = d at *
   generalize u / 4294967296 * (v % 4294967296) = b at *
   generalize u % 4294967296 * (v / 4294967296) = c at *
   generalize u % 4294967296 * (v % 4294967296) = a at *
   clear e eu ev hu hv
   omega
def FMul64 : List Ar -> Option Rs
 | [.c (.d (.v (.int .u64 u0))), .c (.d (.v (.int .u64 u1)))] => some ⟨(0 <= u0 /\ u0 < 18446744073709551616) /\ (0 <= u1 /\ u1 < 18446744073709551616), .tup [.c (.d (ut (u0 * u1 / 18446744073709551616))), .c (.d (ut (u0 * u1 % 18446744073709551616)))], []⟩
 | _ => none
theorem fcMul64 : FC Tryz.prog 142 FMul64 := by
 intro xs pre r us h hp
 unfold FMul64 at h
 split at h
 . rename_i u0 u1
   cases h
   obtain ⟨hp0, hp1⟩ := hp
   refine fcat tys_ok (l := []) trivial Tryz.func142 rfl (by kernel_rfl) false ?_
   repeat' (first | exact trivial | refine ⟨?_, ?_⟩ | intro _)
   all_goals first | (with_reducible apply qq) | (conv => whnf)
   all_goals refine congrArg (Value.int .u64) ?_
   all_goals simp only [shr32, and32, wU, mod32]
   all_goals first | rfl | skip
   obtain ⟨e, b1, b2, b3, b4, b5⟩ := mul64_law hp0 hp1
   rw [<- e] at b5 ⊢
   generalize u0 / 4294967296 * (u1 / 4294967296) = d at *
   generalize u0 / 4294967296 * (u1 % 4294967296) = b at *
   generalize u0 % 4294967296 * (u1 / 4294967296) = c at *
   generalize u0 % 4294967296 * (u1 % 4294967296) = a at *
   omega
 . cases h
end Go.Proofs.YtokjghkehojenaaGreat
