/- What the library's stable sort of binds computes: stretches that change places. No condition. -/
import Derived.Test.YthkknkhpfffnbaaGreatZ4
import Derived.Lib.Overlaps
set_option linter.all false
set_option maxHeartbeats 8000000
set_option maxRecDepth 100000
namespace Go.Proofs.YthkknkhpfffnbaaGreat
open Go.Sx
def FSwapR : List Ar -> Option Rs
 | [.c (.ow 9 n0 f0), .c (.d (.v (.int .i64 i1))), .c (.d (.v (.int .i64 i2))), .c (.d (.v (.int .i64 i3))), .fv _] => some ⟨(n0 <= 1099511627776 /\ ∀ i, i < n0 -> rowSB (f0 i)) /\ (-9223372036854775808 <= i1 /\ i1 < 9223372036854775808) /\ (-9223372036854775808 <= i2 /\ i2 < 9223372036854775808) /\ (-9223372036854775808 <= i3 /\ i3 < 9223372036854775808) /\ (0 <= i1 /\ 0 <= i3 /\ i1 + i3 <= i2 /\ i2 + i3 <= n0), .tup [], [some fun k => bdC (swr (gF f0) (i1).toNat (i2).toNat (i3).toNat k)]⟩
 | _ => none
theorem fcSwapR : FC Tryz.prog 209 FSwapR := by
 intro xs pre r us h hp
 unfold FSwapR at h
 split at h
 . rename_i n0 f0 i1 i2 i3 g4
   cases h
   obtain ⟨hp0, hp1, hp2, hp3, hp4⟩ := hp
   refine FCat.deep (ys := [.c (.ow 9 n0 fun k => bdC (gF f0 k)), .c (.d (.v (.int .i64 i1))), .c (.d (.v (.int .i64 i2))), .c (.d (.v (.int .i64 i3))), .fv g4]) ?_ ?_
   . repeat' (first | exact trivial | exact rfl | exact DvE.refl _ | refine ⟨?_, ?_⟩ | fail)
     all_goals first | exact (canonF hp0.2).2.2
   refine fcat tys_ok (l := []) trivial Tryz.func209 rfl (by kernel_rfl) false ?_
   obtain ⟨ha, hl, hab, hb⟩ := hp4
   obtain ⟨a, rfl⟩ := Int.eq_ofNat_of_zero_le ha
   obtain ⟨l, rfl⟩ := Int.eq_ofNat_of_zero_le hl
   obtain ⟨b, rfl⟩ := Int.eq_ofNat_of_zero_le (Int.le_trans (by omega : (0 : Int) <= (a : Int) + l) hab)
   have hn := hp0.1
   clear hp0
   generalize gF f0 = G
   simp only [Int.toNat_natCast]
   repeat' (first | exact trivial | refine ⟨?_, ?_⟩ | intro _)
   all_goals first | (with_reducible first | apply qa | apply qb | apply qc | apply qd) | (conv => whnf)
   refine loop_ok tys_ok (l := []) trivial (by kernel_rfl) (X := Nat)
    (fun i => ⟨[(10, vx (.int .i64 i)), (0, .va (.c (.osl 0 9 0 n0))), (1, vx (.int .i64 a)), (2, vx (.int .i64 b)), (3, vx (.int .i64 l)), (4, .va (.c (.fv g4)))], [(0, .row 9 n0 fun k => bdC (swr G a b i k))], 1, 38⟩)
    (fun i => l - i) (fun i => i <= l) [] [] (fun i _ _ => i + 1) [0] [0] 0 0 0 ?_ ?_ ?_
   . exact Nat.zero_le _
   . rw [swr_zero]
     repeat' (first | exact trivial | exact rfl | (intro _ _; exact rfl) | refine ⟨?_, ?_⟩ | fail)
   . rintro i k1
     have hw1 : IntKind.wrap .i64 ((a : Int) + (i : Int)) = ((a + i : Nat) : Int) := by rw [wI_id _ (by omega) (by omega)]; omega
     have hw2 : IntKind.wrap .i64 ((b : Int) + (i : Int)) = ((b + i : Nat) : Int) := by rw [wI_id _ (by omega) (by omega)]; omega
     repeat' (first | exact trivial | refine ⟨?_, ?_⟩ | intro _)
     all_goals first | (with_reducible first | apply qa | apply qb | apply qc | apply qd) | (conv => whnf)
     . have hi : i < l := by have := of_decide_eq_true ‹decide ((i : Int) < (l : Int)) = true›; omega
       repeat' (first | exact trivial | refine ⟨?_, ?_⟩ | intro _)
       all_goals first | (with_reducible first | apply qa | apply qb | apply qc | apply qd) | (conv => whnf)
       all_goals first | ((with_reducible show ASat _ _ _ _ _); refine draw_plan tys_ok (l := []) trivial (by kernel_rfl) (.take 0 (.take 1 (.take 2 (.take 3 (.take 4 (.take 5 (.take 6 (.take 7 (.take 8 (.take 9 (.take 10 (.take 11 (.take 12 (.take 14 (.take 15 (.take 16 (.take 17 (.take 18 (.all [(13, .all [(19, .take 20 (.all [(21, .take 22 (.all [(23, .done)]))]))]), (19, .all [(13, .take 20 (.all [(21, .take 22 (.all [(23, .done)]))]))])]))))))))))))))))))) (by kernel_rfl) ?_) | skip
       all_goals repeat' (first | exact trivial | refine ⟨?_, ?_⟩ | intro _)
       all_goals first | (with_reducible first | apply qa | apply qb | apply qc | apply qd) | (conv => whnf)
       all_goals (try simp only [hw1, hw2, Int.toNat_natCast, Nat.zero_add])
       all_goals (try rw [setRow_at, if_neg (by omega)])
       all_goals repeat' (first | exact trivial | refine ⟨?_, ?_⟩ | intro _)
       all_goals first | (with_reducible first | apply qa | apply qb | apply qc | apply qd) | (conv => whnf)
       all_goals (try simp only [hw1, hw2, Int.toNat_natCast, Nat.zero_add])
       all_goals first | rfl | omega | (dsimp only; omega) | (exact row_swp rfl rfl (swr_succ G (by omega)) _) | (exact congrArg (Value.int .i64) (by first | (rw [wI_id _ (by omega) (by omega)]; omega) | omega | (dsimp only; omega)))
     . exact Nat.le_refl _
     . have h2 := of_decide_eq_false ‹decide ((i : Int) < (l : Int)) = false›
       have : i = l := by omega
       subst this; rfl
 . cases h
def FRot : List Ar -> Option Rs
 | [.c (.ow 9 n0 f0), .c (.d (.v (.int .i64 i1))), .c (.d (.v (.int .i64 i2))), .c (.d (.v (.int .i64 i3))), .fv _] => some ⟨(n0 <= 1099511627776 /\ ∀ i, i < n0 -> rowSB (f0 i)) /\ (-9223372036854775808 <= i1 /\ i1 < 9223372036854775808) /\ (-9223372036854775808 <= i2 /\ i2 < 9223372036854775808) /\ (-9223372036854775808 <= i3 /\ i3 < 9223372036854775808) /\ (0 <= i1 /\ i1 < i2 /\ i2 < i3 /\ i3 <= n0), .tup [], [some fun k => bdC (rot (gF f0) (i1).toNat (i2).toNat (i3).toNat k)]⟩
 | _ => none
theorem fcRot : FC Tryz.prog 189 FRot := by
 intro xs pre r us h hp
 unfold FRot at h
 split at h
 . rename_i n0 f0 i1 i2 i3 g4
   cases h
   obtain ⟨hp0, hp1, hp2, hp3, hp4⟩ := hp
   refine FCat.deep (ys := [.c (.ow 9 n0 fun k => bdC (gF f0 k)), .c (.d (.v (.int .i64 i1))), .c (.d (.v (.int .i64 i2))), .c (.d (.v (.int .i64 i3))), .fv g4]) ?_ ?_
   . repeat' (first | exact trivial | exact rfl | exact DvE.refl _ | refine ⟨?_, ?_⟩ | fail)
     all_goals first | exact (canonF hp0.2).2.2
   refine fcat tys_ok (l := [(209, ⟨[true], FSwapR⟩)]) ⟨fcSwapR, trivial⟩ Tryz.func189 rfl (by kernel_rfl) false ?_
   obtain ⟨ha, ham, hmb, hb⟩ := hp4
   obtain ⟨a, rfl⟩ := Int.eq_ofNat_of_zero_le ha
   obtain ⟨m, rfl⟩ := Int.eq_ofNat_of_zero_le (Int.le_trans ha (Int.le_of_lt ham))
   obtain ⟨b, rfl⟩ := Int.eq_ofNat_of_zero_le (Int.le_trans (Int.natCast_nonneg m) (Int.le_of_lt hmb))
   have hn := hp0.1
   clear hp0
   generalize gF f0 = G
   simp only [Int.toNat_natCast]
   repeat' (first | exact trivial | refine ⟨?_, ?_⟩ | intro _)
   all_goals first | (with_reducible first | apply qa | apply qb | apply qc | apply qd) | (conv => whnf)
   refine loop_ok tys_ok (l := [(209, ⟨[true], FSwapR⟩)]) ⟨fcSwapR, trivial⟩ (by kernel_rfl) (X := Nat × Nat × (Nat -> Bd))
    (fun x => ⟨[(10, vx (.int .i64 x.1)), (11, vx (.int .i64 x.2.1)), (0, .va (.c (.osl 0 9 0 n0))), (1, vx (.int .i64 a)), (2, vx (.int .i64 m)), (3, vx (.int .i64 b)), (4, .va (.c (.fv g4)))], [(0, .row 9 n0 fun k => bdC (x.2.2 k))], 1, 58⟩)
    (fun x => x.1 + x.2.1) (fun x => 0 < x.1 /\ 0 < x.2.1 /\ x.1 <= m - a /\ x.2.1 <= b - m /\ rot x.2.2 (m - x.1) m (m + x.2.1) = rot G a m b) [] []
    (fun x _ _ => if x.2.1 < x.1 then (x.1 - x.2.1, x.2.1, swr x.2.2 (m - x.1) m x.2.1) else (x.1, x.2.1 - x.1, swr x.2.2 (m - x.1) (m + x.2.1 - x.1) x.1)) [0] [0] 0 0 (m - a, b - m, G) ?_ ?_ ?_
   . refine ⟨by show 0 < m - a; omega, by show 0 < b - m; omega, Nat.le_refl _, Nat.le_refl _, ?_⟩
     have e1 : m - (m - a) = a := by omega
     have e2 : m + (b - m) = b := by omega
     dsimp only; rw [e1, e2]
   . repeat' (first | exact trivial | exact rfl | (intro _ _; exact rfl) | refine ⟨?_, ?_⟩ | fail)
     all_goals exact congrArg (Value.int .i64) (by rw [wI_id _ (by omega) (by omega)]; dsimp only; omega)
   . rintro ⟨i, j, H⟩ ⟨k1, k2, k3, k4, k5⟩
     dsimp only at k1 k2 k3 k4 k5
     have hok : ∀ i, i < n0 -> rowSB (bdC (H i)) := fun i _ => rowSB_bdC _
     have hgF : gF (fun k => bdC (H k)) = H := gF_bdC H
     have hw1 : IntKind.wrap .i64 ((m : Int) - (i : Int)) = ((m - i : Nat) : Int) := by rw [wI_id _ (by omega) (by omega)]; omega
     have hw2 : IntKind.wrap .i64 ((m : Int) + (j : Int)) = ((m + j : Nat) : Int) := by rw [wI_id _ (by omega) (by omega)]; omega
     have hw3 : IntKind.wrap .i64 (((m + j : Nat) : Int) - (i : Int)) = ((m + j : Nat) : Int) - i := by rw [wI_id _ (by omega) (by omega)]
     rcases Nat.lt_trichotomy i j with hij | hij | hij
     . have hq : j - i < j /\ ¬ j < i := by omega
       have hE : ∀ k, bdC (swr H (m - i) ((((m + j : Nat) : Int) - (i : Int)).toNat) i k) = bdC (swr H (m - i) (m + j - i) i k) := by
        intro k; congr 2; omega
       have hR := (rot_lt H (m := m) (i := i) (j := j) (by omega) hij).trans k5
       have hne : ((i : Int) != (j : Int)) = true := bne_iff_ne.2 (by omega)
       have hgt : decide ((i : Int) > (j : Int)) = false := decide_eq_false (by omega)
       repeat' (first | exact trivial | (with_reducible exact hok) | refine ⟨?_, ?_⟩ | intro _)
       all_goals first | (with_reducible first | apply qa | apply qb | apply qc | apply qd) | (conv => whnf)
       all_goals first | (exact absurd (hne.symm.trans ‹_ = false›) (by decide)) | (exact absurd (hgt.symm.trans ‹_ = true›) (by decide)) | skip
       all_goals (try simp only [hw1, hw2, hw3, Int.toNat_natCast, hgF, if_neg hq.2])
       all_goals first | rfl | omega | (dsimp only; omega) | (exact hR) | (exact hE _) | (exact congrArg (Value.int .i64) (by first | (rw [wI_id _ (by omega) (by omega)]; omega) | omega | (dsimp only; omega)))
     . subst hij
       have hne : ((i : Int) != (i : Int)) = false := by simp
       repeat' (first | exact trivial | (with_reducible exact hok) | refine ⟨?_, ?_⟩ | intro _)
       all_goals first | (with_reducible first | apply qa | apply qb | apply qc | apply qd) | (conv => whnf)
       all_goals first | (exact absurd (hne.symm.trans ‹_ = true›) (by decide)) | skip
       all_goals (try simp only [hw1, hw2, hw3, hgF, Int.toNat_natCast])
       all_goals first | rfl | omega | (dsimp only; omega) | (exact congrArg bdC (congrFun ((rot_eq H (by omega)).symm.trans k5) _)) | (exact congrArg (Value.int .i64) (by first | (rw [wI_id _ (by omega) (by omega)]; omega) | omega | (dsimp only; omega)))
     . have hq : j < i := hij
       have hR := (rot_gt H (m := m) (i := i) (j := j) (by omega) hij).trans k5
       have hne : ((i : Int) != (j : Int)) = true := bne_iff_ne.2 (by omega)
       have hgt : decide ((i : Int) > (j : Int)) = true := decide_eq_true (by omega)
       repeat' (first | exact trivial | (with_reducible exact hok) | refine ⟨?_, ?_⟩ | intro _)
       all_goals first | (with_reducible first | apply qa | apply qb | apply qc | apply qd) | (conv => whnf)
       all_goals first | (exact absurd (hne.symm.trans ‹_ = false›) (by decide)) | (exact absurd (hgt.symm.trans ‹_ = false›) (by decide)) | skip
       all_goals (try simp only [hw1, hw2, hw3, Int.toNat_natCast, hgF, if_pos hq])
       all_goals first | rfl | omega | (dsimp only; omega) | (exact hR) | (exact congrArg (Value.int .i64) (by first | (rw [wI_id _ (by omega) (by omega)]; omega) | omega | (dsimp only; omega)))
 . cases h
section
variable {α : Type} [Inhabited α] {lt : α → α → Bool}
theorem std_iff {g : Nat -> α} {a b : Nat} : Std lt (seg g a b) ↔ ∀ i j, a <= i -> i < j -> j < b -> lt (g j) (g i) = false := by
 unfold Std
 rw [List.pairwise_iff_getElem]
 constructor
 . intro h i j h1 h2 h3
   have := h (i - a) (j - a) (by rw [seg_length]; omega) (by rw [seg_length]; omega) (by omega)
   have e1 : (seg g a b)[i - a]? = some (g i) := by rw [seg_get (by omega)]; congr 2; omega
   have e2 : (seg g a b)[j - a]? = some (g j) := by rw [seg_get (by omega)]; congr 2; omega
   rw [List.getElem_of_getElem? e1 |>.2, List.getElem_of_getElem? e2 |>.2] at this
   exact this
 . intro h i j hi hj hij
   rw [seg_length] at hi hj
   have e1 : (seg g a b)[i]? = some (g (a + i)) := seg_get hi
   have e2 : (seg g a b)[j]? = some (g (a + j)) := seg_get hj
   rw [List.getElem_of_getElem? e1 |>.2, List.getElem_of_getElem? e2 |>.2]
   exact h _ _ (by omega) (by omega) (by omega)
theorem std_sub {g : Nat -> α} {a b a' b' : Nat} (h : Std lt (seg g a b)) (h1 : a <= a') (h2 : b' <= b) : Std lt (seg g a' b') :=
 std_iff.2 fun i j x y z => std_iff.1 h i j (by omega) y (by omega)
theorem Wk.irr (h : Wk lt) (x : α) : lt x x = false := by
 cases hx : lt x x with
 | false => rfl
 | true => have := h.asymm _ _ hx; rw [hx] at this; exact this
theorem std_le (h : Wk lt) {g : Nat -> α} {a b i j : Nat} (hs : Std lt (seg g a b)) (h1 : a <= i) (h2 : i <= j) (h3 : j < b) : lt (g j) (g i) = false := by
 rcases Nat.lt_or_ge i j with h4 | h4
 . exact std_iff.1 hs i j h1 h4 h3
 . have : i = j := by omega
   subst this; exact h.irr _
theorem Wk.lt1 (h : Wk lt) {x y z : α} (h1 : lt y x = false) (h2 : lt y z = true) : lt x z = true := by
 cases hx : lt x z with
 | true => rfl
 | false => rw [h.trans z x y hx h1] at h2; cases h2
theorem Wk.lt2 (h : Wk lt) {x y z : α} (h1 : lt z y = false) (h2 : lt x y = true) : lt x z = true := by
 cases hx : lt x z with
 | true => rfl
 | false => rw [h.trans y z x h1 hx] at h2; cases h2
theorem Wk.le1 (h : Wk lt) {x y z : α} (h1 : lt z y = false) (h2 : lt y x = false) : lt z x = false := h.trans x y z h2 h1
theorem one_fin {g : Nat -> α} {a i b : Nat} (h1 : a + 1 <= i) (h2 : i <= b) (h3 : ∀ k, a + 1 <= k -> k < i -> lt (g k) (g a) = true) (h4 : ∀ k, i <= k -> k < b -> lt (g k) (g a) = false) :
 mg lt (seg g a (a + 1)) (seg g (a + 1) b) = seg g (a + 1) i ++ g a :: seg g i b := by
 rw [seg_one, seg_app g h1 h2]
 refine mg_one _ _ _ ?_ ?_
 . intro y hy
   obtain ⟨k, k1, k2, rfl⟩ := mem_seg.1 hy
   exact h3 k k1 k2
 . intro y hy
   obtain ⟨k, k1, k2, rfl⟩ := mem_seg.1 hy
   exact h4 k k1 k2
theorem one_start (g : Nat -> α) {a b : Nat} (h : a < b) : put g a (seg g (a + 1) (a + 1) ++ g a :: seg g (a + 1) b) = g := by
 rw [seg_nil g (Nat.le_refl _), List.nil_append, <- seg_cons g h, put_seg]
theorem one_step (g : Nat -> α) {a k b : Nat} (h : a <= k) (hk : k + 1 < b) : swp (put g a (seg g (a + 1) (k + 1) ++ g a :: seg g (k + 1) b)) k (k + 1) = put g a (seg g (a + 1) (k + 1 + 1) ++ g a :: seg g (k + 1 + 1) b) := by
 have hl : a + (seg g (a + 1) (k + 1)).length = k := by rw [seg_length]; omega
 have := put_swp g a (seg g (a + 1) (k + 1)) (g a) (g (k + 1)) (seg g (k + 1 + 1) b)
 rw [hl] at this
 rw [seg_cons g hk, this, seg_snoc g (by omega : a + 1 <= k + 1), List.append_assoc]; rfl
theorem last_fin {g : Nat -> α} {a i m : Nat} (h1 : a <= i) (h2 : i <= m) (h3 : ∀ k, a <= k -> k < i -> lt (g m) (g k) = false) (h4 : ∀ k, i <= k -> k < m -> lt (g m) (g k) = true) :
 mg lt (seg g a m) (seg g m (m + 1)) = seg g a i ++ g m :: seg g i m := by
 rw [seg_one, seg_app g h1 h2]
 refine mg_last _ _ _ ?_ ?_
 . intro y hy
   obtain ⟨k, k1, k2, rfl⟩ := mem_seg.1 hy
   exact h3 k k1 k2
 . intro y hy
   obtain ⟨k, k1, k2, rfl⟩ := mem_seg.1 hy
   exact h4 k k1 k2
theorem last_start (g : Nat -> α) {a m : Nat} (h : a <= m) : put g a (seg g a m ++ g m :: seg g m m) = g := by
 rw [seg_nil g (Nat.le_refl _), <- seg_snoc g h, put_seg]
theorem last_step (g : Nat -> α) {a k m : Nat} (h : a <= k) (hk : k + 1 <= m) : swp (put g a (seg g a (k + 1) ++ g m :: seg g (k + 1) m)) (k + 1) k = put g a (seg g a k ++ g m :: seg g k m) := by
 have hl : a + (seg g a k).length = k := by rw [seg_length]; omega
 have := put_swp g a (seg g a k) (g k) (g m) (seg g (k + 1) m)
 rw [hl] at this
 rw [swp_comm, seg_snoc g h, List.append_assoc]
 show swp (put g a (seg g a k ++ g k :: g m :: seg g (k + 1) m)) k (k + 1) = _
 rw [this, <- seg_cons g (by omega : k < m)]
theorem put2 {g H : Nat -> α} {a mid b : Nat} {u v : List α} (hH : ∀ k, k < a \/ b <= k -> H k = g k) (hu : u.length = mid - a) (hv : v.length = b - mid) (h1 : a <= mid) (h2 : mid <= b) : put (put H a u) mid v = put g a (u ++ v) := by
 funext k
 unfold put
 rw [List.length_append]
 by_cases c1 : mid <= k /\ k < mid + v.length
 . rw [if_pos c1, if_pos (by omega), List.getD_eq_getElem?_getD, List.getD_eq_getElem?_getD, List.getElem?_append_right (by omega)]
   congr 2; omega
 . rw [if_neg c1]
   by_cases c2 : a <= k /\ k < a + u.length
   . rw [if_pos c2, if_pos (by omega), List.getD_eq_getElem?_getD, List.getD_eq_getElem?_getD, List.getElem?_append_left (by omega)]
   . rw [if_neg c2, if_neg (by omega), hH k (by omega)]
theorem rot_id (g : Nat -> α) {s m e : Nat} (h1 : s <= m) (h2 : m <= e) (h : ¬ (s < m /\ m < e)) : rot g s m e = g := by
 funext k; unfold rot
 split
 . congr 1; omega
 . split
   . congr 1; omega
   . rfl
theorem put_id (g : Nat -> α) {a s m : Nat} (h1 : a <= s) (h2 : s <= m) (h : ¬ (a < s /\ s < m)) : put g a (mg lt (seg g a s) (seg g s m)) = g := by
 have : mg lt (seg g a s) (seg g s m) = seg g a m := by
  rw [seg_app g h1 h2]
  rcases (by omega : s = a \/ s = m) with rfl | rfl
  . rw [seg_nil g (Nat.le_refl _), mg_nil]; rfl
  . rw [seg_nil g (Nat.le_refl s), mg_right, List.append_nil]
 rw [this, put_seg]
theorem sym_segs (g : Nat -> α) {a m b s e mid : Nat} (h1 : a <= s) (h2 : s <= m) (h3 : m <= e) (h4 : e <= b) (he : e + s = mid + m) :
 seg (rot g s m e) a s = seg g a s /\ seg (rot g s m e) s mid = seg g m e /\ seg (rot g s m e) mid e = seg g s m /\ seg (rot g s m e) e b = seg g e b := by
 have hm : s + (e - m) = mid := by omega
 refine ⟨?_, ?_, ?_, ?_⟩
 . exact seg_eq fun k _ hk => rot_out g h2 h3 (.inl hk)
 . have := seg_rot1 g h2 h3; rw [hm] at this; exact this
 . have := seg_rot2 g h2 h3; rw [hm] at this; exact this
 . exact seg_eq fun k hk _ => rot_out g h2 h3 (.inr hk)
theorem sym_mg (h : Wk lt) (g : Nat -> α) {a m b s e : Nat} (h1 : a <= s) (h2 : s <= m) (h3 : m <= e) (h4 : e <= b) (k1 : Std lt (seg g a m)) (k2 : Std lt (seg g m b))
 (hs : a < s -> e < b -> lt (g e) (g (s - 1)) = false) (ht : s < m -> m < e -> lt (g (e - 1)) (g s) = true) :
 mg lt (seg g a m) (seg g m b) = mg lt (seg g a s) (seg g m e) ++ mg lt (seg g s m) (seg g e b) := by
 rw [seg_app g h1 h2, seg_app g h3 h4]
 refine mg_split _ _ _ _ ?_ ?_
 . intro x hx y hy
   obtain ⟨i, i1, i2, rfl⟩ := mem_seg.1 hx
   obtain ⟨j, j1, j2, rfl⟩ := mem_seg.1 hy
   have e1 := std_le h k1 i1 (by omega : i <= s - 1) (by omega)
   have e2 := std_le h k2 h3 j1 j2
   exact h.le1 e2 (h.le1 (hs (by omega) (by omega)) e1)
 . intro y hy x hx
   obtain ⟨i, i1, i2, rfl⟩ := mem_seg.1 hx
   obtain ⟨j, j1, j2, rfl⟩ := mem_seg.1 hy
   have e1 := std_le h k1 h1 i1 i2
   have e2 := std_le h k2 j1 (by omega : j <= e - 1) (by omega)
   exact h.lt2 e1 (h.lt1 e2 (ht (by omega) (by omega)))
theorem sym_fin (h : Wk lt) (g : Nat -> α) {a m b s e mid : Nat} (h1 : a <= s) (h2 : s <= m) (h3 : m <= e) (h4 : e <= b) (he : e + s = mid + m) (k1 : Std lt (seg g a m)) (k2 : Std lt (seg g m b))
 (hs : a < s -> e < b -> lt (g e) (g (s - 1)) = false) (ht : s < m -> m < e -> lt (g (e - 1)) (g s) = true) :
 ∀ H1 H2 H3, H1 = rot g s m e -> H2 = put H1 a (mg lt (seg H1 a s) (seg H1 s mid)) -> H3 = put H2 mid (mg lt (seg H2 mid e) (seg H2 e b)) -> H3 = put g a (mg lt (seg g a m) (seg g m b)) := by
 rintro H1 H2 H3 rfl rfl rfl
 obtain ⟨q1, q2, q3, q4⟩ := sym_segs g h1 h2 h3 h4 he
 rw [q1, q2]
 have hl : (mg lt (seg g a s) (seg g m e)).length = mid - a := by rw [mg_length, seg_length, seg_length]; omega
 have r3 : seg (put (rot g s m e) a (mg lt (seg g a s) (seg g m e))) mid e = seg g s m := by
  rw [<- q3]; exact seg_eq fun k hk _ => put_out (.inr (by omega))
 have r4 : seg (put (rot g s m e) a (mg lt (seg g a s) (seg g m e))) e b = seg g e b := by
  rw [<- q4]; exact seg_eq fun k hk _ => put_out (.inr (by omega))
 rw [r3, r4, sym_mg h g h1 h2 h3 h4 k1 k2 hs ht]
 refine put2 (b := b) (fun k hk => rot_out g h2 h3 (by omega)) hl (by rw [mg_length, seg_length, seg_length]; omega) (by omega) (by omega)
theorem std_rot1 (g : Nat -> α) {a m b s e mid : Nat} (h1 : a <= s) (h2 : s <= m) (h3 : m <= e) (h4 : e <= b) (he : e + s = mid + m) (k1 : Std lt (seg g a m)) (k2 : Std lt (seg g m b)) :
 ∀ H1, H1 = rot g s m e -> Std lt (seg H1 a s) /\ Std lt (seg H1 s mid) /\ ∀ u : List α, u.length = mid - a -> Std lt (seg (put H1 a u) mid e) /\ Std lt (seg (put H1 a u) e b) := by
 rintro H1 rfl
 obtain ⟨q1, q2, q3, q4⟩ := sym_segs g h1 h2 h3 h4 he
 refine ⟨q1 ▸ std_sub k1 (Nat.le_refl _) h2, q2 ▸ std_sub k2 (Nat.le_refl _) h4, fun u hu => ⟨?_, ?_⟩⟩
 . have : seg (put (rot g s m e) a u) mid e = seg g s m := by rw [<- q3]; exact seg_eq fun k hk _ => put_out (.inr (by omega))
   rw [this]; exact std_sub k1 h1 (Nat.le_refl _)
 . have : seg (put (rot g s m e) a u) e b = seg g e b := by rw [<- q4]; exact seg_eq fun k hk _ => put_out (.inr (by omega))
   rw [this]; exact std_sub k2 h3 (Nat.le_refl _)
end
theorem hlf {x y : Nat} (h : x + y < 9223372036854775808) : IntKind.wrap .i64 ((IntKind.wrap .u64 (IntKind.wrap .i64 ((x : Int) + (y : Int)))).fdiv (2 ^ min (Int.toNat 1) (IntKind.bits .u64))) = (((x + y) / 2 : Nat) : Int) := by
 have e1 : IntKind.wrap .i64 ((x : Int) + (y : Int)) = ((x + y : Nat) : Int) := by rw [wI_id _ (by omega) (by omega)]; omega
 have e2 : IntKind.wrap .u64 ((x + y : Nat) : Int) = ((x + y : Nat) : Int) := by
  simp [IntKind.wrap, IntKind.signed, IntKind.bits]
  omega
 have e3 : (2 : Int) ^ min (Int.toNat 1) (IntKind.bits .u64) = 2 := by decide
 rw [e1, e2, e3]
 have e4 : (((x + y : Nat) : Int)).fdiv 2 = (((x + y) / 2 : Nat) : Int) := by
  rw [Int.fdiv_eq_ediv_of_nonneg _ (by omega)]; omega
 rw [e4, wI_id _ (by omega) (by omega)]
def FSym (M : Nat) : List Ar -> Option Rs
 | [.c (.ow 9 n0 f0), .c (.d (.v (.int .i64 i1))), .c (.d (.v (.int .i64 i2))), .c (.d (.v (.int .i64 i3))), .fv g4] => some ⟨(n0 <= 1099511627776 /\ ∀ i, i < n0 -> rowSB (f0 i)) /\ (-9223372036854775808 <= i1 /\ i1 < 9223372036854775808) /\ (-9223372036854775808 <= i2 /\ i2 < 9223372036854775808) /\ (-9223372036854775808 <= i3 /\ i3 < 9223372036854775808) /\ ((0 <= i1 /\ i1 < i2 /\ i2 < i3 /\ i3 <= n0) /\ g4 = gLess /\ Std ltB (seg (gF f0) (i1).toNat (i2).toNat) /\ Std ltB (seg (gF f0) (i2).toNat (i3).toNat) /\ (i3).toNat - (i1).toNat < M), .tup [], [some fun k => bdC (put (gF f0) (i1).toNat (mg ltB (seg (gF f0) (i1).toNat (i2).toNat) (seg (gF f0) (i2).toNat (i3).toNat)) k)]⟩
 | _ => none
abbrev pl1Z : Plan := .take 0 (.take 1 (.take 2 (.take 3 (.take 4 (.take 5 (.take 6 (.take 7 (.take 8 (.take 10 (.take 11 (.take 12 (.all [(9, .all [(13, .take 14 (.all [(15, .take 16 (.all [(17, .done)]))]))]), (13, .all [(9, .take 14 (.all [(15, .take 16 (.all [(17, .done)]))]))])]))))))))))))
theorem fcSym : ∀ M, FC Tryz.prog 167 (FSym M) := by
 intro M
 induction M with
 | zero =>
   intro xs pre r us h hp
   unfold FSym at h
   split at h
   . cases h; exact absurd hp.2.2.2.2.2.2.2.2 (Nat.not_lt_zero _)
   . cases h
 | succ M ih =>
   intro xs pre r us h hp
   unfold FSym at h
   split at h
   . rename_i n0 f0 i1 i2 i3 g4
     cases h
     obtain ⟨hp0, hp1, hp2, hp3, hp4⟩ := hp
     refine FCat.deep (ys := [.c (.ow 9 n0 fun k => bdC (gF f0 k)), .c (.d (.v (.int .i64 i1))), .c (.d (.v (.int .i64 i2))), .c (.d (.v (.int .i64 i3))), .fv g4]) ?_ ?_
     . repeat' (first | exact trivial | exact rfl | exact DvE.refl _ | refine ⟨?_, ?_⟩ | fail)
       all_goals first | exact (canonF hp0.2).2.2
     refine fcat tys_ok (l := [(189, ⟨[true], FRot⟩), (167, ⟨[true], (FSym M)⟩)]) ⟨fcRot, ih, trivial⟩ Tryz.func167 rfl (by kernel_rfl) false ?_
     obtain ⟨⟨ha, ham, hmb, hb⟩, rfl, hs1, hs2, hM⟩ := hp4
     obtain ⟨a, rfl⟩ := Int.eq_ofNat_of_zero_le ha
     obtain ⟨m, rfl⟩ := Int.eq_ofNat_of_zero_le (Int.le_trans ha (Int.le_of_lt ham))
     obtain ⟨b, rfl⟩ := Int.eq_ofNat_of_zero_le (Int.le_trans (Int.natCast_nonneg m) (Int.le_of_lt hmb))
     have hn := hp0.1
     clear hp0
     generalize gF f0 = G at *
     simp only [Int.toNat_natCast] at *
     repeat' (first | exact trivial | refine ⟨?_, ?_⟩ | intro _)
     all_goals first | (with_reducible first | apply qa | apply qb | apply qc | apply qd) | (conv => whnf)
     . obtain rfl : m = a + 1 := by have := eq_of_beq ‹(_ == (1 : Int)) = true›; rw [wI_id _ (by omega) (by omega)] at this; omega
       refine loop_ok tys_ok (l := [(189, ⟨[true], FRot⟩), (167, ⟨[true], (FSym M)⟩)]) ⟨fcRot, ih, trivial⟩ (by kernel_rfl) (X := Nat × Nat)
        (fun x => ⟨[(10, vx (.int .i64 x.1)), (11, vx (.int .i64 x.2)), (0, .va (.c (.osl 0 9 0 n0))), (1, vx (.int .i64 a)), (2, vx (.int .i64 (a + 1 : Nat))), (3, vx (.int .i64 b)), (4, .va (.c (.fv gLess)))], [(0, .row 9 n0 fun k => bdC (G k))], 1, 220⟩)
        (fun x => x.2 - x.1) (fun x => a + 1 <= x.1 /\ x.1 <= x.2 /\ x.2 <= b /\ (∀ k, a + 1 <= k -> k < x.1 -> ltB (G k) (G a) = true) /\ (∀ k, x.2 <= k -> k < b -> ltB (G k) (G a) = false)) [] []
        (fun x _ _ => if ltB (G ((x.1 + x.2) / 2)) (G a) = true then ((x.1 + x.2) / 2 + 1, x.2) else (x.1, (x.1 + x.2) / 2)) [0] [0] 0 0 (a + 1, b) ?_ ?_ ?_
       . exact ⟨Nat.le_refl _, by show a + 1 <= b; omega, Nat.le_refl _, fun k h1 h2 => absurd h1 (Nat.not_le_of_lt h2), fun k h1 h2 => absurd h1 (Nat.not_le_of_lt h2)⟩
       . repeat' (first | exact trivial | exact rfl | (intro _ _; exact rfl) | refine ⟨?_, ?_⟩ | fail)
       . rintro ⟨i, j⟩ ⟨k1, k2, k3, k4, k5⟩
         dsimp only at k1 k2 k3 k4 k5
         rcases Nat.lt_or_ge i j with hij | hij
         . have hne : decide ((i : Int) < (j : Int)) = true := decide_eq_true (by omega)
           have hh : IntKind.wrap .i64 ((IntKind.wrap .u64 (IntKind.wrap .i64 ((i : Int) + (j : Int)))).fdiv (2 ^ min (Int.toNat 1) (IntKind.bits .u64))) = (((i + j) / 2 : Nat) : Int) := hlf (by omega)
           have hq1 : i <= (i + j) / 2 := by omega
           have hq2 : (i + j) / 2 < j := by omega
           generalize hq : (i + j) / 2 = q at *
           cases hc : ltB (G q) (G a) with
           | true =>
             repeat' (first | exact trivial | refine ⟨?_, ?_⟩ | intro _)
             all_goals first | (with_reducible first | apply qa | apply qb | apply qc | apply qd) | (conv => whnf)
             all_goals first | (exact absurd (hne.symm.trans ‹_ = false›) (by decide)) | skip
             all_goals first | (have hd := ‹decide (cfL _ _ < 0) = false›; simp only [hh, Int.toNat_natCast, Nat.zero_add] at hd; exact absurd (hc.symm.trans hd) (by decide)) | skip
             all_goals (try simp only [hh, hq, hc, if_true, Int.toNat_natCast, Nat.zero_add])
             all_goals first | rfl | omega | (dsimp only; omega) | (exact congrArg (Value.int .i64) (by first | (rw [wI_id _ (by omega) (by omega)]; omega) | omega | (dsimp only; omega))) | (rename_i kk h1 h2; simp only [hq, hc, if_true] at h1 h2; first | exact k4 _ h1 h2 | exact k5 _ h1 h2 | exact wkB.lt1 (std_le wkB hs2 (by omega) (by omega) (by omega)) hc)
           | false =>
             repeat' (first | exact trivial | refine ⟨?_, ?_⟩ | intro _)
             all_goals first | (with_reducible first | apply qa | apply qb | apply qc | apply qd) | (conv => whnf)
             all_goals first | (exact absurd (hne.symm.trans ‹_ = false›) (by decide)) | skip
             all_goals first | (have hd := ‹decide (cfL _ _ < 0) = true›; simp only [hh, Int.toNat_natCast, Nat.zero_add] at hd; exact absurd (hc.symm.trans hd) (by decide)) | skip
             all_goals (try simp only [hh, hq, hc, if_false, Bool.false_eq_true, Int.toNat_natCast, Nat.zero_add])
             all_goals first | rfl | omega | (dsimp only; omega) | (exact congrArg (Value.int .i64) (by first | (rw [wI_id _ (by omega) (by omega)]; omega) | omega | (dsimp only; omega))) | (rename_i kk h1 h2; simp only [hq, hc, if_false, Bool.false_eq_true] at h1 h2; first | exact k4 _ h1 h2 | exact k5 _ h1 h2 | exact wkB.le1 (std_le wkB hs2 (by omega) (by omega) (by omega)) hc)
         . have hne : decide ((i : Int) < (j : Int)) = false := decide_eq_false (by omega)
           obtain rfl : i = j := by omega
           repeat' (first | exact trivial | refine ⟨?_, ?_⟩ | intro _)
           all_goals first | (with_reducible first | apply qa | apply qb | apply qc | apply qd) | (conv => whnf)
           all_goals first | (exact absurd (hne.symm.trans ‹_ = true›) (by decide)) | skip
           refine loop_ok tys_ok (l := [(189, ⟨[true], FRot⟩), (167, ⟨[true], (FSym M)⟩)]) ⟨fcRot, ih, trivial⟩ (by kernel_rfl) (X := Nat)
            (fun k => ⟨[(13, vx (.int .i64 k)), (10, vx (.int .i64 i)), (0, .va (.c (.osl 0 9 0 n0))), (1, vx (.int .i64 a)), (2, vx (.int .i64 (a + 1 : Nat))), (3, vx (.int .i64 b)), (4, .va (.c (.fv gLess)))], [(0, .row 9 n0 fun x => bdC (put G a (seg G (a + 1) (k + 1) ++ G a :: seg G (k + 1) b) x))], 1, 220⟩)
            (fun k => i - k) (fun k => a <= k /\ k + 1 <= i) [] [] (fun k _ _ => k + 1) [0] [0] 0 0 a ?_ ?_ ?_
           . exact ⟨Nat.le_refl _, k1⟩
           . rw [one_start G (by omega : a < b)]
             repeat' (first | exact trivial | exact rfl | (intro _ _; exact rfl) | refine ⟨?_, ?_⟩ | fail)
           . rintro k ⟨q1, q2⟩
             have hw : IntKind.wrap .i64 ((i : Int) - 1) = ((i - 1 : Nat) : Int) := by rw [wI_id _ (by omega) (by omega)]; omega
             have hw2 : IntKind.wrap .i64 ((k : Int) + 1) = ((k + 1 : Nat) : Int) := by rw [wI_id _ (by omega) (by omega)]; omega
             rcases Nat.lt_or_ge k (i - 1) with hki | hki
             . have hne : decide ((k : Int) < IntKind.wrap .i64 ((i : Int) - 1)) = true := by rw [hw]; exact decide_eq_true (by omega)
               repeat' (first | exact trivial | refine ⟨?_, ?_⟩ | intro _)
               all_goals first | (with_reducible first | apply qa | apply qb | apply qc | apply qd) | (conv => whnf)
               all_goals first | (exact absurd (hne.symm.trans ‹_ = false›) (by decide)) | skip
               all_goals first | ((with_reducible show ASat _ _ _ _ _); refine draw_plan tys_ok (l := [(189, ⟨[true], FRot⟩), (167, ⟨[true], (FSym M)⟩)]) ⟨fcRot, ih, trivial⟩ (by kernel_rfl) pl1Z (by kernel_rfl) ?_) | skip
               all_goals repeat' (first | exact trivial | refine ⟨?_, ?_⟩ | intro _)
               all_goals first | (with_reducible first | apply qa | apply qb | apply qc | apply qd) | (conv => whnf)
               all_goals (try simp only [hw, hw2, Int.toNat_natCast, Nat.zero_add])
               all_goals (try rw [setRow_at, if_neg (by omega)])
               all_goals repeat' (first | exact trivial | refine ⟨?_, ?_⟩ | intro _)
               all_goals first | (with_reducible first | apply qa | apply qb | apply qc | apply qd) | (conv => whnf)
               all_goals (try simp only [hw, hw2, Int.toNat_natCast, Nat.zero_add])
               all_goals first | rfl | omega | (dsimp only; omega) | (exact congrArg (Value.int .i64) (by first | (rw [wI_id _ (by omega) (by omega)]; omega) | omega | (dsimp only; omega))) | (exact row_swp rfl rfl (one_step G (by omega) (by omega)) _)
             . have hne : decide ((k : Int) < IntKind.wrap .i64 ((i : Int) - 1)) = false := by rw [hw]; exact decide_eq_false (by omega)
               obtain rfl : i = k + 1 := by omega
               repeat' (first | exact trivial | refine ⟨?_, ?_⟩ | intro _)
               all_goals first | (with_reducible first | apply qa | apply qb | apply qc | apply qd) | (conv => whnf)
               all_goals first | (exact absurd (hne.symm.trans ‹_ = true›) (by decide)) | skip
               all_goals first | exact Nat.le_refl _ | (rw [one_fin k1 k3 k4 k5])
     . obtain rfl : b = m + 1 := by have := eq_of_beq ‹(IntKind.wrap .i64 ((b : Int) - (m : Int)) == (1 : Int)) = true›; rw [wI_id _ (by omega) (by omega)] at this; omega
       refine loop_ok tys_ok (l := [(189, ⟨[true], FRot⟩), (167, ⟨[true], (FSym M)⟩)]) ⟨fcRot, ih, trivial⟩ (by kernel_rfl) (X := Nat × Nat)
        (fun x => ⟨[(14, vx (.int .i64 x.1)), (15, vx (.int .i64 x.2)), (0, .va (.c (.osl 0 9 0 n0))), (1, vx (.int .i64 a)), (2, vx (.int .i64 m)), (3, vx (.int .i64 (m + 1 : Nat))), (4, .va (.c (.fv gLess)))], [(0, .row 9 n0 fun k => bdC (G k))], 1, 220⟩)
        (fun x => x.2 - x.1) (fun x => a <= x.1 /\ x.1 <= x.2 /\ x.2 <= m /\ (∀ k, a <= k -> k < x.1 -> ltB (G m) (G k) = false) /\ (∀ k, x.2 <= k -> k < m -> ltB (G m) (G k) = true)) [] []
        (fun x _ _ => if ltB (G m) (G ((x.1 + x.2) / 2)) = true then (x.1, (x.1 + x.2) / 2) else ((x.1 + x.2) / 2 + 1, x.2)) [0] [0] 0 0 (a, m) ?_ ?_ ?_
       . exact ⟨Nat.le_refl _, by show a <= m; omega, Nat.le_refl _, fun k h1 h2 => absurd h1 (Nat.not_le_of_lt h2), fun k h1 h2 => absurd h1 (Nat.not_le_of_lt h2)⟩
       . repeat' (first | exact trivial | exact rfl | (intro _ _; exact rfl) | refine ⟨?_, ?_⟩ | fail)
       . rintro ⟨i, j⟩ ⟨k1, k2, k3, k4, k5⟩
         dsimp only at k1 k2 k3 k4 k5
         rcases Nat.lt_or_ge i j with hij | hij
         . have hne : decide ((i : Int) < (j : Int)) = true := decide_eq_true (by omega)
           have hh : IntKind.wrap .i64 ((IntKind.wrap .u64 (IntKind.wrap .i64 ((i : Int) + (j : Int)))).fdiv (2 ^ min (Int.toNat 1) (IntKind.bits .u64))) = (((i + j) / 2 : Nat) : Int) := hlf (by omega)
           have hq1 : i <= (i + j) / 2 := by omega
           have hq2 : (i + j) / 2 < j := by omega
           generalize hq : (i + j) / 2 = q at *
           cases hc : ltB (G m) (G q) with
           | true =>
             repeat' (first | exact trivial | refine ⟨?_, ?_⟩ | intro _)
             all_goals first | (with_reducible first | apply qa | apply qb | apply qc | apply qd) | (conv => whnf)
             all_goals first | (exact absurd (hne.symm.trans ‹_ = false›) (by decide)) | skip
             all_goals first | (have hd := ‹(!decide (cfL _ _ < 0)) = true›; simp only [hh, Int.toNat_natCast, Nat.zero_add] at hd; exact absurd ((congrArg not hc).symm.trans hd) (by decide)) | skip
             all_goals (try simp only [hh, hq, hc, if_true, Int.toNat_natCast, Nat.zero_add])
             all_goals first | rfl | omega | (dsimp only; omega) | (exact congrArg (Value.int .i64) (by first | (rw [wI_id _ (by omega) (by omega)]; omega) | omega | (dsimp only; omega))) | (rename_i kk h1 h2; simp only [hq, hc, if_true] at h1 h2; first | exact k4 _ h1 h2 | exact k5 _ h1 h2 | exact wkB.lt2 (std_le wkB hs1 (by omega) (by omega) (by omega)) hc)
           | false =>
             repeat' (first | exact trivial | refine ⟨?_, ?_⟩ | intro _)
             all_goals first | (with_reducible first | apply qa | apply qb | apply qc | apply qd) | (conv => whnf)
             all_goals first | (exact absurd (hne.symm.trans ‹_ = false›) (by decide)) | skip
             all_goals first | (have hd := ‹(!decide (cfL _ _ < 0)) = false›; simp only [hh, Int.toNat_natCast, Nat.zero_add] at hd; exact absurd ((congrArg not hc).symm.trans hd) (by decide)) | skip
             all_goals (try simp only [hh, hq, hc, if_false, Bool.false_eq_true, Int.toNat_natCast, Nat.zero_add])
             all_goals first | rfl | omega | (dsimp only; omega) | (exact congrArg (Value.int .i64) (by first | (rw [wI_id _ (by omega) (by omega)]; omega) | omega | (dsimp only; omega))) | (rename_i kk h1 h2; simp only [hq, hc, if_false, Bool.false_eq_true] at h1 h2; first | exact k4 _ h1 h2 | exact k5 _ h1 h2 | exact wkB.le1 hc (std_le wkB hs1 (by omega) (by omega) (by omega)))
         . have hne : decide ((i : Int) < (j : Int)) = false := decide_eq_false (by omega)
           obtain rfl : i = j := by omega
           repeat' (first | exact trivial | refine ⟨?_, ?_⟩ | intro _)
           all_goals first | (with_reducible first | apply qa | apply qb | apply qc | apply qd) | (conv => whnf)
           all_goals first | (exact absurd (hne.symm.trans ‹_ = true›) (by decide)) | skip
           refine loop_ok tys_ok (l := [(189, ⟨[true], FRot⟩), (167, ⟨[true], (FSym M)⟩)]) ⟨fcRot, ih, trivial⟩ (by kernel_rfl) (X := Nat)
            (fun k => ⟨[(17, vx (.int .i64 k)), (14, vx (.int .i64 i)), (0, .va (.c (.osl 0 9 0 n0))), (1, vx (.int .i64 a)), (2, vx (.int .i64 m)), (3, vx (.int .i64 (m + 1 : Nat))), (4, .va (.c (.fv gLess)))], [(0, .row 9 n0 fun x => bdC (put G a (seg G a k ++ G m :: seg G k m) x))], 1, 220⟩)
            (fun k => k - i) (fun k => i <= k /\ k <= m) [] [] (fun k _ _ => k - 1) [0] [0] 0 0 m ?_ ?_ ?_
           . exact ⟨k3, Nat.le_refl _⟩
           . rw [last_start G (by omega : a <= m)]
             repeat' (first | exact trivial | exact rfl | (intro _ _; exact rfl) | refine ⟨?_, ?_⟩ | fail)
           . rintro k ⟨q1, q2⟩
             rcases Nat.lt_or_ge i k with hki | hki
             . obtain ⟨p, rfl⟩ : ∃ p, k = p + 1 := ⟨k - 1, by omega⟩
               have hw : IntKind.wrap .i64 (((p + 1 : Nat) : Int) - 1) = (p : Int) := by rw [wI_id _ (by omega) (by omega)]; omega
               have hne : decide (((p + 1 : Nat) : Int) > (i : Int)) = true := decide_eq_true (by omega)
               repeat' (first | exact trivial | refine ⟨?_, ?_⟩ | intro _)
               all_goals first | (with_reducible first | apply qa | apply qb | apply qc | apply qd) | (conv => whnf)
               all_goals first | (exact absurd (hne.symm.trans ‹_ = false›) (by decide)) | skip
               all_goals first | ((with_reducible show ASat _ _ _ _ _); refine draw_plan tys_ok (l := [(189, ⟨[true], FRot⟩), (167, ⟨[true], (FSym M)⟩)]) ⟨fcRot, ih, trivial⟩ (by kernel_rfl) pl1Z (by kernel_rfl) ?_) | skip
               all_goals repeat' (first | exact trivial | refine ⟨?_, ?_⟩ | intro _)
               all_goals first | (with_reducible first | apply qa | apply qb | apply qc | apply qd) | (conv => whnf)
               all_goals (try simp only [hw, Int.toNat_natCast, Nat.zero_add])
               all_goals (try rw [setRow_at, if_neg (by omega)])
               all_goals repeat' (first | exact trivial | refine ⟨?_, ?_⟩ | intro _)
               all_goals first | (with_reducible first | apply qa | apply qb | apply qc | apply qd) | (conv => whnf)
               all_goals (try simp only [hw, Int.toNat_natCast, Nat.zero_add, Nat.add_sub_cancel])
               all_goals first | rfl | omega | (dsimp only; omega) | (exact congrArg (Value.int .i64) (by first | (rw [wI_id _ (by omega) (by omega)]; omega) | omega | (dsimp only; omega))) | (exact row_swp rfl rfl (last_step G (by omega) (by omega)) _)
             . obtain rfl : i = k := by omega
               have hne : decide ((i : Int) > (i : Int)) = false := decide_eq_false (by omega)
               repeat' (first | exact trivial | refine ⟨?_, ?_⟩ | intro _)
               all_goals first | (with_reducible first | apply qa | apply qb | apply qc | apply qd) | (conv => whnf)
               all_goals first | (exact absurd (hne.symm.trans ‹_ = true›) (by decide)) | skip
               all_goals first | exact Nat.le_refl _ | (rw [last_fin k1 k3 k4 k5])
     . obtain ⟨mid, hmid0⟩ : ∃ mid, mid = (a + b) / 2 := ⟨_, rfl⟩
       have hmid : IntKind.wrap .i64 ((IntKind.wrap .u64 (IntKind.wrap .i64 ((a : Int) + (b : Int)))).fdiv (2 ^ min (Int.toNat 1) (IntKind.bits .u64))) = (mid : Int) := by rw [hlf (by omega), hmid0]
       have hm2 : a + 2 <= m /\ m + 2 <= b := by
        have h1 := ne_of_beq_false ‹(IntKind.wrap .i64 ((m : Int) - (a : Int)) == (1 : Int)) = false›
        have h2 := ne_of_beq_false ‹(IntKind.wrap .i64 ((b : Int) - (m : Int)) == (1 : Int)) = false›
        rw [wI_id _ (by omega) (by omega)] at h1 h2
        omega
       have hm1 : a < mid /\ mid < b /\ 2 * mid <= a + b /\ a + b <= 2 * mid + 1 := by omega
       clear hmid0
       have hwn : IntKind.wrap .i64 ((mid : Int) + (m : Int)) = ((mid + m : Nat) : Int) := by rw [wI_id _ (by omega) (by omega)]; omega
       have hwp : IntKind.wrap .i64 (((mid + m : Nat) : Int) - 1) = ((mid + m - 1 : Nat) : Int) := by rw [wI_id _ (by omega) (by omega)]; omega
       have hwl : IntKind.wrap .i64 (((mid + m : Nat) : Int) - (b : Int)) = ((mid + m : Nat) : Int) - (b : Int) := by rw [wI_id _ (by omega) (by omega)]
       have hx := of_decide_eq_true ‹decide ((m : Int) > _) = true›
       rw [hmid] at hx
       have hlh : a <= (mid + m - b) /\ (mid + m - b) <= mid /\ mid <= mid /\ mid <= m /\ mid + m - (mid + m - b) <= b /\ ((mid + m - b) = a \/ mid + m - (mid + m - b) = b) /\ (mid = mid \/ mid = m) := by
        omega
       refine loop_ok tys_ok (l := [(189, ⟨[true], FRot⟩), (167, ⟨[true], (FSym M)⟩)]) ⟨fcRot, ih, trivial⟩ (by kernel_rfl) (X := Nat × Nat)
        (fun x => ⟨[(20, vx (.int .i64 x.1)), (21, vx (.int .i64 x.2)), (22, vx (.int .i64 (mid + m - 1 : Nat))), (18, vx (.int .i64 mid)), (19, vx (.int .i64 (mid + m : Nat))), (0, .va (.c (.osl 0 9 0 n0))), (1, vx (.int .i64 a)), (2, vx (.int .i64 m)), (3, vx (.int .i64 b)), (4, .va (.c (.fv gLess)))], [(0, .row 9 n0 fun k => bdC (G k))], 1, 220⟩)
        (fun x => x.2 - x.1) (fun x => (mid + m - b) <= x.1 /\ x.1 <= x.2 /\ x.2 <= mid /\ (∀ k, (mid + m - b) <= k -> k < x.1 -> ltB (G (mid + m - 1 - k)) (G k) = false) /\ (∀ k, x.2 <= k -> k < mid -> ltB (G (mid + m - 1 - k)) (G k) = true)) [] []
        (fun x _ _ => if ltB (G (mid + m - 1 - (x.1 + x.2) / 2)) (G ((x.1 + x.2) / 2)) = true then (x.1, (x.1 + x.2) / 2) else ((x.1 + x.2) / 2 + 1, x.2)) [0] [0] 0 0 ((mid + m - b), mid) ?_ ?_ ?_
       . exact ⟨Nat.le_refl _, hlh.2.1, Nat.le_refl _, fun k h1 h2 => absurd h1 (Nat.not_le_of_lt h2), fun k h1 h2 => absurd h1 (Nat.not_le_of_lt h2)⟩
       . repeat' (first | exact trivial | exact rfl | (intro _ _; exact rfl) | refine ⟨?_, ?_⟩ | fail)
         all_goals (refine congrArg (Value.int .i64) ?_; simp only [hmid, hwn, hwp, hwl] <;> omega)
       . rintro ⟨i, j⟩ ⟨k1, k2, k3, k4, k5⟩
         dsimp only at k1 k2 k3 k4 k5
         rcases Nat.lt_or_ge i j with hij | hij
         . have hne : decide ((i : Int) < (j : Int)) = true := decide_eq_true (by omega)
           have hh : IntKind.wrap .i64 ((IntKind.wrap .u64 (IntKind.wrap .i64 ((i : Int) + (j : Int)))).fdiv (2 ^ min (Int.toNat 1) (IntKind.bits .u64))) = (((i + j) / 2 : Nat) : Int) := hlf (by omega)
           have hq1 : i <= (i + j) / 2 := by omega
           have hq2 : (i + j) / 2 < j := by omega
           generalize hq : (i + j) / 2 = q at *
           have hwc : IntKind.wrap .i64 (((mid + m - 1 : Nat) : Int) - (q : Int)) = ((mid + m - 1 - q : Nat) : Int) := by rw [wI_id _ (by omega) (by omega)]; omega
           cases hc : ltB (G (mid + m - 1 - q)) (G q) with
           | true =>
             repeat' (first | exact trivial | refine ⟨?_, ?_⟩ | intro _)
             all_goals first | (with_reducible first | apply qa | apply qb | apply qc | apply qd) | (conv => whnf)
             all_goals first | (exact absurd (hne.symm.trans ‹_ = false›) (by decide)) | skip
             all_goals first | (have hd := ‹(!decide (cfL _ _ < 0)) = true›; simp only [hh, hwc, Int.toNat_natCast, Nat.zero_add] at hd; exact absurd ((congrArg not hc).symm.trans hd) (by decide)) | skip
             all_goals (try simp only [hh, hq, hc, hwc, if_true, Int.toNat_natCast, Nat.zero_add])
             all_goals first | rfl | omega | (dsimp only; omega) | (exact congrArg (Value.int .i64) (by first | (rw [wI_id _ (by omega) (by omega)]; omega) | omega | (dsimp only; omega))) | (rename_i kk h1 h2; simp only [hq, hc, if_true] at h1 h2; first | exact k4 _ h1 h2 | exact k5 _ h1 h2 | exact wkB.lt2 (std_le wkB hs1 (by omega) h1 (by omega)) (wkB.lt1 (std_le wkB hs2 (by omega) (by omega) (by omega)) hc))
           | false =>
             repeat' (first | exact trivial | refine ⟨?_, ?_⟩ | intro _)
             all_goals first | (with_reducible first | apply qa | apply qb | apply qc | apply qd) | (conv => whnf)
             all_goals first | (exact absurd (hne.symm.trans ‹_ = false›) (by decide)) | skip
             all_goals first | (have hd := ‹(!decide (cfL _ _ < 0)) = false›; simp only [hh, hwc, Int.toNat_natCast, Nat.zero_add] at hd; exact absurd ((congrArg not hc).symm.trans hd) (by decide)) | skip
             all_goals (try simp only [hh, hq, hc, hwc, if_false, Bool.false_eq_true, Int.toNat_natCast, Nat.zero_add])
             all_goals first | rfl | omega | (dsimp only; omega) | (exact congrArg (Value.int .i64) (by first | (rw [wI_id _ (by omega) (by omega)]; omega) | omega | (dsimp only; omega))) | (rename_i kk h1 h2; simp only [hq, hc, if_false, Bool.false_eq_true] at h1 h2; first | exact k4 _ h1 h2 | exact k5 _ h1 h2 | exact wkB.le1 (std_le wkB hs2 (by omega) (by omega) (by omega)) (wkB.le1 hc (std_le wkB hs1 (by omega) (by omega) (by omega))))
         . have hne : decide ((i : Int) < (j : Int)) = false := decide_eq_false (by omega)
           obtain rfl : i = j := by omega
           obtain ⟨e, he0⟩ : ∃ e, e = mid + m - i := ⟨_, rfl⟩
           have he : e + i = mid + m := by omega
           have hwe : IntKind.wrap .i64 (((mid + m : Nat) : Int) - (i : Int)) = (e : Int) := by rw [wI_id _ (by omega) (by omega)]; omega
           have hb1 : a <= i /\ i <= m /\ m <= e /\ e <= b /\ i <= mid /\ mid <= e := by omega
           have hx1 : a < i -> e < b -> ltB (G e) (G (i - 1)) = false := by
            intro h1 h2
            have := k4 (i - 1) (by omega) (by omega)
            rw [show mid + m - 1 - (i - 1) = e by omega] at this
            exact this
           have hx2 : i < m -> m < e -> ltB (G (e - 1)) (G i) = true := by
            intro h1 h2
            have := k5 i (Nat.le_refl _) (by omega)
            rw [show mid + m - 1 - i = e - 1 by omega] at this
            exact this
           have hfin := sym_fin wkB G hb1.1 hb1.2.1 hb1.2.2.1 hb1.2.2.2.1 he hs1 hs2 hx1 hx2
           have hst1 := std_rot1 G hb1.1 hb1.2.1 hb1.2.2.1 hb1.2.2.2.1 he hs1 hs2
           have hst2 : ∀ H1 H2, H1 = rot G i m e -> H2 = put H1 a (mg ltB (seg H1 a i) (seg H1 i mid)) -> Std ltB (seg H2 mid e) /\ Std ltB (seg H2 e b) := by
            rintro H1 H2 h1 rfl
            exact (hst1 H1 h1).2.2 _ (by rw [mg_length, seg_length, seg_length]; omega)
           have hok : ∀ (H : Nat -> Bd) (i : Nat), i < n0 -> rowSB (bdC (H i)) := fun H i _ => rowSB_bdC _
           clear hx1 hx2 k4 k5 hlh hwl hwn hwp hmid he0
           repeat' (first | exact trivial | (with_reducible first | exact (hok _) | exact (fun h => absurd (hne.symm.trans h) Bool.false_ne_true)) | refine ⟨?_, ?_⟩ | (intro h; (first | have h1 := of_decide_eq_true h | have h1 := of_decide_eq_false h); clear h; (try simp only [hwe] at h1); (try dsimp only at h1); try (exfalso; omega)) | intro _)
           all_goals first | (with_reducible first | apply qa | apply qb | apply qc | apply qd) | (conv => whnf)
           all_goals (try dsimp only)
           all_goals first | rfl | omega | skip
           all_goals (try simp only [hwe, gF_bdC, Int.toNat_natCast])
           all_goals first | rfl | omega | (exact congrArg bdC (congrFun (hfin _ _ _ rfl rfl rfl) _)) | (exact congrArg bdC (congrFun (hfin _ _ _ rfl rfl (put_id _ hb1.2.2.2.2.2 hb1.2.2.2.1 (by omega)).symm) _)) | (exact congrArg bdC (congrFun (hfin _ _ _ rfl (put_id _ hb1.1 hb1.2.2.2.2.1 (by omega)).symm rfl) _)) | (exact congrArg bdC (congrFun (hfin _ _ _ rfl (put_id _ hb1.1 hb1.2.2.2.2.1 (by omega)).symm (put_id _ hb1.2.2.2.2.2 hb1.2.2.2.1 (by omega)).symm) _)) | (exact congrArg bdC (congrFun (hfin _ _ _ (rot_id G hb1.2.1 hb1.2.2.1 (by omega)).symm rfl rfl) _)) | (exact congrArg bdC (congrFun (hfin _ _ _ (rot_id G hb1.2.1 hb1.2.2.1 (by omega)).symm rfl (put_id _ hb1.2.2.2.2.2 hb1.2.2.2.1 (by omega)).symm) _)) | (exact congrArg bdC (congrFun (hfin _ _ _ (rot_id G hb1.2.1 hb1.2.2.1 (by omega)).symm (put_id _ hb1.1 hb1.2.2.2.2.1 (by omega)).symm rfl) _)) | (exact congrArg bdC (congrFun (hfin _ _ _ (rot_id G hb1.2.1 hb1.2.2.1 (by omega)).symm (put_id _ hb1.1 hb1.2.2.2.2.1 (by omega)).symm (put_id _ hb1.2.2.2.2.2 hb1.2.2.2.1 (by omega)).symm) _)) | exact (hst1 _ rfl).1 | exact (hst1 _ rfl).2.1 | exact (hst1 _ (rot_id G hb1.2.1 hb1.2.2.1 (by omega)).symm).1 | exact (hst1 _ (rot_id G hb1.2.1 hb1.2.2.1 (by omega)).symm).2.1 | exact (hst2 _ _ rfl rfl).1 | exact (hst2 _ _ rfl rfl).2 | exact (hst2 _ _ rfl (put_id _ hb1.1 hb1.2.2.2.2.1 (by omega)).symm).1 | exact (hst2 _ _ rfl (put_id _ hb1.1 hb1.2.2.2.2.1 (by omega)).symm).2 | exact (hst2 _ _ (rot_id G hb1.2.1 hb1.2.2.1 (by omega)).symm rfl).1 | exact (hst2 _ _ (rot_id G hb1.2.1 hb1.2.2.1 (by omega)).symm rfl).2 | exact (hst2 _ _ (rot_id G hb1.2.1 hb1.2.2.1 (by omega)).symm (put_id _ hb1.1 hb1.2.2.2.2.1 (by omega)).symm).1 | exact (hst2 _ _ (rot_id G hb1.2.1 hb1.2.2.1 (by omega)).symm (put_id _ hb1.1 hb1.2.2.2.2.1 (by omega)).symm).2 | skip
           all_goals trace_state
     . obtain ⟨mid, hmid0⟩ : ∃ mid, mid = (a + b) / 2 := ⟨_, rfl⟩
       have hmid : IntKind.wrap .i64 ((IntKind.wrap .u64 (IntKind.wrap .i64 ((a : Int) + (b : Int)))).fdiv (2 ^ min (Int.toNat 1) (IntKind.bits .u64))) = (mid : Int) := by rw [hlf (by omega), hmid0]
       have hm2 : a + 2 <= m /\ m + 2 <= b := by
        have h1 := ne_of_beq_false ‹(IntKind.wrap .i64 ((m : Int) - (a : Int)) == (1 : Int)) = false›
        have h2 := ne_of_beq_false ‹(IntKind.wrap .i64 ((b : Int) - (m : Int)) == (1 : Int)) = false›
        rw [wI_id _ (by omega) (by omega)] at h1 h2
        omega
       have hm1 : a < mid /\ mid < b /\ 2 * mid <= a + b /\ a + b <= 2 * mid + 1 := by omega
       clear hmid0
       have hwn : IntKind.wrap .i64 ((mid : Int) + (m : Int)) = ((mid + m : Nat) : Int) := by rw [wI_id _ (by omega) (by omega)]; omega
       have hwp : IntKind.wrap .i64 (((mid + m : Nat) : Int) - 1) = ((mid + m - 1 : Nat) : Int) := by rw [wI_id _ (by omega) (by omega)]; omega
       have hwl : IntKind.wrap .i64 (((mid + m : Nat) : Int) - (b : Int)) = ((mid + m : Nat) : Int) - (b : Int) := by rw [wI_id _ (by omega) (by omega)]
       have hx := of_decide_eq_false ‹decide ((m : Int) > _) = false›
       rw [hmid] at hx
       have hlh : a <= a /\ a <= m /\ m <= mid /\ m <= m /\ mid + m - a <= b /\ (a = a \/ mid + m - a = b) /\ (m = mid \/ m = m) := by
        omega
       refine loop_ok tys_ok (l := [(189, ⟨[true], FRot⟩), (167, ⟨[true], (FSym M)⟩)]) ⟨fcRot, ih, trivial⟩ (by kernel_rfl) (X := Nat × Nat)
        (fun x => ⟨[(20, vx (.int .i64 x.1)), (21, vx (.int .i64 x.2)), (22, vx (.int .i64 (mid + m - 1 : Nat))), (18, vx (.int .i64 mid)), (19, vx (.int .i64 (mid + m : Nat))), (0, .va (.c (.osl 0 9 0 n0))), (1, vx (.int .i64 a)), (2, vx (.int .i64 m)), (3, vx (.int .i64 b)), (4, .va (.c (.fv gLess)))], [(0, .row 9 n0 fun k => bdC (G k))], 1, 220⟩)
        (fun x => x.2 - x.1) (fun x => a <= x.1 /\ x.1 <= x.2 /\ x.2 <= m /\ (∀ k, a <= k -> k < x.1 -> ltB (G (mid + m - 1 - k)) (G k) = false) /\ (∀ k, x.2 <= k -> k < m -> ltB (G (mid + m - 1 - k)) (G k) = true)) [] []
        (fun x _ _ => if ltB (G (mid + m - 1 - (x.1 + x.2) / 2)) (G ((x.1 + x.2) / 2)) = true then (x.1, (x.1 + x.2) / 2) else ((x.1 + x.2) / 2 + 1, x.2)) [0] [0] 0 0 (a, m) ?_ ?_ ?_
       . exact ⟨Nat.le_refl _, hlh.2.1, Nat.le_refl _, fun k h1 h2 => absurd h1 (Nat.not_le_of_lt h2), fun k h1 h2 => absurd h1 (Nat.not_le_of_lt h2)⟩
       . repeat' (first | exact trivial | exact rfl | (intro _ _; exact rfl) | refine ⟨?_, ?_⟩ | fail)
         all_goals (refine congrArg (Value.int .i64) ?_; simp only [hmid, hwn, hwp, hwl] <;> omega)
       . rintro ⟨i, j⟩ ⟨k1, k2, k3, k4, k5⟩
         dsimp only at k1 k2 k3 k4 k5
         rcases Nat.lt_or_ge i j with hij | hij
         . have hne : decide ((i : Int) < (j : Int)) = true := decide_eq_true (by omega)
           have hh : IntKind.wrap .i64 ((IntKind.wrap .u64 (IntKind.wrap .i64 ((i : Int) + (j : Int)))).fdiv (2 ^ min (Int.toNat 1) (IntKind.bits .u64))) = (((i + j) / 2 : Nat) : Int) := hlf (by omega)
           have hq1 : i <= (i + j) / 2 := by omega
           have hq2 : (i + j) / 2 < j := by omega
           generalize hq : (i + j) / 2 = q at *
           have hwc : IntKind.wrap .i64 (((mid + m - 1 : Nat) : Int) - (q : Int)) = ((mid + m - 1 - q : Nat) : Int) := by rw [wI_id _ (by omega) (by omega)]; omega
           cases hc : ltB (G (mid + m - 1 - q)) (G q) with
           | true =>
             repeat' (first | exact trivial | refine ⟨?_, ?_⟩ | intro _)
             all_goals first | (with_reducible first | apply qa | apply qb | apply qc | apply qd) | (conv => whnf)
             all_goals first | (exact absurd (hne.symm.trans ‹_ = false›) (by decide)) | skip
             all_goals first | (have hd := ‹(!decide (cfL _ _ < 0)) = true›; simp only [hh, hwc, Int.toNat_natCast, Nat.zero_add] at hd; exact absurd ((congrArg not hc).symm.trans hd) (by decide)) | skip
             all_goals (try simp only [hh, hq, hc, hwc, if_true, Int.toNat_natCast, Nat.zero_add])
             all_goals first | rfl | omega | (dsimp only; omega) | (exact congrArg (Value.int .i64) (by first | (rw [wI_id _ (by omega) (by omega)]; omega) | omega | (dsimp only; omega))) | (rename_i kk h1 h2; simp only [hq, hc, if_true] at h1 h2; first | exact k4 _ h1 h2 | exact k5 _ h1 h2 | exact wkB.lt2 (std_le wkB hs1 (by omega) h1 (by omega)) (wkB.lt1 (std_le wkB hs2 (by omega) (by omega) (by omega)) hc))
           | false =>
             repeat' (first | exact trivial | refine ⟨?_, ?_⟩ | intro _)
             all_goals first | (with_reducible first | apply qa | apply qb | apply qc | apply qd) | (conv => whnf)
             all_goals first | (exact absurd (hne.symm.trans ‹_ = false›) (by decide)) | skip
             all_goals first | (have hd := ‹(!decide (cfL _ _ < 0)) = false›; simp only [hh, hwc, Int.toNat_natCast, Nat.zero_add] at hd; exact absurd ((congrArg not hc).symm.trans hd) (by decide)) | skip
             all_goals (try simp only [hh, hq, hc, hwc, if_false, Bool.false_eq_true, Int.toNat_natCast, Nat.zero_add])
             all_goals first | rfl | omega | (dsimp only; omega) | (exact congrArg (Value.int .i64) (by first | (rw [wI_id _ (by omega) (by omega)]; omega) | omega | (dsimp only; omega))) | (rename_i kk h1 h2; simp only [hq, hc, if_false, Bool.false_eq_true] at h1 h2; first | exact k4 _ h1 h2 | exact k5 _ h1 h2 | exact wkB.le1 (std_le wkB hs2 (by omega) (by omega) (by omega)) (wkB.le1 hc (std_le wkB hs1 (by omega) (by omega) (by omega))))
         . have hne : decide ((i : Int) < (j : Int)) = false := decide_eq_false (by omega)
           obtain rfl : i = j := by omega
           obtain ⟨e, he0⟩ : ∃ e, e = mid + m - i := ⟨_, rfl⟩
           have he : e + i = mid + m := by omega
           have hwe : IntKind.wrap .i64 (((mid + m : Nat) : Int) - (i : Int)) = (e : Int) := by rw [wI_id _ (by omega) (by omega)]; omega
           have hb1 : a <= i /\ i <= m /\ m <= e /\ e <= b /\ i <= mid /\ mid <= e := by omega
           have hx1 : a < i -> e < b -> ltB (G e) (G (i - 1)) = false := by
            intro h1 h2
            have := k4 (i - 1) (by omega) (by omega)
            rw [show mid + m - 1 - (i - 1) = e by omega] at this
            exact this
           have hx2 : i < m -> m < e -> ltB (G (e - 1)) (G i) = true := by
            intro h1 h2
            have := k5 i (Nat.le_refl _) (by omega)
            rw [show mid + m - 1 - i = e - 1 by omega] at this
            exact this
           have hfin := sym_fin wkB G hb1.1 hb1.2.1 hb1.2.2.1 hb1.2.2.2.1 he hs1 hs2 hx1 hx2
           have hst1 := std_rot1 G hb1.1 hb1.2.1 hb1.2.2.1 hb1.2.2.2.1 he hs1 hs2
           have hst2 : ∀ H1 H2, H1 = rot G i m e -> H2 = put H1 a (mg ltB (seg H1 a i) (seg H1 i mid)) -> Std ltB (seg H2 mid e) /\ Std ltB (seg H2 e b) := by
            rintro H1 H2 h1 rfl
            exact (hst1 H1 h1).2.2 _ (by rw [mg_length, seg_length, seg_length]; omega)
           have hok : ∀ (H : Nat -> Bd) (i : Nat), i < n0 -> rowSB (bdC (H i)) := fun H i _ => rowSB_bdC _
           clear hx1 hx2 k4 k5 hlh hwl hwn hwp hmid he0
           repeat' (first | exact trivial | (with_reducible first | exact (hok _) | exact (fun h => absurd (hne.symm.trans h) Bool.false_ne_true)) | refine ⟨?_, ?_⟩ | (intro h; (first | have h1 := of_decide_eq_true h | have h1 := of_decide_eq_false h); clear h; (try simp only [hwe] at h1); (try dsimp only at h1); try (exfalso; omega)) | intro _)
           all_goals first | (with_reducible first | apply qa | apply qb | apply qc | apply qd) | (conv => whnf)
           all_goals (try dsimp only)
           all_goals first | rfl | omega | skip
           all_goals (try simp only [hwe, gF_bdC, Int.toNat_natCast])
           all_goals first | rfl | omega | (exact congrArg bdC (congrFun (hfin _ _ _ rfl rfl rfl) _)) | (exact congrArg bdC (congrFun (hfin _ _ _ rfl rfl (put_id _ hb1.2.2.2.2.2 hb1.2.2.2.1 (by omega)).symm) _)) | (exact congrArg bdC (congrFun (hfin _ _ _ rfl (put_id _ hb1.1 hb1.2.2.2.2.1 (by omega)).symm rfl) _)) | (exact congrArg bdC (congrFun (hfin _ _ _ rfl (put_id _ hb1.1 hb1.2.2.2.2.1 (by omega)).symm (put_id _ hb1.2.2.2.2.2 hb1.2.2.2.1 (by omega)).symm) _)) | (exact congrArg bdC (congrFun (hfin _ _ _ (rot_id G hb1.2.1 hb1.2.2.1 (by omega)).symm rfl rfl) _)) | (exact congrArg bdC (congrFun (hfin _ _ _ (rot_id G hb1.2.1 hb1.2.2.1 (by omega)).symm rfl (put_id _ hb1.2.2.2.2.2 hb1.2.2.2.1 (by omega)).symm) _)) | (exact congrArg bdC (congrFun (hfin _ _ _ (rot_id G hb1.2.1 hb1.2.2.1 (by omega)).symm (put_id _ hb1.1 hb1.2.2.2.2.1 (by omega)).symm rfl) _)) | (exact congrArg bdC (congrFun (hfin _ _ _ (rot_id G hb1.2.1 hb1.2.2.1 (by omega)).symm (put_id _ hb1.1 hb1.2.2.2.2.1 (by omega)).symm (put_id _ hb1.2.2.2.2.2 hb1.2.2.2.1 (by omega)).symm) _)) | exact (hst1 _ rfl).1 | exact (hst1 _ rfl).2.1 | exact (hst1 _ (rot_id G hb1.2.1 hb1.2.2.1 (by omega)).symm).1 | exact (hst1 _ (rot_id G hb1.2.1 hb1.2.2.1 (by omega)).symm).2.1 | exact (hst2 _ _ rfl rfl).1 | exact (hst2 _ _ rfl rfl).2 | exact (hst2 _ _ rfl (put_id _ hb1.1 hb1.2.2.2.2.1 (by omega)).symm).1 | exact (hst2 _ _ rfl (put_id _ hb1.1 hb1.2.2.2.2.1 (by omega)).symm).2 | exact (hst2 _ _ (rot_id G hb1.2.1 hb1.2.2.1 (by omega)).symm rfl).1 | exact (hst2 _ _ (rot_id G hb1.2.1 hb1.2.2.1 (by omega)).symm rfl).2 | exact (hst2 _ _ (rot_id G hb1.2.1 hb1.2.2.1 (by omega)).symm (put_id _ hb1.1 hb1.2.2.2.2.1 (by omega)).symm).1 | exact (hst2 _ _ (rot_id G hb1.2.1 hb1.2.2.1 (by omega)).symm (put_id _ hb1.1 hb1.2.2.2.2.1 (by omega)).symm).2 | skip
           all_goals trace_state
   . cases h
section
variable {α : Type} [Inhabited α] {lt : α → α → Bool}
def BS (lt : α -> α -> Bool) (G H : Nat -> α) (D n : Nat) : Prop := (∀ c, D ∣ c -> c < n -> seg H c (min (c + D) n) = srt lt (seg G c (min (c + D) n))) /\ ∀ k, n <= k -> H k = G k
def PB (lt : α -> α -> Bool) (G H H' : Nat -> α) (D a : Nat) : Prop := D ∣ a /\ (∀ c, D ∣ c -> c + D <= a -> seg H' c (c + D) = srt lt (seg G c (c + D))) /\ ∀ k, a <= k -> H' k = H k
theorem dvd_gap {D c a : Nat} (h1 : D ∣ c) (h2 : D ∣ a) (h : c < a) : c + D <= a := by
 have := Nat.le_of_dvd (by omega) (Nat.dvd_sub h2 h1)
 omega
theorem PB.start (G H : Nat -> α) (D : Nat) (hD : 0 < D) : PB lt G H H D 0 := ⟨Nat.dvd_zero _, fun c _ h => by omega, fun _ _ => rfl⟩
theorem PB.step {G H H' : Nat -> α} {D a : Nat} (h : PB lt G H H' D a) (hD : 0 < D) : PB lt G H (put H' a (srt lt (seg G a (a + D)))) D (a + D) := by
 obtain ⟨h1, h2, h3⟩ := h
 have hl : (srt lt (seg G a (a + D))).length = a + D - a := by rw [srt_length, seg_length]
 refine ⟨(Nat.dvd_add_right h1).2 (Nat.dvd_refl D), fun c hc hcd => ?_, fun k hk => ?_⟩
 . rcases Nat.lt_or_ge c a with hca | hca
   . have := dvd_gap hc h1 hca
     rw [<- h2 c hc this]
     exact seg_eq fun k _ hk => put_out (.inl (by omega))
   . have : c = a := by omega
     subst this
     exact seg_put _ _ _ _ hl (by omega)
 . rw [put_out (.inr (by omega)), h3 k (by omega)]
theorem PB.done {G H H' : Nat -> α} {D a n : Nat} (h : PB lt G H H' D a) (hD : 0 < D) (ha : a <= n) (hn : n < a + D) (hH : ∀ k, n <= k -> H k = G k) : BS lt G (put H' a (srt lt (seg G a n))) D n := by
 obtain ⟨h1, h2, h3⟩ := h
 have hl : (srt lt (seg G a n)).length = n - a := by rw [srt_length, seg_length]
 refine ⟨fun c hc hcn => ?_, fun k hk => ?_⟩
 . rcases Nat.lt_or_ge c a with hca | hca
   . have := dvd_gap hc h1 hca
     have e : min (c + D) n = c + D := by omega
     rw [e, <- h2 c hc this]
     exact seg_eq fun k _ hk => put_out (.inl (by omega))
   . have : c = a := by
      rcases Nat.lt_or_ge a c with h4 | h4
      . have := dvd_gap h1 hc h4; omega
      . omega
     subst this
     have e : min (c + D) n = n := by omega
     rw [e]
     exact seg_put _ _ _ _ hl (by omega)
 . rw [put_out (.inr (by omega)), h3 k (by omega), hH k hk]
theorem BS.two (hw : Wk lt) {G H H' : Nat -> α} {B a e n : Nat} (h : BS lt G H B n) (hp : PB lt G H H' (2 * B) a) (hB : 0 < B) (h1 : a + B < e) (h2 : e <= a + 2 * B) (h3 : e <= n) (h4 : e = a + 2 * B \/ e = n) :
 seg H' a (a + B) = srt lt (seg G a (a + B)) /\ seg H' (a + B) e = srt lt (seg G (a + B) e) /\ mg lt (seg H' a (a + B)) (seg H' (a + B) e) = srt lt (seg G a e) := by
 have d1 : B ∣ a := Nat.dvd_trans ⟨2, Nat.mul_comm 2 B⟩ hp.1
 have d2 : B ∣ a + B := (Nat.dvd_add_right d1).2 (Nat.dvd_refl B)
 have k1 := h.1 a d1 (by omega)
 have k2 := h.1 (a + B) d2 (by omega)
 rw [show min (a + B) n = a + B by omega] at k1
 rw [show min (a + B + B) n = e by omega] at k2
 have e1 : seg H' a (a + B) = seg H a (a + B) := seg_eq fun k hk _ => hp.2.2 k hk
 have e2 : seg H' (a + B) e = seg H (a + B) e := seg_eq fun k hk _ => hp.2.2 k (by omega)
 rw [e1, e2, k1, k2]
 refine ⟨rfl, rfl, ?_⟩
 rw [<- srt_append hw, <- seg_app G (by omega) (by omega)]
theorem BS.one {G H H' : Nat -> α} {B a n : Nat} (h : BS lt G H B n) (hp : PB lt G H H' (2 * B) a) (h1 : n <= a + B) (h2 : a <= n) : put H' a (srt lt (seg G a n)) = H' := by
 have e1 : seg H' a n = srt lt (seg G a n) := by
  rcases Nat.lt_or_ge a n with h3 | h3
  . have k1 := h.1 a (Nat.dvd_trans ⟨2, Nat.mul_comm 2 B⟩ hp.1) h3
    rw [show min (a + B) n = n by omega] at k1
    rw [<- k1]
    exact seg_eq fun k hk _ => hp.2.2 k hk
  . rw [seg_nil _ h3, seg_nil _ h3]; rfl
 rw [<- e1, put_seg]
theorem BS.fin {G H : Nat -> α} {B n : Nat} (h : BS lt G H B n) (hn : n <= B) : H = put G 0 (srt lt (seg G 0 n)) := by
 rcases Nat.eq_zero_or_pos n with h0 | h0
 . subst h0
   funext k
   rw [h.2 k (Nat.zero_le _)]
   exact (put_out (by rw [srt_length, seg_length]; omega)).symm
 . have k1 := h.1 0 (Nat.dvd_zero _) h0
   rw [show min (0 + B) n = n by omega] at k1
   rw [<- k1]
   funext k
   rcases Nat.lt_or_ge k n with hk | hk
   . have := putAt (g := G) (a := 0) (l := seg H 0 n) (k := k) (by rw [seg_length]; omega)
     rw [Nat.zero_add] at this
     rw [this, seg_getD (by omega), Nat.zero_add]
   . rw [put_out (by rw [seg_length]; omega)]; exact h.2 k hk
end
def FStable : List Ar -> Option Rs
 | [.c (.ow 9 n0 f0), .c (.d (.v (.int .i64 i1))), .fv g2] => some ⟨(n0 <= 1099511627776 /\ ∀ i, i < n0 -> rowSB (f0 i)) /\ (-9223372036854775808 <= i1 /\ i1 < 9223372036854775808) /\ ((0 <= i1 /\ i1 <= n0) /\ g2 = gLess), .tup [], [some fun k => bdC (put (gF f0) 0 (srt ltB (seg (gF f0) 0 (i1).toNat)) k)]⟩
 | _ => none
theorem fcStable : FC Tryz.prog 121 FStable := by
 intro xs pre r us h hp
 unfold FStable at h
 split at h
 . rename_i n0 f0 i1 g2
   cases h
   obtain ⟨hp0, hp1, hp2⟩ := hp
   refine FCat.deep (ys := [.c (.ow 9 n0 fun k => bdC (gF f0 k)), .c (.d (.v (.int .i64 i1))), .fv g2]) ?_ ?_
   . repeat' (first | exact trivial | exact rfl | exact DvE.refl _ | refine ⟨?_, ?_⟩ | fail)
     all_goals first | exact (canonF hp0.2).2.2
   refine fcat tys_ok (l := [(166, ⟨[true], FInsSort⟩), (167, ⟨[true], (FSym 2199023255552)⟩)]) ⟨fcInsSort, (fcSym 2199023255552), trivial⟩ Tryz.func121 rfl (by kernel_rfl) false ?_
   obtain ⟨⟨ha, hb⟩, rfl⟩ := hp2
   obtain ⟨n, rfl⟩ := Int.eq_ofNat_of_zero_le ha
   have hn := hp0.1
   clear hp0
   generalize gF f0 = G at *
   have hok : ∀ (H : Nat -> Bd) (i : Nat), i < n0 -> rowSB (bdC (H i)) := fun H i _ => rowSB_bdC _
   simp only [Int.toNat_natCast] at *
   repeat' (first | exact trivial | refine ⟨?_, ?_⟩ | intro _)
   all_goals first | (with_reducible first | apply qa | apply qb | apply qc | apply qd) | (conv => whnf)
   refine loop_ok tys_ok (l := [(166, ⟨[true], FInsSort⟩), (167, ⟨[true], (FSym 2199023255552)⟩)]) ⟨fcInsSort, (fcSym 2199023255552), trivial⟩ (by kernel_rfl) (X := Nat × (Nat -> Bd))
    (fun x => ⟨[(6, vx (.int .i64 20)), (7, vx (.int .i64 x.1)), (8, vx (.int .i64 (x.1 + 20 : Nat))), (0, .va (.c (.osl 0 9 0 n0))), (1, vx (.int .i64 n)), (2, .va (.c (.fv gLess)))], [(0, .row 9 n0 fun k => bdC (x.2 k))], 1, 63⟩)
    (fun x => n - x.1) (fun x => x.1 <= n /\ PB ltB G G x.2 20 x.1) [] []
    (fun x _ _ => (x.1 + 20, put x.2 x.1 (srt ltB (seg x.2 x.1 (x.1 + 20))))) [0] [0] 0 0 (0, G) ?_ ?_ ?_
   . exact ⟨Nat.zero_le _, PB.start G G 20 (by decide)⟩
   . repeat' (first | exact trivial | exact rfl | (intro _ _; exact rfl) | refine ⟨?_, ?_⟩ | fail)
   . rintro ⟨a, H⟩ ⟨k1, k2⟩
     dsimp only at k1 k2
     have hE : ∀ e, seg H a e = seg G a e := fun e => seg_eq fun k hk _ => k2.2.2 k hk
     have hw : IntKind.wrap .i64 (((a + 20 : Nat) : Int) + 20) = ((a + 20 + 20 : Nat) : Int) := by rw [wI_id _ (by omega) (by omega)]; omega
     rcases Nat.lt_or_ge n (a + 20) with hc | hc
     . have hne : decide (((a + 20 : Nat) : Int) <= (n : Int)) = false := decide_eq_false (by omega)
       repeat' (first | exact trivial | (with_reducible exact (hok _)) | refine ⟨?_, ?_⟩ | intro _)
       all_goals first | (with_reducible first | apply qa | apply qb | apply qc | apply qd) | (conv => whnf)
       all_goals first | (exact absurd (hne.symm.trans ‹_ = true›) (by decide)) | skip
       all_goals first | omega | (dsimp only; omega) | exact hok _ _ ‹_› | skip
       have hd := k2.done (by decide) k1 hc (fun _ _ => rfl)
       refine loop_ok tys_ok (l := [(166, ⟨[true], FInsSort⟩), (167, ⟨[true], (FSym 2199023255552)⟩)]) ⟨fcInsSort, (fcSym 2199023255552), trivial⟩ (by kernel_rfl) (X := Nat × (Nat -> Bd))
        (fun x => ⟨[(6, vx (.int .i64 x.1)), (0, .va (.c (.osl 0 9 0 n0))), (1, vx (.int .i64 n)), (2, .va (.c (.fv gLess)))], [(0, .row 9 n0 fun k => bdC (x.2 k))], 1, 63⟩)
        (fun x => n - x.1) (fun x => 0 < x.1 /\ (x.1 = 20 \/ x.1 < 2 * n) /\ BS ltB G x.2 x.1 n) [] [0]
        (fun x _ bs => (2 * x.1, match bs with | [.row _ _ f] => gF f | _ => G)) [0] [0] 0 0 (20, put H a (srt ltB (seg G a n))) ?_ ?_ ?_
       . exact ⟨Nat.zero_lt_succ _, .inl rfl, hd⟩
       . repeat' (first | exact trivial | exact rfl | (intro _ _; exact rfl) | refine ⟨?_, ?_⟩ | fail)
         all_goals (intro i _; dsimp only; simp only [gF_bdC, hE, Int.toNat_natCast])
       . rintro ⟨B, H1⟩ ⟨q1, q2, q3⟩
         dsimp only at q1 q2 q3
         clear hd k1 k2 hE hw hc hne
         rcases Nat.lt_or_ge B n with hc | hc
         . have hne : decide ((B : Int) < (n : Int)) = true := decide_eq_true (by omega)
           have hw2 : IntKind.wrap .i64 (2 * (B : Int)) = ((2 * B : Nat) : Int) := by rw [wI_id _ (by omega) (by omega)]; omega
           have hw5 : IntKind.wrap .i64 ((B : Int) * 2) = ((2 * B : Nat) : Int) := by rw [wI_id _ (by omega) (by omega)]; omega
           repeat' (first | exact trivial | refine ⟨?_, ?_⟩ | intro _)
           all_goals first | (with_reducible first | apply qa | apply qb | apply qc | apply qd) | (conv => whnf)
           all_goals first | (exact absurd (hne.symm.trans ‹_ = false›) (by decide)) | skip
           refine loop_ok tys_ok (l := [(166, ⟨[true], FInsSort⟩), (167, ⟨[true], (FSym 2199023255552)⟩)]) ⟨fcInsSort, (fcSym 2199023255552), trivial⟩ (by kernel_rfl) (X := Nat × (Nat -> Bd))
            (fun x => ⟨[(6, vx (.int .i64 B)), (7, vx (.int .i64 x.1)), (8, vx (.int .i64 (x.1 + 2 * B : Nat))), (0, .va (.c (.osl 0 9 0 n0))), (1, vx (.int .i64 n)), (2, .va (.c (.fv gLess)))], [(0, .row 9 n0 fun k => bdC (x.2 k))], 1, 63⟩)
            (fun x => n - x.1) (fun x => x.1 <= n /\ PB ltB G H1 x.2 (2 * B) x.1) [] []
            (fun x _ _ => (x.1 + 2 * B, put x.2 x.1 (srt ltB (seg G x.1 (x.1 + 2 * B))))) [0] [0] 0 0 (0, H1) ?_ ?_ ?_
           . exact ⟨Nat.zero_le _, PB.start G H1 (2 * B) (by omega)⟩
           . repeat' (first | exact trivial | exact rfl | (intro _ _; exact rfl) | refine ⟨?_, ?_⟩ | fail)
             all_goals (refine congrArg (Value.int .i64) ?_; rw [hw2]; dsimp only; omega)
           . rintro ⟨a, H⟩ ⟨k1, k2⟩
             dsimp only at k1 k2
             have hw3 : IntKind.wrap .i64 ((a : Int) + (B : Int)) = ((a + B : Nat) : Int) := by rw [wI_id _ (by omega) (by omega)]; omega
             have hw4 : IntKind.wrap .i64 (((a + 2 * B : Nat) : Int) + ((2 * B : Nat) : Int)) = ((a + 2 * B + 2 * B : Nat) : Int) := by rw [wI_id _ (by omega) (by omega)]; omega
             rcases Nat.lt_or_ge n (a + 2 * B) with hd | hd
             . have hn2 : decide (((a + 2 * B : Nat) : Int) <= (n : Int)) = false := decide_eq_false (by omega)
               have hfin := k2.done (by omega) k1 hd q3.2
               rcases Nat.lt_or_ge (a + B) n with hm | hm
               . have hn3 : decide (IntKind.wrap .i64 ((a : Int) + (B : Int)) < (n : Int)) = true := by rw [hw3]; exact decide_eq_true (by omega)
                 have ht := q3.two wkB k2 q1 hm (by omega) (Nat.le_refl n) (.inr rfl)
                 have hs1 : Std ltB (seg H a (a + B)) := by rw [ht.1]; exact srt_srt wkB _
                 have hs2 : Std ltB (seg H (a + B) n) := by rw [ht.2.1]; exact srt_srt wkB _
                 repeat' (first | exact trivial | (with_reducible first | exact (hok _) | exact (fun h => absurd (hn2.symm.trans h) Bool.false_ne_true) | exact (fun h => absurd (h.symm.trans hn2) Bool.false_ne_true) | exact (fun h => absurd (hn3.symm.trans h) Bool.false_ne_true) | exact (fun h => absurd (h.symm.trans hn3) Bool.false_ne_true)) | refine ⟨?_, ?_⟩ | intro _)
                 all_goals first | (with_reducible first | apply qa | apply qb | apply qc | apply qd) | (conv => whnf)
                 all_goals first | (exact absurd (hn2.symm.trans ‹_ = true›) (by decide)) | (exact absurd (hn3.symm.trans ‹_ = false›) (by decide)) | skip
                 all_goals (try dsimp only)
                 all_goals (try simp only [hw2, hw3, hw4, hw5, gF_bdC, ht.2.2, Int.toNat_natCast])
                 all_goals first | rfl | omega | exact hs1 | exact hs2 | exact hfin.1 _ ‹_› ‹_› | exact hfin.2 _ ‹_›
               . have hn3 : decide (IntKind.wrap .i64 ((a : Int) + (B : Int)) < (n : Int)) = false := by rw [hw3]; exact decide_eq_false (by omega)
                 rw [q3.one k2 hm k1] at hfin
                 repeat' (first | exact trivial | (with_reducible first | exact (hok _) | exact (fun h => absurd (hn2.symm.trans h) Bool.false_ne_true) | exact (fun h => absurd (h.symm.trans hn2) Bool.false_ne_true) | exact (fun h => absurd (hn3.symm.trans h) Bool.false_ne_true) | exact (fun h => absurd (h.symm.trans hn3) Bool.false_ne_true)) | refine ⟨?_, ?_⟩ | intro _)
                 all_goals first | (with_reducible first | apply qa | apply qb | apply qc | apply qd) | (conv => whnf)
                 all_goals first | (exact absurd (hn2.symm.trans ‹_ = true›) (by decide)) | (exact absurd (hn3.symm.trans ‹_ = true›) (by decide)) | skip
                 all_goals (try dsimp only)
                 all_goals (try simp only [hw2, hw3, hw4, hw5, gF_bdC, Int.toNat_natCast])
                 all_goals first | rfl | omega | exact hfin.1 _ ‹_› ‹_› | exact hfin.2 _ ‹_›
             . have hn2 : decide (((a + 2 * B : Nat) : Int) <= (n : Int)) = true := decide_eq_true (by omega)
               have ht := q3.two wkB k2 q1 (by omega : a + B < a + 2 * B) (Nat.le_refl _) hd (.inl rfl)
               have hs1 : Std ltB (seg H a (a + B)) := by rw [ht.1]; exact srt_srt wkB _
               have hs2 : Std ltB (seg H (a + B) (a + 2 * B)) := by rw [ht.2.1]; exact srt_srt wkB _
               have hs := k2.step (by omega)
               have hdv := hs.1
               repeat' (first | exact trivial | (with_reducible first | exact (hok _) | exact hdv) | refine ⟨?_, ?_⟩ | intro _)
               all_goals first | (with_reducible first | apply qa | apply qb | apply qc | apply qd) | (conv => whnf)
               all_goals first | (exact absurd (hn2.symm.trans ‹_ = false›) (by decide)) | skip
               all_goals (try dsimp only)
               all_goals (try simp only [hw2, hw3, hw4, hw5, gF_bdC, ht.2.2, Int.toNat_natCast])
               all_goals first | rfl | omega | exact hs1 | exact hs2 | exact hs.1 | exact hs.2.1 _ ‹_› ‹_› | exact hs.2.2 _ ‹_›
         . have hne : decide ((B : Int) < (n : Int)) = false := decide_eq_false (by omega)
           have hf := q3.fin hc
           repeat' (first | exact trivial | refine ⟨?_, ?_⟩ | intro _)
           all_goals first | (with_reducible first | apply qa | apply qb | apply qc | apply qd) | (conv => whnf)
           all_goals first | (exact absurd (hne.symm.trans ‹_ = true›) (by decide)) | skip
           all_goals first | exact Nat.le_refl _ | exact congrArg bdC (congrFun hf _)
     . have hne : decide (((a + 20 : Nat) : Int) <= (n : Int)) = true := decide_eq_true (by omega)
       have hs := k2.step (by decide)
       have hdv := hs.1
       repeat' (first | exact trivial | (with_reducible first | exact (hok _) | exact hdv) | refine ⟨?_, ?_⟩ | intro _)
       all_goals first | (with_reducible first | apply qa | apply qb | apply qc | apply qd) | (conv => whnf)
       all_goals first | (exact absurd (hne.symm.trans ‹_ = false›) (by decide)) | skip
       all_goals (try dsimp only)
       all_goals (try simp only [hE, hw, gF_bdC, Int.toNat_natCast])
       all_goals first | rfl | omega | exact hs.1 | exact hs.2.1 _ ‹_› ‹_› | exact hs.2.2 _ ‹_›
 . cases h
def ddA (p : Bd) : List Bd -> List Bd
 | [] => []
 | y :: r => if y.name = p.name then ddA y r else y :: ddA y r
def dd : List Bd -> List Bd
 | [] => []
 | x :: r => x :: ddA x r
theorem ddA_snoc (r : List Bd) (p y : Bd) : ddA p (r ++ [y]) = if y.name = (r.getLastD p).name then ddA p r else ddA p r ++ [y] := by
 induction r generalizing p with
 | nil => simp only [List.nil_append, ddA]; rfl
 | cons x r ih =>
   have e : (x :: r).getLastD p = r.getLastD x := by cases r <;> simp [List.getLastD]
   rw [List.cons_append, ddA, ddA, ih x, e]
   split <;> split <;> rfl
theorem dd_snoc (l : List Bd) (x y : Bd) : dd (l ++ [x] ++ [y]) = if y.name = x.name then dd (l ++ [x]) else dd (l ++ [x]) ++ [y] := by
 cases l with
 | nil => simp only [List.nil_append, List.cons_append, dd, ddA]; split <;> rfl
 | cons a l =>
   have e : (l ++ [x]).getLastD a = x := by simp
   simp only [List.cons_append, dd]
   rw [ddA_snoc, e]
   split <;> rfl
theorem ddA_len (r : List Bd) (p : Bd) : (ddA p r).length <= r.length := by
 induction r generalizing p with
 | nil => exact Nat.le_refl _
 | cons x r ih => rw [ddA]; have := ih x; split <;> simp <;> omega
theorem dd_len (l : List Bd) : (dd l).length <= l.length := by
 cases l with
 | nil => exact Nat.le_refl _
 | cons x r => simp only [dd, List.length_cons]; have := ddA_len r x; omega
theorem dd_seg (G : Nat -> Bd) (k : Nat) : dd (seg G 0 (k + 1 + 1)) = if (G (k + 1)).name = (G k).name then dd (seg G 0 (k + 1)) else dd (seg G 0 (k + 1)) ++ [G (k + 1)] := by
 rw [seg_snoc G (Nat.zero_le (k + 1)), seg_snoc G (Nat.zero_le k), dd_snoc]
theorem dd_small (G : Nat -> Bd) {n : Nat} (h : n < 2) : dd (seg G 0 n) = seg G 0 n := by
 rcases (by omega : n = 0 \/ n = 1) with rfl | rfl <;> rfl
theorem row_push {G : Nat -> Bd} {L : List Bd} {x : Bd} {i : Nat} {r : List DV} (hi : i = L.length) (hr : r = bdC x) (k : Nat) : setRow (fun k => bdC (put G 0 L k)) i r k = bdC (put G 0 (L ++ [x]) k) := by
 subst hi; subst hr
 rw [setRow_at]
 split
 . rename_i h; subst h
   have := put_mid G 0 L x []
   rw [Nat.zero_add] at this
   rw [this]
 . rename_i h
   unfold put
   rw [List.length_append]
   by_cases c : k < L.length
   . rw [if_pos (by omega), if_pos (by simp; omega), List.getD_eq_getElem?_getD, List.getD_eq_getElem?_getD, List.getElem?_append_left (by omega)]
   . rw [if_neg (by omega), if_neg (by simp; omega)]
theorem clr_lo {f : Nat -> List DV} {o len : Nat} {ds : List DV} {k : Nat} (h : k < o) : clrRow f o len ds k = f k := by
 unfold clrRow; rw [if_neg (by omega)]
theorem seg_gBs (n : Nat) (f : Nat -> List DV) : seg (gF f) 0 n = gBs n f := by
 unfold seg gBs gF
 rw [Nat.sub_zero, List.range_eq_range']
theorem put_atB {G : Nat -> Bd} {l : List Bd} {k : Nat} (h : k < l.length) : put G 0 l k = atB l k := by
 have := putAt (g := G) (a := 0) h
 rw [Nat.zero_add] at this; exact this
theorem seg_at {G : Nat -> Bd} {n k : Nat} (h : k < n) : atB (seg G 0 n) k = G k := by
 unfold atB; rw [seg_getD (by omega), Nat.zero_add]
def FSameN : List Ar -> Option Rs
 | [.agg [.d (.v (.string x0)), .d (.v (.bool _)), .d (.v (.int .i64 _)), .d (.v (.int .i64 _)), .d (.v (.bool _)), .d (.v (.int .i64 _)), .d (.v (.int .i64 _)), .d (.v (.bool _)), .d (.lst 1 _ _)], .agg [.d (.v (.string x1)), .d (.v (.bool _)), .d (.v (.int .i64 _)), .d (.v (.int .i64 _)), .d (.v (.bool _)), .d (.v (.int .i64 _)), .d (.v (.int .i64 _)), .d (.v (.bool _)), .d (.lst 1 _ _)]] => some ⟨True, .va (.c (.d (bo (decide (x0 = x1))))), []⟩
 | _ => none
theorem fcSameN : FC Tryz.prog 72 FSameN := by
 intro xs pre r us h hp
 unfold FSameN at h
 split at h
 . rename_i x0 s0 l0 h0 b0 m0 r0 z0 n0 f0 x1 s1 l1 h1 b1 m1 r1 z1 n1 f1
   cases h
   refine fcat tys_ok (l := []) trivial Tryz.func72 rfl (by kernel_rfl) false ?_
   repeat' (first | exact trivial | refine ⟨?_, ?_⟩ | intro _)
   all_goals first | (with_reducible first | apply qa | apply qb | apply qc | apply qd) | (conv => whnf)
   all_goals exact congrArg Value.bool (seq_iff _ _)
 . cases h
abbrev gSame : List Cv -> Option Gs := mkFv (sums [(72, ⟨[], FSameN⟩)]) 72 []
def FCompact : List Ar -> Option Rs
 | [.c (.ow 9 n0 f0), .fv g1] => some ⟨(n0 <= 1099511627776 /\ ∀ i, i < n0 -> rowSB (f0 i)) /\ (g1 = gSame), .va (.c (.ow 9 (dd (gBs n0 f0)).length (rwB (dd (gBs n0 f0))))), [none]⟩
 | _ => none
theorem fcCompact : FC Tryz.prog 71 FCompact := by
 intro xs pre r us h hp
 unfold FCompact at h
 split at h
 . rename_i n0 f0 g1
   cases h
   obtain ⟨hp0, hp1⟩ := hp
   refine FCat.deep (ys := [.c (.ow 9 n0 fun k => bdC (gF f0 k)), .fv g1]) ?_ ?_
   . repeat' (first | exact trivial | exact rfl | exact DvE.refl _ | refine ⟨?_, ?_⟩ | fail)
     all_goals first | exact (canonF hp0.2).2.2
   refine fcat tys_ok (l := []) trivial Tryz.func71 rfl (by kernel_rfl) false ?_
   obtain rfl := hp1
   have hn := hp0.1
   clear hp0
   rw [<- seg_gBs]
   generalize gF f0 = G at *
   have hl := dd_len (seg G 0 n0)
   rw [seg_length] at hl
   repeat' (first | exact trivial | refine ⟨?_, ?_⟩ | intro _)
   all_goals first | (with_reducible first | apply qa | apply qb | apply qc | apply qd) | (conv => whnf)
   all_goals first | (have hlt := of_decide_eq_true ‹_ = true›; have hd := dd_small G (n := n0) (by omega); first | omega | (rw [hd, seg_length]; rfl) | (rename_i i hi; rw [hd]; exact congrArg bdC (seg_at hi).symm)) | skip
   have hge := of_decide_eq_false ‹_ = false›
   refine loop_ok tys_ok (l := []) trivial (by kernel_rfl) (X := Nat)
    (fun k => ⟨[(5, vx (.int .i64 (k + 1 : Nat))), (0, .va (.c (.osl 0 9 0 n0))), (1, .va (.c (.fv gSame)))], [(0, .row 9 n0 fun k => bdC (G k))], 1, 66⟩)
    (fun k => n0 - k) (fun k => k + 1 <= n0 /\ dd (seg G 0 (k + 1)) = seg G 0 (k + 1)) [] [] (fun k _ _ => k + 1) [0] [0] 0 0 0 ?_ ?_ ?_
   . exact ⟨by omega, dd_small G (by decide)⟩
   . repeat' (first | exact trivial | exact rfl | (intro _ _; exact rfl) | refine ⟨?_, ?_⟩ | fail)
   . rintro k ⟨k1, k2⟩
     have hw : IntKind.wrap .i64 (((k + 1 : Nat) : Int) - 1) = (k : Int) := by rw [wI_id _ (by omega) (by omega)]; omega
     rcases Nat.lt_or_ge (k + 1) n0 with hk | hk
     . have hne : decide (((k + 1 : Nat) : Int) < (n0 : Int)) = true := decide_eq_true (by omega)
       have hs := dd_seg G k
       by_cases hc : (G (k + 1)).name = (G k).name
       . have hcd : decide ((G (k + 1)).name = (G k).name) = true := decide_eq_true hc
         rw [if_pos hc] at hs
         repeat' (first | exact trivial | refine ⟨?_, ?_⟩ | intro _)
         all_goals first | (with_reducible first | apply qa | apply qb | apply qc | apply qd) | (conv => whnf)
         all_goals first | (exact absurd (hne.symm.trans ‹_ = false›) (by decide)) | skip
         all_goals first | (have hd := ‹decide ((G _).name = _) = false›; simp only [hw, Int.toNat_natCast, Nat.zero_add] at hd; exact absurd (hcd.symm.trans hd) (by decide)) | skip
         all_goals (try simp only [hw, Int.toNat_natCast, Nat.zero_add])
         all_goals first | omega | skip
         refine loop_ok tys_ok (l := []) trivial (by kernel_rfl) (X := Nat)
          (fun j => ⟨[(7, vx (.int .i64 (j + 1 : Nat))), (6, .va (.c (.osl 0 9 (k + 1) (n0 - (k + 1))))), (5, vx (.int .i64 (dd (seg G 0 (k + 1 + (j + 1)))).length)), (0, .va (.c (.osl 0 9 0 n0))), (1, .va (.c (.fv gSame)))], [(0, .row 9 n0 fun x => bdC (put G 0 (dd (seg G 0 (k + 1 + (j + 1)))) x))], 1, 66⟩)
          (fun j => n0 - j) (fun j => k + 1 + (j + 1) <= n0 /\ (dd (seg G 0 (k + 1 + (j + 1)))).length <= k + 1 + j) [] [] (fun j _ _ => j + 1) [0] [0] 0 0 0 ?_ ?_ ?_
         . exact ⟨by omega, by rw [hs, k2, seg_length]; omega⟩
         . rw [hs, k2, put_seg, seg_length]
           repeat' (first | exact trivial | exact rfl | (intro _ _; exact rfl) | refine ⟨?_, ?_⟩ | fail)
           all_goals omega
         . rintro j ⟨q1, q2⟩
           have hw2 : IntKind.wrap .i64 (((j + 1 : Nat) : Int) - 1) = (j : Int) := by rw [wI_id _ (by omega) (by omega)]; omega
           have hg1 : put G 0 (dd (seg G 0 (k + 1 + (j + 1)))) (k + 1 + (j + 1)) = G (k + 1 + (j + 1)) := put_out (.inr (by omega))
           have hg2 : put G 0 (dd (seg G 0 (k + 1 + (j + 1)))) (k + 1 + j) = G (k + 1 + j) := put_out (.inr (by omega))
           rcases Nat.lt_or_ge (k + 1 + (j + 1)) n0 with hj | hj
           . have hne2 : decide (((j + 1 : Nat) : Int) < ((n0 - (k + 1) : Nat) : Int)) = true := decide_eq_true (by omega)
             have hs2 := dd_seg G (k + 1 + j)
             rw [show k + 1 + j + 1 = k + 1 + (j + 1) by omega, show k + 1 + (j + 1) + 1 = k + 1 + (j + 1 + 1) by omega] at hs2
             by_cases hc2 : (G (k + 1 + (j + 1))).name = (G (k + 1 + j)).name
             . have hcd2 : decide ((G (k + 1 + (j + 1))).name = (G (k + 1 + j)).name) = true := decide_eq_true hc2
               rw [if_pos hc2] at hs2
               repeat' (first | exact trivial | refine ⟨?_, ?_⟩ | intro _)
               all_goals first | (with_reducible first | apply qa | apply qb | apply qc | apply qd) | (conv => whnf)
               all_goals first | (exact absurd (hne2.symm.trans ‹_ = false›) (by decide)) | skip
               all_goals first | (have hd := ‹(!decide ((put G 0 _ _).name = _)) = true›; simp only [hw2, hg1, hg2, hcd2, Int.toNat_natCast] at hd; exact absurd hd (by decide)) | skip
               all_goals (try simp only [hw2, hs2, Int.toNat_natCast])
               all_goals first | rfl | omega | (exact congrArg (Value.int .i64) (by first | (rw [wI_id _ (by omega) (by omega)]; omega) | omega | (dsimp only; omega)))
             . have hcd2 : decide ((G (k + 1 + (j + 1))).name = (G (k + 1 + j)).name) = false := decide_eq_false hc2
               rw [if_neg hc2] at hs2
               have hlen : (dd (seg G 0 (k + 1 + (j + 1 + 1)))).length = (dd (seg G 0 (k + 1 + (j + 1)))).length + 1 := by rw [hs2]; simp
               repeat' (first | exact trivial | refine ⟨?_, ?_⟩ | intro _)
               all_goals first | (with_reducible first | apply qa | apply qb | apply qc | apply qd) | (conv => whnf)
               all_goals first | (exact absurd (hne2.symm.trans ‹_ = false›) (by decide)) | skip
               all_goals first | (have hd := ‹(!decide ((put G 0 _ _).name = _)) = false›; simp only [hw2, hg1, hg2, hcd2, Int.toNat_natCast] at hd; exact absurd hd (by decide)) | skip
               all_goals (try simp only [hw2, hlen, Int.toNat_natCast, Nat.zero_add])
               all_goals first | rfl | omega | (exact congrArg (Value.int .i64) (by first | (rw [wI_id _ (by omega) (by omega)]; omega) | omega | (dsimp only; omega))) | (rw [hs2]; exact row_push rfl (by rw [hg1]) _)
           . have hne2 : decide (((j + 1 : Nat) : Int) < ((n0 - (k + 1) : Nat) : Int)) = false := decide_eq_false (by omega)
             obtain rfl : n0 = k + 1 + (j + 1) := by omega
             repeat' (first | exact trivial | refine ⟨?_, ?_⟩ | intro _)
             all_goals first | (with_reducible first | apply qa | apply qb | apply qc | apply qd) | (conv => whnf)
             all_goals first | (exact absurd (hne2.symm.trans ‹_ = true›) (by decide)) | skip
             all_goals (try simp only [Int.toNat_natCast, Nat.zero_add])
             all_goals first | rfl | omega | (rename_i i hi; rw [clr_lo (by omega)]; exact congrArg bdC (put_atB (by omega)))
       . have hcd : decide ((G (k + 1)).name = (G k).name) = false := decide_eq_false hc
         rw [if_neg hc, k2, <- seg_snoc G (Nat.zero_le _)] at hs
         repeat' (first | exact trivial | refine ⟨?_, ?_⟩ | intro _)
         all_goals first | (with_reducible first | apply qa | apply qb | apply qc | apply qd) | (conv => whnf)
         all_goals first | (exact absurd (hne.symm.trans ‹_ = false›) (by decide)) | skip
         all_goals first | (have hd := ‹decide ((G _).name = _) = true›; simp only [hw, Int.toNat_natCast, Nat.zero_add] at hd; exact absurd (hcd.symm.trans hd) (by decide)) | skip
         all_goals (try simp only [hw, Int.toNat_natCast, Nat.zero_add])
         all_goals first | rfl | omega | exact hs | (exact congrArg (Value.int .i64) (by first | (rw [wI_id _ (by omega) (by omega)]; omega) | omega | (dsimp only; omega)))
     . have hne : decide (((k + 1 : Nat) : Int) < (n0 : Int)) = false := decide_eq_false (by omega)
       obtain rfl : n0 = k + 1 := by omega
       repeat' (first | exact trivial | refine ⟨?_, ?_⟩ | intro _)
       all_goals first | (with_reducible first | apply qa | apply qb | apply qc | apply qd) | (conv => whnf)
       all_goals first | (exact absurd (hne.symm.trans ‹_ = true›) (by decide)) | skip
       all_goals first | omega | (rw [k2, seg_length]; rfl) | (rename_i i hi; rw [k2]; exact congrArg bdC (seg_at hi).symm)
 . cases h
structure RowsOk (n : Nat) (f : Nat -> List DV) : Prop where
 h : ∀ i, i < n -> rowOkB (f i)
def FSortF : List Ar -> Option Rs
 | [.c (.ow 9 n0 f0), .fv g1] => some ⟨(n0 <= 1099511627776 /\ ∀ i, i < n0 -> rowSB (f0 i)) /\ (g1 = gLess), .tup [], [some fun k => bdC (put (gF f0) 0 (srt ltB (gBs n0 f0)) k)]⟩
 | _ => none
theorem fcSortF : FC Tryz.prog 68 FSortF := by
 intro xs pre r us h hp
 unfold FSortF at h
 split at h
 . rename_i n0 f0 g1
   cases h
   obtain ⟨hp0, hp1⟩ := hp
   refine FCat.deep (ys := [.c (.ow 9 n0 fun k => bdC (gF f0 k)), .fv g1]) ?_ ?_
   . repeat' (first | exact trivial | exact rfl | exact DvE.refl _ | refine ⟨?_, ?_⟩ | fail)
     all_goals first | exact (canonF hp0.2).2.2
   refine fcat tys_ok (l := [(121, ⟨[true], FStable⟩)]) ⟨fcStable, trivial⟩ Tryz.func68 rfl (by kernel_rfl) false ?_
   obtain rfl := hp1
   have hn := hp0.1
   clear hp0
   rw [<- seg_gBs]
   generalize gF f0 = G at *
   have hok : ∀ (H : Nat -> Bd) (i : Nat), i < n0 -> rowSB (bdC (H i)) := fun H i _ => rowSB_bdC _
   repeat' (first | exact trivial | (with_reducible exact (hok _)) | refine ⟨?_, ?_⟩ | intro _)
   all_goals first | (with_reducible first | apply qa | apply qb | apply qc | apply qd) | (conv => whnf)
   all_goals (try simp only [gF_bdC, Int.toNat_natCast])
   all_goals first | rfl | omega
 . cases h
def FBClone : List Ar -> Option Rs
 | [.c (.d (.lst 9 n0 f0))] => some ⟨(n0 <= 1099511627776 /\ RowsOk n0 f0), .va (.c (.ow 9 n0 (rwB (gBs n0 f0)))), []⟩
 | _ => none
theorem fcBClone : FC Tryz.prog 67 FBClone := by
 intro xs pre r us h hp
 unfold FBClone at h
 split at h
 . rename_i n0 f0
   cases h
   have hp0 := hp
   refine FCat.deep (ys := [.c (.d (.lst 9 n0 (rwB (gBs n0 f0))))]) ?_ ?_
   . repeat' (first | exact trivial | exact rfl | exact DvE.refl _ | refine ⟨?_, ?_⟩ | fail)
     all_goals first | exact canonB hp0.2.h
   refine fcat tys_ok (l := []) trivial Tryz.func67 rfl (by kernel_rfl) false ?_
   have hn := hp0.1
   generalize gBs n0 f0 = L at *
   clear hp0
   repeat' (first | exact trivial | refine ⟨?_, ?_⟩ | intro _)
   all_goals first | (with_reducible first | apply qa | apply qb | apply qc | apply qd) | (conv => whnf)
   all_goals first | omega | rfl | (simp_all; done) | (simp [appRow]; done) | exact ‹_ = true -> _› ‹_›
 . cases h
def FVCleanV : List Ar -> Option Rs
 | [.agg [.d (.v (.bool s0)), .d (.v (.int .i64 l0)), .d (.v (.int .i64 h0)), .d (.v (.bool b0)), .d (.v (.int .i64 m0)), .d (.v (.int .i64 r0)), .d (.v (.bool z0)), .d (.lst 1 n0 f0)]] => some ⟨((n0 * 16 <= 140737488351232 /\ ∀ i, i < n0 -> f0 i = [st (gT (f0 i))]) /\ Sp.inR ⟨s0, l0, h0⟩ /\ Cg.inR ⟨b0, m0, r0⟩), .va (Vl.ar (Vl.of (⟨⟨⟨s0, l0, h0⟩, ⟨b0, m0, r0⟩⟩, ⟨z0, gN n0 f0⟩⟩ : Vl))), []⟩
 | _ => none
theorem fcVCleanV : FC Tryz.prog 62 FVCleanV := by
 intro xs pre r us h hp
 unfold FVCleanV at h
 split at h
 . rename_i s0 l0 h0 b0 m0 r0 z0 n0 f0
   cases h
   have hp0 := hp
   refine FCat.of_eq (as' := [.agg [.d (.v (.bool s0)), .d (.v (.int .i64 l0)), .d (.v (.int .i64 h0)), .d (.v (.bool b0)), .d (.v (.int .i64 m0)), .d (.v (.int .i64 r0)), .d (.v (.bool z0)), .d (.lst 1 n0 fun i => [st (gT (f0 i))])]]) ?_ rfl rfl ?_
   . repeat' (first | exact trivial | exact rfl | refine ⟨?_, ?_⟩ | fail)
     all_goals first | exact hp0.2 | exact hp1.2 | exact hp2.2 | (intro i hi; exact (hp0.2 i hi).1) | (intro i hi; exact (hp1.2 i hi).1) | (intro i hi; exact (hp2.2 i hi).1) | grind
   refine fcat tys_ok (l := [(116, ⟨[], FVOf⟩), (117, ⟨[], FVValue⟩)]) ⟨fcVOf, fcVValue, trivial⟩ Tryz.func62 rfl (by kernel_rfl) true ?_
   have hv0 : okV (⟨⟨⟨s0, l0, h0⟩, ⟨b0, m0, r0⟩⟩, ⟨z0, gN n0 fun i => [st (gT (f0 i))]⟩⟩ : Vl) := ⟨⟨(by rw [gN_length]; exact hp0.1.1), fun _ _ => rfl⟩, hp0.2⟩
   have ho0 := okV_of hv0
   have hoo0 := okV_of ho0
   unfold okV at ho0 hoo0
   repeat' (first | exact trivial | (with_reducible first | exact ho0 | exact ho0.1 | exact ho0.2.1 | exact ho0.2.2 | exact hp0 | exact hp0.1 | exact hp0.2 | exact hp0.2.1 | exact hp0.2.2 | exact hoo0 | exact hoo0.1 | exact hoo0.2.1 | exact hoo0.2.2) | refine ⟨?_, ?_⟩ | intro _)
   all_goals first | (with_reducible first | apply qa | apply qb | apply qc | apply qd) | (conv => whnf)
   all_goals (try simp only [gN_lst] at *)
   all_goals first | rfl | (with_reducible exact hp0.1.1)
 . cases h
namespace En
def clean (e : En) : En := if e.live = true then ⟨true, (dd (srt ltB e.binds)).map fun b => ⟨b.name, b.v.of⟩⟩ else ⟨false, []⟩
end En
theorem srt_rows (L : List Bd) : (gBs L.length fun k => bdC (put (gF (rwB L)) 0 (srt ltB L) k)) = srt ltB L := by
 rw [<- seg_gBs, gF_bdC]
 exact seg_put _ _ _ _ (by rw [srt_length]; omega) (Nat.zero_le _)
def cln (D : List Bd) (i : Nat) : Nat -> Bd := fun k => if k < i then ⟨(atB D k).name, (atB D k).v.of⟩ else atB D k
theorem cln_at (D : List Bd) (i : Nat) : cln D i i = atB D i := if_neg (Nat.lt_irrefl i)
theorem cln_step {D : List Bd} {i : Nat} {r : List DV} (hr : r = bdC ⟨(atB D i).name, (atB D i).v.of⟩) (k : Nat) : setRow (fun k => bdC (cln D i k)) i r k = bdC (cln D (i + 1) k) := by
 subst hr
 rw [setRow_at]
 unfold cln
 split
 . rename_i h; subst h; rw [if_pos (Nat.lt_succ_self k)]
 . rename_i h
   by_cases c : k < i
   . rw [if_pos c, if_pos (by omega)]
   . rw [if_neg c, if_neg (by omega)]
theorem atB_map (D : List Bd) (f : Bd -> Bd) {k : Nat} (hk : k < D.length) : atB (D.map f) k = f (atB D k) := by
 unfold atB; simp [List.getD_eq_getElem?_getD, hk]
theorem ddA_sub (r : List Bd) (p : Bd) {x : Bd} (h : x ∈ ddA p r) : x ∈ r := by
 induction r generalizing p with
 | nil => cases h
 | cons y r ih =>
   rw [ddA] at h
   split at h
   . exact List.mem_cons_of_mem _ (ih _ h)
   . rcases List.mem_cons.1 h with rfl | h
     . exact List.mem_cons_self
     . exact List.mem_cons_of_mem _ (ih _ h)
theorem dd_sub {l : List Bd} {x : Bd} (h : x ∈ dd l) : x ∈ l := by
 cases l with
 | nil => exact h
 | cons y r =>
   rcases List.mem_cons.1 h with rfl | h
   . exact List.mem_cons_self
   . exact List.mem_cons_of_mem _ (ddA_sub _ _ h)
theorem atB_mem {l : List Bd} {k : Nat} (h : k < l.length) : atB l k ∈ l := by
 unfold atB; rw [List.getD_eq_getElem?_getD, List.getElem?_eq_getElem h]; exact List.getElem_mem h
theorem mem_atB {l : List Bd} {x : Bd} (h : x ∈ l) : ∃ k, k < l.length /\ atB l k = x := by
 obtain ⟨k, hk, e⟩ := List.mem_iff_getElem.1 h
 exact ⟨k, hk, by unfold atB; rw [List.getD_eq_getElem?_getD, List.getElem?_eq_getElem hk]; exact e⟩
def okL (l : List Bd) : Prop := ∀ x ∈ l, okB x
theorem okL_at {l : List Bd} (h : okL l) {k : Nat} (hk : k < l.length) : okB (atB l k) := h _ (atB_mem hk)
theorem okL_rows {n : Nat} {f : Nat -> List DV} (h : RowsOk n f) : okL (gBs n f) := by
 intro x hx
 obtain ⟨k, hk, rfl⟩ := mem_atB hx
 rw [gBs_length] at hk
 exact okB_at h.h k hk
theorem okL_row {l : List Bd} (h : okL l) : RowsOk l.length (rwB l) := ⟨fun i hi => rowOkB_bdC (okL_at h hi)⟩
theorem okL_srt {l : List Bd} (h : okL l) : okL (srt ltB l) := fun x hx => h x (srt_mem.1 hx)
theorem okL_dd {l : List Bd} (h : okL l) : okL (dd l) := fun x hx => h x (dd_sub hx)
theorem okL_of {l : List Bd} (h : okL l) : okL (l.map fun b => ⟨b.name, b.v.of⟩) := by
 intro x hx
 obtain ⟨b, hb, rfl⟩ := List.mem_map.1 hx
 exact okV_of (h b hb)
theorem clean_ok {e : En} (h : okL e.binds) : okL e.clean.binds := by
 unfold En.clean
 split
 . exact okL_of (okL_dd (okL_srt h))
 . intro x hx; cases hx
theorem clean_len (e : En) : e.clean.binds.length <= e.binds.length := by
 unfold En.clean
 split
 . show (List.map _ _).length <= _
   rw [List.length_map]
   have := dd_len (srt ltB e.binds)
   rw [srt_length] at this; exact this
 . exact Nat.zero_le _
def FEClean : List Ar -> Option Rs
 | [.agg [.d (.v (.bool e0)), .d (.lst 9 n0 f0)]] => some ⟨(n0 <= 1099511627776 /\ RowsOk n0 f0), .va (En.ar (En.clean (⟨e0, gBs n0 f0⟩ : En))), []⟩
 | _ => none
theorem fcEClean : FC Tryz.prog 22 FEClean := by
 intro xs pre r us h hp
 unfold FEClean at h
 split at h
 . rename_i e0 n0 f0
   cases h
   have hp0 := hp
   refine FCat.deep (ys := [.agg [.d (.v (.bool e0)), .d (.lst 9 n0 (rwB (gBs n0 f0)))]]) ?_ ?_
   . repeat' (first | exact trivial | exact rfl | exact DvE.refl _ | refine ⟨?_, ?_⟩ | fail)
     all_goals first | exact canonB hp0.2.h
   refine fcat tys_ok (l := [(67, ⟨[], FBClone⟩), (68, ⟨[true], FSortF⟩), (71, ⟨[true], FCompact⟩), (62, ⟨[], FVCleanV⟩), (69, ⟨[], FLess⟩), (72, ⟨[], FSameN⟩)]) ⟨fcBClone, fcSortF, fcCompact, fcVCleanV, fcLess, fcSameN, trivial⟩ Tryz.func22 rfl (by kernel_rfl) true ?_
   have hn := hp0.1
   have hL := okL_rows hp0.2
   have hlen := gBs_length n0 f0
   generalize gBs n0 f0 = L at *
   clear hp hp0
   subst hlen
   have hok : ∀ (H : Nat -> Bd) (i : Nat), i < L.length -> rowSB (bdC (H i)) := fun H i _ => rowSB_bdC _
   have hrow := okL_row hL
   repeat' (first | exact trivial | (with_reducible first | exact (hok _) | exact hrow) | refine ⟨?_, ?_⟩ | intro _)
   all_goals first | (with_reducible first | apply qa | apply qb | apply qc | apply qd) | (conv => whnf)
   all_goals first | exact hn | exact Nat.le_refl _ | rfl | skip
   . rw [show e0 = false by simpa using ‹(!e0) = true›]; rfl
   . rw [show e0 = false by simpa using ‹(!e0) = true›]; rfl
   obtain rfl : e0 = true := by simpa using ‹(!e0) = false›
   generalize hD : dd (gBs L.length fun k => bdC (put (gF (rwB (gBs L.length (rwB L)))) 0 (srt ltB (gBs L.length (rwB (gBs L.length (rwB L))))) k)) = D
   have hD2 : D = dd (srt ltB L) := by
    rw [<- hD, gBs_row, gBs_row, srt_rows]
   clear hD
   have hC : En.clean ⟨true, L⟩ = ⟨true, D.map fun b => ⟨b.name, b.v.of⟩⟩ := by rw [hD2]; rfl
   have hDl : D.length <= L.length := by have := dd_len (srt ltB L); rw [srt_length] at this; rw [hD2]; exact this
   have hDo : okL D := by rw [hD2]; exact okL_dd (okL_srt hL)
   refine loop_ok tys_ok (l := [(67, ⟨[], FBClone⟩), (68, ⟨[true], FSortF⟩), (71, ⟨[true], FCompact⟩), (62, ⟨[], FVCleanV⟩), (69, ⟨[], FLess⟩), (72, ⟨[], FSameN⟩)]) ⟨fcBClone, fcSortF, fcCompact, fcVCleanV, fcLess, fcSameN, trivial⟩ (by kernel_rfl) (X := Nat)
    (fun i => ⟨[(19, vx (.int .i64 i)), (18, vx (.int .i64 D.length)), (17, .va (.c (.osl 0 9 0 D.length))), (3, .va (.c (.osl 0 9 0 D.length))), (2, .va (.c (.own 1 0)))], [(0, .row 9 D.length fun k => bdC (cln D i k)), (1, .cells [.d (bo false), .d (.v (.slice none 0 0))])], 2, 34⟩)
    (fun i => D.length - i) (fun i => i <= D.length) [] [] (fun i _ _ => i + 1) [0, 1] [3, 1] 0 0 0 ?_ ?_ ?_
   . exact Nat.zero_le _
   . repeat' (first | exact trivial | exact rfl | (intro _ _; exact rfl) | refine ⟨?_, ?_⟩ | fail)
     all_goals trace_state
   . rintro i k1
     rcases Nat.lt_or_ge i D.length with hi | hi
     . have hne : decide ((i : Int) < (D.length : Int)) = true := decide_eq_true (by omega)
       have ho0 := okV_of (okL_at hDo hi)
       have ho1 := okL_at hDo hi
       repeat' (first | exact trivial | refine ⟨?_, ?_⟩ | intro _)
       all_goals first | (with_reducible first | apply qa | apply qb | apply qc | apply qd) | (conv => whnf)
       all_goals first | (exact absurd (hne.symm.trans ‹_ = false›) (by decide)) | skip
       all_goals (try simp only [Int.toNat_natCast, Nat.zero_add, cln_at])
       all_goals first | omega | rfl | exact ho1.1.1 | (have hq := ho1.2; unfold Sp.inR Cg.inR at hq; omega) | (exact congrArg (Value.int .i64) (by first | (rw [wI_id _ (by omega) (by omega)]; omega) | omega | (dsimp only; omega))) | (simp only [gN_lst]; exact cln_step rfl _)
     . have hne : decide ((i : Int) < (D.length : Int)) = false := decide_eq_false (by omega)
       obtain rfl : i = D.length := Nat.le_antisymm k1 hi
       repeat' (first | exact trivial | refine ⟨?_, ?_⟩ | intro _)
       all_goals first | (with_reducible first | apply qa | apply qb | apply qc | apply qd) | (conv => whnf)
       all_goals first | (exact absurd (hne.symm.trans ‹_ = true›) (by decide)) | skip
       all_goals (try rw [hC])
       all_goals first | rfl | omega | exact (List.length_map _).symm | (rename_i k hk; show bdC (cln D D.length (0 + k)) = bdC (atB _ k); rw [Nat.zero_add, atB_map _ _ (by omega)]; unfold cln; rw [if_pos (by omega)]) | (rename_i k hk; show bdC (cln D D.length k) = bdC (atB _ k); rw [atB_map _ _ (by omega)]; unfold cln; rw [if_pos (by omega)])
 . cases h
theorem cfL_eq : ∀ (x y : List UInt8), (cfL x y = 0) ↔ x = y
 | [], [] => by simp [cfL, Lib.compareBytes]
 | [], _ :: _ => by simp [cfL, Lib.compareBytes]
 | _ :: _, [] => by simp [cfL, Lib.compareBytes]
 | a :: x, b :: y => by
   have ih := cfL_eq x y
   unfold cfL at ih ⊢
   rw [Lib.compareBytes]
   split
   . rename_i h
     constructor
     . intro h; omega
     . intro h; cases h; exact absurd h (UInt8.lt_irrefl _)
   . split
     . rename_i h
       constructor
       . intro h; omega
       . intro h; cases h; exact absurd h (UInt8.lt_irrefl _)
     . rename_i h1 h2
       have : a = b := UInt8.le_antisymm (UInt8.not_lt.1 h2) (UInt8.not_lt.1 h1)
       subst this
       rw [ih]; simp
theorem seg_atB (L : List Bd) : seg (atB L) 0 L.length = L := by
 apply List.ext_getElem
 . rw [seg_length]; omega
 . intro i h1 h2
   have := seg_getD (g := atB L) (a := 0) (b := L.length) (k := i) (by omega)
   rw [List.getD_eq_getElem?_getD, List.getElem?_eq_getElem h1, Nat.zero_add] at this
   unfold atB at this
   rw [List.getD_eq_getElem?_getD, List.getElem?_eq_getElem h2] at this
   exact this
def lowN (L : List Bd) (s : ByteArray) : Nat := L.countP fun b => ltB b ⟨s, Vl.zero⟩
def foundN (L : List Bd) (s : ByteArray) : Bool := decide (lowN L s < L.length) && (cfL (atB L (lowN L s)).name.data.toList s.data.toList == 0)
theorem low_of {L : List Bd} {s : ByteArray} {i : Nat} (hi : i <= L.length) (h1 : ∀ k, k < i -> ltB (atB L k) ⟨s, Vl.zero⟩ = true) (h2 : ∀ k, i <= k -> k < L.length -> ltB (atB L k) ⟨s, Vl.zero⟩ = false) : lowN L s = i := by
 unfold lowN
 conv => lhs; rw [<- seg_atB L, seg_app (atB L) (Nat.zero_le i) hi, List.countP_append]
 rw [List.countP_eq_length.2, List.countP_eq_zero.2, seg_length]
 . omega
 . intro x hx
   obtain ⟨k, k1, k2, rfl⟩ := mem_seg.1 hx
   rw [h2 k k1 k2]; exact Bool.false_ne_true
 . intro x hx
   obtain ⟨k, k1, k2, rfl⟩ := mem_seg.1 hx
   exact h1 k k2
def FFindC : List Ar -> Option Rs
 | [.agg [.d (.v (.string x0)), .d (.v (.bool _)), .d (.v (.int .i64 _)), .d (.v (.int .i64 _)), .d (.v (.bool _)), .d (.v (.int .i64 _)), .d (.v (.int .i64 _)), .d (.v (.bool _)), .d (.lst 1 _ _)], .c (.d (.v (.string x1)))] => some ⟨True, .va (.c (.d (it (cfL x0.data.toList x1.data.toList)))), []⟩
 | _ => none
theorem fcFindC : FC Tryz.prog 113 FFindC := by
 intro xs pre r us h hp
 unfold FFindC at h
 split at h
 . rename_i x0 s0 l0 h0 b0 m0 r0 z0 n0 f0 x1
   cases h
   refine fcat tys_ok (l := [(70, ⟨[], FStrCmp⟩)]) ⟨fcStrCmp, trivial⟩ Tryz.func113 rfl (by kernel_rfl) false ?_
   repeat' (first | exact trivial | refine ⟨?_, ?_⟩ | intro _)
   all_goals first | (with_reducible first | apply qa | apply qb | apply qc | apply qd) | (conv => whnf)
   all_goals grind
 . cases h
abbrev gFind : List Cv -> Option Gs := mkFv (sums [(113, ⟨[], FFindC⟩)]) 113 []
def FBSearch : List Ar -> Option Rs
 | [.c (.d (.lst 9 n0 f0)), .c (.d (.v (.string x1))), .fv g2] => some ⟨(n0 <= 1099511627776 /\ RowsOk n0 f0) /\ (Std ltB (gBs n0 f0) /\ g2 = gFind), .tup [.c (.d (it (lowN (gBs n0 f0) x1 : Nat))), .c (.d (bo (foundN (gBs n0 f0) x1)))], []⟩
 | _ => none
theorem fcBSearch : FC Tryz.prog 112 FBSearch := by
 intro xs pre r us h hp
 unfold FBSearch at h
 split at h
 . rename_i n0 f0 x1 g2
   cases h
   obtain ⟨hp0, hp1⟩ := hp
   refine FCat.deep (ys := [.c (.d (.lst 9 n0 (rwB (gBs n0 f0)))), .c (.d (.v (.string x1))), .fv g2]) ?_ ?_
   . repeat' (first | exact trivial | exact rfl | exact DvE.refl _ | refine ⟨?_, ?_⟩ | fail)
     all_goals first | first | exact canonB hp0.2.h | exact (canonBo hp0.2.h).2.2
   refine fcat tys_ok (l := []) trivial Tryz.func112 rfl (by kernel_rfl) false ?_
   obtain ⟨hs, rfl⟩ := hp1
   have hn := hp0.1
   have hlen := gBs_length n0 f0
   generalize gBs n0 f0 = L at *
   clear hp0
   subst hlen
   rw [<- seg_atB L] at hs
   have hdef : ∀ k, ltB (atB L k) ⟨x1, Vl.zero⟩ = decide (cfL (atB L k).name.data.toList x1.data.toList < 0) := fun _ => rfl
   generalize hp : (fun k => ltB (atB L k) ⟨x1, Vl.zero⟩) = p
   have hpd : ∀ k, p k = decide (cfL (atB L k).name.data.toList x1.data.toList < 0) := fun k => by rw [<- hp]; rfl
   have hm : ∀ k q, k <= q -> q < L.length -> p q = true -> p k = true := fun k q h1 h2 h3 => by
    rw [<- hp] at h3 ⊢; exact wkB.lt1 (std_le wkB hs (Nat.zero_le _) h1 h2) h3
   have hm2 : ∀ k q, q <= k -> k < L.length -> p q = false -> p k = false := fun k q h1 h2 h3 => by
    rw [<- hp] at h3 ⊢; exact wkB.le1 (std_le wkB hs (Nat.zero_le _) h1 h2) h3
   have hlow : ∀ i, i <= L.length -> (∀ k, k < i -> p k = true) -> (∀ k, i <= k -> k < L.length -> p k = false) -> lowN L x1 = i := fun i h1 h2 h3 => by
    rw [<- hp] at h2 h3; exact low_of h1 h2 h3
   clear hp hdef
   repeat' (first | exact trivial | refine ⟨?_, ?_⟩ | intro _)
   all_goals first | (with_reducible first | apply qa | apply qb | apply qc | apply qd) | (conv => whnf)
   refine loop_ok tys_ok (l := []) trivial (by kernel_rfl) (X := Nat × Nat)
    (fun x => ⟨[(9, vx (.int .i64 x.1)), (10, vx (.int .i64 x.2)), (0, .va (.c (.d (.lst 9 L.length (rwB L))))), (1, vx (.string x1)), (2, .va (.c (.fv gFind))), (8, vx (.int .i64 L.length))], [], 0, 49⟩)
    (fun x => x.2 - x.1) (fun x => x.1 <= x.2 /\ x.2 <= L.length /\ (∀ k, k < x.1 -> p k = true) /\ (∀ k, x.2 <= k -> k < L.length -> p k = false)) [] []
    (fun x _ _ => if p ((x.1 + x.2) / 2) = true then ((x.1 + x.2) / 2 + 1, x.2) else (x.1, (x.1 + x.2) / 2)) [] [] 0 0 (0, L.length) ?_ ?_ ?_
   . exact ⟨Nat.zero_le _, Nat.le_refl _, fun k h => absurd h (Nat.not_lt_zero k), fun k h1 h2 => absurd h1 (Nat.not_le_of_lt h2)⟩
   . repeat' (first | exact trivial | exact rfl | (intro _ _; exact rfl) | refine ⟨?_, ?_⟩ | fail)
   . rintro ⟨i, j⟩ ⟨k2, k3, k4, k5⟩
     dsimp only at k2 k3 k4 k5
     rcases Nat.lt_or_ge i j with hij | hij
     . have hne : decide ((i : Int) < (j : Int)) = true := decide_eq_true (by omega)
       have hh : IntKind.wrap .i64 ((IntKind.wrap .u64 (IntKind.wrap .i64 ((i : Int) + (j : Int)))).fdiv (2 ^ min (Int.toNat 1) (IntKind.bits .u64))) = (((i + j) / 2 : Nat) : Int) := hlf (by omega)
       have hq1 : i <= (i + j) / 2 := by omega
       have hq2 : (i + j) / 2 < j := by omega
       generalize hq : (i + j) / 2 = q at *
       cases hc : p q with
       | true =>
         repeat' (first | exact trivial | refine ⟨?_, ?_⟩ | intro _)
         all_goals first | (with_reducible first | apply qa | apply qb | apply qc | apply qd) | (conv => whnf)
         all_goals first | (exact absurd (hne.symm.trans ‹_ = false›) (by decide)) | skip
         all_goals first | (have hd := ‹decide (cfL _ _ < 0) = false›; simp only [hh, Int.toNat_natCast, Nat.zero_add] at hd; exact absurd ((hc.symm.trans (hpd q)).trans hd) (by decide)) | skip
         all_goals (try simp only [hh, hq, hc, if_true, Int.toNat_natCast, Nat.zero_add])
         all_goals first | rfl | omega | (dsimp only; omega) | (exact congrArg (Value.int .i64) (by first | (rw [wI_id _ (by omega) (by omega)]; omega) | omega | (dsimp only; omega))) | (rename_i kk h1; simp only [hq, hc, if_true] at h1; exact hm _ q (by omega) (by omega) hc) | (rename_i kk h1 h2; simp only [hq, hc, if_true] at h1 h2; exact k5 _ h1 h2)
       | false =>
         repeat' (first | exact trivial | refine ⟨?_, ?_⟩ | intro _)
         all_goals first | (with_reducible first | apply qa | apply qb | apply qc | apply qd) | (conv => whnf)
         all_goals first | (exact absurd (hne.symm.trans ‹_ = false›) (by decide)) | skip
         all_goals first | (have hd := ‹decide (cfL _ _ < 0) = true›; simp only [hh, Int.toNat_natCast, Nat.zero_add] at hd; exact absurd ((hc.symm.trans (hpd q)).trans hd) (by decide)) | skip
         all_goals (try simp only [hh, hq, hc, if_false, Bool.false_eq_true, Int.toNat_natCast, Nat.zero_add])
         all_goals first | rfl | omega | (dsimp only; omega) | (exact congrArg (Value.int .i64) (by first | (rw [wI_id _ (by omega) (by omega)]; omega) | omega | (dsimp only; omega))) | (rename_i kk h1; simp only [hq, hc, if_false, Bool.false_eq_true] at h1; exact k4 _ h1) | (rename_i kk h1 h2; simp only [hq, hc, if_false, Bool.false_eq_true] at h1 h2; exact hm2 _ q (by omega) h2 hc)
     . have hne : decide ((i : Int) < (j : Int)) = false := decide_eq_false (by omega)
       obtain rfl : i = j := by omega
       have hl := hlow i k3 k4 k5
       repeat' (first | exact trivial | refine ⟨?_, ?_⟩ | intro _)
       all_goals first | (with_reducible first | apply qa | apply qb | apply qc | apply qd) | (conv => whnf)
       all_goals first | (exact absurd (hne.symm.trans ‹_ = true›) (by decide)) | skip
       all_goals (try dsimp only)
       all_goals (try simp only [Int.toNat_natCast, Nat.zero_add])
       all_goals (try unfold foundN)
       all_goals (try rw [hl])
       all_goals first | omega | rfl | (have hd := of_decide_eq_true ‹decide (((i, i).1 : Int) < (L.length : Int)) = true›; exact hd) | (have hd := of_decide_eq_true ‹decide (((i, i).1 : Int) < _) = true›; rw [show decide (i < L.length) = true from decide_eq_true (by dsimp only at hd; omega)]; rfl) | (have hd := of_decide_eq_false ‹decide (((i, i).1 : Int) < (L.length : Int)) = false›; rw [show decide (i < L.length) = false from decide_eq_false (by dsimp only at hd; omega)]; rfl)
 . cases h
def FEFind : List Ar -> Option Rs
 | [.agg [.d (.v (.bool _)), .d (.lst 9 n0 f0)], .c (.d (.v (.string x1)))] => some ⟨(n0 <= 1099511627776 /\ RowsOk n0 f0) /\ (Std ltB (gBs n0 f0)), .tup [.c (.d (it (lowN (gBs n0 f0) x1 : Nat))), .c (.d (bo (foundN (gBs n0 f0) x1)))], []⟩
 | _ => none
theorem fcEFind : FC Tryz.prog 60 FEFind := by
 intro xs pre r us h hp
 unfold FEFind at h
 split at h
 . rename_i e0 n0 f0 x1
   cases h
   obtain ⟨hp0, hp1⟩ := hp
   refine FCat.deep (ys := [.agg [.d (.v (.bool e0)), .d (.lst 9 n0 (rwB (gBs n0 f0)))], .c (.d (.v (.string x1)))]) ?_ ?_
   . repeat' (first | exact trivial | exact rfl | exact DvE.refl _ | refine ⟨?_, ?_⟩ | fail)
     all_goals first | first | exact canonB hp0.2.h | exact (canonBo hp0.2.h).2.2
   refine fcat tys_ok (l := [(112, ⟨[], FBSearch⟩), (113, ⟨[], FFindC⟩)]) ⟨fcBSearch, fcFindC, trivial⟩ Tryz.func60 rfl (by kernel_rfl) false ?_
   have hn := hp0.1
   have hL := okL_rows hp0.2
   have hlen := gBs_length n0 f0
   generalize gBs n0 f0 = L at *
   clear hp0
   subst hlen
   have hrow := okL_row hL
   have hb := gBs_row L
   repeat' (first | exact trivial | (with_reducible exact hrow) | refine ⟨?_, ?_⟩ | intro _)
   all_goals first | (with_reducible first | apply qa | apply qb | apply qc | apply qd) | (conv => whnf)
   all_goals (try simp only [hb])
   all_goals first | exact hn | exact hp1 | exact Nat.le_refl _ | rfl
 . cases h
theorem ofS_nil : ofS [] = [] := List.eq_nil_of_length_eq_zero (Nat.le_zero.1 (ofS_len []))
namespace Vl
end Vl
theorem std_dd {l : List Bd} (h : Std ltB l) : Std ltB (dd l) := by
 have hA : ∀ (r : List Bd) (p : Bd), Std ltB (p :: r) -> Std ltB (p :: ddA p r) := by
  intro r
  induction r with
  | nil => intro p h; exact h
  | cons y r ih =>
    intro p h
    have h1 := List.pairwise_cons.1 h
    have h2 := List.pairwise_cons.1 h1.2
    rw [ddA]
    split
    . have := List.pairwise_cons.1 (ih y h1.2)
      exact List.pairwise_cons.2 ⟨fun x hx => h1.1 x (List.mem_cons_of_mem _ (ddA_sub _ _ hx)), this.2⟩
    . have h3 := ih y h1.2
      refine List.pairwise_cons.2 ⟨fun x hx => ?_, h3⟩
      rcases List.mem_cons.1 hx with rfl | hx
      . exact h1.1 _ List.mem_cons_self
      . exact h1.1 x (List.mem_cons_of_mem _ (ddA_sub _ _ hx))
 cases l with
 | nil => exact h
 | cons p r => exact hA r p h
theorem std_of {l : List Bd} (h : Std ltB l) : Std ltB (l.map fun b => ⟨b.name, b.v.of⟩) := by
 unfold Std
 rw [List.pairwise_map]
 exact h
theorem clean_std (e : En) : Std ltB e.clean.binds := by
 unfold En.clean
 split
 . exact std_of (std_dd (srt_srt wkB _))
 . exact List.Pairwise.nil
theorem found_lt {L : List Bd} {s : ByteArray} (h : foundN L s = true) : lowN L s < L.length := by
 unfold foundN at h
 rw [Bool.and_eq_true] at h
 exact of_decide_eq_true h.1
namespace En
def get (e : En) (s : ByteArray) : Vl := if foundN e.clean.binds s = true then (atB e.clean.binds (lowN e.clean.binds s)).v else Vl.zero
end En
def FEGet : List Ar -> Option Rs
 | [.agg [.d (.v (.bool e0)), .d (.lst 9 n0 f0)], .c (.d (.v (.string x1)))] => some ⟨(n0 <= 1099511627776 /\ RowsOk n0 f0), .va (Vl.ar (En.get (⟨e0, gBs n0 f0⟩ : En) x1)), []⟩
 | _ => none
theorem fcEGet : FC Tryz.prog 24 FEGet := by
 intro xs pre r us h hp
 unfold FEGet at h
 split at h
 . rename_i e0 n0 f0 x1
   cases h
   have hp0 := hp
   refine FCat.deep (ys := [.agg [.d (.v (.bool e0)), .d (.lst 9 n0 (rwB (gBs n0 f0)))], .c (.d (.v (.string x1)))]) ?_ ?_
   . repeat' (first | exact trivial | exact rfl | exact DvE.refl _ | refine ⟨?_, ?_⟩ | fail)
     all_goals first | exact canonB hp0.2.h
   refine fcat tys_ok (l := [(22, ⟨[], FEClean⟩), (60, ⟨[], FEFind⟩)]) ⟨fcEClean, fcEFind, trivial⟩ Tryz.func24 rfl (by kernel_rfl) true ?_
   have hn := hp0.1
   have hL := okL_rows hp0.2
   have hlen := gBs_length n0 f0
   generalize gBs n0 f0 = L at *
   clear hp0
   subst hlen
   have hrow := okL_row hL
   have hb := gBs_row L
   have hc := clean_ok (e := ⟨e0, L⟩) hL
   have hcr := okL_row hc
   have hcl := clean_len ⟨e0, L⟩
   have hcs := clean_std ⟨e0, L⟩
   have hcn : (En.clean ⟨e0, L⟩).binds.length <= 1099511627776 := Nat.le_trans hcl hn
   repeat' (first | exact trivial | refine ⟨?_, ?_⟩ | intro _)
   all_goals first | (with_reducible first | apply qa | apply qb | apply qc | apply qd) | (conv => whnf)
   all_goals (try simp only [gBs_row, Bool.not_eq_true', Bool.not_eq_false', Int.toNat_natCast, Nat.zero_add] at *)
   all_goals first | exact hrow | exact hcr | exact hn | exact hcn | exact hcs | (have hd := ‹foundN _ _ = true›; have hlt := found_lt hd; first | omega | (unfold En.get; rw [if_pos hd]; done) | (unfold En.get; rw [if_pos hd]; rfl)) | (have hd := ‹foundN _ _ = false›; unfold En.get; rw [if_neg (by rw [hd]; exact Bool.false_ne_true)]; rfl) | rfl
 . cases h
def ixB (p : Bd -> Bool) (L : List Bd) : Int := match L.findIdx? p with
 | some i => i
 | none => -1
theorem ix_some {p : Bd -> Bool} {L : List Bd} {i : Nat} (hi : i < L.length) (h1 : ∀ k, k < i -> p (atB L k) = false) (h2 : p (atB L i) = true) : ixB p L = i := by
 have hA : ∀ k (h : k < L.length), atB L k = L[k] := fun k h => by unfold atB; rw [List.getD_eq_getElem?_getD, List.getElem?_eq_getElem h]; rfl
 unfold ixB
 have : L.findIdx? p = some i := by
  rw [List.findIdx?_eq_some_iff_getElem]
  refine ⟨hi, by rw [<- hA i hi]; exact h2, fun j hj => ?_⟩
  rw [<- hA j (by omega), h1 j hj]; exact Bool.false_ne_true
 rw [this]
theorem ix_none {p : Bd -> Bool} {L : List Bd} (h1 : ∀ k, k < L.length -> p (atB L k) = false) : ixB p L = -1 := by
 unfold ixB
 have : L.findIdx? p = none := by
  rw [List.findIdx?_eq_none_iff]
  intro x hx
  obtain ⟨k, hk, rfl⟩ := mem_atB hx
  exact h1 k hk
 rw [this]
theorem ix_cases (p : Bd -> Bool) (L : List Bd) : (ixB p L = -1 /\ ∀ k, k < L.length -> p (atB L k) = false) \/ ∃ i, ixB p L = (i : Nat) /\ i < L.length /\ (∀ k, k < i -> p (atB L k) = false) /\ p (atB L i) = true := by
 have hA : ∀ k (h : k < L.length), atB L k = L[k] := fun k h => by unfold atB; rw [List.getD_eq_getElem?_getD, List.getElem?_eq_getElem h]; rfl
 unfold ixB
 cases h : L.findIdx? p with
 | none =>
   rw [List.findIdx?_eq_none_iff] at h
   exact .inl ⟨rfl, fun k hk => h _ (atB_mem hk)⟩
 | some i =>
   rw [List.findIdx?_eq_some_iff_getElem] at h
   obtain ⟨h1, h2, h3⟩ := h
   refine .inr ⟨i, rfl, h1, fun k hk => ?_, by rw [hA i h1]; exact h2⟩
   rw [hA k (by omega)]
   simpa using h3 k hk
namespace En
def names (e : En) : List ByteArray := if e.live = true then cleanS (e.binds.map (·.name)) else []
def rget (e : En) (s : ByteArray) : Vl := if e.live = true then ((e.binds.find? fun b => decide (b.name = s)).map fun b => b.v.rclean).getD Vl.zero else Vl.zero
def rclean (e : En) : En := ⟨e.live, e.names.map fun s => ⟨s, e.rget s⟩⟩
end En
theorem ltB_iff {a b : Bd} : ltB a b = true ↔ kS a.name < kS b.name := by
 unfold ltB; rw [decide_eq_true_eq]; exact cfL_lt _ _
theorem ltB_iff' {a b : Bd} : ltB a b = false ↔ ¬ kS a.name < kS b.name := by
 rw [<- ltB_iff]
 cases ltB a b <;> simp
def SS (D : List Bd) : Prop := D.Pairwise fun a b => kS a.name < kS b.name
def lk : List Bd -> ByteArray -> Option Vl
 | [], _ => none
 | x :: r, s => if x.name = s then some x.v else lk r s
theorem lk_nil (s : ByteArray) : lk [] s = none := rfl
theorem lk_cons (x : Bd) (r : List Bd) (s : ByteArray) : lk (x :: r) s = if x.name = s then some x.v else lk r s := rfl
theorem lk_none {D : List Bd} {s : ByteArray} (h : ∀ b ∈ D, b.name ≠ s) : lk D s = none := by
 induction D with
 | nil => rfl
 | cons x r ih => rw [lk_cons, if_neg (h x List.mem_cons_self)]; exact ih fun b hb => h b (List.mem_cons_of_mem _ hb)
theorem lk_append (l m : List Bd) (s : ByteArray) : lk (l ++ m) s = (lk l s).or (lk m s) := by
 induction l with
 | nil => simp [lk]
 | cons x r ih =>
   rw [List.cons_append, lk_cons, lk_cons, ih]
   split <;> simp
theorem lk_mem {D : List Bd} {s : ByteArray} {v : Vl} (h : lk D s = some v) : (⟨s, v⟩ : Bd) ∈ D := by
 induction D with
 | nil => cases h
 | cons x r ih =>
   rw [lk_cons] at h
   split at h
   . rename_i e; subst e; cases h; exact List.mem_cons_self
   . exact List.mem_cons_of_mem _ (ih h)
theorem lk_of_mem {D : List Bd} (h : SS D) {b : Bd} (hb : b ∈ D) : lk D b.name = some b.v := by
 induction D with
 | nil => cases hb
 | cons x r ih =>
   have h1 := List.pairwise_cons.1 h
   rw [lk_cons]
   rcases List.mem_cons.1 hb with rfl | hb
   . rw [if_pos rfl]
   . rw [if_neg, ih h1.2 hb]
     intro e
     have := h1.1 b hb
     rw [e] at this; exact List.lt_irrefl _ this
theorem lk_isSome {D : List Bd} {s : ByteArray} : (lk D s).isSome = true ↔ s ∈ D.map (·.name) := by
 induction D with
 | nil => simp [lk]
 | cons x r ih =>
   rw [lk_cons, List.map_cons, List.mem_cons]
   split
   . rename_i h; simp [h]
   . rename_i h
     rw [ih]
     constructor
     . exact .inr
     . rintro (rfl | h2)
       . exact absurd rfl h
       . exact h2
theorem ss_head {x : Bd} {r : List Bd} (h : SS (x :: r)) {s : ByteArray} (hs : ¬ kS x.name < kS s) : lk r s = none := by
 refine lk_none fun b hb e => hs ?_
 have := (List.pairwise_cons.1 h).1 b hb
 rw [e] at this; exact this
theorem ss_ext : ∀ {D E : List Bd}, SS D -> SS E -> (∀ s, lk D s = lk E s) -> D = E
 | [], [], _, _, _ => rfl
 | [], y :: r, _, _, h => by have := h y.name; rw [lk_nil, lk_cons, if_pos rfl] at this; cases this
 | x :: r, [], _, _, h => by have := h x.name; rw [lk_nil, lk_cons, if_pos rfl] at this; cases this
 | x :: r, y :: q, hD, hE, h => by
   by_cases e : x.name = y.name
   . have h1 := h x.name
     rw [lk_cons, lk_cons, if_pos rfl, if_pos e.symm] at h1
     have hv := Option.some.inj h1
     have hxy : x = y := by cases x; cases y; simp_all
     subst hxy
     congr 1
     refine ss_ext (List.pairwise_cons.1 hD).2 (List.pairwise_cons.1 hE).2 fun s => ?_
     by_cases es : x.name = s
     . subst es
       rw [ss_head hD (List.lt_irrefl _), ss_head hE (List.lt_irrefl _)]
     . have := h s
       rw [lk_cons, lk_cons, if_neg es, if_neg es] at this
       exact this
   . exfalso
     by_cases c : kS x.name < kS y.name
     . have := h x.name
       rw [lk_cons, if_pos rfl, lk_cons, if_neg (Ne.symm e), ss_head hE (List.lt_asymm c)] at this
       cases this
     . have c2 := kS_tri c e
       have := h y.name
       rw [lk_cons, if_neg e, ss_head hD (List.lt_asymm c2), lk_cons, if_pos rfl] at this
       cases this
def mapV (f : Vl -> Vl) (D : List Bd) : List Bd := D.map fun b => ⟨b.name, f b.v⟩
theorem lk_mapV (f : Vl -> Vl) (D : List Bd) (s : ByteArray) : lk (mapV f D) s = (lk D s).map f := by
 induction D with
 | nil => rfl
 | cons x r ih =>
   show lk (⟨x.name, f x.v⟩ :: mapV f r) s = _
   rw [lk_cons, lk_cons, ih]
   split <;> rfl
theorem ss_mapV {f : Vl -> Vl} {D : List Bd} (h : SS D) : SS (mapV f D) := by
 unfold SS mapV; rw [List.pairwise_map]; exact h
theorem lk_mg {S : List Bd} (h : Std ltB S) (x : Bd) (s : ByteArray) : lk (mg ltB S [x]) s = (lk S s).or (lk [x] s) := by
 induction S with
 | nil => rw [mg_nil]; simp [lk]
 | cons y r ih =>
   have h1 := List.pairwise_cons.1 h
   rw [mg_cons]
   split
   . rename_i hlt
     have hlt := ltB_iff.1 hlt
     rw [mg_right]
     by_cases e : x.name = s
     . subst e
       have hn : lk (y :: r) x.name = none := by
        refine lk_none fun b hb e => ?_
        rcases List.mem_cons.1 hb with rfl | hb
        . rw [e] at hlt; exact List.lt_irrefl _ hlt
        . have := ltB_iff'.1 (h1.1 b hb)
          rw [e] at this; exact this hlt
       rw [hn, lk_cons, if_pos rfl, lk_cons, if_pos rfl]; rfl
     . rw [lk_cons, if_neg e, lk_cons x, if_neg e, lk_nil]; simp
   . rw [lk_cons, lk_cons, ih h1.2]
     split <;> simp
theorem lk_srt (L : List Bd) (s : ByteArray) : lk (srt ltB L) s = lk L s := by
 induction L using snocRec with
 | h0 => rfl
 | h1 l x ih => rw [srt_snoc, lk_mg (srt_srt wkB l), ih, lk_append]
theorem ddA_congr {p q : Bd} (h : p.name = q.name) (r : List Bd) : ddA p r = ddA q r := by
 cases r with
 | nil => rfl
 | cons y r => rw [ddA, ddA, h]
theorem lk_ddA (r : List Bd) (p : Bd) (s : ByteArray) : lk (p :: ddA p r) s = lk (p :: r) s := by
 induction r generalizing p with
 | nil => rfl
 | cons y r ih =>
   rw [ddA]
   split
   . rename_i h
     rw [ddA_congr h, ih p, lk_cons, lk_cons, lk_cons y]
     split
     . rfl
     . rename_i h2; rw [if_neg (by rw [h]; exact h2)]
   . rw [lk_cons, lk_cons p, ih y]
theorem lk_dd (l : List Bd) (s : ByteArray) : lk (dd l) s = lk l s := by
 cases l with
 | nil => rfl
 | cons p r => exact lk_ddA r p s
theorem ss_ddA (r : List Bd) (p : Bd) (h : Std ltB (p :: r)) : SS (p :: ddA p r) := by
 induction r generalizing p with
 | nil => simp [ddA, SS]
 | cons y r ih =>
   have h1 := List.pairwise_cons.1 h
   have hy := List.pairwise_cons.1 (ih y h1.2)
   rw [ddA]
   split
   . rename_i e
     refine List.pairwise_cons.2 ⟨fun x hx => ?_, hy.2⟩
     have := hy.1 x hx
     rw [e] at this; exact this
   . rename_i e
     have hpy : kS p.name < kS y.name := kS_tri (ltB_iff'.1 (h1.1 y List.mem_cons_self)) e
     refine List.pairwise_cons.2 ⟨fun x hx => ?_, ih y h1.2⟩
     rcases List.mem_cons.1 hx with rfl | hx
     . exact hpy
     . exact List.lt_trans hpy (hy.1 x hx)
theorem ss_dd {l : List Bd} (h : Std ltB l) : SS (dd l) := by
 cases l with
 | nil => exact List.Pairwise.nil
 | cons p r => exact ss_ddA r p h
namespace En
def hold (e : En) (s : ByteArray) : Option Vl := if e.live = true then lk e.binds s else none
end En
theorem clean_ss (e : En) : SS e.clean.binds := by
 unfold En.clean
 split
 . exact ss_mapV (ss_dd (srt_srt wkB _))
 . exact List.Pairwise.nil
theorem eclean_live (e : En) : e.clean.live = e.live := by
 unfold En.clean
 split
 . rename_i h; exact h.symm
 . rename_i h; simpa using h
theorem clean_lk (e : En) (s : ByteArray) : lk e.clean.binds s = (e.hold s).map Vl.of := by
 unfold En.clean En.hold
 split
 . show lk (mapV Vl.of _) s = _
   rw [lk_mapV, lk_dd, lk_srt]
 . rfl
theorem en_ext {a b : En} (h : a.live = b.live) (h1 : SS a.binds) (h2 : SS b.binds) (hs : ∀ s, lk a.binds s = lk b.binds s) : a = b := by
 obtain ⟨l, x⟩ := a
 obtain ⟨m, y⟩ := b
 simp only at h h1 h2 hs
 subst h
 rw [ss_ext h1 h2 hs]
end Go.Proofs.YthkknkhpfffnbaaGreat
namespace Go.Sx
def normH (h : List (Nat × Blk)) : Nat -> List (Nat × Blk) -> List (Nat × Blk)
 | 0, acc => acc
 | k + 1, acc => match lookB h k with
   | .gone => normH h k acc
   | b => normH h k ((k, b) :: acc)
def norm (live : List Nat) : St -> St
 | ⟨ts, h, n, m⟩ => ⟨live.map fun t => (t, lookT ts t), normH h n [], n, m⟩
def normTs (ts : List (Nat × Tm)) : List Nat -> (List (Nat × Tm) -> Prop) -> Prop
 | [], K => K []
 | t :: l, K => fT (lookT ts t) fun x => normTs ts l fun r => K ((t, x) :: r)
def normHs (h : List (Nat × Blk)) : Nat -> List (Nat × Blk) -> (List (Nat × Blk) -> Prop) -> Prop
 | 0, acc, K => K acc
 | k + 1, acc, K => fB (lookB h k) fun b => match b with
   | .gone => normHs h k acc K
   | .cells cs => normHs h k ((k, .cells cs) :: acc) K
   | .row a b c => normHs h k ((k, .row a b c) :: acc) K
   | .fz cs => normHs h k ((k, .fz cs) :: acc) K
   | .fzr a b c => normHs h k ((k, .fzr a b c) :: acc) K
def normK (live : List Nat) (st : St) (K : St -> Prop) : Prop := match st with
 | ⟨ts, h, n, m⟩ => normTs ts live fun ts' => normHs h n [] fun h' => K ⟨ts', h', n, m⟩
theorem normTs_eq (ts : List (Nat × Tm)) : ∀ (l : List Nat) (K : List (Nat × Tm) -> Prop), normTs ts l K = K (l.map fun t => (t, lookT ts t))
 | [], K => rfl
 | t :: l, K => by simp only [normTs, fT_eq, normTs_eq ts l, List.map_cons]
theorem normHs_eq (h : List (Nat × Blk)) : ∀ (n : Nat) (acc : List (Nat × Blk)) (K : List (Nat × Blk) -> Prop), normHs h n acc K = K (normH h n acc)
 | 0, acc, K => rfl
 | k + 1, acc, K => by
   simp only [normHs, normH, fB_eq]
   cases lookB h k <;> simp only [normHs_eq h k]
theorem normK_eq (live : List Nat) (st : St) (K : St -> Prop) : normK live st K = K (norm live st) := by
 obtain ⟨ts, h, n, m⟩ := st
 simp only [normK, norm, normTs_eq, normHs_eq]
theorem lookT_live (ts : List (Nat × Tm)) (t : Nat) : ∀ (l : List Nat), lookT (l.map fun t => (t, lookT ts t)) t = lookT ts t \/ lookT (l.map fun t => (t, lookT ts t)) t = topT
 | [] => .inr rfl
 | u :: l => by
   simp only [List.map_cons, lookT]
   cases hu : Nat.beq u t with
   | true => left; rw [Nat.eq_of_beq_eq_true hu]
   | false => exact lookT_live ts t l
theorem lookB_normH (h : List (Nat × Blk)) (k : Nat) : ∀ (n : Nat) (acc : List (Nat × Blk)), (k < n -> lookB h k ≠ .gone -> lookB (normH h n acc) k = lookB h k) /\ (n <= k \/ lookB h k = .gone -> lookB (normH h n acc) k = lookB acc k)
 | 0, acc => ⟨fun h => absurd h (Nat.not_lt_zero k), fun _ => rfl⟩
 | n + 1, acc => by
   simp only [normH]
   split
   . rename_i hg
     obtain ⟨h1, h2⟩ := lookB_normH h k n acc
     refine ⟨fun hk hn => h1 ?_ hn, fun hk => h2 ?_⟩
     . rcases Nat.lt_succ_iff_lt_or_eq.1 hk with h | h
       . exact h
       . subst h; exact absurd hg hn
     . rcases hk with hk | hk
       . exact .inl (by omega)
       . exact .inr hk
   . rename_i hg
     obtain ⟨h1, h2⟩ := lookB_normH h k n ((n, lookB h n) :: acc)
     refine ⟨fun hk hn => ?_, fun hk => ?_⟩
     . rcases Nat.lt_succ_iff_lt_or_eq.1 hk with h | h
       . exact h1 h hn
       . subst h; rw [h2 (.inl (Nat.le_refl _)), lookB_cons, if_pos rfl]
     . rcases hk with hk | hk
       . rw [h2 (.inl (by omega)), lookB_cons, if_neg (by omega)]
       . rw [h2 (.inr hk), lookB_cons, if_neg (fun e => by subst e; exact hg hk)]
section
variable {P : Program} {τ : Tys} {Γ : Sums} {base : Nat} {ψ ψ' : Psi} {S S' : Nat → Prop} {w w' : World} {a : Act} {st : St}
theorem Rel.norm (live : List Nat) (hr : Rel P base ψ S w st a) : Rel P base ψ S w (norm live st) a := by
 obtain ⟨ts, h, n, m⟩ := st
 have hl : ∀ k l, ψ k = some l -> lookB (normH h n []) k = lookB h k := by
  intro k l hk
  have hk2 : k < n := by
   rcases Nat.lt_or_ge k n with h1 | h1
   . exact h1
   . have := hr.sim.dom k h1; rw [hk] at this; cases this
  by_cases c : lookB h k = .gone
  . rw [(lookB_normH h k n []).2 (.inr c), c]; rfl
  . exact (lookB_normH h k n []).1 hk2 c
 have hs := hr.sim
 refine ⟨hr.bas, ⟨hs.dom, fun k l hk => ?_, fun k k' b m1 m2 e1 e2 l1 l2 => ?_, fun k b m1 e1 l1 => ?_, hs.pdom, hs.sdom⟩, hr.lim, hr.defers, fun t => ?_⟩
 . show BlkRep P ψ S w (lookB (normH h n []) k) l
   rw [hl k l hk]; exact hs.blk k l hk
 . rw [show lookB (norm live ⟨ts, h, n, m⟩).heap k = lookB h k from hl k _ e1] at l1
   rw [show lookB (norm live ⟨ts, h, n, m⟩).heap k' = lookB h k' from hl k' _ e2] at l2
   exact hs.inj k k' b m1 m2 e1 e2 l1 l2
 . rw [show lookB (norm live ⟨ts, h, n, m⟩).heap k = lookB h k from hl k _ e1] at l1
   exact hs.dis k b m1 e1 l1
 . show RepT P ψ S w (lookT (live.map fun t => (t, lookT ts t)) t) _
   rcases lookT_live ts t live with e | e
   . rw [e]; exact hr.tmps t
   . rw [e]; trivial
theorem tail_intro {F G : St -> Prop} {s : St} (h1 : F s) (h2 : G s) : ∃ s, F s /\ G s := ⟨s, h1, h2⟩
end
theorem draw_cut {P : Program} {t : TT} (ht : t.ok P) {l : List (Nat × Sm)} (hl : sumsOk P l) (hmix : P.follows .mixedOrders = true) {base : Nat} {ops : Array Oper} {id : Nat} {st : St} {Q : Exit -> St -> Prop} (p : Plan) (live : List Nat)
 (hp : (Region.noSelect ops && planOk ops ops.size (Array.replicate ops.size false) p) = true)
 (hk : ∃ s, vcP P t.get (vcCall P (sums l) base) ops.toList p st (fun st' => normK live st' fun s' => s' = s) /\ Q .normal s) : ASat P base (.region id ops true) st Q := by
 obtain ⟨s, hv, hs⟩ := hk
 have h : ASat P base (.region id ops true) st (fun e st' => e = .normal /\ norm live st' = s) := by
  refine draw_plan ht hl hmix p hp ?_
  have e : (fun st' => normK live st' fun s' => s' = s) = fun st' => Exit.normal = .normal /\ norm live st' = s := by
   funext st'; rw [normK_eq]; simp
  rw [<- e]; exact hv
 refine ⟨fun ψ S w a hr => wp_mono (h.run ψ S w a hr) ?_⟩
 rintro e a' w' ⟨st', ψ', S', ⟨rfl, h1⟩, h2, h3⟩
 exact ⟨s, ψ', S', hs, by rw [<- h1]; exact h2.norm live, h3⟩
def idxOf (k : Nat) : List Nat -> List Nat -> Option Nat
 | i :: l, j :: js => match Nat.beq i k with
   | true => some j
   | false => idxOf k l js
 | _, _ => none
def renCaps (js ids : List Nat) : List (Nat × Nat) -> Option (List (Nat × Nat))
 | [] => some []
 | (k, o) :: l => match idxOf k ids js, renCaps js ids l with
   | some j, some r => some ((j, o) :: r)
   | _, _ => none
def renC (js ids : List Nat) (x : Cell) : Cell := match x with
 | .own k off => match idxOf k ids js with
   | some j => .own j off
   | none => .top
 | .osl k sz o len => match idxOf k ids js with
   | some j => .osl j sz o len
   | none => .top
 | .ep k sz i off => match idxOf k ids js with
   | some j => .ep j sz i off
   | none => .top
 | .fn f caps => match renCaps js ids caps with
   | some r => .fn f r
   | none => .top
 | .osc .. => .top
 | .ap .. => .top
 | x => x
def renVa (js ids : List Nat) (x : Va) : Va := match x with
 | .c x => .c (renC js ids x)
 | .agg xs => .agg (xs.map (renC js ids))
def renT (js ids : List Nat) (x : Tm) : Tm := match x with
 | .va x => .va (renVa js ids x)
 | .tup _ => topT
def renB (js ids : List Nat) (b : Blk) : Blk := match b with
 | .cells cs => .cells (cs.map (renC js ids))
 | b => b
def renTs (js ids : List Nat) (ts : List (Nat × Tm)) (l : List Nat) : List (Nat × Tm) := l.map fun t => (t, renT js ids (lookT ts t))
def renHs (js ids : List Nat) (h : List (Nat × Blk)) : List Nat -> List Nat -> List (Nat × Blk)
 | k :: l, j :: l' => (j, renB js ids (lookB h k)) :: renHs js ids h l l'
 | _, _ => []
def ren (live js ids : List Nat) (n1 : Nat) : St -> St
 | ⟨ts, h, _, m⟩ => ⟨renTs js ids ts live, renHs js ids h ids js, n1, m⟩
def fTs : List (Nat × Tm) -> (List (Nat × Tm) -> Prop) -> Prop
 | [], K => K []
 | (t, x) :: l, K => fT x fun x => fTs l fun r => K ((t, x) :: r)
def fBc (b : Blk) (K : Blk -> Prop) : Prop := match b with
 | .cells cs => fCs cs fun cs => K (.cells cs)
 | b => fB b K
def fHs : List (Nat × Blk) -> (List (Nat × Blk) -> Prop) -> Prop
 | [], K => K []
 | (t, x) :: l, K => fBc x fun x => fHs l fun r => K ((t, x) :: r)
def fSt (st : St) (K : St -> Prop) : Prop := match st with
 | ⟨ts, h, n, m⟩ => fTs ts fun ts => fHs h fun h => K ⟨ts, h, n, m⟩
theorem fTs_eq : ∀ (l : List (Nat × Tm)) (K : List (Nat × Tm) -> Prop), fTs l K = K l
 | [], _ => rfl
 | (t, x) :: l, K => by simp only [fTs, fT_eq, fTs_eq l]
theorem fBc_eq (b : Blk) (K : Blk -> Prop) : fBc b K = K b := by
 cases b <;> simp only [fBc, fB_eq, fCs_eq]
theorem fHs_eq : ∀ (l : List (Nat × Blk)) (K : List (Nat × Blk) -> Prop), fHs l K = K l
 | [], _ => rfl
 | (t, x) :: l, K => by simp only [fHs, fBc_eq, fHs_eq l]
theorem fSt_eq (st : St) (K : St -> Prop) : fSt st K = K st := by
 obtain ⟨ts, h, n, m⟩ := st; simp only [fSt, fTs_eq, fHs_eq]
theorem idxOf_some {k : Nat} : ∀ {l js : List Nat} {i j : Nat}, idxOf k l js = some j -> (∀ q, q < js.length -> js[q]? = some (i + q)) -> i <= j /\ l[j - i]? = some k
 | [], _, _, _, h, _ => by simp [idxOf] at h
 | _ :: _, [], _, _, h, _ => by simp [idxOf] at h
 | x :: l, y :: js, i, j, h, hj => by
   simp only [idxOf] at h
   have hy : y = i := by simpa using hj 0 (by simp)
   split at h
   . rename_i e; cases h; subst hy; exact ⟨Nat.le_refl _, by simp [Nat.eq_of_beq_eq_true e]⟩
   . obtain ⟨h1, h2⟩ := idxOf_some (i := i + 1) h (fun q hq => by
      have := hj (q + 1) (by simp; omega)
      rw [List.getElem?_cons_succ] at this
      rw [this]; congr 1; omega)
     exact ⟨by omega, by rw [show j - i = (j - (i + 1)) + 1 by omega, List.getElem?_cons_succ]; exact h2⟩
def Ups (js : List Nat) : Prop := ∀ q, q < js.length -> js[q]? = some q
theorem idx_at {k j : Nat} {js ids : List Nat} (hj : Ups js) (h : idxOf k ids js = some j) : ids[j]? = some k := by simpa using (idxOf_some (i := 0) h (by simpa [Ups] using hj)).2
theorem renCaps_le {js ids : List Nat} (hj : Ups js) : ∀ {l r : List (Nat × Nat)}, renCaps js ids l = some r -> capsLe ids l r
 | [], r, h => by cases h; trivial
 | (k, o) :: l, r, h => by
   simp only [renCaps] at h
   split at h
   . rename_i j r' h1 h2; cases h; exact ⟨⟨idx_at hj h1, rfl⟩, renCaps_le hj h2⟩
   . cases h
theorem cellLe_top {ids : List Nat} {nv : Nat} (x : Cell) : cellLe ids nv x .top := by cases x <;> trivial
theorem renC_le {js : List Nat} (hj : Ups js) (ids : List Nat) (x : Cell) : cellLe ids 0 x (renC js ids x) := by
 cases x with
 | own k off => simp only [renC]; split; exact ⟨idx_at hj ‹_›, rfl⟩; exact cellLe_top _
 | osl k sz o len => simp only [renC]; split; exact ⟨idx_at hj ‹_›, rfl, rfl, rfl⟩; exact cellLe_top _
 | ep k sz i off => simp only [renC]; split; exact ⟨idx_at hj ‹_›, rfl, rfl, rfl⟩; exact cellLe_top _
 | fn f caps => simp only [renC]; split; exact ⟨rfl, renCaps_le hj ‹_›⟩; exact cellLe_top _
 | osc => exact cellLe_top _
 | ap => exact cellLe_top _
 | top => trivial
 | und => trivial
 | kb b => exact rfl
 | d x => cases x <;> simp [renC, cellLe, dvEq]
 | rp cs => exact rfl
 | fv g => exact rfl
theorem renCs_le {js : List Nat} (hj : Ups js) (ids : List Nat) : ∀ (xs : List Cell), cellsLe ids 0 xs (xs.map (renC js ids))
 | [] => trivial
 | x :: xs => ⟨renC_le hj ids x, renCs_le hj ids xs⟩
theorem renVa_le {js : List Nat} (hj : Ups js) (ids : List Nat) (x : Va) : vaLe ids 0 x (renVa js ids x) := by
 cases x with
 | c x =>
   have h := renC_le hj ids x
   show vaLe ids 0 (.c x) (.c (renC js ids x))
   cases hx : renC js ids x <;> rw [hx] at h <;> first | trivial | exact h
 | agg xs => exact renCs_le hj ids xs
theorem renT_le {js : List Nat} (hj : Ups js) (ids : List Nat) (x : Tm) : tmLe ids 0 x (renT js ids x) := by
 cases x with
 | va x =>
   have h := renVa_le hj ids x
   show tmLe ids 0 (.va x) (.va (renVa js ids x))
   cases hx : renVa js ids x with
   | c y => rw [hx] at h; cases y <;> first | trivial | exact h
   | agg ys => rw [hx] at h; exact h
 | tup xs => trivial
theorem renTs_le {js : List Nat} (hj : Ups js) (ids : List Nat) (ts : List (Nat × Tm)) : ∀ (l : List Nat), tmpsLe ids 0 ts (renTs js ids ts l)
 | [] => trivial
 | t :: l => ⟨renT_le hj ids _, renTs_le hj ids ts l⟩
theorem renB_le {js : List Nat} (hj : Ups js) (ids : List Nat) (b : Blk) : blkLe ids 0 b (renB js ids b) := by
 cases b with
 | cells cs => exact renCs_le hj ids cs
 | row => exact ⟨rfl, rfl, fun _ _ => rfl⟩
 | fz => exact rfl
 | fzr => exact ⟨rfl, rfl, fun _ _ => rfl⟩
 | gone => trivial
theorem renHs_le {js : List Nat} (hj : Ups js) (ids : List Nat) (h : List (Nat × Blk)) : ∀ (l l' : List Nat) (j : Nat), (∀ i, l[i]? = ids[j + i]?) -> (∀ q, q < l'.length -> l'[q]? = some (j + q)) -> heapLe ids 0 h (renHs js ids h l l')
 | [], _, _, _, _ => trivial
 | _ :: _, [], _, _, _ => trivial
 | k :: l, y :: l', j, hl, hq => by
   have h0 := hl 0
   simp only [List.getElem?_cons_zero, Nat.add_zero] at h0
   have hy : y = j := by simpa using hq 0 (by simp)
   subst hy
   refine ⟨?_, renHs_le hj ids h l l' (y + 1) (fun i => ?_) (fun q hqq => ?_)⟩
   . rw [<- h0]; exact renB_le hj ids _
   . have := hl (i + 1)
     rw [List.getElem?_cons_succ] at this
     rw [this]; congr 1; omega
   . have := hq (q + 1) (by simp; omega)
     rw [List.getElem?_cons_succ] at this
     rw [this]; congr 1; omega
theorem ren_le {base n1 : Nat} (live js ids : List Nat) (st : St) (h : idsOk base ids = true) (hj : Ups js) (hn : ids.length = n1) : leSt base ids 0 st (ren live js ids n1 st) := by
 obtain ⟨ts, hp, n, m⟩ := st
 exact ⟨rfl, by rw [hn]; rfl, h, renTs_le hj ids ts live, renHs_le hj ids hp ids js 0 (fun i => by rw [Nat.zero_add]) (by simpa [Ups] using hj)⟩
def oIs (ts : List (Nat × Tm)) : List Nat -> List Nat
 | [] => []
 | t :: l => (match lookT ts t with
   | .va (.c (.own k _)) => k
   | .va (.c (.osl k _ _ _)) => k
   | _ => 0) :: oIs ts l
def renK (base n0 n1 : Nat) (js ps live : List Nat) (st : St) (K : St -> Prop) : Prop := match st with
 | ⟨ts, h, n, m⟩ => match idsOk base (List.range n0 ++ oIs ts ps) && (decide (js = List.range n1) && Nat.beq (List.range n0 ++ oIs ts ps).length n1) with
   | true => fSt (ren live js (List.range n0 ++ oIs ts ps) n1 ⟨ts, h, n, m⟩) K
   | false => False
theorem draw_ren {P : Program} {t : TT} (ht : t.ok P) {l : List (Nat × Sm)} (hl : sumsOk P l) (hmix : P.follows .mixedOrders = true) {base : Nat} {ops : Array Oper} {id : Nat} {st : St} {Q : Exit -> St -> Prop} (p : Plan) (n0 n1 : Nat) (js ps live : List Nat)
 (hp : (Region.noSelect ops && planOk ops ops.size (Array.replicate ops.size false) p) = true)
 (hk : ∃ s, vcP P t.get (vcCall P (sums l) base) ops.toList p st (fun st' => renK base n0 n1 js ps live st' fun s' => s' = s) /\ Q .normal s) : ASat P base (.region id ops true) st Q := by
 obtain ⟨s, hv, hs⟩ := hk
 have h : ASat P base (.region id ops true) st (fun e st' => match e with | .normal => renK base n0 n1 js ps live st' fun s' => s' = s | _ => False) := draw_plan ht hl hmix p hp hv
 refine ⟨fun ψ S w a hr => wp_mono (h.run ψ S w a hr) ?_⟩
 rintro e a' w' ⟨st', ψ', S', h1, h2, h3⟩
 cases e with
 | normal =>
   obtain ⟨ts, hh, n, m⟩ := st'
   have h1 : (match idsOk base (List.range n0 ++ oIs ts ps) && (decide (js = List.range n1) && Nat.beq (List.range n0 ++ oIs ts ps).length n1) with
    | true => fSt (ren live js (List.range n0 ++ oIs ts ps) n1 ⟨ts, hh, n, m⟩) fun s' => s' = s
    | false => False) := h1
   split at h1
   . rename_i hid
     rw [fSt_eq] at h1
     simp only [Bool.and_eq_true, decide_eq_true_eq] at hid
     obtain ⟨hid, hjs, hnn⟩ := hid
     obtain ⟨g1, g2⟩ := h2.le (ren_le (n1 := n1) live js _ _ hid (by rw [hjs]; intro q hq; simp at hq; simp [hq]) (Nat.eq_of_beq_eq_true hnn))
     rw [h1] at g1
     exact ⟨s, _, S', hs, g1, h3.trans g2⟩
   . exact h1.elim
 | _ => exact h1.elim
end Go.Sx
namespace Go.Proofs.YthkknkhpfffnbaaGreat
open Go.Sx
def mrg (op : Vl -> Vl -> Vl) : List Bd -> List Bd -> List Bd
 | [], [] => []
 | [], y :: b => ⟨y.name, op Vl.zero y.v⟩ :: mrg op [] b
 | x :: a, [] => ⟨x.name, op x.v Vl.zero⟩ :: mrg op a []
 | x :: a, y :: b => if ltB x y = true then ⟨x.name, op x.v Vl.zero⟩ :: mrg op a (y :: b) else if ltB y x = true then ⟨y.name, op Vl.zero y.v⟩ :: mrg op (x :: a) b else ⟨x.name, op x.v y.v⟩ :: mrg op a b
termination_by a b => a.length + b.length
def nxM (op : Vl -> Vl -> Vl) (A B : List Bd) (x : Nat × Nat × List Bd) : Nat × Nat × List Bd :=
 if x.1 < A.length then
  if x.2.1 < B.length then
   if ltB (atB A x.1) (atB B x.2.1) = true then (x.1 + 1, x.2.1, x.2.2 ++ [⟨(atB A x.1).name, op (atB A x.1).v Vl.zero⟩])
   else if ltB (atB B x.2.1) (atB A x.1) = true then (x.1, x.2.1 + 1, x.2.2 ++ [⟨(atB B x.2.1).name, op Vl.zero (atB B x.2.1).v⟩])
   else (x.1 + 1, x.2.1 + 1, x.2.2 ++ [⟨(atB A x.1).name, op (atB A x.1).v (atB B x.2.1).v⟩])
  else (x.1 + 1, x.2.1, x.2.2 ++ [⟨(atB A x.1).name, op (atB A x.1).v Vl.zero⟩])
 else (x.1, x.2.1 + 1, x.2.2 ++ [⟨(atB B x.2.1).name, op Vl.zero (atB B x.2.1).v⟩])
theorem drop_at {A : List Bd} {i : Nat} (h : i < A.length) : A.drop i = atB A i :: A.drop (i + 1) := by
 rw [List.drop_eq_getElem_cons h]
 congr 1
 unfold atB; rw [List.getD_eq_getElem?_getD, List.getElem?_eq_getElem h]; rfl
theorem nxM_ok {op : Vl -> Vl -> Vl} {A B : List Bd} {i j : Nat} {out : List Bd} (h : i < A.length \/ j < B.length) :
 (nxM op A B (i, j, out)).2.2 ++ mrg op (A.drop (nxM op A B (i, j, out)).1) (B.drop (nxM op A B (i, j, out)).2.1) = out ++ mrg op (A.drop i) (B.drop j) := by
 unfold nxM
 dsimp only
 by_cases c1 : i < A.length
 . rw [if_pos c1]
   by_cases c2 : j < B.length
   . rw [if_pos c2]
     conv => rhs; rw [drop_at c1, drop_at c2, mrg]
     split
     . dsimp only; rw [drop_at c2] <;> simp
     . split
       . dsimp only; rw [drop_at c1]; simp
       . dsimp only; simp
   . rw [if_neg c2]
     have e : B.drop j = [] := List.drop_eq_nil_of_le (by omega)
     conv => rhs; rw [drop_at c1, e, mrg]
     dsimp only; rw [e]; simp
 . rw [if_neg c1]
   have c2 : j < B.length := h.resolve_left c1
   have e : A.drop i = [] := List.drop_eq_nil_of_le (by omega)
   conv => rhs; rw [drop_at c2, e, mrg]
   dsimp only; rw [e]; simp
theorem atB_snoc (L : List Bd) (x : Bd) (k : Nat) (h : k < L.length + 1) : atB (L ++ [x]) k = if k < L.length then atB L k else x := by
 unfold atB
 simp only [List.getD_eq_getElem?_getD]
 split
 . rename_i h1; rw [List.getElem?_append_left h1]
 . rename_i h1; rw [show k = L.length by omega, List.getElem?_append_right (Nat.le_refl _), Nat.sub_self]; rfl
theorem rwB_snoc {L : List Bd} {x : Bd} {g : Nat -> List DV} {k : Nat} (hg : g 0 = bdC x) (hk : k < L.length + 1) : appRow L.length (rwB L) g k = rwB (L ++ [x]) k := by
 show _ = bdC (atB (L ++ [x]) k)
 rw [atB_snoc L x k hk]
 unfold appRow
 split
 . rfl
 . rw [show k - L.length = 0 by omega, hg]
theorem lessB_eq {a b : ByteArray} (h : a = b) : (if (!Op.bytesLess a.toList b.toList) = true then a else b) = a := by subst h; exact ite_self _
abbrev vlC (v : Vl) : List DV := [bo v.i.s.some, it v.i.s.lo, it v.i.s.hi, bo v.i.c.some, it v.i.c.m, it v.i.c.r, bo v.t.null, lst v.t.names]
abbrev vlZ : List DV := [bo false, it 0, it 0, bo false, it 0, it 0, bo false, .v (.slice none 0 0)]
def gIs (gz : List Cv -> Option Gs) (a b : List DV) (z : Vl) : Prop := ∃ p : Prop, gz [.agg a, .agg b] = some ⟨p, .va (.agg (vlC z))⟩ /\ p
structure GOk (gz : List Cv -> Option Gs) (Op : Vl -> Vl -> Vl) (Q : Vl -> Vl -> Prop) : Prop where
 both : ∀ x y, okV x -> okV y -> Q x y -> gIs gz (vlC x) (vlC y) (Op x y)
 left : ∀ x, okV x -> Q x Vl.zero -> gIs gz (vlC x) vlZ (Op x Vl.zero)
 right : ∀ y, okV y -> Q Vl.zero y -> gIs gz vlZ (vlC y) (Op Vl.zero y)
structure QOk (Q : Vl -> Vl -> Prop) (A B : List Bd) : Prop where
 both : ∀ x ∈ A, ∀ y ∈ B, Q x.v y.v
 left : ∀ x ∈ A, Q x.v Vl.zero
 right : ∀ y ∈ B, Q Vl.zero y.v
theorem lessB_nil (a : ByteArray) : (if (!Op.bytesLess a.toList (ByteArray.mk #[]).toList) = true then a else ByteArray.mk #[]) = a := by
 have : (ByteArray.mk #[]).toList = [] := by rw [kS_tl]
 rw [this]; cases a.toList <;> rfl
theorem lessB_nil2 (a : ByteArray) : (if (!Op.bytesLess (ByteArray.mk #[]).toList a.toList) = true then ByteArray.mk #[] else a) = a := by
 have : (ByteArray.mk #[]).toList = [] := by rw [kS_tl]
 rw [this]
 cases h : a.toList with
 | nil =>
   rw [kS_tl] at h
   have : a = ByteArray.mk #[] := kS_inj (h.trans rfl)
   rw [this]; rfl
 | cons x r => rfl
theorem cf_lt {x y : Bd} (h : ltB x y = true) : cfL x.name.data.toList y.name.data.toList < 0 := of_decide_eq_true h
theorem cf_gt {x y : Bd} (h : ltB y x = true) : cfL x.name.data.toList y.name.data.toList > 0 := by
 have h1 := ltB_iff.1 h
 have h2 : ¬ kS x.name < kS y.name := List.lt_asymm h1
 have h3 : ¬ cfL x.name.data.toList y.name.data.toList < 0 := fun h => h2 ((cfL_lt _ _).1 h)
 have h4 : ¬ cfL x.name.data.toList y.name.data.toList = 0 := fun h => by
  have e := kS_inj ((cfL_eq _ _).1 h)
  rw [e] at h1; exact List.lt_irrefl _ h1
 omega
theorem cf_eq {x y : Bd} (h1 : ltB x y = false) (h2 : ltB y x = false) : cfL x.name.data.toList y.name.data.toList = 0 /\ x.name = y.name := by
 have e : x.name = y.name := Decidable.byContradiction fun hn => ltB_iff'.1 h2 (kS_tri (ltB_iff'.1 h1) hn)
 exact ⟨(cfL_eq _ _).2 (by rw [e]), e⟩
def FZipN : List Ar -> Option Rs
 | [.agg [.d (.v (.string x0)), .d (.v (.bool _)), .d (.v (.int .i64 _)), .d (.v (.int .i64 _)), .d (.v (.bool _)), .d (.v (.int .i64 _)), .d (.v (.int .i64 _)), .d (.v (.bool _)), .d (.lst 1 _ _)]] => some ⟨True, .va (.c (.d (st x0))), []⟩
 | _ => none
theorem fcZipN : FC Tryz.prog 142 FZipN := by
 intro xs pre r us h hp
 unfold FZipN at h
 split at h
 . rename_i x0 s0 l0 h0 b0 m0 r0 z0 n0 f0
   cases h
   refine fcat tys_ok (l := []) trivial Tryz.func142 rfl (by kernel_rfl) false ?_
   repeat' (first | exact trivial | refine ⟨?_, ?_⟩ | intro _)
   all_goals first | (with_reducible first | apply qa | apply qb | apply qc | apply qd) | (conv => whnf)
   all_goals grind
 . cases h
def FEZip (Op : Vl -> Vl -> Vl) (Q : Vl -> Vl -> Prop) (gz : List Cv -> Option Gs) : List Ar -> Option Rs
 | [.agg [.d (.v (.bool _)), .d (.lst 9 n0 f0)], .agg [.d (.v (.bool _)), .d (.lst 9 n1 f1)], .fv g2] => some ⟨(n0 <= 1099511627776 /\ RowsOk n0 f0) /\ (n1 <= 1099511627776 /\ RowsOk n1 f1) /\ (g2 = gz /\ GOk gz Op Q /\ QOk Q (gBs n0 f0) (gBs n1 f1) /\ n0 + n1 <= 1099511627776), .va (En.ar (⟨true, mrg Op (gBs n0 f0) (gBs n1 f1)⟩)), []⟩
 | _ => none
abbrev pl2Z : Plan := .all [(0, .all [(1, .all [(2, .all [(3, .all [(4, .all [(5, .done)])])]), (3, .all [(2, .all [(4, .all [(5, .done)])])])]), (2, .all [(1, .all [(3, .all [(4, .all [(5, .done)])])]), (3, .all [(1, .all [(4, .all [(5, .done)])]), (4, .all [(1, .all [(5, .done)])])])]), (3, .all [(1, .all [(2, .all [(4, .all [(5, .done)])])]), (2, .all [(1, .all [(4, .all [(5, .done)])]), (4, .all [(1, .all [(5, .done)])])])])]), (1, .all [(0, .all [(2, .all [(3, .all [(4, .all [(5, .done)])])]), (3, .all [(2, .all [(4, .all [(5, .done)])])])]), (2, .all [(0, .all [(3, .all [(4, .all [(5, .done)])])]), (3, .all [(0, .all [(4, .all [(5, .done)])])])]), (3, .all [(0, .all [(2, .all [(4, .all [(5, .done)])])]), (2, .all [(0, .all [(4, .all [(5, .done)])])])])]), (2, .all [(0, .all [(1, .all [(3, .all [(4, .all [(5, .done)])])]), (3, .all [(1, .all [(4, .all [(5, .done)])]), (4, .all [(1, .all [(5, .done)])])])]), (1, .all [(0, .all [(3, .all [(4, .all [(5, .done)])])]), (3, .all [(0, .all [(4, .all [(5, .done)])])])]), (3, .all [(0, .all [(1, .all [(4, .all [(5, .done)])]), (4, .all [(1, .all [(5, .done)])])]), (1, .all [(0, .all [(4, .all [(5, .done)])])])])]), (3, .all [(0, .all [(1, .all [(2, .all [(4, .all [(5, .done)])])]), (2, .all [(1, .all [(4, .all [(5, .done)])]), (4, .all [(1, .all [(5, .done)])])])]), (1, .all [(0, .all [(2, .all [(4, .all [(5, .done)])])]), (2, .all [(0, .all [(4, .all [(5, .done)])])])]), (2, .all [(0, .all [(1, .all [(4, .all [(5, .done)])]), (4, .all [(1, .all [(5, .done)])])]), (1, .all [(0, .all [(4, .all [(5, .done)])])])])])]
abbrev pl3Z : Plan := .take 0 (.take 1 (.take 3 (.take 4 (.all [(2, .all [(5, .take 6 (.done))])]))))
abbrev sl4Z : List (Nat × Sm) := [(142, ⟨[], FZipN⟩), (70, ⟨[], FStrCmp⟩)]
theorem sp4Z : sumsOk Tryz.prog sl4Z := ⟨fcZipN, fcStrCmp, trivial⟩
theorem fcEZip (Op : Vl -> Vl -> Vl) (Q : Vl -> Vl -> Prop) (gz : List Cv -> Option Gs) : FC Tryz.prog 94 (FEZip Op Q gz) := by
 intro xs pre r us h hp
 unfold FEZip at h
 split at h
 . rename_i e0 n0 f0 e1 n1 f1 g2
   cases h
   obtain ⟨hp0, hp1, hp2⟩ := hp
   refine FCat.deep (ys := [.agg [.d (.v (.bool e0)), .d (.lst 9 n0 (rwB (gBs n0 f0)))], .agg [.d (.v (.bool e1)), .d (.lst 9 n1 (rwB (gBs n1 f1)))], .fv g2]) ?_ ?_
   . repeat' (first | exact trivial | exact rfl | exact DvE.refl _ | refine ⟨?_, ?_⟩ | fail)
     all_goals first | first | exact canonB hp0.2.h | exact canonB hp1.2.h
   refine fcat tys_ok (l := sl4Z) sp4Z Tryz.func94 rfl (by kernel_rfl) true ?_
   obtain ⟨rfl, hgk, hqk, hnm⟩ := hp2
   have hn := hp0.1
   have hL := okL_rows hp0.2
   have hlen := gBs_length n0 f0
   generalize gBs n0 f0 = L at *
   clear hp0
   subst hlen
   have hrow := okL_row hL
   have hb := gBs_row L
   have hm := hp1.1
   have hM := okL_rows hp1.2
   have hlen1 := gBs_length n1 f1
   generalize gBs n1 f1 = M at *
   clear hp1
   subst hlen1
   have hrow1 := okL_row hM
   have hb1 := gBs_row M
   repeat' (first | exact trivial | refine ⟨?_, ?_⟩ | intro _)
   all_goals first | (with_reducible first | apply qa | apply qb | apply qc | apply qd) | (conv => whnf)
   all_goals first | ((with_reducible show ACall _ _ _ _ _ _); refine inl tys_ok (l := sl4Z) sp4Z Tryz.func141 rfl (by kernel_rfl) (by kernel_rfl) rfl ?_) | skip
   all_goals repeat' (first | exact trivial | refine ⟨?_, ?_⟩ | intro _)
   all_goals first | (with_reducible first | apply qa | apply qb | apply qc | apply qd) | (conv => whnf)
   refine loop_ids tys_ok (l := sl4Z) sp4Z (by kernel_rfl) (X := Nat × Nat × List Bd)
    (fun x => ⟨[(9, .va (.c (.osl 5 9 0 x.2.2.length))), (10, .va (.c (.own 4 0))), (0, .va (.c (.d (.lst 9 (L.length - x.1) fun k => rwB L (x.1 + k))))), (1, .va (.c (.d (.lst 9 (M.length - x.2.1) fun k => rwB M (x.2.1 + k))))), (2, .va (.c (.fn 142 []))), (3, .va (.c (.fn 143 [(2, 0)])))],
      [(2, .cells [.fv g2]), (3, .cells [.d (bo false), .d (.v (.slice none 0 0))]), (4, .cells [.d (.v (.string ⟨#[]⟩)), .d (bo false), .d (it 0), .d (it 0), .d (bo false), .d (it 0), .d (it 0), .d (bo false), .d (.v (.slice none 0 0))]), (5, .row 9 x.2.2.length (rwB x.2.2))], 6, 65⟩)
    (fun x => (L.length - x.1) + (M.length - x.2.1)) (fun x => x.1 <= L.length /\ x.2.1 <= M.length /\ x.2.2.length <= x.1 + x.2.1 /\ x.2.2 ++ mrg Op (L.drop x.1) (M.drop x.2.1) = mrg Op L M) [63] []
    (fun x _ _ => nxM Op L M x) (fun xs => match xs with | [t] => [0, 1, 2, 3, 4, oI t] | _ => []) [0, 1, 2, 3, 4] 0 1 (0, 0, []) ?_ ?_ ?_
   . exact ⟨Nat.zero_le _, Nat.zero_le _, Nat.le_refl _, rfl⟩
   . repeat' (first | exact trivial | exact rfl | (intro _ h; exact absurd h (Nat.not_lt_zero _)) | (intro _ _; exact rfl) | refine ⟨?_, ?_⟩ | fail)
     all_goals first | (simp; done) | (intro i _; simp; done)
   . rintro ⟨i, j, out⟩ ⟨k1, k2, k3, k4⟩
     dsimp only at k1 k2 k3 k4
     by_cases hend : i < L.length \/ j < M.length
     . have hstep := (nxM_ok (op := Op) (out := out) hend).trans k4
       rcases Nat.lt_or_ge i L.length with ci | ci
       . rcases Nat.lt_or_ge j M.length with cj | cj
         . cases hlt : ltB (atB L i) (atB M j) with
           | true =>
             have hne1 : decide (((L.length - i : Nat) : Int) > 0) = true := decide_eq_true (by omega)
             have hne2 : (((L.length - i : Nat) : Int) == 0) = false := beq_eq_false_iff_ne.2 (by omega)
             have hne3 : (((M.length - j : Nat) : Int) == 0) = false := beq_eq_false_iff_ne.2 (by omega)
             have hne4 : decide (((M.length - j : Nat) : Int) > 0) = true := decide_eq_true (by omega)
             have hne5 : decide (cfL (atB L (i + Int.toNat 0)).name.data.toList (atB M (j + Int.toNat 0)).name.data.toList <= 0) = true := decide_eq_true (Int.le_of_lt (cf_lt hlt))
             have hne6 : decide (cfL (atB L (i + Int.toNat 0)).name.data.toList (atB M (j + Int.toNat 0)).name.data.toList ≥ 0) = false := decide_eq_false (Int.not_le.2 (cf_lt hlt))
             have ht0 : Int.toNat 0 = 0 := rfl
             have e1 : nxM Op L M (i, j, out) = (i + 1, j, out ++ [⟨(atB L i).name, Op (atB L i).v Vl.zero⟩]) := by
              unfold nxM; dsimp only; rw [if_pos ci, if_pos cj, if_pos hlt]
             rw [e1] at hstep
             obtain ⟨gp, hg, hgp⟩ := hgk.left _ (okL_at hL ci) (hqk.left _ (atB_mem ci))
             simp only [vlC, vlZ] at hg
             dsimp only at hstep
             repeat' (first | exact trivial | (with_reducible first | exact (fun h => absurd (hne1.symm.trans h) (by decide)) | exact (fun h => absurd (hne2.symm.trans h) (by decide)) | exact (fun h => absurd (hne3.symm.trans h) (by decide)) | exact (fun h => absurd (hne4.symm.trans h) (by decide)) | exact (fun h => absurd (hne5.symm.trans h) (by decide)) | exact (fun h => absurd (hne6.symm.trans h) (by decide)) | exact (fun h => absurd (h : decide ((-1 : Int) <= 0) = false) (by decide)) | exact (fun h => absurd (h : decide ((-1 : Int) ≥ 0) = true) (by decide)) | exact (fun h => absurd (h : decide ((1 : Int) <= 0) = true) (by decide)) | exact (fun h => absurd (h : decide ((1 : Int) ≥ 0) = false) (by decide))) | refine ⟨?_, ?_⟩ | intro _)
             all_goals first | (with_reducible first | apply qa | apply qb | apply qc | apply qd) | (conv => whnf)
             all_goals first | ((with_reducible show ASat _ _ _ _ _); refine draw_ren tys_ok (l := sl4Z) sp4Z (by kernel_rfl) pl2Z 6 8 [0, 1, 2, 3, 4, 5, 6, 7] [12, 13] [0, 1, 2, 3, 8, 9, 10, 11, 12, 13, 21, 33, 37, 44, 51] (by kernel_rfl) ?_; apply tail_intro; · (repeat' (first | exact trivial | refine ⟨?_, ?_⟩ | intro _)) <;> (first | exact rfl | omega | assumption | (dsimp only; omega))) | skip
             all_goals repeat' (first | exact trivial | (with_reducible first | exact (fun h => absurd (hne1.symm.trans h) (by decide)) | exact (fun h => absurd (hne2.symm.trans h) (by decide)) | exact (fun h => absurd (hne3.symm.trans h) (by decide)) | exact (fun h => absurd (hne4.symm.trans h) (by decide)) | exact (fun h => absurd (hne5.symm.trans h) (by decide)) | exact (fun h => absurd (hne6.symm.trans h) (by decide)) | exact (fun h => absurd (h : decide ((-1 : Int) <= 0) = false) (by decide)) | exact (fun h => absurd (h : decide ((-1 : Int) ≥ 0) = true) (by decide)) | exact (fun h => absurd (h : decide ((1 : Int) <= 0) = true) (by decide)) | exact (fun h => absurd (h : decide ((1 : Int) ≥ 0) = false) (by decide))) | refine ⟨?_, ?_⟩ | intro _)
             all_goals first | (with_reducible first | apply qa | apply qb | apply qc | apply qd) | (conv => whnf)
             all_goals first | ((with_reducible show ASat _ _ _ _ _); refine draw_cut tys_ok (l := sl4Z) sp4Z (by kernel_rfl) pl3Z [0, 1, 2, 3, 8, 9, 10, 11, 12, 13, 21, 33, 37, 44, 51] (by kernel_rfl) ?_; apply tail_intro; · (repeat' (first | exact trivial | refine ⟨?_, ?_⟩ | intro _)) <;> (first | exact rfl | omega | assumption | (dsimp only; omega))) | skip
             all_goals repeat' (first | exact trivial | (with_reducible first | exact (fun h => absurd (hne1.symm.trans h) (by decide)) | exact (fun h => absurd (hne2.symm.trans h) (by decide)) | exact (fun h => absurd (hne3.symm.trans h) (by decide)) | exact (fun h => absurd (hne4.symm.trans h) (by decide)) | exact (fun h => absurd (hne5.symm.trans h) (by decide)) | exact (fun h => absurd (hne6.symm.trans h) (by decide)) | exact (fun h => absurd (h : decide ((-1 : Int) <= 0) = false) (by decide)) | exact (fun h => absurd (h : decide ((-1 : Int) ≥ 0) = true) (by decide)) | exact (fun h => absurd (h : decide ((1 : Int) <= 0) = true) (by decide)) | exact (fun h => absurd (h : decide ((1 : Int) ≥ 0) = false) (by decide))) | refine ⟨?_, ?_⟩ | intro _)
             all_goals first | (with_reducible first | apply qa | apply qb | apply qc | apply qd) | (conv => whnf)
             all_goals first | ((with_reducible show ACall _ _ _ _ _ _); refine inl tys_ok (l := sl4Z) sp4Z Tryz.func143 rfl (by kernel_rfl) (by kernel_rfl) rfl ?_) | skip
             all_goals repeat' (first | exact trivial | (with_reducible first | exact (fun h => absurd (hne1.symm.trans h) (by decide)) | exact (fun h => absurd (hne2.symm.trans h) (by decide)) | exact (fun h => absurd (hne3.symm.trans h) (by decide)) | exact (fun h => absurd (hne4.symm.trans h) (by decide)) | exact (fun h => absurd (hne5.symm.trans h) (by decide)) | exact (fun h => absurd (hne6.symm.trans h) (by decide)) | exact (fun h => absurd (h : decide ((-1 : Int) <= 0) = false) (by decide)) | exact (fun h => absurd (h : decide ((-1 : Int) ≥ 0) = true) (by decide)) | exact (fun h => absurd (h : decide ((1 : Int) <= 0) = true) (by decide)) | exact (fun h => absurd (h : decide ((1 : Int) ≥ 0) = false) (by decide))) | refine ⟨?_, ?_⟩ | intro _)
             all_goals first | (with_reducible first | apply qa | apply qb | apply qc | apply qd) | (conv => whnf)
             all_goals (try simp only [ht0, Nat.add_zero, hg])
             all_goals repeat' (first | exact trivial | (with_reducible first | exact (fun h => absurd (hne1.symm.trans h) (by decide)) | exact (fun h => absurd (hne2.symm.trans h) (by decide)) | exact (fun h => absurd (hne3.symm.trans h) (by decide)) | exact (fun h => absurd (hne4.symm.trans h) (by decide)) | exact (fun h => absurd (hne5.symm.trans h) (by decide)) | exact (fun h => absurd (hne6.symm.trans h) (by decide)) | exact (fun h => absurd (h : decide ((-1 : Int) <= 0) = false) (by decide)) | exact (fun h => absurd (h : decide ((-1 : Int) ≥ 0) = true) (by decide)) | exact (fun h => absurd (h : decide ((1 : Int) <= 0) = true) (by decide)) | exact (fun h => absurd (h : decide ((1 : Int) ≥ 0) = false) (by decide)) | exact hgp) | refine ⟨?_, ?_⟩ | intro _)
             all_goals first | (with_reducible first | apply qa | apply qb | apply qc | apply qd) | (conv => whnf)
             all_goals (try simp only [lessB_nil, lessB_nil2, e1])
             all_goals first | exact Nat.le_refl _ | omega | (simp only [List.length_append, List.length_cons, List.length_nil]; omega) | exact hstep | rfl | (simp; done) | (rw [show (Int.toNat 1 : Nat) = 1 from rfl]; congr 1; omega) | ((with_reducible show idsOk _ _ = true); rfl) | (exact rwB_snoc rfl ‹_›)
           | false =>
             cases hgt : ltB (atB M j) (atB L i) with
             | true =>
               have hne1 : decide (((L.length - i : Nat) : Int) > 0) = true := decide_eq_true (by omega)
               have hne2 : (((L.length - i : Nat) : Int) == 0) = false := beq_eq_false_iff_ne.2 (by omega)
               have hne3 : (((M.length - j : Nat) : Int) == 0) = false := beq_eq_false_iff_ne.2 (by omega)
               have hne4 : decide (((M.length - j : Nat) : Int) > 0) = true := decide_eq_true (by omega)
               have hne5 : decide (cfL (atB L (i + Int.toNat 0)).name.data.toList (atB M (j + Int.toNat 0)).name.data.toList <= 0) = false := decide_eq_false (Int.not_le.2 (cf_gt hgt))
               have hne6 : decide (cfL (atB L (i + Int.toNat 0)).name.data.toList (atB M (j + Int.toNat 0)).name.data.toList ≥ 0) = true := decide_eq_true (Int.le_of_lt (cf_gt hgt))
               have ht0 : Int.toNat 0 = 0 := rfl
               have e1 : nxM Op L M (i, j, out) = (i, j + 1, out ++ [⟨(atB M j).name, Op Vl.zero (atB M j).v⟩]) := by
                unfold nxM; dsimp only; rw [if_pos ci, if_pos cj, if_neg (by rw [hlt]; exact Bool.false_ne_true), if_pos hgt]
               rw [e1] at hstep
               obtain ⟨gp, hg, hgp⟩ := hgk.right _ (okL_at hM cj) (hqk.right _ (atB_mem cj))
               simp only [vlC, vlZ] at hg
               dsimp only at hstep
               repeat' (first | exact trivial | (with_reducible first | exact (fun h => absurd (hne1.symm.trans h) (by decide)) | exact (fun h => absurd (hne2.symm.trans h) (by decide)) | exact (fun h => absurd (hne3.symm.trans h) (by decide)) | exact (fun h => absurd (hne4.symm.trans h) (by decide)) | exact (fun h => absurd (hne5.symm.trans h) (by decide)) | exact (fun h => absurd (hne6.symm.trans h) (by decide)) | exact (fun h => absurd (h : decide ((-1 : Int) <= 0) = false) (by decide)) | exact (fun h => absurd (h : decide ((-1 : Int) ≥ 0) = true) (by decide)) | exact (fun h => absurd (h : decide ((1 : Int) <= 0) = true) (by decide)) | exact (fun h => absurd (h : decide ((1 : Int) ≥ 0) = false) (by decide))) | refine ⟨?_, ?_⟩ | intro _)
               all_goals first | (with_reducible first | apply qa | apply qb | apply qc | apply qd) | (conv => whnf)
               all_goals first | ((with_reducible show ASat _ _ _ _ _); refine draw_ren tys_ok (l := sl4Z) sp4Z (by kernel_rfl) pl2Z 6 8 [0, 1, 2, 3, 4, 5, 6, 7] [12, 13] [0, 1, 2, 3, 8, 9, 10, 11, 12, 13, 21, 33, 37, 44, 51] (by kernel_rfl) ?_; apply tail_intro; · (repeat' (first | exact trivial | refine ⟨?_, ?_⟩ | intro _)) <;> (first | exact rfl | omega | assumption | (dsimp only; omega))) | skip
               all_goals repeat' (first | exact trivial | (with_reducible first | exact (fun h => absurd (hne1.symm.trans h) (by decide)) | exact (fun h => absurd (hne2.symm.trans h) (by decide)) | exact (fun h => absurd (hne3.symm.trans h) (by decide)) | exact (fun h => absurd (hne4.symm.trans h) (by decide)) | exact (fun h => absurd (hne5.symm.trans h) (by decide)) | exact (fun h => absurd (hne6.symm.trans h) (by decide)) | exact (fun h => absurd (h : decide ((-1 : Int) <= 0) = false) (by decide)) | exact (fun h => absurd (h : decide ((-1 : Int) ≥ 0) = true) (by decide)) | exact (fun h => absurd (h : decide ((1 : Int) <= 0) = true) (by decide)) | exact (fun h => absurd (h : decide ((1 : Int) ≥ 0) = false) (by decide))) | refine ⟨?_, ?_⟩ | intro _)
               all_goals first | (with_reducible first | apply qa | apply qb | apply qc | apply qd) | (conv => whnf)
               all_goals first | ((with_reducible show ASat _ _ _ _ _); refine draw_cut tys_ok (l := sl4Z) sp4Z (by kernel_rfl) pl3Z [0, 1, 2, 3, 8, 9, 10, 11, 12, 13, 21, 33, 37, 44, 51] (by kernel_rfl) ?_; apply tail_intro; · (repeat' (first | exact trivial | refine ⟨?_, ?_⟩ | intro _)) <;> (first | exact rfl | omega | assumption | (dsimp only; omega))) | skip
               all_goals repeat' (first | exact trivial | (with_reducible first | exact (fun h => absurd (hne1.symm.trans h) (by decide)) | exact (fun h => absurd (hne2.symm.trans h) (by decide)) | exact (fun h => absurd (hne3.symm.trans h) (by decide)) | exact (fun h => absurd (hne4.symm.trans h) (by decide)) | exact (fun h => absurd (hne5.symm.trans h) (by decide)) | exact (fun h => absurd (hne6.symm.trans h) (by decide)) | exact (fun h => absurd (h : decide ((-1 : Int) <= 0) = false) (by decide)) | exact (fun h => absurd (h : decide ((-1 : Int) ≥ 0) = true) (by decide)) | exact (fun h => absurd (h : decide ((1 : Int) <= 0) = true) (by decide)) | exact (fun h => absurd (h : decide ((1 : Int) ≥ 0) = false) (by decide))) | refine ⟨?_, ?_⟩ | intro _)
               all_goals first | (with_reducible first | apply qa | apply qb | apply qc | apply qd) | (conv => whnf)
               all_goals first | ((with_reducible show ACall _ _ _ _ _ _); refine inl tys_ok (l := sl4Z) sp4Z Tryz.func143 rfl (by kernel_rfl) (by kernel_rfl) rfl ?_) | skip
               all_goals repeat' (first | exact trivial | (with_reducible first | exact (fun h => absurd (hne1.symm.trans h) (by decide)) | exact (fun h => absurd (hne2.symm.trans h) (by decide)) | exact (fun h => absurd (hne3.symm.trans h) (by decide)) | exact (fun h => absurd (hne4.symm.trans h) (by decide)) | exact (fun h => absurd (hne5.symm.trans h) (by decide)) | exact (fun h => absurd (hne6.symm.trans h) (by decide)) | exact (fun h => absurd (h : decide ((-1 : Int) <= 0) = false) (by decide)) | exact (fun h => absurd (h : decide ((-1 : Int) ≥ 0) = true) (by decide)) | exact (fun h => absurd (h : decide ((1 : Int) <= 0) = true) (by decide)) | exact (fun h => absurd (h : decide ((1 : Int) ≥ 0) = false) (by decide))) | refine ⟨?_, ?_⟩ | intro _)
               all_goals first | (with_reducible first | apply qa | apply qb | apply qc | apply qd) | (conv => whnf)
               all_goals (try simp only [ht0, Nat.add_zero, hg])
               all_goals repeat' (first | exact trivial | (with_reducible first | exact (fun h => absurd (hne1.symm.trans h) (by decide)) | exact (fun h => absurd (hne2.symm.trans h) (by decide)) | exact (fun h => absurd (hne3.symm.trans h) (by decide)) | exact (fun h => absurd (hne4.symm.trans h) (by decide)) | exact (fun h => absurd (hne5.symm.trans h) (by decide)) | exact (fun h => absurd (hne6.symm.trans h) (by decide)) | exact (fun h => absurd (h : decide ((-1 : Int) <= 0) = false) (by decide)) | exact (fun h => absurd (h : decide ((-1 : Int) ≥ 0) = true) (by decide)) | exact (fun h => absurd (h : decide ((1 : Int) <= 0) = true) (by decide)) | exact (fun h => absurd (h : decide ((1 : Int) ≥ 0) = false) (by decide)) | exact hgp) | refine ⟨?_, ?_⟩ | intro _)
               all_goals first | (with_reducible first | apply qa | apply qb | apply qc | apply qd) | (conv => whnf)
               all_goals (try simp only [lessB_nil, lessB_nil2, e1])
               all_goals first | exact Nat.le_refl _ | omega | (simp only [List.length_append, List.length_cons, List.length_nil]; omega) | exact hstep | rfl | (simp; done) | (rw [show (Int.toNat 1 : Nat) = 1 from rfl]; congr 1; omega) | ((with_reducible show idsOk _ _ = true); rfl) | (exact rwB_snoc rfl ‹_›)
             | false =>
               have hne1 : decide (((L.length - i : Nat) : Int) > 0) = true := decide_eq_true (by omega)
               have hne2 : (((L.length - i : Nat) : Int) == 0) = false := beq_eq_false_iff_ne.2 (by omega)
               have hne3 : (((M.length - j : Nat) : Int) == 0) = false := beq_eq_false_iff_ne.2 (by omega)
               have hne4 : decide (((M.length - j : Nat) : Int) > 0) = true := decide_eq_true (by omega)
               have hne5 : decide (cfL (atB L (i + Int.toNat 0)).name.data.toList (atB M (j + Int.toNat 0)).name.data.toList <= 0) = true := decide_eq_true (Int.le_of_eq (cf_eq hlt hgt).1)
               have hne6 : decide (cfL (atB L (i + Int.toNat 0)).name.data.toList (atB M (j + Int.toNat 0)).name.data.toList ≥ 0) = true := decide_eq_true (Int.le_of_eq (cf_eq hlt hgt).1.symm)
               have ht0 : Int.toNat 0 = 0 := rfl
               have e1 : nxM Op L M (i, j, out) = (i + 1, j + 1, out ++ [⟨(atB L i).name, Op (atB L i).v (atB M j).v⟩]) := by
                unfold nxM; dsimp only; rw [if_pos ci, if_pos cj, if_neg (by rw [hlt]; exact Bool.false_ne_true), if_neg (by rw [hgt]; exact Bool.false_ne_true)]
               rw [e1] at hstep
               obtain ⟨gp, hg, hgp⟩ := hgk.both _ _ (okL_at hL ci) (okL_at hM cj) (hqk.both _ (atB_mem ci) _ (atB_mem cj))
               simp only [vlC, vlZ] at hg
               dsimp only at hstep
               repeat' (first | exact trivial | (with_reducible first | exact (fun h => absurd (hne1.symm.trans h) (by decide)) | exact (fun h => absurd (hne2.symm.trans h) (by decide)) | exact (fun h => absurd (hne3.symm.trans h) (by decide)) | exact (fun h => absurd (hne4.symm.trans h) (by decide)) | exact (fun h => absurd (hne5.symm.trans h) (by decide)) | exact (fun h => absurd (hne6.symm.trans h) (by decide)) | exact (fun h => absurd (h : decide ((-1 : Int) <= 0) = false) (by decide)) | exact (fun h => absurd (h : decide ((-1 : Int) ≥ 0) = true) (by decide)) | exact (fun h => absurd (h : decide ((1 : Int) <= 0) = true) (by decide)) | exact (fun h => absurd (h : decide ((1 : Int) ≥ 0) = false) (by decide))) | refine ⟨?_, ?_⟩ | intro _)
               all_goals first | (with_reducible first | apply qa | apply qb | apply qc | apply qd) | (conv => whnf)
               all_goals first | ((with_reducible show ASat _ _ _ _ _); refine draw_ren tys_ok (l := sl4Z) sp4Z (by kernel_rfl) pl2Z 6 8 [0, 1, 2, 3, 4, 5, 6, 7] [12, 13] [0, 1, 2, 3, 8, 9, 10, 11, 12, 13, 21, 33, 37, 44, 51] (by kernel_rfl) ?_; apply tail_intro; · (repeat' (first | exact trivial | refine ⟨?_, ?_⟩ | intro _)) <;> (first | exact rfl | omega | assumption | (dsimp only; omega))) | skip
               all_goals repeat' (first | exact trivial | (with_reducible first | exact (fun h => absurd (hne1.symm.trans h) (by decide)) | exact (fun h => absurd (hne2.symm.trans h) (by decide)) | exact (fun h => absurd (hne3.symm.trans h) (by decide)) | exact (fun h => absurd (hne4.symm.trans h) (by decide)) | exact (fun h => absurd (hne5.symm.trans h) (by decide)) | exact (fun h => absurd (hne6.symm.trans h) (by decide)) | exact (fun h => absurd (h : decide ((-1 : Int) <= 0) = false) (by decide)) | exact (fun h => absurd (h : decide ((-1 : Int) ≥ 0) = true) (by decide)) | exact (fun h => absurd (h : decide ((1 : Int) <= 0) = true) (by decide)) | exact (fun h => absurd (h : decide ((1 : Int) ≥ 0) = false) (by decide))) | refine ⟨?_, ?_⟩ | intro _)
               all_goals first | (with_reducible first | apply qa | apply qb | apply qc | apply qd) | (conv => whnf)
               all_goals first | ((with_reducible show ASat _ _ _ _ _); refine draw_cut tys_ok (l := sl4Z) sp4Z (by kernel_rfl) pl3Z [0, 1, 2, 3, 8, 9, 10, 11, 12, 13, 21, 33, 37, 44, 51] (by kernel_rfl) ?_; apply tail_intro; · (repeat' (first | exact trivial | refine ⟨?_, ?_⟩ | intro _)) <;> (first | exact rfl | omega | assumption | (dsimp only; omega))) | skip
               all_goals repeat' (first | exact trivial | (with_reducible first | exact (fun h => absurd (hne1.symm.trans h) (by decide)) | exact (fun h => absurd (hne2.symm.trans h) (by decide)) | exact (fun h => absurd (hne3.symm.trans h) (by decide)) | exact (fun h => absurd (hne4.symm.trans h) (by decide)) | exact (fun h => absurd (hne5.symm.trans h) (by decide)) | exact (fun h => absurd (hne6.symm.trans h) (by decide)) | exact (fun h => absurd (h : decide ((-1 : Int) <= 0) = false) (by decide)) | exact (fun h => absurd (h : decide ((-1 : Int) ≥ 0) = true) (by decide)) | exact (fun h => absurd (h : decide ((1 : Int) <= 0) = true) (by decide)) | exact (fun h => absurd (h : decide ((1 : Int) ≥ 0) = false) (by decide))) | refine ⟨?_, ?_⟩ | intro _)
               all_goals first | (with_reducible first | apply qa | apply qb | apply qc | apply qd) | (conv => whnf)
               all_goals first | ((with_reducible show ASat _ _ _ _ _); refine draw_cut tys_ok (l := sl4Z) sp4Z (by kernel_rfl) pl3Z [0, 1, 2, 3, 8, 9, 10, 11, 12, 13, 21, 33, 37, 44, 51] (by kernel_rfl) ?_; apply tail_intro; · (repeat' (first | exact trivial | refine ⟨?_, ?_⟩ | intro _)) <;> (first | exact rfl | omega | assumption | (dsimp only; omega))) | skip
               all_goals repeat' (first | exact trivial | (with_reducible first | exact (fun h => absurd (hne1.symm.trans h) (by decide)) | exact (fun h => absurd (hne2.symm.trans h) (by decide)) | exact (fun h => absurd (hne3.symm.trans h) (by decide)) | exact (fun h => absurd (hne4.symm.trans h) (by decide)) | exact (fun h => absurd (hne5.symm.trans h) (by decide)) | exact (fun h => absurd (hne6.symm.trans h) (by decide)) | exact (fun h => absurd (h : decide ((-1 : Int) <= 0) = false) (by decide)) | exact (fun h => absurd (h : decide ((-1 : Int) ≥ 0) = true) (by decide)) | exact (fun h => absurd (h : decide ((1 : Int) <= 0) = true) (by decide)) | exact (fun h => absurd (h : decide ((1 : Int) ≥ 0) = false) (by decide))) | refine ⟨?_, ?_⟩ | intro _)
               all_goals first | (with_reducible first | apply qa | apply qb | apply qc | apply qd) | (conv => whnf)
               all_goals first | ((with_reducible show ACall _ _ _ _ _ _); refine inl tys_ok (l := sl4Z) sp4Z Tryz.func143 rfl (by kernel_rfl) (by kernel_rfl) rfl ?_) | skip
               all_goals repeat' (first | exact trivial | (with_reducible first | exact (fun h => absurd (hne1.symm.trans h) (by decide)) | exact (fun h => absurd (hne2.symm.trans h) (by decide)) | exact (fun h => absurd (hne3.symm.trans h) (by decide)) | exact (fun h => absurd (hne4.symm.trans h) (by decide)) | exact (fun h => absurd (hne5.symm.trans h) (by decide)) | exact (fun h => absurd (hne6.symm.trans h) (by decide)) | exact (fun h => absurd (h : decide ((-1 : Int) <= 0) = false) (by decide)) | exact (fun h => absurd (h : decide ((-1 : Int) ≥ 0) = true) (by decide)) | exact (fun h => absurd (h : decide ((1 : Int) <= 0) = true) (by decide)) | exact (fun h => absurd (h : decide ((1 : Int) ≥ 0) = false) (by decide))) | refine ⟨?_, ?_⟩ | intro _)
               all_goals first | (with_reducible first | apply qa | apply qb | apply qc | apply qd) | (conv => whnf)
               all_goals (try simp only [ht0, Nat.add_zero, hg])
               all_goals repeat' (first | exact trivial | (with_reducible first | exact (fun h => absurd (hne1.symm.trans h) (by decide)) | exact (fun h => absurd (hne2.symm.trans h) (by decide)) | exact (fun h => absurd (hne3.symm.trans h) (by decide)) | exact (fun h => absurd (hne4.symm.trans h) (by decide)) | exact (fun h => absurd (hne5.symm.trans h) (by decide)) | exact (fun h => absurd (hne6.symm.trans h) (by decide)) | exact (fun h => absurd (h : decide ((-1 : Int) <= 0) = false) (by decide)) | exact (fun h => absurd (h : decide ((-1 : Int) ≥ 0) = true) (by decide)) | exact (fun h => absurd (h : decide ((1 : Int) <= 0) = true) (by decide)) | exact (fun h => absurd (h : decide ((1 : Int) ≥ 0) = false) (by decide)) | exact hgp) | refine ⟨?_, ?_⟩ | intro _)
               all_goals first | (with_reducible first | apply qa | apply qb | apply qc | apply qd) | (conv => whnf)
               all_goals (try simp only [lessB_nil, lessB_nil2, lessB_eq (cf_eq hlt hgt).2, e1])
               all_goals first | exact Nat.le_refl _ | omega | (simp only [List.length_append, List.length_cons, List.length_nil]; omega) | exact hstep | rfl | (simp; done) | (rw [show (Int.toNat 1 : Nat) = 1 from rfl]; congr 1; omega) | ((with_reducible show idsOk _ _ = true); rfl) | (exact rwB_snoc rfl ‹_›)
         . have hne1 : decide (((L.length - i : Nat) : Int) > 0) = true := decide_eq_true (by omega)
           have hne2 : (((L.length - i : Nat) : Int) == 0) = false := beq_eq_false_iff_ne.2 (by omega)
           have hne3 : (((M.length - j : Nat) : Int) == 0) = true := beq_iff_eq.2 (by omega)
           have hne4 : decide (((M.length - j : Nat) : Int) > 0) = false := decide_eq_false (by omega)
           have ht0 : Int.toNat 0 = 0 := rfl
           have e1 : nxM Op L M (i, j, out) = (i + 1, j, out ++ [⟨(atB L i).name, Op (atB L i).v Vl.zero⟩]) := by
            unfold nxM; dsimp only; rw [if_pos ci, if_neg (by omega)]
           rw [e1] at hstep
           obtain ⟨gp, hg, hgp⟩ := hgk.left _ (okL_at hL ci) (hqk.left _ (atB_mem ci))
           simp only [vlC, vlZ] at hg
           dsimp only at hstep
           repeat' (first | exact trivial | (with_reducible first | exact (fun h => absurd (hne1.symm.trans h) (by decide)) | exact (fun h => absurd (hne2.symm.trans h) (by decide)) | exact (fun h => absurd (hne3.symm.trans h) (by decide)) | exact (fun h => absurd (hne4.symm.trans h) (by decide)) | exact (fun h => absurd (h : decide ((-1 : Int) <= 0) = false) (by decide)) | exact (fun h => absurd (h : decide ((-1 : Int) ≥ 0) = true) (by decide)) | exact (fun h => absurd (h : decide ((1 : Int) <= 0) = true) (by decide)) | exact (fun h => absurd (h : decide ((1 : Int) ≥ 0) = false) (by decide))) | refine ⟨?_, ?_⟩ | intro _)
           all_goals first | (with_reducible first | apply qa | apply qb | apply qc | apply qd) | (conv => whnf)
           all_goals first | ((with_reducible show ASat _ _ _ _ _); refine draw_ren tys_ok (l := sl4Z) sp4Z (by kernel_rfl) pl2Z 6 8 [0, 1, 2, 3, 4, 5, 6, 7] [12, 13] [0, 1, 2, 3, 8, 9, 10, 11, 12, 13, 21, 33, 37, 44, 51] (by kernel_rfl) ?_; apply tail_intro; · (repeat' (first | exact trivial | refine ⟨?_, ?_⟩ | intro _)) <;> (first | exact rfl | omega | assumption | (dsimp only; omega))) | skip
           all_goals repeat' (first | exact trivial | (with_reducible first | exact (fun h => absurd (hne1.symm.trans h) (by decide)) | exact (fun h => absurd (hne2.symm.trans h) (by decide)) | exact (fun h => absurd (hne3.symm.trans h) (by decide)) | exact (fun h => absurd (hne4.symm.trans h) (by decide)) | exact (fun h => absurd (h : decide ((-1 : Int) <= 0) = false) (by decide)) | exact (fun h => absurd (h : decide ((-1 : Int) ≥ 0) = true) (by decide)) | exact (fun h => absurd (h : decide ((1 : Int) <= 0) = true) (by decide)) | exact (fun h => absurd (h : decide ((1 : Int) ≥ 0) = false) (by decide))) | refine ⟨?_, ?_⟩ | intro _)
           all_goals first | (with_reducible first | apply qa | apply qb | apply qc | apply qd) | (conv => whnf)
           all_goals first | ((with_reducible show ASat _ _ _ _ _); refine draw_cut tys_ok (l := sl4Z) sp4Z (by kernel_rfl) pl3Z [0, 1, 2, 3, 8, 9, 10, 11, 12, 13, 21, 33, 37, 44, 51] (by kernel_rfl) ?_; apply tail_intro; · (repeat' (first | exact trivial | refine ⟨?_, ?_⟩ | intro _)) <;> (first | exact rfl | omega | assumption | (dsimp only; omega))) | skip
           all_goals repeat' (first | exact trivial | (with_reducible first | exact (fun h => absurd (hne1.symm.trans h) (by decide)) | exact (fun h => absurd (hne2.symm.trans h) (by decide)) | exact (fun h => absurd (hne3.symm.trans h) (by decide)) | exact (fun h => absurd (hne4.symm.trans h) (by decide)) | exact (fun h => absurd (h : decide ((-1 : Int) <= 0) = false) (by decide)) | exact (fun h => absurd (h : decide ((-1 : Int) ≥ 0) = true) (by decide)) | exact (fun h => absurd (h : decide ((1 : Int) <= 0) = true) (by decide)) | exact (fun h => absurd (h : decide ((1 : Int) ≥ 0) = false) (by decide))) | refine ⟨?_, ?_⟩ | intro _)
           all_goals first | (with_reducible first | apply qa | apply qb | apply qc | apply qd) | (conv => whnf)
           all_goals first | ((with_reducible show ACall _ _ _ _ _ _); refine inl tys_ok (l := sl4Z) sp4Z Tryz.func143 rfl (by kernel_rfl) (by kernel_rfl) rfl ?_) | skip
           all_goals repeat' (first | exact trivial | (with_reducible first | exact (fun h => absurd (hne1.symm.trans h) (by decide)) | exact (fun h => absurd (hne2.symm.trans h) (by decide)) | exact (fun h => absurd (hne3.symm.trans h) (by decide)) | exact (fun h => absurd (hne4.symm.trans h) (by decide)) | exact (fun h => absurd (h : decide ((-1 : Int) <= 0) = false) (by decide)) | exact (fun h => absurd (h : decide ((-1 : Int) ≥ 0) = true) (by decide)) | exact (fun h => absurd (h : decide ((1 : Int) <= 0) = true) (by decide)) | exact (fun h => absurd (h : decide ((1 : Int) ≥ 0) = false) (by decide))) | refine ⟨?_, ?_⟩ | intro _)
           all_goals first | (with_reducible first | apply qa | apply qb | apply qc | apply qd) | (conv => whnf)
           all_goals (try simp only [ht0, Nat.add_zero, hg])
           all_goals repeat' (first | exact trivial | (with_reducible first | exact (fun h => absurd (hne1.symm.trans h) (by decide)) | exact (fun h => absurd (hne2.symm.trans h) (by decide)) | exact (fun h => absurd (hne3.symm.trans h) (by decide)) | exact (fun h => absurd (hne4.symm.trans h) (by decide)) | exact (fun h => absurd (h : decide ((-1 : Int) <= 0) = false) (by decide)) | exact (fun h => absurd (h : decide ((-1 : Int) ≥ 0) = true) (by decide)) | exact (fun h => absurd (h : decide ((1 : Int) <= 0) = true) (by decide)) | exact (fun h => absurd (h : decide ((1 : Int) ≥ 0) = false) (by decide)) | exact hgp) | refine ⟨?_, ?_⟩ | intro _)
           all_goals first | (with_reducible first | apply qa | apply qb | apply qc | apply qd) | (conv => whnf)
           all_goals (try simp only [lessB_nil, lessB_nil2, e1])
           all_goals first | exact Nat.le_refl _ | omega | (simp only [List.length_append, List.length_cons, List.length_nil]; omega) | exact hstep | rfl | (simp; done) | (rw [show (Int.toNat 1 : Nat) = 1 from rfl]; congr 1; omega) | ((with_reducible show idsOk _ _ = true); rfl) | (exact rwB_snoc rfl ‹_›)
       . have cj : j < M.length := hend.resolve_left (by omega)
         have hne1 : decide (((L.length - i : Nat) : Int) > 0) = false := decide_eq_false (by omega)
         have hne2 : (((L.length - i : Nat) : Int) == 0) = true := beq_iff_eq.2 (by omega)
         have hne3 : (((M.length - j : Nat) : Int) == 0) = false := beq_eq_false_iff_ne.2 (by omega)
         have hne4 : decide (((M.length - j : Nat) : Int) > 0) = true := decide_eq_true (by omega)
         have ht0 : Int.toNat 0 = 0 := rfl
         have e1 : nxM Op L M (i, j, out) = (i, j + 1, out ++ [⟨(atB M j).name, Op Vl.zero (atB M j).v⟩]) := by
          unfold nxM; dsimp only; rw [if_neg (by omega)]
         rw [e1] at hstep
         obtain ⟨gp, hg, hgp⟩ := hgk.right _ (okL_at hM cj) (hqk.right _ (atB_mem cj))
         simp only [vlC, vlZ] at hg
         dsimp only at hstep
         repeat' (first | exact trivial | (with_reducible first | exact (fun h => absurd (hne1.symm.trans h) (by decide)) | exact (fun h => absurd (hne2.symm.trans h) (by decide)) | exact (fun h => absurd (hne3.symm.trans h) (by decide)) | exact (fun h => absurd (hne4.symm.trans h) (by decide)) | exact (fun h => absurd (h : decide ((-1 : Int) <= 0) = false) (by decide)) | exact (fun h => absurd (h : decide ((-1 : Int) ≥ 0) = true) (by decide)) | exact (fun h => absurd (h : decide ((1 : Int) <= 0) = true) (by decide)) | exact (fun h => absurd (h : decide ((1 : Int) ≥ 0) = false) (by decide))) | refine ⟨?_, ?_⟩ | intro _)
         all_goals first | (with_reducible first | apply qa | apply qb | apply qc | apply qd) | (conv => whnf)
         all_goals first | ((with_reducible show ASat _ _ _ _ _); refine draw_ren tys_ok (l := sl4Z) sp4Z (by kernel_rfl) pl2Z 6 8 [0, 1, 2, 3, 4, 5, 6, 7] [12, 13] [0, 1, 2, 3, 8, 9, 10, 11, 12, 13, 21, 33, 37, 44, 51] (by kernel_rfl) ?_; apply tail_intro; · (repeat' (first | exact trivial | refine ⟨?_, ?_⟩ | intro _)) <;> (first | exact rfl | omega | assumption | (dsimp only; omega))) | skip
         all_goals repeat' (first | exact trivial | (with_reducible first | exact (fun h => absurd (hne1.symm.trans h) (by decide)) | exact (fun h => absurd (hne2.symm.trans h) (by decide)) | exact (fun h => absurd (hne3.symm.trans h) (by decide)) | exact (fun h => absurd (hne4.symm.trans h) (by decide)) | exact (fun h => absurd (h : decide ((-1 : Int) <= 0) = false) (by decide)) | exact (fun h => absurd (h : decide ((-1 : Int) ≥ 0) = true) (by decide)) | exact (fun h => absurd (h : decide ((1 : Int) <= 0) = true) (by decide)) | exact (fun h => absurd (h : decide ((1 : Int) ≥ 0) = false) (by decide))) | refine ⟨?_, ?_⟩ | intro _)
         all_goals first | (with_reducible first | apply qa | apply qb | apply qc | apply qd) | (conv => whnf)
         all_goals first | ((with_reducible show ASat _ _ _ _ _); refine draw_cut tys_ok (l := sl4Z) sp4Z (by kernel_rfl) pl3Z [0, 1, 2, 3, 8, 9, 10, 11, 12, 13, 21, 33, 37, 44, 51] (by kernel_rfl) ?_; apply tail_intro; · (repeat' (first | exact trivial | refine ⟨?_, ?_⟩ | intro _)) <;> (first | exact rfl | omega | assumption | (dsimp only; omega))) | skip
         all_goals repeat' (first | exact trivial | (with_reducible first | exact (fun h => absurd (hne1.symm.trans h) (by decide)) | exact (fun h => absurd (hne2.symm.trans h) (by decide)) | exact (fun h => absurd (hne3.symm.trans h) (by decide)) | exact (fun h => absurd (hne4.symm.trans h) (by decide)) | exact (fun h => absurd (h : decide ((-1 : Int) <= 0) = false) (by decide)) | exact (fun h => absurd (h : decide ((-1 : Int) ≥ 0) = true) (by decide)) | exact (fun h => absurd (h : decide ((1 : Int) <= 0) = true) (by decide)) | exact (fun h => absurd (h : decide ((1 : Int) ≥ 0) = false) (by decide))) | refine ⟨?_, ?_⟩ | intro _)
         all_goals first | (with_reducible first | apply qa | apply qb | apply qc | apply qd) | (conv => whnf)
         all_goals first | ((with_reducible show ACall _ _ _ _ _ _); refine inl tys_ok (l := sl4Z) sp4Z Tryz.func143 rfl (by kernel_rfl) (by kernel_rfl) rfl ?_) | skip
         all_goals repeat' (first | exact trivial | (with_reducible first | exact (fun h => absurd (hne1.symm.trans h) (by decide)) | exact (fun h => absurd (hne2.symm.trans h) (by decide)) | exact (fun h => absurd (hne3.symm.trans h) (by decide)) | exact (fun h => absurd (hne4.symm.trans h) (by decide)) | exact (fun h => absurd (h : decide ((-1 : Int) <= 0) = false) (by decide)) | exact (fun h => absurd (h : decide ((-1 : Int) ≥ 0) = true) (by decide)) | exact (fun h => absurd (h : decide ((1 : Int) <= 0) = true) (by decide)) | exact (fun h => absurd (h : decide ((1 : Int) ≥ 0) = false) (by decide))) | refine ⟨?_, ?_⟩ | intro _)
         all_goals first | (with_reducible first | apply qa | apply qb | apply qc | apply qd) | (conv => whnf)
         all_goals (try simp only [ht0, Nat.add_zero, hg])
         all_goals repeat' (first | exact trivial | (with_reducible first | exact (fun h => absurd (hne1.symm.trans h) (by decide)) | exact (fun h => absurd (hne2.symm.trans h) (by decide)) | exact (fun h => absurd (hne3.symm.trans h) (by decide)) | exact (fun h => absurd (hne4.symm.trans h) (by decide)) | exact (fun h => absurd (h : decide ((-1 : Int) <= 0) = false) (by decide)) | exact (fun h => absurd (h : decide ((-1 : Int) ≥ 0) = true) (by decide)) | exact (fun h => absurd (h : decide ((1 : Int) <= 0) = true) (by decide)) | exact (fun h => absurd (h : decide ((1 : Int) ≥ 0) = false) (by decide)) | exact hgp) | refine ⟨?_, ?_⟩ | intro _)
         all_goals first | (with_reducible first | apply qa | apply qb | apply qc | apply qd) | (conv => whnf)
         all_goals (try simp only [lessB_nil, lessB_nil2, e1])
         all_goals first | exact Nat.le_refl _ | omega | (simp only [List.length_append, List.length_cons, List.length_nil]; omega) | exact hstep | rfl | (simp; done) | (rw [show (Int.toNat 1 : Nat) = 1 from rfl]; congr 1; omega) | ((with_reducible show idsOk _ _ = true); rfl) | (exact rwB_snoc rfl ‹_›)
     . obtain rfl : i = L.length := by omega
       obtain rfl : j = M.length := by omega
       have hend1 : decide (((L.length - L.length : Nat) : Int) > 0) = false := decide_eq_false (by omega)
       have hend2 : decide (((M.length - M.length : Nat) : Int) > 0) = false := decide_eq_false (by omega)
       have hout : out = mrg Op L M := by
        rw [List.drop_length, List.drop_length, mrg, List.append_nil] at k4; exact k4
       subst hout
       repeat' (first | exact trivial | (with_reducible first | exact (fun h => absurd (hend1.symm.trans h) (by decide)) | exact (fun h => absurd (hend2.symm.trans h) (by decide))) | refine ⟨?_, ?_⟩ | intro _)
       all_goals first | (with_reducible first | apply qa | apply qb | apply qc | apply qd) | (conv => whnf)
       all_goals first | rfl | (simp; done) | (rename_i k _; show rwB (mrg Op L M) (0 + k) = rwB (mrg Op L M) k; rw [Nat.zero_add])
 . cases h
theorem get_ok {e : En} (h : okL e.binds) (s : ByteArray) : okV (En.get e s) := by
 unfold En.get
 split
 . rename_i hd; exact okL_at (clean_ok h) (found_lt hd)
 . exact ⟨⟨Nat.zero_le _, fun i h => absurd h (Nat.not_lt_zero i)⟩, by unfold Sp.inR; decide, by unfold Cg.inR; decide⟩
def FLeqC : List Ar -> Option Rs
 | [.agg [.d (.v (.string x0)), .d (.v (.bool s0)), .d (.v (.int .i64 l0)), .d (.v (.int .i64 h0)), .d (.v (.bool b0)), .d (.v (.int .i64 m0)), .d (.v (.int .i64 r0)), .d (.v (.bool z0)), .d (.lst 1 n0 f0)], .rp [.v (.bool e1), .lst 9 n1 f1]] => some ⟨((n0 * 16 <= 140737488351232 /\ ∀ i, i < n0 -> f0 i = [st (gT (f0 i))]) /\ Sp.inR ⟨s0, l0, h0⟩ /\ Cg.inR ⟨b0, m0, r0⟩) /\ (n1 <= 1099511627776 /\ RowsOk n1 f1), .va (.c (.d (bo (!Vl.leq (⟨⟨⟨s0, l0, h0⟩, ⟨b0, m0, r0⟩⟩, ⟨z0, gN n0 f0⟩⟩ : Vl) (En.get (⟨e1, gBs n1 f1⟩ : En) x0))))), []⟩
 | _ => none
theorem fcLeqC : FC Tryz.prog 93 FLeqC := by
 intro xs pre r us h hp
 unfold FLeqC at h
 split at h
 . rename_i x0 s0 l0 h0 b0 m0 r0 z0 n0 f0 e1 n1 f1
   cases h
   obtain ⟨hp0, hp1⟩ := hp
   refine fcat tys_ok (l := [(24, ⟨[], FEGet⟩), (91, ⟨[], FVLeq⟩)]) ⟨fcEGet, fcVLeq, trivial⟩ Tryz.func93 rfl (by kernel_rfl) false ?_
   have hL := okL_rows hp1.2
   have hg := get_ok (e := ⟨e1, gBs n1 f1⟩) hL x0
   have hq := hg.2
   simp only [Sp.inR, Cg.inR] at hq
   repeat' (first | exact trivial | (with_reducible first | exact hp0 | exact hp0.1 | exact hp0.2 | exact hp0.1.2 | exact hp0.2.1 | exact hp0.2.2 | exact hp1 | exact hp1.2) | refine ⟨?_, ?_⟩ | intro _)
   all_goals first | (with_reducible first | apply qa | apply qb | apply qc | apply qd) | (conv => whnf)
   all_goals (generalize En.get ⟨e1, gBs n1 f1⟩ x0 = G at *)
   all_goals (try simp only [gN_lst])
   all_goals first | rfl | exact hp0.1.1 | exact hp1.1 | exact hg.1.1 | omega
 . cases h
abbrev gLeq (ek : Bool) (nk : Nat) (fk : Nat -> List DV) : List Cv -> Option Gs := mkFv (sums [(93, ⟨[], FLeqC⟩)]) 93 [.rp [bo ek, .lst 9 nk fk]]
abbrev pL (E : En) (b : Bd) : Bool := !Vl.leq b.v (En.get E b.name)
def FIndexL (ek : Bool) (nk : Nat) (fk : Nat -> List DV) : List Ar -> Option Rs
 | [.c (.d (.lst 9 n0 f0)), .fv g1] => some ⟨(n0 <= 1099511627776 /\ RowsOk n0 f0) /\ (g1 = gLeq ek nk fk /\ nk <= 1099511627776 /\ RowsOk nk fk), .va (.c (.d (it (ixB (pL ⟨ek, gBs nk fk⟩) (gBs n0 f0))))), []⟩
 | _ => none
theorem fcIndexL (ek : Bool) (nk : Nat) (fk : Nat -> List DV) : FC Tryz.prog 118 (FIndexL ek nk fk) := by
 intro xs pre r us h hp
 unfold FIndexL at h
 split at h
 . rename_i n0 f0 g1
   cases h
   obtain ⟨hp0, hp1⟩ := hp
   refine FCat.deep (ys := [.c (.d (.lst 9 n0 (rwB (gBs n0 f0)))), .fv g1]) ?_ ?_
   . repeat' (first | exact trivial | exact rfl | exact DvE.refl _ | refine ⟨?_, ?_⟩ | fail)
     all_goals first | exact canonB hp0.2.h
   refine fcat tys_ok (l := []) trivial Tryz.func118 rfl (by kernel_rfl) false ?_
   obtain ⟨rfl, hk1, hk2⟩ := hp1
   have hn := hp0.1
   have hL := okL_rows hp0.2
   have hlen := gBs_length n0 f0
   generalize gBs n0 f0 = L at *
   clear hp0
   subst hlen
   have hrow := okL_row hL
   repeat' (first | exact trivial | refine ⟨?_, ?_⟩ | intro _)
   all_goals first | (with_reducible first | apply qa | apply qb | apply qc | apply qd) | (conv => whnf)
   refine loop_ok tys_ok (l := []) trivial (by kernel_rfl) (X := Nat)
    (fun i => ⟨[(8, vx (.int .i64 i)), (0, .va (.c (.d (.lst 9 L.length (rwB L))))), (1, .va (.c (.fv (gLeq ek nk fk)))), (7, vx (.int .i64 L.length))], [], 0, 19⟩)
    (fun i => L.length - i) (fun i => i <= L.length /\ ∀ k, k < i -> pL ⟨ek, gBs nk fk⟩ (atB L k) = false) [] []
    (fun i _ _ => i + 1) [] [] 0 0 0 ?_ ?_ ?_
   . exact ⟨Nat.zero_le _, fun k h => absurd h (Nat.not_lt_zero k)⟩
   . repeat' (first | exact trivial | exact rfl | (intro _ _; exact rfl) | refine ⟨?_, ?_⟩ | fail)
   . rintro i ⟨k1, k2⟩
     rcases Nat.lt_or_ge i L.length with hi | hi
     . have hne : decide ((i : Int) < (L.length : Int)) = true := decide_eq_true (by omega)
       have ho1 := okL_at hL hi
       have hq := ho1.2
       simp only [Sp.inR, Cg.inR] at hq
       repeat' (first | exact trivial | refine ⟨?_, ?_⟩ | intro _)
       all_goals first | (with_reducible first | apply qa | apply qb | apply qc | apply qd) | (conv => whnf)
       all_goals first | (exact absurd (hne.symm.trans ‹_ = false›) (by decide)) | skip
       all_goals (try simp only [Int.toNat_natCast, Nat.zero_add, gN_lst] at *)
       all_goals first | omega | rfl | exact hk1 | exact hk2 | exact ho1.1.1 | (exact congrArg (Value.int .i64) (by first | (rw [wI_id _ (by omega) (by omega)]; omega) | omega | (dsimp only; omega))) | skip
       all_goals first | (rw [ix_some hi k2 ‹_ = true›]; done) | (rw [ix_some hi k2 ‹_ = true›]; rfl) | (rename_i k hk hp; rcases Nat.lt_or_ge k i with hki | hki; exact k2 k hki; rw [show k = i by omega]; exact hp)
     . have hne : decide ((i : Int) < (L.length : Int)) = false := decide_eq_false (by omega)
       obtain rfl : i = L.length := by omega
       repeat' (first | exact trivial | refine ⟨?_, ?_⟩ | intro _)
       all_goals first | (with_reducible first | apply qa | apply qb | apply qc | apply qd) | (conv => whnf)
       all_goals first | (exact absurd (hne.symm.trans ‹_ = true›) (by decide)) | skip
       all_goals first | exact Nat.le_refl _ | (rw [ix_none k2]; done) | (rw [ix_none k2]; rfl)
 . cases h
def FContL (ek : Bool) (nk : Nat) (fk : Nat -> List DV) : List Ar -> Option Rs
 | [.c (.d (.lst 9 n0 f0)), .fv g1] => some ⟨(n0 <= 1099511627776 /\ RowsOk n0 f0) /\ (g1 = gLeq ek nk fk /\ nk <= 1099511627776 /\ RowsOk nk fk), .va (.c (.d (bo (decide (ixB (pL ⟨ek, gBs nk fk⟩) (gBs n0 f0) ≥ 0))))), []⟩
 | _ => none
theorem fcContL (ek : Bool) (nk : Nat) (fk : Nat -> List DV) : FC Tryz.prog 92 (FContL ek nk fk) := by
 intro xs pre r us h hp
 unfold FContL at h
 split at h
 . rename_i n0 f0 g1
   cases h
   obtain ⟨hp0, hp1⟩ := hp
   refine FCat.deep (ys := [.c (.d (.lst 9 n0 (rwB (gBs n0 f0)))), .fv g1]) ?_ ?_
   . repeat' (first | exact trivial | exact rfl | exact DvE.refl _ | refine ⟨?_, ?_⟩ | fail)
     all_goals first | exact canonB hp0.2.h
   refine fcat tys_ok (l := [(118, ⟨[], (FIndexL ek nk fk)⟩)]) ⟨(fcIndexL ek nk fk), trivial⟩ Tryz.func92 rfl (by kernel_rfl) false ?_
   obtain ⟨rfl, hk1, hk2⟩ := hp1
   have hn := hp0.1
   have hL := okL_rows hp0.2
   have hlen := gBs_length n0 f0
   generalize gBs n0 f0 = L at *
   clear hp0
   subst hlen
   have hrow := okL_row hL
   have hgb := gBs_row L
   repeat' (first | exact trivial | refine ⟨?_, ?_⟩ | intro _)
   all_goals first | (with_reducible first | apply qa | apply qb | apply qc | apply qd) | (conv => whnf)
   all_goals (try simp only [hgb])
   all_goals first | exact hn | exact hrow | exact hk1 | exact hk2 | rfl
 . cases h
namespace En
def leq (a b : En) : Bool := if a.clean.live = true then (if b.clean.live = true then a.clean.binds.all fun x => x.v.leq (En.get b.clean x.name) else false) else true
end En
theorem ix_all (p : Bd -> Bool) (L : List Bd) : (!decide (ixB p L ≥ 0)) = L.all fun b => !p b := by
 rcases ix_cases p L with ⟨h1, h2⟩ | ⟨i, h1, h2, h3, h4⟩
 . rw [h1]
   refine (List.all_eq_true.2 fun x hx => ?_).symm
   obtain ⟨k, hk, rfl⟩ := mem_atB hx
   rw [h2 k hk]; rfl
 . rw [h1, show decide ((i : Int) ≥ 0) = true from decide_eq_true (by omega)]
   refine (List.all_eq_false.2 ⟨atB L i, atB_mem h2, ?_⟩).symm
   rw [h4]; simp
def FELeq : List Ar -> Option Rs
 | [.agg [.d (.v (.bool e0)), .d (.lst 9 n0 f0)], .agg [.d (.v (.bool e1)), .d (.lst 9 n1 f1)]] => some ⟨(n0 <= 1099511627776 /\ RowsOk n0 f0) /\ (n1 <= 1099511627776 /\ RowsOk n1 f1), .va (.c (.d (bo (En.leq (⟨e0, gBs n0 f0⟩ : En) (⟨e1, gBs n1 f1⟩ : En))))), []⟩
 | _ => none
theorem fcELeq : FC Tryz.prog 41 FELeq := by
 intro xs pre r us h hp
 unfold FELeq at h
 split at h
 . rename_i e0 n0 f0 e1 n1 f1
   cases h
   obtain ⟨hp0, hp1⟩ := hp
   refine FCat.deep (ys := [.agg [.d (.v (.bool e0)), .d (.lst 9 n0 (rwB (gBs n0 f0)))], .agg [.d (.v (.bool e1)), .d (.lst 9 n1 (rwB (gBs n1 f1)))]]) ?_ ?_
   . repeat' (first | exact trivial | exact rfl | exact DvE.refl _ | refine ⟨?_, ?_⟩ | fail)
     all_goals first | first | exact canonB hp0.2.h | exact canonB hp1.2.h
   refine fcat tys_ok (l := [(22, ⟨[], FEClean⟩), (92, ⟨[], (FContL (En.clean ⟨e1, gBs n1 (rwB (gBs n1 f1))⟩).live (En.clean ⟨e1, gBs n1 (rwB (gBs n1 f1))⟩).binds.length (rwB (En.clean ⟨e1, gBs n1 (rwB (gBs n1 f1))⟩).binds))⟩), (93, ⟨[], FLeqC⟩)]) ⟨fcEClean, (fcContL (En.clean ⟨e1, gBs n1 (rwB (gBs n1 f1))⟩).live (En.clean ⟨e1, gBs n1 (rwB (gBs n1 f1))⟩).binds.length (rwB (En.clean ⟨e1, gBs n1 (rwB (gBs n1 f1))⟩).binds)), fcLeqC, trivial⟩ Tryz.func41 rfl (by kernel_rfl) true ?_
   have hn := hp0.1
   have hL := okL_rows hp0.2
   have hlen := gBs_length n0 f0
   generalize gBs n0 f0 = L at *
   clear hp0
   subst hlen
   have hrow := okL_row hL
   have hb := gBs_row L
   have hc := clean_ok (e := ⟨e0, L⟩) hL
   have hcr := okL_row hc
   have hcl := clean_len ⟨e0, L⟩
   have hcs := clean_std ⟨e0, L⟩
   have hcn : (En.clean ⟨e0, L⟩).binds.length <= 1099511627776 := Nat.le_trans hcl hn
   have hm := hp1.1
   have hM := okL_rows hp1.2
   have hlen1 := gBs_length n1 f1
   generalize gBs n1 f1 = M at *
   clear hp1
   subst hlen1
   have hrow1 := okL_row hM
   have hb1 := gBs_row M
   have hd := clean_ok (e := ⟨e1, M⟩) hM
   have hdr := okL_row hd
   have hdl := clean_len ⟨e1, M⟩
   have hds := clean_std ⟨e1, M⟩
   have hdn : (En.clean ⟨e1, M⟩).binds.length <= 1099511627776 := Nat.le_trans hdl hm
   repeat' (first | exact trivial | refine ⟨?_, ?_⟩ | intro _)
   all_goals first | (with_reducible first | apply qa | apply qb | apply qc | apply qd) | (conv => whnf)
   all_goals (try simp only [gBs_row, Bool.not_eq_true', Bool.not_eq_false'] at *)
   all_goals first | exact hrow | exact hrow1 | exact hn | exact hm | exact hcn | exact hdn | exact hcr | exact hdr | rfl | skip
   all_goals (have hset : En.leq ⟨e0, L⟩ ⟨e1, M⟩ = if (En.clean ⟨e0, L⟩).live = true then (if (En.clean ⟨e1, M⟩).live = true then (En.clean ⟨e0, L⟩).binds.all fun x => x.v.leq (En.get (En.clean ⟨e1, M⟩) x.name) else false) else true := rfl)
   all_goals (generalize En.leq ⟨e0, L⟩ ⟨e1, M⟩ = R at *; generalize En.clean ⟨e0, L⟩ = A at *; generalize En.clean ⟨e1, M⟩ = B at *)
   all_goals first | (have hl := ‹A.live = false›; rw [hset, hl]; rfl) | (have hl := ‹A.live = true›; first | (have hl2 := ‹B.live = false›; rw [hset, hl, hl2]; rfl) | (have hl2 := ‹B.live = true›; have e := ix_all (pL B) A.binds; simp only [pL, Bool.not_not] at e; rw [hset, if_pos hl, if_pos hl2, <- e]; rfl)) | skip
   have hl := ‹A.live = true›
   have hl2 := ‹B.live = true›
   rw [hset, if_pos hl, if_pos hl2]
   exact congrArg Value.bool ((ix_all (pL B) A.binds).trans (by simp only [pL, Bool.not_not]))
 . cases h
namespace Sp
def inRb (s : Sp) : Bool := decide (-9223372036854775808 <= s.lo) && decide (s.hi <= 9223372036854775807)
theorem leq_widen1 (s b : Sp) (l : List Int) (hb : inRb b = true) : leq s (widen s b l) = true := by
 have := under_le l b.lo; have := over_ge l b.hi; grind [widen, leq, none, has, clean, inRb]
theorem leq_widen2 (s b : Sp) (l : List Int) (hb : inRb b = true) : leq b (widen s b l) = true := by
 have := under_le l b.lo; have := over_ge l b.hi; grind [widen, leq, none, has, clean, inRb]
end Sp
theorem Sp.inRb_of {s : Sp} (h : s.inR) : s.inRb = true := by unfold Sp.inR at h; unfold Sp.inRb; simp; omega
def Cg.tidy (c : Cg) : Prop := c = Cg.none \/ (c.some = true /\ c.red)
theorem Cg.tidy_fix {c : Cg} (h : c.tidy) : c.clean = c := by
 rcases h with rfl | ⟨h1, h2⟩
 . rfl
 . exact cg_fix h1 h2
theorem gcdJ_dvd {x y : Cg} : Cg.gcdJ x y ∣ x.m /\ Cg.gcdJ x y ∣ y.m /\ Cg.gcdJ x y ∣ apartI x.r y.r := by
 unfold Cg.gcdJ
 refine ⟨Int.dvd_trans (Int.gcd_dvd_left _ _) (Int.gcd_dvd_left _ _), Int.dvd_trans (Int.gcd_dvd_left _ _) (Int.gcd_dvd_right _ _), Int.gcd_dvd_right _ _⟩
theorem apart_dvd {g a b : Int} (h : g ∣ apartI a b) : g ∣ a - b := by
 unfold apartI at h
 split at h
 . exact h
 . rw [<- Int.neg_sub, Int.dvd_neg]; exact h
theorem gcdJ_nn (x y : Cg) : 0 <= Cg.gcdJ x y := by unfold Cg.gcdJ; omega
theorem gcdJ_zero {x y : Cg} (h : Cg.gcdJ x y = 0) : x.m = 0 /\ y.m = 0 /\ x.r = y.r := by
 have := gcdJ_dvd (x := x) (y := y)
 rw [h] at this
 obtain ⟨h1, h2, h3⟩ := this
 rw [Int.zero_dvd] at h1 h2
 have h4 := apart_dvd h3
 rw [Int.zero_dvd] at h4
 exact ⟨h1, h2, by omega⟩
theorem md_dvd {a b g : Int} (hg : 0 < g) (h : g ∣ a - b) : md a g = md b g := by
 unfold md
 rw [if_neg (by omega), if_neg (by omega)]
 exact Int.emod_eq_emod_iff_emod_sub_eq_zero.2 (Int.emod_eq_zero_of_dvd h)
theorem join_some {a b : Cg} (ha : a.some = true) (hb : b.some = true) (ra : a.red) (rb : b.red) : Cg.join a b = if Cg.gcdJ a b > 9223372036854775807 then ⟨true, 1, 0⟩ else ⟨true, Cg.gcdJ a b, md a.r (Cg.gcdJ a b)⟩ := by
 unfold Cg.join
 rw [cg_fix ha ra, cg_fix hb rb, ha, hb]
 have := gcdJ_nn a b
 simp only [Bool.not_true, Bool.false_eq_true, if_false]
 split
 . rfl
 . unfold Cg.of; rw [if_neg (by omega)]
theorem join_no1 {a b : Cg} (ha : a = Cg.none) (hb : b.tidy) : Cg.join a b = b := by
 subst ha
 have : (!Cg.none.clean.some) = true := rfl
 unfold Cg.join; rw [if_pos this, Cg.tidy_fix hb]
theorem join_no2 {a b : Cg} (ha : a.tidy) (hs : a.some = true) (hb : b = Cg.none) : Cg.join a b = a := by
 subst hb
 unfold Cg.join; rw [Cg.tidy_fix ha, hs]; rfl
theorem join_tidy {a b : Cg} (ha : a.tidy) (hb : b.tidy) : (Cg.join a b).tidy := by
 rcases ha with ha | ⟨h1, h2⟩
 . rw [join_no1 ha hb]; exact hb
 . rcases hb with hb | ⟨h3, h4⟩
   . rw [join_no2 (.inr ⟨h1, h2⟩) h1 hb]; exact .inr ⟨h1, h2⟩
   . rw [join_some h1 h3 h2 h4]
     have := gcdJ_nn a b
     split
     . right; refine ⟨rfl, ?_⟩; unfold Cg.red; dsimp only; omega
     . right; refine ⟨rfl, ?_⟩; unfold Cg.red; dsimp only
       exact ⟨this, fun h => md_bound _ _ h⟩
theorem has_t {c : Cg} (h : c.tidy) (hs : c.some = true) (n : Int) : c.has n = decide (md n c.m = c.r) := by
 unfold Cg.has; rw [Cg.tidy_fix h, hs]; rfl
theorem cleq_t {a b : Cg} (ha : a.tidy) (hb : b.tidy) (hs : a.some = true) (ht : b.some = true) : Cg.leq a b = (Cg.factor b.m a.m && decide (md a.r b.m = b.r)) := by
 unfold Cg.leq; rw [Cg.tidy_fix ha, Cg.tidy_fix hb, hs, ht, has_t hb ht]; rfl
theorem leq_no {a b : Cg} (ha : a = Cg.none) : Cg.leq a b = true := by subst ha; unfold Cg.leq; rfl
theorem leq_self {a : Cg} (ha : a.tidy) : Cg.leq a a = true := by
 rcases ha with h | ⟨h1, h2⟩
 . exact leq_no h
 . rw [cleq_t (.inr ⟨h1, h2⟩) (.inr ⟨h1, h2⟩) h1 h1]
   unfold Cg.red at h2
   have e : md a.r a.m = a.r := by
    unfold md; split
    . rfl
    . exact Int.emod_eq_of_lt (h2.2 (by omega)).1 (h2.2 (by omega)).2
   rw [e]; unfold Cg.factor; split <;> simp_all
theorem fac_g {g m : Int} (h : g ∣ m) (h0 : g = 0 -> m = 0) : Cg.factor g m = true := by
 unfold Cg.factor; split
 . rename_i e; simp [h0 e]
 . simp [Int.emod_eq_zero_of_dvd h]
theorem cg_join_leq {a b : Cg} (ha : a.tidy) (hb : b.tidy) : Cg.leq a (Cg.join a b) = true /\ Cg.leq b (Cg.join a b) = true := by
 have hj := join_tidy ha hb
 rcases ha with h | ⟨h1, h2⟩
 . rw [join_no1 h hb]; exact ⟨leq_no h, leq_self hb⟩
 . rcases hb with h | ⟨h3, h4⟩
   . rw [join_no2 (.inr ⟨h1, h2⟩) h1 h]; exact ⟨leq_self (.inr ⟨h1, h2⟩), leq_no h⟩
   . have e := join_some h1 h3 h2 h4
     have hd := gcdJ_dvd (x := a) (y := b)
     have h0 := gcdJ_zero (x := a) (y := b)
     have hn := gcdJ_nn a b
     have ha' : a.tidy := .inr ⟨h1, h2⟩
     have hb' : b.tidy := .inr ⟨h3, h4⟩
     have hs : (Cg.join a b).some = true := by rw [e]; split <;> rfl
     rw [cleq_t ha' hj h1 hs, cleq_t hb' hj h3 hs, e]
     split
     . have m1 : ∀ x : Int, md x 1 = 0 := fun x => by unfold md; rw [if_neg (by omega)]; exact Int.emod_one x
       dsimp only
       rw [m1, m1, fac_g (Int.one_dvd _) (by omega), fac_g (Int.one_dvd _) (by omega)]; simp
     . dsimp only
       rw [fac_g hd.1 (fun h => (h0 h).1), fac_g hd.2.1 (fun h => (h0 h).2.1)]
       have : md b.r (Cg.gcdJ a b) = md a.r (Cg.gcdJ a b) := by
        rcases Int.lt_or_eq_of_le hn with h | h
        . exact (md_dvd h (apart_dvd hd.2.2)).symm
        . rw [(h0 h.symm).2.2]
       rw [this]; simp
theorem tidy_c {i : Ig} (h : i.tidy) : i.c.tidy := by
 rcases h with rfl | ⟨⟨_, h2⟩, _, h4⟩
 . exact .inl rfl
 . exact .inr ⟨h2, h4⟩
def joinI (a b : Ig) (l : List Int) : Ig := ⟨a.s.widen b.s l, a.c.join b.c⟩
theorem join_tidyI {a b : Ig} {l : List Int} (ha : a.tidy) (hb : b.tidy) (ib : b.s.inR) : (joinI a b l).tidy := by
 rcases ha with rfl | ⟨⟨h1, h2⟩, h3, h4⟩
 . have e1 : Sp.widen Ig.zero.s b.s l = b.s.clean := rfl
   have e2 : Cg.join Ig.zero.c b.c = b.c := join_no1 rfl (tidy_c hb)
   have e3 : b.s.clean = b.s := by
    have := tidy_fix hb
    rcases hb with rfl | ⟨⟨q1, q2⟩, q3, q4⟩
    . rfl
    . unfold Sp.clean Sp.none; rw [q1]; simp; omega
   unfold joinI; rw [e1, e2, e3]; exact hb
 . right
   have hj := join_tidy (.inr ⟨h2, h4⟩ : a.c.tidy) (tidy_c hb)
   have hs : (Cg.join a.c b.c).some = true := by
    rcases tidy_c hb with h | ⟨q1, q2⟩
    . rw [join_no2 (.inr ⟨h2, h4⟩) h2 h]; exact h2
    . rw [join_some h2 q1 h4 q2]; split <;> rfl
   have hu := under_le l b.s.lo (by unfold Sp.inR at ib; omega)
   have ho := over_ge l b.s.hi (by unfold Sp.inR at ib; omega)
   have hw : (a.s.widen b.s l).some = true /\ (a.s.widen b.s l).lo <= (a.s.widen b.s l).hi := by
    have hn : a.s.none = false := by unfold Sp.none; rw [h1]; simp; omega
    unfold Sp.widen; rw [hn]
    simp only [Bool.false_eq_true, if_false]
    split
    . exact ⟨h1, h3⟩
    . exact ⟨h1, by dsimp only; split <;> split <;> omega⟩
   refine ⟨⟨hw.1, hs⟩, hw.2, ?_⟩
   rcases hj with h | ⟨_, h⟩
   . unfold joinI; dsimp only; rw [h] at hs; cases hs
   . exact h
theorem of_told {v : Vl} (h : v.i.tidy) (hs : Srt v.t.names) : v.of = v := by
 unfold Vl.of; rw [tidy_fix h, ofS_eq, cleanS_fix hs]
namespace Sp
theorem l3_join1 (a b : Sp) : leq a (join a b) = true := by grind [leq, join, none, has, clean, of]
theorem l3_least (a b c : Sp) : leq a c = true -> leq b c = true -> leq (join a b) c = true := by grind [leq, join, none, has, clean, of]
theorem l3_trans (a b c : Sp) : leq a b = true -> leq b c = true -> leq a c = true := by grind [leq, none, has]
theorem l3_refl (a : Sp) : leq a a = true := by grind [leq, none, has]
theorem l3_zero (a : Sp) : leq ⟨false, 0, 0⟩ a = true := by grind [leq, none, has]
theorem l3_nleq (s b : Sp) : leq (narrow s b) s = true := by grind [clean, none, eq, narrow, leq, has]
theorem l3_leqn (s b : Sp) (h : leq b s = true) : leq b (narrow s b) = true := by grind [clean, none, eq, narrow, leq, has]
theorem l3_clean (a b : Sp) : leq a.clean b = leq a b := by grind [leq, none, has, clean]
theorem l3_clean2 (a b : Sp) : leq a b.clean = leq a b := by grind [leq, none, has, clean]
end Sp
theorem l3_fac {g m : Int} : Cg.factor g m = true ↔ g ∣ m := by
 unfold Cg.factor
 split
 . rename_i h; subst h; rw [decide_eq_true_eq, Int.zero_dvd]
 . rw [decide_eq_true_eq]; exact (Int.dvd_iff_emod_eq_zero).symm
theorem l3_md {n m r : Int} (h0 : 0 <= m) (h : 0 < m -> 0 <= r /\ r < m) : md n m = r ↔ m ∣ n - r := by
 rcases Int.lt_or_eq_of_le h0 with hm | hm
 . obtain ⟨h1, h2⟩ := h hm
   rw [md_eq0 hm h1 h2]; exact (Int.dvd_iff_emod_eq_zero).symm
 . subst hm; unfold md; rw [if_pos (Int.le_refl _), Int.zero_dvd]; omega
namespace Cg
theorem leq_iff {a b : Cg} (ha : a.tidy) (hb : b.tidy) : Cg.leq a b = true ↔ (a.some = true -> b.some = true /\ b.m ∣ a.m /\ b.m ∣ a.r - b.r) := by
 rcases ha with h | ⟨h1, h2⟩
 . rw [leq_no h]; subst h; simp [Cg.none]
 . rcases hb with h | ⟨h3, h4⟩
   . subst h
     have : Cg.leq a Cg.none = false := by
      unfold Cg.leq; rw [Cg.tidy_fix (.inr ⟨h1, h2⟩), h1]; rfl
     rw [this, h1]; simp [Cg.none]
   . rw [cleq_t (.inr ⟨h1, h2⟩) (.inr ⟨h3, h4⟩) h1 h3, Bool.and_eq_true, decide_eq_true_eq, l3_fac]
     unfold Cg.red at h4
     rw [l3_md (by omega) h4.2]
     simp [h1, h3]
theorem l3_trans {a b c : Cg} (ha : a.tidy) (hb : b.tidy) (hc : c.tidy) (h1 : Cg.leq a b = true) (h2 : Cg.leq b c = true) : Cg.leq a c = true := by
 rw [leq_iff ha hb] at h1
 rw [leq_iff hb hc] at h2
 rw [leq_iff ha hc]
 intro hs
 obtain ⟨hb', d1, d2⟩ := h1 hs
 obtain ⟨hc', d3, d4⟩ := h2 hb'
 refine ⟨hc', Int.dvd_trans d3 d1, ?_⟩
 have := Int.dvd_add (Int.dvd_trans d3 d2) d4
 rw [show a.r - b.r + (b.r - c.r) = a.r - c.r by omega] at this
 exact this
theorem gcdJ_comm (a b : Cg) : Cg.gcdJ a b = Cg.gcdJ b a := by
 unfold Cg.gcdJ
 rw [Int.gcd_comm a.m b.m]
 congr 2
 unfold apartI
 split <;> split <;> omega
theorem l3_comm {a b : Cg} (ha : a.tidy) (hb : b.tidy) : Cg.join a b = Cg.join b a := by
 rcases ha with h | ⟨h1, h2⟩
 . rw [join_no1 h hb]
   rcases hb with h' | ⟨h3, h4⟩
   . rw [h, h', join_no1 rfl (.inl rfl)]
   . rw [join_no2 (.inr ⟨h3, h4⟩) h3 h]
 . rcases hb with h' | ⟨h3, h4⟩
   . rw [join_no2 (.inr ⟨h1, h2⟩) h1 h', join_no1 h' (.inr ⟨h1, h2⟩)]
   . rw [join_some h1 h3 h2 h4, join_some h3 h1 h4 h2, gcdJ_comm b a]
     have hd := gcdJ_dvd (x := a) (y := b)
     have h0 := gcdJ_zero (x := a) (y := b)
     have hn := gcdJ_nn a b
     have : md b.r (Cg.gcdJ a b) = md a.r (Cg.gcdJ a b) := by
      rcases Int.lt_or_eq_of_le hn with h | h
      . exact (md_dvd h (apart_dvd hd.2.2)).symm
      . rw [(h0 h.symm).2.2]
     rw [this]
end Cg
structure Vl.tidy (v : Vl) : Prop where
 i : v.i.tidy
 t : Srt v.t.names
theorem Vl.of_tidy (v : Vl) : v.of.tidy := ⟨by rw [of_rclean]; exact clean_tidy v.i, by rw [of_rclean]; exact cleanS_srt _⟩
theorem Vl.of_fix {v : Vl} (h : v.tidy) : v.of = v := of_told h.i h.t
theorem Vl.of_of (v : Vl) : v.of.of = v.of := Vl.of_fix (Vl.of_tidy v)
theorem Vl.zero_tidy : Vl.zero.tidy := ⟨.inl rfl, by unfold Vl.zero; exact srt_nil⟩
theorem Vl.leq_iff {a b : Vl} (ha : a.tidy) (hb : b.tidy) : Vl.leq a b = true ↔ a.i.s.leq b.i.s = true /\ a.i.c.leq b.i.c = true /\ (a.t.null = true -> b.t.null = true) /\ ∀ z, z ∈ a.t.names -> z ∈ b.t.names := by
 unfold Vl.leq Ig.leq
 rw [Vl.of_fix ha, Vl.of_fix hb, ofS_eq, ofS_eq, cleanS_fix ha.t, cleanS_fix hb.t]
 simp only [Bool.and_eq_true, subS_iff, Bool.or_eq_true, Bool.not_eq_true', and_assoc]
 cases a.t.null <;> simp
theorem Vl.leq_of (a b : Vl) : Vl.leq a.of b.of = Vl.leq a b := by
 unfold Vl.leq
 have e : ∀ v : Vl, v.of.t.null = v.t.null := fun v => by rw [of_rclean]; rfl
 have e2 : ∀ v : Vl, ofS v.of.t.names = ofS v.t.names := fun v => by rw [of_rclean, ofS_eq, ofS_eq]; exact cleanS_idem _
 rw [Vl.of_of, Vl.of_of, e, e, e2, e2]
theorem Vl.l3_refl (a : Vl) : Vl.leq a a = true := by
 rw [<- Vl.leq_of, Vl.leq_iff (Vl.of_tidy a) (Vl.of_tidy a)]
 exact ⟨Sp.l3_refl _, leq_self (tidy_c (Vl.of_tidy a).i), id, fun _ => id⟩
theorem Vl.l3_zero (a : Vl) : Vl.leq Vl.zero a = true := by
 rw [<- Vl.leq_of, Vl.of_fix Vl.zero_tidy, Vl.leq_iff Vl.zero_tidy (Vl.of_tidy a)]
 exact ⟨Sp.l3_zero _, leq_no rfl, fun h => (Bool.false_ne_true h).elim, fun z hz => by cases hz⟩
theorem Vl.l3_trans {a b c : Vl} (h1 : Vl.leq a b = true) (h2 : Vl.leq b c = true) : Vl.leq a c = true := by
 rw [<- Vl.leq_of] at h1 h2 ⊢
 rw [Vl.leq_iff (Vl.of_tidy a) (Vl.of_tidy b)] at h1
 rw [Vl.leq_iff (Vl.of_tidy b) (Vl.of_tidy c)] at h2
 rw [Vl.leq_iff (Vl.of_tidy a) (Vl.of_tidy c)]
 exact ⟨Sp.l3_trans _ _ _ h1.1 h2.1, Cg.l3_trans (tidy_c (Vl.of_tidy a).i) (tidy_c (Vl.of_tidy b).i) (tidy_c (Vl.of_tidy c).i) h1.2.1 h2.2.1, fun h => h2.2.2.1 (h1.2.2.1 h), fun z h => h2.2.2.2 z (h1.2.2.2 z h)⟩
theorem ig_join_tidy {a b : Ig} (ha : a.tidy) (hb : b.tidy) : Ig.tidy ⟨a.s.join b.s, a.c.join b.c⟩ := by
 have hj := join_tidy (tidy_c ha) (tidy_c hb)
 rcases ha with rfl | ⟨⟨a1, a2⟩, a3, a4⟩
 . rcases hb with rfl | ⟨⟨b1, b2⟩, b3, b4⟩
   . exact .inl rfl
   . have e : Cg.join Ig.zero.c b.c = b.c := join_no1 rfl (.inr ⟨b2, b4⟩)
     rw [e]
     obtain ⟨⟨s, l, h⟩, c⟩ := b
     dsimp only at *
     subst b1
     right
     refine ⟨⟨?_, b2⟩, ?_, b4⟩
     . show (Sp.join ⟨false, 0, 0⟩ ⟨true, l, h⟩).some = true; grind [Sp.join, Sp.none, Sp.clean]
     . show (Sp.join ⟨false, 0, 0⟩ ⟨true, l, h⟩).lo <= (Sp.join ⟨false, 0, 0⟩ ⟨true, l, h⟩).hi; grind [Sp.join, Sp.none, Sp.clean]
 . right
   have hs : (a.s.join b.s).some = true /\ (a.s.join b.s).lo <= (a.s.join b.s).hi := by grind [Sp.join, Sp.none, Sp.clean, Sp.of]
   have hc : (a.c.join b.c).some = true := by
    rcases hb with rfl | ⟨⟨b1, b2⟩, b3, b4⟩
    . have e : Cg.join a.c Ig.zero.c = a.c := join_no2 (.inr ⟨a2, a4⟩) a2 rfl
      rw [e]; exact a2
    . rw [join_some a2 b2 a4 b4]; split <;> rfl
   refine ⟨⟨hs.1, hc⟩, hs.2, ?_⟩
   rcases hj with h | ⟨_, h⟩
   . rw [h] at hc; cases hc
   . exact h
theorem mem_ofS {l : List ByteArray} {z : ByteArray} : z ∈ ofS l ↔ z ∈ l := by rw [ofS_eq, cleanS_mem]
theorem srt_ofS (l : List ByteArray) : Srt (ofS l) := by rw [ofS_eq]; exact cleanS_srt l
theorem of_null (v : Vl) : v.of.t.null = v.t.null := by rw [of_rclean]; rfl
theorem of_names (v : Vl) : v.of.t.names = ofS v.t.names := by rw [of_rclean, ofS_eq]; rfl
theorem Vl.jn_tidy (a b : Vl) : (Vl.join a b).tidy := ⟨ig_join_tidy (Vl.of_tidy a).i (Vl.of_tidy b).i, srt_ofS _⟩
theorem Vl.l3_join1 (a b : Vl) : Vl.leq a (Vl.join a b) = true := by
 rw [<- Vl.leq_of, Vl.of_fix (Vl.jn_tidy a b), Vl.leq_iff (Vl.of_tidy a) (Vl.jn_tidy a b)]
 refine ⟨Sp.l3_join1 _ _, (cg_join_leq (tidy_c (Vl.of_tidy a).i) (tidy_c (Vl.of_tidy b).i)).1, ?_, ?_⟩
 . rw [of_null]; intro h; show (a.t.null || b.t.null) = true; rw [h]; rfl
 . intro z hz
   rw [of_names] at hz
   exact mem_ofS.2 (List.mem_append_left _ hz)
theorem Vl.l3_comm (a b : Vl) : Vl.join a b = Vl.join b a := by
 unfold Vl.join
 have h1 : a.of.i.s.join b.of.i.s = b.of.i.s.join a.of.i.s := by
  have ha := (Vl.of_tidy a).i
  have hb := (Vl.of_tidy b).i
  rcases ha with e | ⟨⟨a1, _⟩, a3, _⟩
  . rw [e]; rcases hb with e | ⟨⟨b1, _⟩, b3, _⟩
    . rw [e]
    . generalize b.of.i.s = y at *; unfold Ig.zero; grind [Sp.join, Sp.none, Sp.clean, Sp.of]
  . rcases hb with e | ⟨⟨b1, _⟩, b3, _⟩
    . rw [e]; generalize a.of.i.s = y at *; unfold Ig.zero; grind [Sp.join, Sp.none, Sp.clean, Sp.of]
    . generalize a.of.i.s = x at *; generalize b.of.i.s = y at *; grind [Sp.join, Sp.none, Sp.clean, Sp.of]
 have h2 : ofS (ofS a.t.names ++ ofS b.t.names) = ofS (ofS b.t.names ++ ofS a.t.names) := srt_ext (srt_ofS _) (srt_ofS _) fun z => by
  rw [mem_ofS, mem_ofS, List.mem_append, List.mem_append]; exact Or.comm
 rw [h1, Cg.l3_comm (tidy_c (Vl.of_tidy a).i) (tidy_c (Vl.of_tidy b).i), h2, Bool.or_comm]
theorem Vl.l3_join2 (a b : Vl) : Vl.leq b (Vl.join a b) = true := by rw [Vl.l3_comm]; exact Vl.l3_join1 b a
def Vl.inR (v : Vl) : Prop := v.i.s.inR /\ v.i.c.inR
theorem Vl.of_inR {v : Vl} (h : v.inR) : v.of.inR := Ig.clean_inR h.1 h.2
theorem Vl.widen_tidy {a b : Vl} {l : List Int} (hb : b.inR) : (Vl.widen a b l).tidy :=
 ⟨join_tidyI (l := l) (Vl.of_tidy a).i (Vl.of_tidy b).i (Vl.of_inR hb).1, srt_ofS _⟩
theorem Vl.l3_widen {a b : Vl} {l : List Int} (hb : b.inR) : Vl.leq (Vl.join a b) (Vl.widen a b l) = true := by
 rw [Vl.leq_iff (Vl.jn_tidy a b) (Vl.widen_tidy hb)]
 refine ⟨Sp.l3_least _ _ _ (Sp.leq_widen1 _ _ _ (Sp.inRb_of (Vl.of_inR hb).1)) (Sp.leq_widen2 _ _ _ (Sp.inRb_of (Vl.of_inR hb).1)), leq_self (join_tidy (tidy_c (Vl.of_tidy a).i) (tidy_c (Vl.of_tidy b).i)), id, fun _ => id⟩
theorem Vl.none_leq {b : Vl} (h : Vl.none b = true) (c : Vl) : Vl.leq b c = true := by
 rw [<- Vl.leq_of, Vl.leq_iff (Vl.of_tidy b) (Vl.of_tidy c)]
 unfold Vl.none at h
 simp only [Bool.and_eq_true, Bool.not_eq_true', decide_eq_true_eq] at h
 obtain ⟨h1, h2, h3⟩ := h
 rcases (Vl.of_tidy b).i with e | ⟨⟨e1, e2⟩, e3, _⟩
 . rw [e, of_null, of_names, h2, h3]
   exact ⟨Sp.l3_zero _, leq_no rfl, fun h => (Bool.false_ne_true h).elim, fun z hz => by cases hz⟩
 . exfalso
   unfold Ig.none Sp.none at h1
   rw [e1, e2] at h1; simp at h1; omega
def narI (x y : Ig) : Ig := Ig.clean ⟨x.s.narrow y.s, if Cg.eq x.c (Cg.of 1 0) then y.c else x.c⟩
theorem narI_facts {x y : Ig} (hx : x.tidy) (hy : y.tidy) (hs : Sp.leq y.s x.s = true) (hc : Cg.leq y.c x.c = true) :
 Sp.leq (narI x y).s x.s = true /\ Cg.leq (narI x y).c x.c = true /\ (Sp.leq y.s (narI x y).s = true /\ Cg.leq y.c (narI x y).c = true) := by
 have hall : ∀ c : Cg, c.tidy -> Cg.eq c (Cg.of 1 0) = true -> c = ⟨true, 1, 0⟩ := by
  intro c hc h
  have e : Cg.of 1 0 = ⟨true, 1, 0⟩ := rfl
  rw [e] at h; unfold Cg.eq at h
  simp only [Bool.and_eq_true, beq_iff_eq] at h
  cases c; simp_all
 have ht : (if Cg.eq x.c (Cg.of 1 0) then y.c else x.c).tidy := by split; exact tidy_c hy; exact tidy_c hx
 have l1 : Cg.leq (if Cg.eq x.c (Cg.of 1 0) then y.c else x.c) x.c = true := by split; exact hc; exact leq_self (tidy_c hx)
 have l2 : Cg.leq y.c (if Cg.eq x.c (Cg.of 1 0) then y.c else x.c) = true := by split; exact leq_self (tidy_c hy); exact hc
 unfold narI Ig.clean
 generalize hcc : (if Cg.eq x.c (Cg.of 1 0) then y.c else x.c) = c at *
 split
 . rename_i hn
   refine ⟨Sp.l3_zero _, leq_no rfl, ?_⟩
   unfold Ig.none at hn
   dsimp only at hn
   rcases hy with e | ⟨⟨e1, e2⟩, e3, e4⟩
   . rw [e]; exact ⟨Sp.l3_zero _, leq_no rfl⟩
   . exfalso
     rw [Bool.or_eq_true] at hn
     rcases hn with hn | hn
     . have := Sp.l3_leqn x.s y.s hs
       unfold Sp.leq at this
       have hyn : y.s.none = false := by unfold Sp.none; rw [e1]; simp; omega
       rw [hyn, Bool.false_or, Bool.and_eq_true] at this
       unfold Sp.has at this
       unfold Sp.none at hn
       simp only [Bool.and_eq_true, Bool.or_eq_true, Bool.not_eq_true', decide_eq_true_eq] at this hn
       rcases hn with hn | hn
       . rw [hn] at this; simp at this
       . omega
     . have h1 := (Cg.leq_iff (tidy_c (.inr ⟨⟨e1, e2⟩, e3, e4⟩)) ht).1 l2 e2
       rw [h1.1] at hn; cases hn
 . dsimp only
   refine ⟨by rw [Sp.l3_clean]; exact Sp.l3_nleq _ _, ?_, by rw [Sp.l3_clean2]; exact Sp.l3_leqn _ _ hs, ?_⟩
   . rw [Cg.tidy_fix ht]; exact l1
   . rw [Cg.tidy_fix ht]; exact l2
theorem Vl.narrow_cases (a b : Vl) : Vl.narrow a b = (if !Vl.leq b a then a.of else if Vl.none b then Vl.zero else ⟨narI a.of.i b.of.i, a.of.t⟩) := rfl
theorem Vl.narrow_tidy (a b : Vl) : (Vl.narrow a b).tidy := by
 rw [Vl.narrow_cases]
 split
 . exact Vl.of_tidy a
 . split
   . exact Vl.zero_tidy
   . exact ⟨clean_tidy _, (Vl.of_tidy a).t⟩
theorem Vl.l3_narrow2 (a b : Vl) : Vl.leq (Vl.narrow a b) a = true := by
 rw [<- Vl.leq_of, Vl.of_fix (Vl.narrow_tidy a b), Vl.leq_iff (Vl.narrow_tidy a b) (Vl.of_tidy a), Vl.narrow_cases]
 split
 . exact ⟨Sp.l3_refl _, leq_self (tidy_c (Vl.of_tidy a).i), id, fun _ => id⟩
 . rename_i h
   have h : Vl.leq b a = true := by simpa using h
   split
   . exact ⟨Sp.l3_zero _, leq_no rfl, fun h => (Bool.false_ne_true h).elim, fun z hz => by cases hz⟩
   . rw [<- Vl.leq_of, Vl.leq_iff (Vl.of_tidy b) (Vl.of_tidy a)] at h
     have := narI_facts (Vl.of_tidy a).i (Vl.of_tidy b).i h.1 h.2.1
     exact ⟨this.1, this.2.1, id, fun _ => id⟩
theorem Vl.l3_narrow1 {a b : Vl} (h : Vl.leq b a = true) : Vl.leq b (Vl.narrow a b) = true := by
 rw [Vl.narrow_cases, h]
 simp only [Bool.not_true, Bool.false_eq_true, if_false]
 split
 . rename_i hn; exact Vl.none_leq hn _
 . rename_i hn
   have ht : Vl.tidy ⟨narI a.of.i b.of.i, a.of.t⟩ := ⟨clean_tidy _, (Vl.of_tidy a).t⟩
   rw [<- Vl.leq_of, Vl.of_fix ht, Vl.leq_iff (Vl.of_tidy b) ht]
   rw [<- Vl.leq_of, Vl.leq_iff (Vl.of_tidy b) (Vl.of_tidy a)] at h
   have := narI_facts (Vl.of_tidy a).i (Vl.of_tidy b).i h.1 h.2.1
   exact ⟨this.2.2.1, this.2.2.2, h.2.2⟩
theorem Vl.join_eq (a b : Vl) : Vl.join a b = Vl.rjoin a b := by
 unfold Vl.join Vl.rjoin
 rw [of_rclean, of_rclean]
 simp only [ofS_eq]
namespace En
def join (a b : En) : En := if a.clean.live = true then (if b.clean.live = true then ⟨true, mrg Vl.join a.clean.binds b.clean.binds⟩ else a.clean) else b.clean
def widen (a b : En) (l : List Int) : En := if a.clean.live = true then (if b.clean.live = true then ⟨true, mrg (fun x y => Vl.widen x y l) a.clean.binds b.clean.binds⟩ else a.clean) else b.clean
def narrow (a b : En) : En := if a.clean.live = true then (if b.clean.live = true then (if En.leq b.clean a.clean = true then ⟨true, mrg Vl.narrow a.clean.binds b.clean.binds⟩ else a.clean) else ⟨false, []⟩) else b.clean
end En
abbrev QJ (x y : Vl) : Prop := (x.t.names.length + y.t.names.length) * 16 <= 140737488351232
abbrev QT (_ _ : Vl) : Prop := True
theorem vl_lst (v : Vl) : (⟨⟨⟨v.i.s.some, v.i.s.lo, v.i.s.hi⟩, ⟨v.i.c.some, v.i.c.m, v.i.c.r⟩⟩, ⟨v.t.null, gN v.t.names.length fun i => [st (atS v.t.names i)]⟩⟩ : Vl) = v := by rw [gN_lst]
theorem vl_nil : (⟨⟨⟨false, 0, 0⟩, ⟨false, 0, 0⟩⟩, ⟨false, gN 0 fun _ => []⟩⟩ : Vl) = Vl.zero := rfl
theorem okV_zero : okV Vl.zero := ⟨⟨Nat.zero_le _, fun i h => absurd h (Nat.not_lt_zero i)⟩, by unfold Vl.zero Ig.zero Sp.inR; decide, by unfold Vl.zero Ig.zero Cg.inR; decide⟩
abbrev gJoin : List Cv -> Option Gs := mkFv (sums [(95, ⟨[], FN 1 FVJoin⟩)]) 95 []
abbrev gNarrow : List Cv -> Option Gs := mkFv (sums [(102, ⟨[], FN 1 FVNarrow⟩)]) 102 []
theorem gz_of {gz : List Cv -> Option Gs} {a b : List DV} {p : Prop} {z z' : Vl} (h : gz [.agg a, .agg b] = some ⟨p, .va (.agg (vlC z'))⟩) (hz : z' = z) (hp : p) : gIs gz a b z := by subst hz; exact ⟨p, h, hp⟩
theorem gJoin_ok : GOk gJoin Vl.join QJ where
 both x y hx hy hq := gz_of rfl (by rw [vl_lst, vl_lst]) (by unfold okV at hx hy; exact ⟨⟨⟨hx.1.1, fun _ _ => rfl⟩, hx.2⟩, ⟨⟨hy.1.1, fun _ _ => rfl⟩, hy.2⟩, hq⟩)
 left x hx hq := gz_of rfl (by rw [vl_lst, vl_nil]) (by unfold okV at hx; exact ⟨⟨⟨hx.1.1, fun _ _ => rfl⟩, hx.2⟩, ⟨⟨Nat.zero_le _, fun i h => absurd h (Nat.not_lt_zero i)⟩, okV_zero.2⟩, hq⟩)
 right y hy hq := gz_of rfl (by rw [vl_lst, vl_nil]) (by unfold okV at hy; exact ⟨⟨⟨Nat.zero_le _, fun i h => absurd h (Nat.not_lt_zero i)⟩, okV_zero.2⟩, ⟨⟨hy.1.1, fun _ _ => rfl⟩, hy.2⟩, hq⟩)
theorem gNarrow_ok : GOk gNarrow Vl.narrow QT where
 both x y hx hy hq := gz_of rfl (by rw [vl_lst, vl_lst]) (by unfold okV at hx hy; exact ⟨⟨⟨hx.1.1, fun _ _ => rfl⟩, hx.2⟩, ⟨⟨hy.1.1, fun _ _ => rfl⟩, hy.2⟩⟩)
 left x hx hq := gz_of rfl (by rw [vl_lst, vl_nil]) (by unfold okV at hx; exact ⟨⟨⟨hx.1.1, fun _ _ => rfl⟩, hx.2⟩, ⟨⟨Nat.zero_le _, fun i h => absurd h (Nat.not_lt_zero i)⟩, okV_zero.2⟩⟩)
 right y hy hq := gz_of rfl (by rw [vl_lst, vl_nil]) (by unfold okV at hy; exact ⟨⟨⟨Nat.zero_le _, fun i h => absurd h (Nat.not_lt_zero i)⟩, okV_zero.2⟩, ⟨⟨hy.1.1, fun _ _ => rfl⟩, hy.2⟩⟩)
def Room (A B : List Bd) : Prop := QOk QJ A B
theorem room_dd {A A' B B' : List Bd} (h : Room A B) (ha : ∀ x ∈ A', ∃ y ∈ A, x.v.t.names.length <= y.v.t.names.length) (hb : ∀ x ∈ B', ∃ y ∈ B, x.v.t.names.length <= y.v.t.names.length) : Room A' B' where
 both x hx y hy := by
  obtain ⟨u, hu, e⟩ := ha x hx
  obtain ⟨w, hw, e'⟩ := hb y hy
  have := h.both u hu w hw
  unfold QJ at *; omega
 left x hx := by obtain ⟨u, hu, e⟩ := ha x hx; have := h.left u hu; unfold QJ at *; omega
 right y hy := by obtain ⟨w, hw, e'⟩ := hb y hy; have := h.right w hw; unfold QJ at *; omega
theorem clean_sub (e : En) : ∀ x ∈ e.clean.binds, ∃ y ∈ e.binds, x.v.t.names.length <= y.v.t.names.length := by
 intro x hx
 unfold En.clean at hx
 split at hx
 . obtain ⟨b, hb, rfl⟩ := List.mem_map.1 hx
   refine ⟨b, srt_mem.1 (dd_sub hb), ?_⟩
   show (Vl.of b.v).t.names.length <= _
   rw [of_names]; exact ofS_len _
 . cases hx
theorem room_clean {a b : En} (h : Room a.binds b.binds) : Room a.clean.binds b.clean.binds := room_dd h (clean_sub a) (clean_sub b)
theorem qt_ok (A B : List Bd) : QOk QT A B := ⟨fun _ _ _ _ => trivial, fun _ _ => trivial, fun _ _ => trivial⟩
def FEJoin : List Ar -> Option Rs
 | [.agg [.d (.v (.bool e0)), .d (.lst 9 n0 f0)], .agg [.d (.v (.bool e1)), .d (.lst 9 n1 f1)]] => some ⟨(n0 <= 1099511627776 /\ RowsOk n0 f0) /\ (n1 <= 1099511627776 /\ RowsOk n1 f1) /\ (Room (gBs n0 f0) (gBs n1 f1) /\ n0 + n1 <= 1099511627776), .va (En.ar (En.join (⟨e0, gBs n0 f0⟩ : En) (⟨e1, gBs n1 f1⟩ : En))), []⟩
 | _ => none
theorem fcEJoin : FC Tryz.prog 44 FEJoin := by
 intro xs pre r us h hp
 unfold FEJoin at h
 split at h
 . rename_i e0 n0 f0 e1 n1 f1
   cases h
   obtain ⟨hp0, hp1, hp2⟩ := hp
   refine FCat.deep (ys := [.agg [.d (.v (.bool e0)), .d (.lst 9 n0 (rwB (gBs n0 f0)))], .agg [.d (.v (.bool e1)), .d (.lst 9 n1 (rwB (gBs n1 f1)))]]) ?_ ?_
   . repeat' (first | exact trivial | exact rfl | exact DvE.refl _ | refine ⟨?_, ?_⟩ | fail)
     all_goals first | first | exact canonB hp0.2.h | exact canonB hp1.2.h
   refine fcat tys_ok (l := [(22, ⟨[], FEClean⟩), (94, ⟨[], (FEZip Vl.join QJ gJoin)⟩), (95, ⟨[], FN 1 FVJoin⟩)]) ⟨fcEClean, (fcEZip Vl.join QJ gJoin), fc_nil 1 fcVJoin, trivial⟩ Tryz.func44 rfl (by kernel_rfl) true ?_
   have hn := hp0.1
   have hL := okL_rows hp0.2
   have hlen := gBs_length n0 f0
   generalize gBs n0 f0 = L at *
   clear hp0
   subst hlen
   have hrow := okL_row hL
   have hb := gBs_row L
   have hc := clean_ok (e := ⟨e0, L⟩) hL
   have hcr := okL_row hc
   have hcl := clean_len ⟨e0, L⟩
   have hcs := clean_std ⟨e0, L⟩
   have hcn : (En.clean ⟨e0, L⟩).binds.length <= 1099511627776 := Nat.le_trans hcl hn
   have hm := hp1.1
   have hM := okL_rows hp1.2
   have hlen1 := gBs_length n1 f1
   generalize gBs n1 f1 = M at *
   clear hp1
   subst hlen1
   have hrow1 := okL_row hM
   have hb1 := gBs_row M
   have hd := clean_ok (e := ⟨e1, M⟩) hM
   have hdr := okL_row hd
   have hdl := clean_len ⟨e1, M⟩
   have hds := clean_std ⟨e1, M⟩
   have hdn : (En.clean ⟨e1, M⟩).binds.length <= 1099511627776 := Nat.le_trans hdl hm
   obtain ⟨hroom, hsum⟩ := hp2
   have hcroom := room_clean (a := ⟨e0, L⟩) (b := ⟨e1, M⟩) hroom
   have hnm : (En.clean ⟨e0, L⟩).binds.length + (En.clean ⟨e1, M⟩).binds.length <= 1099511627776 := by
    have h1 : (En.clean ⟨e0, L⟩).binds.length <= L.length := hcl
    have h2 : (En.clean ⟨e1, M⟩).binds.length <= M.length := hdl
    omega
   repeat' (first | exact trivial | refine ⟨?_, ?_⟩ | intro _)
   all_goals first | (with_reducible first | apply qa | apply qb | apply qc | apply qd) | (conv => whnf)
   all_goals (try simp only [gBs_row, Bool.not_eq_true', Bool.not_eq_false'] at *)
   all_goals first | exact hrow | exact hrow1 | exact hn | exact hm | exact hcr | exact hdr | exact hcn | exact hdn | exact gJoin_ok | exact hcroom | exact hnm | rfl | skip
   all_goals (have hset : En.join ⟨e0, L⟩ ⟨e1, M⟩ = if (En.clean ⟨e0, L⟩).live = true then (if (En.clean ⟨e1, M⟩).live = true then ⟨true, mrg Vl.join (En.clean ⟨e0, L⟩).binds (En.clean ⟨e1, M⟩).binds⟩ else En.clean ⟨e0, L⟩) else En.clean ⟨e1, M⟩ := rfl)
   all_goals (generalize En.join ⟨e0, L⟩ ⟨e1, M⟩ = R at *; generalize En.clean ⟨e0, L⟩ = A at *; generalize En.clean ⟨e1, M⟩ = B at *)
   all_goals first | (have hl := ‹A.live = false›; rw [hl, if_neg Bool.false_ne_true] at hset; subst hset; rfl) | (have hl := ‹A.live = true›; have hl2 := ‹B.live = false›; rw [hl, if_pos rfl, hl2, if_neg Bool.false_ne_true] at hset; subst hset; rfl) | (have hl := ‹A.live = true›; have hl2 := ‹B.live = true›; rw [hl, if_pos rfl, hl2, if_pos rfl] at hset; subst hset; rfl)
 . cases h
def FWidC : List Ar -> Option Rs
 | [.agg [.d (.v (.bool s0)), .d (.v (.int .i64 l0)), .d (.v (.int .i64 h0)), .d (.v (.bool b0)), .d (.v (.int .i64 m0)), .d (.v (.int .i64 r0)), .d (.v (.bool z0)), .d (.lst 1 n0 f0)], .agg [.d (.v (.bool s1)), .d (.v (.int .i64 l1)), .d (.v (.int .i64 h1)), .d (.v (.bool b1)), .d (.v (.int .i64 m1)), .d (.v (.int .i64 r1)), .d (.v (.bool z1)), .d (.lst 1 n1 f1)], .rp [.lst 1 n2 f2]] => some ⟨((n0 * 16 <= 140737488351232 /\ ∀ i, i < n0 -> f0 i = [st (gT (f0 i))]) /\ Sp.inR ⟨s0, l0, h0⟩ /\ Cg.inR ⟨b0, m0, r0⟩) /\ ((n1 * 16 <= 140737488351232 /\ ∀ i, i < n1 -> f1 i = [st (gT (f1 i))]) /\ Sp.inR ⟨s1, l1, h1⟩ /\ Cg.inR ⟨b1, m1, r1⟩) /\ (n2 <= 9223372036854775807 /\ ∀ i, i < n2 -> f2 i = [it (gI (f2 i))] /\ rI (gI (f2 i))) /\ ((n0 + n1) * 16 <= 140737488351232), .va (Vl.ar (Vl.widen (⟨⟨⟨s0, l0, h0⟩, ⟨b0, m0, r0⟩⟩, ⟨z0, gN n0 f0⟩⟩ : Vl) (⟨⟨⟨s1, l1, h1⟩, ⟨b1, m1, r1⟩⟩, ⟨z1, gN n1 f1⟩⟩ : Vl) (gL n2 f2))), []⟩
 | _ => none
theorem fcWidC : FC Tryz.prog 100 FWidC := by
 intro xs pre r us h hp
 unfold FWidC at h
 split at h
 . rename_i s0 l0 h0 b0 m0 r0 z0 n0 f0 s1 l1 h1 b1 m1 r1 z1 n1 f1 n2 f2
   cases h
   obtain ⟨hp0, hp1, hp2, hp3⟩ := hp
   refine FCat.of_eq (as' := [.agg [.d (.v (.bool s0)), .d (.v (.int .i64 l0)), .d (.v (.int .i64 h0)), .d (.v (.bool b0)), .d (.v (.int .i64 m0)), .d (.v (.int .i64 r0)), .d (.v (.bool z0)), .d (.lst 1 n0 fun i => [st (gT (f0 i))])], .agg [.d (.v (.bool s1)), .d (.v (.int .i64 l1)), .d (.v (.int .i64 h1)), .d (.v (.bool b1)), .d (.v (.int .i64 m1)), .d (.v (.int .i64 r1)), .d (.v (.bool z1)), .d (.lst 1 n1 fun i => [st (gT (f1 i))])], .rp [.lst 1 n2 f2]]) ?_ rfl rfl ?_
   . repeat' (first | exact trivial | exact rfl | refine ⟨?_, ?_⟩ | fail)
     all_goals first | exact hp0.1.2 | exact hp1.1.2 | exact hp0.2 | exact hp1.2 | exact hp2.2 | (intro i hi; exact (hp0.2 i hi).1) | (intro i hi; exact (hp1.2 i hi).1) | (intro i hi; exact (hp2.2 i hi).1) | grind
   refine fcat tys_ok (l := [(101, ⟨[], FVWiden⟩)]) ⟨fcVWiden, trivial⟩ Tryz.func100 rfl (by kernel_rfl) true ?_
   repeat' (first | exact trivial | (with_reducible first | exact hp0.1 | exact hp1.1 | exact hp0.1.1 | exact hp1.1.1 | exact hp0.2 | exact hp1.2 | exact hp0.2.1 | exact hp0.2.2 | exact hp1.2.1 | exact hp1.2.2 | exact hp2 | exact hp2.1 | exact hp2.2 | exact hp3) | refine ⟨?_, ?_⟩ | intro _)
   all_goals first | (with_reducible first | apply qa | apply qb | apply qc | apply qd) | (conv => whnf)
   all_goals (try simp only [gN_lst])
   all_goals first | rfl
 . cases h
abbrev gWiden (nk : Nat) (fk : Nat -> List DV) : List Cv -> Option Gs := mkFv (sums [(100, ⟨[], FN 1 FWidC⟩)]) 100 [.rp [.lst 1 nk fk]]
theorem gWiden_ok {nk : Nat} {fk : Nat -> List DV} (hk : nk <= 9223372036854775807 /\ ∀ i, i < nk -> fk i = [it (gI (fk i))] /\ rI (gI (fk i))) : GOk (gWiden nk fk) (fun x y => Vl.widen x y (gL nk fk)) QJ where
 both x y hx hy hq := gz_of rfl (by rw [vl_lst, vl_lst]) (by unfold okV at hx hy; exact ⟨⟨⟨hx.1.1, fun _ _ => rfl⟩, hx.2⟩, ⟨⟨hy.1.1, fun _ _ => rfl⟩, hy.2⟩, hk, hq⟩)
 left x hx hq := gz_of rfl (by rw [vl_lst, vl_nil]) (by unfold okV at hx; exact ⟨⟨⟨hx.1.1, fun _ _ => rfl⟩, hx.2⟩, ⟨⟨Nat.zero_le _, fun i h => absurd h (Nat.not_lt_zero i)⟩, okV_zero.2⟩, hk, hq⟩)
 right y hy hq := gz_of rfl (by rw [vl_lst, vl_nil]) (by unfold okV at hy; exact ⟨⟨⟨Nat.zero_le _, fun i h => absurd h (Nat.not_lt_zero i)⟩, okV_zero.2⟩, ⟨⟨hy.1.1, fun _ _ => rfl⟩, hy.2⟩, hk, hq⟩)
def FEWiden : List Ar -> Option Rs
 | [.agg [.d (.v (.bool e0)), .d (.lst 9 n0 f0)], .agg [.d (.v (.bool e1)), .d (.lst 9 n1 f1)], .c (.d (.lst 1 n2 f2))] => some ⟨(n0 <= 1099511627776 /\ RowsOk n0 f0) /\ (n1 <= 1099511627776 /\ RowsOk n1 f1) /\ (n2 <= 9223372036854775807 /\ ∀ i, i < n2 -> f2 i = [it (gI (f2 i))] /\ rI (gI (f2 i))) /\ (Room (gBs n0 f0) (gBs n1 f1) /\ n0 + n1 <= 1099511627776), .va (En.ar (En.widen (⟨e0, gBs n0 f0⟩ : En) (⟨e1, gBs n1 f1⟩ : En) (gL n2 f2))), []⟩
 | _ => none
theorem fcEWiden : FC Tryz.prog 46 FEWiden := by
 intro xs pre r us h hp
 unfold FEWiden at h
 split at h
 . rename_i e0 n0 f0 e1 n1 f1 n2 f2
   cases h
   obtain ⟨hp0, hp1, hp2, hp3⟩ := hp
   refine FCat.deep (ys := [.agg [.d (.v (.bool e0)), .d (.lst 9 n0 (rwB (gBs n0 f0)))], .agg [.d (.v (.bool e1)), .d (.lst 9 n1 (rwB (gBs n1 f1)))], .c (.d (.lst 1 n2 fun i => [it (gI (f2 i))]))]) ?_ ?_
   . repeat' (first | exact trivial | exact rfl | exact DvE.refl _ | refine ⟨?_, ?_⟩ | fail)
     all_goals first | first | exact canonB hp0.2.h | exact canonB hp1.2.h | (exact .rows fun i hi => by rw [(hp2.2 i hi).1]; exact ⟨rfl, fun j a b ha hb => by have hb : [it (gI (f2 i))][j]? = some b := hb; rw [ha] at hb; cases hb; exact .refl _⟩)
   refine fcat tys_ok (l := [(22, ⟨[], FEClean⟩), (94, ⟨[], (FEZip (fun x y => Vl.widen x y (gL n2 f2)) QJ (gWiden n2 (fun i => [it (gI (f2 i))])))⟩), (100, ⟨[], FN 1 FWidC⟩)]) ⟨fcEClean, (fcEZip (fun x y => Vl.widen x y (gL n2 f2)) QJ (gWiden n2 (fun i => [it (gI (f2 i))]))), fc_nil 1 fcWidC, trivial⟩ Tryz.func46 rfl (by kernel_rfl) true ?_
   have hn := hp0.1
   have hL := okL_rows hp0.2
   have hlen := gBs_length n0 f0
   generalize gBs n0 f0 = L at *
   clear hp0
   subst hlen
   have hrow := okL_row hL
   have hb := gBs_row L
   have hc := clean_ok (e := ⟨e0, L⟩) hL
   have hcr := okL_row hc
   have hcl := clean_len ⟨e0, L⟩
   have hcs := clean_std ⟨e0, L⟩
   have hcn : (En.clean ⟨e0, L⟩).binds.length <= 1099511627776 := Nat.le_trans hcl hn
   have hm := hp1.1
   have hM := okL_rows hp1.2
   have hlen1 := gBs_length n1 f1
   generalize gBs n1 f1 = M at *
   clear hp1
   subst hlen1
   have hrow1 := okL_row hM
   have hb1 := gBs_row M
   have hd := clean_ok (e := ⟨e1, M⟩) hM
   have hdr := okL_row hd
   have hdl := clean_len ⟨e1, M⟩
   have hds := clean_std ⟨e1, M⟩
   have hdn : (En.clean ⟨e1, M⟩).binds.length <= 1099511627776 := Nat.le_trans hdl hm
   obtain ⟨hroom, hsum⟩ := hp3
   have hcroom := room_clean (a := ⟨e0, L⟩) (b := ⟨e1, M⟩) hroom
   have hnm : (En.clean ⟨e0, L⟩).binds.length + (En.clean ⟨e1, M⟩).binds.length <= 1099511627776 := by
    have h1 : (En.clean ⟨e0, L⟩).binds.length <= L.length := hcl
    have h2 : (En.clean ⟨e1, M⟩).binds.length <= M.length := hdl
    omega
   have hcan : ∀ i, i < n2 -> (fun i => [it (gI (f2 i))]) i = [it (gI ((fun i => [it (gI (f2 i))]) i))] /\ rI (gI ((fun i => [it (gI (f2 i))]) i)) := fun i hi => ⟨rfl, (hp2.2 i hi).2⟩
   have hgw := gWiden_ok (nk := n2) (fk := fun i => [it (gI (f2 i))]) ⟨hp2.1, hcan⟩
   repeat' (first | exact trivial | refine ⟨?_, ?_⟩ | intro _)
   all_goals first | (with_reducible first | apply qa | apply qb | apply qc | apply qd) | (conv => whnf)
   all_goals (try simp only [gBs_row, Bool.not_eq_true', Bool.not_eq_false'] at *)
   all_goals first | exact hrow | exact hrow1 | exact hn | exact hm | exact hcr | exact hdr | exact hcn | exact hdn | exact hgw | exact hcroom | exact hnm | rfl | skip
   all_goals (have hset : En.widen ⟨e0, L⟩ ⟨e1, M⟩ (gL n2 f2) = if (En.clean ⟨e0, L⟩).live = true then (if (En.clean ⟨e1, M⟩).live = true then ⟨true, mrg (fun x y => Vl.widen x y (gL n2 f2)) (En.clean ⟨e0, L⟩).binds (En.clean ⟨e1, M⟩).binds⟩ else En.clean ⟨e0, L⟩) else En.clean ⟨e1, M⟩ := rfl)
   all_goals (generalize En.widen ⟨e0, L⟩ ⟨e1, M⟩ (gL n2 f2) = R at *; generalize En.clean ⟨e0, L⟩ = A at *; generalize En.clean ⟨e1, M⟩ = B at *)
   all_goals first | (have hl := ‹A.live = false›; rw [hl, if_neg Bool.false_ne_true] at hset; subst hset; rfl) | (have hl := ‹A.live = true›; have hl2 := ‹B.live = false›; rw [hl, if_pos rfl, hl2, if_neg Bool.false_ne_true] at hset; subst hset; rfl) | (have hl := ‹A.live = true›; have hl2 := ‹B.live = true›; rw [hl, if_pos rfl, hl2, if_pos rfl] at hset; subst hset; rfl)
 . cases h
def FENarrow : List Ar -> Option Rs
 | [.agg [.d (.v (.bool e0)), .d (.lst 9 n0 f0)], .agg [.d (.v (.bool e1)), .d (.lst 9 n1 f1)]] => some ⟨(n0 <= 1099511627776 /\ RowsOk n0 f0) /\ (n1 <= 1099511627776 /\ RowsOk n1 f1) /\ (n0 + n1 <= 1099511627776), .va (En.ar (En.narrow (⟨e0, gBs n0 f0⟩ : En) (⟨e1, gBs n1 f1⟩ : En))), []⟩
 | _ => none
theorem fcENarrow : FC Tryz.prog 47 FENarrow := by
 intro xs pre r us h hp
 unfold FENarrow at h
 split at h
 . rename_i e0 n0 f0 e1 n1 f1
   cases h
   obtain ⟨hp0, hp1, hp2⟩ := hp
   refine FCat.deep (ys := [.agg [.d (.v (.bool e0)), .d (.lst 9 n0 (rwB (gBs n0 f0)))], .agg [.d (.v (.bool e1)), .d (.lst 9 n1 (rwB (gBs n1 f1)))]]) ?_ ?_
   . repeat' (first | exact trivial | exact rfl | exact DvE.refl _ | refine ⟨?_, ?_⟩ | fail)
     all_goals first | first | exact canonB hp0.2.h | exact canonB hp1.2.h
   refine fcat tys_ok (l := [(22, ⟨[], FEClean⟩), (94, ⟨[], (FEZip Vl.narrow QT gNarrow)⟩), (102, ⟨[], FN 1 FVNarrow⟩), (41, ⟨[], FELeq⟩)]) ⟨fcEClean, (fcEZip Vl.narrow QT gNarrow), fc_nil 1 fcVNarrow, fcELeq, trivial⟩ Tryz.func47 rfl (by kernel_rfl) true ?_
   have hn := hp0.1
   have hL := okL_rows hp0.2
   have hlen := gBs_length n0 f0
   generalize gBs n0 f0 = L at *
   clear hp0
   subst hlen
   have hrow := okL_row hL
   have hb := gBs_row L
   have hc := clean_ok (e := ⟨e0, L⟩) hL
   have hcr := okL_row hc
   have hcl := clean_len ⟨e0, L⟩
   have hcs := clean_std ⟨e0, L⟩
   have hcn : (En.clean ⟨e0, L⟩).binds.length <= 1099511627776 := Nat.le_trans hcl hn
   have hm := hp1.1
   have hM := okL_rows hp1.2
   have hlen1 := gBs_length n1 f1
   generalize gBs n1 f1 = M at *
   clear hp1
   subst hlen1
   have hrow1 := okL_row hM
   have hb1 := gBs_row M
   have hd := clean_ok (e := ⟨e1, M⟩) hM
   have hdr := okL_row hd
   have hdl := clean_len ⟨e1, M⟩
   have hds := clean_std ⟨e1, M⟩
   have hdn : (En.clean ⟨e1, M⟩).binds.length <= 1099511627776 := Nat.le_trans hdl hm
   have hnm : (En.clean ⟨e0, L⟩).binds.length + (En.clean ⟨e1, M⟩).binds.length <= 1099511627776 := by
    have h1 : (En.clean ⟨e0, L⟩).binds.length <= L.length := hcl
    have h2 : (En.clean ⟨e1, M⟩).binds.length <= M.length := hdl
    omega
   repeat' (first | exact trivial | refine ⟨?_, ?_⟩ | intro _)
   all_goals first | (with_reducible first | apply qa | apply qb | apply qc | apply qd) | (conv => whnf)
   all_goals (try simp only [gBs_row, Bool.not_eq_true', Bool.not_eq_false'] at *)
   all_goals first | exact hrow | exact hrow1 | exact hn | exact hm | exact hcr | exact hdr | exact hcn | exact hdn | exact gNarrow_ok | exact qt_ok _ _ | exact hnm | rfl | skip
   all_goals (have hset : En.narrow ⟨e0, L⟩ ⟨e1, M⟩ = if (En.clean ⟨e0, L⟩).live = true then (if (En.clean ⟨e1, M⟩).live = true then (if En.leq (En.clean ⟨e1, M⟩) (En.clean ⟨e0, L⟩) = true then ⟨true, mrg Vl.narrow (En.clean ⟨e0, L⟩).binds (En.clean ⟨e1, M⟩).binds⟩ else En.clean ⟨e0, L⟩) else ⟨false, []⟩) else En.clean ⟨e1, M⟩ := rfl)
   all_goals (generalize En.narrow ⟨e0, L⟩ ⟨e1, M⟩ = R at *; generalize En.clean ⟨e0, L⟩ = A at *; generalize En.clean ⟨e1, M⟩ = B at *)
   all_goals first | (have hl := ‹A.live = false›; rw [hl, if_neg Bool.false_ne_true] at hset; subst hset; rfl) | (have hl := ‹A.live = true›; have hl2 := ‹B.live = false›; rw [hl, if_pos rfl, hl2, if_neg Bool.false_ne_true] at hset; subst hset; rfl) | (have hl := ‹A.live = true›; have hl2 := ‹B.live = true›; have hl3 : En.leq B A = true := ‹_›; rw [hl, if_pos rfl, hl2, if_pos rfl, hl3, if_pos rfl] at hset; subst hset; rfl) | (have hl := ‹A.live = true›; have hl2 := ‹B.live = true›; have hl3 : En.leq B A = false := ‹_›; rw [hl, if_pos rfl, hl2, if_pos rfl, hl3, if_neg Bool.false_ne_true] at hset; subst hset; first | rfl | exact congrArg Value.bool hl | exact congrArg Value.bool hl.symm)
 . cases h
theorem lk_find (L : List Bd) (s : ByteArray) : lk L s = (L.find? fun b => decide (b.name = s)).map (·.v) := by
 induction L with
 | nil => rfl
 | cons x r ih =>
   rw [lk_cons, List.find?_cons]
   by_cases h : x.name = s
   . rw [if_pos h, decide_eq_true h]; rfl
   . rw [if_neg h, decide_eq_false h]; exact ih
theorem rget_lk (e : En) (s : ByteArray) : e.rget s = ((e.hold s).map Vl.rclean).getD Vl.zero := by
 unfold En.rget En.hold
 split
 . rw [lk_find]; cases List.find? (fun b => decide (b.name = s)) e.binds <;> rfl
 . rfl
theorem mem_names {e : En} {s : ByteArray} : s ∈ e.names ↔ (e.hold s).isSome = true := by
 unfold En.names En.hold
 split
 . rw [cleanS_mem, lk_isSome]
 . simp
theorem names_srt (e : En) : Srt e.names := by
 unfold En.names
 split
 . exact cleanS_srt _
 . exact srt_nil
theorem lk_fun (l : List ByteArray) (g : ByteArray -> Vl) (s : ByteArray) : lk (l.map fun n => ⟨n, g n⟩) s = if memS s l = true then some (g s) else none := by
 induction l with
 | nil => rfl
 | cons x r ih =>
   rw [List.map_cons, lk_cons, ih]
   by_cases h : x = s
   . subst h; rw [if_pos rfl, if_pos (memS_iff.2 List.mem_cons_self)]
   . rw [if_neg h]
     by_cases h2 : s ∈ r
     . rw [if_pos (memS_iff.2 h2), if_pos (memS_iff.2 (List.mem_cons_of_mem _ h2))]
     . rw [if_neg (fun h3 => h2 (memS_iff.1 h3)), if_neg]
       intro h3
       rcases List.mem_cons.1 (memS_iff.1 h3) with h4 | h4
       . exact h h4.symm
       . exact h2 h4
theorem rclean_ss (e : En) : SS e.rclean.binds := by
 unfold SS En.rclean
 rw [List.pairwise_map]
 exact names_srt e
theorem rclean_lk (e : En) (s : ByteArray) : lk e.rclean.binds s = (e.hold s).map Vl.rclean := by
 show lk (e.names.map fun n => ⟨n, e.rget n⟩) s = _
 rw [lk_fun]
 by_cases h : s ∈ e.names
 . rw [if_pos (memS_iff.2 h), rget_lk]
   have := mem_names.1 h
   cases hh : e.hold s with
   | none => rw [hh] at this; cases this
   | some v => rfl
 . rw [if_neg (fun h3 => h (memS_iff.1 h3))]
   have := mt mem_names.2 h
   cases hh : e.hold s with
   | none => rfl
   | some v => rw [hh] at this; exact absurd rfl this
theorem of_fun : Vl.of = Vl.rclean := funext of_rclean
theorem clean_rclean (e : En) : e.clean = e.rclean :=
 en_ext (eclean_live e) (clean_ss e) (rclean_ss e) fun s => by rw [clean_lk, rclean_lk, of_fun]
theorem low_split {D : List Bd} (h : SS D) (s : ByteArray) : (∀ b ∈ D.take (lowN D s), kS b.name < kS s) /\ ∀ b ∈ D.drop (lowN D s), ¬ kS b.name < kS s := by
 induction D with
 | nil => exact ⟨fun b hb => by simp at hb, fun b hb => by simp at hb⟩
 | cons x r ih =>
   have h1 := List.pairwise_cons.1 h
   obtain ⟨i1, i2⟩ := ih h1.2
   cases hc : ltB x ⟨s, Vl.zero⟩ with
   | true =>
     have e : lowN (x :: r) s = lowN r s + 1 := by unfold lowN; rw [List.countP_cons_of_pos (by exact hc)]
     rw [e, List.take_succ_cons, List.drop_succ_cons]
     refine ⟨fun b hb => ?_, i2⟩
     rcases List.mem_cons.1 hb with rfl | hb
     . exact ltB_iff.1 hc
     . exact i1 b hb
   | false =>
     have hx : ¬ kS x.name < kS s := ltB_iff'.1 hc
     have hr : ∀ b ∈ r, ¬ kS b.name < kS s := fun b hb hlt => hx (List.lt_trans (h1.1 b hb) hlt)
     have e : lowN (x :: r) s = 0 := by
      unfold lowN
      rw [List.countP_eq_zero]
      intro b hb
      rcases List.mem_cons.1 hb with rfl | hb
      . rw [hc]; exact Bool.false_ne_true
      . have := (ltB_iff' (a := b) (b := ⟨s, Vl.zero⟩)).2 (hr b hb)
        rw [this]; exact Bool.false_ne_true
     rw [e]
     refine ⟨fun b hb => by simp at hb, fun b hb => ?_⟩
     rcases List.mem_cons.1 hb with rfl | hb
     . exact hx
     . exact hr b hb
theorem found_iff {D : List Bd} {s : ByteArray} : foundN D s = true ↔ lowN D s < D.length /\ (atB D (lowN D s)).name = s := by
 unfold foundN
 rw [Bool.and_eq_true, decide_eq_true_eq, beq_iff_eq, cfL_eq]
 constructor
 . rintro ⟨h1, h2⟩; exact ⟨h1, kS_inj h2⟩
 . rintro ⟨h1, h2⟩; exact ⟨h1, by rw [h2]⟩
theorem split_at {D : List Bd} {i : Nat} (h : i < D.length) : D = D.take i ++ atB D i :: D.drop (i + 1) := by
 have hd : D.drop i = atB D i :: D.drop (i + 1) := by
  rw [List.drop_eq_getElem_cons h]
  congr 1
  unfold atB; rw [List.getD_eq_getElem?_getD, List.getElem?_eq_getElem h]; rfl
 rw [<- hd, List.take_append_drop]
theorem lk_take {D : List Bd} (h : SS D) (s : ByteArray) : lk (D.take (lowN D s)) s = none :=
 lk_none fun b hb e => by have := (low_split h s).1 b hb; rw [e] at this; exact List.lt_irrefl _ this
theorem lk_found {D : List Bd} (h : SS D) (s : ByteArray) : lk D s = if foundN D s = true then some (atB D (lowN D s)).v else none := by
 conv => lhs; rw [<- List.take_append_drop (lowN D s) D, lk_append, lk_take h]
 rw [Option.none_or]
 split
 . rename_i hf
   obtain ⟨h1, h2⟩ := found_iff.1 hf
   have e := split_at h1
   have hd : D.drop (lowN D s) = atB D (lowN D s) :: D.drop (lowN D s + 1) := by
    have := congrArg (List.drop (lowN D s)) e
    rw [List.drop_append_of_le_length (by rw [List.length_take]; omega)] at this
    rw [this, List.drop_eq_nil_of_le (by rw [List.length_take]; omega)]; rfl
   rw [hd, lk_cons, if_pos h2]
 . rename_i hf
   by_cases h1 : lowN D s < D.length
   . have e := split_at h1
     have hd : D.drop (lowN D s) = atB D (lowN D s) :: D.drop (lowN D s + 1) := by
      have := congrArg (List.drop (lowN D s)) e
      rw [List.drop_append_of_le_length (by rw [List.length_take]; omega)] at this
      rw [this, List.drop_eq_nil_of_le (by rw [List.length_take]; omega)]; rfl
     have hne : (atB D (lowN D s)).name ≠ s := fun h2 => hf (found_iff.2 ⟨h1, h2⟩)
     have hgt : ¬ kS (atB D (lowN D s)).name < kS s := (low_split h s).2 _ (by rw [hd]; exact List.mem_cons_self)
     have hlt : kS s < kS (atB D (lowN D s)).name := kS_tri hgt hne
     have hss : SS (D.drop (lowN D s)) := List.Pairwise.sublist (List.drop_sublist _ _) h
     rw [hd] at hss ⊢
     rw [lk_cons, if_neg hne, ss_head hss (List.lt_asymm hlt)]
   . rw [List.drop_eq_nil_of_le (by omega)]; rfl
theorem get_lk (e : En) (s : ByteArray) : e.get s = ((e.hold s).map Vl.of).getD Vl.zero := by
 unfold En.get
 have := lk_found (clean_ss e) s
 rw [clean_lk] at this
 rw [this]
 split <;> rfl
theorem get_rget (e : En) (s : ByteArray) : e.get s = e.rget s := by rw [get_lk, rget_lk, of_fun]
namespace En
def rleq (a b : En) : Bool := if a.live = true then ((a.names.all fun n => Vl.rleq (a.rget n) (b.rget n)) && b.live) else true
end En
theorem nbT {x : Bool} (h : (!x) = false) : x = true := by cases x; cases h; rfl
theorem nbF {x : Bool} (h : (!x) = true) : x = false := by cases x; rfl; cases h
theorem okV_rj {x y : Vl} (hx : okV x) (hy : okV y) (hq : QJ x y) : okV (Vl.rjoin x y) := by
 have h := hx; have h' := hy
 unfold okV at hx hy
 refine ⟨⟨?_, fun _ _ => rfl⟩, ?_⟩
 . show (Vl.rjoin x y).t.names.length * 16 <= 140737488351232
   unfold Vl.rjoin
   have h1 : (cleanS (cleanS x.t.names ++ cleanS y.t.names)).length <= x.t.names.length + y.t.names.length := by
    have a1 := ofS_len (cleanS x.t.names ++ cleanS y.t.names)
    have a2 := ofS_len x.t.names
    have a3 := ofS_len y.t.names
    rw [ofS_eq] at a1 a2 a3
    rw [List.length_append] at a1; omega
   unfold QJ at hq
   dsimp only; omega
 . rw [<- Vl.join_eq]
   have hxi := Vl.of_inR (v := x) ⟨hx.2.1, hx.2.2⟩
   have hyi := Vl.of_inR (v := y) ⟨hy.2.1, hy.2.2⟩
   exact ⟨Sp.join_inR hxi.1 hyi.1, Cg.join_inR hxi.2 hyi.2⟩
theorem okV_rw {x y : Vl} {l : List Int} (hx : okV x) (hy : okV y) (hq : QJ x y) (hl : ∀ z, z ∈ l -> rI z) : okV (Vl.rwiden x y l) := by
 have hj := okV_rj hx hy hq
 unfold okV at hx hy hj
 have hxi := Vl.of_inR (v := x) ⟨hx.2.1, hx.2.2⟩
 have hyi := Vl.of_inR (v := y) ⟨hy.2.1, hy.2.2⟩
 rw [<- widen_eq]
 rw [<- Vl.join_eq] at hj
 exact ⟨⟨hj.1.1, fun _ _ => rfl⟩, Sp.widen_inR hxi.1 hyi.1 hl, Cg.join_inR hxi.2 hyi.2⟩
theorem okV_rn {x y : Vl} (hx : okV x) (hy : okV y) : okV (Vl.rnarrow x y) := by
 have h := okV_of hx
 unfold okV at hx hy h
 have hxi := Vl.of_inR (v := x) ⟨hx.2.1, hx.2.2⟩
 have hyi := Vl.of_inR (v := y) ⟨hy.2.1, hy.2.2⟩
 rw [<- narrow_eq, Vl.narrow_cases]
 split
 . exact okV_of (by unfold okV; exact hx)
 . split
   . exact okV_zero
   . refine ⟨⟨h.1.1, fun _ _ => rfl⟩, ?_⟩
     refine Ig.clean_inR (Sp.narrow_inR hxi.1 hyi.1) ?_
     split
     . exact hyi.2
     . exact hxi.2
def zipV (op : Vl -> Vl -> Vl) : Option Vl -> Option Vl -> Option Vl
 | none, none => none
 | some x, none => some (op x Vl.zero)
 | none, some y => some (op Vl.zero y)
 | some x, some y => some (op x y)
theorem lk_lt {x y : Bd} {r : List Bd} {s : ByteArray} (h : SS (y :: r)) (hxy : ltB x y = true) (e : x.name = s) : lk (y :: r) s = none := by
 subst e
 have hlt := ltB_iff.1 hxy
 refine lk_none fun b hb e => ?_
 rcases List.mem_cons.1 hb with rfl | hb
 . rw [e] at hlt; exact List.lt_irrefl _ hlt
 . have := List.lt_trans hlt ((List.pairwise_cons.1 h).1 b hb)
   rw [e] at this; exact List.lt_irrefl _ this
theorem lk_mrg {op : Vl -> Vl -> Vl} : ∀ {A B : List Bd}, SS A -> SS B -> ∀ s, lk (mrg op A B) s = zipV op (lk A s) (lk B s)
 | [], [], _, _, s => by rw [mrg]; rfl
 | [], y :: b, hA, hB, s => by
   rw [mrg, lk_cons, lk_cons, lk_nil, lk_mrg hA (List.pairwise_cons.1 hB).2]
   split
   . rfl
   . rw [lk_nil]
 | x :: a, [], hA, hB, s => by
   rw [mrg, lk_cons, lk_cons, lk_nil, lk_mrg (List.pairwise_cons.1 hA).2 hB]
   split
   . rfl
   . rw [lk_nil]
 | x :: a, y :: b, hA, hB, s => by
   have hA2 := (List.pairwise_cons.1 hA).2
   have hB2 := (List.pairwise_cons.1 hB).2
   rw [mrg]
   split
   . rename_i h1
     rw [lk_cons, lk_mrg hA2 hB, lk_cons x]
     by_cases e : x.name = s
     . rw [if_pos e, if_pos e, lk_lt hB h1 e]; rfl
     . rw [if_neg e, if_neg e]
   . split
     . rename_i h1 h2
       rw [lk_cons, lk_mrg hA hB2, lk_cons y]
       by_cases e : y.name = s
       . rw [if_pos e, if_pos e, lk_lt hA h2 e]; rfl
       . rw [if_neg e, if_neg e]
     . rename_i h1 h2
       have e0 := (cf_eq (by simpa using h1) (by simpa using h2)).2
       rw [lk_cons, lk_mrg hA2 hB2, lk_cons x, lk_cons y, <- e0]
       by_cases e : x.name = s
       . rw [if_pos e, if_pos e, if_pos e]; rfl
       . rw [if_neg e, if_neg e, if_neg e]
termination_by A B => A.length + B.length
theorem mrg_names {op : Vl -> Vl -> Vl} : ∀ {A B : List Bd} {b : Bd}, b ∈ mrg op A B -> (∃ x ∈ A, x.name = b.name) \/ ∃ y ∈ B, y.name = b.name
 | [], [], b, h => by rw [mrg] at h; cases h
 | [], y :: r, b, h => by
   rw [mrg] at h
   rcases List.mem_cons.1 h with rfl | h
   . exact .inr ⟨y, List.mem_cons_self, rfl⟩
   . rcases mrg_names h with h | ⟨z, hz, e⟩
     . exact .inl h
     . exact .inr ⟨z, List.mem_cons_of_mem _ hz, e⟩
 | x :: r, [], b, h => by
   rw [mrg] at h
   rcases List.mem_cons.1 h with rfl | h
   . exact .inl ⟨x, List.mem_cons_self, rfl⟩
   . rcases mrg_names h with ⟨z, hz, e⟩ | h
     . exact .inl ⟨z, List.mem_cons_of_mem _ hz, e⟩
     . exact .inr h
 | x :: r, y :: q, b, h => by
   rw [mrg] at h
   split at h
   . rcases List.mem_cons.1 h with rfl | h
     . exact .inl ⟨x, List.mem_cons_self, rfl⟩
     . rcases mrg_names h with ⟨z, hz, e⟩ | h
       . exact .inl ⟨z, List.mem_cons_of_mem _ hz, e⟩
       . exact .inr h
   . split at h
     . rcases List.mem_cons.1 h with rfl | h
       . exact .inr ⟨y, List.mem_cons_self, rfl⟩
       . rcases mrg_names h with h | ⟨z, hz, e⟩
         . exact .inl h
         . exact .inr ⟨z, List.mem_cons_of_mem _ hz, e⟩
     . rcases List.mem_cons.1 h with rfl | h
       . exact .inl ⟨x, List.mem_cons_self, rfl⟩
       . rcases mrg_names h with ⟨z, hz, e⟩ | ⟨z, hz, e⟩
         . exact .inl ⟨z, List.mem_cons_of_mem _ hz, e⟩
         . exact .inr ⟨z, List.mem_cons_of_mem _ hz, e⟩
termination_by A B => A.length + B.length
theorem ss_mrg {op : Vl -> Vl -> Vl} : ∀ {A B : List Bd}, SS A -> SS B -> SS (mrg op A B)
 | [], [], _, _ => by rw [mrg]; exact List.Pairwise.nil
 | [], y :: b, hA, hB => by
   have hB' := List.pairwise_cons.1 hB
   rw [mrg]
   refine List.pairwise_cons.2 ⟨fun z hz => ?_, ss_mrg hA hB'.2⟩
   rcases mrg_names hz with ⟨w, hw, _⟩ | ⟨w, hw, e⟩
   . cases hw
   . rw [<- e]; exact hB'.1 w hw
 | x :: a, [], hA, hB => by
   have hA' := List.pairwise_cons.1 hA
   rw [mrg]
   refine List.pairwise_cons.2 ⟨fun z hz => ?_, ss_mrg hA'.2 hB⟩
   rcases mrg_names hz with ⟨w, hw, e⟩ | ⟨w, hw, _⟩
   . rw [<- e]; exact hA'.1 w hw
   . cases hw
 | x :: a, y :: b, hA, hB => by
   have hA' := List.pairwise_cons.1 hA
   have hB' := List.pairwise_cons.1 hB
   rw [mrg]
   split
   . rename_i h1
     have h1 := ltB_iff.1 h1
     refine List.pairwise_cons.2 ⟨fun z hz => ?_, ss_mrg hA'.2 hB⟩
     rcases mrg_names hz with ⟨w, hw, e⟩ | ⟨w, hw, e⟩
     . rw [<- e]; exact hA'.1 w hw
     . rw [<- e]
       rcases List.mem_cons.1 hw with rfl | hw
       . exact h1
       . exact List.lt_trans h1 (hB'.1 w hw)
   . split
     . rename_i _ h1
       have h1 := ltB_iff.1 h1
       refine List.pairwise_cons.2 ⟨fun z hz => ?_, ss_mrg hA hB'.2⟩
       rcases mrg_names hz with ⟨w, hw, e⟩ | ⟨w, hw, e⟩
       . rw [<- e]
         rcases List.mem_cons.1 hw with rfl | hw
         . exact h1
         . exact List.lt_trans h1 (hA'.1 w hw)
       . rw [<- e]; exact hB'.1 w hw
     . rename_i h1 h2
       have e0 := (cf_eq (by simpa using h1) (by simpa using h2)).2
       refine List.pairwise_cons.2 ⟨fun z hz => ?_, ss_mrg hA'.2 hB'.2⟩
       rcases mrg_names hz with ⟨w, hw, e⟩ | ⟨w, hw, e⟩
       . rw [<- e]; exact hA'.1 w hw
       . rw [<- e]; show kS x.name < _; rw [e0]; exact hB'.1 w hw
termination_by A B => A.length + B.length
theorem mrg_len {op : Vl -> Vl -> Vl} : ∀ (A B : List Bd), (mrg op A B).length <= A.length + B.length
 | [], [] => by rw [mrg]; exact Nat.le_refl _
 | [], y :: b => by have := mrg_len (op := op) [] b; rw [mrg]; simp only [List.length_cons] at *; omega
 | x :: a, [] => by have := mrg_len (op := op) a []; rw [mrg]; simp only [List.length_cons] at *; omega
 | x :: a, y :: b => by
   rw [mrg]
   split
   . have := mrg_len (op := op) a (y :: b); simp only [List.length_cons] at *; omega
   . split
     . have := mrg_len (op := op) (x :: a) b; simp only [List.length_cons] at *; omega
     . have := mrg_len (op := op) a b; simp only [List.length_cons] at *; omega
termination_by A B => A.length + B.length
theorem of_zero : Vl.of Vl.zero = Vl.zero := Vl.of_fix Vl.zero_tidy
theorem get_rg (e : En) (s : ByteArray) : En.rget e s = En.get e s := (get_rget e s).symm
theorem get_tidy (e : En) (s : ByteArray) : (En.get e s).tidy := by
 rw [get_lk]
 cases e.hold s with
 | none => exact Vl.zero_tidy
 | some v => exact Vl.of_tidy v
theorem get_of (e : En) (s : ByteArray) : (En.get e s).of = En.get e s := Vl.of_fix (get_tidy e s)
theorem hold_clean (e : En) (s : ByteArray) : e.clean.hold s = (e.hold s).map Vl.of := by
 have h1 := clean_lk e s
 unfold En.hold
 rw [eclean_live]
 split
 . rename_i hl
   rw [h1]; unfold En.hold; rw [if_pos hl]
 . rfl
theorem get_clean (e : En) (s : ByteArray) : En.get e.clean s = En.get e s := by
 rw [get_lk, get_lk, hold_clean]
 cases e.hold s with
 | none => rfl
 | some v => show v.of.of = v.of; exact Vl.of_of v
structure En.tidy (e : En) : Prop where
 s : SS e.binds
 v : ∀ x ∈ e.binds, x.v.tidy
 dead : e.live = false -> e.binds = []
theorem clean_tidyE (e : En) : e.clean.tidy where
 s := clean_ss e
 v x hx := by
  unfold En.clean at hx
  split at hx
  . obtain ⟨b, _, rfl⟩ := List.mem_map.1 hx; exact Vl.of_tidy _
  . cases hx
 dead h := by
  unfold En.clean at h ⊢
  split
  . rename_i hl; rw [if_pos hl] at h; cases h
  . rfl
theorem hold_tidy {e : En} (h : e.tidy) {s : ByteArray} {v : Vl} (hv : e.hold s = some v) : v.of = v := by
 unfold En.hold at hv
 split at hv
 . exact Vl.of_fix (h.v _ (lk_mem hv))
 . cases hv
theorem clean_fixE {e : En} (h : e.tidy) : e.clean = e := by
 refine en_ext (eclean_live e) (clean_ss e) h.s fun s => ?_
 rw [clean_lk]
 cases hh : e.hold s with
 | none =>
   unfold En.hold at hh
   split at hh
   . rw [hh]; rfl
   . rename_i hl
     rw [h.dead (by simpa using hl)]; rfl
 | some v =>
   have := hold_tidy h hh
   show some v.of = _
   rw [this]
   unfold En.hold at hh
   split at hh
   . exact hh.symm
   . cases hh
def En.zipE (op : Vl -> Vl -> Vl) (a b : En) : En := ⟨true, mrg op a.clean.binds b.clean.binds⟩
structure OpOk (op : Vl -> Vl -> Vl) : Prop where
 tidy : ∀ x y, x.tidy -> y.tidy -> (op x y).tidy
 zero : op Vl.zero Vl.zero = Vl.zero
theorem zip_lk {op : Vl -> Vl -> Vl} (a b : En) (s : ByteArray) : lk (En.zipE op a b).binds s = zipV op ((a.hold s).map Vl.of) ((b.hold s).map Vl.of) := by
 show lk (mrg op a.clean.binds b.clean.binds) s = _
 rw [lk_mrg (clean_ss a) (clean_ss b), clean_lk, clean_lk]
theorem zip_val {op : Vl -> Vl -> Vl} (h : OpOk op) (a b : En) (x : Bd) (hx : x ∈ (En.zipE op a b).binds) : x.v.tidy := by
 have hs : SS (En.zipE op a b).binds := ss_mrg (clean_ss a) (clean_ss b)
 have := lk_of_mem hs hx
 rw [zip_lk] at this
 cases h1 : (a.hold x.name).map Vl.of with
 | none =>
   rw [h1] at this
   cases h2 : (b.hold x.name).map Vl.of with
   | none => rw [h2] at this; cases this
   | some w =>
     rw [h2] at this
     obtain ⟨w', _, rfl⟩ := Option.map_eq_some_iff.1 h2
     have := Option.some.inj this
     rw [<- this]; exact h.tidy _ _ Vl.zero_tidy (Vl.of_tidy _)
 | some v =>
   rw [h1] at this
   obtain ⟨v', _, rfl⟩ := Option.map_eq_some_iff.1 h1
   cases h2 : (b.hold x.name).map Vl.of with
   | none =>
     rw [h2] at this
     have := Option.some.inj this
     rw [<- this]; exact h.tidy _ _ (Vl.of_tidy _) Vl.zero_tidy
   | some w =>
     rw [h2] at this
     obtain ⟨w', _, rfl⟩ := Option.map_eq_some_iff.1 h2
     have := Option.some.inj this
     rw [<- this]; exact h.tidy _ _ (Vl.of_tidy _) (Vl.of_tidy _)
theorem zip_tidy {op : Vl -> Vl -> Vl} (h : OpOk op) (a b : En) : (En.zipE op a b).tidy where
 s := ss_mrg (clean_ss a) (clean_ss b)
 v := zip_val h a b
 dead h := by cases h
theorem zip_get {op : Vl -> Vl -> Vl} (h : OpOk op) (a b : En) (s : ByteArray) : En.get (En.zipE op a b) s = op (En.get a s) (En.get b s) := by
 have e : (En.zipE op a b).hold s = zipV op ((a.hold s).map Vl.of) ((b.hold s).map Vl.of) := by
  show (if true = true then lk (En.zipE op a b).binds s else none) = _
  rw [if_pos rfl, zip_lk]
 rw [get_lk, get_lk a, get_lk b, e]
 have o0 := of_zero
 cases a.hold s with
 | none =>
   cases b.hold s with
   | none => exact h.zero.symm
   | some w => exact Vl.of_fix (h.tidy _ _ Vl.zero_tidy (Vl.of_tidy _))
 | some v =>
   cases b.hold s with
   | none => exact Vl.of_fix (h.tidy _ _ (Vl.of_tidy _) Vl.zero_tidy)
   | some w => exact Vl.of_fix (h.tidy _ _ (Vl.of_tidy _) (Vl.of_tidy _))
theorem join_case (a b : En) : En.join a b = if a.live = true then (if b.live = true then En.zipE Vl.join a b else a.clean) else b.clean := by
 unfold En.join; rw [eclean_live, eclean_live]; rfl
theorem widen_case (a b : En) (l : List Int) : En.widen a b l = if a.live = true then (if b.live = true then En.zipE (fun x y => Vl.widen x y l) a b else a.clean) else b.clean := by
 unfold En.widen; rw [eclean_live, eclean_live]; rfl
theorem leq_rleq (a b : En) : En.leq a b = En.rleq a b := by
 unfold En.leq En.rleq
 rw [eclean_live, eclean_live]
 split
 . split
   . rename_i hb
     rw [hb, Bool.and_true, clean_rclean]
     show List.all (List.map _ _) _ = _
     rw [List.all_map]
     congr 1
     funext n
     show Vl.leq (a.rget n) (En.get b.clean n) = Vl.rleq (a.rget n) (b.rget n)
     rw [get_clean, leq_eq, get_rget]
     have e : ∀ e : En, (e.rget n).rclean = e.rget n := fun e => by rw [get_rg, <- of_fun, get_of]
     rw [e, e]
   . rename_i hb
     have hb : b.live = false := by simpa using hb
     rw [hb, Bool.and_false]
 . rfl
theorem narrow_case (a b : En) : En.narrow a b = if a.live = true then (if b.live = true then (if En.rleq b a = true then En.zipE Vl.narrow a b else a.clean) else ⟨false, []⟩) else b.clean := by
 unfold En.narrow; rw [eclean_live, eclean_live, leq_rleq]
 have e : En.rleq b.clean a.clean = En.rleq b a := by
  rw [<- leq_rleq, <- leq_rleq]
  unfold En.leq
  rw [clean_fixE (clean_tidyE b), clean_fixE (clean_tidyE a)]
 rw [e]; rfl
theorem leqE_iff (a b : En) : En.leq a b = true ↔ (a.live = true -> b.live = true /\ ∀ s, Vl.leq (a.get s) (b.get s) = true) := by
 unfold En.leq
 rw [eclean_live, eclean_live]
 split
 . rename_i ha
   split
   . rename_i hb
     rw [List.all_eq_true]
     constructor
     . intro h _
       refine ⟨hb, fun s => ?_⟩
       have hg : a.get s = ((lk a.clean.binds s)).getD Vl.zero := by rw [get_lk, clean_lk]
       cases hl : lk a.clean.binds s with
       | none => rw [hg, hl]; exact Vl.l3_zero _
       | some v =>
         have := h _ (lk_mem hl)
         rw [get_clean] at this
         rw [hg, hl]; exact this
     . intro h x hx
       have := (h ha).2 x.name
       have hg : a.get x.name = ((lk a.clean.binds x.name)).getD Vl.zero := by rw [get_lk, clean_lk]
       rw [hg, lk_of_mem (clean_ss a) hx] at this
       rw [get_clean]; exact this
   . rename_i hb
     constructor
     . intro h; cases h
     . intro h; exact absurd (h ha).1 hb
 . rename_i ha
   exact ⟨fun _ h => absurd h ha, fun _ => rfl⟩
theorem zero_join (x : Vl) (h : x.tidy) : Vl.join Vl.zero x = x /\ Vl.join x Vl.zero = x := by
 have key : Vl.join Vl.zero x = x := by
  unfold Vl.join
  rw [Vl.of_fix Vl.zero_tidy, Vl.of_fix h]
  have e1 : Vl.zero.i.c.join x.i.c = x.i.c := join_no1 rfl (tidy_c h.i)
  have e2 : Vl.zero.i.s.join x.i.s = x.i.s := by
   show x.i.s.clean = x.i.s
   rcases h.i with e | ⟨⟨a1, _⟩, a3, _⟩
   . rw [e]; rfl
   . unfold Sp.clean Sp.none; rw [a1, if_neg]; simp; omega
  have e3 : ofS (ofS Vl.zero.t.names ++ ofS x.t.names) = x.t.names := by
   show ofS (ofS [] ++ ofS x.t.names) = _
   rw [ofS_eq, ofS_eq, ofS_eq, cleanS_fix h.t]
   exact cleanS_fix h.t
  rw [e1, e2, e3]; rfl
 exact ⟨key, by rw [Vl.l3_comm]; exact key⟩
theorem zero_narrow : Vl.narrow Vl.zero Vl.zero = Vl.zero := by
 have h1 : Vl.none Vl.zero = true := by
  unfold Vl.none
  rw [Vl.of_fix Vl.zero_tidy, ofS_eq]; rfl
 rw [Vl.narrow_cases, Vl.l3_zero, h1]; rfl
theorem widen_zero (l : List Int) : Vl.widen Vl.zero Vl.zero l = Vl.zero := by
 unfold Vl.widen
 rw [Vl.of_fix Vl.zero_tidy]
 have e1 : Vl.zero.i.c.join Vl.zero.i.c = Vl.zero.i.c := join_no1 rfl (.inl rfl)
 have e3 : ofS (ofS Vl.zero.t.names ++ ofS Vl.zero.t.names) = Vl.zero.t.names := by
  show ofS (ofS [] ++ ofS []) = _
  rw [ofS_eq, ofS_eq]; rfl
 rw [e1, e3]; rfl
theorem opJ : OpOk Vl.join := ⟨fun x y _ _ => Vl.jn_tidy x y, (zero_join _ Vl.zero_tidy).1⟩
theorem opN : OpOk Vl.narrow := ⟨fun x y _ _ => Vl.narrow_tidy x y, zero_narrow⟩
theorem get_dead {e : En} (h : e.live = false) (s : ByteArray) : e.get s = Vl.zero := by
 rw [get_lk]; unfold En.hold; rw [if_neg (by rw [h]; exact Bool.false_ne_true)]; rfl
theorem join_get (a b : En) (s : ByteArray) : (En.join a b).get s = Vl.join (a.get s) (b.get s) := by
 rw [join_case]
 split
 . split
   . exact zip_get opJ a b s
   . rename_i hb
     rw [get_clean, get_dead (e := b) (by simpa using hb), (zero_join _ (get_tidy a s)).2]
 . rename_i ha
   rw [get_clean, get_dead (e := a) (by simpa using ha), (zero_join _ (get_tidy b s)).1]
theorem join_live (a b : En) : (En.join a b).live = (a.live || b.live) := by
 rw [join_case]
 cases ha : a.live <;> cases hb : b.live <;> simp [eclean_live, ha, hb, En.zipE]
theorem join_tidyE (a b : En) : (En.join a b).tidy := by
 rw [join_case]
 split
 . split
   . exact zip_tidy opJ a b
   . exact clean_tidyE a
 . exact clean_tidyE b
theorem en_get_ext {a b : En} (ha : a.tidy) (hb : b.tidy) (hl : a.live = b.live) (hs : ∀ s, lk a.binds s = lk b.binds s) : a = b := en_ext hl ha.s hb.s hs
theorem join_commE (a b : En) : En.join a b = En.join b a := by
 refine en_get_ext (join_tidyE a b) (join_tidyE b a) (by rw [join_live, join_live, Bool.or_comm]) fun s => ?_
 rw [join_case, join_case]
 cases ha : a.live <;> cases hb : b.live
 . simp only [Bool.false_eq_true, if_false]
   rw [clean_lk, clean_lk]; unfold En.hold; rw [ha, hb]; rfl
 . rfl
 . rfl
 . simp only [if_true]
   rw [zip_lk, zip_lk]
   cases a.hold s <;> cases b.hold s <;> first | rfl | exact congrArg some (Vl.l3_comm _ _)
theorem leqE_refl (a : En) : En.leq a a = true := (leqE_iff a a).2 fun h => ⟨h, fun s => Vl.l3_refl _⟩
theorem leqE_trans {a b c : En} (h1 : En.leq a b = true) (h2 : En.leq b c = true) : En.leq a c = true := by
 rw [leqE_iff] at *
 intro h
 obtain ⟨hb, g1⟩ := h1 h
 obtain ⟨hc, g2⟩ := h2 hb
 exact ⟨hc, fun s => Vl.l3_trans (g1 s) (g2 s)⟩
theorem leqE_join1 (a b : En) : En.leq a (En.join a b) = true := by
 rw [leqE_iff]
 intro h
 refine ⟨by rw [join_live, h]; rfl, fun s => ?_⟩
 rw [join_get]; exact Vl.l3_join1 _ _
theorem leqE_dead {a b : En} (h : a.live = false) : En.leq a b = true := (leqE_iff a b).2 fun h2 => by rw [h] at h2; cases h2
def inRE (e : En) : Prop := ∀ x ∈ e.binds, x.v.inR
theorem get_inR {e : En} (h : inRE e) (s : ByteArray) : (e.get s).inR := by
 rw [get_lk]
 cases hh : e.hold s with
 | none => show Vl.zero.inR; unfold Vl.inR Vl.zero Ig.zero Sp.inR Cg.inR; decide
 | some v =>
   unfold En.hold at hh
   split at hh
   . exact Vl.of_inR (h _ (lk_mem hh))
   . cases hh
theorem leqE_widen {a b : En} {l : List Int} (hb : inRE b) : En.leq (En.join a b) (En.widen a b l) = true := by
 rw [join_case, widen_case]
 split
 . split
   . rename_i ha hb'
     rw [leqE_iff]
     intro _
     refine ⟨rfl, fun s => ?_⟩
     rw [zip_get opJ]
     -- widened values are told as they stand, where the second one's numbers are in their limits
     have hg : En.get (En.zipE (fun x y => Vl.widen x y l) a b) s = Vl.widen (a.get s) (b.get s) l := by
      have e : (En.zipE (fun x y => Vl.widen x y l) a b).hold s = zipV (fun x y => Vl.widen x y l) ((a.hold s).map Vl.of) ((b.hold s).map Vl.of) := by
       show (if true = true then lk (En.zipE _ a b).binds s else none) = _
       rw [if_pos rfl, zip_lk]
      rw [get_lk, get_lk a, get_lk b, e]
      have hz : Vl.inR Vl.zero := by unfold Vl.inR Vl.zero Ig.zero Sp.inR Cg.inR; decide
      have hbi : ∀ w, b.hold s = some w -> w.of.inR := by
       intro w hw
       unfold En.hold at hw
       rw [if_pos hb'] at hw
       exact Vl.of_inR (hb _ (lk_mem hw))
      cases ea : a.hold s with
      | none =>
        cases eb : b.hold s with
        | none => exact (widen_zero l).symm
        | some w => exact Vl.of_fix (Vl.widen_tidy (hbi w eb))
      | some v =>
        cases eb : b.hold s with
        | none => exact Vl.of_fix (Vl.widen_tidy hz)
        | some w => exact Vl.of_fix (Vl.widen_tidy (hbi w eb))
     rw [hg]
     exact Vl.l3_widen (get_inR hb s)
   . exact leqE_refl _
 . exact leqE_refl _
theorem leqE_narrow {a j : En} (h : En.leq a j = true) (ha : a.live = true) : En.leq a (En.narrow j a) = true /\ En.leq (En.narrow j a) j = true := by
 have hj := ((leqE_iff a j).1 h ha).1
 have hp := ((leqE_iff a j).1 h ha).2
 rw [narrow_case, if_pos hj, if_pos ha, if_pos (by rw [<- leq_rleq]; exact h)]
 constructor
 . rw [leqE_iff]
   intro _
   refine ⟨rfl, fun s => ?_⟩
   rw [zip_get opN]; exact Vl.l3_narrow1 (hp s)
 . rw [leqE_iff]
   intro _
   refine ⟨hj, fun s => ?_⟩
   rw [zip_get opN]; exact Vl.l3_narrow2 _ _
abbrev numV (n : Int) : Vl := ⟨⟨Sp.of n n, Cg.of 0 n⟩, ⟨false, gN 0 fun _ => []⟩⟩
theorem num_of_i (n : Int) : (numV n).of.i = ⟨⟨true, n, n⟩, ⟨true, 0, n⟩⟩ := by
 rw [of_rclean]
 show Ig.clean ⟨Sp.of n n, Cg.of 0 n⟩ = _
 rw [one_eq]
 exact tidy_fix (one_tidy n)
theorem mrg_mem {op : Vl -> Vl -> Vl} : ∀ {A B : List Bd} {b : Bd}, b ∈ mrg op A B -> (∃ x ∈ A, b.v = op x.v Vl.zero) \/ (∃ y ∈ B, b.v = op Vl.zero y.v) \/ ∃ x ∈ A, ∃ y ∈ B, b.v = op x.v y.v
 | [], [], b, h => by rw [mrg] at h; cases h
 | [], y :: r, b, h => by
   rw [mrg] at h
   rcases List.mem_cons.1 h with rfl | h
   . exact .inr (.inl ⟨y, List.mem_cons_self, rfl⟩)
   . rcases mrg_mem h with ⟨x, hx, _⟩ | ⟨z, hz, e⟩ | ⟨x, hx, _⟩
     . cases hx
     . exact .inr (.inl ⟨z, List.mem_cons_of_mem _ hz, e⟩)
     . cases hx
 | x :: r, [], b, h => by
   rw [mrg] at h
   rcases List.mem_cons.1 h with rfl | h
   . exact .inl ⟨x, List.mem_cons_self, rfl⟩
   . rcases mrg_mem h with ⟨z, hz, e⟩ | ⟨z, hz, _⟩ | ⟨_, _, z, hz, _⟩
     . exact .inl ⟨z, List.mem_cons_of_mem _ hz, e⟩
     . cases hz
     . cases hz
 | x :: r, y :: q, b, h => by
   rw [mrg] at h
   split at h
   . rcases List.mem_cons.1 h with rfl | h
     . exact .inl ⟨x, List.mem_cons_self, rfl⟩
     . rcases mrg_mem h with ⟨z, hz, e⟩ | h | ⟨z, hz, w, hw, e⟩
       . exact .inl ⟨z, List.mem_cons_of_mem _ hz, e⟩
       . exact .inr (.inl h)
       . exact .inr (.inr ⟨z, List.mem_cons_of_mem _ hz, w, hw, e⟩)
   . split at h
     . rcases List.mem_cons.1 h with rfl | h
       . exact .inr (.inl ⟨y, List.mem_cons_self, rfl⟩)
       . rcases mrg_mem h with h | ⟨z, hz, e⟩ | ⟨z, hz, w, hw, e⟩
         . exact .inl h
         . exact .inr (.inl ⟨z, List.mem_cons_of_mem _ hz, e⟩)
         . exact .inr (.inr ⟨z, hz, w, List.mem_cons_of_mem _ hw, e⟩)
     . rcases List.mem_cons.1 h with rfl | h
       . exact .inr (.inr ⟨x, List.mem_cons_self, y, List.mem_cons_self, rfl⟩)
       . rcases mrg_mem h with ⟨z, hz, e⟩ | ⟨z, hz, e⟩ | ⟨z, hz, w, hw, e⟩
         . exact .inl ⟨z, List.mem_cons_of_mem _ hz, e⟩
         . exact .inr (.inl ⟨z, List.mem_cons_of_mem _ hz, e⟩)
         . exact .inr (.inr ⟨z, List.mem_cons_of_mem _ hz, w, List.mem_cons_of_mem _ hw, e⟩)
termination_by A B => A.length + B.length
theorem okL_mrg {op : Vl -> Vl -> Vl} {Q : Vl -> Vl -> Prop} {A B : List Bd} (hA : okL A) (hB : okL B) (hq : QOk Q A B) (h : ∀ x y, okV x -> okV y -> Q x y -> okV (op x y)) : okL (mrg op A B) := by
 intro b hb
 show okV b.v
 rcases mrg_mem hb with ⟨x, hx, e⟩ | ⟨y, hy, e⟩ | ⟨x, hx, y, hy, e⟩
 . rw [e]; exact h _ _ (hA x hx) okV_zero (hq.left x hx)
 . rw [e]; exact h _ _ okV_zero (hB y hy) (hq.right y hy)
 . rw [e]; exact h _ _ (hA x hx) (hB y hy) (hq.both x hx y hy)
theorem join_okL {a b : En} (ha : okL a.binds) (hb : okL b.binds) (hr : Room a.binds b.binds) : okL (En.join a b).binds := by
 unfold En.join
 split
 . split
   . exact okL_mrg (clean_ok ha) (clean_ok hb) (room_clean hr) fun x y hx hy hq => by rw [Vl.join_eq]; exact okV_rj hx hy hq
   . exact clean_ok ha
 . exact clean_ok hb
theorem widen_okL {a b : En} {l : List Int} (ha : okL a.binds) (hb : okL b.binds) (hr : Room a.binds b.binds) (hl : ∀ z, z ∈ l -> rI z) : okL (En.widen a b l).binds := by
 unfold En.widen
 split
 . split
   . exact okL_mrg (clean_ok ha) (clean_ok hb) (room_clean hr) fun x y hx hy hq => by rw [widen_eq]; exact okV_rw hx hy hq hl
   . exact clean_ok ha
 . exact clean_ok hb
theorem narrow_okL {a b : En} (ha : okL a.binds) (hb : okL b.binds) : okL (En.narrow a b).binds := by
 unfold En.narrow
 split
 . split
   . split
     . exact okL_mrg (Q := QT) (clean_ok ha) (clean_ok hb) (qt_ok _ _) fun x y hx hy _ => by rw [narrow_eq]; exact okV_rn hx hy
     . exact clean_ok ha
   . intro x hx; cases hx
 . exact clean_ok hb
theorem join_len (a b : En) : (En.join a b).binds.length <= a.binds.length + b.binds.length := by
 have h1 := clean_len a
 have h2 := clean_len b
 unfold En.join
 split
 . split
   . have := mrg_len (op := Vl.join) a.clean.binds b.clean.binds
     show (mrg _ _ _).length <= _; omega
   . omega
 . omega
theorem widen_len (a b : En) (l : List Int) : (En.widen a b l).binds.length <= a.binds.length + b.binds.length := by
 have h1 := clean_len a
 have h2 := clean_len b
 unfold En.widen
 split
 . split
   . have := mrg_len (op := fun x y => Vl.widen x y l) a.clean.binds b.clean.binds
     show (mrg _ _ _).length <= _; omega
   . omega
 . omega
theorem narrow_len (a b : En) : (En.narrow a b).binds.length <= a.binds.length + b.binds.length := by
 have h1 := clean_len a
 have h2 := clean_len b
 unfold En.narrow
 split
 . split
   . split
     . have := mrg_len (op := Vl.narrow) a.clean.binds b.clean.binds
       show (mrg _ _ _).length <= _; omega
     . omega
   . exact Nat.zero_le _
 . omega
theorem inRE_of {e : En} (h : okL e.binds) : inRE e := fun x hx => by have := (h x hx).2; exact this
end Go.Proofs.YthkknkhpfffnbaaGreat
