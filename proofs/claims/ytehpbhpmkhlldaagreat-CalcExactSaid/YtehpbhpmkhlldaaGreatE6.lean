/- What spans come to: rests, all of it. No condition. -/
import Derived.Test.YtehpbhpmkhlldaaGreatE5
set_option linter.all false
set_option maxHeartbeats 8000000
set_option maxRecDepth 100000
namespace Go.Proofs.YtehpbhpmkhlldaaGreat
open Go.Sx
theorem rest_m {b : Sp} (hb : b.inR) : clampI (wd ((maxW (wd (absI b.lo)) (wd (absI b.hi))).val - (wd 1).val)).val = restM b := by
 obtain ⟨⟨a1, a2⟩, a3, a4⟩ := hb
 have r1 : 0 <= absI b.lo /\ absI b.lo <= 9223372036854775808 := by unfold absI; split <;> omega
 have r2 : 0 <= absI b.hi /\ absI b.hi <= 9223372036854775808 := by unfold absI; split <;> omega
 have e : (maxW (wd (absI b.lo)) (wd (absI b.hi))).val = restM b + 1 := by
  unfold maxW wCmp restM
  rw [wd_val (by omega) (by omega), wd_val (by omega) (by omega)]
  (repeat' split) <;> first | omega | (rw [wd_val (by omega) (by omega)]; omega)
 rw [e, show (wd 1).val = 1 from rfl, Int.add_sub_cancel]
 have r3 : -1 <= restM b /\ restM b < 9223372036854775808 := by unfold restM; split <;> omega
 rw [wd_val (by omega) (by omega)]
 have hB : wIntB (restM b) = true := by unfold wIntB; simp; omega
 have hV : wIntV (restM b) = restM b := by unfold wIntV; rw [if_pos (by omega)]
 unfold clampI
 rw [if_pos hB, hV]
theorem doI_rng {op a b : Int} (ra : -9223372036854775808 <= a /\ a < 9223372036854775808) : -9223372036854775808 <= doI op a b /\ doI op a b < 9223372036854775808 := by
 unfold doI
 split
 . exact wr_r _
 . split
   . split
     . decide
     . exact wr_r _
   . split
     . split
       . decide
       . rename_i hb
         by_cases hm : -9223372036854775808 <= b /\ b <= 9223372036854775808
         . have h1 := tm_bound (x := a) (m := 9223372036854775808) hb (by omega) (by omega)
           rcases Int.le_total 0 a with h | h
           . have := h1.1 h; omega
           . have := h1.2 h; omega
         . have h1 := tm_bound (x := a) (m := b + -b + (if 0 < b then b else -b)) hb (by split <;> omega) (by split <;> omega)
           rcases Int.le_total 0 a with h | h
           . have := h1.1 h; omega
           . have := h1.2 h; omega
     . split
       . split <;> decide
       . decide
section
variable {a b : Sp}
theorem rs_0 (h : (parts b).isEmpty = true) : restS a b = noS := by unfold restS; rw [if_pos h]
theorem rs_1 (h : (parts b).isEmpty = false) (h1 : (a.lo == a.hi) = true) (h2 : (b.lo == b.hi) = true) : restS a b = Sp.of (doI 9 a.lo b.lo) (doI 9 a.lo b.lo) := by
 unfold restS; rw [if_neg (by rw [h]; decide), if_pos ⟨eq_of_beq h1, eq_of_beq h2⟩]
def mxI (x c : Int) : Int := if IntKind.wrap .i64 (0 - c) > x then IntKind.wrap .i64 (0 - c) else x
def mnI (c x : Int) : Int := if c < x then c else x
theorem restM_r (hb : b.inR) : -1 <= restM b /\ restM b < 9223372036854775808 := by
 obtain ⟨⟨a1, a2⟩, a3, a4⟩ := hb
 have r1 : 0 <= absI b.lo /\ absI b.lo <= 9223372036854775808 := by unfold absI; split <;> omega
 have r2 : 0 <= absI b.hi /\ absI b.hi <= 9223372036854775808 := by unfold absI; split <;> omega
 unfold restM; split <;> omega
theorem rs_2 {c : Int} (h : (parts b).isEmpty = false) (h1 : (a.lo == a.hi) = false \/ (b.lo == b.hi) = false) (hb : b.inR) (hc : c = restM b) : restS a b = Sp.of (if a.lo < 0 then mxI a.lo c else 0) (if 0 < a.hi then mnI c a.hi else 0) := by
 have hr := restM_r hb
 unfold restS mxI mnI; rw [if_neg (by rw [h]; decide), if_neg (by rintro ⟨x, y⟩; rcases h1 with k | k <;> exact (ne_of_beq_false k) (by assumption)), hc, wI_id (0 - restM b) (by omega) (by omega)]
 congr 1
 split
 . split <;> split <;> omega
 . rfl
theorem rs_tt {c : Int} (h : (parts b).isEmpty = false) (h1 : (a.lo == a.hi) = false \/ (b.lo == b.hi) = false) (hb : b.inR) (hc : c = restM b) (k1 : decide (a.lo < 0) = true) (k2 : decide (a.hi > 0) = true) : restS a b = Sp.of (mxI a.lo c) (mnI c a.hi) := by
 rw [rs_2 h h1 hb hc, if_pos (of_decide_eq_true k1), if_pos (of_decide_eq_true k2)]
theorem rs_tf {c : Int} (h : (parts b).isEmpty = false) (h1 : (a.lo == a.hi) = false \/ (b.lo == b.hi) = false) (hb : b.inR) (hc : c = restM b) (k1 : decide (a.lo < 0) = true) (k2 : decide (a.hi > 0) = false) : restS a b = Sp.of (mxI a.lo c) 0 := by
 rw [rs_2 h h1 hb hc, if_pos (of_decide_eq_true k1), if_neg (of_decide_eq_false k2)]
theorem rs_ft {c : Int} (h : (parts b).isEmpty = false) (h1 : (a.lo == a.hi) = false \/ (b.lo == b.hi) = false) (hb : b.inR) (hc : c = restM b) (k1 : decide (a.lo < 0) = false) (k2 : decide (a.hi > 0) = true) : restS a b = Sp.of 0 (mnI c a.hi) := by
 rw [rs_2 h h1 hb hc, if_neg (of_decide_eq_false k1), if_pos (of_decide_eq_true k2)]
theorem rs_ff {c : Int} (h : (parts b).isEmpty = false) (h1 : (a.lo == a.hi) = false \/ (b.lo == b.hi) = false) (hb : b.inR) (hc : c = restM b) (k1 : decide (a.lo < 0) = false) (k2 : decide (a.hi > 0) = false) : restS a b = Sp.of 0 0 := by
 rw [rs_2 h h1 hb hc, if_neg (of_decide_eq_false k1), if_neg (of_decide_eq_false k2)]
theorem mx_r {c x : Int} (hx : -9223372036854775808 <= x /\ x < 9223372036854775808) (hb : b.inR) (hc : c = restM b) : -9223372036854775808 <= mxI x c /\ mxI x c < 9223372036854775808 := by
 have hr := restM_r hb
 unfold mxI; rw [hc, wI_id (0 - restM b) (by omega) (by omega)]; split <;> omega
theorem mn_r {c x : Int} (hx : -9223372036854775808 <= x /\ x < 9223372036854775808) (hb : b.inR) (hc : c = restM b) : -9223372036854775808 <= mnI c x /\ mnI c x < 9223372036854775808 := by
 have hr := restM_r hb
 unfold mnI; rw [hc]; split <;> omega
theorem or1 {p q : Prop} (h : p) : p \/ q := .inl h
theorem or2 {p q : Prop} (h : q) : p \/ q := .inr h
end
section
variable {op : Int} {a b : Sp}
theorem rd_n1 (h : a.none = true) : rkDo op a b = noS := by unfold rkDo; rw [if_pos (by rw [h]; rfl)]
theorem rd_n2 (h : b.none = true) : rkDo op a b = noS := by unfold rkDo; rw [if_pos (by rw [h, Bool.or_true])]
theorem rd_i (h : a.none = false) (h2 : b.none = false) : (a.none || b.none) ≠ true := by rw [h, h2]; decide
theorem rd_e (h : a.none = false) (h2 : b.none = false) (he : exB op = true) : rkDo op a b = around (corners (exI op) a b) := by unfold rkDo; rw [if_neg (rd_i h h2), if_pos he]
theorem rd_8 (h : a.none = false) (h2 : b.none = false) : rkDo 8 a b = divS a b := by unfold rkDo; rw [if_neg (rd_i h h2), if_neg (by decide), if_pos rfl]
theorem rd_9 (h : a.none = false) (h2 : b.none = false) : rkDo 9 a b = restS a b := by unfold rkDo; rw [if_neg (rd_i h h2), if_neg (by decide), if_neg (by decide), if_pos rfl]
theorem rd_c (h : a.none = false) (h2 : b.none = false) (e : op ≠ 10 /\ op ≠ 11 /\ op ≠ 7 /\ op ≠ 8 /\ op ≠ 9) : rkDo op a b = cmpS op a b := by
 unfold rkDo; rw [if_neg (rd_i h h2), if_neg (by unfold exB; simp; omega), if_neg e.2.2.2.1, if_neg e.2.2.2.2]
end
theorem crn_e {op : Int} {a b : Sp} (ha : a.inR) (hb : b.inR) : valsW 4 (rwW (crn (exI op) a b)) = corners (exI op) a b /\ Wrg 4 (rwW (crn (exI op) a b)) :=
 rw_vals (ex_rng ha.1 hb.1) (ex_rng ha.1 hb.2) (ex_rng ha.2 hb.1) (ex_rng ha.2 hb.2)
def FReRest : List Ar -> Option Rs
 | [.agg [.d (.v (.bool s0)), .d (.v (.int .i64 l0)), .d (.v (.int .i64 h0))], .agg [.d (.v (.bool s1)), .d (.v (.int .i64 l1)), .d (.v (.int .i64 h1))]] => some ⟨(Sp.inR ⟨s0, l0, h0⟩) /\ (Sp.inR ⟨s1, l1, h1⟩), .va (Sp.ar (restS (⟨s0, l0, h0⟩ : Sp) (⟨s1, l1, h1⟩ : Sp))), []⟩
 | _ => none
theorem fcReRest : FC Tryz.prog 144 FReRest := by
 intro xs pre r us h hp
 unfold FReRest at h
 split at h
 . rename_i s0 l0 h0 s1 l1 h1
   cases h
   obtain ⟨hp0, hp1⟩ := hp
   refine fcat tys_ok (l := [(165, ⟨[], (FReParts (parts (⟨s1, l1, h1⟩ : Sp)) (parts (⟨s1, l1, h1⟩ : Sp)).length)⟩), (146, ⟨[], FXDo⟩), (63, ⟨[], FSOne⟩), (168, ⟨[], FReSize⟩), (122, ⟨[], FWOf⟩), (123, ⟨[], FWMax⟩), (121, ⟨[], FWSub⟩), (167, ⟨[], FWClamp⟩), (85, ⟨[], FSOf⟩)]) ⟨(fcReParts (parts (⟨s1, l1, h1⟩ : Sp)) (parts (⟨s1, l1, h1⟩ : Sp)).length), fcXDo, fcSOne, fcReSize, fcWOf, fcWMax, fcWSub, fcWClamp, fcSOf, trivial⟩ Tryz.func144 rfl (by kernel_rfl) true ?_
   have hm := rest_m hp1
   have hB := hp1
   have hpp := And.intro hp1 (And.intro (rfl : (parts (⟨s1, l1, h1⟩ : Sp)) = (parts (⟨s1, l1, h1⟩ : Sp))) (rfl : (parts (⟨s1, l1, h1⟩ : Sp)).length = (parts (⟨s1, l1, h1⟩ : Sp)).length))
   unfold Sp.inR at hp0 hp1
   generalize hL : (parts (⟨s1, l1, h1⟩ : Sp)).length = k at *
   have hE : (parts (⟨s1, l1, h1⟩ : Sp)).isEmpty = (k == 0) := by rw [<- hL]; cases (parts (⟨s1, l1, h1⟩ : Sp)) <;> rfl
   cases hk : ((k : Int) == 0)
   all_goals (have hE2 : (parts (⟨s1, l1, h1⟩ : Sp)).isEmpty = decide (k = 0) := by rw [hE]; rfl)
   . have hE3 : (parts (⟨s1, l1, h1⟩ : Sp)).isEmpty = false := by rw [hE2, decide_eq_false]; exact fun h => ne_of_beq_false hk (by rw [h]; rfl)
     repeat' (first | exact trivial | (with_reducible first | exact hp0 | exact hp1 | exact hp2 | exact hp0.1 | exact hp0.2 | exact hp1.1 | exact hp1.2 | exact hp2.1 | exact hp2.2 | exact wd_ok _ | exact (wd_ok _).1.1 | exact (wd_ok _).1.2 | exact (wd_ok _).2.1 | exact (wd_ok _).2.2 | exact (fun h : false = true => absurd h (by decide)) | exact (fun h : true = false => absurd h (by decide)) | exact hpp | exact (fun h => absurd (hk.symm.trans h) (by decide))) | refine ⟨?_, ?_⟩ | intro _)
     all_goals first | (with_reducible first | apply qa | apply qb | apply qc | apply qd) | (conv => whnf)
     all_goals first | decide | exact hL | (with_reducible rfl) | (have o1 := ‹(l0 == h0) = true›; have o2 := ‹(l1 == h1) = true›; first | ((with_reducible show Value.bool (Sp.some _) = _); exact congrArg (fun i : Sp => Value.bool i.some) ((rs_1 (a := ⟨s0, l0, h0⟩) (b := ⟨s1, l1, h1⟩) hE3 o1 o2).symm)) | ((with_reducible show Value.int _ (Sp.lo _) = _); exact congrArg (fun i : Sp => Value.int .i64 i.lo) ((rs_1 (a := ⟨s0, l0, h0⟩) (b := ⟨s1, l1, h1⟩) hE3 o1 o2).symm)) | ((with_reducible show Value.int _ (Sp.hi _) = _); exact congrArg (fun i : Sp => Value.int .i64 i.hi) ((rs_1 (a := ⟨s0, l0, h0⟩) (b := ⟨s1, l1, h1⟩) hE3 o1 o2).symm))) | ((with_reducible show Value.bool false = _); exact congrArg (fun i : Sp => Value.bool i.some) ((rs_0 hE3).symm)) | ((with_reducible show Value.int _ 0 = _); first | exact congrArg (fun i : Sp => Value.int .i64 i.lo) ((rs_0 hE3).symm) | exact congrArg (fun i : Sp => Value.int .i64 i.hi) ((rs_0 hE3).symm)) | (have k1 := ‹decide (l0 < 0) = true›; have k2 := ‹decide (h0 > 0) = true›; have o := ‹(l0 == h0) = false›; first | ((with_reducible show Value.bool (Sp.some _) = _); exact congrArg (fun i : Sp => Value.bool i.some) ((rs_tt (a := ⟨s0, l0, h0⟩) (b := ⟨s1, l1, h1⟩) (c := _) hE3 (or1 o) hB hm k1 k2).symm)) | ((with_reducible show Value.int _ (Sp.lo _) = _); exact congrArg (fun i : Sp => Value.int .i64 i.lo) ((rs_tt (a := ⟨s0, l0, h0⟩) (b := ⟨s1, l1, h1⟩) (c := _) hE3 (or1 o) hB hm k1 k2).symm)) | ((with_reducible show Value.int _ (Sp.hi _) = _); exact congrArg (fun i : Sp => Value.int .i64 i.hi) ((rs_tt (a := ⟨s0, l0, h0⟩) (b := ⟨s1, l1, h1⟩) (c := _) hE3 (or1 o) hB hm k1 k2).symm))) | (have k1 := ‹decide (l0 < 0) = true›; have k2 := ‹decide (h0 > 0) = true›; have o := ‹(l1 == h1) = false›; first | ((with_reducible show Value.bool (Sp.some _) = _); exact congrArg (fun i : Sp => Value.bool i.some) ((rs_tt (a := ⟨s0, l0, h0⟩) (b := ⟨s1, l1, h1⟩) (c := _) hE3 (or2 o) hB hm k1 k2).symm)) | ((with_reducible show Value.int _ (Sp.lo _) = _); exact congrArg (fun i : Sp => Value.int .i64 i.lo) ((rs_tt (a := ⟨s0, l0, h0⟩) (b := ⟨s1, l1, h1⟩) (c := _) hE3 (or2 o) hB hm k1 k2).symm)) | ((with_reducible show Value.int _ (Sp.hi _) = _); exact congrArg (fun i : Sp => Value.int .i64 i.hi) ((rs_tt (a := ⟨s0, l0, h0⟩) (b := ⟨s1, l1, h1⟩) (c := _) hE3 (or2 o) hB hm k1 k2).symm))) | (have k1 := ‹decide (l0 < 0) = true›; have k2 := ‹decide (h0 > 0) = false›; have o := ‹(l0 == h0) = false›; first | ((with_reducible show Value.bool (Sp.some _) = _); exact congrArg (fun i : Sp => Value.bool i.some) ((rs_tf (a := ⟨s0, l0, h0⟩) (b := ⟨s1, l1, h1⟩) (c := _) hE3 (or1 o) hB hm k1 k2).symm)) | ((with_reducible show Value.int _ (Sp.lo _) = _); exact congrArg (fun i : Sp => Value.int .i64 i.lo) ((rs_tf (a := ⟨s0, l0, h0⟩) (b := ⟨s1, l1, h1⟩) (c := _) hE3 (or1 o) hB hm k1 k2).symm)) | ((with_reducible show Value.int _ (Sp.hi _) = _); exact congrArg (fun i : Sp => Value.int .i64 i.hi) ((rs_tf (a := ⟨s0, l0, h0⟩) (b := ⟨s1, l1, h1⟩) (c := _) hE3 (or1 o) hB hm k1 k2).symm))) | (have k1 := ‹decide (l0 < 0) = true›; have k2 := ‹decide (h0 > 0) = false›; have o := ‹(l1 == h1) = false›; first | ((with_reducible show Value.bool (Sp.some _) = _); exact congrArg (fun i : Sp => Value.bool i.some) ((rs_tf (a := ⟨s0, l0, h0⟩) (b := ⟨s1, l1, h1⟩) (c := _) hE3 (or2 o) hB hm k1 k2).symm)) | ((with_reducible show Value.int _ (Sp.lo _) = _); exact congrArg (fun i : Sp => Value.int .i64 i.lo) ((rs_tf (a := ⟨s0, l0, h0⟩) (b := ⟨s1, l1, h1⟩) (c := _) hE3 (or2 o) hB hm k1 k2).symm)) | ((with_reducible show Value.int _ (Sp.hi _) = _); exact congrArg (fun i : Sp => Value.int .i64 i.hi) ((rs_tf (a := ⟨s0, l0, h0⟩) (b := ⟨s1, l1, h1⟩) (c := _) hE3 (or2 o) hB hm k1 k2).symm))) | (have k1 := ‹decide (l0 < 0) = false›; have k2 := ‹decide (h0 > 0) = true›; have o := ‹(l0 == h0) = false›; first | ((with_reducible show Value.bool (Sp.some _) = _); exact congrArg (fun i : Sp => Value.bool i.some) ((rs_ft (a := ⟨s0, l0, h0⟩) (b := ⟨s1, l1, h1⟩) (c := _) hE3 (or1 o) hB hm k1 k2).symm)) | ((with_reducible show Value.int _ (Sp.lo _) = _); exact congrArg (fun i : Sp => Value.int .i64 i.lo) ((rs_ft (a := ⟨s0, l0, h0⟩) (b := ⟨s1, l1, h1⟩) (c := _) hE3 (or1 o) hB hm k1 k2).symm)) | ((with_reducible show Value.int _ (Sp.hi _) = _); exact congrArg (fun i : Sp => Value.int .i64 i.hi) ((rs_ft (a := ⟨s0, l0, h0⟩) (b := ⟨s1, l1, h1⟩) (c := _) hE3 (or1 o) hB hm k1 k2).symm))) | (have k1 := ‹decide (l0 < 0) = false›; have k2 := ‹decide (h0 > 0) = true›; have o := ‹(l1 == h1) = false›; first | ((with_reducible show Value.bool (Sp.some _) = _); exact congrArg (fun i : Sp => Value.bool i.some) ((rs_ft (a := ⟨s0, l0, h0⟩) (b := ⟨s1, l1, h1⟩) (c := _) hE3 (or2 o) hB hm k1 k2).symm)) | ((with_reducible show Value.int _ (Sp.lo _) = _); exact congrArg (fun i : Sp => Value.int .i64 i.lo) ((rs_ft (a := ⟨s0, l0, h0⟩) (b := ⟨s1, l1, h1⟩) (c := _) hE3 (or2 o) hB hm k1 k2).symm)) | ((with_reducible show Value.int _ (Sp.hi _) = _); exact congrArg (fun i : Sp => Value.int .i64 i.hi) ((rs_ft (a := ⟨s0, l0, h0⟩) (b := ⟨s1, l1, h1⟩) (c := _) hE3 (or2 o) hB hm k1 k2).symm))) | (have k1 := ‹decide (l0 < 0) = false›; have k2 := ‹decide (h0 > 0) = false›; have o := ‹(l0 == h0) = false›; first | ((with_reducible show Value.bool (Sp.some _) = _); exact congrArg (fun i : Sp => Value.bool i.some) ((rs_ff (a := ⟨s0, l0, h0⟩) (b := ⟨s1, l1, h1⟩) (c := _) hE3 (or1 o) hB hm k1 k2).symm)) | ((with_reducible show Value.int _ (Sp.lo _) = _); exact congrArg (fun i : Sp => Value.int .i64 i.lo) ((rs_ff (a := ⟨s0, l0, h0⟩) (b := ⟨s1, l1, h1⟩) (c := _) hE3 (or1 o) hB hm k1 k2).symm)) | ((with_reducible show Value.int _ (Sp.hi _) = _); exact congrArg (fun i : Sp => Value.int .i64 i.hi) ((rs_ff (a := ⟨s0, l0, h0⟩) (b := ⟨s1, l1, h1⟩) (c := _) hE3 (or1 o) hB hm k1 k2).symm))) | (have k1 := ‹decide (l0 < 0) = false›; have k2 := ‹decide (h0 > 0) = false›; have o := ‹(l1 == h1) = false›; first | ((with_reducible show Value.bool (Sp.some _) = _); exact congrArg (fun i : Sp => Value.bool i.some) ((rs_ff (a := ⟨s0, l0, h0⟩) (b := ⟨s1, l1, h1⟩) (c := _) hE3 (or2 o) hB hm k1 k2).symm)) | ((with_reducible show Value.int _ (Sp.lo _) = _); exact congrArg (fun i : Sp => Value.int .i64 i.lo) ((rs_ff (a := ⟨s0, l0, h0⟩) (b := ⟨s1, l1, h1⟩) (c := _) hE3 (or2 o) hB hm k1 k2).symm)) | ((with_reducible show Value.int _ (Sp.hi _) = _); exact congrArg (fun i : Sp => Value.int .i64 i.hi) ((rs_ff (a := ⟨s0, l0, h0⟩) (b := ⟨s1, l1, h1⟩) (c := _) hE3 (or2 o) hB hm k1 k2).symm))) | exact (doI_rng hp0.1).1 | exact (doI_rng hp0.1).2 | exact (mx_r hp0.1 hB hm).1 | exact (mx_r hp0.1 hB hm).2 | exact (mn_r hp0.2 hB hm).1 | exact (mn_r hp0.2 hB hm).2 | exact (wd_ok (absI h1)).1.1 | exact (wd_ok (absI h1)).1.2 | exact (wd_ok (absI h1)).2.1 | exact (wd_ok (absI h1)).2.2 | exact (maxW_ok (wd_ok (absI l1)) (wd_ok (absI h1))).1.1 | exact (maxW_ok (wd_ok (absI l1)) (wd_ok (absI h1))).1.2 | exact (maxW_ok (wd_ok (absI l1)) (wd_ok (absI h1))).2.1 | exact (maxW_ok (wd_ok (absI l1)) (wd_ok (absI h1))).2.2 | rfl
   . have hE3 : (parts (⟨s1, l1, h1⟩ : Sp)).isEmpty = true := by rw [hE2, decide_eq_true]; have := eq_of_beq hk; omega
     repeat' (first | exact trivial | (with_reducible first | exact hp0 | exact hp1 | exact hp2 | exact hp0.1 | exact hp0.2 | exact hp1.1 | exact hp1.2 | exact hp2.1 | exact hp2.2 | exact wd_ok _ | exact (wd_ok _).1.1 | exact (wd_ok _).1.2 | exact (wd_ok _).2.1 | exact (wd_ok _).2.2 | exact (fun h : false = true => absurd h (by decide)) | exact (fun h : true = false => absurd h (by decide)) | exact hpp | exact (fun h => absurd (hk.symm.trans h) (by decide))) | refine ⟨?_, ?_⟩ | intro _)
     all_goals first | (with_reducible first | apply qa | apply qb | apply qc | apply qd) | (conv => whnf)
     all_goals first | decide | exact hL | (with_reducible rfl) | (have o1 := ‹(l0 == h0) = true›; have o2 := ‹(l1 == h1) = true›; first | ((with_reducible show Value.bool (Sp.some _) = _); exact congrArg (fun i : Sp => Value.bool i.some) ((rs_1 (a := ⟨s0, l0, h0⟩) (b := ⟨s1, l1, h1⟩) hE3 o1 o2).symm)) | ((with_reducible show Value.int _ (Sp.lo _) = _); exact congrArg (fun i : Sp => Value.int .i64 i.lo) ((rs_1 (a := ⟨s0, l0, h0⟩) (b := ⟨s1, l1, h1⟩) hE3 o1 o2).symm)) | ((with_reducible show Value.int _ (Sp.hi _) = _); exact congrArg (fun i : Sp => Value.int .i64 i.hi) ((rs_1 (a := ⟨s0, l0, h0⟩) (b := ⟨s1, l1, h1⟩) hE3 o1 o2).symm))) | ((with_reducible show Value.bool false = _); exact congrArg (fun i : Sp => Value.bool i.some) ((rs_0 hE3).symm)) | ((with_reducible show Value.int _ 0 = _); first | exact congrArg (fun i : Sp => Value.int .i64 i.lo) ((rs_0 hE3).symm) | exact congrArg (fun i : Sp => Value.int .i64 i.hi) ((rs_0 hE3).symm)) | (have k1 := ‹decide (l0 < 0) = true›; have k2 := ‹decide (h0 > 0) = true›; have o := ‹(l0 == h0) = false›; first | ((with_reducible show Value.bool (Sp.some _) = _); exact congrArg (fun i : Sp => Value.bool i.some) ((rs_tt (a := ⟨s0, l0, h0⟩) (b := ⟨s1, l1, h1⟩) (c := _) hE3 (or1 o) hB hm k1 k2).symm)) | ((with_reducible show Value.int _ (Sp.lo _) = _); exact congrArg (fun i : Sp => Value.int .i64 i.lo) ((rs_tt (a := ⟨s0, l0, h0⟩) (b := ⟨s1, l1, h1⟩) (c := _) hE3 (or1 o) hB hm k1 k2).symm)) | ((with_reducible show Value.int _ (Sp.hi _) = _); exact congrArg (fun i : Sp => Value.int .i64 i.hi) ((rs_tt (a := ⟨s0, l0, h0⟩) (b := ⟨s1, l1, h1⟩) (c := _) hE3 (or1 o) hB hm k1 k2).symm))) | (have k1 := ‹decide (l0 < 0) = true›; have k2 := ‹decide (h0 > 0) = true›; have o := ‹(l1 == h1) = false›; first | ((with_reducible show Value.bool (Sp.some _) = _); exact congrArg (fun i : Sp => Value.bool i.some) ((rs_tt (a := ⟨s0, l0, h0⟩) (b := ⟨s1, l1, h1⟩) (c := _) hE3 (or2 o) hB hm k1 k2).symm)) | ((with_reducible show Value.int _ (Sp.lo _) = _); exact congrArg (fun i : Sp => Value.int .i64 i.lo) ((rs_tt (a := ⟨s0, l0, h0⟩) (b := ⟨s1, l1, h1⟩) (c := _) hE3 (or2 o) hB hm k1 k2).symm)) | ((with_reducible show Value.int _ (Sp.hi _) = _); exact congrArg (fun i : Sp => Value.int .i64 i.hi) ((rs_tt (a := ⟨s0, l0, h0⟩) (b := ⟨s1, l1, h1⟩) (c := _) hE3 (or2 o) hB hm k1 k2).symm))) | (have k1 := ‹decide (l0 < 0) = true›; have k2 := ‹decide (h0 > 0) = false›; have o := ‹(l0 == h0) = false›; first | ((with_reducible show Value.bool (Sp.some _) = _); exact congrArg (fun i : Sp => Value.bool i.some) ((rs_tf (a := ⟨s0, l0, h0⟩) (b := ⟨s1, l1, h1⟩) (c := _) hE3 (or1 o) hB hm k1 k2).symm)) | ((with_reducible show Value.int _ (Sp.lo _) = _); exact congrArg (fun i : Sp => Value.int .i64 i.lo) ((rs_tf (a := ⟨s0, l0, h0⟩) (b := ⟨s1, l1, h1⟩) (c := _) hE3 (or1 o) hB hm k1 k2).symm)) | ((with_reducible show Value.int _ (Sp.hi _) = _); exact congrArg (fun i : Sp => Value.int .i64 i.hi) ((rs_tf (a := ⟨s0, l0, h0⟩) (b := ⟨s1, l1, h1⟩) (c := _) hE3 (or1 o) hB hm k1 k2).symm))) | (have k1 := ‹decide (l0 < 0) = true›; have k2 := ‹decide (h0 > 0) = false›; have o := ‹(l1 == h1) = false›; first | ((with_reducible show Value.bool (Sp.some _) = _); exact congrArg (fun i : Sp => Value.bool i.some) ((rs_tf (a := ⟨s0, l0, h0⟩) (b := ⟨s1, l1, h1⟩) (c := _) hE3 (or2 o) hB hm k1 k2).symm)) | ((with_reducible show Value.int _ (Sp.lo _) = _); exact congrArg (fun i : Sp => Value.int .i64 i.lo) ((rs_tf (a := ⟨s0, l0, h0⟩) (b := ⟨s1, l1, h1⟩) (c := _) hE3 (or2 o) hB hm k1 k2).symm)) | ((with_reducible show Value.int _ (Sp.hi _) = _); exact congrArg (fun i : Sp => Value.int .i64 i.hi) ((rs_tf (a := ⟨s0, l0, h0⟩) (b := ⟨s1, l1, h1⟩) (c := _) hE3 (or2 o) hB hm k1 k2).symm))) | (have k1 := ‹decide (l0 < 0) = false›; have k2 := ‹decide (h0 > 0) = true›; have o := ‹(l0 == h0) = false›; first | ((with_reducible show Value.bool (Sp.some _) = _); exact congrArg (fun i : Sp => Value.bool i.some) ((rs_ft (a := ⟨s0, l0, h0⟩) (b := ⟨s1, l1, h1⟩) (c := _) hE3 (or1 o) hB hm k1 k2).symm)) | ((with_reducible show Value.int _ (Sp.lo _) = _); exact congrArg (fun i : Sp => Value.int .i64 i.lo) ((rs_ft (a := ⟨s0, l0, h0⟩) (b := ⟨s1, l1, h1⟩) (c := _) hE3 (or1 o) hB hm k1 k2).symm)) | ((with_reducible show Value.int _ (Sp.hi _) = _); exact congrArg (fun i : Sp => Value.int .i64 i.hi) ((rs_ft (a := ⟨s0, l0, h0⟩) (b := ⟨s1, l1, h1⟩) (c := _) hE3 (or1 o) hB hm k1 k2).symm))) | (have k1 := ‹decide (l0 < 0) = false›; have k2 := ‹decide (h0 > 0) = true›; have o := ‹(l1 == h1) = false›; first | ((with_reducible show Value.bool (Sp.some _) = _); exact congrArg (fun i : Sp => Value.bool i.some) ((rs_ft (a := ⟨s0, l0, h0⟩) (b := ⟨s1, l1, h1⟩) (c := _) hE3 (or2 o) hB hm k1 k2).symm)) | ((with_reducible show Value.int _ (Sp.lo _) = _); exact congrArg (fun i : Sp => Value.int .i64 i.lo) ((rs_ft (a := ⟨s0, l0, h0⟩) (b := ⟨s1, l1, h1⟩) (c := _) hE3 (or2 o) hB hm k1 k2).symm)) | ((with_reducible show Value.int _ (Sp.hi _) = _); exact congrArg (fun i : Sp => Value.int .i64 i.hi) ((rs_ft (a := ⟨s0, l0, h0⟩) (b := ⟨s1, l1, h1⟩) (c := _) hE3 (or2 o) hB hm k1 k2).symm))) | (have k1 := ‹decide (l0 < 0) = false›; have k2 := ‹decide (h0 > 0) = false›; have o := ‹(l0 == h0) = false›; first | ((with_reducible show Value.bool (Sp.some _) = _); exact congrArg (fun i : Sp => Value.bool i.some) ((rs_ff (a := ⟨s0, l0, h0⟩) (b := ⟨s1, l1, h1⟩) (c := _) hE3 (or1 o) hB hm k1 k2).symm)) | ((with_reducible show Value.int _ (Sp.lo _) = _); exact congrArg (fun i : Sp => Value.int .i64 i.lo) ((rs_ff (a := ⟨s0, l0, h0⟩) (b := ⟨s1, l1, h1⟩) (c := _) hE3 (or1 o) hB hm k1 k2).symm)) | ((with_reducible show Value.int _ (Sp.hi _) = _); exact congrArg (fun i : Sp => Value.int .i64 i.hi) ((rs_ff (a := ⟨s0, l0, h0⟩) (b := ⟨s1, l1, h1⟩) (c := _) hE3 (or1 o) hB hm k1 k2).symm))) | (have k1 := ‹decide (l0 < 0) = false›; have k2 := ‹decide (h0 > 0) = false›; have o := ‹(l1 == h1) = false›; first | ((with_reducible show Value.bool (Sp.some _) = _); exact congrArg (fun i : Sp => Value.bool i.some) ((rs_ff (a := ⟨s0, l0, h0⟩) (b := ⟨s1, l1, h1⟩) (c := _) hE3 (or2 o) hB hm k1 k2).symm)) | ((with_reducible show Value.int _ (Sp.lo _) = _); exact congrArg (fun i : Sp => Value.int .i64 i.lo) ((rs_ff (a := ⟨s0, l0, h0⟩) (b := ⟨s1, l1, h1⟩) (c := _) hE3 (or2 o) hB hm k1 k2).symm)) | ((with_reducible show Value.int _ (Sp.hi _) = _); exact congrArg (fun i : Sp => Value.int .i64 i.hi) ((rs_ff (a := ⟨s0, l0, h0⟩) (b := ⟨s1, l1, h1⟩) (c := _) hE3 (or2 o) hB hm k1 k2).symm))) | exact (doI_rng hp0.1).1 | exact (doI_rng hp0.1).2 | exact (mx_r hp0.1 hB hm).1 | exact (mx_r hp0.1 hB hm).2 | exact (mn_r hp0.2 hB hm).1 | exact (mn_r hp0.2 hB hm).2 | exact (wd_ok (absI h1)).1.1 | exact (wd_ok (absI h1)).1.2 | exact (wd_ok (absI h1)).2.1 | exact (wd_ok (absI h1)).2.2 | exact (maxW_ok (wd_ok (absI l1)) (wd_ok (absI h1))).1.1 | exact (maxW_ok (wd_ok (absI l1)) (wd_ok (absI h1))).1.2 | exact (maxW_ok (wd_ok (absI l1)) (wd_ok (absI h1))).2.1 | exact (maxW_ok (wd_ok (absI l1)) (wd_ok (absI h1))).2.2 | rfl
   all_goals trace_state
 . cases h
def FReDo : List Ar -> Option Rs
 | [.c (.d (.v (.int .i64 i0))), .agg [.d (.v (.bool s1)), .d (.v (.int .i64 l1)), .d (.v (.int .i64 h1))], .agg [.d (.v (.bool s2)), .d (.v (.int .i64 l2)), .d (.v (.int .i64 h2))]] => some ⟨(-9223372036854775808 <= i0 /\ i0 < 9223372036854775808) /\ (Sp.inR ⟨s1, l1, h1⟩) /\ (Sp.inR ⟨s2, l2, h2⟩), .va (Sp.ar (rkDo i0 (⟨s1, l1, h1⟩ : Sp) (⟨s2, l2, h2⟩ : Sp))), []⟩
 | _ => none
theorem fcReDo : FC Tryz.prog 105 FReDo := by
 intro xs pre r us h hp
 unfold FReDo at h
 split at h
 . rename_i i0 s1 l1 h1 s2 l2 h2
   cases h
   obtain ⟨hp0, hp1, hp2⟩ := hp
   refine fcat tys_ok (l := [(83, ⟨[], FSNone⟩), (142, ⟨[], (FReCornE i0)⟩), (140, ⟨[], FReDo1⟩), (141, ⟨[], FReAround⟩), (143, ⟨[], FReDiv⟩), (144, ⟨[], FReRest⟩), (145, ⟨[], FReCmp⟩)]) ⟨fcSNone, (fcReCornE i0), fcReDo1, fcReAround, fcReDiv, fcReRest, fcReCmp, trivial⟩ Tryz.func105 rfl (by kernel_rfl) true ?_
   have hO := hp0
   have hk := crn_e (op := i0) hp1 hp2
   by_cases e10 : i0 = 10
   . subst e10
     have q10 : ((10 : Int) == 10) = true := by decide
     have q11 : ((10 : Int) == 11) = false := by decide
     have q7 : ((10 : Int) == 7) = false := by decide
     have q8 : ((10 : Int) == 8) = false := by decide
     have q9 : ((10 : Int) == 9) = false := by decide
     repeat' (first | exact trivial | (with_reducible first | exact hp1 | exact hp2 | exact hp1.1 | exact hp1.2 | exact hp2.1 | exact hp2.2 | exact hO | exact wd_ok _ | exact (fun h : false = true => absurd h (by decide)) | exact (fun h : true = false => absurd h (by decide)) | exact (fun h => absurd (q10.symm.trans h) (by decide)) | exact (fun h => absurd (q11.symm.trans h) (by decide)) | exact (fun h => absurd (q7.symm.trans h) (by decide)) | exact (fun h => absurd (q8.symm.trans h) (by decide)) | exact (fun h => absurd (q9.symm.trans h) (by decide))) | refine ⟨?_, ?_⟩ | intro _)
     all_goals first | (with_reducible first | apply qa | apply qb | apply qc | apply qd) | (conv => whnf)
     all_goals first | decide | (with_reducible rfl) | ((with_reducible show Value.bool false = _); exact congrArg (fun i : Sp => Value.bool i.some) ((rd_n1 ‹_›).symm)) | ((with_reducible show Value.int _ 0 = _); first | exact congrArg (fun i : Sp => Value.int .i64 i.lo) ((rd_n1 ‹_›).symm) | exact congrArg (fun i : Sp => Value.int .i64 i.hi) ((rd_n1 ‹_›).symm)) | ((with_reducible show Value.bool false = _); exact congrArg (fun i : Sp => Value.bool i.some) ((rd_n2 ‹_›).symm)) | ((with_reducible show Value.int _ 0 = _); first | exact congrArg (fun i : Sp => Value.int .i64 i.lo) ((rd_n2 ‹_›).symm) | exact congrArg (fun i : Sp => Value.int .i64 i.hi) ((rd_n2 ‹_›).symm)) | ((with_reducible show Value.bool (Sp.some _) = _); exact congrArg (fun i : Sp => Value.bool i.some) ((congrArg around hk.1).trans (rd_e ‹_› ‹_› rfl).symm)) | ((with_reducible show Value.int _ (Sp.lo _) = _); exact congrArg (fun i : Sp => Value.int .i64 i.lo) ((congrArg around hk.1).trans (rd_e ‹_› ‹_› rfl).symm)) | ((with_reducible show Value.int _ (Sp.hi _) = _); exact congrArg (fun i : Sp => Value.int .i64 i.hi) ((congrArg around hk.1).trans (rd_e ‹_› ‹_› rfl).symm)) | ((with_reducible show Value.bool (Sp.some _) = _); exact congrArg (fun i : Sp => Value.bool i.some) ((rd_8 ‹_› ‹_›).symm)) | ((with_reducible show Value.int _ (Sp.lo _) = _); exact congrArg (fun i : Sp => Value.int .i64 i.lo) ((rd_8 ‹_› ‹_›).symm)) | ((with_reducible show Value.int _ (Sp.hi _) = _); exact congrArg (fun i : Sp => Value.int .i64 i.hi) ((rd_8 ‹_› ‹_›).symm)) | ((with_reducible show Value.bool (Sp.some _) = _); exact congrArg (fun i : Sp => Value.bool i.some) ((rd_9 ‹_› ‹_›).symm)) | ((with_reducible show Value.int _ (Sp.lo _) = _); exact congrArg (fun i : Sp => Value.int .i64 i.lo) ((rd_9 ‹_› ‹_›).symm)) | ((with_reducible show Value.int _ (Sp.hi _) = _); exact congrArg (fun i : Sp => Value.int .i64 i.hi) ((rd_9 ‹_› ‹_›).symm)) | exact (hk.2 _ ‹_›).1 | exact (hk.2 _ ‹_›).2 | exact (wok_rw 4 _ _ ‹_›).2.1.1 | exact (wok_rw 4 _ _ ‹_›).2.1.2 | exact (wok_rw 4 _ _ ‹_›).2.2.1 | exact (wok_rw 4 _ _ ‹_›).2.2.2 | rfl
   by_cases e11 : i0 = 11
   . subst e11
     have q10 : ((11 : Int) == 10) = false := by decide
     have q11 : ((11 : Int) == 11) = true := by decide
     have q7 : ((11 : Int) == 7) = false := by decide
     have q8 : ((11 : Int) == 8) = false := by decide
     have q9 : ((11 : Int) == 9) = false := by decide
     repeat' (first | exact trivial | (with_reducible first | exact hp1 | exact hp2 | exact hp1.1 | exact hp1.2 | exact hp2.1 | exact hp2.2 | exact hO | exact wd_ok _ | exact (fun h : false = true => absurd h (by decide)) | exact (fun h : true = false => absurd h (by decide)) | exact (fun h => absurd (q10.symm.trans h) (by decide)) | exact (fun h => absurd (q11.symm.trans h) (by decide)) | exact (fun h => absurd (q7.symm.trans h) (by decide)) | exact (fun h => absurd (q8.symm.trans h) (by decide)) | exact (fun h => absurd (q9.symm.trans h) (by decide))) | refine ⟨?_, ?_⟩ | intro _)
     all_goals first | (with_reducible first | apply qa | apply qb | apply qc | apply qd) | (conv => whnf)
     all_goals first | decide | (with_reducible rfl) | ((with_reducible show Value.bool false = _); exact congrArg (fun i : Sp => Value.bool i.some) ((rd_n1 ‹_›).symm)) | ((with_reducible show Value.int _ 0 = _); first | exact congrArg (fun i : Sp => Value.int .i64 i.lo) ((rd_n1 ‹_›).symm) | exact congrArg (fun i : Sp => Value.int .i64 i.hi) ((rd_n1 ‹_›).symm)) | ((with_reducible show Value.bool false = _); exact congrArg (fun i : Sp => Value.bool i.some) ((rd_n2 ‹_›).symm)) | ((with_reducible show Value.int _ 0 = _); first | exact congrArg (fun i : Sp => Value.int .i64 i.lo) ((rd_n2 ‹_›).symm) | exact congrArg (fun i : Sp => Value.int .i64 i.hi) ((rd_n2 ‹_›).symm)) | ((with_reducible show Value.bool (Sp.some _) = _); exact congrArg (fun i : Sp => Value.bool i.some) ((congrArg around hk.1).trans (rd_e ‹_› ‹_› rfl).symm)) | ((with_reducible show Value.int _ (Sp.lo _) = _); exact congrArg (fun i : Sp => Value.int .i64 i.lo) ((congrArg around hk.1).trans (rd_e ‹_› ‹_› rfl).symm)) | ((with_reducible show Value.int _ (Sp.hi _) = _); exact congrArg (fun i : Sp => Value.int .i64 i.hi) ((congrArg around hk.1).trans (rd_e ‹_› ‹_› rfl).symm)) | ((with_reducible show Value.bool (Sp.some _) = _); exact congrArg (fun i : Sp => Value.bool i.some) ((rd_8 ‹_› ‹_›).symm)) | ((with_reducible show Value.int _ (Sp.lo _) = _); exact congrArg (fun i : Sp => Value.int .i64 i.lo) ((rd_8 ‹_› ‹_›).symm)) | ((with_reducible show Value.int _ (Sp.hi _) = _); exact congrArg (fun i : Sp => Value.int .i64 i.hi) ((rd_8 ‹_› ‹_›).symm)) | ((with_reducible show Value.bool (Sp.some _) = _); exact congrArg (fun i : Sp => Value.bool i.some) ((rd_9 ‹_› ‹_›).symm)) | ((with_reducible show Value.int _ (Sp.lo _) = _); exact congrArg (fun i : Sp => Value.int .i64 i.lo) ((rd_9 ‹_› ‹_›).symm)) | ((with_reducible show Value.int _ (Sp.hi _) = _); exact congrArg (fun i : Sp => Value.int .i64 i.hi) ((rd_9 ‹_› ‹_›).symm)) | exact (hk.2 _ ‹_›).1 | exact (hk.2 _ ‹_›).2 | exact (wok_rw 4 _ _ ‹_›).2.1.1 | exact (wok_rw 4 _ _ ‹_›).2.1.2 | exact (wok_rw 4 _ _ ‹_›).2.2.1 | exact (wok_rw 4 _ _ ‹_›).2.2.2 | rfl
   by_cases e7 : i0 = 7
   . subst e7
     have q10 : ((7 : Int) == 10) = false := by decide
     have q11 : ((7 : Int) == 11) = false := by decide
     have q7 : ((7 : Int) == 7) = true := by decide
     have q8 : ((7 : Int) == 8) = false := by decide
     have q9 : ((7 : Int) == 9) = false := by decide
     repeat' (first | exact trivial | (with_reducible first | exact hp1 | exact hp2 | exact hp1.1 | exact hp1.2 | exact hp2.1 | exact hp2.2 | exact hO | exact wd_ok _ | exact (fun h : false = true => absurd h (by decide)) | exact (fun h : true = false => absurd h (by decide)) | exact (fun h => absurd (q10.symm.trans h) (by decide)) | exact (fun h => absurd (q11.symm.trans h) (by decide)) | exact (fun h => absurd (q7.symm.trans h) (by decide)) | exact (fun h => absurd (q8.symm.trans h) (by decide)) | exact (fun h => absurd (q9.symm.trans h) (by decide))) | refine ⟨?_, ?_⟩ | intro _)
     all_goals first | (with_reducible first | apply qa | apply qb | apply qc | apply qd) | (conv => whnf)
     all_goals first | decide | (with_reducible rfl) | ((with_reducible show Value.bool false = _); exact congrArg (fun i : Sp => Value.bool i.some) ((rd_n1 ‹_›).symm)) | ((with_reducible show Value.int _ 0 = _); first | exact congrArg (fun i : Sp => Value.int .i64 i.lo) ((rd_n1 ‹_›).symm) | exact congrArg (fun i : Sp => Value.int .i64 i.hi) ((rd_n1 ‹_›).symm)) | ((with_reducible show Value.bool false = _); exact congrArg (fun i : Sp => Value.bool i.some) ((rd_n2 ‹_›).symm)) | ((with_reducible show Value.int _ 0 = _); first | exact congrArg (fun i : Sp => Value.int .i64 i.lo) ((rd_n2 ‹_›).symm) | exact congrArg (fun i : Sp => Value.int .i64 i.hi) ((rd_n2 ‹_›).symm)) | ((with_reducible show Value.bool (Sp.some _) = _); exact congrArg (fun i : Sp => Value.bool i.some) ((congrArg around hk.1).trans (rd_e ‹_› ‹_› rfl).symm)) | ((with_reducible show Value.int _ (Sp.lo _) = _); exact congrArg (fun i : Sp => Value.int .i64 i.lo) ((congrArg around hk.1).trans (rd_e ‹_› ‹_› rfl).symm)) | ((with_reducible show Value.int _ (Sp.hi _) = _); exact congrArg (fun i : Sp => Value.int .i64 i.hi) ((congrArg around hk.1).trans (rd_e ‹_› ‹_› rfl).symm)) | ((with_reducible show Value.bool (Sp.some _) = _); exact congrArg (fun i : Sp => Value.bool i.some) ((rd_8 ‹_› ‹_›).symm)) | ((with_reducible show Value.int _ (Sp.lo _) = _); exact congrArg (fun i : Sp => Value.int .i64 i.lo) ((rd_8 ‹_› ‹_›).symm)) | ((with_reducible show Value.int _ (Sp.hi _) = _); exact congrArg (fun i : Sp => Value.int .i64 i.hi) ((rd_8 ‹_› ‹_›).symm)) | ((with_reducible show Value.bool (Sp.some _) = _); exact congrArg (fun i : Sp => Value.bool i.some) ((rd_9 ‹_› ‹_›).symm)) | ((with_reducible show Value.int _ (Sp.lo _) = _); exact congrArg (fun i : Sp => Value.int .i64 i.lo) ((rd_9 ‹_› ‹_›).symm)) | ((with_reducible show Value.int _ (Sp.hi _) = _); exact congrArg (fun i : Sp => Value.int .i64 i.hi) ((rd_9 ‹_› ‹_›).symm)) | exact (hk.2 _ ‹_›).1 | exact (hk.2 _ ‹_›).2 | exact (wok_rw 4 _ _ ‹_›).2.1.1 | exact (wok_rw 4 _ _ ‹_›).2.1.2 | exact (wok_rw 4 _ _ ‹_›).2.2.1 | exact (wok_rw 4 _ _ ‹_›).2.2.2 | rfl
   by_cases e8 : i0 = 8
   . subst e8
     have q10 : ((8 : Int) == 10) = false := by decide
     have q11 : ((8 : Int) == 11) = false := by decide
     have q7 : ((8 : Int) == 7) = false := by decide
     have q8 : ((8 : Int) == 8) = true := by decide
     have q9 : ((8 : Int) == 9) = false := by decide
     repeat' (first | exact trivial | (with_reducible first | exact hp1 | exact hp2 | exact hp1.1 | exact hp1.2 | exact hp2.1 | exact hp2.2 | exact hO | exact wd_ok _ | exact (fun h : false = true => absurd h (by decide)) | exact (fun h : true = false => absurd h (by decide)) | exact (fun h => absurd (q10.symm.trans h) (by decide)) | exact (fun h => absurd (q11.symm.trans h) (by decide)) | exact (fun h => absurd (q7.symm.trans h) (by decide)) | exact (fun h => absurd (q8.symm.trans h) (by decide)) | exact (fun h => absurd (q9.symm.trans h) (by decide))) | refine ⟨?_, ?_⟩ | intro _)
     all_goals first | (with_reducible first | apply qa | apply qb | apply qc | apply qd) | (conv => whnf)
     all_goals first | decide | (with_reducible rfl) | ((with_reducible show Value.bool false = _); exact congrArg (fun i : Sp => Value.bool i.some) ((rd_n1 ‹_›).symm)) | ((with_reducible show Value.int _ 0 = _); first | exact congrArg (fun i : Sp => Value.int .i64 i.lo) ((rd_n1 ‹_›).symm) | exact congrArg (fun i : Sp => Value.int .i64 i.hi) ((rd_n1 ‹_›).symm)) | ((with_reducible show Value.bool false = _); exact congrArg (fun i : Sp => Value.bool i.some) ((rd_n2 ‹_›).symm)) | ((with_reducible show Value.int _ 0 = _); first | exact congrArg (fun i : Sp => Value.int .i64 i.lo) ((rd_n2 ‹_›).symm) | exact congrArg (fun i : Sp => Value.int .i64 i.hi) ((rd_n2 ‹_›).symm)) | ((with_reducible show Value.bool (Sp.some _) = _); exact congrArg (fun i : Sp => Value.bool i.some) ((congrArg around hk.1).trans (rd_e ‹_› ‹_› rfl).symm)) | ((with_reducible show Value.int _ (Sp.lo _) = _); exact congrArg (fun i : Sp => Value.int .i64 i.lo) ((congrArg around hk.1).trans (rd_e ‹_› ‹_› rfl).symm)) | ((with_reducible show Value.int _ (Sp.hi _) = _); exact congrArg (fun i : Sp => Value.int .i64 i.hi) ((congrArg around hk.1).trans (rd_e ‹_› ‹_› rfl).symm)) | ((with_reducible show Value.bool (Sp.some _) = _); exact congrArg (fun i : Sp => Value.bool i.some) ((rd_8 ‹_› ‹_›).symm)) | ((with_reducible show Value.int _ (Sp.lo _) = _); exact congrArg (fun i : Sp => Value.int .i64 i.lo) ((rd_8 ‹_› ‹_›).symm)) | ((with_reducible show Value.int _ (Sp.hi _) = _); exact congrArg (fun i : Sp => Value.int .i64 i.hi) ((rd_8 ‹_› ‹_›).symm)) | ((with_reducible show Value.bool (Sp.some _) = _); exact congrArg (fun i : Sp => Value.bool i.some) ((rd_9 ‹_› ‹_›).symm)) | ((with_reducible show Value.int _ (Sp.lo _) = _); exact congrArg (fun i : Sp => Value.int .i64 i.lo) ((rd_9 ‹_› ‹_›).symm)) | ((with_reducible show Value.int _ (Sp.hi _) = _); exact congrArg (fun i : Sp => Value.int .i64 i.hi) ((rd_9 ‹_› ‹_›).symm)) | exact (hk.2 _ ‹_›).1 | exact (hk.2 _ ‹_›).2 | exact (wok_rw 4 _ _ ‹_›).2.1.1 | exact (wok_rw 4 _ _ ‹_›).2.1.2 | exact (wok_rw 4 _ _ ‹_›).2.2.1 | exact (wok_rw 4 _ _ ‹_›).2.2.2 | rfl
   by_cases e9 : i0 = 9
   . subst e9
     have q10 : ((9 : Int) == 10) = false := by decide
     have q11 : ((9 : Int) == 11) = false := by decide
     have q7 : ((9 : Int) == 7) = false := by decide
     have q8 : ((9 : Int) == 8) = false := by decide
     have q9 : ((9 : Int) == 9) = true := by decide
     repeat' (first | exact trivial | (with_reducible first | exact hp1 | exact hp2 | exact hp1.1 | exact hp1.2 | exact hp2.1 | exact hp2.2 | exact hO | exact wd_ok _ | exact (fun h : false = true => absurd h (by decide)) | exact (fun h : true = false => absurd h (by decide)) | exact (fun h => absurd (q10.symm.trans h) (by decide)) | exact (fun h => absurd (q11.symm.trans h) (by decide)) | exact (fun h => absurd (q7.symm.trans h) (by decide)) | exact (fun h => absurd (q8.symm.trans h) (by decide)) | exact (fun h => absurd (q9.symm.trans h) (by decide))) | refine ⟨?_, ?_⟩ | intro _)
     all_goals first | (with_reducible first | apply qa | apply qb | apply qc | apply qd) | (conv => whnf)
     all_goals first | decide | (with_reducible rfl) | ((with_reducible show Value.bool false = _); exact congrArg (fun i : Sp => Value.bool i.some) ((rd_n1 ‹_›).symm)) | ((with_reducible show Value.int _ 0 = _); first | exact congrArg (fun i : Sp => Value.int .i64 i.lo) ((rd_n1 ‹_›).symm) | exact congrArg (fun i : Sp => Value.int .i64 i.hi) ((rd_n1 ‹_›).symm)) | ((with_reducible show Value.bool false = _); exact congrArg (fun i : Sp => Value.bool i.some) ((rd_n2 ‹_›).symm)) | ((with_reducible show Value.int _ 0 = _); first | exact congrArg (fun i : Sp => Value.int .i64 i.lo) ((rd_n2 ‹_›).symm) | exact congrArg (fun i : Sp => Value.int .i64 i.hi) ((rd_n2 ‹_›).symm)) | ((with_reducible show Value.bool (Sp.some _) = _); exact congrArg (fun i : Sp => Value.bool i.some) ((congrArg around hk.1).trans (rd_e ‹_› ‹_› rfl).symm)) | ((with_reducible show Value.int _ (Sp.lo _) = _); exact congrArg (fun i : Sp => Value.int .i64 i.lo) ((congrArg around hk.1).trans (rd_e ‹_› ‹_› rfl).symm)) | ((with_reducible show Value.int _ (Sp.hi _) = _); exact congrArg (fun i : Sp => Value.int .i64 i.hi) ((congrArg around hk.1).trans (rd_e ‹_› ‹_› rfl).symm)) | ((with_reducible show Value.bool (Sp.some _) = _); exact congrArg (fun i : Sp => Value.bool i.some) ((rd_8 ‹_› ‹_›).symm)) | ((with_reducible show Value.int _ (Sp.lo _) = _); exact congrArg (fun i : Sp => Value.int .i64 i.lo) ((rd_8 ‹_› ‹_›).symm)) | ((with_reducible show Value.int _ (Sp.hi _) = _); exact congrArg (fun i : Sp => Value.int .i64 i.hi) ((rd_8 ‹_› ‹_›).symm)) | ((with_reducible show Value.bool (Sp.some _) = _); exact congrArg (fun i : Sp => Value.bool i.some) ((rd_9 ‹_› ‹_›).symm)) | ((with_reducible show Value.int _ (Sp.lo _) = _); exact congrArg (fun i : Sp => Value.int .i64 i.lo) ((rd_9 ‹_› ‹_›).symm)) | ((with_reducible show Value.int _ (Sp.hi _) = _); exact congrArg (fun i : Sp => Value.int .i64 i.hi) ((rd_9 ‹_› ‹_›).symm)) | exact (hk.2 _ ‹_›).1 | exact (hk.2 _ ‹_›).2 | exact (wok_rw 4 _ _ ‹_›).2.1.1 | exact (wok_rw 4 _ _ ‹_›).2.1.2 | exact (wok_rw 4 _ _ ‹_›).2.2.1 | exact (wok_rw 4 _ _ ‹_›).2.2.2 | rfl
   have q10 : (i0 == 10) = false := beq_eq_false_iff_ne.2 e10
   have q11 : (i0 == 11) = false := beq_eq_false_iff_ne.2 e11
   have q7 : (i0 == 7) = false := beq_eq_false_iff_ne.2 e7
   have q8 : (i0 == 8) = false := beq_eq_false_iff_ne.2 e8
   have q9 : (i0 == 9) = false := beq_eq_false_iff_ne.2 e9
   repeat' (first | exact trivial | (with_reducible first | exact hp1 | exact hp2 | exact hp1.1 | exact hp1.2 | exact hp2.1 | exact hp2.2 | exact hO | exact wd_ok _ | exact (fun h : false = true => absurd h (by decide)) | exact (fun h : true = false => absurd h (by decide)) | exact (fun h => absurd (q10.symm.trans h) (by decide)) | exact (fun h => absurd (q11.symm.trans h) (by decide)) | exact (fun h => absurd (q7.symm.trans h) (by decide)) | exact (fun h => absurd (q8.symm.trans h) (by decide)) | exact (fun h => absurd (q9.symm.trans h) (by decide))) | refine ⟨?_, ?_⟩ | intro _)
   all_goals first | (with_reducible first | apply qa | apply qb | apply qc | apply qd) | (conv => whnf)
   all_goals first | decide | (with_reducible rfl) | ((with_reducible show Value.bool false = _); exact congrArg (fun i : Sp => Value.bool i.some) ((rd_n1 ‹_›).symm)) | ((with_reducible show Value.int _ 0 = _); first | exact congrArg (fun i : Sp => Value.int .i64 i.lo) ((rd_n1 ‹_›).symm) | exact congrArg (fun i : Sp => Value.int .i64 i.hi) ((rd_n1 ‹_›).symm)) | ((with_reducible show Value.bool false = _); exact congrArg (fun i : Sp => Value.bool i.some) ((rd_n2 ‹_›).symm)) | ((with_reducible show Value.int _ 0 = _); first | exact congrArg (fun i : Sp => Value.int .i64 i.lo) ((rd_n2 ‹_›).symm) | exact congrArg (fun i : Sp => Value.int .i64 i.hi) ((rd_n2 ‹_›).symm)) | ((with_reducible show Value.bool (Sp.some _) = _); exact congrArg (fun i : Sp => Value.bool i.some) ((rd_c ‹_› ‹_› ⟨e10, e11, e7, e8, e9⟩).symm)) | ((with_reducible show Value.int _ (Sp.lo _) = _); exact congrArg (fun i : Sp => Value.int .i64 i.lo) ((rd_c ‹_› ‹_› ⟨e10, e11, e7, e8, e9⟩).symm)) | ((with_reducible show Value.int _ (Sp.hi _) = _); exact congrArg (fun i : Sp => Value.int .i64 i.hi) ((rd_c ‹_› ‹_› ⟨e10, e11, e7, e8, e9⟩).symm)) | exact (hk.2 _ ‹_›).1 | exact (hk.2 _ ‹_›).2 | exact (wok_rw 4 _ _ ‹_›).2.1.1 | exact (wok_rw 4 _ _ ‹_›).2.1.2 | exact (wok_rw 4 _ _ ‹_›).2.2.1 | exact (wok_rw 4 _ _ ‹_›).2.2.2 | rfl
 . cases h
section
variable {op : Int} {a b : Cg} {w : Bool}
theorem qpre (ta : a.tidy) (tb : b.tidy) (h : ¬ (a.m = 0 /\ b.m = 0)) : ¬ (a.r = -9223372036854775808 /\ b.r = -1) := by
 rintro ⟨x, y⟩
 unfold Cg.tidy at ta tb
 rcases ta with e | ⟨-, na, ta⟩
 . rw [e] at x; exact absurd x (by decide)
 . rcases tb with e | ⟨-, nb, tb⟩
   . rw [e] at y; exact absurd y (by decide)
   . rcases Decidable.em (a.m = 0) with z | z
     . have := tb (by omega); omega
     . have := ta (by omega); omega
def rsOne0 (op : Int) (a : Cg) (w : Bool) : Cg := if !a.some then a else if op = 5 then rsDo 11 (Cg.of 0 0) a w else if op ≠ 6 then Cg.none else if alC a 0 then Cg.of 0 1 else if !a.has 0 then Cg.of 0 0 else Cg.of 1 0
def rsOne (op : Int) (a : Cg) (w : Bool) : Cg := rsOne0 op a.clean w
theorem cc_15 : cmpC 15 a b = if aptC a b then Cg.of 0 1 else Cg.of 1 0 := rfl
theorem cc_14 : cmpC 14 a b = if aptC a b then Cg.of 0 0 else Cg.of 1 0 := rfl
theorem cc_16 : cmpC 16 a b = if alC a 0 || alC b 0 then Cg.of 0 0 else if !a.has 0 && !b.has 0 then Cg.of 0 1 else Cg.of 1 0 := rfl
theorem cc_17 : cmpC 17 a b = if !a.has 0 || !b.has 0 then Cg.of 0 1 else Cg.of 1 0 := rfl
theorem cc_12 : cmpC 12 a b = Cg.of 1 0 := rfl
theorem cc_13 : cmpC 13 a b = Cg.of 1 0 := rfl
theorem cc_x (h : op ≠ 15 /\ op ≠ 14 /\ op ≠ 16 /\ op ≠ 17 /\ op ≠ 12 /\ op ≠ 13) : cmpC op a b = Cg.none := by unfold cmpC; rw [if_neg h.1, if_neg h.2.1, if_neg h.2.2.1, if_neg h.2.2.2.1, if_neg (by omega)]
theorem rs_n1 (h : a.some = false) : rsDo0 op a b w = Cg.none := by unfold rsDo0; rw [if_pos (by rw [h]; rfl)]
theorem rs_n2 (h : b.some = false) : rsDo0 op a b w = Cg.none := by unfold rsDo0; rw [if_pos (by rw [h]; cases a.some <;> rfl)]
section
variable (h : a.some = true) (h2 : b.some = true)
include h h2
theorem rs_s : ¬ (!a.some || !b.some) = true := by rw [h, h2]; decide
theorem rs_e (z : (a.m == 0) = true) (z2 : (b.m == 0) = true) (e : (doE op b.r != 0) = true) : rsDo0 op a b w = Cg.none := by
 unfold rsDo0; rw [if_neg (rs_s h h2), if_pos ⟨eq_of_beq z, eq_of_beq z2⟩, if_pos (by simpa using e)]
theorem rs_d (z : (a.m == 0) = true) (z2 : (b.m == 0) = true) (e : (doE op b.r != 0) = false) : rsDo0 op a b w = Cg.of 0 (doI op a.r b.r) := by
 unfold rsDo0; rw [if_neg (rs_s h h2), if_pos ⟨eq_of_beq z, eq_of_beq z2⟩, if_neg (by simpa using e)]
variable (z : ¬ (a.m = 0 ∧ b.m = 0))
include z
theorem rs_i : rsDo0 op a b w = if op = 10 \/ op = 11 then linC op (Int.gcd a.m b.m : Int) a b w else if op = 7 then prodC a b w else if op = 8 then quoC a b w else if op = 9 then rstC a b else cmpC op a b := by
 unfold rsDo0; rw [if_neg (rs_s h h2), if_neg z]
theorem rs_10 : rsDo0 10 a b w = linC 10 (Int.gcd a.m b.m : Int) a b w := by rw [rs_i h h2 z]; rfl
theorem rs_11 : rsDo0 11 a b w = linC 11 (Int.gcd a.m b.m : Int) a b w := by rw [rs_i h h2 z]; rfl
theorem rs_7 : rsDo0 7 a b w = prodC a b w := by rw [rs_i h h2 z]; rfl
theorem rs_8 : rsDo0 8 a b w = quoC a b w := by rw [rs_i h h2 z]; rfl
theorem rs_9 : rsDo0 9 a b w = rstC a b := by rw [rs_i h h2 z]; rfl
theorem rs_c (e : op ≠ 10 /\ op ≠ 11 /\ op ≠ 7 /\ op ≠ 8 /\ op ≠ 9) : rsDo0 op a b w = cmpC op a b := by rw [rs_i h h2 z, if_neg (by omega), if_neg e.2.2.1, if_neg e.2.2.2.1, if_neg e.2.2.2.2]
end
theorem nz1 (h : (a.m == 0) = false) : ¬ (a.m = 0 /\ b.m = 0) := fun x => ne_of_beq_false h x.1
theorem nz2 (h : (b.m == 0) = false) : ¬ (a.m = 0 /\ b.m = 0) := fun x => ne_of_beq_false h x.2
theorem nzo (h : ¬ (a.m = 0 /\ b.m = 0)) : a.m ≠ 0 \/ b.m ≠ 0 := by omega
end
def FRsCmp : List Ar -> Option Rs
 | [.c (.d (.v (.int .i64 i0))), .agg [.d (.v (.bool b1)), .d (.v (.int .i64 m1)), .d (.v (.int .i64 r1))], .agg [.d (.v (.bool b2)), .d (.v (.int .i64 m2)), .d (.v (.int .i64 r2))]] => some ⟨(-9223372036854775808 <= i0 /\ i0 < 9223372036854775808) /\ (Cg.inR ⟨b1, m1, r1⟩) /\ (Cg.inR ⟨b2, m2, r2⟩) /\ (0 <= m1 /\ 0 <= m2), .va (Cg.ar (cmpC i0 (⟨b1, m1, r1⟩ : Cg) (⟨b2, m2, r2⟩ : Cg))), []⟩
 | _ => none
theorem fcRsCmp : FC Tryz.prog 152 FRsCmp := by
 intro xs pre r us h hp
 unfold FRsCmp at h
 split at h
 . rename_i i0 b1 m1 r1 b2 m2 r2
   cases h
   obtain ⟨hp0, hp1, hp2, hp3⟩ := hp
   refine fcat tys_ok (l := [(176, ⟨[], FRsApart⟩), (64, ⟨[], FCOne⟩), (120, ⟨[], FRsAlone⟩), (48, ⟨[], FCHas⟩), (57, ⟨[], FCAll⟩)]) ⟨fcRsApart, fcCOne, fcRsAlone, fcCHas, fcCAll, trivial⟩ Tryz.func152 rfl (by kernel_rfl) false ?_
   have q1 := hp1; unfold Cg.inR at q1; dsimp only at q1
   have q2 := hp2; unfold Cg.inR at q2; dsimp only at q2
   all_goals first | (by_cases e15 : i0 = 15) | skip
   all_goals first | (have _ := (show ¬ _ from e15); by_cases e14 : i0 = 14) | skip
   all_goals first | (have _ := (show ¬ _ from e14); by_cases e16 : i0 = 16) | skip
   all_goals first | (have _ := (show ¬ _ from e16); by_cases e17 : i0 = 17) | skip
   all_goals first | (have _ := (show ¬ _ from e17); by_cases e12 : i0 = 12) | skip
   all_goals first | (have _ := (show ¬ _ from e12); by_cases e13 : i0 = 13) | skip
   all_goals first | (have _ := (show _ = _ from e15); cases ha : aptC (⟨b1, m1, r1⟩ : Cg) (⟨b2, m2, r2⟩ : Cg)) | skip
   all_goals first | (have _ := (show _ = _ from e14); cases hb : aptC (⟨b1, m1, r1⟩ : Cg) (⟨b2, m2, r2⟩ : Cg)) | skip
   all_goals first | (have _ := (show _ = _ from e16); cases h1 : alC (⟨b1, m1, r1⟩ : Cg) 0) | skip
   all_goals first | (have _ := (show _ = false from h1); cases h2 : alC (⟨b2, m2, r2⟩ : Cg) 0) | skip
   all_goals first | (have _ := (show _ = false from h2); cases h3 : Cg.has (⟨b1, m1, r1⟩ : Cg) 0) | skip
   all_goals first | (have _ := (show _ = false from h3); cases h4 : Cg.has (⟨b2, m2, r2⟩ : Cg) 0) | skip
   all_goals first | (have _ := (show _ = _ from e17); cases h5 : Cg.has (⟨b1, m1, r1⟩ : Cg) 0) | skip
   all_goals first | (have _ := (show _ = true from h5); cases h6 : Cg.has (⟨b2, m2, r2⟩ : Cg) 0) | skip
   all_goals first | subst e15 | subst e14 | subst e16 | subst e17 | subst e12 | subst e13 | skip
   all_goals first | (have e := cc_15 (a := (⟨b1, m1, r1⟩ : Cg)) (b := (⟨b2, m2, r2⟩ : Cg)); simp only [ha, Bool.not_true, Bool.not_false, Bool.true_or, Bool.false_or, Bool.or_true, Bool.or_false, Bool.true_and, Bool.false_and, Bool.and_true, Bool.and_false, if_true, if_false, Bool.false_eq_true] at e) | (have e := cc_14 (a := (⟨b1, m1, r1⟩ : Cg)) (b := (⟨b2, m2, r2⟩ : Cg)); simp only [hb, Bool.not_true, Bool.not_false, Bool.true_or, Bool.false_or, Bool.or_true, Bool.or_false, Bool.true_and, Bool.false_and, Bool.and_true, Bool.and_false, if_true, if_false, Bool.false_eq_true] at e) | (have e := cc_16 (a := (⟨b1, m1, r1⟩ : Cg)) (b := (⟨b2, m2, r2⟩ : Cg)); simp only [h1, h2, h3, h4, Bool.not_true, Bool.not_false, Bool.true_or, Bool.false_or, Bool.or_true, Bool.or_false, Bool.true_and, Bool.false_and, Bool.and_true, Bool.and_false, if_true, if_false, Bool.false_eq_true] at e) | (have e := cc_16 (a := (⟨b1, m1, r1⟩ : Cg)) (b := (⟨b2, m2, r2⟩ : Cg)); simp only [h1, h2, h3, Bool.not_true, Bool.not_false, Bool.true_or, Bool.false_or, Bool.or_true, Bool.or_false, Bool.true_and, Bool.false_and, Bool.and_true, Bool.and_false, if_true, if_false, Bool.false_eq_true] at e) | (have e := cc_16 (a := (⟨b1, m1, r1⟩ : Cg)) (b := (⟨b2, m2, r2⟩ : Cg)); simp only [h1, h2, Bool.not_true, Bool.not_false, Bool.true_or, Bool.false_or, Bool.or_true, Bool.or_false, Bool.true_and, Bool.false_and, Bool.and_true, Bool.and_false, if_true, if_false, Bool.false_eq_true] at e) | (have e := cc_16 (a := (⟨b1, m1, r1⟩ : Cg)) (b := (⟨b2, m2, r2⟩ : Cg)); simp only [h1, Bool.not_true, Bool.not_false, Bool.true_or, Bool.false_or, Bool.or_true, Bool.or_false, Bool.true_and, Bool.false_and, Bool.and_true, Bool.and_false, if_true, if_false, Bool.false_eq_true] at e) | (have e := cc_17 (a := (⟨b1, m1, r1⟩ : Cg)) (b := (⟨b2, m2, r2⟩ : Cg)); simp only [h5, h6, Bool.not_true, Bool.not_false, Bool.true_or, Bool.false_or, Bool.or_true, Bool.or_false, Bool.true_and, Bool.false_and, Bool.and_true, Bool.and_false, if_true, if_false, Bool.false_eq_true] at e) | (have e := cc_17 (a := (⟨b1, m1, r1⟩ : Cg)) (b := (⟨b2, m2, r2⟩ : Cg)); simp only [h5, Bool.not_true, Bool.not_false, Bool.true_or, Bool.false_or, Bool.or_true, Bool.or_false, Bool.true_and, Bool.false_and, Bool.and_true, Bool.and_false, if_true, if_false, Bool.false_eq_true] at e) | skip
   all_goals repeat' (first | exact trivial | (with_reducible first | exact hp0 | exact hp1 | exact hp2 | exact hp0.1 | exact hp0.2 | exact hp1.1 | exact hp1.2 | exact hp2.1 | exact hp2.2 | exact wd_ok _ | exact (wd_ok _).1.1 | exact (wd_ok _).1.2 | exact (wd_ok _).2.1 | exact (wd_ok _).2.2 | exact hp0 | exact hp1 | exact hp2 | exact hp3 | exact hp3.1 | exact hp3.2 | exact q1.1 | exact q1.2 | exact q1.1.1 | exact q1.1.2 | exact q1.2.1 | exact q1.2.2 | exact q2.1 | exact q2.2 | exact q2.1.1 | exact q2.1.2 | exact q2.2.1 | exact q2.2.2 | exact (fun h => absurd ((beq_eq_false_iff_ne.2 e12).symm.trans h) (by decide)) | exact (fun h => absurd ((beq_eq_false_iff_ne.2 e13).symm.trans h) (by decide)) | exact (fun h => absurd ((beq_eq_false_iff_ne.2 e14).symm.trans h) (by decide)) | exact (fun h => absurd ((beq_eq_false_iff_ne.2 e15).symm.trans h) (by decide)) | exact (fun h => absurd ((beq_eq_false_iff_ne.2 e16).symm.trans h) (by decide)) | exact (fun h => absurd ((beq_eq_false_iff_ne.2 e17).symm.trans h) (by decide)) | exact (fun h => absurd (ha.symm.trans h) (by decide)) | exact (fun h => absurd (hb.symm.trans h) (by decide)) | exact (fun h => absurd (h1.symm.trans h) (by decide)) | exact (fun h => absurd (h2.symm.trans h) (by decide)) | exact (fun h => absurd (h3.symm.trans h) (by decide)) | exact (fun h => absurd (h4.symm.trans h) (by decide)) | exact (fun h => absurd (h5.symm.trans h) (by decide)) | exact (fun h => absurd (h6.symm.trans h) (by decide)) | exact (fun h => absurd ((congrArg Bool.not ha).symm.trans h) (by decide)) | exact (fun h => absurd ((congrArg Bool.not hb).symm.trans h) (by decide)) | exact (fun h => absurd ((congrArg Bool.not h1).symm.trans h) (by decide)) | exact (fun h => absurd ((congrArg Bool.not h2).symm.trans h) (by decide)) | exact (fun h => absurd ((congrArg Bool.not h3).symm.trans h) (by decide)) | exact (fun h => absurd ((congrArg Bool.not h4).symm.trans h) (by decide)) | exact (fun h => absurd ((congrArg Bool.not h5).symm.trans h) (by decide)) | exact (fun h => absurd ((congrArg Bool.not h6).symm.trans h) (by decide)) | exact (fun h => absurd h (by decide))) | refine ⟨?_, ?_⟩ | intro _)
   all_goals first | (with_reducible first | apply qa | apply qb | apply qc | apply qd) | (conv => whnf)
   all_goals first | (with_reducible rfl) | decide | ((with_reducible show Value.bool (Cg.some _) = _); exact congrArg (fun i : Cg => Value.bool i.some) (e.symm)) | ((with_reducible show Value.int _ (Cg.m _) = _); exact congrArg (fun i : Cg => Value.int .i64 i.m) (e.symm)) | ((with_reducible show Value.int _ (Cg.r _) = _); exact congrArg (fun i : Cg => Value.int .i64 i.r) (e.symm)) | ((with_reducible show Value.bool (Cg.some _) = _); exact congrArg (fun i : Cg => Value.bool i.some) (cc_12.symm)) | ((with_reducible show Value.int _ (Cg.m _) = _); exact congrArg (fun i : Cg => Value.int .i64 i.m) (cc_12.symm)) | ((with_reducible show Value.int _ (Cg.r _) = _); exact congrArg (fun i : Cg => Value.int .i64 i.r) (cc_12.symm)) | ((with_reducible show Value.bool (Cg.some _) = _); exact congrArg (fun i : Cg => Value.bool i.some) (cc_13.symm)) | ((with_reducible show Value.int _ (Cg.m _) = _); exact congrArg (fun i : Cg => Value.int .i64 i.m) (cc_13.symm)) | ((with_reducible show Value.int _ (Cg.r _) = _); exact congrArg (fun i : Cg => Value.int .i64 i.r) (cc_13.symm)) | ((with_reducible show Value.bool false = _); exact congrArg (fun i : Cg => Value.bool i.some) ((cc_x (a := (⟨b1, m1, r1⟩ : Cg)) (b := (⟨b2, m2, r2⟩ : Cg)) ⟨e15, e14, e16, e17, e12, e13⟩).symm)) | ((with_reducible show Value.int _ 0 = _); first | exact congrArg (fun i : Cg => Value.int .i64 i.m) ((cc_x (a := (⟨b1, m1, r1⟩ : Cg)) (b := (⟨b2, m2, r2⟩ : Cg)) ⟨e15, e14, e16, e17, e12, e13⟩).symm) | exact congrArg (fun i : Cg => Value.int .i64 i.r) ((cc_x (a := (⟨b1, m1, r1⟩ : Cg)) (b := (⟨b2, m2, r2⟩ : Cg)) ⟨e15, e14, e16, e17, e12, e13⟩).symm)) | omega
 . cases h
def FRsDo : List Ar -> Option Rs
 | [.c (.d (.v (.int .i64 i0))), .agg [.d (.v (.bool b1)), .d (.v (.int .i64 m1)), .d (.v (.int .i64 r1))], .agg [.d (.v (.bool b2)), .d (.v (.int .i64 m2)), .d (.v (.int .i64 r2))], .c (.d (.v (.bool b3)))] => some ⟨(-9223372036854775808 <= i0 /\ i0 < 9223372036854775808) /\ (Cg.inR ⟨b1, m1, r1⟩) /\ (Cg.inR ⟨b2, m2, r2⟩), .va (Cg.ar (rsDo i0 (⟨b1, m1, r1⟩ : Cg) (⟨b2, m2, r2⟩ : Cg) b3)), []⟩
 | _ => none
theorem fcRsDo : FC Tryz.prog 106 FRsDo := by
 intro xs pre r us h hp
 unfold FRsDo at h
 split at h
 . rename_i i0 b1 m1 r1 b2 m2 r2 b3
   cases h
   obtain ⟨hp0, hp1, hp2⟩ := hp
   refine fcat tys_ok (l := [(86, ⟨[], FCClean⟩), (87, ⟨[], FCNone⟩), (146, ⟨[], FXDo⟩), (64, ⟨[], FCOne⟩), (147, ⟨[], FRsLinear⟩), (148, ⟨[], FRsGcd⟩), (149, ⟨[], FRsProduct⟩), (150, ⟨[], FRsQuo⟩), (151, ⟨[], FRsRest⟩), (152, ⟨[], FRsCmp⟩)]) ⟨fcCClean, fcCNone, fcXDo, fcCOne, fcRsLinear, fcRsGcd, fcRsProduct, fcRsQuo, fcRsRest, fcRsCmp, trivial⟩ Tryz.func106 rfl (by kernel_rfl) false ?_
   unfold rsDo
   have rA := Cg.clean_inR hp1
   have rB := Cg.clean_inR hp2
   have cA := rA
   have cB := rB
   unfold Cg.inR at rA rB
   have nA := Cg.clean_nn (⟨b1, m1, r1⟩ : Cg)
   have nB := Cg.clean_nn (⟨b2, m2, r2⟩ : Cg)
   have tA := cg_clean_tidy (⟨b1, m1, r1⟩ : Cg)
   have tB := cg_clean_tidy (⟨b2, m2, r2⟩ : Cg)
   have dR := doI_rng (op := i0) (b := (Cg.clean (⟨b2, m2, r2⟩ : Cg)).r) rA.2
   have hg := gcd_r rA.1 rB.1 ⟨nA, nB⟩
   all_goals first | (cases sA : ((Cg.clean (⟨b1, m1, r1⟩ : Cg))).some) | skip
   all_goals first | (have _ := (show _ = true from sA); cases sB : ((Cg.clean (⟨b2, m2, r2⟩ : Cg))).some) | skip
   all_goals first | (have _ := (show _ = true from sB); cases zA : (((Cg.clean (⟨b1, m1, r1⟩ : Cg))).m == 0)) | skip
   all_goals first | (have _ := (show _ = true from sB); cases zB : (((Cg.clean (⟨b2, m2, r2⟩ : Cg))).m == 0)) | skip
   all_goals first | (have _ := (show _ = true from zA); have _ := (show _ = true from zB); cases ze : (doE i0 ((Cg.clean (⟨b2, m2, r2⟩ : Cg))).r != 0)) | skip
   all_goals first | (have nz := nz1 (a := (Cg.clean (⟨b1, m1, r1⟩ : Cg))) (b := (Cg.clean (⟨b2, m2, r2⟩ : Cg))) zA) | (have nz := nz2 (a := (Cg.clean (⟨b1, m1, r1⟩ : Cg))) (b := (Cg.clean (⟨b2, m2, r2⟩ : Cg))) zB) | skip
   all_goals first | (have nq := And.intro nA (qpre tA tB nz); have nr := And.intro (And.intro nA nB) (nzo nz)) | skip
   all_goals first | (have _ := nz; by_cases e10 : i0 = 10) | skip
   all_goals first | (have _ := nz; have _ := (show ¬ _ from e10); by_cases e11 : i0 = 11) | skip
   all_goals first | (have _ := nz; have _ := (show ¬ _ from e11); by_cases e7 : i0 = 7) | skip
   all_goals first | (have _ := nz; have _ := (show ¬ _ from e7); by_cases e8 : i0 = 8) | skip
   all_goals first | (have _ := nz; have _ := (show ¬ _ from e8); by_cases e9 : i0 = 9) | skip
   all_goals first | subst e10 | subst e11 | subst e7 | subst e8 | subst e9 | skip
   all_goals first | (have e := rs_n1 (op := i0) (a := (Cg.clean (⟨b1, m1, r1⟩ : Cg))) (b := (Cg.clean (⟨b2, m2, r2⟩ : Cg))) (w := b3) sA) | (have e := rs_n2 (op := i0) (a := (Cg.clean (⟨b1, m1, r1⟩ : Cg))) (b := (Cg.clean (⟨b2, m2, r2⟩ : Cg))) (w := b3) sB) | (have e := rs_e (a := (Cg.clean (⟨b1, m1, r1⟩ : Cg))) (b := (Cg.clean (⟨b2, m2, r2⟩ : Cg))) (w := b3) sA sB zA zB ze) | (have e := rs_d (a := (Cg.clean (⟨b1, m1, r1⟩ : Cg))) (b := (Cg.clean (⟨b2, m2, r2⟩ : Cg))) (w := b3) sA sB zA zB ze) | skip
   all_goals repeat' (first | exact trivial | (with_reducible first | exact hp0 | exact hp1 | exact hp2 | exact rA | exact rB | exact nA | exact nB | exact rA.1 | exact rA.2 | exact rB.1 | exact rB.2 | exact And.intro nA nB | exact cA | exact cB | exact dR | exact hg | exact hg.1 | exact hg.2 | exact nq | exact nr | exact nr.1 | exact nr.2 | exact (fun h => absurd ((beq_eq_false_iff_ne.2 e7).symm.trans h) (by decide)) | exact (fun h => absurd ((beq_eq_false_iff_ne.2 e8).symm.trans h) (by decide)) | exact (fun h => absurd ((beq_eq_false_iff_ne.2 e9).symm.trans h) (by decide)) | exact (fun h => absurd ((beq_eq_false_iff_ne.2 e10).symm.trans h) (by decide)) | exact (fun h => absurd ((beq_eq_false_iff_ne.2 e11).symm.trans h) (by decide)) | exact (fun h => absurd (sA.symm.trans h) (by decide)) | exact (fun h => absurd (sB.symm.trans h) (by decide)) | exact (fun h => absurd (zA.symm.trans h) (by decide)) | exact (fun h => absurd (zB.symm.trans h) (by decide)) | exact (fun h => absurd (ze.symm.trans h) (by decide)) | exact (fun h => absurd ((congrArg Bool.not sA).symm.trans h) (by decide)) | exact (fun h => absurd ((congrArg Bool.not sB).symm.trans h) (by decide)) | exact (fun h => absurd ((congrArg Bool.not zA).symm.trans h) (by decide)) | exact (fun h => absurd ((congrArg Bool.not zB).symm.trans h) (by decide)) | exact (fun h => absurd ((congrArg Bool.not ze).symm.trans h) (by decide)) | exact (fun h => absurd h (by decide))) | refine ⟨?_, ?_⟩ | intro _)
   all_goals first | (with_reducible first | apply qa | apply qb | apply qc | apply qd) | (conv => whnf)
   all_goals first | (with_reducible rfl) | decide | ((with_reducible show Value.bool (Cg.some _) = _); exact congrArg (fun i : Cg => Value.bool i.some) (e.symm)) | ((with_reducible show Value.int _ (Cg.m _) = _); exact congrArg (fun i : Cg => Value.int .i64 i.m) (e.symm)) | ((with_reducible show Value.int _ (Cg.r _) = _); exact congrArg (fun i : Cg => Value.int .i64 i.r) (e.symm)) | ((with_reducible show Value.bool false = _); exact congrArg (fun i : Cg => Value.bool i.some) (e.symm)) | ((with_reducible show Value.int _ 0 = _); first | exact congrArg (fun i : Cg => Value.int .i64 i.m) (e.symm) | exact congrArg (fun i : Cg => Value.int .i64 i.r) (e.symm)) | ((with_reducible show Value.bool (Cg.some _) = _); exact congrArg (fun i : Cg => Value.bool i.some) ((rs_10 (a := (Cg.clean (⟨b1, m1, r1⟩ : Cg))) (b := (Cg.clean (⟨b2, m2, r2⟩ : Cg))) (w := b3) sA sB nz).symm)) | ((with_reducible show Value.int _ (Cg.m _) = _); exact congrArg (fun i : Cg => Value.int .i64 i.m) ((rs_10 (a := (Cg.clean (⟨b1, m1, r1⟩ : Cg))) (b := (Cg.clean (⟨b2, m2, r2⟩ : Cg))) (w := b3) sA sB nz).symm)) | ((with_reducible show Value.int _ (Cg.r _) = _); exact congrArg (fun i : Cg => Value.int .i64 i.r) ((rs_10 (a := (Cg.clean (⟨b1, m1, r1⟩ : Cg))) (b := (Cg.clean (⟨b2, m2, r2⟩ : Cg))) (w := b3) sA sB nz).symm)) | ((with_reducible show Value.bool (Cg.some _) = _); exact congrArg (fun i : Cg => Value.bool i.some) ((rs_11 (a := (Cg.clean (⟨b1, m1, r1⟩ : Cg))) (b := (Cg.clean (⟨b2, m2, r2⟩ : Cg))) (w := b3) sA sB nz).symm)) | ((with_reducible show Value.int _ (Cg.m _) = _); exact congrArg (fun i : Cg => Value.int .i64 i.m) ((rs_11 (a := (Cg.clean (⟨b1, m1, r1⟩ : Cg))) (b := (Cg.clean (⟨b2, m2, r2⟩ : Cg))) (w := b3) sA sB nz).symm)) | ((with_reducible show Value.int _ (Cg.r _) = _); exact congrArg (fun i : Cg => Value.int .i64 i.r) ((rs_11 (a := (Cg.clean (⟨b1, m1, r1⟩ : Cg))) (b := (Cg.clean (⟨b2, m2, r2⟩ : Cg))) (w := b3) sA sB nz).symm)) | ((with_reducible show Value.bool (Cg.some _) = _); exact congrArg (fun i : Cg => Value.bool i.some) ((rs_7 (a := (Cg.clean (⟨b1, m1, r1⟩ : Cg))) (b := (Cg.clean (⟨b2, m2, r2⟩ : Cg))) (w := b3) sA sB nz).symm)) | ((with_reducible show Value.int _ (Cg.m _) = _); exact congrArg (fun i : Cg => Value.int .i64 i.m) ((rs_7 (a := (Cg.clean (⟨b1, m1, r1⟩ : Cg))) (b := (Cg.clean (⟨b2, m2, r2⟩ : Cg))) (w := b3) sA sB nz).symm)) | ((with_reducible show Value.int _ (Cg.r _) = _); exact congrArg (fun i : Cg => Value.int .i64 i.r) ((rs_7 (a := (Cg.clean (⟨b1, m1, r1⟩ : Cg))) (b := (Cg.clean (⟨b2, m2, r2⟩ : Cg))) (w := b3) sA sB nz).symm)) | ((with_reducible show Value.bool (Cg.some _) = _); exact congrArg (fun i : Cg => Value.bool i.some) ((rs_8 (a := (Cg.clean (⟨b1, m1, r1⟩ : Cg))) (b := (Cg.clean (⟨b2, m2, r2⟩ : Cg))) (w := b3) sA sB nz).symm)) | ((with_reducible show Value.int _ (Cg.m _) = _); exact congrArg (fun i : Cg => Value.int .i64 i.m) ((rs_8 (a := (Cg.clean (⟨b1, m1, r1⟩ : Cg))) (b := (Cg.clean (⟨b2, m2, r2⟩ : Cg))) (w := b3) sA sB nz).symm)) | ((with_reducible show Value.int _ (Cg.r _) = _); exact congrArg (fun i : Cg => Value.int .i64 i.r) ((rs_8 (a := (Cg.clean (⟨b1, m1, r1⟩ : Cg))) (b := (Cg.clean (⟨b2, m2, r2⟩ : Cg))) (w := b3) sA sB nz).symm)) | ((with_reducible show Value.bool (Cg.some _) = _); exact congrArg (fun i : Cg => Value.bool i.some) ((rs_9 (a := (Cg.clean (⟨b1, m1, r1⟩ : Cg))) (b := (Cg.clean (⟨b2, m2, r2⟩ : Cg))) (w := b3) sA sB nz).symm)) | ((with_reducible show Value.int _ (Cg.m _) = _); exact congrArg (fun i : Cg => Value.int .i64 i.m) ((rs_9 (a := (Cg.clean (⟨b1, m1, r1⟩ : Cg))) (b := (Cg.clean (⟨b2, m2, r2⟩ : Cg))) (w := b3) sA sB nz).symm)) | ((with_reducible show Value.int _ (Cg.r _) = _); exact congrArg (fun i : Cg => Value.int .i64 i.r) ((rs_9 (a := (Cg.clean (⟨b1, m1, r1⟩ : Cg))) (b := (Cg.clean (⟨b2, m2, r2⟩ : Cg))) (w := b3) sA sB nz).symm)) | ((with_reducible show Value.bool (Cg.some _) = _); exact congrArg (fun i : Cg => Value.bool i.some) ((rs_c (a := (Cg.clean (⟨b1, m1, r1⟩ : Cg))) (b := (Cg.clean (⟨b2, m2, r2⟩ : Cg))) (w := b3) sA sB nz ⟨e10, e11, e7, e8, e9⟩).symm)) | ((with_reducible show Value.int _ (Cg.m _) = _); exact congrArg (fun i : Cg => Value.int .i64 i.m) ((rs_c (a := (Cg.clean (⟨b1, m1, r1⟩ : Cg))) (b := (Cg.clean (⟨b2, m2, r2⟩ : Cg))) (w := b3) sA sB nz ⟨e10, e11, e7, e8, e9⟩).symm)) | ((with_reducible show Value.int _ (Cg.r _) = _); exact congrArg (fun i : Cg => Value.int .i64 i.r) ((rs_c (a := (Cg.clean (⟨b1, m1, r1⟩ : Cg))) (b := (Cg.clean (⟨b2, m2, r2⟩ : Cg))) (w := b3) sA sB nz ⟨e10, e11, e7, e8, e9⟩).symm))
 . cases h
section
variable {op : Int} {a : Cg} {w : Bool}
theorem cg00_inR : (Cg.of 0 0).inR := Cg.of_inR 0 0 (by decide) (by decide) (by decide) (by decide)
end
def FRsOne : List Ar -> Option Rs
 | [.c (.d (.v (.int .i64 i0))), .agg [.d (.v (.bool b1)), .d (.v (.int .i64 m1)), .d (.v (.int .i64 r1))], .c (.d (.v (.bool b2)))] => some ⟨(-9223372036854775808 <= i0 /\ i0 < 9223372036854775808) /\ (Cg.inR ⟨b1, m1, r1⟩), .va (Cg.ar (rsOne i0 (⟨b1, m1, r1⟩ : Cg) b2)), []⟩
 | _ => none
def FVCleanV : List Ar -> Option Rs
 | [.agg [.d (.v (.bool s0)), .d (.v (.int .i64 l0)), .d (.v (.int .i64 h0)), .d (.v (.bool b0)), .d (.v (.int .i64 m0)), .d (.v (.int .i64 r0)), .d (.v (.bool z0)), .d (.lst 1 n0 f0)]] => some ⟨((n0 * 16 <= 140737488351232 /\ ∀ i, i < n0 -> f0 i = [st (gT (f0 i))]) /\ Sp.inR ⟨s0, l0, h0⟩ /\ Cg.inR ⟨b0, m0, r0⟩), .va (Vl.ar (Vl.of (⟨⟨⟨s0, l0, h0⟩, ⟨b0, m0, r0⟩⟩, ⟨z0, gN n0 f0⟩⟩ : Vl))), []⟩
 | _ => none
theorem fcVCleanV : FC Tryz.prog 60 FVCleanV := by
 intro xs pre r us h hp
 unfold FVCleanV at h
 split at h
 . rename_i s0 l0 h0 b0 m0 r0 z0 n0 f0
   cases h
   have hp0 := hp
   refine FCat.of_eq (as' := [.agg [.d (.v (.bool s0)), .d (.v (.int .i64 l0)), .d (.v (.int .i64 h0)), .d (.v (.bool b0)), .d (.v (.int .i64 m0)), .d (.v (.int .i64 r0)), .d (.v (.bool z0)), .d (.lst 1 n0 fun i => [st (gT (f0 i))])]]) ?_ rfl rfl ?_
   . repeat' (first | exact trivial | exact rfl | refine ⟨?_, ?_⟩ | fail)
     all_goals first | exact hp0.2 | exact hp1.2 | exact hp2.2 | (intro i hi; exact (hp0.2 i hi).1) | (intro i hi; exact (hp1.2 i hi).1) | (intro i hi; exact (hp2.2 i hi).1) | grind
   refine fcat tys_ok (l := [(33, ⟨[], FVOf⟩), (37, ⟨[], FVValue⟩)]) ⟨fcVOf, fcVValue, trivial⟩ Tryz.func60 rfl (by kernel_rfl) true ?_
   have hv0 : okV (⟨⟨⟨s0, l0, h0⟩, ⟨b0, m0, r0⟩⟩, ⟨z0, gN n0 fun i => [st (gT (f0 i))]⟩⟩ : Vl) := ⟨⟨(by rw [gN_length]; exact hp0.1.1), fun _ _ => rfl⟩, hp0.2⟩
   have ho0 := okV_of hv0
   have hoo0 := okV_of ho0
   unfold okV at ho0 hoo0
   repeat' (first | exact trivial | (with_reducible first | exact ho0 | exact ho0.1 | exact ho0.2.1 | exact ho0.2.2 | exact hp0 | exact hp0.1 | exact hp0.2 | exact hp0.2.1 | exact hp0.2.2 | exact hoo0 | exact hoo0.1 | exact hoo0.2.1 | exact hoo0.2.2) | refine ⟨?_, ?_⟩ | intro _)
   all_goals first | (with_reducible first | apply qa | apply qb | apply qc | apply qd) | (conv => whnf)
   all_goals (try simp only [gN_lst] at *)
   all_goals first | rfl | (with_reducible exact hp0.1.1)
 . cases h
section
variable {op : Int} {a b : Sp}
theorem wr_n1 (h : a.none = true) : wrB op a b = false := by unfold wrB; rw [if_pos (by rw [h]; rfl)]
theorem wr_n2 (h : b.none = true) : wrB op a b = false := by unfold wrB; rw [if_pos (by rw [h]; cases a.none <;> rfl)]
theorem wr_8 (h : a.none = false) (h2 : b.none = false) : wrB 8 a b = (a.has (-9223372036854775808) && b.has (-1)) := by unfold wrB; rw [if_neg (by rw [h, h2]; decide), if_pos rfl]
theorem wr_x (h : a.none = false) (h2 : b.none = false) (h8 : op ≠ 8) : wrB op a b = (corners (exI op) a b).any fun e => exB op && !wIntB e := by unfold wrB; rw [if_neg (by rw [h, h2]; decide), if_neg h8]
theorem wr_c0 (h : a.none = false) (h2 : b.none = false) (h8 : op ≠ 8) (hx : exB op = true) : wrB op a b = (!wIntB (exI op a.lo b.lo) || (!wIntB (exI op a.lo b.hi) || (!wIntB (exI op a.hi b.lo) || (!wIntB (exI op a.hi b.hi) || false)))) := by
 rw [wr_x h h2 h8, hx]; rfl
theorem exv {x y : Int} (rx : -9223372036854775808 <= x /\ x < 9223372036854775808) (ry : -9223372036854775808 <= y /\ y < 9223372036854775808) : (wd (exI op x y)).val = exI op x y := by have := ex_rng (op := op) rx ry; exact wd_valS this.1 this.2
theorem wr_c (ra : (-9223372036854775808 <= a.lo /\ a.lo < 9223372036854775808) /\ -9223372036854775808 <= a.hi /\ a.hi < 9223372036854775808) (rb : (-9223372036854775808 <= b.lo /\ b.lo < 9223372036854775808) /\ -9223372036854775808 <= b.hi /\ b.hi < 9223372036854775808) (h : a.none = false) (h2 : b.none = false) (h8 : op ≠ 8) (hx : exB op = true) : wrB op a b = (!wIntB (wd (exI op a.lo b.lo)).val || (!wIntB (wd (exI op a.lo b.hi)).val || (!wIntB (wd (exI op a.hi b.lo)).val || (!wIntB (wd (exI op a.hi b.hi)).val || false)))) := by
 rw [exv ra.1 rb.1, exv ra.1 rb.2, exv ra.2 rb.1, exv ra.2 rb.2]; exact wr_c0 h h2 h8 hx
theorem wr_f (h : a.none = false) (h2 : b.none = false) (h8 : op ≠ 8) (hx : exB op = false) : wrB op a b = false := by
 rw [wr_x h h2 h8, hx]; rfl
end
def FCWraps : List Ar -> Option Rs
 | [.c (.d (.v (.int .i64 i0))), .agg [.d (.v (.bool s1)), .d (.v (.int .i64 l1)), .d (.v (.int .i64 h1))], .agg [.d (.v (.bool s2)), .d (.v (.int .i64 l2)), .d (.v (.int .i64 h2))]] => some ⟨(-9223372036854775808 <= i0 /\ i0 < 9223372036854775808) /\ (Sp.inR ⟨s1, l1, h1⟩) /\ (Sp.inR ⟨s2, l2, h2⟩), .va (.c (.d (bo (wrB i0 (⟨s1, l1, h1⟩ : Sp) (⟨s2, l2, h2⟩ : Sp))))), []⟩
 | _ => none
abbrev sl2E : List (Nat × Sm) := [(83, ⟨[], FSNone⟩), (47, ⟨[], FSHas⟩), (117, ⟨[], FXExact⟩), (94, ⟨[], FWInt⟩)]
theorem sp2E : sumsOk Tryz.prog sl2E := ⟨fcSNone, fcSHas, fcXExact, fcWInt, trivial⟩
theorem fcCWraps : FC Tryz.prog 78 FCWraps := by
 intro xs pre r us h hp
 unfold FCWraps at h
 split at h
 . rename_i i0 s1 l1 h1 s2 l2 h2
   cases h
   obtain ⟨hp0, hp1, hp2⟩ := hp
   refine fcat tys_ok (l := sl2E) sp2E Tryz.func78 rfl (by kernel_rfl) false ?_
   unfold Sp.inR at hp1 hp2
   have hi0 : decide ((0 : Int) < 2) = true := rfl
   have hi1 : decide (IntKind.i64.wrap (0 + 1) < (2 : Int)) = true := rfl
   have hi2 : decide (IntKind.i64.wrap (IntKind.i64.wrap (0 + 1) + 1) < (2 : Int)) = false := rfl
   all_goals first | (by_cases e8 : i0 = 8) | skip
   all_goals first | (cases nA : Sp.none (⟨s1, l1, h1⟩ : Sp)) | skip
   all_goals first | (have _ := (show _ = false from nA); cases nB : Sp.none (⟨s2, l2, h2⟩ : Sp)) | skip
   all_goals first | (have _ := (show _ = false from nB); have _ := (show ¬ _ from e8); cases hx : exB i0) | skip
   all_goals first | (have _ := (show _ = true from hx); cases w0 : wIntB ((wd (exI i0 l1 l2)).val)) | skip
   all_goals first | (have _ := (show _ = true from w0); cases w1 : wIntB ((wd (exI i0 l1 h2)).val)) | skip
   all_goals first | (have _ := (show _ = true from w1); cases w2 : wIntB ((wd (exI i0 h1 l2)).val)) | skip
   all_goals first | (have _ := (show _ = true from w2); cases w3 : wIntB ((wd (exI i0 h1 h2)).val)) | skip
   all_goals first | (have k8 := e8; have _ := (show _ = _ from k8)) | skip
   all_goals first | subst e8 | skip
   all_goals first | (have e := wr_n1 (op := i0) (a := (⟨s1, l1, h1⟩ : Sp)) (b := (⟨s2, l2, h2⟩ : Sp)) nA) | (have e := wr_n2 (op := i0) (a := (⟨s1, l1, h1⟩ : Sp)) (b := (⟨s2, l2, h2⟩ : Sp)) nB) | (have _ := k8; have e := wr_8 (a := (⟨s1, l1, h1⟩ : Sp)) (b := (⟨s2, l2, h2⟩ : Sp)) nA nB) | (have e := wr_f (a := (⟨s1, l1, h1⟩ : Sp)) (b := (⟨s2, l2, h2⟩ : Sp)) nA nB e8 hx) | (have e := wr_c (a := (⟨s1, l1, h1⟩ : Sp)) (b := (⟨s2, l2, h2⟩ : Sp)) hp1 hp2 nA nB e8 hx) | (have e := wr_n1 (op := 8) (a := (⟨s1, l1, h1⟩ : Sp)) (b := (⟨s2, l2, h2⟩ : Sp)) nA) | (have e := wr_n2 (op := 8) (a := (⟨s1, l1, h1⟩ : Sp)) (b := (⟨s2, l2, h2⟩ : Sp)) nB) | skip
   all_goals repeat' (first | exact trivial | (with_reducible first | exact hp0 | exact hp1 | exact hp2 | exact hp1.1 | exact hp1.2 | exact hp2.1 | exact hp2.2 | exact And.intro hp0 (And.intro hp1.1 hp2.1) | exact And.intro hp0 (And.intro hp1.1 hp2.2) | exact And.intro hp0 (And.intro hp1.2 hp2.1) | exact And.intro hp0 (And.intro hp1.2 hp2.2) | exact wd_ok _ | exact (wd_ok _).1.1 | exact (wd_ok _).1.2 | exact (wd_ok _).2.1 | exact (wd_ok _).2.2 | exact (fun h : (0 : Int) = ((1 : Nat) : Int) => absurd h (by decide)) | exact (fun h : IntKind.i64.wrap (0 + 1) = ((0 : Nat) : Int) => absurd h (by decide)) | exact (fun h => absurd (hi0.symm.trans h) (by decide)) | exact (fun h => absurd (hi1.symm.trans h) (by decide)) | exact (fun h => absurd (hi2.symm.trans h) (by decide)) | exact (fun h => absurd ((beq_eq_false_iff_ne.2 e8).symm.trans h) (by decide)) | exact (fun h => absurd (nA.symm.trans h) (by decide)) | exact (fun h => absurd (nB.symm.trans h) (by decide)) | exact (fun h => absurd (hx.symm.trans h) (by decide)) | exact (fun h => absurd (w0.symm.trans h) (by decide)) | exact (fun h => absurd (w1.symm.trans h) (by decide)) | exact (fun h => absurd (w2.symm.trans h) (by decide)) | exact (fun h => absurd (w3.symm.trans h) (by decide)) | exact (fun h => absurd ((congrArg Bool.not nA).symm.trans h) (by decide)) | exact (fun h => absurd ((congrArg Bool.not nB).symm.trans h) (by decide)) | exact (fun h => absurd ((congrArg Bool.not hx).symm.trans h) (by decide)) | exact (fun h => absurd ((congrArg Bool.not w0).symm.trans h) (by decide)) | exact (fun h => absurd ((congrArg Bool.not w1).symm.trans h) (by decide)) | exact (fun h => absurd ((congrArg Bool.not w2).symm.trans h) (by decide)) | exact (fun h => absurd ((congrArg Bool.not w3).symm.trans h) (by decide)) | exact (fun h => absurd h (by decide))) | refine ⟨?_, ?_⟩ | intro _)
   all_goals first | (with_reducible first | apply qa | apply qb | apply qc | apply qd) | (conv => whnf)
   all_goals first | ((with_reducible show ASat _ _ _ _ _); refine loop_n tys_ok (l := sl2E) sp2E (by kernel_rfl) 3 ?_) | skip
   all_goals repeat' (first | exact trivial | (with_reducible first | exact hp0 | exact hp1 | exact hp2 | exact hp1.1 | exact hp1.2 | exact hp2.1 | exact hp2.2 | exact And.intro hp0 (And.intro hp1.1 hp2.1) | exact And.intro hp0 (And.intro hp1.1 hp2.2) | exact And.intro hp0 (And.intro hp1.2 hp2.1) | exact And.intro hp0 (And.intro hp1.2 hp2.2) | exact wd_ok _ | exact (wd_ok _).1.1 | exact (wd_ok _).1.2 | exact (wd_ok _).2.1 | exact (wd_ok _).2.2 | exact (fun h : (0 : Int) = ((1 : Nat) : Int) => absurd h (by decide)) | exact (fun h : IntKind.i64.wrap (0 + 1) = ((0 : Nat) : Int) => absurd h (by decide)) | exact (fun h => absurd (hi0.symm.trans h) (by decide)) | exact (fun h => absurd (hi1.symm.trans h) (by decide)) | exact (fun h => absurd (hi2.symm.trans h) (by decide)) | exact (fun h => absurd ((beq_eq_false_iff_ne.2 e8).symm.trans h) (by decide)) | exact (fun h => absurd (nA.symm.trans h) (by decide)) | exact (fun h => absurd (nB.symm.trans h) (by decide)) | exact (fun h => absurd (hx.symm.trans h) (by decide)) | exact (fun h => absurd (w0.symm.trans h) (by decide)) | exact (fun h => absurd (w1.symm.trans h) (by decide)) | exact (fun h => absurd (w2.symm.trans h) (by decide)) | exact (fun h => absurd (w3.symm.trans h) (by decide)) | exact (fun h => absurd ((congrArg Bool.not nA).symm.trans h) (by decide)) | exact (fun h => absurd ((congrArg Bool.not nB).symm.trans h) (by decide)) | exact (fun h => absurd ((congrArg Bool.not hx).symm.trans h) (by decide)) | exact (fun h => absurd ((congrArg Bool.not w0).symm.trans h) (by decide)) | exact (fun h => absurd ((congrArg Bool.not w1).symm.trans h) (by decide)) | exact (fun h => absurd ((congrArg Bool.not w2).symm.trans h) (by decide)) | exact (fun h => absurd ((congrArg Bool.not w3).symm.trans h) (by decide)) | exact (fun h => absurd h (by decide))) | refine ⟨?_, ?_⟩ | intro _)
   all_goals first | (with_reducible first | apply qa | apply qb | apply qc | apply qd) | (conv => whnf)
   all_goals first | ((with_reducible show ASat _ _ _ _ _); refine loop_n tys_ok (l := sl2E) sp2E (by kernel_rfl) 3 ?_) | skip
   all_goals repeat' (first | exact trivial | (with_reducible first | exact hp0 | exact hp1 | exact hp2 | exact hp1.1 | exact hp1.2 | exact hp2.1 | exact hp2.2 | exact And.intro hp0 (And.intro hp1.1 hp2.1) | exact And.intro hp0 (And.intro hp1.1 hp2.2) | exact And.intro hp0 (And.intro hp1.2 hp2.1) | exact And.intro hp0 (And.intro hp1.2 hp2.2) | exact wd_ok _ | exact (wd_ok _).1.1 | exact (wd_ok _).1.2 | exact (wd_ok _).2.1 | exact (wd_ok _).2.2 | exact (fun h : (0 : Int) = ((1 : Nat) : Int) => absurd h (by decide)) | exact (fun h : IntKind.i64.wrap (0 + 1) = ((0 : Nat) : Int) => absurd h (by decide)) | exact (fun h => absurd (hi0.symm.trans h) (by decide)) | exact (fun h => absurd (hi1.symm.trans h) (by decide)) | exact (fun h => absurd (hi2.symm.trans h) (by decide)) | exact (fun h => absurd ((beq_eq_false_iff_ne.2 e8).symm.trans h) (by decide)) | exact (fun h => absurd (nA.symm.trans h) (by decide)) | exact (fun h => absurd (nB.symm.trans h) (by decide)) | exact (fun h => absurd (hx.symm.trans h) (by decide)) | exact (fun h => absurd (w0.symm.trans h) (by decide)) | exact (fun h => absurd (w1.symm.trans h) (by decide)) | exact (fun h => absurd (w2.symm.trans h) (by decide)) | exact (fun h => absurd (w3.symm.trans h) (by decide)) | exact (fun h => absurd ((congrArg Bool.not nA).symm.trans h) (by decide)) | exact (fun h => absurd ((congrArg Bool.not nB).symm.trans h) (by decide)) | exact (fun h => absurd ((congrArg Bool.not hx).symm.trans h) (by decide)) | exact (fun h => absurd ((congrArg Bool.not w0).symm.trans h) (by decide)) | exact (fun h => absurd ((congrArg Bool.not w1).symm.trans h) (by decide)) | exact (fun h => absurd ((congrArg Bool.not w2).symm.trans h) (by decide)) | exact (fun h => absurd ((congrArg Bool.not w3).symm.trans h) (by decide)) | exact (fun h => absurd h (by decide))) | refine ⟨?_, ?_⟩ | intro _)
   all_goals first | (with_reducible first | apply qa | apply qb | apply qc | apply qd) | (conv => whnf)
   all_goals first | ((with_reducible show ASat _ _ _ _ _); refine loop_n tys_ok (l := sl2E) sp2E (by kernel_rfl) 3 ?_) | skip
   all_goals repeat' (first | exact trivial | (with_reducible first | exact hp0 | exact hp1 | exact hp2 | exact hp1.1 | exact hp1.2 | exact hp2.1 | exact hp2.2 | exact And.intro hp0 (And.intro hp1.1 hp2.1) | exact And.intro hp0 (And.intro hp1.1 hp2.2) | exact And.intro hp0 (And.intro hp1.2 hp2.1) | exact And.intro hp0 (And.intro hp1.2 hp2.2) | exact wd_ok _ | exact (wd_ok _).1.1 | exact (wd_ok _).1.2 | exact (wd_ok _).2.1 | exact (wd_ok _).2.2 | exact (fun h : (0 : Int) = ((1 : Nat) : Int) => absurd h (by decide)) | exact (fun h : IntKind.i64.wrap (0 + 1) = ((0 : Nat) : Int) => absurd h (by decide)) | exact (fun h => absurd (hi0.symm.trans h) (by decide)) | exact (fun h => absurd (hi1.symm.trans h) (by decide)) | exact (fun h => absurd (hi2.symm.trans h) (by decide)) | exact (fun h => absurd ((beq_eq_false_iff_ne.2 e8).symm.trans h) (by decide)) | exact (fun h => absurd (nA.symm.trans h) (by decide)) | exact (fun h => absurd (nB.symm.trans h) (by decide)) | exact (fun h => absurd (hx.symm.trans h) (by decide)) | exact (fun h => absurd (w0.symm.trans h) (by decide)) | exact (fun h => absurd (w1.symm.trans h) (by decide)) | exact (fun h => absurd (w2.symm.trans h) (by decide)) | exact (fun h => absurd (w3.symm.trans h) (by decide)) | exact (fun h => absurd ((congrArg Bool.not nA).symm.trans h) (by decide)) | exact (fun h => absurd ((congrArg Bool.not nB).symm.trans h) (by decide)) | exact (fun h => absurd ((congrArg Bool.not hx).symm.trans h) (by decide)) | exact (fun h => absurd ((congrArg Bool.not w0).symm.trans h) (by decide)) | exact (fun h => absurd ((congrArg Bool.not w1).symm.trans h) (by decide)) | exact (fun h => absurd ((congrArg Bool.not w2).symm.trans h) (by decide)) | exact (fun h => absurd ((congrArg Bool.not w3).symm.trans h) (by decide)) | exact (fun h => absurd h (by decide))) | refine ⟨?_, ?_⟩ | intro _)
   all_goals first | (with_reducible first | apply qa | apply qb | apply qc | apply qd) | (conv => whnf)
   all_goals first | ((with_reducible show ASat _ _ _ _ _); refine loop_n tys_ok (l := sl2E) sp2E (by kernel_rfl) 3 ?_) | skip
   all_goals repeat' (first | exact trivial | (with_reducible first | exact hp0 | exact hp1 | exact hp2 | exact hp1.1 | exact hp1.2 | exact hp2.1 | exact hp2.2 | exact And.intro hp0 (And.intro hp1.1 hp2.1) | exact And.intro hp0 (And.intro hp1.1 hp2.2) | exact And.intro hp0 (And.intro hp1.2 hp2.1) | exact And.intro hp0 (And.intro hp1.2 hp2.2) | exact wd_ok _ | exact (wd_ok _).1.1 | exact (wd_ok _).1.2 | exact (wd_ok _).2.1 | exact (wd_ok _).2.2 | exact (fun h : (0 : Int) = ((1 : Nat) : Int) => absurd h (by decide)) | exact (fun h : IntKind.i64.wrap (0 + 1) = ((0 : Nat) : Int) => absurd h (by decide)) | exact (fun h => absurd (hi0.symm.trans h) (by decide)) | exact (fun h => absurd (hi1.symm.trans h) (by decide)) | exact (fun h => absurd (hi2.symm.trans h) (by decide)) | exact (fun h => absurd ((beq_eq_false_iff_ne.2 e8).symm.trans h) (by decide)) | exact (fun h => absurd (nA.symm.trans h) (by decide)) | exact (fun h => absurd (nB.symm.trans h) (by decide)) | exact (fun h => absurd (hx.symm.trans h) (by decide)) | exact (fun h => absurd (w0.symm.trans h) (by decide)) | exact (fun h => absurd (w1.symm.trans h) (by decide)) | exact (fun h => absurd (w2.symm.trans h) (by decide)) | exact (fun h => absurd (w3.symm.trans h) (by decide)) | exact (fun h => absurd ((congrArg Bool.not nA).symm.trans h) (by decide)) | exact (fun h => absurd ((congrArg Bool.not nB).symm.trans h) (by decide)) | exact (fun h => absurd ((congrArg Bool.not hx).symm.trans h) (by decide)) | exact (fun h => absurd ((congrArg Bool.not w0).symm.trans h) (by decide)) | exact (fun h => absurd ((congrArg Bool.not w1).symm.trans h) (by decide)) | exact (fun h => absurd ((congrArg Bool.not w2).symm.trans h) (by decide)) | exact (fun h => absurd ((congrArg Bool.not w3).symm.trans h) (by decide)) | exact (fun h => absurd h (by decide))) | refine ⟨?_, ?_⟩ | intro _)
   all_goals first | (with_reducible first | apply qa | apply qb | apply qc | apply qd) | (conv => whnf)
   all_goals first | (with_reducible rfl) | decide | ((with_reducible show Value.bool _ = _); first | (rw [e]; done) | (rw [e]; rfl) | (rw [e]; simp only [*, Bool.not_true, Bool.not_false, Bool.true_or, Bool.false_or, Bool.true_and, Bool.false_and]; done))
 . cases h
theorem wrapI_inR (l h : Int) : (wrapI l h).inR := by
 have ha : allS.inR := by unfold allS; exact Sp.of_inR (by unfold rI; decide) (by unfold rI; decide)
 unfold wrapI; (repeat' split)
 . exact ha
 . exact ha
 . exact Sp.of_inR (wr_r l) (wr_r h)
theorem noS_inR : noS.inR := by unfold noS Sp.inR; decide
theorem around_inR (l : List Int) : (around l).inR := by
 cases l with
 | nil => exact noS_inR
 | cons x l => exact wrapI_inR _ _
theorem truthS_inR (x y : Bool) : (truthS x y).inR := by
 have a1 : (Sp.of 1 1).inR := Sp.of_inR (by unfold rI; decide) (by unfold rI; decide)
 have a2 : (Sp.of 0 0).inR := Sp.of_inR (by unfold rI; decide) (by unfold rI; decide)
 have a3 : (Sp.of 0 1).inR := Sp.of_inR (by unfold rI; decide) (by unfold rI; decide)
 unfold truthS; (repeat' split) <;> assumption
theorem cmpS_inR (op : Int) (a b : Sp) : (cmpS op a b).inR := by
 unfold cmpS; (repeat' split) <;> first | exact truthS_inR _ _ | exact noS_inR
theorem restS_inR {a b : Sp} (ha : a.inR) (hb : b.inR) : (restS a b).inR := by
 have hr := restM_r hb
 have hd := doI_rng (op := 9) (b := b.lo) ha.1
 obtain ⟨⟨a1, a2⟩, a3, a4⟩ := ha
 unfold restS; (repeat' split)
 all_goals first | exact noS_inR | exact Sp.of_inR hd hd | (refine Sp.of_inR ?_ ?_ <;> (unfold rI; omega))
theorem rkDo_inR {op : Int} {a b : Sp} (ha : a.inR) (hb : b.inR) : (rkDo op a b).inR := by
 unfold rkDo divS; (repeat' split) <;> first | exact noS_inR | exact around_inR _ | exact restS_inR ha hb | exact cmpS_inR _ _ _
theorem cg_inR1 {m r : Int} (h : 0 <= m /\ m < 9223372036854775808) (hr : -9223372036854775808 <= r /\ r < 9223372036854775808) : (Cg.of m r).inR := Cg.of_inR m r (by omega) h.2 hr.1 hr.2
theorem cg_none_inR : Cg.none.inR := by unfold Cg.none Cg.inR; decide
theorem cg_all_inR : (Cg.of 1 0).inR := cg_inR1 (by decide) (by decide)
theorem linC_inR {op m : Int} {a b : Cg} {w : Bool} (h : 0 <= m /\ m < 9223372036854775808) : (linC op m a b w).inR := by
 have hP := part_r h.1 h.2
 have key : ∀ k : Int, 0 <= k -> k < 9223372036854775808 -> (if exB op = false \/ k = 0 then Cg.all else Cg.of k (exI op a.r b.r % k)).inR := by
  intro k k0 k1
  split
  . exact cg_all_inR
  . rename_i hh
    have hk : k ≠ 0 := fun e => hh (.inr e)
    have e1 := Int.emod_nonneg (exI op a.r b.r) hk
    have e2 := Int.emod_lt_of_pos (exI op a.r b.r) (show 0 < k by omega)
    exact cg_inR1 ⟨k0, k1⟩ (by omega)
 unfold linC; split
 . exact key _ hP.1 hP.2
 . exact key _ h.1 h.2
theorem prod0_inR {a b : Cg} {w : Bool} (ra : a.inR) (rb : b.inR) (ha : 0 <= a.m) (hb : 0 <= b.m) : (prod0 a b w).inR := by
 have hg := gcd_r ra.1 rb.1 ⟨ha, hb⟩
 have hs := scl_r (c := a.r) rb.1 hb
 unfold prod0; (repeat' split)
 . exact cg00_inR
 . exact linC_inR ⟨hs.2, hs.1.2⟩
 . exact linC_inR ⟨hg.2, hg.1.2⟩
theorem rsDo0_inR {op : Int} {a b : Cg} {w : Bool} (ra : a.inR) (rb : b.inR) (ha : 0 <= a.m) (hb : 0 <= b.m) (ta : a.tidy) (tb : b.tidy) : (rsDo0 op a b w).inR := by
 have hg := gcd_r ra.1 rb.1 ⟨ha, hb⟩
 have h01 : (Cg.of 0 1).inR := cg_inR1 (by decide) (by decide)
 unfold rsDo0
 split
 . exact cg_none_inR
 . split
   . split
     . exact cg_none_inR
     . exact cg_inR1 (by decide) (doI_rng ra.2)
   . rename_i nz
     (repeat' split)
     . exact linC_inR ⟨hg.2, hg.1.2⟩
     . unfold prodC; split
       . exact prod0_inR rb ra hb ha
       . exact prod0_inR ra rb ha hb
     . unfold quoC; (repeat' split)
       . exact cg_none_inR
       . exact cg_all_inR
       . exact cg_all_inR
       . rename_i h1 h2 h3
         have hl : alC b 0 = false := by simpa using h1
         have hbm : b.m = 0 := by omega
         have hz : b.r ≠ 0 := al_r hl (by simp [hbm])
         have q := quo_rng ra.2 rb.2 hz (qpre ta tb nz)
         have hp := size_pos hz
         have d1 := Int.ediv_nonneg ha (Int.le_of_lt hp)
         have d2 := Int.ediv_le_self (sizeI b.r) ha
         have := ra.1
         exact cg_inR1 ⟨d1, by omega⟩ q
     . unfold rstC; split
       . exact cg_none_inR
       . have hp : 0 < Int.gcd a.m b.m := by rw [Int.gcd_pos_iff]; exact nzo nz
         have hle : Int.gcd (Int.gcd a.m b.m : Int) (sizeI b.r) <= Int.gcd a.m b.m := Nat.le_of_dvd hp (Int.ofNat_dvd.1 (Int.gcd_dvd_left ..))
         exact cg_inR1 (by omega) ra.2
     . unfold cmpC; (repeat' split) <;> first | exact cg_none_inR | exact h01 | exact cg00_inR | exact cg_all_inR
theorem rsDo_inR {op : Int} {a b : Cg} {w : Bool} (ra : a.inR) (rb : b.inR) : (rsDo op a b w).inR :=
 rsDo0_inR (Cg.clean_inR ra) (Cg.clean_inR rb) (Cg.clean_nn a) (Cg.clean_nn b) (cg_clean_tidy a) (cg_clean_tidy b)
def zeroV : Vl := ⟨Ig.zero, ⟨false, []⟩⟩
def intsB (v : Vl) : Bool := !v.i.s.none && v.i.c.some
def bothV (s : Sp) (c : Cg) : Vl := if s.none = true then zeroV else if c.some = false then zeroV else Vl.reduce ⟨⟨s, c⟩, ⟨false, []⟩⟩
def numV (op : Int) (a b : Vl) : Vl := if intsB a = false then zeroV else if intsB b = false then zeroV else bothV (rkDo op a.i.s b.i.s) (rsDo op a.i.c b.i.c (wrB op a.i.s b.i.s))
def lenN (a : Ns) : Int := ((ofS a.names).length : Int) + if a.null then 1 else 0
def onlyB (a : Ns) : Bool := !a.null && decide ((ofS a.names).length = 1)
def onlyT (a : Ns) : ByteArray := if onlyB a then atS (ofS a.names) 0 else ByteArray.empty
def mayB (a b : Ns) : Bool := !(!(a.null && b.null) && decide (ofS (meetS a.names b.names) = []))
def mustB (a b : Ns) : Bool := mayB a b && (lenN a == 1 && lenN b == 1)
def eqMust (a b : Ns) (many : List ByteArray) : Bool := mustB a b && !(onlyB a && memS (onlyT a) many)
def noneN (a : Ns) : Bool := !a.null && decide (a.names = [])
def numO (n : Int) : Vl := ⟨⟨Sp.of n n, Cg.of 0 n⟩, ⟨false, []⟩⟩
def b01 : Vl := Vl.reduce ⟨⟨Sp.of 0 1, Cg.of 1 0⟩, ⟨false, []⟩⟩
def ptrV (op : Int) (a b : Ns) (many : List ByteArray) : Vl :=
 if noneN a = true then zeroV else if noneN b = true then zeroV else if op ≠ 14 /\ op ≠ 15 then zeroV
 else if eqMust a b many = true then numO (if op = 15 then 0 else 1) else if mayB a b = false then numO (if op = 15 then 1 else 0) else b01
def calcDo (op : Int) (a b : Vl) (many : List ByteArray) : Vl := Vl.join (numV op a.of b.of) (ptrV op a.of.t b.of.t many)
section
variable {b b' : Bool} {L L' M : List ByteArray}
theorem len_t (h : b = true) (hl : (ofS L).length < 1000000000000000) : IntKind.wrap .i64 (((ofS L).length : Int) + 1) = lenN ⟨b, L⟩ := by
 unfold lenN; dsimp only; rw [if_pos h]; exact wI_id _ (by omega) (by omega)
theorem len_f (h : b = false) : ((ofS L).length : Int) = lenN ⟨b, L⟩ := by unfold lenN; dsimp only; rw [if_neg (by rw [h]; decide)]; omega
theorem on_1 (h : b = true) : onlyB ⟨b, L⟩ = false /\ onlyT ⟨b, L⟩ = ByteArray.empty := by
 have e : onlyB ⟨b, L⟩ = false := by unfold onlyB; dsimp only; rw [h]; rfl
 exact ⟨e, by unfold onlyT; rw [if_neg (by rw [e]; decide)]⟩
theorem on_2 (h2 : (((ofS L).length : Int) != 1) = true) : onlyB ⟨b, L⟩ = false /\ onlyT ⟨b, L⟩ = ByteArray.empty := by
 have e : onlyB ⟨b, L⟩ = false := by unfold onlyB; dsimp only; rw [decide_eq_false (by simp at h2; omega), Bool.and_false]
 exact ⟨e, by unfold onlyT; rw [if_neg (by rw [e]; decide)]⟩
theorem on_3 (h : b = false) (h2 : (((ofS L).length : Int) != 1) = false) : onlyB ⟨b, L⟩ = true /\ onlyT ⟨b, L⟩ = atS (ofS L) 0 /\ (0 : Int) < ((ofS L).length : Int) := by
 have hl : (ofS L).length = 1 := by simp at h2; omega
 have e : onlyB ⟨b, L⟩ = true := by unfold onlyB; dsimp only; rw [h, decide_eq_true hl]; rfl
 exact ⟨e, by unfold onlyT; rw [if_pos e], by omega⟩
theorem may_eq : mayB ⟨b, L⟩ ⟨b', L'⟩ = !(!(b && b') && decide (gN (ofS (meetS L L')).length (fun i => [st (atS (ofS (meetS L L')) i)]) = [])) := by unfold mayB; rw [gN_lst]
end
section
variable {s : Sp} {c : Cg} {a b : Vl} {op : Int} {x y : Ns} {m : List ByteArray}
theorem bo_1 (h : s.none = true) : bothV s c = zeroV := by unfold bothV; rw [if_pos h]
theorem bo_2 (h : c.some = false) : bothV s c = zeroV := by unfold bothV; by_cases k : s.none = true; rw [if_pos k]; rw [if_neg k, if_pos h]
theorem bo_3 (h : s.none = false) (h2 : c.some = true) : bothV s c = Vl.reduce ⟨⟨s, c⟩, ⟨false, []⟩⟩ := by unfold bothV; rw [if_neg (by rw [h]; decide), if_neg (by rw [h2]; decide)]
theorem nu_1 (h : intsB a = false) : numV op a b = zeroV := by unfold numV; rw [if_pos h]
theorem nu_2 (h : intsB b = false) : numV op a b = zeroV := by unfold numV; by_cases k : intsB a = false; rw [if_pos k]; rw [if_neg k, if_pos h]
theorem nu_3 (h : intsB a = true) (h2 : intsB b = true) : numV op a b = bothV (rkDo op a.i.s b.i.s) (rsDo op a.i.c b.i.c (wrB op a.i.s b.i.s)) := by unfold numV; rw [if_neg (by rw [h]; decide), if_neg (by rw [h2]; decide)]
theorem pt_1 (h : noneN x = true) : ptrV op x y m = zeroV := by unfold ptrV; rw [if_pos h]
theorem pt_2 (h : noneN y = true) : ptrV op x y m = zeroV := by unfold ptrV; by_cases k : noneN x = true; rw [if_pos k]; rw [if_neg k, if_pos h]
theorem pt_3 (h : op ≠ 14 /\ op ≠ 15) : ptrV op x y m = zeroV := by unfold ptrV; by_cases k : noneN x = true; rw [if_pos k]; rw [if_neg k]; by_cases k : noneN y = true; rw [if_pos k]; rw [if_neg k, if_pos h]
section
variable (h : noneN x = false) (h2 : noneN y = false)
include h h2
theorem pt_i (ho : ¬ (op ≠ 14 /\ op ≠ 15)) : ptrV op x y m = if eqMust x y m = true then numO (if op = 15 then 0 else 1) else if mayB x y = false then numO (if op = 15 then 1 else 0) else b01 := by
 unfold ptrV; rw [if_neg (by rw [h]; decide), if_neg (by rw [h2]; decide), if_neg ho]
theorem pt_4 (k : eqMust x y m = true) : ptrV 14 x y m = numO 1 /\ ptrV 15 x y m = numO 0 := by
 constructor <;> (rw [pt_i h h2 (by decide)]; simp [k])
theorem pt_5 (k : eqMust x y m = false) (k2 : mayB x y = false) : ptrV 14 x y m = numO 0 /\ ptrV 15 x y m = numO 1 := by
 constructor <;> (rw [pt_i h h2 (by decide)]; simp [k, k2])
theorem pt_6 (k : eqMust x y m = false) (k2 : mayB x y = true) : ptrV 14 x y m = b01 /\ ptrV 15 x y m = b01 := by
 constructor <;> (rw [pt_i h h2 (by decide)]; simp [k, k2])
end
end
theorem b01_inR : (Sp.of 0 1).inR /\ (Cg.of 1 0).inR := ⟨truthS_inR false false, cg_all_inR⟩
def FNLen : List Ar -> Option Rs
 | [.agg [.d (.v (.bool b0)), .d (.lst 1 n0 f0)]] => some ⟨(n0 * 16 <= 140737488351232 /\ ∀ i, i < n0 -> f0 i = [st (gT (f0 i))]), .va (.c (.d (it (lenN (⟨b0, gN n0 f0⟩ : Ns))))), []⟩
 | _ => none
theorem fcNLen : FC Tryz.prog 111 FNLen := by
 intro xs pre r us h hp
 unfold FNLen at h
 split at h
 . rename_i b0 n0 f0
   cases h
   have hp0 := hp
   refine FCat.of_eq (as' := [.agg [.d (.v (.bool b0)), .d (.lst 1 n0 fun i => [st (gT (f0 i))])]]) ?_ rfl rfl ?_
   . repeat' (first | exact trivial | exact rfl | refine ⟨?_, ?_⟩ | fail)
     all_goals first | exact hp0.2 | exact hp1.2 | exact hp2.2 | (intro i hi; exact (hp0.2 i hi).1) | (intro i hi; exact (hp1.2 i hi).1) | (intro i hi; exact (hp2.2 i hi).1) | grind
   refine fcat tys_ok (l := [(82, ⟨[], FNClean⟩)]) ⟨fcNClean, trivial⟩ Tryz.func111 rfl (by kernel_rfl) false ?_
   have hL := ofS_len (gN n0 f0); rw [gN_length] at hL
   have c0 : (gN n0 fun i => [st (gT (f0 i))]) = gN n0 f0 := rfl
   rw [<- c0]
   rw [<- c0] at hL
   cases hb : b0
   . have hbn := congrArg Bool.not hb; simp only [Bool.not_true, Bool.not_false] at hbn
     repeat' (first | exact trivial | (with_reducible first | exact hp0 | exact hp0.1 | exact hp1 | exact hp1.1 | exact (fun h : false = true => absurd h (by decide)) | exact (fun h : true = false => absurd h (by decide)) | exact (fun h : (!false) = false => absurd h (by decide)) | exact (fun h : (!true) = true => absurd h (by decide)) | exact hp0 | exact hp0.1 | exact hp1 | exact hp1.1 | exact (fun h => absurd (hb.symm.trans h) (by decide)) | exact (fun h => absurd (hbn.symm.trans h) (by decide))) | refine ⟨?_, ?_⟩ | intro _)
     all_goals first | (with_reducible first | apply qa | apply qb | apply qc | apply qd) | (conv => whnf)
     all_goals first | (with_reducible rfl) | decide | (intro _ _; exact rfl) | exact rfl | exact congrArg (Value.int .i64) (len_f (by assumption)) | rfl
   . have hbn := congrArg Bool.not hb; simp only [Bool.not_true, Bool.not_false] at hbn
     repeat' (first | exact trivial | (with_reducible first | exact hp0 | exact hp0.1 | exact hp1 | exact hp1.1 | exact (fun h : false = true => absurd h (by decide)) | exact (fun h : true = false => absurd h (by decide)) | exact (fun h : (!false) = false => absurd h (by decide)) | exact (fun h : (!true) = true => absurd h (by decide)) | exact hp0 | exact hp0.1 | exact hp1 | exact hp1.1 | exact (fun h => absurd (hb.symm.trans h) (by decide)) | exact (fun h => absurd (hbn.symm.trans h) (by decide))) | refine ⟨?_, ?_⟩ | intro _)
     all_goals first | (with_reducible first | apply qa | apply qb | apply qc | apply qd) | (conv => whnf)
     all_goals first | (with_reducible rfl) | decide | (intro _ _; exact rfl) | exact rfl | exact congrArg (Value.int .i64) (len_t (by assumption) (by omega)) | rfl
 . cases h
def FNOnly : List Ar -> Option Rs
 | [.agg [.d (.v (.bool b0)), .d (.lst 1 n0 f0)]] => some ⟨(n0 * 16 <= 140737488351232 /\ ∀ i, i < n0 -> f0 i = [st (gT (f0 i))]), .tup [.c (.d (st (onlyT (⟨b0, gN n0 f0⟩ : Ns)))), .c (.d (bo (onlyB (⟨b0, gN n0 f0⟩ : Ns))))], []⟩
 | _ => none
theorem fcNOnly : FC Tryz.prog 112 FNOnly := by
 intro xs pre r us h hp
 unfold FNOnly at h
 split at h
 . rename_i b0 n0 f0
   cases h
   have hp0 := hp
   refine FCat.of_eq (as' := [.agg [.d (.v (.bool b0)), .d (.lst 1 n0 fun i => [st (gT (f0 i))])]]) ?_ rfl rfl ?_
   . repeat' (first | exact trivial | exact rfl | refine ⟨?_, ?_⟩ | fail)
     all_goals first | exact hp0.2 | exact hp1.2 | exact hp2.2 | (intro i hi; exact (hp0.2 i hi).1) | (intro i hi; exact (hp1.2 i hi).1) | (intro i hi; exact (hp2.2 i hi).1) | grind
   refine fcat tys_ok (l := [(82, ⟨[], FNClean⟩)]) ⟨fcNClean, trivial⟩ Tryz.func112 rfl (by kernel_rfl) false ?_
   have hL := ofS_len (gN n0 f0); rw [gN_length] at hL
   have c0 : (gN n0 fun i => [st (gT (f0 i))]) = gN n0 f0 := rfl
   rw [<- c0]
   rw [<- c0] at hL
   cases hb : b0
   . cases h1 : (((ofS (gN n0 fun i => [st (gT (f0 i))])).length : Int) != 1)
     . have hbn := congrArg Bool.not hb; simp only [Bool.not_true, Bool.not_false] at hbn
       have h1n := congrArg Bool.not h1; simp only [Bool.not_true, Bool.not_false] at h1n
       have e := on_3 (b := false) (L := (gN n0 fun i => [st (gT (f0 i))])) rfl h1
       repeat' (first | exact trivial | (with_reducible first | exact hp0 | exact hp0.1 | exact hp1 | exact hp1.1 | exact (fun h : false = true => absurd h (by decide)) | exact (fun h : true = false => absurd h (by decide)) | exact (fun h : (!false) = false => absurd h (by decide)) | exact (fun h : (!true) = true => absurd h (by decide)) | exact (fun h => absurd (hb.symm.trans h) (by decide)) | exact (fun h => absurd (h1.symm.trans h) (by decide)) | exact (fun h => absurd (hbn.symm.trans h) (by decide)) | exact (fun h => absurd (h1n.symm.trans h) (by decide))) | refine ⟨?_, ?_⟩ | intro _)
       all_goals first | (with_reducible first | apply qa | apply qb | apply qc | apply qd) | (conv => whnf)
       all_goals first | (with_reducible rfl) | decide | (intro _ _; exact rfl) | exact rfl | (rw [e.1]; done) | (rw [e.2]; done) | (rw [e.2]; rfl) | (rw [e.2.1]; done) | (rw [e.2.1]; rfl) | exact e.2.2 | exact Int.le_refl _ | rfl
     . have hbn := congrArg Bool.not hb; simp only [Bool.not_true, Bool.not_false] at hbn
       have h1n := congrArg Bool.not h1; simp only [Bool.not_true, Bool.not_false] at h1n
       have e := on_2 (b := false) (L := (gN n0 fun i => [st (gT (f0 i))])) h1
       repeat' (first | exact trivial | (with_reducible first | exact hp0 | exact hp0.1 | exact hp1 | exact hp1.1 | exact (fun h : false = true => absurd h (by decide)) | exact (fun h : true = false => absurd h (by decide)) | exact (fun h : (!false) = false => absurd h (by decide)) | exact (fun h : (!true) = true => absurd h (by decide)) | exact (fun h => absurd (hb.symm.trans h) (by decide)) | exact (fun h => absurd (h1.symm.trans h) (by decide)) | exact (fun h => absurd (hbn.symm.trans h) (by decide)) | exact (fun h => absurd (h1n.symm.trans h) (by decide))) | refine ⟨?_, ?_⟩ | intro _)
       all_goals first | (with_reducible first | apply qa | apply qb | apply qc | apply qd) | (conv => whnf)
       all_goals first | (with_reducible rfl) | decide | (intro _ _; exact rfl) | exact rfl | (rw [e.1]; done) | (rw [e.2]; done) | (rw [e.2]; rfl) | (rw [e.2.1]; done) | (rw [e.2.1]; rfl) | exact e.2.2 | exact Int.le_refl _ | rfl
   . have hbn := congrArg Bool.not hb; simp only [Bool.not_true, Bool.not_false] at hbn
     have e := on_1 (L := (gN n0 fun i => [st (gT (f0 i))])) (rfl : true = true)
     repeat' (first | exact trivial | (with_reducible first | exact hp0 | exact hp0.1 | exact hp1 | exact hp1.1 | exact (fun h : false = true => absurd h (by decide)) | exact (fun h : true = false => absurd h (by decide)) | exact (fun h : (!false) = false => absurd h (by decide)) | exact (fun h : (!true) = true => absurd h (by decide)) | exact (fun h => absurd (hb.symm.trans h) (by decide)) | exact (fun h => absurd (hbn.symm.trans h) (by decide))) | refine ⟨?_, ?_⟩ | intro _)
     all_goals first | (with_reducible first | apply qa | apply qb | apply qc | apply qd) | (conv => whnf)
     all_goals first | (with_reducible rfl) | decide | (intro _ _; exact rfl) | exact rfl | (rw [e.1]; done) | (rw [e.2]; done) | (rw [e.2]; rfl) | (rw [e.2.1]; done) | (rw [e.2.1]; rfl) | exact e.2.2 | exact Int.le_refl _ | rfl
 . cases h
def FNEqual : List Ar -> Option Rs
 | [.agg [.d (.v (.bool b0)), .d (.lst 1 n0 f0)], .agg [.d (.v (.bool b1)), .d (.lst 1 n1 f1)]] => some ⟨(n0 * 16 <= 140737488351232 /\ ∀ i, i < n0 -> f0 i = [st (gT (f0 i))]) /\ (n1 * 16 <= 140737488351232 /\ ∀ i, i < n1 -> f1 i = [st (gT (f1 i))]), .tup [.c (.d (bo (mayB (⟨b0, gN n0 f0⟩ : Ns) (⟨b1, gN n1 f1⟩ : Ns)))), .c (.d (bo (mustB (⟨b0, gN n0 f0⟩ : Ns) (⟨b1, gN n1 f1⟩ : Ns))))], []⟩
 | _ => none
theorem fcNEqual : FC Tryz.prog 153 FNEqual := by
 intro xs pre r us h hp
 unfold FNEqual at h
 split at h
 . rename_i b0 n0 f0 b1 n1 f1
   cases h
   obtain ⟨hp0, hp1⟩ := hp
   refine FCat.of_eq (as' := [.agg [.d (.v (.bool b0)), .d (.lst 1 n0 fun i => [st (gT (f0 i))])], .agg [.d (.v (.bool b1)), .d (.lst 1 n1 fun i => [st (gT (f1 i))])]]) ?_ rfl rfl ?_
   . repeat' (first | exact trivial | exact rfl | refine ⟨?_, ?_⟩ | fail)
     all_goals first | exact hp0.2 | exact hp1.2 | exact hp2.2 | (intro i hi; exact (hp0.2 i hi).1) | (intro i hi; exact (hp1.2 i hi).1) | (intro i hi; exact (hp2.2 i hi).1) | grind
   refine fcat tys_ok (l := [(41, ⟨[], FNMeet⟩), (73, ⟨[], FNNone⟩), (111, ⟨[], FNLen⟩)]) ⟨fcNMeet, fcNNone, fcNLen, trivial⟩ Tryz.func153 rfl (by kernel_rfl) false ?_
   have hr := ofS_room (n := n0) (f := f0) hp0.1
   have hml : (meetS (gN n0 f0) (gN n1 f1)).length <= (gN n0 f0).length := List.length_filter_le _ _
   have hol := ofS_len (meetS (gN n0 f0) (gN n1 f1))
   rw [gN_length] at hml
   have c0 : (gN n0 fun i => [st (gT (f0 i))]) = gN n0 f0 := rfl
   rw [<- c0]
   have c1 : (gN n1 fun i => [st (gT (f1 i))]) = gN n1 f1 := rfl
   rw [<- c1]
   rw [<- c0, <- c1] at hol
   have hroom : (ofS (meetS (gN n0 fun i => [st (gT (f0 i))]) (gN n1 fun i => [st (gT (f1 i))]))).length * 16 <= 140737488351232 := by have h1 := hp0.1; have h2 : (meetS (gN n0 fun i => [st (gT (f0 i))]) (gN n1 fun i => [st (gT (f1 i))])).length <= n0 := hml; omega
   cases mr : (!(b0 && b1) && decide (gN (ofS (meetS (gN n0 fun i => [st (gT (f0 i))]) (gN n1 fun i => [st (gT (f1 i))]))).length (fun i => [st (atS (ofS (meetS (gN n0 fun i => [st (gT (f0 i))]) (gN n1 fun i => [st (gT (f1 i))]))) i)]) = []))
   . cases l0 : (lenN (⟨b0, (gN n0 fun i => [st (gT (f0 i))])⟩ : Ns) == 1)
     . have mrn := congrArg Bool.not mr; simp only [Bool.not_true, Bool.not_false] at mrn
       have l0n := congrArg Bool.not l0; simp only [Bool.not_true, Bool.not_false] at l0n
       have em := may_eq (b := b0) (b' := b1) (L := (gN n0 fun i => [st (gT (f0 i))])) (L' := (gN n1 fun i => [st (gT (f1 i))]))
       rw [mr] at em
       have eu : mustB (⟨b0, (gN n0 fun i => [st (gT (f0 i))])⟩ : Ns) (⟨b1, (gN n1 fun i => [st (gT (f1 i))])⟩ : Ns) = false := by unfold mustB; rw [em]; simp only [l0, reduceIte, Bool.not_true, Bool.not_false, Bool.true_and, Bool.false_and, Bool.and_true, Bool.and_false, Bool.true_or, Bool.false_or, Bool.or_true, Bool.or_false, Bool.false_eq_true, Bool.true_eq_false]
       repeat' (first | exact trivial | (with_reducible first | exact hp0 | exact hp0.1 | exact hp1 | exact hp1.1 | exact (fun h : false = true => absurd h (by decide)) | exact (fun h : true = false => absurd h (by decide)) | exact (fun h : (!false) = false => absurd h (by decide)) | exact (fun h : (!true) = true => absurd h (by decide)) | exact (fun h => absurd (mr.symm.trans h) (by decide)) | exact (fun h => absurd (l0.symm.trans h) (by decide)) | exact (fun h => absurd (mrn.symm.trans h) (by decide)) | exact (fun h => absurd (l0n.symm.trans h) (by decide))) | refine ⟨?_, ?_⟩ | intro _)
       all_goals first | (with_reducible first | apply qa | apply qb | apply qc | apply qd) | (conv => whnf)
       all_goals first | (with_reducible rfl) | decide | (intro _ _; exact rfl) | exact rfl | (rw [em]; done) | (rw [em]; rfl) | (rw [eu]; done) | (rw [eu]; rfl) | exact hroom | (rw [em]; exact congrArg Value.bool (congrArg Bool.not mr)) | exact (congrArg Value.bool l1).trans (congrArg Value.bool eu).symm | rfl
     . have mrn := congrArg Bool.not mr; simp only [Bool.not_true, Bool.not_false] at mrn
       have l0n := congrArg Bool.not l0; simp only [Bool.not_true, Bool.not_false] at l0n
       have em := may_eq (b := b0) (b' := b1) (L := (gN n0 fun i => [st (gT (f0 i))])) (L' := (gN n1 fun i => [st (gT (f1 i))]))
       rw [mr] at em
       have eu : mustB (⟨b0, (gN n0 fun i => [st (gT (f0 i))])⟩ : Ns) (⟨b1, (gN n1 fun i => [st (gT (f1 i))])⟩ : Ns) = (lenN (⟨b1, (gN n1 fun i => [st (gT (f1 i))])⟩ : Ns) == 1) := by unfold mustB; rw [em]; simp only [l0, reduceIte, Bool.not_true, Bool.not_false, Bool.true_and, Bool.false_and, Bool.and_true, Bool.and_false, Bool.true_or, Bool.false_or, Bool.or_true, Bool.or_false, Bool.false_eq_true, Bool.true_eq_false]
       repeat' (first | exact trivial | (with_reducible first | exact hp0 | exact hp0.1 | exact hp1 | exact hp1.1 | exact (fun h : false = true => absurd h (by decide)) | exact (fun h : true = false => absurd h (by decide)) | exact (fun h : (!false) = false => absurd h (by decide)) | exact (fun h : (!true) = true => absurd h (by decide)) | exact (fun h => absurd (mr.symm.trans h) (by decide)) | exact (fun h => absurd (l0.symm.trans h) (by decide)) | exact (fun h => absurd (mrn.symm.trans h) (by decide)) | exact (fun h => absurd (l0n.symm.trans h) (by decide))) | refine ⟨?_, ?_⟩ | intro _)
       all_goals first | (with_reducible first | apply qa | apply qb | apply qc | apply qd) | (conv => whnf)
       all_goals first | (with_reducible rfl) | decide | (intro _ _; exact rfl) | exact rfl | (rw [em]; done) | (rw [em]; rfl) | (rw [eu]; done) | (rw [eu]; rfl) | exact hroom | (rw [em]; exact congrArg Value.bool (congrArg Bool.not mr)) | exact (congrArg Value.bool l1).trans (congrArg Value.bool eu).symm | rfl
   . have mrn := congrArg Bool.not mr; simp only [Bool.not_true, Bool.not_false] at mrn
     have em := may_eq (b := b0) (b' := b1) (L := (gN n0 fun i => [st (gT (f0 i))])) (L' := (gN n1 fun i => [st (gT (f1 i))]))
     rw [mr] at em
     have eu : mustB (⟨b0, (gN n0 fun i => [st (gT (f0 i))])⟩ : Ns) (⟨b1, (gN n1 fun i => [st (gT (f1 i))])⟩ : Ns) = false := by unfold mustB; rw [em]; simp only [reduceIte, Bool.not_true, Bool.not_false, Bool.true_and, Bool.false_and, Bool.and_true, Bool.and_false, Bool.true_or, Bool.false_or, Bool.or_true, Bool.or_false, Bool.false_eq_true, Bool.true_eq_false]
     repeat' (first | exact trivial | (with_reducible first | exact hp0 | exact hp0.1 | exact hp1 | exact hp1.1 | exact (fun h : false = true => absurd h (by decide)) | exact (fun h : true = false => absurd h (by decide)) | exact (fun h : (!false) = false => absurd h (by decide)) | exact (fun h : (!true) = true => absurd h (by decide)) | exact (fun h => absurd (mr.symm.trans h) (by decide)) | exact (fun h => absurd (mrn.symm.trans h) (by decide))) | refine ⟨?_, ?_⟩ | intro _)
     all_goals first | (with_reducible first | apply qa | apply qb | apply qc | apply qd) | (conv => whnf)
     all_goals first | (with_reducible rfl) | decide | (intro _ _; exact rfl) | exact rfl | (rw [em]; done) | (rw [em]; rfl) | (rw [eu]; done) | (rw [eu]; rfl) | exact hroom | (rw [em]; exact congrArg Value.bool (congrArg Bool.not mr)) | exact (congrArg Value.bool l1).trans (congrArg Value.bool eu).symm | rfl
 . cases h
def FCInts : List Ar -> Option Rs
 | [.agg [.d (.v (.bool s0)), .d (.v (.int .i64 l0)), .d (.v (.int .i64 h0)), .d (.v (.bool b0)), .d (.v (.int .i64 m0)), .d (.v (.int .i64 r0)), .d (.v (.bool z0)), .d (.lst 1 n0 f0)]] => some ⟨((n0 * 16 <= 140737488351232 /\ ∀ i, i < n0 -> f0 i = [st (gT (f0 i))]) /\ Sp.inR ⟨s0, l0, h0⟩ /\ Cg.inR ⟨b0, m0, r0⟩), .va (.c (.d (bo (intsB (⟨⟨⟨s0, l0, h0⟩, ⟨b0, m0, r0⟩⟩, ⟨z0, gN n0 f0⟩⟩ : Vl))))), []⟩
 | _ => none
theorem fcCInts : FC Tryz.prog 77 FCInts := by
 intro xs pre r us h hp
 unfold FCInts at h
 split at h
 . rename_i s0 l0 h0 b0 m0 r0 z0 n0 f0
   cases h
   have hp0 := hp
   refine FCat.of_eq (as' := [.agg [.d (.v (.bool s0)), .d (.v (.int .i64 l0)), .d (.v (.int .i64 h0)), .d (.v (.bool b0)), .d (.v (.int .i64 m0)), .d (.v (.int .i64 r0)), .d (.v (.bool z0)), .d (.lst 1 n0 fun i => [st (gT (f0 i))])]]) ?_ rfl rfl ?_
   . repeat' (first | exact trivial | exact rfl | refine ⟨?_, ?_⟩ | fail)
     all_goals first | exact hp0.2 | exact hp1.2 | exact hp2.2 | (intro i hi; exact (hp0.2 i hi).1) | (intro i hi; exact (hp1.2 i hi).1) | (intro i hi; exact (hp2.2 i hi).1) | grind
   refine fcat tys_ok (l := [(83, ⟨[], FSNone⟩), (87, ⟨[], FCNone⟩)]) ⟨fcSNone, fcCNone, trivial⟩ Tryz.func77 rfl (by kernel_rfl) false ?_
   have q0 := hp0.2.2; unfold Cg.inR at q0; dsimp only at q0
   have c0 : (gN n0 fun i => [st (gT (f0 i))]) = gN n0 f0 := rfl
   rw [<- c0]
   cases nA : Sp.none ⟨s0, l0, h0⟩
   . cases hb : b0
     . have nAn := congrArg Bool.not nA; simp only [Bool.not_true, Bool.not_false] at nAn
       have hbn := congrArg Bool.not hb; simp only [Bool.not_true, Bool.not_false] at hbn
       have e : intsB (⟨⟨⟨s0, l0, h0⟩, ⟨false, m0, r0⟩⟩, ⟨z0, (gN n0 fun i => [st (gT (f0 i))])⟩⟩ : Vl) = false := by unfold intsB; dsimp only; rw [nA]; rfl
       repeat' (first | exact trivial | (with_reducible first | exact hp0 | exact hp0.1 | exact hp0.2 | exact hp0.2.1 | exact hp0.2.2 | exact hp0.1.1 | exact q0.1 | exact q0.2 | exact q0.1.1 | exact q0.1.2 | exact q0.2.1 | exact q0.2.2 | exact (fun h : false = true => absurd h (by decide)) | exact (fun h : true = false => absurd h (by decide)) | exact (fun h : (!false) = false => absurd h (by decide)) | exact (fun h : (!true) = true => absurd h (by decide)) | exact (fun h => absurd (nA.symm.trans h) (by decide)) | exact (fun h => absurd (hb.symm.trans h) (by decide)) | exact (fun h => absurd (nAn.symm.trans h) (by decide)) | exact (fun h => absurd (hbn.symm.trans h) (by decide))) | refine ⟨?_, ?_⟩ | intro _)
       all_goals first | (with_reducible first | apply qa | apply qb | apply qc | apply qd) | (conv => whnf)
       all_goals first | (with_reducible rfl) | decide | (rw [e]; done) | (rw [e]; rfl) | rfl
     . have nAn := congrArg Bool.not nA; simp only [Bool.not_true, Bool.not_false] at nAn
       have hbn := congrArg Bool.not hb; simp only [Bool.not_true, Bool.not_false] at hbn
       have e : intsB (⟨⟨⟨s0, l0, h0⟩, ⟨true, m0, r0⟩⟩, ⟨z0, (gN n0 fun i => [st (gT (f0 i))])⟩⟩ : Vl) = true := by unfold intsB; dsimp only; rw [nA]; rfl
       repeat' (first | exact trivial | (with_reducible first | exact hp0 | exact hp0.1 | exact hp0.2 | exact hp0.2.1 | exact hp0.2.2 | exact hp0.1.1 | exact q0.1 | exact q0.2 | exact q0.1.1 | exact q0.1.2 | exact q0.2.1 | exact q0.2.2 | exact (fun h : false = true => absurd h (by decide)) | exact (fun h : true = false => absurd h (by decide)) | exact (fun h : (!false) = false => absurd h (by decide)) | exact (fun h : (!true) = true => absurd h (by decide)) | exact (fun h => absurd (nA.symm.trans h) (by decide)) | exact (fun h => absurd (hb.symm.trans h) (by decide)) | exact (fun h => absurd (nAn.symm.trans h) (by decide)) | exact (fun h => absurd (hbn.symm.trans h) (by decide))) | refine ⟨?_, ?_⟩ | intro _)
       all_goals first | (with_reducible first | apply qa | apply qb | apply qc | apply qd) | (conv => whnf)
       all_goals first | (with_reducible rfl) | decide | (rw [e]; done) | (rw [e]; rfl) | rfl
   . cases hb : b0
     . have nAn := congrArg Bool.not nA; simp only [Bool.not_true, Bool.not_false] at nAn
       have hbn := congrArg Bool.not hb; simp only [Bool.not_true, Bool.not_false] at hbn
       have e : intsB (⟨⟨⟨s0, l0, h0⟩, ⟨false, m0, r0⟩⟩, ⟨z0, (gN n0 fun i => [st (gT (f0 i))])⟩⟩ : Vl) = false := by unfold intsB; dsimp only; rw [nA]; rfl
       repeat' (first | exact trivial | (with_reducible first | exact hp0 | exact hp0.1 | exact hp0.2 | exact hp0.2.1 | exact hp0.2.2 | exact hp0.1.1 | exact q0.1 | exact q0.2 | exact q0.1.1 | exact q0.1.2 | exact q0.2.1 | exact q0.2.2 | exact (fun h : false = true => absurd h (by decide)) | exact (fun h : true = false => absurd h (by decide)) | exact (fun h : (!false) = false => absurd h (by decide)) | exact (fun h : (!true) = true => absurd h (by decide)) | exact (fun h => absurd (nA.symm.trans h) (by decide)) | exact (fun h => absurd (hb.symm.trans h) (by decide)) | exact (fun h => absurd (nAn.symm.trans h) (by decide)) | exact (fun h => absurd (hbn.symm.trans h) (by decide))) | refine ⟨?_, ?_⟩ | intro _)
       all_goals first | (with_reducible first | apply qa | apply qb | apply qc | apply qd) | (conv => whnf)
       all_goals first | (with_reducible rfl) | decide | (rw [e]; done) | (rw [e]; rfl) | rfl
     . have nAn := congrArg Bool.not nA; simp only [Bool.not_true, Bool.not_false] at nAn
       have hbn := congrArg Bool.not hb; simp only [Bool.not_true, Bool.not_false] at hbn
       have e : intsB (⟨⟨⟨s0, l0, h0⟩, ⟨true, m0, r0⟩⟩, ⟨z0, (gN n0 fun i => [st (gT (f0 i))])⟩⟩ : Vl) = false := by unfold intsB; dsimp only; rw [nA]; rfl
       repeat' (first | exact trivial | (with_reducible first | exact hp0 | exact hp0.1 | exact hp0.2 | exact hp0.2.1 | exact hp0.2.2 | exact hp0.1.1 | exact q0.1 | exact q0.2 | exact q0.1.1 | exact q0.1.2 | exact q0.2.1 | exact q0.2.2 | exact (fun h : false = true => absurd h (by decide)) | exact (fun h : true = false => absurd h (by decide)) | exact (fun h : (!false) = false => absurd h (by decide)) | exact (fun h : (!true) = true => absurd h (by decide)) | exact (fun h => absurd (nA.symm.trans h) (by decide)) | exact (fun h => absurd (hb.symm.trans h) (by decide)) | exact (fun h => absurd (nAn.symm.trans h) (by decide)) | exact (fun h => absurd (hbn.symm.trans h) (by decide))) | refine ⟨?_, ?_⟩ | intro _)
       all_goals first | (with_reducible first | apply qa | apply qb | apply qc | apply qd) | (conv => whnf)
       all_goals first | (with_reducible rfl) | decide | (rw [e]; done) | (rw [e]; rfl) | rfl
 . cases h
def FCBothV : List Ar -> Option Rs
 | [.agg [.d (.v (.bool s0)), .d (.v (.int .i64 l0)), .d (.v (.int .i64 h0))], .agg [.d (.v (.bool b1)), .d (.v (.int .i64 m1)), .d (.v (.int .i64 r1))]] => some ⟨(Sp.inR ⟨s0, l0, h0⟩) /\ (Cg.inR ⟨b1, m1, r1⟩), .va (Vl.ar (bothV (⟨s0, l0, h0⟩ : Sp) (⟨b1, m1, r1⟩ : Cg))), []⟩
 | _ => none
theorem fcCBothV : FC Tryz.prog 79 FCBothV := by
 intro xs pre r us h hp
 unfold FCBothV at h
 split at h
 . rename_i s0 l0 h0 b1 m1 r1
   cases h
   obtain ⟨hp0, hp1⟩ := hp
   refine fcat tys_ok (l := [(83, ⟨[], FSNone⟩), (87, ⟨[], FCNone⟩), (59, ⟨[], FVInt⟩)]) ⟨fcSNone, fcCNone, fcVInt, trivial⟩ Tryz.func79 rfl (by kernel_rfl) true ?_
   have q0 := hp0; unfold Sp.inR at q0; dsimp only at q0
   have q1 := hp1; unfold Cg.inR at q1; dsimp only at q1
   cases nA : Sp.none ⟨s0, l0, h0⟩
   . cases hb : b1
     . have nAn := congrArg Bool.not nA; simp only [Bool.not_true, Bool.not_false] at nAn
       have hbn := congrArg Bool.not hb; simp only [Bool.not_true, Bool.not_false] at hbn
       have e := bo_2 (s := ⟨s0, l0, h0⟩) (c := ⟨false, m1, r1⟩) rfl
       repeat' (first | exact trivial | (with_reducible first | exact hp0 | exact hp1 | exact q0.1 | exact q0.2 | exact q0.1.1 | exact q0.1.2 | exact q0.2.1 | exact q0.2.2 | exact q1.1 | exact q1.2 | exact q1.1.1 | exact q1.1.2 | exact q1.2.1 | exact q1.2.2 | exact (fun h : false = true => absurd h (by decide)) | exact (fun h : true = false => absurd h (by decide)) | exact (fun h : (!false) = false => absurd h (by decide)) | exact (fun h : (!true) = true => absurd h (by decide)) | exact (fun h => absurd (nA.symm.trans h) (by decide)) | exact (fun h => absurd (hb.symm.trans h) (by decide)) | exact (fun h => absurd (nAn.symm.trans h) (by decide)) | exact (fun h => absurd (hbn.symm.trans h) (by decide))) | refine ⟨?_, ?_⟩ | intro _)
       all_goals first | (with_reducible first | apply qa | apply qb | apply qc | apply qd) | (conv => whnf)
       all_goals first | (with_reducible rfl) | decide | (rw [e]; done) | (rw [e]; rfl) | rfl
     . have nAn := congrArg Bool.not nA; simp only [Bool.not_true, Bool.not_false] at nAn
       have hbn := congrArg Bool.not hb; simp only [Bool.not_true, Bool.not_false] at hbn
       have e := bo_3 (c := ⟨true, m1, r1⟩) nA rfl
       repeat' (first | exact trivial | (with_reducible first | exact hp0 | exact hp1 | exact q0.1 | exact q0.2 | exact q0.1.1 | exact q0.1.2 | exact q0.2.1 | exact q0.2.2 | exact q1.1 | exact q1.2 | exact q1.1.1 | exact q1.1.2 | exact q1.2.1 | exact q1.2.2 | exact (fun h : false = true => absurd h (by decide)) | exact (fun h : true = false => absurd h (by decide)) | exact (fun h : (!false) = false => absurd h (by decide)) | exact (fun h : (!true) = true => absurd h (by decide)) | exact (fun h => absurd (nA.symm.trans h) (by decide)) | exact (fun h => absurd (hb.symm.trans h) (by decide)) | exact (fun h => absurd (nAn.symm.trans h) (by decide)) | exact (fun h => absurd (hbn.symm.trans h) (by decide))) | refine ⟨?_, ?_⟩ | intro _)
       all_goals first | (with_reducible first | apply qa | apply qb | apply qc | apply qd) | (conv => whnf)
       all_goals first | (with_reducible rfl) | decide | (rw [e]; done) | (rw [e]; rfl) | rfl
   . have nAn := congrArg Bool.not nA; simp only [Bool.not_true, Bool.not_false] at nAn
     have e := bo_1 (c := ⟨b1, m1, r1⟩) nA
     repeat' (first | exact trivial | (with_reducible first | exact hp0 | exact hp1 | exact q0.1 | exact q0.2 | exact q0.1.1 | exact q0.1.2 | exact q0.2.1 | exact q0.2.2 | exact q1.1 | exact q1.2 | exact q1.1.1 | exact q1.1.2 | exact q1.2.1 | exact q1.2.2 | exact (fun h : false = true => absurd h (by decide)) | exact (fun h : true = false => absurd h (by decide)) | exact (fun h : (!false) = false => absurd h (by decide)) | exact (fun h : (!true) = true => absurd h (by decide)) | exact (fun h => absurd (nA.symm.trans h) (by decide)) | exact (fun h => absurd (nAn.symm.trans h) (by decide))) | refine ⟨?_, ?_⟩ | intro _)
     all_goals first | (with_reducible first | apply qa | apply qb | apply qc | apply qd) | (conv => whnf)
     all_goals first | (with_reducible rfl) | decide | (rw [e]; done) | (rw [e]; rfl) | rfl
 . cases h
def FCNumbers : List Ar -> Option Rs
 | [.c (.d (.v (.int .i64 i0))), .agg [.d (.v (.bool s1)), .d (.v (.int .i64 l1)), .d (.v (.int .i64 h1)), .d (.v (.bool b1)), .d (.v (.int .i64 m1)), .d (.v (.int .i64 r1)), .d (.v (.bool z1)), .d (.lst 1 n1 f1)], .agg [.d (.v (.bool s2)), .d (.v (.int .i64 l2)), .d (.v (.int .i64 h2)), .d (.v (.bool b2)), .d (.v (.int .i64 m2)), .d (.v (.int .i64 r2)), .d (.v (.bool z2)), .d (.lst 1 n2 f2)]] => some ⟨(-9223372036854775808 <= i0 /\ i0 < 9223372036854775808) /\ ((n1 * 16 <= 140737488351232 /\ ∀ i, i < n1 -> f1 i = [st (gT (f1 i))]) /\ Sp.inR ⟨s1, l1, h1⟩ /\ Cg.inR ⟨b1, m1, r1⟩) /\ ((n2 * 16 <= 140737488351232 /\ ∀ i, i < n2 -> f2 i = [st (gT (f2 i))]) /\ Sp.inR ⟨s2, l2, h2⟩ /\ Cg.inR ⟨b2, m2, r2⟩), .va (Vl.ar (numV i0 (⟨⟨⟨s1, l1, h1⟩, ⟨b1, m1, r1⟩⟩, ⟨z1, gN n1 f1⟩⟩ : Vl) (⟨⟨⟨s2, l2, h2⟩, ⟨b2, m2, r2⟩⟩, ⟨z2, gN n2 f2⟩⟩ : Vl))), []⟩
 | _ => none
theorem fcCNumbers : FC Tryz.prog 61 FCNumbers := by
 intro xs pre r us h hp
 unfold FCNumbers at h
 split at h
 . rename_i i0 s1 l1 h1 b1 m1 r1 z1 n1 f1 s2 l2 h2 b2 m2 r2 z2 n2 f2
   cases h
   obtain ⟨hp0, hp1, hp2⟩ := hp
   refine FCat.of_eq (as' := [.c (.d (.v (.int .i64 i0))), .agg [.d (.v (.bool s1)), .d (.v (.int .i64 l1)), .d (.v (.int .i64 h1)), .d (.v (.bool b1)), .d (.v (.int .i64 m1)), .d (.v (.int .i64 r1)), .d (.v (.bool z1)), .d (.lst 1 n1 fun i => [st (gT (f1 i))])], .agg [.d (.v (.bool s2)), .d (.v (.int .i64 l2)), .d (.v (.int .i64 h2)), .d (.v (.bool b2)), .d (.v (.int .i64 m2)), .d (.v (.int .i64 r2)), .d (.v (.bool z2)), .d (.lst 1 n2 fun i => [st (gT (f2 i))])]]) ?_ rfl rfl ?_
   . repeat' (first | exact trivial | exact rfl | refine ⟨?_, ?_⟩ | fail)
     all_goals first | exact hp0.2 | exact hp1.2 | exact hp2.2 | (intro i hi; exact (hp0.2 i hi).1) | (intro i hi; exact (hp1.2 i hi).1) | (intro i hi; exact (hp2.2 i hi).1) | grind
   refine fcat tys_ok (l := [(77, ⟨[], FCInts⟩), (105, ⟨[], FReDo⟩), (106, ⟨[], FRsDo⟩), (78, ⟨[], FCWraps⟩), (79, ⟨[], FCBothV⟩)]) ⟨fcCInts, fcReDo, fcRsDo, fcCWraps, fcCBothV, trivial⟩ Tryz.func61 rfl (by kernel_rfl) true ?_
   have c1 : (gN n1 fun i => [st (gT (f1 i))]) = gN n1 f1 := rfl
   rw [<- c1]
   have c2 : (gN n2 fun i => [st (gT (f2 i))]) = gN n2 f2 := rfl
   rw [<- c2]
   have k1 := rkDo_inR (op := i0) hp1.2.1 hp2.2.1
   have k2 := rsDo_inR (op := i0) (w := wrB i0 ⟨s1, l1, h1⟩ ⟨s2, l2, h2⟩) hp1.2.2 hp2.2.2
   have k3 := And.intro k1 k2
   cases iA : intsB (⟨⟨⟨s1, l1, h1⟩, ⟨b1, m1, r1⟩⟩, ⟨z1, (gN n1 fun i => [st (gT (f1 i))])⟩⟩ : Vl)
   . have iAn := congrArg Bool.not iA; simp only [Bool.not_true, Bool.not_false] at iAn
     have e := nu_1 (op := i0) (a := (⟨⟨⟨s1, l1, h1⟩, ⟨b1, m1, r1⟩⟩, ⟨z1, (gN n1 fun i => [st (gT (f1 i))])⟩⟩ : Vl)) (b := (⟨⟨⟨s2, l2, h2⟩, ⟨b2, m2, r2⟩⟩, ⟨z2, (gN n2 fun i => [st (gT (f2 i))])⟩⟩ : Vl)) iA
     repeat' (first | exact trivial | (with_reducible first | exact hp1 | exact hp1.1 | exact hp1.2 | exact hp1.2.1 | exact hp1.2.2 | exact hp1.1.1 | exact hp2 | exact hp2.1 | exact hp2.2 | exact hp2.2.1 | exact hp2.2.2 | exact hp2.1.1 | exact hp0 | exact k1 | exact k2 | exact (fun h : false = true => absurd h (by decide)) | exact (fun h : true = false => absurd h (by decide)) | exact (fun h : (!false) = false => absurd h (by decide)) | exact (fun h : (!true) = true => absurd h (by decide)) | exact (fun h => absurd (iA.symm.trans h) (by decide)) | exact (fun h => absurd (iAn.symm.trans h) (by decide))) | refine ⟨?_, ?_⟩ | intro _)
     all_goals first | (with_reducible first | apply qa | apply qb | apply qc | apply qd) | (conv => whnf)
     all_goals first | (with_reducible rfl) | decide | (with_reducible exact k1.1.1) | (exact k1) | (exact k2) | (intro _ _; exact rfl) | exact rfl | (rw [e]; done) | (rw [e]; rfl) | rfl
   . cases iB : intsB (⟨⟨⟨s2, l2, h2⟩, ⟨b2, m2, r2⟩⟩, ⟨z2, (gN n2 fun i => [st (gT (f2 i))])⟩⟩ : Vl)
     . have iAn := congrArg Bool.not iA; simp only [Bool.not_true, Bool.not_false] at iAn
       have iBn := congrArg Bool.not iB; simp only [Bool.not_true, Bool.not_false] at iBn
       have e := nu_2 (op := i0) (a := (⟨⟨⟨s1, l1, h1⟩, ⟨b1, m1, r1⟩⟩, ⟨z1, (gN n1 fun i => [st (gT (f1 i))])⟩⟩ : Vl)) (b := (⟨⟨⟨s2, l2, h2⟩, ⟨b2, m2, r2⟩⟩, ⟨z2, (gN n2 fun i => [st (gT (f2 i))])⟩⟩ : Vl)) iB
       repeat' (first | exact trivial | (with_reducible first | exact hp1 | exact hp1.1 | exact hp1.2 | exact hp1.2.1 | exact hp1.2.2 | exact hp1.1.1 | exact hp2 | exact hp2.1 | exact hp2.2 | exact hp2.2.1 | exact hp2.2.2 | exact hp2.1.1 | exact hp0 | exact k1 | exact k2 | exact (fun h : false = true => absurd h (by decide)) | exact (fun h : true = false => absurd h (by decide)) | exact (fun h : (!false) = false => absurd h (by decide)) | exact (fun h : (!true) = true => absurd h (by decide)) | exact (fun h => absurd (iA.symm.trans h) (by decide)) | exact (fun h => absurd (iB.symm.trans h) (by decide)) | exact (fun h => absurd (iAn.symm.trans h) (by decide)) | exact (fun h => absurd (iBn.symm.trans h) (by decide))) | refine ⟨?_, ?_⟩ | intro _)
       all_goals first | (with_reducible first | apply qa | apply qb | apply qc | apply qd) | (conv => whnf)
       all_goals first | (with_reducible rfl) | decide | (with_reducible exact k1.1.1) | (exact k1) | (exact k2) | (intro _ _; exact rfl) | exact rfl | (rw [e]; done) | (rw [e]; rfl) | rfl
     . have iAn := congrArg Bool.not iA; simp only [Bool.not_true, Bool.not_false] at iAn
       have iBn := congrArg Bool.not iB; simp only [Bool.not_true, Bool.not_false] at iBn
       have e := nu_3 (op := i0) (a := (⟨⟨⟨s1, l1, h1⟩, ⟨b1, m1, r1⟩⟩, ⟨z1, (gN n1 fun i => [st (gT (f1 i))])⟩⟩ : Vl)) (b := (⟨⟨⟨s2, l2, h2⟩, ⟨b2, m2, r2⟩⟩, ⟨z2, (gN n2 fun i => [st (gT (f2 i))])⟩⟩ : Vl)) iA iB
       repeat' (first | exact trivial | (with_reducible first | exact hp1 | exact hp1.1 | exact hp1.2 | exact hp1.2.1 | exact hp1.2.2 | exact hp1.1.1 | exact hp2 | exact hp2.1 | exact hp2.2 | exact hp2.2.1 | exact hp2.2.2 | exact hp2.1.1 | exact hp0 | exact k1 | exact k2 | exact (fun h : false = true => absurd h (by decide)) | exact (fun h : true = false => absurd h (by decide)) | exact (fun h : (!false) = false => absurd h (by decide)) | exact (fun h : (!true) = true => absurd h (by decide)) | exact (fun h => absurd (iA.symm.trans h) (by decide)) | exact (fun h => absurd (iB.symm.trans h) (by decide)) | exact (fun h => absurd (iAn.symm.trans h) (by decide)) | exact (fun h => absurd (iBn.symm.trans h) (by decide))) | refine ⟨?_, ?_⟩ | intro _)
       all_goals first | (with_reducible first | apply qa | apply qb | apply qc | apply qd) | (conv => whnf)
       all_goals first | (with_reducible rfl) | decide | (with_reducible exact k1.1.1) | (exact k1) | (exact k2) | (intro _ _; exact rfl) | exact rfl | (rw [e]; done) | (rw [e]; rfl) | rfl
 . cases h
def FCEqual : List Ar -> Option Rs
 | [.agg [.d (.v (.bool b0)), .d (.lst 1 n0 f0)], .agg [.d (.v (.bool b1)), .d (.lst 1 n1 f1)], .c (.d (.lst 1 n2 f2))] => some ⟨(n0 * 16 <= 140737488351232 /\ ∀ i, i < n0 -> f0 i = [st (gT (f0 i))]) /\ (n1 * 16 <= 140737488351232 /\ ∀ i, i < n1 -> f1 i = [st (gT (f1 i))]) /\ (n2 * 16 <= 140737488351232 /\ ∀ i, i < n2 -> f2 i = [st (gT (f2 i))]), .tup [.c (.d (bo (mayB (⟨b0, gN n0 f0⟩ : Ns) (⟨b1, gN n1 f1⟩ : Ns)))), .c (.d (bo (eqMust (⟨b0, gN n0 f0⟩ : Ns) (⟨b1, gN n1 f1⟩ : Ns) (gN n2 f2))))], []⟩
 | _ => none
theorem fcCEqual : FC Tryz.prog 107 FCEqual := by
 intro xs pre r us h hp
 unfold FCEqual at h
 split at h
 . rename_i b0 n0 f0 b1 n1 f1 n2 f2
   cases h
   obtain ⟨hp0, hp1, hp2⟩ := hp
   refine FCat.of_eq (as' := [.agg [.d (.v (.bool b0)), .d (.lst 1 n0 fun i => [st (gT (f0 i))])], .agg [.d (.v (.bool b1)), .d (.lst 1 n1 fun i => [st (gT (f1 i))])], .c (.d (.lst 1 n2 fun i => [st (gT (f2 i))]))]) ?_ rfl rfl ?_
   . repeat' (first | exact trivial | exact rfl | refine ⟨?_, ?_⟩ | fail)
     all_goals first | exact hp0.2 | exact hp1.2 | exact hp2.2 | (intro i hi; exact (hp0.2 i hi).1) | (intro i hi; exact (hp1.2 i hi).1) | (intro i hi; exact (hp2.2 i hi).1) | grind
   refine fcat tys_ok (l := [(153, ⟨[], FNEqual⟩), (112, ⟨[], FNOnly⟩), (97, ⟨[], FNContains⟩)]) ⟨fcNEqual, fcNOnly, fcNContains, trivial⟩ Tryz.func107 rfl (by kernel_rfl) false ?_
   have c0 : (gN n0 fun i => [st (gT (f0 i))]) = gN n0 f0 := rfl
   rw [<- c0]
   have c1 : (gN n1 fun i => [st (gT (f1 i))]) = gN n1 f1 := rfl
   rw [<- c1]
   have c2 : (gN n2 fun i => [st (gT (f2 i))]) = gN n2 f2 := rfl
   rw [<- c2]
   cases mu : mustB (⟨b0, (gN n0 fun i => [st (gT (f0 i))])⟩ : Ns) (⟨b1, (gN n1 fun i => [st (gT (f1 i))])⟩ : Ns)
   . have mun := congrArg Bool.not mu; simp only [Bool.not_true, Bool.not_false] at mun
     have e : eqMust (⟨b0, (gN n0 fun i => [st (gT (f0 i))])⟩ : Ns) (⟨b1, (gN n1 fun i => [st (gT (f1 i))])⟩ : Ns) (gN n2 fun i => [st (gT (f2 i))]) = false := by unfold eqMust; simp only [mu, reduceIte, Bool.not_true, Bool.not_false, Bool.true_and, Bool.false_and, Bool.and_true, Bool.and_false, Bool.true_or, Bool.false_or, Bool.or_true, Bool.or_false, Bool.false_eq_true, Bool.true_eq_false]
     repeat' (first | exact trivial | (with_reducible first | exact hp0 | exact hp0.1 | exact hp1 | exact hp1.1 | exact hp2 | exact hp2.1 | exact (fun h : false = true => absurd h (by decide)) | exact (fun h : true = false => absurd h (by decide)) | exact (fun h : (!false) = false => absurd h (by decide)) | exact (fun h : (!true) = true => absurd h (by decide)) | exact (fun h => absurd (mu.symm.trans h) (by decide)) | exact (fun h => absurd (mun.symm.trans h) (by decide))) | refine ⟨?_, ?_⟩ | intro _)
     all_goals first | (with_reducible first | apply qa | apply qb | apply qc | apply qd) | (conv => whnf)
     all_goals first | (with_reducible rfl) | decide | (intro _ _; exact rfl) | exact rfl | (rw [e]; done) | (rw [e]; rfl) | rfl
   . cases on : onlyB (⟨b0, (gN n0 fun i => [st (gT (f0 i))])⟩ : Ns)
     . have mun := congrArg Bool.not mu; simp only [Bool.not_true, Bool.not_false] at mun
       have onn := congrArg Bool.not on; simp only [Bool.not_true, Bool.not_false] at onn
       have e : eqMust (⟨b0, (gN n0 fun i => [st (gT (f0 i))])⟩ : Ns) (⟨b1, (gN n1 fun i => [st (gT (f1 i))])⟩ : Ns) (gN n2 fun i => [st (gT (f2 i))]) = true := by unfold eqMust; simp only [mu, on, reduceIte, Bool.not_true, Bool.not_false, Bool.true_and, Bool.false_and, Bool.and_true, Bool.and_false, Bool.true_or, Bool.false_or, Bool.or_true, Bool.or_false, Bool.false_eq_true, Bool.true_eq_false]
       repeat' (first | exact trivial | (with_reducible first | exact hp0 | exact hp0.1 | exact hp1 | exact hp1.1 | exact hp2 | exact hp2.1 | exact (fun h : false = true => absurd h (by decide)) | exact (fun h : true = false => absurd h (by decide)) | exact (fun h : (!false) = false => absurd h (by decide)) | exact (fun h : (!true) = true => absurd h (by decide)) | exact (fun h => absurd (mu.symm.trans h) (by decide)) | exact (fun h => absurd (on.symm.trans h) (by decide)) | exact (fun h => absurd (mun.symm.trans h) (by decide)) | exact (fun h => absurd (onn.symm.trans h) (by decide))) | refine ⟨?_, ?_⟩ | intro _)
       all_goals first | (with_reducible first | apply qa | apply qb | apply qc | apply qd) | (conv => whnf)
       all_goals first | (with_reducible rfl) | decide | (intro _ _; exact rfl) | exact rfl | (rw [e]; done) | (rw [e]; rfl) | rfl
     . cases me : memS (onlyT (⟨b0, (gN n0 fun i => [st (gT (f0 i))])⟩ : Ns)) (gN n2 fun i => [st (gT (f2 i))])
       . have mun := congrArg Bool.not mu; simp only [Bool.not_true, Bool.not_false] at mun
         have onn := congrArg Bool.not on; simp only [Bool.not_true, Bool.not_false] at onn
         have men := congrArg Bool.not me; simp only [Bool.not_true, Bool.not_false] at men
         have e : eqMust (⟨b0, (gN n0 fun i => [st (gT (f0 i))])⟩ : Ns) (⟨b1, (gN n1 fun i => [st (gT (f1 i))])⟩ : Ns) (gN n2 fun i => [st (gT (f2 i))]) = true := by unfold eqMust; simp only [mu, on, me, reduceIte, Bool.not_true, Bool.not_false, Bool.true_and, Bool.false_and, Bool.and_true, Bool.and_false, Bool.true_or, Bool.false_or, Bool.or_true, Bool.or_false, Bool.false_eq_true, Bool.true_eq_false]
         repeat' (first | exact trivial | (with_reducible first | exact hp0 | exact hp0.1 | exact hp1 | exact hp1.1 | exact hp2 | exact hp2.1 | exact (fun h : false = true => absurd h (by decide)) | exact (fun h : true = false => absurd h (by decide)) | exact (fun h : (!false) = false => absurd h (by decide)) | exact (fun h : (!true) = true => absurd h (by decide)) | exact (fun h => absurd (mu.symm.trans h) (by decide)) | exact (fun h => absurd (on.symm.trans h) (by decide)) | exact (fun h => absurd (me.symm.trans h) (by decide)) | exact (fun h => absurd (mun.symm.trans h) (by decide)) | exact (fun h => absurd (onn.symm.trans h) (by decide)) | exact (fun h => absurd (men.symm.trans h) (by decide))) | refine ⟨?_, ?_⟩ | intro _)
         all_goals first | (with_reducible first | apply qa | apply qb | apply qc | apply qd) | (conv => whnf)
         all_goals first | (with_reducible rfl) | decide | (intro _ _; exact rfl) | exact rfl | (rw [e]; done) | (rw [e]; rfl) | (rw [e]; exact congrArg Value.bool (congrArg Bool.not me)) | rfl
       . have mun := congrArg Bool.not mu; simp only [Bool.not_true, Bool.not_false] at mun
         have onn := congrArg Bool.not on; simp only [Bool.not_true, Bool.not_false] at onn
         have men := congrArg Bool.not me; simp only [Bool.not_true, Bool.not_false] at men
         have e : eqMust (⟨b0, (gN n0 fun i => [st (gT (f0 i))])⟩ : Ns) (⟨b1, (gN n1 fun i => [st (gT (f1 i))])⟩ : Ns) (gN n2 fun i => [st (gT (f2 i))]) = false := by unfold eqMust; simp only [mu, on, me, reduceIte, Bool.not_true, Bool.not_false, Bool.true_and, Bool.false_and, Bool.and_true, Bool.and_false, Bool.true_or, Bool.false_or, Bool.or_true, Bool.or_false, Bool.false_eq_true, Bool.true_eq_false]
         repeat' (first | exact trivial | (with_reducible first | exact hp0 | exact hp0.1 | exact hp1 | exact hp1.1 | exact hp2 | exact hp2.1 | exact (fun h : false = true => absurd h (by decide)) | exact (fun h : true = false => absurd h (by decide)) | exact (fun h : (!false) = false => absurd h (by decide)) | exact (fun h : (!true) = true => absurd h (by decide)) | exact (fun h => absurd (mu.symm.trans h) (by decide)) | exact (fun h => absurd (on.symm.trans h) (by decide)) | exact (fun h => absurd (me.symm.trans h) (by decide)) | exact (fun h => absurd (mun.symm.trans h) (by decide)) | exact (fun h => absurd (onn.symm.trans h) (by decide)) | exact (fun h => absurd (men.symm.trans h) (by decide))) | refine ⟨?_, ?_⟩ | intro _)
         all_goals first | (with_reducible first | apply qa | apply qb | apply qc | apply qd) | (conv => whnf)
         all_goals first | (with_reducible rfl) | decide | (intro _ _; exact rfl) | exact rfl | (rw [e]; done) | (rw [e]; rfl) | (rw [e]; exact congrArg Value.bool (congrArg Bool.not me)) | rfl
 . cases h
def FCPointers : List Ar -> Option Rs
 | [.c (.d (.v (.int .i64 i0))), .agg [.d (.v (.bool b1)), .d (.lst 1 n1 f1)], .agg [.d (.v (.bool b2)), .d (.lst 1 n2 f2)], .c (.d (.lst 1 n3 f3))] => some ⟨(-9223372036854775808 <= i0 /\ i0 < 9223372036854775808) /\ (n1 * 16 <= 140737488351232 /\ ∀ i, i < n1 -> f1 i = [st (gT (f1 i))]) /\ (n2 * 16 <= 140737488351232 /\ ∀ i, i < n2 -> f2 i = [st (gT (f2 i))]) /\ (n3 * 16 <= 140737488351232 /\ ∀ i, i < n3 -> f3 i = [st (gT (f3 i))]), .va (Vl.ar (ptrV i0 (⟨b1, gN n1 f1⟩ : Ns) (⟨b2, gN n2 f2⟩ : Ns) (gN n3 f3))), []⟩
 | _ => none
theorem fcCPointers : FC Tryz.prog 62 FCPointers := by
 intro xs pre r us h hp
 unfold FCPointers at h
 split at h
 . rename_i i0 b1 n1 f1 b2 n2 f2 n3 f3
   cases h
   obtain ⟨hp0, hp1, hp2, hp3⟩ := hp
   refine FCat.of_eq (as' := [.c (.d (.v (.int .i64 i0))), .agg [.d (.v (.bool b1)), .d (.lst 1 n1 fun i => [st (gT (f1 i))])], .agg [.d (.v (.bool b2)), .d (.lst 1 n2 fun i => [st (gT (f2 i))])], .c (.d (.lst 1 n3 fun i => [st (gT (f3 i))]))]) ?_ rfl rfl ?_
   . repeat' (first | exact trivial | exact rfl | refine ⟨?_, ?_⟩ | fail)
     all_goals first | exact hp0.2 | exact hp1.2 | exact hp2.2 | (intro i hi; exact (hp0.2 i hi).1) | (intro i hi; exact (hp1.2 i hi).1) | (intro i hi; exact (hp2.2 i hi).1) | grind
   refine fcat tys_ok (l := [(73, ⟨[], FNNone⟩), (107, ⟨[], FCEqual⟩), (22, ⟨[], FVNum⟩), (59, ⟨[], FVInt⟩), (85, ⟨[], FSOf⟩), (57, ⟨[], FCAll⟩)]) ⟨fcNNone, fcCEqual, fcVNum, fcVInt, fcSOf, fcCAll, trivial⟩ Tryz.func62 rfl (by kernel_rfl) true ?_
   have c1 : (gN n1 fun i => [st (gT (f1 i))]) = gN n1 f1 := rfl
   rw [<- c1]
   have c2 : (gN n2 fun i => [st (gT (f2 i))]) = gN n2 f2 := rfl
   rw [<- c2]
   have c3 : (gN n3 fun i => [st (gT (f3 i))]) = gN n3 f3 := rfl
   rw [<- c3]
   have b01i := b01_inR
   unfold Sp.inR Cg.inR at b01i
   all_goals first | (by_cases e14 : i0 = 14) | skip
   all_goals first | (have _ := (show ¬ _ from e14); by_cases e15 : i0 = 15) | skip
   all_goals first | (cases v1 : (!b1 && decide ((gN n1 fun i => [st (gT (f1 i))]) = []))) | skip
   all_goals first | (have _ := (show _ = false from v1); cases v2 : (!b2 && decide ((gN n2 fun i => [st (gT (f2 i))]) = []))) | skip
   all_goals first | (have _ := (show _ = false from v2); have _ := (show _ = _ from e14); cases mu : eqMust (⟨b1, (gN n1 fun i => [st (gT (f1 i))])⟩ : Ns) (⟨b2, (gN n2 fun i => [st (gT (f2 i))])⟩ : Ns) (gN n3 fun i => [st (gT (f3 i))])) | skip
   all_goals first | (have _ := (show _ = false from v2); have _ := (show _ = _ from e15); cases mu : eqMust (⟨b1, (gN n1 fun i => [st (gT (f1 i))])⟩ : Ns) (⟨b2, (gN n2 fun i => [st (gT (f2 i))])⟩ : Ns) (gN n3 fun i => [st (gT (f3 i))])) | skip
   all_goals first | (have _ := (show _ = false from mu); cases ma : mayB (⟨b1, (gN n1 fun i => [st (gT (f1 i))])⟩ : Ns) (⟨b2, (gN n2 fun i => [st (gT (f2 i))])⟩ : Ns)) | skip
   all_goals first | (have k14 := e14; have _ := (show _ = _ from k14)) | (have k15 := e15; have _ := (show _ = _ from k15)) | skip
   all_goals first | subst e14 | subst e15 | skip
   all_goals first | (have _ := k14; have e := pt_1 (op := 14) (x := (⟨b1, (gN n1 fun i => [st (gT (f1 i))])⟩ : Ns)) (y := (⟨b2, (gN n2 fun i => [st (gT (f2 i))])⟩ : Ns)) (m := (gN n3 fun i => [st (gT (f3 i))])) v1) | (have _ := k14; have e := pt_2 (op := 14) (x := (⟨b1, (gN n1 fun i => [st (gT (f1 i))])⟩ : Ns)) (y := (⟨b2, (gN n2 fun i => [st (gT (f2 i))])⟩ : Ns)) (m := (gN n3 fun i => [st (gT (f3 i))])) v2) | (have _ := k15; have e := pt_1 (op := 15) (x := (⟨b1, (gN n1 fun i => [st (gT (f1 i))])⟩ : Ns)) (y := (⟨b2, (gN n2 fun i => [st (gT (f2 i))])⟩ : Ns)) (m := (gN n3 fun i => [st (gT (f3 i))])) v1) | (have _ := k15; have e := pt_2 (op := 15) (x := (⟨b1, (gN n1 fun i => [st (gT (f1 i))])⟩ : Ns)) (y := (⟨b2, (gN n2 fun i => [st (gT (f2 i))])⟩ : Ns)) (m := (gN n3 fun i => [st (gT (f3 i))])) v2) | (have e := pt_1 (op := i0) (x := (⟨b1, (gN n1 fun i => [st (gT (f1 i))])⟩ : Ns)) (y := (⟨b2, (gN n2 fun i => [st (gT (f2 i))])⟩ : Ns)) (m := (gN n3 fun i => [st (gT (f3 i))])) v1) | (have e := pt_2 (op := i0) (x := (⟨b1, (gN n1 fun i => [st (gT (f1 i))])⟩ : Ns)) (y := (⟨b2, (gN n2 fun i => [st (gT (f2 i))])⟩ : Ns)) (m := (gN n3 fun i => [st (gT (f3 i))])) v2) | (have _ := k14; have e := (pt_4 (x := (⟨b1, (gN n1 fun i => [st (gT (f1 i))])⟩ : Ns)) (y := (⟨b2, (gN n2 fun i => [st (gT (f2 i))])⟩ : Ns)) (m := (gN n3 fun i => [st (gT (f3 i))])) v1 v2 mu).1) | (have _ := k14; have e := (pt_5 (x := (⟨b1, (gN n1 fun i => [st (gT (f1 i))])⟩ : Ns)) (y := (⟨b2, (gN n2 fun i => [st (gT (f2 i))])⟩ : Ns)) (m := (gN n3 fun i => [st (gT (f3 i))])) v1 v2 mu ma).1) | (have _ := k14; have e := (pt_6 (x := (⟨b1, (gN n1 fun i => [st (gT (f1 i))])⟩ : Ns)) (y := (⟨b2, (gN n2 fun i => [st (gT (f2 i))])⟩ : Ns)) (m := (gN n3 fun i => [st (gT (f3 i))])) v1 v2 mu ma).1) | (have _ := k15; have e := (pt_4 (x := (⟨b1, (gN n1 fun i => [st (gT (f1 i))])⟩ : Ns)) (y := (⟨b2, (gN n2 fun i => [st (gT (f2 i))])⟩ : Ns)) (m := (gN n3 fun i => [st (gT (f3 i))])) v1 v2 mu).2) | (have _ := k15; have e := (pt_5 (x := (⟨b1, (gN n1 fun i => [st (gT (f1 i))])⟩ : Ns)) (y := (⟨b2, (gN n2 fun i => [st (gT (f2 i))])⟩ : Ns)) (m := (gN n3 fun i => [st (gT (f3 i))])) v1 v2 mu ma).2) | (have _ := k15; have e := (pt_6 (x := (⟨b1, (gN n1 fun i => [st (gT (f1 i))])⟩ : Ns)) (y := (⟨b2, (gN n2 fun i => [st (gT (f2 i))])⟩ : Ns)) (m := (gN n3 fun i => [st (gT (f3 i))])) v1 v2 mu ma).2) | (have e := pt_3 (op := i0) (x := (⟨b1, (gN n1 fun i => [st (gT (f1 i))])⟩ : Ns)) (y := (⟨b2, (gN n2 fun i => [st (gT (f2 i))])⟩ : Ns)) (m := (gN n3 fun i => [st (gT (f3 i))])) ⟨e14, e15⟩) | skip
   all_goals repeat' (first | exact trivial | (with_reducible first | exact (fun h : (!false) = false => absurd h (by decide)) | exact (fun h : (!true) = true => absurd h (by decide)) | exact hp0 | exact hp1 | exact hp2 | exact hp3 | exact hp1.1 | exact hp2.1 | exact hp3.1 | exact b01_inR.1 | exact b01_inR.2 | exact (fun h => absurd ((beq_eq_false_iff_ne.2 e14).symm.trans h) (by decide)) | exact (fun h => absurd ((beq_eq_false_iff_ne.2 e15).symm.trans h) (by decide)) | exact (fun h => absurd ((bne_iff_ne.2 e14).symm.trans h) (by decide)) | exact (fun h => absurd ((bne_iff_ne.2 e15).symm.trans h) (by decide)) | exact (fun h => absurd (v1.symm.trans h) (by decide)) | exact (fun h => absurd (v2.symm.trans h) (by decide)) | exact (fun h => absurd (mu.symm.trans h) (by decide)) | exact (fun h => absurd (mu.symm.trans h) (by decide)) | exact (fun h => absurd (ma.symm.trans h) (by decide)) | exact (fun h => absurd ((congrArg Bool.not v1).symm.trans h) (by decide)) | exact (fun h => absurd ((congrArg Bool.not v2).symm.trans h) (by decide)) | exact (fun h => absurd ((congrArg Bool.not mu).symm.trans h) (by decide)) | exact (fun h => absurd ((congrArg Bool.not mu).symm.trans h) (by decide)) | exact (fun h => absurd ((congrArg Bool.not ma).symm.trans h) (by decide)) | exact (fun h => absurd h (by decide))) | refine ⟨?_, ?_⟩ | intro _)
   all_goals first | (with_reducible first | apply qa | apply qb | apply qc | apply qd) | (conv => whnf)
   all_goals first | (with_reducible rfl) | decide | exact b01_inR.1 | exact b01_inR.2 | (intro _ _; exact rfl) | exact rfl | (rw [e]; done) | (rw [e]; rfl)
 . cases h
theorem gN_lst2 (l : List ByteArray) : gN l.length (fun i => [st (gT [st (atS l i)])]) = l := gN_lst l
theorem meetS_len (l m : List ByteArray) : (meetS l m).length <= l.length := List.length_filter_le _ _
theorem okV_meetF {a b : Vl} (ha : okV a) (hb : okV b) : okV (Vl.meetF a b) := by
 refine ⟨⟨?_, fun _ _ => rfl⟩, meetF_inR ha.2 hb.2⟩
 show (ofS (meetS (ofS a.t.names) (ofS b.t.names))).length * 16 <= 140737488351232
 have h1 := ofS_len (meetS (ofS a.t.names) (ofS b.t.names))
 have h2 := meetS_len (ofS a.t.names) (ofS b.t.names)
 have h3 := ofS_len a.t.names
 have := ha.1.1
 omega
def FVMeet : List Ar -> Option Rs
 | [.agg [.d (.v (.bool s0)), .d (.v (.int .i64 l0)), .d (.v (.int .i64 h0)), .d (.v (.bool b0)), .d (.v (.int .i64 m0)), .d (.v (.int .i64 r0)), .d (.v (.bool z0)), .d (.lst 1 n0 f0)], .agg [.d (.v (.bool s1)), .d (.v (.int .i64 l1)), .d (.v (.int .i64 h1)), .d (.v (.bool b1)), .d (.v (.int .i64 m1)), .d (.v (.int .i64 r1)), .d (.v (.bool z1)), .d (.lst 1 n1 f1)]] => some ⟨((n0 * 16 <= 140737488351232 /\ ∀ i, i < n0 -> f0 i = [st (gT (f0 i))]) /\ Sp.inR ⟨s0, l0, h0⟩ /\ Cg.inR ⟨b0, m0, r0⟩) /\ ((n1 * 16 <= 140737488351232 /\ ∀ i, i < n1 -> f1 i = [st (gT (f1 i))]) /\ Sp.inR ⟨s1, l1, h1⟩ /\ Cg.inR ⟨b1, m1, r1⟩), .va (Vl.ar (Vl.meet (⟨⟨⟨s0, l0, h0⟩, ⟨b0, m0, r0⟩⟩, ⟨z0, gN n0 f0⟩⟩ : Vl) (⟨⟨⟨s1, l1, h1⟩, ⟨b1, m1, r1⟩⟩, ⟨z1, gN n1 f1⟩⟩ : Vl))), []⟩
 | _ => none
theorem fcVMeet : FC Tryz.prog 8 FVMeet := by
 intro xs pre r us h hp
 unfold FVMeet at h
 split at h
 . rename_i s0 l0 h0 b0 m0 r0 z0 n0 f0 s1 l1 h1 b1 m1 r1 z1 n1 f1
   cases h
   obtain ⟨hp0, hp1⟩ := hp
   refine FCat.of_eq (as' := [.agg [.d (.v (.bool s0)), .d (.v (.int .i64 l0)), .d (.v (.int .i64 h0)), .d (.v (.bool b0)), .d (.v (.int .i64 m0)), .d (.v (.int .i64 r0)), .d (.v (.bool z0)), .d (.lst 1 n0 fun i => [st (gT (f0 i))])], .agg [.d (.v (.bool s1)), .d (.v (.int .i64 l1)), .d (.v (.int .i64 h1)), .d (.v (.bool b1)), .d (.v (.int .i64 m1)), .d (.v (.int .i64 r1)), .d (.v (.bool z1)), .d (.lst 1 n1 fun i => [st (gT (f1 i))])]]) ?_ rfl rfl ?_
   . repeat' (first | exact trivial | exact rfl | refine ⟨?_, ?_⟩ | fail)
     all_goals first | exact hp0.2 | exact hp1.2 | exact hp2.2 | (intro i hi; exact (hp0.2 i hi).1) | (intro i hi; exact (hp1.2 i hi).1) | (intro i hi; exact (hp2.2 i hi).1) | grind
   refine fcat tys_ok (l := [(33, ⟨[], FVOf⟩), (39, ⟨[], FSMeet⟩), (40, ⟨[], FCMeet⟩), (41, ⟨[], FNMeet⟩), (37, ⟨[], FVValue⟩), (38, ⟨[], FVReduce⟩)]) ⟨fcVOf, fcSMeet, fcCMeet, fcNMeet, fcVValue, fcVReduce, trivial⟩ Tryz.func8 rfl (by kernel_rfl) true ?_
   have hv0 : okV (⟨⟨⟨s0, l0, h0⟩, ⟨b0, m0, r0⟩⟩, ⟨z0, gN n0 fun i => [st (gT (f0 i))]⟩⟩ : Vl) := ⟨⟨(by rw [gN_length]; exact hp0.1.1), fun _ _ => rfl⟩, hp0.2⟩
   have hv1 : okV (⟨⟨⟨s1, l1, h1⟩, ⟨b1, m1, r1⟩⟩, ⟨z1, gN n1 fun i => [st (gT (f1 i))]⟩⟩ : Vl) := ⟨⟨(by rw [gN_length]; exact hp1.1.1), fun _ _ => rfl⟩, hp1.2⟩
   have ho0 := okV_of hv0
   have ho1 := okV_of hv1
   have hoo0 := okV_of ho0
   have hoo1 := okV_of ho1
   have hl0 : (Vl.of (⟨⟨⟨s0, l0, h0⟩, ⟨b0, m0, r0⟩⟩, ⟨z0, gN n0 fun i => [st (gT (f0 i))]⟩⟩ : Vl)).t.names.length <= n0 := by have := ofS_len (gN n0 f0); rw [gN_length] at this; exact this
   have hl1 : (Vl.of (⟨⟨⟨s1, l1, h1⟩, ⟨b1, m1, r1⟩⟩, ⟨z1, gN n1 fun i => [st (gT (f1 i))]⟩⟩ : Vl)).t.names.length <= n1 := by have := ofS_len (gN n1 f1); rw [gN_length] at this; exact this
   have hsj := Sp.join_inR ho0.2.1 ho1.2.1
   have hcj := Cg.join_inR ho0.2.2 ho1.2.2
   unfold okV at ho0 ho1 hoo0 hoo1
   have hmf := okV_meetF hv0 hv1
   unfold okV at hmf
   repeat' (first | exact trivial | (with_reducible first | exact ho0 | exact ho1 | exact ho0.1 | exact ho1.1 | exact ho0.2.1 | exact ho0.2.2 | exact ho1.2.1 | exact ho1.2.2 | exact hp0.1 | exact hp1.1 | exact hp0.2.1 | exact hp0.2.2 | exact hp1.2.1 | exact hp1.2.2 | exact hp0 | exact hp1 | exact hmf | exact hmf.1 | exact hmf.2.1 | exact hmf.2.2) | refine ⟨?_, ?_⟩ | intro _)
   all_goals first | (with_reducible first | apply qa | apply qb | apply qc | apply qd) | (conv => whnf)
   all_goals (try simp only [gN_lst, gN_lst2, gN_canon] at *)
   all_goals first | rfl | (with_reducible first | exact hp0.1.1 | exact hp1.1.1) | exact hmf.1.1 | exact hmf.2.1.1.1 | exact hmf.2.1.1.2 | exact hmf.2.1.2.1 | exact hmf.2.1.2.2 | exact hmf.2.2.1.1 | exact hmf.2.2.1.2 | exact hmf.2.2.2.1 | exact hmf.2.2.2.2
 . cases h
theorem ofS_nil : ofS [] = [] := List.length_eq_zero_iff.1 (Nat.le_zero.1 (ofS_len []))
theorem red_t (s : Sp) (c : Cg) : (Vl.reduce ⟨⟨s, c⟩, ⟨false, []⟩⟩).t = ⟨false, []⟩ := by show (⟨false, ofS []⟩ : Ns) = _; rw [ofS_nil]
theorem reduce_inR {v : Vl} (h : v.i.s.inR) (h2 : v.i.c.inR) : (Vl.reduce v).i.s.inR /\ (Vl.reduce v).i.c.inR := red_inR (Ig.clean_inR h h2).1 (Ig.clean_inR h h2).2
theorem zeroV_inR : zeroV.i.s.inR /\ zeroV.i.c.inR := ⟨noS_inR, cg_none_inR⟩
theorem bothV_inR {s : Sp} {c : Cg} (h : s.inR) (h2 : c.inR) : (bothV s c).i.s.inR /\ (bothV s c).i.c.inR := by
 unfold bothV; (repeat' split) <;> first | exact zeroV_inR | exact reduce_inR h h2
theorem bothV_t (s : Sp) (c : Cg) : (bothV s c).t = ⟨false, []⟩ := by unfold bothV; (repeat' split) <;> first | rfl | exact red_t _ _
theorem numV_t (op : Int) (a b : Vl) : (numV op a b).t = ⟨false, []⟩ := by unfold numV; (repeat' split) <;> first | rfl | exact bothV_t _ _
theorem numV_inR {op : Int} {a b : Vl} (ha : a.i.s.inR /\ a.i.c.inR) (hb : b.i.s.inR /\ b.i.c.inR) : (numV op a b).i.s.inR /\ (numV op a b).i.c.inR := by
 unfold numV; (repeat' split) <;> first | exact zeroV_inR | exact bothV_inR (rkDo_inR ha.1 hb.1) (rsDo_inR ha.2 hb.2)
theorem ptrV_t (op : Int) (a b : Ns) (m : List ByteArray) : (ptrV op a b m).t = ⟨false, []⟩ := by unfold ptrV; (repeat' split) <;> first | rfl | exact red_t _ _
theorem numO_inR {n : Int} (h : -9223372036854775808 <= n /\ n < 9223372036854775808) : (numO n).i.s.inR /\ (numO n).i.c.inR := ⟨Sp.of_inR h h, cg_inR1 (by decide) h⟩
theorem ptrV_inR (op : Int) (a b : Ns) (m : List ByteArray) : (ptrV op a b m).i.s.inR /\ (ptrV op a b m).i.c.inR := by
 unfold ptrV; (repeat' split) <;> first | exact zeroV_inR | exact numO_inR (by decide) | exact reduce_inR b01_inR.1 b01_inR.2
def upS (s : Sp) (e f : Int) : Sp := if wIntB (e - f) = true then Sp.meet s (Sp.of (-9223372036854775808) (e - f)) else noS
def frS (s : Sp) (e f : Int) : Sp := if wIntB (e + f) = true then Sp.meet s (Sp.of (e + f) 9223372036854775807) else noS
def lessA (a b : Vl) (f : Int) : Vl := bothV (upS a.i.s b.i.s.hi f) a.i.c
def lessB (a b : Vl) (f : Int) : Vl := bothV (frS b.i.s a.i.s.lo f) b.i.c
def wtS (s : Sp) (n : Int) : Sp := if s.lo = n /\ s.hi = n then noS else if s.lo = n then Sp.of (IntKind.wrap .i64 (n + 1)) s.hi else if s.hi = n then Sp.of s.lo (IntKind.wrap .i64 (n - 1)) else s
def unV (a b : Vl) : Vl := if b.i.s.lo ≠ b.i.s.hi then bothV a.i.s a.i.c else bothV (wtS a.i.s b.i.s.lo) a.i.c
def meetI (a b : Vl) : Vl := Vl.meet ⟨a.i, ⟨false, []⟩⟩ ⟨b.i, ⟨false, []⟩⟩
def cmA (op : Int) (a b : Vl) : Vl := if intsB a = false then zeroV else if intsB b = false then zeroV else if op = 12 then lessA a b 1 else if op = 13 then lessA a b 0 else if op = 15 then unV a b else meetI a b
def cmB (op : Int) (a b : Vl) : Vl := if intsB a = false then zeroV else if intsB b = false then zeroV else if op = 12 then lessB a b 1 else if op = 13 then lessB a b 0 else if op = 15 then unV b a else meetI a b
section
variable {s : Sp} {e f : Int} (hs : s.inR)
theorem wsub_v (he : -9223372036854775808 <= e /\ e < 9223372036854775808) (hf : 0 <= f /\ f <= 1) : (wd ((wd e).val - (wd f).val)).val = e - f := by
 rw [wd_val (v := e) (by omega) (by omega), wd_val (v := f) (by omega) (by omega), wd_val (by omega) (by omega)]
theorem wadd_v (he : -9223372036854775808 <= e /\ e < 9223372036854775808) (hf : 0 <= f /\ f <= 1) : (wd ((wd e).val + (wd f).val)).val = e + f := by
 rw [wd_val (v := e) (by omega) (by omega), wd_val (v := f) (by omega) (by omega), wd_val (by omega) (by omega)]
theorem wv (h : wIntB e = true) : wIntV e = e := by unfold wIntB at h; unfold wIntV; rw [if_pos (of_decide_eq_true h)]
theorem up_1 (h : wIntB (e - f) = true) : upS s e f = Sp.meet s (Sp.of (-9223372036854775808) (wIntV (e - f))) := by rw [wv h]; unfold upS; rw [if_pos h]
theorem up_0 (h : wIntB (e - f) = false) : upS s e f = noS := by unfold upS; rw [if_neg (by rw [h]; decide)]
theorem fr_1 (h : wIntB (e + f) = true) : frS s e f = Sp.meet s (Sp.of (wIntV (e + f)) 9223372036854775807) := by rw [wv h]; unfold frS; rw [if_pos h]
theorem fr_0 (h : wIntB (e + f) = false) : frS s e f = noS := by unfold frS; rw [if_neg (by rw [h]; decide)]
include hs
end
theorem wtS_inR {s : Sp} {n : Int} (hs : s.inR) : (wtS s n).inR := by
 obtain ⟨⟨a1, a2⟩, a3, a4⟩ := id hs
 unfold wtS; (repeat' split)
 . exact noS_inR
 . exact Sp.of_inR (w64_r _) ⟨a3, a4⟩
 . exact Sp.of_inR ⟨a1, a2⟩ (w64_r _)
 . exact hs
def FCDo : List Ar -> Option Rs
 | [.c (.d (.v (.int .i64 i0))), .agg [.d (.v (.bool s1)), .d (.v (.int .i64 l1)), .d (.v (.int .i64 h1)), .d (.v (.bool b1)), .d (.v (.int .i64 m1)), .d (.v (.int .i64 r1)), .d (.v (.bool z1)), .d (.lst 1 n1 f1)], .agg [.d (.v (.bool s2)), .d (.v (.int .i64 l2)), .d (.v (.int .i64 h2)), .d (.v (.bool b2)), .d (.v (.int .i64 m2)), .d (.v (.int .i64 r2)), .d (.v (.bool z2)), .d (.lst 1 n2 f2)], .c (.d (.lst 1 n3 f3))] => some ⟨(-9223372036854775808 <= i0 /\ i0 < 9223372036854775808) /\ ((n1 * 16 <= 140737488351232 /\ ∀ i, i < n1 -> f1 i = [st (gT (f1 i))]) /\ Sp.inR ⟨s1, l1, h1⟩ /\ Cg.inR ⟨b1, m1, r1⟩) /\ ((n2 * 16 <= 140737488351232 /\ ∀ i, i < n2 -> f2 i = [st (gT (f2 i))]) /\ Sp.inR ⟨s2, l2, h2⟩ /\ Cg.inR ⟨b2, m2, r2⟩) /\ (n3 * 16 <= 140737488351232 /\ ∀ i, i < n3 -> f3 i = [st (gT (f3 i))]), .va (Vl.ar (calcDo i0 (⟨⟨⟨s1, l1, h1⟩, ⟨b1, m1, r1⟩⟩, ⟨z1, gN n1 f1⟩⟩ : Vl) (⟨⟨⟨s2, l2, h2⟩, ⟨b2, m2, r2⟩⟩, ⟨z2, gN n2 f2⟩⟩ : Vl) (gN n3 f3))), []⟩
 | _ => none
theorem fcCDo : FC Tryz.prog 21 FCDo := by
 intro xs pre r us h hp
 unfold FCDo at h
 split at h
 . rename_i i0 s1 l1 h1 b1 m1 r1 z1 n1 f1 s2 l2 h2 b2 m2 r2 z2 n2 f2 n3 f3
   cases h
   obtain ⟨hp0, hp1, hp2, hp3⟩ := hp
   refine FCat.of_eq (as' := [.c (.d (.v (.int .i64 i0))), .agg [.d (.v (.bool s1)), .d (.v (.int .i64 l1)), .d (.v (.int .i64 h1)), .d (.v (.bool b1)), .d (.v (.int .i64 m1)), .d (.v (.int .i64 r1)), .d (.v (.bool z1)), .d (.lst 1 n1 fun i => [st (gT (f1 i))])], .agg [.d (.v (.bool s2)), .d (.v (.int .i64 l2)), .d (.v (.int .i64 h2)), .d (.v (.bool b2)), .d (.v (.int .i64 m2)), .d (.v (.int .i64 r2)), .d (.v (.bool z2)), .d (.lst 1 n2 fun i => [st (gT (f2 i))])], .c (.d (.lst 1 n3 fun i => [st (gT (f3 i))]))]) ?_ rfl rfl ?_
   . repeat' (first | exact trivial | exact rfl | refine ⟨?_, ?_⟩ | fail)
     all_goals first | exact hp0.2 | exact hp1.2 | exact hp2.2 | (intro i hi; exact (hp0.2 i hi).1) | (intro i hi; exact (hp1.2 i hi).1) | (intro i hi; exact (hp2.2 i hi).1) | grind
   refine fcat tys_ok (l := [(60, ⟨[], FVCleanV⟩), (61, ⟨[], FCNumbers⟩), (62, ⟨[], FCPointers⟩), (7, ⟨[], FVJoin⟩)]) ⟨fcVCleanV, fcCNumbers, fcCPointers, fcVJoin, trivial⟩ Tryz.func21 rfl (by kernel_rfl) true ?_
   have o1 := okV_of (v := (⟨⟨⟨s1, l1, h1⟩, ⟨b1, m1, r1⟩⟩, ⟨z1, (gN n1 fun i => [st (gT (f1 i))])⟩⟩ : Vl)) ⟨⟨(by rw [gN_length]; exact hp1.1.1), fun _ _ => rfl⟩, hp1.2⟩
   have o2 := okV_of (v := (⟨⟨⟨s2, l2, h2⟩, ⟨b2, m2, r2⟩⟩, ⟨z2, (gN n2 fun i => [st (gT (f2 i))])⟩⟩ : Vl)) ⟨⟨(by rw [gN_length]; exact hp2.1.1), fun _ _ => rfl⟩, hp2.2⟩
   have c1 : (gN n1 fun i => [st (gT (f1 i))]) = gN n1 f1 := rfl
   rw [<- c1]
   have c2 : (gN n2 fun i => [st (gT (f2 i))]) = gN n2 f2 := rfl
   rw [<- c2]
   have c3 : (gN n3 fun i => [st (gT (f3 i))]) = gN n3 f3 := rfl
   rw [<- c3]
   unfold calcDo
   have k1 := numV_inR (op := i0) (a := ((⟨⟨⟨s1, l1, h1⟩, ⟨b1, m1, r1⟩⟩, ⟨z1, (gN n1 fun i => [st (gT (f1 i))])⟩⟩ : Vl)).of) (b := ((⟨⟨⟨s2, l2, h2⟩, ⟨b2, m2, r2⟩⟩, ⟨z2, (gN n2 fun i => [st (gT (f2 i))])⟩⟩ : Vl)).of) o1.2 o2.2
   have k2 := ptrV_inR i0 ((⟨⟨⟨s1, l1, h1⟩, ⟨b1, m1, r1⟩⟩, ⟨z1, (gN n1 fun i => [st (gT (f1 i))])⟩⟩ : Vl)).of.t ((⟨⟨⟨s2, l2, h2⟩, ⟨b2, m2, r2⟩⟩, ⟨z2, (gN n2 fun i => [st (gT (f2 i))])⟩⟩ : Vl)).of.t (gN n3 fun i => [st (gT (f3 i))])
   have t1 := numV_t i0 ((⟨⟨⟨s1, l1, h1⟩, ⟨b1, m1, r1⟩⟩, ⟨z1, (gN n1 fun i => [st (gT (f1 i))])⟩⟩ : Vl)).of ((⟨⟨⟨s2, l2, h2⟩, ⟨b2, m2, r2⟩⟩, ⟨z2, (gN n2 fun i => [st (gT (f2 i))])⟩⟩ : Vl)).of
   have t2 := ptrV_t i0 ((⟨⟨⟨s1, l1, h1⟩, ⟨b1, m1, r1⟩⟩, ⟨z1, (gN n1 fun i => [st (gT (f1 i))])⟩⟩ : Vl)).of.t ((⟨⟨⟨s2, l2, h2⟩, ⟨b2, m2, r2⟩⟩, ⟨z2, (gN n2 fun i => [st (gT (f2 i))])⟩⟩ : Vl)).of.t (gN n3 fun i => [st (gT (f3 i))])
   have u1 : (numV i0 ((⟨⟨⟨s1, l1, h1⟩, ⟨b1, m1, r1⟩⟩, ⟨z1, (gN n1 fun i => [st (gT (f1 i))])⟩⟩ : Vl)).of ((⟨⟨⟨s2, l2, h2⟩, ⟨b2, m2, r2⟩⟩, ⟨z2, (gN n2 fun i => [st (gT (f2 i))])⟩⟩ : Vl)).of).t.names = [] := by rw [t1]
   have u2 : (ptrV i0 ((⟨⟨⟨s1, l1, h1⟩, ⟨b1, m1, r1⟩⟩, ⟨z1, (gN n1 fun i => [st (gT (f1 i))])⟩⟩ : Vl)).of.t ((⟨⟨⟨s2, l2, h2⟩, ⟨b2, m2, r2⟩⟩, ⟨z2, (gN n2 fun i => [st (gT (f2 i))])⟩⟩ : Vl)).of.t (gN n3 fun i => [st (gT (f3 i))])).t.names = [] := by rw [t2]
   have w1 : ((numV i0 ((⟨⟨⟨s1, l1, h1⟩, ⟨b1, m1, r1⟩⟩, ⟨z1, (gN n1 fun i => [st (gT (f1 i))])⟩⟩ : Vl)).of ((⟨⟨⟨s2, l2, h2⟩, ⟨b2, m2, r2⟩⟩, ⟨z2, (gN n2 fun i => [st (gT (f2 i))])⟩⟩ : Vl)).of).t.names.length + (ptrV i0 ((⟨⟨⟨s1, l1, h1⟩, ⟨b1, m1, r1⟩⟩, ⟨z1, (gN n1 fun i => [st (gT (f1 i))])⟩⟩ : Vl)).of.t ((⟨⟨⟨s2, l2, h2⟩, ⟨b2, m2, r2⟩⟩, ⟨z2, (gN n2 fun i => [st (gT (f2 i))])⟩⟩ : Vl)).of.t (gN n3 fun i => [st (gT (f3 i))])).t.names.length) * 16 <= 140737488351232 := by rw [u1, u2]; decide
   have w2 : (numV i0 ((⟨⟨⟨s1, l1, h1⟩, ⟨b1, m1, r1⟩⟩, ⟨z1, (gN n1 fun i => [st (gT (f1 i))])⟩⟩ : Vl)).of ((⟨⟨⟨s2, l2, h2⟩, ⟨b2, m2, r2⟩⟩, ⟨z2, (gN n2 fun i => [st (gT (f2 i))])⟩⟩ : Vl)).of).t.names.length * 16 <= 140737488351232 := by rw [u1]; decide
   have w3 : (ptrV i0 ((⟨⟨⟨s1, l1, h1⟩, ⟨b1, m1, r1⟩⟩, ⟨z1, (gN n1 fun i => [st (gT (f1 i))])⟩⟩ : Vl)).of.t ((⟨⟨⟨s2, l2, h2⟩, ⟨b2, m2, r2⟩⟩, ⟨z2, (gN n2 fun i => [st (gT (f2 i))])⟩⟩ : Vl)).of.t (gN n3 fun i => [st (gT (f3 i))])).t.names.length * 16 <= 140737488351232 := by rw [u2]; decide
   have K1 := k1
   have K2 := k2
   unfold Sp.inR Cg.inR at K1 K2
   unfold okV at o1 o2
   repeat' (first | exact trivial | (with_reducible first | exact hp0 | exact hp3 | exact hp3.1 | exact o1 | exact o2 | exact k1 | exact k2 | exact o1.2 | exact o2.2 | exact o1.2.1 | exact o1.2.2 | exact o2.2.1 | exact o2.2.2 | exact k1.1 | exact k1.2 | exact k2.1 | exact k2.2 | exact w2 | exact w3 | exact o1.1.1 | exact o2.1.1 | exact hp1 | exact hp1.1 | exact hp1.2 | exact hp1.2.1 | exact hp1.2.2 | exact hp1.1.1 | exact hp2 | exact hp2.1 | exact hp2.2 | exact hp2.2.1 | exact hp2.2.2 | exact hp2.1.1 | exact (fun h : false = true => absurd h (by decide)) | exact (fun h : true = false => absurd h (by decide))) | refine ⟨?_, ?_⟩ | intro _)
   all_goals first | (with_reducible first | apply qa | apply qb | apply qc | apply qd) | (conv => whnf)
   all_goals (try simp only [gN_lst] at *)
   all_goals first | (with_reducible rfl) | decide | (with_reducible first | exact K1.1.1.1 | exact K1.1.1.2 | exact K1.1.2.1 | exact K1.1.2.2 | exact K1.2.1.1 | exact K1.2.1.2 | exact K1.2.2.1 | exact K1.2.2.2 | exact K2.1.1.1 | exact K2.1.1.2 | exact K2.1.2.1 | exact K2.1.2.2 | exact K2.2.1.1 | exact K2.2.1.2 | exact K2.2.2.1 | exact K2.2.2.2) | exact w1 | exact w2 | exact w3 | exact o1.1.1 | exact o2.1.1 | (intro _ _; exact rfl) | exact rfl | rfl
 . cases h
section
variable {s : Sp} {e f X : Int}
theorem up_1' (hX : X = e - f) (h : wIntB X = true) : upS s e f = Sp.meet s (Sp.of (-9223372036854775808) (wIntV X)) := by subst hX; exact up_1 h
theorem up_0' (hX : X = e - f) (h : wIntB X = false) : upS s e f = noS := by subst hX; exact up_0 h
theorem fr_1' (hX : X = e + f) (h : wIntB X = true) : frS s e f = Sp.meet s (Sp.of (wIntV X) 9223372036854775807) := by subst hX; exact fr_1 h
theorem fr_0' (hX : X = e + f) (h : wIntB X = false) : frS s e f = noS := by subst hX; exact fr_0 h
end
section
variable {s : Sp} {n : Int}
theorem wt_1 (h : (s.lo == n) = true) (h2 : (s.hi == n) = true) : wtS s n = noS := by unfold wtS; rw [if_pos ⟨eq_of_beq h, eq_of_beq h2⟩]
theorem wt_2 (h : (s.lo == n) = true) (h2 : (s.hi == n) = false) : wtS s n = Sp.of (IntKind.wrap .i64 (n + 1)) s.hi := by unfold wtS; rw [if_neg (fun k => ne_of_beq_false h2 k.2), if_pos (eq_of_beq h)]
theorem wt_3 (h : (s.lo == n) = false) (h2 : (s.hi == n) = true) : wtS s n = Sp.of s.lo (IntKind.wrap .i64 (n - 1)) := by unfold wtS; rw [if_neg (fun k => ne_of_beq_false h k.1), if_neg (ne_of_beq_false h), if_pos (eq_of_beq h2)]
theorem wt_4 (h : (s.lo == n) = false) (h2 : (s.hi == n) = false) : wtS s n = s := by unfold wtS; rw [if_neg (fun k => ne_of_beq_false h k.1), if_neg (ne_of_beq_false h), if_neg (ne_of_beq_false h2)]
end
section
variable {a b : Vl} {op : Int}
theorem un_1 (h : (b.i.s.lo != b.i.s.hi) = true) : unV a b = bothV a.i.s a.i.c := by unfold unV; rw [if_pos (by simpa using h)]
theorem un_2 (h : (b.i.s.lo != b.i.s.hi) = false) : unV a b = bothV (wtS a.i.s b.i.s.lo) a.i.c := by unfold unV; rw [if_neg (by simpa using h)]
theorem cm_1 (h : intsB a = false) : cmA op a b = zeroV /\ cmB op a b = zeroV := by unfold cmA cmB; rw [if_pos h, if_pos h]; exact ⟨rfl, rfl⟩
theorem cm_2 (h : intsB b = false) : cmA op a b = zeroV /\ cmB op a b = zeroV := by
 unfold cmA cmB; by_cases k : intsB a = false
 . rw [if_pos k, if_pos k]; exact ⟨rfl, rfl⟩
 . rw [if_neg k, if_neg k, if_pos h, if_pos h]; exact ⟨rfl, rfl⟩
section
variable (h : intsB a = true) (h2 : intsB b = true)
include h h2
theorem cm_i : cmA op a b = (if op = 12 then lessA a b 1 else if op = 13 then lessA a b 0 else if op = 15 then unV a b else meetI a b) /\ cmB op a b = (if op = 12 then lessB a b 1 else if op = 13 then lessB a b 0 else if op = 15 then unV b a else meetI a b) := by
 constructor
 . unfold cmA; rw [if_neg (by rw [h]; decide), if_neg (by rw [h2]; decide)]
 . unfold cmB; rw [if_neg (by rw [h]; decide), if_neg (by rw [h2]; decide)]
theorem cm_12 : cmA 12 a b = lessA a b 1 /\ cmB 12 a b = lessB a b 1 := cm_i (op := 12) h h2
theorem cm_13 : cmA 13 a b = lessA a b 0 /\ cmB 13 a b = lessB a b 0 := cm_i (op := 13) h h2
theorem cm_15 : cmA 15 a b = unV a b /\ cmB 15 a b = unV b a := cm_i (op := 15) h h2
theorem cm_x (e12 : op ≠ 12) (e13 : op ≠ 13) (e15 : op ≠ 15) : cmA op a b = meetI a b /\ cmB op a b = meetI a b := by
 have := cm_i (op := op) h h2; rw [if_neg e12, if_neg e13, if_neg e15, if_neg e12, if_neg e13, if_neg e15] at this; exact this
end
end
theorem cmeetI_inR {a b : Vl} (ha : a.i.s.inR /\ a.i.c.inR) (hb : b.i.s.inR /\ b.i.c.inR) : (meetI a b).i.s.inR /\ (meetI a b).i.c.inR := by
 have := meetF_inR (a := ⟨a.i, ⟨false, []⟩⟩) (b := ⟨b.i, ⟨false, []⟩⟩) ha hb
 exact reduce_inR this.1 this.2
def FCLess : List Ar -> Option Rs
 | [.agg [.d (.v (.bool s0)), .d (.v (.int .i64 l0)), .d (.v (.int .i64 h0)), .d (.v (.bool b0)), .d (.v (.int .i64 m0)), .d (.v (.int .i64 r0)), .d (.v (.bool z0)), .d (.lst 1 n0 f0)], .agg [.d (.v (.bool s1)), .d (.v (.int .i64 l1)), .d (.v (.int .i64 h1)), .d (.v (.bool b1)), .d (.v (.int .i64 m1)), .d (.v (.int .i64 r1)), .d (.v (.bool z1)), .d (.lst 1 n1 f1)], .c (.d (.v (.int .i64 i2)))] => some ⟨((n0 * 16 <= 140737488351232 /\ ∀ i, i < n0 -> f0 i = [st (gT (f0 i))]) /\ Sp.inR ⟨s0, l0, h0⟩ /\ Cg.inR ⟨b0, m0, r0⟩) /\ ((n1 * 16 <= 140737488351232 /\ ∀ i, i < n1 -> f1 i = [st (gT (f1 i))]) /\ Sp.inR ⟨s1, l1, h1⟩ /\ Cg.inR ⟨b1, m1, r1⟩) /\ (-9223372036854775808 <= i2 /\ i2 < 9223372036854775808) /\ (0 <= i2 /\ i2 <= 1), .tup [Vl.ar (lessA (⟨⟨⟨s0, l0, h0⟩, ⟨b0, m0, r0⟩⟩, ⟨z0, gN n0 f0⟩⟩ : Vl) (⟨⟨⟨s1, l1, h1⟩, ⟨b1, m1, r1⟩⟩, ⟨z1, gN n1 f1⟩⟩ : Vl) i2), Vl.ar (lessB (⟨⟨⟨s0, l0, h0⟩, ⟨b0, m0, r0⟩⟩, ⟨z0, gN n0 f0⟩⟩ : Vl) (⟨⟨⟨s1, l1, h1⟩, ⟨b1, m1, r1⟩⟩, ⟨z1, gN n1 f1⟩⟩ : Vl) i2)], []⟩
 | _ => none
theorem fcCLess : FC Tryz.prog 109 FCLess := by
 intro xs pre r us h hp
 unfold FCLess at h
 split at h
 . rename_i s0 l0 h0 b0 m0 r0 z0 n0 f0 s1 l1 h1 b1 m1 r1 z1 n1 f1 i2
   cases h
   obtain ⟨hp0, hp1, hp2, hp3⟩ := hp
   refine FCat.of_eq (as' := [.agg [.d (.v (.bool s0)), .d (.v (.int .i64 l0)), .d (.v (.int .i64 h0)), .d (.v (.bool b0)), .d (.v (.int .i64 m0)), .d (.v (.int .i64 r0)), .d (.v (.bool z0)), .d (.lst 1 n0 fun i => [st (gT (f0 i))])], .agg [.d (.v (.bool s1)), .d (.v (.int .i64 l1)), .d (.v (.int .i64 h1)), .d (.v (.bool b1)), .d (.v (.int .i64 m1)), .d (.v (.int .i64 r1)), .d (.v (.bool z1)), .d (.lst 1 n1 fun i => [st (gT (f1 i))])], .c (.d (.v (.int .i64 i2)))]) ?_ rfl rfl ?_
   . repeat' (first | exact trivial | exact rfl | refine ⟨?_, ?_⟩ | fail)
     all_goals first | exact hp0.2 | exact hp1.2 | exact hp2.2 | (intro i hi; exact (hp0.2 i hi).1) | (intro i hi; exact (hp1.2 i hi).1) | (intro i hi; exact (hp2.2 i hi).1) | grind
   refine fcat tys_ok (l := [(122, ⟨[], FWOf⟩), (121, ⟨[], FWSub⟩), (137, ⟨[], FWAdd⟩), (94, ⟨[], FWInt⟩), (85, ⟨[], FSOf⟩), (39, ⟨[], FSMeet⟩), (79, ⟨[], FCBothV⟩)]) ⟨fcWOf, fcWSub, fcWAdd, fcWInt, fcSOf, fcSMeet, fcCBothV, trivial⟩ Tryz.func109 rfl (by kernel_rfl) true ?_
   obtain ⟨hl0, hh0⟩ := id hp0.2.1
   obtain ⟨hl1, hh1⟩ := id hp1.2.1
   dsimp only at hl0 hh0 hl1 hh1
   have v1 := wsub_v hh1 hp3
   have v2 := wadd_v hl0 hp3
   have rw1 := wInt_r (wd ((wd h1).val - (wd i2).val)).val
   have rw2 := wInt_r (wd ((wd l0).val + (wd i2).val)).val
   have y1 : Sp.inR (Sp.of (-9223372036854775808) (wIntV (wd ((wd h1).val - (wd i2).val)).val)) := Sp.of_inR (by unfold rI; decide) rw1
   have y2 : Sp.inR (Sp.of (wIntV (wd ((wd l0).val + (wd i2).val)).val) 9223372036854775807) := Sp.of_inR rw2 (by unfold rI; decide)
   have y3 := Sp.meet_inR hp0.2.1 y1
   have y4 := Sp.meet_inR hp1.2.1 y2
   have hmn : (-9223372036854775808 : Int) <= -9223372036854775808 /\ (-9223372036854775808 : Int) < 9223372036854775808 := by decide
   have hmx : (-9223372036854775808 : Int) <= 9223372036854775807 /\ (9223372036854775807 : Int) < 9223372036854775808 := by decide
   have nn := noS_inR
   have c0 : (gN n0 fun i => [st (gT (f0 i))]) = gN n0 f0 := rfl
   rw [<- c0]
   have c1 : (gN n1 fun i => [st (gT (f1 i))]) = gN n1 f1 := rfl
   rw [<- c1]
   cases w1 : wIntB (wd ((wd h1).val - (wd i2).val)).val
   . cases w2 : wIntB (wd ((wd l0).val + (wd i2).val)).val
     . have w1n := congrArg Bool.not w1; simp only [Bool.not_true, Bool.not_false] at w1n
       have w2n := congrArg Bool.not w2; simp only [Bool.not_true, Bool.not_false] at w2n
       have ea := up_0' (s := (⟨s0, l0, h0⟩ : Sp)) v1 w1
       have eb := fr_0' (s := (⟨s1, l1, h1⟩ : Sp)) v2 w2
       have eA : lessA (⟨⟨⟨s0, l0, h0⟩, ⟨b0, m0, r0⟩⟩, ⟨z0, (gN n0 fun i => [st (gT (f0 i))])⟩⟩ : Vl) (⟨⟨⟨s1, l1, h1⟩, ⟨b1, m1, r1⟩⟩, ⟨z1, (gN n1 fun i => [st (gT (f1 i))])⟩⟩ : Vl) i2 = bothV noS (⟨b0, m0, r0⟩ : Cg) := by unfold lessA; exact congrArg (fun s => bothV s (⟨b0, m0, r0⟩ : Cg)) ea
       have eB : lessB (⟨⟨⟨s0, l0, h0⟩, ⟨b0, m0, r0⟩⟩, ⟨z0, (gN n0 fun i => [st (gT (f0 i))])⟩⟩ : Vl) (⟨⟨⟨s1, l1, h1⟩, ⟨b1, m1, r1⟩⟩, ⟨z1, (gN n1 fun i => [st (gT (f1 i))])⟩⟩ : Vl) i2 = bothV noS (⟨b1, m1, r1⟩ : Cg) := by unfold lessB; exact congrArg (fun s => bothV s (⟨b1, m1, r1⟩ : Cg)) eb
       repeat' (first | exact trivial | (with_reducible first | exact hp0 | exact hp0.1 | exact hp0.2 | exact hp0.2.1 | exact hp0.2.2 | exact hp0.1.1 | exact hp1 | exact hp1.1 | exact hp1.2 | exact hp1.2.1 | exact hp1.2.2 | exact hp1.1.1 | exact hp2 | exact y1 | exact y2 | exact y3 | exact y4 | exact hl0 | exact hh0 | exact hl1 | exact hh1 | exact rw1 | exact rw2 | exact hmn | exact hmx | exact nn | exact And.intro hmn rw1 | exact And.intro rw2 hmx | exact wd_ok _ | exact And.intro (wd_ok _) (wd_ok _) | exact (fun h : false = true => absurd h (by decide)) | exact (fun h : true = false => absurd h (by decide)) | exact (fun h : (!false) = false => absurd h (by decide)) | exact (fun h : (!true) = true => absurd h (by decide)) | exact (fun h => absurd (w1.symm.trans h) (by decide)) | exact (fun h => absurd (w2.symm.trans h) (by decide)) | exact (fun h => absurd (w1n.symm.trans h) (by decide)) | exact (fun h => absurd (w2n.symm.trans h) (by decide))) | refine ⟨?_, ?_⟩ | intro _)
       all_goals first | (with_reducible first | apply qa | apply qb | apply qc | apply qd) | (conv => whnf)
       all_goals first | (with_reducible rfl) | decide | exact nn | (intro _ _; exact rfl) | exact rfl | (rw [eA]; done) | (rw [eA]; rfl) | (rw [eB]; done) | (rw [eB]; rfl) | rfl
     . have w1n := congrArg Bool.not w1; simp only [Bool.not_true, Bool.not_false] at w1n
       have w2n := congrArg Bool.not w2; simp only [Bool.not_true, Bool.not_false] at w2n
       have ea := up_0' (s := (⟨s0, l0, h0⟩ : Sp)) v1 w1
       have eb := fr_1' (s := (⟨s1, l1, h1⟩ : Sp)) v2 w2
       have eA : lessA (⟨⟨⟨s0, l0, h0⟩, ⟨b0, m0, r0⟩⟩, ⟨z0, (gN n0 fun i => [st (gT (f0 i))])⟩⟩ : Vl) (⟨⟨⟨s1, l1, h1⟩, ⟨b1, m1, r1⟩⟩, ⟨z1, (gN n1 fun i => [st (gT (f1 i))])⟩⟩ : Vl) i2 = bothV noS (⟨b0, m0, r0⟩ : Cg) := by unfold lessA; exact congrArg (fun s => bothV s (⟨b0, m0, r0⟩ : Cg)) ea
       have eB : lessB (⟨⟨⟨s0, l0, h0⟩, ⟨b0, m0, r0⟩⟩, ⟨z0, (gN n0 fun i => [st (gT (f0 i))])⟩⟩ : Vl) (⟨⟨⟨s1, l1, h1⟩, ⟨b1, m1, r1⟩⟩, ⟨z1, (gN n1 fun i => [st (gT (f1 i))])⟩⟩ : Vl) i2 = bothV (Sp.meet (⟨s1, l1, h1⟩ : Sp) (Sp.of (wIntV (wd ((wd l0).val + (wd i2).val)).val) 9223372036854775807)) (⟨b1, m1, r1⟩ : Cg) := by unfold lessB; exact congrArg (fun s => bothV s (⟨b1, m1, r1⟩ : Cg)) eb
       repeat' (first | exact trivial | (with_reducible first | exact hp0 | exact hp0.1 | exact hp0.2 | exact hp0.2.1 | exact hp0.2.2 | exact hp0.1.1 | exact hp1 | exact hp1.1 | exact hp1.2 | exact hp1.2.1 | exact hp1.2.2 | exact hp1.1.1 | exact hp2 | exact y1 | exact y2 | exact y3 | exact y4 | exact hl0 | exact hh0 | exact hl1 | exact hh1 | exact rw1 | exact rw2 | exact hmn | exact hmx | exact nn | exact And.intro hmn rw1 | exact And.intro rw2 hmx | exact wd_ok _ | exact And.intro (wd_ok _) (wd_ok _) | exact (fun h : false = true => absurd h (by decide)) | exact (fun h : true = false => absurd h (by decide)) | exact (fun h : (!false) = false => absurd h (by decide)) | exact (fun h : (!true) = true => absurd h (by decide)) | exact (fun h => absurd (w1.symm.trans h) (by decide)) | exact (fun h => absurd (w2.symm.trans h) (by decide)) | exact (fun h => absurd (w1n.symm.trans h) (by decide)) | exact (fun h => absurd (w2n.symm.trans h) (by decide))) | refine ⟨?_, ?_⟩ | intro _)
       all_goals first | (with_reducible first | apply qa | apply qb | apply qc | apply qd) | (conv => whnf)
       all_goals first | (with_reducible rfl) | decide | exact nn | (intro _ _; exact rfl) | exact rfl | (rw [eA]; done) | (rw [eA]; rfl) | (rw [eB]; done) | (rw [eB]; rfl) | rfl
   . cases w2 : wIntB (wd ((wd l0).val + (wd i2).val)).val
     . have w1n := congrArg Bool.not w1; simp only [Bool.not_true, Bool.not_false] at w1n
       have w2n := congrArg Bool.not w2; simp only [Bool.not_true, Bool.not_false] at w2n
       have ea := up_1' (s := (⟨s0, l0, h0⟩ : Sp)) v1 w1
       have eb := fr_0' (s := (⟨s1, l1, h1⟩ : Sp)) v2 w2
       have eA : lessA (⟨⟨⟨s0, l0, h0⟩, ⟨b0, m0, r0⟩⟩, ⟨z0, (gN n0 fun i => [st (gT (f0 i))])⟩⟩ : Vl) (⟨⟨⟨s1, l1, h1⟩, ⟨b1, m1, r1⟩⟩, ⟨z1, (gN n1 fun i => [st (gT (f1 i))])⟩⟩ : Vl) i2 = bothV (Sp.meet (⟨s0, l0, h0⟩ : Sp) (Sp.of (-9223372036854775808) (wIntV (wd ((wd h1).val - (wd i2).val)).val))) (⟨b0, m0, r0⟩ : Cg) := by unfold lessA; exact congrArg (fun s => bothV s (⟨b0, m0, r0⟩ : Cg)) ea
       have eB : lessB (⟨⟨⟨s0, l0, h0⟩, ⟨b0, m0, r0⟩⟩, ⟨z0, (gN n0 fun i => [st (gT (f0 i))])⟩⟩ : Vl) (⟨⟨⟨s1, l1, h1⟩, ⟨b1, m1, r1⟩⟩, ⟨z1, (gN n1 fun i => [st (gT (f1 i))])⟩⟩ : Vl) i2 = bothV noS (⟨b1, m1, r1⟩ : Cg) := by unfold lessB; exact congrArg (fun s => bothV s (⟨b1, m1, r1⟩ : Cg)) eb
       repeat' (first | exact trivial | (with_reducible first | exact hp0 | exact hp0.1 | exact hp0.2 | exact hp0.2.1 | exact hp0.2.2 | exact hp0.1.1 | exact hp1 | exact hp1.1 | exact hp1.2 | exact hp1.2.1 | exact hp1.2.2 | exact hp1.1.1 | exact hp2 | exact y1 | exact y2 | exact y3 | exact y4 | exact hl0 | exact hh0 | exact hl1 | exact hh1 | exact rw1 | exact rw2 | exact hmn | exact hmx | exact nn | exact And.intro hmn rw1 | exact And.intro rw2 hmx | exact wd_ok _ | exact And.intro (wd_ok _) (wd_ok _) | exact (fun h : false = true => absurd h (by decide)) | exact (fun h : true = false => absurd h (by decide)) | exact (fun h : (!false) = false => absurd h (by decide)) | exact (fun h : (!true) = true => absurd h (by decide)) | exact (fun h => absurd (w1.symm.trans h) (by decide)) | exact (fun h => absurd (w2.symm.trans h) (by decide)) | exact (fun h => absurd (w1n.symm.trans h) (by decide)) | exact (fun h => absurd (w2n.symm.trans h) (by decide))) | refine ⟨?_, ?_⟩ | intro _)
       all_goals first | (with_reducible first | apply qa | apply qb | apply qc | apply qd) | (conv => whnf)
       all_goals first | (with_reducible rfl) | decide | exact nn | (intro _ _; exact rfl) | exact rfl | (rw [eA]; done) | (rw [eA]; rfl) | (rw [eB]; done) | (rw [eB]; rfl) | rfl
     . have w1n := congrArg Bool.not w1; simp only [Bool.not_true, Bool.not_false] at w1n
       have w2n := congrArg Bool.not w2; simp only [Bool.not_true, Bool.not_false] at w2n
       have ea := up_1' (s := (⟨s0, l0, h0⟩ : Sp)) v1 w1
       have eb := fr_1' (s := (⟨s1, l1, h1⟩ : Sp)) v2 w2
       have eA : lessA (⟨⟨⟨s0, l0, h0⟩, ⟨b0, m0, r0⟩⟩, ⟨z0, (gN n0 fun i => [st (gT (f0 i))])⟩⟩ : Vl) (⟨⟨⟨s1, l1, h1⟩, ⟨b1, m1, r1⟩⟩, ⟨z1, (gN n1 fun i => [st (gT (f1 i))])⟩⟩ : Vl) i2 = bothV (Sp.meet (⟨s0, l0, h0⟩ : Sp) (Sp.of (-9223372036854775808) (wIntV (wd ((wd h1).val - (wd i2).val)).val))) (⟨b0, m0, r0⟩ : Cg) := by unfold lessA; exact congrArg (fun s => bothV s (⟨b0, m0, r0⟩ : Cg)) ea
       have eB : lessB (⟨⟨⟨s0, l0, h0⟩, ⟨b0, m0, r0⟩⟩, ⟨z0, (gN n0 fun i => [st (gT (f0 i))])⟩⟩ : Vl) (⟨⟨⟨s1, l1, h1⟩, ⟨b1, m1, r1⟩⟩, ⟨z1, (gN n1 fun i => [st (gT (f1 i))])⟩⟩ : Vl) i2 = bothV (Sp.meet (⟨s1, l1, h1⟩ : Sp) (Sp.of (wIntV (wd ((wd l0).val + (wd i2).val)).val) 9223372036854775807)) (⟨b1, m1, r1⟩ : Cg) := by unfold lessB; exact congrArg (fun s => bothV s (⟨b1, m1, r1⟩ : Cg)) eb
       repeat' (first | exact trivial | (with_reducible first | exact hp0 | exact hp0.1 | exact hp0.2 | exact hp0.2.1 | exact hp0.2.2 | exact hp0.1.1 | exact hp1 | exact hp1.1 | exact hp1.2 | exact hp1.2.1 | exact hp1.2.2 | exact hp1.1.1 | exact hp2 | exact y1 | exact y2 | exact y3 | exact y4 | exact hl0 | exact hh0 | exact hl1 | exact hh1 | exact rw1 | exact rw2 | exact hmn | exact hmx | exact nn | exact And.intro hmn rw1 | exact And.intro rw2 hmx | exact wd_ok _ | exact And.intro (wd_ok _) (wd_ok _) | exact (fun h : false = true => absurd h (by decide)) | exact (fun h : true = false => absurd h (by decide)) | exact (fun h : (!false) = false => absurd h (by decide)) | exact (fun h : (!true) = true => absurd h (by decide)) | exact (fun h => absurd (w1.symm.trans h) (by decide)) | exact (fun h => absurd (w2.symm.trans h) (by decide)) | exact (fun h => absurd (w1n.symm.trans h) (by decide)) | exact (fun h => absurd (w2n.symm.trans h) (by decide))) | refine ⟨?_, ?_⟩ | intro _)
       all_goals first | (with_reducible first | apply qa | apply qb | apply qc | apply qd) | (conv => whnf)
       all_goals first | (with_reducible rfl) | decide | exact nn | (intro _ _; exact rfl) | exact rfl | (rw [eA]; done) | (rw [eA]; rfl) | (rw [eB]; done) | (rw [eB]; rfl) | rfl
 . cases h
def FCWithout : List Ar -> Option Rs
 | [.agg [.d (.v (.bool s0)), .d (.v (.int .i64 l0)), .d (.v (.int .i64 h0))], .c (.d (.v (.int .i64 i1)))] => some ⟨(Sp.inR ⟨s0, l0, h0⟩) /\ (-9223372036854775808 <= i1 /\ i1 < 9223372036854775808), .va (Sp.ar (wtS (⟨s0, l0, h0⟩ : Sp) i1)), []⟩
 | _ => none
theorem fcCWithout : FC Tryz.prog 154 FCWithout := by
 intro xs pre r us h hp
 unfold FCWithout at h
 split at h
 . rename_i s0 l0 h0 i1
   cases h
   obtain ⟨hp0, hp1⟩ := hp
   refine fcat tys_ok (l := [(85, ⟨[], FSOf⟩)]) ⟨fcSOf, trivial⟩ Tryz.func154 rfl (by kernel_rfl) false ?_
   have q0 := hp0; unfold Sp.inR at q0; dsimp only at q0
   cases h1_ : (l0 == i1)
   . cases h2_ : (h0 == i1)
     . have h1_n := congrArg Bool.not h1_; simp only [Bool.not_true, Bool.not_false] at h1_n
       have h2_n := congrArg Bool.not h2_; simp only [Bool.not_true, Bool.not_false] at h2_n
       have e := wt_4 (s := (⟨s0, l0, h0⟩ : Sp)) (n := i1) h1_ h2_
       repeat' (first | exact trivial | (with_reducible first | exact hp0 | exact hp1 | exact (w64_r _).1 | exact (w64_r _).2 | exact w64_r _ | exact q0.1 | exact q0.2 | exact q0.1.1 | exact q0.1.2 | exact q0.2.1 | exact q0.2.2 | exact (fun h : false = true => absurd h (by decide)) | exact (fun h : true = false => absurd h (by decide)) | exact (fun h : (!false) = false => absurd h (by decide)) | exact (fun h : (!true) = true => absurd h (by decide)) | exact (fun h => absurd (h1_.symm.trans h) (by decide)) | exact (fun h => absurd (h2_.symm.trans h) (by decide)) | exact (fun h => absurd (h1_n.symm.trans h) (by decide)) | exact (fun h => absurd (h2_n.symm.trans h) (by decide))) | refine ⟨?_, ?_⟩ | intro _)
       all_goals first | (with_reducible first | apply qa | apply qb | apply qc | apply qd) | (conv => whnf)
       all_goals first | (with_reducible rfl) | decide | (rw [e]; done) | (rw [e]; rfl) | rfl
     . have h1_n := congrArg Bool.not h1_; simp only [Bool.not_true, Bool.not_false] at h1_n
       have h2_n := congrArg Bool.not h2_; simp only [Bool.not_true, Bool.not_false] at h2_n
       have e := wt_3 (s := (⟨s0, l0, h0⟩ : Sp)) (n := i1) h1_ h2_
       repeat' (first | exact trivial | (with_reducible first | exact hp0 | exact hp1 | exact (w64_r _).1 | exact (w64_r _).2 | exact w64_r _ | exact q0.1 | exact q0.2 | exact q0.1.1 | exact q0.1.2 | exact q0.2.1 | exact q0.2.2 | exact (fun h : false = true => absurd h (by decide)) | exact (fun h : true = false => absurd h (by decide)) | exact (fun h : (!false) = false => absurd h (by decide)) | exact (fun h : (!true) = true => absurd h (by decide)) | exact (fun h => absurd (h1_.symm.trans h) (by decide)) | exact (fun h => absurd (h2_.symm.trans h) (by decide)) | exact (fun h => absurd (h1_n.symm.trans h) (by decide)) | exact (fun h => absurd (h2_n.symm.trans h) (by decide))) | refine ⟨?_, ?_⟩ | intro _)
       all_goals first | (with_reducible first | apply qa | apply qb | apply qc | apply qd) | (conv => whnf)
       all_goals first | (with_reducible rfl) | decide | (rw [e]; done) | (rw [e]; rfl) | rfl
   . cases h2_ : (h0 == i1)
     . have h1_n := congrArg Bool.not h1_; simp only [Bool.not_true, Bool.not_false] at h1_n
       have h2_n := congrArg Bool.not h2_; simp only [Bool.not_true, Bool.not_false] at h2_n
       have e := wt_2 (s := (⟨s0, l0, h0⟩ : Sp)) (n := i1) h1_ h2_
       repeat' (first | exact trivial | (with_reducible first | exact hp0 | exact hp1 | exact (w64_r _).1 | exact (w64_r _).2 | exact w64_r _ | exact q0.1 | exact q0.2 | exact q0.1.1 | exact q0.1.2 | exact q0.2.1 | exact q0.2.2 | exact (fun h : false = true => absurd h (by decide)) | exact (fun h : true = false => absurd h (by decide)) | exact (fun h : (!false) = false => absurd h (by decide)) | exact (fun h : (!true) = true => absurd h (by decide)) | exact (fun h => absurd (h1_.symm.trans h) (by decide)) | exact (fun h => absurd (h2_.symm.trans h) (by decide)) | exact (fun h => absurd (h1_n.symm.trans h) (by decide)) | exact (fun h => absurd (h2_n.symm.trans h) (by decide))) | refine ⟨?_, ?_⟩ | intro _)
       all_goals first | (with_reducible first | apply qa | apply qb | apply qc | apply qd) | (conv => whnf)
       all_goals first | (with_reducible rfl) | decide | (rw [e]; done) | (rw [e]; rfl) | rfl
     . have h1_n := congrArg Bool.not h1_; simp only [Bool.not_true, Bool.not_false] at h1_n
       have h2_n := congrArg Bool.not h2_; simp only [Bool.not_true, Bool.not_false] at h2_n
       have e := wt_1 (s := (⟨s0, l0, h0⟩ : Sp)) (n := i1) h1_ h2_
       repeat' (first | exact trivial | (with_reducible first | exact hp0 | exact hp1 | exact (w64_r _).1 | exact (w64_r _).2 | exact w64_r _ | exact q0.1 | exact q0.2 | exact q0.1.1 | exact q0.1.2 | exact q0.2.1 | exact q0.2.2 | exact (fun h : false = true => absurd h (by decide)) | exact (fun h : true = false => absurd h (by decide)) | exact (fun h : (!false) = false => absurd h (by decide)) | exact (fun h : (!true) = true => absurd h (by decide)) | exact (fun h => absurd (h1_.symm.trans h) (by decide)) | exact (fun h => absurd (h2_.symm.trans h) (by decide)) | exact (fun h => absurd (h1_n.symm.trans h) (by decide)) | exact (fun h => absurd (h2_n.symm.trans h) (by decide))) | refine ⟨?_, ?_⟩ | intro _)
       all_goals first | (with_reducible first | apply qa | apply qb | apply qc | apply qd) | (conv => whnf)
       all_goals first | (with_reducible rfl) | decide | (rw [e]; done) | (rw [e]; rfl) | rfl
 . cases h
def FCUnlike : List Ar -> Option Rs
 | [.agg [.d (.v (.bool s0)), .d (.v (.int .i64 l0)), .d (.v (.int .i64 h0)), .d (.v (.bool b0)), .d (.v (.int .i64 m0)), .d (.v (.int .i64 r0)), .d (.v (.bool z0)), .d (.lst 1 n0 f0)], .agg [.d (.v (.bool s1)), .d (.v (.int .i64 l1)), .d (.v (.int .i64 h1)), .d (.v (.bool b1)), .d (.v (.int .i64 m1)), .d (.v (.int .i64 r1)), .d (.v (.bool z1)), .d (.lst 1 n1 f1)]] => some ⟨((n0 * 16 <= 140737488351232 /\ ∀ i, i < n0 -> f0 i = [st (gT (f0 i))]) /\ Sp.inR ⟨s0, l0, h0⟩ /\ Cg.inR ⟨b0, m0, r0⟩) /\ ((n1 * 16 <= 140737488351232 /\ ∀ i, i < n1 -> f1 i = [st (gT (f1 i))]) /\ Sp.inR ⟨s1, l1, h1⟩ /\ Cg.inR ⟨b1, m1, r1⟩), .va (Vl.ar (unV (⟨⟨⟨s0, l0, h0⟩, ⟨b0, m0, r0⟩⟩, ⟨z0, gN n0 f0⟩⟩ : Vl) (⟨⟨⟨s1, l1, h1⟩, ⟨b1, m1, r1⟩⟩, ⟨z1, gN n1 f1⟩⟩ : Vl))), []⟩
 | _ => none
theorem fcCUnlike : FC Tryz.prog 110 FCUnlike := by
 intro xs pre r us h hp
 unfold FCUnlike at h
 split at h
 . rename_i s0 l0 h0 b0 m0 r0 z0 n0 f0 s1 l1 h1 b1 m1 r1 z1 n1 f1
   cases h
   obtain ⟨hp0, hp1⟩ := hp
   refine FCat.of_eq (as' := [.agg [.d (.v (.bool s0)), .d (.v (.int .i64 l0)), .d (.v (.int .i64 h0)), .d (.v (.bool b0)), .d (.v (.int .i64 m0)), .d (.v (.int .i64 r0)), .d (.v (.bool z0)), .d (.lst 1 n0 fun i => [st (gT (f0 i))])], .agg [.d (.v (.bool s1)), .d (.v (.int .i64 l1)), .d (.v (.int .i64 h1)), .d (.v (.bool b1)), .d (.v (.int .i64 m1)), .d (.v (.int .i64 r1)), .d (.v (.bool z1)), .d (.lst 1 n1 fun i => [st (gT (f1 i))])]]) ?_ rfl rfl ?_
   . repeat' (first | exact trivial | exact rfl | refine ⟨?_, ?_⟩ | fail)
     all_goals first | exact hp0.2 | exact hp1.2 | exact hp2.2 | (intro i hi; exact (hp0.2 i hi).1) | (intro i hi; exact (hp1.2 i hi).1) | (intro i hi; exact (hp2.2 i hi).1) | grind
   refine fcat tys_ok (l := [(79, ⟨[], FCBothV⟩), (154, ⟨[], FCWithout⟩)]) ⟨fcCBothV, fcCWithout, trivial⟩ Tryz.func110 rfl (by kernel_rfl) true ?_
   obtain ⟨hl1, hh1⟩ := id hp1.2.1
   dsimp only at hl1 hh1
   have y1 := wtS_inR (n := l1) hp0.2.1
   have c0 : (gN n0 fun i => [st (gT (f0 i))]) = gN n0 f0 := rfl
   rw [<- c0]
   have c1 : (gN n1 fun i => [st (gT (f1 i))]) = gN n1 f1 := rfl
   rw [<- c1]
   cases w1 : (l1 != h1)
   . have w1n := congrArg Bool.not w1; simp only [Bool.not_true, Bool.not_false] at w1n
     have e := un_2 (a := (⟨⟨⟨s0, l0, h0⟩, ⟨b0, m0, r0⟩⟩, ⟨z0, (gN n0 fun i => [st (gT (f0 i))])⟩⟩ : Vl)) (b := (⟨⟨⟨s1, l1, h1⟩, ⟨b1, m1, r1⟩⟩, ⟨z1, (gN n1 fun i => [st (gT (f1 i))])⟩⟩ : Vl)) w1
     repeat' (first | exact trivial | (with_reducible first | exact hp0 | exact hp0.1 | exact hp0.2 | exact hp0.2.1 | exact hp0.2.2 | exact hp0.1.1 | exact hp1 | exact hp1.1 | exact hp1.2 | exact hp1.2.1 | exact hp1.2.2 | exact hp1.1.1 | exact y1 | exact hl1 | exact hh1 | exact (fun h : false = true => absurd h (by decide)) | exact (fun h : true = false => absurd h (by decide)) | exact (fun h : (!false) = false => absurd h (by decide)) | exact (fun h : (!true) = true => absurd h (by decide)) | exact (fun h => absurd (w1.symm.trans h) (by decide)) | exact (fun h => absurd (w1n.symm.trans h) (by decide))) | refine ⟨?_, ?_⟩ | intro _)
     all_goals first | (with_reducible first | apply qa | apply qb | apply qc | apply qd) | (conv => whnf)
     all_goals first | (with_reducible rfl) | decide | (intro _ _; exact rfl) | exact rfl | (rw [e]; done) | (rw [e]; rfl) | rfl
   . have w1n := congrArg Bool.not w1; simp only [Bool.not_true, Bool.not_false] at w1n
     have e := un_1 (a := (⟨⟨⟨s0, l0, h0⟩, ⟨b0, m0, r0⟩⟩, ⟨z0, (gN n0 fun i => [st (gT (f0 i))])⟩⟩ : Vl)) (b := (⟨⟨⟨s1, l1, h1⟩, ⟨b1, m1, r1⟩⟩, ⟨z1, (gN n1 fun i => [st (gT (f1 i))])⟩⟩ : Vl)) w1
     repeat' (first | exact trivial | (with_reducible first | exact hp0 | exact hp0.1 | exact hp0.2 | exact hp0.2.1 | exact hp0.2.2 | exact hp0.1.1 | exact hp1 | exact hp1.1 | exact hp1.2 | exact hp1.2.1 | exact hp1.2.2 | exact hp1.1.1 | exact y1 | exact hl1 | exact hh1 | exact (fun h : false = true => absurd h (by decide)) | exact (fun h : true = false => absurd h (by decide)) | exact (fun h : (!false) = false => absurd h (by decide)) | exact (fun h : (!true) = true => absurd h (by decide)) | exact (fun h => absurd (w1.symm.trans h) (by decide)) | exact (fun h => absurd (w1n.symm.trans h) (by decide))) | refine ⟨?_, ?_⟩ | intro _)
     all_goals first | (with_reducible first | apply qa | apply qb | apply qc | apply qd) | (conv => whnf)
     all_goals first | (with_reducible rfl) | decide | (intro _ _; exact rfl) | exact rfl | (rw [e]; done) | (rw [e]; rfl) | rfl
 . cases h
def FCCompared : List Ar -> Option Rs
 | [.c (.d (.v (.int .i64 i0))), .agg [.d (.v (.bool s1)), .d (.v (.int .i64 l1)), .d (.v (.int .i64 h1)), .d (.v (.bool b1)), .d (.v (.int .i64 m1)), .d (.v (.int .i64 r1)), .d (.v (.bool z1)), .d (.lst 1 n1 f1)], .agg [.d (.v (.bool s2)), .d (.v (.int .i64 l2)), .d (.v (.int .i64 h2)), .d (.v (.bool b2)), .d (.v (.int .i64 m2)), .d (.v (.int .i64 r2)), .d (.v (.bool z2)), .d (.lst 1 n2 f2)]] => some ⟨(-9223372036854775808 <= i0 /\ i0 < 9223372036854775808) /\ ((n1 * 16 <= 140737488351232 /\ ∀ i, i < n1 -> f1 i = [st (gT (f1 i))]) /\ Sp.inR ⟨s1, l1, h1⟩ /\ Cg.inR ⟨b1, m1, r1⟩) /\ ((n2 * 16 <= 140737488351232 /\ ∀ i, i < n2 -> f2 i = [st (gT (f2 i))]) /\ Sp.inR ⟨s2, l2, h2⟩ /\ Cg.inR ⟨b2, m2, r2⟩), .tup [Vl.ar (cmA i0 (⟨⟨⟨s1, l1, h1⟩, ⟨b1, m1, r1⟩⟩, ⟨z1, gN n1 f1⟩⟩ : Vl) (⟨⟨⟨s2, l2, h2⟩, ⟨b2, m2, r2⟩⟩, ⟨z2, gN n2 f2⟩⟩ : Vl)), Vl.ar (cmB i0 (⟨⟨⟨s1, l1, h1⟩, ⟨b1, m1, r1⟩⟩, ⟨z1, gN n1 f1⟩⟩ : Vl) (⟨⟨⟨s2, l2, h2⟩, ⟨b2, m2, r2⟩⟩, ⟨z2, gN n2 f2⟩⟩ : Vl))], []⟩
 | _ => none
theorem fcCCompared : FC Tryz.prog 72 FCCompared := by
 intro xs pre r us h hp
 unfold FCCompared at h
 split at h
 . rename_i i0 s1 l1 h1 b1 m1 r1 z1 n1 f1 s2 l2 h2 b2 m2 r2 z2 n2 f2
   cases h
   obtain ⟨hp0, hp1, hp2⟩ := hp
   refine FCat.of_eq (as' := [.c (.d (.v (.int .i64 i0))), .agg [.d (.v (.bool s1)), .d (.v (.int .i64 l1)), .d (.v (.int .i64 h1)), .d (.v (.bool b1)), .d (.v (.int .i64 m1)), .d (.v (.int .i64 r1)), .d (.v (.bool z1)), .d (.lst 1 n1 fun i => [st (gT (f1 i))])], .agg [.d (.v (.bool s2)), .d (.v (.int .i64 l2)), .d (.v (.int .i64 h2)), .d (.v (.bool b2)), .d (.v (.int .i64 m2)), .d (.v (.int .i64 r2)), .d (.v (.bool z2)), .d (.lst 1 n2 fun i => [st (gT (f2 i))])]]) ?_ rfl rfl ?_
   . repeat' (first | exact trivial | exact rfl | refine ⟨?_, ?_⟩ | fail)
     all_goals first | exact hp0.2 | exact hp1.2 | exact hp2.2 | (intro i hi; exact (hp0.2 i hi).1) | (intro i hi; exact (hp1.2 i hi).1) | (intro i hi; exact (hp2.2 i hi).1) | grind
   refine fcat tys_ok (l := [(77, ⟨[], FCInts⟩), (109, ⟨[], FCLess⟩), (110, ⟨[], FCUnlike⟩), (8, ⟨[], FN 1 FVMeet⟩)]) ⟨fcCInts, fcCLess, fcCUnlike, fc_nil 1 fcVMeet, trivial⟩ Tryz.func72 rfl (by kernel_rfl) true ?_
   have hm := cmeetI_inR (a := (⟨⟨⟨s1, l1, h1⟩, ⟨b1, m1, r1⟩⟩, ⟨z1, (gN n1 fun i => [st (gT (f1 i))])⟩⟩ : Vl)) (b := (⟨⟨⟨s2, l2, h2⟩, ⟨b2, m2, r2⟩⟩, ⟨z2, (gN n2 fun i => [st (gT (f2 i))])⟩⟩ : Vl)) hp1.2 hp2.2
   have c1 : (gN n1 fun i => [st (gT (f1 i))]) = gN n1 f1 := rfl
   rw [<- c1]
   have c2 : (gN n2 fun i => [st (gT (f2 i))]) = gN n2 f2 := rfl
   rw [<- c2]
   all_goals first | (by_cases e12 : i0 = 12) | skip
   all_goals first | (have _ := (show ¬ _ from e12); by_cases e13 : i0 = 13) | skip
   all_goals first | (have _ := (show ¬ _ from e13); by_cases e15 : i0 = 15) | skip
   all_goals first | (cases iA : intsB (⟨⟨⟨s1, l1, h1⟩, ⟨b1, m1, r1⟩⟩, ⟨z1, (gN n1 fun i => [st (gT (f1 i))])⟩⟩ : Vl)) | skip
   all_goals first | (have _ := (show _ = true from iA); cases iB : intsB (⟨⟨⟨s2, l2, h2⟩, ⟨b2, m2, r2⟩⟩, ⟨z2, (gN n2 fun i => [st (gT (f2 i))])⟩⟩ : Vl)) | skip
   all_goals first | (have k12 := e12; have _ := (show _ = _ from k12)) | (have k13 := e13; have _ := (show _ = _ from k13)) | (have k15 := e15; have _ := (show _ = _ from k15)) | skip
   all_goals first | subst e12 | subst e13 | subst e15 | skip
   all_goals first | (have _ := k12; have e := cm_1 (op := 12) (a := (⟨⟨⟨s1, l1, h1⟩, ⟨b1, m1, r1⟩⟩, ⟨z1, (gN n1 fun i => [st (gT (f1 i))])⟩⟩ : Vl)) (b := (⟨⟨⟨s2, l2, h2⟩, ⟨b2, m2, r2⟩⟩, ⟨z2, (gN n2 fun i => [st (gT (f2 i))])⟩⟩ : Vl)) iA) | (have _ := k12; have e := cm_2 (op := 12) (a := (⟨⟨⟨s1, l1, h1⟩, ⟨b1, m1, r1⟩⟩, ⟨z1, (gN n1 fun i => [st (gT (f1 i))])⟩⟩ : Vl)) (b := (⟨⟨⟨s2, l2, h2⟩, ⟨b2, m2, r2⟩⟩, ⟨z2, (gN n2 fun i => [st (gT (f2 i))])⟩⟩ : Vl)) iB) | (have _ := k13; have e := cm_1 (op := 13) (a := (⟨⟨⟨s1, l1, h1⟩, ⟨b1, m1, r1⟩⟩, ⟨z1, (gN n1 fun i => [st (gT (f1 i))])⟩⟩ : Vl)) (b := (⟨⟨⟨s2, l2, h2⟩, ⟨b2, m2, r2⟩⟩, ⟨z2, (gN n2 fun i => [st (gT (f2 i))])⟩⟩ : Vl)) iA) | (have _ := k13; have e := cm_2 (op := 13) (a := (⟨⟨⟨s1, l1, h1⟩, ⟨b1, m1, r1⟩⟩, ⟨z1, (gN n1 fun i => [st (gT (f1 i))])⟩⟩ : Vl)) (b := (⟨⟨⟨s2, l2, h2⟩, ⟨b2, m2, r2⟩⟩, ⟨z2, (gN n2 fun i => [st (gT (f2 i))])⟩⟩ : Vl)) iB) | (have _ := k15; have e := cm_1 (op := 15) (a := (⟨⟨⟨s1, l1, h1⟩, ⟨b1, m1, r1⟩⟩, ⟨z1, (gN n1 fun i => [st (gT (f1 i))])⟩⟩ : Vl)) (b := (⟨⟨⟨s2, l2, h2⟩, ⟨b2, m2, r2⟩⟩, ⟨z2, (gN n2 fun i => [st (gT (f2 i))])⟩⟩ : Vl)) iA) | (have _ := k15; have e := cm_2 (op := 15) (a := (⟨⟨⟨s1, l1, h1⟩, ⟨b1, m1, r1⟩⟩, ⟨z1, (gN n1 fun i => [st (gT (f1 i))])⟩⟩ : Vl)) (b := (⟨⟨⟨s2, l2, h2⟩, ⟨b2, m2, r2⟩⟩, ⟨z2, (gN n2 fun i => [st (gT (f2 i))])⟩⟩ : Vl)) iB) | (have e := cm_1 (op := i0) (a := (⟨⟨⟨s1, l1, h1⟩, ⟨b1, m1, r1⟩⟩, ⟨z1, (gN n1 fun i => [st (gT (f1 i))])⟩⟩ : Vl)) (b := (⟨⟨⟨s2, l2, h2⟩, ⟨b2, m2, r2⟩⟩, ⟨z2, (gN n2 fun i => [st (gT (f2 i))])⟩⟩ : Vl)) iA) | (have e := cm_2 (op := i0) (a := (⟨⟨⟨s1, l1, h1⟩, ⟨b1, m1, r1⟩⟩, ⟨z1, (gN n1 fun i => [st (gT (f1 i))])⟩⟩ : Vl)) (b := (⟨⟨⟨s2, l2, h2⟩, ⟨b2, m2, r2⟩⟩, ⟨z2, (gN n2 fun i => [st (gT (f2 i))])⟩⟩ : Vl)) iB) | (have _ := k12; have e := cm_12 (a := (⟨⟨⟨s1, l1, h1⟩, ⟨b1, m1, r1⟩⟩, ⟨z1, (gN n1 fun i => [st (gT (f1 i))])⟩⟩ : Vl)) (b := (⟨⟨⟨s2, l2, h2⟩, ⟨b2, m2, r2⟩⟩, ⟨z2, (gN n2 fun i => [st (gT (f2 i))])⟩⟩ : Vl)) iA iB) | (have _ := k13; have e := cm_13 (a := (⟨⟨⟨s1, l1, h1⟩, ⟨b1, m1, r1⟩⟩, ⟨z1, (gN n1 fun i => [st (gT (f1 i))])⟩⟩ : Vl)) (b := (⟨⟨⟨s2, l2, h2⟩, ⟨b2, m2, r2⟩⟩, ⟨z2, (gN n2 fun i => [st (gT (f2 i))])⟩⟩ : Vl)) iA iB) | (have _ := k15; have e := cm_15 (a := (⟨⟨⟨s1, l1, h1⟩, ⟨b1, m1, r1⟩⟩, ⟨z1, (gN n1 fun i => [st (gT (f1 i))])⟩⟩ : Vl)) (b := (⟨⟨⟨s2, l2, h2⟩, ⟨b2, m2, r2⟩⟩, ⟨z2, (gN n2 fun i => [st (gT (f2 i))])⟩⟩ : Vl)) iA iB) | (have e := cm_x (op := i0) (a := (⟨⟨⟨s1, l1, h1⟩, ⟨b1, m1, r1⟩⟩, ⟨z1, (gN n1 fun i => [st (gT (f1 i))])⟩⟩ : Vl)) (b := (⟨⟨⟨s2, l2, h2⟩, ⟨b2, m2, r2⟩⟩, ⟨z2, (gN n2 fun i => [st (gT (f2 i))])⟩⟩ : Vl)) iA iB e12 e13 e15) | skip
   all_goals repeat' (first | exact trivial | (with_reducible first | exact hp1 | exact hp1.1 | exact hp1.2 | exact hp1.2.1 | exact hp1.2.2 | exact hp1.1.1 | exact hp2 | exact hp2.1 | exact hp2.2 | exact hp2.2.1 | exact hp2.2.2 | exact hp2.1.1 | exact (fun h : (!false) = false => absurd h (by decide)) | exact (fun h : (!true) = true => absurd h (by decide)) | exact hp0 | exact hm | exact by decide | exact And.intro (by decide) (by decide) | exact Nat.zero_le _ | exact And.intro hp1.2.1 hp1.2.2 | exact And.intro hp2.2.1 hp2.2.2 | exact (fun h => absurd ((beq_eq_false_iff_ne.2 e12).symm.trans h) (by decide)) | exact (fun h => absurd ((beq_eq_false_iff_ne.2 e13).symm.trans h) (by decide)) | exact (fun h => absurd ((beq_eq_false_iff_ne.2 e15).symm.trans h) (by decide)) | exact (fun h => absurd (iA.symm.trans h) (by decide)) | exact (fun h => absurd (iB.symm.trans h) (by decide)) | exact (fun h => absurd ((congrArg Bool.not iA).symm.trans h) (by decide)) | exact (fun h => absurd ((congrArg Bool.not iB).symm.trans h) (by decide)) | exact (fun h => absurd h (by decide))) | refine ⟨?_, ?_⟩ | intro _)
   all_goals first | (with_reducible first | apply qa | apply qb | apply qc | apply qd) | (conv => whnf)
   all_goals first | ((with_reducible show ASat _ _ _ _ _); refine draw_plan tys_ok (l := [(77, ⟨[], FCInts⟩), (109, ⟨[], FCLess⟩), (110, ⟨[], FCUnlike⟩), (8, ⟨[], FN 1 FVMeet⟩)]) ⟨fcCInts, fcCLess, fcCUnlike, fc_nil 1 fcVMeet, trivial⟩ (by kernel_rfl) (.all [(0, .all [(1, .all [(2, .all [(3, .done)])]), (2, .all [(1, .all [(3, .done)])])]), (1, .all [(0, .all [(2, .all [(3, .done)])])])]) (by kernel_rfl) ?_) | skip
   all_goals repeat' (first | exact trivial | (with_reducible first | exact hp1 | exact hp1.1 | exact hp1.2 | exact hp1.2.1 | exact hp1.2.2 | exact hp1.1.1 | exact hp2 | exact hp2.1 | exact hp2.2 | exact hp2.2.1 | exact hp2.2.2 | exact hp2.1.1 | exact (fun h : (!false) = false => absurd h (by decide)) | exact (fun h : (!true) = true => absurd h (by decide)) | exact hp0 | exact hm | exact by decide | exact And.intro (by decide) (by decide) | exact Nat.zero_le _ | exact And.intro hp1.2.1 hp1.2.2 | exact And.intro hp2.2.1 hp2.2.2 | exact (fun h => absurd ((beq_eq_false_iff_ne.2 e12).symm.trans h) (by decide)) | exact (fun h => absurd ((beq_eq_false_iff_ne.2 e13).symm.trans h) (by decide)) | exact (fun h => absurd ((beq_eq_false_iff_ne.2 e15).symm.trans h) (by decide)) | exact (fun h => absurd (iA.symm.trans h) (by decide)) | exact (fun h => absurd (iB.symm.trans h) (by decide)) | exact (fun h => absurd ((congrArg Bool.not iA).symm.trans h) (by decide)) | exact (fun h => absurd ((congrArg Bool.not iB).symm.trans h) (by decide)) | exact (fun h => absurd h (by decide))) | refine ⟨?_, ?_⟩ | intro _)
   all_goals first | (with_reducible first | apply qa | apply qb | apply qc | apply qd) | (conv => whnf)
   all_goals first | (with_reducible rfl) | decide | exact Nat.zero_le _ | (intro _ h; exact absurd h (Nat.not_lt_zero _)) | (exact absurd ‹_ < 0› (Nat.not_lt_zero _)) | (intro _ _; exact rfl) | exact rfl | (rw [e.1]; done) | (rw [e.1]; rfl) | (rw [e.2]; done) | (rw [e.2]; rfl)
 . cases h
def FCRefineL : List Ar -> Option Rs
 | [.c (.d (.v (.int .i64 i0))), .agg [.d (.v (.bool s1)), .d (.v (.int .i64 l1)), .d (.v (.int .i64 h1)), .d (.v (.bool b1)), .d (.v (.int .i64 m1)), .d (.v (.int .i64 r1)), .d (.v (.bool z1)), .d (.lst 1 n1 f1)], .agg [.d (.v (.bool s2)), .d (.v (.int .i64 l2)), .d (.v (.int .i64 h2)), .d (.v (.bool b2)), .d (.v (.int .i64 m2)), .d (.v (.int .i64 r2)), .d (.v (.bool z2)), .d (.lst 1 n2 f2)], .c (.d (.lst 1 n3 f3))] => some ⟨(-9223372036854775808 <= i0 /\ i0 < 9223372036854775808) /\ ((n1 * 16 <= 140737488351232 /\ ∀ i, i < n1 -> f1 i = [st (gT (f1 i))]) /\ Sp.inR ⟨s1, l1, h1⟩ /\ Cg.inR ⟨b1, m1, r1⟩) /\ ((n2 * 16 <= 140737488351232 /\ ∀ i, i < n2 -> f2 i = [st (gT (f2 i))]) /\ Sp.inR ⟨s2, l2, h2⟩ /\ Cg.inR ⟨b2, m2, r2⟩) /\ (n3 * 16 <= 140737488351232 /\ ∀ i, i < n3 -> f3 i = [st (gT (f3 i))]) /\ (i0 = 12 \/ i0 = 13), .tup [Vl.ar (cmA i0 (Vl.of (⟨⟨⟨s1, l1, h1⟩, ⟨b1, m1, r1⟩⟩, ⟨z1, gN n1 f1⟩⟩ : Vl)) (Vl.of (⟨⟨⟨s2, l2, h2⟩, ⟨b2, m2, r2⟩⟩, ⟨z2, gN n2 f2⟩⟩ : Vl))), Vl.ar (cmB i0 (Vl.of (⟨⟨⟨s1, l1, h1⟩, ⟨b1, m1, r1⟩⟩, ⟨z1, gN n1 f1⟩⟩ : Vl)) (Vl.of (⟨⟨⟨s2, l2, h2⟩, ⟨b2, m2, r2⟩⟩, ⟨z2, gN n2 f2⟩⟩ : Vl)))], []⟩
 | _ => none
abbrev pl3E : Plan := .all [(0, .all [(1, .all [(2, .all [(3, .done)])]), (2, .all [(1, .all [(3, .done)])])]), (1, .all [(0, .all [(2, .all [(3, .done)])])])]
abbrev sl4E : List (Nat × Sm) := [(60, ⟨[], FVCleanV⟩), (72, ⟨[], FCCompared⟩), (73, ⟨[], FNNone⟩)]
theorem sp4E : sumsOk Tryz.prog sl4E := ⟨fcVCleanV, fcCCompared, fcNNone, trivial⟩
theorem fcCRefineL : FC Tryz.prog 27 FCRefineL := by
 intro xs pre r us h hp
 unfold FCRefineL at h
 split at h
 . rename_i i0 s1 l1 h1 b1 m1 r1 z1 n1 f1 s2 l2 h2 b2 m2 r2 z2 n2 f2 n3 f3
   cases h
   obtain ⟨hp0, hp1, hp2, hp3, hp4⟩ := hp
   refine FCat.of_eq (as' := [.c (.d (.v (.int .i64 i0))), .agg [.d (.v (.bool s1)), .d (.v (.int .i64 l1)), .d (.v (.int .i64 h1)), .d (.v (.bool b1)), .d (.v (.int .i64 m1)), .d (.v (.int .i64 r1)), .d (.v (.bool z1)), .d (.lst 1 n1 fun i => [st (gT (f1 i))])], .agg [.d (.v (.bool s2)), .d (.v (.int .i64 l2)), .d (.v (.int .i64 h2)), .d (.v (.bool b2)), .d (.v (.int .i64 m2)), .d (.v (.int .i64 r2)), .d (.v (.bool z2)), .d (.lst 1 n2 fun i => [st (gT (f2 i))])], .c (.d (.lst 1 n3 fun i => [st (gT (f3 i))]))]) ?_ rfl rfl ?_
   . repeat' (first | exact trivial | exact rfl | refine ⟨?_, ?_⟩ | fail)
     all_goals first | exact hp0.2 | exact hp1.2 | exact hp2.2 | (intro i hi; exact (hp0.2 i hi).1) | (intro i hi; exact (hp1.2 i hi).1) | (intro i hi; exact (hp2.2 i hi).1) | grind
   refine fcat tys_ok (l := sl4E) sp4E Tryz.func27 rfl (by kernel_rfl) true ?_
   have o1 := okV_of (v := (⟨⟨⟨s1, l1, h1⟩, ⟨b1, m1, r1⟩⟩, ⟨z1, (gN n1 fun i => [st (gT (f1 i))])⟩⟩ : Vl)) ⟨⟨(by rw [gN_length]; exact hp1.1.1), fun _ _ => rfl⟩, hp1.2⟩
   have o2 := okV_of (v := (⟨⟨⟨s2, l2, h2⟩, ⟨b2, m2, r2⟩⟩, ⟨z2, (gN n2 fun i => [st (gT (f2 i))])⟩⟩ : Vl)) ⟨⟨(by rw [gN_length]; exact hp2.1.1), fun _ _ => rfl⟩, hp2.2⟩
   have c1 : (gN n1 fun i => [st (gT (f1 i))]) = gN n1 f1 := rfl
   rw [<- c1]
   have c2 : (gN n2 fun i => [st (gT (f2 i))]) = gN n2 f2 := rfl
   rw [<- c2]
   unfold okV at o1 o2
   rcases hp4 with rfl | rfl
   . have q_lt : decide ((12 : Int) < 12) = false := by decide
     have q_gt : decide ((12 : Int) > 15) = false := by decide
     have q_14 : ((12 : Int) == 14) = false := by decide
     have q_15 : ((12 : Int) == 15) = false := by decide
     repeat' (first | exact trivial | (with_reducible first | exact hp0 | exact hp3 | exact hp3.1 | exact o1 | exact o2 | exact o1.2 | exact o2.2 | exact o1.2.1 | exact o1.2.2 | exact o2.2.1 | exact o2.2.2 | exact o1.1.1 | exact o2.1.1 | exact hp1 | exact hp1.1 | exact hp1.2 | exact hp1.2.1 | exact hp1.2.2 | exact hp1.1.1 | exact hp2 | exact hp2.1 | exact hp2.2 | exact hp2.2.1 | exact hp2.2.2 | exact hp2.1.1 | exact (fun h : false = true => absurd h (by decide)) | exact (fun h : true = false => absurd h (by decide)) | exact (fun h : (!false) = false => absurd h (by decide)) | exact (fun h : (!true) = true => absurd h (by decide)) | exact (fun h => absurd (q_lt.symm.trans h) (by decide)) | exact (fun h => absurd (q_gt.symm.trans h) (by decide)) | exact (fun h => absurd (q_14.symm.trans h) (by decide)) | exact (fun h => absurd (q_15.symm.trans h) (by decide))) | refine ⟨?_, ?_⟩ | intro _)
     all_goals first | (with_reducible first | apply qa | apply qb | apply qc | apply qd) | (conv => whnf)
     all_goals first | ((with_reducible show ASat _ _ _ _ _); refine draw_plan tys_ok (l := sl4E) sp4E (by kernel_rfl) pl3E (by kernel_rfl) ?_) | skip
     all_goals repeat' (first | exact trivial | (with_reducible first | exact hp0 | exact hp3 | exact hp3.1 | exact o1 | exact o2 | exact o1.2 | exact o2.2 | exact o1.2.1 | exact o1.2.2 | exact o2.2.1 | exact o2.2.2 | exact o1.1.1 | exact o2.1.1 | exact hp1 | exact hp1.1 | exact hp1.2 | exact hp1.2.1 | exact hp1.2.2 | exact hp1.1.1 | exact hp2 | exact hp2.1 | exact hp2.2 | exact hp2.2.1 | exact hp2.2.2 | exact hp2.1.1 | exact (fun h : false = true => absurd h (by decide)) | exact (fun h : true = false => absurd h (by decide)) | exact (fun h : (!false) = false => absurd h (by decide)) | exact (fun h : (!true) = true => absurd h (by decide)) | exact (fun h => absurd (q_lt.symm.trans h) (by decide)) | exact (fun h => absurd (q_gt.symm.trans h) (by decide)) | exact (fun h => absurd (q_14.symm.trans h) (by decide)) | exact (fun h => absurd (q_15.symm.trans h) (by decide))) | refine ⟨?_, ?_⟩ | intro _)
     all_goals first | (with_reducible first | apply qa | apply qb | apply qc | apply qd) | (conv => whnf)
     all_goals (try simp only [gN_lst] at *)
     all_goals first | (with_reducible rfl) | decide | exact o1.1.1 | exact o2.1.1 | (intro _ _; exact rfl) | exact rfl | rfl
   . have q_lt : decide ((13 : Int) < 12) = false := by decide
     have q_gt : decide ((13 : Int) > 15) = false := by decide
     have q_14 : ((13 : Int) == 14) = false := by decide
     have q_15 : ((13 : Int) == 15) = false := by decide
     repeat' (first | exact trivial | (with_reducible first | exact hp0 | exact hp3 | exact hp3.1 | exact o1 | exact o2 | exact o1.2 | exact o2.2 | exact o1.2.1 | exact o1.2.2 | exact o2.2.1 | exact o2.2.2 | exact o1.1.1 | exact o2.1.1 | exact hp1 | exact hp1.1 | exact hp1.2 | exact hp1.2.1 | exact hp1.2.2 | exact hp1.1.1 | exact hp2 | exact hp2.1 | exact hp2.2 | exact hp2.2.1 | exact hp2.2.2 | exact hp2.1.1 | exact (fun h : false = true => absurd h (by decide)) | exact (fun h : true = false => absurd h (by decide)) | exact (fun h : (!false) = false => absurd h (by decide)) | exact (fun h : (!true) = true => absurd h (by decide)) | exact (fun h => absurd (q_lt.symm.trans h) (by decide)) | exact (fun h => absurd (q_gt.symm.trans h) (by decide)) | exact (fun h => absurd (q_14.symm.trans h) (by decide)) | exact (fun h => absurd (q_15.symm.trans h) (by decide))) | refine ⟨?_, ?_⟩ | intro _)
     all_goals first | (with_reducible first | apply qa | apply qb | apply qc | apply qd) | (conv => whnf)
     all_goals first | ((with_reducible show ASat _ _ _ _ _); refine draw_plan tys_ok (l := sl4E) sp4E (by kernel_rfl) pl3E (by kernel_rfl) ?_) | skip
     all_goals repeat' (first | exact trivial | (with_reducible first | exact hp0 | exact hp3 | exact hp3.1 | exact o1 | exact o2 | exact o1.2 | exact o2.2 | exact o1.2.1 | exact o1.2.2 | exact o2.2.1 | exact o2.2.2 | exact o1.1.1 | exact o2.1.1 | exact hp1 | exact hp1.1 | exact hp1.2 | exact hp1.2.1 | exact hp1.2.2 | exact hp1.1.1 | exact hp2 | exact hp2.1 | exact hp2.2 | exact hp2.2.1 | exact hp2.2.2 | exact hp2.1.1 | exact (fun h : false = true => absurd h (by decide)) | exact (fun h : true = false => absurd h (by decide)) | exact (fun h : (!false) = false => absurd h (by decide)) | exact (fun h : (!true) = true => absurd h (by decide)) | exact (fun h => absurd (q_lt.symm.trans h) (by decide)) | exact (fun h => absurd (q_gt.symm.trans h) (by decide)) | exact (fun h => absurd (q_14.symm.trans h) (by decide)) | exact (fun h => absurd (q_15.symm.trans h) (by decide))) | refine ⟨?_, ?_⟩ | intro _)
     all_goals first | (with_reducible first | apply qa | apply qb | apply qc | apply qd) | (conv => whnf)
     all_goals (try simp only [gN_lst] at *)
     all_goals first | (with_reducible rfl) | decide | exact o1.1.1 | exact o2.1.1 | (intro _ _; exact rfl) | exact rfl | rfl
 . cases h
theorem wd_add (A B : Int) : wd ((wd A).val + (wd B).val) = wd (A + B) := by unfold wd Wd.val; dsimp only; congr 1 <;> omega
theorem wd_neg (A : Int) : wd (0 - (wd A).val) = wd (-A) := by unfold wd Wd.val; dsimp only; congr 1 <;> omega
theorem rm_lo {b : Int} (h : -9223372036854775808 <= b /\ b < 9223372036854775808) : (decide (b < 0) = true -> (wd (-Wd.val ⟨(wd b).hi, (wd b).lo⟩)).lo = ((sizeI b).toNat : Int)) /\ (decide (b < 0) = false -> (wd b).lo = ((sizeI b).toNat : Int)) := by
 refine ⟨fun h1 => ?_, fun h1 => ?_⟩
 . have h1 := of_decide_eq_true h1
   unfold sizeI wd Wd.val; dsimp only; rw [if_pos h1]; omega
 . have h1 := of_decide_eq_false h1
   unfold sizeI wd; dsimp only; rw [if_neg h1]; omega
theorem rm_next {A B P : Int} {n : Nat} (h : A + B * n = P) : (A + (if n % 2 = 1 then B else 0)) + (B + B) * ((n / 2 : Nat) : Int) = P := by
 obtain ⟨q, hq⟩ : ∃ q : Nat, q = n / 2 := ⟨_, rfl⟩
 rw [<- hq]
 rcases Nat.mod_two_eq_zero_or_one n with h2 | h2
 . have e2 : B * (n : Int) = (B + B) * (q : Int) := by rw [show (n : Int) = q + q by omega, Int.mul_add, Int.add_mul]
   rw [if_neg (by omega)]; omega
 . have e2 : B * (n : Int) = (B + B) * (q : Int) + B := by rw [show (n : Int) = q + q + 1 by omega, Int.mul_add, Int.mul_add, Int.mul_one, Int.add_mul]
   rw [if_pos h2]; omega
theorem rm_neg {A B i0 i1 : Int} {n : Nat} (k : A + B * n = i0 * sizeI i1) (hn : decide ((n : Int) > 0) = false) (h : decide (i1 < 0) = true) : wd (-(wd A).val) = wd (i0 * i1) := by
 have h := of_decide_eq_true h
 have hn := of_decide_eq_false hn
 have e : n = 0 := by omega
 subst e
 have e2 : sizeI i1 = -i1 := by unfold sizeI; rw [if_pos h]
 rw [e2, Int.mul_neg] at k
 have e3 : A = -(i0 * i1) := by simpa using k
 have e4 := wd_neg A
 rw [Int.zero_sub] at e4
 rw [e4, e3, Int.neg_neg]
theorem rm_pos {A B i0 i1 : Int} {n : Nat} (k : A + B * n = i0 * sizeI i1) (hn : decide ((n : Int) > 0) = false) (h : decide (i1 < 0) = false) : wd A = wd (i0 * i1) := by
 have h := of_decide_eq_false h
 have hn := of_decide_eq_false hn
 have e : n = 0 := by omega
 subst e
 have e2 : sizeI i1 = i1 := by unfold sizeI; rw [if_neg h]
 rw [e2] at k
 have e3 : A = i0 * i1 := by simpa using k
 rw [e3]
def FRMul : List Ar -> Option Rs
 | [.c (.d (.v (.int .i64 i0))), .c (.d (.v (.int .i64 i1)))] => some ⟨(-9223372036854775808 <= i0 /\ i0 < 9223372036854775808) /\ (-9223372036854775808 <= i1 /\ i1 < 9223372036854775808), .va (Wd.ar (wd (i0 * i1))), []⟩
 | _ => none
theorem fcRMul : FC Tryz.prog 16 FRMul := by
 intro xs pre r us h hp
 unfold FRMul at h
 split at h
 . rename_i i0 i1
   cases h
   obtain ⟨hp0, hp1⟩ := hp
   refine fcat tys_ok (l := [(52, ⟨[], FROf⟩), (53, ⟨[], FRNeg⟩), (54, ⟨[], FRAdd⟩)]) ⟨fcROf, fcRNeg, fcRAdd, trivial⟩ Tryz.func16 rfl (by kernel_rfl) false ?_
   repeat' (first | exact trivial | (with_reducible first | exact hp0 | exact hp1 | exact hp0.1 | exact hp0.2 | exact hp1.1 | exact hp1.2 | exact wd_ok _ | exact (wd_ok _).1.1 | exact (wd_ok _).1.2 | exact (wd_ok _).2.1 | exact (wd_ok _).2.2) | refine ⟨?_, ?_⟩ | intro _)
   all_goals first | (with_reducible first | apply qa | apply qb | apply qc | apply qd) | (conv => whnf)
   all_goals first | exact (wd_ok _).1.1 | exact (wd_ok _).1.2 | exact (wd_ok _).2.1 | exact (wd_ok _).2.2 | skip
   all_goals first | rw [(rm_lo hp1).1 ‹_›] | rw [(rm_lo hp1).2 ‹_›] | skip
   all_goals
    refine loop_ok tys_ok (l := [(52, ⟨[], FROf⟩), (53, ⟨[], FRNeg⟩), (54, ⟨[], FRAdd⟩)]) ⟨fcROf, fcRNeg, fcRAdd, trivial⟩ (by kernel_rfl) (X := Int × Int × Nat) (fun x => ⟨[(8, vx (.int .u64 x.2.2)), (1, vx (.int .i64 i1)), (4, .va (.c (.own 0 0))), (5, .va (.c (.own 1 0))), (6, .va (.c (.own 2 0)))], [(0, .cells [.d (it 0), .d (ut 0)]), (1, .cells [.d (it (wd x.1).hi), .d (ut (wd x.1).lo)]), (2, .cells [.d (it (wd x.2.1).hi), .d (ut (wd x.2.1).lo)])], 3, 38⟩) (fun x => x.2.2)
     (fun x => x.1 + x.2.1 * x.2.2 = i0 * sizeI i1 /\ x.2.2 < 18446744073709551616) [8] [1, 2] (fun x _ _ => (x.1 + (if x.2.2 % 2 = 1 then x.2.1 else 0), x.2.1 + x.2.1, x.2.2 / 2)) [0, 1, 2] [0, 1, 2] 0 0 (0, i0, (sizeI i1).toNat) ?_ ?_ ?_
    . refine ⟨?_, ?_⟩
      . show 0 + i0 * ((sizeI i1).toNat : Int) = i0 * sizeI i1
        rw [Int.zero_add, Int.toNat_of_nonneg (sizeI_r hp1).1]
      . show (sizeI i1).toNat < 18446744073709551616
        have := (sizeI_r hp1).2; omega
    . repeat' (first | exact trivial | exact rfl | (intro _ h; exact absurd h (Nat.not_lt_zero _)) | (intro _ _; exact rfl) | refine ⟨?_, ?_⟩ | fail)
    . rintro ⟨A, B, n⟩ ⟨k1, k2⟩
      change A + B * (n : Int) = i0 * sizeI i1 at k1
      change n < 18446744073709551616 at k2
      have k3 := rm_next k1
      repeat' (first | exact trivial | (with_reducible first | exact hp0 | exact hp1 | exact hp0.1 | exact hp0.2 | exact hp1.1 | exact hp1.2 | exact wd_ok _ | exact (wd_ok _).1.1 | exact (wd_ok _).1.2 | exact (wd_ok _).2.1 | exact (wd_ok _).2.2) | refine ⟨?_, ?_⟩ | intro _)
      all_goals first | (with_reducible first | apply qa | apply qb | apply qc | apply qd) | (conv => whnf)
      all_goals first | exact k3 | (exfalso; exact absurd ‹(2 : Int) = 0› (by decide)) | ((with_reducible show idsOk _ _ = true); rfl) | exact wd_ok _ | exact (wd_ok _).1.1 | exact (wd_ok _).1.2 | exact (wd_ok _).2.1 | exact (wd_ok _).2.2 | skip
      all_goals first | rfl | skip
      all_goals first | (show n / 2 < 18446744073709551616; omega) | (have := of_decide_eq_true ‹decide (_ > _) = true›; show n / 2 < n; have h9 : (n : Int) > 0 := this; omega) | (show Value.int .u64 (IntKind.u64.wrap ((n : Int).tdiv 2)) = Value.int .u64 ((n / 2 : Nat) : Int); exact congrArg (Value.int .u64) (quoN (a := 2) (by decide) k2)) | (refine congrArg (fun w : Wd => Value.int .i64 w.hi) (a₁ := wd ((wd B).val + (wd B).val)) (a₂ := wd (B + B)) (wd_add B B)) | (refine congrArg (fun w : Wd => Value.int .u64 w.lo) (a₁ := wd ((wd B).val + (wd B).val)) (a₂ := wd (B + B)) (wd_add B B)) | (have hq : n % 2 = 1 := (by have := eq_of_beq ‹(_ == (1 : Int)) = true›; have h8 : (n : Int).tmod 2 = 1 := this; rw [Int.tmod_eq_emod_of_nonneg (Int.natCast_nonneg n)] at h8; omega); first | (refine congrArg (fun w : Wd => Value.int .i64 w.hi) (a₁ := wd ((wd A).val + (wd B).val)) (a₂ := wd (A + if n % 2 = 1 then B else 0)) ?_; rw [wd_add, if_pos hq]) | (refine congrArg (fun w : Wd => Value.int .u64 w.lo) (a₁ := wd ((wd A).val + (wd B).val)) (a₂ := wd (A + if n % 2 = 1 then B else 0)) ?_; rw [wd_add, if_pos hq])) | (have hq : ¬ n % 2 = 1 := (by have := ne_of_beq_false ‹(_ == (1 : Int)) = false›; have h8 : ¬ (n : Int).tmod 2 = 1 := this; rw [Int.tmod_eq_emod_of_nonneg (Int.natCast_nonneg n)] at h8; omega); first | (refine congrArg (fun w : Wd => Value.int .i64 w.hi) (a₁ := wd A) (a₂ := wd (A + if n % 2 = 1 then B else 0)) ?_; rw [if_neg hq, Int.add_zero]) | (refine congrArg (fun w : Wd => Value.int .u64 w.lo) (a₁ := wd A) (a₂ := wd (A + if n % 2 = 1 then B else 0)) ?_; rw [if_neg hq, Int.add_zero])) | (refine congrArg (fun w : Wd => Value.int .i64 w.hi) (a₁ := wd (-(wd A).val)) (a₂ := wd (i0 * i1)) (rm_neg k1 ‹_› ‹_›)) | (refine congrArg (fun w : Wd => Value.int .u64 w.lo) (a₁ := wd (-(wd A).val)) (a₂ := wd (i0 * i1)) (rm_neg k1 ‹_› ‹_›)) | (refine congrArg (fun w : Wd => Value.int .i64 w.hi) (a₁ := wd A) (a₂ := wd (i0 * i1)) (rm_pos k1 ‹_› ‹_›)) | (refine congrArg (fun w : Wd => Value.int .u64 w.lo) (a₁ := wd A) (a₂ := wd (i0 * i1)) (rm_pos k1 ‹_› ‹_›))
 . cases h
theorem ab_1 {n : Int} (r : -9223372036854775808 <= n /\ n < 9223372036854775808) (h : decide (n < 0) = true) : (wd (-(wd n).val)).lo = sizeI n := by
 have h := of_decide_eq_true h
 rw [wd_val (by omega) (by omega)]; unfold wd sizeI; dsimp only; rw [if_pos h]; omega
theorem ab_0 {n : Int} (r : -9223372036854775808 <= n /\ n < 9223372036854775808) (h : decide (n < 0) = false) : (wd n).lo = sizeI n := by
 have h := of_decide_eq_false h
 unfold wd sizeI; dsimp only; rw [if_neg h]; omega
theorem qt_eq (a b : Int) : ((!(decide (a < 0) == decide (b < 0))) = true -> a.tdiv b = -((sizeI a).tdiv (sizeI b))) /\ ((!(decide (a < 0) == decide (b < 0))) = false -> a.tdiv b = (sizeI a).tdiv (sizeI b)) := by
 unfold sizeI
 by_cases ha : a < 0
 . by_cases hb : b < 0
   . rw [decide_eq_true ha, decide_eq_true hb, if_pos ha, if_pos hb]
     refine ⟨fun h => absurd h (by decide), fun _ => ?_⟩
     rw [Int.tdiv_neg, Int.neg_tdiv, Int.neg_neg]
   . rw [decide_eq_true ha, decide_eq_false hb, if_pos ha, if_neg hb]
     refine ⟨fun _ => ?_, fun h => absurd h (by decide)⟩
     rw [Int.neg_tdiv, Int.neg_neg]
 . by_cases hb : b < 0
   . rw [decide_eq_false ha, decide_eq_true hb, if_neg ha, if_pos hb]
     refine ⟨fun _ => ?_, fun h => absurd h (by decide)⟩
     rw [Int.tdiv_neg, Int.neg_neg]
   . rw [decide_eq_false ha, decide_eq_false hb, if_neg ha, if_neg hb]
     exact ⟨fun h => absurd h (by decide), fun _ => rfl⟩
theorem sq_r {a b : Int} (ra : -9223372036854775808 <= a /\ a < 9223372036854775808) (rb : -9223372036854775808 <= b /\ b < 9223372036854775808) : 0 <= (sizeI a).tdiv (sizeI b) /\ (sizeI a).tdiv (sizeI b) <= 9223372036854775808 := by
 have h1 := sc_r ra
 have h2 := sc_r rb
 rw [Int.tdiv_eq_ediv_of_nonneg h1.1]
 have := Int.ediv_nonneg h1.1 h2.1
 have := Int.ediv_le_self (sizeI b) h1.1
 omega
section
variable {a b : Int} (ra : -9223372036854775808 ≤ a ∧ a < 9223372036854775808) (rb : -9223372036854775808 ≤ b ∧ b < 9223372036854775808)
include ra rb
theorem qv : Wd.val ⟨0, IntKind.wrap .u64 ((sizeI a).tdiv (sizeI b))⟩ = (sizeI a).tdiv (sizeI b) := by
 have := sq_r ra rb
 rw [wU_id _ this.1 (by omega)]; unfold Wd.val; dsimp only; omega
theorem qt_p (h : (!(decide (a < 0) == decide (b < 0))) = false) : (Wd.val ⟨0, IntKind.wrap .u64 ((sizeI a).tdiv (sizeI b))⟩ + 9223372036854775808) % 18446744073709551616 - 9223372036854775808 = wr (a.tdiv b) := by
 rw [qv ra rb, (qt_eq a b).2 h]; rfl
theorem qt_n (h : (!(decide (a < 0) == decide (b < 0))) = true) : (Wd.val (wd (-(Wd.val ⟨0, IntKind.wrap .u64 ((sizeI a).tdiv (sizeI b))⟩))) + 9223372036854775808) % 18446744073709551616 - 9223372036854775808 = wr (a.tdiv b) := by
 rw [wr_wd, qv ra rb, (qt_eq a b).1 h]
theorem r2_8 (hb : (b == 0) = false) : wr (a.tdiv b) = doI 8 a b := (doI_div (ne_of_beq_false hb)).symm
theorem r2_9 (hb : (b == 0) = false) : (Wd.val (wd (Wd.val (wd a) - Wd.val (wd (wr (a.tdiv b) * b)))) + 9223372036854775808) % 18446744073709551616 - 9223372036854775808 = doI 9 a b := by
 have hb := ne_of_beq_false hb
 rw [wr_wd, doI_rem hb]
 have key : ∀ v : Int, wr (Wd.val (wd a) - Wd.val (wd v)) = wr (a - v) := fun v => by
  rw [wd_val (v := a) (by omega) (by omega)]; unfold wr wd Wd.val; dsimp only; omega
 rw [key]
 have e : a.tmod b = a - a.tdiv b * b := by
  have := Int.tmod_add_mul_tdiv a b
  rw [Int.mul_comm]; omega
 have tr := doI_rng (op := 9) (b := b) ra
 rw [doI_rem hb] at tr
 by_cases hx : a = -9223372036854775808 /\ b = -1
 . obtain ⟨rfl, rfl⟩ := hx; decide
 . have q := quo_rng ra rb hb hx
   rw [wr_id q, <- e, wr_id tr]
theorem rsub : Wd.val (wd (Wd.val (wd a) - Wd.val (wd b))) = a - b := far_val ra rb
theorem r2_12 : (if decide (wCmp (Wd.val (wd (Wd.val (wd a) - Wd.val (wd b)))) (Wd.val ⟨0, 0⟩) < 0) = true then (1 : Int) else 0) = doI 12 a b := by
 rw [rsub ra rb, show Wd.val ⟨0, 0⟩ = 0 from rfl]
 show _ = if decide (a < b) = true then (1 : Int) else 0
 congr 2; unfold wCmp; (repeat' split) <;> simp <;> omega
theorem r2_13 : (if decide (wCmp (Wd.val (wd (Wd.val (wd a) - Wd.val (wd b)))) (Wd.val ⟨0, 0⟩) <= 0) = true then (1 : Int) else 0) = doI 13 a b := by
 rw [rsub ra rb, show Wd.val ⟨0, 0⟩ = 0 from rfl]
 show _ = if decide (a <= b) = true then (1 : Int) else 0
 congr 2; unfold wCmp; (repeat' split) <;> simp <;> omega
theorem r2_14 : (if (wCmp (Wd.val (wd (Wd.val (wd a) - Wd.val (wd b)))) (Wd.val ⟨0, 0⟩) == 0) = true then (1 : Int) else 0) = doI 14 a b := by
 rw [rsub ra rb, show Wd.val ⟨0, 0⟩ = 0 from rfl]
 show _ = if decide (a = b) = true then (1 : Int) else 0
 congr 2; rw [<- beqd]; unfold wCmp; (repeat' split) <;> simp <;> omega
theorem r2_15 : (if (wCmp (Wd.val (wd (Wd.val (wd a) - Wd.val (wd b)))) (Wd.val ⟨0, 0⟩) != 0) = true then (1 : Int) else 0) = doI 15 a b := by
 rw [rsub ra rb, show Wd.val ⟨0, 0⟩ = 0 from rfl]
 show _ = if decide (a ≠ b) = true then (1 : Int) else 0
 congr 2; unfold bne; rw [<- beqd]; unfold wCmp; (repeat' split) <;> simp <;> omega
end
section
variable {a b : Int}
theorem r2_16 (x : Bool) (h : (a != 0) = x) : (if (if x = true then b != 0 else false) = true then (1 : Int) else 0) = doI 16 a b := by
 show _ = if (decide (a ≠ 0) && decide (b ≠ 0)) = true then (1 : Int) else 0
 cases x <;> simp at h <;> simp [h]
theorem r2_17 (x : Bool) (h : (a != 0) = x) : (if (if x = true then true else b != 0) = true then (1 : Int) else 0) = doI 17 a b := by
 show _ = if (decide (a ≠ 0) || decide (b ≠ 0)) = true then (1 : Int) else 0
 cases x <;> simp at h <;> simp [h]
end
def FR2Low : List Ar -> Option Rs
 | [.agg [.d (.v (.int .i64 h0)), .d (.v (.int .u64 l0))]] => some ⟨(Wd.ok ⟨h0, l0⟩), .va (.c (.d (it ((Wd.val (⟨h0, l0⟩ : Wd) + 9223372036854775808) % 18446744073709551616 - 9223372036854775808)))), []⟩
 | _ => none
theorem fcR2Low : FC Tryz.prog 66 FR2Low := by
 intro xs pre r us h hp
 unfold FR2Low at h
 split at h
 . rename_i h0 l0
   cases h
   have hp0 := hp
   refine fcat tys_ok (l := []) trivial Tryz.func66 rfl (by kernel_rfl) false ?_
   repeat' (first | exact trivial | refine ⟨?_, ?_⟩ | intro _)
   all_goals first | (with_reducible first | apply qa | apply qb | apply qc | apply qd) | (conv => whnf)
   all_goals (try (refine congrArg Value.bool (Bool.eq_iff_iff.2 ?_)); try simp only [Bool.not_eq_true', Bool.not_eq_false', Bool.and_eq_true, Bool.or_eq_true, Bool.and_eq_false_imp, Bool.or_eq_false_iff, beq_iff_eq, beq_eq_false_iff_ne, ne_eq, decide_eq_true_eq, decide_eq_false_iff_not, Bool.true_eq_false, Bool.false_eq_true, true_and, and_true, false_and, and_false, imp_false, Value.int.injEq, true_iff, false_iff, iff_true, iff_false, iff_self])
   all_goals (try simp only [wU, wI, shr63, wd, Wd.val, Wd.ok, Bool.not_eq_true', Bool.not_eq_false', Bool.and_eq_true, Bool.or_eq_true, Bool.and_eq_false_imp, Bool.or_eq_false_iff, beq_iff_eq, beq_eq_false_iff_ne, ne_eq, decide_eq_true_eq, decide_eq_false_iff_not, Bool.true_eq_false, Bool.false_eq_true, true_and, and_true, false_and, and_false, imp_false, Value.int.injEq] at *)
   all_goals first | omega | (split <;> omega) | (split <;> split <;> omega)
 . cases h
def FR2Abs : List Ar -> Option Rs
 | [.c (.d (.v (.int .i64 i0)))] => some ⟨(-9223372036854775808 <= i0 /\ i0 < 9223372036854775808), .va (.c (.d (ut (sizeI i0)))), []⟩
 | _ => none
theorem fcR2Abs : FC Tryz.prog 108 FR2Abs := by
 intro xs pre r us h hp
 unfold FR2Abs at h
 split at h
 . rename_i i0
   cases h
   have hp0 := hp
   refine fcat tys_ok (l := [(52, ⟨[], FROf⟩), (53, ⟨[], FRNeg⟩)]) ⟨fcROf, fcRNeg, trivial⟩ Tryz.func108 rfl (by kernel_rfl) false ?_
   cases hq : decide (i0 < 0)
   . have hqn := congrArg Bool.not hq; simp only [Bool.not_true, Bool.not_false] at hqn
     repeat' (first | exact trivial | (with_reducible first | exact hp0 | exact hp1 | exact hp2 | exact hp0.1 | exact hp0.2 | exact hp1.1 | exact hp1.2 | exact hp2.1 | exact hp2.2 | exact wd_ok _ | exact (wd_ok _).1.1 | exact (wd_ok _).1.2 | exact (wd_ok _).2.1 | exact (wd_ok _).2.2 | exact hp0 | exact (fun h : false = true => absurd h (by decide)) | exact (fun h : true = false => absurd h (by decide)) | exact (fun h : (!false) = false => absurd h (by decide)) | exact (fun h : (!true) = true => absurd h (by decide)) | exact (fun h => absurd (hq.symm.trans h) (by decide)) | exact (fun h => absurd (hqn.symm.trans h) (by decide))) | refine ⟨?_, ?_⟩ | intro _)
     all_goals first | (with_reducible first | apply qa | apply qb | apply qc | apply qd) | (conv => whnf)
     all_goals first | (with_reducible rfl) | decide | exact congrArg (Value.int .u64) (ab_0 hp0 hq) | exact (wd_ok _).1.1 | exact (wd_ok _).1.2 | exact (wd_ok _).2.1 | exact (wd_ok _).2.2 | rfl
   . have hqn := congrArg Bool.not hq; simp only [Bool.not_true, Bool.not_false] at hqn
     repeat' (first | exact trivial | (with_reducible first | exact hp0 | exact hp1 | exact hp2 | exact hp0.1 | exact hp0.2 | exact hp1.1 | exact hp1.2 | exact hp2.1 | exact hp2.2 | exact wd_ok _ | exact (wd_ok _).1.1 | exact (wd_ok _).1.2 | exact (wd_ok _).2.1 | exact (wd_ok _).2.2 | exact hp0 | exact (fun h : false = true => absurd h (by decide)) | exact (fun h : true = false => absurd h (by decide)) | exact (fun h : (!false) = false => absurd h (by decide)) | exact (fun h : (!true) = true => absurd h (by decide)) | exact (fun h => absurd (hq.symm.trans h) (by decide)) | exact (fun h => absurd (hqn.symm.trans h) (by decide))) | refine ⟨?_, ?_⟩ | intro _)
     all_goals first | (with_reducible first | apply qa | apply qb | apply qc | apply qd) | (conv => whnf)
     all_goals first | (with_reducible rfl) | decide | exact congrArg (Value.int .u64) (ab_1 hp0 hq) | exact (wd_ok _).1.1 | exact (wd_ok _).1.2 | exact (wd_ok _).2.1 | exact (wd_ok _).2.2 | rfl
 . cases h
def FR2Exact : List Ar -> Option Rs
 | [.c (.d (.v (.int .i64 i0))), .c (.d (.v (.int .i64 i1))), .c (.d (.v (.int .i64 i2)))] => some ⟨(-9223372036854775808 <= i0 /\ i0 < 9223372036854775808) /\ (-9223372036854775808 <= i1 /\ i1 < 9223372036854775808) /\ (-9223372036854775808 <= i2 /\ i2 < 9223372036854775808), .tup [Wd.ar (wd (exI i0 i1 i2)), .c (.d (bo (exB i0)))], []⟩
 | _ => none
theorem fcR2Exact : FC Tryz.prog 65 FR2Exact := by
 intro xs pre r us h hp
 unfold FR2Exact at h
 split at h
 . rename_i i0 i1 i2
   cases h
   obtain ⟨hp0, hp1, hp2⟩ := hp
   refine fcat tys_ok (l := [(52, ⟨[], FROf⟩), (54, ⟨[], FRAdd⟩), (67, ⟨[], FRSub⟩), (16, ⟨[], FRMul⟩)]) ⟨fcROf, fcRAdd, fcRSub, fcRMul, trivial⟩ Tryz.func65 rfl (by kernel_rfl) false ?_
   repeat' (first | exact trivial | (with_reducible first | exact hp0 | exact hp1 | exact hp2 | exact hp0.1 | exact hp0.2 | exact hp1.1 | exact hp1.2 | exact hp2.1 | exact hp2.2 | exact wd_ok _ | exact (wd_ok _).1.1 | exact (wd_ok _).1.2 | exact (wd_ok _).2.1 | exact (wd_ok _).2.2) | refine ⟨?_, ?_⟩ | intro _)
   all_goals first | (with_reducible first | apply qa | apply qb | apply qc | apply qd) | (conv => whnf)
   all_goals first | exact (wd_ok _).1.1 | exact (wd_ok _).1.2 | exact (wd_ok _).2.1 | exact (wd_ok _).2.2 | (rw [(ex_10 ‹_›).1]; first | exact (congrArg (fun w : Wd => Value.int .i64 w.hi) (wd_addI i1 i2)) | exact (congrArg (fun w : Wd => Value.int .u64 w.lo) (wd_addI i1 i2)) | done) | (rw [(ex_10 (a := 0) (b := 0) ‹_›).2]; done) | (rw [(ex_11 ‹_›).1]; first | exact (congrArg (fun w : Wd => Value.int .i64 w.hi) (wd_sub i1 i2)) | exact (congrArg (fun w : Wd => Value.int .u64 w.lo) (wd_sub i1 i2)) | done) | (rw [(ex_11 (a := 0) (b := 0) ‹_›).2]; done) | (rw [(ex_7 ‹_›).1]; done) | (rw [(ex_7 (a := 0) (b := 0) ‹_›).2]; done) | (rw [(ex_no ‹_› ‹_› ‹_›).1]; first | rfl | done) | (rw [(ex_no (a := 0) (b := 0) ‹_› ‹_› ‹_›).2]; done)
 . cases h
def FR2One : List Ar -> Option Rs
 | [.c (.d (.v (.bool b0)))] => some ⟨True, .va (.c (.d (it (if b0 = true then 1 else 0)))), []⟩
 | _ => none
theorem fcR2One : FC Tryz.prog 69 FR2One := by
 intro xs pre r us h hp
 unfold FR2One at h
 split at h
 . rename_i b0
   cases h
   refine fcat tys_ok (l := []) trivial Tryz.func69 rfl (by kernel_rfl) false ?_
   repeat' (first | exact trivial | refine ⟨?_, ?_⟩ | intro _)
   all_goals first | (with_reducible first | apply qa | apply qb | apply qc | apply qd) | (conv => whnf)
   all_goals first | rfl | (simp_all; done)
 . cases h
def FR2Quot : List Ar -> Option Rs
 | [.c (.d (.v (.int .i64 i0))), .c (.d (.v (.int .i64 i1)))] => some ⟨(-9223372036854775808 <= i0 /\ i0 < 9223372036854775808) /\ (-9223372036854775808 <= i1 /\ i1 < 9223372036854775808) /\ (i1 ≠ 0), .va (.c (.d (it (wr (i0.tdiv i1))))), []⟩
 | _ => none
theorem fcR2Quot : FC Tryz.prog 68 FR2Quot := by
 intro xs pre r us h hp
 unfold FR2Quot at h
 split at h
 . rename_i i0 i1
   cases h
   obtain ⟨hp0, hp1, hp2⟩ := hp
   refine fcat tys_ok (l := [(108, ⟨[], FR2Abs⟩), (53, ⟨[], FRNeg⟩), (66, ⟨[], FR2Low⟩)]) ⟨fcR2Abs, fcRNeg, fcR2Low, trivial⟩ Tryz.func68 rfl (by kernel_rfl) false ?_
   have qr := sq_r hp0 hp1
   have qo : Wd.ok ⟨0, IntKind.wrap .u64 ((sizeI i0).tdiv (sizeI i1))⟩ := by unfold Wd.ok; dsimp only; rw [wU_id _ qr.1 (by omega)]; omega
   have qu := qo
   unfold Wd.ok at qu
   cases hn : (!(decide (i0 < 0) == decide (i1 < 0)))
   . have hnn := congrArg Bool.not hn; simp only [Bool.not_true, Bool.not_false] at hnn
     repeat' (first | exact trivial | (with_reducible first | exact hp0 | exact hp1 | exact hp2 | exact hp0.1 | exact hp0.2 | exact hp1.1 | exact hp1.2 | exact hp2.1 | exact hp2.2 | exact wd_ok _ | exact (wd_ok _).1.1 | exact (wd_ok _).1.2 | exact (wd_ok _).2.1 | exact (wd_ok _).2.2 | exact (fun h : false = true => absurd h (by decide)) | exact (fun h : true = false => absurd h (by decide)) | exact hp0 | exact hp1 | exact qo | exact qu | exact qu.1 | exact qu.2 | exact qu.1.1 | exact qu.1.2 | exact qu.2.1 | exact qu.2.2 | exact (fun h : false = true => absurd h (by decide)) | exact (fun h : true = false => absurd h (by decide)) | exact (fun h : (!false) = false => absurd h (by decide)) | exact (fun h : (!true) = true => absurd h (by decide)) | exact (fun h => absurd (hn.symm.trans h) (by decide)) | exact (fun h => absurd (hnn.symm.trans h) (by decide))) | refine ⟨?_, ?_⟩ | intro _)
     all_goals first | (with_reducible first | apply qa | apply qb | apply qc | apply qd) | (conv => whnf)
     all_goals first | (with_reducible rfl) | decide | ((with_reducible show False); exact size0 hp2 (by with_reducible assumption)) | exact congrArg (Value.int .i64) (qt_p hp0 hp1 hn) | exact (wd_ok _).1.1 | exact (wd_ok _).1.2 | exact (wd_ok _).2.1 | exact (wd_ok _).2.2 | rfl
   . have hnn := congrArg Bool.not hn; simp only [Bool.not_true, Bool.not_false] at hnn
     repeat' (first | exact trivial | (with_reducible first | exact hp0 | exact hp1 | exact hp2 | exact hp0.1 | exact hp0.2 | exact hp1.1 | exact hp1.2 | exact hp2.1 | exact hp2.2 | exact wd_ok _ | exact (wd_ok _).1.1 | exact (wd_ok _).1.2 | exact (wd_ok _).2.1 | exact (wd_ok _).2.2 | exact (fun h : false = true => absurd h (by decide)) | exact (fun h : true = false => absurd h (by decide)) | exact hp0 | exact hp1 | exact qo | exact qu | exact qu.1 | exact qu.2 | exact qu.1.1 | exact qu.1.2 | exact qu.2.1 | exact qu.2.2 | exact (fun h : false = true => absurd h (by decide)) | exact (fun h : true = false => absurd h (by decide)) | exact (fun h : (!false) = false => absurd h (by decide)) | exact (fun h : (!true) = true => absurd h (by decide)) | exact (fun h => absurd (hn.symm.trans h) (by decide)) | exact (fun h => absurd (hnn.symm.trans h) (by decide))) | refine ⟨?_, ?_⟩ | intro _)
     all_goals first | (with_reducible first | apply qa | apply qb | apply qc | apply qd) | (conv => whnf)
     all_goals first | (with_reducible rfl) | decide | ((with_reducible show False); exact size0 hp2 (by with_reducible assumption)) | exact congrArg (Value.int .i64) (qt_n hp0 hp1 hn) | exact (wd_ok _).1.1 | exact (wd_ok _).1.2 | exact (wd_ok _).2.1 | exact (wd_ok _).2.2 | rfl
 . cases h
def FR2Do : List Ar -> Option Rs
 | [.c (.d (.v (.int .i64 i0))), .c (.d (.v (.int .i64 i1))), .c (.d (.v (.int .i64 i2)))] => some ⟨(-9223372036854775808 <= i0 /\ i0 < 9223372036854775808) /\ (-9223372036854775808 <= i1 /\ i1 < 9223372036854775808) /\ (-9223372036854775808 <= i2 /\ i2 < 9223372036854775808), .tup [.c (.d (it (doI i0 i1 i2))), .c (.d (it (doE i0 i2)))], []⟩
 | _ => none
theorem fcR2Do : FC Tryz.prog 23 FR2Do := by
 intro xs pre r us h hp
 unfold FR2Do at h
 split at h
 . rename_i i0 i1 i2
   cases h
   obtain ⟨hp0, hp1, hp2⟩ := hp
   refine fcat tys_ok (l := [(65, ⟨[], FR2Exact⟩), (66, ⟨[], FR2Low⟩), (52, ⟨[], FROf⟩), (67, ⟨[], FRSub⟩), (51, ⟨[], FRCmp⟩), (68, ⟨[], FR2Quot⟩), (16, ⟨[], FRMul⟩), (69, ⟨[], FR2One⟩)]) ⟨fcR2Exact, fcR2Low, fcROf, fcRSub, fcRCmp, fcR2Quot, fcRMul, fcR2One, trivial⟩ Tryz.func23 rfl (by kernel_rfl) false ?_
   all_goals first | (by_cases e8 : i0 = 8) | skip
   all_goals first | (have _ := (show ¬ _ from e8); by_cases e9 : i0 = 9) | skip
   all_goals first | (have _ := (show ¬ _ from e9); by_cases e12 : i0 = 12) | skip
   all_goals first | (have _ := (show ¬ _ from e12); by_cases e13 : i0 = 13) | skip
   all_goals first | (have _ := (show ¬ _ from e13); by_cases e14 : i0 = 14) | skip
   all_goals first | (have _ := (show ¬ _ from e14); by_cases e15 : i0 = 15) | skip
   all_goals first | (have _ := (show ¬ _ from e15); by_cases e16 : i0 = 16) | skip
   all_goals first | (have _ := (show ¬ _ from e16); by_cases e17 : i0 = 17) | skip
   all_goals first | (have _ := (show _ = _ from e8); cases hz : (i2 == 0)) | skip
   all_goals first | (have _ := (show _ = _ from e9); cases hz : (i2 == 0)) | skip
   all_goals first | (have _ := (show _ = _ from e16); cases hz2 : (i1 != 0)) | skip
   all_goals first | (have _ := (show _ = _ from e17); cases hz2 : (i1 != 0)) | skip
   all_goals first | (have _ := (show ¬ _ from e17); cases hx : exB i0) | skip
   all_goals first | (have k8 := e8; have _ := (show _ = _ from k8)) | (have k9 := e9; have _ := (show _ = _ from k9)) | (have k12 := e12; have _ := (show _ = _ from k12)) | (have k13 := e13; have _ := (show _ = _ from k13)) | (have k14 := e14; have _ := (show _ = _ from k14)) | (have k15 := e15; have _ := (show _ = _ from k15)) | (have k16 := e16; have _ := (show _ = _ from k16)) | (have k17 := e17; have _ := (show _ = _ from k17)) | skip
   all_goals first | subst e8 | subst e9 | subst e12 | subst e13 | subst e14 | subst e15 | subst e16 | subst e17 | skip
   all_goals repeat' (first | exact trivial | (with_reducible first | exact hp0 | exact hp1 | exact hp2 | exact hp0.1 | exact hp0.2 | exact hp1.1 | exact hp1.2 | exact hp2.1 | exact hp2.2 | exact wd_ok _ | exact (wd_ok _).1.1 | exact (wd_ok _).1.2 | exact (wd_ok _).2.1 | exact (wd_ok _).2.2 | exact (fun h : (!false) = false => absurd h (by decide)) | exact (fun h : (!true) = true => absurd h (by decide)) | exact hp0 | exact hp1 | exact hp2 | exact wr_r _ | exact (wr_r _).1 | exact (wr_r _).2 | exact (fun h => absurd ((beq_eq_false_iff_ne.2 e8).symm.trans h) (by decide)) | exact (fun h => absurd ((beq_eq_false_iff_ne.2 e9).symm.trans h) (by decide)) | exact (fun h => absurd ((beq_eq_false_iff_ne.2 e12).symm.trans h) (by decide)) | exact (fun h => absurd ((beq_eq_false_iff_ne.2 e13).symm.trans h) (by decide)) | exact (fun h => absurd ((beq_eq_false_iff_ne.2 e14).symm.trans h) (by decide)) | exact (fun h => absurd ((beq_eq_false_iff_ne.2 e15).symm.trans h) (by decide)) | exact (fun h => absurd ((beq_eq_false_iff_ne.2 e16).symm.trans h) (by decide)) | exact (fun h => absurd ((beq_eq_false_iff_ne.2 e17).symm.trans h) (by decide)) | exact (fun h => absurd (hz.symm.trans h) (by decide)) | exact (fun h => absurd (hz.symm.trans h) (by decide)) | exact (fun h => absurd (hz2.symm.trans h) (by decide)) | exact (fun h => absurd (hz2.symm.trans h) (by decide)) | exact (fun h => absurd (hx.symm.trans h) (by decide)) | exact (fun h => absurd ((congrArg Bool.not hz).symm.trans h) (by decide)) | exact (fun h => absurd ((congrArg Bool.not hz).symm.trans h) (by decide)) | exact (fun h => absurd ((congrArg Bool.not hz2).symm.trans h) (by decide)) | exact (fun h => absurd ((congrArg Bool.not hz2).symm.trans h) (by decide)) | exact (fun h => absurd ((congrArg Bool.not hx).symm.trans h) (by decide)) | exact (fun h => absurd h (by decide))) | refine ⟨?_, ?_⟩ | intro _)
   all_goals first | (with_reducible first | apply qa | apply qb | apply qc | apply qd) | (conv => whnf)
   all_goals first | (with_reducible rfl) | decide | (have _ := k8; have _ := (show _ = true from hz); first | exact congrArg (Value.int .i64) ((pa_0 (op := 8) (a := i1) (b := i2) (by decide) hz).1.symm) | exact congrArg (Value.int .i64) ((pa_0 (op := 8) (a := i1) (b := i2) (by decide) hz).2.symm)) | (have _ := k8; have _ := (show _ = false from hz); first | exact congrArg (Value.int .i64) (r2_8 hp1 hp2 hz) | exact congrArg (Value.int .i64) ((pa_e (op := 8) (b := i2) (by decide) hz).symm) | exact ne_of_beq_false hz | ((with_reducible show False); exact ne_of_beq_false hz (by with_reducible assumption))) | (have _ := k9; have _ := (show _ = true from hz); first | exact congrArg (Value.int .i64) ((pa_0 (op := 9) (a := i1) (b := i2) (by decide) hz).1.symm) | exact congrArg (Value.int .i64) ((pa_0 (op := 9) (a := i1) (b := i2) (by decide) hz).2.symm)) | (have _ := k9; have _ := (show _ = false from hz); first | exact congrArg (Value.int .i64) (r2_9 hp1 hp2 hz) | exact congrArg (Value.int .i64) ((pa_e (op := 9) (b := i2) (by decide) hz).symm) | exact ne_of_beq_false hz | ((with_reducible show False); exact ne_of_beq_false hz (by with_reducible assumption))) | (have _ := k12; exact congrArg (Value.int .i64) (r2_12 hp1 hp2)) | (have _ := k13; exact congrArg (Value.int .i64) (r2_13 hp1 hp2)) | (have _ := k14; exact congrArg (Value.int .i64) (r2_14 hp1 hp2)) | (have _ := k15; exact congrArg (Value.int .i64) (r2_15 hp1 hp2)) | (have _ := k16; first | exact congrArg (Value.int .i64) (r2_16 true hz2) | exact congrArg (Value.int .i64) (r2_16 false hz2)) | (have _ := k17; first | exact congrArg (Value.int .i64) (r2_17 true hz2) | exact congrArg (Value.int .i64) (r2_17 false hz2)) | (have _ := (show _ = true from hx); first | (rw [(do_x hx).1]; first | exact congrArg (Value.int .i64) (wr_wd _) | exact congrArg (Value.int .i64) (wr_lo _) | done) | (rw [(do_x (a := 0) (b := i2) hx).2]; done)) | (have _ := (show _ = false from hx); have q8 := beq_eq_false_iff_ne.2 e8; have q9 := beq_eq_false_iff_ne.2 e9; have hcm : decide (12 <= i0 /\ i0 <= 17) = false := decide_eq_false (by omega); first | (rw [(do_n hx q8 q9 hcm).1]; done) | (rw [(do_n (a := 0) (b := i2) hx q8 q9 hcm).2]; done)) | exact (wr_r _).1 | exact (wr_r _).2 | exact (wd_ok _).1.1 | exact (wd_ok _).1.2 | exact (wd_ok _).2.1 | exact (wd_ok _).2.2 | rfl
 . cases h
theorem of_1 (n : Int) : Sp.of n n = ⟨true, n, n⟩ := by unfold Sp.of; rw [if_neg (by omega)]
theorem of_0 (n : Int) : Cg.of 0 n = ⟨true, 0, n⟩ := by unfold Cg.of md; rw [if_neg (by omega), if_pos (by omega)]
theorem cl_1 (n : Int) : Sp.clean ⟨true, n, n⟩ = ⟨true, n, n⟩ := by unfold Sp.clean Sp.none; simp
theorem cl_0 (n : Int) : Cg.clean ⟨true, 0, n⟩ = ⟨true, 0, n⟩ := by unfold Cg.clean; rw [if_pos rfl]; exact of_0 n
theorem nn_1 (n : Int) : Sp.none ⟨true, n, n⟩ = false := by unfold Sp.none; simp
theorem numO_eq (n : Int) : numO n = ⟨⟨⟨true, n, n⟩, ⟨true, 0, n⟩⟩, ⟨false, []⟩⟩ := by unfold numO; rw [of_1, of_0]
theorem clean_num (n : Int) : Ig.clean ⟨⟨true, n, n⟩, ⟨true, 0, n⟩⟩ = ⟨⟨true, n, n⟩, ⟨true, 0, n⟩⟩ := by
 unfold Ig.clean Ig.none; dsimp only; rw [nn_1, if_neg (by decide), cl_1, cl_0]
theorem numO_of (n : Int) : (numO n).of = numO n := by
 rw [numO_eq]; show (⟨Ig.clean ⟨⟨true, n, n⟩, ⟨true, 0, n⟩⟩, ⟨false, ofS []⟩⟩ : Vl) = _; rw [clean_num, ofS_nil]
theorem sp_has_clean {s : Sp} {n : Int} (h : s.has n = true) : s.none = false /\ s.clean = s /\ s.lo <= n /\ n <= s.hi := by
 obtain ⟨h1, h2, h3⟩ := has_iff.1 h
 have hn : s.none = false := by unfold Sp.none; rw [h1, decide_eq_false (by omega)]; rfl
 exact ⟨hn, by unfold Sp.clean; rw [hn]; rfl, h2, h3⟩
theorem both_num {s : Sp} {n : Int} (h : s.has n = true) : bothV s (Cg.of 0 n) = numO n := by
 obtain ⟨hn, hc, h2, h3⟩ := sp_has_clean h
 rw [of_0, bo_3 hn rfl]
 have e : Ig.clean ⟨s, ⟨true, 0, n⟩⟩ = ⟨s, ⟨true, 0, n⟩⟩ := by unfold Ig.clean Ig.none; dsimp only; rw [hn, if_neg (by decide), hc, cl_0]
 have r : Ig.red ⟨s, ⟨true, 0, n⟩⟩ = ⟨Sp.of n n, Cg.of 0 n⟩ := by
  unfold Ig.red Ig.none upB dnB upV dnV; dsimp only
  rw [hn, if_neg (by decide), if_pos rfl, if_pos rfl, if_pos rfl, if_pos rfl, decide_eq_true (show n ≥ s.lo from h2), decide_eq_true (show n <= s.hi from h3), if_neg (by simp), if_pos rfl]
 show (⟨Ig.red (Ig.clean ⟨s, ⟨true, 0, n⟩⟩), ⟨false, ofS []⟩⟩ : Vl) = _
 rw [e, r, ofS_nil]; rfl
theorem rs_num (op x y : Int) (w : Bool) : rsDo op (Cg.of 0 x) (Cg.of 0 y) w = if doE op y ≠ 0 then Cg.none else Cg.of 0 (doI op x y) := by
 unfold rsDo; rw [of_0, of_0, cl_0, cl_0]
 unfold rsDo0; rw [if_neg (by simp), if_pos ⟨rfl, rfl⟩]
theorem ints_num (n : Int) : intsB (numO n) = true := by rw [numO_eq]; unfold intsB; dsimp only; rw [nn_1]; rfl
theorem num_has (n : Int) : (Sp.of n n).has n = true := of_has.2 ⟨Int.le_refl _, Int.le_refl _⟩
theorem numV_num {op x y : Int} (ry : -9223372036854775808 <= y /\ y < 9223372036854775808) : numV op (numO x) (numO y) = if doE op y ≠ 0 then zeroV else numO (doI op x y) := by
 rw [nu_3 (ints_num x) (ints_num y)]
 show bothV (rkDo op (Sp.of x x) (Sp.of y y)) (rsDo op (Cg.of 0 x) (Cg.of 0 y) _) = _
 rw [rs_num]
 split
 . exact bo_2 rfl
 . rename_i he
   exact both_num (rk_sound (num_has x) (num_has y) ry (by omega))
theorem join_zz : Vl.join zeroV zeroV = zeroV := by
 have e : zeroV.of = zeroV := by show (⟨Ig.clean Ig.zero, ⟨false, ofS []⟩⟩ : Vl) = _; rw [ofS_nil]; rfl
 unfold Vl.join; rw [e]
 show (⟨_, ⟨false, ofS (ofS [] ++ ofS [])⟩⟩ : Vl) = _
 rw [ofS_nil, List.append_nil, ofS_nil]; rfl
theorem join_nz (n : Int) : Vl.join (numO n) zeroV = numO n := by
 have e : zeroV.of = zeroV := by show (⟨Ig.clean Ig.zero, ⟨false, ofS []⟩⟩ : Vl) = _; rw [ofS_nil]; rfl
 unfold Vl.join; rw [numO_of, e, numO_eq]
 show (⟨⟨Sp.join ⟨true, n, n⟩ ⟨false, 0, 0⟩, Cg.join ⟨true, 0, n⟩ ⟨false, 0, 0⟩⟩, ⟨false, ofS (ofS [] ++ ofS [])⟩⟩ : Vl) = _
 rw [ofS_nil, List.append_nil, ofS_nil, rc_join, cl_1]
 have e2 : Cg.join ⟨true, 0, n⟩ ⟨false, 0, 0⟩ = ⟨true, 0, n⟩ := by unfold Cg.join; rw [cl_0, if_neg (by simp), if_pos (by rfl)]
 rw [e2]
theorem calc_num {op x y : Int} (ry : -9223372036854775808 <= y /\ y < 9223372036854775808) (m : List ByteArray) : calcDo op (numO x) (numO y) m = if doE op y ≠ 0 then zeroV else numO (doI op x y) := by
 unfold calcDo
 rw [numO_of, numO_of, numV_num ry, pt_1 (by rfl)]
 split
 . exact join_zz
 . exact join_nz _
theorem Vl.eta' (v : Vl) : (⟨⟨⟨v.i.s.some, v.i.s.lo, v.i.s.hi⟩, ⟨v.i.c.some, v.i.c.m, v.i.c.r⟩⟩, ⟨v.t.null, v.t.names⟩⟩ : Vl) = v := rfl
abbrev LV1 : Vl := Vl.reduce ⟨⟨⟨true, 0, 10⟩, ⟨true, 1, 0⟩⟩, ⟨false, []⟩⟩
abbrev LV2 : Vl := Vl.reduce ⟨⟨⟨true, 5, 7⟩, ⟨true, 1, 0⟩⟩, ⟨false, []⟩⟩
theorem lvA (t1 t2 : Ns) : ((cmA 12 (Vl.of ⟨LV1.i, t1⟩) (Vl.of ⟨LV2.i, t2⟩)).i.s.some == true && ((cmA 12 (Vl.of ⟨LV1.i, t1⟩) (Vl.of ⟨LV2.i, t2⟩)).i.s.lo == 0 && ((cmA 12 (Vl.of ⟨LV1.i, t1⟩) (Vl.of ⟨LV2.i, t2⟩)).i.s.hi == 6 && true))) = true := by kernel_rfl
theorem lvB (t1 t2 : Ns) : ((cmB 12 (Vl.of ⟨LV1.i, t1⟩) (Vl.of ⟨LV2.i, t2⟩)).i.s.some == true && ((cmB 12 (Vl.of ⟨LV1.i, t1⟩) (Vl.of ⟨LV2.i, t2⟩)).i.s.lo == 5 && ((cmB 12 (Vl.of ⟨LV1.i, t1⟩) (Vl.of ⟨LV2.i, t2⟩)).i.s.hi == 7 && true))) = true := by kernel_rfl
theorem lvS : Vl.same (calcDo 10 (numO 1) (numO 2) []) (numO 3) = true := by
 rw [calc_num (by decide)]
 show Vl.same (numO 3) (numO 3) = true
 unfold Vl.same; rw [numO_of, show (numO 3).t.names = [] from rfl, ofS_nil]; rfl
theorem fold_num (n : Int) : (⟨⟨⟨(Sp.of n n).some, (Sp.of n n).lo, (Sp.of n n).hi⟩, ⟨(Cg.of 0 n).some, (Cg.of 0 n).m, (Cg.of 0 n).r⟩⟩, ⟨false, []⟩⟩ : Vl) = numO n := rfl
theorem fold_num2 (n : Int) : (⟨⟨Sp.of n n, Cg.of 0 n⟩, ⟨false, []⟩⟩ : Vl) = numO n := rfl
theorem gN_0 (f : Nat -> List DV) : gN 0 f = [] := rfl
theorem lvT : Vl.same (numO 3) (numO 3) = true := by have := lvS; rwa [calc_num (by decide)] at this
theorem lvC : calcDo 10 (numO 1) (numO 2) [] = numO 3 := by rw [calc_num (by decide)]; rfl
def FC9Lives : List Ar -> Option Rs
 | [] => some ⟨True, .va (.c (.d (bo (true)))), []⟩
 | _ => none
theorem fcC9Lives : FC Tryz.prog 25 FC9Lives := by
 intro xs pre r us h hp
 unfold FC9Lives at h
 split at h
 . cases h
   refine fcat tys_ok (l := [(59, ⟨[], FVInt⟩), (27, ⟨[], FN 1 FCRefineL⟩), (21, ⟨[], FN 1 FCDo⟩), (22, ⟨[], FVNum⟩), (28, ⟨[], FVSame⟩)]) ⟨fcVInt, fc_nil 1 fcCRefineL, fc_nil 1 fcCDo, fcVNum, fcVSame, trivial⟩ Tryz.func25 rfl (by kernel_rfl) true ?_
   have n1 : LV1.t.names.length * 16 <= 140737488351232 := by rw [red_t]; decide
   have n2 : LV2.t.names.length * 16 <= 140737488351232 := by rw [red_t]; decide
   have i1 := reduce_inR (v := ⟨⟨⟨true, 0, 10⟩, ⟨true, 1, 0⟩⟩, ⟨false, []⟩⟩) (by unfold Sp.inR; decide) (by unfold Cg.inR; decide)
   have i2 := reduce_inR (v := ⟨⟨⟨true, 5, 7⟩, ⟨true, 1, 0⟩⟩, ⟨false, []⟩⟩) (by unfold Sp.inR; decide) (by unfold Cg.inR; decide)
   repeat' (first | exact trivial | (with_reducible first | exact i1 | exact i2 | exact i1.1 | exact i1.2 | exact i2.1 | exact i2.2 | exact (fun h => absurd ((lvA _ _).symm.trans h) (by decide)) | exact (fun h => absurd ((lvB _ _).symm.trans h) (by decide))) | refine ⟨?_, ?_⟩ | intro _)
   all_goals first | (with_reducible first | apply qa | apply qb | apply qc | apply qd) | (conv => whnf)
   all_goals (try simp only [gN_lst, gN_0, fold_num, fold_num2, lvC, Vl.eta'] at *)
   all_goals first | decide | exact Nat.zero_le _ | exact n1 | exact n2 | exact Or.inl rfl | exact congrArg Value.bool lvT | (intro _ h; exact absurd h (Nat.not_lt_zero _)) | (exact absurd ‹_ < 0› (Nat.not_lt_zero _)) | (intro _ _; exact rfl) | exact rfl
 . cases h
theorem ez : Vl.exact zeroV zeroV = true := by unfold Vl.exact; rfl
theorem fold_z : (⟨⟨⟨false, 0, 0⟩, ⟨false, 0, 0⟩⟩, ⟨false, []⟩⟩ : Vl) = zeroV := rfl
theorem numO_s (n : Int) : (numO n).i.s = Sp.of n n := rfl
theorem numO_c (n : Int) : (numO n).i.c = ⟨true, 0, n⟩ := of_0 n
def FCalcExact : List Ar -> Option Rs
 | [.c (.d (.v (.int .i64 i0))), .c (.d (.v (.int .i64 i1))), .c (.d (.v (.int .i64 i2)))] => some ⟨(-9223372036854775808 <= i0 /\ i0 < 9223372036854775808) /\ (-9223372036854775808 <= i1 /\ i1 < 9223372036854775808) /\ (-9223372036854775808 <= i2 /\ i2 < 9223372036854775808), .va (.c (.d (bo (true)))), []⟩
 | _ => none
theorem fcCalcExact : FC Tryz.prog 4 FCalcExact := by
 intro xs pre r us h hp
 unfold FCalcExact at h
 split at h
 . rename_i i0 i1 i2
   cases h
   obtain ⟨hp0, hp1, hp2⟩ := hp
   refine fcat tys_ok (l := [(22, ⟨[], FVNum⟩), (21, ⟨[], FN 1 FCDo⟩), (23, ⟨[], FR2Do⟩), (24, ⟨[], FN 1 FRVExact⟩), (25, ⟨[], FC9Lives⟩), (26, ⟨[], FSMake⟩)]) ⟨fcVNum, fc_nil 1 fcCDo, fcR2Do, fc_nil 1 fcRVExact, fcC9Lives, fcSMake, trivial⟩ Tryz.func4 rfl (by kernel_rfl) true ?_
   cases he : (doE i0 i2 != 0)
   . have hen := congrArg Bool.not he; simp only [Bool.not_true, Bool.not_false] at hen
     have hc : calcDo i0 (numO i1) (numO i2) [] = numO (doI i0 i1 i2) := by rw [calc_num hp2, if_neg (by simpa using he)]
     have nI := doI_rng (op := i0) (b := i2) hp1
     have zI := zeroV_inR
     have oI := numO_inR nI
     have xI : (Sp.of i1 i1).inR /\ (Cg.of 0 i1).inR := numO_inR hp1
     have yI : (Sp.of i2 i2).inR /\ (Cg.of 0 i2).inR := numO_inR hp2
     unfold Sp.inR Cg.inR at zI oI xI yI
     repeat' (first | exact trivial | (with_reducible first | exact hp0 | exact hp1 | exact hp2 | exact nI | exact nI.1 | exact nI.2 | exact (fun h : false = true => absurd h (by decide)) | exact (fun h : true = false => absurd h (by decide)) | exact (fun h : (!false) = false => absurd h (by decide)) | exact (fun h : (!true) = true => absurd h (by decide)) | exact (fun h => absurd (he.symm.trans h) (by decide)) | exact (fun h => absurd (hen.symm.trans h) (by decide))) | refine ⟨?_, ?_⟩ | intro _)
     all_goals first | (with_reducible first | apply qa | apply qb | apply qc | apply qd) | (conv => whnf)
     all_goals (try simp only [gN_lst, gN_0, fold_num, fold_num2, fold_z, hc, Vl.eta', ez, numO_s, numO_c, beq_self_eq_true, Bool.and_true, Bool.true_eq_false, Bool.false_eq_true] at *)
     all_goals first | decide | exact Nat.zero_le _ | (intro _ h; exact absurd h (Nat.not_lt_zero _)) | (exact absurd ‹_ < 0› (Nat.not_lt_zero _)) | (with_reducible first | exact zI.1.1.1 | exact zI.1.1.2 | exact zI.1.2.1 | exact zI.1.2.2 | exact zI.2.1.1 | exact zI.2.1.2 | exact zI.2.2.1 | exact zI.2.2.2 | exact oI.1.1.1 | exact oI.1.1.2 | exact oI.1.2.1 | exact oI.1.2.2 | exact oI.2.1.1 | exact oI.2.1.2 | exact oI.2.2.1 | exact oI.2.2.2 | exact xI.1.1.1 | exact xI.1.1.2 | exact xI.1.2.1 | exact xI.1.2.2 | exact xI.2.1.1 | exact xI.2.1.2 | exact xI.2.2.1 | exact xI.2.2.2 | exact yI.1.1.1 | exact yI.1.1.2 | exact yI.1.2.1 | exact yI.1.2.2 | exact yI.2.1.1 | exact yI.2.1.2 | exact yI.2.2.1 | exact yI.2.2.2) | (intro _ _; exact rfl) | exact rfl
   . have hen := congrArg Bool.not he; simp only [Bool.not_true, Bool.not_false] at hen
     have hc : calcDo i0 (numO i1) (numO i2) [] = zeroV := by rw [calc_num hp2, if_pos (by simpa using he)]
     have nI := doI_rng (op := i0) (b := i2) hp1
     have zI := zeroV_inR
     have oI := numO_inR nI
     have xI : (Sp.of i1 i1).inR /\ (Cg.of 0 i1).inR := numO_inR hp1
     have yI : (Sp.of i2 i2).inR /\ (Cg.of 0 i2).inR := numO_inR hp2
     unfold Sp.inR Cg.inR at zI oI xI yI
     repeat' (first | exact trivial | (with_reducible first | exact hp0 | exact hp1 | exact hp2 | exact nI | exact nI.1 | exact nI.2 | exact (fun h : false = true => absurd h (by decide)) | exact (fun h : true = false => absurd h (by decide)) | exact (fun h : (!false) = false => absurd h (by decide)) | exact (fun h : (!true) = true => absurd h (by decide)) | exact (fun h => absurd (he.symm.trans h) (by decide)) | exact (fun h => absurd (hen.symm.trans h) (by decide))) | refine ⟨?_, ?_⟩ | intro _)
     all_goals first | (with_reducible first | apply qa | apply qb | apply qc | apply qd) | (conv => whnf)
     all_goals (try simp only [gN_lst, gN_0, fold_num, fold_num2, fold_z, hc, Vl.eta', ez, numO_s, numO_c, beq_self_eq_true, Bool.and_true, Bool.true_eq_false, Bool.false_eq_true] at *)
     all_goals first | decide | exact Nat.zero_le _ | (intro _ h; exact absurd h (Nat.not_lt_zero _)) | (exact absurd ‹_ < 0› (Nat.not_lt_zero _)) | (with_reducible first | exact zI.1.1.1 | exact zI.1.1.2 | exact zI.1.2.1 | exact zI.1.2.2 | exact zI.2.1.1 | exact zI.2.1.2 | exact zI.2.2.1 | exact zI.2.2.2 | exact oI.1.1.1 | exact oI.1.1.2 | exact oI.1.2.1 | exact oI.1.2.2 | exact oI.2.1.1 | exact oI.2.1.2 | exact oI.2.2.1 | exact oI.2.2.2 | exact xI.1.1.1 | exact xI.1.1.2 | exact xI.1.2.1 | exact xI.1.2.2 | exact xI.2.1.1 | exact xI.2.1.2 | exact xI.2.2.1 | exact xI.2.2.2 | exact yI.1.1.1 | exact yI.1.1.2 | exact yI.1.2.1 | exact yI.1.2.2 | exact yI.2.1.1 | exact yI.2.1.2 | exact yI.2.2.1 | exact yI.2.2.2) | (intro _ _; exact rfl) | exact rfl
 . cases h
end Go.Proofs.YtehpbhpmkhlldaaGreat
