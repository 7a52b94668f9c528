/- What is clean, got and set, in plain words. No condition. -/
import Derived.Test.YthkknkhpfffnbaaGreatS5
import Derived.Lib.Overlaps
set_option linter.all false
set_option maxHeartbeats 8000000
set_option maxRecDepth 100000
namespace Go.Proofs.YthkknkhpfffnbaaGreat
open Go.Sx
theorem lk_find (L : List Bd) (s : ByteArray) : lk L s = (L.find? fun b => decide (b.name = s)).map (·.v) := by
 induction L with
 | nil => rfl
 | cons x r ih =>
   rw [lk_cons, List.find?_cons]
   by_cases h : x.name = s
   . rw [if_pos h, decide_eq_true h]; rfl
   . rw [if_neg h, decide_eq_false h]; exact ih
theorem rget_lk (e : En) (s : ByteArray) : e.rget s = ((e.hold s).map Vl.rclean).getD Vl.zero := by
 unfold En.rget En.hold
 split
 . rw [lk_find]; cases List.find? (fun b => decide (b.name = s)) e.binds <;> rfl
 . rfl
theorem mem_names {e : En} {s : ByteArray} : s ∈ e.names ↔ (e.hold s).isSome = true := by
 unfold En.names En.hold
 split
 . rw [cleanS_mem, lk_isSome]
 . simp
theorem names_srt (e : En) : Srt e.names := by
 unfold En.names
 split
 . exact cleanS_srt _
 . exact srt_nil
theorem lk_fun (l : List ByteArray) (g : ByteArray -> Vl) (s : ByteArray) : lk (l.map fun n => ⟨n, g n⟩) s = if memS s l = true then some (g s) else none := by
 induction l with
 | nil => rfl
 | cons x r ih =>
   rw [List.map_cons, lk_cons, ih]
   by_cases h : x = s
   . subst h; rw [if_pos rfl, if_pos (memS_iff.2 List.mem_cons_self)]
   . rw [if_neg h]
     by_cases h2 : s ∈ r
     . rw [if_pos (memS_iff.2 h2), if_pos (memS_iff.2 (List.mem_cons_of_mem _ h2))]
     . rw [if_neg (fun h3 => h2 (memS_iff.1 h3)), if_neg]
       intro h3
       rcases List.mem_cons.1 (memS_iff.1 h3) with h4 | h4
       . exact h h4.symm
       . exact h2 h4
theorem rclean_ss (e : En) : SS e.rclean.binds := by
 unfold SS En.rclean
 rw [List.pairwise_map]
 exact names_srt e
theorem rclean_lk (e : En) (s : ByteArray) : lk e.rclean.binds s = (e.hold s).map Vl.rclean := by
 show lk (e.names.map fun n => ⟨n, e.rget n⟩) s = _
 rw [lk_fun]
 by_cases h : s ∈ e.names
 . rw [if_pos (memS_iff.2 h), rget_lk]
   have := mem_names.1 h
   cases hh : e.hold s with
   | none => rw [hh] at this; cases this
   | some v => rfl
 . rw [if_neg (fun h3 => h (memS_iff.1 h3))]
   have := mt mem_names.2 h
   cases hh : e.hold s with
   | none => rfl
   | some v => rw [hh] at this; exact absurd rfl this
theorem of_fun : Vl.of = Vl.rclean := funext of_rclean
theorem clean_rclean (e : En) : e.clean = e.rclean :=
 en_ext (eclean_live e) (clean_ss e) (rclean_ss e) fun s => by rw [clean_lk, rclean_lk, of_fun]
theorem low_split {D : List Bd} (h : SS D) (s : ByteArray) : (∀ b ∈ D.take (lowN D s), kS b.name < kS s) /\ ∀ b ∈ D.drop (lowN D s), ¬ kS b.name < kS s := by
 induction D with
 | nil => exact ⟨fun b hb => by simp at hb, fun b hb => by simp at hb⟩
 | cons x r ih =>
   have h1 := List.pairwise_cons.1 h
   obtain ⟨i1, i2⟩ := ih h1.2
   cases hc : ltB x ⟨s, Vl.zero⟩ with
   | true =>
     have e : lowN (x :: r) s = lowN r s + 1 := by unfold lowN; rw [List.countP_cons_of_pos (by exact hc)]
     rw [e, List.take_succ_cons, List.drop_succ_cons]
     refine ⟨fun b hb => ?_, i2⟩
     rcases List.mem_cons.1 hb with rfl | hb
     . exact ltB_iff.1 hc
     . exact i1 b hb
   | false =>
     have hx : ¬ kS x.name < kS s := ltB_iff'.1 hc
     have hr : ∀ b ∈ r, ¬ kS b.name < kS s := fun b hb hlt => hx (List.lt_trans (h1.1 b hb) hlt)
     have e : lowN (x :: r) s = 0 := by
      unfold lowN
      rw [List.countP_eq_zero]
      intro b hb
      rcases List.mem_cons.1 hb with rfl | hb
      . rw [hc]; exact Bool.false_ne_true
      . have := (ltB_iff' (a := b) (b := ⟨s, Vl.zero⟩)).2 (hr b hb)
        rw [this]; exact Bool.false_ne_true
     rw [e]
     refine ⟨fun b hb => by simp at hb, fun b hb => ?_⟩
     rcases List.mem_cons.1 hb with rfl | hb
     . exact hx
     . exact hr b hb
theorem found_iff {D : List Bd} {s : ByteArray} : foundN D s = true ↔ lowN D s < D.length /\ (atB D (lowN D s)).name = s := by
 unfold foundN
 rw [Bool.and_eq_true, decide_eq_true_eq, beq_iff_eq, cfL_eq]
 constructor
 . rintro ⟨h1, h2⟩; exact ⟨h1, kS_inj h2⟩
 . rintro ⟨h1, h2⟩; exact ⟨h1, by rw [h2]⟩
theorem split_at {D : List Bd} {i : Nat} (h : i < D.length) : D = D.take i ++ atB D i :: D.drop (i + 1) := by
 have hd : D.drop i = atB D i :: D.drop (i + 1) := by
  rw [List.drop_eq_getElem_cons h]
  congr 1
  unfold atB; rw [List.getD_eq_getElem?_getD, List.getElem?_eq_getElem h]; rfl
 rw [<- hd, List.take_append_drop]
theorem lk_take {D : List Bd} (h : SS D) (s : ByteArray) : lk (D.take (lowN D s)) s = none :=
 lk_none fun b hb e => by have := (low_split h s).1 b hb; rw [e] at this; exact List.lt_irrefl _ this
theorem lk_found {D : List Bd} (h : SS D) (s : ByteArray) : lk D s = if foundN D s = true then some (atB D (lowN D s)).v else none := by
 conv => lhs; rw [<- List.take_append_drop (lowN D s) D, lk_append, lk_take h]
 rw [Option.none_or]
 split
 . rename_i hf
   obtain ⟨h1, h2⟩ := found_iff.1 hf
   have e := split_at h1
   have hd : D.drop (lowN D s) = atB D (lowN D s) :: D.drop (lowN D s + 1) := by
    have := congrArg (List.drop (lowN D s)) e
    rw [List.drop_append_of_le_length (by rw [List.length_take]; omega)] at this
    rw [this, List.drop_eq_nil_of_le (by rw [List.length_take]; omega)]; rfl
   rw [hd, lk_cons, if_pos h2]
 . rename_i hf
   by_cases h1 : lowN D s < D.length
   . have e := split_at h1
     have hd : D.drop (lowN D s) = atB D (lowN D s) :: D.drop (lowN D s + 1) := by
      have := congrArg (List.drop (lowN D s)) e
      rw [List.drop_append_of_le_length (by rw [List.length_take]; omega)] at this
      rw [this, List.drop_eq_nil_of_le (by rw [List.length_take]; omega)]; rfl
     have hne : (atB D (lowN D s)).name ≠ s := fun h2 => hf (found_iff.2 ⟨h1, h2⟩)
     have hgt : ¬ kS (atB D (lowN D s)).name < kS s := (low_split h s).2 _ (by rw [hd]; exact List.mem_cons_self)
     have hlt : kS s < kS (atB D (lowN D s)).name := kS_tri hgt hne
     have hss : SS (D.drop (lowN D s)) := List.Pairwise.sublist (List.drop_sublist _ _) h
     rw [hd] at hss ⊢
     rw [lk_cons, if_neg hne, ss_head hss (List.lt_asymm hlt)]
   . rw [List.drop_eq_nil_of_le (by omega)]; rfl
theorem get_lk (e : En) (s : ByteArray) : e.get s = ((e.hold s).map Vl.of).getD Vl.zero := by
 unfold En.get
 have := lk_found (clean_ss e) s
 rw [clean_lk] at this
 rw [this]
 split <;> rfl
theorem get_rget (e : En) (s : ByteArray) : e.get s = e.rget s := by rw [get_lk, rget_lk, of_fun]
namespace En
def rleq (a b : En) : Bool := if a.live = true then ((a.names.all fun n => Vl.rleq (a.rget n) (b.rget n)) && b.live) else true
def bothS (a b : En) : List ByteArray := b.names.foldl putS a.names
def vop (op : Int) (l : List Int) (x y : Vl) : Vl := if op = 2 then Vl.rnarrow x y else if op = 1 then Vl.rwiden x y l else Vl.rjoin x y
def rop (op : Int) (a b : En) (l : List Int) : En :=
 if a.live = true then (if b.live = true then (if op = 2 then (if En.rleq b a = true then ⟨true, (bothS a b).map fun n => ⟨n, vop op l (a.rget n) (b.rget n)⟩⟩ else a.rclean) else ⟨true, (bothS a b).map fun n => ⟨n, vop op l (a.rget n) (b.rget n)⟩⟩)
  else if op = 2 then ⟨false, []⟩ else a.rclean) else b.rclean
end En
theorem rget_ok {e : En} (h : okL e.binds) (s : ByteArray) : okV (En.rget e s) := by
 rw [<- get_rget]; exact get_ok h s
theorem nbT {x : Bool} (h : (!x) = false) : x = true := by cases x; cases h; rfl
theorem nbF {x : Bool} (h : (!x) = true) : x = false := by cases x; rfl; cases h
theorem all_at {p : ByteArray -> Bool} {l : List ByteArray} (h : ∀ k, k < l.length -> p (atS l k) = true) : l.all p = true := by
 rw [List.all_eq_true]
 intro x hx
 obtain ⟨k, hk, e⟩ := List.mem_iff_getElem.1 hx
 have := h k hk
 unfold atS at this
 rw [List.getD_eq_getElem?_getD, List.getElem?_eq_getElem hk] at this
 rw [<- e]; exact this
theorem all_not {p : ByteArray -> Bool} {l : List ByteArray} {k : Nat} (hk : k < l.length) (h : p (atS l k) = false) : l.all p = false := by
 rw [List.all_eq_false]
 refine ⟨l[k], List.getElem_mem hk, ?_⟩
 unfold atS at h
 rw [List.getD_eq_getElem?_getD, List.getElem?_eq_getElem hk] at h
 rw [show l[k] = (some l[k]).getD ByteArray.empty from rfl, h]; exact Bool.false_ne_true
def FRELeq : List Ar -> Option Rs
 | [.agg [.d (.v (.bool e0)), .d (.lst 9 n0 f0)], .agg [.d (.v (.bool e1)), .d (.lst 9 n1 f1)]] => some ⟨(n0 <= 1099511627776 /\ RowsOk n0 f0) /\ (n1 <= 1099511627776 /\ RowsOk n1 f1), .va (.c (.d (bo (En.rleq (⟨e0, gBs n0 f0⟩ : En) (⟨e1, gBs n1 f1⟩ : En))))), []⟩
 | _ => none
theorem fcRELeq : FC Tryz.prog 42 FRELeq := by
 intro xs pre r us h hp
 unfold FRELeq at h
 split at h
 . rename_i e0 n0 f0 e1 n1 f1
   cases h
   obtain ⟨hp0, hp1⟩ := hp
   refine FCat.deep (ys := [.agg [.d (.v (.bool e0)), .d (.lst 9 n0 (rwB (gBs n0 f0)))], .agg [.d (.v (.bool e1)), .d (.lst 9 n1 (rwB (gBs n1 f1)))]]) ?_ ?_
   . repeat' (first | exact trivial | exact rfl | exact DvE.refl _ | refine ⟨?_, ?_⟩ | fail)
     all_goals first | first | exact canonB hp0.2.h | exact canonB hp1.2.h
   refine fcat tys_ok (l := [(66, ⟨[], FRNames⟩), (25, ⟨[], FRGet⟩), (83, ⟨[], FRVLeq⟩)]) ⟨fcRNames, fcRGet, fcRVLeq, trivial⟩ Tryz.func42 rfl (by kernel_rfl) true ?_
   have hn := hp0.1
   have hL := okL_rows hp0.2
   have hlen := gBs_length n0 f0
   generalize gBs n0 f0 = L at *
   clear hp0
   subst hlen
   have hrow := okL_row hL
   have hb := gBs_row L
   have hm := hp1.1
   have hM := okL_rows hp1.2
   have hlen1 := gBs_length n1 f1
   generalize gBs n1 f1 = M at *
   clear hp1
   subst hlen1
   have hrow1 := okL_row hM
   have hb1 := gBs_row M
   repeat' (first | exact trivial | refine ⟨?_, ?_⟩ | intro _)
   all_goals first | (with_reducible first | apply qa | apply qb | apply qc | apply qd) | (conv => whnf)
   all_goals first | exact hn | exact hrow | skip
   all_goals (simp only [hb, hb1] at *)
   . obtain rfl : e0 = false := by simpa using ‹(!e0) = true›
     rfl
   obtain rfl : e0 = true := by simpa using ‹(!e0) = false›
   have hnl := names_len ⟨true, L⟩
   have hset : En.rleq ⟨true, L⟩ ⟨e1, M⟩ = ((En.names ⟨true, L⟩).all (fun n => Vl.rleq (En.rget ⟨true, L⟩ n) (En.rget ⟨e1, M⟩ n)) && e1) := rfl
   generalize En.rleq ⟨true, L⟩ ⟨e1, M⟩ = R at *
   generalize hNL : En.names ⟨true, L⟩ = NL at *
   refine loop_ids tys_ok (l := [(66, ⟨[], FRNames⟩), (25, ⟨[], FRGet⟩), (83, ⟨[], FRVLeq⟩)]) ⟨fcRNames, fcRGet, fcRVLeq, trivial⟩ (by kernel_rfl) (X := Nat)
    (fun x => ⟨[(6, vx (.int .i64 x)), (5, .va (.c (.d (lst NL)))), (2, .va (.c (.own 0 0))), (3, .va (.c (.own 1 0)))], [(0, .cells [.d (bo true), .d (.lst 9 L.length (rwB L))]), (1, .cells [.d (bo e1), .d (.lst 9 M.length (rwB M))])], 2, 34⟩)
    (fun x => NL.length - x) (fun x => x <= NL.length /\ ∀ k, k < x -> Vl.rleq (En.rget ⟨true, L⟩ (atS NL k)) (En.rget ⟨e1, M⟩ (atS NL k)) = true) [] []
    (fun x _ _ => x + 1) (fun _ => [0, 1]) [0, 1] 0 0 0 ?_ ?_ ?_
   . exact ⟨Nat.zero_le _, fun k h => absurd h (Nat.not_lt_zero k)⟩
   . repeat' (first | exact trivial | exact rfl | (intro _ h; exact absurd h (Nat.not_lt_zero _)) | (intro _ _; exact rfl) | refine ⟨?_, ?_⟩ | fail)
   . rintro i ⟨k1, k2⟩
     rcases Nat.lt_or_ge i NL.length with hi | hi
     . have hne : decide ((i : Int) < (NL.length : Int)) = true := decide_eq_true (by omega)
       have ho1 := rget_ok (e := ⟨true, L⟩) hL (atS NL i)
       have ho2 := rget_ok (e := ⟨e1, M⟩) hM (atS NL i)
       have hq := ho1.2
       have hq2 := ho2.2
       simp only [Sp.inR, Cg.inR] at hq hq2
       have hal := @all_not (fun n => Vl.rleq (En.rget ⟨true, L⟩ n) (En.rget ⟨e1, M⟩ n)) NL i hi
       repeat' (first | exact trivial | (with_reducible exact (fun h => absurd (hne.symm.trans h) (by decide))) | refine ⟨?_, ?_⟩ | intro _)
       all_goals first | (with_reducible first | apply qa | apply qb | apply qc | apply qd) | (conv => whnf)
       all_goals (try simp only [Int.toNat_natCast, Nat.zero_add, gN_lst, hb, hb1, gBs_row] at *)
       all_goals first | omega | rfl | exact hn | exact hm | exact hrow | exact hrow1 | ((with_reducible show idsOk _ _ = true); rfl) | exact ho1.1.1 | exact ho2.1.1 | (exact congrArg (Value.int .i64) (by first | (rw [wI_id _ (by omega) (by omega)]; omega) | omega | (dsimp only; omega))) | skip
       all_goals first | (rw [hset, hal (by simpa using ‹(!Vl.rleq _ _) = true›)]; rfl) | (rename_i k hk _ hf; rcases Nat.lt_or_ge k i with hki | hki; exact k2 k hki; rw [show k = i by omega]; exact nbT hf)
     . have hne : decide ((i : Int) < (NL.length : Int)) = false := decide_eq_false (by omega)
       obtain rfl : i = NL.length := by omega
       repeat' (first | exact trivial | (with_reducible exact (fun h => absurd (hne.symm.trans h) (by decide))) | refine ⟨?_, ?_⟩ | intro _)
       all_goals first | (with_reducible first | apply qa | apply qb | apply qc | apply qd) | (conv => whnf)
       all_goals (rw [hset, all_at k2]; rfl)
 . cases h
theorem foldl_putS_len (l : List ByteArray) : ∀ s : List ByteArray, (l.foldl putS s).length <= s.length + l.length := by
 induction l with
 | nil => intro s; exact Nat.le_refl _
 | cons x r ih => intro s; have h1 := ih (putS s x); have h2 := putS_len s x; simp only [List.foldl_cons, List.length_cons]; omega
def btP (s l : List ByteArray) (i : Nat) : List ByteArray := (l.take i).foldl putS s
theorem btP_succ {s l : List ByteArray} {i : Nat} (h : i < l.length) : btP s l (i + 1) = putS (btP s l i) (atS l i) := by
 unfold btP
 rw [List.take_succ_eq_append_getElem h, List.foldl_append]
 unfold atS; rw [List.getD_eq_getElem?_getD, List.getElem?_eq_getElem h]; rfl
theorem btP_all (s l : List ByteArray) : btP s l l.length = l.foldl putS s := by unfold btP; rw [List.take_length]
theorem btP_len (s l : List ByteArray) (i : Nat) : (btP s l i).length <= s.length + i := by
 have := foldl_putS_len (l.take i) s
 unfold btP; rw [List.length_take] at this; omega
theorem both_len (a b : En) : (En.bothS a b).length <= a.binds.length + b.binds.length := by
 have h1 := foldl_putS_len b.names a.names
 have h2 := names_len a
 have h3 := names_len b
 unfold En.bothS; omega
def FRBoth : List Ar -> Option Rs
 | [.agg [.d (.v (.bool e0)), .d (.lst 9 n0 f0)], .agg [.d (.v (.bool e1)), .d (.lst 9 n1 f1)]] => some ⟨(n0 <= 1099511627776 /\ RowsOk n0 f0) /\ (n1 <= 1099511627776 /\ RowsOk n1 f1) /\ (n0 + n1 <= 1099511627776), .va (.c (.d (lst (En.bothS (⟨e0, gBs n0 f0⟩ : En) (⟨e1, gBs n1 f1⟩ : En))))), []⟩
 | _ => none
theorem fcRBoth : FC Tryz.prog 96 FRBoth := by
 intro xs pre r us h hp
 unfold FRBoth at h
 split at h
 . rename_i e0 n0 f0 e1 n1 f1
   cases h
   obtain ⟨hp0, hp1, hp2⟩ := hp
   refine FCat.deep (ys := [.agg [.d (.v (.bool e0)), .d (.lst 9 n0 (rwB (gBs n0 f0)))], .agg [.d (.v (.bool e1)), .d (.lst 9 n1 (rwB (gBs n1 f1)))]]) ?_ ?_
   . repeat' (first | exact trivial | exact rfl | exact DvE.refl _ | refine ⟨?_, ?_⟩ | fail)
     all_goals first | first | exact canonB hp0.2.h | exact canonB hp1.2.h
   refine fcat tys_ok (l := [(66, ⟨[], FRNames⟩), (120, ⟨[], FRPut⟩)]) ⟨fcRNames, fcRPut, trivial⟩ Tryz.func96 rfl (by kernel_rfl) true ?_
   have hn := hp0.1
   have hL := okL_rows hp0.2
   have hlen := gBs_length n0 f0
   generalize gBs n0 f0 = L at *
   clear hp0
   subst hlen
   have hrow := okL_row hL
   have hb := gBs_row L
   have hm := hp1.1
   have hM := okL_rows hp1.2
   have hlen1 := gBs_length n1 f1
   generalize gBs n1 f1 = M at *
   clear hp1
   subst hlen1
   have hrow1 := okL_row hM
   have hb1 := gBs_row M
   repeat' (first | exact trivial | refine ⟨?_, ?_⟩ | intro _)
   all_goals first | (with_reducible first | apply qa | apply qb | apply qc | apply qd) | (conv => whnf)
   all_goals first | exact hn | exact hrow | exact hm | exact hrow1 | skip
   all_goals (simp only [hb, hb1] at *)
   have hnl := names_len ⟨e0, L⟩
   have hnl2 := names_len ⟨e1, M⟩
   have hset : En.bothS ⟨e0, L⟩ ⟨e1, M⟩ = btP (En.names ⟨e0, L⟩) (En.names ⟨e1, M⟩) (En.names ⟨e1, M⟩).length := (btP_all _ _).symm
   generalize En.bothS ⟨e0, L⟩ ⟨e1, M⟩ = R at *
   generalize hNL : En.names ⟨e0, L⟩ = NL at *
   generalize hNM : En.names ⟨e1, M⟩ = NM at *
   have hnl3 : NL.length <= L.length := hnl
   have hnl4 : NM.length <= M.length := hnl2
   refine loop_ids tys_ok (l := [(66, ⟨[], FRNames⟩), (120, ⟨[], FRPut⟩)]) ⟨fcRNames, fcRPut, trivial⟩ (by kernel_rfl) (X := Nat × List ByteArray)
    (fun x => ⟨[(7, vx (.int .i64 x.1)), (5, .va (.c (.d (lst x.2)))), (6, .va (.c (.d (lst NM))))], [], 2, 25⟩)
    (fun x => NM.length - x.1) (fun x => x.1 <= NM.length /\ x.2 = btP NL NM x.1) [] []
    (fun x _ _ => (x.1 + 1, putS x.2 (atS NM x.1))) (fun _ => [0, 1]) [0, 1] 0 0 (0, NL) ?_ ?_ ?_
   . exact ⟨Nat.zero_le _, rfl⟩
   . repeat' (first | exact trivial | exact rfl | (intro _ h; exact absurd h (Nat.not_lt_zero _)) | (intro _ _; exact rfl) | refine ⟨?_, ?_⟩ | fail)
   . rintro ⟨i, l⟩ ⟨k1, k2⟩
     dsimp only at k1 k2
     have k3 := btP_len NL NM i
     rw [<- k2] at k3
     rcases Nat.lt_or_ge i NM.length with hi | hi
     . have hne : decide ((i : Int) < (NM.length : Int)) = true := decide_eq_true (by omega)
       have k5 := btP_succ (s := NL) hi
       rw [<- k2] at k5
       repeat' (first | exact trivial | (with_reducible exact (fun h => absurd (hne.symm.trans h) (by decide))) | refine ⟨?_, ?_⟩ | intro _)
       all_goals first | (with_reducible first | apply qa | apply qb | apply qc | apply qd) | (conv => whnf)
       all_goals (try simp only [Int.toNat_natCast, Nat.zero_add, gN_lst] at *)
       all_goals first | omega | rfl | ((with_reducible show idsOk _ _ = true); rfl) | exact k5.symm | (exact congrArg (Value.int .i64) (by first | (rw [wI_id _ (by omega) (by omega)]; omega) | omega | (dsimp only; omega)))
     . have hne : decide ((i : Int) < (NM.length : Int)) = false := decide_eq_false (by omega)
       obtain rfl : i = NM.length := by omega
       subst k2
       repeat' (first | exact trivial | (with_reducible exact (fun h => absurd (hne.symm.trans h) (by decide))) | refine ⟨?_, ?_⟩ | intro _)
       all_goals first | (with_reducible first | apply qa | apply qb | apply qc | apply qd) | (conv => whnf)
       all_goals (try rw [hset])
       all_goals first | rfl
 . cases h
theorem rget_mem (e : En) (s : ByteArray) : (∃ y ∈ e.binds, (En.rget e s).t.names.length <= y.v.t.names.length) \/ En.rget e s = Vl.zero := by
 rw [rget_lk]
 cases hh : e.hold s with
 | none => exact .inr rfl
 | some v =>
   left
   unfold En.hold at hh
   split at hh
   . refine ⟨⟨s, v⟩, lk_mem hh, ?_⟩
     show (Vl.rclean v).t.names.length <= v.t.names.length
     rw [<- of_rclean, of_names]; exact ofS_len _
   . cases hh
theorem rget_qj {a b : En} (h : Room a.binds b.binds) (s : ByteArray) : QJ (En.rget a s) (En.rget b s) := by
 unfold QJ
 rcases rget_mem a s with ⟨x, hx, e1⟩ | e1
 . rcases rget_mem b s with ⟨y, hy, e2⟩ | e2
   . have := h.both x hx y hy; unfold QJ at this; omega
   . have := h.left x hx; unfold QJ at this; rw [e2]; omega
 . rcases rget_mem b s with ⟨y, hy, e2⟩ | e2
   . have := h.right y hy; unfold QJ at this; rw [e1]; omega
   . rw [e1, e2]; decide
theorem okV_rj {x y : Vl} (hx : okV x) (hy : okV y) (hq : QJ x y) : okV (Vl.rjoin x y) := by
 have h := hx; have h' := hy
 unfold okV at hx hy
 refine ⟨⟨?_, fun _ _ => rfl⟩, ?_⟩
 . show (Vl.rjoin x y).t.names.length * 16 <= 140737488351232
   unfold Vl.rjoin
   have h1 : (cleanS (cleanS x.t.names ++ cleanS y.t.names)).length <= x.t.names.length + y.t.names.length := by
    have a1 := ofS_len (cleanS x.t.names ++ cleanS y.t.names)
    have a2 := ofS_len x.t.names
    have a3 := ofS_len y.t.names
    rw [ofS_eq] at a1 a2 a3
    rw [List.length_append] at a1; omega
   unfold QJ at hq
   dsimp only; omega
 . rw [<- Vl.join_eq]
   have hxi := Vl.of_inR (v := x) ⟨hx.2.1, hx.2.2⟩
   have hyi := Vl.of_inR (v := y) ⟨hy.2.1, hy.2.2⟩
   exact ⟨Sp.join_inR hxi.1 hyi.1, Cg.join_inR hxi.2 hyi.2⟩
theorem okV_rw {x y : Vl} {l : List Int} (hx : okV x) (hy : okV y) (hq : QJ x y) (hl : ∀ z, z ∈ l -> rI z) : okV (Vl.rwiden x y l) := by
 have hj := okV_rj hx hy hq
 unfold okV at hx hy hj
 have hxi := Vl.of_inR (v := x) ⟨hx.2.1, hx.2.2⟩
 have hyi := Vl.of_inR (v := y) ⟨hy.2.1, hy.2.2⟩
 rw [<- widen_eq]
 rw [<- Vl.join_eq] at hj
 exact ⟨⟨hj.1.1, fun _ _ => rfl⟩, Sp.widen_inR hxi.1 hyi.1 hl, Cg.join_inR hxi.2 hyi.2⟩
theorem okV_rn {x y : Vl} (hx : okV x) (hy : okV y) : okV (Vl.rnarrow x y) := by
 have h := okV_of hx
 unfold okV at hx hy h
 have hxi := Vl.of_inR (v := x) ⟨hx.2.1, hx.2.2⟩
 have hyi := Vl.of_inR (v := y) ⟨hy.2.1, hy.2.2⟩
 rw [<- narrow_eq, Vl.narrow_cases]
 split
 . exact okV_of (by unfold okV; exact hx)
 . split
   . exact okV_zero
   . refine ⟨⟨h.1.1, fun _ _ => rfl⟩, ?_⟩
     refine Ig.clean_inR (Sp.narrow_inR hxi.1 hyi.1) ?_
     split
     . exact hyi.2
     . exact hxi.2
theorem vop_join {op : Int} {l : List Int} {x y : Vl} (h1 : (op == 1) = false) (h2 : (op == 2) = false) : En.vop op l x y = Vl.rjoin x y := by
 unfold En.vop; rw [if_neg (by simpa using h2), if_neg (by simpa using h1)]
theorem vop_widen {op : Int} {l : List Int} {x y : Vl} (h1 : (op == 1) = true) (h2 : (op == 2) = false) : En.vop op l x y = Vl.rwiden x y l := by
 unfold En.vop; rw [if_neg (by simpa using h2), if_pos (by simpa using h1)]
theorem vop_narrow {op : Int} {l : List Int} {x y : Vl} (h2 : (op == 2) = true) : En.vop op l x y = Vl.rnarrow x y := by
 unfold En.vop; rw [if_pos (by simpa using h2)]
theorem rop_loop {op : Int} {a b : En} {l : List Int} (ha : a.live = true) (hb : b.live = true) (h : (op == 2) = true -> En.rleq b a = true) : En.rop op a b l = ⟨true, (En.bothS a b).map fun n => ⟨n, En.vop op l (a.rget n) (b.rget n)⟩⟩ := by
 unfold En.rop
 rw [if_pos ha, if_pos hb]
 split
 . rename_i h2; rw [if_pos (h (by simpa using h2))]
 . rfl
theorem row_gen {L : List Bd} {BL : List Bd} {i k : Nat} {g : Nat -> List DV} (hg : g 0 = bdC (atB BL i)) (hk : k < i + 1) : appRow i (rwB BL) g k = rwB BL k := by
 unfold appRow
 split
 . rfl
 . rw [show k = i by omega, Nat.sub_self, hg]
def FROp : List Ar -> Option Rs
 | [.c (.d (.v (.int .i64 i0))), .agg [.d (.v (.bool e1)), .d (.lst 9 n1 f1)], .agg [.d (.v (.bool e2)), .d (.lst 9 n2 f2)], .c (.d (.lst 1 n3 f3))] => some ⟨(-9223372036854775808 <= i0 /\ i0 < 9223372036854775808) /\ (n1 <= 1099511627776 /\ RowsOk n1 f1) /\ (n2 <= 1099511627776 /\ RowsOk n2 f2) /\ (n3 <= 9223372036854775807 /\ ∀ i, i < n3 -> f3 i = [it (gI (f3 i))] /\ rI (gI (f3 i))) /\ (Room (gBs n1 f1) (gBs n2 f2) /\ n1 + n2 <= 1099511627776), .va (En.ar (En.rop i0 (⟨e1, gBs n1 f1⟩ : En) (⟨e2, gBs n2 f2⟩ : En) (gL n3 f3))), []⟩
 | _ => none
abbrev sl6S : List (Nat × Sm) := [(20, ⟨[], FREClean⟩), (42, ⟨[], FRELeq⟩), (96, ⟨[], FRBoth⟩), (25, ⟨[], FRGet⟩), (97, ⟨[], FRVJoin⟩), (98, ⟨[], FRVWiden⟩), (99, ⟨[], FRVNarrow⟩)]
theorem sp6S : sumsOk Tryz.prog sl6S := ⟨fcREClean, fcRELeq, fcRBoth, fcRGet, fcRVJoin, fcRVWiden, fcRVNarrow, trivial⟩
theorem fcROp : FC Tryz.prog 45 FROp := by
 intro xs pre r us h hp
 unfold FROp at h
 split at h
 . rename_i i0 e1 n1 f1 e2 n2 f2 n3 f3
   cases h
   obtain ⟨hp0, hp1, hp2, hp3, hp4⟩ := hp
   refine FCat.deep (ys := [.c (.d (.v (.int .i64 i0))), .agg [.d (.v (.bool e1)), .d (.lst 9 n1 (rwB (gBs n1 f1)))], .agg [.d (.v (.bool e2)), .d (.lst 9 n2 (rwB (gBs n2 f2)))], .c (.d (.lst 1 n3 fun i => [it (gI (f3 i))]))]) ?_ ?_
   . repeat' (first | exact trivial | exact rfl | exact DvE.refl _ | refine ⟨?_, ?_⟩ | fail)
     all_goals first | first | exact canonB hp1.2.h | exact canonB hp2.2.h | (exact .rows fun i hi => by rw [(hp3.2 i hi).1]; exact ⟨rfl, fun j a b ha hb => by have hb : [it (gI (f3 i))][j]? = some b := hb; rw [ha] at hb; cases hb; exact .refl _⟩)
   refine fcat tys_ok (l := sl6S) sp6S Tryz.func45 rfl (by kernel_rfl) true ?_
   obtain ⟨hroom, hsum⟩ := hp4
   have hn := hp1.1
   have hL := okL_rows hp1.2
   have hlen := gBs_length n1 f1
   generalize gBs n1 f1 = L at *
   clear hp1
   subst hlen
   have hrow := okL_row hL
   have hb := gBs_row L
   have hm := hp2.1
   have hM := okL_rows hp2.2
   have hlen1 := gBs_length n2 f2
   generalize gBs n2 f2 = M at *
   clear hp2
   subst hlen1
   have hrow1 := okL_row hM
   have hb1 := gBs_row M
   cases e1 with
   | false =>
     have hset : En.rop i0 ⟨false, L⟩ ⟨e2, M⟩ (gL n3 f3) = En.rclean ⟨e2, M⟩ := by
      unfold En.rop
      rw [if_neg Bool.false_ne_true]
     generalize En.rop i0 ⟨false, L⟩ ⟨e2, M⟩ (gL n3 f3) = R at *
     subst hset
     repeat' (first | exact trivial | (with_reducible first | exact (fun h => absurd (h : (!true) = true) (by decide)) | exact (fun h => absurd (h : (!false) = false) (by decide))) | refine ⟨?_, ?_⟩ | intro _)
     all_goals first | (with_reducible first | apply qa | apply qb | apply qc | apply qd) | (conv => whnf)
     all_goals (try simp only [gBs_row] at *)
     all_goals first | exact hn | exact hrow | exact hm | exact hrow1 | exact ⟨hn, hrow⟩ | exact ⟨hm, hrow1⟩ | rfl
   | true =>
     cases h2 : (i0 == 2) with
     | true =>
       cases e2 with
       | false =>
         have hset : En.rop i0 ⟨true, L⟩ ⟨false, M⟩ (gL n3 f3) = ⟨false, []⟩ := by
          unfold En.rop
          rw [if_pos rfl, if_neg Bool.false_ne_true, if_pos (by simpa using h2)]
         generalize En.rop i0 ⟨true, L⟩ ⟨false, M⟩ (gL n3 f3) = R at *
         subst hset
         repeat' (first | exact trivial | (with_reducible first | exact (fun h => absurd (h2.symm.trans h) (by decide)) | exact (fun h => absurd (h : (!true) = true) (by decide)) | exact (fun h => absurd (h : (!false) = false) (by decide))) | refine ⟨?_, ?_⟩ | intro _)
         all_goals first | (with_reducible first | apply qa | apply qb | apply qc | apply qd) | (conv => whnf)
         all_goals (try simp only [gBs_row] at *)
         all_goals first | exact hn | exact hrow | exact hm | exact hrow1 | exact ⟨hn, hrow⟩ | exact ⟨hm, hrow1⟩ | rfl
       | true =>
         cases hq : En.rleq ⟨true, M⟩ ⟨true, L⟩ with
         | false =>
           have hq' : (!En.rleq ⟨true, gBs M.length (rwB M)⟩ ⟨true, gBs L.length (rwB L)⟩) = true := by rw [gBs_row, gBs_row, hq]; rfl
           have hset : En.rop i0 ⟨true, L⟩ ⟨true, M⟩ (gL n3 f3) = En.rclean ⟨true, L⟩ := by
            unfold En.rop
            rw [if_pos rfl, if_pos rfl, if_pos (by simpa using h2), hq, if_neg Bool.false_ne_true]
           generalize En.rop i0 ⟨true, L⟩ ⟨true, M⟩ (gL n3 f3) = R at *
           subst hset
           repeat' (first | exact trivial | (with_reducible first | exact (fun h => absurd (h2.symm.trans h) (by decide)) | exact (fun h => absurd (hq'.symm.trans h) (by decide)) | exact (fun h => absurd (h : (!true) = true) (by decide)) | exact (fun h => absurd (h : (!false) = false) (by decide))) | refine ⟨?_, ?_⟩ | intro _)
           all_goals first | (with_reducible first | apply qa | apply qb | apply qc | apply qd) | (conv => whnf)
           all_goals (try simp only [gBs_row] at *)
           all_goals first | exact hn | exact hrow | exact hm | exact hrow1 | exact ⟨hn, hrow⟩ | exact ⟨hm, hrow1⟩ | rfl
         | true =>
           have hq' : (!En.rleq ⟨true, gBs M.length (rwB M)⟩ ⟨true, gBs L.length (rwB L)⟩) = false := by rw [gBs_row, gBs_row, hq]; rfl
           repeat' (first | exact trivial | (with_reducible first | exact (fun h => absurd (h2.symm.trans h) (by decide)) | exact (fun h => absurd (hq'.symm.trans h) (by decide)) | exact (fun h => absurd (h : (!true) = true) (by decide)) | exact (fun h => absurd (h : (!false) = false) (by decide))) | refine ⟨?_, ?_⟩ | intro _)
           all_goals first | (with_reducible first | apply qa | apply qb | apply qc | apply qd) | (conv => whnf)
           all_goals (try simp only [gBs_row] at *)
           all_goals first | exact hn | exact hrow | exact hm | exact hrow1 | exact ⟨hn, hrow⟩ | exact ⟨hm, hrow1⟩ | exact hsum | skip
           have hbl := both_len ⟨true, L⟩ ⟨true, M⟩
           have hrl := rop_loop (op := i0) (a := ⟨true, L⟩) (b := ⟨true, M⟩) (l := gL n3 f3) rfl rfl (fun _ => hq)
           generalize En.rop i0 ⟨true, L⟩ ⟨true, M⟩ (gL n3 f3) = R at *
           subst hrl
           generalize hNL : En.bothS ⟨true, L⟩ ⟨true, M⟩ = NL at *
           generalize hBL : (NL.map fun n => (⟨n, En.vop i0 (gL n3 f3) (En.rget ⟨true, L⟩ n) (En.rget ⟨true, M⟩ n)⟩ : Bd)) = BL at *
           have hBl : BL.length = NL.length := by rw [<- hBL, List.length_map]
           have hBa : ∀ i, i < NL.length -> atB BL i = ⟨atS NL i, En.vop i0 (gL n3 f3) (En.rget ⟨true, L⟩ (atS NL i)) (En.rget ⟨true, M⟩ (atS NL i))⟩ := by
            intro i hi
            rw [<- hBL]
            unfold atB atS
            simp [List.getD_eq_getElem?_getD, hi]
           refine loop_ids tys_ok (l := sl6S) sp6S (by kernel_rfl) (X := Nat)
            (fun x => ⟨[(11, vx (.int .i64 x)), (10, .va (.c (.d (lst NL)))), (0, vx (.int .i64 i0)), (3, .va (.c (.d (.lst 1 n3 fun i => [it (gI (f3 i))])))), (5, .va (.c (.own 0 0))), (6, .va (.c (.own 1 0))), (8, .va (.c (.own 2 0))), (9, .va (.c (.own 3 0)))], [(0, .cells [.d (bo true), .d (.lst 9 L.length (rwB L))]), (1, .cells [.d (bo true), .d (.lst 9 M.length (rwB M))]), (2, .cells [.d (bo false), .d (.v (.slice none 0 0))]), (3, .cells [.d (bo true), .osl 4 9 0 x]), (4, .row 9 x (rwB BL))], 5, 91⟩)
            (fun x => NL.length - x) (fun x => x <= NL.length) [88] []
            (fun x _ _ => x + 1) (fun xs => match xs with | [t] => [0, 1, 2, 3, oI t] | _ => []) [0, 1, 2, 3] 0 1 0 ?_ ?_ ?_
           . exact Nat.zero_le _
           . repeat' (first | exact trivial | exact rfl | (intro _ h; exact absurd h (Nat.not_lt_zero _)) | (intro _ _; exact rfl) | refine ⟨?_, ?_⟩ | fail)
             all_goals first | (simp; done)
           . rintro i k1
             rcases Nat.lt_or_ge i NL.length with hi | hi
             . have hne : decide ((i : Int) < (NL.length : Int)) = true := decide_eq_true (by omega)
               have ho1 := rget_ok (e := ⟨true, L⟩) hL (atS NL i)
               have ho2 := rget_ok (e := ⟨true, M⟩) hM (atS NL i)
               have hq := ho1.2
               have hq2 := ho2.2
               have hqj := rget_qj (a := ⟨true, L⟩) (b := ⟨true, M⟩) hroom (atS NL i)
               have hrow2 := @row_gen L BL i
               rw [hBa i hi, vop_narrow h2] at hrow2
               simp only [Sp.inR, Cg.inR] at hq hq2
               have hres := okV_rn ho1 ho2
               unfold okV at ho1 ho2
               repeat' (first | exact trivial | (with_reducible first | exact (fun h => absurd (hne.symm.trans h) (by decide)) | exact (fun h => absurd (h2.symm.trans h) (by decide)) | exact (fun h => absurd (hq'.symm.trans h) (by decide))) | refine ⟨?_, ?_⟩ | intro _)
               all_goals first | (with_reducible first | apply qa | apply qb | apply qc | apply qd) | (conv => whnf)
               all_goals (try simp only [Int.toNat_natCast, Nat.zero_add, gN_lst, hb, hb1, gBs_row] at *)
               all_goals first | omega | rfl | exact hn | exact hm | exact hrow | exact hrow1 | ((with_reducible show idsOk _ _ = true); rfl) | exact ho1.1.1 | exact ho2.1.1 | (exact congrArg (Value.int .i64) (by first | (rw [wI_id _ (by omega) (by omega)]; omega) | omega | (dsimp only; omega))) | exact hp3.2 | exact hp3.1 | exact (hp3.2 _ ‹_ < n3›).2.1 | exact (hp3.2 _ ‹_ < n3›).2.2 | exact hqj | exact hrow2 rfl ‹_›
             . have hne : decide ((i : Int) < (NL.length : Int)) = false := decide_eq_false (by omega)
               obtain rfl : i = NL.length := by omega
               repeat' (first | exact trivial | (with_reducible exact (fun h => absurd (hne.symm.trans h) (by decide))) | refine ⟨?_, ?_⟩ | intro _)
               all_goals first | (with_reducible first | apply qa | apply qb | apply qc | apply qd) | (conv => whnf)
               all_goals first | rfl | omega | exact hBl.symm | (rename_i k _; show rwB BL (0 + k) = rwB BL k; rw [Nat.zero_add])
     | false =>
       cases e2 with
       | false =>
         have hset : En.rop i0 ⟨true, L⟩ ⟨false, M⟩ (gL n3 f3) = En.rclean ⟨true, L⟩ := by
          unfold En.rop
          rw [if_pos rfl, if_neg Bool.false_ne_true, if_neg (by simpa using h2)]
         generalize En.rop i0 ⟨true, L⟩ ⟨false, M⟩ (gL n3 f3) = R at *
         subst hset
         repeat' (first | exact trivial | (with_reducible first | exact (fun h => absurd (h2.symm.trans h) (by decide)) | exact (fun h => absurd (h : (!true) = true) (by decide)) | exact (fun h => absurd (h : (!false) = false) (by decide))) | refine ⟨?_, ?_⟩ | intro _)
         all_goals first | (with_reducible first | apply qa | apply qb | apply qc | apply qd) | (conv => whnf)
         all_goals (try simp only [gBs_row] at *)
         all_goals first | exact hn | exact hrow | exact hm | exact hrow1 | exact ⟨hn, hrow⟩ | exact ⟨hm, hrow1⟩ | rfl
       | true =>
         cases h1 : (i0 == 1) with
         | true =>
           repeat' (first | exact trivial | (with_reducible first | exact (fun h => absurd (h1.symm.trans h) (by decide)) | exact (fun h => absurd (h2.symm.trans h) (by decide)) | exact (fun h => absurd (h : (!true) = true) (by decide)) | exact (fun h => absurd (h : (!false) = false) (by decide))) | refine ⟨?_, ?_⟩ | intro _)
           all_goals first | (with_reducible first | apply qa | apply qb | apply qc | apply qd) | (conv => whnf)
           all_goals (try simp only [gBs_row] at *)
           all_goals first | exact hn | exact hrow | exact hm | exact hrow1 | exact ⟨hn, hrow⟩ | exact ⟨hm, hrow1⟩ | exact hsum | skip
           have hbl := both_len ⟨true, L⟩ ⟨true, M⟩
           have hrl := rop_loop (op := i0) (a := ⟨true, L⟩) (b := ⟨true, M⟩) (l := gL n3 f3) rfl rfl (fun h => absurd (h2.symm.trans h) (by decide))
           generalize En.rop i0 ⟨true, L⟩ ⟨true, M⟩ (gL n3 f3) = R at *
           subst hrl
           generalize hNL : En.bothS ⟨true, L⟩ ⟨true, M⟩ = NL at *
           generalize hBL : (NL.map fun n => (⟨n, En.vop i0 (gL n3 f3) (En.rget ⟨true, L⟩ n) (En.rget ⟨true, M⟩ n)⟩ : Bd)) = BL at *
           have hBl : BL.length = NL.length := by rw [<- hBL, List.length_map]
           have hBa : ∀ i, i < NL.length -> atB BL i = ⟨atS NL i, En.vop i0 (gL n3 f3) (En.rget ⟨true, L⟩ (atS NL i)) (En.rget ⟨true, M⟩ (atS NL i))⟩ := by
            intro i hi
            rw [<- hBL]
            unfold atB atS
            simp [List.getD_eq_getElem?_getD, hi]
           refine loop_ids tys_ok (l := sl6S) sp6S (by kernel_rfl) (X := Nat)
            (fun x => ⟨[(11, vx (.int .i64 x)), (10, .va (.c (.d (lst NL)))), (0, vx (.int .i64 i0)), (3, .va (.c (.d (.lst 1 n3 fun i => [it (gI (f3 i))])))), (5, .va (.c (.own 0 0))), (6, .va (.c (.own 1 0))), (8, .va (.c (.own 2 0))), (9, .va (.c (.own 3 0)))], [(0, .cells [.d (bo true), .d (.lst 9 L.length (rwB L))]), (1, .cells [.d (bo true), .d (.lst 9 M.length (rwB M))]), (2, .cells [.d (bo false), .d (.v (.slice none 0 0))]), (3, .cells [.d (bo true), .osl 4 9 0 x]), (4, .row 9 x (rwB BL))], 5, 91⟩)
            (fun x => NL.length - x) (fun x => x <= NL.length) [88] []
            (fun x _ _ => x + 1) (fun xs => match xs with | [t] => [0, 1, 2, 3, oI t] | _ => []) [0, 1, 2, 3] 0 1 0 ?_ ?_ ?_
           . exact Nat.zero_le _
           . repeat' (first | exact trivial | exact rfl | (intro _ h; exact absurd h (Nat.not_lt_zero _)) | (intro _ _; exact rfl) | refine ⟨?_, ?_⟩ | fail)
             all_goals first | (simp; done)
           . rintro i k1
             rcases Nat.lt_or_ge i NL.length with hi | hi
             . have hne : decide ((i : Int) < (NL.length : Int)) = true := decide_eq_true (by omega)
               have ho1 := rget_ok (e := ⟨true, L⟩) hL (atS NL i)
               have ho2 := rget_ok (e := ⟨true, M⟩) hM (atS NL i)
               have hq := ho1.2
               have hq2 := ho2.2
               have hqj := rget_qj (a := ⟨true, L⟩) (b := ⟨true, M⟩) hroom (atS NL i)
               have hrow2 := @row_gen L BL i
               rw [hBa i hi, vop_widen h1 h2] at hrow2
               simp only [Sp.inR, Cg.inR] at hq hq2
               have hres := okV_rw (l := gL n3 f3) ho1 ho2 hqj (fun z hz => gL_r hp3.2 z hz)
               unfold okV at ho1 ho2
               repeat' (first | exact trivial | (with_reducible first | exact (fun h => absurd (hne.symm.trans h) (by decide)) | exact (fun h => absurd (h1.symm.trans h) (by decide)) | exact (fun h => absurd (h2.symm.trans h) (by decide))) | refine ⟨?_, ?_⟩ | intro _)
               all_goals first | (with_reducible first | apply qa | apply qb | apply qc | apply qd) | (conv => whnf)
               all_goals (try simp only [Int.toNat_natCast, Nat.zero_add, gN_lst, hb, hb1, gBs_row] at *)
               all_goals first | omega | rfl | exact hn | exact hm | exact hrow | exact hrow1 | ((with_reducible show idsOk _ _ = true); rfl) | exact ho1.1.1 | exact ho2.1.1 | (exact congrArg (Value.int .i64) (by first | (rw [wI_id _ (by omega) (by omega)]; omega) | omega | (dsimp only; omega))) | exact hp3.2 | exact hp3.1 | exact (hp3.2 _ ‹_ < n3›).2.1 | exact (hp3.2 _ ‹_ < n3›).2.2 | exact hqj | exact hrow2 rfl ‹_›
             . have hne : decide ((i : Int) < (NL.length : Int)) = false := decide_eq_false (by omega)
               obtain rfl : i = NL.length := by omega
               repeat' (first | exact trivial | (with_reducible exact (fun h => absurd (hne.symm.trans h) (by decide))) | refine ⟨?_, ?_⟩ | intro _)
               all_goals first | (with_reducible first | apply qa | apply qb | apply qc | apply qd) | (conv => whnf)
               all_goals first | rfl | omega | exact hBl.symm | (rename_i k _; show rwB BL (0 + k) = rwB BL k; rw [Nat.zero_add])
         | false =>
           repeat' (first | exact trivial | (with_reducible first | exact (fun h => absurd (h1.symm.trans h) (by decide)) | exact (fun h => absurd (h2.symm.trans h) (by decide)) | exact (fun h => absurd (h : (!true) = true) (by decide)) | exact (fun h => absurd (h : (!false) = false) (by decide))) | refine ⟨?_, ?_⟩ | intro _)
           all_goals first | (with_reducible first | apply qa | apply qb | apply qc | apply qd) | (conv => whnf)
           all_goals (try simp only [gBs_row] at *)
           all_goals first | exact hn | exact hrow | exact hm | exact hrow1 | exact ⟨hn, hrow⟩ | exact ⟨hm, hrow1⟩ | exact hsum | skip
           have hbl := both_len ⟨true, L⟩ ⟨true, M⟩
           have hrl := rop_loop (op := i0) (a := ⟨true, L⟩) (b := ⟨true, M⟩) (l := gL n3 f3) rfl rfl (fun h => absurd (h2.symm.trans h) (by decide))
           generalize En.rop i0 ⟨true, L⟩ ⟨true, M⟩ (gL n3 f3) = R at *
           subst hrl
           generalize hNL : En.bothS ⟨true, L⟩ ⟨true, M⟩ = NL at *
           generalize hBL : (NL.map fun n => (⟨n, En.vop i0 (gL n3 f3) (En.rget ⟨true, L⟩ n) (En.rget ⟨true, M⟩ n)⟩ : Bd)) = BL at *
           have hBl : BL.length = NL.length := by rw [<- hBL, List.length_map]
           have hBa : ∀ i, i < NL.length -> atB BL i = ⟨atS NL i, En.vop i0 (gL n3 f3) (En.rget ⟨true, L⟩ (atS NL i)) (En.rget ⟨true, M⟩ (atS NL i))⟩ := by
            intro i hi
            rw [<- hBL]
            unfold atB atS
            simp [List.getD_eq_getElem?_getD, hi]
           refine loop_ids tys_ok (l := sl6S) sp6S (by kernel_rfl) (X := Nat)
            (fun x => ⟨[(11, vx (.int .i64 x)), (10, .va (.c (.d (lst NL)))), (0, vx (.int .i64 i0)), (3, .va (.c (.d (.lst 1 n3 fun i => [it (gI (f3 i))])))), (5, .va (.c (.own 0 0))), (6, .va (.c (.own 1 0))), (8, .va (.c (.own 2 0))), (9, .va (.c (.own 3 0)))], [(0, .cells [.d (bo true), .d (.lst 9 L.length (rwB L))]), (1, .cells [.d (bo true), .d (.lst 9 M.length (rwB M))]), (2, .cells [.d (bo false), .d (.v (.slice none 0 0))]), (3, .cells [.d (bo true), .osl 4 9 0 x]), (4, .row 9 x (rwB BL))], 5, 91⟩)
            (fun x => NL.length - x) (fun x => x <= NL.length) [88] []
            (fun x _ _ => x + 1) (fun xs => match xs with | [t] => [0, 1, 2, 3, oI t] | _ => []) [0, 1, 2, 3] 0 1 0 ?_ ?_ ?_
           . exact Nat.zero_le _
           . repeat' (first | exact trivial | exact rfl | (intro _ h; exact absurd h (Nat.not_lt_zero _)) | (intro _ _; exact rfl) | refine ⟨?_, ?_⟩ | fail)
             all_goals first | (simp; done)
           . rintro i k1
             rcases Nat.lt_or_ge i NL.length with hi | hi
             . have hne : decide ((i : Int) < (NL.length : Int)) = true := decide_eq_true (by omega)
               have ho1 := rget_ok (e := ⟨true, L⟩) hL (atS NL i)
               have ho2 := rget_ok (e := ⟨true, M⟩) hM (atS NL i)
               have hq := ho1.2
               have hq2 := ho2.2
               have hqj := rget_qj (a := ⟨true, L⟩) (b := ⟨true, M⟩) hroom (atS NL i)
               have hrow2 := @row_gen L BL i
               rw [hBa i hi, vop_join h1 h2] at hrow2
               simp only [Sp.inR, Cg.inR] at hq hq2
               have hres := okV_rj ho1 ho2 hqj
               unfold okV at ho1 ho2
               repeat' (first | exact trivial | (with_reducible first | exact (fun h => absurd (hne.symm.trans h) (by decide)) | exact (fun h => absurd (h1.symm.trans h) (by decide)) | exact (fun h => absurd (h2.symm.trans h) (by decide))) | refine ⟨?_, ?_⟩ | intro _)
               all_goals first | (with_reducible first | apply qa | apply qb | apply qc | apply qd) | (conv => whnf)
               all_goals (try simp only [Int.toNat_natCast, Nat.zero_add, gN_lst, hb, hb1, gBs_row] at *)
               all_goals first | omega | rfl | exact hn | exact hm | exact hrow | exact hrow1 | ((with_reducible show idsOk _ _ = true); rfl) | exact ho1.1.1 | exact ho2.1.1 | (exact congrArg (Value.int .i64) (by first | (rw [wI_id _ (by omega) (by omega)]; omega) | omega | (dsimp only; omega))) | exact hp3.2 | exact hp3.1 | exact (hp3.2 _ ‹_ < n3›).2.1 | exact (hp3.2 _ ‹_ < n3›).2.2 | exact hqj | exact hrow2 rfl ‹_›
             . have hne : decide ((i : Int) < (NL.length : Int)) = false := decide_eq_false (by omega)
               obtain rfl : i = NL.length := by omega
               repeat' (first | exact trivial | (with_reducible exact (fun h => absurd (hne.symm.trans h) (by decide))) | refine ⟨?_, ?_⟩ | intro _)
               all_goals first | (with_reducible first | apply qa | apply qb | apply qc | apply qd) | (conv => whnf)
               all_goals first | rfl | omega | exact hBl.symm | (rename_i k _; show rwB BL (0 + k) = rwB BL k; rw [Nat.zero_add])
 . cases h
def zipV (op : Vl -> Vl -> Vl) : Option Vl -> Option Vl -> Option Vl
 | none, none => none
 | some x, none => some (op x Vl.zero)
 | none, some y => some (op Vl.zero y)
 | some x, some y => some (op x y)
theorem lk_lt {x y : Bd} {r : List Bd} {s : ByteArray} (h : SS (y :: r)) (hxy : ltB x y = true) (e : x.name = s) : lk (y :: r) s = none := by
 subst e
 have hlt := ltB_iff.1 hxy
 refine lk_none fun b hb e => ?_
 rcases List.mem_cons.1 hb with rfl | hb
 . rw [e] at hlt; exact List.lt_irrefl _ hlt
 . have := List.lt_trans hlt ((List.pairwise_cons.1 h).1 b hb)
   rw [e] at this; exact List.lt_irrefl _ this
theorem lk_mrg {op : Vl -> Vl -> Vl} : ∀ {A B : List Bd}, SS A -> SS B -> ∀ s, lk (mrg op A B) s = zipV op (lk A s) (lk B s)
 | [], [], _, _, s => by rw [mrg]; rfl
 | [], y :: b, hA, hB, s => by
   rw [mrg, lk_cons, lk_cons, lk_nil, lk_mrg hA (List.pairwise_cons.1 hB).2]
   split
   . rfl
   . rw [lk_nil]
 | x :: a, [], hA, hB, s => by
   rw [mrg, lk_cons, lk_cons, lk_nil, lk_mrg (List.pairwise_cons.1 hA).2 hB]
   split
   . rfl
   . rw [lk_nil]
 | x :: a, y :: b, hA, hB, s => by
   have hA2 := (List.pairwise_cons.1 hA).2
   have hB2 := (List.pairwise_cons.1 hB).2
   rw [mrg]
   split
   . rename_i h1
     rw [lk_cons, lk_mrg hA2 hB, lk_cons x]
     by_cases e : x.name = s
     . rw [if_pos e, if_pos e, lk_lt hB h1 e]; rfl
     . rw [if_neg e, if_neg e]
   . split
     . rename_i h1 h2
       rw [lk_cons, lk_mrg hA hB2, lk_cons y]
       by_cases e : y.name = s
       . rw [if_pos e, if_pos e, lk_lt hA h2 e]; rfl
       . rw [if_neg e, if_neg e]
     . rename_i h1 h2
       have e0 := (cf_eq (by simpa using h1) (by simpa using h2)).2
       rw [lk_cons, lk_mrg hA2 hB2, lk_cons x, lk_cons y, <- e0]
       by_cases e : x.name = s
       . rw [if_pos e, if_pos e, if_pos e]; rfl
       . rw [if_neg e, if_neg e, if_neg e]
termination_by A B => A.length + B.length
theorem mrg_names {op : Vl -> Vl -> Vl} : ∀ {A B : List Bd} {b : Bd}, b ∈ mrg op A B -> (∃ x ∈ A, x.name = b.name) \/ ∃ y ∈ B, y.name = b.name
 | [], [], b, h => by rw [mrg] at h; cases h
 | [], y :: r, b, h => by
   rw [mrg] at h
   rcases List.mem_cons.1 h with rfl | h
   . exact .inr ⟨y, List.mem_cons_self, rfl⟩
   . rcases mrg_names h with h | ⟨z, hz, e⟩
     . exact .inl h
     . exact .inr ⟨z, List.mem_cons_of_mem _ hz, e⟩
 | x :: r, [], b, h => by
   rw [mrg] at h
   rcases List.mem_cons.1 h with rfl | h
   . exact .inl ⟨x, List.mem_cons_self, rfl⟩
   . rcases mrg_names h with ⟨z, hz, e⟩ | h
     . exact .inl ⟨z, List.mem_cons_of_mem _ hz, e⟩
     . exact .inr h
 | x :: r, y :: q, b, h => by
   rw [mrg] at h
   split at h
   . rcases List.mem_cons.1 h with rfl | h
     . exact .inl ⟨x, List.mem_cons_self, rfl⟩
     . rcases mrg_names h with ⟨z, hz, e⟩ | h
       . exact .inl ⟨z, List.mem_cons_of_mem _ hz, e⟩
       . exact .inr h
   . split at h
     . rcases List.mem_cons.1 h with rfl | h
       . exact .inr ⟨y, List.mem_cons_self, rfl⟩
       . rcases mrg_names h with h | ⟨z, hz, e⟩
         . exact .inl h
         . exact .inr ⟨z, List.mem_cons_of_mem _ hz, e⟩
     . rcases List.mem_cons.1 h with rfl | h
       . exact .inl ⟨x, List.mem_cons_self, rfl⟩
       . rcases mrg_names h with ⟨z, hz, e⟩ | ⟨z, hz, e⟩
         . exact .inl ⟨z, List.mem_cons_of_mem _ hz, e⟩
         . exact .inr ⟨z, List.mem_cons_of_mem _ hz, e⟩
termination_by A B => A.length + B.length
theorem ss_mrg {op : Vl -> Vl -> Vl} : ∀ {A B : List Bd}, SS A -> SS B -> SS (mrg op A B)
 | [], [], _, _ => by rw [mrg]; exact List.Pairwise.nil
 | [], y :: b, hA, hB => by
   have hB' := List.pairwise_cons.1 hB
   rw [mrg]
   refine List.pairwise_cons.2 ⟨fun z hz => ?_, ss_mrg hA hB'.2⟩
   rcases mrg_names hz with ⟨w, hw, _⟩ | ⟨w, hw, e⟩
   . cases hw
   . rw [<- e]; exact hB'.1 w hw
 | x :: a, [], hA, hB => by
   have hA' := List.pairwise_cons.1 hA
   rw [mrg]
   refine List.pairwise_cons.2 ⟨fun z hz => ?_, ss_mrg hA'.2 hB⟩
   rcases mrg_names hz with ⟨w, hw, e⟩ | ⟨w, hw, _⟩
   . rw [<- e]; exact hA'.1 w hw
   . cases hw
 | x :: a, y :: b, hA, hB => by
   have hA' := List.pairwise_cons.1 hA
   have hB' := List.pairwise_cons.1 hB
   rw [mrg]
   split
   . rename_i h1
     have h1 := ltB_iff.1 h1
     refine List.pairwise_cons.2 ⟨fun z hz => ?_, ss_mrg hA'.2 hB⟩
     rcases mrg_names hz with ⟨w, hw, e⟩ | ⟨w, hw, e⟩
     . rw [<- e]; exact hA'.1 w hw
     . rw [<- e]
       rcases List.mem_cons.1 hw with rfl | hw
       . exact h1
       . exact List.lt_trans h1 (hB'.1 w hw)
   . split
     . rename_i _ h1
       have h1 := ltB_iff.1 h1
       refine List.pairwise_cons.2 ⟨fun z hz => ?_, ss_mrg hA hB'.2⟩
       rcases mrg_names hz with ⟨w, hw, e⟩ | ⟨w, hw, e⟩
       . rw [<- e]
         rcases List.mem_cons.1 hw with rfl | hw
         . exact h1
         . exact List.lt_trans h1 (hA'.1 w hw)
       . rw [<- e]; exact hB'.1 w hw
     . rename_i h1 h2
       have e0 := (cf_eq (by simpa using h1) (by simpa using h2)).2
       refine List.pairwise_cons.2 ⟨fun z hz => ?_, ss_mrg hA'.2 hB'.2⟩
       rcases mrg_names hz with ⟨w, hw, e⟩ | ⟨w, hw, e⟩
       . rw [<- e]; exact hA'.1 w hw
       . rw [<- e]; show kS x.name < _; rw [e0]; exact hB'.1 w hw
termination_by A B => A.length + B.length
theorem mrg_len {op : Vl -> Vl -> Vl} : ∀ (A B : List Bd), (mrg op A B).length <= A.length + B.length
 | [], [] => by rw [mrg]; exact Nat.le_refl _
 | [], y :: b => by have := mrg_len (op := op) [] b; rw [mrg]; simp only [List.length_cons] at *; omega
 | x :: a, [] => by have := mrg_len (op := op) a []; rw [mrg]; simp only [List.length_cons] at *; omega
 | x :: a, y :: b => by
   rw [mrg]
   split
   . have := mrg_len (op := op) a (y :: b); simp only [List.length_cons] at *; omega
   . split
     . have := mrg_len (op := op) (x :: a) b; simp only [List.length_cons] at *; omega
     . have := mrg_len (op := op) a b; simp only [List.length_cons] at *; omega
termination_by A B => A.length + B.length
theorem both_facts (a b : En) : Srt (En.bothS a b) /\ ∀ z, z ∈ En.bothS a b ↔ z ∈ a.names \/ z ∈ b.names := cleanS_fold b.names a.names (names_srt a)
theorem of_zero : Vl.of Vl.zero = Vl.zero := Vl.of_fix Vl.zero_tidy
theorem get_rg (e : En) (s : ByteArray) : En.rget e s = En.get e s := (get_rget e s).symm
theorem get_tidy (e : En) (s : ByteArray) : (En.get e s).tidy := by
 rw [get_lk]
 cases e.hold s with
 | none => exact Vl.zero_tidy
 | some v => exact Vl.of_tidy v
theorem get_of (e : En) (s : ByteArray) : (En.get e s).of = En.get e s := Vl.of_fix (get_tidy e s)
theorem hold_clean (e : En) (s : ByteArray) : e.clean.hold s = (e.hold s).map Vl.of := by
 have h1 := clean_lk e s
 unfold En.hold
 rw [eclean_live]
 split
 . rename_i hl
   rw [h1]; unfold En.hold; rw [if_pos hl]
 . rfl
theorem get_clean (e : En) (s : ByteArray) : En.get e.clean s = En.get e s := by
 rw [get_lk, get_lk, hold_clean]
 cases e.hold s with
 | none => rfl
 | some v => show v.of.of = v.of; exact Vl.of_of v
structure En.tidy (e : En) : Prop where
 s : SS e.binds
 v : ∀ x ∈ e.binds, x.v.tidy
 dead : e.live = false -> e.binds = []
theorem clean_tidyE (e : En) : e.clean.tidy where
 s := clean_ss e
 v x hx := by
  unfold En.clean at hx
  split at hx
  . obtain ⟨b, _, rfl⟩ := List.mem_map.1 hx; exact Vl.of_tidy _
  . cases hx
 dead h := by
  unfold En.clean at h ⊢
  split
  . rename_i hl; rw [if_pos hl] at h; cases h
  . rfl
theorem hold_tidy {e : En} (h : e.tidy) {s : ByteArray} {v : Vl} (hv : e.hold s = some v) : v.of = v := by
 unfold En.hold at hv
 split at hv
 . exact Vl.of_fix (h.v _ (lk_mem hv))
 . cases hv
theorem clean_fixE {e : En} (h : e.tidy) : e.clean = e := by
 refine en_ext (eclean_live e) (clean_ss e) h.s fun s => ?_
 rw [clean_lk]
 cases hh : e.hold s with
 | none =>
   unfold En.hold at hh
   split at hh
   . rw [hh]; rfl
   . rename_i hl
     rw [h.dead (by simpa using hl)]; rfl
 | some v =>
   have := hold_tidy h hh
   show some v.of = _
   rw [this]
   unfold En.hold at hh
   split at hh
   . exact hh.symm
   . cases hh
def En.zipE (op : Vl -> Vl -> Vl) (a b : En) : En := ⟨true, mrg op a.clean.binds b.clean.binds⟩
structure OpOk (op : Vl -> Vl -> Vl) : Prop where
 tidy : ∀ x y, x.tidy -> y.tidy -> (op x y).tidy
 zero : op Vl.zero Vl.zero = Vl.zero
theorem zip_lk {op : Vl -> Vl -> Vl} (a b : En) (s : ByteArray) : lk (En.zipE op a b).binds s = zipV op ((a.hold s).map Vl.of) ((b.hold s).map Vl.of) := by
 show lk (mrg op a.clean.binds b.clean.binds) s = _
 rw [lk_mrg (clean_ss a) (clean_ss b), clean_lk, clean_lk]
theorem zip_val {op : Vl -> Vl -> Vl} (h : OpOk op) (a b : En) (x : Bd) (hx : x ∈ (En.zipE op a b).binds) : x.v.tidy := by
 have hs : SS (En.zipE op a b).binds := ss_mrg (clean_ss a) (clean_ss b)
 have := lk_of_mem hs hx
 rw [zip_lk] at this
 cases h1 : (a.hold x.name).map Vl.of with
 | none =>
   rw [h1] at this
   cases h2 : (b.hold x.name).map Vl.of with
   | none => rw [h2] at this; cases this
   | some w =>
     rw [h2] at this
     obtain ⟨w', _, rfl⟩ := Option.map_eq_some_iff.1 h2
     have := Option.some.inj this
     rw [<- this]; exact h.tidy _ _ Vl.zero_tidy (Vl.of_tidy _)
 | some v =>
   rw [h1] at this
   obtain ⟨v', _, rfl⟩ := Option.map_eq_some_iff.1 h1
   cases h2 : (b.hold x.name).map Vl.of with
   | none =>
     rw [h2] at this
     have := Option.some.inj this
     rw [<- this]; exact h.tidy _ _ (Vl.of_tidy _) Vl.zero_tidy
   | some w =>
     rw [h2] at this
     obtain ⟨w', _, rfl⟩ := Option.map_eq_some_iff.1 h2
     have := Option.some.inj this
     rw [<- this]; exact h.tidy _ _ (Vl.of_tidy _) (Vl.of_tidy _)
theorem zip_tidy {op : Vl -> Vl -> Vl} (h : OpOk op) (a b : En) : (En.zipE op a b).tidy where
 s := ss_mrg (clean_ss a) (clean_ss b)
 v := zip_val h a b
 dead h := by cases h
theorem zip_get {op : Vl -> Vl -> Vl} (h : OpOk op) (a b : En) (s : ByteArray) : En.get (En.zipE op a b) s = op (En.get a s) (En.get b s) := by
 have e : (En.zipE op a b).hold s = zipV op ((a.hold s).map Vl.of) ((b.hold s).map Vl.of) := by
  show (if true = true then lk (En.zipE op a b).binds s else none) = _
  rw [if_pos rfl, zip_lk]
 rw [get_lk, get_lk a, get_lk b, e]
 have o0 := of_zero
 cases a.hold s with
 | none =>
   cases b.hold s with
   | none => exact h.zero.symm
   | some w => exact Vl.of_fix (h.tidy _ _ Vl.zero_tidy (Vl.of_tidy _))
 | some v =>
   cases b.hold s with
   | none => exact Vl.of_fix (h.tidy _ _ (Vl.of_tidy _) Vl.zero_tidy)
   | some w => exact Vl.of_fix (h.tidy _ _ (Vl.of_tidy _) (Vl.of_tidy _))
theorem zip_ref {op rop : Vl -> Vl -> Vl} (h : ∀ x y, op x y = rop x y) (a b : En) : En.zipE op a b = ⟨true, (En.bothS a b).map fun n => ⟨n, rop (a.rget n) (b.rget n)⟩⟩ := by
 obtain ⟨h1, h2⟩ := both_facts a b
 refine en_ext rfl (ss_mrg (clean_ss a) (clean_ss b)) ?_ fun s => ?_
 . unfold SS
   show List.Pairwise _ (List.map _ _)
   rw [List.pairwise_map]
   exact h1
 . rw [zip_lk]
   show _ = lk ((En.bothS a b).map fun n => ⟨n, rop (a.rget n) (b.rget n)⟩) s
   rw [lk_fun (En.bothS a b) (fun n => rop (a.rget n) (b.rget n)) s, rget_lk, rget_lk, <- of_fun]
   have ha := mem_names (e := a) (s := s)
   have hb := mem_names (e := b) (s := s)
   have hm := h2 s
   cases hx : a.hold s with
   | none =>
     rw [hx] at ha
     cases hy : b.hold s with
     | none =>
       rw [hy] at hb
       rw [if_neg]
       . rfl
       . intro h3
         rcases hm.1 (memS_iff.1 h3) with h4 | h4
         . exact absurd (ha.1 h4) (by decide)
         . exact absurd (hb.1 h4) (by decide)
     | some w =>
       rw [hy] at hb
       rw [if_pos (memS_iff.2 (hm.2 (.inr (hb.2 rfl))))]
       exact congrArg some (h _ _)
   | some v =>
     rw [hx] at ha
     rw [if_pos (memS_iff.2 (hm.2 (.inl (ha.2 rfl))))]
     cases hy : b.hold s with
     | none => exact congrArg some (h _ _)
     | some w => exact congrArg some (h _ _)
theorem join_case (a b : En) : En.join a b = if a.live = true then (if b.live = true then En.zipE Vl.join a b else a.clean) else b.clean := by
 unfold En.join; rw [eclean_live, eclean_live]; rfl
theorem leq_rleq (a b : En) : En.leq a b = En.rleq a b := by
 unfold En.leq En.rleq
 rw [eclean_live, eclean_live]
 split
 . split
   . rename_i hb
     rw [hb, Bool.and_true, clean_rclean]
     show List.all (List.map _ _) _ = _
     rw [List.all_map]
     congr 1
     funext n
     show Vl.leq (a.rget n) (En.get b.clean n) = Vl.rleq (a.rget n) (b.rget n)
     rw [get_clean, leq_eq, get_rget]
     have e : ∀ e : En, (e.rget n).rclean = e.rget n := fun e => by rw [get_rg, <- of_fun, get_of]
     rw [e, e]
   . rename_i hb
     have hb : b.live = false := by simpa using hb
     rw [hb, Bool.and_false]
 . rfl
theorem join_rop (a b : En) (l : List Int) : En.join a b = En.rop 0 a b l := by
 rw [join_case]; unfold En.rop
 rw [clean_rclean, clean_rclean, if_neg (show ¬ (0 : Int) = 2 by decide), if_neg (show ¬ (0 : Int) = 2 by decide)]
 rw [zip_ref (rop := En.vop 0 l) (fun x y => by unfold En.vop; rw [if_neg (by decide), if_neg (by decide)]; exact Vl.join_eq x y)]
theorem leqE_iff (a b : En) : En.leq a b = true ↔ (a.live = true -> b.live = true /\ ∀ s, Vl.leq (a.get s) (b.get s) = true) := by
 unfold En.leq
 rw [eclean_live, eclean_live]
 split
 . rename_i ha
   split
   . rename_i hb
     rw [List.all_eq_true]
     constructor
     . intro h _
       refine ⟨hb, fun s => ?_⟩
       have hg : a.get s = ((lk a.clean.binds s)).getD Vl.zero := by rw [get_lk, clean_lk]
       cases hl : lk a.clean.binds s with
       | none => rw [hg, hl]; exact Vl.l3_zero _
       | some v =>
         have := h _ (lk_mem hl)
         rw [get_clean] at this
         rw [hg, hl]; exact this
     . intro h x hx
       have := (h ha).2 x.name
       have hg : a.get x.name = ((lk a.clean.binds x.name)).getD Vl.zero := by rw [get_lk, clean_lk]
       rw [hg, lk_of_mem (clean_ss a) hx] at this
       rw [get_clean]; exact this
   . rename_i hb
     constructor
     . intro h; cases h
     . intro h; exact absurd (h ha).1 hb
 . rename_i ha
   exact ⟨fun _ h => absurd h ha, fun _ => rfl⟩
theorem zero_join (x : Vl) (h : x.tidy) : Vl.join Vl.zero x = x /\ Vl.join x Vl.zero = x := by
 have key : Vl.join Vl.zero x = x := by
  unfold Vl.join
  rw [Vl.of_fix Vl.zero_tidy, Vl.of_fix h]
  have e1 : Vl.zero.i.c.join x.i.c = x.i.c := join_no1 rfl (tidy_c h.i)
  have e2 : Vl.zero.i.s.join x.i.s = x.i.s := by
   show x.i.s.clean = x.i.s
   rcases h.i with e | ⟨⟨a1, _⟩, a3, _⟩
   . rw [e]; rfl
   . unfold Sp.clean Sp.none; rw [a1, if_neg]; simp; omega
  have e3 : ofS (ofS Vl.zero.t.names ++ ofS x.t.names) = x.t.names := by
   show ofS (ofS [] ++ ofS x.t.names) = _
   rw [ofS_eq, ofS_eq, ofS_eq, cleanS_fix h.t]
   exact cleanS_fix h.t
  rw [e1, e2, e3]; rfl
 exact ⟨key, by rw [Vl.l3_comm]; exact key⟩
theorem opJ : OpOk Vl.join := ⟨fun x y _ _ => Vl.jn_tidy x y, (zero_join _ Vl.zero_tidy).1⟩
theorem get_dead {e : En} (h : e.live = false) (s : ByteArray) : e.get s = Vl.zero := by
 rw [get_lk]; unfold En.hold; rw [if_neg (by rw [h]; exact Bool.false_ne_true)]; rfl
theorem join_get (a b : En) (s : ByteArray) : (En.join a b).get s = Vl.join (a.get s) (b.get s) := by
 rw [join_case]
 split
 . split
   . exact zip_get opJ a b s
   . rename_i hb
     rw [get_clean, get_dead (e := b) (by simpa using hb), (zero_join _ (get_tidy a s)).2]
 . rename_i ha
   rw [get_clean, get_dead (e := a) (by simpa using ha), (zero_join _ (get_tidy b s)).1]
theorem join_live (a b : En) : (En.join a b).live = (a.live || b.live) := by
 rw [join_case]
 cases ha : a.live <;> cases hb : b.live <;> simp [eclean_live, ha, hb, En.zipE]
theorem join_tidyE (a b : En) : (En.join a b).tidy := by
 rw [join_case]
 split
 . split
   . exact zip_tidy opJ a b
   . exact clean_tidyE a
 . exact clean_tidyE b
theorem en_get_ext {a b : En} (ha : a.tidy) (hb : b.tidy) (hl : a.live = b.live) (hs : ∀ s, lk a.binds s = lk b.binds s) : a = b := en_ext hl ha.s hb.s hs
theorem join_commE (a b : En) : En.join a b = En.join b a := by
 refine en_get_ext (join_tidyE a b) (join_tidyE b a) (by rw [join_live, join_live, Bool.or_comm]) fun s => ?_
 rw [join_case, join_case]
 cases ha : a.live <;> cases hb : b.live
 . simp only [Bool.false_eq_true, if_false]
   rw [clean_lk, clean_lk]; unfold En.hold; rw [ha, hb]; rfl
 . rfl
 . rfl
 . simp only [if_true]
   rw [zip_lk, zip_lk]
   cases a.hold s <;> cases b.hold s <;> first | rfl | exact congrArg some (Vl.l3_comm _ _)
theorem leqE_trans {a b c : En} (h1 : En.leq a b = true) (h2 : En.leq b c = true) : En.leq a c = true := by
 rw [leqE_iff] at *
 intro h
 obtain ⟨hb, g1⟩ := h1 h
 obtain ⟨hc, g2⟩ := h2 hb
 exact ⟨hc, fun s => Vl.l3_trans (g1 s) (g2 s)⟩
theorem leqE_join1 (a b : En) : En.leq a (En.join a b) = true := by
 rw [leqE_iff]
 intro h
 refine ⟨by rw [join_live, h]; rfl, fun s => ?_⟩
 rw [join_get]; exact Vl.l3_join1 _ _
theorem leqE_dead {a b : En} (h : a.live = false) : En.leq a b = true := (leqE_iff a b).2 fun h2 => by rw [h] at h2; cases h2
abbrev numV (n : Int) : Vl := ⟨⟨Sp.of n n, Cg.of 0 n⟩, ⟨false, gN 0 fun _ => []⟩⟩
theorem num_of_i (n : Int) : (numV n).of.i = ⟨⟨true, n, n⟩, ⟨true, 0, n⟩⟩ := by
 rw [of_rclean]
 show Ig.clean ⟨Sp.of n n, Cg.of 0 n⟩ = _
 rw [one_eq]
 exact tidy_fix (one_tidy n)
theorem mrg_mem {op : Vl -> Vl -> Vl} : ∀ {A B : List Bd} {b : Bd}, b ∈ mrg op A B -> (∃ x ∈ A, b.v = op x.v Vl.zero) \/ (∃ y ∈ B, b.v = op Vl.zero y.v) \/ ∃ x ∈ A, ∃ y ∈ B, b.v = op x.v y.v
 | [], [], b, h => by rw [mrg] at h; cases h
 | [], y :: r, b, h => by
   rw [mrg] at h
   rcases List.mem_cons.1 h with rfl | h
   . exact .inr (.inl ⟨y, List.mem_cons_self, rfl⟩)
   . rcases mrg_mem h with ⟨x, hx, _⟩ | ⟨z, hz, e⟩ | ⟨x, hx, _⟩
     . cases hx
     . exact .inr (.inl ⟨z, List.mem_cons_of_mem _ hz, e⟩)
     . cases hx
 | x :: r, [], b, h => by
   rw [mrg] at h
   rcases List.mem_cons.1 h with rfl | h
   . exact .inl ⟨x, List.mem_cons_self, rfl⟩
   . rcases mrg_mem h with ⟨z, hz, e⟩ | ⟨z, hz, _⟩ | ⟨_, _, z, hz, _⟩
     . exact .inl ⟨z, List.mem_cons_of_mem _ hz, e⟩
     . cases hz
     . cases hz
 | x :: r, y :: q, b, h => by
   rw [mrg] at h
   split at h
   . rcases List.mem_cons.1 h with rfl | h
     . exact .inl ⟨x, List.mem_cons_self, rfl⟩
     . rcases mrg_mem h with ⟨z, hz, e⟩ | h | ⟨z, hz, w, hw, e⟩
       . exact .inl ⟨z, List.mem_cons_of_mem _ hz, e⟩
       . exact .inr (.inl h)
       . exact .inr (.inr ⟨z, List.mem_cons_of_mem _ hz, w, hw, e⟩)
   . split at h
     . rcases List.mem_cons.1 h with rfl | h
       . exact .inr (.inl ⟨y, List.mem_cons_self, rfl⟩)
       . rcases mrg_mem h with h | ⟨z, hz, e⟩ | ⟨z, hz, w, hw, e⟩
         . exact .inl h
         . exact .inr (.inl ⟨z, List.mem_cons_of_mem _ hz, e⟩)
         . exact .inr (.inr ⟨z, hz, w, List.mem_cons_of_mem _ hw, e⟩)
     . rcases List.mem_cons.1 h with rfl | h
       . exact .inr (.inr ⟨x, List.mem_cons_self, y, List.mem_cons_self, rfl⟩)
       . rcases mrg_mem h with ⟨z, hz, e⟩ | ⟨z, hz, e⟩ | ⟨z, hz, w, hw, e⟩
         . exact .inl ⟨z, List.mem_cons_of_mem _ hz, e⟩
         . exact .inr (.inl ⟨z, List.mem_cons_of_mem _ hz, e⟩)
         . exact .inr (.inr ⟨z, List.mem_cons_of_mem _ hz, w, List.mem_cons_of_mem _ hw, e⟩)
termination_by A B => A.length + B.length
theorem okL_mrg {op : Vl -> Vl -> Vl} {Q : Vl -> Vl -> Prop} {A B : List Bd} (hA : okL A) (hB : okL B) (hq : QOk Q A B) (h : ∀ x y, okV x -> okV y -> Q x y -> okV (op x y)) : okL (mrg op A B) := by
 intro b hb
 show okV b.v
 rcases mrg_mem hb with ⟨x, hx, e⟩ | ⟨y, hy, e⟩ | ⟨x, hx, y, hy, e⟩
 . rw [e]; exact h _ _ (hA x hx) okV_zero (hq.left x hx)
 . rw [e]; exact h _ _ okV_zero (hB y hy) (hq.right y hy)
 . rw [e]; exact h _ _ (hA x hx) (hB y hy) (hq.both x hx y hy)
theorem join_okL {a b : En} (ha : okL a.binds) (hb : okL b.binds) (hr : Room a.binds b.binds) : okL (En.join a b).binds := by
 unfold En.join
 split
 . split
   . exact okL_mrg (clean_ok ha) (clean_ok hb) (room_clean hr) fun x y hx hy hq => by rw [Vl.join_eq]; exact okV_rj hx hy hq
   . exact clean_ok ha
 . exact clean_ok hb
theorem join_len (a b : En) : (En.join a b).binds.length <= a.binds.length + b.binds.length := by
 have h1 := clean_len a
 have h2 := clean_len b
 unfold En.join
 split
 . split
   . have := mrg_len (op := Vl.join) a.clean.binds b.clean.binds
     show (mrg _ _ _).length <= _; omega
   . omega
 . omega
end Go.Proofs.YthkknkhpfffnbaaGreat
namespace Go.Sx
def stoOf : List (Nat × Nat) -> Nat -> Option Nat
 | [], _ => none
 | (j, ia) :: l, i => match Nat.beq j i with
   | true => some ia
   | false => stoOf l i
def hidOf (sto : List (Nat × Nat)) (i : Nat) : Bool := sto.any fun p => Nat.beq p.2 i
def visB (sto : List (Nat × Nat)) (i : Nat) : Bool := !hidOf sto i && (stoOf sto i).isNone
def dSto (τ : Tys) (n0 : Nat) (all : List Oper) (ia : Nat) (o : Oper) (st : St) (K : List Cell -> Prop) : Prop :=
 match o.op, o.guard, all[ia]? with
 | .store t ad x, none, some oa => match oa.op, oa.guard with
   | .alloc e, none => match ev st ad, ev st x, τ t, τ e with
     | .va (.c (.own k 0)), .va y, some ⟨_, size, _, _⟩, some ⟨_, _, _, z⟩ => match Nat.beq k (n0 + ia), y.lays, Nat.beq y.cells.length size, Nat.beq (zeroCells' z).length size with
       | true, true, true, true => K y.cells
       | _, _, _, _ => False
     | _, _, _, _ => False
   | _, _ => False
 | _, _, _ => False
def dGo3 (P : Program) (τ : Tys) (Γ : Sums) (n0 : Nat) (gs : List Nat) (all : List Oper) (sto : List (Nat × Nat)) (i : Nat) (l : List Oper) : St -> List (Nat × Blk) -> (St -> List (Nat × Blk) -> Prop) -> Prop :=
 List.rec (motive := fun _ => Nat -> St -> List (Nat × Blk) -> (St -> List (Nat × Blk) -> Prop) -> Prop) (fun _ st sp K => K st sp) (fun o _ ih i st sp K => match st with
  | ⟨ts, h, n, m⟩ => match inLim o.dst m with
    | false => False
    | true => match stoOf sto i with
      | some ia => dSto τ n0 all ia o ⟨ts, h, n, m⟩ fun cs => fCs cs fun cs => ih (i + 1) ⟨putT o.dst undT ts, h, n, m⟩ ((n0 + ia, .cells cs) :: sp) K
      | none => dWant all ⟨ts, h, n, m⟩ o fun w => match w with
        | false => ih (i + 1) ⟨putT o.dst undT ts, h, n, m⟩ sp K
        | true => dOp P τ Γ (n0 + i) o ⟨ts, h, n, m⟩ fun x b => fT x fun x => match b with
          | some (.cells cs) => fCs cs fun cs => dPut i gs x fun x => match hidOf sto i with
            | true => ih (i + 1) ⟨putT o.dst x ts, h, n, m⟩ sp K
            | false => ih (i + 1) ⟨putT o.dst x ts, (n0 + i, .cells cs) :: h, n, m⟩ sp K
          | some _ => False
          | none => dPut i gs x fun x => ih (i + 1) ⟨putT o.dst x ts, h, n, m⟩ sp K) l i
theorem dGo3_cons (P : Program) (τ : Tys) (Γ : Sums) (n0 : Nat) (gs : List Nat) (all : List Oper) (sto : List (Nat × Nat)) (i : Nat) (o : Oper) (rest : List Oper) (ts : List (Nat × Tm)) (h : List (Nat × Blk)) (n m : Nat) (sp : List (Nat × Blk)) (K : St -> List (Nat × Blk) -> Prop) :
 dGo3 P τ Γ n0 gs all sto i (o :: rest) ⟨ts, h, n, m⟩ sp K = (match inLim o.dst m with
  | false => False
  | true => match stoOf sto i with
    | some ia => dSto τ n0 all ia o ⟨ts, h, n, m⟩ fun cs => fCs cs fun cs => dGo3 P τ Γ n0 gs all sto (i + 1) rest ⟨putT o.dst undT ts, h, n, m⟩ ((n0 + ia, .cells cs) :: sp) K
    | none => dWant all ⟨ts, h, n, m⟩ o fun w => match w with
      | false => dGo3 P τ Γ n0 gs all sto (i + 1) rest ⟨putT o.dst undT ts, h, n, m⟩ sp K
      | true => dOp P τ Γ (n0 + i) o ⟨ts, h, n, m⟩ fun x b => fT x fun x => match b with
        | some (.cells cs) => fCs cs fun cs => dPut i gs x fun x => match hidOf sto i with
          | true => dGo3 P τ Γ n0 gs all sto (i + 1) rest ⟨putT o.dst x ts, h, n, m⟩ sp K
          | false => dGo3 P τ Γ n0 gs all sto (i + 1) rest ⟨putT o.dst x ts, (n0 + i, .cells cs) :: h, n, m⟩ sp K
        | some _ => False
        | none => dPut i gs x fun x => dGo3 P τ Γ n0 gs all sto (i + 1) rest ⟨putT o.dst x ts, h, n, m⟩ sp K) := rfl
def hfOf (n0 : Nat) (B : Nat -> Option (List Cell)) (sto : List (Nat × Nat)) (D : Nat -> Bool) (h : List (Nat × Blk)) : List (Nat × Blk) :=
 sto.map (fun p => (n0 + p.2, Blk.cells (if D p.1 = true then (B p.1).getD [] else (B p.2).getD []))) ++ h
structure StoOk (ops : Array Oper) (sto : List (Nat × Nat)) (m : Nat) : Prop where
 lt : ∀ p ∈ sto, p.1 < m /\ p.2 < p.1
 nd : sto.Pairwise fun p q => p.1 ≠ q.1 /\ p.2 ≠ q.2
 cl : ∀ p ∈ sto, Cl ops p.1 p.2
 na : ∀ p ∈ sto, stoOf sto p.2 = none
def stoB (all : List Oper) (sto : List (Nat × Nat)) (m : Nat) : Bool :=
 sto.all (fun p => Nat.blt p.1 m && Nat.blt p.2 p.1 && Nat.blt p.1 all.length && ((cloGo all []).getD p.1 0).testBit p.2 && (stoOf sto p.2).isNone) && decide (sto.Pairwise fun p q => p.1 ≠ q.1 /\ p.2 ≠ q.2)
theorem stoB_ok {ops : Array Oper} {sto : List (Nat × Nat)} {m : Nat} (h : stoB ops.toList sto m = true) : StoOk ops sto m := by
 simp only [stoB, Bool.and_eq_true, List.all_eq_true, decide_eq_true_eq] at h
 obtain ⟨h1, h2⟩ := h
 have hcl := cloGo_spec ops ops.toList [] (fun i o ho => by simpa using ho) (fun i j h => by simp at h)
 refine ⟨fun p hp => ?_, h2, fun p hp => ?_, fun p hp => ?_⟩
 . have := h1 p hp; exact ⟨by simpa [Nat.blt_eq] using this.1.1.1.1, by simpa [Nat.blt_eq] using this.1.1.1.2⟩
 . exact hcl _ _ (h1 p hp).1.2
 . simpa using (h1 p hp).2
theorem stoOf_get : ∀ {sto : List (Nat × Nat)} {i ia : Nat}, stoOf sto i = some ia -> (i, ia) ∈ sto
 | [], _, _, h => by cases h
 | (j, ia') :: l, i, ia, h => by
   simp only [stoOf] at h
   split at h
   . rename_i e; cases h; rw [<- Nat.eq_of_beq_eq_true e]; exact List.mem_cons_self
   . exact List.mem_cons_of_mem _ (stoOf_get h)
theorem stoOf_nd : ∀ {sto : List (Nat × Nat)} {p : Nat × Nat}, (sto.Pairwise fun p q => p.1 ≠ q.1 /\ p.2 ≠ q.2) -> p ∈ sto -> stoOf sto p.1 = some p.2
 | (j, ia) :: l, p, hn, hp => by
   rw [List.pairwise_cons] at hn
   simp only [stoOf]
   rcases List.mem_cons.1 hp with rfl | hp
   . simp
   . have h := (hn.1 p hp).1
     cases hb : Nat.beq j p.1 with
     | true => exact absurd (Nat.eq_of_beq_eq_true hb) h
     | false => exact stoOf_nd hn.2 hp
theorem stoOf_mem {ops : Array Oper} {sto : List (Nat × Nat)} {m : Nat} (hs : StoOk ops sto m) {p : Nat × Nat} (hp : p ∈ sto) : stoOf sto p.1 = some p.2 := stoOf_nd hs.nd hp
theorem hidOf_mem {sto : List (Nat × Nat)} {p : Nat × Nat} (hp : p ∈ sto) : hidOf sto p.2 = true := List.any_eq_true.2 ⟨p, hp, by simp⟩
theorem hidOf_get {sto : List (Nat × Nat)} {i : Nat} (h : hidOf sto i = true) : ∃ p ∈ sto, p.2 = i := by
 obtain ⟨p, hp, e⟩ := List.any_eq_true.1 h
 exact ⟨p, hp, Nat.eq_of_beq_eq_true e⟩
theorem hf_congr {n0 : Nat} {B : Nat -> Option (List Cell)} {sto : List (Nat × Nat)} {D D' : Nat -> Bool} {h : List (Nat × Blk)} (hd : ∀ p ∈ sto, D p.1 = D' p.1) : hfOf n0 B sto D h = hfOf n0 B sto D' h := by
 unfold hfOf
 congr 1
 exact List.map_congr_left fun p hp => by rw [hd p hp]
theorem hf_miss {n0 : Nat} {B : Nat -> Option (List Cell)} {D : Nat -> Bool} {h : List (Nat × Blk)} {k : Nat} : ∀ {sto : List (Nat × Nat)}, (∀ p ∈ sto, k ≠ n0 + p.2) -> lookB (hfOf n0 B sto D h) k = lookB h k
 | [], _ => rfl
 | q :: l, hn => by
   show lookB ((n0 + q.2, _) :: hfOf n0 B l D h) k = _
   rw [lookB_cons, if_neg (fun e => hn q List.mem_cons_self e.symm), hf_miss fun p hp => hn p (List.mem_cons_of_mem _ hp)]
theorem hf_hit' {n0 : Nat} {B : Nat -> Option (List Cell)} {D : Nat -> Bool} {h : List (Nat × Blk)} {p : Nat × Nat} : ∀ {sto : List (Nat × Nat)}, (sto.Pairwise fun p q => p.1 ≠ q.1 /\ p.2 ≠ q.2) -> p ∈ sto -> lookB (hfOf n0 B sto D h) (n0 + p.2) = .cells (if D p.1 = true then (B p.1).getD [] else (B p.2).getD [])
 | q :: l, hn, hp => by
   rw [List.pairwise_cons] at hn
   show lookB ((n0 + q.2, _) :: hfOf n0 B l D h) _ = _
   rw [lookB_cons]
   rcases List.mem_cons.1 hp with rfl | hp
   . rw [if_pos rfl]
   . rw [if_neg (fun e => (hn.1 p hp).2 (by omega))]
     exact hf_hit' hn.2 hp
theorem hf_hit {ops : Array Oper} {m n0 : Nat} {B : Nat -> Option (List Cell)} {sto : List (Nat × Nat)} {D : Nat -> Bool} {h : List (Nat × Blk)} (hs : StoOk ops sto m) {p : Nat × Nat} (hp : p ∈ sto) : lookB (hfOf n0 B sto D h) (n0 + p.2) = .cells (if D p.1 = true then (B p.1).getD [] else (B p.2).getD []) := hf_hit' hs.nd hp
theorem setAt_all {α : Type} : ∀ {l r : List α}, l.length = r.length -> setAt l 0 r = some r
 | l, [], h => by
   have : l = [] := List.eq_nil_of_length_eq_zero (by simpa using h)
   subst this; rfl
 | [], y :: ys, h => by cases h
 | x :: l, y :: ys, h => by
   simp only [setAt]
   rw [setAt_all (by simpa using h)]
section
variable {P : Program} {τ : Tys} {Γ : Sums} {base : Nat} {ψ ψ' : Psi} {S S' : Nat → Prop} {w w' : World} {a : Act}
theorem Rel.heapCg {ts : List (Nat × Tm)} {h h' : List (Nat × Blk)} {n m : Nat} (he : ∀ k, lookB h k = lookB h' k) (hr : Rel P base ψ S w ⟨ts, h, n, m⟩ a) : Rel P base ψ S w ⟨ts, h', n, m⟩ a := by
 have hs := hr.sim
 refine ⟨hr.bas, ⟨hs.dom, fun k l hk => ?_, fun k k' b m1 m2 e1 e2 l1 l2 => ?_, fun k b m1 e1 l1 => ?_, hs.pdom, hs.sdom⟩, hr.lim, hr.defers, hr.tmps⟩
 . show BlkRep P ψ S w (lookB h' k) l
   rw [<- he]; exact hs.blk k l hk
 . have l1 : (lookB h' k).live := l1
   have l2 : (lookB h' k').live := l2
   rw [<- he] at l1 l2
   exact hs.inj k k' b m1 m2 e1 e2 l1 l2
 . have l1 : (lookB h' k).live := l1
   rw [<- he] at l1
   exact hs.dis k b m1 e1 l1
theorem dSto_get {n0 ia : Nat} {all : List Oper} {o : Oper} {st : St} {cs : List Cell} (h : dSto τ n0 all ia o st fun c => c = cs) :
 ∃ t ad xo yv, o.op = .store t ad xo /\ o.guard = none /\ ev st ad = .va (.c (.own (n0 + ia) 0)) /\ ev st xo = .va yv /\ ∃ sz0, yv.lays = true /\ yv.cells = cs /\ (∃ desc bt z, Nat.beq yv.cells.length sz0 = true /\ τ t = some ⟨desc, sz0, bt, z⟩) /\
  ∀ oa, all[ia]? = some oa -> ∃ ti e z, oa.op = .alloc e /\ oa.guard = none /\ τ e = some ti /\ ti.zero = z /\ (zeroCells' z).length = cs.length := by
 unfold dSto at h
 split at h
 . rename_i t ad x oa hop hg hall
   split at h
   . rename_i e hoa hga
     split at h
     . rename_i k y desc size bt z dz sz2 bt2 z2 ea ex ht he
       split at h
       . rename_i q1 q2 q3 q4
         refine ⟨t, ad, x, y, hop, hg, by rw [ea, Nat.eq_of_beq_eq_true q1], ex, size, q2, h, ⟨desc, bt, z, q3, ht⟩, fun oa' hoa' => ?_⟩
         rw [hall] at hoa'; cases hoa'
         refine ⟨_, e, _, hoa, hga, he, rfl, ?_⟩
         rw [<- h, Nat.eq_of_beq_eq_true q3]; exact Nat.eq_of_beq_eq_true q4
       . exact h.elim
     . exact h.elim
   . exact h.elim
 . exact h.elim
def DStep3 (P : Program) (τ : Tys) (Γ : Sums) (n0 : Nat) (all : List Oper) (sto : List (Nat × Nat)) (i : Nat) (o : Oper) (y : Tm) (blk : Option (List Cell)) (st st' : St) : Prop :=
 inLim o.dst st.lim = true /\ st' = ⟨putT o.dst y st.tmps, (match blk, visB sto i with | some cs, true => [(n0 + i, Blk.cells cs)] | _, _ => []) ++ st.heap, st.next, st.lim⟩ /\
  ((stoOf sto i = none /\ ((dWant all st o (fun w => w = false) /\ y = undT /\ blk = none) \/
    ∃ x, dWant all st o (fun w => w = true) /\ dOp P τ Γ (n0 + i) o st (fun x' b' => x' = x /\ b' = blk.map Blk.cells) /\ Known x y)) \/
  ∃ ia cs, stoOf sto i = some ia /\ blk = some cs /\ y = undT /\ dSto τ n0 all ia o st fun c => c = cs)
theorem dSto_lin {n0 ia : Nat} {all : List Oper} {o : Oper} {st : St} : Lin (dSto τ n0 all ia o st) := by
 intro K hk
 unfold dSto at hk ⊢
 split at hk
 . split at hk
   . split at hk
     . split at hk
       . exact ⟨_, hk, rfl⟩
       . exact hk.elim
     . exact hk.elim
   . exact hk.elim
 . exact hk.elim
def spOf (n0 : Nat) (B : Nat -> Option (List Cell)) (sto : List (Nat × Nat)) (i : Nat) (sp0 : List (Nat × Blk)) : Nat -> List (Nat × Blk)
 | 0 => sp0
 | j + 1 => match stoOf sto (i + j) with
   | some ia => (n0 + ia, Blk.cells ((B j).getD [])) :: spOf n0 B sto i sp0 j
   | none => spOf n0 B sto i sp0 j
theorem dGo3_way {n0 : Nat} {gs : List Nat} {all : List Oper} {sto : List (Nat × Nat)} : ∀ (rest : List Oper) (i : Nat) (st : St) (sp : List (Nat × Blk)) (K : St -> List (Nat × Blk) -> Prop), dGo3 P τ Γ n0 gs all sto i rest st sp K ->
 ∃ (f : Nat -> St) (y : Nat -> Tm) (B : Nat -> Option (List Cell)) (sp' : List (Nat × Blk)), f 0 = st /\ K (f rest.length) sp' /\ (∀ j o, rest[j]? = some o -> DStep3 P τ Γ n0 all sto (i + j) o (y j) (B j) (f j) (f (j + 1))) /\
  sp' = spOf n0 B sto i sp rest.length
 | [], i, st, sp, K, hk => ⟨fun _ => st, fun _ => undT, fun _ => none, sp, rfl, hk, fun j o h => by simp at h, rfl⟩
 | o :: rest, i, ⟨ts, h, n, m⟩, sp, K, hk => by
   rw [dGo3_cons] at hk
   split at hk
   . exact hk.elim
   . rename_i hlim
     have shift : ∀ (B : Nat -> Option (List Cell)) (B0 : Option (List Cell)) (sp1 : List (Nat × Blk)), sp1 = spOf n0 (fun j => match j with | 0 => B0 | j + 1 => B j) sto i sp 1 -> ∀ q, spOf n0 B sto (i + 1) sp1 q = spOf n0 (fun j => match j with | 0 => B0 | j + 1 => B j) sto i sp (q + 1) := by
      intro B B0 sp1 h1 q
      induction q with
      | zero => exact h1
      | succ q ih =>
        rw [spOf, spOf, ih, show i + 1 + q = i + (q + 1) by omega]
     have cons : ∀ y0 B0 st1 sp1, DStep3 P τ Γ n0 all sto i o y0 B0 ⟨ts, h, n, m⟩ st1 -> (∀ B : Nat -> Option (List Cell), sp1 = spOf n0 (fun j => match j with | 0 => B0 | j + 1 => B j) sto i sp 1) -> dGo3 P τ Γ n0 gs all sto (i + 1) rest st1 sp1 K ->
      ∃ (f : Nat -> St) (y : Nat -> Tm) (B : Nat -> Option (List Cell)) (sp' : List (Nat × Blk)), f 0 = ⟨ts, h, n, m⟩ /\ K (f (o :: rest).length) sp' /\
      (∀ j o', (o :: rest)[j]? = some o' -> DStep3 P τ Γ n0 all sto (i + j) o' (y j) (B j) (f j) (f (j + 1))) /\ sp' = spOf n0 B sto i sp (o :: rest).length := by
      intro y0 B0 st1 sp1 hs hsp hk
      obtain ⟨f, y, B, sp', g1, g2, g3, g4⟩ := dGo3_way rest (i + 1) st1 sp1 K hk
      refine ⟨fun j => match j with | 0 => ⟨ts, h, n, m⟩ | j + 1 => f j, fun j => match j with | 0 => y0 | j + 1 => y j, fun j => match j with | 0 => B0 | j + 1 => B j, sp', rfl, g2, ?_, ?_⟩
      . intro j o' ho
        cases j with
        | zero => simp at ho; subst ho; simp only [g1]; exact hs
        | succ j => have := g3 j o' (by simpa using ho); rw [show i + (j + 1) = i + 1 + j by omega]; exact this
      . rw [g4, shift B B0 sp1 (hsp B)]; rfl
     split at hk
     . rename_i ia hs
       obtain ⟨cs, g1, g2⟩ := dSto_lin _ hk
       rw [fCs_eq] at g1
       refine cons undT (some cs) _ _ ⟨hlim, ?_, .inr ⟨ia, cs, hs, rfl, rfl, g2⟩⟩ (fun B => ?_) g1
       . have : visB sto i = false := by unfold visB; rw [hs]; simp
         rw [this]; rfl
       . simp only [spOf, Nat.add_zero, hs]; rfl
     . rename_i hs
       obtain ⟨wt, g1, g2⟩ := dWant_lin _ _ _ _ hk
       have hsp : ∀ (B0 : Option (List Cell)) (B : Nat -> Option (List Cell)), sp = spOf n0 (fun j => match j with | 0 => B0 | j + 1 => B j) sto i sp 1 := by
        intro B0 B; simp only [spOf, Nat.add_zero, hs]
       cases wt with
       | false => exact cons undT none _ _ ⟨hlim, rfl, .inl ⟨hs, .inl ⟨g2, rfl, rfl⟩⟩⟩ (hsp _) g1
       | true =>
         obtain ⟨x, b, g3, g4⟩ := dOp_lin _ _ _ _ g1
         simp only [fT_eq] at g3
         cases b with
         | none =>
           obtain ⟨y0, k1, k2⟩ := dPut_ok g3
           exact cons y0 none _ _ ⟨hlim, rfl, .inl ⟨hs, .inr ⟨x, g2, g4, k1⟩⟩⟩ (hsp _) k2
         | some b =>
           cases b with
           | cells cs =>
             simp only [fCs_eq] at g3
             obtain ⟨y0, k1, k2⟩ := dPut_ok g3
             cases hh : hidOf sto i with
             | true =>
               rw [hh] at k2
               exact cons y0 (some cs) _ _ ⟨hlim, by have : visB sto i = false := by unfold visB; rw [hh]; rfl
                                                     rw [this]; rfl, .inl ⟨hs, .inr ⟨x, g2, g4, k1⟩⟩⟩ (hsp _) k2
             | false =>
               rw [hh] at k2
               exact cons y0 (some cs) _ _ ⟨hlim, by have : visB sto i = true := by unfold visB; rw [hh, hs]; rfl
                                                     rw [this]; rfl, .inl ⟨hs, .inr ⟨x, g2, g4, k1⟩⟩⟩ (hsp _) k2
           | _ => exact g3.elim
theorem way_heap3 {n0 : Nat} {ops : List Oper} {sto : List (Nat × Nat)} {f : Nat -> St} {y : Nat -> Tm} {B : Nat -> Option (List Cell)} {m : Nat}
 (hw : ∀ j o, j < m -> ops[j]? = some o -> DStep3 P τ Γ n0 ops sto j o (y j) (B j) (f j) (f (j + 1))) (hops : m <= ops.length) (hid : idsBelow (f 0).heap n0 = true) :
 ∀ i, i <= m -> (∀ k, n0 + i <= k -> lookB (f i).heap k = .gone) /\ (∀ k, k < n0 -> lookB (f i).heap k = lookB (f 0).heap k) /\ (∀ i', i' <= i -> Sup (f i').heap (f i).heap) /\
  (∀ j cs, j < i -> visB sto j = true -> B j = some cs -> lookB (f i).heap (n0 + j) = .cells cs) /\ (f i).next = (f 0).next /\ (f i).lim = (f 0).lim /\ (∀ j, j < i -> visB sto j = false -> lookB (f i).heap (n0 + j) = .gone) := by
 intro i
 induction i with
 | zero =>
   intro _
   exact ⟨fun k hk => idsBelow_look hid hk, fun _ _ => rfl, fun i' hi' => by have : i' = 0 := by omega
                                                                             subst this; exact fun _ _ h _ => h, fun j cs hj => by omega, rfl, rfl, fun j hj => by omega⟩
 | succ i ih =>
   intro hi
   obtain ⟨h1, h2, h3, h4, h5, h6, h7⟩ := ih (by omega)
   have ho : ops[i]? = some (ops[i]'(by omega)) := by simp
   obtain ⟨_, e, _⟩ := hw i _ (by omega) ho
   have look : ∀ k, lookB (f (i + 1)).heap k = match B i, visB sto i with | some cs, true => if n0 + i = k then .cells cs else lookB (f i).heap k | _, _ => lookB (f i).heap k := by
    intro k
    rw [e]
    cases B i with
    | none => rfl
    | some cs =>
      cases visB sto i with
      | true => show lookB ((n0 + i, Blk.cells cs) :: (f i).heap) k = _; rw [lookB_cons]
      | false => rfl
   have hn : (f (i + 1)).next = (f i).next := by rw [e]
   have hl : (f (i + 1)).lim = (f i).lim := by rw [e]
   have ne : ∀ k, k ≠ n0 + i -> lookB (f (i + 1)).heap k = lookB (f i).heap k := by
    intro k hk
    rw [look]
    cases B i with
    | none => rfl
    | some cs =>
      cases visB sto i with
      | true => simp only; rw [if_neg (by omega)]
      | false => rfl
   have sup : Sup (f i).heap (f (i + 1)).heap := by
    intro k b hb hg
    by_cases hk : k = n0 + i
    . rw [h1 k (by omega)] at hb; exact (hg hb.symm).elim
    . rw [ne k hk]; exact hb
   refine ⟨?_, ?_, ?_, ?_, by rw [hn, h5], by rw [hl, h6], ?_⟩
   . intro k hk; rw [ne k (by omega)]; exact h1 k (by omega)
   . intro k hk; rw [ne k (by omega)]; exact h2 k hk
   . intro i' hi'
     rcases Nat.lt_or_eq_of_le hi' with h | rfl
     . intro k b hb hg
       have := h3 i' (by omega) k b hb hg
       exact sup k b this hg
     . exact fun _ _ h _ => h
   . intro j cs hj hv hB
     rcases Nat.lt_succ_iff_lt_or_eq.1 hj with h | rfl
     . rw [ne _ (by omega)]; exact h4 j cs h hv hB
     . rw [look, hB, hv]; simp
   . intro j hj hv
     rcases Nat.lt_succ_iff_lt_or_eq.1 hj with h | rfl
     . rw [ne _ (by omega)]; exact h7 j h hv
     . rw [look, hv]
       cases B j <;> exact h1 _ (Nat.le_refl _)
theorem way_tmps3 {n0 : Nat} {ops : List Oper} {sto : List (Nat × Nat)} {f : Nat -> St} {y : Nat -> Tm} {B : Nat -> Option (List Cell)} {m : Nat} {dst : Nat -> Option Tmp} (hdst : ∀ j o, ops[j]? = some o -> dst j = o.dst)
 (hw : ∀ j o, j < m -> ops[j]? = some o -> DStep3 P τ Γ n0 ops sto j o (y j) (B j) (f j) (f (j + 1))) (hops : m <= ops.length) :
 ∀ i, i <= m -> (f i).tmps = tsOf y dst (f 0).tmps (fun _ => true) i := by
 intro i
 induction i with
 | zero => intro _; rfl
 | succ i ih =>
   intro hi
   have ho : ops[i]? = some (ops[i]'(by omega)) := by simp
   obtain ⟨_, e, _⟩ := hw i _ (by omega) ho
   rw [e]
   simp only [tsOf, hdst i _ ho, ih (by omega)]
theorem draw_head3 (hτ : TysOk P τ) (hz : ∀ t i, τ t = some i -> zeroOk i.zero) (hΓ : SumsOk P Γ) {calls : Nat -> List Va -> St -> (Tm -> St -> Prop) -> Prop} (hcalls : CallsOk P base calls)
 {ops : Array Oper} {Q : Exit -> Act -> World -> Prop} {n0 m : Nat} {f : Nat -> St} {y : Nat -> Tm} {B : Nat -> Option (List Cell)} {dst : Nat -> Option Tmp} {sto : List (Nat × Nat)}
 (hm : m <= ops.size) (hdraw : drawOk2 ops.toList m = true) (hdst : ∀ j o, ops[j]? = some o -> dst j = o.dst)
 (hw : ∀ j o, j < m -> ops.toList[j]? = some o -> DStep3 P τ Γ n0 ops.toList sto j o (y j) (B j) (f j) (f (j + 1))) (hid : idsBelow (f 0).heap n0 = true) (hb : base <= n0) (hsto : StoOk ops sto m) {K : St -> Prop}
 (htail : ∀ (listed : Array Bool) (ψ : Psi) (S : Nat -> Prop) (w : World) (a : Act), listed.size = ops.size -> (∀ j, listed.getD j false = decide (j < m)) -> Rel P base ψ S w ⟨(f m).tmps, hfOf n0 B sto (fun _ => true) (f m).heap, n0 + m, (f m).lim⟩ a ->
   (∀ st' ψ' S' w' a', K st' -> Rel P base ψ' S' w' st' a' -> Ext base ψ S w ψ' S' w' -> Q .normal a' w') -> wpAny P .any ops Q (ops.size - m) listed a w) :
 ∀ (fuel : Nat) (listed : Array Bool) (ψ : Psi) (S : Nat -> Prop) (w : World) (a : Act), listed.size = ops.size -> cntD (fun j => listed.getD j false) m + fuel = ops.size ->
 (∀ j, listed.getD j false = true -> j < m) -> Down ops (fun j => listed.getD j false) -> (∀ j, j < m -> listed.getD j false = false -> ψ (n0 + j) = none) ->
 Rel P base ψ S w ⟨tsOf y dst (f 0).tmps (fun j => listed.getD j false) m, hfOf n0 B sto (fun j => listed.getD j false) (f m).heap, n0 + m, (f m).lim⟩ a ->
 (∀ st' ψ' S' w' a', K st' -> Rel P base ψ' S' w' st' a' -> Ext base ψ S w ψ' S' w' -> Q .normal a' w') -> wpAny P .any ops Q fuel listed a w := by
 obtain ⟨hback, hord⟩ := drawOk2_spec hdraw
 have hheap := way_heap3 hw (by simpa using hm) hid
 have htmps := way_tmps3 (dst := dst) (fun j o ho => hdst j o (by simpa using ho)) hw (by simpa using hm)
 intro fuel
 induction fuel with
 | zero =>
   intro listed ψ S w a hsz hcnt hsup hdown hun hrel hq
   have hle := cntD_le (D := fun j => listed.getD j false) m
   have hfull := cntD_full (D := fun j => listed.getD j false) m (by omega)
   rw [show 0 = ops.size - m by omega]
   refine htail listed ψ S w a hsz ?_ ?_ hq
   . intro j
     by_cases hj : j < m
     . simp only [hj, decide_true]; exact hfull j hj
     . simp only [hj, decide_false]
       cases h : listed.getD j false with
       | false => rfl
       | true => exact absurd (hsup j h) hj
   . rw [hf_congr (D' := fun _ => true) fun p hp => hfull p.1 (hsto.lt p hp).1] at hrel
     refine ⟨hrel.bas, hrel.sim, hrel.lim, hrel.defers, fun t => ?_⟩
     have := hrel.tmps t
     rw [htmps m (Nat.le_refl _)]
     rwa [tsOf_same (D' := fun _ => true) m fun j hj _ => hfull j hj] at this
 | succ fuel ih =>
   intro listed ψ S w a hsz hcnt hsup hdown hun hrel hq
   have hle := cntD_le (D := fun j => listed.getD j false) m
   rcases Nat.lt_or_eq_of_le hle with hlt | heq
   . obtain ⟨j0, hj0, hj1, hj2⟩ := cntD_lt (D := fun j => listed.getD j false) m hlt
     have getD : ∀ j, j < ops.size -> listed.getD j true = listed.getD j false := by
      intro j hj; simp [Array.getD, hsz, hj]
     have hjo : ops[j0]? = some (ops[j0]'(by omega)) := by simp <;> omega
     have hready : j0 ∈ Region.ready .any ops listed := by
      refine mem_ready.2 ⟨by rw [getD j0 (by omega)]; exact hj1, _, hjo, fun e he hbi => ?_⟩
      exact hj2 e.on (hback j0 _ hjo e (by simpa using he) hbi)
     refine ⟨fun h => by rw [h] at hready; simp at hready, ?_⟩
     intro i hi
     obtain ⟨hi1, o, ho, hi2⟩ := mem_ready.1 hi
     have hin : i < ops.size := (Array.getElem?_eq_some_iff.1 ho).1
     rw [getD i hin] at hi1
     have hcl : ∀ j, Cl ops i j -> listed.getD j false = true := fun j h => h.down hdown fun o' ho' e he hbi => by
      rw [ho] at ho'; cases ho'; exact hi2 e (by simpa using he) hbi
     have him : i < m := by
      rcases Nat.lt_or_ge i m with h | h
      . exact h
      . rcases hord i j0 _ o ho hjo (by omega) hj0 with h1 | h1
        . have := hcl _ h1; simp only [this] at hj1; cases hj1
        . exact h1.1
     have hol : ops.toList[i]? = some o := by simpa using ho
     -- the slots that it reads are as in the text's order
     have reads : ∀ t, t ∈ readsOf ops.toList o -> lookT (tsOf y dst (f 0).tmps (fun j => listed.getD j false) m) t = lookT (f i).tmps t := by
      intro t ht
      rw [htmps i (by omega), tsOf_cut (i := i) m (by omega), tsOf_same (D' := fun _ => true) i]
      . intro j hj hd
        have hjo' : ops[j]? = some (ops[j]'(by omega)) := by simp <;> omega
        rcases hord i j _ o ho hjo' hj (by omega) with h1 | h1
        . exact hcl j h1
        . rw [hdst j _ hjo'] at hd
          exact absurd ht ((clash_spec h1.2).1 t hd).1
      . intro j h1 h2 hd
        rcases Nat.lt_or_eq_of_le h1 with h3 | rfl
        . have hjo' : ops[j]? = some (ops[j]'(by omega)) := by simp <;> omega
          rcases hord j i o _ hjo' ho h3 him with h4 | h4
          . cases hD : listed.getD j false with
            | false => rfl
            | true =>
              have : listed.getD i false = true := h4.down hdown fun o' ho' e he hbi => hdown j o' ho' hD e he hbi
              rw [this] at hi1; cases hi1
          . rw [hdst j _ hjo'] at hd
            exact absurd ht ((clash_spec h4.2).2 t hd)
        . exact hi1
     have hD' : ∀ j, (listed.setIfInBounds i true).getD j false = (listed.getD j false || j == i) := by
      intro j
      by_cases hij : i = j
      . subst hij; simp [Array.getD, hsz, hin]
      . rw [getD_set_ne _ hij]
        have : (j == i) = false := by simp <;> omega
        simp [this]
     have adds : ∀ t, lookT (tsOf y dst (f 0).tmps (fun j => (listed.setIfInBounds i true).getD j false) m) t = if dst i = some t then y i else lookT (tsOf y dst (f 0).tmps (fun j => listed.getD j false) m) t := by
      intro t
      refine tsOf_add him hi1 hD' fun j h1 h2 hd hd' => ?_
      have hjo' : ops[j]? = some (ops[j]'(by omega)) := by simp <;> omega
      rcases hord j i o _ hjo' ho h1 him with h4 | h4
      . cases hD : listed.getD j false with
        | false => rfl
        | true =>
          have : listed.getD i false = true := h4.down hdown fun o' ho' e he hbi => hdown j o' ho' hD e he hbi
          rw [this] at hi1; cases hi1
      . rw [hdst j _ hjo'] at hd
        rw [hdst i _ ho] at hd'
        exact absurd hd ((clash_spec h4.2).1 t hd').2
     obtain ⟨hlim, hst, hstep⟩ := hw i o him hol
     have hlim' : inLim o.dst (f m).lim = true := by
      rw [(hheap m (Nat.le_refl _)).2.2.2.2.2.1, <- (hheap i (by omega)).2.2.2.2.2.1]; exact hlim
     -- on with the next ones
     have next : ∀ x, Known x (y i) -> ∀ ψ' S' w' a', Rel P base ψ' S' w' ⟨putT o.dst x (tsOf y dst (f 0).tmps (fun j => listed.getD j false) m), hfOf n0 B sto (fun j => (listed.setIfInBounds i true).getD j false) (f m).heap, n0 + m, (f m).lim⟩ a' -> Ext base ψ S w ψ' S' w' ->
      (∀ k, n0 <= k -> k < n0 + m -> k ≠ n0 + i -> ψ' k = ψ k) -> wpAny P .any ops Q fuel (listed.setIfInBounds i true) a' w' := by
      intro x hkn ψ' S' w' a' hr he hp
      refine ih _ ψ' S' w' a' (by simp [hsz]) ?_ ?_ ?_ ?_ ?_ fun st2 ψ2 S2 w2 a2 q1 q2 q3 => hq _ _ _ _ _ q1 q2 (he.trans q3)
      . have := cntD_add (D := fun j => listed.getD j false) (D' := fun j => (listed.setIfInBounds i true).getD j false) (i := i) hi1 hD' m him
        omega
      . intro j hj
        have hj := (hD' j).symm.trans hj
        simp only [Bool.or_eq_true, beq_iff_eq] at hj
        rcases hj with hj | rfl
        . exact hsup j hj
        . exact him
      . intro j oj hoj hj e he' hbi
        have hj := (hD' j).symm.trans hj
        refine (hD' e.on).trans ?_
        simp only [Bool.or_eq_true, beq_iff_eq] at hj ⊢
        rcases hj with hj | rfl
        . exact .inl (hdown j oj hoj hj e he' hbi)
        . rw [ho] at hoj; cases hoj
          exact .inl (hi2 e (by simpa using he') hbi)
      . intro j hj hDj
        have hDj := (hD' j).symm.trans hDj
        simp only [Bool.or_eq_false_iff, beq_eq_false_iff_ne] at hDj
        rw [hp (n0 + j) (by omega) (by omega) (by omega)]
        exact hun j hj hDj.1
      . refine ⟨hr.bas, hr.sim, hr.lim, hr.defers, fun t => ?_⟩
        have := hr.tmps t
        rw [adds]
        rw [lookT_putT] at this
        rw [<- hdst i o ho] at this
        by_cases hd : dst i = some t
        . rw [if_pos hd] at this ⊢; exact hkn.rep this
        . rw [if_neg hd] at this ⊢; exact this
     have guard : ∀ b, dWant ops.toList (f i) o (fun w => w = b) -> Region.wanted o (yielded ops a.tmps) = b := by
      intro b hb
      refine dWant_real (P := P) (ψ := ψ) (S := S) (w := w) hb fun j want s hg hs => ?_
      rw [<- reads s (by simp only [readsOf, hg, hs]; simp)]
      exact hrel.tmps s
     unfold wpOp
     rw [ho]
     simp only
     have hev : ∀ z ∈ o.op.operands.toList, ev (f i) z = ev ⟨tsOf y dst (f 0).tmps (fun j => listed.getD j false) m, hfOf n0 B sto (fun j => listed.getD j false) (f m).heap, n0 + m, (f m).lim⟩ z := by
      intro z hz
      cases z with
      | tmp t => exact (reads t (operand_reads hz)).symm
      | _ => rfl
     have hrel2 : Rel P (n0 + m) ψ S w ⟨tsOf y dst (f 0).tmps (fun j => listed.getD j false) m, hfOf n0 B sto (fun j => listed.getD j false) (f m).heap, n0 + m, (f m).lim⟩ a := ⟨Nat.le_refl _, hrel.sim, hrel.lim, hrel.defers, hrel.tmps⟩
     rcases hstep with ⟨hns, hstep⟩ | ⟨ia, cs, hs, hBi, hyi, hsd⟩
     . have hsame : hfOf n0 B sto (fun j => (listed.setIfInBounds i true).getD j false) (f m).heap = hfOf n0 B sto (fun j => listed.getD j false) (f m).heap := hf_congr fun p hp => by
        show (listed.setIfInBounds i true).getD p.1 false = listed.getD p.1 false
        rw [hD' p.1]
        have : p.1 ≠ i := fun e => by have := stoOf_mem hsto hp; rw [e, hns] at this; cases this
        simp [this]
       rw [hsame] at next
       have hsup : Sup (f i).heap (hfOf n0 B sto (fun j => listed.getD j false) (f m).heap) := by
        intro k b hb hg
        rw [hf_miss, (hheap m (Nat.le_refl _)).2.2.1 i (by omega) k b hb hg]
        intro p hp e
        have hpl := hsto.lt p hp
        have hgone : lookB (f i).heap k = .gone := by
         rw [e]
         rcases Nat.lt_or_ge p.2 i with h | h
         . exact (hheap i (by omega)).2.2.2.2.2.2 p.2 h (by unfold visB; rw [hidOf_mem hp]; rfl)
         . exact (hheap i (by omega)).1 _ (by omega)
        rw [hgone] at hb; exact hg hb.symm
       rcases hstep with ⟨h1, h2, h3⟩ | ⟨x, h1, h2, h3⟩
       . rw [if_neg (by rw [guard _ h1]; simp)]
         obtain ⟨st2, g1, g2⟩ := putK_rel (v := undef) (putK_put (x := undT) hlim') hrel rfl
         subst g1
         exact next undT (.inl h2) ψ S w _ g2 (Ext.refl _ _ _ _) fun _ _ _ _ => rfl
       . rw [if_pos (guard _ h1)]
         left
         have hop := dOp_congr (st' := ⟨tsOf y dst (f 0).tmps (fun j => listed.getD j false) m, hfOf n0 B sto (fun j => listed.getD j false) (f m).heap, n0 + m, (f m).lim⟩) hev hsup h2
         cases hB : B i with
         | none =>
           rw [hB] at hop
           refine dOp_ok hτ hz hΓ hrel2 hlim' hop _ _ ?_
           rintro st' ψ' S' w' a' rfl g1 g2
           exact next x h3 ψ' S' w' a' ⟨by have := hb; show base <= n0 + m; omega, g1.sim, g1.lim, g1.defers, g1.tmps⟩ (g2.weaken (by omega)) fun k _ hk _ => g2.agr k hk
         | some cs =>
           rw [hB] at hop
           have hlk : lookB (hfOf n0 B sto (fun j => listed.getD j false) (f m).heap) (n0 + i) = .cells cs := by
            by_cases hh : hidOf sto i = true
            . obtain ⟨p, hp, e⟩ := hidOf_get hh
              have hpl := hsto.lt p hp
              have hpj : listed.getD p.1 false = false := by
               cases hc : listed.getD p.1 false with
               | false => rfl
               | true =>
                 have hpo : ops[p.1]? = some (ops[p.1]'(by omega)) := by simp <;> omega
                 have := (hsto.cl p hp).down hdown fun o' ho' e he hbi => hdown p.1 o' ho' hc e he hbi
                 rw [e, hi1] at this; cases this
              have := hf_hit (B := B) (n0 := n0) (D := fun j => listed.getD j false) (h := (f m).heap) hsto hp
              rw [e] at this
              rw [this]
              show Blk.cells (if listed.getD p.1 false = true then _ else (B i).getD []) = _
              rw [hpj, hB]; rfl
            . rw [hf_miss (fun p hp e => hh (by have : p.2 = i := by omega
                                                rw [<- this]; exact hidOf_mem hp))]
              exact (hheap m (Nat.le_refl _)).2.2.2.1 i cs him (by unfold visB; rw [hns]; simpa using hh) hB
           refine dOp_blk (base := base) hτ hz hrel (hun i him hi1) (by omega) (by omega) hlk hlim' hop _ _ ?_
           intro ψ' S' w' a' g1 g2 g3
           exact next x h3 ψ' S' w' a' g1 g2 fun k _ _ hk => g3 k hk
     . obtain ⟨t, ad, xo, yv, hopx, hg, ea, ex, sz0, hlay, hcs, hsz, hZ⟩ := dSto_get hsd
       have hw1 : dWant ops.toList (f i) o (fun w => w = true) := by unfold dWant; rw [hg]
       rw [if_pos (guard _ hw1)]
       left
       have hmem := stoOf_get hs
       have hpl := hsto.lt _ hmem
       have e1 := hev ad (by rw [hopx]; simp [Op.operands])
       have e2 := hev xo (by rw [hopx]; simp [Op.operands])
       have hlook : lookB (hfOf n0 B sto (fun j => listed.getD j false) (f m).heap) (n0 + ia) = .cells ((B ia).getD []) := by
        have := hf_hit (B := B) (n0 := n0) (D := fun j => listed.getD j false) (h := (f m).heap) hsto hmem
        rw [this]
        show Blk.cells (if listed.getD i false = true then _ else _) = _
        rw [hi1]; rfl
       -- the zero cells of the block
       have hia : ops.toList[ia]? = some (ops[ia]'(by omega)) := by simp <;> omega
       have hlen : ((B ia).getD []).length = cs.length := by
        obtain ⟨_, _, hst2⟩ := hw ia _ (by omega) hia
        rcases hst2 with ⟨_, hst2⟩ | ⟨_, _, hq, _⟩
        . obtain ⟨ti, e, z, hoa, hga, hτe, hz0, hzl⟩ := hZ _ hia
          obtain ⟨d1, d2, d3, d4⟩ := ti
          have hz0 : d4 = z := hz0
          subst hz0
          rcases hst2 with ⟨g1, _, _⟩ | ⟨x, _, g2, _⟩
          . unfold dWant at g1; rw [hga] at g1; cases g1
          . unfold dOp at g2
            rw [hoa] at g2
            simp only at g2
            rw [hτe] at g2
            obtain ⟨_, g3⟩ := g2
            cases hBi2 : B ia with
            | none => rw [hBi2] at g3; cases g3
            | some zc =>
              rw [hBi2] at g3
              have : zc = zeroCells' d4 := by simpa using g3.symm
              rw [this, Option.getD_some, hzl]
        . rw [hsto.na _ hmem] at hq; cases hq
       refine oStore_ok (K := fun st' => st' = ⟨putT o.dst undT (tsOf y dst (f 0).tmps (fun j => listed.getD j false) m), (n0 + ia, .cells cs) :: hfOf n0 B sto (fun j => listed.getD j false) (f m).heap, n0 + m, (f m).lim⟩) hτ hrel2 hopx ?_ _ _ ?_
       . rw [<- e1, <- e2, ea, ex]
         obtain ⟨desc, bt, zz, info, hti⟩ := hsz
         unfold oStore
         rw [hti]
         simp only [hlook, hlay, hcs]
         rw [show Nat.beq cs.length sz0 = true by rw [<- hcs]; exact info]
         simp only
         rw [setAt_all hlen]
         simp only [fCs_eq]
         exact putK_put hlim'
       . rintro st' ψ' S' w' a' rfl g1 g2
         refine next undT (.inl (by rw [hyi])) ψ' S' w' a' ?_ (g2.weaken (by omega)) fun k _ hk _ => g2.agr k hk
         refine Rel.heapCg (fun k => ?_) (⟨by have := hb; show base <= n0 + m; omega, g1.sim, g1.lim, g1.defers, g1.tmps⟩ : Rel P base ψ' S' w' _ a')
         rw [lookB_cons]
         by_cases hk : n0 + ia = k
         . rw [if_pos hk, <- hk]
           have := hf_hit (B := B) (n0 := n0) (D := fun j => (listed.setIfInBounds i true).getD j false) (h := (f m).heap) hsto hmem
           rw [this]
           show _ = Blk.cells (if (listed.setIfInBounds i true).getD i false = true then (B i).getD [] else _)
           rw [hD' i, hBi]; simp
         . rw [if_neg hk]
           by_cases hq : ∃ p ∈ sto, k = n0 + p.2
           . obtain ⟨p, hp, e⟩ := hq
             rw [e, hf_hit hsto hp, hf_hit hsto hp]
             congr 1
             have : p.1 ≠ i := fun e3 => by
              have h5 := stoOf_mem hsto hp
              rw [e3, hs] at h5
              have : ia = p.2 := by simpa using h5
              omega
             show (if listed.getD p.1 false = true then _ else _) = (if (listed.setIfInBounds i true).getD p.1 false = true then _ else _)
             rw [hD' p.1]; simp [this]
           . rw [hf_miss (fun p hp e => hq ⟨p, hp, e⟩), hf_miss (fun p hp e => hq ⟨p, hp, e⟩)]
   . have hfull := cntD_full (D := fun j => listed.getD j false) m heq
     rw [show (fuel + 1) = ops.size - m by omega]
     refine htail listed ψ S w a hsz ?_ ?_ hq
     . intro j
       by_cases hj : j < m
       . simp only [hj, decide_true]; exact hfull j hj
       . simp only [hj, decide_false]
         cases h : listed.getD j false with
         | false => rfl
         | true => exact absurd (hsup j h) hj
     . rw [hf_congr (D' := fun _ => true) fun p hp => hfull p.1 (hsto.lt p hp).1] at hrel
       refine ⟨hrel.bas, hrel.sim, hrel.lim, hrel.defers, fun t => ?_⟩
       have := hrel.tmps t
       rw [htmps m (Nat.le_refl _)]
       rwa [tsOf_same (D' := fun _ => true) m fun j hj _ => hfull j hj] at this
theorem pw_ne {sto : List (Nat × Nat)} : (sto.Pairwise fun p q => p.1 ≠ q.1 /\ p.2 ≠ q.2) -> ∀ {p q : Nat × Nat}, p ∈ sto -> q ∈ sto -> p ≠ q -> p.1 ≠ q.1 /\ p.2 ≠ q.2 := by
 intro hn
 induction sto with
 | nil => intro p q hp; cases hp
 | cons x l ih =>
   rw [List.pairwise_cons] at hn
   intro p q hp hq hne
   rcases List.mem_cons.1 hp with e | hp
   . rcases List.mem_cons.1 hq with e' | hq
     . exact absurd (e.trans e'.symm) hne
     . rw [e]; exact hn.1 q hq
   . rcases List.mem_cons.1 hq with e' | hq
     . rw [e']; have := hn.1 p hp; exact ⟨fun e => this.1 e.symm, fun e => this.2 e.symm⟩
     . exact ih hn.2 hp hq hne
theorem lookB_or (h' : List (Nat × Blk)) (k : Nat) : ∀ (h : List (Nat × Blk)), (∀ p ∈ h, p.2 ≠ .gone) -> lookB (h ++ h') k = match lookB h k with | .gone => lookB h' k | b => b
 | [], _ => rfl
 | (i, x) :: l, hg => by
   rw [List.cons_append, lookB_cons, lookB_cons]
   by_cases hi : i = k
   . rw [if_pos hi, if_pos hi]
     have := hg (i, x) List.mem_cons_self
     cases x <;> first | rfl | exact absurd rfl this
   . rw [if_neg hi, if_neg hi]; exact lookB_or h' k l fun p hp => hg p (List.mem_cons_of_mem _ hp)
theorem sp_live {n0 : Nat} {B : Nat -> Option (List Cell)} {sto : List (Nat × Nat)} : ∀ q, ∀ p ∈ spOf n0 B sto 0 [] q, p.2 ≠ .gone
 | 0, p, hp => by cases hp
 | q + 1, p, hp => by
   simp only [spOf] at hp
   split at hp
   . rcases List.mem_cons.1 hp with rfl | hp
     . intro h; cases h
     . exact sp_live q p hp
   . exact sp_live q p hp
theorem sp_miss {n0 k : Nat} {B : Nat -> Option (List Cell)} {sto : List (Nat × Nat)} (hk : ∀ p ∈ sto, k ≠ n0 + p.2) : ∀ q, lookB (spOf n0 B sto 0 [] q) k = .gone
 | 0 => rfl
 | q + 1 => by
   simp only [spOf]
   split
   . rename_i ia hs
     have := hk _ (stoOf_get hs)
     rw [lookB_cons, if_neg (fun e => this e.symm)]; exact sp_miss hk q
   . exact sp_miss hk q
theorem sp_hit {ops : Array Oper} {m n0 : Nat} {B : Nat -> Option (List Cell)} {sto : List (Nat × Nat)} (hs : StoOk ops sto m) {p : Nat × Nat} (hp : p ∈ sto) : ∀ q, p.1 < q -> lookB (spOf n0 B sto 0 [] q) (n0 + p.2) = .cells ((B p.1).getD [])
 | 0, h => by omega
 | q + 1, h => by
   have h1 := stoOf_mem hs hp
   simp only [spOf, Nat.zero_add]
   by_cases e : p.1 = q
   . rw [<- e, h1]; simp only; rw [lookB_cons, if_pos rfl]
   . have ih := sp_hit (n0 := n0) (B := B) hs hp q (by omega)
     split
     . rename_i ia h2
       rw [lookB_cons, if_neg, ih]
       intro e2
       have h3 := stoOf_get h2
       have : (q, ia) = p := by
        have hn := hs.nd
        exact Classical.byContradiction fun hne => by
         have := pw_ne hn h3 hp hne
         have e4 : ia = p.2 := by omega
         exact this.2 e4
       rw [<- this] at e; exact e rfl
     . exact ih
theorem draw_sto_at (hτ : TysOk P τ) (hz : ∀ t i, τ t = some i -> zeroOk i.zero) (hΓ : SumsOk P Γ) {calls : Nat -> List Va -> St -> (Tm -> St -> Prop) -> Prop} (hcalls : CallsOk P base calls) (hmix : P.follows .mixedOrders = true)
 {ops : Array Oper} {id : Nat} {Q : Exit -> Act -> World -> Prop} {st : St} {K : St -> Prop} (hrel : Rel P base ψ S w st a) (hid : idsBelow st.heap st.next = true) {mm : Nat} {sto : List (Nat × Nat)} (hsto : StoOk ops sto mm) (hm : mm <= ops.size) (hdraw : drawOk2 ops.toList mm = true) {K1 : St -> Prop} (hk : dGo3 P τ Γ st.next (guardsOf ops.toList) ops.toList sto 0 (ops.toList.take mm) st [] fun st' sp => match st' with | ⟨ts, h, n, l⟩ => K1 ⟨ts, sp ++ h, n + mm, l⟩)
 (htail : ∀ (listed : Array Bool) (ψ : Psi) (S : Nat -> Prop) (w : World) (st1 : St) (a : Act), K1 st1 -> listed.size = ops.size -> (∀ j, listed.getD j false = decide (j < mm)) -> Rel P base ψ S w st1 a ->
   (∀ st' ψ' S' w' a', K st' -> Rel P base ψ' S' w' st' a' -> Ext base ψ S w ψ' S' w' -> Q .normal a' w') -> wpAny P .any ops Q (ops.size - mm) listed a w)
 (hq : ∀ st' ψ' S' w' a', K st' -> Rel P base ψ' S' w' st' a' -> Ext base ψ S w ψ' S' w' -> Q .normal a' w') : (Code.region id ops true).wp P Q a w := by
 obtain ⟨f, y, B, sp', h1, h2, h3, hsp⟩ := dGo3_way _ _ _ _ _ hk
 have hlen : (ops.toList.take (mm)).length = mm := by simp <;> omega
 rw [hlen] at h2 hsp
 have hw : ∀ j o, j < mm -> ops.toList[j]? = some o -> DStep3 P τ Γ st.next ops.toList sto j o (y j) (B j) (f j) (f (j + 1)) := by
  intro j o hj ho
  have := h3 j o (by rw [List.getElem?_take]; simp [hj]; simpa using ho)
  simpa using this
 have hheap := way_heap3 hw (by simpa using hm) (by rw [h1]; exact hid) _ (Nat.le_refl _)
 obtain ⟨g1, g2, g3, g4, g5, g6, g7⟩ := hheap
 refine wp_region_any hmix ?_
 obtain ⟨hrel1, hext1⟩ : Rel P base ψ S { w with drawn := w.drawn + 1 } st a /\ Ext base ψ S w ψ S { w with drawn := w.drawn + 1 } :=
  hrel.ext0 ⟨rfl, rfl, rfl, Nat.le_refl _, fun _ _ => rfl, fun _ h => h, fun _ h => .inl h, hrel.sim.sdom⟩
 refine draw_head3 (sto := sto) hτ hz hΓ hcalls hm hdraw (dst := fun j => (ops[j]?).bind (·.dst)) (fun j o ho => by simp [ho]) hw (by rw [h1]; exact hid) hrel.bas hsto (K := K) ?_ ops.size _ ψ S _ a (by simp) ?_ ?_ ?_ ?_ ?_ ?_
 . intro listed ψ' S' w' a' q1 q2 q3 q4
   have e : (f (mm)).next = st.next := by rw [g5, h1]
   refine htail listed ψ' S' w' ⟨(f mm).tmps, sp' ++ (f mm).heap, st.next + mm, (f mm).lim⟩ a' ?_ q1 q2 (Rel.heapCg (fun k => ?_) q3) q4
   . rw [<- e]; exact h2
   . rw [hsp, lookB_or _ _ _ (sp_live _)]
     by_cases hq : ∃ p ∈ sto, k = st.next + p.2
     . obtain ⟨p, hp, rfl⟩ := hq
       rw [hf_hit hsto hp, if_pos rfl, sp_hit (n0 := st.next) (B := B) hsto hp mm (hsto.lt p hp).1]
     . rw [hf_miss fun p hp e => hq ⟨p, hp, e⟩, sp_miss (n0 := st.next) (B := B) (sto := sto) (k := k) (fun p hp e => hq ⟨p, hp, e⟩) mm]
 . have : ∀ m, cntD (fun j => (Array.replicate ops.size false).getD j false) m = 0 := by
    intro m
    induction m with
    | zero => rfl
    | succ m ih =>
      simp only [cntD, ih]
      have : (Array.replicate ops.size false)[m]?.getD false = false := by by_cases h : m < ops.size <;> simp [h]
      simp [this]
   rw [this]; simp
 . intro j hj; simp [Array.getD] at hj
 . intro i o _ hi; simp [Array.getD] at hi
 . intro j _ _; exact hrel.sim.dom _ (by omega)
 . have hts : tsOf y (fun j => (ops[j]?).bind (·.dst)) (f 0).tmps (fun j => (Array.replicate ops.size false).getD j false) (mm) = st.tmps := by
    rw [h1]
    clear hk h2 h3 hw g1 g2 g3 g4 g5 g6 g7 hsp hsto
    clear hm hdraw hlen
    generalize mm = m
    induction m with
    | zero => rfl
    | succ m ih => simp only [tsOf]; have : (Array.replicate ops.size false).getD m false = false := by simp [Array.getD]
                   rw [this]; exact ih
   rw [hts, g6, h1]
   have hlook : ∀ k l, ψ k = some l -> lookB (hfOf st.next B sto (fun j => (Array.replicate ops.size false).getD j false) (f (mm)).heap) k = lookB st.heap k := by
    intro k l hk
    have : k < st.next := by
     rcases Nat.lt_or_ge k st.next with h | h
     . exact h
     . rw [hrel.sim.dom k h] at hk; cases hk
    rw [hf_miss (fun p hp e => by omega), g2 k this, h1]
   have hs := hrel1.sim
   refine ⟨by have := hrel.bas; show base <= st.next + _; omega, ⟨fun k hk => hs.dom k (by have hk : st.next + mm <= k := hk; omega), fun k l hk => by rw [hlook k l hk]; exact hs.blk k l hk, fun k k' b m1 m2 e1 e2 l1 l2 => ?_, fun k b m1 e1 l1 => ?_, hs.pdom, hs.sdom⟩, hrel1.lim, hrel1.defers, hrel1.tmps⟩
   . rw [hlook _ _ e1] at l1; rw [hlook _ _ e2] at l2; exact hs.inj k k' b m1 m2 e1 e2 l1 l2
   . rw [hlook _ _ e1] at l1; exact hs.dis k b m1 e1 l1
 . intro st' ψ' S' w' a' q1 q2 q3
   exact hq _ _ _ _ _ q1 q2 (hext1.trans q3)
end
structure Tl (F G : St -> Prop) : Prop where
 run : True -> ∃ s, F s /\ G s
theorem draw_sto {P : Program} {t : TT} (ht : t.ok P) {l : List (Nat × Sm)} (hl : sumsOk P l) (hmix : P.follows .mixedOrders = true) {base : Nat} {ops : Array Oper} {id : Nat} {st : St} {Q : Exit -> St -> Prop} (m : Nat) (sto : List (Nat × Nat)) (p : Plan) (live : List Nat)
 (hp : (Region.noSelect ops && Nat.ble m ops.size && drawOk2 ops.toList m && stoB ops.toList sto m && planOk ops (ops.size - m) ((List.range ops.size).map fun j => Nat.blt j m).toArray p) = true) (hid : idsBelow st.heap st.next = true)
 (hk : dGo3 P t.get (sums l) st.next (guardsOf ops.toList) ops.toList sto 0 (ops.toList.take m) st [] fun st' sp => match st' with
   | ⟨ts, h, n, lm⟩ => Tl (fun s => vcP P t.get (vcCall P (sums l) base) ops.toList p ⟨ts, sp ++ h, n + m, lm⟩ fun st' => normK live st' fun s' => s' = s) fun s => Q .normal s) : ASat P base (.region id ops true) st Q := by
 simp only [Bool.and_eq_true] at hp
 obtain ⟨⟨⟨⟨hsel, hm⟩, hd⟩, hsb⟩, hpl⟩ := hp
 have hm := Nat.le_of_ble_eq_true hm
 refine ⟨fun ψ S w a hr => ?_⟩
 have h := draw_sto_at (Q := fun e a' w' => e = .normal /\ ∃ st' ψ' S', Q e st' /\ Rel P base ψ' S' w' st' a' /\ Ext base ψ S w ψ' S' w') (TT.tysOk ht) (TT.zeros ht) (sums_ok hl) (vcCall_ok (sums_ok hl) base) hmix hr hid (stoB_ok hsb) hm hd (K := Q .normal) (id := id)
  (K1 := fun st1 => Tl (fun s => vcP P t.get (vcCall P (sums l) base) ops.toList p st1 fun st' => normK live st' fun s' => s' = s) fun s => Q .normal s) hk ?_ ?_
 . exact wp_mono h fun e a' w' h => h.2
 . intro listed ψ1 S1 w1 st1 a1 hk1 hsz hls hrel hq
   obtain ⟨s, hv, hs⟩ := hk1.run trivial
   have e : listed = ((List.range ops.size).map fun j => Nat.blt j m).toArray := by
    apply Array.ext
    . simp [hsz]
    . intro i h1 h2
      have := hls i
      simp only [Array.getD, h1, dite_true] at this
      simp only [List.getElem_toArray, List.getElem_map, List.getElem_range]
      rw [show listed[i] = decide (i < m) from this]
      rw [Bool.eq_iff_iff, decide_eq_true_eq, Nat.blt_eq]
   rw [<- e] at hpl
   refine vcP_ok (TT.tysOk ht) (TT.zeros ht) (vcCall_ok (sums_ok hl) base) hsel (fun c a w h => by simp at h) p _ listed ψ1 S1 w1 st1 a1 _ hpl hrel hv ?_
   intro st' ψ' S' w' a' h1 h2 h3
   have h1 : normK live st' (fun s' => s' = s) := h1
   rw [normK_eq] at h1
   refine hq s ψ' S' w' a' hs ?_ h3
   rw [<- h1]; exact h2.norm live
 . intro st' ψ' S' w' a' h1 h2 h3
   exact ⟨rfl, st', ψ', S', h1, h2, h3⟩
end Go.Sx
namespace Go.Proofs.YthkknkhpfffnbaaGreat
open Go.Sx
structure Sv where
 e : En
 v : Vl
abbrev Sv.ar (s : Sv) : Ar := .agg [.d (bo s.e.live), .d (lstB s.e.binds), .d (bo s.v.i.s.some), .d (it s.v.i.s.lo), .d (it s.v.i.s.hi), .d (bo s.v.i.c.some), .d (it s.v.i.c.m), .d (it s.v.i.c.r), .d (bo s.v.t.null), .d (lst s.v.t.names)]
namespace Sv
def clean (s : Sv) : Sv := ⟨s.e.clean, s.v.of⟩
def none (s : Sv) : Bool := !s.e.live && Vl.none s.v
def leq (a b : Sv) : Bool := En.leq a.e b.e && Vl.leq a.v b.v
end Sv
def FTClean : List Ar -> Option Rs
 | [.agg [.d (.v (.bool e0)), .d (.lst 9 n0 f0), .d (.v (.bool s0)), .d (.v (.int .i64 l0)), .d (.v (.int .i64 h0)), .d (.v (.bool b0)), .d (.v (.int .i64 m0)), .d (.v (.int .i64 r0)), .d (.v (.bool z0)), .d (.lst 1 p0 g0)]] => some ⟨((n0 <= 1099511627776 /\ RowsOk n0 f0) /\ ((p0 * 16 <= 140737488351232 /\ ∀ i, i < p0 -> g0 i = [st (gT (g0 i))]) /\ Sp.inR ⟨s0, l0, h0⟩ /\ Cg.inR ⟨b0, m0, r0⟩)), .va (Sv.ar (Sv.clean (⟨⟨e0, gBs n0 f0⟩, ⟨⟨⟨s0, l0, h0⟩, ⟨b0, m0, r0⟩⟩, ⟨z0, gN p0 g0⟩⟩⟩ : Sv))), []⟩
 | _ => none
theorem fcTClean : FC Tryz.prog 48 FTClean := by
 intro xs pre r us h hp
 unfold FTClean at h
 split at h
 . rename_i e0 n0 f0 s0 l0 h0 b0 m0 r0 z0 p0 g0
   cases h
   have hp0 := hp
   refine FCat.deep (ys := [.agg [.d (.v (.bool e0)), .d (.lst 9 n0 (rwB (gBs n0 f0))), .d (.v (.bool s0)), .d (.v (.int .i64 l0)), .d (.v (.int .i64 h0)), .d (.v (.bool b0)), .d (.v (.int .i64 m0)), .d (.v (.int .i64 r0)), .d (.v (.bool z0)), .d (.lst 1 p0 fun i => [st (gT (g0 i))])]]) ?_ ?_
   . repeat' (first | exact trivial | exact rfl | exact DvE.refl _ | refine ⟨?_, ?_⟩ | fail)
     all_goals first | first | exact canonB hp0.1.2.h | (exact .rows fun i hi => by rw [hp0.2.1.2 i hi]; exact ⟨rfl, fun j a b ha hb => by have hb : [st (gT (g0 i))][j]? = some b := hb; rw [ha] at hb; cases hb; exact .refl _⟩)
   refine fcat tys_ok (l := [(22, ⟨[], FEClean⟩), (62, ⟨[], FVCleanV⟩)]) ⟨fcEClean, fcVCleanV, trivial⟩ Tryz.func48 rfl (by kernel_rfl) true ?_
   have hA0 := hp0.1
   have hV0 := hp0.2
   have hvR0 := hV0.2
   simp only [Sp.inR, Cg.inR] at hvR0
   have hL0 := okL_rows hA0.2
   have hn0 := hA0.1
   have hlen0 := gBs_length n0 f0
   generalize gBs n0 f0 = L at *
   clear hA0 hp0
   subst hlen0
   have hrow0 := okL_row hL0
   have hvok0 : okV (⟨⟨⟨s0, l0, h0⟩, ⟨b0, m0, r0⟩⟩, ⟨z0, gN p0 fun i => [st (gT (g0 i))]⟩⟩ : Vl) := ⟨⟨(by rw [gN_length]; exact hV0.1.1), fun _ _ => rfl⟩, hV0.2⟩
   have hcr0 := okL_row (clean_ok (e := ⟨e0, L⟩) hL0)
   have hcl0 : (En.clean ⟨e0, L⟩).binds.length <= L.length := clean_len ⟨e0, L⟩
   repeat' (first | exact trivial | refine ⟨?_, ?_⟩ | intro _)
   all_goals first | (with_reducible first | apply qa | apply qb | apply qc | apply qd) | (conv => whnf)
   all_goals (try simp only [gBs_row, gN_lst])
   all_goals first | exact hrow0 | exact hn0 | exact hV0.1.1 | exact hvR0.1.1 | exact hvR0.1.2 | exact hvR0.2.1 | exact hvR0.2.2 | exact hcr0 | omega | (intro i hi; rfl) | rfl
 . cases h
def FTNone : List Ar -> Option Rs
 | [.agg [.d (.v (.bool e0)), .d (.lst 9 n0 f0), .d (.v (.bool s0)), .d (.v (.int .i64 l0)), .d (.v (.int .i64 h0)), .d (.v (.bool b0)), .d (.v (.int .i64 m0)), .d (.v (.int .i64 r0)), .d (.v (.bool z0)), .d (.lst 1 p0 g0)]] => some ⟨((n0 <= 1099511627776 /\ RowsOk n0 f0) /\ ((p0 * 16 <= 140737488351232 /\ ∀ i, i < p0 -> g0 i = [st (gT (g0 i))]) /\ Sp.inR ⟨s0, l0, h0⟩ /\ Cg.inR ⟨b0, m0, r0⟩)), .va (.c (.d (bo (Sv.none (⟨⟨e0, gBs n0 f0⟩, ⟨⟨⟨s0, l0, h0⟩, ⟨b0, m0, r0⟩⟩, ⟨z0, gN p0 g0⟩⟩⟩ : Sv))))), []⟩
 | _ => none
theorem fcTNone : FC Tryz.prog 50 FTNone := by
 intro xs pre r us h hp
 unfold FTNone at h
 split at h
 . rename_i e0 n0 f0 s0 l0 h0 b0 m0 r0 z0 p0 g0
   cases h
   have hp0 := hp
   refine FCat.deep (ys := [.agg [.d (.v (.bool e0)), .d (.lst 9 n0 (rwB (gBs n0 f0))), .d (.v (.bool s0)), .d (.v (.int .i64 l0)), .d (.v (.int .i64 h0)), .d (.v (.bool b0)), .d (.v (.int .i64 m0)), .d (.v (.int .i64 r0)), .d (.v (.bool z0)), .d (.lst 1 p0 fun i => [st (gT (g0 i))])]]) ?_ ?_
   . repeat' (first | exact trivial | exact rfl | exact DvE.refl _ | refine ⟨?_, ?_⟩ | fail)
     all_goals first | first | exact canonB hp0.1.2.h | (exact .rows fun i hi => by rw [hp0.2.1.2 i hi]; exact ⟨rfl, fun j a b ha hb => by have hb : [st (gT (g0 i))][j]? = some b := hb; rw [ha] at hb; cases hb; exact .refl _⟩)
   refine fcat tys_ok (l := [(103, ⟨[], FVNoneV⟩)]) ⟨fcVNoneV, trivial⟩ Tryz.func50 rfl (by kernel_rfl) true ?_
   have hA0 := hp0.1
   have hV0 := hp0.2
   have hvR0 := hV0.2
   simp only [Sp.inR, Cg.inR] at hvR0
   have hL0 := okL_rows hA0.2
   have hn0 := hA0.1
   have hlen0 := gBs_length n0 f0
   generalize gBs n0 f0 = L at *
   clear hA0 hp0
   subst hlen0
   have hrow0 := okL_row hL0
   have hvok0 : okV (⟨⟨⟨s0, l0, h0⟩, ⟨b0, m0, r0⟩⟩, ⟨z0, gN p0 fun i => [st (gT (g0 i))]⟩⟩ : Vl) := ⟨⟨(by rw [gN_length]; exact hV0.1.1), fun _ _ => rfl⟩, hV0.2⟩
   have hcr0 := okL_row (clean_ok (e := ⟨e0, L⟩) hL0)
   have hcl0 : (En.clean ⟨e0, L⟩).binds.length <= L.length := clean_len ⟨e0, L⟩
   repeat' (first | exact trivial | refine ⟨?_, ?_⟩ | intro _)
   all_goals first | (with_reducible first | apply qa | apply qb | apply qc | apply qd) | (conv => whnf)
   all_goals (try simp only [gBs_row, gN_lst] at *)
   all_goals first | exact hrow0 | exact hn0 | exact hV0.1.1 | exact hvR0.1.1 | exact hvR0.1.2 | exact hvR0.2.1 | exact hvR0.2.2 | exact hcr0 | omega | (intro i hi; rfl) | rfl | (obtain rfl : e0 = false := nbF ‹(!e0) = true›; rfl) | (obtain rfl : e0 = true := nbT ‹(!e0) = false›; rfl)
 . cases h
abbrev enC (e : En) : List DV := [bo e.live, lstB e.binds]
def gEq (gz : List Cv -> Option Gs) (a b z : List DV) : Prop := ∃ p : Prop, gz [.agg a, .agg b] = some ⟨p, .va (.agg z)⟩ /\ p
theorem gEq_of {gz : List Cv -> Option Gs} {a b z z' : List DV} {p : Prop} (h : gz [.agg a, .agg b] = some ⟨p, .va (.agg z')⟩) (hz : z' = z) (hp : p) : gEq gz a b z := by subst hz; exact ⟨p, h, hp⟩
abbrev gEJ : List Cv -> Option Gs := mkFv (sums [(44, ⟨[], FEJoin⟩)]) 44 []
theorem gEJ_ok {a b : En} (ha : a.binds.length <= 1099511627776 /\ RowsOk a.binds.length (rwB a.binds)) (hb : b.binds.length <= 1099511627776 /\ RowsOk b.binds.length (rwB b.binds)) (hr : Room a.binds b.binds) (hs : a.binds.length + b.binds.length <= 1099511627776) : gEq gEJ (enC a) (enC b) (enC (En.join a b)) :=
 gEq_of (z' := enC (En.join ⟨a.live, gBs a.binds.length (rwB a.binds)⟩ ⟨b.live, gBs b.binds.length (rwB b.binds)⟩)) rfl (by rw [gBs_row, gBs_row]) ⟨ha, hb, by rw [gBs_row, gBs_row]; exact hr, hs⟩
def FTParts (R : En) (W : Vl) (ge : List Cv -> Option Gs) (gv : List Cv -> Option Gs) : List Ar -> Option Rs
 | [.agg [.d (.v (.bool e0)), .d (.lst 9 n0 f0), .d (.v (.bool s0)), .d (.v (.int .i64 l0)), .d (.v (.int .i64 h0)), .d (.v (.bool b0)), .d (.v (.int .i64 m0)), .d (.v (.int .i64 r0)), .d (.v (.bool z0)), .d (.lst 1 p0 g0)], .agg [.d (.v (.bool e1)), .d (.lst 9 n1 f1), .d (.v (.bool s1)), .d (.v (.int .i64 l1)), .d (.v (.int .i64 h1)), .d (.v (.bool b1)), .d (.v (.int .i64 m1)), .d (.v (.int .i64 r1)), .d (.v (.bool z1)), .d (.lst 1 p1 g1)], .fv g2, .fv g3] => some ⟨((n0 <= 1099511627776 /\ RowsOk n0 f0) /\ ((p0 * 16 <= 140737488351232 /\ ∀ i, i < p0 -> g0 i = [st (gT (g0 i))]) /\ Sp.inR ⟨s0, l0, h0⟩ /\ Cg.inR ⟨b0, m0, r0⟩)) /\ ((n1 <= 1099511627776 /\ RowsOk n1 f1) /\ ((p1 * 16 <= 140737488351232 /\ ∀ i, i < p1 -> g1 i = [st (gT (g1 i))]) /\ Sp.inR ⟨s1, l1, h1⟩ /\ Cg.inR ⟨b1, m1, r1⟩)) /\ (g2 = ge /\ g3 = gv /\ gEq ge (enC (Sv.e (⟨⟨e0, gBs n0 f0⟩, ⟨⟨⟨s0, l0, h0⟩, ⟨b0, m0, r0⟩⟩, ⟨z0, gN p0 g0⟩⟩⟩ : Sv))) (enC (Sv.e (⟨⟨e1, gBs n1 f1⟩, ⟨⟨⟨s1, l1, h1⟩, ⟨b1, m1, r1⟩⟩, ⟨z1, gN p1 g1⟩⟩⟩ : Sv))) (enC R) /\ gEq gv [bo s0, it l0, it h0, bo b0, it m0, it r0, bo z0, .lst 1 p0 fun i => [st (gT (g0 i))]] [bo s1, it l1, it h1, bo b1, it m1, it r1, bo z1, .lst 1 p1 fun i => [st (gT (g1 i))]] (vlC W) /\ okL R.binds /\ R.binds.length <= 1099511627776 /\ okV W), .va (Sv.ar (Sv.clean ⟨R, W⟩)), []⟩
 | _ => none
theorem fcTParts (R : En) (W : Vl) (ge : List Cv -> Option Gs) (gv : List Cv -> Option Gs) : FC Tryz.prog 104 (FTParts R W ge gv) := by
 intro xs pre r us h hp
 unfold FTParts at h
 split at h
 . rename_i e0 n0 f0 s0 l0 h0 b0 m0 r0 z0 p0 g0 e1 n1 f1 s1 l1 h1 b1 m1 r1 z1 p1 g1 g2 g3
   cases h
   obtain ⟨hp0, hp1, hp2⟩ := hp
   refine FCat.deep (ys := [.agg [.d (.v (.bool e0)), .d (.lst 9 n0 (rwB (gBs n0 f0))), .d (.v (.bool s0)), .d (.v (.int .i64 l0)), .d (.v (.int .i64 h0)), .d (.v (.bool b0)), .d (.v (.int .i64 m0)), .d (.v (.int .i64 r0)), .d (.v (.bool z0)), .d (.lst 1 p0 fun i => [st (gT (g0 i))])], .agg [.d (.v (.bool e1)), .d (.lst 9 n1 (rwB (gBs n1 f1))), .d (.v (.bool s1)), .d (.v (.int .i64 l1)), .d (.v (.int .i64 h1)), .d (.v (.bool b1)), .d (.v (.int .i64 m1)), .d (.v (.int .i64 r1)), .d (.v (.bool z1)), .d (.lst 1 p1 fun i => [st (gT (g1 i))])], .fv g2, .fv g3]) ?_ ?_
   . repeat' (first | exact trivial | exact rfl | exact DvE.refl _ | refine ⟨?_, ?_⟩ | fail)
     all_goals first | first | exact canonB hp0.1.2.h | (exact .rows fun i hi => by rw [hp0.2.1.2 i hi]; exact ⟨rfl, fun j a b ha hb => by have hb : [st (gT (g0 i))][j]? = some b := hb; rw [ha] at hb; cases hb; exact .refl _⟩) | exact canonB hp1.1.2.h | (exact .rows fun i hi => by rw [hp1.2.1.2 i hi]; exact ⟨rfl, fun j a b ha hb => by have hb : [st (gT (g1 i))][j]? = some b := hb; rw [ha] at hb; cases hb; exact .refl _⟩)
   refine fcat tys_ok (l := [(48, ⟨[], FTClean⟩)]) ⟨fcTClean, trivial⟩ Tryz.func104 rfl (by kernel_rfl) true ?_
   obtain ⟨rfl, rfl, ⟨pe, hge, hpe⟩, ⟨pv, hgv, hpv⟩, hoR, hlR, hoW⟩ := hp2
   have hA0 := hp0.1
   have hV0 := hp0.2
   have hvR0 := hV0.2
   simp only [Sp.inR, Cg.inR] at hvR0
   have hL0 := okL_rows hA0.2
   have hn0 := hA0.1
   have hlen0 := gBs_length n0 f0
   generalize gBs n0 f0 = L at *
   clear hA0 hp0
   subst hlen0
   have hrow0 := okL_row hL0
   have hvok0 : okV (⟨⟨⟨s0, l0, h0⟩, ⟨b0, m0, r0⟩⟩, ⟨z0, gN p0 fun i => [st (gT (g0 i))]⟩⟩ : Vl) := ⟨⟨(by rw [gN_length]; exact hV0.1.1), fun _ _ => rfl⟩, hV0.2⟩
   have hcr0 := okL_row (clean_ok (e := ⟨e0, L⟩) hL0)
   have hcl0 : (En.clean ⟨e0, L⟩).binds.length <= L.length := clean_len ⟨e0, L⟩
   have hA1 := hp1.1
   have hV1 := hp1.2
   have hvR1 := hV1.2
   simp only [Sp.inR, Cg.inR] at hvR1
   have hL1 := okL_rows hA1.2
   have hn1 := hA1.1
   have hlen1 := gBs_length n1 f1
   generalize gBs n1 f1 = M at *
   clear hA1 hp1
   subst hlen1
   have hrow1 := okL_row hL1
   have hvok1 : okV (⟨⟨⟨s1, l1, h1⟩, ⟨b1, m1, r1⟩⟩, ⟨z1, gN p1 fun i => [st (gT (g1 i))]⟩⟩ : Vl) := ⟨⟨(by rw [gN_length]; exact hV1.1.1), fun _ _ => rfl⟩, hV1.2⟩
   have hcr1 := okL_row (clean_ok (e := ⟨e1, M⟩) hL1)
   have hcl1 : (En.clean ⟨e1, M⟩).binds.length <= M.length := clean_len ⟨e1, M⟩
   have hrR := okL_row hoR
   have hoW2 := hoW
   unfold okV at hoW2
   have hoWr := hoW2.2
   simp only [Sp.inR, Cg.inR] at hoWr
   dsimp only at hge hgv
   simp only [enC, vlC, gN_length] at hge hgv
   have hgv2 : ∀ i, [st (atS (gN p0 g0) i)] = [st (atS (gN p0 g0) i)] := fun _ => rfl
   repeat' (first | exact trivial | refine ⟨?_, ?_⟩ | intro _)
   all_goals first | (with_reducible first | apply qa | apply qb | apply qc | apply qd) | (conv => whnf)
   all_goals (try simp only [hge])
   all_goals repeat' (first | exact trivial | (with_reducible exact hpe) | refine ⟨?_, ?_⟩ | intro _)
   all_goals first | (with_reducible first | apply qa | apply qb | apply qc | apply qd) | (conv => whnf)
   all_goals (try simp only [hgv])
   all_goals repeat' (first | exact trivial | (with_reducible exact hpv) | refine ⟨?_, ?_⟩ | intro _)
   all_goals first | (with_reducible first | apply qa | apply qb | apply qc | apply qd) | (conv => whnf)
   all_goals (try simp only [gBs_row, gN_lst])
   all_goals first | exact hrR | exact hlR | exact hoW2.1.1 | exact hoWr.1.1 | exact hoWr.1.2 | exact hoWr.2.1 | exact hoWr.2.2 | omega | (intro i hi; rfl) | rfl
 . cases h
namespace Sv
def join (a b : Sv) : Sv := clean ⟨En.join a.e b.e, Vl.join a.v b.v⟩
end Sv
theorem vjoin_ok {x y : Vl} (hx : okV x) (hy : okV y) (hq : QJ x y) : okV (Vl.join x y) := by rw [Vl.join_eq]; exact okV_rj hx hy hq
def FTJoin : List Ar -> Option Rs
 | [.agg [.d (.v (.bool e0)), .d (.lst 9 n0 f0), .d (.v (.bool s0)), .d (.v (.int .i64 l0)), .d (.v (.int .i64 h0)), .d (.v (.bool b0)), .d (.v (.int .i64 m0)), .d (.v (.int .i64 r0)), .d (.v (.bool z0)), .d (.lst 1 p0 g0)], .agg [.d (.v (.bool e1)), .d (.lst 9 n1 f1), .d (.v (.bool s1)), .d (.v (.int .i64 l1)), .d (.v (.int .i64 h1)), .d (.v (.bool b1)), .d (.v (.int .i64 m1)), .d (.v (.int .i64 r1)), .d (.v (.bool z1)), .d (.lst 1 p1 g1)]] => some ⟨((n0 <= 1099511627776 /\ RowsOk n0 f0) /\ ((p0 * 16 <= 140737488351232 /\ ∀ i, i < p0 -> g0 i = [st (gT (g0 i))]) /\ Sp.inR ⟨s0, l0, h0⟩ /\ Cg.inR ⟨b0, m0, r0⟩)) /\ ((n1 <= 1099511627776 /\ RowsOk n1 f1) /\ ((p1 * 16 <= 140737488351232 /\ ∀ i, i < p1 -> g1 i = [st (gT (g1 i))]) /\ Sp.inR ⟨s1, l1, h1⟩ /\ Cg.inR ⟨b1, m1, r1⟩)) /\ (Room (Sv.e (⟨⟨e0, gBs n0 f0⟩, ⟨⟨⟨s0, l0, h0⟩, ⟨b0, m0, r0⟩⟩, ⟨z0, gN p0 g0⟩⟩⟩ : Sv)).binds (Sv.e (⟨⟨e1, gBs n1 f1⟩, ⟨⟨⟨s1, l1, h1⟩, ⟨b1, m1, r1⟩⟩, ⟨z1, gN p1 g1⟩⟩⟩ : Sv)).binds /\ QJ (Sv.v (⟨⟨e0, gBs n0 f0⟩, ⟨⟨⟨s0, l0, h0⟩, ⟨b0, m0, r0⟩⟩, ⟨z0, gN p0 g0⟩⟩⟩ : Sv)) (Sv.v (⟨⟨e1, gBs n1 f1⟩, ⟨⟨⟨s1, l1, h1⟩, ⟨b1, m1, r1⟩⟩, ⟨z1, gN p1 g1⟩⟩⟩ : Sv)) /\ n0 + n1 <= 1099511627776), .va (Sv.ar (Sv.join (⟨⟨e0, gBs n0 f0⟩, ⟨⟨⟨s0, l0, h0⟩, ⟨b0, m0, r0⟩⟩, ⟨z0, gN p0 g0⟩⟩⟩ : Sv) (⟨⟨e1, gBs n1 f1⟩, ⟨⟨⟨s1, l1, h1⟩, ⟨b1, m1, r1⟩⟩, ⟨z1, gN p1 g1⟩⟩⟩ : Sv))), []⟩
 | _ => none
theorem fcTJoin : FC Tryz.prog 52 FTJoin := by
 intro xs pre r us h hp
 unfold FTJoin at h
 split at h
 . rename_i e0 n0 f0 s0 l0 h0 b0 m0 r0 z0 p0 g0 e1 n1 f1 s1 l1 h1 b1 m1 r1 z1 p1 g1
   cases h
   obtain ⟨hp0, hp1, hp2⟩ := hp
   refine FCat.deep (ys := [.agg [.d (.v (.bool e0)), .d (.lst 9 n0 (rwB (gBs n0 f0))), .d (.v (.bool s0)), .d (.v (.int .i64 l0)), .d (.v (.int .i64 h0)), .d (.v (.bool b0)), .d (.v (.int .i64 m0)), .d (.v (.int .i64 r0)), .d (.v (.bool z0)), .d (.lst 1 p0 fun i => [st (gT (g0 i))])], .agg [.d (.v (.bool e1)), .d (.lst 9 n1 (rwB (gBs n1 f1))), .d (.v (.bool s1)), .d (.v (.int .i64 l1)), .d (.v (.int .i64 h1)), .d (.v (.bool b1)), .d (.v (.int .i64 m1)), .d (.v (.int .i64 r1)), .d (.v (.bool z1)), .d (.lst 1 p1 fun i => [st (gT (g1 i))])]]) ?_ ?_
   . repeat' (first | exact trivial | exact rfl | exact DvE.refl _ | refine ⟨?_, ?_⟩ | fail)
     all_goals first | first | exact canonB hp0.1.2.h | (exact .rows fun i hi => by rw [hp0.2.1.2 i hi]; exact ⟨rfl, fun j a b ha hb => by have hb : [st (gT (g0 i))][j]? = some b := hb; rw [ha] at hb; cases hb; exact .refl _⟩) | exact canonB hp1.1.2.h | (exact .rows fun i hi => by rw [hp1.2.1.2 i hi]; exact ⟨rfl, fun j a b ha hb => by have hb : [st (gT (g1 i))][j]? = some b := hb; rw [ha] at hb; cases hb; exact .refl _⟩)
   refine fcat tys_ok (l := [(104, ⟨[], (FTParts (En.join ⟨e0, gBs n0 (rwB (gBs n0 f0))⟩ ⟨e1, gBs n1 (rwB (gBs n1 f1))⟩) (Vl.join (⟨⟨⟨s0, l0, h0⟩, ⟨b0, m0, r0⟩⟩, ⟨z0, gN p0 fun i => [st (gT (g0 i))]⟩⟩ : Vl) (⟨⟨⟨s1, l1, h1⟩, ⟨b1, m1, r1⟩⟩, ⟨z1, gN p1 fun i => [st (gT (g1 i))]⟩⟩ : Vl)) gEJ gJoin)⟩), (44, ⟨[], FEJoin⟩), (95, ⟨[], FN 1 FVJoin⟩)]) ⟨(fcTParts (En.join ⟨e0, gBs n0 (rwB (gBs n0 f0))⟩ ⟨e1, gBs n1 (rwB (gBs n1 f1))⟩) (Vl.join (⟨⟨⟨s0, l0, h0⟩, ⟨b0, m0, r0⟩⟩, ⟨z0, gN p0 fun i => [st (gT (g0 i))]⟩⟩ : Vl) (⟨⟨⟨s1, l1, h1⟩, ⟨b1, m1, r1⟩⟩, ⟨z1, gN p1 fun i => [st (gT (g1 i))]⟩⟩ : Vl)) gEJ gJoin), fcEJoin, fc_nil 1 fcVJoin, trivial⟩ Tryz.func52 rfl (by kernel_rfl) true ?_
   obtain ⟨hroom, hqj, hsum⟩ := hp2
   dsimp only at hroom
   have hA0 := hp0.1
   have hV0 := hp0.2
   have hvR0 := hV0.2
   simp only [Sp.inR, Cg.inR] at hvR0
   have hL0 := okL_rows hA0.2
   have hn0 := hA0.1
   have hlen0 := gBs_length n0 f0
   generalize gBs n0 f0 = L at *
   clear hA0 hp0
   subst hlen0
   have hrow0 := okL_row hL0
   have hvok0 : okV (⟨⟨⟨s0, l0, h0⟩, ⟨b0, m0, r0⟩⟩, ⟨z0, gN p0 fun i => [st (gT (g0 i))]⟩⟩ : Vl) := ⟨⟨(by rw [gN_length]; exact hV0.1.1), fun _ _ => rfl⟩, hV0.2⟩
   have hcr0 := okL_row (clean_ok (e := ⟨e0, L⟩) hL0)
   have hcl0 : (En.clean ⟨e0, L⟩).binds.length <= L.length := clean_len ⟨e0, L⟩
   have hA1 := hp1.1
   have hV1 := hp1.2
   have hvR1 := hV1.2
   simp only [Sp.inR, Cg.inR] at hvR1
   have hL1 := okL_rows hA1.2
   have hn1 := hA1.1
   have hlen1 := gBs_length n1 f1
   generalize gBs n1 f1 = M at *
   clear hA1 hp1
   subst hlen1
   have hrow1 := okL_row hL1
   have hvok1 : okV (⟨⟨⟨s1, l1, h1⟩, ⟨b1, m1, r1⟩⟩, ⟨z1, gN p1 fun i => [st (gT (g1 i))]⟩⟩ : Vl) := ⟨⟨(by rw [gN_length]; exact hV1.1.1), fun _ _ => rfl⟩, hV1.2⟩
   have hcr1 := okL_row (clean_ok (e := ⟨e1, M⟩) hL1)
   have hcl1 : (En.clean ⟨e1, M⟩).binds.length <= M.length := clean_len ⟨e1, M⟩
   have hqj2 : QJ (⟨⟨⟨s0, l0, h0⟩, ⟨b0, m0, r0⟩⟩, ⟨z0, gN p0 fun i => [st (gT (g0 i))]⟩⟩ : Vl) (⟨⟨⟨s1, l1, h1⟩, ⟨b1, m1, r1⟩⟩, ⟨z1, gN p1 fun i => [st (gT (g1 i))]⟩⟩ : Vl) := hqj
   have hsumV : (p0 + p1) * 16 <= 140737488351232 := by have := hqj; unfold QJ at this; simpa [gN_length] using this
   have hge := gEJ_ok (a := ⟨e0, gBs L.length (rwB L)⟩) (b := ⟨e1, gBs M.length (rwB M)⟩) (by rw [gBs_row]; exact ⟨hn0, hrow0⟩) (by rw [gBs_row]; exact ⟨hn1, hrow1⟩) (by rw [gBs_row, gBs_row]; exact hroom) (by rw [gBs_row, gBs_row]; exact hsum)
   have hokR : okL (En.join ⟨e0, gBs L.length (rwB L)⟩ ⟨e1, gBs M.length (rwB M)⟩).binds := join_okL (by rw [gBs_row]; exact hL0) (by rw [gBs_row]; exact hL1) (by rw [gBs_row, gBs_row]; exact hroom)
   have hlR : (En.join ⟨e0, gBs L.length (rwB L)⟩ ⟨e1, gBs M.length (rwB M)⟩).binds.length <= 1099511627776 := Nat.le_trans (join_len _ _) (by rw [gBs_row, gBs_row]; exact hsum)
   have hokW := vjoin_ok hvok0 hvok1 hqj2
   have hgv : gEq gJoin [bo s0, it l0, it h0, bo b0, it m0, it r0, bo z0, .lst 1 p0 fun i => [st (gT [st (gT (g0 i))])]] [bo s1, it l1, it h1, bo b1, it m1, it r1, bo z1, .lst 1 p1 fun i => [st (gT [st (gT (g1 i))])]] (vlC (Vl.join (⟨⟨⟨s0, l0, h0⟩, ⟨b0, m0, r0⟩⟩, ⟨z0, gN p0 fun i => [st (gT (g0 i))]⟩⟩ : Vl) (⟨⟨⟨s1, l1, h1⟩, ⟨b1, m1, r1⟩⟩, ⟨z1, gN p1 fun i => [st (gT (g1 i))]⟩⟩ : Vl))) := gEq_of rfl rfl ⟨⟨⟨hV0.1.1, fun i hi => rfl⟩, hV0.2⟩, ⟨⟨hV1.1.1, fun i hi => rfl⟩, hV1.2⟩, hsumV⟩
   repeat' (first | exact trivial | (with_reducible first | exact hge | exact hgv | exact hokR | exact hokW | exact hlR) | refine ⟨?_, ?_⟩ | intro _)
   all_goals first | (with_reducible first | apply qa | apply qb | apply qc | apply qd) | (conv => whnf)
   all_goals (try simp only [gBs_row, gN_lst])
   all_goals first | exact hlR | (rw [gBs_row, gBs_row] at hlR; exact hlR) | exact hrow0 | exact hn0 | exact hV0.1.1 | exact hvR0.1.1 | exact hvR0.1.2 | exact hvR0.2.1 | exact hvR0.2.2 | exact hcr0 | exact hrow1 | exact hn1 | exact hV1.1.1 | exact hvR1.1.1 | exact hvR1.1.2 | exact hvR1.2.1 | exact hvR1.2.2 | exact hcr1 | omega | (intro i hi; rfl) | rfl
 . cases h
namespace Sv
def rclean (s : Sv) : Sv := ⟨s.e.rclean, s.v.rclean⟩
def rnone (s : Sv) : Bool := !s.e.live && Vl.rnone s.v
def rleq (a b : Sv) : Bool := En.rleq a.e b.e && Vl.rleq a.v b.v
def rop (op : Int) (a b : Sv) (l : List Int) : Sv := ⟨En.rop op a.e b.e l, En.vop op l a.v b.v⟩
end Sv
def FRTClean : List Ar -> Option Rs
 | [.agg [.d (.v (.bool e0)), .d (.lst 9 n0 f0), .d (.v (.bool s0)), .d (.v (.int .i64 l0)), .d (.v (.int .i64 h0)), .d (.v (.bool b0)), .d (.v (.int .i64 m0)), .d (.v (.int .i64 r0)), .d (.v (.bool z0)), .d (.lst 1 p0 g0)]] => some ⟨((n0 <= 1099511627776 /\ RowsOk n0 f0) /\ ((p0 * 16 <= 140737488351232 /\ ∀ i, i < p0 -> g0 i = [st (gT (g0 i))]) /\ Sp.inR ⟨s0, l0, h0⟩ /\ Cg.inR ⟨b0, m0, r0⟩)), .va (Sv.ar (Sv.rclean (⟨⟨e0, gBs n0 f0⟩, ⟨⟨⟨s0, l0, h0⟩, ⟨b0, m0, r0⟩⟩, ⟨z0, gN p0 g0⟩⟩⟩ : Sv))), []⟩
 | _ => none
theorem fcRTClean : FC Tryz.prog 49 FRTClean := by
 intro xs pre r us h hp
 unfold FRTClean at h
 split at h
 . rename_i e0 n0 f0 s0 l0 h0 b0 m0 r0 z0 p0 g0
   cases h
   have hp0 := hp
   refine FCat.deep (ys := [.agg [.d (.v (.bool e0)), .d (.lst 9 n0 (rwB (gBs n0 f0))), .d (.v (.bool s0)), .d (.v (.int .i64 l0)), .d (.v (.int .i64 h0)), .d (.v (.bool b0)), .d (.v (.int .i64 m0)), .d (.v (.int .i64 r0)), .d (.v (.bool z0)), .d (.lst 1 p0 fun i => [st (gT (g0 i))])]]) ?_ ?_
   . repeat' (first | exact trivial | exact rfl | exact DvE.refl _ | refine ⟨?_, ?_⟩ | fail)
     all_goals first | first | exact canonB hp0.1.2.h | (exact .rows fun i hi => by rw [hp0.2.1.2 i hi]; exact ⟨rfl, fun j a b ha hb => by have hb : [st (gT (g0 i))][j]? = some b := hb; rw [ha] at hb; cases hb; exact .refl _⟩)
   refine fcat tys_ok (l := [(20, ⟨[], FREClean⟩), (27, ⟨[], FRVClean⟩)]) ⟨fcREClean, fcRVClean, trivial⟩ Tryz.func49 rfl (by kernel_rfl) true ?_
   have hA0 := hp0.1
   have hV0 := hp0.2
   have hvR0 := hV0.2
   simp only [Sp.inR, Cg.inR] at hvR0
   have hL0 := okL_rows hA0.2
   have hn0 := hA0.1
   have hlen0 := gBs_length n0 f0
   generalize gBs n0 f0 = L at *
   clear hA0 hp0
   subst hlen0
   have hrow0 := okL_row hL0
   have hvok0 : okV (⟨⟨⟨s0, l0, h0⟩, ⟨b0, m0, r0⟩⟩, ⟨z0, gN p0 fun i => [st (gT (g0 i))]⟩⟩ : Vl) := ⟨⟨(by rw [gN_length]; exact hV0.1.1), fun _ _ => rfl⟩, hV0.2⟩
   have hcr0 := okL_row (clean_ok (e := ⟨e0, L⟩) hL0)
   have hcl0 : (En.clean ⟨e0, L⟩).binds.length <= L.length := clean_len ⟨e0, L⟩
   repeat' (first | exact trivial | refine ⟨?_, ?_⟩ | intro _)
   all_goals first | (with_reducible first | apply qa | apply qb | apply qc | apply qd) | (conv => whnf)
   all_goals (try simp only [gBs_row, gN_lst])
   all_goals first | exact hrow0 | exact hn0 | exact hV0.1.1 | exact hvR0.1.1 | exact hvR0.1.2 | exact hvR0.2.1 | exact hvR0.2.2 | exact hcr0 | omega | (intro i hi; rfl) | rfl
 . cases h
def FRTNone : List Ar -> Option Rs
 | [.agg [.d (.v (.bool e0)), .d (.lst 9 n0 f0), .d (.v (.bool s0)), .d (.v (.int .i64 l0)), .d (.v (.int .i64 h0)), .d (.v (.bool b0)), .d (.v (.int .i64 m0)), .d (.v (.int .i64 r0)), .d (.v (.bool z0)), .d (.lst 1 p0 g0)]] => some ⟨((n0 <= 1099511627776 /\ RowsOk n0 f0) /\ ((p0 * 16 <= 140737488351232 /\ ∀ i, i < p0 -> g0 i = [st (gT (g0 i))]) /\ Sp.inR ⟨s0, l0, h0⟩ /\ Cg.inR ⟨b0, m0, r0⟩)), .va (.c (.d (bo (Sv.rnone (⟨⟨e0, gBs n0 f0⟩, ⟨⟨⟨s0, l0, h0⟩, ⟨b0, m0, r0⟩⟩, ⟨z0, gN p0 g0⟩⟩⟩ : Sv))))), []⟩
 | _ => none
theorem fcRTNone : FC Tryz.prog 31 FRTNone := by
 intro xs pre r us h hp
 unfold FRTNone at h
 split at h
 . rename_i e0 n0 f0 s0 l0 h0 b0 m0 r0 z0 p0 g0
   cases h
   have hp0 := hp
   refine FCat.deep (ys := [.agg [.d (.v (.bool e0)), .d (.lst 9 n0 (rwB (gBs n0 f0))), .d (.v (.bool s0)), .d (.v (.int .i64 l0)), .d (.v (.int .i64 h0)), .d (.v (.bool b0)), .d (.v (.int .i64 m0)), .d (.v (.int .i64 r0)), .d (.v (.bool z0)), .d (.lst 1 p0 fun i => [st (gT (g0 i))])]]) ?_ ?_
   . repeat' (first | exact trivial | exact rfl | exact DvE.refl _ | refine ⟨?_, ?_⟩ | fail)
     all_goals first | first | exact canonB hp0.1.2.h | (exact .rows fun i hi => by rw [hp0.2.1.2 i hi]; exact ⟨rfl, fun j a b ha hb => by have hb : [st (gT (g0 i))][j]? = some b := hb; rw [ha] at hb; cases hb; exact .refl _⟩)
   refine fcat tys_ok (l := [(84, ⟨[], FRVNone⟩)]) ⟨fcRVNone, trivial⟩ Tryz.func31 rfl (by kernel_rfl) true ?_
   have hA0 := hp0.1
   have hV0 := hp0.2
   have hvR0 := hV0.2
   simp only [Sp.inR, Cg.inR] at hvR0
   have hL0 := okL_rows hA0.2
   have hn0 := hA0.1
   have hlen0 := gBs_length n0 f0
   generalize gBs n0 f0 = L at *
   clear hA0 hp0
   subst hlen0
   have hrow0 := okL_row hL0
   have hvok0 : okV (⟨⟨⟨s0, l0, h0⟩, ⟨b0, m0, r0⟩⟩, ⟨z0, gN p0 fun i => [st (gT (g0 i))]⟩⟩ : Vl) := ⟨⟨(by rw [gN_length]; exact hV0.1.1), fun _ _ => rfl⟩, hV0.2⟩
   have hcr0 := okL_row (clean_ok (e := ⟨e0, L⟩) hL0)
   have hcl0 : (En.clean ⟨e0, L⟩).binds.length <= L.length := clean_len ⟨e0, L⟩
   repeat' (first | exact trivial | refine ⟨?_, ?_⟩ | intro _)
   all_goals first | (with_reducible first | apply qa | apply qb | apply qc | apply qd) | (conv => whnf)
   all_goals (try simp only [gBs_row, gN_lst] at *)
   all_goals first | exact hrow0 | exact hn0 | exact hV0.1.1 | exact hvR0.1.1 | exact hvR0.1.2 | exact hvR0.2.1 | exact hvR0.2.2 | exact hcr0 | omega | (intro i hi; rfl) | rfl | (refine congrArg Value.bool (Eq.symm (Eq.trans (show _ = ((!e0) && Vl.rnone (⟨⟨⟨s0, l0, h0⟩, ⟨b0, m0, r0⟩⟩, ⟨z0, gN p0 fun i => [st (gT (g0 i))]⟩⟩ : Vl)) from rfl) ?_)); first | (rw [‹(!e0) = true›]; rfl) | (rw [‹(!e0) = false›]; rfl))
 . cases h
def FRTLeq : List Ar -> Option Rs
 | [.agg [.d (.v (.bool e0)), .d (.lst 9 n0 f0), .d (.v (.bool s0)), .d (.v (.int .i64 l0)), .d (.v (.int .i64 h0)), .d (.v (.bool b0)), .d (.v (.int .i64 m0)), .d (.v (.int .i64 r0)), .d (.v (.bool z0)), .d (.lst 1 p0 g0)], .agg [.d (.v (.bool e1)), .d (.lst 9 n1 f1), .d (.v (.bool s1)), .d (.v (.int .i64 l1)), .d (.v (.int .i64 h1)), .d (.v (.bool b1)), .d (.v (.int .i64 m1)), .d (.v (.int .i64 r1)), .d (.v (.bool z1)), .d (.lst 1 p1 g1)]] => some ⟨((n0 <= 1099511627776 /\ RowsOk n0 f0) /\ ((p0 * 16 <= 140737488351232 /\ ∀ i, i < p0 -> g0 i = [st (gT (g0 i))]) /\ Sp.inR ⟨s0, l0, h0⟩ /\ Cg.inR ⟨b0, m0, r0⟩)) /\ ((n1 <= 1099511627776 /\ RowsOk n1 f1) /\ ((p1 * 16 <= 140737488351232 /\ ∀ i, i < p1 -> g1 i = [st (gT (g1 i))]) /\ Sp.inR ⟨s1, l1, h1⟩ /\ Cg.inR ⟨b1, m1, r1⟩)), .va (.c (.d (bo (Sv.rleq (⟨⟨e0, gBs n0 f0⟩, ⟨⟨⟨s0, l0, h0⟩, ⟨b0, m0, r0⟩⟩, ⟨z0, gN p0 g0⟩⟩⟩ : Sv) (⟨⟨e1, gBs n1 f1⟩, ⟨⟨⟨s1, l1, h1⟩, ⟨b1, m1, r1⟩⟩, ⟨z1, gN p1 g1⟩⟩⟩ : Sv))))), []⟩
 | _ => none
theorem fcRTLeq : FC Tryz.prog 30 FRTLeq := by
 intro xs pre r us h hp
 unfold FRTLeq at h
 split at h
 . rename_i e0 n0 f0 s0 l0 h0 b0 m0 r0 z0 p0 g0 e1 n1 f1 s1 l1 h1 b1 m1 r1 z1 p1 g1
   cases h
   obtain ⟨hp0, hp1⟩ := hp
   refine FCat.deep (ys := [.agg [.d (.v (.bool e0)), .d (.lst 9 n0 (rwB (gBs n0 f0))), .d (.v (.bool s0)), .d (.v (.int .i64 l0)), .d (.v (.int .i64 h0)), .d (.v (.bool b0)), .d (.v (.int .i64 m0)), .d (.v (.int .i64 r0)), .d (.v (.bool z0)), .d (.lst 1 p0 fun i => [st (gT (g0 i))])], .agg [.d (.v (.bool e1)), .d (.lst 9 n1 (rwB (gBs n1 f1))), .d (.v (.bool s1)), .d (.v (.int .i64 l1)), .d (.v (.int .i64 h1)), .d (.v (.bool b1)), .d (.v (.int .i64 m1)), .d (.v (.int .i64 r1)), .d (.v (.bool z1)), .d (.lst 1 p1 fun i => [st (gT (g1 i))])]]) ?_ ?_
   . repeat' (first | exact trivial | exact rfl | exact DvE.refl _ | refine ⟨?_, ?_⟩ | fail)
     all_goals first | first | exact canonB hp0.1.2.h | (exact .rows fun i hi => by rw [hp0.2.1.2 i hi]; exact ⟨rfl, fun j a b ha hb => by have hb : [st (gT (g0 i))][j]? = some b := hb; rw [ha] at hb; cases hb; exact .refl _⟩) | exact canonB hp1.1.2.h | (exact .rows fun i hi => by rw [hp1.2.1.2 i hi]; exact ⟨rfl, fun j a b ha hb => by have hb : [st (gT (g1 i))][j]? = some b := hb; rw [ha] at hb; cases hb; exact .refl _⟩)
   refine fcat tys_ok (l := [(42, ⟨[], FRELeq⟩), (83, ⟨[], FRVLeq⟩)]) ⟨fcRELeq, fcRVLeq, trivial⟩ Tryz.func30 rfl (by kernel_rfl) true ?_
   have hA0 := hp0.1
   have hV0 := hp0.2
   have hvR0 := hV0.2
   simp only [Sp.inR, Cg.inR] at hvR0
   have hL0 := okL_rows hA0.2
   have hn0 := hA0.1
   have hlen0 := gBs_length n0 f0
   generalize gBs n0 f0 = L at *
   clear hA0 hp0
   subst hlen0
   have hrow0 := okL_row hL0
   have hvok0 : okV (⟨⟨⟨s0, l0, h0⟩, ⟨b0, m0, r0⟩⟩, ⟨z0, gN p0 fun i => [st (gT (g0 i))]⟩⟩ : Vl) := ⟨⟨(by rw [gN_length]; exact hV0.1.1), fun _ _ => rfl⟩, hV0.2⟩
   have hcr0 := okL_row (clean_ok (e := ⟨e0, L⟩) hL0)
   have hcl0 : (En.clean ⟨e0, L⟩).binds.length <= L.length := clean_len ⟨e0, L⟩
   have hA1 := hp1.1
   have hV1 := hp1.2
   have hvR1 := hV1.2
   simp only [Sp.inR, Cg.inR] at hvR1
   have hL1 := okL_rows hA1.2
   have hn1 := hA1.1
   have hlen1 := gBs_length n1 f1
   generalize gBs n1 f1 = M at *
   clear hA1 hp1
   subst hlen1
   have hrow1 := okL_row hL1
   have hvok1 : okV (⟨⟨⟨s1, l1, h1⟩, ⟨b1, m1, r1⟩⟩, ⟨z1, gN p1 fun i => [st (gT (g1 i))]⟩⟩ : Vl) := ⟨⟨(by rw [gN_length]; exact hV1.1.1), fun _ _ => rfl⟩, hV1.2⟩
   have hcr1 := okL_row (clean_ok (e := ⟨e1, M⟩) hL1)
   have hcl1 : (En.clean ⟨e1, M⟩).binds.length <= M.length := clean_len ⟨e1, M⟩
   repeat' (first | exact trivial | refine ⟨?_, ?_⟩ | intro _)
   all_goals first | (with_reducible first | apply qa | apply qb | apply qc | apply qd) | (conv => whnf)
   all_goals (try simp only [gBs_row, gN_lst] at *)
   all_goals first | exact hrow0 | exact hn0 | exact hV0.1.1 | exact hvR0.1.1 | exact hvR0.1.2 | exact hvR0.2.1 | exact hvR0.2.2 | exact hcr0 | exact hrow1 | exact hn1 | exact hV1.1.1 | exact hvR1.1.1 | exact hvR1.1.2 | exact hvR1.2.1 | exact hvR1.2.2 | exact hcr1 | omega | (intro i hi; rfl) | rfl | (unfold Sv.rleq; first | (rw [‹En.rleq _ _ = true›]; rfl) | (rw [‹En.rleq _ _ = false›]; rfl))
 . cases h
def FRTExact : List Ar -> Option Rs
 | [.agg [.d (.v (.bool e0)), .d (.lst 9 n0 f0), .d (.v (.bool s0)), .d (.v (.int .i64 l0)), .d (.v (.int .i64 h0)), .d (.v (.bool b0)), .d (.v (.int .i64 m0)), .d (.v (.int .i64 r0)), .d (.v (.bool z0)), .d (.lst 1 p0 g0)], .agg [.d (.v (.bool e1)), .d (.lst 9 n1 f1), .d (.v (.bool s1)), .d (.v (.int .i64 l1)), .d (.v (.int .i64 h1)), .d (.v (.bool b1)), .d (.v (.int .i64 m1)), .d (.v (.int .i64 r1)), .d (.v (.bool z1)), .d (.lst 1 p1 g1)]] => some ⟨((n0 <= 1099511627776 /\ RowsOk n0 f0) /\ ((p0 * 16 <= 140737488351232 /\ ∀ i, i < p0 -> g0 i = [st (gT (g0 i))]) /\ Sp.inR ⟨s0, l0, h0⟩ /\ Cg.inR ⟨b0, m0, r0⟩)) /\ ((n1 <= 1099511627776 /\ RowsOk n1 f1) /\ ((p1 * 16 <= 140737488351232 /\ ∀ i, i < p1 -> g1 i = [st (gT (g1 i))]) /\ Sp.inR ⟨s1, l1, h1⟩ /\ Cg.inR ⟨b1, m1, r1⟩)) /\ ((⟨⟨e0, gBs n0 f0⟩, ⟨⟨⟨s0, l0, h0⟩, ⟨b0, m0, r0⟩⟩, ⟨z0, gN p0 g0⟩⟩⟩ : Sv) = (⟨⟨e1, gBs n1 f1⟩, ⟨⟨⟨s1, l1, h1⟩, ⟨b1, m1, r1⟩⟩, ⟨z1, gN p1 g1⟩⟩⟩ : Sv)), .va (.c (.d (bo (true)))), []⟩
 | _ => none
theorem fcRTExact : FC Tryz.prog 36 FRTExact := by
 intro xs pre r us h hp
 unfold FRTExact at h
 split at h
 . rename_i e0 n0 f0 s0 l0 h0 b0 m0 r0 z0 p0 g0 e1 n1 f1 s1 l1 h1 b1 m1 r1 z1 p1 g1
   cases h
   obtain ⟨hp0, hp1, hp2⟩ := hp
   refine FCat.deep (ys := [.agg [.d (.v (.bool e0)), .d (.lst 9 n0 (rwB (gBs n0 f0))), .d (.v (.bool s0)), .d (.v (.int .i64 l0)), .d (.v (.int .i64 h0)), .d (.v (.bool b0)), .d (.v (.int .i64 m0)), .d (.v (.int .i64 r0)), .d (.v (.bool z0)), .d (.lst 1 p0 fun i => [st (gT (g0 i))])], .agg [.d (.v (.bool e1)), .d (.lst 9 n1 (rwB (gBs n1 f1))), .d (.v (.bool s1)), .d (.v (.int .i64 l1)), .d (.v (.int .i64 h1)), .d (.v (.bool b1)), .d (.v (.int .i64 m1)), .d (.v (.int .i64 r1)), .d (.v (.bool z1)), .d (.lst 1 p1 fun i => [st (gT (g1 i))])]]) ?_ ?_
   . repeat' (first | exact trivial | exact rfl | exact DvE.refl _ | refine ⟨?_, ?_⟩ | fail)
     all_goals first | first | exact canonB hp0.1.2.h | (exact .rows fun i hi => by rw [hp0.2.1.2 i hi]; exact ⟨rfl, fun j a b ha hb => by have hb : [st (gT (g0 i))][j]? = some b := hb; rw [ha] at hb; cases hb; exact .refl _⟩) | exact canonB hp1.1.2.h | (exact .rows fun i hi => by rw [hp1.2.1.2 i hi]; exact ⟨rfl, fun j a b ha hb => by have hb : [st (gT (g1 i))][j]? = some b := hb; rw [ha] at hb; cases hb; exact .refl _⟩)
   refine fcat tys_ok (l := [(14, ⟨[], FREExact⟩), (23, ⟨[], FRVExact⟩)]) ⟨fcREExact, fcRVExact, trivial⟩ Tryz.func36 rfl (by kernel_rfl) true ?_
   have hA0 := hp0.1
   have hV0 := hp0.2
   have hvR0 := hV0.2
   simp only [Sp.inR, Cg.inR] at hvR0
   have hL0 := okL_rows hA0.2
   have hn0 := hA0.1
   have hlen0 := gBs_length n0 f0
   generalize gBs n0 f0 = L at *
   clear hA0 hp0
   subst hlen0
   have hrow0 := okL_row hL0
   have hvok0 : okV (⟨⟨⟨s0, l0, h0⟩, ⟨b0, m0, r0⟩⟩, ⟨z0, gN p0 fun i => [st (gT (g0 i))]⟩⟩ : Vl) := ⟨⟨(by rw [gN_length]; exact hV0.1.1), fun _ _ => rfl⟩, hV0.2⟩
   have hcr0 := okL_row (clean_ok (e := ⟨e0, L⟩) hL0)
   have hcl0 : (En.clean ⟨e0, L⟩).binds.length <= L.length := clean_len ⟨e0, L⟩
   have hA1 := hp1.1
   have hV1 := hp1.2
   have hvR1 := hV1.2
   simp only [Sp.inR, Cg.inR] at hvR1
   have hL1 := okL_rows hA1.2
   have hn1 := hA1.1
   have hlen1 := gBs_length n1 f1
   generalize gBs n1 f1 = M at *
   clear hA1 hp1
   subst hlen1
   have hrow1 := okL_row hL1
   have hvok1 : okV (⟨⟨⟨s1, l1, h1⟩, ⟨b1, m1, r1⟩⟩, ⟨z1, gN p1 fun i => [st (gT (g1 i))]⟩⟩ : Vl) := ⟨⟨(by rw [gN_length]; exact hV1.1.1), fun _ _ => rfl⟩, hV1.2⟩
   have hcr1 := okL_row (clean_ok (e := ⟨e1, M⟩) hL1)
   have hcl1 : (En.clean ⟨e1, M⟩).binds.length <= M.length := clean_len ⟨e1, M⟩
   have hq := hp2
   injection hq with hqE hqV
   repeat' (first | exact trivial | (with_reducible first | exact hqE | exact hqV) | refine ⟨?_, ?_⟩ | intro _)
   all_goals first | (with_reducible first | apply qa | apply qb | apply qc | apply qd) | (conv => whnf)
   all_goals (try simp only [gBs_row, gN_lst] at *)
   all_goals first | exact hrow0 | exact hn0 | exact hV0.1.1 | exact hvR0.1.1 | exact hvR0.1.2 | exact hvR0.2.1 | exact hvR0.2.2 | exact hcr0 | exact hrow1 | exact hn1 | exact hV1.1.1 | exact hvR1.1.1 | exact hvR1.1.2 | exact hvR1.2.1 | exact hvR1.2.2 | exact hcr1 | omega | exact hqE | exact hqV | (intro i hi; rfl) | rfl | (exact congrArg Value.bool (show Vl.exact (⟨⟨⟨s0, l0, h0⟩, ⟨b0, m0, r0⟩⟩, ⟨z0, gN p0 fun i => [st (gT (g0 i))]⟩⟩ : Vl) (⟨⟨⟨s1, l1, h1⟩, ⟨b1, m1, r1⟩⟩, ⟨z1, gN p1 fun i => [st (gT (g1 i))]⟩⟩ : Vl) = true from by rw [show (⟨⟨⟨s0, l0, h0⟩, ⟨b0, m0, r0⟩⟩, ⟨z0, gN p0 fun i => [st (gT (g0 i))]⟩⟩ : Vl) = (⟨⟨⟨s1, l1, h1⟩, ⟨b1, m1, r1⟩⟩, ⟨z1, gN p1 fun i => [st (gT (g1 i))]⟩⟩ : Vl) from hqV]; exact exact_refl _)) | (cases ‹true = false›)
 . cases h
theorem vop_1 (l : List Int) (x y : Vl) : En.vop 1 l x y = Vl.rwiden x y l := rfl
theorem vop_2 (l : List Int) (x y : Vl) : En.vop 2 l x y = Vl.rnarrow x y := rfl
theorem vop_0 {i : Int} (h1 : ¬ i = 1) (h2 : ¬ i = 2) (l : List Int) (x y : Vl) : En.vop i l x y = Vl.rjoin x y := by unfold En.vop; rw [if_neg h2, if_neg h1]
theorem vop_ok {i : Int} {x y : Vl} {l : List Int} (hx : okV x) (hy : okV y) (hq : QJ x y) (hl : ∀ z, z ∈ l -> rI z) : okV (En.vop i l x y) := by
 unfold En.vop; split
 . exact okV_rn hx hy
 . split
   . exact okV_rw hx hy hq hl
   . exact okV_rj hx hy hq
theorem Sv.rop_eq (op : Int) (a b : Sv) (l : List Int) : Sv.rop op a b l = ⟨En.rop op a.e b.e l, En.vop op l a.v b.v⟩ := rfl
def FRTOp : List Ar -> Option Rs
 | [.c (.d (.v (.int .i64 i0))), .agg [.d (.v (.bool e1)), .d (.lst 9 n1 f1), .d (.v (.bool s1)), .d (.v (.int .i64 l1)), .d (.v (.int .i64 h1)), .d (.v (.bool b1)), .d (.v (.int .i64 m1)), .d (.v (.int .i64 r1)), .d (.v (.bool z1)), .d (.lst 1 p1 g1)], .agg [.d (.v (.bool e2)), .d (.lst 9 n2 f2), .d (.v (.bool s2)), .d (.v (.int .i64 l2)), .d (.v (.int .i64 h2)), .d (.v (.bool b2)), .d (.v (.int .i64 m2)), .d (.v (.int .i64 r2)), .d (.v (.bool z2)), .d (.lst 1 p2 g2)], .c (.d (.lst 1 n3 f3))] => some ⟨(-9223372036854775808 <= i0 /\ i0 < 9223372036854775808) /\ ((n1 <= 1099511627776 /\ RowsOk n1 f1) /\ ((p1 * 16 <= 140737488351232 /\ ∀ i, i < p1 -> g1 i = [st (gT (g1 i))]) /\ Sp.inR ⟨s1, l1, h1⟩ /\ Cg.inR ⟨b1, m1, r1⟩)) /\ ((n2 <= 1099511627776 /\ RowsOk n2 f2) /\ ((p2 * 16 <= 140737488351232 /\ ∀ i, i < p2 -> g2 i = [st (gT (g2 i))]) /\ Sp.inR ⟨s2, l2, h2⟩ /\ Cg.inR ⟨b2, m2, r2⟩)) /\ (n3 <= 9223372036854775807 /\ ∀ i, i < n3 -> f3 i = [it (gI (f3 i))] /\ rI (gI (f3 i))) /\ (Room (Sv.e (⟨⟨e1, gBs n1 f1⟩, ⟨⟨⟨s1, l1, h1⟩, ⟨b1, m1, r1⟩⟩, ⟨z1, gN p1 g1⟩⟩⟩ : Sv)).binds (Sv.e (⟨⟨e2, gBs n2 f2⟩, ⟨⟨⟨s2, l2, h2⟩, ⟨b2, m2, r2⟩⟩, ⟨z2, gN p2 g2⟩⟩⟩ : Sv)).binds /\ QJ (Sv.v (⟨⟨e1, gBs n1 f1⟩, ⟨⟨⟨s1, l1, h1⟩, ⟨b1, m1, r1⟩⟩, ⟨z1, gN p1 g1⟩⟩⟩ : Sv)) (Sv.v (⟨⟨e2, gBs n2 f2⟩, ⟨⟨⟨s2, l2, h2⟩, ⟨b2, m2, r2⟩⟩, ⟨z2, gN p2 g2⟩⟩⟩ : Sv)) /\ n1 + n2 <= 1099511627776), .va (Sv.ar (Sv.rop i0 (⟨⟨e1, gBs n1 f1⟩, ⟨⟨⟨s1, l1, h1⟩, ⟨b1, m1, r1⟩⟩, ⟨z1, gN p1 g1⟩⟩⟩ : Sv) (⟨⟨e2, gBs n2 f2⟩, ⟨⟨⟨s2, l2, h2⟩, ⟨b2, m2, r2⟩⟩, ⟨z2, gN p2 g2⟩⟩⟩ : Sv) (gL n3 f3))), []⟩
 | _ => none
theorem fcRTOp : FC Tryz.prog 53 FRTOp := by
 intro xs pre r us h hp
 unfold FRTOp at h
 split at h
 . rename_i i0 e1 n1 f1 s1 l1 h1 b1 m1 r1 z1 p1 g1 e2 n2 f2 s2 l2 h2 b2 m2 r2 z2 p2 g2 n3 f3
   cases h
   obtain ⟨hp0, hp1, hp2, hp3, hp4⟩ := hp
   refine FCat.deep (ys := [.c (.d (.v (.int .i64 i0))), .agg [.d (.v (.bool e1)), .d (.lst 9 n1 (rwB (gBs n1 f1))), .d (.v (.bool s1)), .d (.v (.int .i64 l1)), .d (.v (.int .i64 h1)), .d (.v (.bool b1)), .d (.v (.int .i64 m1)), .d (.v (.int .i64 r1)), .d (.v (.bool z1)), .d (.lst 1 p1 fun i => [st (gT (g1 i))])], .agg [.d (.v (.bool e2)), .d (.lst 9 n2 (rwB (gBs n2 f2))), .d (.v (.bool s2)), .d (.v (.int .i64 l2)), .d (.v (.int .i64 h2)), .d (.v (.bool b2)), .d (.v (.int .i64 m2)), .d (.v (.int .i64 r2)), .d (.v (.bool z2)), .d (.lst 1 p2 fun i => [st (gT (g2 i))])], .c (.d (.lst 1 n3 fun i => [it (gI (f3 i))]))]) ?_ ?_
   . repeat' (first | exact trivial | exact rfl | exact DvE.refl _ | refine ⟨?_, ?_⟩ | fail)
     all_goals first | first | exact canonB hp1.1.2.h | (exact .rows fun i hi => by rw [hp1.2.1.2 i hi]; exact ⟨rfl, fun j a b ha hb => by have hb : [st (gT (g1 i))][j]? = some b := hb; rw [ha] at hb; cases hb; exact .refl _⟩) | exact canonB hp2.1.2.h | (exact .rows fun i hi => by rw [hp2.2.1.2 i hi]; exact ⟨rfl, fun j a b ha hb => by have hb : [st (gT (g2 i))][j]? = some b := hb; rw [ha] at hb; cases hb; exact .refl _⟩) | (exact .rows fun i hi => by rw [(hp3.2 i hi).1]; exact ⟨rfl, fun j a b ha hb => by have hb : [it (gI (f3 i))][j]? = some b := hb; rw [ha] at hb; cases hb; exact .refl _⟩)
   refine fcat tys_ok (l := [(97, ⟨[], FRVJoin⟩), (98, ⟨[], FRVWiden⟩), (99, ⟨[], FRVNarrow⟩), (45, ⟨[], FROp⟩)]) ⟨fcRVJoin, fcRVWiden, fcRVNarrow, fcROp, trivial⟩ Tryz.func53 rfl (by kernel_rfl) true ?_
   obtain ⟨hroom, hqj, hsum⟩ := hp4
   dsimp only at hroom
   have hA1 := hp1.1
   have hV1 := hp1.2
   have hvR1 := hV1.2
   simp only [Sp.inR, Cg.inR] at hvR1
   have hL1 := okL_rows hA1.2
   have hn1 := hA1.1
   have hlen1 := gBs_length n1 f1
   generalize gBs n1 f1 = L at *
   clear hA1 hp1
   subst hlen1
   have hrow1 := okL_row hL1
   have hvok1 : okV (⟨⟨⟨s1, l1, h1⟩, ⟨b1, m1, r1⟩⟩, ⟨z1, gN p1 fun i => [st (gT (g1 i))]⟩⟩ : Vl) := ⟨⟨(by rw [gN_length]; exact hV1.1.1), fun _ _ => rfl⟩, hV1.2⟩
   have hcr1 := okL_row (clean_ok (e := ⟨e1, L⟩) hL1)
   have hcl1 : (En.clean ⟨e1, L⟩).binds.length <= L.length := clean_len ⟨e1, L⟩
   have hA2 := hp2.1
   have hV2 := hp2.2
   have hvR2 := hV2.2
   simp only [Sp.inR, Cg.inR] at hvR2
   have hL2 := okL_rows hA2.2
   have hn2 := hA2.1
   have hlen2 := gBs_length n2 f2
   generalize gBs n2 f2 = M at *
   clear hA2 hp2
   subst hlen2
   have hrow2 := okL_row hL2
   have hvok2 : okV (⟨⟨⟨s2, l2, h2⟩, ⟨b2, m2, r2⟩⟩, ⟨z2, gN p2 fun i => [st (gT (g2 i))]⟩⟩ : Vl) := ⟨⟨(by rw [gN_length]; exact hV2.1.1), fun _ _ => rfl⟩, hV2.2⟩
   have hcr2 := okL_row (clean_ok (e := ⟨e2, M⟩) hL2)
   have hcl2 : (En.clean ⟨e2, M⟩).binds.length <= M.length := clean_len ⟨e2, M⟩
   have hqj2 : QJ (⟨⟨⟨s1, l1, h1⟩, ⟨b1, m1, r1⟩⟩, ⟨z1, gN p1 fun i => [st (gT (g1 i))]⟩⟩ : Vl) (⟨⟨⟨s2, l2, h2⟩, ⟨b2, m2, r2⟩⟩, ⟨z2, gN p2 fun i => [st (gT (g2 i))]⟩⟩ : Vl) := hqj
   have hsumV : (p1 + p2) * 16 <= 140737488351232 := by have := hqj; unfold QJ at this; simpa [gN_length] using this
   have hlad : ∀ z, z ∈ gL n3 f3 -> rI z := fun z hz => gL_r hp3.2 z hz
   have hok : ∀ i, okV (En.vop i (gL n3 f3) (⟨⟨⟨s1, l1, h1⟩, ⟨b1, m1, r1⟩⟩, ⟨z1, gN p1 fun i => [st (gT (g1 i))]⟩⟩ : Vl) (⟨⟨⟨s2, l2, h2⟩, ⟨b2, m2, r2⟩⟩, ⟨z2, gN p2 fun i => [st (gT (g2 i))]⟩⟩ : Vl)) := fun i => vop_ok hvok1 hvok2 hqj2 hlad
   have hok0 := hok 0
   have hok1 := hok 1
   have hok2 := hok 2
   unfold okV at hok0 hok1 hok2
   rw [vop_1] at hok1
   rw [vop_2] at hok2
   rw [vop_0 (by decide) (by decide)] at hok0
   have hok0r := hok0.2
   have hok1r := hok1.2
   have hok2r := hok2.2
   simp only [Sp.inR, Cg.inR] at hok0r hok1r hok2r
   rcases Decidable.em (i0 = 1) with rfl | o1
   . repeat' (first | exact trivial | (with_reducible first | exact hok0 | exact hok1 | exact hok2 | exact (fun h => absurd (h : ((1:Int) == 2) = true) (by decide)) | exact (fun h => absurd (h : ((1:Int) == 1) = false) (by decide))) | refine ⟨?_, ?_⟩ | intro _)
     all_goals first | (with_reducible first | apply qa | apply qb | apply qc | apply qd) | (conv => whnf)
     all_goals (try simp only [gBs_row, gN_lst] at *)
     all_goals first | exact hrow1 | exact hn1 | exact hV1.1.1 | exact hvR1.1.1 | exact hvR1.1.2 | exact hvR1.2.1 | exact hvR1.2.2 | exact hcr1 | exact hrow2 | exact hn2 | exact hV2.1.1 | exact hvR2.1.1 | exact hvR2.1.2 | exact hvR2.2.1 | exact hvR2.2.2 | exact hcr2 | exact hroom | exact hsum | exact hsumV | exact hp3 | exact hp3.1 | exact hp3.2 | exact hok0.1.1 | exact hok0r.1.1 | exact hok0r.1.2 | exact hok0r.2.1 | exact hok0r.2.2 | exact hok1.1.1 | exact hok1r.1.1 | exact hok1r.1.2 | exact hok1r.2.1 | exact hok1r.2.2 | exact hok2.1.1 | exact hok2r.1.1 | exact hok2r.1.2 | exact hok2r.2.1 | exact hok2r.2.2 | exact (hp3.2 _ ‹_›).2.1 | exact (hp3.2 _ ‹_›).2.2 | exact (hp3.2 _ ‹_›).1 | omega | (intro i hi; rfl) | rfl
   . rcases Decidable.em (i0 = 2) with rfl | o2
     . repeat' (first | exact trivial | (with_reducible first | exact hok0 | exact hok1 | exact hok2 | exact (fun h => absurd (h : ((2:Int) == 1) = true) (by decide)) | exact (fun h => absurd (h : ((2:Int) == 2) = false) (by decide))) | refine ⟨?_, ?_⟩ | intro _)
       all_goals first | (with_reducible first | apply qa | apply qb | apply qc | apply qd) | (conv => whnf)
       all_goals (try simp only [gBs_row, gN_lst] at *)
       all_goals first | exact hrow1 | exact hn1 | exact hV1.1.1 | exact hvR1.1.1 | exact hvR1.1.2 | exact hvR1.2.1 | exact hvR1.2.2 | exact hcr1 | exact hrow2 | exact hn2 | exact hV2.1.1 | exact hvR2.1.1 | exact hvR2.1.2 | exact hvR2.2.1 | exact hvR2.2.2 | exact hcr2 | exact hroom | exact hsum | exact hsumV | exact hp3 | exact hp3.1 | exact hp3.2 | exact hok0.1.1 | exact hok0r.1.1 | exact hok0r.1.2 | exact hok0r.2.1 | exact hok0r.2.2 | exact hok1.1.1 | exact hok1r.1.1 | exact hok1r.1.2 | exact hok1r.2.1 | exact hok1r.2.2 | exact hok2.1.1 | exact hok2r.1.1 | exact hok2r.1.2 | exact hok2r.2.1 | exact hok2r.2.2 | exact (hp3.2 _ ‹_›).2.1 | exact (hp3.2 _ ‹_›).2.2 | exact (hp3.2 _ ‹_›).1 | omega | (intro i hi; rfl) | rfl
     . repeat' (first | exact trivial | (with_reducible first | exact hok0 | exact hok1 | exact hok2 | exact o1 | exact o2 | exact (fun h => absurd (eq_of_beq (h : (i0 == 1) = true)) o1) | exact (fun h => absurd (eq_of_beq (h : (i0 == 2) = true)) o2)) | refine ⟨?_, ?_⟩ | intro _)
       all_goals first | (with_reducible first | apply qa | apply qb | apply qc | apply qd) | (conv => whnf)
       all_goals (try simp only [gBs_row, gN_lst] at *)
       all_goals first | exact hrow1 | exact hn1 | exact hV1.1.1 | exact hvR1.1.1 | exact hvR1.1.2 | exact hvR1.2.1 | exact hvR1.2.2 | exact hcr1 | exact hrow2 | exact hn2 | exact hV2.1.1 | exact hvR2.1.1 | exact hvR2.1.2 | exact hvR2.2.1 | exact hvR2.2.2 | exact hcr2 | exact hroom | exact hsum | exact hsumV | exact hp3 | exact hp3.1 | exact hp3.2 | exact hok0.1.1 | exact hok0r.1.1 | exact hok0r.1.2 | exact hok0r.2.1 | exact hok0r.2.2 | exact hok1.1.1 | exact hok1r.1.1 | exact hok1r.1.2 | exact hok1r.2.1 | exact hok1r.2.2 | exact hok2.1.1 | exact hok2r.1.1 | exact hok2r.1.2 | exact hok2r.2.1 | exact hok2r.2.2 | exact (hp3.2 _ ‹_›).2.1 | exact (hp3.2 _ ‹_›).2.2 | exact (hp3.2 _ ‹_›).1 | omega | (intro i hi; rfl) | rfl | (rw [Sv.rop_eq, vop_0 o1 o2]; try rfl)
 . cases h
theorem rleq_leq (a b : Vl) : Vl.leq a b = Vl.rleq a b := by
 rw [leq_eq]; unfold Vl.rleq; rw [rclean2, rclean2]; simp only [Vl.rclean, cleanS_idem]
theorem rnone_none (b : Vl) : Vl.none b = Vl.rnone b := by
 rw [none_eq]; unfold Vl.rnone; rw [rclean2]; simp only [Vl.rclean, cleanS_idem]; rfl
namespace Sv
theorem clean_fix {e : En} {v : Vl} (he : e.tidy) (hv : v.tidy) : Sv.clean ⟨e, v⟩ = ⟨e, v⟩ := by
 show (⟨e.clean, v.of⟩ : Sv) = _
 rw [clean_fixE he, Vl.of_fix hv]
theorem clean_eq (a : Sv) : a.clean = a.rclean := by
 show (⟨a.e.clean, a.v.of⟩ : Sv) = ⟨a.e.rclean, a.v.rclean⟩
 rw [clean_rclean, of_rclean]
theorem clean2 (a : Sv) : a.clean.clean = a.clean := clean_fix (clean_tidyE _) (Vl.of_tidy _)
theorem none_eq (a : Sv) : a.none = a.rnone := by unfold Sv.none Sv.rnone; rw [rnone_none]
theorem leq_eq (a b : Sv) : leq a b = rleq a b := by unfold leq rleq; rw [leq_rleq, rleq_leq]
theorem join_is (a b : Sv) : join a b = ⟨En.join a.e b.e, Vl.join a.v b.v⟩ := clean_fix (join_tidyE _ _) (Vl.jn_tidy _ _)
theorem join_ref (a b : Sv) (l : List Int) : join a b = rop 0 a b l := by
 rw [join_is, join_rop _ _ l, Vl.join_eq]; rfl
theorem leq_clean (a b : Sv) : leq a.clean b.clean = leq a b := by
 unfold leq
 have h1 : En.leq a.clean.e b.clean.e = En.leq a.e b.e := by
  show En.leq a.e.clean b.e.clean = _
  unfold En.leq
  rw [clean_fixE (clean_tidyE a.e), clean_fixE (clean_tidyE b.e)]
 rw [h1, show Vl.leq a.clean.v b.clean.v = Vl.leq a.v b.v from Vl.leq_of _ _]
theorem leq_and {a b : Sv} : leq a b = true ↔ En.leq a.e b.e = true /\ Vl.leq a.v b.v = true := by unfold leq; exact Bool.and_eq_true_iff
theorem leq_trans {a b c : Sv} (h1 : leq a b = true) (h2 : leq b c = true) : leq a c = true :=
 leq_and.2 ⟨leqE_trans (leq_and.1 h1).1 (leq_and.1 h2).1, Vl.l3_trans (leq_and.1 h1).2 (leq_and.1 h2).2⟩
theorem join_comm (a b : Sv) : join a b = join b a := by rw [join_is, join_is, join_commE, Vl.l3_comm]
theorem leq_join1 (a b : Sv) : leq a (join a b) = true := by rw [join_is]; exact leq_and.2 ⟨leqE_join1 _ _, Vl.l3_join1 _ _⟩
theorem leq_join2 (a b : Sv) : leq b (join a b) = true := by rw [join_comm]; exact leq_join1 b a
theorem leq_dead {a b : Sv} (h1 : a.e.live = false) (h2 : Vl.leq a.v b.v = true) : leq a b = true := leq_and.2 ⟨leqE_dead h1, h2⟩
end Sv
theorem cat_len (x y : List ByteArray) : (ofS (ofS x ++ ofS y)).length <= x.length + y.length := by
 have a1 := ofS_len (ofS x ++ ofS y)
 have a2 := ofS_len x
 have a3 := ofS_len y
 rw [List.length_append] at a1; omega
theorem vjoin_len (x y : Vl) : (Vl.join x y).t.names.length <= x.t.names.length + y.t.names.length := cat_len _ _
theorem vof_len (x : Vl) : x.of.t.names.length <= x.t.names.length := by rw [of_names]; exact ofS_len _
theorem zip_len {op : Vl -> Vl -> Vl} (h : ∀ x y, (op x y).t.names.length <= x.t.names.length + y.t.names.length) {a b : En} {N M : Nat}
 (ha : ∀ x ∈ a.binds, x.v.t.names.length <= N) (hb : ∀ x ∈ b.binds, x.v.t.names.length <= M) : ∀ x ∈ (En.zipE op a b).binds, x.v.t.names.length <= N + M := by
 intro z hz
 have ca : ∀ x ∈ a.clean.binds, x.v.t.names.length <= N := fun x hx => by
  obtain ⟨y, hy, e⟩ := clean_sub a x hx
  exact Nat.le_trans e (ha y hy)
 have cb : ∀ x ∈ b.clean.binds, x.v.t.names.length <= M := fun x hx => by
  obtain ⟨y, hy, e⟩ := clean_sub b x hx
  exact Nat.le_trans e (hb y hy)
 have hz0 : Vl.zero.t.names.length = 0 := rfl
 rcases mrg_mem (A := a.clean.binds) (B := b.clean.binds) hz with ⟨x, hx, e⟩ | ⟨y, hy, e⟩ | ⟨x, hx, y, hy, e⟩
 . have := h x.v Vl.zero; have := ca x hx; rw [e]; omega
 . have := h Vl.zero y.v; have := cb y hy; rw [e]; omega
 . have := h x.v y.v; have := ca x hx; have := cb y hy; rw [e]; omega
structure Sv.fit (N : Nat) (s : Sv) : Prop where
 l : okL s.e.binds
 v : okV s.v
 len : s.e.binds.length <= N
 b : ∀ x ∈ s.e.binds, x.v.t.names.length <= N
 n : s.v.t.names.length <= N
namespace Sv.fit
theorem row {N : Nat} {s : Sv} (h : fit N s) : RowsOk s.e.binds.length (rwB s.e.binds) := okL_row h.l
theorem mono {N M : Nat} {s : Sv} (h : fit N s) (hn : N <= M) : fit M s := ⟨h.l, h.v, Nat.le_trans h.len hn, fun x hx => Nat.le_trans (h.b x hx) hn, Nat.le_trans h.n hn⟩
theorem clean {N : Nat} {s : Sv} (h : fit N s) : fit N s.clean where
 l := clean_ok h.l
 v := okV_of h.v
 len := Nat.le_trans (clean_len s.e) h.len
 b x hx := by
  obtain ⟨y, hy, e⟩ := clean_sub s.e x hx
  exact Nat.le_trans e (h.b y hy)
 n := Nat.le_trans (vof_len _) h.n
theorem room {N M : Nat} {a b : Sv} (ha : fit N a) (hb : fit M b) (hn : (N + M) * 16 <= 140737488351232) : Room a.e.binds b.e.binds :=
 ⟨fun x hx y hy => by have := ha.b x hx; have := hb.b y hy; unfold QJ; omega, fun x hx => by have := ha.b x hx; unfold QJ; show (_ + 0) * 16 <= _; omega, fun y hy => by have := hb.b y hy; unfold QJ; show (0 + _) * 16 <= _; omega⟩
theorem qj {N M : Nat} {a b : Sv} (ha : fit N a) (hb : fit M b) (hn : (N + M) * 16 <= 140737488351232) : QJ a.v b.v := by
 have := ha.n; have := hb.n; unfold QJ; omega
theorem inR {N : Nat} {s : Sv} (h : fit N s) : s.v.inR := by have := h.v; unfold okV at this; exact this.2
theorem join {N M : Nat} {a b : Sv} (ha : fit N a) (hb : fit M b) (hn : (N + M) * 16 <= 140737488351232) : fit (N + M) (join a b) := by
 rw [join_is]
 refine ⟨join_okL ha.l hb.l (room ha hb hn), vjoin_ok ha.v hb.v (qj ha hb hn), ?_, ?_, Nat.le_trans (vjoin_len _ _) (by have := ha.n; have := hb.n; omega)⟩
 . exact Nat.le_trans (join_len _ _) (by have := ha.len; have := hb.len; omega)
 . show ∀ x ∈ (En.join a.e b.e).binds, _
   rw [join_case]
   split
   . split
     . exact zip_len vjoin_len ha.b hb.b
     . exact (ha.clean.mono (by omega)).b
   . exact (hb.clean.mono (by omega)).b
end Sv.fit
namespace Sv
@[reducible] def again (s : Sv) : Sv := ⟨⟨s.e.live, gBs s.e.binds.length (rwB s.e.binds)⟩, ⟨⟨⟨s.v.i.s.some, s.v.i.s.lo, s.v.i.s.hi⟩, ⟨s.v.i.c.some, s.v.i.c.m, s.v.i.c.r⟩⟩, ⟨s.v.t.null, gN s.v.t.names.length fun i => [st (atS s.v.t.names i)]⟩⟩⟩
theorem again_eq (s : Sv) : again s = s := by
 show (⟨⟨s.e.live, gBs s.e.binds.length (rwB s.e.binds)⟩, ⟨⟨⟨s.v.i.s.some, s.v.i.s.lo, s.v.i.s.hi⟩, ⟨s.v.i.c.some, s.v.i.c.m, s.v.i.c.r⟩⟩, ⟨s.v.t.null, gN s.v.t.names.length fun i => [st (atS s.v.t.names i)]⟩⟩⟩ : Sv) = s
 rw [gBs_row, gN_lst]
abbrev cond (s : Sv) : Prop := (s.e.binds.length <= 1099511627776 /\ RowsOk s.e.binds.length (rwB s.e.binds)) /\ ((s.v.t.names.length * 16 <= 140737488351232 /\ ∀ i, i < s.v.t.names.length -> [st (atS s.v.t.names i)] = [st (gT [st (atS s.v.t.names i)])]) /\ Sp.inR ⟨s.v.i.s.some, s.v.i.s.lo, s.v.i.s.hi⟩ /\ Cg.inR ⟨s.v.i.c.some, s.v.i.c.m, s.v.i.c.r⟩)
end Sv
theorem Sv.fit.cond {N : Nat} {s : Sv} (h : Sv.fit N s) (hN : N <= 8000000000) : Sv.cond s :=
 ⟨⟨Nat.le_trans h.len (by omega), h.row⟩, ⟨⟨by have := h.n; omega, fun _ _ => rfl⟩, h.inR⟩⟩
theorem Sv.fit.ag {N : Nat} {s : Sv} (h : Sv.fit N s) : Sv.fit N (Sv.again s) := by rw [Sv.again_eq]; exact h
structure Sv.pair (a b : Sv) : Prop where
 r : Room a.e.binds b.e.binds
 q : QJ a.v b.v
 s : a.e.binds.length + b.e.binds.length <= 1099511627776
theorem Sv.fit.pair {N M : Nat} {a b : Sv} (ha : Sv.fit N a) (hb : Sv.fit M b) (hn : N + M <= 8000000000) : Sv.pair a b :=
 ⟨ha.room hb (by omega), ha.qj hb (by omega), by have := ha.len; have := hb.len; omega⟩
def nilIp : List Nat -> List Ic -> List Ic
 | _, [] => []
 | [], x :: xs => nilI 1 x :: nilIp [] xs
 | z :: zs, x :: xs => nilI z x :: nilIp zs xs
def nilAp : List Nat -> Ar -> Ar
 | [], .c x => .c (nilI 1 x)
 | z :: _, .c x => .c (nilI z x)
 | zs, .agg xs => .agg (nilIp zs xs)
 | _, x => x
def nilP : List (List Nat) -> List Ar -> List Ar
 | _, [] => []
 | [], x :: xs => nilAp [] x :: nilP [] xs
 | z :: zs, x :: xs => nilAp z x :: nilP zs xs
def FP (zs : List (List Nat)) (F : List Ar -> Option Rs) (qs : List Ar) : Option Rs :=
 match arsRows qs with
 | [] => match F (nilP zs qs) with
   | some ⟨p, r, []⟩ => some ⟨p, r, []⟩
   | _ => none
 | _ => none
theorem nilIp_eq : ∀ (zs : List Nat) (xs : List Ic), icsEq xs (nilIp zs xs)
 | _, [] => by unfold nilIp; trivial
 | [], x :: xs => by unfold nilIp; exact ⟨nilI_eq 1 x, nilIp_eq [] xs⟩
 | z :: zs, x :: xs => by unfold nilIp; exact ⟨nilI_eq z x, nilIp_eq zs xs⟩
theorem nilAp_eq : ∀ (zs : List Nat) (x : Ar), arEq x (nilAp zs x)
 | [], .c x => nilI_eq 1 x
 | z :: _, .c x => nilI_eq z x
 | [], .agg xs => nilIp_eq [] xs
 | z :: zs, .agg xs => nilIp_eq (z :: zs) xs
 | [], .rp _ => rfl
 | _ :: _, .rp _ => rfl
 | [], .fv _ => rfl
 | _ :: _, .fv _ => rfl
theorem nilP_eq : ∀ (zs : List (List Nat)) (xs : List Ar), arsEq xs (nilP zs xs)
 | _, [] => by unfold nilP; trivial
 | [], x :: xs => by unfold nilP; exact ⟨nilAp_eq [] x, nilP_eq [] xs⟩
 | z :: zs, x :: xs => by unfold nilP; exact ⟨nilAp_eq z x, nilP_eq zs xs⟩
theorem nilI_rows (z : Nat) (x : Ic) (xs ys : List Ic) (h : icRows xs = icRows ys) : icRows (nilI z x :: xs) = icRows (x :: ys) := by
 cases x with
 | d x => simp only [nilI, icRows]; exact h
 | ow a b c => simp only [nilI, icRows]; rw [h]
theorem nilIp_rows : ∀ (zs : List Nat) (xs : List Ic), icRows (nilIp zs xs) = icRows xs
 | _, [] => by unfold nilIp; rfl
 | [], x :: xs => by unfold nilIp; exact nilI_rows 1 x _ _ (nilIp_rows [] xs)
 | z :: zs, x :: xs => by unfold nilIp; exact nilI_rows z x _ _ (nilIp_rows zs xs)
theorem nilAp_rows : ∀ (zs : List Nat) (x : Ar), arRows (nilAp zs x) = arRows x
 | [], .c x => by cases x <;> rfl
 | z :: _, .c x => by cases x <;> rfl
 | [], .agg xs => nilIp_rows [] xs
 | z :: zs, .agg xs => nilIp_rows (z :: zs) xs
 | [], .rp _ => rfl
 | _ :: _, .rp _ => rfl
 | [], .fv _ => rfl
 | _ :: _, .fv _ => rfl
theorem nilP_rows : ∀ (zs : List (List Nat)) (xs : List Ar), arsRows (nilP zs xs) = arsRows xs
 | _, [] => by unfold nilP; rfl
 | [], x :: xs => by unfold nilP; simp only [arsRows]; rw [nilAp_rows, nilP_rows [] xs]
 | z :: zs, x :: xs => by unfold nilP; simp only [arsRows]; rw [nilAp_rows, nilP_rows zs xs]
theorem fc_nilp {P : Program} {f : Nat} {F : List Ar -> Option Rs} (zs : List (List Nat)) (h : FC P f F) : FC P f (FP zs F) := by
 intro qs pre r us he hp
 unfold FP at he
 split at he
 . rename_i h0
   split at he
   . rename_i p r' hF
     cases he
     exact FCat.of_eq (nilP_eq zs qs) h0 (by rw [nilP_rows]; exact h0) (h _ _ _ _ hF hp)
   . cases he
 . cases he
abbrev zGG : List (List Nat) := [[1, 9], [1, 9]]
def Sv.zero : Sv := ⟨⟨false, []⟩, Vl.zero⟩
structure Ky where
 name : ByteArray
 node : Int
structure Sd where
 k : Ky
 s : Sv
instance : Inhabited Ky := ⟨⟨ByteArray.empty, 0⟩⟩
theorem Ky.ext_iff' {a b : Ky} : a = b ↔ a.name = b.name /\ a.node = b.node := by
 cases a; cases b; simp
instance : DecidableEq Ky := fun a b => decidable_of_iff (a.name = b.name /\ a.node = b.node) Ky.ext_iff'.symm
namespace Ky
def cl (k : Ky) : Ky := ⟨k.name, if k.node < 0 then -1 else k.node⟩
def lt (a b : Ky) : Bool := if a.name = b.name then decide (a.cl.node < b.cl.node) else decide (kS a.name < kS b.name)
theorem cl_cl (k : Ky) : k.cl.cl = k.cl := by unfold cl; simp only; split <;> rename_i h <;> simp [h]
theorem lt_cl1 (a b : Ky) : lt a.cl b = lt a b := by unfold lt; rw [cl_cl]; rfl
theorem lt_cl2 (a b : Ky) : lt a b.cl = lt a b := by unfold lt; rw [cl_cl]; rfl
theorem lt_iff {a b : Ky} : lt a b = true ↔ (a.name = b.name /\ a.cl.node < b.cl.node) \/ kS a.name < kS b.name := by
 unfold lt
 split
 . rename_i h
   rw [decide_eq_true_eq]
   constructor
   . exact fun q => .inl ⟨h, q⟩
   . rintro (q | q)
     . exact q.2
     . rw [h] at q; exact absurd q (List.lt_irrefl _)
 . rename_i h
   rw [decide_eq_true_eq]
   constructor
   . exact .inr
   . rintro (q | q)
     . exact absurd q.1 h
     . exact q
theorem lt_irrefl (a : Ky) : lt a a = false := by
 cases h : lt a a with
 | false => rfl
 | true =>
   rcases lt_iff.1 h with q | q
   . omega
   . exact absurd q (List.lt_irrefl _)
theorem lt_trans {a b c : Ky} (h1 : lt a b = true) (h2 : lt b c = true) : lt a c = true := by
 rw [lt_iff] at *
 rcases h1 with q | q <;> rcases h2 with p | p
 . exact .inl ⟨q.1.trans p.1, by omega⟩
 . exact .inr (by rw [q.1]; exact p)
 . exact .inr (by rw [<- p.1]; exact q)
 . exact .inr (List.lt_trans q p)
theorem lt_asymm {a b : Ky} (h : lt a b = true) : lt b a = false := by
 cases h2 : lt b a with
 | false => rfl
 | true => have := lt_trans h h2; rw [lt_irrefl] at this; cases this
theorem lt_tri {a b : Ky} (h1 : lt a b = false) (h2 : lt b a = false) : a.cl = b.cl := by
 have n1 : ¬ lt a b = true := by rw [h1]; exact Bool.false_ne_true
 have n2 : ¬ lt b a = true := by rw [h2]; exact Bool.false_ne_true
 rw [lt_iff] at n1 n2
 have e : a.name = b.name := by
  have hle : ¬ kS a.name < kS b.name := fun q => n1 (.inr q)
  have hge : ¬ kS b.name < kS a.name := fun q => n2 (.inr q)
  exact kS_inj (List.le_antisymm (List.not_lt.1 hge) (List.not_lt.1 hle))
 refine Ky.ext_iff'.2 ⟨e, ?_⟩
 have m1 : ¬ a.cl.node < b.cl.node := fun q => n1 (.inl ⟨e, q⟩)
 have m2 : ¬ b.cl.node < a.cl.node := fun q => n2 (.inl ⟨e.symm, q⟩)
 omega
theorem lt_ne {a b : Ky} (h : lt a b = true) : a.cl ≠ b.cl := fun e => by
 rw [<- lt_cl1, e, lt_cl1, lt_irrefl] at h; cases h
end Ky
def SK (l : List Ky) : Prop := l.Pairwise (fun a b => Ky.lt a b = true) /\ ∀ k, k ∈ l -> k.cl = k
theorem SK.tail {x : Ky} {l : List Ky} (h : SK (x :: l)) : SK l := ⟨(List.pairwise_cons.1 h.1).2, fun k hk => h.2 k (List.mem_cons_of_mem _ hk)⟩
theorem sk_split : ∀ {l : List Ky}, SK l -> ∀ k : Ky, ∃ A B, l = A ++ B /\ (∀ a, a ∈ A -> Ky.lt a k = true) /\ ∀ b, b ∈ B -> Ky.lt b k = false
 | [], _, k => ⟨[], [], rfl, fun a h => (by cases h), fun a h => (by cases h)⟩
 | x :: l, h, k => by
   cases hx : Ky.lt x k with
   | true =>
     obtain ⟨A, B, rfl, h1, h2⟩ := sk_split h.tail k
     exact ⟨x :: A, B, rfl, fun a ha => by rcases List.mem_cons.1 ha with rfl | ha; exact hx; exact h1 a ha, h2⟩
   | false =>
     refine ⟨[], x :: l, rfl, fun a ha => (by cases ha), fun b hb => ?_⟩
     rcases List.mem_cons.1 hb with rfl | hb
     . exact hx
     . cases hb2 : Ky.lt b k with
       | false => rfl
       | true => have := Ky.lt_trans ((List.pairwise_cons.1 h.1).1 b hb) hb2; rw [hx] at this; cases this
def putK (l : List Ky) (k : Ky) : List Ky := l.takeWhile (fun x => Ky.lt x k) ++ k.cl :: (l.dropWhile fun x => Ky.lt x k).filter fun x => decide (x ≠ k.cl)
theorem tw_split {A B : List Ky} {k : Ky} (h1 : ∀ a, a ∈ A -> Ky.lt a k = true) (h2 : ∀ b, b ∈ B -> Ky.lt b k = false) : (A ++ B).takeWhile (fun x => Ky.lt x k) = A /\ (A ++ B).dropWhile (fun x => Ky.lt x k) = B := by
 rw [List.takeWhile_append_of_pos h1, List.dropWhile_append_of_pos h1]
 cases B with
 | nil => exact ⟨by simp, rfl⟩
 | cons b B =>
   have := h2 b List.mem_cons_self
   rw [List.takeWhile_cons_of_neg (by rw [this]; exact Bool.false_ne_true), List.dropWhile_cons_of_neg (by rw [this]; exact Bool.false_ne_true)]
   exact ⟨List.append_nil _, rfl⟩
theorem put_split {A B : List Ky} {k : Ky} (h1 : ∀ a, a ∈ A -> Ky.lt a k = true) (h2 : ∀ b, b ∈ B -> Ky.lt b k = false) : putK (A ++ B) k = A ++ k.cl :: B.filter fun x => decide (x ≠ k.cl) := by
 unfold putK; rw [(tw_split h1 h2).1, (tw_split h1 h2).2]
theorem sk_behind {A B : List Ky} {k : Ky} (h : SK (A ++ B)) (h2 : ∀ b, b ∈ B -> Ky.lt b k = false) :
 (∃ B', B = k.cl :: B' /\ ∀ b, b ∈ B' -> b ≠ k.cl) \/ (∀ b, b ∈ B -> Ky.lt k b = true) := by
 cases B with
 | nil => exact .inr fun b hb => (by cases hb)
 | cons b B =>
   have hs := (List.pairwise_append.1 h.1).2.1
   have hb := List.pairwise_cons.1 hs
   have hcl : b.cl = b := h.2 b (List.mem_append_right _ List.mem_cons_self)
   cases hk : Ky.lt k b with
   | false =>
     have e := Ky.lt_tri (h2 b List.mem_cons_self) hk
     rw [hcl] at e
     refine .inl ⟨B, by rw [e], fun c hc q => ?_⟩
     have := hb.1 c hc
     rw [q, <- e, Ky.lt_irrefl] at this; cases this
   | true =>
     refine .inr fun c hc => ?_
     rcases List.mem_cons.1 hc with rfl | hc
     . exact hk
     . exact Ky.lt_trans hk (hb.1 c hc)
theorem filt_ne {B : List Ky} {k : Ky} (h : ∀ b, b ∈ B -> b ≠ k) : (B.filter fun x => decide (x ≠ k)) = B :=
 List.filter_eq_self.2 fun b hb => decide_eq_true (h b hb)
theorem ne_behind {B : List Ky} {k : Ky} (hc : ∀ b, b ∈ B -> b.cl = b) (h : ∀ b, b ∈ B -> Ky.lt k b = true) : ∀ b, b ∈ B -> b ≠ k.cl := fun b hb q => by
 have := Ky.lt_ne (h b hb)
 rw [hc b hb, q] at this; exact this rfl
theorem mem_put {l : List Ky} {k x : Ky} (h : SK l) : x ∈ putK l k ↔ x = k.cl \/ x ∈ l := by
 obtain ⟨A, B, rfl, h1, h2⟩ := sk_split h k
 rw [put_split h1 h2, List.mem_append, List.mem_cons, List.mem_filter, List.mem_append, decide_eq_true_eq]
 constructor
 . rintro (q | q | q)
   . exact .inr (.inl q)
   . exact .inl q
   . exact .inr (.inr q.1)
 . rintro (q | q | q)
   . exact .inr (.inl q)
   . exact .inl q
   . by_cases e : x = k.cl
     . exact .inr (.inl e)
     . exact .inr (.inr ⟨q, e⟩)
theorem put_sk {l : List Ky} (h : SK l) (k : Ky) : SK (putK l k) := by
 refine ⟨?_, fun x hx => ?_⟩
 . obtain ⟨A, B, rfl, h1, h2⟩ := sk_split h k
   rw [put_split h1 h2]
   have hp := List.pairwise_append.1 h.1
   have hcA : ∀ a, a ∈ A -> Ky.lt a k.cl = true := fun a ha => by rw [Ky.lt_cl2]; exact h1 a ha
   rcases sk_behind h h2 with ⟨B', rfl, hn⟩ | hn
   . have e : ((k.cl :: B').filter fun x => decide (x ≠ k.cl)) = B' := by
      rw [List.filter_cons_of_neg (by simp), filt_ne hn]
     rw [e]; exact h.1
   . rw [filt_ne (ne_behind (fun b hb => h.2 b (List.mem_append_right _ hb)) hn)]
     refine List.pairwise_append.2 ⟨hp.1, List.pairwise_cons.2 ⟨fun b hb => by rw [Ky.lt_cl1]; exact hn b hb, hp.2.1⟩, fun a ha b hb => ?_⟩
     rcases List.mem_cons.1 hb with rfl | hb
     . exact hcA a ha
     . exact hp.2.2 a ha b hb
 . rcases (mem_put h).1 hx with rfl | hx
   . exact Ky.cl_cl k
   . exact h.2 x hx
def keysOf (l : List Sd) : List Ky := l.foldl (fun ks x => putK ks x.k) []
theorem foldl_snoc' {α β : Type} (f : β -> α -> β) (b : β) (l : List α) (x : α) : (l ++ [x]).foldl f b = f (l.foldl f b) x := by rw [List.foldl_append]; rfl
theorem keys_snoc (l : List Sd) (x : Sd) : keysOf (l ++ [x]) = putK (keysOf l) x.k := foldl_snoc' _ _ _ _
theorem keys_sk (l : List Sd) : SK (keysOf l) := by
 refine snocRec (p := fun l => SK (keysOf l)) ⟨List.Pairwise.nil, fun k h => (by cases h)⟩ (fun l x ih => ?_) l
 rw [keys_snoc]; exact put_sk ih _
theorem mem_keys (l : List Sd) (k : Ky) : k ∈ keysOf l ↔ ∃ x, x ∈ l /\ x.k.cl = k := by
 refine snocRec (p := fun l => k ∈ keysOf l ↔ ∃ x, x ∈ l /\ x.k.cl = k) ?_ (fun l x ih => ?_) l
 . exact ⟨fun h => (by cases h), fun ⟨x, h, _⟩ => (by cases h)⟩
 . rw [keys_snoc, mem_put (keys_sk l), ih]
   constructor
   . rintro (rfl | ⟨y, hy, e⟩)
     . exact ⟨x, by simp, rfl⟩
     . exact ⟨y, by simp [hy], e⟩
   . rintro ⟨y, hy, e⟩
     rcases List.mem_append.1 hy with hy | hy
     . exact .inr ⟨y, hy, e⟩
     . obtain rfl := List.mem_singleton.1 hy
       exact .inl e.symm
theorem put_len (l : List Ky) (k : Ky) : (putK l k).length <= l.length + 1 := by
 unfold putK
 rw [List.length_append, List.length_cons]
 have h1 := List.length_filter_le (fun x => decide (x ≠ k.cl)) (l.dropWhile fun x => Ky.lt x k)
 have h2 : (l.takeWhile fun x => Ky.lt x k).length + (l.dropWhile fun x => Ky.lt x k).length = l.length := by
  rw [<- List.length_append, List.takeWhile_append_dropWhile]
 omega
theorem keys_len (l : List Sd) : (keysOf l).length <= l.length := by
 refine snocRec (p := fun l => (keysOf l).length <= l.length) (Nat.le_refl _) (fun l x ih => ?_) l
 rw [keys_snoc, List.length_append]
 have := put_len (keysOf l) x.k
 show _ <= l.length + 1
 omega
def foldJ (l : List Sd) (k : Ky) : Sv := l.foldl (fun s x => if x.k.cl = k then Sv.join s x.s else s) Sv.zero
theorem foldJ_snoc (l : List Sd) (x : Sd) (k : Ky) : foldJ (l ++ [x]) k = if x.k.cl = k then Sv.join (foldJ l k) x.s else foldJ l k := foldl_snoc' _ _ _ _
theorem foldJ_none {l : List Sd} {k : Ky} (h : ¬ k ∈ keysOf l) : foldJ l k = Sv.zero := by
 refine snocRec (p := fun l => ¬ k ∈ keysOf l -> foldJ l k = Sv.zero) (fun _ => rfl) (fun l x ih h => ?_) l h
 rw [keys_snoc, mem_put (keys_sk l)] at h
 rw [foldJ_snoc, if_neg fun e => h (.inl e.symm)]
 exact ih fun q => h (.inr q)
def sumsK (l : List Sd) : List Sd := (keysOf l).map fun k => ⟨k, foldJ l k⟩
def atD (l : List Sd) (i : Nat) : Sd := l.getD i ⟨default, Sv.zero⟩
def lowK (l : List Sd) (k : Ky) : Nat := l.countP fun x => Ky.lt x.k k
def foundK (l : List Sd) (k : Ky) : Bool := decide (lowK l k < l.length) && decide ((atD l (lowK l k)).k.cl = k.cl)
def sumIns (l : List Sd) (x : Sd) : List Sd :=
 if foundK l x.k = true then l.set (lowK l x.k) ⟨(atD l (lowK l x.k)).k, Sv.join (atD l (lowK l x.k)).s x.s⟩
 else l.take (lowK l x.k) ++ ⟨x.k.cl, Sv.join Sv.zero x.s⟩ :: l.drop (lowK l x.k)
theorem lowS_split {A B : List Sd} {k : Ky} (h1 : ∀ a, a ∈ A -> Ky.lt a.k k = true) (h2 : ∀ b, b ∈ B -> Ky.lt b.k k = false) : lowK (A ++ B) k = A.length := by
 unfold lowK
 rw [List.countP_append, List.countP_eq_length.2 h1, List.countP_eq_zero.2 fun b hb => by rw [h2 b hb]; exact Bool.false_ne_true]
 rfl
theorem atD_app (A B : List Sd) (b : Sd) : atD (A ++ b :: B) A.length = b := by
 unfold atD; rw [List.getD_eq_getElem?_getD, List.getElem?_append_right (Nat.le_refl _), Nat.sub_self]; rfl
theorem ins_found {A B : List Sd} {b x : Sd} (h1 : ∀ a, a ∈ A -> Ky.lt a.k x.k = true) (h2 : ∀ c, c ∈ b :: B -> Ky.lt c.k x.k = false) (e : b.k.cl = x.k.cl) : sumIns (A ++ b :: B) x = A ++ ⟨b.k, Sv.join b.s x.s⟩ :: B := by
 have hl := lowS_split h1 h2
 unfold sumIns foundK
 rw [hl, atD_app, decide_eq_true (by simp), decide_eq_true e, if_pos (show (true && true) = true from rfl), List.set_append_right _ _ (Nat.le_refl _), Nat.sub_self]; rfl
theorem ins_new {A B : List Sd} {x : Sd} (h1 : ∀ a, a ∈ A -> Ky.lt a.k x.k = true) (h2 : ∀ c, c ∈ B -> Ky.lt x.k c.k = true) : sumIns (A ++ B) x = A ++ ⟨x.k.cl, Sv.join Sv.zero x.s⟩ :: B := by
 have hl := lowS_split h1 fun c hc => Ky.lt_asymm (h2 c hc)
 have hf : foundK (A ++ B) x.k = false := by
  unfold foundK
  rw [hl]
  cases B with
  | nil => rw [decide_eq_false (by simp), Bool.false_and]
  | cons b B => rw [atD_app, decide_eq_false (p := b.k.cl = x.k.cl) fun e => Ky.lt_ne (h2 b List.mem_cons_self) e.symm, Bool.and_false]
 unfold sumIns
 rw [hf, if_neg Bool.false_ne_true, hl, List.take_left', List.drop_left'] <;> rfl
theorem sums_snoc (l : List Sd) (x : Sd) : sumsK (l ++ [x]) = sumIns (sumsK l) x := by
 have hk := keys_sk l
 unfold sumsK
 rw [keys_snoc]
 have hnone : ∀ k, ¬ k ∈ keysOf l -> foldJ l k = Sv.zero := fun k => foldJ_none
 generalize keysOf l = ks at *
 obtain ⟨A, B, rfl, h1, h2⟩ := sk_split hk x.k
 rw [put_split h1 h2, List.map_append, List.map_cons, List.map_append]
 have hA : ∀ a, a ∈ A -> a ≠ x.k.cl := fun a ha e => by
  have := Ky.lt_ne (h1 a ha)
  rw [hk.2 a (List.mem_append_left _ ha), e] at this; exact this rfl
 have mA : A.map (fun k => (⟨k, foldJ (l ++ [x]) k⟩ : Sd)) = A.map fun k => ⟨k, foldJ l k⟩ :=
  List.map_congr_left fun a ha => by rw [foldJ_snoc, if_neg (Ne.symm (hA a ha))]
 have mB : ∀ {B : List Ky}, (∀ b, b ∈ B -> b ≠ x.k.cl) -> B.map (fun k => (⟨k, foldJ (l ++ [x]) k⟩ : Sd)) = B.map fun k => ⟨k, foldJ l k⟩ := fun h =>
  List.map_congr_left fun b hb => by rw [foldJ_snoc, if_neg (Ne.symm (h b hb))]
 have l1 : ∀ a, a ∈ A.map (fun k => (⟨k, foldJ l k⟩ : Sd)) -> Ky.lt a.k x.k = true := fun a ha => by
  obtain ⟨k, hk, rfl⟩ := List.mem_map.1 ha
  exact h1 k hk
 rcases sk_behind hk h2 with ⟨B', rfl, hn⟩ | hn
 . have e : ((x.k.cl :: B').filter fun y => decide (y ≠ x.k.cl)) = B' := by
    rw [List.filter_cons_of_neg (by simp), filt_ne hn]
   rw [e, mA, mB hn, List.map_cons, ins_found l1 ?_ (Ky.cl_cl _)]
   . rw [foldJ_snoc, if_pos rfl]
   . intro c hc
     rcases List.mem_cons.1 hc with rfl | hc
     . exact h2 _ List.mem_cons_self
     . obtain ⟨k, hk, rfl⟩ := List.mem_map.1 hc
       exact h2 k (List.mem_cons_of_mem _ hk)
 . have hne := ne_behind (fun b hb => hk.2 b (List.mem_append_right _ hb)) hn
   have hno : ¬ x.k.cl ∈ A ++ B := fun q => by
    rcases List.mem_append.1 q with q | q
    . exact hA _ q rfl
    . exact hne _ q rfl
   rw [filt_ne hne, mA, mB hne, ins_new l1 ?_]
   . rw [foldJ_snoc, if_pos rfl, hnone _ hno]
   . intro c hc
     obtain ⟨k, hk, rfl⟩ := List.mem_map.1 hc
     exact hn k hk
theorem fold_sums (l : List Sd) : l.foldl sumIns [] = sumsK l := by
 refine snocRec (p := fun l => l.foldl sumIns [] = sumsK l) rfl (fun l x ih => ?_) l
 rw [foldl_snoc', ih, sums_snoc]
def sumM (l : List Sd) : List Sd := (sumsK l).filter fun x => !Sv.none x.s
theorem sum_self {S : List Sd} (h1 : SK (S.map (·.k))) (h2 : ∀ x, x ∈ S -> Sv.join Sv.zero x.s = x.s) : S.foldl sumIns [] = S := by
 refine snocRec (p := fun S => SK (S.map (·.k)) -> (∀ x, x ∈ S -> Sv.join Sv.zero x.s = x.s) -> S.foldl sumIns [] = S) (fun _ _ => rfl) (fun S x ih h1 h2 => ?_) S h1 h2
 rw [List.map_append] at h1
 have hp := List.pairwise_append.1 h1.1
 rw [foldl_snoc', ih ⟨hp.1, fun k hk => h1.2 k (List.mem_append_left _ hk)⟩ fun y hy => h2 y (List.mem_append_left _ hy)]
 have := ins_new (A := S) (B := []) (x := x) (fun a ha => hp.2.2 _ (List.mem_map_of_mem ha) _ (by simp)) fun c hc => (by cases hc)
 rw [List.append_nil] at this
 rw [this, h2 x (by simp), h1.2 x.k (by simp)]
theorem sums_keys (l : List Sd) : (sumsK l).map (·.k) = keysOf l := by
 unfold sumsK; rw [List.map_map]; exact List.map_id _
theorem sumM_sk (l : List Sd) : SK ((sumM l).map (·.k)) := by
 have h := keys_sk l
 rw [<- sums_keys] at h
 have hs : ((sumM l).map (·.k)).Sublist ((sumsK l).map (·.k)) := List.Sublist.map _ List.filter_sublist
 exact ⟨h.1.sublist hs, fun k hk => h.2 k (hs.subset hk)⟩
theorem sumM_self {S : List Sd} (h1 : SK (S.map (·.k))) (h2 : ∀ x, x ∈ S -> Sv.join Sv.zero x.s = x.s) (h3 : ∀ x, x ∈ S -> Sv.none x.s = false) : sumM S = S := by
 unfold sumM
 rw [<- fold_sums, sum_self h1 h2]
 exact List.filter_eq_self.2 fun x hx => by rw [h3 x hx]; rfl
def rfind (S : List Sd) (k : Ky) : Option Sd := S.find? fun y => decide (y.k.cl = k.cl)
theorem rfind_none {S : List Sd} {k : Ky} (h : rfind S k = none) : ∀ y, y ∈ S -> y.k.cl ≠ k.cl := fun y hy e => by
 have := List.find?_eq_none.1 h y hy
 rw [decide_eq_true e] at this; exact this rfl
theorem rfind_some {S : List Sd} {k : Ky} {y : Sd} (h : rfind S k = some y) : y ∈ S /\ y.k.cl = k.cl :=
 ⟨List.mem_of_find?_eq_some h, of_decide_eq_true (List.find?_some (p := fun y : Sd => decide (y.k.cl = k.cl)) h)⟩
theorem mem_sumM {l : List Sd} {y : Sd} (h : y ∈ sumM l) : y.k ∈ keysOf l /\ y.s = foldJ l y.k /\ Sv.none y.s = false := by
 obtain ⟨h1, h2⟩ := List.mem_filter.1 h
 obtain ⟨k, hk, rfl⟩ := List.mem_map.1 h1
 exact ⟨hk, rfl, by simpa using h2⟩
theorem sumM_mem {l : List Sd} {k : Ky} (h : k ∈ keysOf l) (hn : Sv.none (foldJ l k) = false) : (⟨k, foldJ l k⟩ : Sd) ∈ sumM l :=
 List.mem_filter.2 ⟨List.mem_map.2 ⟨k, h, rfl⟩, by rw [hn]; rfl⟩
abbrev sdC (x : Sd) : List DV := [st x.k.name, it x.k.node, bo x.s.e.live, lstB x.s.e.binds, bo x.s.v.i.s.some, it x.s.v.i.s.lo, it x.s.v.i.s.hi, bo x.s.v.i.c.some, it x.s.v.i.c.m, it x.s.v.i.c.r, bo x.s.v.t.null, lst x.s.v.t.names]
abbrev Ky.ar (k : Ky) : Ar := .agg [.d (st k.name), .d (it k.node)]
instance : Inhabited Sd := ⟨⟨default, Sv.zero⟩⟩
abbrev rwD (l : List Sd) : Nat -> List DV := fun i => sdC (atD l i)
abbrev lstD (l : List Sd) : DV := .lst 12 l.length (rwD l)
def gSx (l : List DV) (j : Nat) : ByteArray := match l[j]? with
 | some (.v (.string s)) => s
 | _ => ByteArray.empty
def gBb (l : List DV) (j : Nat) : List Bd := match l[j]? with
 | some (.lst _ n f) => gBs n f
 | _ => []
def gNn (l : List DV) (j : Nat) : List ByteArray := match l[j]? with
 | some (.lst _ n f) => gN n f
 | _ => []
def gSd (l : List DV) : Sd := ⟨⟨gSx l 0, gI9 l 1⟩, ⟨⟨gB9 l 2, gBb l 3⟩, ⟨⟨⟨gB9 l 4, gI9 l 5, gI9 l 6⟩, ⟨gB9 l 7, gI9 l 8, gI9 l 9⟩⟩, ⟨gB9 l 10, gNn l 11⟩⟩⟩⟩
theorem gSd_sdC (x : Sd) : gSd (sdC x) = x := by
 obtain ⟨⟨n, j⟩, ⟨⟨e, b⟩, ⟨⟨⟨a1, a2, a3⟩, ⟨c1, c2, c3⟩⟩, ⟨z, l⟩⟩⟩⟩ := x
 show Sd.mk ⟨n, j⟩ ⟨⟨e, gBs b.length (rwB b)⟩, ⟨⟨⟨a1, a2, a3⟩, ⟨c1, c2, c3⟩⟩, ⟨z, gN l.length (fun i => [st (atS l i)])⟩⟩⟩ = _
 rw [gN_lst, gBs_row]
def gD (n : Nat) (f : Nat -> List DV) : List Sd := (List.range n).map fun i => gSd (f i)
theorem gD_length (n : Nat) (f : Nat -> List DV) : (gD n f).length = n := by simp [gD]
theorem atD_gD {n i : Nat} {f : Nat -> List DV} (h : i < n) : atD (gD n f) i = gSd (f i) := by
 simp [atD, gD, List.getD_eq_getElem?_getD, h]
theorem gD_row (l : List Sd) : gD l.length (rwD l) = l := by
 unfold gD
 apply List.ext_getElem
 . simp
 . intro i h1 h2; simp [gSd_sdC, atD, List.getD_eq_getElem?_getD, h2]
structure Sd.ok (x : Sd) : Prop where
 n : rI x.k.node
 l : okL x.s.e.binds
 v : okV x.s.v
 s : x.s.e.binds.length <= 1099511627776
structure rowOkD (l : List DV) : Prop where
 e : rowE l (sdC (gSd l))
 o : (gSd l).ok
theorem rowOkD_sdC {x : Sd} (h : x.ok) : rowOkD (sdC x) := ⟨by rw [gSd_sdC]; exact ⟨rfl, fun j a b ha hb => by rw [ha] at hb; cases hb; exact .refl _⟩, by rw [gSd_sdC]; exact h⟩
structure RowsD (n : Nat) (f : Nat -> List DV) : Prop where
 h : ∀ i, i < n -> rowOkD (f i)
theorem canonD {n : Nat} {f : Nat -> List DV} (h : ∀ i, i < n -> rowOkD (f i)) : DvE (.lst 12 n f) (.lst 12 n (rwD (gD n f))) :=
 .rows fun i hi => by show rowE (f i) (sdC (atD (gD n f) i)); rw [atD_gD hi]; exact (h i hi).e
theorem canonDo {n : Nat} {f : Nat -> List DV} (h : ∀ i, i < n -> rowOkD (f i)) : icE (.ow 12 n f) (.ow 12 n (rwD (gD n f))) :=
 ⟨rfl, rfl, fun i hi => by show rowE (f i) (sdC (atD (gD n f) i)); rw [atD_gD hi]; exact (h i hi).e⟩
def okD (l : List Sd) : Prop := ∀ x, x ∈ l -> x.ok
theorem mem_atD {l : List Sd} {x : Sd} (h : x ∈ l) : ∃ i, i < l.length /\ atD l i = x := by
 obtain ⟨i, hi, e⟩ := List.mem_iff_getElem.1 h
 exact ⟨i, hi, by unfold atD; rw [List.getD_eq_getElem?_getD, List.getElem?_eq_getElem hi]; exact e⟩
theorem atD_mem {l : List Sd} {i : Nat} (h : i < l.length) : atD l i ∈ l := by
 unfold atD; rw [List.getD_eq_getElem?_getD, List.getElem?_eq_getElem h]; exact List.getElem_mem h
theorem okD_rows {n : Nat} {f : Nat -> List DV} (h : RowsD n f) : okD (gD n f) := by
 intro x hx
 obtain ⟨i, hi, rfl⟩ := mem_atD hx
 rw [gD_length] at hi
 rw [atD_gD hi]; exact (h.h i hi).o
theorem okD_row {l : List Sd} (h : okD l) : RowsD l.length (rwD l) := ⟨fun i hi => rowOkD_sdC (h _ (atD_mem hi))⟩
theorem Sd.ok.cond {x : Sd} (h : x.ok) : Sv.cond x.s := ⟨⟨h.s, okL_row h.l⟩, ⟨⟨h.v.1.1, fun _ _ => rfl⟩, h.v.2⟩⟩
theorem take_snoc {L : List Sd} {i : Nat} (h : i < L.length) : L.take (i + 1) = L.take i ++ [atD L i] := by
 rw [List.take_succ_eq_append_getElem h]
 congr 2
 unfold atD; rw [List.getD_eq_getElem?_getD, List.getElem?_eq_getElem h]; rfl
def icmp (x y : Int) : Int := if x < y then -1 else if x > y then 1 else 0
def Ky.cmp (a b : Ky) : Int := if cfL a.name.data.toList b.name.data.toList = 0 then icmp a.cl.node b.cl.node else cfL a.name.data.toList b.name.data.toList
theorem icmp_lt {x y : Int} : icmp x y < 0 ↔ x < y := by unfold icmp; split; omega; split <;> omega
theorem icmp_eq {x y : Int} : icmp x y = 0 ↔ x = y := by unfold icmp; split; omega; split <;> omega
theorem Ky.cmp_lt (a b : Ky) : Ky.cmp a b < 0 ↔ Ky.lt a b = true := by
 rw [Ky.lt_iff]
 unfold Ky.cmp
 split
 . rename_i h
   have e := kS_inj (a := a.name) (b := b.name) ((cfL_eq _ _).1 h)
   rw [icmp_lt]
   constructor
   . exact fun q => .inl ⟨e, q⟩
   . rintro (q | q)
     . exact q.2
     . rw [e] at q; exact absurd q (List.lt_irrefl _)
 . rename_i h
   rw [cfL_lt]
   constructor
   . exact .inr
   . rintro (q | q)
     . rw [q.1] at h; exact absurd ((cfL_eq _ _).2 rfl) h
     . exact q
theorem Ky.cmp_eq (a b : Ky) : Ky.cmp a b = 0 ↔ a.cl = b.cl := by
 rw [Ky.ext_iff']
 unfold Ky.cmp
 split
 . rename_i h
   have e := kS_inj (a := a.name) (b := b.name) ((cfL_eq _ _).1 h)
   rw [icmp_eq]
   exact ⟨fun q => ⟨e, q⟩, fun q => q.2⟩
 . rename_i h
   exact ⟨fun q => absurd q h, fun q => absurd ((cfL_eq _ _).2 (congrArg kS q.1)) h⟩
theorem Ky.cl_r {k : Ky} (h : rI k.node) : rI k.cl.node := by unfold rI at *; unfold Ky.cl; simp only; split <;> omega
def FIsNaN : List Ar -> Option Rs
 | [.c (.d (.v (.int .i64 i0)))] => some ⟨(-9223372036854775808 <= i0 /\ i0 < 9223372036854775808), .va (.c (.d (bo (false)))), []⟩
 | _ => none
theorem fcIsNaN : FC Tryz.prog 173 FIsNaN := by
 intro xs pre r us h hp
 unfold FIsNaN at h
 split at h
 . rename_i i0
   cases h
   have hp0 := hp
   refine fcat tys_ok (l := []) trivial Tryz.func173 rfl (by kernel_rfl) false ?_
   repeat' (first | exact trivial | refine ⟨?_, ?_⟩ | intro _)
   all_goals first | (with_reducible first | apply qa | apply qb | apply qc | apply qd) | (conv => whnf)
   all_goals first | (refine congrArg Value.bool ?_; simp; done)
 . cases h
def FKyClean : List Ar -> Option Rs
 | [.agg [.d (.v (.string x0)), .d (.v (.int .i64 i0))]] => some ⟨(rI i0), .va (Ky.ar (Ky.cl (⟨x0, i0⟩ : Ky))), []⟩
 | _ => none
theorem fcKyClean : FC Tryz.prog 79 FKyClean := by
 intro xs pre r us h hp
 unfold FKyClean at h
 split at h
 . rename_i x0 i0
   cases h
   have hp0 := hp
   refine fcat tys_ok (l := []) trivial Tryz.func79 rfl (by kernel_rfl) true ?_
   repeat' (first | exact trivial | refine ⟨?_, ?_⟩ | intro _)
   all_goals first | (with_reducible first | apply qa | apply qb | apply qc | apply qd) | (conv => whnf)
   all_goals first | rfl | (refine congrArg (Value.int .i64) ?_; unfold Ky.cl; dsimp only; split <;> split <;> omega)
 . cases h
def FRKyClean : List Ar -> Option Rs
 | [.agg [.d (.v (.string x0)), .d (.v (.int .i64 i0))]] => some ⟨(rI i0), .va (Ky.ar (Ky.cl (⟨x0, i0⟩ : Ky))), []⟩
 | _ => none
theorem fcRKyClean : FC Tryz.prog 82 FRKyClean := by
 intro xs pre r us h hp
 unfold FRKyClean at h
 split at h
 . rename_i x0 i0
   cases h
   have hp0 := hp
   refine fcat tys_ok (l := []) trivial Tryz.func82 rfl (by kernel_rfl) true ?_
   repeat' (first | exact trivial | refine ⟨?_, ?_⟩ | intro _)
   all_goals first | (with_reducible first | apply qa | apply qb | apply qc | apply qd) | (conv => whnf)
   all_goals first | rfl | (have hd := of_decide_eq_true ‹decide (i0 < 0) = true›; refine congrArg (Value.int .i64) ?_; unfold Ky.cl; dsimp only; rw [if_pos hd]) | (have hd := of_decide_eq_false ‹decide (i0 < 0) = false›; refine congrArg (Value.int .i64) ?_; unfold Ky.cl; dsimp only; rw [if_neg hd])
 . cases h
def FRKyLess : List Ar -> Option Rs
 | [.agg [.d (.v (.string x0)), .d (.v (.int .i64 i0))], .agg [.d (.v (.string x1)), .d (.v (.int .i64 i1))]] => some ⟨(rI i0) /\ (rI i1) /\ (Ky.cl (⟨x0, i0⟩ : Ky) = (⟨x0, i0⟩ : Ky) /\ Ky.cl (⟨x1, i1⟩ : Ky) = (⟨x1, i1⟩ : Ky)), .va (.c (.d (bo (Ky.lt (⟨x0, i0⟩ : Ky) (⟨x1, i1⟩ : Ky))))), []⟩
 | _ => none
theorem fcRKyLess : FC Tryz.prog 138 FRKyLess := by
 intro xs pre r us h hp
 unfold FRKyLess at h
 split at h
 . rename_i x0 i0 x1 i1
   cases h
   obtain ⟨hp0, hp1, hp2⟩ := hp
   refine fcat tys_ok (l := []) trivial Tryz.func138 rfl (by kernel_rfl) true ?_
   repeat' (first | exact trivial | refine ⟨?_, ?_⟩ | intro _)
   all_goals first | (with_reducible first | apply qa | apply qb | apply qc | apply qd) | (conv => whnf)
   all_goals (refine congrArg Value.bool ?_; unfold Ky.lt; rw [hp2.1, hp2.2]; dsimp only)
   all_goals (have hs := seq_iff x0 x1)
   all_goals first | (have hd := ‹(!_) = true›; rw [hs] at hd; rw [if_neg (by simpa using hd)]; exact slt_eq x0 x1) | (have hd := ‹(!_) = false›; rw [hs] at hd; rw [if_pos (by simpa using hd)])
 . cases h
def FCmpInt : List Ar -> Option Rs
 | [.c (.d (.v (.int .i64 i0))), .c (.d (.v (.int .i64 i1)))] => some ⟨(-9223372036854775808 <= i0 /\ i0 < 9223372036854775808) /\ (-9223372036854775808 <= i1 /\ i1 < 9223372036854775808), .va (.c (.d (it (icmp i0 i1)))), []⟩
 | _ => none
theorem fcCmpInt : FC Tryz.prog 137 FCmpInt := by
 intro xs pre r us h hp
 unfold FCmpInt at h
 split at h
 . rename_i i0 i1
   cases h
   obtain ⟨hp0, hp1⟩ := hp
   refine fcat tys_ok (l := [(173, ⟨[], FIsNaN⟩)]) ⟨fcIsNaN, trivial⟩ Tryz.func137 rfl (by kernel_rfl) true ?_
   repeat' (first | exact trivial | (with_reducible first | exact hp0.1 | exact hp0.2 | exact hp1.1 | exact hp1.2 | exact (fun h => absurd (h : false = true) (by decide))) | refine ⟨?_, ?_⟩ | intro _)
   all_goals first | (with_reducible first | apply qa | apply qb | apply qc | apply qd) | (conv => whnf)
   all_goals first | (refine congrArg (Value.int .i64) ?_; unfold icmp; simp only [decide_eq_true_eq, decide_eq_false_iff_not] at *; first | (rw [if_pos ‹_›]; done) | (rw [if_neg ‹_›, if_pos ‹_›]; done) | (rw [if_neg ‹_›, if_neg ‹_›]; done) | (split <;> first | rfl | omega | (split <;> first | rfl | omega)))
 . cases h
theorem canon2 {f : Nat -> List DV} (h0 : f 0 = [it (gI (f 0))]) (h1 : f 1 = [it (gI (f 1))]) : DvE (.lst 1 2 f) (.lst 1 2 fun i => [it (gI (f i))]) :=
 .rows fun i hi => by
  have : i = 0 \/ i = 1 := by omega
  rcases this with rfl | rfl
  . rw [<- h0]; exact ⟨rfl, fun j a b ha hb => by rw [ha] at hb; cases hb; exact .refl _⟩
  . rw [<- h1]; exact ⟨rfl, fun j a b ha hb => by rw [ha] at hb; cases hb; exact .refl _⟩
def FCmpOr : List Ar -> Option Rs
 | [.c (.d (.lst 1 2 f0))] => some ⟨(f0 0 = [it (gI (f0 0))] /\ f0 1 = [it (gI (f0 1))]), .va (.c (.d (it (if gI (f0 0) = 0 then gI (f0 1) else gI (f0 0))))), []⟩
 | _ => none
theorem fcCmpOr : FC Tryz.prog 136 FCmpOr := by
 intro xs pre r us h hp
 unfold FCmpOr at h
 split at h
 . rename_i f0
   cases h
   have hp0 := hp
   refine FCat.deep (ys := [.c (.d (.lst 1 2 fun i => [it (gI (f0 i))]))]) ?_ ?_
   . repeat' (first | exact trivial | exact rfl | exact DvE.refl _ | refine ⟨?_, ?_⟩ | fail)
     all_goals first | exact canon2 hp0.1 hp0.2
   refine fcat tys_ok (l := []) trivial Tryz.func136 rfl (by kernel_rfl) true ?_
   repeat' (first | exact trivial | refine ⟨?_, ?_⟩ | intro _)
   all_goals first | (with_reducible first | apply qa | apply qb | apply qc | apply qd) | (conv => whnf)
   refine loop_unr tys_ok (l := []) trivial (by kernel_rfl) 3 ?_
   repeat' (first | exact trivial | refine ⟨?_, ?_⟩ | intro _)
   all_goals first | (with_reducible first | apply qa | apply qb | apply qc | apply qd) | (conv => whnf)
   all_goals (have w1 : IntKind.wrap .i64 (0 + 1) = 1 := wrap64 (by omega) (by omega))
   all_goals (have w2 : IntKind.wrap .i64 (IntKind.wrap .i64 (0 + 1) + 1) = 2 := by rw [w1]; exact wrap64 (by omega) (by omega))
   all_goals (simp only [w2, w1, Int.toNat_zero, Int.toNat_one] at *)
   all_goals first | omega | (exact absurd (of_decide_eq_true ‹decide ((2 : Int) < _) = true›) (by omega)) | (exact absurd (of_decide_eq_false ‹decide ((0 : Int) < _) = false›) (by omega)) | (exact absurd (of_decide_eq_false ‹decide ((1 : Int) < _) = false›) (by omega)) | skip
   all_goals (refine congrArg (Value.int .i64) ?_)
   all_goals first | (rw [if_neg (by simpa using ‹(gI (f0 0) != 0) = true›)]; done) | (rw [if_neg (by simpa using ‹(gI (f0 0) != 0) = true›)]; rfl) | (rw [if_pos (by simpa using ‹(gI (f0 0) != 0) = false›)]; done) | (rw [if_pos (by simpa using ‹(gI (f0 0) != 0) = false›)]; simpa using ‹(gI (f0 1) != 0) = false›) | (rw [if_pos (by simpa using ‹(gI (f0 0) != 0) = false›)]; exact (by simpa using ‹(gI (f0 1) != 0) = false› : gI (f0 1) = 0).symm)
 . cases h
def FKyCmp : List Ar -> Option Rs
 | [.agg [.d (.v (.string x0)), .d (.v (.int .i64 i0))], .agg [.d (.v (.string x1)), .d (.v (.int .i64 i1))]] => some ⟨(rI i0) /\ (rI i1), .va (.c (.d (it (Ky.cmp (⟨x0, i0⟩ : Ky) (⟨x1, i1⟩ : Ky))))), []⟩
 | _ => none
theorem fcKyCmp : FC Tryz.prog 88 FKyCmp := by
 intro xs pre r us h hp
 unfold FKyCmp at h
 split at h
 . rename_i x0 i0 x1 i1
   cases h
   obtain ⟨hp0, hp1⟩ := hp
   refine fcat tys_ok (l := [(79, ⟨[], FKyClean⟩), (70, ⟨[], FStrCmp⟩), (137, ⟨[], FCmpInt⟩), (136, ⟨[], FCmpOr⟩)]) ⟨fcKyClean, fcStrCmp, fcCmpInt, fcCmpOr, trivial⟩ Tryz.func88 rfl (by kernel_rfl) true ?_
   have hc0 := Ky.cl_r (k := ⟨x0, i0⟩) hp0
   have hc1 := Ky.cl_r (k := ⟨x1, i1⟩) hp1
   unfold rI at hc0 hc1
   repeat' (first | exact trivial | (with_reducible first | exact hp0 | exact hp1 | exact hc0 | exact hc1 | exact hc0.1 | exact hc0.2 | exact hc1.1 | exact hc1.2) | refine ⟨?_, ?_⟩ | intro _)
   all_goals first | (with_reducible first | apply qa | apply qb | apply qc | apply qd) | (conv => whnf)
   all_goals first | omega | rfl | (refine congrArg (Value.int .i64) ?_; exact rfl)
 . cases h
def FPlaceC : List Ar -> Option Rs
 | [.agg [.d (.v (.string x0)), .d (.v (.int .i64 i0)), .d (.v (.bool _)), .d (.lst 9 _ _), .d (.v (.bool _)), .d (.v (.int .i64 _)), .d (.v (.int .i64 _)), .d (.v (.bool _)), .d (.v (.int .i64 _)), .d (.v (.int .i64 _)), .d (.v (.bool _)), .d (.lst 1 _ _)], .agg [.d (.v (.string x1)), .d (.v (.int .i64 i1))]] => some ⟨(rI i0) /\ (rI i1), .va (.c (.d (it (Ky.cmp ⟨x0, i0⟩ (⟨x1, i1⟩ : Ky))))), []⟩
 | _ => none
theorem fcPlaceC : FC Tryz.prog 127 FPlaceC := by
 intro xs pre r us h hp
 unfold FPlaceC at h
 split at h
 . rename_i x0 i0 e0 n0 f0 s0 l0 h0 b0 m0 r0 z0 p0 g0 x1 i1
   cases h
   obtain ⟨hp0, hp1⟩ := hp
   refine fcat tys_ok (l := [(88, ⟨[], FKyCmp⟩)]) ⟨fcKyCmp, trivial⟩ Tryz.func127 rfl (by kernel_rfl) false ?_
   repeat' (first | exact trivial | (with_reducible first | exact hp0 | exact hp1) | refine ⟨?_, ?_⟩ | intro _)
   all_goals first | (with_reducible first | apply qa | apply qb | apply qc | apply qd) | (conv => whnf)
   all_goals first | rfl
 . cases h
abbrev gPlace : List Cv -> Option Gs := mkFv (sums [(127, ⟨[], FPlaceC⟩)]) 127 []
theorem cmp_lt (a b : Ky) : decide (Ky.cmp a b < 0) = Ky.lt a b := by
 cases h : Ky.lt a b with
 | true => exact decide_eq_true ((Ky.cmp_lt a b).2 h)
 | false => exact decide_eq_false fun q => by rw [(Ky.cmp_lt a b).1 q] at h; cases h
theorem cmp_eq (a b : Ky) : (Ky.cmp a b == 0) = decide (a.cl = b.cl) := by
 by_cases h : a.cl = b.cl
 . rw [decide_eq_true h, (Ky.cmp_eq a b).2 h]; rfl
 . rw [decide_eq_false h]; exact beq_eq_false_iff_ne.2 fun q => h ((Ky.cmp_eq a b).1 q)
theorem low_ofK {L : List Sd} {k : Ky} {i : Nat} (hi : i <= L.length) (h1 : ∀ q, q < i -> Ky.lt (atD L q).k k = true) (h2 : ∀ q, i <= q -> q < L.length -> Ky.lt (atD L q).k k = false) : lowK L k = i := by
 have := lowS_split (A := L.take i) (B := L.drop i) (k := k) (fun a ha => by
  obtain ⟨q, hq, rfl⟩ := mem_atD ha
  rw [List.length_take] at hq
  have e : atD (L.take i) q = atD L q := by unfold atD; rw [List.getD_eq_getElem?_getD, List.getElem?_take_of_lt (by omega), List.getD_eq_getElem?_getD]
  rw [e]; exact h1 q (by omega)) (fun b hb => by
  obtain ⟨q, hq, rfl⟩ := mem_atD hb
  rw [List.length_drop] at hq
  have e : atD (L.drop i) q = atD L (i + q) := by unfold atD; rw [List.getD_eq_getElem?_getD, List.getElem?_drop, List.getD_eq_getElem?_getD]
  rw [e]; exact h2 (i + q) (by omega) (by omega))
 rw [List.take_append_drop, List.length_take] at this
 omega
theorem sk_at {L : List Sd} (h : SK (L.map (·.k))) {i j : Nat} (hij : i < j) (hj : j < L.length) : Ky.lt (atD L i).k (atD L j).k = true := by
 have := List.pairwise_iff_getElem.1 h.1 i j (by rw [List.length_map]; omega) (by rw [List.length_map]; omega) hij
 rw [List.getElem_map, List.getElem_map] at this
 unfold atD
 rw [List.getD_eq_getElem?_getD, List.getElem?_eq_getElem (by omega), List.getD_eq_getElem?_getD, List.getElem?_eq_getElem hj]
 exact this
def FBSearchD : List Ar -> Option Rs
 | [.c (.ow 12 n0 f0), .agg [.d (.v (.string x1)), .d (.v (.int .i64 i1))], .fv g2] => some ⟨(n0 <= 1000000000 /\ RowsD n0 f0) /\ (rI i1) /\ (SK (((gD n0 f0)).map (·.k)) /\ g2 = gPlace), .tup [.c (.d (it (lowK (gD n0 f0) (⟨x1, i1⟩ : Ky) : Nat))), .c (.d (bo (foundK (gD n0 f0) (⟨x1, i1⟩ : Ky))))], [some (rwD (gD n0 f0))]⟩
 | _ => none
theorem fcBSearchD : FC Tryz.prog 126 FBSearchD := by
 intro xs pre r us h hp
 unfold FBSearchD at h
 split at h
 . rename_i n0 f0 x1 i1 g2
   cases h
   obtain ⟨hp0, hp1, hp2⟩ := hp
   refine FCat.deep (ys := [.c (.ow 12 n0 (rwD (gD n0 f0))), .agg [.d (.v (.string x1)), .d (.v (.int .i64 i1))], .fv g2]) ?_ ?_
   . repeat' (first | exact trivial | exact rfl | exact DvE.refl _ | refine ⟨?_, ?_⟩ | fail)
     all_goals first | exact (canonDo hp0.2.h).2.2
   refine fcat tys_ok (l := []) trivial Tryz.func126 rfl (by kernel_rfl) false ?_
   obtain ⟨hs, rfl⟩ := hp2
   have hn := hp0.1
   have hO := okD_rows hp0.2
   have hlen := gD_length n0 f0
   generalize gD n0 f0 = L at *
   clear hp0
   subst hlen
   have hri : ∀ k, k < L.length -> rI (atD L k).k.node := fun k hk => (hO _ (atD_mem hk)).n
   generalize hp : (fun k => Ky.lt (atD L k).k ⟨x1, i1⟩) = p
   have hpd : ∀ k, p k = decide (Ky.cmp (atD L k).k ⟨x1, i1⟩ < 0) := fun k => by rw [<- hp, cmp_lt]
   have hm : ∀ k q, k <= q -> q < L.length -> p q = true -> p k = true := fun k q h1 h2 h3 => by
    rw [<- hp] at h3 ⊢
    rcases Nat.lt_or_ge k q with h | h
    . exact Ky.lt_trans (sk_at hs h h2) h3
    . obtain rfl : k = q := by omega
      exact h3
   have hm2 : ∀ k q, q <= k -> k < L.length -> p q = false -> p k = false := fun k q h1 h2 h3 => by
    cases h : p k with
    | false => rfl
    | true => rw [hm q k h1 h2 h] at h3; cases h3
   have hlow : ∀ i, i <= L.length -> (∀ k, k < i -> p k = true) -> (∀ k, i <= k -> k < L.length -> p k = false) -> lowK L ⟨x1, i1⟩ = i := fun i h1 h2 h3 => by
    rw [<- hp] at h2 h3; exact low_ofK h1 h2 h3
   have hfe : ∀ k, (Ky.cmp (atD L k).k ⟨x1, i1⟩ == 0) = decide ((atD L k).k.cl = (⟨x1, i1⟩ : Ky).cl) := fun k => cmp_eq _ _
   clear hp
   repeat' (first | exact trivial | (with_reducible exact hp1) | refine ⟨?_, ?_⟩ | intro _)
   all_goals first | (with_reducible first | apply qa | apply qb | apply qc | apply qd) | (conv => whnf)
   refine loop_ok tys_ok (l := []) trivial (by kernel_rfl) (X := Nat × Nat)
    (fun x => ⟨[(9, vx (.int .i64 x.1)), (10, vx (.int .i64 x.2)), (0, .va (.c (.osl 0 12 0 L.length))), (4, .va (.c (.own 1 0))), (2, .va (.c (.fv gPlace))), (8, vx (.int .i64 L.length))], [(0, .row 12 L.length (rwD L)), (1, .cells [.d (st x1), .d (it i1)])], 2, 49⟩)
    (fun x => x.2 - x.1) (fun x => x.1 <= x.2 /\ x.2 <= L.length /\ (∀ k, k < x.1 -> p k = true) /\ (∀ k, x.2 <= k -> k < L.length -> p k = false)) [] []
    (fun x _ _ => if p ((x.1 + x.2) / 2) = true then ((x.1 + x.2) / 2 + 1, x.2) else (x.1, (x.1 + x.2) / 2)) [0, 1] [0, 1] 0 0 (0, L.length) ?_ ?_ ?_
   . exact ⟨Nat.zero_le _, Nat.le_refl _, fun k h => absurd h (Nat.not_lt_zero k), fun k h1 h2 => absurd h1 (Nat.not_le_of_lt h2)⟩
   . repeat' (first | exact trivial | exact rfl | (intro _ _; exact rfl) | refine ⟨?_, ?_⟩ | fail)
   . rintro ⟨i, j⟩ ⟨k2, k3, k4, k5⟩
     dsimp only at k2 k3 k4 k5
     rcases Nat.lt_or_ge i j with hij | hij
     . have hne : decide ((i : Int) < (j : Int)) = true := decide_eq_true (by omega)
       have hh : IntKind.wrap .i64 ((IntKind.wrap .u64 (IntKind.wrap .i64 ((i : Int) + (j : Int)))).fdiv (2 ^ min (Int.toNat 1) (IntKind.bits .u64))) = (((i + j) / 2 : Nat) : Int) := hlf (by omega)
       have hq1 : i <= (i + j) / 2 := by omega
       have hq2 : (i + j) / 2 < j := by omega
       generalize hq : (i + j) / 2 = q at *
       have hri' := hri q (by omega)
       cases hc : p q with
       | true =>
         repeat' (first | exact trivial | (with_reducible exact hp1) | refine ⟨?_, ?_⟩ | intro _)
         all_goals first | (with_reducible first | apply qa | apply qb | apply qc | apply qd) | (conv => whnf)
         all_goals first | (exact absurd (hne.symm.trans ‹_ = false›) (by decide)) | skip
         all_goals first | (have hd := ‹decide (Ky.cmp _ _ < 0) = false›; simp only [hh, Int.toNat_natCast, Nat.zero_add] at hd; exact absurd ((hc.symm.trans (hpd q)).trans hd) (by decide)) | skip
         all_goals (try simp only [hh, hq, hc, if_true, Int.toNat_natCast, Nat.zero_add])
         all_goals first | rfl | omega | exact hri'.1 | exact hri'.2 | (dsimp only; omega) | (exact congrArg (Value.int .i64) (by first | (rw [wI_id _ (by omega) (by omega)]; omega) | omega | (dsimp only; omega))) | (rename_i kk h1; simp only [hq, hc, if_true] at h1; exact hm _ q (by omega) (by omega) hc) | (rename_i kk h1 h2; simp only [hq, hc, if_true] at h1 h2; exact k5 _ h1 h2)
       | false =>
         repeat' (first | exact trivial | (with_reducible exact hp1) | refine ⟨?_, ?_⟩ | intro _)
         all_goals first | (with_reducible first | apply qa | apply qb | apply qc | apply qd) | (conv => whnf)
         all_goals first | (exact absurd (hne.symm.trans ‹_ = false›) (by decide)) | skip
         all_goals first | (have hd := ‹decide (Ky.cmp _ _ < 0) = true›; simp only [hh, Int.toNat_natCast, Nat.zero_add] at hd; exact absurd ((hc.symm.trans (hpd q)).trans hd) (by decide)) | skip
         all_goals (try simp only [hh, hq, hc, if_false, Bool.false_eq_true, Int.toNat_natCast, Nat.zero_add])
         all_goals first | rfl | omega | exact hri'.1 | exact hri'.2 | (dsimp only; omega) | (exact congrArg (Value.int .i64) (by first | (rw [wI_id _ (by omega) (by omega)]; omega) | omega | (dsimp only; omega))) | (rename_i kk h1; simp only [hq, hc, if_false, Bool.false_eq_true] at h1; exact k4 _ h1) | (rename_i kk h1 h2; simp only [hq, hc, if_false, Bool.false_eq_true] at h1 h2; exact hm2 _ q (by omega) h2 hc)
     . have hne : decide ((i : Int) < (j : Int)) = false := decide_eq_false (by omega)
       obtain rfl : i = j := by omega
       have hl := hlow i k3 k4 k5
       have hri' := fun h => hri i h
       repeat' (first | exact trivial | (with_reducible exact hp1) | refine ⟨?_, ?_⟩ | intro _)
       all_goals first | (with_reducible first | apply qa | apply qb | apply qc | apply qd) | (conv => whnf)
       all_goals first | (exact absurd (hne.symm.trans ‹_ = true›) (by decide)) | skip
       all_goals (try dsimp only)
       all_goals (try simp only [Int.toNat_natCast, Nat.zero_add])
       all_goals (try unfold foundK)
       all_goals (try rw [hl])
       all_goals first | omega | rfl | (have hd := of_decide_eq_true ‹decide (((i, i).1 : Int) < (L.length : Int)) = true›; exact hd) | (have hd := of_decide_eq_true ‹decide (((i, i).1 : Int) < _) = true›; exact (hri' (by dsimp only at hd; omega)).1) | (have hd := of_decide_eq_true ‹decide (((i, i).1 : Int) < _) = true›; exact (hri' (by dsimp only at hd; omega)).2) | (have hd := of_decide_eq_true ‹decide (((i, i).1 : Int) < _) = true›; rw [show decide (i < L.length) = true from decide_eq_true (by dsimp only at hd; omega), <- hfe i]; rfl) | (have hd := of_decide_eq_false ‹decide (((i, i).1 : Int) < (L.length : Int)) = false›; rw [show decide (i < L.length) = false from decide_eq_false (by dsimp only at hd; omega)]; rfl)
 . cases h
theorem rep_atD {P : Program} {base : Nat} {ψ : Psi} {S : Nat -> Prop} {w : World} {st : St} {a : Act} (hrel : Rel P base ψ S w st a) {k ln : Nat} {f : Nat -> List DV} (hb : lookB st.heap k = .row 12 ln f) {b m : Nat} (h1 : ψ k = some (.at b m)) :
 ∃ arr e, w.heap[b]? = some (.cells arr e (0, 0)) /\ arr.size = m := by
 have := hrel.sim.blk k _ h1
 rw [hb] at this
 obtain ⟨arr, e, h2, h3, _⟩ := this
 exact ⟨arr, e, h2, h3⟩
theorem rep_slD {P : Program} {ψ : Psi} {S : Nat -> Prop} {w : World} {k o len : Nat} {c : Cell} {v : Value} (hc : c = .osl k 12 o len \/ ∃ q, c = .osc k 12 o len q) (hl : 0 < len) (h : RepC P ψ S w c v) :
 ∃ b m q off, ψ k = some (.at b m) /\ v = .slice (some ⟨b, off, none⟩) len q /\ 0 < m := by
 rcases hc with rfl | ⟨q, rfl⟩
 . rcases h with ⟨_, h, _⟩ | ⟨b, m, c, off, h1, h2, h3, h4⟩
   . omega
   . obtain ⟨_, h5⟩ := h4 (by omega)
     exact ⟨b, m, c, off, h1, h2, by omega⟩
 . rcases h with ⟨_, h, _⟩ | ⟨b, m, off, h1, h2, h3, h4⟩
   . omega
   . obtain ⟨_, h5⟩ := h4 (by omega)
     exact ⟨b, m, q, off, h1, h2, by omega⟩
theorem acall_overlapsD {base : Nat} {k1 k2 o1 o2 len1 len2 ln1 ln2 : Nat} {f1 f2 : Nat -> List DV} {c1 c2 : Cell} {ts : List (Nat × Tm)} {h : List (Nat × Blk)} {n m : Nat} {K : Tm -> St -> Prop} (hc1 : c1 = .osl k1 12 o1 len1 \/ ∃ q, c1 = .osc k1 12 o1 len1 q) (hc2 : c2 = .osl k2 12 o2 len2 \/ ∃ q, c2 = .osc k2 12 o2 len2 q) (hne : k1 ≠ k2) (hb1 : lookB h k1 = .row 12 ln1 f1) (hb2 : lookB h k2 = .row 12 ln2 f2)
 (hl1 : 0 < len1) (hl2 : 0 < len2) (hk : K (.va (.c (.d (bo false)))) ⟨ts, h, n, m⟩) : ACall Tryz.prog base 128 [.c c1, .c c2] ⟨ts, h, n, m⟩ K := by
 refine ⟨fun ψ S w a vals hrel hvals => ?_⟩
 match vals, hvals with
 | [v1, v2], ⟨hv1, hv2, _⟩ =>
   obtain ⟨b1, m1, q1, off1, p1, rfl, r1⟩ := rep_slD hc1 hl1 hv1
   obtain ⟨b2, m2, q2, off2, p2, rfl, r2⟩ := rep_slD hc2 hl2 hv2
   obtain ⟨a1, e1, s1, u1⟩ := rep_atD hrel (f := f1) (ln := ln1) hb1 p1
   obtain ⟨a2, e2, s2, u2⟩ := rep_atD hrel (f := f2) (ln := ln2) hb2 p2
   have hbb : b1 ≠ b2 := by
    intro e
    subst e
    exact hne (hrel.sim.inj k1 k2 b1 m1 m2 p1 p2 (by show (lookB h k1).live; rw [hb1]; trivial) (by show (lookB h k2).live; rw [hb2]; trivial))
   have key : (callFunc 128 #[.slice (some ⟨b1, off1, none⟩) len1 q1, .slice (some ⟨b2, off2, none⟩) len2 q2]).run Tryz.prog w = .ok (.value (.bool false)) w := by
    rw [run_callFunc_extern (fn := Tryz.f128) (by kernel_rfl) (by kernel_rfl) (by kernel_rfl) (by kernel_rfl) (e := Extern.SlicesOverlaps.overlaps #[61, 61] #[4]) (by kernel_rfl),
     Lib.run_overlaps_apart w 61 4 70 (by kernel_rfl) 12 (fun w => by kernel_rfl) ⟨b1, off1, none⟩ ⟨b2, off2, none⟩ len1 q1 len2 q2 hbb e1 e2 a1.size a2.size
      (by simp [World.shape?, s1]) (by simp [World.shape?, s2]) (by omega) (by simp [World.frozen?, s1]) (by simp [World.frozen?, s1])]
    rfl
   exact .inr ⟨_, _, key, _, _, _, ψ, S, rfl, hk, hrel, .v trivial, Ext.refl _ _ _ _⟩
def insF (G : Nat -> List DV) (i : Nat) (x : List DV) : Nat -> List DV := fun k => if k < i then G k else if k = i then x else G (k - 1)
def FInsertD : List Ar -> Option Rs
 | [.c (.ow 12 n0 f0), .c (.d (.v (.int .i64 i1))), .c (.ow 12 n2 f2)] => some ⟨(n0 <= 1000000000) /\ (-9223372036854775808 <= i1 /\ i1 < 9223372036854775808) /\ (n2 <= 1000000000) /\ ((0 <= i1 /\ i1 <= n0) /\ n2 = 1), .va (.c (.ow 12 (n0 + 1) (insF f0 (i1).toNat (f2 0)))), [none, some f2]⟩
 | _ => none
theorem fcInsertD : FC Tryz.prog 78 FInsertD := by
 intro xs pre r us h hp
 unfold FInsertD at h
 split at h
 . rename_i n0 f0 i1 n2 f2
   cases h
   obtain ⟨hp0, hp1, hp2, hp3⟩ := hp
   refine fcatc tys_ok (l := []) trivial Tryz.func78 rfl (by kernel_rfl) false ?_
   obtain ⟨⟨ha, hb⟩, rfl⟩ := hp3
   obtain ⟨i, rfl⟩ := Int.eq_ofNat_of_zero_le ha
   have hn := hp0
   clear hp0 hp2
   generalize f0 = G at *
   generalize f2 = X at *
   simp only [Int.toNat_natCast] at *
   repeat' (first | exact trivial | refine ⟨?_, ?_⟩ | intro _)
   all_goals first | (with_reducible first | apply qa | apply qb | apply qc | apply qd) | (conv => whnf)
   all_goals (have hcap := ‹capLe _ _›; simp only [capLe] at hcap)
   all_goals first | omega | (exact absurd (eq_of_beq ‹(((1 : Nat) : Int) == 0) = true›) (by decide)) | skip
   all_goals (have hw1 : IntKind.wrap .i64 ((n0 : Int) + ((1 : Nat) : Int)) = (n0 : Int) + 1 := by rw [wI_id _ (by omega) (by omega)]; rfl)
   all_goals (have hw2 : IntKind.wrap .i64 ((i : Int) + ((1 : Nat) : Int)) = (i : Int) + 1 := by rw [wI_id _ (by omega) (by omega)]; rfl)
   all_goals (have hw3 : IntKind.wrap .i64 (IntKind.wrap .i64 ((n0 : Int) + ((1 : Nat) : Int)) - (i : Int)) = (n0 : Int) + 1 - i := by rw [hw1, wI_id _ (by omega) (by omega)])
   all_goals first | (have hin := eq_of_beq ‹((i : Int) == (n0 : Int)) = true›) | (have hin := ne_of_beq_false ‹((i : Int) == (n0 : Int)) = false›) | skip
   all_goals first | (have hgt := of_decide_eq_true ‹decide (_ > (_ : Int)) = true›) | (have hgt := of_decide_eq_false ‹decide (_ > (_ : Int)) = false›) | skip
   all_goals (simp only [hw3, hw1, hw2] at *)
   all_goals first | omega | skip
   all_goals first | (rename_i k hk; simp only [cpyRow, appRow, insF]; (repeat' split); all_goals first | (exfalso; omega) | exact (congrArg X (by omega)) | exact (congrArg G (by omega))) | skip
   apply acall_overlapsD
   . exact .inl rfl
   . exact .inr ⟨_, rfl⟩
   . decide
   . exact rfl
   . exact rfl
   . decide
   . omega
   have hw4 : IntKind.wrap .i64 ((i : Int) + ((1 : Nat) : Int)) = (i : Int) + 1 := by rw [wI_id _ (by omega) (by omega)]; rfl
   repeat' (first | exact trivial | refine ⟨?_, ?_⟩ | intro _)
   all_goals first | (with_reducible first | apply qa | apply qb | apply qc | apply qd) | (conv => whnf)
   all_goals first | (exact absurd ‹(!false) = false› (by decide)) | skip
   all_goals (try simp only [hw4])
   all_goals first | omega | (rename_i k hk; simp only [cpyRow, appRow, insF]; (repeat' split); all_goals first | (exfalso; omega) | exact (congrArg X (by omega)) | exact (congrArg G (by omega)))
 . cases h
def FNoneC : List Ar -> Option Rs
 | [.agg [.d (.v (.string x0)), .d (.v (.int .i64 i0)), .d (.v (.bool e0)), .d (.lst 9 n0 f0), .d (.v (.bool s0)), .d (.v (.int .i64 l0)), .d (.v (.int .i64 h0)), .d (.v (.bool b0)), .d (.v (.int .i64 m0)), .d (.v (.int .i64 r0)), .d (.v (.bool z0)), .d (.lst 1 p0 g0)]] => some ⟨(rI i0 /\ (n0 <= 1099511627776 /\ RowsOk n0 f0) /\ ((p0 * 16 <= 140737488351232 /\ ∀ i, i < p0 -> g0 i = [st (gT (g0 i))]) /\ Sp.inR ⟨s0, l0, h0⟩ /\ Cg.inR ⟨b0, m0, r0⟩)), .va (.c (.d (bo (Sv.none (Sd.s (⟨⟨x0, i0⟩, ⟨⟨e0, gBs n0 f0⟩, ⟨⟨⟨s0, l0, h0⟩, ⟨b0, m0, r0⟩⟩, ⟨z0, gN p0 g0⟩⟩⟩⟩ : Sd)))))), []⟩
 | _ => none
theorem fcNoneC : FC Tryz.prog 81 FNoneC := by
 intro xs pre r us h hp
 unfold FNoneC at h
 split at h
 . rename_i x0 i0 e0 n0 f0 s0 l0 h0 b0 m0 r0 z0 p0 g0
   cases h
   have hp0 := hp
   refine FCat.deep (ys := [.agg [.d (.v (.string x0)), .d (.v (.int .i64 i0)), .d (.v (.bool e0)), .d (.lst 9 n0 (rwB (gBs n0 f0))), .d (.v (.bool s0)), .d (.v (.int .i64 l0)), .d (.v (.int .i64 h0)), .d (.v (.bool b0)), .d (.v (.int .i64 m0)), .d (.v (.int .i64 r0)), .d (.v (.bool z0)), .d (.lst 1 p0 fun i => [st (gT (g0 i))])]]) ?_ ?_
   . repeat' (first | exact trivial | exact rfl | exact DvE.refl _ | refine ⟨?_, ?_⟩ | fail)
     all_goals first | first | exact canonB hp0.2.1.2.h | (exact .rows fun i hi => by rw [hp0.2.2.1.2 i hi]; exact ⟨rfl, fun j a b ha hb => by have hb : [st (gT (g0 i))][j]? = some b := hb; rw [ha] at hb; cases hb; exact .refl _⟩)
   refine fcat tys_ok (l := [(50, ⟨[], FTNone⟩)]) ⟨fcTNone, trivial⟩ Tryz.func81 rfl (by kernel_rfl) true ?_
   have hp0 := hp0.2
   have hA0 := hp0.1
   have hV0 := hp0.2
   have hvR0 := hV0.2
   simp only [Sp.inR, Cg.inR] at hvR0
   have hL0 := okL_rows hA0.2
   have hn0 := hA0.1
   have hlen0 := gBs_length n0 f0
   generalize gBs n0 f0 = L at *
   clear hA0 hp0
   subst hlen0
   have hrow0 := okL_row hL0
   have hvok0 : okV (⟨⟨⟨s0, l0, h0⟩, ⟨b0, m0, r0⟩⟩, ⟨z0, gN p0 fun i => [st (gT (g0 i))]⟩⟩ : Vl) := ⟨⟨(by rw [gN_length]; exact hV0.1.1), fun _ _ => rfl⟩, hV0.2⟩
   have hcr0 := okL_row (clean_ok (e := ⟨e0, L⟩) hL0)
   have hcl0 : (En.clean ⟨e0, L⟩).binds.length <= L.length := clean_len ⟨e0, L⟩
   repeat' (first | exact trivial | refine ⟨?_, ?_⟩ | intro _)
   all_goals first | (with_reducible first | apply qa | apply qb | apply qc | apply qd) | (conv => whnf)
   all_goals (try simp only [gBs_row, gN_lst] at *)
   all_goals first | exact hrow0 | exact hn0 | exact hV0.1.1 | exact hvR0.1.1 | exact hvR0.1.2 | exact hvR0.2.1 | exact hvR0.2.2 | exact hcr0 | omega | (intro i hi; rfl) | rfl
 . cases h
abbrev gNone : List Cv -> Option Gs := mkFv (sums [(81, ⟨[], FNoneC⟩)]) 81 []
abbrev pN (x : Sd) : Bool := Sv.none x.s
def ixD (p : Sd -> Bool) (L : List Sd) : Int := match L.findIdx? p with
 | some i => i
 | none => -1
theorem atD_get {L : List Sd} {k : Nat} (h : k < L.length) : atD L k = L[k] := by unfold atD; rw [List.getD_eq_getElem?_getD, List.getElem?_eq_getElem h]; rfl
theorem ixD_some {p : Sd -> Bool} {L : List Sd} {i : Nat} (hi : i < L.length) (h1 : ∀ k, k < i -> p (atD L k) = false) (h2 : p (atD L i) = true) : ixD p L = i := by
 unfold ixD
 have : L.findIdx? p = some i := by
  rw [List.findIdx?_eq_some_iff_getElem]
  refine ⟨hi, by rw [<- atD_get hi]; exact h2, fun j hj => ?_⟩
  rw [<- atD_get (by omega), h1 j hj]; exact Bool.false_ne_true
 rw [this]
theorem ixD_none {p : Sd -> Bool} {L : List Sd} (h1 : ∀ k, k < L.length -> p (atD L k) = false) : ixD p L = -1 := by
 unfold ixD
 have : L.findIdx? p = none := by
  rw [List.findIdx?_eq_none_iff]
  intro x hx
  obtain ⟨k, hk, rfl⟩ := mem_atD hx
  exact h1 k hk
 rw [this]
theorem ixD_cases (p : Sd -> Bool) (L : List Sd) : (ixD p L = -1 /\ ∀ k, k < L.length -> p (atD L k) = false) \/ ∃ i, ixD p L = (i : Nat) /\ i < L.length /\ (∀ k, k < i -> p (atD L k) = false) /\ p (atD L i) = true := by
 unfold ixD
 cases h : L.findIdx? p with
 | none =>
   rw [List.findIdx?_eq_none_iff] at h
   exact .inl ⟨rfl, fun k hk => h _ (atD_mem hk)⟩
 | some i =>
   rw [List.findIdx?_eq_some_iff_getElem] at h
   obtain ⟨h1, h2, h3⟩ := h
   refine .inr ⟨i, rfl, h1, fun k hk => ?_, by rw [atD_get h1]; exact h2⟩
   rw [atD_get (by omega)]
   simpa using h3 k hk
theorem seg_atD (L : List Sd) : seg (atD L) 0 L.length = L := by
 apply List.ext_getElem
 . rw [seg_length]; omega
 . intro i h1 h2
   have := seg_getD (g := atD L) (a := 0) (b := L.length) (k := i) (by omega)
   rw [List.getD_eq_getElem?_getD, List.getElem?_eq_getElem h1, Nat.zero_add, atD_get h2] at this
   exact this
theorem filD_len (p : Sd -> Bool) (G : Nat -> Sd) (j : Nat) : ((seg G 0 j).filter p).length <= j := by
 have := List.length_filter_le p (seg G 0 j)
 rw [seg_length] at this; omega
theorem filD_step (p : Sd -> Bool) (G : Nat -> Sd) (j : Nat) : (seg G 0 (j + 1)).filter p = (seg G 0 j).filter p ++ if p (G j) = true then [G j] else [] := by
 rw [seg_snoc G (Nat.zero_le j), List.filter_append]
 congr 1
 cases h : p (G j) <;> simp [List.filter, h]
theorem filD_all {p : Sd -> Bool} {G : Nat -> Sd} {j : Nat} (h : ∀ k, k < j -> p (G k) = true) : (seg G 0 j).filter p = seg G 0 j := by
 rw [List.filter_eq_self]
 intro x hx
 obtain ⟨k, _, hk, rfl⟩ := mem_seg.1 hx
 exact h k hk
theorem row_pushD {G : Nat -> Sd} {L : List Sd} {x : Sd} {i : Nat} {r : List DV} (hi : i = L.length) (hr : r = sdC x) (k : Nat) : setRow (fun k => sdC (put G 0 L k)) i r k = sdC (put G 0 (L ++ [x]) k) := by
 subst hi; subst hr
 rw [setRow_at]
 split
 . rename_i h; subst h
   have := put_mid G 0 L x []
   rw [Nat.zero_add] at this
   rw [this]
 . rename_i h
   unfold put
   rw [List.length_append]
   by_cases c : k < L.length
   . rw [if_pos (by omega), if_pos (by simp; omega), List.getD_eq_getElem?_getD, List.getD_eq_getElem?_getD, List.getElem?_append_left (by omega)]
   . rw [if_neg (by omega), if_neg (by simp; omega)]
theorem put_atD {G : Nat -> Sd} {l : List Sd} {k : Nat} (h : k < l.length) : put G 0 l k = atD l k := by
 have := putAt (g := G) (a := 0) h
 rw [Nat.zero_add] at this; exact this
def FIndexD : List Ar -> Option Rs
 | [.c (.ow 12 n0 f0), .fv g1] => some ⟨(n0 <= 1000000000 /\ RowsD n0 f0) /\ (g1 = gNone), .va (.c (.d (it (ixD pN (gD n0 f0))))), [some (rwD (gD n0 f0))]⟩
 | _ => none
theorem fcIndexD : FC Tryz.prog 86 FIndexD := by
 intro xs pre r us h hp
 unfold FIndexD at h
 split at h
 . rename_i n0 f0 g1
   cases h
   obtain ⟨hp0, hp1⟩ := hp
   refine FCat.deep (ys := [.c (.ow 12 n0 (rwD (gD n0 f0))), .fv g1]) ?_ ?_
   . repeat' (first | exact trivial | exact rfl | exact DvE.refl _ | refine ⟨?_, ?_⟩ | fail)
     all_goals first | exact (canonDo hp0.2.h).2.2
   refine fcat tys_ok (l := []) trivial Tryz.func86 rfl (by kernel_rfl) false ?_
   obtain rfl := hp1
   have hn := hp0.1
   have hO := okD_rows hp0.2
   have hlen := gD_length n0 f0
   generalize gD n0 f0 = L at *
   clear hp0
   subst hlen
   have hrow := okD_row hO
   have hat : ∀ k, k < L.length -> (atD L k).ok := fun k hk => hO _ (atD_mem hk)
   repeat' (first | exact trivial | refine ⟨?_, ?_⟩ | intro _)
   all_goals first | (with_reducible first | apply qa | apply qb | apply qc | apply qd) | (conv => whnf)
   refine loop_ok tys_ok (l := []) trivial (by kernel_rfl) (X := Nat)
    (fun i => ⟨[(8, vx (.int .i64 i)), (0, .va (.c (.osl 0 12 0 L.length))), (1, .va (.c (.fv gNone))), (7, vx (.int .i64 L.length))], [(0, .row 12 L.length (rwD L))], 1, 19⟩)
    (fun i => L.length - i) (fun i => i <= L.length /\ ∀ k, k < i -> pN (atD L k) = false) [] []
    (fun i _ _ => i + 1) [0] [0] 0 0 0 ?_ ?_ ?_
   . exact ⟨Nat.zero_le _, fun k h => absurd h (Nat.not_lt_zero k)⟩
   . repeat' (first | exact trivial | exact rfl | (intro _ _; exact rfl) | refine ⟨?_, ?_⟩ | fail)
   . rintro i ⟨k1, k2⟩
     rcases Nat.lt_or_ge i L.length with hi | hi
     . have hne : decide ((i : Int) < (L.length : Int)) = true := decide_eq_true (by omega)
       have hai := hat i hi
       have hac := hai.cond
       have har := hai.n
       have hacr := hac.2.2
       simp only [Sp.inR, Cg.inR] at hacr
       have hgg : (⟨⟨(atD L i).s.e.live, gBs (atD L i).s.e.binds.length (rwB (atD L i).s.e.binds)⟩, ⟨⟨⟨(atD L i).s.v.i.s.some, (atD L i).s.v.i.s.lo, (atD L i).s.v.i.s.hi⟩, ⟨(atD L i).s.v.i.c.some, (atD L i).s.v.i.c.m, (atD L i).s.v.i.c.r⟩⟩, ⟨(atD L i).s.v.t.null, gN (atD L i).s.v.t.names.length fun j => [st (atS (atD L i).s.v.t.names j)]⟩⟩⟩ : Sv) = (atD L i).s := Sv.again_eq _
       have hix := fun h => ixD_some (p := pN) hi k2 h
       have hall : pN (atD L i) = false -> ∀ k, k < i + 1 -> pN (atD L k) = false := fun h k hk => by
        rcases Nat.lt_or_ge k i with hki | hki
        . exact k2 k hki
        . rw [show k = i by omega]; exact h
       cases hc2 : Sv.none (atD L i).s with
       | true =>
         replace hix := hix hc2
         clear hall
         repeat' (first | exact trivial | refine ⟨?_, ?_⟩ | intro _)
         all_goals first | (with_reducible first | apply qa | apply qb | apply qc | apply qd) | (conv => whnf)
         all_goals first | (exact absurd (hne.symm.trans ‹_ = false›) (by decide)) | skip
         all_goals (try simp only [Int.toNat_natCast, Nat.zero_add, hgg, hc2] at *)
         all_goals first | (exact absurd ‹true = false› (by decide)) | omega | rfl | exact hac.1.1 | exact hac.1.2 | exact hac.2.1.1 | exact har | exact har.1 | exact har.2 | (exact congrArg (Value.int .i64) (by first | (rw [wI_id _ (by omega) (by omega)]; omega) | omega | (dsimp only; omega))) | exact congrArg (Value.int .i64) hix.symm
       | false =>
         replace hall := hall hc2
         clear hix
         repeat' (first | exact trivial | refine ⟨?_, ?_⟩ | intro _)
         all_goals first | (with_reducible first | apply qa | apply qb | apply qc | apply qd) | (conv => whnf)
         all_goals first | (exact absurd (hne.symm.trans ‹_ = false›) (by decide)) | skip
         all_goals (try simp only [Int.toNat_natCast, Nat.zero_add, hgg, hc2] at *)
         all_goals first | (exact absurd ‹false = true› (by decide)) | omega | rfl | exact hac.1.1 | exact hac.1.2 | exact hac.2.1.1 | exact har | exact har.1 | exact har.2 | (exact congrArg (Value.int .i64) (by first | (rw [wI_id _ (by omega) (by omega)]; omega) | omega | (dsimp only; omega))) | exact hall _ ‹_›
     . have hne : decide ((i : Int) < (L.length : Int)) = false := decide_eq_false (by omega)
       obtain rfl : i = L.length := by omega
       repeat' (first | exact trivial | refine ⟨?_, ?_⟩ | intro _)
       all_goals first | (with_reducible first | apply qa | apply qb | apply qc | apply qd) | (conv => whnf)
       all_goals first | (exact absurd (hne.symm.trans ‹_ = true›) (by decide)) | skip
       all_goals first | exact Nat.le_refl _ | (rw [ixD_none k2]; done) | (rw [ixD_none k2]; rfl)
 . cases h
def FDeleteD : List Ar -> Option Rs
 | [.c (.ow 12 n0 f0), .fv g1] => some ⟨(n0 <= 1000000000 /\ RowsD n0 f0) /\ (g1 = gNone), .va (.c (.ow 12 (((gD n0 f0)).filter fun x => !pN x).length (rwD (((gD n0 f0)).filter fun x => !pN x)))), [none]⟩
 | _ => none
theorem fcDeleteD : FC Tryz.prog 80 FDeleteD := by
 intro xs pre r us h hp
 unfold FDeleteD at h
 split at h
 . rename_i n0 f0 g1
   cases h
   obtain ⟨hp0, hp1⟩ := hp
   refine FCat.deep (ys := [.c (.ow 12 n0 (rwD (gD n0 f0))), .fv g1]) ?_ ?_
   . repeat' (first | exact trivial | exact rfl | exact DvE.refl _ | refine ⟨?_, ?_⟩ | fail)
     all_goals first | exact (canonDo hp0.2.h).2.2
   refine fcat tys_ok (l := [(86, ⟨[true], FIndexD⟩)]) ⟨fcIndexD, trivial⟩ Tryz.func80 rfl (by kernel_rfl) false ?_
   obtain rfl := hp1
   have hn := hp0.1
   have hO := okD_rows hp0.2
   have hlen := gD_length n0 f0
   generalize gD n0 f0 = L at *
   clear hp0
   subst hlen
   have hrow := okD_row hO
   have hat : ∀ k, k < L.length -> (atD L k).ok := fun k hk => hO _ (atD_mem hk)
   have hgb := gD_row L
   have hsl : (L.filter fun x => !pN x) = (seg (atD L) 0 L.length).filter fun x => !pN x := by rw [seg_atD]
   have hfl := filD_len (fun x => !pN x) (atD L)
   repeat' (first | exact trivial | (with_reducible exact hrow) | refine ⟨?_, ?_⟩ | intro _)
   all_goals first | (with_reducible first | apply qa | apply qb | apply qc | apply qd) | (conv => whnf)
   all_goals first | exact hn | exact Nat.le_refl _ | rfl | skip
   all_goals (rcases ixD_cases pN L with ⟨hix, hno⟩ | ⟨i, hix, hi, hlo, hatp⟩)
   all_goals (simp only [hgb, hix] at *)
   all_goals first | (exact absurd ‹((-1 : Int) == -1) = false› (by decide)) | (exact absurd (eq_of_beq ‹((i : Int) == -1) = true›) (by omega)) | skip
   . rw [List.filter_eq_self.2 (fun x hx => by obtain ⟨k, hk, rfl⟩ := mem_atD hx; rw [hno k hk]; rfl)]
   . rw [List.filter_eq_self.2 (fun x hx => by obtain ⟨k, hk, rfl⟩ := mem_atD hx; rw [hno k hk]; rfl)]
   have hF : (seg (atD L) 0 (i + 1)).filter (fun x => !pN x) = seg (atD L) 0 i := by
    rw [filD_step, hatp, filD_all fun k hk => by rw [hlo k hk]; rfl]
    simp
   have hgen : ∀ j, (seg (atD L) 0 (j + 1)).filter (fun x => !pN x) = (seg (atD L) 0 j).filter (fun x => !pN x) ++ if (!pN (atD L j)) = true then [atD L j] else [] := filD_step _ _
   generalize hFF : (fun j => (seg (atD L) 0 j).filter (fun x => !pN x)) = F
   have hFe : ∀ j, (seg (atD L) 0 j).filter (fun x => !pN x) = F j := fun j => congrFun hFF j
   simp only [hFe] at hF hgen hsl hfl
   have hw0 : IntKind.wrap .i64 ((i : Int) + 1) = ((i + 1 : Nat) : Int) := by rw [wI_id _ (by omega) (by omega)]; omega
   refine loop_ok tys_ok (l := [(86, ⟨[true], FIndexD⟩)]) ⟨fcIndexD, trivial⟩ (by kernel_rfl) (X := Nat)
    (fun j => ⟨[(6, vx (.int .i64 j)), (5, vx (.int .i64 (F j).length)), (0, .va (.c (.osl 0 12 0 L.length))), (1, .va (.c (.fv gNone)))], [(0, .row 12 L.length fun k => sdC (put (atD L) 0 (F j) k))], 1, 42⟩)
    (fun j => L.length - j) (fun j => i + 1 <= j /\ j <= L.length /\ (F j).length < j) [] []
    (fun j _ _ => j + 1) [0] [0] 0 0 (i + 1) ?_ ?_ ?_
   . exact ⟨Nat.le_refl _, hi, by rw [hF, seg_length]; omega⟩
   . rw [hF, put_seg]
     repeat' (first | exact trivial | exact rfl | (intro _ _; exact rfl) | refine ⟨?_, ?_⟩ | fail)
     all_goals (refine congrArg (Value.int .i64) ?_; first | rw [hw0] | (rw [seg_length]; omega))
   . rintro j ⟨k1, k2, k3⟩
     rcases Nat.lt_or_ge j L.length with hj | hj
     . have hne : decide ((j : Int) < (L.length : Int)) = true := decide_eq_true (by omega)
       have hg1 : put (atD L) 0 (F j) j = atD L j := put_out (.inr (by omega))
       have hs := hgen j
       have hai := hat j hj
       have hac := hai.cond
       have har := hai.n
       have hacr := hac.2.2
       simp only [Sp.inR, Cg.inR] at hacr
       have hgg : (⟨⟨(atD L j).s.e.live, gBs (atD L j).s.e.binds.length (rwB (atD L j).s.e.binds)⟩, ⟨⟨⟨(atD L j).s.v.i.s.some, (atD L j).s.v.i.s.lo, (atD L j).s.v.i.s.hi⟩, ⟨(atD L j).s.v.i.c.some, (atD L j).s.v.i.c.m, (atD L j).s.v.i.c.r⟩⟩, ⟨(atD L j).s.v.t.null, gN (atD L j).s.v.t.names.length fun q => [st (atS (atD L j).s.v.t.names q)]⟩⟩⟩ : Sv) = (atD L j).s := Sv.again_eq _
       cases hc : pN (atD L j) with
       | true =>
         rw [hc, if_neg (by decide), List.append_nil] at hs
         have hc2 : Sv.none (atD L j).s = true := hc
         repeat' (first | exact trivial | refine ⟨?_, ?_⟩ | intro _)
         all_goals first | (with_reducible first | apply qa | apply qb | apply qc | apply qd) | (conv => whnf)
         all_goals first | (exact absurd (hne.symm.trans ‹_ = false›) (by decide)) | skip
         all_goals (try simp only [Int.toNat_natCast, Nat.zero_add, hg1, hgg, hc2] at *)
         all_goals first | (exact absurd ‹(!true) = true› (by decide)) | skip
         all_goals (try simp only [hs])
         all_goals first | omega | rfl | exact hac.1.1 | exact hac.1.2 | exact hac.2.1.1 | exact hac.2.2 | exact har | exact har.1 | exact har.2 | (exact congrArg (Value.int .i64) (by first | (rw [wI_id _ (by omega) (by omega)]; omega) | omega | (dsimp only; omega)))
       | false =>
         rw [hc, if_pos (by decide)] at hs
         have hlen : (F (j + 1)).length = (F j).length + 1 := by rw [hs]; simp
         have hc2 : Sv.none (atD L j).s = false := hc
         repeat' (first | exact trivial | refine ⟨?_, ?_⟩ | intro _)
         all_goals first | (with_reducible first | apply qa | apply qb | apply qc | apply qd) | (conv => whnf)
         all_goals first | (exact absurd (hne.symm.trans ‹_ = false›) (by decide)) | skip
         all_goals (try simp only [Int.toNat_natCast, Nat.zero_add, hg1, hgg, hc2] at *)
         all_goals first | (exact absurd ‹(!false) = false› (by decide)) | skip
         all_goals (try simp only [hlen])
         all_goals first | omega | rfl | exact hac.1.1 | exact hac.1.2 | exact hac.2.1.1 | exact hac.2.2 | exact har | exact har.1 | exact har.2 | (exact congrArg (Value.int .i64) (by first | (rw [wI_id _ (by omega) (by omega)]; omega) | omega | (dsimp only; omega))) | (rw [hs]; exact row_pushD rfl rfl _)
     . have hne : decide ((j : Int) < (L.length : Int)) = false := decide_eq_false (by omega)
       obtain rfl : j = L.length := by omega
       repeat' (first | exact trivial | refine ⟨?_, ?_⟩ | intro _)
       all_goals first | (with_reducible first | apply qa | apply qb | apply qc | apply qd) | (conv => whnf)
       all_goals first | (exact absurd (hne.symm.trans ‹_ = true›) (by decide)) | skip
       all_goals (try simp only [Int.toNat_natCast, Nat.zero_add, hsl])
       all_goals first | rfl | omega | (rename_i k hk; rw [clr_lo (by omega)]; exact congrArg sdC (put_atD (by omega)))
 . cases h
def FPlaceO : List Ar -> Option Rs
 | [.c (.ow 12 n0 f0), .agg [.d (.v (.string x1)), .d (.v (.int .i64 i1))]] => some ⟨(n0 <= 1000000000 /\ RowsD n0 f0) /\ (rI i1) /\ (SK (((gD n0 f0)).map (·.k))), .tup [.c (.d (it (lowK (gD n0 f0) (⟨x1, i1⟩ : Ky) : Nat))), .c (.d (bo (foundK (gD n0 f0) (⟨x1, i1⟩ : Ky))))], [some (rwD (gD n0 f0))]⟩
 | _ => none
theorem fcPlaceO : FC Tryz.prog 77 FPlaceO := by
 intro xs pre r us h hp
 unfold FPlaceO at h
 split at h
 . rename_i n0 f0 x1 i1
   cases h
   obtain ⟨hp0, hp1, hp2⟩ := hp
   refine FCat.deep (ys := [.c (.ow 12 n0 (rwD (gD n0 f0))), .agg [.d (.v (.string x1)), .d (.v (.int .i64 i1))]]) ?_ ?_
   . repeat' (first | exact trivial | exact rfl | exact DvE.refl _ | refine ⟨?_, ?_⟩ | fail)
     all_goals first | exact (canonDo hp0.2.h).2.2
   refine fcat tys_ok (l := [(126, ⟨[true], FBSearchD⟩), (127, ⟨[], FPlaceC⟩)]) ⟨fcBSearchD, fcPlaceC, trivial⟩ Tryz.func77 rfl (by kernel_rfl) false ?_
   have hn := hp0.1
   have hO := okD_rows hp0.2
   have hlen := gD_length n0 f0
   generalize gD n0 f0 = L at *
   clear hp0
   subst hlen
   have hrow := okD_row hO
   have hgb := gD_row L
   have hp3 : SK ((gD L.length (rwD L)).map (·.k)) := by rw [hgb]; exact hp2
   repeat' (first | exact trivial | (with_reducible first | exact hrow | exact hp1 | exact hp1.1 | exact hp1.2 | exact hp3) | refine ⟨?_, ?_⟩ | intro _)
   all_goals first | (with_reducible first | apply qa | apply qb | apply qc | apply qd) | (conv => whnf)
   all_goals (try simp only [hgb])
   all_goals first | exact hn | exact hp2 | exact Nat.le_refl _ | rfl
 . cases h
theorem vjoin_zero (v : Vl) : Vl.join Vl.zero v = v.of := by
 have h1 : Vl.zero.of = Vl.zero := Vl.of_fix Vl.zero_tidy
 have ht := Vl.of_tidy v
 have ha := Vl.l3_join2 Vl.zero v
 unfold Vl.join
 rw [h1]
 have e1 : Sp.join Vl.zero.i.s v.of.i.s = v.of.i.s := by
  rcases ht.i with e | ⟨⟨e1, e2⟩, e3, _⟩
  . rw [e]; rfl
  . generalize v.of.i.s = x at *
    unfold Vl.zero Ig.zero
    grind [Sp.join, Sp.none, Sp.clean, Sp.of]
 have e2 : Cg.join Vl.zero.i.c v.of.i.c = v.of.i.c := join_no1 rfl (tidy_c ht.i)
 rw [e1, e2]
 have e3 : ofS (ofS Vl.zero.t.names ++ ofS v.t.names) = v.of.t.names := by
  show ofS (ofS [] ++ ofS v.t.names) = _
  rw [ofS_nil, List.nil_append, of_names, ofS_eq, ofS_eq, cleanS_idem]
 have e4 : (Vl.zero.t.null || v.t.null) = v.of.t.null := by rw [of_null]; rfl
 rw [e3, e4]
theorem ejoin_zero (e : En) : En.join ⟨false, []⟩ e = e.clean := by rw [join_case, if_neg Bool.false_ne_true]
theorem sjoin_zero (s : Sv) : Sv.join Sv.zero s = s.clean := by
 rw [Sv.join_is]
 show (⟨En.join ⟨false, []⟩ s.e, Vl.join Vl.zero s.v⟩ : Sv) = ⟨s.e.clean, s.v.of⟩
 rw [ejoin_zero, vjoin_zero]
theorem setD_row1 {D : List Sd} {x : Sd} {r : List DV} (h : foundK D x.k = true) (hr : r = sdC ⟨(atD D (lowK D x.k)).k, Sv.join (atD D (lowK D x.k)).s x.s⟩) {q : Nat} (hq : q < D.length) : setRow (rwD D) (lowK D x.k) r q = sdC (atD (sumIns D x) q) := by
 subst hr
 unfold sumIns
 rw [if_pos h, setRow_at]
 have : atD (D.set (lowK D x.k) ⟨(atD D (lowK D x.k)).k, Sv.join (atD D (lowK D x.k)).s x.s⟩) q = if q = lowK D x.k then ⟨(atD D (lowK D x.k)).k, Sv.join (atD D (lowK D x.k)).s x.s⟩ else atD D q := by
  generalize (⟨(atD D (lowK D x.k)).k, Sv.join (atD D (lowK D x.k)).s x.s⟩ : Sd) = y
  unfold atD
  rw [List.getD_eq_getElem?_getD, List.getElem?_set]
  by_cases h : lowK D x.k = q
  . subst h; rw [if_pos rfl, if_pos hq, if_pos rfl]; rfl
  . rw [if_neg h, if_neg (Ne.symm h), List.getD_eq_getElem?_getD]
 rw [this]; split <;> rfl
theorem lowK_le (D : List Sd) (k : Ky) : lowK D k <= D.length := List.countP_le_length
theorem atD_ins {D : List Sd} {i : Nat} {x : Sd} (hi : i <= D.length) (k : Nat) : atD (D.take i ++ x :: D.drop i) k = if k < i then atD D k else if k = i then x else atD D (k - 1) := by
 unfold atD
 have hl : (D.take i).length = i := by rw [List.length_take]; omega
 simp only [List.getD_eq_getElem?_getD]
 by_cases h : k < i
 . rw [if_pos h, List.getElem?_append_left (by omega), List.getElem?_take_of_lt h]
 . rw [if_neg h, List.getElem?_append_right (by omega), hl]
   by_cases h2 : k = i
   . subst h2; rw [if_pos rfl, Nat.sub_self]; rfl
   . rw [if_neg h2, show k - i = (k - i - 1) + 1 by omega, List.getElem?_cons_succ, List.getElem?_drop]
     congr 2; omega
theorem setD_row2 {D : List Sd} {x : Sd} {r y : List DV} (h : foundK D x.k = false) (hr : r = sdC ⟨x.k.cl, Sv.join Sv.zero x.s⟩) (q : Nat) : setRow (insF (rwD D) (lowK D x.k) y) (lowK D x.k) r q = sdC (atD (sumIns D x) q) := by
 subst hr
 unfold sumIns
 rw [if_neg (by rw [h]; exact Bool.false_ne_true), setRow_at, atD_ins (lowK_le D x.k)]
 by_cases hq : q = lowK D x.k
 . rw [if_pos hq, if_neg (by omega), if_pos hq]
 . rw [if_neg hq]; unfold insF; rw [if_neg hq]
   split <;> rfl
theorem sumIns_len (D : List Sd) (x : Sd) : (sumIns D x).length = if foundK D x.k = true then D.length else D.length + 1 := by
 unfold sumIns
 have := lowK_le D x.k
 split
 . rw [List.length_set]
 . rw [List.length_append, List.length_cons, List.length_take, List.length_drop]; omega
theorem foundK_lt {D : List Sd} {k : Ky} (h : foundK D k = true) : lowK D k < D.length := by
 unfold foundK at h
 rw [Bool.and_eq_true] at h
 exact of_decide_eq_true h.1
theorem insF_at (G : Nat -> List DV) (i : Nat) (x : List DV) : insF G i x i = x := by unfold insF; rw [if_neg (Nat.lt_irrefl _), if_pos rfl]
theorem okD_sums {L : List Sd} {B : Nat} (hB : B <= 1000000000) (hO : okD L) (hF : ∀ k, Sv.fit B (foldJ L k)) : okD (sumsK L) := by
 intro y hy
 obtain ⟨k, hk, rfl⟩ := List.mem_map.1 hy
 have h := hF k
 refine ⟨?_, h.l, h.v, Nat.le_trans h.len (by omega)⟩
 obtain ⟨x, hx, rfl⟩ := (mem_keys L k).1 hk
 exact Ky.cl_r (hO x hx).n
theorem sums_len (L : List Sd) : (sumsK L).length <= L.length := by
 have := keys_len L
 unfold sumsK; rw [List.length_map]; exact this
theorem sums_sk (L : List Sd) : SK ((sumsK L).map (·.k)) := by rw [sums_keys]; exact keys_sk L
theorem sums_at {L : List Sd} {i : Nat} (h : i < (sumsK L).length) : (atD (sumsK L) i).s = foldJ L (atD (sumsK L) i).k := by
 have hm := atD_mem h
 generalize atD (sumsK L) i = y at *
 obtain ⟨k, hk, rfl⟩ := List.mem_map.1 hm
 rfl
theorem fit_zero : Sv.fit 0 Sv.zero := ⟨fun x hx => (by cases hx), ⟨⟨Nat.zero_le _, fun _ _ => rfl⟩, (by unfold Sv.zero Vl.zero Ig.zero Sp.inR Cg.inR; decide)⟩, Nat.zero_le _, fun x hx => (by cases hx), Nat.zero_le _⟩
def FCSum : List Ar -> Option Rs
 | [.c (.d (.lst 12 n0 f0))] => some ⟨(n0 <= 1000000000 /\ RowsD n0 f0) /\ (∃ B, B <= 100000000 /\ (∀ i, i < n0 -> Sv.fit B (atD (gD n0 f0) i).s) /\ ∀ i, i <= n0 -> ∀ k, Sv.fit B (foldJ (((gD n0 f0)).take i) k)), .va (.c (.d (lstD (sumM (gD n0 f0))))), []⟩
 | _ => none
theorem fcCSum : FC Tryz.prog 28 FCSum := by
 intro xs pre r us h hp
 unfold FCSum at h
 split at h
 . rename_i n0 f0
   cases h
   obtain ⟨hp0, hp1⟩ := hp
   refine FCat.deep (ys := [.c (.d (.lst 12 n0 (rwD (gD n0 f0))))]) ?_ ?_
   . repeat' (first | exact trivial | exact rfl | exact DvE.refl _ | refine ⟨?_, ?_⟩ | fail)
     all_goals first | exact canonD hp0.2.h
   refine fcat tys_ok (l := [(77, ⟨[true], FPlaceO⟩), (79, ⟨[], FKyClean⟩), (78, ⟨[true, false, true], FInsertD⟩), (52, ⟨[], FP zGG FTJoin⟩), (80, ⟨[true], FDeleteD⟩), (81, ⟨[], FNoneC⟩), (127, ⟨[], FPlaceC⟩)]) ⟨fcPlaceO, fcKyClean, fcInsertD, fc_nilp zGG fcTJoin, fcDeleteD, fcNoneC, fcPlaceC, trivial⟩ Tryz.func28 rfl (by kernel_rfl) true ?_
   obtain ⟨Bn, hB, hf, hF⟩ := hp1
   have hn := hp0.1
   have hO := okD_rows hp0.2
   have hlen := gD_length n0 f0
   generalize gD n0 f0 = L at *
   clear hp0
   subst hlen
   have hrow := okD_row hO
   repeat' (first | exact trivial | refine ⟨?_, ?_⟩ | intro _)
   all_goals first | (with_reducible first | apply qa | apply qb | apply qc | apply qd) | (conv => whnf)
   refine loop_ids tys_ok (l := [(77, ⟨[true], FPlaceO⟩), (79, ⟨[], FKyClean⟩), (78, ⟨[true, false, true], FInsertD⟩), (52, ⟨[], FP zGG FTJoin⟩), (80, ⟨[true], FDeleteD⟩), (81, ⟨[], FNoneC⟩), (127, ⟨[], FPlaceC⟩)]) ⟨fcPlaceO, fcKyClean, fcInsertD, fc_nilp zGG fcTJoin, fcDeleteD, fcNoneC, fcPlaceC, trivial⟩ (by kernel_rfl) (X := Nat)
    (fun i => ⟨[(10, vx (.int .i64 i)), (3, .va (.c (.osl 0 12 0 (sumsK (L.take i)).length))), (8, .va (.c (.d (.lst 12 L.length (rwD L))))), (9, vx (.int .i64 L.length))], [(0, .row 12 (sumsK (L.take i)).length (rwD (sumsK (L.take i))))], 1, 46⟩)
    (fun i => L.length - i) (fun i => i <= L.length) [3] []
    (fun i _ _ => i + 1) (fun xs => match xs with | [t] => [oI t] | _ => []) [] 0 1 0 ?_ ?_ ?_
   . exact Nat.zero_le _
   . repeat' (first | exact trivial | exact rfl | (intro _ h; exact absurd h (Nat.not_lt_zero _)) | (intro _ _; exact rfl) | refine ⟨?_, ?_⟩ | fail)
     all_goals first | simp
   . rintro i k1
     rcases Nat.lt_or_ge i L.length with hi | hi
     . have hne : decide ((i : Int) < (L.length : Int)) = true := decide_eq_true (by omega)
       have hi0 : (0 : Int) <= (i : Int) /\ (i : Int) < (L.length : Int) := by omega
       have hOk : okD (sumsK (L.take i)) := okD_sums (by omega) (fun x hx => hO x (List.mem_of_mem_take hx)) (hF i (by omega))
       have hOs := sums_sk (L.take i)
       have hOl := sums_len (L.take i)
       have hOt := sums_snoc (L.take i) (atD L (Int.toNat (i : Int)))
       have htk : L.take i ++ [(atD L (Int.toNat (i : Int)))] = L.take (i + 1) := (take_snoc hi).symm
       rw [htk] at hOt
       have hOa : ∀ q, q < (sumsK (L.take i)).length -> Sv.fit Bn (atD (sumsK (L.take i)) q).s := fun q hq => by rw [sums_at hq]; exact hF i (by omega) _
       rw [List.length_take] at hOl
       have hOr := okD_row hOk
       have hgO := gD_row (sumsK (L.take i))
       have hO2 : (sumsK (L.take i)).length <= 1000000000 := by omega
       have hO3 : (sumsK (L.take i)).length <= (sumsK (L.take i)).length := Nat.le_refl _
       have hSK : SK (((gD (sumsK (L.take i)).length (rwD (sumsK (L.take i))))).map (·.k)) := by rw [hgO]; exact hOs
       have hXo := hO (atD L (Int.toNat (i : Int))) (atD_mem hi)
       have hxr := hXo.n
       have oX : Sv.fit Bn (Sv.again (atD L (Int.toNat (i : Int))).s) := (hf i hi).ag
       have cX := hXo.cond
       have hll := sumIns_len (sumsK (L.take i)) (atD L (Int.toNat (i : Int)))
       have hlow := lowK_le (sumsK (L.take i)) (atD L (Int.toNat (i : Int))).k
       cases hfd : foundK (gD (sumsK (L.take i)).length (rwD (sumsK (L.take i)))) (⟨(atD L (Int.toNat (i : Int))).k.name, (atD L (Int.toNat (i : Int))).k.node⟩ : Ky) with
       | true =>
         have hnf : (!foundK (gD (sumsK (L.take i)).length (rwD (sumsK (L.take i)))) (⟨(atD L (Int.toNat (i : Int))).k.name, (atD L (Int.toNat (i : Int))).k.node⟩ : Ky)) = false := by rw [hfd]; rfl
         have hfe : foundK (sumsK (L.take i)) (atD L (Int.toNat (i : Int))).k = true := by have := hfd; rw [hgO] at this; exact this
         rw [if_pos hfe] at hll
         have hlt : (lowK (gD (sumsK (L.take i)).length (rwD (sumsK (L.take i)))) (⟨(atD L (Int.toNat (i : Int))).k.name, (atD L (Int.toNat (i : Int))).k.node⟩ : Ky)) < (sumsK (L.take i)).length := by have := foundK_lt hfd; rw [gD_length] at this; exact this
         have hx0 : 0 + Int.toNat (((lowK (gD (sumsK (L.take i)).length (rwD (sumsK (L.take i)))) (⟨(atD L (Int.toNat (i : Int))).k.name, (atD L (Int.toNat (i : Int))).k.node⟩ : Ky)) : Nat) : Int) = (lowK (gD (sumsK (L.take i)).length (rwD (sumsK (L.take i)))) (⟨(atD L (Int.toNat (i : Int))).k.name, (atD L (Int.toNat (i : Int))).k.node⟩ : Ky)) := by rw [Int.toNat_natCast, Nat.zero_add]
         have oA : Sv.fit Bn (Sv.again (atD (gD (sumsK (L.take i)).length (rwD (sumsK (L.take i)))) (0 + Int.toNat (((lowK (gD (sumsK (L.take i)).length (rwD (sumsK (L.take i)))) (⟨(atD L (Int.toNat (i : Int))).k.name, (atD L (Int.toNat (i : Int))).k.node⟩ : Ky)) : Nat) : Int))).s) := by
          rw [hx0]
          rw [hgO] at hlt ⊢
          exact (hOa _ hlt).ag
         have cA : Sv.cond (atD (gD (sumsK (L.take i)).length (rwD (sumsK (L.take i)))) (0 + Int.toNat (((lowK (gD (sumsK (L.take i)).length (rwD (sumsK (L.take i)))) (⟨(atD L (Int.toNat (i : Int))).k.name, (atD L (Int.toNat (i : Int))).k.node⟩ : Ky)) : Nat) : Int))).s := by
          rw [hx0]
          rw [hgO] at hlt ⊢
          exact (hOk _ (atD_mem hlt)).cond
         have pr := Sv.fit.pair oA oX (by omega)
         have pq : (atD (gD (sumsK (L.take i)).length (rwD (sumsK (L.take i)))) (0 + Int.toNat (((lowK (gD (sumsK (L.take i)).length (rwD (sumsK (L.take i)))) (⟨(atD L (Int.toNat (i : Int))).k.name, (atD L (Int.toNat (i : Int))).k.node⟩ : Ky)) : Nat) : Int))).s.e.binds.length + (atD L (Int.toNat (i : Int))).s.e.binds.length <= 1099511627776 := by have := pr.s; simpa only [gBs_length] using this
         repeat' (first | exact trivial | (with_reducible first | exact (fun h => absurd (hne.symm.trans h) (by decide)) | exact (fun h => absurd (hfd.symm.trans h) (by decide)) | exact (fun h => absurd (hnf.symm.trans h) (by decide)) | exact hrow | exact hOr | exact hO2 | exact hO3 | exact hSK | exact hxr | exact hxr.1 | exact hxr.2 | exact cX | exact pr.r | exact pr.q | exact pq | exact cA | exact hi0) | refine ⟨?_, ?_⟩ | intro _)
         all_goals first | (with_reducible first | apply qa | apply qb | apply qc | apply qd) | (conv => whnf)
         all_goals (have hlw : (lowK (gD (sumsK (L.take i)).length (rwD (sumsK (L.take i)))) (⟨(atD L (Int.toNat (i : Int))).k.name, (atD L (Int.toNat (i : Int))).k.node⟩ : Ky)) <= (sumsK (L.take i)).length := by have := hlow; rw [hgO]; exact this)
         all_goals first | omega | exact Nat.le_refl _ | exact cA.1.1 | exact cA.1.2 | exact cA.2.1.1 | exact cX.1.1 | exact cX.1.2 | exact cX.2.1.1 | skip
         all_goals first | rfl | (dsimp only; omega) | decide | ((with_reducible show idsOk _ _ = true); rfl) | (exact congrArg (Value.int .i64) (by first | (rw [wI_id _ (by omega) (by omega)]; omega) | omega | (dsimp only; omega))) | (exact absurd ‹_ < 0› (Nat.not_lt_zero _)) | (intro h; exact absurd h (Nat.not_lt_zero _)) | (dsimp only; (exact congrArg (Value.int .i64) (by first | (rw [wI_id _ (by omega) (by omega)]; omega) | omega | (dsimp only; omega)))) | skip
         all_goals (dsimp only; rw [hOt])
         all_goals first | exact hll.symm | skip
         all_goals (simp only [hgO, Int.toNat_natCast, Nat.zero_add, gBs_row, gN_lst])
         all_goals first | exact setD_row1 hfe rfl ‹_›
       | false =>
         have hnf : (!foundK (gD (sumsK (L.take i)).length (rwD (sumsK (L.take i)))) (⟨(atD L (Int.toNat (i : Int))).k.name, (atD L (Int.toNat (i : Int))).k.node⟩ : Ky)) = true := by rw [hfd]; rfl
         have hfe : foundK (sumsK (L.take i)) (atD L (Int.toNat (i : Int))).k = false := by have := hfd; rw [hgO] at this; exact this
         rw [if_neg (by rw [hfe]; exact Bool.false_ne_true)] at hll
         have oA : Sv.fit Bn (⟨⟨false, gBs 0 fun _ => []⟩, ⟨⟨⟨false, 0, 0⟩, ⟨false, 0, 0⟩⟩, ⟨false, gN 0 fun _ => []⟩⟩⟩ : Sv) := fit_zero.mono (Nat.zero_le _)
         have rows0 : RowsOk 0 fun _ => [] := ⟨fun i h => absurd h (Nat.not_lt_zero i)⟩
         have pr := Sv.fit.pair oA oX (by omega)
         have pq : 0 + (atD L (Int.toNat (i : Int))).s.e.binds.length <= 1099511627776 := by have := pr.s; simpa only [gBs_length] using this
         repeat' (first | exact trivial | (with_reducible first | exact (fun h => absurd (hne.symm.trans h) (by decide)) | exact (fun h => absurd (hfd.symm.trans h) (by decide)) | exact (fun h => absurd (hnf.symm.trans h) (by decide)) | exact hrow | exact hOr | exact hO2 | exact hO3 | exact hSK | exact hxr | exact hxr.1 | exact hxr.2 | exact cX | exact pr.r | exact pr.q | exact pq | exact rows0 | exact hi0) | refine ⟨?_, ?_⟩ | intro _)
         all_goals first | (with_reducible first | apply qa | apply qb | apply qc | apply qd) | (conv => whnf)
         all_goals (have hlw : (lowK (gD (sumsK (L.take i)).length (rwD (sumsK (L.take i)))) (⟨(atD L (Int.toNat (i : Int))).k.name, (atD L (Int.toNat (i : Int))).k.node⟩ : Ky)) <= (sumsK (L.take i)).length := by have := hlow; rw [hgO]; exact this)
         all_goals first | omega | exact Nat.le_refl _ | exact cX.1.1 | exact cX.1.2 | exact cX.2.1.1 | skip
         all_goals (try simp only [Nat.zero_add, insF_at])
         all_goals repeat' (first | exact trivial | (with_reducible first | exact (fun h => absurd (hne.symm.trans h) (by decide)) | exact (fun h => absurd (hfd.symm.trans h) (by decide)) | exact (fun h => absurd (hnf.symm.trans h) (by decide)) | exact hrow | exact hOr | exact hO2 | exact hO3 | exact hSK | exact hxr | exact hxr.1 | exact hxr.2 | exact cX | exact pr.r | exact pr.q | exact pq | exact rows0 | exact hi0) | refine ⟨?_, ?_⟩ | intro _)
         all_goals first | (with_reducible first | apply qa | apply qb | apply qc | apply qd) | (conv => whnf)
         all_goals (try simp only [Nat.zero_add, insF_at])
         all_goals repeat' (first | exact trivial | (with_reducible first | exact (fun h => absurd (hne.symm.trans h) (by decide)) | exact (fun h => absurd (hfd.symm.trans h) (by decide)) | exact (fun h => absurd (hnf.symm.trans h) (by decide)) | exact hrow | exact hOr | exact hO2 | exact hO3 | exact hSK | exact hxr | exact hxr.1 | exact hxr.2 | exact cX | exact pr.r | exact pr.q | exact pq | exact rows0 | exact hi0) | refine ⟨?_, ?_⟩ | intro _)
         all_goals first | (with_reducible first | apply qa | apply qb | apply qc | apply qd) | (conv => whnf)
         all_goals first | exact cX.1.1 | exact cX.1.2 | exact cX.2.1.1 | omega | skip
         all_goals first | rfl | (dsimp only; omega) | decide | ((with_reducible show idsOk _ _ = true); rfl) | (exact congrArg (Value.int .i64) (by first | (rw [wI_id _ (by omega) (by omega)]; omega) | omega | (dsimp only; omega))) | (exact absurd ‹_ < 0› (Nat.not_lt_zero _)) | (intro h; exact absurd h (Nat.not_lt_zero _)) | (dsimp only; (exact congrArg (Value.int .i64) (by first | (rw [wI_id _ (by omega) (by omega)]; omega) | omega | (dsimp only; omega)))) | skip
         all_goals (dsimp only; rw [hOt])
         all_goals first | exact hll.symm | skip
         all_goals (simp only [hgO, Int.toNat_natCast, Nat.zero_add, gBs_row, gN_lst])
         all_goals first | exact setD_row2 hfe rfl _
     . have hne : decide ((i : Int) < (L.length : Int)) = false := decide_eq_false (by omega)
       obtain rfl : i = L.length := by omega
       have hOk : okD (sumsK L) := okD_sums (B := Bn) (by omega) hO (by have := hF L.length (Nat.le_refl _); rw [List.take_length] at this; exact this)
       have hgL := gD_row (sumsK L)
       have hOr := okD_row hOk
       have hOl := sums_len L
       rw [List.take_length]
       repeat' (first | exact trivial | (with_reducible exact hOr) | refine ⟨?_, ?_⟩ | intro _)
       all_goals first | (with_reducible first | apply qa | apply qb | apply qc | apply qd) | (conv => whnf)
       all_goals first | (exact absurd (hne.symm.trans ‹_ = true›) (by decide)) | skip
       all_goals (try simp only [hgL, Nat.zero_add])
       all_goals first | rfl | omega | exact Nat.le_refl _ | (intro i hi; rfl)
 . cases h
def FFindKC : List Ar -> Option Rs
 | [.agg [.d (.v (.string x0)), .d (.v (.int .i64 i0)), .d (.v (.bool _)), .d (.lst 9 _ _), .d (.v (.bool _)), .d (.v (.int .i64 _)), .d (.v (.int .i64 _)), .d (.v (.bool _)), .d (.v (.int .i64 _)), .d (.v (.int .i64 _)), .d (.v (.bool _)), .d (.lst 1 _ _)], .rp [.v (.string x1), .v (.int .i64 i1)]] => some ⟨(rI i0) /\ (rI i1), .va (.c (.d (bo (decide (Ky.cl ⟨x0, i0⟩ = Ky.cl (⟨x1, i1⟩ : Ky)))))), []⟩
 | _ => none
theorem fcFindKC : FC Tryz.prog 87 FFindKC := by
 intro xs pre r us h hp
 unfold FFindKC at h
 split at h
 . rename_i x0 i0 e0 n0 f0 s0 l0 h0 b0 m0 r0 z0 p0 g0 x1 i1
   cases h
   obtain ⟨hp0, hp1⟩ := hp
   refine fcat tys_ok (l := [(88, ⟨[], FKyCmp⟩)]) ⟨fcKyCmp, trivial⟩ Tryz.func87 rfl (by kernel_rfl) false ?_
   repeat' (first | exact trivial | (with_reducible first | exact hp0 | exact hp1) | refine ⟨?_, ?_⟩ | intro _)
   all_goals first | (with_reducible first | apply qa | apply qb | apply qc | apply qd) | (conv => whnf)
   all_goals first | exact congrArg Value.bool (cmp_eq _ _)
 . cases h
abbrev gFindK (kx : ByteArray) (ki : Int) : List Cv -> Option Gs := mkFv (sums [(87, ⟨[], FFindKC⟩)]) 87 [.rp [.v (.string kx), .v (.int .i64 ki)]]
abbrev pK (kx : ByteArray) (ki : Int) (x : Sd) : Bool := decide (Ky.cl ⟨x.k.name, x.k.node⟩ = Ky.cl ⟨kx, ki⟩)
def findS (L : List Sd) (k : Ky) : Sv := match rfind L k with
 | some y => y.s.clean
 | none => Sv.zero
def findB (L : List Sd) (k : Ky) : Bool := (rfind L k).isSome
theorem rfind_ix {L : List Sd} {k : Ky} : (ixD (pK k.name k.node) L = -1 /\ rfind L k = none) \/ ∃ i, ixD (pK k.name k.node) L = (i : Nat) /\ i < L.length /\ rfind L k = some (atD L i) := by
 rcases ixD_cases (pK k.name k.node) L with ⟨h1, h2⟩ | ⟨i, h1, h2, h3, h4⟩
 . refine .inl ⟨h1, List.find?_eq_none.2 fun x hx => ?_⟩
   obtain ⟨q, hq, rfl⟩ := mem_atD hx
   rw [show decide ((atD L q).k.cl = k.cl) = pK k.name k.node (atD L q) from rfl, h2 q hq]; exact Bool.false_ne_true
 . refine .inr ⟨i, h1, h2, ?_⟩
   unfold rfind
   rw [List.find?_eq_some_iff_getElem]
   refine ⟨h4, i, h2, (atD_get h2).symm, fun j hj => ?_⟩
   have := h3 j hj
   rw [atD_get (by omega)] at this
   show (!pK k.name k.node L[j]) = true
   rw [this]; rfl
def FIndexK (kx : ByteArray) (ki : Int) : List Ar -> Option Rs
 | [.c (.d (.lst 12 n0 f0)), .fv g1] => some ⟨(n0 <= 1000000000 /\ RowsD n0 f0) /\ (g1 = gFindK kx ki /\ rI ki), .va (.c (.d (it (ixD (pK kx ki) (gD n0 f0))))), []⟩
 | _ => none
theorem fcIndexK (kx : ByteArray) (ki : Int) : FC Tryz.prog 86 (FIndexK kx ki) := by
 intro xs pre r us h hp
 unfold FIndexK at h
 split at h
 . rename_i n0 f0 g1
   cases h
   obtain ⟨hp0, hp1⟩ := hp
   refine FCat.deep (ys := [.c (.d (.lst 12 n0 (rwD (gD n0 f0)))), .fv g1]) ?_ ?_
   . repeat' (first | exact trivial | exact rfl | exact DvE.refl _ | refine ⟨?_, ?_⟩ | fail)
     all_goals first | exact canonD hp0.2.h
   refine fcat tys_ok (l := []) trivial Tryz.func86 rfl (by kernel_rfl) false ?_
   obtain ⟨rfl, hki⟩ := hp1
   have hn := hp0.1
   have hO := okD_rows hp0.2
   have hlen := gD_length n0 f0
   generalize gD n0 f0 = L at *
   clear hp0
   subst hlen
   have hrow := okD_row hO
   have hat : ∀ k, k < L.length -> rI (atD L k).k.node := fun k hk => (hO _ (atD_mem hk)).n
   repeat' (first | exact trivial | refine ⟨?_, ?_⟩ | intro _)
   all_goals first | (with_reducible first | apply qa | apply qb | apply qc | apply qd) | (conv => whnf)
   refine loop_ok tys_ok (l := []) trivial (by kernel_rfl) (X := Nat)
    (fun i => ⟨[(8, vx (.int .i64 i)), (0, .va (.c (.d (.lst 12 L.length (rwD L))))), (1, .va (.c (.fv (gFindK kx ki)))), (7, vx (.int .i64 L.length))], [], 0, 19⟩)
    (fun i => L.length - i) (fun i => i <= L.length /\ ∀ k, k < i -> pK kx ki (atD L k) = false) [] []
    (fun i _ _ => i + 1) [] [] 0 0 0 ?_ ?_ ?_
   . exact ⟨Nat.zero_le _, fun k h => absurd h (Nat.not_lt_zero k)⟩
   . repeat' (first | exact trivial | exact rfl | (intro _ _; exact rfl) | refine ⟨?_, ?_⟩ | fail)
   . rintro i ⟨k1, k2⟩
     rcases Nat.lt_or_ge i L.length with hi | hi
     . have hne : decide ((i : Int) < (L.length : Int)) = true := decide_eq_true (by omega)
       have hai := hat i hi
       have hix := fun h => ixD_some (p := pK kx ki) hi k2 h
       have hall : pK kx ki (atD L i) = false -> ∀ k, k < i + 1 -> pK kx ki (atD L k) = false := fun h k hk => by
        rcases Nat.lt_or_ge k i with hki | hki
        . exact k2 k hki
        . rw [show k = i by omega]; exact h
       cases hc2 : pK kx ki (atD L i) with
       | true =>
         replace hix := hix hc2
         clear hall
         repeat' (first | exact trivial | (with_reducible first | exact (fun h => absurd (hne.symm.trans h) (by decide)) | exact hki) | refine ⟨?_, ?_⟩ | intro _)
         all_goals first | (with_reducible first | apply qa | apply qb | apply qc | apply qd) | (conv => whnf)
         all_goals first | (exact absurd (hne.symm.trans ‹_ = false›) (by decide)) | (exact absurd (hc2.symm.trans ‹decide (Ky.cl _ = Ky.cl _) = false›) (by decide)) | omega | rfl | exact hai | exact hai.1 | exact hai.2 | exact hki | exact hki.1 | exact hki.2 | (exact congrArg (Value.int .i64) (by first | (rw [wI_id _ (by omega) (by omega)]; omega) | omega | (dsimp only; omega))) | (dsimp only; omega) | (dsimp only; (exact congrArg (Value.int .i64) (by first | (rw [wI_id _ (by omega) (by omega)]; omega) | omega | (dsimp only; omega)))) | exact congrArg (Value.int .i64) hix.symm
       | false =>
         replace hall := hall hc2
         clear hix
         repeat' (first | exact trivial | (with_reducible first | exact (fun h => absurd (hne.symm.trans h) (by decide)) | exact hki) | refine ⟨?_, ?_⟩ | intro _)
         all_goals first | (with_reducible first | apply qa | apply qb | apply qc | apply qd) | (conv => whnf)
         all_goals first | (exact absurd (hne.symm.trans ‹_ = false›) (by decide)) | (exact absurd (hc2.symm.trans ‹decide (Ky.cl _ = Ky.cl _) = true›) (by decide)) | omega | rfl | exact hai | exact hai.1 | exact hai.2 | exact hki | exact hki.1 | exact hki.2 | (exact congrArg (Value.int .i64) (by first | (rw [wI_id _ (by omega) (by omega)]; omega) | omega | (dsimp only; omega))) | (dsimp only; omega) | (dsimp only; (exact congrArg (Value.int .i64) (by first | (rw [wI_id _ (by omega) (by omega)]; omega) | omega | (dsimp only; omega)))) | exact hall _ ‹_›
     . have hne : decide ((i : Int) < (L.length : Int)) = false := decide_eq_false (by omega)
       obtain rfl : i = L.length := by omega
       repeat' (first | exact trivial | refine ⟨?_, ?_⟩ | intro _)
       all_goals first | (with_reducible first | apply qa | apply qb | apply qc | apply qd) | (conv => whnf)
       all_goals first | (exact absurd (hne.symm.trans ‹_ = true›) (by decide)) | skip
       all_goals first | exact Nat.le_refl _ | (rw [ixD_none k2]; done) | (rw [ixD_none k2]; rfl)
 . cases h
def FCFind : List Ar -> Option Rs
 | [.c (.d (.lst 12 n0 f0)), .agg [.d (.v (.string x1)), .d (.v (.int .i64 i1))]] => some ⟨(n0 <= 1000000000 /\ RowsD n0 f0) /\ (rI i1), .tup [Sv.ar (findS (gD n0 f0) (⟨x1, i1⟩ : Ky)), .c (.d (bo (findB (gD n0 f0) (⟨x1, i1⟩ : Ky))))], []⟩
 | _ => none
theorem fcCFind : FC Tryz.prog 34 FCFind := by
 intro xs pre r us h hp
 unfold FCFind at h
 split at h
 . rename_i n0 f0 x1 i1
   cases h
   obtain ⟨hp0, hp1⟩ := hp
   refine FCat.deep (ys := [.c (.d (.lst 12 n0 (rwD (gD n0 f0)))), .agg [.d (.v (.string x1)), .d (.v (.int .i64 i1))]]) ?_ ?_
   . repeat' (first | exact trivial | exact rfl | exact DvE.refl _ | refine ⟨?_, ?_⟩ | fail)
     all_goals first | exact canonD hp0.2.h
   refine fcat tys_ok (l := [(86, ⟨[], (FIndexK x1 i1)⟩), (87, ⟨[], FFindKC⟩), (48, ⟨[], FTClean⟩)]) ⟨(fcIndexK x1 i1), fcFindKC, fcTClean, trivial⟩ Tryz.func34 rfl (by kernel_rfl) true ?_
   have hn := hp0.1
   have hO := okD_rows hp0.2
   have hlen := gD_length n0 f0
   generalize gD n0 f0 = L at *
   clear hp0
   subst hlen
   have hrow := okD_row hO
   have hgb := gD_row L
   have hn2 : L.length <= L.length := Nat.le_refl _
   rcases rfind_ix (L := L) (k := ⟨x1, i1⟩) with ⟨h1, h2⟩ | ⟨i, h1, h2, h3⟩
   . have e1 : findS L ⟨x1, i1⟩ = Sv.zero := by unfold findS; rw [h2]
     have e2 : findB L ⟨x1, i1⟩ = false := by unfold findB; rw [h2]; rfl
     have h1' : ixD (pK x1 i1) (gD L.length (rwD L)) = -1 := by rw [hgb]; exact h1
     have hne : decide (ixD (pK x1 i1) (gD L.length (rwD L)) < 0) = true := by rw [h1']; rfl
     repeat' (first | exact trivial | (with_reducible first | exact (fun h => absurd (hne.symm.trans h) (by decide)) | exact hrow | exact hn | exact hn2 | exact hp1 | exact hp1.1 | exact hp1.2) | refine ⟨?_, ?_⟩ | intro _)
     all_goals first | (with_reducible first | apply qa | apply qb | apply qc | apply qd) | (conv => whnf)
     all_goals (try rw [e1])
     all_goals (try rw [e2])
     all_goals first | omega | exact hn | rfl
   . have e1 : findS L ⟨x1, i1⟩ = (atD L i).s.clean := by unfold findS; rw [h3]
     have e2 : findB L ⟨x1, i1⟩ = true := by unfold findB; rw [h3]; rfl
     have h1' : ixD (pK x1 i1) (gD L.length (rwD L)) = (i : Nat) := by rw [hgb]; exact h1
     have hne : decide (ixD (pK x1 i1) (gD L.length (rwD L)) < 0) = false := by rw [h1']; exact decide_eq_false (by omega)
     have hIx : Int.toNat (ixD (pK x1 i1) (gD L.length (rwD L))) = i := by rw [h1']; rfl
     have hc := (hO _ (atD_mem h2)).cond
     have hc' : Sv.cond (atD L (Int.toNat (ixD (pK x1 i1) (gD L.length (rwD L))))).s := by rw [hIx]; exact hc
     have hb1 : (0 : Int) <= ixD (pK x1 i1) (gD L.length (rwD L)) /\ ixD (pK x1 i1) (gD L.length (rwD L)) < (L.length : Int) := by rw [h1']; omega
     repeat' (first | exact trivial | (with_reducible first | exact (fun h => absurd (hne.symm.trans h) (by decide)) | exact hrow | exact hn | exact hn2 | exact hp1 | exact hp1.1 | exact hp1.2 | exact hc | exact hc' | exact hb1) | refine ⟨?_, ?_⟩ | intro _)
     all_goals first | (with_reducible first | apply qa | apply qb | apply qc | apply qd) | (conv => whnf)
     all_goals (try simp only [hIx, gBs_row, gN_lst])
     all_goals (try rw [e1])
     all_goals (try rw [e2])
     all_goals first | omega | exact hn | rfl
 . cases h
def atK (l : List Ky) (i : Nat) : Ky := l.getD i default
abbrev kyC (k : Ky) : List DV := [st k.name, it k.node]
abbrev rwK (l : List Ky) : Nat -> List DV := fun i => kyC (atK l i)
abbrev lstK (l : List Ky) : DV := .lst 2 l.length (rwK l)
def gKy (l : List DV) : Ky := ⟨gSx l 0, gI9 l 1⟩
def gKs (n : Nat) (f : Nat -> List DV) : List Ky := (List.range n).map fun i => gKy (f i)
theorem gKs_length (n : Nat) (f : Nat -> List DV) : (gKs n f).length = n := by simp [gKs]
theorem atK_gKs {n i : Nat} {f : Nat -> List DV} (h : i < n) : atK (gKs n f) i = gKy (f i) := by
 simp [atK, gKs, List.getD_eq_getElem?_getD, h]
theorem gKs_row (l : List Ky) : gKs l.length (rwK l) = l := by
 unfold gKs
 apply List.ext_getElem
 . simp
 . intro i h1 h2
   have : gKy (kyC (atK l i)) = atK l i := rfl
   simp [this, atK, List.getD_eq_getElem?_getD, h2]
structure RowsK (n : Nat) (f : Nat -> List DV) : Prop where
 h : ∀ i, i < n -> f i = kyC (gKy (f i)) /\ rI (gKy (f i)).node
theorem canonK {n : Nat} {f : Nat -> List DV} (h : ∀ i, i < n -> f i = kyC (gKy (f i)) /\ rI (gKy (f i)).node) : DvE (.lst 2 n f) (.lst 2 n (rwK (gKs n f))) :=
 .rows fun i hi => by
  have e : rwK (gKs n f) i = f i := by
   show kyC (atK (gKs n f) i) = f i
   rw [atK_gKs hi]; exact (h i hi).1.symm
  rw [e]; exact ⟨rfl, fun j a b ha hb => by rw [ha] at hb; cases hb; exact .refl _⟩
theorem atK_mem {l : List Ky} {i : Nat} (h : i < l.length) : atK l i ∈ l := by
 unfold atK; rw [List.getD_eq_getElem?_getD, List.getElem?_eq_getElem h]; exact List.getElem_mem h
theorem mem_atK {l : List Ky} {x : Ky} (h : x ∈ l) : ∃ i, i < l.length /\ atK l i = x := by
 obtain ⟨i, hi, e⟩ := List.mem_iff_getElem.1 h
 exact ⟨i, hi, by unfold atK; rw [List.getD_eq_getElem?_getD, List.getElem?_eq_getElem hi]; exact e⟩
theorem rowsK_of {l : List Ky} (h : ∀ x, x ∈ l -> rI x.node) : RowsK l.length (rwK l) := ⟨fun i hi => ⟨rfl, h _ (atK_mem hi)⟩⟩
theorem rowsK_r {n : Nat} {f : Nat -> List DV} (h : RowsK n f) : ∀ x, x ∈ gKs n f -> rI x.node := fun x hx => by
 obtain ⟨i, hi, rfl⟩ := mem_atK hx
 rw [gKs_length] at hi
 rw [atK_gKs hi]; exact (h.h i hi).2
theorem rwK_snoc {O : List Ky} {x : Ky} {g : Nat -> List DV} {k : Nat} (hg : g 0 = kyC x) (hk : k < O.length + 1) : appRow O.length (rwK O) g k = rwK (O ++ [x]) k := by
 unfold appRow
 split
 . rename_i h
   show kyC (atK O k) = kyC (atK (O ++ [x]) k)
   unfold atK; rw [List.getD_eq_getElem?_getD, List.getD_eq_getElem?_getD, List.getElem?_append_left h]
 . rename_i h
   obtain rfl : k = O.length := by omega
   rw [Nat.sub_self, hg]
   show kyC x = kyC (atK (O ++ [x]) O.length)
   unfold atK; rw [List.getD_eq_getElem?_getD, List.getElem?_append_right (Nat.le_refl _), Nat.sub_self]; rfl
theorem takeK_snoc {L : List Ky} {i : Nat} (h : i < L.length) : L.take (i + 1) = L.take i ++ [atK L i] := by
 rw [List.take_succ_eq_append_getElem h]
 congr 2
 unfold atK; rw [List.getD_eq_getElem?_getD, List.getElem?_eq_getElem h]; rfl
def putO (L : List Ky) (k : Ky) (i j : Nat) : List Ky := L.take i ++ k.cl :: ((L.drop i).take (j - i)).filter fun x => decide (x ≠ k.cl)
theorem putO_snoc {L : List Ky} {k : Ky} {i j : Nat} (hij : i <= j) (hj : j < L.length) : putO L k i (j + 1) = if atK L j = k.cl then putO L k i j else putO L k i j ++ [atK L j] := by
 have e : (L.drop i).take (j + 1 - i) = (L.drop i).take (j - i) ++ [atK L j] := by
  have h1 : j - i < (L.drop i).length := by rw [List.length_drop]; omega
  have h2 := takeK_snoc h1
  rw [show j - i + 1 = j + 1 - i by omega] at h2
  have e2 : atK (L.drop i) (j - i) = atK L j := by
   unfold atK; rw [List.getD_eq_getElem?_getD, List.getElem?_drop, List.getD_eq_getElem?_getD, show i + (j - i) = j by omega]
  rw [h2, e2]
 unfold putO
 rw [e, List.filter_append]
 by_cases h : atK L j = k.cl
 . rw [if_pos h]; simp [h]
 . rw [if_neg h]; simp [h]
theorem putO_len (L : List Ky) (k : Ky) (i j : Nat) (hij : i <= j) (hj : j <= L.length) : (putO L k i j).length <= j + 1 := by
 unfold putO
 rw [List.length_append, List.length_cons, List.length_take]
 have := List.length_filter_le (fun x => decide (x ≠ k.cl)) ((L.drop i).take (j - i))
 rw [List.length_take, List.length_drop] at this
 omega
theorem twK_of {L : List Ky} {k : Ky} {i : Nat} (hi : i <= L.length) (h1 : ∀ q, q < i -> Ky.lt (atK L q) k = true) (h2 : i < L.length -> Ky.lt (atK L i) k = false) : putK L k = putO L k i L.length := by
 have hA : ∀ a, a ∈ L.take i -> Ky.lt a k = true := fun a ha => by
  obtain ⟨q, hq, rfl⟩ := mem_atK ha
  rw [List.length_take] at hq
  have e : atK (L.take i) q = atK L q := by unfold atK; rw [List.getD_eq_getElem?_getD, List.getElem?_take_of_lt (by omega), List.getD_eq_getElem?_getD]
  rw [e]; exact h1 q (by omega)
 have tw : L.takeWhile (fun x => Ky.lt x k) = L.take i /\ L.dropWhile (fun x => Ky.lt x k) = L.drop i := by
  have e := List.take_append_drop i L
  have g1 := List.takeWhile_append_of_pos (p := fun x => Ky.lt x k) (l₁ := L.take i) (l₂ := L.drop i) hA
  have g2 := List.dropWhile_append_of_pos (p := fun x => Ky.lt x k) (l₁ := L.take i) (l₂ := L.drop i) hA
  rw [e] at g1 g2
  rw [g1, g2]
  cases hd : L.drop i with
  | nil => exact ⟨by simp, rfl⟩
  | cons b B =>
    have hlt : i < L.length := by
     have := congrArg List.length hd
     rw [List.length_drop, List.length_cons] at this; omega
    have hb : atK L i = b := by
     unfold atK
     rw [List.getD_eq_getElem?_getD]
     have := List.getElem?_drop (xs := L) (i := i) (j := 0)
     rw [hd] at this
     rw [Nat.add_zero] at this
     rw [<- this]; rfl
    have h3 := h2 hlt
    rw [hb] at h3
    rw [List.takeWhile_cons_of_neg (by rw [h3]; exact Bool.false_ne_true), List.dropWhile_cons_of_neg (by rw [h3]; exact Bool.false_ne_true)]
    exact ⟨List.append_nil _, rfl⟩
 unfold putK putO
 rw [tw.1, tw.2, List.take_of_length_le (l := L.drop i) (by rw [List.length_drop]; omega)]
theorem keyEq_iff {a b : ByteArray} {n m : Int} : (a.toList == b.toList && (n == m && true)) = decide ((⟨a, n⟩ : Ky) = ⟨b, m⟩) := by
 rw [seq_iff, Bool.and_true]
 by_cases h : a = b
 . subst h
   rw [decide_eq_true rfl, Bool.true_and]
   by_cases h2 : n = m
   . subst h2; simp
   . rw [beq_eq_false_iff_ne.2 h2, decide_eq_false fun e => h2 (Ky.ext_iff'.1 e).2]
 . rw [decide_eq_false h, Bool.false_and, decide_eq_false fun e => h (Ky.ext_iff'.1 e).1]
end Go.Proofs.YthkknkhpfffnbaaGreat
