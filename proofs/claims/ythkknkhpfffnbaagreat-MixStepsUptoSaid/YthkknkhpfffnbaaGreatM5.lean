/- What the rest of the layer of names, and its reference, compute. No condition. -/
import Derived.Test.YthkknkhpfffnbaaGreatM4
import Derived.Lib.Overlaps
set_option linter.all false
set_option maxHeartbeats 8000000
set_option maxRecDepth 100000
namespace Go.Proofs.YthkknkhpfffnbaaGreat
open Go.Sx
theorem none_key {b0 : Bool} {n : Nat} {f : Nat -> List DV} (h : (!b0) = true) : Value.bool ((n : Int) == 0) = Value.bool (!b0 && decide (gN n f = [])) := by
 rw [h, Bool.true_and]
 refine congrArg Value.bool (Bool.eq_iff_iff.2 ?_)
 rw [beq_iff_eq, decide_eq_true_eq, <- List.length_eq_zero_iff, gN_length]; omega
theorem gN_app {n m : Nat} {f g : Nat -> List DV} : (gN (n + m) fun i => appRow n (fun i => [st (gT (f i))]) (fun i => [st (gT (g i))]) (0 + i)) = gN n f ++ gN m g := by
 unfold gN appRow
 apply List.ext_getElem
 . simp
 . intro i h1 h2
   by_cases h : i < n
   . simp [h, gT_st, List.getElem_append_left]
   . simp [h, gT_st, List.getElem_append_right (show (List.map (fun i => gT (f i)) (List.range n)).length <= i by simp; omega)]
theorem app_row {n : Nat} {f g : Nat -> List DV} (i : Nat) : appRow n (fun i => [st (gT (f i))]) (fun i => [st (gT (g i))]) (0 + i) = [st (gT (appRow n (fun i => [st (gT (f i))]) (fun i => [st (gT (g i))]) (0 + i)))] := by
 unfold appRow; split <;> rfl
theorem subN_yes {n : Nat} {f : Nat -> List DV} {m : List ByteArray} {b0 b1 : Bool} (h : ∀ j, j < n -> gT (f j) ∈ m) (h0 : (!b0) = true) : ((!b0 || b1) && subS (gN n f) m) = true := by
 have := subS_yes (b0 := b0) (b1 := b1) (by intro e; simp_all) h
 have h2 : subS (gN n f) m = true := by
  unfold subS; rw [List.all_eq_true]; intro x hx
  obtain ⟨i, hi, rfl⟩ := gN_mem.1 hx
  exact memS_iff.2 (h i hi)
 rw [h2, h0]; rfl
theorem subN_yes' {n : Nat} {f : Nat -> List DV} {m : List ByteArray} {b0 b1 : Bool} (h : ∀ j, j < n -> gT (f j) ∈ m) (h0 : (!b0) = false) : ((!b0 || b1) && subS (gN n f) m) = b1 := by
 have h2 : subS (gN n f) m = true := by
  unfold subS; rw [List.all_eq_true]; intro x hx
  obtain ⟨i, hi, rfl⟩ := gN_mem.1 hx
  exact memS_iff.2 (h i hi)
 rw [h2, h0]; simp
def FNJoin : List Ar -> Option Rs
 | [.agg [.d (.v (.bool b0)), .d (.lst 1 n0 f0)], .agg [.d (.v (.bool b1)), .d (.lst 1 n1 f1)]] => some ⟨(n0 * 16 <= 140737488351232 /\ ∀ i, i < n0 -> f0 i = [st (gT (f0 i))]) /\ (n1 * 16 <= 140737488351232 /\ ∀ i, i < n1 -> f1 i = [st (gT (f1 i))]) /\ ((n0 + n1) * 16 <= 140737488351232), .va (Ns.ar (⟨b0 || b1, ofS (gN n0 f0 ++ gN n1 f1)⟩)), []⟩
 | _ => none
theorem fcNJoin : FC Tryz.prog 146 FNJoin := by
 intro xs pre r us h hp
 unfold FNJoin at h
 split at h
 . rename_i b0 n0 f0 b1 n1 f1
   cases h
   obtain ⟨hp0, hp1, hp2⟩ := hp
   refine FCat.of_eq (as' := [.agg [.d (.v (.bool b0)), .d (.lst 1 n0 fun i => [st (gT (f0 i))])], .agg [.d (.v (.bool b1)), .d (.lst 1 n1 fun i => [st (gT (f1 i))])]]) ?_ rfl rfl ?_
   . repeat' (first | exact trivial | exact rfl | refine ⟨?_, ?_⟩ | fail)
     all_goals first | exact hp0.2 | exact hp1.2 | exact hp2.2 | (intro i hi; exact (hp0.2 i hi).1) | (intro i hi; exact (hp1.2 i hi).1) | (intro i hi; exact (hp2.2 i hi).1) | grind
   refine fcat tys_ok (l := [(181, ⟨[], FNConcat⟩), (109, ⟨[], FNOf⟩)]) ⟨fcNConcat, fcNOf, trivial⟩ Tryz.func146 rfl (by kernel_rfl) true ?_
   repeat' (first | exact trivial | refine ⟨?_, ?_⟩ | intro _)
   all_goals first | (with_reducible first | apply qa | apply qb | apply qc | apply qd) | (conv => whnf)
   all_goals first | (with_reducible exact hp2) | rfl | skip
   all_goals (try subst ‹b0 = _›)
   all_goals (try simp only [gN_lst] at *)
   all_goals first | rfl | (exact hp2) | (show ((gN n0 f0 ++ gN n1 f1).length) * 16 <= _; rw [List.length_append, gN_length, gN_length]; exact hp2)
 . cases h
def FNNone : List Ar -> Option Rs
 | [.agg [.d (.v (.bool b0)), .d (.lst 1 n0 f0)]] => some ⟨(n0 * 16 <= 140737488351232 /\ ∀ i, i < n0 -> f0 i = [st (gT (f0 i))]), .va (.c (.d (bo (!b0 && decide (gN n0 f0 = []))))), []⟩
 | _ => none
theorem fcNNone : FC Tryz.prog 156 FNNone := by
 intro xs pre r us h hp
 unfold FNNone at h
 split at h
 . rename_i b0 n0 f0
   cases h
   have hp0 := hp
   refine FCat.of_eq (as' := [.agg [.d (.v (.bool b0)), .d (.lst 1 n0 fun i => [st (gT (f0 i))])]]) ?_ rfl rfl ?_
   . repeat' (first | exact trivial | exact rfl | refine ⟨?_, ?_⟩ | fail)
     all_goals first | exact hp0.2 | exact hp1.2 | exact hp2.2 | (intro i hi; exact (hp0.2 i hi).1) | (intro i hi; exact (hp1.2 i hi).1) | (intro i hi; exact (hp2.2 i hi).1) | grind
   refine fcat tys_ok (l := []) trivial Tryz.func156 rfl (by kernel_rfl) false ?_
   repeat' (first | exact trivial | refine ⟨?_, ?_⟩ | intro _)
   all_goals first | (with_reducible first | apply qa | apply qb | apply qc | apply qd) | (conv => whnf)
   all_goals first | (exact none_key ‹_›) | (rw [‹(!b0) = false›]; rfl)
 . cases h
def FRIn : List Ar -> Option Rs
 | [.c (.d (.lst 1 n0 f0)), .c (.d (.v (.string x1)))] => some ⟨(n0 * 16 <= 140737488351232 /\ ∀ i, i < n0 -> f0 i = [st (gT (f0 i))]), .va (.c (.d (bo (memS x1 (gN n0 f0))))), []⟩
 | _ => none
theorem fcRIn : FC Tryz.prog 21 FRIn := by
 intro xs pre r us h hp
 unfold FRIn at h
 split at h
 . rename_i n0 f0 x1
   cases h
   have hp0 := hp
   refine FCat.of_eq (as' := [.c (.d (.lst 1 n0 fun i => [st (gT (f0 i))])), .c (.d (.v (.string x1)))]) ?_ rfl rfl ?_
   . repeat' (first | exact trivial | exact rfl | refine ⟨?_, ?_⟩ | fail)
     all_goals first | exact hp0.2 | exact hp1.2 | exact hp2.2 | (intro i hi; exact (hp0.2 i hi).1) | (intro i hi; exact (hp1.2 i hi).1) | (intro i hi; exact (hp2.2 i hi).1) | grind
   refine fcat tys_ok (l := []) trivial Tryz.func21 rfl (by kernel_rfl) false ?_
   repeat' (first | exact trivial | refine ⟨?_, ?_⟩ | intro _)
   all_goals first | (with_reducible first | apply qa | apply qb | apply qc | apply qd) | (conv => whnf)
   refine loop_ids tys_ok (l := []) trivial (by kernel_rfl) (X := Nat)
    (fun x => ⟨[(5, vx (.int .i64 x)), (0, .va (.c (.d (.lst 1 n0 fun i => [st (gT (f0 i))])))), (1, vx (.string x1))], [], 0, 18⟩)
    (fun x => n0 - x) (fun x => x <= n0 /\ ∀ j, j < x -> ¬ x1 = gT (f0 j)) [] []
    (fun x _ _ => x + 1) (fun _ => []) [] 0 0 0 ?_ ?_ ?_
   . exact ⟨Nat.zero_le _, fun j h => absurd h (Nat.not_lt_zero _)⟩
   . repeat' (first | exact trivial | exact rfl | (intro _ h; exact absurd h (Nat.not_lt_zero _)) | (intro _ _; exact rfl) | refine ⟨?_, ?_⟩ | fail)
   . rintro i ⟨k1, k2⟩
     repeat' (first | exact trivial | refine ⟨?_, ?_⟩ | intro _)
     all_goals first | (with_reducible first | apply qa | apply qb | apply qc | apply qd) | (conv => whnf)
     all_goals (try simp only [Int.toNat_natCast, decide_eq_true_eq, decide_eq_false_iff_not, seq_iff, gN_canon] at *)
     all_goals first | omega | ((with_reducible show idsOk _ _ = true); rfl) | ((with_reducible show Value.int _ _ = Value.int _ _); rw [wI_id _ (by omega) (by omega)]; rfl) | (exact congrArg Value.bool (memS_iff.2 (gN_mem.2 ⟨i, by omega, by first | exact ‹_ = _› | exact ‹_ = _›.symm⟩)).symm) | (exact congrArg Value.bool (memS_not.2 (by rw [gN_mem]; rintro ⟨j, hj, e⟩; exact k2 j (by omega) e.symm)).symm) | (exact not_step k2 (by first | assumption | (intro e; exact absurd e.symm (by assumption))) _ ‹_ < i + 1›) | (exact absurd (by assumption) (not_step k2 (by first | assumption | (intro e; exact absurd e.symm (by assumption))) _ ‹_ < i + 1›)) | rfl
 . cases h
def FRNJoin : List Ar -> Option Rs
 | [.agg [.d (.v (.bool b0)), .d (.lst 1 n0 f0)], .agg [.d (.v (.bool b1)), .d (.lst 1 n1 f1)]] => some ⟨(n0 * 16 <= 140737488351232 /\ ∀ i, i < n0 -> f0 i = [st (gT (f0 i))]) /\ (n1 * 16 <= 140737488351232 /\ ∀ i, i < n1 -> f1 i = [st (gT (f1 i))]) /\ ((n0 + n1) * 16 <= 140737488351232), .va (Ns.ar (⟨b0 || b1, cleanS (gN n0 f0 ++ gN n1 f1)⟩)), []⟩
 | _ => none
theorem fcRNJoin : FC Tryz.prog 148 FRNJoin := by
 intro xs pre r us h hp
 unfold FRNJoin at h
 split at h
 . rename_i b0 n0 f0 b1 n1 f1
   cases h
   obtain ⟨hp0, hp1, hp2⟩ := hp
   refine FCat.of_eq (as' := [.agg [.d (.v (.bool b0)), .d (.lst 1 n0 fun i => [st (gT (f0 i))])], .agg [.d (.v (.bool b1)), .d (.lst 1 n1 fun i => [st (gT (f1 i))])]]) ?_ rfl rfl ?_
   . repeat' (first | exact trivial | exact rfl | refine ⟨?_, ?_⟩ | fail)
     all_goals first | exact hp0.2 | exact hp1.2 | exact hp2.2 | (intro i hi; exact (hp0.2 i hi).1) | (intro i hi; exact (hp1.2 i hi).1) | (intro i hi; exact (hp2.2 i hi).1) | grind
   refine fcat tys_ok (l := [(76, ⟨[], FRClean⟩)]) ⟨fcRClean, trivial⟩ Tryz.func148 rfl (by kernel_rfl) true ?_
   repeat' (first | exact trivial | refine ⟨?_, ?_⟩ | intro _)
   all_goals first | (with_reducible first | apply qa | apply qb | apply qc | apply qd) | (conv => whnf)
   all_goals first | omega | (exact app_row (f := f0) (g := f1) _) | skip
   all_goals (try subst ‹b0 = _›)
   all_goals (try dsimp only at *)
   all_goals (try rw [gN_app])
   all_goals first | rfl | (exact app_row (f := f0) (g := f1) _)
 . cases h
def FRNLeq : List Ar -> Option Rs
 | [.agg [.d (.v (.bool b0)), .d (.lst 1 n0 f0)], .agg [.d (.v (.bool b1)), .d (.lst 1 n1 f1)]] => some ⟨(n0 * 16 <= 140737488351232 /\ ∀ i, i < n0 -> f0 i = [st (gT (f0 i))]) /\ (n1 * 16 <= 140737488351232 /\ ∀ i, i < n1 -> f1 i = [st (gT (f1 i))]), .va (.c (.d (bo ((!b0 || b1) && subS (gN n0 f0) (gN n1 f1))))), []⟩
 | _ => none
theorem fcRNLeq : FC Tryz.prog 132 FRNLeq := by
 intro xs pre r us h hp
 unfold FRNLeq at h
 split at h
 . rename_i b0 n0 f0 b1 n1 f1
   cases h
   obtain ⟨hp0, hp1⟩ := hp
   refine FCat.of_eq (as' := [.agg [.d (.v (.bool b0)), .d (.lst 1 n0 fun i => [st (gT (f0 i))])], .agg [.d (.v (.bool b1)), .d (.lst 1 n1 fun i => [st (gT (f1 i))])]]) ?_ rfl rfl ?_
   . repeat' (first | exact trivial | exact rfl | refine ⟨?_, ?_⟩ | fail)
     all_goals first | exact hp0.2 | exact hp1.2 | exact hp2.2 | (intro i hi; exact (hp0.2 i hi).1) | (intro i hi; exact (hp1.2 i hi).1) | (intro i hi; exact (hp2.2 i hi).1) | grind
   refine fcat tys_ok (l := [(21, ⟨[], FRIn⟩)]) ⟨fcRIn, trivial⟩ Tryz.func132 rfl (by kernel_rfl) false ?_
   repeat' (first | exact trivial | refine ⟨?_, ?_⟩ | intro _)
   all_goals first | (with_reducible first | apply qa | apply qb | apply qc | apply qd) | (conv => whnf)
   refine loop_ids tys_ok (l := [(21, ⟨[], FRIn⟩)]) ⟨fcRIn, trivial⟩ (by kernel_rfl) (X := Nat)
    (fun x => ⟨[(5, vx (.int .i64 x)), (2, .va (.c (.own 0 0))), (3, .va (.c (.own 1 0)))], [(0, .cells [.d (bo b0), .d (.lst 1 n0 fun i => [st (gT (f0 i))])]), (1, .cells [.d (bo b1), .d (.lst 1 n1 fun i => [st (gT (f1 i))])])], 2, 29⟩)
    (fun x => n0 - x) (fun x => x <= n0 /\ ∀ j, j < x -> gT (f0 j) ∈ gN n1 f1) [] []
    (fun x _ _ => x + 1) (fun _ => [0, 1]) [0, 1] 0 0 0 ?_ ?_ ?_
   . exact ⟨Nat.zero_le _, fun j h => absurd h (Nat.not_lt_zero _)⟩
   . repeat' (first | exact trivial | exact rfl | (intro _ h; exact absurd h (Nat.not_lt_zero _)) | (intro _ _; exact rfl) | refine ⟨?_, ?_⟩ | fail)
   . rintro i ⟨k1, k2⟩
     repeat' (first | exact trivial | refine ⟨?_, ?_⟩ | intro _)
     all_goals first | (with_reducible first | apply qa | apply qb | apply qc | apply qd) | (conv => whnf)
     all_goals (try simp only [Int.toNat_natCast, decide_eq_true_eq, decide_eq_false_iff_not, seq_iff, gN_canon] at *)
     all_goals first | omega | ((with_reducible show idsOk _ _ = true); rfl) | ((with_reducible show Value.int _ _ = Value.int _ _); rw [wI_id _ (by omega) (by omega)]; rfl) | (exact hp1.1) | (exact subS_no (i := i) (by omega) (by assumption)) | (exact in_step k2 (by assumption) _ (by assumption)) | (exact congrArg Value.bool (subN_yes (fun j hj => k2 j (by omega)) (by assumption)).symm) | (exact congrArg Value.bool (subN_yes' (fun j hj => k2 j (by omega)) (by assumption)).symm) | rfl
 . cases h
def FRNLen : List Ar -> Option Rs
 | [.agg [.d (.v (.bool b0)), .d (.lst 1 n0 f0)]] => some ⟨(n0 * 16 <= 140737488351232 /\ ∀ i, i < n0 -> f0 i = [st (gT (f0 i))]), .va (.c (.d (it (((cleanS (gN n0 f0)).length : Int) + if b0 then 1 else 0)))), []⟩
 | _ => none
theorem fcRNLen : FC Tryz.prog 133 FRNLen := by
 intro xs pre r us h hp
 unfold FRNLen at h
 split at h
 . rename_i b0 n0 f0
   cases h
   have hp0 := hp
   refine FCat.of_eq (as' := [.agg [.d (.v (.bool b0)), .d (.lst 1 n0 fun i => [st (gT (f0 i))])]]) ?_ rfl rfl ?_
   . repeat' (first | exact trivial | exact rfl | refine ⟨?_, ?_⟩ | fail)
     all_goals first | exact hp0.2 | exact hp1.2 | exact hp2.2 | (intro i hi; exact (hp0.2 i hi).1) | (intro i hi; exact (hp1.2 i hi).1) | (intro i hi; exact (hp2.2 i hi).1) | grind
   refine fcat tys_ok (l := [(76, ⟨[], FRClean⟩)]) ⟨fcRClean, trivial⟩ Tryz.func133 rfl (by kernel_rfl) false ?_
   have hL := cleanS_len n0 f0
   repeat' (first | exact trivial | refine ⟨?_, ?_⟩ | intro _)
   all_goals first | (with_reducible first | apply qa | apply qb | apply qc | apply qd) | (conv => whnf)
   all_goals first | exact hp0.1 | rfl | (show Value.int .i64 (IntKind.wrap .i64 (((cleanS (gN n0 f0)).length : Int) + 1)) = _; unfold cleanS; rw [wI_id _ (by omega) (by omega), if_pos ‹b0 = true›]) | (rw [if_neg (by rw [‹b0 = false›]; decide)]; show Value.int .i64 ((cleanS (gN n0 f0)).length : Int) = _; rw [Int.add_zero])
 . cases h
theorem gcdJ_lt {x y : Cg} (h : ¬ Cg.gcdJ x y > 9223372036854775807) : Cg.gcdJ x y < 9223372036854775808 := by omega
theorem Cg.join_inR {a b : Cg} (ha : a.inR) (hb : b.inR) : (Cg.join a b).inR := by
 have h1 := Cg.clean_inR ha
 have h2 := Cg.clean_inR hb
 unfold Cg.join; split
 . exact h2
 . split
   . exact h1
   . split
     . unfold Cg.of Cg.inR md; decide
     . rename_i h
       exact Cg.of_inR _ _ (by have : 0 <= Cg.gcdJ a.clean b.clean := by unfold Cg.gcdJ; omega
                               omega) (gcdJ_lt h) h1.2.1 h1.2.2
namespace Vl
def join (a b : Vl) : Vl := ⟨⟨a.of.i.s.join b.of.i.s, a.of.i.c.join b.of.i.c⟩, ⟨a.t.null || b.t.null, ofS (ofS a.t.names ++ ofS b.t.names)⟩⟩
def widen (a b : Vl) (l : List Int) : Vl := ⟨⟨a.of.i.s.widen b.of.i.s l, a.of.i.c.join b.of.i.c⟩, ⟨a.t.null || b.t.null, ofS (ofS a.t.names ++ ofS b.t.names)⟩⟩
def none (v : Vl) : Bool := v.of.i.none && (!v.t.null && decide (ofS v.t.names = []))
def zero : Vl := ⟨Ig.zero, ⟨false, []⟩⟩
def narrow (a b : Vl) : Vl := if !leq b a then a.of else if none b then zero else ⟨Ig.clean ⟨a.of.i.s.narrow b.of.i.s, if Cg.eq a.of.i.c (Cg.of 1 0) then b.of.i.c else a.of.i.c⟩, a.of.t⟩
def rjoin (a b : Vl) : Vl := ⟨⟨a.rclean.i.s.join b.rclean.i.s, a.rclean.i.c.join b.rclean.i.c⟩, ⟨a.t.null || b.t.null, cleanS (cleanS a.t.names ++ cleanS b.t.names)⟩⟩
def rwiden (a b : Vl) (l : List Int) : Vl := ⟨⟨a.rclean.i.s.widen b.rclean.i.s l, (rjoin a.rclean b.rclean).i.c⟩, (rjoin a.rclean b.rclean).t⟩
def rleq (a b : Vl) : Bool := (a.rclean.i.s.leq b.rclean.i.s && a.rclean.i.c.leq b.rclean.i.c) && ((!a.t.null || b.t.null) && subS (cleanS a.t.names) (cleanS b.t.names))
def rnone (v : Vl) : Bool := !v.rclean.i.s.some && decide (((cleanS (cleanS v.t.names)).length : Int) + (if v.t.null then 1 else 0) = 0)
def rnarrow (a b : Vl) : Vl := if !rleq b.rclean a.rclean then a.rclean else if rnone b.rclean then zero else rclean ⟨⟨a.rclean.i.s.narrow b.rclean.i.s, if a.rclean.i.c.m = 1 then b.rclean.i.c else a.rclean.i.c⟩, a.rclean.t⟩
end Vl
theorem none_t {v : Vl} (h : v.of.i.none = true) : Value.bool (!v.t.null && decide (ofS v.t.names = [])) = Value.bool v.none := by unfold Vl.none; rw [h]; rfl
theorem none_f {v : Vl} (h : v.of.i.none = false) : Value.bool false = Value.bool v.none := by unfold Vl.none; rw [h]; rfl
theorem narrow_1 {a b : Vl} (h : (!Vl.leq b a) = true) : Vl.narrow a b = a.of := by unfold Vl.narrow; rw [if_pos h]
theorem narrow_2 {a b : Vl} (h : (!Vl.leq b a) = false) (h2 : b.none = true) : Vl.narrow a b = Vl.zero := by unfold Vl.narrow; rw [if_neg (by rw [h]; decide), if_pos h2]
theorem narrow_3 {a b : Vl} (h : (!Vl.leq b a) = false) (h2 : b.none = false) (h3 : (a.of.i.c.some == (Cg.of 1 0).some && (a.of.i.c.m == (Cg.of 1 0).m && (a.of.i.c.r == (Cg.of 1 0).r && true))) = true) : Vl.narrow a b = ⟨Ig.clean ⟨a.of.i.s.narrow b.of.i.s, b.of.i.c⟩, a.of.t⟩ := by
 have h3 : Cg.eq a.of.i.c (Cg.of 1 0) = true := cg_eq4.symm.trans h3
 unfold Vl.narrow; rw [if_neg (by rw [h]; decide), if_neg (by rw [h2]; decide), if_pos h3]
theorem narrow_4 {a b : Vl} (h : (!Vl.leq b a) = false) (h2 : b.none = false) (h3 : (a.of.i.c.some == (Cg.of 1 0).some && (a.of.i.c.m == (Cg.of 1 0).m && (a.of.i.c.r == (Cg.of 1 0).r && true))) = false) : Vl.narrow a b = ⟨Ig.clean ⟨a.of.i.s.narrow b.of.i.s, a.of.i.c⟩, a.of.t⟩ := by
 have h3 : Cg.eq a.of.i.c (Cg.of 1 0) = false := cg_eq4.symm.trans h3
 unfold Vl.narrow; rw [if_neg (by rw [h]; decide), if_neg (by rw [h2]; decide), if_neg (by rw [h3]; decide)]
theorem okV_of {v : Vl} (h : okV v) : okV v.of := by
 have h1 := Ig.clean_inR h.2.1 h.2.2
 have h2 := ofS_len v.t.names
 exact ⟨⟨by show (ofS v.t.names).length * 16 <= 140737488351232; have := h.1.1; omega, fun _ _ => rfl⟩, h1⟩
theorem okV_rclean {v : Vl} (h : okV v) : okV v.rclean := by rw [<- of_rclean]; exact okV_of h
def FVJoin : List Ar -> Option Rs
 | [.agg [.d (.v (.bool s0)), .d (.v (.int .i64 l0)), .d (.v (.int .i64 h0)), .d (.v (.bool b0)), .d (.v (.int .i64 m0)), .d (.v (.int .i64 r0)), .d (.v (.bool z0)), .d (.lst 1 n0 f0)], .agg [.d (.v (.bool s1)), .d (.v (.int .i64 l1)), .d (.v (.int .i64 h1)), .d (.v (.bool b1)), .d (.v (.int .i64 m1)), .d (.v (.int .i64 r1)), .d (.v (.bool z1)), .d (.lst 1 n1 f1)]] => some ⟨((n0 * 16 <= 140737488351232 /\ ∀ i, i < n0 -> f0 i = [st (gT (f0 i))]) /\ Sp.inR ⟨s0, l0, h0⟩ /\ Cg.inR ⟨b0, m0, r0⟩) /\ ((n1 * 16 <= 140737488351232 /\ ∀ i, i < n1 -> f1 i = [st (gT (f1 i))]) /\ Sp.inR ⟨s1, l1, h1⟩ /\ Cg.inR ⟨b1, m1, r1⟩) /\ ((n0 + n1) * 16 <= 140737488351232), .va (Vl.ar (Vl.join (⟨⟨⟨s0, l0, h0⟩, ⟨b0, m0, r0⟩⟩, ⟨z0, gN n0 f0⟩⟩ : Vl) (⟨⟨⟨s1, l1, h1⟩, ⟨b1, m1, r1⟩⟩, ⟨z1, gN n1 f1⟩⟩ : Vl))), []⟩
 | _ => none
theorem fcVJoin : FC Tryz.prog 95 FVJoin := by
 intro xs pre r us h hp
 unfold FVJoin at h
 split at h
 . rename_i s0 l0 h0 b0 m0 r0 z0 n0 f0 s1 l1 h1 b1 m1 r1 z1 n1 f1
   cases h
   obtain ⟨hp0, hp1, hp2⟩ := hp
   refine FCat.of_eq (as' := [.agg [.d (.v (.bool s0)), .d (.v (.int .i64 l0)), .d (.v (.int .i64 h0)), .d (.v (.bool b0)), .d (.v (.int .i64 m0)), .d (.v (.int .i64 r0)), .d (.v (.bool z0)), .d (.lst 1 n0 fun i => [st (gT (f0 i))])], .agg [.d (.v (.bool s1)), .d (.v (.int .i64 l1)), .d (.v (.int .i64 h1)), .d (.v (.bool b1)), .d (.v (.int .i64 m1)), .d (.v (.int .i64 r1)), .d (.v (.bool z1)), .d (.lst 1 n1 fun i => [st (gT (f1 i))])]]) ?_ rfl rfl ?_
   . repeat' (first | exact trivial | exact rfl | refine ⟨?_, ?_⟩ | fail)
     all_goals first | exact hp0.2 | exact hp1.2 | exact hp2.2 | (intro i hi; exact (hp0.2 i hi).1) | (intro i hi; exact (hp1.2 i hi).1) | (intro i hi; exact (hp2.2 i hi).1) | grind
   refine fcat tys_ok (l := [(116, ⟨[], FVOf⟩), (144, ⟨[], FSJoin⟩), (145, ⟨[], FCJoin⟩), (146, ⟨[], FNJoin⟩), (117, ⟨[], FVValue⟩)]) ⟨fcVOf, fcSJoin, fcCJoin, fcNJoin, fcVValue, trivial⟩ Tryz.func95 rfl (by kernel_rfl) true ?_
   have hv0 : okV (⟨⟨⟨s0, l0, h0⟩, ⟨b0, m0, r0⟩⟩, ⟨z0, gN n0 fun i => [st (gT (f0 i))]⟩⟩ : Vl) := ⟨⟨(by rw [gN_length]; exact hp0.1.1), fun _ _ => rfl⟩, hp0.2⟩
   have hv1 : okV (⟨⟨⟨s1, l1, h1⟩, ⟨b1, m1, r1⟩⟩, ⟨z1, gN n1 fun i => [st (gT (f1 i))]⟩⟩ : Vl) := ⟨⟨(by rw [gN_length]; exact hp1.1.1), fun _ _ => rfl⟩, hp1.2⟩
   have ho0 := okV_of hv0
   have ho1 := okV_of hv1
   have hoo0 := okV_of ho0
   have hoo1 := okV_of ho1
   have hl0 : (Vl.of (⟨⟨⟨s0, l0, h0⟩, ⟨b0, m0, r0⟩⟩, ⟨z0, gN n0 fun i => [st (gT (f0 i))]⟩⟩ : Vl)).t.names.length <= n0 := by have := ofS_len (gN n0 f0); rw [gN_length] at this; exact this
   have hl1 : (Vl.of (⟨⟨⟨s1, l1, h1⟩, ⟨b1, m1, r1⟩⟩, ⟨z1, gN n1 fun i => [st (gT (f1 i))]⟩⟩ : Vl)).t.names.length <= n1 := by have := ofS_len (gN n1 f1); rw [gN_length] at this; exact this
   have hsj := Sp.join_inR ho0.2.1 ho1.2.1
   have hcj := Cg.join_inR ho0.2.2 ho1.2.2
   have hsum : ((Vl.of (⟨⟨⟨s0, l0, h0⟩, ⟨b0, m0, r0⟩⟩, ⟨z0, gN n0 fun i => [st (gT (f0 i))]⟩⟩ : Vl)).t.names.length + (Vl.of (⟨⟨⟨s1, l1, h1⟩, ⟨b1, m1, r1⟩⟩, ⟨z1, gN n1 fun i => [st (gT (f1 i))]⟩⟩ : Vl)).t.names.length) * 16 <= 140737488351232 := by have := hp2; omega
   have hjl : (ofS ((Vl.of (⟨⟨⟨s0, l0, h0⟩, ⟨b0, m0, r0⟩⟩, ⟨z0, gN n0 fun i => [st (gT (f0 i))]⟩⟩ : Vl)).t.names ++ (Vl.of (⟨⟨⟨s1, l1, h1⟩, ⟨b1, m1, r1⟩⟩, ⟨z1, gN n1 fun i => [st (gT (f1 i))]⟩⟩ : Vl)).t.names)).length * 16 <= 140737488351232 := by have := ofS_len ((Vl.of (⟨⟨⟨s0, l0, h0⟩, ⟨b0, m0, r0⟩⟩, ⟨z0, gN n0 fun i => [st (gT (f0 i))]⟩⟩ : Vl)).t.names ++ (Vl.of (⟨⟨⟨s1, l1, h1⟩, ⟨b1, m1, r1⟩⟩, ⟨z1, gN n1 fun i => [st (gT (f1 i))]⟩⟩ : Vl)).t.names); rw [List.length_append] at this; omega
   unfold okV at ho0 ho1 hoo0 hoo1
   repeat' (first | exact trivial | (with_reducible first | exact ho0 | exact ho1 | exact ho0.1 | exact ho1.1 | exact ho0.2.1 | exact ho0.2.2 | exact ho1.2.1 | exact ho1.2.2 | exact hp0.1 | exact hp1.1 | exact hp0.2.1 | exact hp0.2.2 | exact hp1.2.1 | exact hp1.2.2 | exact hp0 | exact hp1 | exact hsj | exact hcj) | refine ⟨?_, ?_⟩ | intro _)
   all_goals first | (with_reducible first | apply qa | apply qb | apply qc | apply qd) | (conv => whnf)
   all_goals (try simp only [gN_lst] at *)
   all_goals first | rfl | (with_reducible first | exact hp0.1.1 | exact hp1.1.1) | exact hsum | exact hjl
 . cases h
def FVWiden : List Ar -> Option Rs
 | [.agg [.d (.v (.bool s0)), .d (.v (.int .i64 l0)), .d (.v (.int .i64 h0)), .d (.v (.bool b0)), .d (.v (.int .i64 m0)), .d (.v (.int .i64 r0)), .d (.v (.bool z0)), .d (.lst 1 n0 f0)], .agg [.d (.v (.bool s1)), .d (.v (.int .i64 l1)), .d (.v (.int .i64 h1)), .d (.v (.bool b1)), .d (.v (.int .i64 m1)), .d (.v (.int .i64 r1)), .d (.v (.bool z1)), .d (.lst 1 n1 f1)], .c (.d (.lst 1 n2 f2))] => some ⟨((n0 * 16 <= 140737488351232 /\ ∀ i, i < n0 -> f0 i = [st (gT (f0 i))]) /\ Sp.inR ⟨s0, l0, h0⟩ /\ Cg.inR ⟨b0, m0, r0⟩) /\ ((n1 * 16 <= 140737488351232 /\ ∀ i, i < n1 -> f1 i = [st (gT (f1 i))]) /\ Sp.inR ⟨s1, l1, h1⟩ /\ Cg.inR ⟨b1, m1, r1⟩) /\ (n2 <= 9223372036854775807 /\ ∀ i, i < n2 -> f2 i = [it (gI (f2 i))] /\ rI (gI (f2 i))) /\ ((n0 + n1) * 16 <= 140737488351232), .va (Vl.ar (Vl.widen (⟨⟨⟨s0, l0, h0⟩, ⟨b0, m0, r0⟩⟩, ⟨z0, gN n0 f0⟩⟩ : Vl) (⟨⟨⟨s1, l1, h1⟩, ⟨b1, m1, r1⟩⟩, ⟨z1, gN n1 f1⟩⟩ : Vl) (gL n2 f2))), []⟩
 | _ => none
theorem fcVWiden : FC Tryz.prog 101 FVWiden := by
 intro xs pre r us h hp
 unfold FVWiden at h
 split at h
 . rename_i s0 l0 h0 b0 m0 r0 z0 n0 f0 s1 l1 h1 b1 m1 r1 z1 n1 f1 n2 f2
   cases h
   obtain ⟨hp0, hp1, hp2, hp3⟩ := hp
   refine FCat.of_eq (as' := [.agg [.d (.v (.bool s0)), .d (.v (.int .i64 l0)), .d (.v (.int .i64 h0)), .d (.v (.bool b0)), .d (.v (.int .i64 m0)), .d (.v (.int .i64 r0)), .d (.v (.bool z0)), .d (.lst 1 n0 fun i => [st (gT (f0 i))])], .agg [.d (.v (.bool s1)), .d (.v (.int .i64 l1)), .d (.v (.int .i64 h1)), .d (.v (.bool b1)), .d (.v (.int .i64 m1)), .d (.v (.int .i64 r1)), .d (.v (.bool z1)), .d (.lst 1 n1 fun i => [st (gT (f1 i))])], .c (.d (.lst 1 n2 fun i => [it (gI (f2 i))]))]) ?_ rfl rfl ?_
   . repeat' (first | exact trivial | exact rfl | refine ⟨?_, ?_⟩ | fail)
     all_goals first | exact hp0.2 | exact hp1.2 | exact hp2.2 | (intro i hi; exact (hp0.2 i hi).1) | (intro i hi; exact (hp1.2 i hi).1) | (intro i hi; exact (hp2.2 i hi).1) | grind
   refine fcat tys_ok (l := [(116, ⟨[], FVOf⟩), (151, ⟨[], FSWiden⟩), (145, ⟨[], FCJoin⟩), (146, ⟨[], FNJoin⟩), (117, ⟨[], FVValue⟩)]) ⟨fcVOf, fcSWiden, fcCJoin, fcNJoin, fcVValue, trivial⟩ Tryz.func101 rfl (by kernel_rfl) true ?_
   have hv0 : okV (⟨⟨⟨s0, l0, h0⟩, ⟨b0, m0, r0⟩⟩, ⟨z0, gN n0 fun i => [st (gT (f0 i))]⟩⟩ : Vl) := ⟨⟨(by rw [gN_length]; exact hp0.1.1), fun _ _ => rfl⟩, hp0.2⟩
   have hv1 : okV (⟨⟨⟨s1, l1, h1⟩, ⟨b1, m1, r1⟩⟩, ⟨z1, gN n1 fun i => [st (gT (f1 i))]⟩⟩ : Vl) := ⟨⟨(by rw [gN_length]; exact hp1.1.1), fun _ _ => rfl⟩, hp1.2⟩
   have ho0 := okV_of hv0
   have ho1 := okV_of hv1
   have hoo0 := okV_of ho0
   have hoo1 := okV_of ho1
   have hl0 : (Vl.of (⟨⟨⟨s0, l0, h0⟩, ⟨b0, m0, r0⟩⟩, ⟨z0, gN n0 fun i => [st (gT (f0 i))]⟩⟩ : Vl)).t.names.length <= n0 := by have := ofS_len (gN n0 f0); rw [gN_length] at this; exact this
   have hl1 : (Vl.of (⟨⟨⟨s1, l1, h1⟩, ⟨b1, m1, r1⟩⟩, ⟨z1, gN n1 fun i => [st (gT (f1 i))]⟩⟩ : Vl)).t.names.length <= n1 := by have := ofS_len (gN n1 f1); rw [gN_length] at this; exact this
   have hsj := Sp.join_inR ho0.2.1 ho1.2.1
   have hcj := Cg.join_inR ho0.2.2 ho1.2.2
   have hsum : ((Vl.of (⟨⟨⟨s0, l0, h0⟩, ⟨b0, m0, r0⟩⟩, ⟨z0, gN n0 fun i => [st (gT (f0 i))]⟩⟩ : Vl)).t.names.length + (Vl.of (⟨⟨⟨s1, l1, h1⟩, ⟨b1, m1, r1⟩⟩, ⟨z1, gN n1 fun i => [st (gT (f1 i))]⟩⟩ : Vl)).t.names.length) * 16 <= 140737488351232 := by have := hp3; omega
   have hjl : (ofS ((Vl.of (⟨⟨⟨s0, l0, h0⟩, ⟨b0, m0, r0⟩⟩, ⟨z0, gN n0 fun i => [st (gT (f0 i))]⟩⟩ : Vl)).t.names ++ (Vl.of (⟨⟨⟨s1, l1, h1⟩, ⟨b1, m1, r1⟩⟩, ⟨z1, gN n1 fun i => [st (gT (f1 i))]⟩⟩ : Vl)).t.names)).length * 16 <= 140737488351232 := by have := ofS_len ((Vl.of (⟨⟨⟨s0, l0, h0⟩, ⟨b0, m0, r0⟩⟩, ⟨z0, gN n0 fun i => [st (gT (f0 i))]⟩⟩ : Vl)).t.names ++ (Vl.of (⟨⟨⟨s1, l1, h1⟩, ⟨b1, m1, r1⟩⟩, ⟨z1, gN n1 fun i => [st (gT (f1 i))]⟩⟩ : Vl)).t.names); rw [List.length_append] at this; omega
   unfold okV at ho0 ho1 hoo0 hoo1
   have hws := Sp.widen_inR (l := gL n2 fun i => [it (gI (f2 i))]) ho0.2.1 ho1.2.1 (fun x hx => gL_r hp2.2 x hx)
   repeat' (first | exact trivial | (with_reducible first | exact ho0 | exact ho1 | exact ho0.1 | exact ho1.1 | exact ho0.2.1 | exact ho0.2.2 | exact ho1.2.1 | exact ho1.2.2 | exact hp0.1 | exact hp1.1 | exact hp0.2.1 | exact hp0.2.2 | exact hp1.2.1 | exact hp1.2.2 | exact hp0 | exact hp1 | exact hsj | exact hcj | exact hws | exact hp2 | exact hp2.1) | refine ⟨?_, ?_⟩ | intro _)
   all_goals first | (with_reducible first | apply qa | apply qb | apply qc | apply qd) | (conv => whnf)
   all_goals (try simp only [gN_lst] at *)
   all_goals first | rfl | (exact (hp2.2 _ ‹_›).2.1) | (exact (hp2.2 _ ‹_›).2.2) | (with_reducible first | exact hp2.1 | exact hp0.1.1 | exact hp1.1.1) | exact hsum | exact hjl
 . cases h
def FVNoneV : List Ar -> Option Rs
 | [.agg [.d (.v (.bool s0)), .d (.v (.int .i64 l0)), .d (.v (.int .i64 h0)), .d (.v (.bool b0)), .d (.v (.int .i64 m0)), .d (.v (.int .i64 r0)), .d (.v (.bool z0)), .d (.lst 1 n0 f0)]] => some ⟨((n0 * 16 <= 140737488351232 /\ ∀ i, i < n0 -> f0 i = [st (gT (f0 i))]) /\ Sp.inR ⟨s0, l0, h0⟩ /\ Cg.inR ⟨b0, m0, r0⟩), .va (.c (.d (bo (Vl.none (⟨⟨⟨s0, l0, h0⟩, ⟨b0, m0, r0⟩⟩, ⟨z0, gN n0 f0⟩⟩ : Vl))))), []⟩
 | _ => none
theorem fcVNoneV : FC Tryz.prog 103 FVNoneV := by
 intro xs pre r us h hp
 unfold FVNoneV at h
 split at h
 . rename_i s0 l0 h0 b0 m0 r0 z0 n0 f0
   cases h
   have hp0 := hp
   refine FCat.of_eq (as' := [.agg [.d (.v (.bool s0)), .d (.v (.int .i64 l0)), .d (.v (.int .i64 h0)), .d (.v (.bool b0)), .d (.v (.int .i64 m0)), .d (.v (.int .i64 r0)), .d (.v (.bool z0)), .d (.lst 1 n0 fun i => [st (gT (f0 i))])]]) ?_ rfl rfl ?_
   . repeat' (first | exact trivial | exact rfl | refine ⟨?_, ?_⟩ | fail)
     all_goals first | exact hp0.2 | exact hp1.2 | exact hp2.2 | (intro i hi; exact (hp0.2 i hi).1) | (intro i hi; exact (hp1.2 i hi).1) | (intro i hi; exact (hp2.2 i hi).1) | grind
   refine fcat tys_ok (l := [(116, ⟨[], FVOf⟩), (155, ⟨[], FVNone⟩), (156, ⟨[], FNNone⟩)]) ⟨fcVOf, fcVNone, fcNNone, trivial⟩ Tryz.func103 rfl (by kernel_rfl) true ?_
   have hv0 : okV (⟨⟨⟨s0, l0, h0⟩, ⟨b0, m0, r0⟩⟩, ⟨z0, gN n0 fun i => [st (gT (f0 i))]⟩⟩ : Vl) := ⟨⟨(by rw [gN_length]; exact hp0.1.1), fun _ _ => rfl⟩, hp0.2⟩
   have ho0 := okV_of hv0
   unfold okV at ho0
   repeat' (first | exact trivial | (with_reducible first | exact ho0 | exact ho0.1 | exact ho0.2.1 | exact ho0.2.2 | exact hp0 | exact hp0.1 | exact hp0.2 | exact hp0.2.1 | exact hp0.2.2) | refine ⟨?_, ?_⟩ | intro _)
   all_goals first | (with_reducible first | apply qa | apply qb | apply qc | apply qd) | (conv => whnf)
   all_goals (try simp only [gN_lst] at *)
   all_goals first | rfl | exact none_t ‹_› | exact none_f ‹_› | (with_reducible exact hp0.1.1)
 . cases h
def FVNarrow : List Ar -> Option Rs
 | [.agg [.d (.v (.bool s0)), .d (.v (.int .i64 l0)), .d (.v (.int .i64 h0)), .d (.v (.bool b0)), .d (.v (.int .i64 m0)), .d (.v (.int .i64 r0)), .d (.v (.bool z0)), .d (.lst 1 n0 f0)], .agg [.d (.v (.bool s1)), .d (.v (.int .i64 l1)), .d (.v (.int .i64 h1)), .d (.v (.bool b1)), .d (.v (.int .i64 m1)), .d (.v (.int .i64 r1)), .d (.v (.bool z1)), .d (.lst 1 n1 f1)]] => some ⟨((n0 * 16 <= 140737488351232 /\ ∀ i, i < n0 -> f0 i = [st (gT (f0 i))]) /\ Sp.inR ⟨s0, l0, h0⟩ /\ Cg.inR ⟨b0, m0, r0⟩) /\ ((n1 * 16 <= 140737488351232 /\ ∀ i, i < n1 -> f1 i = [st (gT (f1 i))]) /\ Sp.inR ⟨s1, l1, h1⟩ /\ Cg.inR ⟨b1, m1, r1⟩), .va (Vl.ar (Vl.narrow (⟨⟨⟨s0, l0, h0⟩, ⟨b0, m0, r0⟩⟩, ⟨z0, gN n0 f0⟩⟩ : Vl) (⟨⟨⟨s1, l1, h1⟩, ⟨b1, m1, r1⟩⟩, ⟨z1, gN n1 f1⟩⟩ : Vl))), []⟩
 | _ => none
theorem fcVNarrow : FC Tryz.prog 102 FVNarrow := by
 intro xs pre r us h hp
 unfold FVNarrow at h
 split at h
 . rename_i s0 l0 h0 b0 m0 r0 z0 n0 f0 s1 l1 h1 b1 m1 r1 z1 n1 f1
   cases h
   obtain ⟨hp0, hp1⟩ := hp
   refine FCat.of_eq (as' := [.agg [.d (.v (.bool s0)), .d (.v (.int .i64 l0)), .d (.v (.int .i64 h0)), .d (.v (.bool b0)), .d (.v (.int .i64 m0)), .d (.v (.int .i64 r0)), .d (.v (.bool z0)), .d (.lst 1 n0 fun i => [st (gT (f0 i))])], .agg [.d (.v (.bool s1)), .d (.v (.int .i64 l1)), .d (.v (.int .i64 h1)), .d (.v (.bool b1)), .d (.v (.int .i64 m1)), .d (.v (.int .i64 r1)), .d (.v (.bool z1)), .d (.lst 1 n1 fun i => [st (gT (f1 i))])]]) ?_ rfl rfl ?_
   . repeat' (first | exact trivial | exact rfl | refine ⟨?_, ?_⟩ | fail)
     all_goals first | exact hp0.2 | exact hp1.2 | exact hp2.2 | (intro i hi; exact (hp0.2 i hi).1) | (intro i hi; exact (hp1.2 i hi).1) | (intro i hi; exact (hp2.2 i hi).1) | grind
   refine fcat tys_ok (l := [(116, ⟨[], FVOf⟩), (91, ⟨[], FVLeq⟩), (103, ⟨[], FVNoneV⟩), (117, ⟨[], FVValue⟩), (152, ⟨[], FSNarrow⟩), (153, ⟨[], FCAll⟩), (154, ⟨[], FVClean⟩)]) ⟨fcVOf, fcVLeq, fcVNoneV, fcVValue, fcSNarrow, fcCAll, fcVClean, trivial⟩ Tryz.func102 rfl (by kernel_rfl) true ?_
   have hv0 : okV (⟨⟨⟨s0, l0, h0⟩, ⟨b0, m0, r0⟩⟩, ⟨z0, gN n0 fun i => [st (gT (f0 i))]⟩⟩ : Vl) := ⟨⟨(by rw [gN_length]; exact hp0.1.1), fun _ _ => rfl⟩, hp0.2⟩
   have hv1 : okV (⟨⟨⟨s1, l1, h1⟩, ⟨b1, m1, r1⟩⟩, ⟨z1, gN n1 fun i => [st (gT (f1 i))]⟩⟩ : Vl) := ⟨⟨(by rw [gN_length]; exact hp1.1.1), fun _ _ => rfl⟩, hp1.2⟩
   have ho0 := okV_of hv0
   have ho1 := okV_of hv1
   have hoo0 := okV_of ho0
   have hoo1 := okV_of ho1
   have hl0 : (Vl.of (⟨⟨⟨s0, l0, h0⟩, ⟨b0, m0, r0⟩⟩, ⟨z0, gN n0 fun i => [st (gT (f0 i))]⟩⟩ : Vl)).t.names.length <= n0 := by have := ofS_len (gN n0 f0); rw [gN_length] at this; exact this
   have hl1 : (Vl.of (⟨⟨⟨s1, l1, h1⟩, ⟨b1, m1, r1⟩⟩, ⟨z1, gN n1 fun i => [st (gT (f1 i))]⟩⟩ : Vl)).t.names.length <= n1 := by have := ofS_len (gN n1 f1); rw [gN_length] at this; exact this
   have hsj := Sp.join_inR ho0.2.1 ho1.2.1
   have hcj := Cg.join_inR ho0.2.2 ho1.2.2
   unfold okV at ho0 ho1 hoo0 hoo1
   have hns := Sp.narrow_inR ho0.2.1 ho1.2.1
   have hk1 := Ig.clean_inR (i := ⟨_, _⟩) hns ho0.2.2
   have hk2 := Ig.clean_inR (i := ⟨_, _⟩) hns ho1.2.2
   repeat' (first | exact trivial | (with_reducible first | exact ho0 | exact ho1 | exact ho0.1 | exact ho1.1 | exact ho0.2.1 | exact ho0.2.2 | exact ho1.2.1 | exact ho1.2.2 | exact hp0.1 | exact hp1.1 | exact hp0.2.1 | exact hp0.2.2 | exact hp1.2.1 | exact hp1.2.2 | exact hp0 | exact hp1 | exact hsj | exact hcj | exact hns | exact hk1 | exact hk2 | exact hk1.1 | exact hk1.2 | exact hk2.1 | exact hk2.2) | refine ⟨?_, ?_⟩ | intro _)
   all_goals first | (with_reducible first | apply qa | apply qb | apply qc | apply qd) | (conv => whnf)
   all_goals (try simp only [gN_lst] at *)
   all_goals first | rfl | (with_reducible first | exact hp0.1.1 | exact hp1.1.1) | (have e := narrow_1 (a := (⟨⟨⟨s0, l0, h0⟩, ⟨b0, m0, r0⟩⟩, ⟨z0, gN n0 fun i => [st (gT (f0 i))]⟩⟩ : Vl)) (b := (⟨⟨⟨s1, l1, h1⟩, ⟨b1, m1, r1⟩⟩, ⟨z1, gN n1 fun i => [st (gT (f1 i))]⟩⟩ : Vl)) ‹_›; first | (have e2 := congrArg (fun v : Vl => Value.bool v.i.s.some) e.symm; exact e2) | (have e2 := congrArg (fun v : Vl => Value.int .i64 v.i.s.lo) e.symm; exact e2) | (have e2 := congrArg (fun v : Vl => Value.int .i64 v.i.s.hi) e.symm; exact e2) | (have e2 := congrArg (fun v : Vl => Value.bool v.i.c.some) e.symm; exact e2) | (have e2 := congrArg (fun v : Vl => Value.int .i64 v.i.c.m) e.symm; exact e2) | (have e2 := congrArg (fun v : Vl => Value.int .i64 v.i.c.r) e.symm; exact e2) | (have e2 := congrArg (fun v : Vl => Value.bool v.t.null) e.symm; exact e2) | (have e2 := congrArg (fun v : Vl => v.t.names.length) e.symm; exact e2) | (have e2 := congrArg (fun v : Vl => v.t.names.length) e; exact e2) | (have e2 := congrArg (fun v : Vl => [st (atS v.t.names (by assumption))]) e.symm; exact e2) | fail) | (have e := narrow_2 (a := (⟨⟨⟨s0, l0, h0⟩, ⟨b0, m0, r0⟩⟩, ⟨z0, gN n0 fun i => [st (gT (f0 i))]⟩⟩ : Vl)) (b := (⟨⟨⟨s1, l1, h1⟩, ⟨b1, m1, r1⟩⟩, ⟨z1, gN n1 fun i => [st (gT (f1 i))]⟩⟩ : Vl)) ‹_› ‹_›; first | (have e2 := congrArg (fun v : Vl => Value.bool v.i.s.some) e.symm; exact e2) | (have e2 := congrArg (fun v : Vl => Value.int .i64 v.i.s.lo) e.symm; exact e2) | (have e2 := congrArg (fun v : Vl => Value.int .i64 v.i.s.hi) e.symm; exact e2) | (have e2 := congrArg (fun v : Vl => Value.bool v.i.c.some) e.symm; exact e2) | (have e2 := congrArg (fun v : Vl => Value.int .i64 v.i.c.m) e.symm; exact e2) | (have e2 := congrArg (fun v : Vl => Value.int .i64 v.i.c.r) e.symm; exact e2) | (have e2 := congrArg (fun v : Vl => Value.bool v.t.null) e.symm; exact e2) | (have e2 := congrArg (fun v : Vl => v.t.names.length) e.symm; exact e2) | (have e2 := congrArg (fun v : Vl => v.t.names.length) e; exact e2) | (have e2 := congrArg (fun v : Vl => [st (atS v.t.names (by assumption))]) e.symm; exact e2) | fail) | (have e := narrow_3 (a := (⟨⟨⟨s0, l0, h0⟩, ⟨b0, m0, r0⟩⟩, ⟨z0, gN n0 fun i => [st (gT (f0 i))]⟩⟩ : Vl)) (b := (⟨⟨⟨s1, l1, h1⟩, ⟨b1, m1, r1⟩⟩, ⟨z1, gN n1 fun i => [st (gT (f1 i))]⟩⟩ : Vl)) ‹_› ‹_› ‹_›; first | (have e2 := congrArg (fun v : Vl => Value.bool v.i.s.some) e.symm; exact e2) | (have e2 := congrArg (fun v : Vl => Value.int .i64 v.i.s.lo) e.symm; exact e2) | (have e2 := congrArg (fun v : Vl => Value.int .i64 v.i.s.hi) e.symm; exact e2) | (have e2 := congrArg (fun v : Vl => Value.bool v.i.c.some) e.symm; exact e2) | (have e2 := congrArg (fun v : Vl => Value.int .i64 v.i.c.m) e.symm; exact e2) | (have e2 := congrArg (fun v : Vl => Value.int .i64 v.i.c.r) e.symm; exact e2) | (have e2 := congrArg (fun v : Vl => Value.bool v.t.null) e.symm; exact e2) | (have e2 := congrArg (fun v : Vl => v.t.names.length) e.symm; exact e2) | (have e2 := congrArg (fun v : Vl => v.t.names.length) e; exact e2) | (have e2 := congrArg (fun v : Vl => [st (atS v.t.names (by assumption))]) e.symm; exact e2) | fail) | (have e := narrow_4 (a := (⟨⟨⟨s0, l0, h0⟩, ⟨b0, m0, r0⟩⟩, ⟨z0, gN n0 fun i => [st (gT (f0 i))]⟩⟩ : Vl)) (b := (⟨⟨⟨s1, l1, h1⟩, ⟨b1, m1, r1⟩⟩, ⟨z1, gN n1 fun i => [st (gT (f1 i))]⟩⟩ : Vl)) ‹_› ‹_› ‹_›; first | (have e2 := congrArg (fun v : Vl => Value.bool v.i.s.some) e.symm; exact e2) | (have e2 := congrArg (fun v : Vl => Value.int .i64 v.i.s.lo) e.symm; exact e2) | (have e2 := congrArg (fun v : Vl => Value.int .i64 v.i.s.hi) e.symm; exact e2) | (have e2 := congrArg (fun v : Vl => Value.bool v.i.c.some) e.symm; exact e2) | (have e2 := congrArg (fun v : Vl => Value.int .i64 v.i.c.m) e.symm; exact e2) | (have e2 := congrArg (fun v : Vl => Value.int .i64 v.i.c.r) e.symm; exact e2) | (have e2 := congrArg (fun v : Vl => Value.bool v.t.null) e.symm; exact e2) | (have e2 := congrArg (fun v : Vl => v.t.names.length) e.symm; exact e2) | (have e2 := congrArg (fun v : Vl => v.t.names.length) e; exact e2) | (have e2 := congrArg (fun v : Vl => [st (atS v.t.names (by assumption))]) e.symm; exact e2) | fail) | ((with_reducible show _ <= _); first | exact hk1.1.1.1 | exact hk1.1.2.1 | exact hk1.2.1.1 | exact hk1.2.2.1 | exact hk2.1.1.1 | exact hk2.1.2.1 | exact hk2.2.1.1 | exact hk2.2.2.1 | exact ho0.2.2.1.1 | exact ho0.2.2.2.1 | exact ho1.2.2.1.1 | exact ho1.2.2.2.1) | ((with_reducible show _ < _); first | exact hk1.1.1.2 | exact hk1.1.2.2 | exact hk1.2.1.2 | exact hk1.2.2.2 | exact hk2.1.1.2 | exact hk2.1.2.2 | exact hk2.2.1.2 | exact hk2.2.2.2 | exact ho0.2.2.1.2 | exact ho0.2.2.2.2 | exact ho1.2.2.1.2 | exact ho1.2.2.2.2)
 . cases h
theorem okV_rc {i : Ig} {z : Bool} {l : List ByteArray} (h : okV ⟨i, ⟨z, l⟩⟩) : okV ⟨i.clean, ⟨z, cleanS l⟩⟩ := by
 have e : (⟨i.clean, ⟨z, cleanS l⟩⟩ : Vl) = Vl.rclean ⟨i, ⟨z, l⟩⟩ := rfl
 rw [e]; exact okV_rclean h
theorem rnone_key {v : Vl} : (((cleanS (cleanS v.t.names)).length : Int) + (if v.t.null then 1 else 0) == 0) = decide (((cleanS (cleanS v.t.names)).length : Int) + (if v.t.null then 1 else 0) = 0) := by rw [Bool.eq_iff_iff]; simp
theorem rnone_t {v : Vl} (h : (!v.rclean.i.s.some) = true) : Value.bool (((cleanS (cleanS v.t.names)).length : Int) + (if v.t.null then 1 else 0) == 0) = Value.bool v.rnone := by unfold Vl.rnone; rw [h, rnone_key]; rfl
theorem rnone_f {v : Vl} (h : (!v.rclean.i.s.some) = false) : Value.bool false = Value.bool v.rnone := by unfold Vl.rnone; rw [h]; rfl
theorem rleq_1 {a b : Vl} (h : a.rclean.i.s.leq b.rclean.i.s = true) (h2 : a.rclean.i.c.leq b.rclean.i.c = true) : Value.bool ((!a.t.null || b.t.null) && subS (cleanS a.t.names) (cleanS b.t.names)) = Value.bool (Vl.rleq a b) := by unfold Vl.rleq; rw [h, h2]; rfl
theorem rleq_2 {a b : Vl} (h : a.rclean.i.s.leq b.rclean.i.s = true) (h2 : a.rclean.i.c.leq b.rclean.i.c = false) : Value.bool false = Value.bool (Vl.rleq a b) := by unfold Vl.rleq; rw [h, h2]; rfl
theorem rleq_3 {a b : Vl} (h : a.rclean.i.s.leq b.rclean.i.s = false) : Value.bool false = Value.bool (Vl.rleq a b) := by unfold Vl.rleq; rw [h]; rfl
theorem rnarrow_1 {a b : Vl} (h : (!Vl.rleq b.rclean a.rclean) = true) : Vl.rnarrow a b = a.rclean := by unfold Vl.rnarrow; rw [if_pos h]
theorem rnarrow_2 {a b : Vl} (h : (!Vl.rleq b.rclean a.rclean) = false) (h2 : b.rclean.rnone = true) : Vl.rnarrow a b = Vl.zero := by unfold Vl.rnarrow; rw [if_neg (by rw [h]; decide), if_pos h2]
theorem rnarrow_3 {a b : Vl} (h : (!Vl.rleq b.rclean a.rclean) = false) (h2 : b.rclean.rnone = false) (h3 : (a.rclean.i.c.m == 1) = true) : Vl.rnarrow a b = Vl.rclean ⟨⟨a.rclean.i.s.narrow b.rclean.i.s, b.rclean.i.c⟩, a.rclean.t⟩ := by unfold Vl.rnarrow; rw [if_neg (by rw [h]; decide), if_neg (by rw [h2]; decide), if_pos (by simpa using h3)]
theorem rnarrow_4 {a b : Vl} (h : (!Vl.rleq b.rclean a.rclean) = false) (h2 : b.rclean.rnone = false) (h3 : (a.rclean.i.c.m == 1) = false) : Vl.rnarrow a b = Vl.rclean ⟨⟨a.rclean.i.s.narrow b.rclean.i.s, a.rclean.i.c⟩, a.rclean.t⟩ := by unfold Vl.rnarrow; rw [if_neg (by rw [h]; decide), if_neg (by rw [h2]; decide), if_neg (by simpa using h3)]
def FRVNone : List Ar -> Option Rs
 | [.agg [.d (.v (.bool s0)), .d (.v (.int .i64 l0)), .d (.v (.int .i64 h0)), .d (.v (.bool b0)), .d (.v (.int .i64 m0)), .d (.v (.int .i64 r0)), .d (.v (.bool z0)), .d (.lst 1 n0 f0)]] => some ⟨((n0 * 16 <= 140737488351232 /\ ∀ i, i < n0 -> f0 i = [st (gT (f0 i))]) /\ Sp.inR ⟨s0, l0, h0⟩ /\ Cg.inR ⟨b0, m0, r0⟩), .va (.c (.d (bo (Vl.rnone (⟨⟨⟨s0, l0, h0⟩, ⟨b0, m0, r0⟩⟩, ⟨z0, gN n0 f0⟩⟩ : Vl))))), []⟩
 | _ => none
theorem fcRVNone : FC Tryz.prog 84 FRVNone := by
 intro xs pre r us h hp
 unfold FRVNone at h
 split at h
 . rename_i s0 l0 h0 b0 m0 r0 z0 n0 f0
   cases h
   have hp0 := hp
   refine FCat.of_eq (as' := [.agg [.d (.v (.bool s0)), .d (.v (.int .i64 l0)), .d (.v (.int .i64 h0)), .d (.v (.bool b0)), .d (.v (.int .i64 m0)), .d (.v (.int .i64 r0)), .d (.v (.bool z0)), .d (.lst 1 n0 fun i => [st (gT (f0 i))])]]) ?_ rfl rfl ?_
   . repeat' (first | exact trivial | exact rfl | refine ⟨?_, ?_⟩ | fail)
     all_goals first | exact hp0.2 | exact hp1.2 | exact hp2.2 | (intro i hi; exact (hp0.2 i hi).1) | (intro i hi; exact (hp1.2 i hi).1) | (intro i hi; exact (hp2.2 i hi).1) | grind
   refine fcat tys_ok (l := [(27, ⟨[], FRVClean⟩), (133, ⟨[], FRNLen⟩)]) ⟨fcRVClean, fcRNLen, trivial⟩ Tryz.func84 rfl (by kernel_rfl) true ?_
   have hv0 : okV (⟨⟨⟨s0, l0, h0⟩, ⟨b0, m0, r0⟩⟩, ⟨z0, gN n0 fun i => [st (gT (f0 i))]⟩⟩ : Vl) := ⟨⟨(by rw [gN_length]; exact hp0.1.1), fun _ _ => rfl⟩, hp0.2⟩
   have ho0 : okV (⟨Ig.clean ⟨⟨s0, l0, h0⟩, ⟨b0, m0, r0⟩⟩, ⟨z0, cleanS (gN n0 fun i => [st (gT (f0 i))])⟩⟩ : Vl) := okV_rc hv0
   unfold okV at ho0
   dsimp only at ho0
   repeat' (first | exact trivial | (with_reducible first | exact ho0 | exact ho0.1 | exact ho0.2.1 | exact ho0.2.2 | exact hp0 | exact hp0.1 | exact hp0.2 | exact hp0.2.1 | exact hp0.2.2) | refine ⟨?_, ?_⟩ | intro _)
   all_goals first | (with_reducible first | apply qa | apply qb | apply qc | apply qd) | (conv => whnf)
   all_goals (try simp only [gN_lst] at *)
   all_goals first | rfl | exact rnone_t (v := (⟨⟨⟨s0, l0, h0⟩, ⟨b0, m0, r0⟩⟩, ⟨z0, gN n0 fun i => [st (gT (f0 i))]⟩⟩ : Vl)) ‹_› | exact rnone_f (v := (⟨⟨⟨s0, l0, h0⟩, ⟨b0, m0, r0⟩⟩, ⟨z0, gN n0 fun i => [st (gT (f0 i))]⟩⟩ : Vl)) ‹_› | (with_reducible first | exact hp0.1.1 | exact ho0.1.1)
 . cases h
def FRVLeq : List Ar -> Option Rs
 | [.agg [.d (.v (.bool s0)), .d (.v (.int .i64 l0)), .d (.v (.int .i64 h0)), .d (.v (.bool b0)), .d (.v (.int .i64 m0)), .d (.v (.int .i64 r0)), .d (.v (.bool z0)), .d (.lst 1 n0 f0)], .agg [.d (.v (.bool s1)), .d (.v (.int .i64 l1)), .d (.v (.int .i64 h1)), .d (.v (.bool b1)), .d (.v (.int .i64 m1)), .d (.v (.int .i64 r1)), .d (.v (.bool z1)), .d (.lst 1 n1 f1)]] => some ⟨((n0 * 16 <= 140737488351232 /\ ∀ i, i < n0 -> f0 i = [st (gT (f0 i))]) /\ Sp.inR ⟨s0, l0, h0⟩ /\ Cg.inR ⟨b0, m0, r0⟩) /\ ((n1 * 16 <= 140737488351232 /\ ∀ i, i < n1 -> f1 i = [st (gT (f1 i))]) /\ Sp.inR ⟨s1, l1, h1⟩ /\ Cg.inR ⟨b1, m1, r1⟩), .va (.c (.d (bo (Vl.rleq (⟨⟨⟨s0, l0, h0⟩, ⟨b0, m0, r0⟩⟩, ⟨z0, gN n0 f0⟩⟩ : Vl) (⟨⟨⟨s1, l1, h1⟩, ⟨b1, m1, r1⟩⟩, ⟨z1, gN n1 f1⟩⟩ : Vl))))), []⟩
 | _ => none
theorem fcRVLeq : FC Tryz.prog 83 FRVLeq := by
 intro xs pre r us h hp
 unfold FRVLeq at h
 split at h
 . rename_i s0 l0 h0 b0 m0 r0 z0 n0 f0 s1 l1 h1 b1 m1 r1 z1 n1 f1
   cases h
   obtain ⟨hp0, hp1⟩ := hp
   refine FCat.of_eq (as' := [.agg [.d (.v (.bool s0)), .d (.v (.int .i64 l0)), .d (.v (.int .i64 h0)), .d (.v (.bool b0)), .d (.v (.int .i64 m0)), .d (.v (.int .i64 r0)), .d (.v (.bool z0)), .d (.lst 1 n0 fun i => [st (gT (f0 i))])], .agg [.d (.v (.bool s1)), .d (.v (.int .i64 l1)), .d (.v (.int .i64 h1)), .d (.v (.bool b1)), .d (.v (.int .i64 m1)), .d (.v (.int .i64 r1)), .d (.v (.bool z1)), .d (.lst 1 n1 fun i => [st (gT (f1 i))])]]) ?_ rfl rfl ?_
   . repeat' (first | exact trivial | exact rfl | refine ⟨?_, ?_⟩ | fail)
     all_goals first | exact hp0.2 | exact hp1.2 | exact hp2.2 | (intro i hi; exact (hp0.2 i hi).1) | (intro i hi; exact (hp1.2 i hi).1) | (intro i hi; exact (hp2.2 i hi).1) | grind
   refine fcat tys_ok (l := [(27, ⟨[], FRVClean⟩), (130, ⟨[], FRSLeq⟩), (131, ⟨[], FRCLeq⟩), (132, ⟨[], FRNLeq⟩)]) ⟨fcRVClean, fcRSLeq, fcRCLeq, fcRNLeq, trivial⟩ Tryz.func83 rfl (by kernel_rfl) true ?_
   have hv0 : okV (⟨⟨⟨s0, l0, h0⟩, ⟨b0, m0, r0⟩⟩, ⟨z0, gN n0 fun i => [st (gT (f0 i))]⟩⟩ : Vl) := ⟨⟨(by rw [gN_length]; exact hp0.1.1), fun _ _ => rfl⟩, hp0.2⟩
   have hv1 : okV (⟨⟨⟨s1, l1, h1⟩, ⟨b1, m1, r1⟩⟩, ⟨z1, gN n1 fun i => [st (gT (f1 i))]⟩⟩ : Vl) := ⟨⟨(by rw [gN_length]; exact hp1.1.1), fun _ _ => rfl⟩, hp1.2⟩
   have ho0 : okV (⟨Ig.clean ⟨⟨s0, l0, h0⟩, ⟨b0, m0, r0⟩⟩, ⟨z0, cleanS (gN n0 fun i => [st (gT (f0 i))])⟩⟩ : Vl) := okV_rc hv0
   have ho1 : okV (⟨Ig.clean ⟨⟨s1, l1, h1⟩, ⟨b1, m1, r1⟩⟩, ⟨z1, cleanS (gN n1 fun i => [st (gT (f1 i))])⟩⟩ : Vl) := okV_rc hv1
   have hoo0 := okV_rc ho0
   have hoo1 := okV_rc ho1
   have hl0 : (cleanS (gN n0 fun i => [st (gT (f0 i))])).length <= n0 := by exact cleanS_len n0 f0
   have hl1 : (cleanS (gN n1 fun i => [st (gT (f1 i))])).length <= n1 := by exact cleanS_len n1 f1
   have hsj := Sp.join_inR ho0.2.1 ho1.2.1
   have hcj := Cg.join_inR ho0.2.2 ho1.2.2
   unfold okV at ho0 ho1 hoo0 hoo1
   dsimp only at ho0 ho1
   repeat' (first | exact trivial | (with_reducible first | exact ho0 | exact ho1 | exact ho0.1 | exact ho1.1 | exact ho0.2.1 | exact ho0.2.2 | exact ho1.2.1 | exact ho1.2.2 | exact hp0.1 | exact hp1.1 | exact hp0.2.1 | exact hp0.2.2 | exact hp1.2.1 | exact hp1.2.2 | exact hp0 | exact hp1 | exact hsj | exact hcj) | refine ⟨?_, ?_⟩ | intro _)
   all_goals first | (with_reducible first | apply qa | apply qb | apply qc | apply qd) | (conv => whnf)
   all_goals (try simp only [gN_lst] at *)
   all_goals first | rfl | exact rleq_1 (a := (⟨⟨⟨s0, l0, h0⟩, ⟨b0, m0, r0⟩⟩, ⟨z0, gN n0 fun i => [st (gT (f0 i))]⟩⟩ : Vl)) (b := (⟨⟨⟨s1, l1, h1⟩, ⟨b1, m1, r1⟩⟩, ⟨z1, gN n1 fun i => [st (gT (f1 i))]⟩⟩ : Vl)) ‹_› ‹_› | exact rleq_2 (a := (⟨⟨⟨s0, l0, h0⟩, ⟨b0, m0, r0⟩⟩, ⟨z0, gN n0 fun i => [st (gT (f0 i))]⟩⟩ : Vl)) (b := (⟨⟨⟨s1, l1, h1⟩, ⟨b1, m1, r1⟩⟩, ⟨z1, gN n1 fun i => [st (gT (f1 i))]⟩⟩ : Vl)) ‹_› ‹_› | exact rleq_3 (a := (⟨⟨⟨s0, l0, h0⟩, ⟨b0, m0, r0⟩⟩, ⟨z0, gN n0 fun i => [st (gT (f0 i))]⟩⟩ : Vl)) (b := (⟨⟨⟨s1, l1, h1⟩, ⟨b1, m1, r1⟩⟩, ⟨z1, gN n1 fun i => [st (gT (f1 i))]⟩⟩ : Vl)) ‹_› | (with_reducible first | exact hp0.1.1 | exact hp1.1.1 | exact ho0.1.1 | exact ho1.1.1)
 . cases h
def FRVJoin : List Ar -> Option Rs
 | [.agg [.d (.v (.bool s0)), .d (.v (.int .i64 l0)), .d (.v (.int .i64 h0)), .d (.v (.bool b0)), .d (.v (.int .i64 m0)), .d (.v (.int .i64 r0)), .d (.v (.bool z0)), .d (.lst 1 n0 f0)], .agg [.d (.v (.bool s1)), .d (.v (.int .i64 l1)), .d (.v (.int .i64 h1)), .d (.v (.bool b1)), .d (.v (.int .i64 m1)), .d (.v (.int .i64 r1)), .d (.v (.bool z1)), .d (.lst 1 n1 f1)]] => some ⟨((n0 * 16 <= 140737488351232 /\ ∀ i, i < n0 -> f0 i = [st (gT (f0 i))]) /\ Sp.inR ⟨s0, l0, h0⟩ /\ Cg.inR ⟨b0, m0, r0⟩) /\ ((n1 * 16 <= 140737488351232 /\ ∀ i, i < n1 -> f1 i = [st (gT (f1 i))]) /\ Sp.inR ⟨s1, l1, h1⟩ /\ Cg.inR ⟨b1, m1, r1⟩) /\ ((n0 + n1) * 16 <= 140737488351232), .va (Vl.ar (Vl.rjoin (⟨⟨⟨s0, l0, h0⟩, ⟨b0, m0, r0⟩⟩, ⟨z0, gN n0 f0⟩⟩ : Vl) (⟨⟨⟨s1, l1, h1⟩, ⟨b1, m1, r1⟩⟩, ⟨z1, gN n1 f1⟩⟩ : Vl))), []⟩
 | _ => none
theorem fcRVJoin : FC Tryz.prog 97 FRVJoin := by
 intro xs pre r us h hp
 unfold FRVJoin at h
 split at h
 . rename_i s0 l0 h0 b0 m0 r0 z0 n0 f0 s1 l1 h1 b1 m1 r1 z1 n1 f1
   cases h
   obtain ⟨hp0, hp1, hp2⟩ := hp
   refine FCat.of_eq (as' := [.agg [.d (.v (.bool s0)), .d (.v (.int .i64 l0)), .d (.v (.int .i64 h0)), .d (.v (.bool b0)), .d (.v (.int .i64 m0)), .d (.v (.int .i64 r0)), .d (.v (.bool z0)), .d (.lst 1 n0 fun i => [st (gT (f0 i))])], .agg [.d (.v (.bool s1)), .d (.v (.int .i64 l1)), .d (.v (.int .i64 h1)), .d (.v (.bool b1)), .d (.v (.int .i64 m1)), .d (.v (.int .i64 r1)), .d (.v (.bool z1)), .d (.lst 1 n1 fun i => [st (gT (f1 i))])]]) ?_ rfl rfl ?_
   . repeat' (first | exact trivial | exact rfl | refine ⟨?_, ?_⟩ | fail)
     all_goals first | exact hp0.2 | exact hp1.2 | exact hp2.2 | (intro i hi; exact (hp0.2 i hi).1) | (intro i hi; exact (hp1.2 i hi).1) | (intro i hi; exact (hp2.2 i hi).1) | grind
   refine fcat tys_ok (l := [(27, ⟨[], FRVClean⟩), (74, ⟨[], FRSJoin⟩), (147, ⟨[], FRCJoin⟩), (148, ⟨[], FRNJoin⟩)]) ⟨fcRVClean, fcRSJoin, fcRCJoin, fcRNJoin, trivial⟩ Tryz.func97 rfl (by kernel_rfl) true ?_
   have hv0 : okV (⟨⟨⟨s0, l0, h0⟩, ⟨b0, m0, r0⟩⟩, ⟨z0, gN n0 fun i => [st (gT (f0 i))]⟩⟩ : Vl) := ⟨⟨(by rw [gN_length]; exact hp0.1.1), fun _ _ => rfl⟩, hp0.2⟩
   have hv1 : okV (⟨⟨⟨s1, l1, h1⟩, ⟨b1, m1, r1⟩⟩, ⟨z1, gN n1 fun i => [st (gT (f1 i))]⟩⟩ : Vl) := ⟨⟨(by rw [gN_length]; exact hp1.1.1), fun _ _ => rfl⟩, hp1.2⟩
   have ho0 : okV (⟨Ig.clean ⟨⟨s0, l0, h0⟩, ⟨b0, m0, r0⟩⟩, ⟨z0, cleanS (gN n0 fun i => [st (gT (f0 i))])⟩⟩ : Vl) := okV_rc hv0
   have ho1 : okV (⟨Ig.clean ⟨⟨s1, l1, h1⟩, ⟨b1, m1, r1⟩⟩, ⟨z1, cleanS (gN n1 fun i => [st (gT (f1 i))])⟩⟩ : Vl) := okV_rc hv1
   have hoo0 := okV_rc ho0
   have hoo1 := okV_rc ho1
   have hl0 : (cleanS (gN n0 fun i => [st (gT (f0 i))])).length <= n0 := by exact cleanS_len n0 f0
   have hl1 : (cleanS (gN n1 fun i => [st (gT (f1 i))])).length <= n1 := by exact cleanS_len n1 f1
   have hsj := Sp.join_inR ho0.2.1 ho1.2.1
   have hcj := Cg.join_inR ho0.2.2 ho1.2.2
   unfold okV at ho0 ho1 hoo0 hoo1
   dsimp only at ho0 ho1
   have hsum : ((cleanS (gN n0 fun i => [st (gT (f0 i))])).length + (cleanS (gN n1 fun i => [st (gT (f1 i))])).length) * 16 <= 140737488351232 := by have := hp2; omega
   repeat' (first | exact trivial | (with_reducible first | exact ho0 | exact ho1 | exact ho0.1 | exact ho1.1 | exact ho0.2.1 | exact ho0.2.2 | exact ho1.2.1 | exact ho1.2.2 | exact hp0.1 | exact hp1.1 | exact hp0.2.1 | exact hp0.2.2 | exact hp1.2.1 | exact hp1.2.2 | exact hp0 | exact hp1 | exact hsj | exact hcj) | refine ⟨?_, ?_⟩ | intro _)
   all_goals first | (with_reducible first | apply qa | apply qb | apply qc | apply qd) | (conv => whnf)
   all_goals (try simp only [gN_lst] at *)
   all_goals first | rfl | (with_reducible first | exact hp0.1.1 | exact hp1.1.1 | exact ho0.1.1 | exact ho1.1.1 | exact hsum)
 . cases h
def FRVWiden : List Ar -> Option Rs
 | [.agg [.d (.v (.bool s0)), .d (.v (.int .i64 l0)), .d (.v (.int .i64 h0)), .d (.v (.bool b0)), .d (.v (.int .i64 m0)), .d (.v (.int .i64 r0)), .d (.v (.bool z0)), .d (.lst 1 n0 f0)], .agg [.d (.v (.bool s1)), .d (.v (.int .i64 l1)), .d (.v (.int .i64 h1)), .d (.v (.bool b1)), .d (.v (.int .i64 m1)), .d (.v (.int .i64 r1)), .d (.v (.bool z1)), .d (.lst 1 n1 f1)], .c (.d (.lst 1 n2 f2))] => some ⟨((n0 * 16 <= 140737488351232 /\ ∀ i, i < n0 -> f0 i = [st (gT (f0 i))]) /\ Sp.inR ⟨s0, l0, h0⟩ /\ Cg.inR ⟨b0, m0, r0⟩) /\ ((n1 * 16 <= 140737488351232 /\ ∀ i, i < n1 -> f1 i = [st (gT (f1 i))]) /\ Sp.inR ⟨s1, l1, h1⟩ /\ Cg.inR ⟨b1, m1, r1⟩) /\ (n2 <= 9223372036854775807 /\ ∀ i, i < n2 -> f2 i = [it (gI (f2 i))] /\ rI (gI (f2 i))) /\ ((n0 + n1) * 16 <= 140737488351232), .va (Vl.ar (Vl.rwiden (⟨⟨⟨s0, l0, h0⟩, ⟨b0, m0, r0⟩⟩, ⟨z0, gN n0 f0⟩⟩ : Vl) (⟨⟨⟨s1, l1, h1⟩, ⟨b1, m1, r1⟩⟩, ⟨z1, gN n1 f1⟩⟩ : Vl) (gL n2 f2))), []⟩
 | _ => none
theorem fcRVWiden : FC Tryz.prog 98 FRVWiden := by
 intro xs pre r us h hp
 unfold FRVWiden at h
 split at h
 . rename_i s0 l0 h0 b0 m0 r0 z0 n0 f0 s1 l1 h1 b1 m1 r1 z1 n1 f1 n2 f2
   cases h
   obtain ⟨hp0, hp1, hp2, hp3⟩ := hp
   refine FCat.of_eq (as' := [.agg [.d (.v (.bool s0)), .d (.v (.int .i64 l0)), .d (.v (.int .i64 h0)), .d (.v (.bool b0)), .d (.v (.int .i64 m0)), .d (.v (.int .i64 r0)), .d (.v (.bool z0)), .d (.lst 1 n0 fun i => [st (gT (f0 i))])], .agg [.d (.v (.bool s1)), .d (.v (.int .i64 l1)), .d (.v (.int .i64 h1)), .d (.v (.bool b1)), .d (.v (.int .i64 m1)), .d (.v (.int .i64 r1)), .d (.v (.bool z1)), .d (.lst 1 n1 fun i => [st (gT (f1 i))])], .c (.d (.lst 1 n2 fun i => [it (gI (f2 i))]))]) ?_ rfl rfl ?_
   . repeat' (first | exact trivial | exact rfl | refine ⟨?_, ?_⟩ | fail)
     all_goals first | exact hp0.2 | exact hp1.2 | exact hp2.2 | (intro i hi; exact (hp0.2 i hi).1) | (intro i hi; exact (hp1.2 i hi).1) | (intro i hi; exact (hp2.2 i hi).1) | grind
   refine fcat tys_ok (l := [(27, ⟨[], FRVClean⟩), (97, ⟨[], FRVJoin⟩), (149, ⟨[], FRSWiden⟩)]) ⟨fcRVClean, fcRVJoin, fcRSWiden, trivial⟩ Tryz.func98 rfl (by kernel_rfl) true ?_
   have hv0 : okV (⟨⟨⟨s0, l0, h0⟩, ⟨b0, m0, r0⟩⟩, ⟨z0, gN n0 fun i => [st (gT (f0 i))]⟩⟩ : Vl) := ⟨⟨(by rw [gN_length]; exact hp0.1.1), fun _ _ => rfl⟩, hp0.2⟩
   have hv1 : okV (⟨⟨⟨s1, l1, h1⟩, ⟨b1, m1, r1⟩⟩, ⟨z1, gN n1 fun i => [st (gT (f1 i))]⟩⟩ : Vl) := ⟨⟨(by rw [gN_length]; exact hp1.1.1), fun _ _ => rfl⟩, hp1.2⟩
   have ho0 : okV (⟨Ig.clean ⟨⟨s0, l0, h0⟩, ⟨b0, m0, r0⟩⟩, ⟨z0, cleanS (gN n0 fun i => [st (gT (f0 i))])⟩⟩ : Vl) := okV_rc hv0
   have ho1 : okV (⟨Ig.clean ⟨⟨s1, l1, h1⟩, ⟨b1, m1, r1⟩⟩, ⟨z1, cleanS (gN n1 fun i => [st (gT (f1 i))])⟩⟩ : Vl) := okV_rc hv1
   have hoo0 := okV_rc ho0
   have hoo1 := okV_rc ho1
   have hl0 : (cleanS (gN n0 fun i => [st (gT (f0 i))])).length <= n0 := by exact cleanS_len n0 f0
   have hl1 : (cleanS (gN n1 fun i => [st (gT (f1 i))])).length <= n1 := by exact cleanS_len n1 f1
   have hsj := Sp.join_inR ho0.2.1 ho1.2.1
   have hcj := Cg.join_inR ho0.2.2 ho1.2.2
   unfold okV at ho0 ho1 hoo0 hoo1
   dsimp only at ho0 ho1
   have hsum : ((cleanS (gN n0 fun i => [st (gT (f0 i))])).length + (cleanS (gN n1 fun i => [st (gT (f1 i))])).length) * 16 <= 140737488351232 := by have := hp3; omega
   have hll0 : (cleanS (cleanS (gN n0 fun i => [st (gT (f0 i))]))).length <= n0 := by have := cleanS_len (cleanS (gN n0 fun i => [st (gT (f0 i))])).length (fun i => [st (atS (cleanS (gN n0 fun i => [st (gT (f0 i))])) i)]); rw [gN_lst] at this; exact Nat.le_trans this hl0
   have hll1 : (cleanS (cleanS (gN n1 fun i => [st (gT (f1 i))]))).length <= n1 := by have := cleanS_len (cleanS (gN n1 fun i => [st (gT (f1 i))])).length (fun i => [st (atS (cleanS (gN n1 fun i => [st (gT (f1 i))])) i)]); rw [gN_lst] at this; exact Nat.le_trans this hl1
   have hws := Sp.widen_inR (l := gL n2 fun i => [it (gI (f2 i))]) ho0.2.1 ho1.2.1 (fun x hx => gL_r hp2.2 x hx)
   have hsj2 := Sp.join_inR hoo0.2.1 hoo1.2.1
   have hcj2 := Cg.join_inR hoo0.2.2 hoo1.2.2
   repeat' (first | exact trivial | (with_reducible first | exact ho0 | exact ho1 | exact ho0.1 | exact ho1.1 | exact ho0.2.1 | exact ho0.2.2 | exact ho1.2.1 | exact ho1.2.2 | exact hp0.1 | exact hp1.1 | exact hp0.2.1 | exact hp0.2.2 | exact hp1.2.1 | exact hp1.2.2 | exact hp0 | exact hp1 | exact hsj | exact hcj | exact hws | exact hp2 | exact hp2.1 | exact hsj2 | exact hcj2) | refine ⟨?_, ?_⟩ | intro _)
   all_goals first | (with_reducible first | apply qa | apply qb | apply qc | apply qd) | (conv => whnf)
   all_goals (try simp only [gN_lst] at *)
   all_goals first | rfl | (exact (hp2.2 _ ‹_›).2.1) | (exact (hp2.2 _ ‹_›).2.2) | (with_reducible first | exact hp2.1 | exact hp0.1.1 | exact hp1.1.1 | exact ho0.1.1 | exact ho1.1.1 | exact hsum)
 . cases h
def FRVNarrow : List Ar -> Option Rs
 | [.agg [.d (.v (.bool s0)), .d (.v (.int .i64 l0)), .d (.v (.int .i64 h0)), .d (.v (.bool b0)), .d (.v (.int .i64 m0)), .d (.v (.int .i64 r0)), .d (.v (.bool z0)), .d (.lst 1 n0 f0)], .agg [.d (.v (.bool s1)), .d (.v (.int .i64 l1)), .d (.v (.int .i64 h1)), .d (.v (.bool b1)), .d (.v (.int .i64 m1)), .d (.v (.int .i64 r1)), .d (.v (.bool z1)), .d (.lst 1 n1 f1)]] => some ⟨((n0 * 16 <= 140737488351232 /\ ∀ i, i < n0 -> f0 i = [st (gT (f0 i))]) /\ Sp.inR ⟨s0, l0, h0⟩ /\ Cg.inR ⟨b0, m0, r0⟩) /\ ((n1 * 16 <= 140737488351232 /\ ∀ i, i < n1 -> f1 i = [st (gT (f1 i))]) /\ Sp.inR ⟨s1, l1, h1⟩ /\ Cg.inR ⟨b1, m1, r1⟩), .va (Vl.ar (Vl.rnarrow (⟨⟨⟨s0, l0, h0⟩, ⟨b0, m0, r0⟩⟩, ⟨z0, gN n0 f0⟩⟩ : Vl) (⟨⟨⟨s1, l1, h1⟩, ⟨b1, m1, r1⟩⟩, ⟨z1, gN n1 f1⟩⟩ : Vl))), []⟩
 | _ => none
theorem fcRVNarrow : FC Tryz.prog 99 FRVNarrow := by
 intro xs pre r us h hp
 unfold FRVNarrow at h
 split at h
 . rename_i s0 l0 h0 b0 m0 r0 z0 n0 f0 s1 l1 h1 b1 m1 r1 z1 n1 f1
   cases h
   obtain ⟨hp0, hp1⟩ := hp
   refine FCat.of_eq (as' := [.agg [.d (.v (.bool s0)), .d (.v (.int .i64 l0)), .d (.v (.int .i64 h0)), .d (.v (.bool b0)), .d (.v (.int .i64 m0)), .d (.v (.int .i64 r0)), .d (.v (.bool z0)), .d (.lst 1 n0 fun i => [st (gT (f0 i))])], .agg [.d (.v (.bool s1)), .d (.v (.int .i64 l1)), .d (.v (.int .i64 h1)), .d (.v (.bool b1)), .d (.v (.int .i64 m1)), .d (.v (.int .i64 r1)), .d (.v (.bool z1)), .d (.lst 1 n1 fun i => [st (gT (f1 i))])]]) ?_ rfl rfl ?_
   . repeat' (first | exact trivial | exact rfl | refine ⟨?_, ?_⟩ | fail)
     all_goals first | exact hp0.2 | exact hp1.2 | exact hp2.2 | (intro i hi; exact (hp0.2 i hi).1) | (intro i hi; exact (hp1.2 i hi).1) | (intro i hi; exact (hp2.2 i hi).1) | grind
   refine fcat tys_ok (l := [(27, ⟨[], FRVClean⟩), (83, ⟨[], FRVLeq⟩), (84, ⟨[], FRVNone⟩), (150, ⟨[], FRSNarrow⟩)]) ⟨fcRVClean, fcRVLeq, fcRVNone, fcRSNarrow, trivial⟩ Tryz.func99 rfl (by kernel_rfl) true ?_
   have hv0 : okV (⟨⟨⟨s0, l0, h0⟩, ⟨b0, m0, r0⟩⟩, ⟨z0, gN n0 fun i => [st (gT (f0 i))]⟩⟩ : Vl) := ⟨⟨(by rw [gN_length]; exact hp0.1.1), fun _ _ => rfl⟩, hp0.2⟩
   have hv1 : okV (⟨⟨⟨s1, l1, h1⟩, ⟨b1, m1, r1⟩⟩, ⟨z1, gN n1 fun i => [st (gT (f1 i))]⟩⟩ : Vl) := ⟨⟨(by rw [gN_length]; exact hp1.1.1), fun _ _ => rfl⟩, hp1.2⟩
   have ho0 : okV (⟨Ig.clean ⟨⟨s0, l0, h0⟩, ⟨b0, m0, r0⟩⟩, ⟨z0, cleanS (gN n0 fun i => [st (gT (f0 i))])⟩⟩ : Vl) := okV_rc hv0
   have ho1 : okV (⟨Ig.clean ⟨⟨s1, l1, h1⟩, ⟨b1, m1, r1⟩⟩, ⟨z1, cleanS (gN n1 fun i => [st (gT (f1 i))])⟩⟩ : Vl) := okV_rc hv1
   have hoo0 := okV_rc ho0
   have hoo1 := okV_rc ho1
   have hl0 : (cleanS (gN n0 fun i => [st (gT (f0 i))])).length <= n0 := by exact cleanS_len n0 f0
   have hl1 : (cleanS (gN n1 fun i => [st (gT (f1 i))])).length <= n1 := by exact cleanS_len n1 f1
   have hsj := Sp.join_inR ho0.2.1 ho1.2.1
   have hcj := Cg.join_inR ho0.2.2 ho1.2.2
   unfold okV at ho0 ho1 hoo0 hoo1
   dsimp only at ho0 ho1
   have hns := Sp.narrow_inR ho0.2.1 ho1.2.1
   repeat' (first | exact trivial | (with_reducible first | exact ho0 | exact ho1 | exact ho0.1 | exact ho1.1 | exact ho0.2.1 | exact ho0.2.2 | exact ho1.2.1 | exact ho1.2.2 | exact hp0.1 | exact hp1.1 | exact hp0.2.1 | exact hp0.2.2 | exact hp1.2.1 | exact hp1.2.2 | exact hp0 | exact hp1 | exact hsj | exact hcj | exact hns) | refine ⟨?_, ?_⟩ | intro _)
   all_goals first | (with_reducible first | apply qa | apply qb | apply qc | apply qd) | (conv => whnf)
   all_goals (try simp only [gN_lst] at *)
   all_goals first | rfl | (with_reducible first | exact hp0.1.1 | exact hp1.1.1 | exact ho0.1.1 | exact ho1.1.1) | (have e := rnarrow_1 (a := (⟨⟨⟨s0, l0, h0⟩, ⟨b0, m0, r0⟩⟩, ⟨z0, gN n0 fun i => [st (gT (f0 i))]⟩⟩ : Vl)) (b := (⟨⟨⟨s1, l1, h1⟩, ⟨b1, m1, r1⟩⟩, ⟨z1, gN n1 fun i => [st (gT (f1 i))]⟩⟩ : Vl)) ‹_›; first | (have e2 := congrArg (fun v : Vl => Value.bool v.i.s.some) e.symm; exact e2) | (have e2 := congrArg (fun v : Vl => Value.int .i64 v.i.s.lo) e.symm; exact e2) | (have e2 := congrArg (fun v : Vl => Value.int .i64 v.i.s.hi) e.symm; exact e2) | (have e2 := congrArg (fun v : Vl => Value.bool v.i.c.some) e.symm; exact e2) | (have e2 := congrArg (fun v : Vl => Value.int .i64 v.i.c.m) e.symm; exact e2) | (have e2 := congrArg (fun v : Vl => Value.int .i64 v.i.c.r) e.symm; exact e2) | (have e2 := congrArg (fun v : Vl => Value.bool v.t.null) e.symm; exact e2) | (have e2 := congrArg (fun v : Vl => v.t.names.length) e.symm; exact e2) | (have e2 := congrArg (fun v : Vl => v.t.names.length) e; exact e2) | (have e2 := congrArg (fun v : Vl => [st (atS v.t.names (by assumption))]) e.symm; exact e2) | fail) | (have e := rnarrow_2 (a := (⟨⟨⟨s0, l0, h0⟩, ⟨b0, m0, r0⟩⟩, ⟨z0, gN n0 fun i => [st (gT (f0 i))]⟩⟩ : Vl)) (b := (⟨⟨⟨s1, l1, h1⟩, ⟨b1, m1, r1⟩⟩, ⟨z1, gN n1 fun i => [st (gT (f1 i))]⟩⟩ : Vl)) ‹_› ‹_›; first | (have e2 := congrArg (fun v : Vl => Value.bool v.i.s.some) e.symm; exact e2) | (have e2 := congrArg (fun v : Vl => Value.int .i64 v.i.s.lo) e.symm; exact e2) | (have e2 := congrArg (fun v : Vl => Value.int .i64 v.i.s.hi) e.symm; exact e2) | (have e2 := congrArg (fun v : Vl => Value.bool v.i.c.some) e.symm; exact e2) | (have e2 := congrArg (fun v : Vl => Value.int .i64 v.i.c.m) e.symm; exact e2) | (have e2 := congrArg (fun v : Vl => Value.int .i64 v.i.c.r) e.symm; exact e2) | (have e2 := congrArg (fun v : Vl => Value.bool v.t.null) e.symm; exact e2) | (have e2 := congrArg (fun v : Vl => v.t.names.length) e.symm; exact e2) | (have e2 := congrArg (fun v : Vl => v.t.names.length) e; exact e2) | (have e2 := congrArg (fun v : Vl => [st (atS v.t.names (by assumption))]) e.symm; exact e2) | fail) | (have e := rnarrow_3 (a := (⟨⟨⟨s0, l0, h0⟩, ⟨b0, m0, r0⟩⟩, ⟨z0, gN n0 fun i => [st (gT (f0 i))]⟩⟩ : Vl)) (b := (⟨⟨⟨s1, l1, h1⟩, ⟨b1, m1, r1⟩⟩, ⟨z1, gN n1 fun i => [st (gT (f1 i))]⟩⟩ : Vl)) ‹_› ‹_› ‹_›; first | (have e2 := congrArg (fun v : Vl => Value.bool v.i.s.some) e.symm; exact e2) | (have e2 := congrArg (fun v : Vl => Value.int .i64 v.i.s.lo) e.symm; exact e2) | (have e2 := congrArg (fun v : Vl => Value.int .i64 v.i.s.hi) e.symm; exact e2) | (have e2 := congrArg (fun v : Vl => Value.bool v.i.c.some) e.symm; exact e2) | (have e2 := congrArg (fun v : Vl => Value.int .i64 v.i.c.m) e.symm; exact e2) | (have e2 := congrArg (fun v : Vl => Value.int .i64 v.i.c.r) e.symm; exact e2) | (have e2 := congrArg (fun v : Vl => Value.bool v.t.null) e.symm; exact e2) | (have e2 := congrArg (fun v : Vl => v.t.names.length) e.symm; exact e2) | (have e2 := congrArg (fun v : Vl => v.t.names.length) e; exact e2) | (have e2 := congrArg (fun v : Vl => [st (atS v.t.names (by assumption))]) e.symm; exact e2) | fail) | (have e := rnarrow_4 (a := (⟨⟨⟨s0, l0, h0⟩, ⟨b0, m0, r0⟩⟩, ⟨z0, gN n0 fun i => [st (gT (f0 i))]⟩⟩ : Vl)) (b := (⟨⟨⟨s1, l1, h1⟩, ⟨b1, m1, r1⟩⟩, ⟨z1, gN n1 fun i => [st (gT (f1 i))]⟩⟩ : Vl)) ‹_› ‹_› ‹_›; first | (have e2 := congrArg (fun v : Vl => Value.bool v.i.s.some) e.symm; exact e2) | (have e2 := congrArg (fun v : Vl => Value.int .i64 v.i.s.lo) e.symm; exact e2) | (have e2 := congrArg (fun v : Vl => Value.int .i64 v.i.s.hi) e.symm; exact e2) | (have e2 := congrArg (fun v : Vl => Value.bool v.i.c.some) e.symm; exact e2) | (have e2 := congrArg (fun v : Vl => Value.int .i64 v.i.c.m) e.symm; exact e2) | (have e2 := congrArg (fun v : Vl => Value.int .i64 v.i.c.r) e.symm; exact e2) | (have e2 := congrArg (fun v : Vl => Value.bool v.t.null) e.symm; exact e2) | (have e2 := congrArg (fun v : Vl => v.t.names.length) e.symm; exact e2) | (have e2 := congrArg (fun v : Vl => v.t.names.length) e; exact e2) | (have e2 := congrArg (fun v : Vl => [st (atS v.t.names (by assumption))]) e.symm; exact e2) | fail)
 . cases h
theorem ig_clean2 (i : Ig) : i.clean.clean = i.clean := tidy_fix (clean_tidy i)
theorem rclean2 (v : Vl) : v.rclean.rclean = v.rclean := by
 unfold Vl.rclean; rw [ig_clean2, cleanS_idem]
theorem widen_eq (a b : Vl) (l : List Int) : Vl.widen a b l = Vl.rwiden a b l := by
 unfold Vl.widen Vl.rwiden Vl.rjoin
 rw [rclean2, rclean2, of_rclean, of_rclean]
 simp only [Vl.rclean, ofS_eq, cleanS_idem]
theorem leq_eq (a b : Vl) : Vl.leq a b = Vl.rleq a.rclean b.rclean := by
 unfold Vl.leq Vl.rleq Ig.leq
 rw [rclean2, rclean2, of_rclean, of_rclean]
 simp only [Vl.rclean, ofS_eq, cleanS_idem]
theorem tidy_none {i : Ig} (h : i.tidy) : i.none = !i.s.some := by
 unfold Ig.none Sp.none
 rcases h with rfl | ⟨⟨h1, h2⟩, h3, _⟩
 . rfl
 . rw [h1, h2]; simp; omega
theorem none_eq (b : Vl) : Vl.none b = Vl.rnone b.rclean := by
 unfold Vl.none Vl.rnone
 rw [rclean2, of_rclean, tidy_none (i := b.rclean.i) (clean_tidy b.i)]
 congr 1
 simp only [Vl.rclean, ofS_eq, cleanS_idem]
 have key : ∀ (x : Bool) (l : List ByteArray), (!x && decide (l = [])) = decide ((l.length : Int) + (if x = true then 1 else 0) = 0) := by
  intro x l
  cases x
  . simp
  . simp; omega
 exact key _ _
theorem tidy_all {i : Ig} (h : i.tidy) : Cg.eq i.c (Cg.of 1 0) = decide (i.c.m = 1) := by
 have e : Cg.of 1 0 = ⟨true, 1, 0⟩ := rfl
 rw [e]; unfold Cg.eq
 rcases h with rfl | ⟨⟨h1, h2⟩, h3, h4⟩
 . rfl
 . rw [h2, Bool.eq_iff_iff]
   simp only [Bool.and_eq_true, beq_iff_eq, decide_eq_true_eq, true_and]
   constructor
   . exact fun h => h.1
   . intro h
     have := h4.2 (by omega)
     omega
theorem narrow_eq (a b : Vl) : Vl.narrow a b = Vl.rnarrow a b := by
 unfold Vl.narrow Vl.rnarrow
 rw [leq_eq, none_eq, of_rclean, of_rclean, tidy_all (i := a.rclean.i) (clean_tidy a.i)]
 split
 . rfl
 . split
   . rfl
   . simp only [decide_eq_true_eq]
     unfold Vl.rclean
     simp only [cleanS_idem]
theorem w1 (a b : Vl) (l : List Int) : Vl.exact (Vl.widen a b l) (Vl.rwiden a b l) = true := by rw [widen_eq]; exact exact_refl _
theorem w2 (a b : Vl) : Vl.exact (Vl.narrow a b) (Vl.rnarrow a b) = true := by rw [narrow_eq]; exact exact_refl _
inductive DvE : DV -> DV -> Prop
 | refl (x : DV) : DvE x x
 | nil {sz : Nat} {f : Nat -> List DV} : DvE (.v (.slice none 0 0)) (.lst sz 0 f)
 | lst {sz n : Nat} {f g : Nat -> List DV} : (∀ i, i < n -> (f i).length = (g i).length) -> (∀ (i j : Nat) (x y : DV), i < n -> (f i)[j]? = some x -> (g i)[j]? = some y -> DvE x y) -> DvE (.lst sz n f) (.lst sz n g)
theorem DvE.rep {S : Nat -> Prop} {w : World} {x y : DV} (h : DvE x y) : ∀ {v : Value}, RepD S w x v -> RepD S w y v := by
 induction h with
 | refl x => exact fun h => h
 | nil => intro v hx; cases hx; exact .nil
 | @lst sz n f g hl hr ih =>
   intro v hx
   cases hx with
   | nil => exact .nil
   | lst c h1 h2 h3 h4 h5 =>
     refine .lst c h1 (fun i hi => by rw [<- hl i hi]; exact h2 i hi) h3 (fun i j hi hj => ?_) h5
     have e1 : j < (f i).length := by rw [h2 i hi]; exact hj
     have e2 : j < (g i).length := by rw [<- hl i hi]; exact e1
     have h := h4 i j hi hj
     rw [List.getD_eq_getElem?_getD, List.getElem?_eq_getElem e1] at h
     rw [List.getD_eq_getElem?_getD, List.getElem?_eq_getElem e2]
     exact ih i j _ _ hi (List.getElem?_eq_getElem e1) (List.getElem?_eq_getElem e2) h
def rowE (x y : List DV) : Prop := x.length = y.length /\ ∀ (j : Nat) a b, x[j]? = some a -> y[j]? = some b -> DvE a b
theorem DvE.rows {sz n : Nat} {f g : Nat -> List DV} (h : ∀ i, i < n -> rowE (f i) (g i)) : DvE (.lst sz n f) (.lst sz n g) := .lst (fun i hi => (h i hi).1) fun i j x y hi => (h i hi).2 j x y
def icE : Ic -> Ic -> Prop
 | .d x, .d y => DvE x y
 | .ow sz n f, .ow sz' n' g => sz = sz' /\ n = n' /\ ∀ i, i < n -> rowE (f i) (g i)
 | _, _ => False
def icsE : List Ic -> List Ic -> Prop
 | [], [] => True
 | x :: xs, y :: ys => icE x y /\ icsE xs ys
 | _, _ => False
def arE : Ar -> Ar -> Prop
 | .c x, .c y => icE x y
 | .agg xs, .agg ys => icsE xs ys
 | .rp cs, .rp cs' => cs = cs'
 | .fv g, .fv g' => g = g'
 | _, _ => False
def arsE : List Ar -> List Ar -> Prop
 | [], [] => True
 | x :: xs, y :: ys => arE x y /\ arsE xs ys
 | _, _ => False
theorem RowRep.deep {S : Nat -> Prop} {w : World} {sz n : Nat} {f g : Nat -> List DV} {l : Go.Sx.Loc} (h : ∀ i, i < n -> rowE (f i) (g i)) (hr : RowRep S w sz n f l) : RowRep S w sz n g l := by
 cases l with
 | virt => exact hr
 | «at» b m =>
   obtain ⟨arr, e, h1, h2, h3, h4, h5⟩ := hr
   refine ⟨arr, e, h1, h2, h3, fun i hi => by rw [<- (h i hi).1]; exact h4 i hi, fun i j hi hj => ?_⟩
   have e1 : j < (f i).length := by rw [h4 i hi]; exact hj
   have e2 : j < (g i).length := by rw [<- (h i hi).1]; exact e1
   have h6 := h5 i j hi hj
   rw [List.getD_eq_getElem?_getD, List.getElem?_eq_getElem e1] at h6
   rw [List.getD_eq_getElem?_getD, List.getElem?_eq_getElem e2]
   exact ((h i hi).2 j _ _ (List.getElem?_eq_getElem e1) (List.getElem?_eq_getElem e2)).rep h6
theorem icsE.rep {S : Nat -> Prop} {w : World} : ∀ {xs ys : List Ic} {vs : List Value} {ls : List Go.Sx.Loc}, icsE xs ys -> RepIcs S w xs vs ls -> RepIcs S w ys vs ls
 | [], [], vs, ls, _, h => h
 | .d x :: xs, .d y :: ys, [], ls, _, h => by simp [RepIcs] at h
 | .d x :: xs, .d y :: ys, v :: vs, ls, h, h' => by
   simp only [RepIcs] at h' ⊢
   exact ⟨DvE.rep h.1 h'.1, icsE.rep h.2 h'.2⟩
 | .ow _ _ _ :: xs, .ow _ _ _ :: ys, [], _, _, h => by simp [RepIcs] at h
 | .ow _ _ _ :: xs, .ow _ _ _ :: ys, _ :: _, [], _, h => by simp [RepIcs] at h
 | .ow sz n f :: xs, .ow sz' n' g :: ys, v :: vs, l :: ls, h, h' => by
   simp only [RepIcs] at h' ⊢
   obtain ⟨⟨rfl, rfl, h1⟩, h2⟩ := h
   exact ⟨h'.1, RowRep.deep h1 h'.2.1, icsE.rep h2 h'.2.2⟩
 | [], _ :: _, _, _, h, _ => h.elim
 | _ :: _, [], _, _, h, _ => h.elim
 | .d _ :: _, .ow _ _ _ :: _, _, _, h, _ => h.1.elim
 | .ow _ _ _ :: _, .d _ :: _, _, _, h, _ => h.1.elim
theorem arE.rep {P : Program} {S : Nat -> Prop} {w : World} {x y : Ar} {v : Value} {ls : List Go.Sx.Loc} (h : arE x y) (h' : RepAr P S w x v ls) : RepAr P S w y v ls := by
 cases x <;> cases y <;> first | exact h.elim | skip
 . exact icsE.rep (xs := [_]) (ys := [_]) ⟨h, trivial⟩ h'
 . obtain ⟨arr, e, h'⟩ := h'; exact ⟨arr, e, icsE.rep h h'⟩
 . have : _ = _ := h; subst this; exact h'
 . have : _ = _ := h; subst this; exact h'
theorem arsE.rep {P : Program} {S : Nat -> Prop} {w : World} : ∀ {xs ys : List Ar} {vs : List Value} {ls : List Go.Sx.Loc}, arsE xs ys -> RepArs P S w xs vs ls -> RepArs P S w ys vs ls
 | [], [], _, _, _, h => h
 | [], _ :: _, _, _, h, _ => h.elim
 | _ :: _, [], _, _, h, _ => h.elim
 | x :: xs, y :: ys, [], _, _, h => by simp [RepArs] at h
 | x :: xs, y :: ys, v :: vs, ls, h, h' => by
   obtain ⟨l1, l2, e, h1, h2⟩ := h'
   exact ⟨l1, l2, e, arE.rep h.1 h1, arsE.rep h.2 h2⟩
theorem icsE.rows : ∀ {xs ys : List Ic}, icsE xs ys -> icRows xs = icRows ys
 | [], [], _ => rfl
 | .d _ :: xs, .d _ :: ys, h => icsE.rows (xs := xs) (ys := ys) h.2
 | .ow _ _ _ :: xs, .ow _ _ _ :: ys, h => by obtain ⟨⟨rfl, rfl, _⟩, h2⟩ := h; simp only [icRows, icsE.rows h2]
 | [], _ :: _, h => h.elim
 | _ :: _, [], h => h.elim
 | .d _ :: _, .ow _ _ _ :: _, h => h.1.elim
 | .ow _ _ _ :: _, .d _ :: _, h => h.1.elim
theorem arsE.rows : ∀ {xs ys : List Ar}, arsE xs ys -> arsRows xs = arsRows ys
 | [], [], _ => rfl
 | [], _ :: _, h => h.elim
 | _ :: _, [], h => h.elim
 | x :: xs, y :: ys, h => by
   have e1 : arRows x = arRows y := by
    have h1 := h.1
    cases x <;> cases y <;> first | exact h1.elim | rfl | skip
    . exact icsE.rows (xs := [_]) (ys := [_]) ⟨h1, trivial⟩
    . exact icsE.rows h1
   simp only [arsRows, e1, arsE.rows h.2]
theorem FCat.deep {P : Program} {f : Nat} {xs ys : List Ar} {r : Rt} {us : List (Option (Nat -> List DV))} (he : arsE xs ys) (h : FCat P f ys r us) : FCat P f xs r us := by
 intro S w vals ls hS hr hsep
 have := h S w vals ls hS (he.rep hr) hsep
 rw [<- he.rows] at this
 exact this
structure Bd where
 name : ByteArray
 v : Vl
instance : Inhabited Bd := ⟨⟨ByteArray.empty, Vl.zero⟩⟩
abbrev bdC (b : Bd) : List DV := [st b.name, bo b.v.i.s.some, it b.v.i.s.lo, it b.v.i.s.hi, bo b.v.i.c.some, it b.v.i.c.m, it b.v.i.c.r, bo b.v.t.null, lst b.v.t.names]
def atB (l : List Bd) (i : Nat) : Bd := l.getD i default
abbrev rwB (l : List Bd) : Nat -> List DV := fun i => bdC (atB l i)
abbrev lstB (l : List Bd) : DV := .lst 9 l.length (rwB l)
structure En where
 live : Bool
 binds : List Bd
abbrev En.ar (e : En) : Ar := .agg [.d (bo e.live), .d (lstB e.binds)]
def gS9 (l : List DV) : ByteArray := match l[(0 : Nat)]? with
 | some (.v (.string s)) => s
 | _ => ByteArray.empty
def gB9 (l : List DV) (j : Nat) : Bool := match l[j]? with
 | some (.v (.bool b)) => b
 | _ => false
def gI9 (l : List DV) (j : Nat) : Int := match l[j]? with
 | some (.v (.int _ n)) => n
 | _ => 0
def gn9 (l : List DV) : Nat := match l[(8 : Nat)]? with
 | some (.lst _ n _) => n
 | _ => 0
def gf9 (l : List DV) : Nat -> List DV := match l[(8 : Nat)]? with
 | some (.lst _ _ f) => f
 | _ => fun _ => []
def gB (l : List DV) : Bd := ⟨gS9 l, ⟨⟨⟨gB9 l 1, gI9 l 2, gI9 l 3⟩, ⟨gB9 l 4, gI9 l 5, gI9 l 6⟩⟩, ⟨gB9 l 7, gN (gn9 l) (gf9 l)⟩⟩⟩
abbrev rowM9 (l : List DV) : List DV := [st (gS9 l), bo (gB9 l 1), it (gI9 l 2), it (gI9 l 3), bo (gB9 l 4), it (gI9 l 5), it (gI9 l 6), bo (gB9 l 7), .lst 1 (gn9 l) (gf9 l)]
def okB (b : Bd) : Prop := okV b.v
abbrev rowZ9 (l : List DV) : List DV := [st (gS9 l), bo (gB9 l 1), it (gI9 l 2), it (gI9 l 3), bo (gB9 l 4), it (gI9 l 5), it (gI9 l 6), bo (gB9 l 7), .v (.slice none 0 0)]
def rowOkB (l : List DV) : Prop := (l = rowM9 l \/ l = rowZ9 l) /\ (∀ i, i < gn9 l -> gf9 l i = [st (gT (gf9 l i))]) /\ okB (gB l)
theorem gB_bdC (b : Bd) : gB (bdC b) = b := by
 obtain ⟨n, ⟨⟨⟨a1, a2, a3⟩, ⟨c1, c2, c3⟩⟩, ⟨z, l⟩⟩⟩ := b
 show Bd.mk n ⟨⟨⟨a1, a2, a3⟩, ⟨c1, c2, c3⟩⟩, ⟨z, gN l.length (fun i => [st (atS l i)])⟩⟩ = _
 rw [gN_lst]
theorem rowOkB_bdC {b : Bd} (h : okB b) : rowOkB (bdC b) := ⟨.inl rfl, fun _ _ => rfl, by rw [gB_bdC]; exact h⟩
def rowSB (l : List DV) : Prop := (l = rowM9 l \/ l = rowZ9 l) /\ ∀ i, i < gn9 l -> gf9 l i = [st (gT (gf9 l i))]
theorem rowSB_bdC (b : Bd) : rowSB (bdC b) := ⟨.inl rfl, fun _ _ => rfl⟩
theorem rowE_gS {l : List DV} (h : rowSB l) : rowE l (bdC (gB l)) := by
 obtain ⟨h1, h2⟩ := h
 have key : ∀ y, DvE y (.lst 1 (gN (gn9 l) (gf9 l)).length fun i => [st (atS (gN (gn9 l) (gf9 l)) i)]) -> rowE [st (gS9 l), bo (gB9 l 1), it (gI9 l 2), it (gI9 l 3), bo (gB9 l 4), it (gI9 l 5), it (gI9 l 6), bo (gB9 l 7), y] (bdC (gB l)) := by
  intro y hy
  refine ⟨rfl, ?_⟩
  intro j a b ha hb
  match j with
  | 0 => cases ha; cases hb; exact .refl _
  | 1 => cases ha; cases hb; exact .refl _
  | 2 => cases ha; cases hb; exact .refl _
  | 3 => cases ha; cases hb; exact .refl _
  | 4 => cases ha; cases hb; exact .refl _
  | 5 => cases ha; cases hb; exact .refl _
  | 6 => cases ha; cases hb; exact .refl _
  | 7 => cases ha; cases hb; exact .refl _
  | 8 => cases ha; cases hb; exact hy
  | j + 9 => simp at ha
 rcases h1 with h1 | h1
 . have e : rowE (rowM9 l) (bdC (gB l)) := key (.lst 1 (gn9 l) (gf9 l)) (by
    rw [gN_length]
    refine .rows fun i hi => ?_
    rw [h2 i hi, atS_gN hi]
    exact ⟨rfl, fun j a b ha hb => by rw [ha] at hb; cases hb; exact .refl _⟩)
   rw [<- h1] at e; exact e
 . have h0 : gn9 l = 0 := by rw [h1]; rfl
   have e : rowE (rowZ9 l) (bdC (gB l)) := key _ (by rw [gN_length, h0]; exact .nil)
   rw [<- h1] at e; exact e
theorem rowE_gB {l : List DV} (h : rowOkB l) : rowE l (bdC (gB l)) := rowE_gS ⟨h.1, h.2.1⟩
def gBs (n : Nat) (f : Nat -> List DV) : List Bd := (List.range n).map fun i => gB (f i)
theorem gBs_length (n : Nat) (f : Nat -> List DV) : (gBs n f).length = n := by simp [gBs]
theorem atB_gBs {n i : Nat} {f : Nat -> List DV} (h : i < n) : atB (gBs n f) i = gB (f i) := by
 simp [atB, gBs, List.getD_eq_getElem?_getD, h]
theorem gBs_row (l : List Bd) : gBs l.length (rwB l) = l := by
 unfold gBs
 apply List.ext_getElem
 . simp
 . intro i h1 h2; simp [gB_bdC, atB, List.getD_eq_getElem?_getD, h2]
theorem canonB {n : Nat} {f : Nat -> List DV} (h : ∀ i, i < n -> rowOkB (f i)) : DvE (.lst 9 n f) (.lst 9 n (rwB (gBs n f))) :=
 .rows fun i hi => by show rowE (f i) (bdC (atB (gBs n f) i)); rw [atB_gBs hi]; exact rowE_gB (h i hi)
theorem canonBo {n : Nat} {f : Nat -> List DV} (h : ∀ i, i < n -> rowOkB (f i)) : icE (.ow 9 n f) (.ow 9 n (rwB (gBs n f))) :=
 ⟨rfl, rfl, fun i hi => by show rowE (f i) (bdC (atB (gBs n f) i)); rw [atB_gBs hi]; exact rowE_gB (h i hi)⟩
theorem okB_at {n : Nat} {f : Nat -> List DV} (h : ∀ i, i < n -> rowOkB (f i)) (i : Nat) (hi : i < n) : okB (atB (gBs n f) i) := by rw [atB_gBs hi]; exact (h i hi).2.2
theorem snocRec {α : Type} {p : List α -> Prop} (h0 : p []) (h1 : ∀ l x, p l -> p (l ++ [x])) (l : List α) : p l := by
 have : ∀ m : List α, p m.reverse := by
  intro m
  induction m with
  | nil => exact h0
  | cons x m ih => rw [List.reverse_cons]; exact h1 _ _ ih
 have := this l.reverse
 rwa [List.reverse_reverse] at this
structure Wk {α : Type} (lt : α -> α -> Bool) : Prop where
 asymm : ∀ a b, lt a b = true -> lt b a = false
 trans : ∀ a b c, lt b a = false -> lt c b = false -> lt c a = false
section
variable {α : Type} [Inhabited α] {lt : α → α → Bool}
def mg (lt : α -> α -> Bool) (l r : List α) : List α := l.merge r fun a b => !lt b a
theorem mg_nil (r : List α) : mg lt [] r = r := List.nil_merge r
theorem mg_right (l : List α) : mg lt l [] = l := List.merge_right l
theorem mg_cons (a b : α) (l r : List α) : mg lt (a :: l) (b :: r) = if lt b a = true then b :: mg lt (a :: l) r else a :: mg lt l (b :: r) := by
 unfold mg; rw [List.cons_merge_cons]; cases lt b a <;> rfl
theorem mg_length (l r : List α) : (mg lt l r).length = l.length + r.length := List.length_merge _ l r
theorem mg_mem {l r : List α} {x : α} : x ∈ mg lt l r ↔ x ∈ l \/ x ∈ r := List.mem_merge
theorem mg_assoc (h : Wk lt) : ∀ (a b c : List α), mg lt (mg lt a b) c = mg lt a (mg lt b c)
 | [], b, c => by rw [mg_nil, mg_nil]
 | x :: a, [], c => by rw [mg_right, mg_nil]
 | x :: a, y :: b, [] => by rw [mg_right, mg_right]
 | x :: a, y :: b, z :: c => by
   have i1 := mg_assoc h a (y :: b) (z :: c)
   have i2 := mg_assoc h (x :: a) b (z :: c)
   have i3 := mg_assoc h (x :: a) (y :: b) c
   cases hyx : lt y x with
   | false =>
     have e1 : mg lt (x :: a) (y :: b) = x :: mg lt a (y :: b) := by rw [mg_cons, if_neg (by simp [hyx])]
     cases hzx : lt z x with
     | false =>
       cases hzy : lt z y with
       | false =>
         rw [e1, mg_cons, if_neg (by simp [hzx]), i1]
         have e2 : mg lt (y :: b) (z :: c) = y :: mg lt b (z :: c) := by rw [mg_cons, if_neg (by simp [hzy])]
         rw [e2, mg_cons, if_neg (by simp [hyx])]
       | true =>
         rw [e1, mg_cons, if_neg (by simp [hzx]), i1]
         have e2 : mg lt (y :: b) (z :: c) = z :: mg lt (y :: b) c := by rw [mg_cons, if_pos hzy]
         rw [e2, mg_cons, if_neg (by simp [hzx])]
     | true =>
       have hzy : lt z y = true := by
        cases hzy : lt z y with
        | true => rfl
        | false => have := h.trans x y z hyx hzy; rw [this] at hzx; cases hzx
       have e2 : mg lt (y :: b) (z :: c) = z :: mg lt (y :: b) c := by rw [mg_cons, if_pos hzy]
       rw [e1, mg_cons, if_pos hzx, e2, mg_cons, if_pos hzx, <- i3, e1]
   | true =>
     have e1 : mg lt (x :: a) (y :: b) = y :: mg lt (x :: a) b := by rw [mg_cons, if_pos hyx]
     cases hzy : lt z y with
     | false =>
       have e2 : mg lt (y :: b) (z :: c) = y :: mg lt b (z :: c) := by rw [mg_cons, if_neg (by simp [hzy])]
       rw [e1, mg_cons, if_neg (by simp [hzy]), i2, e2, mg_cons, if_pos hyx]
     | true =>
       have hzx : lt z x = true := by
        cases hzx : lt z x with
        | true => rfl
        | false =>
          have h1 := h.asymm z y hzy
          have h3 := h.trans x z y hzx h1
          rw [h3] at hyx; cases hyx
       have e2 : mg lt (y :: b) (z :: c) = z :: mg lt (y :: b) c := by rw [mg_cons, if_pos hzy]
       rw [e1, mg_cons, if_pos hzy, e2, mg_cons, if_pos hzx, <- i3, e1]
termination_by a b c => a.length + b.length + c.length
theorem mg_split : ∀ (l1 r1 l2 r2 : List α), (∀ x ∈ l1, ∀ y ∈ r2, lt y x = false) -> (∀ y ∈ r1, ∀ x ∈ l2, lt y x = true) -> mg lt (l1 ++ l2) (r1 ++ r2) = mg lt l1 r1 ++ mg lt l2 r2
 | [], [], l2, r2, _, _ => by simp [mg_nil]
 | x :: l1, [], l2, r2, h1, h2 => by
   have ih := mg_split l1 [] l2 r2 (fun x hx => h1 x (by simp [hx])) h2
   rw [mg_right] at ih ⊢
   cases r2 with
   | nil => simp [mg_right]
   | cons y r2 =>
     have := h1 x (by simp) y (by simp)
     simp only [List.cons_append, List.nil_append] at ih ⊢
     rw [mg_cons, if_neg (by simp [this]), ih]
 | [], y :: r1, l2, r2, h1, h2 => by
   have ih := mg_split [] r1 l2 r2 h1 (fun y hy => h2 y (by simp [hy]))
   rw [mg_nil] at ih ⊢
   cases l2 with
   | nil => simp [mg_nil]
   | cons x l2 =>
     have := h2 y (by simp) x (by simp)
     simp only [List.cons_append, List.nil_append] at ih ⊢
     rw [mg_cons, if_pos this, ih]
 | x :: l1, y :: r1, l2, r2, h1, h2 => by
   have i1 := mg_split l1 (y :: r1) l2 r2 (fun x hx => h1 x (by simp [hx])) h2
   have i2 := mg_split (x :: l1) r1 l2 r2 h1 (fun y hy => h2 y (by simp [hy]))
   simp only [List.cons_append] at i1 i2 ⊢
   rw [mg_cons, mg_cons]
   split
   . rw [i2]; rfl
   . rw [i1]; rfl
termination_by l1 r1 => l1.length + r1.length
def Std (lt : α -> α -> Bool) (l : List α) : Prop := l.Pairwise fun a b => lt b a = false
theorem mg_srt (h : Wk lt) {l r : List α} (h1 : Std lt l) (h2 : Std lt r) : Std lt (mg lt l r) := by
 have := List.pairwise_merge (le := fun a b => !lt b a) (fun a b c h1 h2 => by have := h.trans a b c (by simpa using h1) (by simpa using h2); simp [this]) (fun a b => by
  cases hab : lt b a with
  | false => simp
  | true => have := h.asymm b a hab; simp [this]) l r (h1.imp (by simp)) (h2.imp (by simp))
 exact this.imp (by simp)
def srt (lt : α -> α -> Bool) (l : List α) : List α := l.foldl (fun s x => mg lt s [x]) []
theorem srt_snoc (l : List α) (x : α) : srt lt (l ++ [x]) = mg lt (srt lt l) [x] := by unfold srt; rw [List.foldl_append]; rfl
theorem srt_length (l : List α) : (srt lt l).length = l.length := by
 refine snocRec (p := fun l => (srt lt l).length = l.length) rfl (fun l x ih => ?_) l
 rw [srt_snoc, mg_length, ih, List.length_append]
theorem srt_srt (h : Wk lt) (l : List α) : Std lt (srt lt l) := by
 refine snocRec (p := fun l => Std lt (srt lt l)) List.Pairwise.nil (fun l x ih => ?_) l
 rw [srt_snoc]; exact mg_srt h ih (List.pairwise_singleton _ _)
theorem srt_append (h : Wk lt) (l r : List α) : srt lt (l ++ r) = mg lt (srt lt l) (srt lt r) := by
 refine snocRec (p := fun r => srt lt (l ++ r) = mg lt (srt lt l) (srt lt r)) ?_ (fun r x ih => ?_) r
 . rw [List.append_nil]; exact (mg_right _).symm
 . rw [<- List.append_assoc, srt_snoc, ih, srt_snoc, mg_assoc h]
theorem srt_mem {l : List α} {x : α} : x ∈ srt lt l ↔ x ∈ l := by
 refine snocRec (p := fun l => x ∈ srt lt l ↔ x ∈ l) ?_ (fun l y ih => ?_) l
 . simp [srt]
 . rw [srt_snoc, mg_mem, ih, List.mem_append]
theorem mg_back (p : List α) (y x : α) (h : lt x y = true) : mg lt (p ++ [y]) [x] = mg lt p [x] ++ [y] := by
 induction p with
 | nil => rw [List.nil_append, mg_cons, if_pos h, mg_nil, mg_right]; rfl
 | cons z p ih =>
   rw [List.cons_append, mg_cons, mg_cons]
   split
   . rw [mg_right, mg_right]; rfl
   . rw [ih]; rfl
theorem mg_end (p : List α) (x : α) (h : ∀ y ∈ p, lt x y = false) : mg lt p [x] = p ++ [x] := by
 induction p with
 | nil => rw [mg_nil]; rfl
 | cons z p ih =>
   rw [mg_cons, if_neg (by simp [h z (by simp)]), ih fun y hy => h y (by simp [hy])]; rfl
theorem srt_le_last (h : Wk lt) {p : List α} {y x : α} (hp : Std lt (p ++ [y])) (hx : lt x y = false) : ∀ z ∈ p ++ [y], lt x z = false := by
 intro z hz
 rcases List.mem_append.1 hz with hz | hz
 . have := (List.pairwise_append.1 hp).2.2 z hz y (by simp)
   exact h.trans z y x this hx
 . simp at hz; subst hz; exact hx
theorem mg_one (x : α) : ∀ (r1 r2 : List α), (∀ y ∈ r1, lt y x = true) -> (∀ y ∈ r2, lt y x = false) -> mg lt [x] (r1 ++ r2) = r1 ++ x :: r2
 | [], r2, _, h2 => by
   cases r2 with
   | nil => rw [List.nil_append, mg_right]; rfl
   | cons y r2 => rw [List.nil_append, mg_cons, if_neg (by simp [h2 y (by simp)]), mg_nil]; rfl
 | y :: r1, r2, h1, h2 => by
   rw [List.cons_append, mg_cons, if_pos (h1 y (by simp)), mg_one x r1 r2 (fun y hy => h1 y (by simp [hy])) h2]; rfl
theorem mg_last (y : α) : ∀ (l1 l2 : List α), (∀ x ∈ l1, lt y x = false) -> (∀ x ∈ l2, lt y x = true) -> mg lt (l1 ++ l2) [y] = l1 ++ y :: l2
 | [], l2, _, h2 => by
   cases l2 with
   | nil => rw [List.nil_append, mg_nil]; rfl
   | cons x l2 => rw [List.nil_append, mg_cons, if_pos (h2 x (by simp)), mg_right]; rfl
 | x :: l1, l2, h1, h2 => by
   rw [List.cons_append, mg_cons, if_neg (by simp [h1 x (by simp)]), mg_last y l1 l2 (fun x hx => h1 x (by simp [hx])) h2]; rfl
def put (g : Nat -> α) (a : Nat) (l : List α) : Nat -> α := fun k => if a <= k /\ k < a + l.length then l.getD (k - a) default else g k
def seg (g : Nat -> α) (a b : Nat) : List α := (List.range' a (b - a)).map g
theorem seg_length (g : Nat -> α) (a b : Nat) : (seg g a b).length = b - a := by simp [seg]
theorem seg_get {g : Nat -> α} {a b k : Nat} (h : k < b - a) : (seg g a b)[k]? = some (g (a + k)) := by
 simp [seg, List.getElem?_map, h]
theorem seg_getD {g : Nat -> α} {a b k : Nat} (h : k < b - a) : (seg g a b).getD k default = g (a + k) := by
 rw [List.getD_eq_getElem?_getD, seg_get h]; rfl
theorem seg_eq {g g' : Nat -> α} {a b : Nat} (h : ∀ k, a <= k -> k < b -> g k = g' k) : seg g a b = seg g' a b := by
 unfold seg
 refine List.map_congr_left fun k hk => ?_
 simp at hk
 exact h k hk.1 (by omega)
theorem seg_nil (g : Nat -> α) {a b : Nat} (h : b <= a) : seg g a b = [] := by
 apply List.eq_nil_of_length_eq_zero; rw [seg_length]; omega
theorem seg_app (g : Nat -> α) {a m b : Nat} (h1 : a <= m) (h2 : m <= b) : seg g a b = seg g a m ++ seg g m b := by
 apply List.ext_getElem?
 intro k
 by_cases hk : k < m - a
 . rw [seg_get (by omega), List.getElem?_append_left (by rw [seg_length]; exact hk), seg_get hk]
 . rw [List.getElem?_append_right (by rw [seg_length]; omega), seg_length]
   by_cases hb : k < b - a
   . rw [seg_get hb, seg_get (by omega)]; congr 2; omega
   . rw [List.getElem?_eq_none (by rw [seg_length]; omega), List.getElem?_eq_none (by rw [seg_length]; omega)]
theorem seg_one (g : Nat -> α) (a : Nat) : seg g a (a + 1) = [g a] := by simp [seg]
theorem seg_snoc (g : Nat -> α) {a b : Nat} (h : a <= b) : seg g a (b + 1) = seg g a b ++ [g b] := by rw [seg_app g h (Nat.le_succ b), seg_one]
theorem seg_cons (g : Nat -> α) {a b : Nat} (h : a < b) : seg g a b = g a :: seg g (a + 1) b := by rw [seg_app g (Nat.le_succ a) h, seg_one]; rfl
theorem mem_seg {g : Nat -> α} {a b : Nat} {x : α} : x ∈ seg g a b ↔ ∃ k, a <= k /\ k < b /\ g k = x := by
 simp only [seg, List.mem_map, List.mem_range']
 constructor
 . rintro ⟨k, ⟨i, hi, rfl⟩, rfl⟩; exact ⟨a + 1 * i, by omega, by omega, rfl⟩
 . rintro ⟨k, h1, h2, rfl⟩; exact ⟨k, ⟨k - a, by omega, by omega⟩, rfl⟩
theorem putAt {g : Nat -> α} {a : Nat} {l : List α} {k : Nat} (h : k < l.length) : put g a l (a + k) = l.getD k default := by
 unfold put; rw [if_pos (by omega)]; congr 1; omega
theorem put_mid (g : Nat -> α) (a : Nat) (p : List α) (x : α) (q : List α) : put g a (p ++ x :: q) (a + p.length) = x := by
 rw [putAt (by simp)]
 simp [List.getD_eq_getElem?_getD]
theorem put_out {g : Nat -> α} {a : Nat} {l : List α} {k : Nat} (h : k < a \/ a + l.length <= k) : put g a l k = g k := by
 unfold put; rw [if_neg (by omega)]
theorem seg_put (g : Nat -> α) (a b : Nat) (l : List α) (h : l.length = b - a) (hab : a <= b) : seg (put g a l) a b = l := by
 apply List.ext_getElem?
 intro k
 by_cases hk : k < b - a
 . rw [seg_get hk, putAt (by omega), List.getD_eq_getElem?_getD, List.getElem?_eq_getElem (by omega)]; rfl
 . rw [List.getElem?_eq_none (by rw [seg_length]; omega), List.getElem?_eq_none (by omega)]
theorem put_seg (g : Nat -> α) (a b : Nat) : put g a (seg g a b) = g := by
 funext k
 unfold put
 split
 . rename_i h
   rw [seg_length] at h
   rw [seg_getD (by omega)]; congr 1; omega
 . rfl
theorem put_more (g : Nat -> α) (a : Nat) (l : List α) : put g a l = put g a (l ++ [g (a + l.length)]) := by
 funext k
 unfold put
 rw [List.length_append, List.length_singleton]
 by_cases h : a <= k /\ k < a + l.length
 . rw [if_pos h, if_pos (by omega)]
   simp [List.getD_eq_getElem?_getD, List.getElem?_append_left (show k - a < l.length by omega)]
 . rw [if_neg h]
   by_cases h2 : k = a + l.length
   . subst h2
     rw [if_pos (by omega)]
     simp [List.getD_eq_getElem?_getD]
   . rw [if_neg (by omega)]
def swp (g : Nat -> α) (i j : Nat) : Nat -> α := fun k => if k = j then g i else if k = i then g j else g k
theorem put_swp (g : Nat -> α) (a : Nat) (p : List α) (x y : α) (q : List α) : swp (put g a (p ++ x :: y :: q)) (a + p.length) (a + p.length + 1) = put g a (p ++ y :: x :: q) := by
 have e1 := put_mid g a p x (y :: q)
 have e2 := put_mid g a (p ++ [x]) y q
 rw [List.append_assoc, List.length_append, List.length_singleton] at e2
 have e3 := put_mid g a p y (x :: q)
 have e4 := put_mid g a (p ++ [y]) x q
 rw [List.append_assoc, List.length_append, List.length_singleton] at e4
 funext k
 unfold swp
 split
 . rename_i h; subst h; rw [e1]; exact e4.symm
 . split
   . rename_i h; subst h; exact e2.trans e3.symm
   . unfold put
     simp only [List.length_append, List.length_cons]
     split
     . rename_i h1 h2 h3
       simp only [List.getD_eq_getElem?_getD]
       by_cases hk : k - a < p.length
       . rw [List.getElem?_append_left hk, List.getElem?_append_left hk]
       . rw [List.getElem?_append_right (by omega), List.getElem?_append_right (by omega)]
         obtain ⟨d, hd⟩ : ∃ d, k - a - p.length = d + 2 := ⟨k - a - p.length - 2, by omega⟩
         rw [hd]; rfl
     . rfl
theorem swp_comm (g : Nat -> α) (i j : Nat) : swp g i j = swp g j i := by
 funext k
 unfold swp
 split <;> split <;> first | rfl | (subst_vars; rfl)
def swr (g : Nat -> α) (a b n : Nat) : Nat -> α := fun k => if a <= k /\ k < a + n then g (b + (k - a)) else if b <= k /\ k < b + n then g (a + (k - b)) else g k
theorem swr_zero (g : Nat -> α) (a b : Nat) : swr g a b 0 = g := by
 funext k; unfold swr; rw [if_neg (by omega), if_neg (by omega)]
theorem swr_succ (g : Nat -> α) {a b n : Nat} (h : a + n < b) : swp (swr g a b n) (a + n) (b + n) = swr g a b (n + 1) := by
 funext k
 unfold swp swr
 repeat' split
 all_goals first | rfl | (exfalso; omega) | (congr 1; omega)
def rot (g : Nat -> α) (a m b : Nat) : Nat -> α := fun k => if a <= k /\ k < a + (b - m) then g (m + (k - a)) else if a + (b - m) <= k /\ k < b then g (a + (k - (a + (b - m)))) else g k
theorem rot_eq (g : Nat -> α) {m i : Nat} (h : i <= m) : rot g (m - i) m (m + i) = swr g (m - i) m i := by
 funext k
 unfold rot swr
 repeat' split
 all_goals first | rfl | (exfalso; omega) | (congr 1; omega)
theorem rot_gt (g : Nat -> α) {m i j : Nat} (h : i <= m) (hij : j < i) : rot (swr g (m - i) m j) (m - (i - j)) m (m + j) = rot g (m - i) m (m + j) := by
 funext k
 unfold rot swr
 repeat' split
 all_goals first | rfl | (exfalso; omega) | (congr 1; omega)
theorem rot_lt (g : Nat -> α) {m i j : Nat} (h : i <= m) (hij : i < j) : rot (swr g (m - i) (m + j - i) i) (m - i) m (m + (j - i)) = rot g (m - i) m (m + j) := by
 funext k
 unfold rot swr
 repeat' split
 all_goals first | rfl | (exfalso; omega) | (congr 1; omega)
theorem seg_rot1 (g : Nat -> α) {a m b : Nat} (h1 : a <= m) (h2 : m <= b) : seg (rot g a m b) a (a + (b - m)) = seg g m b := by
 apply List.ext_getElem?
 intro k
 by_cases hk : k < b - m
 . rw [seg_get (by omega), seg_get hk]; congr 1; unfold rot; rw [if_pos (by omega)]; congr 1; omega
 . rw [List.getElem?_eq_none (by rw [seg_length]; omega), List.getElem?_eq_none (by rw [seg_length]; omega)]
theorem seg_rot2 (g : Nat -> α) {a m b : Nat} (h1 : a <= m) (h2 : m <= b) : seg (rot g a m b) (a + (b - m)) b = seg g a m := by
 apply List.ext_getElem?
 intro k
 by_cases hk : k < m - a
 . rw [seg_get (by omega), seg_get hk]; congr 1; unfold rot; rw [if_neg (by omega), if_pos (by omega)]; congr 1; omega
 . rw [List.getElem?_eq_none (by rw [seg_length]; omega), List.getElem?_eq_none (by rw [seg_length]; omega)]
theorem rot_out (g : Nat -> α) {a m b k : Nat} (h1 : a <= m) (h2 : m <= b) (hk : k < a \/ b <= k) : rot g a m b k = g k := by
 unfold rot; rw [if_neg (by omega), if_neg (by omega)]
end
def ltB (a b : Bd) : Bool := decide (cfL a.name.data.toList b.name.data.toList < 0)
theorem wkB : Wk ltB where
 asymm a b h := by
  unfold ltB at *
  rw [decide_eq_true_eq, cfL_lt] at h
  rw [decide_eq_false_iff_not, cfL_lt]
  exact List.lt_asymm h
 trans a b c h1 h2 := by
  unfold ltB at *
  rw [decide_eq_false_iff_not, cfL_lt] at *
  intro h3
  have h1 := List.not_lt.1 h1
  have h2 := List.not_lt.1 h2
  exact List.not_lt.2 (List.le_trans h1 h2) h3
def gF (f : Nat -> List DV) : Nat -> Bd := fun k => gB (f k)
theorem srt_one {α : Type} [Inhabited α] {lt : α -> α -> Bool} (x : α) : srt lt [x] = [x] := mg_nil _
theorem put_one {α : Type} [Inhabited α] {lt : α -> α -> Bool} (g : Nat -> α) (a : Nat) : put g a (srt lt (seg g a (a + 1))) = g := by rw [seg_one, srt_one]; have := put_seg g a (a + 1); rwa [seg_one] at this
theorem put_none {α : Type} [Inhabited α] {lt : α -> α -> Bool} (g : Nat -> α) {a b : Nat} (h : b <= a) : put g a (srt lt (seg g a b)) = g := by
 rw [seg_nil g h]; funext k; unfold put; rw [if_neg (by simp only [srt, List.foldl_nil, List.length_nil]; omega)]
theorem snoc_cases {α : Type} (l : List α) : l = [] \/ ∃ p y, l = p ++ [y] := by
 rcases List.eq_nil_or_concat l with h | ⟨p, y, h⟩
 . exact .inl h
 . exact .inr ⟨p, y, by rw [h, List.concat_eq_append]⟩
theorem ltB_of {a b : Bd} {p : Bool} (h : decide (cfL a.name.data.toList b.name.data.toList < 0) = p) : ltB a b = p := h
theorem setRow_at (f : Nat -> List DV) (i : Nat) (r : List DV) (k : Nat) : setRow f i r k = if k = i then r else f k := by
 unfold setRow
 cases h : Nat.beq k i with
 | true => rw [if_pos (Nat.eq_of_beq_eq_true h)]
 | false => rw [if_neg (Nat.ne_of_beq_eq_false h)]
theorem row_swp {g g' : Nat -> Bd} {i j : Nat} {x y : List DV} (hx : x = bdC (g j)) (hy : y = bdC (g i)) (h : swp g i j = g') (k : Nat) : setRow (setRow (fun k => bdC (g k)) i x) j y k = bdC (g' k) := by
 subst h; subst hx; subst hy
 rw [setRow_at, setRow_at]
 unfold swp
 split
 . rfl
 . split <;> rfl
theorem canonF {n : Nat} {f : Nat -> List DV} (h : ∀ i, i < n -> rowSB (f i)) : icE (.ow 9 n f) (.ow 9 n fun k => bdC (gF f k)) := ⟨rfl, rfl, fun i hi => rowE_gS (h i hi)⟩
theorem gF_bdC (G : Nat -> Bd) : gF (fun k => bdC (G k)) = G := funext fun k => gB_bdC (G k)
theorem fc_calls {P : Program} {f : Nat} {F : List Ar -> Option Rs} (hc : Callable P f) (h : ∀ xs pre r us, F xs = some ⟨pre, r, us⟩ -> pre ->
 ∃ (vs : List Value) (v : Value), xs = vs.map (fun x => Ar.c (.d (.v x))) /\ us = [] /\ (∀ w, Calls P f vs.toArray w fun e w' => e = .returned v /\ w' = w) /\ ∀ S w, RepRt P S w r v []) : FC P f F := by
 intro xs pre r us hF hpre S w vals ls hS hr hsep
 obtain ⟨vs, v, rfl, rfl, hrun, hrep⟩ := h _ _ _ _ hF hpre
 have hrows : ∀ (vs : List Value), arsRows (vs.map fun x => Ar.c (.d (.v x))) = [] := by
  intro vs
  induction vs with
  | nil => rfl
  | cons v vs ih => simp [arsRows, arRows, icRows, ih]
 have e := repArs_rows hr (hrows vs)
 subst e
 have hv : vals = vs := by
  clear hrun hF hrows
  induction vs generalizing vals with
  | nil => cases vals with | nil => rfl | cons _ _ => simp [RepArs] at hr
  | cons x vs ih => cases vals with
    | nil => simp [RepArs] at hr
    | cons u vals =>
      simp only [List.map_cons, RepArs] at hr
      obtain ⟨l1, l2, e, h1, h2⟩ := hr
      obtain ⟨rfl, rfl⟩ := List.append_eq_nil_iff.1 e.symm
      have h1 : RepIcs S w [.d (.v x)] [u] [] := h1
      have h1 : RepD S w (.v x) u := h1.1
      cases h1
      rw [ih _ h2]
 subst hv
 refine .inl ⟨hc, (hrun w).mono ?_⟩
 rintro e w' ⟨rfl, rfl⟩
 refine ⟨v, S, [], rfl, hrep S w', ?_, trivial, ⟨rfl, rfl, rfl, Nat.le_refl _, fun _ _ _ => rfl, Later.refl _ _, fun _ h => .inl h, fun b hb => .inl hb, hS⟩⟩
 rw [hrows]; trivial
def FStrCmp : List Ar -> Option Rs
 | [.c (.d (.v (.string x))), .c (.d (.v (.string y)))] => some ⟨True, .va (.c (.d (it (cfL x.data.toList y.data.toList)))), []⟩
 | _ => none
theorem fcStrCmp : FC Tryz.prog 70 FStrCmp := by
 refine fc_calls (callable_of Tryz.func70 rfl rfl) fun xs pre r us h hp => ?_
 unfold FStrCmp at h
 split at h
 . rename_i x y
   cases h
   exact ⟨[.string x, .string y], _, rfl, rfl, fun w => Tryz.strings_Compare x y w, fun S w => And.intro (.v trivial) trivial⟩
 . cases h
def FLess : List Ar -> Option Rs
 | [.agg [.d (.v (.string x0)), .d (.v (.bool _)), .d (.v (.int .i64 _)), .d (.v (.int .i64 _)), .d (.v (.bool _)), .d (.v (.int .i64 _)), .d (.v (.int .i64 _)), .d (.v (.bool _)), .d (.lst 1 _ _)], .agg [.d (.v (.string x1)), .d (.v (.bool _)), .d (.v (.int .i64 _)), .d (.v (.int .i64 _)), .d (.v (.bool _)), .d (.v (.int .i64 _)), .d (.v (.int .i64 _)), .d (.v (.bool _)), .d (.lst 1 _ _)]] => some ⟨True, .va (.c (.d (it (cfL x0.data.toList x1.data.toList)))), []⟩
 | _ => none
theorem fcLess : FC Tryz.prog 69 FLess := by
 intro xs pre r us h hp
 unfold FLess at h
 split at h
 . rename_i x0 s0 l0 h0 b0 m0 r0 z0 n0 f0 x1 s1 l1 h1 b1 m1 r1 z1 n1 f1
   cases h
   refine fcat tys_ok (l := [(70, ⟨[], FStrCmp⟩)]) ⟨fcStrCmp, trivial⟩ Tryz.func69 rfl (by kernel_rfl) false ?_
   repeat' (first | exact trivial | refine ⟨?_, ?_⟩ | intro _)
   all_goals first | (with_reducible first | apply qa | apply qb | apply qc | apply qd) | (conv => whnf)
   all_goals grind
 . cases h
abbrev gLess : List Cv -> Option Gs := mkFv (sums [(69, ⟨[], FLess⟩)]) 69 []
def FInsSort : List Ar -> Option Rs
 | [.c (.ow 9 n0 f0), .c (.d (.v (.int .i64 i1))), .c (.d (.v (.int .i64 i2))), .fv g3] => some ⟨(n0 <= 1099511627776 /\ ∀ i, i < n0 -> rowSB (f0 i)) /\ (-9223372036854775808 <= i1 /\ i1 < 9223372036854775808) /\ (-9223372036854775808 <= i2 /\ i2 < 9223372036854775808) /\ ((0 <= i1 /\ i1 <= i2 /\ i2 <= n0) /\ g3 = gLess), .tup [], [some fun k => bdC (put (gF f0) (i1).toNat (srt ltB (seg (gF f0) (i1).toNat (i2).toNat)) k)]⟩
 | _ => none
theorem fcInsSort : FC Tryz.prog 166 FInsSort := by
 intro xs pre r us h hp
 unfold FInsSort at h
 split at h
 . rename_i n0 f0 i1 i2 g3
   cases h
   obtain ⟨hp0, hp1, hp2, hp3⟩ := hp
   refine FCat.deep (ys := [.c (.ow 9 n0 fun k => bdC (gF f0 k)), .c (.d (.v (.int .i64 i1))), .c (.d (.v (.int .i64 i2))), .fv g3]) ?_ ?_
   . repeat' (first | exact trivial | exact rfl | exact DvE.refl _ | refine ⟨?_, ?_⟩ | fail)
     all_goals first | exact (canonF hp0.2).2.2
   refine fcat tys_ok (l := []) trivial Tryz.func166 rfl (by kernel_rfl) false ?_
   obtain ⟨⟨ha, hab, hb⟩, rfl⟩ := hp3
   obtain ⟨a, rfl⟩ := Int.eq_ofNat_of_zero_le ha
   obtain ⟨b, rfl⟩ := Int.eq_ofNat_of_zero_le (Int.le_trans ha hab)
   have hn := hp0.1
   clear hp0
   generalize gF f0 = G
   simp only [Int.toNat_natCast]
   repeat' (first | exact trivial | refine ⟨?_, ?_⟩ | intro _)
   all_goals first | (with_reducible first | apply qa | apply qb | apply qc | apply qd) | (conv => whnf)
   refine loop_ok tys_ok (l := []) trivial (by kernel_rfl) (X := Nat)
    (fun i => ⟨[(8, vx (.int .i64 i)), (0, .va (.c (.osl 0 9 0 n0))), (1, vx (.int .i64 a)), (2, vx (.int .i64 b)), (3, .va (.c (.fv gLess)))], [(0, .row 9 n0 fun k => bdC (put G a (srt ltB (seg G a i)) k))], 1, 53⟩)
    (fun i => b - i) (fun i => a < i /\ (i <= b \/ i = a + 1)) [] [] (fun i _ _ => i + 1) [0] [0] 0 0 (a + 1) ?_ ?_ ?_
   . exact ⟨by omega, .inr rfl⟩
   . rw [put_one]
     repeat' (first | exact trivial | exact rfl | (intro _ _; exact rfl) | refine ⟨?_, ?_⟩ | fail)
     all_goals (exact congrArg (Value.int .i64) (wI_id _ (by omega) (by omega)))
   . rintro i ⟨k1, k2⟩
     repeat' (first | exact trivial | refine ⟨?_, ?_⟩ | intro _)
     all_goals first | (with_reducible first | apply qa | apply qb | apply qc | apply qd) | (conv => whnf)
     . have hi : i < b := by have := of_decide_eq_true ‹decide ((i : Int) < (b : Int)) = true›; omega
       have hs := srt_srt wkB (seg G a i)
       have hl : (srt ltB (seg G a i)).length = i - a := by rw [srt_length, seg_length]
       have hG : G (a + (srt ltB (seg G a i)).length) = G i := by rw [hl]; congr 1; omega
       refine loop_ok tys_ok (l := []) trivial (by kernel_rfl) (X := List Bd × List Bd)
        (fun x => ⟨[(9, vx (.int .i64 (a + x.1.length : Nat))), (8, vx (.int .i64 i)), (0, .va (.c (.osl 0 9 0 n0))), (1, vx (.int .i64 a)), (2, vx (.int .i64 b)), (3, .va (.c (.fv gLess)))], [(0, .row 9 n0 fun k => bdC (put G a (x.1 ++ G i :: x.2) k))], 1, 53⟩)
        (fun x => x.1.length) (fun x => mg ltB (srt ltB (seg G a i)) [G i] = mg ltB x.1 [G i] ++ x.2 /\ Std ltB x.1 /\ x.1.length + x.2.length = i - a) [] [] (fun x _ _ => (x.1.dropLast, x.1.getLastD default :: x.2)) [0] [0] 0 0 (srt ltB (seg G a i), []) ?_ ?_ ?_
       . exact ⟨by simp, hs, by dsimp only; rw [hl]; rfl⟩
       . have hp := put_more G a (srt ltB (seg G a i))
         rw [hG] at hp
         rw [hp]
         repeat' (first | exact trivial | exact rfl | (intro _ _; exact rfl) | refine ⟨?_, ?_⟩ | fail)
         all_goals (exact congrArg (Value.int .i64) (by dsimp only; omega))
       . rintro ⟨p, q⟩ ⟨k3, k4, k5⟩
         dsimp only at k3 k4 k5
         rcases snoc_cases p with rfl | ⟨p, y, rfl⟩
         . have hno : decide (((a + ([] : List Bd).length : Nat) : Int) > (a : Int)) = false := by simp
           have hE : put G a ([] ++ G i :: q) = put G a (srt ltB (seg G a (i + 1))) := by rw [seg_snoc G (by omega), srt_snoc, k3, mg_nil]; rfl
           repeat' (first | exact trivial | refine ⟨?_, ?_⟩ | intro _)
           all_goals first | (with_reducible first | apply qa | apply qb | apply qc | apply qd) | (conv => whnf)
           all_goals first | (exact absurd (hno.symm.trans ‹_ = true›) (by decide)) | skip
           all_goals first | rfl | omega | (dsimp only; omega) | (exact congrArg bdC (congrFun hE _)) | (exact congrArg (Value.int .i64) (wI_id _ (by omega) (by omega)))
         . have hln : (p ++ [y]).length = p.length + 1 := by simp
           have hyes : decide (((a + (p ++ [y]).length : Nat) : Int) > (a : Int)) = true := by rw [hln]; exact decide_eq_true (by omega)
           have hw : IntKind.wrap .i64 (((a + (p ++ [y]).length : Nat) : Int) - 1) = ((a + p.length : Nat) : Int) := by rw [hln, wI_id _ (by omega) (by omega)]; omega
           have hL : (p ++ [y]) ++ G i :: q = p ++ y :: G i :: q := by simp
           have e1 : put G a ((p ++ [y]) ++ G i :: q) (a + p.length) = y := by rw [hL]; exact put_mid _ _ _ _ _
           have e2 : put G a ((p ++ [y]) ++ G i :: q) (a + (p ++ [y]).length) = G i := put_mid _ _ _ _ _
           have hsw : swp (put G a ((p ++ [y]) ++ G i :: q)) (a + (p ++ [y]).length) (a + p.length) = put G a (p ++ G i :: y :: q) := by rw [hL, swp_comm, hln]; exact put_swp _ _ _ _ _ _
           have hE : ltB (G i) y = false -> put G a ((p ++ [y]) ++ G i :: q) = put G a (srt ltB (seg G a (i + 1))) := by
            intro h
            rw [seg_snoc G (by omega), srt_snoc, k3, mg_end _ _ (srt_le_last wkB k4 h)]; simp
           have hN : ltB (G i) y = true -> mg ltB (srt ltB (seg G a i)) [G i] = mg ltB p [G i] ++ y :: q := by
            intro h
            rw [k3, mg_back _ _ _ h, List.append_assoc]; rfl
           repeat' (first | exact trivial | refine ⟨?_, ?_⟩ | intro _)
           all_goals first | (with_reducible first | apply qa | apply qb | apply qc | apply qd) | (conv => whnf)
           all_goals first | (exact absurd (hyes.symm.trans ‹_ = false›) (by decide)) | skip
           all_goals first | ((with_reducible show ASat _ _ _ _ _); refine draw_plan tys_ok (l := []) trivial (by kernel_rfl) (.take 0 (.take 1 (.take 2 (.take 3 (.take 4 (.take 5 (.take 6 (.take 7 (.take 8 (.take 10 (.take 11 (.take 12 (.all [(9, .all [(13, .take 14 (.all [(15, .take 16 (.all [(17, .done)]))]))]), (13, .all [(9, .take 14 (.all [(15, .take 16 (.all [(17, .done)]))]))])]))))))))))))) (by kernel_rfl) ?_) | skip
           all_goals repeat' (first | exact trivial | refine ⟨?_, ?_⟩ | intro _)
           all_goals first | (with_reducible first | apply qa | apply qb | apply qc | apply qd) | (conv => whnf)
           all_goals (try simp only [hw, Int.toNat_natCast, Nat.zero_add, e1, e2, List.dropLast_concat, List.getLastD_concat])
           all_goals (try rw [setRow_at, if_neg (by rw [hln]; omega)])
           all_goals repeat' (first | exact trivial | refine ⟨?_, ?_⟩ | intro _)
           all_goals first | (with_reducible first | apply qa | apply qb | apply qc | apply qd) | (conv => whnf)
           all_goals (try simp only [hw, Int.toNat_natCast, Nat.zero_add, e1, e2, List.dropLast_concat, List.getLastD_concat])
           all_goals first | rfl | omega | (dsimp only; omega) | (simp only [hln] at k5; simp only [List.length_cons]; omega) | (exact (List.pairwise_append.1 k4).1) | (have hd := ‹decide (cfL _ _ < 0) = _›; simp only [hw, Int.toNat_natCast, Nat.zero_add, e1, e2] at hd; first | (exact hN (ltB_of hd)) | (exact congrArg bdC (congrFun (hE (ltB_of hd)) _))) | (exact congrArg (Value.int .i64) (wI_id _ (by omega) (by omega))) | (exact row_swp (by rw [e1]) (by rw [e2]) hsw _)
     . exact Nat.le_refl _
     . have h2 := of_decide_eq_false ‹decide ((i : Int) < (b : Int)) = false›
       rcases (by omega : i = b \/ (i = a + 1 /\ b = a)) with k2 | ⟨k2, k3⟩
       . subst k2; rfl
       . subst k2; subst k3
         exact congrArg bdC (congrFun ((put_one G b).trans (put_none G (Nat.le_refl b)).symm) _)
 . cases h
def FSwapR : List Ar -> Option Rs
 | [.c (.ow 9 n0 f0), .c (.d (.v (.int .i64 i1))), .c (.d (.v (.int .i64 i2))), .c (.d (.v (.int .i64 i3))), .fv _] => some ⟨(n0 <= 1099511627776 /\ ∀ i, i < n0 -> rowSB (f0 i)) /\ (-9223372036854775808 <= i1 /\ i1 < 9223372036854775808) /\ (-9223372036854775808 <= i2 /\ i2 < 9223372036854775808) /\ (-9223372036854775808 <= i3 /\ i3 < 9223372036854775808) /\ (0 <= i1 /\ 0 <= i3 /\ i1 + i3 <= i2 /\ i2 + i3 <= n0), .tup [], [some fun k => bdC (swr (gF f0) (i1).toNat (i2).toNat (i3).toNat k)]⟩
 | _ => none
theorem fcSwapR : FC Tryz.prog 209 FSwapR := by
 intro xs pre r us h hp
 unfold FSwapR at h
 split at h
 . rename_i n0 f0 i1 i2 i3 g4
   cases h
   obtain ⟨hp0, hp1, hp2, hp3, hp4⟩ := hp
   refine FCat.deep (ys := [.c (.ow 9 n0 fun k => bdC (gF f0 k)), .c (.d (.v (.int .i64 i1))), .c (.d (.v (.int .i64 i2))), .c (.d (.v (.int .i64 i3))), .fv g4]) ?_ ?_
   . repeat' (first | exact trivial | exact rfl | exact DvE.refl _ | refine ⟨?_, ?_⟩ | fail)
     all_goals first | exact (canonF hp0.2).2.2
   refine fcat tys_ok (l := []) trivial Tryz.func209 rfl (by kernel_rfl) false ?_
   obtain ⟨ha, hl, hab, hb⟩ := hp4
   obtain ⟨a, rfl⟩ := Int.eq_ofNat_of_zero_le ha
   obtain ⟨l, rfl⟩ := Int.eq_ofNat_of_zero_le hl
   obtain ⟨b, rfl⟩ := Int.eq_ofNat_of_zero_le (Int.le_trans (by omega : (0 : Int) <= (a : Int) + l) hab)
   have hn := hp0.1
   clear hp0
   generalize gF f0 = G
   simp only [Int.toNat_natCast]
   repeat' (first | exact trivial | refine ⟨?_, ?_⟩ | intro _)
   all_goals first | (with_reducible first | apply qa | apply qb | apply qc | apply qd) | (conv => whnf)
   refine loop_ok tys_ok (l := []) trivial (by kernel_rfl) (X := Nat)
    (fun i => ⟨[(10, vx (.int .i64 i)), (0, .va (.c (.osl 0 9 0 n0))), (1, vx (.int .i64 a)), (2, vx (.int .i64 b)), (3, vx (.int .i64 l)), (4, .va (.c (.fv g4)))], [(0, .row 9 n0 fun k => bdC (swr G a b i k))], 1, 38⟩)
    (fun i => l - i) (fun i => i <= l) [] [] (fun i _ _ => i + 1) [0] [0] 0 0 0 ?_ ?_ ?_
   . exact Nat.zero_le _
   . rw [swr_zero]
     repeat' (first | exact trivial | exact rfl | (intro _ _; exact rfl) | refine ⟨?_, ?_⟩ | fail)
   . rintro i k1
     have hw1 : IntKind.wrap .i64 ((a : Int) + (i : Int)) = ((a + i : Nat) : Int) := by rw [wI_id _ (by omega) (by omega)]; omega
     have hw2 : IntKind.wrap .i64 ((b : Int) + (i : Int)) = ((b + i : Nat) : Int) := by rw [wI_id _ (by omega) (by omega)]; omega
     repeat' (first | exact trivial | refine ⟨?_, ?_⟩ | intro _)
     all_goals first | (with_reducible first | apply qa | apply qb | apply qc | apply qd) | (conv => whnf)
     . have hi : i < l := by have := of_decide_eq_true ‹decide ((i : Int) < (l : Int)) = true›; omega
       repeat' (first | exact trivial | refine ⟨?_, ?_⟩ | intro _)
       all_goals first | (with_reducible first | apply qa | apply qb | apply qc | apply qd) | (conv => whnf)
       all_goals first | ((with_reducible show ASat _ _ _ _ _); refine draw_plan tys_ok (l := []) trivial (by kernel_rfl) (.take 0 (.take 1 (.take 2 (.take 3 (.take 4 (.take 5 (.take 6 (.take 7 (.take 8 (.take 9 (.take 10 (.take 11 (.take 12 (.take 14 (.take 15 (.take 16 (.take 17 (.take 18 (.all [(13, .all [(19, .take 20 (.all [(21, .take 22 (.all [(23, .done)]))]))]), (19, .all [(13, .take 20 (.all [(21, .take 22 (.all [(23, .done)]))]))])]))))))))))))))))))) (by kernel_rfl) ?_) | skip
       all_goals repeat' (first | exact trivial | refine ⟨?_, ?_⟩ | intro _)
       all_goals first | (with_reducible first | apply qa | apply qb | apply qc | apply qd) | (conv => whnf)
       all_goals (try simp only [hw1, hw2, Int.toNat_natCast, Nat.zero_add])
       all_goals (try rw [setRow_at, if_neg (by omega)])
       all_goals repeat' (first | exact trivial | refine ⟨?_, ?_⟩ | intro _)
       all_goals first | (with_reducible first | apply qa | apply qb | apply qc | apply qd) | (conv => whnf)
       all_goals (try simp only [hw1, hw2, Int.toNat_natCast, Nat.zero_add])
       all_goals first | rfl | omega | (dsimp only; omega) | (exact row_swp rfl rfl (swr_succ G (by omega)) _) | (exact congrArg (Value.int .i64) (by first | (rw [wI_id _ (by omega) (by omega)]; omega) | omega | (dsimp only; omega)))
     . exact Nat.le_refl _
     . have h2 := of_decide_eq_false ‹decide ((i : Int) < (l : Int)) = false›
       have : i = l := by omega
       subst this; rfl
 . cases h
def FRot : List Ar -> Option Rs
 | [.c (.ow 9 n0 f0), .c (.d (.v (.int .i64 i1))), .c (.d (.v (.int .i64 i2))), .c (.d (.v (.int .i64 i3))), .fv _] => some ⟨(n0 <= 1099511627776 /\ ∀ i, i < n0 -> rowSB (f0 i)) /\ (-9223372036854775808 <= i1 /\ i1 < 9223372036854775808) /\ (-9223372036854775808 <= i2 /\ i2 < 9223372036854775808) /\ (-9223372036854775808 <= i3 /\ i3 < 9223372036854775808) /\ (0 <= i1 /\ i1 < i2 /\ i2 < i3 /\ i3 <= n0), .tup [], [some fun k => bdC (rot (gF f0) (i1).toNat (i2).toNat (i3).toNat k)]⟩
 | _ => none
theorem fcRot : FC Tryz.prog 189 FRot := by
 intro xs pre r us h hp
 unfold FRot at h
 split at h
 . rename_i n0 f0 i1 i2 i3 g4
   cases h
   obtain ⟨hp0, hp1, hp2, hp3, hp4⟩ := hp
   refine FCat.deep (ys := [.c (.ow 9 n0 fun k => bdC (gF f0 k)), .c (.d (.v (.int .i64 i1))), .c (.d (.v (.int .i64 i2))), .c (.d (.v (.int .i64 i3))), .fv g4]) ?_ ?_
   . repeat' (first | exact trivial | exact rfl | exact DvE.refl _ | refine ⟨?_, ?_⟩ | fail)
     all_goals first | exact (canonF hp0.2).2.2
   refine fcat tys_ok (l := [(209, ⟨[true], FSwapR⟩)]) ⟨fcSwapR, trivial⟩ Tryz.func189 rfl (by kernel_rfl) false ?_
   obtain ⟨ha, ham, hmb, hb⟩ := hp4
   obtain ⟨a, rfl⟩ := Int.eq_ofNat_of_zero_le ha
   obtain ⟨m, rfl⟩ := Int.eq_ofNat_of_zero_le (Int.le_trans ha (Int.le_of_lt ham))
   obtain ⟨b, rfl⟩ := Int.eq_ofNat_of_zero_le (Int.le_trans (Int.natCast_nonneg m) (Int.le_of_lt hmb))
   have hn := hp0.1
   clear hp0
   generalize gF f0 = G
   simp only [Int.toNat_natCast]
   repeat' (first | exact trivial | refine ⟨?_, ?_⟩ | intro _)
   all_goals first | (with_reducible first | apply qa | apply qb | apply qc | apply qd) | (conv => whnf)
   refine loop_ok tys_ok (l := [(209, ⟨[true], FSwapR⟩)]) ⟨fcSwapR, trivial⟩ (by kernel_rfl) (X := Nat × Nat × (Nat -> Bd))
    (fun x => ⟨[(10, vx (.int .i64 x.1)), (11, vx (.int .i64 x.2.1)), (0, .va (.c (.osl 0 9 0 n0))), (1, vx (.int .i64 a)), (2, vx (.int .i64 m)), (3, vx (.int .i64 b)), (4, .va (.c (.fv g4)))], [(0, .row 9 n0 fun k => bdC (x.2.2 k))], 1, 58⟩)
    (fun x => x.1 + x.2.1) (fun x => 0 < x.1 /\ 0 < x.2.1 /\ x.1 <= m - a /\ x.2.1 <= b - m /\ rot x.2.2 (m - x.1) m (m + x.2.1) = rot G a m b) [] []
    (fun x _ _ => if x.2.1 < x.1 then (x.1 - x.2.1, x.2.1, swr x.2.2 (m - x.1) m x.2.1) else (x.1, x.2.1 - x.1, swr x.2.2 (m - x.1) (m + x.2.1 - x.1) x.1)) [0] [0] 0 0 (m - a, b - m, G) ?_ ?_ ?_
   . refine ⟨by show 0 < m - a; omega, by show 0 < b - m; omega, Nat.le_refl _, Nat.le_refl _, ?_⟩
     have e1 : m - (m - a) = a := by omega
     have e2 : m + (b - m) = b := by omega
     dsimp only; rw [e1, e2]
   . repeat' (first | exact trivial | exact rfl | (intro _ _; exact rfl) | refine ⟨?_, ?_⟩ | fail)
     all_goals exact congrArg (Value.int .i64) (by rw [wI_id _ (by omega) (by omega)]; dsimp only; omega)
   . rintro ⟨i, j, H⟩ ⟨k1, k2, k3, k4, k5⟩
     dsimp only at k1 k2 k3 k4 k5
     have hok : ∀ i, i < n0 -> rowSB (bdC (H i)) := fun i _ => rowSB_bdC _
     have hgF : gF (fun k => bdC (H k)) = H := gF_bdC H
     have hw1 : IntKind.wrap .i64 ((m : Int) - (i : Int)) = ((m - i : Nat) : Int) := by rw [wI_id _ (by omega) (by omega)]; omega
     have hw2 : IntKind.wrap .i64 ((m : Int) + (j : Int)) = ((m + j : Nat) : Int) := by rw [wI_id _ (by omega) (by omega)]; omega
     have hw3 : IntKind.wrap .i64 (((m + j : Nat) : Int) - (i : Int)) = ((m + j : Nat) : Int) - i := by rw [wI_id _ (by omega) (by omega)]
     rcases Nat.lt_trichotomy i j with hij | hij | hij
     . have hq : j - i < j /\ ¬ j < i := by omega
       have hE : ∀ k, bdC (swr H (m - i) ((((m + j : Nat) : Int) - (i : Int)).toNat) i k) = bdC (swr H (m - i) (m + j - i) i k) := by
        intro k; congr 2; omega
       have hR := (rot_lt H (m := m) (i := i) (j := j) (by omega) hij).trans k5
       have hne : ((i : Int) != (j : Int)) = true := bne_iff_ne.2 (by omega)
       have hgt : decide ((i : Int) > (j : Int)) = false := decide_eq_false (by omega)
       repeat' (first | exact trivial | (with_reducible exact hok) | refine ⟨?_, ?_⟩ | intro _)
       all_goals first | (with_reducible first | apply qa | apply qb | apply qc | apply qd) | (conv => whnf)
       all_goals first | (exact absurd (hne.symm.trans ‹_ = false›) (by decide)) | (exact absurd (hgt.symm.trans ‹_ = true›) (by decide)) | skip
       all_goals (try simp only [hw1, hw2, hw3, Int.toNat_natCast, hgF, if_neg hq.2])
       all_goals first | rfl | omega | (dsimp only; omega) | (exact hR) | (exact hE _) | (exact congrArg (Value.int .i64) (by first | (rw [wI_id _ (by omega) (by omega)]; omega) | omega | (dsimp only; omega)))
     . subst hij
       have hne : ((i : Int) != (i : Int)) = false := by simp
       repeat' (first | exact trivial | (with_reducible exact hok) | refine ⟨?_, ?_⟩ | intro _)
       all_goals first | (with_reducible first | apply qa | apply qb | apply qc | apply qd) | (conv => whnf)
       all_goals first | (exact absurd (hne.symm.trans ‹_ = true›) (by decide)) | skip
       all_goals (try simp only [hw1, hw2, hw3, hgF, Int.toNat_natCast])
       all_goals first | rfl | omega | (dsimp only; omega) | (exact congrArg bdC (congrFun ((rot_eq H (by omega)).symm.trans k5) _)) | (exact congrArg (Value.int .i64) (by first | (rw [wI_id _ (by omega) (by omega)]; omega) | omega | (dsimp only; omega)))
     . have hq : j < i := hij
       have hR := (rot_gt H (m := m) (i := i) (j := j) (by omega) hij).trans k5
       have hne : ((i : Int) != (j : Int)) = true := bne_iff_ne.2 (by omega)
       have hgt : decide ((i : Int) > (j : Int)) = true := decide_eq_true (by omega)
       repeat' (first | exact trivial | (with_reducible exact hok) | refine ⟨?_, ?_⟩ | intro _)
       all_goals first | (with_reducible first | apply qa | apply qb | apply qc | apply qd) | (conv => whnf)
       all_goals first | (exact absurd (hne.symm.trans ‹_ = false›) (by decide)) | (exact absurd (hgt.symm.trans ‹_ = false›) (by decide)) | skip
       all_goals (try simp only [hw1, hw2, hw3, Int.toNat_natCast, hgF, if_pos hq])
       all_goals first | rfl | omega | (dsimp only; omega) | (exact hR) | (exact congrArg (Value.int .i64) (by first | (rw [wI_id _ (by omega) (by omega)]; omega) | omega | (dsimp only; omega)))
 . cases h
section
variable {α : Type} [Inhabited α] {lt : α → α → Bool}
theorem std_iff {g : Nat -> α} {a b : Nat} : Std lt (seg g a b) ↔ ∀ i j, a <= i -> i < j -> j < b -> lt (g j) (g i) = false := by
 unfold Std
 rw [List.pairwise_iff_getElem]
 constructor
 . intro h i j h1 h2 h3
   have := h (i - a) (j - a) (by rw [seg_length]; omega) (by rw [seg_length]; omega) (by omega)
   have e1 : (seg g a b)[i - a]? = some (g i) := by rw [seg_get (by omega)]; congr 2; omega
   have e2 : (seg g a b)[j - a]? = some (g j) := by rw [seg_get (by omega)]; congr 2; omega
   rw [List.getElem_of_getElem? e1 |>.2, List.getElem_of_getElem? e2 |>.2] at this
   exact this
 . intro h i j hi hj hij
   rw [seg_length] at hi hj
   have e1 : (seg g a b)[i]? = some (g (a + i)) := seg_get hi
   have e2 : (seg g a b)[j]? = some (g (a + j)) := seg_get hj
   rw [List.getElem_of_getElem? e1 |>.2, List.getElem_of_getElem? e2 |>.2]
   exact h _ _ (by omega) (by omega) (by omega)
theorem std_sub {g : Nat -> α} {a b a' b' : Nat} (h : Std lt (seg g a b)) (h1 : a <= a') (h2 : b' <= b) : Std lt (seg g a' b') :=
 std_iff.2 fun i j x y z => std_iff.1 h i j (by omega) y (by omega)
theorem Wk.irr (h : Wk lt) (x : α) : lt x x = false := by
 cases hx : lt x x with
 | false => rfl
 | true => have := h.asymm _ _ hx; rw [hx] at this; exact this
theorem std_le (h : Wk lt) {g : Nat -> α} {a b i j : Nat} (hs : Std lt (seg g a b)) (h1 : a <= i) (h2 : i <= j) (h3 : j < b) : lt (g j) (g i) = false := by
 rcases Nat.lt_or_ge i j with h4 | h4
 . exact std_iff.1 hs i j h1 h4 h3
 . have : i = j := by omega
   subst this; exact h.irr _
theorem Wk.lt1 (h : Wk lt) {x y z : α} (h1 : lt y x = false) (h2 : lt y z = true) : lt x z = true := by
 cases hx : lt x z with
 | true => rfl
 | false => rw [h.trans z x y hx h1] at h2; cases h2
theorem Wk.lt2 (h : Wk lt) {x y z : α} (h1 : lt z y = false) (h2 : lt x y = true) : lt x z = true := by
 cases hx : lt x z with
 | true => rfl
 | false => rw [h.trans y z x h1 hx] at h2; cases h2
theorem Wk.le1 (h : Wk lt) {x y z : α} (h1 : lt z y = false) (h2 : lt y x = false) : lt z x = false := h.trans x y z h2 h1
theorem one_fin {g : Nat -> α} {a i b : Nat} (h1 : a + 1 <= i) (h2 : i <= b) (h3 : ∀ k, a + 1 <= k -> k < i -> lt (g k) (g a) = true) (h4 : ∀ k, i <= k -> k < b -> lt (g k) (g a) = false) :
 mg lt (seg g a (a + 1)) (seg g (a + 1) b) = seg g (a + 1) i ++ g a :: seg g i b := by
 rw [seg_one, seg_app g h1 h2]
 refine mg_one _ _ _ ?_ ?_
 . intro y hy
   obtain ⟨k, k1, k2, rfl⟩ := mem_seg.1 hy
   exact h3 k k1 k2
 . intro y hy
   obtain ⟨k, k1, k2, rfl⟩ := mem_seg.1 hy
   exact h4 k k1 k2
theorem one_start (g : Nat -> α) {a b : Nat} (h : a < b) : put g a (seg g (a + 1) (a + 1) ++ g a :: seg g (a + 1) b) = g := by
 rw [seg_nil g (Nat.le_refl _), List.nil_append, <- seg_cons g h, put_seg]
theorem one_step (g : Nat -> α) {a k b : Nat} (h : a <= k) (hk : k + 1 < b) : swp (put g a (seg g (a + 1) (k + 1) ++ g a :: seg g (k + 1) b)) k (k + 1) = put g a (seg g (a + 1) (k + 1 + 1) ++ g a :: seg g (k + 1 + 1) b) := by
 have hl : a + (seg g (a + 1) (k + 1)).length = k := by rw [seg_length]; omega
 have := put_swp g a (seg g (a + 1) (k + 1)) (g a) (g (k + 1)) (seg g (k + 1 + 1) b)
 rw [hl] at this
 rw [seg_cons g hk, this, seg_snoc g (by omega : a + 1 <= k + 1), List.append_assoc]; rfl
theorem last_fin {g : Nat -> α} {a i m : Nat} (h1 : a <= i) (h2 : i <= m) (h3 : ∀ k, a <= k -> k < i -> lt (g m) (g k) = false) (h4 : ∀ k, i <= k -> k < m -> lt (g m) (g k) = true) :
 mg lt (seg g a m) (seg g m (m + 1)) = seg g a i ++ g m :: seg g i m := by
 rw [seg_one, seg_app g h1 h2]
 refine mg_last _ _ _ ?_ ?_
 . intro y hy
   obtain ⟨k, k1, k2, rfl⟩ := mem_seg.1 hy
   exact h3 k k1 k2
 . intro y hy
   obtain ⟨k, k1, k2, rfl⟩ := mem_seg.1 hy
   exact h4 k k1 k2
theorem last_start (g : Nat -> α) {a m : Nat} (h : a <= m) : put g a (seg g a m ++ g m :: seg g m m) = g := by
 rw [seg_nil g (Nat.le_refl _), <- seg_snoc g h, put_seg]
theorem last_step (g : Nat -> α) {a k m : Nat} (h : a <= k) (hk : k + 1 <= m) : swp (put g a (seg g a (k + 1) ++ g m :: seg g (k + 1) m)) (k + 1) k = put g a (seg g a k ++ g m :: seg g k m) := by
 have hl : a + (seg g a k).length = k := by rw [seg_length]; omega
 have := put_swp g a (seg g a k) (g k) (g m) (seg g (k + 1) m)
 rw [hl] at this
 rw [swp_comm, seg_snoc g h, List.append_assoc]
 show swp (put g a (seg g a k ++ g k :: g m :: seg g (k + 1) m)) k (k + 1) = _
 rw [this, <- seg_cons g (by omega : k < m)]
theorem put2 {g H : Nat -> α} {a mid b : Nat} {u v : List α} (hH : ∀ k, k < a \/ b <= k -> H k = g k) (hu : u.length = mid - a) (hv : v.length = b - mid) (h1 : a <= mid) (h2 : mid <= b) : put (put H a u) mid v = put g a (u ++ v) := by
 funext k
 unfold put
 rw [List.length_append]
 by_cases c1 : mid <= k /\ k < mid + v.length
 . rw [if_pos c1, if_pos (by omega), List.getD_eq_getElem?_getD, List.getD_eq_getElem?_getD, List.getElem?_append_right (by omega)]
   congr 2; omega
 . rw [if_neg c1]
   by_cases c2 : a <= k /\ k < a + u.length
   . rw [if_pos c2, if_pos (by omega), List.getD_eq_getElem?_getD, List.getD_eq_getElem?_getD, List.getElem?_append_left (by omega)]
   . rw [if_neg c2, if_neg (by omega), hH k (by omega)]
theorem rot_id (g : Nat -> α) {s m e : Nat} (h1 : s <= m) (h2 : m <= e) (h : ¬ (s < m /\ m < e)) : rot g s m e = g := by
 funext k; unfold rot
 split
 . congr 1; omega
 . split
   . congr 1; omega
   . rfl
theorem put_id (g : Nat -> α) {a s m : Nat} (h1 : a <= s) (h2 : s <= m) (h : ¬ (a < s /\ s < m)) : put g a (mg lt (seg g a s) (seg g s m)) = g := by
 have : mg lt (seg g a s) (seg g s m) = seg g a m := by
  rw [seg_app g h1 h2]
  rcases (by omega : s = a \/ s = m) with rfl | rfl
  . rw [seg_nil g (Nat.le_refl _), mg_nil]; rfl
  . rw [seg_nil g (Nat.le_refl s), mg_right, List.append_nil]
 rw [this, put_seg]
theorem sym_segs (g : Nat -> α) {a m b s e mid : Nat} (h1 : a <= s) (h2 : s <= m) (h3 : m <= e) (h4 : e <= b) (he : e + s = mid + m) :
 seg (rot g s m e) a s = seg g a s /\ seg (rot g s m e) s mid = seg g m e /\ seg (rot g s m e) mid e = seg g s m /\ seg (rot g s m e) e b = seg g e b := by
 have hm : s + (e - m) = mid := by omega
 refine ⟨?_, ?_, ?_, ?_⟩
 . exact seg_eq fun k _ hk => rot_out g h2 h3 (.inl hk)
 . have := seg_rot1 g h2 h3; rw [hm] at this; exact this
 . have := seg_rot2 g h2 h3; rw [hm] at this; exact this
 . exact seg_eq fun k hk _ => rot_out g h2 h3 (.inr hk)
theorem sym_mg (h : Wk lt) (g : Nat -> α) {a m b s e : Nat} (h1 : a <= s) (h2 : s <= m) (h3 : m <= e) (h4 : e <= b) (k1 : Std lt (seg g a m)) (k2 : Std lt (seg g m b))
 (hs : a < s -> e < b -> lt (g e) (g (s - 1)) = false) (ht : s < m -> m < e -> lt (g (e - 1)) (g s) = true) :
 mg lt (seg g a m) (seg g m b) = mg lt (seg g a s) (seg g m e) ++ mg lt (seg g s m) (seg g e b) := by
 rw [seg_app g h1 h2, seg_app g h3 h4]
 refine mg_split _ _ _ _ ?_ ?_
 . intro x hx y hy
   obtain ⟨i, i1, i2, rfl⟩ := mem_seg.1 hx
   obtain ⟨j, j1, j2, rfl⟩ := mem_seg.1 hy
   have e1 := std_le h k1 i1 (by omega : i <= s - 1) (by omega)
   have e2 := std_le h k2 h3 j1 j2
   exact h.le1 e2 (h.le1 (hs (by omega) (by omega)) e1)
 . intro y hy x hx
   obtain ⟨i, i1, i2, rfl⟩ := mem_seg.1 hx
   obtain ⟨j, j1, j2, rfl⟩ := mem_seg.1 hy
   have e1 := std_le h k1 h1 i1 i2
   have e2 := std_le h k2 j1 (by omega : j <= e - 1) (by omega)
   exact h.lt2 e1 (h.lt1 e2 (ht (by omega) (by omega)))
theorem sym_fin (h : Wk lt) (g : Nat -> α) {a m b s e mid : Nat} (h1 : a <= s) (h2 : s <= m) (h3 : m <= e) (h4 : e <= b) (he : e + s = mid + m) (k1 : Std lt (seg g a m)) (k2 : Std lt (seg g m b))
 (hs : a < s -> e < b -> lt (g e) (g (s - 1)) = false) (ht : s < m -> m < e -> lt (g (e - 1)) (g s) = true) :
 ∀ H1 H2 H3, H1 = rot g s m e -> H2 = put H1 a (mg lt (seg H1 a s) (seg H1 s mid)) -> H3 = put H2 mid (mg lt (seg H2 mid e) (seg H2 e b)) -> H3 = put g a (mg lt (seg g a m) (seg g m b)) := by
 rintro H1 H2 H3 rfl rfl rfl
 obtain ⟨q1, q2, q3, q4⟩ := sym_segs g h1 h2 h3 h4 he
 rw [q1, q2]
 have hl : (mg lt (seg g a s) (seg g m e)).length = mid - a := by rw [mg_length, seg_length, seg_length]; omega
 have r3 : seg (put (rot g s m e) a (mg lt (seg g a s) (seg g m e))) mid e = seg g s m := by
  rw [<- q3]; exact seg_eq fun k hk _ => put_out (.inr (by omega))
 have r4 : seg (put (rot g s m e) a (mg lt (seg g a s) (seg g m e))) e b = seg g e b := by
  rw [<- q4]; exact seg_eq fun k hk _ => put_out (.inr (by omega))
 rw [r3, r4, sym_mg h g h1 h2 h3 h4 k1 k2 hs ht]
 refine put2 (b := b) (fun k hk => rot_out g h2 h3 (by omega)) hl (by rw [mg_length, seg_length, seg_length]; omega) (by omega) (by omega)
theorem std_rot1 (g : Nat -> α) {a m b s e mid : Nat} (h1 : a <= s) (h2 : s <= m) (h3 : m <= e) (h4 : e <= b) (he : e + s = mid + m) (k1 : Std lt (seg g a m)) (k2 : Std lt (seg g m b)) :
 ∀ H1, H1 = rot g s m e -> Std lt (seg H1 a s) /\ Std lt (seg H1 s mid) /\ ∀ u : List α, u.length = mid - a -> Std lt (seg (put H1 a u) mid e) /\ Std lt (seg (put H1 a u) e b) := by
 rintro H1 rfl
 obtain ⟨q1, q2, q3, q4⟩ := sym_segs g h1 h2 h3 h4 he
 refine ⟨q1 ▸ std_sub k1 (Nat.le_refl _) h2, q2 ▸ std_sub k2 (Nat.le_refl _) h4, fun u hu => ⟨?_, ?_⟩⟩
 . have : seg (put (rot g s m e) a u) mid e = seg g s m := by rw [<- q3]; exact seg_eq fun k hk _ => put_out (.inr (by omega))
   rw [this]; exact std_sub k1 h1 (Nat.le_refl _)
 . have : seg (put (rot g s m e) a u) e b = seg g e b := by rw [<- q4]; exact seg_eq fun k hk _ => put_out (.inr (by omega))
   rw [this]; exact std_sub k2 h3 (Nat.le_refl _)
end
theorem hlf {x y : Nat} (h : x + y < 9223372036854775808) : IntKind.wrap .i64 ((IntKind.wrap .u64 (IntKind.wrap .i64 ((x : Int) + (y : Int)))).fdiv (2 ^ min (Int.toNat 1) (IntKind.bits .u64))) = (((x + y) / 2 : Nat) : Int) := by
 have e1 : IntKind.wrap .i64 ((x : Int) + (y : Int)) = ((x + y : Nat) : Int) := by rw [wI_id _ (by omega) (by omega)]; omega
 have e2 : IntKind.wrap .u64 ((x + y : Nat) : Int) = ((x + y : Nat) : Int) := by
  simp [IntKind.wrap, IntKind.signed, IntKind.bits]
  omega
 have e3 : (2 : Int) ^ min (Int.toNat 1) (IntKind.bits .u64) = 2 := by decide
 rw [e1, e2, e3]
 have e4 : (((x + y : Nat) : Int)).fdiv 2 = (((x + y) / 2 : Nat) : Int) := by
  rw [Int.fdiv_eq_ediv_of_nonneg _ (by omega)]; omega
 rw [e4, wI_id _ (by omega) (by omega)]
def FSym (M : Nat) : List Ar -> Option Rs
 | [.c (.ow 9 n0 f0), .c (.d (.v (.int .i64 i1))), .c (.d (.v (.int .i64 i2))), .c (.d (.v (.int .i64 i3))), .fv g4] => some ⟨(n0 <= 1099511627776 /\ ∀ i, i < n0 -> rowSB (f0 i)) /\ (-9223372036854775808 <= i1 /\ i1 < 9223372036854775808) /\ (-9223372036854775808 <= i2 /\ i2 < 9223372036854775808) /\ (-9223372036854775808 <= i3 /\ i3 < 9223372036854775808) /\ ((0 <= i1 /\ i1 < i2 /\ i2 < i3 /\ i3 <= n0) /\ g4 = gLess /\ Std ltB (seg (gF f0) (i1).toNat (i2).toNat) /\ Std ltB (seg (gF f0) (i2).toNat (i3).toNat) /\ (i3).toNat - (i1).toNat < M), .tup [], [some fun k => bdC (put (gF f0) (i1).toNat (mg ltB (seg (gF f0) (i1).toNat (i2).toNat) (seg (gF f0) (i2).toNat (i3).toNat)) k)]⟩
 | _ => none
abbrev pl2M : Plan := .take 0 (.take 1 (.take 2 (.take 3 (.take 4 (.take 5 (.take 6 (.take 7 (.take 8 (.take 10 (.take 11 (.take 12 (.all [(9, .all [(13, .take 14 (.all [(15, .take 16 (.all [(17, .done)]))]))]), (13, .all [(9, .take 14 (.all [(15, .take 16 (.all [(17, .done)]))]))])]))))))))))))
theorem fcSym : ∀ M, FC Tryz.prog 167 (FSym M) := by
 intro M
 induction M with
 | zero =>
   intro xs pre r us h hp
   unfold FSym at h
   split at h
   . cases h; exact absurd hp.2.2.2.2.2.2.2.2 (Nat.not_lt_zero _)
   . cases h
 | succ M ih =>
   intro xs pre r us h hp
   unfold FSym at h
   split at h
   . rename_i n0 f0 i1 i2 i3 g4
     cases h
     obtain ⟨hp0, hp1, hp2, hp3, hp4⟩ := hp
     refine FCat.deep (ys := [.c (.ow 9 n0 fun k => bdC (gF f0 k)), .c (.d (.v (.int .i64 i1))), .c (.d (.v (.int .i64 i2))), .c (.d (.v (.int .i64 i3))), .fv g4]) ?_ ?_
     . repeat' (first | exact trivial | exact rfl | exact DvE.refl _ | refine ⟨?_, ?_⟩ | fail)
       all_goals first | exact (canonF hp0.2).2.2
     refine fcat tys_ok (l := [(189, ⟨[true], FRot⟩), (167, ⟨[true], (FSym M)⟩)]) ⟨fcRot, ih, trivial⟩ Tryz.func167 rfl (by kernel_rfl) false ?_
     obtain ⟨⟨ha, ham, hmb, hb⟩, rfl, hs1, hs2, hM⟩ := hp4
     obtain ⟨a, rfl⟩ := Int.eq_ofNat_of_zero_le ha
     obtain ⟨m, rfl⟩ := Int.eq_ofNat_of_zero_le (Int.le_trans ha (Int.le_of_lt ham))
     obtain ⟨b, rfl⟩ := Int.eq_ofNat_of_zero_le (Int.le_trans (Int.natCast_nonneg m) (Int.le_of_lt hmb))
     have hn := hp0.1
     clear hp0
     generalize gF f0 = G at *
     simp only [Int.toNat_natCast] at *
     repeat' (first | exact trivial | refine ⟨?_, ?_⟩ | intro _)
     all_goals first | (with_reducible first | apply qa | apply qb | apply qc | apply qd) | (conv => whnf)
     . obtain rfl : m = a + 1 := by have := eq_of_beq ‹(_ == (1 : Int)) = true›; rw [wI_id _ (by omega) (by omega)] at this; omega
       refine loop_ok tys_ok (l := [(189, ⟨[true], FRot⟩), (167, ⟨[true], (FSym M)⟩)]) ⟨fcRot, ih, trivial⟩ (by kernel_rfl) (X := Nat × Nat)
        (fun x => ⟨[(10, vx (.int .i64 x.1)), (11, vx (.int .i64 x.2)), (0, .va (.c (.osl 0 9 0 n0))), (1, vx (.int .i64 a)), (2, vx (.int .i64 (a + 1 : Nat))), (3, vx (.int .i64 b)), (4, .va (.c (.fv gLess)))], [(0, .row 9 n0 fun k => bdC (G k))], 1, 220⟩)
        (fun x => x.2 - x.1) (fun x => a + 1 <= x.1 /\ x.1 <= x.2 /\ x.2 <= b /\ (∀ k, a + 1 <= k -> k < x.1 -> ltB (G k) (G a) = true) /\ (∀ k, x.2 <= k -> k < b -> ltB (G k) (G a) = false)) [] []
        (fun x _ _ => if ltB (G ((x.1 + x.2) / 2)) (G a) = true then ((x.1 + x.2) / 2 + 1, x.2) else (x.1, (x.1 + x.2) / 2)) [0] [0] 0 0 (a + 1, b) ?_ ?_ ?_
       . exact ⟨Nat.le_refl _, by show a + 1 <= b; omega, Nat.le_refl _, fun k h1 h2 => absurd h1 (Nat.not_le_of_lt h2), fun k h1 h2 => absurd h1 (Nat.not_le_of_lt h2)⟩
       . repeat' (first | exact trivial | exact rfl | (intro _ _; exact rfl) | refine ⟨?_, ?_⟩ | fail)
       . rintro ⟨i, j⟩ ⟨k1, k2, k3, k4, k5⟩
         dsimp only at k1 k2 k3 k4 k5
         rcases Nat.lt_or_ge i j with hij | hij
         . have hne : decide ((i : Int) < (j : Int)) = true := decide_eq_true (by omega)
           have hh : IntKind.wrap .i64 ((IntKind.wrap .u64 (IntKind.wrap .i64 ((i : Int) + (j : Int)))).fdiv (2 ^ min (Int.toNat 1) (IntKind.bits .u64))) = (((i + j) / 2 : Nat) : Int) := hlf (by omega)
           have hq1 : i <= (i + j) / 2 := by omega
           have hq2 : (i + j) / 2 < j := by omega
           generalize hq : (i + j) / 2 = q at *
           cases hc : ltB (G q) (G a) with
           | true =>
             repeat' (first | exact trivial | refine ⟨?_, ?_⟩ | intro _)
             all_goals first | (with_reducible first | apply qa | apply qb | apply qc | apply qd) | (conv => whnf)
             all_goals first | (exact absurd (hne.symm.trans ‹_ = false›) (by decide)) | skip
             all_goals first | (have hd := ‹decide (cfL _ _ < 0) = false›; simp only [hh, Int.toNat_natCast, Nat.zero_add] at hd; exact absurd (hc.symm.trans hd) (by decide)) | skip
             all_goals (try simp only [hh, hq, hc, if_true, Int.toNat_natCast, Nat.zero_add])
             all_goals first | rfl | omega | (dsimp only; omega) | (exact congrArg (Value.int .i64) (by first | (rw [wI_id _ (by omega) (by omega)]; omega) | omega | (dsimp only; omega))) | (rename_i kk h1 h2; simp only [hq, hc, if_true] at h1 h2; first | exact k4 _ h1 h2 | exact k5 _ h1 h2 | exact wkB.lt1 (std_le wkB hs2 (by omega) (by omega) (by omega)) hc)
           | false =>
             repeat' (first | exact trivial | refine ⟨?_, ?_⟩ | intro _)
             all_goals first | (with_reducible first | apply qa | apply qb | apply qc | apply qd) | (conv => whnf)
             all_goals first | (exact absurd (hne.symm.trans ‹_ = false›) (by decide)) | skip
             all_goals first | (have hd := ‹decide (cfL _ _ < 0) = true›; simp only [hh, Int.toNat_natCast, Nat.zero_add] at hd; exact absurd (hc.symm.trans hd) (by decide)) | skip
             all_goals (try simp only [hh, hq, hc, if_false, Bool.false_eq_true, Int.toNat_natCast, Nat.zero_add])
             all_goals first | rfl | omega | (dsimp only; omega) | (exact congrArg (Value.int .i64) (by first | (rw [wI_id _ (by omega) (by omega)]; omega) | omega | (dsimp only; omega))) | (rename_i kk h1 h2; simp only [hq, hc, if_false, Bool.false_eq_true] at h1 h2; first | exact k4 _ h1 h2 | exact k5 _ h1 h2 | exact wkB.le1 (std_le wkB hs2 (by omega) (by omega) (by omega)) hc)
         . have hne : decide ((i : Int) < (j : Int)) = false := decide_eq_false (by omega)
           obtain rfl : i = j := by omega
           repeat' (first | exact trivial | refine ⟨?_, ?_⟩ | intro _)
           all_goals first | (with_reducible first | apply qa | apply qb | apply qc | apply qd) | (conv => whnf)
           all_goals first | (exact absurd (hne.symm.trans ‹_ = true›) (by decide)) | skip
           refine loop_ok tys_ok (l := [(189, ⟨[true], FRot⟩), (167, ⟨[true], (FSym M)⟩)]) ⟨fcRot, ih, trivial⟩ (by kernel_rfl) (X := Nat)
            (fun k => ⟨[(13, vx (.int .i64 k)), (10, vx (.int .i64 i)), (0, .va (.c (.osl 0 9 0 n0))), (1, vx (.int .i64 a)), (2, vx (.int .i64 (a + 1 : Nat))), (3, vx (.int .i64 b)), (4, .va (.c (.fv gLess)))], [(0, .row 9 n0 fun x => bdC (put G a (seg G (a + 1) (k + 1) ++ G a :: seg G (k + 1) b) x))], 1, 220⟩)
            (fun k => i - k) (fun k => a <= k /\ k + 1 <= i) [] [] (fun k _ _ => k + 1) [0] [0] 0 0 a ?_ ?_ ?_
           . exact ⟨Nat.le_refl _, k1⟩
           . rw [one_start G (by omega : a < b)]
             repeat' (first | exact trivial | exact rfl | (intro _ _; exact rfl) | refine ⟨?_, ?_⟩ | fail)
           . rintro k ⟨q1, q2⟩
             have hw : IntKind.wrap .i64 ((i : Int) - 1) = ((i - 1 : Nat) : Int) := by rw [wI_id _ (by omega) (by omega)]; omega
             have hw2 : IntKind.wrap .i64 ((k : Int) + 1) = ((k + 1 : Nat) : Int) := by rw [wI_id _ (by omega) (by omega)]; omega
             rcases Nat.lt_or_ge k (i - 1) with hki | hki
             . have hne : decide ((k : Int) < IntKind.wrap .i64 ((i : Int) - 1)) = true := by rw [hw]; exact decide_eq_true (by omega)
               repeat' (first | exact trivial | refine ⟨?_, ?_⟩ | intro _)
               all_goals first | (with_reducible first | apply qa | apply qb | apply qc | apply qd) | (conv => whnf)
               all_goals first | (exact absurd (hne.symm.trans ‹_ = false›) (by decide)) | skip
               all_goals first | ((with_reducible show ASat _ _ _ _ _); refine draw_plan tys_ok (l := [(189, ⟨[true], FRot⟩), (167, ⟨[true], (FSym M)⟩)]) ⟨fcRot, ih, trivial⟩ (by kernel_rfl) pl2M (by kernel_rfl) ?_) | skip
               all_goals repeat' (first | exact trivial | refine ⟨?_, ?_⟩ | intro _)
               all_goals first | (with_reducible first | apply qa | apply qb | apply qc | apply qd) | (conv => whnf)
               all_goals (try simp only [hw, hw2, Int.toNat_natCast, Nat.zero_add])
               all_goals (try rw [setRow_at, if_neg (by omega)])
               all_goals repeat' (first | exact trivial | refine ⟨?_, ?_⟩ | intro _)
               all_goals first | (with_reducible first | apply qa | apply qb | apply qc | apply qd) | (conv => whnf)
               all_goals (try simp only [hw, hw2, Int.toNat_natCast, Nat.zero_add])
               all_goals first | rfl | omega | (dsimp only; omega) | (exact congrArg (Value.int .i64) (by first | (rw [wI_id _ (by omega) (by omega)]; omega) | omega | (dsimp only; omega))) | (exact row_swp rfl rfl (one_step G (by omega) (by omega)) _)
             . have hne : decide ((k : Int) < IntKind.wrap .i64 ((i : Int) - 1)) = false := by rw [hw]; exact decide_eq_false (by omega)
               obtain rfl : i = k + 1 := by omega
               repeat' (first | exact trivial | refine ⟨?_, ?_⟩ | intro _)
               all_goals first | (with_reducible first | apply qa | apply qb | apply qc | apply qd) | (conv => whnf)
               all_goals first | (exact absurd (hne.symm.trans ‹_ = true›) (by decide)) | skip
               all_goals first | exact Nat.le_refl _ | (rw [one_fin k1 k3 k4 k5])
     . obtain rfl : b = m + 1 := by have := eq_of_beq ‹(IntKind.wrap .i64 ((b : Int) - (m : Int)) == (1 : Int)) = true›; rw [wI_id _ (by omega) (by omega)] at this; omega
       refine loop_ok tys_ok (l := [(189, ⟨[true], FRot⟩), (167, ⟨[true], (FSym M)⟩)]) ⟨fcRot, ih, trivial⟩ (by kernel_rfl) (X := Nat × Nat)
        (fun x => ⟨[(14, vx (.int .i64 x.1)), (15, vx (.int .i64 x.2)), (0, .va (.c (.osl 0 9 0 n0))), (1, vx (.int .i64 a)), (2, vx (.int .i64 m)), (3, vx (.int .i64 (m + 1 : Nat))), (4, .va (.c (.fv gLess)))], [(0, .row 9 n0 fun k => bdC (G k))], 1, 220⟩)
        (fun x => x.2 - x.1) (fun x => a <= x.1 /\ x.1 <= x.2 /\ x.2 <= m /\ (∀ k, a <= k -> k < x.1 -> ltB (G m) (G k) = false) /\ (∀ k, x.2 <= k -> k < m -> ltB (G m) (G k) = true)) [] []
        (fun x _ _ => if ltB (G m) (G ((x.1 + x.2) / 2)) = true then (x.1, (x.1 + x.2) / 2) else ((x.1 + x.2) / 2 + 1, x.2)) [0] [0] 0 0 (a, m) ?_ ?_ ?_
       . exact ⟨Nat.le_refl _, by show a <= m; omega, Nat.le_refl _, fun k h1 h2 => absurd h1 (Nat.not_le_of_lt h2), fun k h1 h2 => absurd h1 (Nat.not_le_of_lt h2)⟩
       . repeat' (first | exact trivial | exact rfl | (intro _ _; exact rfl) | refine ⟨?_, ?_⟩ | fail)
       . rintro ⟨i, j⟩ ⟨k1, k2, k3, k4, k5⟩
         dsimp only at k1 k2 k3 k4 k5
         rcases Nat.lt_or_ge i j with hij | hij
         . have hne : decide ((i : Int) < (j : Int)) = true := decide_eq_true (by omega)
           have hh : IntKind.wrap .i64 ((IntKind.wrap .u64 (IntKind.wrap .i64 ((i : Int) + (j : Int)))).fdiv (2 ^ min (Int.toNat 1) (IntKind.bits .u64))) = (((i + j) / 2 : Nat) : Int) := hlf (by omega)
           have hq1 : i <= (i + j) / 2 := by omega
           have hq2 : (i + j) / 2 < j := by omega
           generalize hq : (i + j) / 2 = q at *
           cases hc : ltB (G m) (G q) with
           | true =>
             repeat' (first | exact trivial | refine ⟨?_, ?_⟩ | intro _)
             all_goals first | (with_reducible first | apply qa | apply qb | apply qc | apply qd) | (conv => whnf)
             all_goals first | (exact absurd (hne.symm.trans ‹_ = false›) (by decide)) | skip
             all_goals first | (have hd := ‹(!decide (cfL _ _ < 0)) = true›; simp only [hh, Int.toNat_natCast, Nat.zero_add] at hd; exact absurd ((congrArg not hc).symm.trans hd) (by decide)) | skip
             all_goals (try simp only [hh, hq, hc, if_true, Int.toNat_natCast, Nat.zero_add])
             all_goals first | rfl | omega | (dsimp only; omega) | (exact congrArg (Value.int .i64) (by first | (rw [wI_id _ (by omega) (by omega)]; omega) | omega | (dsimp only; omega))) | (rename_i kk h1 h2; simp only [hq, hc, if_true] at h1 h2; first | exact k4 _ h1 h2 | exact k5 _ h1 h2 | exact wkB.lt2 (std_le wkB hs1 (by omega) (by omega) (by omega)) hc)
           | false =>
             repeat' (first | exact trivial | refine ⟨?_, ?_⟩ | intro _)
             all_goals first | (with_reducible first | apply qa | apply qb | apply qc | apply qd) | (conv => whnf)
             all_goals first | (exact absurd (hne.symm.trans ‹_ = false›) (by decide)) | skip
             all_goals first | (have hd := ‹(!decide (cfL _ _ < 0)) = false›; simp only [hh, Int.toNat_natCast, Nat.zero_add] at hd; exact absurd ((congrArg not hc).symm.trans hd) (by decide)) | skip
             all_goals (try simp only [hh, hq, hc, if_false, Bool.false_eq_true, Int.toNat_natCast, Nat.zero_add])
             all_goals first | rfl | omega | (dsimp only; omega) | (exact congrArg (Value.int .i64) (by first | (rw [wI_id _ (by omega) (by omega)]; omega) | omega | (dsimp only; omega))) | (rename_i kk h1 h2; simp only [hq, hc, if_false, Bool.false_eq_true] at h1 h2; first | exact k4 _ h1 h2 | exact k5 _ h1 h2 | exact wkB.le1 hc (std_le wkB hs1 (by omega) (by omega) (by omega)))
         . have hne : decide ((i : Int) < (j : Int)) = false := decide_eq_false (by omega)
           obtain rfl : i = j := by omega
           repeat' (first | exact trivial | refine ⟨?_, ?_⟩ | intro _)
           all_goals first | (with_reducible first | apply qa | apply qb | apply qc | apply qd) | (conv => whnf)
           all_goals first | (exact absurd (hne.symm.trans ‹_ = true›) (by decide)) | skip
           refine loop_ok tys_ok (l := [(189, ⟨[true], FRot⟩), (167, ⟨[true], (FSym M)⟩)]) ⟨fcRot, ih, trivial⟩ (by kernel_rfl) (X := Nat)
            (fun k => ⟨[(17, vx (.int .i64 k)), (14, vx (.int .i64 i)), (0, .va (.c (.osl 0 9 0 n0))), (1, vx (.int .i64 a)), (2, vx (.int .i64 m)), (3, vx (.int .i64 (m + 1 : Nat))), (4, .va (.c (.fv gLess)))], [(0, .row 9 n0 fun x => bdC (put G a (seg G a k ++ G m :: seg G k m) x))], 1, 220⟩)
            (fun k => k - i) (fun k => i <= k /\ k <= m) [] [] (fun k _ _ => k - 1) [0] [0] 0 0 m ?_ ?_ ?_
           . exact ⟨k3, Nat.le_refl _⟩
           . rw [last_start G (by omega : a <= m)]
             repeat' (first | exact trivial | exact rfl | (intro _ _; exact rfl) | refine ⟨?_, ?_⟩ | fail)
           . rintro k ⟨q1, q2⟩
             rcases Nat.lt_or_ge i k with hki | hki
             . obtain ⟨p, rfl⟩ : ∃ p, k = p + 1 := ⟨k - 1, by omega⟩
               have hw : IntKind.wrap .i64 (((p + 1 : Nat) : Int) - 1) = (p : Int) := by rw [wI_id _ (by omega) (by omega)]; omega
               have hne : decide (((p + 1 : Nat) : Int) > (i : Int)) = true := decide_eq_true (by omega)
               repeat' (first | exact trivial | refine ⟨?_, ?_⟩ | intro _)
               all_goals first | (with_reducible first | apply qa | apply qb | apply qc | apply qd) | (conv => whnf)
               all_goals first | (exact absurd (hne.symm.trans ‹_ = false›) (by decide)) | skip
               all_goals first | ((with_reducible show ASat _ _ _ _ _); refine draw_plan tys_ok (l := [(189, ⟨[true], FRot⟩), (167, ⟨[true], (FSym M)⟩)]) ⟨fcRot, ih, trivial⟩ (by kernel_rfl) pl2M (by kernel_rfl) ?_) | skip
               all_goals repeat' (first | exact trivial | refine ⟨?_, ?_⟩ | intro _)
               all_goals first | (with_reducible first | apply qa | apply qb | apply qc | apply qd) | (conv => whnf)
               all_goals (try simp only [hw, Int.toNat_natCast, Nat.zero_add])
               all_goals (try rw [setRow_at, if_neg (by omega)])
               all_goals repeat' (first | exact trivial | refine ⟨?_, ?_⟩ | intro _)
               all_goals first | (with_reducible first | apply qa | apply qb | apply qc | apply qd) | (conv => whnf)
               all_goals (try simp only [hw, Int.toNat_natCast, Nat.zero_add, Nat.add_sub_cancel])
               all_goals first | rfl | omega | (dsimp only; omega) | (exact congrArg (Value.int .i64) (by first | (rw [wI_id _ (by omega) (by omega)]; omega) | omega | (dsimp only; omega))) | (exact row_swp rfl rfl (last_step G (by omega) (by omega)) _)
             . obtain rfl : i = k := by omega
               have hne : decide ((i : Int) > (i : Int)) = false := decide_eq_false (by omega)
               repeat' (first | exact trivial | refine ⟨?_, ?_⟩ | intro _)
               all_goals first | (with_reducible first | apply qa | apply qb | apply qc | apply qd) | (conv => whnf)
               all_goals first | (exact absurd (hne.symm.trans ‹_ = true›) (by decide)) | skip
               all_goals first | exact Nat.le_refl _ | (rw [last_fin k1 k3 k4 k5])
     . obtain ⟨mid, hmid0⟩ : ∃ mid, mid = (a + b) / 2 := ⟨_, rfl⟩
       have hmid : IntKind.wrap .i64 ((IntKind.wrap .u64 (IntKind.wrap .i64 ((a : Int) + (b : Int)))).fdiv (2 ^ min (Int.toNat 1) (IntKind.bits .u64))) = (mid : Int) := by rw [hlf (by omega), hmid0]
       have hm2 : a + 2 <= m /\ m + 2 <= b := by
        have h1 := ne_of_beq_false ‹(IntKind.wrap .i64 ((m : Int) - (a : Int)) == (1 : Int)) = false›
        have h2 := ne_of_beq_false ‹(IntKind.wrap .i64 ((b : Int) - (m : Int)) == (1 : Int)) = false›
        rw [wI_id _ (by omega) (by omega)] at h1 h2
        omega
       have hm1 : a < mid /\ mid < b /\ 2 * mid <= a + b /\ a + b <= 2 * mid + 1 := by omega
       clear hmid0
       have hwn : IntKind.wrap .i64 ((mid : Int) + (m : Int)) = ((mid + m : Nat) : Int) := by rw [wI_id _ (by omega) (by omega)]; omega
       have hwp : IntKind.wrap .i64 (((mid + m : Nat) : Int) - 1) = ((mid + m - 1 : Nat) : Int) := by rw [wI_id _ (by omega) (by omega)]; omega
       have hwl : IntKind.wrap .i64 (((mid + m : Nat) : Int) - (b : Int)) = ((mid + m : Nat) : Int) - (b : Int) := by rw [wI_id _ (by omega) (by omega)]
       have hx := of_decide_eq_true ‹decide ((m : Int) > _) = true›
       rw [hmid] at hx
       have hlh : a <= (mid + m - b) /\ (mid + m - b) <= mid /\ mid <= mid /\ mid <= m /\ mid + m - (mid + m - b) <= b /\ ((mid + m - b) = a \/ mid + m - (mid + m - b) = b) /\ (mid = mid \/ mid = m) := by
        omega
       refine loop_ok tys_ok (l := [(189, ⟨[true], FRot⟩), (167, ⟨[true], (FSym M)⟩)]) ⟨fcRot, ih, trivial⟩ (by kernel_rfl) (X := Nat × Nat)
        (fun x => ⟨[(20, vx (.int .i64 x.1)), (21, vx (.int .i64 x.2)), (22, vx (.int .i64 (mid + m - 1 : Nat))), (18, vx (.int .i64 mid)), (19, vx (.int .i64 (mid + m : Nat))), (0, .va (.c (.osl 0 9 0 n0))), (1, vx (.int .i64 a)), (2, vx (.int .i64 m)), (3, vx (.int .i64 b)), (4, .va (.c (.fv gLess)))], [(0, .row 9 n0 fun k => bdC (G k))], 1, 220⟩)
        (fun x => x.2 - x.1) (fun x => (mid + m - b) <= x.1 /\ x.1 <= x.2 /\ x.2 <= mid /\ (∀ k, (mid + m - b) <= k -> k < x.1 -> ltB (G (mid + m - 1 - k)) (G k) = false) /\ (∀ k, x.2 <= k -> k < mid -> ltB (G (mid + m - 1 - k)) (G k) = true)) [] []
        (fun x _ _ => if ltB (G (mid + m - 1 - (x.1 + x.2) / 2)) (G ((x.1 + x.2) / 2)) = true then (x.1, (x.1 + x.2) / 2) else ((x.1 + x.2) / 2 + 1, x.2)) [0] [0] 0 0 ((mid + m - b), mid) ?_ ?_ ?_
       . exact ⟨Nat.le_refl _, hlh.2.1, Nat.le_refl _, fun k h1 h2 => absurd h1 (Nat.not_le_of_lt h2), fun k h1 h2 => absurd h1 (Nat.not_le_of_lt h2)⟩
       . repeat' (first | exact trivial | exact rfl | (intro _ _; exact rfl) | refine ⟨?_, ?_⟩ | fail)
         all_goals (refine congrArg (Value.int .i64) ?_; simp only [hmid, hwn, hwp, hwl] <;> omega)
       . rintro ⟨i, j⟩ ⟨k1, k2, k3, k4, k5⟩
         dsimp only at k1 k2 k3 k4 k5
         rcases Nat.lt_or_ge i j with hij | hij
         . have hne : decide ((i : Int) < (j : Int)) = true := decide_eq_true (by omega)
           have hh : IntKind.wrap .i64 ((IntKind.wrap .u64 (IntKind.wrap .i64 ((i : Int) + (j : Int)))).fdiv (2 ^ min (Int.toNat 1) (IntKind.bits .u64))) = (((i + j) / 2 : Nat) : Int) := hlf (by omega)
           have hq1 : i <= (i + j) / 2 := by omega
           have hq2 : (i + j) / 2 < j := by omega
           generalize hq : (i + j) / 2 = q at *
           have hwc : IntKind.wrap .i64 (((mid + m - 1 : Nat) : Int) - (q : Int)) = ((mid + m - 1 - q : Nat) : Int) := by rw [wI_id _ (by omega) (by omega)]; omega
           cases hc : ltB (G (mid + m - 1 - q)) (G q) with
           | true =>
             repeat' (first | exact trivial | refine ⟨?_, ?_⟩ | intro _)
             all_goals first | (with_reducible first | apply qa | apply qb | apply qc | apply qd) | (conv => whnf)
             all_goals first | (exact absurd (hne.symm.trans ‹_ = false›) (by decide)) | skip
             all_goals first | (have hd := ‹(!decide (cfL _ _ < 0)) = true›; simp only [hh, hwc, Int.toNat_natCast, Nat.zero_add] at hd; exact absurd ((congrArg not hc).symm.trans hd) (by decide)) | skip
             all_goals (try simp only [hh, hq, hc, hwc, if_true, Int.toNat_natCast, Nat.zero_add])
             all_goals first | rfl | omega | (dsimp only; omega) | (exact congrArg (Value.int .i64) (by first | (rw [wI_id _ (by omega) (by omega)]; omega) | omega | (dsimp only; omega))) | (rename_i kk h1 h2; simp only [hq, hc, if_true] at h1 h2; first | exact k4 _ h1 h2 | exact k5 _ h1 h2 | exact wkB.lt2 (std_le wkB hs1 (by omega) h1 (by omega)) (wkB.lt1 (std_le wkB hs2 (by omega) (by omega) (by omega)) hc))
           | false =>
             repeat' (first | exact trivial | refine ⟨?_, ?_⟩ | intro _)
             all_goals first | (with_reducible first | apply qa | apply qb | apply qc | apply qd) | (conv => whnf)
             all_goals first | (exact absurd (hne.symm.trans ‹_ = false›) (by decide)) | skip
             all_goals first | (have hd := ‹(!decide (cfL _ _ < 0)) = false›; simp only [hh, hwc, Int.toNat_natCast, Nat.zero_add] at hd; exact absurd ((congrArg not hc).symm.trans hd) (by decide)) | skip
             all_goals (try simp only [hh, hq, hc, hwc, if_false, Bool.false_eq_true, Int.toNat_natCast, Nat.zero_add])
             all_goals first | rfl | omega | (dsimp only; omega) | (exact congrArg (Value.int .i64) (by first | (rw [wI_id _ (by omega) (by omega)]; omega) | omega | (dsimp only; omega))) | (rename_i kk h1 h2; simp only [hq, hc, if_false, Bool.false_eq_true] at h1 h2; first | exact k4 _ h1 h2 | exact k5 _ h1 h2 | exact wkB.le1 (std_le wkB hs2 (by omega) (by omega) (by omega)) (wkB.le1 hc (std_le wkB hs1 (by omega) (by omega) (by omega))))
         . have hne : decide ((i : Int) < (j : Int)) = false := decide_eq_false (by omega)
           obtain rfl : i = j := by omega
           obtain ⟨e, he0⟩ : ∃ e, e = mid + m - i := ⟨_, rfl⟩
           have he : e + i = mid + m := by omega
           have hwe : IntKind.wrap .i64 (((mid + m : Nat) : Int) - (i : Int)) = (e : Int) := by rw [wI_id _ (by omega) (by omega)]; omega
           have hb1 : a <= i /\ i <= m /\ m <= e /\ e <= b /\ i <= mid /\ mid <= e := by omega
           have hx1 : a < i -> e < b -> ltB (G e) (G (i - 1)) = false := by
            intro h1 h2
            have := k4 (i - 1) (by omega) (by omega)
            rw [show mid + m - 1 - (i - 1) = e by omega] at this
            exact this
           have hx2 : i < m -> m < e -> ltB (G (e - 1)) (G i) = true := by
            intro h1 h2
            have := k5 i (Nat.le_refl _) (by omega)
            rw [show mid + m - 1 - i = e - 1 by omega] at this
            exact this
           have hfin := sym_fin wkB G hb1.1 hb1.2.1 hb1.2.2.1 hb1.2.2.2.1 he hs1 hs2 hx1 hx2
           have hst1 := std_rot1 G hb1.1 hb1.2.1 hb1.2.2.1 hb1.2.2.2.1 he hs1 hs2
           have hst2 : ∀ H1 H2, H1 = rot G i m e -> H2 = put H1 a (mg ltB (seg H1 a i) (seg H1 i mid)) -> Std ltB (seg H2 mid e) /\ Std ltB (seg H2 e b) := by
            rintro H1 H2 h1 rfl
            exact (hst1 H1 h1).2.2 _ (by rw [mg_length, seg_length, seg_length]; omega)
           have hok : ∀ (H : Nat -> Bd) (i : Nat), i < n0 -> rowSB (bdC (H i)) := fun H i _ => rowSB_bdC _
           clear hx1 hx2 k4 k5 hlh hwl hwn hwp hmid he0
           repeat' (first | exact trivial | (with_reducible first | exact (hok _) | exact (fun h => absurd (hne.symm.trans h) Bool.false_ne_true)) | refine ⟨?_, ?_⟩ | (intro h; (first | have h1 := of_decide_eq_true h | have h1 := of_decide_eq_false h); clear h; (try simp only [hwe] at h1); (try dsimp only at h1); try (exfalso; omega)) | intro _)
           all_goals first | (with_reducible first | apply qa | apply qb | apply qc | apply qd) | (conv => whnf)
           all_goals (try dsimp only)
           all_goals first | rfl | omega | skip
           all_goals (try simp only [hwe, gF_bdC, Int.toNat_natCast])
           all_goals first | rfl | omega | (exact congrArg bdC (congrFun (hfin _ _ _ rfl rfl rfl) _)) | (exact congrArg bdC (congrFun (hfin _ _ _ rfl rfl (put_id _ hb1.2.2.2.2.2 hb1.2.2.2.1 (by omega)).symm) _)) | (exact congrArg bdC (congrFun (hfin _ _ _ rfl (put_id _ hb1.1 hb1.2.2.2.2.1 (by omega)).symm rfl) _)) | (exact congrArg bdC (congrFun (hfin _ _ _ rfl (put_id _ hb1.1 hb1.2.2.2.2.1 (by omega)).symm (put_id _ hb1.2.2.2.2.2 hb1.2.2.2.1 (by omega)).symm) _)) | (exact congrArg bdC (congrFun (hfin _ _ _ (rot_id G hb1.2.1 hb1.2.2.1 (by omega)).symm rfl rfl) _)) | (exact congrArg bdC (congrFun (hfin _ _ _ (rot_id G hb1.2.1 hb1.2.2.1 (by omega)).symm rfl (put_id _ hb1.2.2.2.2.2 hb1.2.2.2.1 (by omega)).symm) _)) | (exact congrArg bdC (congrFun (hfin _ _ _ (rot_id G hb1.2.1 hb1.2.2.1 (by omega)).symm (put_id _ hb1.1 hb1.2.2.2.2.1 (by omega)).symm rfl) _)) | (exact congrArg bdC (congrFun (hfin _ _ _ (rot_id G hb1.2.1 hb1.2.2.1 (by omega)).symm (put_id _ hb1.1 hb1.2.2.2.2.1 (by omega)).symm (put_id _ hb1.2.2.2.2.2 hb1.2.2.2.1 (by omega)).symm) _)) | exact (hst1 _ rfl).1 | exact (hst1 _ rfl).2.1 | exact (hst1 _ (rot_id G hb1.2.1 hb1.2.2.1 (by omega)).symm).1 | exact (hst1 _ (rot_id G hb1.2.1 hb1.2.2.1 (by omega)).symm).2.1 | exact (hst2 _ _ rfl rfl).1 | exact (hst2 _ _ rfl rfl).2 | exact (hst2 _ _ rfl (put_id _ hb1.1 hb1.2.2.2.2.1 (by omega)).symm).1 | exact (hst2 _ _ rfl (put_id _ hb1.1 hb1.2.2.2.2.1 (by omega)).symm).2 | exact (hst2 _ _ (rot_id G hb1.2.1 hb1.2.2.1 (by omega)).symm rfl).1 | exact (hst2 _ _ (rot_id G hb1.2.1 hb1.2.2.1 (by omega)).symm rfl).2 | exact (hst2 _ _ (rot_id G hb1.2.1 hb1.2.2.1 (by omega)).symm (put_id _ hb1.1 hb1.2.2.2.2.1 (by omega)).symm).1 | exact (hst2 _ _ (rot_id G hb1.2.1 hb1.2.2.1 (by omega)).symm (put_id _ hb1.1 hb1.2.2.2.2.1 (by omega)).symm).2 | skip
           all_goals trace_state
     . obtain ⟨mid, hmid0⟩ : ∃ mid, mid = (a + b) / 2 := ⟨_, rfl⟩
       have hmid : IntKind.wrap .i64 ((IntKind.wrap .u64 (IntKind.wrap .i64 ((a : Int) + (b : Int)))).fdiv (2 ^ min (Int.toNat 1) (IntKind.bits .u64))) = (mid : Int) := by rw [hlf (by omega), hmid0]
       have hm2 : a + 2 <= m /\ m + 2 <= b := by
        have h1 := ne_of_beq_false ‹(IntKind.wrap .i64 ((m : Int) - (a : Int)) == (1 : Int)) = false›
        have h2 := ne_of_beq_false ‹(IntKind.wrap .i64 ((b : Int) - (m : Int)) == (1 : Int)) = false›
        rw [wI_id _ (by omega) (by omega)] at h1 h2
        omega
       have hm1 : a < mid /\ mid < b /\ 2 * mid <= a + b /\ a + b <= 2 * mid + 1 := by omega
       clear hmid0
       have hwn : IntKind.wrap .i64 ((mid : Int) + (m : Int)) = ((mid + m : Nat) : Int) := by rw [wI_id _ (by omega) (by omega)]; omega
       have hwp : IntKind.wrap .i64 (((mid + m : Nat) : Int) - 1) = ((mid + m - 1 : Nat) : Int) := by rw [wI_id _ (by omega) (by omega)]; omega
       have hwl : IntKind.wrap .i64 (((mid + m : Nat) : Int) - (b : Int)) = ((mid + m : Nat) : Int) - (b : Int) := by rw [wI_id _ (by omega) (by omega)]
       have hx := of_decide_eq_false ‹decide ((m : Int) > _) = false›
       rw [hmid] at hx
       have hlh : a <= a /\ a <= m /\ m <= mid /\ m <= m /\ mid + m - a <= b /\ (a = a \/ mid + m - a = b) /\ (m = mid \/ m = m) := by
        omega
       refine loop_ok tys_ok (l := [(189, ⟨[true], FRot⟩), (167, ⟨[true], (FSym M)⟩)]) ⟨fcRot, ih, trivial⟩ (by kernel_rfl) (X := Nat × Nat)
        (fun x => ⟨[(20, vx (.int .i64 x.1)), (21, vx (.int .i64 x.2)), (22, vx (.int .i64 (mid + m - 1 : Nat))), (18, vx (.int .i64 mid)), (19, vx (.int .i64 (mid + m : Nat))), (0, .va (.c (.osl 0 9 0 n0))), (1, vx (.int .i64 a)), (2, vx (.int .i64 m)), (3, vx (.int .i64 b)), (4, .va (.c (.fv gLess)))], [(0, .row 9 n0 fun k => bdC (G k))], 1, 220⟩)
        (fun x => x.2 - x.1) (fun x => a <= x.1 /\ x.1 <= x.2 /\ x.2 <= m /\ (∀ k, a <= k -> k < x.1 -> ltB (G (mid + m - 1 - k)) (G k) = false) /\ (∀ k, x.2 <= k -> k < m -> ltB (G (mid + m - 1 - k)) (G k) = true)) [] []
        (fun x _ _ => if ltB (G (mid + m - 1 - (x.1 + x.2) / 2)) (G ((x.1 + x.2) / 2)) = true then (x.1, (x.1 + x.2) / 2) else ((x.1 + x.2) / 2 + 1, x.2)) [0] [0] 0 0 (a, m) ?_ ?_ ?_
       . exact ⟨Nat.le_refl _, hlh.2.1, Nat.le_refl _, fun k h1 h2 => absurd h1 (Nat.not_le_of_lt h2), fun k h1 h2 => absurd h1 (Nat.not_le_of_lt h2)⟩
       . repeat' (first | exact trivial | exact rfl | (intro _ _; exact rfl) | refine ⟨?_, ?_⟩ | fail)
         all_goals (refine congrArg (Value.int .i64) ?_; simp only [hmid, hwn, hwp, hwl] <;> omega)
       . rintro ⟨i, j⟩ ⟨k1, k2, k3, k4, k5⟩
         dsimp only at k1 k2 k3 k4 k5
         rcases Nat.lt_or_ge i j with hij | hij
         . have hne : decide ((i : Int) < (j : Int)) = true := decide_eq_true (by omega)
           have hh : IntKind.wrap .i64 ((IntKind.wrap .u64 (IntKind.wrap .i64 ((i : Int) + (j : Int)))).fdiv (2 ^ min (Int.toNat 1) (IntKind.bits .u64))) = (((i + j) / 2 : Nat) : Int) := hlf (by omega)
           have hq1 : i <= (i + j) / 2 := by omega
           have hq2 : (i + j) / 2 < j := by omega
           generalize hq : (i + j) / 2 = q at *
           have hwc : IntKind.wrap .i64 (((mid + m - 1 : Nat) : Int) - (q : Int)) = ((mid + m - 1 - q : Nat) : Int) := by rw [wI_id _ (by omega) (by omega)]; omega
           cases hc : ltB (G (mid + m - 1 - q)) (G q) with
           | true =>
             repeat' (first | exact trivial | refine ⟨?_, ?_⟩ | intro _)
             all_goals first | (with_reducible first | apply qa | apply qb | apply qc | apply qd) | (conv => whnf)
             all_goals first | (exact absurd (hne.symm.trans ‹_ = false›) (by decide)) | skip
             all_goals first | (have hd := ‹(!decide (cfL _ _ < 0)) = true›; simp only [hh, hwc, Int.toNat_natCast, Nat.zero_add] at hd; exact absurd ((congrArg not hc).symm.trans hd) (by decide)) | skip
             all_goals (try simp only [hh, hq, hc, hwc, if_true, Int.toNat_natCast, Nat.zero_add])
             all_goals first | rfl | omega | (dsimp only; omega) | (exact congrArg (Value.int .i64) (by first | (rw [wI_id _ (by omega) (by omega)]; omega) | omega | (dsimp only; omega))) | (rename_i kk h1 h2; simp only [hq, hc, if_true] at h1 h2; first | exact k4 _ h1 h2 | exact k5 _ h1 h2 | exact wkB.lt2 (std_le wkB hs1 (by omega) h1 (by omega)) (wkB.lt1 (std_le wkB hs2 (by omega) (by omega) (by omega)) hc))
           | false =>
             repeat' (first | exact trivial | refine ⟨?_, ?_⟩ | intro _)
             all_goals first | (with_reducible first | apply qa | apply qb | apply qc | apply qd) | (conv => whnf)
             all_goals first | (exact absurd (hne.symm.trans ‹_ = false›) (by decide)) | skip
             all_goals first | (have hd := ‹(!decide (cfL _ _ < 0)) = false›; simp only [hh, hwc, Int.toNat_natCast, Nat.zero_add] at hd; exact absurd ((congrArg not hc).symm.trans hd) (by decide)) | skip
             all_goals (try simp only [hh, hq, hc, hwc, if_false, Bool.false_eq_true, Int.toNat_natCast, Nat.zero_add])
             all_goals first | rfl | omega | (dsimp only; omega) | (exact congrArg (Value.int .i64) (by first | (rw [wI_id _ (by omega) (by omega)]; omega) | omega | (dsimp only; omega))) | (rename_i kk h1 h2; simp only [hq, hc, if_false, Bool.false_eq_true] at h1 h2; first | exact k4 _ h1 h2 | exact k5 _ h1 h2 | exact wkB.le1 (std_le wkB hs2 (by omega) (by omega) (by omega)) (wkB.le1 hc (std_le wkB hs1 (by omega) (by omega) (by omega))))
         . have hne : decide ((i : Int) < (j : Int)) = false := decide_eq_false (by omega)
           obtain rfl : i = j := by omega
           obtain ⟨e, he0⟩ : ∃ e, e = mid + m - i := ⟨_, rfl⟩
           have he : e + i = mid + m := by omega
           have hwe : IntKind.wrap .i64 (((mid + m : Nat) : Int) - (i : Int)) = (e : Int) := by rw [wI_id _ (by omega) (by omega)]; omega
           have hb1 : a <= i /\ i <= m /\ m <= e /\ e <= b /\ i <= mid /\ mid <= e := by omega
           have hx1 : a < i -> e < b -> ltB (G e) (G (i - 1)) = false := by
            intro h1 h2
            have := k4 (i - 1) (by omega) (by omega)
            rw [show mid + m - 1 - (i - 1) = e by omega] at this
            exact this
           have hx2 : i < m -> m < e -> ltB (G (e - 1)) (G i) = true := by
            intro h1 h2
            have := k5 i (Nat.le_refl _) (by omega)
            rw [show mid + m - 1 - i = e - 1 by omega] at this
            exact this
           have hfin := sym_fin wkB G hb1.1 hb1.2.1 hb1.2.2.1 hb1.2.2.2.1 he hs1 hs2 hx1 hx2
           have hst1 := std_rot1 G hb1.1 hb1.2.1 hb1.2.2.1 hb1.2.2.2.1 he hs1 hs2
           have hst2 : ∀ H1 H2, H1 = rot G i m e -> H2 = put H1 a (mg ltB (seg H1 a i) (seg H1 i mid)) -> Std ltB (seg H2 mid e) /\ Std ltB (seg H2 e b) := by
            rintro H1 H2 h1 rfl
            exact (hst1 H1 h1).2.2 _ (by rw [mg_length, seg_length, seg_length]; omega)
           have hok : ∀ (H : Nat -> Bd) (i : Nat), i < n0 -> rowSB (bdC (H i)) := fun H i _ => rowSB_bdC _
           clear hx1 hx2 k4 k5 hlh hwl hwn hwp hmid he0
           repeat' (first | exact trivial | (with_reducible first | exact (hok _) | exact (fun h => absurd (hne.symm.trans h) Bool.false_ne_true)) | refine ⟨?_, ?_⟩ | (intro h; (first | have h1 := of_decide_eq_true h | have h1 := of_decide_eq_false h); clear h; (try simp only [hwe] at h1); (try dsimp only at h1); try (exfalso; omega)) | intro _)
           all_goals first | (with_reducible first | apply qa | apply qb | apply qc | apply qd) | (conv => whnf)
           all_goals (try dsimp only)
           all_goals first | rfl | omega | skip
           all_goals (try simp only [hwe, gF_bdC, Int.toNat_natCast])
           all_goals first | rfl | omega | (exact congrArg bdC (congrFun (hfin _ _ _ rfl rfl rfl) _)) | (exact congrArg bdC (congrFun (hfin _ _ _ rfl rfl (put_id _ hb1.2.2.2.2.2 hb1.2.2.2.1 (by omega)).symm) _)) | (exact congrArg bdC (congrFun (hfin _ _ _ rfl (put_id _ hb1.1 hb1.2.2.2.2.1 (by omega)).symm rfl) _)) | (exact congrArg bdC (congrFun (hfin _ _ _ rfl (put_id _ hb1.1 hb1.2.2.2.2.1 (by omega)).symm (put_id _ hb1.2.2.2.2.2 hb1.2.2.2.1 (by omega)).symm) _)) | (exact congrArg bdC (congrFun (hfin _ _ _ (rot_id G hb1.2.1 hb1.2.2.1 (by omega)).symm rfl rfl) _)) | (exact congrArg bdC (congrFun (hfin _ _ _ (rot_id G hb1.2.1 hb1.2.2.1 (by omega)).symm rfl (put_id _ hb1.2.2.2.2.2 hb1.2.2.2.1 (by omega)).symm) _)) | (exact congrArg bdC (congrFun (hfin _ _ _ (rot_id G hb1.2.1 hb1.2.2.1 (by omega)).symm (put_id _ hb1.1 hb1.2.2.2.2.1 (by omega)).symm rfl) _)) | (exact congrArg bdC (congrFun (hfin _ _ _ (rot_id G hb1.2.1 hb1.2.2.1 (by omega)).symm (put_id _ hb1.1 hb1.2.2.2.2.1 (by omega)).symm (put_id _ hb1.2.2.2.2.2 hb1.2.2.2.1 (by omega)).symm) _)) | exact (hst1 _ rfl).1 | exact (hst1 _ rfl).2.1 | exact (hst1 _ (rot_id G hb1.2.1 hb1.2.2.1 (by omega)).symm).1 | exact (hst1 _ (rot_id G hb1.2.1 hb1.2.2.1 (by omega)).symm).2.1 | exact (hst2 _ _ rfl rfl).1 | exact (hst2 _ _ rfl rfl).2 | exact (hst2 _ _ rfl (put_id _ hb1.1 hb1.2.2.2.2.1 (by omega)).symm).1 | exact (hst2 _ _ rfl (put_id _ hb1.1 hb1.2.2.2.2.1 (by omega)).symm).2 | exact (hst2 _ _ (rot_id G hb1.2.1 hb1.2.2.1 (by omega)).symm rfl).1 | exact (hst2 _ _ (rot_id G hb1.2.1 hb1.2.2.1 (by omega)).symm rfl).2 | exact (hst2 _ _ (rot_id G hb1.2.1 hb1.2.2.1 (by omega)).symm (put_id _ hb1.1 hb1.2.2.2.2.1 (by omega)).symm).1 | exact (hst2 _ _ (rot_id G hb1.2.1 hb1.2.2.1 (by omega)).symm (put_id _ hb1.1 hb1.2.2.2.2.1 (by omega)).symm).2 | skip
           all_goals trace_state
   . cases h
section
variable {α : Type} [Inhabited α] {lt : α → α → Bool}
def BS (lt : α -> α -> Bool) (G H : Nat -> α) (D n : Nat) : Prop := (∀ c, D ∣ c -> c < n -> seg H c (min (c + D) n) = srt lt (seg G c (min (c + D) n))) /\ ∀ k, n <= k -> H k = G k
def PB (lt : α -> α -> Bool) (G H H' : Nat -> α) (D a : Nat) : Prop := D ∣ a /\ (∀ c, D ∣ c -> c + D <= a -> seg H' c (c + D) = srt lt (seg G c (c + D))) /\ ∀ k, a <= k -> H' k = H k
theorem dvd_gap {D c a : Nat} (h1 : D ∣ c) (h2 : D ∣ a) (h : c < a) : c + D <= a := by
 have := Nat.le_of_dvd (by omega) (Nat.dvd_sub h2 h1)
 omega
theorem PB.start (G H : Nat -> α) (D : Nat) (hD : 0 < D) : PB lt G H H D 0 := ⟨Nat.dvd_zero _, fun c _ h => by omega, fun _ _ => rfl⟩
theorem PB.step {G H H' : Nat -> α} {D a : Nat} (h : PB lt G H H' D a) (hD : 0 < D) : PB lt G H (put H' a (srt lt (seg G a (a + D)))) D (a + D) := by
 obtain ⟨h1, h2, h3⟩ := h
 have hl : (srt lt (seg G a (a + D))).length = a + D - a := by rw [srt_length, seg_length]
 refine ⟨(Nat.dvd_add_right h1).2 (Nat.dvd_refl D), fun c hc hcd => ?_, fun k hk => ?_⟩
 . rcases Nat.lt_or_ge c a with hca | hca
   . have := dvd_gap hc h1 hca
     rw [<- h2 c hc this]
     exact seg_eq fun k _ hk => put_out (.inl (by omega))
   . have : c = a := by omega
     subst this
     exact seg_put _ _ _ _ hl (by omega)
 . rw [put_out (.inr (by omega)), h3 k (by omega)]
theorem PB.done {G H H' : Nat -> α} {D a n : Nat} (h : PB lt G H H' D a) (hD : 0 < D) (ha : a <= n) (hn : n < a + D) (hH : ∀ k, n <= k -> H k = G k) : BS lt G (put H' a (srt lt (seg G a n))) D n := by
 obtain ⟨h1, h2, h3⟩ := h
 have hl : (srt lt (seg G a n)).length = n - a := by rw [srt_length, seg_length]
 refine ⟨fun c hc hcn => ?_, fun k hk => ?_⟩
 . rcases Nat.lt_or_ge c a with hca | hca
   . have := dvd_gap hc h1 hca
     have e : min (c + D) n = c + D := by omega
     rw [e, <- h2 c hc this]
     exact seg_eq fun k _ hk => put_out (.inl (by omega))
   . have : c = a := by
      rcases Nat.lt_or_ge a c with h4 | h4
      . have := dvd_gap h1 hc h4; omega
      . omega
     subst this
     have e : min (c + D) n = n := by omega
     rw [e]
     exact seg_put _ _ _ _ hl (by omega)
 . rw [put_out (.inr (by omega)), h3 k (by omega), hH k hk]
theorem BS.two (hw : Wk lt) {G H H' : Nat -> α} {B a e n : Nat} (h : BS lt G H B n) (hp : PB lt G H H' (2 * B) a) (hB : 0 < B) (h1 : a + B < e) (h2 : e <= a + 2 * B) (h3 : e <= n) (h4 : e = a + 2 * B \/ e = n) :
 seg H' a (a + B) = srt lt (seg G a (a + B)) /\ seg H' (a + B) e = srt lt (seg G (a + B) e) /\ mg lt (seg H' a (a + B)) (seg H' (a + B) e) = srt lt (seg G a e) := by
 have d1 : B ∣ a := Nat.dvd_trans ⟨2, Nat.mul_comm 2 B⟩ hp.1
 have d2 : B ∣ a + B := (Nat.dvd_add_right d1).2 (Nat.dvd_refl B)
 have k1 := h.1 a d1 (by omega)
 have k2 := h.1 (a + B) d2 (by omega)
 rw [show min (a + B) n = a + B by omega] at k1
 rw [show min (a + B + B) n = e by omega] at k2
 have e1 : seg H' a (a + B) = seg H a (a + B) := seg_eq fun k hk _ => hp.2.2 k hk
 have e2 : seg H' (a + B) e = seg H (a + B) e := seg_eq fun k hk _ => hp.2.2 k (by omega)
 rw [e1, e2, k1, k2]
 refine ⟨rfl, rfl, ?_⟩
 rw [<- srt_append hw, <- seg_app G (by omega) (by omega)]
theorem BS.one {G H H' : Nat -> α} {B a n : Nat} (h : BS lt G H B n) (hp : PB lt G H H' (2 * B) a) (h1 : n <= a + B) (h2 : a <= n) : put H' a (srt lt (seg G a n)) = H' := by
 have e1 : seg H' a n = srt lt (seg G a n) := by
  rcases Nat.lt_or_ge a n with h3 | h3
  . have k1 := h.1 a (Nat.dvd_trans ⟨2, Nat.mul_comm 2 B⟩ hp.1) h3
    rw [show min (a + B) n = n by omega] at k1
    rw [<- k1]
    exact seg_eq fun k hk _ => hp.2.2 k hk
  . rw [seg_nil _ h3, seg_nil _ h3]; rfl
 rw [<- e1, put_seg]
theorem BS.fin {G H : Nat -> α} {B n : Nat} (h : BS lt G H B n) (hn : n <= B) : H = put G 0 (srt lt (seg G 0 n)) := by
 rcases Nat.eq_zero_or_pos n with h0 | h0
 . subst h0
   funext k
   rw [h.2 k (Nat.zero_le _)]
   exact (put_out (by rw [srt_length, seg_length]; omega)).symm
 . have k1 := h.1 0 (Nat.dvd_zero _) h0
   rw [show min (0 + B) n = n by omega] at k1
   rw [<- k1]
   funext k
   rcases Nat.lt_or_ge k n with hk | hk
   . have := putAt (g := G) (a := 0) (l := seg H 0 n) (k := k) (by rw [seg_length]; omega)
     rw [Nat.zero_add] at this
     rw [this, seg_getD (by omega), Nat.zero_add]
   . rw [put_out (by rw [seg_length]; omega)]; exact h.2 k hk
end
def FStable : List Ar -> Option Rs
 | [.c (.ow 9 n0 f0), .c (.d (.v (.int .i64 i1))), .fv g2] => some ⟨(n0 <= 1099511627776 /\ ∀ i, i < n0 -> rowSB (f0 i)) /\ (-9223372036854775808 <= i1 /\ i1 < 9223372036854775808) /\ ((0 <= i1 /\ i1 <= n0) /\ g2 = gLess), .tup [], [some fun k => bdC (put (gF f0) 0 (srt ltB (seg (gF f0) 0 (i1).toNat)) k)]⟩
 | _ => none
theorem fcStable : FC Tryz.prog 121 FStable := by
 intro xs pre r us h hp
 unfold FStable at h
 split at h
 . rename_i n0 f0 i1 g2
   cases h
   obtain ⟨hp0, hp1, hp2⟩ := hp
   refine FCat.deep (ys := [.c (.ow 9 n0 fun k => bdC (gF f0 k)), .c (.d (.v (.int .i64 i1))), .fv g2]) ?_ ?_
   . repeat' (first | exact trivial | exact rfl | exact DvE.refl _ | refine ⟨?_, ?_⟩ | fail)
     all_goals first | exact (canonF hp0.2).2.2
   refine fcat tys_ok (l := [(166, ⟨[true], FInsSort⟩), (167, ⟨[true], (FSym 2199023255552)⟩)]) ⟨fcInsSort, (fcSym 2199023255552), trivial⟩ Tryz.func121 rfl (by kernel_rfl) false ?_
   obtain ⟨⟨ha, hb⟩, rfl⟩ := hp2
   obtain ⟨n, rfl⟩ := Int.eq_ofNat_of_zero_le ha
   have hn := hp0.1
   clear hp0
   generalize gF f0 = G at *
   have hok : ∀ (H : Nat -> Bd) (i : Nat), i < n0 -> rowSB (bdC (H i)) := fun H i _ => rowSB_bdC _
   simp only [Int.toNat_natCast] at *
   repeat' (first | exact trivial | refine ⟨?_, ?_⟩ | intro _)
   all_goals first | (with_reducible first | apply qa | apply qb | apply qc | apply qd) | (conv => whnf)
   refine loop_ok tys_ok (l := [(166, ⟨[true], FInsSort⟩), (167, ⟨[true], (FSym 2199023255552)⟩)]) ⟨fcInsSort, (fcSym 2199023255552), trivial⟩ (by kernel_rfl) (X := Nat × (Nat -> Bd))
    (fun x => ⟨[(6, vx (.int .i64 20)), (7, vx (.int .i64 x.1)), (8, vx (.int .i64 (x.1 + 20 : Nat))), (0, .va (.c (.osl 0 9 0 n0))), (1, vx (.int .i64 n)), (2, .va (.c (.fv gLess)))], [(0, .row 9 n0 fun k => bdC (x.2 k))], 1, 63⟩)
    (fun x => n - x.1) (fun x => x.1 <= n /\ PB ltB G G x.2 20 x.1) [] []
    (fun x _ _ => (x.1 + 20, put x.2 x.1 (srt ltB (seg x.2 x.1 (x.1 + 20))))) [0] [0] 0 0 (0, G) ?_ ?_ ?_
   . exact ⟨Nat.zero_le _, PB.start G G 20 (by decide)⟩
   . repeat' (first | exact trivial | exact rfl | (intro _ _; exact rfl) | refine ⟨?_, ?_⟩ | fail)
   . rintro ⟨a, H⟩ ⟨k1, k2⟩
     dsimp only at k1 k2
     have hE : ∀ e, seg H a e = seg G a e := fun e => seg_eq fun k hk _ => k2.2.2 k hk
     have hw : IntKind.wrap .i64 (((a + 20 : Nat) : Int) + 20) = ((a + 20 + 20 : Nat) : Int) := by rw [wI_id _ (by omega) (by omega)]; omega
     rcases Nat.lt_or_ge n (a + 20) with hc | hc
     . have hne : decide (((a + 20 : Nat) : Int) <= (n : Int)) = false := decide_eq_false (by omega)
       repeat' (first | exact trivial | (with_reducible exact (hok _)) | refine ⟨?_, ?_⟩ | intro _)
       all_goals first | (with_reducible first | apply qa | apply qb | apply qc | apply qd) | (conv => whnf)
       all_goals first | (exact absurd (hne.symm.trans ‹_ = true›) (by decide)) | skip
       all_goals first | omega | (dsimp only; omega) | exact hok _ _ ‹_› | skip
       have hd := k2.done (by decide) k1 hc (fun _ _ => rfl)
       refine loop_ok tys_ok (l := [(166, ⟨[true], FInsSort⟩), (167, ⟨[true], (FSym 2199023255552)⟩)]) ⟨fcInsSort, (fcSym 2199023255552), trivial⟩ (by kernel_rfl) (X := Nat × (Nat -> Bd))
        (fun x => ⟨[(6, vx (.int .i64 x.1)), (0, .va (.c (.osl 0 9 0 n0))), (1, vx (.int .i64 n)), (2, .va (.c (.fv gLess)))], [(0, .row 9 n0 fun k => bdC (x.2 k))], 1, 63⟩)
        (fun x => n - x.1) (fun x => 0 < x.1 /\ (x.1 = 20 \/ x.1 < 2 * n) /\ BS ltB G x.2 x.1 n) [] [0]
        (fun x _ bs => (2 * x.1, match bs with | [.row _ _ f] => gF f | _ => G)) [0] [0] 0 0 (20, put H a (srt ltB (seg G a n))) ?_ ?_ ?_
       . exact ⟨Nat.zero_lt_succ _, .inl rfl, hd⟩
       . repeat' (first | exact trivial | exact rfl | (intro _ _; exact rfl) | refine ⟨?_, ?_⟩ | fail)
         all_goals (intro i _; dsimp only; simp only [gF_bdC, hE, Int.toNat_natCast])
       . rintro ⟨B, H1⟩ ⟨q1, q2, q3⟩
         dsimp only at q1 q2 q3
         clear hd k1 k2 hE hw hc hne
         rcases Nat.lt_or_ge B n with hc | hc
         . have hne : decide ((B : Int) < (n : Int)) = true := decide_eq_true (by omega)
           have hw2 : IntKind.wrap .i64 (2 * (B : Int)) = ((2 * B : Nat) : Int) := by rw [wI_id _ (by omega) (by omega)]; omega
           have hw5 : IntKind.wrap .i64 ((B : Int) * 2) = ((2 * B : Nat) : Int) := by rw [wI_id _ (by omega) (by omega)]; omega
           repeat' (first | exact trivial | refine ⟨?_, ?_⟩ | intro _)
           all_goals first | (with_reducible first | apply qa | apply qb | apply qc | apply qd) | (conv => whnf)
           all_goals first | (exact absurd (hne.symm.trans ‹_ = false›) (by decide)) | skip
           refine loop_ok tys_ok (l := [(166, ⟨[true], FInsSort⟩), (167, ⟨[true], (FSym 2199023255552)⟩)]) ⟨fcInsSort, (fcSym 2199023255552), trivial⟩ (by kernel_rfl) (X := Nat × (Nat -> Bd))
            (fun x => ⟨[(6, vx (.int .i64 B)), (7, vx (.int .i64 x.1)), (8, vx (.int .i64 (x.1 + 2 * B : Nat))), (0, .va (.c (.osl 0 9 0 n0))), (1, vx (.int .i64 n)), (2, .va (.c (.fv gLess)))], [(0, .row 9 n0 fun k => bdC (x.2 k))], 1, 63⟩)
            (fun x => n - x.1) (fun x => x.1 <= n /\ PB ltB G H1 x.2 (2 * B) x.1) [] []
            (fun x _ _ => (x.1 + 2 * B, put x.2 x.1 (srt ltB (seg G x.1 (x.1 + 2 * B))))) [0] [0] 0 0 (0, H1) ?_ ?_ ?_
           . exact ⟨Nat.zero_le _, PB.start G H1 (2 * B) (by omega)⟩
           . repeat' (first | exact trivial | exact rfl | (intro _ _; exact rfl) | refine ⟨?_, ?_⟩ | fail)
             all_goals (refine congrArg (Value.int .i64) ?_; rw [hw2]; dsimp only; omega)
           . rintro ⟨a, H⟩ ⟨k1, k2⟩
             dsimp only at k1 k2
             have hw3 : IntKind.wrap .i64 ((a : Int) + (B : Int)) = ((a + B : Nat) : Int) := by rw [wI_id _ (by omega) (by omega)]; omega
             have hw4 : IntKind.wrap .i64 (((a + 2 * B : Nat) : Int) + ((2 * B : Nat) : Int)) = ((a + 2 * B + 2 * B : Nat) : Int) := by rw [wI_id _ (by omega) (by omega)]; omega
             rcases Nat.lt_or_ge n (a + 2 * B) with hd | hd
             . have hn2 : decide (((a + 2 * B : Nat) : Int) <= (n : Int)) = false := decide_eq_false (by omega)
               have hfin := k2.done (by omega) k1 hd q3.2
               rcases Nat.lt_or_ge (a + B) n with hm | hm
               . have hn3 : decide (IntKind.wrap .i64 ((a : Int) + (B : Int)) < (n : Int)) = true := by rw [hw3]; exact decide_eq_true (by omega)
                 have ht := q3.two wkB k2 q1 hm (by omega) (Nat.le_refl n) (.inr rfl)
                 have hs1 : Std ltB (seg H a (a + B)) := by rw [ht.1]; exact srt_srt wkB _
                 have hs2 : Std ltB (seg H (a + B) n) := by rw [ht.2.1]; exact srt_srt wkB _
                 repeat' (first | exact trivial | (with_reducible first | exact (hok _) | exact (fun h => absurd (hn2.symm.trans h) Bool.false_ne_true) | exact (fun h => absurd (h.symm.trans hn2) Bool.false_ne_true) | exact (fun h => absurd (hn3.symm.trans h) Bool.false_ne_true) | exact (fun h => absurd (h.symm.trans hn3) Bool.false_ne_true)) | refine ⟨?_, ?_⟩ | intro _)
                 all_goals first | (with_reducible first | apply qa | apply qb | apply qc | apply qd) | (conv => whnf)
                 all_goals first | (exact absurd (hn2.symm.trans ‹_ = true›) (by decide)) | (exact absurd (hn3.symm.trans ‹_ = false›) (by decide)) | skip
                 all_goals (try dsimp only)
                 all_goals (try simp only [hw2, hw3, hw4, hw5, gF_bdC, ht.2.2, Int.toNat_natCast])
                 all_goals first | rfl | omega | exact hs1 | exact hs2 | exact hfin.1 _ ‹_› ‹_› | exact hfin.2 _ ‹_›
               . have hn3 : decide (IntKind.wrap .i64 ((a : Int) + (B : Int)) < (n : Int)) = false := by rw [hw3]; exact decide_eq_false (by omega)
                 rw [q3.one k2 hm k1] at hfin
                 repeat' (first | exact trivial | (with_reducible first | exact (hok _) | exact (fun h => absurd (hn2.symm.trans h) Bool.false_ne_true) | exact (fun h => absurd (h.symm.trans hn2) Bool.false_ne_true) | exact (fun h => absurd (hn3.symm.trans h) Bool.false_ne_true) | exact (fun h => absurd (h.symm.trans hn3) Bool.false_ne_true)) | refine ⟨?_, ?_⟩ | intro _)
                 all_goals first | (with_reducible first | apply qa | apply qb | apply qc | apply qd) | (conv => whnf)
                 all_goals first | (exact absurd (hn2.symm.trans ‹_ = true›) (by decide)) | (exact absurd (hn3.symm.trans ‹_ = true›) (by decide)) | skip
                 all_goals (try dsimp only)
                 all_goals (try simp only [hw2, hw3, hw4, hw5, gF_bdC, Int.toNat_natCast])
                 all_goals first | rfl | omega | exact hfin.1 _ ‹_› ‹_› | exact hfin.2 _ ‹_›
             . have hn2 : decide (((a + 2 * B : Nat) : Int) <= (n : Int)) = true := decide_eq_true (by omega)
               have ht := q3.two wkB k2 q1 (by omega : a + B < a + 2 * B) (Nat.le_refl _) hd (.inl rfl)
               have hs1 : Std ltB (seg H a (a + B)) := by rw [ht.1]; exact srt_srt wkB _
               have hs2 : Std ltB (seg H (a + B) (a + 2 * B)) := by rw [ht.2.1]; exact srt_srt wkB _
               have hs := k2.step (by omega)
               have hdv := hs.1
               repeat' (first | exact trivial | (with_reducible first | exact (hok _) | exact hdv) | refine ⟨?_, ?_⟩ | intro _)
               all_goals first | (with_reducible first | apply qa | apply qb | apply qc | apply qd) | (conv => whnf)
               all_goals first | (exact absurd (hn2.symm.trans ‹_ = false›) (by decide)) | skip
               all_goals (try dsimp only)
               all_goals (try simp only [hw2, hw3, hw4, hw5, gF_bdC, ht.2.2, Int.toNat_natCast])
               all_goals first | rfl | omega | exact hs1 | exact hs2 | exact hs.1 | exact hs.2.1 _ ‹_› ‹_› | exact hs.2.2 _ ‹_›
         . have hne : decide ((B : Int) < (n : Int)) = false := decide_eq_false (by omega)
           have hf := q3.fin hc
           repeat' (first | exact trivial | refine ⟨?_, ?_⟩ | intro _)
           all_goals first | (with_reducible first | apply qa | apply qb | apply qc | apply qd) | (conv => whnf)
           all_goals first | (exact absurd (hne.symm.trans ‹_ = true›) (by decide)) | skip
           all_goals first | exact Nat.le_refl _ | exact congrArg bdC (congrFun hf _)
     . have hne : decide (((a + 20 : Nat) : Int) <= (n : Int)) = true := decide_eq_true (by omega)
       have hs := k2.step (by decide)
       have hdv := hs.1
       repeat' (first | exact trivial | (with_reducible first | exact (hok _) | exact hdv) | refine ⟨?_, ?_⟩ | intro _)
       all_goals first | (with_reducible first | apply qa | apply qb | apply qc | apply qd) | (conv => whnf)
       all_goals first | (exact absurd (hne.symm.trans ‹_ = false›) (by decide)) | skip
       all_goals (try dsimp only)
       all_goals (try simp only [hE, hw, gF_bdC, Int.toNat_natCast])
       all_goals first | rfl | omega | exact hs.1 | exact hs.2.1 _ ‹_› ‹_› | exact hs.2.2 _ ‹_›
 . cases h
def ddA (p : Bd) : List Bd -> List Bd
 | [] => []
 | y :: r => if y.name = p.name then ddA y r else y :: ddA y r
def dd : List Bd -> List Bd
 | [] => []
 | x :: r => x :: ddA x r
theorem ddA_snoc (r : List Bd) (p y : Bd) : ddA p (r ++ [y]) = if y.name = (r.getLastD p).name then ddA p r else ddA p r ++ [y] := by
 induction r generalizing p with
 | nil => simp only [List.nil_append, ddA]; rfl
 | cons x r ih =>
   have e : (x :: r).getLastD p = r.getLastD x := by cases r <;> simp [List.getLastD]
   rw [List.cons_append, ddA, ddA, ih x, e]
   split <;> split <;> rfl
theorem dd_snoc (l : List Bd) (x y : Bd) : dd (l ++ [x] ++ [y]) = if y.name = x.name then dd (l ++ [x]) else dd (l ++ [x]) ++ [y] := by
 cases l with
 | nil => simp only [List.nil_append, List.cons_append, dd, ddA]; split <;> rfl
 | cons a l =>
   have e : (l ++ [x]).getLastD a = x := by simp
   simp only [List.cons_append, dd]
   rw [ddA_snoc, e]
   split <;> rfl
theorem ddA_len (r : List Bd) (p : Bd) : (ddA p r).length <= r.length := by
 induction r generalizing p with
 | nil => exact Nat.le_refl _
 | cons x r ih => rw [ddA]; have := ih x; split <;> simp <;> omega
theorem dd_len (l : List Bd) : (dd l).length <= l.length := by
 cases l with
 | nil => exact Nat.le_refl _
 | cons x r => simp only [dd, List.length_cons]; have := ddA_len r x; omega
theorem dd_seg (G : Nat -> Bd) (k : Nat) : dd (seg G 0 (k + 1 + 1)) = if (G (k + 1)).name = (G k).name then dd (seg G 0 (k + 1)) else dd (seg G 0 (k + 1)) ++ [G (k + 1)] := by
 rw [seg_snoc G (Nat.zero_le (k + 1)), seg_snoc G (Nat.zero_le k), dd_snoc]
theorem dd_small (G : Nat -> Bd) {n : Nat} (h : n < 2) : dd (seg G 0 n) = seg G 0 n := by
 rcases (by omega : n = 0 \/ n = 1) with rfl | rfl <;> rfl
theorem row_push {G : Nat -> Bd} {L : List Bd} {x : Bd} {i : Nat} {r : List DV} (hi : i = L.length) (hr : r = bdC x) (k : Nat) : setRow (fun k => bdC (put G 0 L k)) i r k = bdC (put G 0 (L ++ [x]) k) := by
 subst hi; subst hr
 rw [setRow_at]
 split
 . rename_i h; subst h
   have := put_mid G 0 L x []
   rw [Nat.zero_add] at this
   rw [this]
 . rename_i h
   unfold put
   rw [List.length_append]
   by_cases c : k < L.length
   . rw [if_pos (by omega), if_pos (by simp; omega), List.getD_eq_getElem?_getD, List.getD_eq_getElem?_getD, List.getElem?_append_left (by omega)]
   . rw [if_neg (by omega), if_neg (by simp; omega)]
theorem clr_lo {f : Nat -> List DV} {o len : Nat} {ds : List DV} {k : Nat} (h : k < o) : clrRow f o len ds k = f k := by
 unfold clrRow; rw [if_neg (by omega)]
theorem seg_gBs (n : Nat) (f : Nat -> List DV) : seg (gF f) 0 n = gBs n f := by
 unfold seg gBs gF
 rw [Nat.sub_zero, List.range_eq_range']
theorem put_atB {G : Nat -> Bd} {l : List Bd} {k : Nat} (h : k < l.length) : put G 0 l k = atB l k := by
 have := putAt (g := G) (a := 0) h
 rw [Nat.zero_add] at this; exact this
theorem seg_at {G : Nat -> Bd} {n k : Nat} (h : k < n) : atB (seg G 0 n) k = G k := by
 unfold atB; rw [seg_getD (by omega), Nat.zero_add]
def FSameN : List Ar -> Option Rs
 | [.agg [.d (.v (.string x0)), .d (.v (.bool _)), .d (.v (.int .i64 _)), .d (.v (.int .i64 _)), .d (.v (.bool _)), .d (.v (.int .i64 _)), .d (.v (.int .i64 _)), .d (.v (.bool _)), .d (.lst 1 _ _)], .agg [.d (.v (.string x1)), .d (.v (.bool _)), .d (.v (.int .i64 _)), .d (.v (.int .i64 _)), .d (.v (.bool _)), .d (.v (.int .i64 _)), .d (.v (.int .i64 _)), .d (.v (.bool _)), .d (.lst 1 _ _)]] => some ⟨True, .va (.c (.d (bo (decide (x0 = x1))))), []⟩
 | _ => none
theorem fcSameN : FC Tryz.prog 72 FSameN := by
 intro xs pre r us h hp
 unfold FSameN at h
 split at h
 . rename_i x0 s0 l0 h0 b0 m0 r0 z0 n0 f0 x1 s1 l1 h1 b1 m1 r1 z1 n1 f1
   cases h
   refine fcat tys_ok (l := []) trivial Tryz.func72 rfl (by kernel_rfl) false ?_
   repeat' (first | exact trivial | refine ⟨?_, ?_⟩ | intro _)
   all_goals first | (with_reducible first | apply qa | apply qb | apply qc | apply qd) | (conv => whnf)
   all_goals exact congrArg Value.bool (seq_iff _ _)
 . cases h
abbrev gSame : List Cv -> Option Gs := mkFv (sums [(72, ⟨[], FSameN⟩)]) 72 []
def FCompact : List Ar -> Option Rs
 | [.c (.ow 9 n0 f0), .fv g1] => some ⟨(n0 <= 1099511627776 /\ ∀ i, i < n0 -> rowSB (f0 i)) /\ (g1 = gSame), .va (.c (.ow 9 (dd (gBs n0 f0)).length (rwB (dd (gBs n0 f0))))), [none]⟩
 | _ => none
theorem fcCompact : FC Tryz.prog 71 FCompact := by
 intro xs pre r us h hp
 unfold FCompact at h
 split at h
 . rename_i n0 f0 g1
   cases h
   obtain ⟨hp0, hp1⟩ := hp
   refine FCat.deep (ys := [.c (.ow 9 n0 fun k => bdC (gF f0 k)), .fv g1]) ?_ ?_
   . repeat' (first | exact trivial | exact rfl | exact DvE.refl _ | refine ⟨?_, ?_⟩ | fail)
     all_goals first | exact (canonF hp0.2).2.2
   refine fcat tys_ok (l := []) trivial Tryz.func71 rfl (by kernel_rfl) false ?_
   obtain rfl := hp1
   have hn := hp0.1
   clear hp0
   rw [<- seg_gBs]
   generalize gF f0 = G at *
   have hl := dd_len (seg G 0 n0)
   rw [seg_length] at hl
   repeat' (first | exact trivial | refine ⟨?_, ?_⟩ | intro _)
   all_goals first | (with_reducible first | apply qa | apply qb | apply qc | apply qd) | (conv => whnf)
   all_goals first | (have hlt := of_decide_eq_true ‹_ = true›; have hd := dd_small G (n := n0) (by omega); first | omega | (rw [hd, seg_length]; rfl) | (rename_i i hi; rw [hd]; exact congrArg bdC (seg_at hi).symm)) | skip
   have hge := of_decide_eq_false ‹_ = false›
   refine loop_ok tys_ok (l := []) trivial (by kernel_rfl) (X := Nat)
    (fun k => ⟨[(5, vx (.int .i64 (k + 1 : Nat))), (0, .va (.c (.osl 0 9 0 n0))), (1, .va (.c (.fv gSame)))], [(0, .row 9 n0 fun k => bdC (G k))], 1, 66⟩)
    (fun k => n0 - k) (fun k => k + 1 <= n0 /\ dd (seg G 0 (k + 1)) = seg G 0 (k + 1)) [] [] (fun k _ _ => k + 1) [0] [0] 0 0 0 ?_ ?_ ?_
   . exact ⟨by omega, dd_small G (by decide)⟩
   . repeat' (first | exact trivial | exact rfl | (intro _ _; exact rfl) | refine ⟨?_, ?_⟩ | fail)
   . rintro k ⟨k1, k2⟩
     have hw : IntKind.wrap .i64 (((k + 1 : Nat) : Int) - 1) = (k : Int) := by rw [wI_id _ (by omega) (by omega)]; omega
     rcases Nat.lt_or_ge (k + 1) n0 with hk | hk
     . have hne : decide (((k + 1 : Nat) : Int) < (n0 : Int)) = true := decide_eq_true (by omega)
       have hs := dd_seg G k
       by_cases hc : (G (k + 1)).name = (G k).name
       . have hcd : decide ((G (k + 1)).name = (G k).name) = true := decide_eq_true hc
         rw [if_pos hc] at hs
         repeat' (first | exact trivial | refine ⟨?_, ?_⟩ | intro _)
         all_goals first | (with_reducible first | apply qa | apply qb | apply qc | apply qd) | (conv => whnf)
         all_goals first | (exact absurd (hne.symm.trans ‹_ = false›) (by decide)) | skip
         all_goals first | (have hd := ‹decide ((G _).name = _) = false›; simp only [hw, Int.toNat_natCast, Nat.zero_add] at hd; exact absurd (hcd.symm.trans hd) (by decide)) | skip
         all_goals (try simp only [hw, Int.toNat_natCast, Nat.zero_add])
         all_goals first | omega | skip
         refine loop_ok tys_ok (l := []) trivial (by kernel_rfl) (X := Nat)
          (fun j => ⟨[(7, vx (.int .i64 (j + 1 : Nat))), (6, .va (.c (.osl 0 9 (k + 1) (n0 - (k + 1))))), (5, vx (.int .i64 (dd (seg G 0 (k + 1 + (j + 1)))).length)), (0, .va (.c (.osl 0 9 0 n0))), (1, .va (.c (.fv gSame)))], [(0, .row 9 n0 fun x => bdC (put G 0 (dd (seg G 0 (k + 1 + (j + 1)))) x))], 1, 66⟩)
          (fun j => n0 - j) (fun j => k + 1 + (j + 1) <= n0 /\ (dd (seg G 0 (k + 1 + (j + 1)))).length <= k + 1 + j) [] [] (fun j _ _ => j + 1) [0] [0] 0 0 0 ?_ ?_ ?_
         . exact ⟨by omega, by rw [hs, k2, seg_length]; omega⟩
         . rw [hs, k2, put_seg, seg_length]
           repeat' (first | exact trivial | exact rfl | (intro _ _; exact rfl) | refine ⟨?_, ?_⟩ | fail)
           all_goals omega
         . rintro j ⟨q1, q2⟩
           have hw2 : IntKind.wrap .i64 (((j + 1 : Nat) : Int) - 1) = (j : Int) := by rw [wI_id _ (by omega) (by omega)]; omega
           have hg1 : put G 0 (dd (seg G 0 (k + 1 + (j + 1)))) (k + 1 + (j + 1)) = G (k + 1 + (j + 1)) := put_out (.inr (by omega))
           have hg2 : put G 0 (dd (seg G 0 (k + 1 + (j + 1)))) (k + 1 + j) = G (k + 1 + j) := put_out (.inr (by omega))
           rcases Nat.lt_or_ge (k + 1 + (j + 1)) n0 with hj | hj
           . have hne2 : decide (((j + 1 : Nat) : Int) < ((n0 - (k + 1) : Nat) : Int)) = true := decide_eq_true (by omega)
             have hs2 := dd_seg G (k + 1 + j)
             rw [show k + 1 + j + 1 = k + 1 + (j + 1) by omega, show k + 1 + (j + 1) + 1 = k + 1 + (j + 1 + 1) by omega] at hs2
             by_cases hc2 : (G (k + 1 + (j + 1))).name = (G (k + 1 + j)).name
             . have hcd2 : decide ((G (k + 1 + (j + 1))).name = (G (k + 1 + j)).name) = true := decide_eq_true hc2
               rw [if_pos hc2] at hs2
               repeat' (first | exact trivial | refine ⟨?_, ?_⟩ | intro _)
               all_goals first | (with_reducible first | apply qa | apply qb | apply qc | apply qd) | (conv => whnf)
               all_goals first | (exact absurd (hne2.symm.trans ‹_ = false›) (by decide)) | skip
               all_goals first | (have hd := ‹(!decide ((put G 0 _ _).name = _)) = true›; simp only [hw2, hg1, hg2, hcd2, Int.toNat_natCast] at hd; exact absurd hd (by decide)) | skip
               all_goals (try simp only [hw2, hs2, Int.toNat_natCast])
               all_goals first | rfl | omega | (exact congrArg (Value.int .i64) (by first | (rw [wI_id _ (by omega) (by omega)]; omega) | omega | (dsimp only; omega)))
             . have hcd2 : decide ((G (k + 1 + (j + 1))).name = (G (k + 1 + j)).name) = false := decide_eq_false hc2
               rw [if_neg hc2] at hs2
               have hlen : (dd (seg G 0 (k + 1 + (j + 1 + 1)))).length = (dd (seg G 0 (k + 1 + (j + 1)))).length + 1 := by rw [hs2]; simp
               repeat' (first | exact trivial | refine ⟨?_, ?_⟩ | intro _)
               all_goals first | (with_reducible first | apply qa | apply qb | apply qc | apply qd) | (conv => whnf)
               all_goals first | (exact absurd (hne2.symm.trans ‹_ = false›) (by decide)) | skip
               all_goals first | (have hd := ‹(!decide ((put G 0 _ _).name = _)) = false›; simp only [hw2, hg1, hg2, hcd2, Int.toNat_natCast] at hd; exact absurd hd (by decide)) | skip
               all_goals (try simp only [hw2, hlen, Int.toNat_natCast, Nat.zero_add])
               all_goals first | rfl | omega | (exact congrArg (Value.int .i64) (by first | (rw [wI_id _ (by omega) (by omega)]; omega) | omega | (dsimp only; omega))) | (rw [hs2]; exact row_push rfl (by rw [hg1]) _)
           . have hne2 : decide (((j + 1 : Nat) : Int) < ((n0 - (k + 1) : Nat) : Int)) = false := decide_eq_false (by omega)
             obtain rfl : n0 = k + 1 + (j + 1) := by omega
             repeat' (first | exact trivial | refine ⟨?_, ?_⟩ | intro _)
             all_goals first | (with_reducible first | apply qa | apply qb | apply qc | apply qd) | (conv => whnf)
             all_goals first | (exact absurd (hne2.symm.trans ‹_ = true›) (by decide)) | skip
             all_goals (try simp only [Int.toNat_natCast, Nat.zero_add])
             all_goals first | rfl | omega | (rename_i i hi; rw [clr_lo (by omega)]; exact congrArg bdC (put_atB (by omega)))
       . have hcd : decide ((G (k + 1)).name = (G k).name) = false := decide_eq_false hc
         rw [if_neg hc, k2, <- seg_snoc G (Nat.zero_le _)] at hs
         repeat' (first | exact trivial | refine ⟨?_, ?_⟩ | intro _)
         all_goals first | (with_reducible first | apply qa | apply qb | apply qc | apply qd) | (conv => whnf)
         all_goals first | (exact absurd (hne.symm.trans ‹_ = false›) (by decide)) | skip
         all_goals first | (have hd := ‹decide ((G _).name = _) = true›; simp only [hw, Int.toNat_natCast, Nat.zero_add] at hd; exact absurd (hcd.symm.trans hd) (by decide)) | skip
         all_goals (try simp only [hw, Int.toNat_natCast, Nat.zero_add])
         all_goals first | rfl | omega | exact hs | (exact congrArg (Value.int .i64) (by first | (rw [wI_id _ (by omega) (by omega)]; omega) | omega | (dsimp only; omega)))
     . have hne : decide (((k + 1 : Nat) : Int) < (n0 : Int)) = false := decide_eq_false (by omega)
       obtain rfl : n0 = k + 1 := by omega
       repeat' (first | exact trivial | refine ⟨?_, ?_⟩ | intro _)
       all_goals first | (with_reducible first | apply qa | apply qb | apply qc | apply qd) | (conv => whnf)
       all_goals first | (exact absurd (hne.symm.trans ‹_ = true›) (by decide)) | skip
       all_goals first | omega | (rw [k2, seg_length]; rfl) | (rename_i i hi; rw [k2]; exact congrArg bdC (seg_at hi).symm)
 . cases h
structure RowsOk (n : Nat) (f : Nat -> List DV) : Prop where
 h : ∀ i, i < n -> rowOkB (f i)
def FSortF : List Ar -> Option Rs
 | [.c (.ow 9 n0 f0), .fv g1] => some ⟨(n0 <= 1099511627776 /\ ∀ i, i < n0 -> rowSB (f0 i)) /\ (g1 = gLess), .tup [], [some fun k => bdC (put (gF f0) 0 (srt ltB (gBs n0 f0)) k)]⟩
 | _ => none
theorem fcSortF : FC Tryz.prog 68 FSortF := by
 intro xs pre r us h hp
 unfold FSortF at h
 split at h
 . rename_i n0 f0 g1
   cases h
   obtain ⟨hp0, hp1⟩ := hp
   refine FCat.deep (ys := [.c (.ow 9 n0 fun k => bdC (gF f0 k)), .fv g1]) ?_ ?_
   . repeat' (first | exact trivial | exact rfl | exact DvE.refl _ | refine ⟨?_, ?_⟩ | fail)
     all_goals first | exact (canonF hp0.2).2.2
   refine fcat tys_ok (l := [(121, ⟨[true], FStable⟩)]) ⟨fcStable, trivial⟩ Tryz.func68 rfl (by kernel_rfl) false ?_
   obtain rfl := hp1
   have hn := hp0.1
   clear hp0
   rw [<- seg_gBs]
   generalize gF f0 = G at *
   have hok : ∀ (H : Nat -> Bd) (i : Nat), i < n0 -> rowSB (bdC (H i)) := fun H i _ => rowSB_bdC _
   repeat' (first | exact trivial | (with_reducible exact (hok _)) | refine ⟨?_, ?_⟩ | intro _)
   all_goals first | (with_reducible first | apply qa | apply qb | apply qc | apply qd) | (conv => whnf)
   all_goals (try simp only [gF_bdC, Int.toNat_natCast])
   all_goals first | rfl | omega
 . cases h
def FBClone : List Ar -> Option Rs
 | [.c (.d (.lst 9 n0 f0))] => some ⟨(n0 <= 1099511627776 /\ RowsOk n0 f0), .va (.c (.ow 9 n0 (rwB (gBs n0 f0)))), []⟩
 | _ => none
theorem fcBClone : FC Tryz.prog 67 FBClone := by
 intro xs pre r us h hp
 unfold FBClone at h
 split at h
 . rename_i n0 f0
   cases h
   have hp0 := hp
   refine FCat.deep (ys := [.c (.d (.lst 9 n0 (rwB (gBs n0 f0))))]) ?_ ?_
   . repeat' (first | exact trivial | exact rfl | exact DvE.refl _ | refine ⟨?_, ?_⟩ | fail)
     all_goals first | exact canonB hp0.2.h
   refine fcat tys_ok (l := []) trivial Tryz.func67 rfl (by kernel_rfl) false ?_
   have hn := hp0.1
   generalize gBs n0 f0 = L at *
   clear hp0
   repeat' (first | exact trivial | refine ⟨?_, ?_⟩ | intro _)
   all_goals first | (with_reducible first | apply qa | apply qb | apply qc | apply qd) | (conv => whnf)
   all_goals first | omega | rfl | (simp_all; done) | (simp [appRow]; done) | exact ‹_ = true -> _› ‹_›
 . cases h
def FVCleanV : List Ar -> Option Rs
 | [.agg [.d (.v (.bool s0)), .d (.v (.int .i64 l0)), .d (.v (.int .i64 h0)), .d (.v (.bool b0)), .d (.v (.int .i64 m0)), .d (.v (.int .i64 r0)), .d (.v (.bool z0)), .d (.lst 1 n0 f0)]] => some ⟨((n0 * 16 <= 140737488351232 /\ ∀ i, i < n0 -> f0 i = [st (gT (f0 i))]) /\ Sp.inR ⟨s0, l0, h0⟩ /\ Cg.inR ⟨b0, m0, r0⟩), .va (Vl.ar (Vl.of (⟨⟨⟨s0, l0, h0⟩, ⟨b0, m0, r0⟩⟩, ⟨z0, gN n0 f0⟩⟩ : Vl))), []⟩
 | _ => none
theorem fcVCleanV : FC Tryz.prog 62 FVCleanV := by
 intro xs pre r us h hp
 unfold FVCleanV at h
 split at h
 . rename_i s0 l0 h0 b0 m0 r0 z0 n0 f0
   cases h
   have hp0 := hp
   refine FCat.of_eq (as' := [.agg [.d (.v (.bool s0)), .d (.v (.int .i64 l0)), .d (.v (.int .i64 h0)), .d (.v (.bool b0)), .d (.v (.int .i64 m0)), .d (.v (.int .i64 r0)), .d (.v (.bool z0)), .d (.lst 1 n0 fun i => [st (gT (f0 i))])]]) ?_ rfl rfl ?_
   . repeat' (first | exact trivial | exact rfl | refine ⟨?_, ?_⟩ | fail)
     all_goals first | exact hp0.2 | exact hp1.2 | exact hp2.2 | (intro i hi; exact (hp0.2 i hi).1) | (intro i hi; exact (hp1.2 i hi).1) | (intro i hi; exact (hp2.2 i hi).1) | grind
   refine fcat tys_ok (l := [(116, ⟨[], FVOf⟩), (117, ⟨[], FVValue⟩)]) ⟨fcVOf, fcVValue, trivial⟩ Tryz.func62 rfl (by kernel_rfl) true ?_
   have hv0 : okV (⟨⟨⟨s0, l0, h0⟩, ⟨b0, m0, r0⟩⟩, ⟨z0, gN n0 fun i => [st (gT (f0 i))]⟩⟩ : Vl) := ⟨⟨(by rw [gN_length]; exact hp0.1.1), fun _ _ => rfl⟩, hp0.2⟩
   have ho0 := okV_of hv0
   have hoo0 := okV_of ho0
   unfold okV at ho0 hoo0
   repeat' (first | exact trivial | (with_reducible first | exact ho0 | exact ho0.1 | exact ho0.2.1 | exact ho0.2.2 | exact hp0 | exact hp0.1 | exact hp0.2 | exact hp0.2.1 | exact hp0.2.2 | exact hoo0 | exact hoo0.1 | exact hoo0.2.1 | exact hoo0.2.2) | refine ⟨?_, ?_⟩ | intro _)
   all_goals first | (with_reducible first | apply qa | apply qb | apply qc | apply qd) | (conv => whnf)
   all_goals (try simp only [gN_lst] at *)
   all_goals first | rfl | (with_reducible exact hp0.1.1)
 . cases h
namespace En
def clean (e : En) : En := if e.live = true then ⟨true, (dd (srt ltB e.binds)).map fun b => ⟨b.name, b.v.of⟩⟩ else ⟨false, []⟩
end En
theorem srt_rows (L : List Bd) : (gBs L.length fun k => bdC (put (gF (rwB L)) 0 (srt ltB L) k)) = srt ltB L := by
 rw [<- seg_gBs, gF_bdC]
 exact seg_put _ _ _ _ (by rw [srt_length]; omega) (Nat.zero_le _)
def cln (D : List Bd) (i : Nat) : Nat -> Bd := fun k => if k < i then ⟨(atB D k).name, (atB D k).v.of⟩ else atB D k
theorem cln_at (D : List Bd) (i : Nat) : cln D i i = atB D i := if_neg (Nat.lt_irrefl i)
theorem cln_step {D : List Bd} {i : Nat} {r : List DV} (hr : r = bdC ⟨(atB D i).name, (atB D i).v.of⟩) (k : Nat) : setRow (fun k => bdC (cln D i k)) i r k = bdC (cln D (i + 1) k) := by
 subst hr
 rw [setRow_at]
 unfold cln
 split
 . rename_i h; subst h; rw [if_pos (Nat.lt_succ_self k)]
 . rename_i h
   by_cases c : k < i
   . rw [if_pos c, if_pos (by omega)]
   . rw [if_neg c, if_neg (by omega)]
theorem atB_map (D : List Bd) (f : Bd -> Bd) {k : Nat} (hk : k < D.length) : atB (D.map f) k = f (atB D k) := by
 unfold atB; simp [List.getD_eq_getElem?_getD, hk]
theorem ddA_sub (r : List Bd) (p : Bd) {x : Bd} (h : x ∈ ddA p r) : x ∈ r := by
 induction r generalizing p with
 | nil => cases h
 | cons y r ih =>
   rw [ddA] at h
   split at h
   . exact List.mem_cons_of_mem _ (ih _ h)
   . rcases List.mem_cons.1 h with rfl | h
     . exact List.mem_cons_self
     . exact List.mem_cons_of_mem _ (ih _ h)
theorem dd_sub {l : List Bd} {x : Bd} (h : x ∈ dd l) : x ∈ l := by
 cases l with
 | nil => exact h
 | cons y r =>
   rcases List.mem_cons.1 h with rfl | h
   . exact List.mem_cons_self
   . exact List.mem_cons_of_mem _ (ddA_sub _ _ h)
theorem atB_mem {l : List Bd} {k : Nat} (h : k < l.length) : atB l k ∈ l := by
 unfold atB; rw [List.getD_eq_getElem?_getD, List.getElem?_eq_getElem h]; exact List.getElem_mem h
theorem mem_atB {l : List Bd} {x : Bd} (h : x ∈ l) : ∃ k, k < l.length /\ atB l k = x := by
 obtain ⟨k, hk, e⟩ := List.mem_iff_getElem.1 h
 exact ⟨k, hk, by unfold atB; rw [List.getD_eq_getElem?_getD, List.getElem?_eq_getElem hk]; exact e⟩
def okL (l : List Bd) : Prop := ∀ x ∈ l, okB x
theorem okL_at {l : List Bd} (h : okL l) {k : Nat} (hk : k < l.length) : okB (atB l k) := h _ (atB_mem hk)
theorem okL_rows {n : Nat} {f : Nat -> List DV} (h : RowsOk n f) : okL (gBs n f) := by
 intro x hx
 obtain ⟨k, hk, rfl⟩ := mem_atB hx
 rw [gBs_length] at hk
 exact okB_at h.h k hk
theorem okL_row {l : List Bd} (h : okL l) : RowsOk l.length (rwB l) := ⟨fun i hi => rowOkB_bdC (okL_at h hi)⟩
theorem okL_srt {l : List Bd} (h : okL l) : okL (srt ltB l) := fun x hx => h x (srt_mem.1 hx)
theorem okL_dd {l : List Bd} (h : okL l) : okL (dd l) := fun x hx => h x (dd_sub hx)
theorem okL_of {l : List Bd} (h : okL l) : okL (l.map fun b => ⟨b.name, b.v.of⟩) := by
 intro x hx
 obtain ⟨b, hb, rfl⟩ := List.mem_map.1 hx
 exact okV_of (h b hb)
theorem clean_ok {e : En} (h : okL e.binds) : okL e.clean.binds := by
 unfold En.clean
 split
 . exact okL_of (okL_dd (okL_srt h))
 . intro x hx; cases hx
theorem clean_len (e : En) : e.clean.binds.length <= e.binds.length := by
 unfold En.clean
 split
 . show (List.map _ _).length <= _
   rw [List.length_map]
   have := dd_len (srt ltB e.binds)
   rw [srt_length] at this; exact this
 . exact Nat.zero_le _
def FEClean : List Ar -> Option Rs
 | [.agg [.d (.v (.bool e0)), .d (.lst 9 n0 f0)]] => some ⟨(n0 <= 1099511627776 /\ RowsOk n0 f0), .va (En.ar (En.clean (⟨e0, gBs n0 f0⟩ : En))), []⟩
 | _ => none
theorem fcEClean : FC Tryz.prog 22 FEClean := by
 intro xs pre r us h hp
 unfold FEClean at h
 split at h
 . rename_i e0 n0 f0
   cases h
   have hp0 := hp
   refine FCat.deep (ys := [.agg [.d (.v (.bool e0)), .d (.lst 9 n0 (rwB (gBs n0 f0)))]]) ?_ ?_
   . repeat' (first | exact trivial | exact rfl | exact DvE.refl _ | refine ⟨?_, ?_⟩ | fail)
     all_goals first | exact canonB hp0.2.h
   refine fcat tys_ok (l := [(67, ⟨[], FBClone⟩), (68, ⟨[true], FSortF⟩), (71, ⟨[true], FCompact⟩), (62, ⟨[], FVCleanV⟩), (69, ⟨[], FLess⟩), (72, ⟨[], FSameN⟩)]) ⟨fcBClone, fcSortF, fcCompact, fcVCleanV, fcLess, fcSameN, trivial⟩ Tryz.func22 rfl (by kernel_rfl) true ?_
   have hn := hp0.1
   have hL := okL_rows hp0.2
   have hlen := gBs_length n0 f0
   generalize gBs n0 f0 = L at *
   clear hp hp0
   subst hlen
   have hok : ∀ (H : Nat -> Bd) (i : Nat), i < L.length -> rowSB (bdC (H i)) := fun H i _ => rowSB_bdC _
   have hrow := okL_row hL
   repeat' (first | exact trivial | (with_reducible first | exact (hok _) | exact hrow) | refine ⟨?_, ?_⟩ | intro _)
   all_goals first | (with_reducible first | apply qa | apply qb | apply qc | apply qd) | (conv => whnf)
   all_goals first | exact hn | exact Nat.le_refl _ | rfl | skip
   . rw [show e0 = false by simpa using ‹(!e0) = true›]; rfl
   . rw [show e0 = false by simpa using ‹(!e0) = true›]; rfl
   obtain rfl : e0 = true := by simpa using ‹(!e0) = false›
   generalize hD : dd (gBs L.length fun k => bdC (put (gF (rwB (gBs L.length (rwB L)))) 0 (srt ltB (gBs L.length (rwB (gBs L.length (rwB L))))) k)) = D
   have hD2 : D = dd (srt ltB L) := by
    rw [<- hD, gBs_row, gBs_row, srt_rows]
   clear hD
   have hC : En.clean ⟨true, L⟩ = ⟨true, D.map fun b => ⟨b.name, b.v.of⟩⟩ := by rw [hD2]; rfl
   have hDl : D.length <= L.length := by have := dd_len (srt ltB L); rw [srt_length] at this; rw [hD2]; exact this
   have hDo : okL D := by rw [hD2]; exact okL_dd (okL_srt hL)
   refine loop_ok tys_ok (l := [(67, ⟨[], FBClone⟩), (68, ⟨[true], FSortF⟩), (71, ⟨[true], FCompact⟩), (62, ⟨[], FVCleanV⟩), (69, ⟨[], FLess⟩), (72, ⟨[], FSameN⟩)]) ⟨fcBClone, fcSortF, fcCompact, fcVCleanV, fcLess, fcSameN, trivial⟩ (by kernel_rfl) (X := Nat)
    (fun i => ⟨[(19, vx (.int .i64 i)), (18, vx (.int .i64 D.length)), (17, .va (.c (.osl 0 9 0 D.length))), (3, .va (.c (.osl 0 9 0 D.length))), (2, .va (.c (.own 1 0)))], [(0, .row 9 D.length fun k => bdC (cln D i k)), (1, .cells [.d (bo false), .d (.v (.slice none 0 0))])], 2, 34⟩)
    (fun i => D.length - i) (fun i => i <= D.length) [] [] (fun i _ _ => i + 1) [0, 1] [3, 1] 0 0 0 ?_ ?_ ?_
   . exact Nat.zero_le _
   . repeat' (first | exact trivial | exact rfl | (intro _ _; exact rfl) | refine ⟨?_, ?_⟩ | fail)
     all_goals trace_state
   . rintro i k1
     rcases Nat.lt_or_ge i D.length with hi | hi
     . have hne : decide ((i : Int) < (D.length : Int)) = true := decide_eq_true (by omega)
       have ho0 := okV_of (okL_at hDo hi)
       have ho1 := okL_at hDo hi
       repeat' (first | exact trivial | refine ⟨?_, ?_⟩ | intro _)
       all_goals first | (with_reducible first | apply qa | apply qb | apply qc | apply qd) | (conv => whnf)
       all_goals first | (exact absurd (hne.symm.trans ‹_ = false›) (by decide)) | skip
       all_goals (try simp only [Int.toNat_natCast, Nat.zero_add, cln_at])
       all_goals first | omega | rfl | exact ho1.1.1 | (have hq := ho1.2; unfold Sp.inR Cg.inR at hq; omega) | (exact congrArg (Value.int .i64) (by first | (rw [wI_id _ (by omega) (by omega)]; omega) | omega | (dsimp only; omega))) | (simp only [gN_lst]; exact cln_step rfl _)
     . have hne : decide ((i : Int) < (D.length : Int)) = false := decide_eq_false (by omega)
       obtain rfl : i = D.length := Nat.le_antisymm k1 hi
       repeat' (first | exact trivial | refine ⟨?_, ?_⟩ | intro _)
       all_goals first | (with_reducible first | apply qa | apply qb | apply qc | apply qd) | (conv => whnf)
       all_goals first | (exact absurd (hne.symm.trans ‹_ = true›) (by decide)) | skip
       all_goals (try rw [hC])
       all_goals first | rfl | omega | exact (List.length_map _).symm | (rename_i k hk; show bdC (cln D D.length (0 + k)) = bdC (atB _ k); rw [Nat.zero_add, atB_map _ _ (by omega)]; unfold cln; rw [if_pos (by omega)]) | (rename_i k hk; show bdC (cln D D.length k) = bdC (atB _ k); rw [atB_map _ _ (by omega)]; unfold cln; rw [if_pos (by omega)])
 . cases h
theorem cfL_eq : ∀ (x y : List UInt8), (cfL x y = 0) ↔ x = y
 | [], [] => by simp [cfL, Lib.compareBytes]
 | [], _ :: _ => by simp [cfL, Lib.compareBytes]
 | _ :: _, [] => by simp [cfL, Lib.compareBytes]
 | a :: x, b :: y => by
   have ih := cfL_eq x y
   unfold cfL at ih ⊢
   rw [Lib.compareBytes]
   split
   . rename_i h
     constructor
     . intro h; omega
     . intro h; cases h; exact absurd h (UInt8.lt_irrefl _)
   . split
     . rename_i h
       constructor
       . intro h; omega
       . intro h; cases h; exact absurd h (UInt8.lt_irrefl _)
     . rename_i h1 h2
       have : a = b := UInt8.le_antisymm (UInt8.not_lt.1 h2) (UInt8.not_lt.1 h1)
       subst this
       rw [ih]; simp
theorem seg_atB (L : List Bd) : seg (atB L) 0 L.length = L := by
 apply List.ext_getElem
 . rw [seg_length]; omega
 . intro i h1 h2
   have := seg_getD (g := atB L) (a := 0) (b := L.length) (k := i) (by omega)
   rw [List.getD_eq_getElem?_getD, List.getElem?_eq_getElem h1, Nat.zero_add] at this
   unfold atB at this
   rw [List.getD_eq_getElem?_getD, List.getElem?_eq_getElem h2] at this
   exact this
def lowN (L : List Bd) (s : ByteArray) : Nat := L.countP fun b => ltB b ⟨s, Vl.zero⟩
def foundN (L : List Bd) (s : ByteArray) : Bool := decide (lowN L s < L.length) && (cfL (atB L (lowN L s)).name.data.toList s.data.toList == 0)
theorem low_of {L : List Bd} {s : ByteArray} {i : Nat} (hi : i <= L.length) (h1 : ∀ k, k < i -> ltB (atB L k) ⟨s, Vl.zero⟩ = true) (h2 : ∀ k, i <= k -> k < L.length -> ltB (atB L k) ⟨s, Vl.zero⟩ = false) : lowN L s = i := by
 unfold lowN
 conv => lhs; rw [<- seg_atB L, seg_app (atB L) (Nat.zero_le i) hi, List.countP_append]
 rw [List.countP_eq_length.2, List.countP_eq_zero.2, seg_length]
 . omega
 . intro x hx
   obtain ⟨k, k1, k2, rfl⟩ := mem_seg.1 hx
   rw [h2 k k1 k2]; exact Bool.false_ne_true
 . intro x hx
   obtain ⟨k, k1, k2, rfl⟩ := mem_seg.1 hx
   exact h1 k k2
def FFindC : List Ar -> Option Rs
 | [.agg [.d (.v (.string x0)), .d (.v (.bool _)), .d (.v (.int .i64 _)), .d (.v (.int .i64 _)), .d (.v (.bool _)), .d (.v (.int .i64 _)), .d (.v (.int .i64 _)), .d (.v (.bool _)), .d (.lst 1 _ _)], .c (.d (.v (.string x1)))] => some ⟨True, .va (.c (.d (it (cfL x0.data.toList x1.data.toList)))), []⟩
 | _ => none
theorem fcFindC : FC Tryz.prog 113 FFindC := by
 intro xs pre r us h hp
 unfold FFindC at h
 split at h
 . rename_i x0 s0 l0 h0 b0 m0 r0 z0 n0 f0 x1
   cases h
   refine fcat tys_ok (l := [(70, ⟨[], FStrCmp⟩)]) ⟨fcStrCmp, trivial⟩ Tryz.func113 rfl (by kernel_rfl) false ?_
   repeat' (first | exact trivial | refine ⟨?_, ?_⟩ | intro _)
   all_goals first | (with_reducible first | apply qa | apply qb | apply qc | apply qd) | (conv => whnf)
   all_goals grind
 . cases h
abbrev gFind : List Cv -> Option Gs := mkFv (sums [(113, ⟨[], FFindC⟩)]) 113 []
def FBSearch : List Ar -> Option Rs
 | [.c (.d (.lst 9 n0 f0)), .c (.d (.v (.string x1))), .fv g2] => some ⟨(n0 <= 1099511627776 /\ RowsOk n0 f0) /\ (Std ltB (gBs n0 f0) /\ g2 = gFind), .tup [.c (.d (it (lowN (gBs n0 f0) x1 : Nat))), .c (.d (bo (foundN (gBs n0 f0) x1)))], []⟩
 | _ => none
theorem fcBSearch : FC Tryz.prog 112 FBSearch := by
 intro xs pre r us h hp
 unfold FBSearch at h
 split at h
 . rename_i n0 f0 x1 g2
   cases h
   obtain ⟨hp0, hp1⟩ := hp
   refine FCat.deep (ys := [.c (.d (.lst 9 n0 (rwB (gBs n0 f0)))), .c (.d (.v (.string x1))), .fv g2]) ?_ ?_
   . repeat' (first | exact trivial | exact rfl | exact DvE.refl _ | refine ⟨?_, ?_⟩ | fail)
     all_goals first | first | exact canonB hp0.2.h | exact (canonBo hp0.2.h).2.2
   refine fcat tys_ok (l := []) trivial Tryz.func112 rfl (by kernel_rfl) false ?_
   obtain ⟨hs, rfl⟩ := hp1
   have hn := hp0.1
   have hlen := gBs_length n0 f0
   generalize gBs n0 f0 = L at *
   clear hp0
   subst hlen
   rw [<- seg_atB L] at hs
   have hdef : ∀ k, ltB (atB L k) ⟨x1, Vl.zero⟩ = decide (cfL (atB L k).name.data.toList x1.data.toList < 0) := fun _ => rfl
   generalize hp : (fun k => ltB (atB L k) ⟨x1, Vl.zero⟩) = p
   have hpd : ∀ k, p k = decide (cfL (atB L k).name.data.toList x1.data.toList < 0) := fun k => by rw [<- hp]; rfl
   have hm : ∀ k q, k <= q -> q < L.length -> p q = true -> p k = true := fun k q h1 h2 h3 => by
    rw [<- hp] at h3 ⊢; exact wkB.lt1 (std_le wkB hs (Nat.zero_le _) h1 h2) h3
   have hm2 : ∀ k q, q <= k -> k < L.length -> p q = false -> p k = false := fun k q h1 h2 h3 => by
    rw [<- hp] at h3 ⊢; exact wkB.le1 (std_le wkB hs (Nat.zero_le _) h1 h2) h3
   have hlow : ∀ i, i <= L.length -> (∀ k, k < i -> p k = true) -> (∀ k, i <= k -> k < L.length -> p k = false) -> lowN L x1 = i := fun i h1 h2 h3 => by
    rw [<- hp] at h2 h3; exact low_of h1 h2 h3
   clear hp hdef
   repeat' (first | exact trivial | refine ⟨?_, ?_⟩ | intro _)
   all_goals first | (with_reducible first | apply qa | apply qb | apply qc | apply qd) | (conv => whnf)
   refine loop_ok tys_ok (l := []) trivial (by kernel_rfl) (X := Nat × Nat)
    (fun x => ⟨[(9, vx (.int .i64 x.1)), (10, vx (.int .i64 x.2)), (0, .va (.c (.d (.lst 9 L.length (rwB L))))), (1, vx (.string x1)), (2, .va (.c (.fv gFind))), (8, vx (.int .i64 L.length))], [], 0, 49⟩)
    (fun x => x.2 - x.1) (fun x => x.1 <= x.2 /\ x.2 <= L.length /\ (∀ k, k < x.1 -> p k = true) /\ (∀ k, x.2 <= k -> k < L.length -> p k = false)) [] []
    (fun x _ _ => if p ((x.1 + x.2) / 2) = true then ((x.1 + x.2) / 2 + 1, x.2) else (x.1, (x.1 + x.2) / 2)) [] [] 0 0 (0, L.length) ?_ ?_ ?_
   . exact ⟨Nat.zero_le _, Nat.le_refl _, fun k h => absurd h (Nat.not_lt_zero k), fun k h1 h2 => absurd h1 (Nat.not_le_of_lt h2)⟩
   . repeat' (first | exact trivial | exact rfl | (intro _ _; exact rfl) | refine ⟨?_, ?_⟩ | fail)
   . rintro ⟨i, j⟩ ⟨k2, k3, k4, k5⟩
     dsimp only at k2 k3 k4 k5
     rcases Nat.lt_or_ge i j with hij | hij
     . have hne : decide ((i : Int) < (j : Int)) = true := decide_eq_true (by omega)
       have hh : IntKind.wrap .i64 ((IntKind.wrap .u64 (IntKind.wrap .i64 ((i : Int) + (j : Int)))).fdiv (2 ^ min (Int.toNat 1) (IntKind.bits .u64))) = (((i + j) / 2 : Nat) : Int) := hlf (by omega)
       have hq1 : i <= (i + j) / 2 := by omega
       have hq2 : (i + j) / 2 < j := by omega
       generalize hq : (i + j) / 2 = q at *
       cases hc : p q with
       | true =>
         repeat' (first | exact trivial | refine ⟨?_, ?_⟩ | intro _)
         all_goals first | (with_reducible first | apply qa | apply qb | apply qc | apply qd) | (conv => whnf)
         all_goals first | (exact absurd (hne.symm.trans ‹_ = false›) (by decide)) | skip
         all_goals first | (have hd := ‹decide (cfL _ _ < 0) = false›; simp only [hh, Int.toNat_natCast, Nat.zero_add] at hd; exact absurd ((hc.symm.trans (hpd q)).trans hd) (by decide)) | skip
         all_goals (try simp only [hh, hq, hc, if_true, Int.toNat_natCast, Nat.zero_add])
         all_goals first | rfl | omega | (dsimp only; omega) | (exact congrArg (Value.int .i64) (by first | (rw [wI_id _ (by omega) (by omega)]; omega) | omega | (dsimp only; omega))) | (rename_i kk h1; simp only [hq, hc, if_true] at h1; exact hm _ q (by omega) (by omega) hc) | (rename_i kk h1 h2; simp only [hq, hc, if_true] at h1 h2; exact k5 _ h1 h2)
       | false =>
         repeat' (first | exact trivial | refine ⟨?_, ?_⟩ | intro _)
         all_goals first | (with_reducible first | apply qa | apply qb | apply qc | apply qd) | (conv => whnf)
         all_goals first | (exact absurd (hne.symm.trans ‹_ = false›) (by decide)) | skip
         all_goals first | (have hd := ‹decide (cfL _ _ < 0) = true›; simp only [hh, Int.toNat_natCast, Nat.zero_add] at hd; exact absurd ((hc.symm.trans (hpd q)).trans hd) (by decide)) | skip
         all_goals (try simp only [hh, hq, hc, if_false, Bool.false_eq_true, Int.toNat_natCast, Nat.zero_add])
         all_goals first | rfl | omega | (dsimp only; omega) | (exact congrArg (Value.int .i64) (by first | (rw [wI_id _ (by omega) (by omega)]; omega) | omega | (dsimp only; omega))) | (rename_i kk h1; simp only [hq, hc, if_false, Bool.false_eq_true] at h1; exact k4 _ h1) | (rename_i kk h1 h2; simp only [hq, hc, if_false, Bool.false_eq_true] at h1 h2; exact hm2 _ q (by omega) h2 hc)
     . have hne : decide ((i : Int) < (j : Int)) = false := decide_eq_false (by omega)
       obtain rfl : i = j := by omega
       have hl := hlow i k3 k4 k5
       repeat' (first | exact trivial | refine ⟨?_, ?_⟩ | intro _)
       all_goals first | (with_reducible first | apply qa | apply qb | apply qc | apply qd) | (conv => whnf)
       all_goals first | (exact absurd (hne.symm.trans ‹_ = true›) (by decide)) | skip
       all_goals (try dsimp only)
       all_goals (try simp only [Int.toNat_natCast, Nat.zero_add])
       all_goals (try unfold foundN)
       all_goals (try rw [hl])
       all_goals first | omega | rfl | (have hd := of_decide_eq_true ‹decide (((i, i).1 : Int) < (L.length : Int)) = true›; exact hd) | (have hd := of_decide_eq_true ‹decide (((i, i).1 : Int) < _) = true›; rw [show decide (i < L.length) = true from decide_eq_true (by dsimp only at hd; omega)]; rfl) | (have hd := of_decide_eq_false ‹decide (((i, i).1 : Int) < (L.length : Int)) = false›; rw [show decide (i < L.length) = false from decide_eq_false (by dsimp only at hd; omega)]; rfl)
 . cases h
def FEFind : List Ar -> Option Rs
 | [.agg [.d (.v (.bool _)), .d (.lst 9 n0 f0)], .c (.d (.v (.string x1)))] => some ⟨(n0 <= 1099511627776 /\ RowsOk n0 f0) /\ (Std ltB (gBs n0 f0)), .tup [.c (.d (it (lowN (gBs n0 f0) x1 : Nat))), .c (.d (bo (foundN (gBs n0 f0) x1)))], []⟩
 | _ => none
theorem fcEFind : FC Tryz.prog 60 FEFind := by
 intro xs pre r us h hp
 unfold FEFind at h
 split at h
 . rename_i e0 n0 f0 x1
   cases h
   obtain ⟨hp0, hp1⟩ := hp
   refine FCat.deep (ys := [.agg [.d (.v (.bool e0)), .d (.lst 9 n0 (rwB (gBs n0 f0)))], .c (.d (.v (.string x1)))]) ?_ ?_
   . repeat' (first | exact trivial | exact rfl | exact DvE.refl _ | refine ⟨?_, ?_⟩ | fail)
     all_goals first | first | exact canonB hp0.2.h | exact (canonBo hp0.2.h).2.2
   refine fcat tys_ok (l := [(112, ⟨[], FBSearch⟩), (113, ⟨[], FFindC⟩)]) ⟨fcBSearch, fcFindC, trivial⟩ Tryz.func60 rfl (by kernel_rfl) false ?_
   have hn := hp0.1
   have hL := okL_rows hp0.2
   have hlen := gBs_length n0 f0
   generalize gBs n0 f0 = L at *
   clear hp0
   subst hlen
   have hrow := okL_row hL
   have hb := gBs_row L
   repeat' (first | exact trivial | (with_reducible exact hrow) | refine ⟨?_, ?_⟩ | intro _)
   all_goals first | (with_reducible first | apply qa | apply qb | apply qc | apply qd) | (conv => whnf)
   all_goals (try simp only [hb])
   all_goals first | exact hn | exact hp1 | exact Nat.le_refl _ | rfl
 . cases h
namespace Vl
end Vl
theorem std_dd {l : List Bd} (h : Std ltB l) : Std ltB (dd l) := by
 have hA : ∀ (r : List Bd) (p : Bd), Std ltB (p :: r) -> Std ltB (p :: ddA p r) := by
  intro r
  induction r with
  | nil => intro p h; exact h
  | cons y r ih =>
    intro p h
    have h1 := List.pairwise_cons.1 h
    have h2 := List.pairwise_cons.1 h1.2
    rw [ddA]
    split
    . have := List.pairwise_cons.1 (ih y h1.2)
      exact List.pairwise_cons.2 ⟨fun x hx => h1.1 x (List.mem_cons_of_mem _ (ddA_sub _ _ hx)), this.2⟩
    . have h3 := ih y h1.2
      refine List.pairwise_cons.2 ⟨fun x hx => ?_, h3⟩
      rcases List.mem_cons.1 hx with rfl | hx
      . exact h1.1 _ List.mem_cons_self
      . exact h1.1 x (List.mem_cons_of_mem _ (ddA_sub _ _ hx))
 cases l with
 | nil => exact h
 | cons p r => exact hA r p h
theorem std_of {l : List Bd} (h : Std ltB l) : Std ltB (l.map fun b => ⟨b.name, b.v.of⟩) := by
 unfold Std
 rw [List.pairwise_map]
 exact h
theorem clean_std (e : En) : Std ltB e.clean.binds := by
 unfold En.clean
 split
 . exact std_of (std_dd (srt_srt wkB _))
 . exact List.Pairwise.nil
theorem found_lt {L : List Bd} {s : ByteArray} (h : foundN L s = true) : lowN L s < L.length := by
 unfold foundN at h
 rw [Bool.and_eq_true] at h
 exact of_decide_eq_true h.1
namespace En
def get (e : En) (s : ByteArray) : Vl := if foundN e.clean.binds s = true then (atB e.clean.binds (lowN e.clean.binds s)).v else Vl.zero
end En
def FEGet : List Ar -> Option Rs
 | [.agg [.d (.v (.bool e0)), .d (.lst 9 n0 f0)], .c (.d (.v (.string x1)))] => some ⟨(n0 <= 1099511627776 /\ RowsOk n0 f0), .va (Vl.ar (En.get (⟨e0, gBs n0 f0⟩ : En) x1)), []⟩
 | _ => none
theorem fcEGet : FC Tryz.prog 24 FEGet := by
 intro xs pre r us h hp
 unfold FEGet at h
 split at h
 . rename_i e0 n0 f0 x1
   cases h
   have hp0 := hp
   refine FCat.deep (ys := [.agg [.d (.v (.bool e0)), .d (.lst 9 n0 (rwB (gBs n0 f0)))], .c (.d (.v (.string x1)))]) ?_ ?_
   . repeat' (first | exact trivial | exact rfl | exact DvE.refl _ | refine ⟨?_, ?_⟩ | fail)
     all_goals first | exact canonB hp0.2.h
   refine fcat tys_ok (l := [(22, ⟨[], FEClean⟩), (60, ⟨[], FEFind⟩)]) ⟨fcEClean, fcEFind, trivial⟩ Tryz.func24 rfl (by kernel_rfl) true ?_
   have hn := hp0.1
   have hL := okL_rows hp0.2
   have hlen := gBs_length n0 f0
   generalize gBs n0 f0 = L at *
   clear hp0
   subst hlen
   have hrow := okL_row hL
   have hb := gBs_row L
   have hc := clean_ok (e := ⟨e0, L⟩) hL
   have hcr := okL_row hc
   have hcl := clean_len ⟨e0, L⟩
   have hcs := clean_std ⟨e0, L⟩
   have hcn : (En.clean ⟨e0, L⟩).binds.length <= 1099511627776 := Nat.le_trans hcl hn
   repeat' (first | exact trivial | refine ⟨?_, ?_⟩ | intro _)
   all_goals first | (with_reducible first | apply qa | apply qb | apply qc | apply qd) | (conv => whnf)
   all_goals (try simp only [gBs_row, Bool.not_eq_true', Bool.not_eq_false', Int.toNat_natCast, Nat.zero_add] at *)
   all_goals first | exact hrow | exact hcr | exact hn | exact hcn | exact hcs | (have hd := ‹foundN _ _ = true›; have hlt := found_lt hd; first | omega | (unfold En.get; rw [if_pos hd]; done) | (unfold En.get; rw [if_pos hd]; rfl)) | (have hd := ‹foundN _ _ = false›; unfold En.get; rw [if_neg (by rw [hd]; exact Bool.false_ne_true)]; rfl) | rfl
 . cases h
def ixB (p : Bd -> Bool) (L : List Bd) : Int := match L.findIdx? p with
 | some i => i
 | none => -1
theorem ix_some {p : Bd -> Bool} {L : List Bd} {i : Nat} (hi : i < L.length) (h1 : ∀ k, k < i -> p (atB L k) = false) (h2 : p (atB L i) = true) : ixB p L = i := by
 have hA : ∀ k (h : k < L.length), atB L k = L[k] := fun k h => by unfold atB; rw [List.getD_eq_getElem?_getD, List.getElem?_eq_getElem h]; rfl
 unfold ixB
 have : L.findIdx? p = some i := by
  rw [List.findIdx?_eq_some_iff_getElem]
  refine ⟨hi, by rw [<- hA i hi]; exact h2, fun j hj => ?_⟩
  rw [<- hA j (by omega), h1 j hj]; exact Bool.false_ne_true
 rw [this]
theorem ix_none {p : Bd -> Bool} {L : List Bd} (h1 : ∀ k, k < L.length -> p (atB L k) = false) : ixB p L = -1 := by
 unfold ixB
 have : L.findIdx? p = none := by
  rw [List.findIdx?_eq_none_iff]
  intro x hx
  obtain ⟨k, hk, rfl⟩ := mem_atB hx
  exact h1 k hk
 rw [this]
theorem ix_cases (p : Bd -> Bool) (L : List Bd) : (ixB p L = -1 /\ ∀ k, k < L.length -> p (atB L k) = false) \/ ∃ i, ixB p L = (i : Nat) /\ i < L.length /\ (∀ k, k < i -> p (atB L k) = false) /\ p (atB L i) = true := by
 have hA : ∀ k (h : k < L.length), atB L k = L[k] := fun k h => by unfold atB; rw [List.getD_eq_getElem?_getD, List.getElem?_eq_getElem h]; rfl
 unfold ixB
 cases h : L.findIdx? p with
 | none =>
   rw [List.findIdx?_eq_none_iff] at h
   exact .inl ⟨rfl, fun k hk => h _ (atB_mem hk)⟩
 | some i =>
   rw [List.findIdx?_eq_some_iff_getElem] at h
   obtain ⟨h1, h2, h3⟩ := h
   refine .inr ⟨i, rfl, h1, fun k hk => ?_, by rw [hA i h1]; exact h2⟩
   rw [hA k (by omega)]
   simpa using h3 k hk
namespace En
def names (e : En) : List ByteArray := if e.live = true then cleanS (e.binds.map (·.name)) else []
def rget (e : En) (s : ByteArray) : Vl := if e.live = true then ((e.binds.find? fun b => decide (b.name = s)).map fun b => b.v.rclean).getD Vl.zero else Vl.zero
def rclean (e : En) : En := ⟨e.live, e.names.map fun s => ⟨s, e.rget s⟩⟩
end En
def nmP (L : List Bd) (i : Nat) : List ByteArray := ((seg (atB L) 0 i).map (·.name)).foldl putS []
theorem nmP_all (L : List Bd) : nmP L L.length = cleanS (L.map (·.name)) := by unfold nmP cleanS; rw [seg_atB]
theorem nmP_succ (L : List Bd) (i : Nat) : nmP L (i + 1) = putS (nmP L i) (atB L i).name := by
 unfold nmP; rw [seg_snoc _ (Nat.zero_le i), List.map_append, List.foldl_append]; rfl
theorem nmP_len (L : List Bd) (i : Nat) : (nmP L i).length <= i := by
 induction i with
 | zero => exact Nat.le_refl _
 | succ i ih => rw [nmP_succ]; have := putS_len (nmP L i) (atB L i).name; omega
def FRNames : List Ar -> Option Rs
 | [.agg [.d (.v (.bool e0)), .d (.lst 9 n0 f0)]] => some ⟨(n0 <= 1099511627776 /\ RowsOk n0 f0), .va (.c (.d (lst (En.names (⟨e0, gBs n0 f0⟩ : En))))), []⟩
 | _ => none
theorem fcRNames : FC Tryz.prog 66 FRNames := by
 intro xs pre r us h hp
 unfold FRNames at h
 split at h
 . rename_i e0 n0 f0
   cases h
   have hp0 := hp
   refine FCat.deep (ys := [.agg [.d (.v (.bool e0)), .d (.lst 9 n0 (rwB (gBs n0 f0)))]]) ?_ ?_
   . repeat' (first | exact trivial | exact rfl | exact DvE.refl _ | refine ⟨?_, ?_⟩ | fail)
     all_goals first | exact canonB hp0.2.h
   refine fcat tys_ok (l := [(120, ⟨[], FRPut⟩)]) ⟨fcRPut, trivial⟩ Tryz.func66 rfl (by kernel_rfl) true ?_
   have hn := hp0.1
   have hL := okL_rows hp0.2
   have hlen := gBs_length n0 f0
   generalize gBs n0 f0 = L at *
   clear hp0
   subst hlen
   have hrow := okL_row hL
   have hb := gBs_row L
   repeat' (first | exact trivial | refine ⟨?_, ?_⟩ | intro _)
   all_goals first | (with_reducible first | apply qa | apply qb | apply qc | apply qd) | (conv => whnf)
   refine loop_ids tys_ok (l := [(120, ⟨[], FRPut⟩)]) ⟨fcRPut, trivial⟩ (by kernel_rfl) (X := Nat × List ByteArray)
    (fun x => ⟨[(4, vx (.int .i64 x.1)), (3, .va (.c (.d (lst x.2)))), (1, .va (.c (.own 0 0)))], [(0, .cells [.d (bo e0), .d (.lst 9 L.length (rwB L))])], 1, 25⟩)
    (fun x => L.length - x.1) (fun x => x.1 <= L.length /\ x.2 = nmP L x.1 /\ (e0 = false -> x.1 = 0)) [] []
    (fun x _ _ => (x.1 + 1, putS x.2 (atB L x.1).name)) (fun _ => [0]) [0] 0 0 (0, []) ?_ ?_ ?_
   . exact ⟨Nat.zero_le _, rfl, fun _ => rfl⟩
   . repeat' (first | exact trivial | exact rfl | (intro _ h; exact absurd h (Nat.not_lt_zero _)) | (intro _ _; exact rfl) | refine ⟨?_, ?_⟩ | fail)
   . rintro ⟨i, l⟩ ⟨k1, k2, k4⟩
     dsimp only at k1 k2 k4
     have k3 := nmP_len L i
     rw [<- k2] at k3
     have k5 := nmP_succ L i
     rw [<- k2] at k5
     cases e0 with
     | false =>
       obtain rfl := k4 rfl
       have hem : En.names ⟨false, L⟩ = [] := rfl
       have hl0 : l = [] := k2
       subst hl0
       repeat' (first | exact trivial | refine ⟨?_, ?_⟩ | intro _)
       all_goals first | (with_reducible first | apply qa | apply qb | apply qc | apply qd) | (conv => whnf)
       all_goals first | (exact absurd ‹false = true› (by decide)) | skip
       all_goals (try rw [hem])
       all_goals first | rfl | (rename_i k hk; exact absurd hk (Nat.not_lt_zero _))
     | true =>
       have hem : En.names ⟨true, L⟩ = nmP L L.length := (nmP_all L).symm
       rcases Nat.lt_or_ge i L.length with hi | hi
       . have hne : decide ((i : Int) < (L.length : Int)) = true := decide_eq_true (by omega)
         repeat' (first | exact trivial | refine ⟨?_, ?_⟩ | intro _)
         all_goals first | (with_reducible first | apply qa | apply qb | apply qc | apply qd) | (conv => whnf)
         all_goals first | (exact absurd (hne.symm.trans ‹_ = false›) (by decide)) | (exact absurd ‹true = false› (by decide)) | skip
         all_goals (try simp only [Int.toNat_natCast, Nat.zero_add, gN_lst] at *)
         all_goals first | omega | rfl | ((with_reducible show idsOk _ _ = true); rfl) | exact k5.symm | (exact congrArg (Value.int .i64) (by first | (rw [wI_id _ (by omega) (by omega)]; omega) | omega | (dsimp only; omega))) | (exact absurd ‹true = false› (by decide))
       . have hne : decide ((i : Int) < (L.length : Int)) = false := decide_eq_false (by omega)
         obtain rfl : i = L.length := by omega
         rw [<- k2] at hem
         repeat' (first | exact trivial | refine ⟨?_, ?_⟩ | intro _)
         all_goals first | (with_reducible first | apply qa | apply qb | apply qc | apply qd) | (conv => whnf)
         all_goals first | (exact absurd (hne.symm.trans ‹_ = true›) (by decide)) | skip
         all_goals (try rw [hem])
         all_goals first | rfl
 . cases h
theorem rget_hit {L : List Bd} {s : ByteArray} {i : Nat} (hi : i < L.length) (h1 : ∀ k, k < i -> (atB L k).name ≠ s) (h2 : (atB L i).name = s) : En.rget ⟨true, L⟩ s = (atB L i).v.rclean := by
 have hA : ∀ k (h : k < L.length), atB L k = L[k] := fun k h => by unfold atB; rw [List.getD_eq_getElem?_getD, List.getElem?_eq_getElem h]; rfl
 have : L.find? (fun b => decide (b.name = s)) = some (atB L i) := by
  rw [List.find?_eq_some_iff_getElem]
  refine ⟨decide_eq_true h2, i, hi, (hA i hi).symm, fun j hj => ?_⟩
  rw [<- hA j (by omega)]
  simpa using h1 j hj
 unfold En.rget
 rw [if_pos rfl]
 show Option.getD (Option.map _ (List.find? _ L)) _ = _
 rw [this]; rfl
theorem rget_miss {L : List Bd} {s : ByteArray} (h1 : ∀ k, k < L.length -> (atB L k).name ≠ s) : En.rget ⟨true, L⟩ s = Vl.zero := by
 have : L.find? (fun b => decide (b.name = s)) = none := by
  rw [List.find?_eq_none]
  intro x hx
  obtain ⟨k, hk, rfl⟩ := mem_atB hx
  simpa using h1 k hk
 unfold En.rget
 rw [if_pos rfl]
 show Option.getD (Option.map _ (List.find? _ L)) _ = _
 rw [this]; rfl
def FRGet : List Ar -> Option Rs
 | [.agg [.d (.v (.bool e0)), .d (.lst 9 n0 f0)], .c (.d (.v (.string x1)))] => some ⟨(n0 <= 1099511627776 /\ RowsOk n0 f0), .va (Vl.ar (En.rget (⟨e0, gBs n0 f0⟩ : En) x1)), []⟩
 | _ => none
theorem fcRGet : FC Tryz.prog 25 FRGet := by
 intro xs pre r us h hp
 unfold FRGet at h
 split at h
 . rename_i e0 n0 f0 x1
   cases h
   have hp0 := hp
   refine FCat.deep (ys := [.agg [.d (.v (.bool e0)), .d (.lst 9 n0 (rwB (gBs n0 f0)))], .c (.d (.v (.string x1)))]) ?_ ?_
   . repeat' (first | exact trivial | exact rfl | exact DvE.refl _ | refine ⟨?_, ?_⟩ | fail)
     all_goals first | exact canonB hp0.2.h
   refine fcat tys_ok (l := [(27, ⟨[], FRVClean⟩)]) ⟨fcRVClean, trivial⟩ Tryz.func25 rfl (by kernel_rfl) true ?_
   have hn := hp0.1
   have hL := okL_rows hp0.2
   have hlen := gBs_length n0 f0
   generalize gBs n0 f0 = L at *
   clear hp0
   subst hlen
   have hrow := okL_row hL
   have hb := gBs_row L
   repeat' (first | exact trivial | refine ⟨?_, ?_⟩ | intro _)
   all_goals first | (with_reducible first | apply qa | apply qb | apply qc | apply qd) | (conv => whnf)
   refine loop_ids tys_ok (l := [(27, ⟨[], FRVClean⟩)]) ⟨fcRVClean, trivial⟩ (by kernel_rfl) (X := Nat)
    (fun x => ⟨[(5, vx (.int .i64 x)), (1, vx (.string x1)), (2, .va (.c (.own 0 0))), (4, .va (.c (.own 1 0)))], [(0, .cells [.d (bo e0), .d (.lst 9 L.length (rwB L))]), (1, .cells [.d (bo false), .d (it 0), .d (it 0), .d (bo false), .d (it 0), .d (it 0), .d (bo false), .d (.v (.slice none 0 0))])], 2, 33⟩)
    (fun x => L.length - x) (fun x => x <= L.length /\ ∀ k, k < x -> (atB L k).name ≠ x1) [] []
    (fun x _ _ => x + 1) (fun _ => [0, 1]) [0, 1] 0 0 0 ?_ ?_ ?_
   . exact ⟨Nat.zero_le _, fun k h => absurd h (Nat.not_lt_zero k)⟩
   . repeat' (first | exact trivial | exact rfl | (intro _ h; exact absurd h (Nat.not_lt_zero _)) | (intro _ _; exact rfl) | refine ⟨?_, ?_⟩ | fail)
   . rintro i ⟨k1, k2⟩
     cases e0 with
     | false =>
       have hem : En.rget ⟨false, L⟩ x1 = Vl.zero := rfl
       repeat' (first | exact trivial | refine ⟨?_, ?_⟩ | intro _)
       all_goals first | (with_reducible first | apply qa | apply qb | apply qc | apply qd) | (conv => whnf)
       all_goals first | (exact absurd ‹false = true› (by decide)) | skip
       all_goals (try rw [hem])
       all_goals first | rfl | (rename_i k hk; exact absurd hk (Nat.not_lt_zero _))
     | true =>
       rcases Nat.lt_or_ge i L.length with hi | hi
       . have hne : decide ((i : Int) < (L.length : Int)) = true := decide_eq_true (by omega)
         have ho1 := okL_at hL hi
         repeat' (first | exact trivial | refine ⟨?_, ?_⟩ | intro _)
         all_goals first | (with_reducible first | apply qa | apply qb | apply qc | apply qd) | (conv => whnf)
         all_goals first | (exact absurd (hne.symm.trans ‹_ = false›) (by decide)) | (exact absurd ‹true = false› (by decide)) | skip
         all_goals (try simp only [Int.toNat_natCast, Nat.zero_add, gN_lst, seq_iff, decide_eq_true_eq, decide_eq_false_iff_not] at *)
         all_goals first | (have hh := ‹(atB L i).name = x1›; have hem := rget_hit hi k2 hh; rw [hem]; rfl) | skip
         all_goals first | omega | rfl | ((with_reducible show idsOk _ _ = true); rfl) | (exact congrArg (Value.int .i64) (by first | (rw [wI_id _ (by omega) (by omega)]; omega) | omega | (dsimp only; omega))) | (exact ho1.1.1) | (have hq := ho1.2; simp only [Sp.inR, Cg.inR] at hq; omega) | (rename_i k hk he _ _ hno; rcases Nat.lt_or_ge k i with hki | hki; exact k2 k hki he; exact hno (by rw [show i = k by omega]; exact he))
       . have hne : decide ((i : Int) < (L.length : Int)) = false := decide_eq_false (by omega)
         obtain rfl : i = L.length := by omega
         have hem := rget_miss k2
         repeat' (first | exact trivial | refine ⟨?_, ?_⟩ | intro _)
         all_goals first | (with_reducible first | apply qa | apply qb | apply qc | apply qd) | (conv => whnf)
         all_goals first | (exact absurd (hne.symm.trans ‹_ = true›) (by decide)) | skip
         all_goals (try rw [hem])
         all_goals first | rfl | (rename_i k hk; exact absurd hk (Nat.not_lt_zero _))
 . cases h
theorem rclean_at {e : En} {k : Nat} (hk : k < e.names.length) : atB e.rclean.binds k = ⟨atS e.names k, e.rget (atS e.names k)⟩ := by
 unfold En.rclean atB atS
 simp [List.getD_eq_getElem?_getD, hk]
theorem rclean_len (e : En) : e.rclean.binds.length = e.names.length := by unfold En.rclean; simp
theorem names_len (e : En) : e.names.length <= e.binds.length := by
 unfold En.names
 split
 . rw [<- nmP_all]; exact nmP_len _ _
 . exact Nat.zero_le _
theorem rclean_row {e : En} {i k : Nat} {g : Nat -> List DV} (hi : i < e.names.length) (hg : g 0 = bdC ⟨atS e.names i, e.rget (atS e.names i)⟩) (hk : k < i + 1) : appRow i (rwB e.rclean.binds) g k = rwB e.rclean.binds k := by
 unfold appRow
 split
 . rfl
 . rw [show k = i by omega, Nat.sub_self, hg]; show _ = bdC (atB _ i); rw [rclean_at hi]
def FREClean : List Ar -> Option Rs
 | [.agg [.d (.v (.bool e0)), .d (.lst 9 n0 f0)]] => some ⟨(n0 <= 1099511627776 /\ RowsOk n0 f0), .va (En.ar (En.rclean (⟨e0, gBs n0 f0⟩ : En))), []⟩
 | _ => none
theorem fcREClean : FC Tryz.prog 20 FREClean := by
 intro xs pre r us h hp
 unfold FREClean at h
 split at h
 . rename_i e0 n0 f0
   cases h
   have hp0 := hp
   refine FCat.deep (ys := [.agg [.d (.v (.bool e0)), .d (.lst 9 n0 (rwB (gBs n0 f0)))]]) ?_ ?_
   . repeat' (first | exact trivial | exact rfl | exact DvE.refl _ | refine ⟨?_, ?_⟩ | fail)
     all_goals first | exact canonB hp0.2.h
   refine fcat tys_ok (l := [(66, ⟨[], FRNames⟩), (25, ⟨[], FRGet⟩)]) ⟨fcRNames, fcRGet, trivial⟩ Tryz.func20 rfl (by kernel_rfl) true ?_
   have hn := hp0.1
   have hL := okL_rows hp0.2
   have hlen := gBs_length n0 f0
   generalize gBs n0 f0 = L at *
   clear hp0
   subst hlen
   have hrow := okL_row hL
   have hb := gBs_row L
   repeat' (first | exact trivial | refine ⟨?_, ?_⟩ | intro _)
   all_goals first | (with_reducible first | apply qa | apply qb | apply qc | apply qd) | (conv => whnf)
   all_goals first | exact hn | exact hrow | skip
   all_goals (simp only [hb] at *)
   have hnl := names_len ⟨e0, L⟩
   have hrl := rclean_len ⟨e0, L⟩
   have hra := @rclean_row ⟨e0, L⟩
   have hrv : (En.rclean ⟨e0, L⟩).live = e0 := rfl
   generalize hNL : En.names ⟨e0, L⟩ = NL at *
   generalize hRC : En.rclean ⟨e0, L⟩ = RC at *
   refine loop_ids tys_ok (l := [(66, ⟨[], FRNames⟩), (25, ⟨[], FRGet⟩)]) ⟨fcRNames, fcRGet, trivial⟩ (by kernel_rfl) (X := Nat)
    (fun x => ⟨[(5, vx (.int .i64 x)), (4, .va (.c (.d (lst NL)))), (1, .va (.c (.own 0 0))), (2, .va (.c (.own 1 0))), (3, .va (.c (.own 2 0)))], [(0, .cells [.d (bo e0), .d (.lst 9 L.length (rwB L))]), (1, .cells [.d (bo false), .d (.v (.slice none 0 0))]), (2, .cells [.d (bo e0), .osl 3 9 0 x]), (3, .row 9 x (rwB RC.binds))], 4, 34⟩)
    (fun x => NL.length - x) (fun x => x <= NL.length) [31] []
    (fun x _ _ => x + 1) (fun xs => match xs with | [t] => [0, 1, 2, oI t] | _ => []) [0, 1, 2] 0 1 0 ?_ ?_ ?_
   . exact Nat.zero_le _
   . repeat' (first | exact trivial | exact rfl | (intro _ h; exact absurd h (Nat.not_lt_zero _)) | (intro _ _; exact rfl) | refine ⟨?_, ?_⟩ | fail)
     all_goals first | simp
   . rintro i k1
     rcases Nat.lt_or_ge i NL.length with hi | hi
     . have hne : decide ((i : Int) < (NL.length : Int)) = true := decide_eq_true (by omega)
       repeat' (first | exact trivial | refine ⟨?_, ?_⟩ | intro _)
       all_goals first | (with_reducible first | apply qa | apply qb | apply qc | apply qd) | (conv => whnf)
       all_goals first | (exact absurd (hne.symm.trans ‹_ = false›) (by decide)) | skip
       all_goals (try simp only [Int.toNat_natCast, Nat.zero_add, gN_lst, hb] at *)
       all_goals first | omega | rfl | exact hn | exact hrow | ((with_reducible show idsOk _ _ = true); rfl) | (exact congrArg (Value.int .i64) (by first | (rw [wI_id _ (by omega) (by omega)]; omega) | omega | (dsimp only; omega))) | (simp only [gBs_row]; exact hra hi rfl ‹_›)
     . have hne : decide ((i : Int) < (NL.length : Int)) = false := decide_eq_false (by omega)
       obtain rfl : i = NL.length := by omega
       repeat' (first | exact trivial | refine ⟨?_, ?_⟩ | intro _)
       all_goals first | (with_reducible first | apply qa | apply qb | apply qc | apply qd) | (conv => whnf)
       all_goals first | (exact absurd (hne.symm.trans ‹_ = true›) (by decide)) | skip
       all_goals first | rfl | omega | exact hrl.symm | exact congrArg Value.bool hrv.symm | (rename_i k _; show rwB RC.binds (0 + k) = _; rw [Nat.zero_add])
 . cases h
def FREExact : List Ar -> Option Rs
 | [.agg [.d (.v (.bool e0)), .d (.lst 9 n0 f0)], .agg [.d (.v (.bool e1)), .d (.lst 9 n1 f1)]] => some ⟨(n0 <= 1099511627776 /\ RowsOk n0 f0) /\ (n1 <= 1099511627776 /\ RowsOk n1 f1) /\ ((⟨e0, gBs n0 f0⟩ : En) = (⟨e1, gBs n1 f1⟩ : En)), .va (.c (.d (bo (true)))), []⟩
 | _ => none
theorem fcREExact : FC Tryz.prog 14 FREExact := by
 intro xs pre r us h hp
 unfold FREExact at h
 split at h
 . rename_i e0 n0 f0 e1 n1 f1
   cases h
   obtain ⟨hp0, hp1, hp2⟩ := hp
   refine FCat.deep (ys := [.agg [.d (.v (.bool e0)), .d (.lst 9 n0 (rwB (gBs n0 f0)))], .agg [.d (.v (.bool e1)), .d (.lst 9 n1 (rwB (gBs n1 f1)))]]) ?_ ?_
   . repeat' (first | exact trivial | exact rfl | exact DvE.refl _ | refine ⟨?_, ?_⟩ | fail)
     all_goals first | first | exact canonB hp0.2.h | exact canonB hp1.2.h
   refine fcat tys_ok (l := [(23, ⟨[], FRVExact⟩)]) ⟨fcRVExact, trivial⟩ Tryz.func14 rfl (by kernel_rfl) true ?_
   have hn := hp0.1
   have hL := okL_rows hp0.2
   have hlen := gBs_length n0 f0
   have hlen1 := gBs_length n1 f1
   have he2 : gBs n0 f0 = gBs n1 f1 := congrArg En.binds hp2
   obtain rfl : e0 = e1 := congrArg En.live hp2
   generalize hg1 : gBs n1 f1 = M at *
   generalize gBs n0 f0 = L at *
   subst he2
   clear hp0 hp1 hp2
   subst hlen
   subst hlen1
   repeat' (first | exact trivial | refine ⟨?_, ?_⟩ | intro _)
   all_goals first | (with_reducible first | apply qa | apply qb | apply qc | apply qd) | (conv => whnf)
   all_goals first | ((with_reducible show ASat _ _ _ _ _); skip) | (exfalso; simp_all; done)
   refine loop_ids tys_ok (l := [(23, ⟨[], FRVExact⟩)]) ⟨fcRVExact, trivial⟩ (by kernel_rfl) (X := Nat)
    (fun x => ⟨[(5, vx (.int .i64 x)), (2, .va (.c (.own 0 0))), (3, .va (.c (.own 1 0)))], [(0, .cells [.d (bo e0), .d (.lst 9 L.length (rwB L))]), (1, .cells [.d (bo e0), .d (.lst 9 L.length (rwB L))])], 2, 56⟩)
    (fun x => L.length - x) (fun x => x <= L.length) [] []
    (fun x _ _ => x + 1) (fun _ => [0, 1]) [0, 1] 0 0 0 ?_ ?_ ?_
   . exact Nat.zero_le _
   . repeat' (first | exact trivial | exact rfl | (intro _ h; exact absurd h (Nat.not_lt_zero _)) | (intro _ _; exact rfl) | refine ⟨?_, ?_⟩ | fail)
   . rintro i k1
     rcases Nat.lt_or_ge i L.length with hi | hi
     . have hne : decide ((i : Int) < (L.length : Int)) = true := decide_eq_true (by omega)
       have ho1 := okL_at hL hi
       have hq := ho1.2
       simp only [Sp.inR, Cg.inR] at hq
       repeat' (first | exact trivial | refine ⟨?_, ?_⟩ | intro _)
       all_goals first | (with_reducible first | apply qa | apply qb | apply qc | apply qd) | (conv => whnf)
       all_goals first | (exact absurd (hne.symm.trans ‹_ = false›) (by decide)) | skip
       all_goals (try simp only [Int.toNat_natCast, Nat.zero_add, gN_lst] at *)
       all_goals first | omega | rfl | ((with_reducible show idsOk _ _ = true); rfl) | (exact congrArg (Value.int .i64) (by first | (rw [wI_id _ (by omega) (by omega)]; omega) | omega | (dsimp only; omega))) | exact ho1.1.1 | skip
       all_goals first | (have h := ‹(!((atB L i).name.toList == (atB L i).name.toList)) = true›; simp at h; done) | (have h := ‹(!Vl.exact _ _) = true›; rw [exact_refl] at h; cases h)
     . have hne : decide ((i : Int) < (L.length : Int)) = false := decide_eq_false (by omega)
       obtain rfl : i = L.length := by omega
       repeat' (first | exact trivial | refine ⟨?_, ?_⟩ | intro _)
       all_goals first | (with_reducible first | apply qa | apply qb | apply qc | apply qd) | (conv => whnf)
       all_goals first | (exact absurd (hne.symm.trans ‹_ = true›) (by decide)) | skip
       all_goals first | rfl
 . cases h
theorem ltB_iff {a b : Bd} : ltB a b = true ↔ kS a.name < kS b.name := by
 unfold ltB; rw [decide_eq_true_eq]; exact cfL_lt _ _
theorem ltB_iff' {a b : Bd} : ltB a b = false ↔ ¬ kS a.name < kS b.name := by
 rw [<- ltB_iff]
 cases ltB a b <;> simp
def SS (D : List Bd) : Prop := D.Pairwise fun a b => kS a.name < kS b.name
def lk : List Bd -> ByteArray -> Option Vl
 | [], _ => none
 | x :: r, s => if x.name = s then some x.v else lk r s
theorem lk_nil (s : ByteArray) : lk [] s = none := rfl
theorem lk_cons (x : Bd) (r : List Bd) (s : ByteArray) : lk (x :: r) s = if x.name = s then some x.v else lk r s := rfl
theorem lk_none {D : List Bd} {s : ByteArray} (h : ∀ b ∈ D, b.name ≠ s) : lk D s = none := by
 induction D with
 | nil => rfl
 | cons x r ih => rw [lk_cons, if_neg (h x List.mem_cons_self)]; exact ih fun b hb => h b (List.mem_cons_of_mem _ hb)
theorem lk_append (l m : List Bd) (s : ByteArray) : lk (l ++ m) s = (lk l s).or (lk m s) := by
 induction l with
 | nil => simp [lk]
 | cons x r ih =>
   rw [List.cons_append, lk_cons, lk_cons, ih]
   split <;> simp
theorem lk_mem {D : List Bd} {s : ByteArray} {v : Vl} (h : lk D s = some v) : (⟨s, v⟩ : Bd) ∈ D := by
 induction D with
 | nil => cases h
 | cons x r ih =>
   rw [lk_cons] at h
   split at h
   . rename_i e; subst e; cases h; exact List.mem_cons_self
   . exact List.mem_cons_of_mem _ (ih h)
theorem lk_of_mem {D : List Bd} (h : SS D) {b : Bd} (hb : b ∈ D) : lk D b.name = some b.v := by
 induction D with
 | nil => cases hb
 | cons x r ih =>
   have h1 := List.pairwise_cons.1 h
   rw [lk_cons]
   rcases List.mem_cons.1 hb with rfl | hb
   . rw [if_pos rfl]
   . rw [if_neg, ih h1.2 hb]
     intro e
     have := h1.1 b hb
     rw [e] at this; exact List.lt_irrefl _ this
theorem lk_isSome {D : List Bd} {s : ByteArray} : (lk D s).isSome = true ↔ s ∈ D.map (·.name) := by
 induction D with
 | nil => simp [lk]
 | cons x r ih =>
   rw [lk_cons, List.map_cons, List.mem_cons]
   split
   . rename_i h; simp [h]
   . rename_i h
     rw [ih]
     constructor
     . exact .inr
     . rintro (rfl | h2)
       . exact absurd rfl h
       . exact h2
theorem ss_head {x : Bd} {r : List Bd} (h : SS (x :: r)) {s : ByteArray} (hs : ¬ kS x.name < kS s) : lk r s = none := by
 refine lk_none fun b hb e => hs ?_
 have := (List.pairwise_cons.1 h).1 b hb
 rw [e] at this; exact this
theorem ss_ext : ∀ {D E : List Bd}, SS D -> SS E -> (∀ s, lk D s = lk E s) -> D = E
 | [], [], _, _, _ => rfl
 | [], y :: r, _, _, h => by have := h y.name; rw [lk_nil, lk_cons, if_pos rfl] at this; cases this
 | x :: r, [], _, _, h => by have := h x.name; rw [lk_nil, lk_cons, if_pos rfl] at this; cases this
 | x :: r, y :: q, hD, hE, h => by
   by_cases e : x.name = y.name
   . have h1 := h x.name
     rw [lk_cons, lk_cons, if_pos rfl, if_pos e.symm] at h1
     have hv := Option.some.inj h1
     have hxy : x = y := by cases x; cases y; simp_all
     subst hxy
     congr 1
     refine ss_ext (List.pairwise_cons.1 hD).2 (List.pairwise_cons.1 hE).2 fun s => ?_
     by_cases es : x.name = s
     . subst es
       rw [ss_head hD (List.lt_irrefl _), ss_head hE (List.lt_irrefl _)]
     . have := h s
       rw [lk_cons, lk_cons, if_neg es, if_neg es] at this
       exact this
   . exfalso
     by_cases c : kS x.name < kS y.name
     . have := h x.name
       rw [lk_cons, if_pos rfl, lk_cons, if_neg (Ne.symm e), ss_head hE (List.lt_asymm c)] at this
       cases this
     . have c2 := kS_tri c e
       have := h y.name
       rw [lk_cons, if_neg e, ss_head hD (List.lt_asymm c2), lk_cons, if_pos rfl] at this
       cases this
def mapV (f : Vl -> Vl) (D : List Bd) : List Bd := D.map fun b => ⟨b.name, f b.v⟩
theorem lk_mapV (f : Vl -> Vl) (D : List Bd) (s : ByteArray) : lk (mapV f D) s = (lk D s).map f := by
 induction D with
 | nil => rfl
 | cons x r ih =>
   show lk (⟨x.name, f x.v⟩ :: mapV f r) s = _
   rw [lk_cons, lk_cons, ih]
   split <;> rfl
theorem ss_mapV {f : Vl -> Vl} {D : List Bd} (h : SS D) : SS (mapV f D) := by
 unfold SS mapV; rw [List.pairwise_map]; exact h
theorem lk_mg {S : List Bd} (h : Std ltB S) (x : Bd) (s : ByteArray) : lk (mg ltB S [x]) s = (lk S s).or (lk [x] s) := by
 induction S with
 | nil => rw [mg_nil]; simp [lk]
 | cons y r ih =>
   have h1 := List.pairwise_cons.1 h
   rw [mg_cons]
   split
   . rename_i hlt
     have hlt := ltB_iff.1 hlt
     rw [mg_right]
     by_cases e : x.name = s
     . subst e
       have hn : lk (y :: r) x.name = none := by
        refine lk_none fun b hb e => ?_
        rcases List.mem_cons.1 hb with rfl | hb
        . rw [e] at hlt; exact List.lt_irrefl _ hlt
        . have := ltB_iff'.1 (h1.1 b hb)
          rw [e] at this; exact this hlt
       rw [hn, lk_cons, if_pos rfl, lk_cons, if_pos rfl]; rfl
     . rw [lk_cons, if_neg e, lk_cons x, if_neg e, lk_nil]; simp
   . rw [lk_cons, lk_cons, ih h1.2]
     split <;> simp
theorem lk_srt (L : List Bd) (s : ByteArray) : lk (srt ltB L) s = lk L s := by
 induction L using snocRec with
 | h0 => rfl
 | h1 l x ih => rw [srt_snoc, lk_mg (srt_srt wkB l), ih, lk_append]
theorem ddA_congr {p q : Bd} (h : p.name = q.name) (r : List Bd) : ddA p r = ddA q r := by
 cases r with
 | nil => rfl
 | cons y r => rw [ddA, ddA, h]
theorem lk_ddA (r : List Bd) (p : Bd) (s : ByteArray) : lk (p :: ddA p r) s = lk (p :: r) s := by
 induction r generalizing p with
 | nil => rfl
 | cons y r ih =>
   rw [ddA]
   split
   . rename_i h
     rw [ddA_congr h, ih p, lk_cons, lk_cons, lk_cons y]
     split
     . rfl
     . rename_i h2; rw [if_neg (by rw [h]; exact h2)]
   . rw [lk_cons, lk_cons p, ih y]
theorem lk_dd (l : List Bd) (s : ByteArray) : lk (dd l) s = lk l s := by
 cases l with
 | nil => rfl
 | cons p r => exact lk_ddA r p s
theorem ss_ddA (r : List Bd) (p : Bd) (h : Std ltB (p :: r)) : SS (p :: ddA p r) := by
 induction r generalizing p with
 | nil => simp [ddA, SS]
 | cons y r ih =>
   have h1 := List.pairwise_cons.1 h
   have hy := List.pairwise_cons.1 (ih y h1.2)
   rw [ddA]
   split
   . rename_i e
     refine List.pairwise_cons.2 ⟨fun x hx => ?_, hy.2⟩
     have := hy.1 x hx
     rw [e] at this; exact this
   . rename_i e
     have hpy : kS p.name < kS y.name := kS_tri (ltB_iff'.1 (h1.1 y List.mem_cons_self)) e
     refine List.pairwise_cons.2 ⟨fun x hx => ?_, ih y h1.2⟩
     rcases List.mem_cons.1 hx with rfl | hx
     . exact hpy
     . exact List.lt_trans hpy (hy.1 x hx)
theorem ss_dd {l : List Bd} (h : Std ltB l) : SS (dd l) := by
 cases l with
 | nil => exact List.Pairwise.nil
 | cons p r => exact ss_ddA r p h
namespace En
def hold (e : En) (s : ByteArray) : Option Vl := if e.live = true then lk e.binds s else none
end En
theorem clean_ss (e : En) : SS e.clean.binds := by
 unfold En.clean
 split
 . exact ss_mapV (ss_dd (srt_srt wkB _))
 . exact List.Pairwise.nil
theorem eclean_live (e : En) : e.clean.live = e.live := by
 unfold En.clean
 split
 . rename_i h; exact h.symm
 . rename_i h; simpa using h
theorem clean_lk (e : En) (s : ByteArray) : lk e.clean.binds s = (e.hold s).map Vl.of := by
 unfold En.clean En.hold
 split
 . show lk (mapV Vl.of _) s = _
   rw [lk_mapV, lk_dd, lk_srt]
 . rfl
theorem en_ext {a b : En} (h : a.live = b.live) (h1 : SS a.binds) (h2 : SS b.binds) (hs : ∀ s, lk a.binds s = lk b.binds s) : a = b := by
 obtain ⟨l, x⟩ := a
 obtain ⟨m, y⟩ := b
 simp only at h h1 h2 hs
 subst h
 rw [ss_ext h1 h2 hs]
end Go.Proofs.YthkknkhpfffnbaaGreat
namespace Go.Sx
def drawOk2 (all : List Oper) (m : Nat) : Bool :=
 let b := cloGo all []
 (List.range all.length).all fun i =>
   match all[i]? with
   | none => false
   | some o => o.after.toList.all (fun e => !Region.binds .any e || decide (e.on < i)) &&
     (List.range i).all fun j => (b.getD i 0).testBit j || decide (m <= j) || (decide (i < m) && match all[j]? with
       | some x => !clash all x o
       | none => false)
theorem drawOk2_spec {ops : Array Oper} {m : Nat} (h : drawOk2 ops.toList m = true) :
 (∀ i o, ops[i]? = some o -> ∀ e ∈ o.after.toList, Region.binds .any e = true -> e.on < i) /\
 ∀ i j x o, ops[i]? = some o -> ops[j]? = some x -> j < i -> j < m -> Cl ops i j \/ (i < m /\ clash ops.toList x o = false) := by
 simp only [drawOk2, List.all_eq_true, List.mem_range, Array.length_toList] at h
 have hcl := cloGo_spec ops ops.toList [] (fun i o ho => by simpa using ho) (fun i j h => by simp at h)
 refine ⟨?_, ?_⟩
 . intro i o ho e he hb
   have hi : i < ops.size := (Array.getElem?_eq_some_iff.1 ho).1
   have := h i hi
   simp only [Array.getElem?_toList, ho, Bool.and_eq_true, List.all_eq_true] at this
   have := this.1 e he
   simpa [hb] using this
 . intro i j x o ho hx hj hjm
   have hi : i < ops.size := (Array.getElem?_eq_some_iff.1 ho).1
   have := h i hi
   simp only [Array.getElem?_toList, ho, Bool.and_eq_true, List.all_eq_true] at this
   have := this.2 j (by simpa using hj)
   simp only [hx, Bool.or_eq_true, Bool.and_eq_true, decide_eq_true_eq, Bool.not_eq_true'] at this
   rcases this with (h1 | h1) | h1
   . exact .inl (hcl i j h1)
   . omega
   . exact .inr h1
def normH (h : List (Nat × Blk)) : Nat -> List (Nat × Blk) -> List (Nat × Blk)
 | 0, acc => acc
 | k + 1, acc => match lookB h k with
   | .gone => normH h k acc
   | b => normH h k ((k, b) :: acc)
def norm (live : List Nat) : St -> St
 | ⟨ts, h, n, m⟩ => ⟨live.map fun t => (t, lookT ts t), normH h n [], n, m⟩
def normTs (ts : List (Nat × Tm)) : List Nat -> (List (Nat × Tm) -> Prop) -> Prop
 | [], K => K []
 | t :: l, K => fT (lookT ts t) fun x => normTs ts l fun r => K ((t, x) :: r)
def normHs (h : List (Nat × Blk)) : Nat -> List (Nat × Blk) -> (List (Nat × Blk) -> Prop) -> Prop
 | 0, acc, K => K acc
 | k + 1, acc, K => fB (lookB h k) fun b => match b with
   | .gone => normHs h k acc K
   | .cells cs => normHs h k ((k, .cells cs) :: acc) K
   | .row a b c => normHs h k ((k, .row a b c) :: acc) K
   | .fz cs => normHs h k ((k, .fz cs) :: acc) K
   | .fzr a b c => normHs h k ((k, .fzr a b c) :: acc) K
def normK (live : List Nat) (st : St) (K : St -> Prop) : Prop := match st with
 | ⟨ts, h, n, m⟩ => normTs ts live fun ts' => normHs h n [] fun h' => K ⟨ts', h', n, m⟩
theorem normTs_eq (ts : List (Nat × Tm)) : ∀ (l : List Nat) (K : List (Nat × Tm) -> Prop), normTs ts l K = K (l.map fun t => (t, lookT ts t))
 | [], K => rfl
 | t :: l, K => by simp only [normTs, fT_eq, normTs_eq ts l, List.map_cons]
theorem normHs_eq (h : List (Nat × Blk)) : ∀ (n : Nat) (acc : List (Nat × Blk)) (K : List (Nat × Blk) -> Prop), normHs h n acc K = K (normH h n acc)
 | 0, acc, K => rfl
 | k + 1, acc, K => by
   simp only [normHs, normH, fB_eq]
   cases lookB h k <;> simp only [normHs_eq h k]
theorem normK_eq (live : List Nat) (st : St) (K : St -> Prop) : normK live st K = K (norm live st) := by
 obtain ⟨ts, h, n, m⟩ := st
 simp only [normK, norm, normTs_eq, normHs_eq]
theorem lookT_live (ts : List (Nat × Tm)) (t : Nat) : ∀ (l : List Nat), lookT (l.map fun t => (t, lookT ts t)) t = lookT ts t \/ lookT (l.map fun t => (t, lookT ts t)) t = topT
 | [] => .inr rfl
 | u :: l => by
   simp only [List.map_cons, lookT]
   cases hu : Nat.beq u t with
   | true => left; rw [Nat.eq_of_beq_eq_true hu]
   | false => exact lookT_live ts t l
theorem lookB_normH (h : List (Nat × Blk)) (k : Nat) : ∀ (n : Nat) (acc : List (Nat × Blk)), (k < n -> lookB h k ≠ .gone -> lookB (normH h n acc) k = lookB h k) /\ (n <= k \/ lookB h k = .gone -> lookB (normH h n acc) k = lookB acc k)
 | 0, acc => ⟨fun h => absurd h (Nat.not_lt_zero k), fun _ => rfl⟩
 | n + 1, acc => by
   simp only [normH]
   split
   . rename_i hg
     obtain ⟨h1, h2⟩ := lookB_normH h k n acc
     refine ⟨fun hk hn => h1 ?_ hn, fun hk => h2 ?_⟩
     . rcases Nat.lt_succ_iff_lt_or_eq.1 hk with h | h
       . exact h
       . subst h; exact absurd hg hn
     . rcases hk with hk | hk
       . exact .inl (by omega)
       . exact .inr hk
   . rename_i hg
     obtain ⟨h1, h2⟩ := lookB_normH h k n ((n, lookB h n) :: acc)
     refine ⟨fun hk hn => ?_, fun hk => ?_⟩
     . rcases Nat.lt_succ_iff_lt_or_eq.1 hk with h | h
       . exact h1 h hn
       . subst h; rw [h2 (.inl (Nat.le_refl _)), lookB_cons, if_pos rfl]
     . rcases hk with hk | hk
       . rw [h2 (.inl (by omega)), lookB_cons, if_neg (by omega)]
       . rw [h2 (.inr hk), lookB_cons, if_neg (fun e => by subst e; exact hg hk)]
section
variable {P : Program} {τ : Tys} {Γ : Sums} {base : Nat} {ψ ψ' : Psi} {S S' : Nat → Prop} {w w' : World} {a : Act} {st : St}
theorem Rel.norm (live : List Nat) (hr : Rel P base ψ S w st a) : Rel P base ψ S w (norm live st) a := by
 obtain ⟨ts, h, n, m⟩ := st
 have hl : ∀ k l, ψ k = some l -> lookB (normH h n []) k = lookB h k := by
  intro k l hk
  have hk2 : k < n := by
   rcases Nat.lt_or_ge k n with h1 | h1
   . exact h1
   . have := hr.sim.dom k h1; rw [hk] at this; cases this
  by_cases c : lookB h k = .gone
  . rw [(lookB_normH h k n []).2 (.inr c), c]; rfl
  . exact (lookB_normH h k n []).1 hk2 c
 have hs := hr.sim
 refine ⟨hr.bas, ⟨hs.dom, fun k l hk => ?_, fun k k' b m1 m2 e1 e2 l1 l2 => ?_, fun k b m1 e1 l1 => ?_, hs.pdom, hs.sdom⟩, hr.lim, hr.defers, fun t => ?_⟩
 . show BlkRep P ψ S w (lookB (normH h n []) k) l
   rw [hl k l hk]; exact hs.blk k l hk
 . rw [show lookB (norm live ⟨ts, h, n, m⟩).heap k = lookB h k from hl k _ e1] at l1
   rw [show lookB (norm live ⟨ts, h, n, m⟩).heap k' = lookB h k' from hl k' _ e2] at l2
   exact hs.inj k k' b m1 m2 e1 e2 l1 l2
 . rw [show lookB (norm live ⟨ts, h, n, m⟩).heap k = lookB h k from hl k _ e1] at l1
   exact hs.dis k b m1 e1 l1
 . show RepT P ψ S w (lookT (live.map fun t => (t, lookT ts t)) t) _
   rcases lookT_live ts t live with e | e
   . rw [e]; exact hr.tmps t
   . rw [e]; trivial
theorem tail_intro {F G : St -> Prop} {s : St} (h1 : F s) (h2 : G s) : ∃ s, F s /\ G s := ⟨s, h1, h2⟩
end
theorem draw_cut {P : Program} {t : TT} (ht : t.ok P) {l : List (Nat × Sm)} (hl : sumsOk P l) (hmix : P.follows .mixedOrders = true) {base : Nat} {ops : Array Oper} {id : Nat} {st : St} {Q : Exit -> St -> Prop} (p : Plan) (live : List Nat)
 (hp : (Region.noSelect ops && planOk ops ops.size (Array.replicate ops.size false) p) = true)
 (hk : ∃ s, vcP P t.get (vcCall P (sums l) base) ops.toList p st (fun st' => normK live st' fun s' => s' = s) /\ Q .normal s) : ASat P base (.region id ops true) st Q := by
 obtain ⟨s, hv, hs⟩ := hk
 have h : ASat P base (.region id ops true) st (fun e st' => e = .normal /\ norm live st' = s) := by
  refine draw_plan ht hl hmix p hp ?_
  have e : (fun st' => normK live st' fun s' => s' = s) = fun st' => Exit.normal = .normal /\ norm live st' = s := by
   funext st'; rw [normK_eq]; simp
  rw [<- e]; exact hv
 refine ⟨fun ψ S w a hr => wp_mono (h.run ψ S w a hr) ?_⟩
 rintro e a' w' ⟨st', ψ', S', ⟨rfl, h1⟩, h2, h3⟩
 exact ⟨s, ψ', S', hs, by rw [<- h1]; exact h2.norm live, h3⟩
def idxOf (k : Nat) : List Nat -> List Nat -> Option Nat
 | i :: l, j :: js => match Nat.beq i k with
   | true => some j
   | false => idxOf k l js
 | _, _ => none
def renCaps (js ids : List Nat) : List (Nat × Nat) -> Option (List (Nat × Nat))
 | [] => some []
 | (k, o) :: l => match idxOf k ids js, renCaps js ids l with
   | some j, some r => some ((j, o) :: r)
   | _, _ => none
def renC (js ids : List Nat) (x : Cell) : Cell := match x with
 | .own k off => match idxOf k ids js with
   | some j => .own j off
   | none => .top
 | .osl k sz o len => match idxOf k ids js with
   | some j => .osl j sz o len
   | none => .top
 | .ep k sz i off => match idxOf k ids js with
   | some j => .ep j sz i off
   | none => .top
 | .fn f caps => match renCaps js ids caps with
   | some r => .fn f r
   | none => .top
 | .osc .. => .top
 | .ap .. => .top
 | x => x
def renVa (js ids : List Nat) (x : Va) : Va := match x with
 | .c x => .c (renC js ids x)
 | .agg xs => .agg (xs.map (renC js ids))
def renT (js ids : List Nat) (x : Tm) : Tm := match x with
 | .va x => .va (renVa js ids x)
 | .tup _ => topT
def renB (js ids : List Nat) (b : Blk) : Blk := match b with
 | .cells cs => .cells (cs.map (renC js ids))
 | b => b
def renTs (js ids : List Nat) (ts : List (Nat × Tm)) (l : List Nat) : List (Nat × Tm) := l.map fun t => (t, renT js ids (lookT ts t))
def renHs (js ids : List Nat) (h : List (Nat × Blk)) : List Nat -> List Nat -> List (Nat × Blk)
 | k :: l, j :: l' => (j, renB js ids (lookB h k)) :: renHs js ids h l l'
 | _, _ => []
def ren (live js ids : List Nat) (n1 : Nat) : St -> St
 | ⟨ts, h, _, m⟩ => ⟨renTs js ids ts live, renHs js ids h ids js, n1, m⟩
def fTs : List (Nat × Tm) -> (List (Nat × Tm) -> Prop) -> Prop
 | [], K => K []
 | (t, x) :: l, K => fT x fun x => fTs l fun r => K ((t, x) :: r)
def fBc (b : Blk) (K : Blk -> Prop) : Prop := match b with
 | .cells cs => fCs cs fun cs => K (.cells cs)
 | b => fB b K
def fHs : List (Nat × Blk) -> (List (Nat × Blk) -> Prop) -> Prop
 | [], K => K []
 | (t, x) :: l, K => fBc x fun x => fHs l fun r => K ((t, x) :: r)
def fSt (st : St) (K : St -> Prop) : Prop := match st with
 | ⟨ts, h, n, m⟩ => fTs ts fun ts => fHs h fun h => K ⟨ts, h, n, m⟩
theorem fTs_eq : ∀ (l : List (Nat × Tm)) (K : List (Nat × Tm) -> Prop), fTs l K = K l
 | [], _ => rfl
 | (t, x) :: l, K => by simp only [fTs, fT_eq, fTs_eq l]
theorem fBc_eq (b : Blk) (K : Blk -> Prop) : fBc b K = K b := by
 cases b <;> simp only [fBc, fB_eq, fCs_eq]
theorem fHs_eq : ∀ (l : List (Nat × Blk)) (K : List (Nat × Blk) -> Prop), fHs l K = K l
 | [], _ => rfl
 | (t, x) :: l, K => by simp only [fHs, fBc_eq, fHs_eq l]
theorem fSt_eq (st : St) (K : St -> Prop) : fSt st K = K st := by
 obtain ⟨ts, h, n, m⟩ := st; simp only [fSt, fTs_eq, fHs_eq]
theorem idxOf_some {k : Nat} : ∀ {l js : List Nat} {i j : Nat}, idxOf k l js = some j -> (∀ q, q < js.length -> js[q]? = some (i + q)) -> i <= j /\ l[j - i]? = some k
 | [], _, _, _, h, _ => by simp [idxOf] at h
 | _ :: _, [], _, _, h, _ => by simp [idxOf] at h
 | x :: l, y :: js, i, j, h, hj => by
   simp only [idxOf] at h
   have hy : y = i := by simpa using hj 0 (by simp)
   split at h
   . rename_i e; cases h; subst hy; exact ⟨Nat.le_refl _, by simp [Nat.eq_of_beq_eq_true e]⟩
   . obtain ⟨h1, h2⟩ := idxOf_some (i := i + 1) h (fun q hq => by
      have := hj (q + 1) (by simp; omega)
      rw [List.getElem?_cons_succ] at this
      rw [this]; congr 1; omega)
     exact ⟨by omega, by rw [show j - i = (j - (i + 1)) + 1 by omega, List.getElem?_cons_succ]; exact h2⟩
def Ups (js : List Nat) : Prop := ∀ q, q < js.length -> js[q]? = some q
theorem idx_at {k j : Nat} {js ids : List Nat} (hj : Ups js) (h : idxOf k ids js = some j) : ids[j]? = some k := by simpa using (idxOf_some (i := 0) h (by simpa [Ups] using hj)).2
theorem renCaps_le {js ids : List Nat} (hj : Ups js) : ∀ {l r : List (Nat × Nat)}, renCaps js ids l = some r -> capsLe ids l r
 | [], r, h => by cases h; trivial
 | (k, o) :: l, r, h => by
   simp only [renCaps] at h
   split at h
   . rename_i j r' h1 h2; cases h; exact ⟨⟨idx_at hj h1, rfl⟩, renCaps_le hj h2⟩
   . cases h
theorem cellLe_top {ids : List Nat} {nv : Nat} (x : Cell) : cellLe ids nv x .top := by cases x <;> trivial
theorem renC_le {js : List Nat} (hj : Ups js) (ids : List Nat) (x : Cell) : cellLe ids 0 x (renC js ids x) := by
 cases x with
 | own k off => simp only [renC]; split; exact ⟨idx_at hj ‹_›, rfl⟩; exact cellLe_top _
 | osl k sz o len => simp only [renC]; split; exact ⟨idx_at hj ‹_›, rfl, rfl, rfl⟩; exact cellLe_top _
 | ep k sz i off => simp only [renC]; split; exact ⟨idx_at hj ‹_›, rfl, rfl, rfl⟩; exact cellLe_top _
 | fn f caps => simp only [renC]; split; exact ⟨rfl, renCaps_le hj ‹_›⟩; exact cellLe_top _
 | osc => exact cellLe_top _
 | ap => exact cellLe_top _
 | top => trivial
 | und => trivial
 | kb b => exact rfl
 | d x => cases x <;> simp [renC, cellLe, dvEq]
 | rp cs => exact rfl
 | fv g => exact rfl
theorem renCs_le {js : List Nat} (hj : Ups js) (ids : List Nat) : ∀ (xs : List Cell), cellsLe ids 0 xs (xs.map (renC js ids))
 | [] => trivial
 | x :: xs => ⟨renC_le hj ids x, renCs_le hj ids xs⟩
theorem renVa_le {js : List Nat} (hj : Ups js) (ids : List Nat) (x : Va) : vaLe ids 0 x (renVa js ids x) := by
 cases x with
 | c x =>
   have h := renC_le hj ids x
   show vaLe ids 0 (.c x) (.c (renC js ids x))
   cases hx : renC js ids x <;> rw [hx] at h <;> first | trivial | exact h
 | agg xs => exact renCs_le hj ids xs
theorem renT_le {js : List Nat} (hj : Ups js) (ids : List Nat) (x : Tm) : tmLe ids 0 x (renT js ids x) := by
 cases x with
 | va x =>
   have h := renVa_le hj ids x
   show tmLe ids 0 (.va x) (.va (renVa js ids x))
   cases hx : renVa js ids x with
   | c y => rw [hx] at h; cases y <;> first | trivial | exact h
   | agg ys => rw [hx] at h; exact h
 | tup xs => trivial
theorem renTs_le {js : List Nat} (hj : Ups js) (ids : List Nat) (ts : List (Nat × Tm)) : ∀ (l : List Nat), tmpsLe ids 0 ts (renTs js ids ts l)
 | [] => trivial
 | t :: l => ⟨renT_le hj ids _, renTs_le hj ids ts l⟩
theorem renB_le {js : List Nat} (hj : Ups js) (ids : List Nat) (b : Blk) : blkLe ids 0 b (renB js ids b) := by
 cases b with
 | cells cs => exact renCs_le hj ids cs
 | row => exact ⟨rfl, rfl, fun _ _ => rfl⟩
 | fz => exact rfl
 | fzr => exact ⟨rfl, rfl, fun _ _ => rfl⟩
 | gone => trivial
theorem renHs_le {js : List Nat} (hj : Ups js) (ids : List Nat) (h : List (Nat × Blk)) : ∀ (l l' : List Nat) (j : Nat), (∀ i, l[i]? = ids[j + i]?) -> (∀ q, q < l'.length -> l'[q]? = some (j + q)) -> heapLe ids 0 h (renHs js ids h l l')
 | [], _, _, _, _ => trivial
 | _ :: _, [], _, _, _ => trivial
 | k :: l, y :: l', j, hl, hq => by
   have h0 := hl 0
   simp only [List.getElem?_cons_zero, Nat.add_zero] at h0
   have hy : y = j := by simpa using hq 0 (by simp)
   subst hy
   refine ⟨?_, renHs_le hj ids h l l' (y + 1) (fun i => ?_) (fun q hqq => ?_)⟩
   . rw [<- h0]; exact renB_le hj ids _
   . have := hl (i + 1)
     rw [List.getElem?_cons_succ] at this
     rw [this]; congr 1; omega
   . have := hq (q + 1) (by simp; omega)
     rw [List.getElem?_cons_succ] at this
     rw [this]; congr 1; omega
theorem ren_le {base n1 : Nat} (live js ids : List Nat) (st : St) (h : idsOk base ids = true) (hj : Ups js) (hn : ids.length = n1) : leSt base ids 0 st (ren live js ids n1 st) := by
 obtain ⟨ts, hp, n, m⟩ := st
 exact ⟨rfl, by rw [hn]; rfl, h, renTs_le hj ids ts live, renHs_le hj ids hp ids js 0 (fun i => by rw [Nat.zero_add]) (by simpa [Ups] using hj)⟩
def oIs (ts : List (Nat × Tm)) : List Nat -> List Nat
 | [] => []
 | t :: l => (match lookT ts t with
   | .va (.c (.own k _)) => k
   | .va (.c (.osl k _ _ _)) => k
   | _ => 0) :: oIs ts l
def renK (base n0 n1 : Nat) (js ps live : List Nat) (st : St) (K : St -> Prop) : Prop := match st with
 | ⟨ts, h, n, m⟩ => match idsOk base (List.range n0 ++ oIs ts ps) && (decide (js = List.range n1) && Nat.beq (List.range n0 ++ oIs ts ps).length n1) with
   | true => fSt (ren live js (List.range n0 ++ oIs ts ps) n1 ⟨ts, h, n, m⟩) K
   | false => False
theorem draw_ren {P : Program} {t : TT} (ht : t.ok P) {l : List (Nat × Sm)} (hl : sumsOk P l) (hmix : P.follows .mixedOrders = true) {base : Nat} {ops : Array Oper} {id : Nat} {st : St} {Q : Exit -> St -> Prop} (p : Plan) (n0 n1 : Nat) (js ps live : List Nat)
 (hp : (Region.noSelect ops && planOk ops ops.size (Array.replicate ops.size false) p) = true)
 (hk : ∃ s, vcP P t.get (vcCall P (sums l) base) ops.toList p st (fun st' => renK base n0 n1 js ps live st' fun s' => s' = s) /\ Q .normal s) : ASat P base (.region id ops true) st Q := by
 obtain ⟨s, hv, hs⟩ := hk
 have h : ASat P base (.region id ops true) st (fun e st' => match e with | .normal => renK base n0 n1 js ps live st' fun s' => s' = s | _ => False) := draw_plan ht hl hmix p hp hv
 refine ⟨fun ψ S w a hr => wp_mono (h.run ψ S w a hr) ?_⟩
 rintro e a' w' ⟨st', ψ', S', h1, h2, h3⟩
 cases e with
 | normal =>
   obtain ⟨ts, hh, n, m⟩ := st'
   have h1 : (match idsOk base (List.range n0 ++ oIs ts ps) && (decide (js = List.range n1) && Nat.beq (List.range n0 ++ oIs ts ps).length n1) with
    | true => fSt (ren live js (List.range n0 ++ oIs ts ps) n1 ⟨ts, hh, n, m⟩) fun s' => s' = s
    | false => False) := h1
   split at h1
   . rename_i hid
     rw [fSt_eq] at h1
     simp only [Bool.and_eq_true, decide_eq_true_eq] at hid
     obtain ⟨hid, hjs, hnn⟩ := hid
     obtain ⟨g1, g2⟩ := h2.le (ren_le (n1 := n1) live js _ _ hid (by rw [hjs]; intro q hq; simp at hq; simp [hq]) (Nat.eq_of_beq_eq_true hnn))
     rw [h1] at g1
     exact ⟨s, _, S', hs, g1, h3.trans g2⟩
   . exact h1.elim
 | _ => exact h1.elim
end Go.Sx
