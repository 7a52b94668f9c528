/- What names.Join computes. No condition. -/
import Derived.Test.YtehpbhpmkhlldaaGreatV4
set_option linter.all false
set_option maxHeartbeats 8000000
set_option maxRecDepth 100000
namespace Go.Proofs.YtehpbhpmkhlldaaGreat
open Go.Sx
def gLn : List DV -> Nat
 | [.lst _ n _] => n
 | _ => 0
def gLf : List DV -> Nat -> List DV
 | [.lst _ _ f] => f
 | _ => fun _ => []
abbrev cLL (l : List DV) : List DV := [.lst 1 (gLn l) fun j => [st (gT (gLf l j))]]
def rLL (l : List DV) : Prop := l = cLL l
def gLL (l : List DV) : List ByteArray := gN (gLn l) (gLf l)
def catL (f : Nat -> List DV) : Nat -> List ByteArray
 | 0 => []
 | 1 => gLL (f 0)
 | _ => gLL (f 0) ++ gLL (f 1)
def rowN : Blk -> Nat
 | .row _ n _ => n
 | .fzr _ n _ => n
 | _ => 0
theorem canonY {f : Nat -> List DV} {p : Prop} (h : (rLL (f 0) /\ rLL (f 1)) /\ p) (i : Nat) (hi : i < 2) : f i = cLL (f i) := by
 have hc : i = 0 \/ i = 1 := by omega
 rcases hc with rfl | rfl
 . exact h.1.1
 . exact h.1.2
theorem catL_len (f : Nat -> List DV) : (catL f 0).length = 0 /\ (catL f 1).length = gLn (f 0) /\ (catL f 2).length = gLn (f 0) + gLn (f 1) := by simp [catL, gLL, gN_length]
theorem appRow_cat {l : List ByteArray} {m len : Nat} (hl : l.length = len) {F g : Nat -> List DV} (hF : ∀ j, j < len -> F j = [st (atS l j)]) (hg : ∀ j, j < m -> g j = [st (gT (g j))]) (i : Nat) (hi : i < len + m) : appRow len F g i = [st (atS (l ++ gN m g) i)] := by
 unfold appRow
 by_cases h : i < len
 . rw [if_pos h, hF i h]; simp [atS, List.getD_eq_getElem?_getD, List.getElem?_append_left (show i < l.length by omega)]
 . rw [if_neg h, hg _ (by omega)]
   have h2 : i - len < m := by omega
   have h3 : (gN m g)[i - len]? = some (gT (g (i - len))) := by simp [gN, h2]
   simp only [atS, List.getD_eq_getElem?_getD, List.getElem?_append_right (show l.length <= i by omega), hl, h3, Option.getD_some]
theorem cat_step {f0 : Nat -> List DV} {f : Nat -> List DV} {i : Nat} (hi : i < 2) (k3 : ∀ j, j < (catL f0 i).length -> f j = [st (atS (catL f0 i) j)]) (j : Nat) (hj : j < (catL f0 (i + 1)).length) :
 appRow (catL f0 i).length f (fun j => [st (gT (gLf (f0 i) j))]) j = [st (atS (catL f0 (i + 1)) j)] := by
 have hc : i = 0 \/ i = 1 := by omega
 rcases hc with rfl | rfl
 . exact appRow_cat (l := catL f0 0) rfl k3 (fun _ _ => rfl) j (by simpa [catL, gLL, gN_length] using hj)
 . exact appRow_cat (l := catL f0 1) rfl k3 (fun _ _ => rfl) j (by simpa [catL, gLL, gN_length] using hj)
def FNConcat : List Ar -> Option Rs
 | [.c (.d (.lst 1 2 f0))] => some ⟨((rLL (f0 0) /\ rLL (f0 1)) /\ ((gLn (f0 0)) + (gLn (f0 1))) * 16 <= 140737488351232), .va (.c (.d (lst (catL f0 2)))), []⟩
 | _ => none
theorem fcNConcat : FC Tryz.prog 92 FNConcat := by
 intro xs pre r us h hp
 unfold FNConcat at h
 split at h
 . rename_i f0
   cases h
   have hp0 := hp
   refine FCat.of_eq (as' := [.c (.d (.lst 1 2 fun i => cLL (f0 i)))]) ?_ rfl rfl ?_
   . repeat' (first | exact trivial | exact rfl | refine ⟨?_, ?_⟩ | fail)
     all_goals first | (intro i hi; exact canonY hp0 i hi) | exact hp0.2 | exact hp1.2 | exact hp2.2 | (intro i hi; exact (hp0.2 i hi).1) | (intro i hi; exact (hp1.2 i hi).1) | (intro i hi; exact (hp2.2 i hi).1) | grind
   refine fcat tys_ok (l := []) trivial Tryz.func92 rfl (by kernel_rfl) true ?_
   have hl := catL_len f0
   have h16 := hp0.2
   repeat' (first | exact trivial | refine ⟨?_, ?_⟩ | intro _)
   all_goals first | (with_reducible first | apply qa | apply qb | apply qc | apply qd) | (conv => whnf)
   refine loop_ok tys_ok (l := []) trivial (by kernel_rfl) (X := Nat)
    (fun x => ⟨[(11, vx (.int .i64 x)), (10, vx (.int .i64 2)), (9, .va (.c (.d (.lst 1 2 fun i => cLL (f0 i))))), (0, .va (.c (.d (.lst 1 2 fun i => cLL (f0 i))))), (3, vx (.int .i64 ((catL f0 x).length : Int)))], [], 0, 36⟩)
    (fun x => 2 - x) (fun x => x <= 2) [] [] (fun x _ _ => x + 1) [] [] 0 0 0 (Nat.zero_le _) ?_ ?_
   . repeat' (first | exact trivial | exact rfl | (intro _ h; exact absurd h (Nat.not_lt_zero _)) | (intro _ _; exact rfl) | refine ⟨?_, ?_⟩ | fail)
   . intro i k1
     have hc : i = 0 \/ i = 1 \/ i = 2 := by omega
     rcases hc with rfl | rfl | rfl
     . repeat' (first | exact trivial | refine ⟨?_, ?_⟩ | intro _)
       all_goals first | (with_reducible first | apply qa | apply qb | apply qc | apply qd) | (conv => whnf)
       all_goals (try simp only [Int.toNat_natCast, hl.1, hl.2.1, hl.2.2, decide_eq_true_eq, decide_eq_false_iff_not] at *)
       all_goals first | omega | ((with_reducible show idsOk _ _ = true); rfl) | (exact absurd ‹decide _ = false› (by decide)) | rfl | (rw [wI_id _ (by omega) (by omega)] at *; omega) | (rw [wI_id _ (by omega) (by omega)]; first | rfl | (congr 1; omega))
     . repeat' (first | exact trivial | refine ⟨?_, ?_⟩ | intro _)
       all_goals first | (with_reducible first | apply qa | apply qb | apply qc | apply qd) | (conv => whnf)
       all_goals (try simp only [Int.toNat_natCast, hl.1, hl.2.1, hl.2.2, decide_eq_true_eq, decide_eq_false_iff_not] at *)
       all_goals first | omega | ((with_reducible show idsOk _ _ = true); rfl) | (exact absurd ‹decide _ = false› (by decide)) | rfl | (rw [wI_id _ (by omega) (by omega)] at *; omega) | (rw [wI_id _ (by omega) (by omega)]; first | rfl | (congr 1; omega))
     . repeat' (first | exact trivial | refine ⟨?_, ?_⟩ | intro _)
       all_goals first | (with_reducible first | apply qa | apply qb | apply qc | apply qd) | (conv => whnf)
       all_goals first | (exact absurd ‹decide _ = true› (by decide)) | skip
       all_goals first | ((with_reducible show ACall _ _ _ _ _ _); refine inl tys_ok (l := []) trivial Tryz.func129 rfl (by kernel_rfl) (by kernel_rfl) rfl ?_; (conv => whnf)) | skip
       all_goals repeat' (first | exact trivial | refine ⟨?_, ?_⟩ | intro _)
       all_goals first | (with_reducible first | apply qa | apply qb | apply qc | apply qd) | (conv => whnf)
       all_goals first | (exact absurd ‹decide _ = false› (by decide)) | ((with_reducible show ASat _ _ _ _ _); skip) | skip
       all_goals (have hw : IntKind.wrap .i64 (((catL f0 2).length : Int) - IntKind.wrap .i64 (((0 : Nat) : Int) - ((0 : Nat) : Int))) = ((gLn (f0 0) + gLn (f0 1) : Nat) : Int) := by rw [hl.2.2]; simp only [Int.sub_self]; rw [wI_id 0 (by omega) (by omega), wI_id _ (by omega) (by omega)]; omega)
       all_goals first | omega | (rw [hw]; omega) | (exfalso; rw [hl.2.2] at *; simp only [decide_eq_true_eq] at *; omega) | skip
       . refine loop_ok tys_ok (l := []) trivial (by kernel_rfl) (X := Nat × Nat × (Nat -> List DV))
          (fun x => ⟨[(27, vx (.int .i64 x.1)), (26, vx (.int .i64 2)), (25, .va (.c (.d (.lst 1 2 fun i => cLL (f0 i))))), (6, .va (.c (.osl 0 1 0 (catL f0 x.1).length)))], [(0, .row 1 x.2.1 x.2.2)], 1, 36⟩)
          (fun x => 2 - x.1) (fun x => x.1 <= 2 /\ (catL f0 x.1).length <= x.2.1 /\ ∀ j, j < (catL f0 x.1).length -> x.2.2 j = [st (atS (catL f0 x.1) j)]) [] [1] (fun x _ bs => match bs with | [b] => (x.1 + 1, rowN b, rowB b) | _ => x) [1] [0] 0 0 (0, gLn (f0 0) + gLn (f0 1), fun _ => [st ByteArray.empty]) ?_ ?_ ?_
         . exact ⟨Nat.zero_le _, by simp [catL], fun j hj => absurd hj (by simp [catL])⟩
         . repeat' (first | exact trivial | exact rfl | (intro _ h; exact absurd h (Nat.not_lt_zero _)) | (intro _ _; exact rfl) | refine ⟨?_, ?_⟩ | fail)
           all_goals first | (rw [hw]; rfl) | (simp; done)
         . rintro ⟨i, n, f⟩ ⟨k1, k2, k3⟩
           dsimp only at k1 k2 k3
           have hs := fun h => cat_step (f0 := f0) (f := f) (i := i) h k3
           have hc : i = 0 \/ i = 1 \/ i = 2 := by omega
           rcases hc with rfl | rfl | rfl
           . repeat' (first | exact trivial | refine ⟨?_, ?_⟩ | intro _)
             all_goals first | (with_reducible first | apply qa | apply qb | apply qc | apply qd) | (conv => whnf)
             all_goals (try dsimp only [rowN, rowB] at *)
             all_goals (try simp only [Int.toNat_natCast, Nat.zero_add, Nat.reduceAdd, decide_eq_true_eq, decide_eq_false_iff_not] at *)
             all_goals first | omega | ((with_reducible show idsOk _ _ = true); rfl) | rfl | (exact hs (by decide) _ ‹_›) | (rw [wI_id _ (by omega) (by omega)]; first | rfl | (congr 1; omega)) | (exact k3 _ ‹_›)
           . repeat' (first | exact trivial | refine ⟨?_, ?_⟩ | intro _)
             all_goals first | (with_reducible first | apply qa | apply qb | apply qc | apply qd) | (conv => whnf)
             all_goals (try dsimp only [rowN, rowB] at *)
             all_goals (try simp only [Int.toNat_natCast, Nat.zero_add, Nat.reduceAdd, decide_eq_true_eq, decide_eq_false_iff_not] at *)
             all_goals first | omega | ((with_reducible show idsOk _ _ = true); rfl) | rfl | (exact hs (by decide) _ ‹_›) | (rw [wI_id _ (by omega) (by omega)]; first | rfl | (congr 1; omega)) | (exact k3 _ ‹_›)
           . repeat' (first | exact trivial | refine ⟨?_, ?_⟩ | intro _)
             all_goals first | (with_reducible first | apply qa | apply qb | apply qc | apply qd) | (conv => whnf)
             all_goals (try dsimp only [rowN, rowB] at *)
             all_goals (try simp only [Int.toNat_natCast, Nat.zero_add, Nat.reduceAdd, decide_eq_true_eq, decide_eq_false_iff_not] at *)
             all_goals first | omega | ((with_reducible show idsOk _ _ = true); rfl) | rfl | (exact hs (by decide) _ ‹_›) | (rw [wI_id _ (by omega) (by omega)]; first | rfl | (congr 1; omega)) | (exact k3 _ ‹_›)
       . refine loop_ok tys_ok (l := []) trivial (by kernel_rfl) (X := Nat × Nat × (Nat -> List DV))
          (fun x => ⟨[(27, vx (.int .i64 x.1)), (26, vx (.int .i64 2)), (25, .va (.c (.d (.lst 1 2 fun i => cLL (f0 i))))), (6, .va (.c (.osl 0 1 0 (catL f0 x.1).length)))], [(0, .row 1 x.2.1 x.2.2)], 1, 36⟩)
          (fun x => 2 - x.1) (fun x => x.1 <= 2 /\ (catL f0 x.1).length <= x.2.1 /\ ∀ j, j < (catL f0 x.1).length -> x.2.2 j = [st (atS (catL f0 x.1) j)]) [] [1] (fun x _ bs => match bs with | [b] => (x.1 + 1, rowN b, rowB b) | _ => x) [1] [] 0 1 (0, 0, fun _ => []) ?_ ?_ ?_
         . exact ⟨Nat.zero_le _, by simp [catL], fun j hj => absurd hj (by simp [catL])⟩
         . repeat' (first | exact trivial | exact rfl | (intro _ h; exact absurd h (Nat.not_lt_zero _)) | (intro _ _; exact rfl) | refine ⟨?_, ?_⟩ | fail)
           all_goals first | (rw [hw]; rfl) | (simp; done)
         . rintro ⟨i, n, f⟩ ⟨k1, k2, k3⟩
           dsimp only at k1 k2 k3
           have hs := fun h => cat_step (f0 := f0) (f := f) (i := i) h k3
           have hc : i = 0 \/ i = 1 \/ i = 2 := by omega
           rcases hc with rfl | rfl | rfl
           . repeat' (first | exact trivial | refine ⟨?_, ?_⟩ | intro _)
             all_goals first | (with_reducible first | apply qa | apply qb | apply qc | apply qd) | (conv => whnf)
             all_goals (try dsimp only [rowN, rowB] at *)
             all_goals (try simp only [Int.toNat_natCast, Nat.zero_add, Nat.reduceAdd, decide_eq_true_eq, decide_eq_false_iff_not] at *)
             all_goals first | omega | ((with_reducible show idsOk _ _ = true); rfl) | rfl | (exact hs (by decide) _ ‹_›) | (rw [wI_id _ (by omega) (by omega)]; first | rfl | (congr 1; omega)) | (exact k3 _ ‹_›)
           . repeat' (first | exact trivial | refine ⟨?_, ?_⟩ | intro _)
             all_goals first | (with_reducible first | apply qa | apply qb | apply qc | apply qd) | (conv => whnf)
             all_goals (try dsimp only [rowN, rowB] at *)
             all_goals (try simp only [Int.toNat_natCast, Nat.zero_add, Nat.reduceAdd, decide_eq_true_eq, decide_eq_false_iff_not] at *)
             all_goals first | omega | ((with_reducible show idsOk _ _ = true); rfl) | rfl | (exact hs (by decide) _ ‹_›) | (rw [wI_id _ (by omega) (by omega)]; first | rfl | (congr 1; omega)) | (exact k3 _ ‹_›)
           . repeat' (first | exact trivial | refine ⟨?_, ?_⟩ | intro _)
             all_goals first | (with_reducible first | apply qa | apply qb | apply qc | apply qd) | (conv => whnf)
             all_goals (try dsimp only [rowN, rowB] at *)
             all_goals (try simp only [Int.toNat_natCast, Nat.zero_add, Nat.reduceAdd, decide_eq_true_eq, decide_eq_false_iff_not] at *)
             all_goals first | omega | ((with_reducible show idsOk _ _ = true); rfl) | rfl | (exact hs (by decide) _ ‹_›) | (rw [wI_id _ (by omega) (by omega)]; first | rfl | (congr 1; omega)) | (exact k3 _ ‹_›)
 . cases h
def meetS (l m : List ByteArray) : List ByteArray := l.filter fun x => memS x m
def hasS (b : Bool) (l : List ByteArray) (x : ByteArray) : Bool := if x = ByteArray.empty then b else memS x l
theorem meet_add (i : Nat) (f : Nat -> List DV) (m : List ByteArray) : meetS (gN (i + 1) f) m = if memS (gT (f i)) m = true then meetS (gN i f) m ++ [gT (f i)] else meetS (gN i f) m := by
 unfold meetS; rw [gN_add, List.filter_append]
 split <;> rename_i h <;> simp [h]
theorem meet_len (n : Nat) (f : Nat -> List DV) (m : List ByteArray) : (meetS (gN n f) m).length <= n := by
 have := List.length_filter_le (fun x => memS x m) (gN n f)
 rw [gN_length] at this; exact this
theorem none_key {b0 : Bool} {n : Nat} {f : Nat -> List DV} (h : (!b0) = true) : Value.bool ((n : Int) == 0) = Value.bool (!b0 && decide (gN n f = [])) := by
 rw [h, Bool.true_and]
 refine congrArg Value.bool (Bool.eq_iff_iff.2 ?_)
 rw [beq_iff_eq, decide_eq_true_eq, <- List.length_eq_zero_iff, gN_length]; omega
theorem has_e {b : Bool} {l : List ByteArray} {x : ByteArray} (h : (x.toList == ByteArray.empty.toList) = true) : hasS b l x = b := by
 rw [seq_iff] at h; unfold hasS; rw [if_pos (by simpa using h)]
theorem has_n {b : Bool} {l : List ByteArray} {x : ByteArray} (h : (x.toList == ByteArray.empty.toList) = false) : hasS b l x = memS x l := by
 rw [seq_iff] at h; unfold hasS; rw [if_neg (by simpa using h)]
def FNJoin : List Ar -> Option Rs
 | [.agg [.d (.v (.bool b0)), .d (.lst 1 n0 f0)], .agg [.d (.v (.bool b1)), .d (.lst 1 n1 f1)]] => some ⟨(n0 * 16 <= 140737488351232 /\ ∀ i, i < n0 -> f0 i = [st (gT (f0 i))]) /\ (n1 * 16 <= 140737488351232 /\ ∀ i, i < n1 -> f1 i = [st (gT (f1 i))]) /\ ((n0 + n1) * 16 <= 140737488351232), .va (Ns.ar (⟨b0 || b1, ofS (gN n0 f0 ++ gN n1 f1)⟩)), []⟩
 | _ => none
theorem fcNJoin : FC Tryz.prog 36 FNJoin := by
 intro xs pre r us h hp
 unfold FNJoin at h
 split at h
 . rename_i b0 n0 f0 b1 n1 f1
   cases h
   obtain ⟨hp0, hp1, hp2⟩ := hp
   refine FCat.of_eq (as' := [.agg [.d (.v (.bool b0)), .d (.lst 1 n0 fun i => [st (gT (f0 i))])], .agg [.d (.v (.bool b1)), .d (.lst 1 n1 fun i => [st (gT (f1 i))])]]) ?_ rfl rfl ?_
   . repeat' (first | exact trivial | exact rfl | refine ⟨?_, ?_⟩ | fail)
     all_goals first | exact hp0.2 | exact hp1.2 | exact hp2.2 | (intro i hi; exact (hp0.2 i hi).1) | (intro i hi; exact (hp1.2 i hi).1) | (intro i hi; exact (hp2.2 i hi).1) | grind
   refine fcat tys_ok (l := [(92, ⟨[], FNConcat⟩), (91, ⟨[], FNOf⟩)]) ⟨fcNConcat, fcNOf, trivial⟩ Tryz.func36 rfl (by kernel_rfl) true ?_
   repeat' (first | exact trivial | refine ⟨?_, ?_⟩ | intro _)
   all_goals first | (with_reducible first | apply qa | apply qb | apply qc | apply qd) | (conv => whnf)
   all_goals first | (with_reducible exact hp2) | rfl | skip
   all_goals (try subst ‹b0 = _›)
   all_goals (try simp only [gN_lst] at *)
   all_goals first | rfl | (exact hp2) | (show ((gN n0 f0 ++ gN n1 f1).length) * 16 <= _; rw [List.length_append, gN_length, gN_length]; exact hp2)
 . cases h
def FNNone : List Ar -> Option Rs
 | [.agg [.d (.v (.bool b0)), .d (.lst 1 n0 f0)]] => some ⟨(n0 * 16 <= 140737488351232 /\ ∀ i, i < n0 -> f0 i = [st (gT (f0 i))]), .va (.c (.d (bo (!b0 && decide (gN n0 f0 = []))))), []⟩
 | _ => none
theorem fcNNone : FC Tryz.prog 73 FNNone := by
 intro xs pre r us h hp
 unfold FNNone at h
 split at h
 . rename_i b0 n0 f0
   cases h
   have hp0 := hp
   refine FCat.of_eq (as' := [.agg [.d (.v (.bool b0)), .d (.lst 1 n0 fun i => [st (gT (f0 i))])]]) ?_ rfl rfl ?_
   . repeat' (first | exact trivial | exact rfl | refine ⟨?_, ?_⟩ | fail)
     all_goals first | exact hp0.2 | exact hp1.2 | exact hp2.2 | (intro i hi; exact (hp0.2 i hi).1) | (intro i hi; exact (hp1.2 i hi).1) | (intro i hi; exact (hp2.2 i hi).1) | grind
   refine fcat tys_ok (l := []) trivial Tryz.func73 rfl (by kernel_rfl) false ?_
   repeat' (first | exact trivial | refine ⟨?_, ?_⟩ | intro _)
   all_goals first | (with_reducible first | apply qa | apply qb | apply qc | apply qd) | (conv => whnf)
   all_goals first | (exact none_key ‹_›) | (rw [‹(!b0) = false›]; rfl)
 . cases h
def FNHas : List Ar -> Option Rs
 | [.agg [.d (.v (.bool b0)), .d (.lst 1 n0 f0)], .c (.d (.v (.string x1)))] => some ⟨(n0 * 16 <= 140737488351232 /\ ∀ i, i < n0 -> f0 i = [st (gT (f0 i))]), .va (.c (.d (bo (hasS b0 (gN n0 f0) x1)))), []⟩
 | _ => none
theorem fcNHas : FC Tryz.prog 49 FNHas := by
 intro xs pre r us h hp
 unfold FNHas at h
 split at h
 . rename_i b0 n0 f0 x1
   cases h
   have hp0 := hp
   refine FCat.of_eq (as' := [.agg [.d (.v (.bool b0)), .d (.lst 1 n0 fun i => [st (gT (f0 i))])], .c (.d (.v (.string x1)))]) ?_ rfl rfl ?_
   . repeat' (first | exact trivial | exact rfl | refine ⟨?_, ?_⟩ | fail)
     all_goals first | exact hp0.2 | exact hp1.2 | exact hp2.2 | (intro i hi; exact (hp0.2 i hi).1) | (intro i hi; exact (hp1.2 i hi).1) | (intro i hi; exact (hp2.2 i hi).1) | grind
   refine fcat tys_ok (l := [(97, ⟨[], FNContains⟩)]) ⟨fcNContains, trivial⟩ Tryz.func49 rfl (by kernel_rfl) false ?_
   repeat' (first | exact trivial | refine ⟨?_, ?_⟩ | intro _)
   all_goals first | (with_reducible first | apply qa | apply qb | apply qc | apply qd) | (conv => whnf)
   all_goals first | exact hp0.1 | rfl | (rw [has_e ‹_›]; done) | (rw [has_e ‹_›]; rfl) | (rw [has_n ‹_›]; done) | (rw [has_n ‹_›]; rfl)
 . cases h
def FRIn : List Ar -> Option Rs
 | [.c (.d (.lst 1 n0 f0)), .c (.d (.v (.string x1)))] => some ⟨(n0 * 16 <= 140737488351232 /\ ∀ i, i < n0 -> f0 i = [st (gT (f0 i))]), .va (.c (.d (bo (memS x1 (gN n0 f0))))), []⟩
 | _ => none
theorem fcRIn : FC Tryz.prog 44 FRIn := by
 intro xs pre r us h hp
 unfold FRIn at h
 split at h
 . rename_i n0 f0 x1
   cases h
   have hp0 := hp
   refine FCat.of_eq (as' := [.c (.d (.lst 1 n0 fun i => [st (gT (f0 i))])), .c (.d (.v (.string x1)))]) ?_ rfl rfl ?_
   . repeat' (first | exact trivial | exact rfl | refine ⟨?_, ?_⟩ | fail)
     all_goals first | exact hp0.2 | exact hp1.2 | exact hp2.2 | (intro i hi; exact (hp0.2 i hi).1) | (intro i hi; exact (hp1.2 i hi).1) | (intro i hi; exact (hp2.2 i hi).1) | grind
   refine fcat tys_ok (l := []) trivial Tryz.func44 rfl (by kernel_rfl) false ?_
   repeat' (first | exact trivial | refine ⟨?_, ?_⟩ | intro _)
   all_goals first | (with_reducible first | apply qa | apply qb | apply qc | apply qd) | (conv => whnf)
   refine loop_ids tys_ok (l := []) trivial (by kernel_rfl) (X := Nat)
    (fun x => ⟨[(5, vx (.int .i64 x)), (0, .va (.c (.d (.lst 1 n0 fun i => [st (gT (f0 i))])))), (1, vx (.string x1))], [], 0, 18⟩)
    (fun x => n0 - x) (fun x => x <= n0 /\ ∀ j, j < x -> ¬ x1 = gT (f0 j)) [] []
    (fun x _ _ => x + 1) (fun _ => []) [] 0 0 0 ?_ ?_ ?_
   . exact ⟨Nat.zero_le _, fun j h => absurd h (Nat.not_lt_zero _)⟩
   . repeat' (first | exact trivial | exact rfl | (intro _ h; exact absurd h (Nat.not_lt_zero _)) | (intro _ _; exact rfl) | refine ⟨?_, ?_⟩ | fail)
   . rintro i ⟨k1, k2⟩
     repeat' (first | exact trivial | refine ⟨?_, ?_⟩ | intro _)
     all_goals first | (with_reducible first | apply qa | apply qb | apply qc | apply qd) | (conv => whnf)
     all_goals (try simp only [Int.toNat_natCast, decide_eq_true_eq, decide_eq_false_iff_not, seq_iff, gN_canon] at *)
     all_goals first | omega | ((with_reducible show idsOk _ _ = true); rfl) | ((with_reducible show Value.int _ _ = Value.int _ _); rw [wI_id _ (by omega) (by omega)]; rfl) | (exact congrArg Value.bool (memS_iff.2 (gN_mem.2 ⟨i, by omega, by first | exact ‹_ = _› | exact ‹_ = _›.symm⟩)).symm) | (exact congrArg Value.bool (memS_not.2 (by rw [gN_mem]; rintro ⟨j, hj, e⟩; exact k2 j (by omega) e.symm)).symm) | (exact not_step k2 (by first | assumption | (intro e; exact absurd e.symm (by assumption))) _ ‹_ < i + 1›) | (exact absurd (by assumption) (not_step k2 (by first | assumption | (intro e; exact absurd e.symm (by assumption))) _ ‹_ < i + 1›)) | rfl
 . cases h
def FRHas : List Ar -> Option Rs
 | [.agg [.d (.v (.bool b0)), .d (.lst 1 n0 f0)], .c (.d (.v (.string x1)))] => some ⟨(n0 * 16 <= 140737488351232 /\ ∀ i, i < n0 -> f0 i = [st (gT (f0 i))]), .va (.c (.d (bo (hasS b0 (gN n0 f0) x1)))), []⟩
 | _ => none
theorem fcRHas : FC Tryz.prog 10 FRHas := by
 intro xs pre r us h hp
 unfold FRHas at h
 split at h
 . rename_i b0 n0 f0 x1
   cases h
   have hp0 := hp
   refine FCat.of_eq (as' := [.agg [.d (.v (.bool b0)), .d (.lst 1 n0 fun i => [st (gT (f0 i))])], .c (.d (.v (.string x1)))]) ?_ rfl rfl ?_
   . repeat' (first | exact trivial | exact rfl | refine ⟨?_, ?_⟩ | fail)
     all_goals first | exact hp0.2 | exact hp1.2 | exact hp2.2 | (intro i hi; exact (hp0.2 i hi).1) | (intro i hi; exact (hp1.2 i hi).1) | (intro i hi; exact (hp2.2 i hi).1) | grind
   refine fcat tys_ok (l := [(44, ⟨[], FRIn⟩)]) ⟨fcRIn, trivial⟩ Tryz.func10 rfl (by kernel_rfl) false ?_
   repeat' (first | exact trivial | refine ⟨?_, ?_⟩ | intro _)
   all_goals first | (with_reducible first | apply qa | apply qb | apply qc | apply qd) | (conv => whnf)
   all_goals first | exact hp0.1 | rfl | (rw [has_e ‹_›]; done) | (rw [has_e ‹_›]; rfl) | (rw [has_n ‹_›]; done) | (rw [has_n ‹_›]; rfl)
 . cases h
def FNMeet : List Ar -> Option Rs
 | [.agg [.d (.v (.bool b0)), .d (.lst 1 n0 f0)], .agg [.d (.v (.bool b1)), .d (.lst 1 n1 f1)]] => some ⟨(n0 * 16 <= 140737488351232 /\ ∀ i, i < n0 -> f0 i = [st (gT (f0 i))]) /\ (n1 * 16 <= 140737488351232 /\ ∀ i, i < n1 -> f1 i = [st (gT (f1 i))]), .va (Ns.ar (⟨b0 && b1, ofS (meetS (gN n0 f0) (gN n1 f1))⟩)), []⟩
 | _ => none
theorem fcNMeet : FC Tryz.prog 41 FNMeet := by
 intro xs pre r us h hp
 unfold FNMeet at h
 split at h
 . rename_i b0 n0 f0 b1 n1 f1
   cases h
   obtain ⟨hp0, hp1⟩ := hp
   refine FCat.of_eq (as' := [.agg [.d (.v (.bool b0)), .d (.lst 1 n0 fun i => [st (gT (f0 i))])], .agg [.d (.v (.bool b1)), .d (.lst 1 n1 fun i => [st (gT (f1 i))])]]) ?_ rfl rfl ?_
   . repeat' (first | exact trivial | exact rfl | refine ⟨?_, ?_⟩ | fail)
     all_goals first | exact hp0.2 | exact hp1.2 | exact hp2.2 | (intro i hi; exact (hp0.2 i hi).1) | (intro i hi; exact (hp1.2 i hi).1) | (intro i hi; exact (hp2.2 i hi).1) | grind
   refine fcat tys_ok (l := [(97, ⟨[], FNContains⟩), (91, ⟨[], FNOf⟩)]) ⟨fcNContains, fcNOf, trivial⟩ Tryz.func41 rfl (by kernel_rfl) true ?_
   repeat' (first | exact trivial | refine ⟨?_, ?_⟩ | intro _)
   all_goals first | (with_reducible first | apply qa | apply qb | apply qc | apply qd) | (conv => whnf)
   refine loop_ids tys_ok (l := [(97, ⟨[], FNContains⟩), (91, ⟨[], FNOf⟩)]) ⟨fcNContains, fcNOf, trivial⟩ (by kernel_rfl) (X := Nat × List ByteArray)
    (fun x => ⟨[(11, vx (.int .i64 x.1)), (10, vx (.int .i64 n0)), (9, .va (.c (.d (.lst 1 n0 fun i => [st (gT (f0 i))])))), (5, .va (.c (.osl 3 1 0 x.2.length))), (2, .va (.c (.own 0 0))), (3, .va (.c (.own 1 0))), (4, .va (.c (.own 2 0)))],
      [(3, .row 1 x.2.length fun j => [st (atS x.2 j)]), (0, .cells [.d (bo b0), .d (.lst 1 n0 fun i => [st (gT (f0 i))])]), (1, .cells [.d (bo b1), .d (.lst 1 n1 fun i => [st (gT (f1 i))])]), (2, .cells [.d (bo false), .d (.v (.slice none 0 0))])], 4, 32⟩)
    (fun x => n0 - x.1) (fun x => x.1 <= n0 /\ x.2 = meetS (gN x.1 f0) (gN n1 f1)) [5] []
    (fun x _ _ => (x.1 + 1, meetS (gN (x.1 + 1) f0) (gN n1 f1))) (fun xs => match xs with | [t] => [0, 1, 2, oI t] | _ => []) [0, 1, 2] 0 1 (0, []) ?_ ?_ ?_
   . exact ⟨Nat.zero_le _, rfl⟩
   . repeat' (first | exact trivial | exact rfl | (intro _ h; exact absurd h (Nat.not_lt_zero _)) | (intro _ _; exact rfl) | refine ⟨?_, ?_⟩ | fail)
     all_goals decide
   . rintro ⟨i, l⟩ ⟨k1, k2⟩
     dsimp only at k1 k2
     have k3 := meet_len i f0 (gN n1 f1)
     rw [<- k2] at k3
     repeat' (first | exact trivial | refine ⟨?_, ?_⟩ | intro _)
     all_goals first | (with_reducible first | apply qa | apply qb | apply qc | apply qd) | (conv => whnf)
     all_goals (try simp only [Int.toNat_natCast, decide_eq_true_eq, decide_eq_false_iff_not, seq_iff, gN_canon] at *)
     all_goals first | omega | ((with_reducible show idsOk _ _ = true); rfl) | ((with_reducible show Value.int _ _ = Value.int _ _); rw [wI_id _ (by omega) (by omega)]; rfl) | rfl | (with_reducible exact hp1.1) | (simp; done) | skip
     all_goals first | (rw [meet_add, if_pos ‹memS _ _ = true›, <- k2]; first | (simp; done) | (exact appRow_snoc rfl (fun _ _ => rfl) rfl _ ‹_›)) | (rw [meet_add, if_neg (by rw [‹memS _ _ = false›]; decide), <- k2]; done) | (rw [meet_add, if_neg (by rw [‹memS _ _ = false›]; decide), <- k2]; rfl) | skip
     all_goals (have hi : i = n0 := by omega)
     all_goals (subst hi; try simp only [Nat.zero_add, gN_lst])
     all_goals first | (rw [k2]; done) | (rw [‹b0 = true›]; rfl) | (rw [‹b0 = false›]; rfl)
 . cases h
theorem gcdJ_lt {x y : Cg} (h : ¬ Cg.gcdJ x y > 9223372036854775807) : Cg.gcdJ x y < 9223372036854775808 := by omega
theorem Cg.join_inR {a b : Cg} (ha : a.inR) (hb : b.inR) : (Cg.join a b).inR := by
 have h1 := Cg.clean_inR ha
 have h2 := Cg.clean_inR hb
 unfold Cg.join; split
 . exact h2
 . split
   . exact h1
   . split
     . unfold Cg.of Cg.inR md; decide
     . rename_i h
       exact Cg.of_inR _ _ (by have : 0 <= Cg.gcdJ a.clean b.clean := by unfold Cg.gcdJ; omega
                               omega) (gcdJ_lt h) h1.2.1 h1.2.2
namespace Vl
def join (a b : Vl) : Vl := ⟨⟨a.of.i.s.join b.of.i.s, a.of.i.c.join b.of.i.c⟩, ⟨a.t.null || b.t.null, ofS (ofS a.t.names ++ ofS b.t.names)⟩⟩
def widen (a b : Vl) (l : List Int) : Vl := ⟨⟨a.of.i.s.widen b.of.i.s l, a.of.i.c.join b.of.i.c⟩, ⟨a.t.null || b.t.null, ofS (ofS a.t.names ++ ofS b.t.names)⟩⟩
def none (v : Vl) : Bool := v.of.i.none && (!v.t.null && decide (ofS v.t.names = []))
def zero : Vl := ⟨Ig.zero, ⟨false, []⟩⟩
def narrow (a b : Vl) : Vl := if !leq b a then a.of else if none b then zero else ⟨Ig.clean ⟨a.of.i.s.narrow b.of.i.s, if Cg.eq a.of.i.c (Cg.of 1 0) then b.of.i.c else a.of.i.c⟩, a.of.t⟩
def rjoin (a b : Vl) : Vl := ⟨⟨a.rclean.i.s.join b.rclean.i.s, a.rclean.i.c.join b.rclean.i.c⟩, ⟨a.t.null || b.t.null, cleanS (cleanS a.t.names ++ cleanS b.t.names)⟩⟩
def rwiden (a b : Vl) (l : List Int) : Vl := ⟨⟨a.rclean.i.s.widen b.rclean.i.s l, (rjoin a.rclean b.rclean).i.c⟩, (rjoin a.rclean b.rclean).t⟩
def rleq (a b : Vl) : Bool := (a.rclean.i.s.leq b.rclean.i.s && a.rclean.i.c.leq b.rclean.i.c) && ((!a.t.null || b.t.null) && subS (cleanS a.t.names) (cleanS b.t.names))
def rnone (v : Vl) : Bool := !v.rclean.i.s.some && decide (((cleanS (cleanS v.t.names)).length : Int) + (if v.t.null then 1 else 0) = 0)
def rnarrow (a b : Vl) : Vl := if !rleq b.rclean a.rclean then a.rclean else if rnone b.rclean then zero else rclean ⟨⟨a.rclean.i.s.narrow b.rclean.i.s, if a.rclean.i.c.m = 1 then b.rclean.i.c else a.rclean.i.c⟩, a.rclean.t⟩
end Vl
theorem none_t {v : Vl} (h : v.of.i.none = true) : Value.bool (!v.t.null && decide (ofS v.t.names = [])) = Value.bool v.none := by unfold Vl.none; rw [h]; rfl
theorem none_f {v : Vl} (h : v.of.i.none = false) : Value.bool false = Value.bool v.none := by unfold Vl.none; rw [h]; rfl
theorem narrow_1 {a b : Vl} (h : (!Vl.leq b a) = true) : Vl.narrow a b = a.of := by unfold Vl.narrow; rw [if_pos h]
theorem narrow_2 {a b : Vl} (h : (!Vl.leq b a) = false) (h2 : b.none = true) : Vl.narrow a b = Vl.zero := by unfold Vl.narrow; rw [if_neg (by rw [h]; decide), if_pos h2]
theorem narrow_3 {a b : Vl} (h : (!Vl.leq b a) = false) (h2 : b.none = false) (h3 : (a.of.i.c.some == (Cg.of 1 0).some && (a.of.i.c.m == (Cg.of 1 0).m && (a.of.i.c.r == (Cg.of 1 0).r && true))) = true) : Vl.narrow a b = ⟨Ig.clean ⟨a.of.i.s.narrow b.of.i.s, b.of.i.c⟩, a.of.t⟩ := by
 have h3 : Cg.eq a.of.i.c (Cg.of 1 0) = true := cg_eq4.symm.trans h3
 unfold Vl.narrow; rw [if_neg (by rw [h]; decide), if_neg (by rw [h2]; decide), if_pos h3]
theorem narrow_4 {a b : Vl} (h : (!Vl.leq b a) = false) (h2 : b.none = false) (h3 : (a.of.i.c.some == (Cg.of 1 0).some && (a.of.i.c.m == (Cg.of 1 0).m && (a.of.i.c.r == (Cg.of 1 0).r && true))) = false) : Vl.narrow a b = ⟨Ig.clean ⟨a.of.i.s.narrow b.of.i.s, a.of.i.c⟩, a.of.t⟩ := by
 have h3 : Cg.eq a.of.i.c (Cg.of 1 0) = false := cg_eq4.symm.trans h3
 unfold Vl.narrow; rw [if_neg (by rw [h]; decide), if_neg (by rw [h2]; decide), if_neg (by rw [h3]; decide)]
theorem okV_of {v : Vl} (h : okV v) : okV v.of := by
 have h1 := Ig.clean_inR h.2.1 h.2.2
 have h2 := ofS_len v.t.names
 exact ⟨⟨by show (ofS v.t.names).length * 16 <= 140737488351232; have := h.1.1; omega, fun _ _ => rfl⟩, h1⟩
def FVJoin : List Ar -> Option Rs
 | [.agg [.d (.v (.bool s0)), .d (.v (.int .i64 l0)), .d (.v (.int .i64 h0)), .d (.v (.bool b0)), .d (.v (.int .i64 m0)), .d (.v (.int .i64 r0)), .d (.v (.bool z0)), .d (.lst 1 n0 f0)], .agg [.d (.v (.bool s1)), .d (.v (.int .i64 l1)), .d (.v (.int .i64 h1)), .d (.v (.bool b1)), .d (.v (.int .i64 m1)), .d (.v (.int .i64 r1)), .d (.v (.bool z1)), .d (.lst 1 n1 f1)]] => some ⟨((n0 * 16 <= 140737488351232 /\ ∀ i, i < n0 -> f0 i = [st (gT (f0 i))]) /\ Sp.inR ⟨s0, l0, h0⟩ /\ Cg.inR ⟨b0, m0, r0⟩) /\ ((n1 * 16 <= 140737488351232 /\ ∀ i, i < n1 -> f1 i = [st (gT (f1 i))]) /\ Sp.inR ⟨s1, l1, h1⟩ /\ Cg.inR ⟨b1, m1, r1⟩) /\ ((n0 + n1) * 16 <= 140737488351232), .va (Vl.ar (Vl.join (⟨⟨⟨s0, l0, h0⟩, ⟨b0, m0, r0⟩⟩, ⟨z0, gN n0 f0⟩⟩ : Vl) (⟨⟨⟨s1, l1, h1⟩, ⟨b1, m1, r1⟩⟩, ⟨z1, gN n1 f1⟩⟩ : Vl))), []⟩
 | _ => none
theorem fcVJoin : FC Tryz.prog 7 FVJoin := by
 intro xs pre r us h hp
 unfold FVJoin at h
 split at h
 . rename_i s0 l0 h0 b0 m0 r0 z0 n0 f0 s1 l1 h1 b1 m1 r1 z1 n1 f1
   cases h
   obtain ⟨hp0, hp1, hp2⟩ := hp
   refine FCat.of_eq (as' := [.agg [.d (.v (.bool s0)), .d (.v (.int .i64 l0)), .d (.v (.int .i64 h0)), .d (.v (.bool b0)), .d (.v (.int .i64 m0)), .d (.v (.int .i64 r0)), .d (.v (.bool z0)), .d (.lst 1 n0 fun i => [st (gT (f0 i))])], .agg [.d (.v (.bool s1)), .d (.v (.int .i64 l1)), .d (.v (.int .i64 h1)), .d (.v (.bool b1)), .d (.v (.int .i64 m1)), .d (.v (.int .i64 r1)), .d (.v (.bool z1)), .d (.lst 1 n1 fun i => [st (gT (f1 i))])]]) ?_ rfl rfl ?_
   . repeat' (first | exact trivial | exact rfl | refine ⟨?_, ?_⟩ | fail)
     all_goals first | exact hp0.2 | exact hp1.2 | exact hp2.2 | (intro i hi; exact (hp0.2 i hi).1) | (intro i hi; exact (hp1.2 i hi).1) | (intro i hi; exact (hp2.2 i hi).1) | grind
   refine fcat tys_ok (l := [(33, ⟨[], FVOf⟩), (34, ⟨[], FSJoin⟩), (35, ⟨[], FCJoin⟩), (36, ⟨[], FNJoin⟩), (37, ⟨[], FVValue⟩)]) ⟨fcVOf, fcSJoin, fcCJoin, fcNJoin, fcVValue, trivial⟩ Tryz.func7 rfl (by kernel_rfl) true ?_
   have hv0 : okV (⟨⟨⟨s0, l0, h0⟩, ⟨b0, m0, r0⟩⟩, ⟨z0, gN n0 fun i => [st (gT (f0 i))]⟩⟩ : Vl) := ⟨⟨(by rw [gN_length]; exact hp0.1.1), fun _ _ => rfl⟩, hp0.2⟩
   have hv1 : okV (⟨⟨⟨s1, l1, h1⟩, ⟨b1, m1, r1⟩⟩, ⟨z1, gN n1 fun i => [st (gT (f1 i))]⟩⟩ : Vl) := ⟨⟨(by rw [gN_length]; exact hp1.1.1), fun _ _ => rfl⟩, hp1.2⟩
   have ho0 := okV_of hv0
   have ho1 := okV_of hv1
   have hoo0 := okV_of ho0
   have hoo1 := okV_of ho1
   have hl0 : (Vl.of (⟨⟨⟨s0, l0, h0⟩, ⟨b0, m0, r0⟩⟩, ⟨z0, gN n0 fun i => [st (gT (f0 i))]⟩⟩ : Vl)).t.names.length <= n0 := by have := ofS_len (gN n0 f0); rw [gN_length] at this; exact this
   have hl1 : (Vl.of (⟨⟨⟨s1, l1, h1⟩, ⟨b1, m1, r1⟩⟩, ⟨z1, gN n1 fun i => [st (gT (f1 i))]⟩⟩ : Vl)).t.names.length <= n1 := by have := ofS_len (gN n1 f1); rw [gN_length] at this; exact this
   have hsj := Sp.join_inR ho0.2.1 ho1.2.1
   have hcj := Cg.join_inR ho0.2.2 ho1.2.2
   have hsum : ((Vl.of (⟨⟨⟨s0, l0, h0⟩, ⟨b0, m0, r0⟩⟩, ⟨z0, gN n0 fun i => [st (gT (f0 i))]⟩⟩ : Vl)).t.names.length + (Vl.of (⟨⟨⟨s1, l1, h1⟩, ⟨b1, m1, r1⟩⟩, ⟨z1, gN n1 fun i => [st (gT (f1 i))]⟩⟩ : Vl)).t.names.length) * 16 <= 140737488351232 := by have := hp2; omega
   have hjl : (ofS ((Vl.of (⟨⟨⟨s0, l0, h0⟩, ⟨b0, m0, r0⟩⟩, ⟨z0, gN n0 fun i => [st (gT (f0 i))]⟩⟩ : Vl)).t.names ++ (Vl.of (⟨⟨⟨s1, l1, h1⟩, ⟨b1, m1, r1⟩⟩, ⟨z1, gN n1 fun i => [st (gT (f1 i))]⟩⟩ : Vl)).t.names)).length * 16 <= 140737488351232 := by have := ofS_len ((Vl.of (⟨⟨⟨s0, l0, h0⟩, ⟨b0, m0, r0⟩⟩, ⟨z0, gN n0 fun i => [st (gT (f0 i))]⟩⟩ : Vl)).t.names ++ (Vl.of (⟨⟨⟨s1, l1, h1⟩, ⟨b1, m1, r1⟩⟩, ⟨z1, gN n1 fun i => [st (gT (f1 i))]⟩⟩ : Vl)).t.names); rw [List.length_append] at this; omega
   unfold okV at ho0 ho1 hoo0 hoo1
   repeat' (first | exact trivial | (with_reducible first | exact ho0 | exact ho1 | exact ho0.1 | exact ho1.1 | exact ho0.2.1 | exact ho0.2.2 | exact ho1.2.1 | exact ho1.2.2 | exact hp0.1 | exact hp1.1 | exact hp0.2.1 | exact hp0.2.2 | exact hp1.2.1 | exact hp1.2.2 | exact hp0 | exact hp1 | exact hsj | exact hcj) | refine ⟨?_, ?_⟩ | intro _)
   all_goals first | (with_reducible first | apply qa | apply qb | apply qc | apply qd) | (conv => whnf)
   all_goals (try simp only [gN_lst] at *)
   all_goals first | rfl | (with_reducible first | exact hp0.1.1 | exact hp1.1.1) | exact hsum | exact hjl
 . cases h
def FVWiden : List Ar -> Option Rs
 | [.agg [.d (.v (.bool s0)), .d (.v (.int .i64 l0)), .d (.v (.int .i64 h0)), .d (.v (.bool b0)), .d (.v (.int .i64 m0)), .d (.v (.int .i64 r0)), .d (.v (.bool z0)), .d (.lst 1 n0 f0)], .agg [.d (.v (.bool s1)), .d (.v (.int .i64 l1)), .d (.v (.int .i64 h1)), .d (.v (.bool b1)), .d (.v (.int .i64 m1)), .d (.v (.int .i64 r1)), .d (.v (.bool z1)), .d (.lst 1 n1 f1)], .c (.d (.lst 1 n2 f2))] => some ⟨((n0 * 16 <= 140737488351232 /\ ∀ i, i < n0 -> f0 i = [st (gT (f0 i))]) /\ Sp.inR ⟨s0, l0, h0⟩ /\ Cg.inR ⟨b0, m0, r0⟩) /\ ((n1 * 16 <= 140737488351232 /\ ∀ i, i < n1 -> f1 i = [st (gT (f1 i))]) /\ Sp.inR ⟨s1, l1, h1⟩ /\ Cg.inR ⟨b1, m1, r1⟩) /\ (n2 <= 9223372036854775807 /\ ∀ i, i < n2 -> f2 i = [it (gI (f2 i))] /\ rI (gI (f2 i))) /\ ((n0 + n1) * 16 <= 140737488351232), .va (Vl.ar (Vl.widen (⟨⟨⟨s0, l0, h0⟩, ⟨b0, m0, r0⟩⟩, ⟨z0, gN n0 f0⟩⟩ : Vl) (⟨⟨⟨s1, l1, h1⟩, ⟨b1, m1, r1⟩⟩, ⟨z1, gN n1 f1⟩⟩ : Vl) (gL n2 f2))), []⟩
 | _ => none
theorem fcVWiden : FC Tryz.prog 18 FVWiden := by
 intro xs pre r us h hp
 unfold FVWiden at h
 split at h
 . rename_i s0 l0 h0 b0 m0 r0 z0 n0 f0 s1 l1 h1 b1 m1 r1 z1 n1 f1 n2 f2
   cases h
   obtain ⟨hp0, hp1, hp2, hp3⟩ := hp
   refine FCat.of_eq (as' := [.agg [.d (.v (.bool s0)), .d (.v (.int .i64 l0)), .d (.v (.int .i64 h0)), .d (.v (.bool b0)), .d (.v (.int .i64 m0)), .d (.v (.int .i64 r0)), .d (.v (.bool z0)), .d (.lst 1 n0 fun i => [st (gT (f0 i))])], .agg [.d (.v (.bool s1)), .d (.v (.int .i64 l1)), .d (.v (.int .i64 h1)), .d (.v (.bool b1)), .d (.v (.int .i64 m1)), .d (.v (.int .i64 r1)), .d (.v (.bool z1)), .d (.lst 1 n1 fun i => [st (gT (f1 i))])], .c (.d (.lst 1 n2 fun i => [it (gI (f2 i))]))]) ?_ rfl rfl ?_
   . repeat' (first | exact trivial | exact rfl | refine ⟨?_, ?_⟩ | fail)
     all_goals first | exact hp0.2 | exact hp1.2 | exact hp2.2 | (intro i hi; exact (hp0.2 i hi).1) | (intro i hi; exact (hp1.2 i hi).1) | (intro i hi; exact (hp2.2 i hi).1) | grind
   refine fcat tys_ok (l := [(33, ⟨[], FVOf⟩), (55, ⟨[], FSWiden⟩), (35, ⟨[], FCJoin⟩), (36, ⟨[], FNJoin⟩), (37, ⟨[], FVValue⟩)]) ⟨fcVOf, fcSWiden, fcCJoin, fcNJoin, fcVValue, trivial⟩ Tryz.func18 rfl (by kernel_rfl) true ?_
   have hv0 : okV (⟨⟨⟨s0, l0, h0⟩, ⟨b0, m0, r0⟩⟩, ⟨z0, gN n0 fun i => [st (gT (f0 i))]⟩⟩ : Vl) := ⟨⟨(by rw [gN_length]; exact hp0.1.1), fun _ _ => rfl⟩, hp0.2⟩
   have hv1 : okV (⟨⟨⟨s1, l1, h1⟩, ⟨b1, m1, r1⟩⟩, ⟨z1, gN n1 fun i => [st (gT (f1 i))]⟩⟩ : Vl) := ⟨⟨(by rw [gN_length]; exact hp1.1.1), fun _ _ => rfl⟩, hp1.2⟩
   have ho0 := okV_of hv0
   have ho1 := okV_of hv1
   have hoo0 := okV_of ho0
   have hoo1 := okV_of ho1
   have hl0 : (Vl.of (⟨⟨⟨s0, l0, h0⟩, ⟨b0, m0, r0⟩⟩, ⟨z0, gN n0 fun i => [st (gT (f0 i))]⟩⟩ : Vl)).t.names.length <= n0 := by have := ofS_len (gN n0 f0); rw [gN_length] at this; exact this
   have hl1 : (Vl.of (⟨⟨⟨s1, l1, h1⟩, ⟨b1, m1, r1⟩⟩, ⟨z1, gN n1 fun i => [st (gT (f1 i))]⟩⟩ : Vl)).t.names.length <= n1 := by have := ofS_len (gN n1 f1); rw [gN_length] at this; exact this
   have hsj := Sp.join_inR ho0.2.1 ho1.2.1
   have hcj := Cg.join_inR ho0.2.2 ho1.2.2
   have hsum : ((Vl.of (⟨⟨⟨s0, l0, h0⟩, ⟨b0, m0, r0⟩⟩, ⟨z0, gN n0 fun i => [st (gT (f0 i))]⟩⟩ : Vl)).t.names.length + (Vl.of (⟨⟨⟨s1, l1, h1⟩, ⟨b1, m1, r1⟩⟩, ⟨z1, gN n1 fun i => [st (gT (f1 i))]⟩⟩ : Vl)).t.names.length) * 16 <= 140737488351232 := by have := hp3; omega
   have hjl : (ofS ((Vl.of (⟨⟨⟨s0, l0, h0⟩, ⟨b0, m0, r0⟩⟩, ⟨z0, gN n0 fun i => [st (gT (f0 i))]⟩⟩ : Vl)).t.names ++ (Vl.of (⟨⟨⟨s1, l1, h1⟩, ⟨b1, m1, r1⟩⟩, ⟨z1, gN n1 fun i => [st (gT (f1 i))]⟩⟩ : Vl)).t.names)).length * 16 <= 140737488351232 := by have := ofS_len ((Vl.of (⟨⟨⟨s0, l0, h0⟩, ⟨b0, m0, r0⟩⟩, ⟨z0, gN n0 fun i => [st (gT (f0 i))]⟩⟩ : Vl)).t.names ++ (Vl.of (⟨⟨⟨s1, l1, h1⟩, ⟨b1, m1, r1⟩⟩, ⟨z1, gN n1 fun i => [st (gT (f1 i))]⟩⟩ : Vl)).t.names); rw [List.length_append] at this; omega
   unfold okV at ho0 ho1 hoo0 hoo1
   have hws := Sp.widen_inR (l := gL n2 fun i => [it (gI (f2 i))]) ho0.2.1 ho1.2.1 (fun x hx => gL_r hp2.2 x hx)
   repeat' (first | exact trivial | (with_reducible first | exact ho0 | exact ho1 | exact ho0.1 | exact ho1.1 | exact ho0.2.1 | exact ho0.2.2 | exact ho1.2.1 | exact ho1.2.2 | exact hp0.1 | exact hp1.1 | exact hp0.2.1 | exact hp0.2.2 | exact hp1.2.1 | exact hp1.2.2 | exact hp0 | exact hp1 | exact hsj | exact hcj | exact hws | exact hp2 | exact hp2.1) | refine ⟨?_, ?_⟩ | intro _)
   all_goals first | (with_reducible first | apply qa | apply qb | apply qc | apply qd) | (conv => whnf)
   all_goals (try simp only [gN_lst] at *)
   all_goals first | rfl | (exact (hp2.2 _ ‹_›).2.1) | (exact (hp2.2 _ ‹_›).2.2) | (with_reducible first | exact hp2.1 | exact hp0.1.1 | exact hp1.1.1) | exact hsum | exact hjl
 . cases h
def FVNoneV : List Ar -> Option Rs
 | [.agg [.d (.v (.bool s0)), .d (.v (.int .i64 l0)), .d (.v (.int .i64 h0)), .d (.v (.bool b0)), .d (.v (.int .i64 m0)), .d (.v (.int .i64 r0)), .d (.v (.bool z0)), .d (.lst 1 n0 f0)]] => some ⟨((n0 * 16 <= 140737488351232 /\ ∀ i, i < n0 -> f0 i = [st (gT (f0 i))]) /\ Sp.inR ⟨s0, l0, h0⟩ /\ Cg.inR ⟨b0, m0, r0⟩), .va (.c (.d (bo (Vl.none (⟨⟨⟨s0, l0, h0⟩, ⟨b0, m0, r0⟩⟩, ⟨z0, gN n0 f0⟩⟩ : Vl))))), []⟩
 | _ => none
theorem fcVNoneV : FC Tryz.prog 29 FVNoneV := by
 intro xs pre r us h hp
 unfold FVNoneV at h
 split at h
 . rename_i s0 l0 h0 b0 m0 r0 z0 n0 f0
   cases h
   have hp0 := hp
   refine FCat.of_eq (as' := [.agg [.d (.v (.bool s0)), .d (.v (.int .i64 l0)), .d (.v (.int .i64 h0)), .d (.v (.bool b0)), .d (.v (.int .i64 m0)), .d (.v (.int .i64 r0)), .d (.v (.bool z0)), .d (.lst 1 n0 fun i => [st (gT (f0 i))])]]) ?_ rfl rfl ?_
   . repeat' (first | exact trivial | exact rfl | refine ⟨?_, ?_⟩ | fail)
     all_goals first | exact hp0.2 | exact hp1.2 | exact hp2.2 | (intro i hi; exact (hp0.2 i hi).1) | (intro i hi; exact (hp1.2 i hi).1) | (intro i hi; exact (hp2.2 i hi).1) | grind
   refine fcat tys_ok (l := [(33, ⟨[], FVOf⟩), (76, ⟨[], FVNone⟩), (73, ⟨[], FNNone⟩)]) ⟨fcVOf, fcVNone, fcNNone, trivial⟩ Tryz.func29 rfl (by kernel_rfl) true ?_
   have hv0 : okV (⟨⟨⟨s0, l0, h0⟩, ⟨b0, m0, r0⟩⟩, ⟨z0, gN n0 fun i => [st (gT (f0 i))]⟩⟩ : Vl) := ⟨⟨(by rw [gN_length]; exact hp0.1.1), fun _ _ => rfl⟩, hp0.2⟩
   have ho0 := okV_of hv0
   unfold okV at ho0
   repeat' (first | exact trivial | (with_reducible first | exact ho0 | exact ho0.1 | exact ho0.2.1 | exact ho0.2.2 | exact hp0 | exact hp0.1 | exact hp0.2 | exact hp0.2.1 | exact hp0.2.2) | refine ⟨?_, ?_⟩ | intro _)
   all_goals first | (with_reducible first | apply qa | apply qb | apply qc | apply qd) | (conv => whnf)
   all_goals (try simp only [gN_lst] at *)
   all_goals first | rfl | exact none_t ‹_› | exact none_f ‹_› | (with_reducible exact hp0.1.1)
 . cases h
def FVNarrow : List Ar -> Option Rs
 | [.agg [.d (.v (.bool s0)), .d (.v (.int .i64 l0)), .d (.v (.int .i64 h0)), .d (.v (.bool b0)), .d (.v (.int .i64 m0)), .d (.v (.int .i64 r0)), .d (.v (.bool z0)), .d (.lst 1 n0 f0)], .agg [.d (.v (.bool s1)), .d (.v (.int .i64 l1)), .d (.v (.int .i64 h1)), .d (.v (.bool b1)), .d (.v (.int .i64 m1)), .d (.v (.int .i64 r1)), .d (.v (.bool z1)), .d (.lst 1 n1 f1)]] => some ⟨((n0 * 16 <= 140737488351232 /\ ∀ i, i < n0 -> f0 i = [st (gT (f0 i))]) /\ Sp.inR ⟨s0, l0, h0⟩ /\ Cg.inR ⟨b0, m0, r0⟩) /\ ((n1 * 16 <= 140737488351232 /\ ∀ i, i < n1 -> f1 i = [st (gT (f1 i))]) /\ Sp.inR ⟨s1, l1, h1⟩ /\ Cg.inR ⟨b1, m1, r1⟩), .va (Vl.ar (Vl.narrow (⟨⟨⟨s0, l0, h0⟩, ⟨b0, m0, r0⟩⟩, ⟨z0, gN n0 f0⟩⟩ : Vl) (⟨⟨⟨s1, l1, h1⟩, ⟨b1, m1, r1⟩⟩, ⟨z1, gN n1 f1⟩⟩ : Vl))), []⟩
 | _ => none
theorem fcVNarrow : FC Tryz.prog 19 FVNarrow := by
 intro xs pre r us h hp
 unfold FVNarrow at h
 split at h
 . rename_i s0 l0 h0 b0 m0 r0 z0 n0 f0 s1 l1 h1 b1 m1 r1 z1 n1 f1
   cases h
   obtain ⟨hp0, hp1⟩ := hp
   refine FCat.of_eq (as' := [.agg [.d (.v (.bool s0)), .d (.v (.int .i64 l0)), .d (.v (.int .i64 h0)), .d (.v (.bool b0)), .d (.v (.int .i64 m0)), .d (.v (.int .i64 r0)), .d (.v (.bool z0)), .d (.lst 1 n0 fun i => [st (gT (f0 i))])], .agg [.d (.v (.bool s1)), .d (.v (.int .i64 l1)), .d (.v (.int .i64 h1)), .d (.v (.bool b1)), .d (.v (.int .i64 m1)), .d (.v (.int .i64 r1)), .d (.v (.bool z1)), .d (.lst 1 n1 fun i => [st (gT (f1 i))])]]) ?_ rfl rfl ?_
   . repeat' (first | exact trivial | exact rfl | refine ⟨?_, ?_⟩ | fail)
     all_goals first | exact hp0.2 | exact hp1.2 | exact hp2.2 | (intro i hi; exact (hp0.2 i hi).1) | (intro i hi; exact (hp1.2 i hi).1) | (intro i hi; exact (hp2.2 i hi).1) | grind
   refine fcat tys_ok (l := [(33, ⟨[], FVOf⟩), (11, ⟨[], FVLeq⟩), (29, ⟨[], FVNoneV⟩), (37, ⟨[], FVValue⟩), (56, ⟨[], FSNarrow⟩), (57, ⟨[], FCAll⟩), (58, ⟨[], FVClean⟩)]) ⟨fcVOf, fcVLeq, fcVNoneV, fcVValue, fcSNarrow, fcCAll, fcVClean, trivial⟩ Tryz.func19 rfl (by kernel_rfl) true ?_
   have hv0 : okV (⟨⟨⟨s0, l0, h0⟩, ⟨b0, m0, r0⟩⟩, ⟨z0, gN n0 fun i => [st (gT (f0 i))]⟩⟩ : Vl) := ⟨⟨(by rw [gN_length]; exact hp0.1.1), fun _ _ => rfl⟩, hp0.2⟩
   have hv1 : okV (⟨⟨⟨s1, l1, h1⟩, ⟨b1, m1, r1⟩⟩, ⟨z1, gN n1 fun i => [st (gT (f1 i))]⟩⟩ : Vl) := ⟨⟨(by rw [gN_length]; exact hp1.1.1), fun _ _ => rfl⟩, hp1.2⟩
   have ho0 := okV_of hv0
   have ho1 := okV_of hv1
   have hoo0 := okV_of ho0
   have hoo1 := okV_of ho1
   have hl0 : (Vl.of (⟨⟨⟨s0, l0, h0⟩, ⟨b0, m0, r0⟩⟩, ⟨z0, gN n0 fun i => [st (gT (f0 i))]⟩⟩ : Vl)).t.names.length <= n0 := by have := ofS_len (gN n0 f0); rw [gN_length] at this; exact this
   have hl1 : (Vl.of (⟨⟨⟨s1, l1, h1⟩, ⟨b1, m1, r1⟩⟩, ⟨z1, gN n1 fun i => [st (gT (f1 i))]⟩⟩ : Vl)).t.names.length <= n1 := by have := ofS_len (gN n1 f1); rw [gN_length] at this; exact this
   have hsj := Sp.join_inR ho0.2.1 ho1.2.1
   have hcj := Cg.join_inR ho0.2.2 ho1.2.2
   unfold okV at ho0 ho1 hoo0 hoo1
   have hns := Sp.narrow_inR ho0.2.1 ho1.2.1
   have hk1 := Ig.clean_inR (i := ⟨_, _⟩) hns ho0.2.2
   have hk2 := Ig.clean_inR (i := ⟨_, _⟩) hns ho1.2.2
   repeat' (first | exact trivial | (with_reducible first | exact ho0 | exact ho1 | exact ho0.1 | exact ho1.1 | exact ho0.2.1 | exact ho0.2.2 | exact ho1.2.1 | exact ho1.2.2 | exact hp0.1 | exact hp1.1 | exact hp0.2.1 | exact hp0.2.2 | exact hp1.2.1 | exact hp1.2.2 | exact hp0 | exact hp1 | exact hsj | exact hcj | exact hns | exact hk1 | exact hk2 | exact hk1.1 | exact hk1.2 | exact hk2.1 | exact hk2.2) | refine ⟨?_, ?_⟩ | intro _)
   all_goals first | (with_reducible first | apply qa | apply qb | apply qc | apply qd) | (conv => whnf)
   all_goals (try simp only [gN_lst] at *)
   all_goals first | rfl | (with_reducible first | exact hp0.1.1 | exact hp1.1.1) | (have e := narrow_1 (a := (⟨⟨⟨s0, l0, h0⟩, ⟨b0, m0, r0⟩⟩, ⟨z0, gN n0 fun i => [st (gT (f0 i))]⟩⟩ : Vl)) (b := (⟨⟨⟨s1, l1, h1⟩, ⟨b1, m1, r1⟩⟩, ⟨z1, gN n1 fun i => [st (gT (f1 i))]⟩⟩ : Vl)) ‹_›; first | (have e2 := congrArg (fun v : Vl => Value.bool v.i.s.some) e.symm; exact e2) | (have e2 := congrArg (fun v : Vl => Value.int .i64 v.i.s.lo) e.symm; exact e2) | (have e2 := congrArg (fun v : Vl => Value.int .i64 v.i.s.hi) e.symm; exact e2) | (have e2 := congrArg (fun v : Vl => Value.bool v.i.c.some) e.symm; exact e2) | (have e2 := congrArg (fun v : Vl => Value.int .i64 v.i.c.m) e.symm; exact e2) | (have e2 := congrArg (fun v : Vl => Value.int .i64 v.i.c.r) e.symm; exact e2) | (have e2 := congrArg (fun v : Vl => Value.bool v.t.null) e.symm; exact e2) | (have e2 := congrArg (fun v : Vl => v.t.names.length) e.symm; exact e2) | (have e2 := congrArg (fun v : Vl => v.t.names.length) e; exact e2) | (have e2 := congrArg (fun v : Vl => [st (atS v.t.names (by assumption))]) e.symm; exact e2) | fail) | (have e := narrow_2 (a := (⟨⟨⟨s0, l0, h0⟩, ⟨b0, m0, r0⟩⟩, ⟨z0, gN n0 fun i => [st (gT (f0 i))]⟩⟩ : Vl)) (b := (⟨⟨⟨s1, l1, h1⟩, ⟨b1, m1, r1⟩⟩, ⟨z1, gN n1 fun i => [st (gT (f1 i))]⟩⟩ : Vl)) ‹_› ‹_›; first | (have e2 := congrArg (fun v : Vl => Value.bool v.i.s.some) e.symm; exact e2) | (have e2 := congrArg (fun v : Vl => Value.int .i64 v.i.s.lo) e.symm; exact e2) | (have e2 := congrArg (fun v : Vl => Value.int .i64 v.i.s.hi) e.symm; exact e2) | (have e2 := congrArg (fun v : Vl => Value.bool v.i.c.some) e.symm; exact e2) | (have e2 := congrArg (fun v : Vl => Value.int .i64 v.i.c.m) e.symm; exact e2) | (have e2 := congrArg (fun v : Vl => Value.int .i64 v.i.c.r) e.symm; exact e2) | (have e2 := congrArg (fun v : Vl => Value.bool v.t.null) e.symm; exact e2) | (have e2 := congrArg (fun v : Vl => v.t.names.length) e.symm; exact e2) | (have e2 := congrArg (fun v : Vl => v.t.names.length) e; exact e2) | (have e2 := congrArg (fun v : Vl => [st (atS v.t.names (by assumption))]) e.symm; exact e2) | fail) | (have e := narrow_3 (a := (⟨⟨⟨s0, l0, h0⟩, ⟨b0, m0, r0⟩⟩, ⟨z0, gN n0 fun i => [st (gT (f0 i))]⟩⟩ : Vl)) (b := (⟨⟨⟨s1, l1, h1⟩, ⟨b1, m1, r1⟩⟩, ⟨z1, gN n1 fun i => [st (gT (f1 i))]⟩⟩ : Vl)) ‹_› ‹_› ‹_›; first | (have e2 := congrArg (fun v : Vl => Value.bool v.i.s.some) e.symm; exact e2) | (have e2 := congrArg (fun v : Vl => Value.int .i64 v.i.s.lo) e.symm; exact e2) | (have e2 := congrArg (fun v : Vl => Value.int .i64 v.i.s.hi) e.symm; exact e2) | (have e2 := congrArg (fun v : Vl => Value.bool v.i.c.some) e.symm; exact e2) | (have e2 := congrArg (fun v : Vl => Value.int .i64 v.i.c.m) e.symm; exact e2) | (have e2 := congrArg (fun v : Vl => Value.int .i64 v.i.c.r) e.symm; exact e2) | (have e2 := congrArg (fun v : Vl => Value.bool v.t.null) e.symm; exact e2) | (have e2 := congrArg (fun v : Vl => v.t.names.length) e.symm; exact e2) | (have e2 := congrArg (fun v : Vl => v.t.names.length) e; exact e2) | (have e2 := congrArg (fun v : Vl => [st (atS v.t.names (by assumption))]) e.symm; exact e2) | fail) | (have e := narrow_4 (a := (⟨⟨⟨s0, l0, h0⟩, ⟨b0, m0, r0⟩⟩, ⟨z0, gN n0 fun i => [st (gT (f0 i))]⟩⟩ : Vl)) (b := (⟨⟨⟨s1, l1, h1⟩, ⟨b1, m1, r1⟩⟩, ⟨z1, gN n1 fun i => [st (gT (f1 i))]⟩⟩ : Vl)) ‹_› ‹_› ‹_›; first | (have e2 := congrArg (fun v : Vl => Value.bool v.i.s.some) e.symm; exact e2) | (have e2 := congrArg (fun v : Vl => Value.int .i64 v.i.s.lo) e.symm; exact e2) | (have e2 := congrArg (fun v : Vl => Value.int .i64 v.i.s.hi) e.symm; exact e2) | (have e2 := congrArg (fun v : Vl => Value.bool v.i.c.some) e.symm; exact e2) | (have e2 := congrArg (fun v : Vl => Value.int .i64 v.i.c.m) e.symm; exact e2) | (have e2 := congrArg (fun v : Vl => Value.int .i64 v.i.c.r) e.symm; exact e2) | (have e2 := congrArg (fun v : Vl => Value.bool v.t.null) e.symm; exact e2) | (have e2 := congrArg (fun v : Vl => v.t.names.length) e.symm; exact e2) | (have e2 := congrArg (fun v : Vl => v.t.names.length) e; exact e2) | (have e2 := congrArg (fun v : Vl => [st (atS v.t.names (by assumption))]) e.symm; exact e2) | fail) | ((with_reducible show _ <= _); first | exact hk1.1.1.1 | exact hk1.1.2.1 | exact hk1.2.1.1 | exact hk1.2.2.1 | exact hk2.1.1.1 | exact hk2.1.2.1 | exact hk2.2.1.1 | exact hk2.2.2.1 | exact ho0.2.2.1.1 | exact ho0.2.2.2.1 | exact ho1.2.2.1.1 | exact ho1.2.2.2.1) | ((with_reducible show _ < _); first | exact hk1.1.1.2 | exact hk1.1.2.2 | exact hk1.2.1.2 | exact hk1.2.2.2 | exact hk2.1.1.2 | exact hk2.1.2.2 | exact hk2.2.1.2 | exact hk2.2.2.2 | exact ho0.2.2.1.2 | exact ho0.2.2.2.2 | exact ho1.2.2.1.2 | exact ho1.2.2.2.2)
 . cases h
def FVHasPtr : List Ar -> Option Rs
 | [.agg [.d (.v (.bool s0)), .d (.v (.int .i64 l0)), .d (.v (.int .i64 h0)), .d (.v (.bool b0)), .d (.v (.int .i64 m0)), .d (.v (.int .i64 r0)), .d (.v (.bool z0)), .d (.lst 1 n0 f0)], .c (.d (.v (.string x1)))] => some ⟨((n0 * 16 <= 140737488351232 /\ ∀ i, i < n0 -> f0 i = [st (gT (f0 i))]) /\ Sp.inR ⟨s0, l0, h0⟩ /\ Cg.inR ⟨b0, m0, r0⟩), .va (.c (.d (bo (hasS z0 (gN n0 f0) x1)))), []⟩
 | _ => none
theorem fcVHasPtr : FC Tryz.prog 13 FVHasPtr := by
 intro xs pre r us h hp
 unfold FVHasPtr at h
 split at h
 . rename_i s0 l0 h0 b0 m0 r0 z0 n0 f0 x1
   cases h
   have hp0 := hp
   refine FCat.of_eq (as' := [.agg [.d (.v (.bool s0)), .d (.v (.int .i64 l0)), .d (.v (.int .i64 h0)), .d (.v (.bool b0)), .d (.v (.int .i64 m0)), .d (.v (.int .i64 r0)), .d (.v (.bool z0)), .d (.lst 1 n0 fun i => [st (gT (f0 i))])], .c (.d (.v (.string x1)))]) ?_ rfl rfl ?_
   . repeat' (first | exact trivial | exact rfl | refine ⟨?_, ?_⟩ | fail)
     all_goals first | exact hp0.2 | exact hp1.2 | exact hp2.2 | (intro i hi; exact (hp0.2 i hi).1) | (intro i hi; exact (hp1.2 i hi).1) | (intro i hi; exact (hp2.2 i hi).1) | grind
   refine fcat tys_ok (l := [(49, ⟨[], FNHas⟩)]) ⟨fcNHas, trivial⟩ Tryz.func13 rfl (by kernel_rfl) true ?_
   repeat' (first | exact trivial | (with_reducible first | exact hp0 | exact hp0.1 | exact hp0.2.1 | exact hp0.2.2) | refine ⟨?_, ?_⟩ | intro _)
   all_goals first | (with_reducible first | apply qa | apply qb | apply qc | apply qd) | (conv => whnf)
   all_goals (try simp only [gN_lst] at *)
   all_goals first | rfl | (with_reducible exact hp0.1.1)
 . cases h
theorem ig_clean2 (i : Ig) : i.clean.clean = i.clean := tidy_fix (clean_tidy i)
theorem rclean2 (v : Vl) : v.rclean.rclean = v.rclean := by
 unfold Vl.rclean; rw [ig_clean2, cleanS_idem]
theorem widen_eq (a b : Vl) (l : List Int) : Vl.widen a b l = Vl.rwiden a b l := by
 unfold Vl.widen Vl.rwiden Vl.rjoin
 rw [rclean2, rclean2, of_rclean, of_rclean]
 simp only [Vl.rclean, ofS_eq, cleanS_idem]
theorem leq_eq (a b : Vl) : Vl.leq a b = Vl.rleq a.rclean b.rclean := by
 unfold Vl.leq Vl.rleq Ig.leq
 rw [rclean2, rclean2, of_rclean, of_rclean]
 simp only [Vl.rclean, ofS_eq, cleanS_idem]
theorem tidy_none {i : Ig} (h : i.tidy) : i.none = !i.s.some := by
 unfold Ig.none Sp.none
 rcases h with rfl | ⟨⟨h1, h2⟩, h3, _⟩
 . rfl
 . rw [h1, h2]; simp; omega
theorem none_eq (b : Vl) : Vl.none b = Vl.rnone b.rclean := by
 unfold Vl.none Vl.rnone
 rw [rclean2, of_rclean, tidy_none (i := b.rclean.i) (clean_tidy b.i)]
 congr 1
 simp only [Vl.rclean, ofS_eq, cleanS_idem]
 have key : ∀ (x : Bool) (l : List ByteArray), (!x && decide (l = [])) = decide ((l.length : Int) + (if x = true then 1 else 0) = 0) := by
  intro x l
  cases x
  . simp
  . simp; omega
 exact key _ _
theorem tidy_all {i : Ig} (h : i.tidy) : Cg.eq i.c (Cg.of 1 0) = decide (i.c.m = 1) := by
 have e : Cg.of 1 0 = ⟨true, 1, 0⟩ := rfl
 rw [e]; unfold Cg.eq
 rcases h with rfl | ⟨⟨h1, h2⟩, h3, h4⟩
 . rfl
 . rw [h2, Bool.eq_iff_iff]
   simp only [Bool.and_eq_true, beq_iff_eq, decide_eq_true_eq, true_and]
   constructor
   . exact fun h => h.1
   . intro h
     have := h4.2 (by omega)
     omega
theorem narrow_eq (a b : Vl) : Vl.narrow a b = Vl.rnarrow a b := by
 unfold Vl.narrow Vl.rnarrow
 rw [leq_eq, none_eq, of_rclean, of_rclean, tidy_all (i := a.rclean.i) (clean_tidy a.i)]
 split
 . rfl
 . split
   . rfl
   . simp only [decide_eq_true_eq]
     unfold Vl.rclean
     simp only [cleanS_idem]
theorem w1 (a b : Vl) (l : List Int) : Vl.exact (Vl.widen a b l) (Vl.rwiden a b l) = true := by rw [widen_eq]; exact exact_refl _
theorem w2 (a b : Vl) : Vl.exact (Vl.narrow a b) (Vl.rnarrow a b) = true := by rw [narrow_eq]; exact exact_refl _
namespace Sp
def inRb (s : Sp) : Bool := decide (-9223372036854775808 <= s.lo) && decide (s.hi <= 9223372036854775807)
theorem leq_widen1 (s b : Sp) (l : List Int) (hb : inRb b = true) : leq s (widen s b l) = true := by
 have := under_le l b.lo; have := over_ge l b.hi; grind [widen, leq, none, has, clean, inRb]
theorem leq_widen2 (s b : Sp) (l : List Int) (hb : inRb b = true) : leq b (widen s b l) = true := by
 have := under_le l b.lo; have := over_ge l b.hi; grind [widen, leq, none, has, clean, inRb]
end Sp
theorem Sp.inRb_of {s : Sp} (h : s.inR) : s.inRb = true := by unfold Sp.inR at h; unfold Sp.inRb; simp; omega
def Cg.tidy (c : Cg) : Prop := c = Cg.none \/ (c.some = true /\ c.red)
theorem Cg.tidy_fix {c : Cg} (h : c.tidy) : c.clean = c := by
 rcases h with rfl | ⟨h1, h2⟩
 . rfl
 . exact cg_fix h1 h2
theorem gcdJ_dvd {x y : Cg} : Cg.gcdJ x y ∣ x.m /\ Cg.gcdJ x y ∣ y.m /\ Cg.gcdJ x y ∣ apartI x.r y.r := by
 unfold Cg.gcdJ
 refine ⟨Int.dvd_trans (Int.gcd_dvd_left _ _) (Int.gcd_dvd_left _ _), Int.dvd_trans (Int.gcd_dvd_left _ _) (Int.gcd_dvd_right _ _), Int.gcd_dvd_right _ _⟩
theorem apart_dvd {g a b : Int} (h : g ∣ apartI a b) : g ∣ a - b := by
 unfold apartI at h
 split at h
 . exact h
 . rw [<- Int.neg_sub, Int.dvd_neg]; exact h
theorem gcdJ_nn (x y : Cg) : 0 <= Cg.gcdJ x y := by unfold Cg.gcdJ; omega
theorem gcdJ_zero {x y : Cg} (h : Cg.gcdJ x y = 0) : x.m = 0 /\ y.m = 0 /\ x.r = y.r := by
 have := gcdJ_dvd (x := x) (y := y)
 rw [h] at this
 obtain ⟨h1, h2, h3⟩ := this
 rw [Int.zero_dvd] at h1 h2
 have h4 := apart_dvd h3
 rw [Int.zero_dvd] at h4
 exact ⟨h1, h2, by omega⟩
theorem md_dvd {a b g : Int} (hg : 0 < g) (h : g ∣ a - b) : md a g = md b g := by
 unfold md
 rw [if_neg (by omega), if_neg (by omega)]
 exact Int.emod_eq_emod_iff_emod_sub_eq_zero.2 (Int.emod_eq_zero_of_dvd h)
theorem join_some {a b : Cg} (ha : a.some = true) (hb : b.some = true) (ra : a.red) (rb : b.red) : Cg.join a b = if Cg.gcdJ a b > 9223372036854775807 then ⟨true, 1, 0⟩ else ⟨true, Cg.gcdJ a b, md a.r (Cg.gcdJ a b)⟩ := by
 unfold Cg.join
 rw [cg_fix ha ra, cg_fix hb rb, ha, hb]
 have := gcdJ_nn a b
 simp only [Bool.not_true, Bool.false_eq_true, if_false]
 split
 . rfl
 . unfold Cg.of; rw [if_neg (by omega)]
theorem join_no1 {a b : Cg} (ha : a = Cg.none) (hb : b.tidy) : Cg.join a b = b := by
 subst ha
 have : (!Cg.none.clean.some) = true := rfl
 unfold Cg.join; rw [if_pos this, Cg.tidy_fix hb]
theorem join_no2 {a b : Cg} (ha : a.tidy) (hs : a.some = true) (hb : b = Cg.none) : Cg.join a b = a := by
 subst hb
 unfold Cg.join; rw [Cg.tidy_fix ha, hs]; rfl
theorem join_tidy {a b : Cg} (ha : a.tidy) (hb : b.tidy) : (Cg.join a b).tidy := by
 rcases ha with ha | ⟨h1, h2⟩
 . rw [join_no1 ha hb]; exact hb
 . rcases hb with hb | ⟨h3, h4⟩
   . rw [join_no2 (.inr ⟨h1, h2⟩) h1 hb]; exact .inr ⟨h1, h2⟩
   . rw [join_some h1 h3 h2 h4]
     have := gcdJ_nn a b
     split
     . right; refine ⟨rfl, ?_⟩; unfold Cg.red; dsimp only; omega
     . right; refine ⟨rfl, ?_⟩; unfold Cg.red; dsimp only
       exact ⟨this, fun h => md_bound _ _ h⟩
theorem has_t {c : Cg} (h : c.tidy) (hs : c.some = true) (n : Int) : c.has n = decide (md n c.m = c.r) := by
 unfold Cg.has; rw [Cg.tidy_fix h, hs]; rfl
theorem cleq_t {a b : Cg} (ha : a.tidy) (hb : b.tidy) (hs : a.some = true) (ht : b.some = true) : Cg.leq a b = (Cg.factor b.m a.m && decide (md a.r b.m = b.r)) := by
 unfold Cg.leq; rw [Cg.tidy_fix ha, Cg.tidy_fix hb, hs, ht, has_t hb ht]; rfl
theorem leq_no {a b : Cg} (ha : a = Cg.none) : Cg.leq a b = true := by subst ha; unfold Cg.leq; rfl
theorem leq_self {a : Cg} (ha : a.tidy) : Cg.leq a a = true := by
 rcases ha with h | ⟨h1, h2⟩
 . exact leq_no h
 . rw [cleq_t (.inr ⟨h1, h2⟩) (.inr ⟨h1, h2⟩) h1 h1]
   unfold Cg.red at h2
   have e : md a.r a.m = a.r := by
    unfold md; split
    . rfl
    . exact Int.emod_eq_of_lt (h2.2 (by omega)).1 (h2.2 (by omega)).2
   rw [e]; unfold Cg.factor; split <;> simp_all
theorem fac_g {g m : Int} (h : g ∣ m) (h0 : g = 0 -> m = 0) : Cg.factor g m = true := by
 unfold Cg.factor; split
 . rename_i e; simp [h0 e]
 . simp [Int.emod_eq_zero_of_dvd h]
theorem cg_join_leq {a b : Cg} (ha : a.tidy) (hb : b.tidy) : Cg.leq a (Cg.join a b) = true /\ Cg.leq b (Cg.join a b) = true := by
 have hj := join_tidy ha hb
 rcases ha with h | ⟨h1, h2⟩
 . rw [join_no1 h hb]; exact ⟨leq_no h, leq_self hb⟩
 . rcases hb with h | ⟨h3, h4⟩
   . rw [join_no2 (.inr ⟨h1, h2⟩) h1 h]; exact ⟨leq_self (.inr ⟨h1, h2⟩), leq_no h⟩
   . have e := join_some h1 h3 h2 h4
     have hd := gcdJ_dvd (x := a) (y := b)
     have h0 := gcdJ_zero (x := a) (y := b)
     have hn := gcdJ_nn a b
     have ha' : a.tidy := .inr ⟨h1, h2⟩
     have hb' : b.tidy := .inr ⟨h3, h4⟩
     have hs : (Cg.join a b).some = true := by rw [e]; split <;> rfl
     rw [cleq_t ha' hj h1 hs, cleq_t hb' hj h3 hs, e]
     split
     . have m1 : ∀ x : Int, md x 1 = 0 := fun x => by unfold md; rw [if_neg (by omega)]; exact Int.emod_one x
       dsimp only
       rw [m1, m1, fac_g (Int.one_dvd _) (by omega), fac_g (Int.one_dvd _) (by omega)]; simp
     . dsimp only
       rw [fac_g hd.1 (fun h => (h0 h).1), fac_g hd.2.1 (fun h => (h0 h).2.1)]
       have : md b.r (Cg.gcdJ a b) = md a.r (Cg.gcdJ a b) := by
        rcases Int.lt_or_eq_of_le hn with h | h
        . exact (md_dvd h (apart_dvd hd.2.2)).symm
        . rw [(h0 h.symm).2.2]
       rw [this]; simp
theorem tidy_c {i : Ig} (h : i.tidy) : i.c.tidy := by
 rcases h with rfl | ⟨⟨_, h2⟩, _, h4⟩
 . exact .inl rfl
 . exact .inr ⟨h2, h4⟩
def joinI (a b : Ig) (l : List Int) : Ig := ⟨a.s.widen b.s l, a.c.join b.c⟩
theorem join_tidyI {a b : Ig} {l : List Int} (ha : a.tidy) (hb : b.tidy) (ib : b.s.inR) : (joinI a b l).tidy := by
 rcases ha with rfl | ⟨⟨h1, h2⟩, h3, h4⟩
 . have e1 : Sp.widen Ig.zero.s b.s l = b.s.clean := rfl
   have e2 : Cg.join Ig.zero.c b.c = b.c := join_no1 rfl (tidy_c hb)
   have e3 : b.s.clean = b.s := by
    have := tidy_fix hb
    rcases hb with rfl | ⟨⟨q1, q2⟩, q3, q4⟩
    . rfl
    . unfold Sp.clean Sp.none; rw [q1]; simp; omega
   unfold joinI; rw [e1, e2, e3]; exact hb
 . right
   have hj := join_tidy (.inr ⟨h2, h4⟩ : a.c.tidy) (tidy_c hb)
   have hs : (Cg.join a.c b.c).some = true := by
    rcases tidy_c hb with h | ⟨q1, q2⟩
    . rw [join_no2 (.inr ⟨h2, h4⟩) h2 h]; exact h2
    . rw [join_some h2 q1 h4 q2]; split <;> rfl
   have hu := under_le l b.s.lo (by unfold Sp.inR at ib; omega)
   have ho := over_ge l b.s.hi (by unfold Sp.inR at ib; omega)
   have hw : (a.s.widen b.s l).some = true /\ (a.s.widen b.s l).lo <= (a.s.widen b.s l).hi := by
    have hn : a.s.none = false := by unfold Sp.none; rw [h1]; simp; omega
    unfold Sp.widen; rw [hn]
    simp only [Bool.false_eq_true, if_false]
    split
    . exact ⟨h1, h3⟩
    . exact ⟨h1, by dsimp only; split <;> split <;> omega⟩
   refine ⟨⟨hw.1, hs⟩, hw.2, ?_⟩
   rcases hj with h | ⟨_, h⟩
   . unfold joinI; dsimp only; rw [h] at hs; cases hs
   . exact h
theorem of_told {v : Vl} (h : v.i.tidy) (hs : Srt v.t.names) : v.of = v := by
 unfold Vl.of; rw [tidy_fix h, ofS_eq, cleanS_fix hs]
namespace Sp
theorem l3_join1 (a b : Sp) : leq a (join a b) = true := by grind [leq, join, none, has, clean, of]
theorem l3_least (a b c : Sp) : leq a c = true -> leq b c = true -> leq (join a b) c = true := by grind [leq, join, none, has, clean, of]
theorem l3_refl (a : Sp) : leq a a = true := by grind [leq, none, has]
theorem l3_zero (a : Sp) : leq ⟨false, 0, 0⟩ a = true := by grind [leq, none, has]
theorem l3_nleq (s b : Sp) : leq (narrow s b) s = true := by grind [clean, none, eq, narrow, leq, has]
theorem l3_leqn (s b : Sp) (h : leq b s = true) : leq b (narrow s b) = true := by grind [clean, none, eq, narrow, leq, has]
theorem l3_clean (a b : Sp) : leq a.clean b = leq a b := by grind [leq, none, has, clean]
theorem l3_clean2 (a b : Sp) : leq a b.clean = leq a b := by grind [leq, none, has, clean]
end Sp
theorem l3_fac {g m : Int} : Cg.factor g m = true ↔ g ∣ m := by
 unfold Cg.factor
 split
 . rename_i h; subst h; rw [decide_eq_true_eq, Int.zero_dvd]
 . rw [decide_eq_true_eq]; exact (Int.dvd_iff_emod_eq_zero).symm
theorem l3_md {n m r : Int} (h0 : 0 <= m) (h : 0 < m -> 0 <= r /\ r < m) : md n m = r ↔ m ∣ n - r := by
 rcases Int.lt_or_eq_of_le h0 with hm | hm
 . obtain ⟨h1, h2⟩ := h hm
   rw [md_eq0 hm h1 h2]; exact (Int.dvd_iff_emod_eq_zero).symm
 . subst hm; unfold md; rw [if_pos (Int.le_refl _), Int.zero_dvd]; omega
namespace Cg
theorem leq_iff {a b : Cg} (ha : a.tidy) (hb : b.tidy) : Cg.leq a b = true ↔ (a.some = true -> b.some = true /\ b.m ∣ a.m /\ b.m ∣ a.r - b.r) := by
 rcases ha with h | ⟨h1, h2⟩
 . rw [leq_no h]; subst h; simp [Cg.none]
 . rcases hb with h | ⟨h3, h4⟩
   . subst h
     have : Cg.leq a Cg.none = false := by
      unfold Cg.leq; rw [Cg.tidy_fix (.inr ⟨h1, h2⟩), h1]; rfl
     rw [this, h1]; simp [Cg.none]
   . rw [cleq_t (.inr ⟨h1, h2⟩) (.inr ⟨h3, h4⟩) h1 h3, Bool.and_eq_true, decide_eq_true_eq, l3_fac]
     unfold Cg.red at h4
     rw [l3_md (by omega) h4.2]
     simp [h1, h3]
theorem gcdJ_comm (a b : Cg) : Cg.gcdJ a b = Cg.gcdJ b a := by
 unfold Cg.gcdJ
 rw [Int.gcd_comm a.m b.m]
 congr 2
 unfold apartI
 split <;> split <;> omega
theorem l3_comm {a b : Cg} (ha : a.tidy) (hb : b.tidy) : Cg.join a b = Cg.join b a := by
 rcases ha with h | ⟨h1, h2⟩
 . rw [join_no1 h hb]
   rcases hb with h' | ⟨h3, h4⟩
   . rw [h, h', join_no1 rfl (.inl rfl)]
   . rw [join_no2 (.inr ⟨h3, h4⟩) h3 h]
 . rcases hb with h' | ⟨h3, h4⟩
   . rw [join_no2 (.inr ⟨h1, h2⟩) h1 h', join_no1 h' (.inr ⟨h1, h2⟩)]
   . rw [join_some h1 h3 h2 h4, join_some h3 h1 h4 h2, gcdJ_comm b a]
     have hd := gcdJ_dvd (x := a) (y := b)
     have h0 := gcdJ_zero (x := a) (y := b)
     have hn := gcdJ_nn a b
     have : md b.r (Cg.gcdJ a b) = md a.r (Cg.gcdJ a b) := by
      rcases Int.lt_or_eq_of_le hn with h | h
      . exact (md_dvd h (apart_dvd hd.2.2)).symm
      . rw [(h0 h.symm).2.2]
     rw [this]
end Cg
structure Vl.tidy (v : Vl) : Prop where
 i : v.i.tidy
 t : Srt v.t.names
theorem Vl.of_tidy (v : Vl) : v.of.tidy := ⟨by rw [of_rclean]; exact clean_tidy v.i, by rw [of_rclean]; exact cleanS_srt _⟩
theorem Vl.of_fix {v : Vl} (h : v.tidy) : v.of = v := of_told h.i h.t
theorem Vl.of_of (v : Vl) : v.of.of = v.of := Vl.of_fix (Vl.of_tidy v)
theorem Vl.zero_tidy : Vl.zero.tidy := ⟨.inl rfl, by unfold Vl.zero; exact srt_nil⟩
theorem Vl.leq_iff {a b : Vl} (ha : a.tidy) (hb : b.tidy) : Vl.leq a b = true ↔ a.i.s.leq b.i.s = true /\ a.i.c.leq b.i.c = true /\ (a.t.null = true -> b.t.null = true) /\ ∀ z, z ∈ a.t.names -> z ∈ b.t.names := by
 unfold Vl.leq Ig.leq
 rw [Vl.of_fix ha, Vl.of_fix hb, ofS_eq, ofS_eq, cleanS_fix ha.t, cleanS_fix hb.t]
 simp only [Bool.and_eq_true, subS_iff, Bool.or_eq_true, Bool.not_eq_true', and_assoc]
 cases a.t.null <;> simp
theorem Vl.leq_of (a b : Vl) : Vl.leq a.of b.of = Vl.leq a b := by
 unfold Vl.leq
 have e : ∀ v : Vl, v.of.t.null = v.t.null := fun v => by rw [of_rclean]; rfl
 have e2 : ∀ v : Vl, ofS v.of.t.names = ofS v.t.names := fun v => by rw [of_rclean, ofS_eq, ofS_eq]; exact cleanS_idem _
 rw [Vl.of_of, Vl.of_of, e, e, e2, e2]
theorem ig_join_tidy {a b : Ig} (ha : a.tidy) (hb : b.tidy) : Ig.tidy ⟨a.s.join b.s, a.c.join b.c⟩ := by
 have hj := join_tidy (tidy_c ha) (tidy_c hb)
 rcases ha with rfl | ⟨⟨a1, a2⟩, a3, a4⟩
 . rcases hb with rfl | ⟨⟨b1, b2⟩, b3, b4⟩
   . exact .inl rfl
   . have e : Cg.join Ig.zero.c b.c = b.c := join_no1 rfl (.inr ⟨b2, b4⟩)
     rw [e]
     obtain ⟨⟨s, l, h⟩, c⟩ := b
     dsimp only at *
     subst b1
     right
     refine ⟨⟨?_, b2⟩, ?_, b4⟩
     . show (Sp.join ⟨false, 0, 0⟩ ⟨true, l, h⟩).some = true; grind [Sp.join, Sp.none, Sp.clean]
     . show (Sp.join ⟨false, 0, 0⟩ ⟨true, l, h⟩).lo <= (Sp.join ⟨false, 0, 0⟩ ⟨true, l, h⟩).hi; grind [Sp.join, Sp.none, Sp.clean]
 . right
   have hs : (a.s.join b.s).some = true /\ (a.s.join b.s).lo <= (a.s.join b.s).hi := by grind [Sp.join, Sp.none, Sp.clean, Sp.of]
   have hc : (a.c.join b.c).some = true := by
    rcases hb with rfl | ⟨⟨b1, b2⟩, b3, b4⟩
    . have e : Cg.join a.c Ig.zero.c = a.c := join_no2 (.inr ⟨a2, a4⟩) a2 rfl
      rw [e]; exact a2
    . rw [join_some a2 b2 a4 b4]; split <;> rfl
   refine ⟨⟨hs.1, hc⟩, hs.2, ?_⟩
   rcases hj with h | ⟨_, h⟩
   . rw [h] at hc; cases hc
   . exact h
theorem mem_ofS {l : List ByteArray} {z : ByteArray} : z ∈ ofS l ↔ z ∈ l := by rw [ofS_eq, cleanS_mem]
theorem srt_ofS (l : List ByteArray) : Srt (ofS l) := by rw [ofS_eq]; exact cleanS_srt l
theorem of_null (v : Vl) : v.of.t.null = v.t.null := by rw [of_rclean]; rfl
theorem of_names (v : Vl) : v.of.t.names = ofS v.t.names := by rw [of_rclean, ofS_eq]; rfl
theorem Vl.jn_tidy (a b : Vl) : (Vl.join a b).tidy := ⟨ig_join_tidy (Vl.of_tidy a).i (Vl.of_tidy b).i, srt_ofS _⟩
theorem Vl.l3_join1 (a b : Vl) : Vl.leq a (Vl.join a b) = true := by
 rw [<- Vl.leq_of, Vl.of_fix (Vl.jn_tidy a b), Vl.leq_iff (Vl.of_tidy a) (Vl.jn_tidy a b)]
 refine ⟨Sp.l3_join1 _ _, (cg_join_leq (tidy_c (Vl.of_tidy a).i) (tidy_c (Vl.of_tidy b).i)).1, ?_, ?_⟩
 . rw [of_null]; intro h; show (a.t.null || b.t.null) = true; rw [h]; rfl
 . intro z hz
   rw [of_names] at hz
   exact mem_ofS.2 (List.mem_append_left _ hz)
theorem Vl.l3_comm (a b : Vl) : Vl.join a b = Vl.join b a := by
 unfold Vl.join
 have h1 : a.of.i.s.join b.of.i.s = b.of.i.s.join a.of.i.s := by
  have ha := (Vl.of_tidy a).i
  have hb := (Vl.of_tidy b).i
  rcases ha with e | ⟨⟨a1, _⟩, a3, _⟩
  . rw [e]; rcases hb with e | ⟨⟨b1, _⟩, b3, _⟩
    . rw [e]
    . generalize b.of.i.s = y at *; unfold Ig.zero; grind [Sp.join, Sp.none, Sp.clean, Sp.of]
  . rcases hb with e | ⟨⟨b1, _⟩, b3, _⟩
    . rw [e]; generalize a.of.i.s = y at *; unfold Ig.zero; grind [Sp.join, Sp.none, Sp.clean, Sp.of]
    . generalize a.of.i.s = x at *; generalize b.of.i.s = y at *; grind [Sp.join, Sp.none, Sp.clean, Sp.of]
 have h2 : ofS (ofS a.t.names ++ ofS b.t.names) = ofS (ofS b.t.names ++ ofS a.t.names) := srt_ext (srt_ofS _) (srt_ofS _) fun z => by
  rw [mem_ofS, mem_ofS, List.mem_append, List.mem_append]; exact Or.comm
 rw [h1, Cg.l3_comm (tidy_c (Vl.of_tidy a).i) (tidy_c (Vl.of_tidy b).i), h2, Bool.or_comm]
theorem Vl.l3_join2 (a b : Vl) : Vl.leq b (Vl.join a b) = true := by rw [Vl.l3_comm]; exact Vl.l3_join1 b a
def Vl.inR (v : Vl) : Prop := v.i.s.inR /\ v.i.c.inR
theorem Vl.of_inR {v : Vl} (h : v.inR) : v.of.inR := Ig.clean_inR h.1 h.2
theorem Vl.widen_tidy {a b : Vl} {l : List Int} (hb : b.inR) : (Vl.widen a b l).tidy :=
 ⟨join_tidyI (l := l) (Vl.of_tidy a).i (Vl.of_tidy b).i (Vl.of_inR hb).1, srt_ofS _⟩
theorem Vl.l3_widen {a b : Vl} {l : List Int} (hb : b.inR) : Vl.leq (Vl.join a b) (Vl.widen a b l) = true := by
 rw [Vl.leq_iff (Vl.jn_tidy a b) (Vl.widen_tidy hb)]
 refine ⟨Sp.l3_least _ _ _ (Sp.leq_widen1 _ _ _ (Sp.inRb_of (Vl.of_inR hb).1)) (Sp.leq_widen2 _ _ _ (Sp.inRb_of (Vl.of_inR hb).1)), leq_self (join_tidy (tidy_c (Vl.of_tidy a).i) (tidy_c (Vl.of_tidy b).i)), id, fun _ => id⟩
theorem Vl.none_leq {b : Vl} (h : Vl.none b = true) (c : Vl) : Vl.leq b c = true := by
 rw [<- Vl.leq_of, Vl.leq_iff (Vl.of_tidy b) (Vl.of_tidy c)]
 unfold Vl.none at h
 simp only [Bool.and_eq_true, Bool.not_eq_true', decide_eq_true_eq] at h
 obtain ⟨h1, h2, h3⟩ := h
 rcases (Vl.of_tidy b).i with e | ⟨⟨e1, e2⟩, e3, _⟩
 . rw [e, of_null, of_names, h2, h3]
   exact ⟨Sp.l3_zero _, leq_no rfl, fun h => (Bool.false_ne_true h).elim, fun z hz => by cases hz⟩
 . exfalso
   unfold Ig.none Sp.none at h1
   rw [e1, e2] at h1; simp at h1; omega
def narI (x y : Ig) : Ig := Ig.clean ⟨x.s.narrow y.s, if Cg.eq x.c (Cg.of 1 0) then y.c else x.c⟩
theorem narI_facts {x y : Ig} (hx : x.tidy) (hy : y.tidy) (hs : Sp.leq y.s x.s = true) (hc : Cg.leq y.c x.c = true) :
 Sp.leq (narI x y).s x.s = true /\ Cg.leq (narI x y).c x.c = true /\ (Sp.leq y.s (narI x y).s = true /\ Cg.leq y.c (narI x y).c = true) := by
 have hall : ∀ c : Cg, c.tidy -> Cg.eq c (Cg.of 1 0) = true -> c = ⟨true, 1, 0⟩ := by
  intro c hc h
  have e : Cg.of 1 0 = ⟨true, 1, 0⟩ := rfl
  rw [e] at h; unfold Cg.eq at h
  simp only [Bool.and_eq_true, beq_iff_eq] at h
  cases c; simp_all
 have ht : (if Cg.eq x.c (Cg.of 1 0) then y.c else x.c).tidy := by split; exact tidy_c hy; exact tidy_c hx
 have l1 : Cg.leq (if Cg.eq x.c (Cg.of 1 0) then y.c else x.c) x.c = true := by split; exact hc; exact leq_self (tidy_c hx)
 have l2 : Cg.leq y.c (if Cg.eq x.c (Cg.of 1 0) then y.c else x.c) = true := by split; exact leq_self (tidy_c hy); exact hc
 unfold narI Ig.clean
 generalize hcc : (if Cg.eq x.c (Cg.of 1 0) then y.c else x.c) = c at *
 split
 . rename_i hn
   refine ⟨Sp.l3_zero _, leq_no rfl, ?_⟩
   unfold Ig.none at hn
   dsimp only at hn
   rcases hy with e | ⟨⟨e1, e2⟩, e3, e4⟩
   . rw [e]; exact ⟨Sp.l3_zero _, leq_no rfl⟩
   . exfalso
     rw [Bool.or_eq_true] at hn
     rcases hn with hn | hn
     . have := Sp.l3_leqn x.s y.s hs
       unfold Sp.leq at this
       have hyn : y.s.none = false := by unfold Sp.none; rw [e1]; simp; omega
       rw [hyn, Bool.false_or, Bool.and_eq_true] at this
       unfold Sp.has at this
       unfold Sp.none at hn
       simp only [Bool.and_eq_true, Bool.or_eq_true, Bool.not_eq_true', decide_eq_true_eq] at this hn
       rcases hn with hn | hn
       . rw [hn] at this; simp at this
       . omega
     . have h1 := (Cg.leq_iff (tidy_c (.inr ⟨⟨e1, e2⟩, e3, e4⟩)) ht).1 l2 e2
       rw [h1.1] at hn; cases hn
 . dsimp only
   refine ⟨by rw [Sp.l3_clean]; exact Sp.l3_nleq _ _, ?_, by rw [Sp.l3_clean2]; exact Sp.l3_leqn _ _ hs, ?_⟩
   . rw [Cg.tidy_fix ht]; exact l1
   . rw [Cg.tidy_fix ht]; exact l2
theorem Vl.narrow_cases (a b : Vl) : Vl.narrow a b = (if !Vl.leq b a then a.of else if Vl.none b then Vl.zero else ⟨narI a.of.i b.of.i, a.of.t⟩) := rfl
theorem Vl.narrow_tidy (a b : Vl) : (Vl.narrow a b).tidy := by
 rw [Vl.narrow_cases]
 split
 . exact Vl.of_tidy a
 . split
   . exact Vl.zero_tidy
   . exact ⟨clean_tidy _, (Vl.of_tidy a).t⟩
theorem Vl.l3_narrow2 (a b : Vl) : Vl.leq (Vl.narrow a b) a = true := by
 rw [<- Vl.leq_of, Vl.of_fix (Vl.narrow_tidy a b), Vl.leq_iff (Vl.narrow_tidy a b) (Vl.of_tidy a), Vl.narrow_cases]
 split
 . exact ⟨Sp.l3_refl _, leq_self (tidy_c (Vl.of_tidy a).i), id, fun _ => id⟩
 . rename_i h
   have h : Vl.leq b a = true := by simpa using h
   split
   . exact ⟨Sp.l3_zero _, leq_no rfl, fun h => (Bool.false_ne_true h).elim, fun z hz => by cases hz⟩
   . rw [<- Vl.leq_of, Vl.leq_iff (Vl.of_tidy b) (Vl.of_tidy a)] at h
     have := narI_facts (Vl.of_tidy a).i (Vl.of_tidy b).i h.1 h.2.1
     exact ⟨this.1, this.2.1, id, fun _ => id⟩
theorem Vl.l3_narrow1 {a b : Vl} (h : Vl.leq b a = true) : Vl.leq b (Vl.narrow a b) = true := by
 rw [Vl.narrow_cases, h]
 simp only [Bool.not_true, Bool.false_eq_true, if_false]
 split
 . rename_i hn; exact Vl.none_leq hn _
 . rename_i hn
   have ht : Vl.tidy ⟨narI a.of.i b.of.i, a.of.t⟩ := ⟨clean_tidy _, (Vl.of_tidy a).t⟩
   rw [<- Vl.leq_of, Vl.of_fix ht, Vl.leq_iff (Vl.of_tidy b) ht]
   rw [<- Vl.leq_of, Vl.leq_iff (Vl.of_tidy b) (Vl.of_tidy a)] at h
   have := narI_facts (Vl.of_tidy a).i (Vl.of_tidy b).i h.1 h.2.1
   exact ⟨this.2.2.1, this.2.2.2, h.2.2⟩
theorem cop_dvd {m a z : Int} (hg : Int.gcd a m = 1) (h : m ∣ a * z) : m ∣ z := by
 rw [<- Int.natAbs_dvd_natAbs] at h ⊢
 rw [Int.natAbs_mul] at h
 exact Nat.Coprime.dvd_of_dvd_mul_left (by unfold Nat.Coprime; rw [Nat.gcd_comm]; exact hg) h
def invOk (a m y : Int) : Prop := (0 <= y /\ y < m) /\ (a * y) % m = 1 % m
def invI (a m : Int) : Int := (((List.range m.toNat).find? fun y : Nat => decide ((a * (y : Int)) % m = 1 % m)).getD 0 : Nat)
theorem inv_unique {a m y z : Int} (hg : Int.gcd a m = 1) (hy : invOk a m y) (hz : invOk a m z) : y = z := by
 have h1 : (a * y) % m = (a * z) % m := hy.2.trans hz.2.symm
 rw [Int.emod_eq_emod_iff_emod_sub_eq_zero] at h1
 have h2 : m ∣ a * (y - z) := by rw [Int.mul_sub]; exact Int.dvd_of_emod_eq_zero h1
 obtain ⟨t, ht⟩ := cop_dvd hg h2
 have h3 := hy.1; have h4 := hz.1
 have : t = 0 := by
  rcases Int.lt_trichotomy t 0 with h | h | h
  . have : m * t <= m * (-1) := Int.mul_le_mul_of_nonneg_left (by omega) (by omega)
    omega
  . exact h
  . have : m * 1 <= m * t := Int.mul_le_mul_of_nonneg_left (by omega) (by omega)
    omega
 subst this; omega
theorem invI_eq {a m y : Int} (hg : Int.gcd a m = 1) (h : invOk a m y) : invI a m = y := by
 obtain ⟨⟨h0, h1⟩, h2⟩ := h
 obtain ⟨n, rfl⟩ := Int.eq_ofNat_of_zero_le h0
 unfold invI
 cases hf : (List.range m.toNat).find? fun y : Nat => decide ((a * (y : Int)) % m = 1 % m) with
 | none =>
   have := List.find?_eq_none.1 hf n (List.mem_range.2 (by omega))
   exact absurd h2 (by simpa using this)
 | some z =>
   have h3 := List.find?_some hf
   have h4 := List.mem_range.1 (List.mem_of_find?_eq_some hf)
   exact inv_unique hg ⟨by dsimp only [Option.getD]; omega, by simpa using h3⟩ ⟨⟨h0, h1⟩, h2⟩
theorem inv_step {a m r s x y : Int} (h1 : m ∣ x * a - r) (h2 : m ∣ y * a - s) :
 m ∣ ((y + m - s / r % m * x % m) % m) * a - s % r := by
 have e1 : s % r = s - s / r * r := by have := Int.mul_ediv_add_emod s r; rw [Int.mul_comm] at this; omega
 have e2 : ((y + m - s / r % m * x % m) % m - (y - s / r * x)) % m = 0 := by
  rw [Int.emod_sub_emod, <- Int.emod_eq_emod_iff_emod_sub_eq_zero]
  have e3 : s / r % m * x % m = s / r * x % m := by rw [Int.mul_emod, Int.emod_emod_of_dvd _ (Int.dvd_refl m), <- Int.mul_emod]
  rw [e3]
  have e4 : y + m - s / r * x % m = (y - s / r * x % m) + m := by omega
  rw [e4, Int.add_emod_right, Int.sub_emod_emod]
 have e5 := Int.dvd_of_emod_eq_zero e2
 obtain ⟨p, hp⟩ := h1
 obtain ⟨q, hq⟩ := h2
 obtain ⟨t, ht⟩ := e5
 refine ⟨t * a + q - s / r * p, ?_⟩
 generalize (y + m - s / r % m * x % m) % m = n at *
 generalize s / r = k at *
 rw [e1]
 have : n = y - k * x + m * t := by omega
 subst this
 have hp' : x * a = r + m * p := by omega
 have hq' : y * a = s + m * q := by omega
 grind
theorem inv_end {a m y s : Int} (hs : s = 1) (h0 : 0 <= y /\ y < m) (h : m ∣ y * a - s) : invOk a m y := by
 subst hs
 refine ⟨h0, ?_⟩
 rw [Int.emod_eq_emod_iff_emod_sub_eq_zero, Int.mul_comm]
 exact Int.emod_eq_zero_of_dvd h
theorem inv_ex {a m : Int} : ∀ (r : Nat) (s x y : Int), m ∣ x * a - r -> m ∣ y * a - s -> 0 < s -> Int.gcd r s = 1 -> ∃ y, m ∣ y * a - 1
 | r, s, x, y, h1, h2, hs, hg => by
   rcases Nat.eq_zero_or_pos r with h | h
   . subst h
     have e : Int.gcd ((0 : Nat) : Int) s = s.natAbs := Int.zero_gcd
     rw [e] at hg
     exact ⟨y, by have : s = 1 := by omega
                  rw [<- this]; exact h2⟩
   . have hr : (0 : Int) < r := by omega
     have hb := Int.emod_nonneg s (show (r : Int) ≠ 0 by omega)
     have hl := Int.emod_lt_of_pos s hr
     have e : ((s % r).toNat : Int) = s % r := Int.toNat_of_nonneg hb
     refine inv_ex (s % r).toNat r _ x (by rw [e]; exact inv_step h1 h2) h1 hr ?_
     rw [e]
     obtain ⟨n, rfl⟩ := Int.eq_ofNat_of_zero_le (Int.le_of_lt hs)
     rw [<- Int.natCast_emod, Int.gcd_natCast_natCast, <- Nat.gcd_rec]
     rwa [Int.gcd_natCast_natCast] at hg
termination_by r => r
theorem gcd_quot {M N : Int} (hM : 0 < M) : Int.gcd (M / (Int.gcd M N : Int)) (N / (Int.gcd M N : Int)) = 1 := by
 have h := Int.gcd_ediv_gcd_ediv_gcd (i := M) (j := N) (Int.gcd_pos_of_ne_zero_left _ (by omega))
 exact h
section
variable {M N R S : Int} (hM : 0 < M) (hN : 0 < N)
def stepI (M N R S : Int) : Int := ((S - R) % N / (Int.gcd M N : Int)) % (N / (Int.gcd M N : Int)) * invI (M / (Int.gcd M N : Int)) (N / (Int.gcd M N : Int)) % (N / (Int.gcd M N : Int))
include hM hN
theorem quot_pos : 0 < N / (Int.gcd M N : Int) /\ 0 < M / (Int.gcd M N : Int) /\ 0 < (Int.gcd M N : Int) := by
 have hg : 0 < (Int.gcd M N : Int) := by have := Int.gcd_pos_of_ne_zero_left (a := M) N (by omega); omega
 exact ⟨Int.ediv_pos_of_pos_of_dvd hN (by omega) (Int.gcd_dvd_right ..), Int.ediv_pos_of_pos_of_dvd hM (by omega) (Int.gcd_dvd_left ..), hg⟩
theorem step_r : 0 <= stepI M N R S /\ stepI M N R S < N / (Int.gcd M N : Int) := by
 have h := quot_pos hM hN
 exact ⟨Int.emod_nonneg _ (by omega), Int.emod_lt_of_pos _ h.1⟩
theorem inv_has : invOk (M / (Int.gcd M N : Int)) (N / (Int.gcd M N : Int)) (invI (M / (Int.gcd M N : Int)) (N / (Int.gcd M N : Int))) := by
 have hp := quot_pos hM hN
 have hg := gcd_quot (N := N) hM
 generalize M / (Int.gcd M N : Int) = a at *
 generalize N / (Int.gcd M N : Int) = m at *
 obtain ⟨n, rfl⟩ := Int.eq_ofNat_of_zero_le (Int.le_of_lt hp.2.1)
 obtain ⟨y, hy⟩ := inv_ex (a := n) (m := m) n m 1 0 (by rw [Int.one_mul, Int.sub_self]; exact Int.dvd_zero m) (by rw [Int.zero_mul, Int.zero_sub]; exact Int.dvd_neg.2 (Int.dvd_refl m)) hp.1 hg
 have hk : invOk n m (y % m) := by
  refine inv_end rfl ⟨Int.emod_nonneg _ (by omega), Int.emod_lt_of_pos _ hp.1⟩ ?_
  have e : y % m * n - 1 = (y * n - 1) - m * (y / m * n) := by rw [Int.emod_def]; grind
  rw [e]; exact Int.dvd_sub hy (Int.dvd_mul_right ..)
 rw [invI_eq hg hk]; exact hk
theorem crt (hd : (Int.gcd M N : Int) ∣ S - R) : N ∣ R + M * stepI M N R S - S := by
 have hp := quot_pos hM hN
 have hi := (inv_has hM hN).2
 have eM : M = (Int.gcd M N : Int) * (M / (Int.gcd M N : Int)) := (Int.mul_ediv_cancel' (Int.gcd_dvd_left ..)).symm
 have eN : N = (Int.gcd M N : Int) * (N / (Int.gcd M N : Int)) := (Int.mul_ediv_cancel' (Int.gcd_dvd_right ..)).symm
 have h1 : (Int.gcd M N : Int) ∣ (S - R) % N := by
  rw [Int.emod_def]; exact Int.dvd_sub hd (Int.dvd_mul_of_dvd_left (Int.gcd_dvd_right ..))
 have e1 : (S - R) % N = (Int.gcd M N : Int) * ((S - R) % N / (Int.gcd M N : Int)) := (Int.mul_ediv_cancel' h1).symm
 have e2 : N ∣ (S - R) % N - (S - R) := by
  refine Int.dvd_of_emod_eq_zero ?_
  rw [Int.emod_sub_emod]; simp
 unfold stepI
 generalize invI (M / (Int.gcd M N : Int)) (N / (Int.gcd M N : Int)) = y at *
 generalize (S - R) % N / (Int.gcd M N : Int) = d at *
 generalize M / (Int.gcd M N : Int) = a at *
 generalize N / (Int.gcd M N : Int) = m at *
 generalize (Int.gcd M N : Int) = g at *
 have e3 : m ∣ a * (d % m * y % m) - d := by
  refine Int.dvd_of_emod_eq_zero ?_
  rw [<- Int.emod_eq_emod_iff_emod_sub_eq_zero]
  rw [Int.mul_emod, Int.emod_emod_of_dvd _ (Int.dvd_refl m), Int.mul_emod (d % m) y, Int.emod_emod_of_dvd _ (Int.dvd_refl m), <- Int.mul_emod d y, <- Int.mul_emod]
  rw [show a * (d * y) = (a * y) * d by grind, Int.mul_emod, hi, <- Int.mul_emod, Int.one_mul]
 obtain ⟨t, ht⟩ := e3
 obtain ⟨u, hu⟩ := e2
 rw [e1] at hu
 refine ⟨t + u, ?_⟩
 generalize d % m * y % m = k at *
 have : M * k = g * (a * k) := by rw [eM, Int.mul_assoc]
 have h5 : a * k = d + m * t := by omega
 rw [this, h5]
 have : N * (t + u) = g * m * t + N * u := by rw [Int.mul_add]; congr 1; rw [<- eN]
 rw [this]
 grind
theorem lcm_dvd' {z : Int} : (M * (N / (Int.gcd M N : Int)) ∣ z) ↔ (M ∣ z /\ N ∣ z) := by
 have hp := quot_pos hM hN
 have eM : M = (Int.gcd M N : Int) * (M / (Int.gcd M N : Int)) := (Int.mul_ediv_cancel' (Int.gcd_dvd_left ..)).symm
 have eN : N = (Int.gcd M N : Int) * (N / (Int.gcd M N : Int)) := (Int.mul_ediv_cancel' (Int.gcd_dvd_right ..)).symm
 constructor
 . intro h
   refine ⟨Int.dvd_trans (Int.dvd_mul_right ..) h, Int.dvd_trans ?_ h⟩
   have : M * (N / (Int.gcd M N : Int)) = N * (M / (Int.gcd M N : Int)) := by
    generalize M / (Int.gcd M N : Int) = a at *
    generalize N / (Int.gcd M N : Int) = m at *
    generalize (Int.gcd M N : Int) = g at *
    rw [eM, eN]; grind
   rw [this]; exact Int.dvd_mul_right ..
 . rintro ⟨⟨t, rfl⟩, h⟩
   have hq := gcd_quot (N := N) hM
   refine Int.mul_dvd_mul_left M ?_
   refine cop_dvd hq ?_
   generalize M / (Int.gcd M N : Int) = a at *
   generalize N / (Int.gcd M N : Int) = m at *
   generalize (Int.gcd M N : Int) = g at *
   obtain ⟨u, hu⟩ := h
   refine ⟨u, ?_⟩
   rw [eM, eN] at hu
   have : g * (a * t) = g * (m * u) := by rw [<- Int.mul_assoc, <- Int.mul_assoc]; exact hu
   exact Int.eq_of_mul_eq_mul_left (by omega) this
end
theorem dvd_shift {m a b n : Int} (h : m ∣ a - b) : (m ∣ n - a) ↔ (m ∣ n - b) :=
 ⟨fun q => by have := Int.dvd_add q h; rwa [show n - a + (a - b) = n - b by omega] at this, fun q => by have := Int.dvd_sub q h; rwa [show n - b - (a - b) = n - a by omega] at this⟩
theorem cg_has_dvd {c : Cg} (h : c.tidy) (hs : c.some = true) (n : Int) : c.has n = true ↔ c.m ∣ n - c.r := by
 rw [has_t h hs, decide_eq_true_eq]
 rcases h with rfl | ⟨_, hr⟩
 . cases hs
 . exact l3_md hr.1 hr.2
namespace Cg
abbrev gc (x y : Cg) : Int := (Int.gcd x.m y.m : Int)
abbrev lc (x y : Cg) : Int := x.m * (y.m / (Int.gcd x.m y.m : Int))
def meet0 (x y : Cg) : Cg :=
 if (!x.some || !y.some) = true then none
 else if x.m = 0 then (if y.has x.r = true then x else none)
 else if y.m = 0 then (if x.has y.r = true then y else none)
 else if apartI x.r y.r % gc x y = 0 then
  (if wIntB (lc x y) = true then of (lc x y) (x.r + x.m * stepI x.m y.m x.r y.r) else if y.m > x.m then y else x)
 else none
def meet (a b : Cg) : Cg := meet0 a.clean b.clean
def fits (x y : Cg) : Bool := !(decide (0 < x.m) && decide (0 < y.m)) || wIntB (lc x y)
end Cg
theorem apart_iff {g a b : Int} : (apartI a b % g = 0) ↔ g ∣ b - a := by
 rw [<- Int.dvd_iff_emod_eq_zero]
 unfold apartI
 split
 . rw [<- Int.neg_sub, Int.dvd_neg]
 . exact Iff.rfl
theorem meet_law {x y : Cg} (hx : x.tidy) (hy : y.tidy) : (Cg.meet0 x y).tidy /\ (∀ n, x.has n = true -> y.has n = true -> (Cg.meet0 x y).has n = true) /\ (x.fits y = true -> ∀ n, (Cg.meet0 x y).has n = true -> x.has n = true /\ y.has n = true) /\ (x.inR -> y.inR -> (Cg.meet0 x y).inR) := by
 have hn : ∀ n, Cg.none.has n = true -> False := fun n h => by cases h
 have t0 : Cg.none.tidy := .inl rfl
 have i0 : Cg.none.inR := by unfold Cg.none Cg.inR; dsimp only; omega
 rcases hx with rfl | ⟨hxs, hxr⟩
 . have e : Cg.meet0 Cg.none y = Cg.none := by unfold Cg.meet0; rw [if_pos (by rfl)]
   rw [e]; exact ⟨t0, fun n h => (hn n h).elim, fun _ n h => (hn n h).elim, fun _ _ => i0⟩
 rcases hy with rfl | ⟨hys, hyr⟩
 . have e : Cg.meet0 x Cg.none = Cg.none := by unfold Cg.meet0; rw [if_pos (by rw [hxs]; rfl)]
   rw [e]; exact ⟨t0, fun n _ h => (hn n h).elim, fun _ n h => (hn n h).elim, fun _ _ => i0⟩
 have tx : x.tidy := .inr ⟨hxs, hxr⟩
 have ty : y.tidy := .inr ⟨hys, hyr⟩
 have X := cg_has_dvd tx hxs
 have Y := cg_has_dvd ty hys
 unfold Cg.meet0
 rw [if_neg (by rw [hxs, hys]; decide)]
 by_cases zx : x.m = 0
 . rw [if_pos zx]
   have k : ∀ n, x.has n = true -> n = x.r := fun n h => by have := (X n).1 h; rw [zx, Int.zero_dvd] at this; omega
   by_cases h : y.has x.r = true
   . rw [if_pos h]
     exact ⟨tx, fun n h1 _ => h1, fun _ n h1 => ⟨h1, by rw [k n h1]; exact h⟩, fun h _ => h⟩
   . rw [if_neg h]
     exact ⟨t0, fun n h1 h2 => absurd (by rw [<- k n h1]; exact h2) h, fun _ n h1 => (hn n h1).elim, fun _ _ => i0⟩
 rw [if_neg zx]
 by_cases zy : y.m = 0
 . rw [if_pos zy]
   have k : ∀ n, y.has n = true -> n = y.r := fun n h => by have := (Y n).1 h; rw [zy, Int.zero_dvd] at this; omega
   by_cases h : x.has y.r = true
   . rw [if_pos h]
     exact ⟨ty, fun n _ h1 => h1, fun _ n h1 => ⟨by rw [k n h1]; exact h, h1⟩, fun _ h => h⟩
   . rw [if_neg h]
     exact ⟨t0, fun n h1 h2 => absurd (by rw [<- k n h2]; exact h1) h, fun _ n h1 => (hn n h1).elim, fun _ _ => i0⟩
 rw [if_neg zy]
 have px : 0 < x.m := by have := hxr.1; omega
 have py : 0 < y.m := by have := hyr.1; omega
 have hq := quot_pos px py
 have bx := hxr.2 px
 by_cases hd : apartI x.r y.r % Cg.gc x y = 0
 . rw [if_pos hd]
   have hc := crt px py (apart_iff.1 hd)
   by_cases hw : wIntB (Cg.lc x y) = true
   . rw [if_pos hw]
     have hL : 0 < Cg.lc x y := Int.mul_pos px hq.1
     have hL2 : ∀ {z : Int}, Cg.lc x y ∣ z ↔ (x.m ∣ z /\ y.m ∣ z) := fun {z} => lcm_dvd' px py
     have hs := step_r (M := x.m) (N := y.m) (R := x.r) (S := y.r) px py
     have hb : x.m * stepI x.m y.m x.r y.r <= Cg.lc x y - x.m := by
      have h1 : x.m * stepI x.m y.m x.r y.r <= x.m * (y.m / (Int.gcd x.m y.m : Int) - 1) := Int.mul_le_mul_of_nonneg_left (by omega) (by omega)
      rw [Int.mul_sub, Int.mul_one] at h1; exact h1
     have hb0 : 0 <= x.m * stepI x.m y.m x.r y.r := Int.mul_nonneg (by omega) hs.1
     have hwr : -9223372036854775808 <= Cg.lc x y /\ Cg.lc x y < 9223372036854775808 := by unfold wIntB at hw; exact of_decide_eq_true hw
     generalize Cg.lc x y = L at *
     have h1 : x.m ∣ x.r + x.m * stepI x.m y.m x.r y.r - x.r := ⟨stepI x.m y.m x.r y.r, by omega⟩
     generalize x.m * stepI x.m y.m x.r y.r = k at *
     have eo : Cg.of L (x.r + k) = ⟨true, L, md (x.r + k) L⟩ := by unfold Cg.of; rw [if_neg (by omega)]
     have to : (Cg.of L (x.r + k)).tidy := by
      rw [eo]; right; refine ⟨rfl, ?_⟩; unfold Cg.red; dsimp only; exact ⟨by omega, fun h => md_bound _ _ h⟩
     have e1 : md (x.r + k) L = x.r + k := by unfold md; rw [if_neg (by omega)]; exact Int.emod_eq_of_lt (by omega) (by omega)
     have O : ∀ n, (Cg.of L (x.r + k)).has n = true ↔ (x.has n = true /\ y.has n = true) := by
      intro n
      rw [cg_has_dvd to (by rw [eo]), X, Y, eo]
      dsimp only
      rw [e1, hL2, dvd_shift h1, dvd_shift hc]
     exact ⟨to, fun n h1 h2 => (O n).2 ⟨h1, h2⟩, fun _ n h => (O n).1 h, fun _ _ => Cg.of_inR _ _ hwr.1 hwr.2 (by omega) (by omega)⟩
   . rw [if_neg hw]
     have hf : ¬ x.fits y = true := by
      intro h; unfold Cg.fits at h; rw [decide_eq_true px, decide_eq_true py] at h
      exact hw (by simpa using h)
     split
     . exact ⟨ty, fun n _ h => h, fun h => absurd h hf, fun _ h => h⟩
     . exact ⟨tx, fun n h _ => h, fun h => absurd h hf, fun h _ => h⟩
 . rw [if_neg hd]
   refine ⟨t0, fun n h1 h2 => ?_, fun _ n h1 => (hn n h1).elim, fun _ _ => i0⟩
   refine absurd (apart_iff.2 ?_) hd
   have g1 : Cg.gc x y ∣ n - x.r := Int.dvd_trans (Int.gcd_dvd_left ..) ((X n).1 h1)
   have g2 : Cg.gc x y ∣ n - y.r := Int.dvd_trans (Int.gcd_dvd_right ..) ((Y n).1 h2)
   have := Int.dvd_sub g1 g2
   rwa [show n - x.r - (n - y.r) = y.r - x.r by omega] at this
def Vl.meetF (a b : Vl) : Vl := ⟨⟨a.of.i.s.meet b.of.i.s, Cg.meet a.of.i.c b.of.i.c⟩, ⟨a.t.null && b.t.null, ofS (meetS (ofS a.t.names) (ofS b.t.names))⟩⟩
def Vl.meet (a b : Vl) : Vl := (Vl.meetF a b).reduce
theorem cmeet_of (a b : Vl) : Cg.meet a.of.i.c b.of.i.c = Cg.meet0 a.of.i.c b.of.i.c := by
 unfold Cg.meet; rw [Cg.tidy_fix (tidy_c (Vl.of_tidy a).i), Cg.tidy_fix (tidy_c (Vl.of_tidy b).i)]
theorem Sp.meet_has (a b : Sp) (n : Int) : (a.meet b).has n = (a.has n && b.has n) := by grind [Sp.meet, Sp.has, Sp.none, Sp.of]
theorem hasInt_of (v : Vl) (n : Int) : v.of.hasInt n = v.hasInt n := by unfold Vl.hasInt; rw [of_rclean]; exact has_clean n
theorem meetF_inR {a b : Vl} (ha : a.inR) (hb : b.inR) : (Vl.meetF a b).inR := by
 have h1 := Vl.of_inR ha
 have h2 := Vl.of_inR hb
 refine ⟨Sp.meet_inR h1.1 h2.1, ?_⟩
 show (Cg.meet _ _).inR
 rw [cmeet_of]
 exact (meet_law (tidy_c (Vl.of_tidy a).i) (tidy_c (Vl.of_tidy b).i)).2.2.2 h1.2 h2.2
theorem meet_hasInt {a b : Vl} {n : Int} (ha : a.inR) (hb : b.inR) (hn : -9223372036854775808 <= n /\ n < 9223372036854775808) : (Vl.meet a b).hasInt n = (Vl.meetF a b).hasInt n := by
 have h := meetF_inR ha hb
 exact v3 h.1 h.2 hn
theorem mt_sound {a b : Vl} {n : Int} (ha : a.inR) (hb : b.inR) (hn : -9223372036854775808 <= n /\ n < 9223372036854775808) (h1 : a.hasInt n = true) (h2 : b.hasInt n = true) : (Vl.meet a b).hasInt n = true := by
 rw [meet_hasInt ha hb hn]
 rw [<- hasInt_of] at h1 h2
 unfold Vl.hasInt at *
 unfold Vl.meetF
 rw [Bool.and_eq_true] at *
 dsimp only
 rw [Sp.meet_has, h1.1, h2.1, cmeet_of]
 exact ⟨rfl, (meet_law (tidy_c (Vl.of_tidy a).i) (tidy_c (Vl.of_tidy b).i)).2.1 n h1.2 h2.2⟩
theorem mt_exact {a b : Vl} {n : Int} (ha : a.inR) (hb : b.inR) (hn : -9223372036854775808 <= n /\ n < 9223372036854775808) (hf : a.of.i.c.fits b.of.i.c = true) : (Vl.meet a b).hasInt n = (a.hasInt n && b.hasInt n) := by
 cases h : (a.hasInt n && b.hasInt n) with
 | true => rw [Bool.and_eq_true] at h; exact mt_sound ha hb hn h.1 h.2
 | false =>
   cases h3 : (Vl.meet a b).hasInt n with
   | false => rfl
   | true =>
     rw [meet_hasInt ha hb hn] at h3
     unfold Vl.hasInt Vl.meetF at h3
     rw [Bool.and_eq_true] at h3
     dsimp only at h3
     rw [Sp.meet_has, cmeet_of, Bool.and_eq_true] at h3
     have := (meet_law (tidy_c (Vl.of_tidy a).i) (tidy_c (Vl.of_tidy b).i)).2.2.1 hf n h3.2
     rw [<- hasInt_of a, <- hasInt_of b] at h
     unfold Vl.hasInt at h
     rw [h3.1.1, h3.1.2, this.1, this.2] at h
     cases h
theorem sp_leq_has {a b : Sp} {n : Int} (h : a.leq b = true) (h1 : a.has n = true) : b.has n = true := by grind [Sp.leq, Sp.has, Sp.none]
theorem cg_leq_has {a b : Cg} {n : Int} (ha : a.tidy) (hb : b.tidy) (h : a.leq b = true) (h1 : a.has n = true) : b.has n = true := by
 have hs : a.some = true := by
  cases h2 : a.some with
  | true => rfl
  | false => rcases ha with rfl | ⟨h3, _⟩
             . cases h1
             . rw [h2] at h3; cases h3
 obtain ⟨k1, k2, k3⟩ := (Cg.leq_iff ha hb).1 h hs
 rw [cg_has_dvd hb k1]
 rw [cg_has_dvd ha hs] at h1
 exact (dvd_shift k3).1 (Int.dvd_trans k2 h1)
theorem leq_hasInt {a b : Vl} {n : Int} (h : Vl.leq a b = true) (h1 : a.hasInt n = true) : b.hasInt n = true := by
 rw [<- Vl.leq_of, Vl.leq_iff (Vl.of_tidy a) (Vl.of_tidy b)] at h
 rw [<- hasInt_of] at h1 ⊢
 unfold Vl.hasInt at *
 rw [Bool.and_eq_true] at *
 exact ⟨sp_leq_has h.1 h1.1, cg_leq_has (tidy_c (Vl.of_tidy a).i) (tidy_c (Vl.of_tidy b).i) h.2.1 h1.2⟩
theorem jn_sound {a b : Vl} {n : Int} (h : (a.hasInt n || b.hasInt n) = true) : (Vl.join a b).hasInt n = true := by
 rw [Bool.or_eq_true] at h
 rcases h with h | h
 . exact leq_hasInt (Vl.l3_join1 a b) h
 . exact leq_hasInt (Vl.l3_join2 a b) h
theorem hasS_or {b c : Bool} {l m k : List ByteArray} {x : ByteArray} (h : ∀ z, z ∈ k ↔ z ∈ l \/ z ∈ m) : hasS (b || c) k x = (hasS b l x || hasS c m x) := by
 unfold hasS; split
 . rfl
 . rw [Bool.eq_iff_iff, Bool.or_eq_true, memS_iff, memS_iff, memS_iff]; exact h x
theorem hasS_and {b c : Bool} {l m k : List ByteArray} {x : ByteArray} (h : ∀ z, z ∈ k ↔ z ∈ l /\ z ∈ m) : hasS (b && c) k x = (hasS b l x && hasS c m x) := by
 unfold hasS; split
 . rfl
 . rw [Bool.eq_iff_iff, Bool.and_eq_true, memS_iff, memS_iff, memS_iff]; exact h x
theorem jn_ptr (a b : Vl) (x : ByteArray) : hasS (Vl.join a b).t.null (Vl.join a b).t.names x = (hasS a.t.null a.t.names x || hasS b.t.null b.t.names x) :=
 hasS_or fun z => by show z ∈ ofS (ofS a.t.names ++ ofS b.t.names) ↔ _; rw [mem_ofS, List.mem_append, mem_ofS, mem_ofS]
theorem mt_ptr (a b : Vl) (x : ByteArray) : hasS (Vl.meet a b).t.null (Vl.meet a b).t.names x = (hasS a.t.null a.t.names x && hasS b.t.null b.t.names x) := by
 refine hasS_and (c := b.t.null) fun z => ?_
 show z ∈ ofS (ofS (meetS (ofS a.t.names) (ofS b.t.names))) ↔ _
 rw [mem_ofS, mem_ofS]; unfold meetS; rw [List.mem_filter, memS_iff, mem_ofS, mem_ofS]
theorem l3_wid {a b : Vl} {l : List Int} (hb : b.inR) : Vl.leq (Vl.join a b) (Vl.widen a b l) = true := Vl.l3_widen hb
theorem nar_1 (a b : Vl) : Vl.leq b (Vl.narrow (Vl.join a b) b) = true := Vl.l3_narrow1 (Vl.l3_join2 a b)
theorem nar_2 (a b : Vl) : Vl.leq (Vl.narrow (Vl.join a b) b) (Vl.join a b) = true := Vl.l3_narrow2 _ _
structure Iv (a m r s x y : Int) : Prop where
 r0 : 0 <= r
 rm : r < m
 s0 : 0 < s
 sm : s <= m
 x0 : 0 <= x /\ x < m
 y0 : 0 <= y /\ y < m
 g : Int.gcd r s = 1
 dx : m ∣ x * a - r
 dy : m ∣ y * a - s
theorem iv_start {a m : Int} (ha : 0 <= a) (hm : 0 < m) (hg : Int.gcd a m = 1) : Iv a m (a % m) m (1 % m) 0 := by
 have b1 := Int.emod_nonneg a (show m ≠ 0 by omega)
 have b3 := Int.emod_nonneg 1 (show m ≠ 0 by omega)
 have b4 := Int.emod_lt_of_pos 1 hm
 refine ⟨b1, Int.emod_lt_of_pos a hm, hm, Int.le_refl _, ⟨b3, b4⟩, ⟨Int.le_refl _, hm⟩, ?_, ?_, ?_⟩
 . obtain ⟨x, rfl⟩ := Int.eq_ofNat_of_zero_le ha
   obtain ⟨y, rfl⟩ := Int.eq_ofNat_of_zero_le (Int.le_of_lt hm)
   rw [<- Int.natCast_emod, Int.gcd_natCast_natCast]
   rw [Int.gcd_natCast_natCast] at hg
   rw [<- Nat.gcd_rec, Nat.gcd_comm]; exact hg
 . have e : 1 % m * a - a % m = (a - a % m) - (1 - 1 % m) * a := by rw [Int.sub_mul]; omega
   rw [e]
   exact Int.dvd_sub (Int.dvd_self_sub_emod) (Int.dvd_mul_of_dvd_left Int.dvd_self_sub_emod)
 . rw [Int.zero_mul, Int.zero_sub]; exact Int.dvd_neg.2 (Int.dvd_refl m)
theorem iv_step {a m r s x y : Int} (h : Iv a m r s x y) (hr : r ≠ 0) : Iv a m (s % r) r ((y + m - s / r % m * x % m) % m) x /\ (s % r) < r := by
 have h0 := h.r0
 have h1 := h.s0
 have h2 := h.rm
 have hm : 0 < m := by omega
 have b1 := Int.emod_nonneg s hr
 have b2 := Int.emod_lt_of_pos s (show 0 < r by omega)
 refine ⟨⟨b1, by omega, by omega, by omega, ⟨Int.emod_nonneg _ (by omega), Int.emod_lt_of_pos _ hm⟩, h.x0, ?_, inv_step h.dx h.dy, h.dx⟩, b2⟩
 have hg := h.g
 obtain ⟨n, rfl⟩ := Int.eq_ofNat_of_zero_le h0
 obtain ⟨k, rfl⟩ := Int.eq_ofNat_of_zero_le (Int.le_of_lt h1)
 rw [<- Int.natCast_emod, Int.gcd_natCast_natCast, <- Nat.gcd_rec]
 rwa [Int.gcd_natCast_natCast] at hg
theorem iv_prog {a m r s x y : Int} (h : Iv a m r s x y) (hr : r ≠ 0) (hm : m < 9223372036854775808) : (0 <= (IntKind.wrap .u64 (s.tdiv r)).tmod m /\ (IntKind.wrap .u64 (s.tdiv r)).tmod m < m) /\ s.tmod r = s % r /\ (IntKind.wrap .u64 (IntKind.wrap .u64 (y + m) - (IntKind.wrap .u64 (s.tdiv r)).tmod m * x % m)).tmod m = (y + m - s / r % m * x % m) % m := by
 have h0 := h.r0
 have h1 := h.s0
 have h2 := h.rm
 have h3 := h.sm
 have h4 := h.y0
 have hp : 0 < m := by omega
 have hs : 0 <= s := by omega
 have q0 := Int.ediv_nonneg hs h0
 have q1 : s / r <= s := Int.ediv_le_self _ hs
 have e1 : IntKind.wrap .u64 (s.tdiv r) = s / r := by rw [Int.tdiv_eq_ediv_of_nonneg hs, wU_id _ q0 (by omega)]
 have e2 : (s / r).tmod m = s / r % m := Int.tmod_eq_emod_of_nonneg q0
 rw [e1, e2]
 have t0 := Int.emod_nonneg (s / r % m * x) (show m ≠ 0 by omega)
 have t1 := Int.emod_lt_of_pos (s / r % m * x) hp
 refine ⟨⟨Int.emod_nonneg _ (by omega), Int.emod_lt_of_pos _ hp⟩, Int.tmod_eq_emod_of_nonneg hs, ?_⟩
 generalize s / r % m * x % m = t at *
 rw [wU_id (y + m) (by omega) (by omega), wU_id (y + m - t) (by omega) (by omega), Int.tmod_eq_emod_of_nonneg (by omega)]
theorem iv_end {a m s x y : Int} (h : Iv a m 0 s x y) (hg : Int.gcd a m = 1) : invI a m = y := by
 have e : s = 1 := by have := h.g; rw [Int.zero_gcd] at this; have := h.s0; omega
 exact invI_eq hg (inv_end e h.y0 h.dy)
def FCInv : List Ar -> Option Rs
 | [.c (.d (.v (.int .u64 u0))), .c (.d (.v (.int .u64 u1)))] => some ⟨(0 <= u0 /\ u0 < 18446744073709551616) /\ (0 <= u1 /\ u1 < 18446744073709551616) /\ ((0 < u1 /\ u1 < 9223372036854775808) /\ Int.gcd u0 u1 = 1), .va (.c (.d (ut (invI u0 u1)))), []⟩
 | _ => none
theorem fcCInv : FC Tryz.prog 136 FCInv := by
 intro xs pre r us h hp
 unfold FCInv at h
 split at h
 . rename_i u0 u1
   cases h
   obtain ⟨hp0, hp1, hp2⟩ := hp
   refine fcat tys_ok (l := [(135, ⟨[], FCTimes⟩)]) ⟨fcCTimes, trivial⟩ Tryz.func136 rfl (by kernel_rfl) false ?_
   have hst := iv_start hp0.1 hp2.1.1 hp2.2
   have t1 : u0.tmod u1 = u0 % u1 := Int.tmod_eq_emod_of_nonneg hp0.1
   have t2 : (1 : Int).tmod u1 = 1 % u1 := Int.tmod_eq_emod_of_nonneg (by decide)
   obtain ⟨⟨hm0, hm1⟩, hg⟩ := hp2
   repeat' (first | exact trivial | refine ⟨?_, ?_⟩ | intro _)
   all_goals first | (with_reducible first | apply qa | apply qb | apply qc | apply qd) | (conv => whnf)
   refine scope_ok tys_ok (ls := [(135, ⟨[], FCTimes⟩)]) ⟨fcCTimes, trivial⟩ (by kernel_rfl) 0 rfl (X := Int × Int × Int × Int) (fun x => ⟨[(5, vx (.int .u64 x.1)), (6, vx (.int .u64 x.2.1)), (7, vx (.int .u64 x.2.2.1)), (8, vx (.int .u64 x.2.2.2)), (1, vx (.int .u64 u1))], [], 0, 41⟩) (fun x => x.1.toNat)
    (fun x => Iv u0 u1 x.1 x.2.1 x.2.2.1 x.2.2.2) [5, 6, 7, 8] [] (fun xs _ => match xs with | [a, b, c, d] => (iT a, iT b, iT c, iT d) | _ => (0, 0, 0, 0)) (fun _ xs _ => match xs with | [a, b, c, d] => (iT a, iT b, iT c, iT d) | _ => (0, 0, 0, 0)) [] [] 0 0 ?_ ?_
   . repeat' (first | exact trivial | refine ⟨?_, ?_⟩ | intro _)
     all_goals first | (with_reducible first | apply qa | apply qb | apply qc | apply qd) | (conv => whnf)
     all_goals (try simp only [iT, beq_iff_eq, beq_eq_false_iff_ne, ne_eq] at *)
     all_goals (try simp only [t1, t2] at *)
     all_goals first | omega | ((with_reducible show idsOk _ _ = true); rfl) | rfl | skip
     all_goals first | (have hz : u0 % u1 = 0 := (by assumption); rw [hz] at hst; exact congrArg (Value.int .u64) (iv_end hst hg).symm) | (have b3 := hst.x0; first | omega | (obtain ⟨p1, p2, p3⟩ := iv_prog hst (by assumption) hm1; have p4 := iv_step hst (by assumption); first | omega | exact p1.1 | exact p1.2 | (rw [p2, p3]; exact p4.1) | (rw [p2]; omega)))
   . rintro ⟨r, s, x, y⟩ hi
     change Iv u0 u1 r s x y at hi
     have hr0 := hi.r0
     have hrm := hi.rm
     have hs0 := hi.s0
     have hsm := hi.sm
     have hx0 := hi.x0
     have hy0 := hi.y0
     repeat' (first | exact trivial | refine ⟨?_, ?_⟩ | intro _)
     all_goals first | (with_reducible first | apply qa | apply qb | apply qc | apply qd) | (conv => whnf)
     all_goals (try simp only [iT, beq_iff_eq, beq_eq_false_iff_ne, ne_eq] at *)
     all_goals first | omega | ((with_reducible show idsOk _ _ = true); rfl) | rfl | skip
     all_goals first | (have hz : r = 0 := (by assumption); subst hz; exact congrArg (Value.int .u64) (iv_end hi hg).symm) | (obtain ⟨p1, p2, p3⟩ := iv_prog hi (by assumption) hm1; have p4 := iv_step hi (by assumption); first | omega | exact p1.1 | exact p1.2 | (rw [p2, p3]; exact p4.1) | (rw [p2]; omega))
 . cases h
structure Bt (m0 r0 m1 r1 G : Int) : Prop where
 e : G = (Int.gcd m0 m1 : Int)
 p0 : 0 < m0
 p1 : 0 < m1
 a : 0 <= r0 /\ r0 < m0
 b : 0 <= r1 /\ r1 < m1
 h0 : m0 < 9223372036854775808
 h1 : m1 < 9223372036854775808
 l : m0 * (m1 / G) < 9223372036854775808
theorem bt_facts {m0 r0 m1 r1 G : Int} (h : Bt m0 r0 m1 r1 G) :
 (0 < G /\ G <= m0 /\ G <= m1) /\ (0 < m1 / G /\ m1 / G <= m1) /\ (0 < m0 / G /\ m0 / G <= m0) /\ Int.gcd (m0 / G) (m1 / G) = 1 /\ md (IntKind.wrap .i64 (r1 - md r0 m1)) m1 = (r1 - r0) % m1 /\ (0 <= md r0 m1 /\ md r0 m1 < m1) /\ (0 <= (r1 - r0) % m1 /\ (r1 - r0) % m1 < m1) /\ IntKind.wrap .u64 m0 = m0 /\ IntKind.wrap .u64 m1 = m1 /\ IntKind.wrap .u64 (m1.tdiv G) = m1 / G /\ IntKind.wrap .u64 (m0.tdiv G) = m0 / G /\ IntKind.wrap .u64 ((r1 - r0) % m1) = (r1 - r0) % m1 /\ IntKind.wrap .u64 (((r1 - r0) % m1).tdiv G) = (r1 - r0) % m1 / G /\ ((r1 - r0) % m1 / G).tmod (m1 / G) = (r1 - r0) % m1 / G % (m1 / G) /\ (0 <= (r1 - r0) % m1 / G % (m1 / G) /\ (r1 - r0) % m1 / G % (m1 / G) < m1 / G) := by
 obtain ⟨e, p0, p1, a, b, h0, h1, l⟩ := h
 have q := quot_pos p0 p1
 have gq := gcd_quot (N := m1) p0
 rw [<- e] at q gq
 have g0 : G <= m0 := by rw [e]; exact Int.le_of_dvd p0 (Int.gcd_dvd_left ..)
 have g1 : G <= m1 := by rw [e]; exact Int.le_of_dvd p1 (Int.gcd_dvd_right ..)
 have d0 : m0 / G <= m0 := Int.ediv_le_self _ (by omega)
 have d1 : m1 / G <= m1 := Int.ediv_le_self _ (by omega)
 have k1 := md_bound r0 m1 p1
 have k2 : IntKind.wrap .i64 (r1 - md r0 m1) = r1 - md r0 m1 := wI_id _ (by omega) (by omega)
 have k3 := sub_md r1 r0 m1 p1
 have k4 := Int.emod_nonneg (r1 - r0) (show m1 ≠ 0 by omega)
 have k5 := Int.emod_lt_of_pos (r1 - r0) p1
 have k6 : 0 <= (r1 - r0) % m1 / G := Int.ediv_nonneg k4 (by omega)
 have k7 : (r1 - r0) % m1 / G <= (r1 - r0) % m1 := Int.ediv_le_self _ k4
 refine ⟨⟨q.2.2, g0, g1⟩, ⟨q.1, d1⟩, ⟨q.2.1, d0⟩, gq, by rw [k2]; exact k3, k1, ⟨k4, k5⟩, wU_id _ (by omega) (by omega), wU_id _ (by omega) (by omega), ?_, ?_, wU_id _ (by omega) (by omega), ?_, Int.tmod_eq_emod_of_nonneg k6, Int.emod_nonneg _ (by omega), Int.emod_lt_of_pos _ q.1⟩
 . rw [Int.tdiv_eq_ediv_of_nonneg (by omega), wU_id _ (by omega) (by omega)]
 . rw [Int.tdiv_eq_ediv_of_nonneg (by omega), wU_id _ (by omega) (by omega)]
 . rw [Int.tdiv_eq_ediv_of_nonneg k4, wU_id _ k6 (by omega)]
theorem bt_end {m0 r0 m1 r1 G : Int} (h : Bt m0 r0 m1 r1 G) : (0 <= stepI m0 m1 r0 r1 /\ stepI m0 m1 r0 r1 < 9223372036854775808) /\ (Wd.val (wd (Wd.val (wd r0) + Wd.val (wd (m0 * stepI m0 m1 r0 r1)))) + 9223372036854775808) % 18446744073709551616 - 9223372036854775808 = r0 + m0 * stepI m0 m1 r0 r1 := by
 have f := bt_facts h
 obtain ⟨e, p0, p1, a, b, h0, h1, l⟩ := h
 have s := step_r (R := r0) (S := r1) p0 p1
 rw [<- e] at s
 have k1 : m0 * stepI m0 m1 r0 r1 <= m0 * (m1 / G - 1) := Int.mul_le_mul_of_nonneg_left (by omega) (by omega)
 have k2 : 0 <= m0 * stepI m0 m1 r0 r1 := Int.mul_nonneg (by omega) s.1
 rw [Int.mul_sub, Int.mul_one] at k1
 refine ⟨⟨s.1, by omega⟩, ?_⟩
 generalize m0 * stepI m0 m1 r0 r1 = p at *
 generalize m0 * (m1 / G) = q at *
 rw [wd_val (v := r0) (by omega) (by omega), wd_val (v := p) (by omega) (by omega), wd_val (v := r0 + p) (by omega) (by omega)]
 omega
theorem bt_rng {m0 r0 m1 r1 G : Int} (h : Bt m0 r0 m1 r1 G) : 0 <= r0 + m0 * stepI m0 m1 r0 r1 /\ r0 + m0 * stepI m0 m1 r0 r1 < 9223372036854775808 := by
 obtain ⟨e, p0, p1, a, b, h0, h1, l⟩ := h
 have s := step_r (R := r0) (S := r1) p0 p1
 rw [<- e] at s
 have k1 : m0 * stepI m0 m1 r0 r1 <= m0 * (m1 / G - 1) := Int.mul_le_mul_of_nonneg_left (by omega) (by omega)
 have k2 : 0 <= m0 * stepI m0 m1 r0 r1 := Int.mul_nonneg (by omega) s.1
 rw [Int.mul_sub, Int.mul_one] at k1
 omega
theorem invI_r {a m : Int} (h : invOk a m (invI a m)) : 0 <= invI a m /\ invI a m < m := h.1
theorem step_eq {m0 r0 m1 r1 G : Int} (e : G = (Int.gcd m0 m1 : Int)) : (r1 - r0) % m1 / G % (m1 / G) * invI (m0 / G) (m1 / G) % (m1 / G) = stepI m0 m1 r0 r1 := by subst e; rfl
def FCBoth : List Ar -> Option Rs
 | [.agg [.d (.v (.bool b0)), .d (.v (.int .i64 m0)), .d (.v (.int .i64 r0))], .agg [.d (.v (.bool b1)), .d (.v (.int .i64 m1)), .d (.v (.int .i64 r1))], .c (.d (.v (.int .u64 u2)))] => some ⟨(Cg.inR ⟨b0, m0, r0⟩) /\ (Cg.inR ⟨b1, m1, r1⟩) /\ (0 <= u2 /\ u2 < 18446744073709551616) /\ (Bt m0 r0 m1 r1 u2), .va (.c (.d (it (r0 + m0 * stepI m0 m1 r0 r1)))), []⟩
 | _ => none
theorem fcCBoth : FC Tryz.prog 96 FCBoth := by
 intro xs pre r us h hp
 unfold FCBoth at h
 split at h
 . rename_i b0 m0 r0 b1 m1 r1 u2
   cases h
   obtain ⟨hp0, hp1, hp2, hp3⟩ := hp
   refine fcat tys_ok (l := [(100, ⟨[], FCMod⟩), (136, ⟨[], FCInv⟩), (135, ⟨[], FCTimes⟩), (122, ⟨[], FWOf⟩), (95, ⟨[], FWMul⟩), (137, ⟨[], FWAdd⟩), (132, ⟨[], FWLow⟩)]) ⟨fcCMod, fcCInv, fcCTimes, fcWOf, fcWMul, fcWAdd, fcWLow, trivial⟩ Tryz.func96 rfl (by kernel_rfl) false ?_
   have hb := hp3
   obtain ⟨f1, f2, f3, f4, f5, f6, f7, f8, f9, f10, f11, f12, f13, f14, f15⟩ := bt_facts hb
   obtain ⟨z1, z2⟩ := bt_end hb
   have zw : IntKind.wrap .i64 (stepI m0 m1 r0 r1) = stepI m0 m1 r0 r1 := wI_id _ (by omega) z1.2
   have be := hb.e
   have q0 := hb.p0
   have q1 := hb.p1
   have hqa := hb.a
   have hqb := hb.b
   have q2 := hb.h0
   have q3 := hb.h1
   have gU := invI_r (a := m0 / u2) (m := m1 / u2) (by rw [be]; exact inv_has q0 q1)
   repeat' (first | exact trivial | refine ⟨?_, ?_⟩ | intro _)
   all_goals first | (with_reducible first | apply qa | apply qb | apply qc | apply qd) | (conv => whnf)
   all_goals (try simp only [f5, f8, f9, f10, f11, f12, f13, f14, step_eq be, zw])
   all_goals first | omega | (rw [wI]; omega) | exact f4 | exact f15.1 | exact f15.2 | (exfalso; have q := ‹(_ : Int) = 0›; (try simp only [f5, f8, f9, f10, f11, f12, f13, f14] at q); omega) | exact congrArg (Value.int .i64) z2 | exact wd_ok _ | exact (wd_ok _).1.1 | exact (wd_ok _).1.2 | exact (wd_ok _).2.1 | exact (wd_ok _).2.2
 . cases h
section
variable {a b : Cg}
theorem me_1 (h : (!a.clean.some) = true) : Cg.meet a b = Cg.none := by
 unfold Cg.meet Cg.meet0; rw [h]; rfl
theorem me_2 (ha : (!a.clean.some) = false) (h : (!b.clean.some) = true) : Cg.meet a b = Cg.none := by
 unfold Cg.meet Cg.meet0; rw [h, ha]; rfl
theorem me_s (ha : (!a.clean.some) = false) (hb : (!b.clean.some) = false) : ¬ ((!a.clean.some || !b.clean.some) = true) := by rw [ha, hb]; decide
variable (ha : (!a.clean.some) = false) (hb : (!b.clean.some) = false)
include ha hb
theorem me_3 (zx : (a.clean.m == 0) = true) (h : (!Cg.has b.clean a.clean.r) = true) : Cg.meet a b = Cg.none := by
 unfold Cg.meet Cg.meet0; rw [if_neg (me_s ha hb), if_pos (by simpa using zx), if_neg (by simpa using h)]
theorem me_4 (zx : (a.clean.m == 0) = true) (h : (!Cg.has b.clean a.clean.r) = false) : Cg.meet a b = a.clean := by
 unfold Cg.meet Cg.meet0; rw [if_neg (me_s ha hb), if_pos (by simpa using zx), if_pos (by simpa using h)]
theorem me_5 (zx : (a.clean.m == 0) = false) (zy : (b.clean.m == 0) = true) (h : (!Cg.has a.clean b.clean.r) = true) : Cg.meet a b = Cg.none := by
 unfold Cg.meet Cg.meet0; rw [if_neg (me_s ha hb), if_neg (by simpa using zx), if_pos (by simpa using zy), if_neg (by simpa using h)]
theorem me_6 (zx : (a.clean.m == 0) = false) (zy : (b.clean.m == 0) = true) (h : (!Cg.has a.clean b.clean.r) = false) : Cg.meet a b = b.clean := by
 unfold Cg.meet Cg.meet0; rw [if_neg (me_s ha hb), if_neg (by simpa using zx), if_pos (by simpa using zy), if_pos (by simpa using h)]
variable (zx : (a.clean.m == 0) = false) (zy : (b.clean.m == 0) = false)
include zx zy
theorem me_p : (0 < a.clean.m /\ 0 < b.clean.m) /\ (0 < (Int.gcd a.clean.m b.clean.m : Int) /\ (Int.gcd a.clean.m b.clean.m : Int) <= a.clean.m /\ (Int.gcd a.clean.m b.clean.m : Int) <= b.clean.m) := by
 have h1 := Cg.clean_nn a
 have h2 := Cg.clean_nn b
 have h3 : a.clean.m ≠ 0 := by simpa using zx
 have h4 : b.clean.m ≠ 0 := by simpa using zy
 have p0 : 0 < a.clean.m := by omega
 have p1 : 0 < b.clean.m := by omega
 exact ⟨⟨p0, p1⟩, (quot_pos p0 p1).2.2, Int.le_of_dvd p0 (Int.gcd_dvd_left ..), Int.le_of_dvd p1 (Int.gcd_dvd_right ..)⟩
theorem me_q (ra : a.clean.inR) (rb : b.clean.inR) : IntKind.wrap .i64 (Int.gcd a.clean.m b.clean.m : Int) = (Int.gcd a.clean.m b.clean.m : Int) /\ IntKind.wrap .i64 (b.clean.m.tdiv (Int.gcd a.clean.m b.clean.m : Int)) = b.clean.m / (Int.gcd a.clean.m b.clean.m : Int) /\ Wd.val (wd (a.clean.m * (b.clean.m / (Int.gcd a.clean.m b.clean.m : Int)))) = Cg.lc a.clean b.clean /\ (0 <= b.clean.m / (Int.gcd a.clean.m b.clean.m : Int) /\ b.clean.m / (Int.gcd a.clean.m b.clean.m : Int) < 9223372036854775808) := by
 obtain ⟨⟨p0, p1⟩, g0, g1, g2⟩ := me_p ha hb zx zy
 have q := quot_pos p0 p1
 have d := Int.ediv_le_self (Int.gcd a.clean.m b.clean.m : Int) (show 0 <= b.clean.m by omega)
 unfold Cg.inR at ra rb
 have m1 : a.clean.m * (b.clean.m / (Int.gcd a.clean.m b.clean.m : Int)) <= 9223372036854775808 * 9223372036854775808 := Int.mul_le_mul (by omega) (by omega) (by omega) (by decide)
 have m0 : 0 <= a.clean.m * (b.clean.m / (Int.gcd a.clean.m b.clean.m : Int)) := Int.mul_nonneg (by omega) (by omega)
 refine ⟨wI_id _ (by omega) (by omega), ?_, wd_val (by omega) (by omega), by omega, by omega⟩
 rw [Int.tdiv_eq_ediv_of_nonneg (by omega), wI_id _ (by omega) (by omega)]
theorem me_7 (ra : a.clean.inR) (rb : b.clean.inR) (h : ((apartI a.clean.r b.clean.r).tmod (Int.gcd a.clean.m b.clean.m : Int) != 0) = true) : Cg.meet a b = Cg.none := by
 rw [Int.tmod_eq_emod_of_nonneg (apart_u ra.2 rb.2).1] at h
 unfold Cg.meet Cg.meet0; rw [if_neg (me_s ha hb), if_neg (by simpa using zx), if_neg (by simpa using zy), if_neg (by simpa using h)]
theorem me_7' (ra : a.clean.inR) (rb : b.clean.inR) (h : ((apartI a.clean.r b.clean.r).tmod (Int.gcd a.clean.m b.clean.m : Int) != 0) = false) : Cg.meet a b = (if wIntB (Cg.lc a.clean b.clean) = true then Cg.of (Cg.lc a.clean b.clean) (a.clean.r + a.clean.m * stepI a.clean.m b.clean.m a.clean.r b.clean.r) else if b.clean.m > a.clean.m then b.clean else a.clean) := by
 rw [Int.tmod_eq_emod_of_nonneg (apart_u ra.2 rb.2).1] at h
 unfold Cg.meet Cg.meet0; rw [if_neg (me_s ha hb), if_neg (by simpa using zx), if_neg (by simpa using zy), if_pos (by simpa using h)]
theorem me_8 (ra : a.clean.inR) (rb : b.clean.inR) (h : ((apartI a.clean.r b.clean.r).tmod (Int.gcd a.clean.m b.clean.m : Int) != 0) = false) (hw : wIntB (Cg.lc a.clean b.clean) = true) : Cg.meet a b = Cg.of (wIntV (Cg.lc a.clean b.clean)) (a.clean.r + a.clean.m * stepI a.clean.m b.clean.m a.clean.r b.clean.r) := by
 have e : wIntV (Cg.lc a.clean b.clean) = Cg.lc a.clean b.clean := (wIn (of_decide_eq_true hw)).1
 rw [me_7' ha hb zx zy ra rb h, if_pos hw, e]
theorem me_9 (ra : a.clean.inR) (rb : b.clean.inR) (h : ((apartI a.clean.r b.clean.r).tmod (Int.gcd a.clean.m b.clean.m : Int) != 0) = false) (hw : wIntB (Cg.lc a.clean b.clean) = false) (hg : decide (b.clean.m > a.clean.m) = true) : Cg.meet a b = b.clean := by
 rw [me_7' ha hb zx zy ra rb h, if_neg (by rw [hw]; decide), if_pos (of_decide_eq_true hg)]
theorem me_10 (ra : a.clean.inR) (rb : b.clean.inR) (h : ((apartI a.clean.r b.clean.r).tmod (Int.gcd a.clean.m b.clean.m : Int) != 0) = false) (hw : wIntB (Cg.lc a.clean b.clean) = false) (hg : decide (b.clean.m > a.clean.m) = false) : Cg.meet a b = a.clean := by
 rw [me_7' ha hb zx zy ra rb h, if_neg (by rw [hw]; decide), if_neg (of_decide_eq_false hg)]
theorem me_bt (ra : a.clean.inR) (rb : b.clean.inR) (hw : wIntB (Cg.lc a.clean b.clean) = true) : Bt a.clean.m a.clean.r b.clean.m b.clean.r (Int.gcd a.clean.m b.clean.m : Int) := by
 obtain ⟨⟨p0, p1⟩, _⟩ := me_p ha hb zx zy
 have h := of_decide_eq_true hw
 exact ⟨rfl, p0, p1, (Cg.clean_red a).2 p0, (Cg.clean_red b).2 p1, ra.1.2, rb.1.2, h.2⟩
end
def FCMeet : List Ar -> Option Rs
 | [.agg [.d (.v (.bool b0)), .d (.v (.int .i64 m0)), .d (.v (.int .i64 r0))], .agg [.d (.v (.bool b1)), .d (.v (.int .i64 m1)), .d (.v (.int .i64 r1))]] => some ⟨(Cg.inR ⟨b0, m0, r0⟩) /\ (Cg.inR ⟨b1, m1, r1⟩), .va (Cg.ar (Cg.meet (⟨b0, m0, r0⟩ : Cg) (⟨b1, m1, r1⟩ : Cg))), []⟩
 | _ => none
theorem fcCMeet : FC Tryz.prog 40 FCMeet := by
 intro xs pre r us h hp
 unfold FCMeet at h
 split at h
 . rename_i b0 m0 r0 b1 m1 r1
   cases h
   obtain ⟨hp0, hp1⟩ := hp
   refine fcat tys_ok (l := [(86, ⟨[], FCClean⟩), (87, ⟨[], FCNone⟩), (48, ⟨[], FCHas⟩), (88, ⟨[], FCGcd⟩), (89, ⟨[], FCApart⟩), (95, ⟨[], FWMul⟩), (94, ⟨[], FWInt⟩), (96, ⟨[], FCBoth⟩), (90, ⟨[], FCOf⟩)]) ⟨fcCClean, fcCNone, fcCHas, fcCGcd, fcCApart, fcWMul, fcWInt, fcCBoth, fcCOf, trivial⟩ Tryz.func40 rfl (by kernel_rfl) false ?_
   have hx := Cg.clean_inR hp0
   have hy := Cg.clean_inR hp1
   have hxx := hx
   have hyy := hy
   unfold Cg.inR at hxx hyy
   have hx0 := Cg.clean_nn ⟨b0, m0, r0⟩
   have hy0 := Cg.clean_nn ⟨b1, m1, r1⟩
   have ux := wU_id (Cg.clean ⟨b0, m0, r0⟩).m hx0 (by have := hx.1.2; omega)
   have uy := wU_id (Cg.clean ⟨b1, m1, r1⟩).m hy0 (by have := hy.1.2; omega)
   have vx : 0 <= (Cg.clean ⟨b0, m0, r0⟩).m /\ (Cg.clean ⟨b0, m0, r0⟩).m < 18446744073709551616 := ⟨hx0, by have := hx.1.2; omega⟩
   have vy : 0 <= (Cg.clean ⟨b1, m1, r1⟩).m /\ (Cg.clean ⟨b1, m1, r1⟩).m < 18446744073709551616 := ⟨hy0, by have := hy.1.2; omega⟩
   have g1 := gcd_u vx vy
   have g2 := apart_u hx.2 hy.2
   have g3 := gcdJ_u hx hy hx0 hy0
   repeat' (first | exact trivial | (with_reducible first | exact hx | exact hy | exact hx.1 | exact hx.2 | exact hy.1 | exact hy.2 | exact hp0 | exact hp1 | exact vx | exact vy | exact g1 | exact g2) | refine ⟨?_, ?_⟩ | intro _)
   all_goals first | (with_reducible first | apply qa | apply qb | apply qc | apply qd) | (conv => whnf)
   all_goals (try rw [ux] at *)
   all_goals (try rw [uy] at *)
   all_goals first | (with_reducible first | exact hxx.1.1 | exact hxx.1.2 | exact hxx.2.1 | exact hxx.2.2 | exact hyy.1.1 | exact hyy.1.2 | exact hyy.2.1 | exact hyy.2.2 | exact vx.1 | exact vx.2 | exact vy.1 | exact vy.2) | skip
   all_goals first | (exfalso; simp_all; done) | (have e := me_1 (a := ⟨b0, m0, r0⟩) (b := ⟨b1, m1, r1⟩) ‹_›; first | exact congrArg (fun i : Cg => Value.bool i.some) e.symm | exact congrArg (fun i : Cg => Value.int .i64 i.m) e.symm | exact congrArg (fun i : Cg => Value.int .i64 i.r) e.symm | fail) | (have e := me_2 (a := ⟨b0, m0, r0⟩) (b := ⟨b1, m1, r1⟩) ‹_› ‹_›; first | exact congrArg (fun i : Cg => Value.bool i.some) e.symm | exact congrArg (fun i : Cg => Value.int .i64 i.m) e.symm | exact congrArg (fun i : Cg => Value.int .i64 i.r) e.symm | fail) | (have e := me_3 (a := ⟨b0, m0, r0⟩) (b := ⟨b1, m1, r1⟩) ‹_› ‹_› ‹_› ‹_›; first | exact congrArg (fun i : Cg => Value.bool i.some) e.symm | exact congrArg (fun i : Cg => Value.int .i64 i.m) e.symm | exact congrArg (fun i : Cg => Value.int .i64 i.r) e.symm | fail) | (have e := me_4 (a := ⟨b0, m0, r0⟩) (b := ⟨b1, m1, r1⟩) ‹_› ‹_› ‹_› ‹_›; first | exact congrArg (fun i : Cg => Value.bool i.some) e.symm | exact congrArg (fun i : Cg => Value.int .i64 i.m) e.symm | exact congrArg (fun i : Cg => Value.int .i64 i.r) e.symm | fail) | (have e := me_5 (a := ⟨b0, m0, r0⟩) (b := ⟨b1, m1, r1⟩) ‹_› ‹_› ‹_› ‹_› ‹_›; first | exact congrArg (fun i : Cg => Value.bool i.some) e.symm | exact congrArg (fun i : Cg => Value.int .i64 i.m) e.symm | exact congrArg (fun i : Cg => Value.int .i64 i.r) e.symm | fail) | (have e := me_6 (a := ⟨b0, m0, r0⟩) (b := ⟨b1, m1, r1⟩) ‹_› ‹_› ‹_› ‹_› ‹_›; first | exact congrArg (fun i : Cg => Value.bool i.some) e.symm | exact congrArg (fun i : Cg => Value.int .i64 i.m) e.symm | exact congrArg (fun i : Cg => Value.int .i64 i.r) e.symm | fail) | (have e := me_7 (a := ⟨b0, m0, r0⟩) (b := ⟨b1, m1, r1⟩) ‹_› ‹_› ‹_› ‹_› hx hy ‹_›; first | exact congrArg (fun i : Cg => Value.bool i.some) e.symm | exact congrArg (fun i : Cg => Value.int .i64 i.m) e.symm | exact congrArg (fun i : Cg => Value.int .i64 i.r) e.symm | fail) | skip
   all_goals (obtain ⟨⟨p0, p1⟩, g0, gl0, gl1⟩ := me_p (a := ⟨b0, m0, r0⟩) (b := ⟨b1, m1, r1⟩) ‹_› ‹_› ‹_› ‹_›; obtain ⟨q1, q2, q3, q4⟩ := me_q (a := ⟨b0, m0, r0⟩) (b := ⟨b1, m1, r1⟩) ‹_› ‹_› ‹_› ‹_› hx hy)
   all_goals (try simp only [q1, q2, q3, Wd.eta'] at *)
   all_goals first | omega | exact (wd_ok _).1.1 | exact (wd_ok _).1.2 | exact (wd_ok _).2.1 | exact (wd_ok _).2.2 | exact (wInt_r _).1 | exact (wInt_r _).2 | (have bt := me_bt (a := ⟨b0, m0, r0⟩) (b := ⟨b1, m1, r1⟩) ‹_› ‹_› ‹_› ‹_› hx hy ‹wIntB _ = true›; have br := bt_rng bt; first | exact bt | omega | fail) | (have e := me_8 (a := ⟨b0, m0, r0⟩) (b := ⟨b1, m1, r1⟩) ‹_› ‹_› ‹_› ‹_› hx hy ‹_› ‹_›; first | exact congrArg (fun i : Cg => Value.bool i.some) e.symm | exact congrArg (fun i : Cg => Value.int .i64 i.m) e.symm | exact congrArg (fun i : Cg => Value.int .i64 i.r) e.symm | fail) | (have e := me_9 (a := ⟨b0, m0, r0⟩) (b := ⟨b1, m1, r1⟩) ‹_› ‹_› ‹_› ‹_› hx hy ‹_› ‹_› ‹_›; first | exact congrArg (fun i : Cg => Value.bool i.some) e.symm | exact congrArg (fun i : Cg => Value.int .i64 i.m) e.symm | exact congrArg (fun i : Cg => Value.int .i64 i.r) e.symm | fail) | (have e := me_10 (a := ⟨b0, m0, r0⟩) (b := ⟨b1, m1, r1⟩) ‹_› ‹_› ‹_› ‹_› hx hy ‹_› ‹_› ‹_›; first | exact congrArg (fun i : Cg => Value.bool i.some) e.symm | exact congrArg (fun i : Cg => Value.int .i64 i.m) e.symm | exact congrArg (fun i : Cg => Value.int .i64 i.r) e.symm | fail)
 . cases h
theorem gN_lst2 (l : List ByteArray) : gN l.length (fun i => [st (gT [st (atS l i)])]) = l := gN_lst l
theorem meetS_len (l m : List ByteArray) : (meetS l m).length <= l.length := List.length_filter_le _ _
theorem okV_meetF {a b : Vl} (ha : okV a) (hb : okV b) : okV (Vl.meetF a b) := by
 refine ⟨⟨?_, fun _ _ => rfl⟩, meetF_inR ha.2 hb.2⟩
 show (ofS (meetS (ofS a.t.names) (ofS b.t.names))).length * 16 <= 140737488351232
 have h1 := ofS_len (meetS (ofS a.t.names) (ofS b.t.names))
 have h2 := meetS_len (ofS a.t.names) (ofS b.t.names)
 have h3 := ofS_len a.t.names
 have := ha.1.1
 omega
def FVMeet : List Ar -> Option Rs
 | [.agg [.d (.v (.bool s0)), .d (.v (.int .i64 l0)), .d (.v (.int .i64 h0)), .d (.v (.bool b0)), .d (.v (.int .i64 m0)), .d (.v (.int .i64 r0)), .d (.v (.bool z0)), .d (.lst 1 n0 f0)], .agg [.d (.v (.bool s1)), .d (.v (.int .i64 l1)), .d (.v (.int .i64 h1)), .d (.v (.bool b1)), .d (.v (.int .i64 m1)), .d (.v (.int .i64 r1)), .d (.v (.bool z1)), .d (.lst 1 n1 f1)]] => some ⟨((n0 * 16 <= 140737488351232 /\ ∀ i, i < n0 -> f0 i = [st (gT (f0 i))]) /\ Sp.inR ⟨s0, l0, h0⟩ /\ Cg.inR ⟨b0, m0, r0⟩) /\ ((n1 * 16 <= 140737488351232 /\ ∀ i, i < n1 -> f1 i = [st (gT (f1 i))]) /\ Sp.inR ⟨s1, l1, h1⟩ /\ Cg.inR ⟨b1, m1, r1⟩), .va (Vl.ar (Vl.meet (⟨⟨⟨s0, l0, h0⟩, ⟨b0, m0, r0⟩⟩, ⟨z0, gN n0 f0⟩⟩ : Vl) (⟨⟨⟨s1, l1, h1⟩, ⟨b1, m1, r1⟩⟩, ⟨z1, gN n1 f1⟩⟩ : Vl))), []⟩
 | _ => none
theorem fcVMeet : FC Tryz.prog 8 FVMeet := by
 intro xs pre r us h hp
 unfold FVMeet at h
 split at h
 . rename_i s0 l0 h0 b0 m0 r0 z0 n0 f0 s1 l1 h1 b1 m1 r1 z1 n1 f1
   cases h
   obtain ⟨hp0, hp1⟩ := hp
   refine FCat.of_eq (as' := [.agg [.d (.v (.bool s0)), .d (.v (.int .i64 l0)), .d (.v (.int .i64 h0)), .d (.v (.bool b0)), .d (.v (.int .i64 m0)), .d (.v (.int .i64 r0)), .d (.v (.bool z0)), .d (.lst 1 n0 fun i => [st (gT (f0 i))])], .agg [.d (.v (.bool s1)), .d (.v (.int .i64 l1)), .d (.v (.int .i64 h1)), .d (.v (.bool b1)), .d (.v (.int .i64 m1)), .d (.v (.int .i64 r1)), .d (.v (.bool z1)), .d (.lst 1 n1 fun i => [st (gT (f1 i))])]]) ?_ rfl rfl ?_
   . repeat' (first | exact trivial | exact rfl | refine ⟨?_, ?_⟩ | fail)
     all_goals first | exact hp0.2 | exact hp1.2 | exact hp2.2 | (intro i hi; exact (hp0.2 i hi).1) | (intro i hi; exact (hp1.2 i hi).1) | (intro i hi; exact (hp2.2 i hi).1) | grind
   refine fcat tys_ok (l := [(33, ⟨[], FVOf⟩), (39, ⟨[], FSMeet⟩), (40, ⟨[], FCMeet⟩), (41, ⟨[], FNMeet⟩), (37, ⟨[], FVValue⟩), (38, ⟨[], FVReduce⟩)]) ⟨fcVOf, fcSMeet, fcCMeet, fcNMeet, fcVValue, fcVReduce, trivial⟩ Tryz.func8 rfl (by kernel_rfl) true ?_
   have hv0 : okV (⟨⟨⟨s0, l0, h0⟩, ⟨b0, m0, r0⟩⟩, ⟨z0, gN n0 fun i => [st (gT (f0 i))]⟩⟩ : Vl) := ⟨⟨(by rw [gN_length]; exact hp0.1.1), fun _ _ => rfl⟩, hp0.2⟩
   have hv1 : okV (⟨⟨⟨s1, l1, h1⟩, ⟨b1, m1, r1⟩⟩, ⟨z1, gN n1 fun i => [st (gT (f1 i))]⟩⟩ : Vl) := ⟨⟨(by rw [gN_length]; exact hp1.1.1), fun _ _ => rfl⟩, hp1.2⟩
   have ho0 := okV_of hv0
   have ho1 := okV_of hv1
   have hoo0 := okV_of ho0
   have hoo1 := okV_of ho1
   have hl0 : (Vl.of (⟨⟨⟨s0, l0, h0⟩, ⟨b0, m0, r0⟩⟩, ⟨z0, gN n0 fun i => [st (gT (f0 i))]⟩⟩ : Vl)).t.names.length <= n0 := by have := ofS_len (gN n0 f0); rw [gN_length] at this; exact this
   have hl1 : (Vl.of (⟨⟨⟨s1, l1, h1⟩, ⟨b1, m1, r1⟩⟩, ⟨z1, gN n1 fun i => [st (gT (f1 i))]⟩⟩ : Vl)).t.names.length <= n1 := by have := ofS_len (gN n1 f1); rw [gN_length] at this; exact this
   have hsj := Sp.join_inR ho0.2.1 ho1.2.1
   have hcj := Cg.join_inR ho0.2.2 ho1.2.2
   unfold okV at ho0 ho1 hoo0 hoo1
   have hmf := okV_meetF hv0 hv1
   unfold okV at hmf
   repeat' (first | exact trivial | (with_reducible first | exact ho0 | exact ho1 | exact ho0.1 | exact ho1.1 | exact ho0.2.1 | exact ho0.2.2 | exact ho1.2.1 | exact ho1.2.2 | exact hp0.1 | exact hp1.1 | exact hp0.2.1 | exact hp0.2.2 | exact hp1.2.1 | exact hp1.2.2 | exact hp0 | exact hp1 | exact hmf | exact hmf.1 | exact hmf.2.1 | exact hmf.2.2) | refine ⟨?_, ?_⟩ | intro _)
   all_goals first | (with_reducible first | apply qa | apply qb | apply qc | apply qd) | (conv => whnf)
   all_goals (try simp only [gN_lst, gN_lst2, gN_canon] at *)
   all_goals first | rfl | (with_reducible first | exact hp0.1.1 | exact hp1.1.1) | exact hmf.1.1 | exact hmf.2.1.1.1 | exact hmf.2.1.1.2 | exact hmf.2.1.2.1 | exact hmf.2.1.2.2 | exact hmf.2.2.1.1 | exact hmf.2.2.1.2 | exact hmf.2.2.2.1 | exact hmf.2.2.2.2
 . cases h
theorem wd_add (A B : Int) : wd ((wd A).val + (wd B).val) = wd (A + B) := by unfold wd Wd.val; dsimp only; congr 1 <;> omega
theorem wd_neg (A : Int) : wd (0 - (wd A).val) = wd (-A) := by unfold wd Wd.val; dsimp only; congr 1 <;> omega
theorem rm_lo {b : Int} (h : -9223372036854775808 <= b /\ b < 9223372036854775808) : (decide (b < 0) = true -> (wd (-Wd.val ⟨(wd b).hi, (wd b).lo⟩)).lo = ((sizeI b).toNat : Int)) /\ (decide (b < 0) = false -> (wd b).lo = ((sizeI b).toNat : Int)) := by
 refine ⟨fun h1 => ?_, fun h1 => ?_⟩
 . have h1 := of_decide_eq_true h1
   unfold sizeI wd Wd.val; dsimp only; rw [if_pos h1]; omega
 . have h1 := of_decide_eq_false h1
   unfold sizeI wd; dsimp only; rw [if_neg h1]; omega
theorem rm_next {A B P : Int} {n : Nat} (h : A + B * n = P) : (A + (if n % 2 = 1 then B else 0)) + (B + B) * ((n / 2 : Nat) : Int) = P := by
 obtain ⟨q, hq⟩ : ∃ q : Nat, q = n / 2 := ⟨_, rfl⟩
 rw [<- hq]
 rcases Nat.mod_two_eq_zero_or_one n with h2 | h2
 . have e2 : B * (n : Int) = (B + B) * (q : Int) := by rw [show (n : Int) = q + q by omega, Int.mul_add, Int.add_mul]
   rw [if_neg (by omega)]; omega
 . have e2 : B * (n : Int) = (B + B) * (q : Int) + B := by rw [show (n : Int) = q + q + 1 by omega, Int.mul_add, Int.mul_add, Int.mul_one, Int.add_mul]
   rw [if_pos h2]; omega
theorem rm_neg {A B i0 i1 : Int} {n : Nat} (k : A + B * n = i0 * sizeI i1) (hn : decide ((n : Int) > 0) = false) (h : decide (i1 < 0) = true) : wd (-(wd A).val) = wd (i0 * i1) := by
 have h := of_decide_eq_true h
 have hn := of_decide_eq_false hn
 have e : n = 0 := by omega
 subst e
 have e2 : sizeI i1 = -i1 := by unfold sizeI; rw [if_pos h]
 rw [e2, Int.mul_neg] at k
 have e3 : A = -(i0 * i1) := by simpa using k
 have e4 := wd_neg A
 rw [Int.zero_sub] at e4
 rw [e4, e3, Int.neg_neg]
theorem rm_pos {A B i0 i1 : Int} {n : Nat} (k : A + B * n = i0 * sizeI i1) (hn : decide ((n : Int) > 0) = false) (h : decide (i1 < 0) = false) : wd A = wd (i0 * i1) := by
 have h := of_decide_eq_false h
 have hn := of_decide_eq_false hn
 have e : n = 0 := by omega
 subst e
 have e2 : sizeI i1 = i1 := by unfold sizeI; rw [if_neg h]
 rw [e2] at k
 have e3 : A = i0 * i1 := by simpa using k
 rw [e3]
def FRMul : List Ar -> Option Rs
 | [.c (.d (.v (.int .i64 i0))), .c (.d (.v (.int .i64 i1)))] => some ⟨(-9223372036854775808 <= i0 /\ i0 < 9223372036854775808) /\ (-9223372036854775808 <= i1 /\ i1 < 9223372036854775808), .va (Wd.ar (wd (i0 * i1))), []⟩
 | _ => none
theorem fcRMul : FC Tryz.prog 16 FRMul := by
 intro xs pre r us h hp
 unfold FRMul at h
 split at h
 . rename_i i0 i1
   cases h
   obtain ⟨hp0, hp1⟩ := hp
   refine fcat tys_ok (l := [(52, ⟨[], FROf⟩), (53, ⟨[], FRNeg⟩), (54, ⟨[], FRAdd⟩)]) ⟨fcROf, fcRNeg, fcRAdd, trivial⟩ Tryz.func16 rfl (by kernel_rfl) false ?_
   repeat' (first | exact trivial | (with_reducible first | exact hp0 | exact hp1 | exact hp0.1 | exact hp0.2 | exact hp1.1 | exact hp1.2 | exact wd_ok _ | exact (wd_ok _).1.1 | exact (wd_ok _).1.2 | exact (wd_ok _).2.1 | exact (wd_ok _).2.2) | refine ⟨?_, ?_⟩ | intro _)
   all_goals first | (with_reducible first | apply qa | apply qb | apply qc | apply qd) | (conv => whnf)
   all_goals first | exact (wd_ok _).1.1 | exact (wd_ok _).1.2 | exact (wd_ok _).2.1 | exact (wd_ok _).2.2 | skip
   all_goals first | rw [(rm_lo hp1).1 ‹_›] | rw [(rm_lo hp1).2 ‹_›] | skip
   all_goals
    refine loop_ok tys_ok (l := [(52, ⟨[], FROf⟩), (53, ⟨[], FRNeg⟩), (54, ⟨[], FRAdd⟩)]) ⟨fcROf, fcRNeg, fcRAdd, trivial⟩ (by kernel_rfl) (X := Int × Int × Nat) (fun x => ⟨[(8, vx (.int .u64 x.2.2)), (1, vx (.int .i64 i1)), (4, .va (.c (.own 0 0))), (5, .va (.c (.own 1 0))), (6, .va (.c (.own 2 0)))], [(0, .cells [.d (it 0), .d (ut 0)]), (1, .cells [.d (it (wd x.1).hi), .d (ut (wd x.1).lo)]), (2, .cells [.d (it (wd x.2.1).hi), .d (ut (wd x.2.1).lo)])], 3, 38⟩) (fun x => x.2.2)
     (fun x => x.1 + x.2.1 * x.2.2 = i0 * sizeI i1 /\ x.2.2 < 18446744073709551616) [8] [1, 2] (fun x _ _ => (x.1 + (if x.2.2 % 2 = 1 then x.2.1 else 0), x.2.1 + x.2.1, x.2.2 / 2)) [0, 1, 2] [0, 1, 2] 0 0 (0, i0, (sizeI i1).toNat) ?_ ?_ ?_
    . refine ⟨?_, ?_⟩
      . show 0 + i0 * ((sizeI i1).toNat : Int) = i0 * sizeI i1
        rw [Int.zero_add, Int.toNat_of_nonneg (sizeI_r hp1).1]
      . show (sizeI i1).toNat < 18446744073709551616
        have := (sizeI_r hp1).2; omega
    . repeat' (first | exact trivial | exact rfl | (intro _ h; exact absurd h (Nat.not_lt_zero _)) | (intro _ _; exact rfl) | refine ⟨?_, ?_⟩ | fail)
    . rintro ⟨A, B, n⟩ ⟨k1, k2⟩
      change A + B * (n : Int) = i0 * sizeI i1 at k1
      change n < 18446744073709551616 at k2
      have k3 := rm_next k1
      repeat' (first | exact trivial | (with_reducible first | exact hp0 | exact hp1 | exact hp0.1 | exact hp0.2 | exact hp1.1 | exact hp1.2 | exact wd_ok _ | exact (wd_ok _).1.1 | exact (wd_ok _).1.2 | exact (wd_ok _).2.1 | exact (wd_ok _).2.2) | refine ⟨?_, ?_⟩ | intro _)
      all_goals first | (with_reducible first | apply qa | apply qb | apply qc | apply qd) | (conv => whnf)
      all_goals first | exact k3 | (exfalso; exact absurd ‹(2 : Int) = 0› (by decide)) | ((with_reducible show idsOk _ _ = true); rfl) | exact wd_ok _ | exact (wd_ok _).1.1 | exact (wd_ok _).1.2 | exact (wd_ok _).2.1 | exact (wd_ok _).2.2 | skip
      all_goals first | rfl | skip
      all_goals first | (show n / 2 < 18446744073709551616; omega) | (have := of_decide_eq_true ‹decide (_ > _) = true›; show n / 2 < n; have h9 : (n : Int) > 0 := this; omega) | (show Value.int .u64 (IntKind.u64.wrap ((n : Int).tdiv 2)) = Value.int .u64 ((n / 2 : Nat) : Int); exact congrArg (Value.int .u64) (quoN (a := 2) (by decide) k2)) | (refine congrArg (fun w : Wd => Value.int .i64 w.hi) (a₁ := wd ((wd B).val + (wd B).val)) (a₂ := wd (B + B)) (wd_add B B)) | (refine congrArg (fun w : Wd => Value.int .u64 w.lo) (a₁ := wd ((wd B).val + (wd B).val)) (a₂ := wd (B + B)) (wd_add B B)) | (have hq : n % 2 = 1 := (by have := eq_of_beq ‹(_ == (1 : Int)) = true›; have h8 : (n : Int).tmod 2 = 1 := this; rw [Int.tmod_eq_emod_of_nonneg (Int.natCast_nonneg n)] at h8; omega); first | (refine congrArg (fun w : Wd => Value.int .i64 w.hi) (a₁ := wd ((wd A).val + (wd B).val)) (a₂ := wd (A + if n % 2 = 1 then B else 0)) ?_; rw [wd_add, if_pos hq]) | (refine congrArg (fun w : Wd => Value.int .u64 w.lo) (a₁ := wd ((wd A).val + (wd B).val)) (a₂ := wd (A + if n % 2 = 1 then B else 0)) ?_; rw [wd_add, if_pos hq])) | (have hq : ¬ n % 2 = 1 := (by have := ne_of_beq_false ‹(_ == (1 : Int)) = false›; have h8 : ¬ (n : Int).tmod 2 = 1 := this; rw [Int.tmod_eq_emod_of_nonneg (Int.natCast_nonneg n)] at h8; omega); first | (refine congrArg (fun w : Wd => Value.int .i64 w.hi) (a₁ := wd A) (a₂ := wd (A + if n % 2 = 1 then B else 0)) ?_; rw [if_neg hq, Int.add_zero]) | (refine congrArg (fun w : Wd => Value.int .u64 w.lo) (a₁ := wd A) (a₂ := wd (A + if n % 2 = 1 then B else 0)) ?_; rw [if_neg hq, Int.add_zero])) | (refine congrArg (fun w : Wd => Value.int .i64 w.hi) (a₁ := wd (-(wd A).val)) (a₂ := wd (i0 * i1)) (rm_neg k1 ‹_› ‹_›)) | (refine congrArg (fun w : Wd => Value.int .u64 w.lo) (a₁ := wd (-(wd A).val)) (a₂ := wd (i0 * i1)) (rm_neg k1 ‹_› ‹_›)) | (refine congrArg (fun w : Wd => Value.int .i64 w.hi) (a₁ := wd A) (a₂ := wd (i0 * i1)) (rm_pos k1 ‹_› ‹_›)) | (refine congrArg (fun w : Wd => Value.int .u64 w.lo) (a₁ := wd A) (a₂ := wd (i0 * i1)) (rm_pos k1 ‹_› ‹_›))
 . cases h
end Go.Proofs.YtehpbhpmkhlldaaGreat
namespace Go.Sx
def drawOk2 (all : List Oper) (m : Nat) : Bool :=
 let b := cloGo all []
 (List.range all.length).all fun i =>
   match all[i]? with
   | none => false
   | some o => o.after.toList.all (fun e => !Region.binds .any e || decide (e.on < i)) &&
     (List.range i).all fun j => (b.getD i 0).testBit j || decide (m <= j) || (decide (i < m) && match all[j]? with
       | some x => !clash all x o
       | none => false)
theorem drawOk2_spec {ops : Array Oper} {m : Nat} (h : drawOk2 ops.toList m = true) :
 (∀ i o, ops[i]? = some o -> ∀ e ∈ o.after.toList, Region.binds .any e = true -> e.on < i) /\
 ∀ i j x o, ops[i]? = some o -> ops[j]? = some x -> j < i -> j < m -> Cl ops i j \/ (i < m /\ clash ops.toList x o = false) := by
 simp only [drawOk2, List.all_eq_true, List.mem_range, Array.length_toList] at h
 have hcl := cloGo_spec ops ops.toList [] (fun i o ho => by simpa using ho) (fun i j h => by simp at h)
 refine ⟨?_, ?_⟩
 . intro i o ho e he hb
   have hi : i < ops.size := (Array.getElem?_eq_some_iff.1 ho).1
   have := h i hi
   simp only [Array.getElem?_toList, ho, Bool.and_eq_true, List.all_eq_true] at this
   have := this.1 e he
   simpa [hb] using this
 . intro i j x o ho hx hj hjm
   have hi : i < ops.size := (Array.getElem?_eq_some_iff.1 ho).1
   have := h i hi
   simp only [Array.getElem?_toList, ho, Bool.and_eq_true, List.all_eq_true] at this
   have := this.2 j (by simpa using hj)
   simp only [hx, Bool.or_eq_true, Bool.and_eq_true, decide_eq_true_eq, Bool.not_eq_true'] at this
   rcases this with (h1 | h1) | h1
   . exact .inl (hcl i j h1)
   . omega
   . exact .inr h1
def normH (h : List (Nat × Blk)) : Nat -> List (Nat × Blk) -> List (Nat × Blk)
 | 0, acc => acc
 | k + 1, acc => match lookB h k with
   | .gone => normH h k acc
   | b => normH h k ((k, b) :: acc)
def norm (live : List Nat) : St -> St
 | ⟨ts, h, n, m⟩ => ⟨live.map fun t => (t, lookT ts t), normH h n [], n, m⟩
def normTs (ts : List (Nat × Tm)) : List Nat -> (List (Nat × Tm) -> Prop) -> Prop
 | [], K => K []
 | t :: l, K => fT (lookT ts t) fun x => normTs ts l fun r => K ((t, x) :: r)
def normHs (h : List (Nat × Blk)) : Nat -> List (Nat × Blk) -> (List (Nat × Blk) -> Prop) -> Prop
 | 0, acc, K => K acc
 | k + 1, acc, K => fB (lookB h k) fun b => match b with
   | .gone => normHs h k acc K
   | .cells cs => normHs h k ((k, .cells cs) :: acc) K
   | .row a b c => normHs h k ((k, .row a b c) :: acc) K
   | .fz cs => normHs h k ((k, .fz cs) :: acc) K
   | .fzr a b c => normHs h k ((k, .fzr a b c) :: acc) K
   | .it a b => normHs h k ((k, .it a b) :: acc) K
def normK (live : List Nat) (st : St) (K : St -> Prop) : Prop := match st with
 | ⟨ts, h, n, m⟩ => normTs ts live fun ts' => normHs h n [] fun h' => K ⟨ts', h', n, m⟩
theorem normTs_eq (ts : List (Nat × Tm)) : ∀ (l : List Nat) (K : List (Nat × Tm) -> Prop), normTs ts l K = K (l.map fun t => (t, lookT ts t))
 | [], K => rfl
 | t :: l, K => by simp only [normTs, fT_eq, normTs_eq ts l, List.map_cons]
theorem normHs_eq (h : List (Nat × Blk)) : ∀ (n : Nat) (acc : List (Nat × Blk)) (K : List (Nat × Blk) -> Prop), normHs h n acc K = K (normH h n acc)
 | 0, acc, K => rfl
 | k + 1, acc, K => by
   simp only [normHs, normH, fB_eq]
   cases lookB h k <;> simp only [normHs_eq h k]
theorem normK_eq (live : List Nat) (st : St) (K : St -> Prop) : normK live st K = K (norm live st) := by
 obtain ⟨ts, h, n, m⟩ := st
 simp only [normK, norm, normTs_eq, normHs_eq]
theorem lookT_live (ts : List (Nat × Tm)) (t : Nat) : ∀ (l : List Nat), lookT (l.map fun t => (t, lookT ts t)) t = lookT ts t \/ lookT (l.map fun t => (t, lookT ts t)) t = topT
 | [] => .inr rfl
 | u :: l => by
   simp only [List.map_cons, lookT]
   cases hu : Nat.beq u t with
   | true => left; rw [Nat.eq_of_beq_eq_true hu]
   | false => exact lookT_live ts t l
theorem lookB_normH (h : List (Nat × Blk)) (k : Nat) : ∀ (n : Nat) (acc : List (Nat × Blk)), (k < n -> lookB h k ≠ .gone -> lookB (normH h n acc) k = lookB h k) /\ (n <= k \/ lookB h k = .gone -> lookB (normH h n acc) k = lookB acc k)
 | 0, acc => ⟨fun h => absurd h (Nat.not_lt_zero k), fun _ => rfl⟩
 | n + 1, acc => by
   simp only [normH]
   split
   . rename_i hg
     obtain ⟨h1, h2⟩ := lookB_normH h k n acc
     refine ⟨fun hk hn => h1 ?_ hn, fun hk => h2 ?_⟩
     . rcases Nat.lt_succ_iff_lt_or_eq.1 hk with h | h
       . exact h
       . subst h; exact absurd hg hn
     . rcases hk with hk | hk
       . exact .inl (by omega)
       . exact .inr hk
   . rename_i hg
     obtain ⟨h1, h2⟩ := lookB_normH h k n ((n, lookB h n) :: acc)
     refine ⟨fun hk hn => ?_, fun hk => ?_⟩
     . rcases Nat.lt_succ_iff_lt_or_eq.1 hk with h | h
       . exact h1 h hn
       . subst h; rw [h2 (.inl (Nat.le_refl _)), lookB_cons, if_pos rfl]
     . rcases hk with hk | hk
       . rw [h2 (.inl (by omega)), lookB_cons, if_neg (by omega)]
       . rw [h2 (.inr hk), lookB_cons, if_neg (fun e => by subst e; exact hg hk)]
section
variable {P : Program} {τ : Tys} {Γ : Sums} {base : Nat} {ψ ψ' : Psi} {S S' : Nat → Prop} {w w' : World} {a : Act} {st : St}
theorem Rel.norm (live : List Nat) (hr : Rel P base ψ S w st a) : Rel P base ψ S w (norm live st) a := by
 obtain ⟨ts, h, n, m⟩ := st
 have hl : ∀ k l, ψ k = some l -> lookB (normH h n []) k = lookB h k := by
  intro k l hk
  have hk2 : k < n := by
   rcases Nat.lt_or_ge k n with h1 | h1
   . exact h1
   . have := hr.sim.dom k h1; rw [hk] at this; cases this
  by_cases c : lookB h k = .gone
  . rw [(lookB_normH h k n []).2 (.inr c), c]; rfl
  . exact (lookB_normH h k n []).1 hk2 c
 have hs := hr.sim
 refine ⟨hr.bas, ⟨hs.dom, fun k l hk => ?_, fun k k' b m1 m2 e1 e2 l1 l2 => ?_, fun k b m1 e1 l1 => ?_, hs.pdom, hs.sdom⟩, hr.lim, hr.defers, fun t => ?_⟩
 . show BlkRep P ψ S w (lookB (normH h n []) k) l
   rw [hl k l hk]; exact hs.blk k l hk
 . rw [show lookB (norm live ⟨ts, h, n, m⟩).heap k = lookB h k from hl k _ e1] at l1
   rw [show lookB (norm live ⟨ts, h, n, m⟩).heap k' = lookB h k' from hl k' _ e2] at l2
   exact hs.inj k k' b m1 m2 e1 e2 l1 l2
 . rw [show lookB (norm live ⟨ts, h, n, m⟩).heap k = lookB h k from hl k _ e1] at l1
   exact hs.dis k b m1 e1 l1
 . show RepT P ψ S w (lookT (live.map fun t => (t, lookT ts t)) t) _
   rcases lookT_live ts t live with e | e
   . rw [e]; exact hr.tmps t
   . rw [e]; trivial
end
def stoOf : List (Nat × Nat) -> Nat -> Option Nat
 | [], _ => none
 | (j, ia) :: l, i => match Nat.beq j i with
   | true => some ia
   | false => stoOf l i
def hidOf (sto : List (Nat × Nat)) (i : Nat) : Bool := sto.any fun p => Nat.beq p.2 i
def visB (sto : List (Nat × Nat)) (i : Nat) : Bool := !hidOf sto i && (stoOf sto i).isNone
def dSto (τ : Tys) (n0 : Nat) (all : List Oper) (ia : Nat) (o : Oper) (st : St) (K : List Cell -> Prop) : Prop :=
 match o.op, o.guard, all[ia]? with
 | .store t ad x, none, some oa => match oa.op, oa.guard with
   | .alloc e, none => match ev st ad, ev st x, τ t, τ e with
     | .va (.c (.own k 0)), .va y, some ⟨_, size, _, _⟩, some ⟨_, _, _, z⟩ => match Nat.beq k (n0 + ia), y.lays, Nat.beq y.cells.length size, Nat.beq (zeroCells' z).length size with
       | true, true, true, true => K y.cells
       | _, _, _, _ => False
     | _, _, _, _ => False
   | _, _ => False
 | _, _, _ => False
def dGo3 (P : Program) (τ : Tys) (Γ : Sums) (n0 : Nat) (gs : List Nat) (all : List Oper) (sto : List (Nat × Nat)) (i : Nat) (l : List Oper) : St -> List (Nat × Blk) -> (St -> List (Nat × Blk) -> Prop) -> Prop :=
 List.rec (motive := fun _ => Nat -> St -> List (Nat × Blk) -> (St -> List (Nat × Blk) -> Prop) -> Prop) (fun _ st sp K => K st sp) (fun o _ ih i st sp K => match st with
  | ⟨ts, h, n, m⟩ => match inLim o.dst m with
    | false => False
    | true => match stoOf sto i with
      | some ia => dSto τ n0 all ia o ⟨ts, h, n, m⟩ fun cs => fCs cs fun cs => ih (i + 1) ⟨putT o.dst undT ts, h, n, m⟩ ((n0 + ia, .cells cs) :: sp) K
      | none => dWant all ⟨ts, h, n, m⟩ o fun w => match w with
        | false => ih (i + 1) ⟨putT o.dst undT ts, h, n, m⟩ sp K
        | true => dOp P τ Γ (n0 + i) o ⟨ts, h, n, m⟩ fun x b => fT x fun x => match b with
          | some (.cells cs) => fCs cs fun cs => dPut i gs x fun x => match hidOf sto i with
            | true => ih (i + 1) ⟨putT o.dst x ts, h, n, m⟩ sp K
            | false => ih (i + 1) ⟨putT o.dst x ts, (n0 + i, .cells cs) :: h, n, m⟩ sp K
          | some _ => False
          | none => dPut i gs x fun x => ih (i + 1) ⟨putT o.dst x ts, h, n, m⟩ sp K) l i
theorem dGo3_cons (P : Program) (τ : Tys) (Γ : Sums) (n0 : Nat) (gs : List Nat) (all : List Oper) (sto : List (Nat × Nat)) (i : Nat) (o : Oper) (rest : List Oper) (ts : List (Nat × Tm)) (h : List (Nat × Blk)) (n m : Nat) (sp : List (Nat × Blk)) (K : St -> List (Nat × Blk) -> Prop) :
 dGo3 P τ Γ n0 gs all sto i (o :: rest) ⟨ts, h, n, m⟩ sp K = (match inLim o.dst m with
  | false => False
  | true => match stoOf sto i with
    | some ia => dSto τ n0 all ia o ⟨ts, h, n, m⟩ fun cs => fCs cs fun cs => dGo3 P τ Γ n0 gs all sto (i + 1) rest ⟨putT o.dst undT ts, h, n, m⟩ ((n0 + ia, .cells cs) :: sp) K
    | none => dWant all ⟨ts, h, n, m⟩ o fun w => match w with
      | false => dGo3 P τ Γ n0 gs all sto (i + 1) rest ⟨putT o.dst undT ts, h, n, m⟩ sp K
      | true => dOp P τ Γ (n0 + i) o ⟨ts, h, n, m⟩ fun x b => fT x fun x => match b with
        | some (.cells cs) => fCs cs fun cs => dPut i gs x fun x => match hidOf sto i with
          | true => dGo3 P τ Γ n0 gs all sto (i + 1) rest ⟨putT o.dst x ts, h, n, m⟩ sp K
          | false => dGo3 P τ Γ n0 gs all sto (i + 1) rest ⟨putT o.dst x ts, (n0 + i, .cells cs) :: h, n, m⟩ sp K
        | some _ => False
        | none => dPut i gs x fun x => dGo3 P τ Γ n0 gs all sto (i + 1) rest ⟨putT o.dst x ts, h, n, m⟩ sp K) := rfl
def hfOf (n0 : Nat) (B : Nat -> Option (List Cell)) (sto : List (Nat × Nat)) (D : Nat -> Bool) (h : List (Nat × Blk)) : List (Nat × Blk) :=
 sto.map (fun p => (n0 + p.2, Blk.cells (if D p.1 = true then (B p.1).getD [] else (B p.2).getD []))) ++ h
structure StoOk (ops : Array Oper) (sto : List (Nat × Nat)) (m : Nat) : Prop where
 lt : ∀ p ∈ sto, p.1 < m /\ p.2 < p.1
 nd : sto.Pairwise fun p q => p.1 ≠ q.1 /\ p.2 ≠ q.2
 cl : ∀ p ∈ sto, Cl ops p.1 p.2
 na : ∀ p ∈ sto, stoOf sto p.2 = none
def stoB (all : List Oper) (sto : List (Nat × Nat)) (m : Nat) : Bool :=
 sto.all (fun p => Nat.blt p.1 m && Nat.blt p.2 p.1 && Nat.blt p.1 all.length && ((cloGo all []).getD p.1 0).testBit p.2 && (stoOf sto p.2).isNone) && decide (sto.Pairwise fun p q => p.1 ≠ q.1 /\ p.2 ≠ q.2)
theorem stoB_ok {ops : Array Oper} {sto : List (Nat × Nat)} {m : Nat} (h : stoB ops.toList sto m = true) : StoOk ops sto m := by
 simp only [stoB, Bool.and_eq_true, List.all_eq_true, decide_eq_true_eq] at h
 obtain ⟨h1, h2⟩ := h
 have hcl := cloGo_spec ops ops.toList [] (fun i o ho => by simpa using ho) (fun i j h => by simp at h)
 refine ⟨fun p hp => ?_, h2, fun p hp => ?_, fun p hp => ?_⟩
 . have := h1 p hp; exact ⟨by simpa [Nat.blt_eq] using this.1.1.1.1, by simpa [Nat.blt_eq] using this.1.1.1.2⟩
 . exact hcl _ _ (h1 p hp).1.2
 . simpa using (h1 p hp).2
theorem stoOf_get : ∀ {sto : List (Nat × Nat)} {i ia : Nat}, stoOf sto i = some ia -> (i, ia) ∈ sto
 | [], _, _, h => by cases h
 | (j, ia') :: l, i, ia, h => by
   simp only [stoOf] at h
   split at h
   . rename_i e; cases h; rw [<- Nat.eq_of_beq_eq_true e]; exact List.mem_cons_self
   . exact List.mem_cons_of_mem _ (stoOf_get h)
theorem stoOf_nd : ∀ {sto : List (Nat × Nat)} {p : Nat × Nat}, (sto.Pairwise fun p q => p.1 ≠ q.1 /\ p.2 ≠ q.2) -> p ∈ sto -> stoOf sto p.1 = some p.2
 | (j, ia) :: l, p, hn, hp => by
   rw [List.pairwise_cons] at hn
   simp only [stoOf]
   rcases List.mem_cons.1 hp with rfl | hp
   . simp
   . have h := (hn.1 p hp).1
     cases hb : Nat.beq j p.1 with
     | true => exact absurd (Nat.eq_of_beq_eq_true hb) h
     | false => exact stoOf_nd hn.2 hp
theorem stoOf_mem {ops : Array Oper} {sto : List (Nat × Nat)} {m : Nat} (hs : StoOk ops sto m) {p : Nat × Nat} (hp : p ∈ sto) : stoOf sto p.1 = some p.2 := stoOf_nd hs.nd hp
theorem hidOf_mem {sto : List (Nat × Nat)} {p : Nat × Nat} (hp : p ∈ sto) : hidOf sto p.2 = true := List.any_eq_true.2 ⟨p, hp, by simp⟩
theorem hidOf_get {sto : List (Nat × Nat)} {i : Nat} (h : hidOf sto i = true) : ∃ p ∈ sto, p.2 = i := by
 obtain ⟨p, hp, e⟩ := List.any_eq_true.1 h
 exact ⟨p, hp, Nat.eq_of_beq_eq_true e⟩
theorem hf_congr {n0 : Nat} {B : Nat -> Option (List Cell)} {sto : List (Nat × Nat)} {D D' : Nat -> Bool} {h : List (Nat × Blk)} (hd : ∀ p ∈ sto, D p.1 = D' p.1) : hfOf n0 B sto D h = hfOf n0 B sto D' h := by
 unfold hfOf
 congr 1
 exact List.map_congr_left fun p hp => by rw [hd p hp]
theorem hf_miss {n0 : Nat} {B : Nat -> Option (List Cell)} {D : Nat -> Bool} {h : List (Nat × Blk)} {k : Nat} : ∀ {sto : List (Nat × Nat)}, (∀ p ∈ sto, k ≠ n0 + p.2) -> lookB (hfOf n0 B sto D h) k = lookB h k
 | [], _ => rfl
 | q :: l, hn => by
   show lookB ((n0 + q.2, _) :: hfOf n0 B l D h) k = _
   rw [lookB_cons, if_neg (fun e => hn q List.mem_cons_self e.symm), hf_miss fun p hp => hn p (List.mem_cons_of_mem _ hp)]
theorem hf_hit' {n0 : Nat} {B : Nat -> Option (List Cell)} {D : Nat -> Bool} {h : List (Nat × Blk)} {p : Nat × Nat} : ∀ {sto : List (Nat × Nat)}, (sto.Pairwise fun p q => p.1 ≠ q.1 /\ p.2 ≠ q.2) -> p ∈ sto -> lookB (hfOf n0 B sto D h) (n0 + p.2) = .cells (if D p.1 = true then (B p.1).getD [] else (B p.2).getD [])
 | q :: l, hn, hp => by
   rw [List.pairwise_cons] at hn
   show lookB ((n0 + q.2, _) :: hfOf n0 B l D h) _ = _
   rw [lookB_cons]
   rcases List.mem_cons.1 hp with rfl | hp
   . rw [if_pos rfl]
   . rw [if_neg (fun e => (hn.1 p hp).2 (by omega))]
     exact hf_hit' hn.2 hp
theorem hf_hit {ops : Array Oper} {m n0 : Nat} {B : Nat -> Option (List Cell)} {sto : List (Nat × Nat)} {D : Nat -> Bool} {h : List (Nat × Blk)} (hs : StoOk ops sto m) {p : Nat × Nat} (hp : p ∈ sto) : lookB (hfOf n0 B sto D h) (n0 + p.2) = .cells (if D p.1 = true then (B p.1).getD [] else (B p.2).getD []) := hf_hit' hs.nd hp
theorem setAt_all {α : Type} : ∀ {l r : List α}, l.length = r.length -> setAt l 0 r = some r
 | l, [], h => by
   have : l = [] := List.eq_nil_of_length_eq_zero (by simpa using h)
   subst this; rfl
 | [], y :: ys, h => by cases h
 | x :: l, y :: ys, h => by
   simp only [setAt]
   rw [setAt_all (by simpa using h)]
section
variable {P : Program} {τ : Tys} {Γ : Sums} {base : Nat} {ψ ψ' : Psi} {S S' : Nat → Prop} {w w' : World} {a : Act}
theorem Rel.heapCg {ts : List (Nat × Tm)} {h h' : List (Nat × Blk)} {n m : Nat} (he : ∀ k, lookB h k = lookB h' k) (hr : Rel P base ψ S w ⟨ts, h, n, m⟩ a) : Rel P base ψ S w ⟨ts, h', n, m⟩ a := by
 have hs := hr.sim
 refine ⟨hr.bas, ⟨hs.dom, fun k l hk => ?_, fun k k' b m1 m2 e1 e2 l1 l2 => ?_, fun k b m1 e1 l1 => ?_, hs.pdom, hs.sdom⟩, hr.lim, hr.defers, hr.tmps⟩
 . show BlkRep P ψ S w (lookB h' k) l
   rw [<- he]; exact hs.blk k l hk
 . have l1 : (lookB h' k).live := l1
   have l2 : (lookB h' k').live := l2
   rw [<- he] at l1 l2
   exact hs.inj k k' b m1 m2 e1 e2 l1 l2
 . have l1 : (lookB h' k).live := l1
   rw [<- he] at l1
   exact hs.dis k b m1 e1 l1
theorem dSto_get {n0 ia : Nat} {all : List Oper} {o : Oper} {st : St} {cs : List Cell} (h : dSto τ n0 all ia o st fun c => c = cs) :
 ∃ t ad xo yv, o.op = .store t ad xo /\ o.guard = none /\ ev st ad = .va (.c (.own (n0 + ia) 0)) /\ ev st xo = .va yv /\ ∃ sz0, yv.lays = true /\ yv.cells = cs /\ (∃ desc bt z, Nat.beq yv.cells.length sz0 = true /\ τ t = some ⟨desc, sz0, bt, z⟩) /\
  ∀ oa, all[ia]? = some oa -> ∃ ti e z, oa.op = .alloc e /\ oa.guard = none /\ τ e = some ti /\ ti.zero = z /\ (zeroCells' z).length = cs.length := by
 unfold dSto at h
 split at h
 . rename_i t ad x oa hop hg hall
   split at h
   . rename_i e hoa hga
     split at h
     . rename_i k y desc size bt z dz sz2 bt2 z2 ea ex ht he
       split at h
       . rename_i q1 q2 q3 q4
         refine ⟨t, ad, x, y, hop, hg, by rw [ea, Nat.eq_of_beq_eq_true q1], ex, size, q2, h, ⟨desc, bt, z, q3, ht⟩, fun oa' hoa' => ?_⟩
         rw [hall] at hoa'; cases hoa'
         refine ⟨_, e, _, hoa, hga, he, rfl, ?_⟩
         rw [<- h, Nat.eq_of_beq_eq_true q3]; exact Nat.eq_of_beq_eq_true q4
       . exact h.elim
     . exact h.elim
   . exact h.elim
 . exact h.elim
def DStep3 (P : Program) (τ : Tys) (Γ : Sums) (n0 : Nat) (all : List Oper) (sto : List (Nat × Nat)) (i : Nat) (o : Oper) (y : Tm) (blk : Option (List Cell)) (st st' : St) : Prop :=
 inLim o.dst st.lim = true /\ st' = ⟨putT o.dst y st.tmps, (match blk, visB sto i with | some cs, true => [(n0 + i, Blk.cells cs)] | _, _ => []) ++ st.heap, st.next, st.lim⟩ /\
  ((stoOf sto i = none /\ ((dWant all st o (fun w => w = false) /\ y = undT /\ blk = none) \/
    ∃ x, dWant all st o (fun w => w = true) /\ dOp P τ Γ (n0 + i) o st (fun x' b' => x' = x /\ b' = blk.map Blk.cells) /\ Known x y)) \/
  ∃ ia cs, stoOf sto i = some ia /\ blk = some cs /\ y = undT /\ dSto τ n0 all ia o st fun c => c = cs)
theorem dSto_lin {n0 ia : Nat} {all : List Oper} {o : Oper} {st : St} : Lin (dSto τ n0 all ia o st) := by
 intro K hk
 unfold dSto at hk ⊢
 split at hk
 . split at hk
   . split at hk
     . split at hk
       . exact ⟨_, hk, rfl⟩
       . exact hk.elim
     . exact hk.elim
   . exact hk.elim
 . exact hk.elim
def spOf (n0 : Nat) (B : Nat -> Option (List Cell)) (sto : List (Nat × Nat)) (i : Nat) (sp0 : List (Nat × Blk)) : Nat -> List (Nat × Blk)
 | 0 => sp0
 | j + 1 => match stoOf sto (i + j) with
   | some ia => (n0 + ia, Blk.cells ((B j).getD [])) :: spOf n0 B sto i sp0 j
   | none => spOf n0 B sto i sp0 j
theorem dGo3_way {n0 : Nat} {gs : List Nat} {all : List Oper} {sto : List (Nat × Nat)} : ∀ (rest : List Oper) (i : Nat) (st : St) (sp : List (Nat × Blk)) (K : St -> List (Nat × Blk) -> Prop), dGo3 P τ Γ n0 gs all sto i rest st sp K ->
 ∃ (f : Nat -> St) (y : Nat -> Tm) (B : Nat -> Option (List Cell)) (sp' : List (Nat × Blk)), f 0 = st /\ K (f rest.length) sp' /\ (∀ j o, rest[j]? = some o -> DStep3 P τ Γ n0 all sto (i + j) o (y j) (B j) (f j) (f (j + 1))) /\
  sp' = spOf n0 B sto i sp rest.length
 | [], i, st, sp, K, hk => ⟨fun _ => st, fun _ => undT, fun _ => none, sp, rfl, hk, fun j o h => by simp at h, rfl⟩
 | o :: rest, i, ⟨ts, h, n, m⟩, sp, K, hk => by
   rw [dGo3_cons] at hk
   split at hk
   . exact hk.elim
   . rename_i hlim
     have shift : ∀ (B : Nat -> Option (List Cell)) (B0 : Option (List Cell)) (sp1 : List (Nat × Blk)), sp1 = spOf n0 (fun j => match j with | 0 => B0 | j + 1 => B j) sto i sp 1 -> ∀ q, spOf n0 B sto (i + 1) sp1 q = spOf n0 (fun j => match j with | 0 => B0 | j + 1 => B j) sto i sp (q + 1) := by
      intro B B0 sp1 h1 q
      induction q with
      | zero => exact h1
      | succ q ih =>
        rw [spOf, spOf, ih, show i + 1 + q = i + (q + 1) by omega]
     have cons : ∀ y0 B0 st1 sp1, DStep3 P τ Γ n0 all sto i o y0 B0 ⟨ts, h, n, m⟩ st1 -> (∀ B : Nat -> Option (List Cell), sp1 = spOf n0 (fun j => match j with | 0 => B0 | j + 1 => B j) sto i sp 1) -> dGo3 P τ Γ n0 gs all sto (i + 1) rest st1 sp1 K ->
      ∃ (f : Nat -> St) (y : Nat -> Tm) (B : Nat -> Option (List Cell)) (sp' : List (Nat × Blk)), f 0 = ⟨ts, h, n, m⟩ /\ K (f (o :: rest).length) sp' /\
      (∀ j o', (o :: rest)[j]? = some o' -> DStep3 P τ Γ n0 all sto (i + j) o' (y j) (B j) (f j) (f (j + 1))) /\ sp' = spOf n0 B sto i sp (o :: rest).length := by
      intro y0 B0 st1 sp1 hs hsp hk
      obtain ⟨f, y, B, sp', g1, g2, g3, g4⟩ := dGo3_way rest (i + 1) st1 sp1 K hk
      refine ⟨fun j => match j with | 0 => ⟨ts, h, n, m⟩ | j + 1 => f j, fun j => match j with | 0 => y0 | j + 1 => y j, fun j => match j with | 0 => B0 | j + 1 => B j, sp', rfl, g2, ?_, ?_⟩
      . intro j o' ho
        cases j with
        | zero => simp at ho; subst ho; simp only [g1]; exact hs
        | succ j => have := g3 j o' (by simpa using ho); rw [show i + (j + 1) = i + 1 + j by omega]; exact this
      . rw [g4, shift B B0 sp1 (hsp B)]; rfl
     split at hk
     . rename_i ia hs
       obtain ⟨cs, g1, g2⟩ := dSto_lin _ hk
       rw [fCs_eq] at g1
       refine cons undT (some cs) _ _ ⟨hlim, ?_, .inr ⟨ia, cs, hs, rfl, rfl, g2⟩⟩ (fun B => ?_) g1
       . have : visB sto i = false := by unfold visB; rw [hs]; simp
         rw [this]; rfl
       . simp only [spOf, Nat.add_zero, hs]; rfl
     . rename_i hs
       obtain ⟨wt, g1, g2⟩ := dWant_lin _ _ _ _ hk
       have hsp : ∀ (B0 : Option (List Cell)) (B : Nat -> Option (List Cell)), sp = spOf n0 (fun j => match j with | 0 => B0 | j + 1 => B j) sto i sp 1 := by
        intro B0 B; simp only [spOf, Nat.add_zero, hs]
       cases wt with
       | false => exact cons undT none _ _ ⟨hlim, rfl, .inl ⟨hs, .inl ⟨g2, rfl, rfl⟩⟩⟩ (hsp _) g1
       | true =>
         obtain ⟨x, b, g3, g4⟩ := dOp_lin _ _ _ _ g1
         simp only [fT_eq] at g3
         cases b with
         | none =>
           obtain ⟨y0, k1, k2⟩ := dPut_ok g3
           exact cons y0 none _ _ ⟨hlim, rfl, .inl ⟨hs, .inr ⟨x, g2, g4, k1⟩⟩⟩ (hsp _) k2
         | some b =>
           cases b with
           | cells cs =>
             simp only [fCs_eq] at g3
             obtain ⟨y0, k1, k2⟩ := dPut_ok g3
             cases hh : hidOf sto i with
             | true =>
               rw [hh] at k2
               exact cons y0 (some cs) _ _ ⟨hlim, by have : visB sto i = false := by unfold visB; rw [hh]; rfl
                                                     rw [this]; rfl, .inl ⟨hs, .inr ⟨x, g2, g4, k1⟩⟩⟩ (hsp _) k2
             | false =>
               rw [hh] at k2
               exact cons y0 (some cs) _ _ ⟨hlim, by have : visB sto i = true := by unfold visB; rw [hh, hs]; rfl
                                                     rw [this]; rfl, .inl ⟨hs, .inr ⟨x, g2, g4, k1⟩⟩⟩ (hsp _) k2
           | _ => exact g3.elim
theorem way_heap3 {n0 : Nat} {ops : List Oper} {sto : List (Nat × Nat)} {f : Nat -> St} {y : Nat -> Tm} {B : Nat -> Option (List Cell)} {m : Nat}
 (hw : ∀ j o, j < m -> ops[j]? = some o -> DStep3 P τ Γ n0 ops sto j o (y j) (B j) (f j) (f (j + 1))) (hops : m <= ops.length) (hid : idsBelow (f 0).heap n0 = true) :
 ∀ i, i <= m -> (∀ k, n0 + i <= k -> lookB (f i).heap k = .gone) /\ (∀ k, k < n0 -> lookB (f i).heap k = lookB (f 0).heap k) /\ (∀ i', i' <= i -> Sup (f i').heap (f i).heap) /\
  (∀ j cs, j < i -> visB sto j = true -> B j = some cs -> lookB (f i).heap (n0 + j) = .cells cs) /\ (f i).next = (f 0).next /\ (f i).lim = (f 0).lim /\ (∀ j, j < i -> visB sto j = false -> lookB (f i).heap (n0 + j) = .gone) := by
 intro i
 induction i with
 | zero =>
   intro _
   exact ⟨fun k hk => idsBelow_look hid hk, fun _ _ => rfl, fun i' hi' => by have : i' = 0 := by omega
                                                                             subst this; exact fun _ _ h _ => h, fun j cs hj => by omega, rfl, rfl, fun j hj => by omega⟩
 | succ i ih =>
   intro hi
   obtain ⟨h1, h2, h3, h4, h5, h6, h7⟩ := ih (by omega)
   have ho : ops[i]? = some (ops[i]'(by omega)) := by simp
   obtain ⟨_, e, _⟩ := hw i _ (by omega) ho
   have look : ∀ k, lookB (f (i + 1)).heap k = match B i, visB sto i with | some cs, true => if n0 + i = k then .cells cs else lookB (f i).heap k | _, _ => lookB (f i).heap k := by
    intro k
    rw [e]
    cases B i with
    | none => rfl
    | some cs =>
      cases visB sto i with
      | true => show lookB ((n0 + i, Blk.cells cs) :: (f i).heap) k = _; rw [lookB_cons]
      | false => rfl
   have hn : (f (i + 1)).next = (f i).next := by rw [e]
   have hl : (f (i + 1)).lim = (f i).lim := by rw [e]
   have ne : ∀ k, k ≠ n0 + i -> lookB (f (i + 1)).heap k = lookB (f i).heap k := by
    intro k hk
    rw [look]
    cases B i with
    | none => rfl
    | some cs =>
      cases visB sto i with
      | true => simp only; rw [if_neg (by omega)]
      | false => rfl
   have sup : Sup (f i).heap (f (i + 1)).heap := by
    intro k b hb hg
    by_cases hk : k = n0 + i
    . rw [h1 k (by omega)] at hb; exact (hg hb.symm).elim
    . rw [ne k hk]; exact hb
   refine ⟨?_, ?_, ?_, ?_, by rw [hn, h5], by rw [hl, h6], ?_⟩
   . intro k hk; rw [ne k (by omega)]; exact h1 k (by omega)
   . intro k hk; rw [ne k (by omega)]; exact h2 k hk
   . intro i' hi'
     rcases Nat.lt_or_eq_of_le hi' with h | rfl
     . intro k b hb hg
       have := h3 i' (by omega) k b hb hg
       exact sup k b this hg
     . exact fun _ _ h _ => h
   . intro j cs hj hv hB
     rcases Nat.lt_succ_iff_lt_or_eq.1 hj with h | rfl
     . rw [ne _ (by omega)]; exact h4 j cs h hv hB
     . rw [look, hB, hv]; simp
   . intro j hj hv
     rcases Nat.lt_succ_iff_lt_or_eq.1 hj with h | rfl
     . rw [ne _ (by omega)]; exact h7 j h hv
     . rw [look, hv]
       cases B j <;> exact h1 _ (Nat.le_refl _)
theorem way_tmps3 {n0 : Nat} {ops : List Oper} {sto : List (Nat × Nat)} {f : Nat -> St} {y : Nat -> Tm} {B : Nat -> Option (List Cell)} {m : Nat} {dst : Nat -> Option Tmp} (hdst : ∀ j o, ops[j]? = some o -> dst j = o.dst)
 (hw : ∀ j o, j < m -> ops[j]? = some o -> DStep3 P τ Γ n0 ops sto j o (y j) (B j) (f j) (f (j + 1))) (hops : m <= ops.length) :
 ∀ i, i <= m -> (f i).tmps = tsOf y dst (f 0).tmps (fun _ => true) i := by
 intro i
 induction i with
 | zero => intro _; rfl
 | succ i ih =>
   intro hi
   have ho : ops[i]? = some (ops[i]'(by omega)) := by simp
   obtain ⟨_, e, _⟩ := hw i _ (by omega) ho
   rw [e]
   simp only [tsOf, hdst i _ ho, ih (by omega)]
theorem draw_head3 (hτ : TysOk P τ) (hz : ∀ t i, τ t = some i -> zeroOk i.zero) (hΓ : SumsOk P Γ) {calls : Nat -> List Va -> St -> (Tm -> St -> Prop) -> Prop} (hcalls : CallsOk P base calls)
 {ops : Array Oper} {Q : Exit -> Act -> World -> Prop} {n0 m : Nat} {f : Nat -> St} {y : Nat -> Tm} {B : Nat -> Option (List Cell)} {dst : Nat -> Option Tmp} {sto : List (Nat × Nat)}
 (hm : m <= ops.size) (hdraw : drawOk2 ops.toList m = true) (hdst : ∀ j o, ops[j]? = some o -> dst j = o.dst)
 (hw : ∀ j o, j < m -> ops.toList[j]? = some o -> DStep3 P τ Γ n0 ops.toList sto j o (y j) (B j) (f j) (f (j + 1))) (hid : idsBelow (f 0).heap n0 = true) (hb : base <= n0) (hsto : StoOk ops sto m) {K : St -> Prop}
 (htail : ∀ (listed : Array Bool) (ψ : Psi) (S : Nat -> Prop) (w : World) (a : Act), listed.size = ops.size -> (∀ j, listed.getD j false = decide (j < m)) -> Rel P base ψ S w ⟨(f m).tmps, hfOf n0 B sto (fun _ => true) (f m).heap, n0 + m, (f m).lim⟩ a ->
   (∀ st' ψ' S' w' a', K st' -> Rel P base ψ' S' w' st' a' -> Ext base ψ S w ψ' S' w' -> Q .normal a' w') -> wpAny P .any ops Q (ops.size - m) listed a w) :
 ∀ (fuel : Nat) (listed : Array Bool) (ψ : Psi) (S : Nat -> Prop) (w : World) (a : Act), listed.size = ops.size -> cntD (fun j => listed.getD j false) m + fuel = ops.size ->
 (∀ j, listed.getD j false = true -> j < m) -> Down ops (fun j => listed.getD j false) -> (∀ j, j < m -> listed.getD j false = false -> ψ (n0 + j) = none) ->
 Rel P base ψ S w ⟨tsOf y dst (f 0).tmps (fun j => listed.getD j false) m, hfOf n0 B sto (fun j => listed.getD j false) (f m).heap, n0 + m, (f m).lim⟩ a ->
 (∀ st' ψ' S' w' a', K st' -> Rel P base ψ' S' w' st' a' -> Ext base ψ S w ψ' S' w' -> Q .normal a' w') -> wpAny P .any ops Q fuel listed a w := by
 obtain ⟨hback, hord⟩ := drawOk2_spec hdraw
 have hheap := way_heap3 hw (by simpa using hm) hid
 have htmps := way_tmps3 (dst := dst) (fun j o ho => hdst j o (by simpa using ho)) hw (by simpa using hm)
 intro fuel
 induction fuel with
 | zero =>
   intro listed ψ S w a hsz hcnt hsup hdown hun hrel hq
   have hle := cntD_le (D := fun j => listed.getD j false) m
   have hfull := cntD_full (D := fun j => listed.getD j false) m (by omega)
   rw [show 0 = ops.size - m by omega]
   refine htail listed ψ S w a hsz ?_ ?_ hq
   . intro j
     by_cases hj : j < m
     . simp only [hj, decide_true]; exact hfull j hj
     . simp only [hj, decide_false]
       cases h : listed.getD j false with
       | false => rfl
       | true => exact absurd (hsup j h) hj
   . rw [hf_congr (D' := fun _ => true) fun p hp => hfull p.1 (hsto.lt p hp).1] at hrel
     refine ⟨hrel.bas, hrel.sim, hrel.lim, hrel.defers, fun t => ?_⟩
     have := hrel.tmps t
     rw [htmps m (Nat.le_refl _)]
     rwa [tsOf_same (D' := fun _ => true) m fun j hj _ => hfull j hj] at this
 | succ fuel ih =>
   intro listed ψ S w a hsz hcnt hsup hdown hun hrel hq
   have hle := cntD_le (D := fun j => listed.getD j false) m
   rcases Nat.lt_or_eq_of_le hle with hlt | heq
   . obtain ⟨j0, hj0, hj1, hj2⟩ := cntD_lt (D := fun j => listed.getD j false) m hlt
     have getD : ∀ j, j < ops.size -> listed.getD j true = listed.getD j false := by
      intro j hj; simp [Array.getD, hsz, hj]
     have hjo : ops[j0]? = some (ops[j0]'(by omega)) := by simp <;> omega
     have hready : j0 ∈ Region.ready .any ops listed := by
      refine mem_ready.2 ⟨by rw [getD j0 (by omega)]; exact hj1, _, hjo, fun e he hbi => ?_⟩
      exact hj2 e.on (hback j0 _ hjo e (by simpa using he) hbi)
     refine ⟨fun h => by rw [h] at hready; simp at hready, ?_⟩
     intro i hi
     obtain ⟨hi1, o, ho, hi2⟩ := mem_ready.1 hi
     have hin : i < ops.size := (Array.getElem?_eq_some_iff.1 ho).1
     rw [getD i hin] at hi1
     have hcl : ∀ j, Cl ops i j -> listed.getD j false = true := fun j h => h.down hdown fun o' ho' e he hbi => by
      rw [ho] at ho'; cases ho'; exact hi2 e (by simpa using he) hbi
     have him : i < m := by
      rcases Nat.lt_or_ge i m with h | h
      . exact h
      . rcases hord i j0 _ o ho hjo (by omega) hj0 with h1 | h1
        . have := hcl _ h1; simp only [this] at hj1; cases hj1
        . exact h1.1
     have hol : ops.toList[i]? = some o := by simpa using ho
     -- the slots that it reads are as in the text's order
     have reads : ∀ t, t ∈ readsOf ops.toList o -> lookT (tsOf y dst (f 0).tmps (fun j => listed.getD j false) m) t = lookT (f i).tmps t := by
      intro t ht
      rw [htmps i (by omega), tsOf_cut (i := i) m (by omega), tsOf_same (D' := fun _ => true) i]
      . intro j hj hd
        have hjo' : ops[j]? = some (ops[j]'(by omega)) := by simp <;> omega
        rcases hord i j _ o ho hjo' hj (by omega) with h1 | h1
        . exact hcl j h1
        . rw [hdst j _ hjo'] at hd
          exact absurd ht ((clash_spec h1.2).1 t hd).1
      . intro j h1 h2 hd
        rcases Nat.lt_or_eq_of_le h1 with h3 | rfl
        . have hjo' : ops[j]? = some (ops[j]'(by omega)) := by simp <;> omega
          rcases hord j i o _ hjo' ho h3 him with h4 | h4
          . cases hD : listed.getD j false with
            | false => rfl
            | true =>
              have : listed.getD i false = true := h4.down hdown fun o' ho' e he hbi => hdown j o' ho' hD e he hbi
              rw [this] at hi1; cases hi1
          . rw [hdst j _ hjo'] at hd
            exact absurd ht ((clash_spec h4.2).2 t hd)
        . exact hi1
     have hD' : ∀ j, (listed.setIfInBounds i true).getD j false = (listed.getD j false || j == i) := by
      intro j
      by_cases hij : i = j
      . subst hij; simp [Array.getD, hsz, hin]
      . rw [getD_set_ne _ hij]
        have : (j == i) = false := by simp <;> omega
        simp [this]
     have adds : ∀ t, lookT (tsOf y dst (f 0).tmps (fun j => (listed.setIfInBounds i true).getD j false) m) t = if dst i = some t then y i else lookT (tsOf y dst (f 0).tmps (fun j => listed.getD j false) m) t := by
      intro t
      refine tsOf_add him hi1 hD' fun j h1 h2 hd hd' => ?_
      have hjo' : ops[j]? = some (ops[j]'(by omega)) := by simp <;> omega
      rcases hord j i o _ hjo' ho h1 him with h4 | h4
      . cases hD : listed.getD j false with
        | false => rfl
        | true =>
          have : listed.getD i false = true := h4.down hdown fun o' ho' e he hbi => hdown j o' ho' hD e he hbi
          rw [this] at hi1; cases hi1
      . rw [hdst j _ hjo'] at hd
        rw [hdst i _ ho] at hd'
        exact absurd hd ((clash_spec h4.2).1 t hd').2
     obtain ⟨hlim, hst, hstep⟩ := hw i o him hol
     have hlim' : inLim o.dst (f m).lim = true := by
      rw [(hheap m (Nat.le_refl _)).2.2.2.2.2.1, <- (hheap i (by omega)).2.2.2.2.2.1]; exact hlim
     -- on with the next ones
     have next : ∀ x, Known x (y i) -> ∀ ψ' S' w' a', Rel P base ψ' S' w' ⟨putT o.dst x (tsOf y dst (f 0).tmps (fun j => listed.getD j false) m), hfOf n0 B sto (fun j => (listed.setIfInBounds i true).getD j false) (f m).heap, n0 + m, (f m).lim⟩ a' -> Ext base ψ S w ψ' S' w' ->
      (∀ k, n0 <= k -> k < n0 + m -> k ≠ n0 + i -> ψ' k = ψ k) -> wpAny P .any ops Q fuel (listed.setIfInBounds i true) a' w' := by
      intro x hkn ψ' S' w' a' hr he hp
      refine ih _ ψ' S' w' a' (by simp [hsz]) ?_ ?_ ?_ ?_ ?_ fun st2 ψ2 S2 w2 a2 q1 q2 q3 => hq _ _ _ _ _ q1 q2 (he.trans q3)
      . have := cntD_add (D := fun j => listed.getD j false) (D' := fun j => (listed.setIfInBounds i true).getD j false) (i := i) hi1 hD' m him
        omega
      . intro j hj
        have hj := (hD' j).symm.trans hj
        simp only [Bool.or_eq_true, beq_iff_eq] at hj
        rcases hj with hj | rfl
        . exact hsup j hj
        . exact him
      . intro j oj hoj hj e he' hbi
        have hj := (hD' j).symm.trans hj
        refine (hD' e.on).trans ?_
        simp only [Bool.or_eq_true, beq_iff_eq] at hj ⊢
        rcases hj with hj | rfl
        . exact .inl (hdown j oj hoj hj e he' hbi)
        . rw [ho] at hoj; cases hoj
          exact .inl (hi2 e (by simpa using he') hbi)
      . intro j hj hDj
        have hDj := (hD' j).symm.trans hDj
        simp only [Bool.or_eq_false_iff, beq_eq_false_iff_ne] at hDj
        rw [hp (n0 + j) (by omega) (by omega) (by omega)]
        exact hun j hj hDj.1
      . refine ⟨hr.bas, hr.sim, hr.lim, hr.defers, fun t => ?_⟩
        have := hr.tmps t
        rw [adds]
        rw [lookT_putT] at this
        rw [<- hdst i o ho] at this
        by_cases hd : dst i = some t
        . rw [if_pos hd] at this ⊢; exact hkn.rep this
        . rw [if_neg hd] at this ⊢; exact this
     have guard : ∀ b, dWant ops.toList (f i) o (fun w => w = b) -> Region.wanted o (yielded ops a.tmps) = b := by
      intro b hb
      refine dWant_real (P := P) (ψ := ψ) (S := S) (w := w) hb fun j want s hg hs => ?_
      rw [<- reads s (by simp only [readsOf, hg, hs]; simp)]
      exact hrel.tmps s
     unfold wpOp
     rw [ho]
     simp only
     have hev : ∀ z ∈ o.op.operands.toList, ev (f i) z = ev ⟨tsOf y dst (f 0).tmps (fun j => listed.getD j false) m, hfOf n0 B sto (fun j => listed.getD j false) (f m).heap, n0 + m, (f m).lim⟩ z := by
      intro z hz
      cases z with
      | tmp t => exact (reads t (operand_reads hz)).symm
      | _ => rfl
     have hrel2 : Rel P (n0 + m) ψ S w ⟨tsOf y dst (f 0).tmps (fun j => listed.getD j false) m, hfOf n0 B sto (fun j => listed.getD j false) (f m).heap, n0 + m, (f m).lim⟩ a := ⟨Nat.le_refl _, hrel.sim, hrel.lim, hrel.defers, hrel.tmps⟩
     rcases hstep with ⟨hns, hstep⟩ | ⟨ia, cs, hs, hBi, hyi, hsd⟩
     . have hsame : hfOf n0 B sto (fun j => (listed.setIfInBounds i true).getD j false) (f m).heap = hfOf n0 B sto (fun j => listed.getD j false) (f m).heap := hf_congr fun p hp => by
        show (listed.setIfInBounds i true).getD p.1 false = listed.getD p.1 false
        rw [hD' p.1]
        have : p.1 ≠ i := fun e => by have := stoOf_mem hsto hp; rw [e, hns] at this; cases this
        simp [this]
       rw [hsame] at next
       have hsup : Sup (f i).heap (hfOf n0 B sto (fun j => listed.getD j false) (f m).heap) := by
        intro k b hb hg
        rw [hf_miss, (hheap m (Nat.le_refl _)).2.2.1 i (by omega) k b hb hg]
        intro p hp e
        have hpl := hsto.lt p hp
        have hgone : lookB (f i).heap k = .gone := by
         rw [e]
         rcases Nat.lt_or_ge p.2 i with h | h
         . exact (hheap i (by omega)).2.2.2.2.2.2 p.2 h (by unfold visB; rw [hidOf_mem hp]; rfl)
         . exact (hheap i (by omega)).1 _ (by omega)
        rw [hgone] at hb; exact hg hb.symm
       rcases hstep with ⟨h1, h2, h3⟩ | ⟨x, h1, h2, h3⟩
       . rw [if_neg (by rw [guard _ h1]; simp)]
         obtain ⟨st2, g1, g2⟩ := putK_rel (v := undef) (putK_put (x := undT) hlim') hrel rfl
         subst g1
         exact next undT (.inl h2) ψ S w _ g2 (Ext.refl _ _ _ _) fun _ _ _ _ => rfl
       . rw [if_pos (guard _ h1)]
         left
         have hop := dOp_congr (st' := ⟨tsOf y dst (f 0).tmps (fun j => listed.getD j false) m, hfOf n0 B sto (fun j => listed.getD j false) (f m).heap, n0 + m, (f m).lim⟩) hev hsup h2
         cases hB : B i with
         | none =>
           rw [hB] at hop
           refine dOp_ok hτ hz hΓ hrel2 hlim' hop _ _ ?_
           rintro st' ψ' S' w' a' rfl g1 g2
           exact next x h3 ψ' S' w' a' ⟨by have := hb; show base <= n0 + m; omega, g1.sim, g1.lim, g1.defers, g1.tmps⟩ (g2.weaken (by omega)) fun k _ hk _ => g2.agr k hk
         | some cs =>
           rw [hB] at hop
           have hlk : lookB (hfOf n0 B sto (fun j => listed.getD j false) (f m).heap) (n0 + i) = .cells cs := by
            by_cases hh : hidOf sto i = true
            . obtain ⟨p, hp, e⟩ := hidOf_get hh
              have hpl := hsto.lt p hp
              have hpj : listed.getD p.1 false = false := by
               cases hc : listed.getD p.1 false with
               | false => rfl
               | true =>
                 have hpo : ops[p.1]? = some (ops[p.1]'(by omega)) := by simp <;> omega
                 have := (hsto.cl p hp).down hdown fun o' ho' e he hbi => hdown p.1 o' ho' hc e he hbi
                 rw [e, hi1] at this; cases this
              have := hf_hit (B := B) (n0 := n0) (D := fun j => listed.getD j false) (h := (f m).heap) hsto hp
              rw [e] at this
              rw [this]
              show Blk.cells (if listed.getD p.1 false = true then _ else (B i).getD []) = _
              rw [hpj, hB]; rfl
            . rw [hf_miss (fun p hp e => hh (by have : p.2 = i := by omega
                                                rw [<- this]; exact hidOf_mem hp))]
              exact (hheap m (Nat.le_refl _)).2.2.2.1 i cs him (by unfold visB; rw [hns]; simpa using hh) hB
           refine dOp_blk (base := base) hτ hz hrel (hun i him hi1) (by omega) (by omega) hlk hlim' hop _ _ ?_
           intro ψ' S' w' a' g1 g2 g3
           exact next x h3 ψ' S' w' a' g1 g2 fun k _ _ hk => g3 k hk
     . obtain ⟨t, ad, xo, yv, hopx, hg, ea, ex, sz0, hlay, hcs, hsz, hZ⟩ := dSto_get hsd
       have hw1 : dWant ops.toList (f i) o (fun w => w = true) := by unfold dWant; rw [hg]
       rw [if_pos (guard _ hw1)]
       left
       have hmem := stoOf_get hs
       have hpl := hsto.lt _ hmem
       have e1 := hev ad (by rw [hopx]; simp [Op.operands])
       have e2 := hev xo (by rw [hopx]; simp [Op.operands])
       have hlook : lookB (hfOf n0 B sto (fun j => listed.getD j false) (f m).heap) (n0 + ia) = .cells ((B ia).getD []) := by
        have := hf_hit (B := B) (n0 := n0) (D := fun j => listed.getD j false) (h := (f m).heap) hsto hmem
        rw [this]
        show Blk.cells (if listed.getD i false = true then _ else _) = _
        rw [hi1]; rfl
       -- the zero cells of the block
       have hia : ops.toList[ia]? = some (ops[ia]'(by omega)) := by simp <;> omega
       have hlen : ((B ia).getD []).length = cs.length := by
        obtain ⟨_, _, hst2⟩ := hw ia _ (by omega) hia
        rcases hst2 with ⟨_, hst2⟩ | ⟨_, _, hq, _⟩
        . obtain ⟨ti, e, z, hoa, hga, hτe, hz0, hzl⟩ := hZ _ hia
          obtain ⟨d1, d2, d3, d4⟩ := ti
          have hz0 : d4 = z := hz0
          subst hz0
          rcases hst2 with ⟨g1, _, _⟩ | ⟨x, _, g2, _⟩
          . unfold dWant at g1; rw [hga] at g1; cases g1
          . unfold dOp at g2
            rw [hoa] at g2
            simp only at g2
            rw [hτe] at g2
            obtain ⟨_, g3⟩ := g2
            cases hBi2 : B ia with
            | none => rw [hBi2] at g3; cases g3
            | some zc =>
              rw [hBi2] at g3
              have : zc = zeroCells' d4 := by simpa using g3.symm
              rw [this, Option.getD_some, hzl]
        . rw [hsto.na _ hmem] at hq; cases hq
       refine oStore_ok (K := fun st' => st' = ⟨putT o.dst undT (tsOf y dst (f 0).tmps (fun j => listed.getD j false) m), (n0 + ia, .cells cs) :: hfOf n0 B sto (fun j => listed.getD j false) (f m).heap, n0 + m, (f m).lim⟩) hτ hrel2 hopx ?_ _ _ ?_
       . rw [<- e1, <- e2, ea, ex]
         obtain ⟨desc, bt, zz, info, hti⟩ := hsz
         unfold oStore
         rw [hti]
         simp only [hlook, hlay, hcs]
         rw [show Nat.beq cs.length sz0 = true by rw [<- hcs]; exact info]
         simp only
         rw [setAt_all hlen]
         simp only [fCs_eq]
         exact putK_put hlim'
       . rintro st' ψ' S' w' a' rfl g1 g2
         refine next undT (.inl (by rw [hyi])) ψ' S' w' a' ?_ (g2.weaken (by omega)) fun k _ hk _ => g2.agr k hk
         refine Rel.heapCg (fun k => ?_) (⟨by have := hb; show base <= n0 + m; omega, g1.sim, g1.lim, g1.defers, g1.tmps⟩ : Rel P base ψ' S' w' _ a')
         rw [lookB_cons]
         by_cases hk : n0 + ia = k
         . rw [if_pos hk, <- hk]
           have := hf_hit (B := B) (n0 := n0) (D := fun j => (listed.setIfInBounds i true).getD j false) (h := (f m).heap) hsto hmem
           rw [this]
           show _ = Blk.cells (if (listed.setIfInBounds i true).getD i false = true then (B i).getD [] else _)
           rw [hD' i, hBi]; simp
         . rw [if_neg hk]
           by_cases hq : ∃ p ∈ sto, k = n0 + p.2
           . obtain ⟨p, hp, e⟩ := hq
             rw [e, hf_hit hsto hp, hf_hit hsto hp]
             congr 1
             have : p.1 ≠ i := fun e3 => by
              have h5 := stoOf_mem hsto hp
              rw [e3, hs] at h5
              have : ia = p.2 := by simpa using h5
              omega
             show (if listed.getD p.1 false = true then _ else _) = (if (listed.setIfInBounds i true).getD p.1 false = true then _ else _)
             rw [hD' p.1]; simp [this]
           . rw [hf_miss (fun p hp e => hq ⟨p, hp, e⟩), hf_miss (fun p hp e => hq ⟨p, hp, e⟩)]
   . have hfull := cntD_full (D := fun j => listed.getD j false) m heq
     rw [show (fuel + 1) = ops.size - m by omega]
     refine htail listed ψ S w a hsz ?_ ?_ hq
     . intro j
       by_cases hj : j < m
       . simp only [hj, decide_true]; exact hfull j hj
       . simp only [hj, decide_false]
         cases h : listed.getD j false with
         | false => rfl
         | true => exact absurd (hsup j h) hj
     . rw [hf_congr (D' := fun _ => true) fun p hp => hfull p.1 (hsto.lt p hp).1] at hrel
       refine ⟨hrel.bas, hrel.sim, hrel.lim, hrel.defers, fun t => ?_⟩
       have := hrel.tmps t
       rw [htmps m (Nat.le_refl _)]
       rwa [tsOf_same (D' := fun _ => true) m fun j hj _ => hfull j hj] at this
theorem pw_ne {sto : List (Nat × Nat)} : (sto.Pairwise fun p q => p.1 ≠ q.1 /\ p.2 ≠ q.2) -> ∀ {p q : Nat × Nat}, p ∈ sto -> q ∈ sto -> p ≠ q -> p.1 ≠ q.1 /\ p.2 ≠ q.2 := by
 intro hn
 induction sto with
 | nil => intro p q hp; cases hp
 | cons x l ih =>
   rw [List.pairwise_cons] at hn
   intro p q hp hq hne
   rcases List.mem_cons.1 hp with e | hp
   . rcases List.mem_cons.1 hq with e' | hq
     . exact absurd (e.trans e'.symm) hne
     . rw [e]; exact hn.1 q hq
   . rcases List.mem_cons.1 hq with e' | hq
     . rw [e']; have := hn.1 p hp; exact ⟨fun e => this.1 e.symm, fun e => this.2 e.symm⟩
     . exact ih hn.2 hp hq hne
theorem lookB_or (h' : List (Nat × Blk)) (k : Nat) : ∀ (h : List (Nat × Blk)), (∀ p ∈ h, p.2 ≠ .gone) -> lookB (h ++ h') k = match lookB h k with | .gone => lookB h' k | b => b
 | [], _ => rfl
 | (i, x) :: l, hg => by
   rw [List.cons_append, lookB_cons, lookB_cons]
   by_cases hi : i = k
   . rw [if_pos hi, if_pos hi]
     have := hg (i, x) List.mem_cons_self
     cases x <;> first | rfl | exact absurd rfl this
   . rw [if_neg hi, if_neg hi]; exact lookB_or h' k l fun p hp => hg p (List.mem_cons_of_mem _ hp)
theorem sp_live {n0 : Nat} {B : Nat -> Option (List Cell)} {sto : List (Nat × Nat)} : ∀ q, ∀ p ∈ spOf n0 B sto 0 [] q, p.2 ≠ .gone
 | 0, p, hp => by cases hp
 | q + 1, p, hp => by
   simp only [spOf] at hp
   split at hp
   . rcases List.mem_cons.1 hp with rfl | hp
     . intro h; cases h
     . exact sp_live q p hp
   . exact sp_live q p hp
theorem sp_miss {n0 k : Nat} {B : Nat -> Option (List Cell)} {sto : List (Nat × Nat)} (hk : ∀ p ∈ sto, k ≠ n0 + p.2) : ∀ q, lookB (spOf n0 B sto 0 [] q) k = .gone
 | 0 => rfl
 | q + 1 => by
   simp only [spOf]
   split
   . rename_i ia hs
     have := hk _ (stoOf_get hs)
     rw [lookB_cons, if_neg (fun e => this e.symm)]; exact sp_miss hk q
   . exact sp_miss hk q
theorem sp_hit {ops : Array Oper} {m n0 : Nat} {B : Nat -> Option (List Cell)} {sto : List (Nat × Nat)} (hs : StoOk ops sto m) {p : Nat × Nat} (hp : p ∈ sto) : ∀ q, p.1 < q -> lookB (spOf n0 B sto 0 [] q) (n0 + p.2) = .cells ((B p.1).getD [])
 | 0, h => by omega
 | q + 1, h => by
   have h1 := stoOf_mem hs hp
   simp only [spOf, Nat.zero_add]
   by_cases e : p.1 = q
   . rw [<- e, h1]; simp only; rw [lookB_cons, if_pos rfl]
   . have ih := sp_hit (n0 := n0) (B := B) hs hp q (by omega)
     split
     . rename_i ia h2
       rw [lookB_cons, if_neg, ih]
       intro e2
       have h3 := stoOf_get h2
       have : (q, ia) = p := by
        have hn := hs.nd
        exact Classical.byContradiction fun hne => by
         have := pw_ne hn h3 hp hne
         have e4 : ia = p.2 := by omega
         exact this.2 e4
       rw [<- this] at e; exact e rfl
     . exact ih
theorem draw_sto_at (hτ : TysOk P τ) (hz : ∀ t i, τ t = some i -> zeroOk i.zero) (hΓ : SumsOk P Γ) {calls : Nat -> List Va -> St -> (Tm -> St -> Prop) -> Prop} (hcalls : CallsOk P base calls) (hmix : P.follows .mixedOrders = true)
 {ops : Array Oper} {id : Nat} {Q : Exit -> Act -> World -> Prop} {st : St} {K : St -> Prop} (hrel : Rel P base ψ S w st a) (hid : idsBelow st.heap st.next = true) {mm : Nat} {sto : List (Nat × Nat)} (hsto : StoOk ops sto mm) (hm : mm <= ops.size) (hdraw : drawOk2 ops.toList mm = true) {K1 : St -> Prop} (hk : dGo3 P τ Γ st.next (guardsOf ops.toList) ops.toList sto 0 (ops.toList.take mm) st [] fun st' sp => match st' with | ⟨ts, h, n, l⟩ => K1 ⟨ts, sp ++ h, n + mm, l⟩)
 (htail : ∀ (listed : Array Bool) (ψ : Psi) (S : Nat -> Prop) (w : World) (st1 : St) (a : Act), K1 st1 -> listed.size = ops.size -> (∀ j, listed.getD j false = decide (j < mm)) -> Rel P base ψ S w st1 a ->
   (∀ st' ψ' S' w' a', K st' -> Rel P base ψ' S' w' st' a' -> Ext base ψ S w ψ' S' w' -> Q .normal a' w') -> wpAny P .any ops Q (ops.size - mm) listed a w)
 (hq : ∀ st' ψ' S' w' a', K st' -> Rel P base ψ' S' w' st' a' -> Ext base ψ S w ψ' S' w' -> Q .normal a' w') : (Code.region id ops true).wp P Q a w := by
 obtain ⟨f, y, B, sp', h1, h2, h3, hsp⟩ := dGo3_way _ _ _ _ _ hk
 have hlen : (ops.toList.take (mm)).length = mm := by simp <;> omega
 rw [hlen] at h2 hsp
 have hw : ∀ j o, j < mm -> ops.toList[j]? = some o -> DStep3 P τ Γ st.next ops.toList sto j o (y j) (B j) (f j) (f (j + 1)) := by
  intro j o hj ho
  have := h3 j o (by rw [List.getElem?_take]; simp [hj]; simpa using ho)
  simpa using this
 have hheap := way_heap3 hw (by simpa using hm) (by rw [h1]; exact hid) _ (Nat.le_refl _)
 obtain ⟨g1, g2, g3, g4, g5, g6, g7⟩ := hheap
 refine wp_region_any hmix ?_
 obtain ⟨hrel1, hext1⟩ : Rel P base ψ S { w with drawn := w.drawn + 1 } st a /\ Ext base ψ S w ψ S { w with drawn := w.drawn + 1 } :=
  hrel.ext0 ⟨rfl, rfl, rfl, Nat.le_refl _, fun _ _ => rfl, fun _ h => h, fun _ h => .inl h, hrel.sim.sdom⟩
 refine draw_head3 (sto := sto) hτ hz hΓ hcalls hm hdraw (dst := fun j => (ops[j]?).bind (·.dst)) (fun j o ho => by simp [ho]) hw (by rw [h1]; exact hid) hrel.bas hsto (K := K) ?_ ops.size _ ψ S _ a (by simp) ?_ ?_ ?_ ?_ ?_ ?_
 . intro listed ψ' S' w' a' q1 q2 q3 q4
   have e : (f (mm)).next = st.next := by rw [g5, h1]
   refine htail listed ψ' S' w' ⟨(f mm).tmps, sp' ++ (f mm).heap, st.next + mm, (f mm).lim⟩ a' ?_ q1 q2 (Rel.heapCg (fun k => ?_) q3) q4
   . rw [<- e]; exact h2
   . rw [hsp, lookB_or _ _ _ (sp_live _)]
     by_cases hq : ∃ p ∈ sto, k = st.next + p.2
     . obtain ⟨p, hp, rfl⟩ := hq
       rw [hf_hit hsto hp, if_pos rfl, sp_hit (n0 := st.next) (B := B) hsto hp mm (hsto.lt p hp).1]
     . rw [hf_miss fun p hp e => hq ⟨p, hp, e⟩, sp_miss (n0 := st.next) (B := B) (sto := sto) (k := k) (fun p hp e => hq ⟨p, hp, e⟩) mm]
 . have : ∀ m, cntD (fun j => (Array.replicate ops.size false).getD j false) m = 0 := by
    intro m
    induction m with
    | zero => rfl
    | succ m ih =>
      simp only [cntD, ih]
      have : (Array.replicate ops.size false)[m]?.getD false = false := by by_cases h : m < ops.size <;> simp [h]
      simp [this]
   rw [this]; simp
 . intro j hj; simp [Array.getD] at hj
 . intro i o _ hi; simp [Array.getD] at hi
 . intro j _ _; exact hrel.sim.dom _ (by omega)
 . have hts : tsOf y (fun j => (ops[j]?).bind (·.dst)) (f 0).tmps (fun j => (Array.replicate ops.size false).getD j false) (mm) = st.tmps := by
    rw [h1]
    clear hk h2 h3 hw g1 g2 g3 g4 g5 g6 g7 hsp hsto
    clear hm hdraw hlen
    generalize mm = m
    induction m with
    | zero => rfl
    | succ m ih => simp only [tsOf]; have : (Array.replicate ops.size false).getD m false = false := by simp [Array.getD]
                   rw [this]; exact ih
   rw [hts, g6, h1]
   have hlook : ∀ k l, ψ k = some l -> lookB (hfOf st.next B sto (fun j => (Array.replicate ops.size false).getD j false) (f (mm)).heap) k = lookB st.heap k := by
    intro k l hk
    have : k < st.next := by
     rcases Nat.lt_or_ge k st.next with h | h
     . exact h
     . rw [hrel.sim.dom k h] at hk; cases hk
    rw [hf_miss (fun p hp e => by omega), g2 k this, h1]
   have hs := hrel1.sim
   refine ⟨by have := hrel.bas; show base <= st.next + _; omega, ⟨fun k hk => hs.dom k (by have hk : st.next + mm <= k := hk; omega), fun k l hk => by rw [hlook k l hk]; exact hs.blk k l hk, fun k k' b m1 m2 e1 e2 l1 l2 => ?_, fun k b m1 e1 l1 => ?_, hs.pdom, hs.sdom⟩, hrel1.lim, hrel1.defers, hrel1.tmps⟩
   . rw [hlook _ _ e1] at l1; rw [hlook _ _ e2] at l2; exact hs.inj k k' b m1 m2 e1 e2 l1 l2
   . rw [hlook _ _ e1] at l1; exact hs.dis k b m1 e1 l1
 . intro st' ψ' S' w' a' q1 q2 q3
   exact hq _ _ _ _ _ q1 q2 (hext1.trans q3)
end
structure Tl (F G : St -> Prop) : Prop where
 run : True -> ∃ s, F s /\ G s
theorem tl_intro {F G : St -> Prop} {s : St} (h1 : F s) (h2 : G s) : Tl F G := ⟨fun _ => ⟨s, h1, h2⟩⟩
theorem draw_sto {P : Program} {t : TT} (ht : t.ok P) {l : List (Nat × Sm)} (hl : sumsOk P l) (hmix : P.follows .mixedOrders = true) {base : Nat} {ops : Array Oper} {id : Nat} {st : St} {Q : Exit -> St -> Prop} (m : Nat) (sto : List (Nat × Nat)) (p : Plan) (live : List Nat)
 (hp : (Region.noSelect ops && Nat.ble m ops.size && drawOk2 ops.toList m && stoB ops.toList sto m && planOk ops (ops.size - m) ((List.range ops.size).map fun j => Nat.blt j m).toArray p) = true) (hid : idsBelow st.heap st.next = true)
 (hk : dGo3 P t.get (sums l) st.next (guardsOf ops.toList) ops.toList sto 0 (ops.toList.take m) st [] fun st' sp => match st' with
   | ⟨ts, h, n, lm⟩ => Tl (fun s => vcP P t.get (vcCall P (sums l) base) ops.toList p ⟨ts, sp ++ h, n + m, lm⟩ fun st' => normK live st' fun s' => s' = s) fun s => Q .normal s) : ASat P base (.region id ops true) st Q := by
 simp only [Bool.and_eq_true] at hp
 obtain ⟨⟨⟨⟨hsel, hm⟩, hd⟩, hsb⟩, hpl⟩ := hp
 have hm := Nat.le_of_ble_eq_true hm
 refine ⟨fun ψ S w a hr => ?_⟩
 have h := draw_sto_at (Q := fun e a' w' => e = .normal /\ ∃ st' ψ' S', Q e st' /\ Rel P base ψ' S' w' st' a' /\ Ext base ψ S w ψ' S' w') (TT.tysOk ht) (TT.zeros ht) (sums_ok hl) (vcCall_ok (sums_ok hl) base) hmix hr hid (stoB_ok hsb) hm hd (K := Q .normal) (id := id)
  (K1 := fun st1 => Tl (fun s => vcP P t.get (vcCall P (sums l) base) ops.toList p st1 fun st' => normK live st' fun s' => s' = s) fun s => Q .normal s) hk ?_ ?_
 . exact wp_mono h fun e a' w' h => h.2
 . intro listed ψ1 S1 w1 st1 a1 hk1 hsz hls hrel hq
   obtain ⟨s, hv, hs⟩ := hk1.run trivial
   have e : listed = ((List.range ops.size).map fun j => Nat.blt j m).toArray := by
    apply Array.ext
    . simp [hsz]
    . intro i h1 h2
      have := hls i
      simp only [Array.getD, h1, dite_true] at this
      simp only [List.getElem_toArray, List.getElem_map, List.getElem_range]
      rw [show listed[i] = decide (i < m) from this]
      rw [Bool.eq_iff_iff, decide_eq_true_eq, Nat.blt_eq]
   rw [<- e] at hpl
   refine vcP_ok (TT.tysOk ht) (TT.zeros ht) (vcCall_ok (sums_ok hl) base) hsel (fun c a w h => by simp at h) p _ listed ψ1 S1 w1 st1 a1 _ hpl hrel hv ?_
   intro st' ψ' S' w' a' h1 h2 h3
   have h1 : normK live st' (fun s' => s' = s) := h1
   rw [normK_eq] at h1
   refine hq s ψ' S' w' a' hs ?_ h3
   rw [<- h1]; exact h2.norm live
 . intro st' ψ' S' w' a' h1 h2 h3
   exact ⟨rfl, st', ψ', S', h1, h2, h3⟩
section
variable {P : Program} {τ : Tys}
def satF (P : Program) (τ : Tys) (fr : Bool) (fn : Func) (as0 : List Ar) (K : Rt -> List (Option (Nat -> List DV)) -> Prop) : Prop :=
 match fn, arsVa 0 as0 with
 | ⟨_, _, _, _, _, _, ntmps, results, some c, _, _, _, _, _, _, _⟩, (vas, h, n) => as0.length <= ntmps /\ ASat P n c ⟨zipN 0 (vas.map .va), h, n, ntmps⟩ (finQ τ fr (arsRows as0) results.toList K)
 | _, _ => False
theorem FCat_coreA (hτ : TysOk P τ)
 {f : Nat} {fn : Func} (hf : P.funcs[f]? = some fn) (hname : (fn.name == "runtime.NumGoroutine") = false) {fr : Bool} {as0 : List Ar} {r : Rt} {us : List (Option (Nat -> List DV))}
 (hk : satF P τ fr fn as0 fun r' us' => rtEq r' r /\ usEq (arsRows as0) us' us) : FCat P f as0 r us := by
 unfold satF at hk
 split at hk
 . rename_i nm orig targs params rts nfree ntmps rs c nr ours file el ln met tn vas h n hars
   . obtain ⟨hlen, hk⟩ := hk
     intro S w vals ls hS hargs hsep
     obtain ⟨g1, g2, g3⟩ := ars_rep (ψ := psiFrom 0 ls) as0 vals ls 0 hargs (fun j l hj => by simpa [psiFrom] using hj)
     have hnx := arsVa_next as0 0
     rw [hars] at g1 g2 hnx
     simp only [Nat.zero_add] at g1 g2 hnx
     have hsim := start_sim (P := P) hS g2 hsep
     rw [g3, <- hnx] at hsim
     have hvl : vals.length = as0.length := by
      have h1 := g1.length
      have : ∀ (xs : List Ar) (i : Nat), (arsVa i xs).1.length = xs.length := by
       intro xs
       induction xs with
       | nil => intro i; rfl
       | cons x xs ih => intro i; simp [arsVa, ih]
      have h2 := this as0 0
      rw [hars] at h2
      simp only at h2
      omega
     refine .inl ⟨⟨_, c, hf, rfl, hname⟩, calls_of_wp hf rfl ?_⟩
     have hrel : Rel P n (psiFrom 0 ls) S w ⟨zipN 0 (vas.map .va), h, n, ntmps⟩ { tmps := vals.toArray ++ Array.replicate (ntmps - vals.toArray.size) undef, defers := [] } :=
      ⟨Nat.le_refl _, hsim, by simp; omega, rfl, fun t => start_tmps g1 ntmps t⟩
     refine wp_mono (hk.run _ S w _ hrel) ?_
     rintro e a' w' ⟨st', ψ', S', hq, hr', he⟩
     have main : fin τ fr (arsRows as0) rs.toList (fun r' us' => rtEq r' r /\ usEq (arsRows as0) us' us) st' ->
      a'.defers = [] /\ ∃ v, (results ⟨nm, orig, targs, params, rts, nfree, ntmps, rs, some c, nr, ours, file, el, ln, met, tn⟩ a'.tmps).run P w' = .ok v w' /\
       ∃ v2 S' ls', Ending.returned v = .returned v2 /\ RepRt P S' w' r v2 ls' /\ RepUs S' w' (arsRows as0) us ls /\ Sep S' w' (keptLocs us ls ++ ls') /\ ExtA S w ls S' w' ls' := by
      intro hq
      refine ⟨hr'.defers, ?_⟩
      unfold fin at hq
      obtain ⟨xs, vs, k1, k2, k3⟩ := resVars_ok hτ hr' hq
      refine ⟨_, results_run k3, ?_⟩
      -- one state, frozen or not
      have go : ∀ (S2 : Nat -> Prop) (h2 : List (Nat × Blk)), Rel P n ψ' S2 w' ⟨st'.tmps, h2, st'.next, st'.lim⟩ a' -> Ext n (psiFrom 0 ls) S w ψ' S2 w' -> All2 (RepVa P ψ' S2 w') xs vs ->
       (resVas h2 [] xs fun xs used => restRows h2 used 0 (arsRows as0) fun us' => rtEq (rtOf xs) r /\ usEq (arsRows as0) us' us) ->
       ∃ v2 S' ls', Ending.returned (valOf vs) = .returned v2 /\ RepRt P S' w' r v2 ls' /\ RepUs S' w' (arsRows as0) us ls /\ Sep S' w' (keptLocs us ls ++ ls') /\ ExtA S w ls S' w' ls' := by
       intro S2 h2 hr2 he2 hxs hres
       obtain ⟨ars, ids, ls2, p1, p2, p3, p4⟩ := resVas_ok hr2.sim (used := []) ⟨by simp, by simp⟩ hxs hres
       simp only [List.append_nil] at p3 p4
       obtain ⟨us2, ids2, q1, q2, q3, q4, q5, q6⟩ := restRows_ok hr2.sim (i := 0) (ls := ls) (by simpa using g3.symm) (fun j l hj => by
        rw [he2.agr (0 + j) (by rw [hnx, <- g3]; simpa using (List.getElem?_eq_some_iff.1 hj).1)]
        simpa [psiFrom] using hj) p3 p4
       have hsepA : Sep S2 w' (keptLocs us2 ls ++ ls2) := by
        refine sep_of_ids (h := h2) hr2.sim (ids := ids2 ++ ids) (q2.append p2) ⟨?_, ?_⟩
        . have := q3.1
          rw [List.nodup_append] at this ⊢
          refine ⟨this.1, (List.Perm.nodup_iff (List.reverse_perm ids)).1 this.2.1, fun a ha b hb => this.2.2 a ha b (by simpa using hb)⟩
        . intro k hk; exact q3.2 k (by simpa using hk)
       have hrt : RepRt P S2 w' (rtOf ars) (valOf vs) ls2 := by
        cases ars with
        | nil => cases vs with
          | nil => exact ⟨#[], rfl, p1⟩
          | cons _ _ => exact p1.elim
        | cons x ars => cases vs with
          | nil => exact p1.elim
          | cons v vs => cases ars with
            | nil => cases vs with
              | nil =>
                obtain ⟨l1, l2, e, p5, p6⟩ := p1
                have : l2 = [] := p6
                subst this
                simp at e; subst e
                exact p5
              | cons _ _ => obtain ⟨l1, l2, e, p5, p6⟩ := p1; exact p6.elim
            | cons y ars => cases vs with
              | nil => obtain ⟨l1, l2, e, p5, p6⟩ := p1; exact p6.elim
              | cons u vs => exact ⟨(v :: u :: vs).toArray, rfl, p1⟩
       obtain ⟨ls3, r1, r2⟩ := q5.rep hrt
       obtain ⟨r3, r4⟩ := q6.rep q1
       refine ⟨_, S2, ls3, rfl, r1, r3, ?_, ?_⟩
       . exact ((Ins.refl _).append r2).sep (sep_sub (r4.append (List.Sublist.refl _)) hsepA)
       . have himg : ∀ k m b, psiFrom 0 ls k = some (.at b m) -> blkIn ls b := fun k m b hk => ⟨m, List.mem_of_getElem? (by simpa [psiFrom] using hk)⟩
         refine ⟨he2.os, he2.tape, he2.output, he2.grow, fun b hb hno => he2.old b hb fun k m hk => hno (himg k m b hk), he2.later, ?_, ?_, hr2.sim.sdom⟩
         . intro b hb
           rcases he2.newS b hb with h1 | ⟨k, m, h1⟩ | h1
           . exact .inl h1
           . exact .inr (.inl (himg k m b h1))
           . exact .inr (.inr h1)
         . intro b hb
           obtain ⟨m, hm⟩ := r2.blkIn hb
           obtain ⟨j, hj, e⟩ := List.mem_iff_getElem.1 hm
           have hlen2 := p2.length
           obtain ⟨y, e1, e2⟩ := p2.get j (ids[j]'(by omega)) (by simp)
           have e3 : ls2[j]? = some (.at b m) := by rw [List.getElem?_eq_getElem hj, e]
           rw [e3] at e1; cases e1
           rcases he2.newP _ b m e2 with ⟨k, m', h1⟩ | h1
           . exact .inl (himg k m' b h1)
           . exact .inr h1
      cases fr with
      | false => exact go S' st'.heap hr' he k1 k2
      | true =>
        obtain ⟨h2, S2, p1, p2, p3⟩ := frVas_ok (ts := st'.tmps) (n := st'.next) (m := st'.lim) xs vs st'.heap S' hr' k1 k2
        exact go S2 h2 p2 (he.trans p3) (k1.mono fun _ _ h => h.later (PsiSub.refl _) p3.later) p1
     cases e with
     | normal => exact main hq
     | ret => exact main hq
     | exit id => exact hq.elim
     | goto l => exact hq.elim
     | panic ch => exact hq.elim
     | outgrown => exact hq.elim
 . exact hk.elim
theorem fcatA {x : TT} (hx : x.ok P) {f : Nat} {fn : Func} (hf : P.funcs[f]? = some fn) (hname : (fn.name == "runtime.NumGoroutine") = false) (fr : Bool) {as0 : List Ar} {r : Rt} {us : List (Option (Nat -> List DV))}
 (hk : satF P x.get fr fn as0 fun r' us' => rtEq r' r /\ usEq (arsRows as0) us' us) : FCat P f as0 r us := FCat_coreA (TT.tysOk hx) hf hname hk
def thenJ (K : St -> Prop) (Q : Exit -> St -> Prop) : Exit -> St -> Prop
 | .normal, st => K st
 | .exit id, st => Q (.exit id) st
 | .goto l, st => Q (.goto l) st
 | .ret, st => Q .ret st
 | _, _ => False
variable {base : Nat} {x y z : Code} {st : St} {Q : Exit → St → Prop}
theorem ASat.seq (h : ASat P base x st (thenJ (fun st => ASat P base y st Q) Q)) : ASat P base (.seq x y) st Q := by
 refine ⟨fun ψ S w a hr => wp_seq (wp_mono (h.run ψ S w a hr) ?_)⟩
 rintro e a' w' ⟨st', ψ', S', hq, hr', he⟩
 cases e with
 | normal =>
   refine wp_mono ((show ASat P base y st' Q from hq).run ψ' S' w' a' hr') ?_
   rintro e a2 w2 ⟨st2, ψ2, S2, hq2, hr2, he2⟩
   exact ⟨st2, ψ2, S2, hq2, hr2, he.trans he2⟩
 | exit id => exact ⟨st', ψ', S', hq, hr', he⟩
 | goto l => exact ⟨st', ψ', S', hq, hr', he⟩
 | ret => exact ⟨st', ψ', S', hq, hr', he⟩
 | panic ch => exact hq.elim
 | outgrown => exact hq.elim
theorem ASat.norm {c : Code} (live : List Nat) (h : ASat P base c (Go.Sx.norm live st) Q) : ASat P base c st Q := ⟨fun ψ S w a hr => h.run ψ S w a (hr.norm live)⟩
variable {t : TT} {l : List (Nat × Sm)}
theorem ASat.vc (ht : t.ok P) (hl : sumsOk P l) (hmix : P.follows .mixedOrders = true) (h : Go.Sx.vc P t.get (sums l) (vcCall P (sums l) base) base x st Q) : ASat P base x st Q :=
 vc_ok (TT.tysOk ht) (TT.zeros ht) (sums_ok hl) hmix (vcCall_ok (sums_ok hl) base) x _ _ h
theorem ASat.seqA (ht : t.ok P) (hl : sumsOk P l) (hmix : P.follows .mixedOrders = true) (h : Go.Sx.vc P t.get (sums l) (vcCall P (sums l) base) base x st (thenJ (fun st => ASat P base y st Q) Q)) : ASat P base (.seq x y) st Q :=
 .seq (.vc ht hl hmix h)
theorem ASat.seqJ (ht : t.ok P) (hl : sumsOk P l) (hmix : P.follows .mixedOrders = true) (live : List Nat) (h : Tl (fun s => Go.Sx.vc P t.get (sums l) (vcCall P (sums l) base) base x st (thenJ (fun st' => normK live st' fun s' => s' = s) Q)) fun s => ASat P base y s Q) : ASat P base (.seq x y) st Q := by
 obtain ⟨s, h1, h2⟩ := h.run trivial
 refine .seq ((ASat.vc ht hl hmix h1).mono fun e st' h => ?_)
 cases e with
 | normal =>
   have h : normK live st' fun s' => s' = s := h
   rw [normK_eq] at h
   exact .norm live (by rw [h]; exact h2)
 | _ => exact h
end
end Go.Sx
namespace Go.Proofs.YtehpbhpmkhlldaaGreat
open Go.Sx
abbrev nrm (v : Vl) : Vl := ⟨v.i, ⟨v.t.null, gN v.t.names.length fun i => [st (atS v.t.names i)]⟩⟩
theorem nrm_eq (v : Vl) : nrm v = v := by unfold nrm; rw [gN_lst]
theorem okV_join {a b : Vl} (ha : okV a) (hb : okV b) (h : (a.t.names.length + b.t.names.length) * 16 <= 140737488351232) : okV (Vl.join a b) := by
 have h1 := okV_of ha
 have h2 := okV_of hb
 refine ⟨⟨?_, fun _ _ => rfl⟩, Sp.join_inR h1.2.1 h2.2.1, Cg.join_inR h1.2.2 h2.2.2⟩
 show (ofS (ofS a.t.names ++ ofS b.t.names)).length * 16 <= 140737488351232
 have k1 := ofS_len (ofS a.t.names ++ ofS b.t.names)
 have k2 := ofS_len a.t.names
 have k3 := ofS_len b.t.names
 rw [List.length_append] at k1
 omega
theorem okV_widen {a b : Vl} {l : List Int} (ha : okV a) (hb : okV b) (h : (a.t.names.length + b.t.names.length) * 16 <= 140737488351232) (hl : ∀ x, x ∈ l -> rI x) : okV (Vl.widen a b l) := by
 have h1 := okV_of ha
 have h2 := okV_of hb
 refine ⟨⟨?_, fun _ _ => rfl⟩, Sp.widen_inR h1.2.1 h2.2.1 hl, Cg.join_inR h1.2.2 h2.2.2⟩
 show (ofS (ofS a.t.names ++ ofS b.t.names)).length * 16 <= 140737488351232
 have k1 := ofS_len (ofS a.t.names ++ ofS b.t.names)
 have k2 := ofS_len a.t.names
 have k3 := ofS_len b.t.names
 rw [List.length_append] at k1
 omega
theorem okV_zero : okV Vl.zero := ⟨⟨by show (0 : Nat) * 16 <= 140737488351232; omega, fun _ _ => rfl⟩, by unfold Vl.zero Ig.zero Sp.inR Cg.inR; decide⟩
theorem okV_narrow {a b : Vl} (ha : okV a) (hb : okV b) : okV (Vl.narrow a b) := by
 have h1 := okV_of ha
 have h2 := okV_of hb
 have h3 := Sp.narrow_inR h1.2.1 h2.2.1
 unfold Vl.narrow
 split
 . exact h1
 . split
   . exact okV_zero
   . refine ⟨h1.1, ?_⟩
     split
     . exact Ig.clean_inR h3 h2.2.2
     . exact Ig.clean_inR h3 h1.2.2
theorem okV_meet {a b : Vl} (ha : okV a) (hb : okV b) : okV (Vl.meet a b) := by
 have h := okV_meetF ha hb
 have h2 := ok_reduce (i := (Vl.meetF a b).i) (z := (Vl.meetF a b).t.null) (n := (Vl.meetF a b).t.names.length) (f := fun i => [st (atS (Vl.meetF a b).t.names i)]) h.1.1 h.2.1 h.2.2
 rw [gN_lst] at h2
 exact h2
theorem fits_of {a b : Vl} (h : Cg.fits a.i.c.clean b.i.c.clean = true) : Cg.fits a.of.i.c b.of.i.c = true := by
 show Cg.fits (Ig.clean a.i).c (Ig.clean b.i).c = true
 unfold Ig.clean
 split
 . unfold Cg.fits Ig.zero; rfl
 . split
   . unfold Cg.fits Ig.zero; simp
   . exact h
theorem fit_q {X Y : Cg} (rX : X.inR) (rY : Y.inR) (hx : decide (X.m > 0) = true) (hy : decide (Y.m > 0) = true) : IntKind.u64.wrap X.m = X.m /\ IntKind.u64.wrap Y.m = Y.m /\ IntKind.i64.wrap (Int.gcd X.m Y.m : Int) = (Int.gcd X.m Y.m : Int) /\ IntKind.i64.wrap (Y.m.tdiv (Int.gcd X.m Y.m : Int)) = Y.m / (Int.gcd X.m Y.m : Int) /\ 0 < (Int.gcd X.m Y.m : Int) /\ (0 <= Y.m / (Int.gcd X.m Y.m : Int) /\ Y.m / (Int.gcd X.m Y.m : Int) < 9223372036854775808) /\ (0 < X.m /\ X.m < 9223372036854775808) /\ (0 < Y.m /\ Y.m < 9223372036854775808) /\ Wd.val (wd (X.m * (Y.m / (Int.gcd X.m Y.m : Int)))) = Cg.lc X Y := by
 have hx := of_decide_eq_true hx
 have hy := of_decide_eq_true hy
 have p0 : 0 < X.m := hx
 have p1 : 0 < Y.m := hy
 unfold Cg.inR at rX rY
 have q := quot_pos p0 p1
 have d := Int.ediv_le_self (Int.gcd X.m Y.m : Int) (show 0 <= Y.m by omega)
 have g0 := Int.le_of_dvd p0 (Int.gcd_dvd_left X.m Y.m)
 have m1 : X.m * (Y.m / (Int.gcd X.m Y.m : Int)) <= 9223372036854775808 * 9223372036854775808 := Int.mul_le_mul (by omega) (by omega) (by omega) (by decide)
 have m0 : 0 <= X.m * (Y.m / (Int.gcd X.m Y.m : Int)) := Int.mul_nonneg (by omega) (by omega)
 refine ⟨wU_id _ (by omega) (by omega), wU_id _ (by omega) (by omega), wI_id _ (by omega) (by omega), ?_, q.2.2, by omega, by omega, by omega, wd_val (by omega) (by omega)⟩
 rw [Int.tdiv_eq_ediv_of_nonneg (by omega), wI_id _ (by omega) (by omega)]
abbrev fitV (X Y : Cg) : Wd := wd (X.m * IntKind.i64.wrap (Y.m.tdiv (IntKind.i64.wrap (Int.gcd (IntKind.u64.wrap X.m) (IntKind.u64.wrap Y.m) : Int))))
theorem fit_a {X Y : Cg} (h : decide (X.m > 0) = false) : Cg.fits X Y = true := by
 have h := of_decide_eq_false h
 unfold Cg.fits; rw [decide_eq_false (show ¬ 0 < X.m by omega)]; rfl
theorem fit_b {X Y : Cg} (h : decide (Y.m > 0) = false) : Cg.fits X Y = true := by
 have h := of_decide_eq_false h
 unfold Cg.fits; rw [decide_eq_false (show ¬ 0 < Y.m by omega), Bool.and_false]; rfl
theorem fit_c {X Y : Cg} (rX : X.inR) (rY : Y.inR) (hx : decide (X.m > 0) = true) (hy : decide (Y.m > 0) = true) (h : wIntB (Wd.val ⟨(fitV X Y).hi, (fitV X Y).lo⟩) = true) : Cg.fits X Y = true := by
 obtain ⟨a, b, c, d, _, _, _, _, e⟩ := fit_q rX rY hx hy
 have h : wIntB (fitV X Y).val = true := h
 unfold fitV at h
 rw [a, b, c, d, e] at h
 unfold Cg.fits; rw [h, Bool.or_true]
theorem row1 {n : Int} (hn : rI n) : ∀ i, i < 1 -> (fun i => Sx.rowAt 1 [DV.v (Value.int IntKind.i64 n)] (0 + i)) i = [it (gI ((fun i => Sx.rowAt 1 [DV.v (Value.int IntKind.i64 n)] (0 + i)) i))] /\ rI (gI ((fun i => Sx.rowAt 1 [DV.v (Value.int IntKind.i64 n)] (0 + i)) i)) := by
 intro i hi
 obtain rfl : i = 0 := by omega
 exact ⟨rfl, hn⟩
theorem nt {b : Bool} (h : b = true) : (!b) = false := by rw [h]; rfl
theorem nq {a b : Bool} (h : a = b) : (!(a == b)) = false := by rw [h]; simp
structure MtF (a b J M : Vl) (n : Int) (x : ByteArray) : Prop where
 j1 : (!Vl.leq a (nrm J)) = false
 j2 : (!Vl.leq b (nrm J)) = false
 j3 : a.hasInt n = true -> (!(nrm J).hasInt n) = false
 j4 : b.hasInt n = true -> (!(nrm J).hasInt n) = false
 p1 : hasS a.t.null a.t.names x = true -> (!(hasS (nrm J).t.null (nrm J).t.names x == true)) = false
 p2 : hasS a.t.null a.t.names x = false -> (!(hasS (nrm J).t.null (nrm J).t.names x == hasS b.t.null b.t.names x)) = false
 m1 : a.hasInt n = true -> b.hasInt n = true -> (!(nrm M).hasInt n) = false
 q1 : hasS a.t.null a.t.names x = true -> (!(hasS (nrm M).t.null (nrm M).t.names x == hasS b.t.null b.t.names x)) = false
 q2 : hasS a.t.null a.t.names x = false -> (!(hasS (nrm M).t.null (nrm M).t.names x == false)) = false
 e1 : Cg.fits a.i.c.clean b.i.c.clean = true -> a.hasInt n = true -> (!((nrm M).hasInt n == b.hasInt n)) = false
 e2 : Cg.fits a.i.c.clean b.i.c.clean = true -> a.hasInt n = false -> (!((nrm M).hasInt n == false)) = false
theorem mtF {a b : Vl} {n : Int} (x : ByteArray) (ha : okV a) (hb : okV b) (hn : -9223372036854775808 <= n /\ n < 9223372036854775808) : MtF a b (Vl.join a b) (Vl.meet a b) n x := by
 constructor <;> rw [nrm_eq]
 . exact nt (Vl.l3_join1 a b)
 . exact nt (Vl.l3_join2 a b)
 . exact fun h => nt (jn_sound (by rw [h]; rfl))
 . exact fun h => nt (jn_sound (by rw [h, Bool.or_true]))
 . exact fun h => nq (by rw [jn_ptr, h]; rfl)
 . exact fun h => nq (by rw [jn_ptr, h]; rfl)
 . exact fun h h2 => nt (mt_sound ha.2 hb.2 hn h h2)
 . exact fun h => nq (by rw [mt_ptr, h]; rfl)
 . exact fun h => nq (by rw [mt_ptr, h]; rfl)
 . exact fun h h2 => nq (by rw [mt_exact ha.2 hb.2 hn (fits_of h), h2]; rfl)
 . exact fun h h2 => nq (by rw [mt_exact ha.2 hb.2 hn (fits_of h), h2]; rfl)
def FValueMeets : List Ar -> Option Rs
 | [.agg [.d (.v (.bool sa0)), .d (.v (.int .i64 la0)), .d (.v (.int .i64 ha0)), .d (.v (.bool ba0)), .d (.v (.int .i64 ma0)), .d (.v (.int .i64 ra0)), .d (.v (.bool _)), .d (.lst 1 na0 fa0), .d (.v (.bool sb0)), .d (.v (.int .i64 lb0)), .d (.v (.int .i64 hb0)), .d (.v (.bool bb0)), .d (.v (.int .i64 mb0)), .d (.v (.int .i64 rb0)), .d (.v (.bool _)), .d (.lst 1 nb0 fb0), .d (.v (.int .i64 i0)), .d (.v (.string _))]] => some ⟨(((na0 * 16 <= 140737488351232 /\ ∀ i, i < na0 -> fa0 i = [st (gT (fa0 i))]) /\ Sp.inR ⟨sa0, la0, ha0⟩ /\ Cg.inR ⟨ba0, ma0, ra0⟩) /\ ((nb0 * 16 <= 140737488351232 /\ ∀ i, i < nb0 -> fb0 i = [st (gT (fb0 i))]) /\ Sp.inR ⟨sb0, lb0, hb0⟩ /\ Cg.inR ⟨bb0, mb0, rb0⟩) /\ (-9223372036854775808 <= i0 /\ i0 < 9223372036854775808) /\ (na0 + nb0) * 16 <= 140737488351232), .va (.c (.d (bo (true)))), []⟩
 | _ => none
abbrev sl2V : List (Nat × Sm) := [(7, ⟨[], FVJoin⟩), (8, ⟨[], FVMeet⟩), (9, ⟨[], FRVHasInt⟩), (10, ⟨[], FRHas⟩), (11, ⟨[], FVLeq⟩), (12, ⟨[], FVHasInt⟩), (13, ⟨[], FVHasPtr⟩), (14, ⟨[], FRCClean⟩), (17, ⟨[], FRCGcd⟩), (16, ⟨[], FRMul⟩), (15, ⟨[], FRInt⟩), (18, ⟨[], FVWiden⟩), (19, ⟨[], FVNarrow⟩), (20, ⟨[], FVLives⟩)]
theorem sp2V : sumsOk Tryz.prog sl2V := ⟨fcVJoin, fcVMeet, fcRVHasInt, fcRHas, fcVLeq, fcVHasInt, fcVHasPtr, fcRCClean, fcRCGcd, fcRMul, fcRInt, fcVWiden, fcVNarrow, fcVLives, trivial⟩
theorem fcValueMeets : FC Tryz.prog 3 FValueMeets := by
 intro xs pre r us h hp
 unfold FValueMeets at h
 split at h
 . rename_i sa0 la0 ha0 ba0 ma0 ra0 za0 na0 fa0 sb0 lb0 hb0 bb0 mb0 rb0 zb0 nb0 fb0 i0 x0
   cases h
   have hp0 := hp
   refine FCat.of_eq (as' := [.agg [.d (.v (.bool sa0)), .d (.v (.int .i64 la0)), .d (.v (.int .i64 ha0)), .d (.v (.bool ba0)), .d (.v (.int .i64 ma0)), .d (.v (.int .i64 ra0)), .d (.v (.bool za0)), .d (.lst 1 na0 fun i => [st (gT (fa0 i))]), .d (.v (.bool sb0)), .d (.v (.int .i64 lb0)), .d (.v (.int .i64 hb0)), .d (.v (.bool bb0)), .d (.v (.int .i64 mb0)), .d (.v (.int .i64 rb0)), .d (.v (.bool zb0)), .d (.lst 1 nb0 fun i => [st (gT (fb0 i))]), .d (.v (.int .i64 i0)), .d (.v (.string x0))]]) ?_ rfl rfl ?_
   . repeat' (first | exact trivial | exact rfl | refine ⟨?_, ?_⟩ | fail)
     all_goals first | (intro i hi; exact hp0.1.1.2 i hi) | (intro i hi; exact hp0.2.1.1.2 i hi) | exact hp0.2 | exact hp1.2 | exact hp2.2 | (intro i hi; exact (hp0.2 i hi).1) | (intro i hi; exact (hp1.2 i hi).1) | (intro i hi; exact (hp2.2 i hi).1) | grind
   refine fcatA tys_ok Tryz.func3 rfl true ?_
   refine ⟨Nat.le_of_ble_eq_true rfl, ?_⟩
   obtain ⟨ya, yb, yn, yl⟩ := hp0
   have hp0 := And.intro ya (And.intro yb (And.intro yn yl))
   have oA : okV (⟨⟨⟨sa0, la0, ha0⟩, ⟨ba0, ma0, ra0⟩⟩, ⟨za0, gN na0 fun i => [st (gT (fa0 i))]⟩⟩ : Vl) := ⟨⟨(by rw [gN_length]; exact ya.1.1), fun _ _ => rfl⟩, ya.2⟩
   have oB : okV (⟨⟨⟨sb0, lb0, hb0⟩, ⟨bb0, mb0, rb0⟩⟩, ⟨zb0, gN nb0 fun i => [st (gT (fb0 i))]⟩⟩ : Vl) := ⟨⟨(by rw [gN_length]; exact yb.1.1), fun _ _ => rfl⟩, yb.2⟩
   have hl2 : ((⟨⟨⟨sa0, la0, ha0⟩, ⟨ba0, ma0, ra0⟩⟩, ⟨za0, gN na0 fun i => [st (gT (fa0 i))]⟩⟩ : Vl).t.names.length + (⟨⟨⟨sb0, lb0, hb0⟩, ⟨bb0, mb0, rb0⟩⟩, ⟨zb0, gN nb0 fun i => [st (gT (fb0 i))]⟩⟩ : Vl).t.names.length) * 16 <= 140737488351232 := by show ((gN na0 _).length + (gN nb0 _).length) * 16 <= 140737488351232; rw [gN_length, gN_length]; exact yl
   have oJ := okV_join oA oB hl2
   have oM := okV_meet oA oB
   have oW := okV_widen (l := gL 1 (fun i => Sx.rowAt 1 [DV.v (Value.int IntKind.i64 i0)] (0 + i))) oA oB hl2 (fun x hx => by rw [show gL 1 (fun i => Sx.rowAt 1 [DV.v (Value.int IntKind.i64 i0)] (0 + i)) = [i0] from rfl] at hx; rw [List.mem_singleton.1 hx]; exact yn)
   have oB0 := oB
   have oJ0 := oJ
   have F := mtF x0 oA oB yn
   unfold okV at oA oB oJ oM oW
   have rX := Cg.clean_inR oA.2.2
   have rY := Cg.clean_inR oB.2.2
   have fA : (na0 * 16 <= 140737488351232 /\ ∀ i, i < na0 -> (fun i => [st (gT (fa0 i))]) i = [st (gT ((fun i => [st (gT (fa0 i))]) i))]) /\ Sp.inR ⟨sa0, la0, ha0⟩ /\ Cg.inR ⟨ba0, ma0, ra0⟩ := ⟨⟨ya.1.1, fun _ _ => rfl⟩, ya.2⟩
   have fB : (nb0 * 16 <= 140737488351232 /\ ∀ i, i < nb0 -> (fun i => [st (gT (fb0 i))]) i = [st (gT ((fun i => [st (gT (fb0 i))]) i))]) /\ Sp.inR ⟨sb0, lb0, hb0⟩ /\ Cg.inR ⟨bb0, mb0, rb0⟩ := ⟨⟨yb.1.1, fun _ _ => rfl⟩, yb.2⟩
   have fn : (1 : Nat) <= 9223372036854775807 /\ ∀ i, i < 1 -> (fun i => Sx.rowAt 1 [DV.v (Value.int IntKind.i64 i0)] (0 + i)) i = [it (gI ((fun i => Sx.rowAt 1 [DV.v (Value.int IntKind.i64 i0)] (0 + i)) i))] /\ rI (gI ((fun i => Sx.rowAt 1 [DV.v (Value.int IntKind.i64 i0)] (0 + i)) i)) := ⟨by decide, row1 yn⟩
   refine ASat.seqJ tys_ok (l := sl2V) sp2V (by kernel_rfl) [1, 2] ?_
   apply tl_intro
   . (repeat' (first | exact trivial | (with_reducible first | exact (fun h => absurd ((F.j1).symm.trans h) (by decide)) | exact (fun h => absurd ((F.j2).symm.trans h) (by decide)) | exact (fun h => absurd ((F.j3 (by with_reducible assumption)).symm.trans h) (by decide)) | exact (fun h => absurd ((F.j4 (by with_reducible assumption)).symm.trans h) (by decide)) | exact (fun h => absurd ((F.p1 (by with_reducible assumption)).symm.trans h) (by decide)) | exact (fun h => absurd ((F.p2 (by with_reducible assumption)).symm.trans h) (by decide)) | exact (fun h => absurd ((F.m1 (by with_reducible assumption) (by with_reducible assumption)).symm.trans h) (by decide)) | exact (fun h => absurd ((F.q1 (by with_reducible assumption)).symm.trans h) (by decide)) | exact (fun h => absurd ((F.q2 (by with_reducible assumption)).symm.trans h) (by decide)) | exact fA | exact fA.1 | exact fA.2 | exact fA.2.1 | exact fA.2.2 | exact fB | exact fB.1 | exact fB.2 | exact fB.2.1 | exact fB.2.2 | exact oJ | exact oJ.1 | exact oJ.2 | exact oJ.2.1 | exact oJ.2.2 | exact oM | exact oM.1 | exact oM.2 | exact oM.2.1 | exact oM.2.2 | exact oW | exact oW.1 | exact oW.2 | exact oW.2.1 | exact oW.2.2 | exact oK | exact oK.1 | exact oK.2 | exact oK.2.1 | exact oK.2.2 | exact yn | exact yl) | refine ⟨?_, ?_⟩ | intro _)) <;> (first | exact rfl | omega | assumption | (with_reducible show (_ : Int) <= _) | (with_reducible show (_ : Int) < _) | (with_reducible show (_ : Nat) <= _) | (conv => whnf) | skip)
   refine ASat.seqJ tys_ok (l := sl2V) sp2V (by kernel_rfl) [2, 3, 4, 5, 6] ?_
   apply tl_intro
   . (repeat' (first | exact trivial | (with_reducible first | exact (fun h => absurd ((F.j1).symm.trans h) (by decide)) | exact (fun h => absurd ((F.j2).symm.trans h) (by decide)) | exact (fun h => absurd ((F.j3 (by with_reducible assumption)).symm.trans h) (by decide)) | exact (fun h => absurd ((F.j4 (by with_reducible assumption)).symm.trans h) (by decide)) | exact (fun h => absurd ((F.p1 (by with_reducible assumption)).symm.trans h) (by decide)) | exact (fun h => absurd ((F.p2 (by with_reducible assumption)).symm.trans h) (by decide)) | exact (fun h => absurd ((F.m1 (by with_reducible assumption) (by with_reducible assumption)).symm.trans h) (by decide)) | exact (fun h => absurd ((F.q1 (by with_reducible assumption)).symm.trans h) (by decide)) | exact (fun h => absurd ((F.q2 (by with_reducible assumption)).symm.trans h) (by decide)) | exact fA | exact fA.1 | exact fA.2 | exact fA.2.1 | exact fA.2.2 | exact fB | exact fB.1 | exact fB.2 | exact fB.2.1 | exact fB.2.2 | exact oJ | exact oJ.1 | exact oJ.2 | exact oJ.2.1 | exact oJ.2.2 | exact oM | exact oM.1 | exact oM.2 | exact oM.2.1 | exact oM.2.2 | exact oW | exact oW.1 | exact oW.2 | exact oW.2.1 | exact oW.2.2 | exact oK | exact oK.1 | exact oK.2 | exact oK.2.1 | exact oK.2.2 | exact yn | exact yl) | refine ⟨?_, ?_⟩ | intro _)) <;> (first | exact rfl | omega | assumption | (with_reducible show (_ : Int) <= _) | (with_reducible show (_ : Int) < _) | (with_reducible show (_ : Nat) <= _) | (conv => whnf) | skip)
     all_goals first | ((with_reducible show ASat _ _ _ _ _); refine draw_sto tys_ok (l := sl2V) sp2V (by kernel_rfl) 14 [(10, 8), (11, 9)] (.done) [0, 1, 2, 3, 4, 5, 6, 7, 8, 9, 10, 11, 12, 13, 14, 15, 17, 18, 19, 79, 99, 113, 143] (by kernel_rfl) (by kernel_rfl) ?_) | skip
     all_goals (repeat' (first | exact trivial | (with_reducible first | exact (fun h => absurd ((F.j1).symm.trans h) (by decide)) | exact (fun h => absurd ((F.j2).symm.trans h) (by decide)) | exact (fun h => absurd ((F.j3 (by with_reducible assumption)).symm.trans h) (by decide)) | exact (fun h => absurd ((F.j4 (by with_reducible assumption)).symm.trans h) (by decide)) | exact (fun h => absurd ((F.p1 (by with_reducible assumption)).symm.trans h) (by decide)) | exact (fun h => absurd ((F.p2 (by with_reducible assumption)).symm.trans h) (by decide)) | exact (fun h => absurd ((F.m1 (by with_reducible assumption) (by with_reducible assumption)).symm.trans h) (by decide)) | exact (fun h => absurd ((F.q1 (by with_reducible assumption)).symm.trans h) (by decide)) | exact (fun h => absurd ((F.q2 (by with_reducible assumption)).symm.trans h) (by decide)) | exact fA | exact fA.1 | exact fA.2 | exact fA.2.1 | exact fA.2.2 | exact fB | exact fB.1 | exact fB.2 | exact fB.2.1 | exact fB.2.2 | exact oJ | exact oJ.1 | exact oJ.2 | exact oJ.2.1 | exact oJ.2.2 | exact oM | exact oM.1 | exact oM.2 | exact oM.2.1 | exact oM.2.2 | exact oW | exact oW.1 | exact oW.2 | exact oW.2.1 | exact oW.2.2 | exact oK | exact oK.1 | exact oK.2 | exact oK.2.1 | exact oK.2.2 | exact yn | exact yl) | refine ⟨?_, ?_⟩ | intro _)) <;> (first | exact rfl | omega | assumption | (with_reducible show (_ : Int) <= _) | (with_reducible show (_ : Int) < _) | (with_reducible show (_ : Nat) <= _) | (conv => whnf) | skip)
     all_goals first | ((with_reducible show Tl _ _); apply tl_intro) | skip
     all_goals (repeat' (first | exact trivial | (with_reducible first | exact (fun h => absurd ((F.j1).symm.trans h) (by decide)) | exact (fun h => absurd ((F.j2).symm.trans h) (by decide)) | exact (fun h => absurd ((F.j3 (by with_reducible assumption)).symm.trans h) (by decide)) | exact (fun h => absurd ((F.j4 (by with_reducible assumption)).symm.trans h) (by decide)) | exact (fun h => absurd ((F.p1 (by with_reducible assumption)).symm.trans h) (by decide)) | exact (fun h => absurd ((F.p2 (by with_reducible assumption)).symm.trans h) (by decide)) | exact (fun h => absurd ((F.m1 (by with_reducible assumption) (by with_reducible assumption)).symm.trans h) (by decide)) | exact (fun h => absurd ((F.q1 (by with_reducible assumption)).symm.trans h) (by decide)) | exact (fun h => absurd ((F.q2 (by with_reducible assumption)).symm.trans h) (by decide)) | exact fA | exact fA.1 | exact fA.2 | exact fA.2.1 | exact fA.2.2 | exact fB | exact fB.1 | exact fB.2 | exact fB.2.1 | exact fB.2.2 | exact oJ | exact oJ.1 | exact oJ.2 | exact oJ.2.1 | exact oJ.2.2 | exact oM | exact oM.1 | exact oM.2 | exact oM.2.1 | exact oM.2.2 | exact oW | exact oW.1 | exact oW.2 | exact oW.2.1 | exact oW.2.2 | exact oK | exact oK.1 | exact oK.2 | exact oK.2.1 | exact oK.2.2 | exact yn | exact yl) | refine ⟨?_, ?_⟩ | intro _)) <;> (first | exact rfl | omega | assumption | (with_reducible show (_ : Int) <= _) | (with_reducible show (_ : Int) < _) | (with_reducible show (_ : Nat) <= _) | (conv => whnf) | skip)
   dsimp only [Nat.reduceAdd]
   refine ASat.seqJ tys_ok (l := sl2V) sp2V (by kernel_rfl) [2, 3, 4, 5, 6, 7, 8] ?_
   apply tl_intro
   . (repeat' (first | exact trivial | (with_reducible first | exact (fun h => absurd ((F.j1).symm.trans h) (by decide)) | exact (fun h => absurd ((F.j2).symm.trans h) (by decide)) | exact (fun h => absurd ((F.j3 (by with_reducible assumption)).symm.trans h) (by decide)) | exact (fun h => absurd ((F.j4 (by with_reducible assumption)).symm.trans h) (by decide)) | exact (fun h => absurd ((F.p1 (by with_reducible assumption)).symm.trans h) (by decide)) | exact (fun h => absurd ((F.p2 (by with_reducible assumption)).symm.trans h) (by decide)) | exact (fun h => absurd ((F.m1 (by with_reducible assumption) (by with_reducible assumption)).symm.trans h) (by decide)) | exact (fun h => absurd ((F.q1 (by with_reducible assumption)).symm.trans h) (by decide)) | exact (fun h => absurd ((F.q2 (by with_reducible assumption)).symm.trans h) (by decide)) | exact fA | exact fA.1 | exact fA.2 | exact fA.2.1 | exact fA.2.2 | exact fB | exact fB.1 | exact fB.2 | exact fB.2.1 | exact fB.2.2 | exact oJ | exact oJ.1 | exact oJ.2 | exact oJ.2.1 | exact oJ.2.2 | exact oM | exact oM.1 | exact oM.2 | exact oM.2.1 | exact oM.2.2 | exact oW | exact oW.1 | exact oW.2 | exact oW.2.1 | exact oW.2.2 | exact oK | exact oK.1 | exact oK.2 | exact oK.2.1 | exact oK.2.2 | exact yn | exact yl) | refine ⟨?_, ?_⟩ | intro _)) <;> (first | exact rfl | omega | assumption | (with_reducible show (_ : Int) <= _) | (with_reducible show (_ : Int) < _) | (with_reducible show (_ : Nat) <= _) | (conv => whnf) | skip)
     all_goals first | ((with_reducible show ASat _ _ _ _ _); refine draw_sto tys_ok (l := sl2V) sp2V (by kernel_rfl) 10 [(8, 6), (9, 7)] (.done) [0, 1, 2, 3, 4, 5, 6, 7, 8, 9, 10, 11, 12, 13, 14, 15, 17, 18, 19, 79, 99, 113, 143] (by kernel_rfl) (by kernel_rfl) ?_) | skip
     all_goals (repeat' (first | exact trivial | (with_reducible first | exact (fun h => absurd ((F.j1).symm.trans h) (by decide)) | exact (fun h => absurd ((F.j2).symm.trans h) (by decide)) | exact (fun h => absurd ((F.j3 (by with_reducible assumption)).symm.trans h) (by decide)) | exact (fun h => absurd ((F.j4 (by with_reducible assumption)).symm.trans h) (by decide)) | exact (fun h => absurd ((F.p1 (by with_reducible assumption)).symm.trans h) (by decide)) | exact (fun h => absurd ((F.p2 (by with_reducible assumption)).symm.trans h) (by decide)) | exact (fun h => absurd ((F.m1 (by with_reducible assumption) (by with_reducible assumption)).symm.trans h) (by decide)) | exact (fun h => absurd ((F.q1 (by with_reducible assumption)).symm.trans h) (by decide)) | exact (fun h => absurd ((F.q2 (by with_reducible assumption)).symm.trans h) (by decide)) | exact fA | exact fA.1 | exact fA.2 | exact fA.2.1 | exact fA.2.2 | exact fB | exact fB.1 | exact fB.2 | exact fB.2.1 | exact fB.2.2 | exact oJ | exact oJ.1 | exact oJ.2 | exact oJ.2.1 | exact oJ.2.2 | exact oM | exact oM.1 | exact oM.2 | exact oM.2.1 | exact oM.2.2 | exact oW | exact oW.1 | exact oW.2 | exact oW.2.1 | exact oW.2.2 | exact oK | exact oK.1 | exact oK.2 | exact oK.2.1 | exact oK.2.2 | exact yn | exact yl) | refine ⟨?_, ?_⟩ | intro _)) <;> (first | exact rfl | omega | assumption | (with_reducible show (_ : Int) <= _) | (with_reducible show (_ : Int) < _) | (with_reducible show (_ : Nat) <= _) | (conv => whnf) | skip)
     all_goals first | ((with_reducible show Tl _ _); apply tl_intro) | skip
     all_goals (repeat' (first | exact trivial | (with_reducible first | exact (fun h => absurd ((F.j1).symm.trans h) (by decide)) | exact (fun h => absurd ((F.j2).symm.trans h) (by decide)) | exact (fun h => absurd ((F.j3 (by with_reducible assumption)).symm.trans h) (by decide)) | exact (fun h => absurd ((F.j4 (by with_reducible assumption)).symm.trans h) (by decide)) | exact (fun h => absurd ((F.p1 (by with_reducible assumption)).symm.trans h) (by decide)) | exact (fun h => absurd ((F.p2 (by with_reducible assumption)).symm.trans h) (by decide)) | exact (fun h => absurd ((F.m1 (by with_reducible assumption) (by with_reducible assumption)).symm.trans h) (by decide)) | exact (fun h => absurd ((F.q1 (by with_reducible assumption)).symm.trans h) (by decide)) | exact (fun h => absurd ((F.q2 (by with_reducible assumption)).symm.trans h) (by decide)) | exact fA | exact fA.1 | exact fA.2 | exact fA.2.1 | exact fA.2.2 | exact fB | exact fB.1 | exact fB.2 | exact fB.2.1 | exact fB.2.2 | exact oJ | exact oJ.1 | exact oJ.2 | exact oJ.2.1 | exact oJ.2.2 | exact oM | exact oM.1 | exact oM.2 | exact oM.2.1 | exact oM.2.2 | exact oW | exact oW.1 | exact oW.2 | exact oW.2.1 | exact oW.2.2 | exact oK | exact oK.1 | exact oK.2 | exact oK.2.1 | exact oK.2.2 | exact yn | exact yl) | refine ⟨?_, ?_⟩ | intro _)) <;> (first | exact rfl | omega | assumption | (with_reducible show (_ : Int) <= _) | (with_reducible show (_ : Int) < _) | (with_reducible show (_ : Nat) <= _) | (conv => whnf) | skip)
   dsimp only [Nat.reduceAdd]
   generalize hJ : Vl.join (⟨⟨⟨sa0, la0, ha0⟩, ⟨ba0, ma0, ra0⟩⟩, ⟨za0, gN na0 fun i => [st (gT (fa0 i))]⟩⟩ : Vl) (⟨⟨⟨sb0, lb0, hb0⟩, ⟨bb0, mb0, rb0⟩⟩, ⟨zb0, gN nb0 fun i => [st (gT (fb0 i))]⟩⟩ : Vl) = J at *
   generalize hM : Vl.meet (⟨⟨⟨sa0, la0, ha0⟩, ⟨ba0, ma0, ra0⟩⟩, ⟨za0, gN na0 fun i => [st (gT (fa0 i))]⟩⟩ : Vl) (⟨⟨⟨sb0, lb0, hb0⟩, ⟨bb0, mb0, rb0⟩⟩, ⟨zb0, gN nb0 fun i => [st (gT (fb0 i))]⟩⟩ : Vl) = M at *
   have oK := okV_narrow (a := nrm J) (b := (⟨⟨⟨sb0, lb0, hb0⟩, ⟨bb0, mb0, rb0⟩⟩, ⟨zb0, gN nb0 fun i => [st (gT (fb0 i))]⟩⟩ : Vl)) (by rw [nrm_eq]; exact oJ0) oB0
   unfold okV at oK
   have w1 : Vl.leq (nrm J) (nrm (Vl.widen (⟨⟨⟨sa0, la0, ha0⟩, ⟨ba0, ma0, ra0⟩⟩, ⟨za0, gN na0 fun i => [st (gT (fa0 i))]⟩⟩ : Vl) (⟨⟨⟨sb0, lb0, hb0⟩, ⟨bb0, mb0, rb0⟩⟩, ⟨zb0, gN nb0 fun i => [st (gT (fb0 i))]⟩⟩ : Vl) (gL 1 (fun i => Sx.rowAt 1 [DV.v (Value.int IntKind.i64 i0)] (0 + i))))) = true := by rw [nrm_eq, nrm_eq, <- hJ]; exact l3_wid oB0.2
   have k1 : Vl.leq (⟨⟨⟨sb0, lb0, hb0⟩, ⟨bb0, mb0, rb0⟩⟩, ⟨zb0, gN nb0 fun i => [st (gT (fb0 i))]⟩⟩ : Vl) (nrm (Vl.narrow (nrm J) (⟨⟨⟨sb0, lb0, hb0⟩, ⟨bb0, mb0, rb0⟩⟩, ⟨zb0, gN nb0 fun i => [st (gT (fb0 i))]⟩⟩ : Vl))) = true := by rw [nrm_eq, nrm_eq, <- hJ]; exact nar_1 _ _
   have k2 : Vl.leq (nrm (Vl.narrow (nrm J) (⟨⟨⟨sb0, lb0, hb0⟩, ⟨bb0, mb0, rb0⟩⟩, ⟨zb0, gN nb0 fun i => [st (gT (fb0 i))]⟩⟩ : Vl))) (nrm J) = true := by rw [nrm_eq, nrm_eq, <- hJ]; exact nar_2 _ _
   refine ASat.seqJ tys_ok (l := sl2V) sp2V (by kernel_rfl) [2, 3, 4, 5, 6, 7, 8, 9, 10] ?_
   apply tl_intro
   . (repeat' (first | exact trivial | (with_reducible first | exact (fun h => absurd ((F.j1).symm.trans h) (by decide)) | exact (fun h => absurd ((F.j2).symm.trans h) (by decide)) | exact (fun h => absurd ((F.j3 (by with_reducible assumption)).symm.trans h) (by decide)) | exact (fun h => absurd ((F.j4 (by with_reducible assumption)).symm.trans h) (by decide)) | exact (fun h => absurd ((F.p1 (by with_reducible assumption)).symm.trans h) (by decide)) | exact (fun h => absurd ((F.p2 (by with_reducible assumption)).symm.trans h) (by decide)) | exact (fun h => absurd ((F.m1 (by with_reducible assumption) (by with_reducible assumption)).symm.trans h) (by decide)) | exact (fun h => absurd ((F.q1 (by with_reducible assumption)).symm.trans h) (by decide)) | exact (fun h => absurd ((F.q2 (by with_reducible assumption)).symm.trans h) (by decide)) | exact fA | exact fA.1 | exact fA.2 | exact fA.2.1 | exact fA.2.2 | exact fB | exact fB.1 | exact fB.2 | exact fB.2.1 | exact fB.2.2 | exact oJ | exact oJ.1 | exact oJ.2 | exact oJ.2.1 | exact oJ.2.2 | exact oM | exact oM.1 | exact oM.2 | exact oM.2.1 | exact oM.2.2 | exact oW | exact oW.1 | exact oW.2 | exact oW.2.1 | exact oW.2.2 | exact oK | exact oK.1 | exact oK.2 | exact oK.2.1 | exact oK.2.2 | exact yn | exact yl) | refine ⟨?_, ?_⟩ | intro _)) <;> (first | exact rfl | omega | assumption | (with_reducible show (_ : Int) <= _) | (with_reducible show (_ : Int) < _) | (with_reducible show (_ : Nat) <= _) | (conv => whnf) | skip)
   refine ASat.seqJ tys_ok (l := sl2V) sp2V (by kernel_rfl) [2, 3, 4, 5, 6, 7, 8, 9, 10, 11, 12] ?_
   apply tl_intro
   . (repeat' (first | exact trivial | (with_reducible first | exact (fun h => absurd ((F.j1).symm.trans h) (by decide)) | exact (fun h => absurd ((F.j2).symm.trans h) (by decide)) | exact (fun h => absurd ((F.j3 (by with_reducible assumption)).symm.trans h) (by decide)) | exact (fun h => absurd ((F.j4 (by with_reducible assumption)).symm.trans h) (by decide)) | exact (fun h => absurd ((F.p1 (by with_reducible assumption)).symm.trans h) (by decide)) | exact (fun h => absurd ((F.p2 (by with_reducible assumption)).symm.trans h) (by decide)) | exact (fun h => absurd ((F.m1 (by with_reducible assumption) (by with_reducible assumption)).symm.trans h) (by decide)) | exact (fun h => absurd ((F.q1 (by with_reducible assumption)).symm.trans h) (by decide)) | exact (fun h => absurd ((F.q2 (by with_reducible assumption)).symm.trans h) (by decide)) | exact fA | exact fA.1 | exact fA.2 | exact fA.2.1 | exact fA.2.2 | exact fB | exact fB.1 | exact fB.2 | exact fB.2.1 | exact fB.2.2 | exact oJ | exact oJ.1 | exact oJ.2 | exact oJ.2.1 | exact oJ.2.2 | exact oM | exact oM.1 | exact oM.2 | exact oM.2.1 | exact oM.2.2 | exact oW | exact oW.1 | exact oW.2 | exact oW.2.1 | exact oW.2.2 | exact oK | exact oK.1 | exact oK.2 | exact oK.2.1 | exact oK.2.2 | exact yn | exact yl) | refine ⟨?_, ?_⟩ | intro _)) <;> (first | exact rfl | omega | assumption | (with_reducible show (_ : Int) <= _) | (with_reducible show (_ : Int) < _) | (with_reducible show (_ : Nat) <= _) | (conv => whnf) | skip)
   refine ASat.seqJ tys_ok (l := sl2V) sp2V (by kernel_rfl) [2, 3, 4, 5, 6, 7, 8, 9, 10, 11, 12] ?_
   apply tl_intro
   . (repeat' (first | exact trivial | (with_reducible first | exact (fun h => absurd ((F.j1).symm.trans h) (by decide)) | exact (fun h => absurd ((F.j2).symm.trans h) (by decide)) | exact (fun h => absurd ((F.j3 (by with_reducible assumption)).symm.trans h) (by decide)) | exact (fun h => absurd ((F.j4 (by with_reducible assumption)).symm.trans h) (by decide)) | exact (fun h => absurd ((F.p1 (by with_reducible assumption)).symm.trans h) (by decide)) | exact (fun h => absurd ((F.p2 (by with_reducible assumption)).symm.trans h) (by decide)) | exact (fun h => absurd ((F.m1 (by with_reducible assumption) (by with_reducible assumption)).symm.trans h) (by decide)) | exact (fun h => absurd ((F.q1 (by with_reducible assumption)).symm.trans h) (by decide)) | exact (fun h => absurd ((F.q2 (by with_reducible assumption)).symm.trans h) (by decide)) | exact fA | exact fA.1 | exact fA.2 | exact fA.2.1 | exact fA.2.2 | exact fB | exact fB.1 | exact fB.2 | exact fB.2.1 | exact fB.2.2 | exact oJ | exact oJ.1 | exact oJ.2 | exact oJ.2.1 | exact oJ.2.2 | exact oM | exact oM.1 | exact oM.2 | exact oM.2.1 | exact oM.2.2 | exact oW | exact oW.1 | exact oW.2 | exact oW.2.1 | exact oW.2.2 | exact oK | exact oK.1 | exact oK.2 | exact oK.2.1 | exact oK.2.2 | exact yn | exact yl) | refine ⟨?_, ?_⟩ | intro _)) <;> (first | exact rfl | omega | assumption | (with_reducible show (_ : Int) <= _) | (with_reducible show (_ : Int) < _) | (with_reducible show (_ : Nat) <= _) | (conv => whnf) | skip)
   refine ASat.seqJ tys_ok (l := sl2V) sp2V (by kernel_rfl) [2, 3, 4, 5, 7, 8, 9, 10] ?_
   apply tl_intro
   . (repeat' (first | exact trivial | (with_reducible first | exact (fun h => absurd ((F.j1).symm.trans h) (by decide)) | exact (fun h => absurd ((F.j2).symm.trans h) (by decide)) | exact (fun h => absurd ((F.j3 (by with_reducible assumption)).symm.trans h) (by decide)) | exact (fun h => absurd ((F.j4 (by with_reducible assumption)).symm.trans h) (by decide)) | exact (fun h => absurd ((F.p1 (by with_reducible assumption)).symm.trans h) (by decide)) | exact (fun h => absurd ((F.p2 (by with_reducible assumption)).symm.trans h) (by decide)) | exact (fun h => absurd ((F.m1 (by with_reducible assumption) (by with_reducible assumption)).symm.trans h) (by decide)) | exact (fun h => absurd ((F.q1 (by with_reducible assumption)).symm.trans h) (by decide)) | exact (fun h => absurd ((F.q2 (by with_reducible assumption)).symm.trans h) (by decide)) | exact fA | exact fA.1 | exact fA.2 | exact fA.2.1 | exact fA.2.2 | exact fB | exact fB.1 | exact fB.2 | exact fB.2.1 | exact fB.2.2 | exact oJ | exact oJ.1 | exact oJ.2 | exact oJ.2.1 | exact oJ.2.2 | exact oM | exact oM.1 | exact oM.2 | exact oM.2.1 | exact oM.2.2 | exact oW | exact oW.1 | exact oW.2 | exact oW.2.1 | exact oW.2.2 | exact oK | exact oK.1 | exact oK.2 | exact oK.2.1 | exact oK.2.2 | exact yn | exact yl) | refine ⟨?_, ?_⟩ | intro _)) <;> (first | exact rfl | omega | assumption | (with_reducible show (_ : Int) <= _) | (with_reducible show (_ : Int) < _) | (with_reducible show (_ : Nat) <= _) | (conv => whnf) | skip)
   refine ASat.seqJ tys_ok (l := sl2V) sp2V (by kernel_rfl) [2, 3, 4, 5, 7, 8, 9, 10, 13, 14] ?_
   apply tl_intro
   . (repeat' (first | exact trivial | (with_reducible first | exact (fun h => absurd ((F.j1).symm.trans h) (by decide)) | exact (fun h => absurd ((F.j2).symm.trans h) (by decide)) | exact (fun h => absurd ((F.j3 (by with_reducible assumption)).symm.trans h) (by decide)) | exact (fun h => absurd ((F.j4 (by with_reducible assumption)).symm.trans h) (by decide)) | exact (fun h => absurd ((F.p1 (by with_reducible assumption)).symm.trans h) (by decide)) | exact (fun h => absurd ((F.p2 (by with_reducible assumption)).symm.trans h) (by decide)) | exact (fun h => absurd ((F.m1 (by with_reducible assumption) (by with_reducible assumption)).symm.trans h) (by decide)) | exact (fun h => absurd ((F.q1 (by with_reducible assumption)).symm.trans h) (by decide)) | exact (fun h => absurd ((F.q2 (by with_reducible assumption)).symm.trans h) (by decide)) | exact fA | exact fA.1 | exact fA.2 | exact fA.2.1 | exact fA.2.2 | exact fB | exact fB.1 | exact fB.2 | exact fB.2.1 | exact fB.2.2 | exact oJ | exact oJ.1 | exact oJ.2 | exact oJ.2.1 | exact oJ.2.2 | exact oM | exact oM.1 | exact oM.2 | exact oM.2.1 | exact oM.2.2 | exact oW | exact oW.1 | exact oW.2 | exact oW.2.1 | exact oW.2.2 | exact oK | exact oK.1 | exact oK.2 | exact oK.2.1 | exact oK.2.2 | exact yn | exact yl) | refine ⟨?_, ?_⟩ | intro _)) <;> (first | exact rfl | omega | assumption | (with_reducible show (_ : Int) <= _) | (with_reducible show (_ : Int) < _) | (with_reducible show (_ : Nat) <= _) | (conv => whnf) | skip)
     all_goals first | ((with_reducible show ASat _ _ _ _ _); refine draw_sto tys_ok (l := sl2V) sp2V (by kernel_rfl) 10 [(8, 6), (9, 7)] (.done) [0, 1, 2, 3, 4, 5, 6, 7, 8, 9, 10, 11, 12, 13, 14, 15, 17, 18, 19, 79, 99, 113, 143] (by kernel_rfl) (by kernel_rfl) ?_) | skip
     all_goals (repeat' (first | exact trivial | (with_reducible first | exact (fun h => absurd ((F.j1).symm.trans h) (by decide)) | exact (fun h => absurd ((F.j2).symm.trans h) (by decide)) | exact (fun h => absurd ((F.j3 (by with_reducible assumption)).symm.trans h) (by decide)) | exact (fun h => absurd ((F.j4 (by with_reducible assumption)).symm.trans h) (by decide)) | exact (fun h => absurd ((F.p1 (by with_reducible assumption)).symm.trans h) (by decide)) | exact (fun h => absurd ((F.p2 (by with_reducible assumption)).symm.trans h) (by decide)) | exact (fun h => absurd ((F.m1 (by with_reducible assumption) (by with_reducible assumption)).symm.trans h) (by decide)) | exact (fun h => absurd ((F.q1 (by with_reducible assumption)).symm.trans h) (by decide)) | exact (fun h => absurd ((F.q2 (by with_reducible assumption)).symm.trans h) (by decide)) | exact fA | exact fA.1 | exact fA.2 | exact fA.2.1 | exact fA.2.2 | exact fB | exact fB.1 | exact fB.2 | exact fB.2.1 | exact fB.2.2 | exact oJ | exact oJ.1 | exact oJ.2 | exact oJ.2.1 | exact oJ.2.2 | exact oM | exact oM.1 | exact oM.2 | exact oM.2.1 | exact oM.2.2 | exact oW | exact oW.1 | exact oW.2 | exact oW.2.1 | exact oW.2.2 | exact oK | exact oK.1 | exact oK.2 | exact oK.2.1 | exact oK.2.2 | exact yn | exact yl) | refine ⟨?_, ?_⟩ | intro _)) <;> (first | exact rfl | omega | assumption | (with_reducible show (_ : Int) <= _) | (with_reducible show (_ : Int) < _) | (with_reducible show (_ : Nat) <= _) | (conv => whnf) | skip)
     all_goals first | ((with_reducible show Tl _ _); apply tl_intro) | skip
     all_goals (repeat' (first | exact trivial | (with_reducible first | exact (fun h => absurd ((F.j1).symm.trans h) (by decide)) | exact (fun h => absurd ((F.j2).symm.trans h) (by decide)) | exact (fun h => absurd ((F.j3 (by with_reducible assumption)).symm.trans h) (by decide)) | exact (fun h => absurd ((F.j4 (by with_reducible assumption)).symm.trans h) (by decide)) | exact (fun h => absurd ((F.p1 (by with_reducible assumption)).symm.trans h) (by decide)) | exact (fun h => absurd ((F.p2 (by with_reducible assumption)).symm.trans h) (by decide)) | exact (fun h => absurd ((F.m1 (by with_reducible assumption) (by with_reducible assumption)).symm.trans h) (by decide)) | exact (fun h => absurd ((F.q1 (by with_reducible assumption)).symm.trans h) (by decide)) | exact (fun h => absurd ((F.q2 (by with_reducible assumption)).symm.trans h) (by decide)) | exact fA | exact fA.1 | exact fA.2 | exact fA.2.1 | exact fA.2.2 | exact fB | exact fB.1 | exact fB.2 | exact fB.2.1 | exact fB.2.2 | exact oJ | exact oJ.1 | exact oJ.2 | exact oJ.2.1 | exact oJ.2.2 | exact oM | exact oM.1 | exact oM.2 | exact oM.2.1 | exact oM.2.2 | exact oW | exact oW.1 | exact oW.2 | exact oW.2.1 | exact oW.2.2 | exact oK | exact oK.1 | exact oK.2 | exact oK.2.1 | exact oK.2.2 | exact yn | exact yl) | refine ⟨?_, ?_⟩ | intro _)) <;> (first | exact rfl | omega | assumption | (with_reducible show (_ : Int) <= _) | (with_reducible show (_ : Int) < _) | (with_reducible show (_ : Nat) <= _) | (conv => whnf) | skip)
   dsimp only [Nat.reduceAdd]
   refine ASat.seqJ tys_ok (l := sl2V) sp2V (by kernel_rfl) [2, 3, 4, 5, 7, 8, 9, 10, 13, 14, 15] ?_
   apply tl_intro
   . (repeat' (first | exact trivial | (with_reducible first | exact (fun h => absurd ((F.j1).symm.trans h) (by decide)) | exact (fun h => absurd ((F.j2).symm.trans h) (by decide)) | exact (fun h => absurd ((F.j3 (by with_reducible assumption)).symm.trans h) (by decide)) | exact (fun h => absurd ((F.j4 (by with_reducible assumption)).symm.trans h) (by decide)) | exact (fun h => absurd ((F.p1 (by with_reducible assumption)).symm.trans h) (by decide)) | exact (fun h => absurd ((F.p2 (by with_reducible assumption)).symm.trans h) (by decide)) | exact (fun h => absurd ((F.m1 (by with_reducible assumption) (by with_reducible assumption)).symm.trans h) (by decide)) | exact (fun h => absurd ((F.q1 (by with_reducible assumption)).symm.trans h) (by decide)) | exact (fun h => absurd ((F.q2 (by with_reducible assumption)).symm.trans h) (by decide)) | exact fA | exact fA.1 | exact fA.2 | exact fA.2.1 | exact fA.2.2 | exact fB | exact fB.1 | exact fB.2 | exact fB.2.1 | exact fB.2.2 | exact oJ | exact oJ.1 | exact oJ.2 | exact oJ.2.1 | exact oJ.2.2 | exact oM | exact oM.1 | exact oM.2 | exact oM.2.1 | exact oM.2.2 | exact oW | exact oW.1 | exact oW.2 | exact oW.2.1 | exact oW.2.2 | exact oK | exact oK.1 | exact oK.2 | exact oK.2.1 | exact oK.2.2 | exact yn | exact yl) | refine ⟨?_, ?_⟩ | intro _)) <;> (first | exact rfl | omega | assumption | (with_reducible show (_ : Int) <= _) | (with_reducible show (_ : Int) < _) | (with_reducible show (_ : Nat) <= _) | (conv => whnf) | skip)
   refine ASat.seqA tys_ok (l := sl2V) sp2V (by kernel_rfl) ?_
   (repeat' (first | exact trivial | (with_reducible first | exact (fun h => absurd ((F.j1).symm.trans h) (by decide)) | exact (fun h => absurd ((F.j2).symm.trans h) (by decide)) | exact (fun h => absurd ((F.j3 (by with_reducible assumption)).symm.trans h) (by decide)) | exact (fun h => absurd ((F.j4 (by with_reducible assumption)).symm.trans h) (by decide)) | exact (fun h => absurd ((F.p1 (by with_reducible assumption)).symm.trans h) (by decide)) | exact (fun h => absurd ((F.p2 (by with_reducible assumption)).symm.trans h) (by decide)) | exact (fun h => absurd ((F.m1 (by with_reducible assumption) (by with_reducible assumption)).symm.trans h) (by decide)) | exact (fun h => absurd ((F.q1 (by with_reducible assumption)).symm.trans h) (by decide)) | exact (fun h => absurd ((F.q2 (by with_reducible assumption)).symm.trans h) (by decide)) | exact fA | exact fA.1 | exact fA.2 | exact fA.2.1 | exact fA.2.2 | exact fB | exact fB.1 | exact fB.2 | exact fB.2.1 | exact fB.2.2 | exact oJ | exact oJ.1 | exact oJ.2 | exact oJ.2.1 | exact oJ.2.2 | exact oM | exact oM.1 | exact oM.2 | exact oM.2.1 | exact oM.2.2 | exact oW | exact oW.1 | exact oW.2 | exact oW.2.1 | exact oW.2.2 | exact oK | exact oK.1 | exact oK.2 | exact oK.2.1 | exact oK.2.2 | exact yn | exact yl | exact rX | exact rY | exact rX.1 | exact rY.1) | refine ⟨?_, ?_⟩ | intro _)) <;> (first | exact rfl | omega | assumption | (with_reducible show (_ : Int) <= _) | (with_reducible show (_ : Int) < _) | (with_reducible show (_ : Nat) <= _) | (conv => whnf) | skip)
   all_goals first | ((with_reducible show ASat _ _ _ _ _); skip) | (obtain ⟨a1, a2, a3, a4, a5, a6, a7, a8, a9⟩ := fit_q rX rY ‹decide _ = true› ‹decide _ = true›; (try simp only [a1, a2, a3, a4, Wd.eta'] at *); first | omega | exact (wd_ok _).1.1 | exact (wd_ok _).1.2 | exact (wd_ok _).2.1 | exact (wd_ok _).2.2)
   all_goals refine ASat.seqJ tys_ok (l := sl2V) sp2V (by kernel_rfl) [2, 3, 4, 5, 7] ?_
   all_goals apply tl_intro
   all_goals (repeat' (first | exact trivial | (with_reducible first | exact (fun h => absurd ((F.j1).symm.trans h) (by decide)) | exact (fun h => absurd ((F.j2).symm.trans h) (by decide)) | exact (fun h => absurd ((F.j3 (by with_reducible assumption)).symm.trans h) (by decide)) | exact (fun h => absurd ((F.j4 (by with_reducible assumption)).symm.trans h) (by decide)) | exact (fun h => absurd ((F.p1 (by with_reducible assumption)).symm.trans h) (by decide)) | exact (fun h => absurd ((F.p2 (by with_reducible assumption)).symm.trans h) (by decide)) | exact (fun h => absurd ((F.m1 (by with_reducible assumption) (by with_reducible assumption)).symm.trans h) (by decide)) | exact (fun h => absurd ((F.q1 (by with_reducible assumption)).symm.trans h) (by decide)) | exact (fun h => absurd ((F.q2 (by with_reducible assumption)).symm.trans h) (by decide)) | exact fA | exact fA.1 | exact fA.2 | exact fA.2.1 | exact fA.2.2 | exact fB | exact fB.1 | exact fB.2 | exact fB.2.1 | exact fB.2.2 | exact oJ | exact oJ.1 | exact oJ.2 | exact oJ.2.1 | exact oJ.2.2 | exact oM | exact oM.1 | exact oM.2 | exact oM.2.1 | exact oM.2.2 | exact oW | exact oW.1 | exact oW.2 | exact oW.2.1 | exact oW.2.2 | exact oK | exact oK.1 | exact oK.2 | exact oK.2.1 | exact oK.2.2 | exact yn | exact yl | exact (fun h => absurd ((F.e1 (fit_a (by with_reducible assumption)) (by with_reducible assumption)).symm.trans h) (by decide)) | exact (fun h => absurd ((F.e1 (fit_b (by with_reducible assumption)) (by with_reducible assumption)).symm.trans h) (by decide)) | exact (fun h => absurd ((F.e1 (fit_c rX rY (by with_reducible assumption) (by with_reducible assumption) (by with_reducible assumption)) (by with_reducible assumption)).symm.trans h) (by decide)) | exact (fun h => absurd ((F.e2 (fit_a (by with_reducible assumption)) (by with_reducible assumption)).symm.trans h) (by decide)) | exact (fun h => absurd ((F.e2 (fit_b (by with_reducible assumption)) (by with_reducible assumption)).symm.trans h) (by decide)) | exact (fun h => absurd ((F.e2 (fit_c rX rY (by with_reducible assumption) (by with_reducible assumption) (by with_reducible assumption)) (by with_reducible assumption)).symm.trans h) (by decide))) | refine ⟨?_, ?_⟩ | intro _)) <;> (first | exact rfl | omega | assumption | (with_reducible show (_ : Int) <= _) | (with_reducible show (_ : Int) < _) | (with_reducible show (_ : Nat) <= _) | (conv => whnf) | skip)
   all_goals refine ASat.seqJ tys_ok (l := sl2V) sp2V (by kernel_rfl) [2, 4, 7, 18] ?_
   all_goals apply tl_intro
   all_goals (repeat' (first | exact trivial | (with_reducible first | exact (fun h => absurd ((F.j1).symm.trans h) (by decide)) | exact (fun h => absurd ((F.j2).symm.trans h) (by decide)) | exact (fun h => absurd ((F.j3 (by with_reducible assumption)).symm.trans h) (by decide)) | exact (fun h => absurd ((F.j4 (by with_reducible assumption)).symm.trans h) (by decide)) | exact (fun h => absurd ((F.p1 (by with_reducible assumption)).symm.trans h) (by decide)) | exact (fun h => absurd ((F.p2 (by with_reducible assumption)).symm.trans h) (by decide)) | exact (fun h => absurd ((F.m1 (by with_reducible assumption) (by with_reducible assumption)).symm.trans h) (by decide)) | exact (fun h => absurd ((F.q1 (by with_reducible assumption)).symm.trans h) (by decide)) | exact (fun h => absurd ((F.q2 (by with_reducible assumption)).symm.trans h) (by decide)) | exact fA | exact fA.1 | exact fA.2 | exact fA.2.1 | exact fA.2.2 | exact fB | exact fB.1 | exact fB.2 | exact fB.2.1 | exact fB.2.2 | exact oJ | exact oJ.1 | exact oJ.2 | exact oJ.2.1 | exact oJ.2.2 | exact oM | exact oM.1 | exact oM.2 | exact oM.2.1 | exact oM.2.2 | exact oW | exact oW.1 | exact oW.2 | exact oW.2.1 | exact oW.2.2 | exact oK | exact oK.1 | exact oK.2 | exact oK.2.1 | exact oK.2.2 | exact yn | exact yl | exact fn | exact fn.1 | exact fn.2) | refine ⟨?_, ?_⟩ | intro _)) <;> (first | exact rfl | omega | assumption | (with_reducible show (_ : Int) <= _) | (with_reducible show (_ : Int) < _) | (with_reducible show (_ : Nat) <= _) | (conv => whnf) | skip)
   all_goals first | ((with_reducible show ASat _ _ _ _ _); generalize Vl.widen (⟨⟨⟨sa0, la0, ha0⟩, ⟨ba0, ma0, ra0⟩⟩, ⟨za0, gN na0 fun i => [st (gT (fa0 i))]⟩⟩ : Vl) (⟨⟨⟨sb0, lb0, hb0⟩, ⟨bb0, mb0, rb0⟩⟩, ⟨zb0, gN nb0 fun i => [st (gT (fb0 i))]⟩⟩ : Vl) (gL 1 (fun i => Sx.rowAt 1 [DV.v (Value.int IntKind.i64 i0)] (0 + i))) = W at *; refine ASat.vc tys_ok (l := sl2V) sp2V (by kernel_rfl) ?_; (repeat' (first | exact trivial | (with_reducible first | exact (fun h => absurd ((F.j1).symm.trans h) (by decide)) | exact (fun h => absurd ((F.j2).symm.trans h) (by decide)) | exact (fun h => absurd ((F.j3 (by with_reducible assumption)).symm.trans h) (by decide)) | exact (fun h => absurd ((F.j4 (by with_reducible assumption)).symm.trans h) (by decide)) | exact (fun h => absurd ((F.p1 (by with_reducible assumption)).symm.trans h) (by decide)) | exact (fun h => absurd ((F.p2 (by with_reducible assumption)).symm.trans h) (by decide)) | exact (fun h => absurd ((F.m1 (by with_reducible assumption) (by with_reducible assumption)).symm.trans h) (by decide)) | exact (fun h => absurd ((F.q1 (by with_reducible assumption)).symm.trans h) (by decide)) | exact (fun h => absurd ((F.q2 (by with_reducible assumption)).symm.trans h) (by decide)) | exact fA | exact fA.1 | exact fA.2 | exact fA.2.1 | exact fA.2.2 | exact fB | exact fB.1 | exact fB.2 | exact fB.2.1 | exact fB.2.2 | exact oJ | exact oJ.1 | exact oJ.2 | exact oJ.2.1 | exact oJ.2.2 | exact oM | exact oM.1 | exact oM.2 | exact oM.2.1 | exact oM.2.2 | exact oW | exact oW.1 | exact oW.2 | exact oW.2.1 | exact oW.2.2 | exact oK | exact oK.1 | exact oK.2 | exact oK.2.1 | exact oK.2.2 | exact yn | exact yl | exact w1 | exact k1 | exact k2 | exact (fun h => absurd (w1.symm.trans h) (by decide)) | exact (fun h => absurd (k1.symm.trans h) (by decide)) | exact (fun h => absurd (k2.symm.trans h) (by decide))) | refine ⟨?_, ?_⟩ | intro _)) <;> (first | exact rfl | omega | assumption | (with_reducible show (_ : Int) <= _) | (with_reducible show (_ : Int) < _) | (with_reducible show (_ : Nat) <= _) | (conv => whnf) | skip))
   all_goals trace_state
 . cases h
end Go.Proofs.YtehpbhpmkhlldaaGreat
