/- What the rest of the layer of names, and its reference, compute. No condition. -/
import Derived.Test.YtbfinmfdcbghfaaGreatNames5
namespace Go.Proofs.YtbfinmfdcbghfaaGreat
set_option linter.all false
open Go.Sx

def meetS (l m : List ByteArray) : List ByteArray := l.filter fun x => memS x m
def hasS (b : Bool) (l : List ByteArray) (x : ByteArray) : Bool := if x = ByteArray.empty then b else memS x l
theorem meet_add (i : Nat) (f : Nat → List DV) (m : List ByteArray) : meetS (gN (i + 1) f) m = if memS (gT (f i)) m = true then meetS (gN i f) m ++ [gT (f i)] else meetS (gN i f) m := by
  unfold meetS; rw [gN_add, List.filter_append]
  split <;> rename_i h <;> simp [h]
theorem meet_len (n : Nat) (f : Nat → List DV) (m : List ByteArray) : (meetS (gN n f) m).length ≤ n := by
  have := List.length_filter_le (fun x => memS x m) (gN n f)
  rw [gN_length] at this; exact this
theorem none_key {b0 : Bool} {n : Nat} {f : Nat → List DV} (h : (!b0) = true) : Value.bool ((n : Int) == 0) = Value.bool (!b0 && decide (gN n f = [])) := by
  rw [h, Bool.true_and]
  refine congrArg Value.bool (Bool.eq_iff_iff.2 ?_)
  rw [beq_iff_eq, decide_eq_true_eq, ← List.length_eq_zero_iff, gN_length]; omega
theorem gN_app {n m : Nat} {f g : Nat → List DV} : (gN (n + m) fun i => appRow n (fun i => [st (gT (f i))]) (fun i => [st (gT (g i))]) (0 + i)) = gN n f ++ gN m g := by
  unfold gN appRow
  apply List.ext_getElem
  · simp
  · intro i h1 h2
    by_cases h : i < n
    · simp [h, gT_st, List.getElem_append_left]
    · simp [h, gT_st, List.getElem_append_right (show (List.map (fun i => gT (f i)) (List.range n)).length ≤ i by simp; omega)]
theorem app_row {n : Nat} {f g : Nat → List DV} (i : Nat) : appRow n (fun i => [st (gT (f i))]) (fun i => [st (gT (g i))]) (0 + i) = [st (gT (appRow n (fun i => [st (gT (f i))]) (fun i => [st (gT (g i))]) (0 + i)))] := by
  unfold appRow; split <;> rfl
theorem subN_yes {n : Nat} {f : Nat → List DV} {m : List ByteArray} {b0 b1 : Bool} (h : ∀ j, j < n → gT (f j) ∈ m) (h0 : (!b0) = true) : ((!b0 || b1) && subS (gN n f) m) = true := by
  have := subS_yes (b0 := b0) (b1 := b1) (by intro e; simp_all) h
  have h2 : subS (gN n f) m = true := by
    unfold subS; rw [List.all_eq_true]; intro x hx
    obtain ⟨i, hi, rfl⟩ := gN_mem.1 hx
    exact memS_iff.2 (h i hi)
  rw [h2, h0]; rfl
theorem subN_yes' {n : Nat} {f : Nat → List DV} {m : List ByteArray} {b0 b1 : Bool} (h : ∀ j, j < n → gT (f j) ∈ m) (h0 : (!b0) = false) : ((!b0 || b1) && subS (gN n f) m) = b1 := by
  have h2 : subS (gN n f) m = true := by
    unfold subS; rw [List.all_eq_true]; intro x hx
    obtain ⟨i, hi, rfl⟩ := gN_mem.1 hx
    exact memS_iff.2 (h i hi)
  rw [h2, h0]; simp
theorem has_e {b : Bool} {l : List ByteArray} {x : ByteArray} (h : (x.toList == ByteArray.empty.toList) = true) : hasS b l x = b := by
  rw [seq_iff] at h; unfold hasS; rw [if_pos (by simpa using h)]
theorem has_n {b : Bool} {l : List ByteArray} {x : ByteArray} (h : (x.toList == ByteArray.empty.toList) = false) : hasS b l x = memS x l := by
  rw [seq_iff] at h; unfold hasS; rw [if_neg (by simpa using h)]

def FNJoin : List Ar → Option Rs
  | [.agg [.d (.v (.bool b0)), .d (.lst 1 n0 f0)], .agg [.d (.v (.bool b1)), .d (.lst 1 n1 f1)]] => some ⟨(n0 * 16 ≤ 140737488351232 ∧ ∀ i, i < n0 → f0 i = [st (gT (f0 i))]) ∧ (n1 * 16 ≤ 140737488351232 ∧ ∀ i, i < n1 → f1 i = [st (gT (f1 i))]) ∧ ((n0 + n1) * 16 ≤ 140737488351232), .va (Ns.ar (⟨b0 || b1, ofS (gN n0 f0 ++ gN n1 f1)⟩)), []⟩
  | _ => none
set_option maxHeartbeats 2000000 in
set_option maxRecDepth 100000 in
theorem fcNJoin : FC Tryz.prog 26 FNJoin := by
  intro xs pre r us h hp
  unfold FNJoin at h
  split at h
  · rename_i b0 n0 f0 b1 n1 f1
    cases h
    obtain ⟨hp0, hp1, hp2⟩ := hp
    refine FCat.of_eq (as' := [.agg [.d (.v (.bool b0)), .d (.lst 1 n0 fun i => [st (gT (f0 i))])], .agg [.d (.v (.bool b1)), .d (.lst 1 n1 fun i => [st (gT (f1 i))])]]) ?_ rfl rfl ?_
    · repeat' (first | exact trivial | exact rfl | refine ⟨?_, ?_⟩ | fail)
      all_goals first | exact hp0.2 | exact hp1.2 | exact hp2.2 | (intro i hi; exact (hp0.2 i hi).1) | (intro i hi; exact (hp1.2 i hi).1) | (intro i hi; exact (hp2.2 i hi).1) | grind
    refine fcat tys_ok (l := [(69, ⟨[], FNConcat⟩), (68, ⟨[], FNOf⟩)]) ⟨fcNConcat, fcNOf, trivial⟩ Tryz.func26 rfl (by kernel_rfl) true ?_
    repeat' (first | exact trivial | refine ⟨?_, ?_⟩ | intro _)
    all_goals first | (with_reducible show (_ : Int) ≤ _) | (with_reducible show (_ : Int) < _) | (with_reducible show (_ : Nat) ≤ _) | (with_reducible show (_ : Nat) < _) | (conv => whnf)
    all_goals first | (with_reducible exact hp2) | rfl | skip
    all_goals (try subst ‹b0 = _›)
    all_goals (try simp only [gN_lst] at *)
    all_goals first | rfl | (exact hp2) | (show ((gN n0 f0 ++ gN n1 f1).length) * 16 ≤ _; rw [List.length_append, gN_length, gN_length]; exact hp2) | trace_state
  · cases h
def FNNone : List Ar → Option Rs
  | [.agg [.d (.v (.bool b0)), .d (.lst 1 n0 f0)]] => some ⟨(n0 * 16 ≤ 140737488351232 ∧ ∀ i, i < n0 → f0 i = [st (gT (f0 i))]), .va (.c (.d (bo (!b0 && decide (gN n0 f0 = []))))), []⟩
  | _ => none
set_option maxHeartbeats 2000000 in
set_option maxRecDepth 100000 in
theorem fcNNone : FC Tryz.prog 78 FNNone := by
  intro xs pre r us h hp
  unfold FNNone at h
  split at h
  · rename_i b0 n0 f0
    cases h
    have hp0 := hp
    refine FCat.of_eq (as' := [.agg [.d (.v (.bool b0)), .d (.lst 1 n0 fun i => [st (gT (f0 i))])]]) ?_ rfl rfl ?_
    · repeat' (first | exact trivial | exact rfl | refine ⟨?_, ?_⟩ | fail)
      all_goals first | exact hp0.2 | exact hp1.2 | exact hp2.2 | (intro i hi; exact (hp0.2 i hi).1) | (intro i hi; exact (hp1.2 i hi).1) | (intro i hi; exact (hp2.2 i hi).1) | grind
    refine fcat tys_ok (l := []) trivial Tryz.func78 rfl (by kernel_rfl) false ?_
    repeat' (first | exact trivial | refine ⟨?_, ?_⟩ | intro _)
    all_goals first | (with_reducible show (_ : Int) ≤ _) | (with_reducible show (_ : Int) < _) | (with_reducible show (_ : Nat) ≤ _) | (with_reducible show (_ : Nat) < _) | (conv => whnf)
    all_goals first | (exact none_key ‹_›) | (rw [‹(!b0) = false›]; rfl) | trace_state
  · cases h
def FNHas : List Ar → Option Rs
  | [.agg [.d (.v (.bool b0)), .d (.lst 1 n0 f0)], .c (.d (.v (.string x1)))] => some ⟨(n0 * 16 ≤ 140737488351232 ∧ ∀ i, i < n0 → f0 i = [st (gT (f0 i))]), .va (.c (.d (bo (hasS b0 (gN n0 f0) x1)))), []⟩
  | _ => none
set_option maxHeartbeats 2000000 in
set_option maxRecDepth 100000 in
theorem fcNHas : FC Tryz.prog 51 FNHas := by
  intro xs pre r us h hp
  unfold FNHas at h
  split at h
  · rename_i b0 n0 f0 x1
    cases h
    have hp0 := hp
    refine FCat.of_eq (as' := [.agg [.d (.v (.bool b0)), .d (.lst 1 n0 fun i => [st (gT (f0 i))])], .c (.d (.v (.string x1)))]) ?_ rfl rfl ?_
    · repeat' (first | exact trivial | exact rfl | refine ⟨?_, ?_⟩ | fail)
      all_goals first | exact hp0.2 | exact hp1.2 | exact hp2.2 | (intro i hi; exact (hp0.2 i hi).1) | (intro i hi; exact (hp1.2 i hi).1) | (intro i hi; exact (hp2.2 i hi).1) | grind
    refine fcat tys_ok (l := [(87, ⟨[], FNContains⟩)]) ⟨fcNContains, trivial⟩ Tryz.func51 rfl (by kernel_rfl) false ?_
    repeat' (first | exact trivial | refine ⟨?_, ?_⟩ | intro _)
    all_goals first | (with_reducible show (_ : Int) ≤ _) | (with_reducible show (_ : Int) < _) | (with_reducible show (_ : Nat) ≤ _) | (with_reducible show (_ : Nat) < _) | (conv => whnf)
    all_goals first | exact hp0.1 | rfl | (rw [has_e ‹_›]; done) | (rw [has_e ‹_›]; rfl) | (rw [has_n ‹_›]; done) | (rw [has_n ‹_›]; rfl) | trace_state
  · cases h
def FRIn : List Ar → Option Rs
  | [.c (.d (.lst 1 n0 f0)), .c (.d (.v (.string x1)))] => some ⟨(n0 * 16 ≤ 140737488351232 ∧ ∀ i, i < n0 → f0 i = [st (gT (f0 i))]), .va (.c (.d (bo (memS x1 (gN n0 f0))))), []⟩
  | _ => none
set_option maxHeartbeats 2000000 in
set_option maxRecDepth 100000 in
theorem fcRIn : FC Tryz.prog 46 FRIn := by
  intro xs pre r us h hp
  unfold FRIn at h
  split at h
  · rename_i n0 f0 x1
    cases h
    have hp0 := hp
    refine FCat.of_eq (as' := [.c (.d (.lst 1 n0 fun i => [st (gT (f0 i))])), .c (.d (.v (.string x1)))]) ?_ rfl rfl ?_
    · repeat' (first | exact trivial | exact rfl | refine ⟨?_, ?_⟩ | fail)
      all_goals first | exact hp0.2 | exact hp1.2 | exact hp2.2 | (intro i hi; exact (hp0.2 i hi).1) | (intro i hi; exact (hp1.2 i hi).1) | (intro i hi; exact (hp2.2 i hi).1) | grind
    refine fcat tys_ok (l := []) trivial Tryz.func46 rfl (by kernel_rfl) false ?_
    repeat' (first | exact trivial | refine ⟨?_, ?_⟩ | intro _)
    all_goals first | (with_reducible show (_ : Int) ≤ _) | (with_reducible show (_ : Int) < _) | (with_reducible show (_ : Nat) ≤ _) | (with_reducible show (_ : Nat) < _) | (conv => whnf)
    refine loop_ids tys_ok (l := []) trivial (by kernel_rfl) (X := Nat)
      (fun x => ⟨[(5, vx (.int .i64 x)), (0, .va (.c (.d (.lst 1 n0 fun i => [st (gT (f0 i))])))), (1, vx (.string x1))], [], 0, 18⟩)
      (fun x => n0 - x) (fun x => x ≤ n0 ∧ ∀ j, j < x → ¬ x1 = gT (f0 j)) [] []
      (fun x _ _ => x + 1) (fun _ => []) [] 0 0 0 ?_ ?_ ?_
    · exact ⟨Nat.zero_le _, fun j h => absurd h (Nat.not_lt_zero _)⟩
    · repeat' (first | exact trivial | exact rfl | (intro _ h; exact absurd h (Nat.not_lt_zero _)) | (intro _ _; exact rfl) | refine ⟨?_, ?_⟩ | fail)
    · rintro i ⟨k1, k2⟩
      repeat' (first | exact trivial | refine ⟨?_, ?_⟩ | intro _)
      all_goals first | (with_reducible show (_ : Int) ≤ _) | (with_reducible show (_ : Int) < _) | (with_reducible show (_ : Nat) ≤ _) | (with_reducible show (_ : Nat) < _) | (conv => whnf)
      all_goals (try simp only [Int.toNat_natCast, decide_eq_true_eq, decide_eq_false_iff_not, seq_iff, gN_canon] at *)
      all_goals first | omega | ((with_reducible show idsOk _ _ = true); rfl) | ((with_reducible show Value.int _ _ = Value.int _ _); rw [wI_id _ (by omega) (by omega)]; rfl) | (exact congrArg Value.bool (memS_iff.2 (gN_mem.2 ⟨i, by omega, by first | exact ‹_ = _› | exact ‹_ = _›.symm⟩)).symm) | (exact congrArg Value.bool (memS_not.2 (by rw [gN_mem]; rintro ⟨j, hj, e⟩; exact k2 j (by omega) e.symm)).symm) | (exact not_step k2 (by first | assumption | (intro e; exact absurd e.symm (by assumption))) _ ‹_ < i + 1›) | (exact absurd (by assumption) (not_step k2 (by first | assumption | (intro e; exact absurd e.symm (by assumption))) _ ‹_ < i + 1›)) | rfl | trace_state
  · cases h
def FRHas : List Ar → Option Rs
  | [.agg [.d (.v (.bool b0)), .d (.lst 1 n0 f0)], .c (.d (.v (.string x1)))] => some ⟨(n0 * 16 ≤ 140737488351232 ∧ ∀ i, i < n0 → f0 i = [st (gT (f0 i))]), .va (.c (.d (bo (hasS b0 (gN n0 f0) x1)))), []⟩
  | _ => none
set_option maxHeartbeats 2000000 in
set_option maxRecDepth 100000 in
theorem fcRHas : FC Tryz.prog 14 FRHas := by
  intro xs pre r us h hp
  unfold FRHas at h
  split at h
  · rename_i b0 n0 f0 x1
    cases h
    have hp0 := hp
    refine FCat.of_eq (as' := [.agg [.d (.v (.bool b0)), .d (.lst 1 n0 fun i => [st (gT (f0 i))])], .c (.d (.v (.string x1)))]) ?_ rfl rfl ?_
    · repeat' (first | exact trivial | exact rfl | refine ⟨?_, ?_⟩ | fail)
      all_goals first | exact hp0.2 | exact hp1.2 | exact hp2.2 | (intro i hi; exact (hp0.2 i hi).1) | (intro i hi; exact (hp1.2 i hi).1) | (intro i hi; exact (hp2.2 i hi).1) | grind
    refine fcat tys_ok (l := [(46, ⟨[], FRIn⟩)]) ⟨fcRIn, trivial⟩ Tryz.func14 rfl (by kernel_rfl) false ?_
    repeat' (first | exact trivial | refine ⟨?_, ?_⟩ | intro _)
    all_goals first | (with_reducible show (_ : Int) ≤ _) | (with_reducible show (_ : Int) < _) | (with_reducible show (_ : Nat) ≤ _) | (with_reducible show (_ : Nat) < _) | (conv => whnf)
    all_goals first | exact hp0.1 | rfl | (rw [has_e ‹_›]; done) | (rw [has_e ‹_›]; rfl) | (rw [has_n ‹_›]; done) | (rw [has_n ‹_›]; rfl) | trace_state
  · cases h
def FRNJoin : List Ar → Option Rs
  | [.agg [.d (.v (.bool b0)), .d (.lst 1 n0 f0)], .agg [.d (.v (.bool b1)), .d (.lst 1 n1 f1)]] => some ⟨(n0 * 16 ≤ 140737488351232 ∧ ∀ i, i < n0 → f0 i = [st (gT (f0 i))]) ∧ (n1 * 16 ≤ 140737488351232 ∧ ∀ i, i < n1 → f1 i = [st (gT (f1 i))]) ∧ ((n0 + n1) * 16 ≤ 140737488351232), .va (Ns.ar (⟨b0 || b1, cleanS (gN n0 f0 ++ gN n1 f1)⟩)), []⟩
  | _ => none
set_option maxHeartbeats 2000000 in
set_option maxRecDepth 100000 in
theorem fcRNJoin : FC Tryz.prog 73 FRNJoin := by
  intro xs pre r us h hp
  unfold FRNJoin at h
  split at h
  · rename_i b0 n0 f0 b1 n1 f1
    cases h
    obtain ⟨hp0, hp1, hp2⟩ := hp
    refine FCat.of_eq (as' := [.agg [.d (.v (.bool b0)), .d (.lst 1 n0 fun i => [st (gT (f0 i))])], .agg [.d (.v (.bool b1)), .d (.lst 1 n1 fun i => [st (gT (f1 i))])]]) ?_ rfl rfl ?_
    · repeat' (first | exact trivial | exact rfl | refine ⟨?_, ?_⟩ | fail)
      all_goals first | exact hp0.2 | exact hp1.2 | exact hp2.2 | (intro i hi; exact (hp0.2 i hi).1) | (intro i hi; exact (hp1.2 i hi).1) | (intro i hi; exact (hp2.2 i hi).1) | grind
    refine fcat tys_ok (l := [(71, ⟨[], FRClean⟩)]) ⟨fcRClean, trivial⟩ Tryz.func73 rfl (by kernel_rfl) true ?_
    repeat' (first | exact trivial | refine ⟨?_, ?_⟩ | intro _)
    all_goals first | (with_reducible show (_ : Int) ≤ _) | (with_reducible show (_ : Int) < _) | (with_reducible show (_ : Nat) ≤ _) | (with_reducible show (_ : Nat) < _) | (conv => whnf)
    all_goals first | omega | (exact app_row (f := f0) (g := f1) _) | skip
    all_goals (try subst ‹b0 = _›)
    all_goals (try dsimp only at *)
    all_goals (try rw [gN_app])
    all_goals first | rfl | (exact app_row (f := f0) (g := f1) _) | trace_state
  · cases h
def FRNLeq : List Ar → Option Rs
  | [.agg [.d (.v (.bool b0)), .d (.lst 1 n0 f0)], .agg [.d (.v (.bool b1)), .d (.lst 1 n1 f1)]] => some ⟨(n0 * 16 ≤ 140737488351232 ∧ ∀ i, i < n0 → f0 i = [st (gT (f0 i))]) ∧ (n1 * 16 ≤ 140737488351232 ∧ ∀ i, i < n1 → f1 i = [st (gT (f1 i))]), .va (.c (.d (bo ((!b0 || b1) && subS (gN n0 f0) (gN n1 f1))))), []⟩
  | _ => none
set_option maxHeartbeats 2000000 in
set_option maxRecDepth 100000 in
theorem fcRNLeq : FC Tryz.prog 80 FRNLeq := by
  intro xs pre r us h hp
  unfold FRNLeq at h
  split at h
  · rename_i b0 n0 f0 b1 n1 f1
    cases h
    obtain ⟨hp0, hp1⟩ := hp
    refine FCat.of_eq (as' := [.agg [.d (.v (.bool b0)), .d (.lst 1 n0 fun i => [st (gT (f0 i))])], .agg [.d (.v (.bool b1)), .d (.lst 1 n1 fun i => [st (gT (f1 i))])]]) ?_ rfl rfl ?_
    · repeat' (first | exact trivial | exact rfl | refine ⟨?_, ?_⟩ | fail)
      all_goals first | exact hp0.2 | exact hp1.2 | exact hp2.2 | (intro i hi; exact (hp0.2 i hi).1) | (intro i hi; exact (hp1.2 i hi).1) | (intro i hi; exact (hp2.2 i hi).1) | grind
    refine fcat tys_ok (l := [(46, ⟨[], FRIn⟩)]) ⟨fcRIn, trivial⟩ Tryz.func80 rfl (by kernel_rfl) false ?_
    repeat' (first | exact trivial | refine ⟨?_, ?_⟩ | intro _)
    all_goals first | (with_reducible show (_ : Int) ≤ _) | (with_reducible show (_ : Int) < _) | (with_reducible show (_ : Nat) ≤ _) | (with_reducible show (_ : Nat) < _) | (conv => whnf)
    refine loop_ids tys_ok (l := [(46, ⟨[], FRIn⟩)]) ⟨fcRIn, trivial⟩ (by kernel_rfl) (X := Nat)
      (fun x => ⟨[(5, vx (.int .i64 x)), (2, .va (.c (.own 0 0))), (3, .va (.c (.own 1 0)))], [(0, .cells [.d (bo b0), .d (.lst 1 n0 fun i => [st (gT (f0 i))])]), (1, .cells [.d (bo b1), .d (.lst 1 n1 fun i => [st (gT (f1 i))])])], 2, 29⟩)
      (fun x => n0 - x) (fun x => x ≤ n0 ∧ ∀ j, j < x → gT (f0 j) ∈ gN n1 f1) [] []
      (fun x _ _ => x + 1) (fun _ => [0, 1]) [0, 1] 0 0 0 ?_ ?_ ?_
    · exact ⟨Nat.zero_le _, fun j h => absurd h (Nat.not_lt_zero _)⟩
    · repeat' (first | exact trivial | exact rfl | (intro _ h; exact absurd h (Nat.not_lt_zero _)) | (intro _ _; exact rfl) | refine ⟨?_, ?_⟩ | fail)
    · rintro i ⟨k1, k2⟩
      repeat' (first | exact trivial | refine ⟨?_, ?_⟩ | intro _)
      all_goals first | (with_reducible show (_ : Int) ≤ _) | (with_reducible show (_ : Int) < _) | (with_reducible show (_ : Nat) ≤ _) | (with_reducible show (_ : Nat) < _) | (conv => whnf)
      all_goals (try simp only [Int.toNat_natCast, decide_eq_true_eq, decide_eq_false_iff_not, seq_iff, gN_canon] at *)
      all_goals first | omega | ((with_reducible show idsOk _ _ = true); rfl) | ((with_reducible show Value.int _ _ = Value.int _ _); rw [wI_id _ (by omega) (by omega)]; rfl) | (exact hp1.1) | (exact subS_no (i := i) (by omega) (by assumption)) | (exact in_step k2 (by assumption) _ (by assumption)) | (exact congrArg Value.bool (subN_yes (fun j hj => k2 j (by omega)) (by assumption)).symm) | (exact congrArg Value.bool (subN_yes' (fun j hj => k2 j (by omega)) (by assumption)).symm) | rfl | trace_state
  · cases h
def FRNLen : List Ar → Option Rs
  | [.agg [.d (.v (.bool b0)), .d (.lst 1 n0 f0)]] => some ⟨(n0 * 16 ≤ 140737488351232 ∧ ∀ i, i < n0 → f0 i = [st (gT (f0 i))]), .va (.c (.d (it (((cleanS (gN n0 f0)).length : Int) + if b0 then 1 else 0)))), []⟩
  | _ => none
set_option maxHeartbeats 2000000 in
set_option maxRecDepth 100000 in
theorem fcRNLen : FC Tryz.prog 81 FRNLen := by
  intro xs pre r us h hp
  unfold FRNLen at h
  split at h
  · rename_i b0 n0 f0
    cases h
    have hp0 := hp
    refine FCat.of_eq (as' := [.agg [.d (.v (.bool b0)), .d (.lst 1 n0 fun i => [st (gT (f0 i))])]]) ?_ rfl rfl ?_
    · repeat' (first | exact trivial | exact rfl | refine ⟨?_, ?_⟩ | fail)
      all_goals first | exact hp0.2 | exact hp1.2 | exact hp2.2 | (intro i hi; exact (hp0.2 i hi).1) | (intro i hi; exact (hp1.2 i hi).1) | (intro i hi; exact (hp2.2 i hi).1) | grind
    refine fcat tys_ok (l := [(71, ⟨[], FRClean⟩)]) ⟨fcRClean, trivial⟩ Tryz.func81 rfl (by kernel_rfl) false ?_
    have hL := cleanS_len n0 f0
    repeat' (first | exact trivial | refine ⟨?_, ?_⟩ | intro _)
    all_goals first | (with_reducible show (_ : Int) ≤ _) | (with_reducible show (_ : Int) < _) | (with_reducible show (_ : Nat) ≤ _) | (with_reducible show (_ : Nat) < _) | (conv => whnf)
    all_goals first | exact hp0.1 | rfl | (show Value.int .i64 (IntKind.wrap .i64 (((cleanS (gN n0 f0)).length : Int) + 1)) = _; unfold cleanS; rw [wI_id _ (by omega) (by omega), if_pos ‹b0 = true›]) | (rw [if_neg (by rw [‹b0 = false›]; decide)]; show Value.int .i64 ((cleanS (gN n0 f0)).length : Int) = _; rw [Int.add_zero]) | trace_state
  · cases h
def FNMeet : List Ar → Option Rs
  | [.agg [.d (.v (.bool b0)), .d (.lst 1 n0 f0)], .agg [.d (.v (.bool b1)), .d (.lst 1 n1 f1)]] => some ⟨(n0 * 16 ≤ 140737488351232 ∧ ∀ i, i < n0 → f0 i = [st (gT (f0 i))]) ∧ (n1 * 16 ≤ 140737488351232 ∧ ∀ i, i < n1 → f1 i = [st (gT (f1 i))]), .va (Ns.ar (⟨b0 && b1, ofS (meetS (gN n0 f0) (gN n1 f1))⟩)), []⟩
  | _ => none
set_option maxHeartbeats 2000000 in
set_option maxRecDepth 100000 in
theorem fcNMeet : FC Tryz.prog 43 FNMeet := by
  intro xs pre r us h hp
  unfold FNMeet at h
  split at h
  · rename_i b0 n0 f0 b1 n1 f1
    cases h
    obtain ⟨hp0, hp1⟩ := hp
    refine FCat.of_eq (as' := [.agg [.d (.v (.bool b0)), .d (.lst 1 n0 fun i => [st (gT (f0 i))])], .agg [.d (.v (.bool b1)), .d (.lst 1 n1 fun i => [st (gT (f1 i))])]]) ?_ rfl rfl ?_
    · repeat' (first | exact trivial | exact rfl | refine ⟨?_, ?_⟩ | fail)
      all_goals first | exact hp0.2 | exact hp1.2 | exact hp2.2 | (intro i hi; exact (hp0.2 i hi).1) | (intro i hi; exact (hp1.2 i hi).1) | (intro i hi; exact (hp2.2 i hi).1) | grind
    refine fcat tys_ok (l := [(87, ⟨[], FNContains⟩), (68, ⟨[], FNOf⟩)]) ⟨fcNContains, fcNOf, trivial⟩ Tryz.func43 rfl (by kernel_rfl) true ?_
    repeat' (first | exact trivial | refine ⟨?_, ?_⟩ | intro _)
    all_goals first | (with_reducible show (_ : Int) ≤ _) | (with_reducible show (_ : Int) < _) | (with_reducible show (_ : Nat) ≤ _) | (with_reducible show (_ : Nat) < _) | (conv => whnf)
    refine loop_ids tys_ok (l := [(87, ⟨[], FNContains⟩), (68, ⟨[], FNOf⟩)]) ⟨fcNContains, fcNOf, trivial⟩ (by kernel_rfl) (X := Nat × List ByteArray)
      (fun x => ⟨[(11, vx (.int .i64 x.1)), (10, vx (.int .i64 n0)), (9, .va (.c (.d (.lst 1 n0 fun i => [st (gT (f0 i))])))), (5, .va (.c (.osl 3 1 0 x.2.length))), (2, .va (.c (.own 0 0))), (3, .va (.c (.own 1 0))), (4, .va (.c (.own 2 0)))],
        [(3, .row 1 x.2.length fun j => [st (atS x.2 j)]), (0, .cells [.d (bo b0), .d (.lst 1 n0 fun i => [st (gT (f0 i))])]), (1, .cells [.d (bo b1), .d (.lst 1 n1 fun i => [st (gT (f1 i))])]), (2, .cells [.d (bo false), .d (.v (.slice none 0 0))])], 4, 32⟩)
      (fun x => n0 - x.1) (fun x => x.1 ≤ n0 ∧ x.2 = meetS (gN x.1 f0) (gN n1 f1)) [5] []
      (fun x _ _ => (x.1 + 1, meetS (gN (x.1 + 1) f0) (gN n1 f1))) (fun xs => match xs with | [t] => [0, 1, 2, oI t] | _ => []) [0, 1, 2] 0 1 (0, []) ?_ ?_ ?_
    · exact ⟨Nat.zero_le _, rfl⟩
    · repeat' (first | exact trivial | exact rfl | (intro _ h; exact absurd h (Nat.not_lt_zero _)) | (intro _ _; exact rfl) | refine ⟨?_, ?_⟩ | fail)
      all_goals decide
    · rintro ⟨i, l⟩ ⟨k1, k2⟩
      dsimp only at k1 k2
      have k3 := meet_len i f0 (gN n1 f1)
      rw [← k2] at k3
      repeat' (first | exact trivial | refine ⟨?_, ?_⟩ | intro _)
      all_goals first | (with_reducible show (_ : Int) ≤ _) | (with_reducible show (_ : Int) < _) | (with_reducible show (_ : Nat) ≤ _) | (with_reducible show (_ : Nat) < _) | (conv => whnf)
      all_goals (try simp only [Int.toNat_natCast, decide_eq_true_eq, decide_eq_false_iff_not, seq_iff, gN_canon] at *)
      all_goals first | omega | ((with_reducible show idsOk _ _ = true); rfl) | ((with_reducible show Value.int _ _ = Value.int _ _); rw [wI_id _ (by omega) (by omega)]; rfl) | rfl | (with_reducible exact hp1.1) | (simp; done) | skip
      all_goals first | (rw [meet_add, if_pos ‹memS _ _ = true›, ← k2]; first | (simp; done) | (exact appRow_snoc rfl (fun _ _ => rfl) rfl _ ‹_›)) | (rw [meet_add, if_neg (by rw [‹memS _ _ = false›]; decide), ← k2]; done) | (rw [meet_add, if_neg (by rw [‹memS _ _ = false›]; decide), ← k2]; rfl) | skip
      all_goals (have hi : i = n0 := by omega)
      all_goals (subst hi; try simp only [Nat.zero_add, gN_lst])
      all_goals first | (rw [k2]; done) | (rw [‹b0 = true›]; rfl) | (rw [‹b0 = false›]; rfl) | trace_state
  · cases h

end Go.Proofs.YtbfinmfdcbghfaaGreat
