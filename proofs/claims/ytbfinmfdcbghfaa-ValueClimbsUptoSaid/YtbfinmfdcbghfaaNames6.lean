/- What the rest of the layer of names, and its reference, compute. No condition. -/
import Derived.Test.YtbfinmfdcbghfaaNames5
namespace Go.Proofs.Ytbfinmfdcbghfaa
set_option linter.all false
open Go.Sx

def meetS (l m : List ByteArray) : List ByteArray := l.filter fun x => memS x m
def hasS (b : Bool) (l : List ByteArray) (x : ByteArray) : Bool := if x = ByteArray.empty then b else memS x l
theorem meet_add (i : Nat) (f : Nat → List DV) (m : List ByteArray) : meetS (gN (i + 1) f) m = if memS (gT (f i)) m = true then meetS (gN i f) m ++ [gT (f i)] else meetS (gN i f) m := by
  unfold meetS; rw [gN_add, List.filter_append]
  split <;> rename_i h <;> simp [h]
theorem meet_len (n : Nat) (f : Nat → List DV) (m : List ByteArray) : (meetS (gN n f) m).length ≤ n := by
  have := List.length_filter_le (fun x => memS x m) (gN n f)
  rw [gN_length] at this; exact this
theorem none_key {b0 : Bool} {n : Nat} {f : Nat → List DV} (h : (!b0) = true) : Value.bool ((n : Int) == 0) = Value.bool (!b0 && decide (gN n f = [])) := by
  rw [h, Bool.true_and]
  refine congrArg Value.bool (Bool.eq_iff_iff.2 ?_)
  rw [beq_iff_eq, decide_eq_true_eq, ← List.length_eq_zero_iff, gN_length]; omega
theorem gN_app {n m : Nat} {f g : Nat → List DV} : (gN (n + m) fun i => appRow n (fun i => [st (gT (f i))]) (fun i => [st (gT (g i))]) (0 + i)) = gN n f ++ gN m g := by
  unfold gN appRow
  apply List.ext_getElem
  · simp
  · intro i h1 h2
    by_cases h : i < n
    · simp [h, gT_st, List.getElem_append_left]
    · simp [h, gT_st, List.getElem_append_right (show (List.map (fun i => gT (f i)) (List.range n)).length ≤ i by simp; omega)]
theorem app_row {n : Nat} {f g : Nat → List DV} (i : Nat) : appRow n (fun i => [st (gT (f i))]) (fun i => [st (gT (g i))]) (0 + i) = [st (gT (appRow n (fun i => [st (gT (f i))]) (fun i => [st (gT (g i))]) (0 + i)))] := by
  unfold appRow; split <;> rfl
theorem subN_yes {n : Nat} {f : Nat → List DV} {m : List ByteArray} {b0 b1 : Bool} (h : ∀ j, j < n → gT (f j) ∈ m) (h0 : (!b0) = true) : ((!b0 || b1) && subS (gN n f) m) = true := by
  have := subS_yes (b0 := b0) (b1 := b1) (by intro e; simp_all) h
  have h2 : subS (gN n f) m = true := by
    unfold subS; rw [List.all_eq_true]; intro x hx
    obtain ⟨i, hi, rfl⟩ := gN_mem.1 hx
    exact memS_iff.2 (h i hi)
  rw [h2, h0]; rfl
theorem subN_yes' {n : Nat} {f : Nat → List DV} {m : List ByteArray} {b0 b1 : Bool} (h : ∀ j, j < n → gT (f j) ∈ m) (h0 : (!b0) = false) : ((!b0 || b1) && subS (gN n f) m) = b1 := by
  have h2 : subS (gN n f) m = true := by
    unfold subS; rw [List.all_eq_true]; intro x hx
    obtain ⟨i, hi, rfl⟩ := gN_mem.1 hx
    exact memS_iff.2 (h i hi)
  rw [h2, h0]; simp
theorem has_e {b : Bool} {l : List ByteArray} {x : ByteArray} (h : (x.toList == ByteArray.empty.toList) = true) : hasS b l x = b := by
  rw [seq_iff] at h; unfold hasS; rw [if_pos (by simpa using h)]
theorem has_n {b : Bool} {l : List ByteArray} {x : ByteArray} (h : (x.toList == ByteArray.empty.toList) = false) : hasS b l x = memS x l := by
  rw [seq_iff] at h; unfold hasS; rw [if_neg (by simpa using h)]

def FNJoin : List Ar → Option Rs
  | [.agg [.d (.v (.bool b0)), .d (.lst 1 n0 f0)], .agg [.d (.v (.bool b1)), .d (.lst 1 n1 f1)]] => some ⟨(n0 * 16 ≤ 140737488351232 ∧ ∀ i, i < n0 → f0 i = [st (gT (f0 i))]) ∧ (n1 * 16 ≤ 140737488351232 ∧ ∀ i, i < n1 → f1 i = [st (gT (f1 i))]) ∧ ((n0 + n1) * 16 ≤ 140737488351232), .va (Ns.ar (⟨b0 || b1, ofS (gN n0 f0 ++ gN n1 f1)⟩)), []⟩
  | _ => none
set_option maxHeartbeats 1000000 in
set_option maxRecDepth 100000 in
theorem fcNJoin : FC Try.prog 45 FNJoin := by
  intro xs pre r us h hp
  unfold FNJoin at h
  split at h
  · rename_i b0 n0 f0 b1 n1 f1
    cases h
    obtain ⟨hp0, hp1, hp2⟩ := hp
    refine FCat.of_eq (as' := [.agg [.d (.v (.bool b0)), .d (.lst 1 n0 fun i => [st (gT (f0 i))])], .agg [.d (.v (.bool b1)), .d (.lst 1 n1 fun i => [st (gT (f1 i))])]]) ?_ rfl rfl ?_
    · repeat' (first | exact trivial | exact rfl | refine ⟨?_, ?_⟩ | fail)
      all_goals first | exact hp0.2 | exact hp1.2 | exact hp2.2 | (intro i hi; exact (hp0.2 i hi).1) | (intro i hi; exact (hp1.2 i hi).1) | (intro i hi; exact (hp2.2 i hi).1) | grind
    refine fcat tys_ok (l := [(74, ⟨[], FNConcat⟩), (66, ⟨[], FNOf⟩)]) ⟨fcNConcat, fcNOf, trivial⟩ Try.func45 rfl (by kernel_rfl) true ?_
    repeat' (first | exact trivial | refine ⟨?_, ?_⟩ | intro _)
    all_goals first | (with_reducible show (_ : Int) ≤ _) | (with_reducible show (_ : Int) < _) | (with_reducible show (_ : Nat) ≤ _) | (with_reducible show (_ : Nat) < _) | (conv => whnf)
    all_goals first | (with_reducible exact hp2) | rfl | skip
    all_goals (try subst ‹b0 = _›)
    all_goals (try simp only [gN_lst] at *)
    all_goals first | rfl | (exact hp2) | (show ((gN n0 f0 ++ gN n1 f1).length) * 16 ≤ _; rw [List.length_append, gN_length, gN_length]; exact hp2) | trace_state
  · cases h
def FNSame : List Ar → Option Rs
  | [.agg [.d (.v (.bool b0)), .d (.lst 1 n0 f0)], .agg [.d (.v (.bool b1)), .d (.lst 1 n1 f1)]] => some ⟨(n0 * 16 ≤ 140737488351232 ∧ ∀ i, i < n0 → f0 i = [st (gT (f0 i))]) ∧ (n1 * 16 ≤ 140737488351232 ∧ ∀ i, i < n1 → f1 i = [st (gT (f1 i))]), .va (.c (.d (bo (((!b0 || b1) && subS (gN n0 f0) (gN n1 f1)) && ((!b1 || b0) && subS (gN n1 f1) (gN n0 f0)))))), []⟩
  | _ => none
set_option maxHeartbeats 1000000 in
set_option maxRecDepth 100000 in
theorem fcNSame : FC Try.prog 46 FNSame := by
  intro xs pre r us h hp
  unfold FNSame at h
  split at h
  · rename_i b0 n0 f0 b1 n1 f1
    cases h
    obtain ⟨hp0, hp1⟩ := hp
    refine FCat.of_eq (as' := [.agg [.d (.v (.bool b0)), .d (.lst 1 n0 fun i => [st (gT (f0 i))])], .agg [.d (.v (.bool b1)), .d (.lst 1 n1 fun i => [st (gT (f1 i))])]]) ?_ rfl rfl ?_
    · repeat' (first | exact trivial | exact rfl | refine ⟨?_, ?_⟩ | fail)
      all_goals first | exact hp0.2 | exact hp1.2 | exact hp2.2 | (intro i hi; exact (hp0.2 i hi).1) | (intro i hi; exact (hp1.2 i hi).1) | (intro i hi; exact (hp2.2 i hi).1) | grind
    refine fcat tys_ok (l := [(38, ⟨[], FNLeq⟩)]) ⟨fcNLeq, trivial⟩ Try.func46 rfl (by kernel_rfl) false ?_
    repeat' (first | exact trivial | refine ⟨?_, ?_⟩ | intro _)
    all_goals first | (with_reducible show (_ : Int) ≤ _) | (with_reducible show (_ : Int) < _) | (with_reducible show (_ : Nat) ≤ _) | (with_reducible show (_ : Nat) < _) | (conv => whnf)
    all_goals first | rfl | exact hp0.1 | exact hp1.1 | skip
    all_goals (try simp only [gN_canon] at *)
    all_goals first | rfl | (simp only [*, Bool.true_and, Bool.false_and, Bool.and_true, Bool.and_false]; done) | (simp_all; done) | trace_state
  · cases h
def FRNJoin : List Ar → Option Rs
  | [.agg [.d (.v (.bool b0)), .d (.lst 1 n0 f0)], .agg [.d (.v (.bool b1)), .d (.lst 1 n1 f1)]] => some ⟨(n0 * 16 ≤ 140737488351232 ∧ ∀ i, i < n0 → f0 i = [st (gT (f0 i))]) ∧ (n1 * 16 ≤ 140737488351232 ∧ ∀ i, i < n1 → f1 i = [st (gT (f1 i))]) ∧ ((n0 + n1) * 16 ≤ 140737488351232), .va (Ns.ar (⟨b0 || b1, cleanS (gN n0 f0 ++ gN n1 f1)⟩)), []⟩
  | _ => none
set_option maxHeartbeats 1000000 in
set_option maxRecDepth 100000 in
theorem fcRNJoin : FC Try.prog 19 FRNJoin := by
  intro xs pre r us h hp
  unfold FRNJoin at h
  split at h
  · rename_i b0 n0 f0 b1 n1 f1
    cases h
    obtain ⟨hp0, hp1, hp2⟩ := hp
    refine FCat.of_eq (as' := [.agg [.d (.v (.bool b0)), .d (.lst 1 n0 fun i => [st (gT (f0 i))])], .agg [.d (.v (.bool b1)), .d (.lst 1 n1 fun i => [st (gT (f1 i))])]]) ?_ rfl rfl ?_
    · repeat' (first | exact trivial | exact rfl | refine ⟨?_, ?_⟩ | fail)
      all_goals first | exact hp0.2 | exact hp1.2 | exact hp2.2 | (intro i hi; exact (hp0.2 i hi).1) | (intro i hi; exact (hp1.2 i hi).1) | (intro i hi; exact (hp2.2 i hi).1) | grind
    refine fcat tys_ok (l := [(14, ⟨[], FRClean⟩)]) ⟨fcRClean, trivial⟩ Try.func19 rfl (by kernel_rfl) true ?_
    repeat' (first | exact trivial | refine ⟨?_, ?_⟩ | intro _)
    all_goals first | (with_reducible show (_ : Int) ≤ _) | (with_reducible show (_ : Int) < _) | (with_reducible show (_ : Nat) ≤ _) | (with_reducible show (_ : Nat) < _) | (conv => whnf)
    all_goals first | omega | (exact app_row (f := f0) (g := f1) _) | skip
    all_goals (try subst ‹b0 = _›)
    all_goals (try dsimp only at *)
    all_goals (try rw [gN_app])
    all_goals first | rfl | (exact app_row (f := f0) (g := f1) _) | trace_state
  · cases h

end Go.Proofs.Ytbfinmfdcbghfaa
