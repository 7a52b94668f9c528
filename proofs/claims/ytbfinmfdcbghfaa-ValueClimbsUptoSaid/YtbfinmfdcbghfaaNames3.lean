/- What more functions of the layer of names compute. No condition. -/
import Derived.Test.YtbfinmfdcbghfaaNames2
namespace Go.Proofs.Ytbfinmfdcbghfaa
set_option linter.all false
open Go.Sx

def memS (x : ByteArray) (l : List ByteArray) : Bool := l.any fun y => decide (x = y)
theorem memS_iff {x : ByteArray} {l : List ByteArray} : memS x l = true ↔ x ∈ l := by
  unfold memS; simp
theorem memS_not {x : ByteArray} {l : List ByteArray} : memS x l = false ↔ ¬ x ∈ l := by
  rw [← memS_iff]; simp
def ixS (l : List ByteArray) (x : ByteArray) : Int := if memS x l = true then (l.findIdx fun y => decide (x = y) : Nat) else -1
def subS (l m : List ByteArray) : Bool := l.all fun x => memS x m
theorem ixS_no {n : Nat} {f : Nat → List DV} {x : ByteArray} (h : ∀ j, j < n → ¬ x = gT (f j)) : (-1 : Int) = ixS (gN n f) x := by
  unfold ixS
  rw [if_neg]
  rw [memS_iff, gN_mem]
  rintro ⟨i, hi, e⟩
  exact h i hi e.symm
theorem ixS_at {n i : Nat} {f : Nat → List DV} {x : ByteArray} (h : ∀ j, j < i → ¬ x = gT (f j)) (hi : i < n) (he : x = gT (f i)) : (i : Int) = ixS (gN n f) x := by
  unfold ixS
  rw [if_pos (memS_iff.2 (gN_mem.2 ⟨i, hi, he.symm⟩))]
  have hl : i < (gN n f).length := by rw [gN_length]; exact hi
  have hg : ∀ j (hj : j < (gN n f).length), (gN n f)[j] = gT (f j) := fun j hj => by simp [gN]
  have : (gN n f).findIdx (fun y => decide (x = y)) = i := by
    rw [List.findIdx_eq hl]
    refine ⟨by rw [hg i hl]; simpa using he, fun j hj => ?_⟩
    rw [hg j (by omega)]; simpa using h j hj
  rw [this]
theorem ixS_ge {l : List ByteArray} {x : ByteArray} : decide (ixS l x ≥ 0) = memS x l := by
  unfold ixS
  split
  · rename_i h; simp [h]
  · rename_i h; simp [h]
theorem not_step {i : Nat} {f : Nat → List DV} {x : ByteArray} (k : ∀ j, j < i → ¬ x = gT (f j)) (h : ¬ x = gT (f i)) (j : Nat) (hj : j < i + 1) : ¬ x = gT (f j) := by
  rcases Nat.lt_or_ge j i with h1 | h1
  · exact k j h1
  · have : j = i := by omega
    subst this
    exact h
theorem subS_no {n i : Nat} {f : Nat → List DV} {m : List ByteArray} {p : Bool} (hi : i < n) (h : (!memS (gT (f i)) m) = true) : Value.bool false = Value.bool (p && subS (gN n f) m) := by
  have : subS (gN n f) m = false := by
    unfold subS
    rw [List.all_eq_false]
    exact ⟨gT (f i), gN_mem.2 ⟨i, hi, rfl⟩, by simpa using h⟩
  rw [this]; simp
theorem subS_yes {n : Nat} {f : Nat → List DV} {m : List ByteArray} {b0 b1 : Bool} (h0 : b0 = true → b1 = true) (h : ∀ j, j < n → gT (f j) ∈ m) : Value.bool true = Value.bool ((!b0 || b1) && subS (gN n f) m) := by
  have : subS (gN n f) m = true := by
    unfold subS
    rw [List.all_eq_true]
    intro x hx
    obtain ⟨i, hi, rfl⟩ := gN_mem.1 hx
    exact memS_iff.2 (h i hi)
  rw [this]
  cases b0 <;> simp_all
theorem in_step {i : Nat} {f : Nat → List DV} {m : List ByteArray} (k : ∀ j, j < i → gT (f j) ∈ m) (h : (!memS (gT (f i)) m) = false) (j : Nat) (hj : j < i + 1) : gT (f j) ∈ m := by
  rcases Nat.lt_or_ge j i with h1 | h1
  · exact k j h1
  · have : j = i := by omega
    subst this
    exact memS_iff.1 (by simpa using h)

def FNIndex : List Ar → Option Rs
  | [.c (.d (.lst 1 n0 f0)), .c (.d (.v (.string x1)))] => some ⟨(n0 * 16 ≤ 140737488351232 ∧ ∀ i, i < n0 → f0 i = [st (gT (f0 i))]), .va (.c (.d (it (ixS (gN n0 f0) x1)))), []⟩
  | _ => none
set_option maxHeartbeats 1000000 in
set_option maxRecDepth 100000 in
theorem fcNIndex : FC Try.prog 80 FNIndex := by
  intro xs pre r us h hp
  unfold FNIndex at h
  split at h
  · rename_i n0 f0 x1
    cases h
    have hp0 := hp
    refine FCat.of_eq (as' := [.c (.d (.lst 1 n0 fun i => [st (gT (f0 i))])), .c (.d (.v (.string x1)))]) ?_ rfl rfl ?_
    · repeat' (first | exact trivial | exact rfl | refine ⟨?_, ?_⟩ | fail)
      all_goals first | exact hp0.2 | exact hp1.2 | exact hp2.2 | (intro i hi; exact (hp0.2 i hi).1) | (intro i hi; exact (hp1.2 i hi).1) | (intro i hi; exact (hp2.2 i hi).1) | grind
    refine fcat tys_ok (l := []) trivial Try.func80 rfl (by kernel_rfl) false ?_
    repeat' (first | exact trivial | refine ⟨?_, ?_⟩ | intro _)
    all_goals first | (with_reducible show (_ : Int) ≤ _) | (with_reducible show (_ : Int) < _) | (with_reducible show (_ : Nat) ≤ _) | (with_reducible show (_ : Nat) < _) | (conv => whnf)
    refine loop_ids tys_ok (l := []) trivial (by kernel_rfl) (X := Nat)
      (fun x => ⟨[(8, vx (.int .i64 x)), (7, vx (.int .i64 n0)), (0, .va (.c (.d (.lst 1 n0 fun i => [st (gT (f0 i))])))), (1, vx (.string x1))], [], 0, 19⟩)
      (fun x => n0 - x) (fun x => x ≤ n0 ∧ ∀ j, j < x → ¬ x1 = gT (f0 j)) [] []
      (fun x _ _ => x + 1) (fun _ => []) [] 0 0 0 ?_ ?_ ?_
    · exact ⟨Nat.zero_le _, fun j h => absurd h (Nat.not_lt_zero _)⟩
    · repeat' (first | exact trivial | exact rfl | (intro _ h; exact absurd h (Nat.not_lt_zero _)) | (intro _ _; exact rfl) | refine ⟨?_, ?_⟩ | fail)
    · rintro i ⟨k1, k2⟩
      repeat' (first | exact trivial | refine ⟨?_, ?_⟩ | intro _)
      all_goals first | (with_reducible show (_ : Int) ≤ _) | (with_reducible show (_ : Int) < _) | (with_reducible show (_ : Nat) ≤ _) | (with_reducible show (_ : Nat) < _) | (conv => whnf)
      all_goals (try simp only [Int.toNat_natCast, decide_eq_true_eq, decide_eq_false_iff_not, seq_iff, gN_canon] at *)
      all_goals first | omega | ((with_reducible show idsOk _ _ = true); rfl) | ((with_reducible show Value.int _ _ = Value.int _ _); rw [wI_id _ (by omega) (by omega)]; rfl) | (rw [← ixS_no (fun j hj => k2 j (by omega))]) | (rw [← ixS_at k2 (by omega) (by assumption)]) | (exact absurd (by assumption) (not_step k2 (by assumption) _ ‹_ < i + 1›)) | rfl | trace_state
  · cases h
def FNContains : List Ar → Option Rs
  | [.c (.d (.lst 1 n0 f0)), .c (.d (.v (.string x1)))] => some ⟨(n0 * 16 ≤ 140737488351232 ∧ ∀ i, i < n0 → f0 i = [st (gT (f0 i))]), .va (.c (.d (bo (memS x1 (gN n0 f0))))), []⟩
  | _ => none
set_option maxHeartbeats 1000000 in
set_option maxRecDepth 100000 in
theorem fcNContains : FC Try.prog 65 FNContains := by
  intro xs pre r us h hp
  unfold FNContains at h
  split at h
  · rename_i n0 f0 x1
    cases h
    have hp0 := hp
    refine FCat.of_eq (as' := [.c (.d (.lst 1 n0 fun i => [st (gT (f0 i))])), .c (.d (.v (.string x1)))]) ?_ rfl rfl ?_
    · repeat' (first | exact trivial | exact rfl | refine ⟨?_, ?_⟩ | fail)
      all_goals first | exact hp0.2 | exact hp1.2 | exact hp2.2 | (intro i hi; exact (hp0.2 i hi).1) | (intro i hi; exact (hp1.2 i hi).1) | (intro i hi; exact (hp2.2 i hi).1) | grind
    refine fcat tys_ok (l := [(80, ⟨[], FNIndex⟩)]) ⟨fcNIndex, trivial⟩ Try.func65 rfl (by kernel_rfl) false ?_
    repeat' (first | exact trivial | refine ⟨?_, ?_⟩ | intro _)
    all_goals first | (with_reducible show (_ : Int) ≤ _) | (with_reducible show (_ : Int) < _) | (with_reducible show (_ : Nat) ≤ _) | (with_reducible show (_ : Nat) < _) | (conv => whnf)
    all_goals first | (rw [gN_canon, ixS_ge]) | omega | rfl | (exact hp0.1) | trace_state
  · cases h
def FNLeq : List Ar → Option Rs
  | [.agg [.d (.v (.bool b0)), .d (.lst 1 n0 f0)], .agg [.d (.v (.bool b1)), .d (.lst 1 n1 f1)]] => some ⟨(n0 * 16 ≤ 140737488351232 ∧ ∀ i, i < n0 → f0 i = [st (gT (f0 i))]) ∧ (n1 * 16 ≤ 140737488351232 ∧ ∀ i, i < n1 → f1 i = [st (gT (f1 i))]), .va (.c (.d (bo ((!b0 || b1) && subS (gN n0 f0) (gN n1 f1))))), []⟩
  | _ => none
set_option maxHeartbeats 1000000 in
set_option maxRecDepth 100000 in
theorem fcNLeq : FC Try.prog 38 FNLeq := by
  intro xs pre r us h hp
  unfold FNLeq at h
  split at h
  · rename_i b0 n0 f0 b1 n1 f1
    cases h
    obtain ⟨hp0, hp1⟩ := hp
    refine FCat.of_eq (as' := [.agg [.d (.v (.bool b0)), .d (.lst 1 n0 fun i => [st (gT (f0 i))])], .agg [.d (.v (.bool b1)), .d (.lst 1 n1 fun i => [st (gT (f1 i))])]]) ?_ rfl rfl ?_
    · repeat' (first | exact trivial | exact rfl | refine ⟨?_, ?_⟩ | fail)
      all_goals first | exact hp0.2 | exact hp1.2 | exact hp2.2 | (intro i hi; exact (hp0.2 i hi).1) | (intro i hi; exact (hp1.2 i hi).1) | (intro i hi; exact (hp2.2 i hi).1) | grind
    refine fcat tys_ok (l := [(65, ⟨[], FNContains⟩)]) ⟨fcNContains, trivial⟩ Try.func38 rfl (by kernel_rfl) false ?_
    repeat' (first | exact trivial | refine ⟨?_, ?_⟩ | intro _)
    all_goals first | (with_reducible show (_ : Int) ≤ _) | (with_reducible show (_ : Int) < _) | (with_reducible show (_ : Nat) ≤ _) | (with_reducible show (_ : Nat) < _) | (conv => whnf)
    all_goals first | ((with_reducible show ASat _ _ _ _ _); skip) | (simp_all; done) | trace_state
    all_goals (have hb : b0 = true → b1 = true := (by intro e; simp_all))
    all_goals (
      refine loop_ids tys_ok (l := [(65, ⟨[], FNContains⟩)]) ⟨fcNContains, trivial⟩ (by kernel_rfl) (X := Nat)
        (fun x => ⟨[(17, vx (.int .i64 x)), (16, vx (.int .i64 n0)), (15, .va (.c (.d (.lst 1 n0 fun i => [st (gT (f0 i))])))), (3, .va (.c (.own 1 0)))], [(1, .cells [.d (bo b1), .d (.lst 1 n1 fun i => [st (gT (f1 i))])])], 2, 27⟩)
        (fun x => n0 - x) (fun x => x ≤ n0 ∧ ∀ j, j < x → gT (f0 j) ∈ gN n1 f1) [] []
        (fun x _ _ => x + 1) (fun _ => [0, 1]) [0, 1] 0 0 0 ?_ ?_ ?_
      · exact ⟨Nat.zero_le _, fun j h => absurd h (Nat.not_lt_zero _)⟩
      · repeat' (first | exact trivial | exact rfl | (intro _ h; exact absurd h (Nat.not_lt_zero _)) | (intro _ _; exact rfl) | refine ⟨?_, ?_⟩ | fail)
      · rintro i ⟨k1, k2⟩
        repeat' (first | exact trivial | refine ⟨?_, ?_⟩ | intro _)
        all_goals first | (with_reducible show (_ : Int) ≤ _) | (with_reducible show (_ : Int) < _) | (with_reducible show (_ : Nat) ≤ _) | (with_reducible show (_ : Nat) < _) | (conv => whnf)
        all_goals (try simp only [Int.toNat_natCast, decide_eq_true_eq, decide_eq_false_iff_not, seq_iff, gN_canon] at *)
        all_goals first | omega | ((with_reducible show idsOk _ _ = true); rfl) | ((with_reducible show Value.int _ _ = Value.int _ _); rw [wI_id _ (by omega) (by omega)]; rfl) | (exact subS_no (i := i) (by omega) (by assumption)) | (exact subS_yes hb (fun j hj => k2 j (by omega))) | (exact in_step k2 (by assumption) _ (by assumption)) | rfl | trace_state)
  · cases h

end Go.Proofs.Ytbfinmfdcbghfaa
