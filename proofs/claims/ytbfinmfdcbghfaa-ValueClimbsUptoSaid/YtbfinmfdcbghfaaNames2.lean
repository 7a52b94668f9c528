/- What more functions of the layer of names compute. No condition. -/
import Derived.Test.YtbfinmfdcbghfaaNames
import Derived.Laws.Strings
namespace Go.Proofs.Ytbfinmfdcbghfaa
set_option linter.all false
open Go.Sx

def cleanS (l : List ByteArray) : List ByteArray := l.foldl putS []
theorem putS_len (l : List ByteArray) (x : ByteArray) : (putS l x).length ≤ l.length + 1 := by
  have := stepP_len x l.length (fun i => [st (atS l i)])
  rw [gN_lst] at this
  unfold putS
  split
  · omega
  · rename_i h
    have := this.2 (by simpa using h)
    simp [this]
theorem cleanS_len (n : Nat) (f : Nat → List DV) : ((gN n f).foldl putS []).length ≤ n := by
  induction n with
  | zero => simp [gN]
  | succ n ih =>
    rw [gN_add, List.foldl_append, List.foldl_cons, List.foldl_nil]
    have := putS_len ((gN n f).foldl putS []) (gT (f n))
    omega
theorem seq_iff (a b : ByteArray) : (a.toList == b.toList) = decide (a = b) := by
  rw [ByteArray.toList_eq, ByteArray.toList_eq]
  rw [Bool.eq_iff_iff]
  simp only [beq_iff_eq, decide_eq_true_eq]
  constructor
  · intro h
    have : a.data = b.data := Array.ext' h
    cases a; cases b; simp_all
  · rintro rfl; rfl
theorem gN_eq {n m : Nat} {f g : Nat → List DV} : gN n f = gN m g ↔ n = m ∧ ∀ j, j < n → gT (f j) = gT (g j) := by
  constructor
  · intro h
    have h1 := congrArg List.length h
    rw [gN_length, gN_length] at h1
    subst h1
    refine ⟨rfl, fun j hj => ?_⟩
    have := congrArg (fun l => l[j]?) h
    simpa [gN, hj] using this
  · rintro ⟨rfl, h⟩
    unfold gN
    exact List.map_congr_left fun j hj => h j (by simpa using hj)
theorem exact_no {b0 b1 : Bool} {n m : Nat} {f g : Nat → List DV} (h : ¬ (n = m ∧ ∀ j, j < n → gT (f j) = gT (g j))) : Value.bool false = Value.bool (b0 == b1 && decide (gN n f = gN m g)) := by
  rw [decide_eq_false (by rw [gN_eq]; exact h)]; simp
theorem exact_b {b0 b1 : Bool} {p : Bool} (h : (!b0 == b1) = true) : Value.bool false = Value.bool (b0 == b1 && p) := by
  cases b0 <;> cases b1 <;> simp_all
theorem exact_yes {b0 b1 : Bool} {n m : Nat} {f g : Nat → List DV} (hb : (!b0 == b1) = false) (h : n = m ∧ ∀ j, j < n → gT (f j) = gT (g j)) : Value.bool true = Value.bool (b0 == b1 && decide (gN n f = gN m g)) := by
  rw [decide_eq_true (by rw [gN_eq]; exact h)]; cases b0 <;> cases b1 <;> simp_all
theorem exact_n {b0 b1 : Bool} {n m : Nat} {f g : Nat → List DV} (h : ((n : Int) != (m : Int)) = true) : Value.bool false = Value.bool (b0 == b1 && decide (gN n f = gN m g)) :=
  exact_no (fun e => by rw [e.1] at h; simp at h)
theorem exact_at {b0 b1 : Bool} {n m i : Nat} {f g : Nat → List DV} (h : (!decide (gT (f i) = gT (g i))) = true) (hi : i < n) : Value.bool false = Value.bool (b0 == b1 && decide (gN n f = gN m g)) :=
  exact_no (fun e => by rw [e.2 i hi] at h; simp at h)
theorem below_step {i : Nat} {f g : Nat → List DV} (k : ∀ j, j < i → gT (f j) = gT (g j)) (h : (!decide (gT (f i) = gT (g i))) = false) (j : Nat) (hj : j < i + 1) : gT (f j) = gT (g j) := by
  rcases Nat.lt_or_ge j i with h1 | h1
  · exact k j h1
  · have : j = i := by omega
    subst this
    simpa using h
theorem gN_mem {n : Nat} {f : Nat → List DV} {x : ByteArray} : x ∈ gN n f ↔ ∃ i, i < n ∧ gT (f i) = x := by simp [gN]

def FRClean : List Ar → Option Rs
  | [.agg [.d (.v (.bool b0)), .d (.lst 1 n0 f0)]] => some ⟨(n0 * 16 ≤ 140737488351232 ∧ ∀ i, i < n0 → f0 i = [st (gT (f0 i))]), .va (Ns.ar (⟨b0, cleanS (Ns.names (⟨b0, gN n0 f0⟩ : Ns))⟩)), []⟩
  | _ => none
set_option maxHeartbeats 1000000 in
set_option maxRecDepth 100000 in
theorem fcRClean : FC Try.prog 14 FRClean := by
  intro xs pre r us h hp
  unfold FRClean at h
  split at h
  · rename_i b0 n0 f0
    cases h
    have hp0 := hp
    refine FCat.of_eq (as' := [.agg [.d (.v (.bool b0)), .d (.lst 1 n0 fun i => [st (gT (f0 i))])]]) ?_ rfl rfl ?_
    · repeat' (first | exact trivial | exact rfl | refine ⟨?_, ?_⟩ | fail)
      all_goals first | exact hp0.2 | exact hp1.2 | exact hp2.2 | (intro i hi; exact (hp0.2 i hi).1) | (intro i hi; exact (hp1.2 i hi).1) | (intro i hi; exact (hp2.2 i hi).1) | grind
    refine fcat tys_ok (l := [(40, ⟨[], FRPut⟩)]) ⟨fcRPut, trivial⟩ Try.func14 rfl (by kernel_rfl) true ?_
    repeat' (first | exact trivial | refine ⟨?_, ?_⟩ | intro _)
    all_goals first | (with_reducible show (_ : Int) ≤ _) | (with_reducible show (_ : Int) < _) | (with_reducible show (_ : Nat) ≤ _) | (with_reducible show (_ : Nat) < _) | (conv => whnf)
    refine loop_ids tys_ok (l := [(40, ⟨[], FRPut⟩)]) ⟨fcRPut, trivial⟩ (by kernel_rfl) (X := Nat × List ByteArray)
      (fun x => ⟨[(4, vx (.int .i64 x.1)), (3, .va (.c (.d (lst x.2)))), (1, .va (.c (.own 0 0))), (2, .va (.c (.own 1 0)))], [(0, .cells [.d (bo b0), .d (.lst 1 n0 fun i => [st (gT (f0 i))])]), (1, .cells [.d (bo false), .d (.v (.slice none 0 0))])], 2, 23⟩)
      (fun x => n0 - x.1) (fun x => x.1 ≤ n0 ∧ x.2 = (gN x.1 f0).foldl putS []) [] []
      (fun x _ _ => (x.1 + 1, putS x.2 (gT (f0 x.1)))) (fun _ => [0, 1]) [0, 1] 0 0 (0, []) ?_ ?_ ?_
    · exact ⟨Nat.zero_le _, rfl⟩
    · repeat' (first | exact trivial | exact rfl | (intro _ h; exact absurd h (Nat.not_lt_zero _)) | (intro _ _; exact rfl) | refine ⟨?_, ?_⟩ | fail)
    · rintro ⟨i, l⟩ ⟨k1, k2⟩
      dsimp only at k1 k2
      have k3 := cleanS_len i f0
      rw [← k2] at k3
      have kE : i = n0 → cleanS (gN n0 f0) = l := fun e => by subst e; exact k2.symm
      repeat' (first | exact trivial | refine ⟨?_, ?_⟩ | intro _)
      all_goals first | (with_reducible show (_ : Int) ≤ _) | (with_reducible show (_ : Int) < _) | (with_reducible show (_ : Nat) ≤ _) | (with_reducible show (_ : Nat) < _) | (conv => whnf)
      all_goals (try simp only [Int.toNat_natCast, decide_eq_true_eq, decide_eq_false_iff_not, gN_lst] at *)
      all_goals first | omega | ((with_reducible show idsOk _ _ = true); rfl) | ((with_reducible show putS _ _ = List.foldl _ _ _); rw [gN_add, List.foldl_append, ← k2]; rfl) | ((with_reducible show Value.int _ _ = Value.int _ _); rw [wI_id _ (by omega) (by omega)]; rfl) | (rw [kE (by omega)]) | rfl | trace_state
  · cases h
def FRExact : List Ar → Option Rs
  | [.agg [.d (.v (.bool b0)), .d (.lst 1 n0 f0)], .agg [.d (.v (.bool b1)), .d (.lst 1 n1 f1)]] => some ⟨(n0 * 16 ≤ 140737488351232 ∧ ∀ i, i < n0 → f0 i = [st (gT (f0 i))]) ∧ (n1 * 16 ≤ 140737488351232 ∧ ∀ i, i < n1 → f1 i = [st (gT (f1 i))]), .va (.c (.d (bo (b0 == b1 && decide (gN n0 f0 = gN n1 f1))))), []⟩
  | _ => none
set_option maxHeartbeats 1000000 in
set_option maxRecDepth 100000 in
theorem fcRExact : FC Try.prog 25 FRExact := by
  intro xs pre r us h hp
  unfold FRExact at h
  split at h
  · rename_i b0 n0 f0 b1 n1 f1
    cases h
    obtain ⟨hp0, hp1⟩ := hp
    refine FCat.of_eq (as' := [.agg [.d (.v (.bool b0)), .d (.lst 1 n0 fun i => [st (gT (f0 i))])], .agg [.d (.v (.bool b1)), .d (.lst 1 n1 fun i => [st (gT (f1 i))])]]) ?_ rfl rfl ?_
    · repeat' (first | exact trivial | exact rfl | refine ⟨?_, ?_⟩ | fail)
      all_goals first | exact hp0.2 | exact hp1.2 | exact hp2.2 | (intro i hi; exact (hp0.2 i hi).1) | (intro i hi; exact (hp1.2 i hi).1) | (intro i hi; exact (hp2.2 i hi).1) | grind
    refine fcat tys_ok (l := []) trivial Try.func25 rfl (by kernel_rfl) false ?_
    repeat' (first | exact trivial | refine ⟨?_, ?_⟩ | intro _)
    all_goals first | (with_reducible show (_ : Int) ≤ _) | (with_reducible show (_ : Int) < _) | (with_reducible show (_ : Nat) ≤ _) | (with_reducible show (_ : Nat) < _) | (conv => whnf)
    all_goals first | ((with_reducible show ASat _ _ _ _ _); skip) | (exact exact_b (by assumption)) | (exact exact_n (by assumption))
    refine loop_ids tys_ok (l := []) trivial (by kernel_rfl) (X := Nat)
      (fun x => ⟨[(5, vx (.int .i64 x)), (2, .va (.c (.own 0 0))), (3, .va (.c (.own 1 0)))], [(0, .cells [.d (bo b0), .d (.lst 1 n0 fun i => [st (gT (f0 i))])]), (1, .cells [.d (bo b1), .d (.lst 1 n1 fun i => [st (gT (f1 i))])])], 2, 38⟩)
      (fun x => n0 - x) (fun x => x ≤ n0 ∧ ∀ j, j < x → gT (f0 j) = gT (f1 j)) [] []
      (fun x _ _ => x + 1) (fun _ => [0, 1]) [0, 1] 0 0 0 ?_ ?_ ?_
    · exact ⟨Nat.zero_le _, fun j h => absurd h (Nat.not_lt_zero _)⟩
    · repeat' (first | exact trivial | exact rfl | (intro _ h; exact absurd h (Nat.not_lt_zero _)) | (intro _ _; exact rfl) | refine ⟨?_, ?_⟩ | fail)
    · have hnn : n0 = n1 := by
        have := ‹((n0 : Int) != (n1 : Int)) = false›
        simp only [bne_eq_false_iff_eq] at this
        omega
      rintro i ⟨k1, k2⟩
      repeat' (first | exact trivial | refine ⟨?_, ?_⟩ | intro _)
      all_goals first | (with_reducible show (_ : Int) ≤ _) | (with_reducible show (_ : Int) < _) | (with_reducible show (_ : Nat) ≤ _) | (with_reducible show (_ : Nat) < _) | (conv => whnf)
      all_goals (try simp only [Int.toNat_natCast, decide_eq_true_eq, decide_eq_false_iff_not, seq_iff] at *)
      all_goals first | omega | (exact absurd rfl (by assumption)) | ((with_reducible show idsOk _ _ = true); rfl) | ((with_reducible show Value.int _ _ = Value.int _ _); rw [wI_id _ (by omega) (by omega)]; rfl) | (exact exact_at (by assumption) (by omega)) | (refine exact_yes (by assumption) ⟨hnn, fun j hj => k2 j (by omega)⟩) | (exact below_step k2 (by assumption) _ (by assumption)) | rfl | trace_state
  · cases h

end Go.Proofs.Ytbfinmfdcbghfaa
