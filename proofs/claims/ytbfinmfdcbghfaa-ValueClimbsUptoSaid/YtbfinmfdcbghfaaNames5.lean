/- What names.Join computes. No condition. -/
import Derived.Test.YtbfinmfdcbghfaaNames4
namespace Go.Proofs.Ytbfinmfdcbghfaa
set_option linter.all false
open Go.Sx

def gLn : List DV → Nat
  | [.lst _ n _] => n
  | _ => 0
def gLf : List DV → Nat → List DV
  | [.lst _ _ f] => f
  | _ => fun _ => []
abbrev cLL (l : List DV) : List DV := [.lst 1 (gLn l) fun j => [st (gT (gLf l j))]]
def rLL (l : List DV) : Prop := l = cLL l
def gLL (l : List DV) : List ByteArray := gN (gLn l) (gLf l)
def catL (f : Nat → List DV) : Nat → List ByteArray
  | 0 => []
  | 1 => gLL (f 0)
  | _ => gLL (f 0) ++ gLL (f 1)
def rowN : Blk → Nat
  | .row _ n _ => n
  | .fzr _ n _ => n
  | _ => 0
theorem canonY {f : Nat → List DV} {p : Prop} (h : (rLL (f 0) ∧ rLL (f 1)) ∧ p) (i : Nat) (hi : i < 2) : f i = cLL (f i) := by
  have hc : i = 0 ∨ i = 1 := by omega
  rcases hc with rfl | rfl
  · exact h.1.1
  · exact h.1.2
theorem catL_len (f : Nat → List DV) : (catL f 0).length = 0 ∧ (catL f 1).length = gLn (f 0) ∧ (catL f 2).length = gLn (f 0) + gLn (f 1) := by simp [catL, gLL, gN_length]
theorem appRow_cat {l : List ByteArray} {m len : Nat} (hl : l.length = len) {F g : Nat → List DV} (hF : ∀ j, j < len → F j = [st (atS l j)]) (hg : ∀ j, j < m → g j = [st (gT (g j))]) (i : Nat) (hi : i < len + m) : appRow len F g i = [st (atS (l ++ gN m g) i)] := by
  unfold appRow
  by_cases h : i < len
  · rw [if_pos h, hF i h]; simp [atS, List.getD_eq_getElem?_getD, List.getElem?_append_left (show i < l.length by omega)]
  · rw [if_neg h, hg _ (by omega)]
    have h2 : i - len < m := by omega
    have h3 : (gN m g)[i - len]? = some (gT (g (i - len))) := by simp [gN, h2]
    simp only [atS, List.getD_eq_getElem?_getD, List.getElem?_append_right (show l.length ≤ i by omega), hl, h3, Option.getD_some]
theorem cat_step {f0 : Nat → List DV} {f : Nat → List DV} {i : Nat} (hi : i < 2) (k3 : ∀ j, j < (catL f0 i).length → f j = [st (atS (catL f0 i) j)]) (j : Nat) (hj : j < (catL f0 (i + 1)).length) :
    appRow (catL f0 i).length f (fun j => [st (gT (gLf (f0 i) j))]) j = [st (atS (catL f0 (i + 1)) j)] := by
  have hc : i = 0 ∨ i = 1 := by omega
  rcases hc with rfl | rfl
  · exact appRow_cat (l := catL f0 0) rfl k3 (fun _ _ => rfl) j (by simpa [catL, gLL, gN_length] using hj)
  · exact appRow_cat (l := catL f0 1) rfl k3 (fun _ _ => rfl) j (by simpa [catL, gLL, gN_length] using hj)

def FNConcat : List Ar → Option Rs
  | [.c (.d (.lst 1 2 f0))] => some ⟨((rLL (f0 0) ∧ rLL (f0 1)) ∧ ((gLn (f0 0)) + (gLn (f0 1))) * 16 ≤ 140737488351232), .va (.c (.d (lst (catL f0 2)))), []⟩
  | _ => none
set_option maxHeartbeats 1000000 in
set_option maxRecDepth 100000 in
theorem fcNConcat : FC Try.prog 74 FNConcat := by
  intro xs pre r us h hp
  unfold FNConcat at h
  split at h
  · rename_i f0
    cases h
    have hp0 := hp
    refine FCat.of_eq (as' := [.c (.d (.lst 1 2 fun i => cLL (f0 i)))]) ?_ rfl rfl ?_
    · repeat' (first | exact trivial | exact rfl | refine ⟨?_, ?_⟩ | fail)
      all_goals first | (intro i hi; exact canonY hp0 i hi) | exact hp0.2 | exact hp1.2 | exact hp2.2 | (intro i hi; exact (hp0.2 i hi).1) | (intro i hi; exact (hp1.2 i hi).1) | (intro i hi; exact (hp2.2 i hi).1) | grind
    refine fcat tys_ok (l := []) trivial Try.func74 rfl (by kernel_rfl) true ?_
    have hl := catL_len f0
    have h16 := hp0.2
    repeat' (first | exact trivial | refine ⟨?_, ?_⟩ | intro _)
    all_goals first | (with_reducible show (_ : Int) ≤ _) | (with_reducible show (_ : Int) < _) | (with_reducible show (_ : Nat) ≤ _) | (with_reducible show (_ : Nat) < _) | (conv => whnf)
    refine loop_ok tys_ok (l := []) trivial (by kernel_rfl) (X := Nat)
      (fun x => ⟨[(11, vx (.int .i64 x)), (10, vx (.int .i64 2)), (9, .va (.c (.d (.lst 1 2 fun i => cLL (f0 i))))), (0, .va (.c (.d (.lst 1 2 fun i => cLL (f0 i))))), (3, vx (.int .i64 ((catL f0 x).length : Int)))], [], 0, 36⟩)
      (fun x => 2 - x) (fun x => x ≤ 2) [] [] (fun x _ _ => x + 1) [] [] 0 0 0 (Nat.zero_le _) ?_ ?_
    · repeat' (first | exact trivial | exact rfl | (intro _ h; exact absurd h (Nat.not_lt_zero _)) | (intro _ _; exact rfl) | refine ⟨?_, ?_⟩ | fail)
    · intro i k1
      have hc : i = 0 ∨ i = 1 ∨ i = 2 := by omega
      rcases hc with rfl | rfl | rfl
      · repeat' (first | exact trivial | refine ⟨?_, ?_⟩ | intro _)
        all_goals first | (with_reducible show (_ : Int) ≤ _) | (with_reducible show (_ : Int) < _) | (with_reducible show (_ : Nat) ≤ _) | (with_reducible show (_ : Nat) < _) | (conv => whnf)
        all_goals (try simp only [Int.toNat_natCast, hl.1, hl.2.1, hl.2.2, decide_eq_true_eq, decide_eq_false_iff_not] at *)
        all_goals first | omega | ((with_reducible show idsOk _ _ = true); rfl) | (exact absurd ‹decide _ = false› (by decide)) | rfl | (rw [wI_id _ (by omega) (by omega)] at *; omega) | (rw [wI_id _ (by omega) (by omega)]; first | rfl | (congr 1; omega)) | trace_state
      · repeat' (first | exact trivial | refine ⟨?_, ?_⟩ | intro _)
        all_goals first | (with_reducible show (_ : Int) ≤ _) | (with_reducible show (_ : Int) < _) | (with_reducible show (_ : Nat) ≤ _) | (with_reducible show (_ : Nat) < _) | (conv => whnf)
        all_goals (try simp only [Int.toNat_natCast, hl.1, hl.2.1, hl.2.2, decide_eq_true_eq, decide_eq_false_iff_not] at *)
        all_goals first | omega | ((with_reducible show idsOk _ _ = true); rfl) | (exact absurd ‹decide _ = false› (by decide)) | rfl | (rw [wI_id _ (by omega) (by omega)] at *; omega) | (rw [wI_id _ (by omega) (by omega)]; first | rfl | (congr 1; omega)) | trace_state
      · repeat' (first | exact trivial | refine ⟨?_, ?_⟩ | intro _)
        all_goals first | (with_reducible show (_ : Int) ≤ _) | (with_reducible show (_ : Int) < _) | (with_reducible show (_ : Nat) ≤ _) | (with_reducible show (_ : Nat) < _) | (conv => whnf)
        all_goals first | (exact absurd ‹decide _ = true› (by decide)) | skip
        all_goals first | ((with_reducible show ACall _ _ _ _ _ _); refine inl tys_ok (l := []) trivial Try.func88 rfl (by kernel_rfl) (by kernel_rfl) rfl ?_; (conv => whnf)) | skip
        all_goals repeat' (first | exact trivial | refine ⟨?_, ?_⟩ | intro _)
        all_goals first | (with_reducible show (_ : Int) ≤ _) | (with_reducible show (_ : Int) < _) | (with_reducible show (_ : Nat) ≤ _) | (with_reducible show (_ : Nat) < _) | (conv => whnf)
        all_goals first | (exact absurd ‹decide _ = false› (by decide)) | ((with_reducible show ASat _ _ _ _ _); skip) | skip
        all_goals (have hw : IntKind.wrap .i64 (((catL f0 2).length : Int) - IntKind.wrap .i64 (((0 : Nat) : Int) - ((0 : Nat) : Int))) = ((gLn (f0 0) + gLn (f0 1) : Nat) : Int) := by rw [hl.2.2]; simp only [Int.sub_self]; rw [wI_id 0 (by omega) (by omega), wI_id _ (by omega) (by omega)]; omega)
        all_goals first | omega | (rw [hw]; omega) | (exfalso; rw [hl.2.2] at *; simp only [decide_eq_true_eq] at *; omega) | skip
        · refine loop_ok tys_ok (l := []) trivial (by kernel_rfl) (X := Nat × Nat × (Nat → List DV))
            (fun x => ⟨[(27, vx (.int .i64 x.1)), (26, vx (.int .i64 2)), (25, .va (.c (.d (.lst 1 2 fun i => cLL (f0 i))))), (6, .va (.c (.osl 0 1 0 (catL f0 x.1).length)))], [(0, .row 1 x.2.1 x.2.2)], 1, 36⟩)
            (fun x => 2 - x.1) (fun x => x.1 ≤ 2 ∧ (catL f0 x.1).length ≤ x.2.1 ∧ ∀ j, j < (catL f0 x.1).length → x.2.2 j = [st (atS (catL f0 x.1) j)]) [] [1] (fun x _ bs => match bs with | [b] => (x.1 + 1, rowN b, rowB b) | _ => x) [1] [0] 0 0 (0, gLn (f0 0) + gLn (f0 1), fun _ => [st ByteArray.empty]) ?_ ?_ ?_
          · exact ⟨Nat.zero_le _, by simp [catL], fun j hj => absurd hj (by simp [catL])⟩
          · repeat' (first | exact trivial | exact rfl | (intro _ h; exact absurd h (Nat.not_lt_zero _)) | (intro _ _; exact rfl) | refine ⟨?_, ?_⟩ | fail)
            all_goals first | (rw [hw]; rfl) | (simp; done) | trace_state
          · rintro ⟨i, n, f⟩ ⟨k1, k2, k3⟩
            dsimp only at k1 k2 k3
            have hs := fun h => cat_step (f0 := f0) (f := f) (i := i) h k3
            have hc : i = 0 ∨ i = 1 ∨ i = 2 := by omega
            rcases hc with rfl | rfl | rfl
            · repeat' (first | exact trivial | refine ⟨?_, ?_⟩ | intro _)
              all_goals first | (with_reducible show (_ : Int) ≤ _) | (with_reducible show (_ : Int) < _) | (with_reducible show (_ : Nat) ≤ _) | (with_reducible show (_ : Nat) < _) | (conv => whnf)
              all_goals (try dsimp only [rowN, rowB] at *)
              all_goals (try simp only [Int.toNat_natCast, Nat.zero_add, Nat.reduceAdd, decide_eq_true_eq, decide_eq_false_iff_not] at *)
              all_goals first | omega | ((with_reducible show idsOk _ _ = true); rfl) | rfl | (exact hs (by decide) _ ‹_›) | (rw [wI_id _ (by omega) (by omega)]; first | rfl | (congr 1; omega)) | (exact k3 _ ‹_›) | trace_state
            · repeat' (first | exact trivial | refine ⟨?_, ?_⟩ | intro _)
              all_goals first | (with_reducible show (_ : Int) ≤ _) | (with_reducible show (_ : Int) < _) | (with_reducible show (_ : Nat) ≤ _) | (with_reducible show (_ : Nat) < _) | (conv => whnf)
              all_goals (try dsimp only [rowN, rowB] at *)
              all_goals (try simp only [Int.toNat_natCast, Nat.zero_add, Nat.reduceAdd, decide_eq_true_eq, decide_eq_false_iff_not] at *)
              all_goals first | omega | ((with_reducible show idsOk _ _ = true); rfl) | rfl | (exact hs (by decide) _ ‹_›) | (rw [wI_id _ (by omega) (by omega)]; first | rfl | (congr 1; omega)) | (exact k3 _ ‹_›) | trace_state
            · repeat' (first | exact trivial | refine ⟨?_, ?_⟩ | intro _)
              all_goals first | (with_reducible show (_ : Int) ≤ _) | (with_reducible show (_ : Int) < _) | (with_reducible show (_ : Nat) ≤ _) | (with_reducible show (_ : Nat) < _) | (conv => whnf)
              all_goals (try dsimp only [rowN, rowB] at *)
              all_goals (try simp only [Int.toNat_natCast, Nat.zero_add, Nat.reduceAdd, decide_eq_true_eq, decide_eq_false_iff_not] at *)
              all_goals first | omega | ((with_reducible show idsOk _ _ = true); rfl) | rfl | (exact hs (by decide) _ ‹_›) | (rw [wI_id _ (by omega) (by omega)]; first | rfl | (congr 1; omega)) | (exact k3 _ ‹_›) | trace_state
        · refine loop_ok tys_ok (l := []) trivial (by kernel_rfl) (X := Nat × Nat × (Nat → List DV))
            (fun x => ⟨[(27, vx (.int .i64 x.1)), (26, vx (.int .i64 2)), (25, .va (.c (.d (.lst 1 2 fun i => cLL (f0 i))))), (6, .va (.c (.osl 0 1 0 (catL f0 x.1).length)))], [(0, .row 1 x.2.1 x.2.2)], 1, 36⟩)
            (fun x => 2 - x.1) (fun x => x.1 ≤ 2 ∧ (catL f0 x.1).length ≤ x.2.1 ∧ ∀ j, j < (catL f0 x.1).length → x.2.2 j = [st (atS (catL f0 x.1) j)]) [] [1] (fun x _ bs => match bs with | [b] => (x.1 + 1, rowN b, rowB b) | _ => x) [1] [] 0 1 (0, 0, fun _ => []) ?_ ?_ ?_
          · exact ⟨Nat.zero_le _, by simp [catL], fun j hj => absurd hj (by simp [catL])⟩
          · repeat' (first | exact trivial | exact rfl | (intro _ h; exact absurd h (Nat.not_lt_zero _)) | (intro _ _; exact rfl) | refine ⟨?_, ?_⟩ | fail)
            all_goals first | (rw [hw]; rfl) | (simp; done) | trace_state
          · rintro ⟨i, n, f⟩ ⟨k1, k2, k3⟩
            dsimp only at k1 k2 k3
            have hs := fun h => cat_step (f0 := f0) (f := f) (i := i) h k3
            have hc : i = 0 ∨ i = 1 ∨ i = 2 := by omega
            rcases hc with rfl | rfl | rfl
            · repeat' (first | exact trivial | refine ⟨?_, ?_⟩ | intro _)
              all_goals first | (with_reducible show (_ : Int) ≤ _) | (with_reducible show (_ : Int) < _) | (with_reducible show (_ : Nat) ≤ _) | (with_reducible show (_ : Nat) < _) | (conv => whnf)
              all_goals (try dsimp only [rowN, rowB] at *)
              all_goals (try simp only [Int.toNat_natCast, Nat.zero_add, Nat.reduceAdd, decide_eq_true_eq, decide_eq_false_iff_not] at *)
              all_goals first | omega | ((with_reducible show idsOk _ _ = true); rfl) | rfl | (exact hs (by decide) _ ‹_›) | (rw [wI_id _ (by omega) (by omega)]; first | rfl | (congr 1; omega)) | (exact k3 _ ‹_›) | trace_state
            · repeat' (first | exact trivial | refine ⟨?_, ?_⟩ | intro _)
              all_goals first | (with_reducible show (_ : Int) ≤ _) | (with_reducible show (_ : Int) < _) | (with_reducible show (_ : Nat) ≤ _) | (with_reducible show (_ : Nat) < _) | (conv => whnf)
              all_goals (try dsimp only [rowN, rowB] at *)
              all_goals (try simp only [Int.toNat_natCast, Nat.zero_add, Nat.reduceAdd, decide_eq_true_eq, decide_eq_false_iff_not] at *)
              all_goals first | omega | ((with_reducible show idsOk _ _ = true); rfl) | rfl | (exact hs (by decide) _ ‹_›) | (rw [wI_id _ (by omega) (by omega)]; first | rfl | (congr 1; omega)) | (exact k3 _ ‹_›) | trace_state
            · repeat' (first | exact trivial | refine ⟨?_, ?_⟩ | intro _)
              all_goals first | (with_reducible show (_ : Int) ≤ _) | (with_reducible show (_ : Int) < _) | (with_reducible show (_ : Nat) ≤ _) | (with_reducible show (_ : Nat) < _) | (conv => whnf)
              all_goals (try dsimp only [rowN, rowB] at *)
              all_goals (try simp only [Int.toNat_natCast, Nat.zero_add, Nat.reduceAdd, decide_eq_true_eq, decide_eq_false_iff_not] at *)
              all_goals first | omega | ((with_reducible show idsOk _ _ = true); rfl) | rfl | (exact hs (by decide) _ ‹_›) | (rw [wI_id _ (by omega) (by omega)]; first | rfl | (congr 1; omega)) | (exact k3 _ ‹_›) | trace_state
  · cases h

end Go.Proofs.Ytbfinmfdcbghfaa
