/- What the functions of the layer of names compute. No condition. -/
import Derived.Test.YtbfinmfdcbghfaaWide
namespace Go.Proofs.Ytbfinmfdcbghfaa
set_option linter.all false
open Go.Sx

abbrev st (s : ByteArray) : DV := .v (.string s)
def gT : List DV → ByteArray
  | [.v (.string s)] => s
  | _ => ByteArray.empty
def gN (n : Nat) (f : Nat → List DV) : List ByteArray := (List.range n).map fun i => gT (f i)
def atS (l : List ByteArray) (i : Nat) : ByteArray := l.getD i ByteArray.empty
abbrev lst (l : List ByteArray) : DV := .lst 1 l.length fun i => [st (atS l i)]
structure Ns where
  null : Bool
  names : List ByteArray
abbrev Ns.ar (s : Ns) : Ar := .agg [.d (bo s.null), .d (lst s.names)]
theorem gN_add (i : Nat) (f : Nat → List DV) : gN (i + 1) f = gN i f ++ [gT (f i)] := by simp [gN, List.range_succ]
theorem gN_length (n : Nat) (f : Nat → List DV) : (gN n f).length = n := by simp [gN]
theorem gN_canon (n : Nat) (f : Nat → List DV) : (gN n fun i => [st (gT (f i))]) = gN n f := rfl
theorem gN_lst (l : List ByteArray) : gN l.length (fun i => [st (atS l i)]) = l := by
  unfold gN atS
  apply List.ext_getElem
  · simp
  · intro i h1 h2; simp [gT, h2]
def slt (a b : ByteArray) : Bool := Op.bytesLess a.toList b.toList
def sle (a b : ByteArray) : Bool := Op.bytesLess a.toList b.toList || a.toList == b.toList
def seq (a b : ByteArray) : Bool := a.toList == b.toList
/-- a place for a name -/
def stepP (x : ByteArray) (s : List ByteArray × Bool) (y : ByteArray) : List ByteArray × Bool :=
  if !s.2 && sle x y then (if slt x y then s.1 ++ [x] ++ [y] else s.1 ++ [y], true) else (s.1 ++ [y], s.2)
def putS (l : List ByteArray) (x : ByteArray) : List ByteArray :=
  if (l.foldl (stepP x) ([], false)).2 then (l.foldl (stepP x) ([], false)).1 else (l.foldl (stepP x) ([], false)).1 ++ [x]
theorem stepP_len (x : ByteArray) (n : Nat) (f : Nat → List DV) : ((gN n f).foldl (stepP x) ([], false)).1.length ≤ n + 1 ∧ (((gN n f).foldl (stepP x) ([], false)).2 = false → ((gN n f).foldl (stepP x) ([], false)).1.length = n) := by
  induction n with
  | zero => simp [gN]
  | succ n ih =>
    rw [gN_add, List.foldl_append, List.foldl_cons, List.foldl_nil]
    generalize (gN n f).foldl (stepP x) ([], false) = s at ih
    obtain ⟨out, b⟩ := s
    unfold stepP
    cases b <;> cases sle x (gT (f n)) <;> cases slt x (gT (f n)) <;> simp at ih ⊢ <;> omega
theorem stepP_in {x y : ByteArray} {out : List ByteArray} : stepP x (out, true) y = (out ++ [y], true) := rfl
theorem stepP_lt {x y : ByteArray} {out : List ByteArray} (h1 : sle x y = true) (h2 : slt x y = true) : stepP x (out, false) y = (out ++ [x] ++ [y], true) := by unfold stepP; simp [h1, h2]
theorem stepP_eq {x y : ByteArray} {out : List ByteArray} (h1 : sle x y = true) (h2 : slt x y = false) : stepP x (out, false) y = (out ++ [y], true) := by unfold stepP; simp [h1, h2]
theorem stepP_gt {x y : ByteArray} {out : List ByteArray} (h1 : sle x y = false) : stepP x (out, false) y = (out ++ [y], false) := by unfold stepP; simp [h1]
theorem appRow_snoc {l : List ByteArray} {n : Nat} (hn : l.length = n) {F g : Nat → List DV} {y : ByteArray} (hF : ∀ j, j < n → F j = [st (atS l j)]) (hg : g 0 = [st y]) (i : Nat) (hi : i < n + 1) : appRow n F g i = [st (atS (l ++ [y]) i)] := by
  unfold appRow
  by_cases h : i < n
  · rw [if_pos h, hF i h]; simp [atS, List.getD_eq_getElem?_getD, List.getElem?_append_left (show i < l.length by omega)]
  · have : i = n := by omega
    subst this
    subst hn
    rw [if_neg (by omega), Nat.sub_self, hg]; simp [atS]

def FRPut : List Ar → Option Rs
  | [.c (.d (.lst 1 n0 f0)), .c (.d (.v (.string x1)))] => some ⟨(n0 * 16 ≤ 140737488351232 ∧ ∀ i, i < n0 → f0 i = [st (gT (f0 i))]), .va (.c (.d (lst (putS (gN n0 f0) x1)))), []⟩
  | _ => none
set_option maxHeartbeats 1000000 in
set_option maxRecDepth 100000 in
theorem fcRPut : FC Try.prog 40 FRPut := by
  intro xs pre r us h hp
  unfold FRPut at h
  split at h
  · rename_i n0 f0 x1
    cases h
    have hp0 := hp
    refine FCat.of_eq (as' := [.c (.d (.lst 1 n0 fun i => [st (gT (f0 i))])), .c (.d (.v (.string x1)))]) ?_ rfl rfl ?_
    · repeat' (first | exact trivial | exact rfl | refine ⟨?_, ?_⟩ | fail)
      all_goals first | exact hp0.2 | exact hp1.2 | exact hp2.2 | (intro i hi; exact (hp0.2 i hi).1) | (intro i hi; exact (hp1.2 i hi).1) | (intro i hi; exact (hp2.2 i hi).1) | grind
    refine fcat tys_ok (l := []) trivial Try.func40 rfl (by kernel_rfl) true ?_
    repeat' (first | exact trivial | refine ⟨?_, ?_⟩ | intro _)
    all_goals first | (with_reducible show (_ : Int) ≤ _) | (with_reducible show (_ : Int) < _) | (with_reducible show (_ : Nat) ≤ _) | (with_reducible show (_ : Nat) < _) | (conv => whnf)
    refine loop_ids tys_ok (l := []) trivial (by kernel_rfl) (X := Nat × List ByteArray × Bool)
      (fun x => ⟨[(7, vx (.int .i64 x.1)), (6, vx (.bool x.2.2)), (5, .va (.c (.osl 0 1 0 x.2.1.length))), (0, .va (.c (.d (.lst 1 n0 fun i => [st (gT (f0 i))])))), (1, vx (.string x1))], [(0, .row 1 x.2.1.length fun j => [st (atS x.2.1 j)])], 1, 48⟩)
      (fun x => n0 - x.1) (fun x => x.1 ≤ n0 ∧ x.2 = (gN x.1 f0).foldl (stepP x1) ([], false)) [5] []
      (fun x _ _ => (x.1 + 1, stepP x1 x.2 (gT (f0 x.1)))) (fun xs => match xs with | [t] => [oI t] | _ => []) [] 0 1 (0, [], false) ?_ ?_ ?_
    · exact ⟨Nat.zero_le _, rfl⟩
    · repeat' (first | exact trivial | exact rfl | (intro _ h; exact absurd h (Nat.not_lt_zero _)) | (intro _ _; exact rfl) | refine ⟨?_, ?_⟩ | fail)
      all_goals simp
    · rintro ⟨i, out, _ | _⟩ ⟨k1, k2⟩
      all_goals (have k3 := stepP_len x1 i f0; rw [← k2] at k3; dsimp only at k1 k2 k3)
      · have kE : i = n0 → putS (gN n0 f0) x1 = out ++ [x1] := fun e => by subst e; unfold putS; rw [← k2]; rfl
        repeat' (first | exact trivial | refine ⟨?_, ?_⟩ | intro _)
        all_goals first | (with_reducible show (_ : Int) ≤ _) | (with_reducible show (_ : Int) < _) | (with_reducible show (_ : Nat) ≤ _) | (with_reducible show (_ : Nat) < _) | (conv => whnf)
        all_goals (try simp only [Int.toNat_natCast, decide_eq_true_eq, decide_eq_false_iff_not] at *)
        all_goals first | (exact absurd ‹(!true) = true› (by decide)) | (exact absurd ‹(!false) = false› (by decide)) | omega | ((with_reducible show idsOk _ _ = true); rfl) | ((with_reducible show stepP _ _ _ = List.foldl _ _ _); rw [gN_add, List.foldl_append, ← k2]; rfl) | ((with_reducible show Value.int _ _ = Value.int _ _); rw [wI_id _ (by omega) (by omega)]; rfl) | skip
        all_goals first | (have E := stepP_lt (x := x1) (y := gT (f0 i)) (out := out) (by assumption) (by assumption); rw [E]) | (have E := stepP_eq (x := x1) (y := gT (f0 i)) (out := out) (by assumption) (by assumption); rw [E]) | (have E := stepP_gt (x := x1) (y := gT (f0 i)) (out := out) (by assumption); rw [E]) | (rw [stepP_in]) | (rw [kE (by omega)]) | skip
        all_goals (try rw [Nat.zero_add])
        all_goals first | rfl | (simp; done) | (exact appRow_snoc rfl (fun _ _ => rfl) rfl _ (by assumption)) | (exact appRow_snoc (l := out ++ [x1]) (by simp) (fun j hj => appRow_snoc rfl (fun _ _ => rfl) rfl j hj) rfl _ (by assumption)) | trace_state
      · have kE : i = n0 → putS (gN n0 f0) x1 = out := fun e => by subst e; unfold putS; rw [← k2]; rfl
        repeat' (first | exact trivial | refine ⟨?_, ?_⟩ | intro _)
        all_goals first | (with_reducible show (_ : Int) ≤ _) | (with_reducible show (_ : Int) < _) | (with_reducible show (_ : Nat) ≤ _) | (with_reducible show (_ : Nat) < _) | (conv => whnf)
        all_goals (try simp only [Int.toNat_natCast, decide_eq_true_eq, decide_eq_false_iff_not] at *)
        all_goals first | (exact absurd ‹(!true) = true› (by decide)) | (exact absurd ‹(!false) = false› (by decide)) | omega | ((with_reducible show idsOk _ _ = true); rfl) | ((with_reducible show stepP _ _ _ = List.foldl _ _ _); rw [gN_add, List.foldl_append, ← k2]; rfl) | ((with_reducible show Value.int _ _ = Value.int _ _); rw [wI_id _ (by omega) (by omega)]; rfl) | skip
        all_goals first | (have E := stepP_lt (x := x1) (y := gT (f0 i)) (out := out) (by assumption) (by assumption); rw [E]) | (have E := stepP_eq (x := x1) (y := gT (f0 i)) (out := out) (by assumption) (by assumption); rw [E]) | (have E := stepP_gt (x := x1) (y := gT (f0 i)) (out := out) (by assumption); rw [E]) | (rw [stepP_in]) | (rw [kE (by omega)]) | skip
        all_goals (try rw [Nat.zero_add])
        all_goals first | rfl | (simp; done) | (exact appRow_snoc rfl (fun _ _ => rfl) rfl _ (by assumption)) | (exact appRow_snoc (l := out ++ [x1]) (by simp) (fun j hj => appRow_snoc rfl (fun _ _ => rfl) rfl j hj) rfl _ (by assumption)) | trace_state
  · cases h

end Go.Proofs.Ytbfinmfdcbghfaa
