/- What reads words into commands. No condition. -/
import Derived.Test.YtakcacejpbiogaaDoorOrd2
namespace Go.Proofs.YtakcacejpbiogaaDoor
set_option linter.all false
open Go.Sx

open Go.RowKit Go.Lib Go.Sort
theorem nameC_ok {c : Cm} {s : ByteArray} (h : (!nameB s) = false) : nameC c s = ({ c with name := s }, 0) := by unfold nameC; rw [if_pos (by simpa using h)]
theorem nameC_no {c : Cm} {s : ByteArray} (h : (!nameB s) = true) : nameC c s = (c, 3) := by unfold nameC; rw [if_neg (by simpa using h)]
theorem numC_ok {c : Cm} {s : ByteArray} {v : Int} (h : numM s = (v, 0)) : numC c s = ({ c with n := v }, 0) := by unfold numC; rw [h]; rfl
theorem numC_no {c : Cm} {s : ByteArray} {e : Int} (h : numM s = (0, e)) (he : e ≠ 0) : numC c s = (c, e) := by unfold numC; rw [h, if_neg he]
theorem nodeC_ok {c : Cm} {s : ByteArray} (h : ((readM s).2 != 0) = false) (h2 : decide ((readM s).1.node < 0) = false) : nodeC c s = ({ c with fn := (readM s).1.name, node := (readM s).1.node }, 0) := by
  unfold nodeC; rw [if_neg (by simpa using h), if_neg (of_decide_eq_false h2)]
theorem nodeC_er {c : Cm} {s : ByteArray} (h : ((readM s).2 != 0) = true) : nodeC c s = (c, (readM s).2) := by unfold nodeC; rw [if_pos (by simpa using h)]
theorem nodeC_no {c : Cm} {s : ByteArray} (h : ((readM s).2 != 0) = false) (h2 : decide ((readM s).1.node < 0) = true) : nodeC c s = (c, 3) := by
  unfold nodeC; rw [if_neg (by simpa using h), if_pos (of_decide_eq_true h2)]
theorem trim_odd {s : ByteArray} : ((trimL s digS).toList == (⟨#[]⟩ : ByteArray).toList) = decide (oddIx s < 0) := by
  rw [seq_iff]
  by_cases h : trimL s digS = (⟨#[]⟩ : ByteArray)
  · rw [decide_eq_true h, decide_eq_true ((trim_nil s).1 h)]
  · rw [decide_eq_false h, decide_eq_false fun h2 => h ((trim_nil s).2 h2)]
theorem trim_nodd {s : ByteArray} : (!(trimL s ⟨#[48, 49, 50, 51, 52, 53, 54, 55, 56, 57]⟩).toList == (⟨#[]⟩ : ByteArray).toList) = decide (oddIx s ≥ 0) := by
  have h := trim_odd (s := s)
  show (!((trimL s digS).toList == (⟨#[]⟩ : ByteArray).toList)) = _
  rw [h]
  by_cases h2 : oddIx s < 0
  · rw [decide_eq_true h2, decide_eq_false (by omega)]; rfl
  · rw [decide_eq_false h2, decide_eq_true (by omega)]; rfl
theorem kindW_at {i : Int} {s : ByteArray} (h1 : 1 ≤ i) (h2 : i < 10) (h : s = wordW i) : kindW s = i := by
  have : i = 1 ∨ i = 2 ∨ i = 3 ∨ i = 4 ∨ i = 5 ∨ i = 6 ∨ i = 7 ∨ i = 8 ∨ i = 9 := by omega
  subst h
  rcases this with rfl | rfl | rfl | rfl | rfl | rfl | rfl | rfl | rfl <;> decide
theorem kindW_none {s : ByteArray} (h : ∀ j : Nat, 1 ≤ j → j < 10 → s ≠ wordW (j : Int)) : kindW s = 0 := by
  rcases kindW_cases s with e | ⟨_, e⟩ | ⟨_, e⟩ | ⟨_, e⟩ | ⟨_, e⟩ | ⟨_, e⟩ | ⟨_, e⟩ | ⟨_, e⟩ | ⟨_, e⟩ | ⟨_, e⟩
  · exact e
  · exact absurd e (h 1 (by decide) (by decide))
  · exact absurd e (h 2 (by decide) (by decide))
  · exact absurd e (h 3 (by decide) (by decide))
  · exact absurd e (h 4 (by decide) (by decide))
  · exact absurd e (h 5 (by decide) (by decide))
  · exact absurd e (h 6 (by decide) (by decide))
  · exact absurd e (h 7 (by decide) (by decide))
  · exact absurd e (h 8 (by decide) (by decide))
  · exact absurd e (h 9 (by decide) (by decide))
def FOName : List Ar → Option Rs
  | [.agg [.d (.v (.int .i64 k0)), .d (.v (.string x0)), .d (.v (.int .i64 i0)), .d (.v (.string y0)), .d (.v (.int .i64 m0)), .d (.v (.string z0))], .c (.d (.v (.string x1)))] => some ⟨(Cm.ok ⟨k0, x0, i0, y0, m0, z0⟩) ∧ (x1.size ≤ 9223372036854775807), .tup [Cm.ar (nameC (⟨k0, x0, i0, y0, m0, z0⟩ : Cm) x1).1, .c (.d (it (nameC (⟨k0, x0, i0, y0, m0, z0⟩ : Cm) x1).2))], []⟩
  | _ => none
set_option maxHeartbeats 1000000 in
set_option maxRecDepth 100000 in
theorem fcOName : FC Tryd.prog 76 FOName := by
  intro xs pre r us h hp
  unfold FOName at h
  split at h
  · rename_i k0 x0 i0 y0 m0 z0 x1
    cases h
    obtain ⟨hp0, hp1⟩ := hp
    refine fcat tys_ok (l := [(42, ⟨[], FName⟩)]) ⟨fcName, trivial⟩ Tryd.func76 rfl (by kernel_rfl) false ?_
    repeat' (first | exact trivial | refine ⟨?_, ?_⟩ | intro _)
    all_goals first | (with_reducible show (_ : Int) ≤ _) | (with_reducible show (_ : Int) < _) | (with_reducible show (_ : Nat) ≤ _) | (with_reducible show (_ : Nat) < _) | (conv => whnf)
    all_goals first | omega | (rw [nameC_ok ‹_›]; done) | (rw [nameC_no ‹_›]; done) | (rw [nameC_ok ‹_›]; rfl) | (rw [nameC_no ‹_›]; rfl) | trace_state
  · cases h
def FONode : List Ar → Option Rs
  | [.agg [.d (.v (.int .i64 k0)), .d (.v (.string x0)), .d (.v (.int .i64 i0)), .d (.v (.string y0)), .d (.v (.int .i64 m0)), .d (.v (.string z0))], .c (.d (.v (.string x1)))] => some ⟨(Cm.ok ⟨k0, x0, i0, y0, m0, z0⟩) ∧ (x1.size < 4294967281), .tup [Cm.ar (nodeC (⟨k0, x0, i0, y0, m0, z0⟩ : Cm) x1).1, .c (.d (it (nodeC (⟨k0, x0, i0, y0, m0, z0⟩ : Cm) x1).2))], []⟩
  | _ => none
set_option maxHeartbeats 1000000 in
set_option maxRecDepth 100000 in
theorem fcONode : FC Tryd.prog 78 FONode := by
  intro xs pre r us h hp
  unfold FONode at h
  split at h
  · rename_i k0 x0 i0 y0 m0 z0 x1
    cases h
    obtain ⟨hp0, hp1⟩ := hp
    refine fcat tys_ok (l := [(17, ⟨[], FKRead⟩)]) ⟨fcKRead, trivial⟩ Tryd.func78 rfl (by kernel_rfl) false ?_
    repeat' (first | exact trivial | refine ⟨?_, ?_⟩ | intro _)
    all_goals first | (with_reducible show (_ : Int) ≤ _) | (with_reducible show (_ : Int) < _) | (with_reducible show (_ : Nat) ≤ _) | (with_reducible show (_ : Nat) < _) | (conv => whnf)
    all_goals first | ((with_reducible show ASat _ _ _ _ _); refine draw_plan tys_ok (l := [(17, ⟨[], FKRead⟩)]) ⟨fcKRead, trivial⟩ (by kernel_rfl) (.all [(0, .all [(1, .all [(2, .all [(3, .all [(4, .all [(5, .all [(6, .all [(7, .done)])])])]), (4, .all [(3, .all [(5, .all [(6, .all [(7, .done)])])]), (5, .all [(3, .all [(6, .all [(7, .done)])])])])]), (4, .all [(2, .all [(3, .all [(5, .all [(6, .all [(7, .done)])])]), (5, .all [(3, .all [(6, .all [(7, .done)])])])]), (5, .all [(2, .all [(3, .all [(6, .all [(7, .done)])])])])])]), (2, .all [(1, .all [(3, .all [(4, .all [(5, .all [(6, .all [(7, .done)])])])]), (4, .all [(3, .all [(5, .all [(6, .all [(7, .done)])])]), (5, .all [(3, .all [(6, .all [(7, .done)])])])])]), (3, .all [(1, .all [(4, .all [(5, .all [(6, .all [(7, .done)])])])])])])]), (2, .all [(0, .all [(1, .all [(3, .all [(4, .all [(5, .all [(6, .all [(7, .done)])])])]), (4, .all [(3, .all [(5, .all [(6, .all [(7, .done)])])]), (5, .all [(3, .all [(6, .all [(7, .done)])])])])]), (3, .all [(1, .all [(4, .all [(5, .all [(6, .all [(7, .done)])])])])])]), (3, .all [(0, .all [(1, .all [(4, .all [(5, .all [(6, .all [(7, .done)])])])])])])])]) (by kernel_rfl) ?_) | skip
    all_goals repeat' (first | exact trivial | refine ⟨?_, ?_⟩ | intro _)
    all_goals first | (with_reducible show (_ : Int) ≤ _) | (with_reducible show (_ : Int) < _) | (with_reducible show (_ : Nat) ≤ _) | (with_reducible show (_ : Nat) < _) | (conv => whnf)
    all_goals first | omega | (rw [nodeC_ok ‹_› ‹_›]; done) | (rw [nodeC_no ‹_› ‹_›]; done) | (rw [nodeC_er ‹_›]; done) | (rw [nodeC_ok ‹_› ‹_›]; rfl) | (rw [nodeC_no ‹_› ‹_›]; rfl) | (rw [nodeC_er ‹_›]; rfl) | trace_state
  · cases h
def FOWords : List Ar → Option Rs
  | [] => some ⟨True, .va (.agg [.d (st ⟨#[]⟩), .d (it 0), .d (st ⟨#[102, 117, 110, 99]⟩), .d (it 1), .d (st ⟨#[103, 108, 111, 98, 97, 108]⟩), .d (it 1), .d (st ⟨#[100, 114, 111, 112]⟩), .d (it 2), .d (st ⟨#[118, 97, 108, 117, 101]⟩), .d (it 4), .d (st ⟨#[114, 101, 97, 99, 104]⟩), .d (it 3), .d (st ⟨#[97, 115, 115, 101, 114, 116]⟩), .d (it 3), .d (st ⟨#[112, 111, 105, 110, 116, 115]⟩), .d (it 5), .d (st ⟨#[119, 104, 111, 108, 101]⟩), .d (it 2), .d (st ⟨#[98, 117, 100, 103, 101, 116]⟩), .d (it 6)]), []⟩
  | _ => none
set_option maxHeartbeats 1000000 in
set_option maxRecDepth 100000 in
theorem fcOWords : FC Tryd.prog 54 FOWords := by
  intro xs pre r us h hp
  unfold FOWords at h
  split at h
  · cases h
    refine fcat tys_ok (l := []) trivial Tryd.func54 rfl (by kernel_rfl) false ?_
    repeat' (first | exact trivial | refine ⟨?_, ?_⟩ | intro _)
    all_goals first | (with_reducible show (_ : Int) ≤ _) | (with_reducible show (_ : Int) < _) | (with_reducible show (_ : Nat) ≤ _) | (with_reducible show (_ : Nat) < _) | (conv => whnf)
  · cases h
def FOKind : List Ar → Option Rs
  | [.c (.d (.v (.string x0)))] => some ⟨True, .va (.c (.d (it (kindW x0)))), []⟩
  | _ => none
set_option maxHeartbeats 4000000 in
set_option maxRecDepth 100000 in
theorem fcOKind : FC Tryd.prog 53 FOKind := by
  intro xs pre r us h hp
  unfold FOKind at h
  split at h
  · rename_i x0
    cases h
    refine fcat tys_ok (l := [(54, ⟨[], FOWords⟩)]) ⟨fcOWords, trivial⟩ Tryd.func53 rfl (by kernel_rfl) false ?_
    repeat' (first | exact trivial | refine ⟨?_, ?_⟩ | intro _)
    all_goals first | (with_reducible show (_ : Int) ≤ _) | (with_reducible show (_ : Int) < _) | (with_reducible show (_ : Nat) ≤ _) | (with_reducible show (_ : Nat) < _) | (conv => whnf)
    refine loop_ids tys_ok (l := [(54, ⟨[], FOWords⟩)]) ⟨fcOWords, trivial⟩ (by kernel_rfl) (X := Nat)
      (fun i => ⟨[(6, vx (.int .i64 i)), (5, .va (.agg [.d (st ⟨#[]⟩), .d (it 0), .d (st ⟨#[102, 117, 110, 99]⟩), .d (it 1), .d (st ⟨#[103, 108, 111, 98, 97, 108]⟩), .d (it 1), .d (st ⟨#[100, 114, 111, 112]⟩), .d (it 2), .d (st ⟨#[118, 97, 108, 117, 101]⟩), .d (it 4), .d (st ⟨#[114, 101, 97, 99, 104]⟩), .d (it 3), .d (st ⟨#[97, 115, 115, 101, 114, 116]⟩), .d (it 3), .d (st ⟨#[112, 111, 105, 110, 116, 115]⟩), .d (it 5), .d (st ⟨#[119, 104, 111, 108, 101]⟩), .d (it 2), .d (st ⟨#[98, 117, 100, 103, 101, 116]⟩), .d (it 6)])), (0, vx (.string x0))], [], 0, 21⟩)
      (fun i => 10 - i) (fun i => i ≤ 10 ∧ ∀ j : Nat, 1 ≤ j → j < i → x0 ≠ wordW (j : Int)) [] []
      (fun i _ _ => i + 1) (fun _ => []) [] 0 0 0 ?_ ?_ ?_
    · exact ⟨Nat.zero_le _, fun j _ h => absurd h (Nat.not_lt_zero j)⟩
    · repeat' (first | exact trivial | exact rfl | (intro _ _; exact rfl) | refine ⟨?_, ?_⟩ | fail)
    · rintro i ⟨k1, k2⟩
      rcases Nat.lt_or_ge i 10 with hi | hi
      · have hne : decide ((i : Int) < 10) = true := decide_eq_true (by omega)
        have hib : (0 : Int) ≤ (i : Int) ∧ (i : Int) < 10 := by omega
        repeat' (first | exact trivial | (with_reducible exact (fun h => absurd (hne.symm.trans h) (by decide))) | (with_reducible exact hib) | refine ⟨?_, ?_⟩ | intro _)
        all_goals first | (with_reducible show (_ : Int) ≤ _) | (with_reducible show (_ : Int) < _) | (with_reducible show (_ : Nat) ≤ _) | (with_reducible show (_ : Nat) < _) | (conv => whnf)
        all_goals first | (exact absurd ‹((0 : Int) != 0) = true› (by decide)) | (exact absurd ‹((1 : Int) != 0) = false› (by decide)) | (exact absurd ‹((2 : Int) != 0) = false› (by decide)) | (exact absurd ‹((3 : Int) != 0) = false› (by decide)) | (exact absurd ‹((4 : Int) != 0) = false› (by decide)) | (exact absurd ‹((5 : Int) != 0) = false› (by decide)) | (exact absurd ‹((6 : Int) != 0) = false› (by decide)) | omega | (dsimp only; omega) | rfl | (exact congrArg (Value.int .i64) (by first | (rw [wI_id _ (by omega) (by omega)]; omega) | omega | (dsimp only; omega))) | (dsimp only; (exact congrArg (Value.int .i64) (by first | (rw [wI_id _ (by omega) (by omega)]; omega) | omega | (dsimp only; omega)))) | skip
        all_goals (try simp only [seq_iff] at *)
        all_goals first
          | (refine congrArg (Value.int .i64) (kindW_at (by omega) (by omega) ?_).symm; rw [show (i : Int) = _ from ‹(i : Int) = _›]; exact (of_decide_eq_true ‹decide (_ = x0) = true›).symm)
          | (exfalso
             obtain ⟨j, hj1, hj2, hx⟩ : ∃ j : Nat, 1 ≤ j ∧ j < i + 1 ∧ x0 = wordW (j : Int) := ⟨_, ‹1 ≤ _›, ‹_ < i + 1›, ‹x0 = wordW _›⟩
             rcases Nat.lt_or_ge j i with h | h
             · exact k2 j hj1 h hx
             · obtain rfl : j = i := by omega
               first | omega | (rw [show (j : Int) = _ from ‹(j : Int) = _›] at hx; exact of_decide_eq_false ‹decide (_ = x0) = false› hx.symm))
          | trace_state
      · have hne : decide ((i : Int) < 10) = false := decide_eq_false (by omega)
        obtain rfl : i = 10 := by omega
        repeat' (first | exact trivial | (with_reducible exact (fun h => absurd (hne.symm.trans h) (by decide))) | refine ⟨?_, ?_⟩ | intro _)
        all_goals first | (with_reducible show (_ : Int) ≤ _) | (with_reducible show (_ : Int) < _) | (with_reducible show (_ : Nat) ≤ _) | (with_reducible show (_ : Nat) < _) | (conv => whnf)
        all_goals first | exact congrArg (Value.int .i64) (kindW_none k2).symm | omega | rfl | trace_state
  · cases h

end Go.Proofs.YtakcacejpbiogaaDoor
