/- The law of commands about nodes. No condition. -/
import Derived.Test.YtakcacejpbiogaaDoorOrd9
namespace Go.Proofs.YtakcacejpbiogaaDoor
set_option linter.all false
open Go.Sx

def FONodes : List Ar → Option Rs
  | [.c (.d (.v (.string x0))), .c (.d (.v (.int .i64 i1))), .c (.d (.v (.string x2)))] => some ⟨(-9223372036854775808 ≤ i1 ∧ i1 < 9223372036854775808) ∧ (x0.size ≤ 9223372036854775807 ∧ x2.size ≤ 9223372036854775807), .va (.c (.d (bo (true)))), []⟩
  | _ => none
set_option maxHeartbeats 8000000 in
set_option maxRecDepth 100000 in
theorem fcONodes : FC Tryd.prog 10 FONodes := by
  intro xs pre r us h hp
  unfold FONodes at h
  split at h
  · rename_i x0 i1 x2
    cases h
    obtain ⟨hp0, hp1⟩ := hp
    refine fcat tys_ok (l := [(31, ⟨[], FORead⟩), (34, ⟨[], FOText⟩), (33, ⟨[], FOLives⟩), (18, ⟨[], FRName⟩)]) ⟨fcORead, fcOText, fcOLives, fcRName, trivial⟩ Tryd.func10 rfl (by kernel_rfl) false ?_
    obtain ⟨hx0, hx2⟩ := hp1
    have h0 : rI i1 := hp0
    by_cases hc : nameB x0 = true ∧ 0 ≤ i1 ∧ nameB x2 = true
    rotate_left
    · have hcc : ((!nameB x0) = true) ∨ ((!nameB x0) = false ∧ decide (i1 < 0) = true) ∨ ((!nameB x0) = false ∧ decide (i1 < 0) = false ∧ (!nameB x2) = true) := by
        cases hn : nameB x0 with
        | false => exact .inl rfl
        | true =>
          by_cases hi : i1 < 0
          · exact .inr (.inl ⟨rfl, decide_eq_true hi⟩)
          · cases hv : nameB x2 with
            | false => exact .inr (.inr ⟨rfl, decide_eq_false hi, rfl⟩)
            | true => exact absurd ⟨hn, by omega, hv⟩ hc
      rcases hcc with q1 | ⟨q1, q2⟩ | ⟨q1, q2, q3⟩
      · repeat' (first | exact trivial | (with_reducible exact (fun h => absurd (q1.symm.trans h) (by decide))) | (with_reducible exact hx0) | (with_reducible exact hx2) | refine ⟨?_, ?_⟩ | intro _)
        all_goals first | (with_reducible show (_ : Int) ≤ _) | (with_reducible show (_ : Int) < _) | (with_reducible show (_ : Nat) ≤ _) | (with_reducible show (_ : Nat) < _) | (conv => whnf)
        all_goals first | omega | rfl | trace_state
      · repeat' (first | exact trivial | (with_reducible exact (fun h => absurd (q1.symm.trans h) (by decide))) | (with_reducible exact (fun h => absurd (q2.symm.trans h) (by decide))) | (with_reducible exact hx0) | (with_reducible exact hx2) | refine ⟨?_, ?_⟩ | intro _)
        all_goals first | (with_reducible show (_ : Int) ≤ _) | (with_reducible show (_ : Int) < _) | (with_reducible show (_ : Nat) ≤ _) | (with_reducible show (_ : Nat) < _) | (conv => whnf)
        all_goals first | omega | rfl | trace_state
      · repeat' (first | exact trivial | (with_reducible exact (fun h => absurd (q1.symm.trans h) (by decide))) | (with_reducible exact (fun h => absurd (q2.symm.trans h) (by decide))) | (with_reducible exact (fun h => absurd (q3.symm.trans h) (by decide))) | (with_reducible exact hx0) | (with_reducible exact hx2) | refine ⟨?_, ?_⟩ | intro _)
        all_goals first | (with_reducible show (_ : Int) ≤ _) | (with_reducible show (_ : Int) < _) | (with_reducible show (_ : Nat) ≤ _) | (with_reducible show (_ : Nat) < _) | (conv => whnf)
        all_goals first | omega | rfl | trace_state
    obtain ⟨hn, hi, hv⟩ := hc
    have q1 : (!nameB x0) = false := by rw [hn]; rfl
    have q2 : decide (i1 < 0) = false := decide_eq_false (by omega)
    have q3 : (!nameB x2) = false := by rw [hv]; rfl
    repeat' (first | exact trivial | (with_reducible exact (fun h => absurd (q1.symm.trans h) (by decide))) | (with_reducible exact (fun h => absurd (q2.symm.trans h) (by decide))) | (with_reducible exact (fun h => absurd (q3.symm.trans h) (by decide))) | (with_reducible exact hx0) | (with_reducible exact hx2) | refine ⟨?_, ?_⟩ | intro _)
    all_goals first | (with_reducible show (_ : Int) ≤ _) | (with_reducible show (_ : Int) < _) | (with_reducible show (_ : Nat) ≤ _) | (with_reducible show (_ : Nat) < _) | (conv => whnf)
    have hS : ∀ i, i < 8 → SzC 20 (atC (cmds x0 x2 i1) i) := cmds_ok (name_sz hn) (name_sz hv) h0
    have hF : ∀ i, i < 8 → readC (textC (atC (cmds x0 x2 i1) i)) = (atC (cmds x0 x2 i1) i, 0) := cmds_fwd hn hv hi h0
    refine loop_ok tys_ok (l := [(31, ⟨[], FORead⟩), (34, ⟨[], FOText⟩), (33, ⟨[], FOLives⟩), (18, ⟨[], FRName⟩)]) ⟨fcORead, fcOText, fcOLives, fcRName, trivial⟩ (by kernel_rfl) (X := Nat)
      (fun i => ⟨[(8, vx (.int .i64 i)), (7, .va (.c (.osl 0 6 0 8)))], [(0, .row 6 8 fun q => (atC (cmds x0 x2 i1) q).ds)], 1, 75⟩)
      (fun i => 8 - i) (fun i => i ≤ 8) [] []
      (fun i _ _ => i + 1) [0] [0] 0 0 0 ?_ ?_ ?_
    · exact Nat.zero_le _
    · repeat' (first | exact trivial | exact rfl | (intro _ h; exact absurd h (Nat.not_lt_zero _)) | (intro _ _; exact rfl) | refine ⟨?_, ?_⟩ | fail)
      all_goals first | (intro q hq; have h10 : q = 0 ∨ q = 1 ∨ q = 2 ∨ q = 3 ∨ q = 4 ∨ q = 5 ∨ q = 6 ∨ q = 7 := (by omega); rcases h10 with rfl | rfl | rfl | rfl | rfl | rfl | rfl | rfl <;> rfl) | trace_state
    · rintro i k1
      rcases Nat.lt_or_ge i 8 with hi8 | hi8
      · have hne : decide ((i : Int) < ((8 : Nat) : Int)) = true := decide_eq_true (by omega)
        have hib : (0 : Int) ≤ (i : Int) ∧ (i : Int) < ((8 : Nat) : Int) := by omega
        have hii : 0 + Int.toNat (i : Int) < 8 := by rw [Int.toNat_natCast]; omega
        have hs := hS _ hii
        have hq1 : (atC (cmds x0 x2 i1) (0 + Int.toNat (i : Int))).fn.size ≤ 1000000000000 := Nat.le_trans hs.fn (by decide)
        have hq2 : (atC (cmds x0 x2 i1) (0 + Int.toNat (i : Int))).name.size ≤ 1000000000000 := Nat.le_trans hs.name (by decide)
        have hq3 : (atC (cmds x0 x2 i1) (0 + Int.toNat (i : Int))).text.size ≤ 1000000000000 := Nat.le_trans hs.text (by decide)
        have hq4 : Cm.ok ⟨(atC (cmds x0 x2 i1) (0 + Int.toNat (i : Int))).kind, (atC (cmds x0 x2 i1) (0 + Int.toNat (i : Int))).fn, (atC (cmds x0 x2 i1) (0 + Int.toNat (i : Int))).node, (atC (cmds x0 x2 i1) (0 + Int.toNat (i : Int))).name, (atC (cmds x0 x2 i1) (0 + Int.toNat (i : Int))).n, (atC (cmds x0 x2 i1) (0 + Int.toNat (i : Int))).text⟩ := hs.ok
        have hts : (textC ⟨(atC (cmds x0 x2 i1) (0 + Int.toNat (i : Int))).kind, (atC (cmds x0 x2 i1) (0 + Int.toNat (i : Int))).fn, (atC (cmds x0 x2 i1) (0 + Int.toNat (i : Int))).node, (atC (cmds x0 x2 i1) (0 + Int.toNat (i : Int))).name, (atC (cmds x0 x2 i1) (0 + Int.toNat (i : Int))).n, (atC (cmds x0 x2 i1) (0 + Int.toNat (i : Int))).text⟩).size < 4294967281 := Nat.lt_of_le_of_lt (textC_sz hs) (by decide)
        have hR : (readC (bytesOf (textC ⟨(atC (cmds x0 x2 i1) (0 + Int.toNat (i : Int))).kind, (atC (cmds x0 x2 i1) (0 + Int.toNat (i : Int))).fn, (atC (cmds x0 x2 i1) (0 + Int.toNat (i : Int))).node, (atC (cmds x0 x2 i1) (0 + Int.toNat (i : Int))).name, (atC (cmds x0 x2 i1) (0 + Int.toNat (i : Int))).n, (atC (cmds x0 x2 i1) (0 + Int.toNat (i : Int))).text⟩).size (strRow (textC ⟨(atC (cmds x0 x2 i1) (0 + Int.toNat (i : Int))).kind, (atC (cmds x0 x2 i1) (0 + Int.toNat (i : Int))).fn, (atC (cmds x0 x2 i1) (0 + Int.toNat (i : Int))).node, (atC (cmds x0 x2 i1) (0 + Int.toNat (i : Int))).name, (atC (cmds x0 x2 i1) (0 + Int.toNat (i : Int))).n, (atC (cmds x0 x2 i1) (0 + Int.toNat (i : Int))).text⟩)))) = ((atC (cmds x0 x2 i1) (0 + Int.toNat (i : Int))), 0) := by rw [bytes_str]; exact hF _ hii
        have hb1 : ((readC (bytesOf (textC ⟨(atC (cmds x0 x2 i1) (0 + Int.toNat (i : Int))).kind, (atC (cmds x0 x2 i1) (0 + Int.toNat (i : Int))).fn, (atC (cmds x0 x2 i1) (0 + Int.toNat (i : Int))).node, (atC (cmds x0 x2 i1) (0 + Int.toNat (i : Int))).name, (atC (cmds x0 x2 i1) (0 + Int.toNat (i : Int))).n, (atC (cmds x0 x2 i1) (0 + Int.toNat (i : Int))).text⟩).size (strRow (textC ⟨(atC (cmds x0 x2 i1) (0 + Int.toNat (i : Int))).kind, (atC (cmds x0 x2 i1) (0 + Int.toNat (i : Int))).fn, (atC (cmds x0 x2 i1) (0 + Int.toNat (i : Int))).node, (atC (cmds x0 x2 i1) (0 + Int.toNat (i : Int))).name, (atC (cmds x0 x2 i1) (0 + Int.toNat (i : Int))).n, (atC (cmds x0 x2 i1) (0 + Int.toNat (i : Int))).text⟩)))).2 != 0) = false := by rw [hR]; rfl
        have hb2 : (!((readC (bytesOf (textC ⟨(atC (cmds x0 x2 i1) (0 + Int.toNat (i : Int))).kind, (atC (cmds x0 x2 i1) (0 + Int.toNat (i : Int))).fn, (atC (cmds x0 x2 i1) (0 + Int.toNat (i : Int))).node, (atC (cmds x0 x2 i1) (0 + Int.toNat (i : Int))).name, (atC (cmds x0 x2 i1) (0 + Int.toNat (i : Int))).n, (atC (cmds x0 x2 i1) (0 + Int.toNat (i : Int))).text⟩).size (strRow (textC ⟨(atC (cmds x0 x2 i1) (0 + Int.toNat (i : Int))).kind, (atC (cmds x0 x2 i1) (0 + Int.toNat (i : Int))).fn, (atC (cmds x0 x2 i1) (0 + Int.toNat (i : Int))).node, (atC (cmds x0 x2 i1) (0 + Int.toNat (i : Int))).name, (atC (cmds x0 x2 i1) (0 + Int.toNat (i : Int))).n, (atC (cmds x0 x2 i1) (0 + Int.toNat (i : Int))).text⟩)))).1.kind == (atC (cmds x0 x2 i1) (0 + Int.toNat (i : Int))).kind && ((readC (bytesOf (textC ⟨(atC (cmds x0 x2 i1) (0 + Int.toNat (i : Int))).kind, (atC (cmds x0 x2 i1) (0 + Int.toNat (i : Int))).fn, (atC (cmds x0 x2 i1) (0 + Int.toNat (i : Int))).node, (atC (cmds x0 x2 i1) (0 + Int.toNat (i : Int))).name, (atC (cmds x0 x2 i1) (0 + Int.toNat (i : Int))).n, (atC (cmds x0 x2 i1) (0 + Int.toNat (i : Int))).text⟩).size (strRow (textC ⟨(atC (cmds x0 x2 i1) (0 + Int.toNat (i : Int))).kind, (atC (cmds x0 x2 i1) (0 + Int.toNat (i : Int))).fn, (atC (cmds x0 x2 i1) (0 + Int.toNat (i : Int))).node, (atC (cmds x0 x2 i1) (0 + Int.toNat (i : Int))).name, (atC (cmds x0 x2 i1) (0 + Int.toNat (i : Int))).n, (atC (cmds x0 x2 i1) (0 + Int.toNat (i : Int))).text⟩)))).1.fn.toList == (atC (cmds x0 x2 i1) (0 + Int.toNat (i : Int))).fn.toList && ((readC (bytesOf (textC ⟨(atC (cmds x0 x2 i1) (0 + Int.toNat (i : Int))).kind, (atC (cmds x0 x2 i1) (0 + Int.toNat (i : Int))).fn, (atC (cmds x0 x2 i1) (0 + Int.toNat (i : Int))).node, (atC (cmds x0 x2 i1) (0 + Int.toNat (i : Int))).name, (atC (cmds x0 x2 i1) (0 + Int.toNat (i : Int))).n, (atC (cmds x0 x2 i1) (0 + Int.toNat (i : Int))).text⟩).size (strRow (textC ⟨(atC (cmds x0 x2 i1) (0 + Int.toNat (i : Int))).kind, (atC (cmds x0 x2 i1) (0 + Int.toNat (i : Int))).fn, (atC (cmds x0 x2 i1) (0 + Int.toNat (i : Int))).node, (atC (cmds x0 x2 i1) (0 + Int.toNat (i : Int))).name, (atC (cmds x0 x2 i1) (0 + Int.toNat (i : Int))).n, (atC (cmds x0 x2 i1) (0 + Int.toNat (i : Int))).text⟩)))).1.node == (atC (cmds x0 x2 i1) (0 + Int.toNat (i : Int))).node && ((readC (bytesOf (textC ⟨(atC (cmds x0 x2 i1) (0 + Int.toNat (i : Int))).kind, (atC (cmds x0 x2 i1) (0 + Int.toNat (i : Int))).fn, (atC (cmds x0 x2 i1) (0 + Int.toNat (i : Int))).node, (atC (cmds x0 x2 i1) (0 + Int.toNat (i : Int))).name, (atC (cmds x0 x2 i1) (0 + Int.toNat (i : Int))).n, (atC (cmds x0 x2 i1) (0 + Int.toNat (i : Int))).text⟩).size (strRow (textC ⟨(atC (cmds x0 x2 i1) (0 + Int.toNat (i : Int))).kind, (atC (cmds x0 x2 i1) (0 + Int.toNat (i : Int))).fn, (atC (cmds x0 x2 i1) (0 + Int.toNat (i : Int))).node, (atC (cmds x0 x2 i1) (0 + Int.toNat (i : Int))).name, (atC (cmds x0 x2 i1) (0 + Int.toNat (i : Int))).n, (atC (cmds x0 x2 i1) (0 + Int.toNat (i : Int))).text⟩)))).1.name.toList == (atC (cmds x0 x2 i1) (0 + Int.toNat (i : Int))).name.toList && ((readC (bytesOf (textC ⟨(atC (cmds x0 x2 i1) (0 + Int.toNat (i : Int))).kind, (atC (cmds x0 x2 i1) (0 + Int.toNat (i : Int))).fn, (atC (cmds x0 x2 i1) (0 + Int.toNat (i : Int))).node, (atC (cmds x0 x2 i1) (0 + Int.toNat (i : Int))).name, (atC (cmds x0 x2 i1) (0 + Int.toNat (i : Int))).n, (atC (cmds x0 x2 i1) (0 + Int.toNat (i : Int))).text⟩).size (strRow (textC ⟨(atC (cmds x0 x2 i1) (0 + Int.toNat (i : Int))).kind, (atC (cmds x0 x2 i1) (0 + Int.toNat (i : Int))).fn, (atC (cmds x0 x2 i1) (0 + Int.toNat (i : Int))).node, (atC (cmds x0 x2 i1) (0 + Int.toNat (i : Int))).name, (atC (cmds x0 x2 i1) (0 + Int.toNat (i : Int))).n, (atC (cmds x0 x2 i1) (0 + Int.toNat (i : Int))).text⟩)))).1.n == (atC (cmds x0 x2 i1) (0 + Int.toNat (i : Int))).n && ((readC (bytesOf (textC ⟨(atC (cmds x0 x2 i1) (0 + Int.toNat (i : Int))).kind, (atC (cmds x0 x2 i1) (0 + Int.toNat (i : Int))).fn, (atC (cmds x0 x2 i1) (0 + Int.toNat (i : Int))).node, (atC (cmds x0 x2 i1) (0 + Int.toNat (i : Int))).name, (atC (cmds x0 x2 i1) (0 + Int.toNat (i : Int))).n, (atC (cmds x0 x2 i1) (0 + Int.toNat (i : Int))).text⟩).size (strRow (textC ⟨(atC (cmds x0 x2 i1) (0 + Int.toNat (i : Int))).kind, (atC (cmds x0 x2 i1) (0 + Int.toNat (i : Int))).fn, (atC (cmds x0 x2 i1) (0 + Int.toNat (i : Int))).node, (atC (cmds x0 x2 i1) (0 + Int.toNat (i : Int))).name, (atC (cmds x0 x2 i1) (0 + Int.toNat (i : Int))).n, (atC (cmds x0 x2 i1) (0 + Int.toNat (i : Int))).text⟩)))).1.text.toList == (atC (cmds x0 x2 i1) (0 + Int.toNat (i : Int))).text.toList && true))))))) = false := by rw [hR]; exact congrArg (!·) (cmEq_self _)
        have hw1 : IntKind.wrap .i64 ((i : Int) + 1) = ((i + 1 : Nat) : Int) := by rw [wI_id _ (by omega) (by omega)]; omega
        repeat' (first | exact trivial | (with_reducible exact (fun h => absurd (hne.symm.trans h) (by decide))) | (with_reducible exact (fun h => absurd (hb1.symm.trans h) (by decide))) | (with_reducible exact (fun h => absurd (hb2.symm.trans h) (by decide))) | (with_reducible exact hib) | (with_reducible exact hq1) | (with_reducible exact hq2) | (with_reducible exact hq3) | (with_reducible exact hq4) | (with_reducible exact hts) | refine ⟨?_, ?_⟩ | intro _)
        all_goals first | (with_reducible show (_ : Int) ≤ _) | (with_reducible show (_ : Int) < _) | (with_reducible show (_ : Nat) ≤ _) | (with_reducible show (_ : Nat) < _) | (conv => whnf)
        all_goals first | ((with_reducible show ASat _ _ _ _ _); refine draw_plan tys_ok (l := [(31, ⟨[], FORead⟩), (34, ⟨[], FOText⟩), (33, ⟨[], FOLives⟩), (18, ⟨[], FRName⟩)]) ⟨fcORead, fcOText, fcOLives, fcRName, trivial⟩ (by kernel_rfl) (.take 0 (.all [(1, .take 2 (.all [(3, .all [(4, .all [(5, .all [(6, .all [(7, .all [(8, .all [(9, .done)])])])])]), (5, .all [(4, .all [(6, .all [(7, .all [(8, .all [(9, .done)])])])])])]), (4, .all [(3, .all [(5, .all [(6, .all [(7, .all [(8, .all [(9, .done)])])])])]), (5, .all [(3, .all [(6, .all [(7, .all [(8, .all [(9, .done)])])])]), (6, .all [(3, .all [(7, .all [(8, .all [(9, .done)])])]), (7, .all [(3, .all [(8, .all [(9, .done)])])])])])]), (5, .all [(3, .all [(4, .all [(6, .all [(7, .all [(8, .all [(9, .done)])])])])]), (4, .all [(3, .all [(6, .all [(7, .all [(8, .all [(9, .done)])])])]), (6, .all [(3, .all [(7, .all [(8, .all [(9, .done)])])]), (7, .all [(3, .all [(8, .all [(9, .done)])])])])])])]))])) (by kernel_rfl) ?_) | skip
        all_goals repeat' (first | exact trivial | (with_reducible exact (fun h => absurd (hne.symm.trans h) (by decide))) | (with_reducible exact (fun h => absurd (hb1.symm.trans h) (by decide))) | (with_reducible exact (fun h => absurd (hb2.symm.trans h) (by decide))) | (with_reducible exact hib) | (with_reducible exact hq1) | (with_reducible exact hq2) | (with_reducible exact hq3) | (with_reducible exact hq4) | (with_reducible exact hts) | refine ⟨?_, ?_⟩ | intro _)
        all_goals first | (with_reducible show (_ : Int) ≤ _) | (with_reducible show (_ : Int) < _) | (with_reducible show (_ : Nat) ≤ _) | (with_reducible show (_ : Nat) < _) | (conv => whnf)
        all_goals first | omega | rfl | (exact str_u8 _ _) | (dsimp only; omega) | (exact congrArg (Value.int .i64) (by first | (rw [wI_id _ (by omega) (by omega)]; omega) | omega | (dsimp only; omega))) | (dsimp only; (exact congrArg (Value.int .i64) (by first | (rw [wI_id _ (by omega) (by omega)]; omega) | omega | (dsimp only; omega)))) | trace_state
      · have hne : decide ((i : Int) < ((8 : Nat) : Int)) = false := decide_eq_false (by omega)
        obtain rfl : i = 8 := by omega
        repeat' (first | exact trivial | (with_reducible exact (fun h => absurd (hne.symm.trans h) (by decide))) | refine ⟨?_, ?_⟩ | intro _)
        all_goals first | (with_reducible show (_ : Int) ≤ _) | (with_reducible show (_ : Int) < _) | (with_reducible show (_ : Nat) ≤ _) | (with_reducible show (_ : Nat) < _) | (conv => whnf)
        all_goals first | omega | rfl | trace_state
  · cases h

end Go.Proofs.YtakcacejpbiogaaDoor
