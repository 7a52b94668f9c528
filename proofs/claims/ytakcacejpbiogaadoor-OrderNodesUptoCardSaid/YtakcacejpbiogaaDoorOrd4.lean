/- Commands out of texts, their texts. No condition. -/
import Derived.Test.YtakcacejpbiogaaDoorOrd3
namespace Go.Proofs.YtakcacejpbiogaaDoor
set_option linter.all false
open Go.Sx

open Go.RowKit Go.Lib Go.Sort
theorem mk_size (l : List UInt8) : (⟨l.toArray⟩ : ByteArray).size = l.length := by simp [ByteArray.size]
def FOText : List Ar → Option Rs
  | [.agg [.d (.v (.int .i64 k0)), .d (.v (.string x0)), .d (.v (.int .i64 i0)), .d (.v (.string y0)), .d (.v (.int .i64 m0)), .d (.v (.string z0))]] => some ⟨(Cm.ok ⟨k0, x0, i0, y0, m0, z0⟩) ∧ (x0.size ≤ 1000000000000 ∧ y0.size ≤ 1000000000000 ∧ z0.size ≤ 1000000000000), .va (.c (.d (st (textC (⟨k0, x0, i0, y0, m0, z0⟩ : Cm))))), []⟩
  | _ => none
set_option maxHeartbeats 4000000 in
set_option maxRecDepth 100000 in
theorem fcOText : FC Tryd.prog 34 FOText := by
  intro xs pre r us h hp
  unfold FOText at h
  split at h
  · rename_i k0 x0 i0 y0 m0 z0
    cases h
    obtain ⟨hp0, hp1⟩ := hp
    refine fcat tys_ok (l := [(54, ⟨[], FOWords⟩), (15, ⟨[], FKText⟩), (39, ⟨[], FItoa⟩)]) ⟨fcOWords, fcKText, fcItoa, trivial⟩ Tryd.func34 rfl (by kernel_rfl) true ?_
    obtain ⟨hk0, hi0, hm0⟩ := hp0
    dsimp only at hk0 hi0 hm0
    have hit := itoa_sz hm0
    have hts := text_sz (k := ⟨x0, i0⟩) hi0
    obtain ⟨q0, q1, q2⟩ := hp1
    have p4 : (textS ⟨x0, i0⟩).size ≤ 1000000000022 := Nat.le_trans hts (by show x0.size + 22 ≤ _; omega)
    unfold rI at hk0
    repeat' (first | exact trivial | (with_reducible exact (fun h : (_ == _) = _ => absurd h (by decide))) | (with_reducible exact hi0) | (with_reducible exact hm0) | (with_reducible exact q0) | refine ⟨?_, ?_⟩ | intro _)
    all_goals first | (with_reducible show (_ : Int) ≤ _) | (with_reducible show (_ : Int) < _) | (with_reducible show (_ : Nat) ≤ _) | (with_reducible show (_ : Nat) < _) | (conv => whnf)
    all_goals first | ((with_reducible show ASat _ _ _ _ _); refine draw_plan tys_ok (l := [(54, ⟨[], FOWords⟩), (15, ⟨[], FKText⟩), (39, ⟨[], FItoa⟩)]) ⟨fcOWords, fcKText, fcItoa, trivial⟩ (by kernel_rfl) (.all [(0, .all [(1, .all [(2, .all [(3, .all [(4, .all [(5, .done)])]), (4, .all [(3, .all [(5, .done)])])]), (4, .all [(2, .all [(3, .all [(5, .done)])])])]), (4, .all [(1, .all [(2, .all [(3, .all [(5, .done)])])])])]), (1, .all [(0, .all [(2, .all [(3, .all [(4, .all [(5, .done)])]), (4, .all [(3, .all [(5, .done)])])]), (4, .all [(2, .all [(3, .all [(5, .done)])])])]), (2, .all [(0, .all [(3, .all [(4, .all [(5, .done)])]), (4, .all [(3, .all [(5, .done)])])]), (4, .all [(0, .all [(3, .all [(5, .done)])])])]), (4, .all [(0, .all [(2, .all [(3, .all [(5, .done)])])]), (2, .all [(0, .all [(3, .all [(5, .done)])])])])]), (4, .all [(0, .all [(1, .all [(2, .all [(3, .all [(5, .done)])])])]), (1, .all [(0, .all [(2, .all [(3, .all [(5, .done)])])]), (2, .all [(0, .all [(3, .all [(5, .done)])])])])])]) (by kernel_rfl) ?_) | skip
    all_goals repeat' (first | exact trivial | (with_reducible exact (fun h : (_ == _) = _ => absurd h (by decide))) | (with_reducible exact hi0) | (with_reducible exact hm0) | (with_reducible exact q0) | refine ⟨?_, ?_⟩ | intro _)
    all_goals first | (with_reducible show (_ : Int) ≤ _) | (with_reducible show (_ : Int) < _) | (with_reducible show (_ : Nat) ≤ _) | (with_reducible show (_ : Nat) < _) | (conv => whnf)
    all_goals first | ((with_reducible show ASat _ _ _ _ _); refine draw_plan tys_ok (l := [(54, ⟨[], FOWords⟩), (15, ⟨[], FKText⟩), (39, ⟨[], FItoa⟩)]) ⟨fcOWords, fcKText, fcItoa, trivial⟩ (by kernel_rfl) (.all [(0, .all [(1, .take 2 (.all [(3, .all [(4, .all [(5, .take 6 (.take 7 (.done)))])])])), (3, .all [(1, .take 2 (.all [(4, .all [(5, .take 6 (.take 7 (.done)))])])), (4, .all [(1, .take 2 (.all [(5, .take 6 (.take 7 (.done)))])), (5, .all [(1, .take 2 (.take 6 (.take 7 (.done))))])])])]), (3, .all [(0, .all [(1, .take 2 (.all [(4, .all [(5, .take 6 (.take 7 (.done)))])])), (4, .all [(1, .take 2 (.all [(5, .take 6 (.take 7 (.done)))])), (5, .all [(1, .take 2 (.take 6 (.take 7 (.done))))])])]), (4, .all [(0, .all [(1, .take 2 (.all [(5, .take 6 (.take 7 (.done)))])), (5, .all [(1, .take 2 (.take 6 (.take 7 (.done))))])]), (5, .all [(0, .all [(1, .take 2 (.take 6 (.take 7 (.done))))])])])])]) (by kernel_rfl) ?_) | skip
    all_goals repeat' (first | exact trivial | (with_reducible exact (fun h : (_ == _) = _ => absurd h (by decide))) | (with_reducible exact hi0) | (with_reducible exact hm0) | (with_reducible exact q0) | refine ⟨?_, ?_⟩ | intro _)
    all_goals first | (with_reducible show (_ : Int) ≤ _) | (with_reducible show (_ : Int) < _) | (with_reducible show (_ : Nat) ≤ _) | (with_reducible show (_ : Nat) < _) | (conv => whnf)
    all_goals (try simp only [decide_eq_true_eq, decide_eq_false_iff_not, seq_iff] at *)
    all_goals first | omega | (with_reducible exact q0) | (with_reducible exact hi0) | (with_reducible exact hm0) | (with_reducible exact hm0.1) | (with_reducible exact hm0.2) | (rw [i64max]; simp only [ByteArray.size_append, mk_size, List.length_cons, List.length_nil]; omega) | skip
    all_goals (try subst ‹k0 = _›)
    all_goals first | (refine congrArg Value.string ?_; simp [textC, wordW, blS, eS, *]; done) | (exfalso; omega) | trace_state
  · cases h
def FONum : List Ar → Option Rs
  | [.agg [.d (.v (.int .i64 k0)), .d (.v (.string x0)), .d (.v (.int .i64 i0)), .d (.v (.string y0)), .d (.v (.int .i64 m0)), .d (.v (.string z0))], .c (.d (.v (.string x1)))] => some ⟨(Cm.ok ⟨k0, x0, i0, y0, m0, z0⟩) ∧ (x1.size ≤ 281474976710656), .tup [Cm.ar (numC (⟨k0, x0, i0, y0, m0, z0⟩ : Cm) x1).1, .c (.d (it (numC (⟨k0, x0, i0, y0, m0, z0⟩ : Cm) x1).2))], []⟩
  | _ => none
set_option maxHeartbeats 4000000 in
set_option maxRecDepth 100000 in
theorem fcONum : FC Tryd.prog 77 FONum := by
  intro xs pre r us h hp
  unfold FONum at h
  split at h
  · rename_i k0 x0 i0 y0 m0 z0 x1
    cases h
    obtain ⟨hp0, hp1⟩ := hp
    refine fcat tys_ok (l := [(92, ⟨[], FTrimL⟩)]) ⟨fcTrimL, trivial⟩ Tryd.func77 rfl (by kernel_rfl) false ?_
    repeat' (first | exact trivial | refine ⟨?_, ?_⟩ | intro _)
    all_goals first | (with_reducible show (_ : Int) ≤ _) | (with_reducible show (_ : Int) < _) | (with_reducible show (_ : Nat) ≤ _) | (with_reducible show (_ : Nat) < _) | (conv => whnf)
    all_goals (try simp only [trim_nodd] at *)
    all_goals first | rfl | (rw [numC_no (num_bad (.inl (of_decide_eq_true ‹decide (oddIx x1 ≥ 0) = true›))) (by decide)]; done) | (rw [numC_no (num_bad (.inl (of_decide_eq_true ‹decide (oddIx x1 ≥ 0) = true›))) (by decide)]; rfl) | (rw [numC_no (num_bad (.inr (.inl (of_decide_eq_true ((seq_iff _ _).symm.trans ‹(x1.toList == _) = true›))))) (by decide)]; done) | (rw [numC_no (num_bad (.inr (.inl (of_decide_eq_true ((seq_iff _ _).symm.trans ‹(x1.toList == _) = true›))))) (by decide)]; rfl) | (have hb := numC_no (c := (⟨k0, x0, i0, y0, m0, z0⟩ : Cm)) (num_bad (s := x1) (.inr (.inr ⟨by have := of_decide_eq_true ‹decide ((x1.size : Int) > 1) = true›; omega, eq_of_beq ‹(byteAt x1 (Int.toNat 0) == 48) = true›⟩))) (by decide); rw [hb]; done) | (have hb := numC_no (c := (⟨k0, x0, i0, y0, m0, z0⟩ : Cm)) (num_bad (s := x1) (.inr (.inr ⟨by have := of_decide_eq_true ‹decide ((x1.size : Int) > 1) = true›; omega, eq_of_beq ‹(byteAt x1 (Int.toNat 0) == 48) = true›⟩))) (by decide); rw [hb]; rfl) | skip
    all_goals first | (have := of_decide_eq_true ‹decide ((x1.size : Int) > 1) = true›; omega) | skip
    all_goals (have hnb := not_bad (s := x1) ‹(x1.toList == _) = false› ‹decide (oddIx x1 ≥ 0) = false› (by first | exact .inl ‹_› | exact .inr ‹_›))
    all_goals (refine acall_atoi hp1 (fun v hv => ?_) (fun hv n t a => ?_))
    all_goals repeat' (first | exact trivial | refine ⟨?_, ?_⟩ | intro _)
    all_goals first | (with_reducible show (_ : Int) ≤ _) | (with_reducible show (_ : Int) < _) | (with_reducible show (_ : Nat) ≤ _) | (with_reducible show (_ : Nat) < _) | (conv => whnf)
    all_goals first | (exact absurd ‹(!true) = true› (by decide)) | (exact absurd ‹(!false) = false› (by decide)) | (rw [numC_ok (num_ok hnb hv)]; done) | (rw [numC_ok (num_ok hnb hv)]; rfl) | (rw [numC_no (num_err hnb hv) (by decide)]; done) | (rw [numC_no (num_err hnb hv) (by decide)]; rfl) | trace_state
  · cases h
theorem rc_no {s : ByteArray} (h : kindW (cutS s blS).1 = 0 ∨ (cutS s blS).2.2 = false) : readC s = (ck 0, 3) := if_pos h
theorem rc_text {s : ByteArray} {k : Int} (h : kindW (cutS s blS).1 = k) (h0 : 0 < k) (h3 : k < 3) (hb : (!(cutS s blS).2.2) = false) : readC s = ({ ck (kindW (cutS s blS).1) with text := (cutS s blS).2.1 }, 0) := by
  unfold readC
  rw [if_neg (by rintro (q | q); omega; rw [q] at hb; cases hb), if_pos (by omega)]
theorem rc_L {s : ByteArray} {k : Int} (h : kindW (cutS s blS).1 = k) (h3 : 3 ≤ k) (hb : (!(cutS s blS).2.2) = false) : readC s = readL (kindW (cutS s blS).1) (splitS (cutS s blS).2.1) := by
  unfold readC
  rw [if_neg (by rintro (q | q); omega; rw [q] at hb; cases hb), if_neg (by omega)]
theorem len1 {L : List ByteArray} (h : ((L.length : Int) == 1) = true) : L = [atS L 0] := by
  have h : L.length = 1 := by have := eq_of_beq h; omega
  match L, h with
  | [a], _ => rfl
theorem len2 {L : List ByteArray} (h : ((L.length : Int) == 2) = true) : L = [atS L 0, atS L 1] := by
  have h : L.length = 2 := by have := eq_of_beq h; omega
  match L, h with
  | [a, b], _ => rfl
theorem readL_1 {k : Int} {L : List ByteArray} (h : ((L.length : Int) == 1) = true) : readL k L = if k = 3 ∨ k = 8 then fin0 (nameC (ck k) (atS L 0)) else if k = 9 then fin0 (numC (ck k) (atS L 0)) else if k = 4 ∨ k = 5 ∨ k = 6 then fin0 (nodeC (ck k) (atS L 0)) else (ck 0, 3) := by
  conv => lhs; rw [len1 h]
  rfl
theorem readL_2 {k : Int} {L : List ByteArray} (h : ((L.length : Int) == 2) = true) : readL k L = if k = 4 ∨ k = 7 then (if (nodeC (ck k) (atS L 0)).2 = 0 then fin0 (nameC (nodeC (ck k) (atS L 0)).1 (atS L 1)) else (ck 0, (nodeC (ck k) (atS L 0)).2)) else (ck 0, 3) := by
  conv => lhs; rw [len2 h]
  rfl
theorem readL_x {k : Int} {L : List ByteArray} (h1 : ((L.length : Int) == 1) = false) (h2 : ((L.length : Int) == 2) = false) : readL k L = (ck 0, 3) := by
  unfold readL
  split
  · cases h1
  · cases h2
  · rfl
theorem fin0_ok {x : Cm × Int} (h : (x.2 != 0) = false) : fin0 x = x := if_pos (by simpa using h)
theorem fin0_er {x : Cm × Int} (h : (x.2 != 0) = true) : fin0 x = (ck 0, x.2) := if_neg (by simpa using h)
abbrev wS (s : ByteArray) : ByteArray := (cutS s blS).1
abbrev rS (s : ByteArray) : List ByteArray := splitS (cutS s blS).2.1
section
variable {s : ByteArray} {k : Int} {i j : Nat} (hk : kindW (wS s) = k) (hb : (!(cutS s blS).2.2) = false)
include hk hb
theorem rcN (h : k = 3 ∨ k = 8) (h1 : (((rS s).length : Int) == 1) = true) (he : ((nameC (ck (kindW (wS s))) (atS (rS s) i)).2 != 0) = false) (hi : i = 0) : readC s = nameC (ck (kindW (wS s))) (atS (rS s) i) := by
  subst hi
  rw [rc_L hk (by omega) hb, readL_1 h1, if_pos (by rw [hk]; exact h), fin0_ok he]
theorem rcNe (h : k = 3 ∨ k = 8) (h1 : (((rS s).length : Int) == 1) = true) (he : ((nameC (ck (kindW (wS s))) (atS (rS s) i)).2 != 0) = true) (hi : i = 0) : readC s = (ck 0, (nameC (ck (kindW (wS s))) (atS (rS s) i)).2) := by
  subst hi
  rw [rc_L hk (by omega) hb, readL_1 h1, if_pos (by rw [hk]; exact h), fin0_er he]
theorem rcB (h : k = 9) (h1 : (((rS s).length : Int) == 1) = true) (he : ((numC (ck (kindW (wS s))) (atS (rS s) i)).2 != 0) = false) (hi : i = 0) : readC s = numC (ck (kindW (wS s))) (atS (rS s) i) := by
  subst hi
  rw [rc_L hk (by omega) hb, readL_1 h1, if_neg (by rw [hk]; omega), if_pos (by rw [hk]; exact h), fin0_ok he]
theorem rcBe (h : k = 9) (h1 : (((rS s).length : Int) == 1) = true) (he : ((numC (ck (kindW (wS s))) (atS (rS s) i)).2 != 0) = true) (hi : i = 0) : readC s = (ck 0, (numC (ck (kindW (wS s))) (atS (rS s) i)).2) := by
  subst hi
  rw [rc_L hk (by omega) hb, readL_1 h1, if_neg (by rw [hk]; omega), if_pos (by rw [hk]; exact h), fin0_er he]
theorem rcD (h : k = 4 ∨ k = 5 ∨ k = 6) (h1 : (((rS s).length : Int) == 1) = true) (he : ((nodeC (ck (kindW (wS s))) (atS (rS s) i)).2 != 0) = false) (hi : i = 0) : readC s = nodeC (ck (kindW (wS s))) (atS (rS s) i) := by
  subst hi
  rw [rc_L hk (by omega) hb, readL_1 h1, if_neg (by rw [hk]; omega), if_neg (by rw [hk]; omega), if_pos (by rw [hk]; exact h), fin0_ok he]
theorem rcDe (h : k = 4 ∨ k = 5 ∨ k = 6) (h1 : (((rS s).length : Int) == 1) = true) (he : ((nodeC (ck (kindW (wS s))) (atS (rS s) i)).2 != 0) = true) (hi : i = 0) : readC s = (ck 0, (nodeC (ck (kindW (wS s))) (atS (rS s) i)).2) := by
  subst hi
  rw [rc_L hk (by omega) hb, readL_1 h1, if_neg (by rw [hk]; omega), if_neg (by rw [hk]; omega), if_pos (by rw [hk]; exact h), fin0_er he]
theorem rcPe (h : k = 4 ∨ k = 7) (h1 : (((rS s).length : Int) == 2) = true) (he : ((nodeC (ck (kindW (wS s))) (atS (rS s) i)).2 != 0) = true) (hi : i = 0) : readC s = (ck 0, (nodeC (ck (kindW (wS s))) (atS (rS s) i)).2) := by
  subst hi
  rw [rc_L hk (by omega) hb, readL_2 h1, if_pos (by rw [hk]; exact h), if_neg (by simpa using he)]
theorem rcP (h : k = 4 ∨ k = 7) (h1 : (((rS s).length : Int) == 2) = true) (he : ((nodeC (ck (kindW (wS s))) (atS (rS s) i)).2 != 0) = false) (he2 : ((nameC (nodeC (ck (kindW (wS s))) (atS (rS s) i)).1 (atS (rS s) j)).2 != 0) = false) (hi : i = 0) (hj : j = 1) : readC s = nameC (nodeC (ck (kindW (wS s))) (atS (rS s) i)).1 (atS (rS s) j) := by
  subst hi hj
  rw [rc_L hk (by omega) hb, readL_2 h1, if_pos (by rw [hk]; exact h), if_pos (by simpa using he), fin0_ok he2]
theorem rcP2 (h : k = 4 ∨ k = 7) (h1 : (((rS s).length : Int) == 2) = true) (he : ((nodeC (ck (kindW (wS s))) (atS (rS s) i)).2 != 0) = false) (he2 : ((nameC (nodeC (ck (kindW (wS s))) (atS (rS s) i)).1 (atS (rS s) j)).2 != 0) = true) (hi : i = 0) (hj : j = 1) : readC s = (ck 0, (nameC (nodeC (ck (kindW (wS s))) (atS (rS s) i)).1 (atS (rS s) j)).2) := by
  subst hi hj
  rw [rc_L hk (by omega) hb, readL_2 h1, if_pos (by rw [hk]; exact h), if_pos (by simpa using he), fin0_er he2]
theorem rcX (h : 3 ≤ k) (h1 : (((rS s).length : Int) == 1) = false) (h2 : (((rS s).length : Int) == 2) = false) : readC s = (ck 0, 3) := by
  rw [rc_L hk h hb, readL_x h1 h2]
theorem rcX1 (h : k = 7) (h1 : (((rS s).length : Int) == 1) = true) : readC s = (ck 0, 3) := by
  rw [rc_L hk (by omega) hb, readL_1 h1, if_neg (by rw [hk]; omega), if_neg (by rw [hk]; omega), if_neg (by rw [hk]; omega)]
theorem rcX1' (h : k = 7) (h2 : (((rS s).length : Int) == 2) = false) : readC s = (ck 0, 3) := by
  by_cases h1 : (((rS s).length : Int) == 1) = true
  · exact rcX1 hk hb h h1
  · exact rcX hk hb (by omega) (by simpa using h1) h2
theorem rcX2 (h : 3 ≤ k ∧ k ≠ 4 ∧ k ≠ 7) (h1 : (((rS s).length : Int) == 1) = false) : readC s = (ck 0, 3) := by
  by_cases h2 : (((rS s).length : Int) == 2) = true
  · rw [rc_L hk (by omega) hb, readL_2 h2, if_neg (by rw [hk]; omega)]
  · exact rcX hk hb (by omega) h1 (by simpa using h2)
end
theorem nameC_okk {c : Cm} {a : ByteArray} (h : c.ok) : (nameC c a).1.ok := by
  unfold nameC; split <;> exact h
theorem atoi_rng {l : List UInt8} {v : Int} (h : Lib.atoiAll l = .ok v) : rI v := by
  unfold Lib.atoiAll at h
  unfold rI
  split at h
  · cases h
  · dsimp only at h
    split at h
    · cases h
    · cases h
    · split at h
      · cases h
      · split at h
        · cases h
        · cases h; split <;> omega
theorem numM_rng (s : ByteArray) : rI (numM s).1 := by
  unfold numM
  split
  · unfold rI; decide
  · split
    · rename_i v h; exact atoi_rng h
    · unfold rI; decide
theorem readM_rng {s : ByteArray} : rI (readM s).1.node := by
  have h0 : rI (0 : Int) := by unfold rI; decide
  have h1 : rI (-1 : Int) := by unfold rI; decide
  unfold readM
  split
  · exact h0
  · split
    · exact h1
    · split
      · exact numM_rng _
      · exact h0
theorem nodeC_okk {c : Cm} {a : ByteArray} (h : c.ok) : (nodeC c a).1.ok := by
  unfold nodeC
  split
  · exact h
  · split
    · exact h
    · exact ⟨h.1, readM_rng, h.2.2⟩
theorem split_sz (n : Nat) : ∀ s : ByteArray, s.size ≤ n → ∀ x, x ∈ splitS s → x.size ≤ s.size := by
  induction n using Nat.strongRecOn with
  | ind n ih =>
    intro s hs x hx
    rcases parts s with ⟨a, rfl, h⟩ | ⟨a, b, rfl, h⟩
    · rw [split_none h, List.mem_singleton] at hx; subst hx; exact Nat.le_refl _
    · rw [split_app h] at hx
      rw [mkB_sz] at hs ⊢
      simp only [List.length_append, List.length_cons] at hs ⊢
      rcases List.mem_cons.1 hx with rfl | hx
      · rw [mkB_sz]; omega
      · have := ih b.length (by omega) (mkB b) (by rw [mkB_sz]; exact Nat.le_refl _) x hx
        rw [mkB_sz] at this; omega
theorem at_sz (s : ByteArray) (i : Nat) : (atS (splitS s) i).size ≤ s.size := by
  unfold atS
  rw [List.getD_eq_getElem?_getD]
  rcases Nat.lt_or_ge i (splitS s).length with h | h
  · rw [List.getElem?_eq_getElem h]; exact split_sz _ s (Nat.le_refl _) _ (List.getElem_mem h)
  · rw [List.getElem?_eq_none h]; exact Nat.zero_le _

end Go.Proofs.YtakcacejpbiogaaDoor
