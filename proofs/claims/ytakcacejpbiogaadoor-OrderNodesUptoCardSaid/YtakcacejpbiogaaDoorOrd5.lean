/- Commands, as the reference has them. No condition. -/
import Derived.Test.YtakcacejpbiogaaDoorOrd4b
namespace Go.Proofs.YtakcacejpbiogaaDoor
set_option linter.all false
open Go.Sx

open Go.RowKit Go.Lib Go.Sort
def wordsL : List ByteArray := [eS, ⟨#[102, 117, 110, 99]⟩, ⟨#[103, 108, 111, 98, 97, 108]⟩, ⟨#[100, 114, 111, 112]⟩, ⟨#[118, 97, 108, 117, 101]⟩, ⟨#[114, 101, 97, 99, 104]⟩, ⟨#[97, 115, 115, 101, 114, 116]⟩, ⟨#[112, 111, 105, 110, 116, 115]⟩, ⟨#[119, 104, 111, 108, 101]⟩, ⟨#[98, 117, 100, 103, 101, 116]⟩]
theorem not_mem_of {s : ByteArray} {l : List UInt8} (hs : s = mkB l) {p q : Nat} (h : ∀ j, p ≤ j → j < q → bAt s j ≠ 32) (hq : q ≤ l.length) : (32 : UInt8) ∉ (l.drop p).take (q - p) := by
  subst hs
  intro hm
  obtain ⟨j, hj, e⟩ := List.mem_iff_getElem.1 hm
  rw [List.length_take, List.length_drop] at hj
  rw [List.getElem_take, List.getElem_drop] at e
  have h1 := h (p + j) (by omega) (by omega)
  rw [bAt_mk (by omega), e] at h1
  exact h1 rfl
theorem split_step {s : ByteArray} {p q : Nat} (hpq : p ≤ q) (hq : q ≤ s.size) (h : ∀ j, p ≤ j → j < q → bAt s j ≠ 32) (he : q = s.size ∨ bAt s q = 32) :
    splitS (s.extract p s.size) = s.extract p q :: if q = s.size then [] else splitS (s.extract (q + 1) s.size) := by
  have hs : s = mkB s.data.toList := (mkB_of s).symm
  generalize hl : s.data.toList = l at hs
  have hsz : s.size = l.length := by rw [hs, mkB_sz]
  have hn := not_mem_of hs h (by omega)
  have e1 : s.extract p q = mkB ((l.drop p).take (q - p)) := by rw [hs, ext_mk]
  have e2 : s.extract p s.size = mkB (l.drop p) := by rw [hs, ext_mk, mkB_sz, List.take_of_length_le (by rw [List.length_drop]; exact Nat.le_refl _)]
  have e3 : s.extract (q + 1) s.size = mkB (l.drop (q + 1)) := by rw [hs, ext_mk, mkB_sz, List.take_of_length_le (by rw [List.length_drop]; exact Nat.le_refl _)]
  rw [e1, e2, e3]
  by_cases hqs : q = s.size
  · rw [if_pos hqs]
    have e4 : (l.drop p).take (q - p) = l.drop p := List.take_of_length_le (by rw [List.length_drop]; omega)
    rw [e4] at hn ⊢
    exact split_none hn
  · rw [if_neg hqs]
    have hb : bAt s q = 32 := by rcases he with h | h; exact absurd h hqs; exact h
    have hlt : q < l.length := by omega
    have hc : l[q] = 32 := by
      rw [hs, bAt_mk hlt] at hb
      apply UInt8.toNat_inj.1; exact hb
    have e4 : l.drop p = (l.drop p).take (q - p) ++ 32 :: l.drop (q + 1) := by
      conv => lhs; rw [← List.take_append_drop (q - p) (l.drop p)]
      rw [List.drop_drop, show p + (q - p) = q by omega, List.drop_eq_getElem_cons hlt, hc]
    conv => lhs; rw [e4]
    exact split_app hn
structure SpI where
  i : Nat
  p : Nat
  out : List ByteArray
def SpI.nx (s : ByteArray) (x : SpI) : SpI := if x.i = s.size ∨ bAt s x.i = 32 then ⟨x.i + 1, x.i + 1, x.out ++ [s.extract x.p x.i]⟩ else ⟨x.i + 1, x.p, x.out⟩
structure SpI.ok (s : ByteArray) (x : SpI) : Prop where
  pi : x.p ≤ x.i
  len : x.out.length ≤ x.i
  le : x.i ≤ s.size + 1
  mid : x.i ≤ s.size → x.out ++ splitS (s.extract x.p s.size) = splitS s ∧ ∀ j, x.p ≤ j → j < x.i → bAt s j ≠ 32
  fin : x.i = s.size + 1 → x.out = splitS s
theorem SpI.step {s : ByteArray} {x : SpI} (h : x.ok s) (hi : x.i ≤ s.size) : (x.nx s).ok s := by
  obtain ⟨i, p, out⟩ := x
  obtain ⟨h1, h2, h3, h4, h5⟩ := h
  obtain ⟨m1, m2⟩ := h4 hi
  dsimp only at *
  unfold SpI.nx
  dsimp only
  split
  · rename_i hc
    have e := split_step h1 hi m2 hc
    refine ⟨Nat.le_refl _, by dsimp only; rw [List.length_append]; simp; omega, by dsimp only; omega, fun hle => ⟨?_, fun j a b => by dsimp only at a b; omega⟩, fun heq => ?_⟩
    · dsimp only at hle ⊢
      rw [if_neg (by omega)] at e
      rw [List.append_assoc, ← m1, e]; rfl
    · dsimp only at heq ⊢
      rw [if_pos (by omega)] at e
      rw [← m1, e]
  · rename_i hc
    refine ⟨by dsimp only; omega, by dsimp only; omega, by dsimp only; omega, fun hle => ⟨m1, fun j a b => ?_⟩, fun heq => ?_⟩
    · dsimp only at a b
      rcases Nat.lt_or_ge j i with h | h
      · exact m2 j a h
      · rw [show j = i by omega]; exact fun e => hc (.inr e)
    · exact absurd (.inl (by dsimp only at heq; omega)) hc
theorem atS_snoc {l : List ByteArray} {s : ByteArray} {q : Nat} (h : q < l.length + 1) : appRow l.length (fun i => [st (atS l i)]) (fun i => Sx.rowAt 1 [DV.v (.string s)] (0 + i)) q = [st (atS (l ++ [s]) q)] := by
  unfold appRow
  by_cases hq : q < l.length
  · rw [if_pos hq]
    show [st (atS l q)] = [st (atS (l ++ [s]) q)]
    unfold atS
    rw [List.getD_eq_getElem?_getD, List.getD_eq_getElem?_getD, List.getElem?_append_left hq]
  · rw [if_neg hq]
    obtain rfl : q = l.length := by omega
    rw [Nat.sub_self]
    unfold atS
    rw [List.getD_eq_getElem?_getD, List.getElem?_append_right (Nat.le_refl _), Nat.sub_self]; rfl
theorem SpI.nx_yes {s : ByteArray} {x : SpI} (h : x.i = s.size ∨ bAt s x.i = 32) : x.nx s = ⟨x.i + 1, x.i + 1, x.out ++ [s.extract x.p x.i]⟩ := if_pos h
theorem SpI.nx_no {s : ByteArray} {x : SpI} (h : ¬ (x.i = s.size ∨ bAt s x.i = 32)) : x.nx s = ⟨x.i + 1, x.p, x.out⟩ := if_neg h
theorem SpI.nx_i (s : ByteArray) (x : SpI) : (x.nx s).i = x.i + 1 := by unfold SpI.nx; split <;> rfl
theorem ext_all' (s : ByteArray) : s.extract 0 s.size = s := ext_all s
abbrev nS : ByteArray := ⟨#[110, 46]⟩
theorem word_at {k : Int} (h1 : 1 ≤ k) (h2 : k ≤ 9) : atS wordsL k.toNat = wordW k := by
  have : k = 1 ∨ k = 2 ∨ k = 3 ∨ k = 4 ∨ k = 5 ∨ k = 6 ∨ k = 7 ∨ k = 8 ∨ k = 9 := by omega
  rcases this with rfl | rfl | rfl | rfl | rfl | rfl | rfl | rfl | rfl <;> rfl
theorem word_sz (i : Nat) : (atS wordsL i).size ≤ 6 := by
  unfold atS
  rw [List.getD_eq_getElem?_getD]
  rcases Nat.lt_or_ge i wordsL.length with h | h
  · rw [List.getElem?_eq_getElem h]
    have : ∀ x, x ∈ wordsL → x.size ≤ 6 := by decide
    exact this _ (List.getElem_mem h)
  · rw [List.getElem?_eq_none h]; decide
theorem kindW_iff {k : Int} {s : ByteArray} (h1 : 1 ≤ k) (h2 : k ≤ 9) : kindW s = k ↔ s = wordW k := by
  constructor
  · intro h
    rcases kindW_cases s with e | ⟨e, q⟩ | ⟨e, q⟩ | ⟨e, q⟩ | ⟨e, q⟩ | ⟨e, q⟩ | ⟨e, q⟩ | ⟨e, q⟩ | ⟨e, q⟩ | ⟨e, q⟩
    · omega
    all_goals (obtain rfl := h.symm.trans e; exact q)
  · exact kindW_at h1 (by omega)
def kp (w : ByteArray) (k : Nat) : Int := if kindW w < (k : Int) then kindW w else 0
theorem kp_yes {w : ByteArray} {k : Nat} (h1 : 1 ≤ k) (h2 : k ≤ 9) (h : atS wordsL k = w) : kp w (k + 1) = k := by
  have e := word_at (k := (k : Int)) (by omega) (by omega)
  rw [Int.toNat_natCast] at e
  have hk := (kindW_iff (k := (k : Int)) (s := w) (by omega) (by omega)).2 (by rw [← h, e])
  unfold kp
  rw [hk, if_pos (by omega)]
theorem kp_no {w : ByteArray} {k : Nat} (h1 : 1 ≤ k) (h2 : k ≤ 9) (h : ¬ atS wordsL k = w) : kp w (k + 1) = kp w k := by
  have e := word_at (k := (k : Int)) (by omega) (by omega)
  rw [Int.toNat_natCast] at e
  have hk : kindW w ≠ k := fun q => h (by rw [e]; exact ((kindW_iff (by omega) (by omega)).1 q).symm)
  unfold kp
  by_cases hq : kindW w < (k : Int)
  · rw [if_pos hq, if_pos (by omega)]
  · rw [if_neg hq, if_neg (by omega)]
theorem kp_all (w : ByteArray) : kp w 10 = kindW w := if_pos (kindW_rng w).2
theorem kp_one (w : ByteArray) : kp w 1 = 0 := by
  have := kindW_rng w
  unfold kp; split <;> omega
def FRWords : List Ar → Option Rs
  | [] => some ⟨True, .va (.c (.d (lst wordsL))), []⟩
  | _ => none
set_option maxHeartbeats 1000000 in
set_option maxRecDepth 100000 in
theorem fcRWords : FC Tryd.prog 58 FRWords := by
  intro xs pre r us h hp
  unfold FRWords at h
  split at h
  · cases h
    refine fcat tys_ok (l := []) trivial Tryd.func58 rfl (by kernel_rfl) true ?_
    repeat' (first | exact trivial | refine ⟨?_, ?_⟩ | intro _)
    all_goals first | (with_reducible show (_ : Int) ≤ _) | (with_reducible show (_ : Int) < _) | (with_reducible show (_ : Nat) ≤ _) | (with_reducible show (_ : Nat) < _) | (conv => whnf)
    all_goals first | rfl | decide | (rename_i i hi; have h10 : i = 0 ∨ i = 1 ∨ i = 2 ∨ i = 3 ∨ i = 4 ∨ i = 5 ∨ i = 6 ∨ i = 7 ∨ i = 8 ∨ i = 9 := (by omega); rcases h10 with rfl | rfl | rfl | rfl | rfl | rfl | rfl | rfl | rfl | rfl <;> rfl) | trace_state
  · cases h
def FRSplit : List Ar → Option Rs
  | [.c (.d (.v (.string x0)))] => some ⟨(x0.size < 4294967281), .va (.c (.d (lst (splitS x0)))), []⟩
  | _ => none
set_option maxHeartbeats 4000000 in
set_option maxRecDepth 100000 in
theorem fcRSplit : FC Tryd.prog 57 FRSplit := by
  intro xs pre r us h hp
  unfold FRSplit at h
  split at h
  · rename_i x0
    cases h
    have hp0 := hp
    refine fcat tys_ok (l := []) trivial Tryd.func57 rfl (by kernel_rfl) true ?_
    repeat' (first | exact trivial | refine ⟨?_, ?_⟩ | intro _)
    all_goals first | (with_reducible show (_ : Int) ≤ _) | (with_reducible show (_ : Int) < _) | (with_reducible show (_ : Nat) ≤ _) | (with_reducible show (_ : Nat) < _) | (conv => whnf)
    refine loop_ids tys_ok (l := []) trivial (by kernel_rfl) (X := SpI)
      (fun x => ⟨[(5, vx (.int .i64 x.i)), (4, vx (.int .i64 x.p)), (3, .va (.c (.osl 0 1 0 x.out.length))), (0, vx (.string x0))], [(0, .row 1 x.out.length fun i => [st (atS x.out i)])], 1, 32⟩)
      (fun x => x0.size + 1 - x.i) (fun x => x.ok x0) [3] []
      (fun x _ _ => x.nx x0) (fun xs => match xs with | [t] => [oI t] | _ => []) [] 0 1 ⟨0, 0, []⟩ ?_ ?_ ?_
    · exact ⟨Nat.le_refl _, Nat.le_refl _, Nat.zero_le _, fun _ => ⟨by rw [ext_all]; rfl, fun j _ h => absurd h (Nat.not_lt_zero j)⟩, fun h => absurd h (by simp)⟩
    · repeat' (first | exact trivial | exact rfl | (intro _ h; exact absurd h (Nat.not_lt_zero _)) | (intro _ _; exact rfl) | refine ⟨?_, ?_⟩ | fail)
      all_goals first | (simp; done) | trace_state
    · rintro x hok
      have h1 := hok.pi
      have h2 := hok.len
      have h3 := hok.le
      rcases Nat.lt_or_ge x0.size x.i with hi | hi
      · have hne : decide ((x.i : Int) ≤ (x0.size : Int)) = false := decide_eq_false (by omega)
        have hfin := hok.fin (by omega)
        repeat' (first | exact trivial | (with_reducible exact (fun h => absurd (hne.symm.trans h) (by decide))) | refine ⟨?_, ?_⟩ | intro _)
        all_goals first | (with_reducible show (_ : Int) ≤ _) | (with_reducible show (_ : Int) < _) | (with_reducible show (_ : Nat) ≤ _) | (with_reducible show (_ : Nat) < _) | (conv => whnf)
        all_goals first | rfl | omega | (rw [hfin]; done) | (intro q hq; dsimp only; rw [hfin, Nat.zero_add]) | (dsimp only; rw [hfin, Nat.zero_add]) | trace_state
      · have hne : decide ((x.i : Int) ≤ (x0.size : Int)) = true := decide_eq_true (by omega)
        have hst := SpI.step hok hi
        have hw1 : IntKind.wrap .i64 ((x.i : Int) + 1) = ((x.i + 1 : Nat) : Int) := by rw [wI_id _ (by omega) (by omega)]; omega
        have hcl : x.i = x0.size ∨ (x.i < x0.size ∧ bAt x0 x.i = 32) ∨ (x.i < x0.size ∧ bAt x0 x.i ≠ 32) := by omega
        rcases hcl with hc | ⟨hc, hb⟩ | ⟨hc, hb⟩
        · have hb1 : ((x.i : Int) == (x0.size : Int)) = true := by rw [hc]; simp
          have hn := SpI.nx_yes (s := x0) (x := x) (.inl hc)
          rw [hn] at hst
          repeat' (first | exact trivial | (with_reducible exact (fun h => absurd (hne.symm.trans h) (by decide))) | (with_reducible exact (fun h => absurd (hb1.symm.trans h) (by decide))) | refine ⟨?_, ?_⟩ | intro _)
          all_goals first | (with_reducible show (_ : Int) ≤ _) | (with_reducible show (_ : Int) < _) | (with_reducible show (_ : Nat) ≤ _) | (with_reducible show (_ : Nat) < _) | (conv => whnf)
          all_goals first | omega | rfl | (dsimp only; rw [hn]; exact hst) | (dsimp only; rw [hn, hw1]; done) | (dsimp only; rw [hn]; dsimp only; omega) | (dsimp only; rw [hn, hw1]; rfl) | (dsimp only; rw [hn]; done) | (dsimp only; rw [hn]; rfl) | (dsimp only; rw [hn]; simp; done) | (dsimp only; rw [hn]; exact atS_snoc ‹_›) | trace_state
        · have hb1 : ((x.i : Int) == (x0.size : Int)) = false := beq_eq_false_iff_ne.2 (by omega)
          have hb2 : (byteAt x0 (Int.toNat (x.i : Int)) == 32) = true := by rw [Int.toNat_natCast, byte_bAt hc, hb]; rfl
          have hn := SpI.nx_yes (s := x0) (x := x) (.inr hb)
          rw [hn] at hst
          repeat' (first | exact trivial | (with_reducible exact (fun h => absurd (hne.symm.trans h) (by decide))) | (with_reducible exact (fun h => absurd (hb1.symm.trans h) (by decide))) | (with_reducible exact (fun h => absurd (hb2.symm.trans h) (by decide))) | refine ⟨?_, ?_⟩ | intro _)
          all_goals first | (with_reducible show (_ : Int) ≤ _) | (with_reducible show (_ : Int) < _) | (with_reducible show (_ : Nat) ≤ _) | (with_reducible show (_ : Nat) < _) | (conv => whnf)
          all_goals first | omega | rfl | (dsimp only; rw [hn]; exact hst) | (dsimp only; rw [hn, hw1]; done) | (dsimp only; rw [hn]; dsimp only; omega) | (dsimp only; rw [hn, hw1]; rfl) | (dsimp only; rw [hn]; done) | (dsimp only; rw [hn]; rfl) | (dsimp only; rw [hn]; simp; done) | (dsimp only; rw [hn]; exact atS_snoc ‹_›) | trace_state
        · have hb1 : ((x.i : Int) == (x0.size : Int)) = false := beq_eq_false_iff_ne.2 (by omega)
          have hb2 : (byteAt x0 (Int.toNat (x.i : Int)) == 32) = false := by rw [Int.toNat_natCast, byte_bAt hc]; exact beq_eq_false_iff_ne.2 (by omega)
          have hn := SpI.nx_no (s := x0) (x := x) (by omega)
          rw [hn] at hst
          repeat' (first | exact trivial | (with_reducible exact (fun h => absurd (hne.symm.trans h) (by decide))) | (with_reducible exact (fun h => absurd (hb1.symm.trans h) (by decide))) | (with_reducible exact (fun h => absurd (hb2.symm.trans h) (by decide))) | refine ⟨?_, ?_⟩ | intro _)
          all_goals first | (with_reducible show (_ : Int) ≤ _) | (with_reducible show (_ : Int) < _) | (with_reducible show (_ : Nat) ≤ _) | (with_reducible show (_ : Nat) < _) | (conv => whnf)
          all_goals first | omega | rfl | (dsimp only; rw [hn]; exact hst) | (dsimp only; rw [hn, hw1]; done) | (dsimp only; rw [hn]; dsimp only; omega) | (dsimp only; rw [hn, hw1]; rfl) | (dsimp only; rw [hn]; done) | (dsimp only; rw [hn]; rfl) | (dsimp only; rw [hn]; simp; done) | (dsimp only; rw [hn]; exact atS_snoc ‹_›) | trace_state
  · cases h
def FRNum37 : List Ar → Option Rs
  | [.c (.d (.v (.string x0)))] => some ⟨(x0.size < 4294967279), .tup [.c (.d (it (readM (nS ++ x0)).1.node)), .c (.d (it (readM (nS ++ x0)).2))], []⟩
  | _ => none
set_option maxHeartbeats 1000000 in
set_option maxRecDepth 100000 in
theorem fcRNum37 : FC Tryd.prog 59 FRNum37 := by
  intro xs pre r us h hp
  unfold FRNum37 at h
  split at h
  · rename_i x0
    cases h
    have hp0 := hp
    refine fcat tys_ok (l := [(19, ⟨[], FRRead⟩)]) ⟨fcRRead, trivial⟩ Tryd.func59 rfl (by kernel_rfl) true ?_
    repeat' (first | exact trivial | refine ⟨?_, ?_⟩ | intro _)
    all_goals first | (with_reducible show (_ : Int) ≤ _) | (with_reducible show (_ : Int) < _) | (with_reducible show (_ : Nat) ≤ _) | (with_reducible show (_ : Nat) < _) | (conv => whnf)
    all_goals first | (rw [i64max]; show ((2 + x0.size : Nat) : Int) ≤ _; omega) | (rw [ByteArray.size_append]; show 2 + x0.size < _; omega) | rfl | trace_state
  · cases h
def FRNode37 : List Ar → Option Rs
  | [.agg [.d (.v (.int .i64 k0)), .d (.v (.string x0)), .d (.v (.int .i64 i0)), .d (.v (.string y0)), .d (.v (.int .i64 m0)), .d (.v (.string z0))], .c (.d (.v (.string x1)))] => some ⟨(Cm.ok ⟨k0, x0, i0, y0, m0, z0⟩) ∧ (x1.size < 4294967281), .tup [Cm.ar (fin0 (nodeC (⟨k0, x0, i0, y0, m0, z0⟩ : Cm) x1)).1, .c (.d (it (fin0 (nodeC (⟨k0, x0, i0, y0, m0, z0⟩ : Cm) x1)).2))], []⟩
  | _ => none
set_option maxHeartbeats 1000000 in
set_option maxRecDepth 100000 in
theorem fcRNode37 : FC Tryd.prog 60 FRNode37 := by
  intro xs pre r us h hp
  unfold FRNode37 at h
  split at h
  · rename_i k0 x0 i0 y0 m0 z0 x1
    cases h
    obtain ⟨hp0, hp1⟩ := hp
    refine fcat tys_ok (l := [(19, ⟨[], FRRead⟩)]) ⟨fcRRead, trivial⟩ Tryd.func60 rfl (by kernel_rfl) true ?_
    repeat' (first | exact trivial | (with_reducible exact (fun h : (_ == _) = _ => absurd h (by decide))) | (with_reducible exact (fun h : decide _ = _ => absurd h (by decide))) | (with_reducible exact (fun h : kindW _ = ((0 : Nat) : Int) => absurd ‹(kindW _ == 0) = false› (by rw [show kindW _ = 0 from h]; decide))) | refine ⟨?_, ?_⟩ | intro _)
    all_goals first | (with_reducible show (_ : Int) ≤ _) | (with_reducible show (_ : Int) < _) | (with_reducible show (_ : Nat) ≤ _) | (with_reducible show (_ : Nat) < _) | (conv => whnf)
    all_goals first | exact hp1 | skip
    all_goals (rcases Int.lt_or_le (readM x1).1.node 0 with hq | hq)
    all_goals first | (rw [nodeC_ok (by with_reducible assumption) (decide_eq_false (by omega))]; rfl) | (simp_all [fin0, nodeC]; done) | trace_state
  · cases h
def FRText37 : List Ar → Option Rs
  | [.agg [.d (.v (.int .i64 k0)), .d (.v (.string x0)), .d (.v (.int .i64 i0)), .d (.v (.string y0)), .d (.v (.int .i64 m0)), .d (.v (.string z0))]] => some ⟨(Cm.ok ⟨k0, x0, i0, y0, m0, z0⟩) ∧ (x0.size ≤ 1000000000000 ∧ y0.size ≤ 1000000000000 ∧ z0.size ≤ 1000000000000), .va (.c (.d (st (textC (⟨k0, x0, i0, y0, m0, z0⟩ : Cm))))), []⟩
  | _ => none
set_option maxHeartbeats 4000000 in
set_option maxRecDepth 100000 in
theorem fcRText37 : FC Tryd.prog 35 FRText37 := by
  intro xs pre r us h hp
  unfold FRText37 at h
  split at h
  · rename_i k0 x0 i0 y0 m0 z0
    cases h
    obtain ⟨hp0, hp1⟩ := hp
    refine fcat tys_ok (l := [(58, ⟨[], FRWords⟩), (16, ⟨[], FRText⟩), (40, ⟨[], FRNumC⟩)]) ⟨fcRWords, fcRText, fcRNumC, trivial⟩ Tryd.func35 rfl (by kernel_rfl) true ?_
    obtain ⟨hk0, hi0, hm0⟩ := hp0
    dsimp only at hk0 hi0 hm0
    have hit := itoa_sz hm0
    have hts := text_sz (k := ⟨x0, i0⟩) hi0
    obtain ⟨q0, q1, q2⟩ := hp1
    have p4 : (textS ⟨x0, i0⟩).size ≤ 1000000000022 := Nat.le_trans hts (by show x0.size + 22 ≤ _; omega)
    unfold rI at hk0
    have hm1 := hm0
    unfold rI at hm1
    repeat' (first | exact trivial | (with_reducible exact (fun h : (_ == _) = _ => absurd h (by decide))) | (with_reducible exact (fun h : decide _ = _ => absurd h (by decide))) | (with_reducible exact (fun h : kindW _ = ((0 : Nat) : Int) => absurd ‹(kindW _ == 0) = false› (by rw [show kindW _ = 0 from h]; decide))) | (with_reducible exact hi0) | (with_reducible exact hm0) | (with_reducible exact q0) | refine ⟨?_, ?_⟩ | intro _)
    all_goals first | (with_reducible show (_ : Int) ≤ _) | (with_reducible show (_ : Int) < _) | (with_reducible show (_ : Nat) ≤ _) | (with_reducible show (_ : Nat) < _) | (conv => whnf)
    all_goals (try simp only [decide_eq_true_eq, decide_eq_false_iff_not, seq_iff, beq_iff_eq, beq_eq_false_iff_ne, show wordsL.length = 10 from rfl] at *)
    all_goals first | omega | (with_reducible exact hm0.1) | (with_reducible exact hm0.2) | (rw [i64max]; have hws := word_sz k0.toNat; simp only [ByteArray.size_append, mk_size, List.length_cons, List.length_nil]; omega) | (refine congrArg Value.string ?_; simp [textC, *]; done) | (refine congrArg Value.string ?_; rw [word_at (by omega) (by omega)]; (try subst ‹k0 = _›); simp_all [textC]; done) | (refine congrArg Value.string ?_; rw [word_at (by omega) (by omega)]; have h56 : k0 = 5 ∨ k0 = 6 := (by omega); rcases h56 with rfl | rfl <;> simp [textC]; done) | (refine congrArg Value.string ?_; unfold textC; rw [if_pos (by dsimp only; omega)]; done) | trace_state
  · cases h

end Go.Proofs.YtakcacejpbiogaaDoor
