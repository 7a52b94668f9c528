/- What the rest of the layer of spans computes. No condition. -/
import Derived.Test.YtbfinmfdcbghfaaGreatSpan
namespace Go.Proofs.YtbfinmfdcbghfaaGreat
set_option linter.all false
open Go.Sx

def rI (n : Int) : Prop := -9223372036854775808 ≤ n ∧ n < 9223372036854775808
theorem wrap64' {n : Int} (h0 : -9223372036854775808 ≤ n) (h1 : n < 9223372036854775808) : IntKind.wrap .i64 n = n := wI_id n h0 h1
def gI : List DV → Int
  | [.v (.int .i64 n)] => n
  | _ => 0
def gL (n : Nat) (f : Nat → List DV) : List Int := (List.range n).map fun i => gI (f i)

def under (l : List Int) (n : Int) : Int := l.foldl (fun b r => if r ≤ n ∧ b < r then r else b) (-9223372036854775808)
def over (l : List Int) (n : Int) : Int := l.foldl (fun b r => if n ≤ r ∧ r < b then r else b) 9223372036854775807

theorem gL_add (i : Nat) (f : Nat → List DV) : gL (i + 1) f = gL i f ++ [gI (f i)] := by simp [gL, List.range_succ]
theorem gL_canon (n : Nat) (f : Nat → List DV) : (gL n fun i => [it (gI (f i))]) = gL n f := rfl
theorem gL_zero (f : Nat → List DV) : gL 0 f = [] := rfl
theorem under_add (i : Nat) (f : Nat → List DV) (n : Int) : under (gL (i + 1) f) n = if gI (f i) ≤ n ∧ under (gL i f) n < gI (f i) then gI (f i) else under (gL i f) n := by simp only [under, gL_add, List.foldl_append, List.foldl_cons, List.foldl_nil]; grind
theorem over_add (i : Nat) (f : Nat → List DV) (n : Int) : over (gL (i + 1) f) n = if n ≤ gI (f i) ∧ gI (f i) < over (gL i f) n then gI (f i) else over (gL i f) n := by simp only [over, gL_add, List.foldl_append, List.foldl_cons, List.foldl_nil]; grind

theorem under_le (l : List Int) (n : Int) (h : -9223372036854775808 ≤ n) : under l n ≤ n := by
  have : ∀ (l : List Int) (b : Int), b ≤ n → l.foldl (fun b r => if r ≤ n ∧ b < r then r else b) b ≤ n := by
    intro l
    induction l with
    | nil => intro b hb; exact hb
    | cons x l ih => intro b hb; simp only [List.foldl_cons]; exact ih _ (by split <;> omega)
  exact this l _ h
theorem over_ge (l : List Int) (n : Int) (h : n ≤ 9223372036854775807) : n ≤ over l n := by
  have : ∀ (l : List Int) (b : Int), n ≤ b → n ≤ l.foldl (fun b r => if n ≤ r ∧ r < b then r else b) b := by
    intro l
    induction l with
    | nil => intro b hb; exact hb
    | cons x l ih => intro b hb; simp only [List.foldl_cons]; exact ih _ (by split <;> omega)
  exact this l _ h

theorem under_r {l : List Int} {n : Int} (h : ∀ x, x ∈ l → rI x) : rI (under l n) := by
  have : ∀ (l : List Int) (b : Int), (∀ x, x ∈ l → rI x) → rI b → rI (l.foldl (fun b r => if r ≤ n ∧ b < r then r else b) b) := by
    intro l
    induction l with
    | nil => intro b _ hb; exact hb
    | cons x l ih => intro b h hb; simp only [List.foldl_cons]; exact ih _ (fun y hy => h y (by simp [hy])) (by split; exact h x (by simp); exact hb)
  exact this l _ h (by unfold rI; omega)
theorem over_r {l : List Int} {n : Int} (h : ∀ x, x ∈ l → rI x) : rI (over l n) := by
  have : ∀ (l : List Int) (b : Int), (∀ x, x ∈ l → rI x) → rI b → rI (l.foldl (fun b r => if n ≤ r ∧ r < b then r else b) b) := by
    intro l
    induction l with
    | nil => intro b _ hb; exact hb
    | cons x l ih => intro b h hb; simp only [List.foldl_cons]; exact ih _ (fun y hy => h y (by simp [hy])) (by split; exact h x (by simp); exact hb)
  exact this l _ h (by unfold rI; omega)
theorem gL_r {n : Nat} {f : Nat → List DV} (h : ∀ i, i < n → f i = [it (gI (f i))] ∧ rI (gI (f i))) (x : Int) (hx : x ∈ gL n f) : rI x := by
  unfold gL at hx
  obtain ⟨i, hi, rfl⟩ := List.mem_map.1 hx
  exact (h i (by simpa using hi)).2
namespace Sp
def widen (a b : Sp) (l : List Int) : Sp := if a.none then b.clean else if leq b a then a else ⟨a.some, if b.lo < a.lo then under l b.lo else a.lo, if b.hi > a.hi then over l b.hi else a.hi⟩
theorem clean_inR' {a : Sp} (h : a.inR) : a.clean.inR := clean_inR h
theorem of_inR {l h : Int} (h0 : rI l) (h1 : rI h) : (of l h).inR := by unfold of; split; unfold inR; decide; exact ⟨h0, h1⟩
theorem join_inR {a b : Sp} (ha : a.inR) (hb : b.inR) : (join a b).inR := by
  unfold join; split
  · exact clean_inR hb
  · split
    · exact ha
    · unfold inR at ha hb; exact of_inR (by unfold rI; omega) (by unfold rI; omega)
theorem meet_inR {a b : Sp} (ha : a.inR) (hb : b.inR) : (meet a b).inR := by
  unfold meet; split
  · unfold inR; decide
  · unfold inR at ha hb; exact of_inR (by unfold rI; omega) (by unfold rI; omega)
theorem narrow_inR {a b : Sp} (ha : a.inR) (hb : b.inR) : (narrow a b).inR := by
  unfold narrow; split
  · exact clean_inR ha
  · split
    · unfold inR; decide
    · unfold inR at *; dsimp only; constructor <;> split <;> omega
theorem widen_inR {a b : Sp} {l : List Int} (ha : a.inR) (hb : b.inR) (h : ∀ x, x ∈ l → rI x) : (widen a b l).inR := by
  have h1 := under_r (n := b.lo) h
  have h2 := over_r (n := b.hi) h
  unfold widen; split
  · exact clean_inR hb
  · split
    · exact ha
    · unfold inR at *; unfold rI at *; dsimp only; constructor <;> split <;> omega
end Sp

def FSJoin : List Ar → Option Rs
  | [.agg [.d (.v (.bool s0)), .d (.v (.int .i64 l0)), .d (.v (.int .i64 h0))], .agg [.d (.v (.bool s1)), .d (.v (.int .i64 l1)), .d (.v (.int .i64 h1))]] => some ⟨(Sp.inR ⟨s0, l0, h0⟩) ∧ (Sp.inR ⟨s1, l1, h1⟩), .va (Sp.ar (Sp.join (⟨s0, l0, h0⟩ : Sp) (⟨s1, l1, h1⟩ : Sp))), []⟩
  | _ => none
set_option maxHeartbeats 2000000 in
set_option maxRecDepth 100000 in
theorem fcSJoin : FC Tryz.prog 39 FSJoin := by
  intro xs pre r us h hp
  unfold FSJoin at h
  split at h
  · rename_i s0 l0 h0 s1 l1 h1
    cases h
    obtain ⟨hp0, hp1⟩ := hp
    refine fcat tys_ok (l := [(58, ⟨[], FSNone⟩), (59, ⟨[], FSClean⟩), (82, ⟨[], FSOf⟩)]) ⟨fcSNone, fcSClean, fcSOf, trivial⟩ Tryz.func39 rfl (by kernel_rfl) false ?_
    repeat' (first | exact trivial | refine ⟨?_, ?_⟩ | intro _)
    all_goals first | (with_reducible show (_ : Int) ≤ _) | (with_reducible show (_ : Int) < _) | (with_reducible show (_ : Nat) ≤ _) | (with_reducible show (_ : Nat) < _) | (conv => whnf)
    all_goals grind [Sp.join, Sp.clean, Sp.none, Sp.of, Sp.inR]
  · cases h
def FSMeet : List Ar → Option Rs
  | [.agg [.d (.v (.bool s0)), .d (.v (.int .i64 l0)), .d (.v (.int .i64 h0))], .agg [.d (.v (.bool s1)), .d (.v (.int .i64 l1)), .d (.v (.int .i64 h1))]] => some ⟨(Sp.inR ⟨s0, l0, h0⟩) ∧ (Sp.inR ⟨s1, l1, h1⟩), .va (Sp.ar (Sp.meet (⟨s0, l0, h0⟩ : Sp) (⟨s1, l1, h1⟩ : Sp))), []⟩
  | _ => none
set_option maxHeartbeats 2000000 in
set_option maxRecDepth 100000 in
theorem fcSMeet : FC Tryz.prog 41 FSMeet := by
  intro xs pre r us h hp
  unfold FSMeet at h
  split at h
  · rename_i s0 l0 h0 s1 l1 h1
    cases h
    obtain ⟨hp0, hp1⟩ := hp
    refine fcat tys_ok (l := [(58, ⟨[], FSNone⟩), (82, ⟨[], FSOf⟩)]) ⟨fcSNone, fcSOf, trivial⟩ Tryz.func41 rfl (by kernel_rfl) false ?_
    repeat' (first | exact trivial | refine ⟨?_, ?_⟩ | intro _)
    all_goals first | (with_reducible show (_ : Int) ≤ _) | (with_reducible show (_ : Int) < _) | (with_reducible show (_ : Nat) ≤ _) | (with_reducible show (_ : Nat) < _) | (conv => whnf)
    all_goals grind [Sp.meet, Sp.none, Sp.of, Sp.inR]
  · cases h
def FRSLeq : List Ar → Option Rs
  | [.agg [.d (.v (.bool s0)), .d (.v (.int .i64 l0)), .d (.v (.int .i64 h0))], .agg [.d (.v (.bool s1)), .d (.v (.int .i64 l1)), .d (.v (.int .i64 h1))]] => some ⟨(Sp.inR ⟨s0, l0, h0⟩) ∧ (Sp.inR ⟨s1, l1, h1⟩), .va (.c (.d (bo (Sp.leq (⟨s0, l0, h0⟩ : Sp) (⟨s1, l1, h1⟩ : Sp))))), []⟩
  | _ => none
set_option maxHeartbeats 2000000 in
set_option maxRecDepth 100000 in
theorem fcRSLeq : FC Tryz.prog 75 FRSLeq := by
  intro xs pre r us h hp
  unfold FRSLeq at h
  split at h
  · rename_i s0 l0 h0 s1 l1 h1
    cases h
    obtain ⟨hp0, hp1⟩ := hp
    refine fcat tys_ok (l := [(74, ⟨[], FRSNone0⟩)]) ⟨fcRSNone0, trivial⟩ Tryz.func75 rfl (by kernel_rfl) false ?_
    repeat' (first | exact trivial | refine ⟨?_, ?_⟩ | intro _)
    all_goals first | (with_reducible show (_ : Int) ≤ _) | (with_reducible show (_ : Int) < _) | (with_reducible show (_ : Nat) ≤ _) | (with_reducible show (_ : Nat) < _) | (conv => whnf)
    all_goals grind [Sp.leq, Sp.none, Sp.has, Sp.inR]
  · cases h
def FSNarrow : List Ar → Option Rs
  | [.agg [.d (.v (.bool s0)), .d (.v (.int .i64 l0)), .d (.v (.int .i64 h0))], .agg [.d (.v (.bool s1)), .d (.v (.int .i64 l1)), .d (.v (.int .i64 h1))]] => some ⟨(Sp.inR ⟨s0, l0, h0⟩) ∧ (Sp.inR ⟨s1, l1, h1⟩), .va (Sp.ar (Sp.narrow (⟨s0, l0, h0⟩ : Sp) (⟨s1, l1, h1⟩ : Sp))), []⟩
  | _ => none
set_option maxHeartbeats 2000000 in
set_option maxRecDepth 100000 in
theorem fcSNarrow : FC Tryz.prog 32 FSNarrow := by
  intro xs pre r us h hp
  unfold FSNarrow at h
  split at h
  · rename_i s0 l0 h0 s1 l1 h1
    cases h
    obtain ⟨hp0, hp1⟩ := hp
    refine fcat tys_ok (l := [(60, ⟨[], FSLeq⟩), (59, ⟨[], FSClean⟩), (58, ⟨[], FSNone⟩)]) ⟨fcSLeq, fcSClean, fcSNone, trivial⟩ Tryz.func32 rfl (by kernel_rfl) false ?_
    repeat' (first | exact trivial | refine ⟨?_, ?_⟩ | intro _)
    all_goals first | (with_reducible show (_ : Int) ≤ _) | (with_reducible show (_ : Int) < _) | (with_reducible show (_ : Nat) ≤ _) | (with_reducible show (_ : Nat) < _) | (conv => whnf)
    all_goals grind [Sp.narrow, Sp.clean, Sp.none, Sp.leq, Sp.has, Sp.inR]
  · cases h
def FRSNarrow : List Ar → Option Rs
  | [.agg [.d (.v (.bool s0)), .d (.v (.int .i64 l0)), .d (.v (.int .i64 h0))], .agg [.d (.v (.bool s1)), .d (.v (.int .i64 l1)), .d (.v (.int .i64 h1))]] => some ⟨(Sp.inR ⟨s0, l0, h0⟩) ∧ (Sp.inR ⟨s1, l1, h1⟩), .va (Sp.ar (Sp.narrow (⟨s0, l0, h0⟩ : Sp) (⟨s1, l1, h1⟩ : Sp))), []⟩
  | _ => none
set_option maxHeartbeats 2000000 in
set_option maxRecDepth 100000 in
theorem fcRSNarrow : FC Tryz.prog 37 FRSNarrow := by
  intro xs pre r us h hp
  unfold FRSNarrow at h
  split at h
  · rename_i s0 l0 h0 s1 l1 h1
    cases h
    obtain ⟨hp0, hp1⟩ := hp
    refine fcat tys_ok (l := [(74, ⟨[], FRSNone0⟩), (75, ⟨[], FRSLeq⟩), (76, ⟨[], FSMake⟩)]) ⟨fcRSNone0, fcRSLeq, fcSMake, trivial⟩ Tryz.func37 rfl (by kernel_rfl) false ?_
    repeat' (first | exact trivial | refine ⟨?_, ?_⟩ | intro _)
    all_goals first | (with_reducible show (_ : Int) ≤ _) | (with_reducible show (_ : Int) < _) | (with_reducible show (_ : Nat) ≤ _) | (with_reducible show (_ : Nat) < _) | (conv => whnf)
    all_goals grind [Sp.narrow, Sp.clean, Sp.leq, Sp.has, Sp.none, Sp.of, Sp.inR]
  · cases h
def FSOver : List Ar → Option Rs
  | [.c (.d (.lst 1 n0 f0)), .c (.d (.v (.int .i64 i1)))] => some ⟨(n0 ≤ 9223372036854775807 ∧ ∀ i, i < n0 → f0 i = [it (gI (f0 i))] ∧ rI (gI (f0 i))) ∧ (-9223372036854775808 ≤ i1 ∧ i1 < 9223372036854775808), .va (.c (.d (it (over (gL n0 f0) i1)))), []⟩
  | _ => none
set_option maxHeartbeats 2000000 in
set_option maxRecDepth 100000 in
theorem fcSOver : FC Tryz.prog 62 FSOver := by
  intro xs pre r us h hp
  unfold FSOver at h
  split at h
  · rename_i n0 f0 i1
    cases h
    obtain ⟨hp0, hp1⟩ := hp
    refine FCat.of_eq (as' := [.c (.d (.lst 1 n0 fun i => [it (gI (f0 i))])), .c (.d (.v (.int .i64 i1)))]) ?_ rfl rfl ?_
    · repeat' (first | exact trivial | exact rfl | refine ⟨?_, ?_⟩ | fail)
      all_goals first | exact hp0.2 | exact hp1.2 | exact hp2.2 | (intro i hi; exact (hp0.2 i hi).1) | (intro i hi; exact (hp1.2 i hi).1) | (intro i hi; exact (hp2.2 i hi).1) | grind
    refine fcat tys_ok (l := []) trivial Tryz.func62 rfl (by kernel_rfl) false ?_
    repeat' (first | exact trivial | refine ⟨?_, ?_⟩ | intro _)
    all_goals first | (with_reducible show (_ : Int) ≤ _) | (with_reducible show (_ : Int) < _) | (with_reducible show (_ : Nat) ≤ _) | (with_reducible show (_ : Nat) < _) | (conv => whnf)
    refine loop_ok tys_ok (l := []) trivial (by kernel_rfl) (X := Nat × Int)
      (fun | (i, b) => ⟨[(10, vx (.int .i64 i)), (9, vx (.int .i64 n0)), (5, vx (.int .i64 b)), (0, .va (.c (.d (.lst 1 n0 fun i => [it (gI (f0 i))])))), (1, vx (.int .i64 i1))], [], 0, 28⟩)
      (fun | (i, _) => n0 - i) (fun | (i, b) => i ≤ n0 ∧ b = over (gL i f0) i1) [5] [] (fun | (i, _), [b], _ => (i + 1, iT b) | x, _, _ => x) [] [] 0 0 (0, 9223372036854775807) ⟨Nat.zero_le _, rfl⟩ ?_ ?_
    · repeat' (first | exact trivial | exact rfl | (intro _ _; exact rfl) | refine ⟨?_, ?_⟩)
    · rintro ⟨i, b⟩ ⟨h1, h2⟩
      repeat' (first | exact trivial | refine ⟨?_, ?_⟩ | intro _)
      all_goals first | (with_reducible show (_ : Int) ≤ _) | (with_reducible show (_ : Int) < _) | (with_reducible show (_ : Nat) ≤ _) | (with_reducible show (_ : Nat) < _) | (conv => whnf)
      all_goals (try simp only [iT, Int.toNat_natCast] at *)
      all_goals first | rfl | (intro _ _; rfl) | grind [over_add, wrap64]
  · cases h
def FSUnder : List Ar → Option Rs
  | [.c (.d (.lst 1 n0 f0)), .c (.d (.v (.int .i64 i1)))] => some ⟨(n0 ≤ 9223372036854775807 ∧ ∀ i, i < n0 → f0 i = [it (gI (f0 i))] ∧ rI (gI (f0 i))) ∧ (-9223372036854775808 ≤ i1 ∧ i1 < 9223372036854775808), .va (.c (.d (it (under (gL n0 f0) i1)))), []⟩
  | _ => none
set_option maxHeartbeats 2000000 in
set_option maxRecDepth 100000 in
theorem fcSUnder : FC Tryz.prog 61 FSUnder := by
  intro xs pre r us h hp
  unfold FSUnder at h
  split at h
  · rename_i n0 f0 i1
    cases h
    obtain ⟨hp0, hp1⟩ := hp
    refine FCat.of_eq (as' := [.c (.d (.lst 1 n0 fun i => [it (gI (f0 i))])), .c (.d (.v (.int .i64 i1)))]) ?_ rfl rfl ?_
    · repeat' (first | exact trivial | exact rfl | refine ⟨?_, ?_⟩ | fail)
      all_goals first | exact hp0.2 | exact hp1.2 | exact hp2.2 | (intro i hi; exact (hp0.2 i hi).1) | (intro i hi; exact (hp1.2 i hi).1) | (intro i hi; exact (hp2.2 i hi).1) | grind
    refine fcat tys_ok (l := []) trivial Tryz.func61 rfl (by kernel_rfl) false ?_
    repeat' (first | exact trivial | refine ⟨?_, ?_⟩ | intro _)
    all_goals first | (with_reducible show (_ : Int) ≤ _) | (with_reducible show (_ : Int) < _) | (with_reducible show (_ : Nat) ≤ _) | (with_reducible show (_ : Nat) < _) | (conv => whnf)
    refine loop_ok tys_ok (l := []) trivial (by kernel_rfl) (X := Nat × Int)
      (fun | (i, b) => ⟨[(10, vx (.int .i64 i)), (9, vx (.int .i64 n0)), (5, vx (.int .i64 b)), (0, .va (.c (.d (.lst 1 n0 fun i => [it (gI (f0 i))])))), (1, vx (.int .i64 i1))], [], 0, 28⟩)
      (fun | (i, _) => n0 - i) (fun | (i, b) => i ≤ n0 ∧ b = under (gL i f0) i1) [5] [] (fun | (i, _), [b], _ => (i + 1, iT b) | x, _, _ => x) [] [] 0 0 (0, -9223372036854775808) ⟨Nat.zero_le _, rfl⟩ ?_ ?_
    · repeat' (first | exact trivial | exact rfl | (intro _ _; exact rfl) | refine ⟨?_, ?_⟩)
    · rintro ⟨i, b⟩ ⟨h1, h2⟩
      repeat' (first | exact trivial | refine ⟨?_, ?_⟩ | intro _)
      all_goals first | (with_reducible show (_ : Int) ≤ _) | (with_reducible show (_ : Int) < _) | (with_reducible show (_ : Nat) ≤ _) | (with_reducible show (_ : Nat) < _) | (conv => whnf)
      all_goals (try simp only [iT, Int.toNat_natCast] at *)
      all_goals first | rfl | (intro _ _; rfl) | grind [under_add, wrap64]
  · cases h
def FSWiden : List Ar → Option Rs
  | [.agg [.d (.v (.bool s0)), .d (.v (.int .i64 l0)), .d (.v (.int .i64 h0))], .agg [.d (.v (.bool s1)), .d (.v (.int .i64 l1)), .d (.v (.int .i64 h1))], .c (.d (.lst 1 n2 f2))] => some ⟨(Sp.inR ⟨s0, l0, h0⟩) ∧ (Sp.inR ⟨s1, l1, h1⟩) ∧ (n2 ≤ 9223372036854775807 ∧ ∀ i, i < n2 → f2 i = [it (gI (f2 i))] ∧ rI (gI (f2 i))), .va (Sp.ar (Sp.widen (⟨s0, l0, h0⟩ : Sp) (⟨s1, l1, h1⟩ : Sp) (gL n2 f2))), []⟩
  | _ => none
set_option maxHeartbeats 2000000 in
set_option maxRecDepth 100000 in
theorem fcSWiden : FC Tryz.prog 24 FSWiden := by
  intro xs pre r us h hp
  unfold FSWiden at h
  split at h
  · rename_i s0 l0 h0 s1 l1 h1 n2 f2
    cases h
    obtain ⟨hp0, hp1, hp2⟩ := hp
    refine FCat.of_eq (as' := [.agg [.d (.v (.bool s0)), .d (.v (.int .i64 l0)), .d (.v (.int .i64 h0))], .agg [.d (.v (.bool s1)), .d (.v (.int .i64 l1)), .d (.v (.int .i64 h1))], .c (.d (.lst 1 n2 fun i => [it (gI (f2 i))]))]) ?_ rfl rfl ?_
    · repeat' (first | exact trivial | exact rfl | refine ⟨?_, ?_⟩ | fail)
      all_goals first | exact hp0.2 | exact hp1.2 | exact hp2.2 | (intro i hi; exact (hp0.2 i hi).1) | (intro i hi; exact (hp1.2 i hi).1) | (intro i hi; exact (hp2.2 i hi).1) | grind
    refine fcat tys_ok (l := [(58, ⟨[], FSNone⟩), (59, ⟨[], FSClean⟩), (60, ⟨[], FSLeq⟩), (61, ⟨[], FSUnder⟩), (62, ⟨[], FSOver⟩)]) ⟨fcSNone, fcSClean, fcSLeq, fcSUnder, fcSOver, trivial⟩ Tryz.func24 rfl (by kernel_rfl) false ?_
    obtain ⟨⟨a1, a2⟩, a3, a4⟩ := hp0
    obtain ⟨⟨c1, c2⟩, c3, c4⟩ := hp1
    repeat' (first | exact trivial | (with_reducible exact a1) | (with_reducible exact a2) | (with_reducible exact a3) | (with_reducible exact a4) | (with_reducible exact c1) | (with_reducible exact c2) | (with_reducible exact c3) | (with_reducible exact c4) | (with_reducible exact hp2.1) | refine ⟨?_, ?_⟩ | intro _)
    all_goals first | (with_reducible show (_ : Int) ≤ _) | (with_reducible show (_ : Int) < _) | (with_reducible show (_ : Nat) ≤ _) | (with_reducible show (_ : Nat) < _) | (conv => whnf)
    all_goals (try simp only [gL_canon] at *)
    all_goals first | rfl | (with_reducible assumption) | (exact (hp2.2 _ ‹_›).2.1) | (exact (hp2.2 _ ‹_›).2.2) | (exact hp2.1) | grind [Sp.widen, Sp.clean, Sp.none, Sp.leq, Sp.has] | trace_state
  · cases h
theorem gL_r' {n i : Nat} {f : Nat → List DV} (h : ∀ i, i < n → f i = [it (gI (f i))] ∧ rI (gI (f i))) (hi : i ≤ n) (x : Int) (hx : x ∈ gL i f) : rI x := gL_r (fun j hj => h j (by omega)) x hx

def FRSWiden : List Ar → Option Rs
  | [.agg [.d (.v (.bool s0)), .d (.v (.int .i64 l0)), .d (.v (.int .i64 h0))], .agg [.d (.v (.bool s1)), .d (.v (.int .i64 l1)), .d (.v (.int .i64 h1))], .c (.d (.lst 1 n2 f2))] => some ⟨(Sp.inR ⟨s0, l0, h0⟩) ∧ (Sp.inR ⟨s1, l1, h1⟩) ∧ (n2 ≤ 9223372036854775807 ∧ ∀ i, i < n2 → f2 i = [it (gI (f2 i))] ∧ rI (gI (f2 i))), .va (Sp.ar (Sp.widen (⟨s0, l0, h0⟩ : Sp) (⟨s1, l1, h1⟩ : Sp) (gL n2 f2))), []⟩
  | _ => none
set_option maxHeartbeats 2000000 in
set_option maxRecDepth 100000 in
theorem fcRSWiden : FC Tryz.prog 30 FRSWiden := by
  intro xs pre r us h hp
  unfold FRSWiden at h
  split at h
  · rename_i s0 l0 h0 s1 l1 h1 n2 f2
    cases h
    obtain ⟨hp0, hp1, hp2⟩ := hp
    refine FCat.of_eq (as' := [.agg [.d (.v (.bool s0)), .d (.v (.int .i64 l0)), .d (.v (.int .i64 h0))], .agg [.d (.v (.bool s1)), .d (.v (.int .i64 l1)), .d (.v (.int .i64 h1))], .c (.d (.lst 1 n2 fun i => [it (gI (f2 i))]))]) ?_ rfl rfl ?_
    · repeat' (first | exact trivial | exact rfl | refine ⟨?_, ?_⟩ | fail)
      all_goals first | exact hp0.2 | exact hp1.2 | exact hp2.2 | (intro i hi; exact (hp0.2 i hi).1) | (intro i hi; exact (hp1.2 i hi).1) | (intro i hi; exact (hp2.2 i hi).1) | grind
    refine fcat tys_ok (l := [(74, ⟨[], FRSNone0⟩), (75, ⟨[], FRSLeq⟩), (76, ⟨[], FSMake⟩)]) ⟨fcRSNone0, fcRSLeq, fcSMake, trivial⟩ Tryz.func30 rfl (by kernel_rfl) false ?_
    obtain ⟨⟨a1, a2⟩, a3, a4⟩ := hp0
    obtain ⟨⟨c1, c2⟩, c3, c4⟩ := hp1
    dsimp only at a1 a2 a3 a4 c1 c2 c3 c4
    have hpre : -9223372036854775808 ≤ l1 ∧ h1 ≤ 9223372036854775807 := ⟨by omega, by omega⟩
    have hgr : ∀ i, i ≤ n2 → ∀ x, x ∈ gL i f2 → rI x := fun i hi x hx => gL_r' hp2.2 hi x hx
    repeat' (first | exact trivial | refine ⟨?_, ?_⟩ | intro _)
    all_goals first | (with_reducible show (_ : Int) ≤ _) | (with_reducible show (_ : Int) < _) | (with_reducible show (_ : Nat) ≤ _) | (with_reducible show (_ : Nat) < _) | (conv => whnf)
    all_goals first | (with_reducible show ASat _ _ _ _ _; skip) | rfl | (intro _ _; rfl) | grind (splits := 30) [Sp.widen, Sp.leq, Sp.none, Sp.has, Sp.of, Sp.clean, under_add, over_add, wrap64, gL_canon]
    · refine loop_ok tys_ok (l := [(74, ⟨[], FRSNone0⟩), (75, ⟨[], FRSLeq⟩), (76, ⟨[], FSMake⟩)]) ⟨fcRSNone0, fcRSLeq, fcSMake, trivial⟩ (by kernel_rfl) (X := Nat × Int)
        (fun | (i, b) => ⟨[(9, vx (.int .i64 i)), (7, vx (.int .i64 b)), (8, vx (.int .i64 h0)), (2, .va (.c (.d (.lst 1 n2 fun i => [it (gI (f2 i))])))), (3, .va (.c (.own 0 0))), (4, .va (.c (.own 1 0))), (6, .va (.c (.own 2 0)))], [(0, .cells [.d (bo s0), .d (it l0), .d (it h0)]), (1, .cells [.d (bo s1), .d (it l1), .d (it h1)]), (2, .cells [.d (bo false), .d (it 0), .d (it 0)])], 3, 86⟩)
        (fun | (i, _) => n2 - i) (fun | (i, b) => i ≤ n2 ∧ b = under (gL i f2) l1) [7] [] (fun | (i, _), [b], _ => (i + 1, iT b) | x, _, _ => x) [0, 1, 2] [0, 1, 2] 0 0 (0, -9223372036854775808) ⟨Nat.zero_le _, rfl⟩ ?_ ?_
      · repeat' (first | exact trivial | exact rfl | (intro _ _; exact rfl) | refine ⟨?_, ?_⟩)
      · rintro ⟨i, u⟩ ⟨h1', h2'⟩
        have q1 := under_le (gL i f2) l1 hpre.1
        have qr := under_r (l := gL i f2) (n := l1) (fun x hx => hgr i (by omega) x hx)
        unfold rI at qr
        have q2 : ¬ i < n2 → i = n2 := by omega
        repeat' (first | exact trivial | refine ⟨?_, ?_⟩ | intro _)
        all_goals first | (with_reducible show (_ : Int) ≤ _) | (with_reducible show (_ : Int) < _) | (with_reducible show (_ : Nat) ≤ _) | (with_reducible show (_ : Nat) < _) | (conv => whnf)
        all_goals (try simp only [iT, Int.toNat_natCast] at *)
        all_goals first | (with_reducible show ASat _ _ _ _ _; skip) | rfl | (intro _ _; rfl) | grind (splits := 30) [Sp.widen, Sp.leq, Sp.none, Sp.has, Sp.of, Sp.clean, under_add, over_add, wrap64, gL_canon]
        · refine loop_ok tys_ok (l := [(74, ⟨[], FRSNone0⟩), (75, ⟨[], FRSLeq⟩), (76, ⟨[], FSMake⟩)]) ⟨fcRSNone0, fcRSLeq, fcSMake, trivial⟩ (by kernel_rfl) (X := Nat × Int)
            (fun | (i, b) => ⟨[(10, vx (.int .i64 i)), (7, vx (.int .i64 u)), (8, vx (.int .i64 b)), (2, .va (.c (.d (.lst 1 n2 fun i => [it (gI (f2 i))])))), (3, .va (.c (.own 0 0))), (4, .va (.c (.own 1 0))), (6, .va (.c (.own 2 0)))], [(0, .cells [.d (bo s0), .d (it l0), .d (it h0)]), (1, .cells [.d (bo s1), .d (it l1), .d (it h1)]), (2, .cells [.d (bo false), .d (it 0), .d (it 0)])], 3, 86⟩)
            (fun | (i, _) => n2 - i) (fun | (i, b) => i ≤ n2 ∧ b = over (gL i f2) h1) [8] [] (fun | (i, _), [b], _ => (i + 1, iT b) | x, _, _ => x) [0, 1, 2] [0, 1, 2] 0 0 (0, 9223372036854775807) ⟨Nat.zero_le _, rfl⟩ ?_ ?_
          · repeat' (first | exact trivial | exact rfl | (intro _ _; exact rfl) | refine ⟨?_, ?_⟩)
          · rintro ⟨i, b⟩ ⟨k1, k2⟩
            have q3 := over_ge (gL i f2) h1 hpre.2
            have qs := over_r (l := gL i f2) (n := h1) (fun x hx => hgr i (by omega) x hx)
            unfold rI at qs
            have q4 : ¬ i < n2 → i = n2 := by omega
            have q5 := under_le (gL n2 f2) l1 hpre.1
            repeat' (first | exact trivial | refine ⟨?_, ?_⟩ | intro _)
            all_goals first | (with_reducible show (_ : Int) ≤ _) | (with_reducible show (_ : Int) < _) | (with_reducible show (_ : Nat) ≤ _) | (with_reducible show (_ : Nat) < _) | (conv => whnf)
            all_goals (try simp only [iT, Int.toNat_natCast] at *)
            all_goals first | (with_reducible show ASat _ _ _ _ _; skip) | rfl | (intro _ _; rfl) | grind (splits := 30) [Sp.widen, Sp.leq, Sp.none, Sp.has, Sp.of, Sp.clean, under_add, over_add, wrap64, gL_canon]
    · refine loop_ok tys_ok (l := [(74, ⟨[], FRSNone0⟩), (75, ⟨[], FRSLeq⟩), (76, ⟨[], FSMake⟩)]) ⟨fcRSNone0, fcRSLeq, fcSMake, trivial⟩ (by kernel_rfl) (X := Nat × Int)
        (fun | (i, b) => ⟨[(10, vx (.int .i64 i)), (7, vx (.int .i64 l0)), (8, vx (.int .i64 b)), (2, .va (.c (.d (.lst 1 n2 fun i => [it (gI (f2 i))])))), (3, .va (.c (.own 0 0))), (4, .va (.c (.own 1 0))), (6, .va (.c (.own 2 0)))], [(0, .cells [.d (bo s0), .d (it l0), .d (it h0)]), (1, .cells [.d (bo s1), .d (it l1), .d (it h1)]), (2, .cells [.d (bo false), .d (it 0), .d (it 0)])], 3, 86⟩)
        (fun | (i, _) => n2 - i) (fun | (i, b) => i ≤ n2 ∧ b = over (gL i f2) h1) [8] [] (fun | (i, _), [b], _ => (i + 1, iT b) | x, _, _ => x) [0, 1, 2] [0, 1, 2] 0 0 (0, 9223372036854775807) ⟨Nat.zero_le _, rfl⟩ ?_ ?_
      · repeat' (first | exact trivial | exact rfl | (intro _ _; exact rfl) | refine ⟨?_, ?_⟩)
      · rintro ⟨i, b⟩ ⟨k1, k2⟩
        have q3 := over_ge (gL i f2) h1 hpre.2
        have qs := over_r (l := gL i f2) (n := h1) (fun x hx => hgr i (by omega) x hx)
        unfold rI at qs
        have q4 : ¬ i < n2 → i = n2 := by omega
        have q5 := under_le (gL n2 f2) l1 hpre.1
        repeat' (first | exact trivial | refine ⟨?_, ?_⟩ | intro _)
        all_goals first | (with_reducible show (_ : Int) ≤ _) | (with_reducible show (_ : Int) < _) | (with_reducible show (_ : Nat) ≤ _) | (with_reducible show (_ : Nat) < _) | (conv => whnf)
        all_goals (try simp only [iT, Int.toNat_natCast] at *)
        all_goals first | (with_reducible show ASat _ _ _ _ _; skip) | rfl | (intro _ _; rfl) | grind (splits := 30) [Sp.widen, Sp.leq, Sp.none, Sp.has, Sp.of, Sp.clean, under_add, over_add, wrap64, gL_canon]
  · cases h

end Go.Proofs.YtbfinmfdcbghfaaGreat
