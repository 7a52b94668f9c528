/- What the rest of the layer of spans computes. No condition. -/
import Derived.Test.YtbfinmfdcbghfaaSpan
namespace Go.Proofs.Ytbfinmfdcbghfaa
set_option linter.all false
open Go.Sx

def rI (n : Int) : Prop := -9223372036854775808 ≤ n ∧ n < 9223372036854775808
theorem wrap64' {n : Int} (h0 : -9223372036854775808 ≤ n) (h1 : n < 9223372036854775808) : IntKind.wrap .i64 n = n := wI_id n h0 h1
def gI : List DV → Int
  | [.v (.int .i64 n)] => n
  | _ => 0
def gL (n : Nat) (f : Nat → List DV) : List Int := (List.range n).map fun i => gI (f i)

def under (l : List Int) (n : Int) : Int := l.foldl (fun b r => if r ≤ n ∧ b < r then r else b) (-9223372036854775808)
def over (l : List Int) (n : Int) : Int := l.foldl (fun b r => if n ≤ r ∧ r < b then r else b) 9223372036854775807

theorem gL_add (i : Nat) (f : Nat → List DV) : gL (i + 1) f = gL i f ++ [gI (f i)] := by simp [gL, List.range_succ]
theorem gL_canon (n : Nat) (f : Nat → List DV) : (gL n fun i => [it (gI (f i))]) = gL n f := rfl
theorem gL_zero (f : Nat → List DV) : gL 0 f = [] := rfl
theorem under_add (i : Nat) (f : Nat → List DV) (n : Int) : under (gL (i + 1) f) n = if gI (f i) ≤ n ∧ under (gL i f) n < gI (f i) then gI (f i) else under (gL i f) n := by simp only [under, gL_add, List.foldl_append, List.foldl_cons, List.foldl_nil]; grind
theorem over_add (i : Nat) (f : Nat → List DV) (n : Int) : over (gL (i + 1) f) n = if n ≤ gI (f i) ∧ gI (f i) < over (gL i f) n then gI (f i) else over (gL i f) n := by simp only [over, gL_add, List.foldl_append, List.foldl_cons, List.foldl_nil]; grind

theorem under_le (l : List Int) (n : Int) (h : -9223372036854775808 ≤ n) : under l n ≤ n := by
  have : ∀ (l : List Int) (b : Int), b ≤ n → l.foldl (fun b r => if r ≤ n ∧ b < r then r else b) b ≤ n := by
    intro l
    induction l with
    | nil => intro b hb; exact hb
    | cons x l ih => intro b hb; simp only [List.foldl_cons]; exact ih _ (by split <;> omega)
  exact this l _ h
theorem over_ge (l : List Int) (n : Int) (h : n ≤ 9223372036854775807) : n ≤ over l n := by
  have : ∀ (l : List Int) (b : Int), n ≤ b → n ≤ l.foldl (fun b r => if n ≤ r ∧ r < b then r else b) b := by
    intro l
    induction l with
    | nil => intro b hb; exact hb
    | cons x l ih => intro b hb; simp only [List.foldl_cons]; exact ih _ (by split <;> omega)
  exact this l _ h

theorem under_r {l : List Int} {n : Int} (h : ∀ x, x ∈ l → rI x) : rI (under l n) := by
  have : ∀ (l : List Int) (b : Int), (∀ x, x ∈ l → rI x) → rI b → rI (l.foldl (fun b r => if r ≤ n ∧ b < r then r else b) b) := by
    intro l
    induction l with
    | nil => intro b _ hb; exact hb
    | cons x l ih => intro b h hb; simp only [List.foldl_cons]; exact ih _ (fun y hy => h y (by simp [hy])) (by split; exact h x (by simp); exact hb)
  exact this l _ h (by unfold rI; omega)
theorem over_r {l : List Int} {n : Int} (h : ∀ x, x ∈ l → rI x) : rI (over l n) := by
  have : ∀ (l : List Int) (b : Int), (∀ x, x ∈ l → rI x) → rI b → rI (l.foldl (fun b r => if n ≤ r ∧ r < b then r else b) b) := by
    intro l
    induction l with
    | nil => intro b _ hb; exact hb
    | cons x l ih => intro b h hb; simp only [List.foldl_cons]; exact ih _ (fun y hy => h y (by simp [hy])) (by split; exact h x (by simp); exact hb)
  exact this l _ h (by unfold rI; omega)
theorem gL_r {n : Nat} {f : Nat → List DV} (h : ∀ i, i < n → f i = [it (gI (f i))] ∧ rI (gI (f i))) (x : Int) (hx : x ∈ gL n f) : rI x := by
  unfold gL at hx
  obtain ⟨i, hi, rfl⟩ := List.mem_map.1 hx
  exact (h i (by simpa using hi)).2
namespace Sp
def widen (a b : Sp) (l : List Int) : Sp := if a.none then b.clean else if leq b a then a else ⟨a.some, if b.lo < a.lo then under l b.lo else a.lo, if b.hi > a.hi then over l b.hi else a.hi⟩
theorem clean_inR' {a : Sp} (h : a.inR) : a.clean.inR := clean_inR h
theorem of_inR {l h : Int} (h0 : rI l) (h1 : rI h) : (of l h).inR := by unfold of; split; unfold inR; decide; exact ⟨h0, h1⟩
theorem join_inR {a b : Sp} (ha : a.inR) (hb : b.inR) : (join a b).inR := by
  unfold join; split
  · exact clean_inR hb
  · split
    · exact ha
    · unfold inR at ha hb; exact of_inR (by unfold rI; omega) (by unfold rI; omega)
theorem meet_inR {a b : Sp} (ha : a.inR) (hb : b.inR) : (meet a b).inR := by
  unfold meet; split
  · unfold inR; decide
  · unfold inR at ha hb; exact of_inR (by unfold rI; omega) (by unfold rI; omega)
theorem narrow_inR {a b : Sp} (ha : a.inR) (hb : b.inR) : (narrow a b).inR := by
  unfold narrow; split
  · exact clean_inR ha
  · split
    · unfold inR; decide
    · unfold inR at *; dsimp only; constructor <;> split <;> omega
theorem widen_inR {a b : Sp} {l : List Int} (ha : a.inR) (hb : b.inR) (h : ∀ x, x ∈ l → rI x) : (widen a b l).inR := by
  have h1 := under_r (n := b.lo) h
  have h2 := over_r (n := b.hi) h
  unfold widen; split
  · exact clean_inR hb
  · split
    · exact ha
    · unfold inR at *; unfold rI at *; dsimp only; constructor <;> split <;> omega
end Sp

def FSOver : List Ar → Option Rs
  | [.c (.d (.lst 1 n0 f0)), .c (.d (.v (.int .i64 i1)))] => some ⟨(n0 ≤ 9223372036854775807 ∧ ∀ i, i < n0 → f0 i = [it (gI (f0 i))] ∧ rI (gI (f0 i))) ∧ (-9223372036854775808 ≤ i1 ∧ i1 < 9223372036854775808), .va (.c (.d (it (over (gL n0 f0) i1)))), []⟩
  | _ => none
set_option maxHeartbeats 1000000 in
set_option maxRecDepth 100000 in
theorem fcSOver : FC Try.prog 70 FSOver := by
  intro xs pre r us h hp
  unfold FSOver at h
  split at h
  · rename_i n0 f0 i1
    cases h
    obtain ⟨hp0, hp1⟩ := hp
    refine FCat.of_eq (as' := [.c (.d (.lst 1 n0 fun i => [it (gI (f0 i))])), .c (.d (.v (.int .i64 i1)))]) ?_ rfl rfl ?_
    · repeat' (first | exact trivial | exact rfl | refine ⟨?_, ?_⟩ | fail)
      all_goals first | exact hp0.2 | exact hp1.2 | exact hp2.2 | (intro i hi; exact (hp0.2 i hi).1) | (intro i hi; exact (hp1.2 i hi).1) | (intro i hi; exact (hp2.2 i hi).1) | grind
    refine fcat tys_ok (l := []) trivial Try.func70 rfl (by kernel_rfl) false ?_
    repeat' (first | exact trivial | refine ⟨?_, ?_⟩ | intro _)
    all_goals first | (with_reducible show (_ : Int) ≤ _) | (with_reducible show (_ : Int) < _) | (with_reducible show (_ : Nat) ≤ _) | (with_reducible show (_ : Nat) < _) | (conv => whnf)
    refine loop_ok tys_ok (l := []) trivial (by kernel_rfl) (X := Nat × Int)
      (fun | (i, b) => ⟨[(10, vx (.int .i64 i)), (9, vx (.int .i64 n0)), (5, vx (.int .i64 b)), (0, .va (.c (.d (.lst 1 n0 fun i => [it (gI (f0 i))])))), (1, vx (.int .i64 i1))], [], 0, 28⟩)
      (fun | (i, _) => n0 - i) (fun | (i, b) => i ≤ n0 ∧ b = over (gL i f0) i1) [5] [] (fun | (i, _), [b], _ => (i + 1, iT b) | x, _, _ => x) [] [] 0 0 (0, 9223372036854775807) ⟨Nat.zero_le _, rfl⟩ ?_ ?_
    · repeat' (first | exact trivial | exact rfl | (intro _ _; exact rfl) | refine ⟨?_, ?_⟩)
    · rintro ⟨i, b⟩ ⟨h1, h2⟩
      repeat' (first | exact trivial | refine ⟨?_, ?_⟩ | intro _)
      all_goals first | (with_reducible show (_ : Int) ≤ _) | (with_reducible show (_ : Int) < _) | (with_reducible show (_ : Nat) ≤ _) | (with_reducible show (_ : Nat) < _) | (conv => whnf)
      all_goals (try simp only [iT, Int.toNat_natCast] at *)
      all_goals first | rfl | (intro _ _; rfl) | grind [over_add, wrap64]
  · cases h
def FSUnder : List Ar → Option Rs
  | [.c (.d (.lst 1 n0 f0)), .c (.d (.v (.int .i64 i1)))] => some ⟨(n0 ≤ 9223372036854775807 ∧ ∀ i, i < n0 → f0 i = [it (gI (f0 i))] ∧ rI (gI (f0 i))) ∧ (-9223372036854775808 ≤ i1 ∧ i1 < 9223372036854775808), .va (.c (.d (it (under (gL n0 f0) i1)))), []⟩
  | _ => none
set_option maxHeartbeats 1000000 in
set_option maxRecDepth 100000 in
theorem fcSUnder : FC Try.prog 69 FSUnder := by
  intro xs pre r us h hp
  unfold FSUnder at h
  split at h
  · rename_i n0 f0 i1
    cases h
    obtain ⟨hp0, hp1⟩ := hp
    refine FCat.of_eq (as' := [.c (.d (.lst 1 n0 fun i => [it (gI (f0 i))])), .c (.d (.v (.int .i64 i1)))]) ?_ rfl rfl ?_
    · repeat' (first | exact trivial | exact rfl | refine ⟨?_, ?_⟩ | fail)
      all_goals first | exact hp0.2 | exact hp1.2 | exact hp2.2 | (intro i hi; exact (hp0.2 i hi).1) | (intro i hi; exact (hp1.2 i hi).1) | (intro i hi; exact (hp2.2 i hi).1) | grind
    refine fcat tys_ok (l := []) trivial Try.func69 rfl (by kernel_rfl) false ?_
    repeat' (first | exact trivial | refine ⟨?_, ?_⟩ | intro _)
    all_goals first | (with_reducible show (_ : Int) ≤ _) | (with_reducible show (_ : Int) < _) | (with_reducible show (_ : Nat) ≤ _) | (with_reducible show (_ : Nat) < _) | (conv => whnf)
    refine loop_ok tys_ok (l := []) trivial (by kernel_rfl) (X := Nat × Int)
      (fun | (i, b) => ⟨[(10, vx (.int .i64 i)), (9, vx (.int .i64 n0)), (5, vx (.int .i64 b)), (0, .va (.c (.d (.lst 1 n0 fun i => [it (gI (f0 i))])))), (1, vx (.int .i64 i1))], [], 0, 28⟩)
      (fun | (i, _) => n0 - i) (fun | (i, b) => i ≤ n0 ∧ b = under (gL i f0) i1) [5] [] (fun | (i, _), [b], _ => (i + 1, iT b) | x, _, _ => x) [] [] 0 0 (0, -9223372036854775808) ⟨Nat.zero_le _, rfl⟩ ?_ ?_
    · repeat' (first | exact trivial | exact rfl | (intro _ _; exact rfl) | refine ⟨?_, ?_⟩)
    · rintro ⟨i, b⟩ ⟨h1, h2⟩
      repeat' (first | exact trivial | refine ⟨?_, ?_⟩ | intro _)
      all_goals first | (with_reducible show (_ : Int) ≤ _) | (with_reducible show (_ : Int) < _) | (with_reducible show (_ : Nat) ≤ _) | (with_reducible show (_ : Nat) < _) | (conv => whnf)
      all_goals (try simp only [iT, Int.toNat_natCast] at *)
      all_goals first | rfl | (intro _ _; rfl) | grind [under_add, wrap64]
  · cases h
def FSWiden : List Ar → Option Rs
  | [.agg [.d (.v (.bool s0)), .d (.v (.int .i64 l0)), .d (.v (.int .i64 h0))], .agg [.d (.v (.bool s1)), .d (.v (.int .i64 l1)), .d (.v (.int .i64 h1))], .c (.d (.lst 1 n2 f2))] => some ⟨(Sp.inR ⟨s0, l0, h0⟩) ∧ (Sp.inR ⟨s1, l1, h1⟩) ∧ (n2 ≤ 9223372036854775807 ∧ ∀ i, i < n2 → f2 i = [it (gI (f2 i))] ∧ rI (gI (f2 i))), .va (Sp.ar (Sp.widen (⟨s0, l0, h0⟩ : Sp) (⟨s1, l1, h1⟩ : Sp) (gL n2 f2))), []⟩
  | _ => none
set_option maxHeartbeats 1000000 in
set_option maxRecDepth 100000 in
theorem fcSWiden : FC Try.prog 43 FSWiden := by
  intro xs pre r us h hp
  unfold FSWiden at h
  split at h
  · rename_i s0 l0 h0 s1 l1 h1 n2 f2
    cases h
    obtain ⟨hp0, hp1, hp2⟩ := hp
    refine FCat.of_eq (as' := [.agg [.d (.v (.bool s0)), .d (.v (.int .i64 l0)), .d (.v (.int .i64 h0))], .agg [.d (.v (.bool s1)), .d (.v (.int .i64 l1)), .d (.v (.int .i64 h1))], .c (.d (.lst 1 n2 fun i => [it (gI (f2 i))]))]) ?_ rfl rfl ?_
    · repeat' (first | exact trivial | exact rfl | refine ⟨?_, ?_⟩ | fail)
      all_goals first | exact hp0.2 | exact hp1.2 | exact hp2.2 | (intro i hi; exact (hp0.2 i hi).1) | (intro i hi; exact (hp1.2 i hi).1) | (intro i hi; exact (hp2.2 i hi).1) | grind
    refine fcat tys_ok (l := [(67, ⟨[], FSNone⟩), (68, ⟨[], FSClean⟩), (63, ⟨[], FSLeq⟩), (69, ⟨[], FSUnder⟩), (70, ⟨[], FSOver⟩)]) ⟨fcSNone, fcSClean, fcSLeq, fcSUnder, fcSOver, trivial⟩ Try.func43 rfl (by kernel_rfl) false ?_
    obtain ⟨⟨a1, a2⟩, a3, a4⟩ := hp0
    obtain ⟨⟨c1, c2⟩, c3, c4⟩ := hp1
    repeat' (first | exact trivial | (with_reducible exact a1) | (with_reducible exact a2) | (with_reducible exact a3) | (with_reducible exact a4) | (with_reducible exact c1) | (with_reducible exact c2) | (with_reducible exact c3) | (with_reducible exact c4) | (with_reducible exact hp2.1) | refine ⟨?_, ?_⟩ | intro _)
    all_goals first | (with_reducible show (_ : Int) ≤ _) | (with_reducible show (_ : Int) < _) | (with_reducible show (_ : Nat) ≤ _) | (with_reducible show (_ : Nat) < _) | (conv => whnf)
    all_goals (try simp only [gL_canon] at *)
    all_goals first | rfl | (with_reducible assumption) | (exact (hp2.2 _ ‹_›).2.1) | (exact (hp2.2 _ ‹_›).2.2) | (exact hp2.1) | grind [Sp.widen, Sp.clean, Sp.none, Sp.leq, Sp.has] | trace_state
  · cases h
theorem gL_r' {n i : Nat} {f : Nat → List DV} (h : ∀ i, i < n → f i = [it (gI (f i))] ∧ rI (gI (f i))) (hi : i ≤ n) (x : Int) (hx : x ∈ gL i f) : rI x := gL_r (fun j hj => h j (by omega)) x hx


end Go.Proofs.Ytbfinmfdcbghfaa
