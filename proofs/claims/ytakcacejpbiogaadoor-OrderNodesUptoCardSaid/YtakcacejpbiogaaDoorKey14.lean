/- Where a key stands; a key set in. No condition. -/
import Derived.Test.YtakcacejpbiogaaDoorKey13
import Derived.Lib.Overlaps
namespace Go.Proofs.YtakcacejpbiogaaDoor
set_option linter.all false
open Go.Sx

open Go.RowKit Go.Lib Go.Sort
abbrev gCmpK : List Cv → Option Gs := mkFv (sums [(11, ⟨[], FKyCmp⟩)]) 11 []
theorem hlf {x y : Nat} (h : x + y < 9223372036854775808) : IntKind.wrap .i64 ((IntKind.wrap .u64 (IntKind.wrap .i64 ((x : Int) + (y : Int)))).fdiv (2 ^ min (Int.toNat 1) (IntKind.bits .u64))) = (((x + y) / 2 : Nat) : Int) := by
  have e1 : IntKind.wrap .i64 ((x : Int) + (y : Int)) = ((x + y : Nat) : Int) := by rw [wI_id _ (by omega) (by omega)]; omega
  have e2 : IntKind.wrap .u64 ((x + y : Nat) : Int) = ((x + y : Nat) : Int) := by
    simp [IntKind.wrap, IntKind.signed, IntKind.bits]
    omega
  have e3 : (2 : Int) ^ min (Int.toNat 1) (IntKind.bits .u64) = 2 := by decide
  rw [e1, e2, e3]
  have e4 : (((x + y : Nat) : Int)).fdiv 2 = (((x + y) / 2 : Nat) : Int) := by
    rw [Int.fdiv_eq_ediv_of_nonneg _ (by omega)]; omega
  rw [e4, wI_id _ (by omega) (by omega)]
/-- how many keys stand ahead of one; whether the next is it -/
def lowQ (L : List Ky) (k : Ky) : Nat := L.countP fun x => Ky.lt x k
def foundQ (L : List Ky) (k : Ky) : Bool := decide (lowQ L k < L.length) && decide ((atK L (lowQ L k)).cl = k.cl)
theorem low_ofQ {L : List Ky} {k : Ky} {i : Nat} (hi : i ≤ L.length) (h1 : ∀ q, q < i → Ky.lt (atK L q) k = true) (h2 : ∀ q, i ≤ q → q < L.length → Ky.lt (atK L q) k = false) : lowQ L k = i := by
  unfold lowQ
  conv => lhs; rw [← List.take_append_drop i L, List.countP_append]
  rw [List.countP_eq_length.2, List.countP_eq_zero.2, List.length_take]
  · omega
  · intro x hx
    obtain ⟨q, hq, rfl⟩ := mem_atK hx
    rw [List.length_drop] at hq
    have e : atK (L.drop i) q = atK L (i + q) := by unfold atK; rw [List.getD_eq_getElem?_getD, List.getElem?_drop, List.getD_eq_getElem?_getD]
    rw [e, h2 (i + q) (by omega) (by omega)]; exact Bool.false_ne_true
  · intro x hx
    obtain ⟨q, hq, rfl⟩ := mem_atK hx
    rw [List.length_take] at hq
    have e : atK (L.take i) q = atK L q := by unfold atK; rw [List.getD_eq_getElem?_getD, List.getElem?_take_of_lt (by omega), List.getD_eq_getElem?_getD]
    rw [e]; exact h1 q (by omega)
theorem sk_atQ {L : List Ky} (h : SK L) {i j : Nat} (hij : i < j) (hj : j < L.length) : Ky.lt (atK L i) (atK L j) = true := by
  have := List.pairwise_iff_getElem.1 h.1 i j (by omega) (by omega) hij
  unfold atK
  rw [List.getD_eq_getElem?_getD, List.getElem?_eq_getElem (by omega), List.getD_eq_getElem?_getD, List.getElem?_eq_getElem hj]
  exact this
theorem canonKo {n : Nat} {f : Nat → List DV} (h : ∀ i, i < n → f i = kyC (gKy (f i)) ∧ rI (gKy (f i)).node) : icE (.ow 2 n f) (.ow 2 n (rwK (gKs n f))) :=
  ⟨rfl, rfl, fun i hi => by
    have e : rwK (gKs n f) i = f i := by
      show kyC (atK (gKs n f) i) = f i
      rw [atK_gKs hi]; exact (h i hi).1.symm
    rw [e]; exact ⟨rfl, fun j a b ha hb => by rw [ha] at hb; cases hb; exact .refl _⟩⟩
def FBSearchK : List Ar → Option Rs
  | [.c (.ow 2 n0 f0), .agg [.d (.v (.string x1)), .d (.v (.int .i64 i1))], .fv g2] => some ⟨(n0 ≤ 1000000000 ∧ RowsK n0 f0) ∧ (rI i1) ∧ (SK (gKs n0 f0) ∧ g2 = gCmpK), .tup [.c (.d (it (lowQ (gKs n0 f0) (⟨x1, i1⟩ : Ky) : Nat))), .c (.d (bo (foundQ (gKs n0 f0) (⟨x1, i1⟩ : Ky))))], [some (rwK (gKs n0 f0))]⟩
  | _ => none
set_option maxHeartbeats 3000000 in
set_option maxRecDepth 100000 in
theorem fcBSearchK : FC Tryd.prog 71 FBSearchK := by
  intro xs pre r us h hp
  unfold FBSearchK at h
  split at h
  · rename_i n0 f0 x1 i1 g2
    cases h
    obtain ⟨hp0, hp1, hp2⟩ := hp
    refine FCat.deep (ys := [.c (.ow 2 n0 (rwK (gKs n0 f0))), .agg [.d (.v (.string x1)), .d (.v (.int .i64 i1))], .fv g2]) ?_ ?_
    · repeat' (first | exact trivial | exact rfl | exact DvE.refl _ | refine ⟨?_, ?_⟩ | fail)
      all_goals first | exact (canonKo hp0.2.h).2.2
    refine fcat tys_ok (l := []) trivial Tryd.func71 rfl (by kernel_rfl) false ?_
    obtain ⟨hs, rfl⟩ := hp2
    have hn := hp0.1
    have hO := rowsK_r hp0.2
    have hlen := gKs_length n0 f0
    generalize gKs n0 f0 = L at *
    clear hp0
    subst hlen
    have hri : ∀ k, k < L.length → rI (atK L k).node := fun k hk => hO _ (atK_mem hk)
    generalize hp : (fun k => Ky.lt (atK L k) ⟨x1, i1⟩) = p
    have hpd : ∀ k, p k = decide (Ky.cmp (atK L k) ⟨x1, i1⟩ < 0) := fun k => by rw [← hp, cmp_lt]
    have hm : ∀ k q, k ≤ q → q < L.length → p q = true → p k = true := fun k q h1 h2 h3 => by
      rw [← hp] at h3 ⊢
      rcases Nat.lt_or_ge k q with h | h
      · exact Ky.lt_trans (sk_atQ hs h h2) h3
      · obtain rfl : k = q := by omega
        exact h3
    have hm2 : ∀ k q, q ≤ k → k < L.length → p q = false → p k = false := fun k q h1 h2 h3 => by
      cases h : p k with
      | false => rfl
      | true => rw [hm q k h1 h2 h] at h3; cases h3
    have hlow : ∀ i, i ≤ L.length → (∀ k, k < i → p k = true) → (∀ k, i ≤ k → k < L.length → p k = false) → lowQ L ⟨x1, i1⟩ = i := fun i h1 h2 h3 => by
      rw [← hp] at h2 h3; exact low_ofQ h1 h2 h3
    have hfe : ∀ k, (Ky.cmp (atK L k) ⟨x1, i1⟩ == 0) = decide ((atK L k).cl = (⟨x1, i1⟩ : Ky).cl) := fun k => cmp_eq _ _
    clear hp
    repeat' (first | exact trivial | (with_reducible exact hp1) | refine ⟨?_, ?_⟩ | intro _)
    all_goals first | (with_reducible show (_ : Int) ≤ _) | (with_reducible show (_ : Int) < _) | (with_reducible show (_ : Nat) ≤ _) | (with_reducible show (_ : Nat) < _) | (conv => whnf)
    refine loop_ok tys_ok (l := []) trivial (by kernel_rfl) (X := Nat × Nat)
      (fun x => ⟨[(9, vx (.int .i64 x.1)), (10, vx (.int .i64 x.2)), (0, .va (.c (.osl 0 2 0 L.length))), (4, .va (.c (.own 1 0))), (2, .va (.c (.fv gCmpK))), (8, vx (.int .i64 L.length))], [(0, .row 2 L.length (rwK L)), (1, .cells [.d (st x1), .d (it i1)])], 2, 49⟩)
      (fun x => x.2 - x.1) (fun x => x.1 ≤ x.2 ∧ x.2 ≤ L.length ∧ (∀ k, k < x.1 → p k = true) ∧ (∀ k, x.2 ≤ k → k < L.length → p k = false)) [] []
      (fun x _ _ => if p ((x.1 + x.2) / 2) = true then ((x.1 + x.2) / 2 + 1, x.2) else (x.1, (x.1 + x.2) / 2)) [0, 1] [0, 1] 0 0 (0, L.length) ?_ ?_ ?_
    · exact ⟨Nat.zero_le _, Nat.le_refl _, fun k h => absurd h (Nat.not_lt_zero k), fun k h1 h2 => absurd h1 (Nat.not_le_of_lt h2)⟩
    · repeat' (first | exact trivial | exact rfl | (intro _ _; exact rfl) | refine ⟨?_, ?_⟩ | fail)
    · rintro ⟨i, j⟩ ⟨k2, k3, k4, k5⟩
      dsimp only at k2 k3 k4 k5
      rcases Nat.lt_or_ge i j with hij | hij
      · have hne : decide ((i : Int) < (j : Int)) = true := decide_eq_true (by omega)
        have hh : IntKind.wrap .i64 ((IntKind.wrap .u64 (IntKind.wrap .i64 ((i : Int) + (j : Int)))).fdiv (2 ^ min (Int.toNat 1) (IntKind.bits .u64))) = (((i + j) / 2 : Nat) : Int) := hlf (by omega)
        have hq1 : i ≤ (i + j) / 2 := by omega
        have hq2 : (i + j) / 2 < j := by omega
        generalize hq : (i + j) / 2 = q at *
        have hri' := hri q (by omega)
        cases hc : p q with
        | true =>
          repeat' (first | exact trivial | (with_reducible exact hp1) | refine ⟨?_, ?_⟩ | intro _)
          all_goals first | (with_reducible show (_ : Int) ≤ _) | (with_reducible show (_ : Int) < _) | (with_reducible show (_ : Nat) ≤ _) | (with_reducible show (_ : Nat) < _) | (conv => whnf)
          all_goals first | (exact absurd (hne.symm.trans ‹_ = false›) (by decide)) | skip
          all_goals first | (have hd := ‹decide (Ky.cmp _ _ < 0) = false›; simp only [hh, Int.toNat_natCast, Nat.zero_add] at hd; exact absurd ((hc.symm.trans (hpd q)).trans hd) (by decide)) | skip
          all_goals (try simp only [hh, hq, hc, if_true, Int.toNat_natCast, Nat.zero_add])
          all_goals first | rfl | omega | exact hri'.1 | exact hri'.2 | (dsimp only; omega) | (exact congrArg (Value.int .i64) (by first | (rw [wI_id _ (by omega) (by omega)]; omega) | omega | (dsimp only; omega))) | (rename_i kk h1; simp only [hq, hc, if_true] at h1; exact hm _ q (by omega) (by omega) hc) | (rename_i kk h1 h2; simp only [hq, hc, if_true] at h1 h2; exact k5 _ h1 h2) | trace_state
        | false =>
          repeat' (first | exact trivial | (with_reducible exact hp1) | refine ⟨?_, ?_⟩ | intro _)
          all_goals first | (with_reducible show (_ : Int) ≤ _) | (with_reducible show (_ : Int) < _) | (with_reducible show (_ : Nat) ≤ _) | (with_reducible show (_ : Nat) < _) | (conv => whnf)
          all_goals first | (exact absurd (hne.symm.trans ‹_ = false›) (by decide)) | skip
          all_goals first | (have hd := ‹decide (Ky.cmp _ _ < 0) = true›; simp only [hh, Int.toNat_natCast, Nat.zero_add] at hd; exact absurd ((hc.symm.trans (hpd q)).trans hd) (by decide)) | skip
          all_goals (try simp only [hh, hq, hc, if_false, Bool.false_eq_true, Int.toNat_natCast, Nat.zero_add])
          all_goals first | rfl | omega | exact hri'.1 | exact hri'.2 | (dsimp only; omega) | (exact congrArg (Value.int .i64) (by first | (rw [wI_id _ (by omega) (by omega)]; omega) | omega | (dsimp only; omega))) | (rename_i kk h1; simp only [hq, hc, if_false, Bool.false_eq_true] at h1; exact k4 _ h1) | (rename_i kk h1 h2; simp only [hq, hc, if_false, Bool.false_eq_true] at h1 h2; exact hm2 _ q (by omega) h2 hc) | trace_state
      · have hne : decide ((i : Int) < (j : Int)) = false := decide_eq_false (by omega)
        obtain rfl : i = j := by omega
        have hl := hlow i k3 k4 k5
        have hri' := fun h => hri i h
        repeat' (first | exact trivial | (with_reducible exact hp1) | refine ⟨?_, ?_⟩ | intro _)
        all_goals first | (with_reducible show (_ : Int) ≤ _) | (with_reducible show (_ : Int) < _) | (with_reducible show (_ : Nat) ≤ _) | (with_reducible show (_ : Nat) < _) | (conv => whnf)
        all_goals first | (exact absurd (hne.symm.trans ‹_ = true›) (by decide)) | skip
        all_goals (try dsimp only)
        all_goals (try simp only [Int.toNat_natCast, Nat.zero_add])
        all_goals (try unfold foundQ)
        all_goals (try rw [hl])
        all_goals first | omega | rfl | (have hd := of_decide_eq_true ‹decide (((i, i).1 : Int) < (L.length : Int)) = true›; exact hd) | (have hd := of_decide_eq_true ‹decide (((i, i).1 : Int) < _) = true›; exact (hri' (by dsimp only at hd; omega)).1) | (have hd := of_decide_eq_true ‹decide (((i, i).1 : Int) < _) = true›; exact (hri' (by dsimp only at hd; omega)).2) | (have hd := of_decide_eq_true ‹decide (((i, i).1 : Int) < _) = true›; rw [show decide (i < L.length) = true from decide_eq_true (by dsimp only at hd; omega), ← hfe i]; rfl) | (have hd := of_decide_eq_false ‹decide (((i, i).1 : Int) < (L.length : Int)) = false›; rw [show decide (i < L.length) = false from decide_eq_false (by dsimp only at hd; omega)]; rfl) | trace_state
  · cases h
theorem rep_atD {P : Program} {base : Nat} {ψ : Psi} {S : Nat → Prop} {w : World} {st : St} {a : Act} (hrel : Rel P base ψ S w st a) {k ln : Nat} {f : Nat → List DV} (hb : lookB st.heap k = .row 2 ln f) {b m : Nat} (h1 : ψ k = some (.at b m)) :
    ∃ arr e, w.heap[b]? = some (.cells arr e (0, 0)) ∧ arr.size = m := by
  have := hrel.sim.blk k _ h1
  rw [hb] at this
  obtain ⟨arr, e, h2, h3, _⟩ := this
  exact ⟨arr, e, h2, h3⟩
theorem rep_slD {P : Program} {ψ : Psi} {S : Nat → Prop} {w : World} {k o len : Nat} {c : Cell} {v : Value} (hc : c = .osl k 2 o len ∨ ∃ q, c = .osc k 2 o len q) (hl : 0 < len) (h : RepC P ψ S w c v) :
    ∃ b m q off, ψ k = some (.at b m) ∧ v = .slice (some ⟨b, off, none⟩) len q ∧ 0 < m := by
  rcases hc with rfl | ⟨q, rfl⟩
  · rcases h with ⟨_, h, _⟩ | ⟨b, m, c, off, h1, h2, h3, h4⟩
    · omega
    · obtain ⟨_, h5⟩ := h4 (by omega)
      exact ⟨b, m, c, off, h1, h2, by omega⟩
  · rcases h with ⟨_, h, _⟩ | ⟨b, m, off, h1, h2, h3, h4⟩
    · omega
    · obtain ⟨_, h5⟩ := h4 (by omega)
      exact ⟨b, m, q, off, h1, h2, by omega⟩
theorem acall_overlapsD {base : Nat} {k1 k2 o1 o2 len1 len2 ln1 ln2 : Nat} {f1 f2 : Nat → List DV} {c1 c2 : Cell} {ts : List (Nat × Tm)} {h : List (Nat × Blk)} {n m : Nat} {K : Tm → St → Prop} (hc1 : c1 = .osl k1 2 o1 len1 ∨ ∃ q, c1 = .osc k1 2 o1 len1 q) (hc2 : c2 = .osl k2 2 o2 len2 ∨ ∃ q, c2 = .osc k2 2 o2 len2 q) (hne : k1 ≠ k2) (hb1 : lookB h k1 = .row 2 ln1 f1) (hb2 : lookB h k2 = .row 2 ln2 f2)
    (hl1 : 0 < len1) (hl2 : 0 < len2) (hk : K (.va (.c (.d (bo false)))) ⟨ts, h, n, m⟩) : ACall Tryd.prog base 87 [.c c1, .c c2] ⟨ts, h, n, m⟩ K := by
  refine ⟨fun ψ S w a vals hrel hvals => ?_⟩
  match vals, hvals with
  | [v1, v2], ⟨hv1, hv2, _⟩ =>
    obtain ⟨b1, m1, q1, off1, p1, rfl, r1⟩ := rep_slD hc1 hl1 hv1
    obtain ⟨b2, m2, q2, off2, p2, rfl, r2⟩ := rep_slD hc2 hl2 hv2
    obtain ⟨a1, e1, s1, u1⟩ := rep_atD hrel (f := f1) (ln := ln1) hb1 p1
    obtain ⟨a2, e2, s2, u2⟩ := rep_atD hrel (f := f2) (ln := ln2) hb2 p2
    have hbb : b1 ≠ b2 := by
      intro e
      subst e
      exact hne (hrel.sim.inj k1 k2 b1 m1 m2 p1 p2 (by show (lookB h k1).live; rw [hb1]; trivial) (by show (lookB h k2).live; rw [hb2]; trivial))
    have key : (callFunc 87 #[.slice (some ⟨b1, off1, none⟩) len1 q1, .slice (some ⟨b2, off2, none⟩) len2 q2]).run Tryd.prog w = .ok (.value (.bool false)) w := by
      rw [run_callFunc_extern (fn := Tryd.f87) (by kernel_rfl) (by kernel_rfl) (by kernel_rfl) (by kernel_rfl) (e := Extern.SlicesOverlaps.overlaps #[37, 37] #[4]) (by kernel_rfl),
        Lib.run_overlaps_apart w 37 4 23 (by kernel_rfl) 2 (fun w => by kernel_rfl) ⟨b1, off1, none⟩ ⟨b2, off2, none⟩ len1 q1 len2 q2 hbb e1 e2 a1.size a2.size
          (by simp [World.shape?, s1]) (by simp [World.shape?, s2]) (by omega) (by simp [World.frozen?, s1]) (by simp [World.frozen?, s1])]
      rfl
    exact .inr ⟨_, _, key, _, _, _, ψ, S, rfl, hk, hrel, .v trivial, Ext.refl _ _ _ _⟩
/-- a row with one more set in at i -/
def insF (G : Nat → List DV) (i : Nat) (x : List DV) : Nat → List DV := fun k => if k < i then G k else if k = i then x else G (k - 1)
def FInsertK : List Ar → Option Rs
  | [.c (.ow 2 n0 f0), .c (.d (.v (.int .i64 i1))), .c (.ow 2 n2 f2)] => some ⟨(n0 ≤ 1000000000) ∧ (-9223372036854775808 ≤ i1 ∧ i1 < 9223372036854775808) ∧ (n2 ≤ 1000000000) ∧ ((0 ≤ i1 ∧ i1 ≤ n0) ∧ n2 = 1), .va (.c (.ow 2 (n0 + 1) (insF f0 (i1).toNat (f2 0)))), [none, some f2]⟩
  | _ => none
set_option maxHeartbeats 2000000 in
set_option maxRecDepth 100000 in
theorem fcInsertK : FC Tryd.prog 72 FInsertK := by
  intro xs pre r us h hp
  unfold FInsertK at h
  split at h
  · rename_i n0 f0 i1 n2 f2
    cases h
    obtain ⟨hp0, hp1, hp2, hp3⟩ := hp
    refine fcatc tys_ok (l := []) trivial Tryd.func72 rfl (by kernel_rfl) false ?_
    obtain ⟨⟨ha, hb⟩, rfl⟩ := hp3
    obtain ⟨i, rfl⟩ := Int.eq_ofNat_of_zero_le ha
    have hn := hp0
    clear hp0 hp2
    generalize f0 = G at *
    generalize f2 = X at *
    simp only [Int.toNat_natCast] at *
    repeat' (first | exact trivial | refine ⟨?_, ?_⟩ | intro _)
    all_goals first | (with_reducible show (_ : Int) ≤ _) | (with_reducible show (_ : Int) < _) | (with_reducible show (_ : Nat) ≤ _) | (with_reducible show (_ : Nat) < _) | (conv => whnf)
    all_goals (have hcap := ‹capLe _ _›; simp only [capLe] at hcap)
    all_goals first | omega | (exact absurd (eq_of_beq ‹(((1 : Nat) : Int) == 0) = true›) (by decide)) | skip
    all_goals (have hw1 : IntKind.wrap .i64 ((n0 : Int) + ((1 : Nat) : Int)) = (n0 : Int) + 1 := by rw [wI_id _ (by omega) (by omega)]; rfl)
    all_goals (have hw2 : IntKind.wrap .i64 ((i : Int) + ((1 : Nat) : Int)) = (i : Int) + 1 := by rw [wI_id _ (by omega) (by omega)]; rfl)
    all_goals (have hw3 : IntKind.wrap .i64 (IntKind.wrap .i64 ((n0 : Int) + ((1 : Nat) : Int)) - (i : Int)) = (n0 : Int) + 1 - i := by rw [hw1, wI_id _ (by omega) (by omega)])
    all_goals first | (have hin := eq_of_beq ‹((i : Int) == (n0 : Int)) = true›) | (have hin := ne_of_beq_false ‹((i : Int) == (n0 : Int)) = false›) | skip
    all_goals first | (have hgt := of_decide_eq_true ‹decide (_ > (_ : Int)) = true›) | (have hgt := of_decide_eq_false ‹decide (_ > (_ : Int)) = false›) | skip
    all_goals (simp only [hw3, hw1, hw2] at *)
    all_goals first | omega | skip
    all_goals first | (rename_i k hk; simp only [cpyRow, appRow, insF]; (repeat' split); all_goals first | (exfalso; omega) | exact (congrArg X (by omega)) | exact (congrArg G (by omega))) | skip
    apply acall_overlapsD
    · exact .inl rfl
    · exact .inr ⟨_, rfl⟩
    · decide
    · exact rfl
    · exact rfl
    · decide
    · omega
    have hw4 : IntKind.wrap .i64 ((i : Int) + ((1 : Nat) : Int)) = (i : Int) + 1 := by rw [wI_id _ (by omega) (by omega)]; rfl
    repeat' (first | exact trivial | refine ⟨?_, ?_⟩ | intro _)
    all_goals first | (with_reducible show (_ : Int) ≤ _) | (with_reducible show (_ : Int) < _) | (with_reducible show (_ : Nat) ≤ _) | (with_reducible show (_ : Nat) < _) | (conv => whnf)
    all_goals first | (exact absurd ‹(!false) = false› (by decide)) | skip
    all_goals (try simp only [hw4])
    all_goals first | omega | (rename_i k hk; simp only [cpyRow, appRow, insF]; (repeat' split); all_goals first | (exfalso; omega) | exact (congrArg X (by omega)) | exact (congrArg G (by omega))) | trace_state
  · cases h

end Go.Proofs.YtakcacejpbiogaaDoor
