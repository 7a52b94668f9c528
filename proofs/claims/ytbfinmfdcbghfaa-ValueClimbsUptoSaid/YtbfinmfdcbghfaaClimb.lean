/- The plain law of climbing values. No program in sight. -/
import Derived.Test.YtbfinmfdcbghfaaVLaw2
namespace Go.Proofs.Ytbfinmfdcbghfaa
set_option linter.all false
open Go.Sx

namespace Sp
def isC (s : Sp) : Bool := !s.none || eq s ⟨false, 0, 0⟩
end Sp
def cntB (l : List Int) (x : Int) : Int := ((l.filter fun r => decide (r < x)).length : Nat)
def cntA (l : List Int) (x : Int) : Int := ((l.filter fun r => decide (x < r)).length : Nat)
theorem cntB_mono (l : List Int) {x y : Int} (h : x ≤ y) : cntB l x ≤ cntB l y := by
  unfold cntB
  induction l with
  | nil => simp
  | cons r l ih => simp only [List.filter_cons]; split <;> split <;> simp_all <;> omega
theorem cntA_mono (l : List Int) {x y : Int} (h : x ≤ y) : cntA l y ≤ cntA l x := by
  unfold cntA
  induction l with
  | nil => simp
  | cons r l ih => simp only [List.filter_cons]; split <;> split <;> simp_all <;> omega
theorem cntB_lt (l : List Int) {x y : Int} (hm : x ∈ l) (h : x < y) : cntB l x + 1 ≤ cntB l y := by
  induction l with
  | nil => simp at hm
  | cons r l ih =>
    have hmono := cntB_mono l (Int.le_of_lt h)
    simp only [cntB, List.filter_cons] at *
    rcases List.mem_cons.1 hm with rfl | hm
    · have h1 : decide (x < x) = false := by simp
      have h2 : decide (x < y) = true := by simpa using h
      simp only [h1, h2, if_true]; simp; omega
    · have := ih hm
      split <;> split <;> simp_all <;> omega
theorem cntA_lt (l : List Int) {x y : Int} (hm : y ∈ l) (h : x < y) : cntA l y + 1 ≤ cntA l x := by
  induction l with
  | nil => simp at hm
  | cons r l ih =>
    have hmono := cntA_mono l (Int.le_of_lt h)
    simp only [cntA, List.filter_cons] at *
    rcases List.mem_cons.1 hm with rfl | hm
    · have h1 : decide (y < y) = false := by simp
      have h2 : decide (x < y) = true := by simpa using h
      simp only [h1, h2, if_true]; simp; omega
    · have := ih hm
      split <;> split <;> simp_all <;> omega
theorem cntB_le (l : List Int) (x : Int) : 0 ≤ cntB l x ∧ cntB l x ≤ l.length := by
  unfold cntB; have := List.length_filter_le (fun r => decide (r < x)) l; omega
theorem cntA_le (l : List Int) (x : Int) : 0 ≤ cntA l x ∧ cntA l x ≤ l.length := by
  unfold cntA; have := List.length_filter_le (fun r => decide (x < r)) l; omega
theorem under_mem (l : List Int) (n : Int) : under l n = -9223372036854775808 ∨ (under l n ∈ l) := by
  have : ∀ (l : List Int) (b : Int), l.foldl (fun b r => if r ≤ n ∧ b < r then r else b) b = b ∨ l.foldl (fun b r => if r ≤ n ∧ b < r then r else b) b ∈ l := by
    intro l
    induction l with
    | nil => intro b; exact .inl rfl
    | cons x l ih =>
      intro b
      simp only [List.foldl_cons]
      rcases ih (if x ≤ n ∧ b < x then x else b) with h | h
      · rw [h]; split
        · right; simp
        · left; rfl
      · right; simp [h]
  exact this l _
theorem over_mem (l : List Int) (n : Int) : over l n = 9223372036854775807 ∨ (over l n ∈ l) := by
  have : ∀ (l : List Int) (b : Int), l.foldl (fun b r => if n ≤ r ∧ r < b then r else b) b = b ∨ l.foldl (fun b r => if n ≤ r ∧ r < b then r else b) b ∈ l := by
    intro l
    induction l with
    | nil => intro b; exact .inl rfl
    | cons x l ih =>
      intro b
      simp only [List.foldl_cons]
      rcases ih (if n ≤ x ∧ x < b then x else b) with h | h
      · rw [h]; split
        · right; simp
        · left; rfl
      · right; simp [h]
  exact this l _
namespace Sp
def wpot (l : List Int) (s : Sp) : Int := if s.none then 2 * l.length + 3 else cntB l s.lo + (if s.lo = -9223372036854775808 then 0 else 1) + cntA l s.hi + (if s.hi = 9223372036854775807 then 0 else 1)
def inRb (s : Sp) : Bool := decide (-9223372036854775808 ≤ s.lo) && decide (s.hi ≤ 9223372036854775807)
theorem wpot_le (l : List Int) (s : Sp) : 0 ≤ wpot l s := by have := cntB_le l s.lo; have := cntA_le l s.hi; grind [wpot]
theorem leq_widen1 (s b : Sp) (l : List Int) (hb : inRb b = true) : leq s (widen s b l) = true := by
  have := under_le l b.lo; have := over_ge l b.hi; grind [widen, leq, none, has, clean, inRb]
theorem leq_widen2 (s b : Sp) (l : List Int) (hb : inRb b = true) : leq b (widen s b l) = true := by
  have := under_le l b.lo; have := over_ge l b.hi; grind [widen, leq, none, has, clean, inRb]
theorem isC_widen (s b : Sp) (l : List Int) (h : isC s = true) (hb : inRb b = true) : isC (widen s b l) = true := by
  have := under_le l b.lo; have := over_ge l b.hi; grind [widen, leq, none, has, clean, inRb, isC, eq]
theorem wpot_widen (s b : Sp) (l : List Int) (h : isC s = true) (hb : inRb b = true) (hn : eq (widen s b l) s = false) : wpot l (widen s b l) + 1 ≤ wpot l s := by
  have h1 := under_le l b.lo; have h2 := over_ge l b.hi
  have h3 := under_mem l b.lo; have h4 := over_mem l b.hi
  have h5 := cntB_le l b.lo; have h6 := cntA_le l b.hi
  have h7 : under l b.lo < s.lo → cntB l (under l b.lo) ≤ cntB l s.lo := fun h => cntB_mono l (Int.le_of_lt h)
  have h8 : s.hi < over l b.hi → cntA l (over l b.hi) ≤ cntA l s.hi := fun h => cntA_mono l (Int.le_of_lt h)
  have h9 : under l b.lo ∈ l → under l b.lo < s.lo → cntB l (under l b.lo) + 1 ≤ cntB l s.lo := fun h h' => cntB_lt l h h'
  have h10 : over l b.hi ∈ l → s.hi < over l b.hi → cntA l (over l b.hi) + 1 ≤ cntA l s.hi := fun h h' => cntA_lt l h h'
  grind [widen, leq, none, has, clean, inRb, isC, eq, wpot]
theorem wpot_same (l : List Int) (s t : Sp) (h : eq t s = true) : wpot l t = wpot l s := by grind [eq, wpot, none]
end Sp
theorem Sp.inRb_of {s : Sp} (h : s.inR) : s.inRb = true := by unfold Sp.inR at h; unfold Sp.inRb; simp; omega
/-- how often a congruence may still change -/
def cpot (c : Cg) : Nat := if !c.some then 64 else if c.m = 0 then 63 else c.m.toNat.log2
theorem log_half {g m : Nat} (hg : 0 < g) (h : 2 * g ≤ m) : g.log2 + 1 ≤ m.log2 := by
  rw [Nat.le_log2 (by omega), Nat.pow_succ]
  have := Nat.log2_self_le (n := g) (by omega)
  omega
theorem log_62 {m : Nat} (hm : 0 < m) (h : m < 9223372036854775808) : m.log2 ≤ 62 := by
  have := Nat.log2_self_le (n := m) (by omega)
  rcases Nat.lt_or_ge m.log2 63 with h1 | h1
  · omega
  · have := Nat.pow_le_pow_right (show 0 < 2 by omega) h1
    omega
/-- congruences as they are told -/
def Cg.tidy (c : Cg) : Prop := c = Cg.none ∨ (c.some = true ∧ c.red)
theorem Cg.tidy_fix {c : Cg} (h : c.tidy) : c.clean = c := by
  rcases h with rfl | ⟨h1, h2⟩
  · rfl
  · exact cg_fix h1 h2
theorem gcdJ_dvd {x y : Cg} : Cg.gcdJ x y ∣ x.m ∧ Cg.gcdJ x y ∣ y.m ∧ Cg.gcdJ x y ∣ apartI x.r y.r := by
  unfold Cg.gcdJ
  refine ⟨Int.dvd_trans (Int.gcd_dvd_left _ _) (Int.gcd_dvd_left _ _), Int.dvd_trans (Int.gcd_dvd_left _ _) (Int.gcd_dvd_right _ _), Int.gcd_dvd_right _ _⟩
theorem apart_dvd {g a b : Int} (h : g ∣ apartI a b) : g ∣ a - b := by
  unfold apartI at h
  split at h
  · exact h
  · rw [← Int.neg_sub, Int.dvd_neg]; exact h
theorem gcdJ_nn (x y : Cg) : 0 ≤ Cg.gcdJ x y := by unfold Cg.gcdJ; omega
theorem gcdJ_zero {x y : Cg} (h : Cg.gcdJ x y = 0) : x.m = 0 ∧ y.m = 0 ∧ x.r = y.r := by
  have := gcdJ_dvd (x := x) (y := y)
  rw [h] at this
  obtain ⟨h1, h2, h3⟩ := this
  rw [Int.zero_dvd] at h1 h2
  have h4 := apart_dvd h3
  rw [Int.zero_dvd] at h4
  exact ⟨h1, h2, by omega⟩
theorem md_dvd {a b g : Int} (hg : 0 < g) (h : g ∣ a - b) : md a g = md b g := by
  unfold md
  rw [if_neg (by omega), if_neg (by omega)]
  exact Int.emod_eq_emod_iff_emod_sub_eq_zero.2 (Int.emod_eq_zero_of_dvd h)
/-- what a joined congruence is, of two that are told and have ints -/
theorem join_some {a b : Cg} (ha : a.some = true) (hb : b.some = true) (ra : a.red) (rb : b.red) : Cg.join a b = if Cg.gcdJ a b > 9223372036854775807 then ⟨true, 1, 0⟩ else ⟨true, Cg.gcdJ a b, md a.r (Cg.gcdJ a b)⟩ := by
  unfold Cg.join
  rw [cg_fix ha ra, cg_fix hb rb, ha, hb]
  have := gcdJ_nn a b
  simp only [Bool.not_true, Bool.false_eq_true, if_false]
  split
  · rfl
  · unfold Cg.of; rw [if_neg (by omega)]
theorem join_no1 {a b : Cg} (ha : a = Cg.none) (hb : b.tidy) : Cg.join a b = b := by
  subst ha
  have : (!Cg.none.clean.some) = true := rfl
  unfold Cg.join; rw [if_pos this, Cg.tidy_fix hb]
theorem join_no2 {a b : Cg} (ha : a.tidy) (hs : a.some = true) (hb : b = Cg.none) : Cg.join a b = a := by
  subst hb
  unfold Cg.join; rw [Cg.tidy_fix ha, hs]; rfl
theorem join_tidy {a b : Cg} (ha : a.tidy) (hb : b.tidy) : (Cg.join a b).tidy := by
  rcases ha with ha | ⟨h1, h2⟩
  · rw [join_no1 ha hb]; exact hb
  · rcases hb with hb | ⟨h3, h4⟩
    · rw [join_no2 (.inr ⟨h1, h2⟩) h1 hb]; exact .inr ⟨h1, h2⟩
    · rw [join_some h1 h3 h2 h4]
      have := gcdJ_nn a b
      split
      · right; refine ⟨rfl, ?_⟩; unfold Cg.red; dsimp only; omega
      · right; refine ⟨rfl, ?_⟩; unfold Cg.red; dsimp only
        exact ⟨this, fun h => md_bound _ _ h⟩
theorem has_t {c : Cg} (h : c.tidy) (hs : c.some = true) (n : Int) : c.has n = decide (md n c.m = c.r) := by
  unfold Cg.has; rw [Cg.tidy_fix h, hs]; rfl
theorem cleq_t {a b : Cg} (ha : a.tidy) (hb : b.tidy) (hs : a.some = true) (ht : b.some = true) : Cg.leq a b = (Cg.factor b.m a.m && decide (md a.r b.m = b.r)) := by
  unfold Cg.leq; rw [Cg.tidy_fix ha, Cg.tidy_fix hb, hs, ht, has_t hb ht]; rfl
theorem leq_no {a b : Cg} (ha : a = Cg.none) : Cg.leq a b = true := by subst ha; unfold Cg.leq; rfl
theorem leq_self {a : Cg} (ha : a.tidy) : Cg.leq a a = true := by
  rcases ha with h | ⟨h1, h2⟩
  · exact leq_no h
  · rw [cleq_t (.inr ⟨h1, h2⟩) (.inr ⟨h1, h2⟩) h1 h1]
    unfold Cg.red at h2
    have e : md a.r a.m = a.r := by
      unfold md; split
      · rfl
      · exact Int.emod_eq_of_lt (h2.2 (by omega)).1 (h2.2 (by omega)).2
    rw [e]; unfold Cg.factor; split <;> simp_all
theorem fac_g {g m : Int} (h : g ∣ m) (h0 : g = 0 → m = 0) : Cg.factor g m = true := by
  unfold Cg.factor; split
  · rename_i e; simp [h0 e]
  · simp [Int.emod_eq_zero_of_dvd h]
theorem cg_join_leq {a b : Cg} (ha : a.tidy) (hb : b.tidy) : Cg.leq a (Cg.join a b) = true ∧ Cg.leq b (Cg.join a b) = true := by
  have hj := join_tidy ha hb
  rcases ha with h | ⟨h1, h2⟩
  · rw [join_no1 h hb]; exact ⟨leq_no h, leq_self hb⟩
  · rcases hb with h | ⟨h3, h4⟩
    · rw [join_no2 (.inr ⟨h1, h2⟩) h1 h]; exact ⟨leq_self (.inr ⟨h1, h2⟩), leq_no h⟩
    · have e := join_some h1 h3 h2 h4
      have hd := gcdJ_dvd (x := a) (y := b)
      have h0 := gcdJ_zero (x := a) (y := b)
      have hn := gcdJ_nn a b
      have ha' : a.tidy := .inr ⟨h1, h2⟩
      have hb' : b.tidy := .inr ⟨h3, h4⟩
      have hs : (Cg.join a b).some = true := by rw [e]; split <;> rfl
      rw [cleq_t ha' hj h1 hs, cleq_t hb' hj h3 hs, e]
      split
      · have m1 : ∀ x : Int, md x 1 = 0 := fun x => by unfold md; rw [if_neg (by omega)]; exact Int.emod_one x
        dsimp only
        rw [m1, m1, fac_g (Int.one_dvd _) (by omega), fac_g (Int.one_dvd _) (by omega)]; simp
      · dsimp only
        rw [fac_g hd.1 (fun h => (h0 h).1), fac_g hd.2.1 (fun h => (h0 h).2.1)]
        have : md b.r (Cg.gcdJ a b) = md a.r (Cg.gcdJ a b) := by
          rcases Int.lt_or_eq_of_le hn with h | h
          · exact (md_dvd h (apart_dvd hd.2.2)).symm
          · rw [(h0 h.symm).2.2]
        rw [this]; simp
theorem cg_some_63 {c : Cg} (hs : c.some = true) (hi : c.inR) (hr : c.red) : cpot c ≤ 63 := by
  unfold cpot; rw [hs]
  unfold Cg.inR at hi; unfold Cg.red at hr
  simp only [Bool.not_true, Bool.false_eq_true, if_false]
  split
  · omega
  · have := log_62 (m := c.m.toNat) (by omega) (by omega); omega
theorem cg_climb {a b : Cg} (ha : a.tidy) (hb : b.tidy) (ia : a.inR) (ib : b.inR) : Cg.join a b = a ∨ cpot (Cg.join a b) + 1 ≤ cpot a := by
  rcases ha with h | ⟨h1, h2⟩
  · rw [join_no1 h hb]
    rcases hb with h' | ⟨h3, h4⟩
    · left; rw [h, h']
    · right
      have := cg_some_63 h3 ib h4
      have : cpot a = 64 := by rw [h]; rfl
      omega
  · rcases hb with h' | ⟨h3, h4⟩
    · left; exact join_no2 (.inr ⟨h1, h2⟩) h1 h'
    · have e := join_some h1 h3 h2 h4
      have hd := gcdJ_dvd (x := a) (y := b)
      have h0 := gcdJ_zero (x := a) (y := b)
      have hn := gcdJ_nn a b
      obtain ⟨sa, ma, ra⟩ := a
      have h1 : sa = true := h1
      subst h1
      unfold Cg.inR at ia; unfold Cg.red at h2
      dsimp only at ia h2 hd h0
      by_cases hm : ma = 0
      · -- one int
        have pa : cpot ⟨true, ma, ra⟩ = 63 := by unfold cpot; simp [hm]
        rw [pa, e]
        split
        · right; show cpot ⟨true, 1, 0⟩ + 1 ≤ 63; decide
        · rename_i hg
          rcases Int.lt_or_eq_of_le hn with h | h
          · right
            unfold cpot
            simp only [Bool.not_true, Bool.false_eq_true, if_false]
            rw [if_neg (by omega)]
            have := log_62 (m := (Cg.gcdJ ⟨true, ma, ra⟩ b).toNat) (by omega) (by omega)
            omega
          · left
            rw [← h, hm]
            congr 1
      · have hpos : 0 < ma := by omega
        have hle : Cg.gcdJ ⟨true, ma, ra⟩ b ≤ ma := Int.le_of_dvd hpos hd.1
        have hgp : 0 < Cg.gcdJ ⟨true, ma, ra⟩ b := by
          rcases Int.lt_or_eq_of_le hn with h | h
          · exact h
          · exact absurd (h0 h.symm).1 hm
        rw [e, if_neg (by omega)]
        by_cases hq : Cg.gcdJ ⟨true, ma, ra⟩ b = ma
        · left
          rw [hq]
          congr 1
          unfold md; rw [if_neg (by omega)]; exact Int.emod_eq_of_lt (h2.2 hpos).1 (h2.2 hpos).2
        · right
          unfold cpot
          simp only [Bool.not_true, Bool.false_eq_true, if_false]
          rw [if_neg (by omega), if_neg hm]
          obtain ⟨k, hk⟩ := hd.1
          have hk2 : 2 ≤ k := by
            rcases Int.lt_or_le k 2 with h | h
            · have : k = 1 ∨ k ≤ 0 := by omega
              rcases this with rfl | h'
              · rw [Int.mul_one] at hk; exact absurd hk.symm hq
              · have := Int.mul_nonpos_of_nonneg_of_nonpos hn h'; omega
            · exact h
          have h2g : 2 * Cg.gcdJ ⟨true, ma, ra⟩ b ≤ ma := by
            have := Int.mul_le_mul_of_nonneg_left hk2 hn
            rw [← hk, Int.mul_comm] at this; exact this
          exact log_half (by omega) (by omega)
theorem sub_len : ∀ {l m : List ByteArray}, l.Nodup → (∀ z, z ∈ l → z ∈ m) → l.length ≤ m.length
  | [], _, _, _ => Nat.zero_le _
  | x :: l, m, hn, hs => by
    rw [List.nodup_cons] at hn
    have hx := hs x (by simp)
    have h1 := sub_len (l := l) (m := m.filter (fun z => decide (z ≠ x))) hn.2 (fun z hz => List.mem_filter.2 ⟨hs z (by simp [hz]), by simp only [decide_eq_true_eq]; exact fun e => hn.1 (e ▸ hz)⟩)
    have h2 : (m.filter (fun z => decide (z ≠ x))).length < m.length := List.length_filter_lt_length_iff_exists.2 ⟨x, hx, by simp⟩
    simp only [List.length_cons]; omega
theorem srt_nodup {l : List ByteArray} (h : Srt l) : l.Nodup := by
  unfold Srt at h
  exact h.imp fun {a b} hab e => by subst e; exact absurd hab (List.lt_irrefl _)
theorem sub_lt {l m : List ByteArray} (hl : Srt l) (hs : ∀ z, z ∈ l → z ∈ m) {x : ByteArray} (hx : x ∈ m) (hn : ¬ x ∈ l) : l.length + 1 ≤ m.length :=
  sub_len (l := x :: l) (List.nodup_cons.2 ⟨hn, srt_nodup hl⟩) (fun z hz => by rcases List.mem_cons.1 hz with rfl | h; exact hx; exact hs z h)
theorem tidy_c {i : Ig} (h : i.tidy) : i.c.tidy := by
  rcases h with rfl | ⟨⟨_, h2⟩, _, h4⟩
  · exact .inl rfl
  · exact .inr ⟨h2, h4⟩
theorem tidy_s {i : Ig} (h : i.tidy) : Sp.isC i.s = true := by
  rcases h with rfl | ⟨⟨h1, _⟩, h3, _⟩
  · rfl
  · unfold Sp.isC Sp.none; rw [h1]; simp; left; omega
def ipot (l : List Int) (i : Ig) : Int := Sp.wpot l i.s + (cpot i.c : Int)
def joinI (a b : Ig) (l : List Int) : Ig := ⟨a.s.widen b.s l, a.c.join b.c⟩
theorem join_tidyI {a b : Ig} {l : List Int} (ha : a.tidy) (hb : b.tidy) (ib : b.s.inR) : (joinI a b l).tidy := by
  rcases ha with rfl | ⟨⟨h1, h2⟩, h3, h4⟩
  · have e1 : Sp.widen Ig.zero.s b.s l = b.s.clean := rfl
    have e2 : Cg.join Ig.zero.c b.c = b.c := join_no1 rfl (tidy_c hb)
    have e3 : b.s.clean = b.s := by
      have := tidy_fix hb
      rcases hb with rfl | ⟨⟨q1, q2⟩, q3, q4⟩
      · rfl
      · unfold Sp.clean Sp.none; rw [q1]; simp; omega
    unfold joinI; rw [e1, e2, e3]; exact hb
  · right
    have hj := join_tidy (.inr ⟨h2, h4⟩ : a.c.tidy) (tidy_c hb)
    have hs : (Cg.join a.c b.c).some = true := by
      rcases tidy_c hb with h | ⟨q1, q2⟩
      · rw [join_no2 (.inr ⟨h2, h4⟩) h2 h]; exact h2
      · rw [join_some h2 q1 h4 q2]; split <;> rfl
    have hu := under_le l b.s.lo (by unfold Sp.inR at ib; omega)
    have ho := over_ge l b.s.hi (by unfold Sp.inR at ib; omega)
    have hw : (a.s.widen b.s l).some = true ∧ (a.s.widen b.s l).lo ≤ (a.s.widen b.s l).hi := by
      have hn : a.s.none = false := by unfold Sp.none; rw [h1]; simp; omega
      unfold Sp.widen; rw [hn]
      simp only [Bool.false_eq_true, if_false]
      split
      · exact ⟨h1, h3⟩
      · exact ⟨h1, by dsimp only; split <;> split <;> omega⟩
    refine ⟨⟨hw.1, hs⟩, hw.2, ?_⟩
    rcases hj with h | ⟨_, h⟩
    · unfold joinI; dsimp only; rw [h] at hs; cases hs
    · exact h
theorem climbI {a b : Ig} {l : List Int} (ha : a.tidy) (hb : b.tidy) (ia : a.s.inR ∧ a.c.inR) (ib : b.s.inR ∧ b.c.inR) :
    ipot l (joinI a b l) + (if (Sp.eq (joinI a b l).s a.s && Cg.eq (joinI a b l).c a.c) = true then 0 else 1) ≤ ipot l a := by
  have h1 := cg_climb (tidy_c ha) (tidy_c hb) ia.2 ib.2
  have h2 := Sp.wpot_widen a.s b.s l (tidy_s ha) (Sp.inRb_of ib.1)
  have h3 := Sp.wpot_same l a.s (a.s.widen b.s l)
  unfold ipot joinI
  dsimp only
  cases he : Sp.eq (a.s.widen b.s l) a.s with
  | true =>
    have h3 := h3 he
    rcases h1 with h1 | h1
    · rw [h1, cg_eq_refl]; simp; omega
    · simp only [Bool.true_and]; split <;> omega
  | false =>
    have h2 := h2 he
    simp only [Bool.false_and, Bool.false_eq_true, if_false]
    rcases h1 with h1 | h1
    · rw [h1]; omega
    · omega
structure CInv (l : List Int) (v : Vl) (all : List ByteArray) (n : Int) : Prop where
  tidy : v.i.tidy
  inr : v.i.s.inR ∧ v.i.c.inR
  srt : Srt v.t.names
  sub : ∀ z, z ∈ v.t.names → z ∈ all
  nn : 0 ≤ n
  bnd : n + ipot l v.i ≤ 2 * l.length + 67 + v.t.names.length + (if v.t.null then 1 else 0)
theorem of_told {v : Vl} (h : v.i.tidy) (hs : Srt v.t.names) : v.of = v := by
  unfold Vl.of; rw [tidy_fix h, ofS_eq, cleanS_fix hs]
theorem climb_step {l : List Int} {v x : Vl} {all : List ByteArray} {n : Int} (h : CInv l v all n) (hx : x.i.s.inR ∧ x.i.c.inR) (hl : ∀ y, y ∈ l → rI y) :
    Vl.leq v (Vl.widen v x l) = true ∧ Vl.leq x (Vl.widen v x l) = true ∧ CInv l (Vl.widen v x l) (cleanS (all ++ x.t.names)) (n + if Vl.same (Vl.widen v x l) v = true then 0 else 1) := by
  have hv := of_told h.tidy h.srt
  have hxo : x.of.i.tidy := clean_tidy x.i
  have hxi : x.of.i.s.inR ∧ x.of.i.c.inR := Ig.clean_inR hx.1 hx.2
  have hwi : (Vl.widen v x l).i = joinI v.i x.of.i l := by unfold Vl.widen joinI; rw [hv]
  have hwn : ∀ z, z ∈ (Vl.widen v x l).t.names ↔ z ∈ v.t.names ∨ z ∈ x.t.names := by
    intro z
    show z ∈ ofS (ofS v.t.names ++ ofS x.t.names) ↔ _
    rw [ofS_eq, cleanS_mem, List.mem_append, ofS_eq, ofS_eq, cleanS_mem, cleanS_mem]
  have hws : Srt (Vl.widen v x l).t.names := by
    show Srt (ofS (ofS v.t.names ++ ofS x.t.names)); rw [ofS_eq]; exact cleanS_srt _
  have hwt : (Vl.widen v x l).i.tidy := by rw [hwi]; exact join_tidyI h.tidy hxo hxi.1
  have hwo := of_told hwt hws
  have hnull : (Vl.widen v x l).t.null = (v.t.null || x.t.null) := rfl
  have hwr : (Vl.widen v x l).i.s.inR ∧ (Vl.widen v x l).i.c.inR := by
    rw [hwi]; exact ⟨Sp.widen_inR h.inr.1 hxi.1 hl, Cg.join_inR h.inr.2 hxi.2⟩
  have hb := Sp.inRb_of hxi.1
  have hcl := cg_join_leq (tidy_c h.tidy) (tidy_c hxo)
  refine ⟨?_, ?_, hwt, hwr, hws, ?_, ?_, ?_⟩
  · unfold Vl.leq Ig.leq
    rw [hwo, hv, hwi]
    have e1 : Sp.leq v.i.s (joinI v.i x.of.i l).s = true := Sp.leq_widen1 _ _ _ hb
    have e2 : Cg.leq v.i.c (joinI v.i x.of.i l).c = true := hcl.1
    rw [e1, e2, hnull]
    simp only [Bool.true_and, Bool.and_eq_true]
    refine ⟨by cases v.t.null <;> simp, ?_⟩
    rw [subS_iff]; intro z hz
    rw [ofS_eq, cleanS_mem] at hz ⊢
    exact (hwn z).2 (.inl hz)
  · unfold Vl.leq Ig.leq
    rw [hwo, hwi]
    have e1 : Sp.leq x.of.i.s (joinI v.i x.of.i l).s = true := Sp.leq_widen2 _ _ _ hb
    have e2 : Cg.leq x.of.i.c (joinI v.i x.of.i l).c = true := hcl.2
    rw [e1, e2, hnull]
    simp only [Bool.true_and, Bool.and_eq_true]
    refine ⟨by cases v.t.null <;> cases x.t.null <;> simp, ?_⟩
    rw [subS_iff]; intro z hz
    rw [ofS_eq, cleanS_mem] at hz ⊢
    exact (hwn z).2 (.inr hz)
  · intro z hz
    rw [cleanS_mem, List.mem_append]
    rcases (hwn z).1 hz with h1 | h1
    · exact .inl (h.sub z h1)
    · exact .inr h1
  · have := h.nn; split <;> omega
  · have hc := climbI (l := l) h.tidy hxo h.inr hxi
    rw [← hwi] at hc
    have hb := h.bnd
    have hlen : v.t.names.length ≤ (Vl.widen v x l).t.names.length := sub_len (srt_nodup h.srt) fun z hz => (hwn z).2 (.inl hz)
    have hnl : (if v.t.null then 1 else 0 : Int) ≤ (if (Vl.widen v x l).t.null then 1 else 0) := by rw [hnull]; cases v.t.null <;> cases x.t.null <;> simp
    cases hsame : Vl.same (Vl.widen v x l) v with
    | true =>
      simp only [if_true]
      split at hc <;> omega
    | false =>
      simp only [Bool.false_eq_true, if_false]
      unfold Vl.same at hsame
      rw [hwo, hv] at hsame
      cases he : (Sp.eq (Vl.widen v x l).i.s v.i.s && Cg.eq (Vl.widen v x l).i.c v.i.c) with
      | false => rw [he] at hc; simp only [Bool.false_eq_true, if_false] at hc; omega
      | true =>
        rw [he] at hc hsame
        simp only [if_true] at hc
        simp only [Bool.true_and] at hsame
        have hsub : subS (ofS v.t.names) (ofS (Vl.widen v x l).t.names) = true := by
          rw [subS_iff]; intro z hz
          rw [ofS_eq, cleanS_mem] at hz ⊢
          exact (hwn z).2 (.inl hz)
        have hvn : (!v.t.null || (Vl.widen v x l).t.null) = true := by rw [hnull]; cases v.t.null <;> simp
        rw [hsub, hvn] at hsame
        simp only [Bool.and_true] at hsame
        rcases Bool.and_eq_false_iff.1 hsame with h1 | h1
        · have h2 : (Vl.widen v x l).t.null = true ∧ v.t.null = false := by
            cases q1 : (Vl.widen v x l).t.null <;> cases q2 : v.t.null <;> simp [q1, q2] at h1 ⊢
          rw [h2.1]
          rw [h2.2] at hb
          simp only [if_true, Bool.false_eq_true, if_false] at hb ⊢
          omega
        · have h2 : ∃ z, z ∈ (Vl.widen v x l).t.names ∧ ¬ z ∈ v.t.names := by
            rcases Classical.em (∃ z, z ∈ (Vl.widen v x l).t.names ∧ ¬ z ∈ v.t.names) with h | h
            · exact h
            · exfalso
              have : subS (ofS (Vl.widen v x l).t.names) (ofS v.t.names) = true := by
                rw [subS_iff]; intro z hz
                rw [ofS_eq, cleanS_mem] at hz ⊢
                rcases Classical.em (z ∈ v.t.names) with h' | h'
                · exact h'
                · exact absurd ⟨z, hz, h'⟩ h
              rw [this] at h1; cases h1
          obtain ⟨z, hz1, hz2⟩ := h2
          have := sub_lt h.srt (fun z hz => (hwn z).2 (.inl hz)) hz1 hz2
          omega
theorem climb_end {l : List Int} {v : Vl} {all : List ByteArray} {n : Int} (h : CInv l v all n) : n ≤ 2 * l.length + all.length + 71 := by
  have h1 := h.bnd
  have h2 := Sp.wpot_le l v.i.s
  have h3 : v.t.names.length ≤ all.length := sub_len (srt_nodup h.srt) h.sub
  unfold ipot at h1
  split at h1 <;> omega
theorem climb_start (l : List Int) : CInv l Vl.zero [] 0 := by
  refine ⟨.inl rfl, by unfold Vl.zero Ig.zero Sp.inR Cg.inR; decide, by unfold Vl.zero Srt; simp, fun z hz => hz, Int.le_refl _, ?_⟩
  have : ipot l Vl.zero.i = 2 * l.length + 3 + 64 := rfl
  rw [this]; unfold Vl.zero; simp; omega


end Go.Proofs.Ytbfinmfdcbghfaa
