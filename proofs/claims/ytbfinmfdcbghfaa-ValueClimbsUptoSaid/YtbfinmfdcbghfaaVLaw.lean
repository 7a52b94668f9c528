/- The plain laws of the layer of values. No program in sight. -/
import Derived.Test.YtbfinmfdcbghfaaVal4
import Derived.Test.YtbfinmfdcbghfaaNLaw
namespace Go.Proofs.Ytbfinmfdcbghfaa
set_option linter.all false
open Go.Sx

theorem of_rclean (v : Vl) : v.of = v.rclean := by unfold Vl.of Vl.rclean; rw [ofS_eq]
theorem reduce_eq (v : Vl) : v.reduce = v.rreduce := by unfold Vl.reduce Vl.rreduce; rw [of_rclean]
theorem sp_eq_refl (a : Sp) : Sp.eq a a = true := by simp [Sp.eq]
theorem cg_eq_refl (a : Cg) : Cg.eq a a = true := by simp [Cg.eq]
theorem exact_refl (v : Vl) : v.exact v = true := by unfold Vl.exact; simp [sp_eq_refl, cg_eq_refl]
/-- ints as they are told: none, or a span with ends in their order and a congruence with its rest -/
def Ig.tidy (i : Ig) : Prop := i = Ig.zero ∨ ((i.s.some = true ∧ i.c.some = true) ∧ i.s.lo ≤ i.s.hi ∧ i.c.red)
theorem clean_tidy (i : Ig) : i.clean.tidy := by
  cases h : i.clean.s.some with
  | false => exact .inl (clean_dead h)
  | true => exact .inr ⟨⟨h, (clean_live h).1⟩, (clean_live h).2, clean_red⟩
theorem cg_fix {c : Cg} (h : c.some = true) (hr : c.red) : c.clean = c := by
  obtain ⟨b, m, r⟩ := c
  unfold Cg.clean Cg.of md
  unfold Cg.red at hr
  dsimp only at *
  subst h
  rw [if_pos rfl, if_neg (by omega)]
  split
  · rfl
  · have := hr.2 (by omega)
    rw [Int.emod_eq_of_lt this.1 this.2]
theorem tidy_fix {i : Ig} (h : i.tidy) : i.clean = i := by
  rcases h with rfl | ⟨⟨h1, h2⟩, h3, h4⟩
  · rfl
  · obtain ⟨⟨s, l, h⟩, c⟩ := i
    dsimp only at *
    subst h1
    have hn : Sp.none ⟨true, l, h⟩ = false := by unfold Sp.none; simp; omega
    unfold Ig.clean Ig.none
    dsimp only
    rw [hn, h2]
    rw [cg_fix h2 h4]
    unfold Sp.clean
    rw [hn]
    rfl
theorem of_le {a b : Int} (h : a ≤ b) : Sp.of a b = ⟨true, a, b⟩ := by unfold Sp.of; rw [if_neg (by omega)]
theorem cg_of0 (a : Int) : Cg.of 0 a = ⟨true, 0, a⟩ := by simp [Cg.of, md]
theorem up_facts {n m r : Int} (h : 0 < m) : 0 ≤ (r - n) % m ∧ (r - n) % m < m ∧ (n + (r - n) % m - r) % m = 0 := by
  refine ⟨Int.emod_nonneg _ (by omega), Int.emod_lt_of_pos _ h, ?_⟩
  have h1 : n + (r - n) % m - r = (r - n) % m - (r - n) := by omega
  rw [h1]
  have h2 := Int.emod_add_mul_ediv (r - n) m
  have h3 : (r - n) % m - (r - n) = m * (-((r - n) / m)) := by rw [Int.mul_neg]; omega
  rw [h3, Int.mul_emod_right]
theorem md_eq0 {n m r : Int} (hm : 0 < m) (h0 : 0 ≤ r) (h1 : r < m) : md n m = r ↔ (n - r) % m = 0 := by
  unfold md
  rw [if_neg (by omega)]
  have h2 := Int.emod_nonneg n (show m ≠ 0 by omega)
  have h3 := Int.emod_lt_of_pos n hm
  have h4 := Int.emod_add_mul_ediv n m
  have h5 := Int.emod_add_mul_ediv (n - r) m
  have h6 := Int.emod_nonneg (n - r) (show m ≠ 0 by omega)
  have h7 := Int.emod_lt_of_pos (n - r) hm
  constructor
  · intro h
    have : n - r = m * (n / m) := by omega
    rw [this, Int.mul_emod_right]
  · intro h
    have : n = r + m * ((n - r) / m) := by omega
    rw [this, Int.add_mul_emod_self_left, Int.emod_eq_of_lt h0 h1]
/-- a congruence has an int: its rest is the congruence's -/
def Cg.on (c : Cg) (n : Int) : Prop := md n c.m = c.r
instance (c : Cg) (n : Int) : Decidable (c.on n) := inferInstanceAs (Decidable (md n c.m = c.r))
theorem has_on {c : Cg} (h : c.some = true) (hr : c.red) (n : Int) : c.has n = decide (c.on n) := by
  unfold Cg.has Cg.on
  rw [cg_fix h hr, h]; rfl
theorem wIn {n : Int} (h : -9223372036854775808 ≤ n ∧ n < 9223372036854775808) : wIntV n = n ∧ wIntB n = true := by unfold wIntV wIntB; simp [h]
theorem wOut {n : Int} (h : ¬ (-9223372036854775808 ≤ n ∧ n < 9223372036854775808)) : wIntB n = false := by unfold wIntB; simp [h]
theorem modge {a m : Int} (hm : 0 < m) (ha : 0 ≤ a) : a % m ≤ a := by
  have h4 := Int.emod_add_mul_ediv a m
  have h5 : 0 ≤ m * (a / m) := Int.mul_nonneg (by omega) (Int.ediv_nonneg ha (by omega))
  omega
theorem emod_of_sub {a b m : Int} (h : (a - b) % m = 0) : a % m = b % m := by
  have h4 := Int.emod_add_mul_ediv (a - b) m
  rw [h] at h4
  have : a = b + m * ((a - b) / m) := by omega
  rw [this, Int.add_mul_emod_self_left]
/-- what a span and a congruence come to when they know one another -/
theorem red_cases {L H M R : Int} (hl : L ≤ H) (hr : Cg.red ⟨true, M, R⟩) (hs : Sp.inR ⟨true, L, H⟩) (hc : Cg.inR ⟨true, M, R⟩) :
    (Ig.red ⟨⟨true, L, H⟩, ⟨true, M, R⟩⟩ = Ig.zero ∧ ∀ n, -9223372036854775808 ≤ n → n < 9223372036854775808 → L ≤ n → n ≤ H → ¬ Cg.on ⟨true, M, R⟩ n) ∨
    ∃ x y, (L ≤ x ∧ x ≤ y ∧ y ≤ H) ∧ (Cg.on ⟨true, M, R⟩ x ∧ Cg.on ⟨true, M, R⟩ y) ∧ (∀ n, L ≤ n → n ≤ H → Cg.on ⟨true, M, R⟩ n → x ≤ n ∧ n ≤ y) ∧ (x ≠ y → 0 < M) ∧
      Ig.red ⟨⟨true, L, H⟩, ⟨true, M, R⟩⟩ = if x = y then ⟨⟨true, x, x⟩, ⟨true, 0, x⟩⟩ else ⟨⟨true, x, y⟩, ⟨true, M, R⟩⟩ := by
  unfold Sp.inR at hs
  dsimp only at hs
  by_cases hM : M = 0
  · subst hM
    have hon : ∀ n, Cg.on ⟨true, 0, R⟩ n ↔ n = R := by intro n; unfold Cg.on md; simp
    by_cases h : L ≤ R ∧ R ≤ H
    · refine .inr ⟨R, R, ⟨h.1, Int.le_refl _, h.2⟩, ⟨(hon R).2 rfl, (hon R).2 rfl⟩, fun n _ _ h => ?_, fun h => absurd rfl h, ?_⟩
      · rw [hon] at h; omega
      · rw [rd_3 rfl (fun _ => ⟨rfl, hl⟩) rfl (by rw [rd_has rfl]; simp; omega), if_pos rfl, of_le (Int.le_refl _)]
    · refine .inl ⟨rd_2 rfl rfl (by rw [rd_has rfl]; simp; omega), fun n _ _ h1 h2 h3 => ?_⟩
      rw [hon] at h3; omega
  · have hm : 0 < M := by unfold Cg.red at hr; dsimp only at hr; omega
    have hR := hr.2 hm
    dsimp only at hR
    have hon : ∀ n, Cg.on ⟨true, M, R⟩ n ↔ (n - R) % M = 0 := fun n => md_eq0 hm hR.1 hR.2
    have u := up_facts (n := L) (r := R) hm
    have hx : (upW L ⟨true, M, R⟩ - R) % M = 0 := u.2.2
    have hxL : L ≤ upW L ⟨true, M, R⟩ := by unfold upW; dsimp only; omega
    have d1 := Int.emod_nonneg (H - R) (show M ≠ 0 by omega)
    have hy : (dnW H ⟨true, M, R⟩ - R) % M = 0 := by
      unfold dnW; dsimp only
      have h2 := Int.emod_add_mul_ediv (H - R) M
      have h3 : H - (H - R) % M - R = M * ((H - R) / M) := by omega
      rw [h3, Int.mul_emod_right]
    have hyH : dnW H ⟨true, M, R⟩ ≤ H := by unfold dnW; dsimp only; omega
    have hlow : ∀ n, L ≤ n → Cg.on ⟨true, M, R⟩ n → upW L ⟨true, M, R⟩ ≤ n := by
      intro n h1 h2
      rw [hon] at h2
      have e := emod_of_sub (a := R - L) (b := n - L) (m := M) (by
        have : R - L - (n - L) = -(n - R) := by omega
        rw [this]; exact Int.emod_eq_zero_of_dvd (Int.dvd_neg.2 (Int.dvd_of_emod_eq_zero h2)))
      have := modge (a := n - L) hm (by omega)
      unfold upW; dsimp only; omega
    have hhigh : ∀ n, n ≤ H → Cg.on ⟨true, M, R⟩ n → n ≤ dnW H ⟨true, M, R⟩ := by
      intro n h1 h2
      rw [hon] at h2
      have e := emod_of_sub (a := H - R) (b := H - n) (m := M) (by
        have : H - R - (H - n) = n - R := by omega
        rw [this, h2])
      have := modge (a := H - n) hm (by omega)
      unfold dnW; dsimp only; omega
    generalize hX : upW L ⟨true, M, R⟩ = x at *
    generalize hY : dnW H ⟨true, M, R⟩ = y at *
    by_cases hxr : x < 9223372036854775808
    · by_cases hyr : -9223372036854775808 ≤ y
      · have wx := wIn (n := x) ⟨by omega, hxr⟩
        have wy := wIn (n := y) ⟨hyr, by omega⟩
        by_cases hxy : x ≤ y
        · refine .inr ⟨x, y, ⟨hxL, hxy, hyH⟩, ⟨(hon x).2 hx, (hon y).2 hy⟩, fun n h1 h2 h3 => ⟨hlow n h1 h3, hhigh n h2 h3⟩, fun _ => hm, ?_⟩
          rw [rd_5 rfl (fun _ => ⟨rfl, hl⟩) hM (by rw [hX, hY, wx.1, wx.2, wy.1, wy.2]; simp; omega), hX, hY, wx.1, wy.1]
          split
          · rw [of_le (Int.le_refl _)]
          · rw [of_le hxy]
        · refine .inl ⟨rd_4c hM (by rw [hX, hY, wx.1, wy.1]; simp; omega), fun n _ _ h1 h2 h3 => ?_⟩
          have := hlow n h1 h3
          have := hhigh n h2 h3
          omega
      · refine .inl ⟨rd_4b hM (by rw [hY, wOut (by omega)]; rfl), fun n h0 _ h1 h2 h3 => ?_⟩
        have := hhigh n h2 h3
        omega
    · refine .inl ⟨rd_4a hM (by rw [hX, wOut (by omega)]; rfl), fun n _ h0 h1 h2 h3 => ?_⟩
      have := hlow n h1 h3
      omega
theorem red_one (x : Int) : Ig.red ⟨⟨true, x, x⟩, ⟨true, 0, x⟩⟩ = ⟨⟨true, x, x⟩, ⟨true, 0, x⟩⟩ := by
  rw [rd_3 rfl (fun _ => ⟨rfl, Int.le_refl _⟩) rfl (by rw [rd_has rfl]; simp), of_le (Int.le_refl _)]
theorem up_on {n m r : Int} {b : Bool} (hm : 0 < m) (hr : Cg.red ⟨b, m, r⟩) (h : Cg.on ⟨b, m, r⟩ n) : upW n ⟨b, m, r⟩ = n ∧ dnW n ⟨b, m, r⟩ = n := by
  have hR := hr.2 hm
  dsimp only at hR
  have h1 : (n - r) % m = 0 := (md_eq0 hm hR.1 hR.2).1 h
  have h2 : (r - n) % m = 0 := by
    have : r - n = -(n - r) := by omega
    rw [this]; exact Int.emod_eq_zero_of_dvd (Int.dvd_neg.2 (Int.dvd_of_emod_eq_zero h1))
  unfold upW dnW
  dsimp only
  rw [h1, h2]; omega
theorem red_two {x y M R : Int} (hx : -9223372036854775808 ≤ x) (hy : y < 9223372036854775808) (hxy : x < y) (hM : 0 < M) (hr : Cg.red ⟨true, M, R⟩) (h1 : Cg.on ⟨true, M, R⟩ x) (h2 : Cg.on ⟨true, M, R⟩ y) : Ig.red ⟨⟨true, x, y⟩, ⟨true, M, R⟩⟩ = ⟨⟨true, x, y⟩, ⟨true, M, R⟩⟩ := by
  have e1 := (up_on hM hr h1).1
  have e2 := (up_on hM hr h2).2
  have wx := wIn (n := x) ⟨hx, by omega⟩
  have wy := wIn (n := y) ⟨by omega, hy⟩
  rw [rd_5 rfl (fun _ => ⟨rfl, by omega⟩) (by omega) (by rw [e1, e2, wx.1, wx.2, wy.1, wy.2]; simp; omega), e1, e2, wx.1, wy.1, if_neg (by omega), of_le (by omega)]
theorem zero_tidy : Ig.zero.tidy := .inl rfl
theorem one_red (x : Int) : Cg.red ⟨true, 0, x⟩ := by unfold Cg.red; dsimp only; omega
/-- what is told of tidy ints, once and for all -/
theorem red_law {i : Ig} (ht : i.tidy) (hs : i.s.inR) (hc : i.c.inR) :
    i.red.tidy ∧ i.red.red = i.red ∧ i.red.leq i = true ∧ ∀ n, -9223372036854775808 ≤ n → n < 9223372036854775808 → (i.red.s.has n && i.red.c.has n) = (i.s.has n && i.c.has n) := by
  rcases ht with rfl | ⟨⟨h1, h2⟩, h3, h4⟩
  · exact ⟨zero_tidy, rfl, by decide, fun _ _ _ => rfl⟩
  · obtain ⟨⟨s, L, H⟩, ⟨b, M, R⟩⟩ := i
    dsimp only at *
    subst h1; subst h2
    have hfix := cg_fix (c := ⟨true, M, R⟩) rfl h4
    have hh : ∀ n, (Sp.has ⟨true, L, H⟩ n && Cg.has ⟨true, M, R⟩ n) = decide ((L ≤ n ∧ n ≤ H) ∧ Cg.on ⟨true, M, R⟩ n) := by
      intro n
      rw [has_on rfl h4]
      unfold Sp.has
      simp [Bool.and_assoc]
    rcases red_cases h3 h4 hs hc with ⟨e, hn⟩ | ⟨x, y, ⟨k1, k2, k3⟩, ⟨o1, o2⟩, hb, hm, e⟩
    · rw [e]
      refine ⟨zero_tidy, rfl, by unfold Ig.leq; rfl, fun n n0 n1 => ?_⟩
      rw [hh]
      have : ¬ ((L ≤ n ∧ n ≤ H) ∧ Cg.on ⟨true, M, R⟩ n) := fun h => hn n n0 n1 h.1.1 h.1.2 h.2
      rw [decide_eq_false this]; rfl
    · unfold Sp.inR at hs
      dsimp only at hs
      have hleq : ∀ a : Int, Sp.has ⟨true, L, H⟩ a = decide (L ≤ a ∧ a ≤ H) := by intro a; unfold Sp.has; simp
      by_cases hxy : x = y
      · rw [if_pos hxy] at e
        rw [e]
        refine ⟨.inr ⟨⟨rfl, rfl⟩, Int.le_refl _, one_red x⟩, red_one x, ?_, fun n n0 n1 => ?_⟩
        · unfold Ig.leq Sp.leq Cg.leq
          dsimp only
          rw [hleq, cg_fix rfl (one_red x), hfix]
          have h0 : Cg.has ⟨true, M, R⟩ x = true := by rw [has_on rfl h4]; exact decide_eq_true o1
          have hf : Cg.factor M 0 = true := by unfold Cg.factor; split <;> simp
          rw [h0, hf]
          simp; omega
        · rw [hh]
          have h5 : (Sp.has ⟨true, x, x⟩ n && Cg.has ⟨true, 0, x⟩ n) = decide (n = x) := by
            rw [has_on rfl (one_red x)]
            unfold Sp.has Cg.on md
            rw [Bool.eq_iff_iff]
            simp
            omega
          rw [h5]
          rw [decide_eq_decide]
          constructor
          · rintro rfl; exact ⟨⟨k1, by omega⟩, o1⟩
          · rintro ⟨⟨q1, q2⟩, q3⟩
            have := hb n q1 q2 q3
            omega
      · have hm := hm hxy
        rw [if_neg hxy] at e
        rw [e]
        refine ⟨.inr ⟨⟨rfl, rfl⟩, k2, h4⟩, red_two (by omega) (by omega) (by omega) hm h4 o1 o2, ?_, fun n n0 n1 => ?_⟩
        · unfold Ig.leq Sp.leq Cg.leq
          dsimp only
          rw [hleq, hleq, hfix]
          have h0 : Cg.has ⟨true, M, R⟩ R = true := by
            rw [has_on rfl h4]
            refine decide_eq_true ?_
            unfold Cg.on md
            dsimp only
            have := h4.2 hm
            dsimp only at this
            rw [if_neg (by omega), Int.emod_eq_of_lt this.1 this.2]
          have hf : Cg.factor M M = true := by unfold Cg.factor; split <;> simp_all
          rw [h0, hf]
          simp; omega
        · rw [hh]
          have h5 : (Sp.has ⟨true, x, y⟩ n && Cg.has ⟨true, M, R⟩ n) = decide ((x ≤ n ∧ n ≤ y) ∧ Cg.on ⟨true, M, R⟩ n) := by
            rw [has_on rfl h4]
            unfold Sp.has
            simp [Bool.and_assoc]
          rw [h5, decide_eq_decide]
          constructor
          · rintro ⟨q, q3⟩; exact ⟨⟨by omega, by omega⟩, q3⟩
          · rintro ⟨⟨q1, q2⟩, q3⟩; exact ⟨hb n q1 q2 q3, q3⟩
theorem has_clean {i : Ig} (n : Int) : (i.clean.s.has n && i.clean.c.has n) = (i.s.has n && i.c.has n) := by
  have hcc : i.c.clean.has n = i.c.has n := by
    unfold Cg.has
    cases h : i.c.some with
    | false => have : i.c.clean = Cg.none := by unfold Cg.clean; simp [h]
               rw [this]; rfl
    | true => rw [cg_fix (c := i.c.clean) (by rw [cg_clean_some]; exact h) (Cg.clean_red _)]
  have hsc : i.s.clean.has n = i.s.has n := by
    unfold Sp.clean
    split
    · rename_i h
      unfold Sp.none at h
      unfold Sp.has
      rw [Bool.eq_iff_iff]
      simp at h ⊢
      intro h1 h2
      rcases h with h | h
      · simp [h] at h1
      · omega
    · rfl
  unfold Ig.clean
  split
  · rename_i h
    unfold Ig.none Sp.none at h
    have : (i.s.has n && i.c.has n) = false := by
      cases h1 : i.c.some with
      | false => have : i.c.has n = false := by unfold Cg.has; rw [cg_clean_some, h1]; rfl
                 rw [this]; simp
      | true =>
        rw [h1] at h
        have : i.s.has n = false := by
          unfold Sp.has
          cases h2 : i.s.some with
          | false => rfl
          | true => rw [h2] at h; simp at h; simp; omega
        rw [this]; rfl
    rw [this]; rfl
  · dsimp only
    rw [hcc, hsc]
theorem v1 (v : Vl) : v.reduce.exact v.rreduce = true := by rw [reduce_eq]; exact exact_refl _
theorem v2 {v : Vl} (h1 : v.i.s.inR) (h2 : v.i.c.inR) : v.reduce.reduce.exact v.reduce = true := by
  have hc := Ig.clean_inR h1 h2
  have h := red_law (clean_tidy v.i) hc.1 hc.2
  have e : v.reduce.reduce = v.reduce := by
    unfold Vl.reduce Vl.of
    dsimp only
    rw [tidy_fix h.1, h.2.1, ofS_eq, ofS_eq, cleanS_idem]
  rw [e]; exact exact_refl _
theorem v3 {v : Vl} {n : Int} (h1 : v.i.s.inR) (h2 : v.i.c.inR) (hn : -9223372036854775808 ≤ n ∧ n < 9223372036854775808) : v.reduce.hasInt n = v.hasInt n := by
  have hc := Ig.clean_inR h1 h2
  have h := red_law (clean_tidy v.i) hc.1 hc.2
  unfold Vl.hasInt Vl.reduce Vl.of
  dsimp only
  rw [h.2.2.2 n hn.1 hn.2, has_clean]
theorem v4 {v : Vl} (h1 : v.i.s.inR) (h2 : v.i.c.inR) : v.reduce.leq v = true := by
  have hc := Ig.clean_inR h1 h2
  have h := red_law (clean_tidy v.i) hc.1 hc.2
  unfold Vl.leq Vl.reduce Vl.of
  dsimp only
  rw [tidy_fix h.1, h.2.2.1, ofS_eq, ofS_eq, cleanS_idem]
  have : subS (cleanS v.t.names) (cleanS v.t.names) = true := subS_iff.2 fun _ h => h
  rw [this]; cases v.t.null <;> rfl
theorem v6 (b : Bool) (l : List ByteArray) : Vl.exact ⟨Ig.zero, ⟨b, ofS l⟩⟩ ⟨Ig.zero, ⟨b, cleanS l⟩⟩ = true := by rw [ofS_eq]; exact exact_refl _
theorem one_eq (n : Int) : (⟨Sp.of n n, Cg.of 0 n⟩ : Ig) = ⟨⟨true, n, n⟩, ⟨true, 0, n⟩⟩ := by rw [of_le (Int.le_refl _), cg_of0]
theorem one_tidy (n : Int) : Ig.tidy ⟨⟨true, n, n⟩, ⟨true, 0, n⟩⟩ := .inr ⟨⟨rfl, rfl⟩, Int.le_refl _, one_red n⟩
theorem v7 (n : Int) : Vl.exact ⟨⟨Sp.of n n, Cg.of 0 n⟩, ⟨false, []⟩⟩ (Vl.rreduce ⟨⟨Sp.of n n, Cg.of 0 n⟩, ⟨false, []⟩⟩) = true := by
  rw [one_eq]
  unfold Vl.rreduce Vl.rclean
  dsimp only
  rw [tidy_fix (one_tidy n), red_one]
  exact exact_refl _
theorem v8 (n : Int) : Vl.hasInt ⟨⟨Sp.of n n, Cg.of 0 n⟩, ⟨false, []⟩⟩ n = true := by
  rw [one_eq]
  unfold Vl.hasInt
  dsimp only
  rw [has_on rfl (one_red n)]
  unfold Sp.has Cg.on md
  simp
theorem v9 {n : Int} (hn : -9223372036854775808 ≤ n ∧ n < 9223372036854775808) : Vl.hasInt ⟨⟨Sp.of (-9223372036854775808) 9223372036854775807, Cg.of 1 0⟩, ⟨false, []⟩⟩ n = true := by
  unfold Vl.hasInt
  dsimp only
  rw [of_le (by decide)]
  have e : Cg.of 1 0 = ⟨true, 1, 0⟩ := rfl
  have hr : Cg.red ⟨true, 1, 0⟩ := by unfold Cg.red; decide
  rw [e, has_on rfl hr]
  unfold Sp.has Cg.on md
  simp; omega
theorem live0 : Vl.reduce ⟨⟨⟨true, 0, 10⟩, ⟨true, 4, 1⟩⟩, ⟨false, []⟩⟩ = ⟨⟨⟨true, 1, 9⟩, ⟨true, 4, 1⟩⟩, ⟨false, []⟩⟩ := by
  unfold Vl.reduce Vl.of
  rw [ofS_eq]
  rfl
theorem nF {b : Bool} (h : b = true) (h2 : b = false) : False := by rw [h] at h2; cases h2
theorem v1f (v : Vl) (h : v.reduce.exact v.rreduce = false) : False := nF (v1 v) h
theorem v2f (v : Vl) (h1 : v.i.s.inR) (h2 : v.i.c.inR) (h : v.reduce.reduce.exact v.reduce = false) : False := nF (v2 h1 h2) h
theorem v3f (v : Vl) (n : Int) (h1 : v.i.s.inR) (h2 : v.i.c.inR) (hn : -9223372036854775808 ≤ n ∧ n < 9223372036854775808) (h : (v.reduce.hasInt n == v.hasInt n) = false) : False := nF (by rw [v3 h1 h2 hn]; simp) h
theorem v4f (v : Vl) (h1 : v.i.s.inR) (h2 : v.i.c.inR) (h : v.reduce.leq v = false) : False := nF (v4 h1 h2) h
theorem v6f (b : Bool) (l : List ByteArray) (h : Vl.exact ⟨Ig.zero, ⟨b, ofS l⟩⟩ ⟨Ig.zero, ⟨b, cleanS l⟩⟩ = false) : False := nF (v6 b l) h
theorem v7f (n : Int) (h : Vl.exact (⟨⟨Sp.of n n, Cg.of 0 n⟩, ⟨false, []⟩⟩ : Vl) (Vl.rreduce (⟨⟨Sp.of n n, Cg.of 0 n⟩, ⟨false, []⟩⟩ : Vl)) = false) : False := nF (v7 n) h
theorem v8f (n : Int) (h : Vl.hasInt (⟨⟨Sp.of n n, Cg.of 0 n⟩, ⟨false, []⟩⟩ : Vl) n = false) : False := nF (v8 n) h
theorem v9f (n : Int) (hn : -9223372036854775808 ≤ n ∧ n < 9223372036854775808) (h : Vl.hasInt ⟨⟨Sp.of (-9223372036854775808) 9223372036854775807, Cg.of 1 0⟩, ⟨false, []⟩⟩ n = false) : False := nF (v9 hn) h
theorem one_inR {n : Int} (h : -9223372036854775808 ≤ n ∧ n < 9223372036854775808) : Sp.inR (Sp.of n n) ∧ Cg.inR (Cg.of 0 n) := by
  rw [of_le (Int.le_refl _), cg_of0]
  unfold Sp.inR Cg.inR
  dsimp only; omega
theorem all_inR : Sp.inR (Sp.of (-9223372036854775808) 9223372036854775807) ∧ Cg.inR (Cg.of 1 0) := by
  rw [of_le (by decide), show Cg.of 1 0 = ⟨true, 1, 0⟩ from rfl]
  unfold Sp.inR Cg.inR
  dsimp only; omega
/-- values that the functions take -/
def okV (v : Vl) : Prop := (v.t.names.length * 16 ≤ 140737488351232 ∧ ∀ i, i < v.t.names.length → [st (atS v.t.names i)] = [st (gT [st (atS v.t.names i)])]) ∧ v.i.s.inR ∧ v.i.c.inR
theorem cleanS_room {n : Nat} {f : Nat → List DV} (h : n * 16 ≤ 140737488351232) : (cleanS (gN n f)).length * 16 ≤ 140737488351232 := by rw [← ofS_eq]; exact ofS_room h
theorem ok_reduce {i : Ig} {z : Bool} {n : Nat} {f : Nat → List DV} (h : n * 16 ≤ 140737488351232) (h1 : i.s.inR) (h2 : i.c.inR) : okV (Vl.reduce ⟨i, ⟨z, gN n f⟩⟩) := by
  have hc := Ig.clean_inR h1 h2
  exact ⟨⟨ofS_room h, fun _ _ => rfl⟩, red_inR hc.1 hc.2⟩
theorem ok_rreduce {i : Ig} {z : Bool} {n : Nat} {f : Nat → List DV} (h : n * 16 ≤ 140737488351232) (h1 : i.s.inR) (h2 : i.c.inR) : okV (Vl.rreduce ⟨i, ⟨z, gN n f⟩⟩) := by
  have hc := Ig.clean_inR h1 h2
  exact ⟨⟨cleanS_room h, fun _ _ => rfl⟩, red_inR hc.1 hc.2⟩


end Go.Proofs.Ytbfinmfdcbghfaa
