/- What more functions of the layer of values compute. No condition. -/
import Derived.Test.YtbfinmfdcbghfaaVal2
namespace Go.Proofs.Ytbfinmfdcbghfaa
set_option linter.all false
open Go.Sx

/-- an empty slice stands for a row of no length -/
def nilD (sz : Nat) : DV → DV
  | .v (.slice none 0 0) => .lst sz 0 (fun _ => [])
  | x => x
def nilI (sz : Nat) : Ic → Ic
  | .d x => .d (nilD sz x)
  | x => x
def nilA (sz : Nat) : Ar → Ar
  | .c x => .c (nilI sz x)
  | .agg xs => .agg (xs.map (nilI sz))
  | x => x
def FN (sz : Nat) (F : List Ar → Option Rs) (qs : List Ar) : Option Rs :=
  match arsRows qs with
  | [] => match F (qs.map (nilA sz)) with
    | some ⟨p, r, []⟩ => some ⟨p, r, []⟩
    | _ => none
  | _ => none
theorem dvEq_refl (x : DV) : dvEq x x := by cases x <;> simp [dvEq]
theorem nilD_eq (sz : Nat) (x : DV) : dvEq x (nilD sz x) := by
  unfold nilD; split
  · exact ⟨rfl, rfl⟩
  · exact dvEq_refl x
theorem nilI_eq (sz : Nat) (x : Ic) : icEq x (nilI sz x) := by
  cases x with
  | d x => exact nilD_eq sz x
  | ow a b c => exact ⟨rfl, rfl, fun _ _ => rfl⟩
theorem nilIs_eq (sz : Nat) : ∀ xs : List Ic, icsEq xs (xs.map (nilI sz))
  | [] => trivial
  | x :: xs => ⟨nilI_eq sz x, nilIs_eq sz xs⟩
theorem nilA_eq (sz : Nat) (x : Ar) : arEq x (nilA sz x) := by
  cases x with
  | c x => exact nilI_eq sz x
  | agg xs => exact nilIs_eq sz xs
  | rp _ => rfl
  | fv _ => rfl
theorem nilAs_eq (sz : Nat) : ∀ xs : List Ar, arsEq xs (xs.map (nilA sz))
  | [] => trivial
  | x :: xs => ⟨nilA_eq sz x, nilAs_eq sz xs⟩
theorem nil_icRows (sz : Nat) : ∀ xs : List Ic, icRows (xs.map (nilI sz)) = icRows xs
  | [] => rfl
  | .d x :: xs => by simp only [List.map_cons, nilI, icRows]; exact nil_icRows sz xs
  | .ow a b c :: xs => by simp only [List.map_cons, nilI, icRows]; rw [nil_icRows sz xs]
theorem nil_arRows (sz : Nat) (x : Ar) : arRows (nilA sz x) = arRows x := by
  cases x with
  | c x => cases x <;> rfl
  | agg xs => exact nil_icRows sz xs
  | rp _ => rfl
  | fv _ => rfl
theorem nil_arsRows (sz : Nat) : ∀ xs : List Ar, arsRows (xs.map (nilA sz)) = arsRows xs
  | [] => rfl
  | x :: xs => by simp only [List.map_cons, arsRows]; rw [nil_arRows, nil_arsRows sz xs]
theorem fc_nil {P : Program} {f : Nat} {F : List Ar → Option Rs} (sz : Nat) (h : FC P f F) : FC P f (FN sz F) := by
  intro qs pre r us he hp
  unfold FN at he
  split at he
  · rename_i h0
    split at he
    · rename_i p r' hF
      cases he
      exact FCat.of_eq (nilAs_eq sz qs) h0 (by rw [nil_arsRows]; exact h0) (h _ _ _ _ hF hp)
    · cases he
  · cases he

def farV (n : Int) (c : Cg) (d : Bool) : Int := (if d then n - c.r else c.r - n) % c.m
theorem Wd.eta (w : Wd) : (⟨w.hi, w.lo⟩ : Wd) = w := rfl
theorem far_val {a b : Int} (ha : -9223372036854775808 ≤ a ∧ a < 9223372036854775808) (hb : -9223372036854775808 ≤ b ∧ b < 9223372036854775808) : Wd.val (wd (Wd.val (wd a) - Wd.val (wd b))) = a - b := by
  rw [wd_val (by rw [wd_val (v := a) (by omega) (by omega), wd_val (v := b) (by omega) (by omega)]; omega) (by rw [wd_val (v := a) (by omega) (by omega), wd_val (v := b) (by omega) (by omega)]; omega), wd_val (v := a) (by omega) (by omega), wd_val (v := b) (by omega) (by omega)]
theorem far_lo {v m : Int} (h0 : 0 ≤ v) (h1 : v < 18446744073709551616) (hm : 0 < m) (hm2 : m < 9223372036854775808) : (wd v).lo.tmod (IntKind.wrap .u64 m) = v % m := by
  have e : (wd v).lo = v := by unfold wd; dsimp only; omega
  rw [e, wU_id m (by omega) (by omega)]
  rw [Int.tmod_eq_emod_of_nonneg h0]
theorem far_r {v m : Int} (hm : 0 < m) (hm2 : m < 9223372036854775808) : IntKind.wrap .i64 (v % m) = v % m := by
  have h1 := Int.emod_nonneg v (show m ≠ 0 by omega)
  have h2 := Int.emod_lt_of_pos v hm
  exact wI_id _ (by omega) (by omega)
theorem far_neg {u v m : Int} (hu : u = -v) (hm : 0 < m) : (u % m > 0 → m - u % m = v % m) ∧ (¬ u % m > 0 → u % m = v % m) := by
  subst hu
  have h1 := Int.emod_nonneg v (show m ≠ 0 by omega)
  have h2 := Int.emod_lt_of_pos v hm
  have h3 := Int.emod_nonneg (-v) (show m ≠ 0 by omega)
  have h4 := Int.emod_lt_of_pos (-v) hm
  have h5 : (v + -v) % m = (v % m + (-v) % m) % m := Int.add_emod _ _ _
  rw [Int.add_right_neg, Int.zero_emod] at h5
  generalize v % m = a at *
  generalize (-v) % m = b at *
  by_cases hab : a + b < m
  · rw [Int.emod_eq_of_lt (by omega) hab] at h5; omega
  · have : (a + b) % m = a + b - m := by rw [← Int.sub_emod_right, Int.emod_eq_of_lt (by omega) (by omega)]
    omega
theorem far_1 {u v m : Int} (hu : u = -v) (h0 : 0 ≤ u) (h1 : u < 18446744073709551616) (hm : 0 < m) (hm2 : m < 9223372036854775808) (hk : IntKind.wrap .i64 ((wd u).lo.tmod (IntKind.wrap .u64 m)) > 0) : IntKind.wrap .i64 (m - IntKind.wrap .i64 ((wd u).lo.tmod (IntKind.wrap .u64 m))) = v % m := by
  rw [far_lo h0 h1 hm hm2, far_r hm hm2] at *
  rw [(far_neg hu hm).1 hk, far_r hm hm2]
theorem far_2 {u v m : Int} (hu : u = -v) (h0 : 0 ≤ u) (h1 : u < 18446744073709551616) (hm : 0 < m) (hm2 : m < 9223372036854775808) (hk : ¬ IntKind.wrap .i64 ((wd u).lo.tmod (IntKind.wrap .u64 m)) > 0) : IntKind.wrap .i64 ((wd u).lo.tmod (IntKind.wrap .u64 m)) = v % m := by
  rw [far_lo h0 h1 hm hm2, far_r hm hm2] at *
  rw [(far_neg hu hm).2 hk]
theorem far_3 {v m : Int} (h0 : 0 ≤ v) (h1 : v < 18446744073709551616) (hm : 0 < m) (hm2 : m < 9223372036854775808) : IntKind.wrap .i64 ((wd v).lo.tmod (IntKind.wrap .u64 m)) = v % m := by
  rw [far_lo h0 h1 hm hm2, far_r hm hm2]
theorem wCmp_neg (v : Int) : (wCmp v 0 < 0) ↔ v < 0 := by unfold wCmp; split <;> simp_all <;> split <;> omega
theorem farV_t {n m r : Int} {b : Bool} : farV n ⟨b, m, r⟩ true = (-(r - n)) % m := by
  have : n - r = -(r - n) := by omega
  unfold farV; simp [this]
theorem farV_f {n m r : Int} {b : Bool} : farV n ⟨b, m, r⟩ false = (r - n) % m := rfl

def FVInt : List Ar → Option Rs
  | [.agg [.d (.v (.bool s0)), .d (.v (.int .i64 l0)), .d (.v (.int .i64 h0))], .agg [.d (.v (.bool b1)), .d (.v (.int .i64 m1)), .d (.v (.int .i64 r1))]] => some ⟨(Sp.inR ⟨s0, l0, h0⟩) ∧ (Cg.inR ⟨b1, m1, r1⟩), .va (Vl.ar (Vl.reduce ⟨⟨(⟨s0, l0, h0⟩ : Sp), (⟨b1, m1, r1⟩ : Cg)⟩, ⟨false, []⟩⟩)), []⟩
  | _ => none
set_option maxHeartbeats 1000000 in
set_option maxRecDepth 100000 in
theorem fcVInt : FC Try.prog 12 FVInt := by
  intro xs pre r us h hp
  unfold FVInt at h
  split at h
  · rename_i s0 l0 h0 b1 m1 r1
    cases h
    obtain ⟨hp0, hp1⟩ := hp
    refine fcat tys_ok (l := [(5, ⟨[], FN 1 FVReduce⟩)]) ⟨fc_nil 1 fcVReduce, trivial⟩ Try.func12 rfl (by kernel_rfl) true ?_
    repeat' (first | exact trivial | refine ⟨?_, ?_⟩ | intro _)
    all_goals first | (with_reducible show (_ : Int) ≤ _) | (with_reducible show (_ : Int) < _) | (with_reducible show (_ : Nat) ≤ _) | (with_reducible show (_ : Nat) < _) | (conv => whnf)
    all_goals first | exact hp0.1.1 | exact hp0.1.2 | exact hp0.2.1 | exact hp0.2.2 | exact hp1.1.1 | exact hp1.1.2 | exact hp1.2.1 | exact hp1.2.2 | exact hp0 | exact hp1 | exact Nat.zero_le _ | rfl | (intro _ h; exact absurd h (Nat.not_lt_zero _)) | (exact absurd ‹_ < 0› (Nat.not_lt_zero _)) | trace_state
  · cases h
theorem leq_t {a b : Vl} (h : a.of.i.leq b.of.i = true) : Value.bool ((!a.t.null || b.t.null) && subS (ofS a.t.names) (ofS b.t.names)) = Value.bool (a.leq b) := by unfold Vl.leq; rw [h]; rfl
theorem leq_f {a b : Vl} (h : a.of.i.leq b.of.i = false) : Value.bool false = Value.bool (a.leq b) := by unfold Vl.leq; rw [h]; rfl

def FVLeq : List Ar → Option Rs
  | [.agg [.d (.v (.bool s0)), .d (.v (.int .i64 l0)), .d (.v (.int .i64 h0)), .d (.v (.bool b0)), .d (.v (.int .i64 m0)), .d (.v (.int .i64 r0)), .d (.v (.bool z0)), .d (.lst 1 n0 f0)], .agg [.d (.v (.bool s1)), .d (.v (.int .i64 l1)), .d (.v (.int .i64 h1)), .d (.v (.bool b1)), .d (.v (.int .i64 m1)), .d (.v (.int .i64 r1)), .d (.v (.bool z1)), .d (.lst 1 n1 f1)]] => some ⟨((n0 * 16 ≤ 140737488351232 ∧ ∀ i, i < n0 → f0 i = [st (gT (f0 i))]) ∧ Sp.inR ⟨s0, l0, h0⟩ ∧ Cg.inR ⟨b0, m0, r0⟩) ∧ ((n1 * 16 ≤ 140737488351232 ∧ ∀ i, i < n1 → f1 i = [st (gT (f1 i))]) ∧ Sp.inR ⟨s1, l1, h1⟩ ∧ Cg.inR ⟨b1, m1, r1⟩), .va (.c (.d (bo (Vl.leq (⟨⟨⟨s0, l0, h0⟩, ⟨b0, m0, r0⟩⟩, ⟨z0, gN n0 f0⟩⟩ : Vl) (⟨⟨⟨s1, l1, h1⟩, ⟨b1, m1, r1⟩⟩, ⟨z1, gN n1 f1⟩⟩ : Vl))))), []⟩
  | _ => none
set_option maxHeartbeats 1000000 in
set_option maxRecDepth 100000 in
theorem fcVLeq : FC Try.prog 11 FVLeq := by
  intro xs pre r us h hp
  unfold FVLeq at h
  split at h
  · rename_i s0 l0 h0 b0 m0 r0 z0 n0 f0 s1 l1 h1 b1 m1 r1 z1 n1 f1
    cases h
    obtain ⟨hp0, hp1⟩ := hp
    refine FCat.of_eq (as' := [.agg [.d (.v (.bool s0)), .d (.v (.int .i64 l0)), .d (.v (.int .i64 h0)), .d (.v (.bool b0)), .d (.v (.int .i64 m0)), .d (.v (.int .i64 r0)), .d (.v (.bool z0)), .d (.lst 1 n0 fun i => [st (gT (f0 i))])], .agg [.d (.v (.bool s1)), .d (.v (.int .i64 l1)), .d (.v (.int .i64 h1)), .d (.v (.bool b1)), .d (.v (.int .i64 m1)), .d (.v (.int .i64 r1)), .d (.v (.bool z1)), .d (.lst 1 n1 fun i => [st (gT (f1 i))])]]) ?_ rfl rfl ?_
    · repeat' (first | exact trivial | exact rfl | refine ⟨?_, ?_⟩ | fail)
      all_goals first | exact hp0.2 | exact hp1.2 | exact hp2.2 | (intro i hi; exact (hp0.2 i hi).1) | (intro i hi; exact (hp1.2 i hi).1) | (intro i hi; exact (hp2.2 i hi).1) | grind
    refine fcat tys_ok (l := [(20, ⟨[], FVOf⟩), (37, ⟨[], FVLeq0⟩), (38, ⟨[], FNLeq⟩)]) ⟨fcVOf, fcVLeq0, fcNLeq, trivial⟩ Try.func11 rfl (by kernel_rfl) true ?_
    have hc := Ig.clean_inR (i := ⟨⟨s0, l0, h0⟩, ⟨b0, m0, r0⟩⟩) hp0.2.1 hp0.2.2
    have hr := red_inR hc.1 hc.2
    have hd := clean_red (i := ⟨⟨s0, l0, h0⟩, ⟨b0, m0, r0⟩⟩)
    have hm := ofS_room (f := f0) hp0.1.1
    have hc1 := Ig.clean_inR (i := ⟨⟨s1, l1, h1⟩, ⟨b1, m1, r1⟩⟩) hp1.2.1 hp1.2.2
    have hr1 := red_inR hc1.1 hc1.2
    have hd1 := clean_red (i := ⟨⟨s1, l1, h1⟩, ⟨b1, m1, r1⟩⟩)
    have hm1 := ofS_room (f := f1) hp1.1.1
    repeat' (first | exact trivial | refine ⟨?_, ?_⟩ | intro _)
    all_goals first | (with_reducible show (_ : Int) ≤ _) | (with_reducible show (_ : Int) < _) | (with_reducible show (_ : Nat) ≤ _) | (with_reducible show (_ : Nat) < _) | (conv => whnf)
    all_goals first | exact hp0.1.1 | exact hp1.1.1 | exact hp0.2.1.1.1 | exact hp0.2.1.1.2 | exact hp0.2.1.2.1 | exact hp0.2.1.2.2 | exact hp0.2.2.1.1 | exact hp0.2.2.1.2 | exact hp0.2.2.2.1 | exact hp0.2.2.2.2 | exact hp0.2.1 | exact hp0.2.2 | exact hp1.2.1.1.1 | exact hp1.2.1.1.2 | exact hp1.2.1.2.1 | exact hp1.2.1.2.2 | exact hp1.2.2.1.1 | exact hp1.2.2.1.2 | exact hp1.2.2.2.1 | exact hp1.2.2.2.2 | exact hp1.2.1 | exact hp1.2.2 | exact hc.1.1.1 | exact hc.1.1.2 | exact hc.1.2.1 | exact hc.1.2.2 | exact hc.2.1.1 | exact hc.2.1.2 | exact hc.2.2.1 | exact hc.2.2.2 | exact hc.1 | exact hc.2 | exact hc1.1.1.1 | exact hc1.1.1.2 | exact hc1.1.2.1 | exact hc1.1.2.2 | exact hc1.2.1.1 | exact hc1.2.1.2 | exact hc1.2.2.1 | exact hc1.2.2.2 | exact hc1.1 | exact hc1.2 | exact hm | exact hm1 | rfl | exact leq_f ‹_› | (rw [gN_lst, gN_lst]; exact leq_t ‹_›) | trace_state
  · cases h
def FRFar : List Ar → Option Rs
  | [.c (.d (.v (.int .i64 i0))), .agg [.d (.v (.bool b1)), .d (.v (.int .i64 m1)), .d (.v (.int .i64 r1))], .c (.d (.v (.bool b2)))] => some ⟨(-9223372036854775808 ≤ i0 ∧ i0 < 9223372036854775808) ∧ (Cg.inR ⟨b1, m1, r1⟩) ∧ (0 < m1), .va (.c (.d (it (farV i0 (⟨b1, m1, r1⟩ : Cg) b2)))), []⟩
  | _ => none
set_option maxHeartbeats 1000000 in
set_option maxRecDepth 100000 in
theorem fcRFar : FC Try.prog 31 FRFar := by
  intro xs pre r us h hp
  unfold FRFar at h
  split at h
  · rename_i i0 b1 m1 r1 b2
    cases h
    obtain ⟨hp0, hp1, hp2⟩ := hp
    refine fcat tys_ok (l := [(32, ⟨[], FRSub⟩), (30, ⟨[], FROf⟩), (59, ⟨[], FRNeg⟩), (56, ⟨[], FRCmp⟩)]) ⟨fcRSub, fcROf, fcRNeg, fcRCmp, trivial⟩ Try.func31 rfl (by kernel_rfl) false ?_
    have hr : -9223372036854775808 ≤ r1 ∧ r1 < 9223372036854775808 := hp1.2
    have hm : -9223372036854775808 ≤ m1 ∧ m1 < 9223372036854775808 := hp1.1
    have hv1 : Wd.val (wd r1) = r1 := wd_val (by omega) (by omega)
    have hv0 : Wd.val (wd i0) = i0 := wd_val (by omega) (by omega)
    have hV : Wd.val (wd (r1 - i0)) = r1 - i0 := wd_val (by omega) (by omega)
    have hN : Wd.val (wd (-(r1 - i0))) = -(r1 - i0) := wd_val (by omega) (by omega)
    have hZ : Wd.val ⟨0, 0⟩ = 0 := rfl
    repeat' (first | exact trivial | refine ⟨?_, ?_⟩ | intro _)
    all_goals first | (with_reducible show (_ : Int) ≤ _) | (with_reducible show (_ : Int) < _) | (with_reducible show (_ : Nat) ≤ _) | (with_reducible show (_ : Nat) < _) | (conv => whnf)
    all_goals first | omega | exact (wd_ok _).1.1 | exact (wd_ok _).1.2 | exact (wd_ok _).2.1 | exact (wd_ok _).2.2 | exact hp1.2.1 | exact hp1.2.2 | decide | skip
    all_goals (simp only [Wd.eta, hv1, hv0, hV, hN, hZ, Int.neg_neg, decide_eq_true_eq, decide_eq_false_iff_not, wCmp_neg] at *)
    all_goals first | (rw [wU_id m1 (by omega) (by omega)] at *; omega) | omega | skip
    all_goals (subst ‹b2 = _›; (first | rw [farV_t] | rw [farV_f]); refine congrArg (Value.int .i64) ?_)
    all_goals first | (exact far_1 (by omega) (by omega) (by omega) hp2 hm.2 (by assumption)) | (exact far_2 (by omega) (by omega) (by omega) hp2 hm.2 (by assumption)) | (exact far_3 (by omega) (by omega) hp2 hm.2) | trace_state
  · cases h

end Go.Proofs.Ytbfinmfdcbghfaa
