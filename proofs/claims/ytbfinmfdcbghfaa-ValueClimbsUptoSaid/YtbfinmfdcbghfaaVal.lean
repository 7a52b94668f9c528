/- What the functions of the layer of values compute. No condition. -/
import Derived.Test.YtbfinmfdcbghfaaNames4
import Derived.Test.YtbfinmfdcbghfaaCong
import Derived.Test.YtbfinmfdcbghfaaSpan
import Derived.Test.YtbfinmfdcbghfaaR01b
namespace Go.Proofs.Ytbfinmfdcbghfaa
set_option linter.all false
open Go.Sx

structure Ig where
  s : Sp
  c : Cg
abbrev Ig.ar (i : Ig) : Ar := .agg [.d (bo i.s.some), .d (it i.s.lo), .d (it i.s.hi), .d (bo i.c.some), .d (it i.c.m), .d (it i.c.r)]
structure Vl where
  i : Ig
  t : Ns
abbrev Vl.ar (v : Vl) : Ar := .agg [.d (bo v.i.s.some), .d (it v.i.s.lo), .d (it v.i.s.hi), .d (bo v.i.c.some), .d (it v.i.c.m), .d (it v.i.c.r), .d (bo v.t.null), .d (lst v.t.names)]
def Cg.red (c : Cg) : Prop := 0 ≤ c.m ∧ (0 < c.m → 0 ≤ c.r ∧ c.r < c.m)
theorem Cg.clean_red (c : Cg) : c.clean.red := by
  unfold Cg.clean Cg.of Cg.none Cg.red
  split
  · split
    · have := md_bound c.r 1 (by omega)
      dsimp only; omega
    · refine ⟨by dsimp only; omega, fun h => ?_⟩
      exact md_bound c.r c.m h
  · dsimp only; omega
theorem sub_md (a b m : Int) (h : 0 < m) : md (a - md b m) m = (a - b) % m := by
  unfold md
  rw [if_neg (by omega), if_neg (by omega), Int.sub_emod, Int.emod_emod_of_dvd _ (Int.dvd_refl m), ← Int.sub_emod]
theorem md_sub (a b m : Int) (h : 0 < m) : md (md a m - b) m = (a - b) % m := by
  unfold md
  rw [if_neg (by omega), if_neg (by omega), Int.sub_emod, Int.emod_emod_of_dvd _ (Int.dvd_refl m), ← Int.sub_emod]
def upW (n : Int) (c : Cg) : Int := n + (c.r - n) % c.m
def dnW (n : Int) (c : Cg) : Int := n - (n - c.r) % c.m
def upV (n : Int) (c : Cg) : Int := if c.m = 0 then c.r else wIntV (upW n c)
def upB (n : Int) (c : Cg) : Bool := if c.m = 0 then decide (c.r ≥ n) else wIntB (upW n c)
def dnV (n : Int) (c : Cg) : Int := if c.m = 0 then c.r else wIntV (dnW n c)
def dnB (n : Int) (c : Cg) : Bool := if c.m = 0 then decide (c.r ≤ n) else wIntB (dnW n c)
namespace Ig
def zero : Ig := ⟨⟨false, 0, 0⟩, ⟨false, 0, 0⟩⟩
def none (i : Ig) : Bool := i.s.none || !i.c.some
def clean (i : Ig) : Ig := if i.none then zero else ⟨i.s.clean, i.c.clean⟩
def leq (i j : Ig) : Bool := i.s.leq j.s && i.c.leq j.c
def red (i : Ig) : Ig := if i.none then zero else if (!upB i.s.lo i.c || !dnB i.s.hi i.c) || decide (upV i.s.lo i.c > dnV i.s.hi i.c) then zero else
  if upV i.s.lo i.c = dnV i.s.hi i.c then ⟨Sp.of (upV i.s.lo i.c) (upV i.s.lo i.c), Cg.of 0 (upV i.s.lo i.c)⟩ else ⟨Sp.of (upV i.s.lo i.c) (dnV i.s.hi i.c), i.c⟩
theorem clean_inR {i : Ig} (h1 : i.s.inR) (h2 : i.c.inR) : i.clean.s.inR ∧ i.clean.c.inR := by
  unfold clean
  split
  · unfold zero Sp.inR Cg.inR; decide
  · exact ⟨Sp.clean_inR h1, Cg.clean_inR h2⟩
end Ig
theorem wInt_r (v : Int) : -9223372036854775808 ≤ wIntV v ∧ wIntV v < 9223372036854775808 := by unfold wIntV; split <;> omega

def FVNone : List Ar → Option Rs
  | [.agg [.d (.v (.bool s0)), .d (.v (.int .i64 l0)), .d (.v (.int .i64 h0)), .d (.v (.bool b0)), .d (.v (.int .i64 m0)), .d (.v (.int .i64 r0))]] => some ⟨(Sp.inR ⟨s0, l0, h0⟩ ∧ Cg.inR ⟨b0, m0, r0⟩), .va (.c (.d (bo (Ig.none (⟨⟨s0, l0, h0⟩, ⟨b0, m0, r0⟩⟩ : Ig))))), []⟩
  | _ => none
set_option maxHeartbeats 1000000 in
set_option maxRecDepth 100000 in
theorem fcVNone : FC Try.prog 48 FVNone := by
  intro xs pre r us h hp
  unfold FVNone at h
  split at h
  · rename_i s0 l0 h0 b0 m0 r0
    cases h
    have hp0 := hp
    refine fcat tys_ok (l := [(67, ⟨[], FSNone⟩), (71, ⟨[], FCNone⟩)]) ⟨fcSNone, fcCNone, trivial⟩ Try.func48 rfl (by kernel_rfl) false ?_
    repeat' (first | exact trivial | refine ⟨?_, ?_⟩ | intro _)
    all_goals first | (with_reducible show (_ : Int) ≤ _) | (with_reducible show (_ : Int) < _) | (with_reducible show (_ : Nat) ≤ _) | (with_reducible show (_ : Nat) < _) | (conv => whnf)
    all_goals first | grind [Ig.none, Sp.inR, Cg.inR] | trace_state
  · cases h
def FVClean : List Ar → Option Rs
  | [.agg [.d (.v (.bool s0)), .d (.v (.int .i64 l0)), .d (.v (.int .i64 h0)), .d (.v (.bool b0)), .d (.v (.int .i64 m0)), .d (.v (.int .i64 r0))]] => some ⟨(Sp.inR ⟨s0, l0, h0⟩ ∧ Cg.inR ⟨b0, m0, r0⟩), .va (Ig.ar (Ig.clean (⟨⟨s0, l0, h0⟩, ⟨b0, m0, r0⟩⟩ : Ig))), []⟩
  | _ => none
set_option maxHeartbeats 1000000 in
set_option maxRecDepth 100000 in
theorem fcVClean : FC Try.prog 47 FVClean := by
  intro xs pre r us h hp
  unfold FVClean at h
  split at h
  · rename_i s0 l0 h0 b0 m0 r0
    cases h
    have hp0 := hp
    refine fcat tys_ok (l := [(48, ⟨[], FVNone⟩), (68, ⟨[], FSClean⟩), (60, ⟨[], FCClean⟩)]) ⟨fcVNone, fcSClean, fcCClean, trivial⟩ Try.func47 rfl (by kernel_rfl) false ?_
    repeat' (first | exact trivial | refine ⟨?_, ?_⟩ | intro _)
    all_goals first | (with_reducible show (_ : Int) ≤ _) | (with_reducible show (_ : Int) < _) | (with_reducible show (_ : Nat) ≤ _) | (with_reducible show (_ : Nat) < _) | (conv => whnf)
    all_goals first | grind [Ig.clean, Ig.zero, Sp.inR, Cg.inR] | trace_state
  · cases h
def FVLeq0 : List Ar → Option Rs
  | [.agg [.d (.v (.bool s0)), .d (.v (.int .i64 l0)), .d (.v (.int .i64 h0)), .d (.v (.bool b0)), .d (.v (.int .i64 m0)), .d (.v (.int .i64 r0))], .agg [.d (.v (.bool s1)), .d (.v (.int .i64 l1)), .d (.v (.int .i64 h1)), .d (.v (.bool b1)), .d (.v (.int .i64 m1)), .d (.v (.int .i64 r1))]] => some ⟨(Sp.inR ⟨s0, l0, h0⟩ ∧ Cg.inR ⟨b0, m0, r0⟩) ∧ (Sp.inR ⟨s1, l1, h1⟩ ∧ Cg.inR ⟨b1, m1, r1⟩), .va (.c (.d (bo (Ig.leq (⟨⟨s0, l0, h0⟩, ⟨b0, m0, r0⟩⟩ : Ig) (⟨⟨s1, l1, h1⟩, ⟨b1, m1, r1⟩⟩ : Ig))))), []⟩
  | _ => none
set_option maxHeartbeats 1000000 in
set_option maxRecDepth 100000 in
theorem fcVLeq0 : FC Try.prog 37 FVLeq0 := by
  intro xs pre r us h hp
  unfold FVLeq0 at h
  split at h
  · rename_i s0 l0 h0 b0 m0 r0 s1 l1 h1 b1 m1 r1
    cases h
    obtain ⟨hp0, hp1⟩ := hp
    refine fcat tys_ok (l := [(63, ⟨[], FSLeq⟩), (64, ⟨[], FCLeq⟩)]) ⟨fcSLeq, fcCLeq, trivial⟩ Try.func37 rfl (by kernel_rfl) false ?_
    repeat' (first | exact trivial | refine ⟨?_, ?_⟩ | intro _)
    all_goals first | (with_reducible show (_ : Int) ≤ _) | (with_reducible show (_ : Int) < _) | (with_reducible show (_ : Nat) ≤ _) | (with_reducible show (_ : Nat) < _) | (conv => whnf)
    all_goals first | grind [Ig.leq, Sp.inR, Cg.inR] | trace_state
  · cases h
theorem up_key {n m r : Int} {b : Bool} (hm : ¬ m = 0) (hr : Cg.red ⟨b, m, r⟩) (hi : Cg.inR ⟨b, m, r⟩) : IntKind.wrap .i64 (r - md n m) = r - md n m ∧ md (IntKind.wrap .i64 (r - md n m)) m = (r - n) % m ∧ 0 ≤ (r - n) % m ∧ (r - n) % m < 9223372036854775808 := by
  unfold Cg.red at hr; unfold Cg.inR at hi
  dsimp only at hr hi
  have h0 : 0 < m := by omega
  have h1 := md_bound n m h0
  have h2 := hr.2 h0
  rw [wI_id _ (by omega) (by omega), sub_md _ _ _ h0]
  have h3 := Int.emod_nonneg (r - n) (show m ≠ 0 by omega)
  have h4 := Int.emod_lt_of_pos (r - n) h0
  omega
theorem dn_key {n m r : Int} {b : Bool} (hm : ¬ m = 0) (hr : Cg.red ⟨b, m, r⟩) (hi : Cg.inR ⟨b, m, r⟩) : IntKind.wrap .i64 (md n m - r) = md n m - r ∧ md (IntKind.wrap .i64 (md n m - r)) m = (n - r) % m ∧ 0 ≤ (n - r) % m ∧ (n - r) % m < 9223372036854775808 := by
  unfold Cg.red at hr; unfold Cg.inR at hi
  dsimp only at hr hi
  have h0 : 0 < m := by omega
  have h1 := md_bound n m h0
  have h2 := hr.2 h0
  rw [wI_id _ (by omega) (by omega), md_sub _ _ _ h0]
  have h3 := Int.emod_nonneg (n - r) (show m ≠ 0 by omega)
  have h4 := Int.emod_lt_of_pos (n - r) h0
  omega
theorem up_val {n k : Int} (hn : -9223372036854775808 ≤ n ∧ n < 9223372036854775808) (h0 : 0 ≤ k) (h1 : k < 9223372036854775808) : Wd.val (wd (Wd.val (wd n) + Wd.val (wd k))) = n + k := by
  rw [wd_val (by rw [wd_val (v := n) (by omega) (by omega), wd_val (v := k) (by omega) (by omega)]; omega) (by rw [wd_val (v := n) (by omega) (by omega), wd_val (v := k) (by omega) (by omega)]; omega), wd_val (v := n) (by omega) (by omega), wd_val (v := k) (by omega) (by omega)]
theorem dn_val {n k : Int} (hn : -9223372036854775808 ≤ n ∧ n < 9223372036854775808) (h0 : 0 ≤ k) (h1 : k < 9223372036854775808) : Wd.val (wd (Wd.val (wd n) - Wd.val (wd k))) = n - k := by
  rw [wd_val (by rw [wd_val (v := n) (by omega) (by omega), wd_val (v := k) (by omega) (by omega)]; omega) (by rw [wd_val (v := n) (by omega) (by omega), wd_val (v := k) (by omega) (by omega)]; omega), wd_val (v := n) (by omega) (by omega), wd_val (v := k) (by omega) (by omega)]
theorem up_V {n m r : Int} {b : Bool} (hm : ¬ m = 0) (hr : Cg.red ⟨b, m, r⟩) (hi : Cg.inR ⟨b, m, r⟩) (hn : -9223372036854775808 ≤ n ∧ n < 9223372036854775808) : Wd.val (wd (Wd.val (wd n) + Wd.val (wd (md (IntKind.wrap .i64 (r - md n m)) m)))) = upW n ⟨b, m, r⟩ := by
  have hk := up_key (n := n) hm hr hi
  rw [hk.2.1, up_val hn hk.2.2.1 hk.2.2.2]; rfl
theorem dn_V {n m r : Int} {b : Bool} (hm : ¬ m = 0) (hr : Cg.red ⟨b, m, r⟩) (hi : Cg.inR ⟨b, m, r⟩) (hn : -9223372036854775808 ≤ n ∧ n < 9223372036854775808) : Wd.val (wd (Wd.val (wd n) - Wd.val (wd (md (IntKind.wrap .i64 (md n m - r)) m)))) = dnW n ⟨b, m, r⟩ := by
  have hk := dn_key (n := n) hm hr hi
  rw [hk.2.1, dn_val hn hk.2.2.1 hk.2.2.2]; rfl
theorem upV_0 {n m r : Int} {b : Bool} (hm : m = 0) : upV n ⟨b, m, r⟩ = r ∧ upB n ⟨b, m, r⟩ = decide (r ≥ n) ∧ dnV n ⟨b, m, r⟩ = r ∧ dnB n ⟨b, m, r⟩ = decide (r ≤ n) := by unfold upV upB dnV dnB; simp [hm]
theorem upV_1 {n m r : Int} {b : Bool} (hm : ¬ m = 0) : upV n ⟨b, m, r⟩ = wIntV (upW n ⟨b, m, r⟩) ∧ upB n ⟨b, m, r⟩ = wIntB (upW n ⟨b, m, r⟩) ∧ dnV n ⟨b, m, r⟩ = wIntV (dnW n ⟨b, m, r⟩) ∧ dnB n ⟨b, m, r⟩ = wIntB (dnW n ⟨b, m, r⟩) := by unfold upV upB dnV dnB; simp [hm]

def FVUp : List Ar → Option Rs
  | [.c (.d (.v (.int .i64 i0))), .agg [.d (.v (.bool b1)), .d (.v (.int .i64 m1)), .d (.v (.int .i64 r1))]] => some ⟨(-9223372036854775808 ≤ i0 ∧ i0 < 9223372036854775808) ∧ (Cg.inR ⟨b1, m1, r1⟩) ∧ (Cg.red (⟨b1, m1, r1⟩ : Cg)), .tup [.c (.d (it (upV i0 (⟨b1, m1, r1⟩ : Cg)))), .c (.d (bo (upB i0 (⟨b1, m1, r1⟩ : Cg))))], []⟩
  | _ => none
set_option maxHeartbeats 1000000 in
set_option maxRecDepth 100000 in
theorem fcVUp : FC Try.prog 49 FVUp := by
  intro xs pre r us h hp
  unfold FVUp at h
  split at h
  · rename_i i0 b1 m1 r1
    cases h
    obtain ⟨hp0, hp1, hp2⟩ := hp
    refine fcat tys_ok (l := [(61, ⟨[], FCMod⟩), (77, ⟨[], FWOf⟩), (76, ⟨[], FWAdd⟩), (75, ⟨[], FWInt⟩)]) ⟨fcCMod, fcWOf, fcWAdd, fcWInt, trivial⟩ Try.func49 rfl (by kernel_rfl) false ?_
    repeat' (first | exact trivial | refine ⟨?_, ?_⟩ | intro _)
    all_goals first | (with_reducible show (_ : Int) ≤ _) | (with_reducible show (_ : Int) < _) | (with_reducible show (_ : Nat) ≤ _) | (with_reducible show (_ : Nat) < _) | (conv => whnf)
    all_goals (try simp only [beq_iff_eq, beq_eq_false_iff_ne, ne_eq] at *)
    all_goals first | omega | exact (wd_ok _).1.1 | exact (wd_ok _).1.2 | exact (wd_ok _).2.1 | exact (wd_ok _).2.2 | (unfold Cg.inR at hp1; dsimp only at hp1; omega) | skip
    all_goals first | ((with_reducible show Value.int _ _ = Value.int _ _); rw [(upV_0 (by assumption)).1]) | ((with_reducible show Value.bool _ = Value.bool _); rw [(upV_0 (by assumption)).2.1]) | (have hk := up_key (n := i0) ‹¬ m1 = 0› hp2 hp1; have hv := up_V ‹¬ m1 = 0› hp2 hp1 hp0; have hw := upV_1 (n := i0) (r := r1) (b := b1) ‹¬ m1 = 0›; first | (rw [hw.1]; exact congrArg (fun x => Value.int .i64 (wIntV x)) hv) | (rw [hw.2.1]; exact congrArg (fun x => Value.bool (wIntB x)) hv) | (unfold md at *; unfold Cg.inR at hp1; dsimp only at hp1; rw [hk.2.1]; omega) | (rw [hk.2.1]; omega) | (have hb := md_bound i0 m1; unfold Cg.inR Cg.red at *; dsimp only at *; rw [hk.1]; omega)) | trace_state
  · cases h
def FVDown : List Ar → Option Rs
  | [.c (.d (.v (.int .i64 i0))), .agg [.d (.v (.bool b1)), .d (.v (.int .i64 m1)), .d (.v (.int .i64 r1))]] => some ⟨(-9223372036854775808 ≤ i0 ∧ i0 < 9223372036854775808) ∧ (Cg.inR ⟨b1, m1, r1⟩) ∧ (Cg.red (⟨b1, m1, r1⟩ : Cg)), .tup [.c (.d (it (dnV i0 (⟨b1, m1, r1⟩ : Cg)))), .c (.d (bo (dnB i0 (⟨b1, m1, r1⟩ : Cg))))], []⟩
  | _ => none
set_option maxHeartbeats 1000000 in
set_option maxRecDepth 100000 in
theorem fcVDown : FC Try.prog 50 FVDown := by
  intro xs pre r us h hp
  unfold FVDown at h
  split at h
  · rename_i i0 b1 m1 r1
    cases h
    obtain ⟨hp0, hp1, hp2⟩ := hp
    refine fcat tys_ok (l := [(61, ⟨[], FCMod⟩), (77, ⟨[], FWOf⟩), (78, ⟨[], FWSub⟩), (75, ⟨[], FWInt⟩)]) ⟨fcCMod, fcWOf, fcWSub, fcWInt, trivial⟩ Try.func50 rfl (by kernel_rfl) false ?_
    repeat' (first | exact trivial | refine ⟨?_, ?_⟩ | intro _)
    all_goals first | (with_reducible show (_ : Int) ≤ _) | (with_reducible show (_ : Int) < _) | (with_reducible show (_ : Nat) ≤ _) | (with_reducible show (_ : Nat) < _) | (conv => whnf)
    all_goals (try simp only [beq_iff_eq, beq_eq_false_iff_ne, ne_eq] at *)
    all_goals first | omega | exact (wd_ok _).1.1 | exact (wd_ok _).1.2 | exact (wd_ok _).2.1 | exact (wd_ok _).2.2 | (unfold Cg.inR at hp1; dsimp only at hp1; omega) | skip
    all_goals first | ((with_reducible show Value.int _ _ = Value.int _ _); rw [(upV_0 (by assumption)).2.2.1]) | ((with_reducible show Value.bool _ = Value.bool _); rw [(upV_0 (by assumption)).2.2.2]) | (have hk := dn_key (n := i0) ‹¬ m1 = 0› hp2 hp1; have hv := dn_V ‹¬ m1 = 0› hp2 hp1 hp0; have hw := upV_1 (n := i0) (r := r1) (b := b1) ‹¬ m1 = 0›; first | (rw [hw.2.2.1]; exact congrArg (fun x => Value.int .i64 (wIntV x)) hv) | (rw [hw.2.2.2]; exact congrArg (fun x => Value.bool (wIntB x)) hv) | (unfold md at *; unfold Cg.inR at hp1; dsimp only at hp1; rw [hk.2.1]; omega) | (rw [hk.2.1]; omega) | (have hb := md_bound i0 m1; unfold Cg.inR Cg.red at *; dsimp only at *; rw [hk.1]; omega)) | trace_state
  · cases h
theorem upV_r {n : Int} {c : Cg} (h : c.inR) : -9223372036854775808 ≤ upV n c ∧ upV n c < 9223372036854775808 := by
  unfold upV; split
  · exact h.2
  · exact wInt_r _
theorem dnV_r {n : Int} {c : Cg} (h : c.inR) : -9223372036854775808 ≤ dnV n c ∧ dnV n c < 9223372036854775808 := by
  unfold dnV; split
  · exact h.2
  · exact wInt_r _

def FVRed : List Ar → Option Rs
  | [.agg [.d (.v (.bool s0)), .d (.v (.int .i64 l0)), .d (.v (.int .i64 h0)), .d (.v (.bool b0)), .d (.v (.int .i64 m0)), .d (.v (.int .i64 r0))]] => some ⟨(Sp.inR ⟨s0, l0, h0⟩ ∧ Cg.inR ⟨b0, m0, r0⟩) ∧ (Cg.red ⟨b0, m0, r0⟩), .va (Ig.ar (Ig.red (⟨⟨s0, l0, h0⟩, ⟨b0, m0, r0⟩⟩ : Ig))), []⟩
  | _ => none
set_option maxHeartbeats 1000000 in
set_option maxRecDepth 100000 in
theorem fcVRed : FC Try.prog 21 FVRed := by
  intro xs pre r us h hp
  unfold FVRed at h
  split at h
  · rename_i s0 l0 h0 b0 m0 r0
    cases h
    obtain ⟨hp0, hp1⟩ := hp
    refine fcat tys_ok (l := [(48, ⟨[], FVNone⟩), (49, ⟨[], FVUp⟩), (50, ⟨[], FVDown⟩), (23, ⟨[], FSOne⟩), (24, ⟨[], FCOne⟩), (51, ⟨[], FSOf⟩)]) ⟨fcVNone, fcVUp, fcVDown, fcSOne, fcCOne, fcSOf, trivial⟩ Try.func21 rfl (by kernel_rfl) false ?_
    repeat' (first | exact trivial | refine ⟨?_, ?_⟩ | intro _)
    all_goals first | (with_reducible show (_ : Int) ≤ _) | (with_reducible show (_ : Int) < _) | (with_reducible show (_ : Nat) ≤ _) | (with_reducible show (_ : Nat) < _) | (conv => whnf)
    all_goals first | exact hp0.1.1.1 | exact hp0.1.1.2 | exact hp0.1.2.1 | exact hp0.1.2.2 | exact hp0.2.1.1 | exact hp0.2.1.2 | exact hp0.2.2.1 | exact hp0.2.2.2 | exact hp1.1 | exact (hp1.2 (by assumption)).1 | exact (hp1.2 (by assumption)).2 | exact hp1 | exact hp0.2 | exact hp0.1 | exact (upV_r hp0.2).1 | exact (upV_r hp0.2).2 | exact (dnV_r hp0.2).1 | exact (dnV_r hp0.2).2 | grind [Ig.red, Ig.zero] | trace_state
  · cases h

end Go.Proofs.Ytbfinmfdcbghfaa
