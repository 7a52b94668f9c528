/- What the rest of the layer of values computes. No condition. -/
import Derived.Test.YtbfinmfdcbghfaaVal3
namespace Go.Proofs.Ytbfinmfdcbghfaa
set_option linter.all false
open Go.Sx

theorem clean_live {i : Ig} (h : i.clean.s.some = true) : i.clean.c.some = true ∧ i.clean.s.lo ≤ i.clean.s.hi := by
  unfold Ig.clean at *
  split at h
  · simp [Ig.zero] at h
  · rename_i hn
    rw [if_neg hn]
    rw [sp_clean_some] at h
    rw [cg_clean_some]
    unfold Ig.none at hn
    have hs : i.s.none = false := by simpa using h
    have hcs : i.c.some = true := by simpa [hs] using hn
    have e : i.s.clean = i.s := by unfold Sp.clean; rw [hs]; rfl
    refine ⟨hcs, ?_⟩
    dsimp only
    rw [e]
    unfold Sp.none at hs
    simp at hs
    omega
theorem clean_dead {i : Ig} (h : i.clean.s.some = false) : i.clean = Ig.zero := by
  unfold Ig.clean at *
  split at h
  · rename_i hn; rw [if_pos hn]
  · rename_i hn
    rw [sp_clean_some] at h
    unfold Ig.none at hn
    simp_all
theorem rd_0 : Ig.red Ig.zero = Ig.zero := rfl
theorem rd_has {S : Bool} {L H R : Int} (hS : S = true) : Sp.has ⟨S, L, H⟩ R = (decide (R ≥ L) && decide (R ≤ H)) := by unfold Sp.has; simp [hS]
theorem rd_nn {S B : Bool} {L H M R : Int} (hS : S = true) (hl : S = true → B = true ∧ L ≤ H) : Ig.none ⟨⟨S, L, H⟩, ⟨B, M, R⟩⟩ = false := by
  have := hl hS
  unfold Ig.none Sp.none; simp_all
theorem rd_2 {S B : Bool} {L H M R : Int} (hS : S = true) (hM : M = 0) (h : Sp.has ⟨S, L, H⟩ R = false) : Ig.red ⟨⟨S, L, H⟩, ⟨B, M, R⟩⟩ = Ig.zero := by
  rw [rd_has hS] at h
  unfold Ig.red
  split
  · rfl
  · rw [if_pos]
    have h1 := upV_0 (n := L) (r := R) (b := B) hM
    have h2 := upV_0 (n := H) (r := R) (b := B) hM
    rw [h1.2.1, h2.2.2.2, h1.1, h2.2.2.1]
    simp only [Bool.and_eq_false_iff, decide_eq_false_iff_not] at h
    simp; omega
theorem rd_3 {S B : Bool} {L H M R : Int} (hS : S = true) (hl : S = true → B = true ∧ L ≤ H) (hM : M = 0) (h : Sp.has ⟨S, L, H⟩ R = true) : Ig.red ⟨⟨S, L, H⟩, ⟨B, M, R⟩⟩ = ⟨Sp.of R R, ⟨true, 0, R⟩⟩ := by
  rw [rd_has hS] at h
  unfold Ig.red
  have h1 := upV_0 (n := L) (r := R) (b := B) hM
  have h2 := upV_0 (n := H) (r := R) (b := B) hM
  rw [rd_nn hS hl, h1.2.1, h2.2.2.2, h1.1, h2.2.2.1]
  simp only [Bool.and_eq_true, decide_eq_true_eq] at h
  simp [h.1, h.2, Cg.of, md]
theorem rd_4 {S B : Bool} {L H M R : Int} (hM : ¬ M = 0) (h : ((!wIntB (upW L ⟨B, M, R⟩) || !wIntB (dnW H ⟨B, M, R⟩)) || decide (wIntV (upW L ⟨B, M, R⟩) > wIntV (dnW H ⟨B, M, R⟩))) = true) : Ig.red ⟨⟨S, L, H⟩, ⟨B, M, R⟩⟩ = Ig.zero := by
  unfold Ig.red
  have h1 := upV_1 (n := L) (r := R) (b := B) hM
  have h2 := upV_1 (n := H) (r := R) (b := B) hM
  rw [h1.2.1, h2.2.2.2, h1.1, h2.2.2.1]
  rw [if_pos (c := _ = true) h]
  split <;> rfl
theorem rd_5 {S B : Bool} {L H M R : Int} (hS : S = true) (hl : S = true → B = true ∧ L ≤ H) (hM : ¬ M = 0) (h : ((!wIntB (upW L ⟨B, M, R⟩) || !wIntB (dnW H ⟨B, M, R⟩)) || decide (wIntV (upW L ⟨B, M, R⟩) > wIntV (dnW H ⟨B, M, R⟩))) = false) :
    Ig.red ⟨⟨S, L, H⟩, ⟨B, M, R⟩⟩ = if wIntV (upW L ⟨B, M, R⟩) = wIntV (dnW H ⟨B, M, R⟩) then ⟨Sp.of (wIntV (upW L ⟨B, M, R⟩)) (wIntV (upW L ⟨B, M, R⟩)), ⟨true, 0, wIntV (upW L ⟨B, M, R⟩)⟩⟩ else ⟨Sp.of (wIntV (upW L ⟨B, M, R⟩)) (wIntV (dnW H ⟨B, M, R⟩)), ⟨B, M, R⟩⟩ := by
  unfold Ig.red
  have h1 := upV_1 (n := L) (r := R) (b := B) hM
  have h2 := upV_1 (n := H) (r := R) (b := B) hM
  rw [rd_nn hS hl, h1.2.1, h2.2.2.2, h1.1, h2.2.2.1, h]
  rw [if_neg (by decide), if_neg (by decide)]
  split
  · simp [Cg.of, md]
  · rfl
theorem rd_1 {I : Ig} {S : Bool} (hz : S = false → I = Ig.zero) (h : (!S) = true) : I.red = Ig.zero := by
  rw [hz (by simpa using h)]; rfl
theorem bN {b : Bool} (h : (!b) = true) : b = false := by simpa using h
theorem bP {b : Bool} (h : (!b) = false) : b = true := by simpa using h
theorem bE {M : Int} (h : (M == 0) = true) : M = 0 := by simpa using h
theorem bF {M : Int} (h : (M == 0) = false) : ¬ M = 0 := by simpa using h
theorem rd_4a {S B : Bool} {L H M R : Int} (hM : ¬ M = 0) (h : (!wIntB (upW L ⟨B, M, R⟩)) = true) : Ig.red ⟨⟨S, L, H⟩, ⟨B, M, R⟩⟩ = Ig.zero := rd_4 hM (by rw [h]; rfl)
theorem rd_4b {S B : Bool} {L H M R : Int} (hM : ¬ M = 0) (h : (!wIntB (dnW H ⟨B, M, R⟩)) = true) : Ig.red ⟨⟨S, L, H⟩, ⟨B, M, R⟩⟩ = Ig.zero := rd_4 hM (by rw [h]; simp)
theorem rd_4c {S B : Bool} {L H M R : Int} (hM : ¬ M = 0) (h : decide (wIntV (upW L ⟨B, M, R⟩) > wIntV (dnW H ⟨B, M, R⟩)) = true) : Ig.red ⟨⟨S, L, H⟩, ⟨B, M, R⟩⟩ = Ig.zero := rd_4 hM (by rw [h]; simp)
theorem rd_5a {S B : Bool} {L H M R : Int} (hS : S = true) (hl : S = true → B = true ∧ L ≤ H) (hM : ¬ M = 0) (h1 : (!wIntB (upW L ⟨B, M, R⟩)) = false) (h2 : (!wIntB (dnW H ⟨B, M, R⟩)) = false) (h3 : decide (wIntV (upW L ⟨B, M, R⟩) > wIntV (dnW H ⟨B, M, R⟩)) = false) (h4 : (wIntV (upW L ⟨B, M, R⟩) == wIntV (dnW H ⟨B, M, R⟩)) = true) :
    Ig.red ⟨⟨S, L, H⟩, ⟨B, M, R⟩⟩ = ⟨Sp.of (wIntV (upW L ⟨B, M, R⟩)) (wIntV (dnW H ⟨B, M, R⟩)), ⟨true, 0, wIntV (upW L ⟨B, M, R⟩)⟩⟩ := by
  rw [rd_5 hS hl hM (by rw [h1, h2, h3]; rfl), if_pos (by simpa using h4)]
  have : wIntV (upW L ⟨B, M, R⟩) = wIntV (dnW H ⟨B, M, R⟩) := by simpa using h4
  rw [← this]
theorem rd_5b {S B : Bool} {L H M R : Int} (hS : S = true) (hl : S = true → B = true ∧ L ≤ H) (hM : ¬ M = 0) (h1 : (!wIntB (upW L ⟨B, M, R⟩)) = false) (h2 : (!wIntB (dnW H ⟨B, M, R⟩)) = false) (h3 : decide (wIntV (upW L ⟨B, M, R⟩) > wIntV (dnW H ⟨B, M, R⟩)) = false) (h4 : (wIntV (upW L ⟨B, M, R⟩) == wIntV (dnW H ⟨B, M, R⟩)) = false) :
    Ig.red ⟨⟨S, L, H⟩, ⟨B, M, R⟩⟩ = ⟨Sp.of (wIntV (upW L ⟨B, M, R⟩)) (wIntV (dnW H ⟨B, M, R⟩)), ⟨B, M, R⟩⟩ := by
  rw [rd_5 hS hl hM (by rw [h1, h2, h3]; rfl), if_neg (by simpa using h4)]
theorem far_fix {B : Bool} {L H M R : Int} (hM : (M == 0) = false) (hd : Cg.red ⟨B, M, R⟩) (hc : Cg.inR ⟨B, M, R⟩) (hs : Sp.inR ⟨true, L, H⟩) :
    0 < M ∧ (0 ≤ farV L ⟨B, M, R⟩ false ∧ farV L ⟨B, M, R⟩ false < 9223372036854775808) ∧ (0 ≤ farV H ⟨B, M, R⟩ true ∧ farV H ⟨B, M, R⟩ true < 9223372036854775808) ∧
    Wd.val (wd (Wd.val (wd L) + Wd.val (wd (farV L ⟨B, M, R⟩ false)))) = upW L ⟨B, M, R⟩ ∧ Wd.val (wd (Wd.val (wd H) - Wd.val (wd (farV H ⟨B, M, R⟩ true)))) = dnW H ⟨B, M, R⟩ := by
  have hM : ¬ M = 0 := by simpa using hM
  have k1 := up_key (n := L) hM hd hc
  have k2 := dn_key (n := H) hM hd hc
  unfold Cg.red at hd
  unfold Sp.inR at hs
  dsimp only at hd hs
  refine ⟨by omega, k1.2.2, k2.2.2, ?_, ?_⟩
  · exact up_val hs.1 k1.2.2.1 k1.2.2.2
  · exact dn_val hs.2 k2.2.2.1 k2.2.2.2

def FRVReduce : List Ar → Option Rs
  | [.agg [.d (.v (.bool s0)), .d (.v (.int .i64 l0)), .d (.v (.int .i64 h0)), .d (.v (.bool b0)), .d (.v (.int .i64 m0)), .d (.v (.int .i64 r0)), .d (.v (.bool z0)), .d (.lst 1 n0 f0)]] => some ⟨((n0 * 16 ≤ 140737488351232 ∧ ∀ i, i < n0 → f0 i = [st (gT (f0 i))]) ∧ Sp.inR ⟨s0, l0, h0⟩ ∧ Cg.inR ⟨b0, m0, r0⟩), .va (Vl.ar (Vl.rreduce (⟨⟨⟨s0, l0, h0⟩, ⟨b0, m0, r0⟩⟩, ⟨z0, gN n0 f0⟩⟩ : Vl))), []⟩
  | _ => none
set_option maxHeartbeats 1000000 in
set_option maxRecDepth 100000 in
theorem fcRVReduce : FC Try.prog 8 FRVReduce := by
  intro xs pre r us h hp
  unfold FRVReduce at h
  split at h
  · rename_i s0 l0 h0 b0 m0 r0 z0 n0 f0
    cases h
    have hp0 := hp
    refine FCat.of_eq (as' := [.agg [.d (.v (.bool s0)), .d (.v (.int .i64 l0)), .d (.v (.int .i64 h0)), .d (.v (.bool b0)), .d (.v (.int .i64 m0)), .d (.v (.int .i64 r0)), .d (.v (.bool z0)), .d (.lst 1 n0 fun i => [st (gT (f0 i))])]]) ?_ rfl rfl ?_
    · repeat' (first | exact trivial | exact rfl | refine ⟨?_, ?_⟩ | fail)
      all_goals first | exact hp0.2 | exact hp1.2 | exact hp2.2 | (intro i hi; exact (hp0.2 i hi).1) | (intro i hi; exact (hp1.2 i hi).1) | (intro i hi; exact (hp2.2 i hi).1) | grind
    refine fcat tys_ok (l := [(26, ⟨[], FRVClean⟩), (27, ⟨[], FRSHas⟩), (30, ⟨[], FROf⟩), (31, ⟨[], FRFar⟩), (29, ⟨[], FRAdd⟩), (32, ⟨[], FRSub⟩), (28, ⟨[], FRInt⟩), (33, ⟨[], FSMake⟩)]) ⟨fcRVClean, fcRSHas, fcROf, fcRFar, fcRAdd, fcRSub, fcRInt, fcSMake, trivial⟩ Try.func8 rfl (by kernel_rfl) true ?_
    have hc := Ig.clean_inR (i := ⟨⟨s0, l0, h0⟩, ⟨b0, m0, r0⟩⟩) hp0.2.1 hp0.2.2
    have hd := clean_red (i := ⟨⟨s0, l0, h0⟩, ⟨b0, m0, r0⟩⟩)
    repeat' (first | exact trivial | refine ⟨?_, ?_⟩ | intro _)
    all_goals first | (with_reducible show (_ : Int) ≤ _) | (with_reducible show (_ : Int) < _) | (with_reducible show (_ : Nat) ≤ _) | (with_reducible show (_ : Nat) < _) | (conv => whnf)
    all_goals first | exact hp0.2 | exact hp0.1.1 | exact (hp0.1.2 _ ‹_›) | exact hp0.2.1 | exact hp0.2.2 | exact hp0.2.1.1.1 | exact hp0.2.1.1.2 | exact hp0.2.1.2.1 | exact hp0.2.1.2.2 | exact hp0.2.2.1.1 | exact hp0.2.2.1.2 | exact hp0.2.2.2.1 | exact hp0.2.2.2.2 | rfl | (exact hc.1) | (exact hc.2) | (exact hd) | exact (wd_ok _).1.1 | exact (wd_ok _).1.2 | exact (wd_ok _).2.1 | exact (wd_ok _).2.2 | exact hc.1.1.1 | exact hc.1.1.2 | exact hc.1.2.1 | exact hc.1.2.2 | exact hc.2.1.1 | exact hc.2.1.2 | exact hc.2.2.1 | exact hc.2.2.2 | exact hc.1 | exact hc.2 | skip
    all_goals (try unfold Vl.rreduce Vl.rclean)
    all_goals (have hl := clean_live (i := (⟨⟨s0, l0, h0⟩, ⟨b0, m0, r0⟩⟩ : Ig)); have hz := clean_dead (i := (⟨⟨s0, l0, h0⟩, ⟨b0, m0, r0⟩⟩ : Ig)))
    all_goals (try dsimp only at *)
    all_goals (generalize Ig.clean (⟨⟨s0, l0, h0⟩, ⟨b0, m0, r0⟩⟩ : Ig) = I at *)
    all_goals (obtain ⟨⟨S, L, H⟩, ⟨B, M, R⟩⟩ := I)
    all_goals (try dsimp only at *)
    all_goals (have hff := fun hM : (M == 0) = false => far_fix hM hd hc.2 hc.1)
    all_goals first | (have q := hff ‹_›; omega) | skip
    all_goals first | (have e := rd_1 hz ‹_›; rw [e] <;> rfl) | (have e := rd_2 (R := R) (M := M) (B := B) (bP ‹(!S) = false›) (bE ‹_›) (bN ‹_›); rw [e] <;> rfl) | (have e := rd_3 (R := R) (M := M) (B := B) (bP ‹(!S) = false›) hl (bE ‹_›) (bP ‹(!Sp.has _ _) = false›); first | (exact absurd ‹(R == R) = false› (by simp)) | (rw [e] <;> rfl) | (exact absurd ‹(R == R) = false› (by simp))) | skip
    all_goals (obtain ⟨q1, q2, q3, q4, q5⟩ := hff ‹_›; simp only [Wd.eta, q4, q5] at *)
    all_goals first | exact (wInt_r _).1 | exact (wInt_r _).2 | (have e := rd_4a (S := S) (L := L) (H := H) (R := R) (B := B) (bF ‹(M == 0) = false›) ‹_›; rw [e] <;> rfl) | (have e := rd_4b (S := S) (L := L) (H := H) (R := R) (B := B) (bF ‹(M == 0) = false›) ‹_›; rw [e] <;> rfl) | (have e := rd_4c (S := S) (L := L) (H := H) (R := R) (B := B) (bF ‹(M == 0) = false›) ‹_›; rw [e] <;> rfl) | (have e := rd_5a (S := S) (L := L) (H := H) (R := R) (B := B) (bP ‹(!S) = false›) hl (bF ‹(M == 0) = false›) ‹_› ‹_› ‹_› ‹_›; rw [e] <;> rfl) | (have e := rd_5b (S := S) (L := L) (H := H) (R := R) (B := B) (bP ‹(!S) = false›) hl (bF ‹(M == 0) = false›) ‹_› ‹_› ‹_› ‹_›; rw [e] <;> rfl) | skip
    all_goals trace_state
  · cases h

end Go.Proofs.Ytbfinmfdcbghfaa
