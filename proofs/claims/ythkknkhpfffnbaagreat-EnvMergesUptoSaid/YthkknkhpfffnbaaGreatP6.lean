/- What the layer of envs computes: what is dropped. No condition. -/
import Derived.Test.YthkknkhpfffnbaaGreatP5
namespace Go.Proofs.YthkknkhpfffnbaaGreat
set_option linter.all false
open Go.Sx
def ixB (p : Bd → Bool) (L : List Bd) : Int := match L.findIdx? p with
  | some i => i
  | none => -1
theorem ix_some {p : Bd → Bool} {L : List Bd} {i : Nat} (hi : i < L.length) (h1 : ∀ k, k < i → p (atB L k) = false) (h2 : p (atB L i) = true) : ixB p L = i := by
  have hA : ∀ k (h : k < L.length), atB L k = L[k] := fun k h => by unfold atB; rw [List.getD_eq_getElem?_getD, List.getElem?_eq_getElem h]; rfl
  unfold ixB
  have : L.findIdx? p = some i := by
    rw [List.findIdx?_eq_some_iff_getElem]
    refine ⟨hi, by rw [← hA i hi]; exact h2, fun j hj => ?_⟩
    rw [← hA j (by omega), h1 j hj]; exact Bool.false_ne_true
  rw [this]
theorem ix_none {p : Bd → Bool} {L : List Bd} (h1 : ∀ k, k < L.length → p (atB L k) = false) : ixB p L = -1 := by
  unfold ixB
  have : L.findIdx? p = none := by
    rw [List.findIdx?_eq_none_iff]
    intro x hx
    obtain ⟨k, hk, rfl⟩ := mem_atB hx
    exact h1 k hk
  rw [this]
theorem ix_cases (p : Bd → Bool) (L : List Bd) : (ixB p L = -1 ∧ ∀ k, k < L.length → p (atB L k) = false) ∨ ∃ i, ixB p L = (i : Nat) ∧ i < L.length ∧ (∀ k, k < i → p (atB L k) = false) ∧ p (atB L i) = true := by
  have hA : ∀ k (h : k < L.length), atB L k = L[k] := fun k h => by unfold atB; rw [List.getD_eq_getElem?_getD, List.getElem?_eq_getElem h]; rfl
  unfold ixB
  cases h : L.findIdx? p with
  | none =>
    rw [List.findIdx?_eq_none_iff] at h
    exact .inl ⟨rfl, fun k hk => h _ (atB_mem hk)⟩
  | some i =>
    rw [List.findIdx?_eq_some_iff_getElem] at h
    obtain ⟨h1, h2, h3⟩ := h
    refine .inr ⟨i, rfl, h1, fun k hk => ?_, by rw [hA i h1]; exact h2⟩
    rw [hA k (by omega)]
    simpa using h3 k hk
end Go.Proofs.YthkknkhpfffnbaaGreat
namespace Go.Proofs.YthkknkhpfffnbaaGreat
set_option linter.all false
open Go.Sx
namespace En
def drop (e : En) (l : List ByteArray) : En := ⟨e.clean.live, e.clean.binds.filter fun b => memS b.name l⟩
end En
end Go.Proofs.YthkknkhpfffnbaaGreat
namespace Go.Proofs.YthkknkhpfffnbaaGreat
set_option linter.all false
open Go.Sx
namespace En
def names (e : En) : List ByteArray := if e.live = true then cleanS (e.binds.map (·.name)) else []
def rget (e : En) (s : ByteArray) : Vl := if e.live = true then ((e.binds.find? fun b => decide (b.name = s)).map fun b => b.v.rclean).getD Vl.zero else Vl.zero
def rclean (e : En) : En := ⟨e.live, e.names.map fun s => ⟨s, e.rget s⟩⟩
end En
def nmP (L : List Bd) (i : Nat) : List ByteArray := ((seg (atB L) 0 i).map (·.name)).foldl putS []
theorem nmP_all (L : List Bd) : nmP L L.length = cleanS (L.map (·.name)) := by unfold nmP cleanS; rw [seg_atB]
theorem nmP_succ (L : List Bd) (i : Nat) : nmP L (i + 1) = putS (nmP L i) (atB L i).name := by
  unfold nmP; rw [seg_snoc _ (Nat.zero_le i), List.map_append, List.foldl_append]; rfl
theorem nmP_len (L : List Bd) (i : Nat) : (nmP L i).length ≤ i := by
  induction i with
  | zero => exact Nat.le_refl _
  | succ i ih => rw [nmP_succ]; have := putS_len (nmP L i) (atB L i).name; omega
def FRNames : List Ar → Option Rs
  | [.agg [.d (.v (.bool e0)), .d (.lst 9 n0 f0)]] => some ⟨(n0 ≤ 1099511627776 ∧ RowsOk n0 f0), .va (.c (.d (lst (En.names (⟨e0, gBs n0 f0⟩ : En))))), []⟩
  | _ => none
set_option maxHeartbeats 1000000 in
set_option maxRecDepth 100000 in
theorem fcRNames : FC Tryz.prog 66 FRNames := by
  intro xs pre r us h hp
  unfold FRNames at h
  split at h
  · rename_i e0 n0 f0
    cases h
    have hp0 := hp
    refine FCat.deep (ys := [.agg [.d (.v (.bool e0)), .d (.lst 9 n0 (rwB (gBs n0 f0)))]]) ?_ ?_
    · repeat' (first | exact trivial | exact rfl | exact DvE.refl _ | refine ⟨?_, ?_⟩ | fail)
      all_goals first | exact canonB hp0.2.h
    refine fcat tys_ok (l := [(120, ⟨[], FRPut⟩)]) ⟨fcRPut, trivial⟩ Tryz.func66 rfl (by kernel_rfl) true ?_
    have hn := hp0.1
    have hL := okL_rows hp0.2
    have hlen := gBs_length n0 f0
    generalize gBs n0 f0 = L at *
    clear hp0
    subst hlen
    have hrow := okL_row hL
    have hb := gBs_row L
    repeat' (first | exact trivial | refine ⟨?_, ?_⟩ | intro _)
    all_goals first | (with_reducible show (_ : Int) ≤ _) | (with_reducible show (_ : Int) < _) | (with_reducible show (_ : Nat) ≤ _) | (with_reducible show (_ : Nat) < _) | (conv => whnf)
    refine loop_ids tys_ok (l := [(120, ⟨[], FRPut⟩)]) ⟨fcRPut, trivial⟩ (by kernel_rfl) (X := Nat × List ByteArray)
      (fun x => ⟨[(4, vx (.int .i64 x.1)), (3, .va (.c (.d (lst x.2)))), (1, .va (.c (.own 0 0)))], [(0, .cells [.d (bo e0), .d (.lst 9 L.length (rwB L))])], 1, 25⟩)
      (fun x => L.length - x.1) (fun x => x.1 ≤ L.length ∧ x.2 = nmP L x.1 ∧ (e0 = false → x.1 = 0)) [] []
      (fun x _ _ => (x.1 + 1, putS x.2 (atB L x.1).name)) (fun _ => [0]) [0] 0 0 (0, []) ?_ ?_ ?_
    · exact ⟨Nat.zero_le _, rfl, fun _ => rfl⟩
    · repeat' (first | exact trivial | exact rfl | (intro _ h; exact absurd h (Nat.not_lt_zero _)) | (intro _ _; exact rfl) | refine ⟨?_, ?_⟩ | fail)
    · rintro ⟨i, l⟩ ⟨k1, k2, k4⟩
      dsimp only at k1 k2 k4
      have k3 := nmP_len L i
      rw [← k2] at k3
      have k5 := nmP_succ L i
      rw [← k2] at k5
      cases e0 with
      | false =>
        obtain rfl := k4 rfl
        have hem : En.names ⟨false, L⟩ = [] := rfl
        have hl0 : l = [] := k2
        subst hl0
        repeat' (first | exact trivial | refine ⟨?_, ?_⟩ | intro _)
        all_goals first | (with_reducible show (_ : Int) ≤ _) | (with_reducible show (_ : Int) < _) | (with_reducible show (_ : Nat) ≤ _) | (with_reducible show (_ : Nat) < _) | (conv => whnf)
        all_goals first | (exact absurd ‹false = true› (by decide)) | skip
        all_goals (try rw [hem])
        all_goals first | rfl | (rename_i k hk; exact absurd hk (Nat.not_lt_zero _)) | trace_state
      | true =>
        have hem : En.names ⟨true, L⟩ = nmP L L.length := (nmP_all L).symm
        rcases Nat.lt_or_ge i L.length with hi | hi
        · have hne : decide ((i : Int) < (L.length : Int)) = true := decide_eq_true (by omega)
          repeat' (first | exact trivial | refine ⟨?_, ?_⟩ | intro _)
          all_goals first | (with_reducible show (_ : Int) ≤ _) | (with_reducible show (_ : Int) < _) | (with_reducible show (_ : Nat) ≤ _) | (with_reducible show (_ : Nat) < _) | (conv => whnf)
          all_goals first | (exact absurd (hne.symm.trans ‹_ = false›) (by decide)) | (exact absurd ‹true = false› (by decide)) | skip
          all_goals (try simp only [Int.toNat_natCast, Nat.zero_add, gN_lst] at *)
          all_goals first | omega | rfl | ((with_reducible show idsOk _ _ = true); rfl) | exact k5.symm | (exact congrArg (Value.int .i64) (by first | (rw [wI_id _ (by omega) (by omega)]; omega) | omega | (dsimp only; omega))) | (exact absurd ‹true = false› (by decide)) | trace_state
        · have hne : decide ((i : Int) < (L.length : Int)) = false := decide_eq_false (by omega)
          obtain rfl : i = L.length := by omega
          rw [← k2] at hem
          repeat' (first | exact trivial | refine ⟨?_, ?_⟩ | intro _)
          all_goals first | (with_reducible show (_ : Int) ≤ _) | (with_reducible show (_ : Int) < _) | (with_reducible show (_ : Nat) ≤ _) | (with_reducible show (_ : Nat) < _) | (conv => whnf)
          all_goals first | (exact absurd (hne.symm.trans ‹_ = true›) (by decide)) | skip
          all_goals (try rw [hem])
          all_goals first | rfl | trace_state
  · cases h
end Go.Proofs.YthkknkhpfffnbaaGreat
namespace Go.Proofs.YthkknkhpfffnbaaGreat
set_option linter.all false
open Go.Sx
theorem rget_hit {L : List Bd} {s : ByteArray} {i : Nat} (hi : i < L.length) (h1 : ∀ k, k < i → (atB L k).name ≠ s) (h2 : (atB L i).name = s) : En.rget ⟨true, L⟩ s = (atB L i).v.rclean := by
  have hA : ∀ k (h : k < L.length), atB L k = L[k] := fun k h => by unfold atB; rw [List.getD_eq_getElem?_getD, List.getElem?_eq_getElem h]; rfl
  have : L.find? (fun b => decide (b.name = s)) = some (atB L i) := by
    rw [List.find?_eq_some_iff_getElem]
    refine ⟨decide_eq_true h2, i, hi, (hA i hi).symm, fun j hj => ?_⟩
    rw [← hA j (by omega)]
    simpa using h1 j hj
  unfold En.rget
  rw [if_pos rfl]
  show Option.getD (Option.map _ (List.find? _ L)) _ = _
  rw [this]; rfl
theorem rget_miss {L : List Bd} {s : ByteArray} (h1 : ∀ k, k < L.length → (atB L k).name ≠ s) : En.rget ⟨true, L⟩ s = Vl.zero := by
  have : L.find? (fun b => decide (b.name = s)) = none := by
    rw [List.find?_eq_none]
    intro x hx
    obtain ⟨k, hk, rfl⟩ := mem_atB hx
    simpa using h1 k hk
  unfold En.rget
  rw [if_pos rfl]
  show Option.getD (Option.map _ (List.find? _ L)) _ = _
  rw [this]; rfl
def FRGet : List Ar → Option Rs
  | [.agg [.d (.v (.bool e0)), .d (.lst 9 n0 f0)], .c (.d (.v (.string x1)))] => some ⟨(n0 ≤ 1099511627776 ∧ RowsOk n0 f0), .va (Vl.ar (En.rget (⟨e0, gBs n0 f0⟩ : En) x1)), []⟩
  | _ => none
set_option maxHeartbeats 1000000 in
set_option maxRecDepth 100000 in
theorem fcRGet : FC Tryz.prog 25 FRGet := by
  intro xs pre r us h hp
  unfold FRGet at h
  split at h
  · rename_i e0 n0 f0 x1
    cases h
    have hp0 := hp
    refine FCat.deep (ys := [.agg [.d (.v (.bool e0)), .d (.lst 9 n0 (rwB (gBs n0 f0)))], .c (.d (.v (.string x1)))]) ?_ ?_
    · repeat' (first | exact trivial | exact rfl | exact DvE.refl _ | refine ⟨?_, ?_⟩ | fail)
      all_goals first | exact canonB hp0.2.h
    refine fcat tys_ok (l := [(27, ⟨[], FRVClean⟩)]) ⟨fcRVClean, trivial⟩ Tryz.func25 rfl (by kernel_rfl) true ?_
    have hn := hp0.1
    have hL := okL_rows hp0.2
    have hlen := gBs_length n0 f0
    generalize gBs n0 f0 = L at *
    clear hp0
    subst hlen
    have hrow := okL_row hL
    have hb := gBs_row L
    repeat' (first | exact trivial | refine ⟨?_, ?_⟩ | intro _)
    all_goals first | (with_reducible show (_ : Int) ≤ _) | (with_reducible show (_ : Int) < _) | (with_reducible show (_ : Nat) ≤ _) | (with_reducible show (_ : Nat) < _) | (conv => whnf)
    refine loop_ids tys_ok (l := [(27, ⟨[], FRVClean⟩)]) ⟨fcRVClean, trivial⟩ (by kernel_rfl) (X := Nat)
      (fun x => ⟨[(5, vx (.int .i64 x)), (1, vx (.string x1)), (2, .va (.c (.own 0 0))), (4, .va (.c (.own 1 0)))], [(0, .cells [.d (bo e0), .d (.lst 9 L.length (rwB L))]), (1, .cells [.d (bo false), .d (it 0), .d (it 0), .d (bo false), .d (it 0), .d (it 0), .d (bo false), .d (.v (.slice none 0 0))])], 2, 33⟩)
      (fun x => L.length - x) (fun x => x ≤ L.length ∧ ∀ k, k < x → (atB L k).name ≠ x1) [] []
      (fun x _ _ => x + 1) (fun _ => [0, 1]) [0, 1] 0 0 0 ?_ ?_ ?_
    · exact ⟨Nat.zero_le _, fun k h => absurd h (Nat.not_lt_zero k)⟩
    · repeat' (first | exact trivial | exact rfl | (intro _ h; exact absurd h (Nat.not_lt_zero _)) | (intro _ _; exact rfl) | refine ⟨?_, ?_⟩ | fail)
    · rintro i ⟨k1, k2⟩
      cases e0 with
      | false =>
        have hem : En.rget ⟨false, L⟩ x1 = Vl.zero := rfl
        repeat' (first | exact trivial | refine ⟨?_, ?_⟩ | intro _)
        all_goals first | (with_reducible show (_ : Int) ≤ _) | (with_reducible show (_ : Int) < _) | (with_reducible show (_ : Nat) ≤ _) | (with_reducible show (_ : Nat) < _) | (conv => whnf)
        all_goals first | (exact absurd ‹false = true› (by decide)) | skip
        all_goals (try rw [hem])
        all_goals first | rfl | (rename_i k hk; exact absurd hk (Nat.not_lt_zero _)) | trace_state
      | true =>
        rcases Nat.lt_or_ge i L.length with hi | hi
        · have hne : decide ((i : Int) < (L.length : Int)) = true := decide_eq_true (by omega)
          have ho1 := okL_at hL hi
          repeat' (first | exact trivial | refine ⟨?_, ?_⟩ | intro _)
          all_goals first | (with_reducible show (_ : Int) ≤ _) | (with_reducible show (_ : Int) < _) | (with_reducible show (_ : Nat) ≤ _) | (with_reducible show (_ : Nat) < _) | (conv => whnf)
          all_goals first | (exact absurd (hne.symm.trans ‹_ = false›) (by decide)) | (exact absurd ‹true = false› (by decide)) | skip
          all_goals (try simp only [Int.toNat_natCast, Nat.zero_add, gN_lst, seq_iff, decide_eq_true_eq, decide_eq_false_iff_not] at *)
          all_goals first | (have hh := ‹(atB L i).name = x1›; have hem := rget_hit hi k2 hh; rw [hem]; rfl) | skip
          all_goals first | omega | rfl | ((with_reducible show idsOk _ _ = true); rfl) | (exact congrArg (Value.int .i64) (by first | (rw [wI_id _ (by omega) (by omega)]; omega) | omega | (dsimp only; omega))) | (exact ho1.1.1) | (have hq := ho1.2; simp only [Sp.inR, Cg.inR] at hq; omega) | (rename_i k hk he _ _ hno; rcases Nat.lt_or_ge k i with hki | hki; exact k2 k hki he; exact hno (by rw [show i = k by omega]; exact he)) | trace_state
        · have hne : decide ((i : Int) < (L.length : Int)) = false := decide_eq_false (by omega)
          obtain rfl : i = L.length := by omega
          have hem := rget_miss k2
          repeat' (first | exact trivial | refine ⟨?_, ?_⟩ | intro _)
          all_goals first | (with_reducible show (_ : Int) ≤ _) | (with_reducible show (_ : Int) < _) | (with_reducible show (_ : Nat) ≤ _) | (with_reducible show (_ : Nat) < _) | (conv => whnf)
          all_goals first | (exact absurd (hne.symm.trans ‹_ = true›) (by decide)) | skip
          all_goals (try rw [hem])
          all_goals first | rfl | (rename_i k hk; exact absurd hk (Nat.not_lt_zero _)) | trace_state
  · cases h
end Go.Proofs.YthkknkhpfffnbaaGreat
namespace Go.Proofs.YthkknkhpfffnbaaGreat
set_option linter.all false
open Go.Sx
theorem rclean_at {e : En} {k : Nat} (hk : k < e.names.length) : atB e.rclean.binds k = ⟨atS e.names k, e.rget (atS e.names k)⟩ := by
  unfold En.rclean atB atS
  simp [List.getD_eq_getElem?_getD, hk]
theorem rclean_len (e : En) : e.rclean.binds.length = e.names.length := by unfold En.rclean; simp
theorem names_len (e : En) : e.names.length ≤ e.binds.length := by
  unfold En.names
  split
  · rw [← nmP_all]; exact nmP_len _ _
  · exact Nat.zero_le _
theorem rclean_row {e : En} {i k : Nat} {g : Nat → List DV} (hi : i < e.names.length) (hg : g 0 = bdC ⟨atS e.names i, e.rget (atS e.names i)⟩) (hk : k < i + 1) : appRow i (rwB e.rclean.binds) g k = rwB e.rclean.binds k := by
  unfold appRow
  split
  · rfl
  · rw [show k = i by omega, Nat.sub_self, hg]; show _ = bdC (atB _ i); rw [rclean_at hi]
def FREClean : List Ar → Option Rs
  | [.agg [.d (.v (.bool e0)), .d (.lst 9 n0 f0)]] => some ⟨(n0 ≤ 1099511627776 ∧ RowsOk n0 f0), .va (En.ar (En.rclean (⟨e0, gBs n0 f0⟩ : En))), []⟩
  | _ => none
set_option maxHeartbeats 3000000 in
set_option maxRecDepth 100000 in
theorem fcREClean : FC Tryz.prog 20 FREClean := by
  intro xs pre r us h hp
  unfold FREClean at h
  split at h
  · rename_i e0 n0 f0
    cases h
    have hp0 := hp
    refine FCat.deep (ys := [.agg [.d (.v (.bool e0)), .d (.lst 9 n0 (rwB (gBs n0 f0)))]]) ?_ ?_
    · repeat' (first | exact trivial | exact rfl | exact DvE.refl _ | refine ⟨?_, ?_⟩ | fail)
      all_goals first | exact canonB hp0.2.h
    refine fcat tys_ok (l := [(66, ⟨[], FRNames⟩), (25, ⟨[], FRGet⟩)]) ⟨fcRNames, fcRGet, trivial⟩ Tryz.func20 rfl (by kernel_rfl) true ?_
    have hn := hp0.1
    have hL := okL_rows hp0.2
    have hlen := gBs_length n0 f0
    generalize gBs n0 f0 = L at *
    clear hp0
    subst hlen
    have hrow := okL_row hL
    have hb := gBs_row L
    repeat' (first | exact trivial | refine ⟨?_, ?_⟩ | intro _)
    all_goals first | (with_reducible show (_ : Int) ≤ _) | (with_reducible show (_ : Int) < _) | (with_reducible show (_ : Nat) ≤ _) | (with_reducible show (_ : Nat) < _) | (conv => whnf)
    all_goals first | exact hn | exact hrow | skip
    all_goals (simp only [hb] at *)
    have hnl := names_len ⟨e0, L⟩
    have hrl := rclean_len ⟨e0, L⟩
    have hra := @rclean_row ⟨e0, L⟩
    have hrv : (En.rclean ⟨e0, L⟩).live = e0 := rfl
    generalize hNL : En.names ⟨e0, L⟩ = NL at *
    generalize hRC : En.rclean ⟨e0, L⟩ = RC at *
    refine loop_ids tys_ok (l := [(66, ⟨[], FRNames⟩), (25, ⟨[], FRGet⟩)]) ⟨fcRNames, fcRGet, trivial⟩ (by kernel_rfl) (X := Nat)
      (fun x => ⟨[(5, vx (.int .i64 x)), (4, .va (.c (.d (lst NL)))), (1, .va (.c (.own 0 0))), (2, .va (.c (.own 1 0))), (3, .va (.c (.own 2 0)))], [(0, .cells [.d (bo e0), .d (.lst 9 L.length (rwB L))]), (1, .cells [.d (bo false), .d (.v (.slice none 0 0))]), (2, .cells [.d (bo e0), .osl 3 9 0 x]), (3, .row 9 x (rwB RC.binds))], 4, 34⟩)
      (fun x => NL.length - x) (fun x => x ≤ NL.length) [31] []
      (fun x _ _ => x + 1) (fun xs => match xs with | [t] => [0, 1, 2, oI t] | _ => []) [0, 1, 2] 0 1 0 ?_ ?_ ?_
    · exact Nat.zero_le _
    · repeat' (first | exact trivial | exact rfl | (intro _ h; exact absurd h (Nat.not_lt_zero _)) | (intro _ _; exact rfl) | refine ⟨?_, ?_⟩ | fail)
      all_goals first | simp | trace_state
    · rintro i k1
      rcases Nat.lt_or_ge i NL.length with hi | hi
      · have hne : decide ((i : Int) < (NL.length : Int)) = true := decide_eq_true (by omega)
        repeat' (first | exact trivial | refine ⟨?_, ?_⟩ | intro _)
        all_goals first | (with_reducible show (_ : Int) ≤ _) | (with_reducible show (_ : Int) < _) | (with_reducible show (_ : Nat) ≤ _) | (with_reducible show (_ : Nat) < _) | (conv => whnf)
        all_goals first | (exact absurd (hne.symm.trans ‹_ = false›) (by decide)) | skip
        all_goals (try simp only [Int.toNat_natCast, Nat.zero_add, gN_lst, hb] at *)
        all_goals first | omega | rfl | exact hn | exact hrow | ((with_reducible show idsOk _ _ = true); rfl) | (exact congrArg (Value.int .i64) (by first | (rw [wI_id _ (by omega) (by omega)]; omega) | omega | (dsimp only; omega))) | (simp only [gBs_row]; exact hra hi rfl ‹_›) | trace_state
      · have hne : decide ((i : Int) < (NL.length : Int)) = false := decide_eq_false (by omega)
        obtain rfl : i = NL.length := by omega
        repeat' (first | exact trivial | refine ⟨?_, ?_⟩ | intro _)
        all_goals first | (with_reducible show (_ : Int) ≤ _) | (with_reducible show (_ : Int) < _) | (with_reducible show (_ : Nat) ≤ _) | (with_reducible show (_ : Nat) < _) | (conv => whnf)
        all_goals first | (exact absurd (hne.symm.trans ‹_ = true›) (by decide)) | skip
        all_goals first | rfl | omega | exact hrl.symm | exact congrArg Value.bool hrv.symm | (rename_i k _; show rwB RC.binds (0 + k) = _; rw [Nat.zero_add]) | trace_state
  · cases h
end Go.Proofs.YthkknkhpfffnbaaGreat
namespace Go.Proofs.YthkknkhpfffnbaaGreat
set_option linter.all false
open Go.Sx
theorem RowsOk.congr {n : Nat} {f h : Nat → List DV} (hh : RowsOk n h) (e : ∀ k, k < n → f k = h k) : RowsOk n f := ⟨fun i hi => by rw [e i hi]; exact hh.h i hi⟩
end Go.Proofs.YthkknkhpfffnbaaGreat
namespace Go.Proofs.YthkknkhpfffnbaaGreat
set_option linter.all false
open Go.Sx
def FREExact : List Ar → Option Rs
  | [.agg [.d (.v (.bool e0)), .d (.lst 9 n0 f0)], .agg [.d (.v (.bool e1)), .d (.lst 9 n1 f1)]] => some ⟨(n0 ≤ 1099511627776 ∧ RowsOk n0 f0) ∧ (n1 ≤ 1099511627776 ∧ RowsOk n1 f1) ∧ ((⟨e0, gBs n0 f0⟩ : En) = (⟨e1, gBs n1 f1⟩ : En)), .va (.c (.d (bo (true)))), []⟩
  | _ => none
set_option maxHeartbeats 2000000 in
set_option maxRecDepth 100000 in
theorem fcREExact : FC Tryz.prog 14 FREExact := by
  intro xs pre r us h hp
  unfold FREExact at h
  split at h
  · rename_i e0 n0 f0 e1 n1 f1
    cases h
    obtain ⟨hp0, hp1, hp2⟩ := hp
    refine FCat.deep (ys := [.agg [.d (.v (.bool e0)), .d (.lst 9 n0 (rwB (gBs n0 f0)))], .agg [.d (.v (.bool e1)), .d (.lst 9 n1 (rwB (gBs n1 f1)))]]) ?_ ?_
    · repeat' (first | exact trivial | exact rfl | exact DvE.refl _ | refine ⟨?_, ?_⟩ | fail)
      all_goals first | first | exact canonB hp0.2.h | exact canonB hp1.2.h
    refine fcat tys_ok (l := [(23, ⟨[], FRVExact⟩)]) ⟨fcRVExact, trivial⟩ Tryz.func14 rfl (by kernel_rfl) true ?_
    have hn := hp0.1
    have hL := okL_rows hp0.2
    have hlen := gBs_length n0 f0
    have hlen1 := gBs_length n1 f1
    have he2 : gBs n0 f0 = gBs n1 f1 := congrArg En.binds hp2
    obtain rfl : e0 = e1 := congrArg En.live hp2
    generalize hg1 : gBs n1 f1 = M at *
    generalize gBs n0 f0 = L at *
    subst he2
    clear hp0 hp1 hp2
    subst hlen
    subst hlen1
    repeat' (first | exact trivial | refine ⟨?_, ?_⟩ | intro _)
    all_goals first | (with_reducible show (_ : Int) ≤ _) | (with_reducible show (_ : Int) < _) | (with_reducible show (_ : Nat) ≤ _) | (with_reducible show (_ : Nat) < _) | (conv => whnf)
    all_goals first | ((with_reducible show ASat _ _ _ _ _); skip) | (exfalso; simp_all; done)
    refine loop_ids tys_ok (l := [(23, ⟨[], FRVExact⟩)]) ⟨fcRVExact, trivial⟩ (by kernel_rfl) (X := Nat)
      (fun x => ⟨[(5, vx (.int .i64 x)), (2, .va (.c (.own 0 0))), (3, .va (.c (.own 1 0)))], [(0, .cells [.d (bo e0), .d (.lst 9 L.length (rwB L))]), (1, .cells [.d (bo e0), .d (.lst 9 L.length (rwB L))])], 2, 56⟩)
      (fun x => L.length - x) (fun x => x ≤ L.length) [] []
      (fun x _ _ => x + 1) (fun _ => [0, 1]) [0, 1] 0 0 0 ?_ ?_ ?_
    · exact Nat.zero_le _
    · repeat' (first | exact trivial | exact rfl | (intro _ h; exact absurd h (Nat.not_lt_zero _)) | (intro _ _; exact rfl) | refine ⟨?_, ?_⟩ | fail)
    · rintro i k1
      rcases Nat.lt_or_ge i L.length with hi | hi
      · have hne : decide ((i : Int) < (L.length : Int)) = true := decide_eq_true (by omega)
        have ho1 := okL_at hL hi
        have hq := ho1.2
        simp only [Sp.inR, Cg.inR] at hq
        repeat' (first | exact trivial | refine ⟨?_, ?_⟩ | intro _)
        all_goals first | (with_reducible show (_ : Int) ≤ _) | (with_reducible show (_ : Int) < _) | (with_reducible show (_ : Nat) ≤ _) | (with_reducible show (_ : Nat) < _) | (conv => whnf)
        all_goals first | (exact absurd (hne.symm.trans ‹_ = false›) (by decide)) | skip
        all_goals (try simp only [Int.toNat_natCast, Nat.zero_add, gN_lst] at *)
        all_goals first | omega | rfl | ((with_reducible show idsOk _ _ = true); rfl) | (exact congrArg (Value.int .i64) (by first | (rw [wI_id _ (by omega) (by omega)]; omega) | omega | (dsimp only; omega))) | exact ho1.1.1 | skip
        all_goals first | (have h := ‹(!((atB L i).name.toList == (atB L i).name.toList)) = true›; simp at h; done) | (have h := ‹(!Vl.exact _ _) = true›; rw [exact_refl] at h; cases h) | trace_state
      · have hne : decide ((i : Int) < (L.length : Int)) = false := decide_eq_false (by omega)
        obtain rfl : i = L.length := by omega
        repeat' (first | exact trivial | refine ⟨?_, ?_⟩ | intro _)
        all_goals first | (with_reducible show (_ : Int) ≤ _) | (with_reducible show (_ : Int) < _) | (with_reducible show (_ : Nat) ≤ _) | (with_reducible show (_ : Nat) < _) | (conv => whnf)
        all_goals first | (exact absurd (hne.symm.trans ‹_ = true›) (by decide)) | skip
        all_goals first | rfl | trace_state
  · cases h
end Go.Proofs.YthkknkhpfffnbaaGreat
namespace Go.Proofs.YthkknkhpfffnbaaGreat
set_option linter.all false
open Go.Sx
theorem ltB_iff {a b : Bd} : ltB a b = true ↔ kS a.name < kS b.name := by
  unfold ltB; rw [decide_eq_true_eq]; exact cfL_lt _ _
theorem ltB_iff' {a b : Bd} : ltB a b = false ↔ ¬ kS a.name < kS b.name := by
  rw [← ltB_iff]
  cases ltB a b <;> simp
def SS (D : List Bd) : Prop := D.Pairwise fun a b => kS a.name < kS b.name
def lk : List Bd → ByteArray → Option Vl
  | [], _ => none
  | x :: r, s => if x.name = s then some x.v else lk r s
theorem lk_nil (s : ByteArray) : lk [] s = none := rfl
theorem lk_cons (x : Bd) (r : List Bd) (s : ByteArray) : lk (x :: r) s = if x.name = s then some x.v else lk r s := rfl
theorem lk_none {D : List Bd} {s : ByteArray} (h : ∀ b ∈ D, b.name ≠ s) : lk D s = none := by
  induction D with
  | nil => rfl
  | cons x r ih => rw [lk_cons, if_neg (h x List.mem_cons_self)]; exact ih fun b hb => h b (List.mem_cons_of_mem _ hb)
theorem lk_append (l m : List Bd) (s : ByteArray) : lk (l ++ m) s = (lk l s).or (lk m s) := by
  induction l with
  | nil => simp [lk]
  | cons x r ih =>
    rw [List.cons_append, lk_cons, lk_cons, ih]
    split <;> simp
theorem lk_mem {D : List Bd} {s : ByteArray} {v : Vl} (h : lk D s = some v) : (⟨s, v⟩ : Bd) ∈ D := by
  induction D with
  | nil => cases h
  | cons x r ih =>
    rw [lk_cons] at h
    split at h
    · rename_i e; subst e; cases h; exact List.mem_cons_self
    · exact List.mem_cons_of_mem _ (ih h)
theorem lk_of_mem {D : List Bd} (h : SS D) {b : Bd} (hb : b ∈ D) : lk D b.name = some b.v := by
  induction D with
  | nil => cases hb
  | cons x r ih =>
    have h1 := List.pairwise_cons.1 h
    rw [lk_cons]
    rcases List.mem_cons.1 hb with rfl | hb
    · rw [if_pos rfl]
    · rw [if_neg, ih h1.2 hb]
      intro e
      have := h1.1 b hb
      rw [e] at this; exact List.lt_irrefl _ this
theorem lk_isSome {D : List Bd} {s : ByteArray} : (lk D s).isSome = true ↔ s ∈ D.map (·.name) := by
  induction D with
  | nil => simp [lk]
  | cons x r ih =>
    rw [lk_cons, List.map_cons, List.mem_cons]
    split
    · rename_i h; simp [h]
    · rename_i h
      rw [ih]
      constructor
      · exact .inr
      · rintro (rfl | h2)
        · exact absurd rfl h
        · exact h2
theorem ss_head {x : Bd} {r : List Bd} (h : SS (x :: r)) {s : ByteArray} (hs : ¬ kS x.name < kS s) : lk r s = none := by
  refine lk_none fun b hb e => hs ?_
  have := (List.pairwise_cons.1 h).1 b hb
  rw [e] at this; exact this
theorem ss_ext : ∀ {D E : List Bd}, SS D → SS E → (∀ s, lk D s = lk E s) → D = E
  | [], [], _, _, _ => rfl
  | [], y :: r, _, _, h => by have := h y.name; rw [lk_nil, lk_cons, if_pos rfl] at this; cases this
  | x :: r, [], _, _, h => by have := h x.name; rw [lk_nil, lk_cons, if_pos rfl] at this; cases this
  | x :: r, y :: q, hD, hE, h => by
    by_cases e : x.name = y.name
    · have h1 := h x.name
      rw [lk_cons, lk_cons, if_pos rfl, if_pos e.symm] at h1
      have hv := Option.some.inj h1
      have hxy : x = y := by cases x; cases y; simp_all
      subst hxy
      congr 1
      refine ss_ext (List.pairwise_cons.1 hD).2 (List.pairwise_cons.1 hE).2 fun s => ?_
      by_cases es : x.name = s
      · subst es
        rw [ss_head hD (List.lt_irrefl _), ss_head hE (List.lt_irrefl _)]
      · have := h s
        rw [lk_cons, lk_cons, if_neg es, if_neg es] at this
        exact this
    · exfalso
      by_cases c : kS x.name < kS y.name
      · have := h x.name
        rw [lk_cons, if_pos rfl, lk_cons, if_neg (Ne.symm e), ss_head hE (List.lt_asymm c)] at this
        cases this
      · have c2 := kS_tri c e
        have := h y.name
        rw [lk_cons, if_neg e, ss_head hD (List.lt_asymm c2), lk_cons, if_pos rfl] at this
        cases this
def mapV (f : Vl → Vl) (D : List Bd) : List Bd := D.map fun b => ⟨b.name, f b.v⟩
theorem lk_mapV (f : Vl → Vl) (D : List Bd) (s : ByteArray) : lk (mapV f D) s = (lk D s).map f := by
  induction D with
  | nil => rfl
  | cons x r ih =>
    show lk (⟨x.name, f x.v⟩ :: mapV f r) s = _
    rw [lk_cons, lk_cons, ih]
    split <;> rfl
theorem ss_mapV {f : Vl → Vl} {D : List Bd} (h : SS D) : SS (mapV f D) := by
  unfold SS mapV; rw [List.pairwise_map]; exact h
theorem lk_mg {S : List Bd} (h : Std ltB S) (x : Bd) (s : ByteArray) : lk (mg ltB S [x]) s = (lk S s).or (lk [x] s) := by
  induction S with
  | nil => rw [mg_nil]; simp [lk]
  | cons y r ih =>
    have h1 := List.pairwise_cons.1 h
    rw [mg_cons]
    split
    · rename_i hlt
      have hlt := ltB_iff.1 hlt
      rw [mg_right]
      by_cases e : x.name = s
      · subst e
        have hn : lk (y :: r) x.name = none := by
          refine lk_none fun b hb e => ?_
          rcases List.mem_cons.1 hb with rfl | hb
          · rw [e] at hlt; exact List.lt_irrefl _ hlt
          · have := ltB_iff'.1 (h1.1 b hb)
            rw [e] at this; exact this hlt
        rw [hn, lk_cons, if_pos rfl, lk_cons, if_pos rfl]; rfl
      · rw [lk_cons, if_neg e, lk_cons x, if_neg e, lk_nil]; simp
    · rw [lk_cons, lk_cons, ih h1.2]
      split <;> simp
theorem lk_srt (L : List Bd) (s : ByteArray) : lk (srt ltB L) s = lk L s := by
  induction L using snocRec with
  | h0 => rfl
  | h1 l x ih => rw [srt_snoc, lk_mg (srt_srt wkB l), ih, lk_append]
theorem ddA_congr {p q : Bd} (h : p.name = q.name) (r : List Bd) : ddA p r = ddA q r := by
  cases r with
  | nil => rfl
  | cons y r => rw [ddA, ddA, h]
theorem lk_ddA (r : List Bd) (p : Bd) (s : ByteArray) : lk (p :: ddA p r) s = lk (p :: r) s := by
  induction r generalizing p with
  | nil => rfl
  | cons y r ih =>
    rw [ddA]
    split
    · rename_i h
      rw [ddA_congr h, ih p, lk_cons, lk_cons, lk_cons y]
      split
      · rfl
      · rename_i h2; rw [if_neg (by rw [h]; exact h2)]
    · rw [lk_cons, lk_cons p, ih y]
theorem lk_dd (l : List Bd) (s : ByteArray) : lk (dd l) s = lk l s := by
  cases l with
  | nil => rfl
  | cons p r => exact lk_ddA r p s
theorem ss_ddA (r : List Bd) (p : Bd) (h : Std ltB (p :: r)) : SS (p :: ddA p r) := by
  induction r generalizing p with
  | nil => simp [ddA, SS]
  | cons y r ih =>
    have h1 := List.pairwise_cons.1 h
    have hy := List.pairwise_cons.1 (ih y h1.2)
    rw [ddA]
    split
    · rename_i e
      refine List.pairwise_cons.2 ⟨fun x hx => ?_, hy.2⟩
      have := hy.1 x hx
      rw [e] at this; exact this
    · rename_i e
      have hpy : kS p.name < kS y.name := kS_tri (ltB_iff'.1 (h1.1 y List.mem_cons_self)) e
      refine List.pairwise_cons.2 ⟨fun x hx => ?_, ih y h1.2⟩
      rcases List.mem_cons.1 hx with rfl | hx
      · exact hpy
      · exact List.lt_trans hpy (hy.1 x hx)
theorem ss_dd {l : List Bd} (h : Std ltB l) : SS (dd l) := by
  cases l with
  | nil => exact List.Pairwise.nil
  | cons p r => exact ss_ddA r p h
namespace En
def hold (e : En) (s : ByteArray) : Option Vl := if e.live = true then lk e.binds s else none
end En
theorem clean_ss (e : En) : SS e.clean.binds := by
  unfold En.clean
  split
  · exact ss_mapV (ss_dd (srt_srt wkB _))
  · exact List.Pairwise.nil
theorem eclean_live (e : En) : e.clean.live = e.live := by
  unfold En.clean
  split
  · rename_i h; exact h.symm
  · rename_i h; simpa using h
theorem clean_lk (e : En) (s : ByteArray) : lk e.clean.binds s = (e.hold s).map Vl.of := by
  unfold En.clean En.hold
  split
  · show lk (mapV Vl.of _) s = _
    rw [lk_mapV, lk_dd, lk_srt]
  · rfl
theorem en_ext {a b : En} (h : a.live = b.live) (h1 : SS a.binds) (h2 : SS b.binds) (hs : ∀ s, lk a.binds s = lk b.binds s) : a = b := by
  obtain ⟨l, x⟩ := a
  obtain ⟨m, y⟩ := b
  simp only at h h1 h2 hs
  subst h
  rw [ss_ext h1 h2 hs]
end Go.Proofs.YthkknkhpfffnbaaGreat
set_option linter.all false
namespace Go.Sx
def normH (h : List (Nat × Blk)) : Nat → List (Nat × Blk) → List (Nat × Blk)
  | 0, acc => acc
  | k + 1, acc => match lookB h k with
    | .gone => normH h k acc
    | b => normH h k ((k, b) :: acc)
def norm (live : List Nat) : St → St
  | ⟨ts, h, n, m⟩ => ⟨live.map fun t => (t, lookT ts t), normH h n [], n, m⟩
def normTs (ts : List (Nat × Tm)) : List Nat → (List (Nat × Tm) → Prop) → Prop
  | [], K => K []
  | t :: l, K => fT (lookT ts t) fun x => normTs ts l fun r => K ((t, x) :: r)
def normHs (h : List (Nat × Blk)) : Nat → List (Nat × Blk) → (List (Nat × Blk) → Prop) → Prop
  | 0, acc, K => K acc
  | k + 1, acc, K => fB (lookB h k) fun b => match b with
    | .gone => normHs h k acc K
    | .cells cs => normHs h k ((k, .cells cs) :: acc) K
    | .row a b c => normHs h k ((k, .row a b c) :: acc) K
    | .fz cs => normHs h k ((k, .fz cs) :: acc) K
    | .fzr a b c => normHs h k ((k, .fzr a b c) :: acc) K
def normK (live : List Nat) (st : St) (K : St → Prop) : Prop := match st with
  | ⟨ts, h, n, m⟩ => normTs ts live fun ts' => normHs h n [] fun h' => K ⟨ts', h', n, m⟩
theorem normTs_eq (ts : List (Nat × Tm)) : ∀ (l : List Nat) (K : List (Nat × Tm) → Prop), normTs ts l K = K (l.map fun t => (t, lookT ts t))
  | [], K => rfl
  | t :: l, K => by simp only [normTs, fT_eq, normTs_eq ts l, List.map_cons]
theorem normHs_eq (h : List (Nat × Blk)) : ∀ (n : Nat) (acc : List (Nat × Blk)) (K : List (Nat × Blk) → Prop), normHs h n acc K = K (normH h n acc)
  | 0, acc, K => rfl
  | k + 1, acc, K => by
    simp only [normHs, normH, fB_eq]
    cases lookB h k <;> simp only [normHs_eq h k]
theorem normK_eq (live : List Nat) (st : St) (K : St → Prop) : normK live st K = K (norm live st) := by
  obtain ⟨ts, h, n, m⟩ := st
  simp only [normK, norm, normTs_eq, normHs_eq]
theorem lookT_live (ts : List (Nat × Tm)) (t : Nat) : ∀ (l : List Nat), lookT (l.map fun t => (t, lookT ts t)) t = lookT ts t ∨ lookT (l.map fun t => (t, lookT ts t)) t = topT
  | [] => .inr rfl
  | u :: l => by
    simp only [List.map_cons, lookT]
    cases hu : Nat.beq u t with
    | true => left; rw [Nat.eq_of_beq_eq_true hu]
    | false => exact lookT_live ts t l
theorem lookB_normH (h : List (Nat × Blk)) (k : Nat) : ∀ (n : Nat) (acc : List (Nat × Blk)), (k < n → lookB h k ≠ .gone → lookB (normH h n acc) k = lookB h k) ∧ (n ≤ k ∨ lookB h k = .gone → lookB (normH h n acc) k = lookB acc k)
  | 0, acc => ⟨fun h => absurd h (Nat.not_lt_zero k), fun _ => rfl⟩
  | n + 1, acc => by
    simp only [normH]
    split
    · rename_i hg
      obtain ⟨h1, h2⟩ := lookB_normH h k n acc
      refine ⟨fun hk hn => h1 ?_ hn, fun hk => h2 ?_⟩
      · rcases Nat.lt_succ_iff_lt_or_eq.1 hk with h | h
        · exact h
        · subst h; exact absurd hg hn
      · rcases hk with hk | hk
        · exact .inl (by omega)
        · exact .inr hk
    · rename_i hg
      obtain ⟨h1, h2⟩ := lookB_normH h k n ((n, lookB h n) :: acc)
      refine ⟨fun hk hn => ?_, fun hk => ?_⟩
      · rcases Nat.lt_succ_iff_lt_or_eq.1 hk with h | h
        · exact h1 h hn
        · subst h; rw [h2 (.inl (Nat.le_refl _)), lookB_cons, if_pos rfl]
      · rcases hk with hk | hk
        · rw [h2 (.inl (by omega)), lookB_cons, if_neg (by omega)]
        · rw [h2 (.inr hk), lookB_cons, if_neg (fun e => by subst e; exact hg hk)]
section
variable {P : Program} {τ : Tys} {Γ : Sums} {base : Nat} {ψ ψ' : Psi} {S S' : Nat → Prop} {w w' : World} {a : Act} {st : St}
theorem Rel.norm (live : List Nat) (hr : Rel P base ψ S w st a) : Rel P base ψ S w (norm live st) a := by
  obtain ⟨ts, h, n, m⟩ := st
  have hl : ∀ k l, ψ k = some l → lookB (normH h n []) k = lookB h k := by
    intro k l hk
    have hk2 : k < n := by
      rcases Nat.lt_or_ge k n with h1 | h1
      · exact h1
      · have := hr.sim.dom k h1; rw [hk] at this; cases this
    by_cases c : lookB h k = .gone
    · rw [(lookB_normH h k n []).2 (.inr c), c]; rfl
    · exact (lookB_normH h k n []).1 hk2 c
  have hs := hr.sim
  refine ⟨hr.bas, ⟨hs.dom, fun k l hk => ?_, fun k k' b m1 m2 e1 e2 l1 l2 => ?_, fun k b m1 e1 l1 => ?_, hs.pdom, hs.sdom⟩, hr.lim, hr.defers, fun t => ?_⟩
  · show BlkRep P ψ S w (lookB (normH h n []) k) l
    rw [hl k l hk]; exact hs.blk k l hk
  · rw [show lookB (norm live ⟨ts, h, n, m⟩).heap k = lookB h k from hl k _ e1] at l1
    rw [show lookB (norm live ⟨ts, h, n, m⟩).heap k' = lookB h k' from hl k' _ e2] at l2
    exact hs.inj k k' b m1 m2 e1 e2 l1 l2
  · rw [show lookB (norm live ⟨ts, h, n, m⟩).heap k = lookB h k from hl k _ e1] at l1
    exact hs.dis k b m1 e1 l1
  · show RepT P ψ S w (lookT (live.map fun t => (t, lookT ts t)) t) _
    rcases lookT_live ts t live with e | e
    · rw [e]; exact hr.tmps t
    · rw [e]; trivial
theorem tail_intro {F G : St → Prop} {s : St} (h1 : F s) (h2 : G s) : ∃ s, F s ∧ G s := ⟨s, h1, h2⟩
end
theorem draw_cut {P : Program} {t : TT} (ht : t.ok P) {l : List (Nat × Sm)} (hl : sumsOk P l) (hmix : P.follows .mixedOrders = true) {base : Nat} {ops : Array Oper} {id : Nat} {st : St} {Q : Exit → St → Prop} (p : Plan) (live : List Nat)
    (hp : (Region.noSelect ops && planOk ops ops.size (Array.replicate ops.size false) p) = true)
    (hk : ∃ s, vcP P t.get (vcCall P (sums l) base) ops.toList p st (fun st' => normK live st' fun s' => s' = s) ∧ Q .normal s) : ASat P base (.region id ops true) st Q := by
  obtain ⟨s, hv, hs⟩ := hk
  have h : ASat P base (.region id ops true) st (fun e st' => e = .normal ∧ norm live st' = s) := by
    refine draw_plan ht hl hmix p hp ?_
    have e : (fun st' => normK live st' fun s' => s' = s) = fun st' => Exit.normal = .normal ∧ norm live st' = s := by
      funext st'; rw [normK_eq]; simp
    rw [← e]; exact hv
  refine ⟨fun ψ S w a hr => wp_mono (h.run ψ S w a hr) ?_⟩
  rintro e a' w' ⟨st', ψ', S', ⟨rfl, h1⟩, h2, h3⟩
  exact ⟨s, ψ', S', hs, by rw [← h1]; exact h2.norm live, h3⟩
def idxOf (k : Nat) : List Nat → List Nat → Option Nat
  | i :: l, j :: js => match Nat.beq i k with
    | true => some j
    | false => idxOf k l js
  | _, _ => none
def renCaps (js ids : List Nat) : List (Nat × Nat) → Option (List (Nat × Nat))
  | [] => some []
  | (k, o) :: l => match idxOf k ids js, renCaps js ids l with
    | some j, some r => some ((j, o) :: r)
    | _, _ => none
def renC (js ids : List Nat) (x : Cell) : Cell := match x with
  | .own k off => match idxOf k ids js with
    | some j => .own j off
    | none => .top
  | .osl k sz o len => match idxOf k ids js with
    | some j => .osl j sz o len
    | none => .top
  | .ep k sz i off => match idxOf k ids js with
    | some j => .ep j sz i off
    | none => .top
  | .fn f caps => match renCaps js ids caps with
    | some r => .fn f r
    | none => .top
  | .osc .. => .top
  | .ap .. => .top
  | x => x
def renVa (js ids : List Nat) (x : Va) : Va := match x with
  | .c x => .c (renC js ids x)
  | .agg xs => .agg (xs.map (renC js ids))
def renT (js ids : List Nat) (x : Tm) : Tm := match x with
  | .va x => .va (renVa js ids x)
  | .tup _ => topT
def renB (js ids : List Nat) (b : Blk) : Blk := match b with
  | .cells cs => .cells (cs.map (renC js ids))
  | b => b
def renTs (js ids : List Nat) (ts : List (Nat × Tm)) (l : List Nat) : List (Nat × Tm) := l.map fun t => (t, renT js ids (lookT ts t))
def renHs (js ids : List Nat) (h : List (Nat × Blk)) : List Nat → List Nat → List (Nat × Blk)
  | k :: l, j :: l' => (j, renB js ids (lookB h k)) :: renHs js ids h l l'
  | _, _ => []
def ren (live js ids : List Nat) (n1 : Nat) : St → St
  | ⟨ts, h, _, m⟩ => ⟨renTs js ids ts live, renHs js ids h ids js, n1, m⟩
def fTs : List (Nat × Tm) → (List (Nat × Tm) → Prop) → Prop
  | [], K => K []
  | (t, x) :: l, K => fT x fun x => fTs l fun r => K ((t, x) :: r)
def fBc (b : Blk) (K : Blk → Prop) : Prop := match b with
  | .cells cs => fCs cs fun cs => K (.cells cs)
  | b => fB b K
def fHs : List (Nat × Blk) → (List (Nat × Blk) → Prop) → Prop
  | [], K => K []
  | (t, x) :: l, K => fBc x fun x => fHs l fun r => K ((t, x) :: r)
def fSt (st : St) (K : St → Prop) : Prop := match st with
  | ⟨ts, h, n, m⟩ => fTs ts fun ts => fHs h fun h => K ⟨ts, h, n, m⟩
theorem fTs_eq : ∀ (l : List (Nat × Tm)) (K : List (Nat × Tm) → Prop), fTs l K = K l
  | [], _ => rfl
  | (t, x) :: l, K => by simp only [fTs, fT_eq, fTs_eq l]
theorem fBc_eq (b : Blk) (K : Blk → Prop) : fBc b K = K b := by
  cases b <;> simp only [fBc, fB_eq, fCs_eq]
theorem fHs_eq : ∀ (l : List (Nat × Blk)) (K : List (Nat × Blk) → Prop), fHs l K = K l
  | [], _ => rfl
  | (t, x) :: l, K => by simp only [fHs, fBc_eq, fHs_eq l]
theorem fSt_eq (st : St) (K : St → Prop) : fSt st K = K st := by
  obtain ⟨ts, h, n, m⟩ := st; simp only [fSt, fTs_eq, fHs_eq]
theorem idxOf_some {k : Nat} : ∀ {l js : List Nat} {i j : Nat}, idxOf k l js = some j → (∀ q, q < js.length → js[q]? = some (i + q)) → i ≤ j ∧ l[j - i]? = some k
  | [], _, _, _, h, _ => by simp [idxOf] at h
  | _ :: _, [], _, _, h, _ => by simp [idxOf] at h
  | x :: l, y :: js, i, j, h, hj => by
    simp only [idxOf] at h
    have hy : y = i := by simpa using hj 0 (by simp)
    split at h
    · rename_i e; cases h; subst hy; exact ⟨Nat.le_refl _, by simp [Nat.eq_of_beq_eq_true e]⟩
    · obtain ⟨h1, h2⟩ := idxOf_some (i := i + 1) h (fun q hq => by
        have := hj (q + 1) (by simp; omega)
        rw [List.getElem?_cons_succ] at this
        rw [this]; congr 1; omega)
      exact ⟨by omega, by rw [show j - i = (j - (i + 1)) + 1 by omega, List.getElem?_cons_succ]; exact h2⟩
def Ups (js : List Nat) : Prop := ∀ q, q < js.length → js[q]? = some q
theorem idx_at {k j : Nat} {js ids : List Nat} (hj : Ups js) (h : idxOf k ids js = some j) : ids[j]? = some k := by simpa using (idxOf_some (i := 0) h (by simpa [Ups] using hj)).2
theorem renCaps_le {js ids : List Nat} (hj : Ups js) : ∀ {l r : List (Nat × Nat)}, renCaps js ids l = some r → capsLe ids l r
  | [], r, h => by cases h; trivial
  | (k, o) :: l, r, h => by
    simp only [renCaps] at h
    split at h
    · rename_i j r' h1 h2; cases h; exact ⟨⟨idx_at hj h1, rfl⟩, renCaps_le hj h2⟩
    · cases h
theorem cellLe_top {ids : List Nat} {nv : Nat} (x : Cell) : cellLe ids nv x .top := by cases x <;> trivial
theorem renC_le {js : List Nat} (hj : Ups js) (ids : List Nat) (x : Cell) : cellLe ids 0 x (renC js ids x) := by
  cases x with
  | own k off => simp only [renC]; split; exact ⟨idx_at hj ‹_›, rfl⟩; exact cellLe_top _
  | osl k sz o len => simp only [renC]; split; exact ⟨idx_at hj ‹_›, rfl, rfl, rfl⟩; exact cellLe_top _
  | ep k sz i off => simp only [renC]; split; exact ⟨idx_at hj ‹_›, rfl, rfl, rfl⟩; exact cellLe_top _
  | fn f caps => simp only [renC]; split; exact ⟨rfl, renCaps_le hj ‹_›⟩; exact cellLe_top _
  | osc => exact cellLe_top _
  | ap => exact cellLe_top _
  | top => trivial
  | und => trivial
  | kb b => exact rfl
  | d x => cases x <;> simp [renC, cellLe, dvEq]
  | rp cs => exact rfl
  | fv g => exact rfl
theorem renCs_le {js : List Nat} (hj : Ups js) (ids : List Nat) : ∀ (xs : List Cell), cellsLe ids 0 xs (xs.map (renC js ids))
  | [] => trivial
  | x :: xs => ⟨renC_le hj ids x, renCs_le hj ids xs⟩
theorem renVa_le {js : List Nat} (hj : Ups js) (ids : List Nat) (x : Va) : vaLe ids 0 x (renVa js ids x) := by
  cases x with
  | c x =>
    have h := renC_le hj ids x
    show vaLe ids 0 (.c x) (.c (renC js ids x))
    cases hx : renC js ids x <;> rw [hx] at h <;> first | trivial | exact h
  | agg xs => exact renCs_le hj ids xs
theorem renT_le {js : List Nat} (hj : Ups js) (ids : List Nat) (x : Tm) : tmLe ids 0 x (renT js ids x) := by
  cases x with
  | va x =>
    have h := renVa_le hj ids x
    show tmLe ids 0 (.va x) (.va (renVa js ids x))
    cases hx : renVa js ids x with
    | c y => rw [hx] at h; cases y <;> first | trivial | exact h
    | agg ys => rw [hx] at h; exact h
  | tup xs => trivial
theorem renTs_le {js : List Nat} (hj : Ups js) (ids : List Nat) (ts : List (Nat × Tm)) : ∀ (l : List Nat), tmpsLe ids 0 ts (renTs js ids ts l)
  | [] => trivial
  | t :: l => ⟨renT_le hj ids _, renTs_le hj ids ts l⟩
theorem renB_le {js : List Nat} (hj : Ups js) (ids : List Nat) (b : Blk) : blkLe ids 0 b (renB js ids b) := by
  cases b with
  | cells cs => exact renCs_le hj ids cs
  | row => exact ⟨rfl, rfl, fun _ _ => rfl⟩
  | fz => exact rfl
  | fzr => exact ⟨rfl, rfl, fun _ _ => rfl⟩
  | gone => trivial
theorem renHs_le {js : List Nat} (hj : Ups js) (ids : List Nat) (h : List (Nat × Blk)) : ∀ (l l' : List Nat) (j : Nat), (∀ i, l[i]? = ids[j + i]?) → (∀ q, q < l'.length → l'[q]? = some (j + q)) → heapLe ids 0 h (renHs js ids h l l')
  | [], _, _, _, _ => trivial
  | _ :: _, [], _, _, _ => trivial
  | k :: l, y :: l', j, hl, hq => by
    have h0 := hl 0
    simp only [List.getElem?_cons_zero, Nat.add_zero] at h0
    have hy : y = j := by simpa using hq 0 (by simp)
    subst hy
    refine ⟨?_, renHs_le hj ids h l l' (y + 1) (fun i => ?_) (fun q hqq => ?_)⟩
    · rw [← h0]; exact renB_le hj ids _
    · have := hl (i + 1)
      rw [List.getElem?_cons_succ] at this
      rw [this]; congr 1; omega
    · have := hq (q + 1) (by simp; omega)
      rw [List.getElem?_cons_succ] at this
      rw [this]; congr 1; omega
theorem ren_le {base n1 : Nat} (live js ids : List Nat) (st : St) (h : idsOk base ids = true) (hj : Ups js) (hn : ids.length = n1) : leSt base ids 0 st (ren live js ids n1 st) := by
  obtain ⟨ts, hp, n, m⟩ := st
  exact ⟨rfl, by rw [hn]; rfl, h, renTs_le hj ids ts live, renHs_le hj ids hp ids js 0 (fun i => by rw [Nat.zero_add]) (by simpa [Ups] using hj)⟩
def oIs (ts : List (Nat × Tm)) : List Nat → List Nat
  | [] => []
  | t :: l => (match lookT ts t with
    | .va (.c (.own k _)) => k
    | .va (.c (.osl k _ _ _)) => k
    | _ => 0) :: oIs ts l
def renK (base n0 n1 : Nat) (js ps live : List Nat) (st : St) (K : St → Prop) : Prop := match st with
  | ⟨ts, h, n, m⟩ => match idsOk base (List.range n0 ++ oIs ts ps) && (decide (js = List.range n1) && Nat.beq (List.range n0 ++ oIs ts ps).length n1) with
    | true => fSt (ren live js (List.range n0 ++ oIs ts ps) n1 ⟨ts, h, n, m⟩) K
    | false => False
theorem draw_ren {P : Program} {t : TT} (ht : t.ok P) {l : List (Nat × Sm)} (hl : sumsOk P l) (hmix : P.follows .mixedOrders = true) {base : Nat} {ops : Array Oper} {id : Nat} {st : St} {Q : Exit → St → Prop} (p : Plan) (n0 n1 : Nat) (js ps live : List Nat)
    (hp : (Region.noSelect ops && planOk ops ops.size (Array.replicate ops.size false) p) = true)
    (hk : ∃ s, vcP P t.get (vcCall P (sums l) base) ops.toList p st (fun st' => renK base n0 n1 js ps live st' fun s' => s' = s) ∧ Q .normal s) : ASat P base (.region id ops true) st Q := by
  obtain ⟨s, hv, hs⟩ := hk
  have h : ASat P base (.region id ops true) st (fun e st' => match e with | .normal => renK base n0 n1 js ps live st' fun s' => s' = s | _ => False) := draw_plan ht hl hmix p hp hv
  refine ⟨fun ψ S w a hr => wp_mono (h.run ψ S w a hr) ?_⟩
  rintro e a' w' ⟨st', ψ', S', h1, h2, h3⟩
  cases e with
  | normal =>
    obtain ⟨ts, hh, n, m⟩ := st'
    have h1 : (match idsOk base (List.range n0 ++ oIs ts ps) && (decide (js = List.range n1) && Nat.beq (List.range n0 ++ oIs ts ps).length n1) with
      | true => fSt (ren live js (List.range n0 ++ oIs ts ps) n1 ⟨ts, hh, n, m⟩) fun s' => s' = s
      | false => False) := h1
    split at h1
    · rename_i hid
      rw [fSt_eq] at h1
      simp only [Bool.and_eq_true, decide_eq_true_eq] at hid
      obtain ⟨hid, hjs, hnn⟩ := hid
      obtain ⟨g1, g2⟩ := h2.le (ren_le (n1 := n1) live js _ _ hid (by rw [hjs]; intro q hq; simp at hq; simp [hq]) (Nat.eq_of_beq_eq_true hnn))
      rw [h1] at g1
      exact ⟨s, _, S', hs, g1, h3.trans g2⟩
    · exact h1.elim
  | _ => exact h1.elim
end Go.Sx
namespace Go.Proofs.YthkknkhpfffnbaaGreat
set_option linter.all false
open Go.Sx
def mrg (op : Vl → Vl → Vl) : List Bd → List Bd → List Bd
  | [], [] => []
  | [], y :: b => ⟨y.name, op Vl.zero y.v⟩ :: mrg op [] b
  | x :: a, [] => ⟨x.name, op x.v Vl.zero⟩ :: mrg op a []
  | x :: a, y :: b => if ltB x y = true then ⟨x.name, op x.v Vl.zero⟩ :: mrg op a (y :: b) else if ltB y x = true then ⟨y.name, op Vl.zero y.v⟩ :: mrg op (x :: a) b else ⟨x.name, op x.v y.v⟩ :: mrg op a b
termination_by a b => a.length + b.length
def nxM (op : Vl → Vl → Vl) (A B : List Bd) (x : Nat × Nat × List Bd) : Nat × Nat × List Bd :=
  if x.1 < A.length then
    if x.2.1 < B.length then
      if ltB (atB A x.1) (atB B x.2.1) = true then (x.1 + 1, x.2.1, x.2.2 ++ [⟨(atB A x.1).name, op (atB A x.1).v Vl.zero⟩])
      else if ltB (atB B x.2.1) (atB A x.1) = true then (x.1, x.2.1 + 1, x.2.2 ++ [⟨(atB B x.2.1).name, op Vl.zero (atB B x.2.1).v⟩])
      else (x.1 + 1, x.2.1 + 1, x.2.2 ++ [⟨(atB A x.1).name, op (atB A x.1).v (atB B x.2.1).v⟩])
    else (x.1 + 1, x.2.1, x.2.2 ++ [⟨(atB A x.1).name, op (atB A x.1).v Vl.zero⟩])
  else (x.1, x.2.1 + 1, x.2.2 ++ [⟨(atB B x.2.1).name, op Vl.zero (atB B x.2.1).v⟩])
theorem drop_at {A : List Bd} {i : Nat} (h : i < A.length) : A.drop i = atB A i :: A.drop (i + 1) := by
  rw [List.drop_eq_getElem_cons h]
  congr 1
  unfold atB; rw [List.getD_eq_getElem?_getD, List.getElem?_eq_getElem h]; rfl
theorem nxM_ok {op : Vl → Vl → Vl} {A B : List Bd} {i j : Nat} {out : List Bd} (h : i < A.length ∨ j < B.length) :
    (nxM op A B (i, j, out)).2.2 ++ mrg op (A.drop (nxM op A B (i, j, out)).1) (B.drop (nxM op A B (i, j, out)).2.1) = out ++ mrg op (A.drop i) (B.drop j) := by
  unfold nxM
  dsimp only
  by_cases c1 : i < A.length
  · rw [if_pos c1]
    by_cases c2 : j < B.length
    · rw [if_pos c2]
      conv => rhs; rw [drop_at c1, drop_at c2, mrg]
      split
      · dsimp only; rw [drop_at c2] <;> simp
      · split
        · dsimp only; rw [drop_at c1]; simp
        · dsimp only; simp
    · rw [if_neg c2]
      have e : B.drop j = [] := List.drop_eq_nil_of_le (by omega)
      conv => rhs; rw [drop_at c1, e, mrg]
      dsimp only; rw [e]; simp
  · rw [if_neg c1]
    have c2 : j < B.length := h.resolve_left c1
    have e : A.drop i = [] := List.drop_eq_nil_of_le (by omega)
    conv => rhs; rw [drop_at c2, e, mrg]
    dsimp only; rw [e]; simp
theorem atB_snoc (L : List Bd) (x : Bd) (k : Nat) (h : k < L.length + 1) : atB (L ++ [x]) k = if k < L.length then atB L k else x := by
  unfold atB
  simp only [List.getD_eq_getElem?_getD]
  split
  · rename_i h1; rw [List.getElem?_append_left h1]
  · rename_i h1; rw [show k = L.length by omega, List.getElem?_append_right (Nat.le_refl _), Nat.sub_self]; rfl
theorem rwB_snoc {L : List Bd} {x : Bd} {g : Nat → List DV} {k : Nat} (hg : g 0 = bdC x) (hk : k < L.length + 1) : appRow L.length (rwB L) g k = rwB (L ++ [x]) k := by
  show _ = bdC (atB (L ++ [x]) k)
  rw [atB_snoc L x k hk]
  unfold appRow
  split
  · rfl
  · rw [show k - L.length = 0 by omega, hg]
theorem lessB_eq {a b : ByteArray} (h : a = b) : (if (!Op.bytesLess a.toList b.toList) = true then a else b) = a := by subst h; exact ite_self _
abbrev vlC (v : Vl) : List DV := [bo v.i.s.some, it v.i.s.lo, it v.i.s.hi, bo v.i.c.some, it v.i.c.m, it v.i.c.r, bo v.t.null, lst v.t.names]
abbrev vlZ : List DV := [bo false, it 0, it 0, bo false, it 0, it 0, bo false, .v (.slice none 0 0)]
def gIs (gz : List Cv → Option Gs) (a b : List DV) (z : Vl) : Prop := ∃ p : Prop, gz [.agg a, .agg b] = some ⟨p, .va (.agg (vlC z))⟩ ∧ p
structure GOk (gz : List Cv → Option Gs) (Op : Vl → Vl → Vl) (Q : Vl → Vl → Prop) : Prop where
  both : ∀ x y, okV x → okV y → Q x y → gIs gz (vlC x) (vlC y) (Op x y)
  left : ∀ x, okV x → Q x Vl.zero → gIs gz (vlC x) vlZ (Op x Vl.zero)
  right : ∀ y, okV y → Q Vl.zero y → gIs gz vlZ (vlC y) (Op Vl.zero y)
structure QOk (Q : Vl → Vl → Prop) (A B : List Bd) : Prop where
  both : ∀ x ∈ A, ∀ y ∈ B, Q x.v y.v
  left : ∀ x ∈ A, Q x.v Vl.zero
  right : ∀ y ∈ B, Q Vl.zero y.v
theorem lessB_nil (a : ByteArray) : (if (!Op.bytesLess a.toList (ByteArray.mk #[]).toList) = true then a else ByteArray.mk #[]) = a := by
  have : (ByteArray.mk #[]).toList = [] := by rw [kS_tl]
  rw [this]; cases a.toList <;> rfl
theorem lessB_nil2 (a : ByteArray) : (if (!Op.bytesLess (ByteArray.mk #[]).toList a.toList) = true then ByteArray.mk #[] else a) = a := by
  have : (ByteArray.mk #[]).toList = [] := by rw [kS_tl]
  rw [this]
  cases h : a.toList with
  | nil =>
    rw [kS_tl] at h
    have : a = ByteArray.mk #[] := kS_inj (h.trans rfl)
    rw [this]; rfl
  | cons x r => rfl
theorem cf_lt {x y : Bd} (h : ltB x y = true) : cfL x.name.data.toList y.name.data.toList < 0 := of_decide_eq_true h
theorem cf_gt {x y : Bd} (h : ltB y x = true) : cfL x.name.data.toList y.name.data.toList > 0 := by
  have h1 := ltB_iff.1 h
  have h2 : ¬ kS x.name < kS y.name := List.lt_asymm h1
  have h3 : ¬ cfL x.name.data.toList y.name.data.toList < 0 := fun h => h2 ((cfL_lt _ _).1 h)
  have h4 : ¬ cfL x.name.data.toList y.name.data.toList = 0 := fun h => by
    have e := kS_inj ((cfL_eq _ _).1 h)
    rw [e] at h1; exact List.lt_irrefl _ h1
  omega
theorem cf_eq {x y : Bd} (h1 : ltB x y = false) (h2 : ltB y x = false) : cfL x.name.data.toList y.name.data.toList = 0 ∧ x.name = y.name := by
  have e : x.name = y.name := Decidable.byContradiction fun hn => ltB_iff'.1 h2 (kS_tri (ltB_iff'.1 h1) hn)
  exact ⟨(cfL_eq _ _).2 (by rw [e]), e⟩
def FZipN : List Ar → Option Rs
  | [.agg [.d (.v (.string x0)), .d (.v (.bool _)), .d (.v (.int .i64 _)), .d (.v (.int .i64 _)), .d (.v (.bool _)), .d (.v (.int .i64 _)), .d (.v (.int .i64 _)), .d (.v (.bool _)), .d (.lst 1 _ _)]] => some ⟨True, .va (.c (.d (st x0))), []⟩
  | _ => none
set_option maxHeartbeats 1000000 in
set_option maxRecDepth 100000 in
theorem fcZipN : FC Tryz.prog 142 FZipN := by
  intro xs pre r us h hp
  unfold FZipN at h
  split at h
  · rename_i x0 s0 l0 h0 b0 m0 r0 z0 n0 f0
    cases h
    refine fcat tys_ok (l := []) trivial Tryz.func142 rfl (by kernel_rfl) false ?_
    repeat' (first | exact trivial | refine ⟨?_, ?_⟩ | intro _)
    all_goals first | (with_reducible show (_ : Int) ≤ _) | (with_reducible show (_ : Int) < _) | (with_reducible show (_ : Nat) ≤ _) | (with_reducible show (_ : Nat) < _) | (conv => whnf)
    all_goals grind
  · cases h
def FEZip (Op : Vl → Vl → Vl) (Q : Vl → Vl → Prop) (gz : List Cv → Option Gs) : List Ar → Option Rs
  | [.agg [.d (.v (.bool _)), .d (.lst 9 n0 f0)], .agg [.d (.v (.bool _)), .d (.lst 9 n1 f1)], .fv g2] => some ⟨(n0 ≤ 1099511627776 ∧ RowsOk n0 f0) ∧ (n1 ≤ 1099511627776 ∧ RowsOk n1 f1) ∧ (g2 = gz ∧ GOk gz Op Q ∧ QOk Q (gBs n0 f0) (gBs n1 f1) ∧ n0 + n1 ≤ 1099511627776), .va (En.ar (⟨true, mrg Op (gBs n0 f0) (gBs n1 f1)⟩)), []⟩
  | _ => none
set_option maxHeartbeats 4000000 in
set_option maxRecDepth 100000 in
theorem fcEZip (Op : Vl → Vl → Vl) (Q : Vl → Vl → Prop) (gz : List Cv → Option Gs) : FC Tryz.prog 94 (FEZip Op Q gz) := by
  intro xs pre r us h hp
  unfold FEZip at h
  split at h
  · rename_i e0 n0 f0 e1 n1 f1 g2
    cases h
    obtain ⟨hp0, hp1, hp2⟩ := hp
    refine FCat.deep (ys := [.agg [.d (.v (.bool e0)), .d (.lst 9 n0 (rwB (gBs n0 f0)))], .agg [.d (.v (.bool e1)), .d (.lst 9 n1 (rwB (gBs n1 f1)))], .fv g2]) ?_ ?_
    · repeat' (first | exact trivial | exact rfl | exact DvE.refl _ | refine ⟨?_, ?_⟩ | fail)
      all_goals first | first | exact canonB hp0.2.h | exact canonB hp1.2.h
    refine fcat tys_ok (l := [(142, ⟨[], FZipN⟩), (70, ⟨[], FStrCmp⟩)]) ⟨fcZipN, fcStrCmp, trivial⟩ Tryz.func94 rfl (by kernel_rfl) true ?_
    obtain ⟨rfl, hgk, hqk, hnm⟩ := hp2
    have hn := hp0.1
    have hL := okL_rows hp0.2
    have hlen := gBs_length n0 f0
    generalize gBs n0 f0 = L at *
    clear hp0
    subst hlen
    have hrow := okL_row hL
    have hb := gBs_row L
    have hm := hp1.1
    have hM := okL_rows hp1.2
    have hlen1 := gBs_length n1 f1
    generalize gBs n1 f1 = M at *
    clear hp1
    subst hlen1
    have hrow1 := okL_row hM
    have hb1 := gBs_row M
    repeat' (first | exact trivial | refine ⟨?_, ?_⟩ | intro _)
    all_goals first | (with_reducible show (_ : Int) ≤ _) | (with_reducible show (_ : Int) < _) | (with_reducible show (_ : Nat) ≤ _) | (with_reducible show (_ : Nat) < _) | (conv => whnf)
    all_goals first | ((with_reducible show ACall _ _ _ _ _ _); refine inl tys_ok (l := [(142, ⟨[], FZipN⟩), (70, ⟨[], FStrCmp⟩)]) ⟨fcZipN, fcStrCmp, trivial⟩ Tryz.func141 rfl (by kernel_rfl) (by kernel_rfl) rfl ?_) | skip
    all_goals repeat' (first | exact trivial | refine ⟨?_, ?_⟩ | intro _)
    all_goals first | (with_reducible show (_ : Int) ≤ _) | (with_reducible show (_ : Int) < _) | (with_reducible show (_ : Nat) ≤ _) | (with_reducible show (_ : Nat) < _) | (conv => whnf)
    refine loop_ids tys_ok (l := [(142, ⟨[], FZipN⟩), (70, ⟨[], FStrCmp⟩)]) ⟨fcZipN, fcStrCmp, trivial⟩ (by kernel_rfl) (X := Nat × Nat × List Bd)
      (fun x => ⟨[(9, .va (.c (.osl 5 9 0 x.2.2.length))), (10, .va (.c (.own 4 0))), (0, .va (.c (.d (.lst 9 (L.length - x.1) fun k => rwB L (x.1 + k))))), (1, .va (.c (.d (.lst 9 (M.length - x.2.1) fun k => rwB M (x.2.1 + k))))), (2, .va (.c (.fn 142 []))), (3, .va (.c (.fn 143 [(2, 0)])))],
        [(2, .cells [.fv g2]), (3, .cells [.d (bo false), .d (.v (.slice none 0 0))]), (4, .cells [.d (.v (.string ⟨#[]⟩)), .d (bo false), .d (it 0), .d (it 0), .d (bo false), .d (it 0), .d (it 0), .d (bo false), .d (.v (.slice none 0 0))]), (5, .row 9 x.2.2.length (rwB x.2.2))], 6, 65⟩)
      (fun x => (L.length - x.1) + (M.length - x.2.1)) (fun x => x.1 ≤ L.length ∧ x.2.1 ≤ M.length ∧ x.2.2.length ≤ x.1 + x.2.1 ∧ x.2.2 ++ mrg Op (L.drop x.1) (M.drop x.2.1) = mrg Op L M) [63] []
      (fun x _ _ => nxM Op L M x) (fun xs => match xs with | [t] => [0, 1, 2, 3, 4, oI t] | _ => []) [0, 1, 2, 3, 4] 0 1 (0, 0, []) ?_ ?_ ?_
    · exact ⟨Nat.zero_le _, Nat.zero_le _, Nat.le_refl _, rfl⟩
    · repeat' (first | exact trivial | exact rfl | (intro _ h; exact absurd h (Nat.not_lt_zero _)) | (intro _ _; exact rfl) | refine ⟨?_, ?_⟩ | fail)
      all_goals first | (simp; done) | (intro i _; simp; done) | trace_state
    · rintro ⟨i, j, out⟩ ⟨k1, k2, k3, k4⟩
      dsimp only at k1 k2 k3 k4
      by_cases hend : i < L.length ∨ j < M.length
      · have hstep := (nxM_ok (op := Op) (out := out) hend).trans k4
        rcases Nat.lt_or_ge i L.length with ci | ci
        · rcases Nat.lt_or_ge j M.length with cj | cj
          · cases hlt : ltB (atB L i) (atB M j) with
            | true =>
              have hne1 : decide (((L.length - i : Nat) : Int) > 0) = true := decide_eq_true (by omega)
              have hne2 : (((L.length - i : Nat) : Int) == 0) = false := beq_eq_false_iff_ne.2 (by omega)
              have hne3 : (((M.length - j : Nat) : Int) == 0) = false := beq_eq_false_iff_ne.2 (by omega)
              have hne4 : decide (((M.length - j : Nat) : Int) > 0) = true := decide_eq_true (by omega)
              have hne5 : decide (cfL (atB L (i + Int.toNat 0)).name.data.toList (atB M (j + Int.toNat 0)).name.data.toList ≤ 0) = true := decide_eq_true (Int.le_of_lt (cf_lt hlt))
              have hne6 : decide (cfL (atB L (i + Int.toNat 0)).name.data.toList (atB M (j + Int.toNat 0)).name.data.toList ≥ 0) = false := decide_eq_false (Int.not_le.2 (cf_lt hlt))
              have ht0 : Int.toNat 0 = 0 := rfl
              have e1 : nxM Op L M (i, j, out) = (i + 1, j, out ++ [⟨(atB L i).name, Op (atB L i).v Vl.zero⟩]) := by
                unfold nxM; dsimp only; rw [if_pos ci, if_pos cj, if_pos hlt]
              rw [e1] at hstep
              obtain ⟨gp, hg, hgp⟩ := hgk.left _ (okL_at hL ci) (hqk.left _ (atB_mem ci))
              simp only [vlC, vlZ] at hg
              dsimp only at hstep
              repeat' (first | exact trivial | (with_reducible exact (fun h => absurd (hne1.symm.trans h) (by decide))) | (with_reducible exact (fun h => absurd (hne2.symm.trans h) (by decide))) | (with_reducible exact (fun h => absurd (hne3.symm.trans h) (by decide))) | (with_reducible exact (fun h => absurd (hne4.symm.trans h) (by decide))) | (with_reducible exact (fun h => absurd (hne5.symm.trans h) (by decide))) | (with_reducible exact (fun h => absurd (hne6.symm.trans h) (by decide))) | (with_reducible exact (fun h => absurd (h : decide ((-1 : Int) ≤ 0) = false) (by decide))) | (with_reducible exact (fun h => absurd (h : decide ((-1 : Int) ≥ 0) = true) (by decide))) | (with_reducible exact (fun h => absurd (h : decide ((1 : Int) ≤ 0) = true) (by decide))) | (with_reducible exact (fun h => absurd (h : decide ((1 : Int) ≥ 0) = false) (by decide))) | refine ⟨?_, ?_⟩ | intro _)
              all_goals first | (with_reducible show (_ : Int) ≤ _) | (with_reducible show (_ : Int) < _) | (with_reducible show (_ : Nat) ≤ _) | (with_reducible show (_ : Nat) < _) | (conv => whnf)
              all_goals first | ((with_reducible show ASat _ _ _ _ _); refine draw_ren tys_ok (l := [(142, ⟨[], FZipN⟩), (70, ⟨[], FStrCmp⟩)]) ⟨fcZipN, fcStrCmp, trivial⟩ (by kernel_rfl) (.all [(0, .all [(1, .all [(2, .all [(3, .all [(4, .all [(5, .done)])])]), (3, .all [(2, .all [(4, .all [(5, .done)])])])]), (2, .all [(1, .all [(3, .all [(4, .all [(5, .done)])])]), (3, .all [(1, .all [(4, .all [(5, .done)])]), (4, .all [(1, .all [(5, .done)])])])]), (3, .all [(1, .all [(2, .all [(4, .all [(5, .done)])])]), (2, .all [(1, .all [(4, .all [(5, .done)])]), (4, .all [(1, .all [(5, .done)])])])])]), (1, .all [(0, .all [(2, .all [(3, .all [(4, .all [(5, .done)])])]), (3, .all [(2, .all [(4, .all [(5, .done)])])])]), (2, .all [(0, .all [(3, .all [(4, .all [(5, .done)])])]), (3, .all [(0, .all [(4, .all [(5, .done)])])])]), (3, .all [(0, .all [(2, .all [(4, .all [(5, .done)])])]), (2, .all [(0, .all [(4, .all [(5, .done)])])])])]), (2, .all [(0, .all [(1, .all [(3, .all [(4, .all [(5, .done)])])]), (3, .all [(1, .all [(4, .all [(5, .done)])]), (4, .all [(1, .all [(5, .done)])])])]), (1, .all [(0, .all [(3, .all [(4, .all [(5, .done)])])]), (3, .all [(0, .all [(4, .all [(5, .done)])])])]), (3, .all [(0, .all [(1, .all [(4, .all [(5, .done)])]), (4, .all [(1, .all [(5, .done)])])]), (1, .all [(0, .all [(4, .all [(5, .done)])])])])]), (3, .all [(0, .all [(1, .all [(2, .all [(4, .all [(5, .done)])])]), (2, .all [(1, .all [(4, .all [(5, .done)])]), (4, .all [(1, .all [(5, .done)])])])]), (1, .all [(0, .all [(2, .all [(4, .all [(5, .done)])])]), (2, .all [(0, .all [(4, .all [(5, .done)])])])]), (2, .all [(0, .all [(1, .all [(4, .all [(5, .done)])]), (4, .all [(1, .all [(5, .done)])])]), (1, .all [(0, .all [(4, .all [(5, .done)])])])])])]) 6 8 [0, 1, 2, 3, 4, 5, 6, 7] [12, 13] [0, 1, 2, 3, 8, 9, 10, 11, 12, 13, 21, 33, 37, 44, 51] (by kernel_rfl) ?_; apply tail_intro; · (repeat' (first | exact trivial | refine ⟨?_, ?_⟩ | intro _)) <;> (first | exact rfl | omega | assumption | (dsimp only; omega))) | skip
              all_goals repeat' (first | exact trivial | (with_reducible exact (fun h => absurd (hne1.symm.trans h) (by decide))) | (with_reducible exact (fun h => absurd (hne2.symm.trans h) (by decide))) | (with_reducible exact (fun h => absurd (hne3.symm.trans h) (by decide))) | (with_reducible exact (fun h => absurd (hne4.symm.trans h) (by decide))) | (with_reducible exact (fun h => absurd (hne5.symm.trans h) (by decide))) | (with_reducible exact (fun h => absurd (hne6.symm.trans h) (by decide))) | (with_reducible exact (fun h => absurd (h : decide ((-1 : Int) ≤ 0) = false) (by decide))) | (with_reducible exact (fun h => absurd (h : decide ((-1 : Int) ≥ 0) = true) (by decide))) | (with_reducible exact (fun h => absurd (h : decide ((1 : Int) ≤ 0) = true) (by decide))) | (with_reducible exact (fun h => absurd (h : decide ((1 : Int) ≥ 0) = false) (by decide))) | refine ⟨?_, ?_⟩ | intro _)
              all_goals first | (with_reducible show (_ : Int) ≤ _) | (with_reducible show (_ : Int) < _) | (with_reducible show (_ : Nat) ≤ _) | (with_reducible show (_ : Nat) < _) | (conv => whnf)
              all_goals first | ((with_reducible show ASat _ _ _ _ _); refine draw_cut tys_ok (l := [(142, ⟨[], FZipN⟩), (70, ⟨[], FStrCmp⟩)]) ⟨fcZipN, fcStrCmp, trivial⟩ (by kernel_rfl) (.take 0 (.take 1 (.take 3 (.take 4 (.all [(2, .all [(5, .take 6 (.done))])]))))) [0, 1, 2, 3, 8, 9, 10, 11, 12, 13, 21, 33, 37, 44, 51] (by kernel_rfl) ?_; apply tail_intro; · (repeat' (first | exact trivial | refine ⟨?_, ?_⟩ | intro _)) <;> (first | exact rfl | omega | assumption | (dsimp only; omega))) | skip
              all_goals repeat' (first | exact trivial | (with_reducible exact (fun h => absurd (hne1.symm.trans h) (by decide))) | (with_reducible exact (fun h => absurd (hne2.symm.trans h) (by decide))) | (with_reducible exact (fun h => absurd (hne3.symm.trans h) (by decide))) | (with_reducible exact (fun h => absurd (hne4.symm.trans h) (by decide))) | (with_reducible exact (fun h => absurd (hne5.symm.trans h) (by decide))) | (with_reducible exact (fun h => absurd (hne6.symm.trans h) (by decide))) | (with_reducible exact (fun h => absurd (h : decide ((-1 : Int) ≤ 0) = false) (by decide))) | (with_reducible exact (fun h => absurd (h : decide ((-1 : Int) ≥ 0) = true) (by decide))) | (with_reducible exact (fun h => absurd (h : decide ((1 : Int) ≤ 0) = true) (by decide))) | (with_reducible exact (fun h => absurd (h : decide ((1 : Int) ≥ 0) = false) (by decide))) | refine ⟨?_, ?_⟩ | intro _)
              all_goals first | (with_reducible show (_ : Int) ≤ _) | (with_reducible show (_ : Int) < _) | (with_reducible show (_ : Nat) ≤ _) | (with_reducible show (_ : Nat) < _) | (conv => whnf)
              all_goals first | ((with_reducible show ACall _ _ _ _ _ _); refine inl tys_ok (l := [(142, ⟨[], FZipN⟩), (70, ⟨[], FStrCmp⟩)]) ⟨fcZipN, fcStrCmp, trivial⟩ Tryz.func143 rfl (by kernel_rfl) (by kernel_rfl) rfl ?_) | skip
              all_goals repeat' (first | exact trivial | (with_reducible exact (fun h => absurd (hne1.symm.trans h) (by decide))) | (with_reducible exact (fun h => absurd (hne2.symm.trans h) (by decide))) | (with_reducible exact (fun h => absurd (hne3.symm.trans h) (by decide))) | (with_reducible exact (fun h => absurd (hne4.symm.trans h) (by decide))) | (with_reducible exact (fun h => absurd (hne5.symm.trans h) (by decide))) | (with_reducible exact (fun h => absurd (hne6.symm.trans h) (by decide))) | (with_reducible exact (fun h => absurd (h : decide ((-1 : Int) ≤ 0) = false) (by decide))) | (with_reducible exact (fun h => absurd (h : decide ((-1 : Int) ≥ 0) = true) (by decide))) | (with_reducible exact (fun h => absurd (h : decide ((1 : Int) ≤ 0) = true) (by decide))) | (with_reducible exact (fun h => absurd (h : decide ((1 : Int) ≥ 0) = false) (by decide))) | refine ⟨?_, ?_⟩ | intro _)
              all_goals first | (with_reducible show (_ : Int) ≤ _) | (with_reducible show (_ : Int) < _) | (with_reducible show (_ : Nat) ≤ _) | (with_reducible show (_ : Nat) < _) | (conv => whnf)
              all_goals (try simp only [ht0, Nat.add_zero, hg])
              all_goals repeat' (first | exact trivial | (with_reducible exact (fun h => absurd (hne1.symm.trans h) (by decide))) | (with_reducible exact (fun h => absurd (hne2.symm.trans h) (by decide))) | (with_reducible exact (fun h => absurd (hne3.symm.trans h) (by decide))) | (with_reducible exact (fun h => absurd (hne4.symm.trans h) (by decide))) | (with_reducible exact (fun h => absurd (hne5.symm.trans h) (by decide))) | (with_reducible exact (fun h => absurd (hne6.symm.trans h) (by decide))) | (with_reducible exact (fun h => absurd (h : decide ((-1 : Int) ≤ 0) = false) (by decide))) | (with_reducible exact (fun h => absurd (h : decide ((-1 : Int) ≥ 0) = true) (by decide))) | (with_reducible exact (fun h => absurd (h : decide ((1 : Int) ≤ 0) = true) (by decide))) | (with_reducible exact (fun h => absurd (h : decide ((1 : Int) ≥ 0) = false) (by decide))) | (with_reducible exact hgp) | refine ⟨?_, ?_⟩ | intro _)
              all_goals first | (with_reducible show (_ : Int) ≤ _) | (with_reducible show (_ : Int) < _) | (with_reducible show (_ : Nat) ≤ _) | (with_reducible show (_ : Nat) < _) | (conv => whnf)
              all_goals (try simp only [lessB_nil, lessB_nil2, e1])
              all_goals first | exact Nat.le_refl _ | omega | (simp only [List.length_append, List.length_cons, List.length_nil]; omega) | exact hstep | rfl | (simp; done) | (rw [show (Int.toNat 1 : Nat) = 1 from rfl]; congr 1; omega) | ((with_reducible show idsOk _ _ = true); rfl) | (exact rwB_snoc rfl ‹_›) | trace_state
            | false =>
              cases hgt : ltB (atB M j) (atB L i) with
              | true =>
                have hne1 : decide (((L.length - i : Nat) : Int) > 0) = true := decide_eq_true (by omega)
                have hne2 : (((L.length - i : Nat) : Int) == 0) = false := beq_eq_false_iff_ne.2 (by omega)
                have hne3 : (((M.length - j : Nat) : Int) == 0) = false := beq_eq_false_iff_ne.2 (by omega)
                have hne4 : decide (((M.length - j : Nat) : Int) > 0) = true := decide_eq_true (by omega)
                have hne5 : decide (cfL (atB L (i + Int.toNat 0)).name.data.toList (atB M (j + Int.toNat 0)).name.data.toList ≤ 0) = false := decide_eq_false (Int.not_le.2 (cf_gt hgt))
                have hne6 : decide (cfL (atB L (i + Int.toNat 0)).name.data.toList (atB M (j + Int.toNat 0)).name.data.toList ≥ 0) = true := decide_eq_true (Int.le_of_lt (cf_gt hgt))
                have ht0 : Int.toNat 0 = 0 := rfl
                have e1 : nxM Op L M (i, j, out) = (i, j + 1, out ++ [⟨(atB M j).name, Op Vl.zero (atB M j).v⟩]) := by
                  unfold nxM; dsimp only; rw [if_pos ci, if_pos cj, if_neg (by rw [hlt]; exact Bool.false_ne_true), if_pos hgt]
                rw [e1] at hstep
                obtain ⟨gp, hg, hgp⟩ := hgk.right _ (okL_at hM cj) (hqk.right _ (atB_mem cj))
                simp only [vlC, vlZ] at hg
                dsimp only at hstep
                repeat' (first | exact trivial | (with_reducible exact (fun h => absurd (hne1.symm.trans h) (by decide))) | (with_reducible exact (fun h => absurd (hne2.symm.trans h) (by decide))) | (with_reducible exact (fun h => absurd (hne3.symm.trans h) (by decide))) | (with_reducible exact (fun h => absurd (hne4.symm.trans h) (by decide))) | (with_reducible exact (fun h => absurd (hne5.symm.trans h) (by decide))) | (with_reducible exact (fun h => absurd (hne6.symm.trans h) (by decide))) | (with_reducible exact (fun h => absurd (h : decide ((-1 : Int) ≤ 0) = false) (by decide))) | (with_reducible exact (fun h => absurd (h : decide ((-1 : Int) ≥ 0) = true) (by decide))) | (with_reducible exact (fun h => absurd (h : decide ((1 : Int) ≤ 0) = true) (by decide))) | (with_reducible exact (fun h => absurd (h : decide ((1 : Int) ≥ 0) = false) (by decide))) | refine ⟨?_, ?_⟩ | intro _)
                all_goals first | (with_reducible show (_ : Int) ≤ _) | (with_reducible show (_ : Int) < _) | (with_reducible show (_ : Nat) ≤ _) | (with_reducible show (_ : Nat) < _) | (conv => whnf)
                all_goals first | ((with_reducible show ASat _ _ _ _ _); refine draw_ren tys_ok (l := [(142, ⟨[], FZipN⟩), (70, ⟨[], FStrCmp⟩)]) ⟨fcZipN, fcStrCmp, trivial⟩ (by kernel_rfl) (.all [(0, .all [(1, .all [(2, .all [(3, .all [(4, .all [(5, .done)])])]), (3, .all [(2, .all [(4, .all [(5, .done)])])])]), (2, .all [(1, .all [(3, .all [(4, .all [(5, .done)])])]), (3, .all [(1, .all [(4, .all [(5, .done)])]), (4, .all [(1, .all [(5, .done)])])])]), (3, .all [(1, .all [(2, .all [(4, .all [(5, .done)])])]), (2, .all [(1, .all [(4, .all [(5, .done)])]), (4, .all [(1, .all [(5, .done)])])])])]), (1, .all [(0, .all [(2, .all [(3, .all [(4, .all [(5, .done)])])]), (3, .all [(2, .all [(4, .all [(5, .done)])])])]), (2, .all [(0, .all [(3, .all [(4, .all [(5, .done)])])]), (3, .all [(0, .all [(4, .all [(5, .done)])])])]), (3, .all [(0, .all [(2, .all [(4, .all [(5, .done)])])]), (2, .all [(0, .all [(4, .all [(5, .done)])])])])]), (2, .all [(0, .all [(1, .all [(3, .all [(4, .all [(5, .done)])])]), (3, .all [(1, .all [(4, .all [(5, .done)])]), (4, .all [(1, .all [(5, .done)])])])]), (1, .all [(0, .all [(3, .all [(4, .all [(5, .done)])])]), (3, .all [(0, .all [(4, .all [(5, .done)])])])]), (3, .all [(0, .all [(1, .all [(4, .all [(5, .done)])]), (4, .all [(1, .all [(5, .done)])])]), (1, .all [(0, .all [(4, .all [(5, .done)])])])])]), (3, .all [(0, .all [(1, .all [(2, .all [(4, .all [(5, .done)])])]), (2, .all [(1, .all [(4, .all [(5, .done)])]), (4, .all [(1, .all [(5, .done)])])])]), (1, .all [(0, .all [(2, .all [(4, .all [(5, .done)])])]), (2, .all [(0, .all [(4, .all [(5, .done)])])])]), (2, .all [(0, .all [(1, .all [(4, .all [(5, .done)])]), (4, .all [(1, .all [(5, .done)])])]), (1, .all [(0, .all [(4, .all [(5, .done)])])])])])]) 6 8 [0, 1, 2, 3, 4, 5, 6, 7] [12, 13] [0, 1, 2, 3, 8, 9, 10, 11, 12, 13, 21, 33, 37, 44, 51] (by kernel_rfl) ?_; apply tail_intro; · (repeat' (first | exact trivial | refine ⟨?_, ?_⟩ | intro _)) <;> (first | exact rfl | omega | assumption | (dsimp only; omega))) | skip
                all_goals repeat' (first | exact trivial | (with_reducible exact (fun h => absurd (hne1.symm.trans h) (by decide))) | (with_reducible exact (fun h => absurd (hne2.symm.trans h) (by decide))) | (with_reducible exact (fun h => absurd (hne3.symm.trans h) (by decide))) | (with_reducible exact (fun h => absurd (hne4.symm.trans h) (by decide))) | (with_reducible exact (fun h => absurd (hne5.symm.trans h) (by decide))) | (with_reducible exact (fun h => absurd (hne6.symm.trans h) (by decide))) | (with_reducible exact (fun h => absurd (h : decide ((-1 : Int) ≤ 0) = false) (by decide))) | (with_reducible exact (fun h => absurd (h : decide ((-1 : Int) ≥ 0) = true) (by decide))) | (with_reducible exact (fun h => absurd (h : decide ((1 : Int) ≤ 0) = true) (by decide))) | (with_reducible exact (fun h => absurd (h : decide ((1 : Int) ≥ 0) = false) (by decide))) | refine ⟨?_, ?_⟩ | intro _)
                all_goals first | (with_reducible show (_ : Int) ≤ _) | (with_reducible show (_ : Int) < _) | (with_reducible show (_ : Nat) ≤ _) | (with_reducible show (_ : Nat) < _) | (conv => whnf)
                all_goals first | ((with_reducible show ASat _ _ _ _ _); refine draw_cut tys_ok (l := [(142, ⟨[], FZipN⟩), (70, ⟨[], FStrCmp⟩)]) ⟨fcZipN, fcStrCmp, trivial⟩ (by kernel_rfl) (.take 0 (.take 1 (.take 3 (.take 4 (.all [(2, .all [(5, .take 6 (.done))])]))))) [0, 1, 2, 3, 8, 9, 10, 11, 12, 13, 21, 33, 37, 44, 51] (by kernel_rfl) ?_; apply tail_intro; · (repeat' (first | exact trivial | refine ⟨?_, ?_⟩ | intro _)) <;> (first | exact rfl | omega | assumption | (dsimp only; omega))) | skip
                all_goals repeat' (first | exact trivial | (with_reducible exact (fun h => absurd (hne1.symm.trans h) (by decide))) | (with_reducible exact (fun h => absurd (hne2.symm.trans h) (by decide))) | (with_reducible exact (fun h => absurd (hne3.symm.trans h) (by decide))) | (with_reducible exact (fun h => absurd (hne4.symm.trans h) (by decide))) | (with_reducible exact (fun h => absurd (hne5.symm.trans h) (by decide))) | (with_reducible exact (fun h => absurd (hne6.symm.trans h) (by decide))) | (with_reducible exact (fun h => absurd (h : decide ((-1 : Int) ≤ 0) = false) (by decide))) | (with_reducible exact (fun h => absurd (h : decide ((-1 : Int) ≥ 0) = true) (by decide))) | (with_reducible exact (fun h => absurd (h : decide ((1 : Int) ≤ 0) = true) (by decide))) | (with_reducible exact (fun h => absurd (h : decide ((1 : Int) ≥ 0) = false) (by decide))) | refine ⟨?_, ?_⟩ | intro _)
                all_goals first | (with_reducible show (_ : Int) ≤ _) | (with_reducible show (_ : Int) < _) | (with_reducible show (_ : Nat) ≤ _) | (with_reducible show (_ : Nat) < _) | (conv => whnf)
                all_goals first | ((with_reducible show ACall _ _ _ _ _ _); refine inl tys_ok (l := [(142, ⟨[], FZipN⟩), (70, ⟨[], FStrCmp⟩)]) ⟨fcZipN, fcStrCmp, trivial⟩ Tryz.func143 rfl (by kernel_rfl) (by kernel_rfl) rfl ?_) | skip
                all_goals repeat' (first | exact trivial | (with_reducible exact (fun h => absurd (hne1.symm.trans h) (by decide))) | (with_reducible exact (fun h => absurd (hne2.symm.trans h) (by decide))) | (with_reducible exact (fun h => absurd (hne3.symm.trans h) (by decide))) | (with_reducible exact (fun h => absurd (hne4.symm.trans h) (by decide))) | (with_reducible exact (fun h => absurd (hne5.symm.trans h) (by decide))) | (with_reducible exact (fun h => absurd (hne6.symm.trans h) (by decide))) | (with_reducible exact (fun h => absurd (h : decide ((-1 : Int) ≤ 0) = false) (by decide))) | (with_reducible exact (fun h => absurd (h : decide ((-1 : Int) ≥ 0) = true) (by decide))) | (with_reducible exact (fun h => absurd (h : decide ((1 : Int) ≤ 0) = true) (by decide))) | (with_reducible exact (fun h => absurd (h : decide ((1 : Int) ≥ 0) = false) (by decide))) | refine ⟨?_, ?_⟩ | intro _)
                all_goals first | (with_reducible show (_ : Int) ≤ _) | (with_reducible show (_ : Int) < _) | (with_reducible show (_ : Nat) ≤ _) | (with_reducible show (_ : Nat) < _) | (conv => whnf)
                all_goals (try simp only [ht0, Nat.add_zero, hg])
                all_goals repeat' (first | exact trivial | (with_reducible exact (fun h => absurd (hne1.symm.trans h) (by decide))) | (with_reducible exact (fun h => absurd (hne2.symm.trans h) (by decide))) | (with_reducible exact (fun h => absurd (hne3.symm.trans h) (by decide))) | (with_reducible exact (fun h => absurd (hne4.symm.trans h) (by decide))) | (with_reducible exact (fun h => absurd (hne5.symm.trans h) (by decide))) | (with_reducible exact (fun h => absurd (hne6.symm.trans h) (by decide))) | (with_reducible exact (fun h => absurd (h : decide ((-1 : Int) ≤ 0) = false) (by decide))) | (with_reducible exact (fun h => absurd (h : decide ((-1 : Int) ≥ 0) = true) (by decide))) | (with_reducible exact (fun h => absurd (h : decide ((1 : Int) ≤ 0) = true) (by decide))) | (with_reducible exact (fun h => absurd (h : decide ((1 : Int) ≥ 0) = false) (by decide))) | (with_reducible exact hgp) | refine ⟨?_, ?_⟩ | intro _)
                all_goals first | (with_reducible show (_ : Int) ≤ _) | (with_reducible show (_ : Int) < _) | (with_reducible show (_ : Nat) ≤ _) | (with_reducible show (_ : Nat) < _) | (conv => whnf)
                all_goals (try simp only [lessB_nil, lessB_nil2, e1])
                all_goals first | exact Nat.le_refl _ | omega | (simp only [List.length_append, List.length_cons, List.length_nil]; omega) | exact hstep | rfl | (simp; done) | (rw [show (Int.toNat 1 : Nat) = 1 from rfl]; congr 1; omega) | ((with_reducible show idsOk _ _ = true); rfl) | (exact rwB_snoc rfl ‹_›) | trace_state
              | false =>
                have hne1 : decide (((L.length - i : Nat) : Int) > 0) = true := decide_eq_true (by omega)
                have hne2 : (((L.length - i : Nat) : Int) == 0) = false := beq_eq_false_iff_ne.2 (by omega)
                have hne3 : (((M.length - j : Nat) : Int) == 0) = false := beq_eq_false_iff_ne.2 (by omega)
                have hne4 : decide (((M.length - j : Nat) : Int) > 0) = true := decide_eq_true (by omega)
                have hne5 : decide (cfL (atB L (i + Int.toNat 0)).name.data.toList (atB M (j + Int.toNat 0)).name.data.toList ≤ 0) = true := decide_eq_true (Int.le_of_eq (cf_eq hlt hgt).1)
                have hne6 : decide (cfL (atB L (i + Int.toNat 0)).name.data.toList (atB M (j + Int.toNat 0)).name.data.toList ≥ 0) = true := decide_eq_true (Int.le_of_eq (cf_eq hlt hgt).1.symm)
                have ht0 : Int.toNat 0 = 0 := rfl
                have e1 : nxM Op L M (i, j, out) = (i + 1, j + 1, out ++ [⟨(atB L i).name, Op (atB L i).v (atB M j).v⟩]) := by
                  unfold nxM; dsimp only; rw [if_pos ci, if_pos cj, if_neg (by rw [hlt]; exact Bool.false_ne_true), if_neg (by rw [hgt]; exact Bool.false_ne_true)]
                rw [e1] at hstep
                obtain ⟨gp, hg, hgp⟩ := hgk.both _ _ (okL_at hL ci) (okL_at hM cj) (hqk.both _ (atB_mem ci) _ (atB_mem cj))
                simp only [vlC, vlZ] at hg
                dsimp only at hstep
                repeat' (first | exact trivial | (with_reducible exact (fun h => absurd (hne1.symm.trans h) (by decide))) | (with_reducible exact (fun h => absurd (hne2.symm.trans h) (by decide))) | (with_reducible exact (fun h => absurd (hne3.symm.trans h) (by decide))) | (with_reducible exact (fun h => absurd (hne4.symm.trans h) (by decide))) | (with_reducible exact (fun h => absurd (hne5.symm.trans h) (by decide))) | (with_reducible exact (fun h => absurd (hne6.symm.trans h) (by decide))) | (with_reducible exact (fun h => absurd (h : decide ((-1 : Int) ≤ 0) = false) (by decide))) | (with_reducible exact (fun h => absurd (h : decide ((-1 : Int) ≥ 0) = true) (by decide))) | (with_reducible exact (fun h => absurd (h : decide ((1 : Int) ≤ 0) = true) (by decide))) | (with_reducible exact (fun h => absurd (h : decide ((1 : Int) ≥ 0) = false) (by decide))) | refine ⟨?_, ?_⟩ | intro _)
                all_goals first | (with_reducible show (_ : Int) ≤ _) | (with_reducible show (_ : Int) < _) | (with_reducible show (_ : Nat) ≤ _) | (with_reducible show (_ : Nat) < _) | (conv => whnf)
                all_goals first | ((with_reducible show ASat _ _ _ _ _); refine draw_ren tys_ok (l := [(142, ⟨[], FZipN⟩), (70, ⟨[], FStrCmp⟩)]) ⟨fcZipN, fcStrCmp, trivial⟩ (by kernel_rfl) (.all [(0, .all [(1, .all [(2, .all [(3, .all [(4, .all [(5, .done)])])]), (3, .all [(2, .all [(4, .all [(5, .done)])])])]), (2, .all [(1, .all [(3, .all [(4, .all [(5, .done)])])]), (3, .all [(1, .all [(4, .all [(5, .done)])]), (4, .all [(1, .all [(5, .done)])])])]), (3, .all [(1, .all [(2, .all [(4, .all [(5, .done)])])]), (2, .all [(1, .all [(4, .all [(5, .done)])]), (4, .all [(1, .all [(5, .done)])])])])]), (1, .all [(0, .all [(2, .all [(3, .all [(4, .all [(5, .done)])])]), (3, .all [(2, .all [(4, .all [(5, .done)])])])]), (2, .all [(0, .all [(3, .all [(4, .all [(5, .done)])])]), (3, .all [(0, .all [(4, .all [(5, .done)])])])]), (3, .all [(0, .all [(2, .all [(4, .all [(5, .done)])])]), (2, .all [(0, .all [(4, .all [(5, .done)])])])])]), (2, .all [(0, .all [(1, .all [(3, .all [(4, .all [(5, .done)])])]), (3, .all [(1, .all [(4, .all [(5, .done)])]), (4, .all [(1, .all [(5, .done)])])])]), (1, .all [(0, .all [(3, .all [(4, .all [(5, .done)])])]), (3, .all [(0, .all [(4, .all [(5, .done)])])])]), (3, .all [(0, .all [(1, .all [(4, .all [(5, .done)])]), (4, .all [(1, .all [(5, .done)])])]), (1, .all [(0, .all [(4, .all [(5, .done)])])])])]), (3, .all [(0, .all [(1, .all [(2, .all [(4, .all [(5, .done)])])]), (2, .all [(1, .all [(4, .all [(5, .done)])]), (4, .all [(1, .all [(5, .done)])])])]), (1, .all [(0, .all [(2, .all [(4, .all [(5, .done)])])]), (2, .all [(0, .all [(4, .all [(5, .done)])])])]), (2, .all [(0, .all [(1, .all [(4, .all [(5, .done)])]), (4, .all [(1, .all [(5, .done)])])]), (1, .all [(0, .all [(4, .all [(5, .done)])])])])])]) 6 8 [0, 1, 2, 3, 4, 5, 6, 7] [12, 13] [0, 1, 2, 3, 8, 9, 10, 11, 12, 13, 21, 33, 37, 44, 51] (by kernel_rfl) ?_; apply tail_intro; · (repeat' (first | exact trivial | refine ⟨?_, ?_⟩ | intro _)) <;> (first | exact rfl | omega | assumption | (dsimp only; omega))) | skip
                all_goals repeat' (first | exact trivial | (with_reducible exact (fun h => absurd (hne1.symm.trans h) (by decide))) | (with_reducible exact (fun h => absurd (hne2.symm.trans h) (by decide))) | (with_reducible exact (fun h => absurd (hne3.symm.trans h) (by decide))) | (with_reducible exact (fun h => absurd (hne4.symm.trans h) (by decide))) | (with_reducible exact (fun h => absurd (hne5.symm.trans h) (by decide))) | (with_reducible exact (fun h => absurd (hne6.symm.trans h) (by decide))) | (with_reducible exact (fun h => absurd (h : decide ((-1 : Int) ≤ 0) = false) (by decide))) | (with_reducible exact (fun h => absurd (h : decide ((-1 : Int) ≥ 0) = true) (by decide))) | (with_reducible exact (fun h => absurd (h : decide ((1 : Int) ≤ 0) = true) (by decide))) | (with_reducible exact (fun h => absurd (h : decide ((1 : Int) ≥ 0) = false) (by decide))) | refine ⟨?_, ?_⟩ | intro _)
                all_goals first | (with_reducible show (_ : Int) ≤ _) | (with_reducible show (_ : Int) < _) | (with_reducible show (_ : Nat) ≤ _) | (with_reducible show (_ : Nat) < _) | (conv => whnf)
                all_goals first | ((with_reducible show ASat _ _ _ _ _); refine draw_cut tys_ok (l := [(142, ⟨[], FZipN⟩), (70, ⟨[], FStrCmp⟩)]) ⟨fcZipN, fcStrCmp, trivial⟩ (by kernel_rfl) (.take 0 (.take 1 (.take 3 (.take 4 (.all [(2, .all [(5, .take 6 (.done))])]))))) [0, 1, 2, 3, 8, 9, 10, 11, 12, 13, 21, 33, 37, 44, 51] (by kernel_rfl) ?_; apply tail_intro; · (repeat' (first | exact trivial | refine ⟨?_, ?_⟩ | intro _)) <;> (first | exact rfl | omega | assumption | (dsimp only; omega))) | skip
                all_goals repeat' (first | exact trivial | (with_reducible exact (fun h => absurd (hne1.symm.trans h) (by decide))) | (with_reducible exact (fun h => absurd (hne2.symm.trans h) (by decide))) | (with_reducible exact (fun h => absurd (hne3.symm.trans h) (by decide))) | (with_reducible exact (fun h => absurd (hne4.symm.trans h) (by decide))) | (with_reducible exact (fun h => absurd (hne5.symm.trans h) (by decide))) | (with_reducible exact (fun h => absurd (hne6.symm.trans h) (by decide))) | (with_reducible exact (fun h => absurd (h : decide ((-1 : Int) ≤ 0) = false) (by decide))) | (with_reducible exact (fun h => absurd (h : decide ((-1 : Int) ≥ 0) = true) (by decide))) | (with_reducible exact (fun h => absurd (h : decide ((1 : Int) ≤ 0) = true) (by decide))) | (with_reducible exact (fun h => absurd (h : decide ((1 : Int) ≥ 0) = false) (by decide))) | refine ⟨?_, ?_⟩ | intro _)
                all_goals first | (with_reducible show (_ : Int) ≤ _) | (with_reducible show (_ : Int) < _) | (with_reducible show (_ : Nat) ≤ _) | (with_reducible show (_ : Nat) < _) | (conv => whnf)
                all_goals first | ((with_reducible show ASat _ _ _ _ _); refine draw_cut tys_ok (l := [(142, ⟨[], FZipN⟩), (70, ⟨[], FStrCmp⟩)]) ⟨fcZipN, fcStrCmp, trivial⟩ (by kernel_rfl) (.take 0 (.take 1 (.take 3 (.take 4 (.all [(2, .all [(5, .take 6 (.done))])]))))) [0, 1, 2, 3, 8, 9, 10, 11, 12, 13, 21, 33, 37, 44, 51] (by kernel_rfl) ?_; apply tail_intro; · (repeat' (first | exact trivial | refine ⟨?_, ?_⟩ | intro _)) <;> (first | exact rfl | omega | assumption | (dsimp only; omega))) | skip
                all_goals repeat' (first | exact trivial | (with_reducible exact (fun h => absurd (hne1.symm.trans h) (by decide))) | (with_reducible exact (fun h => absurd (hne2.symm.trans h) (by decide))) | (with_reducible exact (fun h => absurd (hne3.symm.trans h) (by decide))) | (with_reducible exact (fun h => absurd (hne4.symm.trans h) (by decide))) | (with_reducible exact (fun h => absurd (hne5.symm.trans h) (by decide))) | (with_reducible exact (fun h => absurd (hne6.symm.trans h) (by decide))) | (with_reducible exact (fun h => absurd (h : decide ((-1 : Int) ≤ 0) = false) (by decide))) | (with_reducible exact (fun h => absurd (h : decide ((-1 : Int) ≥ 0) = true) (by decide))) | (with_reducible exact (fun h => absurd (h : decide ((1 : Int) ≤ 0) = true) (by decide))) | (with_reducible exact (fun h => absurd (h : decide ((1 : Int) ≥ 0) = false) (by decide))) | refine ⟨?_, ?_⟩ | intro _)
                all_goals first | (with_reducible show (_ : Int) ≤ _) | (with_reducible show (_ : Int) < _) | (with_reducible show (_ : Nat) ≤ _) | (with_reducible show (_ : Nat) < _) | (conv => whnf)
                all_goals first | ((with_reducible show ACall _ _ _ _ _ _); refine inl tys_ok (l := [(142, ⟨[], FZipN⟩), (70, ⟨[], FStrCmp⟩)]) ⟨fcZipN, fcStrCmp, trivial⟩ Tryz.func143 rfl (by kernel_rfl) (by kernel_rfl) rfl ?_) | skip
                all_goals repeat' (first | exact trivial | (with_reducible exact (fun h => absurd (hne1.symm.trans h) (by decide))) | (with_reducible exact (fun h => absurd (hne2.symm.trans h) (by decide))) | (with_reducible exact (fun h => absurd (hne3.symm.trans h) (by decide))) | (with_reducible exact (fun h => absurd (hne4.symm.trans h) (by decide))) | (with_reducible exact (fun h => absurd (hne5.symm.trans h) (by decide))) | (with_reducible exact (fun h => absurd (hne6.symm.trans h) (by decide))) | (with_reducible exact (fun h => absurd (h : decide ((-1 : Int) ≤ 0) = false) (by decide))) | (with_reducible exact (fun h => absurd (h : decide ((-1 : Int) ≥ 0) = true) (by decide))) | (with_reducible exact (fun h => absurd (h : decide ((1 : Int) ≤ 0) = true) (by decide))) | (with_reducible exact (fun h => absurd (h : decide ((1 : Int) ≥ 0) = false) (by decide))) | refine ⟨?_, ?_⟩ | intro _)
                all_goals first | (with_reducible show (_ : Int) ≤ _) | (with_reducible show (_ : Int) < _) | (with_reducible show (_ : Nat) ≤ _) | (with_reducible show (_ : Nat) < _) | (conv => whnf)
                all_goals (try simp only [ht0, Nat.add_zero, hg])
                all_goals repeat' (first | exact trivial | (with_reducible exact (fun h => absurd (hne1.symm.trans h) (by decide))) | (with_reducible exact (fun h => absurd (hne2.symm.trans h) (by decide))) | (with_reducible exact (fun h => absurd (hne3.symm.trans h) (by decide))) | (with_reducible exact (fun h => absurd (hne4.symm.trans h) (by decide))) | (with_reducible exact (fun h => absurd (hne5.symm.trans h) (by decide))) | (with_reducible exact (fun h => absurd (hne6.symm.trans h) (by decide))) | (with_reducible exact (fun h => absurd (h : decide ((-1 : Int) ≤ 0) = false) (by decide))) | (with_reducible exact (fun h => absurd (h : decide ((-1 : Int) ≥ 0) = true) (by decide))) | (with_reducible exact (fun h => absurd (h : decide ((1 : Int) ≤ 0) = true) (by decide))) | (with_reducible exact (fun h => absurd (h : decide ((1 : Int) ≥ 0) = false) (by decide))) | (with_reducible exact hgp) | refine ⟨?_, ?_⟩ | intro _)
                all_goals first | (with_reducible show (_ : Int) ≤ _) | (with_reducible show (_ : Int) < _) | (with_reducible show (_ : Nat) ≤ _) | (with_reducible show (_ : Nat) < _) | (conv => whnf)
                all_goals (try simp only [lessB_nil, lessB_nil2, lessB_eq (cf_eq hlt hgt).2, e1])
                all_goals first | exact Nat.le_refl _ | omega | (simp only [List.length_append, List.length_cons, List.length_nil]; omega) | exact hstep | rfl | (simp; done) | (rw [show (Int.toNat 1 : Nat) = 1 from rfl]; congr 1; omega) | ((with_reducible show idsOk _ _ = true); rfl) | (exact rwB_snoc rfl ‹_›) | trace_state
          · have hne1 : decide (((L.length - i : Nat) : Int) > 0) = true := decide_eq_true (by omega)
            have hne2 : (((L.length - i : Nat) : Int) == 0) = false := beq_eq_false_iff_ne.2 (by omega)
            have hne3 : (((M.length - j : Nat) : Int) == 0) = true := beq_iff_eq.2 (by omega)
            have hne4 : decide (((M.length - j : Nat) : Int) > 0) = false := decide_eq_false (by omega)
            have ht0 : Int.toNat 0 = 0 := rfl
            have e1 : nxM Op L M (i, j, out) = (i + 1, j, out ++ [⟨(atB L i).name, Op (atB L i).v Vl.zero⟩]) := by
              unfold nxM; dsimp only; rw [if_pos ci, if_neg (by omega)]
            rw [e1] at hstep
            obtain ⟨gp, hg, hgp⟩ := hgk.left _ (okL_at hL ci) (hqk.left _ (atB_mem ci))
            simp only [vlC, vlZ] at hg
            dsimp only at hstep
            repeat' (first | exact trivial | (with_reducible exact (fun h => absurd (hne1.symm.trans h) (by decide))) | (with_reducible exact (fun h => absurd (hne2.symm.trans h) (by decide))) | (with_reducible exact (fun h => absurd (hne3.symm.trans h) (by decide))) | (with_reducible exact (fun h => absurd (hne4.symm.trans h) (by decide))) | (with_reducible exact (fun h => absurd (h : decide ((-1 : Int) ≤ 0) = false) (by decide))) | (with_reducible exact (fun h => absurd (h : decide ((-1 : Int) ≥ 0) = true) (by decide))) | (with_reducible exact (fun h => absurd (h : decide ((1 : Int) ≤ 0) = true) (by decide))) | (with_reducible exact (fun h => absurd (h : decide ((1 : Int) ≥ 0) = false) (by decide))) | refine ⟨?_, ?_⟩ | intro _)
            all_goals first | (with_reducible show (_ : Int) ≤ _) | (with_reducible show (_ : Int) < _) | (with_reducible show (_ : Nat) ≤ _) | (with_reducible show (_ : Nat) < _) | (conv => whnf)
            all_goals first | ((with_reducible show ASat _ _ _ _ _); refine draw_ren tys_ok (l := [(142, ⟨[], FZipN⟩), (70, ⟨[], FStrCmp⟩)]) ⟨fcZipN, fcStrCmp, trivial⟩ (by kernel_rfl) (.all [(0, .all [(1, .all [(2, .all [(3, .all [(4, .all [(5, .done)])])]), (3, .all [(2, .all [(4, .all [(5, .done)])])])]), (2, .all [(1, .all [(3, .all [(4, .all [(5, .done)])])]), (3, .all [(1, .all [(4, .all [(5, .done)])]), (4, .all [(1, .all [(5, .done)])])])]), (3, .all [(1, .all [(2, .all [(4, .all [(5, .done)])])]), (2, .all [(1, .all [(4, .all [(5, .done)])]), (4, .all [(1, .all [(5, .done)])])])])]), (1, .all [(0, .all [(2, .all [(3, .all [(4, .all [(5, .done)])])]), (3, .all [(2, .all [(4, .all [(5, .done)])])])]), (2, .all [(0, .all [(3, .all [(4, .all [(5, .done)])])]), (3, .all [(0, .all [(4, .all [(5, .done)])])])]), (3, .all [(0, .all [(2, .all [(4, .all [(5, .done)])])]), (2, .all [(0, .all [(4, .all [(5, .done)])])])])]), (2, .all [(0, .all [(1, .all [(3, .all [(4, .all [(5, .done)])])]), (3, .all [(1, .all [(4, .all [(5, .done)])]), (4, .all [(1, .all [(5, .done)])])])]), (1, .all [(0, .all [(3, .all [(4, .all [(5, .done)])])]), (3, .all [(0, .all [(4, .all [(5, .done)])])])]), (3, .all [(0, .all [(1, .all [(4, .all [(5, .done)])]), (4, .all [(1, .all [(5, .done)])])]), (1, .all [(0, .all [(4, .all [(5, .done)])])])])]), (3, .all [(0, .all [(1, .all [(2, .all [(4, .all [(5, .done)])])]), (2, .all [(1, .all [(4, .all [(5, .done)])]), (4, .all [(1, .all [(5, .done)])])])]), (1, .all [(0, .all [(2, .all [(4, .all [(5, .done)])])]), (2, .all [(0, .all [(4, .all [(5, .done)])])])]), (2, .all [(0, .all [(1, .all [(4, .all [(5, .done)])]), (4, .all [(1, .all [(5, .done)])])]), (1, .all [(0, .all [(4, .all [(5, .done)])])])])])]) 6 8 [0, 1, 2, 3, 4, 5, 6, 7] [12, 13] [0, 1, 2, 3, 8, 9, 10, 11, 12, 13, 21, 33, 37, 44, 51] (by kernel_rfl) ?_; apply tail_intro; · (repeat' (first | exact trivial | refine ⟨?_, ?_⟩ | intro _)) <;> (first | exact rfl | omega | assumption | (dsimp only; omega))) | skip
            all_goals repeat' (first | exact trivial | (with_reducible exact (fun h => absurd (hne1.symm.trans h) (by decide))) | (with_reducible exact (fun h => absurd (hne2.symm.trans h) (by decide))) | (with_reducible exact (fun h => absurd (hne3.symm.trans h) (by decide))) | (with_reducible exact (fun h => absurd (hne4.symm.trans h) (by decide))) | (with_reducible exact (fun h => absurd (h : decide ((-1 : Int) ≤ 0) = false) (by decide))) | (with_reducible exact (fun h => absurd (h : decide ((-1 : Int) ≥ 0) = true) (by decide))) | (with_reducible exact (fun h => absurd (h : decide ((1 : Int) ≤ 0) = true) (by decide))) | (with_reducible exact (fun h => absurd (h : decide ((1 : Int) ≥ 0) = false) (by decide))) | refine ⟨?_, ?_⟩ | intro _)
            all_goals first | (with_reducible show (_ : Int) ≤ _) | (with_reducible show (_ : Int) < _) | (with_reducible show (_ : Nat) ≤ _) | (with_reducible show (_ : Nat) < _) | (conv => whnf)
            all_goals first | ((with_reducible show ASat _ _ _ _ _); refine draw_cut tys_ok (l := [(142, ⟨[], FZipN⟩), (70, ⟨[], FStrCmp⟩)]) ⟨fcZipN, fcStrCmp, trivial⟩ (by kernel_rfl) (.take 0 (.take 1 (.take 3 (.take 4 (.all [(2, .all [(5, .take 6 (.done))])]))))) [0, 1, 2, 3, 8, 9, 10, 11, 12, 13, 21, 33, 37, 44, 51] (by kernel_rfl) ?_; apply tail_intro; · (repeat' (first | exact trivial | refine ⟨?_, ?_⟩ | intro _)) <;> (first | exact rfl | omega | assumption | (dsimp only; omega))) | skip
            all_goals repeat' (first | exact trivial | (with_reducible exact (fun h => absurd (hne1.symm.trans h) (by decide))) | (with_reducible exact (fun h => absurd (hne2.symm.trans h) (by decide))) | (with_reducible exact (fun h => absurd (hne3.symm.trans h) (by decide))) | (with_reducible exact (fun h => absurd (hne4.symm.trans h) (by decide))) | (with_reducible exact (fun h => absurd (h : decide ((-1 : Int) ≤ 0) = false) (by decide))) | (with_reducible exact (fun h => absurd (h : decide ((-1 : Int) ≥ 0) = true) (by decide))) | (with_reducible exact (fun h => absurd (h : decide ((1 : Int) ≤ 0) = true) (by decide))) | (with_reducible exact (fun h => absurd (h : decide ((1 : Int) ≥ 0) = false) (by decide))) | refine ⟨?_, ?_⟩ | intro _)
            all_goals first | (with_reducible show (_ : Int) ≤ _) | (with_reducible show (_ : Int) < _) | (with_reducible show (_ : Nat) ≤ _) | (with_reducible show (_ : Nat) < _) | (conv => whnf)
            all_goals first | ((with_reducible show ACall _ _ _ _ _ _); refine inl tys_ok (l := [(142, ⟨[], FZipN⟩), (70, ⟨[], FStrCmp⟩)]) ⟨fcZipN, fcStrCmp, trivial⟩ Tryz.func143 rfl (by kernel_rfl) (by kernel_rfl) rfl ?_) | skip
            all_goals repeat' (first | exact trivial | (with_reducible exact (fun h => absurd (hne1.symm.trans h) (by decide))) | (with_reducible exact (fun h => absurd (hne2.symm.trans h) (by decide))) | (with_reducible exact (fun h => absurd (hne3.symm.trans h) (by decide))) | (with_reducible exact (fun h => absurd (hne4.symm.trans h) (by decide))) | (with_reducible exact (fun h => absurd (h : decide ((-1 : Int) ≤ 0) = false) (by decide))) | (with_reducible exact (fun h => absurd (h : decide ((-1 : Int) ≥ 0) = true) (by decide))) | (with_reducible exact (fun h => absurd (h : decide ((1 : Int) ≤ 0) = true) (by decide))) | (with_reducible exact (fun h => absurd (h : decide ((1 : Int) ≥ 0) = false) (by decide))) | refine ⟨?_, ?_⟩ | intro _)
            all_goals first | (with_reducible show (_ : Int) ≤ _) | (with_reducible show (_ : Int) < _) | (with_reducible show (_ : Nat) ≤ _) | (with_reducible show (_ : Nat) < _) | (conv => whnf)
            all_goals (try simp only [ht0, Nat.add_zero, hg])
            all_goals repeat' (first | exact trivial | (with_reducible exact (fun h => absurd (hne1.symm.trans h) (by decide))) | (with_reducible exact (fun h => absurd (hne2.symm.trans h) (by decide))) | (with_reducible exact (fun h => absurd (hne3.symm.trans h) (by decide))) | (with_reducible exact (fun h => absurd (hne4.symm.trans h) (by decide))) | (with_reducible exact (fun h => absurd (h : decide ((-1 : Int) ≤ 0) = false) (by decide))) | (with_reducible exact (fun h => absurd (h : decide ((-1 : Int) ≥ 0) = true) (by decide))) | (with_reducible exact (fun h => absurd (h : decide ((1 : Int) ≤ 0) = true) (by decide))) | (with_reducible exact (fun h => absurd (h : decide ((1 : Int) ≥ 0) = false) (by decide))) | (with_reducible exact hgp) | refine ⟨?_, ?_⟩ | intro _)
            all_goals first | (with_reducible show (_ : Int) ≤ _) | (with_reducible show (_ : Int) < _) | (with_reducible show (_ : Nat) ≤ _) | (with_reducible show (_ : Nat) < _) | (conv => whnf)
            all_goals (try simp only [lessB_nil, lessB_nil2, e1])
            all_goals first | exact Nat.le_refl _ | omega | (simp only [List.length_append, List.length_cons, List.length_nil]; omega) | exact hstep | rfl | (simp; done) | (rw [show (Int.toNat 1 : Nat) = 1 from rfl]; congr 1; omega) | ((with_reducible show idsOk _ _ = true); rfl) | (exact rwB_snoc rfl ‹_›) | trace_state
        · have cj : j < M.length := hend.resolve_left (by omega)
          have hne1 : decide (((L.length - i : Nat) : Int) > 0) = false := decide_eq_false (by omega)
          have hne2 : (((L.length - i : Nat) : Int) == 0) = true := beq_iff_eq.2 (by omega)
          have hne3 : (((M.length - j : Nat) : Int) == 0) = false := beq_eq_false_iff_ne.2 (by omega)
          have hne4 : decide (((M.length - j : Nat) : Int) > 0) = true := decide_eq_true (by omega)
          have ht0 : Int.toNat 0 = 0 := rfl
          have e1 : nxM Op L M (i, j, out) = (i, j + 1, out ++ [⟨(atB M j).name, Op Vl.zero (atB M j).v⟩]) := by
            unfold nxM; dsimp only; rw [if_neg (by omega)]
          rw [e1] at hstep
          obtain ⟨gp, hg, hgp⟩ := hgk.right _ (okL_at hM cj) (hqk.right _ (atB_mem cj))
          simp only [vlC, vlZ] at hg
          dsimp only at hstep
          repeat' (first | exact trivial | (with_reducible exact (fun h => absurd (hne1.symm.trans h) (by decide))) | (with_reducible exact (fun h => absurd (hne2.symm.trans h) (by decide))) | (with_reducible exact (fun h => absurd (hne3.symm.trans h) (by decide))) | (with_reducible exact (fun h => absurd (hne4.symm.trans h) (by decide))) | (with_reducible exact (fun h => absurd (h : decide ((-1 : Int) ≤ 0) = false) (by decide))) | (with_reducible exact (fun h => absurd (h : decide ((-1 : Int) ≥ 0) = true) (by decide))) | (with_reducible exact (fun h => absurd (h : decide ((1 : Int) ≤ 0) = true) (by decide))) | (with_reducible exact (fun h => absurd (h : decide ((1 : Int) ≥ 0) = false) (by decide))) | refine ⟨?_, ?_⟩ | intro _)
          all_goals first | (with_reducible show (_ : Int) ≤ _) | (with_reducible show (_ : Int) < _) | (with_reducible show (_ : Nat) ≤ _) | (with_reducible show (_ : Nat) < _) | (conv => whnf)
          all_goals first | ((with_reducible show ASat _ _ _ _ _); refine draw_ren tys_ok (l := [(142, ⟨[], FZipN⟩), (70, ⟨[], FStrCmp⟩)]) ⟨fcZipN, fcStrCmp, trivial⟩ (by kernel_rfl) (.all [(0, .all [(1, .all [(2, .all [(3, .all [(4, .all [(5, .done)])])]), (3, .all [(2, .all [(4, .all [(5, .done)])])])]), (2, .all [(1, .all [(3, .all [(4, .all [(5, .done)])])]), (3, .all [(1, .all [(4, .all [(5, .done)])]), (4, .all [(1, .all [(5, .done)])])])]), (3, .all [(1, .all [(2, .all [(4, .all [(5, .done)])])]), (2, .all [(1, .all [(4, .all [(5, .done)])]), (4, .all [(1, .all [(5, .done)])])])])]), (1, .all [(0, .all [(2, .all [(3, .all [(4, .all [(5, .done)])])]), (3, .all [(2, .all [(4, .all [(5, .done)])])])]), (2, .all [(0, .all [(3, .all [(4, .all [(5, .done)])])]), (3, .all [(0, .all [(4, .all [(5, .done)])])])]), (3, .all [(0, .all [(2, .all [(4, .all [(5, .done)])])]), (2, .all [(0, .all [(4, .all [(5, .done)])])])])]), (2, .all [(0, .all [(1, .all [(3, .all [(4, .all [(5, .done)])])]), (3, .all [(1, .all [(4, .all [(5, .done)])]), (4, .all [(1, .all [(5, .done)])])])]), (1, .all [(0, .all [(3, .all [(4, .all [(5, .done)])])]), (3, .all [(0, .all [(4, .all [(5, .done)])])])]), (3, .all [(0, .all [(1, .all [(4, .all [(5, .done)])]), (4, .all [(1, .all [(5, .done)])])]), (1, .all [(0, .all [(4, .all [(5, .done)])])])])]), (3, .all [(0, .all [(1, .all [(2, .all [(4, .all [(5, .done)])])]), (2, .all [(1, .all [(4, .all [(5, .done)])]), (4, .all [(1, .all [(5, .done)])])])]), (1, .all [(0, .all [(2, .all [(4, .all [(5, .done)])])]), (2, .all [(0, .all [(4, .all [(5, .done)])])])]), (2, .all [(0, .all [(1, .all [(4, .all [(5, .done)])]), (4, .all [(1, .all [(5, .done)])])]), (1, .all [(0, .all [(4, .all [(5, .done)])])])])])]) 6 8 [0, 1, 2, 3, 4, 5, 6, 7] [12, 13] [0, 1, 2, 3, 8, 9, 10, 11, 12, 13, 21, 33, 37, 44, 51] (by kernel_rfl) ?_; apply tail_intro; · (repeat' (first | exact trivial | refine ⟨?_, ?_⟩ | intro _)) <;> (first | exact rfl | omega | assumption | (dsimp only; omega))) | skip
          all_goals repeat' (first | exact trivial | (with_reducible exact (fun h => absurd (hne1.symm.trans h) (by decide))) | (with_reducible exact (fun h => absurd (hne2.symm.trans h) (by decide))) | (with_reducible exact (fun h => absurd (hne3.symm.trans h) (by decide))) | (with_reducible exact (fun h => absurd (hne4.symm.trans h) (by decide))) | (with_reducible exact (fun h => absurd (h : decide ((-1 : Int) ≤ 0) = false) (by decide))) | (with_reducible exact (fun h => absurd (h : decide ((-1 : Int) ≥ 0) = true) (by decide))) | (with_reducible exact (fun h => absurd (h : decide ((1 : Int) ≤ 0) = true) (by decide))) | (with_reducible exact (fun h => absurd (h : decide ((1 : Int) ≥ 0) = false) (by decide))) | refine ⟨?_, ?_⟩ | intro _)
          all_goals first | (with_reducible show (_ : Int) ≤ _) | (with_reducible show (_ : Int) < _) | (with_reducible show (_ : Nat) ≤ _) | (with_reducible show (_ : Nat) < _) | (conv => whnf)
          all_goals first | ((with_reducible show ASat _ _ _ _ _); refine draw_cut tys_ok (l := [(142, ⟨[], FZipN⟩), (70, ⟨[], FStrCmp⟩)]) ⟨fcZipN, fcStrCmp, trivial⟩ (by kernel_rfl) (.take 0 (.take 1 (.take 3 (.take 4 (.all [(2, .all [(5, .take 6 (.done))])]))))) [0, 1, 2, 3, 8, 9, 10, 11, 12, 13, 21, 33, 37, 44, 51] (by kernel_rfl) ?_; apply tail_intro; · (repeat' (first | exact trivial | refine ⟨?_, ?_⟩ | intro _)) <;> (first | exact rfl | omega | assumption | (dsimp only; omega))) | skip
          all_goals repeat' (first | exact trivial | (with_reducible exact (fun h => absurd (hne1.symm.trans h) (by decide))) | (with_reducible exact (fun h => absurd (hne2.symm.trans h) (by decide))) | (with_reducible exact (fun h => absurd (hne3.symm.trans h) (by decide))) | (with_reducible exact (fun h => absurd (hne4.symm.trans h) (by decide))) | (with_reducible exact (fun h => absurd (h : decide ((-1 : Int) ≤ 0) = false) (by decide))) | (with_reducible exact (fun h => absurd (h : decide ((-1 : Int) ≥ 0) = true) (by decide))) | (with_reducible exact (fun h => absurd (h : decide ((1 : Int) ≤ 0) = true) (by decide))) | (with_reducible exact (fun h => absurd (h : decide ((1 : Int) ≥ 0) = false) (by decide))) | refine ⟨?_, ?_⟩ | intro _)
          all_goals first | (with_reducible show (_ : Int) ≤ _) | (with_reducible show (_ : Int) < _) | (with_reducible show (_ : Nat) ≤ _) | (with_reducible show (_ : Nat) < _) | (conv => whnf)
          all_goals first | ((with_reducible show ACall _ _ _ _ _ _); refine inl tys_ok (l := [(142, ⟨[], FZipN⟩), (70, ⟨[], FStrCmp⟩)]) ⟨fcZipN, fcStrCmp, trivial⟩ Tryz.func143 rfl (by kernel_rfl) (by kernel_rfl) rfl ?_) | skip
          all_goals repeat' (first | exact trivial | (with_reducible exact (fun h => absurd (hne1.symm.trans h) (by decide))) | (with_reducible exact (fun h => absurd (hne2.symm.trans h) (by decide))) | (with_reducible exact (fun h => absurd (hne3.symm.trans h) (by decide))) | (with_reducible exact (fun h => absurd (hne4.symm.trans h) (by decide))) | (with_reducible exact (fun h => absurd (h : decide ((-1 : Int) ≤ 0) = false) (by decide))) | (with_reducible exact (fun h => absurd (h : decide ((-1 : Int) ≥ 0) = true) (by decide))) | (with_reducible exact (fun h => absurd (h : decide ((1 : Int) ≤ 0) = true) (by decide))) | (with_reducible exact (fun h => absurd (h : decide ((1 : Int) ≥ 0) = false) (by decide))) | refine ⟨?_, ?_⟩ | intro _)
          all_goals first | (with_reducible show (_ : Int) ≤ _) | (with_reducible show (_ : Int) < _) | (with_reducible show (_ : Nat) ≤ _) | (with_reducible show (_ : Nat) < _) | (conv => whnf)
          all_goals (try simp only [ht0, Nat.add_zero, hg])
          all_goals repeat' (first | exact trivial | (with_reducible exact (fun h => absurd (hne1.symm.trans h) (by decide))) | (with_reducible exact (fun h => absurd (hne2.symm.trans h) (by decide))) | (with_reducible exact (fun h => absurd (hne3.symm.trans h) (by decide))) | (with_reducible exact (fun h => absurd (hne4.symm.trans h) (by decide))) | (with_reducible exact (fun h => absurd (h : decide ((-1 : Int) ≤ 0) = false) (by decide))) | (with_reducible exact (fun h => absurd (h : decide ((-1 : Int) ≥ 0) = true) (by decide))) | (with_reducible exact (fun h => absurd (h : decide ((1 : Int) ≤ 0) = true) (by decide))) | (with_reducible exact (fun h => absurd (h : decide ((1 : Int) ≥ 0) = false) (by decide))) | (with_reducible exact hgp) | refine ⟨?_, ?_⟩ | intro _)
          all_goals first | (with_reducible show (_ : Int) ≤ _) | (with_reducible show (_ : Int) < _) | (with_reducible show (_ : Nat) ≤ _) | (with_reducible show (_ : Nat) < _) | (conv => whnf)
          all_goals (try simp only [lessB_nil, lessB_nil2, e1])
          all_goals first | exact Nat.le_refl _ | omega | (simp only [List.length_append, List.length_cons, List.length_nil]; omega) | exact hstep | rfl | (simp; done) | (rw [show (Int.toNat 1 : Nat) = 1 from rfl]; congr 1; omega) | ((with_reducible show idsOk _ _ = true); rfl) | (exact rwB_snoc rfl ‹_›) | trace_state
      · obtain rfl : i = L.length := by omega
        obtain rfl : j = M.length := by omega
        have hend1 : decide (((L.length - L.length : Nat) : Int) > 0) = false := decide_eq_false (by omega)
        have hend2 : decide (((M.length - M.length : Nat) : Int) > 0) = false := decide_eq_false (by omega)
        have hout : out = mrg Op L M := by
          rw [List.drop_length, List.drop_length, mrg, List.append_nil] at k4; exact k4
        subst hout
        repeat' (first | exact trivial | (with_reducible exact (fun h => absurd (hend1.symm.trans h) (by decide))) | (with_reducible exact (fun h => absurd (hend2.symm.trans h) (by decide))) | refine ⟨?_, ?_⟩ | intro _)
        all_goals first | (with_reducible show (_ : Int) ≤ _) | (with_reducible show (_ : Int) < _) | (with_reducible show (_ : Nat) ≤ _) | (with_reducible show (_ : Nat) < _) | (conv => whnf)
        all_goals first | rfl | (simp; done) | (rename_i k _; show rwB (mrg Op L M) (0 + k) = rwB (mrg Op L M) k; rw [Nat.zero_add]) | trace_state
  · cases h
end Go.Proofs.YthkknkhpfffnbaaGreat
namespace Go.Proofs.YthkknkhpfffnbaaGreat
set_option linter.all false
open Go.Sx
theorem get_ok {e : En} (h : okL e.binds) (s : ByteArray) : okV (En.get e s) := by
  unfold En.get
  split
  · rename_i hd; exact okL_at (clean_ok h) (found_lt hd)
  · exact ⟨⟨Nat.zero_le _, fun i h => absurd h (Nat.not_lt_zero i)⟩, by unfold Sp.inR; decide, by unfold Cg.inR; decide⟩
def FLeqC : List Ar → Option Rs
  | [.agg [.d (.v (.string x0)), .d (.v (.bool s0)), .d (.v (.int .i64 l0)), .d (.v (.int .i64 h0)), .d (.v (.bool b0)), .d (.v (.int .i64 m0)), .d (.v (.int .i64 r0)), .d (.v (.bool z0)), .d (.lst 1 n0 f0)], .rp [.v (.bool e1), .lst 9 n1 f1]] => some ⟨((n0 * 16 ≤ 140737488351232 ∧ ∀ i, i < n0 → f0 i = [st (gT (f0 i))]) ∧ Sp.inR ⟨s0, l0, h0⟩ ∧ Cg.inR ⟨b0, m0, r0⟩) ∧ (n1 ≤ 1099511627776 ∧ RowsOk n1 f1), .va (.c (.d (bo (!Vl.leq (⟨⟨⟨s0, l0, h0⟩, ⟨b0, m0, r0⟩⟩, ⟨z0, gN n0 f0⟩⟩ : Vl) (En.get (⟨e1, gBs n1 f1⟩ : En) x0))))), []⟩
  | _ => none
set_option maxHeartbeats 1000000 in
set_option maxRecDepth 100000 in
theorem fcLeqC : FC Tryz.prog 93 FLeqC := by
  intro xs pre r us h hp
  unfold FLeqC at h
  split at h
  · rename_i x0 s0 l0 h0 b0 m0 r0 z0 n0 f0 e1 n1 f1
    cases h
    obtain ⟨hp0, hp1⟩ := hp
    refine fcat tys_ok (l := [(24, ⟨[], FEGet⟩), (91, ⟨[], FVLeq⟩)]) ⟨fcEGet, fcVLeq, trivial⟩ Tryz.func93 rfl (by kernel_rfl) false ?_
    have hL := okL_rows hp1.2
    have hg := get_ok (e := ⟨e1, gBs n1 f1⟩) hL x0
    have hq := hg.2
    simp only [Sp.inR, Cg.inR] at hq
    repeat' (first | exact trivial | (with_reducible exact hp0) | (with_reducible exact hp0.1) | (with_reducible exact hp0.2) | (with_reducible exact hp0.1.2) | (with_reducible exact hp0.2.1) | (with_reducible exact hp0.2.2) | (with_reducible exact hp1) | (with_reducible exact hp1.2) | refine ⟨?_, ?_⟩ | intro _)
    all_goals first | (with_reducible show (_ : Int) ≤ _) | (with_reducible show (_ : Int) < _) | (with_reducible show (_ : Nat) ≤ _) | (with_reducible show (_ : Nat) < _) | (conv => whnf)
    all_goals (generalize En.get ⟨e1, gBs n1 f1⟩ x0 = G at *)
    all_goals (try simp only [gN_lst])
    all_goals first | rfl | exact hp0.1.1 | exact hp1.1 | exact hg.1.1 | omega | trace_state
  · cases h
abbrev gLeq (ek : Bool) (nk : Nat) (fk : Nat → List DV) : List Cv → Option Gs := mkFv (sums [(93, ⟨[], FLeqC⟩)]) 93 [.rp [bo ek, .lst 9 nk fk]]
abbrev pL (E : En) (b : Bd) : Bool := !Vl.leq b.v (En.get E b.name)
def FIndexL (ek : Bool) (nk : Nat) (fk : Nat → List DV) : List Ar → Option Rs
  | [.c (.d (.lst 9 n0 f0)), .fv g1] => some ⟨(n0 ≤ 1099511627776 ∧ RowsOk n0 f0) ∧ (g1 = gLeq ek nk fk ∧ nk ≤ 1099511627776 ∧ RowsOk nk fk), .va (.c (.d (it (ixB (pL ⟨ek, gBs nk fk⟩) (gBs n0 f0))))), []⟩
  | _ => none
set_option maxHeartbeats 1000000 in
set_option maxRecDepth 100000 in
theorem fcIndexL (ek : Bool) (nk : Nat) (fk : Nat → List DV) : FC Tryz.prog 118 (FIndexL ek nk fk) := by
  intro xs pre r us h hp
  unfold FIndexL at h
  split at h
  · rename_i n0 f0 g1
    cases h
    obtain ⟨hp0, hp1⟩ := hp
    refine FCat.deep (ys := [.c (.d (.lst 9 n0 (rwB (gBs n0 f0)))), .fv g1]) ?_ ?_
    · repeat' (first | exact trivial | exact rfl | exact DvE.refl _ | refine ⟨?_, ?_⟩ | fail)
      all_goals first | exact canonB hp0.2.h
    refine fcat tys_ok (l := []) trivial Tryz.func118 rfl (by kernel_rfl) false ?_
    obtain ⟨rfl, hk1, hk2⟩ := hp1
    have hn := hp0.1
    have hL := okL_rows hp0.2
    have hlen := gBs_length n0 f0
    generalize gBs n0 f0 = L at *
    clear hp0
    subst hlen
    have hrow := okL_row hL
    repeat' (first | exact trivial | refine ⟨?_, ?_⟩ | intro _)
    all_goals first | (with_reducible show (_ : Int) ≤ _) | (with_reducible show (_ : Int) < _) | (with_reducible show (_ : Nat) ≤ _) | (with_reducible show (_ : Nat) < _) | (conv => whnf)
    refine loop_ok tys_ok (l := []) trivial (by kernel_rfl) (X := Nat)
      (fun i => ⟨[(8, vx (.int .i64 i)), (0, .va (.c (.d (.lst 9 L.length (rwB L))))), (1, .va (.c (.fv (gLeq ek nk fk)))), (7, vx (.int .i64 L.length))], [], 0, 19⟩)
      (fun i => L.length - i) (fun i => i ≤ L.length ∧ ∀ k, k < i → pL ⟨ek, gBs nk fk⟩ (atB L k) = false) [] []
      (fun i _ _ => i + 1) [] [] 0 0 0 ?_ ?_ ?_
    · exact ⟨Nat.zero_le _, fun k h => absurd h (Nat.not_lt_zero k)⟩
    · repeat' (first | exact trivial | exact rfl | (intro _ _; exact rfl) | refine ⟨?_, ?_⟩ | fail)
    · rintro i ⟨k1, k2⟩
      rcases Nat.lt_or_ge i L.length with hi | hi
      · have hne : decide ((i : Int) < (L.length : Int)) = true := decide_eq_true (by omega)
        have ho1 := okL_at hL hi
        have hq := ho1.2
        simp only [Sp.inR, Cg.inR] at hq
        repeat' (first | exact trivial | refine ⟨?_, ?_⟩ | intro _)
        all_goals first | (with_reducible show (_ : Int) ≤ _) | (with_reducible show (_ : Int) < _) | (with_reducible show (_ : Nat) ≤ _) | (with_reducible show (_ : Nat) < _) | (conv => whnf)
        all_goals first | (exact absurd (hne.symm.trans ‹_ = false›) (by decide)) | skip
        all_goals (try simp only [Int.toNat_natCast, Nat.zero_add, gN_lst] at *)
        all_goals first | omega | rfl | exact hk1 | exact hk2 | exact ho1.1.1 | (exact congrArg (Value.int .i64) (by first | (rw [wI_id _ (by omega) (by omega)]; omega) | omega | (dsimp only; omega))) | skip
        all_goals first | (rw [ix_some hi k2 ‹_ = true›]; done) | (rw [ix_some hi k2 ‹_ = true›]; rfl) | (rename_i k hk hp; rcases Nat.lt_or_ge k i with hki | hki; exact k2 k hki; rw [show k = i by omega]; exact hp) | trace_state
      · have hne : decide ((i : Int) < (L.length : Int)) = false := decide_eq_false (by omega)
        obtain rfl : i = L.length := by omega
        repeat' (first | exact trivial | refine ⟨?_, ?_⟩ | intro _)
        all_goals first | (with_reducible show (_ : Int) ≤ _) | (with_reducible show (_ : Int) < _) | (with_reducible show (_ : Nat) ≤ _) | (with_reducible show (_ : Nat) < _) | (conv => whnf)
        all_goals first | (exact absurd (hne.symm.trans ‹_ = true›) (by decide)) | skip
        all_goals first | exact Nat.le_refl _ | (rw [ix_none k2]; done) | (rw [ix_none k2]; rfl) | trace_state
  · cases h
def FContL (ek : Bool) (nk : Nat) (fk : Nat → List DV) : List Ar → Option Rs
  | [.c (.d (.lst 9 n0 f0)), .fv g1] => some ⟨(n0 ≤ 1099511627776 ∧ RowsOk n0 f0) ∧ (g1 = gLeq ek nk fk ∧ nk ≤ 1099511627776 ∧ RowsOk nk fk), .va (.c (.d (bo (decide (ixB (pL ⟨ek, gBs nk fk⟩) (gBs n0 f0) ≥ 0))))), []⟩
  | _ => none
set_option maxHeartbeats 1000000 in
set_option maxRecDepth 100000 in
theorem fcContL (ek : Bool) (nk : Nat) (fk : Nat → List DV) : FC Tryz.prog 92 (FContL ek nk fk) := by
  intro xs pre r us h hp
  unfold FContL at h
  split at h
  · rename_i n0 f0 g1
    cases h
    obtain ⟨hp0, hp1⟩ := hp
    refine FCat.deep (ys := [.c (.d (.lst 9 n0 (rwB (gBs n0 f0)))), .fv g1]) ?_ ?_
    · repeat' (first | exact trivial | exact rfl | exact DvE.refl _ | refine ⟨?_, ?_⟩ | fail)
      all_goals first | exact canonB hp0.2.h
    refine fcat tys_ok (l := [(118, ⟨[], (FIndexL ek nk fk)⟩)]) ⟨(fcIndexL ek nk fk), trivial⟩ Tryz.func92 rfl (by kernel_rfl) false ?_
    obtain ⟨rfl, hk1, hk2⟩ := hp1
    have hn := hp0.1
    have hL := okL_rows hp0.2
    have hlen := gBs_length n0 f0
    generalize gBs n0 f0 = L at *
    clear hp0
    subst hlen
    have hrow := okL_row hL
    have hgb := gBs_row L
    repeat' (first | exact trivial | refine ⟨?_, ?_⟩ | intro _)
    all_goals first | (with_reducible show (_ : Int) ≤ _) | (with_reducible show (_ : Int) < _) | (with_reducible show (_ : Nat) ≤ _) | (with_reducible show (_ : Nat) < _) | (conv => whnf)
    all_goals (try simp only [hgb])
    all_goals first | exact hn | exact hrow | exact hk1 | exact hk2 | rfl | trace_state
  · cases h
namespace En
def leq (a b : En) : Bool := if a.clean.live = true then (if b.clean.live = true then a.clean.binds.all fun x => x.v.leq (En.get b.clean x.name) else false) else true
def same (a b : En) : Bool := En.leq a b && En.leq b a
end En
theorem ix_all (p : Bd → Bool) (L : List Bd) : (!decide (ixB p L ≥ 0)) = L.all fun b => !p b := by
  rcases ix_cases p L with ⟨h1, h2⟩ | ⟨i, h1, h2, h3, h4⟩
  · rw [h1]
    refine (List.all_eq_true.2 fun x hx => ?_).symm
    obtain ⟨k, hk, rfl⟩ := mem_atB hx
    rw [h2 k hk]; rfl
  · rw [h1, show decide ((i : Int) ≥ 0) = true from decide_eq_true (by omega)]
    refine (List.all_eq_false.2 ⟨atB L i, atB_mem h2, ?_⟩).symm
    rw [h4]; simp
def FELeq : List Ar → Option Rs
  | [.agg [.d (.v (.bool e0)), .d (.lst 9 n0 f0)], .agg [.d (.v (.bool e1)), .d (.lst 9 n1 f1)]] => some ⟨(n0 ≤ 1099511627776 ∧ RowsOk n0 f0) ∧ (n1 ≤ 1099511627776 ∧ RowsOk n1 f1), .va (.c (.d (bo (En.leq (⟨e0, gBs n0 f0⟩ : En) (⟨e1, gBs n1 f1⟩ : En))))), []⟩
  | _ => none
set_option maxHeartbeats 2000000 in
set_option maxRecDepth 100000 in
theorem fcELeq : FC Tryz.prog 41 FELeq := by
  intro xs pre r us h hp
  unfold FELeq at h
  split at h
  · rename_i e0 n0 f0 e1 n1 f1
    cases h
    obtain ⟨hp0, hp1⟩ := hp
    refine FCat.deep (ys := [.agg [.d (.v (.bool e0)), .d (.lst 9 n0 (rwB (gBs n0 f0)))], .agg [.d (.v (.bool e1)), .d (.lst 9 n1 (rwB (gBs n1 f1)))]]) ?_ ?_
    · repeat' (first | exact trivial | exact rfl | exact DvE.refl _ | refine ⟨?_, ?_⟩ | fail)
      all_goals first | first | exact canonB hp0.2.h | exact canonB hp1.2.h
    refine fcat tys_ok (l := [(22, ⟨[], FEClean⟩), (92, ⟨[], (FContL (En.clean ⟨e1, gBs n1 (rwB (gBs n1 f1))⟩).live (En.clean ⟨e1, gBs n1 (rwB (gBs n1 f1))⟩).binds.length (rwB (En.clean ⟨e1, gBs n1 (rwB (gBs n1 f1))⟩).binds))⟩), (93, ⟨[], FLeqC⟩)]) ⟨fcEClean, (fcContL (En.clean ⟨e1, gBs n1 (rwB (gBs n1 f1))⟩).live (En.clean ⟨e1, gBs n1 (rwB (gBs n1 f1))⟩).binds.length (rwB (En.clean ⟨e1, gBs n1 (rwB (gBs n1 f1))⟩).binds)), fcLeqC, trivial⟩ Tryz.func41 rfl (by kernel_rfl) true ?_
    have hn := hp0.1
    have hL := okL_rows hp0.2
    have hlen := gBs_length n0 f0
    generalize gBs n0 f0 = L at *
    clear hp0
    subst hlen
    have hrow := okL_row hL
    have hb := gBs_row L
    have hc := clean_ok (e := ⟨e0, L⟩) hL
    have hcr := okL_row hc
    have hcl := clean_len ⟨e0, L⟩
    have hcs := clean_std ⟨e0, L⟩
    have hcn : (En.clean ⟨e0, L⟩).binds.length ≤ 1099511627776 := Nat.le_trans hcl hn
    have hm := hp1.1
    have hM := okL_rows hp1.2
    have hlen1 := gBs_length n1 f1
    generalize gBs n1 f1 = M at *
    clear hp1
    subst hlen1
    have hrow1 := okL_row hM
    have hb1 := gBs_row M
    have hd := clean_ok (e := ⟨e1, M⟩) hM
    have hdr := okL_row hd
    have hdl := clean_len ⟨e1, M⟩
    have hds := clean_std ⟨e1, M⟩
    have hdn : (En.clean ⟨e1, M⟩).binds.length ≤ 1099511627776 := Nat.le_trans hdl hm
    repeat' (first | exact trivial | refine ⟨?_, ?_⟩ | intro _)
    all_goals first | (with_reducible show (_ : Int) ≤ _) | (with_reducible show (_ : Int) < _) | (with_reducible show (_ : Nat) ≤ _) | (with_reducible show (_ : Nat) < _) | (conv => whnf)
    all_goals (try simp only [gBs_row, Bool.not_eq_true', Bool.not_eq_false'] at *)
    all_goals first | exact hrow | exact hrow1 | exact hn | exact hm | exact hcn | exact hdn | exact hcr | exact hdr | rfl | skip
    all_goals (have hset : En.leq ⟨e0, L⟩ ⟨e1, M⟩ = if (En.clean ⟨e0, L⟩).live = true then (if (En.clean ⟨e1, M⟩).live = true then (En.clean ⟨e0, L⟩).binds.all fun x => x.v.leq (En.get (En.clean ⟨e1, M⟩) x.name) else false) else true := rfl)
    all_goals (generalize En.leq ⟨e0, L⟩ ⟨e1, M⟩ = R at *; generalize En.clean ⟨e0, L⟩ = A at *; generalize En.clean ⟨e1, M⟩ = B at *)
    all_goals first | (have hl := ‹A.live = false›; rw [hset, hl]; rfl) | (have hl := ‹A.live = true›; first | (have hl2 := ‹B.live = false›; rw [hset, hl, hl2]; rfl) | (have hl2 := ‹B.live = true›; have e := ix_all (pL B) A.binds; simp only [pL, Bool.not_not] at e; rw [hset, if_pos hl, if_pos hl2, ← e]; rfl)) | skip
    have hl := ‹A.live = true›
    have hl2 := ‹B.live = true›
    rw [hset, if_pos hl, if_pos hl2]
    exact congrArg Value.bool ((ix_all (pL B) A.binds).trans (by simp only [pL, Bool.not_not]))
  · cases h
def FESame : List Ar → Option Rs
  | [.agg [.d (.v (.bool e0)), .d (.lst 9 n0 f0)], .agg [.d (.v (.bool e1)), .d (.lst 9 n1 f1)]] => some ⟨(n0 ≤ 1099511627776 ∧ RowsOk n0 f0) ∧ (n1 ≤ 1099511627776 ∧ RowsOk n1 f1), .va (.c (.d (bo (En.same (⟨e0, gBs n0 f0⟩ : En) (⟨e1, gBs n1 f1⟩ : En))))), []⟩
  | _ => none
set_option maxHeartbeats 1000000 in
set_option maxRecDepth 100000 in
theorem fcESame : FC Tryz.prog 43 FESame := by
  intro xs pre r us h hp
  unfold FESame at h
  split at h
  · rename_i e0 n0 f0 e1 n1 f1
    cases h
    obtain ⟨hp0, hp1⟩ := hp
    refine FCat.deep (ys := [.agg [.d (.v (.bool e0)), .d (.lst 9 n0 (rwB (gBs n0 f0)))], .agg [.d (.v (.bool e1)), .d (.lst 9 n1 (rwB (gBs n1 f1)))]]) ?_ ?_
    · repeat' (first | exact trivial | exact rfl | exact DvE.refl _ | refine ⟨?_, ?_⟩ | fail)
      all_goals first | first | exact canonB hp0.2.h | exact canonB hp1.2.h
    refine fcat tys_ok (l := [(41, ⟨[], FELeq⟩)]) ⟨fcELeq, trivial⟩ Tryz.func43 rfl (by kernel_rfl) true ?_
    have hn := hp0.1
    have hL := okL_rows hp0.2
    have hlen := gBs_length n0 f0
    generalize gBs n0 f0 = L at *
    clear hp0
    subst hlen
    have hrow := okL_row hL
    have hb := gBs_row L
    have hc := clean_ok (e := ⟨e0, L⟩) hL
    have hcr := okL_row hc
    have hcl := clean_len ⟨e0, L⟩
    have hcs := clean_std ⟨e0, L⟩
    have hcn : (En.clean ⟨e0, L⟩).binds.length ≤ 1099511627776 := Nat.le_trans hcl hn
    have hm := hp1.1
    have hM := okL_rows hp1.2
    have hlen1 := gBs_length n1 f1
    generalize gBs n1 f1 = M at *
    clear hp1
    subst hlen1
    have hrow1 := okL_row hM
    have hb1 := gBs_row M
    have hd := clean_ok (e := ⟨e1, M⟩) hM
    have hdr := okL_row hd
    have hdl := clean_len ⟨e1, M⟩
    have hds := clean_std ⟨e1, M⟩
    have hdn : (En.clean ⟨e1, M⟩).binds.length ≤ 1099511627776 := Nat.le_trans hdl hm
    repeat' (first | exact trivial | refine ⟨?_, ?_⟩ | intro _)
    all_goals first | (with_reducible show (_ : Int) ≤ _) | (with_reducible show (_ : Int) < _) | (with_reducible show (_ : Nat) ≤ _) | (with_reducible show (_ : Nat) < _) | (conv => whnf)
    all_goals (try simp only [gBs_row] at *)
    all_goals (have hset : En.same ⟨e0, L⟩ ⟨e1, M⟩ = (En.leq ⟨e0, L⟩ ⟨e1, M⟩ && En.leq ⟨e1, M⟩ ⟨e0, L⟩) := rfl)
    all_goals first | exact hrow | exact hrow1 | exact hn | exact hm | (have hl := ‹En.leq ⟨e0, L⟩ ⟨e1, M⟩ = true›; rw [hset, hl]; rfl) | (have hl := ‹En.leq ⟨e0, L⟩ ⟨e1, M⟩ = false›; rw [hset, hl]; rfl) | trace_state
  · cases h
end Go.Proofs.YthkknkhpfffnbaaGreat
namespace Go.Proofs.YthkknkhpfffnbaaGreat
set_option linter.all false
open Go.Sx
namespace Sp
end Sp
namespace Sp
end Sp
def Cg.tidy (c : Cg) : Prop := c = Cg.none ∨ (c.some = true ∧ c.red)
theorem Cg.tidy_fix {c : Cg} (h : c.tidy) : c.clean = c := by
  rcases h with rfl | ⟨h1, h2⟩
  · rfl
  · exact cg_fix h1 h2
theorem gcdJ_nn (x y : Cg) : 0 ≤ Cg.gcdJ x y := by unfold Cg.gcdJ; omega
theorem join_some {a b : Cg} (ha : a.some = true) (hb : b.some = true) (ra : a.red) (rb : b.red) : Cg.join a b = if Cg.gcdJ a b > 9223372036854775807 then ⟨true, 1, 0⟩ else ⟨true, Cg.gcdJ a b, md a.r (Cg.gcdJ a b)⟩ := by
  unfold Cg.join
  rw [cg_fix ha ra, cg_fix hb rb, ha, hb]
  have := gcdJ_nn a b
  simp only [Bool.not_true, Bool.false_eq_true, if_false]
  split
  · rfl
  · unfold Cg.of; rw [if_neg (by omega)]
theorem join_no1 {a b : Cg} (ha : a = Cg.none) (hb : b.tidy) : Cg.join a b = b := by
  subst ha
  have : (!Cg.none.clean.some) = true := rfl
  unfold Cg.join; rw [if_pos this, Cg.tidy_fix hb]
theorem join_no2 {a b : Cg} (ha : a.tidy) (hs : a.some = true) (hb : b = Cg.none) : Cg.join a b = a := by
  subst hb
  unfold Cg.join; rw [Cg.tidy_fix ha, hs]; rfl
theorem join_tidy {a b : Cg} (ha : a.tidy) (hb : b.tidy) : (Cg.join a b).tidy := by
  rcases ha with ha | ⟨h1, h2⟩
  · rw [join_no1 ha hb]; exact hb
  · rcases hb with hb | ⟨h3, h4⟩
    · rw [join_no2 (.inr ⟨h1, h2⟩) h1 hb]; exact .inr ⟨h1, h2⟩
    · rw [join_some h1 h3 h2 h4]
      have := gcdJ_nn a b
      split
      · right; refine ⟨rfl, ?_⟩; unfold Cg.red; dsimp only; omega
      · right; refine ⟨rfl, ?_⟩; unfold Cg.red; dsimp only
        exact ⟨this, fun h => md_bound _ _ h⟩
theorem tidy_c {i : Ig} (h : i.tidy) : i.c.tidy := by
  rcases h with rfl | ⟨⟨_, h2⟩, _, h4⟩
  · exact .inl rfl
  · exact .inr ⟨h2, h4⟩
theorem of_told {v : Vl} (h : v.i.tidy) (hs : Srt v.t.names) : v.of = v := by
  unfold Vl.of; rw [tidy_fix h, ofS_eq, cleanS_fix hs]
end Go.Proofs.YthkknkhpfffnbaaGreat
namespace Go.Proofs.YthkknkhpfffnbaaGreat
set_option linter.all false
open Go.Sx
namespace Sp
end Sp
namespace Cg
end Cg
structure Vl.tidy (v : Vl) : Prop where
  i : v.i.tidy
  t : Srt v.t.names
theorem Vl.of_tidy (v : Vl) : v.of.tidy := ⟨by rw [of_rclean]; exact clean_tidy v.i, by rw [of_rclean]; exact cleanS_srt _⟩
theorem Vl.of_fix {v : Vl} (h : v.tidy) : v.of = v := of_told h.i h.t
theorem Vl.of_of (v : Vl) : v.of.of = v.of := Vl.of_fix (Vl.of_tidy v)
theorem Vl.zero_tidy : Vl.zero.tidy := ⟨.inl rfl, by unfold Vl.zero; exact srt_nil⟩
theorem ig_join_tidy {a b : Ig} (ha : a.tidy) (hb : b.tidy) : Ig.tidy ⟨a.s.join b.s, a.c.join b.c⟩ := by
  have hj := join_tidy (tidy_c ha) (tidy_c hb)
  rcases ha with rfl | ⟨⟨a1, a2⟩, a3, a4⟩
  · rcases hb with rfl | ⟨⟨b1, b2⟩, b3, b4⟩
    · exact .inl rfl
    · have e : Cg.join Ig.zero.c b.c = b.c := join_no1 rfl (.inr ⟨b2, b4⟩)
      rw [e]
      obtain ⟨⟨s, l, h⟩, c⟩ := b
      dsimp only at *
      subst b1
      right
      refine ⟨⟨?_, b2⟩, ?_, b4⟩
      · show (Sp.join ⟨false, 0, 0⟩ ⟨true, l, h⟩).some = true; grind [Sp.join, Sp.none, Sp.clean]
      · show (Sp.join ⟨false, 0, 0⟩ ⟨true, l, h⟩).lo ≤ (Sp.join ⟨false, 0, 0⟩ ⟨true, l, h⟩).hi; grind [Sp.join, Sp.none, Sp.clean]
  · right
    have hs : (a.s.join b.s).some = true ∧ (a.s.join b.s).lo ≤ (a.s.join b.s).hi := by grind [Sp.join, Sp.none, Sp.clean, Sp.of]
    have hc : (a.c.join b.c).some = true := by
      rcases hb with rfl | ⟨⟨b1, b2⟩, b3, b4⟩
      · have e : Cg.join a.c Ig.zero.c = a.c := join_no2 (.inr ⟨a2, a4⟩) a2 rfl
        rw [e]; exact a2
      · rw [join_some a2 b2 a4 b4]; split <;> rfl
    refine ⟨⟨hs.1, hc⟩, hs.2, ?_⟩
    rcases hj with h | ⟨_, h⟩
    · rw [h] at hc; cases hc
    · exact h
theorem srt_ofS (l : List ByteArray) : Srt (ofS l) := by rw [ofS_eq]; exact cleanS_srt l
theorem of_names (v : Vl) : v.of.t.names = ofS v.t.names := by rw [of_rclean, ofS_eq]; rfl
theorem Vl.jn_tidy (a b : Vl) : (Vl.join a b).tidy := ⟨ig_join_tidy (Vl.of_tidy a).i (Vl.of_tidy b).i, srt_ofS _⟩
def Vl.inR (v : Vl) : Prop := v.i.s.inR ∧ v.i.c.inR
theorem Vl.of_inR {v : Vl} (h : v.inR) : v.of.inR := Ig.clean_inR h.1 h.2
def narI (x y : Ig) : Ig := Ig.clean ⟨x.s.narrow y.s, if Cg.eq x.c (Cg.of 1 0) then y.c else x.c⟩
theorem Vl.narrow_cases (a b : Vl) : Vl.narrow a b = (if !Vl.leq b a then a.of else if Vl.none b then Vl.zero else ⟨narI a.of.i b.of.i, a.of.t⟩) := rfl
theorem Vl.join_eq (a b : Vl) : Vl.join a b = Vl.rjoin a b := by
  unfold Vl.join Vl.rjoin
  rw [of_rclean, of_rclean]
  simp only [ofS_eq]
end Go.Proofs.YthkknkhpfffnbaaGreat
namespace Go.Proofs.YthkknkhpfffnbaaGreat
set_option linter.all false
open Go.Sx
namespace En
def join (a b : En) : En := if a.clean.live = true then (if b.clean.live = true then ⟨true, mrg Vl.join a.clean.binds b.clean.binds⟩ else a.clean) else b.clean
def widen (a b : En) (l : List Int) : En := if a.clean.live = true then (if b.clean.live = true then ⟨true, mrg (fun x y => Vl.widen x y l) a.clean.binds b.clean.binds⟩ else a.clean) else b.clean
def narrow (a b : En) : En := if a.clean.live = true then (if b.clean.live = true then (if En.leq b.clean a.clean = true then ⟨true, mrg Vl.narrow a.clean.binds b.clean.binds⟩ else a.clean) else ⟨false, []⟩) else b.clean
end En
abbrev QJ (x y : Vl) : Prop := (x.t.names.length + y.t.names.length) * 16 ≤ 140737488351232
abbrev QT (_ _ : Vl) : Prop := True
theorem vl_lst (v : Vl) : (⟨⟨⟨v.i.s.some, v.i.s.lo, v.i.s.hi⟩, ⟨v.i.c.some, v.i.c.m, v.i.c.r⟩⟩, ⟨v.t.null, gN v.t.names.length fun i => [st (atS v.t.names i)]⟩⟩ : Vl) = v := by rw [gN_lst]
theorem vl_nil : (⟨⟨⟨false, 0, 0⟩, ⟨false, 0, 0⟩⟩, ⟨false, gN 0 fun _ => []⟩⟩ : Vl) = Vl.zero := rfl
theorem okV_zero : okV Vl.zero := ⟨⟨Nat.zero_le _, fun i h => absurd h (Nat.not_lt_zero i)⟩, by unfold Vl.zero Ig.zero Sp.inR; decide, by unfold Vl.zero Ig.zero Cg.inR; decide⟩
abbrev gJoin : List Cv → Option Gs := mkFv (sums [(95, ⟨[], FN 1 FVJoin⟩)]) 95 []
abbrev gNarrow : List Cv → Option Gs := mkFv (sums [(102, ⟨[], FN 1 FVNarrow⟩)]) 102 []
theorem gz_of {gz : List Cv → Option Gs} {a b : List DV} {p : Prop} {z z' : Vl} (h : gz [.agg a, .agg b] = some ⟨p, .va (.agg (vlC z'))⟩) (hz : z' = z) (hp : p) : gIs gz a b z := by subst hz; exact ⟨p, h, hp⟩
theorem gJoin_ok : GOk gJoin Vl.join QJ where
  both x y hx hy hq := gz_of rfl (by rw [vl_lst, vl_lst]) (by unfold okV at hx hy; exact ⟨⟨⟨hx.1.1, fun _ _ => rfl⟩, hx.2⟩, ⟨⟨hy.1.1, fun _ _ => rfl⟩, hy.2⟩, hq⟩)
  left x hx hq := gz_of rfl (by rw [vl_lst, vl_nil]) (by unfold okV at hx; exact ⟨⟨⟨hx.1.1, fun _ _ => rfl⟩, hx.2⟩, ⟨⟨Nat.zero_le _, fun i h => absurd h (Nat.not_lt_zero i)⟩, okV_zero.2⟩, hq⟩)
  right y hy hq := gz_of rfl (by rw [vl_lst, vl_nil]) (by unfold okV at hy; exact ⟨⟨⟨Nat.zero_le _, fun i h => absurd h (Nat.not_lt_zero i)⟩, okV_zero.2⟩, ⟨⟨hy.1.1, fun _ _ => rfl⟩, hy.2⟩, hq⟩)
theorem gNarrow_ok : GOk gNarrow Vl.narrow QT where
  both x y hx hy hq := gz_of rfl (by rw [vl_lst, vl_lst]) (by unfold okV at hx hy; exact ⟨⟨⟨hx.1.1, fun _ _ => rfl⟩, hx.2⟩, ⟨⟨hy.1.1, fun _ _ => rfl⟩, hy.2⟩⟩)
  left x hx hq := gz_of rfl (by rw [vl_lst, vl_nil]) (by unfold okV at hx; exact ⟨⟨⟨hx.1.1, fun _ _ => rfl⟩, hx.2⟩, ⟨⟨Nat.zero_le _, fun i h => absurd h (Nat.not_lt_zero i)⟩, okV_zero.2⟩⟩)
  right y hy hq := gz_of rfl (by rw [vl_lst, vl_nil]) (by unfold okV at hy; exact ⟨⟨⟨Nat.zero_le _, fun i h => absurd h (Nat.not_lt_zero i)⟩, okV_zero.2⟩, ⟨⟨hy.1.1, fun _ _ => rfl⟩, hy.2⟩⟩)
def Room (A B : List Bd) : Prop := QOk QJ A B
theorem room_dd {A A' B B' : List Bd} (h : Room A B) (ha : ∀ x ∈ A', ∃ y ∈ A, x.v.t.names.length ≤ y.v.t.names.length) (hb : ∀ x ∈ B', ∃ y ∈ B, x.v.t.names.length ≤ y.v.t.names.length) : Room A' B' where
  both x hx y hy := by
    obtain ⟨u, hu, e⟩ := ha x hx
    obtain ⟨w, hw, e'⟩ := hb y hy
    have := h.both u hu w hw
    unfold QJ at *; omega
  left x hx := by obtain ⟨u, hu, e⟩ := ha x hx; have := h.left u hu; unfold QJ at *; omega
  right y hy := by obtain ⟨w, hw, e'⟩ := hb y hy; have := h.right w hw; unfold QJ at *; omega
theorem clean_sub (e : En) : ∀ x ∈ e.clean.binds, ∃ y ∈ e.binds, x.v.t.names.length ≤ y.v.t.names.length := by
  intro x hx
  unfold En.clean at hx
  split at hx
  · obtain ⟨b, hb, rfl⟩ := List.mem_map.1 hx
    refine ⟨b, srt_mem.1 (dd_sub hb), ?_⟩
    show (Vl.of b.v).t.names.length ≤ _
    rw [of_names]; exact ofS_len _
  · cases hx
theorem room_clean {a b : En} (h : Room a.binds b.binds) : Room a.clean.binds b.clean.binds := room_dd h (clean_sub a) (clean_sub b)
theorem qt_ok (A B : List Bd) : QOk QT A B := ⟨fun _ _ _ _ => trivial, fun _ _ => trivial, fun _ _ => trivial⟩
def FEJoin : List Ar → Option Rs
  | [.agg [.d (.v (.bool e0)), .d (.lst 9 n0 f0)], .agg [.d (.v (.bool e1)), .d (.lst 9 n1 f1)]] => some ⟨(n0 ≤ 1099511627776 ∧ RowsOk n0 f0) ∧ (n1 ≤ 1099511627776 ∧ RowsOk n1 f1) ∧ (Room (gBs n0 f0) (gBs n1 f1) ∧ n0 + n1 ≤ 1099511627776), .va (En.ar (En.join (⟨e0, gBs n0 f0⟩ : En) (⟨e1, gBs n1 f1⟩ : En))), []⟩
  | _ => none
set_option maxHeartbeats 4000000 in
set_option maxRecDepth 100000 in
theorem fcEJoin : FC Tryz.prog 44 FEJoin := by
  intro xs pre r us h hp
  unfold FEJoin at h
  split at h
  · rename_i e0 n0 f0 e1 n1 f1
    cases h
    obtain ⟨hp0, hp1, hp2⟩ := hp
    refine FCat.deep (ys := [.agg [.d (.v (.bool e0)), .d (.lst 9 n0 (rwB (gBs n0 f0)))], .agg [.d (.v (.bool e1)), .d (.lst 9 n1 (rwB (gBs n1 f1)))]]) ?_ ?_
    · repeat' (first | exact trivial | exact rfl | exact DvE.refl _ | refine ⟨?_, ?_⟩ | fail)
      all_goals first | first | exact canonB hp0.2.h | exact canonB hp1.2.h
    refine fcat tys_ok (l := [(22, ⟨[], FEClean⟩), (94, ⟨[], (FEZip Vl.join QJ gJoin)⟩), (95, ⟨[], FN 1 FVJoin⟩)]) ⟨fcEClean, (fcEZip Vl.join QJ gJoin), fc_nil 1 fcVJoin, trivial⟩ Tryz.func44 rfl (by kernel_rfl) true ?_
    have hn := hp0.1
    have hL := okL_rows hp0.2
    have hlen := gBs_length n0 f0
    generalize gBs n0 f0 = L at *
    clear hp0
    subst hlen
    have hrow := okL_row hL
    have hb := gBs_row L
    have hc := clean_ok (e := ⟨e0, L⟩) hL
    have hcr := okL_row hc
    have hcl := clean_len ⟨e0, L⟩
    have hcs := clean_std ⟨e0, L⟩
    have hcn : (En.clean ⟨e0, L⟩).binds.length ≤ 1099511627776 := Nat.le_trans hcl hn
    have hm := hp1.1
    have hM := okL_rows hp1.2
    have hlen1 := gBs_length n1 f1
    generalize gBs n1 f1 = M at *
    clear hp1
    subst hlen1
    have hrow1 := okL_row hM
    have hb1 := gBs_row M
    have hd := clean_ok (e := ⟨e1, M⟩) hM
    have hdr := okL_row hd
    have hdl := clean_len ⟨e1, M⟩
    have hds := clean_std ⟨e1, M⟩
    have hdn : (En.clean ⟨e1, M⟩).binds.length ≤ 1099511627776 := Nat.le_trans hdl hm
    obtain ⟨hroom, hsum⟩ := hp2
    have hcroom := room_clean (a := ⟨e0, L⟩) (b := ⟨e1, M⟩) hroom
    have hnm : (En.clean ⟨e0, L⟩).binds.length + (En.clean ⟨e1, M⟩).binds.length ≤ 1099511627776 := by
      have h1 : (En.clean ⟨e0, L⟩).binds.length ≤ L.length := hcl
      have h2 : (En.clean ⟨e1, M⟩).binds.length ≤ M.length := hdl
      omega
    repeat' (first | exact trivial | refine ⟨?_, ?_⟩ | intro _)
    all_goals first | (with_reducible show (_ : Int) ≤ _) | (with_reducible show (_ : Int) < _) | (with_reducible show (_ : Nat) ≤ _) | (with_reducible show (_ : Nat) < _) | (conv => whnf)
    all_goals (try simp only [gBs_row, Bool.not_eq_true', Bool.not_eq_false'] at *)
    all_goals first | exact hrow | exact hrow1 | exact hn | exact hm | exact hcr | exact hdr | exact hcn | exact hdn | exact gJoin_ok | exact hcroom | exact hnm | rfl | skip
    all_goals (have hset : En.join ⟨e0, L⟩ ⟨e1, M⟩ = if (En.clean ⟨e0, L⟩).live = true then (if (En.clean ⟨e1, M⟩).live = true then ⟨true, mrg Vl.join (En.clean ⟨e0, L⟩).binds (En.clean ⟨e1, M⟩).binds⟩ else En.clean ⟨e0, L⟩) else En.clean ⟨e1, M⟩ := rfl)
    all_goals (generalize En.join ⟨e0, L⟩ ⟨e1, M⟩ = R at *; generalize En.clean ⟨e0, L⟩ = A at *; generalize En.clean ⟨e1, M⟩ = B at *)
    all_goals first | (have hl := ‹A.live = false›; rw [hl, if_neg Bool.false_ne_true] at hset; subst hset; rfl) | (have hl := ‹A.live = true›; have hl2 := ‹B.live = false›; rw [hl, if_pos rfl, hl2, if_neg Bool.false_ne_true] at hset; subst hset; rfl) | (have hl := ‹A.live = true›; have hl2 := ‹B.live = true›; rw [hl, if_pos rfl, hl2, if_pos rfl] at hset; subst hset; rfl) | trace_state
  · cases h
def FWidC : List Ar → Option Rs
  | [.agg [.d (.v (.bool s0)), .d (.v (.int .i64 l0)), .d (.v (.int .i64 h0)), .d (.v (.bool b0)), .d (.v (.int .i64 m0)), .d (.v (.int .i64 r0)), .d (.v (.bool z0)), .d (.lst 1 n0 f0)], .agg [.d (.v (.bool s1)), .d (.v (.int .i64 l1)), .d (.v (.int .i64 h1)), .d (.v (.bool b1)), .d (.v (.int .i64 m1)), .d (.v (.int .i64 r1)), .d (.v (.bool z1)), .d (.lst 1 n1 f1)], .rp [.lst 1 n2 f2]] => some ⟨((n0 * 16 ≤ 140737488351232 ∧ ∀ i, i < n0 → f0 i = [st (gT (f0 i))]) ∧ Sp.inR ⟨s0, l0, h0⟩ ∧ Cg.inR ⟨b0, m0, r0⟩) ∧ ((n1 * 16 ≤ 140737488351232 ∧ ∀ i, i < n1 → f1 i = [st (gT (f1 i))]) ∧ Sp.inR ⟨s1, l1, h1⟩ ∧ Cg.inR ⟨b1, m1, r1⟩) ∧ (n2 ≤ 9223372036854775807 ∧ ∀ i, i < n2 → f2 i = [it (gI (f2 i))] ∧ rI (gI (f2 i))) ∧ ((n0 + n1) * 16 ≤ 140737488351232), .va (Vl.ar (Vl.widen (⟨⟨⟨s0, l0, h0⟩, ⟨b0, m0, r0⟩⟩, ⟨z0, gN n0 f0⟩⟩ : Vl) (⟨⟨⟨s1, l1, h1⟩, ⟨b1, m1, r1⟩⟩, ⟨z1, gN n1 f1⟩⟩ : Vl) (gL n2 f2))), []⟩
  | _ => none
set_option maxHeartbeats 1000000 in
set_option maxRecDepth 100000 in
theorem fcWidC : FC Tryz.prog 100 FWidC := by
  intro xs pre r us h hp
  unfold FWidC at h
  split at h
  · rename_i s0 l0 h0 b0 m0 r0 z0 n0 f0 s1 l1 h1 b1 m1 r1 z1 n1 f1 n2 f2
    cases h
    obtain ⟨hp0, hp1, hp2, hp3⟩ := hp
    refine FCat.of_eq (as' := [.agg [.d (.v (.bool s0)), .d (.v (.int .i64 l0)), .d (.v (.int .i64 h0)), .d (.v (.bool b0)), .d (.v (.int .i64 m0)), .d (.v (.int .i64 r0)), .d (.v (.bool z0)), .d (.lst 1 n0 fun i => [st (gT (f0 i))])], .agg [.d (.v (.bool s1)), .d (.v (.int .i64 l1)), .d (.v (.int .i64 h1)), .d (.v (.bool b1)), .d (.v (.int .i64 m1)), .d (.v (.int .i64 r1)), .d (.v (.bool z1)), .d (.lst 1 n1 fun i => [st (gT (f1 i))])], .rp [.lst 1 n2 f2]]) ?_ rfl rfl ?_
    · repeat' (first | exact trivial | exact rfl | refine ⟨?_, ?_⟩ | fail)
      all_goals first | exact hp0.1.2 | exact hp1.1.2 | exact hp0.2 | exact hp1.2 | exact hp2.2 | (intro i hi; exact (hp0.2 i hi).1) | (intro i hi; exact (hp1.2 i hi).1) | (intro i hi; exact (hp2.2 i hi).1) | grind
    refine fcat tys_ok (l := [(101, ⟨[], FVWiden⟩)]) ⟨fcVWiden, trivial⟩ Tryz.func100 rfl (by kernel_rfl) true ?_
    repeat' (first | exact trivial | (with_reducible exact hp0.1) | (with_reducible exact hp1.1) | (with_reducible exact hp0.1.1) | (with_reducible exact hp1.1.1) | (with_reducible exact hp0.2) | (with_reducible exact hp1.2) | (with_reducible exact hp0.2.1) | (with_reducible exact hp0.2.2) | (with_reducible exact hp1.2.1) | (with_reducible exact hp1.2.2) | (with_reducible exact hp2) | (with_reducible exact hp2.1) | (with_reducible exact hp2.2) | (with_reducible exact hp3) | refine ⟨?_, ?_⟩ | intro _)
    all_goals first | (with_reducible show (_ : Int) ≤ _) | (with_reducible show (_ : Int) < _) | (with_reducible show (_ : Nat) ≤ _) | (with_reducible show (_ : Nat) < _) | (conv => whnf)
    all_goals (try simp only [gN_lst])
    all_goals first | rfl | trace_state
  · cases h
abbrev gWiden (nk : Nat) (fk : Nat → List DV) : List Cv → Option Gs := mkFv (sums [(100, ⟨[], FN 1 FWidC⟩)]) 100 [.rp [.lst 1 nk fk]]
theorem gWiden_ok {nk : Nat} {fk : Nat → List DV} (hk : nk ≤ 9223372036854775807 ∧ ∀ i, i < nk → fk i = [it (gI (fk i))] ∧ rI (gI (fk i))) : GOk (gWiden nk fk) (fun x y => Vl.widen x y (gL nk fk)) QJ where
  both x y hx hy hq := gz_of rfl (by rw [vl_lst, vl_lst]) (by unfold okV at hx hy; exact ⟨⟨⟨hx.1.1, fun _ _ => rfl⟩, hx.2⟩, ⟨⟨hy.1.1, fun _ _ => rfl⟩, hy.2⟩, hk, hq⟩)
  left x hx hq := gz_of rfl (by rw [vl_lst, vl_nil]) (by unfold okV at hx; exact ⟨⟨⟨hx.1.1, fun _ _ => rfl⟩, hx.2⟩, ⟨⟨Nat.zero_le _, fun i h => absurd h (Nat.not_lt_zero i)⟩, okV_zero.2⟩, hk, hq⟩)
  right y hy hq := gz_of rfl (by rw [vl_lst, vl_nil]) (by unfold okV at hy; exact ⟨⟨⟨Nat.zero_le _, fun i h => absurd h (Nat.not_lt_zero i)⟩, okV_zero.2⟩, ⟨⟨hy.1.1, fun _ _ => rfl⟩, hy.2⟩, hk, hq⟩)
def FEWiden : List Ar → Option Rs
  | [.agg [.d (.v (.bool e0)), .d (.lst 9 n0 f0)], .agg [.d (.v (.bool e1)), .d (.lst 9 n1 f1)], .c (.d (.lst 1 n2 f2))] => some ⟨(n0 ≤ 1099511627776 ∧ RowsOk n0 f0) ∧ (n1 ≤ 1099511627776 ∧ RowsOk n1 f1) ∧ (n2 ≤ 9223372036854775807 ∧ ∀ i, i < n2 → f2 i = [it (gI (f2 i))] ∧ rI (gI (f2 i))) ∧ (Room (gBs n0 f0) (gBs n1 f1) ∧ n0 + n1 ≤ 1099511627776), .va (En.ar (En.widen (⟨e0, gBs n0 f0⟩ : En) (⟨e1, gBs n1 f1⟩ : En) (gL n2 f2))), []⟩
  | _ => none
set_option maxHeartbeats 4000000 in
set_option maxRecDepth 100000 in
theorem fcEWiden : FC Tryz.prog 46 FEWiden := by
  intro xs pre r us h hp
  unfold FEWiden at h
  split at h
  · rename_i e0 n0 f0 e1 n1 f1 n2 f2
    cases h
    obtain ⟨hp0, hp1, hp2, hp3⟩ := hp
    refine FCat.deep (ys := [.agg [.d (.v (.bool e0)), .d (.lst 9 n0 (rwB (gBs n0 f0)))], .agg [.d (.v (.bool e1)), .d (.lst 9 n1 (rwB (gBs n1 f1)))], .c (.d (.lst 1 n2 fun i => [it (gI (f2 i))]))]) ?_ ?_
    · repeat' (first | exact trivial | exact rfl | exact DvE.refl _ | refine ⟨?_, ?_⟩ | fail)
      all_goals first | first | exact canonB hp0.2.h | exact canonB hp1.2.h | (exact .rows fun i hi => by rw [(hp2.2 i hi).1]; exact ⟨rfl, fun j a b ha hb => by have hb : [it (gI (f2 i))][j]? = some b := hb; rw [ha] at hb; cases hb; exact .refl _⟩)
    refine fcat tys_ok (l := [(22, ⟨[], FEClean⟩), (94, ⟨[], (FEZip (fun x y => Vl.widen x y (gL n2 f2)) QJ (gWiden n2 (fun i => [it (gI (f2 i))])))⟩), (100, ⟨[], FN 1 FWidC⟩)]) ⟨fcEClean, (fcEZip (fun x y => Vl.widen x y (gL n2 f2)) QJ (gWiden n2 (fun i => [it (gI (f2 i))]))), fc_nil 1 fcWidC, trivial⟩ Tryz.func46 rfl (by kernel_rfl) true ?_
    have hn := hp0.1
    have hL := okL_rows hp0.2
    have hlen := gBs_length n0 f0
    generalize gBs n0 f0 = L at *
    clear hp0
    subst hlen
    have hrow := okL_row hL
    have hb := gBs_row L
    have hc := clean_ok (e := ⟨e0, L⟩) hL
    have hcr := okL_row hc
    have hcl := clean_len ⟨e0, L⟩
    have hcs := clean_std ⟨e0, L⟩
    have hcn : (En.clean ⟨e0, L⟩).binds.length ≤ 1099511627776 := Nat.le_trans hcl hn
    have hm := hp1.1
    have hM := okL_rows hp1.2
    have hlen1 := gBs_length n1 f1
    generalize gBs n1 f1 = M at *
    clear hp1
    subst hlen1
    have hrow1 := okL_row hM
    have hb1 := gBs_row M
    have hd := clean_ok (e := ⟨e1, M⟩) hM
    have hdr := okL_row hd
    have hdl := clean_len ⟨e1, M⟩
    have hds := clean_std ⟨e1, M⟩
    have hdn : (En.clean ⟨e1, M⟩).binds.length ≤ 1099511627776 := Nat.le_trans hdl hm
    obtain ⟨hroom, hsum⟩ := hp3
    have hcroom := room_clean (a := ⟨e0, L⟩) (b := ⟨e1, M⟩) hroom
    have hnm : (En.clean ⟨e0, L⟩).binds.length + (En.clean ⟨e1, M⟩).binds.length ≤ 1099511627776 := by
      have h1 : (En.clean ⟨e0, L⟩).binds.length ≤ L.length := hcl
      have h2 : (En.clean ⟨e1, M⟩).binds.length ≤ M.length := hdl
      omega
    have hcan : ∀ i, i < n2 → (fun i => [it (gI (f2 i))]) i = [it (gI ((fun i => [it (gI (f2 i))]) i))] ∧ rI (gI ((fun i => [it (gI (f2 i))]) i)) := fun i hi => ⟨rfl, (hp2.2 i hi).2⟩
    have hgw := gWiden_ok (nk := n2) (fk := fun i => [it (gI (f2 i))]) ⟨hp2.1, hcan⟩
    repeat' (first | exact trivial | refine ⟨?_, ?_⟩ | intro _)
    all_goals first | (with_reducible show (_ : Int) ≤ _) | (with_reducible show (_ : Int) < _) | (with_reducible show (_ : Nat) ≤ _) | (with_reducible show (_ : Nat) < _) | (conv => whnf)
    all_goals (try simp only [gBs_row, Bool.not_eq_true', Bool.not_eq_false'] at *)
    all_goals first | exact hrow | exact hrow1 | exact hn | exact hm | exact hcr | exact hdr | exact hcn | exact hdn | exact hgw | exact hcroom | exact hnm | rfl | skip
    all_goals (have hset : En.widen ⟨e0, L⟩ ⟨e1, M⟩ (gL n2 f2) = if (En.clean ⟨e0, L⟩).live = true then (if (En.clean ⟨e1, M⟩).live = true then ⟨true, mrg (fun x y => Vl.widen x y (gL n2 f2)) (En.clean ⟨e0, L⟩).binds (En.clean ⟨e1, M⟩).binds⟩ else En.clean ⟨e0, L⟩) else En.clean ⟨e1, M⟩ := rfl)
    all_goals (generalize En.widen ⟨e0, L⟩ ⟨e1, M⟩ (gL n2 f2) = R at *; generalize En.clean ⟨e0, L⟩ = A at *; generalize En.clean ⟨e1, M⟩ = B at *)
    all_goals first | (have hl := ‹A.live = false›; rw [hl, if_neg Bool.false_ne_true] at hset; subst hset; rfl) | (have hl := ‹A.live = true›; have hl2 := ‹B.live = false›; rw [hl, if_pos rfl, hl2, if_neg Bool.false_ne_true] at hset; subst hset; rfl) | (have hl := ‹A.live = true›; have hl2 := ‹B.live = true›; rw [hl, if_pos rfl, hl2, if_pos rfl] at hset; subst hset; rfl) | trace_state
  · cases h
def FENarrow : List Ar → Option Rs
  | [.agg [.d (.v (.bool e0)), .d (.lst 9 n0 f0)], .agg [.d (.v (.bool e1)), .d (.lst 9 n1 f1)]] => some ⟨(n0 ≤ 1099511627776 ∧ RowsOk n0 f0) ∧ (n1 ≤ 1099511627776 ∧ RowsOk n1 f1) ∧ (n0 + n1 ≤ 1099511627776), .va (En.ar (En.narrow (⟨e0, gBs n0 f0⟩ : En) (⟨e1, gBs n1 f1⟩ : En))), []⟩
  | _ => none
set_option maxHeartbeats 4000000 in
set_option maxRecDepth 100000 in
theorem fcENarrow : FC Tryz.prog 47 FENarrow := by
  intro xs pre r us h hp
  unfold FENarrow at h
  split at h
  · rename_i e0 n0 f0 e1 n1 f1
    cases h
    obtain ⟨hp0, hp1, hp2⟩ := hp
    refine FCat.deep (ys := [.agg [.d (.v (.bool e0)), .d (.lst 9 n0 (rwB (gBs n0 f0)))], .agg [.d (.v (.bool e1)), .d (.lst 9 n1 (rwB (gBs n1 f1)))]]) ?_ ?_
    · repeat' (first | exact trivial | exact rfl | exact DvE.refl _ | refine ⟨?_, ?_⟩ | fail)
      all_goals first | first | exact canonB hp0.2.h | exact canonB hp1.2.h
    refine fcat tys_ok (l := [(22, ⟨[], FEClean⟩), (94, ⟨[], (FEZip Vl.narrow QT gNarrow)⟩), (102, ⟨[], FN 1 FVNarrow⟩), (41, ⟨[], FELeq⟩)]) ⟨fcEClean, (fcEZip Vl.narrow QT gNarrow), fc_nil 1 fcVNarrow, fcELeq, trivial⟩ Tryz.func47 rfl (by kernel_rfl) true ?_
    have hn := hp0.1
    have hL := okL_rows hp0.2
    have hlen := gBs_length n0 f0
    generalize gBs n0 f0 = L at *
    clear hp0
    subst hlen
    have hrow := okL_row hL
    have hb := gBs_row L
    have hc := clean_ok (e := ⟨e0, L⟩) hL
    have hcr := okL_row hc
    have hcl := clean_len ⟨e0, L⟩
    have hcs := clean_std ⟨e0, L⟩
    have hcn : (En.clean ⟨e0, L⟩).binds.length ≤ 1099511627776 := Nat.le_trans hcl hn
    have hm := hp1.1
    have hM := okL_rows hp1.2
    have hlen1 := gBs_length n1 f1
    generalize gBs n1 f1 = M at *
    clear hp1
    subst hlen1
    have hrow1 := okL_row hM
    have hb1 := gBs_row M
    have hd := clean_ok (e := ⟨e1, M⟩) hM
    have hdr := okL_row hd
    have hdl := clean_len ⟨e1, M⟩
    have hds := clean_std ⟨e1, M⟩
    have hdn : (En.clean ⟨e1, M⟩).binds.length ≤ 1099511627776 := Nat.le_trans hdl hm
    have hnm : (En.clean ⟨e0, L⟩).binds.length + (En.clean ⟨e1, M⟩).binds.length ≤ 1099511627776 := by
      have h1 : (En.clean ⟨e0, L⟩).binds.length ≤ L.length := hcl
      have h2 : (En.clean ⟨e1, M⟩).binds.length ≤ M.length := hdl
      omega
    repeat' (first | exact trivial | refine ⟨?_, ?_⟩ | intro _)
    all_goals first | (with_reducible show (_ : Int) ≤ _) | (with_reducible show (_ : Int) < _) | (with_reducible show (_ : Nat) ≤ _) | (with_reducible show (_ : Nat) < _) | (conv => whnf)
    all_goals (try simp only [gBs_row, Bool.not_eq_true', Bool.not_eq_false'] at *)
    all_goals first | exact hrow | exact hrow1 | exact hn | exact hm | exact hcr | exact hdr | exact hcn | exact hdn | exact gNarrow_ok | exact qt_ok _ _ | exact hnm | rfl | skip
    all_goals (have hset : En.narrow ⟨e0, L⟩ ⟨e1, M⟩ = if (En.clean ⟨e0, L⟩).live = true then (if (En.clean ⟨e1, M⟩).live = true then (if En.leq (En.clean ⟨e1, M⟩) (En.clean ⟨e0, L⟩) = true then ⟨true, mrg Vl.narrow (En.clean ⟨e0, L⟩).binds (En.clean ⟨e1, M⟩).binds⟩ else En.clean ⟨e0, L⟩) else ⟨false, []⟩) else En.clean ⟨e1, M⟩ := rfl)
    all_goals (generalize En.narrow ⟨e0, L⟩ ⟨e1, M⟩ = R at *; generalize En.clean ⟨e0, L⟩ = A at *; generalize En.clean ⟨e1, M⟩ = B at *)
    all_goals first | (have hl := ‹A.live = false›; rw [hl, if_neg Bool.false_ne_true] at hset; subst hset; rfl) | (have hl := ‹A.live = true›; have hl2 := ‹B.live = false›; rw [hl, if_pos rfl, hl2, if_neg Bool.false_ne_true] at hset; subst hset; rfl) | (have hl := ‹A.live = true›; have hl2 := ‹B.live = true›; have hl3 : En.leq B A = true := ‹_›; rw [hl, if_pos rfl, hl2, if_pos rfl, hl3, if_pos rfl] at hset; subst hset; rfl) | (have hl := ‹A.live = true›; have hl2 := ‹B.live = true›; have hl3 : En.leq B A = false := ‹_›; rw [hl, if_pos rfl, hl2, if_pos rfl, hl3, if_neg Bool.false_ne_true] at hset; subst hset; first | rfl | exact congrArg Value.bool hl | exact congrArg Value.bool hl.symm) | trace_state
  · cases h
end Go.Proofs.YthkknkhpfffnbaaGreat
namespace Go.Proofs.YthkknkhpfffnbaaGreat
set_option linter.all false
open Go.Sx
theorem lk_find (L : List Bd) (s : ByteArray) : lk L s = (L.find? fun b => decide (b.name = s)).map (·.v) := by
  induction L with
  | nil => rfl
  | cons x r ih =>
    rw [lk_cons, List.find?_cons]
    by_cases h : x.name = s
    · rw [if_pos h, decide_eq_true h]; rfl
    · rw [if_neg h, decide_eq_false h]; exact ih
theorem rget_lk (e : En) (s : ByteArray) : e.rget s = ((e.hold s).map Vl.rclean).getD Vl.zero := by
  unfold En.rget En.hold
  split
  · rw [lk_find]; cases List.find? (fun b => decide (b.name = s)) e.binds <;> rfl
  · rfl
theorem mem_names {e : En} {s : ByteArray} : s ∈ e.names ↔ (e.hold s).isSome = true := by
  unfold En.names En.hold
  split
  · rw [cleanS_mem, lk_isSome]
  · simp
theorem names_srt (e : En) : Srt e.names := by
  unfold En.names
  split
  · exact cleanS_srt _
  · exact srt_nil
theorem lk_fun (l : List ByteArray) (g : ByteArray → Vl) (s : ByteArray) : lk (l.map fun n => ⟨n, g n⟩) s = if memS s l = true then some (g s) else none := by
  induction l with
  | nil => rfl
  | cons x r ih =>
    rw [List.map_cons, lk_cons, ih]
    by_cases h : x = s
    · subst h; rw [if_pos rfl, if_pos (memS_iff.2 List.mem_cons_self)]
    · rw [if_neg h]
      by_cases h2 : s ∈ r
      · rw [if_pos (memS_iff.2 h2), if_pos (memS_iff.2 (List.mem_cons_of_mem _ h2))]
      · rw [if_neg (fun h3 => h2 (memS_iff.1 h3)), if_neg]
        intro h3
        rcases List.mem_cons.1 (memS_iff.1 h3) with h4 | h4
        · exact h h4.symm
        · exact h2 h4
theorem rclean_ss (e : En) : SS e.rclean.binds := by
  unfold SS En.rclean
  rw [List.pairwise_map]
  exact names_srt e
theorem rclean_lk (e : En) (s : ByteArray) : lk e.rclean.binds s = (e.hold s).map Vl.rclean := by
  show lk (e.names.map fun n => ⟨n, e.rget n⟩) s = _
  rw [lk_fun]
  by_cases h : s ∈ e.names
  · rw [if_pos (memS_iff.2 h), rget_lk]
    have := mem_names.1 h
    cases hh : e.hold s with
    | none => rw [hh] at this; cases this
    | some v => rfl
  · rw [if_neg (fun h3 => h (memS_iff.1 h3))]
    have := mt mem_names.2 h
    cases hh : e.hold s with
    | none => rfl
    | some v => rw [hh] at this; exact absurd rfl this
theorem of_fun : Vl.of = Vl.rclean := funext of_rclean
theorem clean_rclean (e : En) : e.clean = e.rclean :=
  en_ext (eclean_live e) (clean_ss e) (rclean_ss e) fun s => by rw [clean_lk, rclean_lk, of_fun]
theorem low_split {D : List Bd} (h : SS D) (s : ByteArray) : (∀ b ∈ D.take (lowN D s), kS b.name < kS s) ∧ ∀ b ∈ D.drop (lowN D s), ¬ kS b.name < kS s := by
  induction D with
  | nil => exact ⟨fun b hb => by simp at hb, fun b hb => by simp at hb⟩
  | cons x r ih =>
    have h1 := List.pairwise_cons.1 h
    obtain ⟨i1, i2⟩ := ih h1.2
    cases hc : ltB x ⟨s, Vl.zero⟩ with
    | true =>
      have e : lowN (x :: r) s = lowN r s + 1 := by unfold lowN; rw [List.countP_cons_of_pos (by exact hc)]
      rw [e, List.take_succ_cons, List.drop_succ_cons]
      refine ⟨fun b hb => ?_, i2⟩
      rcases List.mem_cons.1 hb with rfl | hb
      · exact ltB_iff.1 hc
      · exact i1 b hb
    | false =>
      have hx : ¬ kS x.name < kS s := ltB_iff'.1 hc
      have hr : ∀ b ∈ r, ¬ kS b.name < kS s := fun b hb hlt => hx (List.lt_trans (h1.1 b hb) hlt)
      have e : lowN (x :: r) s = 0 := by
        unfold lowN
        rw [List.countP_eq_zero]
        intro b hb
        rcases List.mem_cons.1 hb with rfl | hb
        · rw [hc]; exact Bool.false_ne_true
        · have := (ltB_iff' (a := b) (b := ⟨s, Vl.zero⟩)).2 (hr b hb)
          rw [this]; exact Bool.false_ne_true
      rw [e]
      refine ⟨fun b hb => by simp at hb, fun b hb => ?_⟩
      rcases List.mem_cons.1 hb with rfl | hb
      · exact hx
      · exact hr b hb
theorem found_iff {D : List Bd} {s : ByteArray} : foundN D s = true ↔ lowN D s < D.length ∧ (atB D (lowN D s)).name = s := by
  unfold foundN
  rw [Bool.and_eq_true, decide_eq_true_eq, beq_iff_eq, cfL_eq]
  constructor
  · rintro ⟨h1, h2⟩; exact ⟨h1, kS_inj h2⟩
  · rintro ⟨h1, h2⟩; exact ⟨h1, by rw [h2]⟩
theorem split_at {D : List Bd} {i : Nat} (h : i < D.length) : D = D.take i ++ atB D i :: D.drop (i + 1) := by
  have hd : D.drop i = atB D i :: D.drop (i + 1) := by
    rw [List.drop_eq_getElem_cons h]
    congr 1
    unfold atB; rw [List.getD_eq_getElem?_getD, List.getElem?_eq_getElem h]; rfl
  rw [← hd, List.take_append_drop]
theorem lk_take {D : List Bd} (h : SS D) (s : ByteArray) : lk (D.take (lowN D s)) s = none :=
  lk_none fun b hb e => by have := (low_split h s).1 b hb; rw [e] at this; exact List.lt_irrefl _ this
theorem lk_found {D : List Bd} (h : SS D) (s : ByteArray) : lk D s = if foundN D s = true then some (atB D (lowN D s)).v else none := by
  conv => lhs; rw [← List.take_append_drop (lowN D s) D, lk_append, lk_take h]
  rw [Option.none_or]
  split
  · rename_i hf
    obtain ⟨h1, h2⟩ := found_iff.1 hf
    have e := split_at h1
    have hd : D.drop (lowN D s) = atB D (lowN D s) :: D.drop (lowN D s + 1) := by
      have := congrArg (List.drop (lowN D s)) e
      rw [List.drop_append_of_le_length (by rw [List.length_take]; omega)] at this
      rw [this, List.drop_eq_nil_of_le (by rw [List.length_take]; omega)]; rfl
    rw [hd, lk_cons, if_pos h2]
  · rename_i hf
    by_cases h1 : lowN D s < D.length
    · have e := split_at h1
      have hd : D.drop (lowN D s) = atB D (lowN D s) :: D.drop (lowN D s + 1) := by
        have := congrArg (List.drop (lowN D s)) e
        rw [List.drop_append_of_le_length (by rw [List.length_take]; omega)] at this
        rw [this, List.drop_eq_nil_of_le (by rw [List.length_take]; omega)]; rfl
      have hne : (atB D (lowN D s)).name ≠ s := fun h2 => hf (found_iff.2 ⟨h1, h2⟩)
      have hgt : ¬ kS (atB D (lowN D s)).name < kS s := (low_split h s).2 _ (by rw [hd]; exact List.mem_cons_self)
      have hlt : kS s < kS (atB D (lowN D s)).name := kS_tri hgt hne
      have hss : SS (D.drop (lowN D s)) := List.Pairwise.sublist (List.drop_sublist _ _) h
      rw [hd] at hss ⊢
      rw [lk_cons, if_neg hne, ss_head hss (List.lt_asymm hlt)]
    · rw [List.drop_eq_nil_of_le (by omega)]; rfl
theorem get_lk (e : En) (s : ByteArray) : e.get s = ((e.hold s).map Vl.of).getD Vl.zero := by
  unfold En.get
  have := lk_found (clean_ss e) s
  rw [clean_lk] at this
  rw [this]
  split <;> rfl
theorem get_rget (e : En) (s : ByteArray) : e.get s = e.rget s := by rw [get_lk, rget_lk, of_fun]
theorem ss_names {D E : List Bd} (h : D.map (·.name) = E.map (·.name)) (hs : SS D) : SS E := by
  have h1 : (D.map (·.name)).Pairwise fun a b => kS a < kS b := by rw [List.pairwise_map]; exact hs
  rw [h, List.pairwise_map] at h1
  exact h1
theorem setB_split {D : List Bd} (s : ByteArray) (w : Vl) (hf : foundN D s = true) : setB D s w = D.take (lowN D s) ++ ⟨s, w⟩ :: D.drop (lowN D s + 1) := by
  obtain ⟨h1, h2⟩ := found_iff.1 hf
  unfold setB
  rw [if_pos hf, h2]
  exact List.set_eq_take_append_cons_drop .. |>.trans (if_pos h1)
theorem setB_ss {D : List Bd} (h : SS D) (s : ByteArray) (w : Vl) : SS (setB D s w) := by
  by_cases hf : foundN D s = true
  · obtain ⟨h1, h2⟩ := found_iff.1 hf
    rw [setB_split s w hf]
    refine ss_names ?_ h
    conv => lhs; rw [split_at h1]
    simp [h2]
  · unfold setB
    rw [if_neg hf]
    obtain ⟨l1, l2⟩ := low_split h s
    have h0 := h
    rw [← List.take_append_drop (lowN D s) D] at h0
    obtain ⟨p1, p2, p3⟩ := List.pairwise_append.1 h0
    have hne : ∀ b ∈ D.drop (lowN D s), b.name ≠ s := by
      intro b hb e
      have hk := lk_found h s
      rw [if_neg hf] at hk
      have := lk_of_mem h (List.mem_of_mem_drop hb)
      rw [e, hk] at this; cases this
    refine List.pairwise_append.2 ⟨p1, List.pairwise_cons.2 ⟨fun b hb => kS_tri (l2 b hb) (hne b hb), p2⟩, fun a ha b hb => ?_⟩
    rcases List.mem_cons.1 hb with rfl | hb
    · exact l1 a ha
    · exact p3 a ha b hb
theorem setB_lk {D : List Bd} (h : SS D) (s : ByteArray) (w : Vl) (t : ByteArray) : lk (setB D s w) t = if s = t then some w else lk D t := by
  by_cases hf : foundN D s = true
  · obtain ⟨h1, h2⟩ := found_iff.1 hf
    rw [setB_split s w hf, lk_append, lk_cons]
    by_cases e : s = t
    · subst e; rw [if_pos rfl, if_pos rfl, lk_take h]; rfl
    · rw [if_neg e, if_neg e]
      conv => rhs; rw [split_at h1, lk_append, lk_cons, if_neg (by rw [h2]; exact e)]
  · unfold setB
    rw [if_neg hf, lk_append, lk_cons]
    by_cases e : s = t
    · subst e; rw [if_pos rfl, if_pos rfl, lk_take h]; rfl
    · rw [if_neg e, if_neg e, ← lk_append, List.take_append_drop]
end Go.Proofs.YthkknkhpfffnbaaGreat
namespace Go.Proofs.YthkknkhpfffnbaaGreat
set_option linter.all false
open Go.Sx
namespace En
def rleq (a b : En) : Bool := if a.live = true then ((a.names.all fun n => Vl.rleq (a.rget n) (b.rget n)) && b.live) else true
def bothS (a b : En) : List ByteArray := b.names.foldl putS a.names
def vop (op : Int) (l : List Int) (x y : Vl) : Vl := if op = 2 then Vl.rnarrow x y else if op = 1 then Vl.rwiden x y l else Vl.rjoin x y
def rop (op : Int) (a b : En) (l : List Int) : En :=
  if a.live = true then (if b.live = true then (if op = 2 then (if En.rleq b a = true then ⟨true, (bothS a b).map fun n => ⟨n, vop op l (a.rget n) (b.rget n)⟩⟩ else a.rclean) else ⟨true, (bothS a b).map fun n => ⟨n, vop op l (a.rget n) (b.rget n)⟩⟩)
    else if op = 2 then ⟨false, []⟩ else a.rclean) else b.rclean
end En
theorem rget_ok {e : En} (h : okL e.binds) (s : ByteArray) : okV (En.rget e s) := by
  rw [← get_rget]; exact get_ok h s
theorem nbT {x : Bool} (h : (!x) = false) : x = true := by cases x; cases h; rfl
theorem all_at {p : ByteArray → Bool} {l : List ByteArray} (h : ∀ k, k < l.length → p (atS l k) = true) : l.all p = true := by
  rw [List.all_eq_true]
  intro x hx
  obtain ⟨k, hk, e⟩ := List.mem_iff_getElem.1 hx
  have := h k hk
  unfold atS at this
  rw [List.getD_eq_getElem?_getD, List.getElem?_eq_getElem hk] at this
  rw [← e]; exact this
theorem all_not {p : ByteArray → Bool} {l : List ByteArray} {k : Nat} (hk : k < l.length) (h : p (atS l k) = false) : l.all p = false := by
  rw [List.all_eq_false]
  refine ⟨l[k], List.getElem_mem hk, ?_⟩
  unfold atS at h
  rw [List.getD_eq_getElem?_getD, List.getElem?_eq_getElem hk] at h
  rw [show l[k] = (some l[k]).getD ByteArray.empty from rfl, h]; exact Bool.false_ne_true
def FRELeq : List Ar → Option Rs
  | [.agg [.d (.v (.bool e0)), .d (.lst 9 n0 f0)], .agg [.d (.v (.bool e1)), .d (.lst 9 n1 f1)]] => some ⟨(n0 ≤ 1099511627776 ∧ RowsOk n0 f0) ∧ (n1 ≤ 1099511627776 ∧ RowsOk n1 f1), .va (.c (.d (bo (En.rleq (⟨e0, gBs n0 f0⟩ : En) (⟨e1, gBs n1 f1⟩ : En))))), []⟩
  | _ => none
set_option maxHeartbeats 3000000 in
set_option maxRecDepth 100000 in
theorem fcRELeq : FC Tryz.prog 42 FRELeq := by
  intro xs pre r us h hp
  unfold FRELeq at h
  split at h
  · rename_i e0 n0 f0 e1 n1 f1
    cases h
    obtain ⟨hp0, hp1⟩ := hp
    refine FCat.deep (ys := [.agg [.d (.v (.bool e0)), .d (.lst 9 n0 (rwB (gBs n0 f0)))], .agg [.d (.v (.bool e1)), .d (.lst 9 n1 (rwB (gBs n1 f1)))]]) ?_ ?_
    · repeat' (first | exact trivial | exact rfl | exact DvE.refl _ | refine ⟨?_, ?_⟩ | fail)
      all_goals first | first | exact canonB hp0.2.h | exact canonB hp1.2.h
    refine fcat tys_ok (l := [(66, ⟨[], FRNames⟩), (25, ⟨[], FRGet⟩), (83, ⟨[], FRVLeq⟩)]) ⟨fcRNames, fcRGet, fcRVLeq, trivial⟩ Tryz.func42 rfl (by kernel_rfl) true ?_
    have hn := hp0.1
    have hL := okL_rows hp0.2
    have hlen := gBs_length n0 f0
    generalize gBs n0 f0 = L at *
    clear hp0
    subst hlen
    have hrow := okL_row hL
    have hb := gBs_row L
    have hm := hp1.1
    have hM := okL_rows hp1.2
    have hlen1 := gBs_length n1 f1
    generalize gBs n1 f1 = M at *
    clear hp1
    subst hlen1
    have hrow1 := okL_row hM
    have hb1 := gBs_row M
    repeat' (first | exact trivial | refine ⟨?_, ?_⟩ | intro _)
    all_goals first | (with_reducible show (_ : Int) ≤ _) | (with_reducible show (_ : Int) < _) | (with_reducible show (_ : Nat) ≤ _) | (with_reducible show (_ : Nat) < _) | (conv => whnf)
    all_goals first | exact hn | exact hrow | skip
    all_goals (simp only [hb, hb1] at *)
    · obtain rfl : e0 = false := by simpa using ‹(!e0) = true›
      rfl
    obtain rfl : e0 = true := by simpa using ‹(!e0) = false›
    have hnl := names_len ⟨true, L⟩
    have hset : En.rleq ⟨true, L⟩ ⟨e1, M⟩ = ((En.names ⟨true, L⟩).all (fun n => Vl.rleq (En.rget ⟨true, L⟩ n) (En.rget ⟨e1, M⟩ n)) && e1) := rfl
    generalize En.rleq ⟨true, L⟩ ⟨e1, M⟩ = R at *
    generalize hNL : En.names ⟨true, L⟩ = NL at *
    refine loop_ids tys_ok (l := [(66, ⟨[], FRNames⟩), (25, ⟨[], FRGet⟩), (83, ⟨[], FRVLeq⟩)]) ⟨fcRNames, fcRGet, fcRVLeq, trivial⟩ (by kernel_rfl) (X := Nat)
      (fun x => ⟨[(6, vx (.int .i64 x)), (5, .va (.c (.d (lst NL)))), (2, .va (.c (.own 0 0))), (3, .va (.c (.own 1 0)))], [(0, .cells [.d (bo true), .d (.lst 9 L.length (rwB L))]), (1, .cells [.d (bo e1), .d (.lst 9 M.length (rwB M))])], 2, 34⟩)
      (fun x => NL.length - x) (fun x => x ≤ NL.length ∧ ∀ k, k < x → Vl.rleq (En.rget ⟨true, L⟩ (atS NL k)) (En.rget ⟨e1, M⟩ (atS NL k)) = true) [] []
      (fun x _ _ => x + 1) (fun _ => [0, 1]) [0, 1] 0 0 0 ?_ ?_ ?_
    · exact ⟨Nat.zero_le _, fun k h => absurd h (Nat.not_lt_zero k)⟩
    · repeat' (first | exact trivial | exact rfl | (intro _ h; exact absurd h (Nat.not_lt_zero _)) | (intro _ _; exact rfl) | refine ⟨?_, ?_⟩ | fail)
    · rintro i ⟨k1, k2⟩
      rcases Nat.lt_or_ge i NL.length with hi | hi
      · have hne : decide ((i : Int) < (NL.length : Int)) = true := decide_eq_true (by omega)
        have ho1 := rget_ok (e := ⟨true, L⟩) hL (atS NL i)
        have ho2 := rget_ok (e := ⟨e1, M⟩) hM (atS NL i)
        have hq := ho1.2
        have hq2 := ho2.2
        simp only [Sp.inR, Cg.inR] at hq hq2
        have hal := @all_not (fun n => Vl.rleq (En.rget ⟨true, L⟩ n) (En.rget ⟨e1, M⟩ n)) NL i hi
        repeat' (first | exact trivial | (with_reducible exact (fun h => absurd (hne.symm.trans h) (by decide))) | refine ⟨?_, ?_⟩ | intro _)
        all_goals first | (with_reducible show (_ : Int) ≤ _) | (with_reducible show (_ : Int) < _) | (with_reducible show (_ : Nat) ≤ _) | (with_reducible show (_ : Nat) < _) | (conv => whnf)
        all_goals (try simp only [Int.toNat_natCast, Nat.zero_add, gN_lst, hb, hb1, gBs_row] at *)
        all_goals first | omega | rfl | exact hn | exact hm | exact hrow | exact hrow1 | ((with_reducible show idsOk _ _ = true); rfl) | exact ho1.1.1 | exact ho2.1.1 | (exact congrArg (Value.int .i64) (by first | (rw [wI_id _ (by omega) (by omega)]; omega) | omega | (dsimp only; omega))) | skip
        all_goals first | (rw [hset, hal (by simpa using ‹(!Vl.rleq _ _) = true›)]; rfl) | (rename_i k hk _ hf; rcases Nat.lt_or_ge k i with hki | hki; exact k2 k hki; rw [show k = i by omega]; exact nbT hf) | trace_state
      · have hne : decide ((i : Int) < (NL.length : Int)) = false := decide_eq_false (by omega)
        obtain rfl : i = NL.length := by omega
        repeat' (first | exact trivial | (with_reducible exact (fun h => absurd (hne.symm.trans h) (by decide))) | refine ⟨?_, ?_⟩ | intro _)
        all_goals first | (with_reducible show (_ : Int) ≤ _) | (with_reducible show (_ : Int) < _) | (with_reducible show (_ : Nat) ≤ _) | (with_reducible show (_ : Nat) < _) | (conv => whnf)
        all_goals (rw [hset, all_at k2]; rfl)
  · cases h
theorem foldl_putS_len (l : List ByteArray) : ∀ s : List ByteArray, (l.foldl putS s).length ≤ s.length + l.length := by
  induction l with
  | nil => intro s; exact Nat.le_refl _
  | cons x r ih => intro s; have h1 := ih (putS s x); have h2 := putS_len s x; simp only [List.foldl_cons, List.length_cons]; omega
def btP (s l : List ByteArray) (i : Nat) : List ByteArray := (l.take i).foldl putS s
theorem btP_succ {s l : List ByteArray} {i : Nat} (h : i < l.length) : btP s l (i + 1) = putS (btP s l i) (atS l i) := by
  unfold btP
  rw [List.take_succ_eq_append_getElem h, List.foldl_append]
  unfold atS; rw [List.getD_eq_getElem?_getD, List.getElem?_eq_getElem h]; rfl
theorem btP_all (s l : List ByteArray) : btP s l l.length = l.foldl putS s := by unfold btP; rw [List.take_length]
theorem btP_len (s l : List ByteArray) (i : Nat) : (btP s l i).length ≤ s.length + i := by
  have := foldl_putS_len (l.take i) s
  unfold btP; rw [List.length_take] at this; omega
theorem both_len (a b : En) : (En.bothS a b).length ≤ a.binds.length + b.binds.length := by
  have h1 := foldl_putS_len b.names a.names
  have h2 := names_len a
  have h3 := names_len b
  unfold En.bothS; omega
def FRBoth : List Ar → Option Rs
  | [.agg [.d (.v (.bool e0)), .d (.lst 9 n0 f0)], .agg [.d (.v (.bool e1)), .d (.lst 9 n1 f1)]] => some ⟨(n0 ≤ 1099511627776 ∧ RowsOk n0 f0) ∧ (n1 ≤ 1099511627776 ∧ RowsOk n1 f1) ∧ (n0 + n1 ≤ 1099511627776), .va (.c (.d (lst (En.bothS (⟨e0, gBs n0 f0⟩ : En) (⟨e1, gBs n1 f1⟩ : En))))), []⟩
  | _ => none
set_option maxHeartbeats 3000000 in
set_option maxRecDepth 100000 in
theorem fcRBoth : FC Tryz.prog 96 FRBoth := by
  intro xs pre r us h hp
  unfold FRBoth at h
  split at h
  · rename_i e0 n0 f0 e1 n1 f1
    cases h
    obtain ⟨hp0, hp1, hp2⟩ := hp
    refine FCat.deep (ys := [.agg [.d (.v (.bool e0)), .d (.lst 9 n0 (rwB (gBs n0 f0)))], .agg [.d (.v (.bool e1)), .d (.lst 9 n1 (rwB (gBs n1 f1)))]]) ?_ ?_
    · repeat' (first | exact trivial | exact rfl | exact DvE.refl _ | refine ⟨?_, ?_⟩ | fail)
      all_goals first | first | exact canonB hp0.2.h | exact canonB hp1.2.h
    refine fcat tys_ok (l := [(66, ⟨[], FRNames⟩), (120, ⟨[], FRPut⟩)]) ⟨fcRNames, fcRPut, trivial⟩ Tryz.func96 rfl (by kernel_rfl) true ?_
    have hn := hp0.1
    have hL := okL_rows hp0.2
    have hlen := gBs_length n0 f0
    generalize gBs n0 f0 = L at *
    clear hp0
    subst hlen
    have hrow := okL_row hL
    have hb := gBs_row L
    have hm := hp1.1
    have hM := okL_rows hp1.2
    have hlen1 := gBs_length n1 f1
    generalize gBs n1 f1 = M at *
    clear hp1
    subst hlen1
    have hrow1 := okL_row hM
    have hb1 := gBs_row M
    repeat' (first | exact trivial | refine ⟨?_, ?_⟩ | intro _)
    all_goals first | (with_reducible show (_ : Int) ≤ _) | (with_reducible show (_ : Int) < _) | (with_reducible show (_ : Nat) ≤ _) | (with_reducible show (_ : Nat) < _) | (conv => whnf)
    all_goals first | exact hn | exact hrow | exact hm | exact hrow1 | skip
    all_goals (simp only [hb, hb1] at *)
    have hnl := names_len ⟨e0, L⟩
    have hnl2 := names_len ⟨e1, M⟩
    have hset : En.bothS ⟨e0, L⟩ ⟨e1, M⟩ = btP (En.names ⟨e0, L⟩) (En.names ⟨e1, M⟩) (En.names ⟨e1, M⟩).length := (btP_all _ _).symm
    generalize En.bothS ⟨e0, L⟩ ⟨e1, M⟩ = R at *
    generalize hNL : En.names ⟨e0, L⟩ = NL at *
    generalize hNM : En.names ⟨e1, M⟩ = NM at *
    have hnl3 : NL.length ≤ L.length := hnl
    have hnl4 : NM.length ≤ M.length := hnl2
    refine loop_ids tys_ok (l := [(66, ⟨[], FRNames⟩), (120, ⟨[], FRPut⟩)]) ⟨fcRNames, fcRPut, trivial⟩ (by kernel_rfl) (X := Nat × List ByteArray)
      (fun x => ⟨[(7, vx (.int .i64 x.1)), (5, .va (.c (.d (lst x.2)))), (6, .va (.c (.d (lst NM))))], [], 2, 25⟩)
      (fun x => NM.length - x.1) (fun x => x.1 ≤ NM.length ∧ x.2 = btP NL NM x.1) [] []
      (fun x _ _ => (x.1 + 1, putS x.2 (atS NM x.1))) (fun _ => [0, 1]) [0, 1] 0 0 (0, NL) ?_ ?_ ?_
    · exact ⟨Nat.zero_le _, rfl⟩
    · repeat' (first | exact trivial | exact rfl | (intro _ h; exact absurd h (Nat.not_lt_zero _)) | (intro _ _; exact rfl) | refine ⟨?_, ?_⟩ | fail)
    · rintro ⟨i, l⟩ ⟨k1, k2⟩
      dsimp only at k1 k2
      have k3 := btP_len NL NM i
      rw [← k2] at k3
      rcases Nat.lt_or_ge i NM.length with hi | hi
      · have hne : decide ((i : Int) < (NM.length : Int)) = true := decide_eq_true (by omega)
        have k5 := btP_succ (s := NL) hi
        rw [← k2] at k5
        repeat' (first | exact trivial | (with_reducible exact (fun h => absurd (hne.symm.trans h) (by decide))) | refine ⟨?_, ?_⟩ | intro _)
        all_goals first | (with_reducible show (_ : Int) ≤ _) | (with_reducible show (_ : Int) < _) | (with_reducible show (_ : Nat) ≤ _) | (with_reducible show (_ : Nat) < _) | (conv => whnf)
        all_goals (try simp only [Int.toNat_natCast, Nat.zero_add, gN_lst] at *)
        all_goals first | omega | rfl | ((with_reducible show idsOk _ _ = true); rfl) | exact k5.symm | (exact congrArg (Value.int .i64) (by first | (rw [wI_id _ (by omega) (by omega)]; omega) | omega | (dsimp only; omega))) | trace_state
      · have hne : decide ((i : Int) < (NM.length : Int)) = false := decide_eq_false (by omega)
        obtain rfl : i = NM.length := by omega
        subst k2
        repeat' (first | exact trivial | (with_reducible exact (fun h => absurd (hne.symm.trans h) (by decide))) | refine ⟨?_, ?_⟩ | intro _)
        all_goals first | (with_reducible show (_ : Int) ≤ _) | (with_reducible show (_ : Int) < _) | (with_reducible show (_ : Nat) ≤ _) | (with_reducible show (_ : Nat) < _) | (conv => whnf)
        all_goals (try rw [hset])
        all_goals first | rfl | trace_state
  · cases h
theorem rget_mem (e : En) (s : ByteArray) : (∃ y ∈ e.binds, (En.rget e s).t.names.length ≤ y.v.t.names.length) ∨ En.rget e s = Vl.zero := by
  rw [rget_lk]
  cases hh : e.hold s with
  | none => exact .inr rfl
  | some v =>
    left
    unfold En.hold at hh
    split at hh
    · refine ⟨⟨s, v⟩, lk_mem hh, ?_⟩
      show (Vl.rclean v).t.names.length ≤ v.t.names.length
      rw [← of_rclean, of_names]; exact ofS_len _
    · cases hh
theorem rget_qj {a b : En} (h : Room a.binds b.binds) (s : ByteArray) : QJ (En.rget a s) (En.rget b s) := by
  unfold QJ
  rcases rget_mem a s with ⟨x, hx, e1⟩ | e1
  · rcases rget_mem b s with ⟨y, hy, e2⟩ | e2
    · have := h.both x hx y hy; unfold QJ at this; omega
    · have := h.left x hx; unfold QJ at this; rw [e2]; omega
  · rcases rget_mem b s with ⟨y, hy, e2⟩ | e2
    · have := h.right y hy; unfold QJ at this; rw [e1]; omega
    · rw [e1, e2]; decide
theorem okV_rj {x y : Vl} (hx : okV x) (hy : okV y) (hq : QJ x y) : okV (Vl.rjoin x y) := by
  have h := hx; have h' := hy
  unfold okV at hx hy
  refine ⟨⟨?_, fun _ _ => rfl⟩, ?_⟩
  · show (Vl.rjoin x y).t.names.length * 16 ≤ 140737488351232
    unfold Vl.rjoin
    have h1 : (cleanS (cleanS x.t.names ++ cleanS y.t.names)).length ≤ x.t.names.length + y.t.names.length := by
      have a1 := ofS_len (cleanS x.t.names ++ cleanS y.t.names)
      have a2 := ofS_len x.t.names
      have a3 := ofS_len y.t.names
      rw [ofS_eq] at a1 a2 a3
      rw [List.length_append] at a1; omega
    unfold QJ at hq
    dsimp only; omega
  · rw [← Vl.join_eq]
    have hxi := Vl.of_inR (v := x) ⟨hx.2.1, hx.2.2⟩
    have hyi := Vl.of_inR (v := y) ⟨hy.2.1, hy.2.2⟩
    exact ⟨Sp.join_inR hxi.1 hyi.1, Cg.join_inR hxi.2 hyi.2⟩
theorem okV_rw {x y : Vl} {l : List Int} (hx : okV x) (hy : okV y) (hq : QJ x y) (hl : ∀ z, z ∈ l → rI z) : okV (Vl.rwiden x y l) := by
  have hj := okV_rj hx hy hq
  unfold okV at hx hy hj
  have hxi := Vl.of_inR (v := x) ⟨hx.2.1, hx.2.2⟩
  have hyi := Vl.of_inR (v := y) ⟨hy.2.1, hy.2.2⟩
  rw [← widen_eq]
  rw [← Vl.join_eq] at hj
  exact ⟨⟨hj.1.1, fun _ _ => rfl⟩, Sp.widen_inR hxi.1 hyi.1 hl, Cg.join_inR hxi.2 hyi.2⟩
theorem okV_rn {x y : Vl} (hx : okV x) (hy : okV y) : okV (Vl.rnarrow x y) := by
  have h := okV_of hx
  unfold okV at hx hy h
  have hxi := Vl.of_inR (v := x) ⟨hx.2.1, hx.2.2⟩
  have hyi := Vl.of_inR (v := y) ⟨hy.2.1, hy.2.2⟩
  rw [← narrow_eq, Vl.narrow_cases]
  split
  · exact okV_of (by unfold okV; exact hx)
  · split
    · exact okV_zero
    · refine ⟨⟨h.1.1, fun _ _ => rfl⟩, ?_⟩
      refine Ig.clean_inR (Sp.narrow_inR hxi.1 hyi.1) ?_
      split
      · exact hyi.2
      · exact hxi.2
theorem vop_join {op : Int} {l : List Int} {x y : Vl} (h1 : (op == 1) = false) (h2 : (op == 2) = false) : En.vop op l x y = Vl.rjoin x y := by
  unfold En.vop; rw [if_neg (by simpa using h2), if_neg (by simpa using h1)]
theorem vop_widen {op : Int} {l : List Int} {x y : Vl} (h1 : (op == 1) = true) (h2 : (op == 2) = false) : En.vop op l x y = Vl.rwiden x y l := by
  unfold En.vop; rw [if_neg (by simpa using h2), if_pos (by simpa using h1)]
theorem vop_narrow {op : Int} {l : List Int} {x y : Vl} (h2 : (op == 2) = true) : En.vop op l x y = Vl.rnarrow x y := by
  unfold En.vop; rw [if_pos (by simpa using h2)]
theorem rop_loop {op : Int} {a b : En} {l : List Int} (ha : a.live = true) (hb : b.live = true) (h : (op == 2) = true → En.rleq b a = true) : En.rop op a b l = ⟨true, (En.bothS a b).map fun n => ⟨n, En.vop op l (a.rget n) (b.rget n)⟩⟩ := by
  unfold En.rop
  rw [if_pos ha, if_pos hb]
  split
  · rename_i h2; rw [if_pos (h (by simpa using h2))]
  · rfl
theorem row_gen {L : List Bd} {BL : List Bd} {i k : Nat} {g : Nat → List DV} (hg : g 0 = bdC (atB BL i)) (hk : k < i + 1) : appRow i (rwB BL) g k = rwB BL k := by
  unfold appRow
  split
  · rfl
  · rw [show k = i by omega, Nat.sub_self, hg]
def FROp : List Ar → Option Rs
  | [.c (.d (.v (.int .i64 i0))), .agg [.d (.v (.bool e1)), .d (.lst 9 n1 f1)], .agg [.d (.v (.bool e2)), .d (.lst 9 n2 f2)], .c (.d (.lst 1 n3 f3))] => some ⟨(-9223372036854775808 ≤ i0 ∧ i0 < 9223372036854775808) ∧ (n1 ≤ 1099511627776 ∧ RowsOk n1 f1) ∧ (n2 ≤ 1099511627776 ∧ RowsOk n2 f2) ∧ (n3 ≤ 9223372036854775807 ∧ ∀ i, i < n3 → f3 i = [it (gI (f3 i))] ∧ rI (gI (f3 i))) ∧ (Room (gBs n1 f1) (gBs n2 f2) ∧ n1 + n2 ≤ 1099511627776), .va (En.ar (En.rop i0 (⟨e1, gBs n1 f1⟩ : En) (⟨e2, gBs n2 f2⟩ : En) (gL n3 f3))), []⟩
  | _ => none
set_option maxHeartbeats 6000000 in
set_option maxRecDepth 100000 in
theorem fcROp : FC Tryz.prog 45 FROp := by
  intro xs pre r us h hp
  unfold FROp at h
  split at h
  · rename_i i0 e1 n1 f1 e2 n2 f2 n3 f3
    cases h
    obtain ⟨hp0, hp1, hp2, hp3, hp4⟩ := hp
    refine FCat.deep (ys := [.c (.d (.v (.int .i64 i0))), .agg [.d (.v (.bool e1)), .d (.lst 9 n1 (rwB (gBs n1 f1)))], .agg [.d (.v (.bool e2)), .d (.lst 9 n2 (rwB (gBs n2 f2)))], .c (.d (.lst 1 n3 fun i => [it (gI (f3 i))]))]) ?_ ?_
    · repeat' (first | exact trivial | exact rfl | exact DvE.refl _ | refine ⟨?_, ?_⟩ | fail)
      all_goals first | first | exact canonB hp1.2.h | exact canonB hp2.2.h | (exact .rows fun i hi => by rw [(hp3.2 i hi).1]; exact ⟨rfl, fun j a b ha hb => by have hb : [it (gI (f3 i))][j]? = some b := hb; rw [ha] at hb; cases hb; exact .refl _⟩)
    refine fcat tys_ok (l := [(20, ⟨[], FREClean⟩), (42, ⟨[], FRELeq⟩), (96, ⟨[], FRBoth⟩), (25, ⟨[], FRGet⟩), (97, ⟨[], FRVJoin⟩), (98, ⟨[], FRVWiden⟩), (99, ⟨[], FRVNarrow⟩)]) ⟨fcREClean, fcRELeq, fcRBoth, fcRGet, fcRVJoin, fcRVWiden, fcRVNarrow, trivial⟩ Tryz.func45 rfl (by kernel_rfl) true ?_
    obtain ⟨hroom, hsum⟩ := hp4
    have hn := hp1.1
    have hL := okL_rows hp1.2
    have hlen := gBs_length n1 f1
    generalize gBs n1 f1 = L at *
    clear hp1
    subst hlen
    have hrow := okL_row hL
    have hb := gBs_row L
    have hm := hp2.1
    have hM := okL_rows hp2.2
    have hlen1 := gBs_length n2 f2
    generalize gBs n2 f2 = M at *
    clear hp2
    subst hlen1
    have hrow1 := okL_row hM
    have hb1 := gBs_row M
    cases e1 with
    | false =>
      have hset : En.rop i0 ⟨false, L⟩ ⟨e2, M⟩ (gL n3 f3) = En.rclean ⟨e2, M⟩ := by
        unfold En.rop
        rw [if_neg Bool.false_ne_true]
      generalize En.rop i0 ⟨false, L⟩ ⟨e2, M⟩ (gL n3 f3) = R at *
      subst hset
      repeat' (first | exact trivial | (with_reducible exact (fun h => absurd (h : (!true) = true) (by decide))) | (with_reducible exact (fun h => absurd (h : (!false) = false) (by decide))) | refine ⟨?_, ?_⟩ | intro _)
      all_goals first | (with_reducible show (_ : Int) ≤ _) | (with_reducible show (_ : Int) < _) | (with_reducible show (_ : Nat) ≤ _) | (with_reducible show (_ : Nat) < _) | (conv => whnf)
      all_goals (try simp only [gBs_row] at *)
      all_goals first | exact hn | exact hrow | exact hm | exact hrow1 | exact ⟨hn, hrow⟩ | exact ⟨hm, hrow1⟩ | rfl | trace_state
    | true =>
      cases h2 : (i0 == 2) with
      | true =>
        cases e2 with
        | false =>
          have hset : En.rop i0 ⟨true, L⟩ ⟨false, M⟩ (gL n3 f3) = ⟨false, []⟩ := by
            unfold En.rop
            rw [if_pos rfl, if_neg Bool.false_ne_true, if_pos (by simpa using h2)]
          generalize En.rop i0 ⟨true, L⟩ ⟨false, M⟩ (gL n3 f3) = R at *
          subst hset
          repeat' (first | exact trivial | (with_reducible exact (fun h => absurd (h2.symm.trans h) (by decide))) | (with_reducible exact (fun h => absurd (h : (!true) = true) (by decide))) | (with_reducible exact (fun h => absurd (h : (!false) = false) (by decide))) | refine ⟨?_, ?_⟩ | intro _)
          all_goals first | (with_reducible show (_ : Int) ≤ _) | (with_reducible show (_ : Int) < _) | (with_reducible show (_ : Nat) ≤ _) | (with_reducible show (_ : Nat) < _) | (conv => whnf)
          all_goals (try simp only [gBs_row] at *)
          all_goals first | exact hn | exact hrow | exact hm | exact hrow1 | exact ⟨hn, hrow⟩ | exact ⟨hm, hrow1⟩ | rfl | trace_state
        | true =>
          cases hq : En.rleq ⟨true, M⟩ ⟨true, L⟩ with
          | false =>
            have hq' : (!En.rleq ⟨true, gBs M.length (rwB M)⟩ ⟨true, gBs L.length (rwB L)⟩) = true := by rw [gBs_row, gBs_row, hq]; rfl
            have hset : En.rop i0 ⟨true, L⟩ ⟨true, M⟩ (gL n3 f3) = En.rclean ⟨true, L⟩ := by
              unfold En.rop
              rw [if_pos rfl, if_pos rfl, if_pos (by simpa using h2), hq, if_neg Bool.false_ne_true]
            generalize En.rop i0 ⟨true, L⟩ ⟨true, M⟩ (gL n3 f3) = R at *
            subst hset
            repeat' (first | exact trivial | (with_reducible exact (fun h => absurd (h2.symm.trans h) (by decide))) | (with_reducible exact (fun h => absurd (hq'.symm.trans h) (by decide))) | (with_reducible exact (fun h => absurd (h : (!true) = true) (by decide))) | (with_reducible exact (fun h => absurd (h : (!false) = false) (by decide))) | refine ⟨?_, ?_⟩ | intro _)
            all_goals first | (with_reducible show (_ : Int) ≤ _) | (with_reducible show (_ : Int) < _) | (with_reducible show (_ : Nat) ≤ _) | (with_reducible show (_ : Nat) < _) | (conv => whnf)
            all_goals (try simp only [gBs_row] at *)
            all_goals first | exact hn | exact hrow | exact hm | exact hrow1 | exact ⟨hn, hrow⟩ | exact ⟨hm, hrow1⟩ | rfl | trace_state
          | true =>
            have hq' : (!En.rleq ⟨true, gBs M.length (rwB M)⟩ ⟨true, gBs L.length (rwB L)⟩) = false := by rw [gBs_row, gBs_row, hq]; rfl
            repeat' (first | exact trivial | (with_reducible exact (fun h => absurd (h2.symm.trans h) (by decide))) | (with_reducible exact (fun h => absurd (hq'.symm.trans h) (by decide))) | (with_reducible exact (fun h => absurd (h : (!true) = true) (by decide))) | (with_reducible exact (fun h => absurd (h : (!false) = false) (by decide))) | refine ⟨?_, ?_⟩ | intro _)
            all_goals first | (with_reducible show (_ : Int) ≤ _) | (with_reducible show (_ : Int) < _) | (with_reducible show (_ : Nat) ≤ _) | (with_reducible show (_ : Nat) < _) | (conv => whnf)
            all_goals (try simp only [gBs_row] at *)
            all_goals first | exact hn | exact hrow | exact hm | exact hrow1 | exact ⟨hn, hrow⟩ | exact ⟨hm, hrow1⟩ | exact hsum | skip
            have hbl := both_len ⟨true, L⟩ ⟨true, M⟩
            have hrl := rop_loop (op := i0) (a := ⟨true, L⟩) (b := ⟨true, M⟩) (l := gL n3 f3) rfl rfl (fun _ => hq)
            generalize En.rop i0 ⟨true, L⟩ ⟨true, M⟩ (gL n3 f3) = R at *
            subst hrl
            generalize hNL : En.bothS ⟨true, L⟩ ⟨true, M⟩ = NL at *
            generalize hBL : (NL.map fun n => (⟨n, En.vop i0 (gL n3 f3) (En.rget ⟨true, L⟩ n) (En.rget ⟨true, M⟩ n)⟩ : Bd)) = BL at *
            have hBl : BL.length = NL.length := by rw [← hBL, List.length_map]
            have hBa : ∀ i, i < NL.length → atB BL i = ⟨atS NL i, En.vop i0 (gL n3 f3) (En.rget ⟨true, L⟩ (atS NL i)) (En.rget ⟨true, M⟩ (atS NL i))⟩ := by
              intro i hi
              rw [← hBL]
              unfold atB atS
              simp [List.getD_eq_getElem?_getD, hi]
            refine loop_ids tys_ok (l := [(20, ⟨[], FREClean⟩), (42, ⟨[], FRELeq⟩), (96, ⟨[], FRBoth⟩), (25, ⟨[], FRGet⟩), (97, ⟨[], FRVJoin⟩), (98, ⟨[], FRVWiden⟩), (99, ⟨[], FRVNarrow⟩)]) ⟨fcREClean, fcRELeq, fcRBoth, fcRGet, fcRVJoin, fcRVWiden, fcRVNarrow, trivial⟩ (by kernel_rfl) (X := Nat)
              (fun x => ⟨[(11, vx (.int .i64 x)), (10, .va (.c (.d (lst NL)))), (0, vx (.int .i64 i0)), (3, .va (.c (.d (.lst 1 n3 fun i => [it (gI (f3 i))])))), (5, .va (.c (.own 0 0))), (6, .va (.c (.own 1 0))), (8, .va (.c (.own 2 0))), (9, .va (.c (.own 3 0)))], [(0, .cells [.d (bo true), .d (.lst 9 L.length (rwB L))]), (1, .cells [.d (bo true), .d (.lst 9 M.length (rwB M))]), (2, .cells [.d (bo false), .d (.v (.slice none 0 0))]), (3, .cells [.d (bo true), .osl 4 9 0 x]), (4, .row 9 x (rwB BL))], 5, 91⟩)
              (fun x => NL.length - x) (fun x => x ≤ NL.length) [88] []
              (fun x _ _ => x + 1) (fun xs => match xs with | [t] => [0, 1, 2, 3, oI t] | _ => []) [0, 1, 2, 3] 0 1 0 ?_ ?_ ?_
            · exact Nat.zero_le _
            · repeat' (first | exact trivial | exact rfl | (intro _ h; exact absurd h (Nat.not_lt_zero _)) | (intro _ _; exact rfl) | refine ⟨?_, ?_⟩ | fail)
              all_goals first | (simp; done) | trace_state
            · rintro i k1
              rcases Nat.lt_or_ge i NL.length with hi | hi
              · have hne : decide ((i : Int) < (NL.length : Int)) = true := decide_eq_true (by omega)
                have ho1 := rget_ok (e := ⟨true, L⟩) hL (atS NL i)
                have ho2 := rget_ok (e := ⟨true, M⟩) hM (atS NL i)
                have hq := ho1.2
                have hq2 := ho2.2
                have hqj := rget_qj (a := ⟨true, L⟩) (b := ⟨true, M⟩) hroom (atS NL i)
                have hrow2 := @row_gen L BL i
                rw [hBa i hi, vop_narrow h2] at hrow2
                simp only [Sp.inR, Cg.inR] at hq hq2
                have hres := okV_rn ho1 ho2
                unfold okV at ho1 ho2
                repeat' (first | exact trivial | (with_reducible exact (fun h => absurd (hne.symm.trans h) (by decide))) | (with_reducible exact (fun h => absurd (h2.symm.trans h) (by decide))) | (with_reducible exact (fun h => absurd (hq'.symm.trans h) (by decide))) | refine ⟨?_, ?_⟩ | intro _)
                all_goals first | (with_reducible show (_ : Int) ≤ _) | (with_reducible show (_ : Int) < _) | (with_reducible show (_ : Nat) ≤ _) | (with_reducible show (_ : Nat) < _) | (conv => whnf)
                all_goals (try simp only [Int.toNat_natCast, Nat.zero_add, gN_lst, hb, hb1, gBs_row] at *)
                all_goals first | omega | rfl | exact hn | exact hm | exact hrow | exact hrow1 | ((with_reducible show idsOk _ _ = true); rfl) | exact ho1.1.1 | exact ho2.1.1 | (exact congrArg (Value.int .i64) (by first | (rw [wI_id _ (by omega) (by omega)]; omega) | omega | (dsimp only; omega))) | exact hp3.2 | exact hp3.1 | exact (hp3.2 _ ‹_ < n3›).2.1 | exact (hp3.2 _ ‹_ < n3›).2.2 | exact hqj | exact hrow2 rfl ‹_› | trace_state
              · have hne : decide ((i : Int) < (NL.length : Int)) = false := decide_eq_false (by omega)
                obtain rfl : i = NL.length := by omega
                repeat' (first | exact trivial | (with_reducible exact (fun h => absurd (hne.symm.trans h) (by decide))) | refine ⟨?_, ?_⟩ | intro _)
                all_goals first | (with_reducible show (_ : Int) ≤ _) | (with_reducible show (_ : Int) < _) | (with_reducible show (_ : Nat) ≤ _) | (with_reducible show (_ : Nat) < _) | (conv => whnf)
                all_goals first | rfl | omega | exact hBl.symm | (rename_i k _; show rwB BL (0 + k) = rwB BL k; rw [Nat.zero_add]) | trace_state
      | false =>
        cases e2 with
        | false =>
          have hset : En.rop i0 ⟨true, L⟩ ⟨false, M⟩ (gL n3 f3) = En.rclean ⟨true, L⟩ := by
            unfold En.rop
            rw [if_pos rfl, if_neg Bool.false_ne_true, if_neg (by simpa using h2)]
          generalize En.rop i0 ⟨true, L⟩ ⟨false, M⟩ (gL n3 f3) = R at *
          subst hset
          repeat' (first | exact trivial | (with_reducible exact (fun h => absurd (h2.symm.trans h) (by decide))) | (with_reducible exact (fun h => absurd (h : (!true) = true) (by decide))) | (with_reducible exact (fun h => absurd (h : (!false) = false) (by decide))) | refine ⟨?_, ?_⟩ | intro _)
          all_goals first | (with_reducible show (_ : Int) ≤ _) | (with_reducible show (_ : Int) < _) | (with_reducible show (_ : Nat) ≤ _) | (with_reducible show (_ : Nat) < _) | (conv => whnf)
          all_goals (try simp only [gBs_row] at *)
          all_goals first | exact hn | exact hrow | exact hm | exact hrow1 | exact ⟨hn, hrow⟩ | exact ⟨hm, hrow1⟩ | rfl | trace_state
        | true =>
          cases h1 : (i0 == 1) with
          | true =>
            repeat' (first | exact trivial | (with_reducible exact (fun h => absurd (h1.symm.trans h) (by decide))) | (with_reducible exact (fun h => absurd (h2.symm.trans h) (by decide))) | (with_reducible exact (fun h => absurd (h : (!true) = true) (by decide))) | (with_reducible exact (fun h => absurd (h : (!false) = false) (by decide))) | refine ⟨?_, ?_⟩ | intro _)
            all_goals first | (with_reducible show (_ : Int) ≤ _) | (with_reducible show (_ : Int) < _) | (with_reducible show (_ : Nat) ≤ _) | (with_reducible show (_ : Nat) < _) | (conv => whnf)
            all_goals (try simp only [gBs_row] at *)
            all_goals first | exact hn | exact hrow | exact hm | exact hrow1 | exact ⟨hn, hrow⟩ | exact ⟨hm, hrow1⟩ | exact hsum | skip
            have hbl := both_len ⟨true, L⟩ ⟨true, M⟩
            have hrl := rop_loop (op := i0) (a := ⟨true, L⟩) (b := ⟨true, M⟩) (l := gL n3 f3) rfl rfl (fun h => absurd (h2.symm.trans h) (by decide))
            generalize En.rop i0 ⟨true, L⟩ ⟨true, M⟩ (gL n3 f3) = R at *
            subst hrl
            generalize hNL : En.bothS ⟨true, L⟩ ⟨true, M⟩ = NL at *
            generalize hBL : (NL.map fun n => (⟨n, En.vop i0 (gL n3 f3) (En.rget ⟨true, L⟩ n) (En.rget ⟨true, M⟩ n)⟩ : Bd)) = BL at *
            have hBl : BL.length = NL.length := by rw [← hBL, List.length_map]
            have hBa : ∀ i, i < NL.length → atB BL i = ⟨atS NL i, En.vop i0 (gL n3 f3) (En.rget ⟨true, L⟩ (atS NL i)) (En.rget ⟨true, M⟩ (atS NL i))⟩ := by
              intro i hi
              rw [← hBL]
              unfold atB atS
              simp [List.getD_eq_getElem?_getD, hi]
            refine loop_ids tys_ok (l := [(20, ⟨[], FREClean⟩), (42, ⟨[], FRELeq⟩), (96, ⟨[], FRBoth⟩), (25, ⟨[], FRGet⟩), (97, ⟨[], FRVJoin⟩), (98, ⟨[], FRVWiden⟩), (99, ⟨[], FRVNarrow⟩)]) ⟨fcREClean, fcRELeq, fcRBoth, fcRGet, fcRVJoin, fcRVWiden, fcRVNarrow, trivial⟩ (by kernel_rfl) (X := Nat)
              (fun x => ⟨[(11, vx (.int .i64 x)), (10, .va (.c (.d (lst NL)))), (0, vx (.int .i64 i0)), (3, .va (.c (.d (.lst 1 n3 fun i => [it (gI (f3 i))])))), (5, .va (.c (.own 0 0))), (6, .va (.c (.own 1 0))), (8, .va (.c (.own 2 0))), (9, .va (.c (.own 3 0)))], [(0, .cells [.d (bo true), .d (.lst 9 L.length (rwB L))]), (1, .cells [.d (bo true), .d (.lst 9 M.length (rwB M))]), (2, .cells [.d (bo false), .d (.v (.slice none 0 0))]), (3, .cells [.d (bo true), .osl 4 9 0 x]), (4, .row 9 x (rwB BL))], 5, 91⟩)
              (fun x => NL.length - x) (fun x => x ≤ NL.length) [88] []
              (fun x _ _ => x + 1) (fun xs => match xs with | [t] => [0, 1, 2, 3, oI t] | _ => []) [0, 1, 2, 3] 0 1 0 ?_ ?_ ?_
            · exact Nat.zero_le _
            · repeat' (first | exact trivial | exact rfl | (intro _ h; exact absurd h (Nat.not_lt_zero _)) | (intro _ _; exact rfl) | refine ⟨?_, ?_⟩ | fail)
              all_goals first | (simp; done) | trace_state
            · rintro i k1
              rcases Nat.lt_or_ge i NL.length with hi | hi
              · have hne : decide ((i : Int) < (NL.length : Int)) = true := decide_eq_true (by omega)
                have ho1 := rget_ok (e := ⟨true, L⟩) hL (atS NL i)
                have ho2 := rget_ok (e := ⟨true, M⟩) hM (atS NL i)
                have hq := ho1.2
                have hq2 := ho2.2
                have hqj := rget_qj (a := ⟨true, L⟩) (b := ⟨true, M⟩) hroom (atS NL i)
                have hrow2 := @row_gen L BL i
                rw [hBa i hi, vop_widen h1 h2] at hrow2
                simp only [Sp.inR, Cg.inR] at hq hq2
                have hres := okV_rw (l := gL n3 f3) ho1 ho2 hqj (fun z hz => gL_r hp3.2 z hz)
                unfold okV at ho1 ho2
                repeat' (first | exact trivial | (with_reducible exact (fun h => absurd (hne.symm.trans h) (by decide))) | (with_reducible exact (fun h => absurd (h1.symm.trans h) (by decide))) | (with_reducible exact (fun h => absurd (h2.symm.trans h) (by decide))) | refine ⟨?_, ?_⟩ | intro _)
                all_goals first | (with_reducible show (_ : Int) ≤ _) | (with_reducible show (_ : Int) < _) | (with_reducible show (_ : Nat) ≤ _) | (with_reducible show (_ : Nat) < _) | (conv => whnf)
                all_goals (try simp only [Int.toNat_natCast, Nat.zero_add, gN_lst, hb, hb1, gBs_row] at *)
                all_goals first | omega | rfl | exact hn | exact hm | exact hrow | exact hrow1 | ((with_reducible show idsOk _ _ = true); rfl) | exact ho1.1.1 | exact ho2.1.1 | (exact congrArg (Value.int .i64) (by first | (rw [wI_id _ (by omega) (by omega)]; omega) | omega | (dsimp only; omega))) | exact hp3.2 | exact hp3.1 | exact (hp3.2 _ ‹_ < n3›).2.1 | exact (hp3.2 _ ‹_ < n3›).2.2 | exact hqj | exact hrow2 rfl ‹_› | trace_state
              · have hne : decide ((i : Int) < (NL.length : Int)) = false := decide_eq_false (by omega)
                obtain rfl : i = NL.length := by omega
                repeat' (first | exact trivial | (with_reducible exact (fun h => absurd (hne.symm.trans h) (by decide))) | refine ⟨?_, ?_⟩ | intro _)
                all_goals first | (with_reducible show (_ : Int) ≤ _) | (with_reducible show (_ : Int) < _) | (with_reducible show (_ : Nat) ≤ _) | (with_reducible show (_ : Nat) < _) | (conv => whnf)
                all_goals first | rfl | omega | exact hBl.symm | (rename_i k _; show rwB BL (0 + k) = rwB BL k; rw [Nat.zero_add]) | trace_state
          | false =>
            repeat' (first | exact trivial | (with_reducible exact (fun h => absurd (h1.symm.trans h) (by decide))) | (with_reducible exact (fun h => absurd (h2.symm.trans h) (by decide))) | (with_reducible exact (fun h => absurd (h : (!true) = true) (by decide))) | (with_reducible exact (fun h => absurd (h : (!false) = false) (by decide))) | refine ⟨?_, ?_⟩ | intro _)
            all_goals first | (with_reducible show (_ : Int) ≤ _) | (with_reducible show (_ : Int) < _) | (with_reducible show (_ : Nat) ≤ _) | (with_reducible show (_ : Nat) < _) | (conv => whnf)
            all_goals (try simp only [gBs_row] at *)
            all_goals first | exact hn | exact hrow | exact hm | exact hrow1 | exact ⟨hn, hrow⟩ | exact ⟨hm, hrow1⟩ | exact hsum | skip
            have hbl := both_len ⟨true, L⟩ ⟨true, M⟩
            have hrl := rop_loop (op := i0) (a := ⟨true, L⟩) (b := ⟨true, M⟩) (l := gL n3 f3) rfl rfl (fun h => absurd (h2.symm.trans h) (by decide))
            generalize En.rop i0 ⟨true, L⟩ ⟨true, M⟩ (gL n3 f3) = R at *
            subst hrl
            generalize hNL : En.bothS ⟨true, L⟩ ⟨true, M⟩ = NL at *
            generalize hBL : (NL.map fun n => (⟨n, En.vop i0 (gL n3 f3) (En.rget ⟨true, L⟩ n) (En.rget ⟨true, M⟩ n)⟩ : Bd)) = BL at *
            have hBl : BL.length = NL.length := by rw [← hBL, List.length_map]
            have hBa : ∀ i, i < NL.length → atB BL i = ⟨atS NL i, En.vop i0 (gL n3 f3) (En.rget ⟨true, L⟩ (atS NL i)) (En.rget ⟨true, M⟩ (atS NL i))⟩ := by
              intro i hi
              rw [← hBL]
              unfold atB atS
              simp [List.getD_eq_getElem?_getD, hi]
            refine loop_ids tys_ok (l := [(20, ⟨[], FREClean⟩), (42, ⟨[], FRELeq⟩), (96, ⟨[], FRBoth⟩), (25, ⟨[], FRGet⟩), (97, ⟨[], FRVJoin⟩), (98, ⟨[], FRVWiden⟩), (99, ⟨[], FRVNarrow⟩)]) ⟨fcREClean, fcRELeq, fcRBoth, fcRGet, fcRVJoin, fcRVWiden, fcRVNarrow, trivial⟩ (by kernel_rfl) (X := Nat)
              (fun x => ⟨[(11, vx (.int .i64 x)), (10, .va (.c (.d (lst NL)))), (0, vx (.int .i64 i0)), (3, .va (.c (.d (.lst 1 n3 fun i => [it (gI (f3 i))])))), (5, .va (.c (.own 0 0))), (6, .va (.c (.own 1 0))), (8, .va (.c (.own 2 0))), (9, .va (.c (.own 3 0)))], [(0, .cells [.d (bo true), .d (.lst 9 L.length (rwB L))]), (1, .cells [.d (bo true), .d (.lst 9 M.length (rwB M))]), (2, .cells [.d (bo false), .d (.v (.slice none 0 0))]), (3, .cells [.d (bo true), .osl 4 9 0 x]), (4, .row 9 x (rwB BL))], 5, 91⟩)
              (fun x => NL.length - x) (fun x => x ≤ NL.length) [88] []
              (fun x _ _ => x + 1) (fun xs => match xs with | [t] => [0, 1, 2, 3, oI t] | _ => []) [0, 1, 2, 3] 0 1 0 ?_ ?_ ?_
            · exact Nat.zero_le _
            · repeat' (first | exact trivial | exact rfl | (intro _ h; exact absurd h (Nat.not_lt_zero _)) | (intro _ _; exact rfl) | refine ⟨?_, ?_⟩ | fail)
              all_goals first | (simp; done) | trace_state
            · rintro i k1
              rcases Nat.lt_or_ge i NL.length with hi | hi
              · have hne : decide ((i : Int) < (NL.length : Int)) = true := decide_eq_true (by omega)
                have ho1 := rget_ok (e := ⟨true, L⟩) hL (atS NL i)
                have ho2 := rget_ok (e := ⟨true, M⟩) hM (atS NL i)
                have hq := ho1.2
                have hq2 := ho2.2
                have hqj := rget_qj (a := ⟨true, L⟩) (b := ⟨true, M⟩) hroom (atS NL i)
                have hrow2 := @row_gen L BL i
                rw [hBa i hi, vop_join h1 h2] at hrow2
                simp only [Sp.inR, Cg.inR] at hq hq2
                have hres := okV_rj ho1 ho2 hqj
                unfold okV at ho1 ho2
                repeat' (first | exact trivial | (with_reducible exact (fun h => absurd (hne.symm.trans h) (by decide))) | (with_reducible exact (fun h => absurd (h1.symm.trans h) (by decide))) | (with_reducible exact (fun h => absurd (h2.symm.trans h) (by decide))) | refine ⟨?_, ?_⟩ | intro _)
                all_goals first | (with_reducible show (_ : Int) ≤ _) | (with_reducible show (_ : Int) < _) | (with_reducible show (_ : Nat) ≤ _) | (with_reducible show (_ : Nat) < _) | (conv => whnf)
                all_goals (try simp only [Int.toNat_natCast, Nat.zero_add, gN_lst, hb, hb1, gBs_row] at *)
                all_goals first | omega | rfl | exact hn | exact hm | exact hrow | exact hrow1 | ((with_reducible show idsOk _ _ = true); rfl) | exact ho1.1.1 | exact ho2.1.1 | (exact congrArg (Value.int .i64) (by first | (rw [wI_id _ (by omega) (by omega)]; omega) | omega | (dsimp only; omega))) | exact hp3.2 | exact hp3.1 | exact (hp3.2 _ ‹_ < n3›).2.1 | exact (hp3.2 _ ‹_ < n3›).2.2 | exact hqj | exact hrow2 rfl ‹_› | trace_state
              · have hne : decide ((i : Int) < (NL.length : Int)) = false := decide_eq_false (by omega)
                obtain rfl : i = NL.length := by omega
                repeat' (first | exact trivial | (with_reducible exact (fun h => absurd (hne.symm.trans h) (by decide))) | refine ⟨?_, ?_⟩ | intro _)
                all_goals first | (with_reducible show (_ : Int) ≤ _) | (with_reducible show (_ : Int) < _) | (with_reducible show (_ : Nat) ≤ _) | (with_reducible show (_ : Nat) < _) | (conv => whnf)
                all_goals first | rfl | omega | exact hBl.symm | (rename_i k _; show rwB BL (0 + k) = rwB BL k; rw [Nat.zero_add]) | trace_state
  · cases h
end Go.Proofs.YthkknkhpfffnbaaGreat
namespace Go.Proofs.YthkknkhpfffnbaaGreat
set_option linter.all false
open Go.Sx
def zipV (op : Vl → Vl → Vl) : Option Vl → Option Vl → Option Vl
  | none, none => none
  | some x, none => some (op x Vl.zero)
  | none, some y => some (op Vl.zero y)
  | some x, some y => some (op x y)
theorem lk_lt {x y : Bd} {r : List Bd} {s : ByteArray} (h : SS (y :: r)) (hxy : ltB x y = true) (e : x.name = s) : lk (y :: r) s = none := by
  subst e
  have hlt := ltB_iff.1 hxy
  refine lk_none fun b hb e => ?_
  rcases List.mem_cons.1 hb with rfl | hb
  · rw [e] at hlt; exact List.lt_irrefl _ hlt
  · have := List.lt_trans hlt ((List.pairwise_cons.1 h).1 b hb)
    rw [e] at this; exact List.lt_irrefl _ this
theorem lk_mrg {op : Vl → Vl → Vl} : ∀ {A B : List Bd}, SS A → SS B → ∀ s, lk (mrg op A B) s = zipV op (lk A s) (lk B s)
  | [], [], _, _, s => by rw [mrg]; rfl
  | [], y :: b, hA, hB, s => by
    rw [mrg, lk_cons, lk_cons, lk_nil, lk_mrg hA (List.pairwise_cons.1 hB).2]
    split
    · rfl
    · rw [lk_nil]
  | x :: a, [], hA, hB, s => by
    rw [mrg, lk_cons, lk_cons, lk_nil, lk_mrg (List.pairwise_cons.1 hA).2 hB]
    split
    · rfl
    · rw [lk_nil]
  | x :: a, y :: b, hA, hB, s => by
    have hA2 := (List.pairwise_cons.1 hA).2
    have hB2 := (List.pairwise_cons.1 hB).2
    rw [mrg]
    split
    · rename_i h1
      rw [lk_cons, lk_mrg hA2 hB, lk_cons x]
      by_cases e : x.name = s
      · rw [if_pos e, if_pos e, lk_lt hB h1 e]; rfl
      · rw [if_neg e, if_neg e]
    · split
      · rename_i h1 h2
        rw [lk_cons, lk_mrg hA hB2, lk_cons y]
        by_cases e : y.name = s
        · rw [if_pos e, if_pos e, lk_lt hA h2 e]; rfl
        · rw [if_neg e, if_neg e]
      · rename_i h1 h2
        have e0 := (cf_eq (by simpa using h1) (by simpa using h2)).2
        rw [lk_cons, lk_mrg hA2 hB2, lk_cons x, lk_cons y, ← e0]
        by_cases e : x.name = s
        · rw [if_pos e, if_pos e, if_pos e]; rfl
        · rw [if_neg e, if_neg e, if_neg e]
termination_by A B => A.length + B.length
theorem mrg_names {op : Vl → Vl → Vl} : ∀ {A B : List Bd} {b : Bd}, b ∈ mrg op A B → (∃ x ∈ A, x.name = b.name) ∨ ∃ y ∈ B, y.name = b.name
  | [], [], b, h => by rw [mrg] at h; cases h
  | [], y :: r, b, h => by
    rw [mrg] at h
    rcases List.mem_cons.1 h with rfl | h
    · exact .inr ⟨y, List.mem_cons_self, rfl⟩
    · rcases mrg_names h with h | ⟨z, hz, e⟩
      · exact .inl h
      · exact .inr ⟨z, List.mem_cons_of_mem _ hz, e⟩
  | x :: r, [], b, h => by
    rw [mrg] at h
    rcases List.mem_cons.1 h with rfl | h
    · exact .inl ⟨x, List.mem_cons_self, rfl⟩
    · rcases mrg_names h with ⟨z, hz, e⟩ | h
      · exact .inl ⟨z, List.mem_cons_of_mem _ hz, e⟩
      · exact .inr h
  | x :: r, y :: q, b, h => by
    rw [mrg] at h
    split at h
    · rcases List.mem_cons.1 h with rfl | h
      · exact .inl ⟨x, List.mem_cons_self, rfl⟩
      · rcases mrg_names h with ⟨z, hz, e⟩ | h
        · exact .inl ⟨z, List.mem_cons_of_mem _ hz, e⟩
        · exact .inr h
    · split at h
      · rcases List.mem_cons.1 h with rfl | h
        · exact .inr ⟨y, List.mem_cons_self, rfl⟩
        · rcases mrg_names h with h | ⟨z, hz, e⟩
          · exact .inl h
          · exact .inr ⟨z, List.mem_cons_of_mem _ hz, e⟩
      · rcases List.mem_cons.1 h with rfl | h
        · exact .inl ⟨x, List.mem_cons_self, rfl⟩
        · rcases mrg_names h with ⟨z, hz, e⟩ | ⟨z, hz, e⟩
          · exact .inl ⟨z, List.mem_cons_of_mem _ hz, e⟩
          · exact .inr ⟨z, List.mem_cons_of_mem _ hz, e⟩
termination_by A B => A.length + B.length
theorem ss_mrg {op : Vl → Vl → Vl} : ∀ {A B : List Bd}, SS A → SS B → SS (mrg op A B)
  | [], [], _, _ => by rw [mrg]; exact List.Pairwise.nil
  | [], y :: b, hA, hB => by
    have hB' := List.pairwise_cons.1 hB
    rw [mrg]
    refine List.pairwise_cons.2 ⟨fun z hz => ?_, ss_mrg hA hB'.2⟩
    rcases mrg_names hz with ⟨w, hw, _⟩ | ⟨w, hw, e⟩
    · cases hw
    · rw [← e]; exact hB'.1 w hw
  | x :: a, [], hA, hB => by
    have hA' := List.pairwise_cons.1 hA
    rw [mrg]
    refine List.pairwise_cons.2 ⟨fun z hz => ?_, ss_mrg hA'.2 hB⟩
    rcases mrg_names hz with ⟨w, hw, e⟩ | ⟨w, hw, _⟩
    · rw [← e]; exact hA'.1 w hw
    · cases hw
  | x :: a, y :: b, hA, hB => by
    have hA' := List.pairwise_cons.1 hA
    have hB' := List.pairwise_cons.1 hB
    rw [mrg]
    split
    · rename_i h1
      have h1 := ltB_iff.1 h1
      refine List.pairwise_cons.2 ⟨fun z hz => ?_, ss_mrg hA'.2 hB⟩
      rcases mrg_names hz with ⟨w, hw, e⟩ | ⟨w, hw, e⟩
      · rw [← e]; exact hA'.1 w hw
      · rw [← e]
        rcases List.mem_cons.1 hw with rfl | hw
        · exact h1
        · exact List.lt_trans h1 (hB'.1 w hw)
    · split
      · rename_i _ h1
        have h1 := ltB_iff.1 h1
        refine List.pairwise_cons.2 ⟨fun z hz => ?_, ss_mrg hA hB'.2⟩
        rcases mrg_names hz with ⟨w, hw, e⟩ | ⟨w, hw, e⟩
        · rw [← e]
          rcases List.mem_cons.1 hw with rfl | hw
          · exact h1
          · exact List.lt_trans h1 (hA'.1 w hw)
        · rw [← e]; exact hB'.1 w hw
      · rename_i h1 h2
        have e0 := (cf_eq (by simpa using h1) (by simpa using h2)).2
        refine List.pairwise_cons.2 ⟨fun z hz => ?_, ss_mrg hA'.2 hB'.2⟩
        rcases mrg_names hz with ⟨w, hw, e⟩ | ⟨w, hw, e⟩
        · rw [← e]; exact hA'.1 w hw
        · rw [← e]; show kS x.name < _; rw [e0]; exact hB'.1 w hw
termination_by A B => A.length + B.length
theorem mrg_len {op : Vl → Vl → Vl} : ∀ (A B : List Bd), (mrg op A B).length ≤ A.length + B.length
  | [], [] => by rw [mrg]; exact Nat.le_refl _
  | [], y :: b => by have := mrg_len (op := op) [] b; rw [mrg]; simp only [List.length_cons] at *; omega
  | x :: a, [] => by have := mrg_len (op := op) a []; rw [mrg]; simp only [List.length_cons] at *; omega
  | x :: a, y :: b => by
    rw [mrg]
    split
    · have := mrg_len (op := op) a (y :: b); simp only [List.length_cons] at *; omega
    · split
      · have := mrg_len (op := op) (x :: a) b; simp only [List.length_cons] at *; omega
      · have := mrg_len (op := op) a b; simp only [List.length_cons] at *; omega
termination_by A B => A.length + B.length
end Go.Proofs.YthkknkhpfffnbaaGreat
namespace Go.Proofs.YthkknkhpfffnbaaGreat
set_option linter.all false
open Go.Sx
theorem both_facts (a b : En) : Srt (En.bothS a b) ∧ ∀ z, z ∈ En.bothS a b ↔ z ∈ a.names ∨ z ∈ b.names := cleanS_fold b.names a.names (names_srt a)
theorem get_rg (e : En) (s : ByteArray) : En.rget e s = En.get e s := (get_rget e s).symm
theorem get_tidy (e : En) (s : ByteArray) : (En.get e s).tidy := by
  rw [get_lk]
  cases e.hold s with
  | none => exact Vl.zero_tidy
  | some v => exact Vl.of_tidy v
theorem get_of (e : En) (s : ByteArray) : (En.get e s).of = En.get e s := Vl.of_fix (get_tidy e s)
theorem hold_clean (e : En) (s : ByteArray) : e.clean.hold s = (e.hold s).map Vl.of := by
  have h1 := clean_lk e s
  unfold En.hold
  rw [eclean_live]
  split
  · rename_i hl
    rw [h1]; unfold En.hold; rw [if_pos hl]
  · rfl
theorem get_clean (e : En) (s : ByteArray) : En.get e.clean s = En.get e s := by
  rw [get_lk, get_lk, hold_clean]
  cases e.hold s with
  | none => rfl
  | some v => show v.of.of = v.of; exact Vl.of_of v
structure En.tidy (e : En) : Prop where
  s : SS e.binds
  v : ∀ x ∈ e.binds, x.v.tidy
  dead : e.live = false → e.binds = []
theorem clean_tidyE (e : En) : e.clean.tidy where
  s := clean_ss e
  v x hx := by
    unfold En.clean at hx
    split at hx
    · obtain ⟨b, _, rfl⟩ := List.mem_map.1 hx; exact Vl.of_tidy _
    · cases hx
  dead h := by
    unfold En.clean at h ⊢
    split
    · rename_i hl; rw [if_pos hl] at h; cases h
    · rfl
theorem hold_tidy {e : En} (h : e.tidy) {s : ByteArray} {v : Vl} (hv : e.hold s = some v) : v.of = v := by
  unfold En.hold at hv
  split at hv
  · exact Vl.of_fix (h.v _ (lk_mem hv))
  · cases hv
theorem clean_fixE {e : En} (h : e.tidy) : e.clean = e := by
  refine en_ext (eclean_live e) (clean_ss e) h.s fun s => ?_
  rw [clean_lk]
  cases hh : e.hold s with
  | none =>
    unfold En.hold at hh
    split at hh
    · rw [hh]; rfl
    · rename_i hl
      rw [h.dead (by simpa using hl)]; rfl
  | some v =>
    have := hold_tidy h hh
    show some v.of = _
    rw [this]
    unfold En.hold at hh
    split at hh
    · exact hh.symm
    · cases hh
def En.zipE (op : Vl → Vl → Vl) (a b : En) : En := ⟨true, mrg op a.clean.binds b.clean.binds⟩
structure OpOk (op : Vl → Vl → Vl) : Prop where
  tidy : ∀ x y, x.tidy → y.tidy → (op x y).tidy
  zero : op Vl.zero Vl.zero = Vl.zero
theorem zip_lk {op : Vl → Vl → Vl} (a b : En) (s : ByteArray) : lk (En.zipE op a b).binds s = zipV op ((a.hold s).map Vl.of) ((b.hold s).map Vl.of) := by
  show lk (mrg op a.clean.binds b.clean.binds) s = _
  rw [lk_mrg (clean_ss a) (clean_ss b), clean_lk, clean_lk]
theorem zip_ref {op rop : Vl → Vl → Vl} (h : ∀ x y, op x y = rop x y) (a b : En) : En.zipE op a b = ⟨true, (En.bothS a b).map fun n => ⟨n, rop (a.rget n) (b.rget n)⟩⟩ := by
  obtain ⟨h1, h2⟩ := both_facts a b
  refine en_ext rfl (ss_mrg (clean_ss a) (clean_ss b)) ?_ fun s => ?_
  · unfold SS
    show List.Pairwise _ (List.map _ _)
    rw [List.pairwise_map]
    exact h1
  · rw [zip_lk]
    show _ = lk ((En.bothS a b).map fun n => ⟨n, rop (a.rget n) (b.rget n)⟩) s
    rw [lk_fun (En.bothS a b) (fun n => rop (a.rget n) (b.rget n)) s, rget_lk, rget_lk, ← of_fun]
    have ha := mem_names (e := a) (s := s)
    have hb := mem_names (e := b) (s := s)
    have hm := h2 s
    cases hx : a.hold s with
    | none =>
      rw [hx] at ha
      cases hy : b.hold s with
      | none =>
        rw [hy] at hb
        rw [if_neg]
        · rfl
        · intro h3
          rcases hm.1 (memS_iff.1 h3) with h4 | h4
          · exact absurd (ha.1 h4) (by decide)
          · exact absurd (hb.1 h4) (by decide)
      | some w =>
        rw [hy] at hb
        rw [if_pos (memS_iff.2 (hm.2 (.inr (hb.2 rfl))))]
        exact congrArg some (h _ _)
    | some v =>
      rw [hx] at ha
      rw [if_pos (memS_iff.2 (hm.2 (.inl (ha.2 rfl))))]
      cases hy : b.hold s with
      | none => exact congrArg some (h _ _)
      | some w => exact congrArg some (h _ _)
theorem join_case (a b : En) : En.join a b = if a.live = true then (if b.live = true then En.zipE Vl.join a b else a.clean) else b.clean := by
  unfold En.join; rw [eclean_live, eclean_live]; rfl
theorem widen_case (a b : En) (l : List Int) : En.widen a b l = if a.live = true then (if b.live = true then En.zipE (fun x y => Vl.widen x y l) a b else a.clean) else b.clean := by
  unfold En.widen; rw [eclean_live, eclean_live]; rfl
theorem leq_rleq (a b : En) : En.leq a b = En.rleq a b := by
  unfold En.leq En.rleq
  rw [eclean_live, eclean_live]
  split
  · split
    · rename_i hb
      rw [hb, Bool.and_true, clean_rclean]
      show List.all (List.map _ _) _ = _
      rw [List.all_map]
      congr 1
      funext n
      show Vl.leq (a.rget n) (En.get b.clean n) = Vl.rleq (a.rget n) (b.rget n)
      rw [get_clean, leq_eq, get_rget]
      have e : ∀ e : En, (e.rget n).rclean = e.rget n := fun e => by rw [get_rg, ← of_fun, get_of]
      rw [e, e]
    · rename_i hb
      have hb : b.live = false := by simpa using hb
      rw [hb, Bool.and_false]
  · rfl
theorem narrow_case (a b : En) : En.narrow a b = if a.live = true then (if b.live = true then (if En.rleq b a = true then En.zipE Vl.narrow a b else a.clean) else ⟨false, []⟩) else b.clean := by
  unfold En.narrow; rw [eclean_live, eclean_live, leq_rleq]
  have e : En.rleq b.clean a.clean = En.rleq b a := by
    rw [← leq_rleq, ← leq_rleq]
    unfold En.leq
    rw [clean_fixE (clean_tidyE b), clean_fixE (clean_tidyE a)]
  rw [e]; rfl
theorem join_rop (a b : En) (l : List Int) : En.join a b = En.rop 0 a b l := by
  rw [join_case]; unfold En.rop
  rw [clean_rclean, clean_rclean, if_neg (show ¬ (0 : Int) = 2 by decide), if_neg (show ¬ (0 : Int) = 2 by decide)]
  rw [zip_ref (rop := En.vop 0 l) (fun x y => by unfold En.vop; rw [if_neg (by decide), if_neg (by decide)]; exact Vl.join_eq x y)]
theorem widen_rop (a b : En) (l : List Int) : En.widen a b l = En.rop 1 a b l := by
  rw [widen_case]; unfold En.rop
  rw [clean_rclean, clean_rclean, if_neg (show ¬ (1 : Int) = 2 by decide), if_neg (show ¬ (1 : Int) = 2 by decide)]
  rw [zip_ref (rop := En.vop 1 l) (fun x y => by unfold En.vop; rw [if_neg (by decide), if_pos rfl]; exact widen_eq x y l)]
theorem narrow_rop (a b : En) (l : List Int) : En.narrow a b = En.rop 2 a b l := by
  rw [narrow_case]; unfold En.rop
  rw [clean_rclean, clean_rclean, if_pos (rfl : (2 : Int) = 2), if_pos (rfl : (2 : Int) = 2)]
  rw [zip_ref (rop := En.vop 2 l) (fun x y => by unfold En.vop; rw [if_pos rfl]; exact narrow_eq x y)]
end Go.Proofs.YthkknkhpfffnbaaGreat
namespace Go.Proofs.YthkknkhpfffnbaaGreat
set_option linter.all false
open Go.Sx
theorem set_gen {e : En} {s : ByteArray} {v : Vl} (hl : e.live = true) (h : ∀ t, s ≠ t → e.hold t = none) : En.set e s v = ⟨true, [⟨s, v.of⟩]⟩ := by
  have e1 : En.set e s v = ⟨true, setB e.clean.binds s v.of⟩ := by unfold En.set; rw [if_pos (by rw [eclean_live]; exact hl)]
  rw [e1]
  refine en_ext rfl (setB_ss (clean_ss e) s _) (List.pairwise_singleton _ _) fun t => ?_
  show lk (setB e.clean.binds s v.of) t = lk [⟨s, v.of⟩] t
  rw [setB_lk (clean_ss e), clean_lk, lk_cons]
  split
  · rfl
  · rename_i hn; rw [h t hn]; rfl
theorem set_one (n : Nat) (f : Nat → List DV) (s : ByteArray) (v : Vl) (hn : n = 0) : En.set ⟨true, gBs n f⟩ s v = ⟨true, [⟨s, v.of⟩]⟩ := by
  subst hn
  exact set_gen rfl fun t _ => rfl
theorem set_two (s : ByteArray) (v w : Vl) : En.set ⟨true, [⟨s, v⟩]⟩ s w = ⟨true, [⟨s, w.of⟩]⟩ := by
  refine set_gen rfl fun t hn => ?_
  show lk [⟨s, v⟩] t = none
  rw [lk_cons, if_neg hn]; rfl
theorem get_one (s : ByteArray) (v : Vl) : En.get ⟨true, [⟨s, v⟩]⟩ s = v.of := by
  rw [get_lk]
  show ((lk [⟨s, v⟩] s).map Vl.of).getD Vl.zero = _
  rw [lk_cons, if_pos rfl]; rfl
abbrev numV (n : Int) : Vl := ⟨⟨Sp.of n n, Cg.of 0 n⟩, ⟨false, gN 0 fun _ => []⟩⟩
theorem num_of_i (n : Int) : (numV n).of.i = ⟨⟨true, n, n⟩, ⟨true, 0, n⟩⟩ := by
  rw [of_rclean]
  show Ig.clean ⟨Sp.of n n, Cg.of 0 n⟩ = _
  rw [one_eq]
  exact tidy_fix (one_tidy n)
def JV : Vl := Vl.join (numV 1).of (numV 3).of
theorem jv_i : JV.i = ⟨⟨true, 1, 3⟩, ⟨true, 2, 1⟩⟩ := by
  unfold JV Vl.join
  rw [Vl.of_of, Vl.of_of, num_of_i, num_of_i]
  show (⟨Sp.join ⟨true, 1, 1⟩ ⟨true, 3, 3⟩, Cg.join ⟨true, 0, 1⟩ ⟨true, 0, 3⟩⟩ : Ig) = _
  have e1 : Sp.join ⟨true, 1, 1⟩ ⟨true, 3, 3⟩ = ⟨true, 1, 3⟩ := by kernel_rfl
  have e2 : Cg.join ⟨true, 0, 1⟩ ⟨true, 0, 3⟩ = ⟨true, 2, 1⟩ := by kernel_rfl
  rw [e1, e2]
theorem one_tidyE (x : ByteArray) (v : Vl) (h : v.tidy) : En.tidy ⟨true, [⟨x, v⟩]⟩ := by
  refine ⟨List.pairwise_singleton _ _, fun y hy => ?_, fun h => by cases h⟩
  rcases List.mem_cons.1 hy with rfl | h2
  · exact h
  · cases h2
theorem join_num (x : ByteArray) (V W : Vl) (h : V = numV 1) (h' : W = numV 3) : En.join ⟨true, [⟨x, V.of⟩]⟩ ⟨true, [⟨x, W.of⟩]⟩ = ⟨true, [⟨x, JV⟩]⟩ := by
  subst h; subst h'
  rw [join_case, if_pos rfl, if_pos rfl]
  unfold En.zipE
  rw [clean_fixE (one_tidyE x _ (Vl.of_tidy _)), clean_fixE (one_tidyE x _ (Vl.of_tidy _))]
  have hl : ∀ v w : Vl, ltB ⟨x, v⟩ ⟨x, w⟩ = false := fun v w => ltB_iff'.2 (List.lt_irrefl _)
  rw [mrg, hl, hl, if_neg Bool.false_ne_true, if_neg Bool.false_ne_true, mrg]; rfl
theorem join_num' (x : ByteArray) : En.join ⟨true, [⟨x, Vl.of ⟨⟨⟨(Sp.of 1 1).some, (Sp.of 1 1).lo, (Sp.of 1 1).hi⟩, ⟨(Cg.of 0 1).some, (Cg.of 0 1).m, (Cg.of 0 1).r⟩⟩, ⟨false, []⟩⟩⟩]⟩ ⟨true, [⟨x, Vl.of ⟨⟨⟨(Sp.of 3 3).some, (Sp.of 3 3).lo, (Sp.of 3 3).hi⟩, ⟨(Cg.of 0 3).some, (Cg.of 0 3).m, (Cg.of 0 3).r⟩⟩, ⟨false, []⟩⟩⟩]⟩ = ⟨true, [⟨x, JV⟩]⟩ := join_num x _ _ rfl rfl
theorem get_jv (x : ByteArray) : (En.get ⟨true, [⟨x, JV⟩]⟩ x).i = ⟨⟨true, 1, 3⟩, ⟨true, 2, 1⟩⟩ := by
  rw [get_one, show JV.of = JV from Vl.of_fix (Vl.jn_tidy _ _)]; exact jv_i
theorem rows_jv (x : ByteArray) : RowsOk 1 (rwB [⟨x, JV⟩]) := okL_row (l := [⟨x, JV⟩]) fun y hy => by
  rcases List.mem_cons.1 hy with rfl | h
  · refine ⟨⟨?_, fun _ _ => rfl⟩, ?_⟩
    · show (ofS (ofS (numV 1).of.t.names ++ ofS (numV 3).of.t.names)).length * 16 ≤ _
      have : ofS (ofS (numV 1).of.t.names ++ ofS (numV 3).of.t.names) = [] := by
        rw [of_names, of_names]
        show ofS (ofS (ofS []) ++ ofS (ofS [])) = []
        rw [ofS_eq, ofS_eq, ofS_eq]; rfl
      rw [this]; exact Nat.zero_le _
    · rw [jv_i]; unfold Sp.inR Cg.inR; decide
  · cases h
theorem numV_names (n : Int) : (numV n).of.t.names = [] := by rw [of_names]; show ofS [] = []; rw [ofS_eq]; rfl
theorem okV_num {n : Int} (h : rI n) : okV (numV n).of := by
  refine okV_of ⟨⟨Nat.zero_le _, fun _ _ => rfl⟩, ?_⟩
  have := one_inR (n := n) h
  exact this
theorem rows_num {s : ByteArray} {V : Vl} {n : Int} (h : V = numV n) (hn : rI n) : RowsOk 1 (rwB [⟨s, Vl.of V⟩]) := by
  subst h
  exact okL_row (l := [⟨s, (numV n).of⟩]) fun x hx => by
    rcases List.mem_cons.1 hx with rfl | h
    · exact okV_num hn
    · cases h
theorem room_num {s t : ByteArray} {V W : Vl} {n m : Int} (h : V = numV n) (h' : W = numV m) : Room [⟨s, Vl.of V⟩] [⟨t, Vl.of W⟩] := by
  subst h; subst h'
  have hz : ∀ {s : ByteArray} {n : Int} {x : Bd}, x ∈ [(⟨s, (numV n).of⟩ : Bd)] → x.v.t.names = [] := by
    intro s n x hx
    rcases List.mem_cons.1 hx with rfl | h
    · exact numV_names n
    · cases h
  refine ⟨fun x hx y hy => ?_, fun x hx => ?_, fun y hy => ?_⟩
  · unfold QJ; rw [hz hx, hz hy]; decide
  · unfold QJ; rw [hz hx]; decide
  · unfold QJ; rw [hz hy]; decide
theorem set_zero (f : Nat → List DV) (s : ByteArray) (v : Vl) : En.set ⟨true, gBs 0 f⟩ s v = ⟨true, [⟨s, v.of⟩]⟩ := set_one 0 f s v rfl
def FELives : List Ar → Option Rs
  | [] => some ⟨True, .va (.c (.d (bo (true)))), []⟩
  | _ => none
set_option maxHeartbeats 1000000 in
set_option maxRecDepth 100000 in
theorem fcELives : FC Tryz.prog 17 FELives := by
  intro xs pre r us h hp
  unfold FELives at h
  split at h
  · cases h
    refine fcat tys_ok (l := [(59, ⟨[], FVNum⟩), (18, ⟨[], FN 9 FESet⟩), (44, ⟨[], FEJoin⟩), (24, ⟨[], FEGet⟩)]) ⟨fcVNum, fc_nil 9 fcESet, fcEJoin, fcEGet, trivial⟩ Tryz.func17 rfl (by kernel_rfl) true ?_
    repeat' (first | exact trivial | refine ⟨?_, ?_⟩ | intro _)
    all_goals first | (with_reducible show (_ : Int) ≤ _) | (with_reducible show (_ : Int) < _) | (with_reducible show (_ : Nat) ≤ _) | (with_reducible show (_ : Nat) < _) | (conv => whnf)
    all_goals (try simp only [gN_lst, gBs_row, set_zero, set_two] at *)
    all_goals (try simp only [join_num'] at *)
    all_goals (try simp only [gBs_row, get_jv] at *)
    all_goals first | decide | (simp only [List.length_cons, List.length_nil]; decide) | exact rows_num (n := 1) rfl (by unfold rI; decide) | exact rows_jv _ | exact rows_num (n := 3) rfl (by unfold rI; decide) | exact room_num (n := 1) (m := 3) rfl rfl | exact ⟨fun i h => absurd h (Nat.not_lt_zero i)⟩ | (intro h; exact absurd h (Nat.not_lt_zero _)) | rfl | (exfalso; have h := ‹(_ && _) = false›; exact absurd h (by decide)) | trace_state
  · cases h
end Go.Proofs.YthkknkhpfffnbaaGreat
namespace Go.Proofs.YthkknkhpfffnbaaGreat
set_option linter.all false
open Go.Sx
theorem mrg_mem {op : Vl → Vl → Vl} : ∀ {A B : List Bd} {b : Bd}, b ∈ mrg op A B → (∃ x ∈ A, b.v = op x.v Vl.zero) ∨ (∃ y ∈ B, b.v = op Vl.zero y.v) ∨ ∃ x ∈ A, ∃ y ∈ B, b.v = op x.v y.v
  | [], [], b, h => by rw [mrg] at h; cases h
  | [], y :: r, b, h => by
    rw [mrg] at h
    rcases List.mem_cons.1 h with rfl | h
    · exact .inr (.inl ⟨y, List.mem_cons_self, rfl⟩)
    · rcases mrg_mem h with ⟨x, hx, _⟩ | ⟨z, hz, e⟩ | ⟨x, hx, _⟩
      · cases hx
      · exact .inr (.inl ⟨z, List.mem_cons_of_mem _ hz, e⟩)
      · cases hx
  | x :: r, [], b, h => by
    rw [mrg] at h
    rcases List.mem_cons.1 h with rfl | h
    · exact .inl ⟨x, List.mem_cons_self, rfl⟩
    · rcases mrg_mem h with ⟨z, hz, e⟩ | ⟨z, hz, _⟩ | ⟨_, _, z, hz, _⟩
      · exact .inl ⟨z, List.mem_cons_of_mem _ hz, e⟩
      · cases hz
      · cases hz
  | x :: r, y :: q, b, h => by
    rw [mrg] at h
    split at h
    · rcases List.mem_cons.1 h with rfl | h
      · exact .inl ⟨x, List.mem_cons_self, rfl⟩
      · rcases mrg_mem h with ⟨z, hz, e⟩ | h | ⟨z, hz, w, hw, e⟩
        · exact .inl ⟨z, List.mem_cons_of_mem _ hz, e⟩
        · exact .inr (.inl h)
        · exact .inr (.inr ⟨z, List.mem_cons_of_mem _ hz, w, hw, e⟩)
    · split at h
      · rcases List.mem_cons.1 h with rfl | h
        · exact .inr (.inl ⟨y, List.mem_cons_self, rfl⟩)
        · rcases mrg_mem h with h | ⟨z, hz, e⟩ | ⟨z, hz, w, hw, e⟩
          · exact .inl h
          · exact .inr (.inl ⟨z, List.mem_cons_of_mem _ hz, e⟩)
          · exact .inr (.inr ⟨z, hz, w, List.mem_cons_of_mem _ hw, e⟩)
      · rcases List.mem_cons.1 h with rfl | h
        · exact .inr (.inr ⟨x, List.mem_cons_self, y, List.mem_cons_self, rfl⟩)
        · rcases mrg_mem h with ⟨z, hz, e⟩ | ⟨z, hz, e⟩ | ⟨z, hz, w, hw, e⟩
          · exact .inl ⟨z, List.mem_cons_of_mem _ hz, e⟩
          · exact .inr (.inl ⟨z, List.mem_cons_of_mem _ hz, e⟩)
          · exact .inr (.inr ⟨z, List.mem_cons_of_mem _ hz, w, List.mem_cons_of_mem _ hw, e⟩)
termination_by A B => A.length + B.length
theorem okL_mrg {op : Vl → Vl → Vl} {Q : Vl → Vl → Prop} {A B : List Bd} (hA : okL A) (hB : okL B) (hq : QOk Q A B) (h : ∀ x y, okV x → okV y → Q x y → okV (op x y)) : okL (mrg op A B) := by
  intro b hb
  show okV b.v
  rcases mrg_mem hb with ⟨x, hx, e⟩ | ⟨y, hy, e⟩ | ⟨x, hx, y, hy, e⟩
  · rw [e]; exact h _ _ (hA x hx) okV_zero (hq.left x hx)
  · rw [e]; exact h _ _ okV_zero (hB y hy) (hq.right y hy)
  · rw [e]; exact h _ _ (hA x hx) (hB y hy) (hq.both x hx y hy)
theorem join_okL {a b : En} (ha : okL a.binds) (hb : okL b.binds) (hr : Room a.binds b.binds) : okL (En.join a b).binds := by
  unfold En.join
  split
  · split
    · exact okL_mrg (clean_ok ha) (clean_ok hb) (room_clean hr) fun x y hx hy hq => by rw [Vl.join_eq]; exact okV_rj hx hy hq
    · exact clean_ok ha
  · exact clean_ok hb
theorem widen_okL {a b : En} {l : List Int} (ha : okL a.binds) (hb : okL b.binds) (hr : Room a.binds b.binds) (hl : ∀ z, z ∈ l → rI z) : okL (En.widen a b l).binds := by
  unfold En.widen
  split
  · split
    · exact okL_mrg (clean_ok ha) (clean_ok hb) (room_clean hr) fun x y hx hy hq => by rw [widen_eq]; exact okV_rw hx hy hq hl
    · exact clean_ok ha
  · exact clean_ok hb
theorem narrow_okL {a b : En} (ha : okL a.binds) (hb : okL b.binds) : okL (En.narrow a b).binds := by
  unfold En.narrow
  split
  · split
    · split
      · exact okL_mrg (Q := QT) (clean_ok ha) (clean_ok hb) (qt_ok _ _) fun x y hx hy _ => by rw [narrow_eq]; exact okV_rn hx hy
      · exact clean_ok ha
    · intro x hx; cases hx
  · exact clean_ok hb
theorem join_len (a b : En) : (En.join a b).binds.length ≤ a.binds.length + b.binds.length := by
  have h1 := clean_len a
  have h2 := clean_len b
  unfold En.join
  split
  · split
    · have := mrg_len (op := Vl.join) a.clean.binds b.clean.binds
      show (mrg _ _ _).length ≤ _; omega
    · omega
  · omega
theorem widen_len (a b : En) (l : List Int) : (En.widen a b l).binds.length ≤ a.binds.length + b.binds.length := by
  have h1 := clean_len a
  have h2 := clean_len b
  unfold En.widen
  split
  · split
    · have := mrg_len (op := fun x y => Vl.widen x y l) a.clean.binds b.clean.binds
      show (mrg _ _ _).length ≤ _; omega
    · omega
  · omega
theorem narrow_len (a b : En) : (En.narrow a b).binds.length ≤ a.binds.length + b.binds.length := by
  have h1 := clean_len a
  have h2 := clean_len b
  unfold En.narrow
  split
  · split
    · split
      · have := mrg_len (op := Vl.narrow) a.clean.binds b.clean.binds
        show (mrg _ _ _).length ≤ _; omega
      · omega
    · exact Nat.zero_le _
  · omega
def FEnvMerges : List Ar → Option Rs
  | [.agg [.d (.v (.bool _)), .d (.lst 9 n0 f0)], .agg [.d (.v (.bool _)), .d (.lst 9 n1 f1)], .c (.d (.lst 1 n2 f2))] => some ⟨(n0 ≤ 1099511627776 ∧ RowsOk n0 f0) ∧ (n1 ≤ 1099511627776 ∧ RowsOk n1 f1) ∧ (n2 ≤ 9223372036854775807 ∧ ∀ i, i < n2 → f2 i = [it (gI (f2 i))] ∧ rI (gI (f2 i))) ∧ (Room (gBs n0 f0) (gBs n1 f1) ∧ n0 + n1 ≤ 1099511627776), .va (.c (.d (bo (true)))), []⟩
  | _ => none
set_option maxHeartbeats 4000000 in
set_option maxRecDepth 100000 in
theorem fcEnvMerges : FC Tryz.prog 9 FEnvMerges := by
  intro xs pre r us h hp
  unfold FEnvMerges at h
  split at h
  · rename_i e0 n0 f0 e1 n1 f1 n2 f2
    cases h
    obtain ⟨hp0, hp1, hp2, hp3⟩ := hp
    refine FCat.deep (ys := [.agg [.d (.v (.bool e0)), .d (.lst 9 n0 (rwB (gBs n0 f0)))], .agg [.d (.v (.bool e1)), .d (.lst 9 n1 (rwB (gBs n1 f1)))], .c (.d (.lst 1 n2 fun i => [it (gI (f2 i))]))]) ?_ ?_
    · repeat' (first | exact trivial | exact rfl | exact DvE.refl _ | refine ⟨?_, ?_⟩ | fail)
      all_goals first | first | exact canonB hp0.2.h | exact canonB hp1.2.h | (exact .rows fun i hi => by rw [(hp2.2 i hi).1]; exact ⟨rfl, fun j a b ha hb => by have hb : [it (gI (f2 i))][j]? = some b := hb; rw [ha] at hb; cases hb; exact .refl _⟩)
    refine fcat tys_ok (l := [(41, ⟨[], FELeq⟩), (42, ⟨[], FRELeq⟩), (43, ⟨[], FESame⟩), (44, ⟨[], FEJoin⟩), (45, ⟨[], FN 1 FROp⟩), (14, ⟨[], FREExact⟩), (46, ⟨[], FEWiden⟩), (47, ⟨[], FENarrow⟩), (17, ⟨[], FELives⟩)]) ⟨fcELeq, fcRELeq, fcESame, fcEJoin, fc_nil 1 fcROp, fcREExact, fcEWiden, fcENarrow, fcELives, trivial⟩ Tryz.func9 rfl (by kernel_rfl) true ?_
    obtain ⟨hroom, hsum⟩ := hp3
    have hn := hp0.1
    have hL := okL_rows hp0.2
    have hlen := gBs_length n0 f0
    generalize gBs n0 f0 = L at *
    clear hp0
    subst hlen
    have hrow := okL_row hL
    have hb := gBs_row L
    have hm := hp1.1
    have hM := okL_rows hp1.2
    have hlen1 := gBs_length n1 f1
    generalize gBs n1 f1 = M at *
    clear hp1
    subst hlen1
    have hrow1 := okL_row hM
    have hb1 := gBs_row M
    have hq1 : (En.leq ⟨e0, gBs L.length (rwB L)⟩ ⟨e1, gBs M.length (rwB M)⟩ == En.rleq ⟨e0, gBs L.length (rwB L)⟩ ⟨e1, gBs M.length (rwB M)⟩) = true := by rw [leq_rleq]; exact beq_self_eq_true _
    have hq2 : En.rleq ⟨e0, gBs L.length (rwB L)⟩ ⟨e1, gBs M.length (rwB M)⟩ = true → (En.same ⟨e0, gBs L.length (rwB L)⟩ ⟨e1, gBs M.length (rwB M)⟩ == En.rleq ⟨e1, gBs M.length (rwB M)⟩ ⟨e0, gBs L.length (rwB L)⟩) = true := fun h => by unfold En.same; rw [leq_rleq, leq_rleq, h]; exact beq_self_eq_true _
    have hq3 : En.rleq ⟨e0, gBs L.length (rwB L)⟩ ⟨e1, gBs M.length (rwB M)⟩ = false → (En.same ⟨e0, gBs L.length (rwB L)⟩ ⟨e1, gBs M.length (rwB M)⟩ == false) = true := fun h => by unfold En.same; rw [leq_rleq, h]; rfl
    have hcan : ∀ i, i < n2 → (fun i => [it (gI (f2 i))]) i = [it (gI ((fun i => [it (gI (f2 i))]) i))] ∧ rI (gI ((fun i => [it (gI (f2 i))]) i)) := fun i hi => ⟨rfl, (hp2.2 i hi).2⟩
    have hlad : ∀ z, z ∈ gL n2 (fun i => [it (gI (f2 i))]) → rI z := fun z hz => gL_r hp2.2 z hz
    have hnm1 := hn
    have hm1 := hm
    have oJ := join_okL (a := ⟨e0, L⟩) (b := ⟨e1, M⟩) hL hM hroom
    have oW := widen_okL (a := ⟨e0, L⟩) (b := ⟨e1, M⟩) (l := gL n2 (fun i => [it (gI (f2 i))])) hL hM hroom hlad
    have oN := narrow_okL (a := ⟨e0, L⟩) (b := ⟨e1, M⟩) hL hM
    have lJ := join_len ⟨e0, L⟩ ⟨e1, M⟩
    have lW := widen_len ⟨e0, L⟩ ⟨e1, M⟩ (gL n2 (fun i => [it (gI (f2 i))]))
    have lN := narrow_len ⟨e0, L⟩ ⟨e1, M⟩
    dsimp only at lJ lW lN
    have eJ := join_rop ⟨e0, L⟩ ⟨e1, M⟩ (gL 0 fun _ => [])
    have eW := widen_rop ⟨e0, L⟩ ⟨e1, M⟩ (gL n2 (fun i => [it (gI (f2 i))]))
    have eN := narrow_rop ⟨e0, L⟩ ⟨e1, M⟩ (gL 0 fun _ => [])
    cases hd : En.rleq ⟨e0, gBs L.length (rwB L)⟩ ⟨e1, gBs M.length (rwB M)⟩ with
    | true =>
      have hq4 := hq2 hd
      repeat' (first | exact trivial | (with_reducible exact (fun h => absurd (hq1.symm.trans h) (by decide))) | (with_reducible exact (fun h => absurd (hq4.symm.trans h) (by decide))) | (with_reducible exact (fun h => absurd (hd.symm.trans h) (by decide))) | (with_reducible exact (fun h => absurd (h : true = false) (by decide))) | (with_reducible exact hrow) | (with_reducible exact hrow1) | (with_reducible exact hroom) | (with_reducible exact hnm1) | (with_reducible exact hm1) | refine ⟨?_, ?_⟩ | intro _)
      all_goals first | (with_reducible show (_ : Int) ≤ _) | (with_reducible show (_ : Int) < _) | (with_reducible show (_ : Nat) ≤ _) | (with_reducible show (_ : Nat) < _) | (conv => whnf)
      all_goals (try simp only [gBs_row] at *)
      all_goals first | exact hn | exact hm | exact hrow | exact hrow1 | exact hroom | exact hsum | omega | exact eJ | exact eW | exact eN | (exact okL_row oJ) | (exact okL_row oW) | (exact okL_row oN) | (rw [← eJ]; exact okL_row oJ) | (rw [← eW]; exact okL_row oW) | (rw [← eN]; exact okL_row oN) | (rw [← eJ]; omega) | (rw [← eW]; omega) | (rw [← eN]; omega) | exact ⟨rfl, (hp2.2 _ ‹_›).2⟩ | exact (hp2.2 _ ‹_›).2 | exact (hp2.2 _ ‹_›).2.1 | exact (hp2.2 _ ‹_›).2.2 | exact hp2.1 | (intro h; exact absurd h (Nat.not_lt_zero _)) | rfl | (exfalso; simp_all; done) | trace_state
    | false =>
      have hq4 := hq3 hd
      repeat' (first | exact trivial | (with_reducible exact (fun h => absurd (hq1.symm.trans h) (by decide))) | (with_reducible exact (fun h => absurd (hq4.symm.trans h) (by decide))) | (with_reducible exact (fun h => absurd (hd.symm.trans h) (by decide))) | (with_reducible exact (fun h => absurd (h : true = false) (by decide))) | (with_reducible exact hrow) | (with_reducible exact hrow1) | (with_reducible exact hroom) | (with_reducible exact hnm1) | (with_reducible exact hm1) | refine ⟨?_, ?_⟩ | intro _)
      all_goals first | (with_reducible show (_ : Int) ≤ _) | (with_reducible show (_ : Int) < _) | (with_reducible show (_ : Nat) ≤ _) | (with_reducible show (_ : Nat) < _) | (conv => whnf)
      all_goals (try simp only [gBs_row] at *)
      all_goals first | exact hn | exact hm | exact hrow | exact hrow1 | exact hroom | exact hsum | omega | exact eJ | exact eW | exact eN | (exact okL_row oJ) | (exact okL_row oW) | (exact okL_row oN) | (rw [← eJ]; exact okL_row oJ) | (rw [← eW]; exact okL_row oW) | (rw [← eN]; exact okL_row oN) | (rw [← eJ]; omega) | (rw [← eW]; omega) | (rw [← eN]; omega) | exact ⟨rfl, (hp2.2 _ ‹_›).2⟩ | exact (hp2.2 _ ‹_›).2 | exact (hp2.2 _ ‹_›).2.1 | exact (hp2.2 _ ‹_›).2.2 | exact hp2.1 | (intro h; exact absurd h (Nat.not_lt_zero _)) | rfl | (exfalso; simp_all; done) | trace_state
  · cases h
end Go.Proofs.YthkknkhpfffnbaaGreat
