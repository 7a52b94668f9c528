/- Rows of keys as data; the reference puts a key into a row. No condition. -/
import Derived.Test.YtakcacejpbiogaaDoorKey21
namespace Go.Proofs.YtakcacejpbiogaaDoor
set_option linter.all false
open Go.Sx

open Go.RowKit Go.Lib Go.Sort
/-- a row that a call gives for one's own may be taken as data -/
theorem FCat.cool {P : Program} {f : Nat} {xs : List Ar} {sz n : Nat} {g : Nat → List DV} (h : FCat P f xs (.va (.c (.ow sz n g))) []) : FCat P f xs (.va (.c (.d (.lst sz n g)))) [] := by
  intro S w vals ls hS hr hs
  refine (h S w vals ls hS hr hs).mono ?_
  rintro e w' ⟨v, S', ls', rfl, hrt, hus, hsep, hx⟩
  have hrt : RepIcs S' w' [.ow sz n g] [v] ls' := hrt
  obtain ⟨l, rest, rfl⟩ : ∃ l rest, ls' = l :: rest := by
    cases ls' with
    | nil => exact hrt.elim
    | cons l rest => exact ⟨l, rest, rfl⟩
  obtain ⟨h1, h2, h3⟩ := hrt
  obtain rfl : rest = [] := by
    cases rest with
    | nil => rfl
    | cons _ _ => exact h3.elim
  have hk : keptLocs [] ls = [] := by cases ls <;> rfl
  have hsep : Sep S' w' [l] := by rw [hk] at hsep; exact hsep
  cases l with
  | virt =>
    obtain ⟨hn, ad, rfl⟩ := h1
    subst hn
    refine ⟨_, S', [], rfl, ⟨.nil, trivial⟩, hus, by rw [hk]; trivial, ⟨hx.os, hx.tape, hx.output, hx.grow, hx.old, hx.later, hx.newS, fun b hb => (by obtain ⟨m, hm⟩ := hb; cases hm), hx.sdom⟩⟩
  | «at» b m =>
    obtain ⟨c, off, rfl, hnc, hoff⟩ := h1
    obtain ⟨arr, e, g1, g2, g3, g4, g5⟩ := h2
    obtain ⟨s1, s2, _, _⟩ := hsep
    have hlat : Later S' w' (fun b' => S' b' ∨ b' = b) w' := ⟨fun _ h => .inl h, fun _ _ => rfl⟩
    refine ⟨_, fun b' => S' b' ∨ b' = b, [], rfl, ⟨?_, trivial⟩, ?_, by rw [hk]; trivial, ⟨hx.os, hx.tape, hx.output, hx.grow, hx.old, ⟨fun b' hb => .inl (hx.later.1 b' hb), hx.later.2⟩, fun b' hb => ?_, fun b' hb => (by obtain ⟨m, hm⟩ := hb; cases hm), fun b' hb => ?_⟩⟩
    · by_cases hn : n = 0
      · subst hn; exact .nil
      · obtain ⟨o1, o2⟩ := hoff (by omega)
        refine .lst (fun i j => arr.getD (i * sz + j) undef) (.inr rfl) g4 (fun i j hi hj => ?_) (fun i j hi hj => (g5 i j hi hj).later hlat) hnc
        have := Nat.mul_le_mul_right sz (Nat.succ_le_of_lt hi)
        rw [Nat.succ_mul] at this
        have hlt : i * sz + j < arr.size := by omega
        rw [cell_at g1, show off + i * sz + j = i * sz + j by omega]
        simp [Array.getD, hlt]
    · have e : arsRows xs = [] ∧ ls = [] := by
        cases ha : arsRows xs with
        | nil => rw [ha] at hus; cases ls with
          | nil => exact ⟨rfl, rfl⟩
          | cons _ _ => exact hus.elim
        | cons _ _ => rw [ha] at hus; cases ls <;> exact hus.elim
      rw [e.1, e.2]; trivial
    · rcases hb with h | rfl
      · exact hx.newS b' h
      · rcases hx.newL b' ⟨m, by simp⟩ with h | h
        · exact .inr (.inl h)
        · exact .inr (.inr h)
    · rcases hb with h | rfl
      · exact hx.sdom b' h
      · exact s2
def coolR : Option Rs → Option Rs
  | some ⟨pre, .va (.c (.ow sz n g)), []⟩ => some ⟨pre, .va (.c (.d (.lst sz n g))), []⟩
  | _ => none
theorem fc_cool {P : Program} {f : Nat} {F : List Ar → Option Rs} (h : FC P f F) : FC P f fun xs => coolR (F xs) := by
  intro xs pre r us hF hp
  have hF : coolR (F xs) = some ⟨pre, r, us⟩ := hF
  unfold coolR at hF
  split at hF
  · rename_i pre' sz n g hF'
    cases hF
    exact FCat.cool (h xs _ _ [] hF' hp)
  · cases hF

def FCutK : List Ar → Option Rs
  | [.c (.d (.lst 2 n0 f0)), .agg [.d (.v (.string x1)), .d (.v (.int .i64 i1))]] => some ⟨(n0 ≤ 1000000000 ∧ RowsK n0 f0) ∧ (rI i1), .va (.c (.ow 2 (cutK (gKs n0 f0) (⟨x1, i1⟩ : Ky)).length (rwK (cutK (gKs n0 f0) (⟨x1, i1⟩ : Ky))))), []⟩
  | _ => none
set_option maxHeartbeats 3000000 in
set_option maxRecDepth 100000 in
theorem fcCutK : FC Tryd.prog 26 FCutK := by
  intro xs pre r us h hp
  unfold FCutK at h
  split at h
  · rename_i n0 f0 x1 i1
    cases h
    obtain ⟨hp0, hp1⟩ := hp
    refine FCat.deep (ys := [.c (.d (.lst 2 n0 (rwK (gKs n0 f0)))), .agg [.d (.v (.string x1)), .d (.v (.int .i64 i1))]]) ?_ ?_
    · repeat' (first | exact trivial | exact rfl | exact DvE.refl _ | refine ⟨?_, ?_⟩ | fail)
      all_goals first | exact canonK hp0.2.h
    refine fcat tys_ok (l := [(21, ⟨[], FRowK⟩), (51, ⟨[true], (FDeleteKf x1 i1)⟩), (52, ⟨[], FCutC⟩)]) ⟨fcRowK, (fcDeleteKf x1 i1), fcCutC, trivial⟩ Tryd.func26 rfl (by kernel_rfl) false ?_
    have hn := hp0.1
    have hO := rowsK_r hp0.2
    have hlen := gKs_length n0 f0
    generalize gKs n0 f0 = L at *
    clear hp0
    subst hlen
    have hrow : RowsK L.length (rwK L) := rowsK_of hO
    have hrk := rowsK_of (rowK_rng hO)
    have hrl := rowK_len L
    have hgl := gKs_row L
    have hgk := gKs_row (rowK L)
    repeat' (first | exact trivial | refine ⟨?_, ?_⟩ | intro _)
    all_goals first | (with_reducible show (_ : Int) ≤ _) | (with_reducible show (_ : Int) < _) | (with_reducible show (_ : Nat) ≤ _) | (with_reducible show (_ : Nat) < _) | (conv => whnf)
    all_goals (try simp only [hgl, hgk] at *)
    all_goals first | exact hrow | exact hrk | omega | exact hp1 | (unfold rI at hp1; omega) | rfl | skip
    all_goals trace_state
  · cases h
def FRowKd : List Ar → Option Rs := fun xs => coolR (FRowK xs)
theorem fcRowKd : FC Tryd.prog 21 FRowKd := fc_cool fcRowK
def FPutKd : List Ar → Option Rs := fun xs => coolR (FPutK xs)
theorem fcPutKd : FC Tryd.prog 25 FPutKd := fc_cool fcPutK
def FJoinKd : List Ar → Option Rs := fun xs => coolR (FJoinK xs)
theorem fcJoinKd : FC Tryd.prog 28 FJoinKd := fc_cool fcJoinK
def FCutKd : List Ar → Option Rs := fun xs => coolR (FCutK xs)
theorem fcCutKd : FC Tryd.prog 26 FCutKd := fc_cool fcCutK
def FRKPut : List Ar → Option Rs
  | [.c (.d (.lst 2 n0 f0)), .agg [.d (.v (.string x1)), .d (.v (.int .i64 i1))]] => some ⟨(n0 ≤ 1000000000 ∧ RowsK n0 f0) ∧ (rI i1) ∧ (SK (gKs n0 f0)), .va (.c (.d (lstK (putK (gKs n0 f0) (⟨x1, i1⟩ : Ky))))), []⟩
  | _ => none
set_option maxHeartbeats 8000000 in
set_option maxRecDepth 100000 in
theorem fcRKPut : FC Tryd.prog 50 FRKPut := by
  intro xs pre r us h hp
  unfold FRKPut at h
  split at h
  · rename_i n0 f0 x1 i1
    cases h
    obtain ⟨hp0, hp1, hp2⟩ := hp
    refine FCat.deep (ys := [.c (.d (.lst 2 n0 (rwK (gKs n0 f0)))), .agg [.d (.v (.string x1)), .d (.v (.int .i64 i1))]]) ?_ ?_
    · repeat' (first | exact trivial | exact rfl | exact DvE.refl _ | refine ⟨?_, ?_⟩ | fail)
      all_goals first | exact canonK hp0.2.h
    refine fcat tys_ok (l := [(12, ⟨[], FRKyClean⟩), (13, ⟨[], FRKyLess⟩)]) ⟨fcRKyClean, fcRKyLess, trivial⟩ Tryd.func50 rfl (by kernel_rfl) true ?_
    have hn := hp0.1
    have hR := rowsK_r hp0.2
    have hlen := gKs_length n0 f0
    generalize gKs n0 f0 = L at *
    clear hp0
    subst hlen
    have hkr := Ky.cl_r (k := ⟨x1, i1⟩) hp1
    have hkk := Ky.cl_cl ⟨x1, i1⟩
    have hlt2 := fun a => Ky.lt_cl2 a ⟨x1, i1⟩
    have hRa : ∀ q, q < L.length → rI (atK L q).node ∧ (atK L q).cl = atK L q := fun q hq => ⟨hR _ (atK_mem hq), hp2.2 _ (atK_mem hq)⟩
    repeat' (first | exact trivial | (with_reducible exact hp1) | refine ⟨?_, ?_⟩ | intro _)
    all_goals first | (with_reducible show (_ : Int) ≤ _) | (with_reducible show (_ : Int) < _) | (with_reducible show (_ : Nat) ≤ _) | (with_reducible show (_ : Nat) < _) | (conv => whnf)
    refine loop_ids tys_ok (l := [(12, ⟨[], FRKyClean⟩), (13, ⟨[], FRKyLess⟩)]) ⟨fcRKyClean, fcRKyLess, trivial⟩ (by kernel_rfl) (X := Nat)
      (fun i => ⟨[(6, vx (.int .i64 i)), (5, .va (.c (.osl 1 2 0 i))), (0, .va (.c (.d (.lst 2 L.length (rwK L))))), (3, .va (.c (.own 0 0)))], [(0, .cells [.d (st (Ky.cl ⟨x1, i1⟩).name), .d (it (Ky.cl ⟨x1, i1⟩).node)]), (1, .row 2 i (rwK L))], 2, 59⟩)
      (fun i => L.length - i) (fun i => i ≤ L.length ∧ ∀ q, q < i → Ky.lt (atK L q) ⟨x1, i1⟩ = true) [5] []
      (fun i _ _ => i + 1) (fun xs => match xs with | [t] => [0, oI t] | _ => []) [0] 0 1 0 ?_ ?_ ?_
    · exact ⟨Nat.zero_le _, fun q hq => absurd hq (Nat.not_lt_zero q)⟩
    · repeat' (first | exact trivial | exact rfl | (intro _ h; exact absurd h (Nat.not_lt_zero _)) | (intro _ _; exact rfl) | refine ⟨?_, ?_⟩ | fail)
      all_goals first | (simp; done) | trace_state
    · rintro i ⟨k1, k2⟩
      rcases Nat.lt_or_ge i L.length with hi | hi
      · have hne : decide ((i : Int) < (L.length : Int)) = true := decide_eq_true (by omega)
        have hib : (0 : Int) ≤ (i : Int) ∧ (i : Int) < (L.length : Int) := by omega
        have hra := hRa i hi
        have hrn : rI (atK L (Int.toNat (i : Int))).node := hra.1
        have hrc : (atK L (Int.toNat (i : Int))).cl = (atK L (Int.toNat (i : Int))) := hra.2
        cases hlt : Ky.lt ⟨(atK L (Int.toNat (i : Int))).name, (atK L (Int.toNat (i : Int))).node⟩ (Ky.cl ⟨x1, i1⟩) with
        | true =>
          have hlx : Ky.lt (atK L i) ⟨x1, i1⟩ = true := by rw [← hlt2]; exact hlt
          repeat' (first | exact trivial | (with_reducible exact (fun h => absurd (hne.symm.trans h) (by decide))) | (with_reducible exact (fun h => absurd (hlt.symm.trans h) (by decide))) | (with_reducible exact hib) | (with_reducible exact hrn) | (with_reducible exact hrc) | (with_reducible exact hkr) | (with_reducible exact hkk) | (with_reducible exact hp1) | refine ⟨?_, ?_⟩ | intro _)
          all_goals first | (with_reducible show (_ : Int) ≤ _) | (with_reducible show (_ : Int) < _) | (with_reducible show (_ : Nat) ≤ _) | (with_reducible show (_ : Nat) < _) | (conv => whnf)
          all_goals first | rfl | omega | (dsimp only; omega) | ((with_reducible show idsOk _ _ = true); rfl) | (exact congrArg (Value.int .i64) (by first | (rw [wI_id _ (by omega) (by omega)]; omega) | omega | (dsimp only; omega))) | (dsimp only; (exact congrArg (Value.int .i64) (by first | (rw [wI_id _ (by omega) (by omega)]; omega) | omega | (dsimp only; omega)))) | exact hkr.1 | exact hkr.2 | exact hrn.1 | exact hrn.2 | skip
          all_goals first | (rename_i q hq; dsimp only at hq; rcases Nat.lt_or_ge q i with hqi | hqi; exact k2 q hqi; rw [show q = i by omega]; exact hlx) | (rename_i q hq; unfold appRow; split; rfl; (rw [show q = i by omega, Nat.sub_self]; rfl)) | trace_state
        | false =>
          have hend : i < L.length → Ky.lt (atK L i) ⟨x1, i1⟩ = false := fun _ => by rw [← hlt2]; exact hlt
          have htw := twK_of (L := L) (k := ⟨x1, i1⟩) k1 k2 hend
          have hO0 : putO L ⟨x1, i1⟩ i i = L.take i ++ [(Ky.cl ⟨x1, i1⟩)] := by unfold putO; rw [Nat.sub_self]; rfl
          have hO1 : ∀ q, q < i + 1 → appRow i (rwK L) (Go.Sx.rowAt 2 [.v (.string (Ky.cl ⟨x1, i1⟩).name), .v (.int .i64 (Ky.cl ⟨x1, i1⟩).node)]) q = rwK (L.take i ++ [(Ky.cl ⟨x1, i1⟩)]) q := fun q hq => by
            have e := rwK_snoc (O := L.take i) (x := (Ky.cl ⟨x1, i1⟩)) (g := Go.Sx.rowAt 2 [.v (.string (Ky.cl ⟨x1, i1⟩).name), .v (.int .i64 (Ky.cl ⟨x1, i1⟩).node)]) (k := q) rfl (by rw [List.length_take, Nat.min_eq_left k1]; exact hq)
            rw [List.length_take, Nat.min_eq_left k1] at e
            rw [← e]
            unfold appRow
            by_cases hqi : q < i
            · rw [if_pos hqi, if_pos hqi]
              show kyC (atK L q) = kyC (atK (L.take i) q)
              unfold atK; rw [List.getD_eq_getElem?_getD, List.getD_eq_getElem?_getD, List.getElem?_take_of_lt hqi]
            · rw [if_neg hqi, if_neg hqi]
          clear k2 hend
          repeat' (first | exact trivial | (with_reducible exact (fun h => absurd (hne.symm.trans h) (by decide))) | (with_reducible exact (fun h => absurd (hlt.symm.trans h) (by decide))) | (with_reducible exact hib) | (with_reducible exact hrn) | (with_reducible exact hrc) | (with_reducible exact hkr) | (with_reducible exact hkk) | (with_reducible exact hp1) | refine ⟨?_, ?_⟩ | intro _)
          all_goals first | (with_reducible show (_ : Int) ≤ _) | (with_reducible show (_ : Int) < _) | (with_reducible show (_ : Nat) ≤ _) | (with_reducible show (_ : Nat) < _) | (conv => whnf)
          all_goals first | omega | exact hrn.1 | exact hrn.2 | exact hkr.1 | exact hkr.2 | skip
          refine loop_ids tys_ok (l := [(12, ⟨[], FRKyClean⟩), (13, ⟨[], FRKyLess⟩)]) ⟨fcRKyClean, fcRKyLess, trivial⟩ (by kernel_rfl) (X := Nat)
            (fun j => ⟨[(8, vx (.int .i64 j)), (5, .va (.c (.osl 1 2 0 (putO L ⟨x1, i1⟩ i j).length))), (0, .va (.c (.d (.lst 2 L.length (rwK L))))), (3, .va (.c (.own 0 0)))], [(0, .cells [.d (st (Ky.cl ⟨x1, i1⟩).name), .d (it (Ky.cl ⟨x1, i1⟩).node)]), (1, .row 2 (putO L ⟨x1, i1⟩ i j).length (rwK (putO L ⟨x1, i1⟩ i j)))], 2, 59⟩)
            (fun j => L.length - j) (fun j => i ≤ j ∧ j ≤ L.length) [5] []
            (fun j _ _ => j + 1) (fun xs => match xs with | [t] => [0, oI t] | _ => []) [0, 15] 0 0 i ?_ ?_ ?_
          · exact ⟨Nat.le_refl _, k1⟩
          · repeat' (first | exact trivial | exact rfl | (intro _ h; exact absurd h (Nat.not_lt_zero _)) | (intro _ _; exact rfl) | refine ⟨?_, ?_⟩ | fail)
            all_goals first | (rw [hO0]; rfl) | (rw [hO0, List.length_append, List.length_take, Nat.min_eq_left k1]; rfl) | (rw [hO0, List.length_append, List.length_take, Nat.min_eq_left k1]; simp; done) | (intro q hq; rw [hO0, ← hO1 q hq]; unfold appRow; simp only [Nat.zero_add]; done) | (intro q hq; rw [hO0, ← hO1 q hq]; unfold appRow; simp only [Nat.zero_add]; rfl) | trace_state
          · rintro j ⟨m1, m2⟩
            have mO := putO_len L ⟨x1, i1⟩ i j m1 m2
            rcases Nat.lt_or_ge j L.length with hj | hj
            · have hje : decide ((j : Int) < (L.length : Int)) = true := decide_eq_true (by omega)
              have hjb : (0 : Int) ≤ (j : Int) ∧ (j : Int) < (L.length : Int) := by omega
              have hs := putO_snoc (L := L) (k := ⟨x1, i1⟩) m1 hj
              by_cases he : atK L j = (Ky.cl ⟨x1, i1⟩)
              · rw [if_pos he] at hs
                have heq : (!((atK L (Int.toNat (j : Int))).name.toList == (Ky.cl ⟨x1, i1⟩).name.toList && ((atK L (Int.toNat (j : Int))).node == (Ky.cl ⟨x1, i1⟩).node && true))) = false := by
                  rw [keyEq_iff]; exact congrArg (!·) (decide_eq_true he)
                repeat' (first | exact trivial | (with_reducible exact (fun h => absurd (hje.symm.trans h) (by decide))) | (with_reducible exact (fun h => absurd (heq.symm.trans h) (by decide))) | (with_reducible exact hjb) | refine ⟨?_, ?_⟩ | intro _)
                all_goals first | (with_reducible show (_ : Int) ≤ _) | (with_reducible show (_ : Int) < _) | (with_reducible show (_ : Nat) ≤ _) | (with_reducible show (_ : Nat) < _) | (conv => whnf)
                all_goals first | rfl | omega | (dsimp only; omega) | ((with_reducible show idsOk _ _ = true); rfl) | (exact congrArg (Value.int .i64) (by first | (rw [wI_id _ (by omega) (by omega)]; omega) | omega | (dsimp only; omega))) | (dsimp only; (exact congrArg (Value.int .i64) (by first | (rw [wI_id _ (by omega) (by omega)]; omega) | omega | (dsimp only; omega)))) | skip
                all_goals (dsimp only; rw [hs])
                all_goals first | rfl | (rw [List.length_append]; rfl) | (simp; done) | exact rwK_snoc rfl ‹_› | trace_state
              · rw [if_neg he] at hs
                have heq : (!((atK L (Int.toNat (j : Int))).name.toList == (Ky.cl ⟨x1, i1⟩).name.toList && ((atK L (Int.toNat (j : Int))).node == (Ky.cl ⟨x1, i1⟩).node && true))) = true := by
                  rw [keyEq_iff]; exact congrArg (!·) (decide_eq_false he)
                repeat' (first | exact trivial | (with_reducible exact (fun h => absurd (hje.symm.trans h) (by decide))) | (with_reducible exact (fun h => absurd (heq.symm.trans h) (by decide))) | (with_reducible exact hjb) | refine ⟨?_, ?_⟩ | intro _)
                all_goals first | (with_reducible show (_ : Int) ≤ _) | (with_reducible show (_ : Int) < _) | (with_reducible show (_ : Nat) ≤ _) | (with_reducible show (_ : Nat) < _) | (conv => whnf)
                all_goals first | rfl | omega | (dsimp only; omega) | ((with_reducible show idsOk _ _ = true); rfl) | (exact congrArg (Value.int .i64) (by first | (rw [wI_id _ (by omega) (by omega)]; omega) | omega | (dsimp only; omega))) | (dsimp only; (exact congrArg (Value.int .i64) (by first | (rw [wI_id _ (by omega) (by omega)]; omega) | omega | (dsimp only; omega)))) | skip
                all_goals (dsimp only; rw [hs])
                all_goals first | rfl | (rw [List.length_append]; rfl) | (simp; done) | exact rwK_snoc rfl ‹_› | trace_state
            · have hje : decide ((j : Int) < (L.length : Int)) = false := decide_eq_false (by omega)
              obtain rfl : j = L.length := by omega
              rw [← htw] at *
              repeat' (first | exact trivial | (with_reducible exact (fun h => absurd (hje.symm.trans h) (by decide))) | refine ⟨?_, ?_⟩ | intro _)
              all_goals first | (with_reducible show (_ : Int) ≤ _) | (with_reducible show (_ : Int) < _) | (with_reducible show (_ : Nat) ≤ _) | (with_reducible show (_ : Nat) < _) | (conv => whnf)
              all_goals first | rfl | omega | (dsimp only; omega) | (intro q hq; rfl) | (rename_i q _; show rwK _ (0 + q) = _; rw [Nat.zero_add]) | trace_state
      · have hne : decide ((i : Int) < (L.length : Int)) = false := decide_eq_false (by omega)
        have hend : i < L.length → Ky.lt (atK L i) ⟨x1, i1⟩ = false := fun h => by omega
        have htw := twK_of (L := L) (k := ⟨x1, i1⟩) k1 k2 hend
        have hO0 : putO L ⟨x1, i1⟩ i i = L.take i ++ [(Ky.cl ⟨x1, i1⟩)] := by unfold putO; rw [Nat.sub_self]; rfl
        have hO1 : ∀ q, q < i + 1 → appRow i (rwK L) (Go.Sx.rowAt 2 [.v (.string (Ky.cl ⟨x1, i1⟩).name), .v (.int .i64 (Ky.cl ⟨x1, i1⟩).node)]) q = rwK (L.take i ++ [(Ky.cl ⟨x1, i1⟩)]) q := fun q hq => by
          have e := rwK_snoc (O := L.take i) (x := (Ky.cl ⟨x1, i1⟩)) (g := Go.Sx.rowAt 2 [.v (.string (Ky.cl ⟨x1, i1⟩).name), .v (.int .i64 (Ky.cl ⟨x1, i1⟩).node)]) (k := q) rfl (by rw [List.length_take, Nat.min_eq_left k1]; exact hq)
          rw [List.length_take, Nat.min_eq_left k1] at e
          rw [← e]
          unfold appRow
          by_cases hqi : q < i
          · rw [if_pos hqi, if_pos hqi]
            show kyC (atK L q) = kyC (atK (L.take i) q)
            unfold atK; rw [List.getD_eq_getElem?_getD, List.getD_eq_getElem?_getD, List.getElem?_take_of_lt hqi]
          · rw [if_neg hqi, if_neg hqi]
        clear k2 hend
        repeat' (first | exact trivial | (with_reducible exact (fun h => absurd (hne.symm.trans h) (by decide))) | refine ⟨?_, ?_⟩ | intro _)
        all_goals first | (with_reducible show (_ : Int) ≤ _) | (with_reducible show (_ : Int) < _) | (with_reducible show (_ : Nat) ≤ _) | (with_reducible show (_ : Nat) < _) | (conv => whnf)
        all_goals first | omega | skip
        refine loop_ids tys_ok (l := [(12, ⟨[], FRKyClean⟩), (13, ⟨[], FRKyLess⟩)]) ⟨fcRKyClean, fcRKyLess, trivial⟩ (by kernel_rfl) (X := Nat)
          (fun j => ⟨[(8, vx (.int .i64 j)), (5, .va (.c (.osl 1 2 0 (putO L ⟨x1, i1⟩ i j).length))), (0, .va (.c (.d (.lst 2 L.length (rwK L))))), (3, .va (.c (.own 0 0)))], [(0, .cells [.d (st (Ky.cl ⟨x1, i1⟩).name), .d (it (Ky.cl ⟨x1, i1⟩).node)]), (1, .row 2 (putO L ⟨x1, i1⟩ i j).length (rwK (putO L ⟨x1, i1⟩ i j)))], 2, 59⟩)
          (fun j => L.length - j) (fun j => i ≤ j ∧ j ≤ L.length) [5] []
          (fun j _ _ => j + 1) (fun xs => match xs with | [t] => [0, oI t] | _ => []) [0, 15] 0 0 i ?_ ?_ ?_
        · exact ⟨Nat.le_refl _, k1⟩
        · repeat' (first | exact trivial | exact rfl | (intro _ h; exact absurd h (Nat.not_lt_zero _)) | (intro _ _; exact rfl) | refine ⟨?_, ?_⟩ | fail)
          all_goals first | (rw [hO0]; rfl) | (rw [hO0, List.length_append, List.length_take, Nat.min_eq_left k1]; rfl) | (rw [hO0, List.length_append, List.length_take, Nat.min_eq_left k1]; simp; done) | (intro q hq; rw [hO0, ← hO1 q hq]; unfold appRow; simp only [Nat.zero_add]; done) | (intro q hq; rw [hO0, ← hO1 q hq]; unfold appRow; simp only [Nat.zero_add]; rfl) | trace_state
        · rintro j ⟨m1, m2⟩
          have mO := putO_len L ⟨x1, i1⟩ i j m1 m2
          rcases Nat.lt_or_ge j L.length with hj | hj
          · have hje : decide ((j : Int) < (L.length : Int)) = true := decide_eq_true (by omega)
            have hjb : (0 : Int) ≤ (j : Int) ∧ (j : Int) < (L.length : Int) := by omega
            have hs := putO_snoc (L := L) (k := ⟨x1, i1⟩) m1 hj
            by_cases he : atK L j = (Ky.cl ⟨x1, i1⟩)
            · rw [if_pos he] at hs
              have heq : (!((atK L (Int.toNat (j : Int))).name.toList == (Ky.cl ⟨x1, i1⟩).name.toList && ((atK L (Int.toNat (j : Int))).node == (Ky.cl ⟨x1, i1⟩).node && true))) = false := by
                rw [keyEq_iff]; exact congrArg (!·) (decide_eq_true he)
              repeat' (first | exact trivial | (with_reducible exact (fun h => absurd (hje.symm.trans h) (by decide))) | (with_reducible exact (fun h => absurd (heq.symm.trans h) (by decide))) | (with_reducible exact hjb) | refine ⟨?_, ?_⟩ | intro _)
              all_goals first | (with_reducible show (_ : Int) ≤ _) | (with_reducible show (_ : Int) < _) | (with_reducible show (_ : Nat) ≤ _) | (with_reducible show (_ : Nat) < _) | (conv => whnf)
              all_goals first | rfl | omega | (dsimp only; omega) | ((with_reducible show idsOk _ _ = true); rfl) | (exact congrArg (Value.int .i64) (by first | (rw [wI_id _ (by omega) (by omega)]; omega) | omega | (dsimp only; omega))) | (dsimp only; (exact congrArg (Value.int .i64) (by first | (rw [wI_id _ (by omega) (by omega)]; omega) | omega | (dsimp only; omega)))) | skip
              all_goals (dsimp only; rw [hs])
              all_goals first | rfl | (rw [List.length_append]; rfl) | (simp; done) | exact rwK_snoc rfl ‹_› | trace_state
            · rw [if_neg he] at hs
              have heq : (!((atK L (Int.toNat (j : Int))).name.toList == (Ky.cl ⟨x1, i1⟩).name.toList && ((atK L (Int.toNat (j : Int))).node == (Ky.cl ⟨x1, i1⟩).node && true))) = true := by
                rw [keyEq_iff]; exact congrArg (!·) (decide_eq_false he)
              repeat' (first | exact trivial | (with_reducible exact (fun h => absurd (hje.symm.trans h) (by decide))) | (with_reducible exact (fun h => absurd (heq.symm.trans h) (by decide))) | (with_reducible exact hjb) | refine ⟨?_, ?_⟩ | intro _)
              all_goals first | (with_reducible show (_ : Int) ≤ _) | (with_reducible show (_ : Int) < _) | (with_reducible show (_ : Nat) ≤ _) | (with_reducible show (_ : Nat) < _) | (conv => whnf)
              all_goals first | rfl | omega | (dsimp only; omega) | ((with_reducible show idsOk _ _ = true); rfl) | (exact congrArg (Value.int .i64) (by first | (rw [wI_id _ (by omega) (by omega)]; omega) | omega | (dsimp only; omega))) | (dsimp only; (exact congrArg (Value.int .i64) (by first | (rw [wI_id _ (by omega) (by omega)]; omega) | omega | (dsimp only; omega)))) | skip
              all_goals (dsimp only; rw [hs])
              all_goals first | rfl | (rw [List.length_append]; rfl) | (simp; done) | exact rwK_snoc rfl ‹_› | trace_state
          · have hje : decide ((j : Int) < (L.length : Int)) = false := decide_eq_false (by omega)
            obtain rfl : j = L.length := by omega
            rw [← htw] at *
            repeat' (first | exact trivial | (with_reducible exact (fun h => absurd (hje.symm.trans h) (by decide))) | refine ⟨?_, ?_⟩ | intro _)
            all_goals first | (with_reducible show (_ : Int) ≤ _) | (with_reducible show (_ : Int) < _) | (with_reducible show (_ : Nat) ≤ _) | (with_reducible show (_ : Nat) < _) | (conv => whnf)
            all_goals first | rfl | omega | (dsimp only; omega) | (intro q hq; rfl) | (rename_i q _; show rwK _ (0 + q) = _; rw [Nat.zero_add]) | trace_state
  · cases h

end Go.Proofs.YtakcacejpbiogaaDoor
