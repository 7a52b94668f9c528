/- Lists gone through one behind the other. No condition. -/
import Derived.Test.YtakcacejpbiogaaDoorKey14
import Derived.Test.YtakcacejpbiogaaDoorSxR
namespace Go.Proofs.YtakcacejpbiogaaDoor
set_option linter.all false
open Go.Sx

open Go.RowKit Go.Lib Go.Sort
abbrev kyV (k : Ky) : Value := .agg #[.string k.name, .int .i64 k.node]
/-- a row of lists of keys -/
structure Lsts (nl : Nat) (F : Nat → List DV) (LL : List (List Ky)) : Prop where
  len : LL.length = nl
  row : ∀ i, i < nl → ∃ f, F i = [.lst 2 (LL.getD i []).length f] ∧ (∀ j, j < (LL.getD i []).length → f j = kyC (atK (LL.getD i []) j)) ∧ (LL.getD i []).length ≤ 1000000000
  rng : ∀ x, x ∈ LL.flatten → rI x.node
def kAll (LL : List (List Ky)) : List Value := LL.flatten.map fun k => kyV k.cl
def kIx (LL : List (List Ky)) (i : Nat) : Nat := (LL.take i).flatten.length
theorem kIx_succ {LL : List (List Ky)} {i : Nat} (h : i < LL.length) : kIx LL (i + 1) = kIx LL i + (LL.getD i []).length := by
  unfold kIx
  rw [List.take_succ_eq_append_getElem h, List.flatten_append, List.length_append, List.getD_eq_getElem?_getD, List.getElem?_eq_getElem h]
  simp
theorem kIx_all (LL : List (List Ky)) : kIx LL LL.length = (kAll LL).length := by unfold kIx kAll; rw [List.take_length, List.length_map]
theorem kAt {LL : List (List Ky)} {i j : Nat} (h : i < LL.length) (hj : j < (LL.getD i []).length) : (LL.flatten)[kIx LL i + j]? = some (atK (LL.getD i []) j) := by
  have e : LL.flatten = (LL.take i).flatten ++ ((LL.getD i []) ++ (LL.drop (i + 1)).flatten) := by
    conv => lhs; rw [← List.take_append_drop i LL, List.flatten_append, List.drop_eq_getElem_cons h, List.flatten_cons]
    rw [List.getD_eq_getElem?_getD, List.getElem?_eq_getElem h]; rfl
  rw [e]
  unfold kIx
  rw [List.getElem?_append_right (by omega), Nat.add_sub_cancel_left, List.getElem?_append_left hj]
  generalize LL.getD i [] = L at *
  unfold atK
  rw [List.getD_eq_getElem?_getD, List.getElem?_eq_getElem hj]; rfl
theorem kAll_at {LL : List (List Ky)} {i j : Nat} (h : i < LL.length) (hj : j < (LL.getD i []).length) : (kAll LL)[kIx LL i + j]? = some (kyV (atK (LL.getD i []) j).cl) := by
  unfold kAll; rw [List.getElem?_map, kAt h hj]; rfl
theorem kRng {LL : List (List Ky)} {nl : Nat} {F : Nat → List DV} (hL : Lsts nl F LL) {i j : Nat} (h : i < nl) (hj : j < (LL.getD i []).length) : rI (atK (LL.getD i []) j).node :=
  hL.rng _ (List.mem_of_getElem? (kAt (by rw [hL.len]; exact h) hj))
theorem agg_det {P : Program} {ψ : Psi} {S : Nat → Prop} {w : World} {a b : Value} {u : Value} (h : RepT P ψ S w (.va (.agg [.d (.v a), .d (.v b)])) u) : u = .agg #[a, b] := by
  obtain ⟨arr, rfl, h⟩ := h
  obtain ⟨l⟩ := arr
  match l, h with
  | [x, y], ⟨h1, h2, _⟩ =>
    have e1 : ∀ z v, RepD S w (.v z) v → v = z := fun z v h => by cases h; rfl
    rw [e1 _ _ h1.1, e1 _ _ h2.1]
set_option maxRecDepth 100000 in
set_option maxHeartbeats 2000000 in
theorem chain_seq {S : Nat → Prop} {W : World} {nl : Nat} {F : Nat → List DV} {LL : List (List Ky)} (hL : Lsts nl F LL) (hnl : nl ≤ 1000000000) {p : Value} (hS : SOk Tryd.prog S W) (hp : RepC Tryd.prog (fun _ => none) S W (.rp [.lst 1 nl F]) p) :
    SeqOk Tryd.prog 73 #[p] (kAll LL) S W := by
  refine seqOk_of Tryd.func73 rfl (by decide) rfl hS hp fun l J hab hY => ?_
  refine ISat.seq (ISat.vc tys_ok (L := [(29, ⟨[], FKyClean⟩)]) ⟨fcKyClean, trivial⟩ (by kernel_rfl) hab ?_)
  repeat' (first | exact trivial | refine ⟨?_, ?_⟩ | intro _)
  all_goals first | (with_reducible show (_ : Int) ≤ _) | (with_reducible show (_ : Int) < _) | (with_reducible show (_ : Nat) ≤ _) | (with_reducible show (_ : Nat) < _) | (conv => whnf)
  refine ISat.block (ISat.le hab [] 0 ?_ (ISat.loop hab (X := Nat) (fun i => ⟨[(0, .va (.c (.d (.v (.func (.yield l) #[] #[]))))), (7, .va (.c (.d (.lst 1 nl F)))), (8, vx (.int .i64 nl)), (9, vx (.int .i64 i))], [], 0, 26⟩) (kIx LL) (fun i => nl - i) (fun i => i ≤ nl) (fun i => i + 1) [] 0 ?_ 0 (Nat.zero_le _) rfl))
  · repeat' (first | exact trivial | exact rfl | (intro _ _; exact rfl) | refine ⟨?_, ?_⟩ | fail)
  intro i hi
  refine ISat.seq (ISat.vc tys_ok (L := [(29, ⟨[], FKyClean⟩)]) ⟨fcKyClean, trivial⟩ (by kernel_rfl) hab ?_)
  repeat' (first | exact trivial | refine ⟨?_, ?_⟩ | intro _)
  all_goals first | (with_reducible show (_ : Int) ≤ _) | (with_reducible show (_ : Int) < _) | (with_reducible show (_ : Nat) ≤ _) | (with_reducible show (_ : Nat) < _) | (conv => whnf)
  refine ISat.seq (ISat.vc tys_ok (L := [(29, ⟨[], FKyClean⟩)]) ⟨fcKyClean, trivial⟩ (by kernel_rfl) hab ?_)
  repeat' (first | exact trivial | refine ⟨?_, ?_⟩ | intro _)
  all_goals first | (with_reducible show (_ : Int) ≤ _) | (with_reducible show (_ : Int) < _) | (with_reducible show (_ : Nat) ≤ _) | (with_reducible show (_ : Nat) < _) | (conv => whnf)
  · have hlt : i < nl := by have := of_decide_eq_true ‹decide ((i : Int) < nl) = true›; omega
    obtain ⟨f, hf, hfj, hfl⟩ := hL.row i hlt
    refine ISat.seq (ISat.block (ISat.seq (ISat.vc tys_ok (L := [(29, ⟨[], FKyClean⟩)]) ⟨fcKyClean, trivial⟩ (by kernel_rfl) hab ?_)))
    repeat' (first | exact trivial | refine ⟨?_, ?_⟩ | intro _)
    all_goals first | (with_reducible show (_ : Int) ≤ _) | (with_reducible show (_ : Int) < _) | (with_reducible show (_ : Nat) ≤ _) | (with_reducible show (_ : Nat) < _) | (conv => whnf)
    all_goals first | omega | skip
    simp only [Int.toNat_natCast, Nat.zero_add, hf]
    repeat' (first | exact trivial | refine ⟨?_, ?_⟩ | intro _)
    all_goals first | (with_reducible show (_ : Int) ≤ _) | (with_reducible show (_ : Int) < _) | (with_reducible show (_ : Nat) ≤ _) | (with_reducible show (_ : Nat) < _) | (conv => whnf)
    refine ISat.seq (ISat.vc tys_ok (L := [(29, ⟨[], FKyClean⟩)]) ⟨fcKyClean, trivial⟩ (by kernel_rfl) hab ?_)
    repeat' (first | exact trivial | refine ⟨?_, ?_⟩ | intro _)
    all_goals first | (with_reducible show (_ : Int) ≤ _) | (with_reducible show (_ : Int) < _) | (with_reducible show (_ : Nat) ≤ _) | (with_reducible show (_ : Nat) < _) | (conv => whnf)
    refine ISat.block (ISat.le hab [] 0 ?_ (ISat.loop hab (X := Nat) (fun j => ⟨[(0, .va (.c (.d (.v (.func (.yield l) #[] #[]))))), (7, .va (.c (.d (.lst 1 nl F)))), (8, vx (.int .i64 nl)), (9, vx (.int .i64 i)), (13, .va (.c (.d (.lst 2 (LL.getD i []).length f)))), (14, vx (.int .i64 (LL.getD i []).length)), (15, vx (.int .i64 j))], [], 0, 26⟩) (fun j => kIx LL i + j) (fun j => (LL.getD i []).length - j) (fun j => j ≤ (LL.getD i []).length) (fun j => j + 1) [] 0 ?_ 0 (Nat.zero_le _) rfl))
    · repeat' (first | exact trivial | exact rfl | (intro _ _; exact rfl) | refine ⟨?_, ?_⟩ | fail)
    intro j hj
    refine ISat.seq (ISat.vc tys_ok (L := [(29, ⟨[], FKyClean⟩)]) ⟨fcKyClean, trivial⟩ (by kernel_rfl) hab ?_)
    repeat' (first | exact trivial | refine ⟨?_, ?_⟩ | intro _)
    all_goals first | (with_reducible show (_ : Int) ≤ _) | (with_reducible show (_ : Int) < _) | (with_reducible show (_ : Nat) ≤ _) | (with_reducible show (_ : Nat) < _) | (conv => whnf)
    refine ISat.seq (ISat.vc tys_ok (L := [(29, ⟨[], FKyClean⟩)]) ⟨fcKyClean, trivial⟩ (by kernel_rfl) hab ?_)
    repeat' (first | exact trivial | refine ⟨?_, ?_⟩ | intro _)
    all_goals first | (with_reducible show (_ : Int) ≤ _) | (with_reducible show (_ : Int) < _) | (with_reducible show (_ : Nat) ≤ _) | (with_reducible show (_ : Nat) < _) | (conv => whnf)
    · have hjl : j < (LL.getD i []).length := by have := of_decide_eq_true ‹decide ((j : Int) < (LL.getD i []).length) = true›; omega
      have hfj' := hfj j hjl
      have hri := kRng hL hlt hjl
      have hri2 := Ky.cl_r hri
      unfold rI at hri hri2
      refine ISat.seq (ISat.block (ISat.seq (ISat.vc tys_ok (L := [(29, ⟨[], FKyClean⟩)]) ⟨fcKyClean, trivial⟩ (by kernel_rfl) hab ?_)))
      repeat' (first | exact trivial | (with_reducible exact (Nat.le_refl 0)) | refine ⟨?_, ?_⟩ | intro _)
      all_goals first | (with_reducible show (_ : Int) ≤ _) | (with_reducible show (_ : Int) < _) | (with_reducible show (_ : Nat) ≤ _) | (with_reducible show (_ : Nat) < _) | (conv => whnf)
      all_goals first | omega | skip
      simp only [Int.toNat_natCast, Nat.zero_add, hfj']
      repeat' (first | exact trivial | (with_reducible exact (Nat.le_refl 0)) | refine ⟨?_, ?_⟩ | intro _)
      all_goals first | (with_reducible show (_ : Int) ≤ _) | (with_reducible show (_ : Int) < _) | (with_reducible show (_ : Nat) ≤ _) | (with_reducible show (_ : Nat) < _) | (conv => whnf)
      refine ISat.seq (ISat.yield tys_ok (L := [(29, ⟨[], FKyClean⟩)]) ⟨fcKyClean, trivial⟩ hab hY 3 rfl (by kernel_rfl) rfl rfl (kAll_at (by rw [hL.len]; exact hlt) hjl) (fun ψ S w u h => agg_det h) ?_)
      repeat' (first | exact trivial | (with_reducible exact (Nat.le_refl 0)) | refine ⟨?_, ?_⟩ | intro _)
      all_goals first | (with_reducible show (_ : Int) ≤ _) | (with_reducible show (_ : Int) < _) | (with_reducible show (_ : Nat) ≤ _) | (with_reducible show (_ : Nat) < _) | (conv => whnf)
      all_goals first | exact hri.1 | exact hri.2 | exact hri2.1 | exact hri2.2 | omega | rfl | skip
      all_goals refine ISat.vc tys_ok (L := [(29, ⟨[], FKyClean⟩)]) ⟨fcKyClean, trivial⟩ (by kernel_rfl) hab ?_
      repeat' (first | exact trivial | (with_reducible exact (Nat.le_refl 0)) | refine ⟨?_, ?_⟩ | intro _)
      all_goals first | (with_reducible show (_ : Int) ≤ _) | (with_reducible show (_ : Int) < _) | (with_reducible show (_ : Nat) ≤ _) | (with_reducible show (_ : Nat) < _) | (conv => whnf)
      all_goals first | (exact absurd ‹(!true) = true› (by decide)) | (exact absurd ‹(!false) = false› (by decide)) | exact .inr rfl | (exact ⟨.inr rfl, .inr rfl⟩) | skip
      refine ISat.vc tys_ok (L := [(29, ⟨[], FKyClean⟩)]) ⟨fcKyClean, trivial⟩ (by kernel_rfl) hab ?_
      repeat' (first | exact trivial | (with_reducible exact (Nat.le_refl 0)) | refine ⟨?_, ?_⟩ | intro _)
      all_goals first | (with_reducible show (_ : Int) ≤ _) | (with_reducible show (_ : Int) < _) | (with_reducible show (_ : Nat) ≤ _) | (with_reducible show (_ : Nat) < _) | (conv => whnf)
      all_goals first | omega | rfl | (exact congrArg (Value.int .i64) (by first | (rw [wI_id _ (by omega) (by omega)]; omega) | omega | (dsimp only; omega))) | (have hd := of_decide_eq_false ‹decide ((j : Int) < (LL.getD i []).length) = false›; rw [kIx_succ (by rw [hL.len]; exact hlt)]; omega) | trace_state
    · refine ISat.vc tys_ok (L := [(29, ⟨[], FKyClean⟩)]) ⟨fcKyClean, trivial⟩ (by kernel_rfl) hab ?_
      repeat' (first | exact trivial | (with_reducible exact (Nat.le_refl 0)) | refine ⟨?_, ?_⟩ | intro _)
      all_goals first | (with_reducible show (_ : Int) ≤ _) | (with_reducible show (_ : Int) < _) | (with_reducible show (_ : Nat) ≤ _) | (with_reducible show (_ : Nat) < _) | (conv => whnf)
      all_goals first | omega | rfl | (exact congrArg (Value.int .i64) (by first | (rw [wI_id _ (by omega) (by omega)]; omega) | omega | (dsimp only; omega))) | (have hd := of_decide_eq_false ‹decide ((j : Int) < (LL.getD i []).length) = false›; rw [kIx_succ (by rw [hL.len]; exact hlt)]; omega) | trace_state
  · exact .inl rfl
  · have hge : ¬ i < nl := by have := of_decide_eq_false ‹decide ((i : Int) < nl) = false›; omega
    have e : i = nl := by omega
    rw [e, ← kIx_all, hL.len]; exact .inl rfl


end Go.Proofs.YtakcacejpbiogaaDoor
