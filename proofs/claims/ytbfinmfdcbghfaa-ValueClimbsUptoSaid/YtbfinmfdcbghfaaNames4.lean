/- What the rest of the layer of names computes. No condition. -/
import Derived.Test.YtbfinmfdcbghfaaBridge
namespace Go.Proofs.Ytbfinmfdcbghfaa
set_option linter.all false
open Go.Sx

open Go.RowKit Go.Lib Go.Sort
/-- a set's names, rising, each once, as the library makes them -/
def ofS (l : List ByteArray) : List ByteArray := (compL ((sortL l).map bS)).map bS
theorem gT_st (x : ByteArray) : gT [st x] = x := rfl
theorem ofS_len (l : List ByteArray) : (ofS l).length ≤ l.length := by
  have := compact_le (((sortL l).map bS).map fun s => s.data.toList)
  simpa [ofS, compL, sortL_length] using this
theorem ofS_len2 (l : List ByteArray) : (compL ((sortL l).map bS)).length = (ofS l).length := by simp [ofS]
theorem gN_put {len : Nat} {L : List (List UInt8)} (hL : L.length = len) (f : Nat → List DV) : gN len (fun i => if i < len then [.v (encStr L.toArray[i]!)] else f i) = L.map bS := by
  subst hL
  unfold gN
  apply List.ext_getElem
  · simp
  · intro i h1 h2
    have h3 : i < L.length := by simpa using h2
    simp [h3, gT, encStr, bS]
theorem put_at {len i : Nat} {L : List (List UInt8)} {f : Nat → List DV} (hi : i < len) : (fun i => if i < len then [DV.v (encStr L.toArray[i]!)] else f i) i = [st (gT ((fun i => if i < len then [DV.v (encStr L.toArray[i]!)] else f i) i))] := by
  simp [hi, gT, encStr]
theorem ofS_at {l : List ByteArray} {i : Nat} {M : List ByteArray} (hM : M = (sortL l).map bS) (hi : i < (compL M).length) : [DV.v (encStr (compRow M).toArray[i]!)] = [st (atS (ofS l) i)] := by
  subst hM
  have h2 : i < (compRow ((sortL l).map bS)).length := by unfold compRow; simp; omega
  unfold ofS atS
  simp only [List.getD_eq_getElem?_getD, List.getElem?_map, List.getElem?_eq_getElem hi, Option.map_some, Option.getD_some]
  simp only [List.getElem!_toArray]
  rw [getElem!_pos _ i h2]
  simp only [compRow, List.getElem_append_left hi]
  rfl

def FNClone : List Ar → Option Rs
  | [.c (.d (.lst 1 n0 f0))] => some ⟨(n0 * 16 ≤ 140737488351232 ∧ ∀ i, i < n0 → f0 i = [st (gT (f0 i))]), .va (.c (.ow 1 n0 fun i => [st (gT (f0 i))])), []⟩
  | _ => none
set_option maxHeartbeats 1000000 in
set_option maxRecDepth 100000 in
theorem fcNClone : FC Try.prog 81 FNClone := by
  intro xs pre r us h hp
  unfold FNClone at h
  split at h
  · rename_i n0 f0
    cases h
    have hp0 := hp
    refine FCat.of_eq (as' := [.c (.d (.lst 1 n0 fun i => [st (gT (f0 i))]))]) ?_ rfl rfl ?_
    · repeat' (first | exact trivial | exact rfl | refine ⟨?_, ?_⟩ | fail)
      all_goals first | exact hp0.2 | exact hp1.2 | exact hp2.2 | (intro i hi; exact (hp0.2 i hi).1) | (intro i hi; exact (hp1.2 i hi).1) | (intro i hi; exact (hp2.2 i hi).1) | grind
    refine fcat tys_ok (l := []) trivial Try.func81 rfl (by kernel_rfl) false ?_
    repeat' (first | exact trivial | refine ⟨?_, ?_⟩ | intro _)
    all_goals first | (with_reducible show (_ : Int) ≤ _) | (with_reducible show (_ : Int) < _) | (with_reducible show (_ : Nat) ≤ _) | (with_reducible show (_ : Nat) < _) | (conv => whnf)
    all_goals first | omega | (simp_all; done) | (simp [appRow]; done) | exact ‹_ = true → _› ‹_›
  · cases h
def FNOf : List Ar → Option Rs
  | [.c (.d (.v (.bool b0))), .c (.d (.lst 1 n1 f1))] => some ⟨(n1 * 16 ≤ 140737488351232 ∧ ∀ i, i < n1 → f1 i = [st (gT (f1 i))]), .va (Ns.ar (⟨b0, ofS (gN n1 f1)⟩)), []⟩
  | _ => none
set_option maxHeartbeats 1000000 in
set_option maxRecDepth 100000 in
theorem fcNOf : FC Try.prog 66 FNOf := by
  intro xs pre r us h hp
  unfold FNOf at h
  split at h
  · rename_i b0 n1 f1
    cases h
    have hp0 := hp
    refine FCat.of_eq (as' := [.c (.d (.v (.bool b0))), .c (.d (.lst 1 n1 fun i => [st (gT (f1 i))]))]) ?_ rfl rfl ?_
    · repeat' (first | exact trivial | exact rfl | refine ⟨?_, ?_⟩ | fail)
      all_goals first | exact hp0.2 | exact hp1.2 | exact hp2.2 | (intro i hi; exact (hp0.2 i hi).1) | (intro i hi; exact (hp1.2 i hi).1) | (intro i hi; exact (hp2.2 i hi).1) | grind
    refine fcat tys_ok (l := [(81, ⟨[], FNClone⟩)]) ⟨fcNClone, trivial⟩ Try.func66 rfl (by kernel_rfl) true ?_
    repeat' (first | exact trivial | refine ⟨?_, ?_⟩ | intro _)
    all_goals first | (with_reducible show (_ : Int) ≤ _) | (with_reducible show (_ : Int) < _) | (with_reducible show (_ : Nat) ≤ _) | (with_reducible show (_ : Nat) < _) | (conv => whnf)
    all_goals first | exact hp0.1 | rfl | refine acall_sort rfl (Nat.le_refl _) (fun _ _ => rfl) (by omega) ?_
    refine acall_compact rfl (Nat.le_refl _) (fun i hi => by simp [hi, gT, encStr]) (by omega) ?_
    repeat' (first | exact trivial | refine ⟨?_, ?_⟩ | intro _)
    all_goals first | (with_reducible show (_ : Int) ≤ _) | (with_reducible show (_ : Int) < _) | (with_reducible show (_ : Nat) ≤ _) | (with_reducible show (_ : Nat) < _) | (conv => whnf)
    all_goals (have hE := gN_put (len := n1) (L := sortL (gN n1 f1)) (by rw [sortL_length, gN_length]) (fun i => [st (gT (f1 i))]))
    all_goals (try simp only [gN_canon, gT_st, hE, ofS_len2])
    all_goals (have hL := ofS_len (gN n1 f1); rw [gN_length] at hL)
    all_goals first | omega | skip
    rename_i i hi
    simp only [gN_canon, gT_st, hE, ofS_len2] at hi
    have e0 : 0 + Int.toNat 0 + i = i := by simp
    rw [e0, if_pos (by omega)]
    exact ofS_at rfl (by rw [ofS_len2]; omega)
  · cases h
def FNClean : List Ar → Option Rs
  | [.agg [.d (.v (.bool b0)), .d (.lst 1 n0 f0)]] => some ⟨(n0 * 16 ≤ 140737488351232 ∧ ∀ i, i < n0 → f0 i = [st (gT (f0 i))]), .va (Ns.ar (⟨b0, ofS (gN n0 f0)⟩)), []⟩
  | _ => none
set_option maxHeartbeats 1000000 in
set_option maxRecDepth 100000 in
theorem fcNClean : FC Try.prog 39 FNClean := by
  intro xs pre r us h hp
  unfold FNClean at h
  split at h
  · rename_i b0 n0 f0
    cases h
    have hp0 := hp
    refine FCat.of_eq (as' := [.agg [.d (.v (.bool b0)), .d (.lst 1 n0 fun i => [st (gT (f0 i))])]]) ?_ rfl rfl ?_
    · repeat' (first | exact trivial | exact rfl | refine ⟨?_, ?_⟩ | fail)
      all_goals first | exact hp0.2 | exact hp1.2 | exact hp2.2 | (intro i hi; exact (hp0.2 i hi).1) | (intro i hi; exact (hp1.2 i hi).1) | (intro i hi; exact (hp2.2 i hi).1) | grind
    refine fcat tys_ok (l := [(66, ⟨[], FNOf⟩)]) ⟨fcNOf, trivial⟩ Try.func39 rfl (by kernel_rfl) true ?_
    repeat' (first | exact trivial | refine ⟨?_, ?_⟩ | intro _)
    all_goals first | (with_reducible show (_ : Int) ≤ _) | (with_reducible show (_ : Int) < _) | (with_reducible show (_ : Nat) ≤ _) | (with_reducible show (_ : Nat) < _) | (conv => whnf)
    all_goals first | exact hp0.1 | rfl | trace_state
  · cases h

end Go.Proofs.Ytbfinmfdcbghfaa
