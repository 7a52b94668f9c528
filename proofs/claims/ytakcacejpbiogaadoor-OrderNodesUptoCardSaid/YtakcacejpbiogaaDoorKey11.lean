/- What digits spell. No condition. -/
import Derived.Test.YtakcacejpbiogaaDoorKey10
namespace Go.Proofs.YtakcacejpbiogaaDoor
set_option linter.all false
open Go.Sx

open Go.RowKit Go.Lib Go.Sort
/-! what digits spell -/
def vL (acc : Nat) : List UInt8 → Nat
  | [] => acc
  | c :: r => vL (acc * 10 + (c.toNat - 48)) r
theorem vL_ge : ∀ (l : List UInt8) (acc : Nat), acc ≤ vL acc l
  | [], _ => Nat.le_refl _
  | c :: r, acc => by have := vL_ge r (acc * 10 + (c.toNat - 48)); show acc ≤ vL _ r; omega
theorem vL_snoc : ∀ (l : List UInt8) (acc : Nat) (c : UInt8), vL acc (l ++ [c]) = vL acc l * 10 + (c.toNat - 48)
  | [], _, _ => rfl
  | _ :: r, acc, c => vL_snoc r _ c
theorem parse_dig : ∀ (l : List UInt8) (acc : Nat), (∀ c, c ∈ l → 48 ≤ c.toNat ∧ c.toNat ≤ 57) → acc < 18446744073709551616 → parseUint10 acc l = if vL acc l < 18446744073709551616 then .ok (vL acc l) else .range
  | [], acc, _, h => by rw [parseUint10]; exact (if_pos h).symm
  | c :: r, acc, hc, h => by
    have h1 := hc c List.mem_cons_self
    have h2 := vL_ge r (acc * 10 + (c.toNat - 48))
    rw [parseUint10, if_pos h1]
    show _ = if vL (acc * 10 + (c.toNat - 48)) r < _ then NumEnd.ok (vL (acc * 10 + (c.toNat - 48)) r) else _
    split
    · rw [if_neg (by omega)]
    · split
      · rw [if_neg (by omega)]
      · exact parse_dig r _ (fun x hx => hc x (List.mem_cons_of_mem _ hx)) (by omega)
theorem atoi_dig {l : List UInt8} (hl : l ≠ []) (hc : ∀ c, c ∈ l → 48 ≤ c.toNat ∧ c.toNat ≤ 57) : Lib.atoiAll l = if vL 0 l ≤ 9223372036854775807 then .ok (vL 0 l : Nat) else .range := by
  cases l with
  | nil => exact absurd rfl hl
  | cons c r =>
    have h1 := hc c List.mem_cons_self
    have hp : parseMag (c :: r) = if vL 0 (c :: r) < 18446744073709551616 then .ok (vL 0 (c :: r)) else .range := by
      unfold parseMag
      rw [if_neg hl]; exact parse_dig _ 0 hc (by omega)
    unfold Lib.atoiAll
    dsimp only
    rw [if_neg (by omega), hp]
    have hn : ¬ c.toNat = 45 := by omega
    by_cases h : vL 0 (c :: r) < 18446744073709551616
    · rw [if_pos h]
      dsimp only
      by_cases h2 : vL 0 (c :: r) ≤ 9223372036854775807
      · rw [if_neg (by omega), if_neg (by omega), if_neg hn, if_pos h2]
      · rw [if_pos ⟨hn, by omega⟩, if_neg h2]
    · rw [if_neg h, if_neg (by omega)]
def vS (s : ByteArray) (i : Nat) : Nat := vL 0 (s.data.toList.take i)
theorem bAt_get {s : ByteArray} {i : Nat} (h : i < s.size) : s.data.toList[i]? = some (s.get! i) := by
  obtain ⟨a⟩ := s
  have h : i < a.size := h
  show a.toList[i]? = some (ByteArray.get! ⟨a⟩ i)
  simp [ByteArray.get!, h]
theorem vS_succ {s : ByteArray} {i : Nat} (h : i < s.size) : vS s (i + 1) = vS s i * 10 + (bAt s i - 48) := by
  unfold vS bAt
  have hg := bAt_get h
  have : s.data.toList.take (i + 1) = s.data.toList.take i ++ [s.get! i] := by
    rw [List.take_add_one, hg]; rfl
  rw [this, vL_snoc]
theorem vS_all (s : ByteArray) : vS s s.size = vL 0 s.data.toList := by
  unfold vS
  rw [List.take_of_length_le (by rw [Array.length_toList]; exact Nat.le_refl _)]
theorem vS_le {s : ByteArray} {i : Nat} (h : i ≤ s.size) : vS s i ≤ vS s s.size := by
  have key : ∀ k, i + k ≤ s.size → vS s i ≤ vS s (i + k) := by
    intro k
    induction k with
    | zero => intro _; exact Nat.le_refl _
    | succ k ih =>
      intro hk
      have h1 := ih (by omega)
      have h2 := vS_succ (s := s) (i := i + k) (by omega)
      rw [← Nat.add_assoc, h2]; omega
  have := key (s.size - i) (by omega)
  rwa [show i + (s.size - i) = s.size by omega] at this
theorem dig_all {s : ByteArray} (h : ∀ j, j < s.size → digB (bAt s j) = true) : ∀ c, c ∈ s.data.toList → 48 ≤ c.toNat ∧ c.toNat ≤ 57 := fun c hc => by
  obtain ⟨i, hi, e⟩ := List.mem_iff_getElem.1 hc
  have hi' : i < s.size := by have : s.data.toList.length = s.size := Array.length_toList
                              omega
  have h1 := bAt_get hi'
  rw [List.getElem?_eq_getElem hi] at h1
  have h2 := h i hi'
  unfold digB bAt at h2
  rw [decide_eq_true_eq] at h2
  have : s.get! i = c := by rw [← e]; exact (Option.some.inj h1).symm
  rw [this] at h2; omega
theorem empty_iff {s : ByteArray} : s = ⟨#[]⟩ ↔ s.size = 0 := by
  constructor
  · rintro rfl; rfl
  · intro h
    obtain ⟨a⟩ := s
    have : a = #[] := Array.eq_empty_of_size_eq_zero h
    rw [this]
/-- what a text spells, as the reference tells it -/
theorem num_ref_bad {s : ByteArray} (h : s.size = 0 ∨ (s.size > 1 ∧ byteAt s 0 = 48) ∨ ∃ i, i < s.size ∧ digB (bAt s i) = false) : numM s = (0, 3) := by
  refine num_bad ?_
  rcases h with h | h | ⟨i, hi, h⟩
  · exact .inr (.inl (empty_iff.2 h))
  · exact .inr (.inr h)
  · refine .inl ?_
    unfold oddIx
    cases hf : (List.range s.size).find? (fun i => !digB (bAt s i)) with
    | some j => exact Int.natCast_nonneg j
    | none =>
      rw [List.find?_eq_none] at hf
      have := hf i (List.mem_range.2 hi)
      rw [h] at this; simp at this
theorem num_ref_ok {s : ByteArray} (h0 : s.size ≠ 0) (h1 : ¬ (s.size > 1 ∧ byteAt s 0 = 48)) (h2 : ∀ j, j < s.size → digB (bAt s j) = true) : numM s = if vS s s.size ≤ 9223372036854775807 then (((vS s s.size : Nat) : Int), (0 : Int)) else ((0 : Int), (4 : Int)) := by
  have hnb : ¬ (oddIx s ≥ 0 ∨ s = ⟨#[]⟩ ∨ (s.size > 1 ∧ byteAt s 0 = 48)) := by
    rintro (q | q | q)
    · rw [oddIx_no h2] at q; omega
    · exact h0 (empty_iff.1 q)
    · exact h1 q
  have hl : s.data.toList ≠ [] := fun e => h0 (by
    have : s.data.toList.length = 0 := by rw [e]; rfl
    rw [Array.length_toList] at this; exact this)
  have ha := atoi_dig hl (dig_all h2)
  rw [← vS_all] at ha
  split
  · rename_i h; rw [if_pos h] at ha; exact num_ok hnb ha
  · rename_i h; rw [if_neg h] at ha; exact num_err hnb fun v q => by rw [ha] at q; cases q

end Go.Proofs.YtakcacejpbiogaaDoor
