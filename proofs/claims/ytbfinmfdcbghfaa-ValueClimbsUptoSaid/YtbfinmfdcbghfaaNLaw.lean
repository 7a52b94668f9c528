/- The plain law of the layer of names: what the library makes is what the reference makes. No program in sight. -/
import Derived.Test.YtbfinmfdcbghfaaNames4
namespace Go.Proofs.Ytbfinmfdcbghfaa
set_option linter.all false
open Go.Sx

open Go.Lib Go.Sort
abbrev kS (s : ByteArray) : List UInt8 := s.data.toList
theorem kS_inj {a b : ByteArray} (h : kS a = kS b) : a = b := by
  have : a.data = b.data := Array.ext' h
  cases a; cases b; simp_all
theorem kS_tl (s : ByteArray) : s.toList = kS s := ByteArray.toList_eq s
theorem slt_eq (a b : ByteArray) : slt a b = decide (kS a < kS b) := by unfold slt; rw [bytesLess_eq, kS_tl, kS_tl]
theorem sle_eq (a b : ByteArray) : sle a b = (decide (kS a < kS b) || decide (a = b)) := by unfold sle; rw [bytesLess_eq, seq_iff, kS_tl, kS_tl]
def Srt (l : List ByteArray) : Prop := l.Pairwise fun a b => kS a < kS b
/-- a name's place, by recursion -/
def insS (x : ByteArray) : List ByteArray → List ByteArray
  | [] => [x]
  | y :: ys => if kS x < kS y then x :: y :: ys else if x = y then y :: ys else y :: insS x ys
theorem foldl_in (x : ByteArray) (l : List ByteArray) : ∀ out, l.foldl (stepP x) (out, true) = (out ++ l, true) := by
  induction l with
  | nil => intro out; simp
  | cons y ys ih => intro out; rw [List.foldl_cons, stepP_in, ih]; simp
theorem foldl_put (x : ByteArray) (l : List ByteArray) : ∀ out, (if (l.foldl (stepP x) (out, false)).2 then (l.foldl (stepP x) (out, false)).1 else (l.foldl (stepP x) (out, false)).1 ++ [x]) = out ++ insS x l := by
  induction l with
  | nil => intro out; simp [insS]
  | cons y ys ih =>
    intro out
    rw [List.foldl_cons]
    unfold insS
    by_cases h1 : kS x < kS y
    · rw [if_pos h1, stepP_lt (by rw [sle_eq]; simp [h1]) (by rw [slt_eq]; simp [h1]), foldl_in]; simp
    · rw [if_neg h1]
      by_cases h2 : x = y
      · rw [if_pos h2, stepP_eq (by rw [sle_eq]; simp [h2]) (by rw [slt_eq]; simp [h1]), foldl_in]; simp
      · rw [if_neg h2, stepP_gt (by rw [sle_eq]; simp [h1, h2]), ih]; simp
theorem putS_ins (l : List ByteArray) (x : ByteArray) : putS l x = insS x l := by
  have := foldl_put x l []
  rw [List.nil_append] at this
  rw [← this]; rfl
theorem mem_ins {x z : ByteArray} {l : List ByteArray} : z ∈ insS x l ↔ z = x ∨ z ∈ l := by
  induction l with
  | nil => simp [insS]
  | cons y ys ih =>
    unfold insS
    split
    · simp
    · split
      · rename_i h; subst h; simp
      · simp only [List.mem_cons, ih]
        constructor
        · rintro (h | h | h) <;> simp [h]
        · rintro (h | h | h) <;> simp [h]
theorem kS_tri {a b : ByteArray} (h1 : ¬ kS a < kS b) (h2 : ¬ a = b) : kS b < kS a := by
  rcases Decidable.em (kS b < kS a) with h | h
  · exact h
  · exact absurd (kS_inj (List.le_antisymm (List.not_lt.1 h) (List.not_lt.1 h1))) h2
theorem srt_ins {x : ByteArray} {l : List ByteArray} (h : Srt l) : Srt (insS x l) := by
  induction l with
  | nil => simp [insS, Srt]
  | cons y ys ih =>
    unfold Srt at h ih ⊢
    rw [List.pairwise_cons] at h
    unfold insS
    split
    · rename_i hx
      rw [List.pairwise_cons, List.pairwise_cons]
      refine ⟨fun a ha => ?_, h⟩
      rcases List.mem_cons.1 ha with rfl | ha
      · exact hx
      · exact List.lt_trans hx (h.1 a ha)
    · split
      · rw [List.pairwise_cons]; exact h
      · rename_i h1 h2
        rw [List.pairwise_cons]
        refine ⟨fun a ha => ?_, ih h.2⟩
        rcases mem_ins.1 ha with rfl | ha
        · exact kS_tri h1 h2
        · exact h.1 a ha
theorem cleanS_fold (l : List ByteArray) : ∀ s, Srt s → Srt (l.foldl putS s) ∧ ∀ z, z ∈ l.foldl putS s ↔ z ∈ s ∨ z ∈ l := by
  induction l with
  | nil => intro s h; exact ⟨h, fun z => by simp⟩
  | cons x l ih =>
    intro s h
    rw [List.foldl_cons, putS_ins]
    obtain ⟨h1, h2⟩ := ih _ (srt_ins (x := x) h)
    refine ⟨h1, fun z => ?_⟩
    rw [h2, mem_ins]
    simp only [List.mem_cons]
    constructor
    · rintro ((h | h) | h) <;> simp [h]
    · rintro (h | h | h) <;> simp [h]
theorem srt_nil : Srt [] := by simp [Srt]
theorem cleanS_srt (l : List ByteArray) : Srt (cleanS l) := (cleanS_fold l [] srt_nil).1
theorem cleanS_mem {l : List ByteArray} {z : ByteArray} : z ∈ cleanS l ↔ z ∈ l := by
  have := (cleanS_fold l [] srt_nil).2 z
  simpa [cleanS] using this
theorem srt_ext : ∀ {l m : List ByteArray}, Srt l → Srt m → (∀ z, z ∈ l ↔ z ∈ m) → l = m
  | [], [], _, _, _ => rfl
  | [], y :: m, _, _, h => absurd ((h y).2 (by simp)) (by simp)
  | x :: l, [], _, _, h => absurd ((h x).1 (by simp)) (by simp)
  | x :: l, y :: m, h1, h2, h => by
    unfold Srt at h1 h2
    rw [List.pairwise_cons] at h1 h2
    have hxy : x = y := by
      rcases List.mem_cons.1 ((h x).1 (by simp)) with e | e
      · exact e
      · rcases List.mem_cons.1 ((h y).2 (by simp)) with e' | e'
        · exact e'.symm
        · exact absurd (List.lt_trans (h1.1 y e') (h2.1 x e)) (List.lt_irrefl _)
    subst hxy
    congr 1
    refine srt_ext h1.2 h2.2 fun z => ?_
    have hz := h z
    simp only [List.mem_cons] at hz
    constructor
    · intro hl
      rcases hz.1 (.inr hl) with e | e
      · subst e; exact absurd (h1.1 z hl) (List.lt_irrefl _)
      · exact e
    · intro hm
      rcases hz.2 (.inr hm) with e | e
      · subst e; exact absurd (h2.1 z hm) (List.lt_irrefl _)
      · exact e
/-- striking what stands twice, of a row that does not fall -/
theorem compact_law {xs : List (List UInt8)} (hs : xs.Pairwise fun a b => ¬ b < a) : ∀ n, n ≤ xs.length →
    ((compactUpTo xs.toArray n).Pairwise fun a b => a < b) ∧ (∀ z, z ∈ compactUpTo xs.toArray n ↔ z ∈ xs.take n) := by
  intro n
  induction n with
  | zero => intro _; simp [compactUpTo]
  | succ n ih =>
    intro hn
    obtain ⟨h1, h2⟩ := ih (by omega)
    have hlt : n < xs.length := by omega
    have hget : (xs.toArray)[n]! = xs[n] := by simp [hlt]
    rw [compactUpTo_succ, hget]
    have htake : ∀ z, z ∈ xs.take (n + 1) ↔ z ∈ xs.take n ∨ z = xs[n] := by
      intro z
      rw [List.take_succ_eq_append_getElem hlt, List.mem_append, List.mem_singleton]
    have hle : ∀ z, z ∈ xs.take n → ¬ xs[n] < z := by
      intro z hz
      obtain ⟨i, hi, rfl⟩ := List.mem_take_iff_getElem.1 hz
      exact List.pairwise_iff_getElem.1 hs i n (by omega) hlt (by omega)
    by_cases hk : keeps xs.toArray n = true
    · rw [if_pos hk]
      refine ⟨?_, fun z => ?_⟩
      · rw [List.pairwise_append]
        refine ⟨h1, by simp, fun a ha b hb => ?_⟩
        simp only [List.mem_singleton] at hb
        subst hb
        have ha := (h2 a).1 ha
        have h3 := hle a ha
        rcases Decidable.em (a < xs[n]) with h | h
        · exact h
        · exfalso
          have he : a = xs[n] := List.le_antisymm (List.not_lt.1 h3) (List.not_lt.1 h)
          unfold keeps at hk
          rcases Nat.eq_zero_or_pos n with h0 | h0
          · subst h0; simp at ha
          · have hp : (xs.toArray)[n - 1]! = xs[n-1]'(by omega) := by
              rw [getElem!_pos _ _ (by simp; omega)]; simp
            rw [hget, hp] at hk
            have hne : ¬ xs[n] = xs[n-1]'(by omega) := by
              intro e
              simp [e] at hk
              omega
            obtain ⟨i, hi, rfl⟩ := List.mem_take_iff_getElem.1 ha
            rcases Nat.lt_or_ge i (n - 1) with h4 | h4
            · have q1 := List.pairwise_iff_getElem.1 hs i (n - 1) (by omega) (by omega) (by omega)
              have q2 := List.pairwise_iff_getElem.1 hs (n - 1) n (by omega) hlt (by omega)
              rw [he] at q1
              exact hne (List.le_antisymm (List.not_lt.1 q1) (List.not_lt.1 q2))
            · have : i = n - 1 := by omega
              subst this
              exact hne he.symm
      · rw [List.mem_append, h2, htake]; simp
    · rw [if_neg hk, List.append_nil]
      refine ⟨h1, fun z => ?_⟩
      rw [h2, htake]
      constructor
      · exact .inl
      · rintro (h | h)
        · exact h
        · subst h
          unfold keeps at hk
          rcases Nat.eq_zero_or_pos n with h0 | h0
          · subst h0; simp at hk
          · have hp : (xs.toArray)[n - 1]! = xs[n-1]'(by omega) := by
              rw [getElem!_pos _ _ (by simp; omega)]; simp
            rw [hget, hp] at hk
            have he : xs[n] = xs[n-1]'(by omega) := by
              simp at hk
              exact hk.2
            rw [he]
            exact List.mem_take_iff_getElem.2 ⟨n - 1, by omega, rfl⟩
theorem bS_kS (s : ByteArray) : bS (kS s) = s := by unfold bS kS; cases s; rfl
theorem kS_bS (l : List UInt8) : kS (bS l) = l := by unfold bS kS; simp
theorem map_kb (l : List (List UInt8)) : (l.map bS).map (fun s => s.data.toList) = l := by
  rw [List.map_map]
  have : (fun s : ByteArray => s.data.toList) ∘ bS = id := by funext x; exact kS_bS x
  rw [this, List.map_id]
theorem ofS_eq (l : List ByteArray) : ofS l = cleanS l := by
  have hs : (sortL l).Pairwise fun a b => ¬ b < a := by
    have := List.pairwise_mergeSort (le := fun x y : List UInt8 => !(ltOf cfL) y x) (fun a b c h1 h2 => by
      rw [ltOf_cfL] at *
      simp only [Bool.not_eq_true', decide_eq_false_iff_not, List.not_lt] at *
      exact List.le_trans h1 h2) (fun a b => by
      rw [ltOf_cfL, ltOf_cfL]
      simp only [Bool.or_eq_true, Bool.not_eq_true', decide_eq_false_iff_not, List.not_lt]
      exact List.le_total a b) (l.map fun s => s.data.toList)
    refine this.imp fun {a b} h => ?_
    rw [ltOf_cfL] at h
    simpa using h
  have hc := compact_law hs (sortL l).length (Nat.le_refl _)
  rw [List.take_length] at hc
  have he : compL ((sortL l).map bS) = compactUpTo (sortL l).toArray (sortL l).length := by
    unfold compL; rw [map_kb]; rfl
  refine srt_ext ?_ (cleanS_srt l) fun z => ?_
  · unfold ofS Srt
    rw [List.pairwise_map, he]
    exact hc.1.imp fun h => by rw [kS_bS, kS_bS]; exact h
  · rw [cleanS_mem]
    unfold ofS
    rw [List.mem_map, he]
    constructor
    · rintro ⟨x, hx, rfl⟩
      rw [hc.2] at hx
      have hx : x ∈ l.map fun s => s.data.toList := List.mem_mergeSort.1 hx
      obtain ⟨s, hs, rfl⟩ := List.mem_map.1 hx
      rw [show bS s.data.toList = s from bS_kS s]
      exact hs
    · intro hz
      refine ⟨kS z, ?_, bS_kS z⟩
      rw [hc.2]
      exact List.mem_mergeSort.2 (List.mem_map.2 ⟨z, hz, rfl⟩)
theorem cleanS_fix {l : List ByteArray} (h : Srt l) : cleanS l = l := srt_ext (cleanS_srt l) h fun _ => cleanS_mem
theorem cleanS_idem (l : List ByteArray) : cleanS (cleanS l) = cleanS l := cleanS_fix (cleanS_srt l)
theorem subS_iff {l m : List ByteArray} : subS l m = true ↔ ∀ z, z ∈ l → z ∈ m := by
  unfold subS
  rw [List.all_eq_true]
  exact ⟨fun h z hz => memS_iff.1 (h z hz), fun h z hz => memS_iff.2 (h z hz)⟩


end Go.Proofs.Ytbfinmfdcbghfaa
