/- Rows of keys, in plain words. No condition. -/
import Derived.Test.YtakcacejpbiogaaDoorKey15
namespace Go.Proofs.YtakcacejpbiogaaDoor
set_option linter.all false
open Go.Sx

open Go.RowKit Go.Lib Go.Sort
def rowK (l : List Ky) : List Ky := l.foldl putK []
theorem rowK_snoc (l : List Ky) (k : Ky) : rowK (l ++ [k]) = putK (rowK l) k := by unfold rowK; rw [List.foldl_append]; rfl
theorem sk_nil : SK [] := ⟨List.Pairwise.nil, fun _ h => by cases h⟩
theorem rowK_sk (l : List Ky) : SK (rowK l) := snocRec (p := fun l => SK (rowK l)) sk_nil (fun l x ih => by rw [rowK_snoc]; exact put_sk ih x) l
theorem rowK_len (l : List Ky) : (rowK l).length ≤ l.length := snocRec (p := fun l => (rowK l).length ≤ l.length) (Nat.le_refl _) (fun l x ih => by rw [rowK_snoc, List.length_append]; have := put_len (rowK l) x; simp only [List.length_cons, List.length_nil]; omega) l
theorem rowK_mem (l : List Ky) (x : Ky) : x ∈ rowK l ↔ ∃ k, k ∈ l ∧ x = k.cl :=
  snocRec (p := fun l => x ∈ rowK l ↔ ∃ k, k ∈ l ∧ x = k.cl) (by simp [rowK]) (fun l k ih => by
    rw [rowK_snoc, mem_put (rowK_sk l), ih]
    constructor
    · rintro (h | ⟨q, h1, h2⟩)
      · exact ⟨k, by simp, h⟩
      · exact ⟨q, by simp [h1], h2⟩
    · rintro ⟨q, h1, h2⟩
      rcases List.mem_append.1 h1 with h | h
      · exact .inr ⟨q, h, h2⟩
      · rw [List.mem_singleton.1 h] at h2; exact .inl h2) l
theorem rowK_rng {l : List Ky} (h : ∀ x, x ∈ l → rI x.node) : ∀ x, x ∈ rowK l → rI x.node := fun x hx => by
  obtain ⟨k, h1, rfl⟩ := (rowK_mem l x).1 hx
  exact Ky.cl_r (h k h1)
/-- one more set in: it is there; it is not -/
theorem put_found {L : List Ky} {k : Ky} (hs : SK L) (h : foundQ L k.cl = true) : putK L k = L := by
  unfold foundQ at h
  obtain ⟨h1, h2⟩ := Bool.and_eq_true_iff.1 h
  have h1 := of_decide_eq_true h1
  have h2 := of_decide_eq_true h2
  obtain ⟨A, B, rfl, hA, hB⟩ := sk_split hs k
  have hl : lowQ (A ++ B) k.cl = A.length := by
    unfold lowQ
    rw [List.countP_append, List.countP_eq_length.2 (fun a ha => by rw [Ky.lt_cl2]; exact hA a ha), List.countP_eq_zero.2 (fun b hb => by rw [Ky.lt_cl2, hB b hb]; exact Bool.false_ne_true)]
    rfl
  rw [hl] at h1 h2
  cases B with
  | nil => simp at h1
  | cons b B =>
    have hb : atK (A ++ b :: B) A.length = b := by unfold atK; rw [List.getD_eq_getElem?_getD, List.getElem?_append_right (Nat.le_refl _)]; simp
    rw [hb, Ky.cl_cl] at h2
    have hbc : b.cl = b := hs.2 b (by simp)
    rw [hbc] at h2
    subst h2
    rw [put_split hA hB]
    congr 1
    rw [List.filter_cons_of_neg (by simp)]
    congr 1
    refine filt_ne (k := k.cl) fun c hc e => ?_
    have hp := (List.pairwise_append.1 hs.1).2.1
    have := (List.pairwise_cons.1 hp).1 c hc
    rw [e, Ky.lt_irrefl] at this; cases this
theorem put_new {L : List Ky} {k : Ky} (hs : SK L) (h : foundQ L k.cl = false) : (putK L k).length = L.length + 1 ∧ lowQ L k.cl ≤ L.length ∧ ∀ q, q < L.length + 1 → insF (rwK L) (lowQ L k.cl) (kyC k.cl) q = rwK (putK L k) q := by
  obtain ⟨A, B, rfl, hA, hB⟩ := sk_split hs k
  have hl : lowQ (A ++ B) k.cl = A.length := by
    unfold lowQ
    rw [List.countP_append, List.countP_eq_length.2 (fun a ha => by rw [Ky.lt_cl2]; exact hA a ha), List.countP_eq_zero.2 (fun b hb => by rw [Ky.lt_cl2, hB b hb]; exact Bool.false_ne_true)]
    rfl
  have hne : ∀ b, b ∈ B → b ≠ k.cl := by
    intro b hb e
    subst e
    have hlt : ∀ c, c ∈ B → c ≠ k.cl → True := fun _ _ _ => trivial
    cases B with
    | nil => cases hb
    | cons c B =>
      have hcb : atK (A ++ c :: B) A.length = c := by unfold atK; rw [List.getD_eq_getElem?_getD, List.getElem?_append_right (Nat.le_refl _)]; simp
      have hcc : c.cl = c := hs.2 c (by simp)
      have hc : c = k.cl := by
        rcases List.mem_cons.1 hb with h | h
        · exact h.symm
        · have hp := (List.pairwise_append.1 hs.1).2.1
          have h3 := (List.pairwise_cons.1 hp).1 _ h
          rw [Ky.lt_cl2, hB c (by simp)] at h3; cases h3
      unfold foundQ at h
      rw [hl, hcb, hcc, Ky.cl_cl, hc] at h
      simp at h
  have hp : putK (A ++ B) k = A ++ k.cl :: B := by rw [put_split hA hB, filt_ne hne]
  refine ⟨by rw [hp]; simp; omega, by rw [hl]; simp, fun q hq => ?_⟩
  rw [hl, hp]
  unfold insF
  show _ = kyC (atK (A ++ k.cl :: B) q)
  split
  · rename_i h1
    show kyC (atK (A ++ B) q) = _
    unfold atK
    rw [List.getD_eq_getElem?_getD, List.getElem?_append_left h1, List.getD_eq_getElem?_getD, List.getElem?_append_left h1]
  · split
    · rename_i h1 h2
      subst h2
      unfold atK
      rw [List.getD_eq_getElem?_getD, List.getElem?_append_right (Nat.le_refl _)]; simp
    · rename_i h1 h2
      show kyC (atK (A ++ B) (q - 1)) = _
      unfold atK
      rw [List.getD_eq_getElem?_getD, List.getElem?_append_right (by omega), List.getD_eq_getElem?_getD, List.getElem?_append_right (by omega)]
      obtain ⟨d, hd⟩ : ∃ d, q - A.length = d + 1 := ⟨q - A.length - 1, by omega⟩
      rw [hd, show q - 1 - A.length = d by omega]; rfl

end Go.Proofs.YtakcacejpbiogaaDoor
