/- Commands in plain words. No condition. -/
import Derived.Test.YtakcacejpbiogaaDoorOrd1
namespace Go.Proofs.YtakcacejpbiogaaDoor
set_option linter.all false
open Go.Sx

open Go.RowKit Go.Lib Go.Sort
structure Cm where
  kind : Int
  fn : ByteArray
  node : Int
  name : ByteArray
  n : Int
  text : ByteArray
abbrev Cm.ds (c : Cm) : List DV := [it c.kind, st c.fn, it c.node, st c.name, it c.n, st c.text]
abbrev cmIc (c : Cm) : List Ic := [.d (it c.kind), .d (st c.fn), .d (it c.node), .d (st c.name), .d (it c.n), .d (st c.text)]
def Cm.ar (c : Cm) : Ar := .agg (cmIc c)
abbrev eS : ByteArray := ⟨#[]⟩
abbrev ck (k : Int) : Cm := ⟨k, eS, 0, eS, 0, eS⟩
def Cm.ok (c : Cm) : Prop := rI c.kind ∧ rI c.node ∧ rI c.n
def kindW (s : ByteArray) : Int := if s = ⟨#[102, 117, 110, 99]⟩ then 1 else if s = ⟨#[103, 108, 111, 98, 97, 108]⟩ then 2 else if s = ⟨#[100, 114, 111, 112]⟩ then 3 else if s = ⟨#[118, 97, 108, 117, 101]⟩ then 4 else if s = ⟨#[114, 101, 97, 99, 104]⟩ then 5 else if s = ⟨#[97, 115, 115, 101, 114, 116]⟩ then 6 else if s = ⟨#[112, 111, 105, 110, 116, 115]⟩ then 7 else if s = ⟨#[119, 104, 111, 108, 101]⟩ then 8 else if s = ⟨#[98, 117, 100, 103, 101, 116]⟩ then 9 else 0
def wordW (k : Int) : ByteArray := if k = 1 then ⟨#[102, 117, 110, 99]⟩ else if k = 2 then ⟨#[103, 108, 111, 98, 97, 108]⟩ else if k = 3 then ⟨#[100, 114, 111, 112]⟩ else if k = 4 then ⟨#[118, 97, 108, 117, 101]⟩ else if k = 5 then ⟨#[114, 101, 97, 99, 104]⟩ else if k = 6 then ⟨#[97, 115, 115, 101, 114, 116]⟩ else if k = 7 then ⟨#[112, 111, 105, 110, 116, 115]⟩ else if k = 8 then ⟨#[119, 104, 111, 108, 101]⟩ else if k = 9 then ⟨#[98, 117, 100, 103, 101, 116]⟩ else eS
theorem kindW_cases (s : ByteArray) : kindW s = 0 ∨ (kindW s = 1 ∧ s = ⟨#[102, 117, 110, 99]⟩) ∨ (kindW s = 2 ∧ s = ⟨#[103, 108, 111, 98, 97, 108]⟩) ∨ (kindW s = 3 ∧ s = ⟨#[100, 114, 111, 112]⟩) ∨ (kindW s = 4 ∧ s = ⟨#[118, 97, 108, 117, 101]⟩) ∨ (kindW s = 5 ∧ s = ⟨#[114, 101, 97, 99, 104]⟩) ∨ (kindW s = 6 ∧ s = ⟨#[97, 115, 115, 101, 114, 116]⟩) ∨ (kindW s = 7 ∧ s = ⟨#[112, 111, 105, 110, 116, 115]⟩) ∨ (kindW s = 8 ∧ s = ⟨#[119, 104, 111, 108, 101]⟩) ∨ (kindW s = 9 ∧ s = ⟨#[98, 117, 100, 103, 101, 116]⟩) := by
  unfold kindW
  split
  · exact .inr (.inl ⟨rfl, ‹_›⟩)
  split
  · exact .inr (.inr (.inl ⟨rfl, ‹_›⟩))
  split
  · exact .inr (.inr (.inr (.inl ⟨rfl, ‹_›⟩)))
  split
  · exact .inr (.inr (.inr (.inr (.inl ⟨rfl, ‹_›⟩))))
  split
  · exact .inr (.inr (.inr (.inr (.inr (.inl ⟨rfl, ‹_›⟩)))))
  split
  · exact .inr (.inr (.inr (.inr (.inr (.inr (.inl ⟨rfl, ‹_›⟩))))))
  split
  · exact .inr (.inr (.inr (.inr (.inr (.inr (.inr (.inl ⟨rfl, ‹_›⟩)))))))
  split
  · exact .inr (.inr (.inr (.inr (.inr (.inr (.inr (.inr (.inl ⟨rfl, ‹_›⟩))))))))
  split
  · exact .inr (.inr (.inr (.inr (.inr (.inr (.inr (.inr (.inr (⟨rfl, ‹_›⟩)))))))))
  exact .inl rfl
theorem kindW_rng (s : ByteArray) : 0 ≤ kindW s ∧ kindW s < 10 := by
  rcases kindW_cases s with h | h | h | h | h | h | h | h | h | h <;> first | omega | (obtain ⟨h, _⟩ := h; omega)
def nameC (c : Cm) (s : ByteArray) : Cm × Int := if nameB s = true then ({ c with name := s }, 0) else (c, 3)
def numC (c : Cm) (s : ByteArray) : Cm × Int := if (numM s).2 = 0 then ({ c with n := (numM s).1 }, 0) else (c, (numM s).2)
def nodeC (c : Cm) (s : ByteArray) : Cm × Int := if (readM s).2 ≠ 0 then (c, (readM s).2) else if (readM s).1.node < 0 then (c, 3) else ({ c with fn := (readM s).1.name, node := (readM s).1.node }, 0)
def fin0 (x : Cm × Int) : Cm × Int := if x.2 = 0 then x else (ck 0, x.2)
/-- what stands behind a word, word by word -/
def readL (k : Int) (L : List ByteArray) : Cm × Int := match L with
  | [a] => if k = 3 ∨ k = 8 then fin0 (nameC (ck k) a) else if k = 9 then fin0 (numC (ck k) a) else if k = 4 ∨ k = 5 ∨ k = 6 then fin0 (nodeC (ck k) a) else (ck 0, 3)
  | [a, b] => if k = 4 ∨ k = 7 then (if (nodeC (ck k) a).2 = 0 then fin0 (nameC (nodeC (ck k) a).1 b) else (ck 0, (nodeC (ck k) a).2)) else (ck 0, 3)
  | _ => (ck 0, 3)
def readC (s : ByteArray) : Cm × Int :=
  if kindW (cutS s blS).1 = 0 ∨ (cutS s blS).2.2 = false then (ck 0, 3)
  else if kindW (cutS s blS).1 < 3 then ({ ck (kindW (cutS s blS).1) with text := (cutS s blS).2.1 }, 0)
  else readL (kindW (cutS s blS).1) (splitS (cutS s blS).2.1)
def textC (c : Cm) : ByteArray :=
  if c.kind < 1 ∨ 9 < c.kind then eS
  else if c.kind < 3 then wordW c.kind ++ blS ++ c.text
  else if c.kind = 3 ∨ c.kind = 8 then wordW c.kind ++ blS ++ c.name
  else if c.kind = 9 then wordW c.kind ++ blS ++ itoaS c.n
  else if c.kind = 5 ∨ c.kind = 6 ∨ (c.kind = 4 ∧ c.name = eS) then wordW c.kind ++ blS ++ textS ⟨c.fn, c.node⟩
  else wordW c.kind ++ blS ++ textS ⟨c.fn, c.node⟩ ++ blS ++ c.name
/-- digits alone are left out whole -/
theorem dropW_nil {α : Type} {p : α → Bool} : ∀ {l : List α}, l.dropWhile p = [] ↔ ∀ x, x ∈ l → p x = true
  | [] => by simp
  | a :: l => by
    rw [List.dropWhile_cons]
    cases h : p a with
    | true => rw [if_pos rfl, dropW_nil]; simp [h]
    | false => rw [if_neg (by simp)]; simp [h]
theorem first_bad {p : Nat → Bool} : ∀ (j : Nat), p j = false → ∃ i, i ≤ j ∧ (∀ q, q < i → p q = true) ∧ p i = false := fun j => by
  induction j using Nat.strongRecOn with
  | ind j ih =>
    intro h
    by_cases hx : ∃ q, q < j ∧ p q = false
    · obtain ⟨q, hq, h2⟩ := hx
      obtain ⟨i, h3, h4, h5⟩ := ih q hq h2
      exact ⟨i, by omega, h4, h5⟩
    · refine ⟨j, Nat.le_refl _, fun q hq => ?_, h⟩
      cases hp : p q with
      | true => rfl
      | false => exact absurd ⟨q, hq, hp⟩ hx
theorem dig_cont (x : UInt8) : digS.data.toList.contains x = digB (x.toNat : Int) := by
  have key : ∀ n, n < 256 → digS.data.toList.contains (UInt8.ofNat n) = digB ((UInt8.ofNat n).toNat : Int) := by decide +kernel
  have := key x.toNat (UInt8.toNat_lt x)
  rwa [UInt8.ofNat_toNat] at this
theorem trim_nil (s : ByteArray) : trimL s digS = eS ↔ oddIx s < 0 := by
  have e1 : trimL s digS = eS ↔ Lib.trimLeftS s.data.toList digS.data.toList = [] := by
    constructor
    · intro h; have := congrArg (fun x : ByteArray => x.data.toList) h; simpa [trimL, eS] using this
    · intro h; unfold trimL; rw [h] <;> rfl
  rw [e1]
  unfold Lib.trimLeftS
  have hat : ∀ j, j < s.size → ∃ hj : j < s.data.toList.length, bAt s j = (s.data.toList[j]'hj).toNat := fun j hj => by
    have hj2 : j < s.data.toList.length := by rw [sz_len]; exact hj
    refine ⟨hj2, ?_⟩
    rw [bAt_list hj, List.getElem?_eq_getElem hj2]; rfl
  rw [dropW_nil]
  constructor
  · intro h
    rw [oddIx_no fun j hj => ?_]; decide
    obtain ⟨hj2, e⟩ := hat j hj
    rw [e, ← dig_cont]; exact h _ (List.getElem_mem hj2)
  · intro h x hx
    obtain ⟨j, hj, rfl⟩ := List.mem_iff_getElem.1 hx
    rw [dig_cont]
    have hj' : j < s.size := by rw [← sz_len]; exact hj
    obtain ⟨hj2, e⟩ := hat j hj'
    rw [← e]
    cases hd : digB (bAt s j) with
    | true => rfl
    | false =>
      obtain ⟨i, hi, h1, h2⟩ := first_bad (p := fun i => digB (bAt s i)) j hd
      rw [oddIx_at (by omega) h1 h2] at h
      omega
/-! texts as lists, parted at blanks -/
theorem occ_c {c : UInt8} {l : List UInt8} {i : Nat} : Lib.occAt l [c] i = true ↔ l[i]? = some c := by
  unfold Lib.occAt
  cases h : l.drop i with
  | nil =>
    have : l[i]? = none := by rw [List.drop_eq_nil_iff] at h; exact List.getElem?_eq_none h
    rw [this]; simp
  | cons d r =>
    have : l[i]? = some d := by
      have := List.getElem?_drop (xs := l) (i := i) (j := 0)
      rw [h] at this; rw [Nat.add_zero] at this; exact this.symm
    rw [this]
    simp only [List.isPrefixOf, Bool.and_true, beq_iff_eq, Option.some.injEq]
    exact eq_comm
theorem occ_cn {c : UInt8} {l : List UInt8} {i : Nat} (h : l[i]? ≠ some c) : Lib.occAt l [c] i = false := by
  cases hh : Lib.occAt l [c] i with
  | false => rfl
  | true => exact absurd (occ_c.1 hh) h
theorem mem_ne {c : UInt8} {a : List UInt8} (h : c ∉ a) (i : Nat) : a[i]? ≠ some c := fun e => h (List.mem_of_getElem? e)
theorem ix_app {a b : List UInt8} (h : (32 : UInt8) ∉ a) : Lib.indexB (mkB (a ++ 32 :: b)) blS = (a.length : Nat) := by
  show Lib.index (a ++ 32 :: b).toArray.toList [32] = _
  rw [List.toList_toArray]
  refine Lib.index_first (by simp) ?_ fun j hj => ?_
  · rw [occ_c, List.getElem?_append_right (Nat.le_refl _)]; simp
  · exact occ_cn (by rw [List.getElem?_append_left hj]; exact mem_ne h j)
theorem ix_none {a : List UInt8} (h : (32 : UInt8) ∉ a) : Lib.indexB (mkB a) blS = -1 := by
  show Lib.index a.toArray.toList [32] = _
  rw [List.toList_toArray]
  exact Lib.index_none fun j _ => occ_cn (mem_ne h j)
theorem ext_pre (a b : List UInt8) : (mkB (a ++ b)).extract 0 a.length = mkB a := by rw [ext_mk]; simp
theorem ext_suf (a b : List UInt8) (c : UInt8) : (mkB (a ++ c :: b)).extract (a.length + 1) (mkB (a ++ c :: b)).size = mkB b := by
  rw [ext_mk, mkB_sz]
  have : (a ++ c :: b).drop (a.length + 1) = b := by
    rw [show a ++ c :: b = (a ++ [c]) ++ b by simp, show a.length + 1 = (a ++ [c]).length by simp]; exact List.drop_left
  rw [this, List.take_of_length_le (by simp; omega)]
theorem cutL_app {a b : List UInt8} (h : (32 : UInt8) ∉ a) : cutS (mkB (a ++ 32 :: b)) blS = (mkB a, mkB b, true) := by
  obtain ⟨h1, h2, h3⟩ := Lib.cutB_hit _ blS _ (ix_app (b := b) h)
  rw [ext_pre a (32 :: b)] at h1
  rw [show blS.size = 1 from rfl, ext_suf] at h2
  unfold cutS
  rw [h1, h2, h3] <;> rfl
theorem cutL_none {a : List UInt8} (h : (32 : UInt8) ∉ a) : cutS (mkB a) blS = (mkB a, eS, false) := by
  obtain ⟨h1, h2, h3⟩ := Lib.cutB_miss _ blS (ix_none h)
  unfold cutS
  rw [h1, h2, h3] <;> rfl
theorem split_app {a b : List UInt8} (h : (32 : UInt8) ∉ a) : splitS (mkB (a ++ 32 :: b)) = mkB a :: splitS (mkB b) := by
  have hx := ix_app (b := b) h
  unfold splitS
  rw [Lib.countB_hit _ blS _ (by decide) hx, Nat.add_comm 1, Lib.splitB_hit _ _ _ _ _ hx, Nat.add_zero, ext_pre a (32 :: b), show blS.size = 1 from rfl, ext_suf]
theorem split_none {a : List UInt8} (h : (32 : UInt8) ∉ a) : splitS (mkB a) = [mkB a] := by
  have hx := ix_none h
  unfold splitS
  rw [Lib.countB_miss _ _ hx]; rfl
theorem parts (s : ByteArray) : (∃ a, s = mkB a ∧ (32 : UInt8) ∉ a) ∨ ∃ a b, s = mkB (a ++ 32 :: b) ∧ (32 : UInt8) ∉ a := by
  by_cases h : (32 : UInt8) ∈ s.data.toList
  · obtain ⟨a, b, e, h2⟩ := List.eq_append_cons_of_mem h
    exact .inr ⟨a, b, by rw [← e, mkB_of], h2⟩
  · exact .inl ⟨s.data.toList, (mkB_of s).symm, h⟩
theorem split_ne (s : ByteArray) : ∃ a L, splitS s = a :: L := by
  rcases parts s with ⟨a, rfl, h⟩ | ⟨a, b, rfl, h⟩
  · exact ⟨_, _, split_none h⟩
  · exact ⟨_, _, split_app h⟩
theorem split_cut (s : ByteArray) : splitS s = (cutS s blS).1 :: if (cutS s blS).2.2 = true then splitS (cutS s blS).2.1 else [] := by
  rcases parts s with ⟨a, rfl, h⟩ | ⟨a, b, rfl, h⟩
  · rw [split_none h, cutL_none h]; rfl
  · rw [split_app h, cutL_app h]; rfl


end Go.Proofs.YtakcacejpbiogaaDoor
