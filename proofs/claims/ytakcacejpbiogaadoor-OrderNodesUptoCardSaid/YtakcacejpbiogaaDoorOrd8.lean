/- What is told is read. No condition. -/
import Derived.Test.YtakcacejpbiogaaDoorOrd7
namespace Go.Proofs.YtakcacejpbiogaaDoor
set_option linter.all false
open Go.Sx

open Go.RowKit Go.Lib Go.Sort
theorem good_nb {s : ByteArray} {i : Nat} (h : goodB s i = true) : bAt s i ≠ 32 := by
  intro e
  unfold goodB letB digB at h
  rw [e] at h
  simp at h
theorem name_nb {s : ByteArray} (h : nameB s = true) : (32 : UInt8) ∉ s.data.toList := by
  intro hm
  obtain ⟨i, hi, e⟩ := List.mem_iff_getElem.1 hm
  have hi2 : i < s.size := by rw [← sz_len]; exact hi
  refine good_nb (name_good h i hi2) ?_
  rw [bAt_list hi2, List.getElem?_eq_getElem hi, e]; rfl
theorem dd_nb (u : Nat) : (32 : UInt8) ∉ decDigits u := fun hm => by
  have := dd_dig u _ hm
  exact absurd this (by decide)
theorem cl_pos {k : Ky} (h : 0 ≤ k.node) : k.cl = k := by
  unfold Ky.cl
  obtain ⟨nm, n⟩ := k
  dsimp only at h ⊢
  congr 1
  first | (split <;> omega) | omega
theorem text_nb {k : Ky} (hn : nameB k.name = true) (h : 0 ≤ k.node) : (32 : UInt8) ∉ (textS k).data.toList := by
  rw [text_pos (by omega)]
  show (32 : UInt8) ∉ (k.name.data.toList ++ 46 :: decDigits k.node.toNat).toArray.toList
  rw [List.toList_toArray]
  simp only [List.mem_append, List.mem_cons, not_or]
  exact ⟨name_nb hn, by decide, dd_nb _⟩
theorem itoa_pos {n : Int} (h : 0 ≤ n) : itoaS n = mkB (decDigits n.toNat) := by
  rw [itoa_mk]
  unfold Lib.itoa
  by_cases hz : n = 0
  · subst hz; simp
  · rw [if_neg (by omega)]
theorem itoa_nb {n : Int} (h : 0 ≤ n) : (32 : UInt8) ∉ (itoaS n).data.toList := by
  rw [itoa_pos h]
  show (32 : UInt8) ∉ (decDigits n.toNat).toArray.toList
  rw [List.toList_toArray]
  exact dd_nb _
theorem word_nb {k : Int} (h1 : 1 ≤ k) (h9 : k ≤ 9) : (32 : UInt8) ∉ (wordW k).data.toList ∧ kindW (wordW k) = k := by
  have : k = 1 ∨ k = 2 ∨ k = 3 ∨ k = 4 ∨ k = 5 ∨ k = 6 ∨ k = 7 ∨ k = 8 ∨ k = 9 := by omega
  refine ⟨?_, (kindW_iff h1 h9).2 rfl⟩
  rcases this with rfl | rfl | rfl | rfl | rfl | rfl | rfl | rfl | rfl <;> decide
theorem app_list (a b : ByteArray) : a ++ blS ++ b = mkB (a.data.toList ++ 32 :: b.data.toList) := by
  conv => lhs; rw [← mkB_of a, ← mkB_of b]
  show mkB _ ++ mkB [32] ++ mkB _ = _
  rw [mkB_app, mkB_app]; simp
theorem split_self {a : ByteArray} (h : (32 : UInt8) ∉ a.data.toList) : splitS a = [a] := by
  conv => lhs; rw [← mkB_of a]
  rw [split_none h, mkB_of]
theorem rd_of' {k : Int} {r : ByteArray} (h3 : 3 ≤ k) (h9 : k ≤ 9) : readC (wordW k ++ blS ++ r) = readL k (splitS r) := by
  obtain ⟨h1, h2⟩ := word_nb (k := k) (by omega) h9
  have hc : cutS (wordW k ++ blS ++ r) blS = (wordW k, r, true) := by rw [app_list, cutL_app h1, mkB_of, mkB_of]
  unfold readC
  rw [hc]
  dsimp only
  rw [h2, if_neg (by rintro (q | q); omega; cases q), if_neg (by omega)]
theorem rd_one {k : Int} {a : ByteArray} (h3 : 3 ≤ k) (h9 : k ≤ 9) (ha : (32 : UInt8) ∉ a.data.toList) : readC (wordW k ++ blS ++ a) = readL k [a] := by
  rw [rd_of' h3 h9, split_self ha]
theorem rd_two {k : Int} {a b : ByteArray} (h3 : 3 ≤ k) (h9 : k ≤ 9) (ha : (32 : UInt8) ∉ a.data.toList) (hb : (32 : UInt8) ∉ b.data.toList) : readC (wordW k ++ blS ++ a ++ blS ++ b) = readL k [a, b] := by
  have e : wordW k ++ blS ++ a ++ blS ++ b = wordW k ++ blS ++ (a ++ blS ++ b) := by rw [ba_assoc, ba_assoc]
  rw [e, rd_of' h3 h9, app_list a b, split_app ha, mkB_of, mkB_of, split_self hb]
theorem node_fwd {c : Cm} {nm : ByteArray} {n : Int} (hn : nameB nm = true) (h0 : 0 ≤ n) (hr : rI n) : nodeC c (textS ⟨nm, n⟩) = ({ c with fn := nm, node := n }, 0) := by
  have e := read_text (k := ⟨nm, n⟩) hn hr
  rw [cl_pos (k := ⟨nm, n⟩) h0] at e
  unfold nodeC
  rw [e]
  dsimp only
  rw [if_neg (by decide), if_neg (by omega)]
theorem fwd_name {k : Int} {v : ByteArray} (h : k = 3 ∨ k = 8) (hv : nameB v = true) : readC (textC { ck k with name := v }) = ({ ck k with name := v }, 0) := by
  unfold textC
  dsimp only
  rw [if_neg (by omega), if_neg (by omega), if_pos h, rd_one (by omega) (by omega) (name_nb hv)]
  exact rl1N h (by rw [hv]; rfl) rfl
theorem fwd_num {n : Int} (h0 : 0 ≤ n) (hr : rI n) : readC (textC { ck 9 with n := n }) = ({ ck 9 with n := n }, 0) := by
  unfold textC
  dsimp only
  rw [if_neg (by decide), if_neg (by decide), if_neg (by decide), if_pos rfl, rd_one (by decide) (by decide) (itoa_nb h0)]
  show fin0 (numC (ck 9) (itoaS n)) = _
  unfold rI at hr
  rw [itoa_pos h0, numC_ok (num_dd n.toNat (by omega)), Int.toNat_of_nonneg h0]; rfl
theorem fwd_node {k n : Int} {nm : ByteArray} (h : k = 4 ∨ k = 5 ∨ k = 6) (hn : nameB nm = true) (h0 : 0 ≤ n) (hr : rI n) : readC (textC { ck k with fn := nm, node := n }) = ({ ck k with fn := nm, node := n }, 0) := by
  unfold textC
  dsimp only
  rw [if_neg (by omega), if_neg (by omega), if_neg (by omega), if_neg (by omega), if_pos (by rcases h with h | h | h; exact .inr (.inr ⟨h, rfl⟩); exact .inl h; exact .inr (.inl h)), rd_one (by omega) (by omega) (text_nb (k := ⟨nm, n⟩) hn h0), rl1D h rfl, node_fwd hn h0 hr]; rfl
theorem fwd_two {k n : Int} {nm v : ByteArray} (h : k = 4 ∨ k = 7) (hn : nameB nm = true) (hv : nameB v = true) (h0 : 0 ≤ n) (hr : rI n) : readC (textC { ck k with fn := nm, node := n, name := v }) = ({ ck k with fn := nm, node := n, name := v }, 0) := by
  unfold textC
  dsimp only
  have hve := name_ne hv
  rw [if_neg (by omega), if_neg (by omega), if_neg (by omega), if_neg (by omega), if_neg (by rintro (q | q | ⟨_, q⟩); omega; omega; exact hve q), rd_two (by omega) (by omega) (text_nb (k := ⟨nm, n⟩) hn h0) (name_nb hv)]
  show (if k = 4 ∨ k = 7 then (if (nodeC (ck k) (textS ⟨nm, n⟩)).2 = 0 then fin0 (nameC (nodeC (ck k) (textS ⟨nm, n⟩)).1 v) else _) else _) = _
  rw [if_pos h, node_fwd hn h0 hr, if_pos rfl, nameC_ok (by rw [hv]; rfl)]; rfl
/-! sizes -/
structure SzC (n : Nat) (c : Cm) : Prop where
  ok : c.ok
  fn : c.fn.size ≤ n
  name : c.name.size ≤ n
  text : c.text.size ≤ n
theorem SzC.ck {n : Nat} {k : Int} (h : rI k) : SzC n (ck k) := ⟨⟨h, by unfold rI; dsimp only; omega, by unfold rI; dsimp only; omega⟩, Nat.zero_le _, Nat.zero_le _, Nat.zero_le _⟩
theorem SzC.nameC {n : Nat} {c : Cm} {a : ByteArray} (h : SzC n c) (ha : a.size ≤ n) : SzC n (nameC c a).1 := by
  unfold Go.Proofs.YtakcacejpbiogaaDoor.nameC
  split
  · exact ⟨h.ok, h.fn, ha, h.text⟩
  · exact h
theorem SzC.numC {n : Nat} {c : Cm} {a : ByteArray} (h : SzC n c) : SzC n (numC c a).1 := by
  unfold Go.Proofs.YtakcacejpbiogaaDoor.numC
  split
  · exact ⟨⟨h.ok.1, h.ok.2.1, numM_rng a⟩, h.fn, h.name, h.text⟩
  · exact h
theorem readM_sz (s : ByteArray) : (readM s).1.name.size ≤ s.size := by
  have h := (cut_sz s dotS).1
  unfold readM
  split
  · exact Nat.zero_le _
  · split
    · exact h
    · split
      · exact h
      · exact Nat.zero_le _
theorem SzC.nodeC {n : Nat} {c : Cm} {a : ByteArray} (h : SzC n c) (ha : a.size ≤ n) : SzC n (nodeC c a).1 := by
  unfold Go.Proofs.YtakcacejpbiogaaDoor.nodeC
  split
  · exact h
  · split
    · exact h
    · exact ⟨⟨h.ok.1, readM_rng, h.ok.2.2⟩, Nat.le_trans (readM_sz a) ha, h.name, h.text⟩
theorem SzC.fin0 {n : Nat} {x : Cm × Int} (h : SzC n x.1) : SzC n (fin0 x).1 := by
  unfold Go.Proofs.YtakcacejpbiogaaDoor.fin0
  split
  · exact h
  · exact SzC.ck (by unfold rI; decide)
theorem readC_sz (s : ByteArray) : SzC s.size (readC s).1 := by
  have h0 : SzC s.size (ck 0) := SzC.ck (by unfold rI; decide)
  have hk : rI (kindW (cutS s blS).1) := by have := kindW_rng (cutS s blS).1; unfold rI; omega
  have hr := (cut_sz s blS).2
  unfold readC
  split
  · exact h0
  · split
    · exact ⟨(SzC.ck (n := s.size) hk).ok, Nat.zero_le _, Nat.zero_le _, hr⟩
    · have ha : ∀ x, x ∈ splitS (cutS s blS).2.1 → x.size ≤ s.size := fun x hx => Nat.le_trans (split_sz _ _ (Nat.le_refl _) x hx) hr
      generalize splitS (cutS s blS).2.1 = L at *
      have hck := SzC.ck (n := s.size) hk
      unfold readL
      split
      · rename_i a
        have h1 := ha a (by simp)
        split
        · exact (hck.nameC h1).fin0
        · split
          · exact hck.numC.fin0
          · split
            · exact (hck.nodeC h1).fin0
            · exact h0
      · rename_i a b
        have h1 := ha a (by simp)
        have h2 := ha b (by simp)
        split
        · split
          · exact ((hck.nodeC h1).nameC h2).fin0
          · exact h0
        · exact h0
      · exact h0
theorem readC_rI (s : ByteArray) : rI (readC s).1.kind := (readC_sz s).ok.1
/-! bytes of a text -/
theorem bytes_str (s : ByteArray) : bytesOf s.size (strRow s) = s := by
  apply ByteArray.ext
  apply Array.ext
  · simp [bytesOf] <;> rfl
  · intro i h1 h2
    have hi : i < s.size := h2
    simp only [bytesOf, List.getElem_toArray, List.getElem_map, List.getElem_range]
    show UInt8.ofNat (byteAt s i).toNat = _
    have e : byteAt s i = ((s.data[i]'h2).toNat : Int) := by
      unfold byteAt
      have : s[i]? = some (s.data[i]'h2) := by
        show (if h : i < s.size then some s[i] else none) = _
        rw [dif_pos hi]; rfl
      rw [this]; rfl
    rw [e, Int.toNat_natCast, UInt8.ofNat_toNat]
theorem str_u8 (s : ByteArray) (i : Nat) : strRow s i = [.v (.int .u8 (bI (strRow s i)))] := rfl


end Go.Proofs.YtakcacejpbiogaaDoor
