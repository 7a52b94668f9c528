/- What is read is told. No condition. -/
import Derived.Test.YtakcacejpbiogaaDoorOrd6
namespace Go.Proofs.YtakcacejpbiogaaDoor
set_option linter.all false
open Go.Sx

open Go.RowKit Go.Lib Go.Sort
/-! a number's text is the text it was read from -/
theorem vL_pos {c : UInt8} {r : List UInt8} (h1 : 48 ≤ c.toNat) (h : c.toNat ≠ 48) : 1 ≤ vL 0 (c :: r) := by
  have := vL_ge r (0 * 10 + (c.toNat - 48))
  show 1 ≤ vL (0 * 10 + (c.toNat - 48)) r
  omega
theorem dd_back : ∀ (n : Nat) (l : List UInt8), l.length = n → l ≠ [] → (∀ c, c ∈ l → 48 ≤ c.toNat ∧ c.toNat ≤ 57) → (2 ≤ l.length → ∀ c r, l = c :: r → c.toNat ≠ 48) → decDigits (vL 0 l) = l
  | 0, l, h, hne, _, _ => absurd (List.eq_nil_of_length_eq_zero h) hne
  | n + 1, l, h, hne, hd, hz => by
    have e := List.dropLast_concat_getLast hne
    generalize hr : l.dropLast = r at e
    generalize hc : l.getLast hne = c at e
    subst e
    have hcd := hd c (by simp)
    have hlen : r.length = n := by simp at h; exact h
    rw [vL_snoc]
    cases r with
    | nil =>
      show decDigits (vL 0 [] * 10 + (c.toNat - 48)) = [c]
      have e2 : vL 0 [] * 10 + (c.toNat - 48) = c.toNat - 48 := by show 0 * 10 + _ = _; omega
      rw [e2, dd_small (by omega)]
      congr 1
      apply UInt8.toNat_inj.1
      rw [u8_nat (by omega)]; omega
    | cons d q =>
      have hdd := hd d (by simp)
      have hdz : d.toNat ≠ 48 := hz (by simp) d (q ++ [c]) rfl
      have hp := vL_pos (r := q) hdd.1 hdz
      have ih := dd_back n (d :: q) hlen (by simp) (fun x hx => hd x (by simp at hx ⊢; rcases hx with h | h; exact .inl h; exact .inr (.inl h))) (fun _ x y hxy => by cases hxy; exact hdz)
      rw [dd_big (by omega), show (vL 0 (d :: q) * 10 + (c.toNat - 48)) / 10 = vL 0 (d :: q) by omega, ih, show (vL 0 (d :: q) * 10 + (c.toNat - 48)) % 10 = c.toNat - 48 by omega]
      congr 2
      apply UInt8.toNat_inj.1
      rw [u8_nat (by omega)]; omega
theorem num_back {s : ByteArray} (h : (numM s).2 = 0) : itoaS (numM s).1 = s ∧ 0 ≤ (numM s).1 := by
  by_cases hb : s.size = 0 ∨ (s.size > 1 ∧ byteAt s 0 = 48) ∨ ∃ i, i < s.size ∧ digB (bAt s i) = false
  · rw [num_ref_bad hb] at h; cases h
  · have h0 : s.size ≠ 0 := fun e => hb (.inl e)
    have h1 : ¬ (s.size > 1 ∧ byteAt s 0 = 48) := fun e => hb (.inr (.inl e))
    have h2 : ∀ j, j < s.size → digB (bAt s j) = true := fun j hj => by
      cases hq : digB (bAt s j) with
      | true => rfl
      | false => exact absurd (.inr (.inr ⟨j, hj, hq⟩)) hb
    rw [num_ref_ok h0 h1 h2] at h ⊢
    split at h
    · rename_i hle
      rw [if_pos hle]
      refine ⟨?_, Int.natCast_nonneg _⟩
      dsimp only
      rw [itoa_mk]
      have hl : s.data.toList ≠ [] := fun e => h0 (by rw [← sz_len, e]; rfl)
      have hdd := dd_back _ s.data.toList rfl hl (dig_all h2) (fun hlen c r e hc => by
        rw [sz_len] at hlen
        refine h1 ⟨hlen, ?_⟩
        rw [byte_bAt (by omega), bAt_list (by omega), e]
        show ((c.toNat : Nat) : Int) = 48
        omega)
      unfold Lib.itoa
      by_cases hz : ((vS s s.size : Nat) : Int) = 0
      · rw [vS_all] at *
        have : vL 0 s.data.toList = 0 := by omega
        rw [this] at hdd
        rw [dd_small (by decide)] at hdd
        split
        · rw [this] at *; omega
        · rw [this]; rw [show ((0 : Nat) : Int).toNat = 0 from rfl, dd_small (by decide), hdd, mkB_of]
      · rw [if_neg (by omega), vS_all, Int.toNat_natCast, hdd, mkB_of]
    · cases h
/-! pieces and their whole -/
theorem cut_join {s : ByteArray} (h : (cutS s blS).2.2 = true) : s = (cutS s blS).1 ++ blS ++ (cutS s blS).2.1 := by
  rcases parts s with ⟨a, rfl, h1⟩ | ⟨a, b, rfl, h1⟩
  · rw [cutL_none h1] at h; cases h
  · rw [cutL_app h1]
    show _ = mkB a ++ mkB [32] ++ mkB b
    rw [mkB_app, mkB_app]; simp
theorem split_one {s a : ByteArray} (h : splitS s = [a]) : s = a := by
  rcases parts s with ⟨x, rfl, h1⟩ | ⟨x, y, rfl, h1⟩
  · rw [split_none h1] at h; cases h; rfl
  · rw [split_app h1] at h
    obtain ⟨u, L, e⟩ := split_ne (mkB y)
    rw [e] at h; cases h
theorem split_two {s a b : ByteArray} (h : splitS s = [a, b]) : s = a ++ blS ++ b := by
  rcases parts s with ⟨x, rfl, h1⟩ | ⟨x, y, rfl, h1⟩
  · rw [split_none h1] at h; cases h
  · rw [split_app h1] at h
    injection h with h2 h3
    rw [← h2, ← split_one h3]
    show _ = mkB x ++ mkB [32] ++ mkB y
    rw [mkB_app, mkB_app]; simp
theorem cutD_join {s : ByteArray} (h : (cutS s dotS).2.2 = true) : s = (cutS s dotS).1 ++ dotS ++ (cutS s dotS).2.1 := by
  by_cases hm : (46 : UInt8) ∈ s.data.toList
  · obtain ⟨a, b, e, h2⟩ := List.eq_append_cons_of_mem hm
    have e2 : s = mkB (a ++ 46 :: b) := by rw [← e, mkB_of]
    rw [e2, cutD_app h2]
    show _ = mkB a ++ mkB [46] ++ mkB b
    rw [mkB_app, mkB_app]; simp
  · rw [cut_no fun j hj e => hm (by
      rw [bAt_list hj] at e
      have hj2 : j < s.data.toList.length := by rw [sz_len]; exact hj
      rw [List.getElem?_eq_getElem hj2] at e
      have : s.data.toList[j] = 46 := UInt8.toNat_inj.1 e
      rw [← this]; exact List.getElem_mem hj2)] at h
    cases h
theorem read_back {s : ByteArray} (h : (readM s).2 = 0) (h2 : 0 ≤ (readM s).1.node) : textS (readM s).1 = s ∧ nameB (readM s).1.name = true := by
  unfold readM at *
  split at h
  · cases h
  · rename_i hn
    rw [if_neg hn] at h2 ⊢
    split at h
    · rename_i hd
      rw [if_pos hd] at h2; exact absurd (show (0 : Int) ≤ -1 from h2) (by decide)
    · rename_i hd
      rw [if_neg hd] at h2 ⊢
      split at h
      · rename_i hz
        rw [if_pos hz] at h2 ⊢
        obtain ⟨g1, g2⟩ := num_back hz
        dsimp only at h2 ⊢
        refine ⟨?_, by simpa using hn⟩
        unfold textS
        dsimp only
        rw [if_neg (by omega), g1]
        exact (cutD_join (by simpa using hd)).symm
      · rename_i hz; exact absurd h hz
theorem nodeC_back {c : Cm} {s : ByteArray} (h : (nodeC c s).2 = 0) : textS ⟨(nodeC c s).1.fn, (nodeC c s).1.node⟩ = s ∧ nodeC c s = ({ c with fn := (nodeC c s).1.fn, node := (nodeC c s).1.node }, 0) := by
  unfold nodeC at *
  split at h
  · rename_i h1; exact absurd h h1
  · rename_i h1
    rw [if_neg h1]
    split at h
    · cases h
    · rename_i h3
      rw [if_neg h3]
      exact ⟨(read_back (by simpa using h1) (by omega)).1, rfl⟩
theorem ba_assoc (a b c : ByteArray) : a ++ (b ++ c) = a ++ b ++ c := by
  apply ByteArray.ext; simp [ByteArray.data_append, Array.append_assoc]
theorem fin0_back {x : Cm × Int} {c : Cm} (h : fin0 x = (c, 0)) : x = (c, 0) := by
  unfold fin0 at h
  split at h
  · exact h
  · rename_i hx; exact absurd (congrArg Prod.snd h) hx
theorem wordW_of {s : ByteArray} (h : kindW s ≠ 0) : wordW (kindW s) = s ∧ 1 ≤ kindW s ∧ kindW s ≤ 9 := by
  have hr := kindW_rng s
  have := (kindW_iff (k := kindW s) (s := s) (by omega) (by omega)).1 rfl
  exact ⟨this.symm, by omega, by omega⟩
theorem name_ne {s : ByteArray} (h : nameB s = true) : s ≠ ⟨#[]⟩ := by rintro rfl; exact absurd h (by decide +kernel)
/-- the text of what was read is what was read -/
theorem back {s : ByteArray} {c : Cm} (h : readC s = (c, 0)) : textC c = s := by
  unfold readC at h
  split at h
  · cases h
  · rename_i h1
    have hk0 : kindW (cutS s blS).1 ≠ 0 := fun e => h1 (.inl e)
    have hb : (cutS s blS).2.2 = true := by
      cases hq : (cutS s blS).2.2 with
      | true => rfl
      | false => exact absurd (.inr hq) h1
    have hj := cut_join hb
    obtain ⟨hw, hw1, hw9⟩ := wordW_of hk0
    generalize hk : kindW (cutS s blS).1 = k at *
    generalize (cutS s blS).1 = w at *
    generalize (cutS s blS).2.1 = r at *
    split at h
    · rename_i h3
      cases h
      unfold textC
      dsimp only
      rw [if_neg (by omega), if_pos h3, hw]; exact hj.symm
    · rename_i h3
      generalize hL : splitS r = L at h
      unfold readL at h
      split at h
      · rename_i a
        have hr := split_one hL
        subst hr
        split at h
        · rename_i hc
          have h := fin0_back h
          unfold nameC at h
          split at h
          · cases h
            unfold textC
            dsimp only
            rw [if_neg (by omega), if_neg h3, if_pos hc, hw]; exact hj.symm
          · cases h
        · rename_i hc
          split at h
          · rename_i h9
            have h := fin0_back h
            unfold numC at h
            split at h
            · rename_i hz
              cases h
              unfold textC
              dsimp only
              rw [if_neg (by omega), if_neg h3, if_neg hc, if_pos h9, (num_back hz).1, hw]; exact hj.symm
            · rename_i hz; exact absurd (congrArg Prod.snd h) hz
          · rename_i h9
            split at h
            · rename_i h4
              have h := fin0_back h
              obtain ⟨g1, g2⟩ := nodeC_back (congrArg Prod.snd h)
              rw [h] at g1 g2
              have e : c = { ck k with fn := c.fn, node := c.node } := congrArg Prod.fst g2
              rw [e]
              unfold textC
              dsimp only
              rw [if_neg (by omega), if_neg h3, if_neg hc, if_neg h9, if_pos (by rcases h4 with h | h | h; exact .inr (.inr ⟨h, rfl⟩); exact .inl h; exact .inr (.inl h)), g1, hw]; exact hj.symm
            · cases h
      · rename_i a b
        have hr := split_two hL
        subst hr
        split at h
        · rename_i h4
          split at h
          · rename_i hz
            have h := fin0_back h
            obtain ⟨g1, g2⟩ := nodeC_back hz
            unfold nameC at h
            split at h
            · rename_i hn
              have hc : { (nodeC (ck k) a).1 with name := b } = c := congrArg Prod.fst h
              rw [g2] at hc g1
              subst hc
              unfold textC
              dsimp only at g1 ⊢
              have hbe := name_ne hn
              rw [if_neg (by omega), if_neg h3, if_neg (by omega), if_neg (by omega), if_neg (by rintro (q | q | ⟨_, q⟩); omega; omega; exact hbe q), g1, hw]
              rw [ba_assoc, ba_assoc] at hj; exact hj.symm
            · cases h
          · rename_i hz; exact absurd (congrArg Prod.snd h) hz
        · cases h
      · cases h


end Go.Proofs.YtakcacejpbiogaaDoor
