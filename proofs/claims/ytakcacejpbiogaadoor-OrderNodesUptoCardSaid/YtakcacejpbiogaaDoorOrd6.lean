/- Commands out of texts, as the reference has them. No condition. -/
import Derived.Test.YtakcacejpbiogaaDoorOrd5
namespace Go.Proofs.YtakcacejpbiogaaDoor
set_option linter.all false
open Go.Sx

open Go.RowKit Go.Lib Go.Sort
theorem cutD_app {a b : List UInt8} (h : (46 : UInt8) ∉ a) : cutS (mkB (a ++ 46 :: b)) dotS = (mkB a, mkB b, true) := by
  have hx : Lib.indexB (mkB (a ++ 46 :: b)) dotS = (a.length : Nat) := by
    show Lib.index (a ++ 46 :: b).toArray.toList [46] = _
    rw [List.toList_toArray]
    refine Lib.index_first (by simp) ?_ fun j hj => ?_
    · rw [occ_c, List.getElem?_append_right (Nat.le_refl _)]; simp
    · exact occ_cn (by rw [List.getElem?_append_left hj]; exact mem_ne h j)
  obtain ⟨h1, h2, h3⟩ := Lib.cutB_hit _ dotS _ hx
  rw [ext_pre a (46 :: b)] at h1
  rw [show dotS.size = 1 from rfl, ext_suf] at h2
  unfold cutS
  rw [h1, h2, h3]
theorem ck_ok (k : Int) (h1 : -9223372036854775808 ≤ k) (h2 : k < 9223372036854775808) : Cm.ok (ck k) := ⟨⟨h1, h2⟩, by unfold rI; dsimp only; omega, by unfold rI; dsimp only; omega⟩
theorem num_read (s : ByteArray) : readM (nS ++ s) = if (numM s).2 = 0 then (⟨⟨#[110]⟩, (numM s).1⟩, 0) else (k0, (numM s).2) := by
  have e : nS ++ s = mkB ([110] ++ 46 :: s.data.toList) := by
    show mkB [110, 46] ++ s = _
    conv => lhs; rw [← mkB_of s]
    rw [mkB_app]; rfl
  have hc : cutS (nS ++ s) dotS = (⟨#[110]⟩, s, true) := by
    rw [e, cutD_app (by decide), mkB_of]; rfl
  unfold readM
  rw [hc]
  dsimp only
  rw [if_neg (by decide +kernel), if_neg (by decide)]
/-- the shapes of a text, word by word -/
theorem rc_sh {s w : ByteArray} {R : List ByteArray} (hcb : (cutS s blS).2.2 = true) (hcw : (cutS s blS).1 = w) (hcr : splitS (cutS s blS).2.1 = R) : readC s = if kindW w = 0 then (ck 0, 3) else if kindW w < 3 then ({ ck (kindW w) with text := (cutS s blS).2.1 }, 0) else readL (kindW w) R := by
  unfold readC
  rw [hcw, hcb, hcr]
  by_cases h : kindW w = 0
  · rw [if_pos (.inl h), if_pos h]
  · rw [if_neg (by rintro (q | q); exact h q; cases q), if_neg h]
theorem rl1N {k : Int} {a a' : ByteArray} (h : k = 3 ∨ k = 8) (hn : (!nameB a') = false) (ha : a' = a) : readL k [a] = ({ ck k with name := a }, 0) := by
  subst ha
  show (if k = 3 ∨ k = 8 then fin0 (nameC (ck k) a') else _) = _
  rw [if_pos h, nameC_ok hn]; rfl
theorem rl1Ne {k : Int} {a a' : ByteArray} (h : k = 3 ∨ k = 8) (hn : (!nameB a') = true) (ha : a' = a) : readL k [a] = (ck 0, 3) := by
  subst ha
  show (if k = 3 ∨ k = 8 then fin0 (nameC (ck k) a') else _) = _
  rw [if_pos h, nameC_no hn]; rfl
theorem rl1B {k : Int} {a a' : ByteArray} (h : k = 9) (hn : ((readM (nS ++ a')).2 != 0) = false) (ha : a' = a) : readL k [a] = ({ ck k with n := (readM (nS ++ a')).1.node }, 0) := by
  subst ha h
  show fin0 (numC (ck 9) a') = _
  rw [num_read] at hn ⊢
  unfold numC
  by_cases hz : (numM a').2 = 0
  · rw [if_pos hz, if_pos hz]; rfl
  · rw [if_neg hz] at hn; exact absurd (by simpa using hn) hz
theorem rl1Be {k : Int} {a a' : ByteArray} (h : k = 9) (hn : ((readM (nS ++ a')).2 != 0) = true) (ha : a' = a) : readL k [a] = (ck 0, (readM (nS ++ a')).2) := by
  subst ha h
  show fin0 (numC (ck 9) a') = _
  rw [num_read] at hn ⊢
  unfold numC
  by_cases hz : (numM a').2 = 0
  · rw [if_pos hz] at hn; cases hn
  · rw [if_neg hz, if_neg hz]; unfold fin0; dsimp only; rw [if_neg hz]
theorem rl1D {k : Int} {a a' : ByteArray} (h : k = 4 ∨ k = 5 ∨ k = 6) (ha : a' = a) : readL k [a] = fin0 (nodeC (ck k) a') := by
  subst ha
  show (if k = 3 ∨ k = 8 then _ else if k = 9 then _ else if k = 4 ∨ k = 5 ∨ k = 6 then fin0 (nodeC (ck k) a') else _) = _
  rw [if_neg (by omega), if_neg (by omega), if_pos h]
theorem fin0_no {x : Cm × Int} (h : ((fin0 x).2 != 0) = true) : fin0 x = (ck 0, (fin0 x).2) := by
  unfold fin0 at *
  split
  · rename_i hx; rw [if_pos hx] at h; rw [hx] at h; cases h
  · rfl
theorem rl1De {k : Int} {a a' : ByteArray} (h : k = 4 ∨ k = 5 ∨ k = 6) (hn : ((fin0 (nodeC (ck k) a')).2 != 0) = true) (ha : a' = a) : readL k [a] = (ck 0, (fin0 (nodeC (ck k) a')).2) := by
  rw [rl1D h ha]; exact fin0_no hn
theorem rl1Dk {k : Int} {a a' : ByteArray} (h : k = 4 ∨ k = 5 ∨ k = 6) (hn : ((fin0 (nodeC (ck k) a')).2 != 0) = false) (ha : a' = a) : readL k [a] = ((fin0 (nodeC (ck k) a')).1, 0) := by
  rw [rl1D h ha]
  have : (fin0 (nodeC (ck k) a')).2 = 0 := by simpa using hn
  rw [← this]
theorem fin0_z {x : Cm × Int} : (fin0 x).2 = x.2 := by unfold fin0; split <;> rfl
theorem fin0_1 {x : Cm × Int} (h : x.2 = 0) : (fin0 x).1 = x.1 := by unfold fin0; rw [if_pos h]
theorem rl2P {k : Int} {a b a' b' : ByteArray} (h : k = 4 ∨ k = 7) (hn : ((fin0 (nodeC (ck k) a')).2 != 0) = false) (hm : (!nameB b') = false) (ha : a' = a) (hb : b' = b) : readL k [a, b] = ({ (fin0 (nodeC (ck k) a')).1 with name := b }, 0) := by
  subst ha hb
  show (if k = 4 ∨ k = 7 then (if (nodeC (ck k) a').2 = 0 then fin0 (nameC (nodeC (ck k) a').1 b') else _) else _) = _
  have hz : (nodeC (ck k) a').2 = 0 := by rw [← fin0_z]; simpa using hn
  rw [if_pos h, if_pos hz, nameC_ok hm, fin0_1 hz]; rfl
theorem rl2Pn {k : Int} {a b a' b' : ByteArray} (h : k = 4 ∨ k = 7) (hn : ((fin0 (nodeC (ck k) a')).2 != 0) = false) (hm : (!nameB b') = true) (ha : a' = a) (hb : b' = b) : readL k [a, b] = (ck 0, 3) := by
  subst ha hb
  show (if k = 4 ∨ k = 7 then (if (nodeC (ck k) a').2 = 0 then fin0 (nameC (nodeC (ck k) a').1 b') else _) else _) = _
  have hz : (nodeC (ck k) a').2 = 0 := by rw [← fin0_z]; simpa using hn
  rw [if_pos h, if_pos hz, nameC_no hm]; rfl
theorem rl2Pe {k : Int} {a b a' : ByteArray} (h : k = 4 ∨ k = 7) (hn : ((fin0 (nodeC (ck k) a')).2 != 0) = true) (ha : a' = a) : readL k [a, b] = (ck 0, (fin0 (nodeC (ck k) a')).2) := by
  subst ha
  show (if k = 4 ∨ k = 7 then (if (nodeC (ck k) a').2 = 0 then _ else (ck 0, (nodeC (ck k) a').2)) else _) = _
  rw [fin0_z] at hn ⊢
  rw [if_pos h, if_neg (by simpa using hn)]
section
variable {s w : ByteArray} {R : List ByteArray} {k : Int} (hrc : readC s = if kindW w = 0 then (ck 0, 3) else if kindW w < 3 then ({ ck (kindW w) with text := (cutS s blS).2.1 }, 0) else readL (kindW w) R) (hk : kindW w = k)
include hrc hk
theorem rs0 (h : k = 0) : readC s = (ck 0, 3) := by rw [hrc, hk, if_pos h]
theorem rsT (h : k = 1 ∨ k = 2) : readC s = ({ ck k with text := (cutS s blS).2.1 }, 0) := by rw [hrc, hk, if_neg (by omega), if_pos (by omega)]
theorem rsL (h : 3 ≤ k) : readC s = readL k R := by rw [hrc, hk, if_neg (by omega), if_neg (by omega)]
end
theorem shape_split (s : ByteArray) : (∃ w, splitS s = [w] ∧ (cutS s blS).1 = w ∧ (cutS s blS).2.2 = false) ∨
    ((cutS s blS).2.2 = true ∧ ∃ w R, splitS s = w :: R ∧ R ≠ [] ∧ (cutS s blS).1 = w ∧ splitS (cutS s blS).2.1 = R ∧ s.extract (w.size + 1) s.size = (cutS s blS).2.1 ∧ w.size + 1 ≤ s.size) := by
  rcases parts s with ⟨a, rfl, h⟩ | ⟨a, b, rfl, h⟩
  · exact .inl ⟨mkB a, split_none h, by rw [cutL_none h], by rw [cutL_none h]⟩
  · refine .inr ⟨by rw [cutL_app h], mkB a, splitS (mkB b), split_app h, ?_, by rw [cutL_app h], by rw [cutL_app h], ?_, ?_⟩
    · obtain ⟨x, L, e⟩ := split_ne (mkB b); rw [e]; simp
    · rw [cutL_app h, mkB_sz a]; exact ext_suf a b 32
    · rw [mkB_sz, mkB_sz]; simp

def FRRead37 : List Ar → Option Rs
  | [.c (.d (.lst 1 n0 f0))] => some ⟨(n0 < 4294967281 ∧ ∀ i, i < n0 → f0 i = [.v (.int .u8 (bI (f0 i)))]) ∧ (n0 < 4294967279), .tup [Cm.ar (readC (bytesOf n0 f0)).1, .c (.d (it (readC (bytesOf n0 f0)).2))], []⟩
  | _ => none
set_option maxHeartbeats 16000000 in
set_option maxRecDepth 100000 in
theorem fcRRead37 : FC Tryd.prog 32 FRRead37 := by
  intro xs pre r us h hp
  unfold FRRead37 at h
  split at h
  · rename_i n0 f0
    cases h
    obtain ⟨hp0, hp1⟩ := hp
    refine fcat tys_ok (l := [(57, ⟨[], FRSplit⟩), (58, ⟨[], FRWords⟩), (59, ⟨[], FRNum37⟩), (60, ⟨[], FRNode37⟩), (18, ⟨[], FRName⟩)]) ⟨fcRSplit, fcRWords, fcRNum37, fcRNode37, fcRName, trivial⟩ Tryd.func32 rfl (by kernel_rfl) true ?_
    have hsz : (bytesOf n0 f0).size = n0 := by simp [bytesOf, ByteArray.size]
    have hsl : (bytesOf n0 f0).size < 4294967281 := by omega
    have hsl2 : (bytesOf n0 f0).size < 4294967279 := by omega
    repeat' (first | exact trivial | (with_reducible exact (fun h : (_ == _) = _ => absurd h (by decide))) | (with_reducible exact (fun h : decide _ = _ => absurd h (by decide))) | (with_reducible exact (fun h : kindW _ = ((0 : Nat) : Int) => absurd ‹(kindW _ == 0) = false› (by rw [show kindW _ = 0 from h]; decide))) | (with_reducible exact (fun h : (_ != _) = _ => absurd h (by decide))) | (with_reducible exact (fun h : (!_) = _ => absurd h (by decide))) | (with_reducible exact hsl) | (with_reducible exact hp0.2) | refine ⟨?_, ?_⟩ | intro _)
    all_goals first | (with_reducible show (_ : Int) ≤ _) | (with_reducible show (_ : Int) < _) | (with_reducible show (_ : Nat) ≤ _) | (with_reducible show (_ : Nat) < _) | (conv => whnf)
    all_goals first | exact hp0.2 _ ‹_› | skip
    generalize hs : bytesOf n0 f0 = s at *
    have hsa : ∀ {L : List ByteArray}, splitS s = L → ∀ i, (atS L i).size < 4294967279 := fun e i => by rw [← e]; exact Nat.lt_of_le_of_lt (at_sz s i) hsl2
    have hsb : ∀ {L : List ByteArray}, splitS s = L → ∀ i, (atS L i).size < 4294967281 := fun e i => by rw [← e]; exact Nat.lt_of_le_of_lt (at_sz s i) hsl
    have hsc : ∀ {L : List ByteArray}, splitS s = L → ∀ i, (atS L i).size ≤ 9223372036854775807 := fun e i => Nat.le_trans (Nat.le_of_lt (hsb e i)) (by decide)
    rcases shape_split s with ⟨w, hL, hcw, hcb⟩ | ⟨hcb, w, R, hL, hR, hcw, hcr, hex, hsw⟩
    · refine loop_ok tys_ok (l := [(57, ⟨[], FRSplit⟩), (58, ⟨[], FRWords⟩), (59, ⟨[], FRNum37⟩), (60, ⟨[], FRNode37⟩), (18, ⟨[], FRName⟩)]) ⟨fcRSplit, fcRWords, fcRNum37, fcRNode37, fcRName, trivial⟩ (by kernel_rfl) (X := Nat)
        (fun k => ⟨[(8, vx (.int .i64 k)), (7, .va (.c (.d (lst wordsL)))), (6, vx (.int .i64 (kp w k))), (5, .va (.c (.d (.lst 1 1 fun i => [st (atS [w] i)])))), (4, vx (.string s)), (2, .va (.c (.own 0 0)))], [(0, .cells [.d (it 0), .d (st ⟨#[]⟩), .d (it 0), .d (st ⟨#[]⟩), .d (it 0), .d (st ⟨#[]⟩)])], 1, 141⟩)
        (fun k => 10 - k) (fun k => 1 ≤ k ∧ k ≤ 10) [] []
        (fun k _ _ => k + 1) [0] [0] 0 0 1 ?_ ?_ ?_
      · exact ⟨by decide, by decide⟩
      · repeat' (first | exact trivial | exact rfl | (intro _ h; exact absurd h (Nat.not_lt_zero _)) | (intro _ _; exact rfl) | refine ⟨?_, ?_⟩ | fail)
        all_goals first | (rw [hL]; done) | (rw [hL]; rfl) | (intro q hq; rw [hL]) | (rw [kp_one]; done) | (rw [hs]; done) | (rw [kp_one]; rfl) | trace_state
      · rintro k ⟨k1, k2⟩
        rcases Nat.lt_or_ge k 10 with hk | hk
        · have hne : decide ((k : Int) < ((wordsL.length : Nat) : Int)) = true := decide_eq_true (by show (k : Int) < ((10 : Nat) : Int); omega)
          have hw1 : IntKind.wrap .i64 ((k : Int) + 1) = ((k + 1 : Nat) : Int) := by rw [wI_id _ (by omega) (by omega)]; omega
          repeat' (first | exact trivial | (with_reducible exact (fun h : (_ == _) = _ => absurd h (by decide))) | (with_reducible exact (fun h : decide _ = _ => absurd h (by decide))) | (with_reducible exact (fun h : kindW _ = ((0 : Nat) : Int) => absurd ‹(kindW _ == 0) = false› (by rw [show kindW _ = 0 from h]; decide))) | (with_reducible exact (fun h : (_ != _) = _ => absurd h (by decide))) | (with_reducible exact (fun h : (!_) = _ => absurd h (by decide))) | (with_reducible exact (fun h => absurd (hne.symm.trans h) (by decide))) | refine ⟨?_, ?_⟩ | intro _)
          all_goals first | (with_reducible show (_ : Int) ≤ _) | (with_reducible show (_ : Int) < _) | (with_reducible show (_ : Nat) ≤ _) | (with_reducible show (_ : Nat) < _) | (conv => whnf)
          all_goals (try simp only [seq_iff, Int.toNat_natCast, decide_eq_true_eq, decide_eq_false_iff_not] at *)
          all_goals first | (show _ < ((10 : Nat) : Int); omega) | omega | (dsimp only; omega) | (rw [hw1]; done) | (dsimp only; rw [hw1]; done) | (exact congrArg (Value.int .i64) (kp_yes k1 (by omega) (by assumption)).symm) | (exact congrArg (Value.int .i64) (kp_no k1 (by omega) (by assumption)).symm) | rfl | decide | trace_state
        · have hne : decide ((k : Int) < ((wordsL.length : Nat) : Int)) = false := decide_eq_false (by show ¬ (k : Int) < ((10 : Nat) : Int); omega)
          obtain rfl : k = 10 := by omega
          rw [kp_all] at *
          rcases kindW_cases w with hkw | ⟨hkw, _⟩ | ⟨hkw, _⟩ | ⟨hkw, _⟩ | ⟨hkw, _⟩ | ⟨hkw, _⟩ | ⟨hkw, _⟩ | ⟨hkw, _⟩ | ⟨hkw, _⟩ | ⟨hkw, _⟩
          all_goals (rw [hkw])
          all_goals repeat' (first | exact trivial | (with_reducible exact (fun h : (_ == _) = _ => absurd h (by decide))) | (with_reducible exact (fun h : decide _ = _ => absurd h (by decide))) | (with_reducible exact (fun h : kindW _ = ((0 : Nat) : Int) => absurd ‹(kindW _ == 0) = false› (by rw [show kindW _ = 0 from h]; decide))) | (with_reducible exact (fun h : (_ != _) = _ => absurd h (by decide))) | (with_reducible exact (fun h : (!_) = _ => absurd h (by decide))) | (with_reducible exact (fun h => absurd (hne.symm.trans h) (by decide))) | (with_reducible exact (hsa hL _)) | (with_reducible exact (hsb hL _)) | (with_reducible exact (hsc hL _)) | (with_reducible exact (ck_ok _ (by decide) (by decide))) | refine ⟨?_, ?_⟩ | intro _)
          all_goals first | (with_reducible show (_ : Int) ≤ _) | (with_reducible show (_ : Int) < _) | (with_reducible show (_ : Nat) ≤ _) | (with_reducible show (_ : Nat) < _) | (conv => whnf)
          all_goals first | ((with_reducible show ASat _ _ _ _ _); refine draw_sto tys_ok (l := [(57, ⟨[], FRSplit⟩), (58, ⟨[], FRWords⟩), (59, ⟨[], FRNum37⟩), (60, ⟨[], FRNode37⟩), (18, ⟨[], FRName⟩)]) ⟨fcRSplit, fcRWords, fcRNum37, fcRNode37, fcRName, trivial⟩ (by kernel_rfl) 11 [(9, 8)] (.done) [0, 2, 3, 4, 5, 6, 7, 8, 9, 10, 11, 12, 13, 14, 15, 24, 34, 42, 50, 82, 85, 94, 105, 115, 127, 133] (by kernel_rfl) (by kernel_rfl) ?_) | skip
          all_goals repeat' (first | exact trivial | (with_reducible exact (fun h : (_ == _) = _ => absurd h (by decide))) | (with_reducible exact (fun h : decide _ = _ => absurd h (by decide))) | (with_reducible exact (fun h : kindW _ = ((0 : Nat) : Int) => absurd ‹(kindW _ == 0) = false› (by rw [show kindW _ = 0 from h]; decide))) | (with_reducible exact (fun h : (_ != _) = _ => absurd h (by decide))) | (with_reducible exact (fun h : (!_) = _ => absurd h (by decide))) | (with_reducible exact (hsa hL _)) | (with_reducible exact (hsb hL _)) | (with_reducible exact (hsc hL _)) | (with_reducible exact (ck_ok _ (by decide) (by decide))) | refine ⟨?_, ?_⟩ | intro _)
          all_goals first | (with_reducible show (_ : Int) ≤ _) | (with_reducible show (_ : Int) < _) | (with_reducible show (_ : Nat) ≤ _) | (with_reducible show (_ : Nat) < _) | (conv => whnf)
          all_goals first | ((with_reducible show Tl _ _); apply tl_intro; · (repeat' (first | exact trivial | refine ⟨?_, ?_⟩ | intro _)) <;> (first | exact rfl | omega | assumption | (dsimp only; omega))) | skip
          all_goals repeat' (first | exact trivial | (with_reducible exact (fun h : (_ == _) = _ => absurd h (by decide))) | (with_reducible exact (fun h : decide _ = _ => absurd h (by decide))) | (with_reducible exact (fun h : kindW _ = ((0 : Nat) : Int) => absurd ‹(kindW _ == 0) = false› (by rw [show kindW _ = 0 from h]; decide))) | (with_reducible exact (fun h : (_ != _) = _ => absurd h (by decide))) | (with_reducible exact (fun h : (!_) = _ => absurd h (by decide))) | (with_reducible exact (hsa hL _)) | (with_reducible exact (hsb hL _)) | (with_reducible exact (hsc hL _)) | (with_reducible exact (ck_ok _ (by decide) (by decide))) | refine ⟨?_, ?_⟩ | intro _)
          all_goals first | (with_reducible show (_ : Int) ≤ _) | (with_reducible show (_ : Int) < _) | (with_reducible show (_ : Nat) ≤ _) | (with_reducible show (_ : Nat) < _) | (conv => whnf)
          all_goals first | (rw [rc_no (.inr hcb)]; done) | (rw [rc_no (.inr hcb)]; rfl) | trace_state
    · have hrc := rc_sh hcb hcw hcr
      have hw3 : IntKind.wrap .i64 ((w.size : Int) + 1) = ((w.size + 1 : Nat) : Int) := by rw [wI_id _ (by omega) (by omega)]; omega
      rcases R with _ | ⟨a, _ | ⟨b, _ | ⟨c, R⟩⟩⟩
      · exact absurd rfl hR
      · refine loop_ok tys_ok (l := [(57, ⟨[], FRSplit⟩), (58, ⟨[], FRWords⟩), (59, ⟨[], FRNum37⟩), (60, ⟨[], FRNode37⟩), (18, ⟨[], FRName⟩)]) ⟨fcRSplit, fcRWords, fcRNum37, fcRNode37, fcRName, trivial⟩ (by kernel_rfl) (X := Nat)
          (fun k => ⟨[(8, vx (.int .i64 k)), (7, .va (.c (.d (lst wordsL)))), (6, vx (.int .i64 (kp w k))), (5, .va (.c (.d (.lst 1 2 fun i => [st (atS [w, a] i)])))), (4, vx (.string s)), (2, .va (.c (.own 0 0)))], [(0, .cells [.d (it 0), .d (st ⟨#[]⟩), .d (it 0), .d (st ⟨#[]⟩), .d (it 0), .d (st ⟨#[]⟩)])], 1, 141⟩)
          (fun k => 10 - k) (fun k => 1 ≤ k ∧ k ≤ 10) [] []
          (fun k _ _ => k + 1) [0] [0] 0 0 1 ?_ ?_ ?_
        · exact ⟨by decide, by decide⟩
        · repeat' (first | exact trivial | exact rfl | (intro _ h; exact absurd h (Nat.not_lt_zero _)) | (intro _ _; exact rfl) | refine ⟨?_, ?_⟩ | fail)
          all_goals first | (rw [hL]; done) | (rw [hL]; rfl) | (intro q hq; rw [hL]) | (rw [kp_one]; done) | (rw [hs]; done) | (rw [kp_one]; rfl) | trace_state
        · rintro k ⟨k1, k2⟩
          rcases Nat.lt_or_ge k 10 with hk | hk
          · have hne : decide ((k : Int) < ((wordsL.length : Nat) : Int)) = true := decide_eq_true (by show (k : Int) < ((10 : Nat) : Int); omega)
            have hw1 : IntKind.wrap .i64 ((k : Int) + 1) = ((k + 1 : Nat) : Int) := by rw [wI_id _ (by omega) (by omega)]; omega
            repeat' (first | exact trivial | (with_reducible exact (fun h : (_ == _) = _ => absurd h (by decide))) | (with_reducible exact (fun h : decide _ = _ => absurd h (by decide))) | (with_reducible exact (fun h : kindW _ = ((0 : Nat) : Int) => absurd ‹(kindW _ == 0) = false› (by rw [show kindW _ = 0 from h]; decide))) | (with_reducible exact (fun h : (_ != _) = _ => absurd h (by decide))) | (with_reducible exact (fun h : (!_) = _ => absurd h (by decide))) | (with_reducible exact (fun h => absurd (hne.symm.trans h) (by decide))) | refine ⟨?_, ?_⟩ | intro _)
            all_goals first | (with_reducible show (_ : Int) ≤ _) | (with_reducible show (_ : Int) < _) | (with_reducible show (_ : Nat) ≤ _) | (with_reducible show (_ : Nat) < _) | (conv => whnf)
            all_goals (try simp only [seq_iff, Int.toNat_natCast, decide_eq_true_eq, decide_eq_false_iff_not] at *)
            all_goals first | (show _ < ((10 : Nat) : Int); omega) | omega | (dsimp only; omega) | (rw [hw1]; done) | (dsimp only; rw [hw1]; done) | (exact congrArg (Value.int .i64) (kp_yes k1 (by omega) (by assumption)).symm) | (exact congrArg (Value.int .i64) (kp_no k1 (by omega) (by assumption)).symm) | rfl | decide | trace_state
          · have hne : decide ((k : Int) < ((wordsL.length : Nat) : Int)) = false := decide_eq_false (by show ¬ (k : Int) < ((10 : Nat) : Int); omega)
            obtain rfl : k = 10 := by omega
            rw [kp_all] at *
            rcases kindW_cases w with hkw | ⟨hkw, _⟩ | ⟨hkw, _⟩ | ⟨hkw, _⟩ | ⟨hkw, _⟩ | ⟨hkw, _⟩ | ⟨hkw, _⟩ | ⟨hkw, _⟩ | ⟨hkw, _⟩ | ⟨hkw, _⟩
            all_goals (rw [hkw])
            all_goals repeat' (first | exact trivial | (with_reducible exact (fun h : (_ == _) = _ => absurd h (by decide))) | (with_reducible exact (fun h : decide _ = _ => absurd h (by decide))) | (with_reducible exact (fun h : kindW _ = ((0 : Nat) : Int) => absurd ‹(kindW _ == 0) = false› (by rw [show kindW _ = 0 from h]; decide))) | (with_reducible exact (fun h : (_ != _) = _ => absurd h (by decide))) | (with_reducible exact (fun h : (!_) = _ => absurd h (by decide))) | (with_reducible exact (fun h => absurd (hne.symm.trans h) (by decide))) | (with_reducible exact (hsa hL _)) | (with_reducible exact (hsb hL _)) | (with_reducible exact (hsc hL _)) | (with_reducible exact (ck_ok _ (by decide) (by decide))) | refine ⟨?_, ?_⟩ | intro _)
            all_goals first | (with_reducible show (_ : Int) ≤ _) | (with_reducible show (_ : Int) < _) | (with_reducible show (_ : Nat) ≤ _) | (with_reducible show (_ : Nat) < _) | (conv => whnf)
            all_goals first | ((with_reducible show ASat _ _ _ _ _); refine draw_sto tys_ok (l := [(57, ⟨[], FRSplit⟩), (58, ⟨[], FRWords⟩), (59, ⟨[], FRNum37⟩), (60, ⟨[], FRNode37⟩), (18, ⟨[], FRName⟩)]) ⟨fcRSplit, fcRWords, fcRNum37, fcRNode37, fcRName, trivial⟩ (by kernel_rfl) 11 [(9, 8)] (.done) [0, 2, 3, 4, 5, 6, 7, 8, 9, 10, 11, 12, 13, 14, 15, 24, 34, 42, 50, 82, 85, 94, 105, 115, 127, 133] (by kernel_rfl) (by kernel_rfl) ?_) | skip
            all_goals repeat' (first | exact trivial | (with_reducible exact (fun h : (_ == _) = _ => absurd h (by decide))) | (with_reducible exact (fun h : decide _ = _ => absurd h (by decide))) | (with_reducible exact (fun h : kindW _ = ((0 : Nat) : Int) => absurd ‹(kindW _ == 0) = false› (by rw [show kindW _ = 0 from h]; decide))) | (with_reducible exact (fun h : (_ != _) = _ => absurd h (by decide))) | (with_reducible exact (fun h : (!_) = _ => absurd h (by decide))) | (with_reducible exact (hsa hL _)) | (with_reducible exact (hsb hL _)) | (with_reducible exact (hsc hL _)) | (with_reducible exact (ck_ok _ (by decide) (by decide))) | refine ⟨?_, ?_⟩ | intro _)
            all_goals first | (with_reducible show (_ : Int) ≤ _) | (with_reducible show (_ : Int) < _) | (with_reducible show (_ : Nat) ≤ _) | (with_reducible show (_ : Nat) < _) | (conv => whnf)
            all_goals first | ((with_reducible show Tl _ _); apply tl_intro; · (repeat' (first | exact trivial | refine ⟨?_, ?_⟩ | intro _)) <;> (first | exact rfl | omega | assumption | (dsimp only; omega))) | skip
            all_goals repeat' (first | exact trivial | (with_reducible exact (fun h : (_ == _) = _ => absurd h (by decide))) | (with_reducible exact (fun h : decide _ = _ => absurd h (by decide))) | (with_reducible exact (fun h : kindW _ = ((0 : Nat) : Int) => absurd ‹(kindW _ == 0) = false› (by rw [show kindW _ = 0 from h]; decide))) | (with_reducible exact (fun h : (_ != _) = _ => absurd h (by decide))) | (with_reducible exact (fun h : (!_) = _ => absurd h (by decide))) | (with_reducible exact (hsa hL _)) | (with_reducible exact (hsb hL _)) | (with_reducible exact (hsc hL _)) | (with_reducible exact (ck_ok _ (by decide) (by decide))) | refine ⟨?_, ?_⟩ | intro _)
            all_goals first | (with_reducible show (_ : Int) ≤ _) | (with_reducible show (_ : Int) < _) | (with_reducible show (_ : Nat) ≤ _) | (with_reducible show (_ : Nat) < _) | (conv => whnf)
            all_goals first | (with_reducible rfl) | ((with_reducible show Value.int _ _ = Value.int _ _); (first | (rw [rs0 hrc hkw (by decide)]; first | done | rfl | (refine congrArg Value.string ?_; show s.extract (IntKind.wrap .i64 ((w.size : Int) + 1)).toNat (Int.toNat (s.size : Int)) = _; rw [hw3, Int.toNat_natCast, Int.toNat_natCast, hex]; done)) | (rw [rsT hrc hkw (by decide)]; first | done | rfl | (refine congrArg Value.string ?_; show s.extract (IntKind.wrap .i64 ((w.size : Int) + 1)).toNat (Int.toNat (s.size : Int)) = _; rw [hw3, Int.toNat_natCast, Int.toNat_natCast, hex]; done)) | (rw [rsL hrc hkw (by decide), rl1N (by decide) (by with_reducible assumption) (by rfl)]; first | done | rfl) | (rw [rsL hrc hkw (by decide), rl1Ne (by decide) (by with_reducible assumption) (by rfl)]; first | done | rfl) | (rw [rsL hrc hkw (by decide), rl1B (by decide) (by with_reducible assumption) (by rfl)]; first | done | rfl) | (rw [rsL hrc hkw (by decide), rl1Be (by decide) (by with_reducible assumption) (by rfl)]; first | done | rfl) | (rw [rsL hrc hkw (by decide), rl1De (by decide) (by with_reducible assumption) (by rfl)]; first | done | rfl) | (rw [rsL hrc hkw (by decide), rl1Dk (by decide) (by with_reducible assumption) (by rfl)]; first | done | rfl) | (rw [rsL hrc hkw (by decide)]; rfl))) | ((with_reducible show Value.string _ = Value.string _); (first | (rw [rs0 hrc hkw (by decide)]; first | done | rfl | (refine congrArg Value.string ?_; show s.extract (IntKind.wrap .i64 ((w.size : Int) + 1)).toNat (Int.toNat (s.size : Int)) = _; rw [hw3, Int.toNat_natCast, Int.toNat_natCast, hex]; done)) | (rw [rsT hrc hkw (by decide)]; first | done | rfl | (refine congrArg Value.string ?_; show s.extract (IntKind.wrap .i64 ((w.size : Int) + 1)).toNat (Int.toNat (s.size : Int)) = _; rw [hw3, Int.toNat_natCast, Int.toNat_natCast, hex]; done)) | (rw [rsL hrc hkw (by decide), rl1N (by decide) (by with_reducible assumption) (by rfl)]; first | done | rfl) | (rw [rsL hrc hkw (by decide), rl1Ne (by decide) (by with_reducible assumption) (by rfl)]; first | done | rfl) | (rw [rsL hrc hkw (by decide), rl1B (by decide) (by with_reducible assumption) (by rfl)]; first | done | rfl) | (rw [rsL hrc hkw (by decide), rl1Be (by decide) (by with_reducible assumption) (by rfl)]; first | done | rfl) | (rw [rsL hrc hkw (by decide), rl1De (by decide) (by with_reducible assumption) (by rfl)]; first | done | rfl) | (rw [rsL hrc hkw (by decide), rl1Dk (by decide) (by with_reducible assumption) (by rfl)]; first | done | rfl) | (rw [rsL hrc hkw (by decide)]; rfl))) | omega | decide | (show _ ≤ IntKind.wrap .i64 ((w.size : Int) + 1); rw [hw3]; omega) | (show IntKind.wrap .i64 ((w.size : Int) + 1) ≤ _; rw [hw3]; omega) | trace_state
      · refine loop_ok tys_ok (l := [(57, ⟨[], FRSplit⟩), (58, ⟨[], FRWords⟩), (59, ⟨[], FRNum37⟩), (60, ⟨[], FRNode37⟩), (18, ⟨[], FRName⟩)]) ⟨fcRSplit, fcRWords, fcRNum37, fcRNode37, fcRName, trivial⟩ (by kernel_rfl) (X := Nat)
          (fun k => ⟨[(8, vx (.int .i64 k)), (7, .va (.c (.d (lst wordsL)))), (6, vx (.int .i64 (kp w k))), (5, .va (.c (.d (.lst 1 3 fun i => [st (atS [w, a, b] i)])))), (4, vx (.string s)), (2, .va (.c (.own 0 0)))], [(0, .cells [.d (it 0), .d (st ⟨#[]⟩), .d (it 0), .d (st ⟨#[]⟩), .d (it 0), .d (st ⟨#[]⟩)])], 1, 141⟩)
          (fun k => 10 - k) (fun k => 1 ≤ k ∧ k ≤ 10) [] []
          (fun k _ _ => k + 1) [0] [0] 0 0 1 ?_ ?_ ?_
        · exact ⟨by decide, by decide⟩
        · repeat' (first | exact trivial | exact rfl | (intro _ h; exact absurd h (Nat.not_lt_zero _)) | (intro _ _; exact rfl) | refine ⟨?_, ?_⟩ | fail)
          all_goals first | (rw [hL]; done) | (rw [hL]; rfl) | (intro q hq; rw [hL]) | (rw [kp_one]; done) | (rw [hs]; done) | (rw [kp_one]; rfl) | trace_state
        · rintro k ⟨k1, k2⟩
          rcases Nat.lt_or_ge k 10 with hk | hk
          · have hne : decide ((k : Int) < ((wordsL.length : Nat) : Int)) = true := decide_eq_true (by show (k : Int) < ((10 : Nat) : Int); omega)
            have hw1 : IntKind.wrap .i64 ((k : Int) + 1) = ((k + 1 : Nat) : Int) := by rw [wI_id _ (by omega) (by omega)]; omega
            repeat' (first | exact trivial | (with_reducible exact (fun h : (_ == _) = _ => absurd h (by decide))) | (with_reducible exact (fun h : decide _ = _ => absurd h (by decide))) | (with_reducible exact (fun h : kindW _ = ((0 : Nat) : Int) => absurd ‹(kindW _ == 0) = false› (by rw [show kindW _ = 0 from h]; decide))) | (with_reducible exact (fun h : (_ != _) = _ => absurd h (by decide))) | (with_reducible exact (fun h : (!_) = _ => absurd h (by decide))) | (with_reducible exact (fun h => absurd (hne.symm.trans h) (by decide))) | refine ⟨?_, ?_⟩ | intro _)
            all_goals first | (with_reducible show (_ : Int) ≤ _) | (with_reducible show (_ : Int) < _) | (with_reducible show (_ : Nat) ≤ _) | (with_reducible show (_ : Nat) < _) | (conv => whnf)
            all_goals (try simp only [seq_iff, Int.toNat_natCast, decide_eq_true_eq, decide_eq_false_iff_not] at *)
            all_goals first | (show _ < ((10 : Nat) : Int); omega) | omega | (dsimp only; omega) | (rw [hw1]; done) | (dsimp only; rw [hw1]; done) | (exact congrArg (Value.int .i64) (kp_yes k1 (by omega) (by assumption)).symm) | (exact congrArg (Value.int .i64) (kp_no k1 (by omega) (by assumption)).symm) | rfl | decide | trace_state
          · have hne : decide ((k : Int) < ((wordsL.length : Nat) : Int)) = false := decide_eq_false (by show ¬ (k : Int) < ((10 : Nat) : Int); omega)
            obtain rfl : k = 10 := by omega
            rw [kp_all] at *
            rcases kindW_cases w with hkw | ⟨hkw, _⟩ | ⟨hkw, _⟩ | ⟨hkw, _⟩ | ⟨hkw, _⟩ | ⟨hkw, _⟩ | ⟨hkw, _⟩ | ⟨hkw, _⟩ | ⟨hkw, _⟩ | ⟨hkw, _⟩
            all_goals (rw [hkw])
            all_goals repeat' (first | exact trivial | (with_reducible exact (fun h : (_ == _) = _ => absurd h (by decide))) | (with_reducible exact (fun h : decide _ = _ => absurd h (by decide))) | (with_reducible exact (fun h : kindW _ = ((0 : Nat) : Int) => absurd ‹(kindW _ == 0) = false› (by rw [show kindW _ = 0 from h]; decide))) | (with_reducible exact (fun h : (_ != _) = _ => absurd h (by decide))) | (with_reducible exact (fun h : (!_) = _ => absurd h (by decide))) | (with_reducible exact (fun h => absurd (hne.symm.trans h) (by decide))) | (with_reducible exact (hsa hL _)) | (with_reducible exact (hsb hL _)) | (with_reducible exact (hsc hL _)) | (with_reducible exact (ck_ok _ (by decide) (by decide))) | refine ⟨?_, ?_⟩ | intro _)
            all_goals first | (with_reducible show (_ : Int) ≤ _) | (with_reducible show (_ : Int) < _) | (with_reducible show (_ : Nat) ≤ _) | (with_reducible show (_ : Nat) < _) | (conv => whnf)
            all_goals first | ((with_reducible show ASat _ _ _ _ _); refine draw_sto tys_ok (l := [(57, ⟨[], FRSplit⟩), (58, ⟨[], FRWords⟩), (59, ⟨[], FRNum37⟩), (60, ⟨[], FRNode37⟩), (18, ⟨[], FRName⟩)]) ⟨fcRSplit, fcRWords, fcRNum37, fcRNode37, fcRName, trivial⟩ (by kernel_rfl) 11 [(9, 8)] (.done) [0, 2, 3, 4, 5, 6, 7, 8, 9, 10, 11, 12, 13, 14, 15, 24, 34, 42, 50, 82, 85, 94, 105, 115, 127, 133] (by kernel_rfl) (by kernel_rfl) ?_) | skip
            all_goals repeat' (first | exact trivial | (with_reducible exact (fun h : (_ == _) = _ => absurd h (by decide))) | (with_reducible exact (fun h : decide _ = _ => absurd h (by decide))) | (with_reducible exact (fun h : kindW _ = ((0 : Nat) : Int) => absurd ‹(kindW _ == 0) = false› (by rw [show kindW _ = 0 from h]; decide))) | (with_reducible exact (fun h : (_ != _) = _ => absurd h (by decide))) | (with_reducible exact (fun h : (!_) = _ => absurd h (by decide))) | (with_reducible exact (hsa hL _)) | (with_reducible exact (hsb hL _)) | (with_reducible exact (hsc hL _)) | (with_reducible exact (ck_ok _ (by decide) (by decide))) | refine ⟨?_, ?_⟩ | intro _)
            all_goals first | (with_reducible show (_ : Int) ≤ _) | (with_reducible show (_ : Int) < _) | (with_reducible show (_ : Nat) ≤ _) | (with_reducible show (_ : Nat) < _) | (conv => whnf)
            all_goals first | ((with_reducible show Tl _ _); apply tl_intro; · (repeat' (first | exact trivial | refine ⟨?_, ?_⟩ | intro _)) <;> (first | exact rfl | omega | assumption | (dsimp only; omega))) | skip
            all_goals repeat' (first | exact trivial | (with_reducible exact (fun h : (_ == _) = _ => absurd h (by decide))) | (with_reducible exact (fun h : decide _ = _ => absurd h (by decide))) | (with_reducible exact (fun h : kindW _ = ((0 : Nat) : Int) => absurd ‹(kindW _ == 0) = false› (by rw [show kindW _ = 0 from h]; decide))) | (with_reducible exact (fun h : (_ != _) = _ => absurd h (by decide))) | (with_reducible exact (fun h : (!_) = _ => absurd h (by decide))) | (with_reducible exact (hsa hL _)) | (with_reducible exact (hsb hL _)) | (with_reducible exact (hsc hL _)) | (with_reducible exact (ck_ok _ (by decide) (by decide))) | refine ⟨?_, ?_⟩ | intro _)
            all_goals first | (with_reducible show (_ : Int) ≤ _) | (with_reducible show (_ : Int) < _) | (with_reducible show (_ : Nat) ≤ _) | (with_reducible show (_ : Nat) < _) | (conv => whnf)
            all_goals first | (with_reducible rfl) | ((with_reducible show Value.int _ _ = Value.int _ _); (first | (rw [rs0 hrc hkw (by decide)]; first | done | rfl | (refine congrArg Value.string ?_; show s.extract (IntKind.wrap .i64 ((w.size : Int) + 1)).toNat (Int.toNat (s.size : Int)) = _; rw [hw3, Int.toNat_natCast, Int.toNat_natCast, hex]; done)) | (rw [rsT hrc hkw (by decide)]; first | done | rfl | (refine congrArg Value.string ?_; show s.extract (IntKind.wrap .i64 ((w.size : Int) + 1)).toNat (Int.toNat (s.size : Int)) = _; rw [hw3, Int.toNat_natCast, Int.toNat_natCast, hex]; done)) | (rw [rsL hrc hkw (by decide), rl2P (by decide) (by with_reducible assumption) (by with_reducible assumption) (by rfl) (by rfl)]; first | done | rfl) | (rw [rsL hrc hkw (by decide), rl2Pn (by decide) (by with_reducible assumption) (by with_reducible assumption) (by rfl) (by rfl)]; first | done | rfl) | (rw [rsL hrc hkw (by decide), rl2Pe (by decide) (by with_reducible assumption) (by rfl)]; first | done | rfl) | (rw [rsL hrc hkw (by decide)]; rfl))) | ((with_reducible show Value.string _ = Value.string _); (first | (rw [rs0 hrc hkw (by decide)]; first | done | rfl | (refine congrArg Value.string ?_; show s.extract (IntKind.wrap .i64 ((w.size : Int) + 1)).toNat (Int.toNat (s.size : Int)) = _; rw [hw3, Int.toNat_natCast, Int.toNat_natCast, hex]; done)) | (rw [rsT hrc hkw (by decide)]; first | done | rfl | (refine congrArg Value.string ?_; show s.extract (IntKind.wrap .i64 ((w.size : Int) + 1)).toNat (Int.toNat (s.size : Int)) = _; rw [hw3, Int.toNat_natCast, Int.toNat_natCast, hex]; done)) | (rw [rsL hrc hkw (by decide), rl2P (by decide) (by with_reducible assumption) (by with_reducible assumption) (by rfl) (by rfl)]; first | done | rfl) | (rw [rsL hrc hkw (by decide), rl2Pn (by decide) (by with_reducible assumption) (by with_reducible assumption) (by rfl) (by rfl)]; first | done | rfl) | (rw [rsL hrc hkw (by decide), rl2Pe (by decide) (by with_reducible assumption) (by rfl)]; first | done | rfl) | (rw [rsL hrc hkw (by decide)]; rfl))) | omega | decide | (show _ ≤ IntKind.wrap .i64 ((w.size : Int) + 1); rw [hw3]; omega) | (show IntKind.wrap .i64 ((w.size : Int) + 1) ≤ _; rw [hw3]; omega) | trace_state
      · have hlen : R.length + 4 ≤ s.size + 1 := by
          have h1 : (splitS s).length = Lib.countB s blS + 1 := Lib.splitB_all blS (by decide) 0 _ s rfl
          have h2 := Lib.countB_le blS (by decide) s.size s (Nat.le_refl _)
          rw [hL] at h1
          simp only [List.length_cons] at h1
          omega
        have hw4 : IntKind.wrap .i64 (((R.length + 4 : Nat) : Int) - 1) = ((R.length + 3 : Nat) : Int) := by rw [wI_id _ (by omega) (by omega)]; omega
        have hz1 : (IntKind.wrap .i64 (((R.length + 4 : Nat) : Int) - 1) != 1) = true := by rw [hw4]; exact bne_iff_ne.2 (by omega)
        have hz2 : (IntKind.wrap .i64 (((R.length + 4 : Nat) : Int) - 1) == 2) = false := by rw [hw4]; exact beq_eq_false_iff_ne.2 (by omega)
        have hz3 : (IntKind.wrap .i64 (((R.length + 4 : Nat) : Int) - 1) != 2) = true := by rw [hw4]; exact bne_iff_ne.2 (by omega)
        have hz6 : (!(IntKind.wrap .i64 (((R.length + 4 : Nat) : Int) - 1) == 2)) = true := by rw [hz2]; rfl
        have hz5 : (((R.length + 4 : Nat) : Int) == 1) = false := beq_eq_false_iff_ne.2 (by omega)
        refine loop_ok tys_ok (l := [(57, ⟨[], FRSplit⟩), (58, ⟨[], FRWords⟩), (59, ⟨[], FRNum37⟩), (60, ⟨[], FRNode37⟩), (18, ⟨[], FRName⟩)]) ⟨fcRSplit, fcRWords, fcRNum37, fcRNode37, fcRName, trivial⟩ (by kernel_rfl) (X := Nat)
          (fun k => ⟨[(8, vx (.int .i64 k)), (7, .va (.c (.d (lst wordsL)))), (6, vx (.int .i64 (kp w k))), (5, .va (.c (.d (.lst 1 (R.length + 4) fun i => [st (atS (w :: a :: b :: c :: R) i)])))), (4, vx (.string s)), (2, .va (.c (.own 0 0)))], [(0, .cells [.d (it 0), .d (st ⟨#[]⟩), .d (it 0), .d (st ⟨#[]⟩), .d (it 0), .d (st ⟨#[]⟩)])], 1, 141⟩)
          (fun k => 10 - k) (fun k => 1 ≤ k ∧ k ≤ 10) [] []
          (fun k _ _ => k + 1) [0] [0] 0 0 1 ?_ ?_ ?_
        · exact ⟨by decide, by decide⟩
        · repeat' (first | exact trivial | exact rfl | (intro _ h; exact absurd h (Nat.not_lt_zero _)) | (intro _ _; exact rfl) | refine ⟨?_, ?_⟩ | fail)
          all_goals first | (rw [hL]; done) | (rw [hL]; rfl) | (intro q hq; rw [hL]) | (rw [kp_one]; done) | (rw [hs]; done) | (rw [kp_one]; rfl) | trace_state
        · rintro k ⟨k1, k2⟩
          rcases Nat.lt_or_ge k 10 with hk | hk
          · have hne : decide ((k : Int) < ((wordsL.length : Nat) : Int)) = true := decide_eq_true (by show (k : Int) < ((10 : Nat) : Int); omega)
            have hw1 : IntKind.wrap .i64 ((k : Int) + 1) = ((k + 1 : Nat) : Int) := by rw [wI_id _ (by omega) (by omega)]; omega
            repeat' (first | exact trivial | (with_reducible exact (fun h : (_ == _) = _ => absurd h (by decide))) | (with_reducible exact (fun h : decide _ = _ => absurd h (by decide))) | (with_reducible exact (fun h : kindW _ = ((0 : Nat) : Int) => absurd ‹(kindW _ == 0) = false› (by rw [show kindW _ = 0 from h]; decide))) | (with_reducible exact (fun h : (_ != _) = _ => absurd h (by decide))) | (with_reducible exact (fun h : (!_) = _ => absurd h (by decide))) | (with_reducible exact (fun h => absurd (hne.symm.trans h) (by decide))) | refine ⟨?_, ?_⟩ | intro _)
            all_goals first | (with_reducible show (_ : Int) ≤ _) | (with_reducible show (_ : Int) < _) | (with_reducible show (_ : Nat) ≤ _) | (with_reducible show (_ : Nat) < _) | (conv => whnf)
            all_goals (try simp only [seq_iff, Int.toNat_natCast, decide_eq_true_eq, decide_eq_false_iff_not] at *)
            all_goals first | (show _ < ((10 : Nat) : Int); omega) | omega | (dsimp only; omega) | (rw [hw1]; done) | (dsimp only; rw [hw1]; done) | (exact congrArg (Value.int .i64) (kp_yes k1 (by omega) (by assumption)).symm) | (exact congrArg (Value.int .i64) (kp_no k1 (by omega) (by assumption)).symm) | rfl | decide | trace_state
          · have hne : decide ((k : Int) < ((wordsL.length : Nat) : Int)) = false := decide_eq_false (by show ¬ (k : Int) < ((10 : Nat) : Int); omega)
            obtain rfl : k = 10 := by omega
            rw [kp_all] at *
            rcases kindW_cases w with hkw | ⟨hkw, _⟩ | ⟨hkw, _⟩ | ⟨hkw, _⟩ | ⟨hkw, _⟩ | ⟨hkw, _⟩ | ⟨hkw, _⟩ | ⟨hkw, _⟩ | ⟨hkw, _⟩ | ⟨hkw, _⟩
            all_goals (rw [hkw])
            all_goals repeat' (first | exact trivial | (with_reducible exact (fun h : (_ == _) = _ => absurd h (by decide))) | (with_reducible exact (fun h : decide _ = _ => absurd h (by decide))) | (with_reducible exact (fun h : kindW _ = ((0 : Nat) : Int) => absurd ‹(kindW _ == 0) = false› (by rw [show kindW _ = 0 from h]; decide))) | (with_reducible exact (fun h : (_ != _) = _ => absurd h (by decide))) | (with_reducible exact (fun h : (!_) = _ => absurd h (by decide))) | (with_reducible exact (fun h => absurd (hne.symm.trans h) (by decide))) | (with_reducible exact (fun h => absurd (hz1.symm.trans h) (by decide))) | (with_reducible exact (fun h => absurd (hz2.symm.trans h) (by decide))) | (with_reducible exact (fun h => absurd (hz3.symm.trans h) (by decide))) | (with_reducible exact (fun h => absurd (hz5.symm.trans h) (by decide))) | (with_reducible exact (fun h => absurd (hz6.symm.trans h) (by decide))) | (with_reducible exact (hsa hL _)) | (with_reducible exact (hsb hL _)) | (with_reducible exact (hsc hL _)) | (with_reducible exact (ck_ok _ (by decide) (by decide))) | refine ⟨?_, ?_⟩ | intro _)
            all_goals first | (with_reducible show (_ : Int) ≤ _) | (with_reducible show (_ : Int) < _) | (with_reducible show (_ : Nat) ≤ _) | (with_reducible show (_ : Nat) < _) | (conv => whnf)
            all_goals first | ((with_reducible show ASat _ _ _ _ _); refine draw_sto tys_ok (l := [(57, ⟨[], FRSplit⟩), (58, ⟨[], FRWords⟩), (59, ⟨[], FRNum37⟩), (60, ⟨[], FRNode37⟩), (18, ⟨[], FRName⟩)]) ⟨fcRSplit, fcRWords, fcRNum37, fcRNode37, fcRName, trivial⟩ (by kernel_rfl) 11 [(9, 8)] (.done) [0, 2, 3, 4, 5, 6, 7, 8, 9, 10, 11, 12, 13, 14, 15, 24, 34, 42, 50, 82, 85, 94, 105, 115, 127, 133] (by kernel_rfl) (by kernel_rfl) ?_) | skip
            all_goals repeat' (first | exact trivial | (with_reducible exact (fun h : (_ == _) = _ => absurd h (by decide))) | (with_reducible exact (fun h : decide _ = _ => absurd h (by decide))) | (with_reducible exact (fun h : kindW _ = ((0 : Nat) : Int) => absurd ‹(kindW _ == 0) = false› (by rw [show kindW _ = 0 from h]; decide))) | (with_reducible exact (fun h : (_ != _) = _ => absurd h (by decide))) | (with_reducible exact (fun h : (!_) = _ => absurd h (by decide))) | (with_reducible exact (fun h => absurd (hz1.symm.trans h) (by decide))) | (with_reducible exact (fun h => absurd (hz2.symm.trans h) (by decide))) | (with_reducible exact (fun h => absurd (hz3.symm.trans h) (by decide))) | (with_reducible exact (fun h => absurd (hz5.symm.trans h) (by decide))) | (with_reducible exact (fun h => absurd (hz6.symm.trans h) (by decide))) | (with_reducible exact (hsa hL _)) | (with_reducible exact (hsb hL _)) | (with_reducible exact (hsc hL _)) | (with_reducible exact (ck_ok _ (by decide) (by decide))) | refine ⟨?_, ?_⟩ | intro _)
            all_goals first | (with_reducible show (_ : Int) ≤ _) | (with_reducible show (_ : Int) < _) | (with_reducible show (_ : Nat) ≤ _) | (with_reducible show (_ : Nat) < _) | (conv => whnf)
            all_goals first | ((with_reducible show Tl _ _); apply tl_intro; · (repeat' (first | exact trivial | refine ⟨?_, ?_⟩ | intro _)) <;> (first | exact rfl | omega | assumption | (dsimp only; omega))) | skip
            all_goals repeat' (first | exact trivial | (with_reducible exact (fun h : (_ == _) = _ => absurd h (by decide))) | (with_reducible exact (fun h : decide _ = _ => absurd h (by decide))) | (with_reducible exact (fun h : kindW _ = ((0 : Nat) : Int) => absurd ‹(kindW _ == 0) = false› (by rw [show kindW _ = 0 from h]; decide))) | (with_reducible exact (fun h : (_ != _) = _ => absurd h (by decide))) | (with_reducible exact (fun h : (!_) = _ => absurd h (by decide))) | (with_reducible exact (fun h => absurd (hz1.symm.trans h) (by decide))) | (with_reducible exact (fun h => absurd (hz2.symm.trans h) (by decide))) | (with_reducible exact (fun h => absurd (hz3.symm.trans h) (by decide))) | (with_reducible exact (fun h => absurd (hz5.symm.trans h) (by decide))) | (with_reducible exact (fun h => absurd (hz6.symm.trans h) (by decide))) | (with_reducible exact (hsa hL _)) | (with_reducible exact (hsb hL _)) | (with_reducible exact (hsc hL _)) | (with_reducible exact (ck_ok _ (by decide) (by decide))) | refine ⟨?_, ?_⟩ | intro _)
            all_goals first | (with_reducible show (_ : Int) ≤ _) | (with_reducible show (_ : Int) < _) | (with_reducible show (_ : Nat) ≤ _) | (with_reducible show (_ : Nat) < _) | (conv => whnf)
            all_goals first | (with_reducible rfl) | ((with_reducible show Value.int _ _ = Value.int _ _); (first | (rw [rs0 hrc hkw (by decide)]; first | done | rfl | (refine congrArg Value.string ?_; show s.extract (IntKind.wrap .i64 ((w.size : Int) + 1)).toNat (Int.toNat (s.size : Int)) = _; rw [hw3, Int.toNat_natCast, Int.toNat_natCast, hex]; done)) | (rw [rsT hrc hkw (by decide)]; first | done | rfl | (refine congrArg Value.string ?_; show s.extract (IntKind.wrap .i64 ((w.size : Int) + 1)).toNat (Int.toNat (s.size : Int)) = _; rw [hw3, Int.toNat_natCast, Int.toNat_natCast, hex]; done)) | (rw [rsL hrc hkw (by decide)]; rfl))) | ((with_reducible show Value.string _ = Value.string _); (first | (rw [rs0 hrc hkw (by decide)]; first | done | rfl | (refine congrArg Value.string ?_; show s.extract (IntKind.wrap .i64 ((w.size : Int) + 1)).toNat (Int.toNat (s.size : Int)) = _; rw [hw3, Int.toNat_natCast, Int.toNat_natCast, hex]; done)) | (rw [rsT hrc hkw (by decide)]; first | done | rfl | (refine congrArg Value.string ?_; show s.extract (IntKind.wrap .i64 ((w.size : Int) + 1)).toNat (Int.toNat (s.size : Int)) = _; rw [hw3, Int.toNat_natCast, Int.toNat_natCast, hex]; done)) | (rw [rsL hrc hkw (by decide)]; rfl))) | omega | decide | (show _ ≤ IntKind.wrap .i64 ((w.size : Int) + 1); rw [hw3]; omega) | (show IntKind.wrap .i64 ((w.size : Int) + 1) ≤ _; rw [hw3]; omega) | trace_state
  · cases h

end Go.Proofs.YtakcacejpbiogaaDoor
