/- What pointers a text tells. No condition. -/
import Derived.Test.YtakcacejpbiogaaGreatDoorR8
import Derived.Defers
import Derived.Recover
import Derived.Lib.ItoaLen
import Derived.Lib.ItoaNum
set_option linter.all false
set_option maxHeartbeats 8000000
set_option maxRecDepth 100000
namespace Go.Proofs.YtakcacejpbiogaaGreatDoor
open Go.Sx
abbrev p1 (i : Nat) : Bool := ((i : Int) == 0)
abbrev p2 (s : ByteArray) : Bool := s.toList == (⟨#[110, 117, 108, 108]⟩ : ByteArray).toList
abbrev p3 (s : ByteArray) : Bool := hasP s ⟨#[38]⟩
abbrev nmW (s : ByteArray) : ByteArray := trimP s ⟨#[38]⟩
abbrev isN (W : Nat -> ByteArray) (i : Nat) : Bool := p1 i && p2 (W i)
def ptN (W : Nat -> ByteArray) : Nat -> List ByteArray
 | 0 => []
 | i + 1 => if isN W i = true then ptN W i else ptN W i ++ [nmW (W i)]
theorem row_snoc {M : List ByteArray} {x : ByteArray} {g : Nat -> List DV} (hg : g 0 = [st x]) : ∀ j, j < M.length + 1 -> appRow M.length (fun j => [st (atS M j)]) g j = [st (atS (M ++ [x]) j)] := by
 intro j hj
 unfold appRow
 split
 . rename_i h
   unfold atS
   simp only [List.getD_eq_getElem?_getD, List.getElem?_append_left h]
 . have : j = M.length := by omega
   subst this
   rw [Nat.sub_self, hg]
   simp [atS]
theorem ptN_len (W : Nat -> ByteArray) : ∀ i, (ptN W i).length <= i
 | 0 => Nat.le_refl 0
 | i + 1 => by
   have := ptN_len W i
   unfold ptN
   split
   . omega
   . simp; omega
def ptL (W : Nat -> ByteArray) : Nat -> ByteArray
 | 0 => ⟨#[]⟩
 | i + 1 => if isN W i = true then ptL W i else nmW (W i)
def ptB (W : Nat -> ByteArray) : Nat -> Bool
 | 0 => false
 | i + 1 => if isN W i = true then true else ptB W i
abbrev p5 (s t : ByteArray) : Bool := !(Op.bytesLess s.toList t.toList || s.toList == t.toList)
def okP (W : Nat -> ByteArray) (i : Nat) : Bool := isN W i || (p3 (W i) && (nameB (nmW (W i)) && p5 (nmW (W i)) (ptL W i)))
theorem okP_no {W : Nat -> ByteArray} {i k : Nat} (hi : i < k) (h : okP W i = false) : ¬ ∀ i, i < k -> okP W i = true := fun hh => absurd ((hh i hi).symm.trans h) (by decide)
def qP (W : Nat -> ByteArray) (k : Nat) (b0 : Bool) (l0 h0 : Int) (b1 : Bool) (m0 r0 : Int) : Exit -> St -> Prop
 | .normal, st1 => (∀ i, i < k -> okP W i = true) /\ normK [] st1 fun s => s = ⟨[], [(0, .cells [.d (bo b0), .d (it l0), .d (it h0), .d (bo b1), .d (it m0), .d (it r0), .d (bo (ptB W k)), .osl 2 1 0 (ptN W k).length]), (1, .cells [.d (it 0)]), (2, .row 1 (ptN W k).length fun j => [st (atS (ptN W k) j)])], s.next, s.lim⟩
 | .panic ch, st1 => ch = [{ v := wrV 3, recovered := false }] /\ (¬ ∀ i, i < k -> okP W i = true) /\ ∃ (cs : List Cell) (rest : List (Nat × Blk)), (normK [] st1 fun s => s = ⟨[], (0, .cells cs) :: (1, .cells [.d (it 0)]) :: rest, s.next, s.lim⟩) /\ cs.length = 8
 | _, _ => False
abbrev sl3R : List (Nat × Sm) := [(36, ⟨[], FCutP⟩), (38, ⟨[], FName⟩), (37, ⟨[], FNeed⟩)]
theorem sp3R : sumsOk Tryz.prog sl3R := ⟨fcCutP, fcName, fcNeed, trivial⟩
theorem ptr_walk {W : Nat -> ByteArray} {k : Nat} {b0 b1 : Bool} {l0 h0 m0 r0 : Int} (hk : k <= 4294967290) (hsz : ∀ i, (W i).size <= 4294967280) :
 ASat Tryz.prog 2 (Option.get Tryz.f18.body rfl) ⟨zipN 0 ([.c (.own 0 0), .c (.d (.lst 1 k fun i => [st (W i)]))].map Tm.va), [(0, .cells [.d (bo b0), .d (it l0), .d (it h0), .d (bo b1), .d (it m0), .d (it r0), .d (bo false), .d (.v (.slice none 0 0))]), (1, .cells [.d (it 0)])], 2, Tryz.f18.ntmps⟩ (qP W k b0 l0 h0 b1 m0 r0) := by
 refine ASat.seqA tys_ok (l := sl3R) sp3R (by kernel_rfl) ?_
 repeat' (first | exact trivial | refine ⟨?_, ?_⟩ | intro _)
 all_goals first | (with_reducible first | apply qa | apply qb | apply qc | apply qd) | (conv => whnf)
 refine ASat.seqA tys_ok (l := sl3R) sp3R (by kernel_rfl) ?_
 repeat' (first | exact trivial | refine ⟨?_, ?_⟩ | intro _)
 all_goals first | (with_reducible first | apply qa | apply qb | apply qc | apply qd) | (conv => whnf)
 refine ASat.blockP ?_
 refine ASat.le [0, 1] 1 ?_ (ASat.loop (X := Nat) (fun i => ⟨[(11, vx (.int .i64 i)), (10, vx (.int .i64 k)), (9, .va (.c (.d (.lst 1 k fun i => [st (W i)])))), (0, .va (.c (.own 0 0))), (4, vx (.string (ptL W i)))], [(0, .cells [.d (bo b0), .d (it l0), .d (it h0), .d (bo b1), .d (it m0), .d (it r0), .d (bo (ptB W i)), .osl 2 1 0 (ptN W i).length]), (1, .cells [.d (it 0)]), (2, .row 1 (ptN W i).length fun j => [st (atS (ptN W i) j)])], 3, Tryz.f18.ntmps⟩) (fun i => k - i) (fun i => i <= k /\ ∀ j, j < i -> okP W j = true) (fun i hx => ?_) 0 ⟨Nat.zero_le k, fun j hj => absurd hj (Nat.not_lt_zero j)⟩)
 . repeat' (first | exact trivial | exact rfl | (intro _ h; exact absurd h (Nat.not_lt_zero _)) | (intro _ _; exact rfl) | refine ⟨?_, ?_⟩ | fail)
   all_goals (simp; done)
 . obtain ⟨hx1, hx2⟩ := hx
   rcases Nat.lt_or_ge i k with hi | hi
   . have hib : (0 : Int) <= (i : Int) /\ (i : Int) < (k : Int) := by omega
     have hne : decide ((i : Int) < (k : Int)) = true := decide_eq_true (by omega)
     have hw : IntKind.wrap .i64 ((i : Int) + 1) = ((i + 1 : Nat) : Int) := by rw [wI_id _ (by omega) (by omega)]; omega
     have hnl := ptN_len W i
     refine ASat.seqA tys_ok (l := sl3R) sp3R (by kernel_rfl) ?_
     repeat' (first | exact trivial | (with_reducible exact (fun h => absurd (hne.symm.trans h) (by decide))) | refine ⟨?_, ?_⟩ | intro _)
     all_goals first | (with_reducible first | apply qa | apply qb | apply qc | apply qd) | (conv => whnf)
     refine ASat.seqP ?_
     refine ASat.condP ?_
     repeat' (first | exact trivial | (with_reducible first | exact (fun h => absurd (hne.symm.trans h) (by decide)) | exact (fun h => absurd ((congrArg Bool.not hne).symm.trans h) (by decide))) | refine ⟨?_, ?_⟩ | intro _)
     show ASat _ _ _ _ _
     refine ASat.vc tys_ok (l := sl3R) sp3R (by kernel_rfl) ?_
     (conv => whnf)
     refine ASat.seqP ?_
     refine ASat.blockP ?_
     refine ASat.seqA tys_ok (l := sl3R) sp3R (by kernel_rfl) ?_
     repeat' (first | exact trivial | (with_reducible first | exact hib.1 | exact hib.2 | exact hib) | refine ⟨?_, ?_⟩ | intro _)
     all_goals first | (with_reducible first | apply qa | apply qb | apply qc | apply qd) | (conv => whnf)
     all_goals first | rfl | omega | (with_reducible assumption) | exact ⟨szlo, ‹_›⟩ | exact ⟨szhi, ‹_›⟩ | skip
     cases h1 : isN W i with
     | true =>
       have h1' : p1 i = true /\ p2 (W i) = true := by simpa only [isN, Bool.and_eq_true] using h1
       have ha := h1'.1
       have hb : p2 (W (Int.toNat (i : Int))) = true := h1'.2
       have hs1 : ptN W (i + 1) = ptN W i := if_pos h1
       have hs2 : ptL W (i + 1) = ptL W i := if_pos h1
       have hs3 : ptB W (i + 1) = true := if_pos h1
       have hok : okP W i = true := by unfold okP; rw [h1]; rfl
       refine ASat.seqP ?_
       refine ASat.seqA tys_ok (l := sl3R) sp3R (by kernel_rfl) ?_
       repeat' (first | exact trivial | (with_reducible first | exact hib.1 | exact hib.2 | exact hib | exact ha | exact hb | exact (fun h => absurd (ha.symm.trans h) (by decide)) | exact (fun h => absurd (hb.symm.trans h) (by decide))) | refine ⟨?_, ?_⟩ | intro _)
       all_goals first | (with_reducible first | apply qa | apply qb | apply qc | apply qd) | (conv => whnf)
       all_goals first | rfl | omega | (with_reducible assumption) | exact ⟨szlo, ‹_›⟩ | exact ⟨szhi, ‹_›⟩ | skip
       refine ASat.condP ?_
       repeat' (first | exact trivial | (with_reducible first | exact (fun h => absurd (ha.symm.trans h) (by decide)) | exact (fun h => absurd (hb.symm.trans h) (by decide)) | exact (fun h => absurd ((congrArg Bool.not ha).symm.trans h) (by decide)) | exact (fun h => absurd ((congrArg Bool.not hb).symm.trans h) (by decide))) | refine ⟨?_, ?_⟩ | intro _)
       show ASat _ _ _ _ _
       refine ASat.vc tys_ok (l := sl3R) sp3R (by kernel_rfl) ?_
       repeat' (first | exact trivial | refine ⟨?_, ?_⟩ | intro _)
       all_goals first | (with_reducible first | apply qa | apply qb | apply qc | apply qd) | (conv => whnf)
       refine ASat.vc tys_ok (l := sl3R) sp3R (by kernel_rfl) ?_
       conv => whnf
       rw [hw]
       refine ⟨i + 1, ⟨hi, fun j hj => by rcases Nat.lt_or_ge j i with h | h; exact hx2 j h; exact (show j = i by omega) ▸ hok⟩, by dsimp only; omega, [0, 1, 2], 0, ?_⟩
       dsimp only
       rw [hs1, hs2, hs3]
       repeat' (first | exact trivial | exact rfl | (intro _ h; exact absurd h (Nat.not_lt_zero _)) | (intro _ _; exact rfl) | refine ⟨?_, ?_⟩ | fail)
       all_goals first | (exact congrArg (Value.int .i64) (by first | (rw [wI_id _ (by omega) (by omega)]; omega) | omega | (dsimp only; omega))) | exact row_snoc rfl | (simp; done) | skip
       all_goals trace_state
     | false =>
       have hs1 : ptN W (i + 1) = ptN W i ++ [nmW (W i)] := if_neg (by rw [h1]; decide)
       have hs2 : ptL W (i + 1) = nmW (W i) := if_neg (by rw [h1]; decide)
       have hs3 : ptB W (i + 1) = ptB W i := if_neg (by rw [h1]; decide)
       cases ha : p1 i with
       | true =>
         have hb : p2 (W (Int.toNat (i : Int))) = false := by
          have h2 := h1
          unfold isN at h2
          rw [ha] at h2; exact h2
         refine ASat.seqP ?_
         refine ASat.seqA tys_ok (l := sl3R) sp3R (by kernel_rfl) ?_
         repeat' (first | exact trivial | (with_reducible first | exact hib.1 | exact hib.2 | exact hib | exact ha | exact hb | exact (fun h => absurd (ha.symm.trans h) (by decide)) | exact (fun h => absurd (hb.symm.trans h) (by decide))) | refine ⟨?_, ?_⟩ | intro _)
         all_goals first | (with_reducible first | apply qa | apply qb | apply qc | apply qd) | (conv => whnf)
         all_goals first | rfl | omega | (with_reducible assumption) | exact ⟨szlo, ‹_›⟩ | exact ⟨szhi, ‹_›⟩ | skip
         refine ASat.condP ?_
         repeat' (first | exact trivial | (with_reducible first | exact (fun h => absurd (ha.symm.trans h) (by decide)) | exact (fun h => absurd (hb.symm.trans h) (by decide)) | exact (fun h => absurd ((congrArg Bool.not ha).symm.trans h) (by decide)) | exact (fun h => absurd ((congrArg Bool.not hb).symm.trans h) (by decide))) | refine ⟨?_, ?_⟩ | intro _)
         show ASat _ _ _ _ _
         refine ASat.vc tys_ok (l := sl3R) sp3R (by kernel_rfl) ?_
         (conv => whnf)
         refine ASat.seqA tys_ok (l := sl3R) sp3R (by kernel_rfl) ?_
         repeat' (first | exact trivial | (with_reducible first | exact hib.1 | exact hib.2 | exact hib) | refine ⟨?_, ?_⟩ | intro _)
         all_goals first | (with_reducible first | apply qa | apply qb | apply qc | apply qd) | (conv => whnf)
         all_goals first | rfl | omega | (with_reducible assumption) | exact ⟨szlo, ‹_›⟩ | exact ⟨szhi, ‹_›⟩ | skip
         have nsz : (trimP (W (Int.toNat (i : Int))) ⟨#[38]⟩).size <= 9223372036854775807 := Nat.le_trans (trimP_size _ _) (Nat.le_trans (hsz _) (by decide))
         cases h3 : p3 (W (Int.toNat (i : Int))) with
         | false =>
           have hno : okP W i = false := by unfold okP; rw [h1]; simp only [Bool.false_or]; rw [show p3 (W i) = false from h3]; rfl
           refine ASat.seqP ?_
           refine ASat.regP tys_ok (l := sl3R) sp3R 10 rfl rfl ?_
           repeat' (first | exact trivial | (with_reducible first | exact hib.1 | exact hib.2 | exact hib | exact nsz | exact h3 | exact (fun h => absurd (h3.symm.trans h) (by decide))) | refine ⟨?_, ?_⟩ | intro _)
           all_goals first | (with_reducible first | apply qa | apply qb | apply qc | apply qd) | (conv => whnf)
           all_goals first | rfl | omega | (with_reducible assumption) | exact ⟨szlo, ‹_›⟩ | exact ⟨szhi, ‹_›⟩ | skip
           all_goals refine PanOp.call rfl rfl rfl ?_
           all_goals refine PCall.of (x := wrV 3) ?_
           all_goals (conv => whnf)
           refine ⟨fpNeed, ?_⟩
           show qP W k b0 l0 h0 b1 m0 r0 (.panic _) _
           exact ⟨rfl, okP_no hi hno, _, _, rfl, rfl⟩
         | true =>
           cases h4 : nameB (trimP (W (Int.toNat (i : Int))) ⟨#[38]⟩) with
           | false =>
             have hno : okP W i = false := by unfold okP; rw [h1]; simp only [Bool.false_or]; rw [show p3 (W i) = true from h3, show nameB (nmW (W i)) = false from h4]; rfl
             refine ASat.seqP ?_
             refine ASat.regP tys_ok (l := sl3R) sp3R 10 rfl rfl ?_
             repeat' (first | exact trivial | (with_reducible first | exact hib.1 | exact hib.2 | exact hib | exact nsz | exact h3 | exact h4 | exact (fun h => absurd (h3.symm.trans h) (by decide)) | exact (fun h => absurd (h4.symm.trans h) (by decide))) | refine ⟨?_, ?_⟩ | intro _)
             all_goals first | (with_reducible first | apply qa | apply qb | apply qc | apply qd) | (conv => whnf)
             all_goals first | rfl | omega | (with_reducible assumption) | exact ⟨szlo, ‹_›⟩ | exact ⟨szhi, ‹_›⟩ | skip
             all_goals refine PanOp.call rfl rfl rfl ?_
             all_goals refine PCall.of (x := wrV 3) ?_
             all_goals (conv => whnf)
             refine ⟨fpNeed, ?_⟩
             show qP W k b0 l0 h0 b1 m0 r0 (.panic _) _
             exact ⟨rfl, okP_no hi hno, _, _, rfl, rfl⟩
           | true =>
             cases h5 : p5 (trimP (W (Int.toNat (i : Int))) ⟨#[38]⟩) (ptL W i) with
             | false =>
               have hno : okP W i = false := by unfold okP; rw [h1]; simp only [Bool.false_or]; rw [show p3 (W i) = true from h3, show nameB (nmW (W i)) = true from h4, show p5 (nmW (W i)) (ptL W i) = false from h5]; rfl
               refine ASat.seqP ?_
               refine ASat.regP tys_ok (l := sl3R) sp3R 10 rfl rfl ?_
               repeat' (first | exact trivial | (with_reducible first | exact hib.1 | exact hib.2 | exact hib | exact nsz | exact h3 | exact h4 | exact h5 | exact (fun h => absurd (h3.symm.trans h) (by decide)) | exact (fun h => absurd (h4.symm.trans h) (by decide)) | exact (fun h => absurd (h5.symm.trans h) (by decide))) | refine ⟨?_, ?_⟩ | intro _)
               all_goals first | (with_reducible first | apply qa | apply qb | apply qc | apply qd) | (conv => whnf)
               all_goals first | rfl | omega | (with_reducible assumption) | exact ⟨szlo, ‹_›⟩ | exact ⟨szhi, ‹_›⟩ | skip
               all_goals refine PanOp.call rfl rfl rfl ?_
               all_goals refine PCall.of (x := wrV 3) ?_
               all_goals (conv => whnf)
               refine ⟨fpNeedB h5, ?_⟩
               show qP W k b0 l0 h0 b1 m0 r0 (.panic _) _
               exact ⟨rfl, okP_no hi hno, _, _, rfl, rfl⟩
             | true =>
               have hok : okP W i = true := by unfold okP; rw [h1, show p3 (W i) = true from h3, show nameB (nmW (W i)) = true from h4, show p5 (nmW (W i)) (ptL W i) = true from h5]; rfl
               refine ASat.seqA tys_ok (l := sl3R) sp3R (by kernel_rfl) ?_
               repeat' (first | exact trivial | (with_reducible first | exact hib.1 | exact hib.2 | exact hib | exact nsz | exact h3 | exact h4 | exact h5 | exact (fun h => absurd (nsz.symm.trans h) (by decide)) | exact (fun h => absurd (h3.symm.trans h) (by decide)) | exact (fun h => absurd (h4.symm.trans h) (by decide)) | exact (fun h => absurd (h5.symm.trans h) (by decide))) | refine ⟨?_, ?_⟩ | intro _)
               all_goals first | (with_reducible first | apply qa | apply qb | apply qc | apply qd) | (conv => whnf)
               all_goals first | rfl | omega | (with_reducible assumption) | exact ⟨szlo, ‹_›⟩ | exact ⟨szhi, ‹_›⟩ | skip
               refine ASat.seqA tys_ok (l := sl3R) sp3R (by kernel_rfl) ?_
               repeat' (first | exact trivial | (with_reducible first | exact hib.1 | exact hib.2 | exact hib) | refine ⟨?_, ?_⟩ | intro _)
               all_goals first | (with_reducible first | apply qa | apply qb | apply qc | apply qd) | (conv => whnf)
               all_goals first | rfl | omega | (with_reducible assumption) | exact ⟨szlo, ‹_›⟩ | exact ⟨szhi, ‹_›⟩ | skip
               refine ASat.vc tys_ok (l := sl3R) sp3R (by kernel_rfl) ?_
               repeat' (first | exact trivial | refine ⟨?_, ?_⟩ | intro _)
               all_goals first | (with_reducible first | apply qa | apply qb | apply qc | apply qd) | (conv => whnf)
               all_goals first | rfl | omega | (with_reducible assumption) | exact ⟨szlo, ‹_›⟩ | exact ⟨szhi, ‹_›⟩ | skip
               refine ASat.vc tys_ok (l := sl3R) sp3R (by kernel_rfl) ?_
               conv => whnf
               rw [hw]
               refine ⟨i + 1, ⟨hi, fun j hj => by rcases Nat.lt_or_ge j i with h | h; exact hx2 j h; exact (show j = i by omega) ▸ hok⟩, by dsimp only; omega, [0, 1, 4], 0, ?_⟩
               dsimp only
               rw [hs1, hs2, hs3]
               repeat' (first | exact trivial | exact rfl | (intro _ h; exact absurd h (Nat.not_lt_zero _)) | (intro _ _; exact rfl) | refine ⟨?_, ?_⟩ | fail)
               all_goals first | (exact congrArg (Value.int .i64) (by first | (rw [wI_id _ (by omega) (by omega)]; omega) | omega | (dsimp only; omega))) | exact row_snoc rfl | (simp; done) | skip
       | false =>
         refine ASat.seqP ?_
         refine ASat.seqA tys_ok (l := sl3R) sp3R (by kernel_rfl) ?_
         repeat' (first | exact trivial | (with_reducible first | exact hib.1 | exact hib.2 | exact hib | exact ha | exact (fun h => absurd (ha.symm.trans h) (by decide))) | refine ⟨?_, ?_⟩ | intro _)
         all_goals first | (with_reducible first | apply qa | apply qb | apply qc | apply qd) | (conv => whnf)
         all_goals first | rfl | omega | (with_reducible assumption) | exact ⟨szlo, ‹_›⟩ | exact ⟨szhi, ‹_›⟩ | skip
         refine ASat.condP ?_
         repeat' (first | exact trivial | (with_reducible first | exact (fun h => absurd (ha.symm.trans h) (by decide)) | exact (fun h => absurd ((congrArg Bool.not ha).symm.trans h) (by decide))) | refine ⟨?_, ?_⟩ | intro _)
         show ASat _ _ _ _ _
         refine ASat.vc tys_ok (l := sl3R) sp3R (by kernel_rfl) ?_
         (conv => whnf)
         refine ASat.seqA tys_ok (l := sl3R) sp3R (by kernel_rfl) ?_
         repeat' (first | exact trivial | (with_reducible first | exact hib.1 | exact hib.2 | exact hib) | refine ⟨?_, ?_⟩ | intro _)
         all_goals first | (with_reducible first | apply qa | apply qb | apply qc | apply qd) | (conv => whnf)
         all_goals first | rfl | omega | (with_reducible assumption) | exact ⟨szlo, ‹_›⟩ | exact ⟨szhi, ‹_›⟩ | skip
         have nsz : (trimP (W (Int.toNat (i : Int))) ⟨#[38]⟩).size <= 9223372036854775807 := Nat.le_trans (trimP_size _ _) (Nat.le_trans (hsz _) (by decide))
         cases h3 : p3 (W (Int.toNat (i : Int))) with
         | false =>
           have hno : okP W i = false := by unfold okP; rw [h1]; simp only [Bool.false_or]; rw [show p3 (W i) = false from h3]; rfl
           refine ASat.seqP ?_
           refine ASat.regP tys_ok (l := sl3R) sp3R 10 rfl rfl ?_
           repeat' (first | exact trivial | (with_reducible first | exact hib.1 | exact hib.2 | exact hib | exact nsz | exact h3 | exact (fun h => absurd (h3.symm.trans h) (by decide))) | refine ⟨?_, ?_⟩ | intro _)
           all_goals first | (with_reducible first | apply qa | apply qb | apply qc | apply qd) | (conv => whnf)
           all_goals first | rfl | omega | (with_reducible assumption) | exact ⟨szlo, ‹_›⟩ | exact ⟨szhi, ‹_›⟩ | skip
           all_goals refine PanOp.call rfl rfl rfl ?_
           all_goals refine PCall.of (x := wrV 3) ?_
           all_goals (conv => whnf)
           refine ⟨fpNeed, ?_⟩
           show qP W k b0 l0 h0 b1 m0 r0 (.panic _) _
           exact ⟨rfl, okP_no hi hno, _, _, rfl, rfl⟩
         | true =>
           cases h4 : nameB (trimP (W (Int.toNat (i : Int))) ⟨#[38]⟩) with
           | false =>
             have hno : okP W i = false := by unfold okP; rw [h1]; simp only [Bool.false_or]; rw [show p3 (W i) = true from h3, show nameB (nmW (W i)) = false from h4]; rfl
             refine ASat.seqP ?_
             refine ASat.regP tys_ok (l := sl3R) sp3R 10 rfl rfl ?_
             repeat' (first | exact trivial | (with_reducible first | exact hib.1 | exact hib.2 | exact hib | exact nsz | exact h3 | exact h4 | exact (fun h => absurd (h3.symm.trans h) (by decide)) | exact (fun h => absurd (h4.symm.trans h) (by decide))) | refine ⟨?_, ?_⟩ | intro _)
             all_goals first | (with_reducible first | apply qa | apply qb | apply qc | apply qd) | (conv => whnf)
             all_goals first | rfl | omega | (with_reducible assumption) | exact ⟨szlo, ‹_›⟩ | exact ⟨szhi, ‹_›⟩ | skip
             all_goals refine PanOp.call rfl rfl rfl ?_
             all_goals refine PCall.of (x := wrV 3) ?_
             all_goals (conv => whnf)
             refine ⟨fpNeed, ?_⟩
             show qP W k b0 l0 h0 b1 m0 r0 (.panic _) _
             exact ⟨rfl, okP_no hi hno, _, _, rfl, rfl⟩
           | true =>
             cases h5 : p5 (trimP (W (Int.toNat (i : Int))) ⟨#[38]⟩) (ptL W i) with
             | false =>
               have hno : okP W i = false := by unfold okP; rw [h1]; simp only [Bool.false_or]; rw [show p3 (W i) = true from h3, show nameB (nmW (W i)) = true from h4, show p5 (nmW (W i)) (ptL W i) = false from h5]; rfl
               refine ASat.seqP ?_
               refine ASat.regP tys_ok (l := sl3R) sp3R 10 rfl rfl ?_
               repeat' (first | exact trivial | (with_reducible first | exact hib.1 | exact hib.2 | exact hib | exact nsz | exact h3 | exact h4 | exact h5 | exact (fun h => absurd (h3.symm.trans h) (by decide)) | exact (fun h => absurd (h4.symm.trans h) (by decide)) | exact (fun h => absurd (h5.symm.trans h) (by decide))) | refine ⟨?_, ?_⟩ | intro _)
               all_goals first | (with_reducible first | apply qa | apply qb | apply qc | apply qd) | (conv => whnf)
               all_goals first | rfl | omega | (with_reducible assumption) | exact ⟨szlo, ‹_›⟩ | exact ⟨szhi, ‹_›⟩ | skip
               all_goals refine PanOp.call rfl rfl rfl ?_
               all_goals refine PCall.of (x := wrV 3) ?_
               all_goals (conv => whnf)
               refine ⟨fpNeedB h5, ?_⟩
               show qP W k b0 l0 h0 b1 m0 r0 (.panic _) _
               exact ⟨rfl, okP_no hi hno, _, _, rfl, rfl⟩
             | true =>
               have hok : okP W i = true := by unfold okP; rw [h1, show p3 (W i) = true from h3, show nameB (nmW (W i)) = true from h4, show p5 (nmW (W i)) (ptL W i) = true from h5]; rfl
               refine ASat.seqA tys_ok (l := sl3R) sp3R (by kernel_rfl) ?_
               repeat' (first | exact trivial | (with_reducible first | exact hib.1 | exact hib.2 | exact hib | exact nsz | exact h3 | exact h4 | exact h5 | exact (fun h => absurd (nsz.symm.trans h) (by decide)) | exact (fun h => absurd (h3.symm.trans h) (by decide)) | exact (fun h => absurd (h4.symm.trans h) (by decide)) | exact (fun h => absurd (h5.symm.trans h) (by decide))) | refine ⟨?_, ?_⟩ | intro _)
               all_goals first | (with_reducible first | apply qa | apply qb | apply qc | apply qd) | (conv => whnf)
               all_goals first | rfl | omega | (with_reducible assumption) | exact ⟨szlo, ‹_›⟩ | exact ⟨szhi, ‹_›⟩ | skip
               refine ASat.seqA tys_ok (l := sl3R) sp3R (by kernel_rfl) ?_
               repeat' (first | exact trivial | (with_reducible first | exact hib.1 | exact hib.2 | exact hib) | refine ⟨?_, ?_⟩ | intro _)
               all_goals first | (with_reducible first | apply qa | apply qb | apply qc | apply qd) | (conv => whnf)
               all_goals first | rfl | omega | (with_reducible assumption) | exact ⟨szlo, ‹_›⟩ | exact ⟨szhi, ‹_›⟩ | skip
               refine ASat.vc tys_ok (l := sl3R) sp3R (by kernel_rfl) ?_
               repeat' (first | exact trivial | refine ⟨?_, ?_⟩ | intro _)
               all_goals first | (with_reducible first | apply qa | apply qb | apply qc | apply qd) | (conv => whnf)
               all_goals first | rfl | omega | (with_reducible assumption) | exact ⟨szlo, ‹_›⟩ | exact ⟨szhi, ‹_›⟩ | skip
               refine ASat.vc tys_ok (l := sl3R) sp3R (by kernel_rfl) ?_
               conv => whnf
               rw [hw]
               refine ⟨i + 1, ⟨hi, fun j hj => by rcases Nat.lt_or_ge j i with h | h; exact hx2 j h; exact (show j = i by omega) ▸ hok⟩, by dsimp only; omega, [0, 1, 4], 0, ?_⟩
               dsimp only
               rw [hs1, hs2, hs3]
               repeat' (first | exact trivial | exact rfl | (intro _ h; exact absurd h (Nat.not_lt_zero _)) | (intro _ _; exact rfl) | refine ⟨?_, ?_⟩ | fail)
               all_goals first | (exact congrArg (Value.int .i64) (by first | (rw [wI_id _ (by omega) (by omega)]; omega) | omega | (dsimp only; omega))) | exact row_snoc rfl | (simp; done) | skip
   . have hne : decide ((i : Int) < (k : Int)) = false := decide_eq_false (by omega)
     obtain rfl : i = k := by omega
     refine ASat.seqA tys_ok (l := sl3R) sp3R (by kernel_rfl) ?_
     repeat' (first | exact trivial | (with_reducible exact (fun h => absurd (hne.symm.trans h) (by decide))) | refine ⟨?_, ?_⟩ | intro _)
     all_goals first | (with_reducible first | apply qa | apply qb | apply qc | apply qd) | (conv => whnf)
     refine ASat.seqP ?_
     refine ASat.condP ?_
     repeat' (first | exact trivial | (with_reducible first | exact (fun h => absurd (hne.symm.trans h) (by decide)) | exact (fun h => absurd ((congrArg Bool.not hne).symm.trans h) (by decide))) | refine ⟨?_, ?_⟩ | intro _)
     show ASat _ _ _ _ _
     refine ASat.vc tys_ok (l := sl3R) sp3R (by kernel_rfl) ?_
     repeat' (first | exact trivial | refine ⟨?_, ?_⟩ | intro _)
     all_goals first | (with_reducible first | apply qa | apply qb | apply qc | apply qd) | (conv => whnf)
     all_goals first | exact hx2 | exact hx2 _ ‹_› | rfl
end Go.Proofs.YtakcacejpbiogaaGreatDoor
namespace Go.Sx
section
variable {P : Program} {t : TT} {l : List (Nat × Sm)}
theorem OSat.norm {base : Nat} {ops : Array Oper} {k : Nat} {st : St} {Q : Exit -> St -> Prop} (live : List Nat) (h : OSat P base ops k (Go.Sx.norm live st) Q) : OSat P base ops k st Q := ⟨fun ψ S w a hr R hR => h.run ψ S w a (hr.norm live) R hR⟩
theorem OSat.le {base : Nat} {ops : Array Oper} {k : Nat} {st st' : St} {Q : Exit -> St -> Prop} (ids : List Nat) (nv : Nat) (hl : leSt base ids nv st st') (h : OSat P base ops k st' Q) : OSat P base ops k st Q := by
 refine ⟨fun ψ S w a hr R hR => ?_⟩
 obtain ⟨h1, h2⟩ := hr.le hl
 exact h.run _ S w a h1 R fun e st2 ψ2 S2 w2 a2 q1 q2 q3 => hR e st2 ψ2 S2 w2 a2 q1 q2 (h2.trans q3)
theorem DSat.le {base : Nat} {ds : List Deferred} {c : Code} {st st' : St} {Q : Exit -> St -> Prop} (ids : List Nat) (nv : Nat) (hl : leSt base ids nv st st') (h : DSat P base ds c st' Q) : DSat P base ds c st Q := by
 refine ⟨fun ψ S w a hr => ?_⟩
 obtain ⟨h1, h2⟩ := hr.le hl
 refine wp_mono (h.run _ S w a h1) ?_
 rintro e a' w' ⟨st2, ψ2, S2, a0, q1, q2, q3, q4⟩
 exact ⟨st2, ψ2, S2, a0, q1, q2, q3, h2.trans q4⟩
structure CloK (P : Program) (base : Nat) (g : Nat) (caps : List (Nat × Nat)) (x : Value) (st : St) (K : St -> Prop) : Prop where
 run : ∀ (u u' : FrameMode), (u = .returning /\ u' = .returning /\ x = .nilIface) \/ (u = .panicking [{ v := x, recovered := false }] /\ u' = .panicking [{ v := x, recovered := true }]) ->
  ∀ ψ S w a (vs : Array Value), Rel P base ψ S w st a -> All2 (RepVa P ψ S w) (caps.map fun p => .c (.own p.1 p.2)) vs.toList ->
  CallsD P g vs u w fun e u2 w' => e = .returned (.tuple #[]) /\ u2 = u' /\ ∃ st' ψ' S', K st' /\ Rel P base ψ' S' w' st' a /\ Ext base ψ S w ψ' S' w'
theorem CloK.of {g : Nat} {gn : Func} {rid rd : Nat} {rops : Array Oper} {ro : Oper} {rest : Code} {base : Nat} (hf : P.funcs[g]? = some gn) (hb : gn.body = some (.seq (.region rid rops false) rest)) (hops : rops.toList = [ro]) (hg : ro.guard = none)
 (hop : ro.op = .call { callee := .builtin .recover, args := #[], argTypes := #[] }) (hd : ro.dst = some rd) (hres : gn.results = #[]) {caps : List (Nat × Nat)} (hrd : Nat.blt rd gn.ntmps = true) (hlen : Nat.ble caps.length gn.ntmps = true)
 {x : Value} (hx : Scalar x) {ts : List (Nat × Tm)} {h : List (Nat × Blk)} {n m : Nat} {K : St -> Prop}
 (hk : ASat P n rest ⟨(rd, .va (.c (.d (.v x)))) :: zipN 0 ((caps.map fun p => .c (.own p.1 p.2)).map .va), h, n, gn.ntmps⟩ fun e st => match e, st with
   | .normal, ⟨_, h', n', _⟩ => K ⟨ts, h', n', m⟩
   | _, _ => False) : CloK P base g caps x ⟨ts, h, n, m⟩ K := by
 have hlen := Nat.le_of_ble_eq_true hlen
 refine ⟨fun u u' huu ψ S w a vs hrel hv => callsD_of_wpS hf hb fun c₀ cs hu => ?_⟩
 have hvl := hv.length
 rw [List.length_map] at hvl
 have hsz : vs.size = caps.length := by simpa using hvl.symm
 have hrel2 : Rel P n ψ S w ⟨zipN 0 ((caps.map fun p => .c (.own p.1 p.2)).map .va), h, n, gn.ntmps⟩ { tmps := vs ++ Array.replicate (gn.ntmps - vs.size) undef, defers := [] } :=
  ⟨Nat.le_refl _, hrel.sim, by simp; omega, rfl, fun t => start_tmps hv gn.ntmps t⟩
 have q0 : rops[0]? = some ro := by rw [<- Array.getElem?_toList, hops]; rfl
 have hs : rops.size = 1 := by have := congrArg List.length hops; simpa using this
 have x0 : ∀ (a : Act) (w : World), (execOp a.eval ro).run P w = .ok .recover w := by
  intro a w
  simp only [execOp, hop, resolve, Sem.run_bind, Sem.run_pure, Result.andThen_ok, invoke]
  rfl
 obtain ⟨s1, k1, r1⟩ := putK_rel (dst := some rd) (x := .va (.c (.d (.v x)))) (v := x) (K := fun s => s = ⟨(rd, .va (.c (.d (.v x)))) :: zipN 0 ((caps.map fun p => .c (.own p.1 p.2)).map .va), h, n, gn.ntmps⟩) (by unfold Go.Sx.putK; simp only [hrd, fT_eq]) hrel2 (RepD.v hx)
 subst k1
 apply wpS_seq
 apply wpS_region
 rw [hs, show List.range 1 = [0] from rfl]
 simp only [wpOpsS, q0, Region.wanted, hg, x0, if_true]
 have fin : ∀ cs', cs' = { c₀ with mode := u' } :: cs -> Exit.thenS (rest.wpS P (bodyPostS P gn c₀ cs fun e u2 w' => e = .returned (.tuple #[]) /\ u2 = u' /\ ∃ st' ψ' S', K st' /\ Rel P base ψ' S' w' st' a /\ Ext base ψ S w ψ' S' w')) (bodyPostS P gn c₀ cs fun e u2 w' => e = .returned (.tuple #[]) /\ u2 = u' /\ ∃ st' ψ' S', K st' /\ Rel P base ψ' S' w' st' a /\ Ext base ψ S w ψ' S' w') .normal
  (Act.put { tmps := vs ++ Array.replicate (gn.ntmps - vs.size) undef, defers := [] } (some rd) x) cs' w := by
  rintro cs' rfl
  refine wpS_of_wp (wp_mono (hk.run ψ S w _ r1) ?_)
  rintro e a' w' ⟨⟨ts', h', n', m'⟩, ψ', S', hq, hr', he⟩
  cases e with
  | normal =>
    have hdom : ∀ k l, ψ k = some l -> k < n := fun k l hk => by
     rcases Nat.lt_or_ge k n with h1 | h1
     . exact h1
     . have := hrel.sim.dom k h1
       rw [hk] at this; cases this
    have hsub : PsiSub ψ ψ' := fun k l hk => by rw [he.agr k (hdom k l hk)]; exact hk
    refine ⟨hr'.defers, u', rfl, .tuple #[], ?_, rfl, rfl, ⟨ts, h', n', m⟩, ψ', S', hq, ⟨Nat.le_trans hrel.bas hr'.bas, hr'.sim, hrel.lim, hrel.defers, fun t => (hrel.tmps t).later hsub he.later⟩,
     ⟨he.os, he.tape, he.output, he.grow, he.old, he.later, he.newS, he.newP, fun k hk => he.agr k (Nat.lt_of_lt_of_le hk hrel.bas)⟩⟩
    exact results_run (fn := gn) (vs := []) (by rw [hres]; rfl)
  | ret => exact hq.elim
  | exit id => exact hq.elim
  | goto l => exact hq.elim
  | panic ch => exact hq.elim
  | outgrown => exact hq.elim
 rcases huu with ⟨rfl, rfl, rfl⟩ | ⟨rfl, rfl⟩
 . rw [show recoverD (c₀ :: cs) = none by simp [recoverD, hu]]
   rw [hd]
   exact fin _ (by rw [<- hu])
 . rw [show recoverD (c₀ :: cs) = some (x, { c₀ with mode := .panicking [{ v := x, recovered := true }] } :: cs) by simp [recoverD, hu]]
   rw [hd]
   exact fin _ rfl
theorem CloK.norm {base g : Nat} {caps : List (Nat × Nat)} {x : Value} {st : St} {K : St -> Prop} (live : List Nat) (h : CloK P base g caps x (Go.Sx.norm live st) K) : CloK P base g caps x st K :=
 ⟨fun u u' huu ψ S w a vs hr hv => h.run u u' huu ψ S w a vs (hr.norm live) hv⟩
theorem CloK.le {base g : Nat} {caps : List (Nat × Nat)} {x : Value} {st st' : St} {K : St -> Prop} (ids : List Nat) (nv : Nat) (hc : caps.all (fun p => Nat.blt p.1 base) = true) (hl : leSt base ids nv st st') (h : CloK P base g caps x st' K) : CloK P base g caps x st K := by
 refine ⟨fun u u' huu ψ S w a vs hr hv => ?_⟩
 obtain ⟨h1, h2⟩ := hr.le hl
 refine CallsD.mono (h.run u u' huu _ S w a vs h1 ?_) ?_
 . have : ∀ (caps : List (Nat × Nat)) (l : List Value), caps.all (fun p => Nat.blt p.1 base) = true -> All2 (RepVa P ψ S w) (caps.map fun p => .c (.own p.1 p.2)) l -> All2 (RepVa P (psiRen ψ ids nv) S w) (caps.map fun p => .c (.own p.1 p.2)) l := by
    intro caps
    induction caps with
    | nil => intro l _ h; cases l with
      | nil => trivial
      | cons y l => exact h.elim
    | cons p caps ih =>
      intro l ha h
      cases l with
      | nil => exact h.elim
      | cons y l =>
        simp only [List.all_cons, Bool.and_eq_true] at ha
        obtain ⟨⟨b, m, e1, e2⟩, h4⟩ := h
        exact ⟨⟨b, m, (h2.agr _ (Nat.le_of_ble_eq_true ha.1)).trans e1, e2⟩, ih l ha.2 h4⟩
   exact this _ _ hc hv
 . rintro e u2 w' ⟨q1, q2, st2, ψ2, S2, q3, q4, q5⟩
   exact ⟨q1, q2, st2, ψ2, S2, q3, q4, h2.trans q5⟩
def QD (P : Program) (base : Nat) (g : Nat) (caps : List (Nat × Nat)) (K : St -> Prop) : Exit -> St -> Prop
 | .ret, st => CloK P base g caps .nilIface st K
 | .normal, st => CloK P base g caps .nilIface st K
 | .panic ch, st => ∃ x, ch = [{ v := x, recovered := false }] /\ CloK P base g caps x st K
 | _, _ => False
theorem EndSat.defers {f : Nat} {fn : Func} {c0 c2 : Code} {id : Nat} {ops : Array Oper} {o1 o2 : Oper} {d g : Nat} {caps : List (Nat × Nat)} {ts0 : Array TypeId} (ht : t.ok P) (hl : sumsOk P l) (hf : P.funcs[f]? = some fn) (hb : fn.body = some (.seq c0 (.seq (.region id ops false) c2)))
 (hops : ops.toList = [o1, o2]) (hg1 : o1.guard = none) (hg2 : o2.guard = none) (hop : o2.op = .defer { callee := .value (.tmp d), args := #[], argTypes := ts0 }) (hd2 : o2.dst = none) (hc : Callable P g)
 {vas : List Va} {h : List (Nat × Blk)} {n : Nat} {fr : Bool} {rows : List (Nat × Nat)} {K0 : Rt -> List (Option (Nat -> List DV)) -> Prop}
 (hk : ASat P n c0 ⟨zipN 0 (vas.map .va), h, n, fn.ntmps⟩ (thenP (fun st => vcOps P t.get (vcCall P (sums l) n) ops.toList [o1] st fun st => lookT st.tmps d = .va (.c (.fn g caps)) /\ n <= st.next /\ ∀ ds, DSat P st.next ds c2 st (QD P st.next g caps (fin t.get fr rows fn.results.toList K0))) fun _ _ => False)) : EndSat P n f fn vas h (fin t.get fr rows fn.results.toList K0) := by
 refine ⟨fun ψ S w vals hrel => calls_of_wp_defers hf hb (wp_seq (wp_mono (hk.run ψ S w _ hrel) ?_))⟩
 rintro e a' w' ⟨st1, ψ1, S1, hq, hr1, he1⟩
 cases e with
 | normal =>
   have q1 : ops[0]? = some o1 := by rw [<- Array.getElem?_toList, hops]; rfl
   have q2 : ops[1]? = some o2 := by rw [<- Array.getElem?_toList, hops]; rfl
   have hs : ops.size = 2 := by have := congrArg List.length hops; simpa using this
   refine wp_seq (wp_region ?_)
   rw [hs]
   refine vcOps_then (P := P) (TT.tysOk ht) (TT.zeros ht) (vcCall_ok (sums_ok hl) n) (ops := ops) (l2 := [1]) [o1] 0 ψ1 S1 w' st1 a' _ (fun i o hi => ?_) hr1 hq ?_
   . cases i with
     | zero => cases hi; exact q1
     | succ i => cases hi
   . rintro st2 ψ2 S2 w2 a2 ⟨hfn, hnb, hds⟩ hr2 he2
     have hv := hr2.tmps d
     rw [hfn] at hv
     obtain ⟨vs, hv, hcaps⟩ := hv
     have x2 : (execOp a2.eval o2).run P w2 = .ok (.defer { target := .fn (.func g) vs, args := #[] }) w2 := by
      simp only [execOp, hop, resolve, Act.eval, hv, Deferred.ofValue, Sem.run_bind, Sem.run_pure, Result.andThen_ok]
      simp
     simp only [wpOps, q2, Region.wanted, hg2, if_true, Oper.wp, x2, Oper.upon, hd2]
     refine .inl ?_
     have hd0 := hr2.defers
     obtain ⟨tm, df⟩ := a2
     dsimp only at hd0
     subst hd0
     show Code.wp P c2 _ (plusD [{ target := .fn (.func g) vs, args := #[] }] ⟨tm, []⟩) w2
     have hr3 : Rel P st2.next ψ2 S2 w2 st2 ⟨tm, []⟩ := ⟨Nat.le_refl _, hr2.sim, hr2.lim, hr2.defers, hr2.tmps⟩
     refine wp_mono ((hds _).run ψ2 S2 w2 _ hr3) ?_
     rintro e a3 w3 ⟨st3, ψ3, S3, a0, hQ, hr4, rfl, he4⟩
     have hdom : ∀ k l, ψ2 k = some l -> k < st2.next := fun k l hk => by
      rcases Nat.lt_or_ge k st2.next with h1 | h1
      . exact h1
      . have := hr2.sim.dom k h1
        rw [hk] at this; cases this
     have hsub : PsiSub ψ2 ψ3 := fun k l hk => by rw [he4.agr k (hdom k l hk)]; exact hk
     have hcaps3 : All2 (RepVa P ψ3 S3 w3) (caps.map fun p => .c (.own p.1 p.2)) vs.toList :=
      All2.map_left (R' := RepVa P ψ3 S3 w3) (fun p : Nat × Nat => Va.c (.own p.1 p.2)) (fun p y h => RepC.later (c := .own p.1 p.2) (show RepC P ψ2 S2 w2 (.own p.1 p.2) y from h) hsub he4.later) hcaps
     have inv : (invoke (.fn (.func g) vs) #[]).run P w3 = .ok (.enter g vs) w3 := by
      simp only [invoke]
      rw [run_enter hc]; simp
     have he5 : Ext n ψ S w ψ3 S3 w3 := (he1.trans he2).trans ⟨he4.os, he4.tape, he4.output, he4.grow, he4.old, he4.later, he4.newS, he4.newP, fun k hk => he4.agr k (Nat.lt_of_lt_of_le hk hnb)⟩
     have fin2 : ∀ (x : Value) (u u' : FrameMode), ((u = .returning /\ u' = .returning /\ x = .nilIface) \/ (u = .panicking [{ v := x, recovered := false }] /\ u' = .panicking [{ v := x, recovered := true }])) -> u ≠ .run -> settle u' = .returning -> CloK P st2.next g caps x st3 (fin t.get fr rows fn.results.toList K0) ->
      Leaves P fn a0.tmps (fun e w' => ∃ v st' ψ' S' a', e = .returned v /\ (results fn a'.tmps).run P w' = .ok v w' /\ fin t.get fr rows fn.results.toList K0 st' /\ Rel P n ψ' S' w' st' a' /\ Ext n ψ S w ψ' S' w') [{ target := .fn (.func g) vs, args := #[] }] u w3 := by
      intro x u u' huu hur hst hC
      refine leaves_cons hur inv (CallsD.mono (hC.run u u' huu ψ3 S3 w3 a0 vs hr4 hcaps3) ?_)
      rintro e u2 w4 ⟨rfl, rfl, st4, ψ4, S4, hK, hr6, he6⟩
      show Leaves P fn a0.tmps _ [] (settle u2) w4
      rw [hst]
      have hK' := hK
      unfold Go.Sx.fin at hK'
      obtain ⟨xs, vs2, k1, k2, k3⟩ := resVars_ok (TT.tysOk ht) hr6 hK'
      exact ⟨_, results_run k3, _, st4, ψ4, S4, a0, rfl, results_run k3, hK, ⟨Nat.le_trans hnb hr6.bas, hr6.sim, hr6.lim, hr6.defers, hr6.tmps⟩, he5.trans ⟨he6.os, he6.tape, he6.output, he6.grow, he6.old, he6.later, he6.newS, he6.newP, fun k hk => he6.agr k (Nat.lt_of_lt_of_le hk hnb)⟩⟩
     have hd4 := hr4.defers
     obtain ⟨tm4, df4⟩ := a0
     dsimp only at hd4
     subst hd4
     cases e with
     | normal => exact fin2 _ _ _ (.inl ⟨rfl, rfl, rfl⟩) (by simp) rfl hQ
     | ret => exact fin2 _ _ _ (.inl ⟨rfl, rfl, rfl⟩) (by simp) rfl hQ
     | exit id => exact hQ.elim
     | goto l => exact hQ.elim
     | panic ch =>
       obtain ⟨x, rfl, hQ⟩ := hQ
       exact fin2 _ _ _ (.inr ⟨rfl, rfl⟩) (by simp) rfl hQ
     | outgrown => exact hQ.elim
 | ret => exact hq.elim
 | exit id => exact hq.elim
 | goto l => exact hq.elim
 | panic ch => exact hq.elim
 | outgrown => exact hq.elim
end
end Go.Sx
namespace Go.Proofs.YtakcacejpbiogaaGreatDoor
open Go.Sx
theorem taR {P : Program} {base : Nat} {ops : Array Oper} {id : Nat} {o1 o2 o3 : Oper} {T X : TypeId} {d0 d1 d2 d3 : Nat} {e : Int} {ts : List (Nat × Tm)} {h : List (Nat × Blk)} {n m : Nat} {Q : Exit -> St -> Prop}
 (hops : ops.toList = [o1, o2, o3]) (g1 : o1.guard = none) (g2 : o2.guard = none) (g3 : o3.guard = none) (h1 : o1.op = .typeAssert (.tmp d0) X T true) (e1 : o1.dst = some d1) (h2 : o2.op = .extract (.tmp d1) 1) (e2 : o2.dst = some d2) (h3 : o3.op = .extract (.tmp d1) 0) (e3 : o3.dst = some d3)
 (h0 : lookT ts d0 = .va (.c (.d (.v (.iface T (.agg #[.int .i64 e])))))) (l1 : Nat.blt d1 m = true) (l2 : Nat.blt d2 m = true) (l3 : Nat.blt d3 m = true) (l12 : Nat.beq d2 d1 = false)
 (hi : ∀ w, (Instr.typeAssert (.iface T (.agg #[.int .i64 e])) X T true).run P w = .ok (.tuple #[.agg #[.int .i64 e], .bool true]) w)
 (hq : Q .normal ⟨(d3, .va (.agg [.d (it e)])) :: (d2, .va (.c (.kb true))) :: (d1, topT) :: ts, h, n, m⟩) : ASat P base (.region id ops false) ⟨ts, h, n, m⟩ Q := by
 refine ⟨fun ψ S w a hr => wp_region ?_⟩
 have hs : ops.size = 3 := by have := congrArg List.length hops; simpa using this
 have q1 : ops[0]? = some o1 := by rw [<- Array.getElem?_toList, hops]; rfl
 have q2 : ops[1]? = some o2 := by rw [<- Array.getElem?_toList, hops]; rfl
 have q3 : ops[2]? = some o3 := by rw [<- Array.getElem?_toList, hops]; rfl
 have n1 : d1 < a.tmps.size := by rw [hr.lim]; exact Nat.le_of_ble_eq_true l1
 have n2 : d2 < a.tmps.size := by rw [hr.lim]; exact Nat.le_of_ble_eq_true l2
 have v0 : a.eval (.tmp d0) = .iface T (.agg #[.int .i64 e]) := by
  have := hr.tmps d0
  rw [show lookT (St.mk ts h n m).tmps d0 = _ from h0] at this
  show a.tmps.getD d0 undef = _
  generalize a.tmps.getD d0 undef = y at this
  cases (show RepD S w (.v _) y from this) with
  | v _ => rfl
 obtain ⟨s1, k1, r1⟩ := putK_rel (dst := some d1) (x := topT) (v := .tuple #[.agg #[.int .i64 e], .bool true]) (K := fun s => s = ⟨(d1, topT) :: ts, h, n, m⟩) (by unfold Go.Sx.putK; simp only [l1]; rfl) hr trivial
 subst k1
 have v1 : (a.put (some d1) (.tuple #[.agg #[.int .i64 e], .bool true])).eval (.tmp d1) = .tuple #[.agg #[.int .i64 e], .bool true] := by
  show (a.tmps.setIfInBounds d1 _).getD d1 undef = _
  simp [Array.getD, n1]
 obtain ⟨s2, k2, r2⟩ := putK_rel (dst := some d2) (x := .va (.c (.kb true))) (v := .bool true) (K := fun s => s = ⟨(d2, .va (.c (.kb true))) :: (d1, topT) :: ts, h, n, m⟩) (by unfold Go.Sx.putK; simp only [l2]; rfl) r1 rfl
 subst k2
 have hne : d2 ≠ d1 := fun h => by subst h; rw [Nat.beq_refl] at l12; cases l12
 have v2 : ((a.put (some d1) (.tuple #[.agg #[.int .i64 e], .bool true])).put (some d2) (.bool true)).eval (.tmp d1) = .tuple #[.agg #[.int .i64 e], .bool true] := by
  show ((a.tmps.setIfInBounds d1 _).setIfInBounds d2 _).getD d1 undef = _
  simp [Array.getD, n1, hne]
 obtain ⟨s3, k3, r3⟩ := putK_rel (dst := some d3) (x := .va (.agg [.d (it e)])) (v := .agg #[.int .i64 e]) (K := fun s => s = ⟨(d3, .va (.agg [.d (it e)])) :: (d2, .va (.c (.kb true))) :: (d1, topT) :: ts, h, n, m⟩) (by unfold Go.Sx.putK; simp only [l3]; rfl) r2 ⟨#[.int .i64 e], rfl, ⟨RepD.v (x := .int .i64 e) trivial, trivial⟩, trivial⟩
 subst k3
 have x1 : (execOp a.eval o1).run P w = .ok (.value (.tuple #[.agg #[.int .i64 e], .bool true])) w := by
  simp only [execOp, h1, Sem.run_bind, v0, hi]; rfl
 have x2 : (execOp (a.put (some d1) (.tuple #[.agg #[.int .i64 e], .bool true])).eval o2).run P w = .ok (.value (.bool true)) w := by
  simp only [execOp, h2, Sem.run_bind, v1]; rfl
 have x3 : (execOp ((a.put (some d1) (.tuple #[.agg #[.int .i64 e], .bool true])).put (some d2) (.bool true)).eval o3).run P w = .ok (.value (.agg #[.int .i64 e])) w := by
  simp only [execOp, h3, Sem.run_bind, v2]; rfl
 rw [hs, show List.range 3 = [0, 1, 2] from rfl]
 simp only [wpOps, q1, q2, q3, Region.wanted, g1, g2, g3, Oper.wp, if_true]
 refine .inl ?_
 rw [x1]; simp only [Oper.upon, e1]
 refine .inl ?_
 rw [x2]; simp only [Oper.upon, e2]
 refine .inl ?_
 rw [x3]; simp only [Oper.upon, e3]
 exact ⟨_, ψ, S, hq, r3, Ext.refl _ _ _ _⟩
theorem wr_is (e : Int) (w : World) : (Instr.typeAssert (wrV e) 20 50 true).run Tryz.prog w = .ok (.tuple #[.agg #[.int .i64 e], .bool true]) w := by kernel_rfl
theorem clo_nil {ts : List (Nat × Tm)} {h : List (Nat × Blk)} {n m base : Nat} {K : St -> Prop} (hK : K ⟨ts, h, n, m⟩) : CloK Tryz.prog base 17 [(0, 0), (1, 0)] .nilIface ⟨ts, h, n, m⟩ K := by
 refine CloK.of (x := .nilIface) Tryz.func17 rfl rfl rfl rfl rfl rfl rfl rfl trivial ?_
 refine ASat.vc tys_ok (l := []) trivial (by kernel_rfl) ?_
 repeat' (first | exact trivial | refine ⟨?_, ?_⟩ | intro _)
 all_goals first | (with_reducible first | apply qa | apply qb | apply qc | apply qd) | (conv => whnf)
 all_goals first | exact hK | exact absurd ‹_› (by decide)
theorem clo_wr {c0 c1 c2 c3 c4 c5 c6 c7 : Cell} {ts : List (Nat × Tm)} {m base : Nat} {e : Int} {K : St -> Prop} (hK : K ⟨ts, [(0, .cells vZc), (1, .cells [.d (it e)]), (2, .cells [.d (it e)])], 3, m⟩) : CloK Tryz.prog base 17 [(0, 0), (1, 0)] (wrV e) ⟨ts, [(0, .cells [c0, c1, c2, c3, c4, c5, c6, c7]), (1, .cells [.d (it 0)])], 2, m⟩ K := by
 refine CloK.of (x := wrV e) Tryz.func17 rfl rfl rfl rfl rfl rfl rfl rfl trivial ?_
 refine ASat.blockP ?_
 refine ASat.seqA tys_ok (l := []) trivial (by kernel_rfl) ?_
 repeat' (first | exact trivial | refine ⟨?_, ?_⟩ | intro _)
 all_goals first | (with_reducible first | apply qa | apply qb | apply qc | apply qd) | (conv => whnf)
 refine ASat.condP ?_
 refine ⟨fun h => absurd h (by decide), fun _ => ?_⟩
 show ASat _ _ _ _ _
 refine ASat.seqP ?_
 refine taR (o1 := ?o1) (o2 := ?o2) (o3 := ?o3) (d0 := 5) (d1 := 8) (d2 := 9) (d3 := 10) ?_ ?_ ?_ ?_ ?_ ?_ ?_ ?_ ?_ ?_ ?_ ?_ ?_ ?_ ?_ (wr_is e) ?_
 all_goals first | rfl | skip
 show ASat _ _ _ _ _
 refine ASat.condP ?_
 show ASat _ _ _ _ _
 refine ASat.seqA tys_ok (l := []) trivial (by kernel_rfl) ?_
 repeat' (first | exact trivial | refine ⟨?_, ?_⟩ | intro _)
 all_goals first | (with_reducible first | apply qa | apply qb | apply qc | apply qd) | (conv => whnf)
 refine draw_cut tys_ok (l := []) trivial (by kernel_rfl) (.all [(0, .all [(1, .all [(2, .all [(3, .all [(4, .done)])]), (3, .all [(2, .all [(4, .done)])])]), (3, .all [(1, .all [(2, .all [(4, .done)])])])]), (1, .all [(0, .all [(2, .all [(3, .all [(4, .done)])]), (3, .all [(2, .all [(4, .done)])])]), (2, .all [(0, .all [(3, .all [(4, .done)])])])])]) [] (by kernel_rfl) ?_
 apply tail_intro
 . (repeat' (first | exact trivial | refine ⟨?_, ?_⟩ | intro _)) <;> (first | exact rfl | omega | assumption | (dsimp only; omega))
 exact hK
open Go.RowKit Go.Lib Go.Sort
abbrev eS : ByteArray := ⟨#[]⟩
theorem cut_len (a b : List UInt8) : (Lib.cut a b).1.length <= a.length /\ (Lib.cut a b).2.1.length <= a.length := by
 unfold Lib.cut
 split
 . constructor
   . rw [List.length_take]; omega
   . rw [List.length_drop]; omega
 . exact ⟨Nat.le_refl _, Nat.zero_le _⟩
theorem itoa_sz {n : Int} (h : rI n) : (itoaS n).size <= 21 := by
 unfold rI at h
 exact Lib.itoa_length_le n h.1 (by omega)
theorem i64max : IntKind.i64.max = 9223372036854775807 := rfl
theorem cut_sz (a b : ByteArray) : (cutS a b).1.size <= a.size /\ (cutS a b).2.1.size <= a.size := by
 have h := cut_len a.data.toList b.data.toList
 unfold cutS
 exact ⟨h.1, h.2⟩
def vL (acc : Nat) : List UInt8 -> Nat
 | [] => acc
 | c :: r => vL (acc * 10 + (c.toNat - 48)) r
theorem vL_ge : ∀ (l : List UInt8) (acc : Nat), acc <= vL acc l
 | [], _ => Nat.le_refl _
 | c :: r, acc => by have := vL_ge r (acc * 10 + (c.toNat - 48)); show acc <= vL _ r; omega
theorem vL_snoc : ∀ (l : List UInt8) (acc : Nat) (c : UInt8), vL acc (l ++ [c]) = vL acc l * 10 + (c.toNat - 48)
 | [], _, _ => rfl
 | _ :: r, acc, c => vL_snoc r _ c
theorem parse_dig : ∀ (l : List UInt8) (acc : Nat), (∀ c, c ∈ l -> 48 <= c.toNat /\ c.toNat <= 57) -> acc < 18446744073709551616 -> parseUint10 acc l = if vL acc l < 18446744073709551616 then .ok (vL acc l) else .range
 | [], acc, _, h => by rw [parseUint10]; exact (if_pos h).symm
 | c :: r, acc, hc, h => by
   have h1 := hc c List.mem_cons_self
   have h2 := vL_ge r (acc * 10 + (c.toNat - 48))
   rw [parseUint10, if_pos h1]
   show _ = if vL (acc * 10 + (c.toNat - 48)) r < _ then NumEnd.ok (vL (acc * 10 + (c.toNat - 48)) r) else _
   split
   . rw [if_neg (by omega)]
   . split
     . rw [if_neg (by omega)]
     . exact parse_dig r _ (fun x hx => hc x (List.mem_cons_of_mem _ hx)) (by omega)
theorem atoi_dig {l : List UInt8} (hl : l ≠ []) (hc : ∀ c, c ∈ l -> 48 <= c.toNat /\ c.toNat <= 57) : Lib.atoiAll l = if vL 0 l <= 9223372036854775807 then .ok (vL 0 l : Nat) else .range := by
 cases l with
 | nil => exact absurd rfl hl
 | cons c r =>
   have h1 := hc c List.mem_cons_self
   have hp : parseMag (c :: r) = if vL 0 (c :: r) < 18446744073709551616 then .ok (vL 0 (c :: r)) else .range := by
    unfold parseMag
    rw [if_neg hl]; exact parse_dig _ 0 hc (by omega)
   unfold Lib.atoiAll
   dsimp only
   rw [if_neg (by omega), hp]
   have hn : ¬ c.toNat = 45 := by omega
   by_cases h : vL 0 (c :: r) < 18446744073709551616
   . rw [if_pos h]
     dsimp only
     by_cases h2 : vL 0 (c :: r) <= 9223372036854775807
     . rw [if_neg (by omega), if_neg (by omega), if_neg hn, if_pos h2]
     . rw [if_pos ⟨hn, by omega⟩, if_neg h2]
   . rw [if_neg h, if_neg (by omega)]
def vS (s : ByteArray) (i : Nat) : Nat := vL 0 (s.data.toList.take i)
theorem bAt_get {s : ByteArray} {i : Nat} (h : i < s.size) : s.data.toList[i]? = some (s.get! i) := by
 obtain ⟨a⟩ := s
 have h : i < a.size := h
 show a.toList[i]? = some (ByteArray.get! ⟨a⟩ i)
 simp [ByteArray.get!, h]
theorem vS_succ {s : ByteArray} {i : Nat} (h : i < s.size) : vS s (i + 1) = vS s i * 10 + (bAt s i - 48) := by
 unfold vS bAt
 have hg := bAt_get h
 have : s.data.toList.take (i + 1) = s.data.toList.take i ++ [s.get! i] := by
  rw [List.take_add_one, hg]; rfl
 rw [this, vL_snoc]
theorem vS_all (s : ByteArray) : vS s s.size = vL 0 s.data.toList := by
 unfold vS
 rw [List.take_of_length_le (by rw [Array.length_toList]; exact Nat.le_refl _)]
theorem vS_le {s : ByteArray} {i : Nat} (h : i <= s.size) : vS s i <= vS s s.size := by
 have key : ∀ k, i + k <= s.size -> vS s i <= vS s (i + k) := by
  intro k
  induction k with
  | zero => intro _; exact Nat.le_refl _
  | succ k ih =>
    intro hk
    have h1 := ih (by omega)
    have h2 := vS_succ (s := s) (i := i + k) (by omega)
    rw [<- Nat.add_assoc, h2]; omega
 have := key (s.size - i) (by omega)
 rwa [show i + (s.size - i) = s.size by omega] at this
theorem dig_all {s : ByteArray} (h : ∀ j, j < s.size -> digB (bAt s j) = true) : ∀ c, c ∈ s.data.toList -> 48 <= c.toNat /\ c.toNat <= 57 := fun c hc => by
 obtain ⟨i, hi, e⟩ := List.mem_iff_getElem.1 hc
 have hi' : i < s.size := by have : s.data.toList.length = s.size := Array.length_toList
                             omega
 have h1 := bAt_get hi'
 rw [List.getElem?_eq_getElem hi] at h1
 have h2 := h i hi'
 unfold digB bAt at h2
 rw [decide_eq_true_eq] at h2
 have : s.get! i = c := by rw [<- e]; exact (Option.some.inj h1).symm
 rw [this] at h2; omega
theorem sz_len (s : ByteArray) : s.data.toList.length = s.size := Array.length_toList
theorem ext_all (s : ByteArray) : s.extract 0 s.size = s := by
 apply ByteArray.ext
 rw [ByteArray.data_extract]
 apply Array.ext'
 rw [Array.toList_extract, List.extract_eq_take_drop]
 show (s.data.toList.drop 0).take (s.size - 0) = _
 rw [List.drop_zero]; exact List.take_of_length_le (by rw [sz_len]; omega)
theorem ext_sz (s : ByteArray) (a b : Nat) : (s.extract a b).size <= s.size := by rw [ByteArray.size_extract]; omega
theorem dd_small {u : Nat} (h : u < 10) : decDigits u = [UInt8.ofNat (48 + u)] := by rw [decDigits, dif_pos h]
theorem dd_big {u : Nat} (h : ¬ u < 10) : decDigits u = decDigits (u / 10) ++ [UInt8.ofNat (48 + u % 10)] := by rw [decDigits, dif_neg h]
theorem dd_ne (u : Nat) : decDigits u ≠ [] := by
 by_cases h : u < 10
 . rw [dd_small h]; simp
 . rw [dd_big h]; simp
theorem u8_nat {k : Nat} (h : k < 256) : (UInt8.ofNat k).toNat = k := by rw [UInt8.toNat_ofNat']; omega
theorem dd_dig (u : Nat) : ∀ c, c ∈ decDigits u -> 48 <= c.toNat /\ c.toNat <= 57 := by
 induction u using Nat.strongRecOn with
 | ind u ih =>
   intro c hc
   by_cases h : u < 10
   . rw [dd_small h, List.mem_singleton] at hc
     rw [hc, u8_nat (by omega)]; omega
   . rw [dd_big h] at hc
     rcases List.mem_append.1 hc with h1 | h1
     . exact ih (u / 10) (by omega) c h1
     . rw [List.mem_singleton.1 h1, u8_nat (by omega)]; omega
theorem dd_val (u : Nat) : vL 0 (decDigits u) = u := by
 induction u using Nat.strongRecOn with
 | ind u ih =>
   by_cases h : u < 10
   . rw [dd_small h]
     show 0 * 10 + ((UInt8.ofNat (48 + u)).toNat - 48) = u
     rw [u8_nat (by omega)]; omega
   . rw [dd_big h, vL_snoc, ih (u / 10) (by omega), u8_nat (by omega)]; omega
theorem dd_head (u : Nat) (h : 0 < u) : ∀ c r, decDigits u = c :: r -> c.toNat ≠ 48 := by
 induction u using Nat.strongRecOn with
 | ind u ih =>
   intro c r e
   by_cases h1 : u < 10
   . rw [dd_small h1] at e
     cases e
     rw [u8_nat (by omega)]; omega
   . rw [dd_big h1] at e
     cases hd : decDigits (u / 10) with
     | nil => exact absurd hd (dd_ne _)
     | cons c' r' =>
       rw [hd] at e
       have e : c' :: (r' ++ [UInt8.ofNat (48 + u % 10)]) = c :: r := e
       cases e
       exact ih (u / 10) (by omega) (by omega) _ _ hd
def dgs (u : Nat) : List UInt8 := if u = 0 then [] else decDigits u
theorem dgs_step {u : Nat} (h : u ≠ 0) : dgs u = dgs (u / 10) ++ [UInt8.ofNat (48 + u % 10)] := by
 unfold dgs
 rw [if_neg h]
 by_cases h1 : u < 10
 . rw [dd_small h1, if_pos (by omega), show u % 10 = u by omega]; rfl
 . rw [dd_big h1, if_neg (by omega)]
def mkB (l : List UInt8) : ByteArray := ⟨l.toArray⟩
theorem mkB_app (a b : List UInt8) : mkB a ++ mkB b = mkB (a ++ b) := by
 apply ByteArray.ext
 rw [ByteArray.data_append]
 show a.toArray ++ b.toArray = (a ++ b).toArray
 simp
theorem mkB_sz (l : List UInt8) : (mkB l).size = l.length := by show l.toArray.size = _; simp
theorem itoa_mk (n : Int) : itoaS n = mkB (Lib.itoa n) := rfl
theorem one_byte (d : Int) : bytesOf 1 (fun i => Sx.rowAt 1 [DV.v (.int .u8 d)] (0 + i)) = mkB [UInt8.ofNat d.toNat] := rfl
theorem dgs_len {n : Int} (h : rI n) : (dgs n.natAbs).length <= 21 := by
 have h2 := itoa_sz h
 unfold rI at h
 unfold dgs
 split
 . simp
 . rw [itoa_mk, mkB_sz] at h2
   unfold Lib.itoa at h2
   split at h2
   . simp at h2; omega
   . rw [show n.toNat = n.natAbs by omega] at h2; exact h2
theorem num_neg {n : Int} {L : List UInt8} (h : n < 0) (hL : dgs 0 ++ L = dgs n.natAbs) : mkB [45] ++ mkB L = itoaS n := by
 have h0 : dgs 0 ++ L = L := rfl
 rw [h0] at hL
 rw [itoa_mk, mkB_app, hL]
 unfold Lib.itoa dgs
 rw [if_neg (by omega), if_pos h]; rfl
theorem num_pos {n : Int} {L : List UInt8} (h : ¬ n < 0) (h1 : n ≠ 0) (hL : dgs 0 ++ L = dgs n.natAbs) : mkB L = itoaS n := by
 have h0 : dgs 0 ++ L = L := rfl
 rw [h0] at hL
 rw [itoa_mk, hL]
 unfold Lib.itoa dgs
 rw [if_neg (by omega), if_neg h, show n.toNat = n.natAbs by omega]
theorem itoa_zero : itoaS 0 = ⟨#[48]⟩ := by
 rw [itoa_mk]; unfold Lib.itoa; rw [if_neg (by decide), dd_small (by decide)]; rfl
theorem one_row {d : Int} {i : Nat} (h : i < 1) : Sx.rowAt 1 [DV.v (.int .u8 d)] (0 + i) = [.v (.int .u8 (bI (Sx.rowAt 1 [DV.v (.int .u8 d)] (0 + i))))] := by
 obtain rfl : i = 0 := by omega
 rfl
theorem one_sz (d : Int) : (bytesOf 1 (fun i => Sx.rowAt 1 [DV.v (.int .u8 d)] (0 + i))).size = 1 := rfl
theorem mod_abs (m : Int) : (m.tmod 10).natAbs = m.natAbs % 10 := by rw [Int.natAbs_tmod]; rfl
theorem dig_pos {m : Int} (h : ¬ m.tmod 10 < 0) : m.tmod 10 = ((m.natAbs % 10 : Nat) : Int) := by rw [<- mod_abs]; omega
theorem dig_neg {m : Int} (h : m.tmod 10 < 0) : IntKind.wrap .i64 (0 - m.tmod 10) = ((m.natAbs % 10 : Nat) : Int) := by
 have := mod_abs m
 have h2 : m.natAbs % 10 < 10 := Nat.mod_lt _ (by decide)
 rw [wI_id _ (by omega) (by omega)]; omega
theorem to_u8 {r : Nat} (h : r < 10) : IntKind.wrap .u8 (IntKind.wrap .i64 (48 + (r : Int))) = ((48 + r : Nat) : Int) := by
 rw [wI_id _ (by omega) (by omega)]
 simp [IntKind.wrap, IntKind.signed, IntKind.bits]; omega
theorem dstep {x : Int} {r : Nat} {L : List UInt8} (hr : r < 10) (hx : x = (r : Int)) : bytesOf 1 (fun i => Sx.rowAt 1 [DV.v (.int .u8 (IntKind.wrap .u8 (IntKind.wrap .i64 (48 + x))))] (0 + i)) ++ mkB L = mkB (UInt8.ofNat (48 + r) :: L) := by
 subst hx
 rw [to_u8 hr, one_byte, mkB_app]; rfl
theorem bAt_list {s : ByteArray} {i : Nat} (h : i < s.size) : bAt s i = ((s.data.toList[i]?).getD 0).toNat := by
 rw [bAt_get h]; rfl
theorem bAt_mk {l : List UInt8} {i : Nat} (h : i < l.length) : bAt (mkB l) i = (l[i]'h).toNat := by
 rw [bAt_list (by rw [mkB_sz]; exact h)]
 show ((l.toArray.toList[i]?).getD 0).toNat = _
 rw [List.toList_toArray, List.getElem?_eq_getElem h]; rfl
theorem mkB_of (s : ByteArray) : mkB s.data.toList = s := by
 apply ByteArray.ext; show s.data.toList.toArray = s.data; simp
theorem ext_mk {l : List UInt8} {a b : Nat} : (mkB l).extract a b = mkB ((l.drop a).take (b - a)) := by
 apply ByteArray.ext
 rw [ByteArray.data_extract]
 apply Array.ext'
 rw [Array.toList_extract, List.extract_eq_take_drop]
 show (l.toArray.toList.drop a).take (b - a) = ((l.drop a).take (b - a)).toArray.toList
 rw [List.toList_toArray, List.toList_toArray]
theorem occ_c {c : UInt8} {l : List UInt8} {i : Nat} : Lib.occAt l [c] i = true ↔ l[i]? = some c := by
 unfold Lib.occAt
 cases h : l.drop i with
 | nil =>
   have : l[i]? = none := by rw [List.drop_eq_nil_iff] at h; exact List.getElem?_eq_none h
   rw [this]; simp
 | cons d r =>
   have : l[i]? = some d := by
    have := List.getElem?_drop (xs := l) (i := i) (j := 0)
    rw [h] at this; rw [Nat.add_zero] at this; exact this.symm
   rw [this]
   simp only [List.isPrefixOf, Bool.and_true, beq_iff_eq, Option.some.injEq]
   exact eq_comm
theorem occ_cn {c : UInt8} {l : List UInt8} {i : Nat} (h : l[i]? ≠ some c) : Lib.occAt l [c] i = false := by
 cases hh : Lib.occAt l [c] i with
 | false => rfl
 | true => exact absurd (occ_c.1 hh) h
theorem mem_ne {c : UInt8} {a : List UInt8} (h : c ∉ a) (i : Nat) : a[i]? ≠ some c := fun e => h (List.mem_of_getElem? e)
theorem ix_app {a b : List UInt8} (h : (32 : UInt8) ∉ a) : Lib.indexB (mkB (a ++ 32 :: b)) blS = (a.length : Nat) := by
 show Lib.index (a ++ 32 :: b).toArray.toList [32] = _
 rw [List.toList_toArray]
 refine Lib.index_first (by simp) ?_ fun j hj => ?_
 . rw [occ_c, List.getElem?_append_right (Nat.le_refl _)]; simp
 . exact occ_cn (by rw [List.getElem?_append_left hj]; exact mem_ne h j)
theorem ix_none {a : List UInt8} (h : (32 : UInt8) ∉ a) : Lib.indexB (mkB a) blS = -1 := by
 show Lib.index a.toArray.toList [32] = _
 rw [List.toList_toArray]
 exact Lib.index_none fun j _ => occ_cn (mem_ne h j)
theorem ext_pre (a b : List UInt8) : (mkB (a ++ b)).extract 0 a.length = mkB a := by rw [ext_mk]; simp
theorem ext_suf (a b : List UInt8) (c : UInt8) : (mkB (a ++ c :: b)).extract (a.length + 1) (mkB (a ++ c :: b)).size = mkB b := by
 rw [ext_mk, mkB_sz]
 have : (a ++ c :: b).drop (a.length + 1) = b := by
  rw [show a ++ c :: b = (a ++ [c]) ++ b by simp, show a.length + 1 = (a ++ [c]).length by simp]; exact List.drop_left
 rw [this, List.take_of_length_le (by simp; omega)]
theorem split_app {a b : List UInt8} (h : (32 : UInt8) ∉ a) : splitS (mkB (a ++ 32 :: b)) = mkB a :: splitS (mkB b) := by
 have hx := ix_app (b := b) h
 unfold splitS
 rw [Lib.countB_hit _ blS _ (by decide) hx, Nat.add_comm 1, Lib.splitB_hit _ _ _ _ _ hx, Nat.add_zero, ext_pre a (32 :: b), show blS.size = 1 from rfl, ext_suf]
theorem split_none {a : List UInt8} (h : (32 : UInt8) ∉ a) : splitS (mkB a) = [mkB a] := by
 have hx := ix_none h
 unfold splitS
 rw [Lib.countB_miss _ _ hx]; rfl
theorem parts (s : ByteArray) : (∃ a, s = mkB a /\ (32 : UInt8) ∉ a) \/ ∃ a b, s = mkB (a ++ 32 :: b) /\ (32 : UInt8) ∉ a := by
 by_cases h : (32 : UInt8) ∈ s.data.toList
 . obtain ⟨a, b, e, h2⟩ := List.eq_append_cons_of_mem h
   exact .inr ⟨a, b, by rw [<- e, mkB_of], h2⟩
 . exact .inl ⟨s.data.toList, (mkB_of s).symm, h⟩
theorem split_ne (s : ByteArray) : ∃ a L, splitS s = a :: L := by
 rcases parts s with ⟨a, rfl, h⟩ | ⟨a, b, rfl, h⟩
 . exact ⟨_, _, split_none h⟩
 . exact ⟨_, _, split_app h⟩
theorem split_sz (n : Nat) : ∀ s : ByteArray, s.size <= n -> ∀ x, x ∈ splitS s -> x.size <= s.size := by
 induction n using Nat.strongRecOn with
 | ind n ih =>
   intro s hs x hx
   rcases parts s with ⟨a, rfl, h⟩ | ⟨a, b, rfl, h⟩
   . rw [split_none h, List.mem_singleton] at hx; subst hx; exact Nat.le_refl _
   . rw [split_app h] at hx
     rw [mkB_sz] at hs ⊢
     simp only [List.length_append, List.length_cons] at hs ⊢
     rcases List.mem_cons.1 hx with rfl | hx
     . rw [mkB_sz]; omega
     . have := ih b.length (by omega) (mkB b) (by rw [mkB_sz]; exact Nat.le_refl _) x hx
       rw [mkB_sz] at this; omega
theorem at_sz (s : ByteArray) (i : Nat) : (atS (splitS s) i).size <= s.size := by
 unfold atS
 rw [List.getD_eq_getElem?_getD]
 rcases Nat.lt_or_ge i (splitS s).length with h | h
 . rw [List.getElem?_eq_getElem h]; exact split_sz _ s (Nat.le_refl _) _ (List.getElem_mem h)
 . rw [List.getElem?_eq_none h]; exact Nat.zero_le _
theorem split_len (n : Nat) : ∀ s : ByteArray, s.size <= n -> (splitS s).length <= s.size + 1 := by
 induction n using Nat.strongRecOn with
 | ind n ih =>
   intro s hs
   rcases parts s with ⟨a, rfl, h⟩ | ⟨a, b, rfl, h⟩
   . rw [split_none h]; simp
   . rw [split_app h]
     rw [mkB_sz] at hs ⊢
     simp only [List.length_append, List.length_cons] at hs ⊢
     have := ih b.length (by omega) (mkB b) (by rw [mkB_sz]; exact Nat.le_refl _)
     rw [mkB_sz] at this; omega
theorem split_pos (s : ByteArray) : 1 <= (splitS s).length := by
 obtain ⟨a, L, e⟩ := split_ne s
 rw [e]; simp
end Go.Proofs.YtakcacejpbiogaaGreatDoor
