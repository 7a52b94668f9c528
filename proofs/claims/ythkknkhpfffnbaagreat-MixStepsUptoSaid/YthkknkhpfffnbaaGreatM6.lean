/- What the layer of envs computes: two envs, name by name. No condition. -/
import Derived.Test.YthkknkhpfffnbaaGreatM5
set_option linter.all false
set_option maxHeartbeats 8000000
set_option maxRecDepth 100000
namespace Go.Proofs.YthkknkhpfffnbaaGreat
open Go.Sx
def mrg (op : Vl -> Vl -> Vl) : List Bd -> List Bd -> List Bd
 | [], [] => []
 | [], y :: b => ⟨y.name, op Vl.zero y.v⟩ :: mrg op [] b
 | x :: a, [] => ⟨x.name, op x.v Vl.zero⟩ :: mrg op a []
 | x :: a, y :: b => if ltB x y = true then ⟨x.name, op x.v Vl.zero⟩ :: mrg op a (y :: b) else if ltB y x = true then ⟨y.name, op Vl.zero y.v⟩ :: mrg op (x :: a) b else ⟨x.name, op x.v y.v⟩ :: mrg op a b
termination_by a b => a.length + b.length
def nxM (op : Vl -> Vl -> Vl) (A B : List Bd) (x : Nat × Nat × List Bd) : Nat × Nat × List Bd :=
 if x.1 < A.length then
  if x.2.1 < B.length then
   if ltB (atB A x.1) (atB B x.2.1) = true then (x.1 + 1, x.2.1, x.2.2 ++ [⟨(atB A x.1).name, op (atB A x.1).v Vl.zero⟩])
   else if ltB (atB B x.2.1) (atB A x.1) = true then (x.1, x.2.1 + 1, x.2.2 ++ [⟨(atB B x.2.1).name, op Vl.zero (atB B x.2.1).v⟩])
   else (x.1 + 1, x.2.1 + 1, x.2.2 ++ [⟨(atB A x.1).name, op (atB A x.1).v (atB B x.2.1).v⟩])
  else (x.1 + 1, x.2.1, x.2.2 ++ [⟨(atB A x.1).name, op (atB A x.1).v Vl.zero⟩])
 else (x.1, x.2.1 + 1, x.2.2 ++ [⟨(atB B x.2.1).name, op Vl.zero (atB B x.2.1).v⟩])
theorem drop_at {A : List Bd} {i : Nat} (h : i < A.length) : A.drop i = atB A i :: A.drop (i + 1) := by
 rw [List.drop_eq_getElem_cons h]
 congr 1
 unfold atB; rw [List.getD_eq_getElem?_getD, List.getElem?_eq_getElem h]; rfl
theorem nxM_ok {op : Vl -> Vl -> Vl} {A B : List Bd} {i j : Nat} {out : List Bd} (h : i < A.length \/ j < B.length) :
 (nxM op A B (i, j, out)).2.2 ++ mrg op (A.drop (nxM op A B (i, j, out)).1) (B.drop (nxM op A B (i, j, out)).2.1) = out ++ mrg op (A.drop i) (B.drop j) := by
 unfold nxM
 dsimp only
 by_cases c1 : i < A.length
 . rw [if_pos c1]
   by_cases c2 : j < B.length
   . rw [if_pos c2]
     conv => rhs; rw [drop_at c1, drop_at c2, mrg]
     split
     . dsimp only; rw [drop_at c2] <;> simp
     . split
       . dsimp only; rw [drop_at c1]; simp
       . dsimp only; simp
   . rw [if_neg c2]
     have e : B.drop j = [] := List.drop_eq_nil_of_le (by omega)
     conv => rhs; rw [drop_at c1, e, mrg]
     dsimp only; rw [e]; simp
 . rw [if_neg c1]
   have c2 : j < B.length := h.resolve_left c1
   have e : A.drop i = [] := List.drop_eq_nil_of_le (by omega)
   conv => rhs; rw [drop_at c2, e, mrg]
   dsimp only; rw [e]; simp
theorem atB_snoc (L : List Bd) (x : Bd) (k : Nat) (h : k < L.length + 1) : atB (L ++ [x]) k = if k < L.length then atB L k else x := by
 unfold atB
 simp only [List.getD_eq_getElem?_getD]
 split
 . rename_i h1; rw [List.getElem?_append_left h1]
 . rename_i h1; rw [show k = L.length by omega, List.getElem?_append_right (Nat.le_refl _), Nat.sub_self]; rfl
theorem rwB_snoc {L : List Bd} {x : Bd} {g : Nat -> List DV} {k : Nat} (hg : g 0 = bdC x) (hk : k < L.length + 1) : appRow L.length (rwB L) g k = rwB (L ++ [x]) k := by
 show _ = bdC (atB (L ++ [x]) k)
 rw [atB_snoc L x k hk]
 unfold appRow
 split
 . rfl
 . rw [show k - L.length = 0 by omega, hg]
theorem lessB_eq {a b : ByteArray} (h : a = b) : (if (!Op.bytesLess a.toList b.toList) = true then a else b) = a := by subst h; exact ite_self _
abbrev vlC (v : Vl) : List DV := [bo v.i.s.some, it v.i.s.lo, it v.i.s.hi, bo v.i.c.some, it v.i.c.m, it v.i.c.r, bo v.t.null, lst v.t.names]
abbrev vlZ : List DV := [bo false, it 0, it 0, bo false, it 0, it 0, bo false, .v (.slice none 0 0)]
def gIs (gz : List Cv -> Option Gs) (a b : List DV) (z : Vl) : Prop := ∃ p : Prop, gz [.agg a, .agg b] = some ⟨p, .va (.agg (vlC z))⟩ /\ p
structure GOk (gz : List Cv -> Option Gs) (Op : Vl -> Vl -> Vl) (Q : Vl -> Vl -> Prop) : Prop where
 both : ∀ x y, okV x -> okV y -> Q x y -> gIs gz (vlC x) (vlC y) (Op x y)
 left : ∀ x, okV x -> Q x Vl.zero -> gIs gz (vlC x) vlZ (Op x Vl.zero)
 right : ∀ y, okV y -> Q Vl.zero y -> gIs gz vlZ (vlC y) (Op Vl.zero y)
structure QOk (Q : Vl -> Vl -> Prop) (A B : List Bd) : Prop where
 both : ∀ x ∈ A, ∀ y ∈ B, Q x.v y.v
 left : ∀ x ∈ A, Q x.v Vl.zero
 right : ∀ y ∈ B, Q Vl.zero y.v
theorem lessB_nil (a : ByteArray) : (if (!Op.bytesLess a.toList (ByteArray.mk #[]).toList) = true then a else ByteArray.mk #[]) = a := by
 have : (ByteArray.mk #[]).toList = [] := by rw [kS_tl]
 rw [this]; cases a.toList <;> rfl
theorem lessB_nil2 (a : ByteArray) : (if (!Op.bytesLess (ByteArray.mk #[]).toList a.toList) = true then ByteArray.mk #[] else a) = a := by
 have : (ByteArray.mk #[]).toList = [] := by rw [kS_tl]
 rw [this]
 cases h : a.toList with
 | nil =>
   rw [kS_tl] at h
   have : a = ByteArray.mk #[] := kS_inj (h.trans rfl)
   rw [this]; rfl
 | cons x r => rfl
theorem cf_lt {x y : Bd} (h : ltB x y = true) : cfL x.name.data.toList y.name.data.toList < 0 := of_decide_eq_true h
theorem cf_gt {x y : Bd} (h : ltB y x = true) : cfL x.name.data.toList y.name.data.toList > 0 := by
 have h1 := ltB_iff.1 h
 have h2 : ¬ kS x.name < kS y.name := List.lt_asymm h1
 have h3 : ¬ cfL x.name.data.toList y.name.data.toList < 0 := fun h => h2 ((cfL_lt _ _).1 h)
 have h4 : ¬ cfL x.name.data.toList y.name.data.toList = 0 := fun h => by
  have e := kS_inj ((cfL_eq _ _).1 h)
  rw [e] at h1; exact List.lt_irrefl _ h1
 omega
theorem cf_eq {x y : Bd} (h1 : ltB x y = false) (h2 : ltB y x = false) : cfL x.name.data.toList y.name.data.toList = 0 /\ x.name = y.name := by
 have e : x.name = y.name := Decidable.byContradiction fun hn => ltB_iff'.1 h2 (kS_tri (ltB_iff'.1 h1) hn)
 exact ⟨(cfL_eq _ _).2 (by rw [e]), e⟩
def FZipN : List Ar -> Option Rs
 | [.agg [.d (.v (.string x0)), .d (.v (.bool _)), .d (.v (.int .i64 _)), .d (.v (.int .i64 _)), .d (.v (.bool _)), .d (.v (.int .i64 _)), .d (.v (.int .i64 _)), .d (.v (.bool _)), .d (.lst 1 _ _)]] => some ⟨True, .va (.c (.d (st x0))), []⟩
 | _ => none
theorem fcZipN : FC Tryz.prog 142 FZipN := by
 intro xs pre r us h hp
 unfold FZipN at h
 split at h
 . rename_i x0 s0 l0 h0 b0 m0 r0 z0 n0 f0
   cases h
   refine fcat tys_ok (l := []) trivial Tryz.func142 rfl (by kernel_rfl) false ?_
   repeat' (first | exact trivial | refine ⟨?_, ?_⟩ | intro _)
   all_goals first | (with_reducible first | apply qa | apply qb | apply qc | apply qd) | (conv => whnf)
   all_goals grind
 . cases h
def FEZip (Op : Vl -> Vl -> Vl) (Q : Vl -> Vl -> Prop) (gz : List Cv -> Option Gs) : List Ar -> Option Rs
 | [.agg [.d (.v (.bool _)), .d (.lst 9 n0 f0)], .agg [.d (.v (.bool _)), .d (.lst 9 n1 f1)], .fv g2] => some ⟨(n0 <= 1099511627776 /\ RowsOk n0 f0) /\ (n1 <= 1099511627776 /\ RowsOk n1 f1) /\ (g2 = gz /\ GOk gz Op Q /\ QOk Q (gBs n0 f0) (gBs n1 f1) /\ n0 + n1 <= 1099511627776), .va (En.ar (⟨true, mrg Op (gBs n0 f0) (gBs n1 f1)⟩)), []⟩
 | _ => none
abbrev pl3M : Plan := .all [(0, .all [(1, .all [(2, .all [(3, .all [(4, .all [(5, .done)])])]), (3, .all [(2, .all [(4, .all [(5, .done)])])])]), (2, .all [(1, .all [(3, .all [(4, .all [(5, .done)])])]), (3, .all [(1, .all [(4, .all [(5, .done)])]), (4, .all [(1, .all [(5, .done)])])])]), (3, .all [(1, .all [(2, .all [(4, .all [(5, .done)])])]), (2, .all [(1, .all [(4, .all [(5, .done)])]), (4, .all [(1, .all [(5, .done)])])])])]), (1, .all [(0, .all [(2, .all [(3, .all [(4, .all [(5, .done)])])]), (3, .all [(2, .all [(4, .all [(5, .done)])])])]), (2, .all [(0, .all [(3, .all [(4, .all [(5, .done)])])]), (3, .all [(0, .all [(4, .all [(5, .done)])])])]), (3, .all [(0, .all [(2, .all [(4, .all [(5, .done)])])]), (2, .all [(0, .all [(4, .all [(5, .done)])])])])]), (2, .all [(0, .all [(1, .all [(3, .all [(4, .all [(5, .done)])])]), (3, .all [(1, .all [(4, .all [(5, .done)])]), (4, .all [(1, .all [(5, .done)])])])]), (1, .all [(0, .all [(3, .all [(4, .all [(5, .done)])])]), (3, .all [(0, .all [(4, .all [(5, .done)])])])]), (3, .all [(0, .all [(1, .all [(4, .all [(5, .done)])]), (4, .all [(1, .all [(5, .done)])])]), (1, .all [(0, .all [(4, .all [(5, .done)])])])])]), (3, .all [(0, .all [(1, .all [(2, .all [(4, .all [(5, .done)])])]), (2, .all [(1, .all [(4, .all [(5, .done)])]), (4, .all [(1, .all [(5, .done)])])])]), (1, .all [(0, .all [(2, .all [(4, .all [(5, .done)])])]), (2, .all [(0, .all [(4, .all [(5, .done)])])])]), (2, .all [(0, .all [(1, .all [(4, .all [(5, .done)])]), (4, .all [(1, .all [(5, .done)])])]), (1, .all [(0, .all [(4, .all [(5, .done)])])])])])]
abbrev pl4M : Plan := .take 0 (.take 1 (.take 3 (.take 4 (.all [(2, .all [(5, .take 6 (.done))])]))))
abbrev sl5M : List (Nat × Sm) := [(142, ⟨[], FZipN⟩), (70, ⟨[], FStrCmp⟩)]
theorem sp5M : sumsOk Tryz.prog sl5M := ⟨fcZipN, fcStrCmp, trivial⟩
theorem fcEZip (Op : Vl -> Vl -> Vl) (Q : Vl -> Vl -> Prop) (gz : List Cv -> Option Gs) : FC Tryz.prog 94 (FEZip Op Q gz) := by
 intro xs pre r us h hp
 unfold FEZip at h
 split at h
 . rename_i e0 n0 f0 e1 n1 f1 g2
   cases h
   obtain ⟨hp0, hp1, hp2⟩ := hp
   refine FCat.deep (ys := [.agg [.d (.v (.bool e0)), .d (.lst 9 n0 (rwB (gBs n0 f0)))], .agg [.d (.v (.bool e1)), .d (.lst 9 n1 (rwB (gBs n1 f1)))], .fv g2]) ?_ ?_
   . repeat' (first | exact trivial | exact rfl | exact DvE.refl _ | refine ⟨?_, ?_⟩ | fail)
     all_goals first | first | exact canonB hp0.2.h | exact canonB hp1.2.h
   refine fcat tys_ok (l := sl5M) sp5M Tryz.func94 rfl (by kernel_rfl) true ?_
   obtain ⟨rfl, hgk, hqk, hnm⟩ := hp2
   have hn := hp0.1
   have hL := okL_rows hp0.2
   have hlen := gBs_length n0 f0
   generalize gBs n0 f0 = L at *
   clear hp0
   subst hlen
   have hrow := okL_row hL
   have hb := gBs_row L
   have hm := hp1.1
   have hM := okL_rows hp1.2
   have hlen1 := gBs_length n1 f1
   generalize gBs n1 f1 = M at *
   clear hp1
   subst hlen1
   have hrow1 := okL_row hM
   have hb1 := gBs_row M
   repeat' (first | exact trivial | refine ⟨?_, ?_⟩ | intro _)
   all_goals first | (with_reducible first | apply qa | apply qb | apply qc | apply qd) | (conv => whnf)
   all_goals first | ((with_reducible show ACall _ _ _ _ _ _); refine inl tys_ok (l := sl5M) sp5M Tryz.func141 rfl (by kernel_rfl) (by kernel_rfl) rfl ?_) | skip
   all_goals repeat' (first | exact trivial | refine ⟨?_, ?_⟩ | intro _)
   all_goals first | (with_reducible first | apply qa | apply qb | apply qc | apply qd) | (conv => whnf)
   refine loop_ids tys_ok (l := sl5M) sp5M (by kernel_rfl) (X := Nat × Nat × List Bd)
    (fun x => ⟨[(9, .va (.c (.osl 5 9 0 x.2.2.length))), (10, .va (.c (.own 4 0))), (0, .va (.c (.d (.lst 9 (L.length - x.1) fun k => rwB L (x.1 + k))))), (1, .va (.c (.d (.lst 9 (M.length - x.2.1) fun k => rwB M (x.2.1 + k))))), (2, .va (.c (.fn 142 []))), (3, .va (.c (.fn 143 [(2, 0)])))],
      [(2, .cells [.fv g2]), (3, .cells [.d (bo false), .d (.v (.slice none 0 0))]), (4, .cells [.d (.v (.string ⟨#[]⟩)), .d (bo false), .d (it 0), .d (it 0), .d (bo false), .d (it 0), .d (it 0), .d (bo false), .d (.v (.slice none 0 0))]), (5, .row 9 x.2.2.length (rwB x.2.2))], 6, 65⟩)
    (fun x => (L.length - x.1) + (M.length - x.2.1)) (fun x => x.1 <= L.length /\ x.2.1 <= M.length /\ x.2.2.length <= x.1 + x.2.1 /\ x.2.2 ++ mrg Op (L.drop x.1) (M.drop x.2.1) = mrg Op L M) [63] []
    (fun x _ _ => nxM Op L M x) (fun xs => match xs with | [t] => [0, 1, 2, 3, 4, oI t] | _ => []) [0, 1, 2, 3, 4] 0 1 (0, 0, []) ?_ ?_ ?_
   . exact ⟨Nat.zero_le _, Nat.zero_le _, Nat.le_refl _, rfl⟩
   . repeat' (first | exact trivial | exact rfl | (intro _ h; exact absurd h (Nat.not_lt_zero _)) | (intro _ _; exact rfl) | refine ⟨?_, ?_⟩ | fail)
     all_goals first | (simp; done) | (intro i _; simp; done)
   . rintro ⟨i, j, out⟩ ⟨k1, k2, k3, k4⟩
     dsimp only at k1 k2 k3 k4
     by_cases hend : i < L.length \/ j < M.length
     . have hstep := (nxM_ok (op := Op) (out := out) hend).trans k4
       rcases Nat.lt_or_ge i L.length with ci | ci
       . rcases Nat.lt_or_ge j M.length with cj | cj
         . cases hlt : ltB (atB L i) (atB M j) with
           | true =>
             have hne1 : decide (((L.length - i : Nat) : Int) > 0) = true := decide_eq_true (by omega)
             have hne2 : (((L.length - i : Nat) : Int) == 0) = false := beq_eq_false_iff_ne.2 (by omega)
             have hne3 : (((M.length - j : Nat) : Int) == 0) = false := beq_eq_false_iff_ne.2 (by omega)
             have hne4 : decide (((M.length - j : Nat) : Int) > 0) = true := decide_eq_true (by omega)
             have hne5 : decide (cfL (atB L (i + Int.toNat 0)).name.data.toList (atB M (j + Int.toNat 0)).name.data.toList <= 0) = true := decide_eq_true (Int.le_of_lt (cf_lt hlt))
             have hne6 : decide (cfL (atB L (i + Int.toNat 0)).name.data.toList (atB M (j + Int.toNat 0)).name.data.toList ≥ 0) = false := decide_eq_false (Int.not_le.2 (cf_lt hlt))
             have ht0 : Int.toNat 0 = 0 := rfl
             have e1 : nxM Op L M (i, j, out) = (i + 1, j, out ++ [⟨(atB L i).name, Op (atB L i).v Vl.zero⟩]) := by
              unfold nxM; dsimp only; rw [if_pos ci, if_pos cj, if_pos hlt]
             rw [e1] at hstep
             obtain ⟨gp, hg, hgp⟩ := hgk.left _ (okL_at hL ci) (hqk.left _ (atB_mem ci))
             simp only [vlC, vlZ] at hg
             dsimp only at hstep
             repeat' (first | exact trivial | (with_reducible first | exact (fun h => absurd (hne1.symm.trans h) (by decide)) | exact (fun h => absurd (hne2.symm.trans h) (by decide)) | exact (fun h => absurd (hne3.symm.trans h) (by decide)) | exact (fun h => absurd (hne4.symm.trans h) (by decide)) | exact (fun h => absurd (hne5.symm.trans h) (by decide)) | exact (fun h => absurd (hne6.symm.trans h) (by decide)) | exact (fun h => absurd (h : decide ((-1 : Int) <= 0) = false) (by decide)) | exact (fun h => absurd (h : decide ((-1 : Int) ≥ 0) = true) (by decide)) | exact (fun h => absurd (h : decide ((1 : Int) <= 0) = true) (by decide)) | exact (fun h => absurd (h : decide ((1 : Int) ≥ 0) = false) (by decide))) | refine ⟨?_, ?_⟩ | intro _)
             all_goals first | (with_reducible first | apply qa | apply qb | apply qc | apply qd) | (conv => whnf)
             all_goals first | ((with_reducible show ASat _ _ _ _ _); refine draw_ren tys_ok (l := sl5M) sp5M (by kernel_rfl) pl3M 6 8 [0, 1, 2, 3, 4, 5, 6, 7] [12, 13] [0, 1, 2, 3, 8, 9, 10, 11, 12, 13, 21, 33, 37, 44, 51] (by kernel_rfl) ?_; apply tail_intro; · (repeat' (first | exact trivial | refine ⟨?_, ?_⟩ | intro _)) <;> (first | exact rfl | omega | assumption | (dsimp only; omega))) | skip
             all_goals repeat' (first | exact trivial | (with_reducible first | exact (fun h => absurd (hne1.symm.trans h) (by decide)) | exact (fun h => absurd (hne2.symm.trans h) (by decide)) | exact (fun h => absurd (hne3.symm.trans h) (by decide)) | exact (fun h => absurd (hne4.symm.trans h) (by decide)) | exact (fun h => absurd (hne5.symm.trans h) (by decide)) | exact (fun h => absurd (hne6.symm.trans h) (by decide)) | exact (fun h => absurd (h : decide ((-1 : Int) <= 0) = false) (by decide)) | exact (fun h => absurd (h : decide ((-1 : Int) ≥ 0) = true) (by decide)) | exact (fun h => absurd (h : decide ((1 : Int) <= 0) = true) (by decide)) | exact (fun h => absurd (h : decide ((1 : Int) ≥ 0) = false) (by decide))) | refine ⟨?_, ?_⟩ | intro _)
             all_goals first | (with_reducible first | apply qa | apply qb | apply qc | apply qd) | (conv => whnf)
             all_goals first | ((with_reducible show ASat _ _ _ _ _); refine draw_cut tys_ok (l := sl5M) sp5M (by kernel_rfl) pl4M [0, 1, 2, 3, 8, 9, 10, 11, 12, 13, 21, 33, 37, 44, 51] (by kernel_rfl) ?_; apply tail_intro; · (repeat' (first | exact trivial | refine ⟨?_, ?_⟩ | intro _)) <;> (first | exact rfl | omega | assumption | (dsimp only; omega))) | skip
             all_goals repeat' (first | exact trivial | (with_reducible first | exact (fun h => absurd (hne1.symm.trans h) (by decide)) | exact (fun h => absurd (hne2.symm.trans h) (by decide)) | exact (fun h => absurd (hne3.symm.trans h) (by decide)) | exact (fun h => absurd (hne4.symm.trans h) (by decide)) | exact (fun h => absurd (hne5.symm.trans h) (by decide)) | exact (fun h => absurd (hne6.symm.trans h) (by decide)) | exact (fun h => absurd (h : decide ((-1 : Int) <= 0) = false) (by decide)) | exact (fun h => absurd (h : decide ((-1 : Int) ≥ 0) = true) (by decide)) | exact (fun h => absurd (h : decide ((1 : Int) <= 0) = true) (by decide)) | exact (fun h => absurd (h : decide ((1 : Int) ≥ 0) = false) (by decide))) | refine ⟨?_, ?_⟩ | intro _)
             all_goals first | (with_reducible first | apply qa | apply qb | apply qc | apply qd) | (conv => whnf)
             all_goals first | ((with_reducible show ACall _ _ _ _ _ _); refine inl tys_ok (l := sl5M) sp5M Tryz.func143 rfl (by kernel_rfl) (by kernel_rfl) rfl ?_) | skip
             all_goals repeat' (first | exact trivial | (with_reducible first | exact (fun h => absurd (hne1.symm.trans h) (by decide)) | exact (fun h => absurd (hne2.symm.trans h) (by decide)) | exact (fun h => absurd (hne3.symm.trans h) (by decide)) | exact (fun h => absurd (hne4.symm.trans h) (by decide)) | exact (fun h => absurd (hne5.symm.trans h) (by decide)) | exact (fun h => absurd (hne6.symm.trans h) (by decide)) | exact (fun h => absurd (h : decide ((-1 : Int) <= 0) = false) (by decide)) | exact (fun h => absurd (h : decide ((-1 : Int) ≥ 0) = true) (by decide)) | exact (fun h => absurd (h : decide ((1 : Int) <= 0) = true) (by decide)) | exact (fun h => absurd (h : decide ((1 : Int) ≥ 0) = false) (by decide))) | refine ⟨?_, ?_⟩ | intro _)
             all_goals first | (with_reducible first | apply qa | apply qb | apply qc | apply qd) | (conv => whnf)
             all_goals (try simp only [ht0, Nat.add_zero, hg])
             all_goals repeat' (first | exact trivial | (with_reducible first | exact (fun h => absurd (hne1.symm.trans h) (by decide)) | exact (fun h => absurd (hne2.symm.trans h) (by decide)) | exact (fun h => absurd (hne3.symm.trans h) (by decide)) | exact (fun h => absurd (hne4.symm.trans h) (by decide)) | exact (fun h => absurd (hne5.symm.trans h) (by decide)) | exact (fun h => absurd (hne6.symm.trans h) (by decide)) | exact (fun h => absurd (h : decide ((-1 : Int) <= 0) = false) (by decide)) | exact (fun h => absurd (h : decide ((-1 : Int) ≥ 0) = true) (by decide)) | exact (fun h => absurd (h : decide ((1 : Int) <= 0) = true) (by decide)) | exact (fun h => absurd (h : decide ((1 : Int) ≥ 0) = false) (by decide)) | exact hgp) | refine ⟨?_, ?_⟩ | intro _)
             all_goals first | (with_reducible first | apply qa | apply qb | apply qc | apply qd) | (conv => whnf)
             all_goals (try simp only [lessB_nil, lessB_nil2, e1])
             all_goals first | exact Nat.le_refl _ | omega | (simp only [List.length_append, List.length_cons, List.length_nil]; omega) | exact hstep | rfl | (simp; done) | (rw [show (Int.toNat 1 : Nat) = 1 from rfl]; congr 1; omega) | ((with_reducible show idsOk _ _ = true); rfl) | (exact rwB_snoc rfl ‹_›)
           | false =>
             cases hgt : ltB (atB M j) (atB L i) with
             | true =>
               have hne1 : decide (((L.length - i : Nat) : Int) > 0) = true := decide_eq_true (by omega)
               have hne2 : (((L.length - i : Nat) : Int) == 0) = false := beq_eq_false_iff_ne.2 (by omega)
               have hne3 : (((M.length - j : Nat) : Int) == 0) = false := beq_eq_false_iff_ne.2 (by omega)
               have hne4 : decide (((M.length - j : Nat) : Int) > 0) = true := decide_eq_true (by omega)
               have hne5 : decide (cfL (atB L (i + Int.toNat 0)).name.data.toList (atB M (j + Int.toNat 0)).name.data.toList <= 0) = false := decide_eq_false (Int.not_le.2 (cf_gt hgt))
               have hne6 : decide (cfL (atB L (i + Int.toNat 0)).name.data.toList (atB M (j + Int.toNat 0)).name.data.toList ≥ 0) = true := decide_eq_true (Int.le_of_lt (cf_gt hgt))
               have ht0 : Int.toNat 0 = 0 := rfl
               have e1 : nxM Op L M (i, j, out) = (i, j + 1, out ++ [⟨(atB M j).name, Op Vl.zero (atB M j).v⟩]) := by
                unfold nxM; dsimp only; rw [if_pos ci, if_pos cj, if_neg (by rw [hlt]; exact Bool.false_ne_true), if_pos hgt]
               rw [e1] at hstep
               obtain ⟨gp, hg, hgp⟩ := hgk.right _ (okL_at hM cj) (hqk.right _ (atB_mem cj))
               simp only [vlC, vlZ] at hg
               dsimp only at hstep
               repeat' (first | exact trivial | (with_reducible first | exact (fun h => absurd (hne1.symm.trans h) (by decide)) | exact (fun h => absurd (hne2.symm.trans h) (by decide)) | exact (fun h => absurd (hne3.symm.trans h) (by decide)) | exact (fun h => absurd (hne4.symm.trans h) (by decide)) | exact (fun h => absurd (hne5.symm.trans h) (by decide)) | exact (fun h => absurd (hne6.symm.trans h) (by decide)) | exact (fun h => absurd (h : decide ((-1 : Int) <= 0) = false) (by decide)) | exact (fun h => absurd (h : decide ((-1 : Int) ≥ 0) = true) (by decide)) | exact (fun h => absurd (h : decide ((1 : Int) <= 0) = true) (by decide)) | exact (fun h => absurd (h : decide ((1 : Int) ≥ 0) = false) (by decide))) | refine ⟨?_, ?_⟩ | intro _)
               all_goals first | (with_reducible first | apply qa | apply qb | apply qc | apply qd) | (conv => whnf)
               all_goals first | ((with_reducible show ASat _ _ _ _ _); refine draw_ren tys_ok (l := sl5M) sp5M (by kernel_rfl) pl3M 6 8 [0, 1, 2, 3, 4, 5, 6, 7] [12, 13] [0, 1, 2, 3, 8, 9, 10, 11, 12, 13, 21, 33, 37, 44, 51] (by kernel_rfl) ?_; apply tail_intro; · (repeat' (first | exact trivial | refine ⟨?_, ?_⟩ | intro _)) <;> (first | exact rfl | omega | assumption | (dsimp only; omega))) | skip
               all_goals repeat' (first | exact trivial | (with_reducible first | exact (fun h => absurd (hne1.symm.trans h) (by decide)) | exact (fun h => absurd (hne2.symm.trans h) (by decide)) | exact (fun h => absurd (hne3.symm.trans h) (by decide)) | exact (fun h => absurd (hne4.symm.trans h) (by decide)) | exact (fun h => absurd (hne5.symm.trans h) (by decide)) | exact (fun h => absurd (hne6.symm.trans h) (by decide)) | exact (fun h => absurd (h : decide ((-1 : Int) <= 0) = false) (by decide)) | exact (fun h => absurd (h : decide ((-1 : Int) ≥ 0) = true) (by decide)) | exact (fun h => absurd (h : decide ((1 : Int) <= 0) = true) (by decide)) | exact (fun h => absurd (h : decide ((1 : Int) ≥ 0) = false) (by decide))) | refine ⟨?_, ?_⟩ | intro _)
               all_goals first | (with_reducible first | apply qa | apply qb | apply qc | apply qd) | (conv => whnf)
               all_goals first | ((with_reducible show ASat _ _ _ _ _); refine draw_cut tys_ok (l := sl5M) sp5M (by kernel_rfl) pl4M [0, 1, 2, 3, 8, 9, 10, 11, 12, 13, 21, 33, 37, 44, 51] (by kernel_rfl) ?_; apply tail_intro; · (repeat' (first | exact trivial | refine ⟨?_, ?_⟩ | intro _)) <;> (first | exact rfl | omega | assumption | (dsimp only; omega))) | skip
               all_goals repeat' (first | exact trivial | (with_reducible first | exact (fun h => absurd (hne1.symm.trans h) (by decide)) | exact (fun h => absurd (hne2.symm.trans h) (by decide)) | exact (fun h => absurd (hne3.symm.trans h) (by decide)) | exact (fun h => absurd (hne4.symm.trans h) (by decide)) | exact (fun h => absurd (hne5.symm.trans h) (by decide)) | exact (fun h => absurd (hne6.symm.trans h) (by decide)) | exact (fun h => absurd (h : decide ((-1 : Int) <= 0) = false) (by decide)) | exact (fun h => absurd (h : decide ((-1 : Int) ≥ 0) = true) (by decide)) | exact (fun h => absurd (h : decide ((1 : Int) <= 0) = true) (by decide)) | exact (fun h => absurd (h : decide ((1 : Int) ≥ 0) = false) (by decide))) | refine ⟨?_, ?_⟩ | intro _)
               all_goals first | (with_reducible first | apply qa | apply qb | apply qc | apply qd) | (conv => whnf)
               all_goals first | ((with_reducible show ACall _ _ _ _ _ _); refine inl tys_ok (l := sl5M) sp5M Tryz.func143 rfl (by kernel_rfl) (by kernel_rfl) rfl ?_) | skip
               all_goals repeat' (first | exact trivial | (with_reducible first | exact (fun h => absurd (hne1.symm.trans h) (by decide)) | exact (fun h => absurd (hne2.symm.trans h) (by decide)) | exact (fun h => absurd (hne3.symm.trans h) (by decide)) | exact (fun h => absurd (hne4.symm.trans h) (by decide)) | exact (fun h => absurd (hne5.symm.trans h) (by decide)) | exact (fun h => absurd (hne6.symm.trans h) (by decide)) | exact (fun h => absurd (h : decide ((-1 : Int) <= 0) = false) (by decide)) | exact (fun h => absurd (h : decide ((-1 : Int) ≥ 0) = true) (by decide)) | exact (fun h => absurd (h : decide ((1 : Int) <= 0) = true) (by decide)) | exact (fun h => absurd (h : decide ((1 : Int) ≥ 0) = false) (by decide))) | refine ⟨?_, ?_⟩ | intro _)
               all_goals first | (with_reducible first | apply qa | apply qb | apply qc | apply qd) | (conv => whnf)
               all_goals (try simp only [ht0, Nat.add_zero, hg])
               all_goals repeat' (first | exact trivial | (with_reducible first | exact (fun h => absurd (hne1.symm.trans h) (by decide)) | exact (fun h => absurd (hne2.symm.trans h) (by decide)) | exact (fun h => absurd (hne3.symm.trans h) (by decide)) | exact (fun h => absurd (hne4.symm.trans h) (by decide)) | exact (fun h => absurd (hne5.symm.trans h) (by decide)) | exact (fun h => absurd (hne6.symm.trans h) (by decide)) | exact (fun h => absurd (h : decide ((-1 : Int) <= 0) = false) (by decide)) | exact (fun h => absurd (h : decide ((-1 : Int) ≥ 0) = true) (by decide)) | exact (fun h => absurd (h : decide ((1 : Int) <= 0) = true) (by decide)) | exact (fun h => absurd (h : decide ((1 : Int) ≥ 0) = false) (by decide)) | exact hgp) | refine ⟨?_, ?_⟩ | intro _)
               all_goals first | (with_reducible first | apply qa | apply qb | apply qc | apply qd) | (conv => whnf)
               all_goals (try simp only [lessB_nil, lessB_nil2, e1])
               all_goals first | exact Nat.le_refl _ | omega | (simp only [List.length_append, List.length_cons, List.length_nil]; omega) | exact hstep | rfl | (simp; done) | (rw [show (Int.toNat 1 : Nat) = 1 from rfl]; congr 1; omega) | ((with_reducible show idsOk _ _ = true); rfl) | (exact rwB_snoc rfl ‹_›)
             | false =>
               have hne1 : decide (((L.length - i : Nat) : Int) > 0) = true := decide_eq_true (by omega)
               have hne2 : (((L.length - i : Nat) : Int) == 0) = false := beq_eq_false_iff_ne.2 (by omega)
               have hne3 : (((M.length - j : Nat) : Int) == 0) = false := beq_eq_false_iff_ne.2 (by omega)
               have hne4 : decide (((M.length - j : Nat) : Int) > 0) = true := decide_eq_true (by omega)
               have hne5 : decide (cfL (atB L (i + Int.toNat 0)).name.data.toList (atB M (j + Int.toNat 0)).name.data.toList <= 0) = true := decide_eq_true (Int.le_of_eq (cf_eq hlt hgt).1)
               have hne6 : decide (cfL (atB L (i + Int.toNat 0)).name.data.toList (atB M (j + Int.toNat 0)).name.data.toList ≥ 0) = true := decide_eq_true (Int.le_of_eq (cf_eq hlt hgt).1.symm)
               have ht0 : Int.toNat 0 = 0 := rfl
               have e1 : nxM Op L M (i, j, out) = (i + 1, j + 1, out ++ [⟨(atB L i).name, Op (atB L i).v (atB M j).v⟩]) := by
                unfold nxM; dsimp only; rw [if_pos ci, if_pos cj, if_neg (by rw [hlt]; exact Bool.false_ne_true), if_neg (by rw [hgt]; exact Bool.false_ne_true)]
               rw [e1] at hstep
               obtain ⟨gp, hg, hgp⟩ := hgk.both _ _ (okL_at hL ci) (okL_at hM cj) (hqk.both _ (atB_mem ci) _ (atB_mem cj))
               simp only [vlC, vlZ] at hg
               dsimp only at hstep
               repeat' (first | exact trivial | (with_reducible first | exact (fun h => absurd (hne1.symm.trans h) (by decide)) | exact (fun h => absurd (hne2.symm.trans h) (by decide)) | exact (fun h => absurd (hne3.symm.trans h) (by decide)) | exact (fun h => absurd (hne4.symm.trans h) (by decide)) | exact (fun h => absurd (hne5.symm.trans h) (by decide)) | exact (fun h => absurd (hne6.symm.trans h) (by decide)) | exact (fun h => absurd (h : decide ((-1 : Int) <= 0) = false) (by decide)) | exact (fun h => absurd (h : decide ((-1 : Int) ≥ 0) = true) (by decide)) | exact (fun h => absurd (h : decide ((1 : Int) <= 0) = true) (by decide)) | exact (fun h => absurd (h : decide ((1 : Int) ≥ 0) = false) (by decide))) | refine ⟨?_, ?_⟩ | intro _)
               all_goals first | (with_reducible first | apply qa | apply qb | apply qc | apply qd) | (conv => whnf)
               all_goals first | ((with_reducible show ASat _ _ _ _ _); refine draw_ren tys_ok (l := sl5M) sp5M (by kernel_rfl) pl3M 6 8 [0, 1, 2, 3, 4, 5, 6, 7] [12, 13] [0, 1, 2, 3, 8, 9, 10, 11, 12, 13, 21, 33, 37, 44, 51] (by kernel_rfl) ?_; apply tail_intro; · (repeat' (first | exact trivial | refine ⟨?_, ?_⟩ | intro _)) <;> (first | exact rfl | omega | assumption | (dsimp only; omega))) | skip
               all_goals repeat' (first | exact trivial | (with_reducible first | exact (fun h => absurd (hne1.symm.trans h) (by decide)) | exact (fun h => absurd (hne2.symm.trans h) (by decide)) | exact (fun h => absurd (hne3.symm.trans h) (by decide)) | exact (fun h => absurd (hne4.symm.trans h) (by decide)) | exact (fun h => absurd (hne5.symm.trans h) (by decide)) | exact (fun h => absurd (hne6.symm.trans h) (by decide)) | exact (fun h => absurd (h : decide ((-1 : Int) <= 0) = false) (by decide)) | exact (fun h => absurd (h : decide ((-1 : Int) ≥ 0) = true) (by decide)) | exact (fun h => absurd (h : decide ((1 : Int) <= 0) = true) (by decide)) | exact (fun h => absurd (h : decide ((1 : Int) ≥ 0) = false) (by decide))) | refine ⟨?_, ?_⟩ | intro _)
               all_goals first | (with_reducible first | apply qa | apply qb | apply qc | apply qd) | (conv => whnf)
               all_goals first | ((with_reducible show ASat _ _ _ _ _); refine draw_cut tys_ok (l := sl5M) sp5M (by kernel_rfl) pl4M [0, 1, 2, 3, 8, 9, 10, 11, 12, 13, 21, 33, 37, 44, 51] (by kernel_rfl) ?_; apply tail_intro; · (repeat' (first | exact trivial | refine ⟨?_, ?_⟩ | intro _)) <;> (first | exact rfl | omega | assumption | (dsimp only; omega))) | skip
               all_goals repeat' (first | exact trivial | (with_reducible first | exact (fun h => absurd (hne1.symm.trans h) (by decide)) | exact (fun h => absurd (hne2.symm.trans h) (by decide)) | exact (fun h => absurd (hne3.symm.trans h) (by decide)) | exact (fun h => absurd (hne4.symm.trans h) (by decide)) | exact (fun h => absurd (hne5.symm.trans h) (by decide)) | exact (fun h => absurd (hne6.symm.trans h) (by decide)) | exact (fun h => absurd (h : decide ((-1 : Int) <= 0) = false) (by decide)) | exact (fun h => absurd (h : decide ((-1 : Int) ≥ 0) = true) (by decide)) | exact (fun h => absurd (h : decide ((1 : Int) <= 0) = true) (by decide)) | exact (fun h => absurd (h : decide ((1 : Int) ≥ 0) = false) (by decide))) | refine ⟨?_, ?_⟩ | intro _)
               all_goals first | (with_reducible first | apply qa | apply qb | apply qc | apply qd) | (conv => whnf)
               all_goals first | ((with_reducible show ASat _ _ _ _ _); refine draw_cut tys_ok (l := sl5M) sp5M (by kernel_rfl) pl4M [0, 1, 2, 3, 8, 9, 10, 11, 12, 13, 21, 33, 37, 44, 51] (by kernel_rfl) ?_; apply tail_intro; · (repeat' (first | exact trivial | refine ⟨?_, ?_⟩ | intro _)) <;> (first | exact rfl | omega | assumption | (dsimp only; omega))) | skip
               all_goals repeat' (first | exact trivial | (with_reducible first | exact (fun h => absurd (hne1.symm.trans h) (by decide)) | exact (fun h => absurd (hne2.symm.trans h) (by decide)) | exact (fun h => absurd (hne3.symm.trans h) (by decide)) | exact (fun h => absurd (hne4.symm.trans h) (by decide)) | exact (fun h => absurd (hne5.symm.trans h) (by decide)) | exact (fun h => absurd (hne6.symm.trans h) (by decide)) | exact (fun h => absurd (h : decide ((-1 : Int) <= 0) = false) (by decide)) | exact (fun h => absurd (h : decide ((-1 : Int) ≥ 0) = true) (by decide)) | exact (fun h => absurd (h : decide ((1 : Int) <= 0) = true) (by decide)) | exact (fun h => absurd (h : decide ((1 : Int) ≥ 0) = false) (by decide))) | refine ⟨?_, ?_⟩ | intro _)
               all_goals first | (with_reducible first | apply qa | apply qb | apply qc | apply qd) | (conv => whnf)
               all_goals first | ((with_reducible show ACall _ _ _ _ _ _); refine inl tys_ok (l := sl5M) sp5M Tryz.func143 rfl (by kernel_rfl) (by kernel_rfl) rfl ?_) | skip
               all_goals repeat' (first | exact trivial | (with_reducible first | exact (fun h => absurd (hne1.symm.trans h) (by decide)) | exact (fun h => absurd (hne2.symm.trans h) (by decide)) | exact (fun h => absurd (hne3.symm.trans h) (by decide)) | exact (fun h => absurd (hne4.symm.trans h) (by decide)) | exact (fun h => absurd (hne5.symm.trans h) (by decide)) | exact (fun h => absurd (hne6.symm.trans h) (by decide)) | exact (fun h => absurd (h : decide ((-1 : Int) <= 0) = false) (by decide)) | exact (fun h => absurd (h : decide ((-1 : Int) ≥ 0) = true) (by decide)) | exact (fun h => absurd (h : decide ((1 : Int) <= 0) = true) (by decide)) | exact (fun h => absurd (h : decide ((1 : Int) ≥ 0) = false) (by decide))) | refine ⟨?_, ?_⟩ | intro _)
               all_goals first | (with_reducible first | apply qa | apply qb | apply qc | apply qd) | (conv => whnf)
               all_goals (try simp only [ht0, Nat.add_zero, hg])
               all_goals repeat' (first | exact trivial | (with_reducible first | exact (fun h => absurd (hne1.symm.trans h) (by decide)) | exact (fun h => absurd (hne2.symm.trans h) (by decide)) | exact (fun h => absurd (hne3.symm.trans h) (by decide)) | exact (fun h => absurd (hne4.symm.trans h) (by decide)) | exact (fun h => absurd (hne5.symm.trans h) (by decide)) | exact (fun h => absurd (hne6.symm.trans h) (by decide)) | exact (fun h => absurd (h : decide ((-1 : Int) <= 0) = false) (by decide)) | exact (fun h => absurd (h : decide ((-1 : Int) ≥ 0) = true) (by decide)) | exact (fun h => absurd (h : decide ((1 : Int) <= 0) = true) (by decide)) | exact (fun h => absurd (h : decide ((1 : Int) ≥ 0) = false) (by decide)) | exact hgp) | refine ⟨?_, ?_⟩ | intro _)
               all_goals first | (with_reducible first | apply qa | apply qb | apply qc | apply qd) | (conv => whnf)
               all_goals (try simp only [lessB_nil, lessB_nil2, lessB_eq (cf_eq hlt hgt).2, e1])
               all_goals first | exact Nat.le_refl _ | omega | (simp only [List.length_append, List.length_cons, List.length_nil]; omega) | exact hstep | rfl | (simp; done) | (rw [show (Int.toNat 1 : Nat) = 1 from rfl]; congr 1; omega) | ((with_reducible show idsOk _ _ = true); rfl) | (exact rwB_snoc rfl ‹_›)
         . have hne1 : decide (((L.length - i : Nat) : Int) > 0) = true := decide_eq_true (by omega)
           have hne2 : (((L.length - i : Nat) : Int) == 0) = false := beq_eq_false_iff_ne.2 (by omega)
           have hne3 : (((M.length - j : Nat) : Int) == 0) = true := beq_iff_eq.2 (by omega)
           have hne4 : decide (((M.length - j : Nat) : Int) > 0) = false := decide_eq_false (by omega)
           have ht0 : Int.toNat 0 = 0 := rfl
           have e1 : nxM Op L M (i, j, out) = (i + 1, j, out ++ [⟨(atB L i).name, Op (atB L i).v Vl.zero⟩]) := by
            unfold nxM; dsimp only; rw [if_pos ci, if_neg (by omega)]
           rw [e1] at hstep
           obtain ⟨gp, hg, hgp⟩ := hgk.left _ (okL_at hL ci) (hqk.left _ (atB_mem ci))
           simp only [vlC, vlZ] at hg
           dsimp only at hstep
           repeat' (first | exact trivial | (with_reducible first | exact (fun h => absurd (hne1.symm.trans h) (by decide)) | exact (fun h => absurd (hne2.symm.trans h) (by decide)) | exact (fun h => absurd (hne3.symm.trans h) (by decide)) | exact (fun h => absurd (hne4.symm.trans h) (by decide)) | exact (fun h => absurd (h : decide ((-1 : Int) <= 0) = false) (by decide)) | exact (fun h => absurd (h : decide ((-1 : Int) ≥ 0) = true) (by decide)) | exact (fun h => absurd (h : decide ((1 : Int) <= 0) = true) (by decide)) | exact (fun h => absurd (h : decide ((1 : Int) ≥ 0) = false) (by decide))) | refine ⟨?_, ?_⟩ | intro _)
           all_goals first | (with_reducible first | apply qa | apply qb | apply qc | apply qd) | (conv => whnf)
           all_goals first | ((with_reducible show ASat _ _ _ _ _); refine draw_ren tys_ok (l := sl5M) sp5M (by kernel_rfl) pl3M 6 8 [0, 1, 2, 3, 4, 5, 6, 7] [12, 13] [0, 1, 2, 3, 8, 9, 10, 11, 12, 13, 21, 33, 37, 44, 51] (by kernel_rfl) ?_; apply tail_intro; · (repeat' (first | exact trivial | refine ⟨?_, ?_⟩ | intro _)) <;> (first | exact rfl | omega | assumption | (dsimp only; omega))) | skip
           all_goals repeat' (first | exact trivial | (with_reducible first | exact (fun h => absurd (hne1.symm.trans h) (by decide)) | exact (fun h => absurd (hne2.symm.trans h) (by decide)) | exact (fun h => absurd (hne3.symm.trans h) (by decide)) | exact (fun h => absurd (hne4.symm.trans h) (by decide)) | exact (fun h => absurd (h : decide ((-1 : Int) <= 0) = false) (by decide)) | exact (fun h => absurd (h : decide ((-1 : Int) ≥ 0) = true) (by decide)) | exact (fun h => absurd (h : decide ((1 : Int) <= 0) = true) (by decide)) | exact (fun h => absurd (h : decide ((1 : Int) ≥ 0) = false) (by decide))) | refine ⟨?_, ?_⟩ | intro _)
           all_goals first | (with_reducible first | apply qa | apply qb | apply qc | apply qd) | (conv => whnf)
           all_goals first | ((with_reducible show ASat _ _ _ _ _); refine draw_cut tys_ok (l := sl5M) sp5M (by kernel_rfl) pl4M [0, 1, 2, 3, 8, 9, 10, 11, 12, 13, 21, 33, 37, 44, 51] (by kernel_rfl) ?_; apply tail_intro; · (repeat' (first | exact trivial | refine ⟨?_, ?_⟩ | intro _)) <;> (first | exact rfl | omega | assumption | (dsimp only; omega))) | skip
           all_goals repeat' (first | exact trivial | (with_reducible first | exact (fun h => absurd (hne1.symm.trans h) (by decide)) | exact (fun h => absurd (hne2.symm.trans h) (by decide)) | exact (fun h => absurd (hne3.symm.trans h) (by decide)) | exact (fun h => absurd (hne4.symm.trans h) (by decide)) | exact (fun h => absurd (h : decide ((-1 : Int) <= 0) = false) (by decide)) | exact (fun h => absurd (h : decide ((-1 : Int) ≥ 0) = true) (by decide)) | exact (fun h => absurd (h : decide ((1 : Int) <= 0) = true) (by decide)) | exact (fun h => absurd (h : decide ((1 : Int) ≥ 0) = false) (by decide))) | refine ⟨?_, ?_⟩ | intro _)
           all_goals first | (with_reducible first | apply qa | apply qb | apply qc | apply qd) | (conv => whnf)
           all_goals first | ((with_reducible show ACall _ _ _ _ _ _); refine inl tys_ok (l := sl5M) sp5M Tryz.func143 rfl (by kernel_rfl) (by kernel_rfl) rfl ?_) | skip
           all_goals repeat' (first | exact trivial | (with_reducible first | exact (fun h => absurd (hne1.symm.trans h) (by decide)) | exact (fun h => absurd (hne2.symm.trans h) (by decide)) | exact (fun h => absurd (hne3.symm.trans h) (by decide)) | exact (fun h => absurd (hne4.symm.trans h) (by decide)) | exact (fun h => absurd (h : decide ((-1 : Int) <= 0) = false) (by decide)) | exact (fun h => absurd (h : decide ((-1 : Int) ≥ 0) = true) (by decide)) | exact (fun h => absurd (h : decide ((1 : Int) <= 0) = true) (by decide)) | exact (fun h => absurd (h : decide ((1 : Int) ≥ 0) = false) (by decide))) | refine ⟨?_, ?_⟩ | intro _)
           all_goals first | (with_reducible first | apply qa | apply qb | apply qc | apply qd) | (conv => whnf)
           all_goals (try simp only [ht0, Nat.add_zero, hg])
           all_goals repeat' (first | exact trivial | (with_reducible first | exact (fun h => absurd (hne1.symm.trans h) (by decide)) | exact (fun h => absurd (hne2.symm.trans h) (by decide)) | exact (fun h => absurd (hne3.symm.trans h) (by decide)) | exact (fun h => absurd (hne4.symm.trans h) (by decide)) | exact (fun h => absurd (h : decide ((-1 : Int) <= 0) = false) (by decide)) | exact (fun h => absurd (h : decide ((-1 : Int) ≥ 0) = true) (by decide)) | exact (fun h => absurd (h : decide ((1 : Int) <= 0) = true) (by decide)) | exact (fun h => absurd (h : decide ((1 : Int) ≥ 0) = false) (by decide)) | exact hgp) | refine ⟨?_, ?_⟩ | intro _)
           all_goals first | (with_reducible first | apply qa | apply qb | apply qc | apply qd) | (conv => whnf)
           all_goals (try simp only [lessB_nil, lessB_nil2, e1])
           all_goals first | exact Nat.le_refl _ | omega | (simp only [List.length_append, List.length_cons, List.length_nil]; omega) | exact hstep | rfl | (simp; done) | (rw [show (Int.toNat 1 : Nat) = 1 from rfl]; congr 1; omega) | ((with_reducible show idsOk _ _ = true); rfl) | (exact rwB_snoc rfl ‹_›)
       . have cj : j < M.length := hend.resolve_left (by omega)
         have hne1 : decide (((L.length - i : Nat) : Int) > 0) = false := decide_eq_false (by omega)
         have hne2 : (((L.length - i : Nat) : Int) == 0) = true := beq_iff_eq.2 (by omega)
         have hne3 : (((M.length - j : Nat) : Int) == 0) = false := beq_eq_false_iff_ne.2 (by omega)
         have hne4 : decide (((M.length - j : Nat) : Int) > 0) = true := decide_eq_true (by omega)
         have ht0 : Int.toNat 0 = 0 := rfl
         have e1 : nxM Op L M (i, j, out) = (i, j + 1, out ++ [⟨(atB M j).name, Op Vl.zero (atB M j).v⟩]) := by
          unfold nxM; dsimp only; rw [if_neg (by omega)]
         rw [e1] at hstep
         obtain ⟨gp, hg, hgp⟩ := hgk.right _ (okL_at hM cj) (hqk.right _ (atB_mem cj))
         simp only [vlC, vlZ] at hg
         dsimp only at hstep
         repeat' (first | exact trivial | (with_reducible first | exact (fun h => absurd (hne1.symm.trans h) (by decide)) | exact (fun h => absurd (hne2.symm.trans h) (by decide)) | exact (fun h => absurd (hne3.symm.trans h) (by decide)) | exact (fun h => absurd (hne4.symm.trans h) (by decide)) | exact (fun h => absurd (h : decide ((-1 : Int) <= 0) = false) (by decide)) | exact (fun h => absurd (h : decide ((-1 : Int) ≥ 0) = true) (by decide)) | exact (fun h => absurd (h : decide ((1 : Int) <= 0) = true) (by decide)) | exact (fun h => absurd (h : decide ((1 : Int) ≥ 0) = false) (by decide))) | refine ⟨?_, ?_⟩ | intro _)
         all_goals first | (with_reducible first | apply qa | apply qb | apply qc | apply qd) | (conv => whnf)
         all_goals first | ((with_reducible show ASat _ _ _ _ _); refine draw_ren tys_ok (l := sl5M) sp5M (by kernel_rfl) pl3M 6 8 [0, 1, 2, 3, 4, 5, 6, 7] [12, 13] [0, 1, 2, 3, 8, 9, 10, 11, 12, 13, 21, 33, 37, 44, 51] (by kernel_rfl) ?_; apply tail_intro; · (repeat' (first | exact trivial | refine ⟨?_, ?_⟩ | intro _)) <;> (first | exact rfl | omega | assumption | (dsimp only; omega))) | skip
         all_goals repeat' (first | exact trivial | (with_reducible first | exact (fun h => absurd (hne1.symm.trans h) (by decide)) | exact (fun h => absurd (hne2.symm.trans h) (by decide)) | exact (fun h => absurd (hne3.symm.trans h) (by decide)) | exact (fun h => absurd (hne4.symm.trans h) (by decide)) | exact (fun h => absurd (h : decide ((-1 : Int) <= 0) = false) (by decide)) | exact (fun h => absurd (h : decide ((-1 : Int) ≥ 0) = true) (by decide)) | exact (fun h => absurd (h : decide ((1 : Int) <= 0) = true) (by decide)) | exact (fun h => absurd (h : decide ((1 : Int) ≥ 0) = false) (by decide))) | refine ⟨?_, ?_⟩ | intro _)
         all_goals first | (with_reducible first | apply qa | apply qb | apply qc | apply qd) | (conv => whnf)
         all_goals first | ((with_reducible show ASat _ _ _ _ _); refine draw_cut tys_ok (l := sl5M) sp5M (by kernel_rfl) pl4M [0, 1, 2, 3, 8, 9, 10, 11, 12, 13, 21, 33, 37, 44, 51] (by kernel_rfl) ?_; apply tail_intro; · (repeat' (first | exact trivial | refine ⟨?_, ?_⟩ | intro _)) <;> (first | exact rfl | omega | assumption | (dsimp only; omega))) | skip
         all_goals repeat' (first | exact trivial | (with_reducible first | exact (fun h => absurd (hne1.symm.trans h) (by decide)) | exact (fun h => absurd (hne2.symm.trans h) (by decide)) | exact (fun h => absurd (hne3.symm.trans h) (by decide)) | exact (fun h => absurd (hne4.symm.trans h) (by decide)) | exact (fun h => absurd (h : decide ((-1 : Int) <= 0) = false) (by decide)) | exact (fun h => absurd (h : decide ((-1 : Int) ≥ 0) = true) (by decide)) | exact (fun h => absurd (h : decide ((1 : Int) <= 0) = true) (by decide)) | exact (fun h => absurd (h : decide ((1 : Int) ≥ 0) = false) (by decide))) | refine ⟨?_, ?_⟩ | intro _)
         all_goals first | (with_reducible first | apply qa | apply qb | apply qc | apply qd) | (conv => whnf)
         all_goals first | ((with_reducible show ACall _ _ _ _ _ _); refine inl tys_ok (l := sl5M) sp5M Tryz.func143 rfl (by kernel_rfl) (by kernel_rfl) rfl ?_) | skip
         all_goals repeat' (first | exact trivial | (with_reducible first | exact (fun h => absurd (hne1.symm.trans h) (by decide)) | exact (fun h => absurd (hne2.symm.trans h) (by decide)) | exact (fun h => absurd (hne3.symm.trans h) (by decide)) | exact (fun h => absurd (hne4.symm.trans h) (by decide)) | exact (fun h => absurd (h : decide ((-1 : Int) <= 0) = false) (by decide)) | exact (fun h => absurd (h : decide ((-1 : Int) ≥ 0) = true) (by decide)) | exact (fun h => absurd (h : decide ((1 : Int) <= 0) = true) (by decide)) | exact (fun h => absurd (h : decide ((1 : Int) ≥ 0) = false) (by decide))) | refine ⟨?_, ?_⟩ | intro _)
         all_goals first | (with_reducible first | apply qa | apply qb | apply qc | apply qd) | (conv => whnf)
         all_goals (try simp only [ht0, Nat.add_zero, hg])
         all_goals repeat' (first | exact trivial | (with_reducible first | exact (fun h => absurd (hne1.symm.trans h) (by decide)) | exact (fun h => absurd (hne2.symm.trans h) (by decide)) | exact (fun h => absurd (hne3.symm.trans h) (by decide)) | exact (fun h => absurd (hne4.symm.trans h) (by decide)) | exact (fun h => absurd (h : decide ((-1 : Int) <= 0) = false) (by decide)) | exact (fun h => absurd (h : decide ((-1 : Int) ≥ 0) = true) (by decide)) | exact (fun h => absurd (h : decide ((1 : Int) <= 0) = true) (by decide)) | exact (fun h => absurd (h : decide ((1 : Int) ≥ 0) = false) (by decide)) | exact hgp) | refine ⟨?_, ?_⟩ | intro _)
         all_goals first | (with_reducible first | apply qa | apply qb | apply qc | apply qd) | (conv => whnf)
         all_goals (try simp only [lessB_nil, lessB_nil2, e1])
         all_goals first | exact Nat.le_refl _ | omega | (simp only [List.length_append, List.length_cons, List.length_nil]; omega) | exact hstep | rfl | (simp; done) | (rw [show (Int.toNat 1 : Nat) = 1 from rfl]; congr 1; omega) | ((with_reducible show idsOk _ _ = true); rfl) | (exact rwB_snoc rfl ‹_›)
     . obtain rfl : i = L.length := by omega
       obtain rfl : j = M.length := by omega
       have hend1 : decide (((L.length - L.length : Nat) : Int) > 0) = false := decide_eq_false (by omega)
       have hend2 : decide (((M.length - M.length : Nat) : Int) > 0) = false := decide_eq_false (by omega)
       have hout : out = mrg Op L M := by
        rw [List.drop_length, List.drop_length, mrg, List.append_nil] at k4; exact k4
       subst hout
       repeat' (first | exact trivial | (with_reducible first | exact (fun h => absurd (hend1.symm.trans h) (by decide)) | exact (fun h => absurd (hend2.symm.trans h) (by decide))) | refine ⟨?_, ?_⟩ | intro _)
       all_goals first | (with_reducible first | apply qa | apply qb | apply qc | apply qd) | (conv => whnf)
       all_goals first | rfl | (simp; done) | (rename_i k _; show rwB (mrg Op L M) (0 + k) = rwB (mrg Op L M) k; rw [Nat.zero_add])
 . cases h
theorem get_ok {e : En} (h : okL e.binds) (s : ByteArray) : okV (En.get e s) := by
 unfold En.get
 split
 . rename_i hd; exact okL_at (clean_ok h) (found_lt hd)
 . exact ⟨⟨Nat.zero_le _, fun i h => absurd h (Nat.not_lt_zero i)⟩, by unfold Sp.inR; decide, by unfold Cg.inR; decide⟩
def FLeqC : List Ar -> Option Rs
 | [.agg [.d (.v (.string x0)), .d (.v (.bool s0)), .d (.v (.int .i64 l0)), .d (.v (.int .i64 h0)), .d (.v (.bool b0)), .d (.v (.int .i64 m0)), .d (.v (.int .i64 r0)), .d (.v (.bool z0)), .d (.lst 1 n0 f0)], .rp [.v (.bool e1), .lst 9 n1 f1]] => some ⟨((n0 * 16 <= 140737488351232 /\ ∀ i, i < n0 -> f0 i = [st (gT (f0 i))]) /\ Sp.inR ⟨s0, l0, h0⟩ /\ Cg.inR ⟨b0, m0, r0⟩) /\ (n1 <= 1099511627776 /\ RowsOk n1 f1), .va (.c (.d (bo (!Vl.leq (⟨⟨⟨s0, l0, h0⟩, ⟨b0, m0, r0⟩⟩, ⟨z0, gN n0 f0⟩⟩ : Vl) (En.get (⟨e1, gBs n1 f1⟩ : En) x0))))), []⟩
 | _ => none
theorem fcLeqC : FC Tryz.prog 93 FLeqC := by
 intro xs pre r us h hp
 unfold FLeqC at h
 split at h
 . rename_i x0 s0 l0 h0 b0 m0 r0 z0 n0 f0 e1 n1 f1
   cases h
   obtain ⟨hp0, hp1⟩ := hp
   refine fcat tys_ok (l := [(24, ⟨[], FEGet⟩), (91, ⟨[], FVLeq⟩)]) ⟨fcEGet, fcVLeq, trivial⟩ Tryz.func93 rfl (by kernel_rfl) false ?_
   have hL := okL_rows hp1.2
   have hg := get_ok (e := ⟨e1, gBs n1 f1⟩) hL x0
   have hq := hg.2
   simp only [Sp.inR, Cg.inR] at hq
   repeat' (first | exact trivial | (with_reducible first | exact hp0 | exact hp0.1 | exact hp0.2 | exact hp0.1.2 | exact hp0.2.1 | exact hp0.2.2 | exact hp1 | exact hp1.2) | refine ⟨?_, ?_⟩ | intro _)
   all_goals first | (with_reducible first | apply qa | apply qb | apply qc | apply qd) | (conv => whnf)
   all_goals (generalize En.get ⟨e1, gBs n1 f1⟩ x0 = G at *)
   all_goals (try simp only [gN_lst])
   all_goals first | rfl | exact hp0.1.1 | exact hp1.1 | exact hg.1.1 | omega
 . cases h
abbrev gLeq (ek : Bool) (nk : Nat) (fk : Nat -> List DV) : List Cv -> Option Gs := mkFv (sums [(93, ⟨[], FLeqC⟩)]) 93 [.rp [bo ek, .lst 9 nk fk]]
abbrev pL (E : En) (b : Bd) : Bool := !Vl.leq b.v (En.get E b.name)
def FIndexL (ek : Bool) (nk : Nat) (fk : Nat -> List DV) : List Ar -> Option Rs
 | [.c (.d (.lst 9 n0 f0)), .fv g1] => some ⟨(n0 <= 1099511627776 /\ RowsOk n0 f0) /\ (g1 = gLeq ek nk fk /\ nk <= 1099511627776 /\ RowsOk nk fk), .va (.c (.d (it (ixB (pL ⟨ek, gBs nk fk⟩) (gBs n0 f0))))), []⟩
 | _ => none
theorem fcIndexL (ek : Bool) (nk : Nat) (fk : Nat -> List DV) : FC Tryz.prog 118 (FIndexL ek nk fk) := by
 intro xs pre r us h hp
 unfold FIndexL at h
 split at h
 . rename_i n0 f0 g1
   cases h
   obtain ⟨hp0, hp1⟩ := hp
   refine FCat.deep (ys := [.c (.d (.lst 9 n0 (rwB (gBs n0 f0)))), .fv g1]) ?_ ?_
   . repeat' (first | exact trivial | exact rfl | exact DvE.refl _ | refine ⟨?_, ?_⟩ | fail)
     all_goals first | exact canonB hp0.2.h
   refine fcat tys_ok (l := []) trivial Tryz.func118 rfl (by kernel_rfl) false ?_
   obtain ⟨rfl, hk1, hk2⟩ := hp1
   have hn := hp0.1
   have hL := okL_rows hp0.2
   have hlen := gBs_length n0 f0
   generalize gBs n0 f0 = L at *
   clear hp0
   subst hlen
   have hrow := okL_row hL
   repeat' (first | exact trivial | refine ⟨?_, ?_⟩ | intro _)
   all_goals first | (with_reducible first | apply qa | apply qb | apply qc | apply qd) | (conv => whnf)
   refine loop_ok tys_ok (l := []) trivial (by kernel_rfl) (X := Nat)
    (fun i => ⟨[(8, vx (.int .i64 i)), (0, .va (.c (.d (.lst 9 L.length (rwB L))))), (1, .va (.c (.fv (gLeq ek nk fk)))), (7, vx (.int .i64 L.length))], [], 0, 19⟩)
    (fun i => L.length - i) (fun i => i <= L.length /\ ∀ k, k < i -> pL ⟨ek, gBs nk fk⟩ (atB L k) = false) [] []
    (fun i _ _ => i + 1) [] [] 0 0 0 ?_ ?_ ?_
   . exact ⟨Nat.zero_le _, fun k h => absurd h (Nat.not_lt_zero k)⟩
   . repeat' (first | exact trivial | exact rfl | (intro _ _; exact rfl) | refine ⟨?_, ?_⟩ | fail)
   . rintro i ⟨k1, k2⟩
     rcases Nat.lt_or_ge i L.length with hi | hi
     . have hne : decide ((i : Int) < (L.length : Int)) = true := decide_eq_true (by omega)
       have ho1 := okL_at hL hi
       have hq := ho1.2
       simp only [Sp.inR, Cg.inR] at hq
       repeat' (first | exact trivial | refine ⟨?_, ?_⟩ | intro _)
       all_goals first | (with_reducible first | apply qa | apply qb | apply qc | apply qd) | (conv => whnf)
       all_goals first | (exact absurd (hne.symm.trans ‹_ = false›) (by decide)) | skip
       all_goals (try simp only [Int.toNat_natCast, Nat.zero_add, gN_lst] at *)
       all_goals first | omega | rfl | exact hk1 | exact hk2 | exact ho1.1.1 | (exact congrArg (Value.int .i64) (by first | (rw [wI_id _ (by omega) (by omega)]; omega) | omega | (dsimp only; omega))) | skip
       all_goals first | (rw [ix_some hi k2 ‹_ = true›]; done) | (rw [ix_some hi k2 ‹_ = true›]; rfl) | (rename_i k hk hp; rcases Nat.lt_or_ge k i with hki | hki; exact k2 k hki; rw [show k = i by omega]; exact hp)
     . have hne : decide ((i : Int) < (L.length : Int)) = false := decide_eq_false (by omega)
       obtain rfl : i = L.length := by omega
       repeat' (first | exact trivial | refine ⟨?_, ?_⟩ | intro _)
       all_goals first | (with_reducible first | apply qa | apply qb | apply qc | apply qd) | (conv => whnf)
       all_goals first | (exact absurd (hne.symm.trans ‹_ = true›) (by decide)) | skip
       all_goals first | exact Nat.le_refl _ | (rw [ix_none k2]; done) | (rw [ix_none k2]; rfl)
 . cases h
def FContL (ek : Bool) (nk : Nat) (fk : Nat -> List DV) : List Ar -> Option Rs
 | [.c (.d (.lst 9 n0 f0)), .fv g1] => some ⟨(n0 <= 1099511627776 /\ RowsOk n0 f0) /\ (g1 = gLeq ek nk fk /\ nk <= 1099511627776 /\ RowsOk nk fk), .va (.c (.d (bo (decide (ixB (pL ⟨ek, gBs nk fk⟩) (gBs n0 f0) ≥ 0))))), []⟩
 | _ => none
theorem fcContL (ek : Bool) (nk : Nat) (fk : Nat -> List DV) : FC Tryz.prog 92 (FContL ek nk fk) := by
 intro xs pre r us h hp
 unfold FContL at h
 split at h
 . rename_i n0 f0 g1
   cases h
   obtain ⟨hp0, hp1⟩ := hp
   refine FCat.deep (ys := [.c (.d (.lst 9 n0 (rwB (gBs n0 f0)))), .fv g1]) ?_ ?_
   . repeat' (first | exact trivial | exact rfl | exact DvE.refl _ | refine ⟨?_, ?_⟩ | fail)
     all_goals first | exact canonB hp0.2.h
   refine fcat tys_ok (l := [(118, ⟨[], (FIndexL ek nk fk)⟩)]) ⟨(fcIndexL ek nk fk), trivial⟩ Tryz.func92 rfl (by kernel_rfl) false ?_
   obtain ⟨rfl, hk1, hk2⟩ := hp1
   have hn := hp0.1
   have hL := okL_rows hp0.2
   have hlen := gBs_length n0 f0
   generalize gBs n0 f0 = L at *
   clear hp0
   subst hlen
   have hrow := okL_row hL
   have hgb := gBs_row L
   repeat' (first | exact trivial | refine ⟨?_, ?_⟩ | intro _)
   all_goals first | (with_reducible first | apply qa | apply qb | apply qc | apply qd) | (conv => whnf)
   all_goals (try simp only [hgb])
   all_goals first | exact hn | exact hrow | exact hk1 | exact hk2 | rfl
 . cases h
namespace En
def leq (a b : En) : Bool := if a.clean.live = true then (if b.clean.live = true then a.clean.binds.all fun x => x.v.leq (En.get b.clean x.name) else false) else true
end En
theorem ix_all (p : Bd -> Bool) (L : List Bd) : (!decide (ixB p L ≥ 0)) = L.all fun b => !p b := by
 rcases ix_cases p L with ⟨h1, h2⟩ | ⟨i, h1, h2, h3, h4⟩
 . rw [h1]
   refine (List.all_eq_true.2 fun x hx => ?_).symm
   obtain ⟨k, hk, rfl⟩ := mem_atB hx
   rw [h2 k hk]; rfl
 . rw [h1, show decide ((i : Int) ≥ 0) = true from decide_eq_true (by omega)]
   refine (List.all_eq_false.2 ⟨atB L i, atB_mem h2, ?_⟩).symm
   rw [h4]; simp
def FELeq : List Ar -> Option Rs
 | [.agg [.d (.v (.bool e0)), .d (.lst 9 n0 f0)], .agg [.d (.v (.bool e1)), .d (.lst 9 n1 f1)]] => some ⟨(n0 <= 1099511627776 /\ RowsOk n0 f0) /\ (n1 <= 1099511627776 /\ RowsOk n1 f1), .va (.c (.d (bo (En.leq (⟨e0, gBs n0 f0⟩ : En) (⟨e1, gBs n1 f1⟩ : En))))), []⟩
 | _ => none
theorem fcELeq : FC Tryz.prog 41 FELeq := by
 intro xs pre r us h hp
 unfold FELeq at h
 split at h
 . rename_i e0 n0 f0 e1 n1 f1
   cases h
   obtain ⟨hp0, hp1⟩ := hp
   refine FCat.deep (ys := [.agg [.d (.v (.bool e0)), .d (.lst 9 n0 (rwB (gBs n0 f0)))], .agg [.d (.v (.bool e1)), .d (.lst 9 n1 (rwB (gBs n1 f1)))]]) ?_ ?_
   . repeat' (first | exact trivial | exact rfl | exact DvE.refl _ | refine ⟨?_, ?_⟩ | fail)
     all_goals first | first | exact canonB hp0.2.h | exact canonB hp1.2.h
   refine fcat tys_ok (l := [(22, ⟨[], FEClean⟩), (92, ⟨[], (FContL (En.clean ⟨e1, gBs n1 (rwB (gBs n1 f1))⟩).live (En.clean ⟨e1, gBs n1 (rwB (gBs n1 f1))⟩).binds.length (rwB (En.clean ⟨e1, gBs n1 (rwB (gBs n1 f1))⟩).binds))⟩), (93, ⟨[], FLeqC⟩)]) ⟨fcEClean, (fcContL (En.clean ⟨e1, gBs n1 (rwB (gBs n1 f1))⟩).live (En.clean ⟨e1, gBs n1 (rwB (gBs n1 f1))⟩).binds.length (rwB (En.clean ⟨e1, gBs n1 (rwB (gBs n1 f1))⟩).binds)), fcLeqC, trivial⟩ Tryz.func41 rfl (by kernel_rfl) true ?_
   have hn := hp0.1
   have hL := okL_rows hp0.2
   have hlen := gBs_length n0 f0
   generalize gBs n0 f0 = L at *
   clear hp0
   subst hlen
   have hrow := okL_row hL
   have hb := gBs_row L
   have hc := clean_ok (e := ⟨e0, L⟩) hL
   have hcr := okL_row hc
   have hcl := clean_len ⟨e0, L⟩
   have hcs := clean_std ⟨e0, L⟩
   have hcn : (En.clean ⟨e0, L⟩).binds.length <= 1099511627776 := Nat.le_trans hcl hn
   have hm := hp1.1
   have hM := okL_rows hp1.2
   have hlen1 := gBs_length n1 f1
   generalize gBs n1 f1 = M at *
   clear hp1
   subst hlen1
   have hrow1 := okL_row hM
   have hb1 := gBs_row M
   have hd := clean_ok (e := ⟨e1, M⟩) hM
   have hdr := okL_row hd
   have hdl := clean_len ⟨e1, M⟩
   have hds := clean_std ⟨e1, M⟩
   have hdn : (En.clean ⟨e1, M⟩).binds.length <= 1099511627776 := Nat.le_trans hdl hm
   repeat' (first | exact trivial | refine ⟨?_, ?_⟩ | intro _)
   all_goals first | (with_reducible first | apply qa | apply qb | apply qc | apply qd) | (conv => whnf)
   all_goals (try simp only [gBs_row, Bool.not_eq_true', Bool.not_eq_false'] at *)
   all_goals first | exact hrow | exact hrow1 | exact hn | exact hm | exact hcn | exact hdn | exact hcr | exact hdr | rfl | skip
   all_goals (have hset : En.leq ⟨e0, L⟩ ⟨e1, M⟩ = if (En.clean ⟨e0, L⟩).live = true then (if (En.clean ⟨e1, M⟩).live = true then (En.clean ⟨e0, L⟩).binds.all fun x => x.v.leq (En.get (En.clean ⟨e1, M⟩) x.name) else false) else true := rfl)
   all_goals (generalize En.leq ⟨e0, L⟩ ⟨e1, M⟩ = R at *; generalize En.clean ⟨e0, L⟩ = A at *; generalize En.clean ⟨e1, M⟩ = B at *)
   all_goals first | (have hl := ‹A.live = false›; rw [hset, hl]; rfl) | (have hl := ‹A.live = true›; first | (have hl2 := ‹B.live = false›; rw [hset, hl, hl2]; rfl) | (have hl2 := ‹B.live = true›; have e := ix_all (pL B) A.binds; simp only [pL, Bool.not_not] at e; rw [hset, if_pos hl, if_pos hl2, <- e]; rfl)) | skip
   have hl := ‹A.live = true›
   have hl2 := ‹B.live = true›
   rw [hset, if_pos hl, if_pos hl2]
   exact congrArg Value.bool ((ix_all (pL B) A.binds).trans (by simp only [pL, Bool.not_not]))
 . cases h
namespace Sp
end Sp
def Cg.tidy (c : Cg) : Prop := c = Cg.none \/ (c.some = true /\ c.red)
theorem Cg.tidy_fix {c : Cg} (h : c.tidy) : c.clean = c := by
 rcases h with rfl | ⟨h1, h2⟩
 . rfl
 . exact cg_fix h1 h2
theorem gcdJ_dvd {x y : Cg} : Cg.gcdJ x y ∣ x.m /\ Cg.gcdJ x y ∣ y.m /\ Cg.gcdJ x y ∣ apartI x.r y.r := by
 unfold Cg.gcdJ
 refine ⟨Int.dvd_trans (Int.gcd_dvd_left _ _) (Int.gcd_dvd_left _ _), Int.dvd_trans (Int.gcd_dvd_left _ _) (Int.gcd_dvd_right _ _), Int.gcd_dvd_right _ _⟩
theorem apart_dvd {g a b : Int} (h : g ∣ apartI a b) : g ∣ a - b := by
 unfold apartI at h
 split at h
 . exact h
 . rw [<- Int.neg_sub, Int.dvd_neg]; exact h
theorem gcdJ_nn (x y : Cg) : 0 <= Cg.gcdJ x y := by unfold Cg.gcdJ; omega
theorem gcdJ_zero {x y : Cg} (h : Cg.gcdJ x y = 0) : x.m = 0 /\ y.m = 0 /\ x.r = y.r := by
 have := gcdJ_dvd (x := x) (y := y)
 rw [h] at this
 obtain ⟨h1, h2, h3⟩ := this
 rw [Int.zero_dvd] at h1 h2
 have h4 := apart_dvd h3
 rw [Int.zero_dvd] at h4
 exact ⟨h1, h2, by omega⟩
theorem md_dvd {a b g : Int} (hg : 0 < g) (h : g ∣ a - b) : md a g = md b g := by
 unfold md
 rw [if_neg (by omega), if_neg (by omega)]
 exact Int.emod_eq_emod_iff_emod_sub_eq_zero.2 (Int.emod_eq_zero_of_dvd h)
theorem join_some {a b : Cg} (ha : a.some = true) (hb : b.some = true) (ra : a.red) (rb : b.red) : Cg.join a b = if Cg.gcdJ a b > 9223372036854775807 then ⟨true, 1, 0⟩ else ⟨true, Cg.gcdJ a b, md a.r (Cg.gcdJ a b)⟩ := by
 unfold Cg.join
 rw [cg_fix ha ra, cg_fix hb rb, ha, hb]
 have := gcdJ_nn a b
 simp only [Bool.not_true, Bool.false_eq_true, if_false]
 split
 . rfl
 . unfold Cg.of; rw [if_neg (by omega)]
theorem join_no1 {a b : Cg} (ha : a = Cg.none) (hb : b.tidy) : Cg.join a b = b := by
 subst ha
 have : (!Cg.none.clean.some) = true := rfl
 unfold Cg.join; rw [if_pos this, Cg.tidy_fix hb]
theorem join_no2 {a b : Cg} (ha : a.tidy) (hs : a.some = true) (hb : b = Cg.none) : Cg.join a b = a := by
 subst hb
 unfold Cg.join; rw [Cg.tidy_fix ha, hs]; rfl
theorem join_tidy {a b : Cg} (ha : a.tidy) (hb : b.tidy) : (Cg.join a b).tidy := by
 rcases ha with ha | ⟨h1, h2⟩
 . rw [join_no1 ha hb]; exact hb
 . rcases hb with hb | ⟨h3, h4⟩
   . rw [join_no2 (.inr ⟨h1, h2⟩) h1 hb]; exact .inr ⟨h1, h2⟩
   . rw [join_some h1 h3 h2 h4]
     have := gcdJ_nn a b
     split
     . right; refine ⟨rfl, ?_⟩; unfold Cg.red; dsimp only; omega
     . right; refine ⟨rfl, ?_⟩; unfold Cg.red; dsimp only
       exact ⟨this, fun h => md_bound _ _ h⟩
theorem leq_no {a b : Cg} (ha : a = Cg.none) : Cg.leq a b = true := by subst ha; unfold Cg.leq; rfl
theorem tidy_c {i : Ig} (h : i.tidy) : i.c.tidy := by
 rcases h with rfl | ⟨⟨_, h2⟩, _, h4⟩
 . exact .inl rfl
 . exact .inr ⟨h2, h4⟩
def joinI (a b : Ig) (l : List Int) : Ig := ⟨a.s.widen b.s l, a.c.join b.c⟩
theorem join_tidyI {a b : Ig} {l : List Int} (ha : a.tidy) (hb : b.tidy) (ib : b.s.inR) : (joinI a b l).tidy := by
 rcases ha with rfl | ⟨⟨h1, h2⟩, h3, h4⟩
 . have e1 : Sp.widen Ig.zero.s b.s l = b.s.clean := rfl
   have e2 : Cg.join Ig.zero.c b.c = b.c := join_no1 rfl (tidy_c hb)
   have e3 : b.s.clean = b.s := by
    have := tidy_fix hb
    rcases hb with rfl | ⟨⟨q1, q2⟩, q3, q4⟩
    . rfl
    . unfold Sp.clean Sp.none; rw [q1]; simp; omega
   unfold joinI; rw [e1, e2, e3]; exact hb
 . right
   have hj := join_tidy (.inr ⟨h2, h4⟩ : a.c.tidy) (tidy_c hb)
   have hs : (Cg.join a.c b.c).some = true := by
    rcases tidy_c hb with h | ⟨q1, q2⟩
    . rw [join_no2 (.inr ⟨h2, h4⟩) h2 h]; exact h2
    . rw [join_some h2 q1 h4 q2]; split <;> rfl
   have hu := under_le l b.s.lo (by unfold Sp.inR at ib; omega)
   have ho := over_ge l b.s.hi (by unfold Sp.inR at ib; omega)
   have hw : (a.s.widen b.s l).some = true /\ (a.s.widen b.s l).lo <= (a.s.widen b.s l).hi := by
    have hn : a.s.none = false := by unfold Sp.none; rw [h1]; simp; omega
    unfold Sp.widen; rw [hn]
    simp only [Bool.false_eq_true, if_false]
    split
    . exact ⟨h1, h3⟩
    . exact ⟨h1, by dsimp only; split <;> split <;> omega⟩
   refine ⟨⟨hw.1, hs⟩, hw.2, ?_⟩
   rcases hj with h | ⟨_, h⟩
   . unfold joinI; dsimp only; rw [h] at hs; cases hs
   . exact h
theorem of_told {v : Vl} (h : v.i.tidy) (hs : Srt v.t.names) : v.of = v := by
 unfold Vl.of; rw [tidy_fix h, ofS_eq, cleanS_fix hs]
namespace Sp
theorem l3_zero (a : Sp) : leq ⟨false, 0, 0⟩ a = true := by grind [leq, none, has]
end Sp
namespace Cg
theorem gcdJ_comm (a b : Cg) : Cg.gcdJ a b = Cg.gcdJ b a := by
 unfold Cg.gcdJ
 rw [Int.gcd_comm a.m b.m]
 congr 2
 unfold apartI
 split <;> split <;> omega
theorem l3_comm {a b : Cg} (ha : a.tidy) (hb : b.tidy) : Cg.join a b = Cg.join b a := by
 rcases ha with h | ⟨h1, h2⟩
 . rw [join_no1 h hb]
   rcases hb with h' | ⟨h3, h4⟩
   . rw [h, h', join_no1 rfl (.inl rfl)]
   . rw [join_no2 (.inr ⟨h3, h4⟩) h3 h]
 . rcases hb with h' | ⟨h3, h4⟩
   . rw [join_no2 (.inr ⟨h1, h2⟩) h1 h', join_no1 h' (.inr ⟨h1, h2⟩)]
   . rw [join_some h1 h3 h2 h4, join_some h3 h1 h4 h2, gcdJ_comm b a]
     have hd := gcdJ_dvd (x := a) (y := b)
     have h0 := gcdJ_zero (x := a) (y := b)
     have hn := gcdJ_nn a b
     have : md b.r (Cg.gcdJ a b) = md a.r (Cg.gcdJ a b) := by
      rcases Int.lt_or_eq_of_le hn with h | h
      . exact (md_dvd h (apart_dvd hd.2.2)).symm
      . rw [(h0 h.symm).2.2]
     rw [this]
end Cg
structure Vl.tidy (v : Vl) : Prop where
 i : v.i.tidy
 t : Srt v.t.names
theorem Vl.of_tidy (v : Vl) : v.of.tidy := ⟨by rw [of_rclean]; exact clean_tidy v.i, by rw [of_rclean]; exact cleanS_srt _⟩
theorem Vl.of_fix {v : Vl} (h : v.tidy) : v.of = v := of_told h.i h.t
theorem Vl.of_of (v : Vl) : v.of.of = v.of := Vl.of_fix (Vl.of_tidy v)
theorem Vl.zero_tidy : Vl.zero.tidy := ⟨.inl rfl, by unfold Vl.zero; exact srt_nil⟩
theorem Vl.leq_iff {a b : Vl} (ha : a.tidy) (hb : b.tidy) : Vl.leq a b = true ↔ a.i.s.leq b.i.s = true /\ a.i.c.leq b.i.c = true /\ (a.t.null = true -> b.t.null = true) /\ ∀ z, z ∈ a.t.names -> z ∈ b.t.names := by
 unfold Vl.leq Ig.leq
 rw [Vl.of_fix ha, Vl.of_fix hb, ofS_eq, ofS_eq, cleanS_fix ha.t, cleanS_fix hb.t]
 simp only [Bool.and_eq_true, subS_iff, Bool.or_eq_true, Bool.not_eq_true', and_assoc]
 cases a.t.null <;> simp
theorem Vl.leq_of (a b : Vl) : Vl.leq a.of b.of = Vl.leq a b := by
 unfold Vl.leq
 have e : ∀ v : Vl, v.of.t.null = v.t.null := fun v => by rw [of_rclean]; rfl
 have e2 : ∀ v : Vl, ofS v.of.t.names = ofS v.t.names := fun v => by rw [of_rclean, ofS_eq, ofS_eq]; exact cleanS_idem _
 rw [Vl.of_of, Vl.of_of, e, e, e2, e2]
theorem Vl.l3_zero (a : Vl) : Vl.leq Vl.zero a = true := by
 rw [<- Vl.leq_of, Vl.of_fix Vl.zero_tidy, Vl.leq_iff Vl.zero_tidy (Vl.of_tidy a)]
 exact ⟨Sp.l3_zero _, leq_no rfl, fun h => (Bool.false_ne_true h).elim, fun z hz => by cases hz⟩
theorem ig_join_tidy {a b : Ig} (ha : a.tidy) (hb : b.tidy) : Ig.tidy ⟨a.s.join b.s, a.c.join b.c⟩ := by
 have hj := join_tidy (tidy_c ha) (tidy_c hb)
 rcases ha with rfl | ⟨⟨a1, a2⟩, a3, a4⟩
 . rcases hb with rfl | ⟨⟨b1, b2⟩, b3, b4⟩
   . exact .inl rfl
   . have e : Cg.join Ig.zero.c b.c = b.c := join_no1 rfl (.inr ⟨b2, b4⟩)
     rw [e]
     obtain ⟨⟨s, l, h⟩, c⟩ := b
     dsimp only at *
     subst b1
     right
     refine ⟨⟨?_, b2⟩, ?_, b4⟩
     . show (Sp.join ⟨false, 0, 0⟩ ⟨true, l, h⟩).some = true; grind [Sp.join, Sp.none, Sp.clean]
     . show (Sp.join ⟨false, 0, 0⟩ ⟨true, l, h⟩).lo <= (Sp.join ⟨false, 0, 0⟩ ⟨true, l, h⟩).hi; grind [Sp.join, Sp.none, Sp.clean]
 . right
   have hs : (a.s.join b.s).some = true /\ (a.s.join b.s).lo <= (a.s.join b.s).hi := by grind [Sp.join, Sp.none, Sp.clean, Sp.of]
   have hc : (a.c.join b.c).some = true := by
    rcases hb with rfl | ⟨⟨b1, b2⟩, b3, b4⟩
    . have e : Cg.join a.c Ig.zero.c = a.c := join_no2 (.inr ⟨a2, a4⟩) a2 rfl
      rw [e]; exact a2
    . rw [join_some a2 b2 a4 b4]; split <;> rfl
   refine ⟨⟨hs.1, hc⟩, hs.2, ?_⟩
   rcases hj with h | ⟨_, h⟩
   . rw [h] at hc; cases hc
   . exact h
theorem mem_ofS {l : List ByteArray} {z : ByteArray} : z ∈ ofS l ↔ z ∈ l := by rw [ofS_eq, cleanS_mem]
theorem srt_ofS (l : List ByteArray) : Srt (ofS l) := by rw [ofS_eq]; exact cleanS_srt l
theorem of_null (v : Vl) : v.of.t.null = v.t.null := by rw [of_rclean]; rfl
theorem of_names (v : Vl) : v.of.t.names = ofS v.t.names := by rw [of_rclean, ofS_eq]; rfl
theorem Vl.jn_tidy (a b : Vl) : (Vl.join a b).tidy := ⟨ig_join_tidy (Vl.of_tidy a).i (Vl.of_tidy b).i, srt_ofS _⟩
theorem Vl.l3_comm (a b : Vl) : Vl.join a b = Vl.join b a := by
 unfold Vl.join
 have h1 : a.of.i.s.join b.of.i.s = b.of.i.s.join a.of.i.s := by
  have ha := (Vl.of_tidy a).i
  have hb := (Vl.of_tidy b).i
  rcases ha with e | ⟨⟨a1, _⟩, a3, _⟩
  . rw [e]; rcases hb with e | ⟨⟨b1, _⟩, b3, _⟩
    . rw [e]
    . generalize b.of.i.s = y at *; unfold Ig.zero; grind [Sp.join, Sp.none, Sp.clean, Sp.of]
  . rcases hb with e | ⟨⟨b1, _⟩, b3, _⟩
    . rw [e]; generalize a.of.i.s = y at *; unfold Ig.zero; grind [Sp.join, Sp.none, Sp.clean, Sp.of]
    . generalize a.of.i.s = x at *; generalize b.of.i.s = y at *; grind [Sp.join, Sp.none, Sp.clean, Sp.of]
 have h2 : ofS (ofS a.t.names ++ ofS b.t.names) = ofS (ofS b.t.names ++ ofS a.t.names) := srt_ext (srt_ofS _) (srt_ofS _) fun z => by
  rw [mem_ofS, mem_ofS, List.mem_append, List.mem_append]; exact Or.comm
 rw [h1, Cg.l3_comm (tidy_c (Vl.of_tidy a).i) (tidy_c (Vl.of_tidy b).i), h2, Bool.or_comm]
def Vl.inR (v : Vl) : Prop := v.i.s.inR /\ v.i.c.inR
theorem Vl.of_inR {v : Vl} (h : v.inR) : v.of.inR := Ig.clean_inR h.1 h.2
theorem Vl.widen_tidy {a b : Vl} {l : List Int} (hb : b.inR) : (Vl.widen a b l).tidy :=
 ⟨join_tidyI (l := l) (Vl.of_tidy a).i (Vl.of_tidy b).i (Vl.of_inR hb).1, srt_ofS _⟩
def narI (x y : Ig) : Ig := Ig.clean ⟨x.s.narrow y.s, if Cg.eq x.c (Cg.of 1 0) then y.c else x.c⟩
theorem Vl.narrow_cases (a b : Vl) : Vl.narrow a b = (if !Vl.leq b a then a.of else if Vl.none b then Vl.zero else ⟨narI a.of.i b.of.i, a.of.t⟩) := rfl
theorem Vl.narrow_tidy (a b : Vl) : (Vl.narrow a b).tidy := by
 rw [Vl.narrow_cases]
 split
 . exact Vl.of_tidy a
 . split
   . exact Vl.zero_tidy
   . exact ⟨clean_tidy _, (Vl.of_tidy a).t⟩
theorem Vl.join_eq (a b : Vl) : Vl.join a b = Vl.rjoin a b := by
 unfold Vl.join Vl.rjoin
 rw [of_rclean, of_rclean]
 simp only [ofS_eq]
namespace En
def join (a b : En) : En := if a.clean.live = true then (if b.clean.live = true then ⟨true, mrg Vl.join a.clean.binds b.clean.binds⟩ else a.clean) else b.clean
def widen (a b : En) (l : List Int) : En := if a.clean.live = true then (if b.clean.live = true then ⟨true, mrg (fun x y => Vl.widen x y l) a.clean.binds b.clean.binds⟩ else a.clean) else b.clean
def narrow (a b : En) : En := if a.clean.live = true then (if b.clean.live = true then (if En.leq b.clean a.clean = true then ⟨true, mrg Vl.narrow a.clean.binds b.clean.binds⟩ else a.clean) else ⟨false, []⟩) else b.clean
end En
abbrev QJ (x y : Vl) : Prop := (x.t.names.length + y.t.names.length) * 16 <= 140737488351232
abbrev QT (_ _ : Vl) : Prop := True
theorem vl_lst (v : Vl) : (⟨⟨⟨v.i.s.some, v.i.s.lo, v.i.s.hi⟩, ⟨v.i.c.some, v.i.c.m, v.i.c.r⟩⟩, ⟨v.t.null, gN v.t.names.length fun i => [st (atS v.t.names i)]⟩⟩ : Vl) = v := by rw [gN_lst]
theorem vl_nil : (⟨⟨⟨false, 0, 0⟩, ⟨false, 0, 0⟩⟩, ⟨false, gN 0 fun _ => []⟩⟩ : Vl) = Vl.zero := rfl
theorem okV_zero : okV Vl.zero := ⟨⟨Nat.zero_le _, fun i h => absurd h (Nat.not_lt_zero i)⟩, by unfold Vl.zero Ig.zero Sp.inR; decide, by unfold Vl.zero Ig.zero Cg.inR; decide⟩
abbrev gJoin : List Cv -> Option Gs := mkFv (sums [(95, ⟨[], FN 1 FVJoin⟩)]) 95 []
abbrev gNarrow : List Cv -> Option Gs := mkFv (sums [(102, ⟨[], FN 1 FVNarrow⟩)]) 102 []
theorem gz_of {gz : List Cv -> Option Gs} {a b : List DV} {p : Prop} {z z' : Vl} (h : gz [.agg a, .agg b] = some ⟨p, .va (.agg (vlC z'))⟩) (hz : z' = z) (hp : p) : gIs gz a b z := by subst hz; exact ⟨p, h, hp⟩
theorem gJoin_ok : GOk gJoin Vl.join QJ where
 both x y hx hy hq := gz_of rfl (by rw [vl_lst, vl_lst]) (by unfold okV at hx hy; exact ⟨⟨⟨hx.1.1, fun _ _ => rfl⟩, hx.2⟩, ⟨⟨hy.1.1, fun _ _ => rfl⟩, hy.2⟩, hq⟩)
 left x hx hq := gz_of rfl (by rw [vl_lst, vl_nil]) (by unfold okV at hx; exact ⟨⟨⟨hx.1.1, fun _ _ => rfl⟩, hx.2⟩, ⟨⟨Nat.zero_le _, fun i h => absurd h (Nat.not_lt_zero i)⟩, okV_zero.2⟩, hq⟩)
 right y hy hq := gz_of rfl (by rw [vl_lst, vl_nil]) (by unfold okV at hy; exact ⟨⟨⟨Nat.zero_le _, fun i h => absurd h (Nat.not_lt_zero i)⟩, okV_zero.2⟩, ⟨⟨hy.1.1, fun _ _ => rfl⟩, hy.2⟩, hq⟩)
theorem gNarrow_ok : GOk gNarrow Vl.narrow QT where
 both x y hx hy hq := gz_of rfl (by rw [vl_lst, vl_lst]) (by unfold okV at hx hy; exact ⟨⟨⟨hx.1.1, fun _ _ => rfl⟩, hx.2⟩, ⟨⟨hy.1.1, fun _ _ => rfl⟩, hy.2⟩⟩)
 left x hx hq := gz_of rfl (by rw [vl_lst, vl_nil]) (by unfold okV at hx; exact ⟨⟨⟨hx.1.1, fun _ _ => rfl⟩, hx.2⟩, ⟨⟨Nat.zero_le _, fun i h => absurd h (Nat.not_lt_zero i)⟩, okV_zero.2⟩⟩)
 right y hy hq := gz_of rfl (by rw [vl_lst, vl_nil]) (by unfold okV at hy; exact ⟨⟨⟨Nat.zero_le _, fun i h => absurd h (Nat.not_lt_zero i)⟩, okV_zero.2⟩, ⟨⟨hy.1.1, fun _ _ => rfl⟩, hy.2⟩⟩)
def Room (A B : List Bd) : Prop := QOk QJ A B
theorem room_dd {A A' B B' : List Bd} (h : Room A B) (ha : ∀ x ∈ A', ∃ y ∈ A, x.v.t.names.length <= y.v.t.names.length) (hb : ∀ x ∈ B', ∃ y ∈ B, x.v.t.names.length <= y.v.t.names.length) : Room A' B' where
 both x hx y hy := by
  obtain ⟨u, hu, e⟩ := ha x hx
  obtain ⟨w, hw, e'⟩ := hb y hy
  have := h.both u hu w hw
  unfold QJ at *; omega
 left x hx := by obtain ⟨u, hu, e⟩ := ha x hx; have := h.left u hu; unfold QJ at *; omega
 right y hy := by obtain ⟨w, hw, e'⟩ := hb y hy; have := h.right w hw; unfold QJ at *; omega
theorem clean_sub (e : En) : ∀ x ∈ e.clean.binds, ∃ y ∈ e.binds, x.v.t.names.length <= y.v.t.names.length := by
 intro x hx
 unfold En.clean at hx
 split at hx
 . obtain ⟨b, hb, rfl⟩ := List.mem_map.1 hx
   refine ⟨b, srt_mem.1 (dd_sub hb), ?_⟩
   show (Vl.of b.v).t.names.length <= _
   rw [of_names]; exact ofS_len _
 . cases hx
theorem room_clean {a b : En} (h : Room a.binds b.binds) : Room a.clean.binds b.clean.binds := room_dd h (clean_sub a) (clean_sub b)
theorem qt_ok (A B : List Bd) : QOk QT A B := ⟨fun _ _ _ _ => trivial, fun _ _ => trivial, fun _ _ => trivial⟩
def FEJoin : List Ar -> Option Rs
 | [.agg [.d (.v (.bool e0)), .d (.lst 9 n0 f0)], .agg [.d (.v (.bool e1)), .d (.lst 9 n1 f1)]] => some ⟨(n0 <= 1099511627776 /\ RowsOk n0 f0) /\ (n1 <= 1099511627776 /\ RowsOk n1 f1) /\ (Room (gBs n0 f0) (gBs n1 f1) /\ n0 + n1 <= 1099511627776), .va (En.ar (En.join (⟨e0, gBs n0 f0⟩ : En) (⟨e1, gBs n1 f1⟩ : En))), []⟩
 | _ => none
theorem fcEJoin : FC Tryz.prog 44 FEJoin := by
 intro xs pre r us h hp
 unfold FEJoin at h
 split at h
 . rename_i e0 n0 f0 e1 n1 f1
   cases h
   obtain ⟨hp0, hp1, hp2⟩ := hp
   refine FCat.deep (ys := [.agg [.d (.v (.bool e0)), .d (.lst 9 n0 (rwB (gBs n0 f0)))], .agg [.d (.v (.bool e1)), .d (.lst 9 n1 (rwB (gBs n1 f1)))]]) ?_ ?_
   . repeat' (first | exact trivial | exact rfl | exact DvE.refl _ | refine ⟨?_, ?_⟩ | fail)
     all_goals first | first | exact canonB hp0.2.h | exact canonB hp1.2.h
   refine fcat tys_ok (l := [(22, ⟨[], FEClean⟩), (94, ⟨[], (FEZip Vl.join QJ gJoin)⟩), (95, ⟨[], FN 1 FVJoin⟩)]) ⟨fcEClean, (fcEZip Vl.join QJ gJoin), fc_nil 1 fcVJoin, trivial⟩ Tryz.func44 rfl (by kernel_rfl) true ?_
   have hn := hp0.1
   have hL := okL_rows hp0.2
   have hlen := gBs_length n0 f0
   generalize gBs n0 f0 = L at *
   clear hp0
   subst hlen
   have hrow := okL_row hL
   have hb := gBs_row L
   have hc := clean_ok (e := ⟨e0, L⟩) hL
   have hcr := okL_row hc
   have hcl := clean_len ⟨e0, L⟩
   have hcs := clean_std ⟨e0, L⟩
   have hcn : (En.clean ⟨e0, L⟩).binds.length <= 1099511627776 := Nat.le_trans hcl hn
   have hm := hp1.1
   have hM := okL_rows hp1.2
   have hlen1 := gBs_length n1 f1
   generalize gBs n1 f1 = M at *
   clear hp1
   subst hlen1
   have hrow1 := okL_row hM
   have hb1 := gBs_row M
   have hd := clean_ok (e := ⟨e1, M⟩) hM
   have hdr := okL_row hd
   have hdl := clean_len ⟨e1, M⟩
   have hds := clean_std ⟨e1, M⟩
   have hdn : (En.clean ⟨e1, M⟩).binds.length <= 1099511627776 := Nat.le_trans hdl hm
   obtain ⟨hroom, hsum⟩ := hp2
   have hcroom := room_clean (a := ⟨e0, L⟩) (b := ⟨e1, M⟩) hroom
   have hnm : (En.clean ⟨e0, L⟩).binds.length + (En.clean ⟨e1, M⟩).binds.length <= 1099511627776 := by
    have h1 : (En.clean ⟨e0, L⟩).binds.length <= L.length := hcl
    have h2 : (En.clean ⟨e1, M⟩).binds.length <= M.length := hdl
    omega
   repeat' (first | exact trivial | refine ⟨?_, ?_⟩ | intro _)
   all_goals first | (with_reducible first | apply qa | apply qb | apply qc | apply qd) | (conv => whnf)
   all_goals (try simp only [gBs_row, Bool.not_eq_true', Bool.not_eq_false'] at *)
   all_goals first | exact hrow | exact hrow1 | exact hn | exact hm | exact hcr | exact hdr | exact hcn | exact hdn | exact gJoin_ok | exact hcroom | exact hnm | rfl | skip
   all_goals (have hset : En.join ⟨e0, L⟩ ⟨e1, M⟩ = if (En.clean ⟨e0, L⟩).live = true then (if (En.clean ⟨e1, M⟩).live = true then ⟨true, mrg Vl.join (En.clean ⟨e0, L⟩).binds (En.clean ⟨e1, M⟩).binds⟩ else En.clean ⟨e0, L⟩) else En.clean ⟨e1, M⟩ := rfl)
   all_goals (generalize En.join ⟨e0, L⟩ ⟨e1, M⟩ = R at *; generalize En.clean ⟨e0, L⟩ = A at *; generalize En.clean ⟨e1, M⟩ = B at *)
   all_goals first | (have hl := ‹A.live = false›; rw [hl, if_neg Bool.false_ne_true] at hset; subst hset; rfl) | (have hl := ‹A.live = true›; have hl2 := ‹B.live = false›; rw [hl, if_pos rfl, hl2, if_neg Bool.false_ne_true] at hset; subst hset; rfl) | (have hl := ‹A.live = true›; have hl2 := ‹B.live = true›; rw [hl, if_pos rfl, hl2, if_pos rfl] at hset; subst hset; rfl)
 . cases h
def FWidC : List Ar -> Option Rs
 | [.agg [.d (.v (.bool s0)), .d (.v (.int .i64 l0)), .d (.v (.int .i64 h0)), .d (.v (.bool b0)), .d (.v (.int .i64 m0)), .d (.v (.int .i64 r0)), .d (.v (.bool z0)), .d (.lst 1 n0 f0)], .agg [.d (.v (.bool s1)), .d (.v (.int .i64 l1)), .d (.v (.int .i64 h1)), .d (.v (.bool b1)), .d (.v (.int .i64 m1)), .d (.v (.int .i64 r1)), .d (.v (.bool z1)), .d (.lst 1 n1 f1)], .rp [.lst 1 n2 f2]] => some ⟨((n0 * 16 <= 140737488351232 /\ ∀ i, i < n0 -> f0 i = [st (gT (f0 i))]) /\ Sp.inR ⟨s0, l0, h0⟩ /\ Cg.inR ⟨b0, m0, r0⟩) /\ ((n1 * 16 <= 140737488351232 /\ ∀ i, i < n1 -> f1 i = [st (gT (f1 i))]) /\ Sp.inR ⟨s1, l1, h1⟩ /\ Cg.inR ⟨b1, m1, r1⟩) /\ (n2 <= 9223372036854775807 /\ ∀ i, i < n2 -> f2 i = [it (gI (f2 i))] /\ rI (gI (f2 i))) /\ ((n0 + n1) * 16 <= 140737488351232), .va (Vl.ar (Vl.widen (⟨⟨⟨s0, l0, h0⟩, ⟨b0, m0, r0⟩⟩, ⟨z0, gN n0 f0⟩⟩ : Vl) (⟨⟨⟨s1, l1, h1⟩, ⟨b1, m1, r1⟩⟩, ⟨z1, gN n1 f1⟩⟩ : Vl) (gL n2 f2))), []⟩
 | _ => none
theorem fcWidC : FC Tryz.prog 100 FWidC := by
 intro xs pre r us h hp
 unfold FWidC at h
 split at h
 . rename_i s0 l0 h0 b0 m0 r0 z0 n0 f0 s1 l1 h1 b1 m1 r1 z1 n1 f1 n2 f2
   cases h
   obtain ⟨hp0, hp1, hp2, hp3⟩ := hp
   refine FCat.of_eq (as' := [.agg [.d (.v (.bool s0)), .d (.v (.int .i64 l0)), .d (.v (.int .i64 h0)), .d (.v (.bool b0)), .d (.v (.int .i64 m0)), .d (.v (.int .i64 r0)), .d (.v (.bool z0)), .d (.lst 1 n0 fun i => [st (gT (f0 i))])], .agg [.d (.v (.bool s1)), .d (.v (.int .i64 l1)), .d (.v (.int .i64 h1)), .d (.v (.bool b1)), .d (.v (.int .i64 m1)), .d (.v (.int .i64 r1)), .d (.v (.bool z1)), .d (.lst 1 n1 fun i => [st (gT (f1 i))])], .rp [.lst 1 n2 f2]]) ?_ rfl rfl ?_
   . repeat' (first | exact trivial | exact rfl | refine ⟨?_, ?_⟩ | fail)
     all_goals first | exact hp0.1.2 | exact hp1.1.2 | exact hp0.2 | exact hp1.2 | exact hp2.2 | (intro i hi; exact (hp0.2 i hi).1) | (intro i hi; exact (hp1.2 i hi).1) | (intro i hi; exact (hp2.2 i hi).1) | grind
   refine fcat tys_ok (l := [(101, ⟨[], FVWiden⟩)]) ⟨fcVWiden, trivial⟩ Tryz.func100 rfl (by kernel_rfl) true ?_
   repeat' (first | exact trivial | (with_reducible first | exact hp0.1 | exact hp1.1 | exact hp0.1.1 | exact hp1.1.1 | exact hp0.2 | exact hp1.2 | exact hp0.2.1 | exact hp0.2.2 | exact hp1.2.1 | exact hp1.2.2 | exact hp2 | exact hp2.1 | exact hp2.2 | exact hp3) | refine ⟨?_, ?_⟩ | intro _)
   all_goals first | (with_reducible first | apply qa | apply qb | apply qc | apply qd) | (conv => whnf)
   all_goals (try simp only [gN_lst])
   all_goals first | rfl
 . cases h
abbrev gWiden (nk : Nat) (fk : Nat -> List DV) : List Cv -> Option Gs := mkFv (sums [(100, ⟨[], FN 1 FWidC⟩)]) 100 [.rp [.lst 1 nk fk]]
theorem gWiden_ok {nk : Nat} {fk : Nat -> List DV} (hk : nk <= 9223372036854775807 /\ ∀ i, i < nk -> fk i = [it (gI (fk i))] /\ rI (gI (fk i))) : GOk (gWiden nk fk) (fun x y => Vl.widen x y (gL nk fk)) QJ where
 both x y hx hy hq := gz_of rfl (by rw [vl_lst, vl_lst]) (by unfold okV at hx hy; exact ⟨⟨⟨hx.1.1, fun _ _ => rfl⟩, hx.2⟩, ⟨⟨hy.1.1, fun _ _ => rfl⟩, hy.2⟩, hk, hq⟩)
 left x hx hq := gz_of rfl (by rw [vl_lst, vl_nil]) (by unfold okV at hx; exact ⟨⟨⟨hx.1.1, fun _ _ => rfl⟩, hx.2⟩, ⟨⟨Nat.zero_le _, fun i h => absurd h (Nat.not_lt_zero i)⟩, okV_zero.2⟩, hk, hq⟩)
 right y hy hq := gz_of rfl (by rw [vl_lst, vl_nil]) (by unfold okV at hy; exact ⟨⟨⟨Nat.zero_le _, fun i h => absurd h (Nat.not_lt_zero i)⟩, okV_zero.2⟩, ⟨⟨hy.1.1, fun _ _ => rfl⟩, hy.2⟩, hk, hq⟩)
def FEWiden : List Ar -> Option Rs
 | [.agg [.d (.v (.bool e0)), .d (.lst 9 n0 f0)], .agg [.d (.v (.bool e1)), .d (.lst 9 n1 f1)], .c (.d (.lst 1 n2 f2))] => some ⟨(n0 <= 1099511627776 /\ RowsOk n0 f0) /\ (n1 <= 1099511627776 /\ RowsOk n1 f1) /\ (n2 <= 9223372036854775807 /\ ∀ i, i < n2 -> f2 i = [it (gI (f2 i))] /\ rI (gI (f2 i))) /\ (Room (gBs n0 f0) (gBs n1 f1) /\ n0 + n1 <= 1099511627776), .va (En.ar (En.widen (⟨e0, gBs n0 f0⟩ : En) (⟨e1, gBs n1 f1⟩ : En) (gL n2 f2))), []⟩
 | _ => none
theorem fcEWiden : FC Tryz.prog 46 FEWiden := by
 intro xs pre r us h hp
 unfold FEWiden at h
 split at h
 . rename_i e0 n0 f0 e1 n1 f1 n2 f2
   cases h
   obtain ⟨hp0, hp1, hp2, hp3⟩ := hp
   refine FCat.deep (ys := [.agg [.d (.v (.bool e0)), .d (.lst 9 n0 (rwB (gBs n0 f0)))], .agg [.d (.v (.bool e1)), .d (.lst 9 n1 (rwB (gBs n1 f1)))], .c (.d (.lst 1 n2 fun i => [it (gI (f2 i))]))]) ?_ ?_
   . repeat' (first | exact trivial | exact rfl | exact DvE.refl _ | refine ⟨?_, ?_⟩ | fail)
     all_goals first | first | exact canonB hp0.2.h | exact canonB hp1.2.h | (exact .rows fun i hi => by rw [(hp2.2 i hi).1]; exact ⟨rfl, fun j a b ha hb => by have hb : [it (gI (f2 i))][j]? = some b := hb; rw [ha] at hb; cases hb; exact .refl _⟩)
   refine fcat tys_ok (l := [(22, ⟨[], FEClean⟩), (94, ⟨[], (FEZip (fun x y => Vl.widen x y (gL n2 f2)) QJ (gWiden n2 (fun i => [it (gI (f2 i))])))⟩), (100, ⟨[], FN 1 FWidC⟩)]) ⟨fcEClean, (fcEZip (fun x y => Vl.widen x y (gL n2 f2)) QJ (gWiden n2 (fun i => [it (gI (f2 i))]))), fc_nil 1 fcWidC, trivial⟩ Tryz.func46 rfl (by kernel_rfl) true ?_
   have hn := hp0.1
   have hL := okL_rows hp0.2
   have hlen := gBs_length n0 f0
   generalize gBs n0 f0 = L at *
   clear hp0
   subst hlen
   have hrow := okL_row hL
   have hb := gBs_row L
   have hc := clean_ok (e := ⟨e0, L⟩) hL
   have hcr := okL_row hc
   have hcl := clean_len ⟨e0, L⟩
   have hcs := clean_std ⟨e0, L⟩
   have hcn : (En.clean ⟨e0, L⟩).binds.length <= 1099511627776 := Nat.le_trans hcl hn
   have hm := hp1.1
   have hM := okL_rows hp1.2
   have hlen1 := gBs_length n1 f1
   generalize gBs n1 f1 = M at *
   clear hp1
   subst hlen1
   have hrow1 := okL_row hM
   have hb1 := gBs_row M
   have hd := clean_ok (e := ⟨e1, M⟩) hM
   have hdr := okL_row hd
   have hdl := clean_len ⟨e1, M⟩
   have hds := clean_std ⟨e1, M⟩
   have hdn : (En.clean ⟨e1, M⟩).binds.length <= 1099511627776 := Nat.le_trans hdl hm
   obtain ⟨hroom, hsum⟩ := hp3
   have hcroom := room_clean (a := ⟨e0, L⟩) (b := ⟨e1, M⟩) hroom
   have hnm : (En.clean ⟨e0, L⟩).binds.length + (En.clean ⟨e1, M⟩).binds.length <= 1099511627776 := by
    have h1 : (En.clean ⟨e0, L⟩).binds.length <= L.length := hcl
    have h2 : (En.clean ⟨e1, M⟩).binds.length <= M.length := hdl
    omega
   have hcan : ∀ i, i < n2 -> (fun i => [it (gI (f2 i))]) i = [it (gI ((fun i => [it (gI (f2 i))]) i))] /\ rI (gI ((fun i => [it (gI (f2 i))]) i)) := fun i hi => ⟨rfl, (hp2.2 i hi).2⟩
   have hgw := gWiden_ok (nk := n2) (fk := fun i => [it (gI (f2 i))]) ⟨hp2.1, hcan⟩
   repeat' (first | exact trivial | refine ⟨?_, ?_⟩ | intro _)
   all_goals first | (with_reducible first | apply qa | apply qb | apply qc | apply qd) | (conv => whnf)
   all_goals (try simp only [gBs_row, Bool.not_eq_true', Bool.not_eq_false'] at *)
   all_goals first | exact hrow | exact hrow1 | exact hn | exact hm | exact hcr | exact hdr | exact hcn | exact hdn | exact hgw | exact hcroom | exact hnm | rfl | skip
   all_goals (have hset : En.widen ⟨e0, L⟩ ⟨e1, M⟩ (gL n2 f2) = if (En.clean ⟨e0, L⟩).live = true then (if (En.clean ⟨e1, M⟩).live = true then ⟨true, mrg (fun x y => Vl.widen x y (gL n2 f2)) (En.clean ⟨e0, L⟩).binds (En.clean ⟨e1, M⟩).binds⟩ else En.clean ⟨e0, L⟩) else En.clean ⟨e1, M⟩ := rfl)
   all_goals (generalize En.widen ⟨e0, L⟩ ⟨e1, M⟩ (gL n2 f2) = R at *; generalize En.clean ⟨e0, L⟩ = A at *; generalize En.clean ⟨e1, M⟩ = B at *)
   all_goals first | (have hl := ‹A.live = false›; rw [hl, if_neg Bool.false_ne_true] at hset; subst hset; rfl) | (have hl := ‹A.live = true›; have hl2 := ‹B.live = false›; rw [hl, if_pos rfl, hl2, if_neg Bool.false_ne_true] at hset; subst hset; rfl) | (have hl := ‹A.live = true›; have hl2 := ‹B.live = true›; rw [hl, if_pos rfl, hl2, if_pos rfl] at hset; subst hset; rfl)
 . cases h
def FENarrow : List Ar -> Option Rs
 | [.agg [.d (.v (.bool e0)), .d (.lst 9 n0 f0)], .agg [.d (.v (.bool e1)), .d (.lst 9 n1 f1)]] => some ⟨(n0 <= 1099511627776 /\ RowsOk n0 f0) /\ (n1 <= 1099511627776 /\ RowsOk n1 f1) /\ (n0 + n1 <= 1099511627776), .va (En.ar (En.narrow (⟨e0, gBs n0 f0⟩ : En) (⟨e1, gBs n1 f1⟩ : En))), []⟩
 | _ => none
theorem fcENarrow : FC Tryz.prog 47 FENarrow := by
 intro xs pre r us h hp
 unfold FENarrow at h
 split at h
 . rename_i e0 n0 f0 e1 n1 f1
   cases h
   obtain ⟨hp0, hp1, hp2⟩ := hp
   refine FCat.deep (ys := [.agg [.d (.v (.bool e0)), .d (.lst 9 n0 (rwB (gBs n0 f0)))], .agg [.d (.v (.bool e1)), .d (.lst 9 n1 (rwB (gBs n1 f1)))]]) ?_ ?_
   . repeat' (first | exact trivial | exact rfl | exact DvE.refl _ | refine ⟨?_, ?_⟩ | fail)
     all_goals first | first | exact canonB hp0.2.h | exact canonB hp1.2.h
   refine fcat tys_ok (l := [(22, ⟨[], FEClean⟩), (94, ⟨[], (FEZip Vl.narrow QT gNarrow)⟩), (102, ⟨[], FN 1 FVNarrow⟩), (41, ⟨[], FELeq⟩)]) ⟨fcEClean, (fcEZip Vl.narrow QT gNarrow), fc_nil 1 fcVNarrow, fcELeq, trivial⟩ Tryz.func47 rfl (by kernel_rfl) true ?_
   have hn := hp0.1
   have hL := okL_rows hp0.2
   have hlen := gBs_length n0 f0
   generalize gBs n0 f0 = L at *
   clear hp0
   subst hlen
   have hrow := okL_row hL
   have hb := gBs_row L
   have hc := clean_ok (e := ⟨e0, L⟩) hL
   have hcr := okL_row hc
   have hcl := clean_len ⟨e0, L⟩
   have hcs := clean_std ⟨e0, L⟩
   have hcn : (En.clean ⟨e0, L⟩).binds.length <= 1099511627776 := Nat.le_trans hcl hn
   have hm := hp1.1
   have hM := okL_rows hp1.2
   have hlen1 := gBs_length n1 f1
   generalize gBs n1 f1 = M at *
   clear hp1
   subst hlen1
   have hrow1 := okL_row hM
   have hb1 := gBs_row M
   have hd := clean_ok (e := ⟨e1, M⟩) hM
   have hdr := okL_row hd
   have hdl := clean_len ⟨e1, M⟩
   have hds := clean_std ⟨e1, M⟩
   have hdn : (En.clean ⟨e1, M⟩).binds.length <= 1099511627776 := Nat.le_trans hdl hm
   have hnm : (En.clean ⟨e0, L⟩).binds.length + (En.clean ⟨e1, M⟩).binds.length <= 1099511627776 := by
    have h1 : (En.clean ⟨e0, L⟩).binds.length <= L.length := hcl
    have h2 : (En.clean ⟨e1, M⟩).binds.length <= M.length := hdl
    omega
   repeat' (first | exact trivial | refine ⟨?_, ?_⟩ | intro _)
   all_goals first | (with_reducible first | apply qa | apply qb | apply qc | apply qd) | (conv => whnf)
   all_goals (try simp only [gBs_row, Bool.not_eq_true', Bool.not_eq_false'] at *)
   all_goals first | exact hrow | exact hrow1 | exact hn | exact hm | exact hcr | exact hdr | exact hcn | exact hdn | exact gNarrow_ok | exact qt_ok _ _ | exact hnm | rfl | skip
   all_goals (have hset : En.narrow ⟨e0, L⟩ ⟨e1, M⟩ = if (En.clean ⟨e0, L⟩).live = true then (if (En.clean ⟨e1, M⟩).live = true then (if En.leq (En.clean ⟨e1, M⟩) (En.clean ⟨e0, L⟩) = true then ⟨true, mrg Vl.narrow (En.clean ⟨e0, L⟩).binds (En.clean ⟨e1, M⟩).binds⟩ else En.clean ⟨e0, L⟩) else ⟨false, []⟩) else En.clean ⟨e1, M⟩ := rfl)
   all_goals (generalize En.narrow ⟨e0, L⟩ ⟨e1, M⟩ = R at *; generalize En.clean ⟨e0, L⟩ = A at *; generalize En.clean ⟨e1, M⟩ = B at *)
   all_goals first | (have hl := ‹A.live = false›; rw [hl, if_neg Bool.false_ne_true] at hset; subst hset; rfl) | (have hl := ‹A.live = true›; have hl2 := ‹B.live = false›; rw [hl, if_pos rfl, hl2, if_neg Bool.false_ne_true] at hset; subst hset; rfl) | (have hl := ‹A.live = true›; have hl2 := ‹B.live = true›; have hl3 : En.leq B A = true := ‹_›; rw [hl, if_pos rfl, hl2, if_pos rfl, hl3, if_pos rfl] at hset; subst hset; rfl) | (have hl := ‹A.live = true›; have hl2 := ‹B.live = true›; have hl3 : En.leq B A = false := ‹_›; rw [hl, if_pos rfl, hl2, if_pos rfl, hl3, if_neg Bool.false_ne_true] at hset; subst hset; first | rfl | exact congrArg Value.bool hl | exact congrArg Value.bool hl.symm)
 . cases h
theorem lk_find (L : List Bd) (s : ByteArray) : lk L s = (L.find? fun b => decide (b.name = s)).map (·.v) := by
 induction L with
 | nil => rfl
 | cons x r ih =>
   rw [lk_cons, List.find?_cons]
   by_cases h : x.name = s
   . rw [if_pos h, decide_eq_true h]; rfl
   . rw [if_neg h, decide_eq_false h]; exact ih
theorem rget_lk (e : En) (s : ByteArray) : e.rget s = ((e.hold s).map Vl.rclean).getD Vl.zero := by
 unfold En.rget En.hold
 split
 . rw [lk_find]; cases List.find? (fun b => decide (b.name = s)) e.binds <;> rfl
 . rfl
theorem mem_names {e : En} {s : ByteArray} : s ∈ e.names ↔ (e.hold s).isSome = true := by
 unfold En.names En.hold
 split
 . rw [cleanS_mem, lk_isSome]
 . simp
theorem names_srt (e : En) : Srt e.names := by
 unfold En.names
 split
 . exact cleanS_srt _
 . exact srt_nil
theorem lk_fun (l : List ByteArray) (g : ByteArray -> Vl) (s : ByteArray) : lk (l.map fun n => ⟨n, g n⟩) s = if memS s l = true then some (g s) else none := by
 induction l with
 | nil => rfl
 | cons x r ih =>
   rw [List.map_cons, lk_cons, ih]
   by_cases h : x = s
   . subst h; rw [if_pos rfl, if_pos (memS_iff.2 List.mem_cons_self)]
   . rw [if_neg h]
     by_cases h2 : s ∈ r
     . rw [if_pos (memS_iff.2 h2), if_pos (memS_iff.2 (List.mem_cons_of_mem _ h2))]
     . rw [if_neg (fun h3 => h2 (memS_iff.1 h3)), if_neg]
       intro h3
       rcases List.mem_cons.1 (memS_iff.1 h3) with h4 | h4
       . exact h h4.symm
       . exact h2 h4
theorem rclean_ss (e : En) : SS e.rclean.binds := by
 unfold SS En.rclean
 rw [List.pairwise_map]
 exact names_srt e
theorem rclean_lk (e : En) (s : ByteArray) : lk e.rclean.binds s = (e.hold s).map Vl.rclean := by
 show lk (e.names.map fun n => ⟨n, e.rget n⟩) s = _
 rw [lk_fun]
 by_cases h : s ∈ e.names
 . rw [if_pos (memS_iff.2 h), rget_lk]
   have := mem_names.1 h
   cases hh : e.hold s with
   | none => rw [hh] at this; cases this
   | some v => rfl
 . rw [if_neg (fun h3 => h (memS_iff.1 h3))]
   have := mt mem_names.2 h
   cases hh : e.hold s with
   | none => rfl
   | some v => rw [hh] at this; exact absurd rfl this
theorem of_fun : Vl.of = Vl.rclean := funext of_rclean
theorem clean_rclean (e : En) : e.clean = e.rclean :=
 en_ext (eclean_live e) (clean_ss e) (rclean_ss e) fun s => by rw [clean_lk, rclean_lk, of_fun]
theorem low_split {D : List Bd} (h : SS D) (s : ByteArray) : (∀ b ∈ D.take (lowN D s), kS b.name < kS s) /\ ∀ b ∈ D.drop (lowN D s), ¬ kS b.name < kS s := by
 induction D with
 | nil => exact ⟨fun b hb => by simp at hb, fun b hb => by simp at hb⟩
 | cons x r ih =>
   have h1 := List.pairwise_cons.1 h
   obtain ⟨i1, i2⟩ := ih h1.2
   cases hc : ltB x ⟨s, Vl.zero⟩ with
   | true =>
     have e : lowN (x :: r) s = lowN r s + 1 := by unfold lowN; rw [List.countP_cons_of_pos (by exact hc)]
     rw [e, List.take_succ_cons, List.drop_succ_cons]
     refine ⟨fun b hb => ?_, i2⟩
     rcases List.mem_cons.1 hb with rfl | hb
     . exact ltB_iff.1 hc
     . exact i1 b hb
   | false =>
     have hx : ¬ kS x.name < kS s := ltB_iff'.1 hc
     have hr : ∀ b ∈ r, ¬ kS b.name < kS s := fun b hb hlt => hx (List.lt_trans (h1.1 b hb) hlt)
     have e : lowN (x :: r) s = 0 := by
      unfold lowN
      rw [List.countP_eq_zero]
      intro b hb
      rcases List.mem_cons.1 hb with rfl | hb
      . rw [hc]; exact Bool.false_ne_true
      . have := (ltB_iff' (a := b) (b := ⟨s, Vl.zero⟩)).2 (hr b hb)
        rw [this]; exact Bool.false_ne_true
     rw [e]
     refine ⟨fun b hb => by simp at hb, fun b hb => ?_⟩
     rcases List.mem_cons.1 hb with rfl | hb
     . exact hx
     . exact hr b hb
theorem found_iff {D : List Bd} {s : ByteArray} : foundN D s = true ↔ lowN D s < D.length /\ (atB D (lowN D s)).name = s := by
 unfold foundN
 rw [Bool.and_eq_true, decide_eq_true_eq, beq_iff_eq, cfL_eq]
 constructor
 . rintro ⟨h1, h2⟩; exact ⟨h1, kS_inj h2⟩
 . rintro ⟨h1, h2⟩; exact ⟨h1, by rw [h2]⟩
theorem split_at {D : List Bd} {i : Nat} (h : i < D.length) : D = D.take i ++ atB D i :: D.drop (i + 1) := by
 have hd : D.drop i = atB D i :: D.drop (i + 1) := by
  rw [List.drop_eq_getElem_cons h]
  congr 1
  unfold atB; rw [List.getD_eq_getElem?_getD, List.getElem?_eq_getElem h]; rfl
 rw [<- hd, List.take_append_drop]
theorem lk_take {D : List Bd} (h : SS D) (s : ByteArray) : lk (D.take (lowN D s)) s = none :=
 lk_none fun b hb e => by have := (low_split h s).1 b hb; rw [e] at this; exact List.lt_irrefl _ this
theorem lk_found {D : List Bd} (h : SS D) (s : ByteArray) : lk D s = if foundN D s = true then some (atB D (lowN D s)).v else none := by
 conv => lhs; rw [<- List.take_append_drop (lowN D s) D, lk_append, lk_take h]
 rw [Option.none_or]
 split
 . rename_i hf
   obtain ⟨h1, h2⟩ := found_iff.1 hf
   have e := split_at h1
   have hd : D.drop (lowN D s) = atB D (lowN D s) :: D.drop (lowN D s + 1) := by
    have := congrArg (List.drop (lowN D s)) e
    rw [List.drop_append_of_le_length (by rw [List.length_take]; omega)] at this
    rw [this, List.drop_eq_nil_of_le (by rw [List.length_take]; omega)]; rfl
   rw [hd, lk_cons, if_pos h2]
 . rename_i hf
   by_cases h1 : lowN D s < D.length
   . have e := split_at h1
     have hd : D.drop (lowN D s) = atB D (lowN D s) :: D.drop (lowN D s + 1) := by
      have := congrArg (List.drop (lowN D s)) e
      rw [List.drop_append_of_le_length (by rw [List.length_take]; omega)] at this
      rw [this, List.drop_eq_nil_of_le (by rw [List.length_take]; omega)]; rfl
     have hne : (atB D (lowN D s)).name ≠ s := fun h2 => hf (found_iff.2 ⟨h1, h2⟩)
     have hgt : ¬ kS (atB D (lowN D s)).name < kS s := (low_split h s).2 _ (by rw [hd]; exact List.mem_cons_self)
     have hlt : kS s < kS (atB D (lowN D s)).name := kS_tri hgt hne
     have hss : SS (D.drop (lowN D s)) := List.Pairwise.sublist (List.drop_sublist _ _) h
     rw [hd] at hss ⊢
     rw [lk_cons, if_neg hne, ss_head hss (List.lt_asymm hlt)]
   . rw [List.drop_eq_nil_of_le (by omega)]; rfl
theorem get_lk (e : En) (s : ByteArray) : e.get s = ((e.hold s).map Vl.of).getD Vl.zero := by
 unfold En.get
 have := lk_found (clean_ss e) s
 rw [clean_lk] at this
 rw [this]
 split <;> rfl
theorem get_rget (e : En) (s : ByteArray) : e.get s = e.rget s := by rw [get_lk, rget_lk, of_fun]
namespace En
def rleq (a b : En) : Bool := if a.live = true then ((a.names.all fun n => Vl.rleq (a.rget n) (b.rget n)) && b.live) else true
def bothS (a b : En) : List ByteArray := b.names.foldl putS a.names
def vop (op : Int) (l : List Int) (x y : Vl) : Vl := if op = 2 then Vl.rnarrow x y else if op = 1 then Vl.rwiden x y l else Vl.rjoin x y
def rop (op : Int) (a b : En) (l : List Int) : En :=
 if a.live = true then (if b.live = true then (if op = 2 then (if En.rleq b a = true then ⟨true, (bothS a b).map fun n => ⟨n, vop op l (a.rget n) (b.rget n)⟩⟩ else a.rclean) else ⟨true, (bothS a b).map fun n => ⟨n, vop op l (a.rget n) (b.rget n)⟩⟩)
  else if op = 2 then ⟨false, []⟩ else a.rclean) else b.rclean
end En
theorem rget_ok {e : En} (h : okL e.binds) (s : ByteArray) : okV (En.rget e s) := by
 rw [<- get_rget]; exact get_ok h s
theorem nbT {x : Bool} (h : (!x) = false) : x = true := by cases x; cases h; rfl
theorem all_at {p : ByteArray -> Bool} {l : List ByteArray} (h : ∀ k, k < l.length -> p (atS l k) = true) : l.all p = true := by
 rw [List.all_eq_true]
 intro x hx
 obtain ⟨k, hk, e⟩ := List.mem_iff_getElem.1 hx
 have := h k hk
 unfold atS at this
 rw [List.getD_eq_getElem?_getD, List.getElem?_eq_getElem hk] at this
 rw [<- e]; exact this
theorem all_not {p : ByteArray -> Bool} {l : List ByteArray} {k : Nat} (hk : k < l.length) (h : p (atS l k) = false) : l.all p = false := by
 rw [List.all_eq_false]
 refine ⟨l[k], List.getElem_mem hk, ?_⟩
 unfold atS at h
 rw [List.getD_eq_getElem?_getD, List.getElem?_eq_getElem hk] at h
 rw [show l[k] = (some l[k]).getD ByteArray.empty from rfl, h]; exact Bool.false_ne_true
def FRELeq : List Ar -> Option Rs
 | [.agg [.d (.v (.bool e0)), .d (.lst 9 n0 f0)], .agg [.d (.v (.bool e1)), .d (.lst 9 n1 f1)]] => some ⟨(n0 <= 1099511627776 /\ RowsOk n0 f0) /\ (n1 <= 1099511627776 /\ RowsOk n1 f1), .va (.c (.d (bo (En.rleq (⟨e0, gBs n0 f0⟩ : En) (⟨e1, gBs n1 f1⟩ : En))))), []⟩
 | _ => none
theorem fcRELeq : FC Tryz.prog 42 FRELeq := by
 intro xs pre r us h hp
 unfold FRELeq at h
 split at h
 . rename_i e0 n0 f0 e1 n1 f1
   cases h
   obtain ⟨hp0, hp1⟩ := hp
   refine FCat.deep (ys := [.agg [.d (.v (.bool e0)), .d (.lst 9 n0 (rwB (gBs n0 f0)))], .agg [.d (.v (.bool e1)), .d (.lst 9 n1 (rwB (gBs n1 f1)))]]) ?_ ?_
   . repeat' (first | exact trivial | exact rfl | exact DvE.refl _ | refine ⟨?_, ?_⟩ | fail)
     all_goals first | first | exact canonB hp0.2.h | exact canonB hp1.2.h
   refine fcat tys_ok (l := [(66, ⟨[], FRNames⟩), (25, ⟨[], FRGet⟩), (83, ⟨[], FRVLeq⟩)]) ⟨fcRNames, fcRGet, fcRVLeq, trivial⟩ Tryz.func42 rfl (by kernel_rfl) true ?_
   have hn := hp0.1
   have hL := okL_rows hp0.2
   have hlen := gBs_length n0 f0
   generalize gBs n0 f0 = L at *
   clear hp0
   subst hlen
   have hrow := okL_row hL
   have hb := gBs_row L
   have hm := hp1.1
   have hM := okL_rows hp1.2
   have hlen1 := gBs_length n1 f1
   generalize gBs n1 f1 = M at *
   clear hp1
   subst hlen1
   have hrow1 := okL_row hM
   have hb1 := gBs_row M
   repeat' (first | exact trivial | refine ⟨?_, ?_⟩ | intro _)
   all_goals first | (with_reducible first | apply qa | apply qb | apply qc | apply qd) | (conv => whnf)
   all_goals first | exact hn | exact hrow | skip
   all_goals (simp only [hb, hb1] at *)
   . obtain rfl : e0 = false := by simpa using ‹(!e0) = true›
     rfl
   obtain rfl : e0 = true := by simpa using ‹(!e0) = false›
   have hnl := names_len ⟨true, L⟩
   have hset : En.rleq ⟨true, L⟩ ⟨e1, M⟩ = ((En.names ⟨true, L⟩).all (fun n => Vl.rleq (En.rget ⟨true, L⟩ n) (En.rget ⟨e1, M⟩ n)) && e1) := rfl
   generalize En.rleq ⟨true, L⟩ ⟨e1, M⟩ = R at *
   generalize hNL : En.names ⟨true, L⟩ = NL at *
   refine loop_ids tys_ok (l := [(66, ⟨[], FRNames⟩), (25, ⟨[], FRGet⟩), (83, ⟨[], FRVLeq⟩)]) ⟨fcRNames, fcRGet, fcRVLeq, trivial⟩ (by kernel_rfl) (X := Nat)
    (fun x => ⟨[(6, vx (.int .i64 x)), (5, .va (.c (.d (lst NL)))), (2, .va (.c (.own 0 0))), (3, .va (.c (.own 1 0)))], [(0, .cells [.d (bo true), .d (.lst 9 L.length (rwB L))]), (1, .cells [.d (bo e1), .d (.lst 9 M.length (rwB M))])], 2, 34⟩)
    (fun x => NL.length - x) (fun x => x <= NL.length /\ ∀ k, k < x -> Vl.rleq (En.rget ⟨true, L⟩ (atS NL k)) (En.rget ⟨e1, M⟩ (atS NL k)) = true) [] []
    (fun x _ _ => x + 1) (fun _ => [0, 1]) [0, 1] 0 0 0 ?_ ?_ ?_
   . exact ⟨Nat.zero_le _, fun k h => absurd h (Nat.not_lt_zero k)⟩
   . repeat' (first | exact trivial | exact rfl | (intro _ h; exact absurd h (Nat.not_lt_zero _)) | (intro _ _; exact rfl) | refine ⟨?_, ?_⟩ | fail)
   . rintro i ⟨k1, k2⟩
     rcases Nat.lt_or_ge i NL.length with hi | hi
     . have hne : decide ((i : Int) < (NL.length : Int)) = true := decide_eq_true (by omega)
       have ho1 := rget_ok (e := ⟨true, L⟩) hL (atS NL i)
       have ho2 := rget_ok (e := ⟨e1, M⟩) hM (atS NL i)
       have hq := ho1.2
       have hq2 := ho2.2
       simp only [Sp.inR, Cg.inR] at hq hq2
       have hal := @all_not (fun n => Vl.rleq (En.rget ⟨true, L⟩ n) (En.rget ⟨e1, M⟩ n)) NL i hi
       repeat' (first | exact trivial | (with_reducible exact (fun h => absurd (hne.symm.trans h) (by decide))) | refine ⟨?_, ?_⟩ | intro _)
       all_goals first | (with_reducible first | apply qa | apply qb | apply qc | apply qd) | (conv => whnf)
       all_goals (try simp only [Int.toNat_natCast, Nat.zero_add, gN_lst, hb, hb1, gBs_row] at *)
       all_goals first | omega | rfl | exact hn | exact hm | exact hrow | exact hrow1 | ((with_reducible show idsOk _ _ = true); rfl) | exact ho1.1.1 | exact ho2.1.1 | (exact congrArg (Value.int .i64) (by first | (rw [wI_id _ (by omega) (by omega)]; omega) | omega | (dsimp only; omega))) | skip
       all_goals first | (rw [hset, hal (by simpa using ‹(!Vl.rleq _ _) = true›)]; rfl) | (rename_i k hk _ hf; rcases Nat.lt_or_ge k i with hki | hki; exact k2 k hki; rw [show k = i by omega]; exact nbT hf)
     . have hne : decide ((i : Int) < (NL.length : Int)) = false := decide_eq_false (by omega)
       obtain rfl : i = NL.length := by omega
       repeat' (first | exact trivial | (with_reducible exact (fun h => absurd (hne.symm.trans h) (by decide))) | refine ⟨?_, ?_⟩ | intro _)
       all_goals first | (with_reducible first | apply qa | apply qb | apply qc | apply qd) | (conv => whnf)
       all_goals (rw [hset, all_at k2]; rfl)
 . cases h
theorem foldl_putS_len (l : List ByteArray) : ∀ s : List ByteArray, (l.foldl putS s).length <= s.length + l.length := by
 induction l with
 | nil => intro s; exact Nat.le_refl _
 | cons x r ih => intro s; have h1 := ih (putS s x); have h2 := putS_len s x; simp only [List.foldl_cons, List.length_cons]; omega
def btP (s l : List ByteArray) (i : Nat) : List ByteArray := (l.take i).foldl putS s
theorem btP_succ {s l : List ByteArray} {i : Nat} (h : i < l.length) : btP s l (i + 1) = putS (btP s l i) (atS l i) := by
 unfold btP
 rw [List.take_succ_eq_append_getElem h, List.foldl_append]
 unfold atS; rw [List.getD_eq_getElem?_getD, List.getElem?_eq_getElem h]; rfl
theorem btP_all (s l : List ByteArray) : btP s l l.length = l.foldl putS s := by unfold btP; rw [List.take_length]
theorem btP_len (s l : List ByteArray) (i : Nat) : (btP s l i).length <= s.length + i := by
 have := foldl_putS_len (l.take i) s
 unfold btP; rw [List.length_take] at this; omega
theorem both_len (a b : En) : (En.bothS a b).length <= a.binds.length + b.binds.length := by
 have h1 := foldl_putS_len b.names a.names
 have h2 := names_len a
 have h3 := names_len b
 unfold En.bothS; omega
def FRBoth : List Ar -> Option Rs
 | [.agg [.d (.v (.bool e0)), .d (.lst 9 n0 f0)], .agg [.d (.v (.bool e1)), .d (.lst 9 n1 f1)]] => some ⟨(n0 <= 1099511627776 /\ RowsOk n0 f0) /\ (n1 <= 1099511627776 /\ RowsOk n1 f1) /\ (n0 + n1 <= 1099511627776), .va (.c (.d (lst (En.bothS (⟨e0, gBs n0 f0⟩ : En) (⟨e1, gBs n1 f1⟩ : En))))), []⟩
 | _ => none
theorem fcRBoth : FC Tryz.prog 96 FRBoth := by
 intro xs pre r us h hp
 unfold FRBoth at h
 split at h
 . rename_i e0 n0 f0 e1 n1 f1
   cases h
   obtain ⟨hp0, hp1, hp2⟩ := hp
   refine FCat.deep (ys := [.agg [.d (.v (.bool e0)), .d (.lst 9 n0 (rwB (gBs n0 f0)))], .agg [.d (.v (.bool e1)), .d (.lst 9 n1 (rwB (gBs n1 f1)))]]) ?_ ?_
   . repeat' (first | exact trivial | exact rfl | exact DvE.refl _ | refine ⟨?_, ?_⟩ | fail)
     all_goals first | first | exact canonB hp0.2.h | exact canonB hp1.2.h
   refine fcat tys_ok (l := [(66, ⟨[], FRNames⟩), (120, ⟨[], FRPut⟩)]) ⟨fcRNames, fcRPut, trivial⟩ Tryz.func96 rfl (by kernel_rfl) true ?_
   have hn := hp0.1
   have hL := okL_rows hp0.2
   have hlen := gBs_length n0 f0
   generalize gBs n0 f0 = L at *
   clear hp0
   subst hlen
   have hrow := okL_row hL
   have hb := gBs_row L
   have hm := hp1.1
   have hM := okL_rows hp1.2
   have hlen1 := gBs_length n1 f1
   generalize gBs n1 f1 = M at *
   clear hp1
   subst hlen1
   have hrow1 := okL_row hM
   have hb1 := gBs_row M
   repeat' (first | exact trivial | refine ⟨?_, ?_⟩ | intro _)
   all_goals first | (with_reducible first | apply qa | apply qb | apply qc | apply qd) | (conv => whnf)
   all_goals first | exact hn | exact hrow | exact hm | exact hrow1 | skip
   all_goals (simp only [hb, hb1] at *)
   have hnl := names_len ⟨e0, L⟩
   have hnl2 := names_len ⟨e1, M⟩
   have hset : En.bothS ⟨e0, L⟩ ⟨e1, M⟩ = btP (En.names ⟨e0, L⟩) (En.names ⟨e1, M⟩) (En.names ⟨e1, M⟩).length := (btP_all _ _).symm
   generalize En.bothS ⟨e0, L⟩ ⟨e1, M⟩ = R at *
   generalize hNL : En.names ⟨e0, L⟩ = NL at *
   generalize hNM : En.names ⟨e1, M⟩ = NM at *
   have hnl3 : NL.length <= L.length := hnl
   have hnl4 : NM.length <= M.length := hnl2
   refine loop_ids tys_ok (l := [(66, ⟨[], FRNames⟩), (120, ⟨[], FRPut⟩)]) ⟨fcRNames, fcRPut, trivial⟩ (by kernel_rfl) (X := Nat × List ByteArray)
    (fun x => ⟨[(7, vx (.int .i64 x.1)), (5, .va (.c (.d (lst x.2)))), (6, .va (.c (.d (lst NM))))], [], 2, 25⟩)
    (fun x => NM.length - x.1) (fun x => x.1 <= NM.length /\ x.2 = btP NL NM x.1) [] []
    (fun x _ _ => (x.1 + 1, putS x.2 (atS NM x.1))) (fun _ => [0, 1]) [0, 1] 0 0 (0, NL) ?_ ?_ ?_
   . exact ⟨Nat.zero_le _, rfl⟩
   . repeat' (first | exact trivial | exact rfl | (intro _ h; exact absurd h (Nat.not_lt_zero _)) | (intro _ _; exact rfl) | refine ⟨?_, ?_⟩ | fail)
   . rintro ⟨i, l⟩ ⟨k1, k2⟩
     dsimp only at k1 k2
     have k3 := btP_len NL NM i
     rw [<- k2] at k3
     rcases Nat.lt_or_ge i NM.length with hi | hi
     . have hne : decide ((i : Int) < (NM.length : Int)) = true := decide_eq_true (by omega)
       have k5 := btP_succ (s := NL) hi
       rw [<- k2] at k5
       repeat' (first | exact trivial | (with_reducible exact (fun h => absurd (hne.symm.trans h) (by decide))) | refine ⟨?_, ?_⟩ | intro _)
       all_goals first | (with_reducible first | apply qa | apply qb | apply qc | apply qd) | (conv => whnf)
       all_goals (try simp only [Int.toNat_natCast, Nat.zero_add, gN_lst] at *)
       all_goals first | omega | rfl | ((with_reducible show idsOk _ _ = true); rfl) | exact k5.symm | (exact congrArg (Value.int .i64) (by first | (rw [wI_id _ (by omega) (by omega)]; omega) | omega | (dsimp only; omega)))
     . have hne : decide ((i : Int) < (NM.length : Int)) = false := decide_eq_false (by omega)
       obtain rfl : i = NM.length := by omega
       subst k2
       repeat' (first | exact trivial | (with_reducible exact (fun h => absurd (hne.symm.trans h) (by decide))) | refine ⟨?_, ?_⟩ | intro _)
       all_goals first | (with_reducible first | apply qa | apply qb | apply qc | apply qd) | (conv => whnf)
       all_goals (try rw [hset])
       all_goals first | rfl
 . cases h
theorem rget_mem (e : En) (s : ByteArray) : (∃ y ∈ e.binds, (En.rget e s).t.names.length <= y.v.t.names.length) \/ En.rget e s = Vl.zero := by
 rw [rget_lk]
 cases hh : e.hold s with
 | none => exact .inr rfl
 | some v =>
   left
   unfold En.hold at hh
   split at hh
   . refine ⟨⟨s, v⟩, lk_mem hh, ?_⟩
     show (Vl.rclean v).t.names.length <= v.t.names.length
     rw [<- of_rclean, of_names]; exact ofS_len _
   . cases hh
theorem rget_qj {a b : En} (h : Room a.binds b.binds) (s : ByteArray) : QJ (En.rget a s) (En.rget b s) := by
 unfold QJ
 rcases rget_mem a s with ⟨x, hx, e1⟩ | e1
 . rcases rget_mem b s with ⟨y, hy, e2⟩ | e2
   . have := h.both x hx y hy; unfold QJ at this; omega
   . have := h.left x hx; unfold QJ at this; rw [e2]; omega
 . rcases rget_mem b s with ⟨y, hy, e2⟩ | e2
   . have := h.right y hy; unfold QJ at this; rw [e1]; omega
   . rw [e1, e2]; decide
theorem okV_rj {x y : Vl} (hx : okV x) (hy : okV y) (hq : QJ x y) : okV (Vl.rjoin x y) := by
 have h := hx; have h' := hy
 unfold okV at hx hy
 refine ⟨⟨?_, fun _ _ => rfl⟩, ?_⟩
 . show (Vl.rjoin x y).t.names.length * 16 <= 140737488351232
   unfold Vl.rjoin
   have h1 : (cleanS (cleanS x.t.names ++ cleanS y.t.names)).length <= x.t.names.length + y.t.names.length := by
    have a1 := ofS_len (cleanS x.t.names ++ cleanS y.t.names)
    have a2 := ofS_len x.t.names
    have a3 := ofS_len y.t.names
    rw [ofS_eq] at a1 a2 a3
    rw [List.length_append] at a1; omega
   unfold QJ at hq
   dsimp only; omega
 . rw [<- Vl.join_eq]
   have hxi := Vl.of_inR (v := x) ⟨hx.2.1, hx.2.2⟩
   have hyi := Vl.of_inR (v := y) ⟨hy.2.1, hy.2.2⟩
   exact ⟨Sp.join_inR hxi.1 hyi.1, Cg.join_inR hxi.2 hyi.2⟩
theorem okV_rw {x y : Vl} {l : List Int} (hx : okV x) (hy : okV y) (hq : QJ x y) (hl : ∀ z, z ∈ l -> rI z) : okV (Vl.rwiden x y l) := by
 have hj := okV_rj hx hy hq
 unfold okV at hx hy hj
 have hxi := Vl.of_inR (v := x) ⟨hx.2.1, hx.2.2⟩
 have hyi := Vl.of_inR (v := y) ⟨hy.2.1, hy.2.2⟩
 rw [<- widen_eq]
 rw [<- Vl.join_eq] at hj
 exact ⟨⟨hj.1.1, fun _ _ => rfl⟩, Sp.widen_inR hxi.1 hyi.1 hl, Cg.join_inR hxi.2 hyi.2⟩
theorem okV_rn {x y : Vl} (hx : okV x) (hy : okV y) : okV (Vl.rnarrow x y) := by
 have h := okV_of hx
 unfold okV at hx hy h
 have hxi := Vl.of_inR (v := x) ⟨hx.2.1, hx.2.2⟩
 have hyi := Vl.of_inR (v := y) ⟨hy.2.1, hy.2.2⟩
 rw [<- narrow_eq, Vl.narrow_cases]
 split
 . exact okV_of (by unfold okV; exact hx)
 . split
   . exact okV_zero
   . refine ⟨⟨h.1.1, fun _ _ => rfl⟩, ?_⟩
     refine Ig.clean_inR (Sp.narrow_inR hxi.1 hyi.1) ?_
     split
     . exact hyi.2
     . exact hxi.2
theorem vop_join {op : Int} {l : List Int} {x y : Vl} (h1 : (op == 1) = false) (h2 : (op == 2) = false) : En.vop op l x y = Vl.rjoin x y := by
 unfold En.vop; rw [if_neg (by simpa using h2), if_neg (by simpa using h1)]
theorem vop_widen {op : Int} {l : List Int} {x y : Vl} (h1 : (op == 1) = true) (h2 : (op == 2) = false) : En.vop op l x y = Vl.rwiden x y l := by
 unfold En.vop; rw [if_neg (by simpa using h2), if_pos (by simpa using h1)]
theorem vop_narrow {op : Int} {l : List Int} {x y : Vl} (h2 : (op == 2) = true) : En.vop op l x y = Vl.rnarrow x y := by
 unfold En.vop; rw [if_pos (by simpa using h2)]
theorem rop_loop {op : Int} {a b : En} {l : List Int} (ha : a.live = true) (hb : b.live = true) (h : (op == 2) = true -> En.rleq b a = true) : En.rop op a b l = ⟨true, (En.bothS a b).map fun n => ⟨n, En.vop op l (a.rget n) (b.rget n)⟩⟩ := by
 unfold En.rop
 rw [if_pos ha, if_pos hb]
 split
 . rename_i h2; rw [if_pos (h (by simpa using h2))]
 . rfl
theorem row_gen {L : List Bd} {BL : List Bd} {i k : Nat} {g : Nat -> List DV} (hg : g 0 = bdC (atB BL i)) (hk : k < i + 1) : appRow i (rwB BL) g k = rwB BL k := by
 unfold appRow
 split
 . rfl
 . rw [show k = i by omega, Nat.sub_self, hg]
def FROp : List Ar -> Option Rs
 | [.c (.d (.v (.int .i64 i0))), .agg [.d (.v (.bool e1)), .d (.lst 9 n1 f1)], .agg [.d (.v (.bool e2)), .d (.lst 9 n2 f2)], .c (.d (.lst 1 n3 f3))] => some ⟨(-9223372036854775808 <= i0 /\ i0 < 9223372036854775808) /\ (n1 <= 1099511627776 /\ RowsOk n1 f1) /\ (n2 <= 1099511627776 /\ RowsOk n2 f2) /\ (n3 <= 9223372036854775807 /\ ∀ i, i < n3 -> f3 i = [it (gI (f3 i))] /\ rI (gI (f3 i))) /\ (Room (gBs n1 f1) (gBs n2 f2) /\ n1 + n2 <= 1099511627776), .va (En.ar (En.rop i0 (⟨e1, gBs n1 f1⟩ : En) (⟨e2, gBs n2 f2⟩ : En) (gL n3 f3))), []⟩
 | _ => none
abbrev sl6M : List (Nat × Sm) := [(20, ⟨[], FREClean⟩), (42, ⟨[], FRELeq⟩), (96, ⟨[], FRBoth⟩), (25, ⟨[], FRGet⟩), (97, ⟨[], FRVJoin⟩), (98, ⟨[], FRVWiden⟩), (99, ⟨[], FRVNarrow⟩)]
theorem sp6M : sumsOk Tryz.prog sl6M := ⟨fcREClean, fcRELeq, fcRBoth, fcRGet, fcRVJoin, fcRVWiden, fcRVNarrow, trivial⟩
theorem fcROp : FC Tryz.prog 45 FROp := by
 intro xs pre r us h hp
 unfold FROp at h
 split at h
 . rename_i i0 e1 n1 f1 e2 n2 f2 n3 f3
   cases h
   obtain ⟨hp0, hp1, hp2, hp3, hp4⟩ := hp
   refine FCat.deep (ys := [.c (.d (.v (.int .i64 i0))), .agg [.d (.v (.bool e1)), .d (.lst 9 n1 (rwB (gBs n1 f1)))], .agg [.d (.v (.bool e2)), .d (.lst 9 n2 (rwB (gBs n2 f2)))], .c (.d (.lst 1 n3 fun i => [it (gI (f3 i))]))]) ?_ ?_
   . repeat' (first | exact trivial | exact rfl | exact DvE.refl _ | refine ⟨?_, ?_⟩ | fail)
     all_goals first | first | exact canonB hp1.2.h | exact canonB hp2.2.h | (exact .rows fun i hi => by rw [(hp3.2 i hi).1]; exact ⟨rfl, fun j a b ha hb => by have hb : [it (gI (f3 i))][j]? = some b := hb; rw [ha] at hb; cases hb; exact .refl _⟩)
   refine fcat tys_ok (l := sl6M) sp6M Tryz.func45 rfl (by kernel_rfl) true ?_
   obtain ⟨hroom, hsum⟩ := hp4
   have hn := hp1.1
   have hL := okL_rows hp1.2
   have hlen := gBs_length n1 f1
   generalize gBs n1 f1 = L at *
   clear hp1
   subst hlen
   have hrow := okL_row hL
   have hb := gBs_row L
   have hm := hp2.1
   have hM := okL_rows hp2.2
   have hlen1 := gBs_length n2 f2
   generalize gBs n2 f2 = M at *
   clear hp2
   subst hlen1
   have hrow1 := okL_row hM
   have hb1 := gBs_row M
   cases e1 with
   | false =>
     have hset : En.rop i0 ⟨false, L⟩ ⟨e2, M⟩ (gL n3 f3) = En.rclean ⟨e2, M⟩ := by
      unfold En.rop
      rw [if_neg Bool.false_ne_true]
     generalize En.rop i0 ⟨false, L⟩ ⟨e2, M⟩ (gL n3 f3) = R at *
     subst hset
     repeat' (first | exact trivial | (with_reducible first | exact (fun h => absurd (h : (!true) = true) (by decide)) | exact (fun h => absurd (h : (!false) = false) (by decide))) | refine ⟨?_, ?_⟩ | intro _)
     all_goals first | (with_reducible first | apply qa | apply qb | apply qc | apply qd) | (conv => whnf)
     all_goals (try simp only [gBs_row] at *)
     all_goals first | exact hn | exact hrow | exact hm | exact hrow1 | exact ⟨hn, hrow⟩ | exact ⟨hm, hrow1⟩ | rfl
   | true =>
     cases h2 : (i0 == 2) with
     | true =>
       cases e2 with
       | false =>
         have hset : En.rop i0 ⟨true, L⟩ ⟨false, M⟩ (gL n3 f3) = ⟨false, []⟩ := by
          unfold En.rop
          rw [if_pos rfl, if_neg Bool.false_ne_true, if_pos (by simpa using h2)]
         generalize En.rop i0 ⟨true, L⟩ ⟨false, M⟩ (gL n3 f3) = R at *
         subst hset
         repeat' (first | exact trivial | (with_reducible first | exact (fun h => absurd (h2.symm.trans h) (by decide)) | exact (fun h => absurd (h : (!true) = true) (by decide)) | exact (fun h => absurd (h : (!false) = false) (by decide))) | refine ⟨?_, ?_⟩ | intro _)
         all_goals first | (with_reducible first | apply qa | apply qb | apply qc | apply qd) | (conv => whnf)
         all_goals (try simp only [gBs_row] at *)
         all_goals first | exact hn | exact hrow | exact hm | exact hrow1 | exact ⟨hn, hrow⟩ | exact ⟨hm, hrow1⟩ | rfl
       | true =>
         cases hq : En.rleq ⟨true, M⟩ ⟨true, L⟩ with
         | false =>
           have hq' : (!En.rleq ⟨true, gBs M.length (rwB M)⟩ ⟨true, gBs L.length (rwB L)⟩) = true := by rw [gBs_row, gBs_row, hq]; rfl
           have hset : En.rop i0 ⟨true, L⟩ ⟨true, M⟩ (gL n3 f3) = En.rclean ⟨true, L⟩ := by
            unfold En.rop
            rw [if_pos rfl, if_pos rfl, if_pos (by simpa using h2), hq, if_neg Bool.false_ne_true]
           generalize En.rop i0 ⟨true, L⟩ ⟨true, M⟩ (gL n3 f3) = R at *
           subst hset
           repeat' (first | exact trivial | (with_reducible first | exact (fun h => absurd (h2.symm.trans h) (by decide)) | exact (fun h => absurd (hq'.symm.trans h) (by decide)) | exact (fun h => absurd (h : (!true) = true) (by decide)) | exact (fun h => absurd (h : (!false) = false) (by decide))) | refine ⟨?_, ?_⟩ | intro _)
           all_goals first | (with_reducible first | apply qa | apply qb | apply qc | apply qd) | (conv => whnf)
           all_goals (try simp only [gBs_row] at *)
           all_goals first | exact hn | exact hrow | exact hm | exact hrow1 | exact ⟨hn, hrow⟩ | exact ⟨hm, hrow1⟩ | rfl
         | true =>
           have hq' : (!En.rleq ⟨true, gBs M.length (rwB M)⟩ ⟨true, gBs L.length (rwB L)⟩) = false := by rw [gBs_row, gBs_row, hq]; rfl
           repeat' (first | exact trivial | (with_reducible first | exact (fun h => absurd (h2.symm.trans h) (by decide)) | exact (fun h => absurd (hq'.symm.trans h) (by decide)) | exact (fun h => absurd (h : (!true) = true) (by decide)) | exact (fun h => absurd (h : (!false) = false) (by decide))) | refine ⟨?_, ?_⟩ | intro _)
           all_goals first | (with_reducible first | apply qa | apply qb | apply qc | apply qd) | (conv => whnf)
           all_goals (try simp only [gBs_row] at *)
           all_goals first | exact hn | exact hrow | exact hm | exact hrow1 | exact ⟨hn, hrow⟩ | exact ⟨hm, hrow1⟩ | exact hsum | skip
           have hbl := both_len ⟨true, L⟩ ⟨true, M⟩
           have hrl := rop_loop (op := i0) (a := ⟨true, L⟩) (b := ⟨true, M⟩) (l := gL n3 f3) rfl rfl (fun _ => hq)
           generalize En.rop i0 ⟨true, L⟩ ⟨true, M⟩ (gL n3 f3) = R at *
           subst hrl
           generalize hNL : En.bothS ⟨true, L⟩ ⟨true, M⟩ = NL at *
           generalize hBL : (NL.map fun n => (⟨n, En.vop i0 (gL n3 f3) (En.rget ⟨true, L⟩ n) (En.rget ⟨true, M⟩ n)⟩ : Bd)) = BL at *
           have hBl : BL.length = NL.length := by rw [<- hBL, List.length_map]
           have hBa : ∀ i, i < NL.length -> atB BL i = ⟨atS NL i, En.vop i0 (gL n3 f3) (En.rget ⟨true, L⟩ (atS NL i)) (En.rget ⟨true, M⟩ (atS NL i))⟩ := by
            intro i hi
            rw [<- hBL]
            unfold atB atS
            simp [List.getD_eq_getElem?_getD, hi]
           refine loop_ids tys_ok (l := sl6M) sp6M (by kernel_rfl) (X := Nat)
            (fun x => ⟨[(11, vx (.int .i64 x)), (10, .va (.c (.d (lst NL)))), (0, vx (.int .i64 i0)), (3, .va (.c (.d (.lst 1 n3 fun i => [it (gI (f3 i))])))), (5, .va (.c (.own 0 0))), (6, .va (.c (.own 1 0))), (8, .va (.c (.own 2 0))), (9, .va (.c (.own 3 0)))], [(0, .cells [.d (bo true), .d (.lst 9 L.length (rwB L))]), (1, .cells [.d (bo true), .d (.lst 9 M.length (rwB M))]), (2, .cells [.d (bo false), .d (.v (.slice none 0 0))]), (3, .cells [.d (bo true), .osl 4 9 0 x]), (4, .row 9 x (rwB BL))], 5, 91⟩)
            (fun x => NL.length - x) (fun x => x <= NL.length) [88] []
            (fun x _ _ => x + 1) (fun xs => match xs with | [t] => [0, 1, 2, 3, oI t] | _ => []) [0, 1, 2, 3] 0 1 0 ?_ ?_ ?_
           . exact Nat.zero_le _
           . repeat' (first | exact trivial | exact rfl | (intro _ h; exact absurd h (Nat.not_lt_zero _)) | (intro _ _; exact rfl) | refine ⟨?_, ?_⟩ | fail)
             all_goals first | (simp; done)
           . rintro i k1
             rcases Nat.lt_or_ge i NL.length with hi | hi
             . have hne : decide ((i : Int) < (NL.length : Int)) = true := decide_eq_true (by omega)
               have ho1 := rget_ok (e := ⟨true, L⟩) hL (atS NL i)
               have ho2 := rget_ok (e := ⟨true, M⟩) hM (atS NL i)
               have hq := ho1.2
               have hq2 := ho2.2
               have hqj := rget_qj (a := ⟨true, L⟩) (b := ⟨true, M⟩) hroom (atS NL i)
               have hrow2 := @row_gen L BL i
               rw [hBa i hi, vop_narrow h2] at hrow2
               simp only [Sp.inR, Cg.inR] at hq hq2
               have hres := okV_rn ho1 ho2
               unfold okV at ho1 ho2
               repeat' (first | exact trivial | (with_reducible first | exact (fun h => absurd (hne.symm.trans h) (by decide)) | exact (fun h => absurd (h2.symm.trans h) (by decide)) | exact (fun h => absurd (hq'.symm.trans h) (by decide))) | refine ⟨?_, ?_⟩ | intro _)
               all_goals first | (with_reducible first | apply qa | apply qb | apply qc | apply qd) | (conv => whnf)
               all_goals (try simp only [Int.toNat_natCast, Nat.zero_add, gN_lst, hb, hb1, gBs_row] at *)
               all_goals first | omega | rfl | exact hn | exact hm | exact hrow | exact hrow1 | ((with_reducible show idsOk _ _ = true); rfl) | exact ho1.1.1 | exact ho2.1.1 | (exact congrArg (Value.int .i64) (by first | (rw [wI_id _ (by omega) (by omega)]; omega) | omega | (dsimp only; omega))) | exact hp3.2 | exact hp3.1 | exact (hp3.2 _ ‹_ < n3›).2.1 | exact (hp3.2 _ ‹_ < n3›).2.2 | exact hqj | exact hrow2 rfl ‹_›
             . have hne : decide ((i : Int) < (NL.length : Int)) = false := decide_eq_false (by omega)
               obtain rfl : i = NL.length := by omega
               repeat' (first | exact trivial | (with_reducible exact (fun h => absurd (hne.symm.trans h) (by decide))) | refine ⟨?_, ?_⟩ | intro _)
               all_goals first | (with_reducible first | apply qa | apply qb | apply qc | apply qd) | (conv => whnf)
               all_goals first | rfl | omega | exact hBl.symm | (rename_i k _; show rwB BL (0 + k) = rwB BL k; rw [Nat.zero_add])
     | false =>
       cases e2 with
       | false =>
         have hset : En.rop i0 ⟨true, L⟩ ⟨false, M⟩ (gL n3 f3) = En.rclean ⟨true, L⟩ := by
          unfold En.rop
          rw [if_pos rfl, if_neg Bool.false_ne_true, if_neg (by simpa using h2)]
         generalize En.rop i0 ⟨true, L⟩ ⟨false, M⟩ (gL n3 f3) = R at *
         subst hset
         repeat' (first | exact trivial | (with_reducible first | exact (fun h => absurd (h2.symm.trans h) (by decide)) | exact (fun h => absurd (h : (!true) = true) (by decide)) | exact (fun h => absurd (h : (!false) = false) (by decide))) | refine ⟨?_, ?_⟩ | intro _)
         all_goals first | (with_reducible first | apply qa | apply qb | apply qc | apply qd) | (conv => whnf)
         all_goals (try simp only [gBs_row] at *)
         all_goals first | exact hn | exact hrow | exact hm | exact hrow1 | exact ⟨hn, hrow⟩ | exact ⟨hm, hrow1⟩ | rfl
       | true =>
         cases h1 : (i0 == 1) with
         | true =>
           repeat' (first | exact trivial | (with_reducible first | exact (fun h => absurd (h1.symm.trans h) (by decide)) | exact (fun h => absurd (h2.symm.trans h) (by decide)) | exact (fun h => absurd (h : (!true) = true) (by decide)) | exact (fun h => absurd (h : (!false) = false) (by decide))) | refine ⟨?_, ?_⟩ | intro _)
           all_goals first | (with_reducible first | apply qa | apply qb | apply qc | apply qd) | (conv => whnf)
           all_goals (try simp only [gBs_row] at *)
           all_goals first | exact hn | exact hrow | exact hm | exact hrow1 | exact ⟨hn, hrow⟩ | exact ⟨hm, hrow1⟩ | exact hsum | skip
           have hbl := both_len ⟨true, L⟩ ⟨true, M⟩
           have hrl := rop_loop (op := i0) (a := ⟨true, L⟩) (b := ⟨true, M⟩) (l := gL n3 f3) rfl rfl (fun h => absurd (h2.symm.trans h) (by decide))
           generalize En.rop i0 ⟨true, L⟩ ⟨true, M⟩ (gL n3 f3) = R at *
           subst hrl
           generalize hNL : En.bothS ⟨true, L⟩ ⟨true, M⟩ = NL at *
           generalize hBL : (NL.map fun n => (⟨n, En.vop i0 (gL n3 f3) (En.rget ⟨true, L⟩ n) (En.rget ⟨true, M⟩ n)⟩ : Bd)) = BL at *
           have hBl : BL.length = NL.length := by rw [<- hBL, List.length_map]
           have hBa : ∀ i, i < NL.length -> atB BL i = ⟨atS NL i, En.vop i0 (gL n3 f3) (En.rget ⟨true, L⟩ (atS NL i)) (En.rget ⟨true, M⟩ (atS NL i))⟩ := by
            intro i hi
            rw [<- hBL]
            unfold atB atS
            simp [List.getD_eq_getElem?_getD, hi]
           refine loop_ids tys_ok (l := sl6M) sp6M (by kernel_rfl) (X := Nat)
            (fun x => ⟨[(11, vx (.int .i64 x)), (10, .va (.c (.d (lst NL)))), (0, vx (.int .i64 i0)), (3, .va (.c (.d (.lst 1 n3 fun i => [it (gI (f3 i))])))), (5, .va (.c (.own 0 0))), (6, .va (.c (.own 1 0))), (8, .va (.c (.own 2 0))), (9, .va (.c (.own 3 0)))], [(0, .cells [.d (bo true), .d (.lst 9 L.length (rwB L))]), (1, .cells [.d (bo true), .d (.lst 9 M.length (rwB M))]), (2, .cells [.d (bo false), .d (.v (.slice none 0 0))]), (3, .cells [.d (bo true), .osl 4 9 0 x]), (4, .row 9 x (rwB BL))], 5, 91⟩)
            (fun x => NL.length - x) (fun x => x <= NL.length) [88] []
            (fun x _ _ => x + 1) (fun xs => match xs with | [t] => [0, 1, 2, 3, oI t] | _ => []) [0, 1, 2, 3] 0 1 0 ?_ ?_ ?_
           . exact Nat.zero_le _
           . repeat' (first | exact trivial | exact rfl | (intro _ h; exact absurd h (Nat.not_lt_zero _)) | (intro _ _; exact rfl) | refine ⟨?_, ?_⟩ | fail)
             all_goals first | (simp; done)
           . rintro i k1
             rcases Nat.lt_or_ge i NL.length with hi | hi
             . have hne : decide ((i : Int) < (NL.length : Int)) = true := decide_eq_true (by omega)
               have ho1 := rget_ok (e := ⟨true, L⟩) hL (atS NL i)
               have ho2 := rget_ok (e := ⟨true, M⟩) hM (atS NL i)
               have hq := ho1.2
               have hq2 := ho2.2
               have hqj := rget_qj (a := ⟨true, L⟩) (b := ⟨true, M⟩) hroom (atS NL i)
               have hrow2 := @row_gen L BL i
               rw [hBa i hi, vop_widen h1 h2] at hrow2
               simp only [Sp.inR, Cg.inR] at hq hq2
               have hres := okV_rw (l := gL n3 f3) ho1 ho2 hqj (fun z hz => gL_r hp3.2 z hz)
               unfold okV at ho1 ho2
               repeat' (first | exact trivial | (with_reducible first | exact (fun h => absurd (hne.symm.trans h) (by decide)) | exact (fun h => absurd (h1.symm.trans h) (by decide)) | exact (fun h => absurd (h2.symm.trans h) (by decide))) | refine ⟨?_, ?_⟩ | intro _)
               all_goals first | (with_reducible first | apply qa | apply qb | apply qc | apply qd) | (conv => whnf)
               all_goals (try simp only [Int.toNat_natCast, Nat.zero_add, gN_lst, hb, hb1, gBs_row] at *)
               all_goals first | omega | rfl | exact hn | exact hm | exact hrow | exact hrow1 | ((with_reducible show idsOk _ _ = true); rfl) | exact ho1.1.1 | exact ho2.1.1 | (exact congrArg (Value.int .i64) (by first | (rw [wI_id _ (by omega) (by omega)]; omega) | omega | (dsimp only; omega))) | exact hp3.2 | exact hp3.1 | exact (hp3.2 _ ‹_ < n3›).2.1 | exact (hp3.2 _ ‹_ < n3›).2.2 | exact hqj | exact hrow2 rfl ‹_›
             . have hne : decide ((i : Int) < (NL.length : Int)) = false := decide_eq_false (by omega)
               obtain rfl : i = NL.length := by omega
               repeat' (first | exact trivial | (with_reducible exact (fun h => absurd (hne.symm.trans h) (by decide))) | refine ⟨?_, ?_⟩ | intro _)
               all_goals first | (with_reducible first | apply qa | apply qb | apply qc | apply qd) | (conv => whnf)
               all_goals first | rfl | omega | exact hBl.symm | (rename_i k _; show rwB BL (0 + k) = rwB BL k; rw [Nat.zero_add])
         | false =>
           repeat' (first | exact trivial | (with_reducible first | exact (fun h => absurd (h1.symm.trans h) (by decide)) | exact (fun h => absurd (h2.symm.trans h) (by decide)) | exact (fun h => absurd (h : (!true) = true) (by decide)) | exact (fun h => absurd (h : (!false) = false) (by decide))) | refine ⟨?_, ?_⟩ | intro _)
           all_goals first | (with_reducible first | apply qa | apply qb | apply qc | apply qd) | (conv => whnf)
           all_goals (try simp only [gBs_row] at *)
           all_goals first | exact hn | exact hrow | exact hm | exact hrow1 | exact ⟨hn, hrow⟩ | exact ⟨hm, hrow1⟩ | exact hsum | skip
           have hbl := both_len ⟨true, L⟩ ⟨true, M⟩
           have hrl := rop_loop (op := i0) (a := ⟨true, L⟩) (b := ⟨true, M⟩) (l := gL n3 f3) rfl rfl (fun h => absurd (h2.symm.trans h) (by decide))
           generalize En.rop i0 ⟨true, L⟩ ⟨true, M⟩ (gL n3 f3) = R at *
           subst hrl
           generalize hNL : En.bothS ⟨true, L⟩ ⟨true, M⟩ = NL at *
           generalize hBL : (NL.map fun n => (⟨n, En.vop i0 (gL n3 f3) (En.rget ⟨true, L⟩ n) (En.rget ⟨true, M⟩ n)⟩ : Bd)) = BL at *
           have hBl : BL.length = NL.length := by rw [<- hBL, List.length_map]
           have hBa : ∀ i, i < NL.length -> atB BL i = ⟨atS NL i, En.vop i0 (gL n3 f3) (En.rget ⟨true, L⟩ (atS NL i)) (En.rget ⟨true, M⟩ (atS NL i))⟩ := by
            intro i hi
            rw [<- hBL]
            unfold atB atS
            simp [List.getD_eq_getElem?_getD, hi]
           refine loop_ids tys_ok (l := sl6M) sp6M (by kernel_rfl) (X := Nat)
            (fun x => ⟨[(11, vx (.int .i64 x)), (10, .va (.c (.d (lst NL)))), (0, vx (.int .i64 i0)), (3, .va (.c (.d (.lst 1 n3 fun i => [it (gI (f3 i))])))), (5, .va (.c (.own 0 0))), (6, .va (.c (.own 1 0))), (8, .va (.c (.own 2 0))), (9, .va (.c (.own 3 0)))], [(0, .cells [.d (bo true), .d (.lst 9 L.length (rwB L))]), (1, .cells [.d (bo true), .d (.lst 9 M.length (rwB M))]), (2, .cells [.d (bo false), .d (.v (.slice none 0 0))]), (3, .cells [.d (bo true), .osl 4 9 0 x]), (4, .row 9 x (rwB BL))], 5, 91⟩)
            (fun x => NL.length - x) (fun x => x <= NL.length) [88] []
            (fun x _ _ => x + 1) (fun xs => match xs with | [t] => [0, 1, 2, 3, oI t] | _ => []) [0, 1, 2, 3] 0 1 0 ?_ ?_ ?_
           . exact Nat.zero_le _
           . repeat' (first | exact trivial | exact rfl | (intro _ h; exact absurd h (Nat.not_lt_zero _)) | (intro _ _; exact rfl) | refine ⟨?_, ?_⟩ | fail)
             all_goals first | (simp; done)
           . rintro i k1
             rcases Nat.lt_or_ge i NL.length with hi | hi
             . have hne : decide ((i : Int) < (NL.length : Int)) = true := decide_eq_true (by omega)
               have ho1 := rget_ok (e := ⟨true, L⟩) hL (atS NL i)
               have ho2 := rget_ok (e := ⟨true, M⟩) hM (atS NL i)
               have hq := ho1.2
               have hq2 := ho2.2
               have hqj := rget_qj (a := ⟨true, L⟩) (b := ⟨true, M⟩) hroom (atS NL i)
               have hrow2 := @row_gen L BL i
               rw [hBa i hi, vop_join h1 h2] at hrow2
               simp only [Sp.inR, Cg.inR] at hq hq2
               have hres := okV_rj ho1 ho2 hqj
               unfold okV at ho1 ho2
               repeat' (first | exact trivial | (with_reducible first | exact (fun h => absurd (hne.symm.trans h) (by decide)) | exact (fun h => absurd (h1.symm.trans h) (by decide)) | exact (fun h => absurd (h2.symm.trans h) (by decide))) | refine ⟨?_, ?_⟩ | intro _)
               all_goals first | (with_reducible first | apply qa | apply qb | apply qc | apply qd) | (conv => whnf)
               all_goals (try simp only [Int.toNat_natCast, Nat.zero_add, gN_lst, hb, hb1, gBs_row] at *)
               all_goals first | omega | rfl | exact hn | exact hm | exact hrow | exact hrow1 | ((with_reducible show idsOk _ _ = true); rfl) | exact ho1.1.1 | exact ho2.1.1 | (exact congrArg (Value.int .i64) (by first | (rw [wI_id _ (by omega) (by omega)]; omega) | omega | (dsimp only; omega))) | exact hp3.2 | exact hp3.1 | exact (hp3.2 _ ‹_ < n3›).2.1 | exact (hp3.2 _ ‹_ < n3›).2.2 | exact hqj | exact hrow2 rfl ‹_›
             . have hne : decide ((i : Int) < (NL.length : Int)) = false := decide_eq_false (by omega)
               obtain rfl : i = NL.length := by omega
               repeat' (first | exact trivial | (with_reducible exact (fun h => absurd (hne.symm.trans h) (by decide))) | refine ⟨?_, ?_⟩ | intro _)
               all_goals first | (with_reducible first | apply qa | apply qb | apply qc | apply qd) | (conv => whnf)
               all_goals first | rfl | omega | exact hBl.symm | (rename_i k _; show rwB BL (0 + k) = rwB BL k; rw [Nat.zero_add])
 . cases h
def zipV (op : Vl -> Vl -> Vl) : Option Vl -> Option Vl -> Option Vl
 | none, none => none
 | some x, none => some (op x Vl.zero)
 | none, some y => some (op Vl.zero y)
 | some x, some y => some (op x y)
theorem lk_lt {x y : Bd} {r : List Bd} {s : ByteArray} (h : SS (y :: r)) (hxy : ltB x y = true) (e : x.name = s) : lk (y :: r) s = none := by
 subst e
 have hlt := ltB_iff.1 hxy
 refine lk_none fun b hb e => ?_
 rcases List.mem_cons.1 hb with rfl | hb
 . rw [e] at hlt; exact List.lt_irrefl _ hlt
 . have := List.lt_trans hlt ((List.pairwise_cons.1 h).1 b hb)
   rw [e] at this; exact List.lt_irrefl _ this
theorem lk_mrg {op : Vl -> Vl -> Vl} : ∀ {A B : List Bd}, SS A -> SS B -> ∀ s, lk (mrg op A B) s = zipV op (lk A s) (lk B s)
 | [], [], _, _, s => by rw [mrg]; rfl
 | [], y :: b, hA, hB, s => by
   rw [mrg, lk_cons, lk_cons, lk_nil, lk_mrg hA (List.pairwise_cons.1 hB).2]
   split
   . rfl
   . rw [lk_nil]
 | x :: a, [], hA, hB, s => by
   rw [mrg, lk_cons, lk_cons, lk_nil, lk_mrg (List.pairwise_cons.1 hA).2 hB]
   split
   . rfl
   . rw [lk_nil]
 | x :: a, y :: b, hA, hB, s => by
   have hA2 := (List.pairwise_cons.1 hA).2
   have hB2 := (List.pairwise_cons.1 hB).2
   rw [mrg]
   split
   . rename_i h1
     rw [lk_cons, lk_mrg hA2 hB, lk_cons x]
     by_cases e : x.name = s
     . rw [if_pos e, if_pos e, lk_lt hB h1 e]; rfl
     . rw [if_neg e, if_neg e]
   . split
     . rename_i h1 h2
       rw [lk_cons, lk_mrg hA hB2, lk_cons y]
       by_cases e : y.name = s
       . rw [if_pos e, if_pos e, lk_lt hA h2 e]; rfl
       . rw [if_neg e, if_neg e]
     . rename_i h1 h2
       have e0 := (cf_eq (by simpa using h1) (by simpa using h2)).2
       rw [lk_cons, lk_mrg hA2 hB2, lk_cons x, lk_cons y, <- e0]
       by_cases e : x.name = s
       . rw [if_pos e, if_pos e, if_pos e]; rfl
       . rw [if_neg e, if_neg e, if_neg e]
termination_by A B => A.length + B.length
theorem mrg_names {op : Vl -> Vl -> Vl} : ∀ {A B : List Bd} {b : Bd}, b ∈ mrg op A B -> (∃ x ∈ A, x.name = b.name) \/ ∃ y ∈ B, y.name = b.name
 | [], [], b, h => by rw [mrg] at h; cases h
 | [], y :: r, b, h => by
   rw [mrg] at h
   rcases List.mem_cons.1 h with rfl | h
   . exact .inr ⟨y, List.mem_cons_self, rfl⟩
   . rcases mrg_names h with h | ⟨z, hz, e⟩
     . exact .inl h
     . exact .inr ⟨z, List.mem_cons_of_mem _ hz, e⟩
 | x :: r, [], b, h => by
   rw [mrg] at h
   rcases List.mem_cons.1 h with rfl | h
   . exact .inl ⟨x, List.mem_cons_self, rfl⟩
   . rcases mrg_names h with ⟨z, hz, e⟩ | h
     . exact .inl ⟨z, List.mem_cons_of_mem _ hz, e⟩
     . exact .inr h
 | x :: r, y :: q, b, h => by
   rw [mrg] at h
   split at h
   . rcases List.mem_cons.1 h with rfl | h
     . exact .inl ⟨x, List.mem_cons_self, rfl⟩
     . rcases mrg_names h with ⟨z, hz, e⟩ | h
       . exact .inl ⟨z, List.mem_cons_of_mem _ hz, e⟩
       . exact .inr h
   . split at h
     . rcases List.mem_cons.1 h with rfl | h
       . exact .inr ⟨y, List.mem_cons_self, rfl⟩
       . rcases mrg_names h with h | ⟨z, hz, e⟩
         . exact .inl h
         . exact .inr ⟨z, List.mem_cons_of_mem _ hz, e⟩
     . rcases List.mem_cons.1 h with rfl | h
       . exact .inl ⟨x, List.mem_cons_self, rfl⟩
       . rcases mrg_names h with ⟨z, hz, e⟩ | ⟨z, hz, e⟩
         . exact .inl ⟨z, List.mem_cons_of_mem _ hz, e⟩
         . exact .inr ⟨z, List.mem_cons_of_mem _ hz, e⟩
termination_by A B => A.length + B.length
theorem ss_mrg {op : Vl -> Vl -> Vl} : ∀ {A B : List Bd}, SS A -> SS B -> SS (mrg op A B)
 | [], [], _, _ => by rw [mrg]; exact List.Pairwise.nil
 | [], y :: b, hA, hB => by
   have hB' := List.pairwise_cons.1 hB
   rw [mrg]
   refine List.pairwise_cons.2 ⟨fun z hz => ?_, ss_mrg hA hB'.2⟩
   rcases mrg_names hz with ⟨w, hw, _⟩ | ⟨w, hw, e⟩
   . cases hw
   . rw [<- e]; exact hB'.1 w hw
 | x :: a, [], hA, hB => by
   have hA' := List.pairwise_cons.1 hA
   rw [mrg]
   refine List.pairwise_cons.2 ⟨fun z hz => ?_, ss_mrg hA'.2 hB⟩
   rcases mrg_names hz with ⟨w, hw, e⟩ | ⟨w, hw, _⟩
   . rw [<- e]; exact hA'.1 w hw
   . cases hw
 | x :: a, y :: b, hA, hB => by
   have hA' := List.pairwise_cons.1 hA
   have hB' := List.pairwise_cons.1 hB
   rw [mrg]
   split
   . rename_i h1
     have h1 := ltB_iff.1 h1
     refine List.pairwise_cons.2 ⟨fun z hz => ?_, ss_mrg hA'.2 hB⟩
     rcases mrg_names hz with ⟨w, hw, e⟩ | ⟨w, hw, e⟩
     . rw [<- e]; exact hA'.1 w hw
     . rw [<- e]
       rcases List.mem_cons.1 hw with rfl | hw
       . exact h1
       . exact List.lt_trans h1 (hB'.1 w hw)
   . split
     . rename_i _ h1
       have h1 := ltB_iff.1 h1
       refine List.pairwise_cons.2 ⟨fun z hz => ?_, ss_mrg hA hB'.2⟩
       rcases mrg_names hz with ⟨w, hw, e⟩ | ⟨w, hw, e⟩
       . rw [<- e]
         rcases List.mem_cons.1 hw with rfl | hw
         . exact h1
         . exact List.lt_trans h1 (hA'.1 w hw)
       . rw [<- e]; exact hB'.1 w hw
     . rename_i h1 h2
       have e0 := (cf_eq (by simpa using h1) (by simpa using h2)).2
       refine List.pairwise_cons.2 ⟨fun z hz => ?_, ss_mrg hA'.2 hB'.2⟩
       rcases mrg_names hz with ⟨w, hw, e⟩ | ⟨w, hw, e⟩
       . rw [<- e]; exact hA'.1 w hw
       . rw [<- e]; show kS x.name < _; rw [e0]; exact hB'.1 w hw
termination_by A B => A.length + B.length
theorem mrg_len {op : Vl -> Vl -> Vl} : ∀ (A B : List Bd), (mrg op A B).length <= A.length + B.length
 | [], [] => by rw [mrg]; exact Nat.le_refl _
 | [], y :: b => by have := mrg_len (op := op) [] b; rw [mrg]; simp only [List.length_cons] at *; omega
 | x :: a, [] => by have := mrg_len (op := op) a []; rw [mrg]; simp only [List.length_cons] at *; omega
 | x :: a, y :: b => by
   rw [mrg]
   split
   . have := mrg_len (op := op) a (y :: b); simp only [List.length_cons] at *; omega
   . split
     . have := mrg_len (op := op) (x :: a) b; simp only [List.length_cons] at *; omega
     . have := mrg_len (op := op) a b; simp only [List.length_cons] at *; omega
termination_by A B => A.length + B.length
theorem both_facts (a b : En) : Srt (En.bothS a b) /\ ∀ z, z ∈ En.bothS a b ↔ z ∈ a.names \/ z ∈ b.names := cleanS_fold b.names a.names (names_srt a)
theorem get_rg (e : En) (s : ByteArray) : En.rget e s = En.get e s := (get_rget e s).symm
theorem get_tidy (e : En) (s : ByteArray) : (En.get e s).tidy := by
 rw [get_lk]
 cases e.hold s with
 | none => exact Vl.zero_tidy
 | some v => exact Vl.of_tidy v
theorem get_of (e : En) (s : ByteArray) : (En.get e s).of = En.get e s := Vl.of_fix (get_tidy e s)
theorem hold_clean (e : En) (s : ByteArray) : e.clean.hold s = (e.hold s).map Vl.of := by
 have h1 := clean_lk e s
 unfold En.hold
 rw [eclean_live]
 split
 . rename_i hl
   rw [h1]; unfold En.hold; rw [if_pos hl]
 . rfl
theorem get_clean (e : En) (s : ByteArray) : En.get e.clean s = En.get e s := by
 rw [get_lk, get_lk, hold_clean]
 cases e.hold s with
 | none => rfl
 | some v => show v.of.of = v.of; exact Vl.of_of v
structure En.tidy (e : En) : Prop where
 s : SS e.binds
 v : ∀ x ∈ e.binds, x.v.tidy
 dead : e.live = false -> e.binds = []
theorem clean_tidyE (e : En) : e.clean.tidy where
 s := clean_ss e
 v x hx := by
  unfold En.clean at hx
  split at hx
  . obtain ⟨b, _, rfl⟩ := List.mem_map.1 hx; exact Vl.of_tidy _
  . cases hx
 dead h := by
  unfold En.clean at h ⊢
  split
  . rename_i hl; rw [if_pos hl] at h; cases h
  . rfl
theorem hold_tidy {e : En} (h : e.tidy) {s : ByteArray} {v : Vl} (hv : e.hold s = some v) : v.of = v := by
 unfold En.hold at hv
 split at hv
 . exact Vl.of_fix (h.v _ (lk_mem hv))
 . cases hv
theorem clean_fixE {e : En} (h : e.tidy) : e.clean = e := by
 refine en_ext (eclean_live e) (clean_ss e) h.s fun s => ?_
 rw [clean_lk]
 cases hh : e.hold s with
 | none =>
   unfold En.hold at hh
   split at hh
   . rw [hh]; rfl
   . rename_i hl
     rw [h.dead (by simpa using hl)]; rfl
 | some v =>
   have := hold_tidy h hh
   show some v.of = _
   rw [this]
   unfold En.hold at hh
   split at hh
   . exact hh.symm
   . cases hh
def En.zipE (op : Vl -> Vl -> Vl) (a b : En) : En := ⟨true, mrg op a.clean.binds b.clean.binds⟩
structure OpOk (op : Vl -> Vl -> Vl) : Prop where
 tidy : ∀ x y, x.tidy -> y.tidy -> (op x y).tidy
 zero : op Vl.zero Vl.zero = Vl.zero
theorem zip_lk {op : Vl -> Vl -> Vl} (a b : En) (s : ByteArray) : lk (En.zipE op a b).binds s = zipV op ((a.hold s).map Vl.of) ((b.hold s).map Vl.of) := by
 show lk (mrg op a.clean.binds b.clean.binds) s = _
 rw [lk_mrg (clean_ss a) (clean_ss b), clean_lk, clean_lk]
theorem zip_val {op : Vl -> Vl -> Vl} (h : OpOk op) (a b : En) (x : Bd) (hx : x ∈ (En.zipE op a b).binds) : x.v.tidy := by
 have hs : SS (En.zipE op a b).binds := ss_mrg (clean_ss a) (clean_ss b)
 have := lk_of_mem hs hx
 rw [zip_lk] at this
 cases h1 : (a.hold x.name).map Vl.of with
 | none =>
   rw [h1] at this
   cases h2 : (b.hold x.name).map Vl.of with
   | none => rw [h2] at this; cases this
   | some w =>
     rw [h2] at this
     obtain ⟨w', _, rfl⟩ := Option.map_eq_some_iff.1 h2
     have := Option.some.inj this
     rw [<- this]; exact h.tidy _ _ Vl.zero_tidy (Vl.of_tidy _)
 | some v =>
   rw [h1] at this
   obtain ⟨v', _, rfl⟩ := Option.map_eq_some_iff.1 h1
   cases h2 : (b.hold x.name).map Vl.of with
   | none =>
     rw [h2] at this
     have := Option.some.inj this
     rw [<- this]; exact h.tidy _ _ (Vl.of_tidy _) Vl.zero_tidy
   | some w =>
     rw [h2] at this
     obtain ⟨w', _, rfl⟩ := Option.map_eq_some_iff.1 h2
     have := Option.some.inj this
     rw [<- this]; exact h.tidy _ _ (Vl.of_tidy _) (Vl.of_tidy _)
theorem zip_tidy {op : Vl -> Vl -> Vl} (h : OpOk op) (a b : En) : (En.zipE op a b).tidy where
 s := ss_mrg (clean_ss a) (clean_ss b)
 v := zip_val h a b
 dead h := by cases h
theorem zip_ref {op rop : Vl -> Vl -> Vl} (h : ∀ x y, op x y = rop x y) (a b : En) : En.zipE op a b = ⟨true, (En.bothS a b).map fun n => ⟨n, rop (a.rget n) (b.rget n)⟩⟩ := by
 obtain ⟨h1, h2⟩ := both_facts a b
 refine en_ext rfl (ss_mrg (clean_ss a) (clean_ss b)) ?_ fun s => ?_
 . unfold SS
   show List.Pairwise _ (List.map _ _)
   rw [List.pairwise_map]
   exact h1
 . rw [zip_lk]
   show _ = lk ((En.bothS a b).map fun n => ⟨n, rop (a.rget n) (b.rget n)⟩) s
   rw [lk_fun (En.bothS a b) (fun n => rop (a.rget n) (b.rget n)) s, rget_lk, rget_lk, <- of_fun]
   have ha := mem_names (e := a) (s := s)
   have hb := mem_names (e := b) (s := s)
   have hm := h2 s
   cases hx : a.hold s with
   | none =>
     rw [hx] at ha
     cases hy : b.hold s with
     | none =>
       rw [hy] at hb
       rw [if_neg]
       . rfl
       . intro h3
         rcases hm.1 (memS_iff.1 h3) with h4 | h4
         . exact absurd (ha.1 h4) (by decide)
         . exact absurd (hb.1 h4) (by decide)
     | some w =>
       rw [hy] at hb
       rw [if_pos (memS_iff.2 (hm.2 (.inr (hb.2 rfl))))]
       exact congrArg some (h _ _)
   | some v =>
     rw [hx] at ha
     rw [if_pos (memS_iff.2 (hm.2 (.inl (ha.2 rfl))))]
     cases hy : b.hold s with
     | none => exact congrArg some (h _ _)
     | some w => exact congrArg some (h _ _)
theorem join_case (a b : En) : En.join a b = if a.live = true then (if b.live = true then En.zipE Vl.join a b else a.clean) else b.clean := by
 unfold En.join; rw [eclean_live, eclean_live]; rfl
theorem widen_case (a b : En) (l : List Int) : En.widen a b l = if a.live = true then (if b.live = true then En.zipE (fun x y => Vl.widen x y l) a b else a.clean) else b.clean := by
 unfold En.widen; rw [eclean_live, eclean_live]; rfl
theorem leq_rleq (a b : En) : En.leq a b = En.rleq a b := by
 unfold En.leq En.rleq
 rw [eclean_live, eclean_live]
 split
 . split
   . rename_i hb
     rw [hb, Bool.and_true, clean_rclean]
     show List.all (List.map _ _) _ = _
     rw [List.all_map]
     congr 1
     funext n
     show Vl.leq (a.rget n) (En.get b.clean n) = Vl.rleq (a.rget n) (b.rget n)
     rw [get_clean, leq_eq, get_rget]
     have e : ∀ e : En, (e.rget n).rclean = e.rget n := fun e => by rw [get_rg, <- of_fun, get_of]
     rw [e, e]
   . rename_i hb
     have hb : b.live = false := by simpa using hb
     rw [hb, Bool.and_false]
 . rfl
theorem narrow_case (a b : En) : En.narrow a b = if a.live = true then (if b.live = true then (if En.rleq b a = true then En.zipE Vl.narrow a b else a.clean) else ⟨false, []⟩) else b.clean := by
 unfold En.narrow; rw [eclean_live, eclean_live, leq_rleq]
 have e : En.rleq b.clean a.clean = En.rleq b a := by
  rw [<- leq_rleq, <- leq_rleq]
  unfold En.leq
  rw [clean_fixE (clean_tidyE b), clean_fixE (clean_tidyE a)]
 rw [e]; rfl
theorem join_rop (a b : En) (l : List Int) : En.join a b = En.rop 0 a b l := by
 rw [join_case]; unfold En.rop
 rw [clean_rclean, clean_rclean, if_neg (show ¬ (0 : Int) = 2 by decide), if_neg (show ¬ (0 : Int) = 2 by decide)]
 rw [zip_ref (rop := En.vop 0 l) (fun x y => by unfold En.vop; rw [if_neg (by decide), if_neg (by decide)]; exact Vl.join_eq x y)]
theorem widen_rop (a b : En) (l : List Int) : En.widen a b l = En.rop 1 a b l := by
 rw [widen_case]; unfold En.rop
 rw [clean_rclean, clean_rclean, if_neg (show ¬ (1 : Int) = 2 by decide), if_neg (show ¬ (1 : Int) = 2 by decide)]
 rw [zip_ref (rop := En.vop 1 l) (fun x y => by unfold En.vop; rw [if_neg (by decide), if_pos rfl]; exact widen_eq x y l)]
theorem narrow_rop (a b : En) (l : List Int) : En.narrow a b = En.rop 2 a b l := by
 rw [narrow_case]; unfold En.rop
 rw [clean_rclean, clean_rclean, if_pos (rfl : (2 : Int) = 2), if_pos (rfl : (2 : Int) = 2)]
 rw [zip_ref (rop := En.vop 2 l) (fun x y => by unfold En.vop; rw [if_pos rfl]; exact narrow_eq x y)]
theorem zero_join (x : Vl) (h : x.tidy) : Vl.join Vl.zero x = x /\ Vl.join x Vl.zero = x := by
 have key : Vl.join Vl.zero x = x := by
  unfold Vl.join
  rw [Vl.of_fix Vl.zero_tidy, Vl.of_fix h]
  have e1 : Vl.zero.i.c.join x.i.c = x.i.c := join_no1 rfl (tidy_c h.i)
  have e2 : Vl.zero.i.s.join x.i.s = x.i.s := by
   show x.i.s.clean = x.i.s
   rcases h.i with e | ⟨⟨a1, _⟩, a3, _⟩
   . rw [e]; rfl
   . unfold Sp.clean Sp.none; rw [a1, if_neg]; simp; omega
  have e3 : ofS (ofS Vl.zero.t.names ++ ofS x.t.names) = x.t.names := by
   show ofS (ofS [] ++ ofS x.t.names) = _
   rw [ofS_eq, ofS_eq, ofS_eq, cleanS_fix h.t]
   exact cleanS_fix h.t
  rw [e1, e2, e3]; rfl
 exact ⟨key, by rw [Vl.l3_comm]; exact key⟩
theorem zero_narrow : Vl.narrow Vl.zero Vl.zero = Vl.zero := by
 have h1 : Vl.none Vl.zero = true := by
  unfold Vl.none
  rw [Vl.of_fix Vl.zero_tidy, ofS_eq]; rfl
 rw [Vl.narrow_cases, Vl.l3_zero, h1]; rfl
theorem opJ : OpOk Vl.join := ⟨fun x y _ _ => Vl.jn_tidy x y, (zero_join _ Vl.zero_tidy).1⟩
theorem opN : OpOk Vl.narrow := ⟨fun x y _ _ => Vl.narrow_tidy x y, zero_narrow⟩
theorem join_tidyE (a b : En) : (En.join a b).tidy := by
 rw [join_case]
 split
 . split
   . exact zip_tidy opJ a b
   . exact clean_tidyE a
 . exact clean_tidyE b
def inRE (e : En) : Prop := ∀ x ∈ e.binds, x.v.inR
abbrev numV (n : Int) : Vl := ⟨⟨Sp.of n n, Cg.of 0 n⟩, ⟨false, gN 0 fun _ => []⟩⟩
theorem num_of_i (n : Int) : (numV n).of.i = ⟨⟨true, n, n⟩, ⟨true, 0, n⟩⟩ := by
 rw [of_rclean]
 show Ig.clean ⟨Sp.of n n, Cg.of 0 n⟩ = _
 rw [one_eq]
 exact tidy_fix (one_tidy n)
def JV : Vl := Vl.join (numV 1).of (numV 3).of
theorem jv_i : JV.i = ⟨⟨true, 1, 3⟩, ⟨true, 2, 1⟩⟩ := by
 unfold JV Vl.join
 rw [Vl.of_of, Vl.of_of, num_of_i, num_of_i]
 show (⟨Sp.join ⟨true, 1, 1⟩ ⟨true, 3, 3⟩, Cg.join ⟨true, 0, 1⟩ ⟨true, 0, 3⟩⟩ : Ig) = _
 have e1 : Sp.join ⟨true, 1, 1⟩ ⟨true, 3, 3⟩ = ⟨true, 1, 3⟩ := by kernel_rfl
 have e2 : Cg.join ⟨true, 0, 1⟩ ⟨true, 0, 3⟩ = ⟨true, 2, 1⟩ := by kernel_rfl
 rw [e1, e2]
theorem mrg_mem {op : Vl -> Vl -> Vl} : ∀ {A B : List Bd} {b : Bd}, b ∈ mrg op A B -> (∃ x ∈ A, b.v = op x.v Vl.zero) \/ (∃ y ∈ B, b.v = op Vl.zero y.v) \/ ∃ x ∈ A, ∃ y ∈ B, b.v = op x.v y.v
 | [], [], b, h => by rw [mrg] at h; cases h
 | [], y :: r, b, h => by
   rw [mrg] at h
   rcases List.mem_cons.1 h with rfl | h
   . exact .inr (.inl ⟨y, List.mem_cons_self, rfl⟩)
   . rcases mrg_mem h with ⟨x, hx, _⟩ | ⟨z, hz, e⟩ | ⟨x, hx, _⟩
     . cases hx
     . exact .inr (.inl ⟨z, List.mem_cons_of_mem _ hz, e⟩)
     . cases hx
 | x :: r, [], b, h => by
   rw [mrg] at h
   rcases List.mem_cons.1 h with rfl | h
   . exact .inl ⟨x, List.mem_cons_self, rfl⟩
   . rcases mrg_mem h with ⟨z, hz, e⟩ | ⟨z, hz, _⟩ | ⟨_, _, z, hz, _⟩
     . exact .inl ⟨z, List.mem_cons_of_mem _ hz, e⟩
     . cases hz
     . cases hz
 | x :: r, y :: q, b, h => by
   rw [mrg] at h
   split at h
   . rcases List.mem_cons.1 h with rfl | h
     . exact .inl ⟨x, List.mem_cons_self, rfl⟩
     . rcases mrg_mem h with ⟨z, hz, e⟩ | h | ⟨z, hz, w, hw, e⟩
       . exact .inl ⟨z, List.mem_cons_of_mem _ hz, e⟩
       . exact .inr (.inl h)
       . exact .inr (.inr ⟨z, List.mem_cons_of_mem _ hz, w, hw, e⟩)
   . split at h
     . rcases List.mem_cons.1 h with rfl | h
       . exact .inr (.inl ⟨y, List.mem_cons_self, rfl⟩)
       . rcases mrg_mem h with h | ⟨z, hz, e⟩ | ⟨z, hz, w, hw, e⟩
         . exact .inl h
         . exact .inr (.inl ⟨z, List.mem_cons_of_mem _ hz, e⟩)
         . exact .inr (.inr ⟨z, hz, w, List.mem_cons_of_mem _ hw, e⟩)
     . rcases List.mem_cons.1 h with rfl | h
       . exact .inr (.inr ⟨x, List.mem_cons_self, y, List.mem_cons_self, rfl⟩)
       . rcases mrg_mem h with ⟨z, hz, e⟩ | ⟨z, hz, e⟩ | ⟨z, hz, w, hw, e⟩
         . exact .inl ⟨z, List.mem_cons_of_mem _ hz, e⟩
         . exact .inr (.inl ⟨z, List.mem_cons_of_mem _ hz, e⟩)
         . exact .inr (.inr ⟨z, List.mem_cons_of_mem _ hz, w, List.mem_cons_of_mem _ hw, e⟩)
termination_by A B => A.length + B.length
theorem okL_mrg {op : Vl -> Vl -> Vl} {Q : Vl -> Vl -> Prop} {A B : List Bd} (hA : okL A) (hB : okL B) (hq : QOk Q A B) (h : ∀ x y, okV x -> okV y -> Q x y -> okV (op x y)) : okL (mrg op A B) := by
 intro b hb
 show okV b.v
 rcases mrg_mem hb with ⟨x, hx, e⟩ | ⟨y, hy, e⟩ | ⟨x, hx, y, hy, e⟩
 . rw [e]; exact h _ _ (hA x hx) okV_zero (hq.left x hx)
 . rw [e]; exact h _ _ okV_zero (hB y hy) (hq.right y hy)
 . rw [e]; exact h _ _ (hA x hx) (hB y hy) (hq.both x hx y hy)
theorem join_okL {a b : En} (ha : okL a.binds) (hb : okL b.binds) (hr : Room a.binds b.binds) : okL (En.join a b).binds := by
 unfold En.join
 split
 . split
   . exact okL_mrg (clean_ok ha) (clean_ok hb) (room_clean hr) fun x y hx hy hq => by rw [Vl.join_eq]; exact okV_rj hx hy hq
   . exact clean_ok ha
 . exact clean_ok hb
theorem widen_okL {a b : En} {l : List Int} (ha : okL a.binds) (hb : okL b.binds) (hr : Room a.binds b.binds) (hl : ∀ z, z ∈ l -> rI z) : okL (En.widen a b l).binds := by
 unfold En.widen
 split
 . split
   . exact okL_mrg (clean_ok ha) (clean_ok hb) (room_clean hr) fun x y hx hy hq => by rw [widen_eq]; exact okV_rw hx hy hq hl
   . exact clean_ok ha
 . exact clean_ok hb
theorem narrow_okL {a b : En} (ha : okL a.binds) (hb : okL b.binds) : okL (En.narrow a b).binds := by
 unfold En.narrow
 split
 . split
   . split
     . exact okL_mrg (Q := QT) (clean_ok ha) (clean_ok hb) (qt_ok _ _) fun x y hx hy _ => by rw [narrow_eq]; exact okV_rn hx hy
     . exact clean_ok ha
   . intro x hx; cases hx
 . exact clean_ok hb
theorem join_len (a b : En) : (En.join a b).binds.length <= a.binds.length + b.binds.length := by
 have h1 := clean_len a
 have h2 := clean_len b
 unfold En.join
 split
 . split
   . have := mrg_len (op := Vl.join) a.clean.binds b.clean.binds
     show (mrg _ _ _).length <= _; omega
   . omega
 . omega
theorem widen_len (a b : En) (l : List Int) : (En.widen a b l).binds.length <= a.binds.length + b.binds.length := by
 have h1 := clean_len a
 have h2 := clean_len b
 unfold En.widen
 split
 . split
   . have := mrg_len (op := fun x y => Vl.widen x y l) a.clean.binds b.clean.binds
     show (mrg _ _ _).length <= _; omega
   . omega
 . omega
theorem narrow_len (a b : En) : (En.narrow a b).binds.length <= a.binds.length + b.binds.length := by
 have h1 := clean_len a
 have h2 := clean_len b
 unfold En.narrow
 split
 . split
   . split
     . have := mrg_len (op := Vl.narrow) a.clean.binds b.clean.binds
       show (mrg _ _ _).length <= _; omega
     . omega
   . exact Nat.zero_le _
 . omega
theorem inRE_of {e : En} (h : okL e.binds) : inRE e := fun x hx => by have := (h x hx).2; exact this
end Go.Proofs.YthkknkhpfffnbaaGreat
namespace Go.Sx
def stoOf : List (Nat × Nat) -> Nat -> Option Nat
 | [], _ => none
 | (j, ia) :: l, i => match Nat.beq j i with
   | true => some ia
   | false => stoOf l i
def hidOf (sto : List (Nat × Nat)) (i : Nat) : Bool := sto.any fun p => Nat.beq p.2 i
def visB (sto : List (Nat × Nat)) (i : Nat) : Bool := !hidOf sto i && (stoOf sto i).isNone
def dSto (τ : Tys) (n0 : Nat) (all : List Oper) (ia : Nat) (o : Oper) (st : St) (K : List Cell -> Prop) : Prop :=
 match o.op, o.guard, all[ia]? with
 | .store t ad x, none, some oa => match oa.op, oa.guard with
   | .alloc e, none => match ev st ad, ev st x, τ t, τ e with
     | .va (.c (.own k 0)), .va y, some ⟨_, size, _, _⟩, some ⟨_, _, _, z⟩ => match Nat.beq k (n0 + ia), y.lays, Nat.beq y.cells.length size, Nat.beq (zeroCells' z).length size with
       | true, true, true, true => K y.cells
       | _, _, _, _ => False
     | _, _, _, _ => False
   | _, _ => False
 | _, _, _ => False
def dGo3 (P : Program) (τ : Tys) (Γ : Sums) (n0 : Nat) (gs : List Nat) (all : List Oper) (sto : List (Nat × Nat)) (i : Nat) (l : List Oper) : St -> List (Nat × Blk) -> (St -> List (Nat × Blk) -> Prop) -> Prop :=
 List.rec (motive := fun _ => Nat -> St -> List (Nat × Blk) -> (St -> List (Nat × Blk) -> Prop) -> Prop) (fun _ st sp K => K st sp) (fun o _ ih i st sp K => match st with
  | ⟨ts, h, n, m⟩ => match inLim o.dst m with
    | false => False
    | true => match stoOf sto i with
      | some ia => dSto τ n0 all ia o ⟨ts, h, n, m⟩ fun cs => fCs cs fun cs => ih (i + 1) ⟨putT o.dst undT ts, h, n, m⟩ ((n0 + ia, .cells cs) :: sp) K
      | none => dWant all ⟨ts, h, n, m⟩ o fun w => match w with
        | false => ih (i + 1) ⟨putT o.dst undT ts, h, n, m⟩ sp K
        | true => dOp P τ Γ (n0 + i) o ⟨ts, h, n, m⟩ fun x b => fT x fun x => match b with
          | some (.cells cs) => fCs cs fun cs => dPut i gs x fun x => match hidOf sto i with
            | true => ih (i + 1) ⟨putT o.dst x ts, h, n, m⟩ sp K
            | false => ih (i + 1) ⟨putT o.dst x ts, (n0 + i, .cells cs) :: h, n, m⟩ sp K
          | some _ => False
          | none => dPut i gs x fun x => ih (i + 1) ⟨putT o.dst x ts, h, n, m⟩ sp K) l i
theorem dGo3_cons (P : Program) (τ : Tys) (Γ : Sums) (n0 : Nat) (gs : List Nat) (all : List Oper) (sto : List (Nat × Nat)) (i : Nat) (o : Oper) (rest : List Oper) (ts : List (Nat × Tm)) (h : List (Nat × Blk)) (n m : Nat) (sp : List (Nat × Blk)) (K : St -> List (Nat × Blk) -> Prop) :
 dGo3 P τ Γ n0 gs all sto i (o :: rest) ⟨ts, h, n, m⟩ sp K = (match inLim o.dst m with
  | false => False
  | true => match stoOf sto i with
    | some ia => dSto τ n0 all ia o ⟨ts, h, n, m⟩ fun cs => fCs cs fun cs => dGo3 P τ Γ n0 gs all sto (i + 1) rest ⟨putT o.dst undT ts, h, n, m⟩ ((n0 + ia, .cells cs) :: sp) K
    | none => dWant all ⟨ts, h, n, m⟩ o fun w => match w with
      | false => dGo3 P τ Γ n0 gs all sto (i + 1) rest ⟨putT o.dst undT ts, h, n, m⟩ sp K
      | true => dOp P τ Γ (n0 + i) o ⟨ts, h, n, m⟩ fun x b => fT x fun x => match b with
        | some (.cells cs) => fCs cs fun cs => dPut i gs x fun x => match hidOf sto i with
          | true => dGo3 P τ Γ n0 gs all sto (i + 1) rest ⟨putT o.dst x ts, h, n, m⟩ sp K
          | false => dGo3 P τ Γ n0 gs all sto (i + 1) rest ⟨putT o.dst x ts, (n0 + i, .cells cs) :: h, n, m⟩ sp K
        | some _ => False
        | none => dPut i gs x fun x => dGo3 P τ Γ n0 gs all sto (i + 1) rest ⟨putT o.dst x ts, h, n, m⟩ sp K) := rfl
def hfOf (n0 : Nat) (B : Nat -> Option (List Cell)) (sto : List (Nat × Nat)) (D : Nat -> Bool) (h : List (Nat × Blk)) : List (Nat × Blk) :=
 sto.map (fun p => (n0 + p.2, Blk.cells (if D p.1 = true then (B p.1).getD [] else (B p.2).getD []))) ++ h
structure StoOk (ops : Array Oper) (sto : List (Nat × Nat)) (m : Nat) : Prop where
 lt : ∀ p ∈ sto, p.1 < m /\ p.2 < p.1
 nd : sto.Pairwise fun p q => p.1 ≠ q.1 /\ p.2 ≠ q.2
 cl : ∀ p ∈ sto, Cl ops p.1 p.2
 na : ∀ p ∈ sto, stoOf sto p.2 = none
def stoB (all : List Oper) (sto : List (Nat × Nat)) (m : Nat) : Bool :=
 sto.all (fun p => Nat.blt p.1 m && Nat.blt p.2 p.1 && Nat.blt p.1 all.length && ((cloGo all []).getD p.1 0).testBit p.2 && (stoOf sto p.2).isNone) && decide (sto.Pairwise fun p q => p.1 ≠ q.1 /\ p.2 ≠ q.2)
theorem stoB_ok {ops : Array Oper} {sto : List (Nat × Nat)} {m : Nat} (h : stoB ops.toList sto m = true) : StoOk ops sto m := by
 simp only [stoB, Bool.and_eq_true, List.all_eq_true, decide_eq_true_eq] at h
 obtain ⟨h1, h2⟩ := h
 have hcl := cloGo_spec ops ops.toList [] (fun i o ho => by simpa using ho) (fun i j h => by simp at h)
 refine ⟨fun p hp => ?_, h2, fun p hp => ?_, fun p hp => ?_⟩
 . have := h1 p hp; exact ⟨by simpa [Nat.blt_eq] using this.1.1.1.1, by simpa [Nat.blt_eq] using this.1.1.1.2⟩
 . exact hcl _ _ (h1 p hp).1.2
 . simpa using (h1 p hp).2
theorem stoOf_get : ∀ {sto : List (Nat × Nat)} {i ia : Nat}, stoOf sto i = some ia -> (i, ia) ∈ sto
 | [], _, _, h => by cases h
 | (j, ia') :: l, i, ia, h => by
   simp only [stoOf] at h
   split at h
   . rename_i e; cases h; rw [<- Nat.eq_of_beq_eq_true e]; exact List.mem_cons_self
   . exact List.mem_cons_of_mem _ (stoOf_get h)
theorem stoOf_nd : ∀ {sto : List (Nat × Nat)} {p : Nat × Nat}, (sto.Pairwise fun p q => p.1 ≠ q.1 /\ p.2 ≠ q.2) -> p ∈ sto -> stoOf sto p.1 = some p.2
 | (j, ia) :: l, p, hn, hp => by
   rw [List.pairwise_cons] at hn
   simp only [stoOf]
   rcases List.mem_cons.1 hp with rfl | hp
   . simp
   . have h := (hn.1 p hp).1
     cases hb : Nat.beq j p.1 with
     | true => exact absurd (Nat.eq_of_beq_eq_true hb) h
     | false => exact stoOf_nd hn.2 hp
theorem stoOf_mem {ops : Array Oper} {sto : List (Nat × Nat)} {m : Nat} (hs : StoOk ops sto m) {p : Nat × Nat} (hp : p ∈ sto) : stoOf sto p.1 = some p.2 := stoOf_nd hs.nd hp
theorem hidOf_mem {sto : List (Nat × Nat)} {p : Nat × Nat} (hp : p ∈ sto) : hidOf sto p.2 = true := List.any_eq_true.2 ⟨p, hp, by simp⟩
theorem hidOf_get {sto : List (Nat × Nat)} {i : Nat} (h : hidOf sto i = true) : ∃ p ∈ sto, p.2 = i := by
 obtain ⟨p, hp, e⟩ := List.any_eq_true.1 h
 exact ⟨p, hp, Nat.eq_of_beq_eq_true e⟩
theorem hf_congr {n0 : Nat} {B : Nat -> Option (List Cell)} {sto : List (Nat × Nat)} {D D' : Nat -> Bool} {h : List (Nat × Blk)} (hd : ∀ p ∈ sto, D p.1 = D' p.1) : hfOf n0 B sto D h = hfOf n0 B sto D' h := by
 unfold hfOf
 congr 1
 exact List.map_congr_left fun p hp => by rw [hd p hp]
theorem hf_miss {n0 : Nat} {B : Nat -> Option (List Cell)} {D : Nat -> Bool} {h : List (Nat × Blk)} {k : Nat} : ∀ {sto : List (Nat × Nat)}, (∀ p ∈ sto, k ≠ n0 + p.2) -> lookB (hfOf n0 B sto D h) k = lookB h k
 | [], _ => rfl
 | q :: l, hn => by
   show lookB ((n0 + q.2, _) :: hfOf n0 B l D h) k = _
   rw [lookB_cons, if_neg (fun e => hn q List.mem_cons_self e.symm), hf_miss fun p hp => hn p (List.mem_cons_of_mem _ hp)]
theorem hf_hit' {n0 : Nat} {B : Nat -> Option (List Cell)} {D : Nat -> Bool} {h : List (Nat × Blk)} {p : Nat × Nat} : ∀ {sto : List (Nat × Nat)}, (sto.Pairwise fun p q => p.1 ≠ q.1 /\ p.2 ≠ q.2) -> p ∈ sto -> lookB (hfOf n0 B sto D h) (n0 + p.2) = .cells (if D p.1 = true then (B p.1).getD [] else (B p.2).getD [])
 | q :: l, hn, hp => by
   rw [List.pairwise_cons] at hn
   show lookB ((n0 + q.2, _) :: hfOf n0 B l D h) _ = _
   rw [lookB_cons]
   rcases List.mem_cons.1 hp with rfl | hp
   . rw [if_pos rfl]
   . rw [if_neg (fun e => (hn.1 p hp).2 (by omega))]
     exact hf_hit' hn.2 hp
theorem hf_hit {ops : Array Oper} {m n0 : Nat} {B : Nat -> Option (List Cell)} {sto : List (Nat × Nat)} {D : Nat -> Bool} {h : List (Nat × Blk)} (hs : StoOk ops sto m) {p : Nat × Nat} (hp : p ∈ sto) : lookB (hfOf n0 B sto D h) (n0 + p.2) = .cells (if D p.1 = true then (B p.1).getD [] else (B p.2).getD []) := hf_hit' hs.nd hp
theorem setAt_all {α : Type} : ∀ {l r : List α}, l.length = r.length -> setAt l 0 r = some r
 | l, [], h => by
   have : l = [] := List.eq_nil_of_length_eq_zero (by simpa using h)
   subst this; rfl
 | [], y :: ys, h => by cases h
 | x :: l, y :: ys, h => by
   simp only [setAt]
   rw [setAt_all (by simpa using h)]
section
variable {P : Program} {τ : Tys} {Γ : Sums} {base : Nat} {ψ ψ' : Psi} {S S' : Nat → Prop} {w w' : World} {a : Act}
theorem Rel.heapCg {ts : List (Nat × Tm)} {h h' : List (Nat × Blk)} {n m : Nat} (he : ∀ k, lookB h k = lookB h' k) (hr : Rel P base ψ S w ⟨ts, h, n, m⟩ a) : Rel P base ψ S w ⟨ts, h', n, m⟩ a := by
 have hs := hr.sim
 refine ⟨hr.bas, ⟨hs.dom, fun k l hk => ?_, fun k k' b m1 m2 e1 e2 l1 l2 => ?_, fun k b m1 e1 l1 => ?_, hs.pdom, hs.sdom⟩, hr.lim, hr.defers, hr.tmps⟩
 . show BlkRep P ψ S w (lookB h' k) l
   rw [<- he]; exact hs.blk k l hk
 . have l1 : (lookB h' k).live := l1
   have l2 : (lookB h' k').live := l2
   rw [<- he] at l1 l2
   exact hs.inj k k' b m1 m2 e1 e2 l1 l2
 . have l1 : (lookB h' k).live := l1
   rw [<- he] at l1
   exact hs.dis k b m1 e1 l1
theorem dSto_get {n0 ia : Nat} {all : List Oper} {o : Oper} {st : St} {cs : List Cell} (h : dSto τ n0 all ia o st fun c => c = cs) :
 ∃ t ad xo yv, o.op = .store t ad xo /\ o.guard = none /\ ev st ad = .va (.c (.own (n0 + ia) 0)) /\ ev st xo = .va yv /\ ∃ sz0, yv.lays = true /\ yv.cells = cs /\ (∃ desc bt z, Nat.beq yv.cells.length sz0 = true /\ τ t = some ⟨desc, sz0, bt, z⟩) /\
  ∀ oa, all[ia]? = some oa -> ∃ ti e z, oa.op = .alloc e /\ oa.guard = none /\ τ e = some ti /\ ti.zero = z /\ (zeroCells' z).length = cs.length := by
 unfold dSto at h
 split at h
 . rename_i t ad x oa hop hg hall
   split at h
   . rename_i e hoa hga
     split at h
     . rename_i k y desc size bt z dz sz2 bt2 z2 ea ex ht he
       split at h
       . rename_i q1 q2 q3 q4
         refine ⟨t, ad, x, y, hop, hg, by rw [ea, Nat.eq_of_beq_eq_true q1], ex, size, q2, h, ⟨desc, bt, z, q3, ht⟩, fun oa' hoa' => ?_⟩
         rw [hall] at hoa'; cases hoa'
         refine ⟨_, e, _, hoa, hga, he, rfl, ?_⟩
         rw [<- h, Nat.eq_of_beq_eq_true q3]; exact Nat.eq_of_beq_eq_true q4
       . exact h.elim
     . exact h.elim
   . exact h.elim
 . exact h.elim
def DStep3 (P : Program) (τ : Tys) (Γ : Sums) (n0 : Nat) (all : List Oper) (sto : List (Nat × Nat)) (i : Nat) (o : Oper) (y : Tm) (blk : Option (List Cell)) (st st' : St) : Prop :=
 inLim o.dst st.lim = true /\ st' = ⟨putT o.dst y st.tmps, (match blk, visB sto i with | some cs, true => [(n0 + i, Blk.cells cs)] | _, _ => []) ++ st.heap, st.next, st.lim⟩ /\
  ((stoOf sto i = none /\ ((dWant all st o (fun w => w = false) /\ y = undT /\ blk = none) \/
    ∃ x, dWant all st o (fun w => w = true) /\ dOp P τ Γ (n0 + i) o st (fun x' b' => x' = x /\ b' = blk.map Blk.cells) /\ Known x y)) \/
  ∃ ia cs, stoOf sto i = some ia /\ blk = some cs /\ y = undT /\ dSto τ n0 all ia o st fun c => c = cs)
theorem dSto_lin {n0 ia : Nat} {all : List Oper} {o : Oper} {st : St} : Lin (dSto τ n0 all ia o st) := by
 intro K hk
 unfold dSto at hk ⊢
 split at hk
 . split at hk
   . split at hk
     . split at hk
       . exact ⟨_, hk, rfl⟩
       . exact hk.elim
     . exact hk.elim
   . exact hk.elim
 . exact hk.elim
def spOf (n0 : Nat) (B : Nat -> Option (List Cell)) (sto : List (Nat × Nat)) (i : Nat) (sp0 : List (Nat × Blk)) : Nat -> List (Nat × Blk)
 | 0 => sp0
 | j + 1 => match stoOf sto (i + j) with
   | some ia => (n0 + ia, Blk.cells ((B j).getD [])) :: spOf n0 B sto i sp0 j
   | none => spOf n0 B sto i sp0 j
theorem dGo3_way {n0 : Nat} {gs : List Nat} {all : List Oper} {sto : List (Nat × Nat)} : ∀ (rest : List Oper) (i : Nat) (st : St) (sp : List (Nat × Blk)) (K : St -> List (Nat × Blk) -> Prop), dGo3 P τ Γ n0 gs all sto i rest st sp K ->
 ∃ (f : Nat -> St) (y : Nat -> Tm) (B : Nat -> Option (List Cell)) (sp' : List (Nat × Blk)), f 0 = st /\ K (f rest.length) sp' /\ (∀ j o, rest[j]? = some o -> DStep3 P τ Γ n0 all sto (i + j) o (y j) (B j) (f j) (f (j + 1))) /\
  sp' = spOf n0 B sto i sp rest.length
 | [], i, st, sp, K, hk => ⟨fun _ => st, fun _ => undT, fun _ => none, sp, rfl, hk, fun j o h => by simp at h, rfl⟩
 | o :: rest, i, ⟨ts, h, n, m⟩, sp, K, hk => by
   rw [dGo3_cons] at hk
   split at hk
   . exact hk.elim
   . rename_i hlim
     have shift : ∀ (B : Nat -> Option (List Cell)) (B0 : Option (List Cell)) (sp1 : List (Nat × Blk)), sp1 = spOf n0 (fun j => match j with | 0 => B0 | j + 1 => B j) sto i sp 1 -> ∀ q, spOf n0 B sto (i + 1) sp1 q = spOf n0 (fun j => match j with | 0 => B0 | j + 1 => B j) sto i sp (q + 1) := by
      intro B B0 sp1 h1 q
      induction q with
      | zero => exact h1
      | succ q ih =>
        rw [spOf, spOf, ih, show i + 1 + q = i + (q + 1) by omega]
     have cons : ∀ y0 B0 st1 sp1, DStep3 P τ Γ n0 all sto i o y0 B0 ⟨ts, h, n, m⟩ st1 -> (∀ B : Nat -> Option (List Cell), sp1 = spOf n0 (fun j => match j with | 0 => B0 | j + 1 => B j) sto i sp 1) -> dGo3 P τ Γ n0 gs all sto (i + 1) rest st1 sp1 K ->
      ∃ (f : Nat -> St) (y : Nat -> Tm) (B : Nat -> Option (List Cell)) (sp' : List (Nat × Blk)), f 0 = ⟨ts, h, n, m⟩ /\ K (f (o :: rest).length) sp' /\
      (∀ j o', (o :: rest)[j]? = some o' -> DStep3 P τ Γ n0 all sto (i + j) o' (y j) (B j) (f j) (f (j + 1))) /\ sp' = spOf n0 B sto i sp (o :: rest).length := by
      intro y0 B0 st1 sp1 hs hsp hk
      obtain ⟨f, y, B, sp', g1, g2, g3, g4⟩ := dGo3_way rest (i + 1) st1 sp1 K hk
      refine ⟨fun j => match j with | 0 => ⟨ts, h, n, m⟩ | j + 1 => f j, fun j => match j with | 0 => y0 | j + 1 => y j, fun j => match j with | 0 => B0 | j + 1 => B j, sp', rfl, g2, ?_, ?_⟩
      . intro j o' ho
        cases j with
        | zero => simp at ho; subst ho; simp only [g1]; exact hs
        | succ j => have := g3 j o' (by simpa using ho); rw [show i + (j + 1) = i + 1 + j by omega]; exact this
      . rw [g4, shift B B0 sp1 (hsp B)]; rfl
     split at hk
     . rename_i ia hs
       obtain ⟨cs, g1, g2⟩ := dSto_lin _ hk
       rw [fCs_eq] at g1
       refine cons undT (some cs) _ _ ⟨hlim, ?_, .inr ⟨ia, cs, hs, rfl, rfl, g2⟩⟩ (fun B => ?_) g1
       . have : visB sto i = false := by unfold visB; rw [hs]; simp
         rw [this]; rfl
       . simp only [spOf, Nat.add_zero, hs]; rfl
     . rename_i hs
       obtain ⟨wt, g1, g2⟩ := dWant_lin _ _ _ _ hk
       have hsp : ∀ (B0 : Option (List Cell)) (B : Nat -> Option (List Cell)), sp = spOf n0 (fun j => match j with | 0 => B0 | j + 1 => B j) sto i sp 1 := by
        intro B0 B; simp only [spOf, Nat.add_zero, hs]
       cases wt with
       | false => exact cons undT none _ _ ⟨hlim, rfl, .inl ⟨hs, .inl ⟨g2, rfl, rfl⟩⟩⟩ (hsp _) g1
       | true =>
         obtain ⟨x, b, g3, g4⟩ := dOp_lin _ _ _ _ g1
         simp only [fT_eq] at g3
         cases b with
         | none =>
           obtain ⟨y0, k1, k2⟩ := dPut_ok g3
           exact cons y0 none _ _ ⟨hlim, rfl, .inl ⟨hs, .inr ⟨x, g2, g4, k1⟩⟩⟩ (hsp _) k2
         | some b =>
           cases b with
           | cells cs =>
             simp only [fCs_eq] at g3
             obtain ⟨y0, k1, k2⟩ := dPut_ok g3
             cases hh : hidOf sto i with
             | true =>
               rw [hh] at k2
               exact cons y0 (some cs) _ _ ⟨hlim, by have : visB sto i = false := by unfold visB; rw [hh]; rfl
                                                     rw [this]; rfl, .inl ⟨hs, .inr ⟨x, g2, g4, k1⟩⟩⟩ (hsp _) k2
             | false =>
               rw [hh] at k2
               exact cons y0 (some cs) _ _ ⟨hlim, by have : visB sto i = true := by unfold visB; rw [hh, hs]; rfl
                                                     rw [this]; rfl, .inl ⟨hs, .inr ⟨x, g2, g4, k1⟩⟩⟩ (hsp _) k2
           | _ => exact g3.elim
theorem way_heap3 {n0 : Nat} {ops : List Oper} {sto : List (Nat × Nat)} {f : Nat -> St} {y : Nat -> Tm} {B : Nat -> Option (List Cell)} {m : Nat}
 (hw : ∀ j o, j < m -> ops[j]? = some o -> DStep3 P τ Γ n0 ops sto j o (y j) (B j) (f j) (f (j + 1))) (hops : m <= ops.length) (hid : idsBelow (f 0).heap n0 = true) :
 ∀ i, i <= m -> (∀ k, n0 + i <= k -> lookB (f i).heap k = .gone) /\ (∀ k, k < n0 -> lookB (f i).heap k = lookB (f 0).heap k) /\ (∀ i', i' <= i -> Sup (f i').heap (f i).heap) /\
  (∀ j cs, j < i -> visB sto j = true -> B j = some cs -> lookB (f i).heap (n0 + j) = .cells cs) /\ (f i).next = (f 0).next /\ (f i).lim = (f 0).lim /\ (∀ j, j < i -> visB sto j = false -> lookB (f i).heap (n0 + j) = .gone) := by
 intro i
 induction i with
 | zero =>
   intro _
   exact ⟨fun k hk => idsBelow_look hid hk, fun _ _ => rfl, fun i' hi' => by have : i' = 0 := by omega
                                                                             subst this; exact fun _ _ h _ => h, fun j cs hj => by omega, rfl, rfl, fun j hj => by omega⟩
 | succ i ih =>
   intro hi
   obtain ⟨h1, h2, h3, h4, h5, h6, h7⟩ := ih (by omega)
   have ho : ops[i]? = some (ops[i]'(by omega)) := by simp
   obtain ⟨_, e, _⟩ := hw i _ (by omega) ho
   have look : ∀ k, lookB (f (i + 1)).heap k = match B i, visB sto i with | some cs, true => if n0 + i = k then .cells cs else lookB (f i).heap k | _, _ => lookB (f i).heap k := by
    intro k
    rw [e]
    cases B i with
    | none => rfl
    | some cs =>
      cases visB sto i with
      | true => show lookB ((n0 + i, Blk.cells cs) :: (f i).heap) k = _; rw [lookB_cons]
      | false => rfl
   have hn : (f (i + 1)).next = (f i).next := by rw [e]
   have hl : (f (i + 1)).lim = (f i).lim := by rw [e]
   have ne : ∀ k, k ≠ n0 + i -> lookB (f (i + 1)).heap k = lookB (f i).heap k := by
    intro k hk
    rw [look]
    cases B i with
    | none => rfl
    | some cs =>
      cases visB sto i with
      | true => simp only; rw [if_neg (by omega)]
      | false => rfl
   have sup : Sup (f i).heap (f (i + 1)).heap := by
    intro k b hb hg
    by_cases hk : k = n0 + i
    . rw [h1 k (by omega)] at hb; exact (hg hb.symm).elim
    . rw [ne k hk]; exact hb
   refine ⟨?_, ?_, ?_, ?_, by rw [hn, h5], by rw [hl, h6], ?_⟩
   . intro k hk; rw [ne k (by omega)]; exact h1 k (by omega)
   . intro k hk; rw [ne k (by omega)]; exact h2 k hk
   . intro i' hi'
     rcases Nat.lt_or_eq_of_le hi' with h | rfl
     . intro k b hb hg
       have := h3 i' (by omega) k b hb hg
       exact sup k b this hg
     . exact fun _ _ h _ => h
   . intro j cs hj hv hB
     rcases Nat.lt_succ_iff_lt_or_eq.1 hj with h | rfl
     . rw [ne _ (by omega)]; exact h4 j cs h hv hB
     . rw [look, hB, hv]; simp
   . intro j hj hv
     rcases Nat.lt_succ_iff_lt_or_eq.1 hj with h | rfl
     . rw [ne _ (by omega)]; exact h7 j h hv
     . rw [look, hv]
       cases B j <;> exact h1 _ (Nat.le_refl _)
theorem way_tmps3 {n0 : Nat} {ops : List Oper} {sto : List (Nat × Nat)} {f : Nat -> St} {y : Nat -> Tm} {B : Nat -> Option (List Cell)} {m : Nat} {dst : Nat -> Option Tmp} (hdst : ∀ j o, ops[j]? = some o -> dst j = o.dst)
 (hw : ∀ j o, j < m -> ops[j]? = some o -> DStep3 P τ Γ n0 ops sto j o (y j) (B j) (f j) (f (j + 1))) (hops : m <= ops.length) :
 ∀ i, i <= m -> (f i).tmps = tsOf y dst (f 0).tmps (fun _ => true) i := by
 intro i
 induction i with
 | zero => intro _; rfl
 | succ i ih =>
   intro hi
   have ho : ops[i]? = some (ops[i]'(by omega)) := by simp
   obtain ⟨_, e, _⟩ := hw i _ (by omega) ho
   rw [e]
   simp only [tsOf, hdst i _ ho, ih (by omega)]
theorem draw_head3 (hτ : TysOk P τ) (hz : ∀ t i, τ t = some i -> zeroOk i.zero) (hΓ : SumsOk P Γ) {calls : Nat -> List Va -> St -> (Tm -> St -> Prop) -> Prop} (hcalls : CallsOk P base calls)
 {ops : Array Oper} {Q : Exit -> Act -> World -> Prop} {n0 m : Nat} {f : Nat -> St} {y : Nat -> Tm} {B : Nat -> Option (List Cell)} {dst : Nat -> Option Tmp} {sto : List (Nat × Nat)}
 (hm : m <= ops.size) (hdraw : drawOk2 ops.toList m = true) (hdst : ∀ j o, ops[j]? = some o -> dst j = o.dst)
 (hw : ∀ j o, j < m -> ops.toList[j]? = some o -> DStep3 P τ Γ n0 ops.toList sto j o (y j) (B j) (f j) (f (j + 1))) (hid : idsBelow (f 0).heap n0 = true) (hb : base <= n0) (hsto : StoOk ops sto m) {K : St -> Prop}
 (htail : ∀ (listed : Array Bool) (ψ : Psi) (S : Nat -> Prop) (w : World) (a : Act), listed.size = ops.size -> (∀ j, listed.getD j false = decide (j < m)) -> Rel P base ψ S w ⟨(f m).tmps, hfOf n0 B sto (fun _ => true) (f m).heap, n0 + m, (f m).lim⟩ a ->
   (∀ st' ψ' S' w' a', K st' -> Rel P base ψ' S' w' st' a' -> Ext base ψ S w ψ' S' w' -> Q .normal a' w') -> wpAny P .any ops Q (ops.size - m) listed a w) :
 ∀ (fuel : Nat) (listed : Array Bool) (ψ : Psi) (S : Nat -> Prop) (w : World) (a : Act), listed.size = ops.size -> cntD (fun j => listed.getD j false) m + fuel = ops.size ->
 (∀ j, listed.getD j false = true -> j < m) -> Down ops (fun j => listed.getD j false) -> (∀ j, j < m -> listed.getD j false = false -> ψ (n0 + j) = none) ->
 Rel P base ψ S w ⟨tsOf y dst (f 0).tmps (fun j => listed.getD j false) m, hfOf n0 B sto (fun j => listed.getD j false) (f m).heap, n0 + m, (f m).lim⟩ a ->
 (∀ st' ψ' S' w' a', K st' -> Rel P base ψ' S' w' st' a' -> Ext base ψ S w ψ' S' w' -> Q .normal a' w') -> wpAny P .any ops Q fuel listed a w := by
 obtain ⟨hback, hord⟩ := drawOk2_spec hdraw
 have hheap := way_heap3 hw (by simpa using hm) hid
 have htmps := way_tmps3 (dst := dst) (fun j o ho => hdst j o (by simpa using ho)) hw (by simpa using hm)
 intro fuel
 induction fuel with
 | zero =>
   intro listed ψ S w a hsz hcnt hsup hdown hun hrel hq
   have hle := cntD_le (D := fun j => listed.getD j false) m
   have hfull := cntD_full (D := fun j => listed.getD j false) m (by omega)
   rw [show 0 = ops.size - m by omega]
   refine htail listed ψ S w a hsz ?_ ?_ hq
   . intro j
     by_cases hj : j < m
     . simp only [hj, decide_true]; exact hfull j hj
     . simp only [hj, decide_false]
       cases h : listed.getD j false with
       | false => rfl
       | true => exact absurd (hsup j h) hj
   . rw [hf_congr (D' := fun _ => true) fun p hp => hfull p.1 (hsto.lt p hp).1] at hrel
     refine ⟨hrel.bas, hrel.sim, hrel.lim, hrel.defers, fun t => ?_⟩
     have := hrel.tmps t
     rw [htmps m (Nat.le_refl _)]
     rwa [tsOf_same (D' := fun _ => true) m fun j hj _ => hfull j hj] at this
 | succ fuel ih =>
   intro listed ψ S w a hsz hcnt hsup hdown hun hrel hq
   have hle := cntD_le (D := fun j => listed.getD j false) m
   rcases Nat.lt_or_eq_of_le hle with hlt | heq
   . obtain ⟨j0, hj0, hj1, hj2⟩ := cntD_lt (D := fun j => listed.getD j false) m hlt
     have getD : ∀ j, j < ops.size -> listed.getD j true = listed.getD j false := by
      intro j hj; simp [Array.getD, hsz, hj]
     have hjo : ops[j0]? = some (ops[j0]'(by omega)) := by simp <;> omega
     have hready : j0 ∈ Region.ready .any ops listed := by
      refine mem_ready.2 ⟨by rw [getD j0 (by omega)]; exact hj1, _, hjo, fun e he hbi => ?_⟩
      exact hj2 e.on (hback j0 _ hjo e (by simpa using he) hbi)
     refine ⟨fun h => by rw [h] at hready; simp at hready, ?_⟩
     intro i hi
     obtain ⟨hi1, o, ho, hi2⟩ := mem_ready.1 hi
     have hin : i < ops.size := (Array.getElem?_eq_some_iff.1 ho).1
     rw [getD i hin] at hi1
     have hcl : ∀ j, Cl ops i j -> listed.getD j false = true := fun j h => h.down hdown fun o' ho' e he hbi => by
      rw [ho] at ho'; cases ho'; exact hi2 e (by simpa using he) hbi
     have him : i < m := by
      rcases Nat.lt_or_ge i m with h | h
      . exact h
      . rcases hord i j0 _ o ho hjo (by omega) hj0 with h1 | h1
        . have := hcl _ h1; simp only [this] at hj1; cases hj1
        . exact h1.1
     have hol : ops.toList[i]? = some o := by simpa using ho
     -- the slots that it reads are as in the text's order
     have reads : ∀ t, t ∈ readsOf ops.toList o -> lookT (tsOf y dst (f 0).tmps (fun j => listed.getD j false) m) t = lookT (f i).tmps t := by
      intro t ht
      rw [htmps i (by omega), tsOf_cut (i := i) m (by omega), tsOf_same (D' := fun _ => true) i]
      . intro j hj hd
        have hjo' : ops[j]? = some (ops[j]'(by omega)) := by simp <;> omega
        rcases hord i j _ o ho hjo' hj (by omega) with h1 | h1
        . exact hcl j h1
        . rw [hdst j _ hjo'] at hd
          exact absurd ht ((clash_spec h1.2).1 t hd).1
      . intro j h1 h2 hd
        rcases Nat.lt_or_eq_of_le h1 with h3 | rfl
        . have hjo' : ops[j]? = some (ops[j]'(by omega)) := by simp <;> omega
          rcases hord j i o _ hjo' ho h3 him with h4 | h4
          . cases hD : listed.getD j false with
            | false => rfl
            | true =>
              have : listed.getD i false = true := h4.down hdown fun o' ho' e he hbi => hdown j o' ho' hD e he hbi
              rw [this] at hi1; cases hi1
          . rw [hdst j _ hjo'] at hd
            exact absurd ht ((clash_spec h4.2).2 t hd)
        . exact hi1
     have hD' : ∀ j, (listed.setIfInBounds i true).getD j false = (listed.getD j false || j == i) := by
      intro j
      by_cases hij : i = j
      . subst hij; simp [Array.getD, hsz, hin]
      . rw [getD_set_ne _ hij]
        have : (j == i) = false := by simp <;> omega
        simp [this]
     have adds : ∀ t, lookT (tsOf y dst (f 0).tmps (fun j => (listed.setIfInBounds i true).getD j false) m) t = if dst i = some t then y i else lookT (tsOf y dst (f 0).tmps (fun j => listed.getD j false) m) t := by
      intro t
      refine tsOf_add him hi1 hD' fun j h1 h2 hd hd' => ?_
      have hjo' : ops[j]? = some (ops[j]'(by omega)) := by simp <;> omega
      rcases hord j i o _ hjo' ho h1 him with h4 | h4
      . cases hD : listed.getD j false with
        | false => rfl
        | true =>
          have : listed.getD i false = true := h4.down hdown fun o' ho' e he hbi => hdown j o' ho' hD e he hbi
          rw [this] at hi1; cases hi1
      . rw [hdst j _ hjo'] at hd
        rw [hdst i _ ho] at hd'
        exact absurd hd ((clash_spec h4.2).1 t hd').2
     obtain ⟨hlim, hst, hstep⟩ := hw i o him hol
     have hlim' : inLim o.dst (f m).lim = true := by
      rw [(hheap m (Nat.le_refl _)).2.2.2.2.2.1, <- (hheap i (by omega)).2.2.2.2.2.1]; exact hlim
     -- on with the next ones
     have next : ∀ x, Known x (y i) -> ∀ ψ' S' w' a', Rel P base ψ' S' w' ⟨putT o.dst x (tsOf y dst (f 0).tmps (fun j => listed.getD j false) m), hfOf n0 B sto (fun j => (listed.setIfInBounds i true).getD j false) (f m).heap, n0 + m, (f m).lim⟩ a' -> Ext base ψ S w ψ' S' w' ->
      (∀ k, n0 <= k -> k < n0 + m -> k ≠ n0 + i -> ψ' k = ψ k) -> wpAny P .any ops Q fuel (listed.setIfInBounds i true) a' w' := by
      intro x hkn ψ' S' w' a' hr he hp
      refine ih _ ψ' S' w' a' (by simp [hsz]) ?_ ?_ ?_ ?_ ?_ fun st2 ψ2 S2 w2 a2 q1 q2 q3 => hq _ _ _ _ _ q1 q2 (he.trans q3)
      . have := cntD_add (D := fun j => listed.getD j false) (D' := fun j => (listed.setIfInBounds i true).getD j false) (i := i) hi1 hD' m him
        omega
      . intro j hj
        have hj := (hD' j).symm.trans hj
        simp only [Bool.or_eq_true, beq_iff_eq] at hj
        rcases hj with hj | rfl
        . exact hsup j hj
        . exact him
      . intro j oj hoj hj e he' hbi
        have hj := (hD' j).symm.trans hj
        refine (hD' e.on).trans ?_
        simp only [Bool.or_eq_true, beq_iff_eq] at hj ⊢
        rcases hj with hj | rfl
        . exact .inl (hdown j oj hoj hj e he' hbi)
        . rw [ho] at hoj; cases hoj
          exact .inl (hi2 e (by simpa using he') hbi)
      . intro j hj hDj
        have hDj := (hD' j).symm.trans hDj
        simp only [Bool.or_eq_false_iff, beq_eq_false_iff_ne] at hDj
        rw [hp (n0 + j) (by omega) (by omega) (by omega)]
        exact hun j hj hDj.1
      . refine ⟨hr.bas, hr.sim, hr.lim, hr.defers, fun t => ?_⟩
        have := hr.tmps t
        rw [adds]
        rw [lookT_putT] at this
        rw [<- hdst i o ho] at this
        by_cases hd : dst i = some t
        . rw [if_pos hd] at this ⊢; exact hkn.rep this
        . rw [if_neg hd] at this ⊢; exact this
     have guard : ∀ b, dWant ops.toList (f i) o (fun w => w = b) -> Region.wanted o (yielded ops a.tmps) = b := by
      intro b hb
      refine dWant_real (P := P) (ψ := ψ) (S := S) (w := w) hb fun j want s hg hs => ?_
      rw [<- reads s (by simp only [readsOf, hg, hs]; simp)]
      exact hrel.tmps s
     unfold wpOp
     rw [ho]
     simp only
     have hev : ∀ z ∈ o.op.operands.toList, ev (f i) z = ev ⟨tsOf y dst (f 0).tmps (fun j => listed.getD j false) m, hfOf n0 B sto (fun j => listed.getD j false) (f m).heap, n0 + m, (f m).lim⟩ z := by
      intro z hz
      cases z with
      | tmp t => exact (reads t (operand_reads hz)).symm
      | _ => rfl
     have hrel2 : Rel P (n0 + m) ψ S w ⟨tsOf y dst (f 0).tmps (fun j => listed.getD j false) m, hfOf n0 B sto (fun j => listed.getD j false) (f m).heap, n0 + m, (f m).lim⟩ a := ⟨Nat.le_refl _, hrel.sim, hrel.lim, hrel.defers, hrel.tmps⟩
     rcases hstep with ⟨hns, hstep⟩ | ⟨ia, cs, hs, hBi, hyi, hsd⟩
     . have hsame : hfOf n0 B sto (fun j => (listed.setIfInBounds i true).getD j false) (f m).heap = hfOf n0 B sto (fun j => listed.getD j false) (f m).heap := hf_congr fun p hp => by
        show (listed.setIfInBounds i true).getD p.1 false = listed.getD p.1 false
        rw [hD' p.1]
        have : p.1 ≠ i := fun e => by have := stoOf_mem hsto hp; rw [e, hns] at this; cases this
        simp [this]
       rw [hsame] at next
       have hsup : Sup (f i).heap (hfOf n0 B sto (fun j => listed.getD j false) (f m).heap) := by
        intro k b hb hg
        rw [hf_miss, (hheap m (Nat.le_refl _)).2.2.1 i (by omega) k b hb hg]
        intro p hp e
        have hpl := hsto.lt p hp
        have hgone : lookB (f i).heap k = .gone := by
         rw [e]
         rcases Nat.lt_or_ge p.2 i with h | h
         . exact (hheap i (by omega)).2.2.2.2.2.2 p.2 h (by unfold visB; rw [hidOf_mem hp]; rfl)
         . exact (hheap i (by omega)).1 _ (by omega)
        rw [hgone] at hb; exact hg hb.symm
       rcases hstep with ⟨h1, h2, h3⟩ | ⟨x, h1, h2, h3⟩
       . rw [if_neg (by rw [guard _ h1]; simp)]
         obtain ⟨st2, g1, g2⟩ := putK_rel (v := undef) (putK_put (x := undT) hlim') hrel rfl
         subst g1
         exact next undT (.inl h2) ψ S w _ g2 (Ext.refl _ _ _ _) fun _ _ _ _ => rfl
       . rw [if_pos (guard _ h1)]
         left
         have hop := dOp_congr (st' := ⟨tsOf y dst (f 0).tmps (fun j => listed.getD j false) m, hfOf n0 B sto (fun j => listed.getD j false) (f m).heap, n0 + m, (f m).lim⟩) hev hsup h2
         cases hB : B i with
         | none =>
           rw [hB] at hop
           refine dOp_ok hτ hz hΓ hrel2 hlim' hop _ _ ?_
           rintro st' ψ' S' w' a' rfl g1 g2
           exact next x h3 ψ' S' w' a' ⟨by have := hb; show base <= n0 + m; omega, g1.sim, g1.lim, g1.defers, g1.tmps⟩ (g2.weaken (by omega)) fun k _ hk _ => g2.agr k hk
         | some cs =>
           rw [hB] at hop
           have hlk : lookB (hfOf n0 B sto (fun j => listed.getD j false) (f m).heap) (n0 + i) = .cells cs := by
            by_cases hh : hidOf sto i = true
            . obtain ⟨p, hp, e⟩ := hidOf_get hh
              have hpl := hsto.lt p hp
              have hpj : listed.getD p.1 false = false := by
               cases hc : listed.getD p.1 false with
               | false => rfl
               | true =>
                 have hpo : ops[p.1]? = some (ops[p.1]'(by omega)) := by simp <;> omega
                 have := (hsto.cl p hp).down hdown fun o' ho' e he hbi => hdown p.1 o' ho' hc e he hbi
                 rw [e, hi1] at this; cases this
              have := hf_hit (B := B) (n0 := n0) (D := fun j => listed.getD j false) (h := (f m).heap) hsto hp
              rw [e] at this
              rw [this]
              show Blk.cells (if listed.getD p.1 false = true then _ else (B i).getD []) = _
              rw [hpj, hB]; rfl
            . rw [hf_miss (fun p hp e => hh (by have : p.2 = i := by omega
                                                rw [<- this]; exact hidOf_mem hp))]
              exact (hheap m (Nat.le_refl _)).2.2.2.1 i cs him (by unfold visB; rw [hns]; simpa using hh) hB
           refine dOp_blk (base := base) hτ hz hrel (hun i him hi1) (by omega) (by omega) hlk hlim' hop _ _ ?_
           intro ψ' S' w' a' g1 g2 g3
           exact next x h3 ψ' S' w' a' g1 g2 fun k _ _ hk => g3 k hk
     . obtain ⟨t, ad, xo, yv, hopx, hg, ea, ex, sz0, hlay, hcs, hsz, hZ⟩ := dSto_get hsd
       have hw1 : dWant ops.toList (f i) o (fun w => w = true) := by unfold dWant; rw [hg]
       rw [if_pos (guard _ hw1)]
       left
       have hmem := stoOf_get hs
       have hpl := hsto.lt _ hmem
       have e1 := hev ad (by rw [hopx]; simp [Op.operands])
       have e2 := hev xo (by rw [hopx]; simp [Op.operands])
       have hlook : lookB (hfOf n0 B sto (fun j => listed.getD j false) (f m).heap) (n0 + ia) = .cells ((B ia).getD []) := by
        have := hf_hit (B := B) (n0 := n0) (D := fun j => listed.getD j false) (h := (f m).heap) hsto hmem
        rw [this]
        show Blk.cells (if listed.getD i false = true then _ else _) = _
        rw [hi1]; rfl
       -- the zero cells of the block
       have hia : ops.toList[ia]? = some (ops[ia]'(by omega)) := by simp <;> omega
       have hlen : ((B ia).getD []).length = cs.length := by
        obtain ⟨_, _, hst2⟩ := hw ia _ (by omega) hia
        rcases hst2 with ⟨_, hst2⟩ | ⟨_, _, hq, _⟩
        . obtain ⟨ti, e, z, hoa, hga, hτe, hz0, hzl⟩ := hZ _ hia
          obtain ⟨d1, d2, d3, d4⟩ := ti
          have hz0 : d4 = z := hz0
          subst hz0
          rcases hst2 with ⟨g1, _, _⟩ | ⟨x, _, g2, _⟩
          . unfold dWant at g1; rw [hga] at g1; cases g1
          . unfold dOp at g2
            rw [hoa] at g2
            simp only at g2
            rw [hτe] at g2
            obtain ⟨_, g3⟩ := g2
            cases hBi2 : B ia with
            | none => rw [hBi2] at g3; cases g3
            | some zc =>
              rw [hBi2] at g3
              have : zc = zeroCells' d4 := by simpa using g3.symm
              rw [this, Option.getD_some, hzl]
        . rw [hsto.na _ hmem] at hq; cases hq
       refine oStore_ok (K := fun st' => st' = ⟨putT o.dst undT (tsOf y dst (f 0).tmps (fun j => listed.getD j false) m), (n0 + ia, .cells cs) :: hfOf n0 B sto (fun j => listed.getD j false) (f m).heap, n0 + m, (f m).lim⟩) hτ hrel2 hopx ?_ _ _ ?_
       . rw [<- e1, <- e2, ea, ex]
         obtain ⟨desc, bt, zz, info, hti⟩ := hsz
         unfold oStore
         rw [hti]
         simp only [hlook, hlay, hcs]
         rw [show Nat.beq cs.length sz0 = true by rw [<- hcs]; exact info]
         simp only
         rw [setAt_all hlen]
         simp only [fCs_eq]
         exact putK_put hlim'
       . rintro st' ψ' S' w' a' rfl g1 g2
         refine next undT (.inl (by rw [hyi])) ψ' S' w' a' ?_ (g2.weaken (by omega)) fun k _ hk _ => g2.agr k hk
         refine Rel.heapCg (fun k => ?_) (⟨by have := hb; show base <= n0 + m; omega, g1.sim, g1.lim, g1.defers, g1.tmps⟩ : Rel P base ψ' S' w' _ a')
         rw [lookB_cons]
         by_cases hk : n0 + ia = k
         . rw [if_pos hk, <- hk]
           have := hf_hit (B := B) (n0 := n0) (D := fun j => (listed.setIfInBounds i true).getD j false) (h := (f m).heap) hsto hmem
           rw [this]
           show _ = Blk.cells (if (listed.setIfInBounds i true).getD i false = true then (B i).getD [] else _)
           rw [hD' i, hBi]; simp
         . rw [if_neg hk]
           by_cases hq : ∃ p ∈ sto, k = n0 + p.2
           . obtain ⟨p, hp, e⟩ := hq
             rw [e, hf_hit hsto hp, hf_hit hsto hp]
             congr 1
             have : p.1 ≠ i := fun e3 => by
              have h5 := stoOf_mem hsto hp
              rw [e3, hs] at h5
              have : ia = p.2 := by simpa using h5
              omega
             show (if listed.getD p.1 false = true then _ else _) = (if (listed.setIfInBounds i true).getD p.1 false = true then _ else _)
             rw [hD' p.1]; simp [this]
           . rw [hf_miss (fun p hp e => hq ⟨p, hp, e⟩), hf_miss (fun p hp e => hq ⟨p, hp, e⟩)]
   . have hfull := cntD_full (D := fun j => listed.getD j false) m heq
     rw [show (fuel + 1) = ops.size - m by omega]
     refine htail listed ψ S w a hsz ?_ ?_ hq
     . intro j
       by_cases hj : j < m
       . simp only [hj, decide_true]; exact hfull j hj
       . simp only [hj, decide_false]
         cases h : listed.getD j false with
         | false => rfl
         | true => exact absurd (hsup j h) hj
     . rw [hf_congr (D' := fun _ => true) fun p hp => hfull p.1 (hsto.lt p hp).1] at hrel
       refine ⟨hrel.bas, hrel.sim, hrel.lim, hrel.defers, fun t => ?_⟩
       have := hrel.tmps t
       rw [htmps m (Nat.le_refl _)]
       rwa [tsOf_same (D' := fun _ => true) m fun j hj _ => hfull j hj] at this
theorem pw_ne {sto : List (Nat × Nat)} : (sto.Pairwise fun p q => p.1 ≠ q.1 /\ p.2 ≠ q.2) -> ∀ {p q : Nat × Nat}, p ∈ sto -> q ∈ sto -> p ≠ q -> p.1 ≠ q.1 /\ p.2 ≠ q.2 := by
 intro hn
 induction sto with
 | nil => intro p q hp; cases hp
 | cons x l ih =>
   rw [List.pairwise_cons] at hn
   intro p q hp hq hne
   rcases List.mem_cons.1 hp with e | hp
   . rcases List.mem_cons.1 hq with e' | hq
     . exact absurd (e.trans e'.symm) hne
     . rw [e]; exact hn.1 q hq
   . rcases List.mem_cons.1 hq with e' | hq
     . rw [e']; have := hn.1 p hp; exact ⟨fun e => this.1 e.symm, fun e => this.2 e.symm⟩
     . exact ih hn.2 hp hq hne
theorem lookB_or (h' : List (Nat × Blk)) (k : Nat) : ∀ (h : List (Nat × Blk)), (∀ p ∈ h, p.2 ≠ .gone) -> lookB (h ++ h') k = match lookB h k with | .gone => lookB h' k | b => b
 | [], _ => rfl
 | (i, x) :: l, hg => by
   rw [List.cons_append, lookB_cons, lookB_cons]
   by_cases hi : i = k
   . rw [if_pos hi, if_pos hi]
     have := hg (i, x) List.mem_cons_self
     cases x <;> first | rfl | exact absurd rfl this
   . rw [if_neg hi, if_neg hi]; exact lookB_or h' k l fun p hp => hg p (List.mem_cons_of_mem _ hp)
theorem sp_live {n0 : Nat} {B : Nat -> Option (List Cell)} {sto : List (Nat × Nat)} : ∀ q, ∀ p ∈ spOf n0 B sto 0 [] q, p.2 ≠ .gone
 | 0, p, hp => by cases hp
 | q + 1, p, hp => by
   simp only [spOf] at hp
   split at hp
   . rcases List.mem_cons.1 hp with rfl | hp
     . intro h; cases h
     . exact sp_live q p hp
   . exact sp_live q p hp
theorem sp_miss {n0 k : Nat} {B : Nat -> Option (List Cell)} {sto : List (Nat × Nat)} (hk : ∀ p ∈ sto, k ≠ n0 + p.2) : ∀ q, lookB (spOf n0 B sto 0 [] q) k = .gone
 | 0 => rfl
 | q + 1 => by
   simp only [spOf]
   split
   . rename_i ia hs
     have := hk _ (stoOf_get hs)
     rw [lookB_cons, if_neg (fun e => this e.symm)]; exact sp_miss hk q
   . exact sp_miss hk q
theorem sp_hit {ops : Array Oper} {m n0 : Nat} {B : Nat -> Option (List Cell)} {sto : List (Nat × Nat)} (hs : StoOk ops sto m) {p : Nat × Nat} (hp : p ∈ sto) : ∀ q, p.1 < q -> lookB (spOf n0 B sto 0 [] q) (n0 + p.2) = .cells ((B p.1).getD [])
 | 0, h => by omega
 | q + 1, h => by
   have h1 := stoOf_mem hs hp
   simp only [spOf, Nat.zero_add]
   by_cases e : p.1 = q
   . rw [<- e, h1]; simp only; rw [lookB_cons, if_pos rfl]
   . have ih := sp_hit (n0 := n0) (B := B) hs hp q (by omega)
     split
     . rename_i ia h2
       rw [lookB_cons, if_neg, ih]
       intro e2
       have h3 := stoOf_get h2
       have : (q, ia) = p := by
        have hn := hs.nd
        exact Classical.byContradiction fun hne => by
         have := pw_ne hn h3 hp hne
         have e4 : ia = p.2 := by omega
         exact this.2 e4
       rw [<- this] at e; exact e rfl
     . exact ih
theorem draw_sto_at (hτ : TysOk P τ) (hz : ∀ t i, τ t = some i -> zeroOk i.zero) (hΓ : SumsOk P Γ) {calls : Nat -> List Va -> St -> (Tm -> St -> Prop) -> Prop} (hcalls : CallsOk P base calls) (hmix : P.follows .mixedOrders = true)
 {ops : Array Oper} {id : Nat} {Q : Exit -> Act -> World -> Prop} {st : St} {K : St -> Prop} (hrel : Rel P base ψ S w st a) (hid : idsBelow st.heap st.next = true) {mm : Nat} {sto : List (Nat × Nat)} (hsto : StoOk ops sto mm) (hm : mm <= ops.size) (hdraw : drawOk2 ops.toList mm = true) {K1 : St -> Prop} (hk : dGo3 P τ Γ st.next (guardsOf ops.toList) ops.toList sto 0 (ops.toList.take mm) st [] fun st' sp => match st' with | ⟨ts, h, n, l⟩ => K1 ⟨ts, sp ++ h, n + mm, l⟩)
 (htail : ∀ (listed : Array Bool) (ψ : Psi) (S : Nat -> Prop) (w : World) (st1 : St) (a : Act), K1 st1 -> listed.size = ops.size -> (∀ j, listed.getD j false = decide (j < mm)) -> Rel P base ψ S w st1 a ->
   (∀ st' ψ' S' w' a', K st' -> Rel P base ψ' S' w' st' a' -> Ext base ψ S w ψ' S' w' -> Q .normal a' w') -> wpAny P .any ops Q (ops.size - mm) listed a w)
 (hq : ∀ st' ψ' S' w' a', K st' -> Rel P base ψ' S' w' st' a' -> Ext base ψ S w ψ' S' w' -> Q .normal a' w') : (Code.region id ops true).wp P Q a w := by
 obtain ⟨f, y, B, sp', h1, h2, h3, hsp⟩ := dGo3_way _ _ _ _ _ hk
 have hlen : (ops.toList.take (mm)).length = mm := by simp <;> omega
 rw [hlen] at h2 hsp
 have hw : ∀ j o, j < mm -> ops.toList[j]? = some o -> DStep3 P τ Γ st.next ops.toList sto j o (y j) (B j) (f j) (f (j + 1)) := by
  intro j o hj ho
  have := h3 j o (by rw [List.getElem?_take]; simp [hj]; simpa using ho)
  simpa using this
 have hheap := way_heap3 hw (by simpa using hm) (by rw [h1]; exact hid) _ (Nat.le_refl _)
 obtain ⟨g1, g2, g3, g4, g5, g6, g7⟩ := hheap
 refine wp_region_any hmix ?_
 obtain ⟨hrel1, hext1⟩ : Rel P base ψ S { w with drawn := w.drawn + 1 } st a /\ Ext base ψ S w ψ S { w with drawn := w.drawn + 1 } :=
  hrel.ext0 ⟨rfl, rfl, rfl, Nat.le_refl _, fun _ _ => rfl, fun _ h => h, fun _ h => .inl h, hrel.sim.sdom⟩
 refine draw_head3 (sto := sto) hτ hz hΓ hcalls hm hdraw (dst := fun j => (ops[j]?).bind (·.dst)) (fun j o ho => by simp [ho]) hw (by rw [h1]; exact hid) hrel.bas hsto (K := K) ?_ ops.size _ ψ S _ a (by simp) ?_ ?_ ?_ ?_ ?_ ?_
 . intro listed ψ' S' w' a' q1 q2 q3 q4
   have e : (f (mm)).next = st.next := by rw [g5, h1]
   refine htail listed ψ' S' w' ⟨(f mm).tmps, sp' ++ (f mm).heap, st.next + mm, (f mm).lim⟩ a' ?_ q1 q2 (Rel.heapCg (fun k => ?_) q3) q4
   . rw [<- e]; exact h2
   . rw [hsp, lookB_or _ _ _ (sp_live _)]
     by_cases hq : ∃ p ∈ sto, k = st.next + p.2
     . obtain ⟨p, hp, rfl⟩ := hq
       rw [hf_hit hsto hp, if_pos rfl, sp_hit (n0 := st.next) (B := B) hsto hp mm (hsto.lt p hp).1]
     . rw [hf_miss fun p hp e => hq ⟨p, hp, e⟩, sp_miss (n0 := st.next) (B := B) (sto := sto) (k := k) (fun p hp e => hq ⟨p, hp, e⟩) mm]
 . have : ∀ m, cntD (fun j => (Array.replicate ops.size false).getD j false) m = 0 := by
    intro m
    induction m with
    | zero => rfl
    | succ m ih =>
      simp only [cntD, ih]
      have : (Array.replicate ops.size false)[m]?.getD false = false := by by_cases h : m < ops.size <;> simp [h]
      simp [this]
   rw [this]; simp
 . intro j hj; simp [Array.getD] at hj
 . intro i o _ hi; simp [Array.getD] at hi
 . intro j _ _; exact hrel.sim.dom _ (by omega)
 . have hts : tsOf y (fun j => (ops[j]?).bind (·.dst)) (f 0).tmps (fun j => (Array.replicate ops.size false).getD j false) (mm) = st.tmps := by
    rw [h1]
    clear hk h2 h3 hw g1 g2 g3 g4 g5 g6 g7 hsp hsto
    clear hm hdraw hlen
    generalize mm = m
    induction m with
    | zero => rfl
    | succ m ih => simp only [tsOf]; have : (Array.replicate ops.size false).getD m false = false := by simp [Array.getD]
                   rw [this]; exact ih
   rw [hts, g6, h1]
   have hlook : ∀ k l, ψ k = some l -> lookB (hfOf st.next B sto (fun j => (Array.replicate ops.size false).getD j false) (f (mm)).heap) k = lookB st.heap k := by
    intro k l hk
    have : k < st.next := by
     rcases Nat.lt_or_ge k st.next with h | h
     . exact h
     . rw [hrel.sim.dom k h] at hk; cases hk
    rw [hf_miss (fun p hp e => by omega), g2 k this, h1]
   have hs := hrel1.sim
   refine ⟨by have := hrel.bas; show base <= st.next + _; omega, ⟨fun k hk => hs.dom k (by have hk : st.next + mm <= k := hk; omega), fun k l hk => by rw [hlook k l hk]; exact hs.blk k l hk, fun k k' b m1 m2 e1 e2 l1 l2 => ?_, fun k b m1 e1 l1 => ?_, hs.pdom, hs.sdom⟩, hrel1.lim, hrel1.defers, hrel1.tmps⟩
   . rw [hlook _ _ e1] at l1; rw [hlook _ _ e2] at l2; exact hs.inj k k' b m1 m2 e1 e2 l1 l2
   . rw [hlook _ _ e1] at l1; exact hs.dis k b m1 e1 l1
 . intro st' ψ' S' w' a' q1 q2 q3
   exact hq _ _ _ _ _ q1 q2 (hext1.trans q3)
end
structure Tl (F G : St -> Prop) : Prop where
 run : True -> ∃ s, F s /\ G s
theorem tl_intro {F G : St -> Prop} {s : St} (h1 : F s) (h2 : G s) : Tl F G := ⟨fun _ => ⟨s, h1, h2⟩⟩
theorem draw_sto {P : Program} {t : TT} (ht : t.ok P) {l : List (Nat × Sm)} (hl : sumsOk P l) (hmix : P.follows .mixedOrders = true) {base : Nat} {ops : Array Oper} {id : Nat} {st : St} {Q : Exit -> St -> Prop} (m : Nat) (sto : List (Nat × Nat)) (p : Plan) (live : List Nat)
 (hp : (Region.noSelect ops && Nat.ble m ops.size && drawOk2 ops.toList m && stoB ops.toList sto m && planOk ops (ops.size - m) ((List.range ops.size).map fun j => Nat.blt j m).toArray p) = true) (hid : idsBelow st.heap st.next = true)
 (hk : dGo3 P t.get (sums l) st.next (guardsOf ops.toList) ops.toList sto 0 (ops.toList.take m) st [] fun st' sp => match st' with
   | ⟨ts, h, n, lm⟩ => Tl (fun s => vcP P t.get (vcCall P (sums l) base) ops.toList p ⟨ts, sp ++ h, n + m, lm⟩ fun st' => normK live st' fun s' => s' = s) fun s => Q .normal s) : ASat P base (.region id ops true) st Q := by
 simp only [Bool.and_eq_true] at hp
 obtain ⟨⟨⟨⟨hsel, hm⟩, hd⟩, hsb⟩, hpl⟩ := hp
 have hm := Nat.le_of_ble_eq_true hm
 refine ⟨fun ψ S w a hr => ?_⟩
 have h := draw_sto_at (Q := fun e a' w' => e = .normal /\ ∃ st' ψ' S', Q e st' /\ Rel P base ψ' S' w' st' a' /\ Ext base ψ S w ψ' S' w') (TT.tysOk ht) (TT.zeros ht) (sums_ok hl) (vcCall_ok (sums_ok hl) base) hmix hr hid (stoB_ok hsb) hm hd (K := Q .normal) (id := id)
  (K1 := fun st1 => Tl (fun s => vcP P t.get (vcCall P (sums l) base) ops.toList p st1 fun st' => normK live st' fun s' => s' = s) fun s => Q .normal s) hk ?_ ?_
 . exact wp_mono h fun e a' w' h => h.2
 . intro listed ψ1 S1 w1 st1 a1 hk1 hsz hls hrel hq
   obtain ⟨s, hv, hs⟩ := hk1.run trivial
   have e : listed = ((List.range ops.size).map fun j => Nat.blt j m).toArray := by
    apply Array.ext
    . simp [hsz]
    . intro i h1 h2
      have := hls i
      simp only [Array.getD, h1, dite_true] at this
      simp only [List.getElem_toArray, List.getElem_map, List.getElem_range]
      rw [show listed[i] = decide (i < m) from this]
      rw [Bool.eq_iff_iff, decide_eq_true_eq, Nat.blt_eq]
   rw [<- e] at hpl
   refine vcP_ok (TT.tysOk ht) (TT.zeros ht) (vcCall_ok (sums_ok hl) base) hsel (fun c a w h => by simp at h) p _ listed ψ1 S1 w1 st1 a1 _ hpl hrel hv ?_
   intro st' ψ' S' w' a' h1 h2 h3
   have h1 : normK live st' (fun s' => s' = s) := h1
   rw [normK_eq] at h1
   refine hq s ψ' S' w' a' hs ?_ h3
   rw [<- h1]; exact h2.norm live
 . intro st' ψ' S' w' a' h1 h2 h3
   exact ⟨rfl, st', ψ', S', h1, h2, h3⟩
end Go.Sx
namespace Go.Proofs.YthkknkhpfffnbaaGreat
open Go.Sx
structure Sv where
 e : En
 v : Vl
abbrev Sv.ar (s : Sv) : Ar := .agg [.d (bo s.e.live), .d (lstB s.e.binds), .d (bo s.v.i.s.some), .d (it s.v.i.s.lo), .d (it s.v.i.s.hi), .d (bo s.v.i.c.some), .d (it s.v.i.c.m), .d (it s.v.i.c.r), .d (bo s.v.t.null), .d (lst s.v.t.names)]
namespace Sv
def clean (s : Sv) : Sv := ⟨s.e.clean, s.v.of⟩
def leq (a b : Sv) : Bool := En.leq a.e b.e && Vl.leq a.v b.v
end Sv
def FTClean : List Ar -> Option Rs
 | [.agg [.d (.v (.bool e0)), .d (.lst 9 n0 f0), .d (.v (.bool s0)), .d (.v (.int .i64 l0)), .d (.v (.int .i64 h0)), .d (.v (.bool b0)), .d (.v (.int .i64 m0)), .d (.v (.int .i64 r0)), .d (.v (.bool z0)), .d (.lst 1 p0 g0)]] => some ⟨((n0 <= 1099511627776 /\ RowsOk n0 f0) /\ ((p0 * 16 <= 140737488351232 /\ ∀ i, i < p0 -> g0 i = [st (gT (g0 i))]) /\ Sp.inR ⟨s0, l0, h0⟩ /\ Cg.inR ⟨b0, m0, r0⟩)), .va (Sv.ar (Sv.clean (⟨⟨e0, gBs n0 f0⟩, ⟨⟨⟨s0, l0, h0⟩, ⟨b0, m0, r0⟩⟩, ⟨z0, gN p0 g0⟩⟩⟩ : Sv))), []⟩
 | _ => none
theorem fcTClean : FC Tryz.prog 48 FTClean := by
 intro xs pre r us h hp
 unfold FTClean at h
 split at h
 . rename_i e0 n0 f0 s0 l0 h0 b0 m0 r0 z0 p0 g0
   cases h
   have hp0 := hp
   refine FCat.deep (ys := [.agg [.d (.v (.bool e0)), .d (.lst 9 n0 (rwB (gBs n0 f0))), .d (.v (.bool s0)), .d (.v (.int .i64 l0)), .d (.v (.int .i64 h0)), .d (.v (.bool b0)), .d (.v (.int .i64 m0)), .d (.v (.int .i64 r0)), .d (.v (.bool z0)), .d (.lst 1 p0 fun i => [st (gT (g0 i))])]]) ?_ ?_
   . repeat' (first | exact trivial | exact rfl | exact DvE.refl _ | refine ⟨?_, ?_⟩ | fail)
     all_goals first | first | exact canonB hp0.1.2.h | (exact .rows fun i hi => by rw [hp0.2.1.2 i hi]; exact ⟨rfl, fun j a b ha hb => by have hb : [st (gT (g0 i))][j]? = some b := hb; rw [ha] at hb; cases hb; exact .refl _⟩)
   refine fcat tys_ok (l := [(22, ⟨[], FEClean⟩), (62, ⟨[], FVCleanV⟩)]) ⟨fcEClean, fcVCleanV, trivial⟩ Tryz.func48 rfl (by kernel_rfl) true ?_
   have hA0 := hp0.1
   have hV0 := hp0.2
   have hvR0 := hV0.2
   simp only [Sp.inR, Cg.inR] at hvR0
   have hL0 := okL_rows hA0.2
   have hn0 := hA0.1
   have hlen0 := gBs_length n0 f0
   generalize gBs n0 f0 = L at *
   clear hA0 hp0
   subst hlen0
   have hrow0 := okL_row hL0
   have hvok0 : okV (⟨⟨⟨s0, l0, h0⟩, ⟨b0, m0, r0⟩⟩, ⟨z0, gN p0 fun i => [st (gT (g0 i))]⟩⟩ : Vl) := ⟨⟨(by rw [gN_length]; exact hV0.1.1), fun _ _ => rfl⟩, hV0.2⟩
   have hcr0 := okL_row (clean_ok (e := ⟨e0, L⟩) hL0)
   have hcl0 : (En.clean ⟨e0, L⟩).binds.length <= L.length := clean_len ⟨e0, L⟩
   repeat' (first | exact trivial | refine ⟨?_, ?_⟩ | intro _)
   all_goals first | (with_reducible first | apply qa | apply qb | apply qc | apply qd) | (conv => whnf)
   all_goals (try simp only [gBs_row, gN_lst])
   all_goals first | exact hrow0 | exact hn0 | exact hV0.1.1 | exact hvR0.1.1 | exact hvR0.1.2 | exact hvR0.2.1 | exact hvR0.2.2 | exact hcr0 | omega | (intro i hi; rfl) | rfl
 . cases h
def FTLeq : List Ar -> Option Rs
 | [.agg [.d (.v (.bool e0)), .d (.lst 9 n0 f0), .d (.v (.bool s0)), .d (.v (.int .i64 l0)), .d (.v (.int .i64 h0)), .d (.v (.bool b0)), .d (.v (.int .i64 m0)), .d (.v (.int .i64 r0)), .d (.v (.bool z0)), .d (.lst 1 p0 g0)], .agg [.d (.v (.bool e1)), .d (.lst 9 n1 f1), .d (.v (.bool s1)), .d (.v (.int .i64 l1)), .d (.v (.int .i64 h1)), .d (.v (.bool b1)), .d (.v (.int .i64 m1)), .d (.v (.int .i64 r1)), .d (.v (.bool z1)), .d (.lst 1 p1 g1)]] => some ⟨((n0 <= 1099511627776 /\ RowsOk n0 f0) /\ ((p0 * 16 <= 140737488351232 /\ ∀ i, i < p0 -> g0 i = [st (gT (g0 i))]) /\ Sp.inR ⟨s0, l0, h0⟩ /\ Cg.inR ⟨b0, m0, r0⟩)) /\ ((n1 <= 1099511627776 /\ RowsOk n1 f1) /\ ((p1 * 16 <= 140737488351232 /\ ∀ i, i < p1 -> g1 i = [st (gT (g1 i))]) /\ Sp.inR ⟨s1, l1, h1⟩ /\ Cg.inR ⟨b1, m1, r1⟩)), .va (.c (.d (bo (Sv.leq (⟨⟨e0, gBs n0 f0⟩, ⟨⟨⟨s0, l0, h0⟩, ⟨b0, m0, r0⟩⟩, ⟨z0, gN p0 g0⟩⟩⟩ : Sv) (⟨⟨e1, gBs n1 f1⟩, ⟨⟨⟨s1, l1, h1⟩, ⟨b1, m1, r1⟩⟩, ⟨z1, gN p1 g1⟩⟩⟩ : Sv))))), []⟩
 | _ => none
theorem fcTLeq : FC Tryz.prog 40 FTLeq := by
 intro xs pre r us h hp
 unfold FTLeq at h
 split at h
 . rename_i e0 n0 f0 s0 l0 h0 b0 m0 r0 z0 p0 g0 e1 n1 f1 s1 l1 h1 b1 m1 r1 z1 p1 g1
   cases h
   obtain ⟨hp0, hp1⟩ := hp
   refine FCat.deep (ys := [.agg [.d (.v (.bool e0)), .d (.lst 9 n0 (rwB (gBs n0 f0))), .d (.v (.bool s0)), .d (.v (.int .i64 l0)), .d (.v (.int .i64 h0)), .d (.v (.bool b0)), .d (.v (.int .i64 m0)), .d (.v (.int .i64 r0)), .d (.v (.bool z0)), .d (.lst 1 p0 fun i => [st (gT (g0 i))])], .agg [.d (.v (.bool e1)), .d (.lst 9 n1 (rwB (gBs n1 f1))), .d (.v (.bool s1)), .d (.v (.int .i64 l1)), .d (.v (.int .i64 h1)), .d (.v (.bool b1)), .d (.v (.int .i64 m1)), .d (.v (.int .i64 r1)), .d (.v (.bool z1)), .d (.lst 1 p1 fun i => [st (gT (g1 i))])]]) ?_ ?_
   . repeat' (first | exact trivial | exact rfl | exact DvE.refl _ | refine ⟨?_, ?_⟩ | fail)
     all_goals first | first | exact canonB hp0.1.2.h | (exact .rows fun i hi => by rw [hp0.2.1.2 i hi]; exact ⟨rfl, fun j a b ha hb => by have hb : [st (gT (g0 i))][j]? = some b := hb; rw [ha] at hb; cases hb; exact .refl _⟩) | exact canonB hp1.1.2.h | (exact .rows fun i hi => by rw [hp1.2.1.2 i hi]; exact ⟨rfl, fun j a b ha hb => by have hb : [st (gT (g1 i))][j]? = some b := hb; rw [ha] at hb; cases hb; exact .refl _⟩)
   refine fcat tys_ok (l := [(41, ⟨[], FELeq⟩), (91, ⟨[], FVLeq⟩)]) ⟨fcELeq, fcVLeq, trivial⟩ Tryz.func40 rfl (by kernel_rfl) true ?_
   have hA0 := hp0.1
   have hV0 := hp0.2
   have hvR0 := hV0.2
   simp only [Sp.inR, Cg.inR] at hvR0
   have hL0 := okL_rows hA0.2
   have hn0 := hA0.1
   have hlen0 := gBs_length n0 f0
   generalize gBs n0 f0 = L at *
   clear hA0 hp0
   subst hlen0
   have hrow0 := okL_row hL0
   have hvok0 : okV (⟨⟨⟨s0, l0, h0⟩, ⟨b0, m0, r0⟩⟩, ⟨z0, gN p0 fun i => [st (gT (g0 i))]⟩⟩ : Vl) := ⟨⟨(by rw [gN_length]; exact hV0.1.1), fun _ _ => rfl⟩, hV0.2⟩
   have hcr0 := okL_row (clean_ok (e := ⟨e0, L⟩) hL0)
   have hcl0 : (En.clean ⟨e0, L⟩).binds.length <= L.length := clean_len ⟨e0, L⟩
   have hA1 := hp1.1
   have hV1 := hp1.2
   have hvR1 := hV1.2
   simp only [Sp.inR, Cg.inR] at hvR1
   have hL1 := okL_rows hA1.2
   have hn1 := hA1.1
   have hlen1 := gBs_length n1 f1
   generalize gBs n1 f1 = M at *
   clear hA1 hp1
   subst hlen1
   have hrow1 := okL_row hL1
   have hvok1 : okV (⟨⟨⟨s1, l1, h1⟩, ⟨b1, m1, r1⟩⟩, ⟨z1, gN p1 fun i => [st (gT (g1 i))]⟩⟩ : Vl) := ⟨⟨(by rw [gN_length]; exact hV1.1.1), fun _ _ => rfl⟩, hV1.2⟩
   have hcr1 := okL_row (clean_ok (e := ⟨e1, M⟩) hL1)
   have hcl1 : (En.clean ⟨e1, M⟩).binds.length <= M.length := clean_len ⟨e1, M⟩
   repeat' (first | exact trivial | refine ⟨?_, ?_⟩ | intro _)
   all_goals first | (with_reducible first | apply qa | apply qb | apply qc | apply qd) | (conv => whnf)
   all_goals (try simp only [gBs_row, gN_lst] at *)
   all_goals first | exact hrow0 | exact hn0 | exact hV0.1.1 | exact hvR0.1.1 | exact hvR0.1.2 | exact hvR0.2.1 | exact hvR0.2.2 | exact hcr0 | exact hrow1 | exact hn1 | exact hV1.1.1 | exact hvR1.1.1 | exact hvR1.1.2 | exact hvR1.2.1 | exact hvR1.2.2 | exact hcr1 | omega | (intro i hi; rfl) | rfl | (unfold Sv.leq; first | (rw [‹En.leq _ _ = true›]; rfl) | (rw [‹En.leq _ _ = false›]; rfl))
 . cases h
abbrev enC (e : En) : List DV := [bo e.live, lstB e.binds]
def gEq (gz : List Cv -> Option Gs) (a b z : List DV) : Prop := ∃ p : Prop, gz [.agg a, .agg b] = some ⟨p, .va (.agg z)⟩ /\ p
theorem gEq_of {gz : List Cv -> Option Gs} {a b z z' : List DV} {p : Prop} (h : gz [.agg a, .agg b] = some ⟨p, .va (.agg z')⟩) (hz : z' = z) (hp : p) : gEq gz a b z := by subst hz; exact ⟨p, h, hp⟩
abbrev gEJ : List Cv -> Option Gs := mkFv (sums [(44, ⟨[], FEJoin⟩)]) 44 []
abbrev gEN : List Cv -> Option Gs := mkFv (sums [(47, ⟨[], FENarrow⟩)]) 47 []
theorem gEJ_ok {a b : En} (ha : a.binds.length <= 1099511627776 /\ RowsOk a.binds.length (rwB a.binds)) (hb : b.binds.length <= 1099511627776 /\ RowsOk b.binds.length (rwB b.binds)) (hr : Room a.binds b.binds) (hs : a.binds.length + b.binds.length <= 1099511627776) : gEq gEJ (enC a) (enC b) (enC (En.join a b)) :=
 gEq_of (z' := enC (En.join ⟨a.live, gBs a.binds.length (rwB a.binds)⟩ ⟨b.live, gBs b.binds.length (rwB b.binds)⟩)) rfl (by rw [gBs_row, gBs_row]) ⟨ha, hb, by rw [gBs_row, gBs_row]; exact hr, hs⟩
theorem gEN_ok {a b : En} (ha : a.binds.length <= 1099511627776 /\ RowsOk a.binds.length (rwB a.binds)) (hb : b.binds.length <= 1099511627776 /\ RowsOk b.binds.length (rwB b.binds)) (hs : a.binds.length + b.binds.length <= 1099511627776) : gEq gEN (enC a) (enC b) (enC (En.narrow a b)) :=
 gEq_of (z' := enC (En.narrow ⟨a.live, gBs a.binds.length (rwB a.binds)⟩ ⟨b.live, gBs b.binds.length (rwB b.binds)⟩)) rfl (by rw [gBs_row, gBs_row]) ⟨ha, hb, hs⟩
def FTParts (R : En) (W : Vl) (ge : List Cv -> Option Gs) (gv : List Cv -> Option Gs) : List Ar -> Option Rs
 | [.agg [.d (.v (.bool e0)), .d (.lst 9 n0 f0), .d (.v (.bool s0)), .d (.v (.int .i64 l0)), .d (.v (.int .i64 h0)), .d (.v (.bool b0)), .d (.v (.int .i64 m0)), .d (.v (.int .i64 r0)), .d (.v (.bool z0)), .d (.lst 1 p0 g0)], .agg [.d (.v (.bool e1)), .d (.lst 9 n1 f1), .d (.v (.bool s1)), .d (.v (.int .i64 l1)), .d (.v (.int .i64 h1)), .d (.v (.bool b1)), .d (.v (.int .i64 m1)), .d (.v (.int .i64 r1)), .d (.v (.bool z1)), .d (.lst 1 p1 g1)], .fv g2, .fv g3] => some ⟨((n0 <= 1099511627776 /\ RowsOk n0 f0) /\ ((p0 * 16 <= 140737488351232 /\ ∀ i, i < p0 -> g0 i = [st (gT (g0 i))]) /\ Sp.inR ⟨s0, l0, h0⟩ /\ Cg.inR ⟨b0, m0, r0⟩)) /\ ((n1 <= 1099511627776 /\ RowsOk n1 f1) /\ ((p1 * 16 <= 140737488351232 /\ ∀ i, i < p1 -> g1 i = [st (gT (g1 i))]) /\ Sp.inR ⟨s1, l1, h1⟩ /\ Cg.inR ⟨b1, m1, r1⟩)) /\ (g2 = ge /\ g3 = gv /\ gEq ge (enC (Sv.e (⟨⟨e0, gBs n0 f0⟩, ⟨⟨⟨s0, l0, h0⟩, ⟨b0, m0, r0⟩⟩, ⟨z0, gN p0 g0⟩⟩⟩ : Sv))) (enC (Sv.e (⟨⟨e1, gBs n1 f1⟩, ⟨⟨⟨s1, l1, h1⟩, ⟨b1, m1, r1⟩⟩, ⟨z1, gN p1 g1⟩⟩⟩ : Sv))) (enC R) /\ gEq gv [bo s0, it l0, it h0, bo b0, it m0, it r0, bo z0, .lst 1 p0 fun i => [st (gT (g0 i))]] [bo s1, it l1, it h1, bo b1, it m1, it r1, bo z1, .lst 1 p1 fun i => [st (gT (g1 i))]] (vlC W) /\ okL R.binds /\ R.binds.length <= 1099511627776 /\ okV W), .va (Sv.ar (Sv.clean ⟨R, W⟩)), []⟩
 | _ => none
theorem fcTParts (R : En) (W : Vl) (ge : List Cv -> Option Gs) (gv : List Cv -> Option Gs) : FC Tryz.prog 104 (FTParts R W ge gv) := by
 intro xs pre r us h hp
 unfold FTParts at h
 split at h
 . rename_i e0 n0 f0 s0 l0 h0 b0 m0 r0 z0 p0 g0 e1 n1 f1 s1 l1 h1 b1 m1 r1 z1 p1 g1 g2 g3
   cases h
   obtain ⟨hp0, hp1, hp2⟩ := hp
   refine FCat.deep (ys := [.agg [.d (.v (.bool e0)), .d (.lst 9 n0 (rwB (gBs n0 f0))), .d (.v (.bool s0)), .d (.v (.int .i64 l0)), .d (.v (.int .i64 h0)), .d (.v (.bool b0)), .d (.v (.int .i64 m0)), .d (.v (.int .i64 r0)), .d (.v (.bool z0)), .d (.lst 1 p0 fun i => [st (gT (g0 i))])], .agg [.d (.v (.bool e1)), .d (.lst 9 n1 (rwB (gBs n1 f1))), .d (.v (.bool s1)), .d (.v (.int .i64 l1)), .d (.v (.int .i64 h1)), .d (.v (.bool b1)), .d (.v (.int .i64 m1)), .d (.v (.int .i64 r1)), .d (.v (.bool z1)), .d (.lst 1 p1 fun i => [st (gT (g1 i))])], .fv g2, .fv g3]) ?_ ?_
   . repeat' (first | exact trivial | exact rfl | exact DvE.refl _ | refine ⟨?_, ?_⟩ | fail)
     all_goals first | first | exact canonB hp0.1.2.h | (exact .rows fun i hi => by rw [hp0.2.1.2 i hi]; exact ⟨rfl, fun j a b ha hb => by have hb : [st (gT (g0 i))][j]? = some b := hb; rw [ha] at hb; cases hb; exact .refl _⟩) | exact canonB hp1.1.2.h | (exact .rows fun i hi => by rw [hp1.2.1.2 i hi]; exact ⟨rfl, fun j a b ha hb => by have hb : [st (gT (g1 i))][j]? = some b := hb; rw [ha] at hb; cases hb; exact .refl _⟩)
   refine fcat tys_ok (l := [(48, ⟨[], FTClean⟩)]) ⟨fcTClean, trivial⟩ Tryz.func104 rfl (by kernel_rfl) true ?_
   obtain ⟨rfl, rfl, ⟨pe, hge, hpe⟩, ⟨pv, hgv, hpv⟩, hoR, hlR, hoW⟩ := hp2
   have hA0 := hp0.1
   have hV0 := hp0.2
   have hvR0 := hV0.2
   simp only [Sp.inR, Cg.inR] at hvR0
   have hL0 := okL_rows hA0.2
   have hn0 := hA0.1
   have hlen0 := gBs_length n0 f0
   generalize gBs n0 f0 = L at *
   clear hA0 hp0
   subst hlen0
   have hrow0 := okL_row hL0
   have hvok0 : okV (⟨⟨⟨s0, l0, h0⟩, ⟨b0, m0, r0⟩⟩, ⟨z0, gN p0 fun i => [st (gT (g0 i))]⟩⟩ : Vl) := ⟨⟨(by rw [gN_length]; exact hV0.1.1), fun _ _ => rfl⟩, hV0.2⟩
   have hcr0 := okL_row (clean_ok (e := ⟨e0, L⟩) hL0)
   have hcl0 : (En.clean ⟨e0, L⟩).binds.length <= L.length := clean_len ⟨e0, L⟩
   have hA1 := hp1.1
   have hV1 := hp1.2
   have hvR1 := hV1.2
   simp only [Sp.inR, Cg.inR] at hvR1
   have hL1 := okL_rows hA1.2
   have hn1 := hA1.1
   have hlen1 := gBs_length n1 f1
   generalize gBs n1 f1 = M at *
   clear hA1 hp1
   subst hlen1
   have hrow1 := okL_row hL1
   have hvok1 : okV (⟨⟨⟨s1, l1, h1⟩, ⟨b1, m1, r1⟩⟩, ⟨z1, gN p1 fun i => [st (gT (g1 i))]⟩⟩ : Vl) := ⟨⟨(by rw [gN_length]; exact hV1.1.1), fun _ _ => rfl⟩, hV1.2⟩
   have hcr1 := okL_row (clean_ok (e := ⟨e1, M⟩) hL1)
   have hcl1 : (En.clean ⟨e1, M⟩).binds.length <= M.length := clean_len ⟨e1, M⟩
   have hrR := okL_row hoR
   have hoW2 := hoW
   unfold okV at hoW2
   have hoWr := hoW2.2
   simp only [Sp.inR, Cg.inR] at hoWr
   dsimp only at hge hgv
   simp only [enC, vlC, gN_length] at hge hgv
   have hgv2 : ∀ i, [st (atS (gN p0 g0) i)] = [st (atS (gN p0 g0) i)] := fun _ => rfl
   repeat' (first | exact trivial | refine ⟨?_, ?_⟩ | intro _)
   all_goals first | (with_reducible first | apply qa | apply qb | apply qc | apply qd) | (conv => whnf)
   all_goals (try simp only [hge])
   all_goals repeat' (first | exact trivial | (with_reducible exact hpe) | refine ⟨?_, ?_⟩ | intro _)
   all_goals first | (with_reducible first | apply qa | apply qb | apply qc | apply qd) | (conv => whnf)
   all_goals (try simp only [hgv])
   all_goals repeat' (first | exact trivial | (with_reducible exact hpv) | refine ⟨?_, ?_⟩ | intro _)
   all_goals first | (with_reducible first | apply qa | apply qb | apply qc | apply qd) | (conv => whnf)
   all_goals (try simp only [gBs_row, gN_lst])
   all_goals first | exact hrR | exact hlR | exact hoW2.1.1 | exact hoWr.1.1 | exact hoWr.1.2 | exact hoWr.2.1 | exact hoWr.2.2 | omega | (intro i hi; rfl) | rfl
 . cases h
namespace Sv
def join (a b : Sv) : Sv := clean ⟨En.join a.e b.e, Vl.join a.v b.v⟩
def widen (a b : Sv) (l : List Int) : Sv := clean ⟨En.widen a.e b.e l, Vl.widen a.v b.v l⟩
def narrow (a b : Sv) : Sv := clean ⟨En.narrow a.e b.e, Vl.narrow a.v b.v⟩
end Sv
theorem vjoin_ok {x y : Vl} (hx : okV x) (hy : okV y) (hq : QJ x y) : okV (Vl.join x y) := by rw [Vl.join_eq]; exact okV_rj hx hy hq
theorem vwiden_ok {x y : Vl} {l : List Int} (hx : okV x) (hy : okV y) (hq : QJ x y) (hl : ∀ z, z ∈ l -> rI z) : okV (Vl.widen x y l) := by rw [widen_eq]; exact okV_rw hx hy hq hl
theorem vnarrow_ok {x y : Vl} (hx : okV x) (hy : okV y) : okV (Vl.narrow x y) := by rw [narrow_eq]; exact okV_rn hx hy
def FTJoin : List Ar -> Option Rs
 | [.agg [.d (.v (.bool e0)), .d (.lst 9 n0 f0), .d (.v (.bool s0)), .d (.v (.int .i64 l0)), .d (.v (.int .i64 h0)), .d (.v (.bool b0)), .d (.v (.int .i64 m0)), .d (.v (.int .i64 r0)), .d (.v (.bool z0)), .d (.lst 1 p0 g0)], .agg [.d (.v (.bool e1)), .d (.lst 9 n1 f1), .d (.v (.bool s1)), .d (.v (.int .i64 l1)), .d (.v (.int .i64 h1)), .d (.v (.bool b1)), .d (.v (.int .i64 m1)), .d (.v (.int .i64 r1)), .d (.v (.bool z1)), .d (.lst 1 p1 g1)]] => some ⟨((n0 <= 1099511627776 /\ RowsOk n0 f0) /\ ((p0 * 16 <= 140737488351232 /\ ∀ i, i < p0 -> g0 i = [st (gT (g0 i))]) /\ Sp.inR ⟨s0, l0, h0⟩ /\ Cg.inR ⟨b0, m0, r0⟩)) /\ ((n1 <= 1099511627776 /\ RowsOk n1 f1) /\ ((p1 * 16 <= 140737488351232 /\ ∀ i, i < p1 -> g1 i = [st (gT (g1 i))]) /\ Sp.inR ⟨s1, l1, h1⟩ /\ Cg.inR ⟨b1, m1, r1⟩)) /\ (Room (Sv.e (⟨⟨e0, gBs n0 f0⟩, ⟨⟨⟨s0, l0, h0⟩, ⟨b0, m0, r0⟩⟩, ⟨z0, gN p0 g0⟩⟩⟩ : Sv)).binds (Sv.e (⟨⟨e1, gBs n1 f1⟩, ⟨⟨⟨s1, l1, h1⟩, ⟨b1, m1, r1⟩⟩, ⟨z1, gN p1 g1⟩⟩⟩ : Sv)).binds /\ QJ (Sv.v (⟨⟨e0, gBs n0 f0⟩, ⟨⟨⟨s0, l0, h0⟩, ⟨b0, m0, r0⟩⟩, ⟨z0, gN p0 g0⟩⟩⟩ : Sv)) (Sv.v (⟨⟨e1, gBs n1 f1⟩, ⟨⟨⟨s1, l1, h1⟩, ⟨b1, m1, r1⟩⟩, ⟨z1, gN p1 g1⟩⟩⟩ : Sv)) /\ n0 + n1 <= 1099511627776), .va (Sv.ar (Sv.join (⟨⟨e0, gBs n0 f0⟩, ⟨⟨⟨s0, l0, h0⟩, ⟨b0, m0, r0⟩⟩, ⟨z0, gN p0 g0⟩⟩⟩ : Sv) (⟨⟨e1, gBs n1 f1⟩, ⟨⟨⟨s1, l1, h1⟩, ⟨b1, m1, r1⟩⟩, ⟨z1, gN p1 g1⟩⟩⟩ : Sv))), []⟩
 | _ => none
theorem fcTJoin : FC Tryz.prog 52 FTJoin := by
 intro xs pre r us h hp
 unfold FTJoin at h
 split at h
 . rename_i e0 n0 f0 s0 l0 h0 b0 m0 r0 z0 p0 g0 e1 n1 f1 s1 l1 h1 b1 m1 r1 z1 p1 g1
   cases h
   obtain ⟨hp0, hp1, hp2⟩ := hp
   refine FCat.deep (ys := [.agg [.d (.v (.bool e0)), .d (.lst 9 n0 (rwB (gBs n0 f0))), .d (.v (.bool s0)), .d (.v (.int .i64 l0)), .d (.v (.int .i64 h0)), .d (.v (.bool b0)), .d (.v (.int .i64 m0)), .d (.v (.int .i64 r0)), .d (.v (.bool z0)), .d (.lst 1 p0 fun i => [st (gT (g0 i))])], .agg [.d (.v (.bool e1)), .d (.lst 9 n1 (rwB (gBs n1 f1))), .d (.v (.bool s1)), .d (.v (.int .i64 l1)), .d (.v (.int .i64 h1)), .d (.v (.bool b1)), .d (.v (.int .i64 m1)), .d (.v (.int .i64 r1)), .d (.v (.bool z1)), .d (.lst 1 p1 fun i => [st (gT (g1 i))])]]) ?_ ?_
   . repeat' (first | exact trivial | exact rfl | exact DvE.refl _ | refine ⟨?_, ?_⟩ | fail)
     all_goals first | first | exact canonB hp0.1.2.h | (exact .rows fun i hi => by rw [hp0.2.1.2 i hi]; exact ⟨rfl, fun j a b ha hb => by have hb : [st (gT (g0 i))][j]? = some b := hb; rw [ha] at hb; cases hb; exact .refl _⟩) | exact canonB hp1.1.2.h | (exact .rows fun i hi => by rw [hp1.2.1.2 i hi]; exact ⟨rfl, fun j a b ha hb => by have hb : [st (gT (g1 i))][j]? = some b := hb; rw [ha] at hb; cases hb; exact .refl _⟩)
   refine fcat tys_ok (l := [(104, ⟨[], (FTParts (En.join ⟨e0, gBs n0 (rwB (gBs n0 f0))⟩ ⟨e1, gBs n1 (rwB (gBs n1 f1))⟩) (Vl.join (⟨⟨⟨s0, l0, h0⟩, ⟨b0, m0, r0⟩⟩, ⟨z0, gN p0 fun i => [st (gT (g0 i))]⟩⟩ : Vl) (⟨⟨⟨s1, l1, h1⟩, ⟨b1, m1, r1⟩⟩, ⟨z1, gN p1 fun i => [st (gT (g1 i))]⟩⟩ : Vl)) gEJ gJoin)⟩), (44, ⟨[], FEJoin⟩), (95, ⟨[], FN 1 FVJoin⟩)]) ⟨(fcTParts (En.join ⟨e0, gBs n0 (rwB (gBs n0 f0))⟩ ⟨e1, gBs n1 (rwB (gBs n1 f1))⟩) (Vl.join (⟨⟨⟨s0, l0, h0⟩, ⟨b0, m0, r0⟩⟩, ⟨z0, gN p0 fun i => [st (gT (g0 i))]⟩⟩ : Vl) (⟨⟨⟨s1, l1, h1⟩, ⟨b1, m1, r1⟩⟩, ⟨z1, gN p1 fun i => [st (gT (g1 i))]⟩⟩ : Vl)) gEJ gJoin), fcEJoin, fc_nil 1 fcVJoin, trivial⟩ Tryz.func52 rfl (by kernel_rfl) true ?_
   obtain ⟨hroom, hqj, hsum⟩ := hp2
   dsimp only at hroom
   have hA0 := hp0.1
   have hV0 := hp0.2
   have hvR0 := hV0.2
   simp only [Sp.inR, Cg.inR] at hvR0
   have hL0 := okL_rows hA0.2
   have hn0 := hA0.1
   have hlen0 := gBs_length n0 f0
   generalize gBs n0 f0 = L at *
   clear hA0 hp0
   subst hlen0
   have hrow0 := okL_row hL0
   have hvok0 : okV (⟨⟨⟨s0, l0, h0⟩, ⟨b0, m0, r0⟩⟩, ⟨z0, gN p0 fun i => [st (gT (g0 i))]⟩⟩ : Vl) := ⟨⟨(by rw [gN_length]; exact hV0.1.1), fun _ _ => rfl⟩, hV0.2⟩
   have hcr0 := okL_row (clean_ok (e := ⟨e0, L⟩) hL0)
   have hcl0 : (En.clean ⟨e0, L⟩).binds.length <= L.length := clean_len ⟨e0, L⟩
   have hA1 := hp1.1
   have hV1 := hp1.2
   have hvR1 := hV1.2
   simp only [Sp.inR, Cg.inR] at hvR1
   have hL1 := okL_rows hA1.2
   have hn1 := hA1.1
   have hlen1 := gBs_length n1 f1
   generalize gBs n1 f1 = M at *
   clear hA1 hp1
   subst hlen1
   have hrow1 := okL_row hL1
   have hvok1 : okV (⟨⟨⟨s1, l1, h1⟩, ⟨b1, m1, r1⟩⟩, ⟨z1, gN p1 fun i => [st (gT (g1 i))]⟩⟩ : Vl) := ⟨⟨(by rw [gN_length]; exact hV1.1.1), fun _ _ => rfl⟩, hV1.2⟩
   have hcr1 := okL_row (clean_ok (e := ⟨e1, M⟩) hL1)
   have hcl1 : (En.clean ⟨e1, M⟩).binds.length <= M.length := clean_len ⟨e1, M⟩
   have hqj2 : QJ (⟨⟨⟨s0, l0, h0⟩, ⟨b0, m0, r0⟩⟩, ⟨z0, gN p0 fun i => [st (gT (g0 i))]⟩⟩ : Vl) (⟨⟨⟨s1, l1, h1⟩, ⟨b1, m1, r1⟩⟩, ⟨z1, gN p1 fun i => [st (gT (g1 i))]⟩⟩ : Vl) := hqj
   have hsumV : (p0 + p1) * 16 <= 140737488351232 := by have := hqj; unfold QJ at this; simpa [gN_length] using this
   have hge := gEJ_ok (a := ⟨e0, gBs L.length (rwB L)⟩) (b := ⟨e1, gBs M.length (rwB M)⟩) (by rw [gBs_row]; exact ⟨hn0, hrow0⟩) (by rw [gBs_row]; exact ⟨hn1, hrow1⟩) (by rw [gBs_row, gBs_row]; exact hroom) (by rw [gBs_row, gBs_row]; exact hsum)
   have hokR : okL (En.join ⟨e0, gBs L.length (rwB L)⟩ ⟨e1, gBs M.length (rwB M)⟩).binds := join_okL (by rw [gBs_row]; exact hL0) (by rw [gBs_row]; exact hL1) (by rw [gBs_row, gBs_row]; exact hroom)
   have hlR : (En.join ⟨e0, gBs L.length (rwB L)⟩ ⟨e1, gBs M.length (rwB M)⟩).binds.length <= 1099511627776 := Nat.le_trans (join_len _ _) (by rw [gBs_row, gBs_row]; exact hsum)
   have hokW := vjoin_ok hvok0 hvok1 hqj2
   have hgv : gEq gJoin [bo s0, it l0, it h0, bo b0, it m0, it r0, bo z0, .lst 1 p0 fun i => [st (gT [st (gT (g0 i))])]] [bo s1, it l1, it h1, bo b1, it m1, it r1, bo z1, .lst 1 p1 fun i => [st (gT [st (gT (g1 i))])]] (vlC (Vl.join (⟨⟨⟨s0, l0, h0⟩, ⟨b0, m0, r0⟩⟩, ⟨z0, gN p0 fun i => [st (gT (g0 i))]⟩⟩ : Vl) (⟨⟨⟨s1, l1, h1⟩, ⟨b1, m1, r1⟩⟩, ⟨z1, gN p1 fun i => [st (gT (g1 i))]⟩⟩ : Vl))) := gEq_of rfl rfl ⟨⟨⟨hV0.1.1, fun i hi => rfl⟩, hV0.2⟩, ⟨⟨hV1.1.1, fun i hi => rfl⟩, hV1.2⟩, hsumV⟩
   repeat' (first | exact trivial | (with_reducible first | exact hge | exact hgv | exact hokR | exact hokW | exact hlR) | refine ⟨?_, ?_⟩ | intro _)
   all_goals first | (with_reducible first | apply qa | apply qb | apply qc | apply qd) | (conv => whnf)
   all_goals (try simp only [gBs_row, gN_lst])
   all_goals first | exact hlR | (rw [gBs_row, gBs_row] at hlR; exact hlR) | exact hrow0 | exact hn0 | exact hV0.1.1 | exact hvR0.1.1 | exact hvR0.1.2 | exact hvR0.2.1 | exact hvR0.2.2 | exact hcr0 | exact hrow1 | exact hn1 | exact hV1.1.1 | exact hvR1.1.1 | exact hvR1.1.2 | exact hvR1.2.1 | exact hvR1.2.2 | exact hcr1 | omega | (intro i hi; rfl) | rfl
 . cases h
def FTNarrow : List Ar -> Option Rs
 | [.agg [.d (.v (.bool e0)), .d (.lst 9 n0 f0), .d (.v (.bool s0)), .d (.v (.int .i64 l0)), .d (.v (.int .i64 h0)), .d (.v (.bool b0)), .d (.v (.int .i64 m0)), .d (.v (.int .i64 r0)), .d (.v (.bool z0)), .d (.lst 1 p0 g0)], .agg [.d (.v (.bool e1)), .d (.lst 9 n1 f1), .d (.v (.bool s1)), .d (.v (.int .i64 l1)), .d (.v (.int .i64 h1)), .d (.v (.bool b1)), .d (.v (.int .i64 m1)), .d (.v (.int .i64 r1)), .d (.v (.bool z1)), .d (.lst 1 p1 g1)]] => some ⟨((n0 <= 1099511627776 /\ RowsOk n0 f0) /\ ((p0 * 16 <= 140737488351232 /\ ∀ i, i < p0 -> g0 i = [st (gT (g0 i))]) /\ Sp.inR ⟨s0, l0, h0⟩ /\ Cg.inR ⟨b0, m0, r0⟩)) /\ ((n1 <= 1099511627776 /\ RowsOk n1 f1) /\ ((p1 * 16 <= 140737488351232 /\ ∀ i, i < p1 -> g1 i = [st (gT (g1 i))]) /\ Sp.inR ⟨s1, l1, h1⟩ /\ Cg.inR ⟨b1, m1, r1⟩)) /\ (n0 + n1 <= 1099511627776), .va (Sv.ar (Sv.narrow (⟨⟨e0, gBs n0 f0⟩, ⟨⟨⟨s0, l0, h0⟩, ⟨b0, m0, r0⟩⟩, ⟨z0, gN p0 g0⟩⟩⟩ : Sv) (⟨⟨e1, gBs n1 f1⟩, ⟨⟨⟨s1, l1, h1⟩, ⟨b1, m1, r1⟩⟩, ⟨z1, gN p1 g1⟩⟩⟩ : Sv))), []⟩
 | _ => none
theorem fcTNarrow : FC Tryz.prog 55 FTNarrow := by
 intro xs pre r us h hp
 unfold FTNarrow at h
 split at h
 . rename_i e0 n0 f0 s0 l0 h0 b0 m0 r0 z0 p0 g0 e1 n1 f1 s1 l1 h1 b1 m1 r1 z1 p1 g1
   cases h
   obtain ⟨hp0, hp1, hp2⟩ := hp
   refine FCat.deep (ys := [.agg [.d (.v (.bool e0)), .d (.lst 9 n0 (rwB (gBs n0 f0))), .d (.v (.bool s0)), .d (.v (.int .i64 l0)), .d (.v (.int .i64 h0)), .d (.v (.bool b0)), .d (.v (.int .i64 m0)), .d (.v (.int .i64 r0)), .d (.v (.bool z0)), .d (.lst 1 p0 fun i => [st (gT (g0 i))])], .agg [.d (.v (.bool e1)), .d (.lst 9 n1 (rwB (gBs n1 f1))), .d (.v (.bool s1)), .d (.v (.int .i64 l1)), .d (.v (.int .i64 h1)), .d (.v (.bool b1)), .d (.v (.int .i64 m1)), .d (.v (.int .i64 r1)), .d (.v (.bool z1)), .d (.lst 1 p1 fun i => [st (gT (g1 i))])]]) ?_ ?_
   . repeat' (first | exact trivial | exact rfl | exact DvE.refl _ | refine ⟨?_, ?_⟩ | fail)
     all_goals first | first | exact canonB hp0.1.2.h | (exact .rows fun i hi => by rw [hp0.2.1.2 i hi]; exact ⟨rfl, fun j a b ha hb => by have hb : [st (gT (g0 i))][j]? = some b := hb; rw [ha] at hb; cases hb; exact .refl _⟩) | exact canonB hp1.1.2.h | (exact .rows fun i hi => by rw [hp1.2.1.2 i hi]; exact ⟨rfl, fun j a b ha hb => by have hb : [st (gT (g1 i))][j]? = some b := hb; rw [ha] at hb; cases hb; exact .refl _⟩)
   refine fcat tys_ok (l := [(104, ⟨[], (FTParts (En.narrow ⟨e0, gBs n0 (rwB (gBs n0 f0))⟩ ⟨e1, gBs n1 (rwB (gBs n1 f1))⟩) (Vl.narrow (⟨⟨⟨s0, l0, h0⟩, ⟨b0, m0, r0⟩⟩, ⟨z0, gN p0 fun i => [st (gT (g0 i))]⟩⟩ : Vl) (⟨⟨⟨s1, l1, h1⟩, ⟨b1, m1, r1⟩⟩, ⟨z1, gN p1 fun i => [st (gT (g1 i))]⟩⟩ : Vl)) gEN gNarrow)⟩), (47, ⟨[], FENarrow⟩), (102, ⟨[], FN 1 FVNarrow⟩)]) ⟨(fcTParts (En.narrow ⟨e0, gBs n0 (rwB (gBs n0 f0))⟩ ⟨e1, gBs n1 (rwB (gBs n1 f1))⟩) (Vl.narrow (⟨⟨⟨s0, l0, h0⟩, ⟨b0, m0, r0⟩⟩, ⟨z0, gN p0 fun i => [st (gT (g0 i))]⟩⟩ : Vl) (⟨⟨⟨s1, l1, h1⟩, ⟨b1, m1, r1⟩⟩, ⟨z1, gN p1 fun i => [st (gT (g1 i))]⟩⟩ : Vl)) gEN gNarrow), fcENarrow, fc_nil 1 fcVNarrow, trivial⟩ Tryz.func55 rfl (by kernel_rfl) true ?_
   have hsum : n0 + n1 <= 1099511627776 := hp2
   have hA0 := hp0.1
   have hV0 := hp0.2
   have hvR0 := hV0.2
   simp only [Sp.inR, Cg.inR] at hvR0
   have hL0 := okL_rows hA0.2
   have hn0 := hA0.1
   have hlen0 := gBs_length n0 f0
   generalize gBs n0 f0 = L at *
   clear hA0 hp0
   subst hlen0
   have hrow0 := okL_row hL0
   have hvok0 : okV (⟨⟨⟨s0, l0, h0⟩, ⟨b0, m0, r0⟩⟩, ⟨z0, gN p0 fun i => [st (gT (g0 i))]⟩⟩ : Vl) := ⟨⟨(by rw [gN_length]; exact hV0.1.1), fun _ _ => rfl⟩, hV0.2⟩
   have hcr0 := okL_row (clean_ok (e := ⟨e0, L⟩) hL0)
   have hcl0 : (En.clean ⟨e0, L⟩).binds.length <= L.length := clean_len ⟨e0, L⟩
   have hA1 := hp1.1
   have hV1 := hp1.2
   have hvR1 := hV1.2
   simp only [Sp.inR, Cg.inR] at hvR1
   have hL1 := okL_rows hA1.2
   have hn1 := hA1.1
   have hlen1 := gBs_length n1 f1
   generalize gBs n1 f1 = M at *
   clear hA1 hp1
   subst hlen1
   have hrow1 := okL_row hL1
   have hvok1 : okV (⟨⟨⟨s1, l1, h1⟩, ⟨b1, m1, r1⟩⟩, ⟨z1, gN p1 fun i => [st (gT (g1 i))]⟩⟩ : Vl) := ⟨⟨(by rw [gN_length]; exact hV1.1.1), fun _ _ => rfl⟩, hV1.2⟩
   have hcr1 := okL_row (clean_ok (e := ⟨e1, M⟩) hL1)
   have hcl1 : (En.clean ⟨e1, M⟩).binds.length <= M.length := clean_len ⟨e1, M⟩
   have hge := gEN_ok (a := ⟨e0, gBs L.length (rwB L)⟩) (b := ⟨e1, gBs M.length (rwB M)⟩) (by rw [gBs_row]; exact ⟨hn0, hrow0⟩) (by rw [gBs_row]; exact ⟨hn1, hrow1⟩) (by rw [gBs_row, gBs_row]; exact hsum)
   have hokR : okL (En.narrow ⟨e0, gBs L.length (rwB L)⟩ ⟨e1, gBs M.length (rwB M)⟩).binds := narrow_okL (by rw [gBs_row]; exact hL0) (by rw [gBs_row]; exact hL1)
   have hlR : (En.narrow ⟨e0, gBs L.length (rwB L)⟩ ⟨e1, gBs M.length (rwB M)⟩).binds.length <= 1099511627776 := Nat.le_trans (narrow_len _ _) (by rw [gBs_row, gBs_row]; exact hsum)
   have hokW := vnarrow_ok hvok0 hvok1
   have hgv : gEq gNarrow [bo s0, it l0, it h0, bo b0, it m0, it r0, bo z0, .lst 1 p0 fun i => [st (gT [st (gT (g0 i))])]] [bo s1, it l1, it h1, bo b1, it m1, it r1, bo z1, .lst 1 p1 fun i => [st (gT [st (gT (g1 i))])]] (vlC (Vl.narrow (⟨⟨⟨s0, l0, h0⟩, ⟨b0, m0, r0⟩⟩, ⟨z0, gN p0 fun i => [st (gT (g0 i))]⟩⟩ : Vl) (⟨⟨⟨s1, l1, h1⟩, ⟨b1, m1, r1⟩⟩, ⟨z1, gN p1 fun i => [st (gT (g1 i))]⟩⟩ : Vl))) := gEq_of rfl rfl ⟨⟨⟨hV0.1.1, fun i hi => rfl⟩, hV0.2⟩, ⟨⟨hV1.1.1, fun i hi => rfl⟩, hV1.2⟩⟩
   repeat' (first | exact trivial | (with_reducible first | exact hge | exact hgv | exact hokR | exact hokW | exact hlR) | refine ⟨?_, ?_⟩ | intro _)
   all_goals first | (with_reducible first | apply qa | apply qb | apply qc | apply qd) | (conv => whnf)
   all_goals (try simp only [gBs_row, gN_lst])
   all_goals first | exact hlR | (rw [gBs_row, gBs_row] at hlR; exact hlR) | exact hrow0 | exact hn0 | exact hV0.1.1 | exact hvR0.1.1 | exact hvR0.1.2 | exact hvR0.2.1 | exact hvR0.2.2 | exact hcr0 | exact hrow1 | exact hn1 | exact hV1.1.1 | exact hvR1.1.1 | exact hvR1.1.2 | exact hvR1.2.1 | exact hvR1.2.2 | exact hcr1 | omega | (intro i hi; rfl) | rfl
 . cases h
def FWEC : List Ar -> Option Rs
 | [.agg [.d (.v (.bool e0)), .d (.lst 9 n0 f0)], .agg [.d (.v (.bool e1)), .d (.lst 9 n1 f1)], .rp [.lst 1 n2 f2]] => some ⟨(n0 <= 1099511627776 /\ RowsOk n0 f0) /\ (n1 <= 1099511627776 /\ RowsOk n1 f1) /\ (n2 <= 9223372036854775807 /\ ∀ i, i < n2 -> f2 i = [it (gI (f2 i))] /\ rI (gI (f2 i))) /\ (Room (gBs n0 f0) (gBs n1 f1) /\ n0 + n1 <= 1099511627776), .va (En.ar (En.widen (⟨e0, gBs n0 f0⟩ : En) (⟨e1, gBs n1 f1⟩ : En) (gL n2 f2))), []⟩
 | _ => none
theorem fcWEC : FC Tryz.prog 105 FWEC := by
 intro xs pre r us h hp
 unfold FWEC at h
 split at h
 . rename_i e0 n0 f0 e1 n1 f1 n2 f2
   cases h
   obtain ⟨hp0, hp1, hp2, hp3⟩ := hp
   refine FCat.deep (ys := [.agg [.d (.v (.bool e0)), .d (.lst 9 n0 (rwB (gBs n0 f0)))], .agg [.d (.v (.bool e1)), .d (.lst 9 n1 (rwB (gBs n1 f1)))], .rp [.lst 1 n2 f2]]) ?_ ?_
   . repeat' (first | exact trivial | exact rfl | exact DvE.refl _ | refine ⟨?_, ?_⟩ | fail)
     all_goals first | first | exact canonB hp0.2.h | exact canonB hp1.2.h
   refine fcat tys_ok (l := [(46, ⟨[], FEWiden⟩)]) ⟨fcEWiden, trivial⟩ Tryz.func105 rfl (by kernel_rfl) true ?_
   obtain ⟨hroom, hsum⟩ := hp3
   have hn := hp0.1
   have hL := okL_rows hp0.2
   have hlen := gBs_length n0 f0
   generalize gBs n0 f0 = L at *
   clear hp0
   subst hlen
   have hrow := okL_row hL
   have hb := gBs_row L
   have hm := hp1.1
   have hM := okL_rows hp1.2
   have hlen1 := gBs_length n1 f1
   generalize gBs n1 f1 = M at *
   clear hp1
   subst hlen1
   have hrow1 := okL_row hM
   have hb1 := gBs_row M
   repeat' (first | exact trivial | (with_reducible first | exact hroom | exact hp2 | exact hp2.1 | exact hp2.2) | refine ⟨?_, ?_⟩ | intro _)
   all_goals first | (with_reducible first | apply qa | apply qb | apply qc | apply qd) | (conv => whnf)
   all_goals (try simp only [gBs_row])
   all_goals first | exact hn | exact hm | exact hrow | exact hrow1 | exact hroom | exact hsum | rfl | exact (hp2.2 _ ‹_›).2.1 | exact (hp2.2 _ ‹_›).2.2 | exact (hp2.2 _ ‹_›).1
 . cases h
def FWVC : List Ar -> Option Rs
 | [.agg [.d (.v (.bool s0)), .d (.v (.int .i64 l0)), .d (.v (.int .i64 h0)), .d (.v (.bool b0)), .d (.v (.int .i64 m0)), .d (.v (.int .i64 r0)), .d (.v (.bool z0)), .d (.lst 1 n0 f0)], .agg [.d (.v (.bool s1)), .d (.v (.int .i64 l1)), .d (.v (.int .i64 h1)), .d (.v (.bool b1)), .d (.v (.int .i64 m1)), .d (.v (.int .i64 r1)), .d (.v (.bool z1)), .d (.lst 1 n1 f1)], .rp [.lst 1 n2 f2]] => some ⟨((n0 * 16 <= 140737488351232 /\ ∀ i, i < n0 -> f0 i = [st (gT (f0 i))]) /\ Sp.inR ⟨s0, l0, h0⟩ /\ Cg.inR ⟨b0, m0, r0⟩) /\ ((n1 * 16 <= 140737488351232 /\ ∀ i, i < n1 -> f1 i = [st (gT (f1 i))]) /\ Sp.inR ⟨s1, l1, h1⟩ /\ Cg.inR ⟨b1, m1, r1⟩) /\ (n2 <= 9223372036854775807 /\ ∀ i, i < n2 -> f2 i = [it (gI (f2 i))] /\ rI (gI (f2 i))) /\ ((n0 + n1) * 16 <= 140737488351232), .va (Vl.ar (Vl.widen (⟨⟨⟨s0, l0, h0⟩, ⟨b0, m0, r0⟩⟩, ⟨z0, gN n0 f0⟩⟩ : Vl) (⟨⟨⟨s1, l1, h1⟩, ⟨b1, m1, r1⟩⟩, ⟨z1, gN n1 f1⟩⟩ : Vl) (gL n2 f2))), []⟩
 | _ => none
theorem fcWVC : FC Tryz.prog 106 FWVC := by
 intro xs pre r us h hp
 unfold FWVC at h
 split at h
 . rename_i s0 l0 h0 b0 m0 r0 z0 n0 f0 s1 l1 h1 b1 m1 r1 z1 n1 f1 n2 f2
   cases h
   obtain ⟨hp0, hp1, hp2, hp3⟩ := hp
   refine FCat.of_eq (as' := [.agg [.d (.v (.bool s0)), .d (.v (.int .i64 l0)), .d (.v (.int .i64 h0)), .d (.v (.bool b0)), .d (.v (.int .i64 m0)), .d (.v (.int .i64 r0)), .d (.v (.bool z0)), .d (.lst 1 n0 fun i => [st (gT (f0 i))])], .agg [.d (.v (.bool s1)), .d (.v (.int .i64 l1)), .d (.v (.int .i64 h1)), .d (.v (.bool b1)), .d (.v (.int .i64 m1)), .d (.v (.int .i64 r1)), .d (.v (.bool z1)), .d (.lst 1 n1 fun i => [st (gT (f1 i))])], .rp [.lst 1 n2 f2]]) ?_ rfl rfl ?_
   . repeat' (first | exact trivial | exact rfl | refine ⟨?_, ?_⟩ | fail)
     all_goals first | exact hp0.1.2 | exact hp1.1.2 | exact hp0.2 | exact hp1.2 | exact hp2.2 | (intro i hi; exact (hp0.2 i hi).1) | (intro i hi; exact (hp1.2 i hi).1) | (intro i hi; exact (hp2.2 i hi).1) | grind
   refine fcat tys_ok (l := [(101, ⟨[], FVWiden⟩)]) ⟨fcVWiden, trivial⟩ Tryz.func106 rfl (by kernel_rfl) true ?_
   repeat' (first | exact trivial | (with_reducible first | exact hp0.1 | exact hp1.1 | exact hp0.1.1 | exact hp1.1.1 | exact hp0.2 | exact hp1.2 | exact hp0.2.1 | exact hp0.2.2 | exact hp1.2.1 | exact hp1.2.2 | exact hp2 | exact hp2.1 | exact hp2.2 | exact hp3) | refine ⟨?_, ?_⟩ | intro _)
   all_goals first | (with_reducible first | apply qa | apply qb | apply qc | apply qd) | (conv => whnf)
   all_goals (try simp only [gN_lst])
   all_goals first | rfl
 . cases h
abbrev gEWc (nk : Nat) (fk : Nat -> List DV) : List Cv -> Option Gs := mkFv (sums [(105, ⟨[], FWEC⟩)]) 105 [.rp [.lst 1 nk fk]]
abbrev gVWc (nk : Nat) (fk : Nat -> List DV) : List Cv -> Option Gs := mkFv (sums [(106, ⟨[], FWVC⟩)]) 106 [.rp [.lst 1 nk fk]]
theorem gEWc_ok {nk : Nat} {fk : Nat -> List DV} (hk : nk <= 9223372036854775807 /\ ∀ i, i < nk -> fk i = [it (gI (fk i))] /\ rI (gI (fk i))) {a b : En} (ha : a.binds.length <= 1099511627776 /\ RowsOk a.binds.length (rwB a.binds)) (hb : b.binds.length <= 1099511627776 /\ RowsOk b.binds.length (rwB b.binds)) (hr : Room a.binds b.binds) (hs : a.binds.length + b.binds.length <= 1099511627776) : gEq (gEWc nk fk) (enC a) (enC b) (enC (En.widen a b (gL nk fk))) :=
 gEq_of (z' := enC (En.widen ⟨a.live, gBs a.binds.length (rwB a.binds)⟩ ⟨b.live, gBs b.binds.length (rwB b.binds)⟩ (gL nk fk))) rfl (by rw [gBs_row, gBs_row]) ⟨ha, hb, hk, by rw [gBs_row, gBs_row]; exact hr, hs⟩
def FTWiden : List Ar -> Option Rs
 | [.agg [.d (.v (.bool e0)), .d (.lst 9 n0 f0), .d (.v (.bool s0)), .d (.v (.int .i64 l0)), .d (.v (.int .i64 h0)), .d (.v (.bool b0)), .d (.v (.int .i64 m0)), .d (.v (.int .i64 r0)), .d (.v (.bool z0)), .d (.lst 1 p0 g0)], .agg [.d (.v (.bool e1)), .d (.lst 9 n1 f1), .d (.v (.bool s1)), .d (.v (.int .i64 l1)), .d (.v (.int .i64 h1)), .d (.v (.bool b1)), .d (.v (.int .i64 m1)), .d (.v (.int .i64 r1)), .d (.v (.bool z1)), .d (.lst 1 p1 g1)], .c (.d (.lst 1 n2 f2))] => some ⟨((n0 <= 1099511627776 /\ RowsOk n0 f0) /\ ((p0 * 16 <= 140737488351232 /\ ∀ i, i < p0 -> g0 i = [st (gT (g0 i))]) /\ Sp.inR ⟨s0, l0, h0⟩ /\ Cg.inR ⟨b0, m0, r0⟩)) /\ ((n1 <= 1099511627776 /\ RowsOk n1 f1) /\ ((p1 * 16 <= 140737488351232 /\ ∀ i, i < p1 -> g1 i = [st (gT (g1 i))]) /\ Sp.inR ⟨s1, l1, h1⟩ /\ Cg.inR ⟨b1, m1, r1⟩)) /\ (n2 <= 9223372036854775807 /\ ∀ i, i < n2 -> f2 i = [it (gI (f2 i))] /\ rI (gI (f2 i))) /\ (Room (Sv.e (⟨⟨e0, gBs n0 f0⟩, ⟨⟨⟨s0, l0, h0⟩, ⟨b0, m0, r0⟩⟩, ⟨z0, gN p0 g0⟩⟩⟩ : Sv)).binds (Sv.e (⟨⟨e1, gBs n1 f1⟩, ⟨⟨⟨s1, l1, h1⟩, ⟨b1, m1, r1⟩⟩, ⟨z1, gN p1 g1⟩⟩⟩ : Sv)).binds /\ QJ (Sv.v (⟨⟨e0, gBs n0 f0⟩, ⟨⟨⟨s0, l0, h0⟩, ⟨b0, m0, r0⟩⟩, ⟨z0, gN p0 g0⟩⟩⟩ : Sv)) (Sv.v (⟨⟨e1, gBs n1 f1⟩, ⟨⟨⟨s1, l1, h1⟩, ⟨b1, m1, r1⟩⟩, ⟨z1, gN p1 g1⟩⟩⟩ : Sv)) /\ n0 + n1 <= 1099511627776), .va (Sv.ar (Sv.widen (⟨⟨e0, gBs n0 f0⟩, ⟨⟨⟨s0, l0, h0⟩, ⟨b0, m0, r0⟩⟩, ⟨z0, gN p0 g0⟩⟩⟩ : Sv) (⟨⟨e1, gBs n1 f1⟩, ⟨⟨⟨s1, l1, h1⟩, ⟨b1, m1, r1⟩⟩, ⟨z1, gN p1 g1⟩⟩⟩ : Sv) (gL n2 f2))), []⟩
 | _ => none
theorem fcTWiden : FC Tryz.prog 54 FTWiden := by
 intro xs pre r us h hp
 unfold FTWiden at h
 split at h
 . rename_i e0 n0 f0 s0 l0 h0 b0 m0 r0 z0 p0 g0 e1 n1 f1 s1 l1 h1 b1 m1 r1 z1 p1 g1 n2 f2
   cases h
   obtain ⟨hp0, hp1, hp2, hp3⟩ := hp
   refine FCat.deep (ys := [.agg [.d (.v (.bool e0)), .d (.lst 9 n0 (rwB (gBs n0 f0))), .d (.v (.bool s0)), .d (.v (.int .i64 l0)), .d (.v (.int .i64 h0)), .d (.v (.bool b0)), .d (.v (.int .i64 m0)), .d (.v (.int .i64 r0)), .d (.v (.bool z0)), .d (.lst 1 p0 fun i => [st (gT (g0 i))])], .agg [.d (.v (.bool e1)), .d (.lst 9 n1 (rwB (gBs n1 f1))), .d (.v (.bool s1)), .d (.v (.int .i64 l1)), .d (.v (.int .i64 h1)), .d (.v (.bool b1)), .d (.v (.int .i64 m1)), .d (.v (.int .i64 r1)), .d (.v (.bool z1)), .d (.lst 1 p1 fun i => [st (gT (g1 i))])], .c (.d (.lst 1 n2 fun i => [it (gI (f2 i))]))]) ?_ ?_
   . repeat' (first | exact trivial | exact rfl | exact DvE.refl _ | refine ⟨?_, ?_⟩ | fail)
     all_goals first | first | exact canonB hp0.1.2.h | (exact .rows fun i hi => by rw [hp0.2.1.2 i hi]; exact ⟨rfl, fun j a b ha hb => by have hb : [st (gT (g0 i))][j]? = some b := hb; rw [ha] at hb; cases hb; exact .refl _⟩) | exact canonB hp1.1.2.h | (exact .rows fun i hi => by rw [hp1.2.1.2 i hi]; exact ⟨rfl, fun j a b ha hb => by have hb : [st (gT (g1 i))][j]? = some b := hb; rw [ha] at hb; cases hb; exact .refl _⟩) | (exact .rows fun i hi => by rw [(hp2.2 i hi).1]; exact ⟨rfl, fun j a b ha hb => by have hb : [it (gI (f2 i))][j]? = some b := hb; rw [ha] at hb; cases hb; exact .refl _⟩)
   refine fcat tys_ok (l := [(104, ⟨[], (FTParts (En.widen ⟨e0, gBs n0 (rwB (gBs n0 f0))⟩ ⟨e1, gBs n1 (rwB (gBs n1 f1))⟩ (gL n2 (fun i => [it (gI (f2 i))]))) (Vl.widen (⟨⟨⟨s0, l0, h0⟩, ⟨b0, m0, r0⟩⟩, ⟨z0, gN p0 fun i => [st (gT (g0 i))]⟩⟩ : Vl) (⟨⟨⟨s1, l1, h1⟩, ⟨b1, m1, r1⟩⟩, ⟨z1, gN p1 fun i => [st (gT (g1 i))]⟩⟩ : Vl) (gL n2 (fun i => [it (gI (f2 i))]))) (gEWc n2 (fun i => [it (gI (f2 i))])) (gVWc n2 (fun i => [it (gI (f2 i))])))⟩), (105, ⟨[], FWEC⟩), (106, ⟨[], FWVC⟩)]) ⟨(fcTParts (En.widen ⟨e0, gBs n0 (rwB (gBs n0 f0))⟩ ⟨e1, gBs n1 (rwB (gBs n1 f1))⟩ (gL n2 (fun i => [it (gI (f2 i))]))) (Vl.widen (⟨⟨⟨s0, l0, h0⟩, ⟨b0, m0, r0⟩⟩, ⟨z0, gN p0 fun i => [st (gT (g0 i))]⟩⟩ : Vl) (⟨⟨⟨s1, l1, h1⟩, ⟨b1, m1, r1⟩⟩, ⟨z1, gN p1 fun i => [st (gT (g1 i))]⟩⟩ : Vl) (gL n2 (fun i => [it (gI (f2 i))]))) (gEWc n2 (fun i => [it (gI (f2 i))])) (gVWc n2 (fun i => [it (gI (f2 i))]))), fcWEC, fcWVC, trivial⟩ Tryz.func54 rfl (by kernel_rfl) true ?_
   obtain ⟨hroom, hqj, hsum⟩ := hp3
   dsimp only at hroom
   have hA0 := hp0.1
   have hV0 := hp0.2
   have hvR0 := hV0.2
   simp only [Sp.inR, Cg.inR] at hvR0
   have hL0 := okL_rows hA0.2
   have hn0 := hA0.1
   have hlen0 := gBs_length n0 f0
   generalize gBs n0 f0 = L at *
   clear hA0 hp0
   subst hlen0
   have hrow0 := okL_row hL0
   have hvok0 : okV (⟨⟨⟨s0, l0, h0⟩, ⟨b0, m0, r0⟩⟩, ⟨z0, gN p0 fun i => [st (gT (g0 i))]⟩⟩ : Vl) := ⟨⟨(by rw [gN_length]; exact hV0.1.1), fun _ _ => rfl⟩, hV0.2⟩
   have hcr0 := okL_row (clean_ok (e := ⟨e0, L⟩) hL0)
   have hcl0 : (En.clean ⟨e0, L⟩).binds.length <= L.length := clean_len ⟨e0, L⟩
   have hA1 := hp1.1
   have hV1 := hp1.2
   have hvR1 := hV1.2
   simp only [Sp.inR, Cg.inR] at hvR1
   have hL1 := okL_rows hA1.2
   have hn1 := hA1.1
   have hlen1 := gBs_length n1 f1
   generalize gBs n1 f1 = M at *
   clear hA1 hp1
   subst hlen1
   have hrow1 := okL_row hL1
   have hvok1 : okV (⟨⟨⟨s1, l1, h1⟩, ⟨b1, m1, r1⟩⟩, ⟨z1, gN p1 fun i => [st (gT (g1 i))]⟩⟩ : Vl) := ⟨⟨(by rw [gN_length]; exact hV1.1.1), fun _ _ => rfl⟩, hV1.2⟩
   have hcr1 := okL_row (clean_ok (e := ⟨e1, M⟩) hL1)
   have hcl1 : (En.clean ⟨e1, M⟩).binds.length <= M.length := clean_len ⟨e1, M⟩
   have hqj2 : QJ (⟨⟨⟨s0, l0, h0⟩, ⟨b0, m0, r0⟩⟩, ⟨z0, gN p0 fun i => [st (gT (g0 i))]⟩⟩ : Vl) (⟨⟨⟨s1, l1, h1⟩, ⟨b1, m1, r1⟩⟩, ⟨z1, gN p1 fun i => [st (gT (g1 i))]⟩⟩ : Vl) := hqj
   have hsumV : (p0 + p1) * 16 <= 140737488351232 := by have := hqj; unfold QJ at this; simpa [gN_length] using this
   have hcan : ∀ i, i < n2 -> (fun i => [it (gI (f2 i))]) i = [it (gI ((fun i => [it (gI (f2 i))]) i))] /\ rI (gI ((fun i => [it (gI (f2 i))]) i)) := fun i hi => ⟨rfl, (hp2.2 i hi).2⟩
   have hlad : ∀ z, z ∈ gL n2 (fun i => [it (gI (f2 i))]) -> rI z := fun z hz => gL_r hp2.2 z hz
   have hge := gEWc_ok (nk := n2) (fk := fun i => [it (gI (f2 i))]) ⟨hp2.1, hcan⟩ (a := ⟨e0, gBs L.length (rwB L)⟩) (b := ⟨e1, gBs M.length (rwB M)⟩) (by rw [gBs_row]; exact ⟨hn0, hrow0⟩) (by rw [gBs_row]; exact ⟨hn1, hrow1⟩) (by rw [gBs_row, gBs_row]; exact hroom) (by rw [gBs_row, gBs_row]; exact hsum)
   have hokR : okL (En.widen ⟨e0, gBs L.length (rwB L)⟩ ⟨e1, gBs M.length (rwB M)⟩ (gL n2 (fun i => [it (gI (f2 i))]))).binds := widen_okL (by rw [gBs_row]; exact hL0) (by rw [gBs_row]; exact hL1) (by rw [gBs_row, gBs_row]; exact hroom) hlad
   have hlR : (En.widen ⟨e0, gBs L.length (rwB L)⟩ ⟨e1, gBs M.length (rwB M)⟩ (gL n2 (fun i => [it (gI (f2 i))]))).binds.length <= 1099511627776 := Nat.le_trans (widen_len _ _ _) (by rw [gBs_row, gBs_row]; exact hsum)
   have hokW := vwiden_ok (l := gL n2 (fun i => [it (gI (f2 i))])) hvok0 hvok1 hqj2 hlad
   have hgv : gEq (gVWc n2 (fun i => [it (gI (f2 i))])) [bo s0, it l0, it h0, bo b0, it m0, it r0, bo z0, .lst 1 p0 fun i => [st (gT [st (gT (g0 i))])]] [bo s1, it l1, it h1, bo b1, it m1, it r1, bo z1, .lst 1 p1 fun i => [st (gT [st (gT (g1 i))])]] (vlC (Vl.widen (⟨⟨⟨s0, l0, h0⟩, ⟨b0, m0, r0⟩⟩, ⟨z0, gN p0 fun i => [st (gT (g0 i))]⟩⟩ : Vl) (⟨⟨⟨s1, l1, h1⟩, ⟨b1, m1, r1⟩⟩, ⟨z1, gN p1 fun i => [st (gT (g1 i))]⟩⟩ : Vl) (gL n2 (fun i => [it (gI (f2 i))])))) := gEq_of rfl rfl ⟨⟨⟨hV0.1.1, fun i hi => rfl⟩, hV0.2⟩, ⟨⟨hV1.1.1, fun i hi => rfl⟩, hV1.2⟩, ⟨hp2.1, hcan⟩, hsumV⟩
   repeat' (first | exact trivial | (with_reducible first | exact hge | exact hgv | exact hokR | exact hokW | exact hlR) | refine ⟨?_, ?_⟩ | intro _)
   all_goals first | (with_reducible first | apply qa | apply qb | apply qc | apply qd) | (conv => whnf)
   all_goals (try simp only [gBs_row, gN_lst])
   all_goals first | exact hlR | (rw [gBs_row, gBs_row] at hlR; exact hlR) | exact hrow0 | exact hn0 | exact hV0.1.1 | exact hvR0.1.1 | exact hvR0.1.2 | exact hvR0.2.1 | exact hvR0.2.2 | exact hcr0 | exact hrow1 | exact hn1 | exact hV1.1.1 | exact hvR1.1.1 | exact hvR1.1.2 | exact hvR1.2.1 | exact hvR1.2.2 | exact hcr1 | omega | (intro i hi; rfl) | rfl
 . cases h
namespace Sv
def rclean (s : Sv) : Sv := ⟨s.e.rclean, s.v.rclean⟩
def rleq (a b : Sv) : Bool := En.rleq a.e b.e && Vl.rleq a.v b.v
def rop (op : Int) (a b : Sv) (l : List Int) : Sv := ⟨En.rop op a.e b.e l, En.vop op l a.v b.v⟩
end Sv
def FRTClean : List Ar -> Option Rs
 | [.agg [.d (.v (.bool e0)), .d (.lst 9 n0 f0), .d (.v (.bool s0)), .d (.v (.int .i64 l0)), .d (.v (.int .i64 h0)), .d (.v (.bool b0)), .d (.v (.int .i64 m0)), .d (.v (.int .i64 r0)), .d (.v (.bool z0)), .d (.lst 1 p0 g0)]] => some ⟨((n0 <= 1099511627776 /\ RowsOk n0 f0) /\ ((p0 * 16 <= 140737488351232 /\ ∀ i, i < p0 -> g0 i = [st (gT (g0 i))]) /\ Sp.inR ⟨s0, l0, h0⟩ /\ Cg.inR ⟨b0, m0, r0⟩)), .va (Sv.ar (Sv.rclean (⟨⟨e0, gBs n0 f0⟩, ⟨⟨⟨s0, l0, h0⟩, ⟨b0, m0, r0⟩⟩, ⟨z0, gN p0 g0⟩⟩⟩ : Sv))), []⟩
 | _ => none
theorem fcRTClean : FC Tryz.prog 49 FRTClean := by
 intro xs pre r us h hp
 unfold FRTClean at h
 split at h
 . rename_i e0 n0 f0 s0 l0 h0 b0 m0 r0 z0 p0 g0
   cases h
   have hp0 := hp
   refine FCat.deep (ys := [.agg [.d (.v (.bool e0)), .d (.lst 9 n0 (rwB (gBs n0 f0))), .d (.v (.bool s0)), .d (.v (.int .i64 l0)), .d (.v (.int .i64 h0)), .d (.v (.bool b0)), .d (.v (.int .i64 m0)), .d (.v (.int .i64 r0)), .d (.v (.bool z0)), .d (.lst 1 p0 fun i => [st (gT (g0 i))])]]) ?_ ?_
   . repeat' (first | exact trivial | exact rfl | exact DvE.refl _ | refine ⟨?_, ?_⟩ | fail)
     all_goals first | first | exact canonB hp0.1.2.h | (exact .rows fun i hi => by rw [hp0.2.1.2 i hi]; exact ⟨rfl, fun j a b ha hb => by have hb : [st (gT (g0 i))][j]? = some b := hb; rw [ha] at hb; cases hb; exact .refl _⟩)
   refine fcat tys_ok (l := [(20, ⟨[], FREClean⟩), (27, ⟨[], FRVClean⟩)]) ⟨fcREClean, fcRVClean, trivial⟩ Tryz.func49 rfl (by kernel_rfl) true ?_
   have hA0 := hp0.1
   have hV0 := hp0.2
   have hvR0 := hV0.2
   simp only [Sp.inR, Cg.inR] at hvR0
   have hL0 := okL_rows hA0.2
   have hn0 := hA0.1
   have hlen0 := gBs_length n0 f0
   generalize gBs n0 f0 = L at *
   clear hA0 hp0
   subst hlen0
   have hrow0 := okL_row hL0
   have hvok0 : okV (⟨⟨⟨s0, l0, h0⟩, ⟨b0, m0, r0⟩⟩, ⟨z0, gN p0 fun i => [st (gT (g0 i))]⟩⟩ : Vl) := ⟨⟨(by rw [gN_length]; exact hV0.1.1), fun _ _ => rfl⟩, hV0.2⟩
   have hcr0 := okL_row (clean_ok (e := ⟨e0, L⟩) hL0)
   have hcl0 : (En.clean ⟨e0, L⟩).binds.length <= L.length := clean_len ⟨e0, L⟩
   repeat' (first | exact trivial | refine ⟨?_, ?_⟩ | intro _)
   all_goals first | (with_reducible first | apply qa | apply qb | apply qc | apply qd) | (conv => whnf)
   all_goals (try simp only [gBs_row, gN_lst])
   all_goals first | exact hrow0 | exact hn0 | exact hV0.1.1 | exact hvR0.1.1 | exact hvR0.1.2 | exact hvR0.2.1 | exact hvR0.2.2 | exact hcr0 | omega | (intro i hi; rfl) | rfl
 . cases h
def FRTLeq : List Ar -> Option Rs
 | [.agg [.d (.v (.bool e0)), .d (.lst 9 n0 f0), .d (.v (.bool s0)), .d (.v (.int .i64 l0)), .d (.v (.int .i64 h0)), .d (.v (.bool b0)), .d (.v (.int .i64 m0)), .d (.v (.int .i64 r0)), .d (.v (.bool z0)), .d (.lst 1 p0 g0)], .agg [.d (.v (.bool e1)), .d (.lst 9 n1 f1), .d (.v (.bool s1)), .d (.v (.int .i64 l1)), .d (.v (.int .i64 h1)), .d (.v (.bool b1)), .d (.v (.int .i64 m1)), .d (.v (.int .i64 r1)), .d (.v (.bool z1)), .d (.lst 1 p1 g1)]] => some ⟨((n0 <= 1099511627776 /\ RowsOk n0 f0) /\ ((p0 * 16 <= 140737488351232 /\ ∀ i, i < p0 -> g0 i = [st (gT (g0 i))]) /\ Sp.inR ⟨s0, l0, h0⟩ /\ Cg.inR ⟨b0, m0, r0⟩)) /\ ((n1 <= 1099511627776 /\ RowsOk n1 f1) /\ ((p1 * 16 <= 140737488351232 /\ ∀ i, i < p1 -> g1 i = [st (gT (g1 i))]) /\ Sp.inR ⟨s1, l1, h1⟩ /\ Cg.inR ⟨b1, m1, r1⟩)), .va (.c (.d (bo (Sv.rleq (⟨⟨e0, gBs n0 f0⟩, ⟨⟨⟨s0, l0, h0⟩, ⟨b0, m0, r0⟩⟩, ⟨z0, gN p0 g0⟩⟩⟩ : Sv) (⟨⟨e1, gBs n1 f1⟩, ⟨⟨⟨s1, l1, h1⟩, ⟨b1, m1, r1⟩⟩, ⟨z1, gN p1 g1⟩⟩⟩ : Sv))))), []⟩
 | _ => none
theorem fcRTLeq : FC Tryz.prog 30 FRTLeq := by
 intro xs pre r us h hp
 unfold FRTLeq at h
 split at h
 . rename_i e0 n0 f0 s0 l0 h0 b0 m0 r0 z0 p0 g0 e1 n1 f1 s1 l1 h1 b1 m1 r1 z1 p1 g1
   cases h
   obtain ⟨hp0, hp1⟩ := hp
   refine FCat.deep (ys := [.agg [.d (.v (.bool e0)), .d (.lst 9 n0 (rwB (gBs n0 f0))), .d (.v (.bool s0)), .d (.v (.int .i64 l0)), .d (.v (.int .i64 h0)), .d (.v (.bool b0)), .d (.v (.int .i64 m0)), .d (.v (.int .i64 r0)), .d (.v (.bool z0)), .d (.lst 1 p0 fun i => [st (gT (g0 i))])], .agg [.d (.v (.bool e1)), .d (.lst 9 n1 (rwB (gBs n1 f1))), .d (.v (.bool s1)), .d (.v (.int .i64 l1)), .d (.v (.int .i64 h1)), .d (.v (.bool b1)), .d (.v (.int .i64 m1)), .d (.v (.int .i64 r1)), .d (.v (.bool z1)), .d (.lst 1 p1 fun i => [st (gT (g1 i))])]]) ?_ ?_
   . repeat' (first | exact trivial | exact rfl | exact DvE.refl _ | refine ⟨?_, ?_⟩ | fail)
     all_goals first | first | exact canonB hp0.1.2.h | (exact .rows fun i hi => by rw [hp0.2.1.2 i hi]; exact ⟨rfl, fun j a b ha hb => by have hb : [st (gT (g0 i))][j]? = some b := hb; rw [ha] at hb; cases hb; exact .refl _⟩) | exact canonB hp1.1.2.h | (exact .rows fun i hi => by rw [hp1.2.1.2 i hi]; exact ⟨rfl, fun j a b ha hb => by have hb : [st (gT (g1 i))][j]? = some b := hb; rw [ha] at hb; cases hb; exact .refl _⟩)
   refine fcat tys_ok (l := [(42, ⟨[], FRELeq⟩), (83, ⟨[], FRVLeq⟩)]) ⟨fcRELeq, fcRVLeq, trivial⟩ Tryz.func30 rfl (by kernel_rfl) true ?_
   have hA0 := hp0.1
   have hV0 := hp0.2
   have hvR0 := hV0.2
   simp only [Sp.inR, Cg.inR] at hvR0
   have hL0 := okL_rows hA0.2
   have hn0 := hA0.1
   have hlen0 := gBs_length n0 f0
   generalize gBs n0 f0 = L at *
   clear hA0 hp0
   subst hlen0
   have hrow0 := okL_row hL0
   have hvok0 : okV (⟨⟨⟨s0, l0, h0⟩, ⟨b0, m0, r0⟩⟩, ⟨z0, gN p0 fun i => [st (gT (g0 i))]⟩⟩ : Vl) := ⟨⟨(by rw [gN_length]; exact hV0.1.1), fun _ _ => rfl⟩, hV0.2⟩
   have hcr0 := okL_row (clean_ok (e := ⟨e0, L⟩) hL0)
   have hcl0 : (En.clean ⟨e0, L⟩).binds.length <= L.length := clean_len ⟨e0, L⟩
   have hA1 := hp1.1
   have hV1 := hp1.2
   have hvR1 := hV1.2
   simp only [Sp.inR, Cg.inR] at hvR1
   have hL1 := okL_rows hA1.2
   have hn1 := hA1.1
   have hlen1 := gBs_length n1 f1
   generalize gBs n1 f1 = M at *
   clear hA1 hp1
   subst hlen1
   have hrow1 := okL_row hL1
   have hvok1 : okV (⟨⟨⟨s1, l1, h1⟩, ⟨b1, m1, r1⟩⟩, ⟨z1, gN p1 fun i => [st (gT (g1 i))]⟩⟩ : Vl) := ⟨⟨(by rw [gN_length]; exact hV1.1.1), fun _ _ => rfl⟩, hV1.2⟩
   have hcr1 := okL_row (clean_ok (e := ⟨e1, M⟩) hL1)
   have hcl1 : (En.clean ⟨e1, M⟩).binds.length <= M.length := clean_len ⟨e1, M⟩
   repeat' (first | exact trivial | refine ⟨?_, ?_⟩ | intro _)
   all_goals first | (with_reducible first | apply qa | apply qb | apply qc | apply qd) | (conv => whnf)
   all_goals (try simp only [gBs_row, gN_lst] at *)
   all_goals first | exact hrow0 | exact hn0 | exact hV0.1.1 | exact hvR0.1.1 | exact hvR0.1.2 | exact hvR0.2.1 | exact hvR0.2.2 | exact hcr0 | exact hrow1 | exact hn1 | exact hV1.1.1 | exact hvR1.1.1 | exact hvR1.1.2 | exact hvR1.2.1 | exact hvR1.2.2 | exact hcr1 | omega | (intro i hi; rfl) | rfl | (unfold Sv.rleq; first | (rw [‹En.rleq _ _ = true›]; rfl) | (rw [‹En.rleq _ _ = false›]; rfl))
 . cases h
def FRTExact : List Ar -> Option Rs
 | [.agg [.d (.v (.bool e0)), .d (.lst 9 n0 f0), .d (.v (.bool s0)), .d (.v (.int .i64 l0)), .d (.v (.int .i64 h0)), .d (.v (.bool b0)), .d (.v (.int .i64 m0)), .d (.v (.int .i64 r0)), .d (.v (.bool z0)), .d (.lst 1 p0 g0)], .agg [.d (.v (.bool e1)), .d (.lst 9 n1 f1), .d (.v (.bool s1)), .d (.v (.int .i64 l1)), .d (.v (.int .i64 h1)), .d (.v (.bool b1)), .d (.v (.int .i64 m1)), .d (.v (.int .i64 r1)), .d (.v (.bool z1)), .d (.lst 1 p1 g1)]] => some ⟨((n0 <= 1099511627776 /\ RowsOk n0 f0) /\ ((p0 * 16 <= 140737488351232 /\ ∀ i, i < p0 -> g0 i = [st (gT (g0 i))]) /\ Sp.inR ⟨s0, l0, h0⟩ /\ Cg.inR ⟨b0, m0, r0⟩)) /\ ((n1 <= 1099511627776 /\ RowsOk n1 f1) /\ ((p1 * 16 <= 140737488351232 /\ ∀ i, i < p1 -> g1 i = [st (gT (g1 i))]) /\ Sp.inR ⟨s1, l1, h1⟩ /\ Cg.inR ⟨b1, m1, r1⟩)) /\ ((⟨⟨e0, gBs n0 f0⟩, ⟨⟨⟨s0, l0, h0⟩, ⟨b0, m0, r0⟩⟩, ⟨z0, gN p0 g0⟩⟩⟩ : Sv) = (⟨⟨e1, gBs n1 f1⟩, ⟨⟨⟨s1, l1, h1⟩, ⟨b1, m1, r1⟩⟩, ⟨z1, gN p1 g1⟩⟩⟩ : Sv)), .va (.c (.d (bo (true)))), []⟩
 | _ => none
theorem fcRTExact : FC Tryz.prog 36 FRTExact := by
 intro xs pre r us h hp
 unfold FRTExact at h
 split at h
 . rename_i e0 n0 f0 s0 l0 h0 b0 m0 r0 z0 p0 g0 e1 n1 f1 s1 l1 h1 b1 m1 r1 z1 p1 g1
   cases h
   obtain ⟨hp0, hp1, hp2⟩ := hp
   refine FCat.deep (ys := [.agg [.d (.v (.bool e0)), .d (.lst 9 n0 (rwB (gBs n0 f0))), .d (.v (.bool s0)), .d (.v (.int .i64 l0)), .d (.v (.int .i64 h0)), .d (.v (.bool b0)), .d (.v (.int .i64 m0)), .d (.v (.int .i64 r0)), .d (.v (.bool z0)), .d (.lst 1 p0 fun i => [st (gT (g0 i))])], .agg [.d (.v (.bool e1)), .d (.lst 9 n1 (rwB (gBs n1 f1))), .d (.v (.bool s1)), .d (.v (.int .i64 l1)), .d (.v (.int .i64 h1)), .d (.v (.bool b1)), .d (.v (.int .i64 m1)), .d (.v (.int .i64 r1)), .d (.v (.bool z1)), .d (.lst 1 p1 fun i => [st (gT (g1 i))])]]) ?_ ?_
   . repeat' (first | exact trivial | exact rfl | exact DvE.refl _ | refine ⟨?_, ?_⟩ | fail)
     all_goals first | first | exact canonB hp0.1.2.h | (exact .rows fun i hi => by rw [hp0.2.1.2 i hi]; exact ⟨rfl, fun j a b ha hb => by have hb : [st (gT (g0 i))][j]? = some b := hb; rw [ha] at hb; cases hb; exact .refl _⟩) | exact canonB hp1.1.2.h | (exact .rows fun i hi => by rw [hp1.2.1.2 i hi]; exact ⟨rfl, fun j a b ha hb => by have hb : [st (gT (g1 i))][j]? = some b := hb; rw [ha] at hb; cases hb; exact .refl _⟩)
   refine fcat tys_ok (l := [(14, ⟨[], FREExact⟩), (23, ⟨[], FRVExact⟩)]) ⟨fcREExact, fcRVExact, trivial⟩ Tryz.func36 rfl (by kernel_rfl) true ?_
   have hA0 := hp0.1
   have hV0 := hp0.2
   have hvR0 := hV0.2
   simp only [Sp.inR, Cg.inR] at hvR0
   have hL0 := okL_rows hA0.2
   have hn0 := hA0.1
   have hlen0 := gBs_length n0 f0
   generalize gBs n0 f0 = L at *
   clear hA0 hp0
   subst hlen0
   have hrow0 := okL_row hL0
   have hvok0 : okV (⟨⟨⟨s0, l0, h0⟩, ⟨b0, m0, r0⟩⟩, ⟨z0, gN p0 fun i => [st (gT (g0 i))]⟩⟩ : Vl) := ⟨⟨(by rw [gN_length]; exact hV0.1.1), fun _ _ => rfl⟩, hV0.2⟩
   have hcr0 := okL_row (clean_ok (e := ⟨e0, L⟩) hL0)
   have hcl0 : (En.clean ⟨e0, L⟩).binds.length <= L.length := clean_len ⟨e0, L⟩
   have hA1 := hp1.1
   have hV1 := hp1.2
   have hvR1 := hV1.2
   simp only [Sp.inR, Cg.inR] at hvR1
   have hL1 := okL_rows hA1.2
   have hn1 := hA1.1
   have hlen1 := gBs_length n1 f1
   generalize gBs n1 f1 = M at *
   clear hA1 hp1
   subst hlen1
   have hrow1 := okL_row hL1
   have hvok1 : okV (⟨⟨⟨s1, l1, h1⟩, ⟨b1, m1, r1⟩⟩, ⟨z1, gN p1 fun i => [st (gT (g1 i))]⟩⟩ : Vl) := ⟨⟨(by rw [gN_length]; exact hV1.1.1), fun _ _ => rfl⟩, hV1.2⟩
   have hcr1 := okL_row (clean_ok (e := ⟨e1, M⟩) hL1)
   have hcl1 : (En.clean ⟨e1, M⟩).binds.length <= M.length := clean_len ⟨e1, M⟩
   have hq := hp2
   injection hq with hqE hqV
   repeat' (first | exact trivial | (with_reducible first | exact hqE | exact hqV) | refine ⟨?_, ?_⟩ | intro _)
   all_goals first | (with_reducible first | apply qa | apply qb | apply qc | apply qd) | (conv => whnf)
   all_goals (try simp only [gBs_row, gN_lst] at *)
   all_goals first | exact hrow0 | exact hn0 | exact hV0.1.1 | exact hvR0.1.1 | exact hvR0.1.2 | exact hvR0.2.1 | exact hvR0.2.2 | exact hcr0 | exact hrow1 | exact hn1 | exact hV1.1.1 | exact hvR1.1.1 | exact hvR1.1.2 | exact hvR1.2.1 | exact hvR1.2.2 | exact hcr1 | omega | exact hqE | exact hqV | (intro i hi; rfl) | rfl | (exact congrArg Value.bool (show Vl.exact (⟨⟨⟨s0, l0, h0⟩, ⟨b0, m0, r0⟩⟩, ⟨z0, gN p0 fun i => [st (gT (g0 i))]⟩⟩ : Vl) (⟨⟨⟨s1, l1, h1⟩, ⟨b1, m1, r1⟩⟩, ⟨z1, gN p1 fun i => [st (gT (g1 i))]⟩⟩ : Vl) = true from by rw [show (⟨⟨⟨s0, l0, h0⟩, ⟨b0, m0, r0⟩⟩, ⟨z0, gN p0 fun i => [st (gT (g0 i))]⟩⟩ : Vl) = (⟨⟨⟨s1, l1, h1⟩, ⟨b1, m1, r1⟩⟩, ⟨z1, gN p1 fun i => [st (gT (g1 i))]⟩⟩ : Vl) from hqV]; exact exact_refl _)) | (cases ‹true = false›)
 . cases h
theorem vop_1 (l : List Int) (x y : Vl) : En.vop 1 l x y = Vl.rwiden x y l := rfl
theorem vop_2 (l : List Int) (x y : Vl) : En.vop 2 l x y = Vl.rnarrow x y := rfl
theorem vop_0 {i : Int} (h1 : ¬ i = 1) (h2 : ¬ i = 2) (l : List Int) (x y : Vl) : En.vop i l x y = Vl.rjoin x y := by unfold En.vop; rw [if_neg h2, if_neg h1]
theorem vop_ok {i : Int} {x y : Vl} {l : List Int} (hx : okV x) (hy : okV y) (hq : QJ x y) (hl : ∀ z, z ∈ l -> rI z) : okV (En.vop i l x y) := by
 unfold En.vop; split
 . exact okV_rn hx hy
 . split
   . exact okV_rw hx hy hq hl
   . exact okV_rj hx hy hq
theorem Sv.rop_eq (op : Int) (a b : Sv) (l : List Int) : Sv.rop op a b l = ⟨En.rop op a.e b.e l, En.vop op l a.v b.v⟩ := rfl
def FRTOp : List Ar -> Option Rs
 | [.c (.d (.v (.int .i64 i0))), .agg [.d (.v (.bool e1)), .d (.lst 9 n1 f1), .d (.v (.bool s1)), .d (.v (.int .i64 l1)), .d (.v (.int .i64 h1)), .d (.v (.bool b1)), .d (.v (.int .i64 m1)), .d (.v (.int .i64 r1)), .d (.v (.bool z1)), .d (.lst 1 p1 g1)], .agg [.d (.v (.bool e2)), .d (.lst 9 n2 f2), .d (.v (.bool s2)), .d (.v (.int .i64 l2)), .d (.v (.int .i64 h2)), .d (.v (.bool b2)), .d (.v (.int .i64 m2)), .d (.v (.int .i64 r2)), .d (.v (.bool z2)), .d (.lst 1 p2 g2)], .c (.d (.lst 1 n3 f3))] => some ⟨(-9223372036854775808 <= i0 /\ i0 < 9223372036854775808) /\ ((n1 <= 1099511627776 /\ RowsOk n1 f1) /\ ((p1 * 16 <= 140737488351232 /\ ∀ i, i < p1 -> g1 i = [st (gT (g1 i))]) /\ Sp.inR ⟨s1, l1, h1⟩ /\ Cg.inR ⟨b1, m1, r1⟩)) /\ ((n2 <= 1099511627776 /\ RowsOk n2 f2) /\ ((p2 * 16 <= 140737488351232 /\ ∀ i, i < p2 -> g2 i = [st (gT (g2 i))]) /\ Sp.inR ⟨s2, l2, h2⟩ /\ Cg.inR ⟨b2, m2, r2⟩)) /\ (n3 <= 9223372036854775807 /\ ∀ i, i < n3 -> f3 i = [it (gI (f3 i))] /\ rI (gI (f3 i))) /\ (Room (Sv.e (⟨⟨e1, gBs n1 f1⟩, ⟨⟨⟨s1, l1, h1⟩, ⟨b1, m1, r1⟩⟩, ⟨z1, gN p1 g1⟩⟩⟩ : Sv)).binds (Sv.e (⟨⟨e2, gBs n2 f2⟩, ⟨⟨⟨s2, l2, h2⟩, ⟨b2, m2, r2⟩⟩, ⟨z2, gN p2 g2⟩⟩⟩ : Sv)).binds /\ QJ (Sv.v (⟨⟨e1, gBs n1 f1⟩, ⟨⟨⟨s1, l1, h1⟩, ⟨b1, m1, r1⟩⟩, ⟨z1, gN p1 g1⟩⟩⟩ : Sv)) (Sv.v (⟨⟨e2, gBs n2 f2⟩, ⟨⟨⟨s2, l2, h2⟩, ⟨b2, m2, r2⟩⟩, ⟨z2, gN p2 g2⟩⟩⟩ : Sv)) /\ n1 + n2 <= 1099511627776), .va (Sv.ar (Sv.rop i0 (⟨⟨e1, gBs n1 f1⟩, ⟨⟨⟨s1, l1, h1⟩, ⟨b1, m1, r1⟩⟩, ⟨z1, gN p1 g1⟩⟩⟩ : Sv) (⟨⟨e2, gBs n2 f2⟩, ⟨⟨⟨s2, l2, h2⟩, ⟨b2, m2, r2⟩⟩, ⟨z2, gN p2 g2⟩⟩⟩ : Sv) (gL n3 f3))), []⟩
 | _ => none
theorem fcRTOp : FC Tryz.prog 53 FRTOp := by
 intro xs pre r us h hp
 unfold FRTOp at h
 split at h
 . rename_i i0 e1 n1 f1 s1 l1 h1 b1 m1 r1 z1 p1 g1 e2 n2 f2 s2 l2 h2 b2 m2 r2 z2 p2 g2 n3 f3
   cases h
   obtain ⟨hp0, hp1, hp2, hp3, hp4⟩ := hp
   refine FCat.deep (ys := [.c (.d (.v (.int .i64 i0))), .agg [.d (.v (.bool e1)), .d (.lst 9 n1 (rwB (gBs n1 f1))), .d (.v (.bool s1)), .d (.v (.int .i64 l1)), .d (.v (.int .i64 h1)), .d (.v (.bool b1)), .d (.v (.int .i64 m1)), .d (.v (.int .i64 r1)), .d (.v (.bool z1)), .d (.lst 1 p1 fun i => [st (gT (g1 i))])], .agg [.d (.v (.bool e2)), .d (.lst 9 n2 (rwB (gBs n2 f2))), .d (.v (.bool s2)), .d (.v (.int .i64 l2)), .d (.v (.int .i64 h2)), .d (.v (.bool b2)), .d (.v (.int .i64 m2)), .d (.v (.int .i64 r2)), .d (.v (.bool z2)), .d (.lst 1 p2 fun i => [st (gT (g2 i))])], .c (.d (.lst 1 n3 fun i => [it (gI (f3 i))]))]) ?_ ?_
   . repeat' (first | exact trivial | exact rfl | exact DvE.refl _ | refine ⟨?_, ?_⟩ | fail)
     all_goals first | first | exact canonB hp1.1.2.h | (exact .rows fun i hi => by rw [hp1.2.1.2 i hi]; exact ⟨rfl, fun j a b ha hb => by have hb : [st (gT (g1 i))][j]? = some b := hb; rw [ha] at hb; cases hb; exact .refl _⟩) | exact canonB hp2.1.2.h | (exact .rows fun i hi => by rw [hp2.2.1.2 i hi]; exact ⟨rfl, fun j a b ha hb => by have hb : [st (gT (g2 i))][j]? = some b := hb; rw [ha] at hb; cases hb; exact .refl _⟩) | (exact .rows fun i hi => by rw [(hp3.2 i hi).1]; exact ⟨rfl, fun j a b ha hb => by have hb : [it (gI (f3 i))][j]? = some b := hb; rw [ha] at hb; cases hb; exact .refl _⟩)
   refine fcat tys_ok (l := [(97, ⟨[], FRVJoin⟩), (98, ⟨[], FRVWiden⟩), (99, ⟨[], FRVNarrow⟩), (45, ⟨[], FROp⟩)]) ⟨fcRVJoin, fcRVWiden, fcRVNarrow, fcROp, trivial⟩ Tryz.func53 rfl (by kernel_rfl) true ?_
   obtain ⟨hroom, hqj, hsum⟩ := hp4
   dsimp only at hroom
   have hA1 := hp1.1
   have hV1 := hp1.2
   have hvR1 := hV1.2
   simp only [Sp.inR, Cg.inR] at hvR1
   have hL1 := okL_rows hA1.2
   have hn1 := hA1.1
   have hlen1 := gBs_length n1 f1
   generalize gBs n1 f1 = L at *
   clear hA1 hp1
   subst hlen1
   have hrow1 := okL_row hL1
   have hvok1 : okV (⟨⟨⟨s1, l1, h1⟩, ⟨b1, m1, r1⟩⟩, ⟨z1, gN p1 fun i => [st (gT (g1 i))]⟩⟩ : Vl) := ⟨⟨(by rw [gN_length]; exact hV1.1.1), fun _ _ => rfl⟩, hV1.2⟩
   have hcr1 := okL_row (clean_ok (e := ⟨e1, L⟩) hL1)
   have hcl1 : (En.clean ⟨e1, L⟩).binds.length <= L.length := clean_len ⟨e1, L⟩
   have hA2 := hp2.1
   have hV2 := hp2.2
   have hvR2 := hV2.2
   simp only [Sp.inR, Cg.inR] at hvR2
   have hL2 := okL_rows hA2.2
   have hn2 := hA2.1
   have hlen2 := gBs_length n2 f2
   generalize gBs n2 f2 = M at *
   clear hA2 hp2
   subst hlen2
   have hrow2 := okL_row hL2
   have hvok2 : okV (⟨⟨⟨s2, l2, h2⟩, ⟨b2, m2, r2⟩⟩, ⟨z2, gN p2 fun i => [st (gT (g2 i))]⟩⟩ : Vl) := ⟨⟨(by rw [gN_length]; exact hV2.1.1), fun _ _ => rfl⟩, hV2.2⟩
   have hcr2 := okL_row (clean_ok (e := ⟨e2, M⟩) hL2)
   have hcl2 : (En.clean ⟨e2, M⟩).binds.length <= M.length := clean_len ⟨e2, M⟩
   have hqj2 : QJ (⟨⟨⟨s1, l1, h1⟩, ⟨b1, m1, r1⟩⟩, ⟨z1, gN p1 fun i => [st (gT (g1 i))]⟩⟩ : Vl) (⟨⟨⟨s2, l2, h2⟩, ⟨b2, m2, r2⟩⟩, ⟨z2, gN p2 fun i => [st (gT (g2 i))]⟩⟩ : Vl) := hqj
   have hsumV : (p1 + p2) * 16 <= 140737488351232 := by have := hqj; unfold QJ at this; simpa [gN_length] using this
   have hlad : ∀ z, z ∈ gL n3 f3 -> rI z := fun z hz => gL_r hp3.2 z hz
   have hok : ∀ i, okV (En.vop i (gL n3 f3) (⟨⟨⟨s1, l1, h1⟩, ⟨b1, m1, r1⟩⟩, ⟨z1, gN p1 fun i => [st (gT (g1 i))]⟩⟩ : Vl) (⟨⟨⟨s2, l2, h2⟩, ⟨b2, m2, r2⟩⟩, ⟨z2, gN p2 fun i => [st (gT (g2 i))]⟩⟩ : Vl)) := fun i => vop_ok hvok1 hvok2 hqj2 hlad
   have hok0 := hok 0
   have hok1 := hok 1
   have hok2 := hok 2
   unfold okV at hok0 hok1 hok2
   rw [vop_1] at hok1
   rw [vop_2] at hok2
   rw [vop_0 (by decide) (by decide)] at hok0
   have hok0r := hok0.2
   have hok1r := hok1.2
   have hok2r := hok2.2
   simp only [Sp.inR, Cg.inR] at hok0r hok1r hok2r
   rcases Decidable.em (i0 = 1) with rfl | o1
   . repeat' (first | exact trivial | (with_reducible first | exact hok0 | exact hok1 | exact hok2 | exact (fun h => absurd (h : ((1:Int) == 2) = true) (by decide)) | exact (fun h => absurd (h : ((1:Int) == 1) = false) (by decide))) | refine ⟨?_, ?_⟩ | intro _)
     all_goals first | (with_reducible first | apply qa | apply qb | apply qc | apply qd) | (conv => whnf)
     all_goals (try simp only [gBs_row, gN_lst] at *)
     all_goals first | exact hrow1 | exact hn1 | exact hV1.1.1 | exact hvR1.1.1 | exact hvR1.1.2 | exact hvR1.2.1 | exact hvR1.2.2 | exact hcr1 | exact hrow2 | exact hn2 | exact hV2.1.1 | exact hvR2.1.1 | exact hvR2.1.2 | exact hvR2.2.1 | exact hvR2.2.2 | exact hcr2 | exact hroom | exact hsum | exact hsumV | exact hp3 | exact hp3.1 | exact hp3.2 | exact hok0.1.1 | exact hok0r.1.1 | exact hok0r.1.2 | exact hok0r.2.1 | exact hok0r.2.2 | exact hok1.1.1 | exact hok1r.1.1 | exact hok1r.1.2 | exact hok1r.2.1 | exact hok1r.2.2 | exact hok2.1.1 | exact hok2r.1.1 | exact hok2r.1.2 | exact hok2r.2.1 | exact hok2r.2.2 | exact (hp3.2 _ ‹_›).2.1 | exact (hp3.2 _ ‹_›).2.2 | exact (hp3.2 _ ‹_›).1 | omega | (intro i hi; rfl) | rfl
   . rcases Decidable.em (i0 = 2) with rfl | o2
     . repeat' (first | exact trivial | (with_reducible first | exact hok0 | exact hok1 | exact hok2 | exact (fun h => absurd (h : ((2:Int) == 1) = true) (by decide)) | exact (fun h => absurd (h : ((2:Int) == 2) = false) (by decide))) | refine ⟨?_, ?_⟩ | intro _)
       all_goals first | (with_reducible first | apply qa | apply qb | apply qc | apply qd) | (conv => whnf)
       all_goals (try simp only [gBs_row, gN_lst] at *)
       all_goals first | exact hrow1 | exact hn1 | exact hV1.1.1 | exact hvR1.1.1 | exact hvR1.1.2 | exact hvR1.2.1 | exact hvR1.2.2 | exact hcr1 | exact hrow2 | exact hn2 | exact hV2.1.1 | exact hvR2.1.1 | exact hvR2.1.2 | exact hvR2.2.1 | exact hvR2.2.2 | exact hcr2 | exact hroom | exact hsum | exact hsumV | exact hp3 | exact hp3.1 | exact hp3.2 | exact hok0.1.1 | exact hok0r.1.1 | exact hok0r.1.2 | exact hok0r.2.1 | exact hok0r.2.2 | exact hok1.1.1 | exact hok1r.1.1 | exact hok1r.1.2 | exact hok1r.2.1 | exact hok1r.2.2 | exact hok2.1.1 | exact hok2r.1.1 | exact hok2r.1.2 | exact hok2r.2.1 | exact hok2r.2.2 | exact (hp3.2 _ ‹_›).2.1 | exact (hp3.2 _ ‹_›).2.2 | exact (hp3.2 _ ‹_›).1 | omega | (intro i hi; rfl) | rfl
     . repeat' (first | exact trivial | (with_reducible first | exact hok0 | exact hok1 | exact hok2 | exact o1 | exact o2 | exact (fun h => absurd (eq_of_beq (h : (i0 == 1) = true)) o1) | exact (fun h => absurd (eq_of_beq (h : (i0 == 2) = true)) o2)) | refine ⟨?_, ?_⟩ | intro _)
       all_goals first | (with_reducible first | apply qa | apply qb | apply qc | apply qd) | (conv => whnf)
       all_goals (try simp only [gBs_row, gN_lst] at *)
       all_goals first | exact hrow1 | exact hn1 | exact hV1.1.1 | exact hvR1.1.1 | exact hvR1.1.2 | exact hvR1.2.1 | exact hvR1.2.2 | exact hcr1 | exact hrow2 | exact hn2 | exact hV2.1.1 | exact hvR2.1.1 | exact hvR2.1.2 | exact hvR2.2.1 | exact hvR2.2.2 | exact hcr2 | exact hroom | exact hsum | exact hsumV | exact hp3 | exact hp3.1 | exact hp3.2 | exact hok0.1.1 | exact hok0r.1.1 | exact hok0r.1.2 | exact hok0r.2.1 | exact hok0r.2.2 | exact hok1.1.1 | exact hok1r.1.1 | exact hok1r.1.2 | exact hok1r.2.1 | exact hok1r.2.2 | exact hok2.1.1 | exact hok2r.1.1 | exact hok2r.1.2 | exact hok2r.2.1 | exact hok2r.2.2 | exact (hp3.2 _ ‹_›).2.1 | exact (hp3.2 _ ‹_›).2.2 | exact (hp3.2 _ ‹_›).1 | omega | (intro i hi; rfl) | rfl | (rw [Sv.rop_eq, vop_0 o1 o2]; try rfl)
 . cases h
theorem narrow_tidyE (a b : En) : (En.narrow a b).tidy := by
 rw [narrow_case]
 split
 . split
   . split
     . exact zip_tidy opN a b
     . exact clean_tidyE a
   . exact ⟨List.Pairwise.nil, fun x h => (by cases h), fun _ => rfl⟩
 . exact clean_tidyE b
theorem widen_tidyE {a b : En} (l : List Int) (hb : inRE b) : (En.widen a b l).tidy := by
 rw [widen_case]
 split
 . split
   . rename_i hb'
     have hs : SS (En.zipE (fun x y => Vl.widen x y l) a b).binds := ss_mrg (clean_ss a) (clean_ss b)
     have hz : Vl.inR Vl.zero := by unfold Vl.inR Vl.zero Ig.zero Sp.inR Cg.inR; decide
     have hbi : ∀ {s w}, b.hold s = some w -> w.of.inR := by
      intro s w hw
      unfold En.hold at hw
      rw [if_pos hb'] at hw
      exact Vl.of_inR (hb _ (lk_mem hw))
     refine ⟨hs, fun x hx => ?_, fun h => (by cases h)⟩
     have := lk_of_mem hs hx
     rw [zip_lk] at this
     cases h1 : (a.hold x.name).map Vl.of with
     | none =>
       rw [h1] at this
       cases h2 : (b.hold x.name).map Vl.of with
       | none => rw [h2] at this; cases this
       | some w =>
         rw [h2] at this
         obtain ⟨w', e, rfl⟩ := Option.map_eq_some_iff.1 h2
         have := Option.some.inj this
         rw [<- this]; exact Vl.widen_tidy (hbi e)
     | some v =>
       rw [h1] at this
       cases h2 : (b.hold x.name).map Vl.of with
       | none =>
         rw [h2] at this
         have := Option.some.inj this
         rw [<- this]; exact Vl.widen_tidy hz
       | some w =>
         rw [h2] at this
         obtain ⟨w', e, rfl⟩ := Option.map_eq_some_iff.1 h2
         have := Option.some.inj this
         rw [<- this]; exact Vl.widen_tidy (hbi e)
   . exact clean_tidyE a
 . exact clean_tidyE b
theorem rleq_leq (a b : Vl) : Vl.leq a b = Vl.rleq a b := by
 rw [leq_eq]; unfold Vl.rleq; rw [rclean2, rclean2]; simp only [Vl.rclean, cleanS_idem]
namespace Sv
theorem clean_fix {e : En} {v : Vl} (he : e.tidy) (hv : v.tidy) : Sv.clean ⟨e, v⟩ = ⟨e, v⟩ := by
 show (⟨e.clean, v.of⟩ : Sv) = _
 rw [clean_fixE he, Vl.of_fix hv]
theorem clean_eq (a : Sv) : a.clean = a.rclean := by
 show (⟨a.e.clean, a.v.of⟩ : Sv) = ⟨a.e.rclean, a.v.rclean⟩
 rw [clean_rclean, of_rclean]
theorem leq_eq (a b : Sv) : leq a b = rleq a b := by unfold leq rleq; rw [leq_rleq, rleq_leq]
theorem join_is (a b : Sv) : join a b = ⟨En.join a.e b.e, Vl.join a.v b.v⟩ := clean_fix (join_tidyE _ _) (Vl.jn_tidy _ _)
theorem narrow_is (a b : Sv) : narrow a b = ⟨En.narrow a.e b.e, Vl.narrow a.v b.v⟩ := clean_fix (narrow_tidyE _ _) (Vl.narrow_tidy _ _)
theorem widen_is {a b : Sv} (l : List Int) (he : inRE b.e) (hv : b.v.inR) : widen a b l = ⟨En.widen a.e b.e l, Vl.widen a.v b.v l⟩ := clean_fix (widen_tidyE l he) (Vl.widen_tidy hv)
theorem join_ref (a b : Sv) (l : List Int) : join a b = rop 0 a b l := by
 rw [join_is, join_rop _ _ l, Vl.join_eq]; rfl
theorem widen_ref {a b : Sv} (l : List Int) (he : inRE b.e) (hv : b.v.inR) : widen a b l = rop 1 a b l := by
 rw [widen_is l he hv, widen_rop _ _ l, widen_eq]; rfl
theorem narrow_ref (a b : Sv) (l : List Int) : narrow a b = rop 2 a b l := by
 rw [narrow_is, narrow_rop _ _ l, narrow_eq]; rfl
theorem leq_clean (a b : Sv) : leq a.clean b.clean = leq a b := by
 unfold leq
 have h1 : En.leq a.clean.e b.clean.e = En.leq a.e b.e := by
  show En.leq a.e.clean b.e.clean = _
  unfold En.leq
  rw [clean_fixE (clean_tidyE a.e), clean_fixE (clean_tidyE b.e)]
 rw [h1, show Vl.leq a.clean.v b.clean.v = Vl.leq a.v b.v from Vl.leq_of _ _]
end Sv
theorem cat_len (x y : List ByteArray) : (ofS (ofS x ++ ofS y)).length <= x.length + y.length := by
 have a1 := ofS_len (ofS x ++ ofS y)
 have a2 := ofS_len x
 have a3 := ofS_len y
 rw [List.length_append] at a1; omega
theorem vjoin_len (x y : Vl) : (Vl.join x y).t.names.length <= x.t.names.length + y.t.names.length := cat_len _ _
theorem vwiden_len (x y : Vl) (l : List Int) : (Vl.widen x y l).t.names.length <= x.t.names.length + y.t.names.length := cat_len _ _
theorem vof_len (x : Vl) : x.of.t.names.length <= x.t.names.length := by rw [of_names]; exact ofS_len _
theorem vnarrow_len (x y : Vl) : (Vl.narrow x y).t.names.length <= x.t.names.length + y.t.names.length := by
 rw [Vl.narrow_cases]
 split
 . exact Nat.le_trans (vof_len x) (by omega)
 . split
   . exact Nat.zero_le _
   . show x.of.t.names.length <= _
     exact Nat.le_trans (vof_len x) (by omega)
theorem zip_len {op : Vl -> Vl -> Vl} (h : ∀ x y, (op x y).t.names.length <= x.t.names.length + y.t.names.length) {a b : En} {N M : Nat}
 (ha : ∀ x ∈ a.binds, x.v.t.names.length <= N) (hb : ∀ x ∈ b.binds, x.v.t.names.length <= M) : ∀ x ∈ (En.zipE op a b).binds, x.v.t.names.length <= N + M := by
 intro z hz
 have ca : ∀ x ∈ a.clean.binds, x.v.t.names.length <= N := fun x hx => by
  obtain ⟨y, hy, e⟩ := clean_sub a x hx
  exact Nat.le_trans e (ha y hy)
 have cb : ∀ x ∈ b.clean.binds, x.v.t.names.length <= M := fun x hx => by
  obtain ⟨y, hy, e⟩ := clean_sub b x hx
  exact Nat.le_trans e (hb y hy)
 have hz0 : Vl.zero.t.names.length = 0 := rfl
 rcases mrg_mem (A := a.clean.binds) (B := b.clean.binds) hz with ⟨x, hx, e⟩ | ⟨y, hy, e⟩ | ⟨x, hx, y, hy, e⟩
 . have := h x.v Vl.zero; have := ca x hx; rw [e]; omega
 . have := h Vl.zero y.v; have := cb y hy; rw [e]; omega
 . have := h x.v y.v; have := ca x hx; have := cb y hy; rw [e]; omega
structure Sv.fit (N : Nat) (s : Sv) : Prop where
 l : okL s.e.binds
 v : okV s.v
 len : s.e.binds.length <= N
 b : ∀ x ∈ s.e.binds, x.v.t.names.length <= N
 n : s.v.t.names.length <= N
namespace Sv.fit
theorem row {N : Nat} {s : Sv} (h : fit N s) : RowsOk s.e.binds.length (rwB s.e.binds) := okL_row h.l
theorem mono {N M : Nat} {s : Sv} (h : fit N s) (hn : N <= M) : fit M s := ⟨h.l, h.v, Nat.le_trans h.len hn, fun x hx => Nat.le_trans (h.b x hx) hn, Nat.le_trans h.n hn⟩
theorem clean {N : Nat} {s : Sv} (h : fit N s) : fit N s.clean where
 l := clean_ok h.l
 v := okV_of h.v
 len := Nat.le_trans (clean_len s.e) h.len
 b x hx := by
  obtain ⟨y, hy, e⟩ := clean_sub s.e x hx
  exact Nat.le_trans e (h.b y hy)
 n := Nat.le_trans (vof_len _) h.n
theorem room {N M : Nat} {a b : Sv} (ha : fit N a) (hb : fit M b) (hn : (N + M) * 16 <= 140737488351232) : Room a.e.binds b.e.binds :=
 ⟨fun x hx y hy => by have := ha.b x hx; have := hb.b y hy; unfold QJ; omega, fun x hx => by have := ha.b x hx; unfold QJ; show (_ + 0) * 16 <= _; omega, fun y hy => by have := hb.b y hy; unfold QJ; show (0 + _) * 16 <= _; omega⟩
theorem qj {N M : Nat} {a b : Sv} (ha : fit N a) (hb : fit M b) (hn : (N + M) * 16 <= 140737488351232) : QJ a.v b.v := by
 have := ha.n; have := hb.n; unfold QJ; omega
theorem inRE {N : Nat} {s : Sv} (h : fit N s) : _root_.Go.Proofs.YthkknkhpfffnbaaGreat.inRE s.e := inRE_of h.l
theorem inR {N : Nat} {s : Sv} (h : fit N s) : s.v.inR := by have := h.v; unfold okV at this; exact this.2
theorem join {N M : Nat} {a b : Sv} (ha : fit N a) (hb : fit M b) (hn : (N + M) * 16 <= 140737488351232) : fit (N + M) (join a b) := by
 rw [join_is]
 refine ⟨join_okL ha.l hb.l (room ha hb hn), vjoin_ok ha.v hb.v (qj ha hb hn), ?_, ?_, Nat.le_trans (vjoin_len _ _) (by have := ha.n; have := hb.n; omega)⟩
 . exact Nat.le_trans (join_len _ _) (by have := ha.len; have := hb.len; omega)
 . show ∀ x ∈ (En.join a.e b.e).binds, _
   rw [join_case]
   split
   . split
     . exact zip_len vjoin_len ha.b hb.b
     . exact (ha.clean.mono (by omega)).b
   . exact (hb.clean.mono (by omega)).b
theorem widen {N M : Nat} {a b : Sv} {l : List Int} (ha : fit N a) (hb : fit M b) (hn : (N + M) * 16 <= 140737488351232) (hl : ∀ z, z ∈ l -> rI z) : fit (N + M) (widen a b l) := by
 rw [widen_is l hb.inRE hb.inR]
 refine ⟨widen_okL ha.l hb.l (room ha hb hn) hl, vwiden_ok ha.v hb.v (qj ha hb hn) hl, ?_, ?_, Nat.le_trans (vwiden_len _ _ _) (by have := ha.n; have := hb.n; omega)⟩
 . exact Nat.le_trans (widen_len _ _ _) (by have := ha.len; have := hb.len; omega)
 . show ∀ x ∈ (En.widen a.e b.e l).binds, _
   rw [widen_case]
   split
   . split
     . exact zip_len (fun x y => vwiden_len x y l) ha.b hb.b
     . exact (ha.clean.mono (by omega)).b
   . exact (hb.clean.mono (by omega)).b
theorem narrow {N M : Nat} {a b : Sv} (ha : fit N a) (hb : fit M b) : fit (N + M) (narrow a b) := by
 rw [narrow_is]
 refine ⟨narrow_okL ha.l hb.l, vnarrow_ok ha.v hb.v, ?_, ?_, Nat.le_trans (vnarrow_len _ _) (by have := ha.n; have := hb.n; omega)⟩
 . exact Nat.le_trans (narrow_len _ _) (by have := ha.len; have := hb.len; omega)
 . show ∀ x ∈ (En.narrow a.e b.e).binds, _
   rw [narrow_case]
   split
   . split
     . split
       . exact zip_len vnarrow_len ha.b hb.b
       . exact (ha.clean.mono (by omega)).b
     . intro x hx; cases hx
   . exact (hb.clean.mono (by omega)).b
end Sv.fit
namespace Sv
@[reducible] def again (s : Sv) : Sv := ⟨⟨s.e.live, gBs s.e.binds.length (rwB s.e.binds)⟩, ⟨⟨⟨s.v.i.s.some, s.v.i.s.lo, s.v.i.s.hi⟩, ⟨s.v.i.c.some, s.v.i.c.m, s.v.i.c.r⟩⟩, ⟨s.v.t.null, gN s.v.t.names.length fun i => [st (atS s.v.t.names i)]⟩⟩⟩
theorem again_eq (s : Sv) : again s = s := by
 show (⟨⟨s.e.live, gBs s.e.binds.length (rwB s.e.binds)⟩, ⟨⟨⟨s.v.i.s.some, s.v.i.s.lo, s.v.i.s.hi⟩, ⟨s.v.i.c.some, s.v.i.c.m, s.v.i.c.r⟩⟩, ⟨s.v.t.null, gN s.v.t.names.length fun i => [st (atS s.v.t.names i)]⟩⟩⟩ : Sv) = s
 rw [gBs_row, gN_lst]
abbrev cond (s : Sv) : Prop := (s.e.binds.length <= 1099511627776 /\ RowsOk s.e.binds.length (rwB s.e.binds)) /\ ((s.v.t.names.length * 16 <= 140737488351232 /\ ∀ i, i < s.v.t.names.length -> [st (atS s.v.t.names i)] = [st (gT [st (atS s.v.t.names i)])]) /\ Sp.inR ⟨s.v.i.s.some, s.v.i.s.lo, s.v.i.s.hi⟩ /\ Cg.inR ⟨s.v.i.c.some, s.v.i.c.m, s.v.i.c.r⟩)
end Sv
theorem Sv.fit.cond {N : Nat} {s : Sv} (h : Sv.fit N s) (hN : N <= 8000000000) : Sv.cond s :=
 ⟨⟨Nat.le_trans h.len (by omega), h.row⟩, ⟨⟨by have := h.n; omega, fun _ _ => rfl⟩, h.inR⟩⟩
theorem Sv.fit.ag {N : Nat} {s : Sv} (h : Sv.fit N s) : Sv.fit N (Sv.again s) := by rw [Sv.again_eq]; exact h
structure Sv.pair (a b : Sv) : Prop where
 r : Room a.e.binds b.e.binds
 q : QJ a.v b.v
 s : a.e.binds.length + b.e.binds.length <= 1099511627776
theorem Sv.fit.pair {N M : Nat} {a b : Sv} (ha : Sv.fit N a) (hb : Sv.fit M b) (hn : N + M <= 8000000000) : Sv.pair a b :=
 ⟨ha.room hb (by omega), ha.qj hb (by omega), by have := ha.len; have := hb.len; omega⟩
structure Tn where
 j : Int
 d : Bool
 t : Int
abbrev Tn.ar (s : Tn) : Ar := .agg [.d (it s.j), .d (bo s.d), .d (it s.t)]
namespace Tn
def bump (t : Tn) : Int := if t.d = true /\ t.t < 2 then t.t + 1 else t.t
def up (t : Tn) : Tn := ⟨if t.j < 3 then t.j + 1 else t.j, false, t.bump⟩
def early (t : Tn) : Bool := decide (t.j < 3)
end Tn
def FTUp : List Ar -> Option Rs
 | [.agg [.d (.v (.int .i64 j0)), .d (.v (.bool d0)), .d (.v (.int .i64 t0))]] => some ⟨(rI j0 /\ rI t0), .tup [Tn.ar (Tn.up (⟨j0, d0, t0⟩ : Tn)), .c (.d (bo (Tn.early (⟨j0, d0, t0⟩ : Tn))))], []⟩
 | _ => none
theorem fcTUp : FC Tryz.prog 90 FTUp := by
 intro xs pre r us h hp
 unfold FTUp at h
 split at h
 . rename_i j0 d0 t0
   cases h
   have hp0 := hp
   refine fcat tys_ok (l := []) trivial Tryz.func90 rfl (by kernel_rfl) true ?_
   unfold rI at hp0
   repeat' (first | exact trivial | refine ⟨?_, ?_⟩ | intro _)
   all_goals first | (with_reducible first | apply qa | apply qb | apply qc | apply qd) | (conv => whnf)
   all_goals (try simp only [decide_eq_true_eq, decide_eq_false_iff_not] at *)
   all_goals first | rfl | (refine congrArg (Value.int .i64) ?_; (try rw [wrap64 (by omega) (by omega)]); simp only [Tn.up, Tn.bump]; (try subst d0); first | rfl | (simp; done) | (simp; omega)) | (refine congrArg Value.bool ?_; simp only [Tn.early]; simp; omega)
 . cases h
end Go.Proofs.YthkknkhpfffnbaaGreat
