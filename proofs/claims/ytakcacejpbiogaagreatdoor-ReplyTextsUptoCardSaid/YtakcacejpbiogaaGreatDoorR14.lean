/- The text of a value, as the reference has it. No condition. -/
import Derived.Test.YtakcacejpbiogaaGreatDoorR13
import Derived.Test.YtakcacejpbiogaaGreatDoorCards
import Derived.Test.YtakcacejpbiogaaGreatDoorTie
import Derived.WalkKit
import Derived.ProofKit
import Derived.OpenShut
import Derived.Deep.DeepHandedRow
import Derived.Deep.DeepWitnessRowRef
import Derived.Lib.LaidTab
import Derived.LaidMore
import Derived.Clock
import Derived.SizedLaws
set_option linter.all false
set_option maxHeartbeats 8000000
set_option maxRecDepth 100000
namespace Go.Proofs.YtakcacejpbiogaaGreatDoor
open Go.Sx
open Go.RowKit Go.Lib Go.Sort
def spc (P : List ByteArray) : ByteArray := mkB (P.flatMap fun x => 32 :: x.data.toList)
theorem spc_snoc (P : List ByteArray) (x : ByteArray) : spc (P ++ [x]) = spc P ++ mkB (32 :: x.data.toList) := by
 unfold spc
 rw [mkB_app, List.flatMap_append]; simp
theorem spc_sz : ∀ (P : List ByteArray), (spc P).size = szL P + P.length
 | [] => rfl
 | x :: P => by
   have ih := spc_sz P
   unfold spc at ih ⊢
   rw [mkB_sz] at ih ⊢
   rw [List.flatMap_cons, List.length_append, ih, List.length_cons, sz_len, szL_cons, List.length_cons]; omega
theorem spc_tail {P : List ByteArray} (h : P ≠ []) : (spc P).extract 1 (spc P).size = joinS P blS := by
 cases P with
 | nil => exact absurd rfl h
 | cons x P =>
   have e : spc (x :: P) = mkB (32 :: (x.data.toList ++ P.flatMap fun x => 32 :: x.data.toList)) := by unfold spc; rw [List.flatMap_cons]; rfl
   rw [e, ext_mk, mkB_sz]
   show mkB _ = mkB (Lib.join (x.data.toList :: P.map (·.data.toList)) blS.data.toList)
   congr 1
   rw [Lib.join_cons, List.take_of_length_le (by simp)]
   show x.data.toList ++ _ = _
   congr 1
   unfold Lib.joinTail
   rw [List.map_map]
   rw [List.flatMap_def]; rfl
theorem spc_ne {P : List ByteArray} (h : P ≠ []) : spc P ≠ ⟨#[]⟩ := fun e => by
 have := spc_sz P
 rw [e] at this
 have h2 : (⟨#[]⟩ : ByteArray).size = 0 := rfl
 cases P with
 | nil => exact h rfl
 | cons x P => rw [h2, List.length_cons] at this; omega
theorem spc_amp (s x : ByteArray) : s ++ ((⟨#[32, 38]⟩ : ByteArray) ++ x) = s ++ mkB (32 :: (amp x).data.toList) := by
 rw [amp_list]
 conv => lhs; rw [<- mkB_of x]
 show s ++ (mkB [32, 38] ++ _) = _
 rw [mkB_app]; rfl
abbrev sl8R : List (Nat × Sm) := [(13, ⟨[], FRVClean⟩), (26, ⟨[], FRNumC⟩)]
theorem sp8R : sumsOk Tryz.prog sl8R := ⟨fcRVClean, fcRNumC, trivial⟩
theorem tail13 {w : Vl} {H : List ByteArray} {t0 : ByteArray} (ht : t0 = spc H) (hH : H.length <= 6) (hHs : szL H <= 1000) (hn : w.t.names.length <= 1048576) (hs : szL w.t.names <= 1048576) {T : ByteArray} (hT : T = if H ++ w.t.names.map amp = [] then nilS else joinS (H ++ w.t.names.map amp) blS) {Q : Exit -> St -> Prop} (hQ : ∀ st, lookT st.tmps 2 = vx (.string T) -> Q .ret st) :
 ASat Tryz.prog 0 (sndC (sndC (sndC (sndC (sndC (Option.get Tryz.f10.body rfl)))))) ⟨[(1, .va (.c (.own 0 0))), (3, vx (.string t0))], [(0, .cells [.d (bo w.i.s.some), .d (it w.i.s.lo), .d (it w.i.s.hi), .d (bo w.i.c.some), .d (it w.i.c.m), .d (it w.i.c.r), .d (bo w.t.null), .d (lst w.t.names)])], 1, Tryz.f10.ntmps⟩ Q := by
 subst ht
 refine ASat.seqA tys_ok (l := sl8R) sp8R (by kernel_rfl) ?_
 repeat' (first | exact trivial | (with_reducible first | exact (fun (h : true = false) => absurd h (by decide)) | exact (fun (h : false = true) => absurd h (by decide)) | exact hlo | exact hhi | exact hm | exact hr | exact e1 | exact e2 | exact e3 | exact e4 | exact e5 | exact e6) | refine ⟨?_, ?_⟩ | intro _)
 all_goals first | (with_reducible first | apply qa | apply qb | apply qc | apply qd) | (conv => whnf)
 all_goals first | omega | exact hlo | exact hhi | exact hm | exact hr | (rw [i64max]; simp only [ByteArray.size_append, q0, q1, q2, q4, q5, q6]; omega) | skip
 refine ASat.le [0] 0 ?_ (ASat.loop (X := Nat) (fun i => ⟨[(4, vx (.int .i64 i)), (3, vx (.string (spc (pM w H i)))), (1, .va (.c (.own 0 0)))], [(0, .cells [.d (bo w.i.s.some), .d (it w.i.s.lo), .d (it w.i.s.hi), .d (bo w.i.c.some), .d (it w.i.c.m), .d (it w.i.c.r), .d (bo w.t.null), .d (lst w.t.names)])], 1, Tryz.f10.ntmps⟩) (fun i => w.t.names.length - i) (fun i => i <= w.t.names.length) (fun i hx => ?_) 0 (Nat.zero_le _))
 . refine ⟨rfl, rfl, rfl, ⟨rfl, ?_, ⟨rfl, rfl⟩, trivial⟩, ⟨⟨rfl, rfl, rfl, rfl, rfl, rfl, rfl, ⟨rfl, rfl, fun _ _ => rfl⟩, trivial⟩, trivial⟩⟩
   rw [pM_0]; exact rfl
 . rcases Nat.lt_or_ge i w.t.names.length with hi | hi
   . have hib : (0 : Int) <= (i : Int) /\ (i : Int) < (w.t.names.length : Int) := by omega
     have hne : decide ((i : Int) < (w.t.names.length : Int)) = true := decide_eq_true (by omega)
     have hw : IntKind.wrap .i64 ((i : Int) + 1) = ((i + 1 : Nat) : Int) := by rw [wI_id _ (by omega) (by omega)]; omega
     have hml : (pM w H i).length <= 1048582 := by rw [pM_len hx]; omega
     have hms : (spc (pM w H i)).size <= 4194304 := by
      rw [spc_sz]
      have h3 : szL (pM w H i) <= szL H + (szL w.t.names + w.t.names.length) := by
       have h4 : szL (pM w H w.t.names.length) = szL H + (szL w.t.names + w.t.names.length) := by rw [pM_all, szL_app, szL_amp]
       have h5 : szL (pM w H i) <= szL (pM w H w.t.names.length) := by
        unfold pM
        rw [szL_app, szL_app, List.take_length]
        have : w.t.names = w.t.names.take i ++ w.t.names.drop i := (List.take_append_drop i _).symm
        conv => rhs; rw [this, List.map_append, szL_app]
        omega
       omega
      omega
     have has : (atS w.t.names (Int.toNat (i : Int))).size <= 1048576 := Nat.le_trans at_szL hs
     have ha1 : (((⟨#[32, 38]⟩ : ByteArray).size + (atS w.t.names (Int.toNat (i : Int))).size : Nat) : Int) <= IntKind.i64.max := by rw [i64max, show (⟨#[32, 38]⟩ : ByteArray).size = 2 from rfl]; omega
     have ha2 : (((spc (pM w H i)).size + ((⟨#[32, 38]⟩ : ByteArray) ++ (atS w.t.names (Int.toNat (i : Int)))).size : Nat) : Int) <= IntKind.i64.max := by rw [i64max, ByteArray.size_append, show (⟨#[32, 38]⟩ : ByteArray).size = 2 from rfl]; omega
     refine ASat.seqA tys_ok (l := sl8R) sp8R (by kernel_rfl) ?_
     repeat' (first | exact trivial | (with_reducible first | exact (fun (h : true = false) => absurd h (by decide)) | exact (fun (h : false = true) => absurd h (by decide)) | exact hib.1 | exact hib.2 | exact hib | exact ha1 | exact ha2 | exact (fun h => absurd (hne.symm.trans h) (by decide))) | refine ⟨?_, ?_⟩ | intro _)
     all_goals first | (with_reducible first | apply qa | apply qb | apply qc | apply qd) | (conv => whnf)
     refine ASat.seqA tys_ok (l := sl8R) sp8R (by kernel_rfl) ?_
     repeat' (first | exact trivial | (with_reducible first | exact (fun (h : true = false) => absurd h (by decide)) | exact (fun (h : false = true) => absurd h (by decide)) | exact hib.1 | exact hib.2 | exact hib | exact ha1 | exact ha2 | exact (fun h => absurd (hne.symm.trans h) (by decide))) | refine ⟨?_, ?_⟩ | intro _)
     all_goals first | (with_reducible first | apply qa | apply qb | apply qc | apply qd) | (conv => whnf)
     refine ASat.vc tys_ok (l := sl8R) sp8R (by kernel_rfl) ?_
     conv => whnf
     rw [hw]
     refine ⟨i + 1, hi, by dsimp only; omega, [0], 0, ?_⟩
     refine ⟨rfl, rfl, rfl, ⟨rfl, ?_, ⟨rfl, rfl⟩, trivial⟩, ⟨⟨rfl, rfl, rfl, rfl, rfl, rfl, rfl, ⟨rfl, rfl, fun _ _ => rfl⟩, trivial⟩, trivial⟩⟩
     rw [pM_s hi, spc_snoc, <- spc_amp]; rfl
   . have hne : decide ((i : Int) < (w.t.names.length : Int)) = false := decide_eq_false (by omega)
     obtain rfl : i = w.t.names.length := by omega
     refine ASat.vc tys_ok (l := sl8R) sp8R (by kernel_rfl) ?_
     repeat' (first | exact trivial | (with_reducible first | exact (fun (h : true = false) => absurd h (by decide)) | exact (fun (h : false = true) => absurd h (by decide)) | exact (fun h => absurd (hne.symm.trans h) (by decide))) | refine ⟨?_, ?_⟩ | intro _)
     all_goals first | (with_reducible first | apply qa | apply qb | apply qc | apply qd) | (conv => whnf)
     cases hE : ((spc (pM w H w.t.names.length)).toList == (⟨#[]⟩ : ByteArray).toList) with
     | true =>
       refine ASat.seqA tys_ok (l := sl8R) sp8R (by kernel_rfl) ?_
       repeat' (first | exact trivial | (with_reducible first | exact (fun (h : true = false) => absurd h (by decide)) | exact (fun (h : false = true) => absurd h (by decide)) | exact (fun h => absurd (hE.symm.trans h) (by decide))) | refine ⟨?_, ?_⟩ | intro _)
       all_goals first | (with_reducible first | apply qa | apply qb | apply qc | apply qd) | (conv => whnf)
       refine hQ _ ?_
       show vx (.string nilS) = _
       rw [seq_iff] at hE
       rw [hT, if_pos (by rw [<- pM_all]; exact Decidable.byContradiction fun h => spc_ne h (of_decide_eq_true hE))]
     | false =>
       have hPne : pM w H w.t.names.length ≠ [] := fun e => by rw [e, seq_iff] at hE; exact of_decide_eq_false hE rfl
       have hb1 : (0 : Int) <= 1 /\ (1 : Int) <= ((spc (pM w H w.t.names.length)).size : Int) := by
        have := spc_sz (pM w H w.t.names.length)
        have h0 : (pM w H w.t.names.length).length ≠ 0 := fun e => hPne (List.eq_nil_of_length_eq_zero e)
        omega
       refine ASat.seqA tys_ok (l := sl8R) sp8R (by kernel_rfl) ?_
       repeat' (first | exact trivial | (with_reducible first | exact (fun (h : true = false) => absurd h (by decide)) | exact (fun (h : false = true) => absurd h (by decide)) | exact hb1 | exact hb1.1 | exact hb1.2 | exact (fun h => absurd (hE.symm.trans h) (by decide))) | refine ⟨?_, ?_⟩ | intro _)
       all_goals first | (with_reducible first | apply qa | apply qb | apply qc | apply qd) | (conv => whnf)
       refine ASat.vc tys_ok (l := sl8R) sp8R (by kernel_rfl) ?_
       repeat' (first | exact trivial | (with_reducible first | exact (fun (h : true = false) => absurd h (by decide)) | exact (fun (h : false = true) => absurd h (by decide)) | exact hb1 | exact hb1.1 | exact hb1.2 | exact (Int.le_refl _) | exact (fun h => absurd (hE.symm.trans h) (by decide))) | refine ⟨?_, ?_⟩ | intro _)
       all_goals first | (with_reducible first | apply qa | apply qb | apply qc | apply qd) | (conv => whnf)
       refine hQ _ ?_
       first | (show vx (.string ((spc (pM w H w.t.names.length)).extract (Int.toNat 1) (Int.toNat ((spc (pM w H w.t.names.length)).size : Int)))) = _; rw [hT, if_neg (fun e => by rw [<- pM_all] at e; exact hPne e), <- pM_all, <- spc_tail hPne]; rfl)
abbrev sl9R : List (Nat × Sm) := [(13, ⟨[], FRVClean⟩), (26, ⟨[], FRNumC⟩)]
theorem sp9R : sumsOk Tryz.prog sl9R := ⟨fcRVClean, fcRNumC, trivial⟩
theorem rval_walk {w : Vl} (hr1 : w.i.s.inR) (hr2 : w.i.c.inR) (hn : w.t.names.length <= 1048576) (hs : szL w.t.names <= 1048576) {Q : Exit -> St -> Prop} (hQ : ∀ st, lookT st.tmps 2 = vx (.string (textV w)) -> Q .ret st) :
 ASat Tryz.prog 0 (sndC (sndC (Option.get Tryz.f10.body rfl))) ⟨[(1, .va (.c (.own 0 0)))], [(0, .cells [.d (bo w.i.s.some), .d (it w.i.s.lo), .d (it w.i.s.hi), .d (bo w.i.c.some), .d (it w.i.c.m), .d (it w.i.c.r), .d (bo w.t.null), .d (lst w.t.names)])], 1, Tryz.f10.ntmps⟩ Q := by
 unfold Sp.inR at hr1
 unfold Cg.inR at hr2
 have hlo : rI w.i.s.lo := hr1.1
 have hhi : rI w.i.s.hi := hr1.2
 have hm : rI w.i.c.m := hr2.1
 have hr : rI w.i.c.r := hr2.2
 have z1 := itoa_sz hlo
 have z2 := itoa_sz hhi
 have z3 := itoa_sz hm
 have z4 := itoa_sz hr
 have q1 : (⟨#[32]⟩ : ByteArray).size = 1 := rfl
 have q2 : (⟨#[46, 46]⟩ : ByteArray).size = 2 := rfl
 have q4 : (⟨#[32, 98, 121, 32]⟩ : ByteArray).size = 4 := rfl
 have q5 : (⟨#[32, 97, 116, 32]⟩ : ByteArray).size = 4 := rfl
 have q0 : (⟨#[]⟩ : ByteArray).size = 0 := rfl
 have q3 : (⟨#[98, 121]⟩ : ByteArray).size = 2 := rfl
 have q7 : (⟨#[97, 116]⟩ : ByteArray).size = 2 := rfl
 have q8 : (⟨#[110, 117, 108, 108]⟩ : ByteArray).size = 4 := rfl
 have q6 : (⟨#[32, 110, 117, 108, 108]⟩ : ByteArray).size = 5 := rfl
 have e1 : True := trivial
 have e2 := e1
 have e3 := e1
 have e4 := e1
 have e5 := e1
 have e6 := e1
 have zz : (itoaS w.i.s.lo ++ ⟨#[46, 46]⟩ ++ itoaS w.i.s.hi).size <= 44 := by rw [ByteArray.size_append, ByteArray.size_append, q2]; omega
 rcases Bool.eq_false_or_eq_true w.i.s.some with h1 | h1
 . rcases Bool.eq_false_or_eq_true (w.i.c.m != 1) with h2 | h2
   . rcases Bool.eq_false_or_eq_true w.t.null with h3 | h3
     . refine ASat.seqA tys_ok (l := sl9R) sp9R (by kernel_rfl) ?_
       repeat' (first | exact trivial | (with_reducible first | exact (fun (h : true = false) => absurd h (by decide)) | exact (fun (h : false = true) => absurd h (by decide)) | exact hlo | exact hhi | exact hm | exact hr | exact e1 | exact e2 | exact e3 | exact e4 | exact e5 | exact e6 | exact (fun h => absurd (h1.symm.trans h) (by decide)) | exact (fun h => absurd (h2.symm.trans h) (by decide)) | exact (fun h => absurd (h3.symm.trans h) (by decide))) | refine ⟨?_, ?_⟩ | intro _)
       all_goals first | (with_reducible first | apply qa | apply qb | apply qc | apply qd) | (conv => whnf)
       all_goals first | omega | exact hlo | exact hhi | exact hm | exact hr | (rw [i64max]; simp only [ByteArray.size_append, q0, q1, q2, q4, q5, q6]; omega) | skip
       refine ASat.seqA tys_ok (l := sl9R) sp9R (by kernel_rfl) ?_
       repeat' (first | exact trivial | (with_reducible first | exact (fun (h : true = false) => absurd h (by decide)) | exact (fun (h : false = true) => absurd h (by decide)) | exact hlo | exact hhi | exact hm | exact hr | exact e1 | exact e2 | exact e3 | exact e4 | exact e5 | exact e6 | exact (fun h => absurd (h1.symm.trans h) (by decide)) | exact (fun h => absurd (h2.symm.trans h) (by decide)) | exact (fun h => absurd (h3.symm.trans h) (by decide))) | refine ⟨?_, ?_⟩ | intro _)
       all_goals first | (with_reducible first | apply qa | apply qb | apply qc | apply qd) | (conv => whnf)
       all_goals first | omega | exact hlo | exact hhi | exact hm | exact hr | (rw [i64max]; simp only [ByteArray.size_append, q0, q1, q2, q4, q5, q6]; omega) | skip
       refine ASat.seqA tys_ok (l := sl9R) sp9R (by kernel_rfl) ?_
       repeat' (first | exact trivial | (with_reducible first | exact (fun (h : true = false) => absurd h (by decide)) | exact (fun (h : false = true) => absurd h (by decide)) | exact hlo | exact hhi | exact hm | exact hr | exact e1 | exact e2 | exact e3 | exact e4 | exact e5 | exact e6 | exact (fun h => absurd (h1.symm.trans h) (by decide)) | exact (fun h => absurd (h2.symm.trans h) (by decide)) | exact (fun h => absurd (h3.symm.trans h) (by decide))) | refine ⟨?_, ?_⟩ | intro _)
       all_goals first | (with_reducible first | apply qa | apply qb | apply qc | apply qd) | (conv => whnf)
       all_goals first | omega | exact hlo | exact hhi | exact hm | exact hr | (rw [i64max]; simp only [ByteArray.size_append, q0, q1, q2, q4, q5, q6]; omega) | skip
       have hH : headV w = [itoaS w.i.s.lo ++ (⟨#[46, 46]⟩ : ByteArray) ++ itoaS w.i.s.hi, ⟨#[98, 121]⟩, itoaS w.i.c.m, ⟨#[97, 116]⟩, itoaS w.i.c.r, ⟨#[110, 117, 108, 108]⟩] := by unfold headV; rw [if_pos h1, if_neg (by simpa using h2), if_pos h3]; first | rfl | (simp; done)
       refine ASat.le [0] 0 (st' := ⟨[(1, .va (.c (.own 0 0))), (3, vx (.string ((((((⟨#[32]⟩ : ByteArray) ++ itoaS w.i.s.lo) ++ ⟨#[46, 46]⟩) ++ itoaS w.i.s.hi) ++ ((((⟨#[32, 98, 121, 32]⟩ : ByteArray) ++ itoaS w.i.c.m) ++ ⟨#[32, 97, 116, 32]⟩) ++ itoaS w.i.c.r)) ++ ⟨#[32, 110, 117, 108, 108]⟩)))], [(0, .cells [.d (bo w.i.s.some), .d (it w.i.s.lo), .d (it w.i.s.hi), .d (bo w.i.c.some), .d (it w.i.c.m), .d (it w.i.c.r), .d (bo w.t.null), .d (lst w.t.names)])], 1, Tryz.f10.ntmps⟩) ?_ (tail13 (H := [itoaS w.i.s.lo ++ (⟨#[46, 46]⟩ : ByteArray) ++ itoaS w.i.s.hi, ⟨#[98, 121]⟩, itoaS w.i.c.m, ⟨#[97, 116]⟩, itoaS w.i.c.r, ⟨#[110, 117, 108, 108]⟩]) ?_ (by simp) ?_ hn hs (T := textV w) (by unfold textV partsV; rw [hH]) hQ)
       . exact ⟨rfl, rfl, rfl, ⟨⟨rfl, rfl⟩, rfl, trivial⟩, ⟨⟨rfl, rfl, rfl, rfl, rfl, rfl, rfl, ⟨rfl, rfl, fun _ _ => rfl⟩, trivial⟩, trivial⟩⟩
       . unfold spc; first | rfl | (apply ByteArray.ext; apply Array.ext'; simp [mkB]; done)
       . unfold szL; simp <;> first | omega | decide | (simp only [ByteArray.size_append] at *; omega)
     . refine ASat.seqA tys_ok (l := sl9R) sp9R (by kernel_rfl) ?_
       repeat' (first | exact trivial | (with_reducible first | exact (fun (h : true = false) => absurd h (by decide)) | exact (fun (h : false = true) => absurd h (by decide)) | exact hlo | exact hhi | exact hm | exact hr | exact e1 | exact e2 | exact e3 | exact e4 | exact e5 | exact e6 | exact (fun h => absurd (h1.symm.trans h) (by decide)) | exact (fun h => absurd (h2.symm.trans h) (by decide)) | exact (fun h => absurd (h3.symm.trans h) (by decide))) | refine ⟨?_, ?_⟩ | intro _)
       all_goals first | (with_reducible first | apply qa | apply qb | apply qc | apply qd) | (conv => whnf)
       all_goals first | omega | exact hlo | exact hhi | exact hm | exact hr | (rw [i64max]; simp only [ByteArray.size_append, q0, q1, q2, q4, q5, q6]; omega) | skip
       refine ASat.seqA tys_ok (l := sl9R) sp9R (by kernel_rfl) ?_
       repeat' (first | exact trivial | (with_reducible first | exact (fun (h : true = false) => absurd h (by decide)) | exact (fun (h : false = true) => absurd h (by decide)) | exact hlo | exact hhi | exact hm | exact hr | exact e1 | exact e2 | exact e3 | exact e4 | exact e5 | exact e6 | exact (fun h => absurd (h1.symm.trans h) (by decide)) | exact (fun h => absurd (h2.symm.trans h) (by decide)) | exact (fun h => absurd (h3.symm.trans h) (by decide))) | refine ⟨?_, ?_⟩ | intro _)
       all_goals first | (with_reducible first | apply qa | apply qb | apply qc | apply qd) | (conv => whnf)
       all_goals first | omega | exact hlo | exact hhi | exact hm | exact hr | (rw [i64max]; simp only [ByteArray.size_append, q0, q1, q2, q4, q5, q6]; omega) | skip
       refine ASat.seqA tys_ok (l := sl9R) sp9R (by kernel_rfl) ?_
       repeat' (first | exact trivial | (with_reducible first | exact (fun (h : true = false) => absurd h (by decide)) | exact (fun (h : false = true) => absurd h (by decide)) | exact hlo | exact hhi | exact hm | exact hr | exact e1 | exact e2 | exact e3 | exact e4 | exact e5 | exact e6 | exact (fun h => absurd (h1.symm.trans h) (by decide)) | exact (fun h => absurd (h2.symm.trans h) (by decide)) | exact (fun h => absurd (h3.symm.trans h) (by decide))) | refine ⟨?_, ?_⟩ | intro _)
       all_goals first | (with_reducible first | apply qa | apply qb | apply qc | apply qd) | (conv => whnf)
       all_goals first | omega | exact hlo | exact hhi | exact hm | exact hr | (rw [i64max]; simp only [ByteArray.size_append, q0, q1, q2, q4, q5, q6]; omega) | skip
       have hH : headV w = [itoaS w.i.s.lo ++ (⟨#[46, 46]⟩ : ByteArray) ++ itoaS w.i.s.hi, ⟨#[98, 121]⟩, itoaS w.i.c.m, ⟨#[97, 116]⟩, itoaS w.i.c.r] := by unfold headV; rw [if_pos h1, if_neg (by simpa using h2), if_neg (by rw [h3]; decide)]; first | rfl | (simp; done)
       refine ASat.le [0] 0 (st' := ⟨[(1, .va (.c (.own 0 0))), (3, vx (.string (((((⟨#[32]⟩ : ByteArray) ++ itoaS w.i.s.lo) ++ ⟨#[46, 46]⟩) ++ itoaS w.i.s.hi) ++ ((((⟨#[32, 98, 121, 32]⟩ : ByteArray) ++ itoaS w.i.c.m) ++ ⟨#[32, 97, 116, 32]⟩) ++ itoaS w.i.c.r))))], [(0, .cells [.d (bo w.i.s.some), .d (it w.i.s.lo), .d (it w.i.s.hi), .d (bo w.i.c.some), .d (it w.i.c.m), .d (it w.i.c.r), .d (bo w.t.null), .d (lst w.t.names)])], 1, Tryz.f10.ntmps⟩) ?_ (tail13 (H := [itoaS w.i.s.lo ++ (⟨#[46, 46]⟩ : ByteArray) ++ itoaS w.i.s.hi, ⟨#[98, 121]⟩, itoaS w.i.c.m, ⟨#[97, 116]⟩, itoaS w.i.c.r]) ?_ (by simp) ?_ hn hs (T := textV w) (by unfold textV partsV; rw [hH]) hQ)
       . exact ⟨rfl, rfl, rfl, ⟨⟨rfl, rfl⟩, rfl, trivial⟩, ⟨⟨rfl, rfl, rfl, rfl, rfl, rfl, rfl, ⟨rfl, rfl, fun _ _ => rfl⟩, trivial⟩, trivial⟩⟩
       . unfold spc; first | rfl | (apply ByteArray.ext; apply Array.ext'; simp [mkB]; done)
       . unfold szL; simp <;> first | omega | decide | (simp only [ByteArray.size_append] at *; omega)
   . rcases Bool.eq_false_or_eq_true w.t.null with h3 | h3
     . refine ASat.seqA tys_ok (l := sl9R) sp9R (by kernel_rfl) ?_
       repeat' (first | exact trivial | (with_reducible first | exact (fun (h : true = false) => absurd h (by decide)) | exact (fun (h : false = true) => absurd h (by decide)) | exact hlo | exact hhi | exact hm | exact hr | exact e1 | exact e2 | exact e3 | exact e4 | exact e5 | exact e6 | exact (fun h => absurd (h1.symm.trans h) (by decide)) | exact (fun h => absurd (h2.symm.trans h) (by decide)) | exact (fun h => absurd (h3.symm.trans h) (by decide))) | refine ⟨?_, ?_⟩ | intro _)
       all_goals first | (with_reducible first | apply qa | apply qb | apply qc | apply qd) | (conv => whnf)
       all_goals first | omega | exact hlo | exact hhi | exact hm | exact hr | (rw [i64max]; simp only [ByteArray.size_append, q0, q1, q2, q4, q5, q6]; omega) | skip
       refine ASat.seqA tys_ok (l := sl9R) sp9R (by kernel_rfl) ?_
       repeat' (first | exact trivial | (with_reducible first | exact (fun (h : true = false) => absurd h (by decide)) | exact (fun (h : false = true) => absurd h (by decide)) | exact hlo | exact hhi | exact hm | exact hr | exact e1 | exact e2 | exact e3 | exact e4 | exact e5 | exact e6 | exact (fun h => absurd (h1.symm.trans h) (by decide)) | exact (fun h => absurd (h2.symm.trans h) (by decide)) | exact (fun h => absurd (h3.symm.trans h) (by decide))) | refine ⟨?_, ?_⟩ | intro _)
       all_goals first | (with_reducible first | apply qa | apply qb | apply qc | apply qd) | (conv => whnf)
       all_goals first | omega | exact hlo | exact hhi | exact hm | exact hr | (rw [i64max]; simp only [ByteArray.size_append, q0, q1, q2, q4, q5, q6]; omega) | skip
       refine ASat.seqA tys_ok (l := sl9R) sp9R (by kernel_rfl) ?_
       repeat' (first | exact trivial | (with_reducible first | exact (fun (h : true = false) => absurd h (by decide)) | exact (fun (h : false = true) => absurd h (by decide)) | exact hlo | exact hhi | exact hm | exact hr | exact e1 | exact e2 | exact e3 | exact e4 | exact e5 | exact e6 | exact (fun h => absurd (h1.symm.trans h) (by decide)) | exact (fun h => absurd (h2.symm.trans h) (by decide)) | exact (fun h => absurd (h3.symm.trans h) (by decide))) | refine ⟨?_, ?_⟩ | intro _)
       all_goals first | (with_reducible first | apply qa | apply qb | apply qc | apply qd) | (conv => whnf)
       all_goals first | omega | exact hlo | exact hhi | exact hm | exact hr | (rw [i64max]; simp only [ByteArray.size_append, q0, q1, q2, q4, q5, q6]; omega) | skip
       have hH : headV w = [itoaS w.i.s.lo ++ (⟨#[46, 46]⟩ : ByteArray) ++ itoaS w.i.s.hi, ⟨#[110, 117, 108, 108]⟩] := by unfold headV; rw [if_pos h1, if_pos (by simpa using h2), if_pos h3]; first | rfl | (simp; done)
       refine ASat.le [0] 0 (st' := ⟨[(1, .va (.c (.own 0 0))), (3, vx (.string (((((⟨#[32]⟩ : ByteArray) ++ itoaS w.i.s.lo) ++ ⟨#[46, 46]⟩) ++ itoaS w.i.s.hi) ++ ⟨#[32, 110, 117, 108, 108]⟩)))], [(0, .cells [.d (bo w.i.s.some), .d (it w.i.s.lo), .d (it w.i.s.hi), .d (bo w.i.c.some), .d (it w.i.c.m), .d (it w.i.c.r), .d (bo w.t.null), .d (lst w.t.names)])], 1, Tryz.f10.ntmps⟩) ?_ (tail13 (H := [itoaS w.i.s.lo ++ (⟨#[46, 46]⟩ : ByteArray) ++ itoaS w.i.s.hi, ⟨#[110, 117, 108, 108]⟩]) ?_ (by simp) ?_ hn hs (T := textV w) (by unfold textV partsV; rw [hH]) hQ)
       . exact ⟨rfl, rfl, rfl, ⟨⟨rfl, rfl⟩, rfl, trivial⟩, ⟨⟨rfl, rfl, rfl, rfl, rfl, rfl, rfl, ⟨rfl, rfl, fun _ _ => rfl⟩, trivial⟩, trivial⟩⟩
       . unfold spc; first | rfl | (apply ByteArray.ext; apply Array.ext'; simp [mkB]; done)
       . unfold szL; simp <;> first | omega | decide | (simp only [ByteArray.size_append] at *; omega)
     . refine ASat.seqA tys_ok (l := sl9R) sp9R (by kernel_rfl) ?_
       repeat' (first | exact trivial | (with_reducible first | exact (fun (h : true = false) => absurd h (by decide)) | exact (fun (h : false = true) => absurd h (by decide)) | exact hlo | exact hhi | exact hm | exact hr | exact e1 | exact e2 | exact e3 | exact e4 | exact e5 | exact e6 | exact (fun h => absurd (h1.symm.trans h) (by decide)) | exact (fun h => absurd (h2.symm.trans h) (by decide)) | exact (fun h => absurd (h3.symm.trans h) (by decide))) | refine ⟨?_, ?_⟩ | intro _)
       all_goals first | (with_reducible first | apply qa | apply qb | apply qc | apply qd) | (conv => whnf)
       all_goals first | omega | exact hlo | exact hhi | exact hm | exact hr | (rw [i64max]; simp only [ByteArray.size_append, q0, q1, q2, q4, q5, q6]; omega) | skip
       refine ASat.seqA tys_ok (l := sl9R) sp9R (by kernel_rfl) ?_
       repeat' (first | exact trivial | (with_reducible first | exact (fun (h : true = false) => absurd h (by decide)) | exact (fun (h : false = true) => absurd h (by decide)) | exact hlo | exact hhi | exact hm | exact hr | exact e1 | exact e2 | exact e3 | exact e4 | exact e5 | exact e6 | exact (fun h => absurd (h1.symm.trans h) (by decide)) | exact (fun h => absurd (h2.symm.trans h) (by decide)) | exact (fun h => absurd (h3.symm.trans h) (by decide))) | refine ⟨?_, ?_⟩ | intro _)
       all_goals first | (with_reducible first | apply qa | apply qb | apply qc | apply qd) | (conv => whnf)
       all_goals first | omega | exact hlo | exact hhi | exact hm | exact hr | (rw [i64max]; simp only [ByteArray.size_append, q0, q1, q2, q4, q5, q6]; omega) | skip
       refine ASat.seqA tys_ok (l := sl9R) sp9R (by kernel_rfl) ?_
       repeat' (first | exact trivial | (with_reducible first | exact (fun (h : true = false) => absurd h (by decide)) | exact (fun (h : false = true) => absurd h (by decide)) | exact hlo | exact hhi | exact hm | exact hr | exact e1 | exact e2 | exact e3 | exact e4 | exact e5 | exact e6 | exact (fun h => absurd (h1.symm.trans h) (by decide)) | exact (fun h => absurd (h2.symm.trans h) (by decide)) | exact (fun h => absurd (h3.symm.trans h) (by decide))) | refine ⟨?_, ?_⟩ | intro _)
       all_goals first | (with_reducible first | apply qa | apply qb | apply qc | apply qd) | (conv => whnf)
       all_goals first | omega | exact hlo | exact hhi | exact hm | exact hr | (rw [i64max]; simp only [ByteArray.size_append, q0, q1, q2, q4, q5, q6]; omega) | skip
       have hH : headV w = [itoaS w.i.s.lo ++ (⟨#[46, 46]⟩ : ByteArray) ++ itoaS w.i.s.hi] := by unfold headV; rw [if_pos h1, if_pos (by simpa using h2), if_neg (by rw [h3]; decide)]; first | rfl | (simp; done)
       refine ASat.le [0] 0 (st' := ⟨[(1, .va (.c (.own 0 0))), (3, vx (.string ((((⟨#[32]⟩ : ByteArray) ++ itoaS w.i.s.lo) ++ ⟨#[46, 46]⟩) ++ itoaS w.i.s.hi)))], [(0, .cells [.d (bo w.i.s.some), .d (it w.i.s.lo), .d (it w.i.s.hi), .d (bo w.i.c.some), .d (it w.i.c.m), .d (it w.i.c.r), .d (bo w.t.null), .d (lst w.t.names)])], 1, Tryz.f10.ntmps⟩) ?_ (tail13 (H := [itoaS w.i.s.lo ++ (⟨#[46, 46]⟩ : ByteArray) ++ itoaS w.i.s.hi]) ?_ (by simp) ?_ hn hs (T := textV w) (by unfold textV partsV; rw [hH]) hQ)
       . exact ⟨rfl, rfl, rfl, ⟨⟨rfl, rfl⟩, rfl, trivial⟩, ⟨⟨rfl, rfl, rfl, rfl, rfl, rfl, rfl, ⟨rfl, rfl, fun _ _ => rfl⟩, trivial⟩, trivial⟩⟩
       . unfold spc; first | rfl | (apply ByteArray.ext; apply Array.ext'; simp [mkB]; done)
       . unfold szL; simp <;> first | omega | decide | (simp only [ByteArray.size_append] at *; omega)
 . rcases Bool.eq_false_or_eq_true w.t.null with h3 | h3
   . refine ASat.seqA tys_ok (l := sl9R) sp9R (by kernel_rfl) ?_
     repeat' (first | exact trivial | (with_reducible first | exact (fun (h : true = false) => absurd h (by decide)) | exact (fun (h : false = true) => absurd h (by decide)) | exact hlo | exact hhi | exact hm | exact hr | exact e1 | exact e2 | exact e3 | exact e4 | exact e5 | exact e6 | exact (fun h => absurd (h1.symm.trans h) (by decide)) | exact (fun h => absurd (h3.symm.trans h) (by decide))) | refine ⟨?_, ?_⟩ | intro _)
     all_goals first | (with_reducible first | apply qa | apply qb | apply qc | apply qd) | (conv => whnf)
     all_goals first | omega | exact hlo | exact hhi | exact hm | exact hr | (rw [i64max]; simp only [ByteArray.size_append, q0, q1, q2, q4, q5, q6]; omega) | skip
     refine ASat.seqA tys_ok (l := sl9R) sp9R (by kernel_rfl) ?_
     repeat' (first | exact trivial | (with_reducible first | exact (fun (h : true = false) => absurd h (by decide)) | exact (fun (h : false = true) => absurd h (by decide)) | exact hlo | exact hhi | exact hm | exact hr | exact e1 | exact e2 | exact e3 | exact e4 | exact e5 | exact e6 | exact (fun h => absurd (h1.symm.trans h) (by decide)) | exact (fun h => absurd (h3.symm.trans h) (by decide))) | refine ⟨?_, ?_⟩ | intro _)
     all_goals first | (with_reducible first | apply qa | apply qb | apply qc | apply qd) | (conv => whnf)
     all_goals first | omega | exact hlo | exact hhi | exact hm | exact hr | (rw [i64max]; simp only [ByteArray.size_append, q0, q1, q2, q4, q5, q6]; omega) | skip
     refine ASat.seqA tys_ok (l := sl9R) sp9R (by kernel_rfl) ?_
     repeat' (first | exact trivial | (with_reducible first | exact (fun (h : true = false) => absurd h (by decide)) | exact (fun (h : false = true) => absurd h (by decide)) | exact hlo | exact hhi | exact hm | exact hr | exact e1 | exact e2 | exact e3 | exact e4 | exact e5 | exact e6 | exact (fun h => absurd (h1.symm.trans h) (by decide)) | exact (fun h => absurd (h3.symm.trans h) (by decide))) | refine ⟨?_, ?_⟩ | intro _)
     all_goals first | (with_reducible first | apply qa | apply qb | apply qc | apply qd) | (conv => whnf)
     all_goals first | omega | exact hlo | exact hhi | exact hm | exact hr | (rw [i64max]; simp only [ByteArray.size_append, q0, q1, q2, q4, q5, q6]; omega) | skip
     have hH : headV w = [⟨#[110, 117, 108, 108]⟩] := by unfold headV; rw [if_neg (by rw [h1]; decide), if_pos h3]; first | rfl | (simp; done)
     refine ASat.le [0] 0 (st' := ⟨[(1, .va (.c (.own 0 0))), (3, vx (.string ((⟨#[]⟩ : ByteArray) ++ ⟨#[32, 110, 117, 108, 108]⟩)))], [(0, .cells [.d (bo w.i.s.some), .d (it w.i.s.lo), .d (it w.i.s.hi), .d (bo w.i.c.some), .d (it w.i.c.m), .d (it w.i.c.r), .d (bo w.t.null), .d (lst w.t.names)])], 1, Tryz.f10.ntmps⟩) ?_ (tail13 (H := [⟨#[110, 117, 108, 108]⟩]) ?_ (by simp) ?_ hn hs (T := textV w) (by unfold textV partsV; rw [hH]) hQ)
     . exact ⟨rfl, rfl, rfl, ⟨⟨rfl, rfl⟩, rfl, trivial⟩, ⟨⟨rfl, rfl, rfl, rfl, rfl, rfl, rfl, ⟨rfl, rfl, fun _ _ => rfl⟩, trivial⟩, trivial⟩⟩
     . unfold spc; first | rfl | (apply ByteArray.ext; apply Array.ext'; simp [mkB]; done)
     . unfold szL; simp <;> first | omega | decide | (simp only [ByteArray.size_append] at *; omega)
   . refine ASat.seqA tys_ok (l := sl9R) sp9R (by kernel_rfl) ?_
     repeat' (first | exact trivial | (with_reducible first | exact (fun (h : true = false) => absurd h (by decide)) | exact (fun (h : false = true) => absurd h (by decide)) | exact hlo | exact hhi | exact hm | exact hr | exact e1 | exact e2 | exact e3 | exact e4 | exact e5 | exact e6 | exact (fun h => absurd (h1.symm.trans h) (by decide)) | exact (fun h => absurd (h3.symm.trans h) (by decide))) | refine ⟨?_, ?_⟩ | intro _)
     all_goals first | (with_reducible first | apply qa | apply qb | apply qc | apply qd) | (conv => whnf)
     all_goals first | omega | exact hlo | exact hhi | exact hm | exact hr | (rw [i64max]; simp only [ByteArray.size_append, q0, q1, q2, q4, q5, q6]; omega) | skip
     refine ASat.seqA tys_ok (l := sl9R) sp9R (by kernel_rfl) ?_
     repeat' (first | exact trivial | (with_reducible first | exact (fun (h : true = false) => absurd h (by decide)) | exact (fun (h : false = true) => absurd h (by decide)) | exact hlo | exact hhi | exact hm | exact hr | exact e1 | exact e2 | exact e3 | exact e4 | exact e5 | exact e6 | exact (fun h => absurd (h1.symm.trans h) (by decide)) | exact (fun h => absurd (h3.symm.trans h) (by decide))) | refine ⟨?_, ?_⟩ | intro _)
     all_goals first | (with_reducible first | apply qa | apply qb | apply qc | apply qd) | (conv => whnf)
     all_goals first | omega | exact hlo | exact hhi | exact hm | exact hr | (rw [i64max]; simp only [ByteArray.size_append, q0, q1, q2, q4, q5, q6]; omega) | skip
     refine ASat.seqA tys_ok (l := sl9R) sp9R (by kernel_rfl) ?_
     repeat' (first | exact trivial | (with_reducible first | exact (fun (h : true = false) => absurd h (by decide)) | exact (fun (h : false = true) => absurd h (by decide)) | exact hlo | exact hhi | exact hm | exact hr | exact e1 | exact e2 | exact e3 | exact e4 | exact e5 | exact e6 | exact (fun h => absurd (h1.symm.trans h) (by decide)) | exact (fun h => absurd (h3.symm.trans h) (by decide))) | refine ⟨?_, ?_⟩ | intro _)
     all_goals first | (with_reducible first | apply qa | apply qb | apply qc | apply qd) | (conv => whnf)
     all_goals first | omega | exact hlo | exact hhi | exact hm | exact hr | (rw [i64max]; simp only [ByteArray.size_append, q0, q1, q2, q4, q5, q6]; omega) | skip
     have hH : headV w = [] := by unfold headV; rw [if_neg (by rw [h1]; decide), if_neg (by rw [h3]; decide)]; first | rfl | (simp; done)
     refine ASat.le [0] 0 (st' := ⟨[(1, .va (.c (.own 0 0))), (3, vx (.string (⟨#[]⟩ : ByteArray)))], [(0, .cells [.d (bo w.i.s.some), .d (it w.i.s.lo), .d (it w.i.s.hi), .d (bo w.i.c.some), .d (it w.i.c.m), .d (it w.i.c.r), .d (bo w.t.null), .d (lst w.t.names)])], 1, Tryz.f10.ntmps⟩) ?_ (tail13 (H := []) ?_ (by simp) ?_ hn hs (T := textV w) (by unfold textV partsV; rw [hH]) hQ)
     . exact ⟨rfl, rfl, rfl, ⟨⟨rfl, rfl⟩, rfl, trivial⟩, ⟨⟨rfl, rfl, rfl, rfl, rfl, rfl, rfl, ⟨rfl, rfl, fun _ _ => rfl⟩, trivial⟩, trivial⟩⟩
     . unfold spc; first | rfl | (apply ByteArray.ext; apply Array.ext'; simp [mkB]; done)
     . unfold szL; simp <;> first | omega | decide | (simp only [ByteArray.size_append] at *; omega)
def FRfValue : List Ar -> Option Rs
 | [.agg [.d (.v (.bool s0)), .d (.v (.int .i64 l0)), .d (.v (.int .i64 h0)), .d (.v (.bool b0)), .d (.v (.int .i64 m0)), .d (.v (.int .i64 r0)), .d (.v (.bool z0)), .d (.lst 1 n0 f0)]] => some ⟨((n0 * 16 <= 140737488351232 /\ ∀ i, i < n0 -> f0 i = [st (gT (f0 i))]) /\ Sp.inR ⟨s0, l0, h0⟩ /\ Cg.inR ⟨b0, m0, r0⟩) /\ (n0 <= 1048576 /\ szL (gN n0 f0) <= 1048576), .va (.c (.d (st (textV (Vl.of (⟨⟨⟨s0, l0, h0⟩, ⟨b0, m0, r0⟩⟩, ⟨z0, gN n0 f0⟩⟩ : Vl)))))), []⟩
 | _ => none
theorem fcRfValue : FC Tryz.prog 10 FRfValue := by
 intro xs pre r us h hp
 unfold FRfValue at h
 split at h
 . rename_i s0 l0 h0 b0 m0 r0 z0 n0 f0
   cases h
   obtain ⟨hp0, hp1⟩ := hp
   refine FCat.of_eq (as' := [.agg [.d (.v (.bool s0)), .d (.v (.int .i64 l0)), .d (.v (.int .i64 h0)), .d (.v (.bool b0)), .d (.v (.int .i64 m0)), .d (.v (.int .i64 r0)), .d (.v (.bool z0)), .d (.lst 1 n0 fun i => [st (gT (f0 i))])]]) ?_ rfl rfl ?_
   . repeat' (first | exact trivial | exact rfl | refine ⟨?_, ?_⟩ | fail)
     all_goals first | exact hp0.2 | exact hp1.2 | exact hp2.2 | (intro i hi; exact (hp0.2 i hi).1) | (intro i hi; exact (hp1.2 i hi).1) | (intro i hi; exact (hp2.2 i hi).1) | grind
   refine fcatA tys_ok Tryz.func10 rfl false ?_
   refine ⟨Nat.le_of_ble_eq_true rfl, ?_⟩
   have hv0 : okV (⟨⟨⟨s0, l0, h0⟩, ⟨b0, m0, r0⟩⟩, ⟨z0, gN n0 fun i => [st (gT (f0 i))]⟩⟩ : Vl) := ⟨⟨(by rw [gN_length]; exact hp0.1.1), fun _ _ => rfl⟩, hp0.2⟩
   have ho0 := okV_of hv0
   have hoo0 := okV_of ho0
   have hk := ho0
   rw [of_rclean] at hk
   unfold okV at hk
   refine ASat.seqA tys_ok (l := [(13, ⟨[], FRVClean⟩), (26, ⟨[], FRNumC⟩)]) ⟨fcRVClean, fcRNumC, trivial⟩ (by kernel_rfl) ?_
   repeat' (first | exact trivial | (with_reducible first | exact ho0 | exact ho0.1 | exact ho0.2.1 | exact ho0.2.2 | exact hp0 | exact hp0.1 | exact hp0.2 | exact hp0.2.1 | exact hp0.2.2 | exact hoo0 | exact hoo0.1 | exact hoo0.2.1 | exact hoo0.2.2) | refine ⟨?_, ?_⟩ | intro _)
   all_goals first | (with_reducible first | apply qa | apply qb | apply qc | apply qd) | (conv => whnf)
   refine ASat.seqA tys_ok (l := [(13, ⟨[], FRVClean⟩), (26, ⟨[], FRNumC⟩)]) ⟨fcRVClean, fcRNumC, trivial⟩ (by kernel_rfl) ?_
   repeat' (first | exact trivial | (with_reducible first | exact hp0 | exact hp0.1 | exact hp0.2 | exact hp0.2.1 | exact hp0.2.2) | refine ⟨?_, ?_⟩ | intro _)
   all_goals first | (with_reducible first | apply qa | apply qb | apply qc | apply qd) | (conv => whnf)
   all_goals first | exact hp0.1.1 | (intro _ _; rfl) | skip
   all_goals (try simp only [gN_lst])
   all_goals first | (intro i hi; rfl) | (exact rfl) | skip
   refine ASat.norm [1] ?_
   have hle : (ofS (gN n0 fun i => [st (gT (f0 i))])).length <= 1048576 := Nat.le_trans (ofS_len _) (by rw [gN_length]; exact hp1.1)
   have hls : szL (ofS (gN n0 fun i => [st (gT (f0 i))])) <= 1048576 := Nat.le_trans (szL_of _) hp1.2
   rw [ofS_eq] at hle hls
   have hvw := @rval_walk (Vl.rclean (⟨⟨⟨s0, l0, h0⟩, ⟨b0, m0, r0⟩⟩, ⟨z0, gN n0 fun i => [st (gT (f0 i))]⟩⟩ : Vl)) hk.2.1 hk.2.2 hle hls
   refine hvw fun st h => ?_
   rw [<- of_rclean] at h
   exact fin_text (K := fun r' us' => rtEq r' _ /\ usEq _ us' _) h ⟨rfl, trivial⟩
 . cases h
end Go.Proofs.YtakcacejpbiogaaGreatDoor
namespace Go.Proofs.YtakcacejpbiogaaGreatDoor
open Go.Sx
open Go.RowKit Go.Lib Go.Sort
def textA (k e p y : Int) (v : Vl) : ByteArray :=
 if e ≠ 0 then ⟨#[101, 114, 114, 111, 114, 32]⟩ ++ itoaS e ++ ⟨#[32, 97, 116, 32]⟩ ++ itoaS p
 else if k = 5 then (if y = 1 then ⟨#[121, 101, 115]⟩ else ⟨#[110, 111]⟩)
 else if k = 6 then (if y = 2 then ⟨#[104, 111, 108, 100, 115]⟩ else ⟨#[109, 97, 121, 32, 102, 97, 105, 108]⟩)
 else if k = 4 \/ k = 7 then (if y = 2 then ⟨#[110, 111]⟩ else textV v.of)
 else if k = 8 then textV v.of
 else ⟨#[100, 111, 110, 101]⟩
def FRpText : List Ar -> Option Rs
 | [.agg [.d (.v (.int .i64 k0)), .d (.v (.string _)), .d (.v (.int .i64 _)), .d (.v (.string _)), .d (.v (.int .i64 _)), .d (.v (.string _))], .agg [.d (.v (.int .i64 e1)), .d (.v (.int .i64 p1)), .d (.v (.int .i64 u1)), .d (.v (.bool s1)), .d (.v (.int .i64 l1)), .d (.v (.int .i64 h1)), .d (.v (.bool b1)), .d (.v (.int .i64 m1)), .d (.v (.int .i64 r1)), .d (.v (.bool z1)), .d (.lst 1 n1 f1), .d (.v (.int .i64 _))]] => some ⟨((n1 * 16 <= 140737488351232 /\ ∀ i, i < n1 -> f1 i = [st (gT (f1 i))]) /\ Sp.inR ⟨s1, l1, h1⟩ /\ Cg.inR ⟨b1, m1, r1⟩ /\ (-9223372036854775808 <= e1 /\ e1 < 9223372036854775808) /\ (-9223372036854775808 <= p1 /\ p1 < 9223372036854775808)) /\ (n1 <= 1048576 /\ szL (gN n1 f1) <= 1048576), .va (.c (.d (st (textA k0 e1 p1 u1 (⟨⟨⟨s1, l1, h1⟩, ⟨b1, m1, r1⟩⟩, ⟨z1, gN n1 f1⟩⟩ : Vl))))), []⟩
 | _ => none
theorem fcRpText : FC Tryz.prog 15 FRpText := by
 intro xs pre r us h hp
 unfold FRpText at h
 split at h
 . rename_i k0 x0 i0 y0 m0 z0 e1 p1 u1 s1 l1 h1 b1 m1 r1 z1 n1 f1 w1
   cases h
   obtain ⟨hp0, hp1⟩ := hp
   refine FCat.of_eq (as' := [.agg [.d (.v (.int .i64 k0)), .d (.v (.string x0)), .d (.v (.int .i64 i0)), .d (.v (.string y0)), .d (.v (.int .i64 m0)), .d (.v (.string z0))], .agg [.d (.v (.int .i64 e1)), .d (.v (.int .i64 p1)), .d (.v (.int .i64 u1)), .d (.v (.bool s1)), .d (.v (.int .i64 l1)), .d (.v (.int .i64 h1)), .d (.v (.bool b1)), .d (.v (.int .i64 m1)), .d (.v (.int .i64 r1)), .d (.v (.bool z1)), .d (.lst 1 n1 fun i => [st (gT (f1 i))]), .d (.v (.int .i64 w1))]]) ?_ rfl rfl ?_
   . repeat' (first | exact trivial | exact rfl | refine ⟨?_, ?_⟩ | fail)
     all_goals first | exact hp0.2 | exact hp1.2 | exact hp2.2 | (intro i hi; exact (hp0.2 i hi).1) | (intro i hi; exact (hp1.2 i hi).1) | (intro i hi; exact (hp2.2 i hi).1) | grind
   refine fcat tys_ok (l := [(24, ⟨[], FItoa⟩), (9, ⟨[], FRpValue⟩)]) ⟨fcItoa, fcRpValue, trivial⟩ Tryz.func15 rfl (by kernel_rfl) true ?_
   obtain ⟨hq0, hqs, hqc, he, hp⟩ := hp0
   have ze := itoa_sz (n := e1) he
   have zp := itoa_sz (n := p1) hp
   have c6 : (⟨#[101, 114, 114, 111, 114, 32]⟩ : ByteArray).size = 6 := rfl
   have c4 : (⟨#[32, 97, 116, 32]⟩ : ByteArray).size = 4 := rfl
   repeat' (first | exact trivial | (with_reducible first | exact he | exact hp | exact he.1 | exact he.2 | exact hp.1 | exact hp.2 | exact hq0 | exact hq0.1 | exact hqs | exact hqc | exact hqs.1.1 | exact hqs.1.2 | exact hqs.2.1 | exact hqs.2.2 | exact hqc.1.1 | exact hqc.1.2 | exact hqc.2.1 | exact hqc.2.2 | exact hp1 | exact hp1.1 | exact hp1.2) | refine ⟨?_, ?_⟩ | intro _)
   all_goals first | (with_reducible first | apply qa | apply qb | apply qc | apply qd) | (conv => whnf)
   all_goals first | ((with_reducible show (_ : List DV) = _); rfl) | (rw [i64max]; simp only [ByteArray.size_append, c6, c4]; omega) | skip
   all_goals (simp only [beq_iff_eq, beq_eq_false_iff_ne, bne_iff_ne, ne_eq, bne_eq_false_iff_eq, Bool.not_eq_true, Decidable.not_not] at *)
   all_goals first | omega | exact hp1.2 | (refine congrArg Value.string ?_; unfold textA; (repeat' split) <;> first | rfl | omega)
 . cases h
def FRfText : List Ar -> Option Rs
 | [.agg [.d (.v (.int .i64 k0)), .d (.v (.string _)), .d (.v (.int .i64 _)), .d (.v (.string _)), .d (.v (.int .i64 _)), .d (.v (.string _))], .agg [.d (.v (.int .i64 e1)), .d (.v (.int .i64 p1)), .d (.v (.int .i64 u1)), .d (.v (.bool s1)), .d (.v (.int .i64 l1)), .d (.v (.int .i64 h1)), .d (.v (.bool b1)), .d (.v (.int .i64 m1)), .d (.v (.int .i64 r1)), .d (.v (.bool z1)), .d (.lst 1 n1 f1), .d (.v (.int .i64 _))]] => some ⟨((n1 * 16 <= 140737488351232 /\ ∀ i, i < n1 -> f1 i = [st (gT (f1 i))]) /\ Sp.inR ⟨s1, l1, h1⟩ /\ Cg.inR ⟨b1, m1, r1⟩ /\ (-9223372036854775808 <= e1 /\ e1 < 9223372036854775808) /\ (-9223372036854775808 <= p1 /\ p1 < 9223372036854775808)) /\ (n1 <= 1048576 /\ szL (gN n1 f1) <= 1048576), .va (.c (.d (st (textA k0 e1 p1 u1 (⟨⟨⟨s1, l1, h1⟩, ⟨b1, m1, r1⟩⟩, ⟨z1, gN n1 f1⟩⟩ : Vl))))), []⟩
 | _ => none
theorem fcRfText : FC Tryz.prog 16 FRfText := by
 intro xs pre r us h hp
 unfold FRfText at h
 split at h
 . rename_i k0 x0 i0 y0 m0 z0 e1 p1 u1 s1 l1 h1 b1 m1 r1 z1 n1 f1 w1
   cases h
   obtain ⟨hp0, hp1⟩ := hp
   refine FCat.of_eq (as' := [.agg [.d (.v (.int .i64 k0)), .d (.v (.string x0)), .d (.v (.int .i64 i0)), .d (.v (.string y0)), .d (.v (.int .i64 m0)), .d (.v (.string z0))], .agg [.d (.v (.int .i64 e1)), .d (.v (.int .i64 p1)), .d (.v (.int .i64 u1)), .d (.v (.bool s1)), .d (.v (.int .i64 l1)), .d (.v (.int .i64 h1)), .d (.v (.bool b1)), .d (.v (.int .i64 m1)), .d (.v (.int .i64 r1)), .d (.v (.bool z1)), .d (.lst 1 n1 fun i => [st (gT (f1 i))]), .d (.v (.int .i64 w1))]]) ?_ rfl rfl ?_
   . repeat' (first | exact trivial | exact rfl | refine ⟨?_, ?_⟩ | fail)
     all_goals first | exact hp0.2 | exact hp1.2 | exact hp2.2 | (intro i hi; exact (hp0.2 i hi).1) | (intro i hi; exact (hp1.2 i hi).1) | (intro i hi; exact (hp2.2 i hi).1) | grind
   refine fcat tys_ok (l := [(26, ⟨[], FRNumC⟩), (10, ⟨[], FRfValue⟩)]) ⟨fcRNumC, fcRfValue, trivial⟩ Tryz.func16 rfl (by kernel_rfl) true ?_
   obtain ⟨hq0, hqs, hqc, he, hp⟩ := hp0
   have ze := itoa_sz (n := e1) he
   have zp := itoa_sz (n := p1) hp
   have c6 : (⟨#[101, 114, 114, 111, 114, 32]⟩ : ByteArray).size = 6 := rfl
   have c4 : (⟨#[32, 97, 116, 32]⟩ : ByteArray).size = 4 := rfl
   repeat' (first | exact trivial | (with_reducible first | exact he | exact hp | exact he.1 | exact he.2 | exact hp.1 | exact hp.2 | exact hq0 | exact hq0.1 | exact hqs | exact hqc | exact hqs.1.1 | exact hqs.1.2 | exact hqs.2.1 | exact hqs.2.2 | exact hqc.1.1 | exact hqc.1.2 | exact hqc.2.1 | exact hqc.2.2 | exact hp1 | exact hp1.1 | exact hp1.2) | refine ⟨?_, ?_⟩ | intro _)
   all_goals first | (with_reducible first | apply qa | apply qb | apply qc | apply qd) | (conv => whnf)
   all_goals first | ((with_reducible show (_ : List DV) = _); rfl) | (rw [i64max]; simp only [ByteArray.size_append, c6, c4]; omega) | skip
   all_goals (simp only [beq_iff_eq, beq_eq_false_iff_ne, bne_iff_ne, ne_eq, bne_eq_false_iff_eq, Bool.not_eq_true, Decidable.not_not] at *)
   all_goals first | omega | exact hp1.2 | (refine congrArg Value.string ?_; unfold textA; (repeat' split) <;> first | rfl | omega)
 . cases h
end Go.Proofs.YtakcacejpbiogaaGreatDoor
namespace Go.Proofs.YtakcacejpbiogaaGreatDoor
open Go.Sx
open Go.RowKit Go.Lib Go.Sort
abbrev liveS : ByteArray := ⟨#[49, 46, 46, 57, 32, 98, 121, 32, 52, 32, 97, 116, 32, 49, 32, 38, 103]⟩
abbrev liveV : Vl := ⟨⟨⟨true, 1, 9⟩, ⟨true, 4, 1⟩⟩, ⟨false, [⟨#[103]⟩]⟩⟩
theorem live_text : textV liveV = liveS := by decide +kernel
theorem live_read : readR liveS = (liveV, 0) := by
 rw [<- live_text]
 refine read_back (.inr ⟨⟨rfl, rfl⟩, by decide, by unfold Cg.red; decide⟩) (List.pairwise_singleton _ _) ⟨by unfold Sp.inR; decide, by unfold Cg.inR; decide⟩ fun x hx => ?_
 rw [List.mem_singleton] at hx; subst hx
 decide +kernel
theorem live_told : liveV.of = liveV := of_told (v := liveV) (.inr ⟨⟨rfl, rfl⟩, by decide, by unfold Cg.red; decide⟩) (show Srt [_] from List.pairwise_singleton _ _)
theorem live_of : textV liveV.of = liveS := by rw [live_told, live_text]
theorem live_h5 : Vl.hasInt liveV 5 = true := by decide +kernel
theorem live_h4 : Vl.hasInt liveV 4 = false := by decide +kernel
theorem live_hg : hasS false [⟨#[103]⟩] ⟨#[103]⟩ = true := by decide +kernel
theorem lv_T : ((textV liveV.of).toList == liveS.toList) = true := by rw [live_of, seq_iff]; exact decide_eq_true rfl
theorem gN_live : gN [(⟨#[103]⟩ : ByteArray)].length (fun i => [st (atS [(⟨#[103]⟩ : ByteArray)] i)]) = [⟨#[103]⟩] := gN_lst _
def FRpLives : List Ar -> Option Rs
 | [] => some ⟨True, .va (.c (.d (bo (true)))), []⟩
 | _ => none
abbrev sl10R : List (Nat × Sm) := [(7, ⟨[], FRead⟩), (9, ⟨[], FRpValue⟩), (28, ⟨[], FVHasInt⟩), (29, ⟨[], FVHasPtr⟩)]
theorem sp10R : sumsOk Tryz.prog sl10R := ⟨fcRead, fcRpValue, fcVHasInt, fcVHasPtr, trivial⟩
theorem fcRpLives : FC Tryz.prog 12 FRpLives := by
 intro xs pre r us h hp
 unfold FRpLives at h
 split at h
 . cases h
   refine fcatA tys_ok Tryz.func12 rfl false ?_
   refine ⟨Nat.le_of_ble_eq_true rfl, ?_⟩
   refine ASat.seqA tys_ok (l := sl10R) sp10R (by kernel_rfl) ?_
   repeat' (first | exact trivial | (with_reducible first | exact (fun (h : true = false) => absurd h (by decide)) | exact (fun (h : false = true) => absurd h (by decide))) | refine ⟨?_, ?_⟩ | intro _)
   all_goals first | (with_reducible first | apply qa | apply qb | apply qc | apply qd) | (conv => whnf)
   refine ASat.seqA tys_ok (l := sl10R) sp10R (by kernel_rfl) ?_
   repeat' (first | exact trivial | (with_reducible first | exact (fun (h : true = false) => absurd h (by decide)) | exact (fun (h : false = true) => absurd h (by decide))) | refine ⟨?_, ?_⟩ | intro _)
   all_goals first | (with_reducible first | apply qa | apply qb | apply qc | apply qd) | (conv => whnf)
   all_goals first | decide | skip
   rw [live_read]
   refine ASat.vc tys_ok (l := sl10R) sp10R (by kernel_rfl) ?_
   repeat' (first | exact trivial | (with_reducible first | exact (fun (h : true = false) => absurd h (by decide)) | exact (fun (h : false = true) => absurd h (by decide))) | refine ⟨?_, ?_⟩ | intro _)
   all_goals first | (with_reducible first | apply qa | apply qb | apply qc | apply qd) | (conv => whnf)
   all_goals (try dsimp only at *)
   all_goals first | decide | ((with_reducible show (_ : List DV) = _); rfl) | skip
   all_goals (try simp only [gN_live] at *)
   all_goals first | (exact congrArg Value.bool live_hg) | (rename_i h; exact absurd (lv_T.symm.trans h) (by decide)) | (rename_i h; exact absurd (live_h5.symm.trans h) (by decide)) | (rename_i h; exact absurd (live_h4.symm.trans h) (by decide)) | (rename_i h; exact absurd ((congrArg Bool.not live_h4).symm.trans h) (by decide)) | (rename_i h; exact absurd h (by decide))
 . cases h
end Go.Proofs.YtakcacejpbiogaaGreatDoor
namespace Go.Proofs.YtakcacejpbiogaaGreatDoor
open Go.Sx
open Go.RowKit Go.Lib Go.Sort
theorem join_size {P : List ByteArray} (h : P ≠ []) : (joinS P blS).size + 1 = szL P + P.length := by
 have h1 := spc_sz P
 rw [<- spc_tail h, ByteArray.size_extract]
 have : P.length ≠ 0 := fun e => h (List.eq_nil_of_length_eq_zero e)
 omega
theorem szL_first (w : Vl) : szL (partsV w) = szL (firstV w.i) + (szL (headP w.t.null) + (szL w.t.names + w.t.names.length)) := by
 rw [partsV_eq]
 unfold wordsP
 rw [szL_app, szL_app, szL_amp]
theorem textV_sz (w : Vl) : szL w.t.names <= (textV w).size /\ w.t.names.length <= (textV w).size := by
 have h1 := szL_first w
 have hl : (partsV w).length = (firstV w.i).length + ((headP w.t.null).length + w.t.names.length) := by
  rw [partsV_eq]; unfold wordsP; simp
 by_cases h0 : partsV w = []
 . rw [h0] at h1 hl
   have e0 : szL [] = 0 := rfl
   rw [List.length_nil] at hl
   omega
 . have e : textV w = joinS (partsV w) blS := if_neg h0
   have h2 := join_size h0
   rw [e]
   by_cases hn : w.t.names.length = 0
   . rw [List.eq_nil_of_length_eq_zero hn]; exact ⟨Nat.zero_le _, Nat.zero_le _⟩
   . omega
theorem itoa_rI {n : Int} (h : -9223372036854775808 <= n /\ n < 9223372036854775808) : rI n := h
theorem intsR_inR (L : List ByteArray) : (intsR L).2.1.s.inR /\ (intsR L).2.1.c.inR := by
 have z : Ig.zero.s.inR /\ Ig.zero.c.inR := by unfold Ig.zero Sp.inR Cg.inR; decide
 unfold intsR
 by_cases c1 : i1 L = false
 . rw [if_pos c1]; exact z
 rw [if_neg c1]
 by_cases c2 : numE (loS L) ≠ 0
 . rw [if_pos c2]; exact z
 rw [if_neg c2]
 by_cases c3 : numE (hiS L) ≠ 0
 . rw [if_pos c3]; exact z
 rw [if_neg c3]
 have r1 := (num_back (Decidable.not_not.1 c2)).2
 have r2 := (num_back (Decidable.not_not.1 c3)).2
 unfold rI at r1 r2
 by_cases c4 : i4 L = false
 . rw [if_pos c4]; exact z
 rw [if_neg c4]
 by_cases c5 : (i5a L || i5b L) = true
 . rw [if_pos c5]
   unfold Sp.inR Cg.inR
   dsimp only
   omega
 rw [if_neg c5]
 by_cases c6 : i6 L = false
 . rw [if_pos c6]; exact z
 rw [if_neg c6]
 by_cases c7 : numE (atS L (Int.toNat 2)) ≠ 0
 . rw [if_pos c7]; exact z
 rw [if_neg c7]
 by_cases c8 : (i8a L && i8b L) = false
 . rw [if_pos c8]; exact z
 rw [if_neg c8]
 by_cases c9 : (i9a L && i9b L) = false
 . rw [if_pos c9]; exact z
 rw [if_neg c9]
 by_cases c10 : numE (atS L (Int.toNat 4)) ≠ 0
 . rw [if_pos c10]; exact z
 rw [if_neg c10]
 have r3 := (num_back (Decidable.not_not.1 c7)).2
 have r4 := (num_back (Decidable.not_not.1 c10)).2
 unfold rI at r3 r4
 by_cases c11 : (i11a L || (i11b L && i11c L)) = false
 . rw [if_pos c11]; exact z
 rw [if_neg c11]
 unfold Sp.inR Cg.inR
 dsimp only
 omega
theorem read_inR (s : ByteArray) : (readR s).1.i.s.inR /\ (readR s).1.i.c.inR := by
 have z : Ig.zero.s.inR /\ Ig.zero.c.inR := by unfold Ig.zero Sp.inR Cg.inR; decide
 unfold readR readL
 split
 . exact z
 . split
   . exact z
   . split
     . exact z
     . exact intsR_inR _
theorem read_len (s : ByteArray) : (readR s).1.t.names.length <= s.size + 1 := by
 unfold readR readL
 split
 . exact Nat.zero_le _
 . split
   . exact Nat.zero_le _
   . split
     . exact Nat.zero_le _
     . dsimp only
       have h1 := ptN_len (wdR (splitS s)) (kR (splitS s))
       have h2 := split_len s.size s (Nat.le_refl _)
       unfold kR at *
       omega
theorem read_names {s : ByteArray} (h : (readR s).2 = 0) : szL (readR s).1.t.names <= s.size /\ (readR s).1.t.names.length <= s.size := by
 have h1 := textV_sz (readR s).1
 rw [(read_one h).1] at h1
 exact h1
def FReplyValues : List Ar -> Option Rs
 | [.agg [.d (.v (.bool s0)), .d (.v (.int .i64 l0)), .d (.v (.int .i64 h0)), .d (.v (.bool b0)), .d (.v (.int .i64 m0)), .d (.v (.int .i64 r0)), .d (.v (.bool _)), .d (.lst 1 n0 f0)], .c (.d (.v (.string x1)))] => some ⟨((n0 * 16 <= 140737488351232 /\ ∀ i, i < n0 -> f0 i = [st (gT (f0 i))]) /\ Sp.inR ⟨s0, l0, h0⟩ /\ Cg.inR ⟨b0, m0, r0⟩) /\ (n0 <= 1048576 /\ szL (gN n0 f0) <= 1048576 /\ x1.size < 4294967281), .va (.c (.d (bo (true)))), []⟩
 | _ => none
abbrev sl11R : List (Nat × Sm) := [(7, ⟨[], FRead⟩), (8, ⟨[], FRRead40⟩), (9, ⟨[], FRpValue⟩), (10, ⟨[], FRfValue⟩), (11, ⟨[], FRVExact⟩), (12, ⟨[], FRpLives⟩)]
theorem sp11R : sumsOk Tryz.prog sl11R := ⟨fcRead, fcRRead40, fcRpValue, fcRfValue, fcRVExact, fcRpLives, trivial⟩
theorem fcReplyValues : FC Tryz.prog 3 FReplyValues := by
 intro xs pre r us h hp
 unfold FReplyValues at h
 split at h
 . rename_i s0 l0 h0 b0 m0 r0 z0 n0 f0 x1
   cases h
   obtain ⟨hp0, hp1⟩ := hp
   refine FCat.of_eq (as' := [.agg [.d (.v (.bool s0)), .d (.v (.int .i64 l0)), .d (.v (.int .i64 h0)), .d (.v (.bool b0)), .d (.v (.int .i64 m0)), .d (.v (.int .i64 r0)), .d (.v (.bool z0)), .d (.lst 1 n0 fun i => [st (gT (f0 i))])], .c (.d (.v (.string x1)))]) ?_ rfl rfl ?_
   . repeat' (first | exact trivial | exact rfl | refine ⟨?_, ?_⟩ | fail)
     all_goals first | exact hp0.2 | exact hp1.2 | exact hp2.2 | (intro i hi; exact (hp0.2 i hi).1) | (intro i hi; exact (hp1.2 i hi).1) | (intro i hi; exact (hp2.2 i hi).1) | grind
   refine fcatA tys_ok Tryz.func3 rfl false ?_
   refine ⟨Nat.le_of_ble_eq_true rfl, ?_⟩
   have hr := read_inR x1
   have hn : (readR x1).1.t.names.length * 16 <= 140737488351232 := by have := read_len x1; omega
   have hs1 := trivial
   have hs2 := trivial
   have hx : x1.size < 4294967281 := hp1.2.2
   refine ASat.seqA tys_ok (l := sl11R) sp11R (by kernel_rfl) ?_
   repeat' (first | exact trivial | (with_reducible first | exact (fun (h : true = false) => absurd h (by decide)) | exact (fun (h : false = true) => absurd h (by decide)) | exact hp0 | exact hp0.1 | exact hp0.1.1 | exact hp0.2 | exact hp0.2.1 | exact hp0.2.2 | exact hp1 | exact hp1.1 | exact hp1.2 | exact hp1.2.1 | exact hp1.2.2 | exact hx | exact hr | exact hr.1 | exact hr.2 | exact hn | exact hs1 | exact hs2) | refine ⟨?_, ?_⟩ | intro _)
   all_goals first | (with_reducible first | apply qa | apply qb | apply qc | apply qd) | (conv => whnf)
   all_goals first | ((with_reducible show (_ : List DV) = _); rfl) | omega | (with_reducible assumption) | skip
   refine ASat.seqA tys_ok (l := sl11R) sp11R (by kernel_rfl) ?_
   repeat' (first | exact trivial | (with_reducible first | exact (fun (h : true = false) => absurd h (by decide)) | exact (fun (h : false = true) => absurd h (by decide)) | exact hp0 | exact hp0.1 | exact hp0.1.1 | exact hp0.2 | exact hp0.2.1 | exact hp0.2.2 | exact hp1 | exact hp1.1 | exact hp1.2 | exact hp1.2.1 | exact hp1.2.2 | exact hx | exact hr | exact hr.1 | exact hr.2 | exact hn | exact hs1 | exact hs2) | refine ⟨?_, ?_⟩ | intro _)
   all_goals first | (with_reducible first | apply qa | apply qb | apply qc | apply qd) | (conv => whnf)
   all_goals first | ((with_reducible show (_ : List DV) = _); rfl) | omega | (with_reducible assumption) | skip
   refine ASat.seqA tys_ok (l := sl11R) sp11R (by kernel_rfl) ?_
   repeat' (first | exact trivial | (with_reducible first | exact (fun (h : true = false) => absurd h (by decide)) | exact (fun (h : false = true) => absurd h (by decide)) | exact hp0 | exact hp0.1 | exact hp0.1.1 | exact hp0.2 | exact hp0.2.1 | exact hp0.2.2 | exact hp1 | exact hp1.1 | exact hp1.2 | exact hp1.2.1 | exact hp1.2.2 | exact hx | exact hr | exact hr.1 | exact hr.2 | exact hn | exact hs1 | exact hs2) | refine ⟨?_, ?_⟩ | intro _)
   all_goals first | (with_reducible first | apply qa | apply qb | apply qc | apply qd) | (conv => whnf)
   all_goals first | ((with_reducible show (_ : List DV) = _); rfl) | omega | (with_reducible assumption) | skip
   refine ASat.vc tys_ok (l := sl11R) sp11R (by kernel_rfl) ?_
   repeat' (first | exact trivial | (with_reducible first | exact (fun (h : true = false) => absurd h (by decide)) | exact (fun (h : false = true) => absurd h (by decide)) | exact hp0 | exact hp0.1 | exact hp0.1.1 | exact hp0.2 | exact hp0.2.1 | exact hp0.2.2 | exact hp1 | exact hp1.1 | exact hp1.2 | exact hp1.2.1 | exact hp1.2.2 | exact hx | exact hr | exact hr.1 | exact hr.2 | exact hn | exact hs1 | exact hs2) | refine ⟨?_, ?_⟩ | intro _)
   all_goals first | (with_reducible first | apply qa | apply qb | apply qc | apply qd) | (conv => whnf)
   all_goals first | ((with_reducible show (_ : List DV) = _); rfl) | omega | (with_reducible assumption) | skip
   all_goals (try simp only [gN_lst] at *)
   all_goals first | rfl | exact hp1.2.1 | (rename_i h; exact absurd ((beq_self_eq_true _).symm.trans h) (by decide)) | (rename_i h; exact absurd ((exact_refl _).symm.trans h) (by decide))
 . cases h
def FReplyTexts : List Ar -> Option Rs
 | [.agg [.d (.v (.int .i64 _)), .d (.v (.string _)), .d (.v (.int .i64 _)), .d (.v (.string _)), .d (.v (.int .i64 _)), .d (.v (.string _))], .agg [.d (.v (.int .i64 e1)), .d (.v (.int .i64 p1)), .d (.v (.int .i64 _)), .d (.v (.bool s1)), .d (.v (.int .i64 l1)), .d (.v (.int .i64 h1)), .d (.v (.bool b1)), .d (.v (.int .i64 m1)), .d (.v (.int .i64 r1)), .d (.v (.bool _)), .d (.lst 1 n1 f1), .d (.v (.int .i64 _))]] => some ⟨((n1 * 16 <= 140737488351232 /\ ∀ i, i < n1 -> f1 i = [st (gT (f1 i))]) /\ Sp.inR ⟨s1, l1, h1⟩ /\ Cg.inR ⟨b1, m1, r1⟩ /\ (-9223372036854775808 <= e1 /\ e1 < 9223372036854775808) /\ (-9223372036854775808 <= p1 /\ p1 < 9223372036854775808)) /\ (n1 <= 1048576 /\ szL (gN n1 f1) <= 1048576), .va (.c (.d (bo (true)))), []⟩
 | _ => none
theorem fcReplyTexts : FC Tryz.prog 6 FReplyTexts := by
 intro xs pre r us h hp
 unfold FReplyTexts at h
 split at h
 . rename_i k0 x0 i0 y0 m0 z0 e1 p1 u1 s1 l1 h1 b1 m1 r1 z1 n1 f1 w1
   cases h
   obtain ⟨hp0, hp1⟩ := hp
   refine FCat.of_eq (as' := [.agg [.d (.v (.int .i64 k0)), .d (.v (.string x0)), .d (.v (.int .i64 i0)), .d (.v (.string y0)), .d (.v (.int .i64 m0)), .d (.v (.string z0))], .agg [.d (.v (.int .i64 e1)), .d (.v (.int .i64 p1)), .d (.v (.int .i64 u1)), .d (.v (.bool s1)), .d (.v (.int .i64 l1)), .d (.v (.int .i64 h1)), .d (.v (.bool b1)), .d (.v (.int .i64 m1)), .d (.v (.int .i64 r1)), .d (.v (.bool z1)), .d (.lst 1 n1 fun i => [st (gT (f1 i))]), .d (.v (.int .i64 w1))]]) ?_ rfl rfl ?_
   . repeat' (first | exact trivial | exact rfl | refine ⟨?_, ?_⟩ | fail)
     all_goals first | exact hp0.2 | exact hp1.2 | exact hp2.2 | (intro i hi; exact (hp0.2 i hi).1) | (intro i hi; exact (hp1.2 i hi).1) | (intro i hi; exact (hp2.2 i hi).1) | grind
   refine fcatA tys_ok Tryz.func6 rfl false ?_
   refine ⟨Nat.le_of_ble_eq_true rfl, ?_⟩
   refine ASat.seqA tys_ok (l := [(15, ⟨[], FRpText⟩), (16, ⟨[], FRfText⟩), (12, ⟨[], FRpLives⟩)]) ⟨fcRpText, fcRfText, fcRpLives, trivial⟩ (by kernel_rfl) ?_
   repeat' (first | exact trivial | (with_reducible first | exact (fun (h : true = false) => absurd h (by decide)) | exact (fun (h : false = true) => absurd h (by decide)) | exact hp0 | exact hp0.1 | exact hp0.1.1 | exact hp0.2 | exact hp0.2.1 | exact hp0.2.2 | exact hp1 | exact hp1.1 | exact hp1.2 | exact hp1.2.1 | exact hp1.2.2 | exact hx | exact hr | exact hr.1 | exact hr.2 | exact hn | exact hs1 | exact hs2) | refine ⟨?_, ?_⟩ | intro _)
   all_goals first | (with_reducible first | apply qa | apply qb | apply qc | apply qd) | (conv => whnf)
   all_goals first | ((with_reducible show (_ : List DV) = _); rfl) | omega | (with_reducible assumption) | skip
   refine ASat.vc tys_ok (l := [(15, ⟨[], FRpText⟩), (16, ⟨[], FRfText⟩), (12, ⟨[], FRpLives⟩)]) ⟨fcRpText, fcRfText, fcRpLives, trivial⟩ (by kernel_rfl) ?_
   repeat' (first | exact trivial | (with_reducible first | exact (fun (h : true = false) => absurd h (by decide)) | exact (fun (h : false = true) => absurd h (by decide)) | exact hp0 | exact hp0.1 | exact hp0.1.1 | exact hp0.2 | exact hp0.2.1 | exact hp0.2.2 | exact hp1 | exact hp1.1 | exact hp1.2 | exact hp1.2.1 | exact hp1.2.2 | exact hx | exact hr | exact hr.1 | exact hr.2 | exact hn | exact hs1 | exact hs2) | refine ⟨?_, ?_⟩ | intro _)
   all_goals first | (with_reducible first | apply qa | apply qb | apply qc | apply qd) | (conv => whnf)
   all_goals first | ((with_reducible show (_ : List DV) = _); rfl) | omega | (with_reducible assumption) | skip
   all_goals (try simp only [gN_lst] at *)
   all_goals first | rfl | exact hp1.2 | (rename_i h; exact absurd ((beq_self_eq_true _).symm.trans h) (by decide)) | (rename_i h; exact absurd ((exact_refl _).symm.trans h) (by decide))
 . cases h
def FReplyOne : List Ar -> Option Rs
 | [.c (.d (.v (.string x0)))] => some ⟨(x0.size <= 1048576), .va (.c (.d (bo (true)))), []⟩
 | _ => none
abbrev sl12R : List (Nat × Sm) := [(7, ⟨[], FRead⟩), (9, ⟨[], FRpValue⟩), (13, ⟨[], FRVClean⟩), (11, ⟨[], FN 1 FRVExact⟩), (12, ⟨[], FRpLives⟩)]
theorem sp12R : sumsOk Tryz.prog sl12R := ⟨fcRead, fcRpValue, fcRVClean, fc_nil 1 fcRVExact, fcRpLives, trivial⟩
theorem fcReplyOne : FC Tryz.prog 5 FReplyOne := by
 intro xs pre r us h hp
 unfold FReplyOne at h
 split at h
 . rename_i x0
   cases h
   have hp0 := hp
   refine fcatA tys_ok Tryz.func5 rfl false ?_
   refine ⟨Nat.le_of_ble_eq_true rfl, ?_⟩
   have hr := read_inR x0
   have hn : (readR x0).1.t.names.length * 16 <= 140737488351232 := by have := read_len x0; omega
   refine ASat.seqA tys_ok (l := sl12R) sp12R (by kernel_rfl) ?_
   repeat' (first | exact trivial | (with_reducible first | exact (fun (h : true = false) => absurd h (by decide)) | exact (fun (h : false = true) => absurd h (by decide)) | exact hp0 | exact hr | exact hr.1 | exact hr.2 | exact hn | exact hz | exact hz.1 | exact hz.2) | refine ⟨?_, ?_⟩ | intro _)
   all_goals first | (with_reducible first | apply qa | apply qb | apply qc | apply qd) | (conv => whnf)
   all_goals first | ((with_reducible show (_ : List DV) = _); rfl) | omega | (with_reducible assumption) | skip
   refine ASat.seqA tys_ok (l := sl12R) sp12R (by kernel_rfl) ?_
   repeat' (first | exact trivial | (with_reducible first | exact (fun (h : true = false) => absurd h (by decide)) | exact (fun (h : false = true) => absurd h (by decide)) | exact hp0 | exact hr | exact hr.1 | exact hr.2 | exact hn | exact hz | exact hz.1 | exact hz.2) | refine ⟨?_, ?_⟩ | intro _)
   all_goals first | (with_reducible first | apply qa | apply qb | apply qc | apply qd) | (conv => whnf)
   all_goals first | ((with_reducible show (_ : List DV) = _); rfl) | omega | (with_reducible assumption) | skip
   cases he : ((readR x0).2 != 0) with
   | true =>
     have hv : (readR x0).1 = v0 := read_err (bne_iff_ne.1 he)
     rw [hv]
     refine ASat.seqA tys_ok (l := sl12R) sp12R (by kernel_rfl) ?_
     repeat' (first | exact trivial | (with_reducible first | exact (fun (h : true = false) => absurd h (by decide)) | exact (fun (h : false = true) => absurd h (by decide)) | exact hp0 | exact hr | exact hr.1 | exact hr.2 | exact hn | exact hz | exact hz.1 | exact hz.2 | exact (fun h => absurd (he.symm.trans h) (by decide))) | refine ⟨?_, ?_⟩ | intro _)
     all_goals first | (with_reducible first | apply qa | apply qb | apply qc | apply qd) | (conv => whnf)
     all_goals first | ((with_reducible show (_ : List DV) = _); rfl) | omega | (with_reducible assumption) | skip
     all_goals first | decide | rfl | (rename_i h; exact absurd ((exact_refl v0).symm.trans h) (by decide))
   | false =>
     have hv := read_one (s := x0) (by simpa using he)
     have hz := read_names (s := x0) (by simpa using he)
     have hrc : Vl.rclean (readR x0).1 = (readR x0).1 := by rw [<- of_rclean]; exact hv.2
     have hc1 : (readR x0).1.i.clean = (readR x0).1.i := congrArg Vl.i hrc
     have hc2 : cleanS (readR x0).1.t.names = (readR x0).1.t.names := congrArg (fun v : Vl => v.t.names) hrc
     have hb : (Ig.clean (⟨⟨(readR x0).1.i.s.some, (readR x0).1.i.s.lo, (readR x0).1.i.s.hi⟩, ⟨(readR x0).1.i.c.some, (readR x0).1.i.c.m, (readR x0).1.i.c.r⟩⟩ : Ig)).s.inR /\ (Ig.clean (⟨⟨(readR x0).1.i.s.some, (readR x0).1.i.s.lo, (readR x0).1.i.s.hi⟩, ⟨(readR x0).1.i.c.some, (readR x0).1.i.c.m, (readR x0).1.i.c.r⟩⟩ : Ig)).c.inR := by
      show (readR x0).1.i.clean.s.inR /\ (readR x0).1.i.clean.c.inR
      rw [hc1]; exact hr
     unfold Sp.inR Cg.inR at hb
     have hb2 : (cleanS (readR x0).1.t.names).length * 16 <= 140737488351232 := by rw [hc2]; exact hn
     have hb3 : szL (readR x0).1.t.names <= 1048576 := Nat.le_trans hz.1 hp0
     have cT : ((textV (Vl.of (readR x0).1)).toList == x0.toList) = true := by rw [hv.2, hv.1]; exact beq_self_eq_true _
     have cE : Vl.exact (readR x0).1 (Vl.rclean (readR x0).1) = true := by rw [hrc]; exact exact_refl _
     refine ASat.seqA tys_ok (l := sl12R) sp12R (by kernel_rfl) ?_
     repeat' (first | exact trivial | (with_reducible first | exact (fun (h : true = false) => absurd h (by decide)) | exact (fun (h : false = true) => absurd h (by decide)) | exact hp0 | exact hr | exact hr.1 | exact hr.2 | exact hn | exact hz | exact hz.1 | exact hz.2 | exact (fun h => absurd (he.symm.trans h) (by decide))) | refine ⟨?_, ?_⟩ | intro _)
     all_goals first | (with_reducible first | apply qa | apply qb | apply qc | apply qd) | (conv => whnf)
     all_goals first | ((with_reducible show (_ : List DV) = _); rfl) | omega | (with_reducible assumption) | skip
     refine ASat.vc tys_ok (l := sl12R) sp12R (by kernel_rfl) ?_
     repeat' (first | exact trivial | (with_reducible first | exact (fun (h : true = false) => absurd h (by decide)) | exact (fun (h : false = true) => absurd h (by decide)) | exact hp0 | exact hr | exact hr.1 | exact hr.2 | exact hn | exact hz | exact hz.1 | exact hz.2) | refine ⟨?_, ?_⟩ | intro _)
     all_goals first | (with_reducible first | apply qa | apply qb | apply qc | apply qd) | (conv => whnf)
     all_goals first | ((with_reducible show (_ : List DV) = _); rfl) | omega | (with_reducible assumption) | skip
     all_goals (try simp only [gN_lst] at *)
     all_goals first | rfl | omega | exact hb2 | exact hb3 | (rename_i h; exact absurd (cT.symm.trans h) (by decide)) | (rename_i h; exact absurd (cE.symm.trans h) (by decide))
 . cases h
end Go.Proofs.YtakcacejpbiogaaGreatDoor
namespace Go.Proofs.YtakcacejpbiogaaGreatDoor
open Go.Sx Go.ChangeShapes Go.WideShapes Go.RowKit Go.Lib
theorem laidVars_mem {P : Program} {w : World} : ∀ {l : List (String × DataW Unit)} {ps : List MemPlace}, DataW.LaidVars P w l ps -> ∀ x ∈ l, ∃ g t cs fuel p, P.globalNamed x.1 = some g /\ (P.globals[g]?).map (·.type) = some t /\ w.var? P x.1 = some cs /\ DataW.trod (fun _ => ()) P w 0 (fun _ => true) false fuel t cs.toList = some (x.2, p)
 | (n, d) :: r, ps, h, x, hx => by
   obtain ⟨g, t, cs, fuel, p, q, h1, h2, h3, h4, h5, _⟩ := h
   rcases List.mem_cons.1 hx with rfl | hx
   . exact ⟨g, t, cs, fuel, p, h1, h2, h3, h4⟩
   . exact laidVars_mem h5 x hx
theorem trod_ifc {P : Program} {w : World} {base : Nat} {sp : Nat -> Bool} {fuel : Nat} {t : TypeId} {ms : Array (String × TypeId)} {cs : List Value} {x : DataW Unit × List MemPlace} (ht : P.underlying t = some (.interface ms))
 (h : DataW.trod (fun _ => ()) P w base sp false fuel t cs = some x) : cs = [.nilIface] \/ ∃ u v, cs = [.iface u v] := by
 cases fuel with
 | zero => simp [DataW.trod] at h
 | succ fuel =>
   simp only [DataW.trod, ht] at h
   split at h <;> first | exact .inl rfl | exact .inr ⟨_, _, rfl⟩ | (simp_all; done) | (rename_i h1 h2; cases h1) | skip
theorem var_cells {P : Program} {w : World} {n : String} {g : Nat} {cs : Array Value} (hg : P.globalNamed n = some g) (h : w.var? P n = some cs) : ∃ t f, w.heap[g]? = some (.cells cs t f) := by
 unfold World.var? at h
 rw [hg] at h
 have h : (match w.heap[g]? with | some (.cells cs _ _) => some cs | _ => none) = some cs := h
 split at h
 . rename_i cs' t f hh; cases h; exact ⟨t, f, hh⟩
 . cases h
theorem gInv_of {W : World} {laid : List (String × DataW Unit)} (hL : laidMet Tryz.prog laid W) (hsh : W.ShapedOpen Tryz.prog)
 (m1 : ("internal/strconv.uint64pow10", Rows.laid_internal_strconv_uint64pow10) ∈ laid) (m2 : ("strconv.ErrRange", Rows.laid_strconv_ErrRange) ∈ laid) (m3 : ("strconv.ErrSyntax", Rows.laid_strconv_ErrSyntax) ∈ laid) : GInv Tryz.prog (fun b => b < W.heap.size) W := by
 obtain ⟨ps, hv, _⟩ := hL
 have gmax : Tryz.prog.globalNamed "internal/bytealg.MaxLen" = some 0 := by kernel_rfl
 have key : ∀ (g : Nat) (n : String) (cs : Array Value), Tryz.prog.globalNamed n = some g -> W.var? Tryz.prog n = some cs -> gOk n cs -> (g < W.heap.size /\ ∃ arr e fr, W.heap[g]? = some (.cells arr e fr) /\ gOk n arr) := fun g n cs hg hvar hok => by
  obtain ⟨t, f, hh⟩ := var_cells hg hvar
  exact ⟨(Array.getElem?_eq_some_iff.1 hh).1, cs, t, f, hh, hok⟩
 intro g gl hgl hn
 have hsz : g < 8 := (Array.getElem?_eq_some_iff.1 hgl).1
 have hcases : (Tryz.prog.globals[g]?).map (·.name) = some gl.name := by rw [hgl]; rfl
 have err : ∀ (n : String) (g' : Nat) (d : DataW Unit), (n, d) ∈ laid -> Tryz.prog.globalNamed n = some g' -> (Tryz.prog.globals[g']?).map (·.type) = some 87 -> (n = "strconv.ErrRange" \/ n = "strconv.ErrSyntax") -> (g' < W.heap.size /\ ∃ arr e fr, W.heap[g']? = some (.cells arr e fr) /\ gOk n arr) := fun n g' d hm hg' ht' hn' => by
  obtain ⟨g2, t2, cs, fuel, p, h1, h2, h3, h4⟩ := laidVars_mem hv _ hm
  obtain rfl := Option.some.inj (hg'.symm.trans h1)
  obtain rfl := Option.some.inj (ht'.symm.trans h2)
  refine key g' n cs hg' h3 ⟨?_, ?_, ?_⟩
  . rintro rfl; exact absurd hn' (by decide)
  . rintro rfl; exact absurd hn' (by decide)
  . intro _
    rcases trod_ifc Tryz.underlying87 h4 with h | ⟨u, v, h⟩
    . exact ⟨_, Array.eq_one_of_toList h, .inl rfl⟩
    . exact ⟨_, Array.eq_one_of_toList h, .inr ⟨u, v, rfl⟩⟩
 have hg : g = 0 \/ g = 1 \/ g = 2 \/ g = 3 \/ g = 4 \/ g = 5 \/ g = 6 \/ g = 7 := by omega
 rcases hg with rfl | rfl | rfl | rfl | rfl | rfl | rfl | rfl
 . have hnm : gl.name = "internal/bytealg.MaxLen" := Option.some.inj (hcases.symm.trans (by kernel_rfl))
   obtain ⟨k, hk⟩ := Go.Proofs.cell_of_shapedOpen_int (P := Tryz.prog) (g := 0) (zero := #[.int .i64 0]) (t := 3) hsh (of_decide_eq_true (by kernel_rfl)) (by kernel_rfl) rfl (by kernel_rfl) (by kernel_rfl) Tryz.underlying3
   obtain ⟨cs, hh, hs, _⟩ := hsh.1 0 #[.int .i64 0] 3 (of_decide_eq_true (by kernel_rfl)) (by kernel_rfl)
   have hs : cs.size = 1 := hs
   have e0 : cs = #[.int .i64 k] := by
    have : cs[0]? = some (.int .i64 k) := by
     have h := hk
     simp only [World.cell?, hh] at h
     exact h
    apply Array.ext
    . rw [hs]; rfl
    . intro j h1 h2
      obtain rfl : j = 0 := by omega
      exact (Array.getElem?_eq_some_iff.1 this).2
   rw [hnm]
   exact ⟨(Array.getElem?_eq_some_iff.1 hh).1, cs, _, _, hh, ⟨fun h => absurd h (by decide), fun _ => ⟨k, e0⟩, fun h => absurd h (by decide)⟩⟩
 . have hnm : gl.name = "internal/strconv.uint64pow10" := Option.some.inj (hcases.symm.trans (by kernel_rfl))
   obtain ⟨g2, t2, cs, fuel, p, h1, h2, h3, h4⟩ := laidVars_mem hv _ m1
   have e1 : Tryz.prog.globalNamed "internal/strconv.uint64pow10" = some 1 := by kernel_rfl
   have e2 : (Tryz.prog.globals[1]?).map (·.type) = some 144 := by kernel_rfl
   obtain rfl := Option.some.inj (e1.symm.trans h1)
   obtain rfl := Option.some.inj (e2.symm.trans h2)
   have h5 := Lib.cells_of_tab (zs := pow10Tab) (k := .u64) Tryz.underlying144 Tryz.underlying121 (by kernel_rfl) (by kernel_rfl) h4
   rw [hnm]
   refine key 1 _ cs e1 h3 ⟨fun _ => ?_, fun h => absurd h (by decide), fun h => absurd h (by decide)⟩
   apply Array.ext'
   rw [h5]
   unfold pow10Tab
   rw [List.map_map]; rfl
 . have hnm : gl.name = "strconv.ErrSyntax" := Option.some.inj (hcases.symm.trans (by kernel_rfl))
   rw [hnm]
   exact err _ 2 _ m3 (by kernel_rfl) (by kernel_rfl) (by simp)
 . have hnm : gl.name = "strconv.ErrRange" := Option.some.inj (hcases.symm.trans (by kernel_rfl))
   rw [hnm]
   exact err _ 3 _ m2 (by kernel_rfl) (by kernel_rfl) (by simp)
 . have hnm : gl.name = "unicode/utf8.first" := Option.some.inj (hcases.symm.trans (by kernel_rfl))
   rw [hnm] at hn; exact absurd hn (by decide)
 . have hnm : gl.name = "unicode/utf8.acceptRanges" := Option.some.inj (hcases.symm.trans (by kernel_rfl))
   rw [hnm] at hn; exact absurd hn (by decide)
 . have hnm : gl.name = "math/bits.deBruijn32tab" := Option.some.inj (hcases.symm.trans (by kernel_rfl))
   rw [hnm] at hn; exact absurd hn (by decide)
 . have hnm : gl.name = "math/bits.deBruijn64tab" := Option.some.inj (hcases.symm.trans (by kernel_rfl))
   rw [hnm] at hn; exact absurd hn (by decide)
theorem ownKey : ownKnob Tryz.prog.godebug = none := by kernel_rfl
end Go.Proofs.YtakcacejpbiogaaGreatDoor
