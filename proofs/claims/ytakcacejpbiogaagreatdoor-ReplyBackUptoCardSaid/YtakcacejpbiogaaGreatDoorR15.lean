/- The law of texts read back. No condition. -/
import Derived.Test.YtakcacejpbiogaaGreatDoorR14
set_option linter.all false
set_option maxHeartbeats 8000000
set_option maxRecDepth 100000
namespace Go.Proofs.YtakcacejpbiogaaGreatDoor
open Go.Sx
open Go.RowKit Go.Lib Go.Sort
theorem first_sz (i : Ig) (hr : i.s.inR /\ i.c.inR) : szL (firstV i) + (firstV i).length <= 1000 := by
 unfold Sp.inR Cg.inR at hr
 have z1 := itoa_sz (itoa_rI hr.1.1)
 have z2 := itoa_sz (itoa_rI hr.1.2)
 have z3 := itoa_sz (itoa_rI hr.2.1)
 have z4 := itoa_sz (itoa_rI hr.2.2)
 have q2 : (⟨#[46, 46]⟩ : ByteArray).size = 2 := rfl
 have q3 : (⟨#[98, 121]⟩ : ByteArray).size = 2 := rfl
 have q7 : (⟨#[97, 116]⟩ : ByteArray).size = 2 := rfl
 unfold firstV
 split
 . split
   . rw [szL_cons, ByteArray.size_append, ByteArray.size_append]
     show _ + 0 + 1 <= 1000
     omega
   . rw [szL_cons, szL_cons, szL_cons, szL_cons, szL_cons, ByteArray.size_append, ByteArray.size_append]
     show _ + (_ + (_ + (_ + (_ + 0)))) + 5 <= 1000
     omega
 . exact Nat.zero_le _
theorem textV_le (w : Vl) (hr : w.i.s.inR /\ w.i.c.inR) (hn : w.t.names.length <= 1048576) (hz : szL w.t.names <= 1048576) : (textV w).size <= 4194304 := by
 by_cases h0 : partsV w = []
 . have e : textV w = nilS := if_pos h0
   rw [e]; decide
 . have e : textV w = joinS (partsV w) blS := if_neg h0
   rw [e]
   have h1 := join_size h0
   have h2 := szL_first w
   have h3 := first_sz w.i hr
   have hl : (partsV w).length = (firstV w.i).length + ((headP w.t.null).length + w.t.names.length) := by
    rw [partsV_eq]; unfold wordsP; simp
   have h4 : szL (headP w.t.null) + (headP w.t.null).length <= 10 := by
    unfold headP
    split <;> decide
   omega
abbrev sl13R : List (Nat × Sm) := [(7, ⟨[], FRead⟩), (9, ⟨[], FRpValue⟩), (14, ⟨[], FRName⟩), (11, ⟨[], FRVExact⟩), (12, ⟨[], FRpLives⟩)]
theorem sp13R : sumsOk Tryz.prog sl13R := ⟨fcRead, fcRpValue, fcRName, fcRVExact, fcRpLives, trivial⟩
theorem back_walk {w : Vl} (hi : w.i.tidy) (hs : Srt w.t.names) (hr : w.i.s.inR /\ w.i.c.inR) (hn : w.t.names.length <= 1048576) (hz : szL w.t.names <= 1048576) {Q : Exit -> St -> Prop} (hQ : ∀ st, lookT st.tmps 2 = vx (.bool true) -> Q .ret st) :
 ASat Tryz.prog 0 (sndC (sndC (Option.get Tryz.f4.body rfl))) ⟨[(1, .va (.c (.own 0 0))), (2, vx (.bool false))], [(0, .cells [.d (bo w.i.s.some), .d (it w.i.s.lo), .d (it w.i.s.hi), .d (bo w.i.c.some), .d (it w.i.c.m), .d (it w.i.c.r), .d (bo w.t.null), .d (lst w.t.names)])], 1, Tryz.f4.ntmps⟩ Q := by
 have hof : (⟨⟨⟨w.i.s.some, w.i.s.lo, w.i.s.hi⟩, ⟨w.i.c.some, w.i.c.m, w.i.c.r⟩⟩, ⟨w.t.null, w.t.names⟩⟩ : Vl).of = w := of_told (v := w) hi hs
 have htz := textV_le w hr hn hz
 have hn16 : w.t.names.length * 16 <= 140737488351232 := by omega
 refine ASat.seqA tys_ok (l := sl13R) sp13R (by kernel_rfl) ?_
 repeat' (first | exact trivial | (with_reducible first | exact (fun (h : true = false) => absurd h (by decide)) | exact (fun (h : false = true) => absurd h (by decide)) | exact hib | exact hib.1 | exact hib.2 | exact hsz | exact hr | exact hr.1 | exact hr.2 | exact hn16 | exact hn | exact hz | exact htz) | refine ⟨?_, ?_⟩ | intro _)
 all_goals first | (with_reducible first | apply qa | apply qb | apply qc | apply qd) | (conv => whnf)
 all_goals first | ((with_reducible show (_ : List DV) = _); rfl) | omega | (with_reducible assumption) | skip
 refine ASat.le [0] 0 ?_ (ASat.loop (X := Nat) (fun i => ⟨[(3, vx (.int .i64 i)), (1, .va (.c (.own 0 0))), (2, vx (.bool false))], [(0, .cells [.d (bo w.i.s.some), .d (it w.i.s.lo), .d (it w.i.s.hi), .d (bo w.i.c.some), .d (it w.i.c.m), .d (it w.i.c.r), .d (bo w.t.null), .d (lst w.t.names)])], 1, Tryz.f4.ntmps⟩) (fun i => w.t.names.length - i) (fun i => i <= w.t.names.length /\ ∀ j, j < i -> nameB (atS w.t.names j) = true) (fun i hx => ?_) 0 ⟨Nat.zero_le _, fun j h => absurd h (Nat.not_lt_zero j)⟩)
 . exact ⟨rfl, rfl, rfl, ⟨rfl, ⟨rfl, rfl⟩, rfl, trivial⟩, ⟨⟨rfl, rfl, rfl, rfl, rfl, rfl, rfl, ⟨rfl, rfl, fun _ _ => rfl⟩, trivial⟩, trivial⟩⟩
 . obtain ⟨hx1, hx2⟩ := hx
   rcases Nat.lt_or_ge i w.t.names.length with hi2 | hi2
   . have hib : (0 : Int) <= (i : Int) /\ (i : Int) < (w.t.names.length : Int) := by omega
     have hne : decide ((i : Int) < (w.t.names.length : Int)) = true := decide_eq_true (by omega)
     have hw : IntKind.wrap .i64 ((i : Int) + 1) = ((i + 1 : Nat) : Int) := by rw [wI_id _ (by omega) (by omega)]; omega
     have hsz : (atS w.t.names (Int.toNat (i : Int))).size <= 9223372036854775807 := Nat.le_trans at_szL (by omega)
     cases hb : nameB (atS w.t.names (Int.toNat (i : Int))) with
     | false =>
       refine rnd ?_
       refine ASat.vc tys_ok (l := sl13R) sp13R (by kernel_rfl) ?_
       repeat' (first | exact trivial | (with_reducible first | exact (fun (h : true = false) => absurd h (by decide)) | exact (fun (h : false = true) => absurd h (by decide)) | exact hib | exact hib.1 | exact hib.2 | exact hsz | exact hr | exact hr.1 | exact hr.2 | exact hn16 | exact hn | exact hz | exact htz | exact (fun h => absurd (hne.symm.trans h) (by decide)) | exact (fun h => absurd (hb.symm.trans h) (by decide)) | exact (fun h => absurd ((congrArg Bool.not hb).symm.trans h) (by decide))) | refine ⟨?_, ?_⟩ | intro _)
       all_goals first | (with_reducible first | apply qa | apply qb | apply qc | apply qd) | (conv => whnf)
       all_goals first | ((with_reducible show (_ : List DV) = _); rfl) | omega | (with_reducible assumption) | skip
       all_goals first | exact hQ _ rfl
     | true =>
       refine rnd ?_
       refine ASat.vc tys_ok (l := sl13R) sp13R (by kernel_rfl) ?_
       repeat' (first | exact trivial | (with_reducible first | exact (fun (h : true = false) => absurd h (by decide)) | exact (fun (h : false = true) => absurd h (by decide)) | exact hib | exact hib.1 | exact hib.2 | exact hsz | exact hr | exact hr.1 | exact hr.2 | exact hn16 | exact hn | exact hz | exact htz | exact (fun h => absurd (hne.symm.trans h) (by decide)) | exact (fun h => absurd (hb.symm.trans h) (by decide)) | exact (fun h => absurd ((congrArg Bool.not hb).symm.trans h) (by decide))) | refine ⟨?_, ?_⟩ | intro _)
       all_goals first | (with_reducible first | apply qa | apply qb | apply qc | apply qd) | (conv => whnf)
       all_goals first | ((with_reducible show (_ : List DV) = _); rfl) | omega | (with_reducible assumption) | skip
       refine Clo.mk ?_
       conv => whnf
       rw [hw]
       refine ⟨i + 1, ⟨hi2, fun q hq => by rcases Nat.lt_or_ge q i with h | h; exact hx2 q h; exact (show q = i by omega) ▸ hb⟩, by dsimp only; omega, [0], 0, ?_⟩
       exact ⟨rfl, rfl, rfl, ⟨rfl, ⟨rfl, rfl⟩, rfl, trivial⟩, ⟨⟨rfl, rfl, rfl, rfl, rfl, rfl, rfl, ⟨rfl, rfl, fun _ _ => rfl⟩, trivial⟩, trivial⟩⟩
   . have hne : decide ((i : Int) < (w.t.names.length : Int)) = false := decide_eq_false (by omega)
     obtain rfl : i = w.t.names.length := by omega
     have hnm : ∀ x, x ∈ w.t.names -> nameB x = true := fun x hx => by
      obtain ⟨j, hj, e⟩ := List.mem_iff_getElem.1 hx
      have := hx2 j hj
      rw [atS_mem hj, e] at this; exact this
     have hrb := read_back hi hs hr hnm
     refine ASat.vc tys_ok (l := sl13R) sp13R (by kernel_rfl) ?_
     repeat' (first | exact trivial | (with_reducible first | exact (fun (h : true = false) => absurd h (by decide)) | exact (fun (h : false = true) => absurd h (by decide)) | exact hib | exact hib.1 | exact hib.2 | exact hsz | exact hr | exact hr.1 | exact hr.2 | exact hn16 | exact hn | exact hz | exact htz | exact (fun h => absurd (hne.symm.trans h) (by decide))) | refine ⟨?_, ?_⟩ | intro _)
     all_goals first | (with_reducible first | apply qa | apply qb | apply qc | apply qd) | (conv => whnf)
     all_goals first | ((with_reducible show (_ : List DV) = _); rfl) | omega | (with_reducible assumption) | skip
     refine ASat.seqA tys_ok (l := sl13R) sp13R (by kernel_rfl) ?_
     repeat' (first | exact trivial | (with_reducible first | exact (fun (h : true = false) => absurd h (by decide)) | exact (fun (h : false = true) => absurd h (by decide)) | exact hib | exact hib.1 | exact hib.2 | exact hsz | exact hr | exact hr.1 | exact hr.2 | exact hn16 | exact hn | exact hz | exact htz) | refine ⟨?_, ?_⟩ | intro _)
     all_goals first | (with_reducible first | apply qa | apply qb | apply qc | apply qd) | (conv => whnf)
     all_goals first | ((with_reducible show (_ : List DV) = _); rfl) | omega | (with_reducible assumption) | skip
     all_goals (try simp only [gN_lst])
     all_goals first | exact hz | (rw [hof]; omega) | skip
     rw [hof, hrb]
     refine ASat.vc tys_ok (l := sl13R) sp13R (by kernel_rfl) ?_
     repeat' (first | exact trivial | (with_reducible first | exact (fun (h : true = false) => absurd h (by decide)) | exact (fun (h : false = true) => absurd h (by decide)) | exact hib | exact hib.1 | exact hib.2 | exact hsz | exact hr | exact hr.1 | exact hr.2 | exact hn16 | exact hn | exact hz | exact htz) | refine ⟨?_, ?_⟩ | intro _)
     all_goals first | (with_reducible first | apply qa | apply qb | apply qc | apply qd) | (conv => whnf)
     all_goals first | ((with_reducible show (_ : List DV) = _); rfl) | omega | (with_reducible assumption) | skip
     all_goals (try simp only [gN_lst] at *)
     all_goals first | exact hQ _ rfl | (rename_i h; exact absurd ((exact_refl w).symm.trans h) (by decide)) | (exact absurd ‹((0 : Int) == 0) = false› (by decide))
theorem fin_bool {τ : Tys} {K : Rt -> List (Option (Nat -> List DV)) -> Prop} {st : St} {t : Nat} {b : Bool} (h : lookT st.tmps t = vx (.bool b)) (hK : K (.va (.c (.d (.v (.bool b))))) []) : fin τ false [] [.tmp t] K st := by
 unfold fin resVars resVar
 dsimp only
 rw [h]
 exact hK
def FReplyBack : List Ar -> Option Rs
 | [.agg [.d (.v (.bool s0)), .d (.v (.int .i64 l0)), .d (.v (.int .i64 h0)), .d (.v (.bool b0)), .d (.v (.int .i64 m0)), .d (.v (.int .i64 r0)), .d (.v (.bool _)), .d (.lst 1 n0 f0)]] => some ⟨((n0 * 16 <= 140737488351232 /\ ∀ i, i < n0 -> f0 i = [st (gT (f0 i))]) /\ Sp.inR ⟨s0, l0, h0⟩ /\ Cg.inR ⟨b0, m0, r0⟩) /\ (n0 <= 1048576 /\ szL (gN n0 f0) <= 1048576), .va (.c (.d (bo (true)))), []⟩
 | _ => none
theorem fcReplyBack : FC Tryz.prog 4 FReplyBack := by
 intro xs pre r us h hp
 unfold FReplyBack at h
 split at h
 . rename_i s0 l0 h0 b0 m0 r0 z0 n0 f0
   cases h
   obtain ⟨hp0, hp1⟩ := hp
   refine FCat.of_eq (as' := [.agg [.d (.v (.bool s0)), .d (.v (.int .i64 l0)), .d (.v (.int .i64 h0)), .d (.v (.bool b0)), .d (.v (.int .i64 m0)), .d (.v (.int .i64 r0)), .d (.v (.bool z0)), .d (.lst 1 n0 fun i => [st (gT (f0 i))])]]) ?_ rfl rfl ?_
   . repeat' (first | exact trivial | exact rfl | refine ⟨?_, ?_⟩ | fail)
     all_goals first | exact hp0.2 | exact hp1.2 | exact hp2.2 | (intro i hi; exact (hp0.2 i hi).1) | (intro i hi; exact (hp1.2 i hi).1) | (intro i hi; exact (hp2.2 i hi).1) | grind
   refine fcatA tys_ok Tryz.func4 rfl false ?_
   refine ⟨Nat.le_of_ble_eq_true rfl, ?_⟩
   have hv0 : okV (⟨⟨⟨s0, l0, h0⟩, ⟨b0, m0, r0⟩⟩, ⟨z0, gN n0 fun i => [st (gT (f0 i))]⟩⟩ : Vl) := ⟨⟨(by rw [gN_length]; exact hp0.1.1), fun _ _ => rfl⟩, hp0.2⟩
   have ho0 := okV_of hv0
   have hoo0 := okV_of ho0
   have hk := ho0
   rw [of_rclean] at hk
   unfold okV at hk
   refine ASat.seqA tys_ok (l := [(13, ⟨[], FRVClean⟩)]) ⟨fcRVClean, trivial⟩ (by kernel_rfl) ?_
   repeat' (first | exact trivial | (with_reducible first | exact ho0 | exact ho0.1 | exact ho0.2.1 | exact ho0.2.2 | exact hp0 | exact hp0.1 | exact hp0.2 | exact hp0.2.1 | exact hp0.2.2 | exact hoo0 | exact hoo0.1 | exact hoo0.2.1 | exact hoo0.2.2) | refine ⟨?_, ?_⟩ | intro _)
   all_goals first | (with_reducible first | apply qa | apply qb | apply qc | apply qd) | (conv => whnf)
   refine ASat.seqA tys_ok (l := [(13, ⟨[], FRVClean⟩)]) ⟨fcRVClean, trivial⟩ (by kernel_rfl) ?_
   repeat' (first | exact trivial | (with_reducible first | exact hp0 | exact hp0.1 | exact hp0.2 | exact hp0.2.1 | exact hp0.2.2) | refine ⟨?_, ?_⟩ | intro _)
   all_goals first | (with_reducible first | apply qa | apply qb | apply qc | apply qd) | (conv => whnf)
   all_goals first | exact hp0.1.1 | (intro _ _; rfl) | skip
   all_goals (try simp only [gN_lst])
   all_goals first | (intro i hi; rfl) | (exact rfl) | skip
   refine ASat.norm [1, 2] ?_
   have hle : (ofS (gN n0 fun i => [st (gT (f0 i))])).length <= 1048576 := Nat.le_trans (ofS_len _) (by rw [gN_length]; exact hp1.1)
   have hls : szL (ofS (gN n0 fun i => [st (gT (f0 i))])) <= 1048576 := Nat.le_trans (szL_of _) hp1.2
   rw [ofS_eq] at hle hls
   have hvw := @back_walk (Vl.rclean (⟨⟨⟨s0, l0, h0⟩, ⟨b0, m0, r0⟩⟩, ⟨z0, gN n0 fun i => [st (gT (f0 i))]⟩⟩ : Vl)) (clean_tidy _) (cleanS_srt _) ⟨hk.2.1, hk.2.2⟩ hle hls
   refine ASat.le [0] 0 ?_ (hvw fun st h => ?_)
   . repeat' (first | exact trivial | exact rfl | (intro _ _; exact rfl) | refine ⟨?_, ?_⟩ | fail)
   exact fin_bool (K := fun r' us' => rtEq r' _ /\ usEq _ us' _) h ⟨rfl, trivial⟩
 . cases h
end Go.Proofs.YtakcacejpbiogaaGreatDoor
