/- Calls that go up: need, number. No condition. -/
import Derived.Test.YtakcacejpbiogaaGreatDoorR7
set_option linter.all false
set_option maxHeartbeats 8000000
set_option maxRecDepth 100000
namespace Go.Proofs.YtakcacejpbiogaaGreatDoor
open Go.Sx
theorem panicR {P : Program} {base : Nat} {ops : Array Oper} {id : Nat} {o1 o2 o3 : Oper} {T : TypeId} {d1 d2 : Nat} {e : Int} {ts : List (Nat × Tm)} {h : List (Nat × Blk)} {n m : Nat} {Q : Exit -> St -> Prop}
 (hops : ops.toList = [o1, o2, o3]) (g1 : o1.guard = none) (g2 : o2.guard = none) (g3 : o3.guard = none) (h1 : o1.op = .build T #[(0, .const (.int .i64 e))]) (e1 : o1.dst = some d1) (h2 : o2.op = .makeInterface T (.tmp d1)) (e2 : o2.dst = some d2) (h3 : o3.op = .panic (.tmp d2))
 (l1 : Nat.blt d1 m = true) (l2 : Nat.blt d2 m = true) (hb : ∀ w, (Instr.build T #[(0, .int .i64 e)]).run P w = .ok (.agg #[.int .i64 e]) w) (hi : ∀ v w, (Instr.makeInterface T v).run P w = .ok (.iface T v) w)
 (hq : Q (.panic [{ v := .iface T (.agg #[.int .i64 e]), recovered := false }]) ⟨(d2, topT) :: (d1, topT) :: ts, h, n, m⟩) : ASat P base (.region id ops false) ⟨ts, h, n, m⟩ Q := by
 refine ⟨fun ψ S w a hr => wp_region ?_⟩
 have hs : ops.size = 3 := by have := congrArg List.length hops; simpa using this
 have q1 : ops[0]? = some o1 := by rw [<- Array.getElem?_toList, hops]; rfl
 have q2 : ops[1]? = some o2 := by rw [<- Array.getElem?_toList, hops]; rfl
 have q3 : ops[2]? = some o3 := by rw [<- Array.getElem?_toList, hops]; rfl
 have n1 : d1 < a.tmps.size := by rw [hr.lim]; exact Nat.le_of_ble_eq_true l1
 have n2 : d2 < a.tmps.size := by rw [hr.lim]; exact Nat.le_of_ble_eq_true l2
 obtain ⟨s1, k1, r1⟩ := putK_rel (dst := some d1) (x := topT) (v := .agg #[.int .i64 e]) (K := fun s => s = ⟨(d1, topT) :: ts, h, n, m⟩) (by unfold Go.Sx.putK; simp only [l1]; rfl) hr trivial
 subst k1
 have v1 : (a.put (some d1) (.agg #[.int .i64 e])).eval (.tmp d1) = .agg #[.int .i64 e] := by
  show (a.tmps.setIfInBounds d1 _).getD d1 undef = _
  simp [Array.getD, n1]
 obtain ⟨s2, k2, r2⟩ := putK_rel (dst := some d2) (x := topT) (v := .iface T (.agg #[.int .i64 e])) (K := fun s => s = ⟨(d2, topT) :: (d1, topT) :: ts, h, n, m⟩) (by unfold Go.Sx.putK; simp only [l2]; rfl) r1 trivial
 subst k2
 have v2 : ((a.put (some d1) (.agg #[.int .i64 e])).put (some d2) (.iface T (.agg #[.int .i64 e]))).eval (.tmp d2) = .iface T (.agg #[.int .i64 e]) := by
  show ((a.tmps.setIfInBounds d1 _).setIfInBounds d2 _).getD d2 undef = _
  simp [Array.getD, n2]
 have x1 : (execOp a.eval o1).run P w = .ok (.value (.agg #[.int .i64 e])) w := by
  simp only [execOp, h1, Sem.run_bind]
  rw [show (Array.map (fun x : Nat × Operand => (x.fst, a.eval x.snd)) #[(0, Operand.const (.int .i64 e))]) = #[(0, .int .i64 e)] by simp [Act.eval], hb]; rfl
 have x2 : (execOp (a.put (some d1) (.agg #[.int .i64 e])).eval o2).run P w = .ok (.value (.iface T (.agg #[.int .i64 e]))) w := by
  simp only [execOp, h2, Sem.run_bind, v1, hi]; rfl
 have x3 : (execOp ((a.put (some d1) (.agg #[.int .i64 e])).put (some d2) (.iface T (.agg #[.int .i64 e]))).eval o3).run P w = .halt (.panic (.iface T (.agg #[.int .i64 e]))) w := by
  simp only [execOp, h3, Sem.run_bind, v2]; rfl
 rw [hs, show List.range 3 = [0, 1, 2] from rfl]
 simp only [wpOps, q1, q2, q3, Region.wanted, g1, g2, g3, Oper.wp, if_true]
 refine .inl ?_
 rw [x1]; simp only [Oper.upon, e1]
 refine .inl ?_
 rw [x2]; simp only [Oper.upon, e2]
 refine .inl ?_
 rw [x3]; simp only [Oper.upon]
 exact ⟨_, ψ, S, hq, r2, Ext.refl _ _ _ _⟩
abbrev wrV (e : Int) : Value := .iface 50 (.agg #[.int .i64 e])
theorem wr_build (e : Int) (w : World) : (Instr.build 50 #[(0, .int .i64 e)]).run Tryz.prog w = .ok (.agg #[.int .i64 e]) w := by kernel_rfl
theorem wr_iface (v : Value) (w : World) : (Instr.makeInterface 50 v).run Tryz.prog w = .ok (.iface 50 v) w := by kernel_rfl
def FNeed : List Ar -> Option Rs
 | [.c (.d (.v (.bool b0)))] => some ⟨(b0 = true), .tup [], []⟩
 | _ => none
theorem fcNeed : FC Tryz.prog 37 FNeed := by
 intro xs pre r us h hp
 unfold FNeed at h
 split at h
 . rename_i b0
   cases h
   have hp0 := hp
   refine fcat tys_ok (l := []) trivial Tryz.func37 rfl (by kernel_rfl) false ?_
   repeat' (first | exact trivial | (with_reducible exact (fun h => absurd (hp0.symm.trans h) (by decide))) | refine ⟨?_, ?_⟩ | intro _)
   all_goals first | (with_reducible first | apply qa | apply qb | apply qc | apply qd) | (conv => whnf)
   all_goals first | rfl | exact absurd ‹_ = true› (by rw [hp0]; decide)
 . cases h
theorem fpNeed : FPat Tryz.prog 37 [.c (.v (.bool false))] (wrV 3) := by
 refine FPat.of Tryz.func37 rfl rfl rfl ?_
 refine ASat.seqA tys_ok (l := []) trivial (by kernel_rfl) ?_
 repeat' (first | exact trivial | refine ⟨?_, ?_⟩ | intro _)
 all_goals first | (with_reducible first | apply qa | apply qb | apply qc | apply qd) | (conv => whnf)
 refine ASat.condP ?_
 refine ⟨fun _ => ?_, fun h => absurd h (by decide)⟩
 show ASat _ _ _ _ _
 refine panicR (o1 := ?o1) (o2 := ?o2) (o3 := ?o3) (d1 := 4) (d2 := 5) ?_ ?_ ?_ ?_ ?_ ?_ ?_ ?_ ?_ ?_ ?_ (wr_build 3) wr_iface ?_
 all_goals first | rfl | skip
abbrev nA (s : ByteArray) : Bool := !((trimP s ⟨#[45]⟩).toList == (⟨#[]⟩ : ByteArray).toList)
abbrev nB (s : ByteArray) : Bool := (trimD (trimP s ⟨#[45]⟩) ⟨#[48, 49, 50, 51, 52, 53, 54, 55, 56, 57]⟩).toList == (⟨#[]⟩ : ByteArray).toList
abbrev nC (s : ByteArray) : Bool := byteAt (trimP s ⟨#[45]⟩) (Int.toNat 0) != 48
abbrev nZ (s : ByteArray) : Bool := s.toList == (⟨#[48]⟩ : ByteArray).toList
def numE (s : ByteArray) : Int := if nA s && (nB s && (nC s || nZ s)) then (match Lib.atoiAll s.data.toList with
 | .ok _ => 0
 | _ => 4) else 3
def numI (s : ByteArray) : Int := match Lib.atoiAll s.data.toList with
 | .ok v => v
 | _ => 0
theorem numE_frm {s : ByteArray} (h : numE s ≠ 3) : nA s = true /\ nB s = true /\ (nC s = true \/ nZ s = true) := by
 unfold numE at h
 split at h
 . rename_i hf
   simpa only [Bool.and_eq_true, Bool.or_eq_true] using hf
 . exact absurd rfl h
theorem numE_zero {s : ByteArray} (h : numE s = 0) : ∃ v, Lib.atoiAll s.data.toList = .ok v /\ numI s = v := by
 unfold numE at h
 split at h
 . split at h
   . rename_i v hv; exact ⟨v, hv, by unfold numI; rw [hv]⟩
   . exact absurd h (by decide)
 . exact absurd h (by decide)
theorem numE_four {s : ByteArray} (h3 : numE s ≠ 3) (h0 : numE s ≠ 0) : numE s = 4 /\ ∀ v, Lib.atoiAll s.data.toList ≠ .ok v := by
 unfold numE at h3 h0 ⊢
 split at h3
 . rename_i hf
   rw [if_pos hf] at h0 ⊢
   split at h0
   . exact absurd rfl h0
   . rename_i hn
     exact ⟨rfl, fun v hv => hn v hv⟩
 . exact absurd rfl h3
theorem numE_three {s : ByteArray} (h : ¬ (nA s = true /\ nB s = true /\ (nC s = true \/ nZ s = true))) : numE s = 3 := by
 unfold numE
 rw [if_neg]
 simpa only [Bool.and_eq_true, Bool.or_eq_true] using h
theorem ba_empty {t : ByteArray} (h : t.size = 0) : t = ⟨#[]⟩ := by
 obtain ⟨d⟩ := t
 have : d = #[] := Array.eq_empty_of_size_eq_zero h
 rw [this]
theorem nA_pos {s : ByteArray} (h : nA s = true) : 0 < ((trimP s ⟨#[45]⟩).size : Int) := by
 unfold nA at h
 rw [seq_iff] at h
 have h : trimP s ⟨#[45]⟩ ≠ ⟨#[]⟩ := by simpa using h
 have : (trimP s ⟨#[45]⟩).size ≠ 0 := fun h0 => h (ba_empty h0)
 omega
theorem trimP_size (s p : ByteArray) : (trimP s p).size <= s.size := by
 show (Lib.trimPrefix s.data.toList p.data.toList).toArray.size <= s.data.size
 unfold Lib.trimPrefix
 split
 . first | (simp; done) | (simp; omega)
 . first | (simp; done) | (simp; omega)
def FNumber : List Ar -> Option Rs
 | [.c (.d (.v (.string x0)))] => some ⟨(x0.size <= 281474976710656 /\ numE x0 = 0), .va (.c (.d (it (numI x0)))), []⟩
 | _ => none
theorem fcNumber : FC Tryz.prog 40 FNumber := by
 intro xs pre r us h hp
 unfold FNumber at h
 split at h
 . rename_i x0
   cases h
   have hp0 := hp
   refine fcat tys_ok (l := [(62, ⟨[], FTrimP⟩), (63, ⟨[], FTrim⟩), (37, ⟨[], FNeed⟩)]) ⟨fcTrimP, fcTrim, fcNeed, trivial⟩ Tryz.func40 rfl (by kernel_rfl) true ?_
   obtain ⟨hs_, h0⟩ := hp0
   obtain ⟨hA, hB, hCD⟩ := numE_frm (s := x0) (by rw [h0]; decide)
   obtain ⟨v0, hv0, hI⟩ := numE_zero h0
   have hpos := nA_pos hA
   have hts := Nat.le_trans (Nat.le_trans (trimP_size x0 ⟨#[45]⟩) hs_) (by decide : 281474976710656 <= 9223372036854775807)
   rw [hI]
   cases hC : nC x0 with
   | true =>
     repeat' (first | exact trivial | (with_reducible first | exact hpos | exact hts | exact (fun h => absurd (hA.symm.trans h) (by decide)) | exact (fun h => absurd (hB.symm.trans h) (by decide)) | exact (fun h => absurd (hC.symm.trans h) (by decide))) | refine ⟨?_, ?_⟩ | intro _)
     all_goals first | (with_reducible first | apply qa | apply qb | apply qc | apply qd) | (conv => whnf)
     all_goals first | rfl | omega | exact hts | exact hpos | (exact absurd (hA.symm.trans ‹_›) (by decide)) | skip
     all_goals refine acall_atoi hs_ (fun v hv => ?_) (fun hv n t a => ?_)
     all_goals repeat' (first | exact trivial | (with_reducible first | exact (fun h => absurd (hA.symm.trans h) (by decide)) | exact (fun h => absurd (hB.symm.trans h) (by decide)) | exact (fun h => absurd (hC.symm.trans h) (by decide))) | refine ⟨?_, ?_⟩ | intro _)
     all_goals first | (with_reducible first | apply qa | apply qb | apply qc | apply qd) | (conv => whnf)
     all_goals first | exact absurd hv0 (hv _) | exact absurd ‹(!true) = true› (by decide) | (have e := hv.symm.trans hv0; cases e; rfl)
   | false =>
     have hZ : nZ x0 = true := hCD.resolve_left (by rw [hC]; decide)
     repeat' (first | exact trivial | (with_reducible first | exact hpos | exact hts | exact (fun h => absurd (hA.symm.trans h) (by decide)) | exact (fun h => absurd (hB.symm.trans h) (by decide)) | exact (fun h => absurd (hC.symm.trans h) (by decide)) | exact (fun h => absurd (hZ.symm.trans h) (by decide))) | refine ⟨?_, ?_⟩ | intro _)
     all_goals first | (with_reducible first | apply qa | apply qb | apply qc | apply qd) | (conv => whnf)
     all_goals first | rfl | omega | exact hts | exact hpos | (exact absurd (hA.symm.trans ‹_›) (by decide)) | skip
     all_goals refine acall_atoi hs_ (fun v hv => ?_) (fun hv n t a => ?_)
     all_goals repeat' (first | exact trivial | (with_reducible first | exact (fun h => absurd (hA.symm.trans h) (by decide)) | exact (fun h => absurd (hB.symm.trans h) (by decide)) | exact (fun h => absurd (hC.symm.trans h) (by decide)) | exact (fun h => absurd (hZ.symm.trans h) (by decide))) | refine ⟨?_, ?_⟩ | intro _)
     all_goals first | (with_reducible first | apply qa | apply qb | apply qc | apply qd) | (conv => whnf)
     all_goals first | exact absurd hv0 (hv _) | exact absurd ‹(!true) = true› (by decide) | (have e := hv.symm.trans hv0; cases e; rfl)
 . cases h
theorem numE_ne3 {s : ByteArray} (hA : nA s = true) (hB : nB s = true) (hC : nC s = true \/ nZ s = true) : numE s ≠ 3 := by
 unfold numE
 rw [if_pos (by simpa only [Bool.and_eq_true, Bool.or_eq_true] using And.intro hA (And.intro hB hC))]
 split <;> decide
theorem fpNeedB {b : Bool} (h : b = false) : FPat Tryz.prog 37 [.c (.v (.bool b))] (wrV 3) := by subst h; exact fpNeed
abbrev sl1R : List (Nat × Sm) := [(62, ⟨[], FTrimP⟩), (63, ⟨[], FTrim⟩), (37, ⟨[], FNeed⟩)]
theorem sp1R : sumsOk Tryz.prog sl1R := ⟨fcTrimP, fcTrim, fcNeed, trivial⟩
theorem fpNumber {x0 : ByteArray} (hs_ : x0.size <= 281474976710656) (hE : numE x0 ≠ 0) : FPat Tryz.prog 40 [.c (.v (.string x0))] (wrV (numE x0)) := by
 have hts := Nat.le_trans (Nat.le_trans (trimP_size x0 ⟨#[45]⟩) hs_) (by decide : 281474976710656 <= 9223372036854775807)
 refine FPat.of Tryz.func40 rfl rfl rfl ?_
 refine ASat.seqA tys_ok (l := sl1R) sp1R (by kernel_rfl) ?_
 repeat' (first | exact trivial | refine ⟨?_, ?_⟩ | intro _)
 all_goals first | (with_reducible first | apply qa | apply qb | apply qc | apply qd) | (conv => whnf)
 refine ASat.seqA tys_ok (l := sl1R) sp1R (by kernel_rfl) ?_
 repeat' (first | exact trivial | refine ⟨?_, ?_⟩ | intro _)
 all_goals first | (with_reducible first | apply qa | apply qb | apply qc | apply qd) | (conv => whnf)
 cases hA : nA x0 with
 | false =>
   rw [numE_three fun h => absurd (hA.symm.trans h.1) (by decide)]
   have hpos : True := trivial
   refine ASat.seqP ?_
   refine ASat.regP tys_ok (l := sl1R) sp1R 7 rfl rfl ?_
   repeat' (first | exact trivial | (with_reducible first | exact hpos | exact hts | exact (fun h => absurd (hA.symm.trans h) (by decide))) | refine ⟨?_, ?_⟩ | intro _)
   all_goals first | (with_reducible first | apply qa | apply qb | apply qc | apply qd) | (conv => whnf)
   all_goals first | rfl | omega | exact hts | exact hpos | (exact absurd (hA.symm.trans ‹_›) (by decide)) | skip
   all_goals refine PanOp.call rfl rfl rfl ?_
   all_goals refine PCall.of (x := wrV 3) ?_
   all_goals (conv => whnf)
   all_goals first | exact ⟨fpNeed, rfl⟩ | exact ⟨fpNeedB hA, rfl⟩
 | true =>
   have hpos := nA_pos hA
   cases hB : nB x0 with
   | false =>
     rw [numE_three fun h => absurd (hB.symm.trans h.2.1) (by decide)]
     refine ASat.seqP ?_
     refine ASat.regP tys_ok (l := sl1R) sp1R 7 rfl rfl ?_
     repeat' (first | exact trivial | (with_reducible first | exact hpos | exact hts | exact (fun h => absurd (hA.symm.trans h) (by decide)) | exact (fun h => absurd (hB.symm.trans h) (by decide))) | refine ⟨?_, ?_⟩ | intro _)
     all_goals first | (with_reducible first | apply qa | apply qb | apply qc | apply qd) | (conv => whnf)
     all_goals first | rfl | omega | exact hts | exact hpos | (exact absurd (hA.symm.trans ‹_›) (by decide)) | skip
     all_goals refine PanOp.call rfl rfl rfl ?_
     all_goals refine PCall.of (x := wrV 3) ?_
     all_goals (conv => whnf)
     all_goals first | exact ⟨fpNeed, rfl⟩ | exact ⟨fpNeedB hB, rfl⟩
   | true =>
     refine ASat.seqA tys_ok (l := sl1R) sp1R (by kernel_rfl) ?_
     repeat' (first | exact trivial | (with_reducible first | exact hpos | exact hts | exact (fun h => absurd (hA.symm.trans h) (by decide)) | exact (fun h => absurd (hB.symm.trans h) (by decide))) | refine ⟨?_, ?_⟩ | intro _)
     all_goals first | (with_reducible first | apply qa | apply qb | apply qc | apply qd) | (conv => whnf)
     all_goals first | rfl | omega | exact hts | exact hpos | (exact absurd (hA.symm.trans ‹_›) (by decide)) | skip
     by_cases hCZ : nC x0 = true \/ nZ x0 = true
     . obtain ⟨h4, hno⟩ := numE_four (numE_ne3 hA hB hCZ) hE
       rw [h4]
       cases hC : nC x0 with
       | true =>
         refine ASat.seqA tys_ok (l := sl1R) sp1R (by kernel_rfl) ?_
         repeat' (first | exact trivial | (with_reducible first | exact hpos | exact hts | exact (fun h => absurd (hA.symm.trans h) (by decide)) | exact (fun h => absurd (hB.symm.trans h) (by decide)) | exact (fun h => absurd (hC.symm.trans h) (by decide))) | refine ⟨?_, ?_⟩ | intro _)
         all_goals first | (with_reducible first | apply qa | apply qb | apply qc | apply qd) | (conv => whnf)
         all_goals first | rfl | omega | exact hts | exact hpos | (exact absurd (hA.symm.trans ‹_›) (by decide)) | skip
         refine ASat.seqA tys_ok (l := sl1R) sp1R (by kernel_rfl) ?_
         repeat' (first | exact trivial | refine ⟨?_, ?_⟩ | intro _)
         conv => whnf
         refine acall_atoi hs_ (fun v hv => absurd hv (hno v)) (fun hv n t a => ?_)
         repeat' (first | exact trivial | refine ⟨?_, ?_⟩ | intro _)
         all_goals first | (with_reducible first | apply qa | apply qb | apply qc | apply qd) | (conv => whnf)
         refine ASat.seqP ?_
         refine ASat.seqA tys_ok (l := sl1R) sp1R (by kernel_rfl) ?_
         repeat' (first | exact trivial | refine ⟨?_, ?_⟩ | intro _)
         all_goals first | (with_reducible first | apply qa | apply qb | apply qc | apply qd) | (conv => whnf)
         refine ASat.condP ?_
         repeat' (first | exact trivial | refine ⟨?_, ?_⟩ | intro _)
         all_goals first | exact absurd ‹(!false) = false› (by decide) | skip
         show ASat _ _ _ _ _
         refine panicR (o1 := ?o1) (o2 := ?o2) (o3 := ?o3) (d1 := 31) (d2 := 32) ?_ ?_ ?_ ?_ ?_ ?_ ?_ ?_ ?_ ?_ ?_ (wr_build 4) wr_iface ?_
         all_goals first | rfl | skip
       | false =>
         have hZ : nZ x0 = true := hCZ.resolve_left (by rw [hC]; decide)
         refine ASat.seqA tys_ok (l := sl1R) sp1R (by kernel_rfl) ?_
         repeat' (first | exact trivial | (with_reducible first | exact hpos | exact hts | exact (fun h => absurd (hA.symm.trans h) (by decide)) | exact (fun h => absurd (hB.symm.trans h) (by decide)) | exact (fun h => absurd (hC.symm.trans h) (by decide)) | exact (fun h => absurd (hZ.symm.trans h) (by decide))) | refine ⟨?_, ?_⟩ | intro _)
         all_goals first | (with_reducible first | apply qa | apply qb | apply qc | apply qd) | (conv => whnf)
         all_goals first | rfl | omega | exact hts | exact hpos | (exact absurd (hA.symm.trans ‹_›) (by decide)) | skip
         refine ASat.seqA tys_ok (l := sl1R) sp1R (by kernel_rfl) ?_
         repeat' (first | exact trivial | refine ⟨?_, ?_⟩ | intro _)
         conv => whnf
         refine acall_atoi hs_ (fun v hv => absurd hv (hno v)) (fun hv n t a => ?_)
         repeat' (first | exact trivial | refine ⟨?_, ?_⟩ | intro _)
         all_goals first | (with_reducible first | apply qa | apply qb | apply qc | apply qd) | (conv => whnf)
         refine ASat.seqP ?_
         refine ASat.seqA tys_ok (l := sl1R) sp1R (by kernel_rfl) ?_
         repeat' (first | exact trivial | refine ⟨?_, ?_⟩ | intro _)
         all_goals first | (with_reducible first | apply qa | apply qb | apply qc | apply qd) | (conv => whnf)
         refine ASat.condP ?_
         repeat' (first | exact trivial | refine ⟨?_, ?_⟩ | intro _)
         all_goals first | exact absurd ‹(!false) = false› (by decide) | skip
         show ASat _ _ _ _ _
         refine panicR (o1 := ?o1) (o2 := ?o2) (o3 := ?o3) (d1 := 31) (d2 := 32) ?_ ?_ ?_ ?_ ?_ ?_ ?_ ?_ ?_ ?_ ?_ (wr_build 4) wr_iface ?_
         all_goals first | rfl | skip
     . rw [numE_three fun h => hCZ h.2.2]
       have hC : nC x0 = false := by cases h : nC x0; rfl; exact absurd (.inl h) hCZ
       have hZ : nZ x0 = false := by cases h : nZ x0; rfl; exact absurd (.inr h) hCZ
       refine ASat.seqP ?_
       refine ASat.regP tys_ok (l := sl1R) sp1R 7 rfl rfl ?_
       repeat' (first | exact trivial | (with_reducible first | exact hpos | exact hts | exact (fun h => absurd (hA.symm.trans h) (by decide)) | exact (fun h => absurd (hB.symm.trans h) (by decide)) | exact (fun h => absurd (hC.symm.trans h) (by decide)) | exact (fun h => absurd (hZ.symm.trans h) (by decide))) | refine ⟨?_, ?_⟩ | intro _)
       all_goals first | (with_reducible first | apply qa | apply qb | apply qc | apply qd) | (conv => whnf)
       all_goals first | rfl | omega | exact hts | exact hpos | (exact absurd (hA.symm.trans ‹_›) (by decide)) | skip
       all_goals refine PanOp.call rfl rfl rfl ?_
       all_goals refine PCall.of (x := wrV 3) ?_
       all_goals (conv => whnf)
       all_goals first | exact ⟨fpNeed, rfl⟩ | exact ⟨fpNeedB hZ, rfl⟩
abbrev loS (L : List ByteArray) : ByteArray := (cutS (atS L (Int.toNat 0)) ⟨#[46, 46]⟩).1
abbrev hiS (L : List ByteArray) : ByteArray := (cutS (atS L (Int.toNat 0)) ⟨#[46, 46]⟩).2.1
abbrev i1 (L : List ByteArray) : Bool := (cutS (atS L (Int.toNat 0)) ⟨#[46, 46]⟩).2.2
abbrev i4 (L : List ByteArray) : Bool := decide (numI (loS L) <= numI (hiS L))
abbrev i5a (L : List ByteArray) : Bool := decide ((L.length : Int) < 2)
abbrev i5b (L : List ByteArray) : Bool := !((atS L (Int.toNat 1)).toList == (⟨#[98, 121]⟩ : ByteArray).toList)
abbrev i6 (L : List ByteArray) : Bool := decide ((L.length : Int) ≥ 3)
abbrev i8a (L : List ByteArray) : Bool := numI (atS L (Int.toNat 2)) != 1
abbrev i8b (L : List ByteArray) : Bool := decide (numI (atS L (Int.toNat 2)) ≥ 0)
abbrev i9a (L : List ByteArray) : Bool := decide ((L.length : Int) ≥ 5)
abbrev i9b (L : List ByteArray) : Bool := (atS L (Int.toNat 3)).toList == (⟨#[97, 116]⟩ : ByteArray).toList
abbrev i11a (L : List ByteArray) : Bool := numI (atS L (Int.toNat 2)) == 0
abbrev i11b (L : List ByteArray) : Bool := decide (numI (atS L (Int.toNat 4)) ≥ 0)
abbrev i11c (L : List ByteArray) : Bool := decide (numI (atS L (Int.toNat 4)) < numI (atS L (Int.toNat 2)))
def intsR (L : List ByteArray) : Int × Ig × Nat :=
 if i1 L = false then (0, Ig.zero, 0)
 else if numE (loS L) ≠ 0 then (numE (loS L), Ig.zero, 0)
 else if numE (hiS L) ≠ 0 then (numE (hiS L), Ig.zero, 0)
 else if i4 L = false then (3, Ig.zero, 0)
 else if (i5a L || i5b L) = true then (0, ⟨⟨true, numI (loS L), numI (hiS L)⟩, ⟨true, 1, 0⟩⟩, 1)
 else if i6 L = false then (3, Ig.zero, 0)
 else if numE (atS L (Int.toNat 2)) ≠ 0 then (numE (atS L (Int.toNat 2)), Ig.zero, 0)
 else if (i8a L && i8b L) = false then (3, Ig.zero, 0)
 else if (i9a L && i9b L) = false then (3, Ig.zero, 0)
 else if numE (atS L (Int.toNat 4)) ≠ 0 then (numE (atS L (Int.toNat 4)), Ig.zero, 0)
 else if (i11a L || (i11b L && i11c L)) = false then (3, Ig.zero, 0)
 else (0, ⟨⟨true, numI (loS L), numI (hiS L)⟩, ⟨true, numI (atS L (Int.toNat 2)), numI (atS L (Int.toNat 4))⟩⟩, 5)
abbrev vZc : List Cell := [.d (bo false), .d (it 0), .d (it 0), .d (bo false), .d (it 0), .d (it 0), .d (bo false), .d (.v (.slice none 0 0))]
def lsI (L : List ByteArray) : Nat -> DV
 | 0 => lst L
 | 1 => .lst 1 (Int.toNat ((L.length : Int) - 1)) fun i => (fun i => [st (atS L i)]) (Int.toNat 1 + i)
 | _ => .lst 1 (Int.toNat ((L.length : Int) - 5)) fun i => (fun i => [st (atS L i)]) (Int.toNat 5 + i)
def vIc (g : Ig) : Nat -> List Cell
 | 0 => vZc
 | _ => [.kb true, .d (it g.s.lo), .d (it g.s.hi), .kb true, .d (it g.c.m), .d (it g.c.r), .d (bo false), .d (.v (.slice none 0 0))]
def sI (L : List ByteArray) (n m : Nat) : St := ⟨[(4, .va (.c (.d (lsI L (intsR L).2.2))))], [(0, .cells (vIc (intsR L).2.1 (intsR L).2.2)), (1, .cells [.d (it 0)])], n, m⟩
def qI (L : List ByteArray) : Exit -> St -> Prop
 | .ret, st => (intsR L).1 = 0 /\ normK [4] st fun s => s = sI L s.next s.lim
 | .panic ch, st => ch = [{ v := wrV (intsR L).1, recovered := false }] /\ (intsR L).1 ≠ 0 /\ ∃ cs : List Cell, (normK [] st fun s => s = ⟨[], [(0, .cells cs), (1, .cells [.d (it 0)])], s.next, s.lim⟩) /\ cs.length = 8
 | _, _ => False
abbrev sl2R : List (Nat × Sm) := [(39, ⟨[], FCut⟩), (40, ⟨[], FNumber⟩), (37, ⟨[], FNeed⟩)]
theorem sp2R : sumsOk Tryz.prog sl2R := ⟨fcCut, fcNumber, fcNeed, trivial⟩
theorem ints_walk {L : List ByteArray} (hL : 1 <= L.length) (hsz : ∀ i, (atS L i).size <= 4294967280) (szlo : (loS L).size <= 281474976710656) (szhi : (hiS L).size <= 281474976710656) :
 ASat Tryz.prog 2 (Option.get Tryz.f19.body rfl) ⟨zipN 0 ([.c (.own 0 0), .c (.d (lst L))].map Tm.va), [(1, .cells [.d (it 0)]), (0, .cells vZc)], 2, Tryz.f19.ntmps⟩ (qI L) := by
 have sz0 : (atS L (Int.toNat 0)).size < 4294967281 := by have := hsz (Int.toNat 0); omega
 have hL0 : 0 < (L.length : Int) := by omega
 refine ASat.seqA tys_ok (l := sl2R) sp2R (by kernel_rfl) ?_
 repeat' (first | exact trivial | (with_reducible first | exact szlo | exact szhi | exact sz0 | exact hL0) | refine ⟨?_, ?_⟩ | intro _)
 all_goals first | (with_reducible first | apply qa | apply qb | apply qc | apply qd) | (conv => whnf)
 all_goals first | rfl | omega | (with_reducible assumption) | exact ⟨szlo, ‹_›⟩ | exact ⟨szhi, ‹_›⟩ | skip
 refine ASat.seqA tys_ok (l := sl2R) sp2R (by kernel_rfl) ?_
 repeat' (first | exact trivial | (with_reducible first | exact szlo | exact szhi | exact sz0 | exact hL0) | refine ⟨?_, ?_⟩ | intro _)
 all_goals first | (with_reducible first | apply qa | apply qb | apply qc | apply qd) | (conv => whnf)
 all_goals first | rfl | omega | (with_reducible assumption) | exact ⟨szlo, ‹_›⟩ | exact ⟨szhi, ‹_›⟩ | skip
 by_cases c1 : i1 L = false
 . have tt := c1
   have hR : intsR L = (0, Ig.zero, 0) := by unfold intsR; rw [if_pos tt]
   refine ASat.seqP ?_
   refine ASat.seqA tys_ok (l := sl2R) sp2R (by kernel_rfl) ?_
   repeat' (first | exact trivial | (with_reducible first | exact szlo | exact szhi | exact sz0 | exact hL0 | exact tt | exact (fun h => absurd (tt.symm.trans h) (by decide))) | refine ⟨?_, ?_⟩ | intro _)
   all_goals first | (with_reducible first | apply qa | apply qb | apply qc | apply qd) | (conv => whnf)
   all_goals first | rfl | omega | (with_reducible assumption) | exact ⟨szlo, ‹_›⟩ | exact ⟨szhi, ‹_›⟩ | skip
   refine ASat.condP ?_
   repeat' (first | exact trivial | (with_reducible first | exact (fun h => absurd (tt.symm.trans h) (by decide)) | exact (fun h => absurd ((congrArg Bool.not tt).symm.trans h) (by decide))) | refine ⟨?_, ?_⟩ | intro _)
   show ASat _ _ _ _ _
   refine ASat.vc tys_ok (l := sl2R) sp2R (by kernel_rfl) ?_
   repeat' (first | exact trivial | refine ⟨?_, ?_⟩ | intro _)
   all_goals first | (with_reducible first | apply qa | apply qb | apply qc | apply qd) | (conv => whnf)
   all_goals first | rfl | omega | (with_reducible assumption) | exact ⟨szlo, ‹_›⟩ | exact ⟨szhi, ‹_›⟩ | skip
   all_goals first | (rw [hR]; done) | (unfold sI; rw [hR]; rfl)
 . have n1 := c1
   have h1 : i1 L = true := by cases h : i1 L; exact absurd h n1; rfl
   refine ASat.seqP ?_
   refine ASat.seqA tys_ok (l := sl2R) sp2R (by kernel_rfl) ?_
   repeat' (first | exact trivial | (with_reducible first | exact szlo | exact szhi | exact sz0 | exact hL0 | exact h1 | exact (fun h => absurd (h1.symm.trans h) (by decide))) | refine ⟨?_, ?_⟩ | intro _)
   all_goals first | (with_reducible first | apply qa | apply qb | apply qc | apply qd) | (conv => whnf)
   all_goals first | rfl | omega | (with_reducible assumption) | exact ⟨szlo, ‹_›⟩ | exact ⟨szhi, ‹_›⟩ | skip
   refine ASat.condP ?_
   repeat' (first | exact trivial | (with_reducible first | exact (fun h => absurd (h1.symm.trans h) (by decide)) | exact (fun h => absurd ((congrArg Bool.not h1).symm.trans h) (by decide))) | refine ⟨?_, ?_⟩ | intro _)
   show ASat _ _ _ _ _
   refine ASat.vc tys_ok (l := sl2R) sp2R (by kernel_rfl) ?_
   (conv => whnf)
   by_cases c2 : numE (loS L) ≠ 0
   . have tt := c2
     have hR : intsR L = (numE (loS L), Ig.zero, 0) := by unfold intsR; rw [if_neg n1, if_pos tt]
     refine ASat.seqP ?_
     refine ASat.regP tys_ok (l := sl2R) sp2R 2 rfl rfl ?_
     repeat' (first | exact trivial | (with_reducible first | exact szlo | exact szhi | exact sz0 | exact hL0 | exact h1 | exact (fun h => absurd (h1.symm.trans h) (by decide))) | refine ⟨?_, ?_⟩ | intro _)
     all_goals first | (with_reducible first | apply qa | apply qb | apply qc | apply qd) | (conv => whnf)
     all_goals first | rfl | omega | (with_reducible assumption) | exact ⟨szlo, ‹_›⟩ | exact ⟨szhi, ‹_›⟩ | skip
     all_goals refine PanOp.call rfl rfl rfl ?_
     all_goals refine PCall.of (x := wrV (numE (loS L))) ?_
     all_goals (conv => whnf)
     refine ⟨fpNumber szlo tt, ?_⟩
     show qI L (.panic _) _
     unfold qI
     rw [hR]
     exact ⟨rfl, tt, _, rfl, rfl⟩
   . have n2 := c2
     have e2 : numE (loS L) = 0 := Decidable.of_not_not n2
     by_cases c3 : numE (hiS L) ≠ 0
     . have tt := c3
       have hR : intsR L = (numE (hiS L), Ig.zero, 0) := by unfold intsR; rw [if_neg n1, if_neg n2, if_pos tt]
       refine ASat.seqP ?_
       refine ASat.regP tys_ok (l := sl2R) sp2R 4 rfl rfl ?_
       repeat' (first | exact trivial | (with_reducible first | exact szlo | exact szhi | exact sz0 | exact hL0 | exact h1 | exact e2 | exact (fun h => absurd (h1.symm.trans h) (by decide)) | exact (fun h => absurd (e2.symm.trans h) (by decide))) | refine ⟨?_, ?_⟩ | intro _)
       all_goals first | (with_reducible first | apply qa | apply qb | apply qc | apply qd) | (conv => whnf)
       all_goals first | rfl | omega | (with_reducible assumption) | exact ⟨szlo, ‹_›⟩ | exact ⟨szhi, ‹_›⟩ | skip
       all_goals refine PanOp.call rfl rfl rfl ?_
       all_goals refine PCall.of (x := wrV (numE (hiS L))) ?_
       all_goals (conv => whnf)
       refine ⟨fpNumber szhi tt, ?_⟩
       show qI L (.panic _) _
       unfold qI
       rw [hR]
       exact ⟨rfl, tt, _, rfl, rfl⟩
     . have n3 := c3
       have e3 : numE (hiS L) = 0 := Decidable.of_not_not n3
       refine ASat.seqA tys_ok (l := sl2R) sp2R (by kernel_rfl) ?_
       repeat' (first | exact trivial | (with_reducible first | exact szlo | exact szhi | exact sz0 | exact hL0 | exact h1 | exact e2 | exact e3 | exact (fun h => absurd (h1.symm.trans h) (by decide)) | exact (fun h => absurd (e2.symm.trans h) (by decide)) | exact (fun h => absurd (e3.symm.trans h) (by decide))) | refine ⟨?_, ?_⟩ | intro _)
       all_goals first | (with_reducible first | apply qa | apply qb | apply qc | apply qd) | (conv => whnf)
       all_goals first | rfl | omega | (with_reducible assumption) | exact ⟨szlo, ‹_›⟩ | exact ⟨szhi, ‹_›⟩ | skip
       by_cases c4 : i4 L = false
       . have tt := c4
         have hR : intsR L = (3, Ig.zero, 0) := by unfold intsR; rw [if_neg n1, if_neg n2, if_neg n3, if_pos tt]
         refine ASat.seqP ?_
         refine draw_pan tys_ok (l := sl2R) sp2R (by kernel_rfl) [{ v := wrV 3, recovered := false }] 11 rfl rfl (by kernel_rfl) rfl ?_
         repeat' (first | exact trivial | (with_reducible first | exact szlo | exact szhi | exact sz0 | exact hL0 | exact h1 | exact e2 | exact e3 | exact tt | exact (fun h => absurd (h1.symm.trans h) (by decide)) | exact (fun h => absurd (e2.symm.trans h) (by decide)) | exact (fun h => absurd (e3.symm.trans h) (by decide)) | exact (fun h => absurd (tt.symm.trans h) (by decide))) | refine ⟨?_, ?_⟩ | intro _)
         all_goals first | (with_reducible first | apply qa | apply qb | apply qc | apply qd) | (conv => whnf)
         all_goals first | rfl | omega | (with_reducible assumption) | exact ⟨szlo, ‹_›⟩ | exact ⟨szhi, ‹_›⟩ | skip
         all_goals refine PanOp.call rfl rfl rfl ?_
         all_goals refine PCall.of (x := wrV (3)) ?_
         all_goals (conv => whnf)
         refine ⟨fpNeedB tt, rfl, ?_⟩
         show qI L (.panic _) _
         unfold qI
         rw [hR]
         exact ⟨rfl, (by decide), _, rfl, rfl⟩
       . have n4 := c4
         have h4 : i4 L = true := by cases h : i4 L; exact absurd h n4; rfl
         refine ASat.seqA tys_ok (l := sl2R) sp2R (by kernel_rfl) ?_
         repeat' (first | exact trivial | (with_reducible first | exact szlo | exact szhi | exact sz0 | exact hL0 | exact h1 | exact h4 | exact (fun h => absurd (h1.symm.trans h) (by decide)) | exact (fun h => absurd (h4.symm.trans h) (by decide))) | refine ⟨?_, ?_⟩ | intro _)
         all_goals first | (with_reducible first | apply qa | apply qb | apply qc | apply qd) | (conv => whnf)
         all_goals first | rfl | omega | (with_reducible assumption) | exact ⟨szlo, ‹_›⟩ | exact ⟨szhi, ‹_›⟩ | skip
         refine ASat.seqA tys_ok (l := sl2R) sp2R (by kernel_rfl) ?_
         repeat' (first | exact trivial | (with_reducible first | exact szlo | exact szhi | exact sz0 | exact hL0 | exact h1 | exact h4 | exact (fun h => absurd (h1.symm.trans h) (by decide)) | exact (fun h => absurd (h4.symm.trans h) (by decide))) | refine ⟨?_, ?_⟩ | intro _)
         all_goals first | (with_reducible first | apply qa | apply qb | apply qc | apply qd) | (conv => whnf)
         all_goals first | rfl | omega | (with_reducible assumption) | exact ⟨szlo, ‹_›⟩ | exact ⟨szhi, ‹_›⟩ | skip
         by_cases c5 : (i5a L || i5b L) = true
         . have tt := c5
           have hR : intsR L = (0, ⟨⟨true, numI (loS L), numI (hiS L)⟩, ⟨true, 1, 0⟩⟩, 1) := by unfold intsR; rw [if_neg n1, if_neg n2, if_neg n3, if_neg n4, if_pos tt]
           cases h5a : i5a L with
           | true =>
             refine ASat.seqP ?_
             refine ASat.seqA tys_ok (l := sl2R) sp2R (by kernel_rfl) ?_
             repeat' (first | exact trivial | (with_reducible first | exact szlo | exact szhi | exact sz0 | exact hL0 | exact h1 | exact h4 | exact h5a | exact (fun h => absurd (h1.symm.trans h) (by decide)) | exact (fun h => absurd (h4.symm.trans h) (by decide)) | exact (fun h => absurd (h5a.symm.trans h) (by decide))) | refine ⟨?_, ?_⟩ | intro _)
             all_goals first | (with_reducible first | apply qa | apply qb | apply qc | apply qd) | (conv => whnf)
             all_goals first | rfl | omega | (with_reducible assumption) | exact ⟨szlo, ‹_›⟩ | exact ⟨szhi, ‹_›⟩ | skip
             refine ASat.condP ?_
             repeat' (first | exact trivial | (with_reducible first | exact (fun h => absurd (h5a.symm.trans h) (by decide)) | exact (fun h => absurd ((congrArg Bool.not h5a).symm.trans h) (by decide))) | refine ⟨?_, ?_⟩ | intro _)
             show ASat _ _ _ _ _
             refine ASat.vc tys_ok (l := sl2R) sp2R (by kernel_rfl) ?_
             repeat' (first | exact trivial | refine ⟨?_, ?_⟩ | intro _)
             all_goals first | (with_reducible first | apply qa | apply qb | apply qc | apply qd) | (conv => whnf)
             all_goals first | rfl | omega | (with_reducible assumption) | exact ⟨szlo, ‹_›⟩ | exact ⟨szhi, ‹_›⟩ | skip
             all_goals first | (rw [hR]; done) | (unfold sI; rw [hR]; rfl)
           | false =>
             have hL1 : 1 < (L.length : Int) := by have := of_decide_eq_false h5a; omega
             have h5b : i5b L = true := by rw [h5a] at tt; exact tt
             refine ASat.seqP ?_
             refine ASat.seqA tys_ok (l := sl2R) sp2R (by kernel_rfl) ?_
             repeat' (first | exact trivial | (with_reducible first | exact szlo | exact szhi | exact sz0 | exact hL0 | exact h1 | exact h4 | exact h5a | exact h5b | exact (fun h => absurd (h1.symm.trans h) (by decide)) | exact (fun h => absurd (h4.symm.trans h) (by decide)) | exact (fun h => absurd (h5a.symm.trans h) (by decide)) | exact (fun h => absurd (h5b.symm.trans h) (by decide))) | refine ⟨?_, ?_⟩ | intro _)
             all_goals first | (with_reducible first | apply qa | apply qb | apply qc | apply qd) | (conv => whnf)
             all_goals first | rfl | omega | (with_reducible assumption) | exact ⟨szlo, ‹_›⟩ | exact ⟨szhi, ‹_›⟩ | skip
             refine ASat.condP ?_
             repeat' (first | exact trivial | (with_reducible first | exact (fun h => absurd (h5a.symm.trans h) (by decide)) | exact (fun h => absurd (h5b.symm.trans h) (by decide)) | exact (fun h => absurd ((congrArg Bool.not h5a).symm.trans h) (by decide)) | exact (fun h => absurd ((congrArg Bool.not h5b).symm.trans h) (by decide))) | refine ⟨?_, ?_⟩ | intro _)
             show ASat _ _ _ _ _
             refine ASat.vc tys_ok (l := sl2R) sp2R (by kernel_rfl) ?_
             repeat' (first | exact trivial | refine ⟨?_, ?_⟩ | intro _)
             all_goals first | (with_reducible first | apply qa | apply qb | apply qc | apply qd) | (conv => whnf)
             all_goals first | rfl | omega | (with_reducible assumption) | exact ⟨szlo, ‹_›⟩ | exact ⟨szhi, ‹_›⟩ | skip
             all_goals first | (rw [hR]; done) | (unfold sI; rw [hR]; rfl)
         . have n5 := c5
           have h5a : i5a L = false := by cases h : i5a L; rfl; exact absurd (by rw [h]; rfl) n5
           have hL1 : 1 < (L.length : Int) := by have := of_decide_eq_false h5a; omega
           have h5b : i5b L = false := by cases h : i5b L; rfl; exact absurd (by rw [h5a, h]; rfl) n5
           refine ASat.seqP ?_
           refine ASat.seqA tys_ok (l := sl2R) sp2R (by kernel_rfl) ?_
           repeat' (first | exact trivial | (with_reducible first | exact szlo | exact szhi | exact sz0 | exact hL0 | exact h1 | exact h4 | exact h5a | exact h5b | exact (fun h => absurd (h1.symm.trans h) (by decide)) | exact (fun h => absurd (h4.symm.trans h) (by decide)) | exact (fun h => absurd (h5a.symm.trans h) (by decide)) | exact (fun h => absurd (h5b.symm.trans h) (by decide))) | refine ⟨?_, ?_⟩ | intro _)
           all_goals first | (with_reducible first | apply qa | apply qb | apply qc | apply qd) | (conv => whnf)
           all_goals first | rfl | omega | (with_reducible assumption) | exact ⟨szlo, ‹_›⟩ | exact ⟨szhi, ‹_›⟩ | skip
           refine ASat.condP ?_
           repeat' (first | exact trivial | (with_reducible first | exact (fun h => absurd (h5a.symm.trans h) (by decide)) | exact (fun h => absurd (h5b.symm.trans h) (by decide)) | exact (fun h => absurd ((congrArg Bool.not h5a).symm.trans h) (by decide)) | exact (fun h => absurd ((congrArg Bool.not h5b).symm.trans h) (by decide))) | refine ⟨?_, ?_⟩ | intro _)
           show ASat _ _ _ _ _
           refine ASat.vc tys_ok (l := sl2R) sp2R (by kernel_rfl) ?_
           (conv => whnf)
           by_cases c6 : i6 L = false
           . have tt := c6
             have hR : intsR L = (3, Ig.zero, 0) := by unfold intsR; rw [if_neg n1, if_neg n2, if_neg n3, if_neg n4, if_neg n5, if_pos tt]
             refine ASat.seqP ?_
             refine ASat.regP tys_ok (l := sl2R) sp2R 3 rfl rfl ?_
             repeat' (first | exact trivial | (with_reducible first | exact szlo | exact szhi | exact sz0 | exact hL0 | exact tt | exact (fun h => absurd (tt.symm.trans h) (by decide))) | refine ⟨?_, ?_⟩ | intro _)
             all_goals first | (with_reducible first | apply qa | apply qb | apply qc | apply qd) | (conv => whnf)
             all_goals first | rfl | omega | (with_reducible assumption) | exact ⟨szlo, ‹_›⟩ | exact ⟨szhi, ‹_›⟩ | skip
             all_goals refine PanOp.call rfl rfl rfl ?_
             all_goals refine PCall.of (x := wrV (3)) ?_
             all_goals (conv => whnf)
             refine ⟨fpNeedB tt, ?_⟩
             show qI L (.panic _) _
             unfold qI
             rw [hR]
             exact ⟨rfl, (by decide), _, rfl, rfl⟩
           . have n6 := c6
             have h6 : i6 L = true := by cases h : i6 L; exact absurd h n6; rfl
             refine ASat.seqA tys_ok (l := sl2R) sp2R (by kernel_rfl) ?_
             repeat' (first | exact trivial | (with_reducible first | exact szlo | exact szhi | exact sz0 | exact hL0 | exact h6 | exact (fun h => absurd (h6.symm.trans h) (by decide))) | refine ⟨?_, ?_⟩ | intro _)
             all_goals first | (with_reducible first | apply qa | apply qb | apply qc | apply qd) | (conv => whnf)
             all_goals first | rfl | omega | (with_reducible assumption) | exact ⟨szlo, ‹_›⟩ | exact ⟨szhi, ‹_›⟩ | skip
             have hL2 : 2 < (L.length : Int) := by have := of_decide_eq_true h6; omega
             have sz2 : (atS L (Int.toNat 2)).size <= 281474976710656 := by have := hsz (Int.toNat 2); omega
             by_cases c7 : numE (atS L (Int.toNat 2)) ≠ 0
             . have tt := c7
               have hR : intsR L = (numE (atS L (Int.toNat 2)), Ig.zero, 0) := by unfold intsR; rw [if_neg n1, if_neg n2, if_neg n3, if_neg n4, if_neg n5, if_neg n6, if_pos tt]
               refine ASat.seqP ?_
               refine ASat.regP tys_ok (l := sl2R) sp2R 4 rfl rfl ?_
               repeat' (first | exact trivial | (with_reducible first | exact szlo | exact szhi | exact sz0 | exact hL0 | exact hL2 | exact sz2 | exact (fun h => absurd (hL2.symm.trans h) (by decide)) | exact (fun h => absurd (sz2.symm.trans h) (by decide))) | refine ⟨?_, ?_⟩ | intro _)
               all_goals first | (with_reducible first | apply qa | apply qb | apply qc | apply qd) | (conv => whnf)
               all_goals first | rfl | omega | (with_reducible assumption) | exact ⟨szlo, ‹_›⟩ | exact ⟨szhi, ‹_›⟩ | skip
               all_goals refine PanOp.call rfl rfl rfl ?_
               all_goals refine PCall.of (x := wrV (numE (atS L (Int.toNat 2)))) ?_
               all_goals (conv => whnf)
               refine ⟨fpNumber sz2 tt, ?_⟩
               show qI L (.panic _) _
               unfold qI
               rw [hR]
               exact ⟨rfl, tt, _, rfl, rfl⟩
             . have n7 := c7
               have e7 : numE (atS L (Int.toNat 2)) = 0 := Decidable.of_not_not n7
               have q7 := And.intro sz2 e7
               refine ASat.seqA tys_ok (l := sl2R) sp2R (by kernel_rfl) ?_
               repeat' (first | exact trivial | (with_reducible first | exact szlo | exact szhi | exact sz0 | exact hL0 | exact hL2 | exact sz2 | exact e7 | exact q7 | exact (fun h => absurd (hL2.symm.trans h) (by decide)) | exact (fun h => absurd (sz2.symm.trans h) (by decide)) | exact (fun h => absurd (e7.symm.trans h) (by decide)) | exact (fun h => absurd (q7.symm.trans h) (by decide))) | refine ⟨?_, ?_⟩ | intro _)
               all_goals first | (with_reducible first | apply qa | apply qb | apply qc | apply qd) | (conv => whnf)
               all_goals first | rfl | omega | (with_reducible assumption) | exact ⟨szlo, ‹_›⟩ | exact ⟨szhi, ‹_›⟩ | skip
               cases h8a : i8a L with
               | false =>
                 have tt : (i8a L && i8b L) = false := by rw [h8a]; rfl
                 have hR : intsR L = (3, Ig.zero, 0) := by unfold intsR; rw [if_neg n1, if_neg n2, if_neg n3, if_neg n4, if_neg n5, if_neg n6, if_neg n7, if_pos tt]
                 refine ASat.seqP ?_
                 refine ASat.regP tys_ok (l := sl2R) sp2R 14 rfl rfl ?_
                 repeat' (first | exact trivial | (with_reducible first | exact szlo | exact szhi | exact sz0 | exact hL0 | exact h8a | exact (fun h => absurd (h8a.symm.trans h) (by decide))) | refine ⟨?_, ?_⟩ | intro _)
                 all_goals first | (with_reducible first | apply qa | apply qb | apply qc | apply qd) | (conv => whnf)
                 all_goals first | rfl | omega | (with_reducible assumption) | exact ⟨szlo, ‹_›⟩ | exact ⟨szhi, ‹_›⟩ | skip
                 all_goals refine PanOp.call rfl rfl rfl ?_
                 all_goals refine PCall.of (x := wrV (3)) ?_
                 all_goals (conv => whnf)
                 refine ⟨fpNeed, ?_⟩
                 show qI L (.panic _) _
                 unfold qI
                 rw [hR]
                 exact ⟨rfl, (by decide), _, rfl, rfl⟩
               | true =>
                 cases h8b : i8b L with
                 | false =>
                   have tt : (i8a L && i8b L) = false := by rw [h8a, h8b]; rfl
                   have hR : intsR L = (3, Ig.zero, 0) := by unfold intsR; rw [if_neg n1, if_neg n2, if_neg n3, if_neg n4, if_neg n5, if_neg n6, if_neg n7, if_pos tt]
                   refine ASat.seqP ?_
                   refine ASat.regP tys_ok (l := sl2R) sp2R 14 rfl rfl ?_
                   repeat' (first | exact trivial | (with_reducible first | exact szlo | exact szhi | exact sz0 | exact hL0 | exact h8a | exact h8b | exact (fun h => absurd (h8a.symm.trans h) (by decide)) | exact (fun h => absurd (h8b.symm.trans h) (by decide))) | refine ⟨?_, ?_⟩ | intro _)
                   all_goals first | (with_reducible first | apply qa | apply qb | apply qc | apply qd) | (conv => whnf)
                   all_goals first | rfl | omega | (with_reducible assumption) | exact ⟨szlo, ‹_›⟩ | exact ⟨szhi, ‹_›⟩ | skip
                   all_goals refine PanOp.call rfl rfl rfl ?_
                   all_goals refine PCall.of (x := wrV (3)) ?_
                   all_goals (conv => whnf)
                   refine ⟨fpNeedB h8b, ?_⟩
                   show qI L (.panic _) _
                   unfold qI
                   rw [hR]
                   exact ⟨rfl, (by decide), _, rfl, rfl⟩
                 | true =>
                   have n8 : ¬ (i8a L && i8b L) = false := by rw [h8a, h8b]; decide
                   refine ASat.seqA tys_ok (l := sl2R) sp2R (by kernel_rfl) ?_
                   repeat' (first | exact trivial | (with_reducible first | exact szlo | exact szhi | exact sz0 | exact hL0 | exact h8a | exact h8b | exact (fun h => absurd (h8a.symm.trans h) (by decide)) | exact (fun h => absurd (h8b.symm.trans h) (by decide))) | refine ⟨?_, ?_⟩ | intro _)
                   all_goals first | (with_reducible first | apply qa | apply qb | apply qc | apply qd) | (conv => whnf)
                   all_goals first | rfl | omega | (with_reducible assumption) | exact ⟨szlo, ‹_›⟩ | exact ⟨szhi, ‹_›⟩ | skip
                   cases h9a : i9a L with
                   | false =>
                     have tt : (i9a L && i9b L) = false := by rw [h9a]; rfl
                     have hR : intsR L = (3, Ig.zero, 0) := by unfold intsR; rw [if_neg n1, if_neg n2, if_neg n3, if_neg n4, if_neg n5, if_neg n6, if_neg n7, if_neg n8, if_pos tt]
                     refine ASat.seqP ?_
                     refine ASat.regP tys_ok (l := sl2R) sp2R 9 rfl rfl ?_
                     repeat' (first | exact trivial | (with_reducible first | exact szlo | exact szhi | exact sz0 | exact hL0 | exact h9a | exact (fun h => absurd (h9a.symm.trans h) (by decide))) | refine ⟨?_, ?_⟩ | intro _)
                     all_goals first | (with_reducible first | apply qa | apply qb | apply qc | apply qd) | (conv => whnf)
                     all_goals first | rfl | omega | (with_reducible assumption) | exact ⟨szlo, ‹_›⟩ | exact ⟨szhi, ‹_›⟩ | skip
                     all_goals refine PanOp.call rfl rfl rfl ?_
                     all_goals refine PCall.of (x := wrV (3)) ?_
                     all_goals (conv => whnf)
                     refine ⟨fpNeed, ?_⟩
                     show qI L (.panic _) _
                     unfold qI
                     rw [hR]
                     exact ⟨rfl, (by decide), _, rfl, rfl⟩
                   | true =>
                     cases h9b : i9b L with
                     | false =>
                       have tt : (i9a L && i9b L) = false := by rw [h9a, h9b]; rfl
                       have hR : intsR L = (3, Ig.zero, 0) := by unfold intsR; rw [if_neg n1, if_neg n2, if_neg n3, if_neg n4, if_neg n5, if_neg n6, if_neg n7, if_neg n8, if_pos tt]
                       have hL4 : 4 < (L.length : Int) := by have := of_decide_eq_true h9a; omega
                       have hL3 : 3 < (L.length : Int) := by omega
                       refine ASat.seqP ?_
                       refine ASat.regP tys_ok (l := sl2R) sp2R 9 rfl rfl ?_
                       repeat' (first | exact trivial | (with_reducible first | exact szlo | exact szhi | exact sz0 | exact hL0 | exact h9a | exact h9b | exact hL3 | exact (fun h => absurd (h9a.symm.trans h) (by decide)) | exact (fun h => absurd (h9b.symm.trans h) (by decide)) | exact (fun h => absurd (hL3.symm.trans h) (by decide))) | refine ⟨?_, ?_⟩ | intro _)
                       all_goals first | (with_reducible first | apply qa | apply qb | apply qc | apply qd) | (conv => whnf)
                       all_goals first | rfl | omega | (with_reducible assumption) | exact ⟨szlo, ‹_›⟩ | exact ⟨szhi, ‹_›⟩ | skip
                       all_goals refine PanOp.call rfl rfl rfl ?_
                       all_goals refine PCall.of (x := wrV (3)) ?_
                       all_goals (conv => whnf)
                       refine ⟨fpNeedB h9b, ?_⟩
                       show qI L (.panic _) _
                       unfold qI
                       rw [hR]
                       exact ⟨rfl, (by decide), _, rfl, rfl⟩
                     | true =>
                       have n9 : ¬ (i9a L && i9b L) = false := by rw [h9a, h9b]; decide
                       have hL4 : 4 < (L.length : Int) := by have := of_decide_eq_true h9a; omega
                       have hL3 : 3 < (L.length : Int) := by omega
                       refine ASat.seqA tys_ok (l := sl2R) sp2R (by kernel_rfl) ?_
                       repeat' (first | exact trivial | (with_reducible first | exact szlo | exact szhi | exact sz0 | exact hL0 | exact h9a | exact h9b | exact hL3 | exact (fun h => absurd (h9a.symm.trans h) (by decide)) | exact (fun h => absurd (h9b.symm.trans h) (by decide)) | exact (fun h => absurd (hL3.symm.trans h) (by decide))) | refine ⟨?_, ?_⟩ | intro _)
                       all_goals first | (with_reducible first | apply qa | apply qb | apply qc | apply qd) | (conv => whnf)
                       all_goals first | rfl | omega | (with_reducible assumption) | exact ⟨szlo, ‹_›⟩ | exact ⟨szhi, ‹_›⟩ | skip
                       have sz4 : (atS L (Int.toNat 4)).size <= 281474976710656 := by have := hsz (Int.toNat 4); omega
                       by_cases c10 : numE (atS L (Int.toNat 4)) ≠ 0
                       . have tt := c10
                         have hR : intsR L = (numE (atS L (Int.toNat 4)), Ig.zero, 0) := by unfold intsR; rw [if_neg n1, if_neg n2, if_neg n3, if_neg n4, if_neg n5, if_neg n6, if_neg n7, if_neg n8, if_neg n9, if_pos tt]
                         refine ASat.seqP ?_
                         refine ASat.regP tys_ok (l := sl2R) sp2R 4 rfl rfl ?_
                         repeat' (first | exact trivial | (with_reducible first | exact szlo | exact szhi | exact sz0 | exact hL0 | exact hL4 | exact sz4 | exact (fun h => absurd (hL4.symm.trans h) (by decide)) | exact (fun h => absurd (sz4.symm.trans h) (by decide))) | refine ⟨?_, ?_⟩ | intro _)
                         all_goals first | (with_reducible first | apply qa | apply qb | apply qc | apply qd) | (conv => whnf)
                         all_goals first | rfl | omega | (with_reducible assumption) | exact ⟨szlo, ‹_›⟩ | exact ⟨szhi, ‹_›⟩ | skip
                         all_goals refine PanOp.call rfl rfl rfl ?_
                         all_goals refine PCall.of (x := wrV (numE (atS L (Int.toNat 4)))) ?_
                         all_goals (conv => whnf)
                         refine ⟨fpNumber sz4 tt, ?_⟩
                         show qI L (.panic _) _
                         unfold qI
                         rw [hR]
                         exact ⟨rfl, tt, _, rfl, rfl⟩
                       . have n10 := c10
                         have e10 : numE (atS L (Int.toNat 4)) = 0 := Decidable.of_not_not n10
                         have q10 := And.intro sz4 e10
                         refine ASat.seqA tys_ok (l := sl2R) sp2R (by kernel_rfl) ?_
                         repeat' (first | exact trivial | (with_reducible first | exact szlo | exact szhi | exact sz0 | exact hL0 | exact hL4 | exact sz4 | exact e10 | exact q10 | exact (fun h => absurd (hL4.symm.trans h) (by decide)) | exact (fun h => absurd (sz4.symm.trans h) (by decide)) | exact (fun h => absurd (e10.symm.trans h) (by decide)) | exact (fun h => absurd (q10.symm.trans h) (by decide))) | refine ⟨?_, ?_⟩ | intro _)
                         all_goals first | (with_reducible first | apply qa | apply qb | apply qc | apply qd) | (conv => whnf)
                         all_goals first | rfl | omega | (with_reducible assumption) | exact ⟨szlo, ‹_›⟩ | exact ⟨szhi, ‹_›⟩ | skip
                         cases h11a : i11a L with
                         | true =>
                           have n11 : ¬ (i11a L || (i11b L && i11c L)) = false := by rw [h11a]; simp only [Bool.true_or]; decide
                           have hR : intsR L = (0, ⟨⟨true, numI (loS L), numI (hiS L)⟩, ⟨true, numI (atS L (Int.toNat 2)), numI (atS L (Int.toNat 4))⟩⟩, 5) := by unfold intsR; rw [if_neg n1, if_neg n2, if_neg n3, if_neg n4, if_neg n5, if_neg n6, if_neg n7, if_neg n8, if_neg n9, if_neg n10, if_neg n11]
                           refine ASat.seqA tys_ok (l := sl2R) sp2R (by kernel_rfl) ?_
                           repeat' (first | exact trivial | (with_reducible first | exact szlo | exact szhi | exact sz0 | exact hL0 | exact h11a | exact (fun h => absurd (h11a.symm.trans h) (by decide))) | refine ⟨?_, ?_⟩ | intro _)
                           all_goals first | (with_reducible first | apply qa | apply qb | apply qc | apply qd) | (conv => whnf)
                           all_goals first | rfl | omega | (with_reducible assumption) | exact ⟨szlo, ‹_›⟩ | exact ⟨szhi, ‹_›⟩ | skip
                           show ASat _ _ _ _ _
                           have hL5 : 5 <= (L.length : Int) := by omega
                           refine ASat.vc tys_ok (l := sl2R) sp2R (by kernel_rfl) ?_
                           repeat' (first | exact trivial | refine ⟨?_, ?_⟩ | intro _)
                           all_goals first | (with_reducible first | apply qa | apply qb | apply qc | apply qd) | (conv => whnf)
                           all_goals first | rfl | omega | (with_reducible assumption) | exact ⟨szlo, ‹_›⟩ | exact ⟨szhi, ‹_›⟩ | skip
                           all_goals first | (rw [hR]; done) | (unfold sI; rw [hR]; rfl)
                         | false =>
                           cases h11b : i11b L with
                           | false =>
                             have tt : (i11a L || (i11b L && i11c L)) = false := by rw [h11a, h11b]; rfl
                             have hR : intsR L = (3, Ig.zero, 0) := by unfold intsR; rw [if_neg n1, if_neg n2, if_neg n3, if_neg n4, if_neg n5, if_neg n6, if_neg n7, if_neg n8, if_neg n9, if_neg n10, if_pos tt]
                             refine ASat.seqP ?_
                             refine draw_pan tys_ok (l := sl2R) sp2R (by kernel_rfl) [{ v := wrV 3, recovered := false }] 27 rfl rfl (by kernel_rfl) rfl ?_
                             repeat' (first | exact trivial | (with_reducible first | exact szlo | exact szhi | exact sz0 | exact hL0 | exact h11a | exact h11b | exact (fun h => absurd (h11a.symm.trans h) (by decide)) | exact (fun h => absurd (h11b.symm.trans h) (by decide))) | refine ⟨?_, ?_⟩ | intro _)
                             all_goals first | (with_reducible first | apply qa | apply qb | apply qc | apply qd) | (conv => whnf)
                             all_goals first | rfl | omega | (with_reducible assumption) | exact ⟨szlo, ‹_›⟩ | exact ⟨szhi, ‹_›⟩ | skip
                             all_goals refine PanOp.call rfl rfl rfl ?_
                             all_goals refine PCall.of (x := wrV (3)) ?_
                             all_goals (conv => whnf)
                             refine ⟨fpNeed, rfl, ?_⟩
                             show qI L (.panic _) _
                             unfold qI
                             rw [hR]
                             exact ⟨rfl, (by decide), _, rfl, rfl⟩
                           | true =>
                             cases h11c : i11c L with
                             | false =>
                               have tt : (i11a L || (i11b L && i11c L)) = false := by rw [h11a, h11b, h11c]; rfl
                               have hR : intsR L = (3, Ig.zero, 0) := by unfold intsR; rw [if_neg n1, if_neg n2, if_neg n3, if_neg n4, if_neg n5, if_neg n6, if_neg n7, if_neg n8, if_neg n9, if_neg n10, if_pos tt]
                               refine ASat.seqP ?_
                               refine draw_pan tys_ok (l := sl2R) sp2R (by kernel_rfl) [{ v := wrV 3, recovered := false }] 27 rfl rfl (by kernel_rfl) rfl ?_
                               repeat' (first | exact trivial | (with_reducible first | exact szlo | exact szhi | exact sz0 | exact hL0 | exact h11a | exact h11b | exact h11c | exact (fun h => absurd (h11a.symm.trans h) (by decide)) | exact (fun h => absurd (h11b.symm.trans h) (by decide)) | exact (fun h => absurd (h11c.symm.trans h) (by decide))) | refine ⟨?_, ?_⟩ | intro _)
                               all_goals first | (with_reducible first | apply qa | apply qb | apply qc | apply qd) | (conv => whnf)
                               all_goals first | rfl | omega | (with_reducible assumption) | exact ⟨szlo, ‹_›⟩ | exact ⟨szhi, ‹_›⟩ | skip
                               all_goals refine PanOp.call rfl rfl rfl ?_
                               all_goals refine PCall.of (x := wrV (3)) ?_
                               all_goals (conv => whnf)
                               refine ⟨fpNeedB h11c, rfl, ?_⟩
                               show qI L (.panic _) _
                               unfold qI
                               rw [hR]
                               exact ⟨rfl, (by decide), _, rfl, rfl⟩
                             | true =>
                               have n11 : ¬ (i11a L || (i11b L && i11c L)) = false := by rw [h11a, h11b, h11c]; decide
                               have hR : intsR L = (0, ⟨⟨true, numI (loS L), numI (hiS L)⟩, ⟨true, numI (atS L (Int.toNat 2)), numI (atS L (Int.toNat 4))⟩⟩, 5) := by unfold intsR; rw [if_neg n1, if_neg n2, if_neg n3, if_neg n4, if_neg n5, if_neg n6, if_neg n7, if_neg n8, if_neg n9, if_neg n10, if_neg n11]
                               refine ASat.seqA tys_ok (l := sl2R) sp2R (by kernel_rfl) ?_
                               repeat' (first | exact trivial | (with_reducible first | exact szlo | exact szhi | exact sz0 | exact hL0 | exact h11a | exact h11b | exact h11c | exact (fun h => absurd (h11a.symm.trans h) (by decide)) | exact (fun h => absurd (h11b.symm.trans h) (by decide)) | exact (fun h => absurd (h11c.symm.trans h) (by decide))) | refine ⟨?_, ?_⟩ | intro _)
                               all_goals first | (with_reducible first | apply qa | apply qb | apply qc | apply qd) | (conv => whnf)
                               all_goals first | rfl | omega | (with_reducible assumption) | exact ⟨szlo, ‹_›⟩ | exact ⟨szhi, ‹_›⟩ | skip
                               show ASat _ _ _ _ _
                               have hL5 : 5 <= (L.length : Int) := by omega
                               refine ASat.vc tys_ok (l := sl2R) sp2R (by kernel_rfl) ?_
                               repeat' (first | exact trivial | refine ⟨?_, ?_⟩ | intro _)
                               all_goals first | (with_reducible first | apply qa | apply qb | apply qc | apply qd) | (conv => whnf)
                               all_goals first | rfl | omega | (with_reducible assumption) | exact ⟨szlo, ‹_›⟩ | exact ⟨szhi, ‹_›⟩ | skip
                               all_goals first | (rw [hR]; done) | (unfold sI; rw [hR]; rfl)
end Go.Proofs.YtakcacejpbiogaaGreatDoor
