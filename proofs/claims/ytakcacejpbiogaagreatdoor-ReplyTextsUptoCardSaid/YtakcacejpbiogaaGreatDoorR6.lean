/- What more functions of the layer of values compute. No condition. -/
import Derived.Test.YtakcacejpbiogaaGreatDoorR5
import Derived.Lib.Bytealg
import Derived.Shelf.Small.Strs
set_option linter.all false
set_option maxHeartbeats 8000000
set_option maxRecDepth 100000
namespace Go.Proofs.YtakcacejpbiogaaGreatDoor
open Go.Sx
namespace Vl
def of (v : Vl) : Vl := ⟨v.i.clean, ⟨v.t.null, ofS v.t.names⟩⟩
def reduce (v : Vl) : Vl := ⟨v.of.i.red, v.of.t⟩
def hasInt (v : Vl) (n : Int) : Bool := v.i.s.has n && v.i.c.has n
def leq (a b : Vl) : Bool := a.of.i.leq b.of.i && ((!a.t.null || b.t.null) && subS (ofS a.t.names) (ofS b.t.names))
def rclean (v : Vl) : Vl := ⟨v.i.clean, ⟨v.t.null, cleanS v.t.names⟩⟩
def rreduce (v : Vl) : Vl := ⟨v.rclean.i.red, v.rclean.t⟩
def exact (a b : Vl) : Bool := (Sp.eq a.i.s b.i.s && Cg.eq a.i.c b.i.c) && (a.t.null == b.t.null && decide (a.t.names = b.t.names))
end Vl
theorem clean_red {i : Ig} : i.clean.c.red := by
 unfold Ig.clean; split
 . unfold Ig.zero Cg.red; decide
 . exact Cg.clean_red _
def FVOf : List Ar -> Option Rs
 | [.agg [.d (.v (.bool s0)), .d (.v (.int .i64 l0)), .d (.v (.int .i64 h0)), .d (.v (.bool b0)), .d (.v (.int .i64 m0)), .d (.v (.int .i64 r0)), .d (.v (.bool z0)), .d (.lst 1 n0 f0)]] => some ⟨((n0 * 16 <= 140737488351232 /\ ∀ i, i < n0 -> f0 i = [st (gT (f0 i))]) /\ Sp.inR ⟨s0, l0, h0⟩ /\ Cg.inR ⟨b0, m0, r0⟩), .va (Vl.ar (Vl.of (⟨⟨⟨s0, l0, h0⟩, ⟨b0, m0, r0⟩⟩, ⟨z0, gN n0 f0⟩⟩ : Vl))), []⟩
 | _ => none
theorem fcVOf : FC Tryz.prog 44 FVOf := by
 intro xs pre r us h hp
 unfold FVOf at h
 split at h
 . rename_i s0 l0 h0 b0 m0 r0 z0 n0 f0
   cases h
   have hp0 := hp
   refine FCat.of_eq (as' := [.agg [.d (.v (.bool s0)), .d (.v (.int .i64 l0)), .d (.v (.int .i64 h0)), .d (.v (.bool b0)), .d (.v (.int .i64 m0)), .d (.v (.int .i64 r0)), .d (.v (.bool z0)), .d (.lst 1 n0 fun i => [st (gT (f0 i))])]]) ?_ rfl rfl ?_
   . repeat' (first | exact trivial | exact rfl | refine ⟨?_, ?_⟩ | fail)
     all_goals first | exact hp0.2 | exact hp1.2 | exact hp2.2 | (intro i hi; exact (hp0.2 i hi).1) | (intro i hi; exact (hp1.2 i hi).1) | (intro i hi; exact (hp2.2 i hi).1) | grind
   refine fcat tys_ok (l := [(68, ⟨[], FVClean⟩), (69, ⟨[], FNClean⟩)]) ⟨fcVClean, fcNClean, trivial⟩ Tryz.func44 rfl (by kernel_rfl) true ?_
   repeat' (first | exact trivial | refine ⟨?_, ?_⟩ | intro _)
   all_goals first | (with_reducible first | apply qa | apply qb | apply qc | apply qd) | (conv => whnf)
   all_goals first | exact hp0.2 | exact hp0.1.1 | exact (hp0.1.2 _ ‹_›) | exact hp0.2.1 | exact hp0.2.2 | exact hp0.2.1.1.1 | exact hp0.2.1.1.2 | exact hp0.2.1.2.1 | exact hp0.2.1.2.2 | exact hp0.2.2.1.1 | exact hp0.2.2.1.2 | exact hp0.2.2.2.1 | exact hp0.2.2.2.2 | rfl
 . cases h
def FVValue : List Ar -> Option Rs
 | [.agg [.d (.v (.bool s0)), .d (.v (.int .i64 l0)), .d (.v (.int .i64 h0)), .d (.v (.bool b0)), .d (.v (.int .i64 m0)), .d (.v (.int .i64 r0)), .d (.v (.bool z0)), .d (.lst 1 n0 f0)]] => some ⟨((n0 * 16 <= 140737488351232 /\ ∀ i, i < n0 -> f0 i = [st (gT (f0 i))]) /\ Sp.inR ⟨s0, l0, h0⟩ /\ Cg.inR ⟨b0, m0, r0⟩), .va (.agg [.d (.v (.bool s0)), .d (.v (.int .i64 l0)), .d (.v (.int .i64 h0)), .d (.v (.bool b0)), .d (.v (.int .i64 m0)), .d (.v (.int .i64 r0)), .d (.v (.bool z0)), .d (.lst 1 n0 fun i => [st (gT (f0 i))])]), []⟩
 | _ => none
theorem fcVValue : FC Tryz.prog 45 FVValue := by
 intro xs pre r us h hp
 unfold FVValue at h
 split at h
 . rename_i s0 l0 h0 b0 m0 r0 z0 n0 f0
   cases h
   have hp0 := hp
   refine FCat.of_eq (as' := [.agg [.d (.v (.bool s0)), .d (.v (.int .i64 l0)), .d (.v (.int .i64 h0)), .d (.v (.bool b0)), .d (.v (.int .i64 m0)), .d (.v (.int .i64 r0)), .d (.v (.bool z0)), .d (.lst 1 n0 fun i => [st (gT (f0 i))])]]) ?_ rfl rfl ?_
   . repeat' (first | exact trivial | exact rfl | refine ⟨?_, ?_⟩ | fail)
     all_goals first | exact hp0.2 | exact hp1.2 | exact hp2.2 | (intro i hi; exact (hp0.2 i hi).1) | (intro i hi; exact (hp1.2 i hi).1) | (intro i hi; exact (hp2.2 i hi).1) | grind
   refine fcat tys_ok (l := []) trivial Tryz.func45 rfl (by kernel_rfl) false ?_
   repeat' (first | exact trivial | refine ⟨?_, ?_⟩ | intro _)
   all_goals first | (with_reducible first | apply qa | apply qb | apply qc | apply qd) | (conv => whnf)
   all_goals first | exact hp0.2 | exact hp0.1.1 | exact (hp0.1.2 _ ‹_›) | exact hp0.2.1 | exact hp0.2.2 | exact hp0.2.1.1.1 | exact hp0.2.1.1.2 | exact hp0.2.1.2.1 | exact hp0.2.1.2.2 | exact hp0.2.2.1.1 | exact hp0.2.2.1.2 | exact hp0.2.2.2.1 | exact hp0.2.2.2.2 | rfl
 . cases h
def FVHasInt : List Ar -> Option Rs
 | [.agg [.d (.v (.bool s0)), .d (.v (.int .i64 l0)), .d (.v (.int .i64 h0)), .d (.v (.bool b0)), .d (.v (.int .i64 m0)), .d (.v (.int .i64 r0)), .d (.v (.bool z0)), .d (.lst 1 n0 f0)], .c (.d (.v (.int .i64 i1)))] => some ⟨((n0 * 16 <= 140737488351232 /\ ∀ i, i < n0 -> f0 i = [st (gT (f0 i))]) /\ Sp.inR ⟨s0, l0, h0⟩ /\ Cg.inR ⟨b0, m0, r0⟩) /\ (-9223372036854775808 <= i1 /\ i1 < 9223372036854775808), .va (.c (.d (bo (Vl.hasInt (⟨⟨⟨s0, l0, h0⟩, ⟨b0, m0, r0⟩⟩, ⟨z0, gN n0 f0⟩⟩ : Vl) i1)))), []⟩
 | _ => none
theorem fcVHasInt : FC Tryz.prog 28 FVHasInt := by
 intro xs pre r us h hp
 unfold FVHasInt at h
 split at h
 . rename_i s0 l0 h0 b0 m0 r0 z0 n0 f0 i1
   cases h
   obtain ⟨hp0, hp1⟩ := hp
   refine FCat.of_eq (as' := [.agg [.d (.v (.bool s0)), .d (.v (.int .i64 l0)), .d (.v (.int .i64 h0)), .d (.v (.bool b0)), .d (.v (.int .i64 m0)), .d (.v (.int .i64 r0)), .d (.v (.bool z0)), .d (.lst 1 n0 fun i => [st (gT (f0 i))])], .c (.d (.v (.int .i64 i1)))]) ?_ rfl rfl ?_
   . repeat' (first | exact trivial | exact rfl | refine ⟨?_, ?_⟩ | fail)
     all_goals first | exact hp0.2 | exact hp1.2 | exact hp2.2 | (intro i hi; exact (hp0.2 i hi).1) | (intro i hi; exact (hp1.2 i hi).1) | (intro i hi; exact (hp2.2 i hi).1) | grind
   refine fcat tys_ok (l := [(50, ⟨[], FSHas⟩), (51, ⟨[], FCHas⟩)]) ⟨fcSHas, fcCHas, trivial⟩ Tryz.func28 rfl (by kernel_rfl) false ?_
   repeat' (first | exact trivial | refine ⟨?_, ?_⟩ | intro _)
   all_goals first | (with_reducible first | apply qa | apply qb | apply qc | apply qd) | (conv => whnf)
   all_goals first | exact hp0.2 | exact hp0.1.1 | exact (hp0.1.2 _ ‹_›) | exact hp0.2.1 | exact hp0.2.2 | exact hp0.2.1.1.1 | exact hp0.2.1.1.2 | exact hp0.2.1.2.1 | exact hp0.2.1.2.2 | exact hp0.2.2.1.1 | exact hp0.2.2.1.2 | exact hp0.2.2.2.1 | exact hp0.2.2.2.2 | rfl | exact hp1 | exact hp1.1 | exact hp1.2 | (unfold Vl.hasInt; simp_all; done)
 . cases h
theorem rc_join {s : Sp} : s.join ⟨false, 0, 0⟩ = s.clean := by
 unfold Sp.join Sp.clean Sp.none
 cases s.some <;> by_cases h : s.lo > s.hi <;> simp [h]
theorem sp_clean_some {s : Sp} : s.clean.some = !s.none := by
 unfold Sp.clean Sp.none
 cases h1 : s.some <;> by_cases h : s.lo > s.hi <;> simp [h, h1]
theorem cg_clean_some {c : Cg} : c.clean.some = c.some := by
 unfold Cg.clean Cg.of Cg.none
 cases h : c.some <;> simp
 split <;> rfl
theorem rc_no1 {s : Sp} {c : Cg} (h : (!(s.join ⟨false, 0, 0⟩).some) = true) : Ig.clean ⟨s, c⟩ = Ig.zero := by
 rw [rc_join, sp_clean_some] at h
 unfold Ig.clean Ig.none; simp_all
theorem rc_no2 {s : Sp} {c : Cg} (h : (!c.clean.some) = true) : Ig.clean ⟨s, c⟩ = Ig.zero := by
 rw [cg_clean_some] at h
 unfold Ig.clean Ig.none; simp_all
theorem rc_yes {s : Sp} {c : Cg} (h : (!(s.join ⟨false, 0, 0⟩).some) = false) (h2 : (!c.clean.some) = false) : Ig.clean ⟨s, c⟩ = ⟨s.join ⟨false, 0, 0⟩, c.clean⟩ := by
 rw [rc_join] at h ⊢
 rw [cg_clean_some] at h2
 rw [sp_clean_some] at h
 unfold Ig.clean Ig.none; simp_all
def FRVClean : List Ar -> Option Rs
 | [.agg [.d (.v (.bool s0)), .d (.v (.int .i64 l0)), .d (.v (.int .i64 h0)), .d (.v (.bool b0)), .d (.v (.int .i64 m0)), .d (.v (.int .i64 r0)), .d (.v (.bool z0)), .d (.lst 1 n0 f0)]] => some ⟨((n0 * 16 <= 140737488351232 /\ ∀ i, i < n0 -> f0 i = [st (gT (f0 i))]) /\ Sp.inR ⟨s0, l0, h0⟩ /\ Cg.inR ⟨b0, m0, r0⟩), .va (Vl.ar (⟨Ig.clean ⟨⟨s0, l0, h0⟩, ⟨b0, m0, r0⟩⟩, ⟨z0, cleanS (gN n0 f0)⟩⟩)), []⟩
 | _ => none
theorem fcRVClean : FC Tryz.prog 13 FRVClean := by
 intro xs pre r us h hp
 unfold FRVClean at h
 split at h
 . rename_i s0 l0 h0 b0 m0 r0 z0 n0 f0
   cases h
   have hp0 := hp
   refine FCat.of_eq (as' := [.agg [.d (.v (.bool s0)), .d (.v (.int .i64 l0)), .d (.v (.int .i64 h0)), .d (.v (.bool b0)), .d (.v (.int .i64 m0)), .d (.v (.int .i64 r0)), .d (.v (.bool z0)), .d (.lst 1 n0 fun i => [st (gT (f0 i))])]]) ?_ rfl rfl ?_
   . repeat' (first | exact trivial | exact rfl | refine ⟨?_, ?_⟩ | fail)
     all_goals first | exact hp0.2 | exact hp1.2 | exact hp2.2 | (intro i hi; exact (hp0.2 i hi).1) | (intro i hi; exact (hp1.2 i hi).1) | (intro i hi; exact (hp2.2 i hi).1) | grind
   refine fcat tys_ok (l := [(30, ⟨[], FRSJoin⟩), (31, ⟨[], FRCClean⟩), (32, ⟨[], FRClean⟩)]) ⟨fcRSJoin, fcRCClean, fcRClean, trivial⟩ Tryz.func13 rfl (by kernel_rfl) true ?_
   repeat' (first | exact trivial | refine ⟨?_, ?_⟩ | intro _)
   all_goals first | (with_reducible first | apply qa | apply qb | apply qc | apply qd) | (conv => whnf)
   all_goals first | (show (_ : Int) <= _; decide) | (show (_ : Int) < _; decide) | first | exact hp0.2 | exact hp0.1.1 | exact (hp0.1.2 _ ‹_›) | exact hp0.2.1 | exact hp0.2.2 | exact hp0.2.1.1.1 | exact hp0.2.1.1.2 | exact hp0.2.1.2.1 | exact hp0.2.1.2.2 | exact hp0.2.2.1.1 | exact hp0.2.2.1.2 | exact hp0.2.2.2.1 | exact hp0.2.2.2.2 | rfl | (have e := rc_yes (s := ⟨s0, l0, h0⟩) (c := ⟨b0, m0, r0⟩) ‹_› ‹_›; first | exact congrArg (fun i : Ig => Value.bool i.s.some) e.symm | exact congrArg (fun i : Ig => Value.int .i64 i.s.lo) e.symm | exact congrArg (fun i : Ig => Value.int .i64 i.s.hi) e.symm | exact congrArg (fun i : Ig => Value.bool i.c.some) e.symm | exact congrArg (fun i : Ig => Value.int .i64 i.c.m) e.symm | exact congrArg (fun i : Ig => Value.int .i64 i.c.r) e.symm | fail) | (have e := rc_no1 (s := ⟨s0, l0, h0⟩) (c := ⟨b0, m0, r0⟩) ‹_›; first | exact congrArg (fun i : Ig => Value.bool i.s.some) e.symm | exact congrArg (fun i : Ig => Value.int .i64 i.s.lo) e.symm | exact congrArg (fun i : Ig => Value.int .i64 i.s.hi) e.symm | exact congrArg (fun i : Ig => Value.bool i.c.some) e.symm | exact congrArg (fun i : Ig => Value.int .i64 i.c.m) e.symm | exact congrArg (fun i : Ig => Value.int .i64 i.c.r) e.symm | fail) | (have e := rc_no2 (s := ⟨s0, l0, h0⟩) (c := ⟨b0, m0, r0⟩) ‹_›; first | exact congrArg (fun i : Ig => Value.bool i.s.some) e.symm | exact congrArg (fun i : Ig => Value.int .i64 i.s.lo) e.symm | exact congrArg (fun i : Ig => Value.int .i64 i.s.hi) e.symm | exact congrArg (fun i : Ig => Value.bool i.c.some) e.symm | exact congrArg (fun i : Ig => Value.int .i64 i.c.m) e.symm | exact congrArg (fun i : Ig => Value.int .i64 i.c.r) e.symm | fail)
 . cases h
theorem sp_eq4 {s0 s1 : Bool} {l0 l1 h0 h1 : Int} : (s0 == s1 && (l0 == l1 && (h0 == h1 && true))) = Sp.eq ⟨s0, l0, h0⟩ ⟨s1, l1, h1⟩ := by simp [Sp.eq]
theorem cg_eq4 {s0 s1 : Bool} {l0 l1 h0 h1 : Int} : (s0 == s1 && (l0 == l1 && (h0 == h1 && true))) = Cg.eq ⟨s0, l0, h0⟩ ⟨s1, l1, h1⟩ := by simp [Cg.eq]
def FRVExact : List Ar -> Option Rs
 | [.agg [.d (.v (.bool s0)), .d (.v (.int .i64 l0)), .d (.v (.int .i64 h0)), .d (.v (.bool b0)), .d (.v (.int .i64 m0)), .d (.v (.int .i64 r0)), .d (.v (.bool z0)), .d (.lst 1 n0 f0)], .agg [.d (.v (.bool s1)), .d (.v (.int .i64 l1)), .d (.v (.int .i64 h1)), .d (.v (.bool b1)), .d (.v (.int .i64 m1)), .d (.v (.int .i64 r1)), .d (.v (.bool z1)), .d (.lst 1 n1 f1)]] => some ⟨((n0 * 16 <= 140737488351232 /\ ∀ i, i < n0 -> f0 i = [st (gT (f0 i))]) /\ Sp.inR ⟨s0, l0, h0⟩ /\ Cg.inR ⟨b0, m0, r0⟩) /\ ((n1 * 16 <= 140737488351232 /\ ∀ i, i < n1 -> f1 i = [st (gT (f1 i))]) /\ Sp.inR ⟨s1, l1, h1⟩ /\ Cg.inR ⟨b1, m1, r1⟩), .va (.c (.d (bo (Vl.exact (⟨⟨⟨s0, l0, h0⟩, ⟨b0, m0, r0⟩⟩, ⟨z0, gN n0 f0⟩⟩ : Vl) (⟨⟨⟨s1, l1, h1⟩, ⟨b1, m1, r1⟩⟩, ⟨z1, gN n1 f1⟩⟩ : Vl))))), []⟩
 | _ => none
theorem fcRVExact : FC Tryz.prog 11 FRVExact := by
 intro xs pre r us h hp
 unfold FRVExact at h
 split at h
 . rename_i s0 l0 h0 b0 m0 r0 z0 n0 f0 s1 l1 h1 b1 m1 r1 z1 n1 f1
   cases h
   obtain ⟨hp0, hp1⟩ := hp
   refine FCat.of_eq (as' := [.agg [.d (.v (.bool s0)), .d (.v (.int .i64 l0)), .d (.v (.int .i64 h0)), .d (.v (.bool b0)), .d (.v (.int .i64 m0)), .d (.v (.int .i64 r0)), .d (.v (.bool z0)), .d (.lst 1 n0 fun i => [st (gT (f0 i))])], .agg [.d (.v (.bool s1)), .d (.v (.int .i64 l1)), .d (.v (.int .i64 h1)), .d (.v (.bool b1)), .d (.v (.int .i64 m1)), .d (.v (.int .i64 r1)), .d (.v (.bool z1)), .d (.lst 1 n1 fun i => [st (gT (f1 i))])]]) ?_ rfl rfl ?_
   . repeat' (first | exact trivial | exact rfl | refine ⟨?_, ?_⟩ | fail)
     all_goals first | exact hp0.2 | exact hp1.2 | exact hp2.2 | (intro i hi; exact (hp0.2 i hi).1) | (intro i hi; exact (hp1.2 i hi).1) | (intro i hi; exact (hp2.2 i hi).1) | grind
   refine fcat tys_ok (l := [(27, ⟨[], FRExact⟩)]) ⟨fcRExact, trivial⟩ Tryz.func11 rfl (by kernel_rfl) false ?_
   repeat' (first | exact trivial | refine ⟨?_, ?_⟩ | intro _)
   all_goals first | (with_reducible first | apply qa | apply qb | apply qc | apply qd) | (conv => whnf)
   all_goals first | exact hp0.1.1 | exact hp1.1.1 | rfl | skip
   all_goals (simp only [sp_eq4 (s0 := s0)] at *; try simp only [cg_eq4 (s0 := b0)] at *)
   all_goals (unfold Vl.exact; dsimp only)
   all_goals first | (simp only [*, gN_canon, Bool.true_and, Bool.false_and, Bool.and_false]; done) | (rw [‹Sp.eq _ _ = true›, ‹Cg.eq _ _ = true›, Bool.true_and, Bool.true_and]; rfl)
 . cases h
def nilD (sz : Nat) : DV -> DV
 | .v (.slice none 0 0) => .lst sz 0 (fun _ => [])
 | x => x
def nilI (sz : Nat) : Ic -> Ic
 | .d x => .d (nilD sz x)
 | x => x
def nilA (sz : Nat) : Ar -> Ar
 | .c x => .c (nilI sz x)
 | .agg xs => .agg (xs.map (nilI sz))
 | x => x
def FN (sz : Nat) (F : List Ar -> Option Rs) (qs : List Ar) : Option Rs :=
 match arsRows qs with
 | [] => match F (qs.map (nilA sz)) with
   | some ⟨p, r, []⟩ => some ⟨p, r, []⟩
   | _ => none
 | _ => none
theorem dvEq_refl (x : DV) : dvEq x x := by cases x <;> simp [dvEq]
theorem nilD_eq (sz : Nat) (x : DV) : dvEq x (nilD sz x) := by
 unfold nilD; split
 . exact ⟨rfl, rfl⟩
 . exact dvEq_refl x
theorem nilI_eq (sz : Nat) (x : Ic) : icEq x (nilI sz x) := by
 cases x with
 | d x => exact nilD_eq sz x
 | ow a b c => exact ⟨rfl, rfl, fun _ _ => rfl⟩
theorem nilIs_eq (sz : Nat) : ∀ xs : List Ic, icsEq xs (xs.map (nilI sz))
 | [] => trivial
 | x :: xs => ⟨nilI_eq sz x, nilIs_eq sz xs⟩
theorem nilA_eq (sz : Nat) (x : Ar) : arEq x (nilA sz x) := by
 cases x with
 | c x => exact nilI_eq sz x
 | agg xs => exact nilIs_eq sz xs
 | rp _ => rfl
 | fv _ => rfl
theorem nilAs_eq (sz : Nat) : ∀ xs : List Ar, arsEq xs (xs.map (nilA sz))
 | [] => trivial
 | x :: xs => ⟨nilA_eq sz x, nilAs_eq sz xs⟩
theorem nil_icRows (sz : Nat) : ∀ xs : List Ic, icRows (xs.map (nilI sz)) = icRows xs
 | [] => rfl
 | .d x :: xs => by simp only [List.map_cons, nilI, icRows]; exact nil_icRows sz xs
 | .ow a b c :: xs => by simp only [List.map_cons, nilI, icRows]; rw [nil_icRows sz xs]
theorem nil_arRows (sz : Nat) (x : Ar) : arRows (nilA sz x) = arRows x := by
 cases x with
 | c x => cases x <;> rfl
 | agg xs => exact nil_icRows sz xs
 | rp _ => rfl
 | fv _ => rfl
theorem nil_arsRows (sz : Nat) : ∀ xs : List Ar, arsRows (xs.map (nilA sz)) = arsRows xs
 | [] => rfl
 | x :: xs => by simp only [List.map_cons, arsRows]; rw [nil_arRows, nil_arsRows sz xs]
theorem fc_nil {P : Program} {f : Nat} {F : List Ar -> Option Rs} (sz : Nat) (h : FC P f F) : FC P f (FN sz F) := by
 intro qs pre r us he hp
 unfold FN at he
 split at he
 . rename_i h0
   split at he
   . rename_i p r' hF
     cases he
     exact FCat.of_eq (nilAs_eq sz qs) h0 (by rw [nil_arsRows]; exact h0) (h _ _ _ _ hF hp)
   . cases he
 . cases he
theorem clean_live {i : Ig} (h : i.clean.s.some = true) : i.clean.c.some = true /\ i.clean.s.lo <= i.clean.s.hi := by
 unfold Ig.clean at *
 split at h
 . simp [Ig.zero] at h
 . rename_i hn
   rw [if_neg hn]
   rw [sp_clean_some] at h
   rw [cg_clean_some]
   unfold Ig.none at hn
   have hs : i.s.none = false := by simpa using h
   have hcs : i.c.some = true := by simpa [hs] using hn
   have e : i.s.clean = i.s := by unfold Sp.clean; rw [hs]; rfl
   refine ⟨hcs, ?_⟩
   dsimp only
   rw [e]
   unfold Sp.none at hs
   simp at hs
   omega
theorem clean_dead {i : Ig} (h : i.clean.s.some = false) : i.clean = Ig.zero := by
 unfold Ig.clean at *
 split at h
 . rename_i hn; rw [if_pos hn]
 . rename_i hn
   rw [sp_clean_some] at h
   unfold Ig.none at hn
   simp_all
theorem rd_has {S : Bool} {L H R : Int} (hS : S = true) : Sp.has ⟨S, L, H⟩ R = (decide (R ≥ L) && decide (R <= H)) := by unfold Sp.has; simp [hS]
theorem rd_nn {S B : Bool} {L H M R : Int} (hS : S = true) (hl : S = true -> B = true /\ L <= H) : Ig.none ⟨⟨S, L, H⟩, ⟨B, M, R⟩⟩ = false := by
 have := hl hS
 unfold Ig.none Sp.none; simp_all
theorem rd_2 {S B : Bool} {L H M R : Int} (hS : S = true) (hM : M = 0) (h : Sp.has ⟨S, L, H⟩ R = false) : Ig.red ⟨⟨S, L, H⟩, ⟨B, M, R⟩⟩ = Ig.zero := by
 rw [rd_has hS] at h
 unfold Ig.red
 split
 . rfl
 . rw [if_pos]
   have h1 := upV_0 (n := L) (r := R) (b := B) hM
   have h2 := upV_0 (n := H) (r := R) (b := B) hM
   rw [h1.2.1, h2.2.2.2, h1.1, h2.2.2.1]
   simp only [Bool.and_eq_false_iff, decide_eq_false_iff_not] at h
   simp; omega
theorem rd_3 {S B : Bool} {L H M R : Int} (hS : S = true) (hl : S = true -> B = true /\ L <= H) (hM : M = 0) (h : Sp.has ⟨S, L, H⟩ R = true) : Ig.red ⟨⟨S, L, H⟩, ⟨B, M, R⟩⟩ = ⟨Sp.of R R, ⟨true, 0, R⟩⟩ := by
 rw [rd_has hS] at h
 unfold Ig.red
 have h1 := upV_0 (n := L) (r := R) (b := B) hM
 have h2 := upV_0 (n := H) (r := R) (b := B) hM
 rw [rd_nn hS hl, h1.2.1, h2.2.2.2, h1.1, h2.2.2.1]
 simp only [Bool.and_eq_true, decide_eq_true_eq] at h
 simp [h.1, h.2, Cg.of, md]
theorem rd_4 {S B : Bool} {L H M R : Int} (hM : ¬ M = 0) (h : ((!wIntB (upW L ⟨B, M, R⟩) || !wIntB (dnW H ⟨B, M, R⟩)) || decide (wIntV (upW L ⟨B, M, R⟩) > wIntV (dnW H ⟨B, M, R⟩))) = true) : Ig.red ⟨⟨S, L, H⟩, ⟨B, M, R⟩⟩ = Ig.zero := by
 unfold Ig.red
 have h1 := upV_1 (n := L) (r := R) (b := B) hM
 have h2 := upV_1 (n := H) (r := R) (b := B) hM
 rw [h1.2.1, h2.2.2.2, h1.1, h2.2.2.1]
 rw [if_pos (c := _ = true) h]
 split <;> rfl
theorem rd_5 {S B : Bool} {L H M R : Int} (hS : S = true) (hl : S = true -> B = true /\ L <= H) (hM : ¬ M = 0) (h : ((!wIntB (upW L ⟨B, M, R⟩) || !wIntB (dnW H ⟨B, M, R⟩)) || decide (wIntV (upW L ⟨B, M, R⟩) > wIntV (dnW H ⟨B, M, R⟩))) = false) :
 Ig.red ⟨⟨S, L, H⟩, ⟨B, M, R⟩⟩ = if wIntV (upW L ⟨B, M, R⟩) = wIntV (dnW H ⟨B, M, R⟩) then ⟨Sp.of (wIntV (upW L ⟨B, M, R⟩)) (wIntV (upW L ⟨B, M, R⟩)), ⟨true, 0, wIntV (upW L ⟨B, M, R⟩)⟩⟩ else ⟨Sp.of (wIntV (upW L ⟨B, M, R⟩)) (wIntV (dnW H ⟨B, M, R⟩)), ⟨B, M, R⟩⟩ := by
 unfold Ig.red
 have h1 := upV_1 (n := L) (r := R) (b := B) hM
 have h2 := upV_1 (n := H) (r := R) (b := B) hM
 rw [rd_nn hS hl, h1.2.1, h2.2.2.2, h1.1, h2.2.2.1, h]
 rw [if_neg (by decide), if_neg (by decide)]
 split
 . simp [Cg.of, md]
 . rfl
theorem rd_4a {S B : Bool} {L H M R : Int} (hM : ¬ M = 0) (h : (!wIntB (upW L ⟨B, M, R⟩)) = true) : Ig.red ⟨⟨S, L, H⟩, ⟨B, M, R⟩⟩ = Ig.zero := rd_4 hM (by rw [h]; rfl)
theorem rd_4b {S B : Bool} {L H M R : Int} (hM : ¬ M = 0) (h : (!wIntB (dnW H ⟨B, M, R⟩)) = true) : Ig.red ⟨⟨S, L, H⟩, ⟨B, M, R⟩⟩ = Ig.zero := rd_4 hM (by rw [h]; simp)
theorem rd_4c {S B : Bool} {L H M R : Int} (hM : ¬ M = 0) (h : decide (wIntV (upW L ⟨B, M, R⟩) > wIntV (dnW H ⟨B, M, R⟩)) = true) : Ig.red ⟨⟨S, L, H⟩, ⟨B, M, R⟩⟩ = Ig.zero := rd_4 hM (by rw [h]; simp)
open Go.Lib Go.Sort
abbrev kS (s : ByteArray) : List UInt8 := s.data.toList
theorem kS_inj {a b : ByteArray} (h : kS a = kS b) : a = b := by
 have : a.data = b.data := Array.ext' h
 cases a; cases b; simp_all
theorem kS_tl (s : ByteArray) : s.toList = kS s := ByteArray.toList_eq s
theorem slt_eq (a b : ByteArray) : slt a b = decide (kS a < kS b) := by unfold slt; rw [bytesLess_eq, kS_tl, kS_tl]
theorem sle_eq (a b : ByteArray) : sle a b = (decide (kS a < kS b) || decide (a = b)) := by unfold sle; rw [bytesLess_eq, seq_iff, kS_tl, kS_tl]
def Srt (l : List ByteArray) : Prop := l.Pairwise fun a b => kS a < kS b
def insS (x : ByteArray) : List ByteArray -> List ByteArray
 | [] => [x]
 | y :: ys => if kS x < kS y then x :: y :: ys else if x = y then y :: ys else y :: insS x ys
theorem foldl_in (x : ByteArray) (l : List ByteArray) : ∀ out, l.foldl (stepP x) (out, true) = (out ++ l, true) := by
 induction l with
 | nil => intro out; simp
 | cons y ys ih => intro out; rw [List.foldl_cons, stepP_in, ih]; simp
theorem foldl_put (x : ByteArray) (l : List ByteArray) : ∀ out, (if (l.foldl (stepP x) (out, false)).2 then (l.foldl (stepP x) (out, false)).1 else (l.foldl (stepP x) (out, false)).1 ++ [x]) = out ++ insS x l := by
 induction l with
 | nil => intro out; simp [insS]
 | cons y ys ih =>
   intro out
   rw [List.foldl_cons]
   unfold insS
   by_cases h1 : kS x < kS y
   . rw [if_pos h1, stepP_lt (by rw [sle_eq]; simp [h1]) (by rw [slt_eq]; simp [h1]), foldl_in]; simp
   . rw [if_neg h1]
     by_cases h2 : x = y
     . rw [if_pos h2, stepP_eq (by rw [sle_eq]; simp [h2]) (by rw [slt_eq]; simp [h1]), foldl_in]; simp
     . rw [if_neg h2, stepP_gt (by rw [sle_eq]; simp [h1, h2]), ih]; simp
theorem putS_ins (l : List ByteArray) (x : ByteArray) : putS l x = insS x l := by
 have := foldl_put x l []
 rw [List.nil_append] at this
 rw [<- this]; rfl
theorem mem_ins {x z : ByteArray} {l : List ByteArray} : z ∈ insS x l ↔ z = x \/ z ∈ l := by
 induction l with
 | nil => simp [insS]
 | cons y ys ih =>
   unfold insS
   split
   . simp
   . split
     . rename_i h; subst h; simp
     . simp only [List.mem_cons, ih]
       constructor
       . rintro (h | h | h) <;> simp [h]
       . rintro (h | h | h) <;> simp [h]
theorem kS_tri {a b : ByteArray} (h1 : ¬ kS a < kS b) (h2 : ¬ a = b) : kS b < kS a := by
 rcases Decidable.em (kS b < kS a) with h | h
 . exact h
 . exact absurd (kS_inj (List.le_antisymm (List.not_lt.1 h) (List.not_lt.1 h1))) h2
theorem srt_ins {x : ByteArray} {l : List ByteArray} (h : Srt l) : Srt (insS x l) := by
 induction l with
 | nil => simp [insS, Srt]
 | cons y ys ih =>
   unfold Srt at h ih ⊢
   rw [List.pairwise_cons] at h
   unfold insS
   split
   . rename_i hx
     rw [List.pairwise_cons, List.pairwise_cons]
     refine ⟨fun a ha => ?_, h⟩
     rcases List.mem_cons.1 ha with rfl | ha
     . exact hx
     . exact List.lt_trans hx (h.1 a ha)
   . split
     . rw [List.pairwise_cons]; exact h
     . rename_i h1 h2
       rw [List.pairwise_cons]
       refine ⟨fun a ha => ?_, ih h.2⟩
       rcases mem_ins.1 ha with rfl | ha
       . exact kS_tri h1 h2
       . exact h.1 a ha
theorem cleanS_fold (l : List ByteArray) : ∀ s, Srt s -> Srt (l.foldl putS s) /\ ∀ z, z ∈ l.foldl putS s ↔ z ∈ s \/ z ∈ l := by
 induction l with
 | nil => intro s h; exact ⟨h, fun z => by simp⟩
 | cons x l ih =>
   intro s h
   rw [List.foldl_cons, putS_ins]
   obtain ⟨h1, h2⟩ := ih _ (srt_ins (x := x) h)
   refine ⟨h1, fun z => ?_⟩
   rw [h2, mem_ins]
   simp only [List.mem_cons]
   constructor
   . rintro ((h | h) | h) <;> simp [h]
   . rintro (h | h | h) <;> simp [h]
theorem srt_nil : Srt [] := by simp [Srt]
theorem cleanS_srt (l : List ByteArray) : Srt (cleanS l) := (cleanS_fold l [] srt_nil).1
theorem cleanS_mem {l : List ByteArray} {z : ByteArray} : z ∈ cleanS l ↔ z ∈ l := by
 have := (cleanS_fold l [] srt_nil).2 z
 simpa [cleanS] using this
theorem srt_ext : ∀ {l m : List ByteArray}, Srt l -> Srt m -> (∀ z, z ∈ l ↔ z ∈ m) -> l = m
 | [], [], _, _, _ => rfl
 | [], y :: m, _, _, h => absurd ((h y).2 (by simp)) (by simp)
 | x :: l, [], _, _, h => absurd ((h x).1 (by simp)) (by simp)
 | x :: l, y :: m, h1, h2, h => by
   unfold Srt at h1 h2
   rw [List.pairwise_cons] at h1 h2
   have hxy : x = y := by
    rcases List.mem_cons.1 ((h x).1 (by simp)) with e | e
    . exact e
    . rcases List.mem_cons.1 ((h y).2 (by simp)) with e' | e'
      . exact e'.symm
      . exact absurd (List.lt_trans (h1.1 y e') (h2.1 x e)) (List.lt_irrefl _)
   subst hxy
   congr 1
   refine srt_ext h1.2 h2.2 fun z => ?_
   have hz := h z
   simp only [List.mem_cons] at hz
   constructor
   . intro hl
     rcases hz.1 (.inr hl) with e | e
     . subst e; exact absurd (h1.1 z hl) (List.lt_irrefl _)
     . exact e
   . intro hm
     rcases hz.2 (.inr hm) with e | e
     . subst e; exact absurd (h2.1 z hm) (List.lt_irrefl _)
     . exact e
theorem compact_law {xs : List (List UInt8)} (hs : xs.Pairwise fun a b => ¬ b < a) : ∀ n, n <= xs.length ->
 ((compactUpTo xs.toArray n).Pairwise fun a b => a < b) /\ (∀ z, z ∈ compactUpTo xs.toArray n ↔ z ∈ xs.take n) := by
 intro n
 induction n with
 | zero => intro _; simp [compactUpTo]
 | succ n ih =>
   intro hn
   obtain ⟨h1, h2⟩ := ih (by omega)
   have hlt : n < xs.length := by omega
   have hget : (xs.toArray)[n]! = xs[n] := by simp [hlt]
   rw [compactUpTo_succ, hget]
   have htake : ∀ z, z ∈ xs.take (n + 1) ↔ z ∈ xs.take n \/ z = xs[n] := by
    intro z
    rw [List.take_succ_eq_append_getElem hlt, List.mem_append, List.mem_singleton]
   have hle : ∀ z, z ∈ xs.take n -> ¬ xs[n] < z := by
    intro z hz
    obtain ⟨i, hi, rfl⟩ := List.mem_take_iff_getElem.1 hz
    exact List.pairwise_iff_getElem.1 hs i n (by omega) hlt (by omega)
   by_cases hk : keeps xs.toArray n = true
   . rw [if_pos hk]
     refine ⟨?_, fun z => ?_⟩
     . rw [List.pairwise_append]
       refine ⟨h1, by simp, fun a ha b hb => ?_⟩
       simp only [List.mem_singleton] at hb
       subst hb
       have ha := (h2 a).1 ha
       have h3 := hle a ha
       rcases Decidable.em (a < xs[n]) with h | h
       . exact h
       . exfalso
         have he : a = xs[n] := List.le_antisymm (List.not_lt.1 h3) (List.not_lt.1 h)
         unfold keeps at hk
         rcases Nat.eq_zero_or_pos n with h0 | h0
         . subst h0; simp at ha
         . have hp : (xs.toArray)[n - 1]! = xs[n-1]'(by omega) := by
            rw [getElem!_pos _ _ (by simp; omega)]; simp
           rw [hget, hp] at hk
           have hne : ¬ xs[n] = xs[n-1]'(by omega) := by
            intro e
            simp [e] at hk
            omega
           obtain ⟨i, hi, rfl⟩ := List.mem_take_iff_getElem.1 ha
           rcases Nat.lt_or_ge i (n - 1) with h4 | h4
           . have q1 := List.pairwise_iff_getElem.1 hs i (n - 1) (by omega) (by omega) (by omega)
             have q2 := List.pairwise_iff_getElem.1 hs (n - 1) n (by omega) hlt (by omega)
             rw [he] at q1
             exact hne (List.le_antisymm (List.not_lt.1 q1) (List.not_lt.1 q2))
           . have : i = n - 1 := by omega
             subst this
             exact hne he.symm
     . rw [List.mem_append, h2, htake]; simp
   . rw [if_neg hk, List.append_nil]
     refine ⟨h1, fun z => ?_⟩
     rw [h2, htake]
     constructor
     . exact .inl
     . rintro (h | h)
       . exact h
       . subst h
         unfold keeps at hk
         rcases Nat.eq_zero_or_pos n with h0 | h0
         . subst h0; simp at hk
         . have hp : (xs.toArray)[n - 1]! = xs[n-1]'(by omega) := by
            rw [getElem!_pos _ _ (by simp; omega)]; simp
           rw [hget, hp] at hk
           have he : xs[n] = xs[n-1]'(by omega) := by
            simp at hk
            exact hk.2
           rw [he]
           exact List.mem_take_iff_getElem.2 ⟨n - 1, by omega, rfl⟩
theorem bS_kS (s : ByteArray) : bS (kS s) = s := by unfold bS kS; cases s; rfl
theorem kS_bS (l : List UInt8) : kS (bS l) = l := by unfold bS kS; simp
theorem map_kb (l : List (List UInt8)) : (l.map bS).map (fun s => s.data.toList) = l := by
 rw [List.map_map]
 have : (fun s : ByteArray => s.data.toList) ∘ bS = id := by funext x; exact kS_bS x
 rw [this, List.map_id]
theorem ofS_eq (l : List ByteArray) : ofS l = cleanS l := by
 have hs : (sortL l).Pairwise fun a b => ¬ b < a := by
  have := List.pairwise_mergeSort (le := fun x y : List UInt8 => !(ltOf cfL) y x) (fun a b c h1 h2 => by
   rw [ltOf_cfL] at *
   simp only [Bool.not_eq_true', decide_eq_false_iff_not, List.not_lt] at *
   exact List.le_trans h1 h2) (fun a b => by
   rw [ltOf_cfL, ltOf_cfL]
   simp only [Bool.or_eq_true, Bool.not_eq_true', decide_eq_false_iff_not, List.not_lt]
   exact List.le_total a b) (l.map fun s => s.data.toList)
  refine this.imp fun {a b} h => ?_
  rw [ltOf_cfL] at h
  simpa using h
 have hc := compact_law hs (sortL l).length (Nat.le_refl _)
 rw [List.take_length] at hc
 have he : compL ((sortL l).map bS) = compactUpTo (sortL l).toArray (sortL l).length := by
  unfold compL; rw [map_kb]; rfl
 refine srt_ext ?_ (cleanS_srt l) fun z => ?_
 . unfold ofS Srt
   rw [List.pairwise_map, he]
   exact hc.1.imp fun h => by rw [kS_bS, kS_bS]; exact h
 . rw [cleanS_mem]
   unfold ofS
   rw [List.mem_map, he]
   constructor
   . rintro ⟨x, hx, rfl⟩
     rw [hc.2] at hx
     have hx : x ∈ l.map fun s => s.data.toList := List.mem_mergeSort.1 hx
     obtain ⟨s, hs, rfl⟩ := List.mem_map.1 hx
     rw [show bS s.data.toList = s from bS_kS s]
     exact hs
   . intro hz
     refine ⟨kS z, ?_, bS_kS z⟩
     rw [hc.2]
     exact List.mem_mergeSort.2 (List.mem_map.2 ⟨z, hz, rfl⟩)
theorem cleanS_fix {l : List ByteArray} (h : Srt l) : cleanS l = l := srt_ext (cleanS_srt l) h fun _ => cleanS_mem
theorem cleanS_idem (l : List ByteArray) : cleanS (cleanS l) = cleanS l := cleanS_fix (cleanS_srt l)
theorem subS_iff {l m : List ByteArray} : subS l m = true ↔ ∀ z, z ∈ l -> z ∈ m := by
 unfold subS
 rw [List.all_eq_true]
 exact ⟨fun h z hz => memS_iff.1 (h z hz), fun h z hz => memS_iff.2 (h z hz)⟩
end Go.Proofs.YtakcacejpbiogaaGreatDoor
namespace Go.Proofs.YtakcacejpbiogaaGreatDoor
open Go.Sx
theorem of_rclean (v : Vl) : v.of = v.rclean := by unfold Vl.of Vl.rclean; rw [ofS_eq]
theorem reduce_eq (v : Vl) : v.reduce = v.rreduce := by unfold Vl.reduce Vl.rreduce; rw [of_rclean]
theorem sp_eq_refl (a : Sp) : Sp.eq a a = true := by simp [Sp.eq]
theorem cg_eq_refl (a : Cg) : Cg.eq a a = true := by simp [Cg.eq]
theorem exact_refl (v : Vl) : v.exact v = true := by unfold Vl.exact; simp [sp_eq_refl, cg_eq_refl]
def Ig.tidy (i : Ig) : Prop := i = Ig.zero \/ ((i.s.some = true /\ i.c.some = true) /\ i.s.lo <= i.s.hi /\ i.c.red)
theorem clean_tidy (i : Ig) : i.clean.tidy := by
 cases h : i.clean.s.some with
 | false => exact .inl (clean_dead h)
 | true => exact .inr ⟨⟨h, (clean_live h).1⟩, (clean_live h).2, clean_red⟩
theorem cg_fix {c : Cg} (h : c.some = true) (hr : c.red) : c.clean = c := by
 obtain ⟨b, m, r⟩ := c
 unfold Cg.clean Cg.of md
 unfold Cg.red at hr
 dsimp only at *
 subst h
 rw [if_pos rfl, if_neg (by omega)]
 split
 . rfl
 . have := hr.2 (by omega)
   rw [Int.emod_eq_of_lt this.1 this.2]
theorem tidy_fix {i : Ig} (h : i.tidy) : i.clean = i := by
 rcases h with rfl | ⟨⟨h1, h2⟩, h3, h4⟩
 . rfl
 . obtain ⟨⟨s, l, h⟩, c⟩ := i
   dsimp only at *
   subst h1
   have hn : Sp.none ⟨true, l, h⟩ = false := by unfold Sp.none; simp; omega
   unfold Ig.clean Ig.none
   dsimp only
   rw [hn, h2]
   rw [cg_fix h2 h4]
   unfold Sp.clean
   rw [hn]
   rfl
theorem of_le {a b : Int} (h : a <= b) : Sp.of a b = ⟨true, a, b⟩ := by unfold Sp.of; rw [if_neg (by omega)]
theorem up_facts {n m r : Int} (h : 0 < m) : 0 <= (r - n) % m /\ (r - n) % m < m /\ (n + (r - n) % m - r) % m = 0 := by
 refine ⟨Int.emod_nonneg _ (by omega), Int.emod_lt_of_pos _ h, ?_⟩
 have h1 : n + (r - n) % m - r = (r - n) % m - (r - n) := by omega
 rw [h1]
 have h2 := Int.emod_add_mul_ediv (r - n) m
 have h3 : (r - n) % m - (r - n) = m * (-((r - n) / m)) := by rw [Int.mul_neg]; omega
 rw [h3, Int.mul_emod_right]
theorem md_eq0 {n m r : Int} (hm : 0 < m) (h0 : 0 <= r) (h1 : r < m) : md n m = r ↔ (n - r) % m = 0 := by
 unfold md
 rw [if_neg (by omega)]
 have h2 := Int.emod_nonneg n (show m ≠ 0 by omega)
 have h3 := Int.emod_lt_of_pos n hm
 have h4 := Int.emod_add_mul_ediv n m
 have h5 := Int.emod_add_mul_ediv (n - r) m
 have h6 := Int.emod_nonneg (n - r) (show m ≠ 0 by omega)
 have h7 := Int.emod_lt_of_pos (n - r) hm
 constructor
 . intro h
   have : n - r = m * (n / m) := by omega
   rw [this, Int.mul_emod_right]
 . intro h
   have : n = r + m * ((n - r) / m) := by omega
   rw [this, Int.add_mul_emod_self_left, Int.emod_eq_of_lt h0 h1]
def Cg.on (c : Cg) (n : Int) : Prop := md n c.m = c.r
instance (c : Cg) (n : Int) : Decidable (c.on n) := inferInstanceAs (Decidable (md n c.m = c.r))
theorem has_on {c : Cg} (h : c.some = true) (hr : c.red) (n : Int) : c.has n = decide (c.on n) := by
 unfold Cg.has Cg.on
 rw [cg_fix h hr, h]; rfl
theorem wIn {n : Int} (h : -9223372036854775808 <= n /\ n < 9223372036854775808) : wIntV n = n /\ wIntB n = true := by unfold wIntV wIntB; simp [h]
theorem wOut {n : Int} (h : ¬ (-9223372036854775808 <= n /\ n < 9223372036854775808)) : wIntB n = false := by unfold wIntB; simp [h]
theorem modge {a m : Int} (hm : 0 < m) (ha : 0 <= a) : a % m <= a := by
 have h4 := Int.emod_add_mul_ediv a m
 have h5 : 0 <= m * (a / m) := Int.mul_nonneg (by omega) (Int.ediv_nonneg ha (by omega))
 omega
theorem emod_of_sub {a b m : Int} (h : (a - b) % m = 0) : a % m = b % m := by
 have h4 := Int.emod_add_mul_ediv (a - b) m
 rw [h] at h4
 have : a = b + m * ((a - b) / m) := by omega
 rw [this, Int.add_mul_emod_self_left]
theorem red_cases {L H M R : Int} (hl : L <= H) (hr : Cg.red ⟨true, M, R⟩) (hs : Sp.inR ⟨true, L, H⟩) (hc : Cg.inR ⟨true, M, R⟩) :
 (Ig.red ⟨⟨true, L, H⟩, ⟨true, M, R⟩⟩ = Ig.zero /\ ∀ n, -9223372036854775808 <= n -> n < 9223372036854775808 -> L <= n -> n <= H -> ¬ Cg.on ⟨true, M, R⟩ n) \/
 ∃ x y, (L <= x /\ x <= y /\ y <= H) /\ (Cg.on ⟨true, M, R⟩ x /\ Cg.on ⟨true, M, R⟩ y) /\ (∀ n, L <= n -> n <= H -> Cg.on ⟨true, M, R⟩ n -> x <= n /\ n <= y) /\ (x ≠ y -> 0 < M) /\
  Ig.red ⟨⟨true, L, H⟩, ⟨true, M, R⟩⟩ = if x = y then ⟨⟨true, x, x⟩, ⟨true, 0, x⟩⟩ else ⟨⟨true, x, y⟩, ⟨true, M, R⟩⟩ := by
 unfold Sp.inR at hs
 dsimp only at hs
 by_cases hM : M = 0
 . subst hM
   have hon : ∀ n, Cg.on ⟨true, 0, R⟩ n ↔ n = R := by intro n; unfold Cg.on md; simp
   by_cases h : L <= R /\ R <= H
   . refine .inr ⟨R, R, ⟨h.1, Int.le_refl _, h.2⟩, ⟨(hon R).2 rfl, (hon R).2 rfl⟩, fun n _ _ h => ?_, fun h => absurd rfl h, ?_⟩
     . rw [hon] at h; omega
     . rw [rd_3 rfl (fun _ => ⟨rfl, hl⟩) rfl (by rw [rd_has rfl]; simp; omega), if_pos rfl, of_le (Int.le_refl _)]
   . refine .inl ⟨rd_2 rfl rfl (by rw [rd_has rfl]; simp; omega), fun n _ _ h1 h2 h3 => ?_⟩
     rw [hon] at h3; omega
 . have hm : 0 < M := by unfold Cg.red at hr; dsimp only at hr; omega
   have hR := hr.2 hm
   dsimp only at hR
   have hon : ∀ n, Cg.on ⟨true, M, R⟩ n ↔ (n - R) % M = 0 := fun n => md_eq0 hm hR.1 hR.2
   have u := up_facts (n := L) (r := R) hm
   have hx : (upW L ⟨true, M, R⟩ - R) % M = 0 := u.2.2
   have hxL : L <= upW L ⟨true, M, R⟩ := by unfold upW; dsimp only; omega
   have d1 := Int.emod_nonneg (H - R) (show M ≠ 0 by omega)
   have hy : (dnW H ⟨true, M, R⟩ - R) % M = 0 := by
    unfold dnW; dsimp only
    have h2 := Int.emod_add_mul_ediv (H - R) M
    have h3 : H - (H - R) % M - R = M * ((H - R) / M) := by omega
    rw [h3, Int.mul_emod_right]
   have hyH : dnW H ⟨true, M, R⟩ <= H := by unfold dnW; dsimp only; omega
   have hlow : ∀ n, L <= n -> Cg.on ⟨true, M, R⟩ n -> upW L ⟨true, M, R⟩ <= n := by
    intro n h1 h2
    rw [hon] at h2
    have e := emod_of_sub (a := R - L) (b := n - L) (m := M) (by
     have : R - L - (n - L) = -(n - R) := by omega
     rw [this]; exact Int.emod_eq_zero_of_dvd (Int.dvd_neg.2 (Int.dvd_of_emod_eq_zero h2)))
    have := modge (a := n - L) hm (by omega)
    unfold upW; dsimp only; omega
   have hhigh : ∀ n, n <= H -> Cg.on ⟨true, M, R⟩ n -> n <= dnW H ⟨true, M, R⟩ := by
    intro n h1 h2
    rw [hon] at h2
    have e := emod_of_sub (a := H - R) (b := H - n) (m := M) (by
     have : H - R - (H - n) = n - R := by omega
     rw [this, h2])
    have := modge (a := H - n) hm (by omega)
    unfold dnW; dsimp only; omega
   generalize hX : upW L ⟨true, M, R⟩ = x at *
   generalize hY : dnW H ⟨true, M, R⟩ = y at *
   by_cases hxr : x < 9223372036854775808
   . by_cases hyr : -9223372036854775808 <= y
     . have wx := wIn (n := x) ⟨by omega, hxr⟩
       have wy := wIn (n := y) ⟨hyr, by omega⟩
       by_cases hxy : x <= y
       . refine .inr ⟨x, y, ⟨hxL, hxy, hyH⟩, ⟨(hon x).2 hx, (hon y).2 hy⟩, fun n h1 h2 h3 => ⟨hlow n h1 h3, hhigh n h2 h3⟩, fun _ => hm, ?_⟩
         rw [rd_5 rfl (fun _ => ⟨rfl, hl⟩) hM (by rw [hX, hY, wx.1, wx.2, wy.1, wy.2]; simp; omega), hX, hY, wx.1, wy.1]
         split
         . rw [of_le (Int.le_refl _)]
         . rw [of_le hxy]
       . refine .inl ⟨rd_4c hM (by rw [hX, hY, wx.1, wy.1]; simp; omega), fun n _ _ h1 h2 h3 => ?_⟩
         have := hlow n h1 h3
         have := hhigh n h2 h3
         omega
     . refine .inl ⟨rd_4b hM (by rw [hY, wOut (by omega)]; rfl), fun n h0 _ h1 h2 h3 => ?_⟩
       have := hhigh n h2 h3
       omega
   . refine .inl ⟨rd_4a hM (by rw [hX, wOut (by omega)]; rfl), fun n _ h0 h1 h2 h3 => ?_⟩
     have := hlow n h1 h3
     omega
theorem red_one (x : Int) : Ig.red ⟨⟨true, x, x⟩, ⟨true, 0, x⟩⟩ = ⟨⟨true, x, x⟩, ⟨true, 0, x⟩⟩ := by
 rw [rd_3 rfl (fun _ => ⟨rfl, Int.le_refl _⟩) rfl (by rw [rd_has rfl]; simp), of_le (Int.le_refl _)]
theorem up_on {n m r : Int} {b : Bool} (hm : 0 < m) (hr : Cg.red ⟨b, m, r⟩) (h : Cg.on ⟨b, m, r⟩ n) : upW n ⟨b, m, r⟩ = n /\ dnW n ⟨b, m, r⟩ = n := by
 have hR := hr.2 hm
 dsimp only at hR
 have h1 : (n - r) % m = 0 := (md_eq0 hm hR.1 hR.2).1 h
 have h2 : (r - n) % m = 0 := by
  have : r - n = -(n - r) := by omega
  rw [this]; exact Int.emod_eq_zero_of_dvd (Int.dvd_neg.2 (Int.dvd_of_emod_eq_zero h1))
 unfold upW dnW
 dsimp only
 rw [h1, h2]; omega
theorem red_two {x y M R : Int} (hx : -9223372036854775808 <= x) (hy : y < 9223372036854775808) (hxy : x < y) (hM : 0 < M) (hr : Cg.red ⟨true, M, R⟩) (h1 : Cg.on ⟨true, M, R⟩ x) (h2 : Cg.on ⟨true, M, R⟩ y) : Ig.red ⟨⟨true, x, y⟩, ⟨true, M, R⟩⟩ = ⟨⟨true, x, y⟩, ⟨true, M, R⟩⟩ := by
 have e1 := (up_on hM hr h1).1
 have e2 := (up_on hM hr h2).2
 have wx := wIn (n := x) ⟨hx, by omega⟩
 have wy := wIn (n := y) ⟨by omega, hy⟩
 rw [rd_5 rfl (fun _ => ⟨rfl, by omega⟩) (by omega) (by rw [e1, e2, wx.1, wx.2, wy.1, wy.2]; simp; omega), e1, e2, wx.1, wy.1, if_neg (by omega), of_le (by omega)]
theorem zero_tidy : Ig.zero.tidy := .inl rfl
theorem one_red (x : Int) : Cg.red ⟨true, 0, x⟩ := by unfold Cg.red; dsimp only; omega
theorem red_law {i : Ig} (ht : i.tidy) (hs : i.s.inR) (hc : i.c.inR) :
 i.red.tidy /\ i.red.red = i.red /\ i.red.leq i = true /\ ∀ n, -9223372036854775808 <= n -> n < 9223372036854775808 -> (i.red.s.has n && i.red.c.has n) = (i.s.has n && i.c.has n) := by
 rcases ht with rfl | ⟨⟨h1, h2⟩, h3, h4⟩
 . exact ⟨zero_tidy, rfl, by decide, fun _ _ _ => rfl⟩
 . obtain ⟨⟨s, L, H⟩, ⟨b, M, R⟩⟩ := i
   dsimp only at *
   subst h1; subst h2
   have hfix := cg_fix (c := ⟨true, M, R⟩) rfl h4
   have hh : ∀ n, (Sp.has ⟨true, L, H⟩ n && Cg.has ⟨true, M, R⟩ n) = decide ((L <= n /\ n <= H) /\ Cg.on ⟨true, M, R⟩ n) := by
    intro n
    rw [has_on rfl h4]
    unfold Sp.has
    simp [Bool.and_assoc]
   rcases red_cases h3 h4 hs hc with ⟨e, hn⟩ | ⟨x, y, ⟨k1, k2, k3⟩, ⟨o1, o2⟩, hb, hm, e⟩
   . rw [e]
     refine ⟨zero_tidy, rfl, by unfold Ig.leq; rfl, fun n n0 n1 => ?_⟩
     rw [hh]
     have : ¬ ((L <= n /\ n <= H) /\ Cg.on ⟨true, M, R⟩ n) := fun h => hn n n0 n1 h.1.1 h.1.2 h.2
     rw [decide_eq_false this]; rfl
   . unfold Sp.inR at hs
     dsimp only at hs
     have hleq : ∀ a : Int, Sp.has ⟨true, L, H⟩ a = decide (L <= a /\ a <= H) := by intro a; unfold Sp.has; simp
     by_cases hxy : x = y
     . rw [if_pos hxy] at e
       rw [e]
       refine ⟨.inr ⟨⟨rfl, rfl⟩, Int.le_refl _, one_red x⟩, red_one x, ?_, fun n n0 n1 => ?_⟩
       . unfold Ig.leq Sp.leq Cg.leq
         dsimp only
         rw [hleq, cg_fix rfl (one_red x), hfix]
         have h0 : Cg.has ⟨true, M, R⟩ x = true := by rw [has_on rfl h4]; exact decide_eq_true o1
         have hf : Cg.factor M 0 = true := by unfold Cg.factor; split <;> simp
         rw [h0, hf]
         simp; omega
       . rw [hh]
         have h5 : (Sp.has ⟨true, x, x⟩ n && Cg.has ⟨true, 0, x⟩ n) = decide (n = x) := by
          rw [has_on rfl (one_red x)]
          unfold Sp.has Cg.on md
          rw [Bool.eq_iff_iff]
          simp
          omega
         rw [h5]
         rw [decide_eq_decide]
         constructor
         . rintro rfl; exact ⟨⟨k1, by omega⟩, o1⟩
         . rintro ⟨⟨q1, q2⟩, q3⟩
           have := hb n q1 q2 q3
           omega
     . have hm := hm hxy
       rw [if_neg hxy] at e
       rw [e]
       refine ⟨.inr ⟨⟨rfl, rfl⟩, k2, h4⟩, red_two (by omega) (by omega) (by omega) hm h4 o1 o2, ?_, fun n n0 n1 => ?_⟩
       . unfold Ig.leq Sp.leq Cg.leq
         dsimp only
         rw [hleq, hleq, hfix]
         have h0 : Cg.has ⟨true, M, R⟩ R = true := by
          rw [has_on rfl h4]
          refine decide_eq_true ?_
          unfold Cg.on md
          dsimp only
          have := h4.2 hm
          dsimp only at this
          rw [if_neg (by omega), Int.emod_eq_of_lt this.1 this.2]
         have hf : Cg.factor M M = true := by unfold Cg.factor; split <;> simp_all
         rw [h0, hf]
         simp; omega
       . rw [hh]
         have h5 : (Sp.has ⟨true, x, y⟩ n && Cg.has ⟨true, M, R⟩ n) = decide ((x <= n /\ n <= y) /\ Cg.on ⟨true, M, R⟩ n) := by
          rw [has_on rfl h4]
          unfold Sp.has
          simp [Bool.and_assoc]
         rw [h5, decide_eq_decide]
         constructor
         . rintro ⟨q, q3⟩; exact ⟨⟨by omega, by omega⟩, q3⟩
         . rintro ⟨⟨q1, q2⟩, q3⟩; exact ⟨hb n q1 q2 q3, q3⟩
theorem has_clean {i : Ig} (n : Int) : (i.clean.s.has n && i.clean.c.has n) = (i.s.has n && i.c.has n) := by
 have hcc : i.c.clean.has n = i.c.has n := by
  unfold Cg.has
  cases h : i.c.some with
  | false => have : i.c.clean = Cg.none := by unfold Cg.clean; simp [h]
             rw [this]; rfl
  | true => rw [cg_fix (c := i.c.clean) (by rw [cg_clean_some]; exact h) (Cg.clean_red _)]
 have hsc : i.s.clean.has n = i.s.has n := by
  unfold Sp.clean
  split
  . rename_i h
    unfold Sp.none at h
    unfold Sp.has
    rw [Bool.eq_iff_iff]
    simp at h ⊢
    intro h1 h2
    rcases h with h | h
    . simp [h] at h1
    . omega
  . rfl
 unfold Ig.clean
 split
 . rename_i h
   unfold Ig.none Sp.none at h
   have : (i.s.has n && i.c.has n) = false := by
    cases h1 : i.c.some with
    | false => have : i.c.has n = false := by unfold Cg.has; rw [cg_clean_some, h1]; rfl
               rw [this]; simp
    | true =>
      rw [h1] at h
      have : i.s.has n = false := by
       unfold Sp.has
       cases h2 : i.s.some with
       | false => rfl
       | true => rw [h2] at h; simp at h; simp; omega
      rw [this]; rfl
   rw [this]; rfl
 . dsimp only
   rw [hcc, hsc]
theorem v1 (v : Vl) : v.reduce.exact v.rreduce = true := by rw [reduce_eq]; exact exact_refl _
theorem v2 {v : Vl} (h1 : v.i.s.inR) (h2 : v.i.c.inR) : v.reduce.reduce.exact v.reduce = true := by
 have hc := Ig.clean_inR h1 h2
 have h := red_law (clean_tidy v.i) hc.1 hc.2
 have e : v.reduce.reduce = v.reduce := by
  unfold Vl.reduce Vl.of
  dsimp only
  rw [tidy_fix h.1, h.2.1, ofS_eq, ofS_eq, cleanS_idem]
 rw [e]; exact exact_refl _
theorem v3 {v : Vl} {n : Int} (h1 : v.i.s.inR) (h2 : v.i.c.inR) (hn : -9223372036854775808 <= n /\ n < 9223372036854775808) : v.reduce.hasInt n = v.hasInt n := by
 have hc := Ig.clean_inR h1 h2
 have h := red_law (clean_tidy v.i) hc.1 hc.2
 unfold Vl.hasInt Vl.reduce Vl.of
 dsimp only
 rw [h.2.2.2 n hn.1 hn.2, has_clean]
theorem v4 {v : Vl} (h1 : v.i.s.inR) (h2 : v.i.c.inR) : v.reduce.leq v = true := by
 have hc := Ig.clean_inR h1 h2
 have h := red_law (clean_tidy v.i) hc.1 hc.2
 unfold Vl.leq Vl.reduce Vl.of
 dsimp only
 rw [tidy_fix h.1, h.2.2.1, ofS_eq, ofS_eq, cleanS_idem]
 have : subS (cleanS v.t.names) (cleanS v.t.names) = true := subS_iff.2 fun _ h => h
 rw [this]; cases v.t.null <;> rfl
theorem v9 {n : Int} (hn : -9223372036854775808 <= n /\ n < 9223372036854775808) : Vl.hasInt ⟨⟨Sp.of (-9223372036854775808) 9223372036854775807, Cg.of 1 0⟩, ⟨false, []⟩⟩ n = true := by
 unfold Vl.hasInt
 dsimp only
 rw [of_le (by decide)]
 have e : Cg.of 1 0 = ⟨true, 1, 0⟩ := rfl
 have hr : Cg.red ⟨true, 1, 0⟩ := by unfold Cg.red; decide
 rw [e, has_on rfl hr]
 unfold Sp.has Cg.on md
 simp; omega
def okV (v : Vl) : Prop := (v.t.names.length * 16 <= 140737488351232 /\ ∀ i, i < v.t.names.length -> [st (atS v.t.names i)] = [st (gT [st (atS v.t.names i)])]) /\ v.i.s.inR /\ v.i.c.inR
structure Ky where
 name : ByteArray
 node : Int
instance : Inhabited Ky := ⟨⟨ByteArray.empty, 0⟩⟩
theorem Ky.ext_iff' {a b : Ky} : a = b ↔ a.name = b.name /\ a.node = b.node := by
 cases a; cases b; simp
instance : DecidableEq Ky := fun a b => decidable_of_iff (a.name = b.name /\ a.node = b.node) Ky.ext_iff'.symm
namespace Ky
def cl (k : Ky) : Ky := ⟨k.name, if k.node < 0 then -1 else k.node⟩
def lt (a b : Ky) : Bool := if a.name = b.name then decide (a.cl.node < b.cl.node) else decide (kS a.name < kS b.name)
end Ky
def putK (l : List Ky) (k : Ky) : List Ky := l.takeWhile (fun x => Ky.lt x k) ++ k.cl :: (l.dropWhile fun x => Ky.lt x k).filter fun x => decide (x ≠ k.cl)
end Go.Proofs.YtakcacejpbiogaaGreatDoor
namespace Go.Sx
def drawOk2 (all : List Oper) (m : Nat) : Bool :=
 let b := cloGo all []
 (List.range all.length).all fun i =>
   match all[i]? with
   | none => false
   | some o => o.after.toList.all (fun e => !Region.binds .any e || decide (e.on < i)) &&
     (List.range i).all fun j => (b.getD i 0).testBit j || decide (m <= j) || (decide (i < m) && match all[j]? with
       | some x => !clash all x o
       | none => false)
theorem drawOk2_spec {ops : Array Oper} {m : Nat} (h : drawOk2 ops.toList m = true) :
 (∀ i o, ops[i]? = some o -> ∀ e ∈ o.after.toList, Region.binds .any e = true -> e.on < i) /\
 ∀ i j x o, ops[i]? = some o -> ops[j]? = some x -> j < i -> j < m -> Cl ops i j \/ (i < m /\ clash ops.toList x o = false) := by
 simp only [drawOk2, List.all_eq_true, List.mem_range, Array.length_toList] at h
 have hcl := cloGo_spec ops ops.toList [] (fun i o ho => by simpa using ho) (fun i j h => by simp at h)
 refine ⟨?_, ?_⟩
 . intro i o ho e he hb
   have hi : i < ops.size := (Array.getElem?_eq_some_iff.1 ho).1
   have := h i hi
   simp only [Array.getElem?_toList, ho, Bool.and_eq_true, List.all_eq_true] at this
   have := this.1 e he
   simpa [hb] using this
 . intro i j x o ho hx hj hjm
   have hi : i < ops.size := (Array.getElem?_eq_some_iff.1 ho).1
   have := h i hi
   simp only [Array.getElem?_toList, ho, Bool.and_eq_true, List.all_eq_true] at this
   have := this.2 j (by simpa using hj)
   simp only [hx, Bool.or_eq_true, Bool.and_eq_true, decide_eq_true_eq, Bool.not_eq_true'] at this
   rcases this with (h1 | h1) | h1
   . exact .inl (hcl i j h1)
   . omega
   . exact .inr h1
def normH (h : List (Nat × Blk)) : Nat -> List (Nat × Blk) -> List (Nat × Blk)
 | 0, acc => acc
 | k + 1, acc => match lookB h k with
   | .gone => normH h k acc
   | b => normH h k ((k, b) :: acc)
def norm (live : List Nat) : St -> St
 | ⟨ts, h, n, m⟩ => ⟨live.map fun t => (t, lookT ts t), normH h n [], n, m⟩
def normTs (ts : List (Nat × Tm)) : List Nat -> (List (Nat × Tm) -> Prop) -> Prop
 | [], K => K []
 | t :: l, K => fT (lookT ts t) fun x => normTs ts l fun r => K ((t, x) :: r)
def normHs (h : List (Nat × Blk)) : Nat -> List (Nat × Blk) -> (List (Nat × Blk) -> Prop) -> Prop
 | 0, acc, K => K acc
 | k + 1, acc, K => fB (lookB h k) fun b => match b with
   | .gone => normHs h k acc K
   | .cells cs => normHs h k ((k, .cells cs) :: acc) K
   | .row a b c => normHs h k ((k, .row a b c) :: acc) K
   | .fz cs => normHs h k ((k, .fz cs) :: acc) K
   | .fzr a b c => normHs h k ((k, .fzr a b c) :: acc) K
   | .it a b => normHs h k ((k, .it a b) :: acc) K
def normK (live : List Nat) (st : St) (K : St -> Prop) : Prop := match st with
 | ⟨ts, h, n, m⟩ => normTs ts live fun ts' => normHs h n [] fun h' => K ⟨ts', h', n, m⟩
theorem normTs_eq (ts : List (Nat × Tm)) : ∀ (l : List Nat) (K : List (Nat × Tm) -> Prop), normTs ts l K = K (l.map fun t => (t, lookT ts t))
 | [], K => rfl
 | t :: l, K => by simp only [normTs, fT_eq, normTs_eq ts l, List.map_cons]
theorem normHs_eq (h : List (Nat × Blk)) : ∀ (n : Nat) (acc : List (Nat × Blk)) (K : List (Nat × Blk) -> Prop), normHs h n acc K = K (normH h n acc)
 | 0, acc, K => rfl
 | k + 1, acc, K => by
   simp only [normHs, normH, fB_eq]
   cases lookB h k <;> simp only [normHs_eq h k]
theorem normK_eq (live : List Nat) (st : St) (K : St -> Prop) : normK live st K = K (norm live st) := by
 obtain ⟨ts, h, n, m⟩ := st
 simp only [normK, norm, normTs_eq, normHs_eq]
theorem lookT_live (ts : List (Nat × Tm)) (t : Nat) : ∀ (l : List Nat), lookT (l.map fun t => (t, lookT ts t)) t = lookT ts t \/ lookT (l.map fun t => (t, lookT ts t)) t = topT
 | [] => .inr rfl
 | u :: l => by
   simp only [List.map_cons, lookT]
   cases hu : Nat.beq u t with
   | true => left; rw [Nat.eq_of_beq_eq_true hu]
   | false => exact lookT_live ts t l
theorem lookB_normH (h : List (Nat × Blk)) (k : Nat) : ∀ (n : Nat) (acc : List (Nat × Blk)), (k < n -> lookB h k ≠ .gone -> lookB (normH h n acc) k = lookB h k) /\ (n <= k \/ lookB h k = .gone -> lookB (normH h n acc) k = lookB acc k)
 | 0, acc => ⟨fun h => absurd h (Nat.not_lt_zero k), fun _ => rfl⟩
 | n + 1, acc => by
   simp only [normH]
   split
   . rename_i hg
     obtain ⟨h1, h2⟩ := lookB_normH h k n acc
     refine ⟨fun hk hn => h1 ?_ hn, fun hk => h2 ?_⟩
     . rcases Nat.lt_succ_iff_lt_or_eq.1 hk with h | h
       . exact h
       . subst h; exact absurd hg hn
     . rcases hk with hk | hk
       . exact .inl (by omega)
       . exact .inr hk
   . rename_i hg
     obtain ⟨h1, h2⟩ := lookB_normH h k n ((n, lookB h n) :: acc)
     refine ⟨fun hk hn => ?_, fun hk => ?_⟩
     . rcases Nat.lt_succ_iff_lt_or_eq.1 hk with h | h
       . exact h1 h hn
       . subst h; rw [h2 (.inl (Nat.le_refl _)), lookB_cons, if_pos rfl]
     . rcases hk with hk | hk
       . rw [h2 (.inl (by omega)), lookB_cons, if_neg (by omega)]
       . rw [h2 (.inr hk), lookB_cons, if_neg (fun e => by subst e; exact hg hk)]
section
variable {P : Program} {τ : Tys} {Γ : Sums} {base : Nat} {ψ ψ' : Psi} {S S' : Nat → Prop} {w w' : World} {a : Act} {st : St}
theorem Rel.norm (live : List Nat) (hr : Rel P base ψ S w st a) : Rel P base ψ S w (norm live st) a := by
 obtain ⟨ts, h, n, m⟩ := st
 have hl : ∀ k l, ψ k = some l -> lookB (normH h n []) k = lookB h k := by
  intro k l hk
  have hk2 : k < n := by
   rcases Nat.lt_or_ge k n with h1 | h1
   . exact h1
   . have := hr.sim.dom k h1; rw [hk] at this; cases this
  by_cases c : lookB h k = .gone
  . rw [(lookB_normH h k n []).2 (.inr c), c]; rfl
  . exact (lookB_normH h k n []).1 hk2 c
 have hs := hr.sim
 refine ⟨hr.bas, ⟨hs.dom, fun k l hk => ?_, fun k k' b m1 m2 e1 e2 l1 l2 => ?_, fun k b m1 e1 l1 => ?_, hs.pdom, hs.sdom⟩, hr.lim, hr.defers, fun t => ?_⟩
 . show BlkRep P ψ S w (lookB (normH h n []) k) l
   rw [hl k l hk]; exact hs.blk k l hk
 . rw [show lookB (norm live ⟨ts, h, n, m⟩).heap k = lookB h k from hl k _ e1] at l1
   rw [show lookB (norm live ⟨ts, h, n, m⟩).heap k' = lookB h k' from hl k' _ e2] at l2
   exact hs.inj k k' b m1 m2 e1 e2 l1 l2
 . rw [show lookB (norm live ⟨ts, h, n, m⟩).heap k = lookB h k from hl k _ e1] at l1
   exact hs.dis k b m1 e1 l1
 . show RepT P ψ S w (lookT (live.map fun t => (t, lookT ts t)) t) _
   rcases lookT_live ts t live with e | e
   . rw [e]; exact hr.tmps t
   . rw [e]; trivial
theorem draw_head2 (hτ : TysOk P τ) (hz : ∀ t i, τ t = some i -> zeroOk i.zero) (hΓ : SumsOk P Γ) {calls : Nat -> List Va -> St -> (Tm -> St -> Prop) -> Prop} (hcalls : CallsOk P base calls)
 {ops : Array Oper} {Q : Exit -> Act -> World -> Prop} {G : Act -> World -> Prop} {n0 m : Nat} {f : Nat -> St} {y : Nat -> Tm} {B : Nat -> Option (List Cell)} {dst : Nat -> Option Tmp}
 (hm : m <= ops.size) (hdraw : drawOk2 ops.toList m = true) (hdst : ∀ j o, ops[j]? = some o -> dst j = o.dst)
 (hw : ∀ j o, j < m -> ops.toList[j]? = some o -> DStep P τ Γ n0 ops.toList j o (y j) (B j) (f j) (f (j + 1))) (hid : idsBelow (f 0).heap n0 = true) (hb : base <= n0) {K : St -> Prop}
 (htail : ∀ (listed : Array Bool) (ψ : Psi) (S : Nat -> Prop) (w : World) (a : Act), listed.size = ops.size -> (∀ j, listed.getD j false = decide (j < m)) -> Rel P base ψ S w ⟨(f m).tmps, (f m).heap, n0 + m, (f m).lim⟩ a ->
   (∀ st' ψ' S' w' a', K st' -> Rel P base ψ' S' w' st' a' -> Ext base ψ S w ψ' S' w' -> G a' w') -> wpAny P .any ops Q (ops.size - m) listed a w) :
 ∀ (fuel : Nat) (listed : Array Bool) (ψ : Psi) (S : Nat -> Prop) (w : World) (a : Act), listed.size = ops.size -> cntD (fun j => listed.getD j false) m + fuel = ops.size ->
 (∀ j, listed.getD j false = true -> j < m) -> Down ops (fun j => listed.getD j false) -> (∀ j, j < m -> listed.getD j false = false -> ψ (n0 + j) = none) ->
 Rel P base ψ S w ⟨tsOf y dst (f 0).tmps (fun j => listed.getD j false) m, (f m).heap, n0 + m, (f m).lim⟩ a ->
 (∀ st' ψ' S' w' a', K st' -> Rel P base ψ' S' w' st' a' -> Ext base ψ S w ψ' S' w' -> G a' w') -> wpAny P .any ops Q fuel listed a w := by
 obtain ⟨hback, hord⟩ := drawOk2_spec hdraw
 have hheap := way_heap hw (by simpa using hm) hid
 have htmps := way_tmps (dst := dst) (fun j o ho => hdst j o (by simpa using ho)) hw (by simpa using hm)
 intro fuel
 induction fuel with
 | zero =>
   intro listed ψ S w a hsz hcnt hsup hdown hun hrel hq
   have hle := cntD_le (D := fun j => listed.getD j false) m
   have hfull := cntD_full (D := fun j => listed.getD j false) m (by omega)
   rw [show 0 = ops.size - m by omega]
   refine htail listed ψ S w a hsz ?_ ?_ hq
   . intro j
     by_cases hj : j < m
     . simp only [hj, decide_true]; exact hfull j hj
     . simp only [hj, decide_false]
       cases h : listed.getD j false with
       | false => rfl
       | true => exact absurd (hsup j h) hj
   . refine ⟨hrel.bas, hrel.sim, hrel.lim, hrel.defers, fun t => ?_⟩
     have := hrel.tmps t
     rw [htmps m (Nat.le_refl _)]
     rwa [tsOf_same (D' := fun _ => true) m fun j hj _ => hfull j hj] at this
 | succ fuel ih =>
   intro listed ψ S w a hsz hcnt hsup hdown hun hrel hq
   have hle := cntD_le (D := fun j => listed.getD j false) m
   rcases Nat.lt_or_eq_of_le hle with hlt | heq
   . obtain ⟨j0, hj0, hj1, hj2⟩ := cntD_lt (D := fun j => listed.getD j false) m hlt
     have getD : ∀ j, j < ops.size -> listed.getD j true = listed.getD j false := by
      intro j hj; simp [Array.getD, hsz, hj]
     have hjo : ops[j0]? = some (ops[j0]'(by omega)) := by simp <;> omega
     have hready : j0 ∈ Region.ready .any ops listed := by
      refine mem_ready.2 ⟨by rw [getD j0 (by omega)]; exact hj1, _, hjo, fun e he hbi => ?_⟩
      exact hj2 e.on (hback j0 _ hjo e (by simpa using he) hbi)
     refine ⟨fun h => by rw [h] at hready; simp at hready, ?_⟩
     intro i hi
     obtain ⟨hi1, o, ho, hi2⟩ := mem_ready.1 hi
     have hin : i < ops.size := (Array.getElem?_eq_some_iff.1 ho).1
     rw [getD i hin] at hi1
     have hcl : ∀ j, Cl ops i j -> listed.getD j false = true := fun j h => h.down hdown fun o' ho' e he hbi => by
      rw [ho] at ho'; cases ho'; exact hi2 e (by simpa using he) hbi
     have him : i < m := by
      rcases Nat.lt_or_ge i m with h | h
      . exact h
      . rcases hord i j0 _ o ho hjo (by omega) hj0 with h1 | h1
        . have := hcl _ h1; simp only [this] at hj1; cases hj1
        . exact h1.1
     have hol : ops.toList[i]? = some o := by simpa using ho
     -- the slots that it reads are as in the text's order
     have reads : ∀ t, t ∈ readsOf ops.toList o -> lookT (tsOf y dst (f 0).tmps (fun j => listed.getD j false) m) t = lookT (f i).tmps t := by
      intro t ht
      rw [htmps i (by omega), tsOf_cut (i := i) m (by omega), tsOf_same (D' := fun _ => true) i]
      . intro j hj hd
        have hjo' : ops[j]? = some (ops[j]'(by omega)) := by simp <;> omega
        rcases hord i j _ o ho hjo' hj (by omega) with h1 | h1
        . exact hcl j h1
        . rw [hdst j _ hjo'] at hd
          exact absurd ht ((clash_spec h1.2).1 t hd).1
      . intro j h1 h2 hd
        rcases Nat.lt_or_eq_of_le h1 with h3 | rfl
        . have hjo' : ops[j]? = some (ops[j]'(by omega)) := by simp <;> omega
          rcases hord j i o _ hjo' ho h3 him with h4 | h4
          . cases hD : listed.getD j false with
            | false => rfl
            | true =>
              have : listed.getD i false = true := h4.down hdown fun o' ho' e he hbi => hdown j o' ho' hD e he hbi
              rw [this] at hi1; cases hi1
          . rw [hdst j _ hjo'] at hd
            exact absurd ht ((clash_spec h4.2).2 t hd)
        . exact hi1
     have hD' : ∀ j, (listed.setIfInBounds i true).getD j false = (listed.getD j false || j == i) := by
      intro j
      by_cases hij : i = j
      . subst hij; simp [Array.getD, hsz, hin]
      . rw [getD_set_ne _ hij]
        have : (j == i) = false := by simp <;> omega
        simp [this]
     have adds : ∀ t, lookT (tsOf y dst (f 0).tmps (fun j => (listed.setIfInBounds i true).getD j false) m) t = if dst i = some t then y i else lookT (tsOf y dst (f 0).tmps (fun j => listed.getD j false) m) t := by
      intro t
      refine tsOf_add him hi1 hD' fun j h1 h2 hd hd' => ?_
      have hjo' : ops[j]? = some (ops[j]'(by omega)) := by simp <;> omega
      rcases hord j i o _ hjo' ho h1 him with h4 | h4
      . cases hD : listed.getD j false with
        | false => rfl
        | true =>
          have : listed.getD i false = true := h4.down hdown fun o' ho' e he hbi => hdown j o' ho' hD e he hbi
          rw [this] at hi1; cases hi1
      . rw [hdst j _ hjo'] at hd
        rw [hdst i _ ho] at hd'
        exact absurd hd ((clash_spec h4.2).1 t hd').2
     obtain ⟨hlim, hst, hstep⟩ := hw i o him hol
     have hlim' : inLim o.dst (f m).lim = true := by
      rw [(hheap m (Nat.le_refl _)).2.2.2.2.2, <- (hheap i (by omega)).2.2.2.2.2]; exact hlim
     -- on with the next ones
     have next : ∀ x, Known x (y i) -> ∀ ψ' S' w' a', Rel P base ψ' S' w' ⟨putT o.dst x (tsOf y dst (f 0).tmps (fun j => listed.getD j false) m), (f m).heap, n0 + m, (f m).lim⟩ a' -> Ext base ψ S w ψ' S' w' ->
      (∀ k, n0 <= k -> k < n0 + m -> k ≠ n0 + i -> ψ' k = ψ k) -> wpAny P .any ops Q fuel (listed.setIfInBounds i true) a' w' := by
      intro x hkn ψ' S' w' a' hr he hp
      refine ih _ ψ' S' w' a' (by simp [hsz]) ?_ ?_ ?_ ?_ ?_ fun st2 ψ2 S2 w2 a2 q1 q2 q3 => hq _ _ _ _ _ q1 q2 (he.trans q3)
      . have := cntD_add (D := fun j => listed.getD j false) (D' := fun j => (listed.setIfInBounds i true).getD j false) (i := i) hi1 hD' m him
        omega
      . intro j hj
        have hj := (hD' j).symm.trans hj
        simp only [Bool.or_eq_true, beq_iff_eq] at hj
        rcases hj with hj | rfl
        . exact hsup j hj
        . exact him
      . intro j oj hoj hj e he' hbi
        have hj := (hD' j).symm.trans hj
        refine (hD' e.on).trans ?_
        simp only [Bool.or_eq_true, beq_iff_eq] at hj ⊢
        rcases hj with hj | rfl
        . exact .inl (hdown j oj hoj hj e he' hbi)
        . rw [ho] at hoj; cases hoj
          exact .inl (hi2 e (by simpa using he') hbi)
      . intro j hj hDj
        have hDj := (hD' j).symm.trans hDj
        simp only [Bool.or_eq_false_iff, beq_eq_false_iff_ne] at hDj
        rw [hp (n0 + j) (by omega) (by omega) (by omega)]
        exact hun j hj hDj.1
      . refine ⟨hr.bas, hr.sim, hr.lim, hr.defers, fun t => ?_⟩
        have := hr.tmps t
        rw [adds]
        rw [lookT_putT] at this
        rw [<- hdst i o ho] at this
        by_cases hd : dst i = some t
        . rw [if_pos hd] at this ⊢; exact hkn.rep this
        . rw [if_neg hd] at this ⊢; exact this
     have guard : ∀ b, dWant ops.toList (f i) o (fun w => w = b) -> Region.wanted o (yielded ops a.tmps) = b := by
      intro b hb
      refine dWant_real (P := P) (ψ := ψ) (S := S) (w := w) hb fun j want s hg hs => ?_
      rw [<- reads s (by simp only [readsOf, hg, hs]; simp)]
      exact hrel.tmps s
     unfold wpOp
     rw [ho]
     simp only
     rcases hstep with ⟨h1, h2, h3⟩ | ⟨x, h1, h2, h3⟩
     . rw [if_neg (by rw [guard _ h1]; simp)]
       obtain ⟨st2, g1, g2⟩ := putK_rel (v := undef) (putK_put (x := undT) hlim') hrel rfl
       subst g1
       exact next undT (.inl h2) ψ S w _ g2 (Ext.refl _ _ _ _) fun _ _ _ _ => rfl
     . rw [if_pos (guard _ h1)]
       left
       have hev : ∀ z ∈ o.op.operands.toList, ev (f i) z = ev ⟨tsOf y dst (f 0).tmps (fun j => listed.getD j false) m, (f m).heap, n0 + m, (f m).lim⟩ z := by
        intro z hz
        cases z with
        | tmp t => exact (reads t (operand_reads hz)).symm
        | _ => rfl
       have hop := dOp_congr (st' := ⟨tsOf y dst (f 0).tmps (fun j => listed.getD j false) m, (f m).heap, n0 + m, (f m).lim⟩) hev ((hheap m (Nat.le_refl _)).2.2.1 i (by omega)) h2
       have hrel2 : Rel P (n0 + m) ψ S w ⟨tsOf y dst (f 0).tmps (fun j => listed.getD j false) m, (f m).heap, n0 + m, (f m).lim⟩ a := ⟨Nat.le_refl _, hrel.sim, hrel.lim, hrel.defers, hrel.tmps⟩
       cases hB : B i with
       | none =>
         rw [hB] at hop
         refine dOp_ok hτ hz hΓ hrel2 hlim' hop _ _ ?_
         rintro st' ψ' S' w' a' rfl g1 g2
         exact next x h3 ψ' S' w' a' ⟨by have := hb; show base <= n0 + m; omega, g1.sim, g1.lim, g1.defers, g1.tmps⟩ (g2.weaken (by omega)) fun k _ hk _ => g2.agr k hk
       | some cs =>
         rw [hB] at hop
         refine dOp_blk (base := base) hτ hz hrel (hun i him hi1) (by omega) (by omega) ((hheap m (Nat.le_refl _)).2.2.2.1 i cs him hB) hlim' hop _ _ ?_
         intro ψ' S' w' a' g1 g2 g3
         exact next x h3 ψ' S' w' a' g1 g2 fun k _ _ hk => g3 k hk
   . have hfull := cntD_full (D := fun j => listed.getD j false) m heq
     rw [show (fuel + 1) = ops.size - m by omega]
     refine htail listed ψ S w a hsz ?_ ?_ hq
     . intro j
       by_cases hj : j < m
       . simp only [hj, decide_true]; exact hfull j hj
       . simp only [hj, decide_false]
         cases h : listed.getD j false with
         | false => rfl
         | true => exact absurd (hsup j h) hj
     . refine ⟨hrel.bas, hrel.sim, hrel.lim, hrel.defers, fun t => ?_⟩
       have := hrel.tmps t
       rw [htmps m (Nat.le_refl _)]
       rwa [tsOf_same (D' := fun _ => true) m fun j hj _ => hfull j hj] at this
theorem draw_mix_at (hτ : TysOk P τ) (hz : ∀ t i, τ t = some i -> zeroOk i.zero) (hΓ : SumsOk P Γ) {calls : Nat -> List Va -> St -> (Tm -> St -> Prop) -> Prop} (hcalls : CallsOk P base calls) (hmix : P.follows .mixedOrders = true)
 {ops : Array Oper} {id : Nat} {Q : Exit -> Act -> World -> Prop} {G : Act -> World -> Prop} {st : St} {K : St -> Prop} (hrel : Rel P base ψ S w st a) (hid : idsBelow st.heap st.next = true) {mm : Nat} (hm : mm <= ops.size) (hdraw : drawOk2 ops.toList mm = true) {K1 : St -> Prop} (hk : dGo P τ Γ st.next (guardsOf ops.toList) ops.toList 0 (ops.toList.take mm) st fun st' => match st' with | ⟨ts, h, n, l⟩ => K1 ⟨ts, h, n + mm, l⟩)
 (htail : ∀ (listed : Array Bool) (ψ : Psi) (S : Nat -> Prop) (w : World) (st1 : St) (a : Act), K1 st1 -> listed.size = ops.size -> (∀ j, listed.getD j false = decide (j < mm)) -> Rel P base ψ S w st1 a ->
   (∀ st' ψ' S' w' a', K st' -> Rel P base ψ' S' w' st' a' -> Ext base ψ S w ψ' S' w' -> G a' w') -> wpAny P .any ops Q (ops.size - mm) listed a w)
 (hq : ∀ st' ψ' S' w' a', K st' -> Rel P base ψ' S' w' st' a' -> Ext base ψ S w ψ' S' w' -> G a' w') : (Code.region id ops true).wp P Q a w := by
 obtain ⟨f, y, B, h1, h2, h3⟩ := dGo_way _ _ _ _ hk
 have hlen : (ops.toList.take (mm)).length = mm := by simp <;> omega
 rw [hlen] at h2
 have hw : ∀ j o, j < mm -> ops.toList[j]? = some o -> DStep P τ Γ st.next ops.toList j o (y j) (B j) (f j) (f (j + 1)) := by
  intro j o hj ho
  have := h3 j o (by rw [List.getElem?_take]; simp [hj]; simpa using ho)
  simpa using this
 have hheap := way_heap hw (by simpa using hm) (by rw [h1]; exact hid) _ (Nat.le_refl _)
 obtain ⟨g1, g2, g3, g4, g5, g6⟩ := hheap
 refine wp_region_any hmix ?_
 obtain ⟨hrel1, hext1⟩ : Rel P base ψ S { w with drawn := w.drawn + 1 } st a /\ Ext base ψ S w ψ S { w with drawn := w.drawn + 1 } :=
  hrel.ext0 ⟨rfl, rfl, rfl, Nat.le_refl _, fun _ _ => rfl, fun _ h => h, fun _ h => .inl h, hrel.sim.sdom⟩
 refine draw_head2 (G := G) hτ hz hΓ hcalls hm hdraw (dst := fun j => (ops[j]?).bind (·.dst)) (fun j o ho => by simp [ho]) hw (by rw [h1]; exact hid) hrel.bas (K := K) ?_ ops.size _ ψ S _ a (by simp) ?_ ?_ ?_ ?_ ?_ ?_
 . intro listed ψ' S' w' a' q1 q2 q3 q4
   have e : (f (mm)).next = st.next := by rw [g5, h1]
   refine htail listed ψ' S' w' ⟨(f mm).tmps, (f mm).heap, st.next + mm, (f mm).lim⟩ a' ?_ q1 q2 q3 q4
   rw [<- e]; exact h2
 . have : ∀ m, cntD (fun j => (Array.replicate ops.size false).getD j false) m = 0 := by
    intro m
    induction m with
    | zero => rfl
    | succ m ih =>
      simp only [cntD, ih]
      have : (Array.replicate ops.size false)[m]?.getD false = false := by by_cases h : m < ops.size <;> simp [h]
      simp [this]
   rw [this]; simp
 . intro j hj; simp [Array.getD] at hj
 . intro i o _ hi; simp [Array.getD] at hi
 . intro j _ _; exact hrel.sim.dom _ (by omega)
 . have hts : tsOf y (fun j => (ops[j]?).bind (·.dst)) (f 0).tmps (fun j => (Array.replicate ops.size false).getD j false) (mm) = st.tmps := by
    rw [h1]
    clear hk h2 h3 hw g1 g2 g3 g4 g5 g6
    clear hm hdraw hlen
    generalize mm = m
    induction m with
    | zero => rfl
    | succ m ih => simp only [tsOf]; have : (Array.replicate ops.size false).getD m false = false := by simp [Array.getD]
                   rw [this]; exact ih
   rw [hts, g6, h1]
   have hlook : ∀ k l, ψ k = some l -> lookB (f (mm)).heap k = lookB st.heap k := by
    intro k l hk
    have : k < st.next := by
     rcases Nat.lt_or_ge k st.next with h | h
     . exact h
     . rw [hrel.sim.dom k h] at hk; cases hk
    rw [g2 k this, h1]
   have hs := hrel1.sim
   refine ⟨by have := hrel.bas; show base <= st.next + _; omega, ⟨fun k hk => hs.dom k (by have hk : st.next + mm <= k := hk; omega), fun k l hk => by rw [hlook k l hk]; exact hs.blk k l hk, fun k k' b m1 m2 e1 e2 l1 l2 => ?_, fun k b m1 e1 l1 => ?_, hs.pdom, hs.sdom⟩, hrel1.lim, hrel1.defers, hrel1.tmps⟩
   . rw [hlook _ _ e1] at l1; rw [hlook _ _ e2] at l2; exact hs.inj k k' b m1 m2 e1 e2 l1 l2
   . rw [hlook _ _ e1] at l1; exact hs.dis k b m1 e1 l1
 . intro st' ψ' S' w' a' q1 q2 q3
   exact hq _ _ _ _ _ q1 q2 (hext1.trans q3)
theorem tail_intro {F G : St -> Prop} {s : St} (h1 : F s) (h2 : G s) : ∃ s, F s /\ G s := ⟨s, h1, h2⟩
end
structure PanOp (P : Program) (base : Nat) (o : Oper) (st : St) (Q : Exit -> St -> Prop) : Prop where
 run : ∀ ψ S w a, Rel P base ψ S w st a -> ∀ (next : Act -> World -> Prop) (R : Exit -> Act -> World -> Prop),
  (∀ e st' ψ' S' w', Q e st' -> Rel P base ψ' S' w' st' a -> Ext base ψ S w ψ' S' w' -> R e a w') -> o.wp P a w next R
theorem draw_pan {P : Program} {t : TT} (ht : t.ok P) {l : List (Nat × Sm)} (hl : sumsOk P l) (hmix : P.follows .mixedOrders = true) {base : Nat} {ops : Array Oper} {id : Nat} {st : St} {Q : Exit -> St -> Prop} (ch : List PanicEntry) (m : Nat) {o : Oper} (ho : ops.toList[m]? = some o) (hg : o.guard = none)
 (hp : (drawOk2 ops.toList m && (Region.ready .any ops ((List.range ops.size).map fun j => Nat.blt j m).toArray == [m])) = true) (hid : idsBelow st.heap st.next = true)
 (hk : dGo P t.get (sums l) st.next (guardsOf ops.toList) ops.toList 0 (ops.toList.take m) st fun st' => match st' with
   | ⟨ts, h, n, lm⟩ => PanOp P base o ⟨ts, h, n + m, lm⟩ fun e s => e = .panic ch /\ Q e s) : ASat P base (.region id ops true) st Q := by
 simp only [Bool.and_eq_true, beq_iff_eq] at hp
 obtain ⟨hd, hrd⟩ := hp
 have hml : m < ops.size := by
  have := (List.getElem?_eq_some_iff.1 ho).1
  simpa using this
 have ho' : ops[m]? = some o := by simpa using ho
 refine ⟨fun ψ S w a hr => ?_⟩
 refine draw_mix_at (Q := fun e a' w' => ∃ st' ψ' S', Q e st' /\ Rel P base ψ' S' w' st' a' /\ Ext base ψ S w ψ' S' w')
  (G := fun a' w' => ∃ st' ψ' S', Q (.panic ch) st' /\ Rel P base ψ' S' w' st' a' /\ Ext base ψ S w ψ' S' w') (TT.tysOk ht) (TT.zeros ht) (sums_ok hl) (vcCall_ok (sums_ok hl) base) hmix hr hid (Nat.le_of_lt hml) hd (K := Q (.panic ch)) (id := id)
  (K1 := fun st1 => PanOp P base o st1 fun e s => e = .panic ch /\ Q e s) hk ?_ ?_
 . intro listed ψ1 S1 w1 st1 a1 hk1 hsz hls hrel hq
   have e : listed = ((List.range ops.size).map fun j => Nat.blt j m).toArray := by
    apply Array.ext
    . simp [hsz]
    . intro i h1 h2
      have := hls i
      simp only [Array.getD, h1, dite_true] at this
      simp only [List.getElem_toArray, List.getElem_map, List.getElem_range]
      rw [show listed[i] = decide (i < m) from this]
      rw [Bool.eq_iff_iff, decide_eq_true_eq, Nat.blt_eq]
   rw [<- e] at hrd
   rw [show ops.size - m = (ops.size - m - 1) + 1 by omega]
   refine wpAny_all hrd (by simp) fun j hj => ?_
   have hj : j = m := by simpa using hj
   subst hj
   unfold wpOp
   rw [ho']
   have hw : Region.wanted o (yielded ops a1.tmps) = true := by simp [Region.wanted, hg]
   simp only [hw, if_true]
   refine .inl (hk1.run ψ1 S1 w1 a1 hrel _ _ fun e st' ψ' S' w' h1 h2 h3 => ?_)
   obtain ⟨rfl, h1⟩ := h1
   exact hq st' ψ' S' w' a1 h1 h2 h3
 . intro st' ψ' S' w' a' h1 h2 h3
   exact ⟨st', ψ', S', h1, h2, h3⟩
theorem draw_cut {P : Program} {t : TT} (ht : t.ok P) {l : List (Nat × Sm)} (hl : sumsOk P l) (hmix : P.follows .mixedOrders = true) {base : Nat} {ops : Array Oper} {id : Nat} {st : St} {Q : Exit -> St -> Prop} (p : Plan) (live : List Nat)
 (hp : (Region.noSelect ops && planOk ops ops.size (Array.replicate ops.size false) p) = true)
 (hk : ∃ s, vcP P t.get (vcCall P (sums l) base) ops.toList p st (fun st' => normK live st' fun s' => s' = s) /\ Q .normal s) : ASat P base (.region id ops true) st Q := by
 obtain ⟨s, hv, hs⟩ := hk
 have h : ASat P base (.region id ops true) st (fun e st' => e = .normal /\ norm live st' = s) := by
  refine draw_plan ht hl hmix p hp ?_
  have e : (fun st' => normK live st' fun s' => s' = s) = fun st' => Exit.normal = .normal /\ norm live st' = s := by
   funext st'; rw [normK_eq]; simp
  rw [<- e]; exact hv
 refine ⟨fun ψ S w a hr => wp_mono (h.run ψ S w a hr) ?_⟩
 rintro e a' w' ⟨st', ψ', S', ⟨rfl, h1⟩, h2, h3⟩
 exact ⟨s, ψ', S', hs, by rw [<- h1]; exact h2.norm live, h3⟩
end Go.Sx
namespace Go.Proofs.YtakcacejpbiogaaGreatDoor
open Go.Sx
theorem fc_calls {P : Program} {f : Nat} {F : List Ar -> Option Rs} (hc : Callable P f) (h : ∀ xs pre r us, F xs = some ⟨pre, r, us⟩ -> pre ->
 ∃ (vs : List Value) (v : Value), xs = vs.map (fun x => Ar.c (.d (.v x))) /\ us = [] /\ (∀ w, Calls P f vs.toArray w fun e w' => e = .returned v /\ w' = w) /\ ∀ S w, RepRt P S w r v []) : FC P f F := by
 intro xs pre r us hF hpre S w vals ls hS hr hsep
 obtain ⟨vs, v, rfl, rfl, hrun, hrep⟩ := h _ _ _ _ hF hpre
 have hrows : ∀ (vs : List Value), arsRows (vs.map fun x => Ar.c (.d (.v x))) = [] := by
  intro vs
  induction vs with
  | nil => rfl
  | cons v vs ih => simp [arsRows, arRows, icRows, ih]
 have e := repArs_rows hr (hrows vs)
 subst e
 have hv : vals = vs := by
  clear hrun hF hrows
  induction vs generalizing vals with
  | nil => cases vals with | nil => rfl | cons _ _ => simp [RepArs] at hr
  | cons x vs ih => cases vals with
    | nil => simp [RepArs] at hr
    | cons u vals =>
      simp only [List.map_cons, RepArs] at hr
      obtain ⟨l1, l2, e, h1, h2⟩ := hr
      obtain ⟨rfl, rfl⟩ := List.append_eq_nil_iff.1 e.symm
      have h1 : RepIcs S w [.d (.v x)] [u] [] := h1
      have h1 : RepD S w (.v x) u := h1.1
      cases h1
      rw [ih _ h2]
 subst hv
 refine .inl ⟨hc, (hrun w).mono ?_⟩
 rintro e w' ⟨rfl, rfl⟩
 refine ⟨v, S, [], rfl, hrep S w', ?_, trivial, ⟨rfl, rfl, rfl, Nat.le_refl _, fun _ _ _ => rfl, Later.refl _ _, fun _ h => .inl h, fun b hb => .inl hb, hS⟩⟩
 rw [hrows]; trivial
def bAt (s : ByteArray) (i : Nat) : Nat := (s.get! i).toNat
def letB (c : Int) : Bool := decide (97 <= c /\ c <= 122) || decide (65 <= c /\ c <= 90) || decide (c = 95)
def digB (c : Int) : Bool := decide (48 <= c /\ c <= 57)
def kindB (c : Int) : Int := if c = 32 \/ c = 9 \/ c = 10 \/ c = 13 then 1 else if letB c = true then 2 else if digB c = true then 3 else 0
def goodB (s : ByteArray) (i : Nat) : Bool := letB (bAt s i) || (digB (bAt s i) && decide (i ≠ 0))
def plainB (s : ByteArray) : Bool := decide (s.size ≠ 0) && (List.range s.size).all (goodB s)
theorem decode_lo {s : ByteArray} {i : Nat} (h : bAt s i < 128) : Utf8.decode s i = (bAt s i, 1) := by
 unfold Utf8.decode bAt at *
 simp only [Nat.add_zero]
 rw [if_pos h]
theorem decode_hi {s : ByteArray} {i : Nat} (h : ¬ bAt s i < 128) : 128 <= (Utf8.decode s i).1 := by
 unfold Utf8.decode bAt at *
 simp only [Nat.add_zero]
 rw [if_neg h]
 have hr : Utf8.runeError = 65533 := rfl
 (repeat' split) <;> (try simp only [Bool.and_eq_true, decide_eq_true_eq] at *) <;> (try dsimp only) <;> omega
theorem not_good_hi {s : ByteArray} {i : Nat} (h : ¬ bAt s i < 128) : goodB s i = false := by
 unfold goodB letB digB
 simp only [Bool.or_eq_false_iff, Bool.and_eq_false_iff, decide_eq_false_iff_not]
 omega
theorem plain_no {s : ByteArray} {i : Nat} (hi : i < s.size) (h : goodB s i = false) : plainB s = false := by
 unfold plainB
 cases hh : (List.range s.size).all (goodB s) with
 | false => simp
 | true =>
   have := List.all_eq_true.1 hh i (List.mem_range.2 hi)
   rw [h] at this; cases this
theorem plain_yes {s : ByteArray} (h : ∀ i, i < s.size -> goodB s i = true) : plainB s = decide (s.size ≠ 0) := by
 unfold plainB
 rw [List.all_eq_true.2 fun i hi => h i (List.mem_range.1 hi), Bool.and_true]
def FKind : List Ar -> Option Rs
 | [.c (.d (.v (.int .i32 i0)))] => some ⟨True, .va (.c (.d (it (kindB i0)))), []⟩
 | _ => none
theorem fcKind : FC Tryz.prog 77 FKind := by
 intro xs pre r us h hp
 unfold FKind at h
 split at h
 . rename_i i0
   cases h
   refine fcat tys_ok (l := []) trivial Tryz.func77 rfl (by kernel_rfl) true ?_
   repeat' (first | exact trivial | refine ⟨?_, ?_⟩ | intro _)
   all_goals first | (with_reducible first | apply qa | apply qb | apply qc | apply qd) | (conv => whnf)
   all_goals (try simp only [beq_iff_eq, beq_eq_false_iff_ne, decide_eq_true_eq, decide_eq_false_iff_not, ge_iff_le] at *)
   all_goals (refine congrArg (Value.int .i64) ?_; unfold kindB letB digB; simp only [Bool.or_eq_true, decide_eq_true_eq])
   all_goals first | ((repeat' split) <;> omega)
 . cases h
end Go.Proofs.YtakcacejpbiogaaGreatDoor
