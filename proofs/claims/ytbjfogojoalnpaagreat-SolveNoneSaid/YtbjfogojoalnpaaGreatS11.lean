/- The contracts that a run takes as they stand. No condition. -/
import Derived.Test.YtbjfogojoalnpaaGreatS10
import Derived.Test.YtbjfogojoalnpaaGreatRows
import Derived.JoinedOf
import Derived.KernelRfl
set_option linter.all false
set_option maxHeartbeats 8000000
set_option maxRecDepth 100000
namespace Go.Proofs.YtbjfogojoalnpaaGreat
open Go.Sx
open Go.RowKit Go.Lib Go.Sort
def xCmp : List Ar -> Option (Rt × List (Option (Nat -> List DV)))
 | [.c (.d (.v (.string x))), .c (.d (.v (.string y)))] => some (.va (.c (.d (it (cfL x.data.toList y.data.toList)))), [])
 | _ => none
theorem xCmp_ok (xs : List Ar) (r : Rt) (us : List (Option (Nat -> List DV))) (h : xCmp xs = some (r, us)) : ∃ pre, FStrCmp xs = some ⟨pre, r, us⟩ /\ pre := by
 unfold xCmp at h
 split at h
 . cases h; exact ⟨_, rfl, trivial⟩
 . cases h
def xIns (sz : Nat) : List Ar -> Option (Rt × List (Option (Nat -> List DV)))
 | [.c (.ow z n0 f0), .c (.d (.v (.int .i64 i1))), .c (.ow z2 n2 f2)] => match Nat.beq z sz, Nat.beq z2 sz, decide ((n0 <= 1000000000) /\ (-9223372036854775808 <= i1 /\ i1 < 9223372036854775808) /\ (n2 <= 1000000000) /\ ((0 <= i1 /\ i1 <= n0) /\ n2 = 1)) with
   | true, true, true => some (.va (.c (.ow sz (n0 + 1) (insF f0 (i1).toNat (f2 0)))), [none, some f2])
   | _, _, _ => none
 | _ => none
theorem xInsK_ok (xs : List Ar) (r : Rt) (us : List (Option (Nat -> List DV))) (h : xIns 2 xs = some (r, us)) : ∃ pre, FInsertK xs = some ⟨pre, r, us⟩ /\ pre := by
 unfold xIns at h
 split at h
 . split at h
   . rename_i h1 h2 h3
     have h1 := Nat.eq_of_beq_eq_true h1
     have h2 := Nat.eq_of_beq_eq_true h2
     subst h1 h2
     cases h; exact ⟨_, rfl, of_decide_eq_true h3⟩
   . cases h
 . cases h
theorem xInsD_ok (xs : List Ar) (r : Rt) (us : List (Option (Nat -> List DV))) (h : xIns 12 xs = some (r, us)) : ∃ pre, Sd.FInsertD xs = some ⟨pre, r, us⟩ /\ pre := by
 unfold xIns at h
 split at h
 . split at h
   . rename_i h1 h2 h3
     have h1 := Nat.eq_of_beq_eq_true h1
     have h2 := Nat.eq_of_beq_eq_true h2
     subst h1 h2
     cases h; exact ⟨_, rfl, of_decide_eq_true h3⟩
   . cases h
 . cases h
def kyB : List DV -> Bool
 | [.v (.string _), .v (.int .i64 n)] => decide (-9223372036854775808 <= n /\ n < 9223372036854775808)
 | _ => false
theorem kyB_ok {l : List DV} (h : kyB l = true) : l = kyC (gKy l) /\ rI (gKy l).node := by
 unfold kyB at h
 split at h
 . have h := of_decide_eq_true h
   exact ⟨rfl, h⟩
 . cases h
def xRow : List Ar -> Option (Rt × List (Option (Nat -> List DV)))
 | [.c (.d (.v (.slice none 0 0)))] => some (.va (.c (.ow 2 0 (rwK []))), [])
 | [.c (.d (.lst 2 n0 f0))] => match Nat.ble n0 1000000000 && (List.range n0).all fun i => kyB (f0 i) with
   | true => some (.va (.c (.ow 2 (rowK (gKs n0 f0)).length (rwK (rowK (gKs n0 f0))))), [])
   | false => none
 | _ => none
def GRow : List Ar -> Option Rs
 | [.c (.d (.v (.slice none 0 0)))] => some ⟨True, .va (.c (.ow 2 0 (rwK []))), []⟩
 | xs => FRowK xs
theorem fcGRow : FC Tryz.prog 95 GRow := by
 intro xs pre r us h hp
 unfold GRow at h
 split at h
 . cases h
   refine FCat.of_eq (as' := [.c (.d (.lst 2 0 fun _ => []))]) ⟨⟨rfl, rfl⟩, trivial⟩ rfl rfl ?_
   exact fcRowK [.c (.d (.lst 2 0 fun _ => []))] _ _ _ rfl ⟨Nat.zero_le _, ⟨fun i hi => absurd hi (Nat.not_lt_zero i)⟩⟩
 . exact fcRowK _ _ _ _ h hp
theorem xRow_ok (xs : List Ar) (r : Rt) (us : List (Option (Nat -> List DV))) (h : xRow xs = some (r, us)) : ∃ pre, GRow xs = some ⟨pre, r, us⟩ /\ pre := by
 unfold xRow at h
 split at h
 . cases h; exact ⟨_, rfl, trivial⟩
 . split at h
   . rename_i h1
     obtain ⟨h1, h2⟩ := Sx.bAnd h1
     cases h
     exact ⟨_, rfl, Nat.le_of_ble_eq_true h1, ⟨fun i hi => kyB_ok (List.all_eq_true.1 h2 i (List.mem_range.2 hi))⟩⟩
   . cases h
 . cases h
def midB : List Va -> Bool
 | [.c (.osl _ _ _ n), .c (.d (.v (.int .i64 i))), .c (.osl _ _ _ _)] => decide (i < n)
 | _ => false
def nfS (f : Nat) (aL : List Va) (st : St) : Option ((Tm -> St -> Bool) -> Bool) := match Nat.beq f 128 with
 | true => some (callF [] xCmp aL st)
 | false => match Nat.beq f 95 with
   | true => some (callF [] xRow aL st)
   | false => match Nat.beq f 44 with
     | true => match midB aL with
       | true => some (callF [true, false, true] (xIns 12) aL st)
       | false => none
     | false => match Nat.beq f 150 with
       | true => match midB aL with
         | true => some (callF [true, false, true] (xIns 2) aL st)
         | false => none
       | false => none
noncomputable def nfR (x : TT) : Nf := fun r f aL st => match nfS f aL st with
 | some B => some B
 | none => match Nat.beq f 119 with
   | true => some (dfrB Tryz.prog x.get (fun f => Tryz.prog.funcs[f]?) r f aL st)
   | false => none
theorem ft_ok : FtOk Tryz.prog fun f => Tryz.prog.funcs[f]? := ft_all (by kernel_rfl)
theorem nfR_ok {x : TT} (hx : x.ok Tryz.prog) : NfOk Tryz.prog (nfR x) := by
 intro r hr f aL st B h base K hk
 unfold nfR at h
 split at h
 . rename_i B1 h1
   cases h
   unfold nfS at h1
   split at h1
   . rename_i e; have e := Nat.eq_of_beq_eq_true e; subst e; cases h1; exact callF_ok fcStrCmp xCmp_ok hk
   . split at h1
     . rename_i e; have e := Nat.eq_of_beq_eq_true e; subst e; cases h1; exact callF_ok fcGRow xRow_ok hk
     . split at h1
       . rename_i e; have e := Nat.eq_of_beq_eq_true e; subst e
         split at h1
         . cases h1; exact callF_ok Sd.fcInsertD xInsD_ok hk
         . cases h1
       . split at h1
         . rename_i e; have e := Nat.eq_of_beq_eq_true e; subst e
           split at h1
           . cases h1; exact callF_ok fcInsertK xInsK_ok hk
           . cases h1
         . cases h1
 . split at h
   . cases h; exact dfrB_ok (TT.tysOk hx) (TT.zeros hx) hr ft_ok hk
   . cases h
end Go.Proofs.YtbjfogojoalnpaaGreat
namespace Go.Proofs.YtbjfogojoalnpaaGreat
open Go.Sx
theorem sLives : FC Tryz.prog 12 FYes := fc_yes tys_ok (by kernel_rfl) (nfR_ok tys_ok) ft_ok (fn := Tryz.f12) Tryz.func12 rfl (by kernel_rfl) 5000 (by kernel_rfl)
def nfN (_ : RB) (f : Nat) (aL : List Va) (st : St) : Option ((Tm -> St -> Bool) -> Bool) := match Nat.beq f 12 with
 | true => some (callF [] xYes aL st)
 | false => none
theorem nfN_ok : NfOk Tryz.prog nfN := by
 intro r hr f aL st B h base K hk
 unfold nfN at h
 split at h
 . rename_i e; have e := Nat.eq_of_beq_eq_true e; subst e; cases h; exact callF_ok sLives xYes_ok hk
 . cases h
def FSNone : List Ar -> Option Rs
 | [.agg [.d (.v (.string _)), .d (.v (.int .i64 _))], .agg [.d (.lst _ _ _), .d (.lst _ _ _)]] => some ⟨True, .va (.c (.d (.v (.bool true)))), []⟩
 | _ => none
theorem fcSNone : FC Tryz.prog 3 FSNone := by
 intro xs pre r us h hp
 unfold FSNone at h
 split at h
 . cases h
   exact fcat_run tys_ok (by kernel_rfl) nfN_ok ft_ok (fn := Tryz.f3) Tryz.func3 rfl (by kernel_rfl) rfl rfl rfl 500 (by kernel_rfl)
 . cases h
set_option maxRecDepth 1000000
set_option maxRecDepth 1000000
set_option maxRecDepth 1000000
set_option maxRecDepth 1000000
set_option maxRecDepth 1000000
set_option maxRecDepth 1000000
set_option maxRecDepth 1000000
set_option maxRecDepth 1000000
end Go.Proofs.YtbjfogojoalnpaaGreat
