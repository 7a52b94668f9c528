/- Numbers out of texts. No condition. -/
import Derived.Test.YtakcacejpbiogaaDoorKey8
namespace Go.Proofs.YtakcacejpbiogaaDoor
set_option linter.all false
open Go.Sx

open Go.RowKit Go.Lib Go.Sort
def numM (s : ByteArray) : Int × Int :=
  if oddIx s ≥ 0 ∨ s = ⟨#[]⟩ ∨ (s.size > 1 ∧ byteAt s 0 = 48) then (0, 3) else match Lib.atoiAll s.data.toList with
    | .ok v => (v, 0)
    | _ => (0, 4)
theorem num_bad {s : ByteArray} (h : oddIx s ≥ 0 ∨ s = ⟨#[]⟩ ∨ (s.size > 1 ∧ byteAt s 0 = 48)) : numM s = (0, 3) := if_pos h
theorem num_ok {s : ByteArray} {v : Int} (h : ¬ (oddIx s ≥ 0 ∨ s = ⟨#[]⟩ ∨ (s.size > 1 ∧ byteAt s 0 = 48))) (hv : Lib.atoiAll s.data.toList = .ok v) : numM s = (v, 0) := by unfold numM; rw [if_neg h, hv]
theorem num_err {s : ByteArray} (h : ¬ (oddIx s ≥ 0 ∨ s = ⟨#[]⟩ ∨ (s.size > 1 ∧ byteAt s 0 = 48))) (hv : ∀ v, Lib.atoiAll s.data.toList ≠ .ok v) : numM s = (0, 4) := by
  unfold numM; rw [if_neg h]
  split
  · rename_i v e; exact absurd e (hv v)
  · rfl
theorem not_bad {s : ByteArray} (h1 : (s.toList == (⟨#[]⟩ : ByteArray).toList) = false) (h2 : decide (oddIx s ≥ 0) = false) (h3 : decide ((s.size : Int) > 1) = false ∨ (byteAt s (Int.toNat 0) == 48) = false) : ¬ (oddIx s ≥ 0 ∨ s = ⟨#[]⟩ ∨ (s.size > 1 ∧ byteAt s 0 = 48)) := by
  rw [seq_iff] at h1
  have h1 := of_decide_eq_false h1
  have h2 := of_decide_eq_false h2
  rintro (q | q | ⟨q1, q2⟩)
  · exact h2 q
  · exact h1 q
  · rcases h3 with h3 | h3
    · have := of_decide_eq_false h3; omega
    · exact (beq_eq_false_iff_ne.1 h3) q2
theorem err_var {S : Nat → Prop} {w : World} (h : GInv Tryd.prog S w) : (∃ ev, w.cell? ⟨2, 0, none⟩ = some ev ∧ (ev = .nilIface ∨ ∃ te pe, ev = .iface te pe)) ∧ ∃ ev, w.cell? ⟨3, 0, none⟩ = some ev ∧ (ev = .nilIface ∨ ∃ te pe, ev = .iface te pe) := by
  constructor
  · obtain ⟨gl, hgl, hn⟩ := Option.map_eq_some_iff.1 (show (Tryd.prog.globals[2]?).map (·.name) = some "strconv.ErrSyntax" by kernel_rfl)
    obtain ⟨_, arr, e, fr, h1, h2⟩ := h 2 gl hgl (by rw [hn]; simp [gNames])
    obtain ⟨ev, h3, h4⟩ := h2.err (.inr (.inl hn))
    exact ⟨ev, by rw [cell_at h1, h3]; rfl, h4⟩
  · obtain ⟨gl, hgl, hn⟩ := Option.map_eq_some_iff.1 (show (Tryd.prog.globals[3]?).map (·.name) = some "strconv.ErrRange" by kernel_rfl)
    obtain ⟨_, arr, e, fr, h1, h2⟩ := h 3 gl hgl (by rw [hn]; simp [gNames])
    obtain ⟨ev, h3, h4⟩ := h2.err (.inl hn)
    exact ⟨ev, by rw [cell_at h1, h3]; rfl, h4⟩
/-- a call of Atoi: a number, or an error that is not nil -/
theorem acall_atoi {base : Nat} {st1 : St} {K : Tm → St → Prop} {s : ByteArray} (hs : s.size ≤ 281474976710656)
    (hok : ∀ v, Lib.atoiAll s.data.toList = .ok v → K (.tup [.c (.d (it v)), .c (.d (.v .nilIface))]) st1)
    (herr : (∀ v, Lib.atoiAll s.data.toList ≠ .ok v) → ∀ n t a, K (.tup [.c (.d (it n)), .c (.d (.v (.iface t (.pointer a))))]) st1) :
    ACall Tryd.prog base 69 [.c (.d (.v (.string s)))] st1 K := by
  refine ⟨fun ψ S w a vals hr hv => ?_⟩
  obtain ⟨v0, vs, rfl⟩ : ∃ v0 vs, vals = v0 :: vs := by
    cases vals with
    | nil => exact hv.elim
    | cons v vs => exact ⟨v, vs, rfl⟩
  obtain ⟨h1, h2⟩ := hv
  cases vs with
  | cons _ _ => exact h2.elim
  | nil =>
    have h1 : RepD S w (.v (.string s)) v0 := h1
    cases h1
    have hS := hr.sim.sdom
    have fin : ∀ (w' : World) (n : Int) (x : Value), Ext0 S w S w' → Scalar x → K (.tup [.c (.d (it n)), .c (.d (.v x))]) st1 →
        ∃ r st' v ψ' S', Ending.returned (.tuple #[.int .i64 n, x]) = .returned v ∧ K r st' ∧ Rel Tryd.prog base ψ' S' w' st' a ∧ RepT Tryd.prog ψ' S' w' r v ∧ Ext base ψ S w ψ' S' w' := fun w' n x hx hsc hK => by
      obtain ⟨g1, g2⟩ := hr.ext0 hx
      exact ⟨_, _, _, ψ, S, rfl, hK, g1, ⟨_, rfl, .v trivial, .v hsc, trivial⟩, g2⟩
    refine .inl ⟨callable_of Tryd.func69 rfl rfl, ?_⟩
    obtain ⟨⟨e1, q1, q2⟩, e2, q3, q4⟩ := err_var hS.glob
    cases hat : Lib.atoiAll s.data.toList with
    | ok v =>
      refine (Tryd.strconv_Atoi_ok s (by omega) v hat w).mono ?_
      rintro e w' ⟨rfl, hw⟩
      refine fin w' v .nilIface ?_ trivial (hok v hat)
      rcases hw with rfl | ⟨t, rfl⟩
      · exact ext0_same hS.lt rfl rfl rfl (Nat.le_refl _) fun _ _ => rfl
      · exact ext0_below hS.lt (Lib.bytesWorld_below _ _ _)
    | range =>
      refine (Tryd.strconv_Atoi_range s hs hat e2 w q3 q4).mono ?_
      rintro e w' ⟨n, rfl, _, _, hb⟩
      exact fin w' _ _ (ext0_below hS.lt hb) trivial (herr (fun v h => by rw [hat] at h; cases h) _ _ _)
    | _ =>
      refine (Tryd.strconv_Atoi_syntax s hs hat e1 w q1 q2).mono ?_
      rintro e w' ⟨n, rfl, _, _, hb⟩
      exact fin w' 0 _ (ext0_below hS.lt hb) trivial (herr (fun v h => by rw [hat] at h; cases h) _ _ _)
def FKNum : List Ar → Option Rs
  | [.c (.d (.v (.string x0)))] => some ⟨(x0.size ≤ 281474976710656), .tup [.c (.d (it (numM x0).1)), .c (.d (it (numM x0).2))], []⟩
  | _ => none
set_option maxHeartbeats 3000000 in
set_option maxRecDepth 100000 in
theorem fcKNum : FC Tryd.prog 43 FKNum := by
  intro xs pre r us h hp
  unfold FKNum at h
  split at h
  · rename_i x0
    cases h
    have hp0 := hp
    refine fcat tys_ok (l := [(67, ⟨[], FIxFunc⟩), (68, ⟨[], FOddC⟩)]) ⟨fcIxFunc, fcOddC, trivial⟩ Tryd.func43 rfl (by kernel_rfl) false ?_
    repeat' (first | exact trivial | (with_reducible exact (by omega : x0.size ≤ 9223372036854775807)) | refine ⟨?_, ?_⟩ | intro _)
    all_goals first | (with_reducible show (_ : Int) ≤ _) | (with_reducible show (_ : Int) < _) | (with_reducible show (_ : Nat) ≤ _) | (with_reducible show (_ : Nat) < _) | (conv => whnf)
    all_goals first | rfl | omega | (rw [num_bad (.inl (of_decide_eq_true ‹decide (oddIx x0 ≥ 0) = true›))]) | (rw [num_bad (.inr (.inl (of_decide_eq_true ((seq_iff _ _).symm.trans ‹(x0.toList == _) = true›))))]) | (rw [num_bad (.inr (.inr ⟨by have := of_decide_eq_true ‹decide ((x0.size : Int) > 1) = true›; omega, eq_of_beq ‹(byteAt x0 (Int.toNat 0) == 48) = true›⟩))]) | skip
    all_goals first | (have := of_decide_eq_true ‹decide ((x0.size : Int) > 1) = true›; omega) | skip
    all_goals (have hnb := not_bad (s := x0) ‹(x0.toList == _) = false› ‹decide (oddIx x0 ≥ 0) = false› (by first | exact .inl ‹_› | exact .inr ‹_›))
    all_goals (refine acall_atoi hp0 (fun v hv => ?_) (fun hv n t a => ?_))
    all_goals repeat' (first | exact trivial | refine ⟨?_, ?_⟩ | intro _)
    all_goals first | (with_reducible show (_ : Int) ≤ _) | (with_reducible show (_ : Int) < _) | (with_reducible show (_ : Nat) ≤ _) | (with_reducible show (_ : Nat) < _) | (conv => whnf)
    all_goals first | (exact absurd ‹(!true) = true› (by decide)) | (exact absurd ‹(!false) = false› (by decide)) | (rw [num_ok hnb ‹_›]; done) | (rw [num_err hnb ‹_›]; done) | (rw [num_ok hnb ‹_›]; rfl) | (rw [num_err hnb ‹_›]; rfl) | trace_state
  · cases h

end Go.Proofs.YtakcacejpbiogaaDoor
