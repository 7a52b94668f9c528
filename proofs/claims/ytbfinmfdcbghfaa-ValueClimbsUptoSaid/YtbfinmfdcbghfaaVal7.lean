/- What the document's joins and widenings of values are. No condition. -/
import Derived.Test.YtbfinmfdcbghfaaVal6
namespace Go.Proofs.Ytbfinmfdcbghfaa
set_option linter.all false
open Go.Sx

theorem okV_rc {i : Ig} {z : Bool} {l : List ByteArray} (h : okV ⟨i, ⟨z, l⟩⟩) : okV ⟨i.clean, ⟨z, cleanS l⟩⟩ := by
  have e : (⟨i.clean, ⟨z, cleanS l⟩⟩ : Vl) = Vl.rclean ⟨i, ⟨z, l⟩⟩ := rfl
  rw [e]; exact okV_rclean h
theorem rnone_key {v : Vl} : (((cleanS (cleanS v.t.names)).length : Int) + (if v.t.null then 1 else 0) == 0) = decide (((cleanS (cleanS v.t.names)).length : Int) + (if v.t.null then 1 else 0) = 0) := by rw [Bool.eq_iff_iff]; simp
theorem rnone_t {v : Vl} (h : (!v.rclean.i.s.some) = true) : Value.bool (((cleanS (cleanS v.t.names)).length : Int) + (if v.t.null then 1 else 0) == 0) = Value.bool v.rnone := by unfold Vl.rnone; rw [h, rnone_key]; rfl
theorem rnone_f {v : Vl} (h : (!v.rclean.i.s.some) = false) : Value.bool false = Value.bool v.rnone := by unfold Vl.rnone; rw [h]; rfl
theorem rleq_1 {a b : Vl} (h : a.rclean.i.s.leq b.rclean.i.s = true) (h2 : a.rclean.i.c.leq b.rclean.i.c = true) : Value.bool ((!a.t.null || b.t.null) && subS (cleanS a.t.names) (cleanS b.t.names)) = Value.bool (Vl.rleq a b) := by unfold Vl.rleq; rw [h, h2]; rfl
theorem rleq_2 {a b : Vl} (h : a.rclean.i.s.leq b.rclean.i.s = true) (h2 : a.rclean.i.c.leq b.rclean.i.c = false) : Value.bool false = Value.bool (Vl.rleq a b) := by unfold Vl.rleq; rw [h, h2]; rfl
theorem rleq_3 {a b : Vl} (h : a.rclean.i.s.leq b.rclean.i.s = false) : Value.bool false = Value.bool (Vl.rleq a b) := by unfold Vl.rleq; rw [h]; rfl
theorem rnarrow_1 {a b : Vl} (h : (!Vl.rleq b.rclean a.rclean) = true) : Vl.rnarrow a b = a.rclean := by unfold Vl.rnarrow; rw [if_pos h]
theorem rnarrow_2 {a b : Vl} (h : (!Vl.rleq b.rclean a.rclean) = false) (h2 : b.rclean.rnone = true) : Vl.rnarrow a b = Vl.zero := by unfold Vl.rnarrow; rw [if_neg (by rw [h]; decide), if_pos h2]
theorem rnarrow_3 {a b : Vl} (h : (!Vl.rleq b.rclean a.rclean) = false) (h2 : b.rclean.rnone = false) (h3 : (a.rclean.i.c.m == 1) = true) : Vl.rnarrow a b = Vl.rclean ⟨⟨a.rclean.i.s.narrow b.rclean.i.s, b.rclean.i.c⟩, a.rclean.t⟩ := by unfold Vl.rnarrow; rw [if_neg (by rw [h]; decide), if_neg (by rw [h2]; decide), if_pos (by simpa using h3)]
theorem rnarrow_4 {a b : Vl} (h : (!Vl.rleq b.rclean a.rclean) = false) (h2 : b.rclean.rnone = false) (h3 : (a.rclean.i.c.m == 1) = false) : Vl.rnarrow a b = Vl.rclean ⟨⟨a.rclean.i.s.narrow b.rclean.i.s, a.rclean.i.c⟩, a.rclean.t⟩ := by unfold Vl.rnarrow; rw [if_neg (by rw [h]; decide), if_neg (by rw [h2]; decide), if_neg (by simpa using h3)]


end Go.Proofs.Ytbfinmfdcbghfaa
