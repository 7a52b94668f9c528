/- How the library sorts names, and strikes what stands twice. No condition. -/
import Derived.Test.YtbfinmfdcbghfaaNames3
import Derived.Test.YtbfinmfdcbghfaaShelf
import Derived.WalkKit
import Derived.Sort.Walk0
namespace Go.Proofs.Ytbfinmfdcbghfaa
set_option linter.all false
open Go.Sx

open Go.RowKit Go.Lib Go.Sort

section
variable {P : Program} {base : Nat} {ψ : Psi} {S : Nat → Prop} {w : World} {a : Act}

/-- a row whose first cells were put anew, by a function that only lays more blocks behind it -/
theorem Rel.put {α : Type} [Inhabited α] (enc : α → Value) (hsc : ∀ x, Scalar (enc x)) {ts : List (Nat × Tm)} {h : List (Nat × Blk)} {n m k b mm ln : Nat} {f : Nat → List DV} (hr : Rel P base ψ S w ⟨ts, h, n, m⟩ a) (hψ : ψ k = some (.at b mm))
    (hb : lookB h k = .row 1 ln f) (d : Array α) (hd : d.size ≤ ln) (q : Nat) (os : Array Obj) :
    Rel P base ψ S (Sort.grow (putRow enc (Sort.ahead w q) b 0 d) os) ⟨ts, (k, .row 1 ln (fun i => if i < d.size then [.v (enc d[i]!)] else f i)) :: h, n, m⟩ a ∧
      Ext base ψ S w ψ S (Sort.grow (putRow enc (Sort.ahead w q) b 0 d) os) := by
  have hbk := hr.sim.blk k _ hψ
  simp only [hb] at hbk
  obtain ⟨arr, e, g1, g2, g3, g4, g5⟩ := hbk
  have hheap : (putRow enc (Sort.ahead w q) b 0 d).heap = w.heap.modify b (onCells (putCells enc 0 d)) := rfl
  have hnew : (putRow enc (Sort.ahead w q) b 0 d).heap[b]? = some (.cells (putCells enc 0 d arr) e (0, 0)) := by
    rw [hheap, Array.getElem?_modify, if_pos rfl, g1]; rfl
  obtain ⟨r1, r2⟩ := hr.write (w' := putRow enc (Sort.ahead w q) b 0 d) (blk := .row 1 ln (fun i => if i < d.size then [.v (enc d[i]!)] else f i)) hψ (by simp only [hb]; trivial) rfl rfl rfl (by rw [hheap]; simp)
    (fun b' hb' => by rw [hheap, Array.getElem?_modify, if_neg (fun h => hb' h.symm)]) (fun hl => by
      refine ⟨putCells enc 0 d arr, e, hnew, by simp [putCells, g2], by omega, fun i hi => ?_, fun i j hi hj => ?_⟩
      · dsimp only
        split
        · rfl
        · exact g4 i hi
      · have hj0 : j = 0 := by omega
        subst hj0
        have hlt : i < arr.size := by omega
        have hget : (putCells enc 0 d arr).getD (i * 1 + 0) undef = if i < d.size then enc d[i]! else arr.getD (i * 1 + 0) undef := by
          rw [Array.getD_eq_getD_getElem?, Array.getD_eq_getD_getElem?]
          simp only [putCells, Nat.mul_one, Nat.add_zero, Array.getElem?_mapIdx, Array.getElem?_eq_getElem hlt, Option.map_some, Option.getD_some, Nat.zero_le, true_and, Nat.zero_add, Nat.sub_zero]
        rw [hget]
        dsimp only
        split
        · exact .v (hsc _)
        · exact (g5 i 0 hi hj).later hl)
  obtain ⟨r3, r4⟩ := r1.ext0 (S' := S) (w' := Sort.grow (putRow enc (Sort.ahead w q) b 0 d) os) ⟨rfl, rfl, rfl, by simp [Sort.grow], fun b' hb' => by
    show ((putRow enc (Sort.ahead w q) b 0 d).heap ++ os)[b']? = _
    rw [Array.getElem?_append_left hb'], fun _ h => h, fun _ h => .inl h, fun b' hb' => by
    have h1 := r1.sim.sdom b' hb'
    have h2 : (Sort.grow (putRow enc (Sort.ahead w q) b 0 d) os).heap.size = (putRow enc (Sort.ahead w q) b 0 d).heap.size + os.size := by simp [Sort.grow]
    omega⟩
  exact ⟨r3, r2.trans r4⟩

/-- what a row of strings holds, in the library's words -/
theorem row_holds {ts : List (Nat × Tm)} {h : List (Nat × Blk)} {n m k b mm ln len : Nat} {f : Nat → List DV} (hr : Rel P base ψ S w ⟨ts, h, n, m⟩ a) (hψ : ψ k = some (.at b mm))
    (hb : lookB h k = .row 1 ln f) (hle : len ≤ ln) (hf : ∀ i, i < len → f i = [st (gT (f i))]) : Holds encStr w b 0 ((gN len f).map fun s => s.data.toList).toArray := by
  have hbk := hr.sim.blk k _ hψ
  simp only [hb] at hbk
  obtain ⟨arr, e, g1, g2, g3, g4, g5⟩ := hbk
  intro j hj
  have hj2 : j < len := by simpa [gN] using hj
  have h5 := g5 j 0 (by omega) (by omega)
  rw [hf j hj2] at h5
  have hlt : j < arr.size := by omega
  have hv : arr[j]? = some (.string (gT (f j))) := by
    rw [Array.getElem?_eq_getElem hlt]
    have e1 : arr.getD (j * 1 + 0) undef = arr[j] := by rw [Array.getD_eq_getD_getElem?, Nat.mul_one, Nat.add_zero, Array.getElem?_eq_getElem hlt]; rfl
    rw [e1] at h5
    generalize arr[j] = v at h5
    have h5 : RepD S w (st (gT (f j))) v := h5
    cases h5
    rfl
  refine ⟨?_, ?_⟩
  · rw [Nat.zero_add, cell_at g1, hv]
    congr 1
    rw [getElem!_pos _ j hj]
    simp [gN, encStr]
  · simp [World.frozen?, g1]

theorem row_lt {ts : List (Nat × Tm)} {h : List (Nat × Blk)} {n m k b mm : Nat} (hr : Rel P base ψ S w ⟨ts, h, n, m⟩ a) (hψ : ψ k = some (.at b mm)) : b < w.heap.size := hr.sim.pdom k b mm hψ

/-- a row of which nothing is known is as good as another one -/
theorem Rel.empty {ts : List (Nat × Tm)} {h : List (Nat × Blk)} {n m k ln : Nat} {f : Nat → List DV} (hr : Rel P base ψ S w ⟨ts, h, n, m⟩ a) (hb : lookB h k = .row 1 ln f) (g : Nat → List DV) :
    Rel P base ψ S w ⟨ts, (k, .row 1 ln fun i => if i < 0 then g i else f i) :: h, n, m⟩ a := by
  have e : (fun i => if i < 0 then g i else f i) = f := by funext i; simp
  rw [e]
  have hlook : ∀ j, lookB ((k, .row 1 ln f) :: h) j = lookB h j := by
    intro j
    rw [lookB_cons]
    split
    · rename_i e; subst e; exact hb.symm
    · rfl
  refine ⟨hr.bas, ⟨hr.sim.dom, fun j l hj => by rw [hlook]; exact hr.sim.blk j l hj, fun j j' b m1 m2 h1 h2 l1 l2 => hr.sim.inj j j' b m1 m2 h1 h2 (by simpa only [hlook] using l1) (by simpa only [hlook] using l2),
    fun j b m1 h1 l1 => hr.sim.dis j b m1 h1 (by simpa only [hlook] using l1), hr.sim.pdom, hr.sim.sdom⟩, hr.lim, hr.defers, hr.tmps⟩
end

def bS (l : List UInt8) : ByteArray := ⟨l.toArray⟩
def bL (s : ByteArray) : List UInt8 := s.data.toList
def cfL (x y : List UInt8) : Int := Lib.compareBytes x y

theorem cfL_lt : ∀ (x y : List UInt8), (cfL x y < 0) ↔ x < y
  | [], [] => by simp [cfL, Lib.compareBytes]
  | [], _ :: _ => by simp [cfL, Lib.compareBytes]
  | _ :: _, [] => by simp [cfL, Lib.compareBytes]
  | a :: x, b :: y => by
    have ih := cfL_lt x y
    unfold cfL at ih ⊢
    unfold Lib.compareBytes
    rw [List.cons_lt_cons_iff]
    by_cases h1 : a < b
    · simp [h1]
    · by_cases h2 : b < a
      · have hne : a ≠ b := fun e => by subst e; exact h1 h2
        simp [h1, h2, hne]
      · have he : a = b := by
          have h1 := UInt8.not_lt.1 h1
          have h2 := UInt8.not_lt.1 h2
          exact UInt8.le_antisymm h2 h1
        subst he
        simp [h1, ih]
theorem ltOf_cfL (x y : List UInt8) : ltOf cfL x y = decide (x < y) := by
  unfold ltOf
  rw [Bool.eq_iff_iff]
  simp only [decide_eq_true_eq]
  exact cfL_lt x y
theorem swoL : SWO (ltOf cfL) where
  irrefl x := by rw [ltOf_cfL]; simpa using List.lt_irrefl x
  trans x y z h1 h2 := by
    rw [ltOf_cfL] at *
    simp only [decide_eq_true_eq] at *
    exact List.lt_trans h1 h2
  ntrans x y z h1 h2 := by
    rw [ltOf_cfL] at *
    simp only [decide_eq_false_iff_not, List.not_lt] at *
    exact List.le_trans h2 h1
theorem totL (x y : List UInt8) (h1 : ltOf cfL x y = false) (h2 : ltOf cfL y x = false) : x = y := by
  rw [ltOf_cfL] at *
  simp only [decide_eq_false_iff_not, List.not_lt] at *
  exact List.le_antisymm h2 h1

set_option maxHeartbeats 1000000 in
/-- the comparison that the sort is handed -/
theorem closureOf (x y : List UInt8) (W : World) : Calls Try.prog 83 #[encStr x, encStr y] W fun e w' => e = .returned (.int .i64 (cfL x y)) ∧ ∃ q, w' = W.drewN q := by
  have hcon := Try.strings_Compare (bS x) (bS y) W
  unfold cfL
  have e1 : (bS x).data.toList = x := rfl
  have e2 : (bS y).data.toList = y := rfl
  rw [e1, e2] at hcon
  unfold bS at hcon
  generalize Lib.compareBytes x y = r at hcon ⊢
  go_enter Try.func83, Try.ntmps83
  go_wp2_with (go_at_call 84; refine hcon.mono ?_; rintro e w' ⟨rfl, rfl⟩)
  go_ret
  exact ⟨rfl, 0, rfl⟩

def sortL (l : List ByteArray) : List (List UInt8) := (l.map fun s => s.data.toList).mergeSort fun x y => !(ltOf cfL) y x
theorem sortL_length (l : List ByteArray) : (sortL l).length = l.length := by simp [sortL]
theorem fn_plain {P : Program} {ψ : Psi} {S : Nat → Prop} {w : World} {f : Nat} {v : Value} (h : RepVa P ψ S w (.c (.fn f [])) v) : v = .func (.func f) #[] #[] := by
  obtain ⟨vs, rfl, h⟩ := h
  have : vs = #[] := by
    apply Array.ext'
    generalize vs.toList = l at h
    cases l with
    | nil => rfl
    | cons _ _ => exact h.elim
  rw [this]

theorem acall_sort {base : Nat} {k len ln : Nat} {f : Nat → List DV} {ts : List (Nat × Tm)} {h : List (Nat × Blk)} {n m : Nat} {K : Tm → St → Prop} (hb : lookB h k = .row 1 ln f) (hle : len ≤ ln) (hf : ∀ i, i < len → f i = [st (gT (f i))]) (hn : len < 4611686018427387904)
    (hk : K (.tup []) ⟨ts, (k, .row 1 ln fun i => if i < len then [.v (encStr (sortL (gN len f)).toArray[i]!)] else f i) :: h, n, m⟩) : ACall Try.prog base 82 [.c (.osl k 1 0 len), .c (.fn 83 [])] ⟨ts, h, n, m⟩ K := by
  refine ⟨fun ψ S w a vals hrel hvals => ?_⟩
  match vals, hvals with
  | [v1, v2], ⟨hv1, hv2, _⟩ =>
    have hv2 := fn_plain hv2
    subst hv2
    refine .inl ⟨callable_of Try.func82 rfl rfl, ?_⟩
    have none0 : ∀ p c, len = 0 → v1 = .slice p 0 c → Calls Try.prog 82 [v1, .func (.func 83) #[] #[]].toArray w fun e w' => ∃ r st' v ψ' S', e = .returned v ∧ K r st' ∧ Rel Try.prog base ψ' S' w' st' a ∧ RepT Try.prog ψ' S' w' r v ∧ Ext base ψ S w ψ' S' w' := by
      intro p c h0 hv
      subst h0; subst hv
      refine (Try.slices_SortFunc_none (α := List UInt8) p c _ w).mono ?_
      rintro e w' ⟨rfl, rfl⟩
      exact ⟨_, _, _, ψ, S, rfl, hk, Rel.empty hrel hb _, ⟨#[], rfl, trivial⟩, Ext.refl _ _ _ _⟩
    rcases hv1 with ⟨_, h0, a0, hv⟩ | ⟨b, mm, c, off, h1, hv, h2, h3⟩
    · exact none0 a0 0 h0 hv
    · by_cases h0 : len = 0
      · exact none0 (some ⟨b, off, none⟩) c h0 (by rw [hv, h0])
      · obtain ⟨hoff, _⟩ := h3 (by omega)
        have hoff : off = 0 := by omega
        subst hoff
        have hsz : ((gN len f).map fun s => s.data.toList).toArray.size = len := by simp [gN]
        have hH := row_holds hrel h1 hb hle hf
        have hS := Try.slices_SortFunc_total encStr (fun _ => rfl) cfL swoL 83 #[] b 0 c ((gN len f).map fun s => s.data.toList).toArray w (enters_of Try.func83 (by kernel_rfl) rfl)
          (CmpReads.lays (fun _ _ _ _ x y => closureOf x y _)) hH (row_lt hrel h1) (by rw [hsz]; exact hn) totL
        rw [hsz] at hS
        subst hv
        refine hS.mono ?_
        rintro e w' ⟨rfl, q, os, rfl⟩
        have hd : (((gN len f).map fun s => s.data.toList).toArray.toList.mergeSort fun x y => !(ltOf cfL) y x).toArray.size = len := by simp [gN]
        obtain ⟨r1, r2⟩ := Rel.put encStr (fun _ => trivial) hrel h1 hb (((gN len f).map fun s => s.data.toList).toArray.toList.mergeSort fun x y => !(ltOf cfL) y x).toArray (by rw [hd]; exact hle) q os
        rw [hd] at r1
        exact ⟨_, _, _, ψ, S, rfl, hk, r1, ⟨#[], rfl, trivial⟩, r2⟩

theorem compact_le (zs : List (List UInt8)) : (Lib.compact zs).length ≤ zs.length := by
  unfold Lib.compact Lib.compactUpTo
  rw [List.length_map]
  exact Nat.le_trans (List.length_filter_le _ _) (by simp)
def compL (l : List ByteArray) : List (List UInt8) := Lib.compact (l.map fun s => s.data.toList)
def compRow (l : List ByteArray) : List (List UInt8) := compL l ++ List.replicate (l.length - (compL l).length) []

theorem acall_compact {base : Nat} {k len ln : Nat} {f : Nat → List DV} {ts : List (Nat × Tm)} {h : List (Nat × Blk)} {n m : Nat} {K : Tm → St → Prop} (hb : lookB h k = .row 1 ln f) (hle : len ≤ ln) (hf : ∀ i, i < len → f i = [st (gT (f i))]) (hn : len < 4611686018427387904)
    (hk : K (.va (.c (.osl k 1 0 (compL (gN len f)).length))) ⟨ts, (k, .row 1 ln fun i => if i < len then [.v (encStr (compRow (gN len f)).toArray[i]!)] else f i) :: h, n, m⟩) : ACall Try.prog base 85 [.c (.osl k 1 0 len)] ⟨ts, h, n, m⟩ K := by
  refine ⟨fun ψ S w a vals hrel hvals => ?_⟩
  match vals, hvals with
  | [v1], ⟨hv1, _⟩ =>
    refine .inl ⟨callable_of Try.func85 rfl rfl, ?_⟩
    have hcl : (compL (gN len f)).length ≤ len := by
      have := compact_le ((gN len f).map fun s => s.data.toList)
      simpa [compL, gN] using this
    have none0 : ∀ p c, len = 0 → v1 = .slice p 0 c → RepVa Try.prog ψ S w (.c (.osl k 1 0 0)) v1 → Calls Try.prog 85 [v1].toArray w fun e w' => ∃ r st' v ψ' S', e = .returned v ∧ K r st' ∧ Rel Try.prog base ψ' S' w' st' a ∧ RepT Try.prog ψ' S' w' r v ∧ Ext base ψ S w ψ' S' w' := by
      intro p c h0 hv hrep
      subst h0; subst hv
      refine (Try.slices_Compact_string_empty p c w).mono ?_
      rintro e w' ⟨rfl, rfl⟩
      have e0 : (compL (gN 0 f)).length = 0 := by omega
      rw [e0] at hk
      exact ⟨_, _, _, ψ, S, rfl, hk, Rel.empty hrel hb _, hrep, Ext.refl _ _ _ _⟩
    rcases hv1 with ⟨hvirt, h0, a0, hv⟩ | ⟨b, mm, c, off, h1, hv, h2, h3⟩
    · exact none0 a0 0 h0 hv (.inl ⟨hvirt, rfl, a0, hv⟩)
    · by_cases h0 : len = 0
      · exact none0 (some ⟨b, off, none⟩) c h0 (by rw [hv, h0]) (.inr ⟨b, mm, c, off, h1, by rw [hv, h0], Nat.zero_le _, h3⟩)
      · obtain ⟨hoff, hcm⟩ := h3 (by omega)
        have hoff : off = 0 := by omega
        subst hoff
        have hsz : ((gN len f).map fun s => s.data.toList).length = len := by simp [gN]
        have hH := row_holds hrel h1 hb hle hf
        have hS := Try.slices_Compact_string b 0 c ((gN len f).map fun s => s.data.toList) w hH (by rw [hsz]; omega) (by rw [hsz]; exact h2)
        rw [hsz] at hS
        subst hv
        refine hS.mono ?_
        rintro e w' ⟨rfl, q, rfl⟩
        have hd : (compRow (gN len f)).toArray.size = len := by
          unfold compRow
          simp [gN] at hcl ⊢
          omega
        have hg : (gN len f).length = len := by simp [gN]
        obtain ⟨r1, r2⟩ := Rel.put encStr (fun _ => trivial) hrel h1 hb (compRow (gN len f)).toArray (by rw [hd]; exact hle) q #[]
        rw [hd] at r1
        have hw : Sort.grow (putRow encStr (Sort.ahead w q) b 0 (compRow (gN len f)).toArray) #[] = putRow encStr (Sort.ahead w q) b 0 (Lib.compact ((gN len f).map fun (s : ByteArray) => s.data.toList) ++ List.replicate (len - (Lib.compact ((gN len f).map fun (s : ByteArray) => s.data.toList)).length) []).toArray := by
          rw [grow_empty]
          unfold compRow compL
          rw [hg]
        rw [hw] at r1 r2
        exact ⟨_, _, _, ψ, S, rfl, hk, r1, .inr ⟨b, mm, c, 0, h1, rfl, Nat.le_trans hcl h2, fun hc => ⟨rfl, hcm⟩⟩, r2⟩


end Go.Proofs.Ytbfinmfdcbghfaa
