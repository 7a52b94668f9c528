/- How the library sorts names, and strikes what stands twice. No condition. -/
import Derived.Test.YtokjghkehojenaaGreatP4
import Derived.WalkKit
import Derived.Sort.Walk0
set_option linter.all false
set_option maxHeartbeats 8000000
set_option maxRecDepth 100000
namespace Go.Proofs.YtokjghkehojenaaGreat
open Go.Sx
open Go.RowKit Go.Lib Go.Sort
section
variable {P : Program} {base : Nat} {ψ : Psi} {S : Nat → Prop} {w : World} {a : Act}
theorem Rel.put {α : Type} [Inhabited α] (enc : α -> Value) (hsc : ∀ x, Scalar (enc x)) {ts : List (Nat × Tm)} {h : List (Nat × Blk)} {n m k b mm ln : Nat} {f : Nat -> List DV} (hr : Rel P base ψ S w ⟨ts, h, n, m⟩ a) (hψ : ψ k = some (.at b mm))
 (hb : lookB h k = .row 1 ln f) (d : Array α) (hd : d.size <= ln) (q : Nat) (os : Array Obj) :
 Rel P base ψ S (Sort.grow (putRow enc (Sort.ahead w q) b 0 d) os) ⟨ts, (k, .row 1 ln (fun i => if i < d.size then [.v (enc d[i]!)] else f i)) :: h, n, m⟩ a /\
  Ext base ψ S w ψ S (Sort.grow (putRow enc (Sort.ahead w q) b 0 d) os) := by
 have hbk := hr.sim.blk k _ hψ
 simp only [hb] at hbk
 obtain ⟨arr, e, g1, g2, g3, g4, g5⟩ := hbk
 have hheap : (putRow enc (Sort.ahead w q) b 0 d).heap = w.heap.modify b (onCells (putCells enc 0 d)) := rfl
 have hnew : (putRow enc (Sort.ahead w q) b 0 d).heap[b]? = some (.cells (putCells enc 0 d arr) e (0, 0)) := by
  rw [hheap, Array.getElem?_modify, if_pos rfl, g1]; rfl
 obtain ⟨r1, r2⟩ := hr.write (w' := putRow enc (Sort.ahead w q) b 0 d) (blk := .row 1 ln (fun i => if i < d.size then [.v (enc d[i]!)] else f i)) hψ (by simp only [hb]; trivial) rfl rfl rfl (by rw [hheap]; simp)
  (fun b' hb' => by rw [hheap, Array.getElem?_modify, if_neg (fun h => hb' h.symm)]) (fun hl => by
    refine ⟨putCells enc 0 d arr, e, hnew, by simp [putCells, g2], by omega, fun i hi => ?_, fun i j hi hj => ?_⟩
    . dsimp only
      split
      . rfl
      . exact g4 i hi
    . have hj0 : j = 0 := by omega
      subst hj0
      have hlt : i < arr.size := by omega
      have hget : (putCells enc 0 d arr).getD (i * 1 + 0) undef = if i < d.size then enc d[i]! else arr.getD (i * 1 + 0) undef := by
       rw [Array.getD_eq_getD_getElem?, Array.getD_eq_getD_getElem?]
       simp only [putCells, Nat.mul_one, Nat.add_zero, Array.getElem?_mapIdx, Array.getElem?_eq_getElem hlt, Option.map_some, Option.getD_some, Nat.zero_le, true_and, Nat.zero_add, Nat.sub_zero]
      rw [hget]
      dsimp only
      split
      . exact .v (hsc _)
      . exact (g5 i 0 hi hj).later hl)
 obtain ⟨r3, r4⟩ := r1.ext0 (S' := S) (w' := Sort.grow (putRow enc (Sort.ahead w q) b 0 d) os) ⟨rfl, rfl, rfl, by simp [Sort.grow], fun b' hb' => by
  show ((putRow enc (Sort.ahead w q) b 0 d).heap ++ os)[b']? = _
  rw [Array.getElem?_append_left hb'], fun _ h => h, fun _ h => .inl h, fun b' hb' => by
  have h1 := r1.sim.sdom b' hb'
  have h2 : (Sort.grow (putRow enc (Sort.ahead w q) b 0 d) os).heap.size = (putRow enc (Sort.ahead w q) b 0 d).heap.size + os.size := by simp [Sort.grow]
  omega⟩
 exact ⟨r3, r2.trans r4⟩
theorem row_holds {ts : List (Nat × Tm)} {h : List (Nat × Blk)} {n m k b mm ln len : Nat} {f : Nat -> List DV} (hr : Rel P base ψ S w ⟨ts, h, n, m⟩ a) (hψ : ψ k = some (.at b mm))
 (hb : lookB h k = .row 1 ln f) (hle : len <= ln) (hf : ∀ i, i < len -> f i = [st (gT (f i))]) : Holds encStr w b 0 ((gN len f).map fun s => s.data.toList).toArray := by
 have hbk := hr.sim.blk k _ hψ
 simp only [hb] at hbk
 obtain ⟨arr, e, g1, g2, g3, g4, g5⟩ := hbk
 intro j hj
 have hj2 : j < len := by simpa [gN] using hj
 have h5 := g5 j 0 (by omega) (by omega)
 rw [hf j hj2] at h5
 have hlt : j < arr.size := by omega
 have hv : arr[j]? = some (.string (gT (f j))) := by
  rw [Array.getElem?_eq_getElem hlt]
  have e1 : arr.getD (j * 1 + 0) undef = arr[j] := by rw [Array.getD_eq_getD_getElem?, Nat.mul_one, Nat.add_zero, Array.getElem?_eq_getElem hlt]; rfl
  rw [e1] at h5
  generalize arr[j] = v at h5
  have h5 : RepD S w (st (gT (f j))) v := h5
  cases h5
  rfl
 refine ⟨?_, ?_⟩
 . rw [Nat.zero_add, cell_at g1, hv]
   congr 1
   rw [getElem!_pos _ j hj]
   simp [gN, encStr]
 . simp [World.frozen?, g1]
theorem row_lt {ts : List (Nat × Tm)} {h : List (Nat × Blk)} {n m k b mm : Nat} (hr : Rel P base ψ S w ⟨ts, h, n, m⟩ a) (hψ : ψ k = some (.at b mm)) : b < w.heap.size := hr.sim.pdom k b mm hψ
theorem Rel.empty {ts : List (Nat × Tm)} {h : List (Nat × Blk)} {n m k ln : Nat} {f : Nat -> List DV} (hr : Rel P base ψ S w ⟨ts, h, n, m⟩ a) (hb : lookB h k = .row 1 ln f) (g : Nat -> List DV) :
 Rel P base ψ S w ⟨ts, (k, .row 1 ln fun i => if i < 0 then g i else f i) :: h, n, m⟩ a := by
 have e : (fun i => if i < 0 then g i else f i) = f := by funext i; simp
 rw [e]
 have hlook : ∀ j, lookB ((k, .row 1 ln f) :: h) j = lookB h j := by
  intro j
  rw [lookB_cons]
  split
  . rename_i e; subst e; exact hb.symm
  . rfl
 refine ⟨hr.bas, ⟨hr.sim.dom, fun j l hj => by rw [hlook]; exact hr.sim.blk j l hj, fun j j' b m1 m2 h1 h2 l1 l2 => hr.sim.inj j j' b m1 m2 h1 h2 (by simpa only [hlook] using l1) (by simpa only [hlook] using l2),
  fun j b m1 h1 l1 => hr.sim.dis j b m1 h1 (by simpa only [hlook] using l1), hr.sim.pdom, hr.sim.sdom⟩, hr.lim, hr.defers, hr.tmps⟩
end
def bS (l : List UInt8) : ByteArray := ⟨l.toArray⟩
def cfL (x y : List UInt8) : Int := Lib.compareBytes x y
theorem cfL_lt : ∀ (x y : List UInt8), (cfL x y < 0) ↔ x < y
 | [], [] => by simp [cfL, Lib.compareBytes]
 | [], _ :: _ => by simp [cfL, Lib.compareBytes]
 | _ :: _, [] => by simp [cfL, Lib.compareBytes]
 | a :: x, b :: y => by
   have ih := cfL_lt x y
   unfold cfL at ih ⊢
   unfold Lib.compareBytes
   rw [List.cons_lt_cons_iff]
   by_cases h1 : a < b
   . simp [h1]
   . by_cases h2 : b < a
     . have hne : a ≠ b := fun e => by subst e; exact h1 h2
       simp [h1, h2, hne]
     . have he : a = b := by
        have h1 := UInt8.not_lt.1 h1
        have h2 := UInt8.not_lt.1 h2
        exact UInt8.le_antisymm h2 h1
       subst he
       simp [h1, ih]
theorem ltOf_cfL (x y : List UInt8) : ltOf cfL x y = decide (x < y) := by
 unfold ltOf
 rw [Bool.eq_iff_iff]
 simp only [decide_eq_true_eq]
 exact cfL_lt x y
theorem swoL : SWO (ltOf cfL) where
 irrefl x := by rw [ltOf_cfL]; simpa using List.lt_irrefl x
 trans x y z h1 h2 := by
  rw [ltOf_cfL] at *
  simp only [decide_eq_true_eq] at *
  exact List.lt_trans h1 h2
 ntrans x y z h1 h2 := by
  rw [ltOf_cfL] at *
  simp only [decide_eq_false_iff_not, List.not_lt] at *
  exact List.le_trans h2 h1
theorem totL (x y : List UInt8) (h1 : ltOf cfL x y = false) (h2 : ltOf cfL y x = false) : x = y := by
 rw [ltOf_cfL] at *
 simp only [decide_eq_false_iff_not, List.not_lt] at *
 exact List.le_antisymm h2 h1
theorem closureOf (x y : List UInt8) (W : World) : Calls Tryz.prog 110 #[encStr x, encStr y] W fun e w' => e = .returned (.int .i64 (cfL x y)) /\ ∃ q, w' = W.drewN q := by
 have hcon := Tryz.strings_Compare (bS x) (bS y) W
 unfold cfL
 have e1 : (bS x).data.toList = x := rfl
 have e2 : (bS y).data.toList = y := rfl
 rw [e1, e2] at hcon
 unfold bS at hcon
 generalize Lib.compareBytes x y = r at hcon ⊢
 go_enter Tryz.func110, Tryz.ntmps110
 go_wp2_with (go_at_call 111; refine hcon.mono ?_; rintro e w' ⟨rfl, rfl⟩)
 go_ret
 exact ⟨rfl, 0, rfl⟩
def sortL (l : List ByteArray) : List (List UInt8) := (l.map fun s => s.data.toList).mergeSort fun x y => !(ltOf cfL) y x
theorem sortL_length (l : List ByteArray) : (sortL l).length = l.length := by simp [sortL]
theorem fn_plain {P : Program} {ψ : Psi} {S : Nat -> Prop} {w : World} {f : Nat} {v : Value} (h : RepVa P ψ S w (.c (.fn f [])) v) : v = .func (.func f) #[] #[] := by
 obtain ⟨vs, rfl, h⟩ := h
 have : vs = #[] := by
  apply Array.ext'
  generalize vs.toList = l at h
  cases l with
  | nil => rfl
  | cons _ _ => exact h.elim
 rw [this]
theorem acall_sort {base : Nat} {k len ln : Nat} {f : Nat -> List DV} {ts : List (Nat × Tm)} {h : List (Nat × Blk)} {n m : Nat} {K : Tm -> St -> Prop} (hb : lookB h k = .row 1 ln f) (hle : len <= ln) (hf : ∀ i, i < len -> f i = [st (gT (f i))]) (hn : len < 4611686018427387904)
 (hk : K (.tup []) ⟨ts, (k, .row 1 ln fun i => if i < len then [.v (encStr (sortL (gN len f)).toArray[i]!)] else f i) :: h, n, m⟩) : ACall Tryz.prog base 109 [.c (.osl k 1 0 len), .c (.fn 110 [])] ⟨ts, h, n, m⟩ K := by
 refine ⟨fun ψ S w a vals hrel hvals => ?_⟩
 match vals, hvals with
 | [v1, v2], ⟨hv1, hv2, _⟩ =>
   have hv2 := fn_plain hv2
   subst hv2
   refine .inl ⟨callable_of Tryz.func109 rfl rfl, ?_⟩
   have none0 : ∀ p c, len = 0 -> v1 = .slice p 0 c -> Calls Tryz.prog 109 [v1, .func (.func 110) #[] #[]].toArray w fun e w' => ∃ r st' v ψ' S', e = .returned v /\ K r st' /\ Rel Tryz.prog base ψ' S' w' st' a /\ RepT Tryz.prog ψ' S' w' r v /\ Ext base ψ S w ψ' S' w' := by
    intro p c h0 hv
    subst h0; subst hv
    refine (Tryz.slices_SortFunc_none (α := List UInt8) p c _ w).mono ?_
    rintro e w' ⟨rfl, rfl⟩
    exact ⟨_, _, _, ψ, S, rfl, hk, Rel.empty hrel hb _, ⟨#[], rfl, trivial⟩, Ext.refl _ _ _ _⟩
   rcases hv1 with ⟨_, h0, a0, hv⟩ | ⟨b, mm, c, off, h1, hv, h2, h3⟩
   . exact none0 a0 0 h0 hv
   . by_cases h0 : len = 0
     . exact none0 (some ⟨b, off, none⟩) c h0 (by rw [hv, h0])
     . obtain ⟨hoff, _⟩ := h3 (by omega)
       have hoff : off = 0 := by omega
       subst hoff
       have hsz : ((gN len f).map fun s => s.data.toList).toArray.size = len := by simp [gN]
       have hH := row_holds hrel h1 hb hle hf
       have hS := Tryz.slices_SortFunc_total encStr (fun _ => rfl) cfL swoL 110 #[] b 0 c ((gN len f).map fun s => s.data.toList).toArray w (enters_of Tryz.func110 (by kernel_rfl) rfl)
        (CmpReads.lays (fun _ _ _ _ x y => closureOf x y _)) hH (row_lt hrel h1) (by rw [hsz]; exact hn) totL
       rw [hsz] at hS
       subst hv
       refine hS.mono ?_
       rintro e w' ⟨rfl, q, os, rfl⟩
       have hd : (((gN len f).map fun s => s.data.toList).toArray.toList.mergeSort fun x y => !(ltOf cfL) y x).toArray.size = len := by simp [gN]
       obtain ⟨r1, r2⟩ := Rel.put encStr (fun _ => trivial) hrel h1 hb (((gN len f).map fun s => s.data.toList).toArray.toList.mergeSort fun x y => !(ltOf cfL) y x).toArray (by rw [hd]; exact hle) q os
       rw [hd] at r1
       exact ⟨_, _, _, ψ, S, rfl, hk, r1, ⟨#[], rfl, trivial⟩, r2⟩
theorem compact_le (zs : List (List UInt8)) : (Lib.compact zs).length <= zs.length := by
 unfold Lib.compact Lib.compactUpTo
 rw [List.length_map]
 exact Nat.le_trans (List.length_filter_le _ _) (by simp)
def compL (l : List ByteArray) : List (List UInt8) := Lib.compact (l.map fun s => s.data.toList)
def compRow (l : List ByteArray) : List (List UInt8) := compL l ++ List.replicate (l.length - (compL l).length) []
theorem acall_compact {base : Nat} {k len ln : Nat} {f : Nat -> List DV} {ts : List (Nat × Tm)} {h : List (Nat × Blk)} {n m : Nat} {K : Tm -> St -> Prop} (hb : lookB h k = .row 1 ln f) (hle : len <= ln) (hf : ∀ i, i < len -> f i = [st (gT (f i))]) (hn : len < 4611686018427387904)
 (hk : K (.va (.c (.osl k 1 0 (compL (gN len f)).length))) ⟨ts, (k, .row 1 ln fun i => if i < len then [.v (encStr (compRow (gN len f)).toArray[i]!)] else f i) :: h, n, m⟩) : ACall Tryz.prog base 112 [.c (.osl k 1 0 len)] ⟨ts, h, n, m⟩ K := by
 refine ⟨fun ψ S w a vals hrel hvals => ?_⟩
 match vals, hvals with
 | [v1], ⟨hv1, _⟩ =>
   refine .inl ⟨callable_of Tryz.func112 rfl rfl, ?_⟩
   have hcl : (compL (gN len f)).length <= len := by
    have := compact_le ((gN len f).map fun s => s.data.toList)
    simpa [compL, gN] using this
   have none0 : ∀ p c, len = 0 -> v1 = .slice p 0 c -> RepVa Tryz.prog ψ S w (.c (.osl k 1 0 0)) v1 -> Calls Tryz.prog 112 [v1].toArray w fun e w' => ∃ r st' v ψ' S', e = .returned v /\ K r st' /\ Rel Tryz.prog base ψ' S' w' st' a /\ RepT Tryz.prog ψ' S' w' r v /\ Ext base ψ S w ψ' S' w' := by
    intro p c h0 hv hrep
    subst h0; subst hv
    refine (Tryz.slices_Compact_string_empty p c w).mono ?_
    rintro e w' ⟨rfl, rfl⟩
    have e0 : (compL (gN 0 f)).length = 0 := by omega
    rw [e0] at hk
    exact ⟨_, _, _, ψ, S, rfl, hk, Rel.empty hrel hb _, hrep, Ext.refl _ _ _ _⟩
   rcases hv1 with ⟨hvirt, h0, a0, hv⟩ | ⟨b, mm, c, off, h1, hv, h2, h3⟩
   . exact none0 a0 0 h0 hv (.inl ⟨hvirt, rfl, a0, hv⟩)
   . by_cases h0 : len = 0
     . exact none0 (some ⟨b, off, none⟩) c h0 (by rw [hv, h0]) (.inr ⟨b, mm, c, off, h1, by rw [hv, h0], Nat.zero_le _, h3⟩)
     . obtain ⟨hoff, hcm⟩ := h3 (by omega)
       have hoff : off = 0 := by omega
       subst hoff
       have hsz : ((gN len f).map fun s => s.data.toList).length = len := by simp [gN]
       have hH := row_holds hrel h1 hb hle hf
       have hS := Tryz.slices_Compact_string b 0 c ((gN len f).map fun s => s.data.toList) w hH (by rw [hsz]; omega) (by rw [hsz]; exact h2)
       rw [hsz] at hS
       subst hv
       refine hS.mono ?_
       rintro e w' ⟨rfl, q, rfl⟩
       have hd : (compRow (gN len f)).toArray.size = len := by
        unfold compRow
        simp [gN] at hcl ⊢
        omega
       have hg : (gN len f).length = len := by simp [gN]
       obtain ⟨r1, r2⟩ := Rel.put encStr (fun _ => trivial) hrel h1 hb (compRow (gN len f)).toArray (by rw [hd]; exact hle) q #[]
       rw [hd] at r1
       have hw : Sort.grow (putRow encStr (Sort.ahead w q) b 0 (compRow (gN len f)).toArray) #[] = putRow encStr (Sort.ahead w q) b 0 (Lib.compact ((gN len f).map fun (s : ByteArray) => s.data.toList) ++ List.replicate (len - (Lib.compact ((gN len f).map fun (s : ByteArray) => s.data.toList)).length) []).toArray := by
        rw [grow_empty]
        unfold compRow compL
        rw [hg]
       rw [hw] at r1 r2
       exact ⟨_, _, _, ψ, S, rfl, hk, r1, .inr ⟨b, mm, c, 0, h1, rfl, Nat.le_trans hcl h2, fun hc => ⟨rfl, hcm⟩⟩, r2⟩
end Go.Proofs.YtokjghkehojenaaGreat
namespace Go.Proofs.YtokjghkehojenaaGreat
open Go.Sx
open Go.RowKit Go.Lib Go.Sort
def ofS (l : List ByteArray) : List ByteArray := (compL ((sortL l).map bS)).map bS
theorem gT_st (x : ByteArray) : gT [st x] = x := rfl
theorem ofS_len (l : List ByteArray) : (ofS l).length <= l.length := by
 have := compact_le (((sortL l).map bS).map fun s => s.data.toList)
 simpa [ofS, compL, sortL_length] using this
theorem ofS_len2 (l : List ByteArray) : (compL ((sortL l).map bS)).length = (ofS l).length := by simp [ofS]
theorem gN_put {len : Nat} {L : List (List UInt8)} (hL : L.length = len) (f : Nat -> List DV) : gN len (fun i => if i < len then [.v (encStr L.toArray[i]!)] else f i) = L.map bS := by
 subst hL
 unfold gN
 apply List.ext_getElem
 . simp
 . intro i h1 h2
   have h3 : i < L.length := by simpa using h2
   simp [h3, gT, encStr, bS]
theorem ofS_at {l : List ByteArray} {i : Nat} {M : List ByteArray} (hM : M = (sortL l).map bS) (hi : i < (compL M).length) : [DV.v (encStr (compRow M).toArray[i]!)] = [st (atS (ofS l) i)] := by
 subst hM
 have h2 : i < (compRow ((sortL l).map bS)).length := by unfold compRow; simp; omega
 unfold ofS atS
 simp only [List.getD_eq_getElem?_getD, List.getElem?_map, List.getElem?_eq_getElem hi, Option.map_some, Option.getD_some]
 simp only [List.getElem!_toArray]
 rw [getElem!_pos _ i h2]
 simp only [compRow, List.getElem_append_left hi]
 rfl
def FNClone : List Ar -> Option Rs
 | [.c (.d (.lst 1 n0 f0))] => some ⟨(n0 * 16 <= 140737488351232 /\ ∀ i, i < n0 -> f0 i = [st (gT (f0 i))]), .va (.c (.ow 1 n0 fun i => [st (gT (f0 i))])), []⟩
 | _ => none
theorem fcNClone : FC Tryz.prog 108 FNClone := by
 intro xs pre r us h hp
 unfold FNClone at h
 split at h
 . rename_i n0 f0
   cases h
   have hp0 := hp
   refine FCat.of_eq (as' := [.c (.d (.lst 1 n0 fun i => [st (gT (f0 i))]))]) ?_ rfl rfl ?_
   . repeat' (first | exact trivial | exact rfl | refine ⟨?_, ?_⟩ | fail)
     all_goals first | exact hp0.2 | exact hp1.2 | exact hp2.2 | (intro i hi; exact (hp0.2 i hi).1) | (intro i hi; exact (hp1.2 i hi).1) | (intro i hi; exact (hp2.2 i hi).1) | grind
   refine fcat tys_ok (l := []) trivial Tryz.func108 rfl (by kernel_rfl) false ?_
   repeat' (first | exact trivial | refine ⟨?_, ?_⟩ | intro _)
   all_goals first | (with_reducible apply qq) | (conv => whnf)
   all_goals first | omega | (simp_all; done) | (simp [appRow]; done) | exact ‹_ = true -> _› ‹_›
 . cases h
def FNOf : List Ar -> Option Rs
 | [.c (.d (.v (.bool b0))), .c (.d (.lst 1 n1 f1))] => some ⟨(n1 * 16 <= 140737488351232 /\ ∀ i, i < n1 -> f1 i = [st (gT (f1 i))]), .va (Ns.ar (⟨b0, ofS (gN n1 f1)⟩)), []⟩
 | _ => none
theorem fcNOf : FC Tryz.prog 80 FNOf := by
 intro xs pre r us h hp
 unfold FNOf at h
 split at h
 . rename_i b0 n1 f1
   cases h
   have hp0 := hp
   refine FCat.of_eq (as' := [.c (.d (.v (.bool b0))), .c (.d (.lst 1 n1 fun i => [st (gT (f1 i))]))]) ?_ rfl rfl ?_
   . repeat' (first | exact trivial | exact rfl | refine ⟨?_, ?_⟩ | fail)
     all_goals first | exact hp0.2 | exact hp1.2 | exact hp2.2 | (intro i hi; exact (hp0.2 i hi).1) | (intro i hi; exact (hp1.2 i hi).1) | (intro i hi; exact (hp2.2 i hi).1) | grind
   refine fcat tys_ok (l := [(108, ⟨[], FNClone⟩)]) ⟨fcNClone, trivial⟩ Tryz.func80 rfl (by kernel_rfl) true ?_
   repeat' (first | exact trivial | refine ⟨?_, ?_⟩ | intro _)
   all_goals first | (with_reducible apply qq) | (conv => whnf)
   all_goals first | exact hp0.1 | rfl | refine acall_sort rfl (Nat.le_refl _) (fun _ _ => rfl) (by omega) ?_
   refine acall_compact rfl (Nat.le_refl _) (fun i hi => by simp [hi, gT, encStr]) (by omega) ?_
   repeat' (first | exact trivial | refine ⟨?_, ?_⟩ | intro _)
   all_goals first | (with_reducible apply qq) | (conv => whnf)
   all_goals (have hE := gN_put (len := n1) (L := sortL (gN n1 f1)) (by rw [sortL_length, gN_length]) (fun i => [st (gT (f1 i))]))
   all_goals (try simp only [gN_canon, gT_st, hE, ofS_len2])
   all_goals (have hL := ofS_len (gN n1 f1); rw [gN_length] at hL)
   all_goals first | omega | skip
   rename_i i hi
   simp only [gN_canon, gT_st, hE, ofS_len2] at hi
   have e0 : 0 + Int.toNat 0 + i = i := by simp
   rw [e0, if_pos (by omega)]
   exact ofS_at rfl (by rw [ofS_len2]; omega)
 . cases h
def FNClean : List Ar -> Option Rs
 | [.agg [.d (.v (.bool b0)), .d (.lst 1 n0 f0)]] => some ⟨(n0 * 16 <= 140737488351232 /\ ∀ i, i < n0 -> f0 i = [st (gT (f0 i))]), .va (Ns.ar (⟨b0, ofS (gN n0 f0)⟩)), []⟩
 | _ => none
theorem fcNClean : FC Tryz.prog 95 FNClean := by
 intro xs pre r us h hp
 unfold FNClean at h
 split at h
 . rename_i b0 n0 f0
   cases h
   have hp0 := hp
   refine FCat.of_eq (as' := [.agg [.d (.v (.bool b0)), .d (.lst 1 n0 fun i => [st (gT (f0 i))])]]) ?_ rfl rfl ?_
   . repeat' (first | exact trivial | exact rfl | refine ⟨?_, ?_⟩ | fail)
     all_goals first | exact hp0.2 | exact hp1.2 | exact hp2.2 | (intro i hi; exact (hp0.2 i hi).1) | (intro i hi; exact (hp1.2 i hi).1) | (intro i hi; exact (hp2.2 i hi).1) | grind
   refine fcat tys_ok (l := [(80, ⟨[], FNOf⟩)]) ⟨fcNOf, trivial⟩ Tryz.func95 rfl (by kernel_rfl) true ?_
   repeat' (first | exact trivial | refine ⟨?_, ?_⟩ | intro _)
   all_goals first | (with_reducible apply qq) | (conv => whnf)
   all_goals first | exact hp0.1 | rfl
 . cases h
end Go.Proofs.YtokjghkehojenaaGreat
namespace Go.Proofs.YtokjghkehojenaaGreat
open Go.Sx
structure Cg where
 some : Bool
 m : Int
 r : Int
abbrev Cg.ar (c : Cg) : Ar := .agg [.d (bo c.some), .d (it c.m), .d (it c.r)]
def Cg.inR (c : Cg) : Prop := (-9223372036854775808 <= c.m /\ c.m < 9223372036854775808) /\ -9223372036854775808 <= c.r /\ c.r < 9223372036854775808
def md (n m : Int) : Int := if m <= 0 then n else n % m
namespace Cg
def none : Cg := ⟨false, 0, 0⟩
def of (m r : Int) : Cg := if m < 0 then ⟨true, 1, md r 1⟩ else ⟨true, m, md r m⟩
def clean (c : Cg) : Cg := if c.some then of c.m c.r else none
def has (c : Cg) (n : Int) : Bool := c.clean.some && decide (md n c.clean.m = c.clean.r)
def factor (a b : Int) : Bool := if a = 0 then decide (b = 0) else decide (b % a = 0)
def leq (a b : Cg) : Bool := if a.clean.some && b.clean.some then factor b.clean.m a.clean.m && has b.clean a.clean.r else !a.clean.some
def eq (a b : Cg) : Bool := a.some == b.some && (a.m == b.m && a.r == b.r)
end Cg
theorem tmod_fix (n m : Int) (h : 0 < m) : (n.tmod m < 0 -> n.tmod m + m = n % m) /\ (¬ n.tmod m < 0 -> n.tmod m = n % m) := by
 have h1 := Int.emod_nonneg n (show m ≠ 0 by omega)
 have h2 := Int.emod_lt_of_pos n h
 have h3 : n.tmod m = n % m - if 0 <= n \/ m ∣ n then 0 else m := by rw [Int.tmod_eq_emod]; split <;> simp <;> omega
 rw [h3]
 split <;> omega
theorem md_bound (n m : Int) (h : 0 < m) : 0 <= md n m /\ md n m < m := by
 unfold md; rw [if_neg (by omega)]; exact ⟨Int.emod_nonneg _ (by omega), Int.emod_lt_of_pos _ h⟩
theorem Cg.of_inR (m r : Int) (h0 : -9223372036854775808 <= m) (h1 : m < 9223372036854775808) (h2 : -9223372036854775808 <= r) (h3 : r < 9223372036854775808) : (Cg.of m r).inR := by
 unfold Cg.of
 by_cases hm : m < 0
 . rw [if_pos hm]
   have := md_bound r 1 (by omega)
   unfold Cg.inR; dsimp only; omega
 . rw [if_neg hm]
   by_cases h0 : m = 0
   . subst h0; unfold Cg.inR md; dsimp only; rw [if_pos (by omega)]; omega
   . have := md_bound r m (by omega)
     unfold Cg.inR; dsimp only; omega
theorem Cg.clean_nn (c : Cg) : 0 <= c.clean.m := by
 unfold Cg.clean Cg.of Cg.none
 split
 . split
   . dsimp only; omega
   . dsimp only; omega
 . decide
theorem Cg.clean_inR {c : Cg} (h : c.inR) : c.clean.inR := by
 unfold Cg.clean
 split
 . exact Cg.of_inR _ _ h.1.1 h.1.2 h.2.1 h.2.2
 . unfold Cg.none Cg.inR; decide
def FCMod : List Ar -> Option Rs
 | [.c (.d (.v (.int .i64 i0))), .c (.d (.v (.int .i64 i1)))] => some ⟨(-9223372036854775808 <= i0 /\ i0 < 9223372036854775808) /\ (-9223372036854775808 <= i1 /\ i1 < 9223372036854775808), .va (.c (.d (it (md i0 i1)))), []⟩
 | _ => none
theorem fcCMod : FC Tryz.prog 86 FCMod := by
 intro xs pre r us h hp
 unfold FCMod at h
 split at h
 . rename_i i0 i1
   cases h
   obtain ⟨hp0, hp1⟩ := hp
   refine fcat tys_ok (l := []) trivial Tryz.func86 rfl (by kernel_rfl) false ?_
   repeat' (first | exact trivial | refine ⟨?_, ?_⟩ | intro _)
   all_goals first | (with_reducible apply qq) | (conv => whnf)
   all_goals (try simp only [decide_eq_true_eq, decide_eq_false_iff_not] at *)
   all_goals first | omega | (have q := tmod_fix i0 i1 (by omega); have q2 := md_bound i0 i1 (by omega); unfold md at *; rw [if_neg (by omega)] at *; first | (rw [q.2 (by assumption)]) | (rw [wI_id _ (by omega) (by omega), q.1 (by assumption)])) | (unfold md; rw [if_pos (by assumption)])
 . cases h
def FRRest : List Ar -> Option Rs
 | [.c (.d (.v (.int .i64 i0))), .c (.d (.v (.int .i64 i1)))] => some ⟨(-9223372036854775808 <= i0 /\ i0 < 9223372036854775808) /\ (-9223372036854775808 <= i1 /\ i1 < 9223372036854775808) /\ (0 < i1), .va (.c (.d (it (md i0 i1)))), []⟩
 | _ => none
theorem fcRRest : FC Tryz.prog 102 FRRest := by
 intro xs pre r us h hp
 unfold FRRest at h
 split at h
 . rename_i i0 i1
   cases h
   obtain ⟨hp0, hp1, hp2⟩ := hp
   refine fcat tys_ok (l := []) trivial Tryz.func102 rfl (by kernel_rfl) false ?_
   repeat' (first | exact trivial | refine ⟨?_, ?_⟩ | intro _)
   all_goals first | (with_reducible apply qq) | (conv => whnf)
   all_goals (try simp only [decide_eq_true_eq, decide_eq_false_iff_not] at *)
   all_goals first | omega | (have q := tmod_fix i0 i1 (by omega); have q2 := md_bound i0 i1 (by omega); unfold md at *; rw [if_neg (by omega)] at *; first | (rw [q.2 (by assumption)]) | (rw [wI_id _ (by omega) (by omega), q.1 (by assumption)]))
 . cases h
def FCOf : List Ar -> Option Rs
 | [.c (.d (.v (.int .i64 i0))), .c (.d (.v (.int .i64 i1)))] => some ⟨(-9223372036854775808 <= i0 /\ i0 < 9223372036854775808) /\ (-9223372036854775808 <= i1 /\ i1 < 9223372036854775808), .va (Cg.ar (Cg.of i0 i1)), []⟩
 | _ => none
theorem fcCOf : FC Tryz.prog 61 FCOf := by
 intro xs pre r us h hp
 unfold FCOf at h
 split at h
 . rename_i i0 i1
   cases h
   obtain ⟨hp0, hp1⟩ := hp
   refine fcat tys_ok (l := [(86, ⟨[], FCMod⟩)]) ⟨fcCMod, trivial⟩ Tryz.func61 rfl (by kernel_rfl) false ?_
   repeat' (first | exact trivial | refine ⟨?_, ?_⟩ | intro _)
   all_goals first | (with_reducible apply qq) | (conv => whnf)
   all_goals grind [Cg.of]
 . cases h
def FCOne : List Ar -> Option Rs
 | [.c (.d (.v (.int .i64 i0)))] => some ⟨(-9223372036854775808 <= i0 /\ i0 < 9223372036854775808), .va (Cg.ar (Cg.of 0 i0)), []⟩
 | _ => none
theorem fcCOne : FC Tryz.prog 46 FCOne := by
 intro xs pre r us h hp
 unfold FCOne at h
 split at h
 . rename_i i0
   cases h
   have hp0 := hp
   refine fcat tys_ok (l := [(61, ⟨[], FCOf⟩)]) ⟨fcCOf, trivial⟩ Tryz.func46 rfl (by kernel_rfl) false ?_
   repeat' (first | exact trivial | refine ⟨?_, ?_⟩ | intro _)
   all_goals first | (with_reducible apply qq) | (conv => whnf)
   all_goals first | rfl | omega
 . cases h
def FCAll : List Ar -> Option Rs
 | [] => some ⟨True, .va (Cg.ar (Cg.of 1 0)), []⟩
 | _ => none
theorem fcCAll : FC Tryz.prog 33 FCAll := by
 intro xs pre r us h hp
 unfold FCAll at h
 split at h
 . cases h
   refine fcat tys_ok (l := [(61, ⟨[], FCOf⟩)]) ⟨fcCOf, trivial⟩ Tryz.func33 rfl (by kernel_rfl) false ?_
   repeat' (first | exact trivial | refine ⟨?_, ?_⟩ | intro _)
   all_goals first | (with_reducible apply qq) | (conv => whnf)
   all_goals first | rfl | omega
 . cases h
def FCNone : List Ar -> Option Rs
 | [.agg [.d (.v (.bool b0)), .d (.v (.int .i64 m0)), .d (.v (.int .i64 r0))]] => some ⟨(Cg.inR ⟨b0, m0, r0⟩), .va (.c (.d (bo (!b0)))), []⟩
 | _ => none
theorem fcCNone : FC Tryz.prog 96 FCNone := by
 intro xs pre r us h hp
 unfold FCNone at h
 split at h
 . rename_i b0 m0 r0
   cases h
   have hp0 := hp
   refine fcat tys_ok (l := []) trivial Tryz.func96 rfl (by kernel_rfl) false ?_
   repeat' (first | exact trivial | refine ⟨?_, ?_⟩ | intro _)
   all_goals first | (with_reducible apply qq) | (conv => whnf)
   all_goals rfl
 . cases h
def FCClean : List Ar -> Option Rs
 | [.agg [.d (.v (.bool b0)), .d (.v (.int .i64 m0)), .d (.v (.int .i64 r0))]] => some ⟨(Cg.inR ⟨b0, m0, r0⟩), .va (Cg.ar (Cg.clean (⟨b0, m0, r0⟩ : Cg))), []⟩
 | _ => none
theorem fcCClean : FC Tryz.prog 85 FCClean := by
 intro xs pre r us h hp
 unfold FCClean at h
 split at h
 . rename_i b0 m0 r0
   cases h
   have hp0 := hp
   refine fcat tys_ok (l := [(61, ⟨[], FCOf⟩)]) ⟨fcCOf, trivial⟩ Tryz.func85 rfl (by kernel_rfl) false ?_
   repeat' (first | exact trivial | refine ⟨?_, ?_⟩ | intro _)
   all_goals first | (with_reducible apply qq) | (conv => whnf)
   all_goals first | grind [Cg.clean, Cg.none, Cg.inR]
 . cases h
def FCHas : List Ar -> Option Rs
 | [.agg [.d (.v (.bool b0)), .d (.v (.int .i64 m0)), .d (.v (.int .i64 r0))], .c (.d (.v (.int .i64 i1)))] => some ⟨(Cg.inR ⟨b0, m0, r0⟩) /\ (-9223372036854775808 <= i1 /\ i1 < 9223372036854775808), .va (.c (.d (bo (Cg.has (⟨b0, m0, r0⟩ : Cg) i1)))), []⟩
 | _ => none
theorem fcCHas : FC Tryz.prog 48 FCHas := by
 intro xs pre r us h hp
 unfold FCHas at h
 split at h
 . rename_i b0 m0 r0 i1
   cases h
   obtain ⟨hp0, hp1⟩ := hp
   refine fcat tys_ok (l := [(85, ⟨[], FCClean⟩), (86, ⟨[], FCMod⟩)]) ⟨fcCClean, fcCMod, trivial⟩ Tryz.func48 rfl (by kernel_rfl) false ?_
   repeat' (first | exact trivial | refine ⟨?_, ?_⟩ | intro _)
   all_goals first | (with_reducible apply qq) | (conv => whnf)
   all_goals first | grind [Cg.has, Cg.inR, Cg.clean_inR]
 . cases h
def FRCClean : List Ar -> Option Rs
 | [.agg [.d (.v (.bool b0)), .d (.v (.int .i64 m0)), .d (.v (.int .i64 r0))]] => some ⟨(Cg.inR ⟨b0, m0, r0⟩), .va (Cg.ar (Cg.clean (⟨b0, m0, r0⟩ : Cg))), []⟩
 | _ => none
theorem fcRCClean : FC Tryz.prog 68 FRCClean := by
 intro xs pre r us h hp
 unfold FRCClean at h
 split at h
 . rename_i b0 m0 r0
   cases h
   have hp0 := hp
   refine fcat tys_ok (l := [(102, ⟨[], FRRest⟩)]) ⟨fcRRest, trivial⟩ Tryz.func68 rfl (by kernel_rfl) false ?_
   repeat' (first | exact trivial | refine ⟨?_, ?_⟩ | intro _)
   all_goals first | (with_reducible apply qq) | (conv => whnf)
   all_goals first | grind [Cg.clean, Cg.none, Cg.inR, Cg.of, md]
 . cases h
structure Sp where
 some : Bool
 lo : Int
 hi : Int
abbrev Sp.ar (s : Sp) : Ar := .agg [.d (bo s.some), .d (it s.lo), .d (it s.hi)]
namespace Sp
def none (s : Sp) : Bool := !s.some || decide (s.lo > s.hi)
def has (s : Sp) (n : Int) : Bool := s.some && decide (s.lo <= n) && decide (n <= s.hi)
def clean (s : Sp) : Sp := if s.none then ⟨false, 0, 0⟩ else s
def leq (a b : Sp) : Bool := a.none || (b.has a.lo && b.has a.hi)
def of (lo hi : Int) : Sp := if lo > hi then ⟨false, 0, 0⟩ else ⟨true, lo, hi⟩
def eq (a b : Sp) : Bool := a.some == b.some && (a.lo == b.lo && a.hi == b.hi)
def join (a b : Sp) : Sp := if a.none then b.clean else if b.none then a else of (min a.lo b.lo) (max a.hi b.hi)
def meet (a b : Sp) : Sp := if a.none || b.none then ⟨false, 0, 0⟩ else of (max a.lo b.lo) (min a.hi b.hi)
def narrow (a b : Sp) : Sp := if !leq b a then a.clean else if b.none then ⟨false, 0, 0⟩ else ⟨a.some, if a.lo = -9223372036854775808 then b.lo else a.lo, if a.hi = 9223372036854775807 then b.hi else a.hi⟩
def inR (s : Sp) : Prop := (-9223372036854775808 <= s.lo /\ s.lo < 9223372036854775808) /\ -9223372036854775808 <= s.hi /\ s.hi < 9223372036854775808
theorem clean_inR {s : Sp} (h : s.inR) : s.clean.inR := by
 unfold clean; split
 . unfold inR; decide
 . exact h
end Sp
def FSNone : List Ar -> Option Rs
 | [.agg [.d (.v (.bool s0)), .d (.v (.int .i64 l0)), .d (.v (.int .i64 h0))]] => some ⟨(Sp.inR ⟨s0, l0, h0⟩), .va (.c (.d (bo (Sp.none (⟨s0, l0, h0⟩ : Sp))))), []⟩
 | _ => none
theorem fcSNone : FC Tryz.prog 34 FSNone := by
 intro xs pre r us h hp
 unfold FSNone at h
 split at h
 . rename_i s0 l0 h0
   cases h
   have hp0 := hp
   refine fcat tys_ok (l := []) trivial Tryz.func34 rfl (by kernel_rfl) false ?_
   repeat' (first | exact trivial | refine ⟨?_, ?_⟩ | intro _)
   all_goals first | (with_reducible apply qq) | (conv => whnf)
   all_goals grind [Sp.none, Sp.inR]
 . cases h
def FRSNone0 : List Ar -> Option Rs
 | [.agg [.d (.v (.bool s0)), .d (.v (.int .i64 l0)), .d (.v (.int .i64 h0))]] => some ⟨(Sp.inR ⟨s0, l0, h0⟩), .va (.c (.d (bo (Sp.none (⟨s0, l0, h0⟩ : Sp))))), []⟩
 | _ => none
theorem fcRSNone0 : FC Tryz.prog 70 FRSNone0 := by
 intro xs pre r us h hp
 unfold FRSNone0 at h
 split at h
 . rename_i s0 l0 h0
   cases h
   have hp0 := hp
   refine fcat tys_ok (l := []) trivial Tryz.func70 rfl (by kernel_rfl) false ?_
   repeat' (first | exact trivial | refine ⟨?_, ?_⟩ | intro _)
   all_goals first | (with_reducible apply qq) | (conv => whnf)
   all_goals grind [Sp.none, Sp.inR]
 . cases h
def FSHas : List Ar -> Option Rs
 | [.agg [.d (.v (.bool s0)), .d (.v (.int .i64 l0)), .d (.v (.int .i64 h0))], .c (.d (.v (.int .i64 i1)))] => some ⟨(Sp.inR ⟨s0, l0, h0⟩) /\ (-9223372036854775808 <= i1 /\ i1 < 9223372036854775808), .va (.c (.d (bo (Sp.has (⟨s0, l0, h0⟩ : Sp) i1)))), []⟩
 | _ => none
theorem fcSHas : FC Tryz.prog 47 FSHas := by
 intro xs pre r us h hp
 unfold FSHas at h
 split at h
 . rename_i s0 l0 h0 i1
   cases h
   obtain ⟨hp0, hp1⟩ := hp
   refine fcat tys_ok (l := []) trivial Tryz.func47 rfl (by kernel_rfl) false ?_
   repeat' (first | exact trivial | refine ⟨?_, ?_⟩ | intro _)
   all_goals first | (with_reducible apply qq) | (conv => whnf)
   all_goals grind [Sp.has, Sp.inR]
 . cases h
def FRSHas : List Ar -> Option Rs
 | [.agg [.d (.v (.bool s0)), .d (.v (.int .i64 l0)), .d (.v (.int .i64 h0))], .c (.d (.v (.int .i64 i1)))] => some ⟨(Sp.inR ⟨s0, l0, h0⟩) /\ (-9223372036854775808 <= i1 /\ i1 < 9223372036854775808), .va (.c (.d (bo (Sp.has (⟨s0, l0, h0⟩ : Sp) i1)))), []⟩
 | _ => none
theorem fcRSHas : FC Tryz.prog 71 FRSHas := by
 intro xs pre r us h hp
 unfold FRSHas at h
 split at h
 . rename_i s0 l0 h0 i1
   cases h
   obtain ⟨hp0, hp1⟩ := hp
   refine fcat tys_ok (l := [(70, ⟨[], FRSNone0⟩)]) ⟨fcRSNone0, trivial⟩ Tryz.func71 rfl (by kernel_rfl) false ?_
   repeat' (first | exact trivial | refine ⟨?_, ?_⟩ | intro _)
   all_goals first | (with_reducible apply qq) | (conv => whnf)
   all_goals grind [Sp.has, Sp.none, Sp.inR]
 . cases h
def FSOf : List Ar -> Option Rs
 | [.c (.d (.v (.int .i64 i0))), .c (.d (.v (.int .i64 i1)))] => some ⟨(-9223372036854775808 <= i0 /\ i0 < 9223372036854775808) /\ (-9223372036854775808 <= i1 /\ i1 < 9223372036854775808), .va (Sp.ar (Sp.of i0 i1)), []⟩
 | _ => none
theorem fcSOf : FC Tryz.prog 32 FSOf := by
 intro xs pre r us h hp
 unfold FSOf at h
 split at h
 . rename_i i0 i1
   cases h
   obtain ⟨hp0, hp1⟩ := hp
   refine fcat tys_ok (l := []) trivial Tryz.func32 rfl (by kernel_rfl) false ?_
   repeat' (first | exact trivial | refine ⟨?_, ?_⟩ | intro _)
   all_goals first | (with_reducible apply qq) | (conv => whnf)
   all_goals grind [Sp.of]
 . cases h
def FSMake : List Ar -> Option Rs
 | [.c (.d (.v (.int .i64 i0))), .c (.d (.v (.int .i64 i1)))] => some ⟨(-9223372036854775808 <= i0 /\ i0 < 9223372036854775808) /\ (-9223372036854775808 <= i1 /\ i1 < 9223372036854775808), .va (Sp.ar (Sp.of i0 i1)), []⟩
 | _ => none
theorem fcSMake : FC Tryz.prog 38 FSMake := by
 intro xs pre r us h hp
 unfold FSMake at h
 split at h
 . rename_i i0 i1
   cases h
   obtain ⟨hp0, hp1⟩ := hp
   refine fcat tys_ok (l := [(70, ⟨[], FRSNone0⟩)]) ⟨fcRSNone0, trivial⟩ Tryz.func38 rfl (by kernel_rfl) false ?_
   repeat' (first | exact trivial | refine ⟨?_, ?_⟩ | intro _)
   all_goals first | (with_reducible apply qq) | (conv => whnf)
   all_goals grind [Sp.of, Sp.none, Sp.inR]
 . cases h
def FSOne : List Ar -> Option Rs
 | [.c (.d (.v (.int .i64 i0)))] => some ⟨(-9223372036854775808 <= i0 /\ i0 < 9223372036854775808), .va (Sp.ar (Sp.of i0 i0)), []⟩
 | _ => none
theorem fcSOne : FC Tryz.prog 45 FSOne := by
 intro xs pre r us h hp
 unfold FSOne at h
 split at h
 . rename_i i0
   cases h
   have hp0 := hp
   refine fcat tys_ok (l := [(32, ⟨[], FSOf⟩)]) ⟨fcSOf, trivial⟩ Tryz.func45 rfl (by kernel_rfl) false ?_
   repeat' (first | exact trivial | refine ⟨?_, ?_⟩ | intro _)
   all_goals first | (with_reducible apply qq) | (conv => whnf)
   all_goals first | rfl | omega
 . cases h
def FSAll : List Ar -> Option Rs
 | [] => some ⟨True, .va (Sp.ar (Sp.of (-9223372036854775808) 9223372036854775807)), []⟩
 | _ => none
theorem fcSAll : FC Tryz.prog 211 FSAll := by
 intro xs pre r us h hp
 unfold FSAll at h
 split at h
 . cases h
   refine fcat tys_ok (l := [(32, ⟨[], FSOf⟩)]) ⟨fcSOf, trivial⟩ Tryz.func211 rfl (by kernel_rfl) false ?_
   repeat' (first | exact trivial | refine ⟨?_, ?_⟩ | intro _)
   all_goals first | (with_reducible apply qq) | (conv => whnf)
   all_goals first | rfl | omega
 . cases h
def FSClean : List Ar -> Option Rs
 | [.agg [.d (.v (.bool s0)), .d (.v (.int .i64 l0)), .d (.v (.int .i64 h0))]] => some ⟨(Sp.inR ⟨s0, l0, h0⟩), .va (Sp.ar (Sp.clean (⟨s0, l0, h0⟩ : Sp))), []⟩
 | _ => none
theorem fcSClean : FC Tryz.prog 136 FSClean := by
 intro xs pre r us h hp
 unfold FSClean at h
 split at h
 . rename_i s0 l0 h0
   cases h
   have hp0 := hp
   refine fcat tys_ok (l := [(34, ⟨[], FSNone⟩)]) ⟨fcSNone, trivial⟩ Tryz.func136 rfl (by kernel_rfl) false ?_
   repeat' (first | exact trivial | refine ⟨?_, ?_⟩ | intro _)
   all_goals first | (with_reducible apply qq) | (conv => whnf)
   all_goals grind [Sp.clean, Sp.inR]
 . cases h
def FRSJoin : List Ar -> Option Rs
 | [.agg [.d (.v (.bool s0)), .d (.v (.int .i64 l0)), .d (.v (.int .i64 h0))], .agg [.d (.v (.bool s1)), .d (.v (.int .i64 l1)), .d (.v (.int .i64 h1))]] => some ⟨(Sp.inR ⟨s0, l0, h0⟩) /\ (Sp.inR ⟨s1, l1, h1⟩), .va (Sp.ar (Sp.join (⟨s0, l0, h0⟩ : Sp) (⟨s1, l1, h1⟩ : Sp))), []⟩
 | _ => none
theorem fcRSJoin : FC Tryz.prog 67 FRSJoin := by
 intro xs pre r us h hp
 unfold FRSJoin at h
 split at h
 . rename_i s0 l0 h0 s1 l1 h1
   cases h
   obtain ⟨hp0, hp1⟩ := hp
   refine fcat tys_ok (l := [(70, ⟨[], FRSNone0⟩), (38, ⟨[], FSMake⟩)]) ⟨fcRSNone0, fcSMake, trivial⟩ Tryz.func67 rfl (by kernel_rfl) false ?_
   repeat' (first | exact trivial | refine ⟨?_, ?_⟩ | intro _)
   all_goals first | (with_reducible apply qq) | (conv => whnf)
   all_goals grind [Sp.join, Sp.clean, Sp.none, Sp.of, Sp.inR]
 . cases h
def cI : Cell -> Int
 | .d (.v (.int _ n)) => n
 | _ => 0
def aB (b : Blk) (j : Nat) : Int := cI ((csB b)[j]?.getD .top)
def pw8 : Nat -> Int
 | 0 => 1
 | 1 => 65536
 | 2 => 4294967296
 | 3 => 281474976710656
 | 4 => 18446744073709551616
 | 5 => 1208925819614629174706176
 | 6 => 79228162514264337593543950336
 | 7 => 5192296858534827628530496329220096
 | _ => 340282366920938463463374607431768211456
def Wd.un (w : Wd) : Int := (w.hi % 18446744073709551616) * 18446744073709551616 + w.lo
def dgt (w : Wd) : Nat -> Int
 | 0 => w.lo / 1 % 65536
 | 1 => w.lo / 65536 % 65536
 | 2 => w.lo / 4294967296 % 65536
 | 3 => w.lo / 281474976710656 % 65536
 | 4 => w.hi % 18446744073709551616 / 1 % 65536
 | 5 => w.hi % 18446744073709551616 / 65536 % 65536
 | 6 => w.hi % 18446744073709551616 / 4294967296 % 65536
 | 7 => w.hi % 18446744073709551616 / 281474976710656 % 65536
 | _ => 0
def preS : Nat -> (Nat -> Int) -> Int
 | 0, _ => 0
 | i + 1, f => preS i f + pw8 i * f i
theorem dgt_bound (w : Wd) (j : Nat) : 0 <= dgt w j /\ dgt w j < 65536 := by unfold dgt; split <;> omega
theorem hor_eq (v : Int) (h0 : 0 <= v) (h1 : v < 18446744073709551616) : v / 1 % 65536 + 65536 * (v / 65536 % 65536) + 4294967296 * (v / 4294967296 % 65536) + 281474976710656 * (v / 281474976710656 % 65536) = v := by omega
theorem dgt_sum (w : Wd) (h : w.ok) : preS 8 (dgt w) = w.un := by
 have h1 := hor_eq w.lo h.2.1 h.2.2
 have h2 := hor_eq (w.hi % 18446744073709551616) (by omega) (by omega)
 simp only [preS, pw8, dgt, Wd.un] at *
 omega
def w8 (a b c d e f g h : Int) : Int := a + 65536 * b + 4294967296 * c + 281474976710656 * d + 18446744073709551616 * (e + 65536 * f + 4294967296 * g + 281474976710656 * h)
theorem tdivM (x b : Int) : (x % 18446744073709551616).tdiv b = x % 18446744073709551616 / b := Int.tdiv_eq_ediv_of_nonneg (Int.emod_nonneg _ (by decide))
theorem tmodM (x b : Int) : (x % 18446744073709551616).tmod b = x % 18446744073709551616 % b := Int.tmod_eq_emod_of_nonneg (Int.emod_nonneg _ (by decide))
theorem wd_shift (v k : Int) : wd (v + k * 340282366920938463463374607431768211456) = wd v := by
 unfold wd
 have h1 : (v + k * 340282366920938463463374607431768211456) % 18446744073709551616 = v % 18446744073709551616 := by omega
 have h2 : (v + k * 340282366920938463463374607431768211456) / 18446744073709551616 = v / 18446744073709551616 + k * 18446744073709551616 := by omega
 rw [h1, h2]
 congr 1
 omega
theorem wd_un {w : Wd} (h : w.ok) (v : Int) : wd (w.un + v) = wd (w.val + v) := by
 unfold Wd.ok at h
 have : w.un + v = w.val + v + (if w.hi < 0 then 1 else 0) * 340282366920938463463374607431768211456 := by
  unfold Wd.un Wd.val
  split <;> omega
 rw [this, wd_shift]
theorem wd_val_add (v k : Int) : wd ((wd v).val + k) = wd (v + k) := by
 obtain ⟨q, hq⟩ : ∃ q, (wd v).val = v + q * 340282366920938463463374607431768211456 := ⟨-((v / 18446744073709551616 + 9223372036854775808) / 18446744073709551616), by unfold wd Wd.val; dsimp only; omega⟩
 rw [hq, show v + q * 340282366920938463463374607431768211456 + k = v + k + q * 340282366920938463463374607431768211456 by omega, wd_shift]
def wCmp (a b : Int) : Int := if a < b then -1 else if b < a then 1 else 0
def pw : Nat -> Int
 | 0 => 1
 | 1 => 65536
 | 2 => 4294967296
 | 3 => 281474976710656
 | _ => 18446744073709551616
theorem preS8 (d : Nat -> Int) : preS 8 d = w8 (d 0) (d 1) (d 2) (d 3) (d 4) (d 5) (d 6) (d 7) := by simp only [preS, pw8, w8]; omega
theorem add_key {a b : Wd} (ha : a.ok) (hb : b.ok) {d : Nat -> Int} {c : Int} (h : preS 8 d + c * 340282366920938463463374607431768211456 = preS 8 (dgt a) + preS 8 (dgt b)) : wd (w8 (d 0) (d 1) (d 2) (d 3) (d 4) (d 5) (d 6) (d 7)) = wd (a.val + b.val) := by
 rw [dgt_sum a ha, dgt_sum b hb, preS8] at h
 rw [show w8 (d 0) (d 1) (d 2) (d 3) (d 4) (d 5) (d 6) (d 7) = a.un + (b.un + -c * 340282366920938463463374607431768211456) by omega, wd_un ha, show a.val + (b.un + -c * 340282366920938463463374607431768211456) = b.un + a.val + -c * 340282366920938463463374607431768211456 by omega, wd_shift, wd_un hb, Int.add_comm]
def FDigits : List Ar -> Option Rs
 | [.agg [.d (.v (.int .i64 h0)), .d (.v (.int .u64 l0))]] => some ⟨(Wd.ok ⟨h0, l0⟩), .va (.agg [.d (ut (dgt (⟨h0, l0⟩ : Wd) 0)), .d (ut (dgt (⟨h0, l0⟩ : Wd) 1)), .d (ut (dgt (⟨h0, l0⟩ : Wd) 2)), .d (ut (dgt (⟨h0, l0⟩ : Wd) 3)), .d (ut (dgt (⟨h0, l0⟩ : Wd) 4)), .d (ut (dgt (⟨h0, l0⟩ : Wd) 5)), .d (ut (dgt (⟨h0, l0⟩ : Wd) 6)), .d (ut (dgt (⟨h0, l0⟩ : Wd) 7))]), []⟩
 | _ => none
theorem fcDigits : FC Tryz.prog 105 FDigits := by
 intro xs pre r us h hp
 unfold FDigits at h
 split at h
 . rename_i h0 l0
   cases h
   have hp0 := hp
   refine fcat tys_ok (l := []) trivial Tryz.func105 rfl (by kernel_rfl) false ?_
   repeat' (first | exact trivial | refine ⟨?_, ?_⟩ | intro _)
   all_goals first | (with_reducible apply qq) | (conv => whnf)
   refine loop_ok tys_ok (l := []) trivial (by kernel_rfl) (X := Nat × Int × Int × (Nat -> Int))
    (fun | (i, lo, hi, d) => ⟨[(6, vx (.int .i64 i)), (4, vx (.int .u64 lo)), (5, vx (.int .u64 hi)), (3, .va (.c (.own 2 0))), (2, .va (.c (.own 1 0)))], [(1, .cells [.d (ut (0)), .d (ut (0)), .d (ut (0)), .d (ut (0)), .d (ut (0)), .d (ut (0)), .d (ut (0)), .d (ut (0))]), (2, .cells [.d (ut (d 0)), .d (ut (d 1)), .d (ut (d 2)), .d (ut (d 3)), .d (ut (d 4)), .d (ut (d 5)), .d (ut (d 6)), .d (ut (d 7))])], 3, 30⟩)
    (fun | (i, _) => 4 - i) (fun | (i, lo, hi, d) => ((0 <= lo /\ lo < 18446744073709551616) /\ 0 <= hi /\ hi < 18446744073709551616) /\ i <= 4 /\ lo = l0 / pw i /\ hi = h0 % 18446744073709551616 / pw i /\ (0 < i -> d 0 = dgt ⟨h0, l0⟩ 0 /\ d 4 = dgt ⟨h0, l0⟩ 4) /\ (1 < i -> d 1 = dgt ⟨h0, l0⟩ 1 /\ d 5 = dgt ⟨h0, l0⟩ 5) /\ (2 < i -> d 2 = dgt ⟨h0, l0⟩ 2 /\ d 6 = dgt ⟨h0, l0⟩ 6) /\ (3 < i -> d 3 = dgt ⟨h0, l0⟩ 3 /\ d 7 = dgt ⟨h0, l0⟩ 7)) [4, 5] [2]
    (fun | (i, _), [t, u], [b] => (i + 1, iT t, iT u, aB b) | x, _, _ => x) [0, 1, 2] [0, 1, 2] 0 0 (0, l0, IntKind.wrap .u64 h0, fun _ => 0) ?_ ?_ ?_
   . rw [wU]; simp only [Wd.ok, pw] at *; omega
   . repeat' (first | exact trivial | exact rfl | (intro _ _; exact rfl) | refine ⟨?_, ?_⟩)
   . rintro ⟨i, lo, hi, d⟩ ⟨⟨⟨k1, k2⟩, k3, k4⟩, h1, h2, h3, h4⟩
     repeat' (first | exact trivial | refine ⟨?_, ?_⟩ | intro _)
     all_goals first | (with_reducible apply qq) | (conv => whnf)
     all_goals first | with_reducible rfl | ((with_reducible show idsOk _ _ = true); rfl) | (exact absurd ‹(65536 : Int) = 0› (by decide)) | (clear hp; rcases (show i = 0 \/ i = 1 \/ i = 2 \/ i = 3 \/ i = 4 by omega) with rfl | rfl | rfl | rfl | rfl <;> first | omega | (simp [aB, csB, cI, pw, iT, wU, wI, dgt, Wd.ok, Int.tdiv_eq_ediv_of_nonneg, Int.tmod_eq_emod_of_nonneg, k1, k3] at * <;> omega))
 . cases h
def hor (a b c d : Int) : Nat -> Int
 | 0 => a + 65536 * (b + 65536 * (c + 65536 * d))
 | 1 => b + 65536 * (c + 65536 * d)
 | 2 => c + 65536 * d
 | 3 => d
 | _ => 0
def FWide : List Ar -> Option Rs
 | [.agg [.d (.v (.int .u64 q0_0)), .d (.v (.int .u64 q0_1)), .d (.v (.int .u64 q0_2)), .d (.v (.int .u64 q0_3)), .d (.v (.int .u64 q0_4)), .d (.v (.int .u64 q0_5)), .d (.v (.int .u64 q0_6)), .d (.v (.int .u64 q0_7))]] => some ⟨(((0 <= q0_0 /\ q0_0 < 65536) /\ (0 <= q0_1 /\ q0_1 < 65536) /\ (0 <= q0_2 /\ q0_2 < 65536) /\ (0 <= q0_3 /\ q0_3 < 65536) /\ (0 <= q0_4 /\ q0_4 < 65536) /\ (0 <= q0_5 /\ q0_5 < 65536) /\ (0 <= q0_6 /\ q0_6 < 65536) /\ (0 <= q0_7 /\ q0_7 < 65536))), .va (Wd.ar (wd (w8 q0_0 q0_1 q0_2 q0_3 q0_4 q0_5 q0_6 q0_7))), []⟩
 | _ => none
theorem fcWide : FC Tryz.prog 106 FWide := by
 intro xs pre r us h hp
 unfold FWide at h
 split at h
 . rename_i q0_0 q0_1 q0_2 q0_3 q0_4 q0_5 q0_6 q0_7
   cases h
   have hp0 := hp
   refine fcat tys_ok (l := []) trivial Tryz.func106 rfl (by kernel_rfl) false ?_
   repeat' (first | exact trivial | refine ⟨?_, ?_⟩ | intro _)
   all_goals first | (with_reducible apply qq) | (conv => whnf)
   refine loop_ok tys_ok (l := []) trivial (by kernel_rfl) (X := Nat × Int × Int)
    (fun | (n, lo, hi) => ⟨[(5, vx (.int .i64 ((n : Int) - 1))), (3, vx (.int .u64 lo)), (4, vx (.int .u64 hi)), (1, .va (.c (.own 0 0))), (2, .va (.c (.own 1 0)))], [(0, .cells [.d (ut (q0_0)), .d (ut (q0_1)), .d (ut (q0_2)), .d (ut (q0_3)), .d (ut (q0_4)), .d (ut (q0_5)), .d (ut (q0_6)), .d (ut (q0_7))]), (1, .cells [.d (it 0), .d (ut 0)])], 2, 27⟩)
    (fun | (n, _) => n) (fun | (n, lo, hi) => n <= 4 /\ lo = hor q0_0 q0_1 q0_2 q0_3 n /\ hi = hor q0_4 q0_5 q0_6 q0_7 n) [3, 4] []
    (fun | (n, _), [t, u], _ => (n - 1, iT t, iT u) | x, _, _ => x) [0, 1] [0, 1] 0 0 (4, 0, 0) ?_ ?_ ?_
   . exact ⟨Nat.le_refl _, rfl, rfl⟩
   . repeat' (first | exact trivial | exact rfl | (intro _ _; exact rfl) | refine ⟨?_, ?_⟩)
   . rintro ⟨n, lo, hi⟩ ⟨h1, h2, h3⟩
     repeat' (first | exact trivial | refine ⟨?_, ?_⟩ | intro _)
     all_goals first | (with_reducible apply qq) | (conv => whnf)
     all_goals first | with_reducible rfl | ((with_reducible show idsOk _ _ = true); rfl) | (exact absurd ‹(65536 : Int) = 0› (by decide)) | (clear hp; rcases (show n = 0 \/ n = 1 \/ n = 2 \/ n = 3 \/ n = 4 by omega) with rfl | rfl | rfl | rfl | rfl <;> first | omega | (simp [hor, w8, iT, wU, wI, wd, selI] at * <;> omega))
 . cases h
def FRAdd : List Ar -> Option Rs
 | [.agg [.d (.v (.int .i64 h0)), .d (.v (.int .u64 l0))], .agg [.d (.v (.int .i64 h1)), .d (.v (.int .u64 l1))]] => some ⟨(Wd.ok ⟨h0, l0⟩) /\ (Wd.ok ⟨h1, l1⟩), .va (Wd.ar (wd (Wd.val (⟨h0, l0⟩ : Wd) + Wd.val (⟨h1, l1⟩ : Wd)))), []⟩
 | _ => none
theorem fcRAdd : FC Tryz.prog 73 FRAdd := by
 intro xs pre r us h hp
 unfold FRAdd at h
 split at h
 . rename_i h0 l0 h1 l1
   cases h
   obtain ⟨hp0, hp1⟩ := hp
   refine fcat tys_ok (l := [(105, ⟨[], FDigits⟩), (106, ⟨[], FWide⟩)]) ⟨fcDigits, fcWide, trivial⟩ Tryz.func73 rfl (by kernel_rfl) false ?_
   repeat' (first | exact trivial | refine ⟨?_, ?_⟩ | intro _)
   all_goals first | (with_reducible apply qq) | (conv => whnf)
   all_goals first | ((with_reducible show ASat _ _ _ _ _); skip) | (simp only [Wd.ok] at *; omega)
   refine loop_ok tys_ok (l := [(105, ⟨[], FDigits⟩), (106, ⟨[], FWide⟩)]) ⟨fcDigits, fcWide, trivial⟩ (by kernel_rfl) (X := Nat × Int × (Nat -> Int))
    (fun | (i, c, d) => ⟨[(8, vx (.int .i64 i)), (7, vx (.int .u64 c)), (5, .va (.c (.own 3 0))), (6, .va (.c (.own 4 0))), (4, .va (.c (.own 2 0)))], [(2, .cells [.d (it 0), .d (ut 0)]), (3, .cells [.d (ut (d 0)), .d (ut (d 1)), .d (ut (d 2)), .d (ut (d 3)), .d (ut (d 4)), .d (ut (d 5)), .d (ut (d 6)), .d (ut (d 7))]), (4, .cells [.d (ut (dgt ⟨h1, l1⟩ 0)), .d (ut (dgt ⟨h1, l1⟩ 1)), .d (ut (dgt ⟨h1, l1⟩ 2)), .d (ut (dgt ⟨h1, l1⟩ 3)), .d (ut (dgt ⟨h1, l1⟩ 4)), .d (ut (dgt ⟨h1, l1⟩ 5)), .d (ut (dgt ⟨h1, l1⟩ 6)), .d (ut (dgt ⟨h1, l1⟩ 7))])], 5, 35⟩)
    (fun | (i, _) => 8 - i) (fun | (i, c, d) => i <= 8 /\ (0 <= c /\ c <= 1) /\ preS i d + c * pw8 i = preS i (dgt ⟨h0, l0⟩) + preS i (dgt ⟨h1, l1⟩) /\ ((0 <= d 0 /\ d 0 < 65536) /\ (0 <= d 1 /\ d 1 < 65536) /\ (0 <= d 2 /\ d 2 < 65536) /\ (0 <= d 3 /\ d 3 < 65536) /\ (0 <= d 4 /\ d 4 < 65536) /\ (0 <= d 5 /\ d 5 < 65536) /\ (0 <= d 6 /\ d 6 < 65536) /\ (0 <= d 7 /\ d 7 < 65536)) /\ (i <= 0 -> d 0 = dgt ⟨h0, l0⟩ 0) /\ (i <= 1 -> d 1 = dgt ⟨h0, l0⟩ 1) /\ (i <= 2 -> d 2 = dgt ⟨h0, l0⟩ 2) /\ (i <= 3 -> d 3 = dgt ⟨h0, l0⟩ 3) /\ (i <= 4 -> d 4 = dgt ⟨h0, l0⟩ 4) /\ (i <= 5 -> d 5 = dgt ⟨h0, l0⟩ 5) /\ (i <= 6 -> d 6 = dgt ⟨h0, l0⟩ 6) /\ (i <= 7 -> d 7 = dgt ⟨h0, l0⟩ 7)) [7] [3]
    (fun | (i, _), [t], [b] => (i + 1, iT t, aB b) | x, _, _ => x) [0, 1, 2, 3, 4] [0, 1, 2, 7, 8] 0 0 (0, 0, dgt ⟨h0, l0⟩) ?_ ?_ ?_
   . refine ⟨by omega, by omega, rfl, ?_, ?_⟩
     . exact ⟨dgt_bound _ _, dgt_bound _ _, dgt_bound _ _, dgt_bound _ _, dgt_bound _ _, dgt_bound _ _, dgt_bound _ _, dgt_bound _ _⟩
     . simp
   . repeat' (first | exact trivial | exact rfl | (intro _ _; exact rfl) | refine ⟨?_, ?_⟩)
   . rintro ⟨i, c, d⟩ ⟨k1, k2, k3, k4, k5⟩
     have kk : i = 8 -> wd (w8 (d 0) (d 1) (d 2) (d 3) (d 4) (d 5) (d 6) (d 7)) = wd (Wd.val ⟨h0, l0⟩ + Wd.val ⟨h1, l1⟩) := fun e => by subst e; exact add_key hp0 hp1 (c := c) k3
     repeat' (first | exact trivial | refine ⟨?_, ?_⟩ | intro _)
     all_goals first | (with_reducible apply qq) | (conv => whnf)
     all_goals first | with_reducible rfl | ((with_reducible show idsOk _ _ = true); rfl) | (exact absurd ‹(65536 : Int) = 0› (by decide)) | omega | (simp only [decide_eq_false_iff_not] at *; rw [kk (by omega)]) | (clear kk; have a0 := dgt_bound ⟨h0, l0⟩ 0; have b0 := dgt_bound ⟨h1, l1⟩ 0; have a1 := dgt_bound ⟨h0, l0⟩ 1; have b1 := dgt_bound ⟨h1, l1⟩ 1; have a2 := dgt_bound ⟨h0, l0⟩ 2; have b2 := dgt_bound ⟨h1, l1⟩ 2; have a3 := dgt_bound ⟨h0, l0⟩ 3; have b3 := dgt_bound ⟨h1, l1⟩ 3; have a4 := dgt_bound ⟨h0, l0⟩ 4; have b4 := dgt_bound ⟨h1, l1⟩ 4; have a5 := dgt_bound ⟨h0, l0⟩ 5; have b5 := dgt_bound ⟨h1, l1⟩ 5; have a6 := dgt_bound ⟨h0, l0⟩ 6; have b6 := dgt_bound ⟨h1, l1⟩ 6; have a7 := dgt_bound ⟨h0, l0⟩ 7; have b7 := dgt_bound ⟨h1, l1⟩ 7; rcases (show i = 0 \/ i = 1 \/ i = 2 \/ i = 3 \/ i = 4 \/ i = 5 \/ i = 6 \/ i = 7 \/ i = 8 by omega) with rfl | rfl | rfl | rfl | rfl | rfl | rfl | rfl | rfl <;> first | omega | (simp [aB, csB, cI, iT, wU, wI, preS, pw8, selI, tdivM, tmodM] at * <;> omega))
 . cases h
theorem un_val (w : Wd) (h : w.ok) : ∃ k, w.un = w.val + k * 340282366920938463463374607431768211456 := ⟨if w.hi < 0 then 1 else 0, by
 unfold Wd.ok at h; unfold Wd.un Wd.val; split <;> omega⟩
theorem val_wd (v : Int) : ∃ k, (wd v).val = v + k * 340282366920938463463374607431768211456 := ⟨-((v / 18446744073709551616 + 9223372036854775808) / 18446744073709551616), by unfold wd Wd.val; dsimp only; omega⟩
theorem wd_neg_val (v : Int) : wd (-(wd v).val) = wd (-v) := by
 obtain ⟨k, hk⟩ := val_wd v
 rw [hk, show -(v + k * 340282366920938463463374607431768211456) = -v + -k * 340282366920938463463374607431768211456 by omega, wd_shift]
theorem neg_key {a : Wd} (ha : a.ok) {d : Nat -> Int} (h : (d 0 = 65535 - dgt a 0 /\ d 1 = 65535 - dgt a 1) /\ (d 2 = 65535 - dgt a 2 /\ d 3 = 65535 - dgt a 3) /\ (d 4 = 65535 - dgt a 4 /\ d 5 = 65535 - dgt a 5) /\ d 6 = 65535 - dgt a 6 /\ d 7 = 65535 - dgt a 7) :
 wd (Wd.val ⟨(wd (w8 (d 0) (d 1) (d 2) (d 3) (d 4) (d 5) (d 6) (d 7))).hi, (wd (w8 (d 0) (d 1) (d 2) (d 3) (d 4) (d 5) (d 6) (d 7))).lo⟩ + Wd.val ⟨0, 1⟩) = wd (-a.val) := by
 have h2 := dgt_sum a ha
 rw [preS8] at h2
 have h3 : w8 (d 0) (d 1) (d 2) (d 3) (d 4) (d 5) (d 6) (d 7) = 340282366920938463463374607431768211456 - 1 - a.un := by unfold w8 at *; omega
 have h4 : Wd.val ⟨0, 1⟩ = 1 := by decide
 obtain ⟨k, hk⟩ := un_val a ha
 show wd ((wd (w8 (d 0) (d 1) (d 2) (d 3) (d 4) (d 5) (d 6) (d 7))).val + Wd.val ⟨0, 1⟩) = _
 rw [h4, wd_val_add, h3, hk, show 340282366920938463463374607431768211456 - 1 - (a.val + k * 340282366920938463463374607431768211456) + 1 = -a.val + (1 - k) * 340282366920938463463374607431768211456 by omega, wd_shift]
theorem of_key (n : Int) : wd (-(Wd.val ⟨(wd (Wd.val ⟨0, -(n + 1)⟩ + Wd.val ⟨0, 1⟩)).hi, (wd (Wd.val ⟨0, -(n + 1)⟩ + Wd.val ⟨0, 1⟩)).lo⟩)) = wd n := by
 show wd (-(wd (Wd.val ⟨0, -(n + 1)⟩ + Wd.val ⟨0, 1⟩)).val) = _
 rw [wd_neg_val]
 congr 1
 unfold Wd.val
 dsimp only
 omega
theorem cmp_sign {h0 l0 h1 l1 : Int} (hp0 : Wd.ok ⟨h0, l0⟩) (hp1 : Wd.ok ⟨h1, l1⟩) (h : (!decide (h0 < 0) == decide (h1 < 0)) = true) :
 (decide (h0 < 0) = true -> -1 = wCmp (Wd.val ⟨h0, l0⟩) (Wd.val ⟨h1, l1⟩)) /\ (decide (h0 < 0) = false -> 1 = wCmp (Wd.val ⟨h0, l0⟩) (Wd.val ⟨h1, l1⟩)) := by
 have q : (h0 < 0 /\ ¬ h1 < 0) \/ (¬ h0 < 0 /\ h1 < 0) := by
  by_cases a : h0 < 0 <;> by_cases b : h1 < 0 <;> simp_all
 clear h
 unfold Wd.ok at hp0 hp1
 dsimp only at hp0 hp1
 unfold wCmp Wd.val
 dsimp only
 constructor
 . intro h
   have h := of_decide_eq_true h
   rw [if_pos (by omega)]
 . intro h
   have h := of_decide_eq_false h
   rw [if_neg (by omega), if_pos (by omega)]
theorem cmp_un {h0 l0 h1 l1 : Int} (hp0 : Wd.ok ⟨h0, l0⟩) (hp1 : Wd.ok ⟨h1, l1⟩) (h : (!decide (h0 < 0) == decide (h1 < 0)) = false) :
 wCmp (Wd.val ⟨h0, l0⟩) (Wd.val ⟨h1, l1⟩) = wCmp (preS 8 (dgt ⟨h0, l0⟩)) (preS 8 (dgt ⟨h1, l1⟩)) := by
 rw [dgt_sum _ hp0, dgt_sum _ hp1]
 have q : (h0 < 0 /\ h1 < 0) \/ (¬ h0 < 0 /\ ¬ h1 < 0) := by
  by_cases a : h0 < 0 <;> by_cases b : h1 < 0 <;> simp_all
 clear h
 unfold Wd.ok at hp0 hp1
 dsimp only at hp0 hp1
 unfold wCmp Wd.val Wd.un
 dsimp only
 split <;> split <;> first | omega | (split <;> split <;> omega) | (split <;> omega)
theorem sub_key (a b : Wd) : wd (a.val + Wd.val ⟨(wd (-b.val)).hi, (wd (-b.val)).lo⟩) = wd (a.val - b.val) := by
 show wd (a.val + (wd (-b.val)).val) = _
 rw [Int.add_comm, wd_val_add]
 congr 1; omega
def FRNeg : List Ar -> Option Rs
 | [.agg [.d (.v (.int .i64 h0)), .d (.v (.int .u64 l0))]] => some ⟨(Wd.ok ⟨h0, l0⟩), .va (Wd.ar (wd (-Wd.val (⟨h0, l0⟩ : Wd)))), []⟩
 | _ => none
theorem fcRNeg : FC Tryz.prog 107 FRNeg := by
 intro xs pre r us h hp
 unfold FRNeg at h
 split at h
 . rename_i h0 l0
   cases h
   have hp0 := hp
   refine fcat tys_ok (l := [(105, ⟨[], FDigits⟩), (106, ⟨[], FWide⟩), (73, ⟨[], FRAdd⟩)]) ⟨fcDigits, fcWide, fcRAdd, trivial⟩ Tryz.func107 rfl (by kernel_rfl) false ?_
   repeat' (first | exact trivial | refine ⟨?_, ?_⟩ | intro _)
   all_goals first | (with_reducible apply qq) | (conv => whnf)
   all_goals first | ((with_reducible show ASat _ _ _ _ _); skip) | (simp only [Wd.ok] at *; omega)
   refine loop_ok tys_ok (l := [(105, ⟨[], FDigits⟩), (106, ⟨[], FWide⟩), (73, ⟨[], FRAdd⟩)]) ⟨fcDigits, fcWide, fcRAdd, trivial⟩ (by kernel_rfl) (X := Nat × (Nat -> Int))
    (fun | (i, d) => ⟨[(4, vx (.int .i64 i)), (3, .va (.c (.own 2 0))), (2, .va (.c (.own 1 0)))], [(1, .cells [.d (it 0), .d (ut 0)]), (2, .cells [.d (ut (d 0)), .d (ut (d 1)), .d (ut (d 2)), .d (ut (d 3)), .d (ut (d 4)), .d (ut (d 5)), .d (ut (d 6)), .d (ut (d 7))])], 3, 21⟩)
    (fun | (i, _) => 8 - i) (fun | (i, d) => i <= 8 /\ ((0 < i -> d 0 = 65535 - dgt ⟨h0, l0⟩ 0) /\ (i <= 0 -> d 0 = dgt ⟨h0, l0⟩ 0)) /\ ((1 < i -> d 1 = 65535 - dgt ⟨h0, l0⟩ 1) /\ (i <= 1 -> d 1 = dgt ⟨h0, l0⟩ 1)) /\ ((2 < i -> d 2 = 65535 - dgt ⟨h0, l0⟩ 2) /\ (i <= 2 -> d 2 = dgt ⟨h0, l0⟩ 2)) /\ ((3 < i -> d 3 = 65535 - dgt ⟨h0, l0⟩ 3) /\ (i <= 3 -> d 3 = dgt ⟨h0, l0⟩ 3)) /\ ((4 < i -> d 4 = 65535 - dgt ⟨h0, l0⟩ 4) /\ (i <= 4 -> d 4 = dgt ⟨h0, l0⟩ 4)) /\ ((5 < i -> d 5 = 65535 - dgt ⟨h0, l0⟩ 5) /\ (i <= 5 -> d 5 = dgt ⟨h0, l0⟩ 5)) /\ ((6 < i -> d 6 = 65535 - dgt ⟨h0, l0⟩ 6) /\ (i <= 6 -> d 6 = dgt ⟨h0, l0⟩ 6)) /\ ((7 < i -> d 7 = 65535 - dgt ⟨h0, l0⟩ 7) /\ (i <= 7 -> d 7 = dgt ⟨h0, l0⟩ 7))) [] [2]
    (fun | (i, _), _, [b] => (i + 1, aB b) | x, _, _ => x) [0, 1, 2] [0, 1, 2] 0 0 (0, dgt ⟨h0, l0⟩) ?_ ?_ ?_
   . simp
   . repeat' (first | exact trivial | exact rfl | (intro _ _; exact rfl) | refine ⟨?_, ?_⟩)
   . rintro ⟨i, d⟩ ⟨k1, k5⟩
     have kk : i = 8 -> _ := fun e => neg_key hp0 (d := d) (by subst e; omega)
     repeat' (first | exact trivial | refine ⟨?_, ?_⟩ | intro _)
     all_goals first | (with_reducible apply qq) | (conv => whnf)
     all_goals first | with_reducible rfl | ((with_reducible show idsOk _ _ = true); rfl) | (exact absurd ‹(65536 : Int) = 0› (by decide)) | omega | (simp only [decide_eq_false_iff_not] at *; rw [kk (by omega)]) | (exact (wd_ok _).1.1) | (exact (wd_ok _).1.2) | (exact (wd_ok _).2.1) | (exact (wd_ok _).2.2) | (clear kk; have a0 := dgt_bound ⟨h0, l0⟩ 0; have a1 := dgt_bound ⟨h0, l0⟩ 1; have a2 := dgt_bound ⟨h0, l0⟩ 2; have a3 := dgt_bound ⟨h0, l0⟩ 3; have a4 := dgt_bound ⟨h0, l0⟩ 4; have a5 := dgt_bound ⟨h0, l0⟩ 5; have a6 := dgt_bound ⟨h0, l0⟩ 6; have a7 := dgt_bound ⟨h0, l0⟩ 7; rcases (show i = 0 \/ i = 1 \/ i = 2 \/ i = 3 \/ i = 4 \/ i = 5 \/ i = 6 \/ i = 7 \/ i = 8 by omega) with rfl | rfl | rfl | rfl | rfl | rfl | rfl | rfl | rfl <;> first | omega | (simp [aB, csB, cI, iT, wU, wI, preS, pw8, selI, tdivM, tmodM] at * <;> omega))
 . cases h
def FRSub : List Ar -> Option Rs
 | [.agg [.d (.v (.int .i64 h0)), .d (.v (.int .u64 l0))], .agg [.d (.v (.int .i64 h1)), .d (.v (.int .u64 l1))]] => some ⟨(Wd.ok ⟨h0, l0⟩) /\ (Wd.ok ⟨h1, l1⟩), .va (Wd.ar (wd (Wd.val (⟨h0, l0⟩ : Wd) - Wd.val (⟨h1, l1⟩ : Wd)))), []⟩
 | _ => none
theorem fcRSub : FC Tryz.prog 76 FRSub := by
 intro xs pre r us h hp
 unfold FRSub at h
 split at h
 . rename_i h0 l0 h1 l1
   cases h
   obtain ⟨hp0, hp1⟩ := hp
   refine fcat tys_ok (l := [(107, ⟨[], FRNeg⟩), (73, ⟨[], FRAdd⟩)]) ⟨fcRNeg, fcRAdd, trivial⟩ Tryz.func76 rfl (by kernel_rfl) false ?_
   repeat' (first | exact trivial | refine ⟨?_, ?_⟩ | intro _)
   all_goals first | (with_reducible apply qq) | (conv => whnf)
   all_goals first | rfl | (exact (wd_ok _).1.1) | (exact (wd_ok _).1.2) | (exact (wd_ok _).2.1) | (exact (wd_ok _).2.2) | (simp only [Wd.ok] at *; omega) | (rw [sub_key])
 . cases h
def FROf : List Ar -> Option Rs
 | [.c (.d (.v (.int .i64 i0)))] => some ⟨(-9223372036854775808 <= i0 /\ i0 < 9223372036854775808), .va (Wd.ar (wd i0)), []⟩
 | _ => none
theorem fcROf : FC Tryz.prog 74 FROf := by
 intro xs pre r us h hp
 unfold FROf at h
 split at h
 . rename_i i0
   cases h
   have hp0 := hp
   refine fcat tys_ok (l := [(107, ⟨[], FRNeg⟩), (73, ⟨[], FRAdd⟩)]) ⟨fcRNeg, fcRAdd, trivial⟩ Tryz.func74 rfl (by kernel_rfl) false ?_
   repeat' (first | exact trivial | refine ⟨?_, ?_⟩ | intro _)
   all_goals first | (with_reducible apply qq) | (conv => whnf)
   all_goals (try simp only [wI, wU, decide_eq_true_eq, decide_eq_false_iff_not] at *)
   all_goals (try (rw [show ((0 - ((i0 + 1 + 9223372036854775808) % 18446744073709551616 - 9223372036854775808) + 9223372036854775808) % 18446744073709551616 - 9223372036854775808) % 18446744073709551616 = -(i0 + 1) by omega]))
   all_goals first | (exact (wd_ok _).1.1) | (exact (wd_ok _).1.2) | (exact (wd_ok _).2.1) | (exact (wd_ok _).2.2) | omega | (rw [of_key]) | (simp only [Wd.ok, wd, Value.int.injEq, true_and] at * <;> omega)
 . cases h
def FRCmp : List Ar -> Option Rs
 | [.agg [.d (.v (.int .i64 h0)), .d (.v (.int .u64 l0))], .agg [.d (.v (.int .i64 h1)), .d (.v (.int .u64 l1))]] => some ⟨(Wd.ok ⟨h0, l0⟩) /\ (Wd.ok ⟨h1, l1⟩), .va (.c (.d (it (wCmp (Wd.val (⟨h0, l0⟩ : Wd)) (Wd.val (⟨h1, l1⟩ : Wd)))))), []⟩
 | _ => none
theorem fcRCmp : FC Tryz.prog 104 FRCmp := by
 intro xs pre r us h hp
 unfold FRCmp at h
 split at h
 . rename_i h0 l0 h1 l1
   cases h
   obtain ⟨hp0, hp1⟩ := hp
   refine fcat tys_ok (l := [(105, ⟨[], FDigits⟩)]) ⟨fcDigits, trivial⟩ Tryz.func104 rfl (by kernel_rfl) false ?_
   repeat' (first | exact trivial | refine ⟨?_, ?_⟩ | intro _)
   all_goals first | (with_reducible apply qq) | (conv => whnf)
   all_goals first | ((with_reducible show ASat _ _ _ _ _); skip) | (simp only [Wd.ok] at *; omega) | (rw [<- (cmp_sign hp0 hp1 ‹_›).1 ‹_›]) | (rw [<- (cmp_sign hp0 hp1 ‹_›).2 ‹_›]) | (trace_state; skip)
   refine loop_ok tys_ok (l := [(105, ⟨[], FDigits⟩)]) ⟨fcDigits, trivial⟩ (by kernel_rfl) (X := Nat)
    (fun n => ⟨[(7, vx (.int .i64 ((n : Int) - 1))), (5, .va (.c (.own 6 0))), (6, .va (.c (.own 7 0)))], [(6, .cells [.d (ut (dgt ⟨h0, l0⟩ 0)), .d (ut (dgt ⟨h0, l0⟩ 1)), .d (ut (dgt ⟨h0, l0⟩ 2)), .d (ut (dgt ⟨h0, l0⟩ 3)), .d (ut (dgt ⟨h0, l0⟩ 4)), .d (ut (dgt ⟨h0, l0⟩ 5)), .d (ut (dgt ⟨h0, l0⟩ 6)), .d (ut (dgt ⟨h0, l0⟩ 7))]), (7, .cells [.d (ut (dgt ⟨h1, l1⟩ 0)), .d (ut (dgt ⟨h1, l1⟩ 1)), .d (ut (dgt ⟨h1, l1⟩ 2)), .d (ut (dgt ⟨h1, l1⟩ 3)), .d (ut (dgt ⟨h1, l1⟩ 4)), .d (ut (dgt ⟨h1, l1⟩ 5)), .d (ut (dgt ⟨h1, l1⟩ 6)), .d (ut (dgt ⟨h1, l1⟩ 7))])], 8, 40⟩)
    (fun n => n) (fun n => n <= 8 /\ (n <= 0 -> dgt ⟨h0, l0⟩ 0 = dgt ⟨h1, l1⟩ 0) /\ (n <= 1 -> dgt ⟨h0, l0⟩ 1 = dgt ⟨h1, l1⟩ 1) /\ (n <= 2 -> dgt ⟨h0, l0⟩ 2 = dgt ⟨h1, l1⟩ 2) /\ (n <= 3 -> dgt ⟨h0, l0⟩ 3 = dgt ⟨h1, l1⟩ 3) /\ (n <= 4 -> dgt ⟨h0, l0⟩ 4 = dgt ⟨h1, l1⟩ 4) /\ (n <= 5 -> dgt ⟨h0, l0⟩ 5 = dgt ⟨h1, l1⟩ 5) /\ (n <= 6 -> dgt ⟨h0, l0⟩ 6 = dgt ⟨h1, l1⟩ 6) /\ (n <= 7 -> dgt ⟨h0, l0⟩ 7 = dgt ⟨h1, l1⟩ 7)) [] []
    (fun n _ _ => n - 1) [0, 1, 2, 3, 4, 5, 6, 7] [0, 1, 2, 3, 4, 5, 6, 7] 0 0 8 ?_ ?_ ?_
   . omega
   . repeat' (first | exact trivial | exact rfl | (intro _ _; exact rfl) | refine ⟨?_, ?_⟩)
   . rintro n ⟨k1, k5⟩
     repeat' (first | exact trivial | refine ⟨?_, ?_⟩ | intro _)
     all_goals first | (with_reducible apply qq) | (conv => whnf)
     all_goals first | with_reducible rfl | ((with_reducible show idsOk _ _ = true); rfl) | (exact absurd ‹(65536 : Int) = 0› (by decide)) | omega | (refine congrArg (Value.int IntKind.i64) ?_; rw [cmp_un hp0 hp1 ‹_›]; have a0 := dgt_bound ⟨h0, l0⟩ 0; have a1 := dgt_bound ⟨h0, l0⟩ 1; have a2 := dgt_bound ⟨h0, l0⟩ 2; have a3 := dgt_bound ⟨h0, l0⟩ 3; have a4 := dgt_bound ⟨h0, l0⟩ 4; have a5 := dgt_bound ⟨h0, l0⟩ 5; have a6 := dgt_bound ⟨h0, l0⟩ 6; have a7 := dgt_bound ⟨h0, l0⟩ 7; have b0 := dgt_bound ⟨h1, l1⟩ 0; have b1 := dgt_bound ⟨h1, l1⟩ 1; have b2 := dgt_bound ⟨h1, l1⟩ 2; have b3 := dgt_bound ⟨h1, l1⟩ 3; have b4 := dgt_bound ⟨h1, l1⟩ 4; have b5 := dgt_bound ⟨h1, l1⟩ 5; have b6 := dgt_bound ⟨h1, l1⟩ 6; have b7 := dgt_bound ⟨h1, l1⟩ 7; rcases (show n = 0 \/ n = 1 \/ n = 2 \/ n = 3 \/ n = 4 \/ n = 5 \/ n = 6 \/ n = 7 \/ n = 8 by omega) with rfl | rfl | rfl | rfl | rfl | rfl | rfl | rfl | rfl <;> simp [selI] at * <;> simp only [wCmp, preS, pw8] at * <;> first | omega | (rw [if_pos (by omega)]) | (rw [if_neg (by omega), if_pos (by omega)]) | (rw [if_neg (by omega), if_neg (by omega)])) | (rcases (show n = 0 \/ n = 1 \/ n = 2 \/ n = 3 \/ n = 4 \/ n = 5 \/ n = 6 \/ n = 7 \/ n = 8 by omega) with rfl | rfl | rfl | rfl | rfl | rfl | rfl | rfl | rfl <;> simp [selI, wI] at * <;> omega)
 . cases h
theorem rint_lo {h l : Int} (hp : Wd.ok ⟨h, l⟩) : wCmp (Wd.val ⟨h, l⟩) (Wd.val ⟨(wd (-9223372036854775808)).hi, (wd (-9223372036854775808)).lo⟩) = wCmp (Wd.val ⟨h, l⟩) (-9223372036854775808) := by
 rw [show Wd.val ⟨(wd (-9223372036854775808)).hi, (wd (-9223372036854775808)).lo⟩ = -9223372036854775808 by decide]
theorem rint_hi {h l : Int} (hp : Wd.ok ⟨h, l⟩) : wCmp (Wd.val ⟨h, l⟩) (Wd.val ⟨(wd 9223372036854775807).hi, (wd 9223372036854775807).lo⟩) = wCmp (Wd.val ⟨h, l⟩) 9223372036854775807 := by
 rw [show Wd.val ⟨(wd 9223372036854775807).hi, (wd 9223372036854775807).lo⟩ = 9223372036854775807 by decide]
theorem wCmp_lt {a b : Int} : wCmp a b < 0 ↔ a < b := by unfold wCmp; split <;> first | omega | (split <;> omega)
theorem wCmp_gt {a b : Int} : wCmp a b > 0 ↔ b < a := by unfold wCmp; split <;> first | omega | (split <;> omega)
def FRInt : List Ar -> Option Rs
 | [.agg [.d (.v (.int .i64 h0)), .d (.v (.int .u64 l0))]] => some ⟨(Wd.ok ⟨h0, l0⟩), .tup [.c (.d (it (wIntV (Wd.val (⟨h0, l0⟩ : Wd))))), .c (.d (bo (wIntB (Wd.val (⟨h0, l0⟩ : Wd)))))], []⟩
 | _ => none
theorem fcRInt : FC Tryz.prog 72 FRInt := by
 intro xs pre r us h hp
 unfold FRInt at h
 split at h
 . rename_i h0 l0
   cases h
   have hp0 := hp
   refine fcat tys_ok (l := [(74, ⟨[], FROf⟩), (104, ⟨[], FRCmp⟩)]) ⟨fcROf, fcRCmp, trivial⟩ Tryz.func72 rfl (by kernel_rfl) false ?_
   repeat' (first | exact trivial | refine ⟨?_, ?_⟩ | intro _)
   all_goals first | (with_reducible apply qq) | (conv => whnf)
   all_goals first | (exact (wd_ok _).1.1) | (exact (wd_ok _).1.2) | (exact (wd_ok _).2.1) | (exact (wd_ok _).2.2) | (exact hp0.1.1) | (exact hp0.1.2) | (exact hp0.2.1) | (exact hp0.2.2) | omega | skip
   all_goals (try simp only [decide_eq_true_eq, decide_eq_false_iff_not] at *)
   all_goals (simp only [rint_lo hp0, rint_hi hp0, wCmp_lt, wCmp_gt] at *)
   all_goals (try (refine congrArg Value.bool (Bool.eq_iff_iff.2 ?_)); try simp only [wIntV, wIntB, Bool.not_eq_true', Bool.not_eq_false', Bool.and_eq_true, Bool.or_eq_true, Bool.and_eq_false_imp, Bool.or_eq_false_iff, beq_iff_eq, beq_eq_false_iff_ne, ne_eq, decide_eq_true_eq, decide_eq_false_iff_not, Bool.true_eq_false, Bool.false_eq_true, true_and, and_true, false_and, and_false, imp_false, Value.int.injEq, true_iff, false_iff, iff_true, iff_false, iff_self])
   all_goals (try simp only [wU, wI, shr63, wd, Wd.val, Wd.ok, wIntV, wIntB, Bool.not_eq_true', Bool.not_eq_false', Bool.and_eq_true, Bool.or_eq_true, Bool.and_eq_false_imp, Bool.or_eq_false_iff, beq_iff_eq, beq_eq_false_iff_ne, ne_eq, decide_eq_true_eq, decide_eq_false_iff_not, Bool.true_eq_false, Bool.false_eq_true, true_and, and_true, false_and, and_false, imp_false, Value.int.injEq] at *)
   all_goals first | omega | (split <;> omega) | (split <;> split <;> omega)
 . cases h
structure Ig where
 s : Sp
 c : Cg
abbrev Ig.ar (i : Ig) : Ar := .agg [.d (bo i.s.some), .d (it i.s.lo), .d (it i.s.hi), .d (bo i.c.some), .d (it i.c.m), .d (it i.c.r)]
structure Vl where
 i : Ig
 t : Ns
abbrev Vl.ar (v : Vl) : Ar := .agg [.d (bo v.i.s.some), .d (it v.i.s.lo), .d (it v.i.s.hi), .d (bo v.i.c.some), .d (it v.i.c.m), .d (it v.i.c.r), .d (bo v.t.null), .d (lst v.t.names)]
def Cg.red (c : Cg) : Prop := 0 <= c.m /\ (0 < c.m -> 0 <= c.r /\ c.r < c.m)
theorem Cg.clean_red (c : Cg) : c.clean.red := by
 unfold Cg.clean Cg.of Cg.none Cg.red
 split
 . split
   . have := md_bound c.r 1 (by omega)
     dsimp only; omega
   . refine ⟨by dsimp only; omega, fun h => ?_⟩
     exact md_bound c.r c.m h
 . dsimp only; omega
theorem sub_md (a b m : Int) (h : 0 < m) : md (a - md b m) m = (a - b) % m := by
 unfold md
 rw [if_neg (by omega), if_neg (by omega), Int.sub_emod, Int.emod_emod_of_dvd _ (Int.dvd_refl m), <- Int.sub_emod]
theorem md_sub (a b m : Int) (h : 0 < m) : md (md a m - b) m = (a - b) % m := by
 unfold md
 rw [if_neg (by omega), if_neg (by omega), Int.sub_emod, Int.emod_emod_of_dvd _ (Int.dvd_refl m), <- Int.sub_emod]
def upW (n : Int) (c : Cg) : Int := n + (c.r - n) % c.m
def dnW (n : Int) (c : Cg) : Int := n - (n - c.r) % c.m
def upV (n : Int) (c : Cg) : Int := if c.m = 0 then c.r else wIntV (upW n c)
def upB (n : Int) (c : Cg) : Bool := if c.m = 0 then decide (c.r ≥ n) else wIntB (upW n c)
def dnV (n : Int) (c : Cg) : Int := if c.m = 0 then c.r else wIntV (dnW n c)
def dnB (n : Int) (c : Cg) : Bool := if c.m = 0 then decide (c.r <= n) else wIntB (dnW n c)
namespace Ig
def zero : Ig := ⟨⟨false, 0, 0⟩, ⟨false, 0, 0⟩⟩
def none (i : Ig) : Bool := i.s.none || !i.c.some
def clean (i : Ig) : Ig := if i.none then zero else ⟨i.s.clean, i.c.clean⟩
def leq (i j : Ig) : Bool := i.s.leq j.s && i.c.leq j.c
def red (i : Ig) : Ig := if i.none then zero else if (!upB i.s.lo i.c || !dnB i.s.hi i.c) || decide (upV i.s.lo i.c > dnV i.s.hi i.c) then zero else
 if upV i.s.lo i.c = dnV i.s.hi i.c then ⟨Sp.of (upV i.s.lo i.c) (upV i.s.lo i.c), Cg.of 0 (upV i.s.lo i.c)⟩ else ⟨Sp.of (upV i.s.lo i.c) (dnV i.s.hi i.c), i.c⟩
theorem clean_inR {i : Ig} (h1 : i.s.inR) (h2 : i.c.inR) : i.clean.s.inR /\ i.clean.c.inR := by
 unfold clean
 split
 . unfold zero Sp.inR Cg.inR; decide
 . exact ⟨Sp.clean_inR h1, Cg.clean_inR h2⟩
end Ig
theorem wInt_r (v : Int) : -9223372036854775808 <= wIntV v /\ wIntV v < 9223372036854775808 := by unfold wIntV; split <;> omega
def FVNone : List Ar -> Option Rs
 | [.agg [.d (.v (.bool s0)), .d (.v (.int .i64 l0)), .d (.v (.int .i64 h0)), .d (.v (.bool b0)), .d (.v (.int .i64 m0)), .d (.v (.int .i64 r0))]] => some ⟨(Sp.inR ⟨s0, l0, h0⟩ /\ Cg.inR ⟨b0, m0, r0⟩), .va (.c (.d (bo (Ig.none (⟨⟨s0, l0, h0⟩, ⟨b0, m0, r0⟩⟩ : Ig))))), []⟩
 | _ => none
theorem fcVNone : FC Tryz.prog 133 FVNone := by
 intro xs pre r us h hp
 unfold FVNone at h
 split at h
 . rename_i s0 l0 h0 b0 m0 r0
   cases h
   have hp0 := hp
   refine fcat tys_ok (l := [(34, ⟨[], FSNone⟩), (96, ⟨[], FCNone⟩)]) ⟨fcSNone, fcCNone, trivial⟩ Tryz.func133 rfl (by kernel_rfl) false ?_
   repeat' (first | exact trivial | refine ⟨?_, ?_⟩ | intro _)
   all_goals first | (with_reducible apply qq) | (conv => whnf)
   all_goals first | grind [Ig.none, Sp.inR, Cg.inR]
 . cases h
def FVClean : List Ar -> Option Rs
 | [.agg [.d (.v (.bool s0)), .d (.v (.int .i64 l0)), .d (.v (.int .i64 h0)), .d (.v (.bool b0)), .d (.v (.int .i64 m0)), .d (.v (.int .i64 r0))]] => some ⟨(Sp.inR ⟨s0, l0, h0⟩ /\ Cg.inR ⟨b0, m0, r0⟩), .va (Ig.ar (Ig.clean (⟨⟨s0, l0, h0⟩, ⟨b0, m0, r0⟩⟩ : Ig))), []⟩
 | _ => none
theorem fcVClean : FC Tryz.prog 94 FVClean := by
 intro xs pre r us h hp
 unfold FVClean at h
 split at h
 . rename_i s0 l0 h0 b0 m0 r0
   cases h
   have hp0 := hp
   refine fcat tys_ok (l := [(133, ⟨[], FVNone⟩), (136, ⟨[], FSClean⟩), (85, ⟨[], FCClean⟩)]) ⟨fcVNone, fcSClean, fcCClean, trivial⟩ Tryz.func94 rfl (by kernel_rfl) false ?_
   repeat' (first | exact trivial | refine ⟨?_, ?_⟩ | intro _)
   all_goals first | (with_reducible apply qq) | (conv => whnf)
   all_goals first | grind [Ig.clean, Ig.zero, Sp.inR, Cg.inR]
 . cases h
theorem up_key {n m r : Int} {b : Bool} (hm : ¬ m = 0) (hr : Cg.red ⟨b, m, r⟩) (hi : Cg.inR ⟨b, m, r⟩) : IntKind.wrap .i64 (r - md n m) = r - md n m /\ md (IntKind.wrap .i64 (r - md n m)) m = (r - n) % m /\ 0 <= (r - n) % m /\ (r - n) % m < 9223372036854775808 := by
 unfold Cg.red at hr; unfold Cg.inR at hi
 dsimp only at hr hi
 have h0 : 0 < m := by omega
 have h1 := md_bound n m h0
 have h2 := hr.2 h0
 rw [wI_id _ (by omega) (by omega), sub_md _ _ _ h0]
 have h3 := Int.emod_nonneg (r - n) (show m ≠ 0 by omega)
 have h4 := Int.emod_lt_of_pos (r - n) h0
 omega
theorem dn_key {n m r : Int} {b : Bool} (hm : ¬ m = 0) (hr : Cg.red ⟨b, m, r⟩) (hi : Cg.inR ⟨b, m, r⟩) : IntKind.wrap .i64 (md n m - r) = md n m - r /\ md (IntKind.wrap .i64 (md n m - r)) m = (n - r) % m /\ 0 <= (n - r) % m /\ (n - r) % m < 9223372036854775808 := by
 unfold Cg.red at hr; unfold Cg.inR at hi
 dsimp only at hr hi
 have h0 : 0 < m := by omega
 have h1 := md_bound n m h0
 have h2 := hr.2 h0
 rw [wI_id _ (by omega) (by omega), md_sub _ _ _ h0]
 have h3 := Int.emod_nonneg (n - r) (show m ≠ 0 by omega)
 have h4 := Int.emod_lt_of_pos (n - r) h0
 omega
theorem up_val {n k : Int} (hn : -9223372036854775808 <= n /\ n < 9223372036854775808) (h0 : 0 <= k) (h1 : k < 9223372036854775808) : Wd.val (wd (Wd.val (wd n) + Wd.val (wd k))) = n + k := by
 rw [wd_val (by rw [wd_val (v := n) (by omega) (by omega), wd_val (v := k) (by omega) (by omega)]; omega) (by rw [wd_val (v := n) (by omega) (by omega), wd_val (v := k) (by omega) (by omega)]; omega), wd_val (v := n) (by omega) (by omega), wd_val (v := k) (by omega) (by omega)]
theorem dn_val {n k : Int} (hn : -9223372036854775808 <= n /\ n < 9223372036854775808) (h0 : 0 <= k) (h1 : k < 9223372036854775808) : Wd.val (wd (Wd.val (wd n) - Wd.val (wd k))) = n - k := by
 rw [wd_val (by rw [wd_val (v := n) (by omega) (by omega), wd_val (v := k) (by omega) (by omega)]; omega) (by rw [wd_val (v := n) (by omega) (by omega), wd_val (v := k) (by omega) (by omega)]; omega), wd_val (v := n) (by omega) (by omega), wd_val (v := k) (by omega) (by omega)]
theorem up_V {n m r : Int} {b : Bool} (hm : ¬ m = 0) (hr : Cg.red ⟨b, m, r⟩) (hi : Cg.inR ⟨b, m, r⟩) (hn : -9223372036854775808 <= n /\ n < 9223372036854775808) : Wd.val (wd (Wd.val (wd n) + Wd.val (wd (md (IntKind.wrap .i64 (r - md n m)) m)))) = upW n ⟨b, m, r⟩ := by
 have hk := up_key (n := n) hm hr hi
 rw [hk.2.1, up_val hn hk.2.2.1 hk.2.2.2]; rfl
theorem dn_V {n m r : Int} {b : Bool} (hm : ¬ m = 0) (hr : Cg.red ⟨b, m, r⟩) (hi : Cg.inR ⟨b, m, r⟩) (hn : -9223372036854775808 <= n /\ n < 9223372036854775808) : Wd.val (wd (Wd.val (wd n) - Wd.val (wd (md (IntKind.wrap .i64 (md n m - r)) m)))) = dnW n ⟨b, m, r⟩ := by
 have hk := dn_key (n := n) hm hr hi
 rw [hk.2.1, dn_val hn hk.2.2.1 hk.2.2.2]; rfl
theorem upV_0 {n m r : Int} {b : Bool} (hm : m = 0) : upV n ⟨b, m, r⟩ = r /\ upB n ⟨b, m, r⟩ = decide (r ≥ n) /\ dnV n ⟨b, m, r⟩ = r /\ dnB n ⟨b, m, r⟩ = decide (r <= n) := by unfold upV upB dnV dnB; simp [hm]
theorem upV_1 {n m r : Int} {b : Bool} (hm : ¬ m = 0) : upV n ⟨b, m, r⟩ = wIntV (upW n ⟨b, m, r⟩) /\ upB n ⟨b, m, r⟩ = wIntB (upW n ⟨b, m, r⟩) /\ dnV n ⟨b, m, r⟩ = wIntV (dnW n ⟨b, m, r⟩) /\ dnB n ⟨b, m, r⟩ = wIntB (dnW n ⟨b, m, r⟩) := by unfold upV upB dnV dnB; simp [hm]
def FVUp : List Ar -> Option Rs
 | [.c (.d (.v (.int .i64 i0))), .agg [.d (.v (.bool b1)), .d (.v (.int .i64 m1)), .d (.v (.int .i64 r1))]] => some ⟨(-9223372036854775808 <= i0 /\ i0 < 9223372036854775808) /\ (Cg.inR ⟨b1, m1, r1⟩) /\ (Cg.red (⟨b1, m1, r1⟩ : Cg)), .tup [.c (.d (it (upV i0 (⟨b1, m1, r1⟩ : Cg)))), .c (.d (bo (upB i0 (⟨b1, m1, r1⟩ : Cg))))], []⟩
 | _ => none
theorem fcVUp : FC Tryz.prog 134 FVUp := by
 intro xs pre r us h hp
 unfold FVUp at h
 split at h
 . rename_i i0 b1 m1 r1
   cases h
   obtain ⟨hp0, hp1, hp2⟩ := hp
   refine fcat tys_ok (l := [(86, ⟨[], FCMod⟩), (138, ⟨[], FWOf⟩), (146, ⟨[], FWAdd⟩), (99, ⟨[], FWInt⟩)]) ⟨fcCMod, fcWOf, fcWAdd, fcWInt, trivial⟩ Tryz.func134 rfl (by kernel_rfl) false ?_
   repeat' (first | exact trivial | refine ⟨?_, ?_⟩ | intro _)
   all_goals first | (with_reducible apply qq) | (conv => whnf)
   all_goals (try simp only [beq_iff_eq, beq_eq_false_iff_ne, ne_eq] at *)
   all_goals first | omega | exact (wd_ok _).1.1 | exact (wd_ok _).1.2 | exact (wd_ok _).2.1 | exact (wd_ok _).2.2 | (unfold Cg.inR at hp1; dsimp only at hp1; omega) | skip
   all_goals first | ((with_reducible show Value.int _ _ = Value.int _ _); rw [(upV_0 (by assumption)).1]) | ((with_reducible show Value.bool _ = Value.bool _); rw [(upV_0 (by assumption)).2.1]) | (have hk := up_key (n := i0) ‹¬ m1 = 0› hp2 hp1; have hv := up_V ‹¬ m1 = 0› hp2 hp1 hp0; have hw := upV_1 (n := i0) (r := r1) (b := b1) ‹¬ m1 = 0›; first | (rw [hw.1]; exact congrArg (fun x => Value.int .i64 (wIntV x)) hv) | (rw [hw.2.1]; exact congrArg (fun x => Value.bool (wIntB x)) hv) | (unfold md at *; unfold Cg.inR at hp1; dsimp only at hp1; rw [hk.2.1]; omega) | (rw [hk.2.1]; omega) | (have hb := md_bound i0 m1; unfold Cg.inR Cg.red at *; dsimp only at *; rw [hk.1]; omega))
 . cases h
def FVDown : List Ar -> Option Rs
 | [.c (.d (.v (.int .i64 i0))), .agg [.d (.v (.bool b1)), .d (.v (.int .i64 m1)), .d (.v (.int .i64 r1))]] => some ⟨(-9223372036854775808 <= i0 /\ i0 < 9223372036854775808) /\ (Cg.inR ⟨b1, m1, r1⟩) /\ (Cg.red (⟨b1, m1, r1⟩ : Cg)), .tup [.c (.d (it (dnV i0 (⟨b1, m1, r1⟩ : Cg)))), .c (.d (bo (dnB i0 (⟨b1, m1, r1⟩ : Cg))))], []⟩
 | _ => none
theorem fcVDown : FC Tryz.prog 135 FVDown := by
 intro xs pre r us h hp
 unfold FVDown at h
 split at h
 . rename_i i0 b1 m1 r1
   cases h
   obtain ⟨hp0, hp1, hp2⟩ := hp
   refine fcat tys_ok (l := [(86, ⟨[], FCMod⟩), (138, ⟨[], FWOf⟩), (137, ⟨[], FWSub⟩), (99, ⟨[], FWInt⟩)]) ⟨fcCMod, fcWOf, fcWSub, fcWInt, trivial⟩ Tryz.func135 rfl (by kernel_rfl) false ?_
   repeat' (first | exact trivial | refine ⟨?_, ?_⟩ | intro _)
   all_goals first | (with_reducible apply qq) | (conv => whnf)
   all_goals (try simp only [beq_iff_eq, beq_eq_false_iff_ne, ne_eq] at *)
   all_goals first | omega | exact (wd_ok _).1.1 | exact (wd_ok _).1.2 | exact (wd_ok _).2.1 | exact (wd_ok _).2.2 | (unfold Cg.inR at hp1; dsimp only at hp1; omega) | skip
   all_goals first | ((with_reducible show Value.int _ _ = Value.int _ _); rw [(upV_0 (by assumption)).2.2.1]) | ((with_reducible show Value.bool _ = Value.bool _); rw [(upV_0 (by assumption)).2.2.2]) | (have hk := dn_key (n := i0) ‹¬ m1 = 0› hp2 hp1; have hv := dn_V ‹¬ m1 = 0› hp2 hp1 hp0; have hw := upV_1 (n := i0) (r := r1) (b := b1) ‹¬ m1 = 0›; first | (rw [hw.2.2.1]; exact congrArg (fun x => Value.int .i64 (wIntV x)) hv) | (rw [hw.2.2.2]; exact congrArg (fun x => Value.bool (wIntB x)) hv) | (unfold md at *; unfold Cg.inR at hp1; dsimp only at hp1; rw [hk.2.1]; omega) | (rw [hk.2.1]; omega) | (have hb := md_bound i0 m1; unfold Cg.inR Cg.red at *; dsimp only at *; rw [hk.1]; omega))
 . cases h
theorem upV_r {n : Int} {c : Cg} (h : c.inR) : -9223372036854775808 <= upV n c /\ upV n c < 9223372036854775808 := by
 unfold upV; split
 . exact h.2
 . exact wInt_r _
theorem dnV_r {n : Int} {c : Cg} (h : c.inR) : -9223372036854775808 <= dnV n c /\ dnV n c < 9223372036854775808 := by
 unfold dnV; split
 . exact h.2
 . exact wInt_r _
def FVRed : List Ar -> Option Rs
 | [.agg [.d (.v (.bool s0)), .d (.v (.int .i64 l0)), .d (.v (.int .i64 h0)), .d (.v (.bool b0)), .d (.v (.int .i64 m0)), .d (.v (.int .i64 r0))]] => some ⟨(Sp.inR ⟨s0, l0, h0⟩ /\ Cg.inR ⟨b0, m0, r0⟩) /\ (Cg.red ⟨b0, m0, r0⟩), .va (Ig.ar (Ig.red (⟨⟨s0, l0, h0⟩, ⟨b0, m0, r0⟩⟩ : Ig))), []⟩
 | _ => none
theorem fcVRed : FC Tryz.prog 93 FVRed := by
 intro xs pre r us h hp
 unfold FVRed at h
 split at h
 . rename_i s0 l0 h0 b0 m0 r0
   cases h
   obtain ⟨hp0, hp1⟩ := hp
   refine fcat tys_ok (l := [(133, ⟨[], FVNone⟩), (134, ⟨[], FVUp⟩), (135, ⟨[], FVDown⟩), (45, ⟨[], FSOne⟩), (46, ⟨[], FCOne⟩), (32, ⟨[], FSOf⟩)]) ⟨fcVNone, fcVUp, fcVDown, fcSOne, fcCOne, fcSOf, trivial⟩ Tryz.func93 rfl (by kernel_rfl) false ?_
   repeat' (first | exact trivial | refine ⟨?_, ?_⟩ | intro _)
   all_goals first | (with_reducible apply qq) | (conv => whnf)
   all_goals first | exact hp0.1.1.1 | exact hp0.1.1.2 | exact hp0.1.2.1 | exact hp0.1.2.2 | exact hp0.2.1.1 | exact hp0.2.1.2 | exact hp0.2.2.1 | exact hp0.2.2.2 | exact hp1.1 | exact (hp1.2 (by assumption)).1 | exact (hp1.2 (by assumption)).2 | exact hp1 | exact hp0.2 | exact hp0.1 | exact (upV_r hp0.2).1 | exact (upV_r hp0.2).2 | exact (dnV_r hp0.2).1 | exact (dnV_r hp0.2).2 | grind [Ig.red, Ig.zero]
 . cases h
namespace Vl
def of (v : Vl) : Vl := ⟨v.i.clean, ⟨v.t.null, ofS v.t.names⟩⟩
def reduce (v : Vl) : Vl := ⟨v.of.i.red, v.of.t⟩
def hasInt (v : Vl) (n : Int) : Bool := v.i.s.has n && v.i.c.has n
def leq (a b : Vl) : Bool := a.of.i.leq b.of.i && ((!a.t.null || b.t.null) && subS (ofS a.t.names) (ofS b.t.names))
def rclean (v : Vl) : Vl := ⟨v.i.clean, ⟨v.t.null, cleanS v.t.names⟩⟩
def rreduce (v : Vl) : Vl := ⟨v.rclean.i.red, v.rclean.t⟩
def exact (a b : Vl) : Bool := (Sp.eq a.i.s b.i.s && Cg.eq a.i.c b.i.c) && (a.t.null == b.t.null && decide (a.t.names = b.t.names))
end Vl
theorem atS_gN {n i : Nat} {f : Nat -> List DV} (h : i < n) : atS (gN n f) i = gT (f i) := by
 simp [atS, gN, List.getD_eq_getElem?_getD, h]
theorem ofS_room {n : Nat} {f : Nat -> List DV} (h : n * 16 <= 140737488351232) : (ofS (gN n f)).length * 16 <= 140737488351232 := by
 have := ofS_len (gN n f)
 rw [gN_length] at this
 omega
theorem red_inR {i : Ig} (h1 : i.s.inR) (h2 : i.c.inR) : i.red.s.inR /\ i.red.c.inR := by
 have e1 := upV_r (n := i.s.lo) h2
 have e2 := dnV_r (n := i.s.hi) h2
 unfold Ig.red
 split
 . unfold Ig.zero Sp.inR Cg.inR; decide
 . split
   . unfold Ig.zero Sp.inR Cg.inR; decide
   . split
     . refine ⟨?_, Cg.of_inR _ _ (by omega) (by omega) e1.1 e1.2⟩
       unfold Sp.of Sp.inR; split
       . dsimp only; omega
       . exact ⟨e1, e1⟩
     . refine ⟨?_, h2⟩
       unfold Sp.of Sp.inR; split
       . dsimp only; omega
       . exact ⟨e1, e2⟩
theorem clean_red {i : Ig} : i.clean.c.red := by
 unfold Ig.clean; split
 . unfold Ig.zero Cg.red; decide
 . exact Cg.clean_red _
def FVOf : List Ar -> Option Rs
 | [.agg [.d (.v (.bool s0)), .d (.v (.int .i64 l0)), .d (.v (.int .i64 h0)), .d (.v (.bool b0)), .d (.v (.int .i64 m0)), .d (.v (.int .i64 r0)), .d (.v (.bool z0)), .d (.lst 1 n0 f0)]] => some ⟨((n0 * 16 <= 140737488351232 /\ ∀ i, i < n0 -> f0 i = [st (gT (f0 i))]) /\ Sp.inR ⟨s0, l0, h0⟩ /\ Cg.inR ⟨b0, m0, r0⟩), .va (Vl.ar (Vl.of (⟨⟨⟨s0, l0, h0⟩, ⟨b0, m0, r0⟩⟩, ⟨z0, gN n0 f0⟩⟩ : Vl))), []⟩
 | _ => none
theorem fcVOf : FC Tryz.prog 62 FVOf := by
 intro xs pre r us h hp
 unfold FVOf at h
 split at h
 . rename_i s0 l0 h0 b0 m0 r0 z0 n0 f0
   cases h
   have hp0 := hp
   refine FCat.of_eq (as' := [.agg [.d (.v (.bool s0)), .d (.v (.int .i64 l0)), .d (.v (.int .i64 h0)), .d (.v (.bool b0)), .d (.v (.int .i64 m0)), .d (.v (.int .i64 r0)), .d (.v (.bool z0)), .d (.lst 1 n0 fun i => [st (gT (f0 i))])]]) ?_ rfl rfl ?_
   . repeat' (first | exact trivial | exact rfl | refine ⟨?_, ?_⟩ | fail)
     all_goals first | exact hp0.2 | exact hp1.2 | exact hp2.2 | (intro i hi; exact (hp0.2 i hi).1) | (intro i hi; exact (hp1.2 i hi).1) | (intro i hi; exact (hp2.2 i hi).1) | grind
   refine fcat tys_ok (l := [(94, ⟨[], FVClean⟩), (95, ⟨[], FNClean⟩)]) ⟨fcVClean, fcNClean, trivial⟩ Tryz.func62 rfl (by kernel_rfl) true ?_
   repeat' (first | exact trivial | refine ⟨?_, ?_⟩ | intro _)
   all_goals first | (with_reducible apply qq) | (conv => whnf)
   all_goals first | exact hp0.2 | exact hp0.1.1 | exact (hp0.1.2 _ ‹_›) | exact hp0.2.1 | exact hp0.2.2 | exact hp0.2.1.1.1 | exact hp0.2.1.1.2 | exact hp0.2.1.2.1 | exact hp0.2.1.2.2 | exact hp0.2.2.1.1 | exact hp0.2.2.1.2 | exact hp0.2.2.2.1 | exact hp0.2.2.2.2 | rfl
 . cases h
def FVValue : List Ar -> Option Rs
 | [.agg [.d (.v (.bool s0)), .d (.v (.int .i64 l0)), .d (.v (.int .i64 h0)), .d (.v (.bool b0)), .d (.v (.int .i64 m0)), .d (.v (.int .i64 r0)), .d (.v (.bool z0)), .d (.lst 1 n0 f0)]] => some ⟨((n0 * 16 <= 140737488351232 /\ ∀ i, i < n0 -> f0 i = [st (gT (f0 i))]) /\ Sp.inR ⟨s0, l0, h0⟩ /\ Cg.inR ⟨b0, m0, r0⟩), .va (.agg [.d (.v (.bool s0)), .d (.v (.int .i64 l0)), .d (.v (.int .i64 h0)), .d (.v (.bool b0)), .d (.v (.int .i64 m0)), .d (.v (.int .i64 r0)), .d (.v (.bool z0)), .d (.lst 1 n0 fun i => [st (gT (f0 i))])]), []⟩
 | _ => none
theorem fcVValue : FC Tryz.prog 66 FVValue := by
 intro xs pre r us h hp
 unfold FVValue at h
 split at h
 . rename_i s0 l0 h0 b0 m0 r0 z0 n0 f0
   cases h
   have hp0 := hp
   refine FCat.of_eq (as' := [.agg [.d (.v (.bool s0)), .d (.v (.int .i64 l0)), .d (.v (.int .i64 h0)), .d (.v (.bool b0)), .d (.v (.int .i64 m0)), .d (.v (.int .i64 r0)), .d (.v (.bool z0)), .d (.lst 1 n0 fun i => [st (gT (f0 i))])]]) ?_ rfl rfl ?_
   . repeat' (first | exact trivial | exact rfl | refine ⟨?_, ?_⟩ | fail)
     all_goals first | exact hp0.2 | exact hp1.2 | exact hp2.2 | (intro i hi; exact (hp0.2 i hi).1) | (intro i hi; exact (hp1.2 i hi).1) | (intro i hi; exact (hp2.2 i hi).1) | grind
   refine fcat tys_ok (l := []) trivial Tryz.func66 rfl (by kernel_rfl) false ?_
   repeat' (first | exact trivial | refine ⟨?_, ?_⟩ | intro _)
   all_goals first | (with_reducible apply qq) | (conv => whnf)
   all_goals first | exact hp0.2 | exact hp0.1.1 | exact (hp0.1.2 _ ‹_›) | exact hp0.2.1 | exact hp0.2.2 | exact hp0.2.1.1.1 | exact hp0.2.1.1.2 | exact hp0.2.1.2.1 | exact hp0.2.1.2.2 | exact hp0.2.2.1.1 | exact hp0.2.2.1.2 | exact hp0.2.2.2.1 | exact hp0.2.2.2.2 | rfl
 . cases h
def FVReduce : List Ar -> Option Rs
 | [.agg [.d (.v (.bool s0)), .d (.v (.int .i64 l0)), .d (.v (.int .i64 h0)), .d (.v (.bool b0)), .d (.v (.int .i64 m0)), .d (.v (.int .i64 r0)), .d (.v (.bool z0)), .d (.lst 1 n0 f0)]] => some ⟨((n0 * 16 <= 140737488351232 /\ ∀ i, i < n0 -> f0 i = [st (gT (f0 i))]) /\ Sp.inR ⟨s0, l0, h0⟩ /\ Cg.inR ⟨b0, m0, r0⟩), .va (Vl.ar (Vl.reduce (⟨⟨⟨s0, l0, h0⟩, ⟨b0, m0, r0⟩⟩, ⟨z0, gN n0 f0⟩⟩ : Vl))), []⟩
 | _ => none
theorem fcVReduce : FC Tryz.prog 60 FVReduce := by
 intro xs pre r us h hp
 unfold FVReduce at h
 split at h
 . rename_i s0 l0 h0 b0 m0 r0 z0 n0 f0
   cases h
   have hp0 := hp
   refine FCat.of_eq (as' := [.agg [.d (.v (.bool s0)), .d (.v (.int .i64 l0)), .d (.v (.int .i64 h0)), .d (.v (.bool b0)), .d (.v (.int .i64 m0)), .d (.v (.int .i64 r0)), .d (.v (.bool z0)), .d (.lst 1 n0 fun i => [st (gT (f0 i))])]]) ?_ rfl rfl ?_
   . repeat' (first | exact trivial | exact rfl | refine ⟨?_, ?_⟩ | fail)
     all_goals first | exact hp0.2 | exact hp1.2 | exact hp2.2 | (intro i hi; exact (hp0.2 i hi).1) | (intro i hi; exact (hp1.2 i hi).1) | (intro i hi; exact (hp2.2 i hi).1) | grind
   refine fcat tys_ok (l := [(62, ⟨[], FVOf⟩), (93, ⟨[], FVRed⟩), (66, ⟨[], FVValue⟩)]) ⟨fcVOf, fcVRed, fcVValue, trivial⟩ Tryz.func60 rfl (by kernel_rfl) true ?_
   have hc := Ig.clean_inR (i := ⟨⟨s0, l0, h0⟩, ⟨b0, m0, r0⟩⟩) hp0.2.1 hp0.2.2
   have hr := red_inR hc.1 hc.2
   have hd := clean_red (i := ⟨⟨s0, l0, h0⟩, ⟨b0, m0, r0⟩⟩)
   have hm := ofS_room (f := f0) hp0.1.1
   repeat' (first | exact trivial | refine ⟨?_, ?_⟩ | intro _)
   all_goals first | (with_reducible apply qq) | (conv => whnf)
   all_goals first | exact hp0.2 | exact hp0.1.1 | exact (hp0.1.2 _ ‹_›) | exact hp0.2.1 | exact hp0.2.2 | exact hp0.2.1.1.1 | exact hp0.2.1.1.2 | exact hp0.2.1.2.1 | exact hp0.2.1.2.2 | exact hp0.2.2.1.1 | exact hp0.2.2.1.2 | exact hp0.2.2.2.1 | exact hp0.2.2.2.2 | rfl | exact hc.1.1.1 | exact hc.1.1.2 | exact hc.1.2.1 | exact hc.1.2.2 | exact hc.2.1.1 | exact hc.2.1.2 | exact hc.2.2.1 | exact hc.2.2.2 | exact hc.1 | exact hc.2 | exact hr.1.1.1 | exact hr.1.1.2 | exact hr.1.2.1 | exact hr.1.2.2 | exact hr.2.1.1 | exact hr.2.1.2 | exact hr.2.2.1 | exact hr.2.2.2 | exact hr.1 | exact hr.2 | exact hd.1 | exact (hd.2 (by assumption)).1 | exact (hd.2 (by assumption)).2 | exact hd | exact hm | rfl
 . cases h
def FVNum : List Ar -> Option Rs
 | [.c (.d (.v (.int .i64 i0)))] => some ⟨(-9223372036854775808 <= i0 /\ i0 < 9223372036854775808), .va (Vl.ar (⟨⟨Sp.of i0 i0, Cg.of 0 i0⟩, ⟨false, []⟩⟩)), []⟩
 | _ => none
theorem fcVNum : FC Tryz.prog 22 FVNum := by
 intro xs pre r us h hp
 unfold FVNum at h
 split at h
 . rename_i i0
   cases h
   have hp0 := hp
   refine fcat tys_ok (l := [(45, ⟨[], FSOne⟩), (46, ⟨[], FCOne⟩)]) ⟨fcSOne, fcCOne, trivial⟩ Tryz.func22 rfl (by kernel_rfl) false ?_
   repeat' (first | exact trivial | refine ⟨?_, ?_⟩ | intro _)
   all_goals first | (with_reducible apply qq) | (conv => whnf)
   all_goals first | omega | rfl
 . cases h
def FVHasInt : List Ar -> Option Rs
 | [.agg [.d (.v (.bool s0)), .d (.v (.int .i64 l0)), .d (.v (.int .i64 h0)), .d (.v (.bool b0)), .d (.v (.int .i64 m0)), .d (.v (.int .i64 r0)), .d (.v (.bool z0)), .d (.lst 1 n0 f0)], .c (.d (.v (.int .i64 i1)))] => some ⟨((n0 * 16 <= 140737488351232 /\ ∀ i, i < n0 -> f0 i = [st (gT (f0 i))]) /\ Sp.inR ⟨s0, l0, h0⟩ /\ Cg.inR ⟨b0, m0, r0⟩) /\ (-9223372036854775808 <= i1 /\ i1 < 9223372036854775808), .va (.c (.d (bo (Vl.hasInt (⟨⟨⟨s0, l0, h0⟩, ⟨b0, m0, r0⟩⟩, ⟨z0, gN n0 f0⟩⟩ : Vl) i1)))), []⟩
 | _ => none
theorem fcVHasInt : FC Tryz.prog 23 FVHasInt := by
 intro xs pre r us h hp
 unfold FVHasInt at h
 split at h
 . rename_i s0 l0 h0 b0 m0 r0 z0 n0 f0 i1
   cases h
   obtain ⟨hp0, hp1⟩ := hp
   refine FCat.of_eq (as' := [.agg [.d (.v (.bool s0)), .d (.v (.int .i64 l0)), .d (.v (.int .i64 h0)), .d (.v (.bool b0)), .d (.v (.int .i64 m0)), .d (.v (.int .i64 r0)), .d (.v (.bool z0)), .d (.lst 1 n0 fun i => [st (gT (f0 i))])], .c (.d (.v (.int .i64 i1)))]) ?_ rfl rfl ?_
   . repeat' (first | exact trivial | exact rfl | refine ⟨?_, ?_⟩ | fail)
     all_goals first | exact hp0.2 | exact hp1.2 | exact hp2.2 | (intro i hi; exact (hp0.2 i hi).1) | (intro i hi; exact (hp1.2 i hi).1) | (intro i hi; exact (hp2.2 i hi).1) | grind
   refine fcat tys_ok (l := [(47, ⟨[], FSHas⟩), (48, ⟨[], FCHas⟩)]) ⟨fcSHas, fcCHas, trivial⟩ Tryz.func23 rfl (by kernel_rfl) false ?_
   repeat' (first | exact trivial | refine ⟨?_, ?_⟩ | intro _)
   all_goals first | (with_reducible apply qq) | (conv => whnf)
   all_goals first | exact hp0.2 | exact hp0.1.1 | exact (hp0.1.2 _ ‹_›) | exact hp0.2.1 | exact hp0.2.2 | exact hp0.2.1.1.1 | exact hp0.2.1.1.2 | exact hp0.2.1.2.1 | exact hp0.2.1.2.2 | exact hp0.2.2.1.1 | exact hp0.2.2.1.2 | exact hp0.2.2.2.1 | exact hp0.2.2.2.2 | rfl | exact hp1 | exact hp1.1 | exact hp1.2 | (unfold Vl.hasInt; simp_all; done)
 . cases h
theorem rc_join {s : Sp} : s.join ⟨false, 0, 0⟩ = s.clean := by
 unfold Sp.join Sp.clean Sp.none
 cases s.some <;> by_cases h : s.lo > s.hi <;> simp [h]
theorem sp_clean_some {s : Sp} : s.clean.some = !s.none := by
 unfold Sp.clean Sp.none
 cases h1 : s.some <;> by_cases h : s.lo > s.hi <;> simp [h, h1]
theorem cg_clean_some {c : Cg} : c.clean.some = c.some := by
 unfold Cg.clean Cg.of Cg.none
 cases h : c.some <;> simp
 split <;> rfl
theorem rc_no1 {s : Sp} {c : Cg} (h : (!(s.join ⟨false, 0, 0⟩).some) = true) : Ig.clean ⟨s, c⟩ = Ig.zero := by
 rw [rc_join, sp_clean_some] at h
 unfold Ig.clean Ig.none; simp_all
theorem rc_no2 {s : Sp} {c : Cg} (h : (!c.clean.some) = true) : Ig.clean ⟨s, c⟩ = Ig.zero := by
 rw [cg_clean_some] at h
 unfold Ig.clean Ig.none; simp_all
theorem rc_yes {s : Sp} {c : Cg} (h : (!(s.join ⟨false, 0, 0⟩).some) = false) (h2 : (!c.clean.some) = false) : Ig.clean ⟨s, c⟩ = ⟨s.join ⟨false, 0, 0⟩, c.clean⟩ := by
 rw [rc_join] at h ⊢
 rw [cg_clean_some] at h2
 rw [sp_clean_some] at h
 unfold Ig.clean Ig.none; simp_all
def FRVClean : List Ar -> Option Rs
 | [.agg [.d (.v (.bool s0)), .d (.v (.int .i64 l0)), .d (.v (.int .i64 h0)), .d (.v (.bool b0)), .d (.v (.int .i64 m0)), .d (.v (.int .i64 r0)), .d (.v (.bool z0)), .d (.lst 1 n0 f0)]] => some ⟨((n0 * 16 <= 140737488351232 /\ ∀ i, i < n0 -> f0 i = [st (gT (f0 i))]) /\ Sp.inR ⟨s0, l0, h0⟩ /\ Cg.inR ⟨b0, m0, r0⟩), .va (Vl.ar (⟨Ig.clean ⟨⟨s0, l0, h0⟩, ⟨b0, m0, r0⟩⟩, ⟨z0, cleanS (gN n0 f0)⟩⟩)), []⟩
 | _ => none
theorem fcRVClean : FC Tryz.prog 36 FRVClean := by
 intro xs pre r us h hp
 unfold FRVClean at h
 split at h
 . rename_i s0 l0 h0 b0 m0 r0 z0 n0 f0
   cases h
   have hp0 := hp
   refine FCat.of_eq (as' := [.agg [.d (.v (.bool s0)), .d (.v (.int .i64 l0)), .d (.v (.int .i64 h0)), .d (.v (.bool b0)), .d (.v (.int .i64 m0)), .d (.v (.int .i64 r0)), .d (.v (.bool z0)), .d (.lst 1 n0 fun i => [st (gT (f0 i))])]]) ?_ rfl rfl ?_
   . repeat' (first | exact trivial | exact rfl | refine ⟨?_, ?_⟩ | fail)
     all_goals first | exact hp0.2 | exact hp1.2 | exact hp2.2 | (intro i hi; exact (hp0.2 i hi).1) | (intro i hi; exact (hp1.2 i hi).1) | (intro i hi; exact (hp2.2 i hi).1) | grind
   refine fcat tys_ok (l := [(67, ⟨[], FRSJoin⟩), (68, ⟨[], FRCClean⟩), (69, ⟨[], FRClean⟩)]) ⟨fcRSJoin, fcRCClean, fcRClean, trivial⟩ Tryz.func36 rfl (by kernel_rfl) true ?_
   repeat' (first | exact trivial | refine ⟨?_, ?_⟩ | intro _)
   all_goals first | (with_reducible apply qq) | (conv => whnf)
   all_goals first | (show (_ : Int) <= _; decide) | (show (_ : Int) < _; decide) | first | exact hp0.2 | exact hp0.1.1 | exact (hp0.1.2 _ ‹_›) | exact hp0.2.1 | exact hp0.2.2 | exact hp0.2.1.1.1 | exact hp0.2.1.1.2 | exact hp0.2.1.2.1 | exact hp0.2.1.2.2 | exact hp0.2.2.1.1 | exact hp0.2.2.1.2 | exact hp0.2.2.2.1 | exact hp0.2.2.2.2 | rfl | (have e := rc_yes (s := ⟨s0, l0, h0⟩) (c := ⟨b0, m0, r0⟩) ‹_› ‹_›; first | exact congrArg (fun i : Ig => Value.bool i.s.some) e.symm | exact congrArg (fun i : Ig => Value.int .i64 i.s.lo) e.symm | exact congrArg (fun i : Ig => Value.int .i64 i.s.hi) e.symm | exact congrArg (fun i : Ig => Value.bool i.c.some) e.symm | exact congrArg (fun i : Ig => Value.int .i64 i.c.m) e.symm | exact congrArg (fun i : Ig => Value.int .i64 i.c.r) e.symm | fail) | (have e := rc_no1 (s := ⟨s0, l0, h0⟩) (c := ⟨b0, m0, r0⟩) ‹_›; first | exact congrArg (fun i : Ig => Value.bool i.s.some) e.symm | exact congrArg (fun i : Ig => Value.int .i64 i.s.lo) e.symm | exact congrArg (fun i : Ig => Value.int .i64 i.s.hi) e.symm | exact congrArg (fun i : Ig => Value.bool i.c.some) e.symm | exact congrArg (fun i : Ig => Value.int .i64 i.c.m) e.symm | exact congrArg (fun i : Ig => Value.int .i64 i.c.r) e.symm | fail) | (have e := rc_no2 (s := ⟨s0, l0, h0⟩) (c := ⟨b0, m0, r0⟩) ‹_›; first | exact congrArg (fun i : Ig => Value.bool i.s.some) e.symm | exact congrArg (fun i : Ig => Value.int .i64 i.s.lo) e.symm | exact congrArg (fun i : Ig => Value.int .i64 i.s.hi) e.symm | exact congrArg (fun i : Ig => Value.bool i.c.some) e.symm | exact congrArg (fun i : Ig => Value.int .i64 i.c.m) e.symm | exact congrArg (fun i : Ig => Value.int .i64 i.c.r) e.symm | fail)
 . cases h
theorem sp_eq4 {s0 s1 : Bool} {l0 l1 h0 h1 : Int} : (s0 == s1 && (l0 == l1 && (h0 == h1 && true))) = Sp.eq ⟨s0, l0, h0⟩ ⟨s1, l1, h1⟩ := by simp [Sp.eq]
theorem cg_eq4 {s0 s1 : Bool} {l0 l1 h0 h1 : Int} : (s0 == s1 && (l0 == l1 && (h0 == h1 && true))) = Cg.eq ⟨s0, l0, h0⟩ ⟨s1, l1, h1⟩ := by simp [Cg.eq]
def FRVExact : List Ar -> Option Rs
 | [.agg [.d (.v (.bool s0)), .d (.v (.int .i64 l0)), .d (.v (.int .i64 h0)), .d (.v (.bool b0)), .d (.v (.int .i64 m0)), .d (.v (.int .i64 r0)), .d (.v (.bool z0)), .d (.lst 1 n0 f0)], .agg [.d (.v (.bool s1)), .d (.v (.int .i64 l1)), .d (.v (.int .i64 h1)), .d (.v (.bool b1)), .d (.v (.int .i64 m1)), .d (.v (.int .i64 r1)), .d (.v (.bool z1)), .d (.lst 1 n1 f1)]] => some ⟨((n0 * 16 <= 140737488351232 /\ ∀ i, i < n0 -> f0 i = [st (gT (f0 i))]) /\ Sp.inR ⟨s0, l0, h0⟩ /\ Cg.inR ⟨b0, m0, r0⟩) /\ ((n1 * 16 <= 140737488351232 /\ ∀ i, i < n1 -> f1 i = [st (gT (f1 i))]) /\ Sp.inR ⟨s1, l1, h1⟩ /\ Cg.inR ⟨b1, m1, r1⟩), .va (.c (.d (bo (Vl.exact (⟨⟨⟨s0, l0, h0⟩, ⟨b0, m0, r0⟩⟩, ⟨z0, gN n0 f0⟩⟩ : Vl) (⟨⟨⟨s1, l1, h1⟩, ⟨b1, m1, r1⟩⟩, ⟨z1, gN n1 f1⟩⟩ : Vl))))), []⟩
 | _ => none
theorem fcRVExact : FC Tryz.prog 11 FRVExact := by
 intro xs pre r us h hp
 unfold FRVExact at h
 split at h
 . rename_i s0 l0 h0 b0 m0 r0 z0 n0 f0 s1 l1 h1 b1 m1 r1 z1 n1 f1
   cases h
   obtain ⟨hp0, hp1⟩ := hp
   refine FCat.of_eq (as' := [.agg [.d (.v (.bool s0)), .d (.v (.int .i64 l0)), .d (.v (.int .i64 h0)), .d (.v (.bool b0)), .d (.v (.int .i64 m0)), .d (.v (.int .i64 r0)), .d (.v (.bool z0)), .d (.lst 1 n0 fun i => [st (gT (f0 i))])], .agg [.d (.v (.bool s1)), .d (.v (.int .i64 l1)), .d (.v (.int .i64 h1)), .d (.v (.bool b1)), .d (.v (.int .i64 m1)), .d (.v (.int .i64 r1)), .d (.v (.bool z1)), .d (.lst 1 n1 fun i => [st (gT (f1 i))])]]) ?_ rfl rfl ?_
   . repeat' (first | exact trivial | exact rfl | refine ⟨?_, ?_⟩ | fail)
     all_goals first | exact hp0.2 | exact hp1.2 | exact hp2.2 | (intro i hi; exact (hp0.2 i hi).1) | (intro i hi; exact (hp1.2 i hi).1) | (intro i hi; exact (hp2.2 i hi).1) | grind
   refine fcat tys_ok (l := [(24, ⟨[], FRExact⟩)]) ⟨fcRExact, trivial⟩ Tryz.func11 rfl (by kernel_rfl) false ?_
   repeat' (first | exact trivial | refine ⟨?_, ?_⟩ | intro _)
   all_goals first | (with_reducible apply qq) | (conv => whnf)
   all_goals first | exact hp0.1.1 | exact hp1.1.1 | rfl | skip
   all_goals (simp only [sp_eq4 (s0 := s0)] at *; try simp only [cg_eq4 (s0 := b0)] at *)
   all_goals (unfold Vl.exact; dsimp only)
   all_goals first | (simp only [*, gN_canon, Bool.true_and, Bool.false_and, Bool.and_false]; done) | (rw [‹Sp.eq _ _ = true›, ‹Cg.eq _ _ = true›, Bool.true_and, Bool.true_and]; rfl)
 . cases h
end Go.Proofs.YtokjghkehojenaaGreat
