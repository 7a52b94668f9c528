/- The laws of commands. No condition. -/
import Derived.Test.YtakcacejpbiogaaDoorOrd8
namespace Go.Proofs.YtakcacejpbiogaaDoor
set_option linter.all false
open Go.Sx

open Go.RowKit Go.Lib Go.Sort
def lvC : Cm := ⟨4, ⟨#[102]⟩, 3, ⟨#[120]⟩, 0, ⟨#[]⟩⟩
theorem lv_read : readC ⟨#[118, 97, 108, 117, 101, 32, 102, 46, 51, 32, 120]⟩ = (lvC, 0) := by kernel_rfl
theorem lv_text : textC lvC = ⟨#[118, 97, 108, 117, 101, 32, 102, 46, 51, 32, 120]⟩ := by kernel_rfl
def cmEq (a b : Cm) : Bool := (a.kind == b.kind && (a.fn.toList == b.fn.toList && (a.node == b.node && (a.name.toList == b.name.toList && (a.n == b.n && (a.text.toList == b.text.toList && true))))))
theorem cmEq_self (a : Cm) : cmEq a a = true := by simp [cmEq]
/-! the eight commands about a node -/
def cmds (nm v : ByteArray) (n : Int) : List Cm := [{ ck 4 with fn := nm, node := n, name := v }, { ck 4 with fn := nm, node := n }, { ck 5 with fn := nm, node := n }, { ck 6 with fn := nm, node := n }, { ck 7 with fn := nm, node := n, name := v }, { ck 8 with name := v }, { ck 3 with name := v }, { ck 9 with n := n }]
def atC (l : List Cm) (i : Nat) : Cm := l.getD i (ck 0)
theorem cmds_fwd {nm v : ByteArray} {n : Int} (hn : nameB nm = true) (hv : nameB v = true) (h0 : 0 ≤ n) (hr : rI n) (i : Nat) (hi : i < 8) : readC (textC (atC (cmds nm v n) i)) = (atC (cmds nm v n) i, 0) := by
  have : i = 0 ∨ i = 1 ∨ i = 2 ∨ i = 3 ∨ i = 4 ∨ i = 5 ∨ i = 6 ∨ i = 7 := by omega
  rcases this with rfl | rfl | rfl | rfl | rfl | rfl | rfl | rfl
  · exact fwd_two (.inl rfl) hn hv h0 hr
  · exact fwd_node (.inl rfl) hn h0 hr
  · exact fwd_node (.inr (.inl rfl)) hn h0 hr
  · exact fwd_node (.inr (.inr rfl)) hn h0 hr
  · exact fwd_two (.inr rfl) hn hv h0 hr
  · exact fwd_name (.inr rfl) hv
  · exact fwd_name (.inl rfl) hv
  · exact fwd_num h0 hr
theorem name_sz {s : ByteArray} (h : nameB s = true) : s.size ≤ 20 := by
  unfold nameB at h
  simp only [Bool.and_eq_true, decide_eq_true_eq] at h
  exact h.1.1
theorem cmds_ok {nm v : ByteArray} {n : Int} (hn : nm.size ≤ 20) (hv : v.size ≤ 20) (hr : rI n) (i : Nat) (hi : i < 8) : SzC 20 (atC (cmds nm v n) i) := by
  have hk : ∀ k : Int, -9 ≤ k → k ≤ 9 → rI k := fun k a b => by unfold rI; omega
  have h0 : rI (0 : Int) := hk 0 (by decide) (by decide)
  have : i = 0 ∨ i = 1 ∨ i = 2 ∨ i = 3 ∨ i = 4 ∨ i = 5 ∨ i = 6 ∨ i = 7 := by omega
  rcases this with rfl | rfl | rfl | rfl | rfl | rfl | rfl | rfl
  · exact ⟨⟨hk 4 (by decide) (by decide), hr, h0⟩, hn, hv, Nat.zero_le _⟩
  · exact ⟨⟨hk 4 (by decide) (by decide), hr, h0⟩, hn, Nat.zero_le _, Nat.zero_le _⟩
  · exact ⟨⟨hk 5 (by decide) (by decide), hr, h0⟩, hn, Nat.zero_le _, Nat.zero_le _⟩
  · exact ⟨⟨hk 6 (by decide) (by decide), hr, h0⟩, hn, Nat.zero_le _, Nat.zero_le _⟩
  · exact ⟨⟨hk 7 (by decide) (by decide), hr, h0⟩, hn, hv, Nat.zero_le _⟩
  · exact ⟨⟨hk 8 (by decide) (by decide), h0, h0⟩, Nat.zero_le _, hv, Nat.zero_le _⟩
  · exact ⟨⟨hk 3 (by decide) (by decide), h0, h0⟩, Nat.zero_le _, hv, Nat.zero_le _⟩
  · exact ⟨⟨hk 9 (by decide) (by decide), h0, hr⟩, Nat.zero_le _, Nat.zero_le _, Nat.zero_le _⟩
theorem wordW_sz (k : Int) : (wordW k).size ≤ 6 := by
  unfold wordW
  repeat' split
  all_goals decide
theorem textC_sz {c : Cm} {n : Nat} (h : SzC n c) : (textC c).size ≤ 2 * n + 40 := by
  have h1 := wordW_sz c.kind
  have h2 := itoa_sz h.ok.2.2
  have h3 := text_sz (k := ⟨c.fn, c.node⟩) h.ok.2.1
  have h4 := h.fn
  have h5 := h.name
  have h6 := h.text
  dsimp only at h3
  have hb : blS.size = 1 := rfl
  unfold textC
  repeat' split
  all_goals first | (simp only [ByteArray.size_append, hb]; omega) | (exact Nat.zero_le _)

theorem lv_b : bytesOf 11 (fun i => Sx.rowAt 1 [DV.v (.int .u8 118), DV.v (.int .u8 97), DV.v (.int .u8 108), DV.v (.int .u8 117), DV.v (.int .u8 101), DV.v (.int .u8 32), DV.v (.int .u8 102), DV.v (.int .u8 46), DV.v (.int .u8 51), DV.v (.int .u8 32), DV.v (.int .u8 120)] (0 + i)) = ⟨#[118, 97, 108, 117, 101, 32, 102, 46, 51, 32, 120]⟩ := by kernel_rfl
theorem lv_1 : ((readC (bytesOf 11 (fun i => Sx.rowAt 1 [DV.v (.int .u8 118), DV.v (.int .u8 97), DV.v (.int .u8 108), DV.v (.int .u8 117), DV.v (.int .u8 101), DV.v (.int .u8 32), DV.v (.int .u8 102), DV.v (.int .u8 46), DV.v (.int .u8 51), DV.v (.int .u8 32), DV.v (.int .u8 120)] (0 + i)))).2 == 0) = true := by rw [lv_b, lv_read]; rfl
theorem lv_2 : ((readC (bytesOf 11 (fun i => Sx.rowAt 1 [DV.v (.int .u8 118), DV.v (.int .u8 97), DV.v (.int .u8 108), DV.v (.int .u8 117), DV.v (.int .u8 101), DV.v (.int .u8 32), DV.v (.int .u8 102), DV.v (.int .u8 46), DV.v (.int .u8 51), DV.v (.int .u8 32), DV.v (.int .u8 120)] (0 + i)))).1.kind == 4 && ((readC (bytesOf 11 (fun i => Sx.rowAt 1 [DV.v (.int .u8 118), DV.v (.int .u8 97), DV.v (.int .u8 108), DV.v (.int .u8 117), DV.v (.int .u8 101), DV.v (.int .u8 32), DV.v (.int .u8 102), DV.v (.int .u8 46), DV.v (.int .u8 51), DV.v (.int .u8 32), DV.v (.int .u8 120)] (0 + i)))).1.fn.toList == (⟨#[102]⟩ : ByteArray).toList && ((readC (bytesOf 11 (fun i => Sx.rowAt 1 [DV.v (.int .u8 118), DV.v (.int .u8 97), DV.v (.int .u8 108), DV.v (.int .u8 117), DV.v (.int .u8 101), DV.v (.int .u8 32), DV.v (.int .u8 102), DV.v (.int .u8 46), DV.v (.int .u8 51), DV.v (.int .u8 32), DV.v (.int .u8 120)] (0 + i)))).1.node == 3 && ((readC (bytesOf 11 (fun i => Sx.rowAt 1 [DV.v (.int .u8 118), DV.v (.int .u8 97), DV.v (.int .u8 108), DV.v (.int .u8 117), DV.v (.int .u8 101), DV.v (.int .u8 32), DV.v (.int .u8 102), DV.v (.int .u8 46), DV.v (.int .u8 51), DV.v (.int .u8 32), DV.v (.int .u8 120)] (0 + i)))).1.name.toList == (⟨#[120]⟩ : ByteArray).toList && ((readC (bytesOf 11 (fun i => Sx.rowAt 1 [DV.v (.int .u8 118), DV.v (.int .u8 97), DV.v (.int .u8 108), DV.v (.int .u8 117), DV.v (.int .u8 101), DV.v (.int .u8 32), DV.v (.int .u8 102), DV.v (.int .u8 46), DV.v (.int .u8 51), DV.v (.int .u8 32), DV.v (.int .u8 120)] (0 + i)))).1.n == 0 && ((readC (bytesOf 11 (fun i => Sx.rowAt 1 [DV.v (.int .u8 118), DV.v (.int .u8 97), DV.v (.int .u8 108), DV.v (.int .u8 117), DV.v (.int .u8 101), DV.v (.int .u8 32), DV.v (.int .u8 102), DV.v (.int .u8 46), DV.v (.int .u8 51), DV.v (.int .u8 32), DV.v (.int .u8 120)] (0 + i)))).1.text.toList == (⟨#[]⟩ : ByteArray).toList && true)))))) = true := by rw [lv_b, lv_read]; kernel_rfl
theorem lv_3 : ((textC ⟨(readC (bytesOf 11 (fun i => Sx.rowAt 1 [DV.v (.int .u8 118), DV.v (.int .u8 97), DV.v (.int .u8 108), DV.v (.int .u8 117), DV.v (.int .u8 101), DV.v (.int .u8 32), DV.v (.int .u8 102), DV.v (.int .u8 46), DV.v (.int .u8 51), DV.v (.int .u8 32), DV.v (.int .u8 120)] (0 + i)))).1.kind, (readC (bytesOf 11 (fun i => Sx.rowAt 1 [DV.v (.int .u8 118), DV.v (.int .u8 97), DV.v (.int .u8 108), DV.v (.int .u8 117), DV.v (.int .u8 101), DV.v (.int .u8 32), DV.v (.int .u8 102), DV.v (.int .u8 46), DV.v (.int .u8 51), DV.v (.int .u8 32), DV.v (.int .u8 120)] (0 + i)))).1.fn, (readC (bytesOf 11 (fun i => Sx.rowAt 1 [DV.v (.int .u8 118), DV.v (.int .u8 97), DV.v (.int .u8 108), DV.v (.int .u8 117), DV.v (.int .u8 101), DV.v (.int .u8 32), DV.v (.int .u8 102), DV.v (.int .u8 46), DV.v (.int .u8 51), DV.v (.int .u8 32), DV.v (.int .u8 120)] (0 + i)))).1.node, (readC (bytesOf 11 (fun i => Sx.rowAt 1 [DV.v (.int .u8 118), DV.v (.int .u8 97), DV.v (.int .u8 108), DV.v (.int .u8 117), DV.v (.int .u8 101), DV.v (.int .u8 32), DV.v (.int .u8 102), DV.v (.int .u8 46), DV.v (.int .u8 51), DV.v (.int .u8 32), DV.v (.int .u8 120)] (0 + i)))).1.name, (readC (bytesOf 11 (fun i => Sx.rowAt 1 [DV.v (.int .u8 118), DV.v (.int .u8 97), DV.v (.int .u8 108), DV.v (.int .u8 117), DV.v (.int .u8 101), DV.v (.int .u8 32), DV.v (.int .u8 102), DV.v (.int .u8 46), DV.v (.int .u8 51), DV.v (.int .u8 32), DV.v (.int .u8 120)] (0 + i)))).1.n, (readC (bytesOf 11 (fun i => Sx.rowAt 1 [DV.v (.int .u8 118), DV.v (.int .u8 97), DV.v (.int .u8 108), DV.v (.int .u8 117), DV.v (.int .u8 101), DV.v (.int .u8 32), DV.v (.int .u8 102), DV.v (.int .u8 46), DV.v (.int .u8 51), DV.v (.int .u8 32), DV.v (.int .u8 120)] (0 + i)))).1.text⟩).toList == (⟨#[118, 97, 108, 117, 101, 32, 102, 46, 51, 32, 120]⟩ : ByteArray).toList) = true := by
  rw [lv_b, lv_read]; show ((textC lvC).toList == (⟨#[118, 97, 108, 117, 101, 32, 102, 46, 51, 32, 120]⟩ : ByteArray).toList) = true
  rw [lv_text]; simp
theorem lv_4 : Cm.ok ⟨(readC (bytesOf 11 (fun i => Sx.rowAt 1 [DV.v (.int .u8 118), DV.v (.int .u8 97), DV.v (.int .u8 108), DV.v (.int .u8 117), DV.v (.int .u8 101), DV.v (.int .u8 32), DV.v (.int .u8 102), DV.v (.int .u8 46), DV.v (.int .u8 51), DV.v (.int .u8 32), DV.v (.int .u8 120)] (0 + i)))).1.kind, (readC (bytesOf 11 (fun i => Sx.rowAt 1 [DV.v (.int .u8 118), DV.v (.int .u8 97), DV.v (.int .u8 108), DV.v (.int .u8 117), DV.v (.int .u8 101), DV.v (.int .u8 32), DV.v (.int .u8 102), DV.v (.int .u8 46), DV.v (.int .u8 51), DV.v (.int .u8 32), DV.v (.int .u8 120)] (0 + i)))).1.fn, (readC (bytesOf 11 (fun i => Sx.rowAt 1 [DV.v (.int .u8 118), DV.v (.int .u8 97), DV.v (.int .u8 108), DV.v (.int .u8 117), DV.v (.int .u8 101), DV.v (.int .u8 32), DV.v (.int .u8 102), DV.v (.int .u8 46), DV.v (.int .u8 51), DV.v (.int .u8 32), DV.v (.int .u8 120)] (0 + i)))).1.node, (readC (bytesOf 11 (fun i => Sx.rowAt 1 [DV.v (.int .u8 118), DV.v (.int .u8 97), DV.v (.int .u8 108), DV.v (.int .u8 117), DV.v (.int .u8 101), DV.v (.int .u8 32), DV.v (.int .u8 102), DV.v (.int .u8 46), DV.v (.int .u8 51), DV.v (.int .u8 32), DV.v (.int .u8 120)] (0 + i)))).1.name, (readC (bytesOf 11 (fun i => Sx.rowAt 1 [DV.v (.int .u8 118), DV.v (.int .u8 97), DV.v (.int .u8 108), DV.v (.int .u8 117), DV.v (.int .u8 101), DV.v (.int .u8 32), DV.v (.int .u8 102), DV.v (.int .u8 46), DV.v (.int .u8 51), DV.v (.int .u8 32), DV.v (.int .u8 120)] (0 + i)))).1.n, (readC (bytesOf 11 (fun i => Sx.rowAt 1 [DV.v (.int .u8 118), DV.v (.int .u8 97), DV.v (.int .u8 108), DV.v (.int .u8 117), DV.v (.int .u8 101), DV.v (.int .u8 32), DV.v (.int .u8 102), DV.v (.int .u8 46), DV.v (.int .u8 51), DV.v (.int .u8 32), DV.v (.int .u8 120)] (0 + i)))).1.text⟩ := by rw [lv_b, lv_read]; exact ⟨by unfold rI; decide, by unfold rI; decide, by unfold rI; decide⟩
theorem lv_5 : (readC (bytesOf 11 (fun i => Sx.rowAt 1 [DV.v (.int .u8 118), DV.v (.int .u8 97), DV.v (.int .u8 108), DV.v (.int .u8 117), DV.v (.int .u8 101), DV.v (.int .u8 32), DV.v (.int .u8 102), DV.v (.int .u8 46), DV.v (.int .u8 51), DV.v (.int .u8 32), DV.v (.int .u8 120)] (0 + i)))).1.fn.size ≤ 1000000000000 := by rw [lv_b, lv_read]; decide
theorem lv_6 : (readC (bytesOf 11 (fun i => Sx.rowAt 1 [DV.v (.int .u8 118), DV.v (.int .u8 97), DV.v (.int .u8 108), DV.v (.int .u8 117), DV.v (.int .u8 101), DV.v (.int .u8 32), DV.v (.int .u8 102), DV.v (.int .u8 46), DV.v (.int .u8 51), DV.v (.int .u8 32), DV.v (.int .u8 120)] (0 + i)))).1.name.size ≤ 1000000000000 := by rw [lv_b, lv_read]; decide
theorem lv_7 : (readC (bytesOf 11 (fun i => Sx.rowAt 1 [DV.v (.int .u8 118), DV.v (.int .u8 97), DV.v (.int .u8 108), DV.v (.int .u8 117), DV.v (.int .u8 101), DV.v (.int .u8 32), DV.v (.int .u8 102), DV.v (.int .u8 46), DV.v (.int .u8 51), DV.v (.int .u8 32), DV.v (.int .u8 120)] (0 + i)))).1.text.size ≤ 1000000000000 := by rw [lv_b, lv_read]; decide
theorem lv_8 (i : Nat) (hi : i < 11) : (fun i => Sx.rowAt 1 [DV.v (.int .u8 118), DV.v (.int .u8 97), DV.v (.int .u8 108), DV.v (.int .u8 117), DV.v (.int .u8 101), DV.v (.int .u8 32), DV.v (.int .u8 102), DV.v (.int .u8 46), DV.v (.int .u8 51), DV.v (.int .u8 32), DV.v (.int .u8 120)] (0 + i)) i = [.v (.int .u8 (bI ((fun i => Sx.rowAt 1 [DV.v (.int .u8 118), DV.v (.int .u8 97), DV.v (.int .u8 108), DV.v (.int .u8 117), DV.v (.int .u8 101), DV.v (.int .u8 32), DV.v (.int .u8 102), DV.v (.int .u8 46), DV.v (.int .u8 51), DV.v (.int .u8 32), DV.v (.int .u8 120)] (0 + i)) i)))] := by
  have h10 : i = 0 ∨ i = 1 ∨ i = 2 ∨ i = 3 ∨ i = 4 ∨ i = 5 ∨ i = 6 ∨ i = 7 ∨ i = 8 ∨ i = 9 ∨ i = 10 := by omega
  rcases h10 with rfl | rfl | rfl | rfl | rfl | rfl | rfl | rfl | rfl | rfl | rfl <;> rfl

def FOLives : List Ar → Option Rs
  | [] => some ⟨True, .va (.c (.d (bo (true)))), []⟩
  | _ => none
set_option maxHeartbeats 1000000 in
set_option maxRecDepth 100000 in
theorem fcOLives : FC Tryd.prog 33 FOLives := by
  intro xs pre r us h hp
  unfold FOLives at h
  split at h
  · cases h
    refine fcat tys_ok (l := [(31, ⟨[], FORead⟩), (34, ⟨[], FOText⟩)]) ⟨fcORead, fcOText, trivial⟩ Tryd.func33 rfl (by kernel_rfl) false ?_
    repeat' (first | exact trivial | (with_reducible exact (fun h : (_ == _) = _ => absurd h (by decide))) | (with_reducible exact (fun h : decide _ = _ => absurd h (by decide))) | (with_reducible exact (fun h : kindW _ = ((0 : Nat) : Int) => absurd ‹(kindW _ == 0) = false› (by rw [show kindW _ = 0 from h]; decide))) | (with_reducible exact (fun h : (_ != _) = _ => absurd h (by decide))) | (with_reducible exact (fun h : (!_) = _ => absurd h (by decide))) | (with_reducible exact (fun h => absurd (lv_1.symm.trans h) (by decide))) | (with_reducible exact (fun h => absurd (lv_2.symm.trans h) (by decide))) | (with_reducible exact (fun h => absurd (lv_3.symm.trans h) (by decide))) | (with_reducible exact lv_4) | (with_reducible exact lv_5) | (with_reducible exact lv_6) | (with_reducible exact lv_7) | refine ⟨?_, ?_⟩ | intro _)
    all_goals first | (with_reducible show (_ : Int) ≤ _) | (with_reducible show (_ : Int) < _) | (with_reducible show (_ : Nat) ≤ _) | (with_reducible show (_ : Nat) < _) | (conv => whnf)
    all_goals first | decide | exact lv_8 _ ‹_› | exact congrArg Value.bool lv_3 | (with_reducible rfl) | trace_state
  · cases h
def FOReads : List Ar → Option Rs
  | [.c (.d (.lst 1 n0 f0))] => some ⟨(n0 < 4294967281 ∧ ∀ i, i < n0 → f0 i = [.v (.int .u8 (bI (f0 i)))]) ∧ (n0 < 4294967279), .va (.c (.d (bo (true)))), []⟩
  | _ => none
set_option maxHeartbeats 1000000 in
set_option maxRecDepth 100000 in
theorem fcOReads : FC Tryd.prog 7 FOReads := by
  intro xs pre r us h hp
  unfold FOReads at h
  split at h
  · rename_i n0 f0
    cases h
    obtain ⟨hp0, hp1⟩ := hp
    refine fcat tys_ok (l := [(31, ⟨[], FORead⟩), (32, ⟨[], FRRead37⟩), (33, ⟨[], FOLives⟩)]) ⟨fcORead, fcRRead37, fcOLives, trivial⟩ Tryd.func7 rfl (by kernel_rfl) false ?_
    have hs := cmEq_self (readC (bytesOf n0 f0)).1
    unfold cmEq at hs
    have he : ((readC (bytesOf n0 f0)).2 == (readC (bytesOf n0 f0)).2) = true := by simp
    repeat' (first | exact trivial | (with_reducible exact (fun h => absurd (hs.symm.trans h) (by decide))) | (with_reducible exact (fun h => absurd (he.symm.trans h) (by decide))) | (with_reducible exact hp0.2) | refine ⟨?_, ?_⟩ | intro _)
    all_goals first | (with_reducible show (_ : Int) ≤ _) | (with_reducible show (_ : Int) < _) | (with_reducible show (_ : Nat) ≤ _) | (with_reducible show (_ : Nat) < _) | (conv => whnf)
    all_goals first | omega | rfl | exact hp0.2 _ ‹_› | exact hp0.1 | exact hp1 | trace_state
  · cases h
def FOTexts : List Ar → Option Rs
  | [.agg [.d (.v (.int .i64 k0)), .d (.v (.string x0)), .d (.v (.int .i64 i0)), .d (.v (.string y0)), .d (.v (.int .i64 m0)), .d (.v (.string z0))]] => some ⟨(Cm.ok ⟨k0, x0, i0, y0, m0, z0⟩) ∧ (x0.size ≤ 1000000000000 ∧ y0.size ≤ 1000000000000 ∧ z0.size ≤ 1000000000000), .va (.c (.d (bo (true)))), []⟩
  | _ => none
set_option maxHeartbeats 1000000 in
set_option maxRecDepth 100000 in
theorem fcOTexts : FC Tryd.prog 8 FOTexts := by
  intro xs pre r us h hp
  unfold FOTexts at h
  split at h
  · rename_i k0 x0 i0 y0 m0 z0
    cases h
    obtain ⟨hp0, hp1⟩ := hp
    refine fcat tys_ok (l := [(34, ⟨[], FOText⟩), (35, ⟨[], FRText37⟩), (33, ⟨[], FOLives⟩)]) ⟨fcOText, fcRText37, fcOLives, trivial⟩ Tryd.func8 rfl (by kernel_rfl) false ?_
    have hs : ((textC ⟨k0, x0, i0, y0, m0, z0⟩).toList == (textC ⟨k0, x0, i0, y0, m0, z0⟩).toList) = true := by simp
    repeat' (first | exact trivial | (with_reducible exact (fun h => absurd (hs.symm.trans h) (by decide))) | (with_reducible exact hp0) | (with_reducible exact hp1) | refine ⟨?_, ?_⟩ | intro _)
    all_goals first | (with_reducible show (_ : Int) ≤ _) | (with_reducible show (_ : Int) < _) | (with_reducible show (_ : Nat) ≤ _) | (with_reducible show (_ : Nat) < _) | (conv => whnf)
    all_goals first | ((with_reducible show ASat _ _ _ _ _); refine draw_plan tys_ok (l := [(34, ⟨[], FOText⟩), (35, ⟨[], FRText37⟩), (33, ⟨[], FOLives⟩)]) ⟨fcOText, fcRText37, fcOLives, trivial⟩ (by kernel_rfl) (.all [(0, .all [(1, .all [(2, .all [(3, .all [(4, .take 5 (.all [(6, .all [(7, .take 8 (.done))])]))])])]), (2, .all [(1, .all [(3, .all [(4, .take 5 (.all [(6, .all [(7, .take 8 (.done))])]))])])])]), (2, .all [(0, .all [(1, .all [(3, .all [(4, .take 5 (.all [(6, .all [(7, .take 8 (.done))])]))])])])])]) (by kernel_rfl) ?_) | skip
    all_goals repeat' (first | exact trivial | (with_reducible exact (fun h => absurd (hs.symm.trans h) (by decide))) | (with_reducible exact hp0) | (with_reducible exact hp1) | refine ⟨?_, ?_⟩ | intro _)
    all_goals first | (with_reducible show (_ : Int) ≤ _) | (with_reducible show (_ : Int) < _) | (with_reducible show (_ : Nat) ≤ _) | (with_reducible show (_ : Nat) < _) | (conv => whnf)
    all_goals first | omega | rfl | exact hp0 | exact hp1 | trace_state
  · cases h
theorem readC_err {s : ByteArray} (h : (readC s).2 ≠ 0) : (readC s).1 = ck 0 := by
  have hf : ∀ x : Cm × Int, (fin0 x).2 ≠ 0 → (fin0 x).1 = ck 0 := fun x hx => by
    unfold fin0 at *
    split at hx
    · rename_i h0; exact absurd h0 hx
    · rename_i h0; rw [if_neg h0]
  unfold readC at *
  split
  · rfl
  · rename_i h1
    rw [if_neg h1] at h
    split
    · rename_i h2; rw [if_pos h2] at h; exact absurd rfl h
    · rename_i h2
      rw [if_neg h2] at h
      generalize splitS (cutS s blS).2.1 = L at *
      unfold readL at *
      split
      · rename_i a
        dsimp only at h
        split
        · rename_i h3; rw [if_pos h3] at h; exact hf _ h
        · rename_i h3
          rw [if_neg h3] at h
          split
          · rename_i h4; rw [if_pos h4] at h; exact hf _ h
          · rename_i h4
            rw [if_neg h4] at h
            split
            · rename_i h5; rw [if_pos h5] at h; exact hf _ h
            · rfl
      · rename_i a b
        dsimp only at h
        split
        · rename_i h3
          rw [if_pos h3] at h
          split
          · rename_i h4; rw [if_pos h4] at h; exact hf _ h
          · rfl
        · rfl
      · rfl
def FOBack : List Ar → Option Rs
  | [.c (.d (.lst 1 n0 f0))] => some ⟨(n0 < 4294967281 ∧ ∀ i, i < n0 → f0 i = [.v (.int .u8 (bI (f0 i)))]) ∧ (n0 < 4294967279), .va (.c (.d (bo (true)))), []⟩
  | _ => none
set_option maxHeartbeats 4000000 in
set_option maxRecDepth 100000 in
theorem fcOBack : FC Tryd.prog 9 FOBack := by
  intro xs pre r us h hp
  unfold FOBack at h
  split at h
  · rename_i n0 f0
    cases h
    obtain ⟨hp0, hp1⟩ := hp
    refine fcat tys_ok (l := [(31, ⟨[], FORead⟩), (34, ⟨[], FOText⟩), (33, ⟨[], FOLives⟩)]) ⟨fcORead, fcOText, fcOLives, trivial⟩ Tryd.func9 rfl (by kernel_rfl) false ?_
    have hsz : (bytesOf n0 f0).size = n0 := by simp [bytesOf, ByteArray.size]
    have hz := readC_sz (bytesOf n0 f0)
    rw [hsz] at hz
    have hq1 : (readC (bytesOf n0 f0)).1.fn.size ≤ 1000000000000 := Nat.le_trans hz.fn (by omega)
    have hq2 : (readC (bytesOf n0 f0)).1.name.size ≤ 1000000000000 := Nat.le_trans hz.name (by omega)
    have hq3 : (readC (bytesOf n0 f0)).1.text.size ≤ 1000000000000 := Nat.le_trans hz.text (by omega)
    have hq4 : Cm.ok ⟨(readC (bytesOf n0 f0)).1.kind, (readC (bytesOf n0 f0)).1.fn, (readC (bytesOf n0 f0)).1.node, (readC (bytesOf n0 f0)).1.name, (readC (bytesOf n0 f0)).1.n, (readC (bytesOf n0 f0)).1.text⟩ := hz.ok
    by_cases hE : (readC (bytesOf n0 f0)).2 = 0
    rotate_left
    · have hb0 : ((readC (bytesOf n0 f0)).2 != 0) = true := bne_iff_ne.2 hE
      have hb1 : ((readC (bytesOf n0 f0)).1.kind == 0 && ((readC (bytesOf n0 f0)).1.fn.toList == (⟨#[]⟩ : ByteArray).toList && ((readC (bytesOf n0 f0)).1.node == 0 && ((readC (bytesOf n0 f0)).1.name.toList == (⟨#[]⟩ : ByteArray).toList && ((readC (bytesOf n0 f0)).1.n == 0 && ((readC (bytesOf n0 f0)).1.text.toList == (⟨#[]⟩ : ByteArray).toList && true)))))) = true := by rw [readC_err hE]; kernel_rfl
      repeat' (first | exact trivial | (with_reducible exact (fun h => absurd (hb0.symm.trans h) (by decide))) | (with_reducible exact (fun h => absurd (hb1.symm.trans h) (by decide))) | (with_reducible exact hp0.2) | refine ⟨?_, ?_⟩ | intro _)
      all_goals first | (with_reducible show (_ : Int) ≤ _) | (with_reducible show (_ : Int) < _) | (with_reducible show (_ : Nat) ≤ _) | (with_reducible show (_ : Nat) < _) | (conv => whnf)
      all_goals first | omega | rfl | exact hp0.1 | exact hp1 | exact hp0.2 _ ‹_› | trace_state
    have hb0 : ((readC (bytesOf n0 f0)).2 != 0) = false := by rw [hE]; rfl
    have hT : (textC ⟨(readC (bytesOf n0 f0)).1.kind, (readC (bytesOf n0 f0)).1.fn, (readC (bytesOf n0 f0)).1.node, (readC (bytesOf n0 f0)).1.name, (readC (bytesOf n0 f0)).1.n, (readC (bytesOf n0 f0)).1.text⟩) = bytesOf n0 f0 := back (c := (readC (bytesOf n0 f0)).1) (by rw [← hE])
    have hR : (readC (bytesOf (textC ⟨(readC (bytesOf n0 f0)).1.kind, (readC (bytesOf n0 f0)).1.fn, (readC (bytesOf n0 f0)).1.node, (readC (bytesOf n0 f0)).1.name, (readC (bytesOf n0 f0)).1.n, (readC (bytesOf n0 f0)).1.text⟩).size (strRow (textC ⟨(readC (bytesOf n0 f0)).1.kind, (readC (bytesOf n0 f0)).1.fn, (readC (bytesOf n0 f0)).1.node, (readC (bytesOf n0 f0)).1.name, (readC (bytesOf n0 f0)).1.n, (readC (bytesOf n0 f0)).1.text⟩)))) = readC (bytesOf n0 f0) := by rw [hT, bytes_str]
    have hb2 : ((readC (bytesOf (textC ⟨(readC (bytesOf n0 f0)).1.kind, (readC (bytesOf n0 f0)).1.fn, (readC (bytesOf n0 f0)).1.node, (readC (bytesOf n0 f0)).1.name, (readC (bytesOf n0 f0)).1.n, (readC (bytesOf n0 f0)).1.text⟩).size (strRow (textC ⟨(readC (bytesOf n0 f0)).1.kind, (readC (bytesOf n0 f0)).1.fn, (readC (bytesOf n0 f0)).1.node, (readC (bytesOf n0 f0)).1.name, (readC (bytesOf n0 f0)).1.n, (readC (bytesOf n0 f0)).1.text⟩)))).2 == 0) = true := by rw [hR, hE]; rfl
    have hb3 : ((readC (bytesOf (textC ⟨(readC (bytesOf n0 f0)).1.kind, (readC (bytesOf n0 f0)).1.fn, (readC (bytesOf n0 f0)).1.node, (readC (bytesOf n0 f0)).1.name, (readC (bytesOf n0 f0)).1.n, (readC (bytesOf n0 f0)).1.text⟩).size (strRow (textC ⟨(readC (bytesOf n0 f0)).1.kind, (readC (bytesOf n0 f0)).1.fn, (readC (bytesOf n0 f0)).1.node, (readC (bytesOf n0 f0)).1.name, (readC (bytesOf n0 f0)).1.n, (readC (bytesOf n0 f0)).1.text⟩)))).1.kind == (readC (bytesOf n0 f0)).1.kind && ((readC (bytesOf (textC ⟨(readC (bytesOf n0 f0)).1.kind, (readC (bytesOf n0 f0)).1.fn, (readC (bytesOf n0 f0)).1.node, (readC (bytesOf n0 f0)).1.name, (readC (bytesOf n0 f0)).1.n, (readC (bytesOf n0 f0)).1.text⟩).size (strRow (textC ⟨(readC (bytesOf n0 f0)).1.kind, (readC (bytesOf n0 f0)).1.fn, (readC (bytesOf n0 f0)).1.node, (readC (bytesOf n0 f0)).1.name, (readC (bytesOf n0 f0)).1.n, (readC (bytesOf n0 f0)).1.text⟩)))).1.fn.toList == (readC (bytesOf n0 f0)).1.fn.toList && ((readC (bytesOf (textC ⟨(readC (bytesOf n0 f0)).1.kind, (readC (bytesOf n0 f0)).1.fn, (readC (bytesOf n0 f0)).1.node, (readC (bytesOf n0 f0)).1.name, (readC (bytesOf n0 f0)).1.n, (readC (bytesOf n0 f0)).1.text⟩).size (strRow (textC ⟨(readC (bytesOf n0 f0)).1.kind, (readC (bytesOf n0 f0)).1.fn, (readC (bytesOf n0 f0)).1.node, (readC (bytesOf n0 f0)).1.name, (readC (bytesOf n0 f0)).1.n, (readC (bytesOf n0 f0)).1.text⟩)))).1.node == (readC (bytesOf n0 f0)).1.node && ((readC (bytesOf (textC ⟨(readC (bytesOf n0 f0)).1.kind, (readC (bytesOf n0 f0)).1.fn, (readC (bytesOf n0 f0)).1.node, (readC (bytesOf n0 f0)).1.name, (readC (bytesOf n0 f0)).1.n, (readC (bytesOf n0 f0)).1.text⟩).size (strRow (textC ⟨(readC (bytesOf n0 f0)).1.kind, (readC (bytesOf n0 f0)).1.fn, (readC (bytesOf n0 f0)).1.node, (readC (bytesOf n0 f0)).1.name, (readC (bytesOf n0 f0)).1.n, (readC (bytesOf n0 f0)).1.text⟩)))).1.name.toList == (readC (bytesOf n0 f0)).1.name.toList && ((readC (bytesOf (textC ⟨(readC (bytesOf n0 f0)).1.kind, (readC (bytesOf n0 f0)).1.fn, (readC (bytesOf n0 f0)).1.node, (readC (bytesOf n0 f0)).1.name, (readC (bytesOf n0 f0)).1.n, (readC (bytesOf n0 f0)).1.text⟩).size (strRow (textC ⟨(readC (bytesOf n0 f0)).1.kind, (readC (bytesOf n0 f0)).1.fn, (readC (bytesOf n0 f0)).1.node, (readC (bytesOf n0 f0)).1.name, (readC (bytesOf n0 f0)).1.n, (readC (bytesOf n0 f0)).1.text⟩)))).1.n == (readC (bytesOf n0 f0)).1.n && ((readC (bytesOf (textC ⟨(readC (bytesOf n0 f0)).1.kind, (readC (bytesOf n0 f0)).1.fn, (readC (bytesOf n0 f0)).1.node, (readC (bytesOf n0 f0)).1.name, (readC (bytesOf n0 f0)).1.n, (readC (bytesOf n0 f0)).1.text⟩).size (strRow (textC ⟨(readC (bytesOf n0 f0)).1.kind, (readC (bytesOf n0 f0)).1.fn, (readC (bytesOf n0 f0)).1.node, (readC (bytesOf n0 f0)).1.name, (readC (bytesOf n0 f0)).1.n, (readC (bytesOf n0 f0)).1.text⟩)))).1.text.toList == (readC (bytesOf n0 f0)).1.text.toList && true)))))) = true := by rw [hR]; exact cmEq_self _
    have hb4 : ((textC ⟨(readC (bytesOf n0 f0)).1.kind, (readC (bytesOf n0 f0)).1.fn, (readC (bytesOf n0 f0)).1.node, (readC (bytesOf n0 f0)).1.name, (readC (bytesOf n0 f0)).1.n, (readC (bytesOf n0 f0)).1.text⟩).toList == (bytesOf n0 f0).toList) = true := by rw [hT]; simp
    have hts : (textC ⟨(readC (bytesOf n0 f0)).1.kind, (readC (bytesOf n0 f0)).1.fn, (readC (bytesOf n0 f0)).1.node, (readC (bytesOf n0 f0)).1.name, (readC (bytesOf n0 f0)).1.n, (readC (bytesOf n0 f0)).1.text⟩).size < 4294967281 := by rw [hT, hsz]; omega
    repeat' (first | exact trivial | (with_reducible exact (fun h => absurd (hb0.symm.trans h) (by decide))) | (with_reducible exact (fun h => absurd (hb2.symm.trans h) (by decide))) | (with_reducible exact (fun h => absurd (hb3.symm.trans h) (by decide))) | (with_reducible exact (fun h => absurd (hb4.symm.trans h) (by decide))) | (with_reducible exact hp0.2) | (with_reducible exact hq4) | (with_reducible exact hq1) | (with_reducible exact hq2) | (with_reducible exact hq3) | (with_reducible exact hts) | refine ⟨?_, ?_⟩ | intro _)
    all_goals first | (with_reducible show (_ : Int) ≤ _) | (with_reducible show (_ : Int) < _) | (with_reducible show (_ : Nat) ≤ _) | (with_reducible show (_ : Nat) < _) | (conv => whnf)
    all_goals first | ((with_reducible show ASat _ _ _ _ _); refine draw_plan tys_ok (l := [(31, ⟨[], FORead⟩), (34, ⟨[], FOText⟩), (33, ⟨[], FOLives⟩)]) ⟨fcORead, fcOText, fcOLives, trivial⟩ (by kernel_rfl) (.take 0 (.all [(1, .take 2 (.all [(3, .all [(4, .all [(5, .all [(6, .take 7 (.all [(8, .all [(9, .all [(10, .all [(11, .all [(12, .all [(13, .take 14 (.all [(15, .all [(16, .take 17 (.done))])]))])])])]), (10, .all [(9, .all [(11, .all [(12, .all [(13, .take 14 (.all [(15, .all [(16, .take 17 (.done))])]))])])]), (11, .all [(9, .all [(12, .all [(13, .take 14 (.all [(15, .all [(16, .take 17 (.done))])]))])])])])]), (10, .all [(8, .all [(9, .all [(11, .all [(12, .all [(13, .take 14 (.all [(15, .all [(16, .take 17 (.done))])]))])])]), (11, .all [(9, .all [(12, .all [(13, .take 14 (.all [(15, .all [(16, .take 17 (.done))])]))])])])]), (11, .all [(8, .all [(9, .all [(12, .all [(13, .take 14 (.all [(15, .all [(16, .take 17 (.done))])]))])])])])])]))])])]), (4, .all [(3, .all [(5, .all [(6, .take 7 (.all [(8, .all [(9, .all [(10, .all [(11, .all [(12, .all [(13, .take 14 (.all [(15, .all [(16, .take 17 (.done))])]))])])])]), (10, .all [(9, .all [(11, .all [(12, .all [(13, .take 14 (.all [(15, .all [(16, .take 17 (.done))])]))])])]), (11, .all [(9, .all [(12, .all [(13, .take 14 (.all [(15, .all [(16, .take 17 (.done))])]))])])])])]), (10, .all [(8, .all [(9, .all [(11, .all [(12, .all [(13, .take 14 (.all [(15, .all [(16, .take 17 (.done))])]))])])]), (11, .all [(9, .all [(12, .all [(13, .take 14 (.all [(15, .all [(16, .take 17 (.done))])]))])])])]), (11, .all [(8, .all [(9, .all [(12, .all [(13, .take 14 (.all [(15, .all [(16, .take 17 (.done))])]))])])])])])]))])])])]))])) (by kernel_rfl) ?_) | skip
    all_goals repeat' (first | exact trivial | (with_reducible exact (fun h => absurd (hb0.symm.trans h) (by decide))) | (with_reducible exact (fun h => absurd (hb2.symm.trans h) (by decide))) | (with_reducible exact (fun h => absurd (hb3.symm.trans h) (by decide))) | (with_reducible exact (fun h => absurd (hb4.symm.trans h) (by decide))) | (with_reducible exact hp0.2) | (with_reducible exact hq4) | (with_reducible exact hq1) | (with_reducible exact hq2) | (with_reducible exact hq3) | (with_reducible exact hts) | refine ⟨?_, ?_⟩ | intro _)
    all_goals first | (with_reducible show (_ : Int) ≤ _) | (with_reducible show (_ : Int) < _) | (with_reducible show (_ : Nat) ≤ _) | (with_reducible show (_ : Nat) < _) | (conv => whnf)
    all_goals first | omega | rfl | exact hp0.1 | exact hp1 | exact hp0.2 _ ‹_› | (exact str_u8 _ _) | trace_state
  · cases h

end Go.Proofs.YtakcacejpbiogaaDoor
