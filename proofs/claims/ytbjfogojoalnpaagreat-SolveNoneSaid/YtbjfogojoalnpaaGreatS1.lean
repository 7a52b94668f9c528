/- A symbolic executor for function bodies of the model, and that it is right: whatever it computes of a body is so of every call: part 1 of 3. No condition. -/
import Derived.Calls
import Derived.Laws.Cells
import Derived.Laws.World
import Derived.Laws.Slices
import Derived.Laws.Small
import Derived.Laws.StructEq
import Derived.ChangeKeysEq
import Derived.Laws.Append
import Derived.Laws.AppendOwn
import Derived.Laws.Cover3
import Derived.Lib.AppendZeros
import Derived.Lib.AppendZerosOnto
set_option linter.all false
set_option maxHeartbeats 8000000
set_option maxRecDepth 100000
namespace Go.Sx
inductive DV where
 | v (x : Value)
 | lst (sz n : Nat) (f : Nat -> List DV)
inductive Cv where
 | c (x : DV)
 | agg (xs : List DV)
inductive Ct where
 | va (x : Cv)
 | tup (xs : List Cv)
structure Gs where
 pre : Prop
 ct : Ct
inductive Cell where
 | top
 | und
 | kb (b : Bool)
 | d (x : DV)
 | own (k off : Nat)
 | osl (k sz o len : Nat)
 | osc (k sz o len cap : Nat)
 | ep (k sz i off : Nat)
 | ap (k base n i : Nat)
 | rp (cs : List DV)
 | fn (f : Nat) (caps : List (Nat × Nat))
 | fv (g : List Cv -> Option Gs)
 | mp (k : Nat)
 | fb (f k off : Nat)
inductive Va where
 | c (x : Cell)
 | agg (cs : List Cell)
inductive Tm where
 | va (x : Va)
 | tup (xs : List Va)
inductive Blk where
 | cells (cs : List Cell)
 | row (sz n : Nat) (f : Nat -> List DV)
 | fz (cs : List DV)
 | fzr (sz n : Nat) (f : Nat -> List DV)
 | it (s : ByteArray) (p : Nat)
 | map (es : List (List Value × Va)) (bc : List Nat)
 | gone
structure St where
 tmps : List (Nat × Tm)
 heap : List (Nat × Blk)
 next : Nat
 lim : Nat
inductive Ic where
 | d (x : DV)
 | ow (sz n : Nat) (f : Nat -> List DV)
inductive Ar where
 | c (x : Ic)
 | agg (cs : List Ic)
 | rp (cs : List DV)
 | fv (g : List Cv -> Option Gs)
inductive Rt where
 | va (x : Ar)
 | tup (xs : List Ar)
structure Rs where
 pre : Prop
 rt : Rt
 us : List (Option (Nat -> List DV))
structure Sm where
 own : List Bool
 F : List Ar -> Option Rs
abbrev vx (x : Value) : Tm := .va (.c (.d (.v x)))
abbrev topT : Tm := .va (.c .top)
abbrev undT : Tm := .va (.c .und)
structure TX where
 n : Nat
 cmp : Bool
structure TI where
 desc : TypeDesc
 size : Nat
 bytes : TX
 zero : Value
abbrev Tys := Nat -> Option TI
abbrev Sums := Nat -> Option Sm
def lookT : List (Nat × Tm) -> Nat -> Tm
 | [], _ => topT
 | (i, x) :: l, t => match Nat.beq i t with
   | true => x
   | false => lookT l t
def lookB : List (Nat × Blk) -> Nat -> Blk
 | [], _ => .gone
 | (i, x) :: l, t => match Nat.beq i t with
   | true => x
   | false => lookB l t
def fV {α : Type} (x : Value) (k : Value -> α) : α := match x with
 | .bool b => k (.bool b)
 | .int i n => k (.int i n)
 | .float i n => k (.float i n)
 | .complex i a b => k (.complex i a b)
 | .string s => k (.string s)
 | .pointer a => k (.pointer a)
 | .slice a n c => k (.slice a n c)
 | .map r => k (.map r)
 | .chan r => k (.chan r)
 | .func f a b => k (.func f a b)
 | .nilFunc => k .nilFunc
 | .iface t v => k (.iface t v)
 | .nilIface => k .nilIface
 | .agg cs => k (.agg cs)
 | .tuple vs => k (.tuple vs)
def fD {α : Type} (x : DV) (k : DV -> α) : α := match x with
 | .v x => fV x fun x => k (.v x)
 | .lst a b f => k (.lst a b f)
def fC {α : Type} (x : Cell) (k : Cell -> α) : α := match x with
 | .top => k .top
 | .und => k .und
 | .kb true => k (.kb true)
 | .kb false => k (.kb false)
 | .d x => fD x fun x => k (.d x)
 | .own a b => k (.own a b)
 | .osl a b c d => k (.osl a b c d)
 | .osc a b c d e => k (.osc a b c d e)
 | .ep a b c d => k (.ep a b c d)
 | .ap a b c d => k (.ap a b c d)
 | .rp cs => k (.rp cs)
 | .fn f cs => k (.fn f cs)
 | .fv g => k (.fv g)
 | .mp a => k (.mp a)
 | .fb f a b => k (.fb f a b)
def fCs {α : Type} : List Cell -> (List Cell -> α) -> α
 | [], k => k []
 | x :: xs, k => fC x fun x => fCs xs fun xs => k (x :: xs)
def fDs {α : Type} : List DV -> (List DV -> α) -> α
 | [], k => k []
 | x :: xs, k => fD x fun x => fDs xs fun xs => k (x :: xs)
def fVa {α : Type} (x : Va) (k : Va -> α) : α := match x with
 | .c x => fC x fun x => k (.c x)
 | .agg cs => fCs cs fun cs => k (.agg cs)
def fVas {α : Type} : List Va -> (List Va -> α) -> α
 | [], k => k []
 | x :: xs, k => fVa x fun x => fVas xs fun xs => k (x :: xs)
def fT {α : Type} (x : Tm) (k : Tm -> α) : α := match x with
 | .va x => fVa x fun x => k (.va x)
 | .tup xs => fVas xs fun xs => k (.tup xs)
def ofCell : Value -> Cell
 | .bool b => .kb b
 | x => .d (.v x)
def ofValue : Value -> Tm
 | .agg _ => topT
 | .tuple _ => topT
 | x => .va (.c (ofCell x))
def ev (st : St) : Operand -> Tm
 | .tmp t => lookT st.tmps t
 | .const x => ofValue x
 | .global _ => topT
 | .func f => .va (.c (.fn f []))
def putK (st : St) (dst : Option Tmp) (x : Tm) (K : St -> Prop) : Prop :=
 match dst, st with
 | some t, ⟨ts, h, n, m⟩ => match Nat.blt t m with
   | true => fT x fun x => K ⟨(t, x) :: ts, h, n, m⟩
   | false => False
 | none, st => K st
def pureRun {α : Type} (P : Program) : Sem α -> Option α
 | .pure a => some a
 | .program k => pureRun P (k P)
 | _ => none
def plainVa : Va -> Option Value
 | .c (.d (.v x)) => some x
 | .c (.kb b) => some (.bool b)
 | _ => none
def plain : Tm -> Option Value
 | .va x => plainVa x
 | _ => none
def Va.cells : Va -> List Cell
 | .c x => [x]
 | .agg cs => cs
def Va.lays : Va -> Bool
 | .c .top => false
 | .c .und => false
 | _ => true
def wantAgg : TypeDesc -> Bool
 | .struct _ | .array _ _ => true
 | _ => false
def mkVa (agg : Bool) (cs : List Cell) : Option Va :=
 match agg, cs with
 | true, cs => some (.agg cs)
 | false, [x] => some (.c x)
 | false, _ => none
def takeN {α : Type} : List α -> Nat -> Option (List α)
 | _, 0 => some []
 | [], _ + 1 => none
 | x :: xs, n + 1 => match takeN xs n with
   | some ys => some (x :: ys)
   | none => none
def setAt {α : Type} : List α -> Nat -> List α -> Option (List α)
 | l, _, [] => some l
 | [], _, _ :: _ => none
 | _ :: l, 0, y :: ys => match setAt l 0 ys with
   | some r => some (y :: r)
   | none => none
 | x :: l, n + 1, y :: ys => match setAt l n (y :: ys) with
   | some r => some (x :: r)
   | none => none
def intsOf : List Cell -> Option (IntKind × List Int)
 | [] => none
 | .d (.v (.int k n)) :: cs => match cs with
   | [] => some (k, [n])
   | _ => match intsOf cs with
     | some (k', ns) => match decide (k = k') with
       | true => some (k, n :: ns)
       | false => none
     | none => none
 | _ => none
def selI (ns : List Int) (i : Nat) : Int := (ns[i]?).getD 0
def updI (k : IntKind) (i : Nat) (v : Int) : Nat -> List Int -> List Cell
 | _, [] => []
 | j, n :: ns => .d (.v (.int k (if i = j then v else n))) :: updI k i v (j + 1) ns
def byteAt (s : ByteArray) (i : Nat) : Int := ((s[i]?).getD 0).toNat
def loadAt (h : List (Nat × Blk)) (p : Tm) (sz : Nat) (K : List Cell -> Prop) : Prop :=
 match p with
 | .va (.c (.own k off)) => match lookB h k with
   | .cells cs => match takeN (cs.drop off) sz with
     | some r => K r
     | none => False
   | .fz cs => match takeN (cs.drop off) sz with
     | some r => K (r.map .d)
     | none => False
   | _ => False
 | .va (.c (.ep k z i off)) => match lookB h k with
   | .row z' n f => z' = z /\ i < n /\ (z' = z -> i < n -> match takeN ((f i).drop off) sz with
     | some r => K (r.map .d)
     | none => False)
   | .fzr z' n f => z' = z /\ i < n /\ (z' = z -> i < n -> match takeN ((f i).drop off) sz with
     | some r => K (r.map .d)
     | none => False)
   | _ => False
 | .va (.c (.rp cs)) => match takeN cs sz with
   | some r => K (r.map .d)
   | none => False
 | .va (.c (.ap k base n i)) => match lookB h k, Nat.beq sz 1 with
   | .cells cs, true => match takeN (cs.drop base) n with
     | some r => match intsOf r with
       | some (kd, ns) => i < n /\ (i < n -> K [.d (.v (.int kd (selI ns i)))])
       | none => False
     | none => False
   | _, _ => False
 | _ => False
def mapO {α β : Type} (f : α -> Option β) : List α -> Option (List β)
 | [] => some []
 | x :: xs => match f x, mapO f xs with
   | some y, some ys => some (y :: ys)
   | _, _ => none
def asVa : Tm -> Option Va
 | .va x => some x
 | _ => none
def onBool (st : St) (s : Nat) (k : St -> Option Bool -> Prop) : Prop :=
 match lookT st.tmps s, st with
 | .va (.c (.kb true)), st => k st (some true)
 | .va (.c (.kb false)), st => k st (some false)
 | .va (.c .und), st => k st none
 | .va (.c (.d (.v (.bool b)))), ⟨ts, h, n, m⟩ =>
   (b = true -> k ⟨(s, .va (.c (.kb true))) :: ts, h, n, m⟩ (some true)) /\ (b = false -> k ⟨(s, .va (.c (.kb false))) :: ts, h, n, m⟩ (some false))
 | _, _ => False
def newK (st : St) (dst : Option Tmp) (cs : List Cell) (K : St -> Prop) : Prop :=
 match st with
 | ⟨ts, h, n, m⟩ => fCs cs fun cs => putK ⟨ts, (n, .cells cs) :: h, n + 1, m⟩ dst (.va (.c (.own n 0))) K
def newRowK (st : St) (dst : Option Tmp) (sz len : Nat) (f : Nat -> List DV) (K : St -> Prop) : Prop :=
 match st with
 | ⟨ts, h, n, m⟩ => putK ⟨ts, (n, .row sz len f) :: h, n + 1, m⟩ dst (.va (.c (.osl n sz 0 len))) K
def closeCell (h : List (Nat × Blk)) (c : Cell) (K : DV -> Prop) : Prop :=
 match c with
 | .kb b => K (.v (.bool b))
 | .d x => K x
 | .osl k z o len => match lookB h k with
   | .fzr sz n f => match Nat.beq sz z with
     | true => o + len <= n /\ K (.lst sz len fun i => f (o + i))
     | false => False
   | _ => False
 | .fn f [] => K (.v (.func (.func f) #[] #[]))
 | _ => False
def closeCells (h : List (Nat × Blk)) : List Cell -> (List DV -> Prop) -> Prop
 | [], K => K []
 | c :: cs, K => closeCell h c fun d => closeCells h cs fun ds => K (d :: ds)
def closeVa (h : List (Nat × Blk)) (x : Va) (K : Cv -> Prop) : Prop :=
 match x with
 | .c x => closeCell h x fun d => K (.c d)
 | .agg cs => closeCells h cs fun ds => K (.agg ds)
def closeVas (h : List (Nat × Blk)) : List Va -> (List Cv -> Prop) -> Prop
 | [], K => K []
 | c :: cs, K => closeVa h c fun d => closeVas h cs fun ds => K (d :: ds)
def cvVa : Cv -> Va
 | .c x => .c (.d x)
 | .agg xs => .agg (xs.map .d)
def ctTm : Ct -> Tm
 | .va x => .va (cvVa x)
 | .tup xs => .tup (xs.map cvVa)
def zeroCells' : Value -> List Cell
 | .agg cs => cs.toList.map fun x => .d (.v x)
 | x => [.d (.v x)]
section
variable (P : Program) (τ : Tys)
def oAlloc (st : St) (dst : Option Tmp) (e : TypeId) (K : St -> Prop) : Prop :=
 match τ e with
 | some ⟨_, _, _, z⟩ => newK st dst (zeroCells' z) K
 | none => False
def oBox (st : St) (dst : Option Tmp) (x : Tm) (K : St -> Prop) : Prop :=
 match x with
 | .va y => match y.lays with
   | true => newK st dst y.cells K
   | false => False
 | _ => False
def oLoad (h : List (Nat × Blk)) (t : TypeId) (p : Tm) (K : Tm -> Prop) : Prop :=
 match τ t with
 | some ⟨desc, size, _, _⟩ => loadAt h p size fun cs => match mkVa (wantAgg desc) cs with
   | some y => K (.va y)
   | none => False
 | none => False
def setRow (f : Nat -> List DV) (i : Nat) (r : List DV) : Nat -> List DV := fun j => match Nat.beq j i with
 | true => r
 | false => f j
def oStore (st : St) (dst : Option Tmp) (t : TypeId) (p x : Tm) (K : St -> Prop) : Prop :=
 match τ t with
 | some ⟨_, size, _, _⟩ => match x, p, st with
   | .va y, .va (.c (.own k off)), ⟨ts, h, n, m⟩ => match y.lays, lookB h k, Nat.beq y.cells.length size with
     | true, .cells cs, true => match setAt cs off y.cells with
       | some cs => fCs cs fun cs => putK ⟨ts, (k, .cells cs) :: h, n, m⟩ dst undT K
       | none => False
     | _, _, _ => False
   | .va y, .va (.c (.ep k z i off)), ⟨ts, h, n, m⟩ => match y.lays, lookB h k, Nat.beq y.cells.length size with
     | true, .row z' len f, true => closeCells h y.cells fun ds => z' = z /\ i < len /\ (z' = z -> i < len -> match setAt (f i) off ds with
       | some r => fDs r fun r => putK ⟨ts, (k, .row z len (setRow f i r)) :: h, n, m⟩ dst undT K
       | none => False)
     | _, _, _ => False
   | .va y, .va (.c (.ap k base ln i)), ⟨ts, h, n, m⟩ => match plainVa y, lookB h k, Nat.beq size 1 with
     | some (.int kd v), .cells cs, true => match takeN (cs.drop base) ln with
       | some r => match intsOf r with
         | some (kd', ns) => match decide (kd' = kd) with
           | true => match setAt cs base (updI kd i v 0 ns) with
             | some cs => fCs cs fun cs => i < ln /\ (i < ln -> putK ⟨ts, (k, .cells cs) :: h, n, m⟩ dst undT K)
             | none => False
           | false => False
         | none => False
       | none => False
     | _, _, _ => False
   | _, _, _ => False
 | none => False
def oFieldAddr (s : TypeId) (p : Tm) (f : Nat) (K : Tm -> Prop) : Prop :=
 match τ s with
 | some ⟨.struct fs, _, _, _⟩ => match fs[f]? with
   | some ⟨_, ty, off', _, _, _, _⟩ => match τ ty with
     | some ⟨_, _ + 1, _, _⟩ => match p with
       | .va (.c (.own k off)) => K (.va (.c (.own k (off + off'))))
       | .va (.c (.ep k sz i off)) => K (.va (.c (.ep k sz i (off + off'))))
       | .va (.c (.rp cs)) => fDs (cs.drop off') fun cs => K (.va (.c (.rp cs)))
       | _ => False
     | _ => False
   | none => False
 | _ => False
def fillCells (fs : Array Field) (evf : Operand -> Tm) : List (Nat × Operand) -> List Cell -> Option (List Cell)
 | [], cs => some cs
 | (i, x) :: ps, cs => match fs[i]? with
   | some ⟨_, ty, off, _, _, _, _⟩ => match τ ty, evf x with
     | some ⟨_, sz, _, _⟩, .va y => match y.lays, Nat.beq y.cells.length sz, Nat.ble (off + sz) cs.length, setAt cs off y.cells with
       | true, true, true, some cs => fillCells fs evf ps cs
       | _, _, _, _ => none
     | _, _ => none
   | none => none
def fillRow (sz : Nat) (evf : Operand -> Tm) : List (Nat × Operand) -> List Cell -> Option (List Cell)
 | [], cs => some cs
 | (i, x) :: ps, cs => match evf x with
   | .va y => match y.lays, Nat.beq y.cells.length sz, Nat.ble (i * sz + sz) cs.length, setAt cs (i * sz) y.cells with
     | true, true, true, some cs => fillRow sz evf ps cs
     | _, _, _, _ => none
   | _ => none
def oBuild (evf : Operand -> Tm) (t : TypeId) (parts : List (Nat × Operand)) (K : Tm -> Prop) : Prop :=
 match τ t with
 | some ⟨.struct fs, _, _, z⟩ => match fs.toList.all (fun f => (τ f.type).isSome), fillCells τ fs evf parts (zeroCells' z) with
   | true, some cs => K (.va (.agg cs))
   | _, _ => False
 | some ⟨.array _ e, _, _, z⟩ => match τ e with
   | some ⟨_, sz, _, _⟩ => match fillRow sz evf parts (zeroCells' z) with
     | some cs => K (.va (.agg cs))
     | none => False
   | none => False
 | _ => False
def isIntT : TypeDesc -> Bool
 | .int _ => true
 | _ => false
def eachAt (i : Int) (F : Nat -> Prop) : Nat -> Prop
 | 0 => True
 | j + 1 => eachAt i F j /\ (i = (j : Int) -> F j)
def oIndexAddr (t : TypeId) (x ix : Tm) (K : Tm -> Prop) : Prop :=
 match τ t with
 | some ⟨.array len e, _, _, _⟩ => match τ e with
   | some ⟨de, sz, _, _⟩ => match x, plain ix with
     | .va (.c (.own k off)), some (.int _ i) => match isIntT de && Nat.beq sz 1 with
       | true => (0 <= i /\ i < len) /\ (0 <= i -> i < len -> K (.va (.c (.ap k off len i.toNat))))
       | false => (0 <= i /\ i < len) /\ eachAt i (fun j => K (.va (.c (.own k (off + j * sz))))) len
     | _, _ => False
   | none => False
 | some ⟨.slice e, _, _, _⟩ => match τ e with
   | some ⟨_, sz, _, _⟩ => match x, plain ix with
     | .va (.c (.d (.lst z n f))), some (.int _ i) => z = sz /\ (0 <= i /\ i < n) /\ (0 <= i -> i < n -> K (.va (.c (.rp (f i.toNat)))))
     | .va (.c (.osl k z b n)), some (.int _ i) => z = sz /\ (0 <= i /\ i < n) /\ (0 <= i -> i < n -> K (.va (.c (.ep k z (b + i.toNat) 0))))
     | _, _ => False
   | none => False
 | _ => False
def oField (t : TypeId) (x : Tm) (f : Nat) (K : Tm -> Prop) : Prop :=
 match τ t, x with
 | some ⟨.struct fs, _, _, _⟩, .va (.agg cs) => match fs[f]? with
   | some ⟨_, ty, off, _, _, _, _⟩ => match τ ty with
     | some ⟨desc, size, _, _⟩ => match takeN (cs.drop off) size with
       | some cs => match mkVa (wantAgg desc) cs with
         | some y => K (.va y)
         | none => False
       | none => False
     | none => False
   | none => False
 | _, _ => False
def oPure (r : Option Value) (K : Tm -> Prop) : Prop :=
 match r with
 | some (.bool b) => K (vx (.bool b))
 | some (.int k n) => K (vx (.int k n))
 | some (.string s) => K (vx (.string s))
 | some (.complex k a b) => K (vx (.complex k a b))
 | some (.float k a) => K (vx (.float k a))
 | some (.iface t (.int k a)) => K (vx (.iface t (.int k a)))
 | some (.iface t (.string s)) => K (vx (.iface t (.string s)))
 | some .nilIface => K (vx .nilIface)
 | _ => False
def plainCell : Cell -> Option Value
 | .d (.v x) => some x
 | .kb b => some (.bool b)
 | _ => none
def eqAt : Nat -> TypeId -> List Value -> List Value -> Option Bool
 | 0, _, _, _ => none
 | d + 1, t, xs, ys => match τ t with
   | some ⟨.struct fs, _, ⟨_, true⟩, _⟩ => fs.toList.foldr (fun f r => match r, τ f.type with
     | some b, some ⟨_, sz, _, _⟩ => match takeN (xs.drop f.offset) sz, takeN (ys.drop f.offset) sz with
       | some xs', some ys' => match eqAt d f.type xs' ys' with
         | some c => some (c && b)
         | none => none
       | _, _ => none
     | _, _ => none) (some true)
   | some ⟨.array n e, _, ⟨_, true⟩, _⟩ => match τ e with
     | some ⟨_, sz, _, _⟩ => (List.range n).foldr (fun i r => match r with
       | some b => match takeN (xs.drop (i * sz)) sz, takeN (ys.drop (i * sz)) sz with
         | some xs', some ys' => match eqAt d e xs' ys' with
           | some c => some (c && b)
           | none => none
         | _, _ => none
       | none => none) (some true)
     | none => none
   | some ⟨.int _, _, _, _⟩ => match xs, ys with
     | [.int k a], [.int k' b] => match decide (k = k') with
       | true => some (a == b)
       | false => none
     | _, _ => none
   | some ⟨.bool, _, _, _⟩ => match xs, ys with
     | [.bool a], [.bool b] => some (a == b)
     | _, _ => none
   | some ⟨.string, _, _, _⟩ => match xs, ys with
     | [.string a], [.string b] => some (a.toList == b.toList)
     | _, _ => none
   | _ => none
def cmpT (t : TypeId) : Bool := match τ t with
 | some ⟨.struct _, _, ⟨_, true⟩, _⟩ => true
 | some ⟨.array _ _, _, ⟨_, true⟩, _⟩ => true
 | _ => false
def oEq (op : BinOp) (t : TypeId) (xs ys : List Cell) (K : Tm -> Prop) : Prop :=
 match cmpT τ t, mapO plainCell xs, mapO plainCell ys with
 | true, some xs, some ys => match eqAt τ 50 t xs ys, op with
   | some b, .eql => K (vx (.bool b))
   | some b, .neq => K (vx (.bool (!b)))
   | _, _ => False
 | _, _, _ => False
def oBin (evf : Operand -> Tm) (op : BinOp) (t : TypeId) (xo yo : Operand) (K : Tm -> Prop) : Prop :=
 match plain (evf xo), plain (evf yo) with
 | some (.int k a), some (.int k' b) => match op with
   | .quo => k = k' /\ b ≠ 0 /\ (k = k' -> b ≠ 0 -> K (vx (.int k (k.wrap (a.tdiv b)))))
   | .rem => k = k' /\ b ≠ 0 /\ (k = k' -> b ≠ 0 -> K (vx (.int k (a.tmod b))))
   | op => oPure (pureRun P (do eqGuard op t xo yo (.int k a) (.int k' b); binOp op t (.int k a) (.int k' b))) K
 | some (.string a), some (.string b) => match op with
   | .add => ((a.size + b.size : Nat) : Int) <= IntKind.i64.max /\ K (vx (.string (a ++ b)))
   | op => oPure (pureRun P (do eqGuard op t xo yo (.string a) (.string b); binOp op t (.string a) (.string b))) K
 | some a, some b => oPure (pureRun P (do eqGuard op t xo yo a b; binOp op t a b)) K
 | _, _ => False
def oPtr (op : BinOp) (t : TypeId) (K : Tm -> Prop) : Prop :=
 match τ t with
 | some ⟨.pointer _, _, _, _⟩ => match op with
   | .eql => K (.va (.c (.kb false)))
   | .neq => K (.va (.c (.kb true)))
   | _ => False
 | _ => False
def oLen (ts : Array TypeId) (ty : TypeId) (as : Option (List Va)) (K : Tm -> Prop) : Prop :=
 match ts[0]? with
 | some t => match τ t with
   | some ⟨.slice _, _, _, _⟩ => match as with
     | some [.c (.d (.lst _ n _))] => K (vx (.int .i64 n))
     | some [.c (.osl _ _ _ n)] => K (vx (.int .i64 n))
     | some [.c (.osc _ _ _ n _)] => K (vx (.int .i64 n))
     | some [.c (.d (.v (.slice none n _)))] => K (vx (.int .i64 n))
     | _ => False
   | some _ => match as with
     | some [.c (.d (.v x))] => oPure (pureRun P (Builtin.len_ ts ty #[x])) K
     | _ => False
   | none => False
 | none => False
def oCap (ts : Array TypeId) (ty : TypeId) (as : Option (List Va)) (K : Tm -> Prop) : Prop :=
 match as with
 | some [.c (.osc _ _ _ _ c)] => match ts[0]? with
   | some t => match τ t with
     | some ⟨.slice _, _, _, _⟩ => K (vx (.int .i64 c))
     | _ => False
   | none => False
 | some [.c (.d (.v x))] => oPure (pureRun P (Builtin.cap_ ts ty #[x])) K
 | _ => False
def natO (o : Option Tm) (d : Int) (k : Int -> Prop) : Prop := match o with
 | none => k d
 | some x => match plain x with
   | some (.int _ i) => k i
   | _ => False
def oSlice (t : TypeId) (x : Tm) (lo hi mx : Option Tm) (K : Tm -> Prop) : Prop :=
 match τ t with
 | some ⟨.string, _, _, _⟩ => match x, mx with
   | .va (.c (.d (.v (.string s)))), none => natO lo 0 fun l => natO hi s.size fun h => ((0 <= l /\ l <= h) /\ h <= s.size) /\ (0 <= l -> l <= h -> h <= s.size -> K (vx (.string (s.extract l.toNat h.toNat))))
   | _, _ => False
 | some ⟨.slice e, _, _, _⟩ => match τ e with
   | some ⟨_, sz, _, _⟩ => match x with
     | .va (.c (.d (.lst z n f))) => natO lo 0 fun l => natO hi n fun h => natO mx n fun m => (z = sz /\ (0 <= l /\ l <= h) /\ (h <= m /\ m <= n)) /\ (z = sz -> 0 <= l -> l <= h -> h <= m -> m <= n -> K (.va (.c (.d (.lst z (h - l).toNat fun i => f (l.toNat + i))))))
     | .va (.c (.osl k z o n)) => natO lo 0 fun l => natO hi n fun h => natO mx n fun m => (z = sz /\ (0 <= l /\ l <= h) /\ (h <= m /\ m <= n)) /\ (z = sz -> 0 <= l -> l <= h -> h <= m -> m <= n -> K (.va (.c (.osl k z (o + l.toNat) (h - l).toNat))))
     | .va (.c (.osc k z o n c)) => match mx with
       | none => natO lo 0 fun l => natO hi n fun h => (z = sz /\ (0 <= l /\ l <= h) /\ h <= c) /\ (z = sz -> 0 <= l -> l <= h -> h <= c -> K (.va (.c (.osc k z (o + l.toNat) (h - l).toNat (c - l.toNat)))))
       | some _ => False
     | .va (.c (.d (.v (.slice none 0 0)))) => natO lo 0 fun l => natO hi 0 fun h => natO mx 0 fun m => (l = 0 /\ h = 0 /\ m = 0) /\ (l = 0 -> h = 0 -> m = 0 -> K (.va (.c (.d (.v (.slice none 0 0))))))
     | _ => False
   | none => False
 | _ => False
def oIndex (t : TypeId) (x ix : Tm) (K : Tm -> Prop) : Prop :=
 match τ t with
 | some ⟨.string, _, _, _⟩ => match x, plain ix with
   | .va (.c (.d (.v (.string s)))), some (.int _ i) => (0 <= i /\ i < s.size) /\ (0 <= i -> i < s.size -> K (vx (.int .u8 (byteAt s i.toNat))))
   | _, _ => False
 | some ⟨.array len e, _, _, _⟩ => match τ e with
   | some ⟨de, sz, _, _⟩ => match x, plain ix with
     | .va (.agg cs), some (.int _ i) => (0 <= i /\ i < len) /\ eachAt i (fun j => match takeN (cs.drop (j * sz)) sz with
       | some cs => match mkVa (wantAgg de) cs with
         | some y => K (.va y)
         | none => False
       | none => False) len
     | _, _ => False
   | none => False
 | _ => False
def ownCaps : List Tm -> Option (List (Nat × Nat))
 | [] => some []
 | .va (.c (.own k off)) :: l => match ownCaps l with
   | some ps => some ((k, off) :: ps)
   | none => none
 | _ => none
def sureK (x : Tm) (K : Tm -> Prop) : Prop := match x with
 | .va (.c (.own a b)) => K (.va (.c (.own a b)))
 | .va (.c (.ep a b c d)) => K (.va (.c (.ep a b c d)))
 | .va (.c (.rp cs)) => K (.va (.c (.rp cs)))
 | .va (.c (.fn a b)) => K (.va (.c (.fn a b)))
 | .va (.c (.fv g)) => K (.va (.c (.fv g)))
 | _ => False
def vOp2 (op : Op) (evf : Operand -> Tm) (K : Tm -> Prop) : Prop :=
 match op with
 | .slice t x lo hi mx => match !mx.isSome || hi.isSome with
   | true => oSlice τ t (evf x) (lo.map evf) (hi.map evf) (mx.map evf) K
   | false => False
 | .index t x ix => oIndex τ t (evf x) (evf ix) K
 | .nilCheck x => sureK (evf x) K
 | .makeFunc (.func f) first caps => match first.toList, ownCaps (caps.toList.map evf) with
   | [], some ps => K (.va (.c (.fn f ps)))
   | _, _ => False
 | .makeInterface t x => match plain (evf x) with
   | some a => oPure (pureRun P (Instr.makeInterface t a)) K
   | _ => False
 | _ => False
def bI : List DV -> Int
 | [.v (.int _ i)] => i
 | _ => 0
def bytesOf (n : Nat) (f : Nat -> List DV) : ByteArray := ⟨((List.range n).map fun i => UInt8.ofNat (bI (f i)).toNat).toArray⟩
def bytesK (n : Nat) (f : Nat -> List DV) (K : Tm -> Prop) : Prop := (∀ i, i < n -> f i = [.v (.int .u8 (bI (f i)))]) /\ K (vx (.string (bytesOf n f)))
def isU8 : TypeDesc -> Bool
 | .int .u8 => true
 | _ => false
def isStr : TypeDesc -> Bool
 | .string => true
 | _ => false
def oConvB (h : List (Nat × Blk)) (s t : TypeId) (x : Tm) (K : Tm -> Prop) : Prop :=
 match τ s, τ t with
 | some ⟨.slice e, _, _, _⟩, some ⟨dt, _, _, _⟩ => match τ e with
   | some ⟨de, _, _, _⟩ => match isU8 de && isStr dt with
     | true => match x with
       | .va (.c (.d (.lst z n f))) => z = 1 /\ bytesK n f K
       | .va (.c (.osl k z o len)) => match lookB h k with
         | .row sz n f => (z = 1 /\ sz = 1 /\ o + len <= n) /\ bytesK len (fun i => f (o + i)) K
         | .fzr sz n f => (z = 1 /\ sz = 1 /\ o + len <= n) /\ bytesK len (fun i => f (o + i)) K
         | _ => False
       | _ => False
     | false => False
   | none => False
 | _, _ => False
def plnV : Value -> Bool
 | .int _ _ => true
 | .string _ => true
 | .bool _ => true
 | _ => false
def keyF (xs : List Value) (f : Field) : Bool :=
 match τ f.type with
 | some ⟨d, sz, _, _⟩ => (match d with
   | .int _ => true
   | .string => true
   | .bool => true
   | _ => false) && (match takeN (xs.drop f.offset) sz with
   | some (_ :: _) => true
   | _ => false)
 | none => false
def one1 : List Value -> Bool
 | [.string _] => true
 | _ => false
def kVal : List Value -> Value
 | [.string s] => .string s
 | xs => .agg xs.toArray
def keyOk (kt : TypeId) (xs : List Value) : Bool :=
 match τ kt with
 | some ⟨.struct fs, _, ⟨_, true⟩, _⟩ => !one1 xs && (fs.toList.all (keyF τ xs) && xs.all plnV)
 | _ => false
def keyOf (kt : TypeId) (x : Tm) : Option (List Value) :=
 match x with
 | .va (.agg cs) => match mapO plainCell cs with
   | some xs => match keyOk τ kt xs with
     | true => some xs
     | false => none
   | none => none
 | .va (.c (.d (.v (.string s)))) => match τ kt with
   | some ⟨.string, _, _, _⟩ => some [.string s]
   | _ => none
 | _ => none
def findK (kt : TypeId) (xs : List Value) : List (List Value × Va) -> Nat -> (Option (Nat × List Value × Va) -> Prop) -> Prop
 | [], _, K => K none
 | (ys, v) :: es, i, K => match one1 ys == one1 xs, eqAt τ 50 kt xs ys with
   | true, some b => (b = true -> K (some (i, ys, v))) /\ (b = false -> findK kt xs es (i + 1) K)
   | _, _ => False
def zeroVa : Value -> Va
 | .agg cs => .agg (cs.toList.map fun x => .d (.v x))
 | x => .c (.d (.v x))
def setE : List (List Value × Va) -> Nat -> List Value × Va -> List (List Value × Va)
 | [], _, _ => []
 | _ :: l, 0, x => x :: l
 | y :: l, i + 1, x => y :: setE l i x
def delE : List (List Value × Va) -> Nat -> List (List Value × Va)
 | [], _ => []
 | _ :: l, 0 => l
 | y :: l, i + 1 => y :: delE l i
def fVl {α : Type} : List Value -> (List Value -> α) -> α
 | [], k => k []
 | x :: xs, k => fV x fun x => fVl xs fun xs => k (x :: xs)
def fEs {α : Type} : List (List Value × Va) -> (List (List Value × Va) -> α) -> α
 | [], k => k []
 | (a, v) :: l, k => fVl a fun a => fVa v fun v => fEs l fun l => k ((a, v) :: l)
def okTm (ok : Bool) (x : Va) (b : Bool) : Tm := match ok with
 | true => .tup [x, .c (.kb b)]
 | false => .va x
def oLookup (h : List (Nat × Blk)) (t : TypeId) (m k : Tm) (ok : Bool) (K : Tm -> Prop) : Prop :=
 match τ t, m with
 | some ⟨.map kt et, _, _, _⟩, .va (.c (.mp b)) => match keyOf τ kt k, lookB h b, τ et with
   | some xs, .map es _, some ⟨_, _, _, z⟩ => findK τ kt xs es 0 fun r => match r with
     | some (_, _, v) => K (okTm ok v true)
     | none => K (okTm ok (zeroVa z) false)
   | _, _, _ => False
 | _, _ => False
def vOp (op : Op) (ty : TypeId) (evf : Operand -> Tm) (h : List (Nat × Blk)) (K : Tm -> Prop) : Prop :=
 match op with
 | .move x => K (evf x)
 | .assign x => K (evf x)
 | .pick c a b => match evf c with
   | .va (.c (.kb true)) => K (evf a)
   | .va (.c (.kb false)) => K (evf b)
   | _ => False
 | .load t a => oLoad τ h t (evf a) K
 | .fieldAddr s a f => oFieldAddr τ s (evf a) f K
 | .build t parts => oBuild τ evf t parts.toList K
 | .indexAddr t x ix => oIndexAddr τ t (evf x) (evf ix) K
 | .field t x f => oField τ t (evf x) f K
 | .binOp op t x y _ => match evf x, evf y with
   | .va (.agg xs), .va (.agg ys) => oEq τ op t xs ys K
   | .va (.c (.own _ _)), .va (.c (.d (.v (.pointer none)))) => oPtr τ op t K
   | _, _ => oBin P evf op t x y K
 | .unOp op _ x => match plain (evf x) with
   | some a => oPure (pureRun P (Op.unary op a)) K
   | _ => False
 | .convert s t x => match plain (evf x) with
   | some a => oPure (pureRun P (convert s t a)) K
   | _ => oConvB τ h s t (evf x) K
 | .lookup t x ix ok => oLookup τ h t (evf x) (evf ix) ok K
 | .extract t i => match evf t with
   | .tup xs => match xs[i]? with
     | some y => K (.va y)
     | none => False
   | _ => False
 | .call c => match c.callee with
   | .builtin .len => oLen P τ c.argTypes ty (mapO (fun x => asVa (evf x)) c.args.toList) K
   | .builtin .min => match mapO (fun x => plain (evf x)) c.args.toList with
     | some as => oPure (pureRun P (Builtin.min_ c.argTypes ty as.toArray)) K
     | none => False
   | .builtin .max => match mapO (fun x => plain (evf x)) c.args.toList with
     | some as => oPure (pureRun P (Builtin.max_ c.argTypes ty as.toArray)) K
     | none => False
   | .builtin .cap => oCap P τ c.argTypes ty (mapO (fun x => asVa (evf x)) c.args.toList) K
   | .builtin .real => match mapO (fun x => plain (evf x)) c.args.toList with
     | some as => oPure (pureRun P (Builtin.real_ c.argTypes ty as.toArray)) K
     | none => False
   | .builtin .imag => match mapO (fun x => plain (evf x)) c.args.toList with
     | some as => oPure (pureRun P (Builtin.imag_ c.argTypes ty as.toArray)) K
     | none => False
   | .builtin .complex => match mapO (fun x => plain (evf x)) c.args.toList with
     | some as => oPure (pureRun P (Builtin.complex_ c.argTypes ty as.toArray)) K
     | none => False
   | _ => False
 | op => vOp2 P τ op evf K
def rowOf (ts : List (List DV)) : Nat -> List DV := fun i => ts.getD i []
def zeroRow (zs : List Cell) (n : Nat) : List Cell := (List.range n).map fun i => (zs[i % zs.length]?).getD .top
def rowAt (sz : Nat) (ds : List DV) : Nat -> List DV := fun i => (ds.drop (i * sz)).take sz
def oBuildSlice (st : St) (dst : Option Tmp) (t : TypeId) (len : Nat) (parts : List (Nat × Operand)) (K : St -> Prop) : Prop :=
 match τ t with
 | some ⟨.slice e, _, _, _⟩ => match τ e with
   | some ⟨_, sz, _, z⟩ => match Nat.ble (len * sz) 16777216, Nat.beq (zeroCells' z).length sz, Nat.blt 0 sz, fillRow sz (ev st) parts (zeroRow (zeroCells' z) (len * sz)) with
     | true, true, true, some cs => closeCells st.heap cs fun ds => fDs ds fun ds => newRowK st dst sz len (rowAt sz ds) K
     | _, _, _, _ => False
   | none => False
 | _ => False
def oMakeSlice (st : St) (dst : Option Tmp) (t : TypeId) (l c : Tm) (K : St -> Prop) : Prop :=
 match τ t, plain l, plain c with
 | some ⟨.slice e, _, _, _⟩, some (.int _ l), some (.int _ c) => match τ e with
   | some ⟨_, sz, ⟨by', _⟩, z⟩ => match decide (0 <= l /\ l <= c /\ c * by' <= 281474976710656 /\ c <= 16777216), Nat.beq (zeroCells' z).length sz, Nat.blt 0 sz with
     | true, true, true => closeCells st.heap (zeroRow (zeroCells' z) (c.toNat * sz)) fun ds => fDs ds fun ds => newRowK st dst sz l.toNat (rowAt sz ds) K
     | _, _, _ => False
   | none => False
 | _, _, _ => False
def oBuildFr (h : List (Nat × Blk)) (evf : Operand -> Tm) (t : TypeId) (len : Nat) (parts : List (Nat × Operand)) (K : Tm -> Prop) : Prop :=
 match τ t with
 | some ⟨.slice e, _, _, _⟩ => match τ e with
   | some ⟨_, sz, _, z⟩ => match Nat.ble (len * sz) 16777216, Nat.beq (zeroCells' z).length sz, Nat.blt 0 sz, fillRow sz evf parts (zeroRow (zeroCells' z) (len * sz)) with
     | true, true, true, some cs => closeCells h cs fun ds => fDs ds fun ds => K (.va (.c (.d (.lst sz len (rowAt sz ds)))))
     | _, _, _, _ => False
   | none => False
 | _ => False
def newsOf (h : List (Nat × Blk)) (k0 : Option Nat) (sz : Nat) (x : Va) (K : Nat -> (Nat -> List DV) -> Prop) : Prop :=
 match x with
 | .c (.d (.lst z n g)) => z = sz /\ (z = sz -> K n g)
 | .c (.d (.v (.slice none 0 0))) => K 0 (fun _ => [])
 | .c (.osl k z o len) => match lookB h k, k0 with
   | .row z' n g, some k0 => match Nat.beq k k0, Nat.beq z' sz with
     | false, true => (z = sz /\ o + len <= n) /\ (z = sz -> o + len <= n -> K len fun i => g (o + i))
     | _, _ => False
   | .row z' n g, none => match Nat.beq z' sz with
     | true => (z = sz /\ o + len <= n) /\ (z = sz -> o + len <= n -> K len fun i => g (o + i))
     | _ => False
   | .fzr z' n g, _ => match Nat.beq z' sz with
     | true => (z = sz /\ o + len <= n) /\ (z = sz -> o + len <= n -> K len fun i => g (o + i))
     | _ => False
   | _, _ => False
 | _ => False
def appRow (n : Nat) (f g : Nat -> List DV) : Nat -> List DV := fun i => if i < n then f i else g (i - n)
def oAppend (st : St) (dst : Option Tmp) (ts : List TypeId) (as : Option (List Va)) (K : St -> Prop) : Prop :=
 match ts, as, st with
 | [t, u], some [s, x], ⟨tms, h, n, m⟩ => match τ t, τ u with
   | some ⟨.slice e, _, _, _⟩, some ⟨.slice _, _, _, _⟩ => match τ e with
     | some ⟨_, sz, ⟨by', _⟩, z⟩ => match Nat.beq (zeroCells' z).length sz, Nat.blt 0 sz, Nat.blt 0 by' with
       | true, true, true => match s with
         | .c (.d (.v (.slice none 0 0))) => newsOf h none sz x fun q g => q * by' <= 140737488355328 /\ putK ⟨tms, (n, .row sz q g) :: h, n + 1, m⟩ dst (.va (.c (.osl n sz 0 q))) K
         | .c (.osl k z o len) => match lookB h k, Nat.beq o 0 with
           | .row z' ln f, true => match Nat.beq z' sz with
             | true => (z = sz /\ len <= ln) /\ newsOf h (some k) sz x fun q g => (len + q) * by' <= 140737488355328 /\
               putK ⟨tms, (n, .row sz (len + q) (appRow len f g)) :: (k, .gone) :: h, n + 1, m⟩ dst (.va (.c (.osl n sz 0 (len + q)))) K
             | false => False
           | _, _ => False
         | _ => False
       | _, _, _ => False
     | none => False
   | some ⟨.slice e, _, _, _⟩, some ⟨.int _, _, _, _⟩ => match τ e with
     | some ⟨_, sz, ⟨by', _⟩, z⟩ => match Nat.beq (zeroCells' z).length sz, Nat.blt 0 sz, Nat.blt 0 by' with
       | true, true, true => match s, x with
         | .c (.d (.v (.slice none 0 0))), .c (.d (.v (.int .i64 q))) => closeCells h (zeroCells' z) fun ds => (0 <= q /\ q * by' <= 140737488355328) /\
           (0 <= q -> putK ⟨tms, (n, .row sz q.toNat (fun _ => ds)) :: h, n + 1, m⟩ dst (.va (.c (.osl n sz 0 q.toNat))) K)
         | _, _ => False
       | _, _, _ => False
     | none => False
   | _, _ => False
 | _, _, _ => False
def emptyApp : List Va -> Bool
 | [.c (.d (.v (.slice none 0 0))), .c (.d (.v (.slice none 0 0)))] => true
 | [.c (.d (.v (.slice none 0 0))), .c (.osl _ _ _ 0)] => true
 | [.c (.d (.v (.slice none 0 0))), .c (.d (.lst _ 0 _))] => true
 | _ => false
def oAppNil (st : St) (dst : Option Tmp) (ts : List TypeId) (K : St -> Prop) : Prop :=
 match ts with
 | [t, u] => match τ t, τ u with
   | some ⟨.slice e, _, _, _⟩, some ⟨.slice _, _, _, _⟩ => match τ e with
     | some _ => putK st dst (vx (.slice none 0 0)) K
     | none => False
   | _, _ => False
 | _ => False
def clrRow (f : Nat -> List DV) (o len : Nat) (ds : List DV) : Nat -> List DV := fun i => if o <= i /\ i < o + len then ds else f i
def oClear (st : St) (dst : Option Tmp) (ts : List TypeId) (as : Option (List Va)) (K : St -> Prop) : Prop :=
 match ts, as, st with
 | [t], some [.c (.osl k z o len)], ⟨tms, h, n, m⟩ => match τ t, lookB h k with
   | some ⟨.slice e, _, _, _⟩, .row sz ln f => match τ e with
     | some ⟨_, sz', _, zv⟩ => match Nat.beq sz z, Nat.beq sz sz', Nat.beq (zeroCells' zv).length sz with
       | true, true, true => closeCells h (zeroCells' zv) fun ds => o + len <= ln /\ (o + len <= ln -> putK ⟨tms, (k, .row sz ln (clrRow f o len ds)) :: h, n, m⟩ dst (.tup []) K)
       | _, _, _ => False
     | none => False
   | _, _ => False
 | _, _, _ => False
def unC : Va -> Va
 | .c (.osc k z o len _) => .c (.osl k z o len)
 | x => x
def srcOf (h : List (Nat × Blk)) (sz : Nat) (x : Va) (lim : Nat) (K : Nat -> (Nat -> List DV) -> Prop) : Prop :=
 match x with
 | .c (.d (.lst z n g)) => z = sz /\ (z = sz -> K (min n lim) g)
 | .c (.osl k z o len) => match lookB h k with
   | .row z' n g => match Nat.beq z' sz with
     | true => (z = sz /\ o + min len lim <= n) /\ (z = sz -> o + min len lim <= n -> K (min len lim) fun i => g (o + i))
     | _ => False
   | _ => False
 | _ => False
def cpyRow (f : Nat -> List DV) (o q : Nat) (g : Nat -> List DV) : Nat -> List DV := fun i => if o <= i /\ i < o + q then g (i - o) else f i
def oCopy (st : St) (dst : Option Tmp) (ts : List TypeId) (as : Option (List Va)) (K : St -> Prop) : Prop :=
 match ts, as, st with
 | [t, _], some [.c (.osl k z o len), x], ⟨tms, h, n, m⟩ => match τ t, lookB h k with
   | some ⟨.slice e, _, _, _⟩, .row sz ln f => match τ e with
     | some ⟨_, sz', _, _⟩ => match Nat.beq sz z, Nat.beq sz sz', Nat.blt 0 sz with
       | true, true, true => srcOf h sz x len fun q g => o <= ln /\ (o <= ln -> putK ⟨tms, (k, .row sz (max ln (o + q)) (cpyRow f o q g)) :: h, n, m⟩ dst (vx (.int .i64 q)) K)
       | _, _, _ => False
     | none => False
   | _, _ => False
 | _, _, _ => False
def oAppMake (st : St) (dst : Option Tmp) (ts : List TypeId) (k z o len c : Nat) (q : Int) (K : St -> Prop) : Prop :=
 match ts, st with
 | [t, u], ⟨tms, h, n, m⟩ => match τ t, τ u, lookB h k with
   | some ⟨.slice e, _, _, _⟩, some ⟨.int _, _, _, _⟩, .row sz ln f => match τ e with
     | some ⟨_, sz', ⟨by', _⟩, zv⟩ => match Nat.beq sz z, Nat.beq sz sz', Nat.beq (zeroCells' zv).length sz, Nat.blt 0 sz, Nat.blt 0 by' with
       | true, true, true, true, true => closeCells h (zeroCells' zv) fun ds => (0 <= q /\ o + len <= ln /\ (c : Int) < len + q /\ (len + q) * by' <= 140737488355328) /\
         (0 <= q -> putK ⟨tms, (n, .row sz (len + q.toNat) (appRow len (fun i => f (o + i)) fun _ => ds)) :: h, n + 1, m⟩ dst (.va (.c (.osl n sz 0 (len + q.toNat)))) K)
       | _, _, _, _, _ => False
     | none => False
   | _, _, _ => False
 | _, _ => False
def nilOf (x : Tm) (K : (Bool -> Prop) -> Prop) : Prop := match x with
 | .va (.c (.d (.lst _ n _))) => K (fun b => b = true -> n = 0)
 | .va (.c (.osl _ _ _ n)) => K (fun b => b = true -> n = 0)
 | .va (.c (.d (.v (.slice none 0 0)))) => K (fun b => b = true)
 | _ => False
def oNil (st : St) (dst : Option Tmp) (op : BinOp) (t : TypeId) (x : Tm) (K : St -> Prop) : Prop :=
 match τ t, op with
 | some ⟨.slice _, _, _, _⟩, .eql => nilOf x fun ok => ∀ b, ok b -> putK st dst (vx (.bool b)) K
 | some ⟨.slice _, _, _, _⟩, .neq => nilOf x fun ok => ∀ b, ok b -> putK st dst (vx (.bool (!b))) K
 | _, _ => False
def isNilC : Operand -> Bool
 | .const (.slice none 0 0) => true
 | _ => false
def oRange (st : St) (dst : Option Tmp) (t : TypeId) (x : Tm) (K : St -> Prop) : Prop :=
 match τ t, x, st with
 | some ⟨.string, _, _, _⟩, .va (.c (.d (.v (.string s)))), ⟨ts, h, n, m⟩ => putK ⟨ts, (n, .it s 0) :: h, n + 1, m⟩ dst (.va (.c (.own n 0))) K
 | _, _, _ => False
def oNext (st : St) (dst : Option Tmp) (it : Tm) (b : Bool) (K : St -> Prop) : Prop :=
 match it, b, st with
 | .va (.c (.own k off)), true, ⟨ts, h, n, m⟩ => match Nat.beq off 0, lookB h k with
   | true, .it s p => (p < s.size -> putK ⟨ts, (k, .it s (p + (Utf8.decode s p).2)) :: h, n, m⟩ dst (.tup [.c (.kb true), .c (.d (.v (.int .i64 p))), .c (.d (.v (.int .i32 (Utf8.decode s p).1)))]) K) /\
     (¬ p < s.size -> putK ⟨ts, h, n, m⟩ dst (.tup [.c (.kb false)]) K)
   | _, _ => False
 | _, _, _ => False
def oMakeMap (st : St) (dst : Option Tmp) (K : St -> Prop) : Prop :=
 match st with
 | ⟨ts, h, n, m⟩ => putK ⟨ts, (n, .map [] [0]) :: h, n + 1, m⟩ dst (.va (.c (.mp n))) K
def bcNew : List Nat -> List Nat
 | [] => []
 | c :: bs => (c + 1) :: (bs ++ [c])
def bcDel : List Nat -> Nat -> List Nat
 | [], _ => []
 | c :: bs, i => c :: bs.eraseIdx i
def bcAt : List Nat -> Nat -> Nat
 | [], _ => 0
 | _ :: bs, i => bs.getD i 0
def bcClock : List Nat -> Nat
 | [] => 0
 | c :: _ => c
def idxI (s : Int) : List Nat -> Nat -> Option Nat
 | [], _ => none
 | b :: bs, i => match decide ((b : Int) = s) with
   | true => some i
   | false => idxI s bs (i + 1)
def setV : List (List Value × Va) -> Nat -> Va -> List (List Value × Va)
 | [], _, _ => []
 | (k, _) :: l, 0, v => (k, v) :: l
 | y :: l, i + 1, v => y :: setV l i v
def oMapUpd (st : St) (dst : Option Tmp) (t : TypeId) (m k x : Tm) (K : St -> Prop) : Prop :=
 match τ t, m, st with
 | some ⟨.map kt _, _, _, _⟩, .va (.c (.mp b)), ⟨ts, h, n, l⟩ => match keyOf τ kt k, lookB h b, x with
   | some xs, .map es bc, .va v => findK τ kt xs es 0 fun r => match r with
     | some (i, ys, _) => ys = xs /\ fEs (setE es i (xs, v)) fun es => putK ⟨ts, (b, .map es bc) :: h, n, l⟩ dst undT K
     | none => fEs (es ++ [(xs, v)]) fun es => putK ⟨ts, (b, .map es (bcNew bc)) :: h, n, l⟩ dst undT K
   | _, _, _ => False
 | _, _, _ => False
def oDelete (st : St) (dst : Option Tmp) (ts : List TypeId) (as : Option (List Va)) (K : St -> Prop) : Prop :=
 match ts, as, st with
 | t :: _, some [.c (.mp b), k], ⟨tms, h, n, l⟩ => match τ t with
   | some ⟨.map kt _, _, _, _⟩ => match keyOf τ kt (.va k), lookB h b with
     | some xs, .map es bc => findK τ kt xs es 0 fun r => match r with
       | some (i, _, _) => fEs (delE es i) fun es => putK ⟨tms, (b, .map es (bcDel bc i)) :: h, n, l⟩ dst (.tup []) K
       | none => putK ⟨tms, (b, .map es bc) :: h, n, l⟩ dst (.tup []) K
     | _, _ => False
   | _ => False
 | _, _, _ => False
def oMapEntry (st : St) (dst : Option Tmp) (t : TypeId) (m k : Tm) (K : St -> Prop) : Prop :=
 match τ t, m, st with
 | some ⟨.map kt et, _, _, _⟩, .va (.c (.mp b)), ⟨ts, h, n, l⟩ => match keyOf τ kt k, lookB h b, τ et with
   | some xs, .map es bc, some ⟨_, _, _, z⟩ => findK τ kt xs es 0 fun r => match r with
     | some (i, ys, v) => ys = xs /\ putK ⟨ts, (b, .map es bc) :: h, n, l⟩ dst (.tup [v, .c (.d (.v (.int .i64 (bcAt bc i))))]) K
     | none => fEs (es ++ [(xs, zeroVa z)]) fun es => putK ⟨ts, (b, .map es (bcNew bc)) :: h, n, l⟩ dst (.tup [zeroVa z, .c (.d (.v (.int .i64 (bcClock bc))))]) K
   | _, _, _ => False
 | _, _, _ => False
def oEntryStore (st : St) (dst : Option Tmp) (m s x : Tm) (K : St -> Prop) : Prop :=
 match m, plain s, x, st with
 | .va (.c (.mp b)), some (.int _ s), .va v, ⟨ts, h, n, l⟩ => match lookB h b with
   | .map es (c :: bs) => match idxI s bs 0 with
     | some i => fEs (setV es i v) fun es => putK ⟨ts, (b, .map es (c :: bs)) :: h, n, l⟩ dst undT K
     | none => False
   | _ => False
 | _, _, _, _ => False
def frCell {α : Type} (h : List (Nat × Blk)) (c : Cell) (K : List (Nat × Blk) -> α) : α :=
 match c with
 | .osl k _ _ _ => match lookB h k with
   | .row sz n f => K ((k, .fzr sz n f) :: h)
   | _ => K h
 | _ => K h
def frCells {α : Type} : List (Nat × Blk) -> List Cell -> (List (Nat × Blk) -> α) -> α
 | h, [], K => K h
 | h, c :: cs, K => frCell h c fun h => frCells h cs K
def oStoreF (st : St) (dst : Option Tmp) (t : TypeId) (p x : Tm) (K : St -> Prop) : Prop :=
 match x, p, st with
 | .va y, .va (.c (.ep k z i off)), ⟨ts, h, n, l⟩ => frCells h y.cells fun h => oStore τ ⟨ts, h, n, l⟩ dst t (.va (.c (.ep k z i off))) (.va y) K
 | x, p, st => oStore τ st dst t p x K
def oBuildSliceF (st : St) (dst : Option Tmp) (t : TypeId) (len : Nat) (parts : List (Nat × Operand)) (K : St -> Prop) : Prop :=
 match τ t with
 | some ⟨.slice e, _, _, _⟩ => match τ e with
   | some ⟨_, sz, _, z⟩ => match fillRow sz (ev st) parts (zeroRow (zeroCells' z) (len * sz)), st with
     | some cs, ⟨ts, h, n, m⟩ => frCells h cs fun h => oBuildSlice τ ⟨ts, h, n, m⟩ dst t len parts K
     | none, _ => False
   | none => False
 | _ => False
def isSliceT (t : TypeId) : Bool := match τ t with
 | some ⟨.slice _, _, _, _⟩ => true
 | _ => false
def strRow (b : ByteArray) : Nat -> List DV := fun i => [.v (.int .u8 (byteAt b i))]
def oConvS (st : St) (dst : Option Tmp) (s t : TypeId) (x : Tm) (K : St -> Prop) : Prop :=
 match τ s, τ t with
 | some ⟨ds, _, _, _⟩, some ⟨.slice e, _, _, _⟩ => match τ e with
   | some ⟨de, _, _, _⟩ => match isU8 de, x, st with
     | true, .va (.c (.d (.v (.string b)))), st => match isStr ds with
       | true => putK st dst (.va (.c (.d (.lst 1 b.size (strRow b))))) K
       | false => False
     | true, .va (.c (.osl k z o len)), ⟨ts, h, n, m⟩ => match Nat.beq s t, Nat.blt 0 len, lookB h k with
       | true, true, .row sz ln f => putK ⟨ts, (k, .fzr sz ln f) :: h, n, m⟩ dst (.va (.c (.osl k z o len))) K
       | _, _, _ => False
     | _, _, _ => False
   | none => False
 | _, _ => False
def fnOf (x : Tm) : Tm := match x with
 | .va (.c (.d (.v (.func (.func f) ⟨[]⟩ ⟨[]⟩)))) => .va (.c (.fn f []))
 | x => x
def oBound (st : St) (dst : Option Tmp) (f : Nat) (x : Tm) (K : St -> Prop) : Prop := match x with
 | .va (.c (.own k off)) => putK st dst (.va (.c (.fb f k off))) K
 | _ => False
def vcOp (calls : Nat -> List Va -> St -> (Tm -> St -> Prop) -> Prop) (o : Oper) (st : St) (K : St -> Prop) : Prop :=
 match o.op with
 | .pick c a b =>
   match c with
   | .tmp s => onBool st s fun st t => match t with
     | some true => putK st o.dst (ev st a) K
     | some false => putK st o.dst (ev st b) K
     | none => False
   | _ => False
 | .alloc e => oAlloc τ st o.dst e K
 | .box _ x => oBox st o.dst (ev st x) K
 | .store t a x => oStoreF τ st o.dst t (ev st a) (ev st x) K
 | .buildSlice t len parts => oBuildSliceF τ st o.dst t len parts.toList K
 | .range t x => oRange τ st o.dst t (ev st x) K
 | .convert s t x => match isSliceT τ t with
   | true => oConvS τ st o.dst s t (ev st x) K
   | false => vOp P τ (.convert s t x) o.type (ev st) st.heap fun x => putK st o.dst x K
 | .next it b => oNext st o.dst (ev st it) b K
 | .makeMap _ none => oMakeMap st o.dst K
 | .makeFunc (.func f) ⟨[x]⟩ ⟨[]⟩ => oBound st o.dst f (ev st x) K
 | .mapEntry t m k => oMapEntry τ st o.dst t (ev st m) (ev st k) K
 | .makeSlice t l c => oMakeSlice τ st o.dst t (ev st l) (ev st c) K
 | .entryStore _ m s x => oEntryStore st o.dst (ev st m) (ev st s) (ev st x) K
 | .mapUpdate t m k x => oMapUpd τ st o.dst t (ev st m) (ev st k) (ev st x) K
 | .call c => match c.callee with
   | .value f => match fnOf (ev st f), mapO (fun x => asVa (ev st x)) c.args.toList with
     | .va (.c (.fn f caps)), some as => fVas (as ++ caps.map fun p => .c (.own p.1 p.2)) fun as => calls f as st fun r st => putK st o.dst r K
     | .va (.c (.fb g k off)), some as => fVas (.c (.own k off) :: as) fun as => calls g as st fun r st => putK st o.dst r K
     | .va (.c (.fv g)), some as => closeVas st.heap as fun cs => match g cs with
       | some ⟨pre, r⟩ => pre /\ (pre -> putK st o.dst (ctTm r) K)
       | none => False
     | _, _ => False
   | .builtin .append => match mapO (fun x => asVa (ev st x)) c.args.toList with
     | some [.c (.osc k z o' len cap), .c (.d (.v (.int .i64 q)))] => oAppMake τ st o.dst c.argTypes.toList k z o' len cap q K
     | some as => match emptyApp as with
       | true => oAppNil τ st o.dst c.argTypes.toList K
       | false => oAppend τ st o.dst c.argTypes.toList (some (as.map unC)) K
     | none => False
   | .builtin .copy => match mapO (fun x => asVa (ev st x)) c.args.toList with
     | some as => oCopy τ st o.dst c.argTypes.toList (some (as.map unC)) K
     | none => False
   | .builtin .delete => oDelete τ st o.dst c.argTypes.toList (mapO (fun x => asVa (ev st x)) c.args.toList) K
   | .builtin .clear => oClear τ st o.dst c.argTypes.toList (mapO (fun x => asVa (ev st x)) c.args.toList) K
   | _ => vOp P τ (.call c) o.type (ev st) st.heap fun x => putK st o.dst x K
 | .binOp op t x y ty => match isNilC y with
   | true => oNil τ st o.dst op t (ev st x) K
   | false => vOp P τ (.binOp op t x y ty) o.type (ev st) st.heap fun x => putK st o.dst x K
 | op => vOp P τ op o.type (ev st) st.heap fun x => putK st o.dst x K
def dstOf (all : List Oper) (j : Nat) : Option Tmp :=
 match all[j]? with
 | some ⟨d, _, _, _, _, _⟩ => d
 | none => none
def vcOps (calls : Nat -> List Va -> St -> (Tm -> St -> Prop) -> Prop) (all : List Oper) (l : List Oper) : St -> (St -> Prop) -> Prop :=
 List.rec (motive := fun _ => St -> (St -> Prop) -> Prop) (fun st K => K st) (fun o _ ih st K =>
  match o.guard with
  | none => vcOp P τ calls o st fun st => ih st K
  | some (j, want) =>
    match dstOf all j with
    | none => False
    | some s => onBool st s fun st b =>
      match b == some want with
      | true => vcOp P τ calls o st fun st => ih st K
      | false => putK st o.dst undT fun st => ih st K) l
theorem vcOps_cons (calls : Nat -> List Va -> St -> (Tm -> St -> Prop) -> Prop) (all : List Oper) (o : Oper) (rest : List Oper) (st : St) (K : St -> Prop) : vcOps P τ calls all (o :: rest) st K =
 (match o.guard with
 | none => vcOp P τ calls o st fun st => vcOps P τ calls all rest st K
 | some (j, want) =>
   match dstOf all j with
   | none => False
   | some s => onBool st s fun st b =>
     match b == some want with
     | true => vcOp P τ calls o st fun st => vcOps P τ calls all rest st K
     | false => putK st o.dst undT fun st => vcOps P τ calls all rest st K) := rfl
end
inductive Loc where
 | virt
 | at (b m : Nat)
abbrev Psi := Nat -> Option Loc
def Scalar : Value -> Prop
 | .agg _ => False
 | .tuple _ => False
 | _ => True
def All2 {α β : Type} (R : α -> β -> Prop) : List α -> List β -> Prop
 | [], [] => True
 | x :: xs, y :: ys => R x y /\ All2 R xs ys
 | _, _ => False
theorem All2.mono {α β : Type} {R R' : α -> β -> Prop} (h : ∀ x y, R x y -> R' x y) : ∀ {xs ys}, All2 R xs ys -> All2 R' xs ys
 | [], [], _ => trivial
 | _ :: _, _ :: _, ⟨a, b⟩ => ⟨h _ _ a, All2.mono h b⟩
theorem All2.length {α β : Type} {R : α -> β -> Prop} : ∀ {xs ys}, All2 R xs ys -> xs.length = ys.length
 | [], [], _ => rfl
 | _ :: _, _ :: _, ⟨_, b⟩ => by simp [All2.length b]
theorem All2.append {α β : Type} {R : α -> β -> Prop} : ∀ {xs ys xs' ys'}, All2 R xs ys -> All2 R xs' ys' -> All2 R (xs ++ xs') (ys ++ ys')
 | [], [], _, _, _, h => h
 | _ :: _, _ :: _, _, _, ⟨a, b⟩, h => ⟨a, All2.append b h⟩
theorem All2.drop {α β : Type} {R : α -> β -> Prop} : ∀ {xs ys} (n : Nat), All2 R xs ys -> All2 R (xs.drop n) (ys.drop n)
 | _, _, 0, h => by simpa using h
 | [], [], _ + 1, _ => by simp [All2]
 | _ :: _, _ :: _, n + 1, ⟨_, b⟩ => by simpa using All2.drop n b
theorem All2.map_left {α β γ : Type} {R : α -> β -> Prop} {R' : γ -> β -> Prop} (f : α -> γ) (h : ∀ x y, R x y -> R' (f x) y) : ∀ {xs ys}, All2 R xs ys -> All2 R' (xs.map f) ys
 | [], [], _ => trivial
 | _ :: _, _ :: _, ⟨a, b⟩ => ⟨h _ _ a, All2.map_left f h b⟩
theorem All2.get {α β : Type} {R : α -> β -> Prop} : ∀ {xs ys} (i : Nat), All2 R xs ys -> ∀ x, xs[i]? = some x -> ∃ y, ys[i]? = some y /\ R x y
 | [], [], _, _, x, h => by simp at h
 | a :: _, b :: _, 0, ⟨r, _⟩, x, h => ⟨b, by simp, by simp at h; exact h ▸ r⟩
 | _ :: _, _ :: _, i + 1, ⟨_, r⟩, x, h => by simpa using All2.get i r x (by simpa using h)
theorem All2.of_get {α β : Type} {R : α -> β -> Prop} : ∀ {xs : List α} {ys : List β}, xs.length = ys.length -> (∀ (i : Nat) (x : α) (y : β), xs[i]? = some x -> ys[i]? = some y -> R x y) -> All2 R xs ys
 | [], [], _, _ => trivial
 | [], _ :: _, h, _ => by simp at h
 | _ :: _, [], h, _ => by simp at h
 | a :: xs, b :: ys, h, g => ⟨g 0 a b (by simp) (by simp), All2.of_get (by simpa using h) fun i x y hx hy => g (i + 1) x y (by simpa using hx) (by simpa using hy)⟩
inductive RepD (S : Nat -> Prop) (w : World) : DV -> Value -> Prop
 | v {x : Value} : Scalar x -> RepD S w (.v x) x
 | nil {sz : Nat} {f : Nat -> List DV} {a : Option Addr} {c : Nat} : RepD S w (.lst sz 0 f) (.slice a 0 c)
 | lst {sz n : Nat} {f : Nat -> List DV} {b off c : Nat} (g : Nat -> Nat -> Value) : S b -> (∀ i, i < n -> (f i).length = sz) ->
    (∀ i j, i < n -> j < sz -> w.cell? ⟨b, off + i * sz + j, none⟩ = some (g i j)) ->
    (∀ i j, i < n -> j < sz -> RepD S w ((f i).getD j (.v (.bool false))) (g i j)) -> n <= c -> RepD S w (.lst sz n f) (.slice (some ⟨b, off, none⟩) n c)
theorem RepD.scalar {S : Nat -> Prop} {w : World} {x : DV} {v : Value} (h : RepD S w x v) : Scalar v := by
 cases h with
 | v h => exact h
 | nil => trivial
 | lst => trivial
def Later (S : Nat -> Prop) (w : World) (S' : Nat -> Prop) (w' : World) : Prop := (∀ b, S b -> S' b) /\ ∀ b, S b -> w'.heap[b]? = w.heap[b]?
theorem Later.refl (S : Nat -> Prop) (w : World) : Later S w S w := ⟨fun _ h => h, fun _ _ => rfl⟩
theorem Later.trans {S S' S'' : Nat -> Prop} {w w' w'' : World} (h : Later S w S' w') (h' : Later S' w' S'' w'') : Later S w S'' w'' :=
 ⟨fun b hb => h'.1 b (h.1 b hb), fun b hb => (h'.2 b (h.1 b hb)).trans (h.2 b hb)⟩
theorem cell_of_heap {w w' : World} {b off : Nat} (h : w'.heap[b]? = w.heap[b]?) : w'.cell? ⟨b, off, none⟩ = w.cell? ⟨b, off, none⟩ := by
 simp only [World.cell?, h]
theorem RepD.later {S S' : Nat -> Prop} {w w' : World} {x : DV} {v : Value} (h : RepD S w x v) (l : Later S w S' w') : RepD S' w' x v := by
 induction h with
 | v h => exact .v h
 | nil => exact .nil
 | lst g hS hl hc _ hn ih => exact .lst g (l.1 _ hS) hl (fun i j hi hj => by rw [cell_of_heap (l.2 _ hS)]; exact hc i j hi hj) ih hn
def RepCv (S : Nat -> Prop) (w : World) : Cv -> Value -> Prop
 | .c x, v => RepD S w x v
 | .agg xs, v => ∃ arr : Array Value, v = .agg arr /\ All2 (RepD S w) xs arr.toList
def RepCt (S : Nat -> Prop) (w : World) : Ct -> Value -> Prop
 | .va x, v => RepCv S w x v
 | .tup xs, v => ∃ arr : Array Value, v = .tuple arr /\ All2 (RepCv S w) xs arr.toList
structure Ext0 (S : Nat -> Prop) (w : World) (S' : Nat -> Prop) (w' : World) : Prop where
 os : w'.os = w.os
 tape : w'.tape = w.tape
 output : w'.output = w.output
 grow : w.heap.size <= w'.heap.size
 old : ∀ b, b < w.heap.size -> w'.heap[b]? = w.heap[b]?
 sub : ∀ b, S b -> S' b
 newS : ∀ b, S' b -> S b \/ w.heap.size <= b
 sdom : ∀ b, S' b -> b < w'.heap.size
structure gOk (name : String) (arr : Array Value) : Prop where
 pow : name = "internal/strconv.uint64pow10" -> arr = ((List.range 20).map fun i => Value.int .u64 ((10 ^ i : Nat) : Int)).toArray
 max : name = "internal/bytealg.MaxLen" -> ∃ m, arr = #[.int .i64 m]
 err : name = "strconv.ErrRange" \/ name = "strconv.ErrSyntax" \/ name = "internal/strconv.ErrRange" \/ name = "internal/strconv.ErrSyntax" -> ∃ ev, arr = #[ev] /\ (ev = .nilIface \/ ∃ te pe, ev = .iface te pe)
def gNames : List String := []
def GInv (P : Program) (S : Nat -> Prop) (w : World) : Prop := ∀ g gl, P.globals[g]? = some gl -> gl.name ∈ gNames -> S g /\ ∃ arr e fr, w.heap[g]? = some (.cells arr e fr) /\ gOk gl.name arr
structure SOk (P : Program) (S : Nat -> Prop) (w : World) : Prop where
 lt : ∀ b, S b -> b < w.heap.size
 glob : GInv P S w
instance {P : Program} {S : Nat -> Prop} {w : World} : CoeFun (SOk P S w) (fun _ => ∀ b, S b -> b < w.heap.size) := ⟨SOk.lt⟩
theorem GInv.later {P : Program} {S S' : Nat -> Prop} {w w' : World} (h : GInv P S w) (l : Later S w S' w') : GInv P S' w' := fun g gl hg hn => by
 obtain ⟨h1, arr, e, fr, h2, h3⟩ := h g gl hg hn
 exact ⟨l.1 _ h1, arr, e, fr, by rw [l.2 _ h1]; exact h2, h3⟩
theorem SOk.later {P : Program} {S S' : Nat -> Prop} {w w' : World} (h : SOk P S w) (l : Later S w S' w') (hs : ∀ b, S' b -> b < w'.heap.size) : SOk P S' w' := ⟨hs, h.glob.later l⟩
theorem GInv.of_none {P : Program} {S : Nat -> Prop} {w : World} (h0 : P.globals.toList.all (fun gl => !gNames.contains gl.name) = true) : GInv P S w := fun g gl hg hn => by
 have h1 : gl ∈ P.globals.toList := by
  obtain ⟨hi, e⟩ := Array.getElem?_eq_some_iff.1 hg
  rw [<- e]; simp
 have h2 := List.all_eq_true.1 h0 gl h1
 have h3 : gNames.contains gl.name = true := List.contains_iff_mem.2 hn
 rw [h3] at h2; cases h2
def Callable (P : Program) (f : Nat) : Prop := ∃ fn c, P.funcs[f]? = some fn /\ fn.body = some c /\ (fn.name == "runtime.NumGoroutine") = false
theorem run_enter {P : Program} {w : World} {f : Nat} (hc : Callable P f) (args : Array Value) : (callFunc f args).run P w = .ok (.enter f args) w := by
 obtain ⟨fn, c, h1, h2, h3⟩ := hc
 simp only [callFunc, Sem.run_bind, run_program, Result.andThen_ok, h1, h3, h2]
 rfl
def Runs (P : Program) (f : Nat) (vals : Array Value) (w : World) (R : Ending -> World -> Prop) : Prop :=
 (Callable P f /\ Calls P f vals w R) \/ ∃ v w', (callFunc f vals).run P w = .ok (.value v) w' /\ R (.returned v) w'
theorem Runs.mono {P : Program} {f : Nat} {vals : Array Value} {w : World} {R R' : Ending -> World -> Prop} (h : Runs P f vals w R) (hr : ∀ e w', R e w' -> R' e w') : Runs P f vals w R' := by
 rcases h with ⟨h1, h2⟩ | ⟨v, w', h1, h2⟩
 . exact .inl ⟨h1, h2.mono hr⟩
 . exact .inr ⟨v, w', h1, hr _ _ h2⟩
theorem Runs.calls {P : Program} {f : Nat} {vals : Array Value} {w : World} {R : Ending -> World -> Prop} (h : Runs P f vals w R) (hc : Callable P f) : Calls P f vals w R := by
 rcases h with ⟨_, h2⟩ | ⟨v, w', h1, _⟩
 . exact h2
 . rw [run_enter hc] at h1; simp at h1
def FnOk (P : Program) (g : List Cv -> Option Gs) (x : Value) (S : Nat -> Prop) (w : World) : Prop :=
 ∃ f first caps, x = .func (.func f) first caps /\
  ∀ S' w', Later S w S' w' -> SOk P S' w' -> ∀ as pre r, g as = some ⟨pre, r⟩ -> pre -> ∀ vals, All2 (RepCv S' w') as vals ->
   Runs P f (first ++ vals.toArray ++ caps) w' fun e w'' => ∃ v S'', e = .returned v /\ RepCt S'' w'' r v /\ Ext0 S' w' S'' w''
def RepC (P : Program) (ψ : Psi) (S : Nat -> Prop) (w : World) : Cell -> Value -> Prop
 | .top, _ => True
 | .und, x => x = undef
 | .kb b, x => x = .bool b
 | .d y, x => RepD S w y x
 | .own k off, x => ∃ b m, ψ k = some (.at b m) /\ x = .pointer (some ⟨b, off, none⟩)
 | .osl k sz o len, x => (ψ k = some .virt /\ len = 0 /\ ∃ a, x = .slice a 0 0) \/
    ∃ b m c off, ψ k = some (.at b m) /\ x = .slice (some ⟨b, off, none⟩) len c /\ len <= c /\ (0 < c -> off = o * sz /\ (o + c) * sz <= m)
 | .osc k sz o len c, x => (ψ k = some .virt /\ len = 0 /\ c = 0 /\ ∃ a, x = .slice a 0 0) \/
    ∃ b m off, ψ k = some (.at b m) /\ x = .slice (some ⟨b, off, none⟩) len c /\ len <= c /\ (0 < c -> off = o * sz /\ (o + c) * sz <= m)
 | .ep k sz i off, x => ∃ b m, ψ k = some (.at b m) /\ x = .pointer (some ⟨b, i * sz + off, none⟩)
 | .ap k base _ i, x => ∃ b m, ψ k = some (.at b m) /\ x = .pointer (some ⟨b, base + i, none⟩)
 | .rp cs, x => ∃ b off ys, x = .pointer (some ⟨b, off, none⟩) /\ S b /\ All2 (RepD S w) cs ys /\ ∀ j y, ys[j]? = some y -> w.cell? ⟨b, off + j, none⟩ = some y
 | .fn f caps, x => ∃ vs : Array Value, x = .func (.func f) #[] vs /\ All2 (fun (p : Nat × Nat) y => ∃ b m, ψ p.1 = some (.at b m) /\ y = .pointer (some ⟨b, p.2, none⟩)) caps vs.toList
 | .fv g, x => FnOk P g x S w
 | .mp k, x => ∃ b m, ψ k = some (.at b m) /\ x = .map (some b)
 | .fb f k off, x => ∃ b m, ψ k = some (.at b m) /\ x = .func (.func f) #[.pointer (some ⟨b, off, none⟩)] #[]
def RepM (P : Program) (ψ : Psi) (S : Nat -> Prop) (w : World) (c : Cell) (x : Value) : Prop := RepC P ψ S w c x /\ Scalar x
def RepVa (P : Program) (ψ : Psi) (S : Nat -> Prop) (w : World) : Va -> Value -> Prop
 | .c x, v => RepC P ψ S w x v
 | .agg cs, v => ∃ arr : Array Value, v = .agg arr /\ All2 (RepM P ψ S w) cs arr.toList
def RepT (P : Program) (ψ : Psi) (S : Nat -> Prop) (w : World) : Tm -> Value -> Prop
 | .va x, v => RepVa P ψ S w x v
 | .tup xs, v => ∃ arr : Array Value, v = .tuple arr /\ All2 (RepVa P ψ S w) xs arr.toList
def PsiSub (ψ ψ' : Psi) : Prop := ∀ k l, ψ k = some l -> ψ' k = some l
theorem PsiSub.refl (ψ : Psi) : PsiSub ψ ψ := fun _ _ h => h
section mono
variable {P : Program} {ψ ψ' : Psi} {S S' : Nat → Prop} {w w' : World}
theorem FnOk.later {g : List Cv -> Option Gs} {x : Value} (h : FnOk P g x S w) (l : Later S w S' w') : FnOk P g x S' w' := by
 obtain ⟨f, first, caps, hx, h⟩ := h
 exact ⟨f, first, caps, hx, fun S'' w'' l' => h S'' w'' (l.trans l')⟩
theorem RepC.later {c : Cell} {x : Value} (h : RepC P ψ S w c x) (hp : PsiSub ψ ψ') (l : Later S w S' w') : RepC P ψ' S' w' c x := by
 cases c with
 | top => trivial
 | und => exact h
 | kb b => exact h
 | d y => exact RepD.later h l
 | own k off => obtain ⟨b, m, h1, h2⟩ := h; exact ⟨b, m, hp _ _ h1, h2⟩
 | osl k sz o len =>
   rcases h with ⟨h1, h2⟩ | ⟨b, m, c, off, h1, h2⟩
   . exact .inl ⟨hp _ _ h1, h2⟩
   . exact .inr ⟨b, m, c, off, hp _ _ h1, h2⟩
 | osc k sz o len c =>
   rcases h with ⟨h1, h2⟩ | ⟨b, m, off, h1, h2⟩
   . exact .inl ⟨hp _ _ h1, h2⟩
   . exact .inr ⟨b, m, off, hp _ _ h1, h2⟩
 | ep k sz i off => obtain ⟨b, m, h1, h2⟩ := h; exact ⟨b, m, hp _ _ h1, h2⟩
 | mp k => obtain ⟨b, m, h1, h2⟩ := h; exact ⟨b, m, hp _ _ h1, h2⟩
 | fb f k off => obtain ⟨b, m, h1, h2⟩ := h; exact ⟨b, m, hp _ _ h1, h2⟩
 | ap k base n i => obtain ⟨b, m, h1, h2⟩ := h; exact ⟨b, m, hp _ _ h1, h2⟩
 | rp cs =>
   obtain ⟨b, off, ys, h1, h2, h3, h4⟩ := h
   exact ⟨b, off, ys, h1, l.1 _ h2, h3.mono fun _ _ h => h.later l, fun j y hj => by rw [cell_of_heap (l.2 _ h2)]; exact h4 j y hj⟩
 | fn f caps => obtain ⟨vs, h1, h2⟩ := h; exact ⟨vs, h1, h2.mono fun _ _ ⟨b, m, a, c⟩ => ⟨b, m, hp _ _ a, c⟩⟩
 | fv g => exact FnOk.later h l
theorem RepM.later {c : Cell} {x : Value} (h : RepM P ψ S w c x) (hp : PsiSub ψ ψ') (l : Later S w S' w') : RepM P ψ' S' w' c x := ⟨h.1.later hp l, h.2⟩
theorem RepVa.later {c : Va} {x : Value} (h : RepVa P ψ S w c x) (hp : PsiSub ψ ψ') (l : Later S w S' w') : RepVa P ψ' S' w' c x := by
 cases c with
 | c x => exact RepC.later h hp l
 | agg cs => obtain ⟨arr, h1, h2⟩ := h; exact ⟨arr, h1, h2.mono fun _ _ h => h.later hp l⟩
theorem RepT.later {c : Tm} {x : Value} (h : RepT P ψ S w c x) (hp : PsiSub ψ ψ') (l : Later S w S' w') : RepT P ψ' S' w' c x := by
 cases c with
 | va x => exact RepVa.later h hp l
 | tup cs => obtain ⟨arr, h1, h2⟩ := h; exact ⟨arr, h1, h2.mono fun _ _ h => h.later hp l⟩
end mono
def Blk.live : Blk -> Prop
 | .cells _ => True
 | .row _ _ _ => True
 | .it _ _ => True
 | .map _ _ => True
 | _ => False
def BlkRep (P : Program) (ψ : Psi) (S : Nat -> Prop) (w : World) : Blk -> Loc -> Prop
 | .gone, _ => True
 | .cells cs, .at b _ => ∃ arr e, w.heap[b]? = some (.cells arr e (0, 0)) /\ All2 (RepM P ψ S w) cs arr.toList
 | .row _ n _, .virt => n = 0
 | .row sz n f, .at b m => ∃ arr e, w.heap[b]? = some (.cells arr e (0, 0)) /\ arr.size = m /\ n * sz <= m /\ (∀ i, i < n -> (f i).length = sz) /\
    ∀ i j, i < n -> j < sz -> RepD S w ((f i).getD j (.v (.bool false))) (arr.getD (i * sz + j) undef)
 | .fz cs, .at b _ => S b /\ ∃ arr e fr, w.heap[b]? = some (.cells arr e fr) /\ All2 (RepD S w) cs arr.toList
 | .fzr sz n f, .at b m => S b /\ ∃ arr e fr, w.heap[b]? = some (.cells arr e fr) /\ arr.size = m /\ n * sz <= m /\ (∀ i, i < n -> (f i).length = sz) /\
    ∀ i j, i < n -> j < sz -> RepD S w ((f i).getD j (.v (.bool false))) (arr.getD (i * sz + j) undef)
 | .fzr _ n _, .virt => n = 0
 | .it s p, .at b _ => w.heap[b]? = some (.stringIter s p)
 | .map es bc, .at b _ => ∃ arr clock, w.heap[b]? = some (.map arr clock) /\ bc = clock :: arr.toList.map (·.born) /\ All2 (fun p (e : MapEntry) => e.key = kVal p.1 /\ RepVa P ψ S w p.2 e.val) es arr.toList
 | _, _ => False
structure Sim (P : Program) (ψ : Psi) (S : Nat -> Prop) (w : World) (h : List (Nat × Blk)) (next : Nat) : Prop where
 dom : ∀ k, next <= k -> ψ k = none
 blk : ∀ k l, ψ k = some l -> BlkRep P ψ S w (lookB h k) l
 inj : ∀ k k' b m m', ψ k = some (.at b m) -> ψ k' = some (.at b m') -> (lookB h k).live -> (lookB h k').live -> k = k'
 dis : ∀ k b m, ψ k = some (.at b m) -> (lookB h k).live -> ¬ S b
 pdom : ∀ k b m, ψ k = some (.at b m) -> b < w.heap.size
 sdom : SOk P S w
structure Ext (base : Nat) (ψ : Psi) (S : Nat -> Prop) (w : World) (ψ' : Psi) (S' : Nat -> Prop) (w' : World) : Prop where
 os : w'.os = w.os
 tape : w'.tape = w.tape
 output : w'.output = w.output
 grow : w.heap.size <= w'.heap.size
 old : ∀ b, b < w.heap.size -> (∀ k m, ψ k ≠ some (.at b m)) -> w'.heap[b]? = w.heap[b]?
 later : Later S w S' w'
 newS : ∀ b, S' b -> S b \/ (∃ k m, ψ k = some (.at b m)) \/ w.heap.size <= b
 newP : ∀ k b m, ψ' k = some (.at b m) -> (∃ k m, ψ k = some (.at b m)) \/ w.heap.size <= b
 agr : ∀ k, k < base -> ψ' k = ψ k
theorem Ext.refl (base : Nat) (ψ : Psi) (S : Nat -> Prop) (w : World) : Ext base ψ S w ψ S w :=
 ⟨rfl, rfl, rfl, Nat.le_refl _, fun _ _ _ => rfl, Later.refl _ _, fun _ h => .inl h, fun k _ m h => .inl ⟨k, m, h⟩, fun _ _ => rfl⟩
theorem Ext.trans {base : Nat} {ψ ψ' ψ'' : Psi} {S S' S'' : Nat -> Prop} {w w' w'' : World} (h : Ext base ψ S w ψ' S' w') (g : Ext base ψ' S' w' ψ'' S'' w'') :
 Ext base ψ S w ψ'' S'' w'' where
 os := g.os.trans h.os
 tape := g.tape.trans h.tape
 output := g.output.trans h.output
 grow := Nat.le_trans h.grow g.grow
 old b hb hp := by
  rw [g.old b (Nat.lt_of_lt_of_le hb h.grow) ?_, h.old b hb hp]
  intro k m hk
  rcases h.newP k b m hk with ⟨k', m', h'⟩ | h'
  . exact hp k' m' h'
  . omega
 later := h.later.trans g.later
 newS b hb := by
  rcases g.newS b hb with h1 | ⟨k, m, h1⟩ | h1
  . exact h.newS b h1
  . exact .inr (h.newP k b m h1)
  . exact .inr (.inr (Nat.le_trans h.grow h1))
 newP k b m hk := by
  rcases g.newP k b m hk with ⟨k', m', h1⟩ | h1
  . exact h.newP k' b m' h1
  . exact .inr (Nat.le_trans h.grow h1)
 agr k hk := (g.agr k hk).trans (h.agr k hk)
structure Rel (P : Program) (base : Nat) (ψ : Psi) (S : Nat -> Prop) (w : World) (st : St) (a : Act) : Prop where
 bas : base <= st.next
 sim : Sim P ψ S w st.heap st.next
 lim : a.tmps.size = st.lim
 defers : a.defers = []
 tmps : ∀ t, RepT P ψ S w (lookT st.tmps t) (a.tmps.getD t undef)
theorem fV_eq {α : Type} (x : Value) (k : Value -> α) : fV x k = k x := by cases x <;> rfl
theorem fD_eq {α : Type} (x : DV) (k : DV -> α) : fD x k = k x := by cases x <;> simp [fD, fV_eq]
theorem fC_eq {α : Type} (x : Cell) (k : Cell -> α) : fC x k = k x := by
 cases x with
 | kb b => cases b <;> rfl
 | d x => simp [fC, fD_eq]
 | _ => rfl
theorem fCs_eq {α : Type} : ∀ (x : List Cell) (k : List Cell -> α), fCs x k = k x
 | [], _ => rfl
 | x :: xs, k => by simp only [fCs, fC_eq, fCs_eq xs]
theorem fDs_eq {α : Type} : ∀ (x : List DV) (k : List DV -> α), fDs x k = k x
 | [], _ => rfl
 | x :: xs, k => by simp only [fDs, fD_eq, fDs_eq xs]
theorem fVa_eq {α : Type} (x : Va) (k : Va -> α) : fVa x k = k x := by cases x <;> simp [fVa, fC_eq, fCs_eq]
theorem fVas_eq {α : Type} : ∀ (x : List Va) (k : List Va -> α), fVas x k = k x
 | [], _ => rfl
 | x :: xs, k => by simp only [fVas, fVa_eq, fVas_eq xs]
theorem fT_eq {α : Type} (x : Tm) (k : Tm -> α) : fT x k = k x := by cases x <;> simp [fT, fVa_eq, fVas_eq]
structure TysOk (P : Program) (τ : Tys) : Prop where
 ok : ∀ t i, τ t = some i -> ∃ info, P.info? t = some info /\ P.underlying t = some i.desc /\ info.size = i.size /\ info.bytes = i.bytes.n /\ info.zero = some i.zero
 cmp : ∀ t i, τ t = some i -> i.bytes.cmp = true -> P.stoodInHeld t = false /\ P.eqGuardType P.depth t = false /\ ∀ fs, i.desc = .struct fs -> ∀ f ∈ fs.toList, f.name ≠ "_"
theorem run_info {P : Program} {τ : Tys} (hτ : TysOk P τ) {t : TypeId} {i : TI} (ht : τ t = some i) (w : World) : ∃ info, (typeInfo t).run P w = .ok info w /\ info.size = i.size /\ info.bytes = i.bytes.n /\ info.zero = some i.zero := by
 obtain ⟨info, h1, _, h3, h4, h5⟩ := hτ.ok t i ht
 exact ⟨info, by simp [typeInfo, h1], h3, h4, h5⟩
theorem run_size {P : Program} {τ : Tys} (hτ : TysOk P τ) {t : TypeId} {i : TI} (ht : τ t = some i) (w : World) : (sizeOf t).run P w = .ok i.size w := by
 obtain ⟨info, h1, h2, _⟩ := run_info hτ ht w
 simp [sizeOf, h1, h2]
theorem run_zeroV {P : Program} {τ : Tys} (hτ : TysOk P τ) {t : TypeId} {i : TI} (ht : τ t = some i) (w : World) : (zeroValue t).run P w = .ok i.zero w := by
 obtain ⟨info, h1, _, _, h2⟩ := run_info hτ ht w
 simp [zeroValue, h1, h2]
theorem run_und {P : Program} {τ : Tys} (hτ : TysOk P τ) {t : TypeId} {i : TI} (ht : τ t = some i) (w : World) : (underlying t).run P w = .ok i.desc w := by
 obtain ⟨info, _, h2, _⟩ := hτ.ok t i ht
 simp [underlying, h2]
theorem run_agg {P : Program} {τ : Tys} (hτ : TysOk P τ) {t : TypeId} {i : TI} (ht : τ t = some i) (w : World) : (isAgg t).run P w = .ok (wantAgg i.desc) w := by
 simp only [isAgg, Sem.run_bind, run_und hτ ht w, Result.andThen_ok]
 cases i.desc <;> rfl
theorem pureRun_ok {α : Type} {P : Program} {s : Sem α} {a : α} (h : pureRun P s = some a) (w : World) : s.run P w = .ok a w := by
 induction s with
 | pure b => simp [pureRun] at h; simp [h]
 | program k ih => simp only [pureRun] at h; simp only [Sem.run]; exact ih P h
 | _ => simp [pureRun] at h
def OpOk (P : Program) (base : Nat) (ψ : Psi) (S : Nat -> Prop) (w : World) (a : Act) (o : Oper) (K : St -> Prop) : Prop :=
 ∀ (next : Act -> World -> Prop) (Q : Exit -> Act -> World -> Prop),
  (∀ st' ψ' S' w' a', K st' -> Rel P base ψ' S' w' st' a' -> Ext base ψ S w ψ' S' w' -> next a' w') -> o.wp P a w next Q
section
variable {P : Program} {base : Nat} {ψ ψ' : Psi} {S S' : Nat → Prop} {w w' : World} {st st1 : St} {a : Act} {o : Oper} {K : St → Prop}
theorem ev_rep (h : Rel P base ψ S w st a) (x : Operand) : RepT P ψ S w (ev st x) (a.eval x) := by
 cases x with
 | tmp t => exact h.tmps t
 | const v =>
   cases v <;> first | exact trivial | (refine RepD.v ?_; exact trivial) | rfl
 | global g => trivial
 | func f => exact ⟨#[], rfl, trivial⟩
theorem putK_rel {dst : Option Tmp} {x : Tm} {v : Value} (hk : putK st dst x K) (h : Rel P base ψ S w st a) (hx : RepT P ψ S w x v) :
 ∃ st', K st' /\ Rel P base ψ S w st' (a.put dst v) := by
 cases dst with
 | none => exact ⟨st, hk, h⟩
 | some t =>
   obtain ⟨ts, hp, n, m⟩ := st
   simp only [putK] at hk
   split at hk
   . rename_i hlt
     rw [fT_eq] at hk
     refine ⟨_, hk, ⟨h.bas, h.sim, by simpa [Act.put] using h.lim, h.defers, ?_⟩⟩
     intro t'
     have hlt' : t < a.tmps.size := by rw [h.lim]; simpa [Nat.blt_eq] using hlt
     simp only [lookT, Act.put]
     cases he : Nat.beq t t' with
     | true =>
       have : t = t' := Nat.eq_of_beq_eq_true he
       subst this
       simp only [Array.getD_eq_getD_getElem?, Array.getElem?_setIfInBounds]
       simpa [hlt'] using hx
     | false =>
       have : t ≠ t' := Nat.ne_of_beq_eq_false he
       simp only [Array.getD_eq_getD_getElem?, Array.getElem?_setIfInBounds, this, if_false]
       have := h.tmps t'
       simpa [Array.getD_eq_getD_getElem?] using this
   . exact hk.elim
theorem OpOk.value {x : Tm} {v : Value} (hr : (execOp a.eval o).run P w = .ok (.value v) w') (hrel : Rel P base ψ' S' w' st1 a)
 (hx : RepT P ψ' S' w' x v) (hk : putK st1 o.dst x K) (he : Ext base ψ S w ψ' S' w') : OpOk P base ψ S w a o K := by
 intro next Q hn
 obtain ⟨st', h1, h2⟩ := putK_rel hk hrel hx
 simp only [Oper.wp, hr, Oper.upon]
 exact hn _ _ _ _ _ h1 h2 he
theorem OpOk.skip (hr : (execOp a.eval o).run P w = .ok .skip w') (hrel : Rel P base ψ' S' w' st1 a)
 (hk : putK st1 o.dst undT K) (he : Ext base ψ S w ψ' S' w') : OpOk P base ψ S w a o K := by
 intro next Q hn
 obtain ⟨st', h1, h2⟩ := putK_rel (v := undef) hk hrel rfl
 simp only [Oper.wp, hr, Oper.upon]
 exact hn _ _ _ _ _ h1 h2 he
theorem BlkRep.later {blk : Blk} {l : Loc} (h : BlkRep P ψ S w blk l) (hp : PsiSub ψ ψ') (hl : Later S w S' w')
 (hb : ∀ b m, l = .at b m -> w'.heap[b]? = w.heap[b]?) : BlkRep P ψ' S' w' blk l := by
 cases blk with
 | gone => cases l <;> trivial
 | cells cs =>
   cases l with
   | virt => exact h.elim
   | «at» b m => obtain ⟨arr, e, h1, h2⟩ := h; exact ⟨arr, e, by rw [hb b m rfl]; exact h1, h2.mono fun _ _ h => h.later hp hl⟩
 | row sz n f =>
   cases l with
   | virt => exact h
   | «at» b m => obtain ⟨arr, e, h1, h2, h3, h4, h5⟩ := h; exact ⟨arr, e, by rw [hb b m rfl]; exact h1, h2, h3, h4, fun i j hi hj => (h5 i j hi hj).later hl⟩
 | fz cs =>
   cases l with
   | virt => exact h.elim
   | «at» b m => obtain ⟨h0, arr, e, fr, h1, h2⟩ := h; exact ⟨hl.1 _ h0, arr, e, fr, by rw [hb b m rfl]; exact h1, h2.mono fun _ _ h => h.later hl⟩
 | it s p =>
   cases l with
   | virt => exact h.elim
   | «at» b m => show w'.heap[b]? = _; rw [hb b m rfl]; exact h
 | map es bc =>
   cases l with
   | virt => exact h.elim
   | «at» b m => obtain ⟨arr, c, h1, h0, h2⟩ := h; exact ⟨arr, c, by rw [hb b m rfl]; exact h1, h0, h2.mono fun _ _ h => ⟨h.1, h.2.later hp hl⟩⟩
 | fzr sz n f =>
   cases l with
   | virt => exact h
   | «at» b m => obtain ⟨h0, arr, e, fr, h1, h2, h3, h4, h5⟩ := h; exact ⟨hl.1 _ h0, arr, e, fr, by rw [hb b m rfl]; exact h1, h2, h3, h4, fun i j hi hj => (h5 i j hi hj).later hl⟩
theorem heap_alloc_lt (o : Obj) {b : Nat} (h : b < w.heap.size) : (w.alloc o).heap[b]? = w.heap[b]? := by
 simp only [World.alloc, Array.getElem?_push]; simp [Nat.ne_of_lt h]
theorem heap_alloc_new (o : Obj) : (w.alloc o).heap[w.heap.size]? = some o := by simp only [World.alloc, Array.getElem?_push_size]
theorem later_alloc (hs : ∀ b, S b -> b < w.heap.size) (o : Obj) : Later S w S (w.alloc o) := ⟨fun _ h => h, fun b hb => heap_alloc_lt o (hs b hb)⟩
def Psi.set (ψ : Psi) (n : Nat) (l : Loc) : Psi := fun k => if k = n then some l else ψ k
theorem Psi.sub_set {n : Nat} {l : Loc} (h : ψ n = none) : PsiSub ψ (ψ.set n l) := by
 intro k l' hk
 have : k ≠ n := fun e => by subst e; rw [h] at hk; cases hk
 simp [Psi.set, this, hk]
theorem lookB_cons {h : List (Nat × Blk)} {n k : Nat} {x : Blk} : lookB ((n, x) :: h) k = if n = k then x else lookB h k := by
 simp only [lookB]
 cases he : Nat.beq n k with
 | true => simp [Nat.eq_of_beq_eq_true he]
 | false => simp [Nat.ne_of_beq_eq_false he]
theorem Rel.allocO {ts : List (Nat × Tm)} {h : List (Nat × Blk)} {n m : Nat} {blk : Blk} {mm : Nat} {o : Obj}
 (hr : Rel P base ψ S w ⟨ts, h, n, m⟩ a) (hb : BlkRep P (ψ.set n (.at w.heap.size mm)) S (w.alloc o) blk (.at w.heap.size mm)) :
 Rel P base (ψ.set n (.at w.heap.size mm)) S (w.alloc o) ⟨ts, (n, blk) :: h, n + 1, m⟩ a /\
  Ext base ψ S w (ψ.set n (.at w.heap.size mm)) S (w.alloc o) := by
 have hn : ψ n = none := hr.sim.dom n (Nat.le_refl _)
 have hl := later_alloc hr.sim.sdom o
 have hp : PsiSub ψ (ψ.set n (.at w.heap.size mm)) := Psi.sub_set hn
 refine ⟨⟨Nat.le_succ_of_le hr.bas, ⟨?_, ?_, ?_, ?_, ?_, ?_⟩, hr.lim, hr.defers, fun t => (hr.tmps t).later hp hl⟩, ⟨rfl, rfl, rfl, by simp, fun b hb _ => heap_alloc_lt _ hb, hl, fun _ h => .inl h, ?_, ?_⟩⟩
 . intro k hk
   have : k ≠ n := by simp at hk; omega
   have hk' : n <= k := by simp at hk; omega
   simp [Psi.set, this, hr.sim.dom k hk']
 . intro k l hk
   rw [lookB_cons]
   by_cases hkn : n = k
   . subst hkn
     simp only [Psi.set, if_true, Option.some.injEq] at hk
     subst hk
     simpa using hb
   . have hkn' : k ≠ n := fun h => hkn h.symm
     simp only [Psi.set, hkn', if_false] at hk
     rw [if_neg hkn]
     refine (hr.sim.blk k l hk).later hp hl fun b m' e => ?_
     subst e
     exact heap_alloc_lt _ (hr.sim.pdom k b m' hk)
 . intro k k' b m1 m2 hk hk' hlk hlk'
   rw [lookB_cons] at hlk hlk'
   simp only [Psi.set] at hk hk'
   by_cases h1 : k = n
   . by_cases h2 : k' = n
     . rw [h1, h2]
     . rw [if_pos h1] at hk; rw [if_neg h2] at hk'
       simp at hk
       have := hr.sim.pdom k' b m2 hk'
       omega
   . by_cases h2 : k' = n
     . rw [if_neg h1] at hk; rw [if_pos h2] at hk'
       simp at hk'
       have := hr.sim.pdom k b m1 hk
       omega
     . rw [if_neg h1] at hk; rw [if_neg h2] at hk'
       rw [if_neg fun h => h1 h.symm] at hlk
       rw [if_neg fun h => h2 h.symm] at hlk'
       exact hr.sim.inj k k' b m1 m2 hk hk' hlk hlk'
 . intro k b m1 hk hlk hS
   rw [lookB_cons] at hlk
   simp only [Psi.set] at hk
   by_cases h1 : k = n
   . rw [if_pos h1] at hk
     simp at hk
     have := hr.sim.sdom b hS
     omega
   . rw [if_neg h1] at hk
     rw [if_neg fun h => h1 h.symm] at hlk
     exact hr.sim.dis k b m1 hk hlk hS
 . intro k b m1 hk
   simp only [Psi.set] at hk
   by_cases h1 : k = n
   . rw [if_pos h1] at hk; simp at hk; simp [hk]
   . rw [if_neg h1] at hk; have := hr.sim.pdom k b m1 hk; simp; omega
 . exact hr.sim.sdom.later hl fun b hb => by have := hr.sim.sdom b hb; simp; omega
 . intro k b m1 hk
   simp only [Psi.set] at hk
   by_cases h1 : k = n
   . rw [if_pos h1] at hk; simp at hk; right; omega
   . rw [if_neg h1] at hk; exact .inl ⟨k, m1, hk⟩
 . intro k hk
   have := hr.bas
   have : k ≠ n := by simp at this; omega
   simp [Psi.set, this]
theorem Rel.alloc {ts : List (Nat × Tm)} {h : List (Nat × Blk)} {n m : Nat} {blk : Blk} {arr : Array Value} {e : TypeId}
 (hr : Rel P base ψ S w ⟨ts, h, n, m⟩ a) (hb : BlkRep P (ψ.set n (.at w.heap.size arr.size)) S (w.alloc (.cells arr e)) blk (.at w.heap.size arr.size)) :
 Rel P base (ψ.set n (.at w.heap.size arr.size)) S (w.alloc (.cells arr e)) ⟨ts, (n, blk) :: h, n + 1, m⟩ a /\
  Ext base ψ S w (ψ.set n (.at w.heap.size arr.size)) S (w.alloc (.cells arr e)) := hr.allocO hb
theorem Rel.write {ts : List (Nat × Tm)} {h : List (Nat × Blk)} {n m k b mm : Nat} {blk : Blk}
 (hr : Rel P base ψ S w ⟨ts, h, n, m⟩ a) (hk : ψ k = some (.at b mm)) (hlive : (lookB h k).live)
 (hos : w'.os = w.os) (htape : w'.tape = w.tape) (hout : w'.output = w.output) (hsize : w'.heap.size = w.heap.size)
 (hoth : ∀ b', b' ≠ b -> w'.heap[b']? = w.heap[b']?) (hblk : Later S w S w' -> BlkRep P ψ S w' blk (.at b mm)) :
 Rel P base ψ S w' ⟨ts, (k, blk) :: h, n, m⟩ a /\ Ext base ψ S w ψ S w' := by
 have hnS : ¬ S b := hr.sim.dis k b mm hk hlive
 have hl : Later S w S w' := ⟨fun _ h => h, fun b' hb' => hoth b' fun e => hnS (e ▸ hb')⟩
 have hp := PsiSub.refl ψ
 refine ⟨⟨hr.bas, ⟨hr.sim.dom, ?_, ?_, ?_, ?_, ?_⟩, hr.lim, hr.defers, fun t => (hr.tmps t).later hp hl⟩, ⟨hos, htape, hout, by omega, ?_, hl, fun _ h => .inl h, fun k b m h => .inl ⟨k, m, h⟩, fun _ _ => rfl⟩⟩
 . intro k' l hk'
   rw [lookB_cons]
   by_cases e : k = k'
   . subst e; rw [hk] at hk'; cases hk'; simpa using hblk hl
   . rw [if_neg e]
     have hb := hr.sim.blk k' l hk'
     cases hbk : lookB h k' with
     | gone => cases l <;> trivial
     | cells cs =>
       refine (hbk ▸ hb).later hp hl fun b' m' he => hoth b' fun hbb => e ?_
       subst he; subst hbb
       exact hr.sim.inj k k' b' mm m' hk hk' hlive (by simp only [hbk]; trivial)
     | row sz nn f =>
       refine (hbk ▸ hb).later hp hl fun b' m' he => hoth b' fun hbb => e ?_
       subst he; subst hbb
       exact hr.sim.inj k k' b' mm m' hk hk' hlive (by simp only [hbk]; trivial)
     | it s p =>
       refine (hbk ▸ hb).later hp hl fun b' m' he => hoth b' fun hbb => e ?_
       subst he; subst hbb
       exact hr.sim.inj k k' b' mm m' hk hk' hlive (by simp only [hbk]; trivial)
     | map es bc =>
       refine (hbk ▸ hb).later hp hl fun b' m' he => hoth b' fun hbb => e ?_
       subst he; subst hbb
       exact hr.sim.inj k k' b' mm m' hk hk' hlive (by simp only [hbk]; trivial)
     | fz cs =>
       simp only [hbk] at hb
       refine BlkRep.later hb hp hl fun b' m' he => hoth b' fun hbb => hnS ?_
       subst he; subst hbb
       exact hb.1
     | fzr sz nn f =>
       simp only [hbk] at hb
       refine BlkRep.later hb hp hl fun b' m' he => hoth b' fun hbb => hnS ?_
       subst he; subst hbb
       exact hb.1
 . intro k1 k2 b' m1 m2 h1 h2 l1 l2
   rw [lookB_cons] at l1 l2
   have hlv : ∀ k', (if k = k' then blk else lookB h k').live -> ψ k' = some (.at b' m1) \/ ψ k' = some (.at b' m2) -> (lookB h k').live := by
    intro k' hx _
    by_cases e : k = k'
    . exact e ▸ hlive
    . rwa [if_neg e] at hx
   exact hr.sim.inj k1 k2 b' m1 m2 h1 h2 (hlv k1 l1 (.inl h1)) (hlv k2 l2 (.inr h2))
 . intro k' b' m' h1 l1
   rw [lookB_cons] at l1
   by_cases e : k = k'
   . subst e; exact hr.sim.dis k b' m' h1 hlive
   . rw [if_neg e] at l1; exact hr.sim.dis k' b' m' h1 l1
 . intro k' b' m' h1; rw [hsize]; exact hr.sim.pdom k' b' m' h1
 . exact hr.sim.sdom.later hl fun b' hb' => by rw [hsize]; exact hr.sim.sdom b' hb'
 . intro b' hb' hno
   exact hoth b' fun e => hno k mm (e ▸ hk)
end
theorem takeN_spec {α : Type} : ∀ {l : List α} {n : Nat} {r : List α}, takeN l n = some r -> r = l.take n /\ r.length = n
 | _, 0, r, h => by simp [takeN] at h; subst h; simp
 | [], n + 1, r, h => by simp [takeN] at h
 | x :: xs, n + 1, r, h => by
   simp only [takeN] at h
   split at h
   . rename_i ys hy
     have := takeN_spec hy
     simp at h; subst h
     simp [this.1]
     have h2 := this.2; rw [this.1] at h2; simpa using h2
   . simp at h
theorem All2.take {α β : Type} {R : α -> β -> Prop} : ∀ {xs : List α} {ys : List β} (n : Nat), All2 R xs ys -> All2 R (xs.take n) (ys.take n)
 | _, _, 0, _ => by simp [All2]
 | [], [], _ + 1, _ => by simp [All2]
 | _ :: _, _ :: _, n + 1, ⟨a, b⟩ => by simpa [All2] using ⟨a, All2.take n b⟩
section
variable {P : Program} {τ : Tys} {base : Nat} {ψ ψ' : Psi} {S S' : Nat → Prop} {w w' : World} {st st1 : St} {a : Act} {o : Oper} {K : St → Prop}
theorem RepC.scalar {c : Cell} {x : Value} (h : RepC P ψ S w c x) (hl : Va.lays (.c c) = true) : Scalar x := by
 cases c with
 | top => simp [Va.lays] at hl
 | und => simp [Va.lays] at hl
 | kb b => rw [show x = .bool b from h]; trivial
 | d y => exact RepD.scalar h
 | own k off => obtain ⟨b, m, _, rfl⟩ := h; trivial
 | osl k sz o len => rcases h with ⟨_, _, a, rfl⟩ | ⟨b, m, c, off, _, rfl, _⟩ <;> trivial
 | osc k sz o len c => rcases h with ⟨_, _, _, a, rfl⟩ | ⟨b, m, off, _, rfl, _⟩ <;> trivial
 | ep k sz i off => obtain ⟨b, m, _, rfl⟩ := h; trivial
 | mp k => obtain ⟨b, m, _, rfl⟩ := h; trivial
 | fb f k off => obtain ⟨b, m, _, rfl⟩ := h; trivial
 | ap k base n i => obtain ⟨b, m, _, rfl⟩ := h; trivial
 | rp cs => obtain ⟨b, off, ys, rfl, _⟩ := h; trivial
 | fn f caps => obtain ⟨vs, rfl, _⟩ := h; trivial
 | fv g => obtain ⟨f, first, caps, rfl, _⟩ := h; trivial
theorem RepVa.cells {y : Va} {x : Value} (h : RepVa P ψ S w y x) (hl : y.lays = true) : All2 (RepM P ψ S w) y.cells x.cells.toList := by
 cases y with
 | c c =>
   have hs := RepC.scalar h hl
   have : x.cells = #[x] := by cases x <;> first | rfl | exact hs.elim
   rw [this]
   exact ⟨⟨h, hs⟩, trivial⟩
 | agg cs => obtain ⟨arr, rfl, h⟩ := h; exact h
theorem newK_ok {cs : List Cell} {arr : Array Value} {e : TypeId} (hrel : Rel P base ψ S w st a) (hcs : All2 (RepM P ψ S w) cs arr.toList)
 (hr : (execOp a.eval o).run P w = .ok (.value (.pointer (some ⟨w.heap.size, 0, none⟩))) (w.alloc (.cells arr e))) (hk : newK st o.dst cs K) :
 OpOk P base ψ S w a o K := by
 obtain ⟨ts, h, n, m⟩ := st
 simp only [newK, fCs_eq] at hk
 have hn : ψ n = none := hrel.sim.dom n (Nat.le_refl _)
 have hl := later_alloc hrel.sim.sdom (Obj.cells arr e)
 obtain ⟨h1, h2⟩ := hrel.alloc (blk := .cells cs) (arr := arr) (e := e) ⟨arr, e, heap_alloc_new _, hcs.mono fun _ _ h => h.later (Psi.sub_set hn) hl⟩
 refine OpOk.value hr h1 ?_ hk h2
 exact ⟨w.heap.size, arr.size, by simp [Psi.set], rfl⟩
def zeroOk : Value -> Prop
 | .agg cs => ∀ x ∈ cs.toList, Scalar x
 | .tuple _ => False
 | _ => True
theorem zero_cells {z : Value} (hz : zeroOk z) : All2 (RepM P ψ S w) (zeroCells' z) z.cells.toList := by
 have key : ∀ l : List Value, (∀ x ∈ l, Scalar x) -> All2 (RepM P ψ S w) (l.map fun x => Cell.d (.v x)) l := by
  intro l hl
  induction l with
  | nil => trivial
  | cons x xs ih => exact ⟨⟨.v (hl x (by simp)), hl x (by simp)⟩, ih fun y hy => hl y (by simp [hy])⟩
 cases z with
 | agg cs => exact key _ hz
 | tuple _ => exact hz.elim
 | _ => exact ⟨⟨.v trivial, trivial⟩, trivial⟩
theorem oAlloc_ok (hτ : TysOk P τ) (hz : ∀ t i, τ t = some i -> zeroOk i.zero) (hrel : Rel P base ψ S w st a) {e : TypeId} (hop : o.op = .alloc e) (hk : oAlloc τ st o.dst e K) :
 OpOk P base ψ S w a o K := by
 unfold oAlloc at hk
 split at hk
 . rename_i d s b z ht
   refine newK_ok (e := e) hrel (zero_cells (hz _ _ ht)) ?_ hk
   simp only [execOp, hop, Instr.alloc, Sem.run_bind, run_zeroV hτ ht, Result.andThen_ok, newVar, newRow, run_newObj]
   rfl
 . exact hk.elim
theorem oBox_ok (hrel : Rel P base ψ S w st a) {e : TypeId} {x : Operand} (hop : o.op = .box e x) (hk : oBox st o.dst (ev st x) K) :
 OpOk P base ψ S w a o K := by
 unfold oBox at hk
 split at hk
 . rename_i y hy
   split at hk
   . rename_i hlay
     have hx := ev_rep hrel x
     rw [hy] at hx
     refine newK_ok (e := e) (arr := (a.eval x).cells) hrel (RepVa.cells hx hlay) ?_ hk
     simp only [execOp, hop, Instr.box, Sem.run_bind, Result.andThen_ok, newVar, newRow, run_newObj]
     rfl
   . exact hk.elim
 . exact hk.elim
theorem cell_at {b off : Nat} {arr : Array Value} {e : TypeId} {fr : Nat × Nat} (h : w.heap[b]? = some (.cells arr e fr)) : w.cell? ⟨b, off, none⟩ = arr[off]? := by
 simp [World.cell?, h]
theorem run_loadVar (hτ : TysOk P τ) {t : TypeId} {i : TI} (ht : τ t = some i) {b off : Nat} {ys : List Value} (hlen : ys.length = i.size)
 (hc : ∀ j y, ys[j]? = some y -> w.cell? ⟨b, off + j, none⟩ = some y) {y : Va} {cs : List Cell} (hcs : All2 (RepM P ψ S w) cs ys) (hm : mkVa (wantAgg i.desc) cs = some y) :
 ∃ v, (loadVar t ⟨b, off, none⟩).run P w = .ok v w /\ RepVa P ψ S w y v := by
 have hadd : ∀ j, (⟨b, off, none⟩ : Addr).add j = ⟨b, off + j, none⟩ := by
  intro j; unfold Addr.add; split
  . rename_i h; simp [h]
  . rfl
 simp only [loadVar, Sem.run_bind, run_agg hτ ht, Result.andThen_ok]
 cases hw : wantAgg i.desc with
 | true =>
   rw [hw] at hm
   simp only [mkVa, Option.some.injEq] at hm
   subst hm
   refine ⟨.agg ys.toArray, ?_, ys.toArray, rfl, by simpa using hcs⟩
   simp only [if_true, Sem.run_bind, run_size hτ ht, Result.andThen_ok, <- hlen]
   rw [run_loadCells_list (P := P) w _ ys (fun j v hj => by rw [hadd]; exact hc j v hj)]
   rfl
 | false =>
   rw [hw] at hm
   cases cs with
   | nil => simp [mkVa] at hm
   | cons c cs =>
     cases cs with
     | cons _ _ => simp [mkVa] at hm
     | nil =>
       simp only [mkVa, Option.some.injEq] at hm
       subst hm
       cases ys with
       | nil => exact hcs.elim
       | cons y1 ys =>
         have h0 := hc 0 y1 (by simp)
         simp only [Nat.add_zero] at h0
         exact ⟨y1, by simp [h0], hcs.1.1⟩
theorem takeN_all2 {cs r : List Cell} {ys : List Value} {off n : Nat} (h : All2 (RepM P ψ S w) cs ys) (ht : takeN (cs.drop off) n = some r) :
 All2 (RepM P ψ S w) r ((ys.drop off).take n) /\ ((ys.drop off).take n).length = n := by
 obtain ⟨h1, h2⟩ := takeN_spec ht
 have := (h.drop off).take n
 rw [<- h1] at this
 exact ⟨this, this.length ▸ h2⟩
theorem all2_dmap {cs : List DV} {ys : List Value} (h : All2 (RepD S w) cs ys) : All2 (RepM P ψ S w) (cs.map Cell.d) ys :=
 h.map_left _ fun _ _ h => ⟨h, RepD.scalar h⟩
theorem takeN_all2_d {cs r : List DV} {ys : List Value} {off n : Nat} (h : All2 (RepD S w) cs ys) (ht : takeN (cs.drop off) n = some r) :
 All2 (RepM P ψ S w) (r.map Cell.d) ((ys.drop off).take n) /\ ((ys.drop off).take n).length = n := by
 obtain ⟨h1, h2⟩ := takeN_spec ht
 have := (h.drop off).take n
 rw [<- h1] at this
 exact ⟨all2_dmap this, this.length ▸ h2⟩
theorem get_drop_take {α : Type} {l : List α} {off n j : Nat} {y : α} (h : ((l.drop off).take n)[j]? = some y) : l[off + j]? = some y := by
 rw [List.getElem?_take] at h
 split at h
 . simpa [List.getElem?_drop] using h
 . simp at h
theorem row_ys {f : Nat -> List DV} {arr : Array Value} {n sz i : Nat} (hi : i < n) (hsz : n * sz <= arr.size) (hl : ∀ i, i < n -> (f i).length = sz)
 (hd : ∀ i j, i < n -> j < sz -> RepD S w ((f i).getD j (.v (.bool false))) (arr.getD (i * sz + j) undef)) :
 All2 (RepD S w) (f i) ((arr.toList.drop (i * sz)).take sz) := by
 have hb : i * sz + sz <= n * sz := by
  have := Nat.mul_le_mul_right sz (Nat.succ_le_of_lt hi); rw [Nat.succ_mul] at this; exact this
 refine All2.of_get ?_ ?_
 . simp [hl i hi]; omega
 . intro j x y hx hy
   have hj : j < sz := by
    have := (List.getElem?_eq_some_iff.1 hx).1; rw [hl i hi] at this; exact this
   have h1 := hd i j hi hj
   have h2 := get_drop_take hy
   have e1 : (f i).getD j (.v (.bool false)) = x := by simp [List.getD, hx]
   have e2 : arr.getD (i * sz + j) undef = y := by
    rw [Array.getD_eq_getD_getElem?, <- Array.getElem?_toList, h2]; rfl
   rwa [e1, e2] at h1
theorem take_drop_le {α : Type} {l : List α} {a b off n : Nat} (h : off + n <= b) : ((((l.drop a).take b).drop off).take n) = (l.drop (a + off)).take n := by
 apply List.ext_getElem?
 intro j
 simp only [List.getElem?_take, List.getElem?_drop]
 by_cases hj : j < n
 . simp only [hj, if_true]
   rw [if_pos (by omega), Nat.add_assoc]
 . simp [hj]
theorem intsOf_rep : ∀ {cs : List Cell} {k : IntKind} {ns : List Int} {ys : List Value}, intsOf cs = some (k, ns) -> All2 (RepM P ψ S w) cs ys -> ys = ns.map (Value.int k)
 | [], k, ns, ys, h, _ => by simp [intsOf] at h
 | c :: cs, k, ns, [], _, hr => hr.elim
 | c :: cs, k, ns, y :: ys, h, ⟨hc, hr⟩ => by
   unfold intsOf at h
   split at h
   . rename_i e; cases e
   . rename_i k' n' cs' e
     injection e with e1 e2
     subst e1; subst e2
     have hy : y = .int k' n' := by have := hc.1; cases this; rfl
     split at h
     . simp at h; obtain ⟨rfl, rfl⟩ := h
       cases ys with
       | nil => simp [hy]
       | cons _ _ => exact hr.elim
     . split at h
       . rename_i k2 ns2 hh
         split at h
         . rename_i hk
           have hk := of_decide_eq_true hk
           simp at h; obtain ⟨rfl, rfl⟩ := h
           subst hk
           have := intsOf_rep hh hr
           simp [hy, this]
         . simp at h
       . simp at h
   . simp at h
theorem loadAt_ok {p : Tm} {v : Value} {sz : Nat} {h : List (Nat × Blk)} {next : Nat} {KL : List Cell -> Prop} (hs : Sim P ψ S w h next) (hp : RepT P ψ S w p v) (hk : loadAt h p sz KL) :
 ∃ b off ys cs, v = .pointer (some ⟨b, off, none⟩) /\ ys.length = sz /\ (∀ j y, ys[j]? = some y -> w.cell? ⟨b, off + j, none⟩ = some y) /\ All2 (RepM P ψ S w) cs ys /\ KL cs := by
 unfold loadAt at hk
 split at hk
 . rename_i k off
   obtain ⟨b, m, hψ, rfl⟩ := hp
   have hb := hs.blk k _ hψ
   split at hk
   . rename_i cs hbk
     rw [hbk] at hb
     obtain ⟨arr, e, h1, h2⟩ := hb
     split at hk
     . rename_i r hr
       obtain ⟨h3, h4⟩ := takeN_all2 h2 hr
       exact ⟨b, off, _, r, rfl, h4, fun j y hj => by rw [cell_at h1, <- Array.getElem?_toList]; exact get_drop_take hj, h3, hk⟩
     . exact hk.elim
   . rename_i cs hbk
     rw [hbk] at hb
     obtain ⟨_, arr, e, fr, h1, h2⟩ := hb
     split at hk
     . rename_i r hr
       obtain ⟨h3, h4⟩ := takeN_all2_d (P := P) (ψ := ψ) h2 hr
       exact ⟨b, off, _, _, rfl, h4, fun j y hj => by rw [cell_at h1, <- Array.getElem?_toList]; exact get_drop_take hj, h3, hk⟩
     . exact hk.elim
   . exact hk.elim
 . rename_i k z i off
   obtain ⟨b, m, hψ, rfl⟩ := hp
   have hb := hs.blk k _ hψ
   have main : ∀ (z' n : Nat) (f : Nat -> List DV) (arr : Array Value) (e : TypeId) (fr : Nat × Nat), w.heap[b]? = some (.cells arr e fr) -> n * z' <= arr.size -> (∀ i, i < n -> (f i).length = z') ->
    (∀ i j, i < n -> j < z' -> RepD S w ((f i).getD j (.v (.bool false))) (arr.getD (i * z' + j) undef)) ->
    (z' = z /\ i < n /\ (z' = z -> i < n -> match takeN ((f i).drop off) sz with
      | some r => KL (r.map .d)
      | none => False)) ->
    ∃ b' off' ys cs, Value.pointer (some ⟨b, i * z + off, none⟩) = .pointer (some ⟨b', off', none⟩) /\ ys.length = sz /\ (∀ j y, ys[j]? = some y -> w.cell? ⟨b', off' + j, none⟩ = some y) /\ All2 (RepM P ψ S w) cs ys /\ KL cs := by
    intro z' n f arr e fr h1 h2 h3 h4 ⟨e1, e2, hk0⟩
    have hk2 := hk0 e1 e2
    clear hk0 hk
    subst e1
    split at hk2
    . rename_i r hr
      have hrow := row_ys (S := S) (w := w) e2 h2 h3 h4
      obtain ⟨h5, h6⟩ := takeN_all2_d (P := P) (ψ := ψ) hrow hr
      obtain ⟨h7, h8⟩ := takeN_spec hr
      have hle : off + sz <= z' \/ sz = 0 := by
       have : r.length <= ((f i).drop off).length := by rw [h7]; simp; omega
       simp only [List.length_drop, h3 i e2, h8] at this
       omega
      rcases hle with hle | hle
      . rw [take_drop_le hle] at h5 h6
        refine ⟨b, i * z' + off, _, _, rfl, h6, fun j y hj => ?_, h5, hk2⟩
        rw [cell_at h1, <- Array.getElem?_toList]; exact get_drop_take hj
      . subst hle
        simp only [List.take_zero] at h5
        exact ⟨b, i * z' + off, [], _, rfl, rfl, fun j y hj => by simp at hj, h5, hk2⟩
    . exact hk2.elim
   split at hk
   . rename_i z' n f hbk
     rw [hbk] at hb
     obtain ⟨arr, e, h1, h2, h3, h4, h5⟩ := hb
     subst h2
     exact main z' n f arr e _ h1 h3 h4 h5 hk
   . rename_i z' n f hbk
     rw [hbk] at hb
     obtain ⟨_, arr, e, fr, h1, h2, h3, h4, h5⟩ := hb
     subst h2
     exact main z' n f arr e fr h1 h3 h4 h5 hk
   . exact hk.elim
 . rename_i cs
   obtain ⟨b, off, ys, rfl, _, h2, h3⟩ := hp
   split at hk
   . rename_i r hr
     have hr' : takeN (cs.drop 0) sz = some r := by simpa using hr
     obtain ⟨h5, h6⟩ := takeN_all2_d (P := P) (ψ := ψ) h2 hr'
     exact ⟨b, off, _, _, rfl, h6, fun j y hj => h3 _ _ (by have := get_drop_take hj; simpa using this), h5, hk⟩
   . exact hk.elim
 . rename_i k base n i
   obtain ⟨b, m, hψ, rfl⟩ := hp
   have hb := hs.blk k _ hψ
   split at hk
   . rename_i cs hbk hsz
     rw [hbk] at hb
     have hsz := Nat.eq_of_beq_eq_true hsz
     subst hsz
     obtain ⟨arr, e, h1, h2⟩ := hb
     split at hk
     . rename_i r hr
       obtain ⟨h3, h4⟩ := takeN_all2 h2 hr
       split at hk
       . rename_i kd ns hi
         have hys := intsOf_rep hi h3
         have hl : ns.length = n := by rw [hys] at h4; simpa using h4
         obtain ⟨hin, hk⟩ := hk
         have hk := hk hin
         have hv : arr.toList[base + i]? = some (.int kd (selI ns i)) := by
          have hg : ((arr.toList.drop base).take n)[i]? = some (.int kd (selI ns i)) := by
           rw [hys]
           simp only [List.getElem?_map, selI]
           rw [List.getElem?_eq_getElem (by omega)]
           rfl
          exact get_drop_take hg
         refine ⟨b, base + i, [.int kd (selI ns i)], _, rfl, rfl, ?_, ?_, hk⟩
         . intro j y hj
           cases j with
           | zero => simp at hj; subst hj; rw [Nat.add_zero, cell_at h1, <- Array.getElem?_toList]; exact hv
           | succ j => simp at hj
         . exact ⟨⟨.v trivial, trivial⟩, trivial⟩
       . exact hk.elim
     . exact hk.elim
   . exact hk.elim
 . exact hk.elim
theorem oLoad_ok (hτ : TysOk P τ) (hrel : Rel P base ψ S w st a) {t : TypeId} {x : Operand} (hop : o.op = .load t x) (hk : oLoad τ st.heap t (ev st x) fun y => putK st o.dst y K) :
 OpOk P base ψ S w a o K := by
 unfold oLoad at hk
 split at hk
 . rename_i d s b z ht
   obtain ⟨b, off, ys, cs, hv, hlen, hc, hcs, hk⟩ := loadAt_ok hrel.sim (ev_rep hrel x) hk
   split at hk
   . rename_i y hy
     obtain ⟨v, h1, h2⟩ := run_loadVar hτ ht hlen hc hcs hy
     refine OpOk.value (x := .va y) (v := v) ?_ hrel h2 hk (Ext.refl _ _ _ _)
     simp only [execOp, hop, Instr.loadAt, hv, Instr.sureAddr, Sem.run_bind, Sem.run_pure, Result.andThen_ok, h1]
   . exact hk.elim
 . exact hk.elim
end
theorem setAt_spec {α : Type} : ∀ (l : List α) (off : Nat) (ys r : List α), setAt l off ys = some r ->
 r.length = l.length /\ (ys = [] \/ off + ys.length <= l.length) /\ ∀ j : Nat, r[j]? = if off <= j /\ j < off + ys.length then ys[j - off]? else l[j]?
 | l, off, [], r, h => by
   have : r = l := by cases l <;> cases off <;> simp [setAt] at h <;> first | exact h | exact h.symm
   subst this
   exact ⟨rfl, .inl rfl, fun j => by rw [if_neg (by simp only [List.length_nil]; omega)]⟩
 | [], off, y :: ys, r, h => by cases off <;> simp [setAt] at h
 | x :: l, 0, y :: ys, r, h => by
   simp only [setAt] at h
   split at h
   . rename_i r' hr
     simp at h; subst h
     obtain ⟨h1, h2, h3⟩ := setAt_spec l 0 ys r' hr
     refine ⟨by simp [h1], .inr ?_, ?_⟩
     . rcases h2 with h2 | h2
       . subst h2; simp
       . simp at h2 ⊢; omega
     . intro j
       cases j with
       | zero => simp
       | succ j =>
         have := h3 j
         simp only [List.getElem?_cons_succ, this, Nat.zero_le, true_and, Nat.zero_add, Nat.sub_zero, List.length_cons]
         by_cases hj : j < ys.length
         . rw [if_pos hj, if_pos (by omega)]
         . rw [if_neg hj, if_neg (by omega)]
   . simp at h
 | x :: l, off + 1, y :: ys, r, h => by
   simp only [setAt] at h
   split at h
   . rename_i r' hr
     simp at h; subst h
     obtain ⟨h1, h2, h3⟩ := setAt_spec l off (y :: ys) r' hr
     refine ⟨by simp [h1], .inr ?_, ?_⟩
     . rcases h2 with h2 | h2
       . simp at h2
       . simp at h2 ⊢; omega
     . intro j
       cases j with
       | zero => rw [if_neg (by omega)]; simp
       | succ j =>
         have := h3 j
         simp only [List.getElem?_cons_succ, this]
         by_cases hj : off <= j /\ j < off + (y :: ys).length
         . rw [if_pos hj, if_pos (by omega)]; congr 1; omega
         . rw [if_neg hj, if_neg (by omega)]
   . simp at h
theorem oneCell_of_scalar {v : Value} (h : Scalar v) : v.oneCell' = true := by cases v <;> first | rfl | exact h.elim
theorem addr_add (b off j : Nat) : (⟨b, off, none⟩ : Addr).add j = ⟨b, off + j, none⟩ := by
 unfold Addr.add; split
 . rename_i h; simp [h]
 . rfl
section
variable {P : Program} {τ : Tys} {base : Nat} {ψ ψ' : Psi} {S S' : Nat → Prop} {w w' : World} {st st1 : St} {a : Act} {o : Oper} {K : St → Prop}
theorem run_storeCells {b off : Nat} {e : TypeId} : ∀ (vs : List Value) (i : Nat) (w : World) (arr : Array Value), w.heap[b]? = some (.cells arr e (0, 0)) ->
 (vs = [] \/ off + i + vs.length <= arr.size) -> (∀ v ∈ vs, Scalar v) ->
 ∃ w' arr', (storeCells ⟨b, off, none⟩ vs i).run P w = .ok () w' /\ w'.heap[b]? = some (.cells arr' e (0, 0)) /\ arr'.size = arr.size /\
  (∀ j : Nat, arr'[j]? = if off + i <= j /\ j < off + i + vs.length then vs[j - (off + i)]? else arr[j]?) /\
  w'.os = w.os /\ w'.tape = w.tape /\ w'.output = w.output /\ w'.heap.size = w.heap.size /\ ∀ b', b' ≠ b -> w'.heap[b']? = w.heap[b']?
 | [], i, w, arr, h, _, _ => ⟨w, arr, rfl, h, rfl, fun j => by rw [if_neg (by simp only [List.length_nil]; omega)], rfl, rfl, rfl, rfl, fun _ _ => rfl⟩
 | v :: vs, i, w, arr, h, hlen, hsc => by
   have hlen' : off + i + (vs.length + 1) <= arr.size := by rcases hlen with hlen | hlen <;> simp_all
   have hcell : w.cell? ⟨b, off + i, none⟩ = some (arr[off + i]'(by omega)) := by rw [cell_at h]; simp
   have hfr : w.frozen? ⟨b, off + i, none⟩ = false := by simp [World.frozen?, h]
   have hstore : (store (⟨b, off + i, none⟩ : Addr) v).run P w = .ok () (w.setCell ⟨b, off + i, none⟩ v) := by
    rw [run_store P w _ v _ (oneCell_of_scalar (hsc v (by simp))), hcell]; simp [hfr]
   have h1 : (w.setCell ⟨b, off + i, none⟩ v).heap[b]? = some (.cells (arr.setIfInBounds (off + i) v) e (0, 0)) := by
    simp [World.setCell, Array.getElem?_modify, h]
   obtain ⟨w', arr', g1, g2, g3, g4, g5, g6, g7, g8, g9⟩ := run_storeCells (off := off) vs (i + 1) (w.setCell ⟨b, off + i, none⟩ v) _ h1 (.inr (by simp; omega)) (fun x hx => hsc x (by simp [hx]))
   refine ⟨w', arr', ?_, g2, by simpa using g3, ?_, g5, g6, g7, by simpa using g8, ?_⟩
   . simp only [storeCells, addr_add, Sem.run_bind, hstore, Result.andThen_ok]; exact g1
   . intro j
     rw [g4 j]
     simp only [Array.getElem?_setIfInBounds, List.length_cons]
     by_cases hj : off + (i + 1) <= j /\ j < off + (i + 1) + vs.length
     . rw [if_pos hj, if_pos (by omega)]
       obtain ⟨q, rfl⟩ : ∃ q, j = off + i + (q + 1) := ⟨j - (off + i) - 1, by omega⟩
       rw [show off + i + (q + 1) - (off + (i + 1)) = q by omega, show off + i + (q + 1) - (off + i) = q + 1 by omega]; simp
     . rw [if_neg hj]
       by_cases hj2 : off + i = j
       . subst hj2; simp [show off + i < arr.size by omega]
       . rw [if_neg hj2, if_neg (by omega)]
   . intro b' hb'
     rw [g9 b' hb']
     simp only [World.setCell, Array.getElem?_modify]
     rw [if_neg fun e => hb' e.symm]
theorem all2_upd {α β : Type} {R : α -> β -> Prop} {cs r zs : List α} {ys vs : List β} {ys' : List β} {off : Nat} (h : All2 R cs ys) (hz : All2 R zs vs) (hs : setAt cs off zs = some r)
 (hl : ys'.length = ys.length) (hy : ∀ j : Nat, ys'[j]? = if off <= j /\ j < off + vs.length then vs[j - off]? else ys[j]?) : All2 R r ys' := by
 obtain ⟨h1, _, h3⟩ := setAt_spec _ _ _ _ hs
 refine All2.of_get (by rw [h1, hl, h.length]) ?_
 intro j x y hx hy'
 rw [h3 j] at hx
 rw [hy j] at hy'
 rw [hz.length] at hx
 by_cases hj : off <= j /\ j < off + vs.length
 . rw [if_pos hj] at hx hy'
   obtain ⟨y2, g1, g2⟩ := hz.get _ x hx
   rw [hy'] at g1; cases g1; exact g2
 . rw [if_neg hj] at hx hy'
   obtain ⟨y2, g1, g2⟩ := h.get _ x hx
   rw [hy'] at g1; cases g1; exact g2
theorem all2_scalar {cs : List Cell} {ys : List Value} (h : All2 (RepM P ψ S w) cs ys) : ∀ v ∈ ys, Scalar v := by
 induction cs generalizing ys with
 | nil => cases ys with | nil => simp | cons _ _ => exact h.elim
 | cons c cs ih => cases ys with
   | nil => exact h.elim
   | cons y ys => intro v hv; simp at hv; rcases hv with rfl | hv; exact h.1.2; exact ih h.2 v hv
theorem mapO_some {α β : Type} {f : α -> Option β} : ∀ {xs : List α} {ys : List β}, mapO f xs = some ys -> All2 (fun x y => f x = some y) xs ys
 | [], ys, h => by simp [mapO] at h; subst h; trivial
 | x :: xs, ys, h => by
   simp only [mapO] at h
   split at h
   . rename_i y ys' h1 h2
     simp at h; subst h
     exact ⟨h1, mapO_some h2⟩
   . simp at h
theorem All2.comp {α β γ : Type} {R : α -> β -> Prop} {R' : α -> γ -> Prop} {T : β -> γ -> Prop} (h : ∀ x y z, R x y -> R' x z -> T y z) : ∀ {xs ys zs}, All2 R xs ys -> All2 R' xs zs -> All2 T ys zs
 | [], [], [], _, _ => trivial
 | _ :: _, _ :: _, _ :: _, ⟨a, b⟩, ⟨c, d⟩ => ⟨h _ _ _ a c, All2.comp h b d⟩
theorem closeCell_rep {h : List (Nat × Blk)} {next : Nat} (hs : Sim P ψ S w h next) {c : Cell} {v : Value} {K : DV -> Prop} (hc : closeCell h c K) (hv : RepC P ψ S w c v) : ∃ x, RepD S w x v /\ K x := by
 unfold closeCell at hc
 split at hc
 . exact ⟨_, by rw [show v = _ from hv]; exact .v trivial, hc⟩
 . exact ⟨_, hv, hc⟩
 . rename_i k z o len
   split at hc
   . rename_i sz n f hb
     split at hc
     . rename_i hz
       have hz := Nat.eq_of_beq_eq_true hz
       subst hz
       obtain ⟨hn, hc⟩ := hc
       refine ⟨_, ?_, hc⟩
       rcases hv with ⟨h1, rfl, _, rfl⟩ | ⟨b, m, c, off, h1, rfl, h2, h3⟩
       . exact .nil
       . have hb' := hs.blk k _ h1
         rw [hb] at hb'
         obtain ⟨hS, arr, e, fr, g1, g2, g3, g4, g5⟩ := hb'
         rcases Nat.eq_zero_or_pos len with hl | hl
         . subst hl; exact .nil
         . obtain ⟨rfl, h4⟩ := h3 (by omega)
           subst g2
           refine .lst (fun i j => arr.getD ((o + i) * sz + j) undef) hS (fun i hi => g4 _ (by omega)) (fun i j hi hj => ?_) (fun i j hi hj => g5 _ _ (by omega) hj) h2
           rw [cell_at g1, show o * sz + i * sz + j = (o + i) * sz + j by rw [Nat.add_mul]]
           have : (o + i) * sz + j < arr.size := by
            have h5 : (o + i + 1) * sz <= n * sz := Nat.mul_le_mul_right sz (by omega)
            rw [Nat.succ_mul] at h5; omega
           simp [Array.getD, this]
     . exact hc.elim
   . exact hc.elim
 . obtain ⟨vs, rfl, hv⟩ := hv
   obtain rfl : vs = #[] := by
    cases vs with
    | mk l => cases l with
      | nil => rfl
      | cons _ _ => exact hv.elim
   exact ⟨_, .v trivial, hc⟩
 . exact hc.elim
theorem closeCells_rep {h : List (Nat × Blk)} {next : Nat} (hs : Sim P ψ S w h next) : ∀ {cs : List Cell} {vs : List Value} {K : List DV -> Prop}, closeCells h cs K -> All2 (RepM P ψ S w) cs vs ->
 ∃ xs, All2 (RepD S w) xs vs /\ K xs
 | [], [], _, hc, _ => ⟨[], trivial, hc⟩
 | _ :: _, _ :: _, _, hc, ⟨h1, h2⟩ => by
   obtain ⟨x, g1, g2⟩ := closeCell_rep hs hc h1.1
   obtain ⟨xs, g3, g4⟩ := closeCells_rep hs g2 h2
   exact ⟨x :: xs, ⟨g1, g3⟩, g4⟩
theorem updI_get (k : IntKind) (i : Nat) (v : Int) : ∀ (ns : List Int) (j q : Nat), (updI k i v j ns)[q]? = (ns[q]?).map fun n => Cell.d (.v (.int k (if i = j + q then v else n)))
 | [], _, _ => by simp [updI]
 | n :: ns, j, 0 => by simp [updI]
 | n :: ns, j, q + 1 => by
   simp only [updI, List.getElem?_cons_succ, updI_get k i v ns (j + 1) q]
   rw [show j + 1 + q = j + (q + 1) by omega]
theorem updI_length (k : IntKind) (i : Nat) (v : Int) : ∀ (ns : List Int) (j : Nat), (updI k i v j ns).length = ns.length
 | [], _ => rfl
 | n :: ns, j => by simp [updI, updI_length k i v ns]
theorem oStore_ok (hτ : TysOk P τ) (hrel : Rel P base ψ S w st a) {t : TypeId} {p x : Operand} (hop : o.op = .store t p x) (hk : oStore τ st o.dst t (ev st p) (ev st x) K) :
 OpOk P base ψ S w a o K := by
 have hx := ev_rep hrel x
 have hp := ev_rep hrel p
 unfold oStore at hk
 split at hk
 . rename_i d s bb z ht
   split at hk
   . rename_i y k off ts h n m ey ep
     rw [ey] at hx; rw [ep] at hp
     obtain ⟨b, mm, hψ, hpv⟩ := hp
     split at hk
     . rename_i cs hlay hbk hsz
       have hsz := Nat.eq_of_beq_eq_true hsz
       split at hk
       . rename_i r hr
         rw [fCs_eq] at hk
         have hb := hrel.sim.blk k _ hψ
         simp only [hbk] at hb
         obtain ⟨arr, e, h1, h2⟩ := hb
         have hcells := RepVa.cells hx hlay
         obtain ⟨q1, q2, _⟩ := setAt_spec _ _ _ _ hr
         have hl2 := h2.length
         have hl3 := hcells.length
         obtain ⟨w', arr', g1, g2, g3, g4, g5, g6, g7, g8, g9⟩ := run_storeCells (P := P) (off := off) (a.eval x).cells.toList 0 w arr h1 (by
          rcases q2 with q2 | q2
          . left; rw [q2] at hl3; simpa using hl3.symm
          . right; simp at hl2 hl3 ⊢; omega) (all2_scalar hcells)
         obtain ⟨r1, r2⟩ := hrel.write (w' := w') (blk := .cells r) hψ (by simp only [hbk]; trivial) g5 g6 g7 g8 g9 (fun hl => ⟨arr', e, g2,
          all2_upd (h2.mono fun _ _ h => h.later (PsiSub.refl _) hl) (hcells.mono fun _ _ h => h.later (PsiSub.refl _) hl) hr (by simpa using g3) (fun j => by simpa using g4 j)⟩)
         refine OpOk.skip (w' := w') ?_ r1 hk r2
         simp only [execOp, hop, Instr.storeAt, hpv, Instr.sureAddr, storeVar, Sem.run_bind, Sem.run_pure, Result.andThen_ok, run_size hτ ht]
         rw [if_neg (by simp at hl3; simp only [ne_eq, Decidable.not_not]; omega)]
         rw [g1]; rfl
       . exact hk.elim
     . exact hk.elim
   . rename_i y k z i off ts h n m ey ep
     rw [ey] at hx; rw [ep] at hp
     obtain ⟨b, mm, hψ, hpv⟩ := hp
     split at hk
     . rename_i z' len f hlay hbk hsz
       have hsz := Nat.eq_of_beq_eq_true hsz
       have hcells := RepVa.cells hx hlay
       obtain ⟨ds, hclosed, e1, e2, hk⟩ := closeCells_rep hrel.sim hk hcells
       have hk := hk e1 e2
       subst e1
       split at hk
       . rename_i r hr
         rw [fDs_eq] at hk
         have hb := hrel.sim.blk k _ hψ
         simp only [hbk] at hb
         obtain ⟨arr, e, h1, h2, h3, h4, h5⟩ := hb
         obtain ⟨q1, q2, _⟩ := setAt_spec _ _ _ _ hr
         have hl3 := hclosed.length
         have hrow := row_ys (S := S) (w := w) e2 (h2 ▸ h3) h4 h5
         have hfi := h4 i e2
         have hbnd : i * z' + z' <= len * z' := by
          have := Nat.mul_le_mul_right z' (Nat.succ_le_of_lt e2); rw [Nat.succ_mul] at this; exact this
         obtain ⟨w', arr', g1, g2, g3, g4, g5, g6, g7, g8, g9⟩ := run_storeCells (P := P) (off := i * z' + off) (a.eval x).cells.toList 0 w arr h1 (by
          rcases q2 with q2 | q2
          . left; rw [q2] at hl3; simpa using hl3.symm
          . right; simp at hl3 ⊢; omega) (all2_scalar hcells)
         have hds2 : ds = [] \/ off + ds.length <= z' := by
          rcases q2 with q2 | q2
          . exact .inl q2
          . exact .inr (by omega)
         obtain ⟨r1, r2⟩ := hrel.write (w' := w') (blk := .row z' len (setRow f i r)) hψ (by simp only [hbk]; trivial) g5 g6 g7 g8 g9 (fun hl => ⟨arr', e, g2, by omega, by omega,
          fun i' hi' => by
           simp only [setRow]
           cases hbe : Nat.beq i' i with
           | true => simp [q1, hfi]
           | false => exact h4 i' hi',
          fun i' j hi' hj => by
           simp only [setRow]
           have hbi' : i' * z' + z' <= len * z' := by
            have := Nat.mul_le_mul_right z' (Nat.succ_le_of_lt hi'); rw [Nat.succ_mul] at this; exact this
           cases hbe : Nat.beq i' i with
           | true =>
             have := Nat.eq_of_beq_eq_true hbe
             subst this
             have hrow' : All2 (RepD S w') r ((arr'.toList.drop (i' * z')).take z') := by
              refine all2_upd (hrow.mono fun _ _ h => h.later hl) (hclosed.mono fun _ _ h => h.later hl) hr ?_ ?_
              . simp; omega
              . intro j'
                simp only [List.getElem?_take, List.getElem?_drop, Array.getElem?_toList, g4]
                by_cases hj' : j' < z'
                . simp only [hj', if_true]
                  by_cases hin : off <= j' /\ j' < off + (a.eval x).cells.toList.length
                  . rw [if_pos hin, if_pos (by omega)]; congr 1; omega
                  . rw [if_neg hin, if_neg (by omega)]
                . simp only [hj', if_false]
                  rw [if_neg]
                  intro hin
                  rcases hds2 with hds2 | hds2
                  . rw [hds2] at hl3; simp only [List.length_nil] at hl3; omega
                  . omega
             have hrl : r.length = z' := by rw [q1, hfi]
             obtain ⟨y, y1, y2⟩ := hrow'.get j (r[j]'(by omega)) (by simp)
             have e3 : r.getD j (.v (.bool false)) = r[j]'(by omega) := by simp [List.getD, List.getElem?_eq_getElem (show j < r.length by omega)]
             have e4 : arr'.getD (i' * z' + j) undef = y := by
              have := get_drop_take y1
              rw [Array.getD_eq_getD_getElem?, <- Array.getElem?_toList, this]; rfl
             rw [e3, e4]; exact y2
           | false =>
             have hne := Nat.ne_of_beq_eq_false hbe
             have hout : arr'.getD (i' * z' + j) undef = arr.getD (i' * z' + j) undef := by
              rw [Array.getD_eq_getD_getElem?, Array.getD_eq_getD_getElem?, g4, if_neg]
              intro hin
              rcases hds2 with hds2 | hds2
              . rw [hds2] at hl3; simp only [List.length_nil] at hl3; omega
              . rcases Nat.lt_or_gt_of_ne hne with hlt | hgt
                . have := Nat.mul_le_mul_right z' (Nat.succ_le_of_lt hlt); rw [Nat.succ_mul] at this; omega
                . have := Nat.mul_le_mul_right z' (Nat.succ_le_of_lt hgt); rw [Nat.succ_mul] at this; omega
             simp only
             rw [hout]; exact (h5 i' j hi' hj).later hl⟩)
         refine OpOk.skip (w' := w') ?_ r1 hk r2
         simp only [execOp, hop, Instr.storeAt, hpv, Instr.sureAddr, storeVar, Sem.run_bind, Sem.run_pure, Result.andThen_ok, run_size hτ ht]
         have hl4 := hcells.length
         rw [if_neg (by simp at hl4; simp only [ne_eq, Decidable.not_not]; omega)]
         rw [g1]; rfl
       . exact hk.elim
     . exact hk.elim
   . rename_i y k bs ln i ts h n m ey ep
     rw [ey] at hx; rw [ep] at hp
     obtain ⟨b, mm, hψ, hpv⟩ := hp
     split at hk
     . rename_i kd v cs hpl hbk hsz
       have hsz := Nat.eq_of_beq_eq_true hsz
       have hb := hrel.sim.blk k _ hψ
       simp only [hbk] at hb
       obtain ⟨arr, e, h1, h2⟩ := hb
       have hxv : a.eval x = .int kd v := by
        cases y with
        | c c => cases c with
          | d c => cases c with
            | v c => simp only [plainVa, Option.some.injEq] at hpl; subst hpl; generalize a.eval x = q at hx; cases hx; rfl
            | lst _ _ _ => simp [plainVa] at hpl
          | kb _ => simp [plainVa] at hpl
          | _ => simp [plainVa] at hpl
        | agg _ => simp [plainVa] at hpl
       split at hk
       . rename_i r0 hr0
         obtain ⟨h3, h4⟩ := takeN_all2 h2 hr0
         split at hk
         . rename_i kd' ns hi
           have hys := intsOf_rep hi h3
           have hl : ns.length = ln := by rw [hys] at h4; simpa using h4
           split at hk
           . rename_i hkd
             have hkd := of_decide_eq_true hkd
             subst hkd
             split at hk
             . rename_i r hr
               rw [fCs_eq] at hk
               obtain ⟨hin, hk⟩ := hk
               have hk := hk hin
               obtain ⟨q1, q2, q3⟩ := setAt_spec _ _ _ _ hr
               rw [updI_length] at q2 q3
               have hl2 : cs.length = arr.size := by simpa using h2.length
               have hle : bs + ln <= cs.length := by
                rcases q2 with q2 | q2
                . have := congrArg List.length q2; rw [updI_length] at this; simp only [List.length_nil] at this; omega
                . omega
               obtain ⟨w', arr', g1, g2, g3, g4, g5, g6, g7, g8, g9⟩ := run_storeCells (P := P) (off := bs + i) [.int kd' v] 0 w arr h1 (.inr (by simp only [List.length_cons, List.length_nil]; omega)) (by simp [Scalar])
               have key : ∀ j, ns[j]? = none \/ ∃ q, ns[j]? = some q /\ arr.toList[bs + j]? = some (.int kd' q) := by
                intro j
                cases hj : ns[j]? with
                | none => exact .inl rfl
                | some q =>
                  refine .inr ⟨q, rfl, ?_⟩
                  refine get_drop_take (n := ln) ?_
                  rw [hys]; simp [hj]
               obtain ⟨r1, r2⟩ := hrel.write (w' := w') (blk := .cells r) hψ (by simp only [hbk]; trivial) g5 g6 g7 g8 g9 (fun hlt => ⟨arr', e, g2, by
                refine All2.of_get (by simp only [Array.length_toList]; omega) ?_
                intro j xx yy hxx hyy
                rw [q3 j] at hxx
                rw [Array.getElem?_toList, g4 j] at hyy
                simp only [Nat.add_zero, List.length_cons, List.length_nil, Nat.zero_add] at hyy
                by_cases hj : bs <= j /\ j < bs + ns.length
                . rw [if_pos hj, updI_get] at hxx
                  obtain ⟨q, rfl⟩ : ∃ q, j = bs + q := ⟨j - bs, by omega⟩
                  rw [show bs + q - bs = q by omega] at hxx
                  rcases key q with hq | ⟨nq, hq, hq2⟩
                  . rw [hq] at hxx; simp at hxx
                  . rw [hq] at hxx
                    simp only [Option.map_some, Option.some.injEq, Nat.zero_add] at hxx
                    subst hxx
                    by_cases hiq : i = q
                    . subst hiq
                      rw [if_pos (by omega)] at hyy
                      simp at hyy; subst hyy
                      rw [if_pos rfl]
                      exact ⟨.v trivial, trivial⟩
                    . rw [if_neg (by omega)] at hyy
                      rw [<- Array.getElem?_toList, hq2] at hyy
                      cases hyy
                      rw [if_neg hiq]
                      exact ⟨.v trivial, trivial⟩
                . rw [if_neg hj] at hxx
                  rw [if_neg (by omega)] at hyy
                  obtain ⟨y2, z1, z2⟩ := h2.get _ xx hxx
                  rw [Array.getElem?_toList] at z1
                  rw [hyy] at z1; cases z1
                  exact z2.later (PsiSub.refl _) hlt⟩)
               refine OpOk.skip (w' := w') ?_ r1 hk r2
               simp only [execOp, hop, Instr.storeAt, hpv, hxv, Instr.sureAddr, storeVar, Sem.run_bind, Sem.run_pure, Result.andThen_ok, run_size hτ ht]
               rw [if_neg (by simp [Value.cells]; omega)]
               have : (Value.int kd' v).cells.toList = [.int kd' v] := rfl
               rw [this, g1]; rfl
             . exact hk.elim
           . exact hk.elim
         . exact hk.elim
       . exact hk.elim
     . exact hk.elim
   . exact hk.elim
 . exact hk.elim
theorem fieldPlace_run (hτ : TysOk P τ) {f : Field} {i : TI} (ht : τ f.type = some i) (hs : i.size ≠ 0) (b off : Nat) :
 (fieldPlace ⟨b, off, none⟩ f).run P w = .ok ⟨b, off + f.offset, none⟩ w := by
 simp only [fieldPlace, Sem.run_bind, run_size hτ ht, Result.andThen_ok, if_neg hs, Sem.run_pure, addr_add]
theorem oFieldAddr_ok (hτ : TysOk P τ) (hrel : Rel P base ψ S w st a) {s : TypeId} {x : Operand} {f : Nat} (hop : o.op = .fieldAddr s x f) (hk : oFieldAddr τ s (ev st x) f fun y => putK st o.dst y K) :
 OpOk P base ψ S w a o K := by
 have hx := ev_rep hrel x
 unfold oFieldAddr at hk
 split at hk
 . rename_i fs sz bt z ht
   split at hk
   . rename_i nm ty off' em tg pk bo hf
     split at hk
     . rename_i d2 s2 b2 z2 ht2
       have run : ∀ b off, a.eval x = .pointer (some ⟨b, off, none⟩) -> (execOp a.eval o).run P w = .ok (.value (.pointer (some ⟨b, off + off', none⟩))) w := by
        intro b off hv
        have hund := run_und hτ ht w
        simp only at hund
        simp only [execOp, hop, Instr.fieldAt, Sem.run_bind, hund, Result.andThen_ok, hf, hv, Instr.sureAddr, Sem.run_pure]
        rw [fieldPlace_run hτ (f := ⟨nm, ty, off', em, tg, pk, bo⟩) ht2 (by simp)]
        rfl
       split at hk
       . rename_i k off e
         rw [e] at hx
         obtain ⟨b, m, h1, h2⟩ := hx
         exact OpOk.value (run b off h2) hrel (x := .va (.c (.own k (off + off')))) ⟨b, m, h1, rfl⟩ hk (Ext.refl _ _ _ _)
       . rename_i k zz i off e
         rw [e] at hx
         obtain ⟨b, m, h1, h2⟩ := hx
         exact OpOk.value (run b _ h2) hrel (x := .va (.c (.ep k zz i (off + off')))) ⟨b, m, h1, by rw [Nat.add_assoc]⟩ hk (Ext.refl _ _ _ _)
       . rename_i cs e
         rw [e] at hx
         obtain ⟨b, off, ys, h1, h2, h3, h4⟩ := hx
         rw [fDs_eq] at hk
         exact OpOk.value (run b _ h1) hrel (x := .va (.c (.rp (cs.drop off')))) ⟨b, off + off', ys.drop off', rfl, h2, h3.drop off', fun j y hj => by
          rw [List.getElem?_drop] at hj
          rw [Nat.add_assoc]; exact h4 _ _ hj⟩ hk (Ext.refl _ _ _ _)
       . exact hk.elim
     . exact hk.elim
   . exact hk.elim
 . exact hk.elim
end
def szOf (τ : Tys) (t : TypeId) : Nat := match τ t with
 | some i => i.size
 | none => 0
section
variable {P : Program} {τ : Tys} {base : Nat} {ψ ψ' : Psi} {S S' : Nat → Prop} {w w' : World} {st st1 : St} {a : Act} {o : Oper} {K : St → Prop}
theorem run_listMapM {α β : Type} {f : α -> Sem β} {g : α -> β} : ∀ (l : List α), (∀ x ∈ l, (f x).run P w = .ok (g x) w) -> (l.mapM f).run P w = .ok (l.map g) w
 | [], _ => rfl
 | x :: xs, h => by
   simp only [List.mapM_cons, Sem.run_bind, h x (by simp), Result.andThen_ok, run_listMapM xs (fun y hy => h y (by simp [hy])), Sem.run_pure, List.map_cons]
theorem run_arrMapM {α β : Type} {f : α -> Sem β} {g : α -> β} (l : Array α) (h : ∀ x ∈ l.toList, (f x).run P w = .ok (g x) w) : (l.mapM f).run P w = .ok (l.map g) w := by
 rw [Array.mapM_eq_mapM_toList]
 simp only [Sem.run_map, run_listMapM (w := w) l.toList h, Result.andThen_ok]
 congr 1
 apply Array.ext'
 simp
theorem fill_step (off : Nat) : ∀ (vs : List Value) (k : Nat) (arr : Array Value), ∀ j : Nat,
 (((vs.zipIdx k).foldl (fun cs (cj : Value × Nat) => cs.setIfInBounds (off + cj.2) cj.1) arr)[j]? : Option Value) = if off + k <= j /\ j < off + k + vs.length /\ j < arr.size then vs[j - (off + k)]? else arr[j]?
 | [], k, arr, j => by simp only [List.zipIdx_nil, List.foldl_nil]; rw [if_neg (by simp only [List.length_nil]; omega)]
 | v :: vs, k, arr, j => by
   simp only [List.zipIdx_cons, List.foldl_cons]
   rw [fill_step off vs (k + 1) _ j]
   simp only [Array.size_setIfInBounds, Array.getElem?_setIfInBounds, List.length_cons]
   by_cases h1 : off + (k + 1) <= j /\ j < off + (k + 1) + vs.length /\ j < arr.size
   . rw [if_pos h1, if_pos (by omega)]
     obtain ⟨q, rfl⟩ : ∃ q, j = off + k + (q + 1) := ⟨j - (off + k) - 1, by omega⟩
     rw [show off + k + (q + 1) - (off + (k + 1)) = q by omega, show off + k + (q + 1) - (off + k) = q + 1 by omega]; simp
   . rw [if_neg h1]
     by_cases h2 : off + k = j
     . subst h2
       by_cases h3 : off + k < arr.size
       . simp [h3]
       . simp [h3]
     . rw [if_neg h2, if_neg (by omega)]
theorem fill_size (off : Nat) : ∀ (vs : List Value) (k : Nat) (arr : Array Value),
 ((vs.zipIdx k).foldl (fun cs (cj : Value × Nat) => cs.setIfInBounds (off + cj.2) cj.1) arr).size = arr.size
 | [], _, _ => rfl
 | v :: vs, k, arr => by simp only [List.zipIdx_cons, List.foldl_cons]; rw [fill_size off vs]; simp
theorem fill_ok (hrel : Rel P base ψ S w st a) {fs : Array Field} : ∀ (parts : List (Nat × Operand)) (cs : List Cell) (arr : Array Value) (r : List Cell),
 All2 (RepM P ψ S w) cs arr.toList -> fillCells τ fs (ev st) parts cs = some r ->
 ∃ arr', Instr.fill (fun i => (fs.map fun f => (f.offset, szOf τ f.type))[i]?) arr (parts.map fun p => (p.1, a.eval p.2)) = some arr' /\ All2 (RepM P ψ S w) r arr'.toList
 | [], cs, arr, r, h, hf => by simp [fillCells] at hf; subst hf; exact ⟨arr, rfl, h⟩
 | (i, x) :: ps, cs, arr, r, h, hf => by
   simp only [fillCells] at hf
   split at hf
   . rename_i nm ty off em tg pk bo hfi
     split at hf
     . rename_i d sz b z y ht hy
       split at hf
       . rename_i cs' hlay hsz hle hset
         have hsz := Nat.eq_of_beq_eq_true hsz
         have hle := Nat.le_of_ble_eq_true hle
         have hx := ev_rep hrel x
         rw [hy] at hx
         have hcells := RepVa.cells hx hlay
         have hlc := hcells.length
         have hl := h.length
         simp at hlc hl
         have h' : All2 (RepM P ψ S w) cs' (((a.eval x).cells.zipIdx.foldl (fun cs (cj : Value × Nat) => cs.setIfInBounds (off + cj.2) cj.1) arr)).toList := by
          rw [<- Array.foldl_toList, Array.toList_zipIdx]
          refine all2_upd h hcells hset ?_ ?_
          . simp [fill_size]
          . intro j
            rw [Array.getElem?_toList, fill_step]
            simp only [Array.getElem?_toList, Nat.add_zero, Array.length_toList]
            by_cases hj : off <= j /\ j < off + (a.eval x).cells.size
            . rw [if_pos hj, if_pos (by omega)]
            . rw [if_neg hj, if_neg (by omega)]
         obtain ⟨arr', g1, g2⟩ := fill_ok hrel ps cs' _ r h' hf
         have hpl : (fs.map fun f => (f.offset, szOf τ f.type))[i]? = some (off, sz) := by simp [hfi, szOf, ht]
         refine ⟨arr', ?_, g2⟩
         simp only [List.map_cons, Instr.fill]
         rw [hpl]
         simp only
         rw [if_neg (by simp only [Bool.or_eq_true, decide_eq_true_eq, ne_eq]; omega)]
         exact g1
       . simp at hf
     . simp at hf
   . simp at hf
theorem oPure_ok {s : Sem Value} (hrel : Rel P base ψ S w st a) (hrun : ∀ v, s.run P w = .ok v w -> (execOp a.eval o).run P w = .ok (.value v) w)
 (hk : oPure (pureRun P s) fun y => putK st o.dst y K) : OpOk P base ψ S w a o K := by
 unfold oPure at hk
 split at hk <;> first
  | exact hk.elim
  | (rename_i hs; refine OpOk.value (hrun _ (pureRun_ok hs w)) hrel ?_ hk (Ext.refl _ _ _ _); exact RepD.v trivial)
theorem plainVa_rep {x : Va} {v u : Value} (h : RepVa P ψ S w x v) (hp : plainVa x = some u) : v = u := by
 unfold plainVa at hp
 split at hp
 . simp at hp; subst hp; cases h; rfl
 . simp at hp; subst hp; exact h
 . simp at hp
theorem plain_rep {x : Tm} {v u : Value} (h : RepT P ψ S w x v) (hp : plain x = some u) : v = u := by
 cases x with
 | va x => exact plainVa_rep h hp
 | tup _ => simp [plain] at hp
theorem oUn_ok (hrel : Rel P base ψ S w st a) {op : UnOp} {t : TypeId} {x : Operand} {u : Value} (hop : o.op = .unOp op t x) (hp : plain (ev st x) = some u)
 (hk : oPure (pureRun P (Op.unary op u)) fun y => putK st o.dst y K) : OpOk P base ψ S w a o K := by
 have hx := plain_rep (ev_rep hrel x) hp
 exact oPure_ok hrel (fun v hv => by simp only [execOp, hop, hx, Sem.run_bind, hv, Result.andThen_ok, Sem.run_pure]) hk
theorem oConvert_ok (hrel : Rel P base ψ S w st a) {s t : TypeId} {x : Operand} {u : Value} (hop : o.op = .convert s t x) (hp : plain (ev st x) = some u)
 (hk : oPure (pureRun P (convert s t u)) fun y => putK st o.dst y K) : OpOk P base ψ S w a o K := by
 have hx := plain_rep (ev_rep hrel x) hp
 exact oPure_ok hrel (fun v hv => by simp only [execOp, hop, hx, Sem.run_bind, hv, Result.andThen_ok, Sem.run_pure]) hk
theorem oBin_ok (hrel : Rel P base ψ S w st a) {op : BinOp} {t ty : TypeId} {x y : Operand} (hop : o.op = .binOp op t x y ty)
 (hk : oBin P (ev st) op t x y fun y => putK st o.dst y K) : OpOk P base ψ S w a o K := by
 have hx := ev_rep hrel x
 have hy := ev_rep hrel y
 have gen : ∀ u v, a.eval x = u -> a.eval y = v -> (oPure (pureRun P (do eqGuard op t x y u v; binOp op t u v)) fun y => putK st o.dst y K) -> OpOk P base ψ S w a o K := by
  intro u v hu hv hk
  refine oPure_ok hrel (fun r hr => ?_) hk
  simp only [execOp, hop, hu, hv, Sem.run_bind] at hr ⊢
  rw [hr]; rfl
 unfold oBin at hk
 split at hk
 . rename_i k n k' n' h1 h2
   have e1 := plain_rep hx h1
   have e2 := plain_rep hy h2
   split at hk
   . obtain ⟨e, hne, hk0⟩ := hk
     have hk2 := hk0 e hne
     clear hk0
     subst e
     refine OpOk.value (x := vx _) (v := .int k (k.wrap (n.tdiv n'))) ?_ hrel ?_ hk2 (Ext.refl _ _ _ _)
     rotate_left
     . exact RepD.v trivial
     simp [execOp, hop, e1, e2, eqGuard, binOp, Op.intDiv, hne]
   . obtain ⟨e, hne, hk0⟩ := hk
     have hk2 := hk0 e hne
     clear hk0
     subst e
     refine OpOk.value (x := vx _) (v := .int k (n.tmod n')) ?_ hrel ?_ hk2 (Ext.refl _ _ _ _)
     rotate_left
     . exact RepD.v trivial
     simp [execOp, hop, e1, e2, eqGuard, binOp, Op.intDiv, hne]
   . exact gen _ _ e1 e2 hk
 . rename_i s s' h1 h2
   have e1 := plain_rep hx h1
   have e2 := plain_rep hy h2
   split at hk
   . obtain ⟨hle, hk⟩ := hk
     refine OpOk.value (x := vx _) (v := .string (s ++ s')) ?_ hrel ?_ hk (Ext.refl _ _ _ _)
     rotate_left
     . exact RepD.v trivial
     have hle' : ¬ ((s.size + s'.size : Nat) : Int) > IntKind.i64.max := by omega
     have hrun : (Op.stringOp .add s s').run P w = .ok (.string (s ++ s')) w := by
      simp only [Op.stringOp]; rw [if_neg hle']; rfl
     have heq : (eqGuard .add t x y (.string s) (.string s')).run P w = .ok () w := rfl
     simp only [execOp, hop, e1, e2, binOp, Sem.run_bind, heq, Result.andThen_ok, hrun]
     rfl
   . exact gen _ _ e1 e2 hk
 . rename_i u v _ _ h1 h2
   exact gen _ _ (plain_rep hx h1) (plain_rep hy h2) hk
 . exact hk.elim
theorem oField_ok (hτ : TysOk P τ) (hrel : Rel P base ψ S w st a) {t : TypeId} {x : Operand} {f : Nat} (hop : o.op = .field t x f) (hk : oField τ t (ev st x) f fun y => putK st o.dst y K) :
 OpOk P base ψ S w a o K := by
 have hx := ev_rep hrel x
 unfold oField at hk
 split at hk
 . rename_i fs sz bt z cs ht e
   rw [e] at hx
   obtain ⟨arr, hv, hx⟩ := hx
   split at hk
   . rename_i nm ty off em tg pk bo hf
     split at hk
     . rename_i d2 s2 b2 z2 ht2
       split at hk
       . rename_i r hr
         obtain ⟨h1, h2⟩ := takeN_all2 hx hr
         have hund := run_und hτ ht w
         simp only at hund
         have hag := run_agg hτ ht2 w
         have hsz := run_size hτ ht2 w
         simp only at hag hsz
         split at hk
         . rename_i y hy
           cases hw : wantAgg d2 with
           | true =>
             rw [hw] at hy hag
             simp only [mkVa, Option.some.injEq] at hy
             subst hy
             refine OpOk.value (x := .va (.agg r)) (v := .agg (arr.extract off (off + s2))) ?_ hrel ⟨_, rfl, ?_⟩ hk (Ext.refl _ _ _ _)
             . simp only [execOp, hop, hv, Instr.field, Sem.run_bind, hund, Result.andThen_ok, hf, asAgg, Sem.run_pure, part, hag, if_true, hsz]
             . have : (arr.extract off (off + s2)).toList = (arr.toList.drop off).take s2 := by
                rw [Array.toList_extract, List.extract_eq_take_drop]; congr 1; omega
               rw [this]; exact h1
           | false =>
             rw [hw] at hy hag
             cases r with
             | nil => simp [mkVa] at hy
             | cons c r =>
               cases r with
               | cons _ _ => simp [mkVa] at hy
               | nil =>
                 simp only [mkVa, Option.some.injEq] at hy
                 subst hy
                 cases hys : (arr.toList.drop off).take s2 with
                 | nil => rw [hys] at h1; exact h1.elim
                 | cons y1 ys =>
                   rw [hys] at h1
                   have hg : arr[off]? = some y1 := by
                    have : ((arr.toList.drop off).take s2)[0]? = some y1 := by rw [hys]; rfl
                    have := get_drop_take this
                    simpa using this
                   refine OpOk.value (x := .va (.c c)) (v := y1) ?_ hrel h1.1.1 hk (Ext.refl _ _ _ _)
                   simp only [execOp, hop, hv, Instr.field, Sem.run_bind, hund, Result.andThen_ok, hf, asAgg, Sem.run_pure, part, hag, Bool.false_eq_true, if_false, hg]
         . exact hk.elim
       . exact hk.elim
     . exact hk.elim
   . exact hk.elim
 . exact hk.elim
theorem oExtract_ok (hrel : Rel P base ψ S w st a) {t : Operand} {i : Nat} {xs : List Va} {y : Va} (hop : o.op = .extract t i) (ht : ev st t = .tup xs) (hy : xs[i]? = some y)
 (hk : putK st o.dst (.va y) K) : OpOk P base ψ S w a o K := by
 have hx := ev_rep hrel t
 rw [ht] at hx
 obtain ⟨arr, hv, hx⟩ := hx
 obtain ⟨v, h1, h2⟩ := hx.get i y hy
 refine OpOk.value (x := .va y) (v := v) ?_ hrel h2 hk (Ext.refl _ _ _ _)
 simp only [Array.getElem?_toList] at h1
 simp only [execOp, hop, hv, Instr.extract, h1, Sem.run_bind, Sem.run_pure, Result.andThen_ok]
theorem eachAt_get {j : Nat} {F : Nat -> Prop} : ∀ {n : Nat}, eachAt (j : Int) F n -> j < n -> F j
 | 0, _, h => by omega
 | n + 1, ⟨h1, h2⟩, h => by
   by_cases e : j = n
   . subst e; exact h2 rfl
   . exact eachAt_get h1 (by omega)
theorem oIndexAddr_ok (hτ : TysOk P τ) (hrel : Rel P base ψ S w st a) {t : TypeId} {x ix : Operand} (hop : o.op = .indexAddr t x ix) (hk : oIndexAddr τ t (ev st x) (ev st ix) fun y => putK st o.dst y K) :
 OpOk P base ψ S w a o K := by
 have hx := ev_rep hrel x
 have hi := ev_rep hrel ix
 unfold oIndexAddr at hk
 split at hk
 . rename_i len e sz0 bt z ht
   have hund := run_und hτ ht w
   simp only at hund
   split at hk
   . rename_i d2 sz b2 z2 ht2
     have hsz := run_size hτ ht2 w
     simp only at hsz
     split at hk
     . rename_i kk off k i e1 e2
       have hi := plain_rep hi e2
       rw [e1] at hx
       obtain ⟨b, m, hψ, hxv⟩ := hx
       have run : 0 <= i -> i < len -> (execOp a.eval o).run P w = .ok (.value (.pointer (some ⟨b, off + i.toNat * sz, none⟩))) w := by
        intro h3 h4
        simp only [execOp, hop, hxv, hi, Instr.indexAt, asIntOf, Instr.sureAddr, Sem.run_bind, Sem.run_pure, hund, Result.andThen_ok, if_pos (And.intro h3 h4), hsz, addr_add]
       split at hk
       . rename_i hb
         simp only [Bool.and_eq_true] at hb
         have hsz1 := Nat.eq_of_beq_eq_true hb.2
         subst hsz1
         obtain ⟨⟨h1, h2⟩, hk⟩ := hk
         refine OpOk.value (run h1 h2) hrel (x := .va (.c (.ap kk off len i.toNat))) ⟨b, m, hψ, by rw [Nat.mul_one]⟩ (hk h1 h2) (Ext.refl _ _ _ _)
       . obtain ⟨⟨h1, h2⟩, hk⟩ := hk
         obtain ⟨j, rfl⟩ := Int.eq_ofNat_of_zero_le h1
         have hj : j < len := by omega
         refine OpOk.value (run h1 h2) hrel (x := .va (.c (.own kk (off + j * sz)))) ⟨b, m, hψ, by simp⟩ (eachAt_get hk hj) (Ext.refl _ _ _ _)
     . exact hk.elim
   . exact hk.elim
 . rename_i e sz0 bt z ht
   have hund := run_und hτ ht w
   simp only at hund
   split at hk
   . rename_i d2 sz b2 z2 ht2
     have hsz := run_size hτ ht2 w
     simp only at hsz
     have run : ∀ b off n c k (i : Int), a.eval x = .slice (some ⟨b, off, none⟩) n c -> a.eval ix = .int k i -> 0 <= i -> i < n ->
      (execOp a.eval o).run P w = .ok (.value (.pointer (some ⟨b, off + i.toNat * sz, none⟩))) w := by
      intro b off n c k i h1 h2 h3 h4
      simp only [execOp, hop, h1, h2, Instr.indexAt, asIntOf, Sem.run_bind, Sem.run_pure, hund, Result.andThen_ok, if_pos (And.intro h3 h4), hsz, addr_add]
     split at hk
     . rename_i zz n f k i e1 e2
       have hi := plain_rep hi e2
       rw [e1] at hx
       obtain ⟨rfl, ⟨h1, h2⟩, hk⟩ := hk
       have hk := hk h1 h2
       generalize hv : a.eval x = vv at hx
       cases hx with
       | nil => omega
       | @lst _ _ _ b off c g hS hl hc hd hn =>
         refine OpOk.value (run b off n c k i hv hi h1 h2) hrel (x := .va (.c (.rp (f i.toNat)))) ⟨b, off + i.toNat * zz, (List.range zz).map (g i.toNat), rfl, hS, ?_, ?_⟩ hk (Ext.refl _ _ _ _)
         . have hit : i.toNat < n := by omega
           refine All2.of_get (by simp [hl _ hit]) fun j xx y hxx hy => ?_
           have hj : j < zz := by have := (List.getElem?_eq_some_iff.1 hxx).1; rwa [hl _ hit] at this
           have := hd i.toNat j hit hj
           simp [hj] at hy
           simpa [List.getD, hxx, hy] using this
         . intro j y hy
           have hj : j < zz := by have := (List.getElem?_eq_some_iff.1 hy).1; simpa using this
           simp [hj] at hy
           rw [<- hy]; exact hc i.toNat j (by omega) hj
     . rename_i kk zz o' n k i e1 e2
       have hi := plain_rep hi e2
       rw [e1] at hx
       obtain ⟨rfl, ⟨h1, h2⟩, hk⟩ := hk
       have hk := hk h1 h2
       rcases hx with ⟨_, hn, _⟩ | ⟨b, m, c, off, g1, g2, g3, g4⟩
       . omega
       . obtain ⟨rfl, g5⟩ := g4 (by omega)
         refine OpOk.value (run b _ n c k i g2 hi h1 h2) hrel (x := .va (.c (.ep kk zz (o' + i.toNat) 0))) ⟨b, m, g1, by rw [Nat.add_mul]; rfl⟩ hk (Ext.refl _ _ _ _)
     . exact hk.elim
   . exact hk.elim
 . exact hk.elim
theorem plains_cells : ∀ {cs : List Cell} {vs us : List Value}, mapO plainCell cs = some us -> All2 (RepM P ψ S w) cs vs -> vs = us
 | [], [], us, h, _ => by simp only [mapO, Option.some.injEq] at h; exact h
 | c :: cs, v :: vs, us, h, ⟨h1, h2⟩ => by
   simp only [mapO] at h
   split at h
   . rename_i y ys e1 e2
     simp at h; subst h
     rw [plains_cells e2 h2]
     congr 1
     have h1 := h1.1
     unfold plainCell at e1
     split at e1
     . simp at e1; subst e1; cases h1; rfl
     . simp at e1; subst e1; exact h1
     . simp at e1
   . simp at h
def valAs (d : TypeDesc) (xs : List Value) : Value := match wantAgg d with
 | true => .agg xs.toArray
 | false => xs.headD undef
theorem part_run (hτ : TysOk P τ) {t : TypeId} {i : TI} (ht : τ t = some i) {xs xs' : List Value} {off : Nat} (h : takeN (xs.drop off) i.size = some xs') (h1 : wantAgg i.desc = true \/ xs' ≠ []) :
 (part t xs.toArray off).run P w = .ok (valAs i.desc xs') w := by
 obtain ⟨g1, g2⟩ := takeN_spec h
 simp only [part, Sem.run_bind, run_agg hτ ht, Result.andThen_ok]
 cases hw : wantAgg i.desc with
 | true =>
   simp only [if_true, Sem.run_bind, run_size hτ ht, Result.andThen_ok, Sem.run_pure, valAs, hw]
   congr 2
   apply Array.ext'
   rw [g1, Array.toList_extract, List.extract_eq_take_drop]
   simp only [Nat.add_sub_cancel_left]
 | false =>
   simp only [Bool.false_eq_true, if_false, valAs, hw]
   cases xs' with
   | nil => rcases h1 with h1 | h1
            . rw [hw] at h1; cases h1
            . exact absurd rfl h1
   | cons x xs' =>
     have : ((xs.drop off).take i.size)[0]? = some x := by rw [<- g1]; rfl
     have := get_drop_take this
     simp only [Nat.add_zero] at this
     simp [this]
theorem eqAt_ok (hτ : TysOk P τ) : ∀ (n d : Nat) (t : TypeId) (xs ys : List Value) (b : Bool) (i : TI), n <= d -> τ t = some i -> eqAt τ n t xs ys = some b ->
 (Op.equalIn d t (valAs i.desc xs) (valAs i.desc ys)).run P w = .ok b w /\ (wantAgg i.desc = true \/ xs ≠ [])
 | 0, _, _, _, _, _, _, _, _, h => by simp [eqAt] at h
 | n + 1, 0, _, _, _, _, _, hn, _, _ => by omega
 | n + 1, d + 1, t, xs, ys, b, i, hn, ht, h => by
   obtain ⟨info, _, hund, _⟩ := hτ.ok t i ht
   simp only [eqAt, ht] at h
   split at h
   . rename_i i0 fs sz nb z e
     simp only [Option.some.injEq] at e
     subst e
     obtain ⟨c1, c2, c3⟩ := hτ.cmp t _ ht rfl
     refine ⟨?_, .inl rfl⟩
     have hund : P.underlying t = some (.struct fs) := hund
     have hfo : P.fieldsOf t = fs := by simp [Program.fieldsOf, hund]
     have hval : ∀ l, valAs (.struct fs) l = .agg l.toArray := fun _ => rfl
     simp only [hval]
     rw [run_equalIn_struct w d t _ _ (by rw [hfo]; exact hund) c1, hfo]
     have c3 := c3 fs rfl
     clear hund hfo
     generalize fs.toList = l at c3 h
     induction l generalizing b with
     | nil => simp at h; subst h; rfl
     | cons f l ih =>
       simp only [List.foldr_cons] at h
       split at h
       . rename_i b' ty sz' by' z' hb' hty
         split at h
         . rename_i xs' ys' hx hy
           split at h
           . rename_i c hc
             simp at h; subst h
             obtain ⟨g1, g2⟩ := eqAt_ok hτ n d f.type xs' ys' c _ (by omega) hty hc
             have hlen : xs'.length = ys'.length := by rw [(takeN_spec hx).2, (takeN_spec hy).2]
             have g2' : wantAgg ty = true \/ ys' ≠ [] := by
              rcases g2 with g2 | g2
              . exact .inl g2
              . right; intro e; rw [e] at hlen; simp at hlen; exact g2 hlen
             simp only [Op.eqFields, if_pos (c3 f (by simp)), Sem.run_bind, part_run hτ hty hx g2, part_run hτ hty hy g2', Result.andThen_ok, g1]
             cases c with
             | false => simp
             | true =>
               simp only [Bool.not_true, Bool.false_eq_true, if_false, Bool.true_and]
               exact ih b' (fun f hf => c3 f (by simp [hf])) hb'
           . simp at h
         . simp at h
       . simp at h
   . rename_i i0 len el sz nb z e
     simp only [Option.some.injEq] at e
     subst e
     refine ⟨?_, .inl rfl⟩
     have hund : P.underlying t = some (.array len el) := hund
     have hval : ∀ l, valAs (.array len el) l = .agg l.toArray := fun _ => rfl
     simp only [hval]
     split at h
     . rename_i ty sz' by' z' hty
       obtain ⟨info, hin, _, hsz, _⟩ := hτ.ok el _ hty
       have hc : P.cellsOf el = sz' := by unfold Program.cellsOf; rw [hin]; exact hsz
       rw [run_equalIn_array w d _ _ hund hin, hc]
       generalize List.range len = l at h
       induction l generalizing b with
       | nil => simp at h; subst h; rfl
       | cons f l ih =>
         simp only [List.foldr_cons] at h
         split at h
         . rename_i b' hb'
           split at h
           . rename_i xs' ys' hx hy
             split at h
             . rename_i c hc
               simp at h; subst h
               obtain ⟨g1, g2⟩ := eqAt_ok hτ n d el xs' ys' c _ (by omega) hty hc
               have hlen : xs'.length = ys'.length := by rw [(takeN_spec hx).2, (takeN_spec hy).2]
               have g2' : wantAgg ty = true \/ ys' ≠ [] := by
                rcases g2 with g2 | g2
                . exact .inl g2
                . right; intro e; rw [e] at hlen; simp at hlen; exact g2 hlen
               simp only [Op.eqItems, Sem.run_bind, part_run hτ hty hx g2, part_run hτ hty hy g2', Result.andThen_ok, g1]
               cases c with
               | false => simp
               | true =>
                 simp only [Bool.not_true, Bool.false_eq_true, if_false, Bool.true_and]
                 exact ih b' hb'
             . simp at h
           . simp at h
         . simp at h
     . simp at h
   . rename_i i0 k sz bt z e
     simp only [Option.some.injEq] at e
     subst e
     have hund : P.underlying t = some (.int k) := hund
     split at h
     . rename_i k1 x k2 y
       split at h
       . rename_i hk
         have hk : k1 = k2 := of_decide_eq_true hk
         subst hk
         simp at h; subst h
         exact ⟨run_equalIn_int w d t k1 k x y hund, .inr (by simp)⟩
       . simp at h
     . simp at h
   . rename_i i0 sz bt z e
     simp only [Option.some.injEq] at e
     subst e
     have hund : P.underlying t = some .bool := hund
     split at h
     . simp at h; subst h
       exact ⟨run_equalIn_bool w d t _ _ hund, .inr (by simp)⟩
     . simp at h
   . rename_i i0 sz bt z e
     simp only [Option.some.injEq] at e
     subst e
     have hund : P.underlying t = some .string := hund
     split at h
     . simp at h; subst h
       exact ⟨run_equalIn_string w d t _ _ hund, .inr (by simp)⟩
     . simp at h
   . simp at h
theorem cmpT_spec {t : TypeId} (h : cmpT τ t = true) : ∃ ti, τ t = some ti /\ ti.bytes.cmp = true /\ wantAgg ti.desc = true := by
 unfold cmpT at h
 split at h
 . rename_i hτ; exact ⟨_, hτ, rfl, rfl⟩
 . rename_i hτ; exact ⟨_, hτ, rfl, rfl⟩
 . cases h
theorem oEq_ok (hτ : TysOk P τ) (hrel : Rel P base ψ S w st a) {op : BinOp} {t ty : TypeId} {x y : Operand} {xs ys : List Cell} (hop : o.op = .binOp op t x y ty)
 (hx : ev st x = .va (.agg xs)) (hy : ev st y = .va (.agg ys)) (hk : oEq τ op t xs ys fun y => putK st o.dst y K) : OpOk P base ψ S w a o K := by
 have rx := ev_rep hrel x
 have ry := ev_rep hrel y
 rw [hx] at rx; rw [hy] at ry
 obtain ⟨ax, vx', rx⟩ := rx
 obtain ⟨ay, vy', ry⟩ := ry
 unfold oEq at hk
 split at hk
 . rename_i us vs ht hu hv
   obtain ⟨ti, ht, hcm, hag⟩ := cmpT_spec ht
   have e1 := plains_cells hu rx
   have e2 := plains_cells hv ry
   have eax : ax = us.toArray := by apply Array.ext'; simpa using e1
   have eay : ay = vs.toArray := by apply Array.ext'; simpa using e2
   subst eax; subst eay
   obtain ⟨_, c2, _⟩ := hτ.cmp t _ ht hcm
   have hgd : ∀ op, (eqGuard op t x y (.agg us.toArray) (.agg vs.toArray)).run P w = .ok () w := by
    intro op
    unfold eqGuard
    cases op <;> first | rfl | simp [c2]
   cases heq : eqAt τ 50 t us vs with
   | none => simp [heq] at hk
   | some b =>
     rw [heq] at hk
     obtain ⟨hrun, _⟩ := eqAt_ok (w := w) hτ 50 10000 t us vs b _ (by omega) ht heq
     have hva : ∀ l, valAs ti.desc l = .agg l.toArray := fun l => by unfold valAs; rw [hag]
     rw [hva, hva] at hrun
     have hrun : (Op.equal t (.agg us.toArray) (.agg vs.toArray)).run P w = .ok b w := hrun
     split at hk
     . rename_i b' hb; simp at hb; subst hb
       refine OpOk.value (x := vx (.bool b)) (v := .bool b) ?_ hrel (RepD.v trivial) hk (Ext.refl _ _ _ _)
       simp only [execOp, hop, vx', vy', Sem.run_bind, hgd, Result.andThen_ok, binOp, hrun]
       rfl
     . rename_i b' hb; simp at hb; subst hb
       refine OpOk.value (x := vx (.bool (!b))) (v := .bool (!b)) ?_ hrel (RepD.v trivial) hk (Ext.refl _ _ _ _)
       simp only [execOp, hop, vx', vy', Sem.run_bind, hgd, Result.andThen_ok, binOp, hrun]
       rfl
     . exact hk.elim
 . exact hk.elim
end
section
variable {P : Program} {τ : Tys} {base : Nat} {ψ ψ' : Psi} {S S' : Nat → Prop} {w w' : World} {st st1 : St} {a : Act} {o : Oper} {K : St → Prop}
theorem args_rep (hrel : Rel P base ψ S w st a) {xs : List Operand} {as : List Va} (h : mapO (fun x => asVa (ev st x)) xs = some as) : All2 (RepVa P ψ S w) as (xs.map a.eval) := by
 have := mapO_some h
 have h2 : All2 (fun x v => RepT P ψ S w (ev st x) v) xs (xs.map a.eval) := by
  clear this h
  induction xs with
  | nil => trivial
  | cons x xs ih => exact ⟨ev_rep hrel x, ih⟩
 refine All2.comp (T := RepVa P ψ S w) (fun x y v h1 h2 => ?_) this h2
 revert h1 h2
 cases hx : ev st x with
 | va y' => simp only [asVa, Option.some.injEq]; intro h1 h2; subst h1; exact h2
 | tup _ => simp [asVa]
theorem plains_rep (hrel : Rel P base ψ S w st a) {xs : List Operand} {as : List Value} (h : mapO (fun x => plain (ev st x)) xs = some as) : xs.map a.eval = as := by
 have := mapO_some h
 clear h
 induction xs generalizing as with
 | nil => cases as with | nil => rfl | cons _ _ => exact this.elim
 | cons x xs ih => cases as with
   | nil => exact this.elim
   | cons y ys => simp only [List.map_cons]; rw [plain_rep (ev_rep hrel x) this.1, ih this.2]
theorem call_builtin {b : Builtin} {args : Array Operand} {ts : Array TypeId} (hop : o.op = .call { callee := .builtin b, args, argTypes := ts }) :
 execOp a.eval o = builtin b ts o.type (args.map fun | .const _ => true | _ => false) (args.map a.eval) := by
 simp only [execOp, hop, resolve]
 rfl
theorem oLen_ok (hτ : TysOk P τ) (hrel : Rel P base ψ S w st a) {args : Array Operand} {ts : Array TypeId} (hop : o.op = .call { callee := .builtin .len, args, argTypes := ts })
 (hk : oLen P τ ts o.type (mapO (fun x => asVa (ev st x)) args.toList) fun y => putK st o.dst y K) : OpOk P base ψ S w a o K := by
 have hex := call_builtin (a := a) hop
 have arg : ∀ va, mapO (fun x => asVa (ev st x)) args.toList = some [va] -> ∃ v, args.map a.eval = #[v] /\ RepVa P ψ S w va v := by
  intro va h
  have := args_rep hrel h
  rw [<- Array.toList_map] at this
  generalize args.map a.eval = A at this
  obtain ⟨l⟩ := A
  cases l with
  | nil => exact this.elim
  | cons v l => cases l with
    | nil => exact ⟨v, rfl, this.1⟩
    | cons _ _ => exact this.2.elim
 unfold oLen at hk
 split at hk
 . rename_i t hts
   split at hk
   . rename_i e sz bt z ht
     have hund := run_und hτ ht w
     simp only at hund
     have run : ∀ a0 n c, args.map a.eval = #[.slice a0 n c] -> (execOp a.eval o).run P w = .ok (.value (.int .i64 n)) w := by
      intro a0 n c hv
      rw [hex, hv]
      simp only [builtin, Builtin.len_, hts, Sem.run_bind]
      simp [hund, goInt]
     split at hk
     . rename_i zz n f h
       obtain ⟨v, h1, h2⟩ := arg _ h
       cases h2 with
       | nil => exact OpOk.value (run _ _ _ h1) hrel (x := vx _) (RepD.v trivial) hk (Ext.refl _ _ _ _)
       | lst => exact OpOk.value (run _ _ _ h1) hrel (x := vx _) (RepD.v trivial) hk (Ext.refl _ _ _ _)
     . rename_i k1 z1 o1 n h
       obtain ⟨v, h1, h2⟩ := arg _ h
       rcases h2 with ⟨_, rfl, _, rfl⟩ | ⟨b, m, c, off, _, rfl, _⟩
       . exact OpOk.value (run _ _ _ h1) hrel (x := vx _) (RepD.v trivial) hk (Ext.refl _ _ _ _)
       . exact OpOk.value (run _ _ _ h1) hrel (x := vx _) (RepD.v trivial) hk (Ext.refl _ _ _ _)
     . rename_i k1 z1 o1 n c h
       obtain ⟨v, h1, h2⟩ := arg _ h
       rcases h2 with ⟨_, rfl, _, _, rfl⟩ | ⟨b, m, off, _, rfl, _⟩
       . exact OpOk.value (run _ _ _ h1) hrel (x := vx _) (RepD.v trivial) hk (Ext.refl _ _ _ _)
       . exact OpOk.value (run _ _ _ h1) hrel (x := vx _) (RepD.v trivial) hk (Ext.refl _ _ _ _)
     . rename_i n c h
       obtain ⟨v, h1, h2⟩ := arg _ h
       cases h2
       exact OpOk.value (run _ _ _ h1) hrel (x := vx _) (RepD.v trivial) hk (Ext.refl _ _ _ _)
     . exact hk.elim
   . rename_i i ht hne
     split at hk
     . rename_i x h
       obtain ⟨v, h1, h2⟩ := arg _ h
       cases h2
       refine oPure_ok hrel (fun r hr => ?_) hk
       rw [hex, h1]
       simp only [builtin, Sem.run_bind, hr, Result.andThen_ok, Sem.run_pure]
     . exact hk.elim
   . exact hk.elim
 . exact hk.elim
theorem oMin_ok (hrel : Rel P base ψ S w st a) {args : Array Operand} {ts : Array TypeId} {as : List Value} (hop : o.op = .call { callee := .builtin .min, args, argTypes := ts })
 (ha : mapO (fun x => plain (ev st x)) args.toList = some as) (hk : oPure (pureRun P (Builtin.min_ ts o.type as.toArray)) fun y => putK st o.dst y K) : OpOk P base ψ S w a o K := by
 have h1 := plains_rep hrel ha
 have h2 : args.map a.eval = as.toArray := by apply Array.ext'; simpa using h1
 refine oPure_ok hrel (fun r hr => ?_) hk
 rw [call_builtin hop, h2]
 simp only [builtin, Sem.run_bind, hr, Result.andThen_ok, Sem.run_pure]
theorem oMax_ok (hrel : Rel P base ψ S w st a) {args : Array Operand} {ts : Array TypeId} {as : List Value} (hop : o.op = .call { callee := .builtin .max, args, argTypes := ts })
 (ha : mapO (fun x => plain (ev st x)) args.toList = some as) (hk : oPure (pureRun P (Builtin.max_ ts o.type as.toArray)) fun y => putK st o.dst y K) : OpOk P base ψ S w a o K := by
 have h1 := plains_rep hrel ha
 have h2 : args.map a.eval = as.toArray := by apply Array.ext'; simpa using h1
 refine oPure_ok hrel (fun r hr => ?_) hk
 rw [call_builtin hop, h2]
 simp only [builtin, Sem.run_bind, hr, Result.andThen_ok, Sem.run_pure]
theorem oCap_ok (hτ : TysOk P τ) (hrel : Rel P base ψ S w st a) {args : Array Operand} {ts : Array TypeId} (hop : o.op = .call { callee := .builtin .cap, args, argTypes := ts })
 (hk : oCap P τ ts o.type (mapO (fun x => asVa (ev st x)) args.toList) fun y => putK st o.dst y K) : OpOk P base ψ S w a o K := by
 have hex := call_builtin (a := a) hop
 have arg : ∀ va, mapO (fun x => asVa (ev st x)) args.toList = some [va] -> ∃ v, args.map a.eval = #[v] /\ RepVa P ψ S w va v := by
  intro va h
  have := args_rep hrel h
  rw [<- Array.toList_map] at this
  generalize args.map a.eval = A at this
  obtain ⟨l⟩ := A
  cases l with
  | nil => exact this.elim
  | cons v l => cases l with
    | nil => exact ⟨v, rfl, this.1⟩
    | cons _ _ => exact this.2.elim
 unfold oCap at hk
 split at hk
 . rename_i k1 z1 o1 n c h
   obtain ⟨v, h1, h2⟩ := arg _ h
   split at hk
   . rename_i t hts
     split at hk
     . rename_i e sz bt z ht
       have hund := run_und hτ ht w
       simp only at hund
       have run : ∀ a0, v = .slice a0 n c -> (execOp a.eval o).run P w = .ok (.value (.int .i64 c)) w := by
        intro a0 hv
        rw [hex, h1, hv]
        simp only [builtin, Builtin.cap_, hts, Sem.run_bind]
        simp [hund, goInt]
       rcases h2 with ⟨_, rfl, rfl, a0, hv⟩ | ⟨b, m, off, _, hv, _⟩
       . exact OpOk.value (run _ hv) hrel (x := vx _) (RepD.v trivial) hk (Ext.refl _ _ _ _)
       . exact OpOk.value (run _ hv) hrel (x := vx _) (RepD.v trivial) hk (Ext.refl _ _ _ _)
     . exact hk.elim
   . exact hk.elim
 . rename_i x h
   obtain ⟨v, h1, h2⟩ := arg _ h
   cases h2
   refine oPure_ok hrel (fun r hr => ?_) hk
   rw [hex, h1]
   simp only [builtin, Sem.run_bind, hr, Result.andThen_ok, Sem.run_pure]
 . exact hk.elim
theorem oReal_ok (hrel : Rel P base ψ S w st a) {args : Array Operand} {ts : Array TypeId} {as : List Value} (hop : o.op = .call { callee := .builtin .real, args, argTypes := ts })
 (ha : mapO (fun x => plain (ev st x)) args.toList = some as) (hk : oPure (pureRun P (Builtin.real_ ts o.type as.toArray)) fun y => putK st o.dst y K) : OpOk P base ψ S w a o K := by
 have h1 := plains_rep hrel ha
 have h2 : args.map a.eval = as.toArray := by apply Array.ext'; simpa using h1
 refine oPure_ok hrel (fun r hr => ?_) hk
 rw [call_builtin hop, h2]
 simp only [builtin, Sem.run_bind, hr, Result.andThen_ok, Sem.run_pure]
theorem oImag_ok (hrel : Rel P base ψ S w st a) {args : Array Operand} {ts : Array TypeId} {as : List Value} (hop : o.op = .call { callee := .builtin .imag, args, argTypes := ts })
 (ha : mapO (fun x => plain (ev st x)) args.toList = some as) (hk : oPure (pureRun P (Builtin.imag_ ts o.type as.toArray)) fun y => putK st o.dst y K) : OpOk P base ψ S w a o K := by
 have h1 := plains_rep hrel ha
 have h2 : args.map a.eval = as.toArray := by apply Array.ext'; simpa using h1
 refine oPure_ok hrel (fun r hr => ?_) hk
 rw [call_builtin hop, h2]
 simp only [builtin, Sem.run_bind, hr, Result.andThen_ok, Sem.run_pure]
theorem oComplex_ok (hrel : Rel P base ψ S w st a) {args : Array Operand} {ts : Array TypeId} {as : List Value} (hop : o.op = .call { callee := .builtin .complex, args, argTypes := ts })
 (ha : mapO (fun x => plain (ev st x)) args.toList = some as) (hk : oPure (pureRun P (Builtin.complex_ ts o.type as.toArray)) fun y => putK st o.dst y K) : OpOk P base ψ S w a o K := by
 have h1 := plains_rep hrel ha
 have h2 : args.map a.eval = as.toArray := by apply Array.ext'; simpa using h1
 refine oPure_ok hrel (fun r hr => ?_) hk
 rw [call_builtin hop, h2]
 simp only [builtin, Sem.run_bind, hr, Result.andThen_ok, Sem.run_pure]
theorem oPtr_ok (hτ : TysOk P τ) (hrel : Rel P base ψ S w st a) {op : BinOp} {t ty : TypeId} {x y : Operand} (hop : o.op = .binOp op t x y ty) {k off : Nat} (hx : ev st x = .va (.c (.own k off)))
 (hy : ev st y = .va (.c (.d (.v (.pointer none))))) (hk : oPtr τ op t fun z => putK st o.dst z K) : OpOk P base ψ S w a o K := by
 have rx := ev_rep hrel x
 have ry := ev_rep hrel y
 rw [hx] at rx
 rw [hy] at ry
 obtain ⟨b, m, _, rx⟩ := rx
 have ry : a.eval y = .pointer none := by generalize a.eval y = q at ry; cases ry; rfl
 unfold oPtr at hk
 split at hk
 . rename_i e sz bt z ht
   have hu := run_und hτ ht w
   simp only at hu
   have heq : (Op.equal t (.pointer (some ⟨b, off, none⟩)) (.pointer none)).run P w = .ok false w := by
    unfold Op.equal Op.maxDepth
    unfold Op.equalIn
    simp only [Sem.run_bind, hu, Result.andThen_ok]
    rfl
   split at hk
   . refine OpOk.value (v := .bool false) ?_ hrel (x := .va (.c (.kb false))) rfl hk (Ext.refl _ _ _ _)
     simp only [execOp, hop, rx, ry, eqGuard, Sem.run_bind, Sem.run_pure, Result.andThen_ok]
     simp [binOp, heq]
   . refine OpOk.value (v := .bool true) ?_ hrel (x := .va (.c (.kb true))) rfl hk (Ext.refl _ _ _ _)
     simp only [execOp, hop, rx, ry, eqGuard, Sem.run_bind, Sem.run_pure, Result.andThen_ok]
     simp [binOp, heq]
   . exact hk.elim
 . exact hk.elim
def CallsOk (P : Program) (base : Nat) (calls : Nat -> List Va -> St -> (Tm -> St -> Prop) -> Prop) : Prop :=
 ∀ f as st K, calls f as st K -> ∀ ψ S w a vals, Rel P base ψ S w st a -> All2 (RepVa P ψ S w) as vals ->
  Runs P f vals.toArray w fun e w' => ∃ r st' v ψ' S', e = .returned v /\ K r st' /\ Rel P base ψ' S' w' st' a /\ RepT P ψ' S' w' r v /\ Ext base ψ S w ψ' S' w'
theorem wp_runs {f : Operand} {args : Array Operand} {ts : Array TypeId} {g : Nat} {first caps : Array Value} (hop : o.op = .call { callee := .value f, args, argTypes := ts })
 (hf : a.eval f = .func (.func g) first caps) {R : Ending -> World -> Prop} (h : Runs P g (first ++ args.map a.eval ++ caps) w R) {next : Act -> World -> Prop} {Q : Exit -> Act -> World -> Prop}
 (hr : ∀ e w', R e w' -> ∃ v, e = .returned v /\ next (a.put o.dst v) w') : o.wp P a w next Q := by
 have e : (execOp a.eval o).run P w = (callFunc g (first ++ args.map a.eval ++ caps)).run P w := by
  simp only [execOp, hop, resolve, hf, Deferred.ofValue, Sem.run_bind, Sem.run_pure, Result.andThen_ok, invoke]
 rcases h with ⟨hc, h⟩ | ⟨v, w', h1, h2⟩
 . simp only [Oper.wp, e, run_enter hc, Oper.upon]
   refine h.mono ?_
   intro e' w' he
   obtain ⟨v, rfl, hn⟩ := hr _ _ he
   exact hn
 . simp only [Oper.wp, e, h1, Oper.upon]
   obtain ⟨v', e', hn⟩ := hr _ _ h2
   cases e'
   exact hn
theorem Ext0.ext {ψ : Psi} (hs : ∀ b, S b -> b < w.heap.size) (h : Ext0 S w S' w') : Ext base ψ S w ψ S' w' where
 os := h.os
 tape := h.tape
 output := h.output
 grow := h.grow
 old b hb _ := h.old b hb
 later := ⟨h.sub, fun b hb => h.old b (hs b hb)⟩
 newS b hb := by rcases h.newS b hb with h1 | h1; exact .inl h1; exact .inr (.inr h1)
 newP k b m hk := .inl ⟨k, m, hk⟩
 agr _ _ := rfl
theorem fillRow_ok (hrel : Rel P base ψ S w st a) {sz : Nat} : ∀ (parts : List (Nat × Operand)) (cs : List Cell) (arr : Array Value) (r : List Cell),
 All2 (RepM P ψ S w) cs arr.toList -> fillRow sz (ev st) parts cs = some r ->
 ∃ arr', Instr.fill (fun i => some (i * sz, sz)) arr (parts.map fun p => (p.1, a.eval p.2)) = some arr' /\ All2 (RepM P ψ S w) r arr'.toList
 | [], cs, arr, r, h, hf => by simp [fillRow] at hf; subst hf; exact ⟨arr, rfl, h⟩
 | (i, x) :: ps, cs, arr, r, h, hf => by
   simp only [fillRow] at hf
   split at hf
   . rename_i y hy
     split at hf
     . rename_i cs' hlay hsz hle hset
       have hsz := Nat.eq_of_beq_eq_true hsz
       have hle := Nat.le_of_ble_eq_true hle
       have hx := ev_rep hrel x
       rw [hy] at hx
       have hcells := RepVa.cells hx hlay
       have hlc := hcells.length
       have hl := h.length
       simp at hlc hl
       have h' : All2 (RepM P ψ S w) cs' (((a.eval x).cells.zipIdx.foldl (fun cs (cj : Value × Nat) => cs.setIfInBounds (i * sz + cj.2) cj.1) arr)).toList := by
        rw [<- Array.foldl_toList, Array.toList_zipIdx]
        refine all2_upd h hcells hset ?_ ?_
        . simp [fill_size]
        . intro j
          rw [Array.getElem?_toList, fill_step]
          simp only [Array.getElem?_toList, Nat.add_zero, Array.length_toList]
          by_cases hj : i * sz <= j /\ j < i * sz + (a.eval x).cells.size
          . rw [if_pos hj, if_pos (by omega)]
          . rw [if_neg hj, if_neg (by omega)]
       obtain ⟨arr', g1, g2⟩ := fillRow_ok hrel ps cs' _ r h' hf
       refine ⟨arr', ?_, g2⟩
       simp only [List.map_cons, Instr.fill]
       rw [if_neg (by simp only [Bool.or_eq_true, decide_eq_true_eq, ne_eq]; omega)]
       exact g1
     . simp at hf
   . simp at hf
theorem oBuild_ok (hτ : TysOk P τ) (hz : ∀ t i, τ t = some i -> zeroOk i.zero) (hrel : Rel P base ψ S w st a) {t : TypeId} {parts : Array (Nat × Operand)} (hop : o.op = .build t parts)
 (hk : oBuild τ (ev st) t parts.toList fun y => putK st o.dst y K) : OpOk P base ψ S w a o K := by
 unfold oBuild at hk
 split at hk
 . rename_i fs sz bt z ht
   split at hk
   . rename_i cs hall hfill
     have hund := run_und hτ ht w
     have hzero := run_zeroV hτ ht w
     simp only at hund hzero
     obtain ⟨arr', h1, h2⟩ := fill_ok (P := P) hrel parts.toList _ z.cells _ (zero_cells (hz _ _ ht)) hfill
     refine OpOk.value (x := .va (.agg cs)) (v := .agg arr') ?_ hrel ⟨arr', rfl, h2⟩ hk (Ext.refl _ _ _ _)
     have hplaces : (fs.mapM (fun f => do pure (f.offset, <- sizeOf f.type)) : Sem (Array (Nat × Nat))).run P w = .ok (fs.map fun f => (f.offset, szOf τ f.type)) w := by
      refine run_arrMapM fs fun f hf => ?_
      have := (List.all_eq_true.1 hall) f hf
      cases hft : τ f.type with
      | none => simp [hft] at this
      | some i => simp [run_size hτ hft, szOf, hft]
     simp only [execOp, hop, Instr.build, Sem.run_bind, hund, hzero, Result.andThen_ok, hplaces]
     have : (Array.map (fun p => (p.1, a.eval p.2)) parts).toList = parts.toList.map fun p => (p.1, a.eval p.2) := by simp
     rw [this, h1]
     rfl
   . exact hk.elim
 . rename_i len e sz bt z ht
   split at hk
   . rename_i d esz b ez hte
     split at hk
     . rename_i cs hfill
       have hund := run_und hτ ht w
       have hzero := run_zeroV hτ ht w
       have hes := run_size (w := w) hτ hte
       simp only at hund hzero hes
       obtain ⟨arr', h1, h2⟩ := fillRow_ok (P := P) hrel parts.toList _ z.cells _ (zero_cells (hz _ _ ht)) hfill
       refine OpOk.value (x := .va (.agg cs)) (v := .agg arr') ?_ hrel ⟨arr', rfl, h2⟩ hk (Ext.refl _ _ _ _)
       simp only [execOp, hop, Instr.build, Sem.run_bind, hund, hzero, Result.andThen_ok, hes]
       have : (Array.map (fun p => (p.1, a.eval p.2)) parts).toList = parts.toList.map fun p => (p.1, a.eval p.2) := by simp
       rw [this, h1]
       rfl
     . exact hk.elim
   . exact hk.elim
 . exact hk.elim
theorem zeroRow_ok {z : Value} (hz : zeroOk z) {sz n : Nat} (hl : (zeroCells' z).length = sz) (hp : 0 < sz) : All2 (RepM P ψ S w) (zeroRow (zeroCells' z) n) ((Array.range n).map (z.cells[· % z.cells.size]!)).toList := by
 have hzc := zero_cells (P := P) (ψ := ψ) (S := S) (w := w) hz
 have hlen := hzc.length
 simp at hlen
 refine All2.of_get (by simp [zeroRow]) ?_
 intro i x y hx hy
 simp only [zeroRow, List.getElem?_map] at hx
 have hi : i < n := by
  rcases Nat.lt_or_ge i n with h | h
  . exact h
  . rw [List.getElem?_eq_none (by simpa using h)] at hx; simp at hx
 have hr : (List.range n)[i]? = some i := by simp [hi]
 rw [hr] at hx
 simp only [Option.map_some, Option.some.injEq] at hx
 have hm : i % (zeroCells' z).length < (zeroCells' z).length := Nat.mod_lt _ (by omega)
 obtain ⟨v, h1, h2⟩ := hzc.get (i % (zeroCells' z).length) ((zeroCells' z)[i % (zeroCells' z).length]) (by simp [hm])
 have hx' : (zeroCells' z)[i % (zeroCells' z).length] = x := by rw [<- hx]; simp [hm]
 have hy' : v = y := by
  simp only [Array.getElem?_toList, Array.getElem?_map] at hy
  have : (Array.range n)[i]? = some i := by simp [hi]
  rw [this] at hy
  simp only [Option.map_some, Option.some.injEq] at hy
  rw [<- hy, <- hlen]
  rw [Array.getElem?_toList] at h1
  have hb := (Array.getElem?_eq_some_iff.1 h1)
  obtain ⟨hb1, hb2⟩ := hb
  rw [getElem!_pos (c := z.cells) (i := i % (zeroCells' z).length) (h := hb1)]
  exact hb2.symm
 rw [<- hx', <- hy']; exact h2
theorem oBuildSlice_ok (hτ : TysOk P τ) (hz : ∀ t i, τ t = some i -> zeroOk i.zero) (hrel : Rel P base ψ S w st a) {t : TypeId} {len : Nat} {parts : Array (Nat × Operand)} (hop : o.op = .buildSlice t len parts)
 (hk : oBuildSlice τ st o.dst t len parts.toList K) : OpOk P base ψ S w a o K := by
 unfold oBuildSlice at hk
 split at hk
 . rename_i e sz' bt' z' ht
   split at hk
   . rename_i desc sz bt z hte
     split at hk
     . rename_i cs hle hzl hpos hfill
       have hle := Nat.le_of_ble_eq_true hle
       have hzl := Nat.eq_of_beq_eq_true hzl
       have hpos : 0 < sz := by simpa [Nat.blt_eq] using hpos
       have hund := run_und hτ ht w
       have hsize := run_size hτ hte w
       have hzero := run_zeroV hτ hte w
       simp only at hund hsize hzero
       obtain ⟨arr, h1, h2⟩ := fillRow_ok (P := P) hrel parts.toList _ _ _ (zeroRow_ok (hz _ _ hte) (n := len * sz) hzl hpos) hfill
       obtain ⟨ds, h3, h4⟩ := closeCells_rep hrel.sim hk h2
       rw [fDs_eq] at h4
       obtain ⟨ts, h, n, m⟩ := st
       simp only [newRowK] at h4
       have hlen : ds.length = len * sz := by
        have e1 := h3.length
        have e2 := h2.length
        have : ∀ (ps : List (Nat × Operand)) (c r : List Cell), fillRow sz (ev ⟨ts, h, n, m⟩) ps c = some r -> r.length = c.length := by
         intro ps
         induction ps with
         | nil => intro c r hf; simp [fillRow] at hf; rw [hf]
         | cons p ps ih =>
           intro c r hf
           simp only [fillRow] at hf
           split at hf
           . split at hf
             . rename_i hset
               rw [ih _ _ hf]
               exact (setAt_spec _ _ _ _ hset).1
             . simp at hf
           . simp at hf
        have e3 := this _ _ _ hfill
        rw [e1, <- e2, e3]; simp [zeroRow]
       have hn : ψ n = none := hrel.sim.dom n (Nat.le_refl _)
       have hl := later_alloc hrel.sim.sdom (Obj.cells arr e)
       have hasz : arr.size = len * sz := by have := h3.length; simp at this; omega
       have hrep : BlkRep P (ψ.set n (.at w.heap.size arr.size)) S (w.alloc (.cells arr e)) (.row sz len (rowAt sz ds)) (.at w.heap.size arr.size) := by
        refine ⟨arr, e, heap_alloc_new _, rfl, by omega, ?_, ?_⟩
        . intro i hi
          have := Nat.mul_le_mul_right sz (Nat.succ_le_of_lt hi)
          rw [Nat.succ_mul] at this
          simp [rowAt]; omega
        . intro i j hi hj
          have := Nat.mul_le_mul_right sz (Nat.succ_le_of_lt hi)
          rw [Nat.succ_mul] at this
          have hlt : i * sz + j < ds.length := by omega
          obtain ⟨v, g1, g2⟩ := h3.get (i * sz + j) (ds[i * sz + j]) (by simp [hlt])
          have e1 : (rowAt sz ds i).getD j (.v (.bool false)) = ds[i * sz + j] := by
           simp [rowAt, List.getD, List.getElem?_drop, hj, hlt]
          have e2 : arr.getD (i * sz + j) undef = v := by
           rw [Array.getElem?_toList] at g1
           simp [Array.getD_eq_getD_getElem?, g1]
          rw [e1, e2]; exact g2.later hl
       obtain ⟨k1, k2⟩ := hrel.alloc (blk := .row sz len (rowAt sz ds)) (arr := arr) (e := e) hrep
       refine OpOk.value (v := .slice (some ⟨w.heap.size, 0, none⟩) len len) ?_ k1 ?_ h4 k2
       . have hp : (Array.map (fun p => (p.1, a.eval p.2)) parts).toList = parts.toList.map fun p => (p.1, a.eval p.2) := by simp
         have hgt : ¬ len * sz > 2 ^ 24 := by omega
         by_cases h0 : len * sz = 0
         . have : (Array.range (len * sz)).map ((z.cells[· % z.cells.size]!)) = (Array.range (len * sz)).map ((#[] : Array Value)[· % (#[] : Array Value).size]!) := by rw [h0]; simp
           rw [this] at h1
           simp only [execOp, hop, Instr.buildSlice, Sem.run_bind, hund, hsize, Result.andThen_ok, if_neg hgt, if_pos h0, Sem.run_pure, hp, h1, newRow, run_newObj]
           rfl
         . simp only [execOp, hop, Instr.buildSlice, Sem.run_bind, hund, hsize, hzero, Result.andThen_ok, if_neg hgt, if_neg h0, Sem.run_pure, hp, h1, newRow, run_newObj]
           rfl
       . exact .inr ⟨w.heap.size, arr.size, len, 0, by simp [Psi.set], rfl, Nat.le_refl _, fun _ => ⟨by simp, by simp [hasz]⟩⟩
     . exact hk.elim
   . exact hk.elim
 . exact hk.elim
end
section
variable {P : Program} {τ : Tys} {base : Nat} {ψ ψ' : Psi} {S S' : Nat → Prop} {w w' : World} {st st1 : St} {a : Act} {o : Oper} {K : St → Prop}
theorem natO_get {x : Option Operand} {d : Int} {k : Int -> Prop} (hrel : Rel P base ψ S w st a) (h : natO (x.map (ev st)) d k) :
 ∃ i, k i /\ ((x = none /\ i = d) \/ ∃ y kd, x = some y /\ a.eval y = .int kd i) := by
 cases x with
 | none => exact ⟨d, h, .inl ⟨rfl, rfl⟩⟩
 | some y =>
   simp only [natO, Option.map_some] at h
   split at h
   . rename_i kd i hp
     exact ⟨i, h, .inr ⟨y, kd, rfl, plain_rep (ev_rep hrel y) hp⟩⟩
   . exact h.elim
theorem run_sliceBound {kd : IntKind} {i : Int} {y : Nat} (code : BoundsCode) (h0 : 0 <= i) (h1 : i <= y) : (Instr.sliceBound (.int kd i) y code).run P w = .ok i.toNat w := by
 simp only [Instr.sliceBound, asIntOf, Sem.run_bind, Sem.run_pure, Result.andThen_ok, if_pos (And.intro h0 h1)]
theorem run_bounds {lo hi mx : Option Operand} {isS : Bool} {len cap : Nat} {l h m : Int}
 (hl : (lo = none /\ l = 0) \/ ∃ y kd, lo = some y /\ a.eval y = .int kd l) (hh : (hi = none /\ h = (len : Int)) \/ ∃ y kd, hi = some y /\ a.eval y = .int kd h)
 (hm : (mx = none /\ m = (len : Int)) \/ ∃ y kd, mx = some y /\ a.eval y = .int kd m) (h0 : 0 <= l) (h1 : l <= h) (h2 : h <= m) (h3 : m <= len) (hc : len <= cap) (hmh : mx.isSome = true -> hi.isSome = true) :
 ∃ c, (Instr.sliceBounds isS len cap (lo.map a.eval) (hi.map a.eval) (mx.map a.eval)).run P w = .ok (l.toNat, h.toNat, c) w /\ h.toNat <= c /\ c <= cap /\ (mx = none -> c = cap) := by
 rcases hm with ⟨rfl, rfl⟩ | ⟨ym, km, rfl, hym⟩
 . refine ⟨cap, ?_, by omega, Nat.le_refl _, fun _ => rfl⟩
   rcases hh with ⟨rfl, rfl⟩ | ⟨y, kd, rfl, hy⟩
   . rcases hl with ⟨rfl, rfl⟩ | ⟨yl, kl, rfl, hyl⟩
     . simp only [Instr.sliceBounds, Option.map_none, Sem.run_bind, Sem.run_pure, Result.andThen_ok]; rfl
     . simp only [Instr.sliceBounds, Option.map_none, Option.map_some, Sem.run_bind, Sem.run_pure, Result.andThen_ok, hyl, run_sliceBound (P := P) (w := w) _ h0 h1]; rfl
   . have r1 := run_sliceBound (P := P) (w := w) (kd := kd) (if isS then .sliceAcap else .sliceAlen) (show (0 : Int) <= h by omega) (show h <= (cap : Int) by omega)
     rcases hl with ⟨rfl, rfl⟩ | ⟨yl, kl, rfl, hyl⟩
     . simp only [Instr.sliceBounds, Option.map_none, Option.map_some, Sem.run_bind, Sem.run_pure, Result.andThen_ok, hy, r1]; rfl
     . simp only [Instr.sliceBounds, Option.map_none, Option.map_some, Sem.run_bind, Sem.run_pure, Result.andThen_ok, hy, r1, hyl, run_sliceBound (P := P) (w := w) _ h0 (show l <= (h.toNat : Int) by omega)]
 . refine ⟨m.toNat, ?_, by omega, by omega, fun h => by simp at h⟩
   rcases hh with ⟨rfl, rfl⟩ | ⟨y, kd, rfl, hy⟩
   . simp at hmh
   . have r0 := run_sliceBound (P := P) (w := w) (kd := km) (if isS then .slice3Acap else .slice3Alen) (show (0 : Int) <= m by omega) (show m <= (cap : Int) by omega)
     have r1 := run_sliceBound (P := P) (w := w) (kd := kd) .slice3B (show (0 : Int) <= h by omega) (show h <= (m.toNat : Int) by omega)
     rcases hl with ⟨rfl, rfl⟩ | ⟨yl, kl, rfl, hyl⟩
     . simp only [Instr.sliceBounds, Option.map_none, Option.map_some, Sem.run_bind, Sem.run_pure, Result.andThen_ok, hym, r0, hy, r1]; rfl
     . simp only [Instr.sliceBounds, Option.map_none, Option.map_some, Sem.run_bind, Sem.run_pure, Result.andThen_ok, hym, r0, hy, r1, hyl, run_sliceBound (P := P) (w := w) _ h0 (show l <= (h.toNat : Int) by omega)]
theorem oSlice_ok (hτ : TysOk P τ) (hrel : Rel P base ψ S w st a) {t : TypeId} {x : Operand} {lo hi mx : Option Operand} (hop : o.op = .slice t x lo hi mx) (hmh : mx.isSome = true -> hi.isSome = true)
 (hk : oSlice τ t (ev st x) (lo.map (ev st)) (hi.map (ev st)) (mx.map (ev st)) fun y => putK st o.dst y K) : OpOk P base ψ S w a o K := by
 have hx := ev_rep hrel x
 unfold oSlice at hk
 split at hk
 . rename_i sz bt z ht
   have hund := run_und hτ ht w
   simp only at hund
   split at hk
   . rename_i s e hmx
     rw [e] at hx
     have hs : a.eval x = .string s := by generalize a.eval x = q at hx; cases hx; rfl
     have hmx : mx = none := by cases mx <;> simp_all
     subst hmx
     obtain ⟨l, hk, hl⟩ := natO_get hrel hk
     obtain ⟨h, hk, hh⟩ := natO_get hrel hk
     obtain ⟨⟨⟨h0, h1⟩, h2⟩, hk⟩ := hk
     obtain ⟨c, hb, _, _, _⟩ := run_bounds (P := P) (w := w) (a := a) (isS := false) (len := s.size) (cap := s.size) (mx := none) (m := (s.size : Int)) hl hh (.inl ⟨rfl, rfl⟩) h0 h1 h2 (by omega) (Nat.le_refl _) (by simp)
     refine OpOk.value (v := .string (s.extract l.toNat h.toNat)) ?_ hrel (x := vx (.string (s.extract l.toNat h.toNat))) (.v trivial) (hk h0 h1 h2) (Ext.refl _ _ _ _)
     simp only [Option.map_none] at hb
     simp only [execOp, hop, Instr.sliceAt, Sem.run_bind, hund, Result.andThen_ok, Instr.slice, hs, Option.map_none, Option.isSome_none, Bool.false_eq_true, if_false, Sem.run_pure, hb]
   . exact hk.elim
 . rename_i e sz0 bt z ht
   have hund := run_und hτ ht w
   simp only at hund
   split at hk
   . rename_i d2 sz b2 z2 ht2
     have hsz := run_size hτ ht2 w
     simp only at hsz
     have run : ∀ (a0 : Option Addr) (n cap : Nat) (l h c : Nat), a.eval x = .slice a0 n cap ->
      (Instr.sliceBounds true n cap (lo.map a.eval) (hi.map a.eval) (mx.map a.eval)).run P w = .ok (l, h, c) w ->
      (execOp a.eval o).run P w = .ok (.value (.slice (if c = l then a0 else a0.map (·.add (l * sz))) (h - l) (c - l))) w := by
      intro a0 n cap l h c hv hb
      simp only [execOp, hop, Instr.sliceAt, Sem.run_bind, hund, Result.andThen_ok, Instr.slice, hv, hb, hsz, Sem.run_pure]
     split at hk
     . rename_i zz n f e1
       rw [e1] at hx
       obtain ⟨l, hk1, hl⟩ := natO_get hrel hk
       clear hk
       obtain ⟨h, hk2, hh⟩ := natO_get hrel hk1
       clear hk1
       obtain ⟨m, hk3, hm⟩ := natO_get hrel hk2
       clear hk2
       obtain ⟨⟨rfl, ⟨h0, h1⟩, h2, h3⟩, hk4⟩ := hk3
       have hk := hk4 rfl h0 h1 h2 h3
       clear hk4
       generalize hv : a.eval x = vv at hx
       have main : ∀ (a0 : Option Addr) (cap : Nat), vv = .slice a0 n cap -> n <= cap \/ n = 0 -> (∀ c : Nat, h.toNat <= c -> RepD S w (.lst zz (h - l).toNat fun i => f (l.toNat + i)) (.slice (if c = l.toNat then a0 else a0.map (·.add (l.toNat * zz))) (h.toNat - l.toNat) (c - l.toNat))) -> OpOk P base ψ S w a o K := by
        intro a0 cap hvv hn hrep
        rcases hn with hn | hn
        . obtain ⟨c, hb, hc1, _, _⟩ := run_bounds (P := P) (w := w) (a := a) (isS := true) (len := n) (cap := cap) hl hh hm h0 h1 h2 h3 hn hmh
          refine OpOk.value (run a0 n cap l.toNat h.toNat c (hv.trans hvv) hb) hrel (x := .va (.c (.d (.lst zz (h - l).toNat fun i => f (l.toNat + i))))) (hrep c hc1) hk (Ext.refl _ _ _ _)
        . subst hn
          obtain ⟨c, hb, hc1, _, _⟩ := run_bounds (P := P) (w := w) (a := a) (isS := true) (len := 0) (cap := cap) hl hh hm h0 h1 h2 h3 (Nat.zero_le _) hmh
          refine OpOk.value (run a0 0 cap l.toNat h.toNat c (hv.trans hvv) hb) hrel (x := .va (.c (.d (.lst zz (h - l).toNat fun i => f (l.toNat + i))))) (hrep c hc1) hk (Ext.refl _ _ _ _)
       have e0 : (h - l).toNat = h.toNat - l.toNat := by omega
       cases hx with
       | nil =>
         rename_i a0 cap
         refine main a0 cap rfl (.inr rfl) fun c _ => ?_
         have e2 : h.toNat - l.toNat = 0 := by omega
         rw [e0, e2]; exact .nil
       | @lst _ _ _ b off cap g hS hlen hc hd hn =>
         refine main (some ⟨b, off, none⟩) cap rfl (.inl hn) fun c hc1 => ?_
         rw [e0]
         by_cases hq : h.toNat - l.toNat = 0
         . rw [hq]; exact .nil
         . rw [if_neg (by omega)]
           simp only [Option.map_some, addr_add]
           refine .lst (fun i j => g (l.toNat + i) j) hS (fun i hi => hlen _ (by omega)) (fun i j hi hj => ?_) (fun i j hi hj => hd _ _ (by omega) hj) (by omega)
           have := hc (l.toNat + i) j (by omega) hj
           rw [Nat.add_mul, <- Nat.add_assoc] at this
           exact this
     . rename_i kk zz o' n e1
       rw [e1] at hx
       obtain ⟨l, hk1, hl⟩ := natO_get hrel hk
       clear hk
       obtain ⟨h, hk2, hh⟩ := natO_get hrel hk1
       clear hk1
       obtain ⟨m, hk3, hm⟩ := natO_get hrel hk2
       clear hk2
       obtain ⟨⟨rfl, ⟨h0, h1⟩, h2, h3⟩, hk4⟩ := hk3
       have hk := hk4 rfl h0 h1 h2 h3
       clear hk4
       have e0 : (h - l).toNat = h.toNat - l.toNat := by omega
       rcases hx with ⟨g1, rfl, a0, hv⟩ | ⟨b, mm, cap, off, g1, hv, g3, g4⟩
       . obtain ⟨c, hb, hc1, hc2, _⟩ := run_bounds (P := P) (w := w) (a := a) (isS := true) (len := 0) (cap := 0) hl hh hm h0 h1 h2 h3 (Nat.le_refl _) hmh
         refine OpOk.value (run a0 0 0 l.toNat h.toNat c hv hb) hrel (x := .va (.c (.osl kk zz (o' + l.toNat) (h - l).toNat))) (.inl ⟨g1, by omega, ?_⟩) hk (Ext.refl _ _ _ _)
         have e2 : h.toNat - l.toNat = 0 := by omega
         have e3 : c - l.toNat = 0 := by omega
         rw [e2, e3]; exact ⟨_, rfl⟩
       . obtain ⟨c, hb, hc1, hc2, _⟩ := run_bounds (P := P) (w := w) (a := a) (isS := true) (len := n) (cap := cap) hl hh hm h0 h1 h2 h3 g3 hmh
         refine OpOk.value (run _ n cap l.toNat h.toNat c hv hb) hrel (x := .va (.c (.osl kk zz (o' + l.toNat) (h - l).toNat))) (.inr ?_) hk (Ext.refl _ _ _ _)
         rw [e0]
         by_cases hcl : c = l.toNat
         . rw [if_pos hcl]
           exact ⟨b, mm, c - l.toNat, off, g1, rfl, by omega, by omega⟩
         . rw [if_neg hcl]
           refine ⟨b, mm, c - l.toNat, off + l.toNat * zz, g1, by simp only [Option.map_some, addr_add], by omega, fun _ => ?_⟩
           obtain ⟨rfl, g5⟩ := g4 (by omega)
           refine ⟨by rw [Nat.add_mul], ?_⟩
           have : (o' + l.toNat + (c - l.toNat)) * zz <= (o' + cap) * zz := Nat.mul_le_mul_right _ (by omega)
           omega
     . rename_i kk zz o' n cap e1
       rw [e1] at hx
       split at hk
       . rename_i hmx
         have hmx : mx = none := by cases mx <;> simp_all
         subst hmx
         obtain ⟨l, hk1, hl⟩ := natO_get hrel hk
         clear hk
         obtain ⟨h, hk2, hh⟩ := natO_get hrel hk1
         clear hk1
         obtain ⟨⟨rfl, ⟨h0, h1⟩, h2⟩, hk4⟩ := hk2
         have hk := hk4 rfl h0 h1 h2
         clear hk4
         have e0 : (h - l).toNat = h.toNat - l.toNat := by omega
         have bnd : ∀ nn : Nat, nn <= cap -> ((hi = none /\ h = (nn : Int)) \/ ∃ y kd, hi = some y /\ a.eval y = .int kd h) -> (Instr.sliceBounds true nn cap (lo.map a.eval) (hi.map a.eval) ((none : Option Operand).map a.eval)).run P w = .ok (l.toNat, h.toNat, cap) w := by
          intro nn hnn hh
          rcases hh with ⟨rfl, rfl⟩ | ⟨y, kd, rfl, hy⟩
          . obtain ⟨c, hb, _, _, hc⟩ := run_bounds (P := P) (w := w) (a := a) (isS := true) (len := nn) (cap := cap) (hi := none) (h := (nn : Int)) (mx := none) (m := (nn : Int)) hl (.inl ⟨rfl, rfl⟩) (.inl ⟨rfl, rfl⟩) h0 h1 (Int.le_refl _) (Int.le_refl _) hnn (by simp)
            rw [hc rfl] at hb; exact hb
          . obtain ⟨c, hb, _, _, hc⟩ := run_bounds (P := P) (w := w) (a := a) (isS := true) (len := cap) (cap := cap) (hi := some y) (h := h) (mx := none) (m := (cap : Int)) hl (.inr ⟨y, kd, rfl, hy⟩) (.inl ⟨rfl, rfl⟩) h0 h1 h2 (Int.le_refl _) (Nat.le_refl _) (by simp)
            rw [hc rfl] at hb; exact hb
         rcases hx with ⟨g1, rfl, rfl, a0, hv⟩ | ⟨b, mm, off, g1, hv, g3, g4⟩
         . refine OpOk.value (run a0 0 0 l.toNat h.toNat 0 hv (bnd 0 (Nat.le_refl _) hh)) hrel (x := .va (.c (.osc kk zz (o' + l.toNat) (h - l).toNat (0 - l.toNat)))) (.inl ⟨g1, by omega, by omega, ?_⟩) hk (Ext.refl _ _ _ _)
           have e2 : h.toNat - l.toNat = 0 := by omega
           have e3 : 0 - l.toNat = 0 := by omega
           rw [e2, e3]; exact ⟨_, rfl⟩
         . refine OpOk.value (run _ n cap l.toNat h.toNat cap hv (bnd n g3 hh)) hrel (x := .va (.c (.osc kk zz (o' + l.toNat) (h - l).toNat (cap - l.toNat)))) (.inr ?_) hk (Ext.refl _ _ _ _)
           rw [e0]
           by_cases hcl : cap = l.toNat
           . rw [if_pos hcl]
             exact ⟨b, mm, off, g1, rfl, by omega, by omega⟩
           . rw [if_neg hcl]
             refine ⟨b, mm, off + l.toNat * zz, g1, by simp only [Option.map_some, addr_add], by omega, fun _ => ?_⟩
             obtain ⟨rfl, g5⟩ := g4 (by omega)
             refine ⟨by rw [Nat.add_mul], ?_⟩
             have : (o' + l.toNat + (cap - l.toNat)) * zz <= (o' + cap) * zz := Nat.mul_le_mul_right _ (by omega)
             omega
       . exact hk.elim
     . rename_i e1
       rw [e1] at hx
       have hv : a.eval x = .slice none 0 0 := by generalize a.eval x = q at hx; cases hx; rfl
       obtain ⟨l, hk1, hl⟩ := natO_get hrel hk
       clear hk
       obtain ⟨h, hk2, hh⟩ := natO_get hrel hk1
       clear hk1
       obtain ⟨m, hk3, hm⟩ := natO_get hrel hk2
       clear hk2
       obtain ⟨⟨rfl, rfl, rfl⟩, hk4⟩ := hk3
       obtain ⟨c, hb, _, hc2, _⟩ := run_bounds (P := P) (w := w) (a := a) (isS := true) (len := 0) (cap := 0) (by simpa using hl) (by simpa using hh) (by simpa using hm) (Int.le_refl 0) (Int.le_refl 0) (Int.le_refl 0) (Int.le_refl 0) (Nat.le_refl _) hmh
       have hc : c = 0 := by omega
       subst hc
       exact OpOk.value (run none 0 0 0 0 0 hv hb) hrel (x := vx (.slice none 0 0)) (.v trivial) (hk4 rfl rfl rfl) (Ext.refl _ _ _ _)
     . exact hk.elim
   . exact hk.elim
 . exact hk.elim
theorem part_cells (hτ : TysOk P τ) {ty : TypeId} {d : TypeDesc} {s : Nat} {b : TX} {z : Value} (ht : τ ty = some ⟨d, s, b, z⟩) {cs r : List Cell} {arr : Array Value} {off : Nat} {y : Va}
 (hx : All2 (RepM P ψ S w) cs arr.toList) (hr : takeN (cs.drop off) s = some r) (hy : mkVa (wantAgg d) r = some y) : ∃ v, (part ty arr off).run P w = .ok v w /\ RepVa P ψ S w y v := by
 obtain ⟨h1, h2⟩ := takeN_all2 hx hr
 have hag := run_agg hτ ht w
 have hsz := run_size hτ ht w
 simp only at hag hsz
 cases hw : wantAgg d with
 | true =>
   rw [hw] at hy hag
   simp only [mkVa, Option.some.injEq] at hy
   subst hy
   refine ⟨.agg (arr.extract off (off + s)), ?_, _, rfl, ?_⟩
   . simp only [part, Sem.run_bind, hag, Result.andThen_ok, if_true, hsz, Sem.run_pure]
   . have : (arr.extract off (off + s)).toList = (arr.toList.drop off).take s := by
      rw [Array.toList_extract, List.extract_eq_take_drop]; congr 1; omega
     rw [this]; exact h1
 | false =>
   rw [hw] at hy hag
   cases r with
   | nil => simp [mkVa] at hy
   | cons c r =>
     cases r with
     | cons _ _ => simp [mkVa] at hy
     | nil =>
       simp only [mkVa, Option.some.injEq] at hy
       subst hy
       cases hys : (arr.toList.drop off).take s with
       | nil => rw [hys] at h1; exact h1.elim
       | cons y1 ys =>
         rw [hys] at h1
         have hg : arr[off]? = some y1 := by
          have : ((arr.toList.drop off).take s)[0]? = some y1 := by rw [hys]; rfl
          have := get_drop_take this
          simpa using this
         exact ⟨y1, by simp only [part, Sem.run_bind, hag, Result.andThen_ok, Bool.false_eq_true, if_false, hg, Sem.run_pure], h1.1.1⟩
theorem byteAt_get {s : ByteArray} {i : Nat} (h : i < s.size) : s[i]? = some (s[i]) := by
 simp [h]
theorem oIndex_ok (hτ : TysOk P τ) (hrel : Rel P base ψ S w st a) {t : TypeId} {x ix : Operand} (hop : o.op = .index t x ix) (hk : oIndex τ t (ev st x) (ev st ix) fun y => putK st o.dst y K) :
 OpOk P base ψ S w a o K := by
 have hx := ev_rep hrel x
 have hi := ev_rep hrel ix
 unfold oIndex at hk
 split at hk
 . rename_i sz bt z ht
   have hund := run_und hτ ht w
   simp only at hund
   split at hk
   . rename_i s k i e1 e2
     have hi := plain_rep hi e2
     rw [e1] at hx
     have hs : a.eval x = .string s := by generalize a.eval x = q at hx; cases hx; rfl
     obtain ⟨⟨h0, h1⟩, hk⟩ := hk
     have hlt : i.toNat < s.size := by omega
     refine OpOk.value (v := .int .u8 (byteAt s i.toNat)) ?_ hrel (x := vx (.int .u8 (byteAt s i.toNat))) (.v trivial) (hk h0 h1) (Ext.refl _ _ _ _)
     have hg : s[i.toNat]? = some (s[i.toNat]) := byteAt_get hlt
     simp only [execOp, hop, Instr.index, hi, hs, asIntOf, Sem.run_bind, Sem.run_pure, hund, Result.andThen_ok, if_pos h0, hg, byteAt, Option.getD_some]
   . exact hk.elim
 . rename_i len e sz0 bt z ht
   have hund := run_und hτ ht w
   simp only at hund
   split at hk
   . rename_i d2 sz b2 z2 ht2
     have hsz := run_size hτ ht2 w
     simp only at hsz
     split at hk
     . rename_i cs k i e1 e2
       have hi := plain_rep hi e2
       rw [e1] at hx
       obtain ⟨arr, hv, hx⟩ := hx
       obtain ⟨⟨h0, h1⟩, hk⟩ := hk
       obtain ⟨j, rfl⟩ := Int.eq_ofNat_of_zero_le h0
       have hk := eachAt_get hk (show j < len by omega)
       split at hk
       . rename_i r hr
         split at hk
         . rename_i y hy
           obtain ⟨v, g1, g2⟩ := part_cells hτ ht2 hx hr hy
           refine OpOk.value (v := v) ?_ hrel (x := .va y) g2 hk (Ext.refl _ _ _ _)
           simp only [execOp, hop, Instr.index, hi, hv, asIntOf, Sem.run_bind, Sem.run_pure, hund, Result.andThen_ok, if_pos (And.intro h0 h1), hsz, Int.toNat_natCast, g1]
         . exact hk.elim
       . exact hk.elim
     . exact hk.elim
   . exact hk.elim
 . exact hk.elim
theorem sureK_ok (hrel : Rel P base ψ S w st a) {x : Operand} (hop : o.op = .nilCheck x) (hk : sureK (ev st x) fun y => putK st o.dst y K) : OpOk P base ψ S w a o K := by
 have hx := ev_rep hrel x
 unfold sureK at hk
 split at hk
 . rename_i e; rw [e] at hx
   obtain ⟨b, m, h1, h2⟩ := hx
   exact OpOk.value (by simp only [execOp, hop, h2]; rfl) hrel (x := .va (.c (.own _ _))) ⟨b, m, h1, rfl⟩ hk (Ext.refl _ _ _ _)
 . rename_i e; rw [e] at hx
   obtain ⟨b, m, h1, h2⟩ := hx
   exact OpOk.value (by simp only [execOp, hop, h2]; rfl) hrel (x := .va (.c (.ep _ _ _ _))) ⟨b, m, h1, rfl⟩ hk (Ext.refl _ _ _ _)
 . rename_i e; rw [e] at hx
   obtain ⟨b, off, ys, h2, h3⟩ := hx
   exact OpOk.value (by simp only [execOp, hop, h2]; rfl) hrel (x := .va (.c (.rp _))) ⟨b, off, ys, rfl, h3⟩ hk (Ext.refl _ _ _ _)
 . rename_i e; rw [e] at hx
   obtain ⟨vs, h1, h2⟩ := hx
   exact OpOk.value (by simp only [execOp, hop, h1]; rfl) hrel (x := .va (.c (.fn _ _))) ⟨vs, rfl, h2⟩ hk (Ext.refl _ _ _ _)
 . rename_i e; rw [e] at hx
   obtain ⟨f, first, caps, h1, h2⟩ := hx
   exact OpOk.value (by simp only [execOp, hop, h1]; rfl) hrel (x := .va (.c (.fv _))) ⟨f, first, caps, rfl, h2⟩ hk (Ext.refl _ _ _ _)
 . exact hk.elim
theorem ownCaps_rep (hrel : Rel P base ψ S w st a) : ∀ {xs : List Operand} {ps : List (Nat × Nat)}, ownCaps (xs.map (ev st)) = some ps ->
 All2 (fun (p : Nat × Nat) y => ∃ b m, ψ p.1 = some (.at b m) /\ y = Value.pointer (some ⟨b, p.2, none⟩)) ps (xs.map a.eval)
 | [], ps, h => by simp [ownCaps] at h; subst h; trivial
 | x :: xs, ps, h => by
   simp only [List.map_cons] at h
   unfold ownCaps at h
   split at h
   . rename_i e; cases e
   . rename_i k off l e
     injection e with e1 e2
     subst e2
     split at h
     . rename_i ps' hps
       simp at h; subst h
       have hx := ev_rep hrel x
       rw [e1] at hx
       exact ⟨hx, ownCaps_rep hrel hps⟩
     . simp at h
   . simp at h
theorem oMakeFunc_ok (hrel : Rel P base ψ S w st a) {f : Nat} {first caps : Array Operand} {ps : List (Nat × Nat)} (hop : o.op = .makeFunc (.func f) first caps) (h0 : first.toList = [])
 (hps : ownCaps (caps.toList.map (ev st)) = some ps) (hk : putK st o.dst (.va (.c (.fn f ps))) K) : OpOk P base ψ S w a o K := by
 have hf : first = #[] := by apply Array.ext'; simpa using h0
 subst hf
 refine OpOk.value (v := .func (.func f) #[] (caps.map a.eval)) ?_ hrel (x := .va (.c (.fn f ps))) ⟨_, rfl, by simpa using ownCaps_rep hrel hps⟩ hk (Ext.refl _ _ _ _)
 simp only [execOp, hop, Instr.makeFunc, Sem.run_bind, Sem.run_pure, Result.andThen_ok]
 simp
theorem vOp2_ok (hτ : TysOk P τ) (hrel : Rel P base ψ S w st a) {op : Op} (hop : o.op = op) (hk : vOp2 P τ op (ev st) fun y => putK st o.dst y K) : OpOk P base ψ S w a o K := by
 unfold vOp2 at hk
 split at hk
 . rename_i t x lo hi mx
   split at hk
   . rename_i hb
     exact oSlice_ok hτ hrel hop (by intro h; simpa [h] using hb) hk
   . exact hk.elim
 . exact oIndex_ok hτ hrel hop hk
 . exact sureK_ok hrel hop hk
 . split at hk
   . rename_i h0 h1; exact oMakeFunc_ok hrel hop h0 h1 hk
   . exact hk.elim
 . split at hk
   . rename_i x u hu
     refine oPure_ok hrel (fun v hv => ?_) hk
     have := plain_rep (ev_rep hrel _) hu
     simp only [execOp, hop, this, Sem.run_bind, hv, Result.andThen_ok, Sem.run_pure]
   . exact hk.elim
 . exact hk.elim
end
section
variable {P : Program} {τ : Tys} {base : Nat} {ψ ψ' : Psi} {S S' : Nat → Prop} {w w' : World} {st st1 : St} {a : Act} {o : Oper} {K : St → Prop}
theorem nilOf_ok {x : Tm} {v : Value} {K : (Bool -> Prop) -> Prop} (hx : RepT P ψ S w x v) (hk : nilOf x K) : ∃ a n c ok, v = .slice a n c /\ K ok /\ ok a.isNone := by
 unfold nilOf at hk
 split at hk
 . rename_i z n f
   have hx : RepD S w (.lst z n f) v := hx
   cases hx with
   | nil => exact ⟨_, _, _, _, rfl, hk, fun _ => rfl⟩
   | lst => exact ⟨_, _, _, _, rfl, hk, fun h => by simp at h⟩
 . rcases hx with ⟨_, rfl, a0, rfl⟩ | ⟨b, m, c, off, _, rfl, _⟩
   . exact ⟨_, _, _, _, rfl, hk, fun _ => rfl⟩
   . exact ⟨_, _, _, _, rfl, hk, fun h => by simp at h⟩
 . have hx : RepD S w (.v (.slice none 0 0)) v := hx
   cases hx
   exact ⟨_, _, _, _, rfl, hk, rfl⟩
 . exact hk.elim
theorem isNilC_ok {y : Operand} (h : isNilC y = true) : y = .const (.slice none 0 0) := by
 unfold isNilC at h
 split at h
 . rfl
 . simp at h
theorem oNil_ok (hτ : TysOk P τ) (hrel : Rel P base ψ S w st a) {op : BinOp} {t ty : TypeId} {x y : Operand} (hop : o.op = .binOp op t x y ty) (hy : isNilC y = true) (hk : oNil τ st o.dst op t (ev st x) K) :
 OpOk P base ψ S w a o K := by
 have hy := isNilC_ok hy
 subst hy
 have hx := ev_rep hrel x
 unfold oNil at hk
 split at hk
 . rename_i e sz bt z ht
   obtain ⟨info, _, hu, _⟩ := hτ.ok _ _ ht
   simp only at hu
   obtain ⟨a0, n, c, ok, hv, hk, hok⟩ := nilOf_ok hx hk
   refine OpOk.value (v := .bool a0.isNone) ?_ hrel (x := vx (.bool a0.isNone)) (.v trivial) (hk _ hok) (Ext.refl _ _ _ _)
   have hev : a.eval (.const (.slice none 0 0)) = .slice none 0 0 := rfl
   simp only [execOp, hop, hv, hev, eqGuard, Sem.run_bind, Sem.run_pure, Result.andThen_ok]
   have := run_equal_slice_nil (P := P) w t e a0 n c hu
   simp [binOp, this]
 . rename_i e sz bt z ht
   obtain ⟨info, _, hu, _⟩ := hτ.ok _ _ ht
   simp only at hu
   obtain ⟨a0, n, c, ok, hv, hk, hok⟩ := nilOf_ok hx hk
   refine OpOk.value (v := .bool (!a0.isNone)) ?_ hrel (x := vx (.bool (!a0.isNone))) (.v trivial) (hk _ hok) (Ext.refl _ _ _ _)
   have hev : a.eval (.const (.slice none 0 0)) = .slice none 0 0 := rfl
   simp only [execOp, hop, hv, hev, eqGuard, Sem.run_bind, Sem.run_pure, Result.andThen_ok]
   have := run_equal_slice_nil (P := P) w t e a0 n c hu
   simp [binOp, this]
 . exact hk.elim
theorem Rel.forget {ts : List (Nat × Tm)} {h : List (Nat × Blk)} {n m : Nat} (hr : Rel P base ψ S w ⟨ts, h, n, m⟩ a) (k : Nat) : Rel P base ψ S w ⟨ts, (k, .gone) :: h, n, m⟩ a := by
 have hlive : ∀ j, (lookB ((k, Blk.gone) :: h) j).live -> (lookB h j).live := by
  intro j hl
  rw [lookB_cons] at hl
  by_cases e : k = j
  . rw [if_pos e] at hl; exact hl.elim
  . rwa [if_neg e] at hl
 refine ⟨hr.bas, ⟨hr.sim.dom, ?_, ?_, ?_, hr.sim.pdom, hr.sim.sdom⟩, hr.lim, hr.defers, hr.tmps⟩
 . intro j l hj
   rw [lookB_cons]
   by_cases e : k = j
   . rw [if_pos e]; cases l <;> trivial
   . rw [if_neg e]; exact hr.sim.blk j l hj
 . intro j j' b m1 m2 h1 h2 l1 l2
   exact hr.sim.inj j j' b m1 m2 h1 h2 (hlive j l1) (hlive j' l2)
 . intro j b m1 h1 l1
   exact hr.sim.dis j b m1 h1 (hlive j l1)
theorem Rel.name {ts : List (Nat × Tm)} {h : List (Nat × Blk)} {n m : Nat} {sz q : Nat} {f : Nat -> List DV} {l : Loc} (hr : Rel P base ψ S w ⟨ts, h, n, m⟩ a) (hrow : ∀ ψ, BlkRep P ψ S w (.row sz q f) l)
 (hfree : ∀ b mm, l = .at b mm -> ¬ S b /\ b < w.heap.size /\ (∃ k mm, ψ k = some (.at b mm)) /\ ∀ j mm, ψ j = some (.at b mm) -> ¬ (lookB h j).live) :
 Rel P base (ψ.set n l) S w ⟨ts, (n, .row sz q f) :: h, n + 1, m⟩ a /\ Ext base ψ S w (ψ.set n l) S w := by
 have hn : ψ n = none := hr.sim.dom n (Nat.le_refl _)
 have hp : PsiSub ψ (ψ.set n l) := Psi.sub_set hn
 have hl := Later.refl S w
 have hbas := hr.bas
 simp only at hbas
 have other : ∀ j, j ≠ n -> (ψ.set n l) j = ψ j := fun j hj => by simp [Psi.set, hj]
 refine ⟨⟨Nat.le_succ_of_le hbas, ⟨?_, ?_, ?_, ?_, ?_, hr.sim.sdom⟩, hr.lim, hr.defers, fun t => (hr.tmps t).later hp hl⟩, ⟨rfl, rfl, rfl, Nat.le_refl _, fun _ _ _ => rfl, hl, fun _ h => .inl h, ?_, ?_⟩⟩
 . intro k hk
   have : k ≠ n := by simp at hk; omega
   rw [other k this]
   exact hr.sim.dom k (by simp at hk ⊢; omega)
 . intro j l' hj
   rw [lookB_cons]
   by_cases e : n = j
   . subst e
     simp only [Psi.set, if_true, Option.some.injEq] at hj
     subst hj
     rw [if_pos rfl]
     exact hrow _
   . rw [if_neg e]
     rw [other j (fun h => e h.symm)] at hj
     exact (hr.sim.blk j l' hj).later hp hl fun _ _ _ => rfl
 . intro j j' b m1 m2 h1 h2 l1 l2
   rw [lookB_cons] at l1 l2
   by_cases e1 : n = j
   . by_cases e2 : n = j'
     . rw [<- e1, <- e2]
     . subst e1
       rw [other j' (fun h => e2 h.symm)] at h2
       rw [if_neg e2] at l2
       simp only [Psi.set, if_true, Option.some.injEq] at h1
       exact absurd l2 ((hfree b m1 h1).2.2.2 j' m2 h2)
   . by_cases e2 : n = j'
     . subst e2
       rw [other j (fun h => e1 h.symm)] at h1
       rw [if_neg e1] at l1
       simp only [Psi.set, if_true, Option.some.injEq] at h2
       exact absurd l1 ((hfree b m2 h2).2.2.2 j m1 h1)
     . rw [other j (fun h => e1 h.symm)] at h1
       rw [other j' (fun h => e2 h.symm)] at h2
       rw [if_neg e1] at l1; rw [if_neg e2] at l2
       exact hr.sim.inj j j' b m1 m2 h1 h2 l1 l2
 . intro j b m1 h1 l1
   rw [lookB_cons] at l1
   by_cases e1 : n = j
   . subst e1
     simp only [Psi.set, if_true, Option.some.injEq] at h1
     exact (hfree b m1 h1).1
   . rw [other j (fun h => e1 h.symm)] at h1
     rw [if_neg e1] at l1
     exact hr.sim.dis j b m1 h1 l1
 . intro j b m1 h1
   by_cases e1 : n = j
   . subst e1
     simp only [Psi.set, if_true, Option.some.injEq] at h1
     exact (hfree b m1 h1).2.1
   . rw [other j (fun h => e1 h.symm)] at h1
     exact hr.sim.pdom j b m1 h1
 . intro j b m1 h1
   by_cases e1 : n = j
   . subst e1
     simp only [Psi.set, if_true, Option.some.injEq] at h1
     exact .inl (hfree b m1 h1).2.2.1
   . rw [other j (fun h => e1 h.symm)] at h1
     exact .inl ⟨j, m1, h1⟩
 . intro k hk
   exact other k (by omega)
structure News (S : Nat -> Prop) (w : World) (sz q : Nat) (g : Nat -> List DV) (v : Value) (news : List Value) (no : Nat -> Prop) : Prop where
 len : ∃ a c, v = .slice a q c
 cells : ∀ w', w'.heap = w.heap -> ∀ P, (Builtin.firstCells sz q v).run P w' = .ok news.toArray w'
 size : news.length = q * sz
 row : ∀ i, i < q -> (g i).length = sz
 rep : ∀ i j, i < q -> j < sz -> RepD S w ((g i).getD j (.v (.bool false))) (news.getD (i * sz + j) undef)
 scal : ∀ v ∈ news, Scalar v
theorem row_bound {i n sz : Nat} (h : i < n) : i * sz + sz <= n * sz := by
 have := Nat.mul_le_mul_right sz (Nat.succ_le_of_lt h); rw [Nat.succ_mul] at this; exact this
theorem News.of_block {sz q o : Nat} {g : Nat -> List DV} {b off c : Nat} {arr : Array Value} {e : TypeId} {fr : Nat × Nat} {no : Nat -> Prop} (hb : w.heap[b]? = some (.cells arr e fr)) (hoff : 0 < q -> off = o * sz) (hle : 0 < q -> (o + q) * sz <= arr.size)
 (hrow : ∀ i, i < q -> (g i).length = sz) (hd : ∀ i j, i < q -> j < sz -> RepD S w ((g i).getD j (.v (.bool false))) (arr.getD ((o + i) * sz + j) undef)) : News S w sz q g (.slice (some ⟨b, off, none⟩) q c) ((arr.toList.drop (o * sz)).take (q * sz)) no where
 len := ⟨_, _, rfl⟩
 cells w' hw' P := by
  rcases Nat.eq_zero_or_pos q with hq | hq
  . subst hq
    have := run_firstCells_some (P := P) w' sz 0 ⟨b, off, none⟩ 0 c [] (by simp) (by simp)
    simpa using this
  . have hl : ((arr.toList.drop (o * sz)).take (q * sz)).length = q * sz := by
     have := hle hq; rw [Nat.add_mul] at this
     simp; omega
    refine run_firstCells_some (P := P) w' sz q ⟨b, off, none⟩ q c _ hl ?_
    intro j v hj
    rw [addr_add, cell_at (by rw [hw']; exact hb), hoff hq, <- Array.getElem?_toList]
    exact get_drop_take hj
 size := by
  rcases Nat.eq_zero_or_pos q with hq | hq
  . subst hq; simp
  . have := hle hq; rw [Nat.add_mul] at this
    simp; omega
 row := hrow
 rep i j hi hj := by
  have h1 := hd i j hi hj
  have hb := row_bound (sz := sz) hi
  have e : ((arr.toList.drop (o * sz)).take (q * sz)).getD (i * sz + j) undef = arr.getD ((o + i) * sz + j) undef := by
   simp only [List.getD_eq_getElem?_getD, List.getElem?_take, List.getElem?_drop, Array.getD_eq_getD_getElem?, Array.getElem?_toList]
   rw [if_pos (by omega), Nat.add_mul, Nat.add_assoc]
  rw [e]; exact h1
 scal v hv := by
  obtain ⟨j, hj, e⟩ := List.mem_iff_getElem.1 hv
  have hlt : j < q * sz := by
   have := hj; simp at this; omega
  rcases Nat.eq_zero_or_pos sz with hz | hz
  . subst hz; omega
  have hi : j / sz < q := by rw [Nat.div_lt_iff_lt_mul hz]; exact hlt
  have hm := Nat.mod_lt j hz
  have h1 := hd (j / sz) (j % sz) hi hm
  have e2 : arr.getD ((o + j / sz) * sz + j % sz) undef = v := by
   rw [<- e]
   simp only [List.getElem_take, List.getElem_drop, Array.getD_eq_getD_getElem?, Array.getElem_toList]
   have hd := Nat.div_add_mod j sz
   have e3 : (o + j / sz) * sz + j % sz = o * sz + j := by rw [Nat.add_mul, Nat.mul_comm (j / sz) sz]; omega
   rw [e3]
   have hsz : o * sz + j < arr.size := by
    have := hj; simp at this; omega
   simp [hsz]
  rw [e2] at h1
  exact h1.scalar
theorem newsOf_ok {h : List (Nat × Blk)} {next : Nat} (hs : Sim P ψ S w h next) {k0 : Option Nat} {sz : Nat} (hz : 0 < sz) {x : Va} {v : Value} {KN : Nat -> (Nat -> List DV) -> Prop} (hx : RepVa P ψ S w x v) (hk : newsOf h k0 sz x KN) :
 ∃ q g news, KN q g /\ News S w sz q g v news (fun _ => True) := by
 unfold newsOf at hk
 split at hk
 . rename_i z n g
   obtain ⟨rfl, hk⟩ := hk
   refine ⟨n, g, ?_⟩
   have hx : RepD S w (.lst z n g) v := hx
   cases hx with
   | nil =>
     rename_i a0 c
     refine ⟨[], hk rfl, ⟨⟨a0, c, rfl⟩, fun w' _ P => ?_, by simp, fun i hi => by omega, fun i j hi => by omega, by simp⟩⟩
     cases a0 with
     | none => exact run_firstCells_none w' z 0 0 c
     | some ad => have := run_firstCells_some (P := P) w' z 0 ad 0 c [] (by simp) (by simp); simpa using this
   | @lst _ _ _ b off c gv hS hlen hc hd hn =>
     let news : List Value := (List.range (n * z)).map fun p => gv (p / z) (p % z)
     have hget : ∀ i j, i < n -> j < z -> news[i * z + j]? = some (gv i j) := by
      intro i j hi hj
      have := row_bound (sz := z) hi
      simp only [news, List.getElem?_map, List.getElem?_range (show i * z + j < n * z by omega), Option.map_some]
      have e1 : (i * z + j) / z = i := by rw [Nat.mul_comm, Nat.mul_add_div hz, Nat.div_eq_of_lt hj, Nat.add_zero]
      have e2 : (i * z + j) % z = j := by rw [Nat.mul_comm, Nat.mul_add_mod, Nat.mod_eq_of_lt hj]
      rw [e1, e2]
     have hl : news.length = n * z := by simp [news]
     have hcut : ∀ p, p < n * z -> p / z < n /\ p % z < z /\ p / z * z + p % z = p := by
      intro p hp
      refine ⟨by rw [Nat.div_lt_iff_lt_mul hz]; exact hp, Nat.mod_lt _ hz, ?_⟩
      rw [Nat.mul_comm]; exact Nat.div_add_mod p z
     refine ⟨news, hk rfl, ⟨⟨_, _, rfl⟩, fun w' hw' P => ?_, hl, hlen, fun i j hi hj => ?_, ?_⟩⟩
     . refine run_firstCells_some (P := P) w' z n ⟨b, off, none⟩ n c news hl ?_
       intro p u hp
       have hplt : p < n * z := by have := (List.getElem?_eq_some_iff.1 hp).1; omega
       obtain ⟨c1, c2, c3⟩ := hcut p hplt
       have := hget (p / z) (p % z) c1 c2
       rw [c3, hp] at this
       cases this
       have := hc (p / z) (p % z) c1 c2
       rw [addr_add, cell_of_heap (w := w) (by rw [hw'])]
       rwa [Nat.add_assoc, c3] at this
     . have e : news.getD (i * z + j) undef = gv i j := by rw [List.getD_eq_getElem?_getD, hget i j hi hj]; rfl
       rw [e]; exact hd i j hi hj
     . intro u hu
       obtain ⟨p, hp, e⟩ := List.mem_iff_getElem.1 hu
       obtain ⟨c1, c2, c3⟩ := hcut p (by omega)
       have := hget (p / z) (p % z) c1 c2
       rw [c3, List.getElem?_eq_getElem hp, e] at this
       cases this
       exact (hd _ _ c1 c2).scalar
 . have hx : RepD S w (.v (.slice none 0 0)) v := hx
   cases hx
   exact ⟨0, _, [], hk, ⟨⟨_, _, rfl⟩, fun w' _ P => run_firstCells_none w' sz 0 0 0, by simp, fun i hi => by omega, fun i j hi => by omega, by simp⟩⟩
 . rename_i k z o len
   have main : ∀ (z' n : Nat) (g : Nat -> List DV), z' = sz -> z = sz -> o + len <= n -> (∀ b m, ψ k = some (.at b m) -> ∃ arr e fr, w.heap[b]? = some (.cells arr e fr) /\ arr.size = m /\ n * z' <= m /\ (∀ i, i < n -> (g i).length = z') /\
    ∀ i j, i < n -> j < z' -> RepD S w ((g i).getD j (.v (.bool false))) (arr.getD (i * z' + j) undef)) -> ∃ news, News S w sz len (fun i => g (o + i)) v news (fun _ => True) := by
    rintro z' n g rfl rfl hle hb
    rcases hx with ⟨_, rfl, a0, rfl⟩ | ⟨b, m, c, off, h1, rfl, h2, h3⟩
    . refine ⟨[], ⟨⟨a0, 0, rfl⟩, fun w' _ P => ?_, by simp, fun i hi => by omega, fun i j hi => by omega, by simp⟩⟩
      cases a0 with
      | none => exact run_firstCells_none w' z 0 0 0
      | some ad => have := run_firstCells_some (P := P) w' z 0 ad 0 0 [] (by simp) (by simp); simpa using this
    . obtain ⟨arr, e, fr, g1, g2, g3, g4, g5⟩ := hb b m h1
      refine ⟨_, News.of_block (o := o) g1 (fun hq => (h3 (by omega)).1) (fun hq => ?_) (fun i hi => g4 _ (by omega)) (fun i j hi hj => g5 _ _ (by omega) hj)⟩
      have : (o + len) * z <= n * z := Nat.mul_le_mul_right _ hle
      omega
   split at hk
   . rename_i z' n g k1 hb
     split at hk
     . rename_i hk1 hz'
       obtain ⟨⟨h1, h2⟩, hk⟩ := hk
       have hz' := Nat.eq_of_beq_eq_true hz'
       obtain ⟨news, hnews⟩ := main z' n g hz' h1 h2 (fun b m hψ => by
        have := hs.blk k _ hψ
        rw [hb] at this
        obtain ⟨arr, e, q1, q2, q3, q4, q5⟩ := this
        exact ⟨arr, e, _, q1, q2, q3, q4, q5⟩)
       exact ⟨len, _, news, hk h1 h2, hnews⟩
     . exact hk.elim
   . rename_i z' n g hb
     split at hk
     . rename_i hz'
       obtain ⟨⟨h1, h2⟩, hk⟩ := hk
       have hz' := Nat.eq_of_beq_eq_true hz'
       obtain ⟨news, hnews⟩ := main z' n g hz' h1 h2 (fun b m hψ => by
        have := hs.blk k _ hψ
        rw [hb] at this
        obtain ⟨arr, e, q1, q2, q3, q4, q5⟩ := this
        exact ⟨arr, e, _, q1, q2, q3, q4, q5⟩)
       exact ⟨len, _, news, hk h1 h2, hnews⟩
     . exact hk.elim
   . rename_i z' n g hb
     split at hk
     . rename_i hz'
       obtain ⟨⟨h1, h2⟩, hk⟩ := hk
       have hz' := Nat.eq_of_beq_eq_true hz'
       obtain ⟨news, hnews⟩ := main z' n g hz' h1 h2 (fun b m hψ => by
        have := hs.blk k _ hψ
        rw [hb] at this
        obtain ⟨_, arr, e, fr, q1, q2, q3, q4, q5⟩ := this
        exact ⟨arr, e, fr, q1, q2, q3, q4, q5⟩)
       exact ⟨len, _, news, hk h1 h2, hnews⟩
     . exact hk.elim
   . exact hk.elim
 . exact hk.elim
theorem run_append_shape {t u ty e e' : TypeId} {i : TypeInfo} (ht : P.underlying t = some (.slice e)) (hu : P.underlying u = some (.slice e')) (hi : P.info? e = some i) {sa xa : Option Addr} {n c q cx : Nat} :
 (Builtin.append_ #[t, u] ty #[.slice sa n c, .slice xa q cx]).run P w = (Builtin.append_ #[t, t] ty #[.slice sa n c, .slice xa q cx]).run P w := by
 simp [Builtin.append_, run_underlying ht, run_underlying hu, sizeOf, typeInfo, hi, Builtin.lenOf]
theorem run_append_new {t u ty e e' : TypeId} {i : TypeInfo} {z : Value} (ht : P.underlying t = some (.slice e)) (hu : P.underlying u = some (.slice e')) (hi : P.info? e = some i) (hz : i.zero = some z)
 {sa xa : Option Addr} {n c q cx : Nat} {olds news : List Value} (hol : ∀ w', w'.heap = w.heap -> (Builtin.firstCells i.size n (.slice sa n c)).run P w' = .ok olds.toArray w')
 (hne : ∀ w', w'.heap = w.heap -> (Builtin.firstCells i.size q (.slice xa q cx)).run P w' = .ok news.toArray w')
 (hg : c < n + q) (h63 : ((n + q : Nat) : Int) <= 9223372036854775807) (hfit : Builtin.nextslicecap (n + q) c * i.bytes <= 281474976710656) :
 (Builtin.append_ #[t, u] ty #[.slice sa n c, .slice xa q cx]).run P w =
   .ok (.slice (some ⟨w.heap.size, 0, none⟩) (n + q) (grownCap w (n + q) c e))
    (w.drew.alloc (.cells (olds.toArray ++ news.toArray ++ Builtin.zeroCells z.cells (grownCap w (n + q) c e - (n + q))) e)) := by
 rw [run_append_shape ht hu hi]
 have hn : ¬ (n + q <= c) := by omega
 have h63' : ¬ (9223372036854775807 < ((n : Int) + (q : Int))) := by omega
 have h48' : ¬ (281474976710656 < Builtin.nextslicecap (n + q) c * i.bytes) := by omega
 have hf := hne w.drew rfl
 have hfo := hol w.drew rfl
 simp [Builtin.append_, run_underlying ht, sizeOf, typeInfo, zeroValue, hi, hz, Builtin.lenOf, hn, h63', h48', Question.forced, hf, hfo, newRow, grownCap]
 congr 2
 apply Array.ext'
 simp [List.append_assoc]
theorem run_append_in {t u ty e e' : TypeId} {i : TypeInfo} (ht : P.underlying t = some (.slice e)) (hu : P.underlying u = some (.slice e')) (hi : P.info? e = some i)
 {ad : Addr} {xa : Option Addr} {n c q cx : Nat} {news : List Value} (hne : (Builtin.firstCells i.size q (.slice xa q cx)).run P w = .ok news.toArray w) {w2 : World}
 (hst : (storeCells (ad.add (n * i.size)) news).run P w = .ok () w2) (hg : n + q <= c) :
 (Builtin.append_ #[t, u] ty #[.slice (some ad) n c, .slice xa q cx]).run P w = .ok (.slice (some ad) (n + q) c) w2 := by
 rw [run_append_shape ht hu hi]
 simp [Builtin.append_, run_underlying ht, sizeOf, typeInfo, hi, Builtin.lenOf, hg, hne, hst]
theorem run_append_none {t u ty e e' : TypeId} {i : TypeInfo} (ht : P.underlying t = some (.slice e)) (hu : P.underlying u = some (.slice e')) (hi : P.info? e = some i)
 {sa xa : Option Addr} {cx : Nat} : (Builtin.append_ #[t, u] ty #[.slice sa 0 0, .slice xa 0 cx]).run P w = .ok (.slice sa 0 0) w := by
 rw [run_append_shape ht hu hi]
 have hf : (Builtin.firstCells i.size 0 (.slice xa 0 cx)).run P w = .ok #[] w := by
  cases xa with
  | none => exact run_firstCells_none w i.size 0 0 cx
  | some ad => have := run_firstCells_some (P := P) w i.size 0 ad 0 cx [] (by simp) (by simp); simpa using this
 cases sa with
 | none => simp [Builtin.append_, run_underlying ht, sizeOf, typeInfo, hi, Builtin.lenOf, hf]
 | some ad => simp [Builtin.append_, run_underlying ht, sizeOf, typeInfo, hi, Builtin.lenOf, hf, storeCells]
theorem Rel.heapEq (hr : Rel P base ψ S w st a) (h1 : w'.os = w.os) (h2 : w'.tape = w.tape) (h3 : w'.output = w.output) (h4 : w'.heap = w.heap) : Rel P base ψ S w' st a /\ Ext base ψ S w ψ S w' := by
 have hl : Later S w S w' := ⟨fun _ h => h, fun b _ => by rw [h4]⟩
 refine ⟨⟨hr.bas, ⟨hr.sim.dom, fun k l hk => (hr.sim.blk k l hk).later (PsiSub.refl _) hl (fun b m _ => by rw [h4]), hr.sim.inj, hr.sim.dis, fun k b m hk => by rw [h4]; exact hr.sim.pdom k b m hk, hr.sim.sdom.later hl fun b hb => by rw [h4]; exact hr.sim.sdom b hb⟩, hr.lim, hr.defers,
  fun t => (hr.tmps t).later (PsiSub.refl _) hl⟩, ⟨h1, h2, h3, by rw [h4]; exact Nat.le_refl _, fun b _ _ => by rw [h4], hl, fun _ h => .inl h, fun k b m h => .inl ⟨k, m, h⟩, fun _ _ => rfl⟩⟩
theorem appRow_rep {sz n q : Nat} {f g : Nat -> List DV} {olds news : List Value} {arr : Array Value} (hol : olds.length = n * sz) (hnl : news.length = q * sz)
 (hf : ∀ i, i < n -> (f i).length = sz) (hg : ∀ i, i < q -> (g i).length = sz) (ho : ∀ i j, i < n -> j < sz -> RepD S w ((f i).getD j (.v (.bool false))) (olds.getD (i * sz + j) undef))
 (hn : ∀ i j, i < q -> j < sz -> RepD S w ((g i).getD j (.v (.bool false))) (news.getD (i * sz + j) undef)) (ha : ∀ j, j < (n + q) * sz -> arr.getD j undef = (olds ++ news).getD j undef) :
 (∀ i, i < n + q -> (appRow n f g i).length = sz) /\ ∀ i j, i < n + q -> j < sz -> RepD S w ((appRow n f g i).getD j (.v (.bool false))) (arr.getD (i * sz + j) undef) := by
 refine ⟨fun i hi => ?_, fun i j hi hj => ?_⟩
 . unfold appRow
   by_cases h : i < n
   . rw [if_pos h]; exact hf i h
   . rw [if_neg h]; exact hg _ (by omega)
 . have hb := row_bound (sz := sz) hi
   rw [ha _ (by omega)]
   unfold appRow
   by_cases h : i < n
   . rw [if_pos h]
     have hb2 := row_bound (sz := sz) h
     have e : (olds ++ news).getD (i * sz + j) undef = olds.getD (i * sz + j) undef := by
      rw [List.getD_eq_getElem?_getD, List.getD_eq_getElem?_getD, List.getElem?_append_left (by omega)]
     rw [e]; exact ho i j h hj
   . rw [if_neg h]
     obtain ⟨p, rfl⟩ : ∃ p, i = n + p := ⟨i - n, by omega⟩
     have e : (olds ++ news).getD ((n + p) * sz + j) undef = news.getD (p * sz + j) undef := by
      rw [List.getD_eq_getElem?_getD, List.getD_eq_getElem?_getD, Nat.add_mul, List.getElem?_append_right (by omega)]
      congr 2; omega
     rw [e, show n + p - n = p by omega]; exact hn p j (by omega) hj
theorem zero_size {z : Value} (hz : zeroOk z) : z.cells.size = (zeroCells' z).length := by
 cases z with
 | agg cs => simp [Value.cells, zeroCells']
 | tuple _ => exact hz.elim
 | _ => rfl
theorem zeroCells_get {z : Value} {n j : Nat} (hp : 0 < z.cells.size) (hj : j < n * z.cells.size) : (Builtin.zeroCells z.cells n)[j]? = z.cells[j % z.cells.size]? := by
 have hm : j % z.cells.size < z.cells.size := Nat.mod_lt _ hp
 simp only [Builtin.zeroCells, Array.getElem?_map]
 have : (Array.range (n * z.cells.size))[j]? = some j := by simp [hj]
 rw [this, Option.map_some, getElem!_pos (c := z.cells) (i := j % z.cells.size) (h := hm), Array.getElem?_eq_getElem hm]
theorem oAppendMake_ok (hτ : TysOk P τ) (hz : ∀ t i, τ t = some i -> zeroOk i.zero) {t u e : TypeId} {tms : List (Nat × Tm)} {h : List (Nat × Blk)} {n m : Nat} (hrel : Rel P base ψ S w ⟨tms, h, n, m⟩ a) {args : Array Operand} (hop : o.op = .call { callee := .builtin .append, args, argTypes := #[t, u] })
 {kn : IntKind} {de : TypeDesc} {sz bys : Nat} {cmp : Bool} {z : Value} {q : Int} (htu : P.underlying t = some (.slice e)) (huu : P.underlying u = some (.int kn)) (hte : τ e = some ⟨de, sz, ⟨bys, cmp⟩, z⟩)
 (hav : args.map a.eval = #[.slice none 0 0, .int .i64 q]) (hzl : (zeroCells' z).length = sz) (hsz : 0 < sz) (hby : 0 < bys)
 (hk : closeCells h (zeroCells' z) fun ds => (0 <= q /\ q * bys <= 140737488355328) /\ (0 <= q -> putK ⟨tms, (n, .row sz q.toNat (fun _ => ds)) :: h, n + 1, m⟩ o.dst (.va (.c (.osl n sz 0 q.toNat))) K)) : OpOk P base ψ S w a o K := by
 obtain ⟨info, hi1, _, hi2, hi3, hi4⟩ := hτ.ok _ _ hte
 simp only at hi2 hi3 hi4
 obtain ⟨ds, hds, ⟨hq0, hqb⟩, hk⟩ := closeCells_rep hrel.sim hk (zero_cells (hz _ _ hte))
 have hk := hk hq0
 have hzc : z.cells.size = sz := by rw [zero_size (hz _ _ hte)]; exact hzl
 have hdl : ds.length = sz := by have := hds.length; simp at this; omega
 have hrun : ∀ r w2, (Builtin.append_ #[t, u] o.type #[.slice none 0 0, .int .i64 q]).run P w = .ok r w2 -> (execOp a.eval o).run P w = .ok (.value r) w2 := by
  intro r w2 hr
  rw [call_builtin hop, hav]
  simp only [builtin, Sem.run_bind, hr, Result.andThen_ok, Sem.run_pure]
 obtain ⟨k, rfl⟩ := Int.eq_ofNat_of_zero_le hq0
 rw [Int.toNat_natCast] at hk
 rcases Nat.eq_zero_or_pos k with hk0 | hk0
 . subst hk0
   obtain ⟨k1, k2⟩ := hrel.name (sz := sz) (q := 0) (f := fun _ => ds) (l := .virt) (fun _ => rfl) (fun b mm e => by cases e)
   refine OpOk.value (hrun _ _ ?_) k1 (x := .va (.c (.osl n sz 0 0))) (.inl ⟨by simp [Psi.set], rfl, none, rfl⟩) hk k2
   have hw : IntKind.i64.wrap ((0 : Nat) : Int) = 0 := rfl
   simp [Builtin.append_, run_underlying htu, run_underlying huu, sizeOf, typeInfo, hi1, asInt, asIntOf, IntKind.wrap, IntKind.signed, IntKind.bits]
 . have hb2 : k * bys <= 140737488355328 := by
    have : ((k * bys : Nat) : Int) <= 140737488355328 := by rw [Int.natCast_mul]; exact hqb
    omega
   have hkl : k <= k * bys := Nat.le_mul_of_pos_right _ hby
   have hr := Lib.run_append_nil_zeros (P := P) w t u o.type e info z .i64 kn htu huu hi1 hi4 k hk0 (by omega) (by omega) (by rw [hi3]; omega)
   obtain ⟨hr1, hx1⟩ := hrel.heapEq (w' := w.drew) rfl rfl rfl rfl
   have hge := grownCap_ge w k 0 e
   generalize harr : Builtin.zeroCells z.cells k ++ Builtin.zeroCells z.cells (grownCap w k 0 e - k) = arr at hr
   have hasz : arr.size = grownCap w k 0 e * sz := by
    rw [<- harr]
    simp only [Array.size_append, size_zeroCells, hzc, <- Nat.add_mul]
    congr 1; omega
   have hle : k * sz <= grownCap w k 0 e * sz := Nat.mul_le_mul_right _ hge
   have hl2 : Later S w S (w.drew.alloc (.cells arr e)) := hx1.later.trans (later_alloc hr1.sim.sdom _)
   obtain ⟨k1, k2⟩ := hr1.alloc (blk := .row sz k (fun _ => ds)) (arr := arr) (e := e)
    ⟨arr, e, heap_alloc_new _, rfl, by omega, fun _ _ => hdl, fun i j hi hj => by
      have hb := row_bound (sz := sz) hi
      have hsz2 : (Builtin.zeroCells z.cells k).size = k * sz := by rw [size_zeroCells, hzc]
      have e1 : arr.getD (i * sz + j) undef = (z.cells[j]?).getD undef := by
       rw [<- harr, Array.getD_eq_getD_getElem?, Array.getElem?_append_left (by omega), zeroCells_get (by omega) (by rw [hzc]; omega), hzc]
       have e5 : (i * sz + j) % sz = j := by rw [Nat.mul_comm, Nat.mul_add_mod, Nat.mod_eq_of_lt hj]
       rw [e5]
      obtain ⟨y, y1, y2⟩ := hds.get j (ds[j]'(by omega)) (by simp)
      have e6 : ds.getD j (.v (.bool false)) = ds[j]'(by omega) := by simp [List.getD, List.getElem?_eq_getElem (show j < ds.length by omega)]
      rw [Array.getElem?_toList] at y1
      rw [e1, e6, y1]
      exact y2.later hl2⟩
   refine OpOk.value (hrun _ _ hr) k1 (x := .va (.c (.osl n sz 0 k))) ?_ hk (hx1.trans k2)
   exact .inr ⟨w.heap.size, arr.size, grownCap w k 0 e, 0, by simp [Psi.set], rfl, hge, fun _ => ⟨by omega, by rw [Nat.zero_add]; omega⟩⟩
theorem unC_rep {x : Va} {v : Value} (h : RepVa P ψ S w x v) : RepVa P ψ S w (unC x) v := by
 unfold unC
 split
 . rename_i k z o len c
   rcases h with ⟨h1, h2, _, h3⟩ | ⟨b, m, off, h1, h2, h3, h4⟩
   . exact .inl ⟨h1, h2, by obtain ⟨a, e⟩ := h3; exact ⟨a, e⟩⟩
   . exact .inr ⟨b, m, c, off, h1, h2, h3, h4⟩
 . exact h
theorem srcOf_ok {h : List (Nat × Blk)} {next : Nat} (hs : Sim P ψ S w h next) {sz lim : Nat} (hz : 0 < sz) {x : Va} {v : Value} {KN : Nat -> (Nat -> List DV) -> Prop} (hx : RepVa P ψ S w x v) (hk : srcOf h sz x lim KN) :
 ∃ (q : Nat) (g : Nat -> List DV) (news : List Value) (ad : Option Addr) (n c : Nat), KN q g /\ v = .slice ad n c /\ q = Nat.min n lim /\ (∀ w', w'.heap = w.heap -> (Builtin.firstCells sz q v).run P w' = .ok news.toArray w') /\ news.length = q * sz /\ (∀ i, i < q -> (g i).length = sz) /\
  (∀ i j, i < q -> j < sz -> RepD S w ((g i).getD j (.v (.bool false))) (news.getD (i * sz + j) undef)) /\ ∀ v ∈ news, Scalar v := by
 unfold srcOf at hk
 split at hk
 . rename_i z n g
   obtain ⟨rfl, hk⟩ := hk
   have hk := hk rfl
   have hx : RepD S w (.lst z n g) v := hx
   cases hx with
   | @nil _ _ a0 c =>
     refine ⟨min 0 lim, g, [], a0, 0, c, hk, rfl, by show min 0 lim = Nat.min 0 lim; rfl, fun w' _ => ?_, by simp, fun i hi => by omega, fun i j hi => by omega, by simp⟩
     have e : min 0 lim = 0 := by omega
     rw [e]
     cases a0 with
     | none => exact run_firstCells_none w' z 0 0 c
     | some ad => have := run_firstCells_some (P := P) w' z 0 ad 0 c [] (by simp) (by simp); simpa using this
   | @lst _ _ _ b off c gv hS hlen hc hd hn =>
     have hle : min n lim <= n := Nat.min_le_left _ _
     have hcut : ∀ p, p < min n lim * z -> p / z < n /\ p % z < z /\ p / z * z + p % z = p := by
      intro p hp
      have : p / z < min n lim := by rw [Nat.div_lt_iff_lt_mul hz]; exact hp
      exact ⟨by omega, Nat.mod_lt _ hz, by rw [Nat.mul_comm]; exact Nat.div_add_mod p z⟩
     have hget : ∀ i j, i < min n lim -> j < z -> ((List.range (min n lim * z)).map fun p => gv (p / z) (p % z))[i * z + j]? = some (gv i j) := by
      intro i j hi hj
      have := row_bound (sz := z) hi
      simp only [List.getElem?_map, List.getElem?_range (show i * z + j < min n lim * z by omega), Option.map_some]
      have e1 : (i * z + j) / z = i := by rw [Nat.mul_comm, Nat.mul_add_div hz, Nat.div_eq_of_lt hj, Nat.add_zero]
      have e2 : (i * z + j) % z = j := by rw [Nat.mul_comm, Nat.mul_add_mod, Nat.mod_eq_of_lt hj]
      rw [e1, e2]
     refine ⟨min n lim, g, (List.range (min n lim * z)).map fun p => gv (p / z) (p % z), _, n, c, hk, rfl, rfl, fun w' hw' => ?_, by simp, fun i hi => hlen i (by omega), fun i j hi hj => ?_, fun u hu => ?_⟩
     . refine run_firstCells_some (P := P) w' z (min n lim) ⟨b, off, none⟩ n c _ (by simp) ?_
       intro p u hp
       have hplt : p < min n lim * z := by have := (List.getElem?_eq_some_iff.1 hp).1; simpa using this
       obtain ⟨c1, c2, c3⟩ := hcut p hplt
       rw [List.getElem?_map, List.getElem?_range hplt] at hp
       cases hp
       have := hc (p / z) (p % z) c1 c2
       rw [addr_add, cell_of_heap (w := w) (by rw [hw'])]
       rwa [Nat.add_assoc, c3] at this
     . rw [List.getD_eq_getElem?_getD (l := List.map _ _), hget i j hi hj]; exact hd i j (by omega) hj
     . obtain ⟨p, hp, e⟩ := List.mem_map.1 hu
       obtain ⟨c1, c2, c3⟩ := hcut p (by simpa using hp)
       rw [<- e]
       exact (hd _ _ c1 c2).scalar
 . rename_i k z o len
   split at hk
   . rename_i z' n g hb
     split at hk
     . rename_i hz'
       have hz' := Nat.eq_of_beq_eq_true hz'
       subst hz'
       obtain ⟨⟨rfl, hle⟩, hk⟩ := hk
       have hk := hk rfl hle
       rcases hx with ⟨_, rfl, a0, rfl⟩ | ⟨b, m, c, off, h1, rfl, h2, h3⟩
       . refine ⟨min 0 lim, _, [], a0, 0, 0, hk, rfl, rfl, fun w' _ => ?_, by simp, fun i hi => by omega, fun i j hi => by omega, by simp⟩
         have e : min 0 lim = 0 := by omega
         rw [e]
         cases a0 with
         | none => exact run_firstCells_none w' z 0 0 0
         | some ad => have := run_firstCells_some (P := P) w' z 0 ad 0 0 [] (by simp) (by simp); simpa using this
       . have hbk := hs.blk k _ h1
         rw [hb] at hbk
         obtain ⟨arr, e, q1, q2, q3, q4, q5⟩ := hbk
         have hle2 : min len lim <= len := Nat.min_le_left _ _
         have hN := News.of_block (S := S) (sz := z) (q := min len lim) (o := o) (g := fun i => g (o + i)) (c := c) (off := off) (no := fun _ => True) q1 (fun hq => (h3 (by omega)).1) (fun hq => by
          have : (o + min len lim) * z <= n * z := Nat.mul_le_mul_right _ hle
          omega) (fun i hi => q4 _ (by omega)) (fun i j hi hj => q5 _ _ (by omega) hj)
         refine ⟨min len lim, _, _, _, len, c, hk, rfl, rfl, fun w' hw' => ?_, hN.size, hN.row, hN.rep, hN.scal⟩
         have := hN.cells w' hw' P
         rw [<- this]
         simp only [Builtin.firstCells]
     . exact hk.elim
   . exact hk.elim
 . exact hk.elim
theorem oCopy_ok (hτ : TysOk P τ) (hrel : Rel P base ψ S w st a) {args : Array Operand} {ts : Array TypeId} (hop : o.op = .call { callee := .builtin .copy, args, argTypes := ts })
 {as0 : List Va} (has0 : mapO (fun x => asVa (ev st x)) args.toList = some as0) (hk : oCopy τ st o.dst ts.toList (some (as0.map unC)) K) : OpOk P base ψ S w a o K := by
 unfold oCopy at hk
 split at hk
 . rename_i t u k z o1 len x tms h n m hts has
   have hts : ts = #[t, u] := by apply Array.ext'; simpa using hts
   subst hts
   have hargs := (args_rep hrel has0).map_left unC fun _ _ => unC_rep
   rw [Option.some.inj has] at hargs
   obtain ⟨v1, v2, hav, hd, hx⟩ : ∃ v1 v2, args.map a.eval = #[v1, v2] /\ RepVa P ψ S w (.c (.osl k z o1 len)) v1 /\ RepVa P ψ S w x v2 := by
    generalize hl : args.toList.map a.eval = l at hargs
    match l, hargs with
    | [v1, v2], hargs => exact ⟨v1, v2, by apply Array.ext'; simpa using hl, hargs.1, hargs.2.1⟩
   split at hk
   . rename_i e sz1 bt1 z1 sz ln f ht hbk
     split at hk
     . rename_i de sz' bt zv hte
       obtain ⟨_, _, htu, _⟩ := hτ.ok _ _ ht
       have hsize := run_size hτ hte
       simp only at htu hsize
       split at hk
       . rename_i hb1 hb2 hb3
         have hb1 := Nat.eq_of_beq_eq_true hb1
         have hb2 := Nat.eq_of_beq_eq_true hb2
         have hsz : 0 < sz := by simpa [Nat.blt_eq] using hb3
         subst hb1; subst hb2
         obtain ⟨q, g, news, ad, nn, cc, ⟨hole, hk⟩, hv2, hq, hcells, hlen, hrow, hrep, hscal⟩ := srcOf_ok hrel.sim hsz hx hk
         have hk := hk hole
         have hrun : ∀ w2, (Builtin.copy_ #[t, u] o.type #[v1, v2]).run P w = .ok (.int .i64 q) w2 -> (execOp a.eval o).run P w = .ok (.value (.int .i64 q)) w2 := by
          intro w2 hr
          rw [call_builtin hop, hav]
          simp only [builtin, Sem.run_bind, hr, Result.andThen_ok, Sem.run_pure]
         have hcopy : ∀ (da : Option Addr) (dc : Nat) (w2 : World), v1 = .slice da len dc -> (match da with | some ad => (storeCells ad news).run P w = .ok () w2 | none => w2 = w) -> (Builtin.copy_ #[t, u] o.type #[v1, v2]).run P w = .ok (.int .i64 q) w2 := by
          intro da dc w2 hv1 hst
          have hc := hcells w rfl
          rw [hv2] at hc
          have hq' : Nat.min nn len = q := hq.symm
          subst hv1 hv2
          cases da with
          | none =>
            simp only at hst
            subst hst
            simp [Builtin.copy_, run_underlying htu, Builtin.lenOf, hsize, hq', hc, goInt]
          | some ad => simp [Builtin.copy_, run_underlying htu, Builtin.lenOf, hsize, hq', hc, hst, goInt]
         -- nothing is copied
         have idle : q = 0 -> (∃ da dc, v1 = .slice da len dc) -> OpOk P base ψ S w a o K := by
          rintro hq0 ⟨da, dc, hv1⟩
          have hn0 : news = [] := by apply List.eq_nil_of_length_eq_zero; rw [hlen, hq0, Nat.zero_mul]
          subst hn0
          have hrel2 : Rel P base ψ S w ⟨tms, (k, .row sz (max ln (o1 + q)) (cpyRow f o1 q g)) :: h, n, m⟩ a := by
           have e1 : max ln (o1 + q) = ln := by omega
           have e2 : ∀ i, cpyRow f o1 q g i = f i := fun i => by unfold cpyRow; rw [if_neg (by omega)]
           have hrow : ∀ l, BlkRep P ψ S w (.row sz ln f) l -> BlkRep P ψ S w (.row sz (max ln (o1 + q)) (cpyRow f o1 q g)) l := by
            intro l hl
            rw [e1]
            cases l with
            | virt => exact hl
            | «at» b mm =>
              obtain ⟨arr, e3, g1, g2, g3, g4, g5⟩ := hl
              exact ⟨arr, e3, g1, g2, g3, fun i hi => by rw [e2]; exact g4 i hi, fun i j hi hj => by rw [e2]; exact g5 i j hi hj⟩
           refine ⟨hrel.bas, ⟨hrel.sim.dom, fun j l hj => ?_, ?_, ?_, hrel.sim.pdom, hrel.sim.sdom⟩, hrel.lim, hrel.defers, hrel.tmps⟩
           . rw [lookB_cons]
             by_cases ej : k = j
             . rw [if_pos ej]; subst ej; refine hrow l ?_; have := hrel.sim.blk k l hj; simp only [hbk] at this; exact this
             . rw [if_neg ej]; exact hrel.sim.blk j l hj
           . intro j j' b m1 m2 h1 h2 l1 l2
             have hlv : ∀ j, (lookB ((k, Blk.row sz (max ln (o1 + q)) (cpyRow f o1 q g)) :: h) j).live -> (lookB h j).live := by
              intro j hl
              rw [lookB_cons] at hl
              by_cases ej : k = j
              . subst ej; rw [hbk]; trivial
              . rwa [if_neg ej] at hl
             exact hrel.sim.inj j j' b m1 m2 h1 h2 (hlv j l1) (hlv j' l2)
           . intro j b m1 h1 l1
             refine hrel.sim.dis j b m1 h1 ?_
             rw [lookB_cons] at l1
             by_cases ej : k = j
             . subst ej; simp only [hbk]; trivial
             . rwa [if_neg ej] at l1
          refine OpOk.value (hrun w (hcopy da dc w hv1 ?_)) hrel2 (x := vx _) (.v trivial) hk (Ext.refl _ _ _ _)
          cases da <;> rfl
         rcases hd with ⟨h1, rfl, a0, hv1⟩ | ⟨b, mm, c, off, h1, hv1, h2, h3⟩
         . refine idle ?_ ⟨_, _, hv1⟩
           rw [hq]; exact Nat.min_zero _
         . by_cases hq0 : q = 0
           . exact idle hq0 ⟨_, _, hv1⟩
           . have hql : q <= len := by rw [hq]; exact Nat.min_le_right _ _
             obtain ⟨hoff, hcm⟩ := h3 (by omega)
             have hbl := hrel.sim.blk k _ h1
             simp only [hbk] at hbl
             obtain ⟨arr, e3, g1, g2, g3, g4, g5⟩ := hbl
             have hcz : (o1 + q) * sz <= (o1 + c) * sz := Nat.mul_le_mul_right _ (by omega)
             have hmul : (o1 + q) * sz = o1 * sz + q * sz := Nat.add_mul _ _ _
             obtain ⟨w2, arr2, p1, p2, p3, p4, p5, p6, p7, p8, p9⟩ := run_storeCells (P := P) (off := off) news 0 w arr g1 (by
              right; rw [hlen]; omega) hscal
             obtain ⟨r1, r2⟩ := hrel.write (w' := w2) (blk := .row sz (max ln (o1 + q)) (cpyRow f o1 q g)) h1 (by simp only [hbk]; trivial) p5 p6 p7 p8 p9 (fun hl => by
              refine ⟨arr2, e3, p2, by omega, ?_, fun i hi => ?_, fun i j hi hj => ?_⟩
              . rcases Nat.le_total ln (o1 + q) with hx | hx
                . rw [Nat.max_eq_right hx]; omega
                . rw [Nat.max_eq_left hx]; omega
              . unfold cpyRow
                split
                . exact hrow _ (by omega)
                . exact g4 i (by omega)
              . rw [Array.getD_eq_getD_getElem?, p4, hlen, Nat.add_zero]
                unfold cpyRow
                by_cases hc : o1 <= i /\ i < o1 + q
                . rw [if_pos hc]
                  have e1 := row_bound (sz := sz) (show i - o1 < q by omega)
                  have e2 : i * sz = o1 * sz + (i - o1) * sz := by rw [<- Nat.add_mul]; congr 1; omega
                  rw [if_pos (by omega)]
                  have e4 : i * sz + j - off = (i - o1) * sz + j := by omega
                  rw [e4, <- List.getD_eq_getElem?_getD]
                  exact (hrep _ _ (by omega) hj).later hl
                . rw [if_neg hc]
                  have hne : ¬ (off <= i * sz + j /\ i * sz + j < off + q * sz) := by
                   intro hin
                   rcases Nat.lt_or_ge i o1 with hlt | hge
                   . have := row_bound (sz := sz) hlt; omega
                   . have : o1 + q <= i := by omega
                     have := Nat.mul_le_mul_right sz this
                     omega
                  rw [if_neg hne, <- Array.getD_eq_getD_getElem?]
                  exact (g5 i j (by omega) hj).later hl)
             exact OpOk.value (hrun _ (hcopy _ _ w2 hv1 p1)) r1 (x := vx _) (.v trivial) hk r2
       . exact hk.elim
     . exact hk.elim
   . exact hk.elim
 . exact hk.elim
theorem oAppMake_ok (hτ : TysOk P τ) (hz : ∀ t i, τ t = some i -> zeroOk i.zero) (hrel : Rel P base ψ S w st a) {args : Array Operand} {ts : Array TypeId} (hop : o.op = .call { callee := .builtin .append, args, argTypes := ts })
 {k z o1 len c : Nat} {q : Int} (has : mapO (fun x => asVa (ev st x)) args.toList = some [.c (.osc k z o1 len c), .c (.d (.v (.int .i64 q)))]) (hk : oAppMake τ st o.dst ts.toList k z o1 len c q K) : OpOk P base ψ S w a o K := by
 unfold oAppMake at hk
 split at hk
 . rename_i t u tms h n m hts
   have hts : ts = #[t, u] := by apply Array.ext'; simpa using hts
   subst hts
   have hargs := args_rep hrel has
   obtain ⟨v1, v2, hav, hs, hx⟩ : ∃ v1 v2, args.map a.eval = #[v1, v2] /\ RepVa P ψ S w (.c (.osc k z o1 len c)) v1 /\ RepVa P ψ S w (.c (.d (.v (.int .i64 q)))) v2 := by
    generalize hl : args.toList.map a.eval = l at hargs
    match l, hargs with
    | [v1, v2], hargs => exact ⟨v1, v2, by apply Array.ext'; simpa using hl, hargs.1, hargs.2.1⟩
   have hv2 : v2 = .int .i64 q := by cases hx; rfl
   split at hk
   . rename_i e sz1 bt1 z1 kn sz2 bt2 z2 sz ln f ht hu hbk
     split at hk
     . rename_i de sz' bys cmp zv hte
       obtain ⟨_, _, htu, _⟩ := hτ.ok _ _ ht
       obtain ⟨_, _, huu, _⟩ := hτ.ok _ _ hu
       obtain ⟨info, hi1, _, hi2, hi3, hi4⟩ := hτ.ok _ _ hte
       simp only at htu huu hi2 hi3 hi4
       split at hk
       . rename_i hb1 hb2 hzl hsz hby
         have hb1 := Nat.eq_of_beq_eq_true hb1
         have hb2 := Nat.eq_of_beq_eq_true hb2
         have hzl := Nat.eq_of_beq_eq_true hzl
         have hsz : 0 < sz := by simpa [Nat.blt_eq] using hsz
         have hby : 0 < bys := by simpa [Nat.blt_eq] using hby
         subst hb1; subst hb2
         obtain ⟨ds, hds, ⟨hq0, hole, hcl, hbytes⟩, hk⟩ := closeCells_rep hrel.sim hk (zero_cells (hz _ _ hte))
         have hk := hk hq0
         obtain ⟨p, rfl⟩ := Int.eq_ofNat_of_zero_le hq0
         rw [Int.toNat_natCast] at hk
         have hzc : zv.cells.size = sz := by rw [zero_size (hz _ _ hte)]; exact hzl
         have hdl : ds.length = sz := by have := hds.length; simp at this; omega
         have hbn : (len + p) * bys <= 140737488355328 := by
          have : (((len + p) * bys : Nat) : Int) <= 140737488355328 := by rw [Int.natCast_mul, Int.natCast_add]; exact hbytes
          omega
         have hnl : len + p <= (len + p) * bys := Nat.le_mul_of_pos_right _ hby
         have hg : c < len + p := by omega
         -- what was there
         obtain ⟨olds, sa, hv1, holc, holl, hold⟩ : ∃ (olds : List Value) (sa : Option Addr), v1 = .slice sa len c /\ (∀ w', w'.heap = w.heap -> (Builtin.firstCells sz len v1).run P w' = .ok olds.toArray w') /\ olds.length = len * sz /\
          ((∀ i, i < len -> (f (o1 + i)).length = sz) /\ ∀ i j, i < len -> j < sz -> RepD S w ((f (o1 + i)).getD j (.v (.bool false))) (olds.getD (i * sz + j) undef)) := by
          rcases hs with ⟨h1, rfl, rfl, a0, rfl⟩ | ⟨b, mm, off, h1, rfl, h2, h3⟩
          . refine ⟨[], a0, rfl, fun w' _ => ?_, by simp, fun i hi => by omega, fun i j hi => by omega⟩
            cases a0 with
            | none => exact run_firstCells_none w' sz 0 0 0
            | some ad => have := run_firstCells_some (P := P) w' sz 0 ad 0 0 [] (by simp) (by simp); simpa using this
          . have hbl := hrel.sim.blk k _ h1
            simp only [hbk] at hbl
            obtain ⟨arr, e3, g1, g2, g3, g4, g5⟩ := hbl
            have hN := News.of_block (S := S) (sz := sz) (q := len) (o := o1) (g := fun i => f (o1 + i)) (c := c) (off := off) (no := fun _ => True) g1 (fun hq => (h3 (by omega)).1) (fun hq => by
             have : (o1 + len) * sz <= ln * sz := Nat.mul_le_mul_right _ hole
             omega) (fun i hi => g4 _ (by omega)) (fun i j hi hj => g5 _ _ (by omega) hj)
            exact ⟨_, _, rfl, fun w' hw' => hN.cells w' hw' P, hN.size, hN.row, hN.rep⟩
         have hrun : ∀ r w2, (Builtin.append_ #[t, u] o.type #[v1, v2]).run P w = .ok r w2 -> (execOp a.eval o).run P w = .ok (.value r) w2 := by
          intro r w2 hr
          rw [call_builtin hop, hav]
          simp only [builtin, Sem.run_bind, hr, Result.andThen_ok, Sem.run_pure]
         have hge := grownCap_ge w (len + p) c e
         obtain ⟨hr1, hx1⟩ := hrel.heapEq (w' := w.drew) rfl rfl rfl rfl
         have hrun2 : (Builtin.append_ #[t, u] o.type #[v1, v2]).run P w = .ok (.slice (some ⟨w.heap.size, 0, none⟩) (len + p) (grownCap w (len + p) c e))
          (w.drew.alloc (.cells (olds.toArray ++ Builtin.zeroCells zv.cells p ++ Builtin.zeroCells zv.cells (grownCap w (len + p) c e - (len + p))) e)) := by
          subst hv1 hv2
          have hol2 := holc w.drew rfl
          have h0p : 0 < p := by
           rcases hs with ⟨_, rfl, rfl, _⟩ | ⟨_, _, _, _, _, h2, _⟩
           . omega
           . omega
          rw [<- hi2] at hol2
          have hpp : p * bys <= (len + p) * bys := Nat.mul_le_mul_right _ (by omega)
          exact Lib.run_append_grow_zeros (P := P) w t u o.type e info zv .i64 kn htu huu hi1 hi4 sa len c olds hol2 p h0p (by rw [hi2]; exact hsz) hg (by omega) (by rw [hi3]; omega) (growslice_fits hg (by rw [hi3]; exact hbn))
         generalize harr : (olds.toArray ++ Builtin.zeroCells zv.cells p ++ Builtin.zeroCells zv.cells (grownCap w (len + p) c e - (len + p))) = arr at hrun2
         have hasz : arr.size = grownCap w (len + p) c e * sz := by
          rw [<- harr]
          simp only [Array.size_append, List.size_toArray, size_zeroCells, hzc, holl, <- Nat.add_mul]
          congr 1; omega
         have hle : (len + p) * sz <= grownCap w (len + p) c e * sz := Nat.mul_le_mul_right _ hge
         have hnews : ∀ i j, i < p -> j < sz -> RepD S w (ds.getD j (.v (.bool false))) ((Builtin.zeroCells zv.cells p).toList.getD (i * sz + j) undef) := by
          intro i j hi hj
          have hb := row_bound (sz := sz) hi
          obtain ⟨y, y1, y2⟩ := hds.get j (ds[j]'(by omega)) (by simp)
          have e6 : ds.getD j (.v (.bool false)) = ds[j]'(by omega) := by simp [List.getD, List.getElem?_eq_getElem (show j < ds.length by omega)]
          rw [Array.getElem?_toList] at y1
          have e5 : (i * sz + j) % sz = j := by rw [Nat.mul_comm, Nat.mul_add_mod, Nat.mod_eq_of_lt hj]
          rw [e6, List.getD_eq_getElem?_getD, Array.getElem?_toList, zeroCells_get (by omega) (by rw [hzc]; omega), hzc, e5, y1]
          exact y2
         have hget : ∀ j, j < (len + p) * sz -> arr.getD j undef = (olds ++ (Builtin.zeroCells zv.cells p).toList).getD j undef := by
          intro j hj
          have hj2 : j < (olds ++ (Builtin.zeroCells zv.cells p).toList).length := by rw [List.length_append, holl, Array.length_toList, size_zeroCells, hzc, <- Nat.add_mul]; exact hj
          rw [<- harr, Array.getD_eq_getD_getElem?, List.getD_eq_getElem?_getD, <- Array.getElem?_toList]
          simp only [Array.toList_append]
          rw [List.getElem?_append_left hj2]
         have hl2 : Later S w S (w.drew.alloc (.cells arr e)) := hx1.later.trans (later_alloc hr1.sim.sdom _)
         obtain ⟨q1, q2⟩ := appRow_rep (S := S) (w := w) (sz := sz) (n := len) (q := p) (f := fun i => f (o1 + i)) (g := fun _ => ds) (olds := olds) (news := (Builtin.zeroCells zv.cells p).toList) (arr := arr) holl (by rw [Array.length_toList, size_zeroCells, hzc]) hold.1 (fun _ _ => hdl) hold.2 hnews hget
         obtain ⟨k1, k2⟩ := hr1.alloc (blk := .row sz (len + p) (appRow len (fun i => f (o1 + i)) fun _ => ds)) (arr := arr) (e := e)
          ⟨arr, e, heap_alloc_new _, rfl, by omega, q1, fun i j hi hj => (q2 i j hi hj).later hl2⟩
         refine OpOk.value (hrun _ _ hrun2) k1 (x := .va (.c (.osl n sz 0 (len + p)))) ?_ hk (hx1.trans k2)
         exact .inr ⟨w.heap.size, arr.size, grownCap w (len + p) c e, 0, by simp [Psi.set], rfl, hge, fun _ => ⟨by omega, by rw [Nat.zero_add]; omega⟩⟩
       . exact hk.elim
     . exact hk.elim
   . exact hk.elim
 . exact hk.elim
theorem oAppNil_ok (hτ : TysOk P τ) (hrel : Rel P base ψ S w st a) {args : Array Operand} {ts : Array TypeId} (hop : o.op = .call { callee := .builtin .append, args, argTypes := ts })
 {as0 : List Va} (has0 : mapO (fun x => asVa (ev st x)) args.toList = some as0) (he : emptyApp as0 = true) (hk : oAppNil τ st o.dst ts.toList K) : OpOk P base ψ S w a o K := by
 have hargs := args_rep hrel has0
 have hsh : ∃ xa cx, args.map a.eval = #[.slice none 0 0, .slice xa 0 cx] := by
  have key : ∀ {x : Va}, as0 = [.c (.d (.v (.slice none 0 0))), x] -> (∀ v, RepVa P ψ S w x v -> ∃ xa cx, v = .slice xa 0 cx) -> ∃ xa cx, args.map a.eval = #[.slice none 0 0, .slice xa 0 cx] := by
   intro x hx hr
   subst hx
   generalize hl : args.toList.map a.eval = l at hargs
   match l, hargs with
   | [v1, v2], hargs =>
     obtain ⟨h1, h2, _⟩ := hargs
     obtain ⟨xa, cx, rfl⟩ := hr v2 h2
     have h1 : v1 = .slice none 0 0 := by cases h1; rfl
     subst h1
     exact ⟨xa, cx, by apply Array.ext'; simpa using hl⟩
  unfold emptyApp at he
  split at he
  . exact key rfl fun v hv => by cases hv; exact ⟨_, _, rfl⟩
  . exact key rfl fun v hv => by
     rcases hv with ⟨_, _, a0, rfl⟩ | ⟨b, m, c, off, _, rfl, _⟩
     . exact ⟨_, _, rfl⟩
     . exact ⟨_, _, rfl⟩
  . exact key rfl fun v hv => by cases hv <;> exact ⟨_, _, rfl⟩
  . cases he
 obtain ⟨xa, cx, hav⟩ := hsh
 unfold oAppNil at hk
 split at hk
 . rename_i t u hts
   have hts : ts = #[t, u] := by apply Array.ext'; simpa using hts
   subst hts
   split at hk
   . rename_i e sz1 bt1 z1 e2 sz2 bt2 z2 ht hu
     split at hk
     . rename_i ti hte
       obtain ⟨_, _, htu, _⟩ := hτ.ok _ _ ht
       obtain ⟨_, _, huu, _⟩ := hτ.ok _ _ hu
       obtain ⟨i, hi1, _⟩ := hτ.ok _ _ hte
       refine OpOk.value (v := .slice none 0 0) (x := vx (.slice none 0 0)) ?_ hrel (.v trivial) hk (Ext.refl _ _ _ _)
       rw [call_builtin hop, hav]
       simp only [builtin, Sem.run_bind, run_append_none htu huu hi1, Result.andThen_ok, Sem.run_pure]
     . exact hk.elim
   . exact hk.elim
 . exact hk.elim
theorem oAppend_ok (hτ : TysOk P τ) (hz : ∀ t i, τ t = some i -> zeroOk i.zero) (hrel : Rel P base ψ S w st a) {args : Array Operand} {ts : Array TypeId} (hop : o.op = .call { callee := .builtin .append, args, argTypes := ts })
 {as0 : List Va} (has0 : mapO (fun x => asVa (ev st x)) args.toList = some as0) (hk : oAppend τ st o.dst ts.toList (some (as0.map unC)) K) : OpOk P base ψ S w a o K := by
 unfold oAppend at hk
 split at hk
 . rename_i t u s x tms h n m hts has
   have hargs := (args_rep hrel has0).map_left unC fun _ _ => unC_rep
   rw [Option.some.inj has] at hargs
   have hts : ts = #[t, u] := by apply Array.ext'; simpa using hts
   subst hts
   obtain ⟨v1, v2, hav, hs, hx⟩ : ∃ v1 v2, args.map a.eval = #[v1, v2] /\ RepVa P ψ S w s v1 /\ RepVa P ψ S w x v2 := by
    generalize hl : args.toList.map a.eval = l at hargs
    match l, hargs with
    | [v1, v2], hargs => exact ⟨v1, v2, by apply Array.ext'; simpa using hl, hargs.1, hargs.2.1⟩
   split at hk
   . rename_i e sz1 bt1 z1 e2 sz2 bt2 z2 ht hu
     split at hk
     . rename_i de sz bys cmp z hte
       obtain ⟨_, _, htu, _⟩ := hτ.ok _ _ ht
       obtain ⟨_, _, huu, _⟩ := hτ.ok _ _ hu
       obtain ⟨info, hi1, _, hi2, hi3, hi4⟩ := hτ.ok _ _ hte
       simp only at htu huu hi2 hi3 hi4
       split at hk
       . rename_i hzl hsz hby
         have hzl := Nat.eq_of_beq_eq_true hzl
         have hsz : 0 < sz := by simpa [Nat.blt_eq] using hsz
         have hby : 0 < bys := by simpa [Nat.blt_eq] using hby
         have hzc : z.cells.size = sz := by rw [zero_size (hz _ _ hte)]; exact hzl
         have hrun : ∀ r w2, (Builtin.append_ #[t, u] o.type #[v1, v2]).run P w = .ok r w2 -> (execOp a.eval o).run P w = .ok (.value r) w2 := by
          intro r w2 hr
          rw [call_builtin hop, hav]
          simp only [builtin, Sem.run_bind, hr, Result.andThen_ok, Sem.run_pure]
         -- a new block
         have grow : ∀ (h0 : List (Nat × Blk)) (len c q : Nat) (f g : Nat -> List DV) (olds news : List Value) (sa xa : Option Addr) (cx : Nat), Rel P base ψ S w ⟨tms, h0, n, m⟩ a -> v1 = .slice sa len c -> v2 = .slice xa q cx -> (len + q) * bys <= 140737488355328 -> c < len + q ->
          (∀ w', w'.heap = w.heap -> (Builtin.firstCells sz len v1).run P w' = .ok olds.toArray w') -> olds.length = len * sz -> (∀ i, i < len -> (f i).length = sz) ->
          (∀ i j, i < len -> j < sz -> RepD S w ((f i).getD j (.v (.bool false))) (olds.getD (i * sz + j) undef)) -> News S w sz q g v2 news (fun _ => True) ->
          putK ⟨tms, (n, .row sz (len + q) (appRow len f g)) :: h0, n + 1, m⟩ o.dst (.va (.c (.osl n sz 0 (len + q)))) K -> OpOk P base ψ S w a o K := by
          intro h0 len c q f g olds news sa xa cx hr0 hv1 hv2 hbytes hg hol holl hf ho hN hk
          subst hv1 hv2
          have hnl : len + q <= (len + q) * bys := Nat.le_mul_of_pos_right _ hby
          have hrun2 := run_append_new (P := P) (w := w) (ty := o.type) htu huu hi1 hi4 (sa := sa) (xa := xa) (n := len) (c := c) (q := q) (cx := cx) (olds := olds) (news := news)
           (by rw [hi2]; exact hol) (by rw [hi2]; exact fun w' hw' => hN.cells w' hw' P) hg (by omega) (growslice_fits hg (by rw [hi3]; exact hbytes))
          have hge := grownCap_ge w (len + q) c e
          obtain ⟨hr1, hx1⟩ := hr0.heapEq (w' := w.drew) rfl rfl rfl rfl
          have hn0 : ψ n = none := hr0.sim.dom n (Nat.le_refl _)
          generalize harr : (olds.toArray ++ news.toArray ++ Builtin.zeroCells z.cells (grownCap w (len + q) c e - (len + q))) = arr at hrun2
          have hasz : arr.size = grownCap w (len + q) c e * sz := by
           rw [<- harr]
           simp only [Array.size_append, List.size_toArray, size_zeroCells, hzc, holl, hN.size, <- Nat.add_mul]
           congr 1; omega
          have hle : (len + q) * sz <= grownCap w (len + q) c e * sz := Nat.mul_le_mul_right _ hge
          have hget : ∀ j, j < (len + q) * sz -> arr.getD j undef = (olds ++ news).getD j undef := by
           intro j hj
           have hj2 : j < (olds ++ news).length := by rw [List.length_append, holl, hN.size, <- Nat.add_mul]; exact hj
           rw [<- harr, Array.getD_eq_getD_getElem?, List.getD_eq_getElem?_getD, <- Array.getElem?_toList]
           simp only [Array.toList_append]
           rw [List.getElem?_append_left hj2]
          have hl2 : Later S w S (w.drew.alloc (.cells arr e)) := hx1.later.trans (later_alloc hr1.sim.sdom _)
          obtain ⟨q1, q2⟩ := appRow_rep (arr := arr) holl hN.size hf hN.row ho hN.rep hget
          obtain ⟨k1, k2⟩ := hr1.alloc (blk := .row sz (len + q) (appRow len f g)) (arr := arr) (e := e)
           ⟨arr, e, heap_alloc_new _, rfl, by omega, q1, fun i j hi hj => (q2 i j hi hj).later hl2⟩
          refine OpOk.value (hrun _ _ hrun2) k1 (x := .va (.c (.osl n sz 0 (len + q)))) ?_ hk (hx1.trans k2)
          exact .inr ⟨w.heap.size, arr.size, grownCap w (len + q) c e, 0, by simp [Psi.set], rfl, hge, fun _ => ⟨by omega, by rw [Nat.zero_add]; omega⟩⟩
         -- nothing there, and nothing added
         have none0 : ∀ (h0 : List (Nat × Blk)) (g : Nat -> List DV) (sa xa : Option Addr) (cx : Nat), Rel P base ψ S w ⟨tms, h0, n, m⟩ a -> v1 = .slice sa 0 0 -> v2 = .slice xa 0 cx ->
          putK ⟨tms, (n, .row sz 0 g) :: h0, n + 1, m⟩ o.dst (.va (.c (.osl n sz 0 0))) K -> OpOk P base ψ S w a o K := by
          intro h0 g sa xa cx hr0 hv1 hv2 hk
          subst hv1 hv2
          obtain ⟨k1, k2⟩ := hr0.name (sz := sz) (q := 0) (f := g) (l := .virt) (fun _ => rfl) (fun b mm e => by cases e)
          exact OpOk.value (hrun _ _ (run_append_none htu huu hi1)) k1 (x := .va (.c (.osl n sz 0 0))) (.inl ⟨by simp [Psi.set], rfl, _, rfl⟩) hk k2
         split at hk
         . obtain ⟨q, g, news, ⟨hb, hk⟩, hN⟩ := newsOf_ok hrel.sim hsz hx hk
           have hs : RepD S w (.v (.slice none 0 0)) v1 := hs
           have hv1 : v1 = .slice none 0 0 := by cases hs; rfl
           obtain ⟨xa, cx, hv2⟩ := hN.len
           rcases Nat.eq_zero_or_pos q with hq | hq
           . subst hq
             exact none0 h g none xa cx hrel hv1 hv2 hk
           . refine grow h 0 0 q (fun _ => []) g [] news none xa cx hrel hv1 hv2 (by simpa using hb) (by omega) ?_ (by simp) (fun i hi => by omega) (fun i j hi => by omega) hN ?_
             . intro w' _; rw [hv1]; exact run_firstCells_none w' sz 0 0 0
             . have : appRow 0 (fun _ => []) g = g := by funext i; simp [appRow]
               rw [this]; simpa using hk
         . rename_i k zz o1 len
           split at hk
           . rename_i z' ln f hbk ho1
             have ho1 := Nat.eq_of_beq_eq_true ho1
             subst ho1
             split at hk
             . rename_i hz'
               have hz' := Nat.eq_of_beq_eq_true hz'
               subst hz'
               obtain ⟨⟨rfl, hle⟩, hk⟩ := hk
               obtain ⟨q, g, news, ⟨hb, hk⟩, hN⟩ := newsOf_ok hrel.sim hsz hx hk
               obtain ⟨xa, cx, hv2⟩ := hN.len
               have hr0 := hrel.forget k
               rcases hs with ⟨h1, rfl, a0, hv1⟩ | ⟨b, mm, c, off, h1, hv1, h2, h3⟩
               . rcases Nat.eq_zero_or_pos q with hq | hq
                 . subst hq
                   exact none0 _ _ a0 xa cx hr0 hv1 hv2 hk
                 . refine grow _ 0 0 q f g [] news a0 xa cx hr0 hv1 hv2 hb (by omega) ?_ (by simp) (fun i hi => by omega) (fun i j hi => by omega) hN hk
                   intro w' _
                   rw [hv1]
                   cases a0 with
                   | none => exact run_firstCells_none w' zz 0 0 0
                   | some ad => have := run_firstCells_some (P := P) w' zz 0 ad 0 0 [] (by simp) (by simp); simpa using this
               . have hbl := hrel.sim.blk k _ h1
                 simp only [hbk] at hbl
                 obtain ⟨arr, e3, g1, g2, g3, g4, g5⟩ := hbl
                 have hle2 : len * zz <= ln * zz := Nat.mul_le_mul_right _ hle
                 have hcm : 0 < c -> off = 0 /\ c * zz <= mm := fun hc => by have := h3 hc; simpa using this
                 have hol : ∀ w', w'.heap = w.heap -> (Builtin.firstCells zz len v1).run P w' = .ok (arr.toList.take (len * zz)).toArray w' := by
                  intro w' hw'
                  rw [hv1]
                  refine run_firstCells_some (P := P) w' zz len ⟨b, off, none⟩ len c _ (by simp; omega) ?_
                  intro j u hj
                  have hjl : j < len * zz := by have := (List.getElem?_eq_some_iff.1 hj).1; simp at this; omega
                  have hlen0 : 0 < len := by rcases Nat.eq_zero_or_pos len with h | h; subst h; omega; exact h
                  obtain ⟨rfl, _⟩ := hcm (by omega)
                  rw [addr_add, cell_at (by rw [hw']; exact g1), Nat.zero_add, <- Array.getElem?_toList]
                  rw [List.getElem?_take, if_pos hjl] at hj
                  exact hj
                 have holl : (arr.toList.take (len * zz)).length = len * zz := by simp; omega
                 have hof : ∀ i j, i < len -> j < zz -> RepD S w ((f i).getD j (.v (.bool false))) ((arr.toList.take (len * zz)).getD (i * zz + j) undef) := by
                  intro i j hi hj
                  have hb2 := row_bound (sz := zz) hi
                  have := g5 i j (by omega) hj
                  have e : (arr.toList.take (len * zz)).getD (i * zz + j) undef = arr.getD (i * zz + j) undef := by
                   rw [List.getD_eq_getElem?_getD, List.getElem?_take, if_pos (by omega), Array.getD_eq_getD_getElem?, Array.getElem?_toList]
                  rw [e]; exact this
                 by_cases hroom : len + q <= c
                 . -- there is room
                   have hcz : (len + q) * zz <= c * zz := Nat.mul_le_mul_right _ hroom
                   have hoff : 0 < len + q -> off = 0 /\ c * zz <= mm := fun h => hcm (by omega)
                   have hnil : ¬ 0 < len + q -> news = [] := by
                    intro h
                    have : q = 0 := by omega
                    have hs := hN.size
                    rw [this, Nat.zero_mul] at hs
                    exact List.eq_nil_of_length_eq_zero hs
                   have hmul : (len + q) * zz = len * zz + q * zz := Nat.add_mul _ _ _
                   obtain ⟨w2, arr2, p1, p2, p3, p4, p5, p6, p7, p8, p9⟩ := run_storeCells (P := P) (off := off + len * zz) news 0 w arr g1 (by
                    by_cases h : 0 < len + q
                    . right; obtain ⟨q1, q2⟩ := hoff h; rw [hN.size]; omega
                    . left; exact hnil h) hN.scal
                   obtain ⟨r1, r2⟩ := hrel.write (w' := w2) (blk := .gone) h1 (by simp only [hbk]; trivial) p5 p6 p7 p8 p9 (fun _ => trivial)
                   have hl2 := r2.later
                   have hget : ∀ j, j < (len + q) * zz -> arr2.getD j undef = (arr.toList.take (len * zz) ++ news).getD j undef := by
                    intro j hj
                    have h0 : 0 < len + q := by rcases Nat.eq_zero_or_pos (len + q) with h | h; rw [h] at hj; omega; exact h
                    obtain ⟨q1, q2⟩ := hoff h0
                    subst q1
                    rw [Array.getD_eq_getD_getElem?, p4, List.getD_eq_getElem?_getD, hN.size]
                    by_cases hj2 : j < len * zz
                    . rw [if_neg (by omega), List.getElem?_append_left (by omega), List.getElem?_take, if_pos hj2, Array.getElem?_toList]
                    . rw [if_pos (by omega), List.getElem?_append_right (by omega), holl]
                      congr 2; omega
                   obtain ⟨q1, q2⟩ := appRow_rep (arr := arr2) holl hN.size (fun i hi => g4 i (by omega)) hN.row hof hN.rep hget
                   have hrow : ∀ ψ, BlkRep P ψ S w2 (.row zz (len + q) (appRow len f g)) (.at b mm) := by
                    intro ψ
                    refine ⟨arr2, e3, p2, by omega, ?_, q1, fun i j hi hj => (q2 i j hi hj).later hl2⟩
                    by_cases h : 0 < len + q
                    . obtain ⟨_, q2⟩ := hoff h; omega
                    . have : len + q = 0 := by omega
                      rw [this]; omega
                   obtain ⟨k1, k2⟩ := r1.name (l := .at b mm) hrow (by
                    intro b' mm' e
                    cases e
                    refine ⟨hrel.sim.dis k b mm h1 (by simp only [hbk]; trivial), by rw [p8]; exact hrel.sim.pdom k b mm h1, ⟨k, mm, h1⟩, ?_⟩
                    intro j m' hj hlive
                    rw [lookB_cons] at hlive
                    by_cases ej : k = j
                    . rw [if_pos ej] at hlive; exact hlive
                    . rw [if_neg ej] at hlive
                      exact ej (hrel.sim.inj k j b mm m' h1 hj (by simp only [hbk]; trivial) hlive))
                   have hstore : (storeCells ((⟨b, off, none⟩ : Addr).add (len * info.size)) news).run P w = .ok () w2 := by
                    rw [addr_add, hi2]; exact p1
                   subst hv1 hv2
                   have hr := run_append_in (P := P) (w := w) (ty := o.type) htu huu hi1 (ad := ⟨b, off, none⟩) (xa := xa) (n := len) (c := c) (q := q) (cx := cx) (news := news) (by rw [hi2]; exact hN.cells w rfl P) hstore hroom
                   refine OpOk.value (hrun _ _ hr) k1 (x := .va (.c (.osl n zz 0 (len + q)))) ?_ hk (r2.trans k2)
                   exact .inr ⟨b, mm, c, off, by simp [Psi.set], rfl, hroom, fun hc => by have := hcm hc; simpa using this⟩
                 . exact grow _ len c q f g _ news (some ⟨b, off, none⟩) xa cx hr0 hv1 hv2 hb (by omega) hol holl (fun i hi => g4 i (by omega)) hof hN hk
             . exact hk.elim
           . exact hk.elim
         . exact hk.elim
       . exact hk.elim
     . exact hk.elim
   . rename_i e sz1 bt1 z1 kn sz2 bt2 z2 ht hu
     split at hk
     . rename_i de sz bys cmp z hte
       obtain ⟨_, _, htu, _⟩ := hτ.ok _ _ ht
       obtain ⟨_, _, huu, _⟩ := hτ.ok _ _ hu
       simp only at htu huu
       split at hk
       . rename_i hzl hsz hby
         split at hk
         . rename_i q
           have hv1 : v1 = .slice none 0 0 := by cases hs; rfl
           have hv2 : v2 = .int .i64 q := by cases hx; rfl
           rw [hv1, hv2] at hav
           exact oAppendMake_ok hτ hz hrel hop htu huu hte hav (Nat.eq_of_beq_eq_true hzl) (by simpa [Nat.blt_eq] using hsz) (by simpa [Nat.blt_eq] using hby) hk
         . exact hk.elim
       . exact hk.elim
     . exact hk.elim
   . exact hk.elim
 . exact hk.elim
theorem oClear_ok (hτ : TysOk P τ) (hz : ∀ t i, τ t = some i -> zeroOk i.zero) (hrel : Rel P base ψ S w st a) {args : Array Operand} {ts : Array TypeId} (hop : o.op = .call { callee := .builtin .clear, args, argTypes := ts })
 (hk : oClear τ st o.dst ts.toList (mapO (fun x => asVa (ev st x)) args.toList) K) : OpOk P base ψ S w a o K := by
 unfold oClear at hk
 split at hk
 . rename_i t k zz o1 len tms h n m hts has
   have hargs := args_rep hrel has
   have hts : ts = #[t] := by apply Array.ext'; simpa using hts
   subst hts
   obtain ⟨v1, hav, hs⟩ : ∃ v1, args.map a.eval = #[v1] /\ RepVa P ψ S w (.c (.osl k zz o1 len)) v1 := by
    generalize hl : args.toList.map a.eval = l at hargs
    match l, hargs with
    | [v1], hargs => exact ⟨v1, by apply Array.ext'; simpa using hl, hargs.1⟩
   split at hk
   . rename_i e sz1 bt1 z1 sz ln f ht hbk
     split at hk
     . rename_i de sz' bt zv hte
       have hund := run_und hτ ht w
       have hzero := run_zeroV hτ hte w
       simp only at hund hzero
       split at hk
       . rename_i hb1 hb2 hb3
         have hb1 := Nat.eq_of_beq_eq_true hb1
         have hb2 := Nat.eq_of_beq_eq_true hb2
         have hb3 := Nat.eq_of_beq_eq_true hb3
         subst hb1; subst hb2
         obtain ⟨ds, hds, hle, hk⟩ := closeCells_rep hrel.sim hk (zero_cells (hz _ _ hte))
         have hk := hk hle
         have hzc : zv.cells.size = sz := by rw [zero_size (hz _ _ hte)]; exact hb3
         have hdl : ds.length = sz := by have := hds.length; simp at this; omega
         have hrun : ∀ w2, (Builtin.clear_ #[t] o.type #[v1]).run P w = .ok (.tuple #[]) w2 -> (execOp a.eval o).run P w = .ok (.value (.tuple #[])) w2 := by
          intro w2 hr
          rw [call_builtin hop, hav]
          simp only [builtin, Sem.run_bind, hr, Result.andThen_ok, Sem.run_pure]
         have htup : ∀ ψ w, RepT P ψ S w (.tup []) (.tuple #[]) := fun ψ w => ⟨#[], rfl, trivial⟩
         -- where nothing is to be done
         have idle : (Builtin.clear_ #[t] o.type #[v1]).run P w = .ok (.tuple #[]) w -> len * sz = 0 -> OpOk P base ψ S w a o K := by
          intro hr hl0
          have hrel2 : Rel P base ψ S w ⟨tms, (k, .row sz ln (clrRow f o1 len ds)) :: h, n, m⟩ a := by
           have hrow : ∀ l, BlkRep P ψ S w (.row sz ln f) l -> BlkRep P ψ S w (.row sz ln (clrRow f o1 len ds)) l := by
            intro l hl
            cases l with
            | virt => exact hl
            | «at» b mm =>
              obtain ⟨arr, e3, g1, g2, g3, g4, g5⟩ := hl
              refine ⟨arr, e3, g1, g2, g3, fun i hi => ?_, fun i j hi hj => ?_⟩
              . unfold clrRow
                split
                . exact hdl
                . exact g4 i hi
              . unfold clrRow
                split
                . rename_i hc
                  have : 0 < len := by omega
                  have : 0 < len * sz := Nat.mul_pos this (by omega)
                  omega
                . exact g5 i j hi hj
           refine ⟨hrel.bas, ⟨hrel.sim.dom, fun j l hj => ?_, ?_, ?_, hrel.sim.pdom, hrel.sim.sdom⟩, hrel.lim, hrel.defers, hrel.tmps⟩
           . rw [lookB_cons]
             by_cases ej : k = j
             . rw [if_pos ej]; subst ej; refine hrow l ?_; have := hrel.sim.blk k l hj; simp only [hbk] at this; exact this
             . rw [if_neg ej]; exact hrel.sim.blk j l hj
           . intro j j' b m1 m2 h1 h2 l1 l2
             have hlv : ∀ j, (lookB ((k, Blk.row sz ln (clrRow f o1 len ds)) :: h) j).live -> (lookB h j).live := by
              intro j hl
              rw [lookB_cons] at hl
              by_cases ej : k = j
              . subst ej; rw [hbk]; trivial
              . rwa [if_neg ej] at hl
             exact hrel.sim.inj j j' b m1 m2 h1 h2 (hlv j l1) (hlv j' l2)
           . intro j b m1 h1 l1
             refine hrel.sim.dis j b m1 h1 ?_
             rw [lookB_cons] at l1
             by_cases ej : k = j
             . subst ej; simp only [hbk]; trivial
             . rwa [if_neg ej] at l1
          exact OpOk.value (hrun _ hr) hrel2 (htup _ _) hk (Ext.refl _ _ _ _)
         rcases hs with ⟨h1, rfl, a0, hv1⟩ | ⟨b, mm, c, off, h1, hv1, h2, h3⟩
         . refine idle ?_ (by simp)
           rw [hv1]
           cases a0 <;> simp [Builtin.clear_, hund]
         . by_cases hl0 : len = 0
           . subst hl0
             refine idle ?_ (by simp)
             rw [hv1]
             simp [Builtin.clear_, hund]
           . obtain ⟨hoff, hcm⟩ := h3 (by omega)
             have hbl := hrel.sim.blk k _ h1
             simp only [hbk] at hbl
             obtain ⟨arr, e3, g1, g2, g3, g4, g5⟩ := hbl
             have hfit : (o1 + len) * sz <= ln * sz := Nat.mul_le_mul_right _ hle
             have hmul : (o1 + len) * sz = o1 * sz + len * sz := Nat.add_mul _ _ _
             have hsc : ∀ v ∈ (Builtin.zeroCells zv.cells len).toList, Scalar v := by
              have hzs := all2_scalar (zero_cells (P := P) (ψ := ψ) (S := S) (w := w) (hz _ _ hte))
              intro v hv
              obtain ⟨j, hj, ej⟩ := List.mem_iff_getElem.1 hv
              have hj2 : j < len * zv.cells.size := by simpa [size_zeroCells] using hj
              rcases Nat.eq_zero_or_pos zv.cells.size with hzz | hzz
              . rw [hzz] at hj2; omega
              have hg := zeroCells_get hzz hj2
              rw [<- Array.getElem?_toList, List.getElem?_eq_getElem hj, ej] at hg
              refine hzs v ?_
              rw [<- Array.getElem?_toList] at hg
              exact List.mem_of_getElem? hg.symm
             obtain ⟨w2, arr2, p1, p2, p3, p4, p5, p6, p7, p8, p9⟩ := run_storeCells (P := P) (off := off) (Builtin.zeroCells zv.cells len).toList 0 w arr g1 (by
              right; rw [Array.length_toList, size_zeroCells, hzc]; omega) hsc
             have hrw : (Builtin.clear_ #[t] o.type #[v1]).run P w = .ok (.tuple #[]) w2 := by
              rw [hv1]
              obtain ⟨q, rfl⟩ : ∃ q, len = q + 1 := ⟨len - 1, by omega⟩
              simp [Builtin.clear_, hund, hzero, p1]
             obtain ⟨r1, r2⟩ := hrel.write (w' := w2) (blk := .row sz ln (clrRow f o1 len ds)) h1 (by simp only [hbk]; trivial) p5 p6 p7 p8 p9 (fun hl => by
              refine ⟨arr2, e3, p2, by omega, by omega, fun i hi => ?_, fun i j hi hj => ?_⟩
              . unfold clrRow
                split
                . exact hdl
                . exact g4 i hi
              . have hb := row_bound (sz := sz) hi
                rw [Array.getD_eq_getD_getElem?, p4, Array.length_toList, size_zeroCells, hzc, Nat.add_zero]
                unfold clrRow
                by_cases hc : o1 <= i /\ i < o1 + len
                . rw [if_pos hc]
                  have e1 := row_bound (sz := sz) (show i - o1 < len by omega)
                  have e2 : i * sz = o1 * sz + (i - o1) * sz := by rw [<- Nat.add_mul]; congr 1; omega
                  rw [if_pos (by omega)]
                  have e4 : i * sz + j - off = (i - o1) * sz + j := by omega
                  rw [e4, Array.getElem?_toList, zeroCells_get (by omega) (by rw [hzc]; omega), hzc]
                  have e5 : ((i - o1) * sz + j) % sz = j := by rw [Nat.mul_comm, Nat.mul_add_mod, Nat.mod_eq_of_lt hj]
                  rw [e5]
                  obtain ⟨y, y1, y2⟩ := hds.get j (ds[j]'(by omega)) (by simp)
                  have e6 : ds.getD j (.v (.bool false)) = ds[j]'(by omega) := by simp [List.getD, List.getElem?_eq_getElem (show j < ds.length by omega)]
                  rw [Array.getElem?_toList] at y1
                  rw [e6, y1]
                  exact y2.later hl
                . rw [if_neg hc]
                  have hne : ¬ (off <= i * sz + j /\ i * sz + j < off + len * sz) := by
                   intro hin
                   rcases Nat.lt_or_ge i o1 with hlt | hge
                   . have := row_bound (sz := sz) hlt; omega
                   . have : o1 + len <= i := by omega
                     have := Nat.mul_le_mul_right sz this
                     omega
                  rw [if_neg hne, <- Array.getD_eq_getD_getElem?]
                  exact (g5 i j hi hj).later hl)
             exact OpOk.value (hrun _ hrw) r1 (htup _ _) hk r2
       . exact hk.elim
     . exact hk.elim
   . exact hk.elim
 . exact hk.elim
end
end Go.Sx
